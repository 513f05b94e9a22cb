import Derived.Test.YtfkilmmldjajmaaSxT
import Derived.Test.YtfkilmmldjajmaaSxQ
import Derived.Test.YtfkilmmldjajmaaSxV2
import Derived.Test.YtfkilmmldjajmaaSxW
import Derived.KernelRfl
import Derived.Test.YtfkilmmldjajmaaProg
set_option linter.unusedVariables false
set_option maxRecDepth 100000
namespace Go.Proofs.YtfkilmmldjajmaaSx
open Go Go.Proofs
theorem T_check : T.check Try.prog = true := by kernel_rfl
theorem T_ok : TOk Try.prog T := TT.check_ok T_check
theorem mixed : Try.prog.follows .mixedOrders = true := by kernel_rfl
def evermorelaw_list.f (k : Nat) (l0 : List (Int)) : Option (List Int) :=
 if 0 ≤ (↑l0.length : Int) then
 if (↑l0.length : Int) ≤ Go.IntKind.i64.wrap ((↑l0.length : Int) + 3) then
  if Go.IntKind.i64.wrap ((↑l0.length : Int) + 3) * ((↑8 : Int) + 1) ≤ 281474976710656 then
   some (Go.Proofs.YtfkilmmldjajmaaSx.cpy (List.replicate (↑l0.length : Int).toNat (Int.ofNat 0)) l0 0 (List.replicate (↑l0.length : Int).toNat (Int.ofNat 0)).length)
   else none
  else none
 else none

noncomputable def evermorelaw_list.body : Code := fnBody Try.f78
def evermorelaw_list.ti : Tm := ⟨[(0, .p (.slice (.int .i64)))], []⟩
def evermorelaw_list.to : Tm := ⟨[(0, .own 0)], [.own (.int .i64)]⟩
def evermorelaw_list.rs (r : (List Int)) : List Dat := [⟨(.slice (.int .i64)), r⟩]
def evermorelaw_list.out (ds : List Dat) : Option ((List Int)) := pop (.slice (.int .i64)) ds fun x0 ds => popN ds (some (x0))
def evermorelaw_list.c (k : Nat) (ds : List Dat) : Option ((List Int)) := pop (.slice (.int .i64)) ds fun x0 ds => popN ds (evermorelaw_list.f k x0)
def evermorelaw_list.g : Nat → List Dat → Option ((List Int))
 | 0, _ => none
 | k + 1, ds => evermorelaw_list.c k ds
def evermorelaw_list.env (k : Nat) : Nat → List SV → List Chunk → KT ((List Int)) → Option ((List Int)) := env0
def evermorelaw_list.tbl : List (Nat × Tm × (Nat → List Dat → Option ((List Int)))) := []
noncomputable abbrev evermorelaw_list.R (k : Nat) := run T (evermorelaw_list.env k) Try.f78.ntmps (cutE 0 evermorelaw_list.tbl k) (finE 0 evermorelaw_list.to evermorelaw_list.out) (fnRes Try.f78) [] 100000 true
theorem evermorelaw_list.e (k : Nat) (x0 : (List Int)) : evermorelaw_list.f k x0 = evermorelaw_list.R k ([.code evermorelaw_list.body]) (evermorelaw_list.ti.fill [⟨(.slice (.int .i64)), x0⟩]) := by kernel_rfl
theorem evermorelaw_list.h (k : Nat) (ds : List Dat) (r : (List Int)) (h : evermorelaw_list.g k ds = some r) : ∃ k', k' < k ∧ evermorelaw_list.R k' ([.code evermorelaw_list.body]) (evermorelaw_list.ti.fill ds) = some r := by
  cases k with
  | zero => cases (show none = some r from h)
  | succ k =>
  replace h : evermorelaw_list.c k ds = some r := h
  unfold evermorelaw_list.c at h
  obtain ⟨x0, d0, rfl, h0⟩ := pop_some h
  obtain ⟨rfl, g⟩ := popN_some h0
  exact ⟨k, Nat.lt_succ_self k, (evermorelaw_list.e k x0).symm.trans g⟩
theorem evermorelaw_list.o (ds : List Dat) (r : (List Int)) (h : evermorelaw_list.out ds = some r) : ds = evermorelaw_list.rs r := by
  unfold evermorelaw_list.out at h
  obtain ⟨x0, d0, rfl, h0⟩ := pop_some h
  obtain ⟨rfl, g⟩ := popN_some h0
  cases g
  rfl
theorem evermorelaw_list.fn : FnOk Try.prog 78 Try.f78 evermorelaw_list.body Try.f78.ntmps 1 (fnRes Try.f78) :=
  fnOk_of (by kernel_rfl) (by kernel_rfl) (by kernel_rfl) (by kernel_rfl)
theorem evermorelaw_list.con' : ∀ k ds r, evermorelaw_list.g k ds = some r → Con Try.prog 78 1 evermorelaw_list.ti evermorelaw_list.to ds (evermorelaw_list.rs r) :=
  fun_ok (T := T) T_ok mixed evermorelaw_list.fn (env := evermorelaw_list.env) (tbl := evermorelaw_list.tbl) (gOut := evermorelaw_list.out) (nin := 0) (cuts := []) (fuel := 100000) rfl (by kernel_rfl) (by kernel_rfl) (by kernel_rfl) (fun x hx => by simp [evermorelaw_list.tbl] at hx) evermorelaw_list.o evermorelaw_list.h (fun k _ => by unfold evermorelaw_list.env; exact env0_ok)
theorem evermorelaw_list.con (k : Nat) {x0 : (List Int)} (r : (List Int)) (h : evermorelaw_list.f k x0 = some r) : Con Try.prog 78 1 evermorelaw_list.ti evermorelaw_list.to [⟨(.slice (.int .i64)), x0⟩] (evermorelaw_list.rs r) :=
  evermorelaw_list.con' (k + 1) _ r (by show evermorelaw_list.c k _ = some r; unfold evermorelaw_list.c; simp only [pop_self, popN]; exact h)
def evermorelaw_auto.f (k : Nat) (a0 : (Int × (Int × (List (Int) × (List ((Int × (Int × (Int × Unit)))) × (List (Int) × Unit)))))) : Option (Int × Int × List Int × List (Int × Int × Int × Unit) × List Int) :=
 (evermorelaw_list.f k a0.snd.snd.fst).bind fun r1 =>
  (evermorelaw_list.f k a0.snd.snd.snd.snd.fst).bind fun r2 =>
   if Go.Proofs.YtfkilmmldjajmaaSx.fitsIn ([] ++ a0.snd.snd.snd.fst).length 24 = true then
   some (a0.fst, a0.snd.fst, r1, [] ++ a0.snd.snd.snd.fst, r2)
   else none

noncomputable def evermorelaw_auto.body : Code := fnBody Try.f51
def evermorelaw_auto.ti : Tm := ⟨[(0, .p (.pair (.int .i64) (.pair (.int .i64) (.pair (.slice (.int .i64)) (.pair (.slice (.pair (.int .i64) (.pair (.int .i64) (.pair (.int .i64) .unit)))) (.pair (.slice (.int .i64)) .unit))))))], []⟩
def evermorelaw_auto.to : Tm := ⟨[(0, .agg [.p (.int .i64), .p (.int .i64), .own 0, .own 1, .own 2])], [.own (.int .i64), .own (.pair (.int .i64) (.pair (.int .i64) (.pair (.int .i64) .unit))), .own (.int .i64)]⟩
def evermorelaw_auto.rs (r : Int × Int × (List Int) × (List (Int × (Int × (Int × Unit)))) × (List Int)) : List Dat := [⟨(.int .i64), r.1⟩, ⟨(.int .i64), r.2.1⟩, ⟨(.slice (.int .i64)), r.2.2.1⟩, ⟨(.slice (.pair (.int .i64) (.pair (.int .i64) (.pair (.int .i64) .unit)))), r.2.2.2.1⟩, ⟨(.slice (.int .i64)), r.2.2.2.2⟩]
def evermorelaw_auto.out (ds : List Dat) : Option (Int × Int × (List Int) × (List (Int × (Int × (Int × Unit)))) × (List Int)) := pop (.int .i64) ds fun x0 ds => pop (.int .i64) ds fun x1 ds => pop (.slice (.int .i64)) ds fun x2 ds => pop (.slice (.pair (.int .i64) (.pair (.int .i64) (.pair (.int .i64) .unit)))) ds fun x3 ds => pop (.slice (.int .i64)) ds fun x4 ds => popN ds (some (x0, x1, x2, x3, x4))
def evermorelaw_auto.c (k : Nat) (ds : List Dat) : Option (Int × Int × (List Int) × (List (Int × (Int × (Int × Unit)))) × (List Int)) := pop (.pair (.int .i64) (.pair (.int .i64) (.pair (.slice (.int .i64)) (.pair (.slice (.pair (.int .i64) (.pair (.int .i64) (.pair (.int .i64) .unit)))) (.pair (.slice (.int .i64)) .unit))))) ds fun x0 ds => popN ds (evermorelaw_auto.f k x0)
def evermorelaw_auto.g : Nat → List Dat → Option (Int × Int × (List Int) × (List (Int × (Int × (Int × Unit)))) × (List Int))
 | 0, _ => none
 | k + 1, ds => evermorelaw_auto.c k ds
def evermorelaw_auto.env (k : Nat) : Nat → List SV → List Chunk → KT (Int × Int × (List Int) × (List (Int × (Int × (Int × Unit)))) × (List Int)) → Option (Int × Int × (List Int) × (List (Int × (Int × (Int × Unit)))) × (List Int)) := (envC 78 1 evermorelaw_list.ti evermorelaw_list.to (fun ds K => pop (.slice (.int .i64)) ds fun x0 ds => popN ds ((evermorelaw_list.f k x0).bind fun r => K (evermorelaw_list.rs r))) env0)
def evermorelaw_auto.tbl : List (Nat × Tm × (Nat → List Dat → Option (Int × Int × (List Int) × (List (Int × (Int × (Int × Unit)))) × (List Int)))) := []
noncomputable abbrev evermorelaw_auto.R (k : Nat) := run T (evermorelaw_auto.env k) Try.f51.ntmps (cutE 0 evermorelaw_auto.tbl k) (finE 0 evermorelaw_auto.to evermorelaw_auto.out) (fnRes Try.f51) [] 100000 true
theorem evermorelaw_auto.e (k : Nat) (x0 : (Int × (Int × ((List Int) × ((List (Int × (Int × (Int × Unit)))) × ((List Int) × Unit)))))) : evermorelaw_auto.f k x0 = evermorelaw_auto.R k ([.code evermorelaw_auto.body]) (evermorelaw_auto.ti.fill [⟨(.pair (.int .i64) (.pair (.int .i64) (.pair (.slice (.int .i64)) (.pair (.slice (.pair (.int .i64) (.pair (.int .i64) (.pair (.int .i64) .unit)))) (.pair (.slice (.int .i64)) .unit))))), x0⟩]) := by kernel_rfl
theorem evermorelaw_auto.h (k : Nat) (ds : List Dat) (r : Int × Int × (List Int) × (List (Int × (Int × (Int × Unit)))) × (List Int)) (h : evermorelaw_auto.g k ds = some r) : ∃ k', k' < k ∧ evermorelaw_auto.R k' ([.code evermorelaw_auto.body]) (evermorelaw_auto.ti.fill ds) = some r := by
  cases k with
  | zero => cases (show none = some r from h)
  | succ k =>
  replace h : evermorelaw_auto.c k ds = some r := h
  unfold evermorelaw_auto.c at h
  obtain ⟨x0, d0, rfl, h0⟩ := pop_some h
  obtain ⟨rfl, g⟩ := popN_some h0
  exact ⟨k, Nat.lt_succ_self k, (evermorelaw_auto.e k x0).symm.trans g⟩
theorem evermorelaw_auto.o (ds : List Dat) (r : Int × Int × (List Int) × (List (Int × (Int × (Int × Unit)))) × (List Int)) (h : evermorelaw_auto.out ds = some r) : ds = evermorelaw_auto.rs r := by
  unfold evermorelaw_auto.out at h
  obtain ⟨x0, d0, rfl, h0⟩ := pop_some h
  obtain ⟨x1, d1, rfl, h1⟩ := pop_some h0
  obtain ⟨x2, d2, rfl, h2⟩ := pop_some h1
  obtain ⟨x3, d3, rfl, h3⟩ := pop_some h2
  obtain ⟨x4, d4, rfl, h4⟩ := pop_some h3
  obtain ⟨rfl, g⟩ := popN_some h4
  cases g
  rfl
theorem evermorelaw_auto.fn : FnOk Try.prog 51 Try.f51 evermorelaw_auto.body Try.f51.ntmps 1 (fnRes Try.f51) :=
  fnOk_of (by kernel_rfl) (by kernel_rfl) (by kernel_rfl) (by kernel_rfl)
theorem evermorelaw_auto.con' : ∀ k ds r, evermorelaw_auto.g k ds = some r → Con Try.prog 51 1 evermorelaw_auto.ti evermorelaw_auto.to ds (evermorelaw_auto.rs r) :=
  fun_ok (T := T) T_ok mixed evermorelaw_auto.fn (env := evermorelaw_auto.env) (tbl := evermorelaw_auto.tbl) (gOut := evermorelaw_auto.out) (nin := 0) (cuts := []) (fuel := 100000) rfl (by kernel_rfl) (by kernel_rfl) (by kernel_rfl) (fun x hx => by simp [evermorelaw_auto.tbl] at hx) evermorelaw_auto.o evermorelaw_auto.h (fun k _ => by unfold evermorelaw_auto.env; exact (envC_ok (fun ds K r h => by
    obtain ⟨x0, d0, rfl, h0⟩ := pop_some h
    obtain ⟨rfl, g⟩ := popN_some h0
    obtain ⟨r1, h1, h2⟩ := bind_some g
    exact ⟨_, h2, evermorelaw_list.con k _ h1⟩) env0_ok))
theorem evermorelaw_auto.con (k : Nat) {x0 : (Int × (Int × ((List Int) × ((List (Int × (Int × (Int × Unit)))) × ((List Int) × Unit)))))} (r : Int × Int × (List Int) × (List (Int × (Int × (Int × Unit)))) × (List Int)) (h : evermorelaw_auto.f k x0 = some r) : Con Try.prog 51 1 evermorelaw_auto.ti evermorelaw_auto.to [⟨(.pair (.int .i64) (.pair (.int .i64) (.pair (.slice (.int .i64)) (.pair (.slice (.pair (.int .i64) (.pair (.int .i64) (.pair (.int .i64) .unit)))) (.pair (.slice (.int .i64)) .unit))))), x0⟩] (evermorelaw_auto.rs r) :=
  evermorelaw_auto.con' (k + 1) _ r (by show evermorelaw_auto.c k _ = some r; unfold evermorelaw_auto.c; simp only [pop_self, popN]; exact h)
def buchi_Check_1.f (k : Nat) (q0 : Int) (x1_0 : Int) (x1_1 : Int) (x1_2 : List (Int)) (x1_3 : List ((Int × (Int × (Int × Unit))))) (x1_4 : List (Int)) : Option (Bool × Int × Int × List Int × List (Int × Int × Int × Unit) × List Int) :=
 if q0 < 0 then
  some (true, x1_0, x1_1, x1_2, x1_3, x1_4)
 else
  some (decide (x1_1 ≤ q0), x1_0, x1_1, x1_2, x1_3, x1_4)

noncomputable def buchi_Check_1.body : Code := fnBody Try.f136
def buchi_Check_1.ti : Tm := ⟨[(0, .p (.int .i64)), (1, .ptr 0 0)], [.box [.p (.int .i64), .p (.int .i64), .p (.slice (.int .i64)), .p (.slice (.pair (.int .i64) (.pair (.int .i64) (.pair (.int .i64) .unit)))), .p (.slice (.int .i64))] 78]⟩
def buchi_Check_1.to : Tm := ⟨[(0, .p .bool)], [.box [.p (.int .i64), .p (.int .i64), .p (.slice (.int .i64)), .p (.slice (.pair (.int .i64) (.pair (.int .i64) (.pair (.int .i64) .unit)))), .p (.slice (.int .i64))] 78]⟩
def buchi_Check_1.rs (r : Bool × Int × Int × (List Int) × (List (Int × (Int × (Int × Unit)))) × (List Int)) : List Dat := [⟨.bool, r.1⟩, ⟨(.int .i64), r.2.1⟩, ⟨(.int .i64), r.2.2.1⟩, ⟨(.slice (.int .i64)), r.2.2.2.1⟩, ⟨(.slice (.pair (.int .i64) (.pair (.int .i64) (.pair (.int .i64) .unit)))), r.2.2.2.2.1⟩, ⟨(.slice (.int .i64)), r.2.2.2.2.2⟩]
def buchi_Check_1.out (ds : List Dat) : Option (Bool × Int × Int × (List Int) × (List (Int × (Int × (Int × Unit)))) × (List Int)) := pop .bool ds fun x0 ds => pop (.int .i64) ds fun x1 ds => pop (.int .i64) ds fun x2 ds => pop (.slice (.int .i64)) ds fun x3 ds => pop (.slice (.pair (.int .i64) (.pair (.int .i64) (.pair (.int .i64) .unit)))) ds fun x4 ds => pop (.slice (.int .i64)) ds fun x5 ds => popN ds (some (x0, x1, x2, x3, x4, x5))
def buchi_Check_1.c (k : Nat) (ds : List Dat) : Option (Bool × Int × Int × (List Int) × (List (Int × (Int × (Int × Unit)))) × (List Int)) := pop (.int .i64) ds fun x0 ds => pop (.int .i64) ds fun x1 ds => pop (.int .i64) ds fun x2 ds => pop (.slice (.int .i64)) ds fun x3 ds => pop (.slice (.pair (.int .i64) (.pair (.int .i64) (.pair (.int .i64) .unit)))) ds fun x4 ds => pop (.slice (.int .i64)) ds fun x5 ds => popN ds (buchi_Check_1.f k x0 x1 x2 x3 x4 x5)
def buchi_Check_1.g : Nat → List Dat → Option (Bool × Int × Int × (List Int) × (List (Int × (Int × (Int × Unit)))) × (List Int))
 | 0, _ => none
 | k + 1, ds => buchi_Check_1.c k ds
def buchi_Check_1.env (k : Nat) : Nat → List SV → List Chunk → KT (Bool × Int × Int × (List Int) × (List (Int × (Int × (Int × Unit)))) × (List Int)) → Option (Bool × Int × Int × (List Int) × (List (Int × (Int × (Int × Unit)))) × (List Int)) := env0
def buchi_Check_1.tbl : List (Nat × Tm × (Nat → List Dat → Option (Bool × Int × Int × (List Int) × (List (Int × (Int × (Int × Unit)))) × (List Int)))) := []
noncomputable abbrev buchi_Check_1.R (k : Nat) := run T (buchi_Check_1.env k) Try.f136.ntmps (cutE 1 buchi_Check_1.tbl k) (finE 1 buchi_Check_1.to buchi_Check_1.out) (fnRes Try.f136) [] 100000 true
theorem buchi_Check_1.e (k : Nat) (x0 : Int) (x1 : Int) (x2 : Int) (x3 : (List Int)) (x4 : (List (Int × (Int × (Int × Unit))))) (x5 : (List Int)) : buchi_Check_1.f k x0 x1 x2 x3 x4 x5 = buchi_Check_1.R k ([.code buchi_Check_1.body]) (buchi_Check_1.ti.fill [⟨(.int .i64), x0⟩, ⟨(.int .i64), x1⟩, ⟨(.int .i64), x2⟩, ⟨(.slice (.int .i64)), x3⟩, ⟨(.slice (.pair (.int .i64) (.pair (.int .i64) (.pair (.int .i64) .unit)))), x4⟩, ⟨(.slice (.int .i64)), x5⟩]) := by kernel_rfl
theorem buchi_Check_1.h (k : Nat) (ds : List Dat) (r : Bool × Int × Int × (List Int) × (List (Int × (Int × (Int × Unit)))) × (List Int)) (h : buchi_Check_1.g k ds = some r) : ∃ k', k' < k ∧ buchi_Check_1.R k' ([.code buchi_Check_1.body]) (buchi_Check_1.ti.fill ds) = some r := by
  cases k with
  | zero => cases (show none = some r from h)
  | succ k =>
  replace h : buchi_Check_1.c k ds = some r := h
  unfold buchi_Check_1.c at h
  obtain ⟨x0, d0, rfl, h0⟩ := pop_some h
  obtain ⟨x1, d1, rfl, h1⟩ := pop_some h0
  obtain ⟨x2, d2, rfl, h2⟩ := pop_some h1
  obtain ⟨x3, d3, rfl, h3⟩ := pop_some h2
  obtain ⟨x4, d4, rfl, h4⟩ := pop_some h3
  obtain ⟨x5, d5, rfl, h5⟩ := pop_some h4
  obtain ⟨rfl, g⟩ := popN_some h5
  exact ⟨k, Nat.lt_succ_self k, (buchi_Check_1.e k x0 x1 x2 x3 x4 x5).symm.trans g⟩
theorem buchi_Check_1.o (ds : List Dat) (r : Bool × Int × Int × (List Int) × (List (Int × (Int × (Int × Unit)))) × (List Int)) (h : buchi_Check_1.out ds = some r) : ds = buchi_Check_1.rs r := by
  unfold buchi_Check_1.out at h
  obtain ⟨x0, d0, rfl, h0⟩ := pop_some h
  obtain ⟨x1, d1, rfl, h1⟩ := pop_some h0
  obtain ⟨x2, d2, rfl, h2⟩ := pop_some h1
  obtain ⟨x3, d3, rfl, h3⟩ := pop_some h2
  obtain ⟨x4, d4, rfl, h4⟩ := pop_some h3
  obtain ⟨x5, d5, rfl, h5⟩ := pop_some h4
  obtain ⟨rfl, g⟩ := popN_some h5
  cases g
  rfl
theorem buchi_Check_1.fn : FnOk Try.prog 136 Try.f136 buchi_Check_1.body Try.f136.ntmps 2 (fnRes Try.f136) :=
  fnOk_of (by kernel_rfl) (by kernel_rfl) (by kernel_rfl) (by kernel_rfl)
theorem buchi_Check_1.con' : ∀ k ds r, buchi_Check_1.g k ds = some r → Con Try.prog 136 2 buchi_Check_1.ti buchi_Check_1.to ds (buchi_Check_1.rs r) :=
  fun_ok (T := T) T_ok mixed buchi_Check_1.fn (env := buchi_Check_1.env) (tbl := buchi_Check_1.tbl) (gOut := buchi_Check_1.out) (nin := 1) (cuts := []) (fuel := 100000) rfl (by kernel_rfl) (by kernel_rfl) (by kernel_rfl) (fun x hx => by simp [buchi_Check_1.tbl] at hx) buchi_Check_1.o buchi_Check_1.h (fun k _ => by unfold buchi_Check_1.env; exact env0_ok)
theorem buchi_Check_1.con (k : Nat) {x0 : Int} {x1 : Int} {x2 : Int} {x3 : (List Int)} {x4 : (List (Int × (Int × (Int × Unit))))} {x5 : (List Int)} (r : Bool × Int × Int × (List Int) × (List (Int × (Int × (Int × Unit)))) × (List Int)) (h : buchi_Check_1.f k x0 x1 x2 x3 x4 x5 = some r) : Con Try.prog 136 2 buchi_Check_1.ti buchi_Check_1.to [⟨(.int .i64), x0⟩, ⟨(.int .i64), x1⟩, ⟨(.int .i64), x2⟩, ⟨(.slice (.int .i64)), x3⟩, ⟨(.slice (.pair (.int .i64) (.pair (.int .i64) (.pair (.int .i64) .unit)))), x4⟩, ⟨(.slice (.int .i64)), x5⟩] (buchi_Check_1.rs r) :=
  buchi_Check_1.con' (k + 1) _ r (by show buchi_Check_1.c k _ = some r; unfold buchi_Check_1.c; simp only [pop_self, popN]; exact h)
mutual
def slices_IndexFunc___int_int_.l2 : Nat → List (Int) → Int → Int → Int → Int → List (Int) → List ((Int × (Int × (Int × Unit)))) → List (Int) → Option (Int × Int × Int × List Int × List (Int × Int × Int × Unit) × List Int)
 | 0, _, _, _, _, _, _, _, _ => none
 | k + 1, s0, x7, x8, c0_0, c0_1, c0_2, c0_3, c0_4 =>
  if x8 < x7 then
   if 0 ≤ x8 then
   if x8 < (↑s0.length : Int) then
    (buchi_Check_1.f k (Go.Proofs.YtfkilmmldjajmaaSx.rd (Int.ofNat 0) s0 x8) c0_0 c0_1 c0_2 c0_3 c0_4).bind fun r5 =>
      if r5.fst = true then
       some (x8, r5.snd.fst, r5.snd.snd.fst, r5.snd.snd.snd.fst, r5.snd.snd.snd.snd.fst, r5.snd.snd.snd.snd.snd)
      else
       slices_IndexFunc___int_int_.l2 k s0 x7 (Go.IntKind.i64.wrap (x8 + 1)) r5.snd.fst r5.snd.snd.fst r5.snd.snd.snd.fst r5.snd.snd.snd.snd.fst r5.snd.snd.snd.snd.snd
    else none
   else none
  else
   some (-1, c0_0, c0_1, c0_2, c0_3, c0_4)
end
def slices_IndexFunc___int_int_.f (k : Nat) (s0 : List (Int)) (c0_0 : Int) (c0_1 : Int) (c0_2 : List (Int)) (c0_3 : List ((Int × (Int × (Int × Unit))))) (c0_4 : List (Int)) : Option (Int × Int × Int × List Int × List (Int × Int × Int × Unit) × List Int) :=
 slices_IndexFunc___int_int_.l2 k s0 ((↑s0.length : Int)) 0 c0_0 c0_1 c0_2 c0_3 c0_4

noncomputable def slices_IndexFunc___int_int_.body : Code := fnBody Try.f146
def slices_IndexFunc___int_int_.ti : Tm := ⟨[(0, .p (.slice (.int .i64))), (1, .fn 136 [.ptr 0 0])], [.box [.p (.int .i64), .p (.int .i64), .p (.slice (.int .i64)), .p (.slice (.pair (.int .i64) (.pair (.int .i64) (.pair (.int .i64) .unit)))), .p (.slice (.int .i64))] 78]⟩
def slices_IndexFunc___int_int_.to : Tm := ⟨[(0, .p (.int .i64))], [.box [.p (.int .i64), .p (.int .i64), .p (.slice (.int .i64)), .p (.slice (.pair (.int .i64) (.pair (.int .i64) (.pair (.int .i64) .unit)))), .p (.slice (.int .i64))] 78]⟩
def slices_IndexFunc___int_int_.rs (r : Int × Int × Int × (List Int) × (List (Int × (Int × (Int × Unit)))) × (List Int)) : List Dat := [⟨(.int .i64), r.1⟩, ⟨(.int .i64), r.2.1⟩, ⟨(.int .i64), r.2.2.1⟩, ⟨(.slice (.int .i64)), r.2.2.2.1⟩, ⟨(.slice (.pair (.int .i64) (.pair (.int .i64) (.pair (.int .i64) .unit)))), r.2.2.2.2.1⟩, ⟨(.slice (.int .i64)), r.2.2.2.2.2⟩]
def slices_IndexFunc___int_int_.out (ds : List Dat) : Option (Int × Int × Int × (List Int) × (List (Int × (Int × (Int × Unit)))) × (List Int)) := pop (.int .i64) ds fun x0 ds => pop (.int .i64) ds fun x1 ds => pop (.int .i64) ds fun x2 ds => pop (.slice (.int .i64)) ds fun x3 ds => pop (.slice (.pair (.int .i64) (.pair (.int .i64) (.pair (.int .i64) .unit)))) ds fun x4 ds => pop (.slice (.int .i64)) ds fun x5 ds => popN ds (some (x0, x1, x2, x3, x4, x5))
def slices_IndexFunc___int_int_.c (k : Nat) (ds : List Dat) : Option (Int × Int × Int × (List Int) × (List (Int × (Int × (Int × Unit)))) × (List Int)) := pop (.slice (.int .i64)) ds fun x0 ds => pop (.int .i64) ds fun x1 ds => pop (.int .i64) ds fun x2 ds => pop (.slice (.int .i64)) ds fun x3 ds => pop (.slice (.pair (.int .i64) (.pair (.int .i64) (.pair (.int .i64) .unit)))) ds fun x4 ds => pop (.slice (.int .i64)) ds fun x5 ds => popN ds (slices_IndexFunc___int_int_.f k x0 x1 x2 x3 x4 x5)
def slices_IndexFunc___int_int_.g : Nat → List Dat → Option (Int × Int × Int × (List Int) × (List (Int × (Int × (Int × Unit)))) × (List Int))
 | 0, _ => none
 | k + 1, ds => slices_IndexFunc___int_int_.c k ds
def slices_IndexFunc___int_int_.env (k : Nat) : Nat → List SV → List Chunk → KT (Int × Int × Int × (List Int) × (List (Int × (Int × (Int × Unit)))) × (List Int)) → Option (Int × Int × Int × (List Int) × (List (Int × (Int × (Int × Unit)))) × (List Int)) := (envC 136 2 buchi_Check_1.ti buchi_Check_1.to (fun ds K => pop (.int .i64) ds fun x0 ds => pop (.int .i64) ds fun x1 ds => pop (.int .i64) ds fun x2 ds => pop (.slice (.int .i64)) ds fun x3 ds => pop (.slice (.pair (.int .i64) (.pair (.int .i64) (.pair (.int .i64) .unit)))) ds fun x4 ds => pop (.slice (.int .i64)) ds fun x5 ds => popN ds ((buchi_Check_1.f k x0 x1 x2 x3 x4 x5).bind fun r => K (buchi_Check_1.rs r))) env0)
def slices_IndexFunc___int_int_.t5 : Tm := ⟨[(0, .p (.slice (.int .i64))), (1, .fn 136 [.ptr 0 0]), (7, .p (.int .i64)), (8, .p (.int .i64))], [.box [.p (.int .i64), .p (.int .i64), .p (.slice (.int .i64)), .p (.slice (.pair (.int .i64) (.pair (.int .i64) (.pair (.int .i64) .unit)))), .p (.slice (.int .i64))] 78]⟩
def slices_IndexFunc___int_int_.c5 (k : Nat) (ds : List Dat) : Option (Int × Int × Int × (List Int) × (List (Int × (Int × (Int × Unit)))) × (List Int)) := pop (.slice (.int .i64)) ds fun x0 ds => pop (.int .i64) ds fun x1 ds => pop (.int .i64) ds fun x2 ds => pop (.int .i64) ds fun x3 ds => pop (.int .i64) ds fun x4 ds => pop (.slice (.int .i64)) ds fun x5 ds => pop (.slice (.pair (.int .i64) (.pair (.int .i64) (.pair (.int .i64) .unit)))) ds fun x6 ds => pop (.slice (.int .i64)) ds fun x7 ds => popN ds (slices_IndexFunc___int_int_.l2 k x0 x1 x2 x3 x4 x5 x6 x7)
def slices_IndexFunc___int_int_.tbl : List (Nat × Tm × (Nat → List Dat → Option (Int × Int × Int × (List Int) × (List (Int × (Int × (Int × Unit)))) × (List Int)))) := [(5, slices_IndexFunc___int_int_.t5, slices_IndexFunc___int_int_.c5)]
noncomputable abbrev slices_IndexFunc___int_int_.R (k : Nat) := run T (slices_IndexFunc___int_int_.env k) Try.f146.ntmps (cutE 1 slices_IndexFunc___int_int_.tbl k) (finE 1 slices_IndexFunc___int_int_.to slices_IndexFunc___int_int_.out) (fnRes Try.f146) [] 100000 true
theorem slices_IndexFunc___int_int_.e5 (k : Nat) (x0 : (List Int)) (x1 : Int) (x2 : Int) (x3 : Int) (x4 : Int) (x5 : (List Int)) (x6 : (List (Int × (Int × (Int × Unit))))) (x7 : (List Int)) : slices_IndexFunc___int_int_.l2 (k + 1) x0 x1 x2 x3 x4 x5 x6 x7 = slices_IndexFunc___int_int_.R k (start (stackOf 5 slices_IndexFunc___int_int_.body)) (slices_IndexFunc___int_int_.t5.fill [⟨(.slice (.int .i64)), x0⟩, ⟨(.int .i64), x1⟩, ⟨(.int .i64), x2⟩, ⟨(.int .i64), x3⟩, ⟨(.int .i64), x4⟩, ⟨(.slice (.int .i64)), x5⟩, ⟨(.slice (.pair (.int .i64) (.pair (.int .i64) (.pair (.int .i64) .unit)))), x6⟩, ⟨(.slice (.int .i64)), x7⟩]) := by kernel_rfl
theorem slices_IndexFunc___int_int_.s5 : stackAt 5 slices_IndexFunc___int_int_.body [] = some (stackOf 5 slices_IndexFunc___int_int_.body) := by kernel_rfl
theorem slices_IndexFunc___int_int_.h5 (k : Nat) (ds : List Dat) (r : Int × Int × Int × (List Int) × (List (Int × (Int × (Int × Unit)))) × (List Int)) (h : slices_IndexFunc___int_int_.c5 k ds = some r) : ∃ k', k' < k ∧ ∃ s, stackAt 5 slices_IndexFunc___int_int_.body [] = some s ∧ slices_IndexFunc___int_int_.R k' (start s) (slices_IndexFunc___int_int_.t5.fill ds) = some r := by
  unfold slices_IndexFunc___int_int_.c5 at h
  obtain ⟨x0, d0, rfl, h0⟩ := pop_some h
  obtain ⟨x1, d1, rfl, h1⟩ := pop_some h0
  obtain ⟨x2, d2, rfl, h2⟩ := pop_some h1
  obtain ⟨x3, d3, rfl, h3⟩ := pop_some h2
  obtain ⟨x4, d4, rfl, h4⟩ := pop_some h3
  obtain ⟨x5, d5, rfl, h5⟩ := pop_some h4
  obtain ⟨x6, d6, rfl, h6⟩ := pop_some h5
  obtain ⟨x7, d7, rfl, h7⟩ := pop_some h6
  obtain ⟨rfl, g⟩ := popN_some h7
  cases k with
  | zero => cases (show none = some r from g)
  | succ k => exact ⟨k, Nat.lt_succ_self k, _, slices_IndexFunc___int_int_.s5, (slices_IndexFunc___int_int_.e5 k x0 x1 x2 x3 x4 x5 x6 x7).symm.trans g⟩
theorem slices_IndexFunc___int_int_.e (k : Nat) (x0 : (List Int)) (x1 : Int) (x2 : Int) (x3 : (List Int)) (x4 : (List (Int × (Int × (Int × Unit))))) (x5 : (List Int)) : slices_IndexFunc___int_int_.f k x0 x1 x2 x3 x4 x5 = slices_IndexFunc___int_int_.R k ([.code slices_IndexFunc___int_int_.body]) (slices_IndexFunc___int_int_.ti.fill [⟨(.slice (.int .i64)), x0⟩, ⟨(.int .i64), x1⟩, ⟨(.int .i64), x2⟩, ⟨(.slice (.int .i64)), x3⟩, ⟨(.slice (.pair (.int .i64) (.pair (.int .i64) (.pair (.int .i64) .unit)))), x4⟩, ⟨(.slice (.int .i64)), x5⟩]) := by kernel_rfl
theorem slices_IndexFunc___int_int_.h (k : Nat) (ds : List Dat) (r : Int × Int × Int × (List Int) × (List (Int × (Int × (Int × Unit)))) × (List Int)) (h : slices_IndexFunc___int_int_.g k ds = some r) : ∃ k', k' < k ∧ slices_IndexFunc___int_int_.R k' ([.code slices_IndexFunc___int_int_.body]) (slices_IndexFunc___int_int_.ti.fill ds) = some r := by
  cases k with
  | zero => cases (show none = some r from h)
  | succ k =>
  replace h : slices_IndexFunc___int_int_.c k ds = some r := h
  unfold slices_IndexFunc___int_int_.c at h
  obtain ⟨x0, d0, rfl, h0⟩ := pop_some h
  obtain ⟨x1, d1, rfl, h1⟩ := pop_some h0
  obtain ⟨x2, d2, rfl, h2⟩ := pop_some h1
  obtain ⟨x3, d3, rfl, h3⟩ := pop_some h2
  obtain ⟨x4, d4, rfl, h4⟩ := pop_some h3
  obtain ⟨x5, d5, rfl, h5⟩ := pop_some h4
  obtain ⟨rfl, g⟩ := popN_some h5
  exact ⟨k, Nat.lt_succ_self k, (slices_IndexFunc___int_int_.e k x0 x1 x2 x3 x4 x5).symm.trans g⟩
theorem slices_IndexFunc___int_int_.o (ds : List Dat) (r : Int × Int × Int × (List Int) × (List (Int × (Int × (Int × Unit)))) × (List Int)) (h : slices_IndexFunc___int_int_.out ds = some r) : ds = slices_IndexFunc___int_int_.rs r := by
  unfold slices_IndexFunc___int_int_.out at h
  obtain ⟨x0, d0, rfl, h0⟩ := pop_some h
  obtain ⟨x1, d1, rfl, h1⟩ := pop_some h0
  obtain ⟨x2, d2, rfl, h2⟩ := pop_some h1
  obtain ⟨x3, d3, rfl, h3⟩ := pop_some h2
  obtain ⟨x4, d4, rfl, h4⟩ := pop_some h3
  obtain ⟨x5, d5, rfl, h5⟩ := pop_some h4
  obtain ⟨rfl, g⟩ := popN_some h5
  cases g
  rfl
theorem slices_IndexFunc___int_int_.fn : FnOk Try.prog 146 Try.f146 slices_IndexFunc___int_int_.body Try.f146.ntmps 2 (fnRes Try.f146) :=
  fnOk_of (by kernel_rfl) (by kernel_rfl) (by kernel_rfl) (by kernel_rfl)
theorem slices_IndexFunc___int_int_.con' : ∀ k ds r, slices_IndexFunc___int_int_.g k ds = some r → Con Try.prog 146 2 slices_IndexFunc___int_int_.ti slices_IndexFunc___int_int_.to ds (slices_IndexFunc___int_int_.rs r) :=
  fun_ok (T := T) T_ok mixed slices_IndexFunc___int_int_.fn (env := slices_IndexFunc___int_int_.env) (tbl := slices_IndexFunc___int_int_.tbl) (gOut := slices_IndexFunc___int_int_.out) (nin := 1) (cuts := []) (fuel := 100000) rfl (by kernel_rfl) (by kernel_rfl) (by kernel_rfl) (fun x hx => by
    simp only [slices_IndexFunc___int_int_.tbl, List.mem_cons, List.not_mem_nil, or_false] at hx
    subst hx
    · exact slices_IndexFunc___int_int_.h5
) slices_IndexFunc___int_int_.o slices_IndexFunc___int_int_.h (fun k _ => by unfold slices_IndexFunc___int_int_.env; exact (envC_ok (fun ds K r h => by
    obtain ⟨x0, d0, rfl, h0⟩ := pop_some h
    obtain ⟨x1, d1, rfl, h1⟩ := pop_some h0
    obtain ⟨x2, d2, rfl, h2⟩ := pop_some h1
    obtain ⟨x3, d3, rfl, h3⟩ := pop_some h2
    obtain ⟨x4, d4, rfl, h4⟩ := pop_some h3
    obtain ⟨x5, d5, rfl, h5⟩ := pop_some h4
    obtain ⟨rfl, g⟩ := popN_some h5
    obtain ⟨r1, h1, h2⟩ := bind_some g
    exact ⟨_, h2, buchi_Check_1.con k _ h1⟩) env0_ok))
theorem slices_IndexFunc___int_int_.con (k : Nat) {x0 : (List Int)} {x1 : Int} {x2 : Int} {x3 : (List Int)} {x4 : (List (Int × (Int × (Int × Unit))))} {x5 : (List Int)} (r : Int × Int × Int × (List Int) × (List (Int × (Int × (Int × Unit)))) × (List Int)) (h : slices_IndexFunc___int_int_.f k x0 x1 x2 x3 x4 x5 = some r) : Con Try.prog 146 2 slices_IndexFunc___int_int_.ti slices_IndexFunc___int_int_.to [⟨(.slice (.int .i64)), x0⟩, ⟨(.int .i64), x1⟩, ⟨(.int .i64), x2⟩, ⟨(.slice (.int .i64)), x3⟩, ⟨(.slice (.pair (.int .i64) (.pair (.int .i64) (.pair (.int .i64) .unit)))), x4⟩, ⟨(.slice (.int .i64)), x5⟩] (slices_IndexFunc___int_int_.rs r) :=
  slices_IndexFunc___int_int_.con' (k + 1) _ r (by show slices_IndexFunc___int_int_.c k _ = some r; unfold slices_IndexFunc___int_int_.c; simp only [pop_self, popN]; exact h)
def slices_ContainsFunc___int_int_.f (k : Nat) (s0 : List (Int)) (c0_0 : Int) (c0_1 : Int) (c0_2 : List (Int)) (c0_3 : List ((Int × (Int × (Int × Unit))))) (c0_4 : List (Int)) : Option (Bool × Int × Int × List Int × List (Int × Int × Int × Unit) × List Int) :=
 (slices_IndexFunc___int_int_.f k s0 c0_0 c0_1 c0_2 c0_3 c0_4).bind fun r1 =>
  some (decide (0 ≤ r1.fst), r1.snd.fst, r1.snd.snd.fst, r1.snd.snd.snd.fst, r1.snd.snd.snd.snd.fst, r1.snd.snd.snd.snd.snd)

noncomputable def slices_ContainsFunc___int_int_.body : Code := fnBody Try.f74
def slices_ContainsFunc___int_int_.ti : Tm := ⟨[(0, .p (.slice (.int .i64))), (1, .fn 136 [.ptr 0 0])], [.box [.p (.int .i64), .p (.int .i64), .p (.slice (.int .i64)), .p (.slice (.pair (.int .i64) (.pair (.int .i64) (.pair (.int .i64) .unit)))), .p (.slice (.int .i64))] 78]⟩
def slices_ContainsFunc___int_int_.to : Tm := ⟨[(0, .p .bool)], [.box [.p (.int .i64), .p (.int .i64), .p (.slice (.int .i64)), .p (.slice (.pair (.int .i64) (.pair (.int .i64) (.pair (.int .i64) .unit)))), .p (.slice (.int .i64))] 78]⟩
def slices_ContainsFunc___int_int_.rs (r : Bool × Int × Int × (List Int) × (List (Int × (Int × (Int × Unit)))) × (List Int)) : List Dat := [⟨.bool, r.1⟩, ⟨(.int .i64), r.2.1⟩, ⟨(.int .i64), r.2.2.1⟩, ⟨(.slice (.int .i64)), r.2.2.2.1⟩, ⟨(.slice (.pair (.int .i64) (.pair (.int .i64) (.pair (.int .i64) .unit)))), r.2.2.2.2.1⟩, ⟨(.slice (.int .i64)), r.2.2.2.2.2⟩]
def slices_ContainsFunc___int_int_.out (ds : List Dat) : Option (Bool × Int × Int × (List Int) × (List (Int × (Int × (Int × Unit)))) × (List Int)) := pop .bool ds fun x0 ds => pop (.int .i64) ds fun x1 ds => pop (.int .i64) ds fun x2 ds => pop (.slice (.int .i64)) ds fun x3 ds => pop (.slice (.pair (.int .i64) (.pair (.int .i64) (.pair (.int .i64) .unit)))) ds fun x4 ds => pop (.slice (.int .i64)) ds fun x5 ds => popN ds (some (x0, x1, x2, x3, x4, x5))
def slices_ContainsFunc___int_int_.c (k : Nat) (ds : List Dat) : Option (Bool × Int × Int × (List Int) × (List (Int × (Int × (Int × Unit)))) × (List Int)) := pop (.slice (.int .i64)) ds fun x0 ds => pop (.int .i64) ds fun x1 ds => pop (.int .i64) ds fun x2 ds => pop (.slice (.int .i64)) ds fun x3 ds => pop (.slice (.pair (.int .i64) (.pair (.int .i64) (.pair (.int .i64) .unit)))) ds fun x4 ds => pop (.slice (.int .i64)) ds fun x5 ds => popN ds (slices_ContainsFunc___int_int_.f k x0 x1 x2 x3 x4 x5)
def slices_ContainsFunc___int_int_.g : Nat → List Dat → Option (Bool × Int × Int × (List Int) × (List (Int × (Int × (Int × Unit)))) × (List Int))
 | 0, _ => none
 | k + 1, ds => slices_ContainsFunc___int_int_.c k ds
def slices_ContainsFunc___int_int_.env (k : Nat) : Nat → List SV → List Chunk → KT (Bool × Int × Int × (List Int) × (List (Int × (Int × (Int × Unit)))) × (List Int)) → Option (Bool × Int × Int × (List Int) × (List (Int × (Int × (Int × Unit)))) × (List Int)) := (envC 146 2 slices_IndexFunc___int_int_.ti slices_IndexFunc___int_int_.to (fun ds K => pop (.slice (.int .i64)) ds fun x0 ds => pop (.int .i64) ds fun x1 ds => pop (.int .i64) ds fun x2 ds => pop (.slice (.int .i64)) ds fun x3 ds => pop (.slice (.pair (.int .i64) (.pair (.int .i64) (.pair (.int .i64) .unit)))) ds fun x4 ds => pop (.slice (.int .i64)) ds fun x5 ds => popN ds ((slices_IndexFunc___int_int_.f k x0 x1 x2 x3 x4 x5).bind fun r => K (slices_IndexFunc___int_int_.rs r))) env0)
def slices_ContainsFunc___int_int_.tbl : List (Nat × Tm × (Nat → List Dat → Option (Bool × Int × Int × (List Int) × (List (Int × (Int × (Int × Unit)))) × (List Int)))) := []
noncomputable abbrev slices_ContainsFunc___int_int_.R (k : Nat) := run T (slices_ContainsFunc___int_int_.env k) Try.f74.ntmps (cutE 1 slices_ContainsFunc___int_int_.tbl k) (finE 1 slices_ContainsFunc___int_int_.to slices_ContainsFunc___int_int_.out) (fnRes Try.f74) [] 100000 true
theorem slices_ContainsFunc___int_int_.e (k : Nat) (x0 : (List Int)) (x1 : Int) (x2 : Int) (x3 : (List Int)) (x4 : (List (Int × (Int × (Int × Unit))))) (x5 : (List Int)) : slices_ContainsFunc___int_int_.f k x0 x1 x2 x3 x4 x5 = slices_ContainsFunc___int_int_.R k ([.code slices_ContainsFunc___int_int_.body]) (slices_ContainsFunc___int_int_.ti.fill [⟨(.slice (.int .i64)), x0⟩, ⟨(.int .i64), x1⟩, ⟨(.int .i64), x2⟩, ⟨(.slice (.int .i64)), x3⟩, ⟨(.slice (.pair (.int .i64) (.pair (.int .i64) (.pair (.int .i64) .unit)))), x4⟩, ⟨(.slice (.int .i64)), x5⟩]) := by kernel_rfl
theorem slices_ContainsFunc___int_int_.h (k : Nat) (ds : List Dat) (r : Bool × Int × Int × (List Int) × (List (Int × (Int × (Int × Unit)))) × (List Int)) (h : slices_ContainsFunc___int_int_.g k ds = some r) : ∃ k', k' < k ∧ slices_ContainsFunc___int_int_.R k' ([.code slices_ContainsFunc___int_int_.body]) (slices_ContainsFunc___int_int_.ti.fill ds) = some r := by
  cases k with
  | zero => cases (show none = some r from h)
  | succ k =>
  replace h : slices_ContainsFunc___int_int_.c k ds = some r := h
  unfold slices_ContainsFunc___int_int_.c at h
  obtain ⟨x0, d0, rfl, h0⟩ := pop_some h
  obtain ⟨x1, d1, rfl, h1⟩ := pop_some h0
  obtain ⟨x2, d2, rfl, h2⟩ := pop_some h1
  obtain ⟨x3, d3, rfl, h3⟩ := pop_some h2
  obtain ⟨x4, d4, rfl, h4⟩ := pop_some h3
  obtain ⟨x5, d5, rfl, h5⟩ := pop_some h4
  obtain ⟨rfl, g⟩ := popN_some h5
  exact ⟨k, Nat.lt_succ_self k, (slices_ContainsFunc___int_int_.e k x0 x1 x2 x3 x4 x5).symm.trans g⟩
theorem slices_ContainsFunc___int_int_.o (ds : List Dat) (r : Bool × Int × Int × (List Int) × (List (Int × (Int × (Int × Unit)))) × (List Int)) (h : slices_ContainsFunc___int_int_.out ds = some r) : ds = slices_ContainsFunc___int_int_.rs r := by
  unfold slices_ContainsFunc___int_int_.out at h
  obtain ⟨x0, d0, rfl, h0⟩ := pop_some h
  obtain ⟨x1, d1, rfl, h1⟩ := pop_some h0
  obtain ⟨x2, d2, rfl, h2⟩ := pop_some h1
  obtain ⟨x3, d3, rfl, h3⟩ := pop_some h2
  obtain ⟨x4, d4, rfl, h4⟩ := pop_some h3
  obtain ⟨x5, d5, rfl, h5⟩ := pop_some h4
  obtain ⟨rfl, g⟩ := popN_some h5
  cases g
  rfl
theorem slices_ContainsFunc___int_int_.fn : FnOk Try.prog 74 Try.f74 slices_ContainsFunc___int_int_.body Try.f74.ntmps 2 (fnRes Try.f74) :=
  fnOk_of (by kernel_rfl) (by kernel_rfl) (by kernel_rfl) (by kernel_rfl)
theorem slices_ContainsFunc___int_int_.con' : ∀ k ds r, slices_ContainsFunc___int_int_.g k ds = some r → Con Try.prog 74 2 slices_ContainsFunc___int_int_.ti slices_ContainsFunc___int_int_.to ds (slices_ContainsFunc___int_int_.rs r) :=
  fun_ok (T := T) T_ok mixed slices_ContainsFunc___int_int_.fn (env := slices_ContainsFunc___int_int_.env) (tbl := slices_ContainsFunc___int_int_.tbl) (gOut := slices_ContainsFunc___int_int_.out) (nin := 1) (cuts := []) (fuel := 100000) rfl (by kernel_rfl) (by kernel_rfl) (by kernel_rfl) (fun x hx => by simp [slices_ContainsFunc___int_int_.tbl] at hx) slices_ContainsFunc___int_int_.o slices_ContainsFunc___int_int_.h (fun k _ => by unfold slices_ContainsFunc___int_int_.env; exact (envC_ok (fun ds K r h => by
    obtain ⟨x0, d0, rfl, h0⟩ := pop_some h
    obtain ⟨x1, d1, rfl, h1⟩ := pop_some h0
    obtain ⟨x2, d2, rfl, h2⟩ := pop_some h1
    obtain ⟨x3, d3, rfl, h3⟩ := pop_some h2
    obtain ⟨x4, d4, rfl, h4⟩ := pop_some h3
    obtain ⟨x5, d5, rfl, h5⟩ := pop_some h4
    obtain ⟨rfl, g⟩ := popN_some h5
    obtain ⟨r1, h1, h2⟩ := bind_some g
    exact ⟨_, h2, slices_IndexFunc___int_int_.con k _ h1⟩) env0_ok))
theorem slices_ContainsFunc___int_int_.con (k : Nat) {x0 : (List Int)} {x1 : Int} {x2 : Int} {x3 : (List Int)} {x4 : (List (Int × (Int × (Int × Unit))))} {x5 : (List Int)} (r : Bool × Int × Int × (List Int) × (List (Int × (Int × (Int × Unit)))) × (List Int)) (h : slices_ContainsFunc___int_int_.f k x0 x1 x2 x3 x4 x5 = some r) : Con Try.prog 74 2 slices_ContainsFunc___int_int_.ti slices_ContainsFunc___int_int_.to [⟨(.slice (.int .i64)), x0⟩, ⟨(.int .i64), x1⟩, ⟨(.int .i64), x2⟩, ⟨(.slice (.int .i64)), x3⟩, ⟨(.slice (.pair (.int .i64) (.pair (.int .i64) (.pair (.int .i64) .unit)))), x4⟩, ⟨(.slice (.int .i64)), x5⟩] (slices_ContainsFunc___int_int_.rs r) :=
  slices_ContainsFunc___int_int_.con' (k + 1) _ r (by show slices_ContainsFunc___int_int_.c k _ = some r; unfold slices_ContainsFunc___int_int_.c; simp only [pop_self, popN]; exact h)
def buchi_Check_2.f (k : Nat) (x0 : (Int × (Int × (Int × Unit)))) (x2_0 : Int) (x2_1 : Int) (x2_2 : List (Int)) (x2_3 : List ((Int × (Int × (Int × Unit))))) (x2_4 : List (Int)) : Option (Bool × Int × Int × List Int × List (Int × Int × Int × Unit) × List Int) :=
 (buchi_Check_1.f k x0.fst x2_0 x2_1 x2_2 x2_3 x2_4).bind fun r1 =>
  if r1.fst = true then
   some (true, r1.snd.fst, r1.snd.snd.fst, r1.snd.snd.snd.fst, r1.snd.snd.snd.snd.fst, r1.snd.snd.snd.snd.snd)
  else
   (buchi_Check_1.f k x0.snd.snd.fst r1.snd.fst r1.snd.snd.fst r1.snd.snd.snd.fst r1.snd.snd.snd.snd.fst r1.snd.snd.snd.snd.snd).bind fun r3 =>
    if r3.fst = true then
     some (true, r3.snd.fst, r3.snd.snd.fst, r3.snd.snd.snd.fst, r3.snd.snd.snd.snd.fst, r3.snd.snd.snd.snd.snd)
    else
     if x0.snd.fst < 0 then
      some (true, r3.snd.fst, r3.snd.snd.fst, r3.snd.snd.snd.fst, r3.snd.snd.snd.snd.fst, r3.snd.snd.snd.snd.snd)
     else
      some (decide (r3.snd.fst ≤ x0.snd.fst), r3.snd.fst, r3.snd.snd.fst, r3.snd.snd.snd.fst, r3.snd.snd.snd.snd.fst, r3.snd.snd.snd.snd.snd)

noncomputable def buchi_Check_2.body : Code := fnBody Try.f138
def buchi_Check_2.ti : Tm := ⟨[(0, .p (.pair (.int .i64) (.pair (.int .i64) (.pair (.int .i64) .unit)))), (1, .ptr 0 0), (2, .ptr 1 0)], [.box [.fn 136 [.ptr 1 0]] 113, .box [.p (.int .i64), .p (.int .i64), .p (.slice (.int .i64)), .p (.slice (.pair (.int .i64) (.pair (.int .i64) (.pair (.int .i64) .unit)))), .p (.slice (.int .i64))] 78]⟩
def buchi_Check_2.to : Tm := ⟨[(0, .p .bool)], [.box [.fn 136 [.ptr 1 0]] 113, .box [.p (.int .i64), .p (.int .i64), .p (.slice (.int .i64)), .p (.slice (.pair (.int .i64) (.pair (.int .i64) (.pair (.int .i64) .unit)))), .p (.slice (.int .i64))] 78]⟩
def buchi_Check_2.rs (r : Bool × Int × Int × (List Int) × (List (Int × (Int × (Int × Unit)))) × (List Int)) : List Dat := [⟨.bool, r.1⟩, ⟨(.int .i64), r.2.1⟩, ⟨(.int .i64), r.2.2.1⟩, ⟨(.slice (.int .i64)), r.2.2.2.1⟩, ⟨(.slice (.pair (.int .i64) (.pair (.int .i64) (.pair (.int .i64) .unit)))), r.2.2.2.2.1⟩, ⟨(.slice (.int .i64)), r.2.2.2.2.2⟩]
def buchi_Check_2.out (ds : List Dat) : Option (Bool × Int × Int × (List Int) × (List (Int × (Int × (Int × Unit)))) × (List Int)) := pop .bool ds fun x0 ds => pop (.int .i64) ds fun x1 ds => pop (.int .i64) ds fun x2 ds => pop (.slice (.int .i64)) ds fun x3 ds => pop (.slice (.pair (.int .i64) (.pair (.int .i64) (.pair (.int .i64) .unit)))) ds fun x4 ds => pop (.slice (.int .i64)) ds fun x5 ds => popN ds (some (x0, x1, x2, x3, x4, x5))
def buchi_Check_2.c (k : Nat) (ds : List Dat) : Option (Bool × Int × Int × (List Int) × (List (Int × (Int × (Int × Unit)))) × (List Int)) := pop (.pair (.int .i64) (.pair (.int .i64) (.pair (.int .i64) .unit))) ds fun x0 ds => pop (.int .i64) ds fun x1 ds => pop (.int .i64) ds fun x2 ds => pop (.slice (.int .i64)) ds fun x3 ds => pop (.slice (.pair (.int .i64) (.pair (.int .i64) (.pair (.int .i64) .unit)))) ds fun x4 ds => pop (.slice (.int .i64)) ds fun x5 ds => popN ds (buchi_Check_2.f k x0 x1 x2 x3 x4 x5)
def buchi_Check_2.g : Nat → List Dat → Option (Bool × Int × Int × (List Int) × (List (Int × (Int × (Int × Unit)))) × (List Int))
 | 0, _ => none
 | k + 1, ds => buchi_Check_2.c k ds
def buchi_Check_2.env (k : Nat) : Nat → List SV → List Chunk → KT (Bool × Int × Int × (List Int) × (List (Int × (Int × (Int × Unit)))) × (List Int)) → Option (Bool × Int × Int × (List Int) × (List (Int × (Int × (Int × Unit)))) × (List Int)) := (envC 136 2 buchi_Check_1.ti buchi_Check_1.to (fun ds K => pop (.int .i64) ds fun x0 ds => pop (.int .i64) ds fun x1 ds => pop (.int .i64) ds fun x2 ds => pop (.slice (.int .i64)) ds fun x3 ds => pop (.slice (.pair (.int .i64) (.pair (.int .i64) (.pair (.int .i64) .unit)))) ds fun x4 ds => pop (.slice (.int .i64)) ds fun x5 ds => popN ds ((buchi_Check_1.f k x0 x1 x2 x3 x4 x5).bind fun r => K (buchi_Check_1.rs r))) env0)
def buchi_Check_2.tbl : List (Nat × Tm × (Nat → List Dat → Option (Bool × Int × Int × (List Int) × (List (Int × (Int × (Int × Unit)))) × (List Int)))) := []
noncomputable abbrev buchi_Check_2.R (k : Nat) := run T (buchi_Check_2.env k) Try.f138.ntmps (cutE 2 buchi_Check_2.tbl k) (finE 2 buchi_Check_2.to buchi_Check_2.out) (fnRes Try.f138) [] 100000 true
theorem buchi_Check_2.e (k : Nat) (x0 : (Int × (Int × (Int × Unit)))) (x1 : Int) (x2 : Int) (x3 : (List Int)) (x4 : (List (Int × (Int × (Int × Unit))))) (x5 : (List Int)) : buchi_Check_2.f k x0 x1 x2 x3 x4 x5 = buchi_Check_2.R k ([.code buchi_Check_2.body]) (buchi_Check_2.ti.fill [⟨(.pair (.int .i64) (.pair (.int .i64) (.pair (.int .i64) .unit))), x0⟩, ⟨(.int .i64), x1⟩, ⟨(.int .i64), x2⟩, ⟨(.slice (.int .i64)), x3⟩, ⟨(.slice (.pair (.int .i64) (.pair (.int .i64) (.pair (.int .i64) .unit)))), x4⟩, ⟨(.slice (.int .i64)), x5⟩]) := by kernel_rfl
theorem buchi_Check_2.h (k : Nat) (ds : List Dat) (r : Bool × Int × Int × (List Int) × (List (Int × (Int × (Int × Unit)))) × (List Int)) (h : buchi_Check_2.g k ds = some r) : ∃ k', k' < k ∧ buchi_Check_2.R k' ([.code buchi_Check_2.body]) (buchi_Check_2.ti.fill ds) = some r := by
  cases k with
  | zero => cases (show none = some r from h)
  | succ k =>
  replace h : buchi_Check_2.c k ds = some r := h
  unfold buchi_Check_2.c at h
  obtain ⟨x0, d0, rfl, h0⟩ := pop_some h
  obtain ⟨x1, d1, rfl, h1⟩ := pop_some h0
  obtain ⟨x2, d2, rfl, h2⟩ := pop_some h1
  obtain ⟨x3, d3, rfl, h3⟩ := pop_some h2
  obtain ⟨x4, d4, rfl, h4⟩ := pop_some h3
  obtain ⟨x5, d5, rfl, h5⟩ := pop_some h4
  obtain ⟨rfl, g⟩ := popN_some h5
  exact ⟨k, Nat.lt_succ_self k, (buchi_Check_2.e k x0 x1 x2 x3 x4 x5).symm.trans g⟩
theorem buchi_Check_2.o (ds : List Dat) (r : Bool × Int × Int × (List Int) × (List (Int × (Int × (Int × Unit)))) × (List Int)) (h : buchi_Check_2.out ds = some r) : ds = buchi_Check_2.rs r := by
  unfold buchi_Check_2.out at h
  obtain ⟨x0, d0, rfl, h0⟩ := pop_some h
  obtain ⟨x1, d1, rfl, h1⟩ := pop_some h0
  obtain ⟨x2, d2, rfl, h2⟩ := pop_some h1
  obtain ⟨x3, d3, rfl, h3⟩ := pop_some h2
  obtain ⟨x4, d4, rfl, h4⟩ := pop_some h3
  obtain ⟨x5, d5, rfl, h5⟩ := pop_some h4
  obtain ⟨rfl, g⟩ := popN_some h5
  cases g
  rfl
theorem buchi_Check_2.fn : FnOk Try.prog 138 Try.f138 buchi_Check_2.body Try.f138.ntmps 3 (fnRes Try.f138) :=
  fnOk_of (by kernel_rfl) (by kernel_rfl) (by kernel_rfl) (by kernel_rfl)
theorem buchi_Check_2.con' : ∀ k ds r, buchi_Check_2.g k ds = some r → Con Try.prog 138 3 buchi_Check_2.ti buchi_Check_2.to ds (buchi_Check_2.rs r) :=
  fun_ok (T := T) T_ok mixed buchi_Check_2.fn (env := buchi_Check_2.env) (tbl := buchi_Check_2.tbl) (gOut := buchi_Check_2.out) (nin := 2) (cuts := []) (fuel := 100000) rfl (by kernel_rfl) (by kernel_rfl) (by kernel_rfl) (fun x hx => by simp [buchi_Check_2.tbl] at hx) buchi_Check_2.o buchi_Check_2.h (fun k _ => by unfold buchi_Check_2.env; exact (envC_ok (fun ds K r h => by
    obtain ⟨x0, d0, rfl, h0⟩ := pop_some h
    obtain ⟨x1, d1, rfl, h1⟩ := pop_some h0
    obtain ⟨x2, d2, rfl, h2⟩ := pop_some h1
    obtain ⟨x3, d3, rfl, h3⟩ := pop_some h2
    obtain ⟨x4, d4, rfl, h4⟩ := pop_some h3
    obtain ⟨x5, d5, rfl, h5⟩ := pop_some h4
    obtain ⟨rfl, g⟩ := popN_some h5
    obtain ⟨r1, h1, h2⟩ := bind_some g
    exact ⟨_, h2, buchi_Check_1.con k _ h1⟩) env0_ok))
theorem buchi_Check_2.con (k : Nat) {x0 : (Int × (Int × (Int × Unit)))} {x1 : Int} {x2 : Int} {x3 : (List Int)} {x4 : (List (Int × (Int × (Int × Unit))))} {x5 : (List Int)} (r : Bool × Int × Int × (List Int) × (List (Int × (Int × (Int × Unit)))) × (List Int)) (h : buchi_Check_2.f k x0 x1 x2 x3 x4 x5 = some r) : Con Try.prog 138 3 buchi_Check_2.ti buchi_Check_2.to [⟨(.pair (.int .i64) (.pair (.int .i64) (.pair (.int .i64) .unit))), x0⟩, ⟨(.int .i64), x1⟩, ⟨(.int .i64), x2⟩, ⟨(.slice (.int .i64)), x3⟩, ⟨(.slice (.pair (.int .i64) (.pair (.int .i64) (.pair (.int .i64) .unit)))), x4⟩, ⟨(.slice (.int .i64)), x5⟩] (buchi_Check_2.rs r) :=
  buchi_Check_2.con' (k + 1) _ r (by show buchi_Check_2.c k _ = some r; unfold buchi_Check_2.c; simp only [pop_self, popN]; exact h)
mutual
def slices_IndexFunc___api_Step_api_Step_.l2 : Nat → List ((Int × (Int × (Int × Unit)))) → Int → Int → Int → Int → List (Int) → List ((Int × (Int × (Int × Unit)))) → List (Int) → Option (Int × Int × Int × List Int × List (Int × Int × Int × Unit) × List Int)
 | 0, _, _, _, _, _, _, _, _ => none
 | k + 1, s0, x7, x8, c1_0, c1_1, c1_2, c1_3, c1_4 =>
  if x8 < x7 then
   if 0 ≤ x8 then
   if x8 < (↑s0.length : Int) then
    (buchi_Check_2.f k (Go.Proofs.YtfkilmmldjajmaaSx.rd (Int.ofNat 0, Int.ofNat 0, Int.ofNat 0, ()) s0 x8) c1_0 c1_1 c1_2 c1_3 c1_4).bind fun r5 =>
      if r5.fst = true then
       some (x8, r5.snd.fst, r5.snd.snd.fst, r5.snd.snd.snd.fst, r5.snd.snd.snd.snd.fst, r5.snd.snd.snd.snd.snd)
      else
       slices_IndexFunc___api_Step_api_Step_.l2 k s0 x7 (Go.IntKind.i64.wrap (x8 + 1)) r5.snd.fst r5.snd.snd.fst r5.snd.snd.snd.fst r5.snd.snd.snd.snd.fst r5.snd.snd.snd.snd.snd
    else none
   else none
  else
   some (-1, c1_0, c1_1, c1_2, c1_3, c1_4)
end
def slices_IndexFunc___api_Step_api_Step_.f (k : Nat) (s0 : List ((Int × (Int × (Int × Unit))))) (c1_0 : Int) (c1_1 : Int) (c1_2 : List (Int)) (c1_3 : List ((Int × (Int × (Int × Unit))))) (c1_4 : List (Int)) : Option (Int × Int × Int × List Int × List (Int × Int × Int × Unit) × List Int) :=
 slices_IndexFunc___api_Step_api_Step_.l2 k s0 ((↑s0.length : Int)) 0 c1_0 c1_1 c1_2 c1_3 c1_4

noncomputable def slices_IndexFunc___api_Step_api_Step_.body : Code := fnBody Try.f178
def slices_IndexFunc___api_Step_api_Step_.ti : Tm := ⟨[(0, .p (.slice (.pair (.int .i64) (.pair (.int .i64) (.pair (.int .i64) .unit))))), (1, .fn 138 [.ptr 0 0, .ptr 1 0])], [.box [.fn 136 [.ptr 1 0]] 113, .box [.p (.int .i64), .p (.int .i64), .p (.slice (.int .i64)), .p (.slice (.pair (.int .i64) (.pair (.int .i64) (.pair (.int .i64) .unit)))), .p (.slice (.int .i64))] 78]⟩
def slices_IndexFunc___api_Step_api_Step_.to : Tm := ⟨[(0, .p (.int .i64))], [.box [.fn 136 [.ptr 1 0]] 113, .box [.p (.int .i64), .p (.int .i64), .p (.slice (.int .i64)), .p (.slice (.pair (.int .i64) (.pair (.int .i64) (.pair (.int .i64) .unit)))), .p (.slice (.int .i64))] 78]⟩
def slices_IndexFunc___api_Step_api_Step_.rs (r : Int × Int × Int × (List Int) × (List (Int × (Int × (Int × Unit)))) × (List Int)) : List Dat := [⟨(.int .i64), r.1⟩, ⟨(.int .i64), r.2.1⟩, ⟨(.int .i64), r.2.2.1⟩, ⟨(.slice (.int .i64)), r.2.2.2.1⟩, ⟨(.slice (.pair (.int .i64) (.pair (.int .i64) (.pair (.int .i64) .unit)))), r.2.2.2.2.1⟩, ⟨(.slice (.int .i64)), r.2.2.2.2.2⟩]
def slices_IndexFunc___api_Step_api_Step_.out (ds : List Dat) : Option (Int × Int × Int × (List Int) × (List (Int × (Int × (Int × Unit)))) × (List Int)) := pop (.int .i64) ds fun x0 ds => pop (.int .i64) ds fun x1 ds => pop (.int .i64) ds fun x2 ds => pop (.slice (.int .i64)) ds fun x3 ds => pop (.slice (.pair (.int .i64) (.pair (.int .i64) (.pair (.int .i64) .unit)))) ds fun x4 ds => pop (.slice (.int .i64)) ds fun x5 ds => popN ds (some (x0, x1, x2, x3, x4, x5))
def slices_IndexFunc___api_Step_api_Step_.c (k : Nat) (ds : List Dat) : Option (Int × Int × Int × (List Int) × (List (Int × (Int × (Int × Unit)))) × (List Int)) := pop (.slice (.pair (.int .i64) (.pair (.int .i64) (.pair (.int .i64) .unit)))) ds fun x0 ds => pop (.int .i64) ds fun x1 ds => pop (.int .i64) ds fun x2 ds => pop (.slice (.int .i64)) ds fun x3 ds => pop (.slice (.pair (.int .i64) (.pair (.int .i64) (.pair (.int .i64) .unit)))) ds fun x4 ds => pop (.slice (.int .i64)) ds fun x5 ds => popN ds (slices_IndexFunc___api_Step_api_Step_.f k x0 x1 x2 x3 x4 x5)
def slices_IndexFunc___api_Step_api_Step_.g : Nat → List Dat → Option (Int × Int × Int × (List Int) × (List (Int × (Int × (Int × Unit)))) × (List Int))
 | 0, _ => none
 | k + 1, ds => slices_IndexFunc___api_Step_api_Step_.c k ds
def slices_IndexFunc___api_Step_api_Step_.env (k : Nat) : Nat → List SV → List Chunk → KT (Int × Int × Int × (List Int) × (List (Int × (Int × (Int × Unit)))) × (List Int)) → Option (Int × Int × Int × (List Int) × (List (Int × (Int × (Int × Unit)))) × (List Int)) := (envC 138 3 buchi_Check_2.ti buchi_Check_2.to (fun ds K => pop (.pair (.int .i64) (.pair (.int .i64) (.pair (.int .i64) .unit))) ds fun x0 ds => pop (.int .i64) ds fun x1 ds => pop (.int .i64) ds fun x2 ds => pop (.slice (.int .i64)) ds fun x3 ds => pop (.slice (.pair (.int .i64) (.pair (.int .i64) (.pair (.int .i64) .unit)))) ds fun x4 ds => pop (.slice (.int .i64)) ds fun x5 ds => popN ds ((buchi_Check_2.f k x0 x1 x2 x3 x4 x5).bind fun r => K (buchi_Check_2.rs r))) env0)
def slices_IndexFunc___api_Step_api_Step_.t5 : Tm := ⟨[(0, .p (.slice (.pair (.int .i64) (.pair (.int .i64) (.pair (.int .i64) .unit))))), (1, .fn 138 [.ptr 0 0, .ptr 1 0]), (7, .p (.int .i64)), (8, .p (.int .i64))], [.box [.fn 136 [.ptr 1 0]] 113, .box [.p (.int .i64), .p (.int .i64), .p (.slice (.int .i64)), .p (.slice (.pair (.int .i64) (.pair (.int .i64) (.pair (.int .i64) .unit)))), .p (.slice (.int .i64))] 78]⟩
def slices_IndexFunc___api_Step_api_Step_.c5 (k : Nat) (ds : List Dat) : Option (Int × Int × Int × (List Int) × (List (Int × (Int × (Int × Unit)))) × (List Int)) := pop (.slice (.pair (.int .i64) (.pair (.int .i64) (.pair (.int .i64) .unit)))) ds fun x0 ds => pop (.int .i64) ds fun x1 ds => pop (.int .i64) ds fun x2 ds => pop (.int .i64) ds fun x3 ds => pop (.int .i64) ds fun x4 ds => pop (.slice (.int .i64)) ds fun x5 ds => pop (.slice (.pair (.int .i64) (.pair (.int .i64) (.pair (.int .i64) .unit)))) ds fun x6 ds => pop (.slice (.int .i64)) ds fun x7 ds => popN ds (slices_IndexFunc___api_Step_api_Step_.l2 k x0 x1 x2 x3 x4 x5 x6 x7)
def slices_IndexFunc___api_Step_api_Step_.tbl : List (Nat × Tm × (Nat → List Dat → Option (Int × Int × Int × (List Int) × (List (Int × (Int × (Int × Unit)))) × (List Int)))) := [(5, slices_IndexFunc___api_Step_api_Step_.t5, slices_IndexFunc___api_Step_api_Step_.c5)]
noncomputable abbrev slices_IndexFunc___api_Step_api_Step_.R (k : Nat) := run T (slices_IndexFunc___api_Step_api_Step_.env k) Try.f178.ntmps (cutE 2 slices_IndexFunc___api_Step_api_Step_.tbl k) (finE 2 slices_IndexFunc___api_Step_api_Step_.to slices_IndexFunc___api_Step_api_Step_.out) (fnRes Try.f178) [] 100000 true
theorem slices_IndexFunc___api_Step_api_Step_.e5 (k : Nat) (x0 : (List (Int × (Int × (Int × Unit))))) (x1 : Int) (x2 : Int) (x3 : Int) (x4 : Int) (x5 : (List Int)) (x6 : (List (Int × (Int × (Int × Unit))))) (x7 : (List Int)) : slices_IndexFunc___api_Step_api_Step_.l2 (k + 1) x0 x1 x2 x3 x4 x5 x6 x7 = slices_IndexFunc___api_Step_api_Step_.R k (start (stackOf 5 slices_IndexFunc___api_Step_api_Step_.body)) (slices_IndexFunc___api_Step_api_Step_.t5.fill [⟨(.slice (.pair (.int .i64) (.pair (.int .i64) (.pair (.int .i64) .unit)))), x0⟩, ⟨(.int .i64), x1⟩, ⟨(.int .i64), x2⟩, ⟨(.int .i64), x3⟩, ⟨(.int .i64), x4⟩, ⟨(.slice (.int .i64)), x5⟩, ⟨(.slice (.pair (.int .i64) (.pair (.int .i64) (.pair (.int .i64) .unit)))), x6⟩, ⟨(.slice (.int .i64)), x7⟩]) := by kernel_rfl
theorem slices_IndexFunc___api_Step_api_Step_.s5 : stackAt 5 slices_IndexFunc___api_Step_api_Step_.body [] = some (stackOf 5 slices_IndexFunc___api_Step_api_Step_.body) := by kernel_rfl
theorem slices_IndexFunc___api_Step_api_Step_.h5 (k : Nat) (ds : List Dat) (r : Int × Int × Int × (List Int) × (List (Int × (Int × (Int × Unit)))) × (List Int)) (h : slices_IndexFunc___api_Step_api_Step_.c5 k ds = some r) : ∃ k', k' < k ∧ ∃ s, stackAt 5 slices_IndexFunc___api_Step_api_Step_.body [] = some s ∧ slices_IndexFunc___api_Step_api_Step_.R k' (start s) (slices_IndexFunc___api_Step_api_Step_.t5.fill ds) = some r := by
  unfold slices_IndexFunc___api_Step_api_Step_.c5 at h
  obtain ⟨x0, d0, rfl, h0⟩ := pop_some h
  obtain ⟨x1, d1, rfl, h1⟩ := pop_some h0
  obtain ⟨x2, d2, rfl, h2⟩ := pop_some h1
  obtain ⟨x3, d3, rfl, h3⟩ := pop_some h2
  obtain ⟨x4, d4, rfl, h4⟩ := pop_some h3
  obtain ⟨x5, d5, rfl, h5⟩ := pop_some h4
  obtain ⟨x6, d6, rfl, h6⟩ := pop_some h5
  obtain ⟨x7, d7, rfl, h7⟩ := pop_some h6
  obtain ⟨rfl, g⟩ := popN_some h7
  cases k with
  | zero => cases (show none = some r from g)
  | succ k => exact ⟨k, Nat.lt_succ_self k, _, slices_IndexFunc___api_Step_api_Step_.s5, (slices_IndexFunc___api_Step_api_Step_.e5 k x0 x1 x2 x3 x4 x5 x6 x7).symm.trans g⟩
theorem slices_IndexFunc___api_Step_api_Step_.e (k : Nat) (x0 : (List (Int × (Int × (Int × Unit))))) (x1 : Int) (x2 : Int) (x3 : (List Int)) (x4 : (List (Int × (Int × (Int × Unit))))) (x5 : (List Int)) : slices_IndexFunc___api_Step_api_Step_.f k x0 x1 x2 x3 x4 x5 = slices_IndexFunc___api_Step_api_Step_.R k ([.code slices_IndexFunc___api_Step_api_Step_.body]) (slices_IndexFunc___api_Step_api_Step_.ti.fill [⟨(.slice (.pair (.int .i64) (.pair (.int .i64) (.pair (.int .i64) .unit)))), x0⟩, ⟨(.int .i64), x1⟩, ⟨(.int .i64), x2⟩, ⟨(.slice (.int .i64)), x3⟩, ⟨(.slice (.pair (.int .i64) (.pair (.int .i64) (.pair (.int .i64) .unit)))), x4⟩, ⟨(.slice (.int .i64)), x5⟩]) := by kernel_rfl
theorem slices_IndexFunc___api_Step_api_Step_.h (k : Nat) (ds : List Dat) (r : Int × Int × Int × (List Int) × (List (Int × (Int × (Int × Unit)))) × (List Int)) (h : slices_IndexFunc___api_Step_api_Step_.g k ds = some r) : ∃ k', k' < k ∧ slices_IndexFunc___api_Step_api_Step_.R k' ([.code slices_IndexFunc___api_Step_api_Step_.body]) (slices_IndexFunc___api_Step_api_Step_.ti.fill ds) = some r := by
  cases k with
  | zero => cases (show none = some r from h)
  | succ k =>
  replace h : slices_IndexFunc___api_Step_api_Step_.c k ds = some r := h
  unfold slices_IndexFunc___api_Step_api_Step_.c at h
  obtain ⟨x0, d0, rfl, h0⟩ := pop_some h
  obtain ⟨x1, d1, rfl, h1⟩ := pop_some h0
  obtain ⟨x2, d2, rfl, h2⟩ := pop_some h1
  obtain ⟨x3, d3, rfl, h3⟩ := pop_some h2
  obtain ⟨x4, d4, rfl, h4⟩ := pop_some h3
  obtain ⟨x5, d5, rfl, h5⟩ := pop_some h4
  obtain ⟨rfl, g⟩ := popN_some h5
  exact ⟨k, Nat.lt_succ_self k, (slices_IndexFunc___api_Step_api_Step_.e k x0 x1 x2 x3 x4 x5).symm.trans g⟩
theorem slices_IndexFunc___api_Step_api_Step_.o (ds : List Dat) (r : Int × Int × Int × (List Int) × (List (Int × (Int × (Int × Unit)))) × (List Int)) (h : slices_IndexFunc___api_Step_api_Step_.out ds = some r) : ds = slices_IndexFunc___api_Step_api_Step_.rs r := by
  unfold slices_IndexFunc___api_Step_api_Step_.out at h
  obtain ⟨x0, d0, rfl, h0⟩ := pop_some h
  obtain ⟨x1, d1, rfl, h1⟩ := pop_some h0
  obtain ⟨x2, d2, rfl, h2⟩ := pop_some h1
  obtain ⟨x3, d3, rfl, h3⟩ := pop_some h2
  obtain ⟨x4, d4, rfl, h4⟩ := pop_some h3
  obtain ⟨x5, d5, rfl, h5⟩ := pop_some h4
  obtain ⟨rfl, g⟩ := popN_some h5
  cases g
  rfl
theorem slices_IndexFunc___api_Step_api_Step_.fn : FnOk Try.prog 178 Try.f178 slices_IndexFunc___api_Step_api_Step_.body Try.f178.ntmps 2 (fnRes Try.f178) :=
  fnOk_of (by kernel_rfl) (by kernel_rfl) (by kernel_rfl) (by kernel_rfl)
theorem slices_IndexFunc___api_Step_api_Step_.con' : ∀ k ds r, slices_IndexFunc___api_Step_api_Step_.g k ds = some r → Con Try.prog 178 2 slices_IndexFunc___api_Step_api_Step_.ti slices_IndexFunc___api_Step_api_Step_.to ds (slices_IndexFunc___api_Step_api_Step_.rs r) :=
  fun_ok (T := T) T_ok mixed slices_IndexFunc___api_Step_api_Step_.fn (env := slices_IndexFunc___api_Step_api_Step_.env) (tbl := slices_IndexFunc___api_Step_api_Step_.tbl) (gOut := slices_IndexFunc___api_Step_api_Step_.out) (nin := 2) (cuts := []) (fuel := 100000) rfl (by kernel_rfl) (by kernel_rfl) (by kernel_rfl) (fun x hx => by
    simp only [slices_IndexFunc___api_Step_api_Step_.tbl, List.mem_cons, List.not_mem_nil, or_false] at hx
    subst hx
    · exact slices_IndexFunc___api_Step_api_Step_.h5
) slices_IndexFunc___api_Step_api_Step_.o slices_IndexFunc___api_Step_api_Step_.h (fun k _ => by unfold slices_IndexFunc___api_Step_api_Step_.env; exact (envC_ok (fun ds K r h => by
    obtain ⟨x0, d0, rfl, h0⟩ := pop_some h
    obtain ⟨x1, d1, rfl, h1⟩ := pop_some h0
    obtain ⟨x2, d2, rfl, h2⟩ := pop_some h1
    obtain ⟨x3, d3, rfl, h3⟩ := pop_some h2
    obtain ⟨x4, d4, rfl, h4⟩ := pop_some h3
    obtain ⟨x5, d5, rfl, h5⟩ := pop_some h4
    obtain ⟨rfl, g⟩ := popN_some h5
    obtain ⟨r1, h1, h2⟩ := bind_some g
    exact ⟨_, h2, buchi_Check_2.con k _ h1⟩) env0_ok))
theorem slices_IndexFunc___api_Step_api_Step_.con (k : Nat) {x0 : (List (Int × (Int × (Int × Unit))))} {x1 : Int} {x2 : Int} {x3 : (List Int)} {x4 : (List (Int × (Int × (Int × Unit))))} {x5 : (List Int)} (r : Int × Int × Int × (List Int) × (List (Int × (Int × (Int × Unit)))) × (List Int)) (h : slices_IndexFunc___api_Step_api_Step_.f k x0 x1 x2 x3 x4 x5 = some r) : Con Try.prog 178 2 slices_IndexFunc___api_Step_api_Step_.ti slices_IndexFunc___api_Step_api_Step_.to [⟨(.slice (.pair (.int .i64) (.pair (.int .i64) (.pair (.int .i64) .unit)))), x0⟩, ⟨(.int .i64), x1⟩, ⟨(.int .i64), x2⟩, ⟨(.slice (.int .i64)), x3⟩, ⟨(.slice (.pair (.int .i64) (.pair (.int .i64) (.pair (.int .i64) .unit)))), x4⟩, ⟨(.slice (.int .i64)), x5⟩] (slices_IndexFunc___api_Step_api_Step_.rs r) :=
  slices_IndexFunc___api_Step_api_Step_.con' (k + 1) _ r (by show slices_IndexFunc___api_Step_api_Step_.c k _ = some r; unfold slices_IndexFunc___api_Step_api_Step_.c; simp only [pop_self, popN]; exact h)
def slices_ContainsFunc___api_Step_api_Step_.f (k : Nat) (s0 : List ((Int × (Int × (Int × Unit))))) (c1_0 : Int) (c1_1 : Int) (c1_2 : List (Int)) (c1_3 : List ((Int × (Int × (Int × Unit))))) (c1_4 : List (Int)) : Option (Bool × Int × Int × List Int × List (Int × Int × Int × Unit) × List Int) :=
 (slices_IndexFunc___api_Step_api_Step_.f k s0 c1_0 c1_1 c1_2 c1_3 c1_4).bind fun r1 =>
  some (decide (0 ≤ r1.fst), r1.snd.fst, r1.snd.snd.fst, r1.snd.snd.snd.fst, r1.snd.snd.snd.snd.fst, r1.snd.snd.snd.snd.snd)

noncomputable def slices_ContainsFunc___api_Step_api_Step_.body : Code := fnBody Try.f137
def slices_ContainsFunc___api_Step_api_Step_.ti : Tm := ⟨[(0, .p (.slice (.pair (.int .i64) (.pair (.int .i64) (.pair (.int .i64) .unit))))), (1, .fn 138 [.ptr 0 0, .ptr 1 0])], [.box [.fn 136 [.ptr 1 0]] 113, .box [.p (.int .i64), .p (.int .i64), .p (.slice (.int .i64)), .p (.slice (.pair (.int .i64) (.pair (.int .i64) (.pair (.int .i64) .unit)))), .p (.slice (.int .i64))] 78]⟩
def slices_ContainsFunc___api_Step_api_Step_.to : Tm := ⟨[(0, .p .bool)], [.box [.fn 136 [.ptr 1 0]] 113, .box [.p (.int .i64), .p (.int .i64), .p (.slice (.int .i64)), .p (.slice (.pair (.int .i64) (.pair (.int .i64) (.pair (.int .i64) .unit)))), .p (.slice (.int .i64))] 78]⟩
def slices_ContainsFunc___api_Step_api_Step_.rs (r : Bool × Int × Int × (List Int) × (List (Int × (Int × (Int × Unit)))) × (List Int)) : List Dat := [⟨.bool, r.1⟩, ⟨(.int .i64), r.2.1⟩, ⟨(.int .i64), r.2.2.1⟩, ⟨(.slice (.int .i64)), r.2.2.2.1⟩, ⟨(.slice (.pair (.int .i64) (.pair (.int .i64) (.pair (.int .i64) .unit)))), r.2.2.2.2.1⟩, ⟨(.slice (.int .i64)), r.2.2.2.2.2⟩]
def slices_ContainsFunc___api_Step_api_Step_.out (ds : List Dat) : Option (Bool × Int × Int × (List Int) × (List (Int × (Int × (Int × Unit)))) × (List Int)) := pop .bool ds fun x0 ds => pop (.int .i64) ds fun x1 ds => pop (.int .i64) ds fun x2 ds => pop (.slice (.int .i64)) ds fun x3 ds => pop (.slice (.pair (.int .i64) (.pair (.int .i64) (.pair (.int .i64) .unit)))) ds fun x4 ds => pop (.slice (.int .i64)) ds fun x5 ds => popN ds (some (x0, x1, x2, x3, x4, x5))
def slices_ContainsFunc___api_Step_api_Step_.c (k : Nat) (ds : List Dat) : Option (Bool × Int × Int × (List Int) × (List (Int × (Int × (Int × Unit)))) × (List Int)) := pop (.slice (.pair (.int .i64) (.pair (.int .i64) (.pair (.int .i64) .unit)))) ds fun x0 ds => pop (.int .i64) ds fun x1 ds => pop (.int .i64) ds fun x2 ds => pop (.slice (.int .i64)) ds fun x3 ds => pop (.slice (.pair (.int .i64) (.pair (.int .i64) (.pair (.int .i64) .unit)))) ds fun x4 ds => pop (.slice (.int .i64)) ds fun x5 ds => popN ds (slices_ContainsFunc___api_Step_api_Step_.f k x0 x1 x2 x3 x4 x5)
def slices_ContainsFunc___api_Step_api_Step_.g : Nat → List Dat → Option (Bool × Int × Int × (List Int) × (List (Int × (Int × (Int × Unit)))) × (List Int))
 | 0, _ => none
 | k + 1, ds => slices_ContainsFunc___api_Step_api_Step_.c k ds
def slices_ContainsFunc___api_Step_api_Step_.env (k : Nat) : Nat → List SV → List Chunk → KT (Bool × Int × Int × (List Int) × (List (Int × (Int × (Int × Unit)))) × (List Int)) → Option (Bool × Int × Int × (List Int) × (List (Int × (Int × (Int × Unit)))) × (List Int)) := (envC 178 2 slices_IndexFunc___api_Step_api_Step_.ti slices_IndexFunc___api_Step_api_Step_.to (fun ds K => pop (.slice (.pair (.int .i64) (.pair (.int .i64) (.pair (.int .i64) .unit)))) ds fun x0 ds => pop (.int .i64) ds fun x1 ds => pop (.int .i64) ds fun x2 ds => pop (.slice (.int .i64)) ds fun x3 ds => pop (.slice (.pair (.int .i64) (.pair (.int .i64) (.pair (.int .i64) .unit)))) ds fun x4 ds => pop (.slice (.int .i64)) ds fun x5 ds => popN ds ((slices_IndexFunc___api_Step_api_Step_.f k x0 x1 x2 x3 x4 x5).bind fun r => K (slices_IndexFunc___api_Step_api_Step_.rs r))) env0)
def slices_ContainsFunc___api_Step_api_Step_.tbl : List (Nat × Tm × (Nat → List Dat → Option (Bool × Int × Int × (List Int) × (List (Int × (Int × (Int × Unit)))) × (List Int)))) := []
noncomputable abbrev slices_ContainsFunc___api_Step_api_Step_.R (k : Nat) := run T (slices_ContainsFunc___api_Step_api_Step_.env k) Try.f137.ntmps (cutE 2 slices_ContainsFunc___api_Step_api_Step_.tbl k) (finE 2 slices_ContainsFunc___api_Step_api_Step_.to slices_ContainsFunc___api_Step_api_Step_.out) (fnRes Try.f137) [] 100000 true
theorem slices_ContainsFunc___api_Step_api_Step_.e (k : Nat) (x0 : (List (Int × (Int × (Int × Unit))))) (x1 : Int) (x2 : Int) (x3 : (List Int)) (x4 : (List (Int × (Int × (Int × Unit))))) (x5 : (List Int)) : slices_ContainsFunc___api_Step_api_Step_.f k x0 x1 x2 x3 x4 x5 = slices_ContainsFunc___api_Step_api_Step_.R k ([.code slices_ContainsFunc___api_Step_api_Step_.body]) (slices_ContainsFunc___api_Step_api_Step_.ti.fill [⟨(.slice (.pair (.int .i64) (.pair (.int .i64) (.pair (.int .i64) .unit)))), x0⟩, ⟨(.int .i64), x1⟩, ⟨(.int .i64), x2⟩, ⟨(.slice (.int .i64)), x3⟩, ⟨(.slice (.pair (.int .i64) (.pair (.int .i64) (.pair (.int .i64) .unit)))), x4⟩, ⟨(.slice (.int .i64)), x5⟩]) := by kernel_rfl
theorem slices_ContainsFunc___api_Step_api_Step_.h (k : Nat) (ds : List Dat) (r : Bool × Int × Int × (List Int) × (List (Int × (Int × (Int × Unit)))) × (List Int)) (h : slices_ContainsFunc___api_Step_api_Step_.g k ds = some r) : ∃ k', k' < k ∧ slices_ContainsFunc___api_Step_api_Step_.R k' ([.code slices_ContainsFunc___api_Step_api_Step_.body]) (slices_ContainsFunc___api_Step_api_Step_.ti.fill ds) = some r := by
  cases k with
  | zero => cases (show none = some r from h)
  | succ k =>
  replace h : slices_ContainsFunc___api_Step_api_Step_.c k ds = some r := h
  unfold slices_ContainsFunc___api_Step_api_Step_.c at h
  obtain ⟨x0, d0, rfl, h0⟩ := pop_some h
  obtain ⟨x1, d1, rfl, h1⟩ := pop_some h0
  obtain ⟨x2, d2, rfl, h2⟩ := pop_some h1
  obtain ⟨x3, d3, rfl, h3⟩ := pop_some h2
  obtain ⟨x4, d4, rfl, h4⟩ := pop_some h3
  obtain ⟨x5, d5, rfl, h5⟩ := pop_some h4
  obtain ⟨rfl, g⟩ := popN_some h5
  exact ⟨k, Nat.lt_succ_self k, (slices_ContainsFunc___api_Step_api_Step_.e k x0 x1 x2 x3 x4 x5).symm.trans g⟩
theorem slices_ContainsFunc___api_Step_api_Step_.o (ds : List Dat) (r : Bool × Int × Int × (List Int) × (List (Int × (Int × (Int × Unit)))) × (List Int)) (h : slices_ContainsFunc___api_Step_api_Step_.out ds = some r) : ds = slices_ContainsFunc___api_Step_api_Step_.rs r := by
  unfold slices_ContainsFunc___api_Step_api_Step_.out at h
  obtain ⟨x0, d0, rfl, h0⟩ := pop_some h
  obtain ⟨x1, d1, rfl, h1⟩ := pop_some h0
  obtain ⟨x2, d2, rfl, h2⟩ := pop_some h1
  obtain ⟨x3, d3, rfl, h3⟩ := pop_some h2
  obtain ⟨x4, d4, rfl, h4⟩ := pop_some h3
  obtain ⟨x5, d5, rfl, h5⟩ := pop_some h4
  obtain ⟨rfl, g⟩ := popN_some h5
  cases g
  rfl
theorem slices_ContainsFunc___api_Step_api_Step_.fn : FnOk Try.prog 137 Try.f137 slices_ContainsFunc___api_Step_api_Step_.body Try.f137.ntmps 2 (fnRes Try.f137) :=
  fnOk_of (by kernel_rfl) (by kernel_rfl) (by kernel_rfl) (by kernel_rfl)
theorem slices_ContainsFunc___api_Step_api_Step_.con' : ∀ k ds r, slices_ContainsFunc___api_Step_api_Step_.g k ds = some r → Con Try.prog 137 2 slices_ContainsFunc___api_Step_api_Step_.ti slices_ContainsFunc___api_Step_api_Step_.to ds (slices_ContainsFunc___api_Step_api_Step_.rs r) :=
  fun_ok (T := T) T_ok mixed slices_ContainsFunc___api_Step_api_Step_.fn (env := slices_ContainsFunc___api_Step_api_Step_.env) (tbl := slices_ContainsFunc___api_Step_api_Step_.tbl) (gOut := slices_ContainsFunc___api_Step_api_Step_.out) (nin := 2) (cuts := []) (fuel := 100000) rfl (by kernel_rfl) (by kernel_rfl) (by kernel_rfl) (fun x hx => by simp [slices_ContainsFunc___api_Step_api_Step_.tbl] at hx) slices_ContainsFunc___api_Step_api_Step_.o slices_ContainsFunc___api_Step_api_Step_.h (fun k _ => by unfold slices_ContainsFunc___api_Step_api_Step_.env; exact (envC_ok (fun ds K r h => by
    obtain ⟨x0, d0, rfl, h0⟩ := pop_some h
    obtain ⟨x1, d1, rfl, h1⟩ := pop_some h0
    obtain ⟨x2, d2, rfl, h2⟩ := pop_some h1
    obtain ⟨x3, d3, rfl, h3⟩ := pop_some h2
    obtain ⟨x4, d4, rfl, h4⟩ := pop_some h3
    obtain ⟨x5, d5, rfl, h5⟩ := pop_some h4
    obtain ⟨rfl, g⟩ := popN_some h5
    obtain ⟨r1, h1, h2⟩ := bind_some g
    exact ⟨_, h2, slices_IndexFunc___api_Step_api_Step_.con k _ h1⟩) env0_ok))
theorem slices_ContainsFunc___api_Step_api_Step_.con (k : Nat) {x0 : (List (Int × (Int × (Int × Unit))))} {x1 : Int} {x2 : Int} {x3 : (List Int)} {x4 : (List (Int × (Int × (Int × Unit))))} {x5 : (List Int)} (r : Bool × Int × Int × (List Int) × (List (Int × (Int × (Int × Unit)))) × (List Int)) (h : slices_ContainsFunc___api_Step_api_Step_.f k x0 x1 x2 x3 x4 x5 = some r) : Con Try.prog 137 2 slices_ContainsFunc___api_Step_api_Step_.ti slices_ContainsFunc___api_Step_api_Step_.to [⟨(.slice (.pair (.int .i64) (.pair (.int .i64) (.pair (.int .i64) .unit)))), x0⟩, ⟨(.int .i64), x1⟩, ⟨(.int .i64), x2⟩, ⟨(.slice (.int .i64)), x3⟩, ⟨(.slice (.pair (.int .i64) (.pair (.int .i64) (.pair (.int .i64) .unit)))), x4⟩, ⟨(.slice (.int .i64)), x5⟩] (slices_ContainsFunc___api_Step_api_Step_.rs r) :=
  slices_ContainsFunc___api_Step_api_Step_.con' (k + 1) _ r (by show slices_ContainsFunc___api_Step_api_Step_.c k _ = some r; unfold slices_ContainsFunc___api_Step_api_Step_.c; simp only [pop_self, popN]; exact h)
mutual
def buchi_rising.l2 : Nat → List (Int) → Int → Int → Option (Bool)
 | 0, _, _, _ => none
 | k + 1, l0, x5, x6 =>
  if x6 < x5 then
   if 0 < x6 then
    if 0 ≤ Go.IntKind.i64.wrap (x6 - 1) then
    if Go.IntKind.i64.wrap (x6 - 1) < (↑l0.length : Int) then
     if 0 ≤ x6 then
      if x6 < (↑l0.length : Int) then
       if Go.Proofs.YtfkilmmldjajmaaSx.rd (Int.ofNat 0) l0 x6 ≤ Go.Proofs.YtfkilmmldjajmaaSx.rd (Int.ofNat 0) l0 (Go.IntKind.i64.wrap (x6 - 1)) then
         some (false)
        else
         buchi_rising.l2 k l0 x5 (Go.IntKind.i64.wrap (x6 + 1))
       else none
      else none
     else none
    else none
   else
    buchi_rising.l2 k l0 x5 (Go.IntKind.i64.wrap (x6 + 1))
  else
   some (true)
end
def buchi_rising.f (k : Nat) (l0 : List (Int)) : Option (Bool) :=
 buchi_rising.l2 k l0 ((↑l0.length : Int)) 0

noncomputable def buchi_rising.body : Code := fnBody Try.f139
def buchi_rising.ti : Tm := ⟨[(0, .p (.slice (.int .i64)))], []⟩
def buchi_rising.to : Tm := ⟨[(0, .p .bool)], []⟩
def buchi_rising.rs (r : Bool) : List Dat := [⟨.bool, r⟩]
def buchi_rising.out (ds : List Dat) : Option (Bool) := pop .bool ds fun x0 ds => popN ds (some (x0))
def buchi_rising.c (k : Nat) (ds : List Dat) : Option (Bool) := pop (.slice (.int .i64)) ds fun x0 ds => popN ds (buchi_rising.f k x0)
def buchi_rising.g : Nat → List Dat → Option (Bool)
 | 0, _ => none
 | k + 1, ds => buchi_rising.c k ds
def buchi_rising.env (k : Nat) : Nat → List SV → List Chunk → KT (Bool) → Option (Bool) := env0
def buchi_rising.t5 : Tm := ⟨[(0, .p (.slice (.int .i64))), (5, .p (.int .i64)), (6, .p (.int .i64))], []⟩
def buchi_rising.c5 (k : Nat) (ds : List Dat) : Option (Bool) := pop (.slice (.int .i64)) ds fun x0 ds => pop (.int .i64) ds fun x1 ds => pop (.int .i64) ds fun x2 ds => popN ds (buchi_rising.l2 k x0 x1 x2)
def buchi_rising.tbl : List (Nat × Tm × (Nat → List Dat → Option (Bool))) := [(5, buchi_rising.t5, buchi_rising.c5)]
noncomputable abbrev buchi_rising.R (k : Nat) := run T (buchi_rising.env k) Try.f139.ntmps (cutE 0 buchi_rising.tbl k) (finE 0 buchi_rising.to buchi_rising.out) (fnRes Try.f139) [] 100000 true
theorem buchi_rising.e5 (k : Nat) (x0 : (List Int)) (x1 : Int) (x2 : Int) : buchi_rising.l2 (k + 1) x0 x1 x2 = buchi_rising.R k (start (stackOf 5 buchi_rising.body)) (buchi_rising.t5.fill [⟨(.slice (.int .i64)), x0⟩, ⟨(.int .i64), x1⟩, ⟨(.int .i64), x2⟩]) := by kernel_rfl
theorem buchi_rising.s5 : stackAt 5 buchi_rising.body [] = some (stackOf 5 buchi_rising.body) := by kernel_rfl
theorem buchi_rising.h5 (k : Nat) (ds : List Dat) (r : Bool) (h : buchi_rising.c5 k ds = some r) : ∃ k', k' < k ∧ ∃ s, stackAt 5 buchi_rising.body [] = some s ∧ buchi_rising.R k' (start s) (buchi_rising.t5.fill ds) = some r := by
  unfold buchi_rising.c5 at h
  obtain ⟨x0, d0, rfl, h0⟩ := pop_some h
  obtain ⟨x1, d1, rfl, h1⟩ := pop_some h0
  obtain ⟨x2, d2, rfl, h2⟩ := pop_some h1
  obtain ⟨rfl, g⟩ := popN_some h2
  cases k with
  | zero => cases (show none = some r from g)
  | succ k => exact ⟨k, Nat.lt_succ_self k, _, buchi_rising.s5, (buchi_rising.e5 k x0 x1 x2).symm.trans g⟩
theorem buchi_rising.e (k : Nat) (x0 : (List Int)) : buchi_rising.f k x0 = buchi_rising.R k ([.code buchi_rising.body]) (buchi_rising.ti.fill [⟨(.slice (.int .i64)), x0⟩]) := by kernel_rfl
theorem buchi_rising.h (k : Nat) (ds : List Dat) (r : Bool) (h : buchi_rising.g k ds = some r) : ∃ k', k' < k ∧ buchi_rising.R k' ([.code buchi_rising.body]) (buchi_rising.ti.fill ds) = some r := by
  cases k with
  | zero => cases (show none = some r from h)
  | succ k =>
  replace h : buchi_rising.c k ds = some r := h
  unfold buchi_rising.c at h
  obtain ⟨x0, d0, rfl, h0⟩ := pop_some h
  obtain ⟨rfl, g⟩ := popN_some h0
  exact ⟨k, Nat.lt_succ_self k, (buchi_rising.e k x0).symm.trans g⟩
theorem buchi_rising.o (ds : List Dat) (r : Bool) (h : buchi_rising.out ds = some r) : ds = buchi_rising.rs r := by
  unfold buchi_rising.out at h
  obtain ⟨x0, d0, rfl, h0⟩ := pop_some h
  obtain ⟨rfl, g⟩ := popN_some h0
  cases g
  rfl
theorem buchi_rising.fn : FnOk Try.prog 139 Try.f139 buchi_rising.body Try.f139.ntmps 1 (fnRes Try.f139) :=
  fnOk_of (by kernel_rfl) (by kernel_rfl) (by kernel_rfl) (by kernel_rfl)
theorem buchi_rising.con' : ∀ k ds r, buchi_rising.g k ds = some r → Con Try.prog 139 1 buchi_rising.ti buchi_rising.to ds (buchi_rising.rs r) :=
  fun_ok (T := T) T_ok mixed buchi_rising.fn (env := buchi_rising.env) (tbl := buchi_rising.tbl) (gOut := buchi_rising.out) (nin := 0) (cuts := []) (fuel := 100000) rfl (by kernel_rfl) (by kernel_rfl) (by kernel_rfl) (fun x hx => by
    simp only [buchi_rising.tbl, List.mem_cons, List.not_mem_nil, or_false] at hx
    subst hx
    · exact buchi_rising.h5
) buchi_rising.o buchi_rising.h (fun k _ => by unfold buchi_rising.env; exact env0_ok)
theorem buchi_rising.con (k : Nat) {x0 : (List Int)} (r : Bool) (h : buchi_rising.f k x0 = some r) : Con Try.prog 139 1 buchi_rising.ti buchi_rising.to [⟨(.slice (.int .i64)), x0⟩] (buchi_rising.rs r) :=
  buchi_rising.con' (k + 1) _ r (by show buchi_rising.c k _ = some r; unfold buchi_rising.c; simp only [pop_self, popN]; exact h)
def cmp_isNaN_int_.f (k : Nat) (x0 : Int) : Option (Bool) :=
 some (!decide (x0 = x0))

noncomputable def cmp_isNaN_int_.body : Code := fnBody Try.f186
def cmp_isNaN_int_.ti : Tm := ⟨[(0, .p (.int .i64))], []⟩
def cmp_isNaN_int_.to : Tm := ⟨[(0, .p .bool)], []⟩
def cmp_isNaN_int_.rs (r : Bool) : List Dat := [⟨.bool, r⟩]
def cmp_isNaN_int_.out (ds : List Dat) : Option (Bool) := pop .bool ds fun x0 ds => popN ds (some (x0))
def cmp_isNaN_int_.c (k : Nat) (ds : List Dat) : Option (Bool) := pop (.int .i64) ds fun x0 ds => popN ds (cmp_isNaN_int_.f k x0)
def cmp_isNaN_int_.g : Nat → List Dat → Option (Bool)
 | 0, _ => none
 | k + 1, ds => cmp_isNaN_int_.c k ds
def cmp_isNaN_int_.env (k : Nat) : Nat → List SV → List Chunk → KT (Bool) → Option (Bool) := env0
def cmp_isNaN_int_.tbl : List (Nat × Tm × (Nat → List Dat → Option (Bool))) := []
noncomputable abbrev cmp_isNaN_int_.R (k : Nat) := run T (cmp_isNaN_int_.env k) Try.f186.ntmps (cutE 0 cmp_isNaN_int_.tbl k) (finE 0 cmp_isNaN_int_.to cmp_isNaN_int_.out) (fnRes Try.f186) [] 100000 true
theorem cmp_isNaN_int_.e (k : Nat) (x0 : Int) : cmp_isNaN_int_.f k x0 = cmp_isNaN_int_.R k ([.code cmp_isNaN_int_.body]) (cmp_isNaN_int_.ti.fill [⟨(.int .i64), x0⟩]) := by kernel_rfl
theorem cmp_isNaN_int_.h (k : Nat) (ds : List Dat) (r : Bool) (h : cmp_isNaN_int_.g k ds = some r) : ∃ k', k' < k ∧ cmp_isNaN_int_.R k' ([.code cmp_isNaN_int_.body]) (cmp_isNaN_int_.ti.fill ds) = some r := by
  cases k with
  | zero => cases (show none = some r from h)
  | succ k =>
  replace h : cmp_isNaN_int_.c k ds = some r := h
  unfold cmp_isNaN_int_.c at h
  obtain ⟨x0, d0, rfl, h0⟩ := pop_some h
  obtain ⟨rfl, g⟩ := popN_some h0
  exact ⟨k, Nat.lt_succ_self k, (cmp_isNaN_int_.e k x0).symm.trans g⟩
theorem cmp_isNaN_int_.o (ds : List Dat) (r : Bool) (h : cmp_isNaN_int_.out ds = some r) : ds = cmp_isNaN_int_.rs r := by
  unfold cmp_isNaN_int_.out at h
  obtain ⟨x0, d0, rfl, h0⟩ := pop_some h
  obtain ⟨rfl, g⟩ := popN_some h0
  cases g
  rfl
theorem cmp_isNaN_int_.fn : FnOk Try.prog 186 Try.f186 cmp_isNaN_int_.body Try.f186.ntmps 1 (fnRes Try.f186) :=
  fnOk_of (by kernel_rfl) (by kernel_rfl) (by kernel_rfl) (by kernel_rfl)
theorem cmp_isNaN_int_.con' : ∀ k ds r, cmp_isNaN_int_.g k ds = some r → Con Try.prog 186 1 cmp_isNaN_int_.ti cmp_isNaN_int_.to ds (cmp_isNaN_int_.rs r) :=
  fun_ok (T := T) T_ok mixed cmp_isNaN_int_.fn (env := cmp_isNaN_int_.env) (tbl := cmp_isNaN_int_.tbl) (gOut := cmp_isNaN_int_.out) (nin := 0) (cuts := []) (fuel := 100000) rfl (by kernel_rfl) (by kernel_rfl) (by kernel_rfl) (fun x hx => by simp [cmp_isNaN_int_.tbl] at hx) cmp_isNaN_int_.o cmp_isNaN_int_.h (fun k _ => by unfold cmp_isNaN_int_.env; exact env0_ok)
theorem cmp_isNaN_int_.con (k : Nat) {x0 : Int} (r : Bool) (h : cmp_isNaN_int_.f k x0 = some r) : Con Try.prog 186 1 cmp_isNaN_int_.ti cmp_isNaN_int_.to [⟨(.int .i64), x0⟩] (cmp_isNaN_int_.rs r) :=
  cmp_isNaN_int_.con' (k + 1) _ r (by show cmp_isNaN_int_.c k _ = some r; unfold cmp_isNaN_int_.c; simp only [pop_self, popN]; exact h)
def cmp_Compare_int_.f (k : Nat) (x0 : Int) (y1 : Int) : Option (Int) :=
 (cmp_isNaN_int_.f k x0).bind fun r1 =>
  (cmp_isNaN_int_.f k y1).bind fun r2 =>
   if r1 = true then
    if r2 = true then
     some (0)
    else
     some (-1)
   else
    if r2 = true then
     some (1)
    else
     if x0 < y1 then
      some (-1)
     else
      if y1 < x0 then
       some (1)
      else
       some (0)

noncomputable def cmp_Compare_int_.body : Code := fnBody Try.f180
def cmp_Compare_int_.ti : Tm := ⟨[(0, .p (.int .i64)), (1, .p (.int .i64))], []⟩
def cmp_Compare_int_.to : Tm := ⟨[(0, .p (.int .i64))], []⟩
def cmp_Compare_int_.rs (r : Int) : List Dat := [⟨(.int .i64), r⟩]
def cmp_Compare_int_.out (ds : List Dat) : Option (Int) := pop (.int .i64) ds fun x0 ds => popN ds (some (x0))
def cmp_Compare_int_.c (k : Nat) (ds : List Dat) : Option (Int) := pop (.int .i64) ds fun x0 ds => pop (.int .i64) ds fun x1 ds => popN ds (cmp_Compare_int_.f k x0 x1)
def cmp_Compare_int_.g : Nat → List Dat → Option (Int)
 | 0, _ => none
 | k + 1, ds => cmp_Compare_int_.c k ds
def cmp_Compare_int_.env (k : Nat) : Nat → List SV → List Chunk → KT (Int) → Option (Int) := (envC 186 1 cmp_isNaN_int_.ti cmp_isNaN_int_.to (fun ds K => pop (.int .i64) ds fun x0 ds => popN ds ((cmp_isNaN_int_.f k x0).bind fun r => K (cmp_isNaN_int_.rs r))) env0)
def cmp_Compare_int_.tbl : List (Nat × Tm × (Nat → List Dat → Option (Int))) := []
noncomputable abbrev cmp_Compare_int_.R (k : Nat) := run T (cmp_Compare_int_.env k) Try.f180.ntmps (cutE 0 cmp_Compare_int_.tbl k) (finE 0 cmp_Compare_int_.to cmp_Compare_int_.out) (fnRes Try.f180) [] 100000 true
theorem cmp_Compare_int_.e (k : Nat) (x0 : Int) (x1 : Int) : cmp_Compare_int_.f k x0 x1 = cmp_Compare_int_.R k ([.code cmp_Compare_int_.body]) (cmp_Compare_int_.ti.fill [⟨(.int .i64), x0⟩, ⟨(.int .i64), x1⟩]) := by kernel_rfl
theorem cmp_Compare_int_.h (k : Nat) (ds : List Dat) (r : Int) (h : cmp_Compare_int_.g k ds = some r) : ∃ k', k' < k ∧ cmp_Compare_int_.R k' ([.code cmp_Compare_int_.body]) (cmp_Compare_int_.ti.fill ds) = some r := by
  cases k with
  | zero => cases (show none = some r from h)
  | succ k =>
  replace h : cmp_Compare_int_.c k ds = some r := h
  unfold cmp_Compare_int_.c at h
  obtain ⟨x0, d0, rfl, h0⟩ := pop_some h
  obtain ⟨x1, d1, rfl, h1⟩ := pop_some h0
  obtain ⟨rfl, g⟩ := popN_some h1
  exact ⟨k, Nat.lt_succ_self k, (cmp_Compare_int_.e k x0 x1).symm.trans g⟩
theorem cmp_Compare_int_.o (ds : List Dat) (r : Int) (h : cmp_Compare_int_.out ds = some r) : ds = cmp_Compare_int_.rs r := by
  unfold cmp_Compare_int_.out at h
  obtain ⟨x0, d0, rfl, h0⟩ := pop_some h
  obtain ⟨rfl, g⟩ := popN_some h0
  cases g
  rfl
theorem cmp_Compare_int_.fn : FnOk Try.prog 180 Try.f180 cmp_Compare_int_.body Try.f180.ntmps 2 (fnRes Try.f180) :=
  fnOk_of (by kernel_rfl) (by kernel_rfl) (by kernel_rfl) (by kernel_rfl)
theorem cmp_Compare_int_.con' : ∀ k ds r, cmp_Compare_int_.g k ds = some r → Con Try.prog 180 2 cmp_Compare_int_.ti cmp_Compare_int_.to ds (cmp_Compare_int_.rs r) :=
  fun_ok (T := T) T_ok mixed cmp_Compare_int_.fn (env := cmp_Compare_int_.env) (tbl := cmp_Compare_int_.tbl) (gOut := cmp_Compare_int_.out) (nin := 0) (cuts := []) (fuel := 100000) rfl (by kernel_rfl) (by kernel_rfl) (by kernel_rfl) (fun x hx => by simp [cmp_Compare_int_.tbl] at hx) cmp_Compare_int_.o cmp_Compare_int_.h (fun k _ => by unfold cmp_Compare_int_.env; exact (envC_ok (fun ds K r h => by
    obtain ⟨x0, d0, rfl, h0⟩ := pop_some h
    obtain ⟨rfl, g⟩ := popN_some h0
    obtain ⟨r1, h1, h2⟩ := bind_some g
    exact ⟨_, h2, cmp_isNaN_int_.con k _ h1⟩) env0_ok))
theorem cmp_Compare_int_.con (k : Nat) {x0 : Int} {x1 : Int} (r : Int) (h : cmp_Compare_int_.f k x0 x1 = some r) : Con Try.prog 180 2 cmp_Compare_int_.ti cmp_Compare_int_.to [⟨(.int .i64), x0⟩, ⟨(.int .i64), x1⟩] (cmp_Compare_int_.rs r) :=
  cmp_Compare_int_.con' (k + 1) _ r (by show cmp_Compare_int_.c k _ = some r; unfold cmp_Compare_int_.c; simp only [pop_self, popN]; exact h)
mutual
def cmp_Or_int_.l3 : Nat → Int → List (Int) → Int → Int → Option (Int)
 | 0, _, _, _, _ => none
 | k + 1, zero3, x6, x7, x8 =>
  if x8 < x7 then
   if 0 ≤ x8 then
   if x8 < (↑x6.length : Int) then
    if Go.Proofs.YtfkilmmldjajmaaSx.rd (Int.ofNat 0) x6 x8 = zero3 then
      cmp_Or_int_.l3 k zero3 x6 x7 (Go.IntKind.i64.wrap (x8 + 1))
     else
      some (Go.Proofs.YtfkilmmldjajmaaSx.rd (Int.ofNat 0) x6 x8)
    else none
   else none
  else
   some (zero3)
end
def cmp_Or_int_.f (k : Nat) (vals0 : List (Int)) : Option (Int) :=
 cmp_Or_int_.l3 k 0 vals0 ((↑vals0.length : Int)) 0

noncomputable def cmp_Or_int_.body : Code := fnBody Try.f179
def cmp_Or_int_.ti : Tm := ⟨[(0, .p (.slice (.int .i64)))], []⟩
def cmp_Or_int_.to : Tm := ⟨[(0, .p (.int .i64))], []⟩
def cmp_Or_int_.rs (r : Int) : List Dat := [⟨(.int .i64), r⟩]
def cmp_Or_int_.out (ds : List Dat) : Option (Int) := pop (.int .i64) ds fun x0 ds => popN ds (some (x0))
def cmp_Or_int_.c (k : Nat) (ds : List Dat) : Option (Int) := pop (.slice (.int .i64)) ds fun x0 ds => popN ds (cmp_Or_int_.f k x0)
def cmp_Or_int_.g : Nat → List Dat → Option (Int)
 | 0, _ => none
 | k + 1, ds => cmp_Or_int_.c k ds
def cmp_Or_int_.env (k : Nat) : Nat → List SV → List Chunk → KT (Int) → Option (Int) := env0
def cmp_Or_int_.t7 : Tm := ⟨[(3, .p (.int .i64)), (6, .p (.slice (.int .i64))), (7, .p (.int .i64)), (8, .p (.int .i64))], []⟩
def cmp_Or_int_.c7 (k : Nat) (ds : List Dat) : Option (Int) := pop (.int .i64) ds fun x0 ds => pop (.slice (.int .i64)) ds fun x1 ds => pop (.int .i64) ds fun x2 ds => pop (.int .i64) ds fun x3 ds => popN ds (cmp_Or_int_.l3 k x0 x1 x2 x3)
def cmp_Or_int_.tbl : List (Nat × Tm × (Nat → List Dat → Option (Int))) := [(7, cmp_Or_int_.t7, cmp_Or_int_.c7)]
noncomputable abbrev cmp_Or_int_.R (k : Nat) := run T (cmp_Or_int_.env k) Try.f179.ntmps (cutE 0 cmp_Or_int_.tbl k) (finE 0 cmp_Or_int_.to cmp_Or_int_.out) (fnRes Try.f179) [] 100000 true
theorem cmp_Or_int_.e7 (k : Nat) (x0 : Int) (x1 : (List Int)) (x2 : Int) (x3 : Int) : cmp_Or_int_.l3 (k + 1) x0 x1 x2 x3 = cmp_Or_int_.R k (start (stackOf 7 cmp_Or_int_.body)) (cmp_Or_int_.t7.fill [⟨(.int .i64), x0⟩, ⟨(.slice (.int .i64)), x1⟩, ⟨(.int .i64), x2⟩, ⟨(.int .i64), x3⟩]) := by kernel_rfl
theorem cmp_Or_int_.s7 : stackAt 7 cmp_Or_int_.body [] = some (stackOf 7 cmp_Or_int_.body) := by kernel_rfl
theorem cmp_Or_int_.h7 (k : Nat) (ds : List Dat) (r : Int) (h : cmp_Or_int_.c7 k ds = some r) : ∃ k', k' < k ∧ ∃ s, stackAt 7 cmp_Or_int_.body [] = some s ∧ cmp_Or_int_.R k' (start s) (cmp_Or_int_.t7.fill ds) = some r := by
  unfold cmp_Or_int_.c7 at h
  obtain ⟨x0, d0, rfl, h0⟩ := pop_some h
  obtain ⟨x1, d1, rfl, h1⟩ := pop_some h0
  obtain ⟨x2, d2, rfl, h2⟩ := pop_some h1
  obtain ⟨x3, d3, rfl, h3⟩ := pop_some h2
  obtain ⟨rfl, g⟩ := popN_some h3
  cases k with
  | zero => cases (show none = some r from g)
  | succ k => exact ⟨k, Nat.lt_succ_self k, _, cmp_Or_int_.s7, (cmp_Or_int_.e7 k x0 x1 x2 x3).symm.trans g⟩
theorem cmp_Or_int_.e (k : Nat) (x0 : (List Int)) : cmp_Or_int_.f k x0 = cmp_Or_int_.R k ([.code cmp_Or_int_.body]) (cmp_Or_int_.ti.fill [⟨(.slice (.int .i64)), x0⟩]) := by kernel_rfl
theorem cmp_Or_int_.h (k : Nat) (ds : List Dat) (r : Int) (h : cmp_Or_int_.g k ds = some r) : ∃ k', k' < k ∧ cmp_Or_int_.R k' ([.code cmp_Or_int_.body]) (cmp_Or_int_.ti.fill ds) = some r := by
  cases k with
  | zero => cases (show none = some r from h)
  | succ k =>
  replace h : cmp_Or_int_.c k ds = some r := h
  unfold cmp_Or_int_.c at h
  obtain ⟨x0, d0, rfl, h0⟩ := pop_some h
  obtain ⟨rfl, g⟩ := popN_some h0
  exact ⟨k, Nat.lt_succ_self k, (cmp_Or_int_.e k x0).symm.trans g⟩
theorem cmp_Or_int_.o (ds : List Dat) (r : Int) (h : cmp_Or_int_.out ds = some r) : ds = cmp_Or_int_.rs r := by
  unfold cmp_Or_int_.out at h
  obtain ⟨x0, d0, rfl, h0⟩ := pop_some h
  obtain ⟨rfl, g⟩ := popN_some h0
  cases g
  rfl
theorem cmp_Or_int_.fn : FnOk Try.prog 179 Try.f179 cmp_Or_int_.body Try.f179.ntmps 1 (fnRes Try.f179) :=
  fnOk_of (by kernel_rfl) (by kernel_rfl) (by kernel_rfl) (by kernel_rfl)
theorem cmp_Or_int_.con' : ∀ k ds r, cmp_Or_int_.g k ds = some r → Con Try.prog 179 1 cmp_Or_int_.ti cmp_Or_int_.to ds (cmp_Or_int_.rs r) :=
  fun_ok (T := T) T_ok mixed cmp_Or_int_.fn (env := cmp_Or_int_.env) (tbl := cmp_Or_int_.tbl) (gOut := cmp_Or_int_.out) (nin := 0) (cuts := []) (fuel := 100000) rfl (by kernel_rfl) (by kernel_rfl) (by kernel_rfl) (fun x hx => by
    simp only [cmp_Or_int_.tbl, List.mem_cons, List.not_mem_nil, or_false] at hx
    subst hx
    · exact cmp_Or_int_.h7
) cmp_Or_int_.o cmp_Or_int_.h (fun k _ => by unfold cmp_Or_int_.env; exact env0_ok)
theorem cmp_Or_int_.con (k : Nat) {x0 : (List Int)} (r : Int) (h : cmp_Or_int_.f k x0 = some r) : Con Try.prog 179 1 cmp_Or_int_.ti cmp_Or_int_.to [⟨(.slice (.int .i64)), x0⟩] (cmp_Or_int_.rs r) :=
  cmp_Or_int_.con' (k + 1) _ r (by show cmp_Or_int_.c k _ = some r; unfold cmp_Or_int_.c; simp only [pop_self, popN]; exact h)
def buchi_order.f (k : Nat) (x0 : (Int × (Int × (Int × Unit)))) (y1 : (Int × (Int × (Int × Unit)))) : Option (Int) :=
 (cmp_Compare_int_.f k x0.fst y1.fst).bind fun r1 =>
  (cmp_Compare_int_.f k x0.snd.fst y1.snd.fst).bind fun r2 =>
   (cmp_Compare_int_.f k x0.snd.snd.fst y1.snd.snd.fst).bind fun r3 =>
    (cmp_Or_int_.f k [r1, r2, r3]).bind fun r4 =>
     some (r4)

noncomputable def buchi_order.body : Code := fnBody Try.f140
def buchi_order.ti : Tm := ⟨[(0, .p (.pair (.int .i64) (.pair (.int .i64) (.pair (.int .i64) .unit)))), (1, .p (.pair (.int .i64) (.pair (.int .i64) (.pair (.int .i64) .unit))))], []⟩
def buchi_order.to : Tm := ⟨[(0, .p (.int .i64))], []⟩
def buchi_order.rs (r : Int) : List Dat := [⟨(.int .i64), r⟩]
def buchi_order.out (ds : List Dat) : Option (Int) := pop (.int .i64) ds fun x0 ds => popN ds (some (x0))
def buchi_order.c (k : Nat) (ds : List Dat) : Option (Int) := pop (.pair (.int .i64) (.pair (.int .i64) (.pair (.int .i64) .unit))) ds fun x0 ds => pop (.pair (.int .i64) (.pair (.int .i64) (.pair (.int .i64) .unit))) ds fun x1 ds => popN ds (buchi_order.f k x0 x1)
def buchi_order.g : Nat → List Dat → Option (Int)
 | 0, _ => none
 | k + 1, ds => buchi_order.c k ds
def buchi_order.env (k : Nat) : Nat → List SV → List Chunk → KT (Int) → Option (Int) := (envC 180 2 cmp_Compare_int_.ti cmp_Compare_int_.to (fun ds K => pop (.int .i64) ds fun x0 ds => pop (.int .i64) ds fun x1 ds => popN ds ((cmp_Compare_int_.f k x0 x1).bind fun r => K (cmp_Compare_int_.rs r))) (envC 179 1 cmp_Or_int_.ti cmp_Or_int_.to (fun ds K => pop (.slice (.int .i64)) ds fun x0 ds => popN ds ((cmp_Or_int_.f k x0).bind fun r => K (cmp_Or_int_.rs r))) env0))
def buchi_order.tbl : List (Nat × Tm × (Nat → List Dat → Option (Int))) := []
noncomputable abbrev buchi_order.R (k : Nat) := run T (buchi_order.env k) Try.f140.ntmps (cutE 0 buchi_order.tbl k) (finE 0 buchi_order.to buchi_order.out) (fnRes Try.f140) [] 100000 true
theorem buchi_order.e (k : Nat) (x0 : (Int × (Int × (Int × Unit)))) (x1 : (Int × (Int × (Int × Unit)))) : buchi_order.f k x0 x1 = buchi_order.R k ([.code buchi_order.body]) (buchi_order.ti.fill [⟨(.pair (.int .i64) (.pair (.int .i64) (.pair (.int .i64) .unit))), x0⟩, ⟨(.pair (.int .i64) (.pair (.int .i64) (.pair (.int .i64) .unit))), x1⟩]) := by kernel_rfl
theorem buchi_order.h (k : Nat) (ds : List Dat) (r : Int) (h : buchi_order.g k ds = some r) : ∃ k', k' < k ∧ buchi_order.R k' ([.code buchi_order.body]) (buchi_order.ti.fill ds) = some r := by
  cases k with
  | zero => cases (show none = some r from h)
  | succ k =>
  replace h : buchi_order.c k ds = some r := h
  unfold buchi_order.c at h
  obtain ⟨x0, d0, rfl, h0⟩ := pop_some h
  obtain ⟨x1, d1, rfl, h1⟩ := pop_some h0
  obtain ⟨rfl, g⟩ := popN_some h1
  exact ⟨k, Nat.lt_succ_self k, (buchi_order.e k x0 x1).symm.trans g⟩
theorem buchi_order.o (ds : List Dat) (r : Int) (h : buchi_order.out ds = some r) : ds = buchi_order.rs r := by
  unfold buchi_order.out at h
  obtain ⟨x0, d0, rfl, h0⟩ := pop_some h
  obtain ⟨rfl, g⟩ := popN_some h0
  cases g
  rfl
theorem buchi_order.fn : FnOk Try.prog 140 Try.f140 buchi_order.body Try.f140.ntmps 2 (fnRes Try.f140) :=
  fnOk_of (by kernel_rfl) (by kernel_rfl) (by kernel_rfl) (by kernel_rfl)
theorem buchi_order.con' : ∀ k ds r, buchi_order.g k ds = some r → Con Try.prog 140 2 buchi_order.ti buchi_order.to ds (buchi_order.rs r) :=
  fun_ok (T := T) T_ok mixed buchi_order.fn (env := buchi_order.env) (tbl := buchi_order.tbl) (gOut := buchi_order.out) (nin := 0) (cuts := []) (fuel := 100000) rfl (by kernel_rfl) (by kernel_rfl) (by kernel_rfl) (fun x hx => by simp [buchi_order.tbl] at hx) buchi_order.o buchi_order.h (fun k _ => by unfold buchi_order.env; exact (envC_ok (fun ds K r h => by
    obtain ⟨x0, d0, rfl, h0⟩ := pop_some h
    obtain ⟨x1, d1, rfl, h1⟩ := pop_some h0
    obtain ⟨rfl, g⟩ := popN_some h1
    obtain ⟨r1, h1, h2⟩ := bind_some g
    exact ⟨_, h2, cmp_Compare_int_.con k _ h1⟩) (envC_ok (fun ds K r h => by
    obtain ⟨x0, d0, rfl, h0⟩ := pop_some h
    obtain ⟨rfl, g⟩ := popN_some h0
    obtain ⟨r1, h1, h2⟩ := bind_some g
    exact ⟨_, h2, cmp_Or_int_.con k _ h1⟩) env0_ok)))
theorem buchi_order.con (k : Nat) {x0 : (Int × (Int × (Int × Unit)))} {x1 : (Int × (Int × (Int × Unit)))} (r : Int) (h : buchi_order.f k x0 x1 = some r) : Con Try.prog 140 2 buchi_order.ti buchi_order.to [⟨(.pair (.int .i64) (.pair (.int .i64) (.pair (.int .i64) .unit))), x0⟩, ⟨(.pair (.int .i64) (.pair (.int .i64) (.pair (.int .i64) .unit))), x1⟩] (buchi_order.rs r) :=
  buchi_order.con' (k + 1) _ r (by show buchi_order.c k _ = some r; unfold buchi_order.c; simp only [pop_self, popN]; exact h)
mutual
def buchi_Check.l11 : Nat → Int → Int → Int → Int → List (Int) → List ((Int × (Int × (Int × Unit)))) → List (Int) → Option (Int)
 | 0, _, _, _, _, _, _, _ => none
 | k + 1, x56, x57, a1_0, a1_1, a1_2, a1_3, a1_4 =>
  if x57 < x56 then
   if 0 < x57 then
    if 0 ≤ Go.IntKind.i64.wrap (x57 - 1) then
    if Go.IntKind.i64.wrap (x57 - 1) < (↑a1_3.length : Int) then
     if 0 ≤ x57 then
      if x57 < (↑a1_3.length : Int) then
       (buchi_order.f k (Go.Proofs.YtfkilmmldjajmaaSx.rd (Int.ofNat 0, Int.ofNat 0, Int.ofNat 0, ()) a1_3 (Go.IntKind.i64.wrap (x57 - 1))) (Go.Proofs.YtfkilmmldjajmaaSx.rd (Int.ofNat 0, Int.ofNat 0, Int.ofNat 0, ()) a1_3 x57)).bind fun r8 =>
         if 0 ≤ r8 then
          some (3)
         else
          buchi_Check.l11 k x56 (Go.IntKind.i64.wrap (x57 + 1)) a1_0 a1_1 a1_2 a1_3 a1_4
       else none
      else none
     else none
    else none
   else
    buchi_Check.l11 k x56 (Go.IntKind.i64.wrap (x57 + 1)) a1_0 a1_1 a1_2 a1_3 a1_4
  else
   some (0)
end
def buchi_Check.f (k : Nat) (a0 : (Int × (Int × (List (Int) × (List ((Int × (Int × (Int × Unit)))) × (List (Int) × Unit)))))) : Option (Int) :=
 if a0.fst < 1 then
  some (2)
 else
  if 4 < a0.fst then
   some (2)
  else
   if a0.snd.fst < 1 then
    some (1)
   else
    if 300 < a0.snd.fst then
     some (1)
    else
     if 40000 < (↑a0.snd.snd.snd.fst.length : Int) then
      some (1)
     else
      (slices_ContainsFunc___int_int_.f k a0.snd.snd.fst a0.fst a0.snd.fst a0.snd.snd.fst a0.snd.snd.snd.fst a0.snd.snd.snd.snd.fst).bind fun r6 =>
       if r6.fst = true then
        some (2)
       else
        (slices_ContainsFunc___int_int_.f k r6.snd.snd.snd.snd.snd r6.snd.fst r6.snd.snd.fst r6.snd.snd.snd.fst r6.snd.snd.snd.snd.fst r6.snd.snd.snd.snd.snd).bind fun r8 =>
         if r8.fst = true then
          some (2)
         else
          (slices_ContainsFunc___api_Step_api_Step_.f k r8.snd.snd.snd.snd.fst r8.snd.fst r8.snd.snd.fst r8.snd.snd.snd.fst r8.snd.snd.snd.snd.fst r8.snd.snd.snd.snd.snd).bind fun r10 =>
           if r10.fst = true then
            some (2)
           else
            (buchi_rising.f k r10.snd.snd.snd.fst).bind fun r12 =>
             if r12 = true then
              (buchi_rising.f k r10.snd.snd.snd.snd.snd).bind fun r14 =>
               if r14 = true then
                buchi_Check.l11 k ((↑r10.snd.snd.snd.snd.fst.length : Int)) 0 r10.snd.fst r10.snd.snd.fst r10.snd.snd.snd.fst r10.snd.snd.snd.snd.fst r10.snd.snd.snd.snd.snd
               else
                some (3)
             else
              some (3)

noncomputable def buchi_Check.body : Code := fnBody Try.f67
def buchi_Check.ti : Tm := ⟨[(0, .p (.pair (.int .i64) (.pair (.int .i64) (.pair (.slice (.int .i64)) (.pair (.slice (.pair (.int .i64) (.pair (.int .i64) (.pair (.int .i64) .unit)))) (.pair (.slice (.int .i64)) .unit))))))], []⟩
def buchi_Check.to : Tm := ⟨[(0, .p (.int .i64))], []⟩
def buchi_Check.rs (r : Int) : List Dat := [⟨(.int .i64), r⟩]
def buchi_Check.out (ds : List Dat) : Option (Int) := pop (.int .i64) ds fun x0 ds => popN ds (some (x0))
def buchi_Check.c (k : Nat) (ds : List Dat) : Option (Int) := pop (.pair (.int .i64) (.pair (.int .i64) (.pair (.slice (.int .i64)) (.pair (.slice (.pair (.int .i64) (.pair (.int .i64) (.pair (.int .i64) .unit)))) (.pair (.slice (.int .i64)) .unit))))) ds fun x0 ds => popN ds (buchi_Check.f k x0)
def buchi_Check.g : Nat → List Dat → Option (Int)
 | 0, _ => none
 | k + 1, ds => buchi_Check.c k ds
def buchi_Check.env (k : Nat) : Nat → List SV → List Chunk → KT (Int) → Option (Int) := (envC 140 2 buchi_order.ti buchi_order.to (fun ds K => pop (.pair (.int .i64) (.pair (.int .i64) (.pair (.int .i64) .unit))) ds fun x0 ds => pop (.pair (.int .i64) (.pair (.int .i64) (.pair (.int .i64) .unit))) ds fun x1 ds => popN ds ((buchi_order.f k x0 x1).bind fun r => K (buchi_order.rs r))) (envC 74 2 slices_ContainsFunc___int_int_.ti slices_ContainsFunc___int_int_.to (fun ds K => pop (.slice (.int .i64)) ds fun x0 ds => pop (.int .i64) ds fun x1 ds => pop (.int .i64) ds fun x2 ds => pop (.slice (.int .i64)) ds fun x3 ds => pop (.slice (.pair (.int .i64) (.pair (.int .i64) (.pair (.int .i64) .unit)))) ds fun x4 ds => pop (.slice (.int .i64)) ds fun x5 ds => popN ds ((slices_ContainsFunc___int_int_.f k x0 x1 x2 x3 x4 x5).bind fun r => K (slices_ContainsFunc___int_int_.rs r))) (envC 137 2 slices_ContainsFunc___api_Step_api_Step_.ti slices_ContainsFunc___api_Step_api_Step_.to (fun ds K => pop (.slice (.pair (.int .i64) (.pair (.int .i64) (.pair (.int .i64) .unit)))) ds fun x0 ds => pop (.int .i64) ds fun x1 ds => pop (.int .i64) ds fun x2 ds => pop (.slice (.int .i64)) ds fun x3 ds => pop (.slice (.pair (.int .i64) (.pair (.int .i64) (.pair (.int .i64) .unit)))) ds fun x4 ds => pop (.slice (.int .i64)) ds fun x5 ds => popN ds ((slices_ContainsFunc___api_Step_api_Step_.f k x0 x1 x2 x3 x4 x5).bind fun r => K (slices_ContainsFunc___api_Step_api_Step_.rs r))) (envC 139 1 buchi_rising.ti buchi_rising.to (fun ds K => pop (.slice (.int .i64)) ds fun x0 ds => popN ds ((buchi_rising.f k x0).bind fun r => K (buchi_rising.rs r))) env0))))
def buchi_Check.t23 : Tm := ⟨[(1, .ptr 0 0), (56, .p (.int .i64)), (57, .p (.int .i64))], [.box [.p (.int .i64), .p (.int .i64), .p (.slice (.int .i64)), .p (.slice (.pair (.int .i64) (.pair (.int .i64) (.pair (.int .i64) .unit)))), .p (.slice (.int .i64))] 78]⟩
def buchi_Check.c23 (k : Nat) (ds : List Dat) : Option (Int) := pop (.int .i64) ds fun x0 ds => pop (.int .i64) ds fun x1 ds => pop (.int .i64) ds fun x2 ds => pop (.int .i64) ds fun x3 ds => pop (.slice (.int .i64)) ds fun x4 ds => pop (.slice (.pair (.int .i64) (.pair (.int .i64) (.pair (.int .i64) .unit)))) ds fun x5 ds => pop (.slice (.int .i64)) ds fun x6 ds => popN ds (buchi_Check.l11 k x0 x1 x2 x3 x4 x5 x6)
def buchi_Check.tbl : List (Nat × Tm × (Nat → List Dat → Option (Int))) := [(23, buchi_Check.t23, buchi_Check.c23)]
noncomputable abbrev buchi_Check.R (k : Nat) := run T (buchi_Check.env k) Try.f67.ntmps (cutE 0 buchi_Check.tbl k) (finE 0 buchi_Check.to buchi_Check.out) (fnRes Try.f67) [] 100000 true
theorem buchi_Check.e23 (k : Nat) (x0 : Int) (x1 : Int) (x2 : Int) (x3 : Int) (x4 : (List Int)) (x5 : (List (Int × (Int × (Int × Unit))))) (x6 : (List Int)) : buchi_Check.l11 (k + 1) x0 x1 x2 x3 x4 x5 x6 = buchi_Check.R k (start (stackOf 23 buchi_Check.body)) (buchi_Check.t23.fill [⟨(.int .i64), x0⟩, ⟨(.int .i64), x1⟩, ⟨(.int .i64), x2⟩, ⟨(.int .i64), x3⟩, ⟨(.slice (.int .i64)), x4⟩, ⟨(.slice (.pair (.int .i64) (.pair (.int .i64) (.pair (.int .i64) .unit)))), x5⟩, ⟨(.slice (.int .i64)), x6⟩]) := by kernel_rfl
theorem buchi_Check.s23 : stackAt 23 buchi_Check.body [] = some (stackOf 23 buchi_Check.body) := by kernel_rfl
theorem buchi_Check.h23 (k : Nat) (ds : List Dat) (r : Int) (h : buchi_Check.c23 k ds = some r) : ∃ k', k' < k ∧ ∃ s, stackAt 23 buchi_Check.body [] = some s ∧ buchi_Check.R k' (start s) (buchi_Check.t23.fill ds) = some r := by
  unfold buchi_Check.c23 at h
  obtain ⟨x0, d0, rfl, h0⟩ := pop_some h
  obtain ⟨x1, d1, rfl, h1⟩ := pop_some h0
  obtain ⟨x2, d2, rfl, h2⟩ := pop_some h1
  obtain ⟨x3, d3, rfl, h3⟩ := pop_some h2
  obtain ⟨x4, d4, rfl, h4⟩ := pop_some h3
  obtain ⟨x5, d5, rfl, h5⟩ := pop_some h4
  obtain ⟨x6, d6, rfl, h6⟩ := pop_some h5
  obtain ⟨rfl, g⟩ := popN_some h6
  cases k with
  | zero => cases (show none = some r from g)
  | succ k => exact ⟨k, Nat.lt_succ_self k, _, buchi_Check.s23, (buchi_Check.e23 k x0 x1 x2 x3 x4 x5 x6).symm.trans g⟩
theorem buchi_Check.e (k : Nat) (x0 : (Int × (Int × ((List Int) × ((List (Int × (Int × (Int × Unit)))) × ((List Int) × Unit)))))) : buchi_Check.f k x0 = buchi_Check.R k ([.code buchi_Check.body]) (buchi_Check.ti.fill [⟨(.pair (.int .i64) (.pair (.int .i64) (.pair (.slice (.int .i64)) (.pair (.slice (.pair (.int .i64) (.pair (.int .i64) (.pair (.int .i64) .unit)))) (.pair (.slice (.int .i64)) .unit))))), x0⟩]) := by kernel_rfl
theorem buchi_Check.h (k : Nat) (ds : List Dat) (r : Int) (h : buchi_Check.g k ds = some r) : ∃ k', k' < k ∧ buchi_Check.R k' ([.code buchi_Check.body]) (buchi_Check.ti.fill ds) = some r := by
  cases k with
  | zero => cases (show none = some r from h)
  | succ k =>
  replace h : buchi_Check.c k ds = some r := h
  unfold buchi_Check.c at h
  obtain ⟨x0, d0, rfl, h0⟩ := pop_some h
  obtain ⟨rfl, g⟩ := popN_some h0
  exact ⟨k, Nat.lt_succ_self k, (buchi_Check.e k x0).symm.trans g⟩
theorem buchi_Check.o (ds : List Dat) (r : Int) (h : buchi_Check.out ds = some r) : ds = buchi_Check.rs r := by
  unfold buchi_Check.out at h
  obtain ⟨x0, d0, rfl, h0⟩ := pop_some h
  obtain ⟨rfl, g⟩ := popN_some h0
  cases g
  rfl
theorem buchi_Check.fn : FnOk Try.prog 67 Try.f67 buchi_Check.body Try.f67.ntmps 1 (fnRes Try.f67) :=
  fnOk_of (by kernel_rfl) (by kernel_rfl) (by kernel_rfl) (by kernel_rfl)
theorem buchi_Check.con' : ∀ k ds r, buchi_Check.g k ds = some r → Con Try.prog 67 1 buchi_Check.ti buchi_Check.to ds (buchi_Check.rs r) :=
  fun_ok (T := T) T_ok mixed buchi_Check.fn (env := buchi_Check.env) (tbl := buchi_Check.tbl) (gOut := buchi_Check.out) (nin := 0) (cuts := []) (fuel := 100000) rfl (by kernel_rfl) (by kernel_rfl) (by kernel_rfl) (fun x hx => by
    simp only [buchi_Check.tbl, List.mem_cons, List.not_mem_nil, or_false] at hx
    subst hx
    · exact buchi_Check.h23
) buchi_Check.o buchi_Check.h (fun k _ => by unfold buchi_Check.env; exact (envC_ok (fun ds K r h => by
    obtain ⟨x0, d0, rfl, h0⟩ := pop_some h
    obtain ⟨x1, d1, rfl, h1⟩ := pop_some h0
    obtain ⟨rfl, g⟩ := popN_some h1
    obtain ⟨r1, h1, h2⟩ := bind_some g
    exact ⟨_, h2, buchi_order.con k _ h1⟩) (envC_ok (fun ds K r h => by
    obtain ⟨x0, d0, rfl, h0⟩ := pop_some h
    obtain ⟨x1, d1, rfl, h1⟩ := pop_some h0
    obtain ⟨x2, d2, rfl, h2⟩ := pop_some h1
    obtain ⟨x3, d3, rfl, h3⟩ := pop_some h2
    obtain ⟨x4, d4, rfl, h4⟩ := pop_some h3
    obtain ⟨x5, d5, rfl, h5⟩ := pop_some h4
    obtain ⟨rfl, g⟩ := popN_some h5
    obtain ⟨r1, h1, h2⟩ := bind_some g
    exact ⟨_, h2, slices_ContainsFunc___int_int_.con k _ h1⟩) (envC_ok (fun ds K r h => by
    obtain ⟨x0, d0, rfl, h0⟩ := pop_some h
    obtain ⟨x1, d1, rfl, h1⟩ := pop_some h0
    obtain ⟨x2, d2, rfl, h2⟩ := pop_some h1
    obtain ⟨x3, d3, rfl, h3⟩ := pop_some h2
    obtain ⟨x4, d4, rfl, h4⟩ := pop_some h3
    obtain ⟨x5, d5, rfl, h5⟩ := pop_some h4
    obtain ⟨rfl, g⟩ := popN_some h5
    obtain ⟨r1, h1, h2⟩ := bind_some g
    exact ⟨_, h2, slices_ContainsFunc___api_Step_api_Step_.con k _ h1⟩) (envC_ok (fun ds K r h => by
    obtain ⟨x0, d0, rfl, h0⟩ := pop_some h
    obtain ⟨rfl, g⟩ := popN_some h0
    obtain ⟨r1, h1, h2⟩ := bind_some g
    exact ⟨_, h2, buchi_rising.con k _ h1⟩) env0_ok)))))
theorem buchi_Check.con (k : Nat) {x0 : (Int × (Int × ((List Int) × ((List (Int × (Int × (Int × Unit)))) × ((List Int) × Unit)))))} (r : Int) (h : buchi_Check.f k x0 = some r) : Con Try.prog 67 1 buchi_Check.ti buchi_Check.to [⟨(.pair (.int .i64) (.pair (.int .i64) (.pair (.slice (.int .i64)) (.pair (.slice (.pair (.int .i64) (.pair (.int .i64) (.pair (.int .i64) .unit)))) (.pair (.slice (.int .i64)) .unit))))), x0⟩] (buchi_Check.rs r) :=
  buchi_Check.con' (k + 1) _ r (by show buchi_Check.c k _ = some r; unfold buchi_Check.c; simp only [pop_self, popN]; exact h)
mutual
def det_Made_1.l3 : Nat → Int → List (Int) → Int → Int → Option (Int)
 | 0, _, _, _, _ => none
 | k + 1, n3, x6, x7, x8 =>
  if x8 < x7 then
   if 0 ≤ x8 then
   if x8 < (↑x6.length : Int) then
    if 0 ≤ Go.Proofs.YtfkilmmldjajmaaSx.rd (Int.ofNat 0) x6 x8 then
     det_Made_1.l3 k (Go.IntKind.i64.wrap (↑(BitVec.ofInt Go.IntKind.i64.bits n3 ||| BitVec.ofInt Go.IntKind.i64.bits (Go.IntKind.i64.wrap (1 * 2 ^ min (Go.Proofs.YtfkilmmldjajmaaSx.rd (Int.ofNat 0) x6 x8).toNat Go.IntKind.i64.bits))).toNat : Int)) x6 x7 (Go.IntKind.i64.wrap (x8 + 1))
     else none
    else none
   else none
  else
   some (n3)
end
def det_Made_1.f (k : Nat) (l0 : List (Int)) : Option (Int) :=
 det_Made_1.l3 k 0 l0 ((↑l0.length : Int)) 0

noncomputable def det_Made_1.body : Code := fnBody Try.f142
def det_Made_1.ti : Tm := ⟨[(0, .p (.slice (.int .i64)))], []⟩
def det_Made_1.to : Tm := ⟨[(0, .p (.int .i64))], []⟩
def det_Made_1.rs (r : Int) : List Dat := [⟨(.int .i64), r⟩]
def det_Made_1.out (ds : List Dat) : Option (Int) := pop (.int .i64) ds fun x0 ds => popN ds (some (x0))
def det_Made_1.c (k : Nat) (ds : List Dat) : Option (Int) := pop (.slice (.int .i64)) ds fun x0 ds => popN ds (det_Made_1.f k x0)
def det_Made_1.g : Nat → List Dat → Option (Int)
 | 0, _ => none
 | k + 1, ds => det_Made_1.c k ds
def det_Made_1.env (k : Nat) : Nat → List SV → List Chunk → KT (Int) → Option (Int) := env0
def det_Made_1.t7 : Tm := ⟨[(3, .p (.int .i64)), (6, .p (.slice (.int .i64))), (7, .p (.int .i64)), (8, .p (.int .i64))], []⟩
def det_Made_1.c7 (k : Nat) (ds : List Dat) : Option (Int) := pop (.int .i64) ds fun x0 ds => pop (.slice (.int .i64)) ds fun x1 ds => pop (.int .i64) ds fun x2 ds => pop (.int .i64) ds fun x3 ds => popN ds (det_Made_1.l3 k x0 x1 x2 x3)
def det_Made_1.tbl : List (Nat × Tm × (Nat → List Dat → Option (Int))) := [(7, det_Made_1.t7, det_Made_1.c7)]
noncomputable abbrev det_Made_1.R (k : Nat) := run T (det_Made_1.env k) Try.f142.ntmps (cutE 0 det_Made_1.tbl k) (finE 0 det_Made_1.to det_Made_1.out) (fnRes Try.f142) [] 100000 true
theorem det_Made_1.e7 (k : Nat) (x0 : Int) (x1 : (List Int)) (x2 : Int) (x3 : Int) : det_Made_1.l3 (k + 1) x0 x1 x2 x3 = det_Made_1.R k (start (stackOf 7 det_Made_1.body)) (det_Made_1.t7.fill [⟨(.int .i64), x0⟩, ⟨(.slice (.int .i64)), x1⟩, ⟨(.int .i64), x2⟩, ⟨(.int .i64), x3⟩]) := by kernel_rfl
theorem det_Made_1.s7 : stackAt 7 det_Made_1.body [] = some (stackOf 7 det_Made_1.body) := by kernel_rfl
theorem det_Made_1.h7 (k : Nat) (ds : List Dat) (r : Int) (h : det_Made_1.c7 k ds = some r) : ∃ k', k' < k ∧ ∃ s, stackAt 7 det_Made_1.body [] = some s ∧ det_Made_1.R k' (start s) (det_Made_1.t7.fill ds) = some r := by
  unfold det_Made_1.c7 at h
  obtain ⟨x0, d0, rfl, h0⟩ := pop_some h
  obtain ⟨x1, d1, rfl, h1⟩ := pop_some h0
  obtain ⟨x2, d2, rfl, h2⟩ := pop_some h1
  obtain ⟨x3, d3, rfl, h3⟩ := pop_some h2
  obtain ⟨rfl, g⟩ := popN_some h3
  cases k with
  | zero => cases (show none = some r from g)
  | succ k => exact ⟨k, Nat.lt_succ_self k, _, det_Made_1.s7, (det_Made_1.e7 k x0 x1 x2 x3).symm.trans g⟩
theorem det_Made_1.e (k : Nat) (x0 : (List Int)) : det_Made_1.f k x0 = det_Made_1.R k ([.code det_Made_1.body]) (det_Made_1.ti.fill [⟨(.slice (.int .i64)), x0⟩]) := by kernel_rfl
theorem det_Made_1.h (k : Nat) (ds : List Dat) (r : Int) (h : det_Made_1.g k ds = some r) : ∃ k', k' < k ∧ det_Made_1.R k' ([.code det_Made_1.body]) (det_Made_1.ti.fill ds) = some r := by
  cases k with
  | zero => cases (show none = some r from h)
  | succ k =>
  replace h : det_Made_1.c k ds = some r := h
  unfold det_Made_1.c at h
  obtain ⟨x0, d0, rfl, h0⟩ := pop_some h
  obtain ⟨rfl, g⟩ := popN_some h0
  exact ⟨k, Nat.lt_succ_self k, (det_Made_1.e k x0).symm.trans g⟩
theorem det_Made_1.o (ds : List Dat) (r : Int) (h : det_Made_1.out ds = some r) : ds = det_Made_1.rs r := by
  unfold det_Made_1.out at h
  obtain ⟨x0, d0, rfl, h0⟩ := pop_some h
  obtain ⟨rfl, g⟩ := popN_some h0
  cases g
  rfl
theorem det_Made_1.fn : FnOk Try.prog 142 Try.f142 det_Made_1.body Try.f142.ntmps 1 (fnRes Try.f142) :=
  fnOk_of (by kernel_rfl) (by kernel_rfl) (by kernel_rfl) (by kernel_rfl)
theorem det_Made_1.con' : ∀ k ds r, det_Made_1.g k ds = some r → Con Try.prog 142 1 det_Made_1.ti det_Made_1.to ds (det_Made_1.rs r) :=
  fun_ok (T := T) T_ok mixed det_Made_1.fn (env := det_Made_1.env) (tbl := det_Made_1.tbl) (gOut := det_Made_1.out) (nin := 0) (cuts := []) (fuel := 100000) rfl (by kernel_rfl) (by kernel_rfl) (by kernel_rfl) (fun x hx => by
    simp only [det_Made_1.tbl, List.mem_cons, List.not_mem_nil, or_false] at hx
    subst hx
    · exact det_Made_1.h7
) det_Made_1.o det_Made_1.h (fun k _ => by unfold det_Made_1.env; exact env0_ok)
theorem det_Made_1.con (k : Nat) {x0 : (List Int)} (r : Int) (h : det_Made_1.f k x0 = some r) : Con Try.prog 142 1 det_Made_1.ti det_Made_1.to [⟨(.slice (.int .i64)), x0⟩] (det_Made_1.rs r) :=
  det_Made_1.con' (k + 1) _ r (by show det_Made_1.c k _ = some r; unfold det_Made_1.c; simp only [pop_self, popN]; exact h)
mutual
def det_Made_2.l3 : Nat → Int → Int → Int → List ((Int × (Int × (Int × Unit)))) → Int → Int → Int → Int → List (Int) → List ((Int × (Int × (Int × Unit)))) → List (Int) → Option (Int × Int × Int × List Int × List (Int × Int × Int × Unit) × List Int)
 | 0, _, _, _, _, _, _, _, _, _, _, _ => none
 | k + 1, s0, l1, to6, x10, x11, x12, c0_0, c0_1, c0_2, c0_3, c0_4 =>
  if x12 < x11 then
   if 0 ≤ x12 then
   if x12 < (↑x10.length : Int) then
    if (Go.Proofs.YtfkilmmldjajmaaSx.rd (Int.ofNat 0, Int.ofNat 0, Int.ofNat 0, ()) x10 x12).snd.fst = l1 then
      if 0 ≤ (Go.Proofs.YtfkilmmldjajmaaSx.rd (Int.ofNat 0, Int.ofNat 0, Int.ofNat 0, ()) x10 x12).fst then
      if Go.IntKind.i64.wrap (↑(BitVec.ofInt Go.IntKind.i64.bits (s0.fdiv (2 ^ min (Go.Proofs.YtfkilmmldjajmaaSx.rd (Int.ofNat 0, Int.ofNat 0, Int.ofNat 0, ()) x10 x12).fst.toNat Go.IntKind.i64.bits)) &&& BitVec.ofInt Go.IntKind.i64.bits 1).toNat : Int) = 1 then
        if 0 ≤ (Go.Proofs.YtfkilmmldjajmaaSx.rd (Int.ofNat 0, Int.ofNat 0, Int.ofNat 0, ()) x10 x12).snd.snd.fst then
        det_Made_2.j7 k s0 l1 (Go.IntKind.i64.wrap (↑(BitVec.ofInt Go.IntKind.i64.bits to6 ||| BitVec.ofInt Go.IntKind.i64.bits (Go.IntKind.i64.wrap (1 * 2 ^ min (Go.Proofs.YtfkilmmldjajmaaSx.rd (Int.ofNat 0, Int.ofNat 0, Int.ofNat 0, ()) x10 x12).snd.snd.fst.toNat Go.IntKind.i64.bits))).toNat : Int)) x10 x11 x12 c0_0 c0_1 c0_2 c0_3 c0_4
        else none
       else
        det_Made_2.j7 k s0 l1 to6 x10 x11 x12 c0_0 c0_1 c0_2 c0_3 c0_4
      else none
     else
      det_Made_2.j7 k s0 l1 to6 x10 x11 x12 c0_0 c0_1 c0_2 c0_3 c0_4
    else none
   else none
  else
   some (to6, c0_0, c0_1, c0_2, c0_3, c0_4)
def det_Made_2.j7 : Nat → Int → Int → Int → List ((Int × (Int × (Int × Unit)))) → Int → Int → Int → Int → List (Int) → List ((Int × (Int × (Int × Unit)))) → List (Int) → Option (Int × Int × Int × List Int × List (Int × Int × Int × Unit) × List Int)
 | 0, _, _, _, _, _, _, _, _, _, _, _ => none
 | k + 1, s0, l1, to6, x10, x11, x12, c0_0, c0_1, c0_2, c0_3, c0_4 =>
  det_Made_2.l3 k s0 l1 to6 x10 x11 (Go.IntKind.i64.wrap (x12 + 1)) c0_0 c0_1 c0_2 c0_3 c0_4
end
def det_Made_2.f (k : Nat) (s0 : Int) (l1 : Int) (x2_0 : Int) (x2_1 : Int) (x2_2 : List (Int)) (x2_3 : List ((Int × (Int × (Int × Unit))))) (x2_4 : List (Int)) : Option (Int × Int × Int × List Int × List (Int × Int × Int × Unit) × List Int) :=
 det_Made_2.l3 k s0 l1 0 x2_3 ((↑x2_3.length : Int)) 0 x2_0 x2_1 x2_2 x2_3 x2_4

noncomputable def det_Made_2.body : Code := fnBody Try.f143
def det_Made_2.ti : Tm := ⟨[(0, .p (.int .i64)), (1, .p (.int .i64)), (2, .ptr 0 0)], [.box [.p (.int .i64), .p (.int .i64), .p (.slice (.int .i64)), .p (.slice (.pair (.int .i64) (.pair (.int .i64) (.pair (.int .i64) .unit)))), .p (.slice (.int .i64))] 78]⟩
def det_Made_2.to : Tm := ⟨[(0, .p (.int .i64))], [.box [.p (.int .i64), .p (.int .i64), .p (.slice (.int .i64)), .p (.slice (.pair (.int .i64) (.pair (.int .i64) (.pair (.int .i64) .unit)))), .p (.slice (.int .i64))] 78]⟩
def det_Made_2.rs (r : Int × Int × Int × (List Int) × (List (Int × (Int × (Int × Unit)))) × (List Int)) : List Dat := [⟨(.int .i64), r.1⟩, ⟨(.int .i64), r.2.1⟩, ⟨(.int .i64), r.2.2.1⟩, ⟨(.slice (.int .i64)), r.2.2.2.1⟩, ⟨(.slice (.pair (.int .i64) (.pair (.int .i64) (.pair (.int .i64) .unit)))), r.2.2.2.2.1⟩, ⟨(.slice (.int .i64)), r.2.2.2.2.2⟩]
def det_Made_2.out (ds : List Dat) : Option (Int × Int × Int × (List Int) × (List (Int × (Int × (Int × Unit)))) × (List Int)) := pop (.int .i64) ds fun x0 ds => pop (.int .i64) ds fun x1 ds => pop (.int .i64) ds fun x2 ds => pop (.slice (.int .i64)) ds fun x3 ds => pop (.slice (.pair (.int .i64) (.pair (.int .i64) (.pair (.int .i64) .unit)))) ds fun x4 ds => pop (.slice (.int .i64)) ds fun x5 ds => popN ds (some (x0, x1, x2, x3, x4, x5))
def det_Made_2.c (k : Nat) (ds : List Dat) : Option (Int × Int × Int × (List Int) × (List (Int × (Int × (Int × Unit)))) × (List Int)) := pop (.int .i64) ds fun x0 ds => pop (.int .i64) ds fun x1 ds => pop (.int .i64) ds fun x2 ds => pop (.int .i64) ds fun x3 ds => pop (.slice (.int .i64)) ds fun x4 ds => pop (.slice (.pair (.int .i64) (.pair (.int .i64) (.pair (.int .i64) .unit)))) ds fun x5 ds => pop (.slice (.int .i64)) ds fun x6 ds => popN ds (det_Made_2.f k x0 x1 x2 x3 x4 x5 x6)
def det_Made_2.g : Nat → List Dat → Option (Int × Int × Int × (List Int) × (List (Int × (Int × (Int × Unit)))) × (List Int))
 | 0, _ => none
 | k + 1, ds => det_Made_2.c k ds
def det_Made_2.env (k : Nat) : Nat → List SV → List Chunk → KT (Int × Int × Int × (List Int) × (List (Int × (Int × (Int × Unit)))) × (List Int)) → Option (Int × Int × Int × (List Int) × (List (Int × (Int × (Int × Unit)))) × (List Int)) := env0
def det_Made_2.t7 : Tm := ⟨[(0, .p (.int .i64)), (1, .p (.int .i64)), (6, .p (.int .i64)), (10, .p (.slice (.pair (.int .i64) (.pair (.int .i64) (.pair (.int .i64) .unit))))), (11, .p (.int .i64)), (12, .p (.int .i64))], [.box [.p (.int .i64), .p (.int .i64), .p (.slice (.int .i64)), .p (.slice (.pair (.int .i64) (.pair (.int .i64) (.pair (.int .i64) .unit)))), .p (.slice (.int .i64))] 78]⟩
def det_Made_2.c7 (k : Nat) (ds : List Dat) : Option (Int × Int × Int × (List Int) × (List (Int × (Int × (Int × Unit)))) × (List Int)) := pop (.int .i64) ds fun x0 ds => pop (.int .i64) ds fun x1 ds => pop (.int .i64) ds fun x2 ds => pop (.slice (.pair (.int .i64) (.pair (.int .i64) (.pair (.int .i64) .unit)))) ds fun x3 ds => pop (.int .i64) ds fun x4 ds => pop (.int .i64) ds fun x5 ds => pop (.int .i64) ds fun x6 ds => pop (.int .i64) ds fun x7 ds => pop (.slice (.int .i64)) ds fun x8 ds => pop (.slice (.pair (.int .i64) (.pair (.int .i64) (.pair (.int .i64) .unit)))) ds fun x9 ds => pop (.slice (.int .i64)) ds fun x10 ds => popN ds (det_Made_2.l3 k x0 x1 x2 x3 x4 x5 x6 x7 x8 x9 x10)
def det_Made_2.t14 : Tm := ⟨[(0, .p (.int .i64)), (1, .p (.int .i64)), (6, .p (.int .i64)), (10, .p (.slice (.pair (.int .i64) (.pair (.int .i64) (.pair (.int .i64) .unit))))), (11, .p (.int .i64)), (12, .p (.int .i64))], [.box [.p (.int .i64), .p (.int .i64), .p (.slice (.int .i64)), .p (.slice (.pair (.int .i64) (.pair (.int .i64) (.pair (.int .i64) .unit)))), .p (.slice (.int .i64))] 78]⟩
def det_Made_2.c14 (k : Nat) (ds : List Dat) : Option (Int × Int × Int × (List Int) × (List (Int × (Int × (Int × Unit)))) × (List Int)) := pop (.int .i64) ds fun x0 ds => pop (.int .i64) ds fun x1 ds => pop (.int .i64) ds fun x2 ds => pop (.slice (.pair (.int .i64) (.pair (.int .i64) (.pair (.int .i64) .unit)))) ds fun x3 ds => pop (.int .i64) ds fun x4 ds => pop (.int .i64) ds fun x5 ds => pop (.int .i64) ds fun x6 ds => pop (.int .i64) ds fun x7 ds => pop (.slice (.int .i64)) ds fun x8 ds => pop (.slice (.pair (.int .i64) (.pair (.int .i64) (.pair (.int .i64) .unit)))) ds fun x9 ds => pop (.slice (.int .i64)) ds fun x10 ds => popN ds (det_Made_2.j7 k x0 x1 x2 x3 x4 x5 x6 x7 x8 x9 x10)
def det_Made_2.tbl : List (Nat × Tm × (Nat → List Dat → Option (Int × Int × Int × (List Int) × (List (Int × (Int × (Int × Unit)))) × (List Int)))) := [(7, det_Made_2.t7, det_Made_2.c7), (14, det_Made_2.t14, det_Made_2.c14)]
noncomputable abbrev det_Made_2.R (k : Nat) := run T (det_Made_2.env k) Try.f143.ntmps (cutE 1 det_Made_2.tbl k) (finE 1 det_Made_2.to det_Made_2.out) (fnRes Try.f143) [7] 100000 true
theorem det_Made_2.e7 (k : Nat) (x0 : Int) (x1 : Int) (x2 : Int) (x3 : (List (Int × (Int × (Int × Unit))))) (x4 : Int) (x5 : Int) (x6 : Int) (x7 : Int) (x8 : (List Int)) (x9 : (List (Int × (Int × (Int × Unit))))) (x10 : (List Int)) : det_Made_2.l3 (k + 1) x0 x1 x2 x3 x4 x5 x6 x7 x8 x9 x10 = det_Made_2.R k (start (stackOf 7 det_Made_2.body)) (det_Made_2.t7.fill [⟨(.int .i64), x0⟩, ⟨(.int .i64), x1⟩, ⟨(.int .i64), x2⟩, ⟨(.slice (.pair (.int .i64) (.pair (.int .i64) (.pair (.int .i64) .unit)))), x3⟩, ⟨(.int .i64), x4⟩, ⟨(.int .i64), x5⟩, ⟨(.int .i64), x6⟩, ⟨(.int .i64), x7⟩, ⟨(.slice (.int .i64)), x8⟩, ⟨(.slice (.pair (.int .i64) (.pair (.int .i64) (.pair (.int .i64) .unit)))), x9⟩, ⟨(.slice (.int .i64)), x10⟩]) := by kernel_rfl
theorem det_Made_2.s7 : stackAt 7 det_Made_2.body [] = some (stackOf 7 det_Made_2.body) := by kernel_rfl
theorem det_Made_2.h7 (k : Nat) (ds : List Dat) (r : Int × Int × Int × (List Int) × (List (Int × (Int × (Int × Unit)))) × (List Int)) (h : det_Made_2.c7 k ds = some r) : ∃ k', k' < k ∧ ∃ s, stackAt 7 det_Made_2.body [] = some s ∧ det_Made_2.R k' (start s) (det_Made_2.t7.fill ds) = some r := by
  unfold det_Made_2.c7 at h
  obtain ⟨x0, d0, rfl, h0⟩ := pop_some h
  obtain ⟨x1, d1, rfl, h1⟩ := pop_some h0
  obtain ⟨x2, d2, rfl, h2⟩ := pop_some h1
  obtain ⟨x3, d3, rfl, h3⟩ := pop_some h2
  obtain ⟨x4, d4, rfl, h4⟩ := pop_some h3
  obtain ⟨x5, d5, rfl, h5⟩ := pop_some h4
  obtain ⟨x6, d6, rfl, h6⟩ := pop_some h5
  obtain ⟨x7, d7, rfl, h7⟩ := pop_some h6
  obtain ⟨x8, d8, rfl, h8⟩ := pop_some h7
  obtain ⟨x9, d9, rfl, h9⟩ := pop_some h8
  obtain ⟨x10, d10, rfl, h10⟩ := pop_some h9
  obtain ⟨rfl, g⟩ := popN_some h10
  cases k with
  | zero => cases (show none = some r from g)
  | succ k => exact ⟨k, Nat.lt_succ_self k, _, det_Made_2.s7, (det_Made_2.e7 k x0 x1 x2 x3 x4 x5 x6 x7 x8 x9 x10).symm.trans g⟩
theorem det_Made_2.e14 (k : Nat) (x0 : Int) (x1 : Int) (x2 : Int) (x3 : (List (Int × (Int × (Int × Unit))))) (x4 : Int) (x5 : Int) (x6 : Int) (x7 : Int) (x8 : (List Int)) (x9 : (List (Int × (Int × (Int × Unit))))) (x10 : (List Int)) : det_Made_2.j7 (k + 1) x0 x1 x2 x3 x4 x5 x6 x7 x8 x9 x10 = det_Made_2.R k (start (stackOf 14 det_Made_2.body)) (det_Made_2.t14.fill [⟨(.int .i64), x0⟩, ⟨(.int .i64), x1⟩, ⟨(.int .i64), x2⟩, ⟨(.slice (.pair (.int .i64) (.pair (.int .i64) (.pair (.int .i64) .unit)))), x3⟩, ⟨(.int .i64), x4⟩, ⟨(.int .i64), x5⟩, ⟨(.int .i64), x6⟩, ⟨(.int .i64), x7⟩, ⟨(.slice (.int .i64)), x8⟩, ⟨(.slice (.pair (.int .i64) (.pair (.int .i64) (.pair (.int .i64) .unit)))), x9⟩, ⟨(.slice (.int .i64)), x10⟩]) := by kernel_rfl
theorem det_Made_2.s14 : stackAt 14 det_Made_2.body [] = some (stackOf 14 det_Made_2.body) := by kernel_rfl
theorem det_Made_2.h14 (k : Nat) (ds : List Dat) (r : Int × Int × Int × (List Int) × (List (Int × (Int × (Int × Unit)))) × (List Int)) (h : det_Made_2.c14 k ds = some r) : ∃ k', k' < k ∧ ∃ s, stackAt 14 det_Made_2.body [] = some s ∧ det_Made_2.R k' (start s) (det_Made_2.t14.fill ds) = some r := by
  unfold det_Made_2.c14 at h
  obtain ⟨x0, d0, rfl, h0⟩ := pop_some h
  obtain ⟨x1, d1, rfl, h1⟩ := pop_some h0
  obtain ⟨x2, d2, rfl, h2⟩ := pop_some h1
  obtain ⟨x3, d3, rfl, h3⟩ := pop_some h2
  obtain ⟨x4, d4, rfl, h4⟩ := pop_some h3
  obtain ⟨x5, d5, rfl, h5⟩ := pop_some h4
  obtain ⟨x6, d6, rfl, h6⟩ := pop_some h5
  obtain ⟨x7, d7, rfl, h7⟩ := pop_some h6
  obtain ⟨x8, d8, rfl, h8⟩ := pop_some h7
  obtain ⟨x9, d9, rfl, h9⟩ := pop_some h8
  obtain ⟨x10, d10, rfl, h10⟩ := pop_some h9
  obtain ⟨rfl, g⟩ := popN_some h10
  cases k with
  | zero => cases (show none = some r from g)
  | succ k => exact ⟨k, Nat.lt_succ_self k, _, det_Made_2.s14, (det_Made_2.e14 k x0 x1 x2 x3 x4 x5 x6 x7 x8 x9 x10).symm.trans g⟩
theorem det_Made_2.e (k : Nat) (x0 : Int) (x1 : Int) (x2 : Int) (x3 : Int) (x4 : (List Int)) (x5 : (List (Int × (Int × (Int × Unit))))) (x6 : (List Int)) : det_Made_2.f k x0 x1 x2 x3 x4 x5 x6 = det_Made_2.R k ([.code det_Made_2.body]) (det_Made_2.ti.fill [⟨(.int .i64), x0⟩, ⟨(.int .i64), x1⟩, ⟨(.int .i64), x2⟩, ⟨(.int .i64), x3⟩, ⟨(.slice (.int .i64)), x4⟩, ⟨(.slice (.pair (.int .i64) (.pair (.int .i64) (.pair (.int .i64) .unit)))), x5⟩, ⟨(.slice (.int .i64)), x6⟩]) := by kernel_rfl
theorem det_Made_2.h (k : Nat) (ds : List Dat) (r : Int × Int × Int × (List Int) × (List (Int × (Int × (Int × Unit)))) × (List Int)) (h : det_Made_2.g k ds = some r) : ∃ k', k' < k ∧ det_Made_2.R k' ([.code det_Made_2.body]) (det_Made_2.ti.fill ds) = some r := by
  cases k with
  | zero => cases (show none = some r from h)
  | succ k =>
  replace h : det_Made_2.c k ds = some r := h
  unfold det_Made_2.c at h
  obtain ⟨x0, d0, rfl, h0⟩ := pop_some h
  obtain ⟨x1, d1, rfl, h1⟩ := pop_some h0
  obtain ⟨x2, d2, rfl, h2⟩ := pop_some h1
  obtain ⟨x3, d3, rfl, h3⟩ := pop_some h2
  obtain ⟨x4, d4, rfl, h4⟩ := pop_some h3
  obtain ⟨x5, d5, rfl, h5⟩ := pop_some h4
  obtain ⟨x6, d6, rfl, h6⟩ := pop_some h5
  obtain ⟨rfl, g⟩ := popN_some h6
  exact ⟨k, Nat.lt_succ_self k, (det_Made_2.e k x0 x1 x2 x3 x4 x5 x6).symm.trans g⟩
theorem det_Made_2.o (ds : List Dat) (r : Int × Int × Int × (List Int) × (List (Int × (Int × (Int × Unit)))) × (List Int)) (h : det_Made_2.out ds = some r) : ds = det_Made_2.rs r := by
  unfold det_Made_2.out at h
  obtain ⟨x0, d0, rfl, h0⟩ := pop_some h
  obtain ⟨x1, d1, rfl, h1⟩ := pop_some h0
  obtain ⟨x2, d2, rfl, h2⟩ := pop_some h1
  obtain ⟨x3, d3, rfl, h3⟩ := pop_some h2
  obtain ⟨x4, d4, rfl, h4⟩ := pop_some h3
  obtain ⟨x5, d5, rfl, h5⟩ := pop_some h4
  obtain ⟨rfl, g⟩ := popN_some h5
  cases g
  rfl
theorem det_Made_2.fn : FnOk Try.prog 143 Try.f143 det_Made_2.body Try.f143.ntmps 3 (fnRes Try.f143) :=
  fnOk_of (by kernel_rfl) (by kernel_rfl) (by kernel_rfl) (by kernel_rfl)
theorem det_Made_2.con' : ∀ k ds r, det_Made_2.g k ds = some r → Con Try.prog 143 3 det_Made_2.ti det_Made_2.to ds (det_Made_2.rs r) :=
  fun_ok (T := T) T_ok mixed det_Made_2.fn (env := det_Made_2.env) (tbl := det_Made_2.tbl) (gOut := det_Made_2.out) (nin := 1) (cuts := [7]) (fuel := 100000) rfl (by kernel_rfl) (by kernel_rfl) (by kernel_rfl) (fun x hx => by
    simp only [det_Made_2.tbl, List.mem_cons, List.not_mem_nil, or_false] at hx
    rcases hx with rfl | rfl
    · exact det_Made_2.h7
    · exact det_Made_2.h14
) det_Made_2.o det_Made_2.h (fun k _ => by unfold det_Made_2.env; exact env0_ok)
theorem det_Made_2.con (k : Nat) {x0 : Int} {x1 : Int} {x2 : Int} {x3 : Int} {x4 : (List Int)} {x5 : (List (Int × (Int × (Int × Unit))))} {x6 : (List Int)} (r : Int × Int × Int × (List Int) × (List (Int × (Int × (Int × Unit)))) × (List Int)) (h : det_Made_2.f k x0 x1 x2 x3 x4 x5 x6 = some r) : Con Try.prog 143 3 det_Made_2.ti det_Made_2.to [⟨(.int .i64), x0⟩, ⟨(.int .i64), x1⟩, ⟨(.int .i64), x2⟩, ⟨(.int .i64), x3⟩, ⟨(.slice (.int .i64)), x4⟩, ⟨(.slice (.pair (.int .i64) (.pair (.int .i64) (.pair (.int .i64) .unit)))), x5⟩, ⟨(.slice (.int .i64)), x6⟩] (det_Made_2.rs r) :=
  det_Made_2.con' (k + 1) _ r (by show det_Made_2.c k _ = some r; unfold det_Made_2.c; simp only [pop_self, popN]; exact h)
def det_Made_3.f (k : Nat) (s0 : Int) (x1_0 : Int) : Option (Int × Int) :=
 some (if 1 < Go.IntKind.i64.wrap (↑(BitVec.ofInt Go.IntKind.i64.bits s0 &&& BitVec.ofInt Go.IntKind.i64.bits x1_0).toNat : Int) then 1 else Go.IntKind.i64.wrap (↑(BitVec.ofInt Go.IntKind.i64.bits s0 &&& BitVec.ofInt Go.IntKind.i64.bits x1_0).toNat : Int), x1_0)

noncomputable def det_Made_3.body : Code := fnBody Try.f144
def det_Made_3.ti : Tm := ⟨[(0, .p (.int .i64)), (1, .ptr 0 0)], [.box [.p (.int .i64)] 3]⟩
def det_Made_3.to : Tm := ⟨[(0, .p (.int .i64))], [.box [.p (.int .i64)] 3]⟩
def det_Made_3.rs (r : Int × Int) : List Dat := [⟨(.int .i64), r.1⟩, ⟨(.int .i64), r.2⟩]
def det_Made_3.out (ds : List Dat) : Option (Int × Int) := pop (.int .i64) ds fun x0 ds => pop (.int .i64) ds fun x1 ds => popN ds (some (x0, x1))
def det_Made_3.c (k : Nat) (ds : List Dat) : Option (Int × Int) := pop (.int .i64) ds fun x0 ds => pop (.int .i64) ds fun x1 ds => popN ds (det_Made_3.f k x0 x1)
def det_Made_3.g : Nat → List Dat → Option (Int × Int)
 | 0, _ => none
 | k + 1, ds => det_Made_3.c k ds
def det_Made_3.env (k : Nat) : Nat → List SV → List Chunk → KT (Int × Int) → Option (Int × Int) := env0
def det_Made_3.tbl : List (Nat × Tm × (Nat → List Dat → Option (Int × Int))) := []
noncomputable abbrev det_Made_3.R (k : Nat) := run T (det_Made_3.env k) Try.f144.ntmps (cutE 1 det_Made_3.tbl k) (finE 1 det_Made_3.to det_Made_3.out) (fnRes Try.f144) [] 100000 true
theorem det_Made_3.e (k : Nat) (x0 : Int) (x1 : Int) : det_Made_3.f k x0 x1 = det_Made_3.R k ([.code det_Made_3.body]) (det_Made_3.ti.fill [⟨(.int .i64), x0⟩, ⟨(.int .i64), x1⟩]) := by kernel_rfl
theorem det_Made_3.h (k : Nat) (ds : List Dat) (r : Int × Int) (h : det_Made_3.g k ds = some r) : ∃ k', k' < k ∧ det_Made_3.R k' ([.code det_Made_3.body]) (det_Made_3.ti.fill ds) = some r := by
  cases k with
  | zero => cases (show none = some r from h)
  | succ k =>
  replace h : det_Made_3.c k ds = some r := h
  unfold det_Made_3.c at h
  obtain ⟨x0, d0, rfl, h0⟩ := pop_some h
  obtain ⟨x1, d1, rfl, h1⟩ := pop_some h0
  obtain ⟨rfl, g⟩ := popN_some h1
  exact ⟨k, Nat.lt_succ_self k, (det_Made_3.e k x0 x1).symm.trans g⟩
theorem det_Made_3.o (ds : List Dat) (r : Int × Int) (h : det_Made_3.out ds = some r) : ds = det_Made_3.rs r := by
  unfold det_Made_3.out at h
  obtain ⟨x0, d0, rfl, h0⟩ := pop_some h
  obtain ⟨x1, d1, rfl, h1⟩ := pop_some h0
  obtain ⟨rfl, g⟩ := popN_some h1
  cases g
  rfl
theorem det_Made_3.fn : FnOk Try.prog 144 Try.f144 det_Made_3.body Try.f144.ntmps 2 (fnRes Try.f144) :=
  fnOk_of (by kernel_rfl) (by kernel_rfl) (by kernel_rfl) (by kernel_rfl)
theorem det_Made_3.con' : ∀ k ds r, det_Made_3.g k ds = some r → Con Try.prog 144 2 det_Made_3.ti det_Made_3.to ds (det_Made_3.rs r) :=
  fun_ok (T := T) T_ok mixed det_Made_3.fn (env := det_Made_3.env) (tbl := det_Made_3.tbl) (gOut := det_Made_3.out) (nin := 1) (cuts := []) (fuel := 100000) rfl (by kernel_rfl) (by kernel_rfl) (by kernel_rfl) (fun x hx => by simp [det_Made_3.tbl] at hx) det_Made_3.o det_Made_3.h (fun k _ => by unfold det_Made_3.env; exact env0_ok)
theorem det_Made_3.con (k : Nat) {x0 : Int} {x1 : Int} (r : Int × Int) (h : det_Made_3.f k x0 x1 = some r) : Con Try.prog 144 2 det_Made_3.ti det_Made_3.to [⟨(.int .i64), x0⟩, ⟨(.int .i64), x1⟩] (det_Made_3.rs r) :=
  det_Made_3.con' (k + 1) _ r (by show det_Made_3.c k _ = some r; unfold det_Made_3.c; simp only [pop_self, popN]; exact h)
mutual
def det_Explore_int_.l4 : Nat → Int → Int → Int → Int → List (Int) → List ((Int × (Int × (Int × Unit)))) → List (Int) → Int → Int → Int → Int → Int → List ((Int × Int)) → List (Int) → List (List (Int)) → List (Int) → List (List (Int)) → List (Int) → Option (Int × Int × Bool × Int × Int × List Int × List (Int × Int × Int × Unit) × List Int × Int × List (List Int) × List Int)
 | 0, _, _, _, _, _, _, _, _, _, _, _, _, _, _, _, _, _, _ => none
 | k + 1, letters0, most4, c0_0, c0_1, c0_2, c0_3, c0_4, c1_0, x10_0, x10_1, d12_0, d12_1, number13, l14, c6, c7, c8, c9 =>
  if (↑c8.length : Int) < (↑l14.length : Int) then
   if 0 ≤ (↑c8.length : Int) then
   if (↑c8.length : Int) < (↑l14.length : Int) then
    if 0 ≤ letters0 then
     if letters0 ≤ letters0 then
      if letters0 * ((↑8 : Int) + 1) ≤ 281474976710656 then
       det_Explore_int_.l8 k letters0 most4 (l14.getD (↑c8.length : Int).toNat (Int.ofNat 0)) letters0 0 c0_0 c0_1 c0_2 c0_3 c0_4 c1_0 x10_0 x10_1 d12_0 d12_1 number13 l14 (List.replicate letters0.toNat (Int.ofNat 0)) c6 c7 c8 c9
       else none
      else none
     else none
    else none
   else none
  else
   some (d12_0, d12_1, true, c0_0, c0_1, c0_2, c0_3, c0_4, c1_0, c8, c9)
def det_Explore_int_.l8 : Nat → Int → Int → Int → Int → Int → Int → Int → List (Int) → List ((Int × (Int × (Int × Unit)))) → List (Int) → Int → Int → Int → Int → Int → List ((Int × Int)) → List (Int) → List (Int) → List (List (Int)) → List (Int) → List (List (Int)) → List (Int) → Option (Int × Int × Bool × Int × Int × List Int × List (Int × Int × Int × Unit) × List Int × Int × List (List Int) × List Int)
 | 0, _, _, _, _, _, _, _, _, _, _, _, _, _, _, _, _, _, _, _, _, _, _ => none
 | k + 1, letters0, most4, k15, x42, x43, c0_0, c0_1, c0_2, c0_3, c0_4, c1_0, x10_0, x10_1, d12_0, d12_1, number13, l14, row16, c7, c8, c9, c10 =>
  if x43 < x42 then
   (det_Made_2.f k k15 x43 c0_0 c0_1 c0_2 c0_3 c0_4).bind fun r3 =>
    if Go.Proofs.YtfkilmmldjajmaaSx.mhas (Go.Proofs.YtfkilmmldjajmaaSx.Ty.int Go.IntKind.i64) (Go.Proofs.YtfkilmmldjajmaaSx.Ty.int Go.IntKind.i64) number13 r3.fst = true then
     det_Explore_int_.j18 k letters0 most4 k15 x43 (Go.Proofs.YtfkilmmldjajmaaSx.mget (Go.Proofs.YtfkilmmldjajmaaSx.Ty.int Go.IntKind.i64) (Go.Proofs.YtfkilmmldjajmaaSx.Ty.int Go.IntKind.i64) number13 r3.fst) x42 x43 r3.snd.fst r3.snd.snd.fst r3.snd.snd.snd.fst r3.snd.snd.snd.snd.fst r3.snd.snd.snd.snd.snd c1_0 x10_0 x10_1 d12_0 d12_1 number13 l14 row16 c7 c8 c9 c10
    else
     if (↑l14.length : Int) = most4 then
      some (0, 0, false, r3.snd.fst, r3.snd.snd.fst, r3.snd.snd.snd.fst, r3.snd.snd.snd.snd.fst, r3.snd.snd.snd.snd.snd, c1_0, [], [])
     else
      if (l14 ++ [r3.fst]).length.blt 1000000000 = true then
      det_Explore_int_.j18 k letters0 most4 k15 x43 ((↑l14.length : Int)) x42 x43 r3.snd.fst r3.snd.snd.fst r3.snd.snd.snd.fst r3.snd.snd.snd.snd.fst r3.snd.snd.snd.snd.snd c1_0 x10_0 x10_1 d12_0 d12_1 (Go.Proofs.YtfkilmmldjajmaaSx.mput (Go.Proofs.YtfkilmmldjajmaaSx.Ty.int Go.IntKind.i64) (Go.Proofs.YtfkilmmldjajmaaSx.Ty.int Go.IntKind.i64) number13 r3.fst (↑l14.length : Int)) (l14 ++ [r3.fst]) row16 c7 c8 c9 c10
      else none
  else
   if (c9 ++ [row16]).length.blt 1000000000 = true then
   (det_Made_3.f k k15 c1_0).bind fun r4 =>
     if (c10 ++ [r4.fst]).length.blt 1000000000 = true then
     det_Explore_int_.l4 k letters0 most4 c0_0 c0_1 c0_2 c0_3 c0_4 r4.snd x10_0 x10_1 d12_0 d12_1 number13 l14 c7 c8 (c9 ++ [row16]) (c10 ++ [r4.fst])
     else none
   else none
def det_Explore_int_.j18 : Nat → Int → Int → Int → Int → Int → Int → Int → Int → Int → List (Int) → List ((Int × (Int × (Int × Unit)))) → List (Int) → Int → Int → Int → Int → Int → List ((Int × Int)) → List (Int) → List (Int) → List (List (Int)) → List (Int) → List (List (Int)) → List (Int) → Option (Int × Int × Bool × Int × Int × List Int × List (Int × Int × Int × Unit) × List Int × Int × List (List Int) × List Int)
 | 0, _, _, _, _, _, _, _, _, _, _, _, _, _, _, _, _, _, _, _, _, _, _, _, _ => none
 | k + 1, letters0, most4, k15, a17, n19, x42, x43, c0_0, c0_1, c0_2, c0_3, c0_4, c1_0, x10_0, x10_1, d12_0, d12_1, number13, l14, row16, c7, c8, c9, c10 =>
  if 0 ≤ a17 then
  if a17 < (↑row16.length : Int) then
   det_Explore_int_.l8 k letters0 most4 k15 x42 (Go.IntKind.i64.wrap (x43 + 1)) c0_0 c0_1 c0_2 c0_3 c0_4 c1_0 x10_0 x10_1 d12_0 d12_1 number13 l14 (row16.set a17.toNat n19) c7 c8 c9 c10
   else none
  else none
end
def det_Explore_int_.f (k : Nat) (letters0 : Int) (first1 : Int) (most4 : Int) (c0_0 : Int) (c0_1 : Int) (c0_2 : List (Int)) (c0_3 : List ((Int × (Int × (Int × Unit))))) (c0_4 : List (Int)) (c1_0 : Int) : Option (Int × Int × Bool × Int × Int × List Int × List (Int × Int × Int × Unit) × List Int × Int × List (List Int) × List Int) :=
 det_Explore_int_.l4 k letters0 most4 c0_0 c0_1 c0_2 c0_3 c0_4 c1_0 0 0 letters0 0 (Go.Proofs.YtfkilmmldjajmaaSx.mput (Go.Proofs.YtfkilmmldjajmaaSx.Ty.int Go.IntKind.i64) (Go.Proofs.YtfkilmmldjajmaaSx.Ty.int Go.IntKind.i64) [] first1 (Int.ofNat 0)) [first1] [] [] [] []

noncomputable def det_Explore_int_.body : Code := fnBody Try.f124
def det_Explore_int_.ti : Tm := ⟨[(0, .p (.int .i64)), (1, .p (.int .i64)), (2, .fn 143 [.ptr 0 0]), (3, .fn 144 [.ptr 1 0]), (4, .p (.int .i64))], [.box [.p (.int .i64), .p (.int .i64), .p (.slice (.int .i64)), .p (.slice (.pair (.int .i64) (.pair (.int .i64) (.pair (.int .i64) .unit)))), .p (.slice (.int .i64))] 78, .box [.p (.int .i64)] 3]⟩
def det_Explore_int_.to : Tm := ⟨[(0, .agg [.p (.int .i64), .p (.int .i64), .own 2, .own 3]), (1, .p .bool)], [.box [.p (.int .i64), .p (.int .i64), .p (.slice (.int .i64)), .p (.slice (.pair (.int .i64) (.pair (.int .i64) (.pair (.int .i64) .unit)))), .p (.slice (.int .i64))] 78, .box [.p (.int .i64)] 3, .own (.slice (.int .i64)), .own (.int .i64)]⟩
def det_Explore_int_.rs (r : Int × Int × Bool × Int × Int × (List Int) × (List (Int × (Int × (Int × Unit)))) × (List Int) × Int × (List (List Int)) × (List Int)) : List Dat := [⟨(.int .i64), r.1⟩, ⟨(.int .i64), r.2.1⟩, ⟨.bool, r.2.2.1⟩, ⟨(.int .i64), r.2.2.2.1⟩, ⟨(.int .i64), r.2.2.2.2.1⟩, ⟨(.slice (.int .i64)), r.2.2.2.2.2.1⟩, ⟨(.slice (.pair (.int .i64) (.pair (.int .i64) (.pair (.int .i64) .unit)))), r.2.2.2.2.2.2.1⟩, ⟨(.slice (.int .i64)), r.2.2.2.2.2.2.2.1⟩, ⟨(.int .i64), r.2.2.2.2.2.2.2.2.1⟩, ⟨(.slice (.slice (.int .i64))), r.2.2.2.2.2.2.2.2.2.1⟩, ⟨(.slice (.int .i64)), r.2.2.2.2.2.2.2.2.2.2⟩]
def det_Explore_int_.out (ds : List Dat) : Option (Int × Int × Bool × Int × Int × (List Int) × (List (Int × (Int × (Int × Unit)))) × (List Int) × Int × (List (List Int)) × (List Int)) := pop (.int .i64) ds fun x0 ds => pop (.int .i64) ds fun x1 ds => pop .bool ds fun x2 ds => pop (.int .i64) ds fun x3 ds => pop (.int .i64) ds fun x4 ds => pop (.slice (.int .i64)) ds fun x5 ds => pop (.slice (.pair (.int .i64) (.pair (.int .i64) (.pair (.int .i64) .unit)))) ds fun x6 ds => pop (.slice (.int .i64)) ds fun x7 ds => pop (.int .i64) ds fun x8 ds => pop (.slice (.slice (.int .i64))) ds fun x9 ds => pop (.slice (.int .i64)) ds fun x10 ds => popN ds (some (x0, x1, x2, x3, x4, x5, x6, x7, x8, x9, x10))
def det_Explore_int_.c (k : Nat) (ds : List Dat) : Option (Int × Int × Bool × Int × Int × (List Int) × (List (Int × (Int × (Int × Unit)))) × (List Int) × Int × (List (List Int)) × (List Int)) := pop (.int .i64) ds fun x0 ds => pop (.int .i64) ds fun x1 ds => pop (.int .i64) ds fun x2 ds => pop (.int .i64) ds fun x3 ds => pop (.int .i64) ds fun x4 ds => pop (.slice (.int .i64)) ds fun x5 ds => pop (.slice (.pair (.int .i64) (.pair (.int .i64) (.pair (.int .i64) .unit)))) ds fun x6 ds => pop (.slice (.int .i64)) ds fun x7 ds => pop (.int .i64) ds fun x8 ds => popN ds (det_Explore_int_.f k x0 x1 x2 x3 x4 x5 x6 x7 x8)
def det_Explore_int_.g : Nat → List Dat → Option (Int × Int × Bool × Int × Int × (List Int) × (List (Int × (Int × (Int × Unit)))) × (List Int) × Int × (List (List Int)) × (List Int))
 | 0, _ => none
 | k + 1, ds => det_Explore_int_.c k ds
def det_Explore_int_.env (k : Nat) : Nat → List SV → List Chunk → KT (Int × Int × Bool × Int × Int × (List Int) × (List (Int × (Int × (Int × Unit)))) × (List Int) × Int × (List (List Int)) × (List Int)) → Option (Int × Int × Bool × Int × Int × (List Int) × (List (Int × (Int × (Int × Unit)))) × (List Int) × Int × (List (List Int)) × (List Int)) := (envC 143 3 det_Made_2.ti det_Made_2.to (fun ds K => pop (.int .i64) ds fun x0 ds => pop (.int .i64) ds fun x1 ds => pop (.int .i64) ds fun x2 ds => pop (.int .i64) ds fun x3 ds => pop (.slice (.int .i64)) ds fun x4 ds => pop (.slice (.pair (.int .i64) (.pair (.int .i64) (.pair (.int .i64) .unit)))) ds fun x5 ds => pop (.slice (.int .i64)) ds fun x6 ds => popN ds ((det_Made_2.f k x0 x1 x2 x3 x4 x5 x6).bind fun r => K (det_Made_2.rs r))) (envC 144 2 det_Made_3.ti det_Made_3.to (fun ds K => pop (.int .i64) ds fun x0 ds => pop (.int .i64) ds fun x1 ds => popN ds ((det_Made_3.f k x0 x1).bind fun r => K (det_Made_3.rs r))) env0))
def det_Explore_int_.t9 : Tm := ⟨[(0, .p (.int .i64)), (2, .fn 143 [.ptr 0 0]), (3, .fn 144 [.ptr 1 0]), (4, .p (.int .i64)), (10, .ptr 2 0), (12, .ptr 3 0), (13, .map 4), (14, .own 5)], [.box [.p (.int .i64), .p (.int .i64), .p (.slice (.int .i64)), .p (.slice (.pair (.int .i64) (.pair (.int .i64) (.pair (.int .i64) .unit)))), .p (.slice (.int .i64))] 78, .box [.p (.int .i64)] 3, .box [.p (.int .i64), .p (.int .i64), .own 6, .own 7] 60, .box [.p (.int .i64), .p (.int .i64), .own 8, .own 9] 60, .map (.int .i64) (.int .i64), .own (.int .i64), .own (.slice (.int .i64)), .own (.int .i64), .own (.slice (.int .i64)), .own (.int .i64)]⟩
def det_Explore_int_.c9 (k : Nat) (ds : List Dat) : Option (Int × Int × Bool × Int × Int × (List Int) × (List (Int × (Int × (Int × Unit)))) × (List Int) × Int × (List (List Int)) × (List Int)) := pop (.int .i64) ds fun x0 ds => pop (.int .i64) ds fun x1 ds => pop (.int .i64) ds fun x2 ds => pop (.int .i64) ds fun x3 ds => pop (.slice (.int .i64)) ds fun x4 ds => pop (.slice (.pair (.int .i64) (.pair (.int .i64) (.pair (.int .i64) .unit)))) ds fun x5 ds => pop (.slice (.int .i64)) ds fun x6 ds => pop (.int .i64) ds fun x7 ds => pop (.int .i64) ds fun x8 ds => pop (.int .i64) ds fun x9 ds => pop (.int .i64) ds fun x10 ds => pop (.int .i64) ds fun x11 ds => pop (.slice (.pair (.int .i64) (.int .i64))) ds fun x12 ds => pop (.slice (.int .i64)) ds fun x13 ds => pop (.slice (.slice (.int .i64))) ds fun x14 ds => pop (.slice (.int .i64)) ds fun x15 ds => pop (.slice (.slice (.int .i64))) ds fun x16 ds => pop (.slice (.int .i64)) ds fun x17 ds => popN ds (det_Explore_int_.l4 k x0 x1 x2 x3 x4 x5 x6 x7 x8 x9 x10 x11 x12 x13 x14 x15 x16 x17)
def det_Explore_int_.t17 : Tm := ⟨[(0, .p (.int .i64)), (2, .fn 143 [.ptr 0 0]), (3, .fn 144 [.ptr 1 0]), (4, .p (.int .i64)), (10, .ptr 2 0), (12, .ptr 3 0), (13, .map 4), (14, .own 5), (15, .p (.int .i64)), (16, .own 6), (42, .p (.int .i64)), (43, .p (.int .i64))], [.box [.p (.int .i64), .p (.int .i64), .p (.slice (.int .i64)), .p (.slice (.pair (.int .i64) (.pair (.int .i64) (.pair (.int .i64) .unit)))), .p (.slice (.int .i64))] 78, .box [.p (.int .i64)] 3, .box [.p (.int .i64), .p (.int .i64), .own 7, .own 8] 60, .box [.p (.int .i64), .p (.int .i64), .own 9, .own 10] 60, .map (.int .i64) (.int .i64), .own (.int .i64), .own (.int .i64), .own (.slice (.int .i64)), .own (.int .i64), .own (.slice (.int .i64)), .own (.int .i64)]⟩
def det_Explore_int_.c17 (k : Nat) (ds : List Dat) : Option (Int × Int × Bool × Int × Int × (List Int) × (List (Int × (Int × (Int × Unit)))) × (List Int) × Int × (List (List Int)) × (List Int)) := pop (.int .i64) ds fun x0 ds => pop (.int .i64) ds fun x1 ds => pop (.int .i64) ds fun x2 ds => pop (.int .i64) ds fun x3 ds => pop (.int .i64) ds fun x4 ds => pop (.int .i64) ds fun x5 ds => pop (.int .i64) ds fun x6 ds => pop (.slice (.int .i64)) ds fun x7 ds => pop (.slice (.pair (.int .i64) (.pair (.int .i64) (.pair (.int .i64) .unit)))) ds fun x8 ds => pop (.slice (.int .i64)) ds fun x9 ds => pop (.int .i64) ds fun x10 ds => pop (.int .i64) ds fun x11 ds => pop (.int .i64) ds fun x12 ds => pop (.int .i64) ds fun x13 ds => pop (.int .i64) ds fun x14 ds => pop (.slice (.pair (.int .i64) (.int .i64))) ds fun x15 ds => pop (.slice (.int .i64)) ds fun x16 ds => pop (.slice (.int .i64)) ds fun x17 ds => pop (.slice (.slice (.int .i64))) ds fun x18 ds => pop (.slice (.int .i64)) ds fun x19 ds => pop (.slice (.slice (.int .i64))) ds fun x20 ds => pop (.slice (.int .i64)) ds fun x21 ds => popN ds (det_Explore_int_.l8 k x0 x1 x2 x3 x4 x5 x6 x7 x8 x9 x10 x11 x12 x13 x14 x15 x16 x17 x18 x19 x20 x21)
def det_Explore_int_.t36 : Tm := ⟨[(0, .p (.int .i64)), (2, .fn 143 [.ptr 0 0]), (3, .fn 144 [.ptr 1 0]), (4, .p (.int .i64)), (10, .ptr 2 0), (12, .ptr 3 0), (13, .map 4), (14, .own 5), (15, .p (.int .i64)), (16, .own 6), (17, .p (.int .i64)), (19, .p (.int .i64)), (42, .p (.int .i64)), (43, .p (.int .i64))], [.box [.p (.int .i64), .p (.int .i64), .p (.slice (.int .i64)), .p (.slice (.pair (.int .i64) (.pair (.int .i64) (.pair (.int .i64) .unit)))), .p (.slice (.int .i64))] 78, .box [.p (.int .i64)] 3, .box [.p (.int .i64), .p (.int .i64), .own 7, .own 8] 60, .box [.p (.int .i64), .p (.int .i64), .own 9, .own 10] 60, .map (.int .i64) (.int .i64), .own (.int .i64), .own (.int .i64), .own (.slice (.int .i64)), .own (.int .i64), .own (.slice (.int .i64)), .own (.int .i64)]⟩
def det_Explore_int_.c36 (k : Nat) (ds : List Dat) : Option (Int × Int × Bool × Int × Int × (List Int) × (List (Int × (Int × (Int × Unit)))) × (List Int) × Int × (List (List Int)) × (List Int)) := pop (.int .i64) ds fun x0 ds => pop (.int .i64) ds fun x1 ds => pop (.int .i64) ds fun x2 ds => pop (.int .i64) ds fun x3 ds => pop (.int .i64) ds fun x4 ds => pop (.int .i64) ds fun x5 ds => pop (.int .i64) ds fun x6 ds => pop (.int .i64) ds fun x7 ds => pop (.int .i64) ds fun x8 ds => pop (.slice (.int .i64)) ds fun x9 ds => pop (.slice (.pair (.int .i64) (.pair (.int .i64) (.pair (.int .i64) .unit)))) ds fun x10 ds => pop (.slice (.int .i64)) ds fun x11 ds => pop (.int .i64) ds fun x12 ds => pop (.int .i64) ds fun x13 ds => pop (.int .i64) ds fun x14 ds => pop (.int .i64) ds fun x15 ds => pop (.int .i64) ds fun x16 ds => pop (.slice (.pair (.int .i64) (.int .i64))) ds fun x17 ds => pop (.slice (.int .i64)) ds fun x18 ds => pop (.slice (.int .i64)) ds fun x19 ds => pop (.slice (.slice (.int .i64))) ds fun x20 ds => pop (.slice (.int .i64)) ds fun x21 ds => pop (.slice (.slice (.int .i64))) ds fun x22 ds => pop (.slice (.int .i64)) ds fun x23 ds => popN ds (det_Explore_int_.j18 k x0 x1 x2 x3 x4 x5 x6 x7 x8 x9 x10 x11 x12 x13 x14 x15 x16 x17 x18 x19 x20 x21 x22 x23)
def det_Explore_int_.tbl : List (Nat × Tm × (Nat → List Dat → Option (Int × Int × Bool × Int × Int × (List Int) × (List (Int × (Int × (Int × Unit)))) × (List Int) × Int × (List (List Int)) × (List Int)))) := [(9, det_Explore_int_.t9, det_Explore_int_.c9), (17, det_Explore_int_.t17, det_Explore_int_.c17), (36, det_Explore_int_.t36, det_Explore_int_.c36)]
noncomputable abbrev det_Explore_int_.R (k : Nat) := run T (det_Explore_int_.env k) Try.f124.ntmps (cutE 2 det_Explore_int_.tbl k) (finE 2 det_Explore_int_.to det_Explore_int_.out) (fnRes Try.f124) [18] 100000 true
theorem det_Explore_int_.e9 (k : Nat) (x0 : Int) (x1 : Int) (x2 : Int) (x3 : Int) (x4 : (List Int)) (x5 : (List (Int × (Int × (Int × Unit))))) (x6 : (List Int)) (x7 : Int) (x8 : Int) (x9 : Int) (x10 : Int) (x11 : Int) (x12 : (List (Int × Int))) (x13 : (List Int)) (x14 : (List (List Int))) (x15 : (List Int)) (x16 : (List (List Int))) (x17 : (List Int)) : det_Explore_int_.l4 (k + 1) x0 x1 x2 x3 x4 x5 x6 x7 x8 x9 x10 x11 x12 x13 x14 x15 x16 x17 = det_Explore_int_.R k (start (stackOf 9 det_Explore_int_.body)) (det_Explore_int_.t9.fill [⟨(.int .i64), x0⟩, ⟨(.int .i64), x1⟩, ⟨(.int .i64), x2⟩, ⟨(.int .i64), x3⟩, ⟨(.slice (.int .i64)), x4⟩, ⟨(.slice (.pair (.int .i64) (.pair (.int .i64) (.pair (.int .i64) .unit)))), x5⟩, ⟨(.slice (.int .i64)), x6⟩, ⟨(.int .i64), x7⟩, ⟨(.int .i64), x8⟩, ⟨(.int .i64), x9⟩, ⟨(.int .i64), x10⟩, ⟨(.int .i64), x11⟩, ⟨(.slice (.pair (.int .i64) (.int .i64))), x12⟩, ⟨(.slice (.int .i64)), x13⟩, ⟨(.slice (.slice (.int .i64))), x14⟩, ⟨(.slice (.int .i64)), x15⟩, ⟨(.slice (.slice (.int .i64))), x16⟩, ⟨(.slice (.int .i64)), x17⟩]) := by kernel_rfl
theorem det_Explore_int_.s9 : stackAt 9 det_Explore_int_.body [] = some (stackOf 9 det_Explore_int_.body) := by kernel_rfl
theorem det_Explore_int_.h9 (k : Nat) (ds : List Dat) (r : Int × Int × Bool × Int × Int × (List Int) × (List (Int × (Int × (Int × Unit)))) × (List Int) × Int × (List (List Int)) × (List Int)) (h : det_Explore_int_.c9 k ds = some r) : ∃ k', k' < k ∧ ∃ s, stackAt 9 det_Explore_int_.body [] = some s ∧ det_Explore_int_.R k' (start s) (det_Explore_int_.t9.fill ds) = some r := by
  unfold det_Explore_int_.c9 at h
  obtain ⟨x0, d0, rfl, h0⟩ := pop_some h
  obtain ⟨x1, d1, rfl, h1⟩ := pop_some h0
  obtain ⟨x2, d2, rfl, h2⟩ := pop_some h1
  obtain ⟨x3, d3, rfl, h3⟩ := pop_some h2
  obtain ⟨x4, d4, rfl, h4⟩ := pop_some h3
  obtain ⟨x5, d5, rfl, h5⟩ := pop_some h4
  obtain ⟨x6, d6, rfl, h6⟩ := pop_some h5
  obtain ⟨x7, d7, rfl, h7⟩ := pop_some h6
  obtain ⟨x8, d8, rfl, h8⟩ := pop_some h7
  obtain ⟨x9, d9, rfl, h9⟩ := pop_some h8
  obtain ⟨x10, d10, rfl, h10⟩ := pop_some h9
  obtain ⟨x11, d11, rfl, h11⟩ := pop_some h10
  obtain ⟨x12, d12, rfl, h12⟩ := pop_some h11
  obtain ⟨x13, d13, rfl, h13⟩ := pop_some h12
  obtain ⟨x14, d14, rfl, h14⟩ := pop_some h13
  obtain ⟨x15, d15, rfl, h15⟩ := pop_some h14
  obtain ⟨x16, d16, rfl, h16⟩ := pop_some h15
  obtain ⟨x17, d17, rfl, h17⟩ := pop_some h16
  obtain ⟨rfl, g⟩ := popN_some h17
  cases k with
  | zero => cases (show none = some r from g)
  | succ k => exact ⟨k, Nat.lt_succ_self k, _, det_Explore_int_.s9, (det_Explore_int_.e9 k x0 x1 x2 x3 x4 x5 x6 x7 x8 x9 x10 x11 x12 x13 x14 x15 x16 x17).symm.trans g⟩
theorem det_Explore_int_.e17 (k : Nat) (x0 : Int) (x1 : Int) (x2 : Int) (x3 : Int) (x4 : Int) (x5 : Int) (x6 : Int) (x7 : (List Int)) (x8 : (List (Int × (Int × (Int × Unit))))) (x9 : (List Int)) (x10 : Int) (x11 : Int) (x12 : Int) (x13 : Int) (x14 : Int) (x15 : (List (Int × Int))) (x16 : (List Int)) (x17 : (List Int)) (x18 : (List (List Int))) (x19 : (List Int)) (x20 : (List (List Int))) (x21 : (List Int)) : det_Explore_int_.l8 (k + 1) x0 x1 x2 x3 x4 x5 x6 x7 x8 x9 x10 x11 x12 x13 x14 x15 x16 x17 x18 x19 x20 x21 = det_Explore_int_.R k (start (stackOf 17 det_Explore_int_.body)) (det_Explore_int_.t17.fill [⟨(.int .i64), x0⟩, ⟨(.int .i64), x1⟩, ⟨(.int .i64), x2⟩, ⟨(.int .i64), x3⟩, ⟨(.int .i64), x4⟩, ⟨(.int .i64), x5⟩, ⟨(.int .i64), x6⟩, ⟨(.slice (.int .i64)), x7⟩, ⟨(.slice (.pair (.int .i64) (.pair (.int .i64) (.pair (.int .i64) .unit)))), x8⟩, ⟨(.slice (.int .i64)), x9⟩, ⟨(.int .i64), x10⟩, ⟨(.int .i64), x11⟩, ⟨(.int .i64), x12⟩, ⟨(.int .i64), x13⟩, ⟨(.int .i64), x14⟩, ⟨(.slice (.pair (.int .i64) (.int .i64))), x15⟩, ⟨(.slice (.int .i64)), x16⟩, ⟨(.slice (.int .i64)), x17⟩, ⟨(.slice (.slice (.int .i64))), x18⟩, ⟨(.slice (.int .i64)), x19⟩, ⟨(.slice (.slice (.int .i64))), x20⟩, ⟨(.slice (.int .i64)), x21⟩]) := by kernel_rfl
theorem det_Explore_int_.s17 : stackAt 17 det_Explore_int_.body [] = some (stackOf 17 det_Explore_int_.body) := by kernel_rfl
theorem det_Explore_int_.h17 (k : Nat) (ds : List Dat) (r : Int × Int × Bool × Int × Int × (List Int) × (List (Int × (Int × (Int × Unit)))) × (List Int) × Int × (List (List Int)) × (List Int)) (h : det_Explore_int_.c17 k ds = some r) : ∃ k', k' < k ∧ ∃ s, stackAt 17 det_Explore_int_.body [] = some s ∧ det_Explore_int_.R k' (start s) (det_Explore_int_.t17.fill ds) = some r := by
  unfold det_Explore_int_.c17 at h
  obtain ⟨x0, d0, rfl, h0⟩ := pop_some h
  obtain ⟨x1, d1, rfl, h1⟩ := pop_some h0
  obtain ⟨x2, d2, rfl, h2⟩ := pop_some h1
  obtain ⟨x3, d3, rfl, h3⟩ := pop_some h2
  obtain ⟨x4, d4, rfl, h4⟩ := pop_some h3
  obtain ⟨x5, d5, rfl, h5⟩ := pop_some h4
  obtain ⟨x6, d6, rfl, h6⟩ := pop_some h5
  obtain ⟨x7, d7, rfl, h7⟩ := pop_some h6
  obtain ⟨x8, d8, rfl, h8⟩ := pop_some h7
  obtain ⟨x9, d9, rfl, h9⟩ := pop_some h8
  obtain ⟨x10, d10, rfl, h10⟩ := pop_some h9
  obtain ⟨x11, d11, rfl, h11⟩ := pop_some h10
  obtain ⟨x12, d12, rfl, h12⟩ := pop_some h11
  obtain ⟨x13, d13, rfl, h13⟩ := pop_some h12
  obtain ⟨x14, d14, rfl, h14⟩ := pop_some h13
  obtain ⟨x15, d15, rfl, h15⟩ := pop_some h14
  obtain ⟨x16, d16, rfl, h16⟩ := pop_some h15
  obtain ⟨x17, d17, rfl, h17⟩ := pop_some h16
  obtain ⟨x18, d18, rfl, h18⟩ := pop_some h17
  obtain ⟨x19, d19, rfl, h19⟩ := pop_some h18
  obtain ⟨x20, d20, rfl, h20⟩ := pop_some h19
  obtain ⟨x21, d21, rfl, h21⟩ := pop_some h20
  obtain ⟨rfl, g⟩ := popN_some h21
  cases k with
  | zero => cases (show none = some r from g)
  | succ k => exact ⟨k, Nat.lt_succ_self k, _, det_Explore_int_.s17, (det_Explore_int_.e17 k x0 x1 x2 x3 x4 x5 x6 x7 x8 x9 x10 x11 x12 x13 x14 x15 x16 x17 x18 x19 x20 x21).symm.trans g⟩
theorem det_Explore_int_.e36 (k : Nat) (x0 : Int) (x1 : Int) (x2 : Int) (x3 : Int) (x4 : Int) (x5 : Int) (x6 : Int) (x7 : Int) (x8 : Int) (x9 : (List Int)) (x10 : (List (Int × (Int × (Int × Unit))))) (x11 : (List Int)) (x12 : Int) (x13 : Int) (x14 : Int) (x15 : Int) (x16 : Int) (x17 : (List (Int × Int))) (x18 : (List Int)) (x19 : (List Int)) (x20 : (List (List Int))) (x21 : (List Int)) (x22 : (List (List Int))) (x23 : (List Int)) : det_Explore_int_.j18 (k + 1) x0 x1 x2 x3 x4 x5 x6 x7 x8 x9 x10 x11 x12 x13 x14 x15 x16 x17 x18 x19 x20 x21 x22 x23 = det_Explore_int_.R k (start (stackOf 36 det_Explore_int_.body)) (det_Explore_int_.t36.fill [⟨(.int .i64), x0⟩, ⟨(.int .i64), x1⟩, ⟨(.int .i64), x2⟩, ⟨(.int .i64), x3⟩, ⟨(.int .i64), x4⟩, ⟨(.int .i64), x5⟩, ⟨(.int .i64), x6⟩, ⟨(.int .i64), x7⟩, ⟨(.int .i64), x8⟩, ⟨(.slice (.int .i64)), x9⟩, ⟨(.slice (.pair (.int .i64) (.pair (.int .i64) (.pair (.int .i64) .unit)))), x10⟩, ⟨(.slice (.int .i64)), x11⟩, ⟨(.int .i64), x12⟩, ⟨(.int .i64), x13⟩, ⟨(.int .i64), x14⟩, ⟨(.int .i64), x15⟩, ⟨(.int .i64), x16⟩, ⟨(.slice (.pair (.int .i64) (.int .i64))), x17⟩, ⟨(.slice (.int .i64)), x18⟩, ⟨(.slice (.int .i64)), x19⟩, ⟨(.slice (.slice (.int .i64))), x20⟩, ⟨(.slice (.int .i64)), x21⟩, ⟨(.slice (.slice (.int .i64))), x22⟩, ⟨(.slice (.int .i64)), x23⟩]) := by kernel_rfl
theorem det_Explore_int_.s36 : stackAt 36 det_Explore_int_.body [] = some (stackOf 36 det_Explore_int_.body) := by kernel_rfl
theorem det_Explore_int_.h36 (k : Nat) (ds : List Dat) (r : Int × Int × Bool × Int × Int × (List Int) × (List (Int × (Int × (Int × Unit)))) × (List Int) × Int × (List (List Int)) × (List Int)) (h : det_Explore_int_.c36 k ds = some r) : ∃ k', k' < k ∧ ∃ s, stackAt 36 det_Explore_int_.body [] = some s ∧ det_Explore_int_.R k' (start s) (det_Explore_int_.t36.fill ds) = some r := by
  unfold det_Explore_int_.c36 at h
  obtain ⟨x0, d0, rfl, h0⟩ := pop_some h
  obtain ⟨x1, d1, rfl, h1⟩ := pop_some h0
  obtain ⟨x2, d2, rfl, h2⟩ := pop_some h1
  obtain ⟨x3, d3, rfl, h3⟩ := pop_some h2
  obtain ⟨x4, d4, rfl, h4⟩ := pop_some h3
  obtain ⟨x5, d5, rfl, h5⟩ := pop_some h4
  obtain ⟨x6, d6, rfl, h6⟩ := pop_some h5
  obtain ⟨x7, d7, rfl, h7⟩ := pop_some h6
  obtain ⟨x8, d8, rfl, h8⟩ := pop_some h7
  obtain ⟨x9, d9, rfl, h9⟩ := pop_some h8
  obtain ⟨x10, d10, rfl, h10⟩ := pop_some h9
  obtain ⟨x11, d11, rfl, h11⟩ := pop_some h10
  obtain ⟨x12, d12, rfl, h12⟩ := pop_some h11
  obtain ⟨x13, d13, rfl, h13⟩ := pop_some h12
  obtain ⟨x14, d14, rfl, h14⟩ := pop_some h13
  obtain ⟨x15, d15, rfl, h15⟩ := pop_some h14
  obtain ⟨x16, d16, rfl, h16⟩ := pop_some h15
  obtain ⟨x17, d17, rfl, h17⟩ := pop_some h16
  obtain ⟨x18, d18, rfl, h18⟩ := pop_some h17
  obtain ⟨x19, d19, rfl, h19⟩ := pop_some h18
  obtain ⟨x20, d20, rfl, h20⟩ := pop_some h19
  obtain ⟨x21, d21, rfl, h21⟩ := pop_some h20
  obtain ⟨x22, d22, rfl, h22⟩ := pop_some h21
  obtain ⟨x23, d23, rfl, h23⟩ := pop_some h22
  obtain ⟨rfl, g⟩ := popN_some h23
  cases k with
  | zero => cases (show none = some r from g)
  | succ k => exact ⟨k, Nat.lt_succ_self k, _, det_Explore_int_.s36, (det_Explore_int_.e36 k x0 x1 x2 x3 x4 x5 x6 x7 x8 x9 x10 x11 x12 x13 x14 x15 x16 x17 x18 x19 x20 x21 x22 x23).symm.trans g⟩
theorem det_Explore_int_.e (k : Nat) (x0 : Int) (x1 : Int) (x2 : Int) (x3 : Int) (x4 : Int) (x5 : (List Int)) (x6 : (List (Int × (Int × (Int × Unit))))) (x7 : (List Int)) (x8 : Int) : det_Explore_int_.f k x0 x1 x2 x3 x4 x5 x6 x7 x8 = det_Explore_int_.R k ([.code det_Explore_int_.body]) (det_Explore_int_.ti.fill [⟨(.int .i64), x0⟩, ⟨(.int .i64), x1⟩, ⟨(.int .i64), x2⟩, ⟨(.int .i64), x3⟩, ⟨(.int .i64), x4⟩, ⟨(.slice (.int .i64)), x5⟩, ⟨(.slice (.pair (.int .i64) (.pair (.int .i64) (.pair (.int .i64) .unit)))), x6⟩, ⟨(.slice (.int .i64)), x7⟩, ⟨(.int .i64), x8⟩]) := by kernel_rfl
theorem det_Explore_int_.h (k : Nat) (ds : List Dat) (r : Int × Int × Bool × Int × Int × (List Int) × (List (Int × (Int × (Int × Unit)))) × (List Int) × Int × (List (List Int)) × (List Int)) (h : det_Explore_int_.g k ds = some r) : ∃ k', k' < k ∧ det_Explore_int_.R k' ([.code det_Explore_int_.body]) (det_Explore_int_.ti.fill ds) = some r := by
  cases k with
  | zero => cases (show none = some r from h)
  | succ k =>
  replace h : det_Explore_int_.c k ds = some r := h
  unfold det_Explore_int_.c at h
  obtain ⟨x0, d0, rfl, h0⟩ := pop_some h
  obtain ⟨x1, d1, rfl, h1⟩ := pop_some h0
  obtain ⟨x2, d2, rfl, h2⟩ := pop_some h1
  obtain ⟨x3, d3, rfl, h3⟩ := pop_some h2
  obtain ⟨x4, d4, rfl, h4⟩ := pop_some h3
  obtain ⟨x5, d5, rfl, h5⟩ := pop_some h4
  obtain ⟨x6, d6, rfl, h6⟩ := pop_some h5
  obtain ⟨x7, d7, rfl, h7⟩ := pop_some h6
  obtain ⟨x8, d8, rfl, h8⟩ := pop_some h7
  obtain ⟨rfl, g⟩ := popN_some h8
  exact ⟨k, Nat.lt_succ_self k, (det_Explore_int_.e k x0 x1 x2 x3 x4 x5 x6 x7 x8).symm.trans g⟩
theorem det_Explore_int_.o (ds : List Dat) (r : Int × Int × Bool × Int × Int × (List Int) × (List (Int × (Int × (Int × Unit)))) × (List Int) × Int × (List (List Int)) × (List Int)) (h : det_Explore_int_.out ds = some r) : ds = det_Explore_int_.rs r := by
  unfold det_Explore_int_.out at h
  obtain ⟨x0, d0, rfl, h0⟩ := pop_some h
  obtain ⟨x1, d1, rfl, h1⟩ := pop_some h0
  obtain ⟨x2, d2, rfl, h2⟩ := pop_some h1
  obtain ⟨x3, d3, rfl, h3⟩ := pop_some h2
  obtain ⟨x4, d4, rfl, h4⟩ := pop_some h3
  obtain ⟨x5, d5, rfl, h5⟩ := pop_some h4
  obtain ⟨x6, d6, rfl, h6⟩ := pop_some h5
  obtain ⟨x7, d7, rfl, h7⟩ := pop_some h6
  obtain ⟨x8, d8, rfl, h8⟩ := pop_some h7
  obtain ⟨x9, d9, rfl, h9⟩ := pop_some h8
  obtain ⟨x10, d10, rfl, h10⟩ := pop_some h9
  obtain ⟨rfl, g⟩ := popN_some h10
  cases g
  rfl
theorem det_Explore_int_.fn : FnOk Try.prog 124 Try.f124 det_Explore_int_.body Try.f124.ntmps 5 (fnRes Try.f124) :=
  fnOk_of (by kernel_rfl) (by kernel_rfl) (by kernel_rfl) (by kernel_rfl)
theorem det_Explore_int_.con' : ∀ k ds r, det_Explore_int_.g k ds = some r → Con Try.prog 124 5 det_Explore_int_.ti det_Explore_int_.to ds (det_Explore_int_.rs r) :=
  fun_ok (T := T) T_ok mixed det_Explore_int_.fn (env := det_Explore_int_.env) (tbl := det_Explore_int_.tbl) (gOut := det_Explore_int_.out) (nin := 2) (cuts := [18]) (fuel := 100000) rfl (by kernel_rfl) (by kernel_rfl) (by kernel_rfl) (fun x hx => by
    simp only [det_Explore_int_.tbl, List.mem_cons, List.not_mem_nil, or_false] at hx
    rcases hx with rfl | rfl | rfl
    · exact det_Explore_int_.h9
    · exact det_Explore_int_.h17
    · exact det_Explore_int_.h36
) det_Explore_int_.o det_Explore_int_.h (fun k _ => by unfold det_Explore_int_.env; exact (envC_ok (fun ds K r h => by
    obtain ⟨x0, d0, rfl, h0⟩ := pop_some h
    obtain ⟨x1, d1, rfl, h1⟩ := pop_some h0
    obtain ⟨x2, d2, rfl, h2⟩ := pop_some h1
    obtain ⟨x3, d3, rfl, h3⟩ := pop_some h2
    obtain ⟨x4, d4, rfl, h4⟩ := pop_some h3
    obtain ⟨x5, d5, rfl, h5⟩ := pop_some h4
    obtain ⟨x6, d6, rfl, h6⟩ := pop_some h5
    obtain ⟨rfl, g⟩ := popN_some h6
    obtain ⟨r1, h1, h2⟩ := bind_some g
    exact ⟨_, h2, det_Made_2.con k _ h1⟩) (envC_ok (fun ds K r h => by
    obtain ⟨x0, d0, rfl, h0⟩ := pop_some h
    obtain ⟨x1, d1, rfl, h1⟩ := pop_some h0
    obtain ⟨rfl, g⟩ := popN_some h1
    obtain ⟨r1, h1, h2⟩ := bind_some g
    exact ⟨_, h2, det_Made_3.con k _ h1⟩) env0_ok)))
theorem det_Explore_int_.con (k : Nat) {x0 : Int} {x1 : Int} {x2 : Int} {x3 : Int} {x4 : Int} {x5 : (List Int)} {x6 : (List (Int × (Int × (Int × Unit))))} {x7 : (List Int)} {x8 : Int} (r : Int × Int × Bool × Int × Int × (List Int) × (List (Int × (Int × (Int × Unit)))) × (List Int) × Int × (List (List Int)) × (List Int)) (h : det_Explore_int_.f k x0 x1 x2 x3 x4 x5 x6 x7 x8 = some r) : Con Try.prog 124 5 det_Explore_int_.ti det_Explore_int_.to [⟨(.int .i64), x0⟩, ⟨(.int .i64), x1⟩, ⟨(.int .i64), x2⟩, ⟨(.int .i64), x3⟩, ⟨(.int .i64), x4⟩, ⟨(.slice (.int .i64)), x5⟩, ⟨(.slice (.pair (.int .i64) (.pair (.int .i64) (.pair (.int .i64) .unit)))), x6⟩, ⟨(.slice (.int .i64)), x7⟩, ⟨(.int .i64), x8⟩] (det_Explore_int_.rs r) :=
  det_Explore_int_.con' (k + 1) _ r (by show det_Explore_int_.c k _ = some r; unfold det_Explore_int_.c; simp only [pop_self, popN]; exact h)
def slices_Clone___int_int_.f (k : Nat) (x0 : List (Int)) : Option (List (Int)) := if Short x0.length then some x0 else none
def slices_Clone___int_int_.ti : Tm := cloneIn (.int .i64)
def slices_Clone___int_int_.to : Tm := cloneOut (.int .i64)
def slices_Clone___int_int_.rs (r : List Int) : List Dat := [⟨.slice (.int .i64), r⟩]
theorem slices_Clone___int_int_.fn : FnOk Try.prog 81 Try.f81 (fnBody Try.f81) Try.f81.ntmps 1 (fnRes Try.f81) :=
  fnOk_of (by kernel_rfl) (by kernel_rfl) (by kernel_rfl) (by kernel_rfl)
theorem slices_Clone___int_int_.con (k : Nat) {x0 : List Int} (r : List Int) (h : slices_Clone___int_int_.f k x0 = some r) : Con Try.prog 81 1 slices_Clone___int_int_.ti slices_Clone___int_int_.to [⟨.slice (.int .i64), x0⟩] (slices_Clone___int_int_.rs r) := by
  unfold slices_Clone___int_int_.f at h
  split at h
  · rename_i hs
    cases h
    exact clone_con (by_ := elemB T 23) (u := (.int .i64)) (t := 23) (t' := 23) (k := restOf (stackOf 2 (fnBody Try.f81))) (ops := opsAt 1 (fnBody Try.f81)) (o1 := opAt 0 (opsAt 1 (fnBody Try.f81))) (o2 := opAt 1 (opsAt 1 (fnBody Try.f81))) T_ok mixed slices_Clone___int_int_.fn (by kernel_rfl) ⟨by kernel_rfl, by kernel_rfl, by kernel_rfl, by kernel_rfl, by kernel_rfl, by kernel_rfl, by kernel_rfl, ⟨3, by kernel_rfl⟩⟩ (Nat.le_of_ble_eq_true (by kernel_rfl)) (by kernel_rfl) (by kernel_rfl) (fun L => by kernel_rfl) (by kernel_rfl) (fun L => by kernel_rfl) (by kernel_rfl) x0 hs
  · cases h
mutual
def det_Classes.l3 : Nat → Int → Int → Int → List (List (Int)) → List (Int) → List (Int) → Option (List Int)
 | 0, _, _, _, _, _, _ => none
 | k + 1, count4, d1_0, d1_1, d1_2, d1_3, class3 =>
  if 0 ≤ (↑class3.length : Int) then
  if (↑class3.length : Int) ≤ (↑class3.length : Int) then
   if (↑class3.length : Int) * ((↑8 : Int) + 1) ≤ 281474976710656 then
    det_Classes.l6 k count4 d1_2 ((↑d1_2.length : Int)) 0 d1_0 d1_1 d1_2 d1_3 class3 [] (List.replicate (↑class3.length : Int).toNat (Int.ofNat 0))
    else none
   else none
  else none
def det_Classes.l6 : Nat → Int → List (List (Int)) → Int → Int → Int → Int → List (List (Int)) → List (Int) → List (Int) → List (((Int × (ByteArray × Unit)) × Int)) → List (Int) → Option (List Int)
 | 0, _, _, _, _, _, _, _, _, _, _, _ => none
 | k + 1, count4, x23, x24, x25, d1_0, d1_1, d1_2, d1_3, class3, number5, next6 =>
  if x25 < x24 then
   if 0 ≤ x25 then
   if x25 < (↑x23.length : Int) then
    det_Classes.l10 k count4 x25 x23 x24 x25 (Go.Proofs.YtfkilmmldjajmaaSx.rd [] x23 x25) ((↑(Go.Proofs.YtfkilmmldjajmaaSx.rd [] x23 x25).length : Int)) 0 d1_0 d1_1 d1_2 d1_3 class3 number5 next6 []
    else none
   else none
  else
   if (↑number5.length : Int) = count4 then
    some (next6)
   else
    det_Classes.l3 k ((↑number5.length : Int)) d1_0 d1_1 d1_2 d1_3 next6
def det_Classes.l10 : Nat → Int → Int → List (List (Int)) → Int → Int → List (Int) → Int → Int → Int → Int → List (List (Int)) → List (Int) → List (Int) → List (((Int × (ByteArray × Unit)) × Int)) → List (Int) → List (Int) → Option (List Int)
 | 0, _, _, _, _, _, _, _, _, _, _, _, _, _, _, _, _ => none
 | k + 1, count4, q7, x23, x24, x25, x30, x31, x32, d1_0, d1_1, d1_2, d1_3, class3, number5, next6, b9 =>
  if x32 < x31 then
   if 0 ≤ x32 then
   if x32 < (↑x30.length : Int) then
    if 0 ≤ Go.Proofs.YtfkilmmldjajmaaSx.rd (Int.ofNat 0) x30 x32 then
     if Go.Proofs.YtfkilmmldjajmaaSx.rd (Int.ofNat 0) x30 x32 < (↑class3.length : Int) then
      if 0 ≤ Go.Proofs.YtfkilmmldjajmaaSx.rd (Int.ofNat 0) x30 x32 then
       if Go.Proofs.YtfkilmmldjajmaaSx.rd (Int.ofNat 0) x30 x32 < (↑class3.length : Int) then
        if 0 ≤ 8 then
         if (b9 ++ [Go.IntKind.u8.wrap (class3.getD (Go.Proofs.YtfkilmmldjajmaaSx.rd (Int.ofNat 0) x30 x32).toNat (Int.ofNat 0)), Go.IntKind.u8.wrap ((class3.getD (Go.Proofs.YtfkilmmldjajmaaSx.rd (Int.ofNat 0) x30 x32).toNat (Int.ofNat 0)).fdiv (2 ^ min (Int.toNat 8) Go.IntKind.i64.bits))]).length.blt 1000000000 = true then
          det_Classes.l10 k count4 q7 x23 x24 x25 x30 x31 (Go.IntKind.i64.wrap (x32 + 1)) d1_0 d1_1 d1_2 d1_3 class3 number5 next6 (b9 ++ [Go.IntKind.u8.wrap (class3.getD (Go.Proofs.YtfkilmmldjajmaaSx.rd (Int.ofNat 0) x30 x32).toNat (Int.ofNat 0)), Go.IntKind.u8.wrap ((class3.getD (Go.Proofs.YtfkilmmldjajmaaSx.rd (Int.ofNat 0) x30 x32).toNat (Int.ofNat 0)).fdiv (2 ^ min (Int.toNat 8) Go.IntKind.i64.bits))])
          else none
         else none
        else none
       else none
      else none
     else none
    else none
   else none
  else
   if 0 ≤ q7 then
   if q7 < (↑class3.length : Int) then
    if Go.Proofs.YtfkilmmldjajmaaSx.mhas ((Go.Proofs.YtfkilmmldjajmaaSx.Ty.int Go.IntKind.i64).pair (Go.Proofs.YtfkilmmldjajmaaSx.Ty.str.pair Go.Proofs.YtfkilmmldjajmaaSx.Ty.unit)) (Go.Proofs.YtfkilmmldjajmaaSx.Ty.int Go.IntKind.i64) number5 (class3.getD q7.toNat (Int.ofNat 0), Go.Proofs.YtfkilmmldjajmaaSx.strOf b9, ()) = true then
      det_Classes.j18 k count4 q7 x23 x24 x25 d1_0 d1_1 d1_2 d1_3 class3 number5 next6 (class3.getD q7.toNat (Int.ofNat 0)) (Go.Proofs.YtfkilmmldjajmaaSx.strOf b9)
     else
      det_Classes.j18 k count4 q7 x23 x24 x25 d1_0 d1_1 d1_2 d1_3 class3 (Go.Proofs.YtfkilmmldjajmaaSx.mput ((Go.Proofs.YtfkilmmldjajmaaSx.Ty.int Go.IntKind.i64).pair (Go.Proofs.YtfkilmmldjajmaaSx.Ty.str.pair Go.Proofs.YtfkilmmldjajmaaSx.Ty.unit)) (Go.Proofs.YtfkilmmldjajmaaSx.Ty.int Go.IntKind.i64) number5 (class3.getD q7.toNat (Int.ofNat 0), Go.Proofs.YtfkilmmldjajmaaSx.strOf b9, ()) (↑number5.length : Int)) next6 (class3.getD q7.toNat (Int.ofNat 0)) (Go.Proofs.YtfkilmmldjajmaaSx.strOf b9)
    else none
   else none
def det_Classes.j18 : Nat → Int → Int → List (List (Int)) → Int → Int → Int → Int → List (List (Int)) → List (Int) → List (Int) → List (((Int × (ByteArray × Unit)) × Int)) → List (Int) → Int → ByteArray → Option (List Int)
 | 0, _, _, _, _, _, _, _, _, _, _, _, _, _, _ => none
 | k + 1, count4, q7, x23, x24, x25, d1_0, d1_1, d1_2, d1_3, class3, number5, next6, k12_0, k12_1 =>
  if 0 ≤ q7 then
  if q7 < (↑next6.length : Int) then
   det_Classes.l6 k count4 x23 x24 (Go.IntKind.i64.wrap (x25 + 1)) d1_0 d1_1 d1_2 d1_3 class3 number5 (next6.set q7.toNat (Go.Proofs.YtfkilmmldjajmaaSx.mget ((Go.Proofs.YtfkilmmldjajmaaSx.Ty.int Go.IntKind.i64).pair (Go.Proofs.YtfkilmmldjajmaaSx.Ty.str.pair Go.Proofs.YtfkilmmldjajmaaSx.Ty.unit)) (Go.Proofs.YtfkilmmldjajmaaSx.Ty.int Go.IntKind.i64) number5 (k12_0, k12_1, ())))
   else none
  else none
end
def det_Classes.f (k : Nat) (d0 : (Int × (Int × (List (List (Int)) × (List (Int) × Unit))))) : Option (List Int) :=
 (slices_Clone___int_int_.f k d0.snd.snd.snd.fst).bind fun r1 =>
  det_Classes.l3 k 0 d0.fst d0.snd.fst d0.snd.snd.fst d0.snd.snd.snd.fst r1

noncomputable def det_Classes.body : Code := fnBody Try.f161
def det_Classes.ti : Tm := ⟨[(0, .p (.pair (.int .i64) (.pair (.int .i64) (.pair (.slice (.slice (.int .i64))) (.pair (.slice (.int .i64)) .unit)))))], []⟩
def det_Classes.to : Tm := ⟨[(0, .own 0)], [.own (.int .i64)]⟩
def det_Classes.rs (r : (List Int)) : List Dat := [⟨(.slice (.int .i64)), r⟩]
def det_Classes.out (ds : List Dat) : Option ((List Int)) := pop (.slice (.int .i64)) ds fun x0 ds => popN ds (some (x0))
def det_Classes.c (k : Nat) (ds : List Dat) : Option ((List Int)) := pop (.pair (.int .i64) (.pair (.int .i64) (.pair (.slice (.slice (.int .i64))) (.pair (.slice (.int .i64)) .unit)))) ds fun x0 ds => popN ds (det_Classes.f k x0)
def det_Classes.g : Nat → List Dat → Option ((List Int))
 | 0, _ => none
 | k + 1, ds => det_Classes.c k ds
def det_Classes.env (k : Nat) : Nat → List SV → List Chunk → KT ((List Int)) → Option ((List Int)) := (envC 81 1 slices_Clone___int_int_.ti slices_Clone___int_int_.to (fun ds K => pop (.slice (.int .i64)) ds fun x0 ds => popN ds ((slices_Clone___int_int_.f k x0).bind fun r => K (slices_Clone___int_int_.rs r))) env0)
def det_Classes.t7 : Tm := ⟨[(1, .ptr 0 0), (3, .own 1), (4, .p (.int .i64))], [.box [.p (.int .i64), .p (.int .i64), .p (.slice (.slice (.int .i64))), .p (.slice (.int .i64))] 60, .own (.int .i64)]⟩
def det_Classes.c7 (k : Nat) (ds : List Dat) : Option ((List Int)) := pop (.int .i64) ds fun x0 ds => pop (.int .i64) ds fun x1 ds => pop (.int .i64) ds fun x2 ds => pop (.slice (.slice (.int .i64))) ds fun x3 ds => pop (.slice (.int .i64)) ds fun x4 ds => pop (.slice (.int .i64)) ds fun x5 ds => popN ds (det_Classes.l3 k x0 x1 x2 x3 x4 x5)
def det_Classes.t13 : Tm := ⟨[(1, .ptr 0 0), (3, .own 1), (4, .p (.int .i64)), (5, .map 2), (6, .own 3), (23, .p (.slice (.slice (.int .i64)))), (24, .p (.int .i64)), (25, .p (.int .i64))], [.box [.p (.int .i64), .p (.int .i64), .p (.slice (.slice (.int .i64))), .p (.slice (.int .i64))] 60, .own (.int .i64), .map (.pair (.int .i64) (.pair .str .unit)) (.int .i64), .own (.int .i64)]⟩
def det_Classes.c13 (k : Nat) (ds : List Dat) : Option ((List Int)) := pop (.int .i64) ds fun x0 ds => pop (.slice (.slice (.int .i64))) ds fun x1 ds => pop (.int .i64) ds fun x2 ds => pop (.int .i64) ds fun x3 ds => pop (.int .i64) ds fun x4 ds => pop (.int .i64) ds fun x5 ds => pop (.slice (.slice (.int .i64))) ds fun x6 ds => pop (.slice (.int .i64)) ds fun x7 ds => pop (.slice (.int .i64)) ds fun x8 ds => pop (.slice (.pair (.pair (.int .i64) (.pair .str .unit)) (.int .i64))) ds fun x9 ds => pop (.slice (.int .i64)) ds fun x10 ds => popN ds (det_Classes.l6 k x0 x1 x2 x3 x4 x5 x6 x7 x8 x9 x10)
def det_Classes.t21 : Tm := ⟨[(1, .ptr 0 0), (3, .own 1), (4, .p (.int .i64)), (5, .map 2), (6, .own 3), (7, .p (.int .i64)), (9, .own 4), (23, .p (.slice (.slice (.int .i64)))), (24, .p (.int .i64)), (25, .p (.int .i64)), (30, .p (.slice (.int .i64))), (31, .p (.int .i64)), (32, .p (.int .i64))], [.box [.p (.int .i64), .p (.int .i64), .p (.slice (.slice (.int .i64))), .p (.slice (.int .i64))] 60, .own (.int .i64), .map (.pair (.int .i64) (.pair .str .unit)) (.int .i64), .own (.int .i64), .own (.int .u8)]⟩
def det_Classes.c21 (k : Nat) (ds : List Dat) : Option ((List Int)) := pop (.int .i64) ds fun x0 ds => pop (.int .i64) ds fun x1 ds => pop (.slice (.slice (.int .i64))) ds fun x2 ds => pop (.int .i64) ds fun x3 ds => pop (.int .i64) ds fun x4 ds => pop (.slice (.int .i64)) ds fun x5 ds => pop (.int .i64) ds fun x6 ds => pop (.int .i64) ds fun x7 ds => pop (.int .i64) ds fun x8 ds => pop (.int .i64) ds fun x9 ds => pop (.slice (.slice (.int .i64))) ds fun x10 ds => pop (.slice (.int .i64)) ds fun x11 ds => pop (.slice (.int .i64)) ds fun x12 ds => pop (.slice (.pair (.pair (.int .i64) (.pair .str .unit)) (.int .i64))) ds fun x13 ds => pop (.slice (.int .i64)) ds fun x14 ds => pop (.slice (.int .u8)) ds fun x15 ds => popN ds (det_Classes.l10 k x0 x1 x2 x3 x4 x5 x6 x7 x8 x9 x10 x11 x12 x13 x14 x15)
def det_Classes.t36 : Tm := ⟨[(1, .ptr 0 0), (3, .own 1), (4, .p (.int .i64)), (5, .map 2), (6, .own 3), (7, .p (.int .i64)), (12, .ptr 4 0), (23, .p (.slice (.slice (.int .i64)))), (24, .p (.int .i64)), (25, .p (.int .i64))], [.box [.p (.int .i64), .p (.int .i64), .p (.slice (.slice (.int .i64))), .p (.slice (.int .i64))] 60, .own (.int .i64), .map (.pair (.int .i64) (.pair .str .unit)) (.int .i64), .own (.int .i64), .box [.p (.int .i64), .p .str] 220]⟩
def det_Classes.c36 (k : Nat) (ds : List Dat) : Option ((List Int)) := pop (.int .i64) ds fun x0 ds => pop (.int .i64) ds fun x1 ds => pop (.slice (.slice (.int .i64))) ds fun x2 ds => pop (.int .i64) ds fun x3 ds => pop (.int .i64) ds fun x4 ds => pop (.int .i64) ds fun x5 ds => pop (.int .i64) ds fun x6 ds => pop (.slice (.slice (.int .i64))) ds fun x7 ds => pop (.slice (.int .i64)) ds fun x8 ds => pop (.slice (.int .i64)) ds fun x9 ds => pop (.slice (.pair (.pair (.int .i64) (.pair .str .unit)) (.int .i64))) ds fun x10 ds => pop (.slice (.int .i64)) ds fun x11 ds => pop (.int .i64) ds fun x12 ds => pop .str ds fun x13 ds => popN ds (det_Classes.j18 k x0 x1 x2 x3 x4 x5 x6 x7 x8 x9 x10 x11 x12 x13)
def det_Classes.tbl : List (Nat × Tm × (Nat → List Dat → Option ((List Int)))) := [(7, det_Classes.t7, det_Classes.c7), (13, det_Classes.t13, det_Classes.c13), (21, det_Classes.t21, det_Classes.c21), (36, det_Classes.t36, det_Classes.c36)]
noncomputable abbrev det_Classes.R (k : Nat) := run T (det_Classes.env k) Try.f161.ntmps (cutE 0 det_Classes.tbl k) (finE 0 det_Classes.to det_Classes.out) (fnRes Try.f161) [18] 100000 true
theorem det_Classes.e7 (k : Nat) (x0 : Int) (x1 : Int) (x2 : Int) (x3 : (List (List Int))) (x4 : (List Int)) (x5 : (List Int)) : det_Classes.l3 (k + 1) x0 x1 x2 x3 x4 x5 = det_Classes.R k (start (stackOf 7 det_Classes.body)) (det_Classes.t7.fill [⟨(.int .i64), x0⟩, ⟨(.int .i64), x1⟩, ⟨(.int .i64), x2⟩, ⟨(.slice (.slice (.int .i64))), x3⟩, ⟨(.slice (.int .i64)), x4⟩, ⟨(.slice (.int .i64)), x5⟩]) := by kernel_rfl
theorem det_Classes.s7 : stackAt 7 det_Classes.body [] = some (stackOf 7 det_Classes.body) := by kernel_rfl
theorem det_Classes.h7 (k : Nat) (ds : List Dat) (r : (List Int)) (h : det_Classes.c7 k ds = some r) : ∃ k', k' < k ∧ ∃ s, stackAt 7 det_Classes.body [] = some s ∧ det_Classes.R k' (start s) (det_Classes.t7.fill ds) = some r := by
  unfold det_Classes.c7 at h
  obtain ⟨x0, d0, rfl, h0⟩ := pop_some h
  obtain ⟨x1, d1, rfl, h1⟩ := pop_some h0
  obtain ⟨x2, d2, rfl, h2⟩ := pop_some h1
  obtain ⟨x3, d3, rfl, h3⟩ := pop_some h2
  obtain ⟨x4, d4, rfl, h4⟩ := pop_some h3
  obtain ⟨x5, d5, rfl, h5⟩ := pop_some h4
  obtain ⟨rfl, g⟩ := popN_some h5
  cases k with
  | zero => cases (show none = some r from g)
  | succ k => exact ⟨k, Nat.lt_succ_self k, _, det_Classes.s7, (det_Classes.e7 k x0 x1 x2 x3 x4 x5).symm.trans g⟩
theorem det_Classes.e13 (k : Nat) (x0 : Int) (x1 : (List (List Int))) (x2 : Int) (x3 : Int) (x4 : Int) (x5 : Int) (x6 : (List (List Int))) (x7 : (List Int)) (x8 : (List Int)) (x9 : (List ((Int × (ByteArray × Unit)) × Int))) (x10 : (List Int)) : det_Classes.l6 (k + 1) x0 x1 x2 x3 x4 x5 x6 x7 x8 x9 x10 = det_Classes.R k (start (stackOf 13 det_Classes.body)) (det_Classes.t13.fill [⟨(.int .i64), x0⟩, ⟨(.slice (.slice (.int .i64))), x1⟩, ⟨(.int .i64), x2⟩, ⟨(.int .i64), x3⟩, ⟨(.int .i64), x4⟩, ⟨(.int .i64), x5⟩, ⟨(.slice (.slice (.int .i64))), x6⟩, ⟨(.slice (.int .i64)), x7⟩, ⟨(.slice (.int .i64)), x8⟩, ⟨(.slice (.pair (.pair (.int .i64) (.pair .str .unit)) (.int .i64))), x9⟩, ⟨(.slice (.int .i64)), x10⟩]) := by kernel_rfl
theorem det_Classes.s13 : stackAt 13 det_Classes.body [] = some (stackOf 13 det_Classes.body) := by kernel_rfl
theorem det_Classes.h13 (k : Nat) (ds : List Dat) (r : (List Int)) (h : det_Classes.c13 k ds = some r) : ∃ k', k' < k ∧ ∃ s, stackAt 13 det_Classes.body [] = some s ∧ det_Classes.R k' (start s) (det_Classes.t13.fill ds) = some r := by
  unfold det_Classes.c13 at h
  obtain ⟨x0, d0, rfl, h0⟩ := pop_some h
  obtain ⟨x1, d1, rfl, h1⟩ := pop_some h0
  obtain ⟨x2, d2, rfl, h2⟩ := pop_some h1
  obtain ⟨x3, d3, rfl, h3⟩ := pop_some h2
  obtain ⟨x4, d4, rfl, h4⟩ := pop_some h3
  obtain ⟨x5, d5, rfl, h5⟩ := pop_some h4
  obtain ⟨x6, d6, rfl, h6⟩ := pop_some h5
  obtain ⟨x7, d7, rfl, h7⟩ := pop_some h6
  obtain ⟨x8, d8, rfl, h8⟩ := pop_some h7
  obtain ⟨x9, d9, rfl, h9⟩ := pop_some h8
  obtain ⟨x10, d10, rfl, h10⟩ := pop_some h9
  obtain ⟨rfl, g⟩ := popN_some h10
  cases k with
  | zero => cases (show none = some r from g)
  | succ k => exact ⟨k, Nat.lt_succ_self k, _, det_Classes.s13, (det_Classes.e13 k x0 x1 x2 x3 x4 x5 x6 x7 x8 x9 x10).symm.trans g⟩
theorem det_Classes.e21 (k : Nat) (x0 : Int) (x1 : Int) (x2 : (List (List Int))) (x3 : Int) (x4 : Int) (x5 : (List Int)) (x6 : Int) (x7 : Int) (x8 : Int) (x9 : Int) (x10 : (List (List Int))) (x11 : (List Int)) (x12 : (List Int)) (x13 : (List ((Int × (ByteArray × Unit)) × Int))) (x14 : (List Int)) (x15 : (List Int)) : det_Classes.l10 (k + 1) x0 x1 x2 x3 x4 x5 x6 x7 x8 x9 x10 x11 x12 x13 x14 x15 = det_Classes.R k (start (stackOf 21 det_Classes.body)) (det_Classes.t21.fill [⟨(.int .i64), x0⟩, ⟨(.int .i64), x1⟩, ⟨(.slice (.slice (.int .i64))), x2⟩, ⟨(.int .i64), x3⟩, ⟨(.int .i64), x4⟩, ⟨(.slice (.int .i64)), x5⟩, ⟨(.int .i64), x6⟩, ⟨(.int .i64), x7⟩, ⟨(.int .i64), x8⟩, ⟨(.int .i64), x9⟩, ⟨(.slice (.slice (.int .i64))), x10⟩, ⟨(.slice (.int .i64)), x11⟩, ⟨(.slice (.int .i64)), x12⟩, ⟨(.slice (.pair (.pair (.int .i64) (.pair .str .unit)) (.int .i64))), x13⟩, ⟨(.slice (.int .i64)), x14⟩, ⟨(.slice (.int .u8)), x15⟩]) := by kernel_rfl
theorem det_Classes.s21 : stackAt 21 det_Classes.body [] = some (stackOf 21 det_Classes.body) := by kernel_rfl
theorem det_Classes.h21 (k : Nat) (ds : List Dat) (r : (List Int)) (h : det_Classes.c21 k ds = some r) : ∃ k', k' < k ∧ ∃ s, stackAt 21 det_Classes.body [] = some s ∧ det_Classes.R k' (start s) (det_Classes.t21.fill ds) = some r := by
  unfold det_Classes.c21 at h
  obtain ⟨x0, d0, rfl, h0⟩ := pop_some h
  obtain ⟨x1, d1, rfl, h1⟩ := pop_some h0
  obtain ⟨x2, d2, rfl, h2⟩ := pop_some h1
  obtain ⟨x3, d3, rfl, h3⟩ := pop_some h2
  obtain ⟨x4, d4, rfl, h4⟩ := pop_some h3
  obtain ⟨x5, d5, rfl, h5⟩ := pop_some h4
  obtain ⟨x6, d6, rfl, h6⟩ := pop_some h5
  obtain ⟨x7, d7, rfl, h7⟩ := pop_some h6
  obtain ⟨x8, d8, rfl, h8⟩ := pop_some h7
  obtain ⟨x9, d9, rfl, h9⟩ := pop_some h8
  obtain ⟨x10, d10, rfl, h10⟩ := pop_some h9
  obtain ⟨x11, d11, rfl, h11⟩ := pop_some h10
  obtain ⟨x12, d12, rfl, h12⟩ := pop_some h11
  obtain ⟨x13, d13, rfl, h13⟩ := pop_some h12
  obtain ⟨x14, d14, rfl, h14⟩ := pop_some h13
  obtain ⟨x15, d15, rfl, h15⟩ := pop_some h14
  obtain ⟨rfl, g⟩ := popN_some h15
  cases k with
  | zero => cases (show none = some r from g)
  | succ k => exact ⟨k, Nat.lt_succ_self k, _, det_Classes.s21, (det_Classes.e21 k x0 x1 x2 x3 x4 x5 x6 x7 x8 x9 x10 x11 x12 x13 x14 x15).symm.trans g⟩
theorem det_Classes.e36 (k : Nat) (x0 : Int) (x1 : Int) (x2 : (List (List Int))) (x3 : Int) (x4 : Int) (x5 : Int) (x6 : Int) (x7 : (List (List Int))) (x8 : (List Int)) (x9 : (List Int)) (x10 : (List ((Int × (ByteArray × Unit)) × Int))) (x11 : (List Int)) (x12 : Int) (x13 : ByteArray) : det_Classes.j18 (k + 1) x0 x1 x2 x3 x4 x5 x6 x7 x8 x9 x10 x11 x12 x13 = det_Classes.R k (start (stackOf 36 det_Classes.body)) (det_Classes.t36.fill [⟨(.int .i64), x0⟩, ⟨(.int .i64), x1⟩, ⟨(.slice (.slice (.int .i64))), x2⟩, ⟨(.int .i64), x3⟩, ⟨(.int .i64), x4⟩, ⟨(.int .i64), x5⟩, ⟨(.int .i64), x6⟩, ⟨(.slice (.slice (.int .i64))), x7⟩, ⟨(.slice (.int .i64)), x8⟩, ⟨(.slice (.int .i64)), x9⟩, ⟨(.slice (.pair (.pair (.int .i64) (.pair .str .unit)) (.int .i64))), x10⟩, ⟨(.slice (.int .i64)), x11⟩, ⟨(.int .i64), x12⟩, ⟨.str, x13⟩]) := by kernel_rfl
theorem det_Classes.s36 : stackAt 36 det_Classes.body [] = some (stackOf 36 det_Classes.body) := by kernel_rfl
theorem det_Classes.h36 (k : Nat) (ds : List Dat) (r : (List Int)) (h : det_Classes.c36 k ds = some r) : ∃ k', k' < k ∧ ∃ s, stackAt 36 det_Classes.body [] = some s ∧ det_Classes.R k' (start s) (det_Classes.t36.fill ds) = some r := by
  unfold det_Classes.c36 at h
  obtain ⟨x0, d0, rfl, h0⟩ := pop_some h
  obtain ⟨x1, d1, rfl, h1⟩ := pop_some h0
  obtain ⟨x2, d2, rfl, h2⟩ := pop_some h1
  obtain ⟨x3, d3, rfl, h3⟩ := pop_some h2
  obtain ⟨x4, d4, rfl, h4⟩ := pop_some h3
  obtain ⟨x5, d5, rfl, h5⟩ := pop_some h4
  obtain ⟨x6, d6, rfl, h6⟩ := pop_some h5
  obtain ⟨x7, d7, rfl, h7⟩ := pop_some h6
  obtain ⟨x8, d8, rfl, h8⟩ := pop_some h7
  obtain ⟨x9, d9, rfl, h9⟩ := pop_some h8
  obtain ⟨x10, d10, rfl, h10⟩ := pop_some h9
  obtain ⟨x11, d11, rfl, h11⟩ := pop_some h10
  obtain ⟨x12, d12, rfl, h12⟩ := pop_some h11
  obtain ⟨x13, d13, rfl, h13⟩ := pop_some h12
  obtain ⟨rfl, g⟩ := popN_some h13
  cases k with
  | zero => cases (show none = some r from g)
  | succ k => exact ⟨k, Nat.lt_succ_self k, _, det_Classes.s36, (det_Classes.e36 k x0 x1 x2 x3 x4 x5 x6 x7 x8 x9 x10 x11 x12 x13).symm.trans g⟩
theorem det_Classes.e (k : Nat) (x0 : (Int × (Int × ((List (List Int)) × ((List Int) × Unit))))) : det_Classes.f k x0 = det_Classes.R k ([.code det_Classes.body]) (det_Classes.ti.fill [⟨(.pair (.int .i64) (.pair (.int .i64) (.pair (.slice (.slice (.int .i64))) (.pair (.slice (.int .i64)) .unit)))), x0⟩]) := by kernel_rfl
theorem det_Classes.h (k : Nat) (ds : List Dat) (r : (List Int)) (h : det_Classes.g k ds = some r) : ∃ k', k' < k ∧ det_Classes.R k' ([.code det_Classes.body]) (det_Classes.ti.fill ds) = some r := by
  cases k with
  | zero => cases (show none = some r from h)
  | succ k =>
  replace h : det_Classes.c k ds = some r := h
  unfold det_Classes.c at h
  obtain ⟨x0, d0, rfl, h0⟩ := pop_some h
  obtain ⟨rfl, g⟩ := popN_some h0
  exact ⟨k, Nat.lt_succ_self k, (det_Classes.e k x0).symm.trans g⟩
theorem det_Classes.o (ds : List Dat) (r : (List Int)) (h : det_Classes.out ds = some r) : ds = det_Classes.rs r := by
  unfold det_Classes.out at h
  obtain ⟨x0, d0, rfl, h0⟩ := pop_some h
  obtain ⟨rfl, g⟩ := popN_some h0
  cases g
  rfl
theorem det_Classes.fn : FnOk Try.prog 161 Try.f161 det_Classes.body Try.f161.ntmps 1 (fnRes Try.f161) :=
  fnOk_of (by kernel_rfl) (by kernel_rfl) (by kernel_rfl) (by kernel_rfl)
theorem det_Classes.con' : ∀ k ds r, det_Classes.g k ds = some r → Con Try.prog 161 1 det_Classes.ti det_Classes.to ds (det_Classes.rs r) :=
  fun_ok (T := T) T_ok mixed det_Classes.fn (env := det_Classes.env) (tbl := det_Classes.tbl) (gOut := det_Classes.out) (nin := 0) (cuts := [18]) (fuel := 100000) rfl (by kernel_rfl) (by kernel_rfl) (by kernel_rfl) (fun x hx => by
    simp only [det_Classes.tbl, List.mem_cons, List.not_mem_nil, or_false] at hx
    rcases hx with rfl | rfl | rfl | rfl
    · exact det_Classes.h7
    · exact det_Classes.h13
    · exact det_Classes.h21
    · exact det_Classes.h36
) det_Classes.o det_Classes.h (fun k _ => by unfold det_Classes.env; exact (envC_ok (fun ds K r h => by
    obtain ⟨x0, d0, rfl, h0⟩ := pop_some h
    obtain ⟨rfl, g⟩ := popN_some h0
    obtain ⟨r1, h1, h2⟩ := bind_some g
    exact ⟨_, h2, slices_Clone___int_int_.con k _ h1⟩) env0_ok))
theorem det_Classes.con (k : Nat) {x0 : (Int × (Int × ((List (List Int)) × ((List Int) × Unit))))} (r : (List Int)) (h : det_Classes.f k x0 = some r) : Con Try.prog 161 1 det_Classes.ti det_Classes.to [⟨(.pair (.int .i64) (.pair (.int .i64) (.pair (.slice (.slice (.int .i64))) (.pair (.slice (.int .i64)) .unit)))), x0⟩] (det_Classes.rs r) :=
  det_Classes.con' (k + 1) _ r (by show det_Classes.c k _ = some r; unfold det_Classes.c; simp only [pop_self, popN]; exact h)
def det_Smallest_1.f (k : Nat) (c0 : Int) (a1 : Int) (x3_0 : Int) (x3_1 : Int) (x3_2 : List (List (Int))) (x3_3 : List (Int)) (c3 : List (Int)) (c4 : List (Int)) : Option (Int × Int × Int × List (List Int) × List Int × List Int × List Int) :=
 if 0 ≤ c0 then
 if c0 < (↑c4.length : Int) then
  if 0 ≤ c4.getD c0.toNat (Int.ofNat 0) then
   if c4.getD c0.toNat (Int.ofNat 0) < (↑x3_2.length : Int) then
    if 0 ≤ a1 then
     if a1 < (↑(Go.Proofs.YtfkilmmldjajmaaSx.rd [] x3_2 (c4.getD c0.toNat (Int.ofNat 0))).length : Int) then
      if 0 ≤ Go.Proofs.YtfkilmmldjajmaaSx.rd (Int.ofNat 0) (Go.Proofs.YtfkilmmldjajmaaSx.rd [] x3_2 (c4.getD c0.toNat (Int.ofNat 0))) a1 then
       if Go.Proofs.YtfkilmmldjajmaaSx.rd (Int.ofNat 0) (Go.Proofs.YtfkilmmldjajmaaSx.rd [] x3_2 (c4.getD c0.toNat (Int.ofNat 0))) a1 < (↑c3.length : Int) then
        some (c3.getD (Go.Proofs.YtfkilmmldjajmaaSx.rd (Int.ofNat 0) (Go.Proofs.YtfkilmmldjajmaaSx.rd [] x3_2 (c4.getD c0.toNat (Int.ofNat 0))) a1).toNat (Int.ofNat 0), x3_0, x3_1, x3_2, x3_3, c3, c4)
        else none
       else none
      else none
     else none
    else none
   else none
  else none
 else none

noncomputable def det_Smallest_1.body : Code := fnBody Try.f162
def det_Smallest_1.ti : Tm := ⟨[(0, .p (.int .i64)), (1, .p (.int .i64)), (2, .ptr 0 0), (3, .ptr 1 0), (4, .ptr 2 0)], [.box [.own 3] 23, .box [.p (.int .i64), .p (.int .i64), .p (.slice (.slice (.int .i64))), .p (.slice (.int .i64))] 60, .box [.own 4] 23, .own (.int .i64), .own (.int .i64)]⟩
def det_Smallest_1.to : Tm := ⟨[(0, .p (.int .i64))], [.box [.own 3] 23, .box [.p (.int .i64), .p (.int .i64), .p (.slice (.slice (.int .i64))), .p (.slice (.int .i64))] 60, .box [.own 4] 23, .own (.int .i64), .own (.int .i64)]⟩
def det_Smallest_1.rs (r : Int × Int × Int × (List (List Int)) × (List Int) × (List Int) × (List Int)) : List Dat := [⟨(.int .i64), r.1⟩, ⟨(.int .i64), r.2.1⟩, ⟨(.int .i64), r.2.2.1⟩, ⟨(.slice (.slice (.int .i64))), r.2.2.2.1⟩, ⟨(.slice (.int .i64)), r.2.2.2.2.1⟩, ⟨(.slice (.int .i64)), r.2.2.2.2.2.1⟩, ⟨(.slice (.int .i64)), r.2.2.2.2.2.2⟩]
def det_Smallest_1.out (ds : List Dat) : Option (Int × Int × Int × (List (List Int)) × (List Int) × (List Int) × (List Int)) := pop (.int .i64) ds fun x0 ds => pop (.int .i64) ds fun x1 ds => pop (.int .i64) ds fun x2 ds => pop (.slice (.slice (.int .i64))) ds fun x3 ds => pop (.slice (.int .i64)) ds fun x4 ds => pop (.slice (.int .i64)) ds fun x5 ds => pop (.slice (.int .i64)) ds fun x6 ds => popN ds (some (x0, x1, x2, x3, x4, x5, x6))
def det_Smallest_1.c (k : Nat) (ds : List Dat) : Option (Int × Int × Int × (List (List Int)) × (List Int) × (List Int) × (List Int)) := pop (.int .i64) ds fun x0 ds => pop (.int .i64) ds fun x1 ds => pop (.int .i64) ds fun x2 ds => pop (.int .i64) ds fun x3 ds => pop (.slice (.slice (.int .i64))) ds fun x4 ds => pop (.slice (.int .i64)) ds fun x5 ds => pop (.slice (.int .i64)) ds fun x6 ds => pop (.slice (.int .i64)) ds fun x7 ds => popN ds (det_Smallest_1.f k x0 x1 x2 x3 x4 x5 x6 x7)
def det_Smallest_1.g : Nat → List Dat → Option (Int × Int × Int × (List (List Int)) × (List Int) × (List Int) × (List Int))
 | 0, _ => none
 | k + 1, ds => det_Smallest_1.c k ds
def det_Smallest_1.env (k : Nat) : Nat → List SV → List Chunk → KT (Int × Int × Int × (List (List Int)) × (List Int) × (List Int) × (List Int)) → Option (Int × Int × Int × (List (List Int)) × (List Int) × (List Int) × (List Int)) := env0
def det_Smallest_1.tbl : List (Nat × Tm × (Nat → List Dat → Option (Int × Int × Int × (List (List Int)) × (List Int) × (List Int) × (List Int)))) := []
noncomputable abbrev det_Smallest_1.R (k : Nat) := run T (det_Smallest_1.env k) Try.f162.ntmps (cutE 5 det_Smallest_1.tbl k) (finE 5 det_Smallest_1.to det_Smallest_1.out) (fnRes Try.f162) [] 100000 true
theorem det_Smallest_1.e (k : Nat) (x0 : Int) (x1 : Int) (x2 : Int) (x3 : Int) (x4 : (List (List Int))) (x5 : (List Int)) (x6 : (List Int)) (x7 : (List Int)) : det_Smallest_1.f k x0 x1 x2 x3 x4 x5 x6 x7 = det_Smallest_1.R k ([.code det_Smallest_1.body]) (det_Smallest_1.ti.fill [⟨(.int .i64), x0⟩, ⟨(.int .i64), x1⟩, ⟨(.int .i64), x2⟩, ⟨(.int .i64), x3⟩, ⟨(.slice (.slice (.int .i64))), x4⟩, ⟨(.slice (.int .i64)), x5⟩, ⟨(.slice (.int .i64)), x6⟩, ⟨(.slice (.int .i64)), x7⟩]) := by kernel_rfl
theorem det_Smallest_1.h (k : Nat) (ds : List Dat) (r : Int × Int × Int × (List (List Int)) × (List Int) × (List Int) × (List Int)) (h : det_Smallest_1.g k ds = some r) : ∃ k', k' < k ∧ det_Smallest_1.R k' ([.code det_Smallest_1.body]) (det_Smallest_1.ti.fill ds) = some r := by
  cases k with
  | zero => cases (show none = some r from h)
  | succ k =>
  replace h : det_Smallest_1.c k ds = some r := h
  unfold det_Smallest_1.c at h
  obtain ⟨x0, d0, rfl, h0⟩ := pop_some h
  obtain ⟨x1, d1, rfl, h1⟩ := pop_some h0
  obtain ⟨x2, d2, rfl, h2⟩ := pop_some h1
  obtain ⟨x3, d3, rfl, h3⟩ := pop_some h2
  obtain ⟨x4, d4, rfl, h4⟩ := pop_some h3
  obtain ⟨x5, d5, rfl, h5⟩ := pop_some h4
  obtain ⟨x6, d6, rfl, h6⟩ := pop_some h5
  obtain ⟨x7, d7, rfl, h7⟩ := pop_some h6
  obtain ⟨rfl, g⟩ := popN_some h7
  exact ⟨k, Nat.lt_succ_self k, (det_Smallest_1.e k x0 x1 x2 x3 x4 x5 x6 x7).symm.trans g⟩
theorem det_Smallest_1.o (ds : List Dat) (r : Int × Int × Int × (List (List Int)) × (List Int) × (List Int) × (List Int)) (h : det_Smallest_1.out ds = some r) : ds = det_Smallest_1.rs r := by
  unfold det_Smallest_1.out at h
  obtain ⟨x0, d0, rfl, h0⟩ := pop_some h
  obtain ⟨x1, d1, rfl, h1⟩ := pop_some h0
  obtain ⟨x2, d2, rfl, h2⟩ := pop_some h1
  obtain ⟨x3, d3, rfl, h3⟩ := pop_some h2
  obtain ⟨x4, d4, rfl, h4⟩ := pop_some h3
  obtain ⟨x5, d5, rfl, h5⟩ := pop_some h4
  obtain ⟨x6, d6, rfl, h6⟩ := pop_some h5
  obtain ⟨rfl, g⟩ := popN_some h6
  cases g
  rfl
theorem det_Smallest_1.fn : FnOk Try.prog 162 Try.f162 det_Smallest_1.body Try.f162.ntmps 5 (fnRes Try.f162) :=
  fnOk_of (by kernel_rfl) (by kernel_rfl) (by kernel_rfl) (by kernel_rfl)
theorem det_Smallest_1.con' : ∀ k ds r, det_Smallest_1.g k ds = some r → Con Try.prog 162 5 det_Smallest_1.ti det_Smallest_1.to ds (det_Smallest_1.rs r) :=
  fun_ok (T := T) T_ok mixed det_Smallest_1.fn (env := det_Smallest_1.env) (tbl := det_Smallest_1.tbl) (gOut := det_Smallest_1.out) (nin := 5) (cuts := []) (fuel := 100000) rfl (by kernel_rfl) (by kernel_rfl) (by kernel_rfl) (fun x hx => by simp [det_Smallest_1.tbl] at hx) det_Smallest_1.o det_Smallest_1.h (fun k _ => by unfold det_Smallest_1.env; exact env0_ok)
theorem det_Smallest_1.con (k : Nat) {x0 : Int} {x1 : Int} {x2 : Int} {x3 : Int} {x4 : (List (List Int))} {x5 : (List Int)} {x6 : (List Int)} {x7 : (List Int)} (r : Int × Int × Int × (List (List Int)) × (List Int) × (List Int) × (List Int)) (h : det_Smallest_1.f k x0 x1 x2 x3 x4 x5 x6 x7 = some r) : Con Try.prog 162 5 det_Smallest_1.ti det_Smallest_1.to [⟨(.int .i64), x0⟩, ⟨(.int .i64), x1⟩, ⟨(.int .i64), x2⟩, ⟨(.int .i64), x3⟩, ⟨(.slice (.slice (.int .i64))), x4⟩, ⟨(.slice (.int .i64)), x5⟩, ⟨(.slice (.int .i64)), x6⟩, ⟨(.slice (.int .i64)), x7⟩] (det_Smallest_1.rs r) :=
  det_Smallest_1.con' (k + 1) _ r (by show det_Smallest_1.c k _ = some r; unfold det_Smallest_1.c; simp only [pop_self, popN]; exact h)
def det_Smallest_2.f (k : Nat) (c0 : Int) (x1_0 : Int) (x1_1 : Int) (x1_2 : List (List (Int))) (x1_3 : List (Int)) (c2 : List (Int)) : Option (Int × Int × Int × List (List Int) × List Int × List Int) :=
 if 0 ≤ c0 then
 if c0 < (↑c2.length : Int) then
  if 0 ≤ c2.getD c0.toNat (Int.ofNat 0) then
   if c2.getD c0.toNat (Int.ofNat 0) < (↑x1_3.length : Int) then
    some (Go.Proofs.YtfkilmmldjajmaaSx.rd (Int.ofNat 0) x1_3 (c2.getD c0.toNat (Int.ofNat 0)), x1_0, x1_1, x1_2, x1_3, c2)
    else none
   else none
  else none
 else none

noncomputable def det_Smallest_2.body : Code := fnBody Try.f163
def det_Smallest_2.ti : Tm := ⟨[(0, .p (.int .i64)), (1, .ptr 0 0), (2, .ptr 1 0)], [.box [.p (.int .i64), .p (.int .i64), .p (.slice (.slice (.int .i64))), .p (.slice (.int .i64))] 60, .box [.own 2] 23, .own (.int .i64)]⟩
def det_Smallest_2.to : Tm := ⟨[(0, .p (.int .i64))], [.box [.p (.int .i64), .p (.int .i64), .p (.slice (.slice (.int .i64))), .p (.slice (.int .i64))] 60, .box [.own 2] 23, .own (.int .i64)]⟩
def det_Smallest_2.rs (r : Int × Int × Int × (List (List Int)) × (List Int) × (List Int)) : List Dat := [⟨(.int .i64), r.1⟩, ⟨(.int .i64), r.2.1⟩, ⟨(.int .i64), r.2.2.1⟩, ⟨(.slice (.slice (.int .i64))), r.2.2.2.1⟩, ⟨(.slice (.int .i64)), r.2.2.2.2.1⟩, ⟨(.slice (.int .i64)), r.2.2.2.2.2⟩]
def det_Smallest_2.out (ds : List Dat) : Option (Int × Int × Int × (List (List Int)) × (List Int) × (List Int)) := pop (.int .i64) ds fun x0 ds => pop (.int .i64) ds fun x1 ds => pop (.int .i64) ds fun x2 ds => pop (.slice (.slice (.int .i64))) ds fun x3 ds => pop (.slice (.int .i64)) ds fun x4 ds => pop (.slice (.int .i64)) ds fun x5 ds => popN ds (some (x0, x1, x2, x3, x4, x5))
def det_Smallest_2.c (k : Nat) (ds : List Dat) : Option (Int × Int × Int × (List (List Int)) × (List Int) × (List Int)) := pop (.int .i64) ds fun x0 ds => pop (.int .i64) ds fun x1 ds => pop (.int .i64) ds fun x2 ds => pop (.slice (.slice (.int .i64))) ds fun x3 ds => pop (.slice (.int .i64)) ds fun x4 ds => pop (.slice (.int .i64)) ds fun x5 ds => popN ds (det_Smallest_2.f k x0 x1 x2 x3 x4 x5)
def det_Smallest_2.g : Nat → List Dat → Option (Int × Int × Int × (List (List Int)) × (List Int) × (List Int))
 | 0, _ => none
 | k + 1, ds => det_Smallest_2.c k ds
def det_Smallest_2.env (k : Nat) : Nat → List SV → List Chunk → KT (Int × Int × Int × (List (List Int)) × (List Int) × (List Int)) → Option (Int × Int × Int × (List (List Int)) × (List Int) × (List Int)) := env0
def det_Smallest_2.tbl : List (Nat × Tm × (Nat → List Dat → Option (Int × Int × Int × (List (List Int)) × (List Int) × (List Int)))) := []
noncomputable abbrev det_Smallest_2.R (k : Nat) := run T (det_Smallest_2.env k) Try.f163.ntmps (cutE 3 det_Smallest_2.tbl k) (finE 3 det_Smallest_2.to det_Smallest_2.out) (fnRes Try.f163) [] 100000 true
theorem det_Smallest_2.e (k : Nat) (x0 : Int) (x1 : Int) (x2 : Int) (x3 : (List (List Int))) (x4 : (List Int)) (x5 : (List Int)) : det_Smallest_2.f k x0 x1 x2 x3 x4 x5 = det_Smallest_2.R k ([.code det_Smallest_2.body]) (det_Smallest_2.ti.fill [⟨(.int .i64), x0⟩, ⟨(.int .i64), x1⟩, ⟨(.int .i64), x2⟩, ⟨(.slice (.slice (.int .i64))), x3⟩, ⟨(.slice (.int .i64)), x4⟩, ⟨(.slice (.int .i64)), x5⟩]) := by kernel_rfl
theorem det_Smallest_2.h (k : Nat) (ds : List Dat) (r : Int × Int × Int × (List (List Int)) × (List Int) × (List Int)) (h : det_Smallest_2.g k ds = some r) : ∃ k', k' < k ∧ det_Smallest_2.R k' ([.code det_Smallest_2.body]) (det_Smallest_2.ti.fill ds) = some r := by
  cases k with
  | zero => cases (show none = some r from h)
  | succ k =>
  replace h : det_Smallest_2.c k ds = some r := h
  unfold det_Smallest_2.c at h
  obtain ⟨x0, d0, rfl, h0⟩ := pop_some h
  obtain ⟨x1, d1, rfl, h1⟩ := pop_some h0
  obtain ⟨x2, d2, rfl, h2⟩ := pop_some h1
  obtain ⟨x3, d3, rfl, h3⟩ := pop_some h2
  obtain ⟨x4, d4, rfl, h4⟩ := pop_some h3
  obtain ⟨x5, d5, rfl, h5⟩ := pop_some h4
  obtain ⟨rfl, g⟩ := popN_some h5
  exact ⟨k, Nat.lt_succ_self k, (det_Smallest_2.e k x0 x1 x2 x3 x4 x5).symm.trans g⟩
theorem det_Smallest_2.o (ds : List Dat) (r : Int × Int × Int × (List (List Int)) × (List Int) × (List Int)) (h : det_Smallest_2.out ds = some r) : ds = det_Smallest_2.rs r := by
  unfold det_Smallest_2.out at h
  obtain ⟨x0, d0, rfl, h0⟩ := pop_some h
  obtain ⟨x1, d1, rfl, h1⟩ := pop_some h0
  obtain ⟨x2, d2, rfl, h2⟩ := pop_some h1
  obtain ⟨x3, d3, rfl, h3⟩ := pop_some h2
  obtain ⟨x4, d4, rfl, h4⟩ := pop_some h3
  obtain ⟨x5, d5, rfl, h5⟩ := pop_some h4
  obtain ⟨rfl, g⟩ := popN_some h5
  cases g
  rfl
theorem det_Smallest_2.fn : FnOk Try.prog 163 Try.f163 det_Smallest_2.body Try.f163.ntmps 3 (fnRes Try.f163) :=
  fnOk_of (by kernel_rfl) (by kernel_rfl) (by kernel_rfl) (by kernel_rfl)
theorem det_Smallest_2.con' : ∀ k ds r, det_Smallest_2.g k ds = some r → Con Try.prog 163 3 det_Smallest_2.ti det_Smallest_2.to ds (det_Smallest_2.rs r) :=
  fun_ok (T := T) T_ok mixed det_Smallest_2.fn (env := det_Smallest_2.env) (tbl := det_Smallest_2.tbl) (gOut := det_Smallest_2.out) (nin := 3) (cuts := []) (fuel := 100000) rfl (by kernel_rfl) (by kernel_rfl) (by kernel_rfl) (fun x hx => by simp [det_Smallest_2.tbl] at hx) det_Smallest_2.o det_Smallest_2.h (fun k _ => by unfold det_Smallest_2.env; exact env0_ok)
theorem det_Smallest_2.con (k : Nat) {x0 : Int} {x1 : Int} {x2 : Int} {x3 : (List (List Int))} {x4 : (List Int)} {x5 : (List Int)} (r : Int × Int × Int × (List (List Int)) × (List Int) × (List Int)) (h : det_Smallest_2.f k x0 x1 x2 x3 x4 x5 = some r) : Con Try.prog 163 3 det_Smallest_2.ti det_Smallest_2.to [⟨(.int .i64), x0⟩, ⟨(.int .i64), x1⟩, ⟨(.int .i64), x2⟩, ⟨(.slice (.slice (.int .i64))), x3⟩, ⟨(.slice (.int .i64)), x4⟩, ⟨(.slice (.int .i64)), x5⟩] (det_Smallest_2.rs r) :=
  det_Smallest_2.con' (k + 1) _ r (by show det_Smallest_2.c k _ = some r; unfold det_Smallest_2.c; simp only [pop_self, popN]; exact h)
mutual
def det_Explore_int__2.l4 : Nat → Int → Int → Int → Int → List (List (Int)) → List (Int) → List (Int) → List (Int) → Int → Int → Int → Int → List ((Int × Int)) → List (Int) → List (List (Int)) → List (Int) → List (List (Int)) → List (Int) → Option (Int × Int × Bool × Int × Int × List (List Int) × List Int × List Int × List Int × List (List Int) × List Int)
 | 0, _, _, _, _, _, _, _, _, _, _, _, _, _, _, _, _, _, _ => none
 | k + 1, letters0, most4, c1_0, c1_1, c1_2, c1_3, c3, c4, x10_0, x10_1, d12_0, d12_1, number13, l14, c9, c10, c11, c12 =>
  if (↑c11.length : Int) < (↑l14.length : Int) then
   if 0 ≤ (↑c11.length : Int) then
   if (↑c11.length : Int) < (↑l14.length : Int) then
    if 0 ≤ letters0 then
     if letters0 ≤ letters0 then
      if letters0 * ((↑8 : Int) + 1) ≤ 281474976710656 then
       det_Explore_int__2.l8 k letters0 most4 (l14.getD (↑c11.length : Int).toNat (Int.ofNat 0)) letters0 0 c1_0 c1_1 c1_2 c1_3 c3 c4 x10_0 x10_1 d12_0 d12_1 number13 l14 (List.replicate letters0.toNat (Int.ofNat 0)) c9 c10 c11 c12
       else none
      else none
     else none
    else none
   else none
  else
   some (d12_0, d12_1, true, c1_0, c1_1, c1_2, c1_3, c3, c4, c11, c12)
def det_Explore_int__2.l8 : Nat → Int → Int → Int → Int → Int → Int → Int → List (List (Int)) → List (Int) → List (Int) → List (Int) → Int → Int → Int → Int → List ((Int × Int)) → List (Int) → List (Int) → List (List (Int)) → List (Int) → List (List (Int)) → List (Int) → Option (Int × Int × Bool × Int × Int × List (List Int) × List Int × List Int × List Int × List (List Int) × List Int)
 | 0, _, _, _, _, _, _, _, _, _, _, _, _, _, _, _, _, _, _, _, _, _, _ => none
 | k + 1, letters0, most4, k15, x42, x43, c1_0, c1_1, c1_2, c1_3, c3, c4, x10_0, x10_1, d12_0, d12_1, number13, l14, row16, c10, c11, c12, c13 =>
  if x43 < x42 then
   (det_Smallest_1.f k k15 x43 c1_0 c1_1 c1_2 c1_3 c3 c4).bind fun r3 =>
    if Go.Proofs.YtfkilmmldjajmaaSx.mhas (Go.Proofs.YtfkilmmldjajmaaSx.Ty.int Go.IntKind.i64) (Go.Proofs.YtfkilmmldjajmaaSx.Ty.int Go.IntKind.i64) number13 r3.fst = true then
     det_Explore_int__2.j18 k letters0 most4 k15 x43 (Go.Proofs.YtfkilmmldjajmaaSx.mget (Go.Proofs.YtfkilmmldjajmaaSx.Ty.int Go.IntKind.i64) (Go.Proofs.YtfkilmmldjajmaaSx.Ty.int Go.IntKind.i64) number13 r3.fst) x42 x43 r3.snd.fst r3.snd.snd.fst r3.snd.snd.snd.fst r3.snd.snd.snd.snd.fst r3.snd.snd.snd.snd.snd.fst r3.snd.snd.snd.snd.snd.snd x10_0 x10_1 d12_0 d12_1 number13 l14 row16 c10 c11 c12 c13
    else
     if (↑l14.length : Int) = most4 then
      some (0, 0, false, r3.snd.fst, r3.snd.snd.fst, r3.snd.snd.snd.fst, r3.snd.snd.snd.snd.fst, r3.snd.snd.snd.snd.snd.fst, r3.snd.snd.snd.snd.snd.snd, [], [])
     else
      if (l14 ++ [r3.fst]).length.blt 1000000000 = true then
      det_Explore_int__2.j18 k letters0 most4 k15 x43 ((↑l14.length : Int)) x42 x43 r3.snd.fst r3.snd.snd.fst r3.snd.snd.snd.fst r3.snd.snd.snd.snd.fst r3.snd.snd.snd.snd.snd.fst r3.snd.snd.snd.snd.snd.snd x10_0 x10_1 d12_0 d12_1 (Go.Proofs.YtfkilmmldjajmaaSx.mput (Go.Proofs.YtfkilmmldjajmaaSx.Ty.int Go.IntKind.i64) (Go.Proofs.YtfkilmmldjajmaaSx.Ty.int Go.IntKind.i64) number13 r3.fst (↑l14.length : Int)) (l14 ++ [r3.fst]) row16 c10 c11 c12 c13
      else none
  else
   if (c12 ++ [row16]).length.blt 1000000000 = true then
   (det_Smallest_2.f k k15 c1_0 c1_1 c1_2 c1_3 c4).bind fun r4 =>
     if (c13 ++ [r4.fst]).length.blt 1000000000 = true then
     det_Explore_int__2.l4 k letters0 most4 r4.snd.fst r4.snd.snd.fst r4.snd.snd.snd.fst r4.snd.snd.snd.snd.fst c3 r4.snd.snd.snd.snd.snd x10_0 x10_1 d12_0 d12_1 number13 l14 c10 c11 (c12 ++ [row16]) (c13 ++ [r4.fst])
     else none
   else none
def det_Explore_int__2.j18 : Nat → Int → Int → Int → Int → Int → Int → Int → Int → Int → List (List (Int)) → List (Int) → List (Int) → List (Int) → Int → Int → Int → Int → List ((Int × Int)) → List (Int) → List (Int) → List (List (Int)) → List (Int) → List (List (Int)) → List (Int) → Option (Int × Int × Bool × Int × Int × List (List Int) × List Int × List Int × List Int × List (List Int) × List Int)
 | 0, _, _, _, _, _, _, _, _, _, _, _, _, _, _, _, _, _, _, _, _, _, _, _, _ => none
 | k + 1, letters0, most4, k15, a17, n19, x42, x43, c1_0, c1_1, c1_2, c1_3, c3, c4, x10_0, x10_1, d12_0, d12_1, number13, l14, row16, c10, c11, c12, c13 =>
  if 0 ≤ a17 then
  if a17 < (↑row16.length : Int) then
   det_Explore_int__2.l8 k letters0 most4 k15 x42 (Go.IntKind.i64.wrap (x43 + 1)) c1_0 c1_1 c1_2 c1_3 c3 c4 x10_0 x10_1 d12_0 d12_1 number13 l14 (row16.set a17.toNat n19) c10 c11 c12 c13
   else none
  else none
end
def det_Explore_int__2.f (k : Nat) (letters0 : Int) (first1 : Int) (most4 : Int) (c1_0 : Int) (c1_1 : Int) (c1_2 : List (List (Int))) (c1_3 : List (Int)) (c3 : List (Int)) (c4 : List (Int)) : Option (Int × Int × Bool × Int × Int × List (List Int) × List Int × List Int × List Int × List (List Int) × List Int) :=
 det_Explore_int__2.l4 k letters0 most4 c1_0 c1_1 c1_2 c1_3 c3 c4 0 0 letters0 0 (Go.Proofs.YtfkilmmldjajmaaSx.mput (Go.Proofs.YtfkilmmldjajmaaSx.Ty.int Go.IntKind.i64) (Go.Proofs.YtfkilmmldjajmaaSx.Ty.int Go.IntKind.i64) [] first1 (Int.ofNat 0)) [first1] [] [] [] []

noncomputable def det_Explore_int__2.body : Code := fnBody Try.f124
def det_Explore_int__2.ti : Tm := ⟨[(0, .p (.int .i64)), (1, .p (.int .i64)), (2, .fn 162 [.ptr 0 0, .ptr 1 0, .ptr 2 0]), (3, .fn 163 [.ptr 1 0, .ptr 2 0]), (4, .p (.int .i64))], [.box [.own 3] 23, .box [.p (.int .i64), .p (.int .i64), .p (.slice (.slice (.int .i64))), .p (.slice (.int .i64))] 60, .box [.own 4] 23, .own (.int .i64), .own (.int .i64)]⟩
def det_Explore_int__2.to : Tm := ⟨[(0, .agg [.p (.int .i64), .p (.int .i64), .own 5, .own 6]), (1, .p .bool)], [.box [.own 3] 23, .box [.p (.int .i64), .p (.int .i64), .p (.slice (.slice (.int .i64))), .p (.slice (.int .i64))] 60, .box [.own 4] 23, .own (.int .i64), .own (.int .i64), .own (.slice (.int .i64)), .own (.int .i64)]⟩
def det_Explore_int__2.rs (r : Int × Int × Bool × Int × Int × (List (List Int)) × (List Int) × (List Int) × (List Int) × (List (List Int)) × (List Int)) : List Dat := [⟨(.int .i64), r.1⟩, ⟨(.int .i64), r.2.1⟩, ⟨.bool, r.2.2.1⟩, ⟨(.int .i64), r.2.2.2.1⟩, ⟨(.int .i64), r.2.2.2.2.1⟩, ⟨(.slice (.slice (.int .i64))), r.2.2.2.2.2.1⟩, ⟨(.slice (.int .i64)), r.2.2.2.2.2.2.1⟩, ⟨(.slice (.int .i64)), r.2.2.2.2.2.2.2.1⟩, ⟨(.slice (.int .i64)), r.2.2.2.2.2.2.2.2.1⟩, ⟨(.slice (.slice (.int .i64))), r.2.2.2.2.2.2.2.2.2.1⟩, ⟨(.slice (.int .i64)), r.2.2.2.2.2.2.2.2.2.2⟩]
def det_Explore_int__2.out (ds : List Dat) : Option (Int × Int × Bool × Int × Int × (List (List Int)) × (List Int) × (List Int) × (List Int) × (List (List Int)) × (List Int)) := pop (.int .i64) ds fun x0 ds => pop (.int .i64) ds fun x1 ds => pop .bool ds fun x2 ds => pop (.int .i64) ds fun x3 ds => pop (.int .i64) ds fun x4 ds => pop (.slice (.slice (.int .i64))) ds fun x5 ds => pop (.slice (.int .i64)) ds fun x6 ds => pop (.slice (.int .i64)) ds fun x7 ds => pop (.slice (.int .i64)) ds fun x8 ds => pop (.slice (.slice (.int .i64))) ds fun x9 ds => pop (.slice (.int .i64)) ds fun x10 ds => popN ds (some (x0, x1, x2, x3, x4, x5, x6, x7, x8, x9, x10))
def det_Explore_int__2.c (k : Nat) (ds : List Dat) : Option (Int × Int × Bool × Int × Int × (List (List Int)) × (List Int) × (List Int) × (List Int) × (List (List Int)) × (List Int)) := pop (.int .i64) ds fun x0 ds => pop (.int .i64) ds fun x1 ds => pop (.int .i64) ds fun x2 ds => pop (.int .i64) ds fun x3 ds => pop (.int .i64) ds fun x4 ds => pop (.slice (.slice (.int .i64))) ds fun x5 ds => pop (.slice (.int .i64)) ds fun x6 ds => pop (.slice (.int .i64)) ds fun x7 ds => pop (.slice (.int .i64)) ds fun x8 ds => popN ds (det_Explore_int__2.f k x0 x1 x2 x3 x4 x5 x6 x7 x8)
def det_Explore_int__2.g : Nat → List Dat → Option (Int × Int × Bool × Int × Int × (List (List Int)) × (List Int) × (List Int) × (List Int) × (List (List Int)) × (List Int))
 | 0, _ => none
 | k + 1, ds => det_Explore_int__2.c k ds
def det_Explore_int__2.env (k : Nat) : Nat → List SV → List Chunk → KT (Int × Int × Bool × Int × Int × (List (List Int)) × (List Int) × (List Int) × (List Int) × (List (List Int)) × (List Int)) → Option (Int × Int × Bool × Int × Int × (List (List Int)) × (List Int) × (List Int) × (List Int) × (List (List Int)) × (List Int)) := (envC 162 5 det_Smallest_1.ti det_Smallest_1.to (fun ds K => pop (.int .i64) ds fun x0 ds => pop (.int .i64) ds fun x1 ds => pop (.int .i64) ds fun x2 ds => pop (.int .i64) ds fun x3 ds => pop (.slice (.slice (.int .i64))) ds fun x4 ds => pop (.slice (.int .i64)) ds fun x5 ds => pop (.slice (.int .i64)) ds fun x6 ds => pop (.slice (.int .i64)) ds fun x7 ds => popN ds ((det_Smallest_1.f k x0 x1 x2 x3 x4 x5 x6 x7).bind fun r => K (det_Smallest_1.rs r))) (envC 163 3 det_Smallest_2.ti det_Smallest_2.to (fun ds K => pop (.int .i64) ds fun x0 ds => pop (.int .i64) ds fun x1 ds => pop (.int .i64) ds fun x2 ds => pop (.slice (.slice (.int .i64))) ds fun x3 ds => pop (.slice (.int .i64)) ds fun x4 ds => pop (.slice (.int .i64)) ds fun x5 ds => popN ds ((det_Smallest_2.f k x0 x1 x2 x3 x4 x5).bind fun r => K (det_Smallest_2.rs r))) env0))
def det_Explore_int__2.t9 : Tm := ⟨[(0, .p (.int .i64)), (2, .fn 162 [.ptr 0 0, .ptr 1 0, .ptr 2 0]), (3, .fn 163 [.ptr 1 0, .ptr 2 0]), (4, .p (.int .i64)), (10, .ptr 5 0), (12, .ptr 6 0), (13, .map 7), (14, .own 8)], [.box [.own 3] 23, .box [.p (.int .i64), .p (.int .i64), .p (.slice (.slice (.int .i64))), .p (.slice (.int .i64))] 60, .box [.own 4] 23, .own (.int .i64), .own (.int .i64), .box [.p (.int .i64), .p (.int .i64), .own 9, .own 10] 60, .box [.p (.int .i64), .p (.int .i64), .own 11, .own 12] 60, .map (.int .i64) (.int .i64), .own (.int .i64), .own (.slice (.int .i64)), .own (.int .i64), .own (.slice (.int .i64)), .own (.int .i64)]⟩
def det_Explore_int__2.c9 (k : Nat) (ds : List Dat) : Option (Int × Int × Bool × Int × Int × (List (List Int)) × (List Int) × (List Int) × (List Int) × (List (List Int)) × (List Int)) := pop (.int .i64) ds fun x0 ds => pop (.int .i64) ds fun x1 ds => pop (.int .i64) ds fun x2 ds => pop (.int .i64) ds fun x3 ds => pop (.slice (.slice (.int .i64))) ds fun x4 ds => pop (.slice (.int .i64)) ds fun x5 ds => pop (.slice (.int .i64)) ds fun x6 ds => pop (.slice (.int .i64)) ds fun x7 ds => pop (.int .i64) ds fun x8 ds => pop (.int .i64) ds fun x9 ds => pop (.int .i64) ds fun x10 ds => pop (.int .i64) ds fun x11 ds => pop (.slice (.pair (.int .i64) (.int .i64))) ds fun x12 ds => pop (.slice (.int .i64)) ds fun x13 ds => pop (.slice (.slice (.int .i64))) ds fun x14 ds => pop (.slice (.int .i64)) ds fun x15 ds => pop (.slice (.slice (.int .i64))) ds fun x16 ds => pop (.slice (.int .i64)) ds fun x17 ds => popN ds (det_Explore_int__2.l4 k x0 x1 x2 x3 x4 x5 x6 x7 x8 x9 x10 x11 x12 x13 x14 x15 x16 x17)
def det_Explore_int__2.t17 : Tm := ⟨[(0, .p (.int .i64)), (2, .fn 162 [.ptr 0 0, .ptr 1 0, .ptr 2 0]), (3, .fn 163 [.ptr 1 0, .ptr 2 0]), (4, .p (.int .i64)), (10, .ptr 5 0), (12, .ptr 6 0), (13, .map 7), (14, .own 8), (15, .p (.int .i64)), (16, .own 9), (42, .p (.int .i64)), (43, .p (.int .i64))], [.box [.own 3] 23, .box [.p (.int .i64), .p (.int .i64), .p (.slice (.slice (.int .i64))), .p (.slice (.int .i64))] 60, .box [.own 4] 23, .own (.int .i64), .own (.int .i64), .box [.p (.int .i64), .p (.int .i64), .own 10, .own 11] 60, .box [.p (.int .i64), .p (.int .i64), .own 12, .own 13] 60, .map (.int .i64) (.int .i64), .own (.int .i64), .own (.int .i64), .own (.slice (.int .i64)), .own (.int .i64), .own (.slice (.int .i64)), .own (.int .i64)]⟩
def det_Explore_int__2.c17 (k : Nat) (ds : List Dat) : Option (Int × Int × Bool × Int × Int × (List (List Int)) × (List Int) × (List Int) × (List Int) × (List (List Int)) × (List Int)) := pop (.int .i64) ds fun x0 ds => pop (.int .i64) ds fun x1 ds => pop (.int .i64) ds fun x2 ds => pop (.int .i64) ds fun x3 ds => pop (.int .i64) ds fun x4 ds => pop (.int .i64) ds fun x5 ds => pop (.int .i64) ds fun x6 ds => pop (.slice (.slice (.int .i64))) ds fun x7 ds => pop (.slice (.int .i64)) ds fun x8 ds => pop (.slice (.int .i64)) ds fun x9 ds => pop (.slice (.int .i64)) ds fun x10 ds => pop (.int .i64) ds fun x11 ds => pop (.int .i64) ds fun x12 ds => pop (.int .i64) ds fun x13 ds => pop (.int .i64) ds fun x14 ds => pop (.slice (.pair (.int .i64) (.int .i64))) ds fun x15 ds => pop (.slice (.int .i64)) ds fun x16 ds => pop (.slice (.int .i64)) ds fun x17 ds => pop (.slice (.slice (.int .i64))) ds fun x18 ds => pop (.slice (.int .i64)) ds fun x19 ds => pop (.slice (.slice (.int .i64))) ds fun x20 ds => pop (.slice (.int .i64)) ds fun x21 ds => popN ds (det_Explore_int__2.l8 k x0 x1 x2 x3 x4 x5 x6 x7 x8 x9 x10 x11 x12 x13 x14 x15 x16 x17 x18 x19 x20 x21)
def det_Explore_int__2.t36 : Tm := ⟨[(0, .p (.int .i64)), (2, .fn 162 [.ptr 0 0, .ptr 1 0, .ptr 2 0]), (3, .fn 163 [.ptr 1 0, .ptr 2 0]), (4, .p (.int .i64)), (10, .ptr 5 0), (12, .ptr 6 0), (13, .map 7), (14, .own 8), (15, .p (.int .i64)), (16, .own 9), (17, .p (.int .i64)), (19, .p (.int .i64)), (42, .p (.int .i64)), (43, .p (.int .i64))], [.box [.own 3] 23, .box [.p (.int .i64), .p (.int .i64), .p (.slice (.slice (.int .i64))), .p (.slice (.int .i64))] 60, .box [.own 4] 23, .own (.int .i64), .own (.int .i64), .box [.p (.int .i64), .p (.int .i64), .own 10, .own 11] 60, .box [.p (.int .i64), .p (.int .i64), .own 12, .own 13] 60, .map (.int .i64) (.int .i64), .own (.int .i64), .own (.int .i64), .own (.slice (.int .i64)), .own (.int .i64), .own (.slice (.int .i64)), .own (.int .i64)]⟩
def det_Explore_int__2.c36 (k : Nat) (ds : List Dat) : Option (Int × Int × Bool × Int × Int × (List (List Int)) × (List Int) × (List Int) × (List Int) × (List (List Int)) × (List Int)) := pop (.int .i64) ds fun x0 ds => pop (.int .i64) ds fun x1 ds => pop (.int .i64) ds fun x2 ds => pop (.int .i64) ds fun x3 ds => pop (.int .i64) ds fun x4 ds => pop (.int .i64) ds fun x5 ds => pop (.int .i64) ds fun x6 ds => pop (.int .i64) ds fun x7 ds => pop (.int .i64) ds fun x8 ds => pop (.slice (.slice (.int .i64))) ds fun x9 ds => pop (.slice (.int .i64)) ds fun x10 ds => pop (.slice (.int .i64)) ds fun x11 ds => pop (.slice (.int .i64)) ds fun x12 ds => pop (.int .i64) ds fun x13 ds => pop (.int .i64) ds fun x14 ds => pop (.int .i64) ds fun x15 ds => pop (.int .i64) ds fun x16 ds => pop (.slice (.pair (.int .i64) (.int .i64))) ds fun x17 ds => pop (.slice (.int .i64)) ds fun x18 ds => pop (.slice (.int .i64)) ds fun x19 ds => pop (.slice (.slice (.int .i64))) ds fun x20 ds => pop (.slice (.int .i64)) ds fun x21 ds => pop (.slice (.slice (.int .i64))) ds fun x22 ds => pop (.slice (.int .i64)) ds fun x23 ds => popN ds (det_Explore_int__2.j18 k x0 x1 x2 x3 x4 x5 x6 x7 x8 x9 x10 x11 x12 x13 x14 x15 x16 x17 x18 x19 x20 x21 x22 x23)
def det_Explore_int__2.tbl : List (Nat × Tm × (Nat → List Dat → Option (Int × Int × Bool × Int × Int × (List (List Int)) × (List Int) × (List Int) × (List Int) × (List (List Int)) × (List Int)))) := [(9, det_Explore_int__2.t9, det_Explore_int__2.c9), (17, det_Explore_int__2.t17, det_Explore_int__2.c17), (36, det_Explore_int__2.t36, det_Explore_int__2.c36)]
noncomputable abbrev det_Explore_int__2.R (k : Nat) := run T (det_Explore_int__2.env k) Try.f124.ntmps (cutE 5 det_Explore_int__2.tbl k) (finE 5 det_Explore_int__2.to det_Explore_int__2.out) (fnRes Try.f124) [18] 100000 true
theorem det_Explore_int__2.e9 (k : Nat) (x0 : Int) (x1 : Int) (x2 : Int) (x3 : Int) (x4 : (List (List Int))) (x5 : (List Int)) (x6 : (List Int)) (x7 : (List Int)) (x8 : Int) (x9 : Int) (x10 : Int) (x11 : Int) (x12 : (List (Int × Int))) (x13 : (List Int)) (x14 : (List (List Int))) (x15 : (List Int)) (x16 : (List (List Int))) (x17 : (List Int)) : det_Explore_int__2.l4 (k + 1) x0 x1 x2 x3 x4 x5 x6 x7 x8 x9 x10 x11 x12 x13 x14 x15 x16 x17 = det_Explore_int__2.R k (start (stackOf 9 det_Explore_int__2.body)) (det_Explore_int__2.t9.fill [⟨(.int .i64), x0⟩, ⟨(.int .i64), x1⟩, ⟨(.int .i64), x2⟩, ⟨(.int .i64), x3⟩, ⟨(.slice (.slice (.int .i64))), x4⟩, ⟨(.slice (.int .i64)), x5⟩, ⟨(.slice (.int .i64)), x6⟩, ⟨(.slice (.int .i64)), x7⟩, ⟨(.int .i64), x8⟩, ⟨(.int .i64), x9⟩, ⟨(.int .i64), x10⟩, ⟨(.int .i64), x11⟩, ⟨(.slice (.pair (.int .i64) (.int .i64))), x12⟩, ⟨(.slice (.int .i64)), x13⟩, ⟨(.slice (.slice (.int .i64))), x14⟩, ⟨(.slice (.int .i64)), x15⟩, ⟨(.slice (.slice (.int .i64))), x16⟩, ⟨(.slice (.int .i64)), x17⟩]) := by kernel_rfl
theorem det_Explore_int__2.s9 : stackAt 9 det_Explore_int__2.body [] = some (stackOf 9 det_Explore_int__2.body) := by kernel_rfl
theorem det_Explore_int__2.h9 (k : Nat) (ds : List Dat) (r : Int × Int × Bool × Int × Int × (List (List Int)) × (List Int) × (List Int) × (List Int) × (List (List Int)) × (List Int)) (h : det_Explore_int__2.c9 k ds = some r) : ∃ k', k' < k ∧ ∃ s, stackAt 9 det_Explore_int__2.body [] = some s ∧ det_Explore_int__2.R k' (start s) (det_Explore_int__2.t9.fill ds) = some r := by
  unfold det_Explore_int__2.c9 at h
  obtain ⟨x0, d0, rfl, h0⟩ := pop_some h
  obtain ⟨x1, d1, rfl, h1⟩ := pop_some h0
  obtain ⟨x2, d2, rfl, h2⟩ := pop_some h1
  obtain ⟨x3, d3, rfl, h3⟩ := pop_some h2
  obtain ⟨x4, d4, rfl, h4⟩ := pop_some h3
  obtain ⟨x5, d5, rfl, h5⟩ := pop_some h4
  obtain ⟨x6, d6, rfl, h6⟩ := pop_some h5
  obtain ⟨x7, d7, rfl, h7⟩ := pop_some h6
  obtain ⟨x8, d8, rfl, h8⟩ := pop_some h7
  obtain ⟨x9, d9, rfl, h9⟩ := pop_some h8
  obtain ⟨x10, d10, rfl, h10⟩ := pop_some h9
  obtain ⟨x11, d11, rfl, h11⟩ := pop_some h10
  obtain ⟨x12, d12, rfl, h12⟩ := pop_some h11
  obtain ⟨x13, d13, rfl, h13⟩ := pop_some h12
  obtain ⟨x14, d14, rfl, h14⟩ := pop_some h13
  obtain ⟨x15, d15, rfl, h15⟩ := pop_some h14
  obtain ⟨x16, d16, rfl, h16⟩ := pop_some h15
  obtain ⟨x17, d17, rfl, h17⟩ := pop_some h16
  obtain ⟨rfl, g⟩ := popN_some h17
  cases k with
  | zero => cases (show none = some r from g)
  | succ k => exact ⟨k, Nat.lt_succ_self k, _, det_Explore_int__2.s9, (det_Explore_int__2.e9 k x0 x1 x2 x3 x4 x5 x6 x7 x8 x9 x10 x11 x12 x13 x14 x15 x16 x17).symm.trans g⟩
theorem det_Explore_int__2.e17 (k : Nat) (x0 : Int) (x1 : Int) (x2 : Int) (x3 : Int) (x4 : Int) (x5 : Int) (x6 : Int) (x7 : (List (List Int))) (x8 : (List Int)) (x9 : (List Int)) (x10 : (List Int)) (x11 : Int) (x12 : Int) (x13 : Int) (x14 : Int) (x15 : (List (Int × Int))) (x16 : (List Int)) (x17 : (List Int)) (x18 : (List (List Int))) (x19 : (List Int)) (x20 : (List (List Int))) (x21 : (List Int)) : det_Explore_int__2.l8 (k + 1) x0 x1 x2 x3 x4 x5 x6 x7 x8 x9 x10 x11 x12 x13 x14 x15 x16 x17 x18 x19 x20 x21 = det_Explore_int__2.R k (start (stackOf 17 det_Explore_int__2.body)) (det_Explore_int__2.t17.fill [⟨(.int .i64), x0⟩, ⟨(.int .i64), x1⟩, ⟨(.int .i64), x2⟩, ⟨(.int .i64), x3⟩, ⟨(.int .i64), x4⟩, ⟨(.int .i64), x5⟩, ⟨(.int .i64), x6⟩, ⟨(.slice (.slice (.int .i64))), x7⟩, ⟨(.slice (.int .i64)), x8⟩, ⟨(.slice (.int .i64)), x9⟩, ⟨(.slice (.int .i64)), x10⟩, ⟨(.int .i64), x11⟩, ⟨(.int .i64), x12⟩, ⟨(.int .i64), x13⟩, ⟨(.int .i64), x14⟩, ⟨(.slice (.pair (.int .i64) (.int .i64))), x15⟩, ⟨(.slice (.int .i64)), x16⟩, ⟨(.slice (.int .i64)), x17⟩, ⟨(.slice (.slice (.int .i64))), x18⟩, ⟨(.slice (.int .i64)), x19⟩, ⟨(.slice (.slice (.int .i64))), x20⟩, ⟨(.slice (.int .i64)), x21⟩]) := by kernel_rfl
theorem det_Explore_int__2.s17 : stackAt 17 det_Explore_int__2.body [] = some (stackOf 17 det_Explore_int__2.body) := by kernel_rfl
theorem det_Explore_int__2.h17 (k : Nat) (ds : List Dat) (r : Int × Int × Bool × Int × Int × (List (List Int)) × (List Int) × (List Int) × (List Int) × (List (List Int)) × (List Int)) (h : det_Explore_int__2.c17 k ds = some r) : ∃ k', k' < k ∧ ∃ s, stackAt 17 det_Explore_int__2.body [] = some s ∧ det_Explore_int__2.R k' (start s) (det_Explore_int__2.t17.fill ds) = some r := by
  unfold det_Explore_int__2.c17 at h
  obtain ⟨x0, d0, rfl, h0⟩ := pop_some h
  obtain ⟨x1, d1, rfl, h1⟩ := pop_some h0
  obtain ⟨x2, d2, rfl, h2⟩ := pop_some h1
  obtain ⟨x3, d3, rfl, h3⟩ := pop_some h2
  obtain ⟨x4, d4, rfl, h4⟩ := pop_some h3
  obtain ⟨x5, d5, rfl, h5⟩ := pop_some h4
  obtain ⟨x6, d6, rfl, h6⟩ := pop_some h5
  obtain ⟨x7, d7, rfl, h7⟩ := pop_some h6
  obtain ⟨x8, d8, rfl, h8⟩ := pop_some h7
  obtain ⟨x9, d9, rfl, h9⟩ := pop_some h8
  obtain ⟨x10, d10, rfl, h10⟩ := pop_some h9
  obtain ⟨x11, d11, rfl, h11⟩ := pop_some h10
  obtain ⟨x12, d12, rfl, h12⟩ := pop_some h11
  obtain ⟨x13, d13, rfl, h13⟩ := pop_some h12
  obtain ⟨x14, d14, rfl, h14⟩ := pop_some h13
  obtain ⟨x15, d15, rfl, h15⟩ := pop_some h14
  obtain ⟨x16, d16, rfl, h16⟩ := pop_some h15
  obtain ⟨x17, d17, rfl, h17⟩ := pop_some h16
  obtain ⟨x18, d18, rfl, h18⟩ := pop_some h17
  obtain ⟨x19, d19, rfl, h19⟩ := pop_some h18
  obtain ⟨x20, d20, rfl, h20⟩ := pop_some h19
  obtain ⟨x21, d21, rfl, h21⟩ := pop_some h20
  obtain ⟨rfl, g⟩ := popN_some h21
  cases k with
  | zero => cases (show none = some r from g)
  | succ k => exact ⟨k, Nat.lt_succ_self k, _, det_Explore_int__2.s17, (det_Explore_int__2.e17 k x0 x1 x2 x3 x4 x5 x6 x7 x8 x9 x10 x11 x12 x13 x14 x15 x16 x17 x18 x19 x20 x21).symm.trans g⟩
theorem det_Explore_int__2.e36 (k : Nat) (x0 : Int) (x1 : Int) (x2 : Int) (x3 : Int) (x4 : Int) (x5 : Int) (x6 : Int) (x7 : Int) (x8 : Int) (x9 : (List (List Int))) (x10 : (List Int)) (x11 : (List Int)) (x12 : (List Int)) (x13 : Int) (x14 : Int) (x15 : Int) (x16 : Int) (x17 : (List (Int × Int))) (x18 : (List Int)) (x19 : (List Int)) (x20 : (List (List Int))) (x21 : (List Int)) (x22 : (List (List Int))) (x23 : (List Int)) : det_Explore_int__2.j18 (k + 1) x0 x1 x2 x3 x4 x5 x6 x7 x8 x9 x10 x11 x12 x13 x14 x15 x16 x17 x18 x19 x20 x21 x22 x23 = det_Explore_int__2.R k (start (stackOf 36 det_Explore_int__2.body)) (det_Explore_int__2.t36.fill [⟨(.int .i64), x0⟩, ⟨(.int .i64), x1⟩, ⟨(.int .i64), x2⟩, ⟨(.int .i64), x3⟩, ⟨(.int .i64), x4⟩, ⟨(.int .i64), x5⟩, ⟨(.int .i64), x6⟩, ⟨(.int .i64), x7⟩, ⟨(.int .i64), x8⟩, ⟨(.slice (.slice (.int .i64))), x9⟩, ⟨(.slice (.int .i64)), x10⟩, ⟨(.slice (.int .i64)), x11⟩, ⟨(.slice (.int .i64)), x12⟩, ⟨(.int .i64), x13⟩, ⟨(.int .i64), x14⟩, ⟨(.int .i64), x15⟩, ⟨(.int .i64), x16⟩, ⟨(.slice (.pair (.int .i64) (.int .i64))), x17⟩, ⟨(.slice (.int .i64)), x18⟩, ⟨(.slice (.int .i64)), x19⟩, ⟨(.slice (.slice (.int .i64))), x20⟩, ⟨(.slice (.int .i64)), x21⟩, ⟨(.slice (.slice (.int .i64))), x22⟩, ⟨(.slice (.int .i64)), x23⟩]) := by kernel_rfl
theorem det_Explore_int__2.s36 : stackAt 36 det_Explore_int__2.body [] = some (stackOf 36 det_Explore_int__2.body) := by kernel_rfl
theorem det_Explore_int__2.h36 (k : Nat) (ds : List Dat) (r : Int × Int × Bool × Int × Int × (List (List Int)) × (List Int) × (List Int) × (List Int) × (List (List Int)) × (List Int)) (h : det_Explore_int__2.c36 k ds = some r) : ∃ k', k' < k ∧ ∃ s, stackAt 36 det_Explore_int__2.body [] = some s ∧ det_Explore_int__2.R k' (start s) (det_Explore_int__2.t36.fill ds) = some r := by
  unfold det_Explore_int__2.c36 at h
  obtain ⟨x0, d0, rfl, h0⟩ := pop_some h
  obtain ⟨x1, d1, rfl, h1⟩ := pop_some h0
  obtain ⟨x2, d2, rfl, h2⟩ := pop_some h1
  obtain ⟨x3, d3, rfl, h3⟩ := pop_some h2
  obtain ⟨x4, d4, rfl, h4⟩ := pop_some h3
  obtain ⟨x5, d5, rfl, h5⟩ := pop_some h4
  obtain ⟨x6, d6, rfl, h6⟩ := pop_some h5
  obtain ⟨x7, d7, rfl, h7⟩ := pop_some h6
  obtain ⟨x8, d8, rfl, h8⟩ := pop_some h7
  obtain ⟨x9, d9, rfl, h9⟩ := pop_some h8
  obtain ⟨x10, d10, rfl, h10⟩ := pop_some h9
  obtain ⟨x11, d11, rfl, h11⟩ := pop_some h10
  obtain ⟨x12, d12, rfl, h12⟩ := pop_some h11
  obtain ⟨x13, d13, rfl, h13⟩ := pop_some h12
  obtain ⟨x14, d14, rfl, h14⟩ := pop_some h13
  obtain ⟨x15, d15, rfl, h15⟩ := pop_some h14
  obtain ⟨x16, d16, rfl, h16⟩ := pop_some h15
  obtain ⟨x17, d17, rfl, h17⟩ := pop_some h16
  obtain ⟨x18, d18, rfl, h18⟩ := pop_some h17
  obtain ⟨x19, d19, rfl, h19⟩ := pop_some h18
  obtain ⟨x20, d20, rfl, h20⟩ := pop_some h19
  obtain ⟨x21, d21, rfl, h21⟩ := pop_some h20
  obtain ⟨x22, d22, rfl, h22⟩ := pop_some h21
  obtain ⟨x23, d23, rfl, h23⟩ := pop_some h22
  obtain ⟨rfl, g⟩ := popN_some h23
  cases k with
  | zero => cases (show none = some r from g)
  | succ k => exact ⟨k, Nat.lt_succ_self k, _, det_Explore_int__2.s36, (det_Explore_int__2.e36 k x0 x1 x2 x3 x4 x5 x6 x7 x8 x9 x10 x11 x12 x13 x14 x15 x16 x17 x18 x19 x20 x21 x22 x23).symm.trans g⟩
theorem det_Explore_int__2.e (k : Nat) (x0 : Int) (x1 : Int) (x2 : Int) (x3 : Int) (x4 : Int) (x5 : (List (List Int))) (x6 : (List Int)) (x7 : (List Int)) (x8 : (List Int)) : det_Explore_int__2.f k x0 x1 x2 x3 x4 x5 x6 x7 x8 = det_Explore_int__2.R k ([.code det_Explore_int__2.body]) (det_Explore_int__2.ti.fill [⟨(.int .i64), x0⟩, ⟨(.int .i64), x1⟩, ⟨(.int .i64), x2⟩, ⟨(.int .i64), x3⟩, ⟨(.int .i64), x4⟩, ⟨(.slice (.slice (.int .i64))), x5⟩, ⟨(.slice (.int .i64)), x6⟩, ⟨(.slice (.int .i64)), x7⟩, ⟨(.slice (.int .i64)), x8⟩]) := by kernel_rfl
theorem det_Explore_int__2.h (k : Nat) (ds : List Dat) (r : Int × Int × Bool × Int × Int × (List (List Int)) × (List Int) × (List Int) × (List Int) × (List (List Int)) × (List Int)) (h : det_Explore_int__2.g k ds = some r) : ∃ k', k' < k ∧ det_Explore_int__2.R k' ([.code det_Explore_int__2.body]) (det_Explore_int__2.ti.fill ds) = some r := by
  cases k with
  | zero => cases (show none = some r from h)
  | succ k =>
  replace h : det_Explore_int__2.c k ds = some r := h
  unfold det_Explore_int__2.c at h
  obtain ⟨x0, d0, rfl, h0⟩ := pop_some h
  obtain ⟨x1, d1, rfl, h1⟩ := pop_some h0
  obtain ⟨x2, d2, rfl, h2⟩ := pop_some h1
  obtain ⟨x3, d3, rfl, h3⟩ := pop_some h2
  obtain ⟨x4, d4, rfl, h4⟩ := pop_some h3
  obtain ⟨x5, d5, rfl, h5⟩ := pop_some h4
  obtain ⟨x6, d6, rfl, h6⟩ := pop_some h5
  obtain ⟨x7, d7, rfl, h7⟩ := pop_some h6
  obtain ⟨x8, d8, rfl, h8⟩ := pop_some h7
  obtain ⟨rfl, g⟩ := popN_some h8
  exact ⟨k, Nat.lt_succ_self k, (det_Explore_int__2.e k x0 x1 x2 x3 x4 x5 x6 x7 x8).symm.trans g⟩
theorem det_Explore_int__2.o (ds : List Dat) (r : Int × Int × Bool × Int × Int × (List (List Int)) × (List Int) × (List Int) × (List Int) × (List (List Int)) × (List Int)) (h : det_Explore_int__2.out ds = some r) : ds = det_Explore_int__2.rs r := by
  unfold det_Explore_int__2.out at h
  obtain ⟨x0, d0, rfl, h0⟩ := pop_some h
  obtain ⟨x1, d1, rfl, h1⟩ := pop_some h0
  obtain ⟨x2, d2, rfl, h2⟩ := pop_some h1
  obtain ⟨x3, d3, rfl, h3⟩ := pop_some h2
  obtain ⟨x4, d4, rfl, h4⟩ := pop_some h3
  obtain ⟨x5, d5, rfl, h5⟩ := pop_some h4
  obtain ⟨x6, d6, rfl, h6⟩ := pop_some h5
  obtain ⟨x7, d7, rfl, h7⟩ := pop_some h6
  obtain ⟨x8, d8, rfl, h8⟩ := pop_some h7
  obtain ⟨x9, d9, rfl, h9⟩ := pop_some h8
  obtain ⟨x10, d10, rfl, h10⟩ := pop_some h9
  obtain ⟨rfl, g⟩ := popN_some h10
  cases g
  rfl
theorem det_Explore_int__2.fn : FnOk Try.prog 124 Try.f124 det_Explore_int__2.body Try.f124.ntmps 5 (fnRes Try.f124) :=
  fnOk_of (by kernel_rfl) (by kernel_rfl) (by kernel_rfl) (by kernel_rfl)
theorem det_Explore_int__2.con' : ∀ k ds r, det_Explore_int__2.g k ds = some r → Con Try.prog 124 5 det_Explore_int__2.ti det_Explore_int__2.to ds (det_Explore_int__2.rs r) :=
  fun_ok (T := T) T_ok mixed det_Explore_int__2.fn (env := det_Explore_int__2.env) (tbl := det_Explore_int__2.tbl) (gOut := det_Explore_int__2.out) (nin := 5) (cuts := [18]) (fuel := 100000) rfl (by kernel_rfl) (by kernel_rfl) (by kernel_rfl) (fun x hx => by
    simp only [det_Explore_int__2.tbl, List.mem_cons, List.not_mem_nil, or_false] at hx
    rcases hx with rfl | rfl | rfl
    · exact det_Explore_int__2.h9
    · exact det_Explore_int__2.h17
    · exact det_Explore_int__2.h36
) det_Explore_int__2.o det_Explore_int__2.h (fun k _ => by unfold det_Explore_int__2.env; exact (envC_ok (fun ds K r h => by
    obtain ⟨x0, d0, rfl, h0⟩ := pop_some h
    obtain ⟨x1, d1, rfl, h1⟩ := pop_some h0
    obtain ⟨x2, d2, rfl, h2⟩ := pop_some h1
    obtain ⟨x3, d3, rfl, h3⟩ := pop_some h2
    obtain ⟨x4, d4, rfl, h4⟩ := pop_some h3
    obtain ⟨x5, d5, rfl, h5⟩ := pop_some h4
    obtain ⟨x6, d6, rfl, h6⟩ := pop_some h5
    obtain ⟨x7, d7, rfl, h7⟩ := pop_some h6
    obtain ⟨rfl, g⟩ := popN_some h7
    obtain ⟨r1, h1, h2⟩ := bind_some g
    exact ⟨_, h2, det_Smallest_1.con k _ h1⟩) (envC_ok (fun ds K r h => by
    obtain ⟨x0, d0, rfl, h0⟩ := pop_some h
    obtain ⟨x1, d1, rfl, h1⟩ := pop_some h0
    obtain ⟨x2, d2, rfl, h2⟩ := pop_some h1
    obtain ⟨x3, d3, rfl, h3⟩ := pop_some h2
    obtain ⟨x4, d4, rfl, h4⟩ := pop_some h3
    obtain ⟨x5, d5, rfl, h5⟩ := pop_some h4
    obtain ⟨rfl, g⟩ := popN_some h5
    obtain ⟨r1, h1, h2⟩ := bind_some g
    exact ⟨_, h2, det_Smallest_2.con k _ h1⟩) env0_ok)))
theorem det_Explore_int__2.con (k : Nat) {x0 : Int} {x1 : Int} {x2 : Int} {x3 : Int} {x4 : Int} {x5 : (List (List Int))} {x6 : (List Int)} {x7 : (List Int)} {x8 : (List Int)} (r : Int × Int × Bool × Int × Int × (List (List Int)) × (List Int) × (List Int) × (List Int) × (List (List Int)) × (List Int)) (h : det_Explore_int__2.f k x0 x1 x2 x3 x4 x5 x6 x7 x8 = some r) : Con Try.prog 124 5 det_Explore_int__2.ti det_Explore_int__2.to [⟨(.int .i64), x0⟩, ⟨(.int .i64), x1⟩, ⟨(.int .i64), x2⟩, ⟨(.int .i64), x3⟩, ⟨(.int .i64), x4⟩, ⟨(.slice (.slice (.int .i64))), x5⟩, ⟨(.slice (.int .i64)), x6⟩, ⟨(.slice (.int .i64)), x7⟩, ⟨(.slice (.int .i64)), x8⟩] (det_Explore_int__2.rs r) :=
  det_Explore_int__2.con' (k + 1) _ r (by show det_Explore_int__2.c k _ = some r; unfold det_Explore_int__2.c; simp only [pop_self, popN]; exact h)
mutual
def evermoreref1_Words.l4 : Nat → List (Int) → List (Int) → Int → Option (Bool)
 | 0, _, _, _ => none
 | k + 1, a0, b1, i5 =>
  if i5 < (↑a0.length : Int) then
   if 0 ≤ i5 then
   if i5 < (↑a0.length : Int) then
    if 0 ≤ i5 then
     if i5 < (↑b1.length : Int) then
      if Go.Proofs.YtfkilmmldjajmaaSx.rd (Int.ofNat 0) a0 i5 = Go.Proofs.YtfkilmmldjajmaaSx.rd (Int.ofNat 0) b1 i5 then
        evermoreref1_Words.l4 k a0 b1 (Go.IntKind.i64.wrap (i5 + 1))
       else
        some (false)
      else none
     else none
    else none
   else none
  else
   some (true)
end
def evermoreref1_Words.f (k : Nat) (a0 : List (Int)) (b1 : List (Int)) : Option (Bool) :=
 if (↑a0.length : Int) = (↑b1.length : Int) then
  evermoreref1_Words.l4 k a0 b1 0
 else
  some (false)

noncomputable def evermoreref1_Words.body : Code := fnBody Try.f36
def evermoreref1_Words.ti : Tm := ⟨[(0, .p (.slice (.int .i64))), (1, .p (.slice (.int .i64)))], []⟩
def evermoreref1_Words.to : Tm := ⟨[(0, .p .bool)], []⟩
def evermoreref1_Words.rs (r : Bool) : List Dat := [⟨.bool, r⟩]
def evermoreref1_Words.out (ds : List Dat) : Option (Bool) := pop .bool ds fun x0 ds => popN ds (some (x0))
def evermoreref1_Words.c (k : Nat) (ds : List Dat) : Option (Bool) := pop (.slice (.int .i64)) ds fun x0 ds => pop (.slice (.int .i64)) ds fun x1 ds => popN ds (evermoreref1_Words.f k x0 x1)
def evermoreref1_Words.g : Nat → List Dat → Option (Bool)
 | 0, _ => none
 | k + 1, ds => evermoreref1_Words.c k ds
def evermoreref1_Words.env (k : Nat) : Nat → List SV → List Chunk → KT (Bool) → Option (Bool) := env0
def evermoreref1_Words.t9 : Tm := ⟨[(0, .p (.slice (.int .i64))), (1, .p (.slice (.int .i64))), (5, .p (.int .i64))], []⟩
def evermoreref1_Words.c9 (k : Nat) (ds : List Dat) : Option (Bool) := pop (.slice (.int .i64)) ds fun x0 ds => pop (.slice (.int .i64)) ds fun x1 ds => pop (.int .i64) ds fun x2 ds => popN ds (evermoreref1_Words.l4 k x0 x1 x2)
def evermoreref1_Words.tbl : List (Nat × Tm × (Nat → List Dat → Option (Bool))) := [(9, evermoreref1_Words.t9, evermoreref1_Words.c9)]
noncomputable abbrev evermoreref1_Words.R (k : Nat) := run T (evermoreref1_Words.env k) Try.f36.ntmps (cutE 0 evermoreref1_Words.tbl k) (finE 0 evermoreref1_Words.to evermoreref1_Words.out) (fnRes Try.f36) [] 100000 true
theorem evermoreref1_Words.e9 (k : Nat) (x0 : (List Int)) (x1 : (List Int)) (x2 : Int) : evermoreref1_Words.l4 (k + 1) x0 x1 x2 = evermoreref1_Words.R k (start (stackOf 9 evermoreref1_Words.body)) (evermoreref1_Words.t9.fill [⟨(.slice (.int .i64)), x0⟩, ⟨(.slice (.int .i64)), x1⟩, ⟨(.int .i64), x2⟩]) := by kernel_rfl
theorem evermoreref1_Words.s9 : stackAt 9 evermoreref1_Words.body [] = some (stackOf 9 evermoreref1_Words.body) := by kernel_rfl
theorem evermoreref1_Words.h9 (k : Nat) (ds : List Dat) (r : Bool) (h : evermoreref1_Words.c9 k ds = some r) : ∃ k', k' < k ∧ ∃ s, stackAt 9 evermoreref1_Words.body [] = some s ∧ evermoreref1_Words.R k' (start s) (evermoreref1_Words.t9.fill ds) = some r := by
  unfold evermoreref1_Words.c9 at h
  obtain ⟨x0, d0, rfl, h0⟩ := pop_some h
  obtain ⟨x1, d1, rfl, h1⟩ := pop_some h0
  obtain ⟨x2, d2, rfl, h2⟩ := pop_some h1
  obtain ⟨rfl, g⟩ := popN_some h2
  cases k with
  | zero => cases (show none = some r from g)
  | succ k => exact ⟨k, Nat.lt_succ_self k, _, evermoreref1_Words.s9, (evermoreref1_Words.e9 k x0 x1 x2).symm.trans g⟩
theorem evermoreref1_Words.e (k : Nat) (x0 : (List Int)) (x1 : (List Int)) : evermoreref1_Words.f k x0 x1 = evermoreref1_Words.R k ([.code evermoreref1_Words.body]) (evermoreref1_Words.ti.fill [⟨(.slice (.int .i64)), x0⟩, ⟨(.slice (.int .i64)), x1⟩]) := by kernel_rfl
theorem evermoreref1_Words.h (k : Nat) (ds : List Dat) (r : Bool) (h : evermoreref1_Words.g k ds = some r) : ∃ k', k' < k ∧ evermoreref1_Words.R k' ([.code evermoreref1_Words.body]) (evermoreref1_Words.ti.fill ds) = some r := by
  cases k with
  | zero => cases (show none = some r from h)
  | succ k =>
  replace h : evermoreref1_Words.c k ds = some r := h
  unfold evermoreref1_Words.c at h
  obtain ⟨x0, d0, rfl, h0⟩ := pop_some h
  obtain ⟨x1, d1, rfl, h1⟩ := pop_some h0
  obtain ⟨rfl, g⟩ := popN_some h1
  exact ⟨k, Nat.lt_succ_self k, (evermoreref1_Words.e k x0 x1).symm.trans g⟩
theorem evermoreref1_Words.o (ds : List Dat) (r : Bool) (h : evermoreref1_Words.out ds = some r) : ds = evermoreref1_Words.rs r := by
  unfold evermoreref1_Words.out at h
  obtain ⟨x0, d0, rfl, h0⟩ := pop_some h
  obtain ⟨rfl, g⟩ := popN_some h0
  cases g
  rfl
theorem evermoreref1_Words.fn : FnOk Try.prog 36 Try.f36 evermoreref1_Words.body Try.f36.ntmps 2 (fnRes Try.f36) :=
  fnOk_of (by kernel_rfl) (by kernel_rfl) (by kernel_rfl) (by kernel_rfl)
theorem evermoreref1_Words.con' : ∀ k ds r, evermoreref1_Words.g k ds = some r → Con Try.prog 36 2 evermoreref1_Words.ti evermoreref1_Words.to ds (evermoreref1_Words.rs r) :=
  fun_ok (T := T) T_ok mixed evermoreref1_Words.fn (env := evermoreref1_Words.env) (tbl := evermoreref1_Words.tbl) (gOut := evermoreref1_Words.out) (nin := 0) (cuts := []) (fuel := 100000) rfl (by kernel_rfl) (by kernel_rfl) (by kernel_rfl) (fun x hx => by
    simp only [evermoreref1_Words.tbl, List.mem_cons, List.not_mem_nil, or_false] at hx
    subst hx
    · exact evermoreref1_Words.h9
) evermoreref1_Words.o evermoreref1_Words.h (fun k _ => by unfold evermoreref1_Words.env; exact env0_ok)
theorem evermoreref1_Words.con (k : Nat) {x0 : (List Int)} {x1 : (List Int)} (r : Bool) (h : evermoreref1_Words.f k x0 x1 = some r) : Con Try.prog 36 2 evermoreref1_Words.ti evermoreref1_Words.to [⟨(.slice (.int .i64)), x0⟩, ⟨(.slice (.int .i64)), x1⟩] (evermoreref1_Words.rs r) :=
  evermoreref1_Words.con' (k + 1) _ r (by show evermoreref1_Words.c k _ = some r; unfold evermoreref1_Words.c; simp only [pop_self, popN]; exact h)
def evermoreref7_Ahead.f (k : Nat) (x0 : (Int × (Int × (Int × Unit)))) (y1 : (Int × (Int × (Int × Unit)))) : Option (Bool) :=
 if x0.fst = y1.fst then
  if x0.snd.fst = y1.snd.fst then
   some (decide (x0.snd.snd.fst < y1.snd.snd.fst))
  else
   some (decide (x0.snd.fst < y1.snd.fst))
 else
  some (decide (x0.fst < y1.fst))

noncomputable def evermoreref7_Ahead.body : Code := fnBody Try.f115
def evermoreref7_Ahead.ti : Tm := ⟨[(0, .p (.pair (.int .i64) (.pair (.int .i64) (.pair (.int .i64) .unit)))), (1, .p (.pair (.int .i64) (.pair (.int .i64) (.pair (.int .i64) .unit))))], []⟩
def evermoreref7_Ahead.to : Tm := ⟨[(0, .p .bool)], []⟩
def evermoreref7_Ahead.rs (r : Bool) : List Dat := [⟨.bool, r⟩]
def evermoreref7_Ahead.out (ds : List Dat) : Option (Bool) := pop .bool ds fun x0 ds => popN ds (some (x0))
def evermoreref7_Ahead.c (k : Nat) (ds : List Dat) : Option (Bool) := pop (.pair (.int .i64) (.pair (.int .i64) (.pair (.int .i64) .unit))) ds fun x0 ds => pop (.pair (.int .i64) (.pair (.int .i64) (.pair (.int .i64) .unit))) ds fun x1 ds => popN ds (evermoreref7_Ahead.f k x0 x1)
def evermoreref7_Ahead.g : Nat → List Dat → Option (Bool)
 | 0, _ => none
 | k + 1, ds => evermoreref7_Ahead.c k ds
def evermoreref7_Ahead.env (k : Nat) : Nat → List SV → List Chunk → KT (Bool) → Option (Bool) := env0
def evermoreref7_Ahead.tbl : List (Nat × Tm × (Nat → List Dat → Option (Bool))) := []
noncomputable abbrev evermoreref7_Ahead.R (k : Nat) := run T (evermoreref7_Ahead.env k) Try.f115.ntmps (cutE 0 evermoreref7_Ahead.tbl k) (finE 0 evermoreref7_Ahead.to evermoreref7_Ahead.out) (fnRes Try.f115) [] 100000 true
theorem evermoreref7_Ahead.e (k : Nat) (x0 : (Int × (Int × (Int × Unit)))) (x1 : (Int × (Int × (Int × Unit)))) : evermoreref7_Ahead.f k x0 x1 = evermoreref7_Ahead.R k ([.code evermoreref7_Ahead.body]) (evermoreref7_Ahead.ti.fill [⟨(.pair (.int .i64) (.pair (.int .i64) (.pair (.int .i64) .unit))), x0⟩, ⟨(.pair (.int .i64) (.pair (.int .i64) (.pair (.int .i64) .unit))), x1⟩]) := by kernel_rfl
theorem evermoreref7_Ahead.h (k : Nat) (ds : List Dat) (r : Bool) (h : evermoreref7_Ahead.g k ds = some r) : ∃ k', k' < k ∧ evermoreref7_Ahead.R k' ([.code evermoreref7_Ahead.body]) (evermoreref7_Ahead.ti.fill ds) = some r := by
  cases k with
  | zero => cases (show none = some r from h)
  | succ k =>
  replace h : evermoreref7_Ahead.c k ds = some r := h
  unfold evermoreref7_Ahead.c at h
  obtain ⟨x0, d0, rfl, h0⟩ := pop_some h
  obtain ⟨x1, d1, rfl, h1⟩ := pop_some h0
  obtain ⟨rfl, g⟩ := popN_some h1
  exact ⟨k, Nat.lt_succ_self k, (evermoreref7_Ahead.e k x0 x1).symm.trans g⟩
theorem evermoreref7_Ahead.o (ds : List Dat) (r : Bool) (h : evermoreref7_Ahead.out ds = some r) : ds = evermoreref7_Ahead.rs r := by
  unfold evermoreref7_Ahead.out at h
  obtain ⟨x0, d0, rfl, h0⟩ := pop_some h
  obtain ⟨rfl, g⟩ := popN_some h0
  cases g
  rfl
theorem evermoreref7_Ahead.fn : FnOk Try.prog 115 Try.f115 evermoreref7_Ahead.body Try.f115.ntmps 2 (fnRes Try.f115) :=
  fnOk_of (by kernel_rfl) (by kernel_rfl) (by kernel_rfl) (by kernel_rfl)
theorem evermoreref7_Ahead.con' : ∀ k ds r, evermoreref7_Ahead.g k ds = some r → Con Try.prog 115 2 evermoreref7_Ahead.ti evermoreref7_Ahead.to ds (evermoreref7_Ahead.rs r) :=
  fun_ok (T := T) T_ok mixed evermoreref7_Ahead.fn (env := evermoreref7_Ahead.env) (tbl := evermoreref7_Ahead.tbl) (gOut := evermoreref7_Ahead.out) (nin := 0) (cuts := []) (fuel := 100000) rfl (by kernel_rfl) (by kernel_rfl) (by kernel_rfl) (fun x hx => by simp [evermoreref7_Ahead.tbl] at hx) evermoreref7_Ahead.o evermoreref7_Ahead.h (fun k _ => by unfold evermoreref7_Ahead.env; exact env0_ok)
theorem evermoreref7_Ahead.con (k : Nat) {x0 : (Int × (Int × (Int × Unit)))} {x1 : (Int × (Int × (Int × Unit)))} (r : Bool) (h : evermoreref7_Ahead.f k x0 x1 = some r) : Con Try.prog 115 2 evermoreref7_Ahead.ti evermoreref7_Ahead.to [⟨(.pair (.int .i64) (.pair (.int .i64) (.pair (.int .i64) .unit))), x0⟩, ⟨(.pair (.int .i64) (.pair (.int .i64) (.pair (.int .i64) .unit))), x1⟩] (evermoreref7_Ahead.rs r) :=
  evermoreref7_Ahead.con' (k + 1) _ r (by show evermoreref7_Ahead.c k _ = some r; unfold evermoreref7_Ahead.c; simp only [pop_self, popN]; exact h)
mutual
def evermoreref7_Check.l6 : Nat → Int → Int → Int → List (Int) → List ((Int × (Int × (Int × Unit)))) → List (Int) → Option (Int)
 | 0, _, _, _, _, _, _ => none
 | k + 1, i3, a1_0, a1_1, a1_2, a1_3, a1_4 =>
  if i3 < (↑a1_2.length : Int) then
   if 0 ≤ i3 then
   if i3 < (↑a1_2.length : Int) then
    if Go.Proofs.YtfkilmmldjajmaaSx.rd (Int.ofNat 0) a1_2 i3 < 0 then
      some (2)
     else
      if 0 ≤ i3 then
      if i3 < (↑a1_2.length : Int) then
       if a1_1 ≤ Go.Proofs.YtfkilmmldjajmaaSx.rd (Int.ofNat 0) a1_2 i3 then
         some (2)
        else
         evermoreref7_Check.l6 k (Go.IntKind.i64.wrap (i3 + 1)) a1_0 a1_1 a1_2 a1_3 a1_4
       else none
      else none
    else none
   else none
  else
   evermoreref7_Check.l11 k 0 a1_0 a1_1 a1_2 a1_3 a1_4
def evermoreref7_Check.l11 : Nat → Int → Int → Int → List (Int) → List ((Int × (Int × (Int × Unit)))) → List (Int) → Option (Int)
 | 0, _, _, _, _, _, _ => none
 | k + 1, i4, a1_0, a1_1, a1_2, a1_3, a1_4 =>
  if i4 < (↑a1_4.length : Int) then
   if 0 ≤ i4 then
   if i4 < (↑a1_4.length : Int) then
    if Go.Proofs.YtfkilmmldjajmaaSx.rd (Int.ofNat 0) a1_4 i4 < 0 then
      some (2)
     else
      if 0 ≤ i4 then
      if i4 < (↑a1_4.length : Int) then
       if a1_1 ≤ Go.Proofs.YtfkilmmldjajmaaSx.rd (Int.ofNat 0) a1_4 i4 then
         some (2)
        else
         evermoreref7_Check.l11 k (Go.IntKind.i64.wrap (i4 + 1)) a1_0 a1_1 a1_2 a1_3 a1_4
       else none
      else none
    else none
   else none
  else
   evermoreref7_Check.l16 k 0 a1_0 a1_1 a1_2 a1_3 a1_4
def evermoreref7_Check.l16 : Nat → Int → Int → Int → List (Int) → List ((Int × (Int × (Int × Unit)))) → List (Int) → Option (Int)
 | 0, _, _, _, _, _, _ => none
 | k + 1, i5, a1_0, a1_1, a1_2, a1_3, a1_4 =>
  if i5 < (↑a1_3.length : Int) then
   if 0 ≤ i5 then
   if i5 < (↑a1_3.length : Int) then
    if (Go.Proofs.YtfkilmmldjajmaaSx.rd (Int.ofNat 0, Int.ofNat 0, Int.ofNat 0, ()) a1_3 i5).fst < 0 then
      some (2)
     else
      if a1_1 ≤ (Go.Proofs.YtfkilmmldjajmaaSx.rd (Int.ofNat 0, Int.ofNat 0, Int.ofNat 0, ()) a1_3 i5).fst then
       some (2)
      else
       if (Go.Proofs.YtfkilmmldjajmaaSx.rd (Int.ofNat 0, Int.ofNat 0, Int.ofNat 0, ()) a1_3 i5).snd.snd.fst < 0 then
        some (2)
       else
        if a1_1 ≤ (Go.Proofs.YtfkilmmldjajmaaSx.rd (Int.ofNat 0, Int.ofNat 0, Int.ofNat 0, ()) a1_3 i5).snd.snd.fst then
         some (2)
        else
         if (Go.Proofs.YtfkilmmldjajmaaSx.rd (Int.ofNat 0, Int.ofNat 0, Int.ofNat 0, ()) a1_3 i5).snd.fst < 0 then
          some (2)
         else
          if a1_0 ≤ (Go.Proofs.YtfkilmmldjajmaaSx.rd (Int.ofNat 0, Int.ofNat 0, Int.ofNat 0, ()) a1_3 i5).snd.fst then
           some (2)
          else
           evermoreref7_Check.l16 k (Go.IntKind.i64.wrap (i5 + 1)) a1_0 a1_1 a1_2 a1_3 a1_4
    else none
   else none
  else
   evermoreref7_Check.l22 k 1 a1_0 a1_1 a1_2 a1_3 a1_4
def evermoreref7_Check.l22 : Nat → Int → Int → Int → List (Int) → List ((Int × (Int × (Int × Unit)))) → List (Int) → Option (Int)
 | 0, _, _, _, _, _, _ => none
 | k + 1, i7, a1_0, a1_1, a1_2, a1_3, a1_4 =>
  if i7 < (↑a1_2.length : Int) then
   if 0 ≤ Go.IntKind.i64.wrap (i7 - 1) then
   if Go.IntKind.i64.wrap (i7 - 1) < (↑a1_2.length : Int) then
    if 0 ≤ i7 then
     if i7 < (↑a1_2.length : Int) then
      if Go.Proofs.YtfkilmmldjajmaaSx.rd (Int.ofNat 0) a1_2 i7 ≤ Go.Proofs.YtfkilmmldjajmaaSx.rd (Int.ofNat 0) a1_2 (Go.IntKind.i64.wrap (i7 - 1)) then
        some (3)
       else
        evermoreref7_Check.l22 k (Go.IntKind.i64.wrap (i7 + 1)) a1_0 a1_1 a1_2 a1_3 a1_4
      else none
     else none
    else none
   else none
  else
   evermoreref7_Check.l27 k 1 a1_0 a1_1 a1_2 a1_3 a1_4
def evermoreref7_Check.l27 : Nat → Int → Int → Int → List (Int) → List ((Int × (Int × (Int × Unit)))) → List (Int) → Option (Int)
 | 0, _, _, _, _, _, _ => none
 | k + 1, i8, a1_0, a1_1, a1_2, a1_3, a1_4 =>
  if i8 < (↑a1_4.length : Int) then
   if 0 ≤ Go.IntKind.i64.wrap (i8 - 1) then
   if Go.IntKind.i64.wrap (i8 - 1) < (↑a1_4.length : Int) then
    if 0 ≤ i8 then
     if i8 < (↑a1_4.length : Int) then
      if Go.Proofs.YtfkilmmldjajmaaSx.rd (Int.ofNat 0) a1_4 i8 ≤ Go.Proofs.YtfkilmmldjajmaaSx.rd (Int.ofNat 0) a1_4 (Go.IntKind.i64.wrap (i8 - 1)) then
        some (3)
       else
        evermoreref7_Check.l27 k (Go.IntKind.i64.wrap (i8 + 1)) a1_0 a1_1 a1_2 a1_3 a1_4
      else none
     else none
    else none
   else none
  else
   evermoreref7_Check.l32 k 1 a1_0 a1_1 a1_2 a1_3 a1_4
def evermoreref7_Check.l32 : Nat → Int → Int → Int → List (Int) → List ((Int × (Int × (Int × Unit)))) → List (Int) → Option (Int)
 | 0, _, _, _, _, _, _ => none
 | k + 1, i9, a1_0, a1_1, a1_2, a1_3, a1_4 =>
  if i9 < (↑a1_3.length : Int) then
   if 0 ≤ Go.IntKind.i64.wrap (i9 - 1) then
   if Go.IntKind.i64.wrap (i9 - 1) < (↑a1_3.length : Int) then
    if 0 ≤ i9 then
     if i9 < (↑a1_3.length : Int) then
      (evermoreref7_Ahead.f k (Go.Proofs.YtfkilmmldjajmaaSx.rd (Int.ofNat 0, Int.ofNat 0, Int.ofNat 0, ()) a1_3 (Go.IntKind.i64.wrap (i9 - 1))) (Go.Proofs.YtfkilmmldjajmaaSx.rd (Int.ofNat 0, Int.ofNat 0, Int.ofNat 0, ()) a1_3 i9)).bind fun r7 =>
        if r7 = true then
         evermoreref7_Check.l32 k (Go.IntKind.i64.wrap (i9 + 1)) a1_0 a1_1 a1_2 a1_3 a1_4
        else
         some (3)
      else none
     else none
    else none
   else none
  else
   some (0)
end
def evermoreref7_Check.f (k : Nat) (a0 : (Int × (Int × (List (Int) × (List ((Int × (Int × (Int × Unit)))) × (List (Int) × Unit)))))) : Option (Int) :=
 if a0.fst < 1 then
  some (2)
 else
  if 4 < a0.fst then
   some (2)
  else
   if a0.snd.fst < 1 then
    some (1)
   else
    if 300 < a0.snd.fst then
     some (1)
    else
     if 40000 < (↑a0.snd.snd.snd.fst.length : Int) then
      some (1)
     else
      evermoreref7_Check.l6 k 0 a0.fst a0.snd.fst a0.snd.snd.fst a0.snd.snd.snd.fst a0.snd.snd.snd.snd.fst

noncomputable def evermoreref7_Check.body : Code := fnBody Try.f54
def evermoreref7_Check.ti : Tm := ⟨[(0, .p (.pair (.int .i64) (.pair (.int .i64) (.pair (.slice (.int .i64)) (.pair (.slice (.pair (.int .i64) (.pair (.int .i64) (.pair (.int .i64) .unit)))) (.pair (.slice (.int .i64)) .unit))))))], []⟩
def evermoreref7_Check.to : Tm := ⟨[(0, .p (.int .i64))], []⟩
def evermoreref7_Check.rs (r : Int) : List Dat := [⟨(.int .i64), r⟩]
def evermoreref7_Check.out (ds : List Dat) : Option (Int) := pop (.int .i64) ds fun x0 ds => popN ds (some (x0))
def evermoreref7_Check.c (k : Nat) (ds : List Dat) : Option (Int) := pop (.pair (.int .i64) (.pair (.int .i64) (.pair (.slice (.int .i64)) (.pair (.slice (.pair (.int .i64) (.pair (.int .i64) (.pair (.int .i64) .unit)))) (.pair (.slice (.int .i64)) .unit))))) ds fun x0 ds => popN ds (evermoreref7_Check.f k x0)
def evermoreref7_Check.g : Nat → List Dat → Option (Int)
 | 0, _ => none
 | k + 1, ds => evermoreref7_Check.c k ds
def evermoreref7_Check.env (k : Nat) : Nat → List SV → List Chunk → KT (Int) → Option (Int) := (envC 115 2 evermoreref7_Ahead.ti evermoreref7_Ahead.to (fun ds K => pop (.pair (.int .i64) (.pair (.int .i64) (.pair (.int .i64) .unit))) ds fun x0 ds => pop (.pair (.int .i64) (.pair (.int .i64) (.pair (.int .i64) .unit))) ds fun x1 ds => popN ds ((evermoreref7_Ahead.f k x0 x1).bind fun r => K (evermoreref7_Ahead.rs r))) env0)
def evermoreref7_Check.t13 : Tm := ⟨[(1, .ptr 0 0), (3, .p (.int .i64))], [.box [.p (.int .i64), .p (.int .i64), .p (.slice (.int .i64)), .p (.slice (.pair (.int .i64) (.pair (.int .i64) (.pair (.int .i64) .unit)))), .p (.slice (.int .i64))] 78]⟩
def evermoreref7_Check.c13 (k : Nat) (ds : List Dat) : Option (Int) := pop (.int .i64) ds fun x0 ds => pop (.int .i64) ds fun x1 ds => pop (.int .i64) ds fun x2 ds => pop (.slice (.int .i64)) ds fun x3 ds => pop (.slice (.pair (.int .i64) (.pair (.int .i64) (.pair (.int .i64) .unit)))) ds fun x4 ds => pop (.slice (.int .i64)) ds fun x5 ds => popN ds (evermoreref7_Check.l6 k x0 x1 x2 x3 x4 x5)
def evermoreref7_Check.t23 : Tm := ⟨[(1, .ptr 0 0), (4, .p (.int .i64))], [.box [.p (.int .i64), .p (.int .i64), .p (.slice (.int .i64)), .p (.slice (.pair (.int .i64) (.pair (.int .i64) (.pair (.int .i64) .unit)))), .p (.slice (.int .i64))] 78]⟩
def evermoreref7_Check.c23 (k : Nat) (ds : List Dat) : Option (Int) := pop (.int .i64) ds fun x0 ds => pop (.int .i64) ds fun x1 ds => pop (.int .i64) ds fun x2 ds => pop (.slice (.int .i64)) ds fun x3 ds => pop (.slice (.pair (.int .i64) (.pair (.int .i64) (.pair (.int .i64) .unit)))) ds fun x4 ds => pop (.slice (.int .i64)) ds fun x5 ds => popN ds (evermoreref7_Check.l11 k x0 x1 x2 x3 x4 x5)
def evermoreref7_Check.t33 : Tm := ⟨[(1, .ptr 0 0), (5, .p (.int .i64))], [.box [.p (.int .i64), .p (.int .i64), .p (.slice (.int .i64)), .p (.slice (.pair (.int .i64) (.pair (.int .i64) (.pair (.int .i64) .unit)))), .p (.slice (.int .i64))] 78]⟩
def evermoreref7_Check.c33 (k : Nat) (ds : List Dat) : Option (Int) := pop (.int .i64) ds fun x0 ds => pop (.int .i64) ds fun x1 ds => pop (.int .i64) ds fun x2 ds => pop (.slice (.int .i64)) ds fun x3 ds => pop (.slice (.pair (.int .i64) (.pair (.int .i64) (.pair (.int .i64) .unit)))) ds fun x4 ds => pop (.slice (.int .i64)) ds fun x5 ds => popN ds (evermoreref7_Check.l16 k x0 x1 x2 x3 x4 x5)
def evermoreref7_Check.t45 : Tm := ⟨[(1, .ptr 0 0), (7, .p (.int .i64))], [.box [.p (.int .i64), .p (.int .i64), .p (.slice (.int .i64)), .p (.slice (.pair (.int .i64) (.pair (.int .i64) (.pair (.int .i64) .unit)))), .p (.slice (.int .i64))] 78]⟩
def evermoreref7_Check.c45 (k : Nat) (ds : List Dat) : Option (Int) := pop (.int .i64) ds fun x0 ds => pop (.int .i64) ds fun x1 ds => pop (.int .i64) ds fun x2 ds => pop (.slice (.int .i64)) ds fun x3 ds => pop (.slice (.pair (.int .i64) (.pair (.int .i64) (.pair (.int .i64) .unit)))) ds fun x4 ds => pop (.slice (.int .i64)) ds fun x5 ds => popN ds (evermoreref7_Check.l22 k x0 x1 x2 x3 x4 x5)
def evermoreref7_Check.t55 : Tm := ⟨[(1, .ptr 0 0), (8, .p (.int .i64))], [.box [.p (.int .i64), .p (.int .i64), .p (.slice (.int .i64)), .p (.slice (.pair (.int .i64) (.pair (.int .i64) (.pair (.int .i64) .unit)))), .p (.slice (.int .i64))] 78]⟩
def evermoreref7_Check.c55 (k : Nat) (ds : List Dat) : Option (Int) := pop (.int .i64) ds fun x0 ds => pop (.int .i64) ds fun x1 ds => pop (.int .i64) ds fun x2 ds => pop (.slice (.int .i64)) ds fun x3 ds => pop (.slice (.pair (.int .i64) (.pair (.int .i64) (.pair (.int .i64) .unit)))) ds fun x4 ds => pop (.slice (.int .i64)) ds fun x5 ds => popN ds (evermoreref7_Check.l27 k x0 x1 x2 x3 x4 x5)
def evermoreref7_Check.t65 : Tm := ⟨[(1, .ptr 0 0), (9, .p (.int .i64))], [.box [.p (.int .i64), .p (.int .i64), .p (.slice (.int .i64)), .p (.slice (.pair (.int .i64) (.pair (.int .i64) (.pair (.int .i64) .unit)))), .p (.slice (.int .i64))] 78]⟩
def evermoreref7_Check.c65 (k : Nat) (ds : List Dat) : Option (Int) := pop (.int .i64) ds fun x0 ds => pop (.int .i64) ds fun x1 ds => pop (.int .i64) ds fun x2 ds => pop (.slice (.int .i64)) ds fun x3 ds => pop (.slice (.pair (.int .i64) (.pair (.int .i64) (.pair (.int .i64) .unit)))) ds fun x4 ds => pop (.slice (.int .i64)) ds fun x5 ds => popN ds (evermoreref7_Check.l32 k x0 x1 x2 x3 x4 x5)
def evermoreref7_Check.tbl : List (Nat × Tm × (Nat → List Dat → Option (Int))) := [(13, evermoreref7_Check.t13, evermoreref7_Check.c13), (23, evermoreref7_Check.t23, evermoreref7_Check.c23), (33, evermoreref7_Check.t33, evermoreref7_Check.c33), (45, evermoreref7_Check.t45, evermoreref7_Check.c45), (55, evermoreref7_Check.t55, evermoreref7_Check.c55), (65, evermoreref7_Check.t65, evermoreref7_Check.c65)]
noncomputable abbrev evermoreref7_Check.R (k : Nat) := run T (evermoreref7_Check.env k) Try.f54.ntmps (cutE 0 evermoreref7_Check.tbl k) (finE 0 evermoreref7_Check.to evermoreref7_Check.out) (fnRes Try.f54) [] 100000 true
theorem evermoreref7_Check.e13 (k : Nat) (x0 : Int) (x1 : Int) (x2 : Int) (x3 : (List Int)) (x4 : (List (Int × (Int × (Int × Unit))))) (x5 : (List Int)) : evermoreref7_Check.l6 (k + 1) x0 x1 x2 x3 x4 x5 = evermoreref7_Check.R k (start (stackOf 13 evermoreref7_Check.body)) (evermoreref7_Check.t13.fill [⟨(.int .i64), x0⟩, ⟨(.int .i64), x1⟩, ⟨(.int .i64), x2⟩, ⟨(.slice (.int .i64)), x3⟩, ⟨(.slice (.pair (.int .i64) (.pair (.int .i64) (.pair (.int .i64) .unit)))), x4⟩, ⟨(.slice (.int .i64)), x5⟩]) := by kernel_rfl
theorem evermoreref7_Check.s13 : stackAt 13 evermoreref7_Check.body [] = some (stackOf 13 evermoreref7_Check.body) := by kernel_rfl
theorem evermoreref7_Check.h13 (k : Nat) (ds : List Dat) (r : Int) (h : evermoreref7_Check.c13 k ds = some r) : ∃ k', k' < k ∧ ∃ s, stackAt 13 evermoreref7_Check.body [] = some s ∧ evermoreref7_Check.R k' (start s) (evermoreref7_Check.t13.fill ds) = some r := by
  unfold evermoreref7_Check.c13 at h
  obtain ⟨x0, d0, rfl, h0⟩ := pop_some h
  obtain ⟨x1, d1, rfl, h1⟩ := pop_some h0
  obtain ⟨x2, d2, rfl, h2⟩ := pop_some h1
  obtain ⟨x3, d3, rfl, h3⟩ := pop_some h2
  obtain ⟨x4, d4, rfl, h4⟩ := pop_some h3
  obtain ⟨x5, d5, rfl, h5⟩ := pop_some h4
  obtain ⟨rfl, g⟩ := popN_some h5
  cases k with
  | zero => cases (show none = some r from g)
  | succ k => exact ⟨k, Nat.lt_succ_self k, _, evermoreref7_Check.s13, (evermoreref7_Check.e13 k x0 x1 x2 x3 x4 x5).symm.trans g⟩
theorem evermoreref7_Check.e23 (k : Nat) (x0 : Int) (x1 : Int) (x2 : Int) (x3 : (List Int)) (x4 : (List (Int × (Int × (Int × Unit))))) (x5 : (List Int)) : evermoreref7_Check.l11 (k + 1) x0 x1 x2 x3 x4 x5 = evermoreref7_Check.R k (start (stackOf 23 evermoreref7_Check.body)) (evermoreref7_Check.t23.fill [⟨(.int .i64), x0⟩, ⟨(.int .i64), x1⟩, ⟨(.int .i64), x2⟩, ⟨(.slice (.int .i64)), x3⟩, ⟨(.slice (.pair (.int .i64) (.pair (.int .i64) (.pair (.int .i64) .unit)))), x4⟩, ⟨(.slice (.int .i64)), x5⟩]) := by kernel_rfl
theorem evermoreref7_Check.s23 : stackAt 23 evermoreref7_Check.body [] = some (stackOf 23 evermoreref7_Check.body) := by kernel_rfl
theorem evermoreref7_Check.h23 (k : Nat) (ds : List Dat) (r : Int) (h : evermoreref7_Check.c23 k ds = some r) : ∃ k', k' < k ∧ ∃ s, stackAt 23 evermoreref7_Check.body [] = some s ∧ evermoreref7_Check.R k' (start s) (evermoreref7_Check.t23.fill ds) = some r := by
  unfold evermoreref7_Check.c23 at h
  obtain ⟨x0, d0, rfl, h0⟩ := pop_some h
  obtain ⟨x1, d1, rfl, h1⟩ := pop_some h0
  obtain ⟨x2, d2, rfl, h2⟩ := pop_some h1
  obtain ⟨x3, d3, rfl, h3⟩ := pop_some h2
  obtain ⟨x4, d4, rfl, h4⟩ := pop_some h3
  obtain ⟨x5, d5, rfl, h5⟩ := pop_some h4
  obtain ⟨rfl, g⟩ := popN_some h5
  cases k with
  | zero => cases (show none = some r from g)
  | succ k => exact ⟨k, Nat.lt_succ_self k, _, evermoreref7_Check.s23, (evermoreref7_Check.e23 k x0 x1 x2 x3 x4 x5).symm.trans g⟩
theorem evermoreref7_Check.e33 (k : Nat) (x0 : Int) (x1 : Int) (x2 : Int) (x3 : (List Int)) (x4 : (List (Int × (Int × (Int × Unit))))) (x5 : (List Int)) : evermoreref7_Check.l16 (k + 1) x0 x1 x2 x3 x4 x5 = evermoreref7_Check.R k (start (stackOf 33 evermoreref7_Check.body)) (evermoreref7_Check.t33.fill [⟨(.int .i64), x0⟩, ⟨(.int .i64), x1⟩, ⟨(.int .i64), x2⟩, ⟨(.slice (.int .i64)), x3⟩, ⟨(.slice (.pair (.int .i64) (.pair (.int .i64) (.pair (.int .i64) .unit)))), x4⟩, ⟨(.slice (.int .i64)), x5⟩]) := by kernel_rfl
theorem evermoreref7_Check.s33 : stackAt 33 evermoreref7_Check.body [] = some (stackOf 33 evermoreref7_Check.body) := by kernel_rfl
theorem evermoreref7_Check.h33 (k : Nat) (ds : List Dat) (r : Int) (h : evermoreref7_Check.c33 k ds = some r) : ∃ k', k' < k ∧ ∃ s, stackAt 33 evermoreref7_Check.body [] = some s ∧ evermoreref7_Check.R k' (start s) (evermoreref7_Check.t33.fill ds) = some r := by
  unfold evermoreref7_Check.c33 at h
  obtain ⟨x0, d0, rfl, h0⟩ := pop_some h
  obtain ⟨x1, d1, rfl, h1⟩ := pop_some h0
  obtain ⟨x2, d2, rfl, h2⟩ := pop_some h1
  obtain ⟨x3, d3, rfl, h3⟩ := pop_some h2
  obtain ⟨x4, d4, rfl, h4⟩ := pop_some h3
  obtain ⟨x5, d5, rfl, h5⟩ := pop_some h4
  obtain ⟨rfl, g⟩ := popN_some h5
  cases k with
  | zero => cases (show none = some r from g)
  | succ k => exact ⟨k, Nat.lt_succ_self k, _, evermoreref7_Check.s33, (evermoreref7_Check.e33 k x0 x1 x2 x3 x4 x5).symm.trans g⟩
theorem evermoreref7_Check.e45 (k : Nat) (x0 : Int) (x1 : Int) (x2 : Int) (x3 : (List Int)) (x4 : (List (Int × (Int × (Int × Unit))))) (x5 : (List Int)) : evermoreref7_Check.l22 (k + 1) x0 x1 x2 x3 x4 x5 = evermoreref7_Check.R k (start (stackOf 45 evermoreref7_Check.body)) (evermoreref7_Check.t45.fill [⟨(.int .i64), x0⟩, ⟨(.int .i64), x1⟩, ⟨(.int .i64), x2⟩, ⟨(.slice (.int .i64)), x3⟩, ⟨(.slice (.pair (.int .i64) (.pair (.int .i64) (.pair (.int .i64) .unit)))), x4⟩, ⟨(.slice (.int .i64)), x5⟩]) := by kernel_rfl
theorem evermoreref7_Check.s45 : stackAt 45 evermoreref7_Check.body [] = some (stackOf 45 evermoreref7_Check.body) := by kernel_rfl
theorem evermoreref7_Check.h45 (k : Nat) (ds : List Dat) (r : Int) (h : evermoreref7_Check.c45 k ds = some r) : ∃ k', k' < k ∧ ∃ s, stackAt 45 evermoreref7_Check.body [] = some s ∧ evermoreref7_Check.R k' (start s) (evermoreref7_Check.t45.fill ds) = some r := by
  unfold evermoreref7_Check.c45 at h
  obtain ⟨x0, d0, rfl, h0⟩ := pop_some h
  obtain ⟨x1, d1, rfl, h1⟩ := pop_some h0
  obtain ⟨x2, d2, rfl, h2⟩ := pop_some h1
  obtain ⟨x3, d3, rfl, h3⟩ := pop_some h2
  obtain ⟨x4, d4, rfl, h4⟩ := pop_some h3
  obtain ⟨x5, d5, rfl, h5⟩ := pop_some h4
  obtain ⟨rfl, g⟩ := popN_some h5
  cases k with
  | zero => cases (show none = some r from g)
  | succ k => exact ⟨k, Nat.lt_succ_self k, _, evermoreref7_Check.s45, (evermoreref7_Check.e45 k x0 x1 x2 x3 x4 x5).symm.trans g⟩
theorem evermoreref7_Check.e55 (k : Nat) (x0 : Int) (x1 : Int) (x2 : Int) (x3 : (List Int)) (x4 : (List (Int × (Int × (Int × Unit))))) (x5 : (List Int)) : evermoreref7_Check.l27 (k + 1) x0 x1 x2 x3 x4 x5 = evermoreref7_Check.R k (start (stackOf 55 evermoreref7_Check.body)) (evermoreref7_Check.t55.fill [⟨(.int .i64), x0⟩, ⟨(.int .i64), x1⟩, ⟨(.int .i64), x2⟩, ⟨(.slice (.int .i64)), x3⟩, ⟨(.slice (.pair (.int .i64) (.pair (.int .i64) (.pair (.int .i64) .unit)))), x4⟩, ⟨(.slice (.int .i64)), x5⟩]) := by kernel_rfl
theorem evermoreref7_Check.s55 : stackAt 55 evermoreref7_Check.body [] = some (stackOf 55 evermoreref7_Check.body) := by kernel_rfl
theorem evermoreref7_Check.h55 (k : Nat) (ds : List Dat) (r : Int) (h : evermoreref7_Check.c55 k ds = some r) : ∃ k', k' < k ∧ ∃ s, stackAt 55 evermoreref7_Check.body [] = some s ∧ evermoreref7_Check.R k' (start s) (evermoreref7_Check.t55.fill ds) = some r := by
  unfold evermoreref7_Check.c55 at h
  obtain ⟨x0, d0, rfl, h0⟩ := pop_some h
  obtain ⟨x1, d1, rfl, h1⟩ := pop_some h0
  obtain ⟨x2, d2, rfl, h2⟩ := pop_some h1
  obtain ⟨x3, d3, rfl, h3⟩ := pop_some h2
  obtain ⟨x4, d4, rfl, h4⟩ := pop_some h3
  obtain ⟨x5, d5, rfl, h5⟩ := pop_some h4
  obtain ⟨rfl, g⟩ := popN_some h5
  cases k with
  | zero => cases (show none = some r from g)
  | succ k => exact ⟨k, Nat.lt_succ_self k, _, evermoreref7_Check.s55, (evermoreref7_Check.e55 k x0 x1 x2 x3 x4 x5).symm.trans g⟩
theorem evermoreref7_Check.e65 (k : Nat) (x0 : Int) (x1 : Int) (x2 : Int) (x3 : (List Int)) (x4 : (List (Int × (Int × (Int × Unit))))) (x5 : (List Int)) : evermoreref7_Check.l32 (k + 1) x0 x1 x2 x3 x4 x5 = evermoreref7_Check.R k (start (stackOf 65 evermoreref7_Check.body)) (evermoreref7_Check.t65.fill [⟨(.int .i64), x0⟩, ⟨(.int .i64), x1⟩, ⟨(.int .i64), x2⟩, ⟨(.slice (.int .i64)), x3⟩, ⟨(.slice (.pair (.int .i64) (.pair (.int .i64) (.pair (.int .i64) .unit)))), x4⟩, ⟨(.slice (.int .i64)), x5⟩]) := by kernel_rfl
theorem evermoreref7_Check.s65 : stackAt 65 evermoreref7_Check.body [] = some (stackOf 65 evermoreref7_Check.body) := by kernel_rfl
theorem evermoreref7_Check.h65 (k : Nat) (ds : List Dat) (r : Int) (h : evermoreref7_Check.c65 k ds = some r) : ∃ k', k' < k ∧ ∃ s, stackAt 65 evermoreref7_Check.body [] = some s ∧ evermoreref7_Check.R k' (start s) (evermoreref7_Check.t65.fill ds) = some r := by
  unfold evermoreref7_Check.c65 at h
  obtain ⟨x0, d0, rfl, h0⟩ := pop_some h
  obtain ⟨x1, d1, rfl, h1⟩ := pop_some h0
  obtain ⟨x2, d2, rfl, h2⟩ := pop_some h1
  obtain ⟨x3, d3, rfl, h3⟩ := pop_some h2
  obtain ⟨x4, d4, rfl, h4⟩ := pop_some h3
  obtain ⟨x5, d5, rfl, h5⟩ := pop_some h4
  obtain ⟨rfl, g⟩ := popN_some h5
  cases k with
  | zero => cases (show none = some r from g)
  | succ k => exact ⟨k, Nat.lt_succ_self k, _, evermoreref7_Check.s65, (evermoreref7_Check.e65 k x0 x1 x2 x3 x4 x5).symm.trans g⟩
theorem evermoreref7_Check.e (k : Nat) (x0 : (Int × (Int × ((List Int) × ((List (Int × (Int × (Int × Unit)))) × ((List Int) × Unit)))))) : evermoreref7_Check.f k x0 = evermoreref7_Check.R k ([.code evermoreref7_Check.body]) (evermoreref7_Check.ti.fill [⟨(.pair (.int .i64) (.pair (.int .i64) (.pair (.slice (.int .i64)) (.pair (.slice (.pair (.int .i64) (.pair (.int .i64) (.pair (.int .i64) .unit)))) (.pair (.slice (.int .i64)) .unit))))), x0⟩]) := by kernel_rfl
theorem evermoreref7_Check.h (k : Nat) (ds : List Dat) (r : Int) (h : evermoreref7_Check.g k ds = some r) : ∃ k', k' < k ∧ evermoreref7_Check.R k' ([.code evermoreref7_Check.body]) (evermoreref7_Check.ti.fill ds) = some r := by
  cases k with
  | zero => cases (show none = some r from h)
  | succ k =>
  replace h : evermoreref7_Check.c k ds = some r := h
  unfold evermoreref7_Check.c at h
  obtain ⟨x0, d0, rfl, h0⟩ := pop_some h
  obtain ⟨rfl, g⟩ := popN_some h0
  exact ⟨k, Nat.lt_succ_self k, (evermoreref7_Check.e k x0).symm.trans g⟩
theorem evermoreref7_Check.o (ds : List Dat) (r : Int) (h : evermoreref7_Check.out ds = some r) : ds = evermoreref7_Check.rs r := by
  unfold evermoreref7_Check.out at h
  obtain ⟨x0, d0, rfl, h0⟩ := pop_some h
  obtain ⟨rfl, g⟩ := popN_some h0
  cases g
  rfl
theorem evermoreref7_Check.fn : FnOk Try.prog 54 Try.f54 evermoreref7_Check.body Try.f54.ntmps 1 (fnRes Try.f54) :=
  fnOk_of (by kernel_rfl) (by kernel_rfl) (by kernel_rfl) (by kernel_rfl)
theorem evermoreref7_Check.con' : ∀ k ds r, evermoreref7_Check.g k ds = some r → Con Try.prog 54 1 evermoreref7_Check.ti evermoreref7_Check.to ds (evermoreref7_Check.rs r) :=
  fun_ok (T := T) T_ok mixed evermoreref7_Check.fn (env := evermoreref7_Check.env) (tbl := evermoreref7_Check.tbl) (gOut := evermoreref7_Check.out) (nin := 0) (cuts := []) (fuel := 100000) rfl (by kernel_rfl) (by kernel_rfl) (by kernel_rfl) (fun x hx => by
    simp only [evermoreref7_Check.tbl, List.mem_cons, List.not_mem_nil, or_false] at hx
    rcases hx with rfl | rfl | rfl | rfl | rfl | rfl
    · exact evermoreref7_Check.h13
    · exact evermoreref7_Check.h23
    · exact evermoreref7_Check.h33
    · exact evermoreref7_Check.h45
    · exact evermoreref7_Check.h55
    · exact evermoreref7_Check.h65
) evermoreref7_Check.o evermoreref7_Check.h (fun k _ => by unfold evermoreref7_Check.env; exact (envC_ok (fun ds K r h => by
    obtain ⟨x0, d0, rfl, h0⟩ := pop_some h
    obtain ⟨x1, d1, rfl, h1⟩ := pop_some h0
    obtain ⟨rfl, g⟩ := popN_some h1
    obtain ⟨r1, h1, h2⟩ := bind_some g
    exact ⟨_, h2, evermoreref7_Ahead.con k _ h1⟩) env0_ok))
theorem evermoreref7_Check.con (k : Nat) {x0 : (Int × (Int × ((List Int) × ((List (Int × (Int × (Int × Unit)))) × ((List Int) × Unit)))))} (r : Int) (h : evermoreref7_Check.f k x0 = some r) : Con Try.prog 54 1 evermoreref7_Check.ti evermoreref7_Check.to [⟨(.pair (.int .i64) (.pair (.int .i64) (.pair (.slice (.int .i64)) (.pair (.slice (.pair (.int .i64) (.pair (.int .i64) (.pair (.int .i64) .unit)))) (.pair (.slice (.int .i64)) .unit))))), x0⟩] (evermoreref7_Check.rs r) :=
  evermoreref7_Check.con' (k + 1) _ r (by show evermoreref7_Check.c k _ = some r; unfold evermoreref7_Check.c; simp only [pop_self, popN]; exact h)
mutual
def evermoreref3_Classes.l3 : Nat → Int → Int → Int → List (List (Int)) → List (Int) → List (Int) → Option (List Int)
 | 0, _, _, _, _, _, _ => none
 | k + 1, count4, d1_0, d1_1, d1_2, d1_3, class3 =>
  if 0 ≤ (↑class3.length : Int) then
  if (↑class3.length : Int) ≤ (↑class3.length : Int) then
   if (↑class3.length : Int) * ((↑8 : Int) + 1) ≤ 281474976710656 then
    evermoreref3_Classes.l7 k count4 0 0 d1_0 d1_1 d1_2 d1_3 class3 (List.replicate (↑class3.length : Int).toNat (Int.ofNat 0)) []
    else none
   else none
  else none
def evermoreref3_Classes.l7 : Nat → Int → Int → Int → Int → Int → List (List (Int)) → List (Int) → List (Int) → List (Int) → List (Int) → Option (List Int)
 | 0, _, _, _, _, _, _, _, _, _, _ => none
 | k + 1, count4, n6, q8, d1_0, d1_1, d1_2, d1_3, class3, next5, first7 =>
  if q8 < (↑class3.length : Int) then
   evermoreref3_Classes.l10 k count4 n6 q8 0 d1_0 d1_1 d1_2 d1_3 class3 next5 first7
  else
   if n6 = count4 then
    some (next5)
   else
    evermoreref3_Classes.l3 k n6 d1_0 d1_1 d1_2 d1_3 next5
def evermoreref3_Classes.l10 : Nat → Int → Int → Int → Int → Int → Int → List (List (Int)) → List (Int) → List (Int) → List (Int) → List (Int) → Option (List Int)
 | 0, _, _, _, _, _, _, _, _, _, _, _ => none
 | k + 1, count4, n6, q8, k9, d1_0, d1_1, d1_2, d1_3, class3, next5, first7 =>
  if k9 < n6 then
   if 0 ≤ k9 then
   if k9 < (↑first7.length : Int) then
    if 0 ≤ first7.getD k9.toNat (Int.ofNat 0) then
     if first7.getD k9.toNat (Int.ofNat 0) < (↑class3.length : Int) then
      if 0 ≤ q8 then
       if q8 < (↑class3.length : Int) then
        evermoreref3_Classes.l14 k count4 n6 q8 k9 (first7.getD k9.toNat (Int.ofNat 0)) (decide (class3.getD (first7.getD k9.toNat (Int.ofNat 0)).toNat (Int.ofNat 0) = class3.getD q8.toNat (Int.ofNat 0))) 0 d1_0 d1_1 d1_2 d1_3 class3 next5 first7
        else none
       else none
      else none
     else none
    else none
   else none
  else
   if k9 = n6 then
    if (first7 ++ [q8]).length.blt 1000000000 = true then
    evermoreref3_Classes.j22 k count4 (Go.IntKind.i64.wrap (n6 + 1)) q8 k9 d1_0 d1_1 d1_2 d1_3 class3 next5 (first7 ++ [q8])
    else none
   else
    evermoreref3_Classes.j22 k count4 n6 q8 k9 d1_0 d1_1 d1_2 d1_3 class3 next5 first7
def evermoreref3_Classes.l14 : Nat → Int → Int → Int → Int → Int → Bool → Int → Int → Int → List (List (Int)) → List (Int) → List (Int) → List (Int) → List (Int) → Option (List Int)
 | 0, _, _, _, _, _, _, _, _, _, _, _, _, _, _ => none
 | k + 1, count4, n6, q8, k9, p10, same11, a12, d1_0, d1_1, d1_2, d1_3, class3, next5, first7 =>
  if a12 < d1_0 then
   if same11 = true then
    if 0 ≤ p10 then
    if p10 < (↑d1_2.length : Int) then
     if 0 ≤ a12 then
      if a12 < (↑(Go.Proofs.YtfkilmmldjajmaaSx.rd [] d1_2 p10).length : Int) then
       if 0 ≤ Go.Proofs.YtfkilmmldjajmaaSx.rd (Int.ofNat 0) (Go.Proofs.YtfkilmmldjajmaaSx.rd [] d1_2 p10) a12 then
        if Go.Proofs.YtfkilmmldjajmaaSx.rd (Int.ofNat 0) (Go.Proofs.YtfkilmmldjajmaaSx.rd [] d1_2 p10) a12 < (↑class3.length : Int) then
         if 0 ≤ q8 then
          if q8 < (↑d1_2.length : Int) then
           if 0 ≤ a12 then
            if a12 < (↑(Go.Proofs.YtfkilmmldjajmaaSx.rd [] d1_2 q8).length : Int) then
             if 0 ≤ Go.Proofs.YtfkilmmldjajmaaSx.rd (Int.ofNat 0) (Go.Proofs.YtfkilmmldjajmaaSx.rd [] d1_2 q8) a12 then
              if Go.Proofs.YtfkilmmldjajmaaSx.rd (Int.ofNat 0) (Go.Proofs.YtfkilmmldjajmaaSx.rd [] d1_2 q8) a12 < (↑class3.length : Int) then
               evermoreref3_Classes.l14 k count4 n6 q8 k9 p10 (decide (class3.getD (Go.Proofs.YtfkilmmldjajmaaSx.rd (Int.ofNat 0) (Go.Proofs.YtfkilmmldjajmaaSx.rd [] d1_2 p10) a12).toNat (Int.ofNat 0) = class3.getD (Go.Proofs.YtfkilmmldjajmaaSx.rd (Int.ofNat 0) (Go.Proofs.YtfkilmmldjajmaaSx.rd [] d1_2 q8) a12).toNat (Int.ofNat 0))) (Go.IntKind.i64.wrap (a12 + 1)) d1_0 d1_1 d1_2 d1_3 class3 next5 first7
               else none
              else none
             else none
            else none
           else none
          else none
         else none
        else none
       else none
      else none
     else none
    else none
   else
    if same11 = true then
     if k9 = n6 then
      if (first7 ++ [q8]).length.blt 1000000000 = true then
      evermoreref3_Classes.j22 k count4 (Go.IntKind.i64.wrap (n6 + 1)) q8 k9 d1_0 d1_1 d1_2 d1_3 class3 next5 (first7 ++ [q8])
      else none
     else
      evermoreref3_Classes.j22 k count4 n6 q8 k9 d1_0 d1_1 d1_2 d1_3 class3 next5 first7
    else
     evermoreref3_Classes.l10 k count4 n6 q8 (Go.IntKind.i64.wrap (k9 + 1)) d1_0 d1_1 d1_2 d1_3 class3 next5 first7
  else
   if same11 = true then
    if k9 = n6 then
     if (first7 ++ [q8]).length.blt 1000000000 = true then
     evermoreref3_Classes.j22 k count4 (Go.IntKind.i64.wrap (n6 + 1)) q8 k9 d1_0 d1_1 d1_2 d1_3 class3 next5 (first7 ++ [q8])
     else none
    else
     evermoreref3_Classes.j22 k count4 n6 q8 k9 d1_0 d1_1 d1_2 d1_3 class3 next5 first7
   else
    evermoreref3_Classes.l10 k count4 n6 q8 (Go.IntKind.i64.wrap (k9 + 1)) d1_0 d1_1 d1_2 d1_3 class3 next5 first7
def evermoreref3_Classes.j22 : Nat → Int → Int → Int → Int → Int → Int → List (List (Int)) → List (Int) → List (Int) → List (Int) → List (Int) → Option (List Int)
 | 0, _, _, _, _, _, _, _, _, _, _, _ => none
 | k + 1, count4, n6, q8, k9, d1_0, d1_1, d1_2, d1_3, class3, next5, first7 =>
  if 0 ≤ q8 then
  if q8 < (↑next5.length : Int) then
   evermoreref3_Classes.l7 k count4 n6 (Go.IntKind.i64.wrap (q8 + 1)) d1_0 d1_1 d1_2 d1_3 class3 (next5.set q8.toNat k9) first7
   else none
  else none
end
def evermoreref3_Classes.f (k : Nat) (d0 : (Int × (Int × (List (List (Int)) × (List (Int) × Unit))))) : Option (List Int) :=
 if Go.Proofs.YtfkilmmldjajmaaSx.fitsIn ([] ++ d0.snd.snd.snd.fst).length 8 = true then
 evermoreref3_Classes.l3 k 0 d0.fst d0.snd.fst d0.snd.snd.fst d0.snd.snd.snd.fst ([] ++ d0.snd.snd.snd.fst)
 else none

noncomputable def evermoreref3_Classes.body : Code := fnBody Try.f112
def evermoreref3_Classes.ti : Tm := ⟨[(0, .p (.pair (.int .i64) (.pair (.int .i64) (.pair (.slice (.slice (.int .i64))) (.pair (.slice (.int .i64)) .unit)))))], []⟩
def evermoreref3_Classes.to : Tm := ⟨[(0, .own 0)], [.own (.int .i64)]⟩
def evermoreref3_Classes.rs (r : (List Int)) : List Dat := [⟨(.slice (.int .i64)), r⟩]
def evermoreref3_Classes.out (ds : List Dat) : Option ((List Int)) := pop (.slice (.int .i64)) ds fun x0 ds => popN ds (some (x0))
def evermoreref3_Classes.c (k : Nat) (ds : List Dat) : Option ((List Int)) := pop (.pair (.int .i64) (.pair (.int .i64) (.pair (.slice (.slice (.int .i64))) (.pair (.slice (.int .i64)) .unit)))) ds fun x0 ds => popN ds (evermoreref3_Classes.f k x0)
def evermoreref3_Classes.g : Nat → List Dat → Option ((List Int))
 | 0, _ => none
 | k + 1, ds => evermoreref3_Classes.c k ds
def evermoreref3_Classes.env (k : Nat) : Nat → List SV → List Chunk → KT ((List Int)) → Option ((List Int)) := env0
def evermoreref3_Classes.t7 : Tm := ⟨[(1, .ptr 0 0), (3, .own 1), (4, .p (.int .i64))], [.box [.p (.int .i64), .p (.int .i64), .p (.slice (.slice (.int .i64))), .p (.slice (.int .i64))] 60, .own (.int .i64)]⟩
def evermoreref3_Classes.c7 (k : Nat) (ds : List Dat) : Option ((List Int)) := pop (.int .i64) ds fun x0 ds => pop (.int .i64) ds fun x1 ds => pop (.int .i64) ds fun x2 ds => pop (.slice (.slice (.int .i64))) ds fun x3 ds => pop (.slice (.int .i64)) ds fun x4 ds => pop (.slice (.int .i64)) ds fun x5 ds => popN ds (evermoreref3_Classes.l3 k x0 x1 x2 x3 x4 x5)
def evermoreref3_Classes.t15 : Tm := ⟨[(1, .ptr 0 0), (3, .own 1), (4, .p (.int .i64)), (5, .own 2), (6, .p (.int .i64)), (7, .own 3), (8, .p (.int .i64))], [.box [.p (.int .i64), .p (.int .i64), .p (.slice (.slice (.int .i64))), .p (.slice (.int .i64))] 60, .own (.int .i64), .own (.int .i64), .own (.int .i64)]⟩
def evermoreref3_Classes.c15 (k : Nat) (ds : List Dat) : Option ((List Int)) := pop (.int .i64) ds fun x0 ds => pop (.int .i64) ds fun x1 ds => pop (.int .i64) ds fun x2 ds => pop (.int .i64) ds fun x3 ds => pop (.int .i64) ds fun x4 ds => pop (.slice (.slice (.int .i64))) ds fun x5 ds => pop (.slice (.int .i64)) ds fun x6 ds => pop (.slice (.int .i64)) ds fun x7 ds => pop (.slice (.int .i64)) ds fun x8 ds => pop (.slice (.int .i64)) ds fun x9 ds => popN ds (evermoreref3_Classes.l7 k x0 x1 x2 x3 x4 x5 x6 x7 x8 x9)
def evermoreref3_Classes.t21 : Tm := ⟨[(1, .ptr 0 0), (3, .own 1), (4, .p (.int .i64)), (5, .own 2), (6, .p (.int .i64)), (7, .own 3), (8, .p (.int .i64)), (9, .p (.int .i64))], [.box [.p (.int .i64), .p (.int .i64), .p (.slice (.slice (.int .i64))), .p (.slice (.int .i64))] 60, .own (.int .i64), .own (.int .i64), .own (.int .i64)]⟩
def evermoreref3_Classes.c21 (k : Nat) (ds : List Dat) : Option ((List Int)) := pop (.int .i64) ds fun x0 ds => pop (.int .i64) ds fun x1 ds => pop (.int .i64) ds fun x2 ds => pop (.int .i64) ds fun x3 ds => pop (.int .i64) ds fun x4 ds => pop (.int .i64) ds fun x5 ds => pop (.slice (.slice (.int .i64))) ds fun x6 ds => pop (.slice (.int .i64)) ds fun x7 ds => pop (.slice (.int .i64)) ds fun x8 ds => pop (.slice (.int .i64)) ds fun x9 ds => pop (.slice (.int .i64)) ds fun x10 ds => popN ds (evermoreref3_Classes.l10 k x0 x1 x2 x3 x4 x5 x6 x7 x8 x9 x10)
def evermoreref3_Classes.t29 : Tm := ⟨[(1, .ptr 0 0), (3, .own 1), (4, .p (.int .i64)), (5, .own 2), (6, .p (.int .i64)), (7, .own 3), (8, .p (.int .i64)), (9, .p (.int .i64)), (10, .p (.int .i64)), (11, .p .bool), (12, .p (.int .i64))], [.box [.p (.int .i64), .p (.int .i64), .p (.slice (.slice (.int .i64))), .p (.slice (.int .i64))] 60, .own (.int .i64), .own (.int .i64), .own (.int .i64)]⟩
def evermoreref3_Classes.c29 (k : Nat) (ds : List Dat) : Option ((List Int)) := pop (.int .i64) ds fun x0 ds => pop (.int .i64) ds fun x1 ds => pop (.int .i64) ds fun x2 ds => pop (.int .i64) ds fun x3 ds => pop (.int .i64) ds fun x4 ds => pop .bool ds fun x5 ds => pop (.int .i64) ds fun x6 ds => pop (.int .i64) ds fun x7 ds => pop (.int .i64) ds fun x8 ds => pop (.slice (.slice (.int .i64))) ds fun x9 ds => pop (.slice (.int .i64)) ds fun x10 ds => pop (.slice (.int .i64)) ds fun x11 ds => pop (.slice (.int .i64)) ds fun x12 ds => pop (.slice (.int .i64)) ds fun x13 ds => popN ds (evermoreref3_Classes.l14 k x0 x1 x2 x3 x4 x5 x6 x7 x8 x9 x10 x11 x12 x13)
def evermoreref3_Classes.t44 : Tm := ⟨[(1, .ptr 0 0), (3, .own 1), (4, .p (.int .i64)), (5, .own 2), (6, .p (.int .i64)), (7, .own 3), (8, .p (.int .i64)), (9, .p (.int .i64))], [.box [.p (.int .i64), .p (.int .i64), .p (.slice (.slice (.int .i64))), .p (.slice (.int .i64))] 60, .own (.int .i64), .own (.int .i64), .own (.int .i64)]⟩
def evermoreref3_Classes.c44 (k : Nat) (ds : List Dat) : Option ((List Int)) := pop (.int .i64) ds fun x0 ds => pop (.int .i64) ds fun x1 ds => pop (.int .i64) ds fun x2 ds => pop (.int .i64) ds fun x3 ds => pop (.int .i64) ds fun x4 ds => pop (.int .i64) ds fun x5 ds => pop (.slice (.slice (.int .i64))) ds fun x6 ds => pop (.slice (.int .i64)) ds fun x7 ds => pop (.slice (.int .i64)) ds fun x8 ds => pop (.slice (.int .i64)) ds fun x9 ds => pop (.slice (.int .i64)) ds fun x10 ds => popN ds (evermoreref3_Classes.j22 k x0 x1 x2 x3 x4 x5 x6 x7 x8 x9 x10)
def evermoreref3_Classes.tbl : List (Nat × Tm × (Nat → List Dat → Option ((List Int)))) := [(7, evermoreref3_Classes.t7, evermoreref3_Classes.c7), (15, evermoreref3_Classes.t15, evermoreref3_Classes.c15), (21, evermoreref3_Classes.t21, evermoreref3_Classes.c21), (29, evermoreref3_Classes.t29, evermoreref3_Classes.c29), (44, evermoreref3_Classes.t44, evermoreref3_Classes.c44)]
noncomputable abbrev evermoreref3_Classes.R (k : Nat) := run T (evermoreref3_Classes.env k) Try.f112.ntmps (cutE 0 evermoreref3_Classes.tbl k) (finE 0 evermoreref3_Classes.to evermoreref3_Classes.out) (fnRes Try.f112) [22] 100000 true
theorem evermoreref3_Classes.e7 (k : Nat) (x0 : Int) (x1 : Int) (x2 : Int) (x3 : (List (List Int))) (x4 : (List Int)) (x5 : (List Int)) : evermoreref3_Classes.l3 (k + 1) x0 x1 x2 x3 x4 x5 = evermoreref3_Classes.R k (start (stackOf 7 evermoreref3_Classes.body)) (evermoreref3_Classes.t7.fill [⟨(.int .i64), x0⟩, ⟨(.int .i64), x1⟩, ⟨(.int .i64), x2⟩, ⟨(.slice (.slice (.int .i64))), x3⟩, ⟨(.slice (.int .i64)), x4⟩, ⟨(.slice (.int .i64)), x5⟩]) := by kernel_rfl
theorem evermoreref3_Classes.s7 : stackAt 7 evermoreref3_Classes.body [] = some (stackOf 7 evermoreref3_Classes.body) := by kernel_rfl
theorem evermoreref3_Classes.h7 (k : Nat) (ds : List Dat) (r : (List Int)) (h : evermoreref3_Classes.c7 k ds = some r) : ∃ k', k' < k ∧ ∃ s, stackAt 7 evermoreref3_Classes.body [] = some s ∧ evermoreref3_Classes.R k' (start s) (evermoreref3_Classes.t7.fill ds) = some r := by
  unfold evermoreref3_Classes.c7 at h
  obtain ⟨x0, d0, rfl, h0⟩ := pop_some h
  obtain ⟨x1, d1, rfl, h1⟩ := pop_some h0
  obtain ⟨x2, d2, rfl, h2⟩ := pop_some h1
  obtain ⟨x3, d3, rfl, h3⟩ := pop_some h2
  obtain ⟨x4, d4, rfl, h4⟩ := pop_some h3
  obtain ⟨x5, d5, rfl, h5⟩ := pop_some h4
  obtain ⟨rfl, g⟩ := popN_some h5
  cases k with
  | zero => cases (show none = some r from g)
  | succ k => exact ⟨k, Nat.lt_succ_self k, _, evermoreref3_Classes.s7, (evermoreref3_Classes.e7 k x0 x1 x2 x3 x4 x5).symm.trans g⟩
theorem evermoreref3_Classes.e15 (k : Nat) (x0 : Int) (x1 : Int) (x2 : Int) (x3 : Int) (x4 : Int) (x5 : (List (List Int))) (x6 : (List Int)) (x7 : (List Int)) (x8 : (List Int)) (x9 : (List Int)) : evermoreref3_Classes.l7 (k + 1) x0 x1 x2 x3 x4 x5 x6 x7 x8 x9 = evermoreref3_Classes.R k (start (stackOf 15 evermoreref3_Classes.body)) (evermoreref3_Classes.t15.fill [⟨(.int .i64), x0⟩, ⟨(.int .i64), x1⟩, ⟨(.int .i64), x2⟩, ⟨(.int .i64), x3⟩, ⟨(.int .i64), x4⟩, ⟨(.slice (.slice (.int .i64))), x5⟩, ⟨(.slice (.int .i64)), x6⟩, ⟨(.slice (.int .i64)), x7⟩, ⟨(.slice (.int .i64)), x8⟩, ⟨(.slice (.int .i64)), x9⟩]) := by kernel_rfl
theorem evermoreref3_Classes.s15 : stackAt 15 evermoreref3_Classes.body [] = some (stackOf 15 evermoreref3_Classes.body) := by kernel_rfl
theorem evermoreref3_Classes.h15 (k : Nat) (ds : List Dat) (r : (List Int)) (h : evermoreref3_Classes.c15 k ds = some r) : ∃ k', k' < k ∧ ∃ s, stackAt 15 evermoreref3_Classes.body [] = some s ∧ evermoreref3_Classes.R k' (start s) (evermoreref3_Classes.t15.fill ds) = some r := by
  unfold evermoreref3_Classes.c15 at h
  obtain ⟨x0, d0, rfl, h0⟩ := pop_some h
  obtain ⟨x1, d1, rfl, h1⟩ := pop_some h0
  obtain ⟨x2, d2, rfl, h2⟩ := pop_some h1
  obtain ⟨x3, d3, rfl, h3⟩ := pop_some h2
  obtain ⟨x4, d4, rfl, h4⟩ := pop_some h3
  obtain ⟨x5, d5, rfl, h5⟩ := pop_some h4
  obtain ⟨x6, d6, rfl, h6⟩ := pop_some h5
  obtain ⟨x7, d7, rfl, h7⟩ := pop_some h6
  obtain ⟨x8, d8, rfl, h8⟩ := pop_some h7
  obtain ⟨x9, d9, rfl, h9⟩ := pop_some h8
  obtain ⟨rfl, g⟩ := popN_some h9
  cases k with
  | zero => cases (show none = some r from g)
  | succ k => exact ⟨k, Nat.lt_succ_self k, _, evermoreref3_Classes.s15, (evermoreref3_Classes.e15 k x0 x1 x2 x3 x4 x5 x6 x7 x8 x9).symm.trans g⟩
theorem evermoreref3_Classes.e21 (k : Nat) (x0 : Int) (x1 : Int) (x2 : Int) (x3 : Int) (x4 : Int) (x5 : Int) (x6 : (List (List Int))) (x7 : (List Int)) (x8 : (List Int)) (x9 : (List Int)) (x10 : (List Int)) : evermoreref3_Classes.l10 (k + 1) x0 x1 x2 x3 x4 x5 x6 x7 x8 x9 x10 = evermoreref3_Classes.R k (start (stackOf 21 evermoreref3_Classes.body)) (evermoreref3_Classes.t21.fill [⟨(.int .i64), x0⟩, ⟨(.int .i64), x1⟩, ⟨(.int .i64), x2⟩, ⟨(.int .i64), x3⟩, ⟨(.int .i64), x4⟩, ⟨(.int .i64), x5⟩, ⟨(.slice (.slice (.int .i64))), x6⟩, ⟨(.slice (.int .i64)), x7⟩, ⟨(.slice (.int .i64)), x8⟩, ⟨(.slice (.int .i64)), x9⟩, ⟨(.slice (.int .i64)), x10⟩]) := by kernel_rfl
theorem evermoreref3_Classes.s21 : stackAt 21 evermoreref3_Classes.body [] = some (stackOf 21 evermoreref3_Classes.body) := by kernel_rfl
theorem evermoreref3_Classes.h21 (k : Nat) (ds : List Dat) (r : (List Int)) (h : evermoreref3_Classes.c21 k ds = some r) : ∃ k', k' < k ∧ ∃ s, stackAt 21 evermoreref3_Classes.body [] = some s ∧ evermoreref3_Classes.R k' (start s) (evermoreref3_Classes.t21.fill ds) = some r := by
  unfold evermoreref3_Classes.c21 at h
  obtain ⟨x0, d0, rfl, h0⟩ := pop_some h
  obtain ⟨x1, d1, rfl, h1⟩ := pop_some h0
  obtain ⟨x2, d2, rfl, h2⟩ := pop_some h1
  obtain ⟨x3, d3, rfl, h3⟩ := pop_some h2
  obtain ⟨x4, d4, rfl, h4⟩ := pop_some h3
  obtain ⟨x5, d5, rfl, h5⟩ := pop_some h4
  obtain ⟨x6, d6, rfl, h6⟩ := pop_some h5
  obtain ⟨x7, d7, rfl, h7⟩ := pop_some h6
  obtain ⟨x8, d8, rfl, h8⟩ := pop_some h7
  obtain ⟨x9, d9, rfl, h9⟩ := pop_some h8
  obtain ⟨x10, d10, rfl, h10⟩ := pop_some h9
  obtain ⟨rfl, g⟩ := popN_some h10
  cases k with
  | zero => cases (show none = some r from g)
  | succ k => exact ⟨k, Nat.lt_succ_self k, _, evermoreref3_Classes.s21, (evermoreref3_Classes.e21 k x0 x1 x2 x3 x4 x5 x6 x7 x8 x9 x10).symm.trans g⟩
theorem evermoreref3_Classes.e29 (k : Nat) (x0 : Int) (x1 : Int) (x2 : Int) (x3 : Int) (x4 : Int) (x5 : Bool) (x6 : Int) (x7 : Int) (x8 : Int) (x9 : (List (List Int))) (x10 : (List Int)) (x11 : (List Int)) (x12 : (List Int)) (x13 : (List Int)) : evermoreref3_Classes.l14 (k + 1) x0 x1 x2 x3 x4 x5 x6 x7 x8 x9 x10 x11 x12 x13 = evermoreref3_Classes.R k (start (stackOf 29 evermoreref3_Classes.body)) (evermoreref3_Classes.t29.fill [⟨(.int .i64), x0⟩, ⟨(.int .i64), x1⟩, ⟨(.int .i64), x2⟩, ⟨(.int .i64), x3⟩, ⟨(.int .i64), x4⟩, ⟨.bool, x5⟩, ⟨(.int .i64), x6⟩, ⟨(.int .i64), x7⟩, ⟨(.int .i64), x8⟩, ⟨(.slice (.slice (.int .i64))), x9⟩, ⟨(.slice (.int .i64)), x10⟩, ⟨(.slice (.int .i64)), x11⟩, ⟨(.slice (.int .i64)), x12⟩, ⟨(.slice (.int .i64)), x13⟩]) := by kernel_rfl
theorem evermoreref3_Classes.s29 : stackAt 29 evermoreref3_Classes.body [] = some (stackOf 29 evermoreref3_Classes.body) := by kernel_rfl
theorem evermoreref3_Classes.h29 (k : Nat) (ds : List Dat) (r : (List Int)) (h : evermoreref3_Classes.c29 k ds = some r) : ∃ k', k' < k ∧ ∃ s, stackAt 29 evermoreref3_Classes.body [] = some s ∧ evermoreref3_Classes.R k' (start s) (evermoreref3_Classes.t29.fill ds) = some r := by
  unfold evermoreref3_Classes.c29 at h
  obtain ⟨x0, d0, rfl, h0⟩ := pop_some h
  obtain ⟨x1, d1, rfl, h1⟩ := pop_some h0
  obtain ⟨x2, d2, rfl, h2⟩ := pop_some h1
  obtain ⟨x3, d3, rfl, h3⟩ := pop_some h2
  obtain ⟨x4, d4, rfl, h4⟩ := pop_some h3
  obtain ⟨x5, d5, rfl, h5⟩ := pop_some h4
  obtain ⟨x6, d6, rfl, h6⟩ := pop_some h5
  obtain ⟨x7, d7, rfl, h7⟩ := pop_some h6
  obtain ⟨x8, d8, rfl, h8⟩ := pop_some h7
  obtain ⟨x9, d9, rfl, h9⟩ := pop_some h8
  obtain ⟨x10, d10, rfl, h10⟩ := pop_some h9
  obtain ⟨x11, d11, rfl, h11⟩ := pop_some h10
  obtain ⟨x12, d12, rfl, h12⟩ := pop_some h11
  obtain ⟨x13, d13, rfl, h13⟩ := pop_some h12
  obtain ⟨rfl, g⟩ := popN_some h13
  cases k with
  | zero => cases (show none = some r from g)
  | succ k => exact ⟨k, Nat.lt_succ_self k, _, evermoreref3_Classes.s29, (evermoreref3_Classes.e29 k x0 x1 x2 x3 x4 x5 x6 x7 x8 x9 x10 x11 x12 x13).symm.trans g⟩
theorem evermoreref3_Classes.e44 (k : Nat) (x0 : Int) (x1 : Int) (x2 : Int) (x3 : Int) (x4 : Int) (x5 : Int) (x6 : (List (List Int))) (x7 : (List Int)) (x8 : (List Int)) (x9 : (List Int)) (x10 : (List Int)) : evermoreref3_Classes.j22 (k + 1) x0 x1 x2 x3 x4 x5 x6 x7 x8 x9 x10 = evermoreref3_Classes.R k (start (stackOf 44 evermoreref3_Classes.body)) (evermoreref3_Classes.t44.fill [⟨(.int .i64), x0⟩, ⟨(.int .i64), x1⟩, ⟨(.int .i64), x2⟩, ⟨(.int .i64), x3⟩, ⟨(.int .i64), x4⟩, ⟨(.int .i64), x5⟩, ⟨(.slice (.slice (.int .i64))), x6⟩, ⟨(.slice (.int .i64)), x7⟩, ⟨(.slice (.int .i64)), x8⟩, ⟨(.slice (.int .i64)), x9⟩, ⟨(.slice (.int .i64)), x10⟩]) := by kernel_rfl
theorem evermoreref3_Classes.s44 : stackAt 44 evermoreref3_Classes.body [] = some (stackOf 44 evermoreref3_Classes.body) := by kernel_rfl
theorem evermoreref3_Classes.h44 (k : Nat) (ds : List Dat) (r : (List Int)) (h : evermoreref3_Classes.c44 k ds = some r) : ∃ k', k' < k ∧ ∃ s, stackAt 44 evermoreref3_Classes.body [] = some s ∧ evermoreref3_Classes.R k' (start s) (evermoreref3_Classes.t44.fill ds) = some r := by
  unfold evermoreref3_Classes.c44 at h
  obtain ⟨x0, d0, rfl, h0⟩ := pop_some h
  obtain ⟨x1, d1, rfl, h1⟩ := pop_some h0
  obtain ⟨x2, d2, rfl, h2⟩ := pop_some h1
  obtain ⟨x3, d3, rfl, h3⟩ := pop_some h2
  obtain ⟨x4, d4, rfl, h4⟩ := pop_some h3
  obtain ⟨x5, d5, rfl, h5⟩ := pop_some h4
  obtain ⟨x6, d6, rfl, h6⟩ := pop_some h5
  obtain ⟨x7, d7, rfl, h7⟩ := pop_some h6
  obtain ⟨x8, d8, rfl, h8⟩ := pop_some h7
  obtain ⟨x9, d9, rfl, h9⟩ := pop_some h8
  obtain ⟨x10, d10, rfl, h10⟩ := pop_some h9
  obtain ⟨rfl, g⟩ := popN_some h10
  cases k with
  | zero => cases (show none = some r from g)
  | succ k => exact ⟨k, Nat.lt_succ_self k, _, evermoreref3_Classes.s44, (evermoreref3_Classes.e44 k x0 x1 x2 x3 x4 x5 x6 x7 x8 x9 x10).symm.trans g⟩
theorem evermoreref3_Classes.e (k : Nat) (x0 : (Int × (Int × ((List (List Int)) × ((List Int) × Unit))))) : evermoreref3_Classes.f k x0 = evermoreref3_Classes.R k ([.code evermoreref3_Classes.body]) (evermoreref3_Classes.ti.fill [⟨(.pair (.int .i64) (.pair (.int .i64) (.pair (.slice (.slice (.int .i64))) (.pair (.slice (.int .i64)) .unit)))), x0⟩]) := by kernel_rfl
theorem evermoreref3_Classes.h (k : Nat) (ds : List Dat) (r : (List Int)) (h : evermoreref3_Classes.g k ds = some r) : ∃ k', k' < k ∧ evermoreref3_Classes.R k' ([.code evermoreref3_Classes.body]) (evermoreref3_Classes.ti.fill ds) = some r := by
  cases k with
  | zero => cases (show none = some r from h)
  | succ k =>
  replace h : evermoreref3_Classes.c k ds = some r := h
  unfold evermoreref3_Classes.c at h
  obtain ⟨x0, d0, rfl, h0⟩ := pop_some h
  obtain ⟨rfl, g⟩ := popN_some h0
  exact ⟨k, Nat.lt_succ_self k, (evermoreref3_Classes.e k x0).symm.trans g⟩
theorem evermoreref3_Classes.o (ds : List Dat) (r : (List Int)) (h : evermoreref3_Classes.out ds = some r) : ds = evermoreref3_Classes.rs r := by
  unfold evermoreref3_Classes.out at h
  obtain ⟨x0, d0, rfl, h0⟩ := pop_some h
  obtain ⟨rfl, g⟩ := popN_some h0
  cases g
  rfl
theorem evermoreref3_Classes.fn : FnOk Try.prog 112 Try.f112 evermoreref3_Classes.body Try.f112.ntmps 1 (fnRes Try.f112) :=
  fnOk_of (by kernel_rfl) (by kernel_rfl) (by kernel_rfl) (by kernel_rfl)
theorem evermoreref3_Classes.con' : ∀ k ds r, evermoreref3_Classes.g k ds = some r → Con Try.prog 112 1 evermoreref3_Classes.ti evermoreref3_Classes.to ds (evermoreref3_Classes.rs r) :=
  fun_ok (T := T) T_ok mixed evermoreref3_Classes.fn (env := evermoreref3_Classes.env) (tbl := evermoreref3_Classes.tbl) (gOut := evermoreref3_Classes.out) (nin := 0) (cuts := [22]) (fuel := 100000) rfl (by kernel_rfl) (by kernel_rfl) (by kernel_rfl) (fun x hx => by
    simp only [evermoreref3_Classes.tbl, List.mem_cons, List.not_mem_nil, or_false] at hx
    rcases hx with rfl | rfl | rfl | rfl | rfl
    · exact evermoreref3_Classes.h7
    · exact evermoreref3_Classes.h15
    · exact evermoreref3_Classes.h21
    · exact evermoreref3_Classes.h29
    · exact evermoreref3_Classes.h44
) evermoreref3_Classes.o evermoreref3_Classes.h (fun k _ => by unfold evermoreref3_Classes.env; exact env0_ok)
theorem evermoreref3_Classes.con (k : Nat) {x0 : (Int × (Int × ((List (List Int)) × ((List Int) × Unit))))} (r : (List Int)) (h : evermoreref3_Classes.f k x0 = some r) : Con Try.prog 112 1 evermoreref3_Classes.ti evermoreref3_Classes.to [⟨(.pair (.int .i64) (.pair (.int .i64) (.pair (.slice (.slice (.int .i64))) (.pair (.slice (.int .i64)) .unit)))), x0⟩] (evermoreref3_Classes.rs r) :=
  evermoreref3_Classes.con' (k + 1) _ r (by show evermoreref3_Classes.c k _ = some r; unfold evermoreref3_Classes.c; simp only [pop_self, popN]; exact h)
end Go.Proofs.YtfkilmmldjajmaaSx
