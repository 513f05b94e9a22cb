import Derived.Test.YtfkilmmldjajmaaSxT
import Derived.Test.YtfkilmmldjajmaaSxQ
import Derived.Test.YtfkilmmldjajmaaSxV2
import Derived.Test.YtfkilmmldjajmaaSxW
import Derived.KernelRfl
import Derived.Test.YtfkilmmldjajmaaProg
set_option linter.unusedVariables false
set_option maxRecDepth 100000
namespace Go.Proofs.YtfkilmmldjajmaaSx
open Go Go.Proofs
abbrev Z0 : Ty := (.int .i64)
abbrev Z1 : Ty := (.slice Z0)
abbrev Z2 : Ty := (.slice (.slice (.pair Z0 (.pair Z0 .unit))))
abbrev Z3 : Ty := (.slice Z1)
abbrev Z4 : Ty := (.pair Z0 (.pair Z0 (.pair Z0 (.pair Z0 (.pair Z0 .unit)))))
abbrev Z5 : Ty := (.slice (.slice Z3))
abbrev Z6 : Ty := (.pair Z0 (.pair Z0 (.pair Z3 (.pair Z1 .unit))))
abbrev Z7 : Ty := (.pair Z0 (.pair Z0 (.pair Z5 (.pair Z1 .unit))))
abbrev Z8 : Ty := (.slice (.pair Z0 (.pair Z0 .unit)))
abbrev Z9 : Ty := (.pair Z0 (.pair Z0 (.pair Z2 (.pair Z1 .unit))))
theorem T_check : T.check Try.prog = true := by kernel_rfl
theorem T_ok : TOk Try.prog T := TT.check_ok T_check
theorem mixed : Try.prog.follows .mixedOrders = true := by kernel_rfl
def det_Check_1.f (k : Nat) (r0 : List (Int)) (x1_0 : Int) (x1_1 : Int) (x1_2 : List (List (Int))) (x1_3 : List (Int)) : Option (Bool × Int × Int × List (List Int) × List Int) :=
 some (!decide ((↑r0.length : Int) = x1_0), x1_0, x1_1, x1_2, x1_3)

noncomputable def det_Check_1.body : Code := fnBody Try.f157
def det_Check_1.ti : Tm := ⟨[(0, .p Z1), (1, .ptr 0 0)], [.box [.p Z0, .p Z0, .p Z3, .p Z1] 60]⟩
def det_Check_1.to : Tm := ⟨[(0, .p .bool)], [.box [.p Z0, .p Z0, .p Z3, .p Z1] 60]⟩
def det_Check_1.rs (r : Bool × Int × Int × (List (List Int)) × (List Int)) : List Dat := [⟨.bool, r.1⟩, ⟨Z0, r.2.1⟩, ⟨Z0, r.2.2.1⟩, ⟨Z3, r.2.2.2.1⟩, ⟨Z1, r.2.2.2.2⟩]
def det_Check_1.out (ds : List Dat) : Option (Bool × Int × Int × (List (List Int)) × (List Int)) := pop .bool ds fun x0 ds => pop Z0 ds fun x1 ds => pop Z0 ds fun x2 ds => pop Z3 ds fun x3 ds => pop Z1 ds fun x4 ds => popN ds (some (x0, x1, x2, x3, x4))
def det_Check_1.c (k : Nat) (ds : List Dat) : Option (Bool × Int × Int × (List (List Int)) × (List Int)) := pop Z1 ds fun x0 ds => pop Z0 ds fun x1 ds => pop Z0 ds fun x2 ds => pop Z3 ds fun x3 ds => pop Z1 ds fun x4 ds => popN ds (det_Check_1.f k x0 x1 x2 x3 x4)
def det_Check_1.g : Nat → List Dat → Option (Bool × Int × Int × (List (List Int)) × (List Int))
 | 0, _ => none
 | k + 1, ds => det_Check_1.c k ds
def det_Check_1.env (k : Nat) : Nat → List SV → List Chunk → KT (Bool × Int × Int × (List (List Int)) × (List Int)) → Option (Bool × Int × Int × (List (List Int)) × (List Int)) := env0
def det_Check_1.tbl : List (Nat × Tm × (Nat → List Dat → Option (Bool × Int × Int × (List (List Int)) × (List Int)))) := []
noncomputable abbrev det_Check_1.R (k : Nat) := run T (det_Check_1.env k) Try.f157.ntmps (cutE 1 det_Check_1.tbl k) (finE 1 det_Check_1.to det_Check_1.out) (fnRes Try.f157) [] 100000 true
theorem det_Check_1.e (k : Nat) (x0 : (List Int)) (x1 : Int) (x2 : Int) (x3 : (List (List Int))) (x4 : (List Int)) : det_Check_1.f k x0 x1 x2 x3 x4 = det_Check_1.R k ([.code det_Check_1.body]) (det_Check_1.ti.fill [⟨Z1, x0⟩, ⟨Z0, x1⟩, ⟨Z0, x2⟩, ⟨Z3, x3⟩, ⟨Z1, x4⟩]) := by kernel_rfl
theorem det_Check_1.h (k : Nat) (ds : List Dat) (r : Bool × Int × Int × (List (List Int)) × (List Int)) (h : det_Check_1.g k ds = some r) : ∃ k', k' < k ∧ det_Check_1.R k' ([.code det_Check_1.body]) (det_Check_1.ti.fill ds) = some r := by
  cases k with
  | zero => cases (show none = some r from h)
  | succ k =>
  replace h : det_Check_1.c k ds = some r := h
  unfold det_Check_1.c at h
  iterate 5 (obtain ⟨_, _, e, g⟩ := pop_some h; clear h; subst e; have h := g; clear g)
  obtain ⟨rfl, g⟩ := popN_some h
  exact ⟨k, Nat.lt_succ_self k, (det_Check_1.e k ..).symm.trans g⟩
theorem det_Check_1.o (ds : List Dat) (r : Bool × Int × Int × (List (List Int)) × (List Int)) (h : det_Check_1.out ds = some r) : ds = det_Check_1.rs r := by
  unfold det_Check_1.out at h
  iterate 5 (obtain ⟨_, _, e, g⟩ := pop_some h; clear h; subst e; have h := g; clear g)
  obtain ⟨rfl, g⟩ := popN_some h
  cases g
  rfl
theorem det_Check_1.fn : FnOk Try.prog 157 Try.f157 det_Check_1.body Try.f157.ntmps 2 (fnRes Try.f157) :=
  fnOk_of (by kernel_rfl) (by kernel_rfl) (by kernel_rfl) (by kernel_rfl)
theorem det_Check_1.con' : ∀ k ds r, det_Check_1.g k ds = some r → Con Try.prog 157 2 det_Check_1.ti det_Check_1.to ds (det_Check_1.rs r) :=
  fun_ok (T := T) T_ok mixed det_Check_1.fn (env := det_Check_1.env) (tbl := det_Check_1.tbl) (gOut := det_Check_1.out) (nin := 1) (cuts := []) (fuel := 100000) rfl (by kernel_rfl) (by kernel_rfl) (by kernel_rfl) (fun x hx => by simp [det_Check_1.tbl] at hx) det_Check_1.o det_Check_1.h (fun k _ => by unfold det_Check_1.env; exact env0_ok)
theorem det_Check_1.con (k : Nat) {x0 : (List Int)} {x1 : Int} {x2 : Int} {x3 : (List (List Int))} {x4 : (List Int)} (r : Bool × Int × Int × (List (List Int)) × (List Int)) (h : det_Check_1.f k x0 x1 x2 x3 x4 = some r) : Con Try.prog 157 2 det_Check_1.ti det_Check_1.to [⟨Z1, x0⟩, ⟨Z0, x1⟩, ⟨Z0, x2⟩, ⟨Z3, x3⟩, ⟨Z1, x4⟩] (det_Check_1.rs r) :=
  det_Check_1.con' (k + 1) _ r (by show det_Check_1.c k _ = some r; unfold det_Check_1.c; simp only [pop_self, popN]; exact h)
mutual
def Sf0.l2 : Nat → List (List (Int)) → Int → Int → Int → Int → List (List (Int)) → List (Int) → Option (Int × Int × Int × List (List Int) × List Int)
 | 0, _, _, _, _, _, _, _ => none
 | k + 1, s0, x7, x8, c_0_0, c_0_1, c_0_2, c_0_3 =>
  if x8 < x7 then
   if 0 ≤ x8 then
   if x8 < (↑s0.length : Int) then
    (det_Check_1.f k (rd [] s0 x8) c_0_0 c_0_1 c_0_2 c_0_3).bind fun r_5 =>
      if r_5.fst = true then
       some (x8, r_5.snd.fst, r_5.snd.snd.fst, r_5.snd.snd.snd.fst, r_5.snd.snd.snd.snd)
      else
       Sf0.l2 k s0 x7 (Go.IntKind.i64.wrap (x8 + 1)) r_5.snd.fst r_5.snd.snd.fst r_5.snd.snd.snd.fst r_5.snd.snd.snd.snd
    else none
   else none
  else
   some (-1, c_0_0, c_0_1, c_0_2, c_0_3)
end
def Sf0.f (k : Nat) (s0 : List (List (Int))) (c_0_0 : Int) (c_0_1 : Int) (c_0_2 : List (List (Int))) (c_0_3 : List (Int)) : Option (Int × Int × Int × List (List Int) × List Int) :=
 Sf0.l2 k s0 ((↑s0.length : Int)) 0 c_0_0 c_0_1 c_0_2 c_0_3

noncomputable def Sf0.body : Code := fnBody Try.f145
def Sf0.ti : Tm := ⟨[(0, .p Z3), (1, .fn 157 [.ptr 0 0])], [.box [.p Z0, .p Z0, .p Z3, .p Z1] 60]⟩
def Sf0.to : Tm := ⟨[(0, .p Z0)], [.box [.p Z0, .p Z0, .p Z3, .p Z1] 60]⟩
def Sf0.rs (r : Int × Int × Int × (List (List Int)) × (List Int)) : List Dat := [⟨Z0, r.1⟩, ⟨Z0, r.2.1⟩, ⟨Z0, r.2.2.1⟩, ⟨Z3, r.2.2.2.1⟩, ⟨Z1, r.2.2.2.2⟩]
def Sf0.out (ds : List Dat) : Option (Int × Int × Int × (List (List Int)) × (List Int)) := pop Z0 ds fun x0 ds => pop Z0 ds fun x1 ds => pop Z0 ds fun x2 ds => pop Z3 ds fun x3 ds => pop Z1 ds fun x4 ds => popN ds (some (x0, x1, x2, x3, x4))
def Sf0.c (k : Nat) (ds : List Dat) : Option (Int × Int × Int × (List (List Int)) × (List Int)) := pop Z3 ds fun x0 ds => pop Z0 ds fun x1 ds => pop Z0 ds fun x2 ds => pop Z3 ds fun x3 ds => pop Z1 ds fun x4 ds => popN ds (Sf0.f k x0 x1 x2 x3 x4)
def Sf0.g : Nat → List Dat → Option (Int × Int × Int × (List (List Int)) × (List Int))
 | 0, _ => none
 | k + 1, ds => Sf0.c k ds
def Sf0.env (k : Nat) : Nat → List SV → List Chunk → KT (Int × Int × Int × (List (List Int)) × (List Int)) → Option (Int × Int × Int × (List (List Int)) × (List Int)) := (envC 157 2 det_Check_1.ti det_Check_1.to (fun ds K => pop Z1 ds fun x0 ds => pop Z0 ds fun x1 ds => pop Z0 ds fun x2 ds => pop Z3 ds fun x3 ds => pop Z1 ds fun x4 ds => popN ds ((det_Check_1.f k x0 x1 x2 x3 x4).bind fun r => K (det_Check_1.rs r))) env0)
def Sf0.t5 : Tm := ⟨[(0, .p Z3), (1, .fn 157 [.ptr 0 0]), (7, .p Z0), (8, .p Z0)], [.box [.p Z0, .p Z0, .p Z3, .p Z1] 60]⟩
def Sf0.c5 (k : Nat) (ds : List Dat) : Option (Int × Int × Int × (List (List Int)) × (List Int)) := pop Z3 ds fun x0 ds => pop Z0 ds fun x1 ds => pop Z0 ds fun x2 ds => pop Z0 ds fun x3 ds => pop Z0 ds fun x4 ds => pop Z3 ds fun x5 ds => pop Z1 ds fun x6 ds => popN ds (Sf0.l2 k x0 x1 x2 x3 x4 x5 x6)
def Sf0.tbl : List (Nat × Tm × (Nat → List Dat → Option (Int × Int × Int × (List (List Int)) × (List Int)))) := [(5, Sf0.t5, Sf0.c5)]
noncomputable abbrev Sf0.R (k : Nat) := run T (Sf0.env k) Try.f145.ntmps (cutE 1 Sf0.tbl k) (finE 1 Sf0.to Sf0.out) (fnRes Try.f145) [] 100000 true
theorem Sf0.e5 (k : Nat) (x0 : (List (List Int))) (x1 : Int) (x2 : Int) (x3 : Int) (x4 : Int) (x5 : (List (List Int))) (x6 : (List Int)) : Sf0.l2 (k + 1) x0 x1 x2 x3 x4 x5 x6 = Sf0.R k (start (stackOf 5 Sf0.body)) (Sf0.t5.fill [⟨Z3, x0⟩, ⟨Z0, x1⟩, ⟨Z0, x2⟩, ⟨Z0, x3⟩, ⟨Z0, x4⟩, ⟨Z3, x5⟩, ⟨Z1, x6⟩]) := by kernel_rfl
theorem Sf0.s5 : stackAt 5 Sf0.body [] = some (stackOf 5 Sf0.body) := by kernel_rfl
theorem Sf0.h5 (k : Nat) (ds : List Dat) (r : Int × Int × Int × (List (List Int)) × (List Int)) (h : Sf0.c5 k ds = some r) : ∃ k', k' < k ∧ ∃ s, stackAt 5 Sf0.body [] = some s ∧ Sf0.R k' (start s) (Sf0.t5.fill ds) = some r := by
  unfold Sf0.c5 at h
  iterate 7 (obtain ⟨_, _, e, g⟩ := pop_some h; clear h; subst e; have h := g; clear g)
  obtain ⟨rfl, g⟩ := popN_some h
  cases k with
  | zero => cases (show none = some r from g)
  | succ k => exact ⟨k, Nat.lt_succ_self k, _, Sf0.s5, (Sf0.e5 k ..).symm.trans g⟩
theorem Sf0.e (k : Nat) (x0 : (List (List Int))) (x1 : Int) (x2 : Int) (x3 : (List (List Int))) (x4 : (List Int)) : Sf0.f k x0 x1 x2 x3 x4 = Sf0.R k ([.code Sf0.body]) (Sf0.ti.fill [⟨Z3, x0⟩, ⟨Z0, x1⟩, ⟨Z0, x2⟩, ⟨Z3, x3⟩, ⟨Z1, x4⟩]) := by kernel_rfl
theorem Sf0.h (k : Nat) (ds : List Dat) (r : Int × Int × Int × (List (List Int)) × (List Int)) (h : Sf0.g k ds = some r) : ∃ k', k' < k ∧ Sf0.R k' ([.code Sf0.body]) (Sf0.ti.fill ds) = some r := by
  cases k with
  | zero => cases (show none = some r from h)
  | succ k =>
  replace h : Sf0.c k ds = some r := h
  unfold Sf0.c at h
  iterate 5 (obtain ⟨_, _, e, g⟩ := pop_some h; clear h; subst e; have h := g; clear g)
  obtain ⟨rfl, g⟩ := popN_some h
  exact ⟨k, Nat.lt_succ_self k, (Sf0.e k ..).symm.trans g⟩
theorem Sf0.o (ds : List Dat) (r : Int × Int × Int × (List (List Int)) × (List Int)) (h : Sf0.out ds = some r) : ds = Sf0.rs r := by
  unfold Sf0.out at h
  iterate 5 (obtain ⟨_, _, e, g⟩ := pop_some h; clear h; subst e; have h := g; clear g)
  obtain ⟨rfl, g⟩ := popN_some h
  cases g
  rfl
theorem Sf0.fn : FnOk Try.prog 145 Try.f145 Sf0.body Try.f145.ntmps 2 (fnRes Try.f145) :=
  fnOk_of (by kernel_rfl) (by kernel_rfl) (by kernel_rfl) (by kernel_rfl)
theorem Sf0.con' : ∀ k ds r, Sf0.g k ds = some r → Con Try.prog 145 2 Sf0.ti Sf0.to ds (Sf0.rs r) :=
  fun_ok (T := T) T_ok mixed Sf0.fn (env := Sf0.env) (tbl := Sf0.tbl) (gOut := Sf0.out) (nin := 1) (cuts := []) (fuel := 100000) rfl (by kernel_rfl) (by kernel_rfl) (by kernel_rfl) (fun x hx => by
    simp only [Sf0.tbl, List.mem_cons, List.not_mem_nil, or_false] at hx
    subst hx
    · exact Sf0.h5
) Sf0.o Sf0.h (fun k _ => by unfold Sf0.env; exact (envC_ok (fun ds K r h => by
    iterate 5 (obtain ⟨_, _, e, g⟩ := pop_some h; clear h; subst e; have h := g; clear g)
    obtain ⟨rfl, g⟩ := popN_some h
    obtain ⟨r1, h1, h2⟩ := bind_some g
    exact ⟨_, h2, det_Check_1.con k _ h1⟩) env0_ok))
theorem Sf0.con (k : Nat) {x0 : (List (List Int))} {x1 : Int} {x2 : Int} {x3 : (List (List Int))} {x4 : (List Int)} (r : Int × Int × Int × (List (List Int)) × (List Int)) (h : Sf0.f k x0 x1 x2 x3 x4 = some r) : Con Try.prog 145 2 Sf0.ti Sf0.to [⟨Z3, x0⟩, ⟨Z0, x1⟩, ⟨Z0, x2⟩, ⟨Z3, x3⟩, ⟨Z1, x4⟩] (Sf0.rs r) :=
  Sf0.con' (k + 1) _ r (by show Sf0.c k _ = some r; unfold Sf0.c; simp only [pop_self, popN]; exact h)
def Sf1.f (k : Nat) (s0 : List (List (Int))) (c_0_0 : Int) (c_0_1 : Int) (c_0_2 : List (List (Int))) (c_0_3 : List (Int)) : Option (Bool × Int × Int × List (List Int) × List Int) :=
 (Sf0.f k s0 c_0_0 c_0_1 c_0_2 c_0_3).bind fun r_1 =>
  some (decide (0 ≤ r_1.fst), r_1.snd.fst, r_1.snd.snd.fst, r_1.snd.snd.snd.fst, r_1.snd.snd.snd.snd)

noncomputable def Sf1.body : Code := fnBody Try.f72
def Sf1.ti : Tm := ⟨[(0, .p Z3), (1, .fn 157 [.ptr 0 0])], [.box [.p Z0, .p Z0, .p Z3, .p Z1] 60]⟩
def Sf1.to : Tm := ⟨[(0, .p .bool)], [.box [.p Z0, .p Z0, .p Z3, .p Z1] 60]⟩
def Sf1.rs (r : Bool × Int × Int × (List (List Int)) × (List Int)) : List Dat := [⟨.bool, r.1⟩, ⟨Z0, r.2.1⟩, ⟨Z0, r.2.2.1⟩, ⟨Z3, r.2.2.2.1⟩, ⟨Z1, r.2.2.2.2⟩]
def Sf1.out (ds : List Dat) : Option (Bool × Int × Int × (List (List Int)) × (List Int)) := pop .bool ds fun x0 ds => pop Z0 ds fun x1 ds => pop Z0 ds fun x2 ds => pop Z3 ds fun x3 ds => pop Z1 ds fun x4 ds => popN ds (some (x0, x1, x2, x3, x4))
def Sf1.c (k : Nat) (ds : List Dat) : Option (Bool × Int × Int × (List (List Int)) × (List Int)) := pop Z3 ds fun x0 ds => pop Z0 ds fun x1 ds => pop Z0 ds fun x2 ds => pop Z3 ds fun x3 ds => pop Z1 ds fun x4 ds => popN ds (Sf1.f k x0 x1 x2 x3 x4)
def Sf1.g : Nat → List Dat → Option (Bool × Int × Int × (List (List Int)) × (List Int))
 | 0, _ => none
 | k + 1, ds => Sf1.c k ds
def Sf1.env (k : Nat) : Nat → List SV → List Chunk → KT (Bool × Int × Int × (List (List Int)) × (List Int)) → Option (Bool × Int × Int × (List (List Int)) × (List Int)) := (envC 145 2 Sf0.ti Sf0.to (fun ds K => pop Z3 ds fun x0 ds => pop Z0 ds fun x1 ds => pop Z0 ds fun x2 ds => pop Z3 ds fun x3 ds => pop Z1 ds fun x4 ds => popN ds ((Sf0.f k x0 x1 x2 x3 x4).bind fun r => K (Sf0.rs r))) env0)
def Sf1.tbl : List (Nat × Tm × (Nat → List Dat → Option (Bool × Int × Int × (List (List Int)) × (List Int)))) := []
noncomputable abbrev Sf1.R (k : Nat) := run T (Sf1.env k) Try.f72.ntmps (cutE 1 Sf1.tbl k) (finE 1 Sf1.to Sf1.out) (fnRes Try.f72) [] 100000 true
theorem Sf1.e (k : Nat) (x0 : (List (List Int))) (x1 : Int) (x2 : Int) (x3 : (List (List Int))) (x4 : (List Int)) : Sf1.f k x0 x1 x2 x3 x4 = Sf1.R k ([.code Sf1.body]) (Sf1.ti.fill [⟨Z3, x0⟩, ⟨Z0, x1⟩, ⟨Z0, x2⟩, ⟨Z3, x3⟩, ⟨Z1, x4⟩]) := by kernel_rfl
theorem Sf1.h (k : Nat) (ds : List Dat) (r : Bool × Int × Int × (List (List Int)) × (List Int)) (h : Sf1.g k ds = some r) : ∃ k', k' < k ∧ Sf1.R k' ([.code Sf1.body]) (Sf1.ti.fill ds) = some r := by
  cases k with
  | zero => cases (show none = some r from h)
  | succ k =>
  replace h : Sf1.c k ds = some r := h
  unfold Sf1.c at h
  iterate 5 (obtain ⟨_, _, e, g⟩ := pop_some h; clear h; subst e; have h := g; clear g)
  obtain ⟨rfl, g⟩ := popN_some h
  exact ⟨k, Nat.lt_succ_self k, (Sf1.e k ..).symm.trans g⟩
theorem Sf1.o (ds : List Dat) (r : Bool × Int × Int × (List (List Int)) × (List Int)) (h : Sf1.out ds = some r) : ds = Sf1.rs r := by
  unfold Sf1.out at h
  iterate 5 (obtain ⟨_, _, e, g⟩ := pop_some h; clear h; subst e; have h := g; clear g)
  obtain ⟨rfl, g⟩ := popN_some h
  cases g
  rfl
theorem Sf1.fn : FnOk Try.prog 72 Try.f72 Sf1.body Try.f72.ntmps 2 (fnRes Try.f72) :=
  fnOk_of (by kernel_rfl) (by kernel_rfl) (by kernel_rfl) (by kernel_rfl)
theorem Sf1.con' : ∀ k ds r, Sf1.g k ds = some r → Con Try.prog 72 2 Sf1.ti Sf1.to ds (Sf1.rs r) :=
  fun_ok (T := T) T_ok mixed Sf1.fn (env := Sf1.env) (tbl := Sf1.tbl) (gOut := Sf1.out) (nin := 1) (cuts := []) (fuel := 100000) rfl (by kernel_rfl) (by kernel_rfl) (by kernel_rfl) (fun x hx => by simp [Sf1.tbl] at hx) Sf1.o Sf1.h (fun k _ => by unfold Sf1.env; exact (envC_ok (fun ds K r h => by
    iterate 5 (obtain ⟨_, _, e, g⟩ := pop_some h; clear h; subst e; have h := g; clear g)
    obtain ⟨rfl, g⟩ := popN_some h
    obtain ⟨r1, h1, h2⟩ := bind_some g
    exact ⟨_, h2, Sf0.con k _ h1⟩) env0_ok))
theorem Sf1.con (k : Nat) {x0 : (List (List Int))} {x1 : Int} {x2 : Int} {x3 : (List (List Int))} {x4 : (List Int)} (r : Bool × Int × Int × (List (List Int)) × (List Int)) (h : Sf1.f k x0 x1 x2 x3 x4 = some r) : Con Try.prog 72 2 Sf1.ti Sf1.to [⟨Z3, x0⟩, ⟨Z0, x1⟩, ⟨Z0, x2⟩, ⟨Z3, x3⟩, ⟨Z1, x4⟩] (Sf1.rs r) :=
  Sf1.con' (k + 1) _ r (by show Sf1.c k _ = some r; unfold Sf1.c; simp only [pop_self, popN]; exact h)
def det_Check_2.f (k : Nat) (q0 : Int) (x1_0 : Int) : Option (Bool × Int) :=
 if q0 < 0 then
  some (true, x1_0)
 else
  some (decide (x1_0 ≤ q0), x1_0)

noncomputable def det_Check_2.body : Code := fnBody Try.f158
def det_Check_2.ti : Tm := ⟨[(0, .p Z0), (1, .ptr 0 0)], [.box [.p Z0] 3]⟩
def det_Check_2.to : Tm := ⟨[(0, .p .bool)], [.box [.p Z0] 3]⟩
def det_Check_2.rs (r : Bool × Int) : List Dat := [⟨.bool, r.1⟩, ⟨Z0, r.2⟩]
def det_Check_2.out (ds : List Dat) : Option (Bool × Int) := pop .bool ds fun x0 ds => pop Z0 ds fun x1 ds => popN ds (some (x0, x1))
def det_Check_2.c (k : Nat) (ds : List Dat) : Option (Bool × Int) := pop Z0 ds fun x0 ds => pop Z0 ds fun x1 ds => popN ds (det_Check_2.f k x0 x1)
def det_Check_2.g : Nat → List Dat → Option (Bool × Int)
 | 0, _ => none
 | k + 1, ds => det_Check_2.c k ds
def det_Check_2.env (k : Nat) : Nat → List SV → List Chunk → KT (Bool × Int) → Option (Bool × Int) := env0
def det_Check_2.tbl : List (Nat × Tm × (Nat → List Dat → Option (Bool × Int))) := []
noncomputable abbrev det_Check_2.R (k : Nat) := run T (det_Check_2.env k) Try.f158.ntmps (cutE 1 det_Check_2.tbl k) (finE 1 det_Check_2.to det_Check_2.out) (fnRes Try.f158) [] 100000 true
theorem det_Check_2.e (k : Nat) (x0 : Int) (x1 : Int) : det_Check_2.f k x0 x1 = det_Check_2.R k ([.code det_Check_2.body]) (det_Check_2.ti.fill [⟨Z0, x0⟩, ⟨Z0, x1⟩]) := by kernel_rfl
theorem det_Check_2.h (k : Nat) (ds : List Dat) (r : Bool × Int) (h : det_Check_2.g k ds = some r) : ∃ k', k' < k ∧ det_Check_2.R k' ([.code det_Check_2.body]) (det_Check_2.ti.fill ds) = some r := by
  cases k with
  | zero => cases (show none = some r from h)
  | succ k =>
  replace h : det_Check_2.c k ds = some r := h
  unfold det_Check_2.c at h
  iterate 2 (obtain ⟨_, _, e, g⟩ := pop_some h; clear h; subst e; have h := g; clear g)
  obtain ⟨rfl, g⟩ := popN_some h
  exact ⟨k, Nat.lt_succ_self k, (det_Check_2.e k ..).symm.trans g⟩
theorem det_Check_2.o (ds : List Dat) (r : Bool × Int) (h : det_Check_2.out ds = some r) : ds = det_Check_2.rs r := by
  unfold det_Check_2.out at h
  iterate 2 (obtain ⟨_, _, e, g⟩ := pop_some h; clear h; subst e; have h := g; clear g)
  obtain ⟨rfl, g⟩ := popN_some h
  cases g
  rfl
theorem det_Check_2.fn : FnOk Try.prog 158 Try.f158 det_Check_2.body Try.f158.ntmps 2 (fnRes Try.f158) :=
  fnOk_of (by kernel_rfl) (by kernel_rfl) (by kernel_rfl) (by kernel_rfl)
theorem det_Check_2.con' : ∀ k ds r, det_Check_2.g k ds = some r → Con Try.prog 158 2 det_Check_2.ti det_Check_2.to ds (det_Check_2.rs r) :=
  fun_ok (T := T) T_ok mixed det_Check_2.fn (env := det_Check_2.env) (tbl := det_Check_2.tbl) (gOut := det_Check_2.out) (nin := 1) (cuts := []) (fuel := 100000) rfl (by kernel_rfl) (by kernel_rfl) (by kernel_rfl) (fun x hx => by simp [det_Check_2.tbl] at hx) det_Check_2.o det_Check_2.h (fun k _ => by unfold det_Check_2.env; exact env0_ok)
theorem det_Check_2.con (k : Nat) {x0 : Int} {x1 : Int} (r : Bool × Int) (h : det_Check_2.f k x0 x1 = some r) : Con Try.prog 158 2 det_Check_2.ti det_Check_2.to [⟨Z0, x0⟩, ⟨Z0, x1⟩] (det_Check_2.rs r) :=
  det_Check_2.con' (k + 1) _ r (by show det_Check_2.c k _ = some r; unfold det_Check_2.c; simp only [pop_self, popN]; exact h)
mutual
def Sf2.l2 : Nat → List (Int) → Int → Int → Int → Option (Int × Int)
 | 0, _, _, _, _ => none
 | k + 1, s0, x7, x8, c_0_0 =>
  if x8 < x7 then
   if 0 ≤ x8 then
   if x8 < (↑s0.length : Int) then
    (det_Check_2.f k (rd (Int.ofNat 0) s0 x8) c_0_0).bind fun r_5 =>
      if r_5.fst = true then
       some (x8, r_5.snd)
      else
       Sf2.l2 k s0 x7 (Go.IntKind.i64.wrap (x8 + 1)) r_5.snd
    else none
   else none
  else
   some (-1, c_0_0)
end
def Sf2.f (k : Nat) (s0 : List (Int)) (c_0_0 : Int) : Option (Int × Int) :=
 Sf2.l2 k s0 ((↑s0.length : Int)) 0 c_0_0

noncomputable def Sf2.body : Code := fnBody Try.f146
def Sf2.ti : Tm := ⟨[(0, .p Z1), (1, .fn 158 [.ptr 0 0])], [.box [.p Z0] 3]⟩
def Sf2.to : Tm := ⟨[(0, .p Z0)], [.box [.p Z0] 3]⟩
def Sf2.rs (r : Int × Int) : List Dat := [⟨Z0, r.1⟩, ⟨Z0, r.2⟩]
def Sf2.out (ds : List Dat) : Option (Int × Int) := pop Z0 ds fun x0 ds => pop Z0 ds fun x1 ds => popN ds (some (x0, x1))
def Sf2.c (k : Nat) (ds : List Dat) : Option (Int × Int) := pop Z1 ds fun x0 ds => pop Z0 ds fun x1 ds => popN ds (Sf2.f k x0 x1)
def Sf2.g : Nat → List Dat → Option (Int × Int)
 | 0, _ => none
 | k + 1, ds => Sf2.c k ds
def Sf2.env (k : Nat) : Nat → List SV → List Chunk → KT (Int × Int) → Option (Int × Int) := (envC 158 2 det_Check_2.ti det_Check_2.to (fun ds K => pop Z0 ds fun x0 ds => pop Z0 ds fun x1 ds => popN ds ((det_Check_2.f k x0 x1).bind fun r => K (det_Check_2.rs r))) env0)
def Sf2.t5 : Tm := ⟨[(0, .p Z1), (1, .fn 158 [.ptr 0 0]), (7, .p Z0), (8, .p Z0)], [.box [.p Z0] 3]⟩
def Sf2.c5 (k : Nat) (ds : List Dat) : Option (Int × Int) := pop Z1 ds fun x0 ds => pop Z0 ds fun x1 ds => pop Z0 ds fun x2 ds => pop Z0 ds fun x3 ds => popN ds (Sf2.l2 k x0 x1 x2 x3)
def Sf2.tbl : List (Nat × Tm × (Nat → List Dat → Option (Int × Int))) := [(5, Sf2.t5, Sf2.c5)]
noncomputable abbrev Sf2.R (k : Nat) := run T (Sf2.env k) Try.f146.ntmps (cutE 1 Sf2.tbl k) (finE 1 Sf2.to Sf2.out) (fnRes Try.f146) [] 100000 true
theorem Sf2.e5 (k : Nat) (x0 : (List Int)) (x1 : Int) (x2 : Int) (x3 : Int) : Sf2.l2 (k + 1) x0 x1 x2 x3 = Sf2.R k (start (stackOf 5 Sf2.body)) (Sf2.t5.fill [⟨Z1, x0⟩, ⟨Z0, x1⟩, ⟨Z0, x2⟩, ⟨Z0, x3⟩]) := by kernel_rfl
theorem Sf2.s5 : stackAt 5 Sf2.body [] = some (stackOf 5 Sf2.body) := by kernel_rfl
theorem Sf2.h5 (k : Nat) (ds : List Dat) (r : Int × Int) (h : Sf2.c5 k ds = some r) : ∃ k', k' < k ∧ ∃ s, stackAt 5 Sf2.body [] = some s ∧ Sf2.R k' (start s) (Sf2.t5.fill ds) = some r := by
  unfold Sf2.c5 at h
  iterate 4 (obtain ⟨_, _, e, g⟩ := pop_some h; clear h; subst e; have h := g; clear g)
  obtain ⟨rfl, g⟩ := popN_some h
  cases k with
  | zero => cases (show none = some r from g)
  | succ k => exact ⟨k, Nat.lt_succ_self k, _, Sf2.s5, (Sf2.e5 k ..).symm.trans g⟩
theorem Sf2.e (k : Nat) (x0 : (List Int)) (x1 : Int) : Sf2.f k x0 x1 = Sf2.R k ([.code Sf2.body]) (Sf2.ti.fill [⟨Z1, x0⟩, ⟨Z0, x1⟩]) := by kernel_rfl
theorem Sf2.h (k : Nat) (ds : List Dat) (r : Int × Int) (h : Sf2.g k ds = some r) : ∃ k', k' < k ∧ Sf2.R k' ([.code Sf2.body]) (Sf2.ti.fill ds) = some r := by
  cases k with
  | zero => cases (show none = some r from h)
  | succ k =>
  replace h : Sf2.c k ds = some r := h
  unfold Sf2.c at h
  iterate 2 (obtain ⟨_, _, e, g⟩ := pop_some h; clear h; subst e; have h := g; clear g)
  obtain ⟨rfl, g⟩ := popN_some h
  exact ⟨k, Nat.lt_succ_self k, (Sf2.e k ..).symm.trans g⟩
theorem Sf2.o (ds : List Dat) (r : Int × Int) (h : Sf2.out ds = some r) : ds = Sf2.rs r := by
  unfold Sf2.out at h
  iterate 2 (obtain ⟨_, _, e, g⟩ := pop_some h; clear h; subst e; have h := g; clear g)
  obtain ⟨rfl, g⟩ := popN_some h
  cases g
  rfl
theorem Sf2.fn : FnOk Try.prog 146 Try.f146 Sf2.body Try.f146.ntmps 2 (fnRes Try.f146) :=
  fnOk_of (by kernel_rfl) (by kernel_rfl) (by kernel_rfl) (by kernel_rfl)
theorem Sf2.con' : ∀ k ds r, Sf2.g k ds = some r → Con Try.prog 146 2 Sf2.ti Sf2.to ds (Sf2.rs r) :=
  fun_ok (T := T) T_ok mixed Sf2.fn (env := Sf2.env) (tbl := Sf2.tbl) (gOut := Sf2.out) (nin := 1) (cuts := []) (fuel := 100000) rfl (by kernel_rfl) (by kernel_rfl) (by kernel_rfl) (fun x hx => by
    simp only [Sf2.tbl, List.mem_cons, List.not_mem_nil, or_false] at hx
    subst hx
    · exact Sf2.h5
) Sf2.o Sf2.h (fun k _ => by unfold Sf2.env; exact (envC_ok (fun ds K r h => by
    iterate 2 (obtain ⟨_, _, e, g⟩ := pop_some h; clear h; subst e; have h := g; clear g)
    obtain ⟨rfl, g⟩ := popN_some h
    obtain ⟨r1, h1, h2⟩ := bind_some g
    exact ⟨_, h2, det_Check_2.con k _ h1⟩) env0_ok))
theorem Sf2.con (k : Nat) {x0 : (List Int)} {x1 : Int} (r : Int × Int) (h : Sf2.f k x0 x1 = some r) : Con Try.prog 146 2 Sf2.ti Sf2.to [⟨Z1, x0⟩, ⟨Z0, x1⟩] (Sf2.rs r) :=
  Sf2.con' (k + 1) _ r (by show Sf2.c k _ = some r; unfold Sf2.c; simp only [pop_self, popN]; exact h)
def Sf3.f (k : Nat) (s0 : List (Int)) (c_0_0 : Int) : Option (Bool × Int) :=
 (Sf2.f k s0 c_0_0).bind fun r_1 =>
  some (decide (0 ≤ r_1.fst), r_1.snd)

noncomputable def Sf3.body : Code := fnBody Try.f74
def Sf3.ti : Tm := ⟨[(0, .p Z1), (1, .fn 158 [.ptr 0 0])], [.box [.p Z0] 3]⟩
def Sf3.to : Tm := ⟨[(0, .p .bool)], [.box [.p Z0] 3]⟩
def Sf3.rs (r : Bool × Int) : List Dat := [⟨.bool, r.1⟩, ⟨Z0, r.2⟩]
def Sf3.out (ds : List Dat) : Option (Bool × Int) := pop .bool ds fun x0 ds => pop Z0 ds fun x1 ds => popN ds (some (x0, x1))
def Sf3.c (k : Nat) (ds : List Dat) : Option (Bool × Int) := pop Z1 ds fun x0 ds => pop Z0 ds fun x1 ds => popN ds (Sf3.f k x0 x1)
def Sf3.g : Nat → List Dat → Option (Bool × Int)
 | 0, _ => none
 | k + 1, ds => Sf3.c k ds
def Sf3.env (k : Nat) : Nat → List SV → List Chunk → KT (Bool × Int) → Option (Bool × Int) := (envC 146 2 Sf2.ti Sf2.to (fun ds K => pop Z1 ds fun x0 ds => pop Z0 ds fun x1 ds => popN ds ((Sf2.f k x0 x1).bind fun r => K (Sf2.rs r))) env0)
def Sf3.tbl : List (Nat × Tm × (Nat → List Dat → Option (Bool × Int))) := []
noncomputable abbrev Sf3.R (k : Nat) := run T (Sf3.env k) Try.f74.ntmps (cutE 1 Sf3.tbl k) (finE 1 Sf3.to Sf3.out) (fnRes Try.f74) [] 100000 true
theorem Sf3.e (k : Nat) (x0 : (List Int)) (x1 : Int) : Sf3.f k x0 x1 = Sf3.R k ([.code Sf3.body]) (Sf3.ti.fill [⟨Z1, x0⟩, ⟨Z0, x1⟩]) := by kernel_rfl
theorem Sf3.h (k : Nat) (ds : List Dat) (r : Bool × Int) (h : Sf3.g k ds = some r) : ∃ k', k' < k ∧ Sf3.R k' ([.code Sf3.body]) (Sf3.ti.fill ds) = some r := by
  cases k with
  | zero => cases (show none = some r from h)
  | succ k =>
  replace h : Sf3.c k ds = some r := h
  unfold Sf3.c at h
  iterate 2 (obtain ⟨_, _, e, g⟩ := pop_some h; clear h; subst e; have h := g; clear g)
  obtain ⟨rfl, g⟩ := popN_some h
  exact ⟨k, Nat.lt_succ_self k, (Sf3.e k ..).symm.trans g⟩
theorem Sf3.o (ds : List Dat) (r : Bool × Int) (h : Sf3.out ds = some r) : ds = Sf3.rs r := by
  unfold Sf3.out at h
  iterate 2 (obtain ⟨_, _, e, g⟩ := pop_some h; clear h; subst e; have h := g; clear g)
  obtain ⟨rfl, g⟩ := popN_some h
  cases g
  rfl
theorem Sf3.fn : FnOk Try.prog 74 Try.f74 Sf3.body Try.f74.ntmps 2 (fnRes Try.f74) :=
  fnOk_of (by kernel_rfl) (by kernel_rfl) (by kernel_rfl) (by kernel_rfl)
theorem Sf3.con' : ∀ k ds r, Sf3.g k ds = some r → Con Try.prog 74 2 Sf3.ti Sf3.to ds (Sf3.rs r) :=
  fun_ok (T := T) T_ok mixed Sf3.fn (env := Sf3.env) (tbl := Sf3.tbl) (gOut := Sf3.out) (nin := 1) (cuts := []) (fuel := 100000) rfl (by kernel_rfl) (by kernel_rfl) (by kernel_rfl) (fun x hx => by simp [Sf3.tbl] at hx) Sf3.o Sf3.h (fun k _ => by unfold Sf3.env; exact (envC_ok (fun ds K r h => by
    iterate 2 (obtain ⟨_, _, e, g⟩ := pop_some h; clear h; subst e; have h := g; clear g)
    obtain ⟨rfl, g⟩ := popN_some h
    obtain ⟨r1, h1, h2⟩ := bind_some g
    exact ⟨_, h2, Sf2.con k _ h1⟩) env0_ok))
theorem Sf3.con (k : Nat) {x0 : (List Int)} {x1 : Int} (r : Bool × Int) (h : Sf3.f k x0 x1 = some r) : Con Try.prog 74 2 Sf3.ti Sf3.to [⟨Z1, x0⟩, ⟨Z0, x1⟩] (Sf3.rs r) :=
  Sf3.con' (k + 1) _ r (by show Sf3.c k _ = some r; unfold Sf3.c; simp only [pop_self, popN]; exact h)
def det_Check_3.f (k : Nat) (r0 : List (Int)) (c_1_0 : Int) : Option (Bool × Int) :=
 (Sf3.f k r0 c_1_0).bind fun r_1 =>
  some (r_1.fst, r_1.snd)

noncomputable def det_Check_3.body : Code := fnBody Try.f159
def det_Check_3.ti : Tm := ⟨[(0, .p Z1), (1, .ptr 0 0)], [.box [.fn 158 [.ptr 1 0]] 113, .box [.p Z0] 3]⟩
def det_Check_3.to : Tm := ⟨[(0, .p .bool)], [.box [.fn 158 [.ptr 1 0]] 113, .box [.p Z0] 3]⟩
def det_Check_3.rs (r : Bool × Int) : List Dat := [⟨.bool, r.1⟩, ⟨Z0, r.2⟩]
def det_Check_3.out (ds : List Dat) : Option (Bool × Int) := pop .bool ds fun x0 ds => pop Z0 ds fun x1 ds => popN ds (some (x0, x1))
def det_Check_3.c (k : Nat) (ds : List Dat) : Option (Bool × Int) := pop Z1 ds fun x0 ds => pop Z0 ds fun x1 ds => popN ds (det_Check_3.f k x0 x1)
def det_Check_3.g : Nat → List Dat → Option (Bool × Int)
 | 0, _ => none
 | k + 1, ds => det_Check_3.c k ds
def det_Check_3.env (k : Nat) : Nat → List SV → List Chunk → KT (Bool × Int) → Option (Bool × Int) := (envC 74 2 Sf3.ti Sf3.to (fun ds K => pop Z1 ds fun x0 ds => pop Z0 ds fun x1 ds => popN ds ((Sf3.f k x0 x1).bind fun r => K (Sf3.rs r))) env0)
def det_Check_3.tbl : List (Nat × Tm × (Nat → List Dat → Option (Bool × Int))) := []
noncomputable abbrev det_Check_3.R (k : Nat) := run T (det_Check_3.env k) Try.f159.ntmps (cutE 2 det_Check_3.tbl k) (finE 2 det_Check_3.to det_Check_3.out) (fnRes Try.f159) [] 100000 true
theorem det_Check_3.e (k : Nat) (x0 : (List Int)) (x1 : Int) : det_Check_3.f k x0 x1 = det_Check_3.R k ([.code det_Check_3.body]) (det_Check_3.ti.fill [⟨Z1, x0⟩, ⟨Z0, x1⟩]) := by kernel_rfl
theorem det_Check_3.h (k : Nat) (ds : List Dat) (r : Bool × Int) (h : det_Check_3.g k ds = some r) : ∃ k', k' < k ∧ det_Check_3.R k' ([.code det_Check_3.body]) (det_Check_3.ti.fill ds) = some r := by
  cases k with
  | zero => cases (show none = some r from h)
  | succ k =>
  replace h : det_Check_3.c k ds = some r := h
  unfold det_Check_3.c at h
  iterate 2 (obtain ⟨_, _, e, g⟩ := pop_some h; clear h; subst e; have h := g; clear g)
  obtain ⟨rfl, g⟩ := popN_some h
  exact ⟨k, Nat.lt_succ_self k, (det_Check_3.e k ..).symm.trans g⟩
theorem det_Check_3.o (ds : List Dat) (r : Bool × Int) (h : det_Check_3.out ds = some r) : ds = det_Check_3.rs r := by
  unfold det_Check_3.out at h
  iterate 2 (obtain ⟨_, _, e, g⟩ := pop_some h; clear h; subst e; have h := g; clear g)
  obtain ⟨rfl, g⟩ := popN_some h
  cases g
  rfl
theorem det_Check_3.fn : FnOk Try.prog 159 Try.f159 det_Check_3.body Try.f159.ntmps 2 (fnRes Try.f159) :=
  fnOk_of (by kernel_rfl) (by kernel_rfl) (by kernel_rfl) (by kernel_rfl)
theorem det_Check_3.con' : ∀ k ds r, det_Check_3.g k ds = some r → Con Try.prog 159 2 det_Check_3.ti det_Check_3.to ds (det_Check_3.rs r) :=
  fun_ok (T := T) T_ok mixed det_Check_3.fn (env := det_Check_3.env) (tbl := det_Check_3.tbl) (gOut := det_Check_3.out) (nin := 2) (cuts := []) (fuel := 100000) rfl (by kernel_rfl) (by kernel_rfl) (by kernel_rfl) (fun x hx => by simp [det_Check_3.tbl] at hx) det_Check_3.o det_Check_3.h (fun k _ => by unfold det_Check_3.env; exact (envC_ok (fun ds K r h => by
    iterate 2 (obtain ⟨_, _, e, g⟩ := pop_some h; clear h; subst e; have h := g; clear g)
    obtain ⟨rfl, g⟩ := popN_some h
    obtain ⟨r1, h1, h2⟩ := bind_some g
    exact ⟨_, h2, Sf3.con k _ h1⟩) env0_ok))
theorem det_Check_3.con (k : Nat) {x0 : (List Int)} {x1 : Int} (r : Bool × Int) (h : det_Check_3.f k x0 x1 = some r) : Con Try.prog 159 2 det_Check_3.ti det_Check_3.to [⟨Z1, x0⟩, ⟨Z0, x1⟩] (det_Check_3.rs r) :=
  det_Check_3.con' (k + 1) _ r (by show det_Check_3.c k _ = some r; unfold det_Check_3.c; simp only [pop_self, popN]; exact h)
mutual
def Sf4.l2 : Nat → List (List (Int)) → Int → Int → Int → Option (Int × Int)
 | 0, _, _, _, _ => none
 | k + 1, s0, x7, x8, c_1_0 =>
  if x8 < x7 then
   if 0 ≤ x8 then
   if x8 < (↑s0.length : Int) then
    (det_Check_3.f k (rd [] s0 x8) c_1_0).bind fun r_5 =>
      if r_5.fst = true then
       some (x8, r_5.snd)
      else
       Sf4.l2 k s0 x7 (Go.IntKind.i64.wrap (x8 + 1)) r_5.snd
    else none
   else none
  else
   some (-1, c_1_0)
end
def Sf4.f (k : Nat) (s0 : List (List (Int))) (c_1_0 : Int) : Option (Int × Int) :=
 Sf4.l2 k s0 ((↑s0.length : Int)) 0 c_1_0

noncomputable def Sf4.body : Code := fnBody Try.f145
def Sf4.ti : Tm := ⟨[(0, .p Z3), (1, .fn 159 [.ptr 0 0])], [.box [.fn 158 [.ptr 1 0]] 113, .box [.p Z0] 3]⟩
def Sf4.to : Tm := ⟨[(0, .p Z0)], [.box [.fn 158 [.ptr 1 0]] 113, .box [.p Z0] 3]⟩
def Sf4.rs (r : Int × Int) : List Dat := [⟨Z0, r.1⟩, ⟨Z0, r.2⟩]
def Sf4.out (ds : List Dat) : Option (Int × Int) := pop Z0 ds fun x0 ds => pop Z0 ds fun x1 ds => popN ds (some (x0, x1))
def Sf4.c (k : Nat) (ds : List Dat) : Option (Int × Int) := pop Z3 ds fun x0 ds => pop Z0 ds fun x1 ds => popN ds (Sf4.f k x0 x1)
def Sf4.g : Nat → List Dat → Option (Int × Int)
 | 0, _ => none
 | k + 1, ds => Sf4.c k ds
def Sf4.env (k : Nat) : Nat → List SV → List Chunk → KT (Int × Int) → Option (Int × Int) := (envC 159 2 det_Check_3.ti det_Check_3.to (fun ds K => pop Z1 ds fun x0 ds => pop Z0 ds fun x1 ds => popN ds ((det_Check_3.f k x0 x1).bind fun r => K (det_Check_3.rs r))) env0)
def Sf4.t5 : Tm := ⟨[(0, .p Z3), (1, .fn 159 [.ptr 0 0]), (7, .p Z0), (8, .p Z0)], [.box [.fn 158 [.ptr 1 0]] 113, .box [.p Z0] 3]⟩
def Sf4.c5 (k : Nat) (ds : List Dat) : Option (Int × Int) := pop Z3 ds fun x0 ds => pop Z0 ds fun x1 ds => pop Z0 ds fun x2 ds => pop Z0 ds fun x3 ds => popN ds (Sf4.l2 k x0 x1 x2 x3)
def Sf4.tbl : List (Nat × Tm × (Nat → List Dat → Option (Int × Int))) := [(5, Sf4.t5, Sf4.c5)]
noncomputable abbrev Sf4.R (k : Nat) := run T (Sf4.env k) Try.f145.ntmps (cutE 2 Sf4.tbl k) (finE 2 Sf4.to Sf4.out) (fnRes Try.f145) [] 100000 true
theorem Sf4.e5 (k : Nat) (x0 : (List (List Int))) (x1 : Int) (x2 : Int) (x3 : Int) : Sf4.l2 (k + 1) x0 x1 x2 x3 = Sf4.R k (start (stackOf 5 Sf4.body)) (Sf4.t5.fill [⟨Z3, x0⟩, ⟨Z0, x1⟩, ⟨Z0, x2⟩, ⟨Z0, x3⟩]) := by kernel_rfl
theorem Sf4.s5 : stackAt 5 Sf4.body [] = some (stackOf 5 Sf4.body) := by kernel_rfl
theorem Sf4.h5 (k : Nat) (ds : List Dat) (r : Int × Int) (h : Sf4.c5 k ds = some r) : ∃ k', k' < k ∧ ∃ s, stackAt 5 Sf4.body [] = some s ∧ Sf4.R k' (start s) (Sf4.t5.fill ds) = some r := by
  unfold Sf4.c5 at h
  iterate 4 (obtain ⟨_, _, e, g⟩ := pop_some h; clear h; subst e; have h := g; clear g)
  obtain ⟨rfl, g⟩ := popN_some h
  cases k with
  | zero => cases (show none = some r from g)
  | succ k => exact ⟨k, Nat.lt_succ_self k, _, Sf4.s5, (Sf4.e5 k ..).symm.trans g⟩
theorem Sf4.e (k : Nat) (x0 : (List (List Int))) (x1 : Int) : Sf4.f k x0 x1 = Sf4.R k ([.code Sf4.body]) (Sf4.ti.fill [⟨Z3, x0⟩, ⟨Z0, x1⟩]) := by kernel_rfl
theorem Sf4.h (k : Nat) (ds : List Dat) (r : Int × Int) (h : Sf4.g k ds = some r) : ∃ k', k' < k ∧ Sf4.R k' ([.code Sf4.body]) (Sf4.ti.fill ds) = some r := by
  cases k with
  | zero => cases (show none = some r from h)
  | succ k =>
  replace h : Sf4.c k ds = some r := h
  unfold Sf4.c at h
  iterate 2 (obtain ⟨_, _, e, g⟩ := pop_some h; clear h; subst e; have h := g; clear g)
  obtain ⟨rfl, g⟩ := popN_some h
  exact ⟨k, Nat.lt_succ_self k, (Sf4.e k ..).symm.trans g⟩
theorem Sf4.o (ds : List Dat) (r : Int × Int) (h : Sf4.out ds = some r) : ds = Sf4.rs r := by
  unfold Sf4.out at h
  iterate 2 (obtain ⟨_, _, e, g⟩ := pop_some h; clear h; subst e; have h := g; clear g)
  obtain ⟨rfl, g⟩ := popN_some h
  cases g
  rfl
theorem Sf4.fn : FnOk Try.prog 145 Try.f145 Sf4.body Try.f145.ntmps 2 (fnRes Try.f145) :=
  fnOk_of (by kernel_rfl) (by kernel_rfl) (by kernel_rfl) (by kernel_rfl)
theorem Sf4.con' : ∀ k ds r, Sf4.g k ds = some r → Con Try.prog 145 2 Sf4.ti Sf4.to ds (Sf4.rs r) :=
  fun_ok (T := T) T_ok mixed Sf4.fn (env := Sf4.env) (tbl := Sf4.tbl) (gOut := Sf4.out) (nin := 2) (cuts := []) (fuel := 100000) rfl (by kernel_rfl) (by kernel_rfl) (by kernel_rfl) (fun x hx => by
    simp only [Sf4.tbl, List.mem_cons, List.not_mem_nil, or_false] at hx
    subst hx
    · exact Sf4.h5
) Sf4.o Sf4.h (fun k _ => by unfold Sf4.env; exact (envC_ok (fun ds K r h => by
    iterate 2 (obtain ⟨_, _, e, g⟩ := pop_some h; clear h; subst e; have h := g; clear g)
    obtain ⟨rfl, g⟩ := popN_some h
    obtain ⟨r1, h1, h2⟩ := bind_some g
    exact ⟨_, h2, det_Check_3.con k _ h1⟩) env0_ok))
theorem Sf4.con (k : Nat) {x0 : (List (List Int))} {x1 : Int} (r : Int × Int) (h : Sf4.f k x0 x1 = some r) : Con Try.prog 145 2 Sf4.ti Sf4.to [⟨Z3, x0⟩, ⟨Z0, x1⟩] (Sf4.rs r) :=
  Sf4.con' (k + 1) _ r (by show Sf4.c k _ = some r; unfold Sf4.c; simp only [pop_self, popN]; exact h)
def Sf5.f (k : Nat) (s0 : List (List (Int))) (c_1_0 : Int) : Option (Bool × Int) :=
 (Sf4.f k s0 c_1_0).bind fun r_1 =>
  some (decide (0 ≤ r_1.fst), r_1.snd)

noncomputable def Sf5.body : Code := fnBody Try.f72
def Sf5.ti : Tm := ⟨[(0, .p Z3), (1, .fn 159 [.ptr 0 0])], [.box [.fn 158 [.ptr 1 0]] 113, .box [.p Z0] 3]⟩
def Sf5.to : Tm := ⟨[(0, .p .bool)], [.box [.fn 158 [.ptr 1 0]] 113, .box [.p Z0] 3]⟩
def Sf5.rs (r : Bool × Int) : List Dat := [⟨.bool, r.1⟩, ⟨Z0, r.2⟩]
def Sf5.out (ds : List Dat) : Option (Bool × Int) := pop .bool ds fun x0 ds => pop Z0 ds fun x1 ds => popN ds (some (x0, x1))
def Sf5.c (k : Nat) (ds : List Dat) : Option (Bool × Int) := pop Z3 ds fun x0 ds => pop Z0 ds fun x1 ds => popN ds (Sf5.f k x0 x1)
def Sf5.g : Nat → List Dat → Option (Bool × Int)
 | 0, _ => none
 | k + 1, ds => Sf5.c k ds
def Sf5.env (k : Nat) : Nat → List SV → List Chunk → KT (Bool × Int) → Option (Bool × Int) := (envC 145 2 Sf4.ti Sf4.to (fun ds K => pop Z3 ds fun x0 ds => pop Z0 ds fun x1 ds => popN ds ((Sf4.f k x0 x1).bind fun r => K (Sf4.rs r))) env0)
def Sf5.tbl : List (Nat × Tm × (Nat → List Dat → Option (Bool × Int))) := []
noncomputable abbrev Sf5.R (k : Nat) := run T (Sf5.env k) Try.f72.ntmps (cutE 2 Sf5.tbl k) (finE 2 Sf5.to Sf5.out) (fnRes Try.f72) [] 100000 true
theorem Sf5.e (k : Nat) (x0 : (List (List Int))) (x1 : Int) : Sf5.f k x0 x1 = Sf5.R k ([.code Sf5.body]) (Sf5.ti.fill [⟨Z3, x0⟩, ⟨Z0, x1⟩]) := by kernel_rfl
theorem Sf5.h (k : Nat) (ds : List Dat) (r : Bool × Int) (h : Sf5.g k ds = some r) : ∃ k', k' < k ∧ Sf5.R k' ([.code Sf5.body]) (Sf5.ti.fill ds) = some r := by
  cases k with
  | zero => cases (show none = some r from h)
  | succ k =>
  replace h : Sf5.c k ds = some r := h
  unfold Sf5.c at h
  iterate 2 (obtain ⟨_, _, e, g⟩ := pop_some h; clear h; subst e; have h := g; clear g)
  obtain ⟨rfl, g⟩ := popN_some h
  exact ⟨k, Nat.lt_succ_self k, (Sf5.e k ..).symm.trans g⟩
theorem Sf5.o (ds : List Dat) (r : Bool × Int) (h : Sf5.out ds = some r) : ds = Sf5.rs r := by
  unfold Sf5.out at h
  iterate 2 (obtain ⟨_, _, e, g⟩ := pop_some h; clear h; subst e; have h := g; clear g)
  obtain ⟨rfl, g⟩ := popN_some h
  cases g
  rfl
theorem Sf5.fn : FnOk Try.prog 72 Try.f72 Sf5.body Try.f72.ntmps 2 (fnRes Try.f72) :=
  fnOk_of (by kernel_rfl) (by kernel_rfl) (by kernel_rfl) (by kernel_rfl)
theorem Sf5.con' : ∀ k ds r, Sf5.g k ds = some r → Con Try.prog 72 2 Sf5.ti Sf5.to ds (Sf5.rs r) :=
  fun_ok (T := T) T_ok mixed Sf5.fn (env := Sf5.env) (tbl := Sf5.tbl) (gOut := Sf5.out) (nin := 2) (cuts := []) (fuel := 100000) rfl (by kernel_rfl) (by kernel_rfl) (by kernel_rfl) (fun x hx => by simp [Sf5.tbl] at hx) Sf5.o Sf5.h (fun k _ => by unfold Sf5.env; exact (envC_ok (fun ds K r h => by
    iterate 2 (obtain ⟨_, _, e, g⟩ := pop_some h; clear h; subst e; have h := g; clear g)
    obtain ⟨rfl, g⟩ := popN_some h
    obtain ⟨r1, h1, h2⟩ := bind_some g
    exact ⟨_, h2, Sf4.con k _ h1⟩) env0_ok))
theorem Sf5.con (k : Nat) {x0 : (List (List Int))} {x1 : Int} (r : Bool × Int) (h : Sf5.f k x0 x1 = some r) : Con Try.prog 72 2 Sf5.ti Sf5.to [⟨Z3, x0⟩, ⟨Z0, x1⟩] (Sf5.rs r) :=
  Sf5.con' (k + 1) _ r (by show Sf5.c k _ = some r; unfold Sf5.c; simp only [pop_self, popN]; exact h)
def det_Check_4.f (k : Nat) (m0 : Int) : Option (Bool) :=
 if m0 = 0 then
  some (false)
 else
  some (!decide (m0 = 1))

noncomputable def det_Check_4.body : Code := fnBody Try.f160
def det_Check_4.ti : Tm := ⟨[(0, .p Z0)], []⟩
def det_Check_4.to : Tm := ⟨[(0, .p .bool)], []⟩
def det_Check_4.rs (r : Bool) : List Dat := [⟨.bool, r⟩]
def det_Check_4.out (ds : List Dat) : Option (Bool) := pop .bool ds fun x0 ds => popN ds (some (x0))
def det_Check_4.c (k : Nat) (ds : List Dat) : Option (Bool) := pop Z0 ds fun x0 ds => popN ds (det_Check_4.f k x0)
def det_Check_4.g : Nat → List Dat → Option (Bool)
 | 0, _ => none
 | k + 1, ds => det_Check_4.c k ds
def det_Check_4.env (k : Nat) : Nat → List SV → List Chunk → KT (Bool) → Option (Bool) := env0
def det_Check_4.tbl : List (Nat × Tm × (Nat → List Dat → Option (Bool))) := []
noncomputable abbrev det_Check_4.R (k : Nat) := run T (det_Check_4.env k) Try.f160.ntmps (cutE 0 det_Check_4.tbl k) (finE 0 det_Check_4.to det_Check_4.out) (fnRes Try.f160) [] 100000 true
theorem det_Check_4.e (k : Nat) (x0 : Int) : det_Check_4.f k x0 = det_Check_4.R k ([.code det_Check_4.body]) (det_Check_4.ti.fill [⟨Z0, x0⟩]) := by kernel_rfl
theorem det_Check_4.h (k : Nat) (ds : List Dat) (r : Bool) (h : det_Check_4.g k ds = some r) : ∃ k', k' < k ∧ det_Check_4.R k' ([.code det_Check_4.body]) (det_Check_4.ti.fill ds) = some r := by
  cases k with
  | zero => cases (show none = some r from h)
  | succ k =>
  replace h : det_Check_4.c k ds = some r := h
  unfold det_Check_4.c at h
  obtain ⟨x0, d0, rfl, h0⟩ := pop_some h
  obtain ⟨rfl, g⟩ := popN_some h0
  exact ⟨k, Nat.lt_succ_self k, (det_Check_4.e k ..).symm.trans g⟩
theorem det_Check_4.o (ds : List Dat) (r : Bool) (h : det_Check_4.out ds = some r) : ds = det_Check_4.rs r := by
  unfold det_Check_4.out at h
  obtain ⟨x0, d0, rfl, h0⟩ := pop_some h
  obtain ⟨rfl, g⟩ := popN_some h0
  cases g
  rfl
theorem det_Check_4.fn : FnOk Try.prog 160 Try.f160 det_Check_4.body Try.f160.ntmps 1 (fnRes Try.f160) :=
  fnOk_of (by kernel_rfl) (by kernel_rfl) (by kernel_rfl) (by kernel_rfl)
theorem det_Check_4.con' : ∀ k ds r, det_Check_4.g k ds = some r → Con Try.prog 160 1 det_Check_4.ti det_Check_4.to ds (det_Check_4.rs r) :=
  fun_ok (T := T) T_ok mixed det_Check_4.fn (env := det_Check_4.env) (tbl := det_Check_4.tbl) (gOut := det_Check_4.out) (nin := 0) (cuts := []) (fuel := 100000) rfl (by kernel_rfl) (by kernel_rfl) (by kernel_rfl) (fun x hx => by simp [det_Check_4.tbl] at hx) det_Check_4.o det_Check_4.h (fun k _ => by unfold det_Check_4.env; exact env0_ok)
theorem det_Check_4.con (k : Nat) {x0 : Int} (r : Bool) (h : det_Check_4.f k x0 = some r) : Con Try.prog 160 1 det_Check_4.ti det_Check_4.to [⟨Z0, x0⟩] (det_Check_4.rs r) :=
  det_Check_4.con' (k + 1) _ r (by show det_Check_4.c k _ = some r; unfold det_Check_4.c; simp only [pop_self, popN]; exact h)
mutual
def Sf6.l2 : Nat → List (Int) → Int → Int → Option (Int)
 | 0, _, _, _ => none
 | k + 1, s0, x7, x8 =>
  if x8 < x7 then
   if 0 ≤ x8 then
   if x8 < (↑s0.length : Int) then
    (det_Check_4.f k (rd (Int.ofNat 0) s0 x8)).bind fun r_5 =>
      if r_5 = true then
       some (x8)
      else
       Sf6.l2 k s0 x7 (Go.IntKind.i64.wrap (x8 + 1))
    else none
   else none
  else
   some (-1)
end
def Sf6.f (k : Nat) (s0 : List (Int)) : Option (Int) :=
 Sf6.l2 k s0 ((↑s0.length : Int)) 0

noncomputable def Sf6.body : Code := fnBody Try.f146
def Sf6.ti : Tm := ⟨[(0, .p Z1), (1, .fn 160 [])], []⟩
def Sf6.to : Tm := ⟨[(0, .p Z0)], []⟩
def Sf6.rs (r : Int) : List Dat := [⟨Z0, r⟩]
def Sf6.out (ds : List Dat) : Option (Int) := pop Z0 ds fun x0 ds => popN ds (some (x0))
def Sf6.c (k : Nat) (ds : List Dat) : Option (Int) := pop Z1 ds fun x0 ds => popN ds (Sf6.f k x0)
def Sf6.g : Nat → List Dat → Option (Int)
 | 0, _ => none
 | k + 1, ds => Sf6.c k ds
def Sf6.env (k : Nat) : Nat → List SV → List Chunk → KT (Int) → Option (Int) := (envC 160 1 det_Check_4.ti det_Check_4.to (fun ds K => pop Z0 ds fun x0 ds => popN ds ((det_Check_4.f k x0).bind fun r => K (det_Check_4.rs r))) env0)
def Sf6.t5 : Tm := ⟨[(0, .p Z1), (1, .fn 160 []), (7, .p Z0), (8, .p Z0)], []⟩
def Sf6.c5 (k : Nat) (ds : List Dat) : Option (Int) := pop Z1 ds fun x0 ds => pop Z0 ds fun x1 ds => pop Z0 ds fun x2 ds => popN ds (Sf6.l2 k x0 x1 x2)
def Sf6.tbl : List (Nat × Tm × (Nat → List Dat → Option (Int))) := [(5, Sf6.t5, Sf6.c5)]
noncomputable abbrev Sf6.R (k : Nat) := run T (Sf6.env k) Try.f146.ntmps (cutE 0 Sf6.tbl k) (finE 0 Sf6.to Sf6.out) (fnRes Try.f146) [] 100000 true
theorem Sf6.e5 (k : Nat) (x0 : (List Int)) (x1 : Int) (x2 : Int) : Sf6.l2 (k + 1) x0 x1 x2 = Sf6.R k (start (stackOf 5 Sf6.body)) (Sf6.t5.fill [⟨Z1, x0⟩, ⟨Z0, x1⟩, ⟨Z0, x2⟩]) := by kernel_rfl
theorem Sf6.s5 : stackAt 5 Sf6.body [] = some (stackOf 5 Sf6.body) := by kernel_rfl
theorem Sf6.h5 (k : Nat) (ds : List Dat) (r : Int) (h : Sf6.c5 k ds = some r) : ∃ k', k' < k ∧ ∃ s, stackAt 5 Sf6.body [] = some s ∧ Sf6.R k' (start s) (Sf6.t5.fill ds) = some r := by
  unfold Sf6.c5 at h
  iterate 3 (obtain ⟨_, _, e, g⟩ := pop_some h; clear h; subst e; have h := g; clear g)
  obtain ⟨rfl, g⟩ := popN_some h
  cases k with
  | zero => cases (show none = some r from g)
  | succ k => exact ⟨k, Nat.lt_succ_self k, _, Sf6.s5, (Sf6.e5 k ..).symm.trans g⟩
theorem Sf6.e (k : Nat) (x0 : (List Int)) : Sf6.f k x0 = Sf6.R k ([.code Sf6.body]) (Sf6.ti.fill [⟨Z1, x0⟩]) := by kernel_rfl
theorem Sf6.h (k : Nat) (ds : List Dat) (r : Int) (h : Sf6.g k ds = some r) : ∃ k', k' < k ∧ Sf6.R k' ([.code Sf6.body]) (Sf6.ti.fill ds) = some r := by
  cases k with
  | zero => cases (show none = some r from h)
  | succ k =>
  replace h : Sf6.c k ds = some r := h
  unfold Sf6.c at h
  obtain ⟨x0, d0, rfl, h0⟩ := pop_some h
  obtain ⟨rfl, g⟩ := popN_some h0
  exact ⟨k, Nat.lt_succ_self k, (Sf6.e k ..).symm.trans g⟩
theorem Sf6.o (ds : List Dat) (r : Int) (h : Sf6.out ds = some r) : ds = Sf6.rs r := by
  unfold Sf6.out at h
  obtain ⟨x0, d0, rfl, h0⟩ := pop_some h
  obtain ⟨rfl, g⟩ := popN_some h0
  cases g
  rfl
theorem Sf6.fn : FnOk Try.prog 146 Try.f146 Sf6.body Try.f146.ntmps 2 (fnRes Try.f146) :=
  fnOk_of (by kernel_rfl) (by kernel_rfl) (by kernel_rfl) (by kernel_rfl)
theorem Sf6.con' : ∀ k ds r, Sf6.g k ds = some r → Con Try.prog 146 2 Sf6.ti Sf6.to ds (Sf6.rs r) :=
  fun_ok (T := T) T_ok mixed Sf6.fn (env := Sf6.env) (tbl := Sf6.tbl) (gOut := Sf6.out) (nin := 0) (cuts := []) (fuel := 100000) rfl (by kernel_rfl) (by kernel_rfl) (by kernel_rfl) (fun x hx => by
    simp only [Sf6.tbl, List.mem_cons, List.not_mem_nil, or_false] at hx
    subst hx
    · exact Sf6.h5
) Sf6.o Sf6.h (fun k _ => by unfold Sf6.env; exact (envC_ok (fun ds K r h => by
    obtain ⟨x0, d0, rfl, h0⟩ := pop_some h
    obtain ⟨rfl, g⟩ := popN_some h0
    obtain ⟨r1, h1, h2⟩ := bind_some g
    exact ⟨_, h2, det_Check_4.con k _ h1⟩) env0_ok))
theorem Sf6.con (k : Nat) {x0 : (List Int)} (r : Int) (h : Sf6.f k x0 = some r) : Con Try.prog 146 2 Sf6.ti Sf6.to [⟨Z1, x0⟩] (Sf6.rs r) :=
  Sf6.con' (k + 1) _ r (by show Sf6.c k _ = some r; unfold Sf6.c; simp only [pop_self, popN]; exact h)
def Sf7.f (k : Nat) (s0 : List (Int)) : Option (Bool) :=
 (Sf6.f k s0).bind fun r_1 =>
  some (decide (0 ≤ r_1))

noncomputable def Sf7.body : Code := fnBody Try.f74
def Sf7.ti : Tm := ⟨[(0, .p Z1), (1, .fn 160 [])], []⟩
def Sf7.to : Tm := ⟨[(0, .p .bool)], []⟩
def Sf7.rs (r : Bool) : List Dat := [⟨.bool, r⟩]
def Sf7.out (ds : List Dat) : Option (Bool) := pop .bool ds fun x0 ds => popN ds (some (x0))
def Sf7.c (k : Nat) (ds : List Dat) : Option (Bool) := pop Z1 ds fun x0 ds => popN ds (Sf7.f k x0)
def Sf7.g : Nat → List Dat → Option (Bool)
 | 0, _ => none
 | k + 1, ds => Sf7.c k ds
def Sf7.env (k : Nat) : Nat → List SV → List Chunk → KT (Bool) → Option (Bool) := (envC 146 2 Sf6.ti Sf6.to (fun ds K => pop Z1 ds fun x0 ds => popN ds ((Sf6.f k x0).bind fun r => K (Sf6.rs r))) env0)
def Sf7.tbl : List (Nat × Tm × (Nat → List Dat → Option (Bool))) := []
noncomputable abbrev Sf7.R (k : Nat) := run T (Sf7.env k) Try.f74.ntmps (cutE 0 Sf7.tbl k) (finE 0 Sf7.to Sf7.out) (fnRes Try.f74) [] 100000 true
theorem Sf7.e (k : Nat) (x0 : (List Int)) : Sf7.f k x0 = Sf7.R k ([.code Sf7.body]) (Sf7.ti.fill [⟨Z1, x0⟩]) := by kernel_rfl
theorem Sf7.h (k : Nat) (ds : List Dat) (r : Bool) (h : Sf7.g k ds = some r) : ∃ k', k' < k ∧ Sf7.R k' ([.code Sf7.body]) (Sf7.ti.fill ds) = some r := by
  cases k with
  | zero => cases (show none = some r from h)
  | succ k =>
  replace h : Sf7.c k ds = some r := h
  unfold Sf7.c at h
  obtain ⟨x0, d0, rfl, h0⟩ := pop_some h
  obtain ⟨rfl, g⟩ := popN_some h0
  exact ⟨k, Nat.lt_succ_self k, (Sf7.e k ..).symm.trans g⟩
theorem Sf7.o (ds : List Dat) (r : Bool) (h : Sf7.out ds = some r) : ds = Sf7.rs r := by
  unfold Sf7.out at h
  obtain ⟨x0, d0, rfl, h0⟩ := pop_some h
  obtain ⟨rfl, g⟩ := popN_some h0
  cases g
  rfl
theorem Sf7.fn : FnOk Try.prog 74 Try.f74 Sf7.body Try.f74.ntmps 2 (fnRes Try.f74) :=
  fnOk_of (by kernel_rfl) (by kernel_rfl) (by kernel_rfl) (by kernel_rfl)
theorem Sf7.con' : ∀ k ds r, Sf7.g k ds = some r → Con Try.prog 74 2 Sf7.ti Sf7.to ds (Sf7.rs r) :=
  fun_ok (T := T) T_ok mixed Sf7.fn (env := Sf7.env) (tbl := Sf7.tbl) (gOut := Sf7.out) (nin := 0) (cuts := []) (fuel := 100000) rfl (by kernel_rfl) (by kernel_rfl) (by kernel_rfl) (fun x hx => by simp [Sf7.tbl] at hx) Sf7.o Sf7.h (fun k _ => by unfold Sf7.env; exact (envC_ok (fun ds K r h => by
    obtain ⟨x0, d0, rfl, h0⟩ := pop_some h
    obtain ⟨rfl, g⟩ := popN_some h0
    obtain ⟨r1, h1, h2⟩ := bind_some g
    exact ⟨_, h2, Sf6.con k _ h1⟩) env0_ok))
theorem Sf7.con (k : Nat) {x0 : (List Int)} (r : Bool) (h : Sf7.f k x0 = some r) : Con Try.prog 74 2 Sf7.ti Sf7.to [⟨Z1, x0⟩] (Sf7.rs r) :=
  Sf7.con' (k + 1) _ r (by show Sf7.c k _ = some r; unfold Sf7.c; simp only [pop_self, popN]; exact h)
def det_Check.f (k : Nat) (d0 : (Int × (Int × (List (List (Int)) × (List (Int) × Unit))))) : Option (Int) :=
 if d0.fst < 1 then
  some (2)
 else
  if 4 < d0.fst then
   some (2)
  else
   if (↑d0.snd.snd.fst.length : Int) < 1 then
    some (1)
   else
    if 3000 < (↑d0.snd.snd.fst.length : Int) then
     some (1)
    else
     if (↑d0.snd.snd.snd.fst.length : Int) = (↑d0.snd.snd.fst.length : Int) then
      (Sf1.f k d0.snd.snd.fst d0.fst d0.snd.fst d0.snd.snd.fst d0.snd.snd.snd.fst).bind fun r_6 =>
       if r_6.fst = true then
        some (3)
       else
        (det_Check_2.f k r_6.snd.snd.fst (↑d0.snd.snd.fst.length : Int)).bind fun r_8 =>
         if r_8.fst = true then
          some (2)
         else
          (Sf5.f k r_6.snd.snd.snd.fst r_8.snd).bind fun r_10 =>
           if r_10.fst = true then
            some (2)
           else
            (Sf7.f k r_6.snd.snd.snd.snd).bind fun r_12 =>
             if r_12 = true then
              some (2)
             else
              some (0)
     else
      some (3)

noncomputable def det_Check.body : Code := fnBody Try.f107
def det_Check.ti : Tm := ⟨[(0, .p Z6)], []⟩
def det_Check.to : Tm := ⟨[(0, .p Z0)], []⟩
def det_Check.rs (r : Int) : List Dat := [⟨Z0, r⟩]
def det_Check.out (ds : List Dat) : Option (Int) := pop Z0 ds fun x0 ds => popN ds (some (x0))
def det_Check.c (k : Nat) (ds : List Dat) : Option (Int) := pop Z6 ds fun x0 ds => popN ds (det_Check.f k x0)
def det_Check.g : Nat → List Dat → Option (Int)
 | 0, _ => none
 | k + 1, ds => det_Check.c k ds
def det_Check.env (k : Nat) : Nat → List SV → List Chunk → KT (Int) → Option (Int) := (envC 72 2 Sf1.ti Sf1.to (fun ds K => pop Z3 ds fun x0 ds => pop Z0 ds fun x1 ds => pop Z0 ds fun x2 ds => pop Z3 ds fun x3 ds => pop Z1 ds fun x4 ds => popN ds ((Sf1.f k x0 x1 x2 x3 x4).bind fun r => K (Sf1.rs r))) (envC 158 2 det_Check_2.ti det_Check_2.to (fun ds K => pop Z0 ds fun x0 ds => pop Z0 ds fun x1 ds => popN ds ((det_Check_2.f k x0 x1).bind fun r => K (det_Check_2.rs r))) (envC 72 2 Sf5.ti Sf5.to (fun ds K => pop Z3 ds fun x0 ds => pop Z0 ds fun x1 ds => popN ds ((Sf5.f k x0 x1).bind fun r => K (Sf5.rs r))) (envC 74 2 Sf7.ti Sf7.to (fun ds K => pop Z1 ds fun x0 ds => popN ds ((Sf7.f k x0).bind fun r => K (Sf7.rs r))) env0))))
def det_Check.tbl : List (Nat × Tm × (Nat → List Dat → Option (Int))) := []
noncomputable abbrev det_Check.R (k : Nat) := run T (det_Check.env k) Try.f107.ntmps (cutE 0 det_Check.tbl k) (finE 0 det_Check.to det_Check.out) (fnRes Try.f107) [] 100000 true
theorem det_Check.e (k : Nat) (x0 : (Int × (Int × ((List (List Int)) × ((List Int) × Unit))))) : det_Check.f k x0 = det_Check.R k ([.code det_Check.body]) (det_Check.ti.fill [⟨Z6, x0⟩]) := by kernel_rfl
theorem det_Check.h (k : Nat) (ds : List Dat) (r : Int) (h : det_Check.g k ds = some r) : ∃ k', k' < k ∧ det_Check.R k' ([.code det_Check.body]) (det_Check.ti.fill ds) = some r := by
  cases k with
  | zero => cases (show none = some r from h)
  | succ k =>
  replace h : det_Check.c k ds = some r := h
  unfold det_Check.c at h
  obtain ⟨x0, d0, rfl, h0⟩ := pop_some h
  obtain ⟨rfl, g⟩ := popN_some h0
  exact ⟨k, Nat.lt_succ_self k, (det_Check.e k ..).symm.trans g⟩
theorem det_Check.o (ds : List Dat) (r : Int) (h : det_Check.out ds = some r) : ds = det_Check.rs r := by
  unfold det_Check.out at h
  obtain ⟨x0, d0, rfl, h0⟩ := pop_some h
  obtain ⟨rfl, g⟩ := popN_some h0
  cases g
  rfl
theorem det_Check.fn : FnOk Try.prog 107 Try.f107 det_Check.body Try.f107.ntmps 1 (fnRes Try.f107) :=
  fnOk_of (by kernel_rfl) (by kernel_rfl) (by kernel_rfl) (by kernel_rfl)
theorem det_Check.con' : ∀ k ds r, det_Check.g k ds = some r → Con Try.prog 107 1 det_Check.ti det_Check.to ds (det_Check.rs r) :=
  fun_ok (T := T) T_ok mixed det_Check.fn (env := det_Check.env) (tbl := det_Check.tbl) (gOut := det_Check.out) (nin := 0) (cuts := []) (fuel := 100000) rfl (by kernel_rfl) (by kernel_rfl) (by kernel_rfl) (fun x hx => by simp [det_Check.tbl] at hx) det_Check.o det_Check.h (fun k _ => by unfold det_Check.env; exact (envC_ok (fun ds K r h => by
    iterate 5 (obtain ⟨_, _, e, g⟩ := pop_some h; clear h; subst e; have h := g; clear g)
    obtain ⟨rfl, g⟩ := popN_some h
    obtain ⟨r1, h1, h2⟩ := bind_some g
    exact ⟨_, h2, Sf1.con k _ h1⟩) (envC_ok (fun ds K r h => by
    iterate 2 (obtain ⟨_, _, e, g⟩ := pop_some h; clear h; subst e; have h := g; clear g)
    obtain ⟨rfl, g⟩ := popN_some h
    obtain ⟨r1, h1, h2⟩ := bind_some g
    exact ⟨_, h2, det_Check_2.con k _ h1⟩) (envC_ok (fun ds K r h => by
    iterate 2 (obtain ⟨_, _, e, g⟩ := pop_some h; clear h; subst e; have h := g; clear g)
    obtain ⟨rfl, g⟩ := popN_some h
    obtain ⟨r1, h1, h2⟩ := bind_some g
    exact ⟨_, h2, Sf5.con k _ h1⟩) (envC_ok (fun ds K r h => by
    obtain ⟨x0, d0, rfl, h0⟩ := pop_some h
    obtain ⟨rfl, g⟩ := popN_some h0
    obtain ⟨r1, h1, h2⟩ := bind_some g
    exact ⟨_, h2, Sf7.con k _ h1⟩) env0_ok)))))
theorem det_Check.con (k : Nat) {x0 : (Int × (Int × ((List (List Int)) × ((List Int) × Unit))))} (r : Int) (h : det_Check.f k x0 = some r) : Con Try.prog 107 1 det_Check.ti det_Check.to [⟨Z6, x0⟩] (det_Check.rs r) :=
  det_Check.con' (k + 1) _ r (by show det_Check.c k _ = some r; unfold det_Check.c; simp only [pop_self, popN]; exact h)
def Sf8.f (k : Nat) (x0 : List (Int)) : Option (List (Int)) := if Short x0.length then some x0 else none
def Sf8.ti : Tm := cloneIn Z0
def Sf8.to : Tm := cloneOut Z0
def Sf8.rs (r : List Int) : List Dat := [⟨.slice Z0, r⟩]
theorem Sf8.fn : FnOk Try.prog 81 Try.f81 (fnBody Try.f81) Try.f81.ntmps 1 (fnRes Try.f81) :=
  fnOk_of (by kernel_rfl) (by kernel_rfl) (by kernel_rfl) (by kernel_rfl)
theorem Sf8.con (k : Nat) {x0 : List Int} (r : List Int) (h : Sf8.f k x0 = some r) : Con Try.prog 81 1 Sf8.ti Sf8.to [⟨.slice Z0, x0⟩] (Sf8.rs r) := by
  unfold Sf8.f at h
  split at h
  · rename_i hs
    cases h
    exact clone_con (by_ := elemB T 23) (u := Z0) (t := 23) (t' := 23) (k := restOf (stackOf 2 (fnBody Try.f81))) (ops := opsAt 1 (fnBody Try.f81)) (o1 := opAt 0 (opsAt 1 (fnBody Try.f81))) (o2 := opAt 1 (opsAt 1 (fnBody Try.f81))) T_ok mixed Sf8.fn (by kernel_rfl) ⟨by kernel_rfl, by kernel_rfl, by kernel_rfl, by kernel_rfl, by kernel_rfl, by kernel_rfl, by kernel_rfl, ⟨3, by kernel_rfl⟩⟩ (Nat.le_of_ble_eq_true (by kernel_rfl)) (by kernel_rfl) (by kernel_rfl) (fun L => by kernel_rfl) (by kernel_rfl) (fun L => by kernel_rfl) (by kernel_rfl) x0 hs
  · cases h
mutual
def det_Classes.l3 : Nat → Int → Int → Int → List (List (Int)) → List (Int) → List (Int) → Option (List Int)
 | 0, _, _, _, _, _, _ => none
 | k + 1, count4, d1_0, d1_1, d1_2, d1_3, class3 =>
  if 0 ≤ (↑class3.length : Int) then
  if (↑class3.length : Int) ≤ (↑class3.length : Int) then
   if (↑class3.length : Int) * ((↑8 : Int) + 1) ≤ 281474976710656 then
    det_Classes.l6 k count4 d1_2 ((↑d1_2.length : Int)) 0 d1_0 d1_1 d1_2 d1_3 class3 [] (List.replicate (↑class3.length : Int).toNat (Int.ofNat 0))
    else none
   else none
  else none
def det_Classes.l6 : Nat → Int → List (List (Int)) → Int → Int → Int → Int → List (List (Int)) → List (Int) → List (Int) → List (((Int × (ByteArray × Unit)) × Int)) → List (Int) → Option (List Int)
 | 0, _, _, _, _, _, _, _, _, _, _, _ => none
 | k + 1, count4, x23, x24, x25, d1_0, d1_1, d1_2, d1_3, class3, number5, next6 =>
  if x25 < x24 then
   if 0 ≤ x25 then
   if x25 < (↑x23.length : Int) then
    det_Classes.l10 k count4 x25 x23 x24 x25 (rd [] x23 x25) ((↑(rd [] x23 x25).length : Int)) 0 d1_0 d1_1 d1_2 d1_3 class3 number5 next6 []
    else none
   else none
  else
   if (↑number5.length : Int) = count4 then
    some (next6)
   else
    det_Classes.l3 k ((↑number5.length : Int)) d1_0 d1_1 d1_2 d1_3 next6
def det_Classes.l10 : Nat → Int → Int → List (List (Int)) → Int → Int → List (Int) → Int → Int → Int → Int → List (List (Int)) → List (Int) → List (Int) → List (((Int × (ByteArray × Unit)) × Int)) → List (Int) → List (Int) → Option (List Int)
 | 0, _, _, _, _, _, _, _, _, _, _, _, _, _, _, _, _ => none
 | k + 1, count4, q7, x23, x24, x25, x30, x31, x32, d1_0, d1_1, d1_2, d1_3, class3, number5, next6, b9 =>
  if x32 < x31 then
   if 0 ≤ x32 then
   if x32 < (↑x30.length : Int) then
    if 0 ≤ rd (Int.ofNat 0) x30 x32 then
     if rd (Int.ofNat 0) x30 x32 < (↑class3.length : Int) then
      if 0 ≤ rd (Int.ofNat 0) x30 x32 then
       if rd (Int.ofNat 0) x30 x32 < (↑class3.length : Int) then
        if 0 ≤ 8 then
         if fitsIn (b9 ++ [Go.IntKind.u8.wrap (class3.getD (rd (Int.ofNat 0) x30 x32).toNat (Int.ofNat 0)), Go.IntKind.u8.wrap ((class3.getD (rd (Int.ofNat 0) x30 x32).toNat (Int.ofNat 0)).fdiv (2 ^ min (Int.toNat 8) Go.IntKind.i64.bits))]).length 1 = true then
          det_Classes.l10 k count4 q7 x23 x24 x25 x30 x31 (Go.IntKind.i64.wrap (x32 + 1)) d1_0 d1_1 d1_2 d1_3 class3 number5 next6 (b9 ++ [Go.IntKind.u8.wrap (class3.getD (rd (Int.ofNat 0) x30 x32).toNat (Int.ofNat 0)), Go.IntKind.u8.wrap ((class3.getD (rd (Int.ofNat 0) x30 x32).toNat (Int.ofNat 0)).fdiv (2 ^ min (Int.toNat 8) Go.IntKind.i64.bits))])
          else none
         else none
        else none
       else none
      else none
     else none
    else none
   else none
  else
   if 0 ≤ q7 then
   if q7 < (↑class3.length : Int) then
    if mhas ((Go.Proofs.YtfkilmmldjajmaaSx.Ty.int Go.IntKind.i64).pair (Go.Proofs.YtfkilmmldjajmaaSx.Ty.str.pair Go.Proofs.YtfkilmmldjajmaaSx.Ty.unit)) (Go.Proofs.YtfkilmmldjajmaaSx.Ty.int Go.IntKind.i64) number5 (class3.getD q7.toNat (Int.ofNat 0), strOf b9, ()) = true then
      det_Classes.j18 k count4 q7 x23 x24 x25 d1_0 d1_1 d1_2 d1_3 class3 number5 next6 (class3.getD q7.toNat (Int.ofNat 0)) (strOf b9)
     else
      det_Classes.j18 k count4 q7 x23 x24 x25 d1_0 d1_1 d1_2 d1_3 class3 (mput ((Go.Proofs.YtfkilmmldjajmaaSx.Ty.int Go.IntKind.i64).pair (Go.Proofs.YtfkilmmldjajmaaSx.Ty.str.pair Go.Proofs.YtfkilmmldjajmaaSx.Ty.unit)) (Go.Proofs.YtfkilmmldjajmaaSx.Ty.int Go.IntKind.i64) number5 (class3.getD q7.toNat (Int.ofNat 0), strOf b9, ()) (↑number5.length : Int)) next6 (class3.getD q7.toNat (Int.ofNat 0)) (strOf b9)
    else none
   else none
def det_Classes.j18 : Nat → Int → Int → List (List (Int)) → Int → Int → Int → Int → List (List (Int)) → List (Int) → List (Int) → List (((Int × (ByteArray × Unit)) × Int)) → List (Int) → Int → ByteArray → Option (List Int)
 | 0, _, _, _, _, _, _, _, _, _, _, _, _, _, _ => none
 | k + 1, count4, q7, x23, x24, x25, d1_0, d1_1, d1_2, d1_3, class3, number5, next6, k12_0, k12_1 =>
  if 0 ≤ q7 then
  if q7 < (↑next6.length : Int) then
   det_Classes.l6 k count4 x23 x24 (Go.IntKind.i64.wrap (x25 + 1)) d1_0 d1_1 d1_2 d1_3 class3 number5 (next6.set q7.toNat (mget ((Go.Proofs.YtfkilmmldjajmaaSx.Ty.int Go.IntKind.i64).pair (Go.Proofs.YtfkilmmldjajmaaSx.Ty.str.pair Go.Proofs.YtfkilmmldjajmaaSx.Ty.unit)) (Go.Proofs.YtfkilmmldjajmaaSx.Ty.int Go.IntKind.i64) number5 (k12_0, k12_1, ())))
   else none
  else none
end
def det_Classes.f (k : Nat) (d0 : (Int × (Int × (List (List (Int)) × (List (Int) × Unit))))) : Option (List Int) :=
 (Sf8.f k d0.snd.snd.snd.fst).bind fun r_1 =>
  det_Classes.l3 k 0 d0.fst d0.snd.fst d0.snd.snd.fst d0.snd.snd.snd.fst r_1

noncomputable def det_Classes.body : Code := fnBody Try.f161
def det_Classes.ti : Tm := ⟨[(0, .p Z6)], []⟩
def det_Classes.to : Tm := ⟨[(0, .own 0)], [.own Z0]⟩
def det_Classes.rs (r : (List Int)) : List Dat := [⟨Z1, r⟩]
def det_Classes.out (ds : List Dat) : Option ((List Int)) := pop Z1 ds fun x0 ds => popN ds (some (x0))
def det_Classes.c (k : Nat) (ds : List Dat) : Option ((List Int)) := pop Z6 ds fun x0 ds => popN ds (det_Classes.f k x0)
def det_Classes.g : Nat → List Dat → Option ((List Int))
 | 0, _ => none
 | k + 1, ds => det_Classes.c k ds
def det_Classes.env (k : Nat) : Nat → List SV → List Chunk → KT ((List Int)) → Option ((List Int)) := (envC 81 1 Sf8.ti Sf8.to (fun ds K => pop Z1 ds fun x0 ds => popN ds ((Sf8.f k x0).bind fun r => K (Sf8.rs r))) env0)
def det_Classes.t7 : Tm := ⟨[(1, .ptr 0 0), (3, .own 1), (4, .p Z0)], [.box [.p Z0, .p Z0, .p Z3, .p Z1] 60, .own Z0]⟩
def det_Classes.c7 (k : Nat) (ds : List Dat) : Option ((List Int)) := pop Z0 ds fun x0 ds => pop Z0 ds fun x1 ds => pop Z0 ds fun x2 ds => pop Z3 ds fun x3 ds => pop Z1 ds fun x4 ds => pop Z1 ds fun x5 ds => popN ds (det_Classes.l3 k x0 x1 x2 x3 x4 x5)
def det_Classes.t13 : Tm := ⟨[(1, .ptr 0 0), (3, .own 1), (4, .p Z0), (5, .map 2), (6, .own 3), (23, .p Z3), (24, .p Z0), (25, .p Z0)], [.box [.p Z0, .p Z0, .p Z3, .p Z1] 60, .own Z0, .map (.pair Z0 (.pair .str .unit)) Z0, .own Z0]⟩
def det_Classes.c13 (k : Nat) (ds : List Dat) : Option ((List Int)) := pop Z0 ds fun x0 ds => pop Z3 ds fun x1 ds => pop Z0 ds fun x2 ds => pop Z0 ds fun x3 ds => pop Z0 ds fun x4 ds => pop Z0 ds fun x5 ds => pop Z3 ds fun x6 ds => pop Z1 ds fun x7 ds => pop Z1 ds fun x8 ds => pop (.slice (.pair (.pair Z0 (.pair .str .unit)) Z0)) ds fun x9 ds => pop Z1 ds fun x10 ds => popN ds (det_Classes.l6 k x0 x1 x2 x3 x4 x5 x6 x7 x8 x9 x10)
def det_Classes.t21 : Tm := ⟨[(1, .ptr 0 0), (3, .own 1), (4, .p Z0), (5, .map 2), (6, .own 3), (7, .p Z0), (9, .own 4), (23, .p Z3), (24, .p Z0), (25, .p Z0), (30, .p Z1), (31, .p Z0), (32, .p Z0)], [.box [.p Z0, .p Z0, .p Z3, .p Z1] 60, .own Z0, .map (.pair Z0 (.pair .str .unit)) Z0, .own Z0, .own (.int .u8)]⟩
def det_Classes.c21 (k : Nat) (ds : List Dat) : Option ((List Int)) := pop Z0 ds fun x0 ds => pop Z0 ds fun x1 ds => pop Z3 ds fun x2 ds => pop Z0 ds fun x3 ds => pop Z0 ds fun x4 ds => pop Z1 ds fun x5 ds => pop Z0 ds fun x6 ds => pop Z0 ds fun x7 ds => pop Z0 ds fun x8 ds => pop Z0 ds fun x9 ds => pop Z3 ds fun x10 ds => pop Z1 ds fun x11 ds => pop Z1 ds fun x12 ds => pop (.slice (.pair (.pair Z0 (.pair .str .unit)) Z0)) ds fun x13 ds => pop Z1 ds fun x14 ds => pop (.slice (.int .u8)) ds fun x15 ds => popN ds (det_Classes.l10 k x0 x1 x2 x3 x4 x5 x6 x7 x8 x9 x10 x11 x12 x13 x14 x15)
def det_Classes.t36 : Tm := ⟨[(1, .ptr 0 0), (3, .own 1), (4, .p Z0), (5, .map 2), (6, .own 3), (7, .p Z0), (12, .ptr 4 0), (23, .p Z3), (24, .p Z0), (25, .p Z0)], [.box [.p Z0, .p Z0, .p Z3, .p Z1] 60, .own Z0, .map (.pair Z0 (.pair .str .unit)) Z0, .own Z0, .box [.p Z0, .p .str] 220]⟩
def det_Classes.c36 (k : Nat) (ds : List Dat) : Option ((List Int)) := pop Z0 ds fun x0 ds => pop Z0 ds fun x1 ds => pop Z3 ds fun x2 ds => pop Z0 ds fun x3 ds => pop Z0 ds fun x4 ds => pop Z0 ds fun x5 ds => pop Z0 ds fun x6 ds => pop Z3 ds fun x7 ds => pop Z1 ds fun x8 ds => pop Z1 ds fun x9 ds => pop (.slice (.pair (.pair Z0 (.pair .str .unit)) Z0)) ds fun x10 ds => pop Z1 ds fun x11 ds => pop Z0 ds fun x12 ds => pop .str ds fun x13 ds => popN ds (det_Classes.j18 k x0 x1 x2 x3 x4 x5 x6 x7 x8 x9 x10 x11 x12 x13)
def det_Classes.tbl : List (Nat × Tm × (Nat → List Dat → Option ((List Int)))) := [(7, det_Classes.t7, det_Classes.c7), (13, det_Classes.t13, det_Classes.c13), (21, det_Classes.t21, det_Classes.c21), (36, det_Classes.t36, det_Classes.c36)]
noncomputable abbrev det_Classes.R (k : Nat) := run T (det_Classes.env k) Try.f161.ntmps (cutE 0 det_Classes.tbl k) (finE 0 det_Classes.to det_Classes.out) (fnRes Try.f161) [18] 100000 true
theorem det_Classes.e7 (k : Nat) (x0 : Int) (x1 : Int) (x2 : Int) (x3 : (List (List Int))) (x4 : (List Int)) (x5 : (List Int)) : det_Classes.l3 (k + 1) x0 x1 x2 x3 x4 x5 = det_Classes.R k (start (stackOf 7 det_Classes.body)) (det_Classes.t7.fill [⟨Z0, x0⟩, ⟨Z0, x1⟩, ⟨Z0, x2⟩, ⟨Z3, x3⟩, ⟨Z1, x4⟩, ⟨Z1, x5⟩]) := by kernel_rfl
theorem det_Classes.s7 : stackAt 7 det_Classes.body [] = some (stackOf 7 det_Classes.body) := by kernel_rfl
theorem det_Classes.h7 (k : Nat) (ds : List Dat) (r : (List Int)) (h : det_Classes.c7 k ds = some r) : ∃ k', k' < k ∧ ∃ s, stackAt 7 det_Classes.body [] = some s ∧ det_Classes.R k' (start s) (det_Classes.t7.fill ds) = some r := by
  unfold det_Classes.c7 at h
  iterate 6 (obtain ⟨_, _, e, g⟩ := pop_some h; clear h; subst e; have h := g; clear g)
  obtain ⟨rfl, g⟩ := popN_some h
  cases k with
  | zero => cases (show none = some r from g)
  | succ k => exact ⟨k, Nat.lt_succ_self k, _, det_Classes.s7, (det_Classes.e7 k ..).symm.trans g⟩
theorem det_Classes.e13 (k : Nat) (x0 : Int) (x1 : (List (List Int))) (x2 : Int) (x3 : Int) (x4 : Int) (x5 : Int) (x6 : (List (List Int))) (x7 : (List Int)) (x8 : (List Int)) (x9 : (List ((Int × (ByteArray × Unit)) × Int))) (x10 : (List Int)) : det_Classes.l6 (k + 1) x0 x1 x2 x3 x4 x5 x6 x7 x8 x9 x10 = det_Classes.R k (start (stackOf 13 det_Classes.body)) (det_Classes.t13.fill [⟨Z0, x0⟩, ⟨Z3, x1⟩, ⟨Z0, x2⟩, ⟨Z0, x3⟩, ⟨Z0, x4⟩, ⟨Z0, x5⟩, ⟨Z3, x6⟩, ⟨Z1, x7⟩, ⟨Z1, x8⟩, ⟨(.slice (.pair (.pair Z0 (.pair .str .unit)) Z0)), x9⟩, ⟨Z1, x10⟩]) := by kernel_rfl
theorem det_Classes.s13 : stackAt 13 det_Classes.body [] = some (stackOf 13 det_Classes.body) := by kernel_rfl
theorem det_Classes.h13 (k : Nat) (ds : List Dat) (r : (List Int)) (h : det_Classes.c13 k ds = some r) : ∃ k', k' < k ∧ ∃ s, stackAt 13 det_Classes.body [] = some s ∧ det_Classes.R k' (start s) (det_Classes.t13.fill ds) = some r := by
  unfold det_Classes.c13 at h
  iterate 11 (obtain ⟨_, _, e, g⟩ := pop_some h; clear h; subst e; have h := g; clear g)
  obtain ⟨rfl, g⟩ := popN_some h
  cases k with
  | zero => cases (show none = some r from g)
  | succ k => exact ⟨k, Nat.lt_succ_self k, _, det_Classes.s13, (det_Classes.e13 k ..).symm.trans g⟩
theorem det_Classes.e21 (k : Nat) (x0 : Int) (x1 : Int) (x2 : (List (List Int))) (x3 : Int) (x4 : Int) (x5 : (List Int)) (x6 : Int) (x7 : Int) (x8 : Int) (x9 : Int) (x10 : (List (List Int))) (x11 : (List Int)) (x12 : (List Int)) (x13 : (List ((Int × (ByteArray × Unit)) × Int))) (x14 : (List Int)) (x15 : (List Int)) : det_Classes.l10 (k + 1) x0 x1 x2 x3 x4 x5 x6 x7 x8 x9 x10 x11 x12 x13 x14 x15 = det_Classes.R k (start (stackOf 21 det_Classes.body)) (det_Classes.t21.fill [⟨Z0, x0⟩, ⟨Z0, x1⟩, ⟨Z3, x2⟩, ⟨Z0, x3⟩, ⟨Z0, x4⟩, ⟨Z1, x5⟩, ⟨Z0, x6⟩, ⟨Z0, x7⟩, ⟨Z0, x8⟩, ⟨Z0, x9⟩, ⟨Z3, x10⟩, ⟨Z1, x11⟩, ⟨Z1, x12⟩, ⟨(.slice (.pair (.pair Z0 (.pair .str .unit)) Z0)), x13⟩, ⟨Z1, x14⟩, ⟨(.slice (.int .u8)), x15⟩]) := by kernel_rfl
theorem det_Classes.s21 : stackAt 21 det_Classes.body [] = some (stackOf 21 det_Classes.body) := by kernel_rfl
theorem det_Classes.h21 (k : Nat) (ds : List Dat) (r : (List Int)) (h : det_Classes.c21 k ds = some r) : ∃ k', k' < k ∧ ∃ s, stackAt 21 det_Classes.body [] = some s ∧ det_Classes.R k' (start s) (det_Classes.t21.fill ds) = some r := by
  unfold det_Classes.c21 at h
  iterate 16 (obtain ⟨_, _, e, g⟩ := pop_some h; clear h; subst e; have h := g; clear g)
  obtain ⟨rfl, g⟩ := popN_some h
  cases k with
  | zero => cases (show none = some r from g)
  | succ k => exact ⟨k, Nat.lt_succ_self k, _, det_Classes.s21, (det_Classes.e21 k ..).symm.trans g⟩
theorem det_Classes.e36 (k : Nat) (x0 : Int) (x1 : Int) (x2 : (List (List Int))) (x3 : Int) (x4 : Int) (x5 : Int) (x6 : Int) (x7 : (List (List Int))) (x8 : (List Int)) (x9 : (List Int)) (x10 : (List ((Int × (ByteArray × Unit)) × Int))) (x11 : (List Int)) (x12 : Int) (x13 : ByteArray) : det_Classes.j18 (k + 1) x0 x1 x2 x3 x4 x5 x6 x7 x8 x9 x10 x11 x12 x13 = det_Classes.R k (start (stackOf 36 det_Classes.body)) (det_Classes.t36.fill [⟨Z0, x0⟩, ⟨Z0, x1⟩, ⟨Z3, x2⟩, ⟨Z0, x3⟩, ⟨Z0, x4⟩, ⟨Z0, x5⟩, ⟨Z0, x6⟩, ⟨Z3, x7⟩, ⟨Z1, x8⟩, ⟨Z1, x9⟩, ⟨(.slice (.pair (.pair Z0 (.pair .str .unit)) Z0)), x10⟩, ⟨Z1, x11⟩, ⟨Z0, x12⟩, ⟨.str, x13⟩]) := by kernel_rfl
theorem det_Classes.s36 : stackAt 36 det_Classes.body [] = some (stackOf 36 det_Classes.body) := by kernel_rfl
theorem det_Classes.h36 (k : Nat) (ds : List Dat) (r : (List Int)) (h : det_Classes.c36 k ds = some r) : ∃ k', k' < k ∧ ∃ s, stackAt 36 det_Classes.body [] = some s ∧ det_Classes.R k' (start s) (det_Classes.t36.fill ds) = some r := by
  unfold det_Classes.c36 at h
  iterate 14 (obtain ⟨_, _, e, g⟩ := pop_some h; clear h; subst e; have h := g; clear g)
  obtain ⟨rfl, g⟩ := popN_some h
  cases k with
  | zero => cases (show none = some r from g)
  | succ k => exact ⟨k, Nat.lt_succ_self k, _, det_Classes.s36, (det_Classes.e36 k ..).symm.trans g⟩
theorem det_Classes.e (k : Nat) (x0 : (Int × (Int × ((List (List Int)) × ((List Int) × Unit))))) : det_Classes.f k x0 = det_Classes.R k ([.code det_Classes.body]) (det_Classes.ti.fill [⟨Z6, x0⟩]) := by kernel_rfl
theorem det_Classes.h (k : Nat) (ds : List Dat) (r : (List Int)) (h : det_Classes.g k ds = some r) : ∃ k', k' < k ∧ det_Classes.R k' ([.code det_Classes.body]) (det_Classes.ti.fill ds) = some r := by
  cases k with
  | zero => cases (show none = some r from h)
  | succ k =>
  replace h : det_Classes.c k ds = some r := h
  unfold det_Classes.c at h
  obtain ⟨x0, d0, rfl, h0⟩ := pop_some h
  obtain ⟨rfl, g⟩ := popN_some h0
  exact ⟨k, Nat.lt_succ_self k, (det_Classes.e k ..).symm.trans g⟩
theorem det_Classes.o (ds : List Dat) (r : (List Int)) (h : det_Classes.out ds = some r) : ds = det_Classes.rs r := by
  unfold det_Classes.out at h
  obtain ⟨x0, d0, rfl, h0⟩ := pop_some h
  obtain ⟨rfl, g⟩ := popN_some h0
  cases g
  rfl
theorem det_Classes.fn : FnOk Try.prog 161 Try.f161 det_Classes.body Try.f161.ntmps 1 (fnRes Try.f161) :=
  fnOk_of (by kernel_rfl) (by kernel_rfl) (by kernel_rfl) (by kernel_rfl)
theorem det_Classes.con' : ∀ k ds r, det_Classes.g k ds = some r → Con Try.prog 161 1 det_Classes.ti det_Classes.to ds (det_Classes.rs r) :=
  fun_ok (T := T) T_ok mixed det_Classes.fn (env := det_Classes.env) (tbl := det_Classes.tbl) (gOut := det_Classes.out) (nin := 0) (cuts := [18]) (fuel := 100000) rfl (by kernel_rfl) (by kernel_rfl) (by kernel_rfl) (fun x hx => by
    simp only [det_Classes.tbl, List.mem_cons, List.not_mem_nil, or_false] at hx
    rcases hx with rfl | rfl | rfl | rfl
    · exact det_Classes.h7
    · exact det_Classes.h13
    · exact det_Classes.h21
    · exact det_Classes.h36
) det_Classes.o det_Classes.h (fun k _ => by unfold det_Classes.env; exact (envC_ok (fun ds K r h => by
    obtain ⟨x0, d0, rfl, h0⟩ := pop_some h
    obtain ⟨rfl, g⟩ := popN_some h0
    obtain ⟨r1, h1, h2⟩ := bind_some g
    exact ⟨_, h2, Sf8.con k _ h1⟩) env0_ok))
theorem det_Classes.con (k : Nat) {x0 : (Int × (Int × ((List (List Int)) × ((List Int) × Unit))))} (r : (List Int)) (h : det_Classes.f k x0 = some r) : Con Try.prog 161 1 det_Classes.ti det_Classes.to [⟨Z6, x0⟩] (det_Classes.rs r) :=
  det_Classes.con' (k + 1) _ r (by show det_Classes.c k _ = some r; unfold det_Classes.c; simp only [pop_self, popN]; exact h)
def det_Smallest_1.f (k : Nat) (c0 : Int) (a1 : Int) (x3_0 : Int) (x3_1 : Int) (x3_2 : List (List (Int))) (x3_3 : List (Int)) (c_3 : List (Int)) (c_4 : List (Int)) : Option (Int × Int × Int × List (List Int) × List Int × List Int × List Int) :=
 if 0 ≤ c0 then
 if c0 < (↑c_4.length : Int) then
  if 0 ≤ c_4.getD c0.toNat (Int.ofNat 0) then
   if c_4.getD c0.toNat (Int.ofNat 0) < (↑x3_2.length : Int) then
    if 0 ≤ a1 then
     if a1 < (↑(rd [] x3_2 (c_4.getD c0.toNat (Int.ofNat 0))).length : Int) then
      if 0 ≤ rd (Int.ofNat 0) (rd [] x3_2 (c_4.getD c0.toNat (Int.ofNat 0))) a1 then
       if rd (Int.ofNat 0) (rd [] x3_2 (c_4.getD c0.toNat (Int.ofNat 0))) a1 < (↑c_3.length : Int) then
        some (c_3.getD (rd (Int.ofNat 0) (rd [] x3_2 (c_4.getD c0.toNat (Int.ofNat 0))) a1).toNat (Int.ofNat 0), x3_0, x3_1, x3_2, x3_3, c_3, c_4)
        else none
       else none
      else none
     else none
    else none
   else none
  else none
 else none

noncomputable def det_Smallest_1.body : Code := fnBody Try.f162
def det_Smallest_1.ti : Tm := ⟨[(0, .p Z0), (1, .p Z0), (2, .ptr 0 0), (3, .ptr 1 0), (4, .ptr 2 0)], [.box [.own 3] 23, .box [.p Z0, .p Z0, .p Z3, .p Z1] 60, .box [.own 4] 23, .own Z0, .own Z0]⟩
def det_Smallest_1.to : Tm := ⟨[(0, .p Z0)], [.box [.own 3] 23, .box [.p Z0, .p Z0, .p Z3, .p Z1] 60, .box [.own 4] 23, .own Z0, .own Z0]⟩
def det_Smallest_1.rs (r : Int × Int × Int × (List (List Int)) × (List Int) × (List Int) × (List Int)) : List Dat := [⟨Z0, r.1⟩, ⟨Z0, r.2.1⟩, ⟨Z0, r.2.2.1⟩, ⟨Z3, r.2.2.2.1⟩, ⟨Z1, r.2.2.2.2.1⟩, ⟨Z1, r.2.2.2.2.2.1⟩, ⟨Z1, r.2.2.2.2.2.2⟩]
def det_Smallest_1.out (ds : List Dat) : Option (Int × Int × Int × (List (List Int)) × (List Int) × (List Int) × (List Int)) := pop Z0 ds fun x0 ds => pop Z0 ds fun x1 ds => pop Z0 ds fun x2 ds => pop Z3 ds fun x3 ds => pop Z1 ds fun x4 ds => pop Z1 ds fun x5 ds => pop Z1 ds fun x6 ds => popN ds (some (x0, x1, x2, x3, x4, x5, x6))
def det_Smallest_1.c (k : Nat) (ds : List Dat) : Option (Int × Int × Int × (List (List Int)) × (List Int) × (List Int) × (List Int)) := pop Z0 ds fun x0 ds => pop Z0 ds fun x1 ds => pop Z0 ds fun x2 ds => pop Z0 ds fun x3 ds => pop Z3 ds fun x4 ds => pop Z1 ds fun x5 ds => pop Z1 ds fun x6 ds => pop Z1 ds fun x7 ds => popN ds (det_Smallest_1.f k x0 x1 x2 x3 x4 x5 x6 x7)
def det_Smallest_1.g : Nat → List Dat → Option (Int × Int × Int × (List (List Int)) × (List Int) × (List Int) × (List Int))
 | 0, _ => none
 | k + 1, ds => det_Smallest_1.c k ds
def det_Smallest_1.env (k : Nat) : Nat → List SV → List Chunk → KT (Int × Int × Int × (List (List Int)) × (List Int) × (List Int) × (List Int)) → Option (Int × Int × Int × (List (List Int)) × (List Int) × (List Int) × (List Int)) := env0
def det_Smallest_1.tbl : List (Nat × Tm × (Nat → List Dat → Option (Int × Int × Int × (List (List Int)) × (List Int) × (List Int) × (List Int)))) := []
noncomputable abbrev det_Smallest_1.R (k : Nat) := run T (det_Smallest_1.env k) Try.f162.ntmps (cutE 5 det_Smallest_1.tbl k) (finE 5 det_Smallest_1.to det_Smallest_1.out) (fnRes Try.f162) [] 100000 true
theorem det_Smallest_1.e (k : Nat) (x0 : Int) (x1 : Int) (x2 : Int) (x3 : Int) (x4 : (List (List Int))) (x5 : (List Int)) (x6 : (List Int)) (x7 : (List Int)) : det_Smallest_1.f k x0 x1 x2 x3 x4 x5 x6 x7 = det_Smallest_1.R k ([.code det_Smallest_1.body]) (det_Smallest_1.ti.fill [⟨Z0, x0⟩, ⟨Z0, x1⟩, ⟨Z0, x2⟩, ⟨Z0, x3⟩, ⟨Z3, x4⟩, ⟨Z1, x5⟩, ⟨Z1, x6⟩, ⟨Z1, x7⟩]) := by kernel_rfl
theorem det_Smallest_1.h (k : Nat) (ds : List Dat) (r : Int × Int × Int × (List (List Int)) × (List Int) × (List Int) × (List Int)) (h : det_Smallest_1.g k ds = some r) : ∃ k', k' < k ∧ det_Smallest_1.R k' ([.code det_Smallest_1.body]) (det_Smallest_1.ti.fill ds) = some r := by
  cases k with
  | zero => cases (show none = some r from h)
  | succ k =>
  replace h : det_Smallest_1.c k ds = some r := h
  unfold det_Smallest_1.c at h
  iterate 8 (obtain ⟨_, _, e, g⟩ := pop_some h; clear h; subst e; have h := g; clear g)
  obtain ⟨rfl, g⟩ := popN_some h
  exact ⟨k, Nat.lt_succ_self k, (det_Smallest_1.e k ..).symm.trans g⟩
theorem det_Smallest_1.o (ds : List Dat) (r : Int × Int × Int × (List (List Int)) × (List Int) × (List Int) × (List Int)) (h : det_Smallest_1.out ds = some r) : ds = det_Smallest_1.rs r := by
  unfold det_Smallest_1.out at h
  iterate 7 (obtain ⟨_, _, e, g⟩ := pop_some h; clear h; subst e; have h := g; clear g)
  obtain ⟨rfl, g⟩ := popN_some h
  cases g
  rfl
theorem det_Smallest_1.fn : FnOk Try.prog 162 Try.f162 det_Smallest_1.body Try.f162.ntmps 5 (fnRes Try.f162) :=
  fnOk_of (by kernel_rfl) (by kernel_rfl) (by kernel_rfl) (by kernel_rfl)
theorem det_Smallest_1.con' : ∀ k ds r, det_Smallest_1.g k ds = some r → Con Try.prog 162 5 det_Smallest_1.ti det_Smallest_1.to ds (det_Smallest_1.rs r) :=
  fun_ok (T := T) T_ok mixed det_Smallest_1.fn (env := det_Smallest_1.env) (tbl := det_Smallest_1.tbl) (gOut := det_Smallest_1.out) (nin := 5) (cuts := []) (fuel := 100000) rfl (by kernel_rfl) (by kernel_rfl) (by kernel_rfl) (fun x hx => by simp [det_Smallest_1.tbl] at hx) det_Smallest_1.o det_Smallest_1.h (fun k _ => by unfold det_Smallest_1.env; exact env0_ok)
theorem det_Smallest_1.con (k : Nat) {x0 : Int} {x1 : Int} {x2 : Int} {x3 : Int} {x4 : (List (List Int))} {x5 : (List Int)} {x6 : (List Int)} {x7 : (List Int)} (r : Int × Int × Int × (List (List Int)) × (List Int) × (List Int) × (List Int)) (h : det_Smallest_1.f k x0 x1 x2 x3 x4 x5 x6 x7 = some r) : Con Try.prog 162 5 det_Smallest_1.ti det_Smallest_1.to [⟨Z0, x0⟩, ⟨Z0, x1⟩, ⟨Z0, x2⟩, ⟨Z0, x3⟩, ⟨Z3, x4⟩, ⟨Z1, x5⟩, ⟨Z1, x6⟩, ⟨Z1, x7⟩] (det_Smallest_1.rs r) :=
  det_Smallest_1.con' (k + 1) _ r (by show det_Smallest_1.c k _ = some r; unfold det_Smallest_1.c; simp only [pop_self, popN]; exact h)
def det_Smallest_2.f (k : Nat) (c0 : Int) (x1_0 : Int) (x1_1 : Int) (x1_2 : List (List (Int))) (x1_3 : List (Int)) (c_2 : List (Int)) : Option (Int × Int × Int × List (List Int) × List Int × List Int) :=
 if 0 ≤ c0 then
 if c0 < (↑c_2.length : Int) then
  if 0 ≤ c_2.getD c0.toNat (Int.ofNat 0) then
   if c_2.getD c0.toNat (Int.ofNat 0) < (↑x1_3.length : Int) then
    some (rd (Int.ofNat 0) x1_3 (c_2.getD c0.toNat (Int.ofNat 0)), x1_0, x1_1, x1_2, x1_3, c_2)
    else none
   else none
  else none
 else none

noncomputable def det_Smallest_2.body : Code := fnBody Try.f163
def det_Smallest_2.ti : Tm := ⟨[(0, .p Z0), (1, .ptr 0 0), (2, .ptr 1 0)], [.box [.p Z0, .p Z0, .p Z3, .p Z1] 60, .box [.own 2] 23, .own Z0]⟩
def det_Smallest_2.to : Tm := ⟨[(0, .p Z0)], [.box [.p Z0, .p Z0, .p Z3, .p Z1] 60, .box [.own 2] 23, .own Z0]⟩
def det_Smallest_2.rs (r : Int × Int × Int × (List (List Int)) × (List Int) × (List Int)) : List Dat := [⟨Z0, r.1⟩, ⟨Z0, r.2.1⟩, ⟨Z0, r.2.2.1⟩, ⟨Z3, r.2.2.2.1⟩, ⟨Z1, r.2.2.2.2.1⟩, ⟨Z1, r.2.2.2.2.2⟩]
def det_Smallest_2.out (ds : List Dat) : Option (Int × Int × Int × (List (List Int)) × (List Int) × (List Int)) := pop Z0 ds fun x0 ds => pop Z0 ds fun x1 ds => pop Z0 ds fun x2 ds => pop Z3 ds fun x3 ds => pop Z1 ds fun x4 ds => pop Z1 ds fun x5 ds => popN ds (some (x0, x1, x2, x3, x4, x5))
def det_Smallest_2.c (k : Nat) (ds : List Dat) : Option (Int × Int × Int × (List (List Int)) × (List Int) × (List Int)) := pop Z0 ds fun x0 ds => pop Z0 ds fun x1 ds => pop Z0 ds fun x2 ds => pop Z3 ds fun x3 ds => pop Z1 ds fun x4 ds => pop Z1 ds fun x5 ds => popN ds (det_Smallest_2.f k x0 x1 x2 x3 x4 x5)
def det_Smallest_2.g : Nat → List Dat → Option (Int × Int × Int × (List (List Int)) × (List Int) × (List Int))
 | 0, _ => none
 | k + 1, ds => det_Smallest_2.c k ds
def det_Smallest_2.env (k : Nat) : Nat → List SV → List Chunk → KT (Int × Int × Int × (List (List Int)) × (List Int) × (List Int)) → Option (Int × Int × Int × (List (List Int)) × (List Int) × (List Int)) := env0
def det_Smallest_2.tbl : List (Nat × Tm × (Nat → List Dat → Option (Int × Int × Int × (List (List Int)) × (List Int) × (List Int)))) := []
noncomputable abbrev det_Smallest_2.R (k : Nat) := run T (det_Smallest_2.env k) Try.f163.ntmps (cutE 3 det_Smallest_2.tbl k) (finE 3 det_Smallest_2.to det_Smallest_2.out) (fnRes Try.f163) [] 100000 true
theorem det_Smallest_2.e (k : Nat) (x0 : Int) (x1 : Int) (x2 : Int) (x3 : (List (List Int))) (x4 : (List Int)) (x5 : (List Int)) : det_Smallest_2.f k x0 x1 x2 x3 x4 x5 = det_Smallest_2.R k ([.code det_Smallest_2.body]) (det_Smallest_2.ti.fill [⟨Z0, x0⟩, ⟨Z0, x1⟩, ⟨Z0, x2⟩, ⟨Z3, x3⟩, ⟨Z1, x4⟩, ⟨Z1, x5⟩]) := by kernel_rfl
theorem det_Smallest_2.h (k : Nat) (ds : List Dat) (r : Int × Int × Int × (List (List Int)) × (List Int) × (List Int)) (h : det_Smallest_2.g k ds = some r) : ∃ k', k' < k ∧ det_Smallest_2.R k' ([.code det_Smallest_2.body]) (det_Smallest_2.ti.fill ds) = some r := by
  cases k with
  | zero => cases (show none = some r from h)
  | succ k =>
  replace h : det_Smallest_2.c k ds = some r := h
  unfold det_Smallest_2.c at h
  iterate 6 (obtain ⟨_, _, e, g⟩ := pop_some h; clear h; subst e; have h := g; clear g)
  obtain ⟨rfl, g⟩ := popN_some h
  exact ⟨k, Nat.lt_succ_self k, (det_Smallest_2.e k ..).symm.trans g⟩
theorem det_Smallest_2.o (ds : List Dat) (r : Int × Int × Int × (List (List Int)) × (List Int) × (List Int)) (h : det_Smallest_2.out ds = some r) : ds = det_Smallest_2.rs r := by
  unfold det_Smallest_2.out at h
  iterate 6 (obtain ⟨_, _, e, g⟩ := pop_some h; clear h; subst e; have h := g; clear g)
  obtain ⟨rfl, g⟩ := popN_some h
  cases g
  rfl
theorem det_Smallest_2.fn : FnOk Try.prog 163 Try.f163 det_Smallest_2.body Try.f163.ntmps 3 (fnRes Try.f163) :=
  fnOk_of (by kernel_rfl) (by kernel_rfl) (by kernel_rfl) (by kernel_rfl)
theorem det_Smallest_2.con' : ∀ k ds r, det_Smallest_2.g k ds = some r → Con Try.prog 163 3 det_Smallest_2.ti det_Smallest_2.to ds (det_Smallest_2.rs r) :=
  fun_ok (T := T) T_ok mixed det_Smallest_2.fn (env := det_Smallest_2.env) (tbl := det_Smallest_2.tbl) (gOut := det_Smallest_2.out) (nin := 3) (cuts := []) (fuel := 100000) rfl (by kernel_rfl) (by kernel_rfl) (by kernel_rfl) (fun x hx => by simp [det_Smallest_2.tbl] at hx) det_Smallest_2.o det_Smallest_2.h (fun k _ => by unfold det_Smallest_2.env; exact env0_ok)
theorem det_Smallest_2.con (k : Nat) {x0 : Int} {x1 : Int} {x2 : Int} {x3 : (List (List Int))} {x4 : (List Int)} {x5 : (List Int)} (r : Int × Int × Int × (List (List Int)) × (List Int) × (List Int)) (h : det_Smallest_2.f k x0 x1 x2 x3 x4 x5 = some r) : Con Try.prog 163 3 det_Smallest_2.ti det_Smallest_2.to [⟨Z0, x0⟩, ⟨Z0, x1⟩, ⟨Z0, x2⟩, ⟨Z3, x3⟩, ⟨Z1, x4⟩, ⟨Z1, x5⟩] (det_Smallest_2.rs r) :=
  det_Smallest_2.con' (k + 1) _ r (by show det_Smallest_2.c k _ = some r; unfold det_Smallest_2.c; simp only [pop_self, popN]; exact h)
mutual
def det_Explore_int_.l4 : Nat → Int → Int → Int → Int → List (List (Int)) → List (Int) → List (Int) → List (Int) → Int → Int → Int → Int → List ((Int × Int)) → List (Int) → List (List (Int)) → List (Int) → List (List (Int)) → List (Int) → Option (Int × Int × Bool × Int × Int × List (List Int) × List Int × List Int × List Int × List (List Int) × List Int)
 | 0, _, _, _, _, _, _, _, _, _, _, _, _, _, _, _, _, _, _ => none
 | k + 1, letters0, most4, c_1_0, c_1_1, c_1_2, c_1_3, c_3, c_4, x10_0, x10_1, d12_0, d12_1, number13, l14, c_9, c_10, c_11, c_12 =>
  if (↑c_11.length : Int) < (↑l14.length : Int) then
   if 0 ≤ (↑c_11.length : Int) then
   if (↑c_11.length : Int) < (↑l14.length : Int) then
    if 0 ≤ letters0 then
     if letters0 ≤ letters0 then
      if letters0 * ((↑8 : Int) + 1) ≤ 281474976710656 then
       det_Explore_int_.l8 k letters0 most4 (l14.getD (↑c_11.length : Int).toNat (Int.ofNat 0)) letters0 0 c_1_0 c_1_1 c_1_2 c_1_3 c_3 c_4 x10_0 x10_1 d12_0 d12_1 number13 l14 (List.replicate letters0.toNat (Int.ofNat 0)) c_9 c_10 c_11 c_12
       else none
      else none
     else none
    else none
   else none
  else
   some (d12_0, d12_1, true, c_1_0, c_1_1, c_1_2, c_1_3, c_3, c_4, c_11, c_12)
def det_Explore_int_.l8 : Nat → Int → Int → Int → Int → Int → Int → Int → List (List (Int)) → List (Int) → List (Int) → List (Int) → Int → Int → Int → Int → List ((Int × Int)) → List (Int) → List (Int) → List (List (Int)) → List (Int) → List (List (Int)) → List (Int) → Option (Int × Int × Bool × Int × Int × List (List Int) × List Int × List Int × List Int × List (List Int) × List Int)
 | 0, _, _, _, _, _, _, _, _, _, _, _, _, _, _, _, _, _, _, _, _, _, _ => none
 | k + 1, letters0, most4, k15, x42, x43, c_1_0, c_1_1, c_1_2, c_1_3, c_3, c_4, x10_0, x10_1, d12_0, d12_1, number13, l14, row16, c_10, c_11, c_12, c_13 =>
  if x43 < x42 then
   (det_Smallest_1.f k k15 x43 c_1_0 c_1_1 c_1_2 c_1_3 c_3 c_4).bind fun r_3 =>
    if mhas (Go.Proofs.YtfkilmmldjajmaaSx.Ty.int Go.IntKind.i64) (Go.Proofs.YtfkilmmldjajmaaSx.Ty.int Go.IntKind.i64) number13 r_3.fst = true then
     det_Explore_int_.j18 k letters0 most4 k15 x43 (mget (Go.Proofs.YtfkilmmldjajmaaSx.Ty.int Go.IntKind.i64) (Go.Proofs.YtfkilmmldjajmaaSx.Ty.int Go.IntKind.i64) number13 r_3.fst) x42 x43 r_3.snd.fst r_3.snd.snd.fst r_3.snd.snd.snd.fst r_3.snd.snd.snd.snd.fst r_3.snd.snd.snd.snd.snd.fst r_3.snd.snd.snd.snd.snd.snd x10_0 x10_1 d12_0 d12_1 number13 l14 row16 c_10 c_11 c_12 c_13
    else
     if (↑l14.length : Int) = most4 then
      some (0, 0, false, r_3.snd.fst, r_3.snd.snd.fst, r_3.snd.snd.snd.fst, r_3.snd.snd.snd.snd.fst, r_3.snd.snd.snd.snd.snd.fst, r_3.snd.snd.snd.snd.snd.snd, [], [])
     else
      if fitsIn (l14 ++ [r_3.fst]).length 8 = true then
      det_Explore_int_.j18 k letters0 most4 k15 x43 ((↑l14.length : Int)) x42 x43 r_3.snd.fst r_3.snd.snd.fst r_3.snd.snd.snd.fst r_3.snd.snd.snd.snd.fst r_3.snd.snd.snd.snd.snd.fst r_3.snd.snd.snd.snd.snd.snd x10_0 x10_1 d12_0 d12_1 (mput (Go.Proofs.YtfkilmmldjajmaaSx.Ty.int Go.IntKind.i64) (Go.Proofs.YtfkilmmldjajmaaSx.Ty.int Go.IntKind.i64) number13 r_3.fst (↑l14.length : Int)) (l14 ++ [r_3.fst]) row16 c_10 c_11 c_12 c_13
      else none
  else
   if fitsIn (c_12 ++ [row16]).length 24 = true then
   (det_Smallest_2.f k k15 c_1_0 c_1_1 c_1_2 c_1_3 c_4).bind fun r_4 =>
     if fitsIn (c_13 ++ [r_4.fst]).length 8 = true then
     det_Explore_int_.l4 k letters0 most4 r_4.snd.fst r_4.snd.snd.fst r_4.snd.snd.snd.fst r_4.snd.snd.snd.snd.fst c_3 r_4.snd.snd.snd.snd.snd x10_0 x10_1 d12_0 d12_1 number13 l14 c_10 c_11 (c_12 ++ [row16]) (c_13 ++ [r_4.fst])
     else none
   else none
def det_Explore_int_.j18 : Nat → Int → Int → Int → Int → Int → Int → Int → Int → Int → List (List (Int)) → List (Int) → List (Int) → List (Int) → Int → Int → Int → Int → List ((Int × Int)) → List (Int) → List (Int) → List (List (Int)) → List (Int) → List (List (Int)) → List (Int) → Option (Int × Int × Bool × Int × Int × List (List Int) × List Int × List Int × List Int × List (List Int) × List Int)
 | 0, _, _, _, _, _, _, _, _, _, _, _, _, _, _, _, _, _, _, _, _, _, _, _, _ => none
 | k + 1, letters0, most4, k15, a17, n19, x42, x43, c_1_0, c_1_1, c_1_2, c_1_3, c_3, c_4, x10_0, x10_1, d12_0, d12_1, number13, l14, row16, c_10, c_11, c_12, c_13 =>
  if 0 ≤ a17 then
  if a17 < (↑row16.length : Int) then
   det_Explore_int_.l8 k letters0 most4 k15 x42 (Go.IntKind.i64.wrap (x43 + 1)) c_1_0 c_1_1 c_1_2 c_1_3 c_3 c_4 x10_0 x10_1 d12_0 d12_1 number13 l14 (row16.set a17.toNat n19) c_10 c_11 c_12 c_13
   else none
  else none
end
def det_Explore_int_.f (k : Nat) (letters0 : Int) (first1 : Int) (most4 : Int) (c_1_0 : Int) (c_1_1 : Int) (c_1_2 : List (List (Int))) (c_1_3 : List (Int)) (c_3 : List (Int)) (c_4 : List (Int)) : Option (Int × Int × Bool × Int × Int × List (List Int) × List Int × List Int × List Int × List (List Int) × List Int) :=
 det_Explore_int_.l4 k letters0 most4 c_1_0 c_1_1 c_1_2 c_1_3 c_3 c_4 0 0 letters0 0 (mput (Go.Proofs.YtfkilmmldjajmaaSx.Ty.int Go.IntKind.i64) (Go.Proofs.YtfkilmmldjajmaaSx.Ty.int Go.IntKind.i64) [] first1 (Int.ofNat 0)) [first1] [] [] [] []

noncomputable def det_Explore_int_.body : Code := fnBody Try.f124
def det_Explore_int_.ti : Tm := ⟨[(0, .p Z0), (1, .p Z0), (2, .fn 162 [.ptr 0 0, .ptr 1 0, .ptr 2 0]), (3, .fn 163 [.ptr 1 0, .ptr 2 0]), (4, .p Z0)], [.box [.own 3] 23, .box [.p Z0, .p Z0, .p Z3, .p Z1] 60, .box [.own 4] 23, .own Z0, .own Z0]⟩
def det_Explore_int_.to : Tm := ⟨[(0, .agg [.p Z0, .p Z0, .own 5, .own 6]), (1, .p .bool)], [.box [.own 3] 23, .box [.p Z0, .p Z0, .p Z3, .p Z1] 60, .box [.own 4] 23, .own Z0, .own Z0, .own Z1, .own Z0]⟩
def det_Explore_int_.rs (r : Int × Int × Bool × Int × Int × (List (List Int)) × (List Int) × (List Int) × (List Int) × (List (List Int)) × (List Int)) : List Dat := [⟨Z0, r.1⟩, ⟨Z0, r.2.1⟩, ⟨.bool, r.2.2.1⟩, ⟨Z0, r.2.2.2.1⟩, ⟨Z0, r.2.2.2.2.1⟩, ⟨Z3, r.2.2.2.2.2.1⟩, ⟨Z1, r.2.2.2.2.2.2.1⟩, ⟨Z1, r.2.2.2.2.2.2.2.1⟩, ⟨Z1, r.2.2.2.2.2.2.2.2.1⟩, ⟨Z3, r.2.2.2.2.2.2.2.2.2.1⟩, ⟨Z1, r.2.2.2.2.2.2.2.2.2.2⟩]
def det_Explore_int_.out (ds : List Dat) : Option (Int × Int × Bool × Int × Int × (List (List Int)) × (List Int) × (List Int) × (List Int) × (List (List Int)) × (List Int)) := pop Z0 ds fun x0 ds => pop Z0 ds fun x1 ds => pop .bool ds fun x2 ds => pop Z0 ds fun x3 ds => pop Z0 ds fun x4 ds => pop Z3 ds fun x5 ds => pop Z1 ds fun x6 ds => pop Z1 ds fun x7 ds => pop Z1 ds fun x8 ds => pop Z3 ds fun x9 ds => pop Z1 ds fun x10 ds => popN ds (some (x0, x1, x2, x3, x4, x5, x6, x7, x8, x9, x10))
def det_Explore_int_.c (k : Nat) (ds : List Dat) : Option (Int × Int × Bool × Int × Int × (List (List Int)) × (List Int) × (List Int) × (List Int) × (List (List Int)) × (List Int)) := pop Z0 ds fun x0 ds => pop Z0 ds fun x1 ds => pop Z0 ds fun x2 ds => pop Z0 ds fun x3 ds => pop Z0 ds fun x4 ds => pop Z3 ds fun x5 ds => pop Z1 ds fun x6 ds => pop Z1 ds fun x7 ds => pop Z1 ds fun x8 ds => popN ds (det_Explore_int_.f k x0 x1 x2 x3 x4 x5 x6 x7 x8)
def det_Explore_int_.g : Nat → List Dat → Option (Int × Int × Bool × Int × Int × (List (List Int)) × (List Int) × (List Int) × (List Int) × (List (List Int)) × (List Int))
 | 0, _ => none
 | k + 1, ds => det_Explore_int_.c k ds
def det_Explore_int_.env (k : Nat) : Nat → List SV → List Chunk → KT (Int × Int × Bool × Int × Int × (List (List Int)) × (List Int) × (List Int) × (List Int) × (List (List Int)) × (List Int)) → Option (Int × Int × Bool × Int × Int × (List (List Int)) × (List Int) × (List Int) × (List Int) × (List (List Int)) × (List Int)) := (envC 162 5 det_Smallest_1.ti det_Smallest_1.to (fun ds K => pop Z0 ds fun x0 ds => pop Z0 ds fun x1 ds => pop Z0 ds fun x2 ds => pop Z0 ds fun x3 ds => pop Z3 ds fun x4 ds => pop Z1 ds fun x5 ds => pop Z1 ds fun x6 ds => pop Z1 ds fun x7 ds => popN ds ((det_Smallest_1.f k x0 x1 x2 x3 x4 x5 x6 x7).bind fun r => K (det_Smallest_1.rs r))) (envC 163 3 det_Smallest_2.ti det_Smallest_2.to (fun ds K => pop Z0 ds fun x0 ds => pop Z0 ds fun x1 ds => pop Z0 ds fun x2 ds => pop Z3 ds fun x3 ds => pop Z1 ds fun x4 ds => pop Z1 ds fun x5 ds => popN ds ((det_Smallest_2.f k x0 x1 x2 x3 x4 x5).bind fun r => K (det_Smallest_2.rs r))) env0))
def det_Explore_int_.t9 : Tm := ⟨[(0, .p Z0), (2, .fn 162 [.ptr 0 0, .ptr 1 0, .ptr 2 0]), (3, .fn 163 [.ptr 1 0, .ptr 2 0]), (4, .p Z0), (10, .ptr 5 0), (12, .ptr 6 0), (13, .map 7), (14, .own 8)], [.box [.own 3] 23, .box [.p Z0, .p Z0, .p Z3, .p Z1] 60, .box [.own 4] 23, .own Z0, .own Z0, .box [.p Z0, .p Z0, .own 9, .own 10] 60, .box [.p Z0, .p Z0, .own 11, .own 12] 60, .map Z0 Z0, .own Z0, .own Z1, .own Z0, .own Z1, .own Z0]⟩
def det_Explore_int_.c9 (k : Nat) (ds : List Dat) : Option (Int × Int × Bool × Int × Int × (List (List Int)) × (List Int) × (List Int) × (List Int) × (List (List Int)) × (List Int)) := pop Z0 ds fun x0 ds => pop Z0 ds fun x1 ds => pop Z0 ds fun x2 ds => pop Z0 ds fun x3 ds => pop Z3 ds fun x4 ds => pop Z1 ds fun x5 ds => pop Z1 ds fun x6 ds => pop Z1 ds fun x7 ds => pop Z0 ds fun x8 ds => pop Z0 ds fun x9 ds => pop Z0 ds fun x10 ds => pop Z0 ds fun x11 ds => pop (.slice (.pair Z0 Z0)) ds fun x12 ds => pop Z1 ds fun x13 ds => pop Z3 ds fun x14 ds => pop Z1 ds fun x15 ds => pop Z3 ds fun x16 ds => pop Z1 ds fun x17 ds => popN ds (det_Explore_int_.l4 k x0 x1 x2 x3 x4 x5 x6 x7 x8 x9 x10 x11 x12 x13 x14 x15 x16 x17)
def det_Explore_int_.t17 : Tm := ⟨[(0, .p Z0), (2, .fn 162 [.ptr 0 0, .ptr 1 0, .ptr 2 0]), (3, .fn 163 [.ptr 1 0, .ptr 2 0]), (4, .p Z0), (10, .ptr 5 0), (12, .ptr 6 0), (13, .map 7), (14, .own 8), (15, .p Z0), (16, .own 9), (42, .p Z0), (43, .p Z0)], [.box [.own 3] 23, .box [.p Z0, .p Z0, .p Z3, .p Z1] 60, .box [.own 4] 23, .own Z0, .own Z0, .box [.p Z0, .p Z0, .own 10, .own 11] 60, .box [.p Z0, .p Z0, .own 12, .own 13] 60, .map Z0 Z0, .own Z0, .own Z0, .own Z1, .own Z0, .own Z1, .own Z0]⟩
def det_Explore_int_.c17 (k : Nat) (ds : List Dat) : Option (Int × Int × Bool × Int × Int × (List (List Int)) × (List Int) × (List Int) × (List Int) × (List (List Int)) × (List Int)) := pop Z0 ds fun x0 ds => pop Z0 ds fun x1 ds => pop Z0 ds fun x2 ds => pop Z0 ds fun x3 ds => pop Z0 ds fun x4 ds => pop Z0 ds fun x5 ds => pop Z0 ds fun x6 ds => pop Z3 ds fun x7 ds => pop Z1 ds fun x8 ds => pop Z1 ds fun x9 ds => pop Z1 ds fun x10 ds => pop Z0 ds fun x11 ds => pop Z0 ds fun x12 ds => pop Z0 ds fun x13 ds => pop Z0 ds fun x14 ds => pop (.slice (.pair Z0 Z0)) ds fun x15 ds => pop Z1 ds fun x16 ds => pop Z1 ds fun x17 ds => pop Z3 ds fun x18 ds => pop Z1 ds fun x19 ds => pop Z3 ds fun x20 ds => pop Z1 ds fun x21 ds => popN ds (det_Explore_int_.l8 k x0 x1 x2 x3 x4 x5 x6 x7 x8 x9 x10 x11 x12 x13 x14 x15 x16 x17 x18 x19 x20 x21)
def det_Explore_int_.t36 : Tm := ⟨[(0, .p Z0), (2, .fn 162 [.ptr 0 0, .ptr 1 0, .ptr 2 0]), (3, .fn 163 [.ptr 1 0, .ptr 2 0]), (4, .p Z0), (10, .ptr 5 0), (12, .ptr 6 0), (13, .map 7), (14, .own 8), (15, .p Z0), (16, .own 9), (17, .p Z0), (19, .p Z0), (42, .p Z0), (43, .p Z0)], [.box [.own 3] 23, .box [.p Z0, .p Z0, .p Z3, .p Z1] 60, .box [.own 4] 23, .own Z0, .own Z0, .box [.p Z0, .p Z0, .own 10, .own 11] 60, .box [.p Z0, .p Z0, .own 12, .own 13] 60, .map Z0 Z0, .own Z0, .own Z0, .own Z1, .own Z0, .own Z1, .own Z0]⟩
def det_Explore_int_.c36 (k : Nat) (ds : List Dat) : Option (Int × Int × Bool × Int × Int × (List (List Int)) × (List Int) × (List Int) × (List Int) × (List (List Int)) × (List Int)) := pop Z0 ds fun x0 ds => pop Z0 ds fun x1 ds => pop Z0 ds fun x2 ds => pop Z0 ds fun x3 ds => pop Z0 ds fun x4 ds => pop Z0 ds fun x5 ds => pop Z0 ds fun x6 ds => pop Z0 ds fun x7 ds => pop Z0 ds fun x8 ds => pop Z3 ds fun x9 ds => pop Z1 ds fun x10 ds => pop Z1 ds fun x11 ds => pop Z1 ds fun x12 ds => pop Z0 ds fun x13 ds => pop Z0 ds fun x14 ds => pop Z0 ds fun x15 ds => pop Z0 ds fun x16 ds => pop (.slice (.pair Z0 Z0)) ds fun x17 ds => pop Z1 ds fun x18 ds => pop Z1 ds fun x19 ds => pop Z3 ds fun x20 ds => pop Z1 ds fun x21 ds => pop Z3 ds fun x22 ds => pop Z1 ds fun x23 ds => popN ds (det_Explore_int_.j18 k x0 x1 x2 x3 x4 x5 x6 x7 x8 x9 x10 x11 x12 x13 x14 x15 x16 x17 x18 x19 x20 x21 x22 x23)
def det_Explore_int_.tbl : List (Nat × Tm × (Nat → List Dat → Option (Int × Int × Bool × Int × Int × (List (List Int)) × (List Int) × (List Int) × (List Int) × (List (List Int)) × (List Int)))) := [(9, det_Explore_int_.t9, det_Explore_int_.c9), (17, det_Explore_int_.t17, det_Explore_int_.c17), (36, det_Explore_int_.t36, det_Explore_int_.c36)]
noncomputable abbrev det_Explore_int_.R (k : Nat) := run T (det_Explore_int_.env k) Try.f124.ntmps (cutE 5 det_Explore_int_.tbl k) (finE 5 det_Explore_int_.to det_Explore_int_.out) (fnRes Try.f124) [18] 100000 true
theorem det_Explore_int_.e9 (k : Nat) (x0 : Int) (x1 : Int) (x2 : Int) (x3 : Int) (x4 : (List (List Int))) (x5 : (List Int)) (x6 : (List Int)) (x7 : (List Int)) (x8 : Int) (x9 : Int) (x10 : Int) (x11 : Int) (x12 : (List (Int × Int))) (x13 : (List Int)) (x14 : (List (List Int))) (x15 : (List Int)) (x16 : (List (List Int))) (x17 : (List Int)) : det_Explore_int_.l4 (k + 1) x0 x1 x2 x3 x4 x5 x6 x7 x8 x9 x10 x11 x12 x13 x14 x15 x16 x17 = det_Explore_int_.R k (start (stackOf 9 det_Explore_int_.body)) (det_Explore_int_.t9.fill [⟨Z0, x0⟩, ⟨Z0, x1⟩, ⟨Z0, x2⟩, ⟨Z0, x3⟩, ⟨Z3, x4⟩, ⟨Z1, x5⟩, ⟨Z1, x6⟩, ⟨Z1, x7⟩, ⟨Z0, x8⟩, ⟨Z0, x9⟩, ⟨Z0, x10⟩, ⟨Z0, x11⟩, ⟨(.slice (.pair Z0 Z0)), x12⟩, ⟨Z1, x13⟩, ⟨Z3, x14⟩, ⟨Z1, x15⟩, ⟨Z3, x16⟩, ⟨Z1, x17⟩]) := by kernel_rfl
theorem det_Explore_int_.s9 : stackAt 9 det_Explore_int_.body [] = some (stackOf 9 det_Explore_int_.body) := by kernel_rfl
theorem det_Explore_int_.h9 (k : Nat) (ds : List Dat) (r : Int × Int × Bool × Int × Int × (List (List Int)) × (List Int) × (List Int) × (List Int) × (List (List Int)) × (List Int)) (h : det_Explore_int_.c9 k ds = some r) : ∃ k', k' < k ∧ ∃ s, stackAt 9 det_Explore_int_.body [] = some s ∧ det_Explore_int_.R k' (start s) (det_Explore_int_.t9.fill ds) = some r := by
  unfold det_Explore_int_.c9 at h
  iterate 18 (obtain ⟨_, _, e, g⟩ := pop_some h; clear h; subst e; have h := g; clear g)
  obtain ⟨rfl, g⟩ := popN_some h
  cases k with
  | zero => cases (show none = some r from g)
  | succ k => exact ⟨k, Nat.lt_succ_self k, _, det_Explore_int_.s9, (det_Explore_int_.e9 k ..).symm.trans g⟩
theorem det_Explore_int_.e17 (k : Nat) (x0 : Int) (x1 : Int) (x2 : Int) (x3 : Int) (x4 : Int) (x5 : Int) (x6 : Int) (x7 : (List (List Int))) (x8 : (List Int)) (x9 : (List Int)) (x10 : (List Int)) (x11 : Int) (x12 : Int) (x13 : Int) (x14 : Int) (x15 : (List (Int × Int))) (x16 : (List Int)) (x17 : (List Int)) (x18 : (List (List Int))) (x19 : (List Int)) (x20 : (List (List Int))) (x21 : (List Int)) : det_Explore_int_.l8 (k + 1) x0 x1 x2 x3 x4 x5 x6 x7 x8 x9 x10 x11 x12 x13 x14 x15 x16 x17 x18 x19 x20 x21 = det_Explore_int_.R k (start (stackOf 17 det_Explore_int_.body)) (det_Explore_int_.t17.fill [⟨Z0, x0⟩, ⟨Z0, x1⟩, ⟨Z0, x2⟩, ⟨Z0, x3⟩, ⟨Z0, x4⟩, ⟨Z0, x5⟩, ⟨Z0, x6⟩, ⟨Z3, x7⟩, ⟨Z1, x8⟩, ⟨Z1, x9⟩, ⟨Z1, x10⟩, ⟨Z0, x11⟩, ⟨Z0, x12⟩, ⟨Z0, x13⟩, ⟨Z0, x14⟩, ⟨(.slice (.pair Z0 Z0)), x15⟩, ⟨Z1, x16⟩, ⟨Z1, x17⟩, ⟨Z3, x18⟩, ⟨Z1, x19⟩, ⟨Z3, x20⟩, ⟨Z1, x21⟩]) := by kernel_rfl
theorem det_Explore_int_.s17 : stackAt 17 det_Explore_int_.body [] = some (stackOf 17 det_Explore_int_.body) := by kernel_rfl
theorem det_Explore_int_.h17 (k : Nat) (ds : List Dat) (r : Int × Int × Bool × Int × Int × (List (List Int)) × (List Int) × (List Int) × (List Int) × (List (List Int)) × (List Int)) (h : det_Explore_int_.c17 k ds = some r) : ∃ k', k' < k ∧ ∃ s, stackAt 17 det_Explore_int_.body [] = some s ∧ det_Explore_int_.R k' (start s) (det_Explore_int_.t17.fill ds) = some r := by
  unfold det_Explore_int_.c17 at h
  iterate 22 (obtain ⟨_, _, e, g⟩ := pop_some h; clear h; subst e; have h := g; clear g)
  obtain ⟨rfl, g⟩ := popN_some h
  cases k with
  | zero => cases (show none = some r from g)
  | succ k => exact ⟨k, Nat.lt_succ_self k, _, det_Explore_int_.s17, (det_Explore_int_.e17 k ..).symm.trans g⟩
theorem det_Explore_int_.e36 (k : Nat) (x0 : Int) (x1 : Int) (x2 : Int) (x3 : Int) (x4 : Int) (x5 : Int) (x6 : Int) (x7 : Int) (x8 : Int) (x9 : (List (List Int))) (x10 : (List Int)) (x11 : (List Int)) (x12 : (List Int)) (x13 : Int) (x14 : Int) (x15 : Int) (x16 : Int) (x17 : (List (Int × Int))) (x18 : (List Int)) (x19 : (List Int)) (x20 : (List (List Int))) (x21 : (List Int)) (x22 : (List (List Int))) (x23 : (List Int)) : det_Explore_int_.j18 (k + 1) x0 x1 x2 x3 x4 x5 x6 x7 x8 x9 x10 x11 x12 x13 x14 x15 x16 x17 x18 x19 x20 x21 x22 x23 = det_Explore_int_.R k (start (stackOf 36 det_Explore_int_.body)) (det_Explore_int_.t36.fill [⟨Z0, x0⟩, ⟨Z0, x1⟩, ⟨Z0, x2⟩, ⟨Z0, x3⟩, ⟨Z0, x4⟩, ⟨Z0, x5⟩, ⟨Z0, x6⟩, ⟨Z0, x7⟩, ⟨Z0, x8⟩, ⟨Z3, x9⟩, ⟨Z1, x10⟩, ⟨Z1, x11⟩, ⟨Z1, x12⟩, ⟨Z0, x13⟩, ⟨Z0, x14⟩, ⟨Z0, x15⟩, ⟨Z0, x16⟩, ⟨(.slice (.pair Z0 Z0)), x17⟩, ⟨Z1, x18⟩, ⟨Z1, x19⟩, ⟨Z3, x20⟩, ⟨Z1, x21⟩, ⟨Z3, x22⟩, ⟨Z1, x23⟩]) := by kernel_rfl
theorem det_Explore_int_.s36 : stackAt 36 det_Explore_int_.body [] = some (stackOf 36 det_Explore_int_.body) := by kernel_rfl
theorem det_Explore_int_.h36 (k : Nat) (ds : List Dat) (r : Int × Int × Bool × Int × Int × (List (List Int)) × (List Int) × (List Int) × (List Int) × (List (List Int)) × (List Int)) (h : det_Explore_int_.c36 k ds = some r) : ∃ k', k' < k ∧ ∃ s, stackAt 36 det_Explore_int_.body [] = some s ∧ det_Explore_int_.R k' (start s) (det_Explore_int_.t36.fill ds) = some r := by
  unfold det_Explore_int_.c36 at h
  iterate 24 (obtain ⟨_, _, e, g⟩ := pop_some h; clear h; subst e; have h := g; clear g)
  obtain ⟨rfl, g⟩ := popN_some h
  cases k with
  | zero => cases (show none = some r from g)
  | succ k => exact ⟨k, Nat.lt_succ_self k, _, det_Explore_int_.s36, (det_Explore_int_.e36 k ..).symm.trans g⟩
theorem det_Explore_int_.e (k : Nat) (x0 : Int) (x1 : Int) (x2 : Int) (x3 : Int) (x4 : Int) (x5 : (List (List Int))) (x6 : (List Int)) (x7 : (List Int)) (x8 : (List Int)) : det_Explore_int_.f k x0 x1 x2 x3 x4 x5 x6 x7 x8 = det_Explore_int_.R k ([.code det_Explore_int_.body]) (det_Explore_int_.ti.fill [⟨Z0, x0⟩, ⟨Z0, x1⟩, ⟨Z0, x2⟩, ⟨Z0, x3⟩, ⟨Z0, x4⟩, ⟨Z3, x5⟩, ⟨Z1, x6⟩, ⟨Z1, x7⟩, ⟨Z1, x8⟩]) := by kernel_rfl
theorem det_Explore_int_.h (k : Nat) (ds : List Dat) (r : Int × Int × Bool × Int × Int × (List (List Int)) × (List Int) × (List Int) × (List Int) × (List (List Int)) × (List Int)) (h : det_Explore_int_.g k ds = some r) : ∃ k', k' < k ∧ det_Explore_int_.R k' ([.code det_Explore_int_.body]) (det_Explore_int_.ti.fill ds) = some r := by
  cases k with
  | zero => cases (show none = some r from h)
  | succ k =>
  replace h : det_Explore_int_.c k ds = some r := h
  unfold det_Explore_int_.c at h
  iterate 9 (obtain ⟨_, _, e, g⟩ := pop_some h; clear h; subst e; have h := g; clear g)
  obtain ⟨rfl, g⟩ := popN_some h
  exact ⟨k, Nat.lt_succ_self k, (det_Explore_int_.e k ..).symm.trans g⟩
theorem det_Explore_int_.o (ds : List Dat) (r : Int × Int × Bool × Int × Int × (List (List Int)) × (List Int) × (List Int) × (List Int) × (List (List Int)) × (List Int)) (h : det_Explore_int_.out ds = some r) : ds = det_Explore_int_.rs r := by
  unfold det_Explore_int_.out at h
  iterate 11 (obtain ⟨_, _, e, g⟩ := pop_some h; clear h; subst e; have h := g; clear g)
  obtain ⟨rfl, g⟩ := popN_some h
  cases g
  rfl
theorem det_Explore_int_.fn : FnOk Try.prog 124 Try.f124 det_Explore_int_.body Try.f124.ntmps 5 (fnRes Try.f124) :=
  fnOk_of (by kernel_rfl) (by kernel_rfl) (by kernel_rfl) (by kernel_rfl)
theorem det_Explore_int_.con' : ∀ k ds r, det_Explore_int_.g k ds = some r → Con Try.prog 124 5 det_Explore_int_.ti det_Explore_int_.to ds (det_Explore_int_.rs r) :=
  fun_ok (T := T) T_ok mixed det_Explore_int_.fn (env := det_Explore_int_.env) (tbl := det_Explore_int_.tbl) (gOut := det_Explore_int_.out) (nin := 5) (cuts := [18]) (fuel := 100000) rfl (by kernel_rfl) (by kernel_rfl) (by kernel_rfl) (fun x hx => by
    simp only [det_Explore_int_.tbl, List.mem_cons, List.not_mem_nil, or_false] at hx
    rcases hx with rfl | rfl | rfl
    · exact det_Explore_int_.h9
    · exact det_Explore_int_.h17
    · exact det_Explore_int_.h36
) det_Explore_int_.o det_Explore_int_.h (fun k _ => by unfold det_Explore_int_.env; exact (envC_ok (fun ds K r h => by
    iterate 8 (obtain ⟨_, _, e, g⟩ := pop_some h; clear h; subst e; have h := g; clear g)
    obtain ⟨rfl, g⟩ := popN_some h
    obtain ⟨r1, h1, h2⟩ := bind_some g
    exact ⟨_, h2, det_Smallest_1.con k _ h1⟩) (envC_ok (fun ds K r h => by
    iterate 6 (obtain ⟨_, _, e, g⟩ := pop_some h; clear h; subst e; have h := g; clear g)
    obtain ⟨rfl, g⟩ := popN_some h
    obtain ⟨r1, h1, h2⟩ := bind_some g
    exact ⟨_, h2, det_Smallest_2.con k _ h1⟩) env0_ok)))
theorem det_Explore_int_.con (k : Nat) {x0 : Int} {x1 : Int} {x2 : Int} {x3 : Int} {x4 : Int} {x5 : (List (List Int))} {x6 : (List Int)} {x7 : (List Int)} {x8 : (List Int)} (r : Int × Int × Bool × Int × Int × (List (List Int)) × (List Int) × (List Int) × (List Int) × (List (List Int)) × (List Int)) (h : det_Explore_int_.f k x0 x1 x2 x3 x4 x5 x6 x7 x8 = some r) : Con Try.prog 124 5 det_Explore_int_.ti det_Explore_int_.to [⟨Z0, x0⟩, ⟨Z0, x1⟩, ⟨Z0, x2⟩, ⟨Z0, x3⟩, ⟨Z0, x4⟩, ⟨Z3, x5⟩, ⟨Z1, x6⟩, ⟨Z1, x7⟩, ⟨Z1, x8⟩] (det_Explore_int_.rs r) :=
  det_Explore_int_.con' (k + 1) _ r (by show det_Explore_int_.c k _ = some r; unfold det_Explore_int_.c; simp only [pop_self, popN]; exact h)
mutual
def det_Smallest.l4 : Nat → Int → Int → Int → Int → List (List (Int)) → List (Int) → Int → Int → List (Int) → List (List (Int)) → List (Int) → List (Int) → Option (Int × Int × List (List Int) × List Int)
 | 0, _, _, _, _, _, _, _, _, _, _, _, _ => none
 | k + 1, x15, x16, d1_0, d1_1, d1_2, d1_3, x2_0, x2_1, x14, c_5, c_6, c_7 =>
  if x16 < x15 then
   if 0 ≤ x16 then
   if x16 < (↑x14.length : Int) then
    if 0 ≤ x14.getD x16.toNat (Int.ofNat 0) then
     if x14.getD x16.toNat (Int.ofNat 0) < (↑c_7.length : Int) then
      det_Smallest.l4 k x15 (Go.IntKind.i64.wrap (x16 + 1)) d1_0 d1_1 d1_2 d1_3 x2_0 x2_1 x14 c_5 c_6 (c_7.set (x14.getD x16.toNat (Int.ofNat 0)).toNat x16)
      else none
     else none
    else none
   else none
  else
   if 0 ≤ d1_1 then
   if d1_1 < (↑x14.length : Int) then
    (det_Explore_int_.f k d1_0 (x14.getD d1_1.toNat (Int.ofNat 0)) (Go.IntKind.i64.wrap ((↑x14.length : Int) + 1)) d1_0 d1_1 d1_2 d1_3 x14 c_7).bind fun r_5 =>
      some (r_5.fst, r_5.snd.fst, r_5.snd.snd.snd.snd.snd.snd.snd.snd.snd.fst, r_5.snd.snd.snd.snd.snd.snd.snd.snd.snd.snd)
    else none
   else none
end
def det_Smallest.f (k : Nat) (d0 : (Int × (Int × (List (List (Int)) × (List (Int) × Unit))))) : Option (Int × Int × List (List Int) × List Int) :=
 (det_Classes.f k (d0.fst, d0.snd.fst, d0.snd.snd.fst, d0.snd.snd.snd.fst, ())).bind fun r_1 =>
  if 0 ≤ (↑r_1.length : Int) then
  if (↑r_1.length : Int) ≤ (↑r_1.length : Int) then
   if (↑r_1.length : Int) * ((↑8 : Int) + 1) ≤ 281474976710656 then
    det_Smallest.l4 k ((↑r_1.length : Int)) 0 d0.fst d0.snd.fst d0.snd.snd.fst d0.snd.snd.snd.fst 0 0 r_1 [] [] (List.replicate (↑r_1.length : Int).toNat (Int.ofNat 0))
    else none
   else none
  else none

noncomputable def det_Smallest.body : Code := fnBody Try.f108
def det_Smallest.ti : Tm := ⟨[(0, .p Z6)], []⟩
def det_Smallest.to : Tm := ⟨[(0, .agg [.p Z0, .p Z0, .own 0, .own 1])], [.own Z1, .own Z0]⟩
def det_Smallest.rs (r : Int × Int × (List (List Int)) × (List Int)) : List Dat := [⟨Z0, r.1⟩, ⟨Z0, r.2.1⟩, ⟨Z3, r.2.2.1⟩, ⟨Z1, r.2.2.2⟩]
def det_Smallest.out (ds : List Dat) : Option (Int × Int × (List (List Int)) × (List Int)) := pop Z0 ds fun x0 ds => pop Z0 ds fun x1 ds => pop Z3 ds fun x2 ds => pop Z1 ds fun x3 ds => popN ds (some (x0, x1, x2, x3))
def det_Smallest.c (k : Nat) (ds : List Dat) : Option (Int × Int × (List (List Int)) × (List Int)) := pop Z6 ds fun x0 ds => popN ds (det_Smallest.f k x0)
def det_Smallest.g : Nat → List Dat → Option (Int × Int × (List (List Int)) × (List Int))
 | 0, _ => none
 | k + 1, ds => det_Smallest.c k ds
def det_Smallest.env (k : Nat) : Nat → List SV → List Chunk → KT (Int × Int × (List (List Int)) × (List Int)) → Option (Int × Int × (List (List Int)) × (List Int)) := (envC 124 5 det_Explore_int_.ti det_Explore_int_.to (fun ds K => pop Z0 ds fun x0 ds => pop Z0 ds fun x1 ds => pop Z0 ds fun x2 ds => pop Z0 ds fun x3 ds => pop Z0 ds fun x4 ds => pop Z3 ds fun x5 ds => pop Z1 ds fun x6 ds => pop Z1 ds fun x7 ds => pop Z1 ds fun x8 ds => popN ds ((det_Explore_int_.f k x0 x1 x2 x3 x4 x5 x6 x7 x8).bind fun r => K (det_Explore_int_.rs r))) (envC 161 1 det_Classes.ti det_Classes.to (fun ds K => pop Z6 ds fun x0 ds => popN ds ((det_Classes.f k x0).bind fun r => K (det_Classes.rs r))) env0))
def det_Smallest.t9 : Tm := ⟨[(1, .ptr 0 0), (2, .ptr 1 0), (3, .ptr 2 0), (4, .ptr 3 0), (14, .own 4), (15, .p Z0), (16, .p Z0)], [.box [.p Z0, .p Z0, .p Z3, .p Z1] 60, .box [.p Z0, .p Z0, .own 5, .own 6] 60, .box [.own 4] 23, .box [.own 7] 23, .own Z0, .own Z1, .own Z0, .own Z0]⟩
def det_Smallest.c9 (k : Nat) (ds : List Dat) : Option (Int × Int × (List (List Int)) × (List Int)) := pop Z0 ds fun x0 ds => pop Z0 ds fun x1 ds => pop Z0 ds fun x2 ds => pop Z0 ds fun x3 ds => pop Z3 ds fun x4 ds => pop Z1 ds fun x5 ds => pop Z0 ds fun x6 ds => pop Z0 ds fun x7 ds => pop Z1 ds fun x8 ds => pop Z3 ds fun x9 ds => pop Z1 ds fun x10 ds => pop Z1 ds fun x11 ds => popN ds (det_Smallest.l4 k x0 x1 x2 x3 x4 x5 x6 x7 x8 x9 x10 x11)
def det_Smallest.tbl : List (Nat × Tm × (Nat → List Dat → Option (Int × Int × (List (List Int)) × (List Int)))) := [(9, det_Smallest.t9, det_Smallest.c9)]
noncomputable abbrev det_Smallest.R (k : Nat) := run T (det_Smallest.env k) Try.f108.ntmps (cutE 0 det_Smallest.tbl k) (finE 0 det_Smallest.to det_Smallest.out) (fnRes Try.f108) [] 100000 true
theorem det_Smallest.e9 (k : Nat) (x0 : Int) (x1 : Int) (x2 : Int) (x3 : Int) (x4 : (List (List Int))) (x5 : (List Int)) (x6 : Int) (x7 : Int) (x8 : (List Int)) (x9 : (List (List Int))) (x10 : (List Int)) (x11 : (List Int)) : det_Smallest.l4 (k + 1) x0 x1 x2 x3 x4 x5 x6 x7 x8 x9 x10 x11 = det_Smallest.R k (start (stackOf 9 det_Smallest.body)) (det_Smallest.t9.fill [⟨Z0, x0⟩, ⟨Z0, x1⟩, ⟨Z0, x2⟩, ⟨Z0, x3⟩, ⟨Z3, x4⟩, ⟨Z1, x5⟩, ⟨Z0, x6⟩, ⟨Z0, x7⟩, ⟨Z1, x8⟩, ⟨Z3, x9⟩, ⟨Z1, x10⟩, ⟨Z1, x11⟩]) := by kernel_rfl
theorem det_Smallest.s9 : stackAt 9 det_Smallest.body [] = some (stackOf 9 det_Smallest.body) := by kernel_rfl
theorem det_Smallest.h9 (k : Nat) (ds : List Dat) (r : Int × Int × (List (List Int)) × (List Int)) (h : det_Smallest.c9 k ds = some r) : ∃ k', k' < k ∧ ∃ s, stackAt 9 det_Smallest.body [] = some s ∧ det_Smallest.R k' (start s) (det_Smallest.t9.fill ds) = some r := by
  unfold det_Smallest.c9 at h
  iterate 12 (obtain ⟨_, _, e, g⟩ := pop_some h; clear h; subst e; have h := g; clear g)
  obtain ⟨rfl, g⟩ := popN_some h
  cases k with
  | zero => cases (show none = some r from g)
  | succ k => exact ⟨k, Nat.lt_succ_self k, _, det_Smallest.s9, (det_Smallest.e9 k ..).symm.trans g⟩
theorem det_Smallest.e (k : Nat) (x0 : (Int × (Int × ((List (List Int)) × ((List Int) × Unit))))) : det_Smallest.f k x0 = det_Smallest.R k ([.code det_Smallest.body]) (det_Smallest.ti.fill [⟨Z6, x0⟩]) := by kernel_rfl
theorem det_Smallest.h (k : Nat) (ds : List Dat) (r : Int × Int × (List (List Int)) × (List Int)) (h : det_Smallest.g k ds = some r) : ∃ k', k' < k ∧ det_Smallest.R k' ([.code det_Smallest.body]) (det_Smallest.ti.fill ds) = some r := by
  cases k with
  | zero => cases (show none = some r from h)
  | succ k =>
  replace h : det_Smallest.c k ds = some r := h
  unfold det_Smallest.c at h
  obtain ⟨x0, d0, rfl, h0⟩ := pop_some h
  obtain ⟨rfl, g⟩ := popN_some h0
  exact ⟨k, Nat.lt_succ_self k, (det_Smallest.e k ..).symm.trans g⟩
theorem det_Smallest.o (ds : List Dat) (r : Int × Int × (List (List Int)) × (List Int)) (h : det_Smallest.out ds = some r) : ds = det_Smallest.rs r := by
  unfold det_Smallest.out at h
  iterate 4 (obtain ⟨_, _, e, g⟩ := pop_some h; clear h; subst e; have h := g; clear g)
  obtain ⟨rfl, g⟩ := popN_some h
  cases g
  rfl
theorem det_Smallest.fn : FnOk Try.prog 108 Try.f108 det_Smallest.body Try.f108.ntmps 1 (fnRes Try.f108) :=
  fnOk_of (by kernel_rfl) (by kernel_rfl) (by kernel_rfl) (by kernel_rfl)
theorem det_Smallest.con' : ∀ k ds r, det_Smallest.g k ds = some r → Con Try.prog 108 1 det_Smallest.ti det_Smallest.to ds (det_Smallest.rs r) :=
  fun_ok (T := T) T_ok mixed det_Smallest.fn (env := det_Smallest.env) (tbl := det_Smallest.tbl) (gOut := det_Smallest.out) (nin := 0) (cuts := []) (fuel := 100000) rfl (by kernel_rfl) (by kernel_rfl) (by kernel_rfl) (fun x hx => by
    simp only [det_Smallest.tbl, List.mem_cons, List.not_mem_nil, or_false] at hx
    subst hx
    · exact det_Smallest.h9
) det_Smallest.o det_Smallest.h (fun k _ => by unfold det_Smallest.env; exact (envC_ok (fun ds K r h => by
    iterate 9 (obtain ⟨_, _, e, g⟩ := pop_some h; clear h; subst e; have h := g; clear g)
    obtain ⟨rfl, g⟩ := popN_some h
    obtain ⟨r1, h1, h2⟩ := bind_some g
    exact ⟨_, h2, det_Explore_int_.con k _ h1⟩) (envC_ok (fun ds K r h => by
    obtain ⟨x0, d0, rfl, h0⟩ := pop_some h
    obtain ⟨rfl, g⟩ := popN_some h0
    obtain ⟨r1, h1, h2⟩ := bind_some g
    exact ⟨_, h2, det_Classes.con k _ h1⟩) env0_ok)))
theorem det_Smallest.con (k : Nat) {x0 : (Int × (Int × ((List (List Int)) × ((List Int) × Unit))))} (r : Int × Int × (List (List Int)) × (List Int)) (h : det_Smallest.f k x0 = some r) : Con Try.prog 108 1 det_Smallest.ti det_Smallest.to [⟨Z6, x0⟩] (det_Smallest.rs r) :=
  det_Smallest.con' (k + 1) _ r (by show det_Smallest.c k _ = some r; unfold det_Smallest.c; simp only [pop_self, popN]; exact h)
def det_Least.f (k : Nat) (d0 : (Int × (Int × (List (List (Int)) × (List (Int) × Unit))))) : Option (Int × Int × Int × List (List Int) × List Int) :=
 (det_Check.f k (d0.fst, d0.snd.fst, d0.snd.snd.fst, d0.snd.snd.snd.fst, ())).bind fun r_1 =>
  if r_1 = 0 then
   (det_Smallest.f k (d0.fst, d0.snd.fst, d0.snd.snd.fst, d0.snd.snd.snd.fst, ())).bind fun r_3 =>
    some (r_3.fst, r_3.snd.fst, 0, r_3.snd.snd.fst, r_3.snd.snd.snd)
  else
   some (0, 0, r_1, [], [])

noncomputable def det_Least.body : Code := fnBody Try.f44
def det_Least.ti : Tm := ⟨[(0, .p Z6)], []⟩
def det_Least.to : Tm := ⟨[(0, .agg [.p Z0, .p Z0, .own 0, .own 1]), (1, .p Z0)], [.own Z1, .own Z0]⟩
def det_Least.rs (r : Int × Int × Int × (List (List Int)) × (List Int)) : List Dat := [⟨Z0, r.1⟩, ⟨Z0, r.2.1⟩, ⟨Z0, r.2.2.1⟩, ⟨Z3, r.2.2.2.1⟩, ⟨Z1, r.2.2.2.2⟩]
def det_Least.out (ds : List Dat) : Option (Int × Int × Int × (List (List Int)) × (List Int)) := pop Z0 ds fun x0 ds => pop Z0 ds fun x1 ds => pop Z0 ds fun x2 ds => pop Z3 ds fun x3 ds => pop Z1 ds fun x4 ds => popN ds (some (x0, x1, x2, x3, x4))
def det_Least.c (k : Nat) (ds : List Dat) : Option (Int × Int × Int × (List (List Int)) × (List Int)) := pop Z6 ds fun x0 ds => popN ds (det_Least.f k x0)
def det_Least.g : Nat → List Dat → Option (Int × Int × Int × (List (List Int)) × (List Int))
 | 0, _ => none
 | k + 1, ds => det_Least.c k ds
def det_Least.env (k : Nat) : Nat → List SV → List Chunk → KT (Int × Int × Int × (List (List Int)) × (List Int)) → Option (Int × Int × Int × (List (List Int)) × (List Int)) := (envC 107 1 det_Check.ti det_Check.to (fun ds K => pop Z6 ds fun x0 ds => popN ds ((det_Check.f k x0).bind fun r => K (det_Check.rs r))) (envC 108 1 det_Smallest.ti det_Smallest.to (fun ds K => pop Z6 ds fun x0 ds => popN ds ((det_Smallest.f k x0).bind fun r => K (det_Smallest.rs r))) env0))
def det_Least.tbl : List (Nat × Tm × (Nat → List Dat → Option (Int × Int × Int × (List (List Int)) × (List Int)))) := []
noncomputable abbrev det_Least.R (k : Nat) := run T (det_Least.env k) Try.f44.ntmps (cutE 0 det_Least.tbl k) (finE 0 det_Least.to det_Least.out) (fnRes Try.f44) [] 100000 true
theorem det_Least.e (k : Nat) (x0 : (Int × (Int × ((List (List Int)) × ((List Int) × Unit))))) : det_Least.f k x0 = det_Least.R k ([.code det_Least.body]) (det_Least.ti.fill [⟨Z6, x0⟩]) := by kernel_rfl
theorem det_Least.h (k : Nat) (ds : List Dat) (r : Int × Int × Int × (List (List Int)) × (List Int)) (h : det_Least.g k ds = some r) : ∃ k', k' < k ∧ det_Least.R k' ([.code det_Least.body]) (det_Least.ti.fill ds) = some r := by
  cases k with
  | zero => cases (show none = some r from h)
  | succ k =>
  replace h : det_Least.c k ds = some r := h
  unfold det_Least.c at h
  obtain ⟨x0, d0, rfl, h0⟩ := pop_some h
  obtain ⟨rfl, g⟩ := popN_some h0
  exact ⟨k, Nat.lt_succ_self k, (det_Least.e k ..).symm.trans g⟩
theorem det_Least.o (ds : List Dat) (r : Int × Int × Int × (List (List Int)) × (List Int)) (h : det_Least.out ds = some r) : ds = det_Least.rs r := by
  unfold det_Least.out at h
  iterate 5 (obtain ⟨_, _, e, g⟩ := pop_some h; clear h; subst e; have h := g; clear g)
  obtain ⟨rfl, g⟩ := popN_some h
  cases g
  rfl
theorem det_Least.fn : FnOk Try.prog 44 Try.f44 det_Least.body Try.f44.ntmps 1 (fnRes Try.f44) :=
  fnOk_of (by kernel_rfl) (by kernel_rfl) (by kernel_rfl) (by kernel_rfl)
theorem det_Least.con' : ∀ k ds r, det_Least.g k ds = some r → Con Try.prog 44 1 det_Least.ti det_Least.to ds (det_Least.rs r) :=
  fun_ok (T := T) T_ok mixed det_Least.fn (env := det_Least.env) (tbl := det_Least.tbl) (gOut := det_Least.out) (nin := 0) (cuts := []) (fuel := 100000) rfl (by kernel_rfl) (by kernel_rfl) (by kernel_rfl) (fun x hx => by simp [det_Least.tbl] at hx) det_Least.o det_Least.h (fun k _ => by unfold det_Least.env; exact (envC_ok (fun ds K r h => by
    obtain ⟨x0, d0, rfl, h0⟩ := pop_some h
    obtain ⟨rfl, g⟩ := popN_some h0
    obtain ⟨r1, h1, h2⟩ := bind_some g
    exact ⟨_, h2, det_Check.con k _ h1⟩) (envC_ok (fun ds K r h => by
    obtain ⟨x0, d0, rfl, h0⟩ := pop_some h
    obtain ⟨rfl, g⟩ := popN_some h0
    obtain ⟨r1, h1, h2⟩ := bind_some g
    exact ⟨_, h2, det_Smallest.con k _ h1⟩) env0_ok)))
theorem det_Least.con (k : Nat) {x0 : (Int × (Int × ((List (List Int)) × ((List Int) × Unit))))} (r : Int × Int × Int × (List (List Int)) × (List Int)) (h : det_Least.f k x0 = some r) : Con Try.prog 44 1 det_Least.ti det_Least.to [⟨Z6, x0⟩] (det_Least.rs r) :=
  det_Least.con' (k + 1) _ r (by show det_Least.c k _ = some r; unfold det_Least.c; simp only [pop_self, popN]; exact h)
def two_Check_1.f (k : Nat) (r0 : List ((Int × (Int × Unit)))) (x1_0 : Int) (x1_1 : Int) (x1_2 : List (List ((Int × (Int × Unit))))) (x1_3 : List (Int)) : Option (Bool × Int × Int × List (List (Int × Int × Unit)) × List Int) :=
 some (!decide ((↑r0.length : Int) = Go.IntKind.i64.wrap (x1_0 + 2)), x1_0, x1_1, x1_2, x1_3)

noncomputable def two_Check_1.body : Code := fnBody Try.f166
def two_Check_1.ti : Tm := ⟨[(0, .p Z8), (1, .ptr 0 0)], [.box [.p Z0, .p Z0, .p Z2, .p Z1] 89]⟩
def two_Check_1.to : Tm := ⟨[(0, .p .bool)], [.box [.p Z0, .p Z0, .p Z2, .p Z1] 89]⟩
def two_Check_1.rs (r : Bool × Int × Int × (List (List (Int × (Int × Unit)))) × (List Int)) : List Dat := [⟨.bool, r.1⟩, ⟨Z0, r.2.1⟩, ⟨Z0, r.2.2.1⟩, ⟨Z2, r.2.2.2.1⟩, ⟨Z1, r.2.2.2.2⟩]
def two_Check_1.out (ds : List Dat) : Option (Bool × Int × Int × (List (List (Int × (Int × Unit)))) × (List Int)) := pop .bool ds fun x0 ds => pop Z0 ds fun x1 ds => pop Z0 ds fun x2 ds => pop Z2 ds fun x3 ds => pop Z1 ds fun x4 ds => popN ds (some (x0, x1, x2, x3, x4))
def two_Check_1.c (k : Nat) (ds : List Dat) : Option (Bool × Int × Int × (List (List (Int × (Int × Unit)))) × (List Int)) := pop Z8 ds fun x0 ds => pop Z0 ds fun x1 ds => pop Z0 ds fun x2 ds => pop Z2 ds fun x3 ds => pop Z1 ds fun x4 ds => popN ds (two_Check_1.f k x0 x1 x2 x3 x4)
def two_Check_1.g : Nat → List Dat → Option (Bool × Int × Int × (List (List (Int × (Int × Unit)))) × (List Int))
 | 0, _ => none
 | k + 1, ds => two_Check_1.c k ds
def two_Check_1.env (k : Nat) : Nat → List SV → List Chunk → KT (Bool × Int × Int × (List (List (Int × (Int × Unit)))) × (List Int)) → Option (Bool × Int × Int × (List (List (Int × (Int × Unit)))) × (List Int)) := env0
def two_Check_1.tbl : List (Nat × Tm × (Nat → List Dat → Option (Bool × Int × Int × (List (List (Int × (Int × Unit)))) × (List Int)))) := []
noncomputable abbrev two_Check_1.R (k : Nat) := run T (two_Check_1.env k) Try.f166.ntmps (cutE 1 two_Check_1.tbl k) (finE 1 two_Check_1.to two_Check_1.out) (fnRes Try.f166) [] 100000 true
theorem two_Check_1.e (k : Nat) (x0 : (List (Int × (Int × Unit)))) (x1 : Int) (x2 : Int) (x3 : (List (List (Int × (Int × Unit))))) (x4 : (List Int)) : two_Check_1.f k x0 x1 x2 x3 x4 = two_Check_1.R k ([.code two_Check_1.body]) (two_Check_1.ti.fill [⟨Z8, x0⟩, ⟨Z0, x1⟩, ⟨Z0, x2⟩, ⟨Z2, x3⟩, ⟨Z1, x4⟩]) := by kernel_rfl
theorem two_Check_1.h (k : Nat) (ds : List Dat) (r : Bool × Int × Int × (List (List (Int × (Int × Unit)))) × (List Int)) (h : two_Check_1.g k ds = some r) : ∃ k', k' < k ∧ two_Check_1.R k' ([.code two_Check_1.body]) (two_Check_1.ti.fill ds) = some r := by
  cases k with
  | zero => cases (show none = some r from h)
  | succ k =>
  replace h : two_Check_1.c k ds = some r := h
  unfold two_Check_1.c at h
  iterate 5 (obtain ⟨_, _, e, g⟩ := pop_some h; clear h; subst e; have h := g; clear g)
  obtain ⟨rfl, g⟩ := popN_some h
  exact ⟨k, Nat.lt_succ_self k, (two_Check_1.e k ..).symm.trans g⟩
theorem two_Check_1.o (ds : List Dat) (r : Bool × Int × Int × (List (List (Int × (Int × Unit)))) × (List Int)) (h : two_Check_1.out ds = some r) : ds = two_Check_1.rs r := by
  unfold two_Check_1.out at h
  iterate 5 (obtain ⟨_, _, e, g⟩ := pop_some h; clear h; subst e; have h := g; clear g)
  obtain ⟨rfl, g⟩ := popN_some h
  cases g
  rfl
theorem two_Check_1.fn : FnOk Try.prog 166 Try.f166 two_Check_1.body Try.f166.ntmps 2 (fnRes Try.f166) :=
  fnOk_of (by kernel_rfl) (by kernel_rfl) (by kernel_rfl) (by kernel_rfl)
theorem two_Check_1.con' : ∀ k ds r, two_Check_1.g k ds = some r → Con Try.prog 166 2 two_Check_1.ti two_Check_1.to ds (two_Check_1.rs r) :=
  fun_ok (T := T) T_ok mixed two_Check_1.fn (env := two_Check_1.env) (tbl := two_Check_1.tbl) (gOut := two_Check_1.out) (nin := 1) (cuts := []) (fuel := 100000) rfl (by kernel_rfl) (by kernel_rfl) (by kernel_rfl) (fun x hx => by simp [two_Check_1.tbl] at hx) two_Check_1.o two_Check_1.h (fun k _ => by unfold two_Check_1.env; exact env0_ok)
theorem two_Check_1.con (k : Nat) {x0 : (List (Int × (Int × Unit)))} {x1 : Int} {x2 : Int} {x3 : (List (List (Int × (Int × Unit))))} {x4 : (List Int)} (r : Bool × Int × Int × (List (List (Int × (Int × Unit)))) × (List Int)) (h : two_Check_1.f k x0 x1 x2 x3 x4 = some r) : Con Try.prog 166 2 two_Check_1.ti two_Check_1.to [⟨Z8, x0⟩, ⟨Z0, x1⟩, ⟨Z0, x2⟩, ⟨Z2, x3⟩, ⟨Z1, x4⟩] (two_Check_1.rs r) :=
  two_Check_1.con' (k + 1) _ r (by show two_Check_1.c k _ = some r; unfold two_Check_1.c; simp only [pop_self, popN]; exact h)
mutual
def Sf9.l2 : Nat → List (List ((Int × (Int × Unit)))) → Int → Int → Int → Int → List (List ((Int × (Int × Unit)))) → List (Int) → Option (Int × Int × Int × List (List (Int × Int × Unit)) × List Int)
 | 0, _, _, _, _, _, _, _ => none
 | k + 1, s0, x7, x8, c_0_0, c_0_1, c_0_2, c_0_3 =>
  if x8 < x7 then
   if 0 ≤ x8 then
   if x8 < (↑s0.length : Int) then
    (two_Check_1.f k (rd [] s0 x8) c_0_0 c_0_1 c_0_2 c_0_3).bind fun r_5 =>
      if r_5.fst = true then
       some (x8, r_5.snd.fst, r_5.snd.snd.fst, r_5.snd.snd.snd.fst, r_5.snd.snd.snd.snd)
      else
       Sf9.l2 k s0 x7 (Go.IntKind.i64.wrap (x8 + 1)) r_5.snd.fst r_5.snd.snd.fst r_5.snd.snd.snd.fst r_5.snd.snd.snd.snd
    else none
   else none
  else
   some (-1, c_0_0, c_0_1, c_0_2, c_0_3)
end
def Sf9.f (k : Nat) (s0 : List (List ((Int × (Int × Unit))))) (c_0_0 : Int) (c_0_1 : Int) (c_0_2 : List (List ((Int × (Int × Unit))))) (c_0_3 : List (Int)) : Option (Int × Int × Int × List (List (Int × Int × Unit)) × List Int) :=
 Sf9.l2 k s0 ((↑s0.length : Int)) 0 c_0_0 c_0_1 c_0_2 c_0_3

noncomputable def Sf9.body : Code := fnBody Try.f181
def Sf9.ti : Tm := ⟨[(0, .p Z2), (1, .fn 166 [.ptr 0 0])], [.box [.p Z0, .p Z0, .p Z2, .p Z1] 89]⟩
def Sf9.to : Tm := ⟨[(0, .p Z0)], [.box [.p Z0, .p Z0, .p Z2, .p Z1] 89]⟩
def Sf9.rs (r : Int × Int × Int × (List (List (Int × (Int × Unit)))) × (List Int)) : List Dat := [⟨Z0, r.1⟩, ⟨Z0, r.2.1⟩, ⟨Z0, r.2.2.1⟩, ⟨Z2, r.2.2.2.1⟩, ⟨Z1, r.2.2.2.2⟩]
def Sf9.out (ds : List Dat) : Option (Int × Int × Int × (List (List (Int × (Int × Unit)))) × (List Int)) := pop Z0 ds fun x0 ds => pop Z0 ds fun x1 ds => pop Z0 ds fun x2 ds => pop Z2 ds fun x3 ds => pop Z1 ds fun x4 ds => popN ds (some (x0, x1, x2, x3, x4))
def Sf9.c (k : Nat) (ds : List Dat) : Option (Int × Int × Int × (List (List (Int × (Int × Unit)))) × (List Int)) := pop Z2 ds fun x0 ds => pop Z0 ds fun x1 ds => pop Z0 ds fun x2 ds => pop Z2 ds fun x3 ds => pop Z1 ds fun x4 ds => popN ds (Sf9.f k x0 x1 x2 x3 x4)
def Sf9.g : Nat → List Dat → Option (Int × Int × Int × (List (List (Int × (Int × Unit)))) × (List Int))
 | 0, _ => none
 | k + 1, ds => Sf9.c k ds
def Sf9.env (k : Nat) : Nat → List SV → List Chunk → KT (Int × Int × Int × (List (List (Int × (Int × Unit)))) × (List Int)) → Option (Int × Int × Int × (List (List (Int × (Int × Unit)))) × (List Int)) := (envC 166 2 two_Check_1.ti two_Check_1.to (fun ds K => pop Z8 ds fun x0 ds => pop Z0 ds fun x1 ds => pop Z0 ds fun x2 ds => pop Z2 ds fun x3 ds => pop Z1 ds fun x4 ds => popN ds ((two_Check_1.f k x0 x1 x2 x3 x4).bind fun r => K (two_Check_1.rs r))) env0)
def Sf9.t5 : Tm := ⟨[(0, .p Z2), (1, .fn 166 [.ptr 0 0]), (7, .p Z0), (8, .p Z0)], [.box [.p Z0, .p Z0, .p Z2, .p Z1] 89]⟩
def Sf9.c5 (k : Nat) (ds : List Dat) : Option (Int × Int × Int × (List (List (Int × (Int × Unit)))) × (List Int)) := pop Z2 ds fun x0 ds => pop Z0 ds fun x1 ds => pop Z0 ds fun x2 ds => pop Z0 ds fun x3 ds => pop Z0 ds fun x4 ds => pop Z2 ds fun x5 ds => pop Z1 ds fun x6 ds => popN ds (Sf9.l2 k x0 x1 x2 x3 x4 x5 x6)
def Sf9.tbl : List (Nat × Tm × (Nat → List Dat → Option (Int × Int × Int × (List (List (Int × (Int × Unit)))) × (List Int)))) := [(5, Sf9.t5, Sf9.c5)]
noncomputable abbrev Sf9.R (k : Nat) := run T (Sf9.env k) Try.f181.ntmps (cutE 1 Sf9.tbl k) (finE 1 Sf9.to Sf9.out) (fnRes Try.f181) [] 100000 true
theorem Sf9.e5 (k : Nat) (x0 : (List (List (Int × (Int × Unit))))) (x1 : Int) (x2 : Int) (x3 : Int) (x4 : Int) (x5 : (List (List (Int × (Int × Unit))))) (x6 : (List Int)) : Sf9.l2 (k + 1) x0 x1 x2 x3 x4 x5 x6 = Sf9.R k (start (stackOf 5 Sf9.body)) (Sf9.t5.fill [⟨Z2, x0⟩, ⟨Z0, x1⟩, ⟨Z0, x2⟩, ⟨Z0, x3⟩, ⟨Z0, x4⟩, ⟨Z2, x5⟩, ⟨Z1, x6⟩]) := by kernel_rfl
theorem Sf9.s5 : stackAt 5 Sf9.body [] = some (stackOf 5 Sf9.body) := by kernel_rfl
theorem Sf9.h5 (k : Nat) (ds : List Dat) (r : Int × Int × Int × (List (List (Int × (Int × Unit)))) × (List Int)) (h : Sf9.c5 k ds = some r) : ∃ k', k' < k ∧ ∃ s, stackAt 5 Sf9.body [] = some s ∧ Sf9.R k' (start s) (Sf9.t5.fill ds) = some r := by
  unfold Sf9.c5 at h
  iterate 7 (obtain ⟨_, _, e, g⟩ := pop_some h; clear h; subst e; have h := g; clear g)
  obtain ⟨rfl, g⟩ := popN_some h
  cases k with
  | zero => cases (show none = some r from g)
  | succ k => exact ⟨k, Nat.lt_succ_self k, _, Sf9.s5, (Sf9.e5 k ..).symm.trans g⟩
theorem Sf9.e (k : Nat) (x0 : (List (List (Int × (Int × Unit))))) (x1 : Int) (x2 : Int) (x3 : (List (List (Int × (Int × Unit))))) (x4 : (List Int)) : Sf9.f k x0 x1 x2 x3 x4 = Sf9.R k ([.code Sf9.body]) (Sf9.ti.fill [⟨Z2, x0⟩, ⟨Z0, x1⟩, ⟨Z0, x2⟩, ⟨Z2, x3⟩, ⟨Z1, x4⟩]) := by kernel_rfl
theorem Sf9.h (k : Nat) (ds : List Dat) (r : Int × Int × Int × (List (List (Int × (Int × Unit)))) × (List Int)) (h : Sf9.g k ds = some r) : ∃ k', k' < k ∧ Sf9.R k' ([.code Sf9.body]) (Sf9.ti.fill ds) = some r := by
  cases k with
  | zero => cases (show none = some r from h)
  | succ k =>
  replace h : Sf9.c k ds = some r := h
  unfold Sf9.c at h
  iterate 5 (obtain ⟨_, _, e, g⟩ := pop_some h; clear h; subst e; have h := g; clear g)
  obtain ⟨rfl, g⟩ := popN_some h
  exact ⟨k, Nat.lt_succ_self k, (Sf9.e k ..).symm.trans g⟩
theorem Sf9.o (ds : List Dat) (r : Int × Int × Int × (List (List (Int × (Int × Unit)))) × (List Int)) (h : Sf9.out ds = some r) : ds = Sf9.rs r := by
  unfold Sf9.out at h
  iterate 5 (obtain ⟨_, _, e, g⟩ := pop_some h; clear h; subst e; have h := g; clear g)
  obtain ⟨rfl, g⟩ := popN_some h
  cases g
  rfl
theorem Sf9.fn : FnOk Try.prog 181 Try.f181 Sf9.body Try.f181.ntmps 2 (fnRes Try.f181) :=
  fnOk_of (by kernel_rfl) (by kernel_rfl) (by kernel_rfl) (by kernel_rfl)
theorem Sf9.con' : ∀ k ds r, Sf9.g k ds = some r → Con Try.prog 181 2 Sf9.ti Sf9.to ds (Sf9.rs r) :=
  fun_ok (T := T) T_ok mixed Sf9.fn (env := Sf9.env) (tbl := Sf9.tbl) (gOut := Sf9.out) (nin := 1) (cuts := []) (fuel := 100000) rfl (by kernel_rfl) (by kernel_rfl) (by kernel_rfl) (fun x hx => by
    simp only [Sf9.tbl, List.mem_cons, List.not_mem_nil, or_false] at hx
    subst hx
    · exact Sf9.h5
) Sf9.o Sf9.h (fun k _ => by unfold Sf9.env; exact (envC_ok (fun ds K r h => by
    iterate 5 (obtain ⟨_, _, e, g⟩ := pop_some h; clear h; subst e; have h := g; clear g)
    obtain ⟨rfl, g⟩ := popN_some h
    obtain ⟨r1, h1, h2⟩ := bind_some g
    exact ⟨_, h2, two_Check_1.con k _ h1⟩) env0_ok))
theorem Sf9.con (k : Nat) {x0 : (List (List (Int × (Int × Unit))))} {x1 : Int} {x2 : Int} {x3 : (List (List (Int × (Int × Unit))))} {x4 : (List Int)} (r : Int × Int × Int × (List (List (Int × (Int × Unit)))) × (List Int)) (h : Sf9.f k x0 x1 x2 x3 x4 = some r) : Con Try.prog 181 2 Sf9.ti Sf9.to [⟨Z2, x0⟩, ⟨Z0, x1⟩, ⟨Z0, x2⟩, ⟨Z2, x3⟩, ⟨Z1, x4⟩] (Sf9.rs r) :=
  Sf9.con' (k + 1) _ r (by show Sf9.c k _ = some r; unfold Sf9.c; simp only [pop_self, popN]; exact h)
def Sf10.f (k : Nat) (s0 : List (List ((Int × (Int × Unit))))) (c_0_0 : Int) (c_0_1 : Int) (c_0_2 : List (List ((Int × (Int × Unit))))) (c_0_3 : List (Int)) : Option (Bool × Int × Int × List (List (Int × Int × Unit)) × List Int) :=
 (Sf9.f k s0 c_0_0 c_0_1 c_0_2 c_0_3).bind fun r_1 =>
  some (decide (0 ≤ r_1.fst), r_1.snd.fst, r_1.snd.snd.fst, r_1.snd.snd.snd.fst, r_1.snd.snd.snd.snd)

noncomputable def Sf10.body : Code := fnBody Try.f165
def Sf10.ti : Tm := ⟨[(0, .p Z2), (1, .fn 166 [.ptr 0 0])], [.box [.p Z0, .p Z0, .p Z2, .p Z1] 89]⟩
def Sf10.to : Tm := ⟨[(0, .p .bool)], [.box [.p Z0, .p Z0, .p Z2, .p Z1] 89]⟩
def Sf10.rs (r : Bool × Int × Int × (List (List (Int × (Int × Unit)))) × (List Int)) : List Dat := [⟨.bool, r.1⟩, ⟨Z0, r.2.1⟩, ⟨Z0, r.2.2.1⟩, ⟨Z2, r.2.2.2.1⟩, ⟨Z1, r.2.2.2.2⟩]
def Sf10.out (ds : List Dat) : Option (Bool × Int × Int × (List (List (Int × (Int × Unit)))) × (List Int)) := pop .bool ds fun x0 ds => pop Z0 ds fun x1 ds => pop Z0 ds fun x2 ds => pop Z2 ds fun x3 ds => pop Z1 ds fun x4 ds => popN ds (some (x0, x1, x2, x3, x4))
def Sf10.c (k : Nat) (ds : List Dat) : Option (Bool × Int × Int × (List (List (Int × (Int × Unit)))) × (List Int)) := pop Z2 ds fun x0 ds => pop Z0 ds fun x1 ds => pop Z0 ds fun x2 ds => pop Z2 ds fun x3 ds => pop Z1 ds fun x4 ds => popN ds (Sf10.f k x0 x1 x2 x3 x4)
def Sf10.g : Nat → List Dat → Option (Bool × Int × Int × (List (List (Int × (Int × Unit)))) × (List Int))
 | 0, _ => none
 | k + 1, ds => Sf10.c k ds
def Sf10.env (k : Nat) : Nat → List SV → List Chunk → KT (Bool × Int × Int × (List (List (Int × (Int × Unit)))) × (List Int)) → Option (Bool × Int × Int × (List (List (Int × (Int × Unit)))) × (List Int)) := (envC 181 2 Sf9.ti Sf9.to (fun ds K => pop Z2 ds fun x0 ds => pop Z0 ds fun x1 ds => pop Z0 ds fun x2 ds => pop Z2 ds fun x3 ds => pop Z1 ds fun x4 ds => popN ds ((Sf9.f k x0 x1 x2 x3 x4).bind fun r => K (Sf9.rs r))) env0)
def Sf10.tbl : List (Nat × Tm × (Nat → List Dat → Option (Bool × Int × Int × (List (List (Int × (Int × Unit)))) × (List Int)))) := []
noncomputable abbrev Sf10.R (k : Nat) := run T (Sf10.env k) Try.f165.ntmps (cutE 1 Sf10.tbl k) (finE 1 Sf10.to Sf10.out) (fnRes Try.f165) [] 100000 true
theorem Sf10.e (k : Nat) (x0 : (List (List (Int × (Int × Unit))))) (x1 : Int) (x2 : Int) (x3 : (List (List (Int × (Int × Unit))))) (x4 : (List Int)) : Sf10.f k x0 x1 x2 x3 x4 = Sf10.R k ([.code Sf10.body]) (Sf10.ti.fill [⟨Z2, x0⟩, ⟨Z0, x1⟩, ⟨Z0, x2⟩, ⟨Z2, x3⟩, ⟨Z1, x4⟩]) := by kernel_rfl
theorem Sf10.h (k : Nat) (ds : List Dat) (r : Bool × Int × Int × (List (List (Int × (Int × Unit)))) × (List Int)) (h : Sf10.g k ds = some r) : ∃ k', k' < k ∧ Sf10.R k' ([.code Sf10.body]) (Sf10.ti.fill ds) = some r := by
  cases k with
  | zero => cases (show none = some r from h)
  | succ k =>
  replace h : Sf10.c k ds = some r := h
  unfold Sf10.c at h
  iterate 5 (obtain ⟨_, _, e, g⟩ := pop_some h; clear h; subst e; have h := g; clear g)
  obtain ⟨rfl, g⟩ := popN_some h
  exact ⟨k, Nat.lt_succ_self k, (Sf10.e k ..).symm.trans g⟩
theorem Sf10.o (ds : List Dat) (r : Bool × Int × Int × (List (List (Int × (Int × Unit)))) × (List Int)) (h : Sf10.out ds = some r) : ds = Sf10.rs r := by
  unfold Sf10.out at h
  iterate 5 (obtain ⟨_, _, e, g⟩ := pop_some h; clear h; subst e; have h := g; clear g)
  obtain ⟨rfl, g⟩ := popN_some h
  cases g
  rfl
theorem Sf10.fn : FnOk Try.prog 165 Try.f165 Sf10.body Try.f165.ntmps 2 (fnRes Try.f165) :=
  fnOk_of (by kernel_rfl) (by kernel_rfl) (by kernel_rfl) (by kernel_rfl)
theorem Sf10.con' : ∀ k ds r, Sf10.g k ds = some r → Con Try.prog 165 2 Sf10.ti Sf10.to ds (Sf10.rs r) :=
  fun_ok (T := T) T_ok mixed Sf10.fn (env := Sf10.env) (tbl := Sf10.tbl) (gOut := Sf10.out) (nin := 1) (cuts := []) (fuel := 100000) rfl (by kernel_rfl) (by kernel_rfl) (by kernel_rfl) (fun x hx => by simp [Sf10.tbl] at hx) Sf10.o Sf10.h (fun k _ => by unfold Sf10.env; exact (envC_ok (fun ds K r h => by
    iterate 5 (obtain ⟨_, _, e, g⟩ := pop_some h; clear h; subst e; have h := g; clear g)
    obtain ⟨rfl, g⟩ := popN_some h
    obtain ⟨r1, h1, h2⟩ := bind_some g
    exact ⟨_, h2, Sf9.con k _ h1⟩) env0_ok))
theorem Sf10.con (k : Nat) {x0 : (List (List (Int × (Int × Unit))))} {x1 : Int} {x2 : Int} {x3 : (List (List (Int × (Int × Unit))))} {x4 : (List Int)} (r : Bool × Int × Int × (List (List (Int × (Int × Unit)))) × (List Int)) (h : Sf10.f k x0 x1 x2 x3 x4 = some r) : Con Try.prog 165 2 Sf10.ti Sf10.to [⟨Z2, x0⟩, ⟨Z0, x1⟩, ⟨Z0, x2⟩, ⟨Z2, x3⟩, ⟨Z1, x4⟩] (Sf10.rs r) :=
  Sf10.con' (k + 1) _ r (by show Sf10.c k _ = some r; unfold Sf10.c; simp only [pop_self, popN]; exact h)
def two_Check_2.f (k : Nat) (q0 : Int) (x1_0 : Int) : Option (Bool × Int) :=
 if q0 < 0 then
  some (true, x1_0)
 else
  some (decide (x1_0 ≤ q0), x1_0)

noncomputable def two_Check_2.body : Code := fnBody Try.f167
def two_Check_2.ti : Tm := ⟨[(0, .p Z0), (1, .ptr 0 0)], [.box [.p Z0] 3]⟩
def two_Check_2.to : Tm := ⟨[(0, .p .bool)], [.box [.p Z0] 3]⟩
def two_Check_2.rs (r : Bool × Int) : List Dat := [⟨.bool, r.1⟩, ⟨Z0, r.2⟩]
def two_Check_2.out (ds : List Dat) : Option (Bool × Int) := pop .bool ds fun x0 ds => pop Z0 ds fun x1 ds => popN ds (some (x0, x1))
def two_Check_2.c (k : Nat) (ds : List Dat) : Option (Bool × Int) := pop Z0 ds fun x0 ds => pop Z0 ds fun x1 ds => popN ds (two_Check_2.f k x0 x1)
def two_Check_2.g : Nat → List Dat → Option (Bool × Int)
 | 0, _ => none
 | k + 1, ds => two_Check_2.c k ds
def two_Check_2.env (k : Nat) : Nat → List SV → List Chunk → KT (Bool × Int) → Option (Bool × Int) := env0
def two_Check_2.tbl : List (Nat × Tm × (Nat → List Dat → Option (Bool × Int))) := []
noncomputable abbrev two_Check_2.R (k : Nat) := run T (two_Check_2.env k) Try.f167.ntmps (cutE 1 two_Check_2.tbl k) (finE 1 two_Check_2.to two_Check_2.out) (fnRes Try.f167) [] 100000 true
theorem two_Check_2.e (k : Nat) (x0 : Int) (x1 : Int) : two_Check_2.f k x0 x1 = two_Check_2.R k ([.code two_Check_2.body]) (two_Check_2.ti.fill [⟨Z0, x0⟩, ⟨Z0, x1⟩]) := by kernel_rfl
theorem two_Check_2.h (k : Nat) (ds : List Dat) (r : Bool × Int) (h : two_Check_2.g k ds = some r) : ∃ k', k' < k ∧ two_Check_2.R k' ([.code two_Check_2.body]) (two_Check_2.ti.fill ds) = some r := by
  cases k with
  | zero => cases (show none = some r from h)
  | succ k =>
  replace h : two_Check_2.c k ds = some r := h
  unfold two_Check_2.c at h
  iterate 2 (obtain ⟨_, _, e, g⟩ := pop_some h; clear h; subst e; have h := g; clear g)
  obtain ⟨rfl, g⟩ := popN_some h
  exact ⟨k, Nat.lt_succ_self k, (two_Check_2.e k ..).symm.trans g⟩
theorem two_Check_2.o (ds : List Dat) (r : Bool × Int) (h : two_Check_2.out ds = some r) : ds = two_Check_2.rs r := by
  unfold two_Check_2.out at h
  iterate 2 (obtain ⟨_, _, e, g⟩ := pop_some h; clear h; subst e; have h := g; clear g)
  obtain ⟨rfl, g⟩ := popN_some h
  cases g
  rfl
theorem two_Check_2.fn : FnOk Try.prog 167 Try.f167 two_Check_2.body Try.f167.ntmps 2 (fnRes Try.f167) :=
  fnOk_of (by kernel_rfl) (by kernel_rfl) (by kernel_rfl) (by kernel_rfl)
theorem two_Check_2.con' : ∀ k ds r, two_Check_2.g k ds = some r → Con Try.prog 167 2 two_Check_2.ti two_Check_2.to ds (two_Check_2.rs r) :=
  fun_ok (T := T) T_ok mixed two_Check_2.fn (env := two_Check_2.env) (tbl := two_Check_2.tbl) (gOut := two_Check_2.out) (nin := 1) (cuts := []) (fuel := 100000) rfl (by kernel_rfl) (by kernel_rfl) (by kernel_rfl) (fun x hx => by simp [two_Check_2.tbl] at hx) two_Check_2.o two_Check_2.h (fun k _ => by unfold two_Check_2.env; exact env0_ok)
theorem two_Check_2.con (k : Nat) {x0 : Int} {x1 : Int} (r : Bool × Int) (h : two_Check_2.f k x0 x1 = some r) : Con Try.prog 167 2 two_Check_2.ti two_Check_2.to [⟨Z0, x0⟩, ⟨Z0, x1⟩] (two_Check_2.rs r) :=
  two_Check_2.con' (k + 1) _ r (by show two_Check_2.c k _ = some r; unfold two_Check_2.c; simp only [pop_self, popN]; exact h)
def two_Check_3_1.f (k : Nat) (x0 : (Int × (Int × Unit))) (c_1_0 : Int) : Option (Bool × Int) :=
 (two_Check_2.f k x0.fst c_1_0).bind fun r_1 =>
  if r_1.fst = true then
   some (true, r_1.snd)
  else
   if x0.snd.fst = 1 then
    some (false, r_1.snd)
   else
    some (!decide (x0.snd.fst = -1), r_1.snd)

noncomputable def two_Check_3_1.body : Code := fnBody Try.f170
def two_Check_3_1.ti : Tm := ⟨[(0, .p (.pair Z0 (.pair Z0 .unit))), (1, .ptr 0 0)], [.box [.fn 167 [.ptr 1 0]] 113, .box [.p Z0] 3]⟩
def two_Check_3_1.to : Tm := ⟨[(0, .p .bool)], [.box [.fn 167 [.ptr 1 0]] 113, .box [.p Z0] 3]⟩
def two_Check_3_1.rs (r : Bool × Int) : List Dat := [⟨.bool, r.1⟩, ⟨Z0, r.2⟩]
def two_Check_3_1.out (ds : List Dat) : Option (Bool × Int) := pop .bool ds fun x0 ds => pop Z0 ds fun x1 ds => popN ds (some (x0, x1))
def two_Check_3_1.c (k : Nat) (ds : List Dat) : Option (Bool × Int) := pop (.pair Z0 (.pair Z0 .unit)) ds fun x0 ds => pop Z0 ds fun x1 ds => popN ds (two_Check_3_1.f k x0 x1)
def two_Check_3_1.g : Nat → List Dat → Option (Bool × Int)
 | 0, _ => none
 | k + 1, ds => two_Check_3_1.c k ds
def two_Check_3_1.env (k : Nat) : Nat → List SV → List Chunk → KT (Bool × Int) → Option (Bool × Int) := (envC 167 2 two_Check_2.ti two_Check_2.to (fun ds K => pop Z0 ds fun x0 ds => pop Z0 ds fun x1 ds => popN ds ((two_Check_2.f k x0 x1).bind fun r => K (two_Check_2.rs r))) env0)
def two_Check_3_1.tbl : List (Nat × Tm × (Nat → List Dat → Option (Bool × Int))) := []
noncomputable abbrev two_Check_3_1.R (k : Nat) := run T (two_Check_3_1.env k) Try.f170.ntmps (cutE 2 two_Check_3_1.tbl k) (finE 2 two_Check_3_1.to two_Check_3_1.out) (fnRes Try.f170) [] 100000 true
theorem two_Check_3_1.e (k : Nat) (x0 : (Int × (Int × Unit))) (x1 : Int) : two_Check_3_1.f k x0 x1 = two_Check_3_1.R k ([.code two_Check_3_1.body]) (two_Check_3_1.ti.fill [⟨(.pair Z0 (.pair Z0 .unit)), x0⟩, ⟨Z0, x1⟩]) := by kernel_rfl
theorem two_Check_3_1.h (k : Nat) (ds : List Dat) (r : Bool × Int) (h : two_Check_3_1.g k ds = some r) : ∃ k', k' < k ∧ two_Check_3_1.R k' ([.code two_Check_3_1.body]) (two_Check_3_1.ti.fill ds) = some r := by
  cases k with
  | zero => cases (show none = some r from h)
  | succ k =>
  replace h : two_Check_3_1.c k ds = some r := h
  unfold two_Check_3_1.c at h
  iterate 2 (obtain ⟨_, _, e, g⟩ := pop_some h; clear h; subst e; have h := g; clear g)
  obtain ⟨rfl, g⟩ := popN_some h
  exact ⟨k, Nat.lt_succ_self k, (two_Check_3_1.e k ..).symm.trans g⟩
theorem two_Check_3_1.o (ds : List Dat) (r : Bool × Int) (h : two_Check_3_1.out ds = some r) : ds = two_Check_3_1.rs r := by
  unfold two_Check_3_1.out at h
  iterate 2 (obtain ⟨_, _, e, g⟩ := pop_some h; clear h; subst e; have h := g; clear g)
  obtain ⟨rfl, g⟩ := popN_some h
  cases g
  rfl
theorem two_Check_3_1.fn : FnOk Try.prog 170 Try.f170 two_Check_3_1.body Try.f170.ntmps 2 (fnRes Try.f170) :=
  fnOk_of (by kernel_rfl) (by kernel_rfl) (by kernel_rfl) (by kernel_rfl)
theorem two_Check_3_1.con' : ∀ k ds r, two_Check_3_1.g k ds = some r → Con Try.prog 170 2 two_Check_3_1.ti two_Check_3_1.to ds (two_Check_3_1.rs r) :=
  fun_ok (T := T) T_ok mixed two_Check_3_1.fn (env := two_Check_3_1.env) (tbl := two_Check_3_1.tbl) (gOut := two_Check_3_1.out) (nin := 2) (cuts := []) (fuel := 100000) rfl (by kernel_rfl) (by kernel_rfl) (by kernel_rfl) (fun x hx => by simp [two_Check_3_1.tbl] at hx) two_Check_3_1.o two_Check_3_1.h (fun k _ => by unfold two_Check_3_1.env; exact (envC_ok (fun ds K r h => by
    iterate 2 (obtain ⟨_, _, e, g⟩ := pop_some h; clear h; subst e; have h := g; clear g)
    obtain ⟨rfl, g⟩ := popN_some h
    obtain ⟨r1, h1, h2⟩ := bind_some g
    exact ⟨_, h2, two_Check_2.con k _ h1⟩) env0_ok))
theorem two_Check_3_1.con (k : Nat) {x0 : (Int × (Int × Unit))} {x1 : Int} (r : Bool × Int) (h : two_Check_3_1.f k x0 x1 = some r) : Con Try.prog 170 2 two_Check_3_1.ti two_Check_3_1.to [⟨(.pair Z0 (.pair Z0 .unit)), x0⟩, ⟨Z0, x1⟩] (two_Check_3_1.rs r) :=
  two_Check_3_1.con' (k + 1) _ r (by show two_Check_3_1.c k _ = some r; unfold two_Check_3_1.c; simp only [pop_self, popN]; exact h)
mutual
def Sf11.l2 : Nat → List ((Int × (Int × Unit))) → Int → Int → Int → Option (Int × Int)
 | 0, _, _, _, _ => none
 | k + 1, s0, x7, x8, c_1_0 =>
  if x8 < x7 then
   if 0 ≤ x8 then
   if x8 < (↑s0.length : Int) then
    (two_Check_3_1.f k (rd (Int.ofNat 0, Int.ofNat 0, ()) s0 x8) c_1_0).bind fun r_5 =>
      if r_5.fst = true then
       some (x8, r_5.snd)
      else
       Sf11.l2 k s0 x7 (Go.IntKind.i64.wrap (x8 + 1)) r_5.snd
    else none
   else none
  else
   some (-1, c_1_0)
end
def Sf11.f (k : Nat) (s0 : List ((Int × (Int × Unit)))) (c_1_0 : Int) : Option (Int × Int) :=
 Sf11.l2 k s0 ((↑s0.length : Int)) 0 c_1_0

noncomputable def Sf11.body : Code := fnBody Try.f182
def Sf11.ti : Tm := ⟨[(0, .p Z8), (1, .fn 170 [.ptr 0 0])], [.box [.fn 167 [.ptr 1 0]] 113, .box [.p Z0] 3]⟩
def Sf11.to : Tm := ⟨[(0, .p Z0)], [.box [.fn 167 [.ptr 1 0]] 113, .box [.p Z0] 3]⟩
def Sf11.rs (r : Int × Int) : List Dat := [⟨Z0, r.1⟩, ⟨Z0, r.2⟩]
def Sf11.out (ds : List Dat) : Option (Int × Int) := pop Z0 ds fun x0 ds => pop Z0 ds fun x1 ds => popN ds (some (x0, x1))
def Sf11.c (k : Nat) (ds : List Dat) : Option (Int × Int) := pop Z8 ds fun x0 ds => pop Z0 ds fun x1 ds => popN ds (Sf11.f k x0 x1)
def Sf11.g : Nat → List Dat → Option (Int × Int)
 | 0, _ => none
 | k + 1, ds => Sf11.c k ds
def Sf11.env (k : Nat) : Nat → List SV → List Chunk → KT (Int × Int) → Option (Int × Int) := (envC 170 2 two_Check_3_1.ti two_Check_3_1.to (fun ds K => pop (.pair Z0 (.pair Z0 .unit)) ds fun x0 ds => pop Z0 ds fun x1 ds => popN ds ((two_Check_3_1.f k x0 x1).bind fun r => K (two_Check_3_1.rs r))) env0)
def Sf11.t5 : Tm := ⟨[(0, .p Z8), (1, .fn 170 [.ptr 0 0]), (7, .p Z0), (8, .p Z0)], [.box [.fn 167 [.ptr 1 0]] 113, .box [.p Z0] 3]⟩
def Sf11.c5 (k : Nat) (ds : List Dat) : Option (Int × Int) := pop Z8 ds fun x0 ds => pop Z0 ds fun x1 ds => pop Z0 ds fun x2 ds => pop Z0 ds fun x3 ds => popN ds (Sf11.l2 k x0 x1 x2 x3)
def Sf11.tbl : List (Nat × Tm × (Nat → List Dat → Option (Int × Int))) := [(5, Sf11.t5, Sf11.c5)]
noncomputable abbrev Sf11.R (k : Nat) := run T (Sf11.env k) Try.f182.ntmps (cutE 2 Sf11.tbl k) (finE 2 Sf11.to Sf11.out) (fnRes Try.f182) [] 100000 true
theorem Sf11.e5 (k : Nat) (x0 : (List (Int × (Int × Unit)))) (x1 : Int) (x2 : Int) (x3 : Int) : Sf11.l2 (k + 1) x0 x1 x2 x3 = Sf11.R k (start (stackOf 5 Sf11.body)) (Sf11.t5.fill [⟨Z8, x0⟩, ⟨Z0, x1⟩, ⟨Z0, x2⟩, ⟨Z0, x3⟩]) := by kernel_rfl
theorem Sf11.s5 : stackAt 5 Sf11.body [] = some (stackOf 5 Sf11.body) := by kernel_rfl
theorem Sf11.h5 (k : Nat) (ds : List Dat) (r : Int × Int) (h : Sf11.c5 k ds = some r) : ∃ k', k' < k ∧ ∃ s, stackAt 5 Sf11.body [] = some s ∧ Sf11.R k' (start s) (Sf11.t5.fill ds) = some r := by
  unfold Sf11.c5 at h
  iterate 4 (obtain ⟨_, _, e, g⟩ := pop_some h; clear h; subst e; have h := g; clear g)
  obtain ⟨rfl, g⟩ := popN_some h
  cases k with
  | zero => cases (show none = some r from g)
  | succ k => exact ⟨k, Nat.lt_succ_self k, _, Sf11.s5, (Sf11.e5 k ..).symm.trans g⟩
theorem Sf11.e (k : Nat) (x0 : (List (Int × (Int × Unit)))) (x1 : Int) : Sf11.f k x0 x1 = Sf11.R k ([.code Sf11.body]) (Sf11.ti.fill [⟨Z8, x0⟩, ⟨Z0, x1⟩]) := by kernel_rfl
theorem Sf11.h (k : Nat) (ds : List Dat) (r : Int × Int) (h : Sf11.g k ds = some r) : ∃ k', k' < k ∧ Sf11.R k' ([.code Sf11.body]) (Sf11.ti.fill ds) = some r := by
  cases k with
  | zero => cases (show none = some r from h)
  | succ k =>
  replace h : Sf11.c k ds = some r := h
  unfold Sf11.c at h
  iterate 2 (obtain ⟨_, _, e, g⟩ := pop_some h; clear h; subst e; have h := g; clear g)
  obtain ⟨rfl, g⟩ := popN_some h
  exact ⟨k, Nat.lt_succ_self k, (Sf11.e k ..).symm.trans g⟩
theorem Sf11.o (ds : List Dat) (r : Int × Int) (h : Sf11.out ds = some r) : ds = Sf11.rs r := by
  unfold Sf11.out at h
  iterate 2 (obtain ⟨_, _, e, g⟩ := pop_some h; clear h; subst e; have h := g; clear g)
  obtain ⟨rfl, g⟩ := popN_some h
  cases g
  rfl
theorem Sf11.fn : FnOk Try.prog 182 Try.f182 Sf11.body Try.f182.ntmps 2 (fnRes Try.f182) :=
  fnOk_of (by kernel_rfl) (by kernel_rfl) (by kernel_rfl) (by kernel_rfl)
theorem Sf11.con' : ∀ k ds r, Sf11.g k ds = some r → Con Try.prog 182 2 Sf11.ti Sf11.to ds (Sf11.rs r) :=
  fun_ok (T := T) T_ok mixed Sf11.fn (env := Sf11.env) (tbl := Sf11.tbl) (gOut := Sf11.out) (nin := 2) (cuts := []) (fuel := 100000) rfl (by kernel_rfl) (by kernel_rfl) (by kernel_rfl) (fun x hx => by
    simp only [Sf11.tbl, List.mem_cons, List.not_mem_nil, or_false] at hx
    subst hx
    · exact Sf11.h5
) Sf11.o Sf11.h (fun k _ => by unfold Sf11.env; exact (envC_ok (fun ds K r h => by
    iterate 2 (obtain ⟨_, _, e, g⟩ := pop_some h; clear h; subst e; have h := g; clear g)
    obtain ⟨rfl, g⟩ := popN_some h
    obtain ⟨r1, h1, h2⟩ := bind_some g
    exact ⟨_, h2, two_Check_3_1.con k _ h1⟩) env0_ok))
theorem Sf11.con (k : Nat) {x0 : (List (Int × (Int × Unit)))} {x1 : Int} (r : Int × Int) (h : Sf11.f k x0 x1 = some r) : Con Try.prog 182 2 Sf11.ti Sf11.to [⟨Z8, x0⟩, ⟨Z0, x1⟩] (Sf11.rs r) :=
  Sf11.con' (k + 1) _ r (by show Sf11.c k _ = some r; unfold Sf11.c; simp only [pop_self, popN]; exact h)
def Sf12.f (k : Nat) (s0 : List ((Int × (Int × Unit)))) (c_1_0 : Int) : Option (Bool × Int) :=
 (Sf11.f k s0 c_1_0).bind fun r_1 =>
  some (decide (0 ≤ r_1.fst), r_1.snd)

noncomputable def Sf12.body : Code := fnBody Try.f169
def Sf12.ti : Tm := ⟨[(0, .p Z8), (1, .fn 170 [.ptr 0 0])], [.box [.fn 167 [.ptr 1 0]] 113, .box [.p Z0] 3]⟩
def Sf12.to : Tm := ⟨[(0, .p .bool)], [.box [.fn 167 [.ptr 1 0]] 113, .box [.p Z0] 3]⟩
def Sf12.rs (r : Bool × Int) : List Dat := [⟨.bool, r.1⟩, ⟨Z0, r.2⟩]
def Sf12.out (ds : List Dat) : Option (Bool × Int) := pop .bool ds fun x0 ds => pop Z0 ds fun x1 ds => popN ds (some (x0, x1))
def Sf12.c (k : Nat) (ds : List Dat) : Option (Bool × Int) := pop Z8 ds fun x0 ds => pop Z0 ds fun x1 ds => popN ds (Sf12.f k x0 x1)
def Sf12.g : Nat → List Dat → Option (Bool × Int)
 | 0, _ => none
 | k + 1, ds => Sf12.c k ds
def Sf12.env (k : Nat) : Nat → List SV → List Chunk → KT (Bool × Int) → Option (Bool × Int) := (envC 182 2 Sf11.ti Sf11.to (fun ds K => pop Z8 ds fun x0 ds => pop Z0 ds fun x1 ds => popN ds ((Sf11.f k x0 x1).bind fun r => K (Sf11.rs r))) env0)
def Sf12.tbl : List (Nat × Tm × (Nat → List Dat → Option (Bool × Int))) := []
noncomputable abbrev Sf12.R (k : Nat) := run T (Sf12.env k) Try.f169.ntmps (cutE 2 Sf12.tbl k) (finE 2 Sf12.to Sf12.out) (fnRes Try.f169) [] 100000 true
theorem Sf12.e (k : Nat) (x0 : (List (Int × (Int × Unit)))) (x1 : Int) : Sf12.f k x0 x1 = Sf12.R k ([.code Sf12.body]) (Sf12.ti.fill [⟨Z8, x0⟩, ⟨Z0, x1⟩]) := by kernel_rfl
theorem Sf12.h (k : Nat) (ds : List Dat) (r : Bool × Int) (h : Sf12.g k ds = some r) : ∃ k', k' < k ∧ Sf12.R k' ([.code Sf12.body]) (Sf12.ti.fill ds) = some r := by
  cases k with
  | zero => cases (show none = some r from h)
  | succ k =>
  replace h : Sf12.c k ds = some r := h
  unfold Sf12.c at h
  iterate 2 (obtain ⟨_, _, e, g⟩ := pop_some h; clear h; subst e; have h := g; clear g)
  obtain ⟨rfl, g⟩ := popN_some h
  exact ⟨k, Nat.lt_succ_self k, (Sf12.e k ..).symm.trans g⟩
theorem Sf12.o (ds : List Dat) (r : Bool × Int) (h : Sf12.out ds = some r) : ds = Sf12.rs r := by
  unfold Sf12.out at h
  iterate 2 (obtain ⟨_, _, e, g⟩ := pop_some h; clear h; subst e; have h := g; clear g)
  obtain ⟨rfl, g⟩ := popN_some h
  cases g
  rfl
theorem Sf12.fn : FnOk Try.prog 169 Try.f169 Sf12.body Try.f169.ntmps 2 (fnRes Try.f169) :=
  fnOk_of (by kernel_rfl) (by kernel_rfl) (by kernel_rfl) (by kernel_rfl)
theorem Sf12.con' : ∀ k ds r, Sf12.g k ds = some r → Con Try.prog 169 2 Sf12.ti Sf12.to ds (Sf12.rs r) :=
  fun_ok (T := T) T_ok mixed Sf12.fn (env := Sf12.env) (tbl := Sf12.tbl) (gOut := Sf12.out) (nin := 2) (cuts := []) (fuel := 100000) rfl (by kernel_rfl) (by kernel_rfl) (by kernel_rfl) (fun x hx => by simp [Sf12.tbl] at hx) Sf12.o Sf12.h (fun k _ => by unfold Sf12.env; exact (envC_ok (fun ds K r h => by
    iterate 2 (obtain ⟨_, _, e, g⟩ := pop_some h; clear h; subst e; have h := g; clear g)
    obtain ⟨rfl, g⟩ := popN_some h
    obtain ⟨r1, h1, h2⟩ := bind_some g
    exact ⟨_, h2, Sf11.con k _ h1⟩) env0_ok))
theorem Sf12.con (k : Nat) {x0 : (List (Int × (Int × Unit)))} {x1 : Int} (r : Bool × Int) (h : Sf12.f k x0 x1 = some r) : Con Try.prog 169 2 Sf12.ti Sf12.to [⟨Z8, x0⟩, ⟨Z0, x1⟩] (Sf12.rs r) :=
  Sf12.con' (k + 1) _ r (by show Sf12.c k _ = some r; unfold Sf12.c; simp only [pop_self, popN]; exact h)
def two_Check_3.f (k : Nat) (r0 : List ((Int × (Int × Unit)))) (c_1_0 : Int) : Option (Bool × Int) :=
 (Sf12.f k r0 c_1_0).bind fun r_1 =>
  some (r_1.fst, r_1.snd)

noncomputable def two_Check_3.body : Code := fnBody Try.f168
def two_Check_3.ti : Tm := ⟨[(0, .p Z8), (1, .ptr 0 0)], [.box [.fn 167 [.ptr 1 0]] 113, .box [.p Z0] 3]⟩
def two_Check_3.to : Tm := ⟨[(0, .p .bool)], [.box [.fn 167 [.ptr 1 0]] 113, .box [.p Z0] 3]⟩
def two_Check_3.rs (r : Bool × Int) : List Dat := [⟨.bool, r.1⟩, ⟨Z0, r.2⟩]
def two_Check_3.out (ds : List Dat) : Option (Bool × Int) := pop .bool ds fun x0 ds => pop Z0 ds fun x1 ds => popN ds (some (x0, x1))
def two_Check_3.c (k : Nat) (ds : List Dat) : Option (Bool × Int) := pop Z8 ds fun x0 ds => pop Z0 ds fun x1 ds => popN ds (two_Check_3.f k x0 x1)
def two_Check_3.g : Nat → List Dat → Option (Bool × Int)
 | 0, _ => none
 | k + 1, ds => two_Check_3.c k ds
def two_Check_3.env (k : Nat) : Nat → List SV → List Chunk → KT (Bool × Int) → Option (Bool × Int) := (envC 169 2 Sf12.ti Sf12.to (fun ds K => pop Z8 ds fun x0 ds => pop Z0 ds fun x1 ds => popN ds ((Sf12.f k x0 x1).bind fun r => K (Sf12.rs r))) env0)
def two_Check_3.tbl : List (Nat × Tm × (Nat → List Dat → Option (Bool × Int))) := []
noncomputable abbrev two_Check_3.R (k : Nat) := run T (two_Check_3.env k) Try.f168.ntmps (cutE 2 two_Check_3.tbl k) (finE 2 two_Check_3.to two_Check_3.out) (fnRes Try.f168) [] 100000 true
theorem two_Check_3.e (k : Nat) (x0 : (List (Int × (Int × Unit)))) (x1 : Int) : two_Check_3.f k x0 x1 = two_Check_3.R k ([.code two_Check_3.body]) (two_Check_3.ti.fill [⟨Z8, x0⟩, ⟨Z0, x1⟩]) := by kernel_rfl
theorem two_Check_3.h (k : Nat) (ds : List Dat) (r : Bool × Int) (h : two_Check_3.g k ds = some r) : ∃ k', k' < k ∧ two_Check_3.R k' ([.code two_Check_3.body]) (two_Check_3.ti.fill ds) = some r := by
  cases k with
  | zero => cases (show none = some r from h)
  | succ k =>
  replace h : two_Check_3.c k ds = some r := h
  unfold two_Check_3.c at h
  iterate 2 (obtain ⟨_, _, e, g⟩ := pop_some h; clear h; subst e; have h := g; clear g)
  obtain ⟨rfl, g⟩ := popN_some h
  exact ⟨k, Nat.lt_succ_self k, (two_Check_3.e k ..).symm.trans g⟩
theorem two_Check_3.o (ds : List Dat) (r : Bool × Int) (h : two_Check_3.out ds = some r) : ds = two_Check_3.rs r := by
  unfold two_Check_3.out at h
  iterate 2 (obtain ⟨_, _, e, g⟩ := pop_some h; clear h; subst e; have h := g; clear g)
  obtain ⟨rfl, g⟩ := popN_some h
  cases g
  rfl
theorem two_Check_3.fn : FnOk Try.prog 168 Try.f168 two_Check_3.body Try.f168.ntmps 2 (fnRes Try.f168) :=
  fnOk_of (by kernel_rfl) (by kernel_rfl) (by kernel_rfl) (by kernel_rfl)
theorem two_Check_3.con' : ∀ k ds r, two_Check_3.g k ds = some r → Con Try.prog 168 2 two_Check_3.ti two_Check_3.to ds (two_Check_3.rs r) :=
  fun_ok (T := T) T_ok mixed two_Check_3.fn (env := two_Check_3.env) (tbl := two_Check_3.tbl) (gOut := two_Check_3.out) (nin := 2) (cuts := []) (fuel := 100000) rfl (by kernel_rfl) (by kernel_rfl) (by kernel_rfl) (fun x hx => by simp [two_Check_3.tbl] at hx) two_Check_3.o two_Check_3.h (fun k _ => by unfold two_Check_3.env; exact (envC_ok (fun ds K r h => by
    iterate 2 (obtain ⟨_, _, e, g⟩ := pop_some h; clear h; subst e; have h := g; clear g)
    obtain ⟨rfl, g⟩ := popN_some h
    obtain ⟨r1, h1, h2⟩ := bind_some g
    exact ⟨_, h2, Sf12.con k _ h1⟩) env0_ok))
theorem two_Check_3.con (k : Nat) {x0 : (List (Int × (Int × Unit)))} {x1 : Int} (r : Bool × Int) (h : two_Check_3.f k x0 x1 = some r) : Con Try.prog 168 2 two_Check_3.ti two_Check_3.to [⟨Z8, x0⟩, ⟨Z0, x1⟩] (two_Check_3.rs r) :=
  two_Check_3.con' (k + 1) _ r (by show two_Check_3.c k _ = some r; unfold two_Check_3.c; simp only [pop_self, popN]; exact h)
mutual
def Sf13.l2 : Nat → List (List ((Int × (Int × Unit)))) → Int → Int → Int → Option (Int × Int)
 | 0, _, _, _, _ => none
 | k + 1, s0, x7, x8, c_1_0 =>
  if x8 < x7 then
   if 0 ≤ x8 then
   if x8 < (↑s0.length : Int) then
    (two_Check_3.f k (rd [] s0 x8) c_1_0).bind fun r_5 =>
      if r_5.fst = true then
       some (x8, r_5.snd)
      else
       Sf13.l2 k s0 x7 (Go.IntKind.i64.wrap (x8 + 1)) r_5.snd
    else none
   else none
  else
   some (-1, c_1_0)
end
def Sf13.f (k : Nat) (s0 : List (List ((Int × (Int × Unit))))) (c_1_0 : Int) : Option (Int × Int) :=
 Sf13.l2 k s0 ((↑s0.length : Int)) 0 c_1_0

noncomputable def Sf13.body : Code := fnBody Try.f181
def Sf13.ti : Tm := ⟨[(0, .p Z2), (1, .fn 168 [.ptr 0 0])], [.box [.fn 167 [.ptr 1 0]] 113, .box [.p Z0] 3]⟩
def Sf13.to : Tm := ⟨[(0, .p Z0)], [.box [.fn 167 [.ptr 1 0]] 113, .box [.p Z0] 3]⟩
def Sf13.rs (r : Int × Int) : List Dat := [⟨Z0, r.1⟩, ⟨Z0, r.2⟩]
def Sf13.out (ds : List Dat) : Option (Int × Int) := pop Z0 ds fun x0 ds => pop Z0 ds fun x1 ds => popN ds (some (x0, x1))
def Sf13.c (k : Nat) (ds : List Dat) : Option (Int × Int) := pop Z2 ds fun x0 ds => pop Z0 ds fun x1 ds => popN ds (Sf13.f k x0 x1)
def Sf13.g : Nat → List Dat → Option (Int × Int)
 | 0, _ => none
 | k + 1, ds => Sf13.c k ds
def Sf13.env (k : Nat) : Nat → List SV → List Chunk → KT (Int × Int) → Option (Int × Int) := (envC 168 2 two_Check_3.ti two_Check_3.to (fun ds K => pop Z8 ds fun x0 ds => pop Z0 ds fun x1 ds => popN ds ((two_Check_3.f k x0 x1).bind fun r => K (two_Check_3.rs r))) env0)
def Sf13.t5 : Tm := ⟨[(0, .p Z2), (1, .fn 168 [.ptr 0 0]), (7, .p Z0), (8, .p Z0)], [.box [.fn 167 [.ptr 1 0]] 113, .box [.p Z0] 3]⟩
def Sf13.c5 (k : Nat) (ds : List Dat) : Option (Int × Int) := pop Z2 ds fun x0 ds => pop Z0 ds fun x1 ds => pop Z0 ds fun x2 ds => pop Z0 ds fun x3 ds => popN ds (Sf13.l2 k x0 x1 x2 x3)
def Sf13.tbl : List (Nat × Tm × (Nat → List Dat → Option (Int × Int))) := [(5, Sf13.t5, Sf13.c5)]
noncomputable abbrev Sf13.R (k : Nat) := run T (Sf13.env k) Try.f181.ntmps (cutE 2 Sf13.tbl k) (finE 2 Sf13.to Sf13.out) (fnRes Try.f181) [] 100000 true
theorem Sf13.e5 (k : Nat) (x0 : (List (List (Int × (Int × Unit))))) (x1 : Int) (x2 : Int) (x3 : Int) : Sf13.l2 (k + 1) x0 x1 x2 x3 = Sf13.R k (start (stackOf 5 Sf13.body)) (Sf13.t5.fill [⟨Z2, x0⟩, ⟨Z0, x1⟩, ⟨Z0, x2⟩, ⟨Z0, x3⟩]) := by kernel_rfl
theorem Sf13.s5 : stackAt 5 Sf13.body [] = some (stackOf 5 Sf13.body) := by kernel_rfl
theorem Sf13.h5 (k : Nat) (ds : List Dat) (r : Int × Int) (h : Sf13.c5 k ds = some r) : ∃ k', k' < k ∧ ∃ s, stackAt 5 Sf13.body [] = some s ∧ Sf13.R k' (start s) (Sf13.t5.fill ds) = some r := by
  unfold Sf13.c5 at h
  iterate 4 (obtain ⟨_, _, e, g⟩ := pop_some h; clear h; subst e; have h := g; clear g)
  obtain ⟨rfl, g⟩ := popN_some h
  cases k with
  | zero => cases (show none = some r from g)
  | succ k => exact ⟨k, Nat.lt_succ_self k, _, Sf13.s5, (Sf13.e5 k ..).symm.trans g⟩
theorem Sf13.e (k : Nat) (x0 : (List (List (Int × (Int × Unit))))) (x1 : Int) : Sf13.f k x0 x1 = Sf13.R k ([.code Sf13.body]) (Sf13.ti.fill [⟨Z2, x0⟩, ⟨Z0, x1⟩]) := by kernel_rfl
theorem Sf13.h (k : Nat) (ds : List Dat) (r : Int × Int) (h : Sf13.g k ds = some r) : ∃ k', k' < k ∧ Sf13.R k' ([.code Sf13.body]) (Sf13.ti.fill ds) = some r := by
  cases k with
  | zero => cases (show none = some r from h)
  | succ k =>
  replace h : Sf13.c k ds = some r := h
  unfold Sf13.c at h
  iterate 2 (obtain ⟨_, _, e, g⟩ := pop_some h; clear h; subst e; have h := g; clear g)
  obtain ⟨rfl, g⟩ := popN_some h
  exact ⟨k, Nat.lt_succ_self k, (Sf13.e k ..).symm.trans g⟩
theorem Sf13.o (ds : List Dat) (r : Int × Int) (h : Sf13.out ds = some r) : ds = Sf13.rs r := by
  unfold Sf13.out at h
  iterate 2 (obtain ⟨_, _, e, g⟩ := pop_some h; clear h; subst e; have h := g; clear g)
  obtain ⟨rfl, g⟩ := popN_some h
  cases g
  rfl
theorem Sf13.fn : FnOk Try.prog 181 Try.f181 Sf13.body Try.f181.ntmps 2 (fnRes Try.f181) :=
  fnOk_of (by kernel_rfl) (by kernel_rfl) (by kernel_rfl) (by kernel_rfl)
theorem Sf13.con' : ∀ k ds r, Sf13.g k ds = some r → Con Try.prog 181 2 Sf13.ti Sf13.to ds (Sf13.rs r) :=
  fun_ok (T := T) T_ok mixed Sf13.fn (env := Sf13.env) (tbl := Sf13.tbl) (gOut := Sf13.out) (nin := 2) (cuts := []) (fuel := 100000) rfl (by kernel_rfl) (by kernel_rfl) (by kernel_rfl) (fun x hx => by
    simp only [Sf13.tbl, List.mem_cons, List.not_mem_nil, or_false] at hx
    subst hx
    · exact Sf13.h5
) Sf13.o Sf13.h (fun k _ => by unfold Sf13.env; exact (envC_ok (fun ds K r h => by
    iterate 2 (obtain ⟨_, _, e, g⟩ := pop_some h; clear h; subst e; have h := g; clear g)
    obtain ⟨rfl, g⟩ := popN_some h
    obtain ⟨r1, h1, h2⟩ := bind_some g
    exact ⟨_, h2, two_Check_3.con k _ h1⟩) env0_ok))
theorem Sf13.con (k : Nat) {x0 : (List (List (Int × (Int × Unit))))} {x1 : Int} (r : Int × Int) (h : Sf13.f k x0 x1 = some r) : Con Try.prog 181 2 Sf13.ti Sf13.to [⟨Z2, x0⟩, ⟨Z0, x1⟩] (Sf13.rs r) :=
  Sf13.con' (k + 1) _ r (by show Sf13.c k _ = some r; unfold Sf13.c; simp only [pop_self, popN]; exact h)
def Sf14.f (k : Nat) (s0 : List (List ((Int × (Int × Unit))))) (c_1_0 : Int) : Option (Bool × Int) :=
 (Sf13.f k s0 c_1_0).bind fun r_1 =>
  some (decide (0 ≤ r_1.fst), r_1.snd)

noncomputable def Sf14.body : Code := fnBody Try.f165
def Sf14.ti : Tm := ⟨[(0, .p Z2), (1, .fn 168 [.ptr 0 0])], [.box [.fn 167 [.ptr 1 0]] 113, .box [.p Z0] 3]⟩
def Sf14.to : Tm := ⟨[(0, .p .bool)], [.box [.fn 167 [.ptr 1 0]] 113, .box [.p Z0] 3]⟩
def Sf14.rs (r : Bool × Int) : List Dat := [⟨.bool, r.1⟩, ⟨Z0, r.2⟩]
def Sf14.out (ds : List Dat) : Option (Bool × Int) := pop .bool ds fun x0 ds => pop Z0 ds fun x1 ds => popN ds (some (x0, x1))
def Sf14.c (k : Nat) (ds : List Dat) : Option (Bool × Int) := pop Z2 ds fun x0 ds => pop Z0 ds fun x1 ds => popN ds (Sf14.f k x0 x1)
def Sf14.g : Nat → List Dat → Option (Bool × Int)
 | 0, _ => none
 | k + 1, ds => Sf14.c k ds
def Sf14.env (k : Nat) : Nat → List SV → List Chunk → KT (Bool × Int) → Option (Bool × Int) := (envC 181 2 Sf13.ti Sf13.to (fun ds K => pop Z2 ds fun x0 ds => pop Z0 ds fun x1 ds => popN ds ((Sf13.f k x0 x1).bind fun r => K (Sf13.rs r))) env0)
def Sf14.tbl : List (Nat × Tm × (Nat → List Dat → Option (Bool × Int))) := []
noncomputable abbrev Sf14.R (k : Nat) := run T (Sf14.env k) Try.f165.ntmps (cutE 2 Sf14.tbl k) (finE 2 Sf14.to Sf14.out) (fnRes Try.f165) [] 100000 true
theorem Sf14.e (k : Nat) (x0 : (List (List (Int × (Int × Unit))))) (x1 : Int) : Sf14.f k x0 x1 = Sf14.R k ([.code Sf14.body]) (Sf14.ti.fill [⟨Z2, x0⟩, ⟨Z0, x1⟩]) := by kernel_rfl
theorem Sf14.h (k : Nat) (ds : List Dat) (r : Bool × Int) (h : Sf14.g k ds = some r) : ∃ k', k' < k ∧ Sf14.R k' ([.code Sf14.body]) (Sf14.ti.fill ds) = some r := by
  cases k with
  | zero => cases (show none = some r from h)
  | succ k =>
  replace h : Sf14.c k ds = some r := h
  unfold Sf14.c at h
  iterate 2 (obtain ⟨_, _, e, g⟩ := pop_some h; clear h; subst e; have h := g; clear g)
  obtain ⟨rfl, g⟩ := popN_some h
  exact ⟨k, Nat.lt_succ_self k, (Sf14.e k ..).symm.trans g⟩
theorem Sf14.o (ds : List Dat) (r : Bool × Int) (h : Sf14.out ds = some r) : ds = Sf14.rs r := by
  unfold Sf14.out at h
  iterate 2 (obtain ⟨_, _, e, g⟩ := pop_some h; clear h; subst e; have h := g; clear g)
  obtain ⟨rfl, g⟩ := popN_some h
  cases g
  rfl
theorem Sf14.fn : FnOk Try.prog 165 Try.f165 Sf14.body Try.f165.ntmps 2 (fnRes Try.f165) :=
  fnOk_of (by kernel_rfl) (by kernel_rfl) (by kernel_rfl) (by kernel_rfl)
theorem Sf14.con' : ∀ k ds r, Sf14.g k ds = some r → Con Try.prog 165 2 Sf14.ti Sf14.to ds (Sf14.rs r) :=
  fun_ok (T := T) T_ok mixed Sf14.fn (env := Sf14.env) (tbl := Sf14.tbl) (gOut := Sf14.out) (nin := 2) (cuts := []) (fuel := 100000) rfl (by kernel_rfl) (by kernel_rfl) (by kernel_rfl) (fun x hx => by simp [Sf14.tbl] at hx) Sf14.o Sf14.h (fun k _ => by unfold Sf14.env; exact (envC_ok (fun ds K r h => by
    iterate 2 (obtain ⟨_, _, e, g⟩ := pop_some h; clear h; subst e; have h := g; clear g)
    obtain ⟨rfl, g⟩ := popN_some h
    obtain ⟨r1, h1, h2⟩ := bind_some g
    exact ⟨_, h2, Sf13.con k _ h1⟩) env0_ok))
theorem Sf14.con (k : Nat) {x0 : (List (List (Int × (Int × Unit))))} {x1 : Int} (r : Bool × Int) (h : Sf14.f k x0 x1 = some r) : Con Try.prog 165 2 Sf14.ti Sf14.to [⟨Z2, x0⟩, ⟨Z0, x1⟩] (Sf14.rs r) :=
  Sf14.con' (k + 1) _ r (by show Sf14.c k _ = some r; unfold Sf14.c; simp only [pop_self, popN]; exact h)
def two_Check_4.f (k : Nat) (m0 : Int) : Option (Bool) :=
 if m0 = 0 then
  some (false)
 else
  some (!decide (m0 = 1))

noncomputable def two_Check_4.body : Code := fnBody Try.f171
def two_Check_4.ti : Tm := ⟨[(0, .p Z0)], []⟩
def two_Check_4.to : Tm := ⟨[(0, .p .bool)], []⟩
def two_Check_4.rs (r : Bool) : List Dat := [⟨.bool, r⟩]
def two_Check_4.out (ds : List Dat) : Option (Bool) := pop .bool ds fun x0 ds => popN ds (some (x0))
def two_Check_4.c (k : Nat) (ds : List Dat) : Option (Bool) := pop Z0 ds fun x0 ds => popN ds (two_Check_4.f k x0)
def two_Check_4.g : Nat → List Dat → Option (Bool)
 | 0, _ => none
 | k + 1, ds => two_Check_4.c k ds
def two_Check_4.env (k : Nat) : Nat → List SV → List Chunk → KT (Bool) → Option (Bool) := env0
def two_Check_4.tbl : List (Nat × Tm × (Nat → List Dat → Option (Bool))) := []
noncomputable abbrev two_Check_4.R (k : Nat) := run T (two_Check_4.env k) Try.f171.ntmps (cutE 0 two_Check_4.tbl k) (finE 0 two_Check_4.to two_Check_4.out) (fnRes Try.f171) [] 100000 true
theorem two_Check_4.e (k : Nat) (x0 : Int) : two_Check_4.f k x0 = two_Check_4.R k ([.code two_Check_4.body]) (two_Check_4.ti.fill [⟨Z0, x0⟩]) := by kernel_rfl
theorem two_Check_4.h (k : Nat) (ds : List Dat) (r : Bool) (h : two_Check_4.g k ds = some r) : ∃ k', k' < k ∧ two_Check_4.R k' ([.code two_Check_4.body]) (two_Check_4.ti.fill ds) = some r := by
  cases k with
  | zero => cases (show none = some r from h)
  | succ k =>
  replace h : two_Check_4.c k ds = some r := h
  unfold two_Check_4.c at h
  obtain ⟨x0, d0, rfl, h0⟩ := pop_some h
  obtain ⟨rfl, g⟩ := popN_some h0
  exact ⟨k, Nat.lt_succ_self k, (two_Check_4.e k ..).symm.trans g⟩
theorem two_Check_4.o (ds : List Dat) (r : Bool) (h : two_Check_4.out ds = some r) : ds = two_Check_4.rs r := by
  unfold two_Check_4.out at h
  obtain ⟨x0, d0, rfl, h0⟩ := pop_some h
  obtain ⟨rfl, g⟩ := popN_some h0
  cases g
  rfl
theorem two_Check_4.fn : FnOk Try.prog 171 Try.f171 two_Check_4.body Try.f171.ntmps 1 (fnRes Try.f171) :=
  fnOk_of (by kernel_rfl) (by kernel_rfl) (by kernel_rfl) (by kernel_rfl)
theorem two_Check_4.con' : ∀ k ds r, two_Check_4.g k ds = some r → Con Try.prog 171 1 two_Check_4.ti two_Check_4.to ds (two_Check_4.rs r) :=
  fun_ok (T := T) T_ok mixed two_Check_4.fn (env := two_Check_4.env) (tbl := two_Check_4.tbl) (gOut := two_Check_4.out) (nin := 0) (cuts := []) (fuel := 100000) rfl (by kernel_rfl) (by kernel_rfl) (by kernel_rfl) (fun x hx => by simp [two_Check_4.tbl] at hx) two_Check_4.o two_Check_4.h (fun k _ => by unfold two_Check_4.env; exact env0_ok)
theorem two_Check_4.con (k : Nat) {x0 : Int} (r : Bool) (h : two_Check_4.f k x0 = some r) : Con Try.prog 171 1 two_Check_4.ti two_Check_4.to [⟨Z0, x0⟩] (two_Check_4.rs r) :=
  two_Check_4.con' (k + 1) _ r (by show two_Check_4.c k _ = some r; unfold two_Check_4.c; simp only [pop_self, popN]; exact h)
mutual
def Sf15.l2 : Nat → List (Int) → Int → Int → Option (Int)
 | 0, _, _, _ => none
 | k + 1, s0, x7, x8 =>
  if x8 < x7 then
   if 0 ≤ x8 then
   if x8 < (↑s0.length : Int) then
    (two_Check_4.f k (rd (Int.ofNat 0) s0 x8)).bind fun r_5 =>
      if r_5 = true then
       some (x8)
      else
       Sf15.l2 k s0 x7 (Go.IntKind.i64.wrap (x8 + 1))
    else none
   else none
  else
   some (-1)
end
def Sf15.f (k : Nat) (s0 : List (Int)) : Option (Int) :=
 Sf15.l2 k s0 ((↑s0.length : Int)) 0

noncomputable def Sf15.body : Code := fnBody Try.f146
def Sf15.ti : Tm := ⟨[(0, .p Z1), (1, .fn 171 [])], []⟩
def Sf15.to : Tm := ⟨[(0, .p Z0)], []⟩
def Sf15.rs (r : Int) : List Dat := [⟨Z0, r⟩]
def Sf15.out (ds : List Dat) : Option (Int) := pop Z0 ds fun x0 ds => popN ds (some (x0))
def Sf15.c (k : Nat) (ds : List Dat) : Option (Int) := pop Z1 ds fun x0 ds => popN ds (Sf15.f k x0)
def Sf15.g : Nat → List Dat → Option (Int)
 | 0, _ => none
 | k + 1, ds => Sf15.c k ds
def Sf15.env (k : Nat) : Nat → List SV → List Chunk → KT (Int) → Option (Int) := (envC 171 1 two_Check_4.ti two_Check_4.to (fun ds K => pop Z0 ds fun x0 ds => popN ds ((two_Check_4.f k x0).bind fun r => K (two_Check_4.rs r))) env0)
def Sf15.t5 : Tm := ⟨[(0, .p Z1), (1, .fn 171 []), (7, .p Z0), (8, .p Z0)], []⟩
def Sf15.c5 (k : Nat) (ds : List Dat) : Option (Int) := pop Z1 ds fun x0 ds => pop Z0 ds fun x1 ds => pop Z0 ds fun x2 ds => popN ds (Sf15.l2 k x0 x1 x2)
def Sf15.tbl : List (Nat × Tm × (Nat → List Dat → Option (Int))) := [(5, Sf15.t5, Sf15.c5)]
noncomputable abbrev Sf15.R (k : Nat) := run T (Sf15.env k) Try.f146.ntmps (cutE 0 Sf15.tbl k) (finE 0 Sf15.to Sf15.out) (fnRes Try.f146) [] 100000 true
theorem Sf15.e5 (k : Nat) (x0 : (List Int)) (x1 : Int) (x2 : Int) : Sf15.l2 (k + 1) x0 x1 x2 = Sf15.R k (start (stackOf 5 Sf15.body)) (Sf15.t5.fill [⟨Z1, x0⟩, ⟨Z0, x1⟩, ⟨Z0, x2⟩]) := by kernel_rfl
theorem Sf15.s5 : stackAt 5 Sf15.body [] = some (stackOf 5 Sf15.body) := by kernel_rfl
theorem Sf15.h5 (k : Nat) (ds : List Dat) (r : Int) (h : Sf15.c5 k ds = some r) : ∃ k', k' < k ∧ ∃ s, stackAt 5 Sf15.body [] = some s ∧ Sf15.R k' (start s) (Sf15.t5.fill ds) = some r := by
  unfold Sf15.c5 at h
  iterate 3 (obtain ⟨_, _, e, g⟩ := pop_some h; clear h; subst e; have h := g; clear g)
  obtain ⟨rfl, g⟩ := popN_some h
  cases k with
  | zero => cases (show none = some r from g)
  | succ k => exact ⟨k, Nat.lt_succ_self k, _, Sf15.s5, (Sf15.e5 k ..).symm.trans g⟩
theorem Sf15.e (k : Nat) (x0 : (List Int)) : Sf15.f k x0 = Sf15.R k ([.code Sf15.body]) (Sf15.ti.fill [⟨Z1, x0⟩]) := by kernel_rfl
theorem Sf15.h (k : Nat) (ds : List Dat) (r : Int) (h : Sf15.g k ds = some r) : ∃ k', k' < k ∧ Sf15.R k' ([.code Sf15.body]) (Sf15.ti.fill ds) = some r := by
  cases k with
  | zero => cases (show none = some r from h)
  | succ k =>
  replace h : Sf15.c k ds = some r := h
  unfold Sf15.c at h
  obtain ⟨x0, d0, rfl, h0⟩ := pop_some h
  obtain ⟨rfl, g⟩ := popN_some h0
  exact ⟨k, Nat.lt_succ_self k, (Sf15.e k ..).symm.trans g⟩
theorem Sf15.o (ds : List Dat) (r : Int) (h : Sf15.out ds = some r) : ds = Sf15.rs r := by
  unfold Sf15.out at h
  obtain ⟨x0, d0, rfl, h0⟩ := pop_some h
  obtain ⟨rfl, g⟩ := popN_some h0
  cases g
  rfl
theorem Sf15.fn : FnOk Try.prog 146 Try.f146 Sf15.body Try.f146.ntmps 2 (fnRes Try.f146) :=
  fnOk_of (by kernel_rfl) (by kernel_rfl) (by kernel_rfl) (by kernel_rfl)
theorem Sf15.con' : ∀ k ds r, Sf15.g k ds = some r → Con Try.prog 146 2 Sf15.ti Sf15.to ds (Sf15.rs r) :=
  fun_ok (T := T) T_ok mixed Sf15.fn (env := Sf15.env) (tbl := Sf15.tbl) (gOut := Sf15.out) (nin := 0) (cuts := []) (fuel := 100000) rfl (by kernel_rfl) (by kernel_rfl) (by kernel_rfl) (fun x hx => by
    simp only [Sf15.tbl, List.mem_cons, List.not_mem_nil, or_false] at hx
    subst hx
    · exact Sf15.h5
) Sf15.o Sf15.h (fun k _ => by unfold Sf15.env; exact (envC_ok (fun ds K r h => by
    obtain ⟨x0, d0, rfl, h0⟩ := pop_some h
    obtain ⟨rfl, g⟩ := popN_some h0
    obtain ⟨r1, h1, h2⟩ := bind_some g
    exact ⟨_, h2, two_Check_4.con k _ h1⟩) env0_ok))
theorem Sf15.con (k : Nat) {x0 : (List Int)} (r : Int) (h : Sf15.f k x0 = some r) : Con Try.prog 146 2 Sf15.ti Sf15.to [⟨Z1, x0⟩] (Sf15.rs r) :=
  Sf15.con' (k + 1) _ r (by show Sf15.c k _ = some r; unfold Sf15.c; simp only [pop_self, popN]; exact h)
def Sf16.f (k : Nat) (s0 : List (Int)) : Option (Bool) :=
 (Sf15.f k s0).bind fun r_1 =>
  some (decide (0 ≤ r_1))

noncomputable def Sf16.body : Code := fnBody Try.f74
def Sf16.ti : Tm := ⟨[(0, .p Z1), (1, .fn 171 [])], []⟩
def Sf16.to : Tm := ⟨[(0, .p .bool)], []⟩
def Sf16.rs (r : Bool) : List Dat := [⟨.bool, r⟩]
def Sf16.out (ds : List Dat) : Option (Bool) := pop .bool ds fun x0 ds => popN ds (some (x0))
def Sf16.c (k : Nat) (ds : List Dat) : Option (Bool) := pop Z1 ds fun x0 ds => popN ds (Sf16.f k x0)
def Sf16.g : Nat → List Dat → Option (Bool)
 | 0, _ => none
 | k + 1, ds => Sf16.c k ds
def Sf16.env (k : Nat) : Nat → List SV → List Chunk → KT (Bool) → Option (Bool) := (envC 146 2 Sf15.ti Sf15.to (fun ds K => pop Z1 ds fun x0 ds => popN ds ((Sf15.f k x0).bind fun r => K (Sf15.rs r))) env0)
def Sf16.tbl : List (Nat × Tm × (Nat → List Dat → Option (Bool))) := []
noncomputable abbrev Sf16.R (k : Nat) := run T (Sf16.env k) Try.f74.ntmps (cutE 0 Sf16.tbl k) (finE 0 Sf16.to Sf16.out) (fnRes Try.f74) [] 100000 true
theorem Sf16.e (k : Nat) (x0 : (List Int)) : Sf16.f k x0 = Sf16.R k ([.code Sf16.body]) (Sf16.ti.fill [⟨Z1, x0⟩]) := by kernel_rfl
theorem Sf16.h (k : Nat) (ds : List Dat) (r : Bool) (h : Sf16.g k ds = some r) : ∃ k', k' < k ∧ Sf16.R k' ([.code Sf16.body]) (Sf16.ti.fill ds) = some r := by
  cases k with
  | zero => cases (show none = some r from h)
  | succ k =>
  replace h : Sf16.c k ds = some r := h
  unfold Sf16.c at h
  obtain ⟨x0, d0, rfl, h0⟩ := pop_some h
  obtain ⟨rfl, g⟩ := popN_some h0
  exact ⟨k, Nat.lt_succ_self k, (Sf16.e k ..).symm.trans g⟩
theorem Sf16.o (ds : List Dat) (r : Bool) (h : Sf16.out ds = some r) : ds = Sf16.rs r := by
  unfold Sf16.out at h
  obtain ⟨x0, d0, rfl, h0⟩ := pop_some h
  obtain ⟨rfl, g⟩ := popN_some h0
  cases g
  rfl
theorem Sf16.fn : FnOk Try.prog 74 Try.f74 Sf16.body Try.f74.ntmps 2 (fnRes Try.f74) :=
  fnOk_of (by kernel_rfl) (by kernel_rfl) (by kernel_rfl) (by kernel_rfl)
theorem Sf16.con' : ∀ k ds r, Sf16.g k ds = some r → Con Try.prog 74 2 Sf16.ti Sf16.to ds (Sf16.rs r) :=
  fun_ok (T := T) T_ok mixed Sf16.fn (env := Sf16.env) (tbl := Sf16.tbl) (gOut := Sf16.out) (nin := 0) (cuts := []) (fuel := 100000) rfl (by kernel_rfl) (by kernel_rfl) (by kernel_rfl) (fun x hx => by simp [Sf16.tbl] at hx) Sf16.o Sf16.h (fun k _ => by unfold Sf16.env; exact (envC_ok (fun ds K r h => by
    obtain ⟨x0, d0, rfl, h0⟩ := pop_some h
    obtain ⟨rfl, g⟩ := popN_some h0
    obtain ⟨r1, h1, h2⟩ := bind_some g
    exact ⟨_, h2, Sf15.con k _ h1⟩) env0_ok))
theorem Sf16.con (k : Nat) {x0 : (List Int)} (r : Bool) (h : Sf16.f k x0 = some r) : Con Try.prog 74 2 Sf16.ti Sf16.to [⟨Z1, x0⟩] (Sf16.rs r) :=
  Sf16.con' (k + 1) _ r (by show Sf16.c k _ = some r; unfold Sf16.c; simp only [pop_self, popN]; exact h)
def two_Check.f (k : Nat) (t0 : (Int × (Int × (List (List ((Int × (Int × Unit)))) × (List (Int) × Unit))))) : Option (Int) :=
 if t0.fst < 1 then
  some (2)
 else
  if 4 < t0.fst then
   some (2)
  else
   if (↑t0.snd.snd.fst.length : Int) < 1 then
    some (1)
   else
    if 4 < (↑t0.snd.snd.fst.length : Int) then
     some (1)
    else
     if (↑t0.snd.snd.snd.fst.length : Int) = (↑t0.snd.snd.fst.length : Int) then
      (Sf10.f k t0.snd.snd.fst t0.fst t0.snd.fst t0.snd.snd.fst t0.snd.snd.snd.fst).bind fun r_6 =>
       if r_6.fst = true then
        some (3)
       else
        (two_Check_2.f k r_6.snd.snd.fst (↑t0.snd.snd.fst.length : Int)).bind fun r_8 =>
         if r_8.fst = true then
          some (2)
         else
          (Sf14.f k r_6.snd.snd.snd.fst r_8.snd).bind fun r_10 =>
           if r_10.fst = true then
            some (2)
           else
            (Sf16.f k r_6.snd.snd.snd.snd).bind fun r_12 =>
             if r_12 = true then
              some (2)
             else
              some (0)
     else
      some (3)

noncomputable def two_Check.body : Code := fnBody Try.f119
def two_Check.ti : Tm := ⟨[(0, .p Z9)], []⟩
def two_Check.to : Tm := ⟨[(0, .p Z0)], []⟩
def two_Check.rs (r : Int) : List Dat := [⟨Z0, r⟩]
def two_Check.out (ds : List Dat) : Option (Int) := pop Z0 ds fun x0 ds => popN ds (some (x0))
def two_Check.c (k : Nat) (ds : List Dat) : Option (Int) := pop Z9 ds fun x0 ds => popN ds (two_Check.f k x0)
def two_Check.g : Nat → List Dat → Option (Int)
 | 0, _ => none
 | k + 1, ds => two_Check.c k ds
def two_Check.env (k : Nat) : Nat → List SV → List Chunk → KT (Int) → Option (Int) := (envC 165 2 Sf10.ti Sf10.to (fun ds K => pop Z2 ds fun x0 ds => pop Z0 ds fun x1 ds => pop Z0 ds fun x2 ds => pop Z2 ds fun x3 ds => pop Z1 ds fun x4 ds => popN ds ((Sf10.f k x0 x1 x2 x3 x4).bind fun r => K (Sf10.rs r))) (envC 167 2 two_Check_2.ti two_Check_2.to (fun ds K => pop Z0 ds fun x0 ds => pop Z0 ds fun x1 ds => popN ds ((two_Check_2.f k x0 x1).bind fun r => K (two_Check_2.rs r))) (envC 165 2 Sf14.ti Sf14.to (fun ds K => pop Z2 ds fun x0 ds => pop Z0 ds fun x1 ds => popN ds ((Sf14.f k x0 x1).bind fun r => K (Sf14.rs r))) (envC 74 2 Sf16.ti Sf16.to (fun ds K => pop Z1 ds fun x0 ds => popN ds ((Sf16.f k x0).bind fun r => K (Sf16.rs r))) env0))))
def two_Check.tbl : List (Nat × Tm × (Nat → List Dat → Option (Int))) := []
noncomputable abbrev two_Check.R (k : Nat) := run T (two_Check.env k) Try.f119.ntmps (cutE 0 two_Check.tbl k) (finE 0 two_Check.to two_Check.out) (fnRes Try.f119) [] 100000 true
theorem two_Check.e (k : Nat) (x0 : (Int × (Int × ((List (List (Int × (Int × Unit)))) × ((List Int) × Unit))))) : two_Check.f k x0 = two_Check.R k ([.code two_Check.body]) (two_Check.ti.fill [⟨Z9, x0⟩]) := by kernel_rfl
theorem two_Check.h (k : Nat) (ds : List Dat) (r : Int) (h : two_Check.g k ds = some r) : ∃ k', k' < k ∧ two_Check.R k' ([.code two_Check.body]) (two_Check.ti.fill ds) = some r := by
  cases k with
  | zero => cases (show none = some r from h)
  | succ k =>
  replace h : two_Check.c k ds = some r := h
  unfold two_Check.c at h
  obtain ⟨x0, d0, rfl, h0⟩ := pop_some h
  obtain ⟨rfl, g⟩ := popN_some h0
  exact ⟨k, Nat.lt_succ_self k, (two_Check.e k ..).symm.trans g⟩
theorem two_Check.o (ds : List Dat) (r : Int) (h : two_Check.out ds = some r) : ds = two_Check.rs r := by
  unfold two_Check.out at h
  obtain ⟨x0, d0, rfl, h0⟩ := pop_some h
  obtain ⟨rfl, g⟩ := popN_some h0
  cases g
  rfl
theorem two_Check.fn : FnOk Try.prog 119 Try.f119 two_Check.body Try.f119.ntmps 1 (fnRes Try.f119) :=
  fnOk_of (by kernel_rfl) (by kernel_rfl) (by kernel_rfl) (by kernel_rfl)
theorem two_Check.con' : ∀ k ds r, two_Check.g k ds = some r → Con Try.prog 119 1 two_Check.ti two_Check.to ds (two_Check.rs r) :=
  fun_ok (T := T) T_ok mixed two_Check.fn (env := two_Check.env) (tbl := two_Check.tbl) (gOut := two_Check.out) (nin := 0) (cuts := []) (fuel := 100000) rfl (by kernel_rfl) (by kernel_rfl) (by kernel_rfl) (fun x hx => by simp [two_Check.tbl] at hx) two_Check.o two_Check.h (fun k _ => by unfold two_Check.env; exact (envC_ok (fun ds K r h => by
    iterate 5 (obtain ⟨_, _, e, g⟩ := pop_some h; clear h; subst e; have h := g; clear g)
    obtain ⟨rfl, g⟩ := popN_some h
    obtain ⟨r1, h1, h2⟩ := bind_some g
    exact ⟨_, h2, Sf10.con k _ h1⟩) (envC_ok (fun ds K r h => by
    iterate 2 (obtain ⟨_, _, e, g⟩ := pop_some h; clear h; subst e; have h := g; clear g)
    obtain ⟨rfl, g⟩ := popN_some h
    obtain ⟨r1, h1, h2⟩ := bind_some g
    exact ⟨_, h2, two_Check_2.con k _ h1⟩) (envC_ok (fun ds K r h => by
    iterate 2 (obtain ⟨_, _, e, g⟩ := pop_some h; clear h; subst e; have h := g; clear g)
    obtain ⟨rfl, g⟩ := popN_some h
    obtain ⟨r1, h1, h2⟩ := bind_some g
    exact ⟨_, h2, Sf14.con k _ h1⟩) (envC_ok (fun ds K r h => by
    obtain ⟨x0, d0, rfl, h0⟩ := pop_some h
    obtain ⟨rfl, g⟩ := popN_some h0
    obtain ⟨r1, h1, h2⟩ := bind_some g
    exact ⟨_, h2, Sf16.con k _ h1⟩) env0_ok)))))
theorem two_Check.con (k : Nat) {x0 : (Int × (Int × ((List (List (Int × (Int × Unit)))) × ((List Int) × Unit))))} (r : Int) (h : two_Check.f k x0 = some r) : Con Try.prog 119 1 two_Check.ti two_Check.to [⟨Z9, x0⟩] (two_Check.rs r) :=
  two_Check.con' (k + 1) _ r (by show two_Check.c k _ = some r; unfold two_Check.c; simp only [pop_self, popN]; exact h)
mutual
def two_Det_1.l2 : Nat → Bool → Int → Int → Int → Int → Int → Int → Int → List (List ((Int × (Int × Unit)))) → List (Int) → Int → Int → Int → Int → Int → Option (Int × Int × Int × Int × List (List (Int × Int × Unit)) × List Int)
 | 0, _, _, _, _, _, _, _, _, _, _, _, _, _, _, _ => none
 | k + 1, first1, q2, letter3, x13, x14, c_0_0, x5_0, x5_1, x5_2, x5_3, ahead6_0, ahead6_1, ahead6_2, ahead6_3, ahead6_4 =>
  if x14 < x13 then
   if 0 ≤ q2 then
   if q2 < (↑x5_2.length : Int) then
    if 0 ≤ letter3 then
     if letter3 < (↑(rd [] x5_2 q2).length : Int) then
      if (rd (Int.ofNat 0, Int.ofNat 0, ()) (rd [] x5_2 q2) letter3).snd.fst = 1 then
        some ((rd (Int.ofNat 0, Int.ofNat 0, ()) (rd [] x5_2 q2) letter3).fst, c_0_0, x5_0, x5_1, x5_2, x5_3)
       else
        if first1 = true then
         some (-1, c_0_0, x5_0, x5_1, x5_2, x5_3)
        else
         if 0 ≤ (rd (Int.ofNat 0, Int.ofNat 0, ()) (rd [] x5_2 q2) letter3).fst then
         if (rd (Int.ofNat 0, Int.ofNat 0, ()) (rd [] x5_2 q2) letter3).fst < (↑5 : Int) then
          if [ahead6_0, ahead6_1, ahead6_2, ahead6_3, ahead6_4].getD (rd (Int.ofNat 0, Int.ofNat 0, ()) (rd [] x5_2 q2) letter3).fst.toNat (Int.ofNat 0) < 0 then
            some (-1, c_0_0, x5_0, x5_1, x5_2, x5_3)
           else
            two_Det_1.l2 k first1 ([ahead6_0, ahead6_1, ahead6_2, ahead6_3, ahead6_4].getD (rd (Int.ofNat 0, Int.ofNat 0, ()) (rd [] x5_2 q2) letter3).fst.toNat (Int.ofNat 0)) letter3 x13 (Go.IntKind.i64.wrap (x14 + 1)) c_0_0 x5_0 x5_1 x5_2 x5_3 ahead6_0 ahead6_1 ahead6_2 ahead6_3 ahead6_4
          else none
         else none
      else none
     else none
    else none
   else none
  else
   some (-1, c_0_0, x5_0, x5_1, x5_2, x5_3)
end
def two_Det_1.f (k : Nat) (ahead0 : (Int × (Int × (Int × (Int × (Int × Unit)))))) (first1 : Bool) (q2 : Int) (letter3 : Int) (x4_0 : Int) (x5_0 : Int) (x5_1 : Int) (x5_2 : List (List ((Int × (Int × Unit))))) (x5_3 : List (Int)) : Option (Int × Int × Int × Int × List (List (Int × Int × Unit)) × List Int) :=
 two_Det_1.l2 k first1 q2 letter3 (Go.IntKind.i64.wrap (x4_0 + 1)) 0 x4_0 x5_0 x5_1 x5_2 x5_3 ahead0.fst ahead0.snd.fst ahead0.snd.snd.fst ahead0.snd.snd.snd.fst ahead0.snd.snd.snd.snd.fst

noncomputable def two_Det_1.body : Code := fnBody Try.f120
def two_Det_1.ti : Tm := ⟨[(0, .p Z4), (1, .p .bool), (2, .p Z0), (3, .p Z0), (4, .ptr 0 0), (5, .ptr 1 0)], [.box [.p Z0] 3, .box [.p Z0, .p Z0, .p Z2, .p Z1] 89]⟩
def two_Det_1.to : Tm := ⟨[(0, .p Z0)], [.box [.p Z0] 3, .box [.p Z0, .p Z0, .p Z2, .p Z1] 89]⟩
def two_Det_1.rs (r : Int × Int × Int × Int × (List (List (Int × (Int × Unit)))) × (List Int)) : List Dat := [⟨Z0, r.1⟩, ⟨Z0, r.2.1⟩, ⟨Z0, r.2.2.1⟩, ⟨Z0, r.2.2.2.1⟩, ⟨Z2, r.2.2.2.2.1⟩, ⟨Z1, r.2.2.2.2.2⟩]
def two_Det_1.out (ds : List Dat) : Option (Int × Int × Int × Int × (List (List (Int × (Int × Unit)))) × (List Int)) := pop Z0 ds fun x0 ds => pop Z0 ds fun x1 ds => pop Z0 ds fun x2 ds => pop Z0 ds fun x3 ds => pop Z2 ds fun x4 ds => pop Z1 ds fun x5 ds => popN ds (some (x0, x1, x2, x3, x4, x5))
def two_Det_1.c (k : Nat) (ds : List Dat) : Option (Int × Int × Int × Int × (List (List (Int × (Int × Unit)))) × (List Int)) := pop Z4 ds fun x0 ds => pop .bool ds fun x1 ds => pop Z0 ds fun x2 ds => pop Z0 ds fun x3 ds => pop Z0 ds fun x4 ds => pop Z0 ds fun x5 ds => pop Z0 ds fun x6 ds => pop Z2 ds fun x7 ds => pop Z1 ds fun x8 ds => popN ds (two_Det_1.f k x0 x1 x2 x3 x4 x5 x6 x7 x8)
def two_Det_1.g : Nat → List Dat → Option (Int × Int × Int × Int × (List (List (Int × (Int × Unit)))) × (List Int))
 | 0, _ => none
 | k + 1, ds => two_Det_1.c k ds
def two_Det_1.env (k : Nat) : Nat → List SV → List Chunk → KT (Int × Int × Int × Int × (List (List (Int × (Int × Unit)))) × (List Int)) → Option (Int × Int × Int × Int × (List (List (Int × (Int × Unit)))) × (List Int)) := env0
def two_Det_1.t5 : Tm := ⟨[(1, .p .bool), (2, .p Z0), (3, .p Z0), (5, .ptr 1 0), (6, .ptr 2 0), (13, .p Z0), (14, .p Z0)], [.box [.p Z0] 3, .box [.p Z0, .p Z0, .p Z2, .p Z1] 89, .box [.p Z0, .p Z0, .p Z0, .p Z0, .p Z0] 159]⟩
def two_Det_1.c5 (k : Nat) (ds : List Dat) : Option (Int × Int × Int × Int × (List (List (Int × (Int × Unit)))) × (List Int)) := pop .bool ds fun x0 ds => pop Z0 ds fun x1 ds => pop Z0 ds fun x2 ds => pop Z0 ds fun x3 ds => pop Z0 ds fun x4 ds => pop Z0 ds fun x5 ds => pop Z0 ds fun x6 ds => pop Z0 ds fun x7 ds => pop Z2 ds fun x8 ds => pop Z1 ds fun x9 ds => pop Z0 ds fun x10 ds => pop Z0 ds fun x11 ds => pop Z0 ds fun x12 ds => pop Z0 ds fun x13 ds => pop Z0 ds fun x14 ds => popN ds (two_Det_1.l2 k x0 x1 x2 x3 x4 x5 x6 x7 x8 x9 x10 x11 x12 x13 x14)
def two_Det_1.tbl : List (Nat × Tm × (Nat → List Dat → Option (Int × Int × Int × Int × (List (List (Int × (Int × Unit)))) × (List Int)))) := [(5, two_Det_1.t5, two_Det_1.c5)]
noncomputable abbrev two_Det_1.R (k : Nat) := run T (two_Det_1.env k) Try.f120.ntmps (cutE 2 two_Det_1.tbl k) (finE 2 two_Det_1.to two_Det_1.out) (fnRes Try.f120) [] 100000 true
theorem two_Det_1.e5 (k : Nat) (x0 : Bool) (x1 : Int) (x2 : Int) (x3 : Int) (x4 : Int) (x5 : Int) (x6 : Int) (x7 : Int) (x8 : (List (List (Int × (Int × Unit))))) (x9 : (List Int)) (x10 : Int) (x11 : Int) (x12 : Int) (x13 : Int) (x14 : Int) : two_Det_1.l2 (k + 1) x0 x1 x2 x3 x4 x5 x6 x7 x8 x9 x10 x11 x12 x13 x14 = two_Det_1.R k (start (stackOf 5 two_Det_1.body)) (two_Det_1.t5.fill [⟨.bool, x0⟩, ⟨Z0, x1⟩, ⟨Z0, x2⟩, ⟨Z0, x3⟩, ⟨Z0, x4⟩, ⟨Z0, x5⟩, ⟨Z0, x6⟩, ⟨Z0, x7⟩, ⟨Z2, x8⟩, ⟨Z1, x9⟩, ⟨Z0, x10⟩, ⟨Z0, x11⟩, ⟨Z0, x12⟩, ⟨Z0, x13⟩, ⟨Z0, x14⟩]) := by kernel_rfl
theorem two_Det_1.s5 : stackAt 5 two_Det_1.body [] = some (stackOf 5 two_Det_1.body) := by kernel_rfl
theorem two_Det_1.h5 (k : Nat) (ds : List Dat) (r : Int × Int × Int × Int × (List (List (Int × (Int × Unit)))) × (List Int)) (h : two_Det_1.c5 k ds = some r) : ∃ k', k' < k ∧ ∃ s, stackAt 5 two_Det_1.body [] = some s ∧ two_Det_1.R k' (start s) (two_Det_1.t5.fill ds) = some r := by
  unfold two_Det_1.c5 at h
  iterate 15 (obtain ⟨_, _, e, g⟩ := pop_some h; clear h; subst e; have h := g; clear g)
  obtain ⟨rfl, g⟩ := popN_some h
  cases k with
  | zero => cases (show none = some r from g)
  | succ k => exact ⟨k, Nat.lt_succ_self k, _, two_Det_1.s5, (two_Det_1.e5 k ..).symm.trans g⟩
theorem two_Det_1.e (k : Nat) (x0 : (Int × (Int × (Int × (Int × (Int × Unit)))))) (x1 : Bool) (x2 : Int) (x3 : Int) (x4 : Int) (x5 : Int) (x6 : Int) (x7 : (List (List (Int × (Int × Unit))))) (x8 : (List Int)) : two_Det_1.f k x0 x1 x2 x3 x4 x5 x6 x7 x8 = two_Det_1.R k ([.code two_Det_1.body]) (two_Det_1.ti.fill [⟨Z4, x0⟩, ⟨.bool, x1⟩, ⟨Z0, x2⟩, ⟨Z0, x3⟩, ⟨Z0, x4⟩, ⟨Z0, x5⟩, ⟨Z0, x6⟩, ⟨Z2, x7⟩, ⟨Z1, x8⟩]) := by kernel_rfl
theorem two_Det_1.h (k : Nat) (ds : List Dat) (r : Int × Int × Int × Int × (List (List (Int × (Int × Unit)))) × (List Int)) (h : two_Det_1.g k ds = some r) : ∃ k', k' < k ∧ two_Det_1.R k' ([.code two_Det_1.body]) (two_Det_1.ti.fill ds) = some r := by
  cases k with
  | zero => cases (show none = some r from h)
  | succ k =>
  replace h : two_Det_1.c k ds = some r := h
  unfold two_Det_1.c at h
  iterate 9 (obtain ⟨_, _, e, g⟩ := pop_some h; clear h; subst e; have h := g; clear g)
  obtain ⟨rfl, g⟩ := popN_some h
  exact ⟨k, Nat.lt_succ_self k, (two_Det_1.e k ..).symm.trans g⟩
theorem two_Det_1.o (ds : List Dat) (r : Int × Int × Int × Int × (List (List (Int × (Int × Unit)))) × (List Int)) (h : two_Det_1.out ds = some r) : ds = two_Det_1.rs r := by
  unfold two_Det_1.out at h
  iterate 6 (obtain ⟨_, _, e, g⟩ := pop_some h; clear h; subst e; have h := g; clear g)
  obtain ⟨rfl, g⟩ := popN_some h
  cases g
  rfl
theorem two_Det_1.fn : FnOk Try.prog 120 Try.f120 two_Det_1.body Try.f120.ntmps 6 (fnRes Try.f120) :=
  fnOk_of (by kernel_rfl) (by kernel_rfl) (by kernel_rfl) (by kernel_rfl)
theorem two_Det_1.con' : ∀ k ds r, two_Det_1.g k ds = some r → Con Try.prog 120 6 two_Det_1.ti two_Det_1.to ds (two_Det_1.rs r) :=
  fun_ok (T := T) T_ok mixed two_Det_1.fn (env := two_Det_1.env) (tbl := two_Det_1.tbl) (gOut := two_Det_1.out) (nin := 2) (cuts := []) (fuel := 100000) rfl (by kernel_rfl) (by kernel_rfl) (by kernel_rfl) (fun x hx => by
    simp only [two_Det_1.tbl, List.mem_cons, List.not_mem_nil, or_false] at hx
    subst hx
    · exact two_Det_1.h5
) two_Det_1.o two_Det_1.h (fun k _ => by unfold two_Det_1.env; exact env0_ok)
theorem two_Det_1.con (k : Nat) {x0 : (Int × (Int × (Int × (Int × (Int × Unit)))))} {x1 : Bool} {x2 : Int} {x3 : Int} {x4 : Int} {x5 : Int} {x6 : Int} {x7 : (List (List (Int × (Int × Unit))))} {x8 : (List Int)} (r : Int × Int × Int × Int × (List (List (Int × (Int × Unit)))) × (List Int)) (h : two_Det_1.f k x0 x1 x2 x3 x4 x5 x6 x7 x8 = some r) : Con Try.prog 120 6 two_Det_1.ti two_Det_1.to [⟨Z4, x0⟩, ⟨.bool, x1⟩, ⟨Z0, x2⟩, ⟨Z0, x3⟩, ⟨Z0, x4⟩, ⟨Z0, x5⟩, ⟨Z0, x6⟩, ⟨Z2, x7⟩, ⟨Z1, x8⟩] (two_Det_1.rs r) :=
  two_Det_1.con' (k + 1) _ r (by show two_Det_1.c k _ = some r; unfold two_Det_1.c; simp only [pop_self, popN]; exact h)
end Go.Proofs.YtfkilmmldjajmaaSx
