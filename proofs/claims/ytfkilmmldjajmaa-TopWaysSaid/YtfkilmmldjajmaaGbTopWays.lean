import Derived.Test.YtfkilmmldjajmaaGaTopWays
set_option linter.unusedVariables false
set_option maxRecDepth 100000
namespace Go.Proofs.YtfkilmmldjajmaaSx
open Go Go.Proofs
mutual
def two_Det_2.l3 : Nat → Int → Int → Int → Int → Int → Int → List (List ((Int × (Int × Unit)))) → List (Int) → Int → Int → Int → Int → Int → Int → Int → Int → Int → Int → Int → Int → Int → Int → Int → Option ((Int × Int × Int × Int × Int × Unit) × Int × Int × Int × List (List (Int × Int × Unit)) × List Int)
 | 0, _, _, _, _, _, _, _, _, _, _, _, _, _, _, _, _, _, _, _, _, _, _, _ => none
 | k + 1, letter1, x10, x11, c_0_0, c_2_0, c_2_1, c_2_2, c_2_3, s4_0, s4_1, s4_2, s4_3, s4_4, x6_0, x6_1, x6_2, x6_3, x6_4, next7_0, next7_1, next7_2, next7_3, next7_4 =>
  if x11 < x10 then
   (two_Det_1.f k (s4_0, s4_1, s4_2, s4_3, s4_4, ()) false x11 letter1 c_0_0 c_2_0 c_2_1 c_2_2 c_2_3).bind fun r_3 =>
    if 0 ≤ x11 then
    if x11 < (↑5 : Int) then
     two_Det_2.l3 k letter1 x10 (Go.IntKind.i64.wrap (x11 + 1)) r_3.snd.fst r_3.snd.snd.fst r_3.snd.snd.snd.fst r_3.snd.snd.snd.snd.fst r_3.snd.snd.snd.snd.snd s4_0 s4_1 s4_2 s4_3 s4_4 x6_0 x6_1 x6_2 x6_3 x6_4 (if x11.toNat = 0 then r_3.fst else next7_0) (if x11.toNat = 0 + 1 then r_3.fst else next7_1) (if x11.toNat = 0 + 1 + 1 then r_3.fst else next7_2) (if x11.toNat = 0 + 1 + 1 + 1 then r_3.fst else next7_3) (if x11.toNat = 0 + 1 + 1 + 1 + 1 then r_3.fst else next7_4)
     else none
    else none
  else
   if 0 ≤ s4_4 then
    (two_Det_1.f k (s4_0, s4_1, s4_2, s4_3, s4_4, ()) false s4_4 letter1 c_0_0 c_2_0 c_2_1 c_2_2 c_2_3).bind fun r_4 =>
     two_Det_2.j9 k r_4.snd.fst r_4.snd.snd.fst r_4.snd.snd.snd.fst r_4.snd.snd.snd.snd.fst r_4.snd.snd.snd.snd.snd x6_0 x6_1 x6_2 x6_3 x6_4 next7_0 next7_1 next7_2 next7_3 r_4.fst
   else
    two_Det_2.j9 k c_0_0 c_2_0 c_2_1 c_2_2 c_2_3 x6_0 x6_1 x6_2 x6_3 x6_4 next7_0 next7_1 next7_2 next7_3 next7_4
def two_Det_2.j9 : Nat → Int → Int → Int → List (List ((Int × (Int × Unit)))) → List (Int) → Int → Int → Int → Int → Int → Int → Int → Int → Int → Int → Option ((Int × Int × Int × Int × Int × Unit) × Int × Int × Int × List (List (Int × Int × Unit)) × List Int)
 | 0, _, _, _, _, _, _, _, _, _, _, _, _, _, _, _ => none
 | k + 1, c_0_0, c_2_0, c_2_1, c_2_2, c_2_3, x6_0, x6_1, x6_2, x6_3, x6_4, next7_0, next7_1, next7_2, next7_3, next7_4 =>
  some ((next7_0, next7_1, next7_2, next7_3, next7_4, ()), c_0_0, c_2_0, c_2_1, c_2_2, c_2_3)
end
def two_Det_2.f (k : Nat) (s0 : (Int × (Int × (Int × (Int × (Int × Unit)))))) (letter1 : Int) (x2_0 : Int) (c_2_0 : Int) (c_2_1 : Int) (c_2_2 : List (List ((Int × (Int × Unit))))) (c_2_3 : List (Int)) : Option ((Int × Int × Int × Int × Int × Unit) × Int × Int × Int × List (List (Int × Int × Unit)) × List Int) :=
 two_Det_2.l3 k letter1 x2_0 0 x2_0 c_2_0 c_2_1 c_2_2 c_2_3 s0.fst s0.snd.fst s0.snd.snd.fst s0.snd.snd.snd.fst s0.snd.snd.snd.snd.fst 0 0 0 0 0 (Int.instNegInt.1 1) (Int.instNegInt.1 1) (Int.instNegInt.1 1) (Int.instNegInt.1 1) (Int.instNegInt.1 1)

noncomputable def two_Det_2.body : Code := fnBody Try.f122
def two_Det_2.ti : Tm := ⟨[(0, .p Z4), (1, .p Z0), (2, .ptr 0 0), (3, .ptr 1 0)], [.box [.p Z0] 3, .box [.fn 120 [.ptr 0 0, .ptr 2 0]] 160, .box [.p Z0, .p Z0, .p Z2, .p Z1] 89]⟩
def two_Det_2.to : Tm := ⟨[(0, .p Z4)], [.box [.p Z0] 3, .box [.fn 120 [.ptr 0 0, .ptr 2 0]] 160, .box [.p Z0, .p Z0, .p Z2, .p Z1] 89]⟩
def two_Det_2.rs (r : (Int × (Int × (Int × (Int × (Int × Unit))))) × Int × Int × Int × (List (List (Int × (Int × Unit)))) × (List Int)) : List Dat := [⟨Z4, r.1⟩, ⟨Z0, r.2.1⟩, ⟨Z0, r.2.2.1⟩, ⟨Z0, r.2.2.2.1⟩, ⟨Z2, r.2.2.2.2.1⟩, ⟨Z1, r.2.2.2.2.2⟩]
def two_Det_2.out (ds : List Dat) : Option ((Int × (Int × (Int × (Int × (Int × Unit))))) × Int × Int × Int × (List (List (Int × (Int × Unit)))) × (List Int)) := pop Z4 ds fun x0 ds => pop Z0 ds fun x1 ds => pop Z0 ds fun x2 ds => pop Z0 ds fun x3 ds => pop Z2 ds fun x4 ds => pop Z1 ds fun x5 ds => popN ds (some (x0, x1, x2, x3, x4, x5))
def two_Det_2.c (k : Nat) (ds : List Dat) : Option ((Int × (Int × (Int × (Int × (Int × Unit))))) × Int × Int × Int × (List (List (Int × (Int × Unit)))) × (List Int)) := pop Z4 ds fun x0 ds => pop Z0 ds fun x1 ds => pop Z0 ds fun x2 ds => pop Z0 ds fun x3 ds => pop Z0 ds fun x4 ds => pop Z2 ds fun x5 ds => pop Z1 ds fun x6 ds => popN ds (two_Det_2.f k x0 x1 x2 x3 x4 x5 x6)
def two_Det_2.g : Nat → List Dat → Option ((Int × (Int × (Int × (Int × (Int × Unit))))) × Int × Int × Int × (List (List (Int × (Int × Unit)))) × (List Int))
 | 0, _ => none
 | k + 1, ds => two_Det_2.c k ds
def two_Det_2.env (k : Nat) : Nat → List SV → List Chunk → KT ((Int × (Int × (Int × (Int × (Int × Unit))))) × Int × Int × Int × (List (List (Int × (Int × Unit)))) × (List Int)) → Option ((Int × (Int × (Int × (Int × (Int × Unit))))) × Int × Int × Int × (List (List (Int × (Int × Unit)))) × (List Int)) := (envC 120 6 two_Det_1.ti two_Det_1.to (fun ds K => pop Z4 ds fun x0 ds => pop .bool ds fun x1 ds => pop Z0 ds fun x2 ds => pop Z0 ds fun x3 ds => pop Z0 ds fun x4 ds => pop Z0 ds fun x5 ds => pop Z0 ds fun x6 ds => pop Z2 ds fun x7 ds => pop Z1 ds fun x8 ds => popN ds ((two_Det_1.f k x0 x1 x2 x3 x4 x5 x6 x7 x8).bind fun r => K (two_Det_1.rs r))) env0)
def two_Det_2.t7 : Tm := ⟨[(1, .p Z0), (3, .ptr 1 0), (4, .ptr 3 0), (6, .ptr 4 0), (7, .ptr 5 0), (10, .p Z0), (11, .p Z0)], [.box [.p Z0] 3, .box [.fn 120 [.ptr 0 0, .ptr 2 0]] 160, .box [.p Z0, .p Z0, .p Z2, .p Z1] 89, .box [.p Z0, .p Z0, .p Z0, .p Z0, .p Z0] 159, .box [.p Z0, .p Z0, .p Z0, .p Z0, .p Z0] 159, .box [.p Z0, .p Z0, .p Z0, .p Z0, .p Z0] 159]⟩
def two_Det_2.c7 (k : Nat) (ds : List Dat) : Option ((Int × (Int × (Int × (Int × (Int × Unit))))) × Int × Int × Int × (List (List (Int × (Int × Unit)))) × (List Int)) := pop Z0 ds fun x0 ds => pop Z0 ds fun x1 ds => pop Z0 ds fun x2 ds => pop Z0 ds fun x3 ds => pop Z0 ds fun x4 ds => pop Z0 ds fun x5 ds => pop Z2 ds fun x6 ds => pop Z1 ds fun x7 ds => pop Z0 ds fun x8 ds => pop Z0 ds fun x9 ds => pop Z0 ds fun x10 ds => pop Z0 ds fun x11 ds => pop Z0 ds fun x12 ds => pop Z0 ds fun x13 ds => pop Z0 ds fun x14 ds => pop Z0 ds fun x15 ds => pop Z0 ds fun x16 ds => pop Z0 ds fun x17 ds => pop Z0 ds fun x18 ds => pop Z0 ds fun x19 ds => pop Z0 ds fun x20 ds => pop Z0 ds fun x21 ds => pop Z0 ds fun x22 ds => popN ds (two_Det_2.l3 k x0 x1 x2 x3 x4 x5 x6 x7 x8 x9 x10 x11 x12 x13 x14 x15 x16 x17 x18 x19 x20 x21 x22)
def two_Det_2.t18 : Tm := ⟨[(6, .ptr 3 0), (7, .ptr 4 0)], [.box [.p Z0] 3, .box [.fn 120 [.ptr 0 0, .ptr 2 0]] 160, .box [.p Z0, .p Z0, .p Z2, .p Z1] 89, .box [.p Z0, .p Z0, .p Z0, .p Z0, .p Z0] 159, .box [.p Z0, .p Z0, .p Z0, .p Z0, .p Z0] 159]⟩
def two_Det_2.c18 (k : Nat) (ds : List Dat) : Option ((Int × (Int × (Int × (Int × (Int × Unit))))) × Int × Int × Int × (List (List (Int × (Int × Unit)))) × (List Int)) := pop Z0 ds fun x0 ds => pop Z0 ds fun x1 ds => pop Z0 ds fun x2 ds => pop Z2 ds fun x3 ds => pop Z1 ds fun x4 ds => pop Z0 ds fun x5 ds => pop Z0 ds fun x6 ds => pop Z0 ds fun x7 ds => pop Z0 ds fun x8 ds => pop Z0 ds fun x9 ds => pop Z0 ds fun x10 ds => pop Z0 ds fun x11 ds => pop Z0 ds fun x12 ds => pop Z0 ds fun x13 ds => pop Z0 ds fun x14 ds => popN ds (two_Det_2.j9 k x0 x1 x2 x3 x4 x5 x6 x7 x8 x9 x10 x11 x12 x13 x14)
def two_Det_2.tbl : List (Nat × Tm × (Nat → List Dat → Option ((Int × (Int × (Int × (Int × (Int × Unit))))) × Int × Int × Int × (List (List (Int × (Int × Unit)))) × (List Int)))) := [(7, two_Det_2.t7, two_Det_2.c7), (18, two_Det_2.t18, two_Det_2.c18)]
noncomputable abbrev two_Det_2.R (k : Nat) := run T (two_Det_2.env k) Try.f122.ntmps (cutE 3 two_Det_2.tbl k) (finE 3 two_Det_2.to two_Det_2.out) (fnRes Try.f122) [9] 100000 true
theorem two_Det_2.e7 (k : Nat) (x0 : Int) (x1 : Int) (x2 : Int) (x3 : Int) (x4 : Int) (x5 : Int) (x6 : (List (List (Int × (Int × Unit))))) (x7 : (List Int)) (x8 : Int) (x9 : Int) (x10 : Int) (x11 : Int) (x12 : Int) (x13 : Int) (x14 : Int) (x15 : Int) (x16 : Int) (x17 : Int) (x18 : Int) (x19 : Int) (x20 : Int) (x21 : Int) (x22 : Int) : two_Det_2.l3 (k + 1) x0 x1 x2 x3 x4 x5 x6 x7 x8 x9 x10 x11 x12 x13 x14 x15 x16 x17 x18 x19 x20 x21 x22 = two_Det_2.R k (start (stackOf 7 two_Det_2.body)) (two_Det_2.t7.fill [⟨Z0, x0⟩, ⟨Z0, x1⟩, ⟨Z0, x2⟩, ⟨Z0, x3⟩, ⟨Z0, x4⟩, ⟨Z0, x5⟩, ⟨Z2, x6⟩, ⟨Z1, x7⟩, ⟨Z0, x8⟩, ⟨Z0, x9⟩, ⟨Z0, x10⟩, ⟨Z0, x11⟩, ⟨Z0, x12⟩, ⟨Z0, x13⟩, ⟨Z0, x14⟩, ⟨Z0, x15⟩, ⟨Z0, x16⟩, ⟨Z0, x17⟩, ⟨Z0, x18⟩, ⟨Z0, x19⟩, ⟨Z0, x20⟩, ⟨Z0, x21⟩, ⟨Z0, x22⟩]) := by kernel_rfl
theorem two_Det_2.s7 : stackAt 7 two_Det_2.body [] = some (stackOf 7 two_Det_2.body) := by kernel_rfl
theorem two_Det_2.h7 (k : Nat) (ds : List Dat) (r : (Int × (Int × (Int × (Int × (Int × Unit))))) × Int × Int × Int × (List (List (Int × (Int × Unit)))) × (List Int)) (h : two_Det_2.c7 k ds = some r) : ∃ k', k' < k ∧ ∃ s, stackAt 7 two_Det_2.body [] = some s ∧ two_Det_2.R k' (start s) (two_Det_2.t7.fill ds) = some r := by
  unfold two_Det_2.c7 at h
  iterate 23 (obtain ⟨_, _, e, g⟩ := pop_some h; clear h; subst e; have h := g; clear g)
  obtain ⟨rfl, g⟩ := popN_some h
  cases k with
  | zero => cases (show none = some r from g)
  | succ k => exact ⟨k, Nat.lt_succ_self k, _, two_Det_2.s7, (two_Det_2.e7 k ..).symm.trans g⟩
theorem two_Det_2.e18 (k : Nat) (x0 : Int) (x1 : Int) (x2 : Int) (x3 : (List (List (Int × (Int × Unit))))) (x4 : (List Int)) (x5 : Int) (x6 : Int) (x7 : Int) (x8 : Int) (x9 : Int) (x10 : Int) (x11 : Int) (x12 : Int) (x13 : Int) (x14 : Int) : two_Det_2.j9 (k + 1) x0 x1 x2 x3 x4 x5 x6 x7 x8 x9 x10 x11 x12 x13 x14 = two_Det_2.R k (start (stackOf 18 two_Det_2.body)) (two_Det_2.t18.fill [⟨Z0, x0⟩, ⟨Z0, x1⟩, ⟨Z0, x2⟩, ⟨Z2, x3⟩, ⟨Z1, x4⟩, ⟨Z0, x5⟩, ⟨Z0, x6⟩, ⟨Z0, x7⟩, ⟨Z0, x8⟩, ⟨Z0, x9⟩, ⟨Z0, x10⟩, ⟨Z0, x11⟩, ⟨Z0, x12⟩, ⟨Z0, x13⟩, ⟨Z0, x14⟩]) := by kernel_rfl
theorem two_Det_2.s18 : stackAt 18 two_Det_2.body [] = some (stackOf 18 two_Det_2.body) := by kernel_rfl
theorem two_Det_2.h18 (k : Nat) (ds : List Dat) (r : (Int × (Int × (Int × (Int × (Int × Unit))))) × Int × Int × Int × (List (List (Int × (Int × Unit)))) × (List Int)) (h : two_Det_2.c18 k ds = some r) : ∃ k', k' < k ∧ ∃ s, stackAt 18 two_Det_2.body [] = some s ∧ two_Det_2.R k' (start s) (two_Det_2.t18.fill ds) = some r := by
  unfold two_Det_2.c18 at h
  iterate 15 (obtain ⟨_, _, e, g⟩ := pop_some h; clear h; subst e; have h := g; clear g)
  obtain ⟨rfl, g⟩ := popN_some h
  cases k with
  | zero => cases (show none = some r from g)
  | succ k => exact ⟨k, Nat.lt_succ_self k, _, two_Det_2.s18, (two_Det_2.e18 k ..).symm.trans g⟩
theorem two_Det_2.e (k : Nat) (x0 : (Int × (Int × (Int × (Int × (Int × Unit)))))) (x1 : Int) (x2 : Int) (x3 : Int) (x4 : Int) (x5 : (List (List (Int × (Int × Unit))))) (x6 : (List Int)) : two_Det_2.f k x0 x1 x2 x3 x4 x5 x6 = two_Det_2.R k ([.code two_Det_2.body]) (two_Det_2.ti.fill [⟨Z4, x0⟩, ⟨Z0, x1⟩, ⟨Z0, x2⟩, ⟨Z0, x3⟩, ⟨Z0, x4⟩, ⟨Z2, x5⟩, ⟨Z1, x6⟩]) := by kernel_rfl
theorem two_Det_2.h (k : Nat) (ds : List Dat) (r : (Int × (Int × (Int × (Int × (Int × Unit))))) × Int × Int × Int × (List (List (Int × (Int × Unit)))) × (List Int)) (h : two_Det_2.g k ds = some r) : ∃ k', k' < k ∧ two_Det_2.R k' ([.code two_Det_2.body]) (two_Det_2.ti.fill ds) = some r := by
  cases k with
  | zero => cases (show none = some r from h)
  | succ k =>
  replace h : two_Det_2.c k ds = some r := h
  unfold two_Det_2.c at h
  iterate 7 (obtain ⟨_, _, e, g⟩ := pop_some h; clear h; subst e; have h := g; clear g)
  obtain ⟨rfl, g⟩ := popN_some h
  exact ⟨k, Nat.lt_succ_self k, (two_Det_2.e k ..).symm.trans g⟩
theorem two_Det_2.o (ds : List Dat) (r : (Int × (Int × (Int × (Int × (Int × Unit))))) × Int × Int × Int × (List (List (Int × (Int × Unit)))) × (List Int)) (h : two_Det_2.out ds = some r) : ds = two_Det_2.rs r := by
  unfold two_Det_2.out at h
  iterate 6 (obtain ⟨_, _, e, g⟩ := pop_some h; clear h; subst e; have h := g; clear g)
  obtain ⟨rfl, g⟩ := popN_some h
  cases g
  rfl
theorem two_Det_2.fn : FnOk Try.prog 122 Try.f122 two_Det_2.body Try.f122.ntmps 4 (fnRes Try.f122) :=
  fnOk_of (by kernel_rfl) (by kernel_rfl) (by kernel_rfl) (by kernel_rfl)
theorem two_Det_2.con' : ∀ k ds r, two_Det_2.g k ds = some r → Con Try.prog 122 4 two_Det_2.ti two_Det_2.to ds (two_Det_2.rs r) :=
  fun_ok (T := T) T_ok mixed two_Det_2.fn (env := two_Det_2.env) (tbl := two_Det_2.tbl) (gOut := two_Det_2.out) (nin := 3) (cuts := [9]) (fuel := 100000) rfl (by kernel_rfl) (by kernel_rfl) (by kernel_rfl) (fun x hx => by
    simp only [two_Det_2.tbl, List.mem_cons, List.not_mem_nil, or_false] at hx
    rcases hx with rfl | rfl
    · exact two_Det_2.h7
    · exact two_Det_2.h18
) two_Det_2.o two_Det_2.h (fun k _ => by unfold two_Det_2.env; exact (envC_ok (fun ds K r h => by
    iterate 9 (obtain ⟨_, _, e, g⟩ := pop_some h; clear h; subst e; have h := g; clear g)
    obtain ⟨rfl, g⟩ := popN_some h
    obtain ⟨r1, h1, h2⟩ := bind_some g
    exact ⟨_, h2, two_Det_1.con k _ h1⟩) env0_ok))
theorem two_Det_2.con (k : Nat) {x0 : (Int × (Int × (Int × (Int × (Int × Unit)))))} {x1 : Int} {x2 : Int} {x3 : Int} {x4 : Int} {x5 : (List (List (Int × (Int × Unit))))} {x6 : (List Int)} (r : (Int × (Int × (Int × (Int × (Int × Unit))))) × Int × Int × Int × (List (List (Int × (Int × Unit)))) × (List Int)) (h : two_Det_2.f k x0 x1 x2 x3 x4 x5 x6 = some r) : Con Try.prog 122 4 two_Det_2.ti two_Det_2.to [⟨Z4, x0⟩, ⟨Z0, x1⟩, ⟨Z0, x2⟩, ⟨Z0, x3⟩, ⟨Z0, x4⟩, ⟨Z2, x5⟩, ⟨Z1, x6⟩] (two_Det_2.rs r) :=
  two_Det_2.con' (k + 1) _ r (by show two_Det_2.c k _ = some r; unfold two_Det_2.c; simp only [pop_self, popN]; exact h)
def two_Det_3.f (k : Nat) (s0 : (Int × (Int × (Int × (Int × (Int × Unit)))))) (x2_0 : Int) (x2_1 : Int) (x2_2 : List (List ((Int × (Int × Unit))))) (x2_3 : List (Int)) (c_2_0 : Int) : Option (Int × Int × Int × List (List (Int × Int × Unit)) × List Int × Int) :=
 if s0.snd.snd.snd.snd.fst < 0 then
  some (0, x2_0, x2_1, x2_2, x2_3, c_2_0)
 else
  (two_Det_1.f k (s0.fst, s0.snd.fst, s0.snd.snd.fst, s0.snd.snd.snd.fst, s0.snd.snd.snd.snd.fst, ()) false s0.snd.snd.snd.snd.fst (Go.IntKind.i64.wrap (x2_0 + 1)) c_2_0 x2_0 x2_1 x2_2 x2_3).bind fun r_2 =>
   if 0 ≤ r_2.fst then
    if 0 ≤ r_2.fst then
    if r_2.fst < (↑r_2.snd.snd.snd.snd.snd.length : Int) then
     some (rd (Int.ofNat 0) r_2.snd.snd.snd.snd.snd r_2.fst, r_2.snd.snd.fst, r_2.snd.snd.snd.fst, r_2.snd.snd.snd.snd.fst, r_2.snd.snd.snd.snd.snd, r_2.snd.fst)
     else none
    else none
   else
    some (0, r_2.snd.snd.fst, r_2.snd.snd.snd.fst, r_2.snd.snd.snd.snd.fst, r_2.snd.snd.snd.snd.snd, r_2.snd.fst)

noncomputable def two_Det_3.body : Code := fnBody Try.f123
def two_Det_3.ti : Tm := ⟨[(0, .p Z4), (1, .ptr 0 0), (2, .ptr 1 0)], [.box [.fn 120 [.ptr 2 0, .ptr 1 0]] 160, .box [.p Z0, .p Z0, .p Z2, .p Z1] 89, .box [.p Z0] 3]⟩
def two_Det_3.to : Tm := ⟨[(0, .p Z0)], [.box [.fn 120 [.ptr 2 0, .ptr 1 0]] 160, .box [.p Z0, .p Z0, .p Z2, .p Z1] 89, .box [.p Z0] 3]⟩
def two_Det_3.rs (r : Int × Int × Int × (List (List (Int × (Int × Unit)))) × (List Int) × Int) : List Dat := [⟨Z0, r.1⟩, ⟨Z0, r.2.1⟩, ⟨Z0, r.2.2.1⟩, ⟨Z2, r.2.2.2.1⟩, ⟨Z1, r.2.2.2.2.1⟩, ⟨Z0, r.2.2.2.2.2⟩]
def two_Det_3.out (ds : List Dat) : Option (Int × Int × Int × (List (List (Int × (Int × Unit)))) × (List Int) × Int) := pop Z0 ds fun x0 ds => pop Z0 ds fun x1 ds => pop Z0 ds fun x2 ds => pop Z2 ds fun x3 ds => pop Z1 ds fun x4 ds => pop Z0 ds fun x5 ds => popN ds (some (x0, x1, x2, x3, x4, x5))
def two_Det_3.c (k : Nat) (ds : List Dat) : Option (Int × Int × Int × (List (List (Int × (Int × Unit)))) × (List Int) × Int) := pop Z4 ds fun x0 ds => pop Z0 ds fun x1 ds => pop Z0 ds fun x2 ds => pop Z2 ds fun x3 ds => pop Z1 ds fun x4 ds => pop Z0 ds fun x5 ds => popN ds (two_Det_3.f k x0 x1 x2 x3 x4 x5)
def two_Det_3.g : Nat → List Dat → Option (Int × Int × Int × (List (List (Int × (Int × Unit)))) × (List Int) × Int)
 | 0, _ => none
 | k + 1, ds => two_Det_3.c k ds
def two_Det_3.env (k : Nat) : Nat → List SV → List Chunk → KT (Int × Int × Int × (List (List (Int × (Int × Unit)))) × (List Int) × Int) → Option (Int × Int × Int × (List (List (Int × (Int × Unit)))) × (List Int) × Int) := (envC 120 6 two_Det_1.ti two_Det_1.to (fun ds K => pop Z4 ds fun x0 ds => pop .bool ds fun x1 ds => pop Z0 ds fun x2 ds => pop Z0 ds fun x3 ds => pop Z0 ds fun x4 ds => pop Z0 ds fun x5 ds => pop Z0 ds fun x6 ds => pop Z2 ds fun x7 ds => pop Z1 ds fun x8 ds => popN ds ((two_Det_1.f k x0 x1 x2 x3 x4 x5 x6 x7 x8).bind fun r => K (two_Det_1.rs r))) env0)
def two_Det_3.tbl : List (Nat × Tm × (Nat → List Dat → Option (Int × Int × Int × (List (List (Int × (Int × Unit)))) × (List Int) × Int))) := []
noncomputable abbrev two_Det_3.R (k : Nat) := run T (two_Det_3.env k) Try.f123.ntmps (cutE 3 two_Det_3.tbl k) (finE 3 two_Det_3.to two_Det_3.out) (fnRes Try.f123) [] 100000 true
theorem two_Det_3.e (k : Nat) (x0 : (Int × (Int × (Int × (Int × (Int × Unit)))))) (x1 : Int) (x2 : Int) (x3 : (List (List (Int × (Int × Unit))))) (x4 : (List Int)) (x5 : Int) : two_Det_3.f k x0 x1 x2 x3 x4 x5 = two_Det_3.R k ([.code two_Det_3.body]) (two_Det_3.ti.fill [⟨Z4, x0⟩, ⟨Z0, x1⟩, ⟨Z0, x2⟩, ⟨Z2, x3⟩, ⟨Z1, x4⟩, ⟨Z0, x5⟩]) := by kernel_rfl
theorem two_Det_3.h (k : Nat) (ds : List Dat) (r : Int × Int × Int × (List (List (Int × (Int × Unit)))) × (List Int) × Int) (h : two_Det_3.g k ds = some r) : ∃ k', k' < k ∧ two_Det_3.R k' ([.code two_Det_3.body]) (two_Det_3.ti.fill ds) = some r := by
  cases k with
  | zero => cases (show none = some r from h)
  | succ k =>
  replace h : two_Det_3.c k ds = some r := h
  unfold two_Det_3.c at h
  iterate 6 (obtain ⟨_, _, e, g⟩ := pop_some h; clear h; subst e; have h := g; clear g)
  obtain ⟨rfl, g⟩ := popN_some h
  exact ⟨k, Nat.lt_succ_self k, (two_Det_3.e k ..).symm.trans g⟩
theorem two_Det_3.o (ds : List Dat) (r : Int × Int × Int × (List (List (Int × (Int × Unit)))) × (List Int) × Int) (h : two_Det_3.out ds = some r) : ds = two_Det_3.rs r := by
  unfold two_Det_3.out at h
  iterate 6 (obtain ⟨_, _, e, g⟩ := pop_some h; clear h; subst e; have h := g; clear g)
  obtain ⟨rfl, g⟩ := popN_some h
  cases g
  rfl
theorem two_Det_3.fn : FnOk Try.prog 123 Try.f123 two_Det_3.body Try.f123.ntmps 3 (fnRes Try.f123) :=
  fnOk_of (by kernel_rfl) (by kernel_rfl) (by kernel_rfl) (by kernel_rfl)
theorem two_Det_3.con' : ∀ k ds r, two_Det_3.g k ds = some r → Con Try.prog 123 3 two_Det_3.ti two_Det_3.to ds (two_Det_3.rs r) :=
  fun_ok (T := T) T_ok mixed two_Det_3.fn (env := two_Det_3.env) (tbl := two_Det_3.tbl) (gOut := two_Det_3.out) (nin := 3) (cuts := []) (fuel := 100000) rfl (by kernel_rfl) (by kernel_rfl) (by kernel_rfl) (fun x hx => by simp [two_Det_3.tbl] at hx) two_Det_3.o two_Det_3.h (fun k _ => by unfold two_Det_3.env; exact (envC_ok (fun ds K r h => by
    iterate 9 (obtain ⟨_, _, e, g⟩ := pop_some h; clear h; subst e; have h := g; clear g)
    obtain ⟨rfl, g⟩ := popN_some h
    obtain ⟨r1, h1, h2⟩ := bind_some g
    exact ⟨_, h2, two_Det_1.con k _ h1⟩) env0_ok))
theorem two_Det_3.con (k : Nat) {x0 : (Int × (Int × (Int × (Int × (Int × Unit)))))} {x1 : Int} {x2 : Int} {x3 : (List (List (Int × (Int × Unit))))} {x4 : (List Int)} {x5 : Int} (r : Int × Int × Int × (List (List (Int × (Int × Unit)))) × (List Int) × Int) (h : two_Det_3.f k x0 x1 x2 x3 x4 x5 = some r) : Con Try.prog 123 3 two_Det_3.ti two_Det_3.to [⟨Z4, x0⟩, ⟨Z0, x1⟩, ⟨Z0, x2⟩, ⟨Z2, x3⟩, ⟨Z1, x4⟩, ⟨Z0, x5⟩] (two_Det_3.rs r) :=
  two_Det_3.con' (k + 1) _ r (by show two_Det_3.c k _ = some r; unfold two_Det_3.c; simp only [pop_self, popN]; exact h)
mutual
def det_Explore_two_table_.l4 : Nat → Int → Int → Int → Int → Int → List (List ((Int × (Int × Unit)))) → List (Int) → Int → Int → Int → Int → List (((Int × (Int × (Int × (Int × (Int × Unit))))) × Int)) → List ((Int × (Int × (Int × (Int × (Int × Unit)))))) → List (List (Int)) → List (Int) → List (List (Int)) → List (Int) → Option (Int × Int × Bool × Int × Int × Int × List (List (Int × Int × Unit)) × List Int × List (List Int) × List Int)
 | 0, _, _, _, _, _, _, _, _, _, _, _, _, _, _, _, _, _ => none
 | k + 1, letters0, most4, c_0_0, c_2_0, c_2_1, c_2_2, c_2_3, x10_0, x10_1, d12_0, d12_1, number13, l14, c_7, c_8, c_9, c_10 =>
  if (↑c_9.length : Int) < (↑l14.length : Int) then
   if 0 ≤ (↑c_9.length : Int) then
   if (↑c_9.length : Int) < (↑l14.length : Int) then
    if 0 ≤ letters0 then
     if letters0 ≤ letters0 then
      if letters0 * ((↑8 : Int) + 1) ≤ 281474976710656 then
       det_Explore_two_table_.l8 k letters0 most4 letters0 0 c_0_0 c_2_0 c_2_1 c_2_2 c_2_3 x10_0 x10_1 d12_0 d12_1 number13 l14 ((l14.getD (↑c_9.length : Int).toNat (Int.ofNat 0, Int.ofNat 0, Int.ofNat 0, Int.ofNat 0, Int.ofNat 0, ())).fst) ((l14.getD (↑c_9.length : Int).toNat (Int.ofNat 0, Int.ofNat 0, Int.ofNat 0, Int.ofNat 0, Int.ofNat 0, ())).snd.fst) ((l14.getD (↑c_9.length : Int).toNat (Int.ofNat 0, Int.ofNat 0, Int.ofNat 0, Int.ofNat 0, Int.ofNat 0, ())).snd.snd.fst) ((l14.getD (↑c_9.length : Int).toNat (Int.ofNat 0, Int.ofNat 0, Int.ofNat 0, Int.ofNat 0, Int.ofNat 0, ())).snd.snd.snd.fst) ((l14.getD (↑c_9.length : Int).toNat (Int.ofNat 0, Int.ofNat 0, Int.ofNat 0, Int.ofNat 0, Int.ofNat 0, ())).snd.snd.snd.snd.fst) (List.replicate letters0.toNat (Int.ofNat 0)) c_7 c_8 c_9 c_10
       else none
      else none
     else none
    else none
   else none
  else
   some (d12_0, d12_1, true, c_0_0, c_2_0, c_2_1, c_2_2, c_2_3, c_9, c_10)
def det_Explore_two_table_.l8 : Nat → Int → Int → Int → Int → Int → Int → Int → List (List ((Int × (Int × Unit)))) → List (Int) → Int → Int → Int → Int → List (((Int × (Int × (Int × (Int × (Int × Unit))))) × Int)) → List ((Int × (Int × (Int × (Int × (Int × Unit)))))) → Int → Int → Int → Int → Int → List (Int) → List (List (Int)) → List (Int) → List (List (Int)) → List (Int) → Option (Int × Int × Bool × Int × Int × Int × List (List (Int × Int × Unit)) × List Int × List (List Int) × List Int)
 | 0, _, _, _, _, _, _, _, _, _, _, _, _, _, _, _, _, _, _, _, _, _, _, _, _, _ => none
 | k + 1, letters0, most4, x42, x43, c_0_0, c_2_0, c_2_1, c_2_2, c_2_3, x10_0, x10_1, d12_0, d12_1, number13, l14, k15_0, k15_1, k15_2, k15_3, k15_4, row16, c_9, c_10, c_11, c_12 =>
  if x43 < x42 then
   (two_Det_2.f k (k15_0, k15_1, k15_2, k15_3, k15_4, ()) x43 c_0_0 c_2_0 c_2_1 c_2_2 c_2_3).bind fun r_3 =>
    if mhas ((Go.Proofs.YtfkilmmldjajmaaSx.Ty.int Go.IntKind.i64).pair ((Go.Proofs.YtfkilmmldjajmaaSx.Ty.int Go.IntKind.i64).pair ((Go.Proofs.YtfkilmmldjajmaaSx.Ty.int Go.IntKind.i64).pair ((Go.Proofs.YtfkilmmldjajmaaSx.Ty.int Go.IntKind.i64).pair ((Go.Proofs.YtfkilmmldjajmaaSx.Ty.int Go.IntKind.i64).pair Go.Proofs.YtfkilmmldjajmaaSx.Ty.unit))))) (Go.Proofs.YtfkilmmldjajmaaSx.Ty.int Go.IntKind.i64) number13 (r_3.fst.fst, r_3.fst.snd.fst, r_3.fst.snd.snd.fst, r_3.fst.snd.snd.snd.fst, r_3.fst.snd.snd.snd.snd.fst, ()) = true then
     det_Explore_two_table_.j18 k letters0 most4 x43 (mget ((Go.Proofs.YtfkilmmldjajmaaSx.Ty.int Go.IntKind.i64).pair ((Go.Proofs.YtfkilmmldjajmaaSx.Ty.int Go.IntKind.i64).pair ((Go.Proofs.YtfkilmmldjajmaaSx.Ty.int Go.IntKind.i64).pair ((Go.Proofs.YtfkilmmldjajmaaSx.Ty.int Go.IntKind.i64).pair ((Go.Proofs.YtfkilmmldjajmaaSx.Ty.int Go.IntKind.i64).pair Go.Proofs.YtfkilmmldjajmaaSx.Ty.unit))))) (Go.Proofs.YtfkilmmldjajmaaSx.Ty.int Go.IntKind.i64) number13 (r_3.fst.fst, r_3.fst.snd.fst, r_3.fst.snd.snd.fst, r_3.fst.snd.snd.snd.fst, r_3.fst.snd.snd.snd.snd.fst, ())) x42 x43 r_3.snd.fst r_3.snd.snd.fst r_3.snd.snd.snd.fst r_3.snd.snd.snd.snd.fst r_3.snd.snd.snd.snd.snd x10_0 x10_1 d12_0 d12_1 number13 l14 k15_0 k15_1 k15_2 k15_3 k15_4 row16 c_9 c_10 c_11 c_12
    else
     if (↑l14.length : Int) = most4 then
      some (0, 0, false, r_3.snd.fst, r_3.snd.snd.fst, r_3.snd.snd.snd.fst, r_3.snd.snd.snd.snd.fst, r_3.snd.snd.snd.snd.snd, [], [])
     else
      if fitsIn (l14 ++ [(r_3.fst.fst, r_3.fst.snd.fst, r_3.fst.snd.snd.fst, r_3.fst.snd.snd.snd.fst, r_3.fst.snd.snd.snd.snd.fst, ())]).length 40 = true then
      det_Explore_two_table_.j18 k letters0 most4 x43 ((↑l14.length : Int)) x42 x43 r_3.snd.fst r_3.snd.snd.fst r_3.snd.snd.snd.fst r_3.snd.snd.snd.snd.fst r_3.snd.snd.snd.snd.snd x10_0 x10_1 d12_0 d12_1 (mput ((Go.Proofs.YtfkilmmldjajmaaSx.Ty.int Go.IntKind.i64).pair ((Go.Proofs.YtfkilmmldjajmaaSx.Ty.int Go.IntKind.i64).pair ((Go.Proofs.YtfkilmmldjajmaaSx.Ty.int Go.IntKind.i64).pair ((Go.Proofs.YtfkilmmldjajmaaSx.Ty.int Go.IntKind.i64).pair ((Go.Proofs.YtfkilmmldjajmaaSx.Ty.int Go.IntKind.i64).pair Go.Proofs.YtfkilmmldjajmaaSx.Ty.unit))))) (Go.Proofs.YtfkilmmldjajmaaSx.Ty.int Go.IntKind.i64) number13 (r_3.fst.fst, r_3.fst.snd.fst, r_3.fst.snd.snd.fst, r_3.fst.snd.snd.snd.fst, r_3.fst.snd.snd.snd.snd.fst, ()) (↑l14.length : Int)) (l14 ++ [(r_3.fst.fst, r_3.fst.snd.fst, r_3.fst.snd.snd.fst, r_3.fst.snd.snd.snd.fst, r_3.fst.snd.snd.snd.snd.fst, ())]) k15_0 k15_1 k15_2 k15_3 k15_4 row16 c_9 c_10 c_11 c_12
      else none
  else
   if fitsIn (c_11 ++ [row16]).length 24 = true then
   (two_Det_3.f k (k15_0, k15_1, k15_2, k15_3, k15_4, ()) c_2_0 c_2_1 c_2_2 c_2_3 c_0_0).bind fun r_4 =>
     if fitsIn (c_12 ++ [r_4.fst]).length 8 = true then
     det_Explore_two_table_.l4 k letters0 most4 r_4.snd.snd.snd.snd.snd r_4.snd.fst r_4.snd.snd.fst r_4.snd.snd.snd.fst r_4.snd.snd.snd.snd.fst x10_0 x10_1 d12_0 d12_1 number13 l14 c_9 c_10 (c_11 ++ [row16]) (c_12 ++ [r_4.fst])
     else none
   else none
def det_Explore_two_table_.j18 : Nat → Int → Int → Int → Int → Int → Int → Int → Int → Int → List (List ((Int × (Int × Unit)))) → List (Int) → Int → Int → Int → Int → List (((Int × (Int × (Int × (Int × (Int × Unit))))) × Int)) → List ((Int × (Int × (Int × (Int × (Int × Unit)))))) → Int → Int → Int → Int → Int → List (Int) → List (List (Int)) → List (Int) → List (List (Int)) → List (Int) → Option (Int × Int × Bool × Int × Int × Int × List (List (Int × Int × Unit)) × List Int × List (List Int) × List Int)
 | 0, _, _, _, _, _, _, _, _, _, _, _, _, _, _, _, _, _, _, _, _, _, _, _, _, _, _, _ => none
 | k + 1, letters0, most4, a17, n19, x42, x43, c_0_0, c_2_0, c_2_1, c_2_2, c_2_3, x10_0, x10_1, d12_0, d12_1, number13, l14, k15_0, k15_1, k15_2, k15_3, k15_4, row16, c_9, c_10, c_11, c_12 =>
  if 0 ≤ a17 then
  if a17 < (↑row16.length : Int) then
   det_Explore_two_table_.l8 k letters0 most4 x42 (Go.IntKind.i64.wrap (x43 + 1)) c_0_0 c_2_0 c_2_1 c_2_2 c_2_3 x10_0 x10_1 d12_0 d12_1 number13 l14 k15_0 k15_1 k15_2 k15_3 k15_4 (row16.set a17.toNat n19) c_9 c_10 c_11 c_12
   else none
  else none
end
def det_Explore_two_table_.f (k : Nat) (letters0 : Int) (first1 : (Int × (Int × (Int × (Int × (Int × Unit)))))) (most4 : Int) (c_0_0 : Int) (c_2_0 : Int) (c_2_1 : Int) (c_2_2 : List (List ((Int × (Int × Unit))))) (c_2_3 : List (Int)) : Option (Int × Int × Bool × Int × Int × Int × List (List (Int × Int × Unit)) × List Int × List (List Int) × List Int) :=
 det_Explore_two_table_.l4 k letters0 most4 c_0_0 c_2_0 c_2_1 c_2_2 c_2_3 0 0 letters0 0 (mput ((Go.Proofs.YtfkilmmldjajmaaSx.Ty.int Go.IntKind.i64).pair ((Go.Proofs.YtfkilmmldjajmaaSx.Ty.int Go.IntKind.i64).pair ((Go.Proofs.YtfkilmmldjajmaaSx.Ty.int Go.IntKind.i64).pair ((Go.Proofs.YtfkilmmldjajmaaSx.Ty.int Go.IntKind.i64).pair ((Go.Proofs.YtfkilmmldjajmaaSx.Ty.int Go.IntKind.i64).pair Go.Proofs.YtfkilmmldjajmaaSx.Ty.unit))))) (Go.Proofs.YtfkilmmldjajmaaSx.Ty.int Go.IntKind.i64) [] (first1.fst, first1.snd.fst, first1.snd.snd.fst, first1.snd.snd.snd.fst, first1.snd.snd.snd.snd.fst, ()) (Int.ofNat 0)) ([(first1.fst, first1.snd.fst, first1.snd.snd.fst, first1.snd.snd.snd.fst, first1.snd.snd.snd.snd.fst, ())]) [] [] [] []

noncomputable def det_Explore_two_table_.body : Code := fnBody Try.f121
def det_Explore_two_table_.ti : Tm := ⟨[(0, .p Z0), (1, .p Z4), (2, .fn 122 [.ptr 0 0, .ptr 1 0]), (3, .fn 123 [.ptr 1 0, .ptr 2 0]), (4, .p Z0)], [.box [.p Z0] 3, .box [.fn 120 [.ptr 0 0, .ptr 2 0]] 160, .box [.p Z0, .p Z0, .p Z2, .p Z1] 89]⟩
def det_Explore_two_table_.to : Tm := ⟨[(0, .agg [.p Z0, .p Z0, .own 3, .own 4]), (1, .p .bool)], [.box [.p Z0] 3, .box [.fn 120 [.ptr 0 0, .ptr 2 0]] 160, .box [.p Z0, .p Z0, .p Z2, .p Z1] 89, .own Z1, .own Z0]⟩
def det_Explore_two_table_.rs (r : Int × Int × Bool × Int × Int × Int × (List (List (Int × (Int × Unit)))) × (List Int) × (List (List Int)) × (List Int)) : List Dat := [⟨Z0, r.1⟩, ⟨Z0, r.2.1⟩, ⟨.bool, r.2.2.1⟩, ⟨Z0, r.2.2.2.1⟩, ⟨Z0, r.2.2.2.2.1⟩, ⟨Z0, r.2.2.2.2.2.1⟩, ⟨Z2, r.2.2.2.2.2.2.1⟩, ⟨Z1, r.2.2.2.2.2.2.2.1⟩, ⟨Z3, r.2.2.2.2.2.2.2.2.1⟩, ⟨Z1, r.2.2.2.2.2.2.2.2.2⟩]
def det_Explore_two_table_.out (ds : List Dat) : Option (Int × Int × Bool × Int × Int × Int × (List (List (Int × (Int × Unit)))) × (List Int) × (List (List Int)) × (List Int)) := pop Z0 ds fun x0 ds => pop Z0 ds fun x1 ds => pop .bool ds fun x2 ds => pop Z0 ds fun x3 ds => pop Z0 ds fun x4 ds => pop Z0 ds fun x5 ds => pop Z2 ds fun x6 ds => pop Z1 ds fun x7 ds => pop Z3 ds fun x8 ds => pop Z1 ds fun x9 ds => popN ds (some (x0, x1, x2, x3, x4, x5, x6, x7, x8, x9))
def det_Explore_two_table_.c (k : Nat) (ds : List Dat) : Option (Int × Int × Bool × Int × Int × Int × (List (List (Int × (Int × Unit)))) × (List Int) × (List (List Int)) × (List Int)) := pop Z0 ds fun x0 ds => pop Z4 ds fun x1 ds => pop Z0 ds fun x2 ds => pop Z0 ds fun x3 ds => pop Z0 ds fun x4 ds => pop Z0 ds fun x5 ds => pop Z2 ds fun x6 ds => pop Z1 ds fun x7 ds => popN ds (det_Explore_two_table_.f k x0 x1 x2 x3 x4 x5 x6 x7)
def det_Explore_two_table_.g : Nat → List Dat → Option (Int × Int × Bool × Int × Int × Int × (List (List (Int × (Int × Unit)))) × (List Int) × (List (List Int)) × (List Int))
 | 0, _ => none
 | k + 1, ds => det_Explore_two_table_.c k ds
def det_Explore_two_table_.env (k : Nat) : Nat → List SV → List Chunk → KT (Int × Int × Bool × Int × Int × Int × (List (List (Int × (Int × Unit)))) × (List Int) × (List (List Int)) × (List Int)) → Option (Int × Int × Bool × Int × Int × Int × (List (List (Int × (Int × Unit)))) × (List Int) × (List (List Int)) × (List Int)) := (envC 122 4 two_Det_2.ti two_Det_2.to (fun ds K => pop Z4 ds fun x0 ds => pop Z0 ds fun x1 ds => pop Z0 ds fun x2 ds => pop Z0 ds fun x3 ds => pop Z0 ds fun x4 ds => pop Z2 ds fun x5 ds => pop Z1 ds fun x6 ds => popN ds ((two_Det_2.f k x0 x1 x2 x3 x4 x5 x6).bind fun r => K (two_Det_2.rs r))) (envC 123 3 two_Det_3.ti two_Det_3.to (fun ds K => pop Z4 ds fun x0 ds => pop Z0 ds fun x1 ds => pop Z0 ds fun x2 ds => pop Z2 ds fun x3 ds => pop Z1 ds fun x4 ds => pop Z0 ds fun x5 ds => popN ds ((two_Det_3.f k x0 x1 x2 x3 x4 x5).bind fun r => K (two_Det_3.rs r))) env0))
def det_Explore_two_table_.t9 : Tm := ⟨[(0, .p Z0), (2, .fn 122 [.ptr 0 0, .ptr 1 0]), (3, .fn 123 [.ptr 1 0, .ptr 2 0]), (4, .p Z0), (10, .ptr 3 0), (12, .ptr 4 0), (13, .map 5), (14, .own 6)], [.box [.p Z0] 3, .box [.fn 120 [.ptr 0 0, .ptr 2 0]] 160, .box [.p Z0, .p Z0, .p Z2, .p Z1] 89, .box [.p Z0, .p Z0, .own 7, .own 8] 60, .box [.p Z0, .p Z0, .own 9, .own 10] 60, .map Z4 Z0, .own Z4, .own Z1, .own Z0, .own Z1, .own Z0]⟩
def det_Explore_two_table_.c9 (k : Nat) (ds : List Dat) : Option (Int × Int × Bool × Int × Int × Int × (List (List (Int × (Int × Unit)))) × (List Int) × (List (List Int)) × (List Int)) := pop Z0 ds fun x0 ds => pop Z0 ds fun x1 ds => pop Z0 ds fun x2 ds => pop Z0 ds fun x3 ds => pop Z0 ds fun x4 ds => pop Z2 ds fun x5 ds => pop Z1 ds fun x6 ds => pop Z0 ds fun x7 ds => pop Z0 ds fun x8 ds => pop Z0 ds fun x9 ds => pop Z0 ds fun x10 ds => pop (.slice (.pair Z4 Z0)) ds fun x11 ds => pop (.slice Z4) ds fun x12 ds => pop Z3 ds fun x13 ds => pop Z1 ds fun x14 ds => pop Z3 ds fun x15 ds => pop Z1 ds fun x16 ds => popN ds (det_Explore_two_table_.l4 k x0 x1 x2 x3 x4 x5 x6 x7 x8 x9 x10 x11 x12 x13 x14 x15 x16)
def det_Explore_two_table_.t17 : Tm := ⟨[(0, .p Z0), (2, .fn 122 [.ptr 0 0, .ptr 1 0]), (3, .fn 123 [.ptr 1 0, .ptr 2 0]), (4, .p Z0), (10, .ptr 3 0), (12, .ptr 4 0), (13, .map 5), (14, .own 6), (15, .ptr 7 0), (16, .own 8), (42, .p Z0), (43, .p Z0)], [.box [.p Z0] 3, .box [.fn 120 [.ptr 0 0, .ptr 2 0]] 160, .box [.p Z0, .p Z0, .p Z2, .p Z1] 89, .box [.p Z0, .p Z0, .own 9, .own 10] 60, .box [.p Z0, .p Z0, .own 11, .own 12] 60, .map Z4 Z0, .own Z4, .box [.p Z0, .p Z0, .p Z0, .p Z0, .p Z0] 159, .own Z0, .own Z1, .own Z0, .own Z1, .own Z0]⟩
def det_Explore_two_table_.c17 (k : Nat) (ds : List Dat) : Option (Int × Int × Bool × Int × Int × Int × (List (List (Int × (Int × Unit)))) × (List Int) × (List (List Int)) × (List Int)) := pop Z0 ds fun x0 ds => pop Z0 ds fun x1 ds => pop Z0 ds fun x2 ds => pop Z0 ds fun x3 ds => pop Z0 ds fun x4 ds => pop Z0 ds fun x5 ds => pop Z0 ds fun x6 ds => pop Z2 ds fun x7 ds => pop Z1 ds fun x8 ds => pop Z0 ds fun x9 ds => pop Z0 ds fun x10 ds => pop Z0 ds fun x11 ds => pop Z0 ds fun x12 ds => pop (.slice (.pair Z4 Z0)) ds fun x13 ds => pop (.slice Z4) ds fun x14 ds => pop Z0 ds fun x15 ds => pop Z0 ds fun x16 ds => pop Z0 ds fun x17 ds => pop Z0 ds fun x18 ds => pop Z0 ds fun x19 ds => pop Z1 ds fun x20 ds => pop Z3 ds fun x21 ds => pop Z1 ds fun x22 ds => pop Z3 ds fun x23 ds => pop Z1 ds fun x24 ds => popN ds (det_Explore_two_table_.l8 k x0 x1 x2 x3 x4 x5 x6 x7 x8 x9 x10 x11 x12 x13 x14 x15 x16 x17 x18 x19 x20 x21 x22 x23 x24)
def det_Explore_two_table_.t36 : Tm := ⟨[(0, .p Z0), (2, .fn 122 [.ptr 0 0, .ptr 1 0]), (3, .fn 123 [.ptr 1 0, .ptr 2 0]), (4, .p Z0), (10, .ptr 3 0), (12, .ptr 4 0), (13, .map 5), (14, .own 6), (15, .ptr 7 0), (16, .own 8), (17, .p Z0), (19, .p Z0), (42, .p Z0), (43, .p Z0)], [.box [.p Z0] 3, .box [.fn 120 [.ptr 0 0, .ptr 2 0]] 160, .box [.p Z0, .p Z0, .p Z2, .p Z1] 89, .box [.p Z0, .p Z0, .own 9, .own 10] 60, .box [.p Z0, .p Z0, .own 11, .own 12] 60, .map Z4 Z0, .own Z4, .box [.p Z0, .p Z0, .p Z0, .p Z0, .p Z0] 159, .own Z0, .own Z1, .own Z0, .own Z1, .own Z0]⟩
def det_Explore_two_table_.c36 (k : Nat) (ds : List Dat) : Option (Int × Int × Bool × Int × Int × Int × (List (List (Int × (Int × Unit)))) × (List Int) × (List (List Int)) × (List Int)) := pop Z0 ds fun x0 ds => pop Z0 ds fun x1 ds => pop Z0 ds fun x2 ds => pop Z0 ds fun x3 ds => pop Z0 ds fun x4 ds => pop Z0 ds fun x5 ds => pop Z0 ds fun x6 ds => pop Z0 ds fun x7 ds => pop Z0 ds fun x8 ds => pop Z2 ds fun x9 ds => pop Z1 ds fun x10 ds => pop Z0 ds fun x11 ds => pop Z0 ds fun x12 ds => pop Z0 ds fun x13 ds => pop Z0 ds fun x14 ds => pop (.slice (.pair Z4 Z0)) ds fun x15 ds => pop (.slice Z4) ds fun x16 ds => pop Z0 ds fun x17 ds => pop Z0 ds fun x18 ds => pop Z0 ds fun x19 ds => pop Z0 ds fun x20 ds => pop Z0 ds fun x21 ds => pop Z1 ds fun x22 ds => pop Z3 ds fun x23 ds => pop Z1 ds fun x24 ds => pop Z3 ds fun x25 ds => pop Z1 ds fun x26 ds => popN ds (det_Explore_two_table_.j18 k x0 x1 x2 x3 x4 x5 x6 x7 x8 x9 x10 x11 x12 x13 x14 x15 x16 x17 x18 x19 x20 x21 x22 x23 x24 x25 x26)
def det_Explore_two_table_.tbl : List (Nat × Tm × (Nat → List Dat → Option (Int × Int × Bool × Int × Int × Int × (List (List (Int × (Int × Unit)))) × (List Int) × (List (List Int)) × (List Int)))) := [(9, det_Explore_two_table_.t9, det_Explore_two_table_.c9), (17, det_Explore_two_table_.t17, det_Explore_two_table_.c17), (36, det_Explore_two_table_.t36, det_Explore_two_table_.c36)]
noncomputable abbrev det_Explore_two_table_.R (k : Nat) := run T (det_Explore_two_table_.env k) Try.f121.ntmps (cutE 3 det_Explore_two_table_.tbl k) (finE 3 det_Explore_two_table_.to det_Explore_two_table_.out) (fnRes Try.f121) [18] 100000 true
theorem det_Explore_two_table_.e9 (k : Nat) (x0 : Int) (x1 : Int) (x2 : Int) (x3 : Int) (x4 : Int) (x5 : (List (List (Int × (Int × Unit))))) (x6 : (List Int)) (x7 : Int) (x8 : Int) (x9 : Int) (x10 : Int) (x11 : (List ((Int × (Int × (Int × (Int × (Int × Unit))))) × Int))) (x12 : (List (Int × (Int × (Int × (Int × (Int × Unit))))))) (x13 : (List (List Int))) (x14 : (List Int)) (x15 : (List (List Int))) (x16 : (List Int)) : det_Explore_two_table_.l4 (k + 1) x0 x1 x2 x3 x4 x5 x6 x7 x8 x9 x10 x11 x12 x13 x14 x15 x16 = det_Explore_two_table_.R k (start (stackOf 9 det_Explore_two_table_.body)) (det_Explore_two_table_.t9.fill [⟨Z0, x0⟩, ⟨Z0, x1⟩, ⟨Z0, x2⟩, ⟨Z0, x3⟩, ⟨Z0, x4⟩, ⟨Z2, x5⟩, ⟨Z1, x6⟩, ⟨Z0, x7⟩, ⟨Z0, x8⟩, ⟨Z0, x9⟩, ⟨Z0, x10⟩, ⟨(.slice (.pair Z4 Z0)), x11⟩, ⟨(.slice Z4), x12⟩, ⟨Z3, x13⟩, ⟨Z1, x14⟩, ⟨Z3, x15⟩, ⟨Z1, x16⟩]) := by kernel_rfl
theorem det_Explore_two_table_.s9 : stackAt 9 det_Explore_two_table_.body [] = some (stackOf 9 det_Explore_two_table_.body) := by kernel_rfl
theorem det_Explore_two_table_.h9 (k : Nat) (ds : List Dat) (r : Int × Int × Bool × Int × Int × Int × (List (List (Int × (Int × Unit)))) × (List Int) × (List (List Int)) × (List Int)) (h : det_Explore_two_table_.c9 k ds = some r) : ∃ k', k' < k ∧ ∃ s, stackAt 9 det_Explore_two_table_.body [] = some s ∧ det_Explore_two_table_.R k' (start s) (det_Explore_two_table_.t9.fill ds) = some r := by
  unfold det_Explore_two_table_.c9 at h
  iterate 17 (obtain ⟨_, _, e, g⟩ := pop_some h; clear h; subst e; have h := g; clear g)
  obtain ⟨rfl, g⟩ := popN_some h
  cases k with
  | zero => cases (show none = some r from g)
  | succ k => exact ⟨k, Nat.lt_succ_self k, _, det_Explore_two_table_.s9, (det_Explore_two_table_.e9 k ..).symm.trans g⟩
theorem det_Explore_two_table_.e17 (k : Nat) (x0 : Int) (x1 : Int) (x2 : Int) (x3 : Int) (x4 : Int) (x5 : Int) (x6 : Int) (x7 : (List (List (Int × (Int × Unit))))) (x8 : (List Int)) (x9 : Int) (x10 : Int) (x11 : Int) (x12 : Int) (x13 : (List ((Int × (Int × (Int × (Int × (Int × Unit))))) × Int))) (x14 : (List (Int × (Int × (Int × (Int × (Int × Unit))))))) (x15 : Int) (x16 : Int) (x17 : Int) (x18 : Int) (x19 : Int) (x20 : (List Int)) (x21 : (List (List Int))) (x22 : (List Int)) (x23 : (List (List Int))) (x24 : (List Int)) : det_Explore_two_table_.l8 (k + 1) x0 x1 x2 x3 x4 x5 x6 x7 x8 x9 x10 x11 x12 x13 x14 x15 x16 x17 x18 x19 x20 x21 x22 x23 x24 = det_Explore_two_table_.R k (start (stackOf 17 det_Explore_two_table_.body)) (det_Explore_two_table_.t17.fill [⟨Z0, x0⟩, ⟨Z0, x1⟩, ⟨Z0, x2⟩, ⟨Z0, x3⟩, ⟨Z0, x4⟩, ⟨Z0, x5⟩, ⟨Z0, x6⟩, ⟨Z2, x7⟩, ⟨Z1, x8⟩, ⟨Z0, x9⟩, ⟨Z0, x10⟩, ⟨Z0, x11⟩, ⟨Z0, x12⟩, ⟨(.slice (.pair Z4 Z0)), x13⟩, ⟨(.slice Z4), x14⟩, ⟨Z0, x15⟩, ⟨Z0, x16⟩, ⟨Z0, x17⟩, ⟨Z0, x18⟩, ⟨Z0, x19⟩, ⟨Z1, x20⟩, ⟨Z3, x21⟩, ⟨Z1, x22⟩, ⟨Z3, x23⟩, ⟨Z1, x24⟩]) := by kernel_rfl
theorem det_Explore_two_table_.s17 : stackAt 17 det_Explore_two_table_.body [] = some (stackOf 17 det_Explore_two_table_.body) := by kernel_rfl
theorem det_Explore_two_table_.h17 (k : Nat) (ds : List Dat) (r : Int × Int × Bool × Int × Int × Int × (List (List (Int × (Int × Unit)))) × (List Int) × (List (List Int)) × (List Int)) (h : det_Explore_two_table_.c17 k ds = some r) : ∃ k', k' < k ∧ ∃ s, stackAt 17 det_Explore_two_table_.body [] = some s ∧ det_Explore_two_table_.R k' (start s) (det_Explore_two_table_.t17.fill ds) = some r := by
  unfold det_Explore_two_table_.c17 at h
  iterate 25 (obtain ⟨_, _, e, g⟩ := pop_some h; clear h; subst e; have h := g; clear g)
  obtain ⟨rfl, g⟩ := popN_some h
  cases k with
  | zero => cases (show none = some r from g)
  | succ k => exact ⟨k, Nat.lt_succ_self k, _, det_Explore_two_table_.s17, (det_Explore_two_table_.e17 k ..).symm.trans g⟩
theorem det_Explore_two_table_.e36 (k : Nat) (x0 : Int) (x1 : Int) (x2 : Int) (x3 : Int) (x4 : Int) (x5 : Int) (x6 : Int) (x7 : Int) (x8 : Int) (x9 : (List (List (Int × (Int × Unit))))) (x10 : (List Int)) (x11 : Int) (x12 : Int) (x13 : Int) (x14 : Int) (x15 : (List ((Int × (Int × (Int × (Int × (Int × Unit))))) × Int))) (x16 : (List (Int × (Int × (Int × (Int × (Int × Unit))))))) (x17 : Int) (x18 : Int) (x19 : Int) (x20 : Int) (x21 : Int) (x22 : (List Int)) (x23 : (List (List Int))) (x24 : (List Int)) (x25 : (List (List Int))) (x26 : (List Int)) : det_Explore_two_table_.j18 (k + 1) x0 x1 x2 x3 x4 x5 x6 x7 x8 x9 x10 x11 x12 x13 x14 x15 x16 x17 x18 x19 x20 x21 x22 x23 x24 x25 x26 = det_Explore_two_table_.R k (start (stackOf 36 det_Explore_two_table_.body)) (det_Explore_two_table_.t36.fill [⟨Z0, x0⟩, ⟨Z0, x1⟩, ⟨Z0, x2⟩, ⟨Z0, x3⟩, ⟨Z0, x4⟩, ⟨Z0, x5⟩, ⟨Z0, x6⟩, ⟨Z0, x7⟩, ⟨Z0, x8⟩, ⟨Z2, x9⟩, ⟨Z1, x10⟩, ⟨Z0, x11⟩, ⟨Z0, x12⟩, ⟨Z0, x13⟩, ⟨Z0, x14⟩, ⟨(.slice (.pair Z4 Z0)), x15⟩, ⟨(.slice Z4), x16⟩, ⟨Z0, x17⟩, ⟨Z0, x18⟩, ⟨Z0, x19⟩, ⟨Z0, x20⟩, ⟨Z0, x21⟩, ⟨Z1, x22⟩, ⟨Z3, x23⟩, ⟨Z1, x24⟩, ⟨Z3, x25⟩, ⟨Z1, x26⟩]) := by kernel_rfl
theorem det_Explore_two_table_.s36 : stackAt 36 det_Explore_two_table_.body [] = some (stackOf 36 det_Explore_two_table_.body) := by kernel_rfl
theorem det_Explore_two_table_.h36 (k : Nat) (ds : List Dat) (r : Int × Int × Bool × Int × Int × Int × (List (List (Int × (Int × Unit)))) × (List Int) × (List (List Int)) × (List Int)) (h : det_Explore_two_table_.c36 k ds = some r) : ∃ k', k' < k ∧ ∃ s, stackAt 36 det_Explore_two_table_.body [] = some s ∧ det_Explore_two_table_.R k' (start s) (det_Explore_two_table_.t36.fill ds) = some r := by
  unfold det_Explore_two_table_.c36 at h
  iterate 27 (obtain ⟨_, _, e, g⟩ := pop_some h; clear h; subst e; have h := g; clear g)
  obtain ⟨rfl, g⟩ := popN_some h
  cases k with
  | zero => cases (show none = some r from g)
  | succ k => exact ⟨k, Nat.lt_succ_self k, _, det_Explore_two_table_.s36, (det_Explore_two_table_.e36 k ..).symm.trans g⟩
theorem det_Explore_two_table_.e (k : Nat) (x0 : Int) (x1 : (Int × (Int × (Int × (Int × (Int × Unit)))))) (x2 : Int) (x3 : Int) (x4 : Int) (x5 : Int) (x6 : (List (List (Int × (Int × Unit))))) (x7 : (List Int)) : det_Explore_two_table_.f k x0 x1 x2 x3 x4 x5 x6 x7 = det_Explore_two_table_.R k ([.code det_Explore_two_table_.body]) (det_Explore_two_table_.ti.fill [⟨Z0, x0⟩, ⟨Z4, x1⟩, ⟨Z0, x2⟩, ⟨Z0, x3⟩, ⟨Z0, x4⟩, ⟨Z0, x5⟩, ⟨Z2, x6⟩, ⟨Z1, x7⟩]) := by kernel_rfl
theorem det_Explore_two_table_.h (k : Nat) (ds : List Dat) (r : Int × Int × Bool × Int × Int × Int × (List (List (Int × (Int × Unit)))) × (List Int) × (List (List Int)) × (List Int)) (h : det_Explore_two_table_.g k ds = some r) : ∃ k', k' < k ∧ det_Explore_two_table_.R k' ([.code det_Explore_two_table_.body]) (det_Explore_two_table_.ti.fill ds) = some r := by
  cases k with
  | zero => cases (show none = some r from h)
  | succ k =>
  replace h : det_Explore_two_table_.c k ds = some r := h
  unfold det_Explore_two_table_.c at h
  iterate 8 (obtain ⟨_, _, e, g⟩ := pop_some h; clear h; subst e; have h := g; clear g)
  obtain ⟨rfl, g⟩ := popN_some h
  exact ⟨k, Nat.lt_succ_self k, (det_Explore_two_table_.e k ..).symm.trans g⟩
theorem det_Explore_two_table_.o (ds : List Dat) (r : Int × Int × Bool × Int × Int × Int × (List (List (Int × (Int × Unit)))) × (List Int) × (List (List Int)) × (List Int)) (h : det_Explore_two_table_.out ds = some r) : ds = det_Explore_two_table_.rs r := by
  unfold det_Explore_two_table_.out at h
  iterate 10 (obtain ⟨_, _, e, g⟩ := pop_some h; clear h; subst e; have h := g; clear g)
  obtain ⟨rfl, g⟩ := popN_some h
  cases g
  rfl
theorem det_Explore_two_table_.fn : FnOk Try.prog 121 Try.f121 det_Explore_two_table_.body Try.f121.ntmps 5 (fnRes Try.f121) :=
  fnOk_of (by kernel_rfl) (by kernel_rfl) (by kernel_rfl) (by kernel_rfl)
theorem det_Explore_two_table_.con' : ∀ k ds r, det_Explore_two_table_.g k ds = some r → Con Try.prog 121 5 det_Explore_two_table_.ti det_Explore_two_table_.to ds (det_Explore_two_table_.rs r) :=
  fun_ok (T := T) T_ok mixed det_Explore_two_table_.fn (env := det_Explore_two_table_.env) (tbl := det_Explore_two_table_.tbl) (gOut := det_Explore_two_table_.out) (nin := 3) (cuts := [18]) (fuel := 100000) rfl (by kernel_rfl) (by kernel_rfl) (by kernel_rfl) (fun x hx => by
    simp only [det_Explore_two_table_.tbl, List.mem_cons, List.not_mem_nil, or_false] at hx
    rcases hx with rfl | rfl | rfl
    · exact det_Explore_two_table_.h9
    · exact det_Explore_two_table_.h17
    · exact det_Explore_two_table_.h36
) det_Explore_two_table_.o det_Explore_two_table_.h (fun k _ => by unfold det_Explore_two_table_.env; exact (envC_ok (fun ds K r h => by
    iterate 7 (obtain ⟨_, _, e, g⟩ := pop_some h; clear h; subst e; have h := g; clear g)
    obtain ⟨rfl, g⟩ := popN_some h
    obtain ⟨r1, h1, h2⟩ := bind_some g
    exact ⟨_, h2, two_Det_2.con k _ h1⟩) (envC_ok (fun ds K r h => by
    iterate 6 (obtain ⟨_, _, e, g⟩ := pop_some h; clear h; subst e; have h := g; clear g)
    obtain ⟨rfl, g⟩ := popN_some h
    obtain ⟨r1, h1, h2⟩ := bind_some g
    exact ⟨_, h2, two_Det_3.con k _ h1⟩) env0_ok)))
theorem det_Explore_two_table_.con (k : Nat) {x0 : Int} {x1 : (Int × (Int × (Int × (Int × (Int × Unit)))))} {x2 : Int} {x3 : Int} {x4 : Int} {x5 : Int} {x6 : (List (List (Int × (Int × Unit))))} {x7 : (List Int)} (r : Int × Int × Bool × Int × Int × Int × (List (List (Int × (Int × Unit)))) × (List Int) × (List (List Int)) × (List Int)) (h : det_Explore_two_table_.f k x0 x1 x2 x3 x4 x5 x6 x7 = some r) : Con Try.prog 121 5 det_Explore_two_table_.ti det_Explore_two_table_.to [⟨Z0, x0⟩, ⟨Z4, x1⟩, ⟨Z0, x2⟩, ⟨Z0, x3⟩, ⟨Z0, x4⟩, ⟨Z0, x5⟩, ⟨Z2, x6⟩, ⟨Z1, x7⟩] (det_Explore_two_table_.rs r) :=
  det_Explore_two_table_.con' (k + 1) _ r (by show det_Explore_two_table_.c k _ = some r; unfold det_Explore_two_table_.c; simp only [pop_self, popN]; exact h)
def alter_Check_1.f (k : Nat) (r0 : List (List (List (Int)))) (x1_0 : Int) (x1_1 : Int) (x1_2 : List (List (List (List (Int))))) (x1_3 : List (Int)) : Option (Bool × Int × Int × List (List (List (List Int))) × List Int) :=
 some (!decide ((↑r0.length : Int) = x1_0), x1_0, x1_1, x1_2, x1_3)

noncomputable def alter_Check_1.body : Code := fnBody Try.f85
def alter_Check_1.ti : Tm := ⟨[(0, .p (.slice Z3)), (1, .ptr 0 0)], [.box [.p Z0, .p Z0, .p Z5, .p Z1] 25]⟩
def alter_Check_1.to : Tm := ⟨[(0, .p .bool)], [.box [.p Z0, .p Z0, .p Z5, .p Z1] 25]⟩
def alter_Check_1.rs (r : Bool × Int × Int × (List (List (List (List Int)))) × (List Int)) : List Dat := [⟨.bool, r.1⟩, ⟨Z0, r.2.1⟩, ⟨Z0, r.2.2.1⟩, ⟨Z5, r.2.2.2.1⟩, ⟨Z1, r.2.2.2.2⟩]
def alter_Check_1.out (ds : List Dat) : Option (Bool × Int × Int × (List (List (List (List Int)))) × (List Int)) := pop .bool ds fun x0 ds => pop Z0 ds fun x1 ds => pop Z0 ds fun x2 ds => pop Z5 ds fun x3 ds => pop Z1 ds fun x4 ds => popN ds (some (x0, x1, x2, x3, x4))
def alter_Check_1.c (k : Nat) (ds : List Dat) : Option (Bool × Int × Int × (List (List (List (List Int)))) × (List Int)) := pop (.slice Z3) ds fun x0 ds => pop Z0 ds fun x1 ds => pop Z0 ds fun x2 ds => pop Z5 ds fun x3 ds => pop Z1 ds fun x4 ds => popN ds (alter_Check_1.f k x0 x1 x2 x3 x4)
def alter_Check_1.g : Nat → List Dat → Option (Bool × Int × Int × (List (List (List (List Int)))) × (List Int))
 | 0, _ => none
 | k + 1, ds => alter_Check_1.c k ds
def alter_Check_1.env (k : Nat) : Nat → List SV → List Chunk → KT (Bool × Int × Int × (List (List (List (List Int)))) × (List Int)) → Option (Bool × Int × Int × (List (List (List (List Int)))) × (List Int)) := env0
def alter_Check_1.tbl : List (Nat × Tm × (Nat → List Dat → Option (Bool × Int × Int × (List (List (List (List Int)))) × (List Int)))) := []
noncomputable abbrev alter_Check_1.R (k : Nat) := run T (alter_Check_1.env k) Try.f85.ntmps (cutE 1 alter_Check_1.tbl k) (finE 1 alter_Check_1.to alter_Check_1.out) (fnRes Try.f85) [] 100000 true
theorem alter_Check_1.e (k : Nat) (x0 : (List (List (List Int)))) (x1 : Int) (x2 : Int) (x3 : (List (List (List (List Int))))) (x4 : (List Int)) : alter_Check_1.f k x0 x1 x2 x3 x4 = alter_Check_1.R k ([.code alter_Check_1.body]) (alter_Check_1.ti.fill [⟨(.slice Z3), x0⟩, ⟨Z0, x1⟩, ⟨Z0, x2⟩, ⟨Z5, x3⟩, ⟨Z1, x4⟩]) := by kernel_rfl
theorem alter_Check_1.h (k : Nat) (ds : List Dat) (r : Bool × Int × Int × (List (List (List (List Int)))) × (List Int)) (h : alter_Check_1.g k ds = some r) : ∃ k', k' < k ∧ alter_Check_1.R k' ([.code alter_Check_1.body]) (alter_Check_1.ti.fill ds) = some r := by
  cases k with
  | zero => cases (show none = some r from h)
  | succ k =>
  replace h : alter_Check_1.c k ds = some r := h
  unfold alter_Check_1.c at h
  iterate 5 (obtain ⟨_, _, e, g⟩ := pop_some h; clear h; subst e; have h := g; clear g)
  obtain ⟨rfl, g⟩ := popN_some h
  exact ⟨k, Nat.lt_succ_self k, (alter_Check_1.e k ..).symm.trans g⟩
theorem alter_Check_1.o (ds : List Dat) (r : Bool × Int × Int × (List (List (List (List Int)))) × (List Int)) (h : alter_Check_1.out ds = some r) : ds = alter_Check_1.rs r := by
  unfold alter_Check_1.out at h
  iterate 5 (obtain ⟨_, _, e, g⟩ := pop_some h; clear h; subst e; have h := g; clear g)
  obtain ⟨rfl, g⟩ := popN_some h
  cases g
  rfl
theorem alter_Check_1.fn : FnOk Try.prog 85 Try.f85 alter_Check_1.body Try.f85.ntmps 2 (fnRes Try.f85) :=
  fnOk_of (by kernel_rfl) (by kernel_rfl) (by kernel_rfl) (by kernel_rfl)
theorem alter_Check_1.con' : ∀ k ds r, alter_Check_1.g k ds = some r → Con Try.prog 85 2 alter_Check_1.ti alter_Check_1.to ds (alter_Check_1.rs r) :=
  fun_ok (T := T) T_ok mixed alter_Check_1.fn (env := alter_Check_1.env) (tbl := alter_Check_1.tbl) (gOut := alter_Check_1.out) (nin := 1) (cuts := []) (fuel := 100000) rfl (by kernel_rfl) (by kernel_rfl) (by kernel_rfl) (fun x hx => by simp [alter_Check_1.tbl] at hx) alter_Check_1.o alter_Check_1.h (fun k _ => by unfold alter_Check_1.env; exact env0_ok)
theorem alter_Check_1.con (k : Nat) {x0 : (List (List (List Int)))} {x1 : Int} {x2 : Int} {x3 : (List (List (List (List Int))))} {x4 : (List Int)} (r : Bool × Int × Int × (List (List (List (List Int)))) × (List Int)) (h : alter_Check_1.f k x0 x1 x2 x3 x4 = some r) : Con Try.prog 85 2 alter_Check_1.ti alter_Check_1.to [⟨(.slice Z3), x0⟩, ⟨Z0, x1⟩, ⟨Z0, x2⟩, ⟨Z5, x3⟩, ⟨Z1, x4⟩] (alter_Check_1.rs r) :=
  alter_Check_1.con' (k + 1) _ r (by show alter_Check_1.c k _ = some r; unfold alter_Check_1.c; simp only [pop_self, popN]; exact h)
mutual
def Sf17.l2 : Nat → List (List (List (List (Int)))) → Int → Int → Int → Int → List (List (List (List (Int)))) → List (Int) → Option (Int × Int × Int × List (List (List (List Int))) × List Int)
 | 0, _, _, _, _, _, _, _ => none
 | k + 1, s0, x7, x8, c_0_0, c_0_1, c_0_2, c_0_3 =>
  if x8 < x7 then
   if 0 ≤ x8 then
   if x8 < (↑s0.length : Int) then
    (alter_Check_1.f k (rd [] s0 x8) c_0_0 c_0_1 c_0_2 c_0_3).bind fun r_5 =>
      if r_5.fst = true then
       some (x8, r_5.snd.fst, r_5.snd.snd.fst, r_5.snd.snd.snd.fst, r_5.snd.snd.snd.snd)
      else
       Sf17.l2 k s0 x7 (Go.IntKind.i64.wrap (x8 + 1)) r_5.snd.fst r_5.snd.snd.fst r_5.snd.snd.snd.fst r_5.snd.snd.snd.snd
    else none
   else none
  else
   some (-1, c_0_0, c_0_1, c_0_2, c_0_3)
end
def Sf17.f (k : Nat) (s0 : List (List (List (List (Int))))) (c_0_0 : Int) (c_0_1 : Int) (c_0_2 : List (List (List (List (Int))))) (c_0_3 : List (Int)) : Option (Int × Int × Int × List (List (List (List Int))) × List Int) :=
 Sf17.l2 k s0 ((↑s0.length : Int)) 0 c_0_0 c_0_1 c_0_2 c_0_3

noncomputable def Sf17.body : Code := fnBody Try.f149
def Sf17.ti : Tm := ⟨[(0, .p Z5), (1, .fn 85 [.ptr 0 0])], [.box [.p Z0, .p Z0, .p Z5, .p Z1] 25]⟩
def Sf17.to : Tm := ⟨[(0, .p Z0)], [.box [.p Z0, .p Z0, .p Z5, .p Z1] 25]⟩
def Sf17.rs (r : Int × Int × Int × (List (List (List (List Int)))) × (List Int)) : List Dat := [⟨Z0, r.1⟩, ⟨Z0, r.2.1⟩, ⟨Z0, r.2.2.1⟩, ⟨Z5, r.2.2.2.1⟩, ⟨Z1, r.2.2.2.2⟩]
def Sf17.out (ds : List Dat) : Option (Int × Int × Int × (List (List (List (List Int)))) × (List Int)) := pop Z0 ds fun x0 ds => pop Z0 ds fun x1 ds => pop Z0 ds fun x2 ds => pop Z5 ds fun x3 ds => pop Z1 ds fun x4 ds => popN ds (some (x0, x1, x2, x3, x4))
def Sf17.c (k : Nat) (ds : List Dat) : Option (Int × Int × Int × (List (List (List (List Int)))) × (List Int)) := pop Z5 ds fun x0 ds => pop Z0 ds fun x1 ds => pop Z0 ds fun x2 ds => pop Z5 ds fun x3 ds => pop Z1 ds fun x4 ds => popN ds (Sf17.f k x0 x1 x2 x3 x4)
def Sf17.g : Nat → List Dat → Option (Int × Int × Int × (List (List (List (List Int)))) × (List Int))
 | 0, _ => none
 | k + 1, ds => Sf17.c k ds
def Sf17.env (k : Nat) : Nat → List SV → List Chunk → KT (Int × Int × Int × (List (List (List (List Int)))) × (List Int)) → Option (Int × Int × Int × (List (List (List (List Int)))) × (List Int)) := (envC 85 2 alter_Check_1.ti alter_Check_1.to (fun ds K => pop (.slice Z3) ds fun x0 ds => pop Z0 ds fun x1 ds => pop Z0 ds fun x2 ds => pop Z5 ds fun x3 ds => pop Z1 ds fun x4 ds => popN ds ((alter_Check_1.f k x0 x1 x2 x3 x4).bind fun r => K (alter_Check_1.rs r))) env0)
def Sf17.t5 : Tm := ⟨[(0, .p Z5), (1, .fn 85 [.ptr 0 0]), (7, .p Z0), (8, .p Z0)], [.box [.p Z0, .p Z0, .p Z5, .p Z1] 25]⟩
def Sf17.c5 (k : Nat) (ds : List Dat) : Option (Int × Int × Int × (List (List (List (List Int)))) × (List Int)) := pop Z5 ds fun x0 ds => pop Z0 ds fun x1 ds => pop Z0 ds fun x2 ds => pop Z0 ds fun x3 ds => pop Z0 ds fun x4 ds => pop Z5 ds fun x5 ds => pop Z1 ds fun x6 ds => popN ds (Sf17.l2 k x0 x1 x2 x3 x4 x5 x6)
def Sf17.tbl : List (Nat × Tm × (Nat → List Dat → Option (Int × Int × Int × (List (List (List (List Int)))) × (List Int)))) := [(5, Sf17.t5, Sf17.c5)]
noncomputable abbrev Sf17.R (k : Nat) := run T (Sf17.env k) Try.f149.ntmps (cutE 1 Sf17.tbl k) (finE 1 Sf17.to Sf17.out) (fnRes Try.f149) [] 100000 true
theorem Sf17.e5 (k : Nat) (x0 : (List (List (List (List Int))))) (x1 : Int) (x2 : Int) (x3 : Int) (x4 : Int) (x5 : (List (List (List (List Int))))) (x6 : (List Int)) : Sf17.l2 (k + 1) x0 x1 x2 x3 x4 x5 x6 = Sf17.R k (start (stackOf 5 Sf17.body)) (Sf17.t5.fill [⟨Z5, x0⟩, ⟨Z0, x1⟩, ⟨Z0, x2⟩, ⟨Z0, x3⟩, ⟨Z0, x4⟩, ⟨Z5, x5⟩, ⟨Z1, x6⟩]) := by kernel_rfl
theorem Sf17.s5 : stackAt 5 Sf17.body [] = some (stackOf 5 Sf17.body) := by kernel_rfl
theorem Sf17.h5 (k : Nat) (ds : List Dat) (r : Int × Int × Int × (List (List (List (List Int)))) × (List Int)) (h : Sf17.c5 k ds = some r) : ∃ k', k' < k ∧ ∃ s, stackAt 5 Sf17.body [] = some s ∧ Sf17.R k' (start s) (Sf17.t5.fill ds) = some r := by
  unfold Sf17.c5 at h
  iterate 7 (obtain ⟨_, _, e, g⟩ := pop_some h; clear h; subst e; have h := g; clear g)
  obtain ⟨rfl, g⟩ := popN_some h
  cases k with
  | zero => cases (show none = some r from g)
  | succ k => exact ⟨k, Nat.lt_succ_self k, _, Sf17.s5, (Sf17.e5 k ..).symm.trans g⟩
theorem Sf17.e (k : Nat) (x0 : (List (List (List (List Int))))) (x1 : Int) (x2 : Int) (x3 : (List (List (List (List Int))))) (x4 : (List Int)) : Sf17.f k x0 x1 x2 x3 x4 = Sf17.R k ([.code Sf17.body]) (Sf17.ti.fill [⟨Z5, x0⟩, ⟨Z0, x1⟩, ⟨Z0, x2⟩, ⟨Z5, x3⟩, ⟨Z1, x4⟩]) := by kernel_rfl
theorem Sf17.h (k : Nat) (ds : List Dat) (r : Int × Int × Int × (List (List (List (List Int)))) × (List Int)) (h : Sf17.g k ds = some r) : ∃ k', k' < k ∧ Sf17.R k' ([.code Sf17.body]) (Sf17.ti.fill ds) = some r := by
  cases k with
  | zero => cases (show none = some r from h)
  | succ k =>
  replace h : Sf17.c k ds = some r := h
  unfold Sf17.c at h
  iterate 5 (obtain ⟨_, _, e, g⟩ := pop_some h; clear h; subst e; have h := g; clear g)
  obtain ⟨rfl, g⟩ := popN_some h
  exact ⟨k, Nat.lt_succ_self k, (Sf17.e k ..).symm.trans g⟩
theorem Sf17.o (ds : List Dat) (r : Int × Int × Int × (List (List (List (List Int)))) × (List Int)) (h : Sf17.out ds = some r) : ds = Sf17.rs r := by
  unfold Sf17.out at h
  iterate 5 (obtain ⟨_, _, e, g⟩ := pop_some h; clear h; subst e; have h := g; clear g)
  obtain ⟨rfl, g⟩ := popN_some h
  cases g
  rfl
theorem Sf17.fn : FnOk Try.prog 149 Try.f149 Sf17.body Try.f149.ntmps 2 (fnRes Try.f149) :=
  fnOk_of (by kernel_rfl) (by kernel_rfl) (by kernel_rfl) (by kernel_rfl)
theorem Sf17.con' : ∀ k ds r, Sf17.g k ds = some r → Con Try.prog 149 2 Sf17.ti Sf17.to ds (Sf17.rs r) :=
  fun_ok (T := T) T_ok mixed Sf17.fn (env := Sf17.env) (tbl := Sf17.tbl) (gOut := Sf17.out) (nin := 1) (cuts := []) (fuel := 100000) rfl (by kernel_rfl) (by kernel_rfl) (by kernel_rfl) (fun x hx => by
    simp only [Sf17.tbl, List.mem_cons, List.not_mem_nil, or_false] at hx
    subst hx
    · exact Sf17.h5
) Sf17.o Sf17.h (fun k _ => by unfold Sf17.env; exact (envC_ok (fun ds K r h => by
    iterate 5 (obtain ⟨_, _, e, g⟩ := pop_some h; clear h; subst e; have h := g; clear g)
    obtain ⟨rfl, g⟩ := popN_some h
    obtain ⟨r1, h1, h2⟩ := bind_some g
    exact ⟨_, h2, alter_Check_1.con k _ h1⟩) env0_ok))
theorem Sf17.con (k : Nat) {x0 : (List (List (List (List Int))))} {x1 : Int} {x2 : Int} {x3 : (List (List (List (List Int))))} {x4 : (List Int)} (r : Int × Int × Int × (List (List (List (List Int)))) × (List Int)) (h : Sf17.f k x0 x1 x2 x3 x4 = some r) : Con Try.prog 149 2 Sf17.ti Sf17.to [⟨Z5, x0⟩, ⟨Z0, x1⟩, ⟨Z0, x2⟩, ⟨Z5, x3⟩, ⟨Z1, x4⟩] (Sf17.rs r) :=
  Sf17.con' (k + 1) _ r (by show Sf17.c k _ = some r; unfold Sf17.c; simp only [pop_self, popN]; exact h)
def Sf18.f (k : Nat) (s0 : List (List (List (List (Int))))) (c_0_0 : Int) (c_0_1 : Int) (c_0_2 : List (List (List (List (Int))))) (c_0_3 : List (Int)) : Option (Bool × Int × Int × List (List (List (List Int))) × List Int) :=
 (Sf17.f k s0 c_0_0 c_0_1 c_0_2 c_0_3).bind fun r_1 =>
  some (decide (0 ≤ r_1.fst), r_1.snd.fst, r_1.snd.snd.fst, r_1.snd.snd.snd.fst, r_1.snd.snd.snd.snd)

noncomputable def Sf18.body : Code := fnBody Try.f84
def Sf18.ti : Tm := ⟨[(0, .p Z5), (1, .fn 85 [.ptr 0 0])], [.box [.p Z0, .p Z0, .p Z5, .p Z1] 25]⟩
def Sf18.to : Tm := ⟨[(0, .p .bool)], [.box [.p Z0, .p Z0, .p Z5, .p Z1] 25]⟩
def Sf18.rs (r : Bool × Int × Int × (List (List (List (List Int)))) × (List Int)) : List Dat := [⟨.bool, r.1⟩, ⟨Z0, r.2.1⟩, ⟨Z0, r.2.2.1⟩, ⟨Z5, r.2.2.2.1⟩, ⟨Z1, r.2.2.2.2⟩]
def Sf18.out (ds : List Dat) : Option (Bool × Int × Int × (List (List (List (List Int)))) × (List Int)) := pop .bool ds fun x0 ds => pop Z0 ds fun x1 ds => pop Z0 ds fun x2 ds => pop Z5 ds fun x3 ds => pop Z1 ds fun x4 ds => popN ds (some (x0, x1, x2, x3, x4))
def Sf18.c (k : Nat) (ds : List Dat) : Option (Bool × Int × Int × (List (List (List (List Int)))) × (List Int)) := pop Z5 ds fun x0 ds => pop Z0 ds fun x1 ds => pop Z0 ds fun x2 ds => pop Z5 ds fun x3 ds => pop Z1 ds fun x4 ds => popN ds (Sf18.f k x0 x1 x2 x3 x4)
def Sf18.g : Nat → List Dat → Option (Bool × Int × Int × (List (List (List (List Int)))) × (List Int))
 | 0, _ => none
 | k + 1, ds => Sf18.c k ds
def Sf18.env (k : Nat) : Nat → List SV → List Chunk → KT (Bool × Int × Int × (List (List (List (List Int)))) × (List Int)) → Option (Bool × Int × Int × (List (List (List (List Int)))) × (List Int)) := (envC 149 2 Sf17.ti Sf17.to (fun ds K => pop Z5 ds fun x0 ds => pop Z0 ds fun x1 ds => pop Z0 ds fun x2 ds => pop Z5 ds fun x3 ds => pop Z1 ds fun x4 ds => popN ds ((Sf17.f k x0 x1 x2 x3 x4).bind fun r => K (Sf17.rs r))) env0)
def Sf18.tbl : List (Nat × Tm × (Nat → List Dat → Option (Bool × Int × Int × (List (List (List (List Int)))) × (List Int)))) := []
noncomputable abbrev Sf18.R (k : Nat) := run T (Sf18.env k) Try.f84.ntmps (cutE 1 Sf18.tbl k) (finE 1 Sf18.to Sf18.out) (fnRes Try.f84) [] 100000 true
theorem Sf18.e (k : Nat) (x0 : (List (List (List (List Int))))) (x1 : Int) (x2 : Int) (x3 : (List (List (List (List Int))))) (x4 : (List Int)) : Sf18.f k x0 x1 x2 x3 x4 = Sf18.R k ([.code Sf18.body]) (Sf18.ti.fill [⟨Z5, x0⟩, ⟨Z0, x1⟩, ⟨Z0, x2⟩, ⟨Z5, x3⟩, ⟨Z1, x4⟩]) := by kernel_rfl
theorem Sf18.h (k : Nat) (ds : List Dat) (r : Bool × Int × Int × (List (List (List (List Int)))) × (List Int)) (h : Sf18.g k ds = some r) : ∃ k', k' < k ∧ Sf18.R k' ([.code Sf18.body]) (Sf18.ti.fill ds) = some r := by
  cases k with
  | zero => cases (show none = some r from h)
  | succ k =>
  replace h : Sf18.c k ds = some r := h
  unfold Sf18.c at h
  iterate 5 (obtain ⟨_, _, e, g⟩ := pop_some h; clear h; subst e; have h := g; clear g)
  obtain ⟨rfl, g⟩ := popN_some h
  exact ⟨k, Nat.lt_succ_self k, (Sf18.e k ..).symm.trans g⟩
theorem Sf18.o (ds : List Dat) (r : Bool × Int × Int × (List (List (List (List Int)))) × (List Int)) (h : Sf18.out ds = some r) : ds = Sf18.rs r := by
  unfold Sf18.out at h
  iterate 5 (obtain ⟨_, _, e, g⟩ := pop_some h; clear h; subst e; have h := g; clear g)
  obtain ⟨rfl, g⟩ := popN_some h
  cases g
  rfl
theorem Sf18.fn : FnOk Try.prog 84 Try.f84 Sf18.body Try.f84.ntmps 2 (fnRes Try.f84) :=
  fnOk_of (by kernel_rfl) (by kernel_rfl) (by kernel_rfl) (by kernel_rfl)
theorem Sf18.con' : ∀ k ds r, Sf18.g k ds = some r → Con Try.prog 84 2 Sf18.ti Sf18.to ds (Sf18.rs r) :=
  fun_ok (T := T) T_ok mixed Sf18.fn (env := Sf18.env) (tbl := Sf18.tbl) (gOut := Sf18.out) (nin := 1) (cuts := []) (fuel := 100000) rfl (by kernel_rfl) (by kernel_rfl) (by kernel_rfl) (fun x hx => by simp [Sf18.tbl] at hx) Sf18.o Sf18.h (fun k _ => by unfold Sf18.env; exact (envC_ok (fun ds K r h => by
    iterate 5 (obtain ⟨_, _, e, g⟩ := pop_some h; clear h; subst e; have h := g; clear g)
    obtain ⟨rfl, g⟩ := popN_some h
    obtain ⟨r1, h1, h2⟩ := bind_some g
    exact ⟨_, h2, Sf17.con k _ h1⟩) env0_ok))
theorem Sf18.con (k : Nat) {x0 : (List (List (List (List Int))))} {x1 : Int} {x2 : Int} {x3 : (List (List (List (List Int))))} {x4 : (List Int)} (r : Bool × Int × Int × (List (List (List (List Int)))) × (List Int)) (h : Sf18.f k x0 x1 x2 x3 x4 = some r) : Con Try.prog 84 2 Sf18.ti Sf18.to [⟨Z5, x0⟩, ⟨Z0, x1⟩, ⟨Z0, x2⟩, ⟨Z5, x3⟩, ⟨Z1, x4⟩] (Sf18.rs r) :=
  Sf18.con' (k + 1) _ r (by show Sf18.c k _ = some r; unfold Sf18.c; simp only [pop_self, popN]; exact h)
def alter_Check_2.f (k : Nat) (q0 : Int) (x1_0 : Int) : Option (Bool × Int) :=
 if q0 < 0 then
  some (true, x1_0)
 else
  some (decide (x1_0 ≤ q0), x1_0)

noncomputable def alter_Check_2.body : Code := fnBody Try.f86
def alter_Check_2.ti : Tm := ⟨[(0, .p Z0), (1, .ptr 0 0)], [.box [.p Z0] 3]⟩
def alter_Check_2.to : Tm := ⟨[(0, .p .bool)], [.box [.p Z0] 3]⟩
def alter_Check_2.rs (r : Bool × Int) : List Dat := [⟨.bool, r.1⟩, ⟨Z0, r.2⟩]
def alter_Check_2.out (ds : List Dat) : Option (Bool × Int) := pop .bool ds fun x0 ds => pop Z0 ds fun x1 ds => popN ds (some (x0, x1))
def alter_Check_2.c (k : Nat) (ds : List Dat) : Option (Bool × Int) := pop Z0 ds fun x0 ds => pop Z0 ds fun x1 ds => popN ds (alter_Check_2.f k x0 x1)
def alter_Check_2.g : Nat → List Dat → Option (Bool × Int)
 | 0, _ => none
 | k + 1, ds => alter_Check_2.c k ds
def alter_Check_2.env (k : Nat) : Nat → List SV → List Chunk → KT (Bool × Int) → Option (Bool × Int) := env0
def alter_Check_2.tbl : List (Nat × Tm × (Nat → List Dat → Option (Bool × Int))) := []
noncomputable abbrev alter_Check_2.R (k : Nat) := run T (alter_Check_2.env k) Try.f86.ntmps (cutE 1 alter_Check_2.tbl k) (finE 1 alter_Check_2.to alter_Check_2.out) (fnRes Try.f86) [] 100000 true
theorem alter_Check_2.e (k : Nat) (x0 : Int) (x1 : Int) : alter_Check_2.f k x0 x1 = alter_Check_2.R k ([.code alter_Check_2.body]) (alter_Check_2.ti.fill [⟨Z0, x0⟩, ⟨Z0, x1⟩]) := by kernel_rfl
theorem alter_Check_2.h (k : Nat) (ds : List Dat) (r : Bool × Int) (h : alter_Check_2.g k ds = some r) : ∃ k', k' < k ∧ alter_Check_2.R k' ([.code alter_Check_2.body]) (alter_Check_2.ti.fill ds) = some r := by
  cases k with
  | zero => cases (show none = some r from h)
  | succ k =>
  replace h : alter_Check_2.c k ds = some r := h
  unfold alter_Check_2.c at h
  iterate 2 (obtain ⟨_, _, e, g⟩ := pop_some h; clear h; subst e; have h := g; clear g)
  obtain ⟨rfl, g⟩ := popN_some h
  exact ⟨k, Nat.lt_succ_self k, (alter_Check_2.e k ..).symm.trans g⟩
theorem alter_Check_2.o (ds : List Dat) (r : Bool × Int) (h : alter_Check_2.out ds = some r) : ds = alter_Check_2.rs r := by
  unfold alter_Check_2.out at h
  iterate 2 (obtain ⟨_, _, e, g⟩ := pop_some h; clear h; subst e; have h := g; clear g)
  obtain ⟨rfl, g⟩ := popN_some h
  cases g
  rfl
theorem alter_Check_2.fn : FnOk Try.prog 86 Try.f86 alter_Check_2.body Try.f86.ntmps 2 (fnRes Try.f86) :=
  fnOk_of (by kernel_rfl) (by kernel_rfl) (by kernel_rfl) (by kernel_rfl)
theorem alter_Check_2.con' : ∀ k ds r, alter_Check_2.g k ds = some r → Con Try.prog 86 2 alter_Check_2.ti alter_Check_2.to ds (alter_Check_2.rs r) :=
  fun_ok (T := T) T_ok mixed alter_Check_2.fn (env := alter_Check_2.env) (tbl := alter_Check_2.tbl) (gOut := alter_Check_2.out) (nin := 1) (cuts := []) (fuel := 100000) rfl (by kernel_rfl) (by kernel_rfl) (by kernel_rfl) (fun x hx => by simp [alter_Check_2.tbl] at hx) alter_Check_2.o alter_Check_2.h (fun k _ => by unfold alter_Check_2.env; exact env0_ok)
theorem alter_Check_2.con (k : Nat) {x0 : Int} {x1 : Int} (r : Bool × Int) (h : alter_Check_2.f k x0 x1 = some r) : Con Try.prog 86 2 alter_Check_2.ti alter_Check_2.to [⟨Z0, x0⟩, ⟨Z0, x1⟩] (alter_Check_2.rs r) :=
  alter_Check_2.con' (k + 1) _ r (by show alter_Check_2.c k _ = some r; unfold alter_Check_2.c; simp only [pop_self, popN]; exact h)
def alter_Check_5.f (k : Nat) (m0 : Int) : Option (Bool) :=
 if m0 = 0 then
  some (false)
 else
  some (!decide (m0 = 1))

noncomputable def alter_Check_5.body : Code := fnBody Try.f89
def alter_Check_5.ti : Tm := ⟨[(0, .p Z0)], []⟩
def alter_Check_5.to : Tm := ⟨[(0, .p .bool)], []⟩
def alter_Check_5.rs (r : Bool) : List Dat := [⟨.bool, r⟩]
def alter_Check_5.out (ds : List Dat) : Option (Bool) := pop .bool ds fun x0 ds => popN ds (some (x0))
def alter_Check_5.c (k : Nat) (ds : List Dat) : Option (Bool) := pop Z0 ds fun x0 ds => popN ds (alter_Check_5.f k x0)
def alter_Check_5.g : Nat → List Dat → Option (Bool)
 | 0, _ => none
 | k + 1, ds => alter_Check_5.c k ds
def alter_Check_5.env (k : Nat) : Nat → List SV → List Chunk → KT (Bool) → Option (Bool) := env0
def alter_Check_5.tbl : List (Nat × Tm × (Nat → List Dat → Option (Bool))) := []
noncomputable abbrev alter_Check_5.R (k : Nat) := run T (alter_Check_5.env k) Try.f89.ntmps (cutE 0 alter_Check_5.tbl k) (finE 0 alter_Check_5.to alter_Check_5.out) (fnRes Try.f89) [] 100000 true
theorem alter_Check_5.e (k : Nat) (x0 : Int) : alter_Check_5.f k x0 = alter_Check_5.R k ([.code alter_Check_5.body]) (alter_Check_5.ti.fill [⟨Z0, x0⟩]) := by kernel_rfl
theorem alter_Check_5.h (k : Nat) (ds : List Dat) (r : Bool) (h : alter_Check_5.g k ds = some r) : ∃ k', k' < k ∧ alter_Check_5.R k' ([.code alter_Check_5.body]) (alter_Check_5.ti.fill ds) = some r := by
  cases k with
  | zero => cases (show none = some r from h)
  | succ k =>
  replace h : alter_Check_5.c k ds = some r := h
  unfold alter_Check_5.c at h
  obtain ⟨x0, d0, rfl, h0⟩ := pop_some h
  obtain ⟨rfl, g⟩ := popN_some h0
  exact ⟨k, Nat.lt_succ_self k, (alter_Check_5.e k ..).symm.trans g⟩
theorem alter_Check_5.o (ds : List Dat) (r : Bool) (h : alter_Check_5.out ds = some r) : ds = alter_Check_5.rs r := by
  unfold alter_Check_5.out at h
  obtain ⟨x0, d0, rfl, h0⟩ := pop_some h
  obtain ⟨rfl, g⟩ := popN_some h0
  cases g
  rfl
theorem alter_Check_5.fn : FnOk Try.prog 89 Try.f89 alter_Check_5.body Try.f89.ntmps 1 (fnRes Try.f89) :=
  fnOk_of (by kernel_rfl) (by kernel_rfl) (by kernel_rfl) (by kernel_rfl)
theorem alter_Check_5.con' : ∀ k ds r, alter_Check_5.g k ds = some r → Con Try.prog 89 1 alter_Check_5.ti alter_Check_5.to ds (alter_Check_5.rs r) :=
  fun_ok (T := T) T_ok mixed alter_Check_5.fn (env := alter_Check_5.env) (tbl := alter_Check_5.tbl) (gOut := alter_Check_5.out) (nin := 0) (cuts := []) (fuel := 100000) rfl (by kernel_rfl) (by kernel_rfl) (by kernel_rfl) (fun x hx => by simp [alter_Check_5.tbl] at hx) alter_Check_5.o alter_Check_5.h (fun k _ => by unfold alter_Check_5.env; exact env0_ok)
theorem alter_Check_5.con (k : Nat) {x0 : Int} (r : Bool) (h : alter_Check_5.f k x0 = some r) : Con Try.prog 89 1 alter_Check_5.ti alter_Check_5.to [⟨Z0, x0⟩] (alter_Check_5.rs r) :=
  alter_Check_5.con' (k + 1) _ r (by show alter_Check_5.c k _ = some r; unfold alter_Check_5.c; simp only [pop_self, popN]; exact h)
mutual
def Sf19.l2 : Nat → List (Int) → Int → Int → Option (Int)
 | 0, _, _, _ => none
 | k + 1, s0, x7, x8 =>
  if x8 < x7 then
   if 0 ≤ x8 then
   if x8 < (↑s0.length : Int) then
    (alter_Check_5.f k (rd (Int.ofNat 0) s0 x8)).bind fun r_5 =>
      if r_5 = true then
       some (x8)
      else
       Sf19.l2 k s0 x7 (Go.IntKind.i64.wrap (x8 + 1))
    else none
   else none
  else
   some (-1)
end
def Sf19.f (k : Nat) (s0 : List (Int)) : Option (Int) :=
 Sf19.l2 k s0 ((↑s0.length : Int)) 0

noncomputable def Sf19.body : Code := fnBody Try.f146
def Sf19.ti : Tm := ⟨[(0, .p Z1), (1, .fn 89 [])], []⟩
def Sf19.to : Tm := ⟨[(0, .p Z0)], []⟩
def Sf19.rs (r : Int) : List Dat := [⟨Z0, r⟩]
def Sf19.out (ds : List Dat) : Option (Int) := pop Z0 ds fun x0 ds => popN ds (some (x0))
def Sf19.c (k : Nat) (ds : List Dat) : Option (Int) := pop Z1 ds fun x0 ds => popN ds (Sf19.f k x0)
def Sf19.g : Nat → List Dat → Option (Int)
 | 0, _ => none
 | k + 1, ds => Sf19.c k ds
def Sf19.env (k : Nat) : Nat → List SV → List Chunk → KT (Int) → Option (Int) := (envC 89 1 alter_Check_5.ti alter_Check_5.to (fun ds K => pop Z0 ds fun x0 ds => popN ds ((alter_Check_5.f k x0).bind fun r => K (alter_Check_5.rs r))) env0)
def Sf19.t5 : Tm := ⟨[(0, .p Z1), (1, .fn 89 []), (7, .p Z0), (8, .p Z0)], []⟩
def Sf19.c5 (k : Nat) (ds : List Dat) : Option (Int) := pop Z1 ds fun x0 ds => pop Z0 ds fun x1 ds => pop Z0 ds fun x2 ds => popN ds (Sf19.l2 k x0 x1 x2)
def Sf19.tbl : List (Nat × Tm × (Nat → List Dat → Option (Int))) := [(5, Sf19.t5, Sf19.c5)]
noncomputable abbrev Sf19.R (k : Nat) := run T (Sf19.env k) Try.f146.ntmps (cutE 0 Sf19.tbl k) (finE 0 Sf19.to Sf19.out) (fnRes Try.f146) [] 100000 true
theorem Sf19.e5 (k : Nat) (x0 : (List Int)) (x1 : Int) (x2 : Int) : Sf19.l2 (k + 1) x0 x1 x2 = Sf19.R k (start (stackOf 5 Sf19.body)) (Sf19.t5.fill [⟨Z1, x0⟩, ⟨Z0, x1⟩, ⟨Z0, x2⟩]) := by kernel_rfl
theorem Sf19.s5 : stackAt 5 Sf19.body [] = some (stackOf 5 Sf19.body) := by kernel_rfl
theorem Sf19.h5 (k : Nat) (ds : List Dat) (r : Int) (h : Sf19.c5 k ds = some r) : ∃ k', k' < k ∧ ∃ s, stackAt 5 Sf19.body [] = some s ∧ Sf19.R k' (start s) (Sf19.t5.fill ds) = some r := by
  unfold Sf19.c5 at h
  iterate 3 (obtain ⟨_, _, e, g⟩ := pop_some h; clear h; subst e; have h := g; clear g)
  obtain ⟨rfl, g⟩ := popN_some h
  cases k with
  | zero => cases (show none = some r from g)
  | succ k => exact ⟨k, Nat.lt_succ_self k, _, Sf19.s5, (Sf19.e5 k ..).symm.trans g⟩
theorem Sf19.e (k : Nat) (x0 : (List Int)) : Sf19.f k x0 = Sf19.R k ([.code Sf19.body]) (Sf19.ti.fill [⟨Z1, x0⟩]) := by kernel_rfl
theorem Sf19.h (k : Nat) (ds : List Dat) (r : Int) (h : Sf19.g k ds = some r) : ∃ k', k' < k ∧ Sf19.R k' ([.code Sf19.body]) (Sf19.ti.fill ds) = some r := by
  cases k with
  | zero => cases (show none = some r from h)
  | succ k =>
  replace h : Sf19.c k ds = some r := h
  unfold Sf19.c at h
  obtain ⟨x0, d0, rfl, h0⟩ := pop_some h
  obtain ⟨rfl, g⟩ := popN_some h0
  exact ⟨k, Nat.lt_succ_self k, (Sf19.e k ..).symm.trans g⟩
theorem Sf19.o (ds : List Dat) (r : Int) (h : Sf19.out ds = some r) : ds = Sf19.rs r := by
  unfold Sf19.out at h
  obtain ⟨x0, d0, rfl, h0⟩ := pop_some h
  obtain ⟨rfl, g⟩ := popN_some h0
  cases g
  rfl
theorem Sf19.fn : FnOk Try.prog 146 Try.f146 Sf19.body Try.f146.ntmps 2 (fnRes Try.f146) :=
  fnOk_of (by kernel_rfl) (by kernel_rfl) (by kernel_rfl) (by kernel_rfl)
theorem Sf19.con' : ∀ k ds r, Sf19.g k ds = some r → Con Try.prog 146 2 Sf19.ti Sf19.to ds (Sf19.rs r) :=
  fun_ok (T := T) T_ok mixed Sf19.fn (env := Sf19.env) (tbl := Sf19.tbl) (gOut := Sf19.out) (nin := 0) (cuts := []) (fuel := 100000) rfl (by kernel_rfl) (by kernel_rfl) (by kernel_rfl) (fun x hx => by
    simp only [Sf19.tbl, List.mem_cons, List.not_mem_nil, or_false] at hx
    subst hx
    · exact Sf19.h5
) Sf19.o Sf19.h (fun k _ => by unfold Sf19.env; exact (envC_ok (fun ds K r h => by
    obtain ⟨x0, d0, rfl, h0⟩ := pop_some h
    obtain ⟨rfl, g⟩ := popN_some h0
    obtain ⟨r1, h1, h2⟩ := bind_some g
    exact ⟨_, h2, alter_Check_5.con k _ h1⟩) env0_ok))
theorem Sf19.con (k : Nat) {x0 : (List Int)} (r : Int) (h : Sf19.f k x0 = some r) : Con Try.prog 146 2 Sf19.ti Sf19.to [⟨Z1, x0⟩] (Sf19.rs r) :=
  Sf19.con' (k + 1) _ r (by show Sf19.c k _ = some r; unfold Sf19.c; simp only [pop_self, popN]; exact h)
def Sf20.f (k : Nat) (s0 : List (Int)) : Option (Bool) :=
 (Sf19.f k s0).bind fun r_1 =>
  some (decide (0 ≤ r_1))

noncomputable def Sf20.body : Code := fnBody Try.f74
def Sf20.ti : Tm := ⟨[(0, .p Z1), (1, .fn 89 [])], []⟩
def Sf20.to : Tm := ⟨[(0, .p .bool)], []⟩
def Sf20.rs (r : Bool) : List Dat := [⟨.bool, r⟩]
def Sf20.out (ds : List Dat) : Option (Bool) := pop .bool ds fun x0 ds => popN ds (some (x0))
def Sf20.c (k : Nat) (ds : List Dat) : Option (Bool) := pop Z1 ds fun x0 ds => popN ds (Sf20.f k x0)
def Sf20.g : Nat → List Dat → Option (Bool)
 | 0, _ => none
 | k + 1, ds => Sf20.c k ds
def Sf20.env (k : Nat) : Nat → List SV → List Chunk → KT (Bool) → Option (Bool) := (envC 146 2 Sf19.ti Sf19.to (fun ds K => pop Z1 ds fun x0 ds => popN ds ((Sf19.f k x0).bind fun r => K (Sf19.rs r))) env0)
def Sf20.tbl : List (Nat × Tm × (Nat → List Dat → Option (Bool))) := []
noncomputable abbrev Sf20.R (k : Nat) := run T (Sf20.env k) Try.f74.ntmps (cutE 0 Sf20.tbl k) (finE 0 Sf20.to Sf20.out) (fnRes Try.f74) [] 100000 true
theorem Sf20.e (k : Nat) (x0 : (List Int)) : Sf20.f k x0 = Sf20.R k ([.code Sf20.body]) (Sf20.ti.fill [⟨Z1, x0⟩]) := by kernel_rfl
theorem Sf20.h (k : Nat) (ds : List Dat) (r : Bool) (h : Sf20.g k ds = some r) : ∃ k', k' < k ∧ Sf20.R k' ([.code Sf20.body]) (Sf20.ti.fill ds) = some r := by
  cases k with
  | zero => cases (show none = some r from h)
  | succ k =>
  replace h : Sf20.c k ds = some r := h
  unfold Sf20.c at h
  obtain ⟨x0, d0, rfl, h0⟩ := pop_some h
  obtain ⟨rfl, g⟩ := popN_some h0
  exact ⟨k, Nat.lt_succ_self k, (Sf20.e k ..).symm.trans g⟩
theorem Sf20.o (ds : List Dat) (r : Bool) (h : Sf20.out ds = some r) : ds = Sf20.rs r := by
  unfold Sf20.out at h
  obtain ⟨x0, d0, rfl, h0⟩ := pop_some h
  obtain ⟨rfl, g⟩ := popN_some h0
  cases g
  rfl
theorem Sf20.fn : FnOk Try.prog 74 Try.f74 Sf20.body Try.f74.ntmps 2 (fnRes Try.f74) :=
  fnOk_of (by kernel_rfl) (by kernel_rfl) (by kernel_rfl) (by kernel_rfl)
theorem Sf20.con' : ∀ k ds r, Sf20.g k ds = some r → Con Try.prog 74 2 Sf20.ti Sf20.to ds (Sf20.rs r) :=
  fun_ok (T := T) T_ok mixed Sf20.fn (env := Sf20.env) (tbl := Sf20.tbl) (gOut := Sf20.out) (nin := 0) (cuts := []) (fuel := 100000) rfl (by kernel_rfl) (by kernel_rfl) (by kernel_rfl) (fun x hx => by simp [Sf20.tbl] at hx) Sf20.o Sf20.h (fun k _ => by unfold Sf20.env; exact (envC_ok (fun ds K r h => by
    obtain ⟨x0, d0, rfl, h0⟩ := pop_some h
    obtain ⟨rfl, g⟩ := popN_some h0
    obtain ⟨r1, h1, h2⟩ := bind_some g
    exact ⟨_, h2, Sf19.con k _ h1⟩) env0_ok))
theorem Sf20.con (k : Nat) {x0 : (List Int)} (r : Bool) (h : Sf20.f k x0 = some r) : Con Try.prog 74 2 Sf20.ti Sf20.to [⟨Z1, x0⟩] (Sf20.rs r) :=
  Sf20.con' (k + 1) _ r (by show Sf20.c k _ = some r; unfold Sf20.c; simp only [pop_self, popN]; exact h)
def alter_Check_3.f (k : Nat) (c0 : List (Int)) : Option (Bool) :=
 some (decide (4 < (↑c0.length : Int)))

noncomputable def alter_Check_3.body : Code := fnBody Try.f87
def alter_Check_3.ti : Tm := ⟨[(0, .p Z1)], []⟩
def alter_Check_3.to : Tm := ⟨[(0, .p .bool)], []⟩
def alter_Check_3.rs (r : Bool) : List Dat := [⟨.bool, r⟩]
def alter_Check_3.out (ds : List Dat) : Option (Bool) := pop .bool ds fun x0 ds => popN ds (some (x0))
def alter_Check_3.c (k : Nat) (ds : List Dat) : Option (Bool) := pop Z1 ds fun x0 ds => popN ds (alter_Check_3.f k x0)
def alter_Check_3.g : Nat → List Dat → Option (Bool)
 | 0, _ => none
 | k + 1, ds => alter_Check_3.c k ds
def alter_Check_3.env (k : Nat) : Nat → List SV → List Chunk → KT (Bool) → Option (Bool) := env0
def alter_Check_3.tbl : List (Nat × Tm × (Nat → List Dat → Option (Bool))) := []
noncomputable abbrev alter_Check_3.R (k : Nat) := run T (alter_Check_3.env k) Try.f87.ntmps (cutE 0 alter_Check_3.tbl k) (finE 0 alter_Check_3.to alter_Check_3.out) (fnRes Try.f87) [] 100000 true
theorem alter_Check_3.e (k : Nat) (x0 : (List Int)) : alter_Check_3.f k x0 = alter_Check_3.R k ([.code alter_Check_3.body]) (alter_Check_3.ti.fill [⟨Z1, x0⟩]) := by kernel_rfl
theorem alter_Check_3.h (k : Nat) (ds : List Dat) (r : Bool) (h : alter_Check_3.g k ds = some r) : ∃ k', k' < k ∧ alter_Check_3.R k' ([.code alter_Check_3.body]) (alter_Check_3.ti.fill ds) = some r := by
  cases k with
  | zero => cases (show none = some r from h)
  | succ k =>
  replace h : alter_Check_3.c k ds = some r := h
  unfold alter_Check_3.c at h
  obtain ⟨x0, d0, rfl, h0⟩ := pop_some h
  obtain ⟨rfl, g⟩ := popN_some h0
  exact ⟨k, Nat.lt_succ_self k, (alter_Check_3.e k ..).symm.trans g⟩
theorem alter_Check_3.o (ds : List Dat) (r : Bool) (h : alter_Check_3.out ds = some r) : ds = alter_Check_3.rs r := by
  unfold alter_Check_3.out at h
  obtain ⟨x0, d0, rfl, h0⟩ := pop_some h
  obtain ⟨rfl, g⟩ := popN_some h0
  cases g
  rfl
theorem alter_Check_3.fn : FnOk Try.prog 87 Try.f87 alter_Check_3.body Try.f87.ntmps 1 (fnRes Try.f87) :=
  fnOk_of (by kernel_rfl) (by kernel_rfl) (by kernel_rfl) (by kernel_rfl)
theorem alter_Check_3.con' : ∀ k ds r, alter_Check_3.g k ds = some r → Con Try.prog 87 1 alter_Check_3.ti alter_Check_3.to ds (alter_Check_3.rs r) :=
  fun_ok (T := T) T_ok mixed alter_Check_3.fn (env := alter_Check_3.env) (tbl := alter_Check_3.tbl) (gOut := alter_Check_3.out) (nin := 0) (cuts := []) (fuel := 100000) rfl (by kernel_rfl) (by kernel_rfl) (by kernel_rfl) (fun x hx => by simp [alter_Check_3.tbl] at hx) alter_Check_3.o alter_Check_3.h (fun k _ => by unfold alter_Check_3.env; exact env0_ok)
theorem alter_Check_3.con (k : Nat) {x0 : (List Int)} (r : Bool) (h : alter_Check_3.f k x0 = some r) : Con Try.prog 87 1 alter_Check_3.ti alter_Check_3.to [⟨Z1, x0⟩] (alter_Check_3.rs r) :=
  alter_Check_3.con' (k + 1) _ r (by show alter_Check_3.c k _ = some r; unfold alter_Check_3.c; simp only [pop_self, popN]; exact h)
mutual
def Sf21.l2 : Nat → List (List (Int)) → Int → Int → Option (Int)
 | 0, _, _, _ => none
 | k + 1, s0, x7, x8 =>
  if x8 < x7 then
   if 0 ≤ x8 then
   if x8 < (↑s0.length : Int) then
    (alter_Check_3.f k (rd [] s0 x8)).bind fun r_5 =>
      if r_5 = true then
       some (x8)
      else
       Sf21.l2 k s0 x7 (Go.IntKind.i64.wrap (x8 + 1))
    else none
   else none
  else
   some (-1)
end
def Sf21.f (k : Nat) (s0 : List (List (Int))) : Option (Int) :=
 Sf21.l2 k s0 ((↑s0.length : Int)) 0

noncomputable def Sf21.body : Code := fnBody Try.f145
def Sf21.ti : Tm := ⟨[(0, .p Z3), (1, .fn 87 [])], []⟩
def Sf21.to : Tm := ⟨[(0, .p Z0)], []⟩
def Sf21.rs (r : Int) : List Dat := [⟨Z0, r⟩]
def Sf21.out (ds : List Dat) : Option (Int) := pop Z0 ds fun x0 ds => popN ds (some (x0))
def Sf21.c (k : Nat) (ds : List Dat) : Option (Int) := pop Z3 ds fun x0 ds => popN ds (Sf21.f k x0)
def Sf21.g : Nat → List Dat → Option (Int)
 | 0, _ => none
 | k + 1, ds => Sf21.c k ds
def Sf21.env (k : Nat) : Nat → List SV → List Chunk → KT (Int) → Option (Int) := (envC 87 1 alter_Check_3.ti alter_Check_3.to (fun ds K => pop Z1 ds fun x0 ds => popN ds ((alter_Check_3.f k x0).bind fun r => K (alter_Check_3.rs r))) env0)
def Sf21.t5 : Tm := ⟨[(0, .p Z3), (1, .fn 87 []), (7, .p Z0), (8, .p Z0)], []⟩
def Sf21.c5 (k : Nat) (ds : List Dat) : Option (Int) := pop Z3 ds fun x0 ds => pop Z0 ds fun x1 ds => pop Z0 ds fun x2 ds => popN ds (Sf21.l2 k x0 x1 x2)
def Sf21.tbl : List (Nat × Tm × (Nat → List Dat → Option (Int))) := [(5, Sf21.t5, Sf21.c5)]
noncomputable abbrev Sf21.R (k : Nat) := run T (Sf21.env k) Try.f145.ntmps (cutE 0 Sf21.tbl k) (finE 0 Sf21.to Sf21.out) (fnRes Try.f145) [] 100000 true
theorem Sf21.e5 (k : Nat) (x0 : (List (List Int))) (x1 : Int) (x2 : Int) : Sf21.l2 (k + 1) x0 x1 x2 = Sf21.R k (start (stackOf 5 Sf21.body)) (Sf21.t5.fill [⟨Z3, x0⟩, ⟨Z0, x1⟩, ⟨Z0, x2⟩]) := by kernel_rfl
theorem Sf21.s5 : stackAt 5 Sf21.body [] = some (stackOf 5 Sf21.body) := by kernel_rfl
theorem Sf21.h5 (k : Nat) (ds : List Dat) (r : Int) (h : Sf21.c5 k ds = some r) : ∃ k', k' < k ∧ ∃ s, stackAt 5 Sf21.body [] = some s ∧ Sf21.R k' (start s) (Sf21.t5.fill ds) = some r := by
  unfold Sf21.c5 at h
  iterate 3 (obtain ⟨_, _, e, g⟩ := pop_some h; clear h; subst e; have h := g; clear g)
  obtain ⟨rfl, g⟩ := popN_some h
  cases k with
  | zero => cases (show none = some r from g)
  | succ k => exact ⟨k, Nat.lt_succ_self k, _, Sf21.s5, (Sf21.e5 k ..).symm.trans g⟩
theorem Sf21.e (k : Nat) (x0 : (List (List Int))) : Sf21.f k x0 = Sf21.R k ([.code Sf21.body]) (Sf21.ti.fill [⟨Z3, x0⟩]) := by kernel_rfl
theorem Sf21.h (k : Nat) (ds : List Dat) (r : Int) (h : Sf21.g k ds = some r) : ∃ k', k' < k ∧ Sf21.R k' ([.code Sf21.body]) (Sf21.ti.fill ds) = some r := by
  cases k with
  | zero => cases (show none = some r from h)
  | succ k =>
  replace h : Sf21.c k ds = some r := h
  unfold Sf21.c at h
  obtain ⟨x0, d0, rfl, h0⟩ := pop_some h
  obtain ⟨rfl, g⟩ := popN_some h0
  exact ⟨k, Nat.lt_succ_self k, (Sf21.e k ..).symm.trans g⟩
theorem Sf21.o (ds : List Dat) (r : Int) (h : Sf21.out ds = some r) : ds = Sf21.rs r := by
  unfold Sf21.out at h
  obtain ⟨x0, d0, rfl, h0⟩ := pop_some h
  obtain ⟨rfl, g⟩ := popN_some h0
  cases g
  rfl
theorem Sf21.fn : FnOk Try.prog 145 Try.f145 Sf21.body Try.f145.ntmps 2 (fnRes Try.f145) :=
  fnOk_of (by kernel_rfl) (by kernel_rfl) (by kernel_rfl) (by kernel_rfl)
theorem Sf21.con' : ∀ k ds r, Sf21.g k ds = some r → Con Try.prog 145 2 Sf21.ti Sf21.to ds (Sf21.rs r) :=
  fun_ok (T := T) T_ok mixed Sf21.fn (env := Sf21.env) (tbl := Sf21.tbl) (gOut := Sf21.out) (nin := 0) (cuts := []) (fuel := 100000) rfl (by kernel_rfl) (by kernel_rfl) (by kernel_rfl) (fun x hx => by
    simp only [Sf21.tbl, List.mem_cons, List.not_mem_nil, or_false] at hx
    subst hx
    · exact Sf21.h5
) Sf21.o Sf21.h (fun k _ => by unfold Sf21.env; exact (envC_ok (fun ds K r h => by
    obtain ⟨x0, d0, rfl, h0⟩ := pop_some h
    obtain ⟨rfl, g⟩ := popN_some h0
    obtain ⟨r1, h1, h2⟩ := bind_some g
    exact ⟨_, h2, alter_Check_3.con k _ h1⟩) env0_ok))
theorem Sf21.con (k : Nat) {x0 : (List (List Int))} (r : Int) (h : Sf21.f k x0 = some r) : Con Try.prog 145 2 Sf21.ti Sf21.to [⟨Z3, x0⟩] (Sf21.rs r) :=
  Sf21.con' (k + 1) _ r (by show Sf21.c k _ = some r; unfold Sf21.c; simp only [pop_self, popN]; exact h)
def Sf22.f (k : Nat) (s0 : List (List (Int))) : Option (Bool) :=
 (Sf21.f k s0).bind fun r_1 =>
  some (decide (0 ≤ r_1))

noncomputable def Sf22.body : Code := fnBody Try.f72
def Sf22.ti : Tm := ⟨[(0, .p Z3), (1, .fn 87 [])], []⟩
def Sf22.to : Tm := ⟨[(0, .p .bool)], []⟩
def Sf22.rs (r : Bool) : List Dat := [⟨.bool, r⟩]
def Sf22.out (ds : List Dat) : Option (Bool) := pop .bool ds fun x0 ds => popN ds (some (x0))
def Sf22.c (k : Nat) (ds : List Dat) : Option (Bool) := pop Z3 ds fun x0 ds => popN ds (Sf22.f k x0)
def Sf22.g : Nat → List Dat → Option (Bool)
 | 0, _ => none
 | k + 1, ds => Sf22.c k ds
def Sf22.env (k : Nat) : Nat → List SV → List Chunk → KT (Bool) → Option (Bool) := (envC 145 2 Sf21.ti Sf21.to (fun ds K => pop Z3 ds fun x0 ds => popN ds ((Sf21.f k x0).bind fun r => K (Sf21.rs r))) env0)
def Sf22.tbl : List (Nat × Tm × (Nat → List Dat → Option (Bool))) := []
noncomputable abbrev Sf22.R (k : Nat) := run T (Sf22.env k) Try.f72.ntmps (cutE 0 Sf22.tbl k) (finE 0 Sf22.to Sf22.out) (fnRes Try.f72) [] 100000 true
theorem Sf22.e (k : Nat) (x0 : (List (List Int))) : Sf22.f k x0 = Sf22.R k ([.code Sf22.body]) (Sf22.ti.fill [⟨Z3, x0⟩]) := by kernel_rfl
theorem Sf22.h (k : Nat) (ds : List Dat) (r : Bool) (h : Sf22.g k ds = some r) : ∃ k', k' < k ∧ Sf22.R k' ([.code Sf22.body]) (Sf22.ti.fill ds) = some r := by
  cases k with
  | zero => cases (show none = some r from h)
  | succ k =>
  replace h : Sf22.c k ds = some r := h
  unfold Sf22.c at h
  obtain ⟨x0, d0, rfl, h0⟩ := pop_some h
  obtain ⟨rfl, g⟩ := popN_some h0
  exact ⟨k, Nat.lt_succ_self k, (Sf22.e k ..).symm.trans g⟩
theorem Sf22.o (ds : List Dat) (r : Bool) (h : Sf22.out ds = some r) : ds = Sf22.rs r := by
  unfold Sf22.out at h
  obtain ⟨x0, d0, rfl, h0⟩ := pop_some h
  obtain ⟨rfl, g⟩ := popN_some h0
  cases g
  rfl
theorem Sf22.fn : FnOk Try.prog 72 Try.f72 Sf22.body Try.f72.ntmps 2 (fnRes Try.f72) :=
  fnOk_of (by kernel_rfl) (by kernel_rfl) (by kernel_rfl) (by kernel_rfl)
theorem Sf22.con' : ∀ k ds r, Sf22.g k ds = some r → Con Try.prog 72 2 Sf22.ti Sf22.to ds (Sf22.rs r) :=
  fun_ok (T := T) T_ok mixed Sf22.fn (env := Sf22.env) (tbl := Sf22.tbl) (gOut := Sf22.out) (nin := 0) (cuts := []) (fuel := 100000) rfl (by kernel_rfl) (by kernel_rfl) (by kernel_rfl) (fun x hx => by simp [Sf22.tbl] at hx) Sf22.o Sf22.h (fun k _ => by unfold Sf22.env; exact (envC_ok (fun ds K r h => by
    obtain ⟨x0, d0, rfl, h0⟩ := pop_some h
    obtain ⟨rfl, g⟩ := popN_some h0
    obtain ⟨r1, h1, h2⟩ := bind_some g
    exact ⟨_, h2, Sf21.con k _ h1⟩) env0_ok))
theorem Sf22.con (k : Nat) {x0 : (List (List Int))} (r : Bool) (h : Sf22.f k x0 = some r) : Con Try.prog 72 2 Sf22.ti Sf22.to [⟨Z3, x0⟩] (Sf22.rs r) :=
  Sf22.con' (k + 1) _ r (by show Sf22.c k _ = some r; unfold Sf22.c; simp only [pop_self, popN]; exact h)
mutual
def Sf23.l2 : Nat → List (Int) → Int → Int → Int → Option (Int × Int)
 | 0, _, _, _, _ => none
 | k + 1, s0, x7, x8, c_0_0 =>
  if x8 < x7 then
   if 0 ≤ x8 then
   if x8 < (↑s0.length : Int) then
    (alter_Check_2.f k (rd (Int.ofNat 0) s0 x8) c_0_0).bind fun r_5 =>
      if r_5.fst = true then
       some (x8, r_5.snd)
      else
       Sf23.l2 k s0 x7 (Go.IntKind.i64.wrap (x8 + 1)) r_5.snd
    else none
   else none
  else
   some (-1, c_0_0)
end
def Sf23.f (k : Nat) (s0 : List (Int)) (c_0_0 : Int) : Option (Int × Int) :=
 Sf23.l2 k s0 ((↑s0.length : Int)) 0 c_0_0

noncomputable def Sf23.body : Code := fnBody Try.f146
def Sf23.ti : Tm := ⟨[(0, .p Z1), (1, .fn 86 [.ptr 0 0])], [.box [.p Z0] 3]⟩
def Sf23.to : Tm := ⟨[(0, .p Z0)], [.box [.p Z0] 3]⟩
def Sf23.rs (r : Int × Int) : List Dat := [⟨Z0, r.1⟩, ⟨Z0, r.2⟩]
def Sf23.out (ds : List Dat) : Option (Int × Int) := pop Z0 ds fun x0 ds => pop Z0 ds fun x1 ds => popN ds (some (x0, x1))
def Sf23.c (k : Nat) (ds : List Dat) : Option (Int × Int) := pop Z1 ds fun x0 ds => pop Z0 ds fun x1 ds => popN ds (Sf23.f k x0 x1)
def Sf23.g : Nat → List Dat → Option (Int × Int)
 | 0, _ => none
 | k + 1, ds => Sf23.c k ds
def Sf23.env (k : Nat) : Nat → List SV → List Chunk → KT (Int × Int) → Option (Int × Int) := (envC 86 2 alter_Check_2.ti alter_Check_2.to (fun ds K => pop Z0 ds fun x0 ds => pop Z0 ds fun x1 ds => popN ds ((alter_Check_2.f k x0 x1).bind fun r => K (alter_Check_2.rs r))) env0)
def Sf23.t5 : Tm := ⟨[(0, .p Z1), (1, .fn 86 [.ptr 0 0]), (7, .p Z0), (8, .p Z0)], [.box [.p Z0] 3]⟩
def Sf23.c5 (k : Nat) (ds : List Dat) : Option (Int × Int) := pop Z1 ds fun x0 ds => pop Z0 ds fun x1 ds => pop Z0 ds fun x2 ds => pop Z0 ds fun x3 ds => popN ds (Sf23.l2 k x0 x1 x2 x3)
def Sf23.tbl : List (Nat × Tm × (Nat → List Dat → Option (Int × Int))) := [(5, Sf23.t5, Sf23.c5)]
noncomputable abbrev Sf23.R (k : Nat) := run T (Sf23.env k) Try.f146.ntmps (cutE 1 Sf23.tbl k) (finE 1 Sf23.to Sf23.out) (fnRes Try.f146) [] 100000 true
theorem Sf23.e5 (k : Nat) (x0 : (List Int)) (x1 : Int) (x2 : Int) (x3 : Int) : Sf23.l2 (k + 1) x0 x1 x2 x3 = Sf23.R k (start (stackOf 5 Sf23.body)) (Sf23.t5.fill [⟨Z1, x0⟩, ⟨Z0, x1⟩, ⟨Z0, x2⟩, ⟨Z0, x3⟩]) := by kernel_rfl
theorem Sf23.s5 : stackAt 5 Sf23.body [] = some (stackOf 5 Sf23.body) := by kernel_rfl
theorem Sf23.h5 (k : Nat) (ds : List Dat) (r : Int × Int) (h : Sf23.c5 k ds = some r) : ∃ k', k' < k ∧ ∃ s, stackAt 5 Sf23.body [] = some s ∧ Sf23.R k' (start s) (Sf23.t5.fill ds) = some r := by
  unfold Sf23.c5 at h
  iterate 4 (obtain ⟨_, _, e, g⟩ := pop_some h; clear h; subst e; have h := g; clear g)
  obtain ⟨rfl, g⟩ := popN_some h
  cases k with
  | zero => cases (show none = some r from g)
  | succ k => exact ⟨k, Nat.lt_succ_self k, _, Sf23.s5, (Sf23.e5 k ..).symm.trans g⟩
theorem Sf23.e (k : Nat) (x0 : (List Int)) (x1 : Int) : Sf23.f k x0 x1 = Sf23.R k ([.code Sf23.body]) (Sf23.ti.fill [⟨Z1, x0⟩, ⟨Z0, x1⟩]) := by kernel_rfl
theorem Sf23.h (k : Nat) (ds : List Dat) (r : Int × Int) (h : Sf23.g k ds = some r) : ∃ k', k' < k ∧ Sf23.R k' ([.code Sf23.body]) (Sf23.ti.fill ds) = some r := by
  cases k with
  | zero => cases (show none = some r from h)
  | succ k =>
  replace h : Sf23.c k ds = some r := h
  unfold Sf23.c at h
  iterate 2 (obtain ⟨_, _, e, g⟩ := pop_some h; clear h; subst e; have h := g; clear g)
  obtain ⟨rfl, g⟩ := popN_some h
  exact ⟨k, Nat.lt_succ_self k, (Sf23.e k ..).symm.trans g⟩
theorem Sf23.o (ds : List Dat) (r : Int × Int) (h : Sf23.out ds = some r) : ds = Sf23.rs r := by
  unfold Sf23.out at h
  iterate 2 (obtain ⟨_, _, e, g⟩ := pop_some h; clear h; subst e; have h := g; clear g)
  obtain ⟨rfl, g⟩ := popN_some h
  cases g
  rfl
theorem Sf23.fn : FnOk Try.prog 146 Try.f146 Sf23.body Try.f146.ntmps 2 (fnRes Try.f146) :=
  fnOk_of (by kernel_rfl) (by kernel_rfl) (by kernel_rfl) (by kernel_rfl)
theorem Sf23.con' : ∀ k ds r, Sf23.g k ds = some r → Con Try.prog 146 2 Sf23.ti Sf23.to ds (Sf23.rs r) :=
  fun_ok (T := T) T_ok mixed Sf23.fn (env := Sf23.env) (tbl := Sf23.tbl) (gOut := Sf23.out) (nin := 1) (cuts := []) (fuel := 100000) rfl (by kernel_rfl) (by kernel_rfl) (by kernel_rfl) (fun x hx => by
    simp only [Sf23.tbl, List.mem_cons, List.not_mem_nil, or_false] at hx
    subst hx
    · exact Sf23.h5
) Sf23.o Sf23.h (fun k _ => by unfold Sf23.env; exact (envC_ok (fun ds K r h => by
    iterate 2 (obtain ⟨_, _, e, g⟩ := pop_some h; clear h; subst e; have h := g; clear g)
    obtain ⟨rfl, g⟩ := popN_some h
    obtain ⟨r1, h1, h2⟩ := bind_some g
    exact ⟨_, h2, alter_Check_2.con k _ h1⟩) env0_ok))
theorem Sf23.con (k : Nat) {x0 : (List Int)} {x1 : Int} (r : Int × Int) (h : Sf23.f k x0 x1 = some r) : Con Try.prog 146 2 Sf23.ti Sf23.to [⟨Z1, x0⟩, ⟨Z0, x1⟩] (Sf23.rs r) :=
  Sf23.con' (k + 1) _ r (by show Sf23.c k _ = some r; unfold Sf23.c; simp only [pop_self, popN]; exact h)
def Sf24.f (k : Nat) (s0 : List (Int)) (c_0_0 : Int) : Option (Bool × Int) :=
 (Sf23.f k s0 c_0_0).bind fun r_1 =>
  some (decide (0 ≤ r_1.fst), r_1.snd)

noncomputable def Sf24.body : Code := fnBody Try.f74
def Sf24.ti : Tm := ⟨[(0, .p Z1), (1, .fn 86 [.ptr 0 0])], [.box [.p Z0] 3]⟩
def Sf24.to : Tm := ⟨[(0, .p .bool)], [.box [.p Z0] 3]⟩
def Sf24.rs (r : Bool × Int) : List Dat := [⟨.bool, r.1⟩, ⟨Z0, r.2⟩]
def Sf24.out (ds : List Dat) : Option (Bool × Int) := pop .bool ds fun x0 ds => pop Z0 ds fun x1 ds => popN ds (some (x0, x1))
def Sf24.c (k : Nat) (ds : List Dat) : Option (Bool × Int) := pop Z1 ds fun x0 ds => pop Z0 ds fun x1 ds => popN ds (Sf24.f k x0 x1)
def Sf24.g : Nat → List Dat → Option (Bool × Int)
 | 0, _ => none
 | k + 1, ds => Sf24.c k ds
def Sf24.env (k : Nat) : Nat → List SV → List Chunk → KT (Bool × Int) → Option (Bool × Int) := (envC 146 2 Sf23.ti Sf23.to (fun ds K => pop Z1 ds fun x0 ds => pop Z0 ds fun x1 ds => popN ds ((Sf23.f k x0 x1).bind fun r => K (Sf23.rs r))) env0)
def Sf24.tbl : List (Nat × Tm × (Nat → List Dat → Option (Bool × Int))) := []
noncomputable abbrev Sf24.R (k : Nat) := run T (Sf24.env k) Try.f74.ntmps (cutE 1 Sf24.tbl k) (finE 1 Sf24.to Sf24.out) (fnRes Try.f74) [] 100000 true
theorem Sf24.e (k : Nat) (x0 : (List Int)) (x1 : Int) : Sf24.f k x0 x1 = Sf24.R k ([.code Sf24.body]) (Sf24.ti.fill [⟨Z1, x0⟩, ⟨Z0, x1⟩]) := by kernel_rfl
theorem Sf24.h (k : Nat) (ds : List Dat) (r : Bool × Int) (h : Sf24.g k ds = some r) : ∃ k', k' < k ∧ Sf24.R k' ([.code Sf24.body]) (Sf24.ti.fill ds) = some r := by
  cases k with
  | zero => cases (show none = some r from h)
  | succ k =>
  replace h : Sf24.c k ds = some r := h
  unfold Sf24.c at h
  iterate 2 (obtain ⟨_, _, e, g⟩ := pop_some h; clear h; subst e; have h := g; clear g)
  obtain ⟨rfl, g⟩ := popN_some h
  exact ⟨k, Nat.lt_succ_self k, (Sf24.e k ..).symm.trans g⟩
theorem Sf24.o (ds : List Dat) (r : Bool × Int) (h : Sf24.out ds = some r) : ds = Sf24.rs r := by
  unfold Sf24.out at h
  iterate 2 (obtain ⟨_, _, e, g⟩ := pop_some h; clear h; subst e; have h := g; clear g)
  obtain ⟨rfl, g⟩ := popN_some h
  cases g
  rfl
theorem Sf24.fn : FnOk Try.prog 74 Try.f74 Sf24.body Try.f74.ntmps 2 (fnRes Try.f74) :=
  fnOk_of (by kernel_rfl) (by kernel_rfl) (by kernel_rfl) (by kernel_rfl)
theorem Sf24.con' : ∀ k ds r, Sf24.g k ds = some r → Con Try.prog 74 2 Sf24.ti Sf24.to ds (Sf24.rs r) :=
  fun_ok (T := T) T_ok mixed Sf24.fn (env := Sf24.env) (tbl := Sf24.tbl) (gOut := Sf24.out) (nin := 1) (cuts := []) (fuel := 100000) rfl (by kernel_rfl) (by kernel_rfl) (by kernel_rfl) (fun x hx => by simp [Sf24.tbl] at hx) Sf24.o Sf24.h (fun k _ => by unfold Sf24.env; exact (envC_ok (fun ds K r h => by
    iterate 2 (obtain ⟨_, _, e, g⟩ := pop_some h; clear h; subst e; have h := g; clear g)
    obtain ⟨rfl, g⟩ := popN_some h
    obtain ⟨r1, h1, h2⟩ := bind_some g
    exact ⟨_, h2, Sf23.con k _ h1⟩) env0_ok))
theorem Sf24.con (k : Nat) {x0 : (List Int)} {x1 : Int} (r : Bool × Int) (h : Sf24.f k x0 x1 = some r) : Con Try.prog 74 2 Sf24.ti Sf24.to [⟨Z1, x0⟩, ⟨Z0, x1⟩] (Sf24.rs r) :=
  Sf24.con' (k + 1) _ r (by show Sf24.c k _ = some r; unfold Sf24.c; simp only [pop_self, popN]; exact h)
def alter_Check_4.f (k : Nat) (c0 : List (Int)) (c_1_0 : Int) : Option (Bool × Int) :=
 (Sf24.f k c0 c_1_0).bind fun r_1 =>
  some (r_1.fst, r_1.snd)

noncomputable def alter_Check_4.body : Code := fnBody Try.f88
def alter_Check_4.ti : Tm := ⟨[(0, .p Z1), (1, .ptr 0 0)], [.box [.fn 86 [.ptr 1 0]] 113, .box [.p Z0] 3]⟩
def alter_Check_4.to : Tm := ⟨[(0, .p .bool)], [.box [.fn 86 [.ptr 1 0]] 113, .box [.p Z0] 3]⟩
def alter_Check_4.rs (r : Bool × Int) : List Dat := [⟨.bool, r.1⟩, ⟨Z0, r.2⟩]
def alter_Check_4.out (ds : List Dat) : Option (Bool × Int) := pop .bool ds fun x0 ds => pop Z0 ds fun x1 ds => popN ds (some (x0, x1))
def alter_Check_4.c (k : Nat) (ds : List Dat) : Option (Bool × Int) := pop Z1 ds fun x0 ds => pop Z0 ds fun x1 ds => popN ds (alter_Check_4.f k x0 x1)
def alter_Check_4.g : Nat → List Dat → Option (Bool × Int)
 | 0, _ => none
 | k + 1, ds => alter_Check_4.c k ds
def alter_Check_4.env (k : Nat) : Nat → List SV → List Chunk → KT (Bool × Int) → Option (Bool × Int) := (envC 74 2 Sf24.ti Sf24.to (fun ds K => pop Z1 ds fun x0 ds => pop Z0 ds fun x1 ds => popN ds ((Sf24.f k x0 x1).bind fun r => K (Sf24.rs r))) env0)
def alter_Check_4.tbl : List (Nat × Tm × (Nat → List Dat → Option (Bool × Int))) := []
noncomputable abbrev alter_Check_4.R (k : Nat) := run T (alter_Check_4.env k) Try.f88.ntmps (cutE 2 alter_Check_4.tbl k) (finE 2 alter_Check_4.to alter_Check_4.out) (fnRes Try.f88) [] 100000 true
theorem alter_Check_4.e (k : Nat) (x0 : (List Int)) (x1 : Int) : alter_Check_4.f k x0 x1 = alter_Check_4.R k ([.code alter_Check_4.body]) (alter_Check_4.ti.fill [⟨Z1, x0⟩, ⟨Z0, x1⟩]) := by kernel_rfl
theorem alter_Check_4.h (k : Nat) (ds : List Dat) (r : Bool × Int) (h : alter_Check_4.g k ds = some r) : ∃ k', k' < k ∧ alter_Check_4.R k' ([.code alter_Check_4.body]) (alter_Check_4.ti.fill ds) = some r := by
  cases k with
  | zero => cases (show none = some r from h)
  | succ k =>
  replace h : alter_Check_4.c k ds = some r := h
  unfold alter_Check_4.c at h
  iterate 2 (obtain ⟨_, _, e, g⟩ := pop_some h; clear h; subst e; have h := g; clear g)
  obtain ⟨rfl, g⟩ := popN_some h
  exact ⟨k, Nat.lt_succ_self k, (alter_Check_4.e k ..).symm.trans g⟩
theorem alter_Check_4.o (ds : List Dat) (r : Bool × Int) (h : alter_Check_4.out ds = some r) : ds = alter_Check_4.rs r := by
  unfold alter_Check_4.out at h
  iterate 2 (obtain ⟨_, _, e, g⟩ := pop_some h; clear h; subst e; have h := g; clear g)
  obtain ⟨rfl, g⟩ := popN_some h
  cases g
  rfl
theorem alter_Check_4.fn : FnOk Try.prog 88 Try.f88 alter_Check_4.body Try.f88.ntmps 2 (fnRes Try.f88) :=
  fnOk_of (by kernel_rfl) (by kernel_rfl) (by kernel_rfl) (by kernel_rfl)
theorem alter_Check_4.con' : ∀ k ds r, alter_Check_4.g k ds = some r → Con Try.prog 88 2 alter_Check_4.ti alter_Check_4.to ds (alter_Check_4.rs r) :=
  fun_ok (T := T) T_ok mixed alter_Check_4.fn (env := alter_Check_4.env) (tbl := alter_Check_4.tbl) (gOut := alter_Check_4.out) (nin := 2) (cuts := []) (fuel := 100000) rfl (by kernel_rfl) (by kernel_rfl) (by kernel_rfl) (fun x hx => by simp [alter_Check_4.tbl] at hx) alter_Check_4.o alter_Check_4.h (fun k _ => by unfold alter_Check_4.env; exact (envC_ok (fun ds K r h => by
    iterate 2 (obtain ⟨_, _, e, g⟩ := pop_some h; clear h; subst e; have h := g; clear g)
    obtain ⟨rfl, g⟩ := popN_some h
    obtain ⟨r1, h1, h2⟩ := bind_some g
    exact ⟨_, h2, Sf24.con k _ h1⟩) env0_ok))
theorem alter_Check_4.con (k : Nat) {x0 : (List Int)} {x1 : Int} (r : Bool × Int) (h : alter_Check_4.f k x0 x1 = some r) : Con Try.prog 88 2 alter_Check_4.ti alter_Check_4.to [⟨Z1, x0⟩, ⟨Z0, x1⟩] (alter_Check_4.rs r) :=
  alter_Check_4.con' (k + 1) _ r (by show alter_Check_4.c k _ = some r; unfold alter_Check_4.c; simp only [pop_self, popN]; exact h)
mutual
def Sf25.l2 : Nat → List (List (Int)) → Int → Int → Int → Option (Int × Int)
 | 0, _, _, _, _ => none
 | k + 1, s0, x7, x8, c_1_0 =>
  if x8 < x7 then
   if 0 ≤ x8 then
   if x8 < (↑s0.length : Int) then
    (alter_Check_4.f k (rd [] s0 x8) c_1_0).bind fun r_5 =>
      if r_5.fst = true then
       some (x8, r_5.snd)
      else
       Sf25.l2 k s0 x7 (Go.IntKind.i64.wrap (x8 + 1)) r_5.snd
    else none
   else none
  else
   some (-1, c_1_0)
end
def Sf25.f (k : Nat) (s0 : List (List (Int))) (c_1_0 : Int) : Option (Int × Int) :=
 Sf25.l2 k s0 ((↑s0.length : Int)) 0 c_1_0

noncomputable def Sf25.body : Code := fnBody Try.f145
def Sf25.ti : Tm := ⟨[(0, .p Z3), (1, .fn 88 [.ptr 0 0])], [.box [.fn 86 [.ptr 1 0]] 113, .box [.p Z0] 3]⟩
def Sf25.to : Tm := ⟨[(0, .p Z0)], [.box [.fn 86 [.ptr 1 0]] 113, .box [.p Z0] 3]⟩
def Sf25.rs (r : Int × Int) : List Dat := [⟨Z0, r.1⟩, ⟨Z0, r.2⟩]
def Sf25.out (ds : List Dat) : Option (Int × Int) := pop Z0 ds fun x0 ds => pop Z0 ds fun x1 ds => popN ds (some (x0, x1))
def Sf25.c (k : Nat) (ds : List Dat) : Option (Int × Int) := pop Z3 ds fun x0 ds => pop Z0 ds fun x1 ds => popN ds (Sf25.f k x0 x1)
def Sf25.g : Nat → List Dat → Option (Int × Int)
 | 0, _ => none
 | k + 1, ds => Sf25.c k ds
def Sf25.env (k : Nat) : Nat → List SV → List Chunk → KT (Int × Int) → Option (Int × Int) := (envC 88 2 alter_Check_4.ti alter_Check_4.to (fun ds K => pop Z1 ds fun x0 ds => pop Z0 ds fun x1 ds => popN ds ((alter_Check_4.f k x0 x1).bind fun r => K (alter_Check_4.rs r))) env0)
def Sf25.t5 : Tm := ⟨[(0, .p Z3), (1, .fn 88 [.ptr 0 0]), (7, .p Z0), (8, .p Z0)], [.box [.fn 86 [.ptr 1 0]] 113, .box [.p Z0] 3]⟩
def Sf25.c5 (k : Nat) (ds : List Dat) : Option (Int × Int) := pop Z3 ds fun x0 ds => pop Z0 ds fun x1 ds => pop Z0 ds fun x2 ds => pop Z0 ds fun x3 ds => popN ds (Sf25.l2 k x0 x1 x2 x3)
def Sf25.tbl : List (Nat × Tm × (Nat → List Dat → Option (Int × Int))) := [(5, Sf25.t5, Sf25.c5)]
noncomputable abbrev Sf25.R (k : Nat) := run T (Sf25.env k) Try.f145.ntmps (cutE 2 Sf25.tbl k) (finE 2 Sf25.to Sf25.out) (fnRes Try.f145) [] 100000 true
theorem Sf25.e5 (k : Nat) (x0 : (List (List Int))) (x1 : Int) (x2 : Int) (x3 : Int) : Sf25.l2 (k + 1) x0 x1 x2 x3 = Sf25.R k (start (stackOf 5 Sf25.body)) (Sf25.t5.fill [⟨Z3, x0⟩, ⟨Z0, x1⟩, ⟨Z0, x2⟩, ⟨Z0, x3⟩]) := by kernel_rfl
theorem Sf25.s5 : stackAt 5 Sf25.body [] = some (stackOf 5 Sf25.body) := by kernel_rfl
theorem Sf25.h5 (k : Nat) (ds : List Dat) (r : Int × Int) (h : Sf25.c5 k ds = some r) : ∃ k', k' < k ∧ ∃ s, stackAt 5 Sf25.body [] = some s ∧ Sf25.R k' (start s) (Sf25.t5.fill ds) = some r := by
  unfold Sf25.c5 at h
  iterate 4 (obtain ⟨_, _, e, g⟩ := pop_some h; clear h; subst e; have h := g; clear g)
  obtain ⟨rfl, g⟩ := popN_some h
  cases k with
  | zero => cases (show none = some r from g)
  | succ k => exact ⟨k, Nat.lt_succ_self k, _, Sf25.s5, (Sf25.e5 k ..).symm.trans g⟩
theorem Sf25.e (k : Nat) (x0 : (List (List Int))) (x1 : Int) : Sf25.f k x0 x1 = Sf25.R k ([.code Sf25.body]) (Sf25.ti.fill [⟨Z3, x0⟩, ⟨Z0, x1⟩]) := by kernel_rfl
theorem Sf25.h (k : Nat) (ds : List Dat) (r : Int × Int) (h : Sf25.g k ds = some r) : ∃ k', k' < k ∧ Sf25.R k' ([.code Sf25.body]) (Sf25.ti.fill ds) = some r := by
  cases k with
  | zero => cases (show none = some r from h)
  | succ k =>
  replace h : Sf25.c k ds = some r := h
  unfold Sf25.c at h
  iterate 2 (obtain ⟨_, _, e, g⟩ := pop_some h; clear h; subst e; have h := g; clear g)
  obtain ⟨rfl, g⟩ := popN_some h
  exact ⟨k, Nat.lt_succ_self k, (Sf25.e k ..).symm.trans g⟩
theorem Sf25.o (ds : List Dat) (r : Int × Int) (h : Sf25.out ds = some r) : ds = Sf25.rs r := by
  unfold Sf25.out at h
  iterate 2 (obtain ⟨_, _, e, g⟩ := pop_some h; clear h; subst e; have h := g; clear g)
  obtain ⟨rfl, g⟩ := popN_some h
  cases g
  rfl
theorem Sf25.fn : FnOk Try.prog 145 Try.f145 Sf25.body Try.f145.ntmps 2 (fnRes Try.f145) :=
  fnOk_of (by kernel_rfl) (by kernel_rfl) (by kernel_rfl) (by kernel_rfl)
theorem Sf25.con' : ∀ k ds r, Sf25.g k ds = some r → Con Try.prog 145 2 Sf25.ti Sf25.to ds (Sf25.rs r) :=
  fun_ok (T := T) T_ok mixed Sf25.fn (env := Sf25.env) (tbl := Sf25.tbl) (gOut := Sf25.out) (nin := 2) (cuts := []) (fuel := 100000) rfl (by kernel_rfl) (by kernel_rfl) (by kernel_rfl) (fun x hx => by
    simp only [Sf25.tbl, List.mem_cons, List.not_mem_nil, or_false] at hx
    subst hx
    · exact Sf25.h5
) Sf25.o Sf25.h (fun k _ => by unfold Sf25.env; exact (envC_ok (fun ds K r h => by
    iterate 2 (obtain ⟨_, _, e, g⟩ := pop_some h; clear h; subst e; have h := g; clear g)
    obtain ⟨rfl, g⟩ := popN_some h
    obtain ⟨r1, h1, h2⟩ := bind_some g
    exact ⟨_, h2, alter_Check_4.con k _ h1⟩) env0_ok))
theorem Sf25.con (k : Nat) {x0 : (List (List Int))} {x1 : Int} (r : Int × Int) (h : Sf25.f k x0 x1 = some r) : Con Try.prog 145 2 Sf25.ti Sf25.to [⟨Z3, x0⟩, ⟨Z0, x1⟩] (Sf25.rs r) :=
  Sf25.con' (k + 1) _ r (by show Sf25.c k _ = some r; unfold Sf25.c; simp only [pop_self, popN]; exact h)
def Sf26.f (k : Nat) (s0 : List (List (Int))) (c_1_0 : Int) : Option (Bool × Int) :=
 (Sf25.f k s0 c_1_0).bind fun r_1 =>
  some (decide (0 ≤ r_1.fst), r_1.snd)

noncomputable def Sf26.body : Code := fnBody Try.f72
def Sf26.ti : Tm := ⟨[(0, .p Z3), (1, .fn 88 [.ptr 0 0])], [.box [.fn 86 [.ptr 1 0]] 113, .box [.p Z0] 3]⟩
def Sf26.to : Tm := ⟨[(0, .p .bool)], [.box [.fn 86 [.ptr 1 0]] 113, .box [.p Z0] 3]⟩
def Sf26.rs (r : Bool × Int) : List Dat := [⟨.bool, r.1⟩, ⟨Z0, r.2⟩]
def Sf26.out (ds : List Dat) : Option (Bool × Int) := pop .bool ds fun x0 ds => pop Z0 ds fun x1 ds => popN ds (some (x0, x1))
def Sf26.c (k : Nat) (ds : List Dat) : Option (Bool × Int) := pop Z3 ds fun x0 ds => pop Z0 ds fun x1 ds => popN ds (Sf26.f k x0 x1)
def Sf26.g : Nat → List Dat → Option (Bool × Int)
 | 0, _ => none
 | k + 1, ds => Sf26.c k ds
def Sf26.env (k : Nat) : Nat → List SV → List Chunk → KT (Bool × Int) → Option (Bool × Int) := (envC 145 2 Sf25.ti Sf25.to (fun ds K => pop Z3 ds fun x0 ds => pop Z0 ds fun x1 ds => popN ds ((Sf25.f k x0 x1).bind fun r => K (Sf25.rs r))) env0)
def Sf26.tbl : List (Nat × Tm × (Nat → List Dat → Option (Bool × Int))) := []
noncomputable abbrev Sf26.R (k : Nat) := run T (Sf26.env k) Try.f72.ntmps (cutE 2 Sf26.tbl k) (finE 2 Sf26.to Sf26.out) (fnRes Try.f72) [] 100000 true
theorem Sf26.e (k : Nat) (x0 : (List (List Int))) (x1 : Int) : Sf26.f k x0 x1 = Sf26.R k ([.code Sf26.body]) (Sf26.ti.fill [⟨Z3, x0⟩, ⟨Z0, x1⟩]) := by kernel_rfl
theorem Sf26.h (k : Nat) (ds : List Dat) (r : Bool × Int) (h : Sf26.g k ds = some r) : ∃ k', k' < k ∧ Sf26.R k' ([.code Sf26.body]) (Sf26.ti.fill ds) = some r := by
  cases k with
  | zero => cases (show none = some r from h)
  | succ k =>
  replace h : Sf26.c k ds = some r := h
  unfold Sf26.c at h
  iterate 2 (obtain ⟨_, _, e, g⟩ := pop_some h; clear h; subst e; have h := g; clear g)
  obtain ⟨rfl, g⟩ := popN_some h
  exact ⟨k, Nat.lt_succ_self k, (Sf26.e k ..).symm.trans g⟩
theorem Sf26.o (ds : List Dat) (r : Bool × Int) (h : Sf26.out ds = some r) : ds = Sf26.rs r := by
  unfold Sf26.out at h
  iterate 2 (obtain ⟨_, _, e, g⟩ := pop_some h; clear h; subst e; have h := g; clear g)
  obtain ⟨rfl, g⟩ := popN_some h
  cases g
  rfl
theorem Sf26.fn : FnOk Try.prog 72 Try.f72 Sf26.body Try.f72.ntmps 2 (fnRes Try.f72) :=
  fnOk_of (by kernel_rfl) (by kernel_rfl) (by kernel_rfl) (by kernel_rfl)
theorem Sf26.con' : ∀ k ds r, Sf26.g k ds = some r → Con Try.prog 72 2 Sf26.ti Sf26.to ds (Sf26.rs r) :=
  fun_ok (T := T) T_ok mixed Sf26.fn (env := Sf26.env) (tbl := Sf26.tbl) (gOut := Sf26.out) (nin := 2) (cuts := []) (fuel := 100000) rfl (by kernel_rfl) (by kernel_rfl) (by kernel_rfl) (fun x hx => by simp [Sf26.tbl] at hx) Sf26.o Sf26.h (fun k _ => by unfold Sf26.env; exact (envC_ok (fun ds K r h => by
    iterate 2 (obtain ⟨_, _, e, g⟩ := pop_some h; clear h; subst e; have h := g; clear g)
    obtain ⟨rfl, g⟩ := popN_some h
    obtain ⟨r1, h1, h2⟩ := bind_some g
    exact ⟨_, h2, Sf25.con k _ h1⟩) env0_ok))
theorem Sf26.con (k : Nat) {x0 : (List (List Int))} {x1 : Int} (r : Bool × Int) (h : Sf26.f k x0 x1 = some r) : Con Try.prog 72 2 Sf26.ti Sf26.to [⟨Z3, x0⟩, ⟨Z0, x1⟩] (Sf26.rs r) :=
  Sf26.con' (k + 1) _ r (by show Sf26.c k _ = some r; unfold Sf26.c; simp only [pop_self, popN]; exact h)
mutual
def alter_Check.l11 : Nat → Bool → List (List (List (List (Int)))) → Int → Int → Int → Int → List (List (List (List (Int)))) → List (Int) → Int → Option (Int)
 | 0, _, _, _, _, _, _, _, _, _ => none
 | k + 1, bad4, x40, x41, x42, a1_0, a1_1, a1_2, a1_3, c_2_0 =>
  if x42 < x41 then
   if 0 ≤ x42 then
   if x42 < (↑x40.length : Int) then
    alter_Check.l14 k bad4 x40 x41 x42 (rd [] x40 x42) ((↑(rd [] x40 x42).length : Int)) 0 a1_0 a1_1 a1_2 a1_3 c_2_0
    else none
   else none
  else
   if bad4 = true then
    some (2)
   else
    (alter_Check_2.f k a1_1 c_2_0).bind fun r_4 =>
     if r_4.fst = true then
      some (2)
     else
      (Sf20.f k a1_3).bind fun r_6 =>
       if r_6 = true then
        some (2)
       else
        some (0)
def alter_Check.l14 : Nat → Bool → List (List (List (List (Int)))) → Int → Int → List (List (List (Int))) → Int → Int → Int → Int → List (List (List (List (Int)))) → List (Int) → Int → Option (Int)
 | 0, _, _, _, _, _, _, _, _, _, _, _, _ => none
 | k + 1, bad4, x40, x41, x42, x46, x47, x48, a1_0, a1_1, a1_2, a1_3, c_2_0 =>
  if x48 < x47 then
   if 0 ≤ x48 then
   if x48 < (↑x46.length : Int) then
    if 16 < (↑(rd [] x46 x48).length : Int) then
      some (1)
     else
      (Sf22.f k (rd [] x46 x48)).bind fun r_6 =>
       if r_6 = true then
        some (1)
       else
        if bad4 = true then
         alter_Check.l14 k true x40 x41 x42 x46 x47 (Go.IntKind.i64.wrap (x48 + 1)) a1_0 a1_1 a1_2 a1_3 c_2_0
        else
         (Sf26.f k (rd [] x46 x48) c_2_0).bind fun r_9 =>
          alter_Check.l14 k r_9.fst x40 x41 x42 x46 x47 (Go.IntKind.i64.wrap (x48 + 1)) a1_0 a1_1 a1_2 a1_3 r_9.snd
    else none
   else none
  else
   alter_Check.l11 k bad4 x40 x41 (Go.IntKind.i64.wrap (x42 + 1)) a1_0 a1_1 a1_2 a1_3 c_2_0
end
def alter_Check.f (k : Nat) (a0 : (Int × (Int × (List (List (List (List (Int)))) × (List (Int) × Unit))))) : Option (Int) :=
 if a0.fst < 1 then
  some (2)
 else
  if 4 < a0.fst then
   some (2)
  else
   if (↑a0.snd.snd.fst.length : Int) < 1 then
    some (1)
   else
    if 4 < (↑a0.snd.snd.fst.length : Int) then
     some (1)
    else
     if (↑a0.snd.snd.snd.fst.length : Int) = (↑a0.snd.snd.fst.length : Int) then
      (Sf18.f k a0.snd.snd.fst a0.fst a0.snd.fst a0.snd.snd.fst a0.snd.snd.snd.fst).bind fun r_6 =>
       if r_6.fst = true then
        some (3)
       else
        alter_Check.l11 k false r_6.snd.snd.snd.fst ((↑r_6.snd.snd.snd.fst.length : Int)) 0 r_6.snd.fst r_6.snd.snd.fst r_6.snd.snd.snd.fst r_6.snd.snd.snd.snd ((↑a0.snd.snd.fst.length : Int))
     else
      some (3)

noncomputable def alter_Check.body : Code := fnBody Try.f27
def alter_Check.ti : Tm := ⟨[(0, .p Z7)], []⟩
def alter_Check.to : Tm := ⟨[(0, .p Z0)], []⟩
def alter_Check.rs (r : Int) : List Dat := [⟨Z0, r⟩]
def alter_Check.out (ds : List Dat) : Option (Int) := pop Z0 ds fun x0 ds => popN ds (some (x0))
def alter_Check.c (k : Nat) (ds : List Dat) : Option (Int) := pop Z7 ds fun x0 ds => popN ds (alter_Check.f k x0)
def alter_Check.g : Nat → List Dat → Option (Int)
 | 0, _ => none
 | k + 1, ds => alter_Check.c k ds
def alter_Check.env (k : Nat) : Nat → List SV → List Chunk → KT (Int) → Option (Int) := (envC 86 2 alter_Check_2.ti alter_Check_2.to (fun ds K => pop Z0 ds fun x0 ds => pop Z0 ds fun x1 ds => popN ds ((alter_Check_2.f k x0 x1).bind fun r => K (alter_Check_2.rs r))) (envC 74 2 Sf20.ti Sf20.to (fun ds K => pop Z1 ds fun x0 ds => popN ds ((Sf20.f k x0).bind fun r => K (Sf20.rs r))) (envC 72 2 Sf22.ti Sf22.to (fun ds K => pop Z3 ds fun x0 ds => popN ds ((Sf22.f k x0).bind fun r => K (Sf22.rs r))) (envC 72 2 Sf26.ti Sf26.to (fun ds K => pop Z3 ds fun x0 ds => pop Z0 ds fun x1 ds => popN ds ((Sf26.f k x0 x1).bind fun r => K (Sf26.rs r))) (envC 84 2 Sf18.ti Sf18.to (fun ds K => pop Z5 ds fun x0 ds => pop Z0 ds fun x1 ds => pop Z0 ds fun x2 ds => pop Z5 ds fun x3 ds => pop Z1 ds fun x4 ds => popN ds ((Sf18.f k x0 x1 x2 x3 x4).bind fun r => K (Sf18.rs r))) env0)))))
def alter_Check.t23 : Tm := ⟨[(1, .ptr 0 0), (4, .p .bool), (5, .ptr 1 0), (40, .p Z5), (41, .p Z0), (42, .p Z0)], [.box [.p Z0, .p Z0, .p Z5, .p Z1] 25, .box [.fn 86 [.ptr 2 0]] 113, .box [.p Z0] 3]⟩
def alter_Check.c23 (k : Nat) (ds : List Dat) : Option (Int) := pop .bool ds fun x0 ds => pop Z5 ds fun x1 ds => pop Z0 ds fun x2 ds => pop Z0 ds fun x3 ds => pop Z0 ds fun x4 ds => pop Z0 ds fun x5 ds => pop Z5 ds fun x6 ds => pop Z1 ds fun x7 ds => pop Z0 ds fun x8 ds => popN ds (alter_Check.l11 k x0 x1 x2 x3 x4 x5 x6 x7 x8)
def alter_Check.t29 : Tm := ⟨[(1, .ptr 0 0), (4, .p .bool), (5, .ptr 1 0), (40, .p Z5), (41, .p Z0), (42, .p Z0), (46, .p (.slice Z3)), (47, .p Z0), (48, .p Z0)], [.box [.p Z0, .p Z0, .p Z5, .p Z1] 25, .box [.fn 86 [.ptr 2 0]] 113, .box [.p Z0] 3]⟩
def alter_Check.c29 (k : Nat) (ds : List Dat) : Option (Int) := pop .bool ds fun x0 ds => pop Z5 ds fun x1 ds => pop Z0 ds fun x2 ds => pop Z0 ds fun x3 ds => pop (.slice Z3) ds fun x4 ds => pop Z0 ds fun x5 ds => pop Z0 ds fun x6 ds => pop Z0 ds fun x7 ds => pop Z0 ds fun x8 ds => pop Z5 ds fun x9 ds => pop Z1 ds fun x10 ds => pop Z0 ds fun x11 ds => popN ds (alter_Check.l14 k x0 x1 x2 x3 x4 x5 x6 x7 x8 x9 x10 x11)
def alter_Check.tbl : List (Nat × Tm × (Nat → List Dat → Option (Int))) := [(23, alter_Check.t23, alter_Check.c23), (29, alter_Check.t29, alter_Check.c29)]
noncomputable abbrev alter_Check.R (k : Nat) := run T (alter_Check.env k) Try.f27.ntmps (cutE 0 alter_Check.tbl k) (finE 0 alter_Check.to alter_Check.out) (fnRes Try.f27) [] 100000 true
theorem alter_Check.e23 (k : Nat) (x0 : Bool) (x1 : (List (List (List (List Int))))) (x2 : Int) (x3 : Int) (x4 : Int) (x5 : Int) (x6 : (List (List (List (List Int))))) (x7 : (List Int)) (x8 : Int) : alter_Check.l11 (k + 1) x0 x1 x2 x3 x4 x5 x6 x7 x8 = alter_Check.R k (start (stackOf 23 alter_Check.body)) (alter_Check.t23.fill [⟨.bool, x0⟩, ⟨Z5, x1⟩, ⟨Z0, x2⟩, ⟨Z0, x3⟩, ⟨Z0, x4⟩, ⟨Z0, x5⟩, ⟨Z5, x6⟩, ⟨Z1, x7⟩, ⟨Z0, x8⟩]) := by kernel_rfl
theorem alter_Check.s23 : stackAt 23 alter_Check.body [] = some (stackOf 23 alter_Check.body) := by kernel_rfl
theorem alter_Check.h23 (k : Nat) (ds : List Dat) (r : Int) (h : alter_Check.c23 k ds = some r) : ∃ k', k' < k ∧ ∃ s, stackAt 23 alter_Check.body [] = some s ∧ alter_Check.R k' (start s) (alter_Check.t23.fill ds) = some r := by
  unfold alter_Check.c23 at h
  iterate 9 (obtain ⟨_, _, e, g⟩ := pop_some h; clear h; subst e; have h := g; clear g)
  obtain ⟨rfl, g⟩ := popN_some h
  cases k with
  | zero => cases (show none = some r from g)
  | succ k => exact ⟨k, Nat.lt_succ_self k, _, alter_Check.s23, (alter_Check.e23 k ..).symm.trans g⟩
theorem alter_Check.e29 (k : Nat) (x0 : Bool) (x1 : (List (List (List (List Int))))) (x2 : Int) (x3 : Int) (x4 : (List (List (List Int)))) (x5 : Int) (x6 : Int) (x7 : Int) (x8 : Int) (x9 : (List (List (List (List Int))))) (x10 : (List Int)) (x11 : Int) : alter_Check.l14 (k + 1) x0 x1 x2 x3 x4 x5 x6 x7 x8 x9 x10 x11 = alter_Check.R k (start (stackOf 29 alter_Check.body)) (alter_Check.t29.fill [⟨.bool, x0⟩, ⟨Z5, x1⟩, ⟨Z0, x2⟩, ⟨Z0, x3⟩, ⟨(.slice Z3), x4⟩, ⟨Z0, x5⟩, ⟨Z0, x6⟩, ⟨Z0, x7⟩, ⟨Z0, x8⟩, ⟨Z5, x9⟩, ⟨Z1, x10⟩, ⟨Z0, x11⟩]) := by kernel_rfl
theorem alter_Check.s29 : stackAt 29 alter_Check.body [] = some (stackOf 29 alter_Check.body) := by kernel_rfl
theorem alter_Check.h29 (k : Nat) (ds : List Dat) (r : Int) (h : alter_Check.c29 k ds = some r) : ∃ k', k' < k ∧ ∃ s, stackAt 29 alter_Check.body [] = some s ∧ alter_Check.R k' (start s) (alter_Check.t29.fill ds) = some r := by
  unfold alter_Check.c29 at h
  iterate 12 (obtain ⟨_, _, e, g⟩ := pop_some h; clear h; subst e; have h := g; clear g)
  obtain ⟨rfl, g⟩ := popN_some h
  cases k with
  | zero => cases (show none = some r from g)
  | succ k => exact ⟨k, Nat.lt_succ_self k, _, alter_Check.s29, (alter_Check.e29 k ..).symm.trans g⟩
theorem alter_Check.e (k : Nat) (x0 : (Int × (Int × ((List (List (List (List Int)))) × ((List Int) × Unit))))) : alter_Check.f k x0 = alter_Check.R k ([.code alter_Check.body]) (alter_Check.ti.fill [⟨Z7, x0⟩]) := by kernel_rfl
theorem alter_Check.h (k : Nat) (ds : List Dat) (r : Int) (h : alter_Check.g k ds = some r) : ∃ k', k' < k ∧ alter_Check.R k' ([.code alter_Check.body]) (alter_Check.ti.fill ds) = some r := by
  cases k with
  | zero => cases (show none = some r from h)
  | succ k =>
  replace h : alter_Check.c k ds = some r := h
  unfold alter_Check.c at h
  obtain ⟨x0, d0, rfl, h0⟩ := pop_some h
  obtain ⟨rfl, g⟩ := popN_some h0
  exact ⟨k, Nat.lt_succ_self k, (alter_Check.e k ..).symm.trans g⟩
theorem alter_Check.o (ds : List Dat) (r : Int) (h : alter_Check.out ds = some r) : ds = alter_Check.rs r := by
  unfold alter_Check.out at h
  obtain ⟨x0, d0, rfl, h0⟩ := pop_some h
  obtain ⟨rfl, g⟩ := popN_some h0
  cases g
  rfl
theorem alter_Check.fn : FnOk Try.prog 27 Try.f27 alter_Check.body Try.f27.ntmps 1 (fnRes Try.f27) :=
  fnOk_of (by kernel_rfl) (by kernel_rfl) (by kernel_rfl) (by kernel_rfl)
theorem alter_Check.con' : ∀ k ds r, alter_Check.g k ds = some r → Con Try.prog 27 1 alter_Check.ti alter_Check.to ds (alter_Check.rs r) :=
  fun_ok (T := T) T_ok mixed alter_Check.fn (env := alter_Check.env) (tbl := alter_Check.tbl) (gOut := alter_Check.out) (nin := 0) (cuts := []) (fuel := 100000) rfl (by kernel_rfl) (by kernel_rfl) (by kernel_rfl) (fun x hx => by
    simp only [alter_Check.tbl, List.mem_cons, List.not_mem_nil, or_false] at hx
    rcases hx with rfl | rfl
    · exact alter_Check.h23
    · exact alter_Check.h29
) alter_Check.o alter_Check.h (fun k _ => by unfold alter_Check.env; exact (envC_ok (fun ds K r h => by
    iterate 2 (obtain ⟨_, _, e, g⟩ := pop_some h; clear h; subst e; have h := g; clear g)
    obtain ⟨rfl, g⟩ := popN_some h
    obtain ⟨r1, h1, h2⟩ := bind_some g
    exact ⟨_, h2, alter_Check_2.con k _ h1⟩) (envC_ok (fun ds K r h => by
    obtain ⟨x0, d0, rfl, h0⟩ := pop_some h
    obtain ⟨rfl, g⟩ := popN_some h0
    obtain ⟨r1, h1, h2⟩ := bind_some g
    exact ⟨_, h2, Sf20.con k _ h1⟩) (envC_ok (fun ds K r h => by
    obtain ⟨x0, d0, rfl, h0⟩ := pop_some h
    obtain ⟨rfl, g⟩ := popN_some h0
    obtain ⟨r1, h1, h2⟩ := bind_some g
    exact ⟨_, h2, Sf22.con k _ h1⟩) (envC_ok (fun ds K r h => by
    iterate 2 (obtain ⟨_, _, e, g⟩ := pop_some h; clear h; subst e; have h := g; clear g)
    obtain ⟨rfl, g⟩ := popN_some h
    obtain ⟨r1, h1, h2⟩ := bind_some g
    exact ⟨_, h2, Sf26.con k _ h1⟩) (envC_ok (fun ds K r h => by
    iterate 5 (obtain ⟨_, _, e, g⟩ := pop_some h; clear h; subst e; have h := g; clear g)
    obtain ⟨rfl, g⟩ := popN_some h
    obtain ⟨r1, h1, h2⟩ := bind_some g
    exact ⟨_, h2, Sf18.con k _ h1⟩) env0_ok))))))
theorem alter_Check.con (k : Nat) {x0 : (Int × (Int × ((List (List (List (List Int)))) × ((List Int) × Unit))))} (r : Int) (h : alter_Check.f k x0 = some r) : Con Try.prog 27 1 alter_Check.ti alter_Check.to [⟨Z7, x0⟩] (alter_Check.rs r) :=
  alter_Check.con' (k + 1) _ r (by show alter_Check.c k _ = some r; unfold alter_Check.c; simp only [pop_self, popN]; exact h)
mutual
def alter_ends.l3 : Nat → Int → List (Int) → Int → Int → Option (Int)
 | 0, _, _, _, _ => none
 | k + 1, set3, x7, x8, x9 =>
  if x9 < x8 then
   if 0 ≤ x9 then
   if x9 < (↑x7.length : Int) then
    if 0 ≤ x9 then
     alter_ends.l3 k (Go.IntKind.i64.wrap (↑(BitVec.ofInt Go.IntKind.i64.bits set3 ||| BitVec.ofInt Go.IntKind.i64.bits (Go.IntKind.i64.wrap (rd (Int.ofNat 0) x7 x9 * 2 ^ min x9.toNat Go.IntKind.i64.bits))).toNat : Int)) x7 x8 (Go.IntKind.i64.wrap (x9 + 1))
     else none
    else none
   else none
  else
   some (set3)
end
def alter_ends.f (k : Nat) (a0 : (Int × (Int × (List (List (List (List (Int)))) × (List (Int) × Unit))))) : Option (Int) :=
 alter_ends.l3 k 0 a0.snd.snd.snd.fst ((↑a0.snd.snd.snd.fst.length : Int)) 0

noncomputable def alter_ends.body : Code := fnBody Try.f91
def alter_ends.ti : Tm := ⟨[(0, .p Z7)], []⟩
def alter_ends.to : Tm := ⟨[(0, .p Z0)], []⟩
def alter_ends.rs (r : Int) : List Dat := [⟨Z0, r⟩]
def alter_ends.out (ds : List Dat) : Option (Int) := pop Z0 ds fun x0 ds => popN ds (some (x0))
def alter_ends.c (k : Nat) (ds : List Dat) : Option (Int) := pop Z7 ds fun x0 ds => popN ds (alter_ends.f k x0)
def alter_ends.g : Nat → List Dat → Option (Int)
 | 0, _ => none
 | k + 1, ds => alter_ends.c k ds
def alter_ends.env (k : Nat) : Nat → List SV → List Chunk → KT (Int) → Option (Int) := env0
def alter_ends.t7 : Tm := ⟨[(3, .p Z0), (7, .p Z1), (8, .p Z0), (9, .p Z0)], []⟩
def alter_ends.c7 (k : Nat) (ds : List Dat) : Option (Int) := pop Z0 ds fun x0 ds => pop Z1 ds fun x1 ds => pop Z0 ds fun x2 ds => pop Z0 ds fun x3 ds => popN ds (alter_ends.l3 k x0 x1 x2 x3)
def alter_ends.tbl : List (Nat × Tm × (Nat → List Dat → Option (Int))) := [(7, alter_ends.t7, alter_ends.c7)]
noncomputable abbrev alter_ends.R (k : Nat) := run T (alter_ends.env k) Try.f91.ntmps (cutE 0 alter_ends.tbl k) (finE 0 alter_ends.to alter_ends.out) (fnRes Try.f91) [] 100000 true
theorem alter_ends.e7 (k : Nat) (x0 : Int) (x1 : (List Int)) (x2 : Int) (x3 : Int) : alter_ends.l3 (k + 1) x0 x1 x2 x3 = alter_ends.R k (start (stackOf 7 alter_ends.body)) (alter_ends.t7.fill [⟨Z0, x0⟩, ⟨Z1, x1⟩, ⟨Z0, x2⟩, ⟨Z0, x3⟩]) := by kernel_rfl
theorem alter_ends.s7 : stackAt 7 alter_ends.body [] = some (stackOf 7 alter_ends.body) := by kernel_rfl
theorem alter_ends.h7 (k : Nat) (ds : List Dat) (r : Int) (h : alter_ends.c7 k ds = some r) : ∃ k', k' < k ∧ ∃ s, stackAt 7 alter_ends.body [] = some s ∧ alter_ends.R k' (start s) (alter_ends.t7.fill ds) = some r := by
  unfold alter_ends.c7 at h
  iterate 4 (obtain ⟨_, _, e, g⟩ := pop_some h; clear h; subst e; have h := g; clear g)
  obtain ⟨rfl, g⟩ := popN_some h
  cases k with
  | zero => cases (show none = some r from g)
  | succ k => exact ⟨k, Nat.lt_succ_self k, _, alter_ends.s7, (alter_ends.e7 k ..).symm.trans g⟩
theorem alter_ends.e (k : Nat) (x0 : (Int × (Int × ((List (List (List (List Int)))) × ((List Int) × Unit))))) : alter_ends.f k x0 = alter_ends.R k ([.code alter_ends.body]) (alter_ends.ti.fill [⟨Z7, x0⟩]) := by kernel_rfl
theorem alter_ends.h (k : Nat) (ds : List Dat) (r : Int) (h : alter_ends.g k ds = some r) : ∃ k', k' < k ∧ alter_ends.R k' ([.code alter_ends.body]) (alter_ends.ti.fill ds) = some r := by
  cases k with
  | zero => cases (show none = some r from h)
  | succ k =>
  replace h : alter_ends.c k ds = some r := h
  unfold alter_ends.c at h
  obtain ⟨x0, d0, rfl, h0⟩ := pop_some h
  obtain ⟨rfl, g⟩ := popN_some h0
  exact ⟨k, Nat.lt_succ_self k, (alter_ends.e k ..).symm.trans g⟩
theorem alter_ends.o (ds : List Dat) (r : Int) (h : alter_ends.out ds = some r) : ds = alter_ends.rs r := by
  unfold alter_ends.out at h
  obtain ⟨x0, d0, rfl, h0⟩ := pop_some h
  obtain ⟨rfl, g⟩ := popN_some h0
  cases g
  rfl
theorem alter_ends.fn : FnOk Try.prog 91 Try.f91 alter_ends.body Try.f91.ntmps 1 (fnRes Try.f91) :=
  fnOk_of (by kernel_rfl) (by kernel_rfl) (by kernel_rfl) (by kernel_rfl)
theorem alter_ends.con' : ∀ k ds r, alter_ends.g k ds = some r → Con Try.prog 91 1 alter_ends.ti alter_ends.to ds (alter_ends.rs r) :=
  fun_ok (T := T) T_ok mixed alter_ends.fn (env := alter_ends.env) (tbl := alter_ends.tbl) (gOut := alter_ends.out) (nin := 0) (cuts := []) (fuel := 100000) rfl (by kernel_rfl) (by kernel_rfl) (by kernel_rfl) (fun x hx => by
    simp only [alter_ends.tbl, List.mem_cons, List.not_mem_nil, or_false] at hx
    subst hx
    · exact alter_ends.h7
) alter_ends.o alter_ends.h (fun k _ => by unfold alter_ends.env; exact env0_ok)
theorem alter_ends.con (k : Nat) {x0 : (Int × (Int × ((List (List (List (List Int)))) × ((List Int) × Unit))))} (r : Int) (h : alter_ends.f k x0 = some r) : Con Try.prog 91 1 alter_ends.ti alter_ends.to [⟨Z7, x0⟩] (alter_ends.rs r) :=
  alter_ends.con' (k + 1) _ r (by show alter_ends.c k _ = some r; unfold alter_ends.c; simp only [pop_self, popN]; exact h)
def alter_ahead_1_1.f (k : Nat) (p0 : Int) (x1_0 : Int) : Option (Bool × Int) :=
 if 0 ≤ p0 then
 some (decide (Go.IntKind.i64.wrap (↑(BitVec.ofInt Go.IntKind.i64.bits (x1_0.fdiv (2 ^ min p0.toNat Go.IntKind.i64.bits)) &&& BitVec.ofInt Go.IntKind.i64.bits 1).toNat : Int) = 0), x1_0)
 else none

noncomputable def alter_ahead_1_1.body : Code := fnBody Try.f152
def alter_ahead_1_1.ti : Tm := ⟨[(0, .p Z0), (1, .ptr 0 0)], [.box [.p Z0] 3]⟩
def alter_ahead_1_1.to : Tm := ⟨[(0, .p .bool)], [.box [.p Z0] 3]⟩
def alter_ahead_1_1.rs (r : Bool × Int) : List Dat := [⟨.bool, r.1⟩, ⟨Z0, r.2⟩]
def alter_ahead_1_1.out (ds : List Dat) : Option (Bool × Int) := pop .bool ds fun x0 ds => pop Z0 ds fun x1 ds => popN ds (some (x0, x1))
def alter_ahead_1_1.c (k : Nat) (ds : List Dat) : Option (Bool × Int) := pop Z0 ds fun x0 ds => pop Z0 ds fun x1 ds => popN ds (alter_ahead_1_1.f k x0 x1)
def alter_ahead_1_1.g : Nat → List Dat → Option (Bool × Int)
 | 0, _ => none
 | k + 1, ds => alter_ahead_1_1.c k ds
def alter_ahead_1_1.env (k : Nat) : Nat → List SV → List Chunk → KT (Bool × Int) → Option (Bool × Int) := env0
def alter_ahead_1_1.tbl : List (Nat × Tm × (Nat → List Dat → Option (Bool × Int))) := []
noncomputable abbrev alter_ahead_1_1.R (k : Nat) := run T (alter_ahead_1_1.env k) Try.f152.ntmps (cutE 1 alter_ahead_1_1.tbl k) (finE 1 alter_ahead_1_1.to alter_ahead_1_1.out) (fnRes Try.f152) [] 100000 true
theorem alter_ahead_1_1.e (k : Nat) (x0 : Int) (x1 : Int) : alter_ahead_1_1.f k x0 x1 = alter_ahead_1_1.R k ([.code alter_ahead_1_1.body]) (alter_ahead_1_1.ti.fill [⟨Z0, x0⟩, ⟨Z0, x1⟩]) := by kernel_rfl
theorem alter_ahead_1_1.h (k : Nat) (ds : List Dat) (r : Bool × Int) (h : alter_ahead_1_1.g k ds = some r) : ∃ k', k' < k ∧ alter_ahead_1_1.R k' ([.code alter_ahead_1_1.body]) (alter_ahead_1_1.ti.fill ds) = some r := by
  cases k with
  | zero => cases (show none = some r from h)
  | succ k =>
  replace h : alter_ahead_1_1.c k ds = some r := h
  unfold alter_ahead_1_1.c at h
  iterate 2 (obtain ⟨_, _, e, g⟩ := pop_some h; clear h; subst e; have h := g; clear g)
  obtain ⟨rfl, g⟩ := popN_some h
  exact ⟨k, Nat.lt_succ_self k, (alter_ahead_1_1.e k ..).symm.trans g⟩
theorem alter_ahead_1_1.o (ds : List Dat) (r : Bool × Int) (h : alter_ahead_1_1.out ds = some r) : ds = alter_ahead_1_1.rs r := by
  unfold alter_ahead_1_1.out at h
  iterate 2 (obtain ⟨_, _, e, g⟩ := pop_some h; clear h; subst e; have h := g; clear g)
  obtain ⟨rfl, g⟩ := popN_some h
  cases g
  rfl
theorem alter_ahead_1_1.fn : FnOk Try.prog 152 Try.f152 alter_ahead_1_1.body Try.f152.ntmps 2 (fnRes Try.f152) :=
  fnOk_of (by kernel_rfl) (by kernel_rfl) (by kernel_rfl) (by kernel_rfl)
theorem alter_ahead_1_1.con' : ∀ k ds r, alter_ahead_1_1.g k ds = some r → Con Try.prog 152 2 alter_ahead_1_1.ti alter_ahead_1_1.to ds (alter_ahead_1_1.rs r) :=
  fun_ok (T := T) T_ok mixed alter_ahead_1_1.fn (env := alter_ahead_1_1.env) (tbl := alter_ahead_1_1.tbl) (gOut := alter_ahead_1_1.out) (nin := 1) (cuts := []) (fuel := 100000) rfl (by kernel_rfl) (by kernel_rfl) (by kernel_rfl) (fun x hx => by simp [alter_ahead_1_1.tbl] at hx) alter_ahead_1_1.o alter_ahead_1_1.h (fun k _ => by unfold alter_ahead_1_1.env; exact env0_ok)
theorem alter_ahead_1_1.con (k : Nat) {x0 : Int} {x1 : Int} (r : Bool × Int) (h : alter_ahead_1_1.f k x0 x1 = some r) : Con Try.prog 152 2 alter_ahead_1_1.ti alter_ahead_1_1.to [⟨Z0, x0⟩, ⟨Z0, x1⟩] (alter_ahead_1_1.rs r) :=
  alter_ahead_1_1.con' (k + 1) _ r (by show alter_ahead_1_1.c k _ = some r; unfold alter_ahead_1_1.c; simp only [pop_self, popN]; exact h)
mutual
def Sf27.l2 : Nat → List (Int) → Int → Int → Int → Option (Int × Int)
 | 0, _, _, _, _ => none
 | k + 1, s0, x7, x8, c_0_0 =>
  if x8 < x7 then
   if 0 ≤ x8 then
   if x8 < (↑s0.length : Int) then
    (alter_ahead_1_1.f k (rd (Int.ofNat 0) s0 x8) c_0_0).bind fun r_5 =>
      if r_5.fst = true then
       some (x8, r_5.snd)
      else
       Sf27.l2 k s0 x7 (Go.IntKind.i64.wrap (x8 + 1)) r_5.snd
    else none
   else none
  else
   some (-1, c_0_0)
end
def Sf27.f (k : Nat) (s0 : List (Int)) (c_0_0 : Int) : Option (Int × Int) :=
 Sf27.l2 k s0 ((↑s0.length : Int)) 0 c_0_0

noncomputable def Sf27.body : Code := fnBody Try.f146
def Sf27.ti : Tm := ⟨[(0, .p Z1), (1, .fn 152 [.ptr 0 0])], [.box [.p Z0] 3]⟩
def Sf27.to : Tm := ⟨[(0, .p Z0)], [.box [.p Z0] 3]⟩
def Sf27.rs (r : Int × Int) : List Dat := [⟨Z0, r.1⟩, ⟨Z0, r.2⟩]
def Sf27.out (ds : List Dat) : Option (Int × Int) := pop Z0 ds fun x0 ds => pop Z0 ds fun x1 ds => popN ds (some (x0, x1))
def Sf27.c (k : Nat) (ds : List Dat) : Option (Int × Int) := pop Z1 ds fun x0 ds => pop Z0 ds fun x1 ds => popN ds (Sf27.f k x0 x1)
def Sf27.g : Nat → List Dat → Option (Int × Int)
 | 0, _ => none
 | k + 1, ds => Sf27.c k ds
def Sf27.env (k : Nat) : Nat → List SV → List Chunk → KT (Int × Int) → Option (Int × Int) := (envC 152 2 alter_ahead_1_1.ti alter_ahead_1_1.to (fun ds K => pop Z0 ds fun x0 ds => pop Z0 ds fun x1 ds => popN ds ((alter_ahead_1_1.f k x0 x1).bind fun r => K (alter_ahead_1_1.rs r))) env0)
def Sf27.t5 : Tm := ⟨[(0, .p Z1), (1, .fn 152 [.ptr 0 0]), (7, .p Z0), (8, .p Z0)], [.box [.p Z0] 3]⟩
def Sf27.c5 (k : Nat) (ds : List Dat) : Option (Int × Int) := pop Z1 ds fun x0 ds => pop Z0 ds fun x1 ds => pop Z0 ds fun x2 ds => pop Z0 ds fun x3 ds => popN ds (Sf27.l2 k x0 x1 x2 x3)
def Sf27.tbl : List (Nat × Tm × (Nat → List Dat → Option (Int × Int))) := [(5, Sf27.t5, Sf27.c5)]
noncomputable abbrev Sf27.R (k : Nat) := run T (Sf27.env k) Try.f146.ntmps (cutE 1 Sf27.tbl k) (finE 1 Sf27.to Sf27.out) (fnRes Try.f146) [] 100000 true
theorem Sf27.e5 (k : Nat) (x0 : (List Int)) (x1 : Int) (x2 : Int) (x3 : Int) : Sf27.l2 (k + 1) x0 x1 x2 x3 = Sf27.R k (start (stackOf 5 Sf27.body)) (Sf27.t5.fill [⟨Z1, x0⟩, ⟨Z0, x1⟩, ⟨Z0, x2⟩, ⟨Z0, x3⟩]) := by kernel_rfl
theorem Sf27.s5 : stackAt 5 Sf27.body [] = some (stackOf 5 Sf27.body) := by kernel_rfl
theorem Sf27.h5 (k : Nat) (ds : List Dat) (r : Int × Int) (h : Sf27.c5 k ds = some r) : ∃ k', k' < k ∧ ∃ s, stackAt 5 Sf27.body [] = some s ∧ Sf27.R k' (start s) (Sf27.t5.fill ds) = some r := by
  unfold Sf27.c5 at h
  iterate 4 (obtain ⟨_, _, e, g⟩ := pop_some h; clear h; subst e; have h := g; clear g)
  obtain ⟨rfl, g⟩ := popN_some h
  cases k with
  | zero => cases (show none = some r from g)
  | succ k => exact ⟨k, Nat.lt_succ_self k, _, Sf27.s5, (Sf27.e5 k ..).symm.trans g⟩
theorem Sf27.e (k : Nat) (x0 : (List Int)) (x1 : Int) : Sf27.f k x0 x1 = Sf27.R k ([.code Sf27.body]) (Sf27.ti.fill [⟨Z1, x0⟩, ⟨Z0, x1⟩]) := by kernel_rfl
theorem Sf27.h (k : Nat) (ds : List Dat) (r : Int × Int) (h : Sf27.g k ds = some r) : ∃ k', k' < k ∧ Sf27.R k' ([.code Sf27.body]) (Sf27.ti.fill ds) = some r := by
  cases k with
  | zero => cases (show none = some r from h)
  | succ k =>
  replace h : Sf27.c k ds = some r := h
  unfold Sf27.c at h
  iterate 2 (obtain ⟨_, _, e, g⟩ := pop_some h; clear h; subst e; have h := g; clear g)
  obtain ⟨rfl, g⟩ := popN_some h
  exact ⟨k, Nat.lt_succ_self k, (Sf27.e k ..).symm.trans g⟩
theorem Sf27.o (ds : List Dat) (r : Int × Int) (h : Sf27.out ds = some r) : ds = Sf27.rs r := by
  unfold Sf27.out at h
  iterate 2 (obtain ⟨_, _, e, g⟩ := pop_some h; clear h; subst e; have h := g; clear g)
  obtain ⟨rfl, g⟩ := popN_some h
  cases g
  rfl
theorem Sf27.fn : FnOk Try.prog 146 Try.f146 Sf27.body Try.f146.ntmps 2 (fnRes Try.f146) :=
  fnOk_of (by kernel_rfl) (by kernel_rfl) (by kernel_rfl) (by kernel_rfl)
theorem Sf27.con' : ∀ k ds r, Sf27.g k ds = some r → Con Try.prog 146 2 Sf27.ti Sf27.to ds (Sf27.rs r) :=
  fun_ok (T := T) T_ok mixed Sf27.fn (env := Sf27.env) (tbl := Sf27.tbl) (gOut := Sf27.out) (nin := 1) (cuts := []) (fuel := 100000) rfl (by kernel_rfl) (by kernel_rfl) (by kernel_rfl) (fun x hx => by
    simp only [Sf27.tbl, List.mem_cons, List.not_mem_nil, or_false] at hx
    subst hx
    · exact Sf27.h5
) Sf27.o Sf27.h (fun k _ => by unfold Sf27.env; exact (envC_ok (fun ds K r h => by
    iterate 2 (obtain ⟨_, _, e, g⟩ := pop_some h; clear h; subst e; have h := g; clear g)
    obtain ⟨rfl, g⟩ := popN_some h
    obtain ⟨r1, h1, h2⟩ := bind_some g
    exact ⟨_, h2, alter_ahead_1_1.con k _ h1⟩) env0_ok))
theorem Sf27.con (k : Nat) {x0 : (List Int)} {x1 : Int} (r : Int × Int) (h : Sf27.f k x0 x1 = some r) : Con Try.prog 146 2 Sf27.ti Sf27.to [⟨Z1, x0⟩, ⟨Z0, x1⟩] (Sf27.rs r) :=
  Sf27.con' (k + 1) _ r (by show Sf27.c k _ = some r; unfold Sf27.c; simp only [pop_self, popN]; exact h)
def Sf28.f (k : Nat) (s0 : List (Int)) (c_0_0 : Int) : Option (Bool × Int) :=
 (Sf27.f k s0 c_0_0).bind fun r_1 =>
  some (decide (0 ≤ r_1.fst), r_1.snd)

noncomputable def Sf28.body : Code := fnBody Try.f74
def Sf28.ti : Tm := ⟨[(0, .p Z1), (1, .fn 152 [.ptr 0 0])], [.box [.p Z0] 3]⟩
def Sf28.to : Tm := ⟨[(0, .p .bool)], [.box [.p Z0] 3]⟩
def Sf28.rs (r : Bool × Int) : List Dat := [⟨.bool, r.1⟩, ⟨Z0, r.2⟩]
def Sf28.out (ds : List Dat) : Option (Bool × Int) := pop .bool ds fun x0 ds => pop Z0 ds fun x1 ds => popN ds (some (x0, x1))
def Sf28.c (k : Nat) (ds : List Dat) : Option (Bool × Int) := pop Z1 ds fun x0 ds => pop Z0 ds fun x1 ds => popN ds (Sf28.f k x0 x1)
def Sf28.g : Nat → List Dat → Option (Bool × Int)
 | 0, _ => none
 | k + 1, ds => Sf28.c k ds
def Sf28.env (k : Nat) : Nat → List SV → List Chunk → KT (Bool × Int) → Option (Bool × Int) := (envC 146 2 Sf27.ti Sf27.to (fun ds K => pop Z1 ds fun x0 ds => pop Z0 ds fun x1 ds => popN ds ((Sf27.f k x0 x1).bind fun r => K (Sf27.rs r))) env0)
def Sf28.tbl : List (Nat × Tm × (Nat → List Dat → Option (Bool × Int))) := []
noncomputable abbrev Sf28.R (k : Nat) := run T (Sf28.env k) Try.f74.ntmps (cutE 1 Sf28.tbl k) (finE 1 Sf28.to Sf28.out) (fnRes Try.f74) [] 100000 true
theorem Sf28.e (k : Nat) (x0 : (List Int)) (x1 : Int) : Sf28.f k x0 x1 = Sf28.R k ([.code Sf28.body]) (Sf28.ti.fill [⟨Z1, x0⟩, ⟨Z0, x1⟩]) := by kernel_rfl
theorem Sf28.h (k : Nat) (ds : List Dat) (r : Bool × Int) (h : Sf28.g k ds = some r) : ∃ k', k' < k ∧ Sf28.R k' ([.code Sf28.body]) (Sf28.ti.fill ds) = some r := by
  cases k with
  | zero => cases (show none = some r from h)
  | succ k =>
  replace h : Sf28.c k ds = some r := h
  unfold Sf28.c at h
  iterate 2 (obtain ⟨_, _, e, g⟩ := pop_some h; clear h; subst e; have h := g; clear g)
  obtain ⟨rfl, g⟩ := popN_some h
  exact ⟨k, Nat.lt_succ_self k, (Sf28.e k ..).symm.trans g⟩
theorem Sf28.o (ds : List Dat) (r : Bool × Int) (h : Sf28.out ds = some r) : ds = Sf28.rs r := by
  unfold Sf28.out at h
  iterate 2 (obtain ⟨_, _, e, g⟩ := pop_some h; clear h; subst e; have h := g; clear g)
  obtain ⟨rfl, g⟩ := popN_some h
  cases g
  rfl
theorem Sf28.fn : FnOk Try.prog 74 Try.f74 Sf28.body Try.f74.ntmps 2 (fnRes Try.f74) :=
  fnOk_of (by kernel_rfl) (by kernel_rfl) (by kernel_rfl) (by kernel_rfl)
theorem Sf28.con' : ∀ k ds r, Sf28.g k ds = some r → Con Try.prog 74 2 Sf28.ti Sf28.to ds (Sf28.rs r) :=
  fun_ok (T := T) T_ok mixed Sf28.fn (env := Sf28.env) (tbl := Sf28.tbl) (gOut := Sf28.out) (nin := 1) (cuts := []) (fuel := 100000) rfl (by kernel_rfl) (by kernel_rfl) (by kernel_rfl) (fun x hx => by simp [Sf28.tbl] at hx) Sf28.o Sf28.h (fun k _ => by unfold Sf28.env; exact (envC_ok (fun ds K r h => by
    iterate 2 (obtain ⟨_, _, e, g⟩ := pop_some h; clear h; subst e; have h := g; clear g)
    obtain ⟨rfl, g⟩ := popN_some h
    obtain ⟨r1, h1, h2⟩ := bind_some g
    exact ⟨_, h2, Sf27.con k _ h1⟩) env0_ok))
theorem Sf28.con (k : Nat) {x0 : (List Int)} {x1 : Int} (r : Bool × Int) (h : Sf28.f k x0 x1 = some r) : Con Try.prog 74 2 Sf28.ti Sf28.to [⟨Z1, x0⟩, ⟨Z0, x1⟩] (Sf28.rs r) :=
  Sf28.con' (k + 1) _ r (by show Sf28.c k _ = some r; unfold Sf28.c; simp only [pop_self, popN]; exact h)
def alter_ahead_1.f (k : Nat) (c0 : List (Int)) (x1_0 : Int) : Option (Bool × Int) :=
 (Sf28.f k c0 x1_0).bind fun r_1 =>
  some (!r_1.fst, r_1.snd)

noncomputable def alter_ahead_1.body : Code := fnBody Try.f151
def alter_ahead_1.ti : Tm := ⟨[(0, .p Z1), (1, .ptr 0 0)], [.box [.p Z0] 3]⟩
def alter_ahead_1.to : Tm := ⟨[(0, .p .bool)], [.box [.p Z0] 3]⟩
def alter_ahead_1.rs (r : Bool × Int) : List Dat := [⟨.bool, r.1⟩, ⟨Z0, r.2⟩]
def alter_ahead_1.out (ds : List Dat) : Option (Bool × Int) := pop .bool ds fun x0 ds => pop Z0 ds fun x1 ds => popN ds (some (x0, x1))
def alter_ahead_1.c (k : Nat) (ds : List Dat) : Option (Bool × Int) := pop Z1 ds fun x0 ds => pop Z0 ds fun x1 ds => popN ds (alter_ahead_1.f k x0 x1)
def alter_ahead_1.g : Nat → List Dat → Option (Bool × Int)
 | 0, _ => none
 | k + 1, ds => alter_ahead_1.c k ds
def alter_ahead_1.env (k : Nat) : Nat → List SV → List Chunk → KT (Bool × Int) → Option (Bool × Int) := (envC 74 2 Sf28.ti Sf28.to (fun ds K => pop Z1 ds fun x0 ds => pop Z0 ds fun x1 ds => popN ds ((Sf28.f k x0 x1).bind fun r => K (Sf28.rs r))) env0)
def alter_ahead_1.tbl : List (Nat × Tm × (Nat → List Dat → Option (Bool × Int))) := []
noncomputable abbrev alter_ahead_1.R (k : Nat) := run T (alter_ahead_1.env k) Try.f151.ntmps (cutE 1 alter_ahead_1.tbl k) (finE 1 alter_ahead_1.to alter_ahead_1.out) (fnRes Try.f151) [] 100000 true
theorem alter_ahead_1.e (k : Nat) (x0 : (List Int)) (x1 : Int) : alter_ahead_1.f k x0 x1 = alter_ahead_1.R k ([.code alter_ahead_1.body]) (alter_ahead_1.ti.fill [⟨Z1, x0⟩, ⟨Z0, x1⟩]) := by kernel_rfl
theorem alter_ahead_1.h (k : Nat) (ds : List Dat) (r : Bool × Int) (h : alter_ahead_1.g k ds = some r) : ∃ k', k' < k ∧ alter_ahead_1.R k' ([.code alter_ahead_1.body]) (alter_ahead_1.ti.fill ds) = some r := by
  cases k with
  | zero => cases (show none = some r from h)
  | succ k =>
  replace h : alter_ahead_1.c k ds = some r := h
  unfold alter_ahead_1.c at h
  iterate 2 (obtain ⟨_, _, e, g⟩ := pop_some h; clear h; subst e; have h := g; clear g)
  obtain ⟨rfl, g⟩ := popN_some h
  exact ⟨k, Nat.lt_succ_self k, (alter_ahead_1.e k ..).symm.trans g⟩
theorem alter_ahead_1.o (ds : List Dat) (r : Bool × Int) (h : alter_ahead_1.out ds = some r) : ds = alter_ahead_1.rs r := by
  unfold alter_ahead_1.out at h
  iterate 2 (obtain ⟨_, _, e, g⟩ := pop_some h; clear h; subst e; have h := g; clear g)
  obtain ⟨rfl, g⟩ := popN_some h
  cases g
  rfl
theorem alter_ahead_1.fn : FnOk Try.prog 151 Try.f151 alter_ahead_1.body Try.f151.ntmps 2 (fnRes Try.f151) :=
  fnOk_of (by kernel_rfl) (by kernel_rfl) (by kernel_rfl) (by kernel_rfl)
theorem alter_ahead_1.con' : ∀ k ds r, alter_ahead_1.g k ds = some r → Con Try.prog 151 2 alter_ahead_1.ti alter_ahead_1.to ds (alter_ahead_1.rs r) :=
  fun_ok (T := T) T_ok mixed alter_ahead_1.fn (env := alter_ahead_1.env) (tbl := alter_ahead_1.tbl) (gOut := alter_ahead_1.out) (nin := 1) (cuts := []) (fuel := 100000) rfl (by kernel_rfl) (by kernel_rfl) (by kernel_rfl) (fun x hx => by simp [alter_ahead_1.tbl] at hx) alter_ahead_1.o alter_ahead_1.h (fun k _ => by unfold alter_ahead_1.env; exact (envC_ok (fun ds K r h => by
    iterate 2 (obtain ⟨_, _, e, g⟩ := pop_some h; clear h; subst e; have h := g; clear g)
    obtain ⟨rfl, g⟩ := popN_some h
    obtain ⟨r1, h1, h2⟩ := bind_some g
    exact ⟨_, h2, Sf28.con k _ h1⟩) env0_ok))
theorem alter_ahead_1.con (k : Nat) {x0 : (List Int)} {x1 : Int} (r : Bool × Int) (h : alter_ahead_1.f k x0 x1 = some r) : Con Try.prog 151 2 alter_ahead_1.ti alter_ahead_1.to [⟨Z1, x0⟩, ⟨Z0, x1⟩] (alter_ahead_1.rs r) :=
  alter_ahead_1.con' (k + 1) _ r (by show alter_ahead_1.c k _ = some r; unfold alter_ahead_1.c; simp only [pop_self, popN]; exact h)
mutual
def Sf29.l2 : Nat → List (List (Int)) → Int → Int → Int → Option (Int × Int)
 | 0, _, _, _, _ => none
 | k + 1, s0, x7, x8, c_0_0 =>
  if x8 < x7 then
   if 0 ≤ x8 then
   if x8 < (↑s0.length : Int) then
    (alter_ahead_1.f k (rd [] s0 x8) c_0_0).bind fun r_5 =>
      if r_5.fst = true then
       some (x8, r_5.snd)
      else
       Sf29.l2 k s0 x7 (Go.IntKind.i64.wrap (x8 + 1)) r_5.snd
    else none
   else none
  else
   some (-1, c_0_0)
end
def Sf29.f (k : Nat) (s0 : List (List (Int))) (c_0_0 : Int) : Option (Int × Int) :=
 Sf29.l2 k s0 ((↑s0.length : Int)) 0 c_0_0

noncomputable def Sf29.body : Code := fnBody Try.f145
def Sf29.ti : Tm := ⟨[(0, .p Z3), (1, .fn 151 [.ptr 0 0])], [.box [.p Z0] 3]⟩
def Sf29.to : Tm := ⟨[(0, .p Z0)], [.box [.p Z0] 3]⟩
def Sf29.rs (r : Int × Int) : List Dat := [⟨Z0, r.1⟩, ⟨Z0, r.2⟩]
def Sf29.out (ds : List Dat) : Option (Int × Int) := pop Z0 ds fun x0 ds => pop Z0 ds fun x1 ds => popN ds (some (x0, x1))
def Sf29.c (k : Nat) (ds : List Dat) : Option (Int × Int) := pop Z3 ds fun x0 ds => pop Z0 ds fun x1 ds => popN ds (Sf29.f k x0 x1)
def Sf29.g : Nat → List Dat → Option (Int × Int)
 | 0, _ => none
 | k + 1, ds => Sf29.c k ds
def Sf29.env (k : Nat) : Nat → List SV → List Chunk → KT (Int × Int) → Option (Int × Int) := (envC 151 2 alter_ahead_1.ti alter_ahead_1.to (fun ds K => pop Z1 ds fun x0 ds => pop Z0 ds fun x1 ds => popN ds ((alter_ahead_1.f k x0 x1).bind fun r => K (alter_ahead_1.rs r))) env0)
def Sf29.t5 : Tm := ⟨[(0, .p Z3), (1, .fn 151 [.ptr 0 0]), (7, .p Z0), (8, .p Z0)], [.box [.p Z0] 3]⟩
def Sf29.c5 (k : Nat) (ds : List Dat) : Option (Int × Int) := pop Z3 ds fun x0 ds => pop Z0 ds fun x1 ds => pop Z0 ds fun x2 ds => pop Z0 ds fun x3 ds => popN ds (Sf29.l2 k x0 x1 x2 x3)
def Sf29.tbl : List (Nat × Tm × (Nat → List Dat → Option (Int × Int))) := [(5, Sf29.t5, Sf29.c5)]
noncomputable abbrev Sf29.R (k : Nat) := run T (Sf29.env k) Try.f145.ntmps (cutE 1 Sf29.tbl k) (finE 1 Sf29.to Sf29.out) (fnRes Try.f145) [] 100000 true
theorem Sf29.e5 (k : Nat) (x0 : (List (List Int))) (x1 : Int) (x2 : Int) (x3 : Int) : Sf29.l2 (k + 1) x0 x1 x2 x3 = Sf29.R k (start (stackOf 5 Sf29.body)) (Sf29.t5.fill [⟨Z3, x0⟩, ⟨Z0, x1⟩, ⟨Z0, x2⟩, ⟨Z0, x3⟩]) := by kernel_rfl
theorem Sf29.s5 : stackAt 5 Sf29.body [] = some (stackOf 5 Sf29.body) := by kernel_rfl
theorem Sf29.h5 (k : Nat) (ds : List Dat) (r : Int × Int) (h : Sf29.c5 k ds = some r) : ∃ k', k' < k ∧ ∃ s, stackAt 5 Sf29.body [] = some s ∧ Sf29.R k' (start s) (Sf29.t5.fill ds) = some r := by
  unfold Sf29.c5 at h
  iterate 4 (obtain ⟨_, _, e, g⟩ := pop_some h; clear h; subst e; have h := g; clear g)
  obtain ⟨rfl, g⟩ := popN_some h
  cases k with
  | zero => cases (show none = some r from g)
  | succ k => exact ⟨k, Nat.lt_succ_self k, _, Sf29.s5, (Sf29.e5 k ..).symm.trans g⟩
theorem Sf29.e (k : Nat) (x0 : (List (List Int))) (x1 : Int) : Sf29.f k x0 x1 = Sf29.R k ([.code Sf29.body]) (Sf29.ti.fill [⟨Z3, x0⟩, ⟨Z0, x1⟩]) := by kernel_rfl
theorem Sf29.h (k : Nat) (ds : List Dat) (r : Int × Int) (h : Sf29.g k ds = some r) : ∃ k', k' < k ∧ Sf29.R k' ([.code Sf29.body]) (Sf29.ti.fill ds) = some r := by
  cases k with
  | zero => cases (show none = some r from h)
  | succ k =>
  replace h : Sf29.c k ds = some r := h
  unfold Sf29.c at h
  iterate 2 (obtain ⟨_, _, e, g⟩ := pop_some h; clear h; subst e; have h := g; clear g)
  obtain ⟨rfl, g⟩ := popN_some h
  exact ⟨k, Nat.lt_succ_self k, (Sf29.e k ..).symm.trans g⟩
theorem Sf29.o (ds : List Dat) (r : Int × Int) (h : Sf29.out ds = some r) : ds = Sf29.rs r := by
  unfold Sf29.out at h
  iterate 2 (obtain ⟨_, _, e, g⟩ := pop_some h; clear h; subst e; have h := g; clear g)
  obtain ⟨rfl, g⟩ := popN_some h
  cases g
  rfl
theorem Sf29.fn : FnOk Try.prog 145 Try.f145 Sf29.body Try.f145.ntmps 2 (fnRes Try.f145) :=
  fnOk_of (by kernel_rfl) (by kernel_rfl) (by kernel_rfl) (by kernel_rfl)
theorem Sf29.con' : ∀ k ds r, Sf29.g k ds = some r → Con Try.prog 145 2 Sf29.ti Sf29.to ds (Sf29.rs r) :=
  fun_ok (T := T) T_ok mixed Sf29.fn (env := Sf29.env) (tbl := Sf29.tbl) (gOut := Sf29.out) (nin := 1) (cuts := []) (fuel := 100000) rfl (by kernel_rfl) (by kernel_rfl) (by kernel_rfl) (fun x hx => by
    simp only [Sf29.tbl, List.mem_cons, List.not_mem_nil, or_false] at hx
    subst hx
    · exact Sf29.h5
) Sf29.o Sf29.h (fun k _ => by unfold Sf29.env; exact (envC_ok (fun ds K r h => by
    iterate 2 (obtain ⟨_, _, e, g⟩ := pop_some h; clear h; subst e; have h := g; clear g)
    obtain ⟨rfl, g⟩ := popN_some h
    obtain ⟨r1, h1, h2⟩ := bind_some g
    exact ⟨_, h2, alter_ahead_1.con k _ h1⟩) env0_ok))
theorem Sf29.con (k : Nat) {x0 : (List (List Int))} {x1 : Int} (r : Int × Int) (h : Sf29.f k x0 x1 = some r) : Con Try.prog 145 2 Sf29.ti Sf29.to [⟨Z3, x0⟩, ⟨Z0, x1⟩] (Sf29.rs r) :=
  Sf29.con' (k + 1) _ r (by show Sf29.c k _ = some r; unfold Sf29.c; simp only [pop_self, popN]; exact h)
def Sf30.f (k : Nat) (s0 : List (List (Int))) (c_0_0 : Int) : Option (Bool × Int) :=
 (Sf29.f k s0 c_0_0).bind fun r_1 =>
  some (decide (0 ≤ r_1.fst), r_1.snd)

noncomputable def Sf30.body : Code := fnBody Try.f72
def Sf30.ti : Tm := ⟨[(0, .p Z3), (1, .fn 151 [.ptr 0 0])], [.box [.p Z0] 3]⟩
def Sf30.to : Tm := ⟨[(0, .p .bool)], [.box [.p Z0] 3]⟩
def Sf30.rs (r : Bool × Int) : List Dat := [⟨.bool, r.1⟩, ⟨Z0, r.2⟩]
def Sf30.out (ds : List Dat) : Option (Bool × Int) := pop .bool ds fun x0 ds => pop Z0 ds fun x1 ds => popN ds (some (x0, x1))
def Sf30.c (k : Nat) (ds : List Dat) : Option (Bool × Int) := pop Z3 ds fun x0 ds => pop Z0 ds fun x1 ds => popN ds (Sf30.f k x0 x1)
def Sf30.g : Nat → List Dat → Option (Bool × Int)
 | 0, _ => none
 | k + 1, ds => Sf30.c k ds
def Sf30.env (k : Nat) : Nat → List SV → List Chunk → KT (Bool × Int) → Option (Bool × Int) := (envC 145 2 Sf29.ti Sf29.to (fun ds K => pop Z3 ds fun x0 ds => pop Z0 ds fun x1 ds => popN ds ((Sf29.f k x0 x1).bind fun r => K (Sf29.rs r))) env0)
def Sf30.tbl : List (Nat × Tm × (Nat → List Dat → Option (Bool × Int))) := []
noncomputable abbrev Sf30.R (k : Nat) := run T (Sf30.env k) Try.f72.ntmps (cutE 1 Sf30.tbl k) (finE 1 Sf30.to Sf30.out) (fnRes Try.f72) [] 100000 true
theorem Sf30.e (k : Nat) (x0 : (List (List Int))) (x1 : Int) : Sf30.f k x0 x1 = Sf30.R k ([.code Sf30.body]) (Sf30.ti.fill [⟨Z3, x0⟩, ⟨Z0, x1⟩]) := by kernel_rfl
theorem Sf30.h (k : Nat) (ds : List Dat) (r : Bool × Int) (h : Sf30.g k ds = some r) : ∃ k', k' < k ∧ Sf30.R k' ([.code Sf30.body]) (Sf30.ti.fill ds) = some r := by
  cases k with
  | zero => cases (show none = some r from h)
  | succ k =>
  replace h : Sf30.c k ds = some r := h
  unfold Sf30.c at h
  iterate 2 (obtain ⟨_, _, e, g⟩ := pop_some h; clear h; subst e; have h := g; clear g)
  obtain ⟨rfl, g⟩ := popN_some h
  exact ⟨k, Nat.lt_succ_self k, (Sf30.e k ..).symm.trans g⟩
theorem Sf30.o (ds : List Dat) (r : Bool × Int) (h : Sf30.out ds = some r) : ds = Sf30.rs r := by
  unfold Sf30.out at h
  iterate 2 (obtain ⟨_, _, e, g⟩ := pop_some h; clear h; subst e; have h := g; clear g)
  obtain ⟨rfl, g⟩ := popN_some h
  cases g
  rfl
theorem Sf30.fn : FnOk Try.prog 72 Try.f72 Sf30.body Try.f72.ntmps 2 (fnRes Try.f72) :=
  fnOk_of (by kernel_rfl) (by kernel_rfl) (by kernel_rfl) (by kernel_rfl)
theorem Sf30.con' : ∀ k ds r, Sf30.g k ds = some r → Con Try.prog 72 2 Sf30.ti Sf30.to ds (Sf30.rs r) :=
  fun_ok (T := T) T_ok mixed Sf30.fn (env := Sf30.env) (tbl := Sf30.tbl) (gOut := Sf30.out) (nin := 1) (cuts := []) (fuel := 100000) rfl (by kernel_rfl) (by kernel_rfl) (by kernel_rfl) (fun x hx => by simp [Sf30.tbl] at hx) Sf30.o Sf30.h (fun k _ => by unfold Sf30.env; exact (envC_ok (fun ds K r h => by
    iterate 2 (obtain ⟨_, _, e, g⟩ := pop_some h; clear h; subst e; have h := g; clear g)
    obtain ⟨rfl, g⟩ := popN_some h
    obtain ⟨r1, h1, h2⟩ := bind_some g
    exact ⟨_, h2, Sf29.con k _ h1⟩) env0_ok))
theorem Sf30.con (k : Nat) {x0 : (List (List Int))} {x1 : Int} (r : Bool × Int) (h : Sf30.f k x0 x1 = some r) : Con Try.prog 72 2 Sf30.ti Sf30.to [⟨Z3, x0⟩, ⟨Z0, x1⟩] (Sf30.rs r) :=
  Sf30.con' (k + 1) _ r (by show Sf30.c k _ = some r; unfold Sf30.c; simp only [pop_self, popN]; exact h)
mutual
def alter_ahead.l3 : Nat → Int → Int → List (List (List (List (Int)))) → Int → Int → Int → Option (Int)
 | 0, _, _, _, _, _, _ => none
 | k + 1, letter2, out7, x11, x12, x13, set4_0 =>
  if x13 < x12 then
   if 0 ≤ x13 then
   if x13 < (↑x11.length : Int) then
    if 0 ≤ letter2 then
     if letter2 < (↑(rd [] x11 x13).length : Int) then
      (Sf30.f k (rd [] (rd [] x11 x13) letter2) set4_0).bind fun r_7 =>
        if r_7.fst = true then
         if 0 ≤ x13 then
         alter_ahead.j7 k letter2 (Go.IntKind.i64.wrap (↑(BitVec.ofInt Go.IntKind.i64.bits out7 ||| BitVec.ofInt Go.IntKind.i64.bits (Go.IntKind.i64.wrap (1 * 2 ^ min x13.toNat Go.IntKind.i64.bits))).toNat : Int)) x11 x12 x13 r_7.snd
         else none
        else
         alter_ahead.j7 k letter2 out7 x11 x12 x13 r_7.snd
      else none
     else none
    else none
   else none
  else
   some (out7)
def alter_ahead.j7 : Nat → Int → Int → List (List (List (List (Int)))) → Int → Int → Int → Option (Int)
 | 0, _, _, _, _, _, _ => none
 | k + 1, letter2, out7, x11, x12, x13, set4_0 =>
  alter_ahead.l3 k letter2 out7 x11 x12 (Go.IntKind.i64.wrap (x13 + 1)) set4_0
end
def alter_ahead.f (k : Nat) (a0 : (Int × (Int × (List (List (List (List (Int)))) × (List (Int) × Unit))))) (set1 : Int) (letter2 : Int) : Option (Int) :=
 alter_ahead.l3 k letter2 0 a0.snd.snd.fst ((↑a0.snd.snd.fst.length : Int)) 0 set1

noncomputable def alter_ahead.body : Code := fnBody Try.f93
def alter_ahead.ti : Tm := ⟨[(0, .p Z7), (1, .p Z0), (2, .p Z0)], []⟩
def alter_ahead.to : Tm := ⟨[(0, .p Z0)], []⟩
def alter_ahead.rs (r : Int) : List Dat := [⟨Z0, r⟩]
def alter_ahead.out (ds : List Dat) : Option (Int) := pop Z0 ds fun x0 ds => popN ds (some (x0))
def alter_ahead.c (k : Nat) (ds : List Dat) : Option (Int) := pop Z7 ds fun x0 ds => pop Z0 ds fun x1 ds => pop Z0 ds fun x2 ds => popN ds (alter_ahead.f k x0 x1 x2)
def alter_ahead.g : Nat → List Dat → Option (Int)
 | 0, _ => none
 | k + 1, ds => alter_ahead.c k ds
def alter_ahead.env (k : Nat) : Nat → List SV → List Chunk → KT (Int) → Option (Int) := (envC 72 2 Sf30.ti Sf30.to (fun ds K => pop Z3 ds fun x0 ds => pop Z0 ds fun x1 ds => popN ds ((Sf30.f k x0 x1).bind fun r => K (Sf30.rs r))) env0)
def alter_ahead.t7 : Tm := ⟨[(2, .p Z0), (4, .ptr 0 0), (7, .p Z0), (11, .p Z5), (12, .p Z0), (13, .p Z0)], [.box [.p Z0] 3]⟩
def alter_ahead.c7 (k : Nat) (ds : List Dat) : Option (Int) := pop Z0 ds fun x0 ds => pop Z0 ds fun x1 ds => pop Z5 ds fun x2 ds => pop Z0 ds fun x3 ds => pop Z0 ds fun x4 ds => pop Z0 ds fun x5 ds => popN ds (alter_ahead.l3 k x0 x1 x2 x3 x4 x5)
def alter_ahead.t14 : Tm := ⟨[(2, .p Z0), (4, .ptr 0 0), (7, .p Z0), (11, .p Z5), (12, .p Z0), (13, .p Z0)], [.box [.p Z0] 3]⟩
def alter_ahead.c14 (k : Nat) (ds : List Dat) : Option (Int) := pop Z0 ds fun x0 ds => pop Z0 ds fun x1 ds => pop Z5 ds fun x2 ds => pop Z0 ds fun x3 ds => pop Z0 ds fun x4 ds => pop Z0 ds fun x5 ds => popN ds (alter_ahead.j7 k x0 x1 x2 x3 x4 x5)
def alter_ahead.tbl : List (Nat × Tm × (Nat → List Dat → Option (Int))) := [(7, alter_ahead.t7, alter_ahead.c7), (14, alter_ahead.t14, alter_ahead.c14)]
noncomputable abbrev alter_ahead.R (k : Nat) := run T (alter_ahead.env k) Try.f93.ntmps (cutE 0 alter_ahead.tbl k) (finE 0 alter_ahead.to alter_ahead.out) (fnRes Try.f93) [7] 100000 true
theorem alter_ahead.e7 (k : Nat) (x0 : Int) (x1 : Int) (x2 : (List (List (List (List Int))))) (x3 : Int) (x4 : Int) (x5 : Int) : alter_ahead.l3 (k + 1) x0 x1 x2 x3 x4 x5 = alter_ahead.R k (start (stackOf 7 alter_ahead.body)) (alter_ahead.t7.fill [⟨Z0, x0⟩, ⟨Z0, x1⟩, ⟨Z5, x2⟩, ⟨Z0, x3⟩, ⟨Z0, x4⟩, ⟨Z0, x5⟩]) := by kernel_rfl
theorem alter_ahead.s7 : stackAt 7 alter_ahead.body [] = some (stackOf 7 alter_ahead.body) := by kernel_rfl
theorem alter_ahead.h7 (k : Nat) (ds : List Dat) (r : Int) (h : alter_ahead.c7 k ds = some r) : ∃ k', k' < k ∧ ∃ s, stackAt 7 alter_ahead.body [] = some s ∧ alter_ahead.R k' (start s) (alter_ahead.t7.fill ds) = some r := by
  unfold alter_ahead.c7 at h
  iterate 6 (obtain ⟨_, _, e, g⟩ := pop_some h; clear h; subst e; have h := g; clear g)
  obtain ⟨rfl, g⟩ := popN_some h
  cases k with
  | zero => cases (show none = some r from g)
  | succ k => exact ⟨k, Nat.lt_succ_self k, _, alter_ahead.s7, (alter_ahead.e7 k ..).symm.trans g⟩
theorem alter_ahead.e14 (k : Nat) (x0 : Int) (x1 : Int) (x2 : (List (List (List (List Int))))) (x3 : Int) (x4 : Int) (x5 : Int) : alter_ahead.j7 (k + 1) x0 x1 x2 x3 x4 x5 = alter_ahead.R k (start (stackOf 14 alter_ahead.body)) (alter_ahead.t14.fill [⟨Z0, x0⟩, ⟨Z0, x1⟩, ⟨Z5, x2⟩, ⟨Z0, x3⟩, ⟨Z0, x4⟩, ⟨Z0, x5⟩]) := by kernel_rfl
theorem alter_ahead.s14 : stackAt 14 alter_ahead.body [] = some (stackOf 14 alter_ahead.body) := by kernel_rfl
theorem alter_ahead.h14 (k : Nat) (ds : List Dat) (r : Int) (h : alter_ahead.c14 k ds = some r) : ∃ k', k' < k ∧ ∃ s, stackAt 14 alter_ahead.body [] = some s ∧ alter_ahead.R k' (start s) (alter_ahead.t14.fill ds) = some r := by
  unfold alter_ahead.c14 at h
  iterate 6 (obtain ⟨_, _, e, g⟩ := pop_some h; clear h; subst e; have h := g; clear g)
  obtain ⟨rfl, g⟩ := popN_some h
  cases k with
  | zero => cases (show none = some r from g)
  | succ k => exact ⟨k, Nat.lt_succ_self k, _, alter_ahead.s14, (alter_ahead.e14 k ..).symm.trans g⟩
theorem alter_ahead.e (k : Nat) (x0 : (Int × (Int × ((List (List (List (List Int)))) × ((List Int) × Unit))))) (x1 : Int) (x2 : Int) : alter_ahead.f k x0 x1 x2 = alter_ahead.R k ([.code alter_ahead.body]) (alter_ahead.ti.fill [⟨Z7, x0⟩, ⟨Z0, x1⟩, ⟨Z0, x2⟩]) := by kernel_rfl
theorem alter_ahead.h (k : Nat) (ds : List Dat) (r : Int) (h : alter_ahead.g k ds = some r) : ∃ k', k' < k ∧ alter_ahead.R k' ([.code alter_ahead.body]) (alter_ahead.ti.fill ds) = some r := by
  cases k with
  | zero => cases (show none = some r from h)
  | succ k =>
  replace h : alter_ahead.c k ds = some r := h
  unfold alter_ahead.c at h
  iterate 3 (obtain ⟨_, _, e, g⟩ := pop_some h; clear h; subst e; have h := g; clear g)
  obtain ⟨rfl, g⟩ := popN_some h
  exact ⟨k, Nat.lt_succ_self k, (alter_ahead.e k ..).symm.trans g⟩
theorem alter_ahead.o (ds : List Dat) (r : Int) (h : alter_ahead.out ds = some r) : ds = alter_ahead.rs r := by
  unfold alter_ahead.out at h
  obtain ⟨x0, d0, rfl, h0⟩ := pop_some h
  obtain ⟨rfl, g⟩ := popN_some h0
  cases g
  rfl
theorem alter_ahead.fn : FnOk Try.prog 93 Try.f93 alter_ahead.body Try.f93.ntmps 3 (fnRes Try.f93) :=
  fnOk_of (by kernel_rfl) (by kernel_rfl) (by kernel_rfl) (by kernel_rfl)
theorem alter_ahead.con' : ∀ k ds r, alter_ahead.g k ds = some r → Con Try.prog 93 3 alter_ahead.ti alter_ahead.to ds (alter_ahead.rs r) :=
  fun_ok (T := T) T_ok mixed alter_ahead.fn (env := alter_ahead.env) (tbl := alter_ahead.tbl) (gOut := alter_ahead.out) (nin := 0) (cuts := [7]) (fuel := 100000) rfl (by kernel_rfl) (by kernel_rfl) (by kernel_rfl) (fun x hx => by
    simp only [alter_ahead.tbl, List.mem_cons, List.not_mem_nil, or_false] at hx
    rcases hx with rfl | rfl
    · exact alter_ahead.h7
    · exact alter_ahead.h14
) alter_ahead.o alter_ahead.h (fun k _ => by unfold alter_ahead.env; exact (envC_ok (fun ds K r h => by
    iterate 2 (obtain ⟨_, _, e, g⟩ := pop_some h; clear h; subst e; have h := g; clear g)
    obtain ⟨rfl, g⟩ := popN_some h
    obtain ⟨r1, h1, h2⟩ := bind_some g
    exact ⟨_, h2, Sf30.con k _ h1⟩) env0_ok))
theorem alter_ahead.con (k : Nat) {x0 : (Int × (Int × ((List (List (List (List Int)))) × ((List Int) × Unit))))} {x1 : Int} {x2 : Int} (r : Int) (h : alter_ahead.f k x0 x1 x2 = some r) : Con Try.prog 93 3 alter_ahead.ti alter_ahead.to [⟨Z7, x0⟩, ⟨Z0, x1⟩, ⟨Z0, x2⟩] (alter_ahead.rs r) :=
  alter_ahead.con' (k + 1) _ r (by show alter_ahead.c k _ = some r; unfold alter_ahead.c; simp only [pop_self, popN]; exact h)
mutual
def alter_Det_1.l3 : Nat → Int → Int → Int → Int → Int → Int → List (List (List (List (Int)))) → List (Int) → Option (Int × Int × Int × List (List (List (List Int))) × List Int)
 | 0, _, _, _, _, _, _, _, _ => none
 | k + 1, good0, letter1, next6, x8, x2_0, x2_1, x2_2, x2_3 =>
  if x8 < 16 then
   (alter_ahead.f k (x2_0, x2_1, x2_2, x2_3, ()) x8 letter1).bind fun r_3 =>
    if 0 ≤ r_3 then
    if Go.IntKind.i64.wrap (↑(BitVec.ofInt Go.IntKind.i64.bits (good0.fdiv (2 ^ min r_3.toNat Go.IntKind.i64.bits)) &&& BitVec.ofInt Go.IntKind.i64.bits 1).toNat : Int) = 1 then
      if 0 ≤ x8 then
      alter_Det_1.j7 k good0 letter1 (Go.IntKind.i64.wrap (↑(BitVec.ofInt Go.IntKind.i64.bits next6 ||| BitVec.ofInt Go.IntKind.i64.bits (Go.IntKind.i64.wrap (1 * 2 ^ min x8.toNat Go.IntKind.i64.bits))).toNat : Int)) x8 x2_0 x2_1 x2_2 x2_3
      else none
     else
      alter_Det_1.j7 k good0 letter1 next6 x8 x2_0 x2_1 x2_2 x2_3
    else none
  else
   some (next6, x2_0, x2_1, x2_2, x2_3)
def alter_Det_1.j7 : Nat → Int → Int → Int → Int → Int → Int → List (List (List (List (Int)))) → List (Int) → Option (Int × Int × Int × List (List (List (List Int))) × List Int)
 | 0, _, _, _, _, _, _, _, _ => none
 | k + 1, good0, letter1, next6, x8, x2_0, x2_1, x2_2, x2_3 =>
  alter_Det_1.l3 k good0 letter1 next6 (Go.IntKind.i64.wrap (x8 + 1)) x2_0 x2_1 x2_2 x2_3
end
def alter_Det_1.f (k : Nat) (good0 : Int) (letter1 : Int) (x2_0 : Int) (x2_1 : Int) (x2_2 : List (List (List (List (Int))))) (x2_3 : List (Int)) : Option (Int × Int × Int × List (List (List (List Int))) × List Int) :=
 alter_Det_1.l3 k good0 letter1 0 0 x2_0 x2_1 x2_2 x2_3

noncomputable def alter_Det_1.body : Code := fnBody Try.f125
def alter_Det_1.ti : Tm := ⟨[(0, .p Z0), (1, .p Z0), (2, .ptr 0 0)], [.box [.p Z0, .p Z0, .p Z5, .p Z1] 25]⟩
def alter_Det_1.to : Tm := ⟨[(0, .p Z0)], [.box [.p Z0, .p Z0, .p Z5, .p Z1] 25]⟩
def alter_Det_1.rs (r : Int × Int × Int × (List (List (List (List Int)))) × (List Int)) : List Dat := [⟨Z0, r.1⟩, ⟨Z0, r.2.1⟩, ⟨Z0, r.2.2.1⟩, ⟨Z5, r.2.2.2.1⟩, ⟨Z1, r.2.2.2.2⟩]
def alter_Det_1.out (ds : List Dat) : Option (Int × Int × Int × (List (List (List (List Int)))) × (List Int)) := pop Z0 ds fun x0 ds => pop Z0 ds fun x1 ds => pop Z0 ds fun x2 ds => pop Z5 ds fun x3 ds => pop Z1 ds fun x4 ds => popN ds (some (x0, x1, x2, x3, x4))
def alter_Det_1.c (k : Nat) (ds : List Dat) : Option (Int × Int × Int × (List (List (List (List Int)))) × (List Int)) := pop Z0 ds fun x0 ds => pop Z0 ds fun x1 ds => pop Z0 ds fun x2 ds => pop Z0 ds fun x3 ds => pop Z5 ds fun x4 ds => pop Z1 ds fun x5 ds => popN ds (alter_Det_1.f k x0 x1 x2 x3 x4 x5)
def alter_Det_1.g : Nat → List Dat → Option (Int × Int × Int × (List (List (List (List Int)))) × (List Int))
 | 0, _ => none
 | k + 1, ds => alter_Det_1.c k ds
def alter_Det_1.env (k : Nat) : Nat → List SV → List Chunk → KT (Int × Int × Int × (List (List (List (List Int)))) × (List Int)) → Option (Int × Int × Int × (List (List (List (List Int)))) × (List Int)) := (envC 93 3 alter_ahead.ti alter_ahead.to (fun ds K => pop Z7 ds fun x0 ds => pop Z0 ds fun x1 ds => pop Z0 ds fun x2 ds => popN ds ((alter_ahead.f k x0 x1 x2).bind fun r => K (alter_ahead.rs r))) env0)
def alter_Det_1.t7 : Tm := ⟨[(0, .p Z0), (1, .p Z0), (2, .ptr 0 0), (6, .p Z0), (8, .p Z0)], [.box [.p Z0, .p Z0, .p Z5, .p Z1] 25]⟩
def alter_Det_1.c7 (k : Nat) (ds : List Dat) : Option (Int × Int × Int × (List (List (List (List Int)))) × (List Int)) := pop Z0 ds fun x0 ds => pop Z0 ds fun x1 ds => pop Z0 ds fun x2 ds => pop Z0 ds fun x3 ds => pop Z0 ds fun x4 ds => pop Z0 ds fun x5 ds => pop Z5 ds fun x6 ds => pop Z1 ds fun x7 ds => popN ds (alter_Det_1.l3 k x0 x1 x2 x3 x4 x5 x6 x7)
def alter_Det_1.t14 : Tm := ⟨[(0, .p Z0), (1, .p Z0), (2, .ptr 0 0), (6, .p Z0), (8, .p Z0)], [.box [.p Z0, .p Z0, .p Z5, .p Z1] 25]⟩
def alter_Det_1.c14 (k : Nat) (ds : List Dat) : Option (Int × Int × Int × (List (List (List (List Int)))) × (List Int)) := pop Z0 ds fun x0 ds => pop Z0 ds fun x1 ds => pop Z0 ds fun x2 ds => pop Z0 ds fun x3 ds => pop Z0 ds fun x4 ds => pop Z0 ds fun x5 ds => pop Z5 ds fun x6 ds => pop Z1 ds fun x7 ds => popN ds (alter_Det_1.j7 k x0 x1 x2 x3 x4 x5 x6 x7)
def alter_Det_1.tbl : List (Nat × Tm × (Nat → List Dat → Option (Int × Int × Int × (List (List (List (List Int)))) × (List Int)))) := [(7, alter_Det_1.t7, alter_Det_1.c7), (14, alter_Det_1.t14, alter_Det_1.c14)]
noncomputable abbrev alter_Det_1.R (k : Nat) := run T (alter_Det_1.env k) Try.f125.ntmps (cutE 1 alter_Det_1.tbl k) (finE 1 alter_Det_1.to alter_Det_1.out) (fnRes Try.f125) [7] 100000 true
theorem alter_Det_1.e7 (k : Nat) (x0 : Int) (x1 : Int) (x2 : Int) (x3 : Int) (x4 : Int) (x5 : Int) (x6 : (List (List (List (List Int))))) (x7 : (List Int)) : alter_Det_1.l3 (k + 1) x0 x1 x2 x3 x4 x5 x6 x7 = alter_Det_1.R k (start (stackOf 7 alter_Det_1.body)) (alter_Det_1.t7.fill [⟨Z0, x0⟩, ⟨Z0, x1⟩, ⟨Z0, x2⟩, ⟨Z0, x3⟩, ⟨Z0, x4⟩, ⟨Z0, x5⟩, ⟨Z5, x6⟩, ⟨Z1, x7⟩]) := by kernel_rfl
theorem alter_Det_1.s7 : stackAt 7 alter_Det_1.body [] = some (stackOf 7 alter_Det_1.body) := by kernel_rfl
theorem alter_Det_1.h7 (k : Nat) (ds : List Dat) (r : Int × Int × Int × (List (List (List (List Int)))) × (List Int)) (h : alter_Det_1.c7 k ds = some r) : ∃ k', k' < k ∧ ∃ s, stackAt 7 alter_Det_1.body [] = some s ∧ alter_Det_1.R k' (start s) (alter_Det_1.t7.fill ds) = some r := by
  unfold alter_Det_1.c7 at h
  iterate 8 (obtain ⟨_, _, e, g⟩ := pop_some h; clear h; subst e; have h := g; clear g)
  obtain ⟨rfl, g⟩ := popN_some h
  cases k with
  | zero => cases (show none = some r from g)
  | succ k => exact ⟨k, Nat.lt_succ_self k, _, alter_Det_1.s7, (alter_Det_1.e7 k ..).symm.trans g⟩
theorem alter_Det_1.e14 (k : Nat) (x0 : Int) (x1 : Int) (x2 : Int) (x3 : Int) (x4 : Int) (x5 : Int) (x6 : (List (List (List (List Int))))) (x7 : (List Int)) : alter_Det_1.j7 (k + 1) x0 x1 x2 x3 x4 x5 x6 x7 = alter_Det_1.R k (start (stackOf 14 alter_Det_1.body)) (alter_Det_1.t14.fill [⟨Z0, x0⟩, ⟨Z0, x1⟩, ⟨Z0, x2⟩, ⟨Z0, x3⟩, ⟨Z0, x4⟩, ⟨Z0, x5⟩, ⟨Z5, x6⟩, ⟨Z1, x7⟩]) := by kernel_rfl
theorem alter_Det_1.s14 : stackAt 14 alter_Det_1.body [] = some (stackOf 14 alter_Det_1.body) := by kernel_rfl
theorem alter_Det_1.h14 (k : Nat) (ds : List Dat) (r : Int × Int × Int × (List (List (List (List Int)))) × (List Int)) (h : alter_Det_1.c14 k ds = some r) : ∃ k', k' < k ∧ ∃ s, stackAt 14 alter_Det_1.body [] = some s ∧ alter_Det_1.R k' (start s) (alter_Det_1.t14.fill ds) = some r := by
  unfold alter_Det_1.c14 at h
  iterate 8 (obtain ⟨_, _, e, g⟩ := pop_some h; clear h; subst e; have h := g; clear g)
  obtain ⟨rfl, g⟩ := popN_some h
  cases k with
  | zero => cases (show none = some r from g)
  | succ k => exact ⟨k, Nat.lt_succ_self k, _, alter_Det_1.s14, (alter_Det_1.e14 k ..).symm.trans g⟩
theorem alter_Det_1.e (k : Nat) (x0 : Int) (x1 : Int) (x2 : Int) (x3 : Int) (x4 : (List (List (List (List Int))))) (x5 : (List Int)) : alter_Det_1.f k x0 x1 x2 x3 x4 x5 = alter_Det_1.R k ([.code alter_Det_1.body]) (alter_Det_1.ti.fill [⟨Z0, x0⟩, ⟨Z0, x1⟩, ⟨Z0, x2⟩, ⟨Z0, x3⟩, ⟨Z5, x4⟩, ⟨Z1, x5⟩]) := by kernel_rfl
theorem alter_Det_1.h (k : Nat) (ds : List Dat) (r : Int × Int × Int × (List (List (List (List Int)))) × (List Int)) (h : alter_Det_1.g k ds = some r) : ∃ k', k' < k ∧ alter_Det_1.R k' ([.code alter_Det_1.body]) (alter_Det_1.ti.fill ds) = some r := by
  cases k with
  | zero => cases (show none = some r from h)
  | succ k =>
  replace h : alter_Det_1.c k ds = some r := h
  unfold alter_Det_1.c at h
  iterate 6 (obtain ⟨_, _, e, g⟩ := pop_some h; clear h; subst e; have h := g; clear g)
  obtain ⟨rfl, g⟩ := popN_some h
  exact ⟨k, Nat.lt_succ_self k, (alter_Det_1.e k ..).symm.trans g⟩
theorem alter_Det_1.o (ds : List Dat) (r : Int × Int × Int × (List (List (List (List Int)))) × (List Int)) (h : alter_Det_1.out ds = some r) : ds = alter_Det_1.rs r := by
  unfold alter_Det_1.out at h
  iterate 5 (obtain ⟨_, _, e, g⟩ := pop_some h; clear h; subst e; have h := g; clear g)
  obtain ⟨rfl, g⟩ := popN_some h
  cases g
  rfl
theorem alter_Det_1.fn : FnOk Try.prog 125 Try.f125 alter_Det_1.body Try.f125.ntmps 3 (fnRes Try.f125) :=
  fnOk_of (by kernel_rfl) (by kernel_rfl) (by kernel_rfl) (by kernel_rfl)
theorem alter_Det_1.con' : ∀ k ds r, alter_Det_1.g k ds = some r → Con Try.prog 125 3 alter_Det_1.ti alter_Det_1.to ds (alter_Det_1.rs r) :=
  fun_ok (T := T) T_ok mixed alter_Det_1.fn (env := alter_Det_1.env) (tbl := alter_Det_1.tbl) (gOut := alter_Det_1.out) (nin := 1) (cuts := [7]) (fuel := 100000) rfl (by kernel_rfl) (by kernel_rfl) (by kernel_rfl) (fun x hx => by
    simp only [alter_Det_1.tbl, List.mem_cons, List.not_mem_nil, or_false] at hx
    rcases hx with rfl | rfl
    · exact alter_Det_1.h7
    · exact alter_Det_1.h14
) alter_Det_1.o alter_Det_1.h (fun k _ => by unfold alter_Det_1.env; exact (envC_ok (fun ds K r h => by
    iterate 3 (obtain ⟨_, _, e, g⟩ := pop_some h; clear h; subst e; have h := g; clear g)
    obtain ⟨rfl, g⟩ := popN_some h
    obtain ⟨r1, h1, h2⟩ := bind_some g
    exact ⟨_, h2, alter_ahead.con k _ h1⟩) env0_ok))
theorem alter_Det_1.con (k : Nat) {x0 : Int} {x1 : Int} {x2 : Int} {x3 : Int} {x4 : (List (List (List (List Int))))} {x5 : (List Int)} (r : Int × Int × Int × (List (List (List (List Int)))) × (List Int)) (h : alter_Det_1.f k x0 x1 x2 x3 x4 x5 = some r) : Con Try.prog 125 3 alter_Det_1.ti alter_Det_1.to [⟨Z0, x0⟩, ⟨Z0, x1⟩, ⟨Z0, x2⟩, ⟨Z0, x3⟩, ⟨Z5, x4⟩, ⟨Z1, x5⟩] (alter_Det_1.rs r) :=
  alter_Det_1.con' (k + 1) _ r (by show alter_Det_1.c k _ = some r; unfold alter_Det_1.c; simp only [pop_self, popN]; exact h)
def alter_Det_2.f (k : Nat) (good0 : Int) (x1_0 : Int) : Option (Int × Int) :=
 if 0 ≤ x1_0 then
 some (Go.IntKind.i64.wrap (↑(BitVec.ofInt Go.IntKind.i64.bits (good0.fdiv (2 ^ min x1_0.toNat Go.IntKind.i64.bits)) &&& BitVec.ofInt Go.IntKind.i64.bits 1).toNat : Int), x1_0)
 else none

noncomputable def alter_Det_2.body : Code := fnBody Try.f126
def alter_Det_2.ti : Tm := ⟨[(0, .p Z0), (1, .ptr 0 0)], [.box [.p Z0] 3]⟩
def alter_Det_2.to : Tm := ⟨[(0, .p Z0)], [.box [.p Z0] 3]⟩
def alter_Det_2.rs (r : Int × Int) : List Dat := [⟨Z0, r.1⟩, ⟨Z0, r.2⟩]
def alter_Det_2.out (ds : List Dat) : Option (Int × Int) := pop Z0 ds fun x0 ds => pop Z0 ds fun x1 ds => popN ds (some (x0, x1))
def alter_Det_2.c (k : Nat) (ds : List Dat) : Option (Int × Int) := pop Z0 ds fun x0 ds => pop Z0 ds fun x1 ds => popN ds (alter_Det_2.f k x0 x1)
def alter_Det_2.g : Nat → List Dat → Option (Int × Int)
 | 0, _ => none
 | k + 1, ds => alter_Det_2.c k ds
def alter_Det_2.env (k : Nat) : Nat → List SV → List Chunk → KT (Int × Int) → Option (Int × Int) := env0
def alter_Det_2.tbl : List (Nat × Tm × (Nat → List Dat → Option (Int × Int))) := []
noncomputable abbrev alter_Det_2.R (k : Nat) := run T (alter_Det_2.env k) Try.f126.ntmps (cutE 1 alter_Det_2.tbl k) (finE 1 alter_Det_2.to alter_Det_2.out) (fnRes Try.f126) [] 100000 true
theorem alter_Det_2.e (k : Nat) (x0 : Int) (x1 : Int) : alter_Det_2.f k x0 x1 = alter_Det_2.R k ([.code alter_Det_2.body]) (alter_Det_2.ti.fill [⟨Z0, x0⟩, ⟨Z0, x1⟩]) := by kernel_rfl
theorem alter_Det_2.h (k : Nat) (ds : List Dat) (r : Int × Int) (h : alter_Det_2.g k ds = some r) : ∃ k', k' < k ∧ alter_Det_2.R k' ([.code alter_Det_2.body]) (alter_Det_2.ti.fill ds) = some r := by
  cases k with
  | zero => cases (show none = some r from h)
  | succ k =>
  replace h : alter_Det_2.c k ds = some r := h
  unfold alter_Det_2.c at h
  iterate 2 (obtain ⟨_, _, e, g⟩ := pop_some h; clear h; subst e; have h := g; clear g)
  obtain ⟨rfl, g⟩ := popN_some h
  exact ⟨k, Nat.lt_succ_self k, (alter_Det_2.e k ..).symm.trans g⟩
theorem alter_Det_2.o (ds : List Dat) (r : Int × Int) (h : alter_Det_2.out ds = some r) : ds = alter_Det_2.rs r := by
  unfold alter_Det_2.out at h
  iterate 2 (obtain ⟨_, _, e, g⟩ := pop_some h; clear h; subst e; have h := g; clear g)
  obtain ⟨rfl, g⟩ := popN_some h
  cases g
  rfl
theorem alter_Det_2.fn : FnOk Try.prog 126 Try.f126 alter_Det_2.body Try.f126.ntmps 2 (fnRes Try.f126) :=
  fnOk_of (by kernel_rfl) (by kernel_rfl) (by kernel_rfl) (by kernel_rfl)
theorem alter_Det_2.con' : ∀ k ds r, alter_Det_2.g k ds = some r → Con Try.prog 126 2 alter_Det_2.ti alter_Det_2.to ds (alter_Det_2.rs r) :=
  fun_ok (T := T) T_ok mixed alter_Det_2.fn (env := alter_Det_2.env) (tbl := alter_Det_2.tbl) (gOut := alter_Det_2.out) (nin := 1) (cuts := []) (fuel := 100000) rfl (by kernel_rfl) (by kernel_rfl) (by kernel_rfl) (fun x hx => by simp [alter_Det_2.tbl] at hx) alter_Det_2.o alter_Det_2.h (fun k _ => by unfold alter_Det_2.env; exact env0_ok)
theorem alter_Det_2.con (k : Nat) {x0 : Int} {x1 : Int} (r : Int × Int) (h : alter_Det_2.f k x0 x1 = some r) : Con Try.prog 126 2 alter_Det_2.ti alter_Det_2.to [⟨Z0, x0⟩, ⟨Z0, x1⟩] (alter_Det_2.rs r) :=
  alter_Det_2.con' (k + 1) _ r (by show alter_Det_2.c k _ = some r; unfold alter_Det_2.c; simp only [pop_self, popN]; exact h)
mutual
def det_Explore_int__2.l4 : Nat → Int → Int → Int → Int → List (List (List (List (Int)))) → List (Int) → Int → Int → Int → Int → Int → List ((Int × Int)) → List (Int) → List (List (Int)) → List (Int) → List (List (Int)) → List (Int) → Option (Int × Int × Bool × Int × Int × List (List (List (List Int))) × List Int × Int × List (List Int) × List Int)
 | 0, _, _, _, _, _, _, _, _, _, _, _, _, _, _, _, _, _ => none
 | k + 1, letters0, most4, c_0_0, c_0_1, c_0_2, c_0_3, c_1_0, x10_0, x10_1, d12_0, d12_1, number13, l14, c_6, c_7, c_8, c_9 =>
  if (↑c_8.length : Int) < (↑l14.length : Int) then
   if 0 ≤ (↑c_8.length : Int) then
   if (↑c_8.length : Int) < (↑l14.length : Int) then
    if 0 ≤ letters0 then
     if letters0 ≤ letters0 then
      if letters0 * ((↑8 : Int) + 1) ≤ 281474976710656 then
       det_Explore_int__2.l8 k letters0 most4 (l14.getD (↑c_8.length : Int).toNat (Int.ofNat 0)) letters0 0 c_0_0 c_0_1 c_0_2 c_0_3 c_1_0 x10_0 x10_1 d12_0 d12_1 number13 l14 (List.replicate letters0.toNat (Int.ofNat 0)) c_6 c_7 c_8 c_9
       else none
      else none
     else none
    else none
   else none
  else
   some (d12_0, d12_1, true, c_0_0, c_0_1, c_0_2, c_0_3, c_1_0, c_8, c_9)
def det_Explore_int__2.l8 : Nat → Int → Int → Int → Int → Int → Int → Int → List (List (List (List (Int)))) → List (Int) → Int → Int → Int → Int → Int → List ((Int × Int)) → List (Int) → List (Int) → List (List (Int)) → List (Int) → List (List (Int)) → List (Int) → Option (Int × Int × Bool × Int × Int × List (List (List (List Int))) × List Int × Int × List (List Int) × List Int)
 | 0, _, _, _, _, _, _, _, _, _, _, _, _, _, _, _, _, _, _, _, _, _ => none
 | k + 1, letters0, most4, k15, x42, x43, c_0_0, c_0_1, c_0_2, c_0_3, c_1_0, x10_0, x10_1, d12_0, d12_1, number13, l14, row16, c_7, c_8, c_9, c_10 =>
  if x43 < x42 then
   (alter_Det_1.f k k15 x43 c_0_0 c_0_1 c_0_2 c_0_3).bind fun r_3 =>
    if mhas (Go.Proofs.YtfkilmmldjajmaaSx.Ty.int Go.IntKind.i64) (Go.Proofs.YtfkilmmldjajmaaSx.Ty.int Go.IntKind.i64) number13 r_3.fst = true then
     det_Explore_int__2.j18 k letters0 most4 k15 x43 (mget (Go.Proofs.YtfkilmmldjajmaaSx.Ty.int Go.IntKind.i64) (Go.Proofs.YtfkilmmldjajmaaSx.Ty.int Go.IntKind.i64) number13 r_3.fst) x42 x43 r_3.snd.fst r_3.snd.snd.fst r_3.snd.snd.snd.fst r_3.snd.snd.snd.snd c_1_0 x10_0 x10_1 d12_0 d12_1 number13 l14 row16 c_7 c_8 c_9 c_10
    else
     if (↑l14.length : Int) = most4 then
      some (0, 0, false, r_3.snd.fst, r_3.snd.snd.fst, r_3.snd.snd.snd.fst, r_3.snd.snd.snd.snd, c_1_0, [], [])
     else
      if fitsIn (l14 ++ [r_3.fst]).length 8 = true then
      det_Explore_int__2.j18 k letters0 most4 k15 x43 ((↑l14.length : Int)) x42 x43 r_3.snd.fst r_3.snd.snd.fst r_3.snd.snd.snd.fst r_3.snd.snd.snd.snd c_1_0 x10_0 x10_1 d12_0 d12_1 (mput (Go.Proofs.YtfkilmmldjajmaaSx.Ty.int Go.IntKind.i64) (Go.Proofs.YtfkilmmldjajmaaSx.Ty.int Go.IntKind.i64) number13 r_3.fst (↑l14.length : Int)) (l14 ++ [r_3.fst]) row16 c_7 c_8 c_9 c_10
      else none
  else
   if fitsIn (c_9 ++ [row16]).length 24 = true then
   (alter_Det_2.f k k15 c_1_0).bind fun r_4 =>
     if fitsIn (c_10 ++ [r_4.fst]).length 8 = true then
     det_Explore_int__2.l4 k letters0 most4 c_0_0 c_0_1 c_0_2 c_0_3 r_4.snd x10_0 x10_1 d12_0 d12_1 number13 l14 c_7 c_8 (c_9 ++ [row16]) (c_10 ++ [r_4.fst])
     else none
   else none
def det_Explore_int__2.j18 : Nat → Int → Int → Int → Int → Int → Int → Int → Int → Int → List (List (List (List (Int)))) → List (Int) → Int → Int → Int → Int → Int → List ((Int × Int)) → List (Int) → List (Int) → List (List (Int)) → List (Int) → List (List (Int)) → List (Int) → Option (Int × Int × Bool × Int × Int × List (List (List (List Int))) × List Int × Int × List (List Int) × List Int)
 | 0, _, _, _, _, _, _, _, _, _, _, _, _, _, _, _, _, _, _, _, _, _, _, _ => none
 | k + 1, letters0, most4, k15, a17, n19, x42, x43, c_0_0, c_0_1, c_0_2, c_0_3, c_1_0, x10_0, x10_1, d12_0, d12_1, number13, l14, row16, c_7, c_8, c_9, c_10 =>
  if 0 ≤ a17 then
  if a17 < (↑row16.length : Int) then
   det_Explore_int__2.l8 k letters0 most4 k15 x42 (Go.IntKind.i64.wrap (x43 + 1)) c_0_0 c_0_1 c_0_2 c_0_3 c_1_0 x10_0 x10_1 d12_0 d12_1 number13 l14 (row16.set a17.toNat n19) c_7 c_8 c_9 c_10
   else none
  else none
end
def det_Explore_int__2.f (k : Nat) (letters0 : Int) (first1 : Int) (most4 : Int) (c_0_0 : Int) (c_0_1 : Int) (c_0_2 : List (List (List (List (Int))))) (c_0_3 : List (Int)) (c_1_0 : Int) : Option (Int × Int × Bool × Int × Int × List (List (List (List Int))) × List Int × Int × List (List Int) × List Int) :=
 det_Explore_int__2.l4 k letters0 most4 c_0_0 c_0_1 c_0_2 c_0_3 c_1_0 0 0 letters0 0 (mput (Go.Proofs.YtfkilmmldjajmaaSx.Ty.int Go.IntKind.i64) (Go.Proofs.YtfkilmmldjajmaaSx.Ty.int Go.IntKind.i64) [] first1 (Int.ofNat 0)) [first1] [] [] [] []

noncomputable def det_Explore_int__2.body : Code := fnBody Try.f124
def det_Explore_int__2.ti : Tm := ⟨[(0, .p Z0), (1, .p Z0), (2, .fn 125 [.ptr 0 0]), (3, .fn 126 [.ptr 1 0]), (4, .p Z0)], [.box [.p Z0, .p Z0, .p Z5, .p Z1] 25, .box [.p Z0] 3]⟩
def det_Explore_int__2.to : Tm := ⟨[(0, .agg [.p Z0, .p Z0, .own 2, .own 3]), (1, .p .bool)], [.box [.p Z0, .p Z0, .p Z5, .p Z1] 25, .box [.p Z0] 3, .own Z1, .own Z0]⟩
def det_Explore_int__2.rs (r : Int × Int × Bool × Int × Int × (List (List (List (List Int)))) × (List Int) × Int × (List (List Int)) × (List Int)) : List Dat := [⟨Z0, r.1⟩, ⟨Z0, r.2.1⟩, ⟨.bool, r.2.2.1⟩, ⟨Z0, r.2.2.2.1⟩, ⟨Z0, r.2.2.2.2.1⟩, ⟨Z5, r.2.2.2.2.2.1⟩, ⟨Z1, r.2.2.2.2.2.2.1⟩, ⟨Z0, r.2.2.2.2.2.2.2.1⟩, ⟨Z3, r.2.2.2.2.2.2.2.2.1⟩, ⟨Z1, r.2.2.2.2.2.2.2.2.2⟩]
def det_Explore_int__2.out (ds : List Dat) : Option (Int × Int × Bool × Int × Int × (List (List (List (List Int)))) × (List Int) × Int × (List (List Int)) × (List Int)) := pop Z0 ds fun x0 ds => pop Z0 ds fun x1 ds => pop .bool ds fun x2 ds => pop Z0 ds fun x3 ds => pop Z0 ds fun x4 ds => pop Z5 ds fun x5 ds => pop Z1 ds fun x6 ds => pop Z0 ds fun x7 ds => pop Z3 ds fun x8 ds => pop Z1 ds fun x9 ds => popN ds (some (x0, x1, x2, x3, x4, x5, x6, x7, x8, x9))
def det_Explore_int__2.c (k : Nat) (ds : List Dat) : Option (Int × Int × Bool × Int × Int × (List (List (List (List Int)))) × (List Int) × Int × (List (List Int)) × (List Int)) := pop Z0 ds fun x0 ds => pop Z0 ds fun x1 ds => pop Z0 ds fun x2 ds => pop Z0 ds fun x3 ds => pop Z0 ds fun x4 ds => pop Z5 ds fun x5 ds => pop Z1 ds fun x6 ds => pop Z0 ds fun x7 ds => popN ds (det_Explore_int__2.f k x0 x1 x2 x3 x4 x5 x6 x7)
def det_Explore_int__2.g : Nat → List Dat → Option (Int × Int × Bool × Int × Int × (List (List (List (List Int)))) × (List Int) × Int × (List (List Int)) × (List Int))
 | 0, _ => none
 | k + 1, ds => det_Explore_int__2.c k ds
def det_Explore_int__2.env (k : Nat) : Nat → List SV → List Chunk → KT (Int × Int × Bool × Int × Int × (List (List (List (List Int)))) × (List Int) × Int × (List (List Int)) × (List Int)) → Option (Int × Int × Bool × Int × Int × (List (List (List (List Int)))) × (List Int) × Int × (List (List Int)) × (List Int)) := (envC 125 3 alter_Det_1.ti alter_Det_1.to (fun ds K => pop Z0 ds fun x0 ds => pop Z0 ds fun x1 ds => pop Z0 ds fun x2 ds => pop Z0 ds fun x3 ds => pop Z5 ds fun x4 ds => pop Z1 ds fun x5 ds => popN ds ((alter_Det_1.f k x0 x1 x2 x3 x4 x5).bind fun r => K (alter_Det_1.rs r))) (envC 126 2 alter_Det_2.ti alter_Det_2.to (fun ds K => pop Z0 ds fun x0 ds => pop Z0 ds fun x1 ds => popN ds ((alter_Det_2.f k x0 x1).bind fun r => K (alter_Det_2.rs r))) env0))
def det_Explore_int__2.t9 : Tm := ⟨[(0, .p Z0), (2, .fn 125 [.ptr 0 0]), (3, .fn 126 [.ptr 1 0]), (4, .p Z0), (10, .ptr 2 0), (12, .ptr 3 0), (13, .map 4), (14, .own 5)], [.box [.p Z0, .p Z0, .p Z5, .p Z1] 25, .box [.p Z0] 3, .box [.p Z0, .p Z0, .own 6, .own 7] 60, .box [.p Z0, .p Z0, .own 8, .own 9] 60, .map Z0 Z0, .own Z0, .own Z1, .own Z0, .own Z1, .own Z0]⟩
def det_Explore_int__2.c9 (k : Nat) (ds : List Dat) : Option (Int × Int × Bool × Int × Int × (List (List (List (List Int)))) × (List Int) × Int × (List (List Int)) × (List Int)) := pop Z0 ds fun x0 ds => pop Z0 ds fun x1 ds => pop Z0 ds fun x2 ds => pop Z0 ds fun x3 ds => pop Z5 ds fun x4 ds => pop Z1 ds fun x5 ds => pop Z0 ds fun x6 ds => pop Z0 ds fun x7 ds => pop Z0 ds fun x8 ds => pop Z0 ds fun x9 ds => pop Z0 ds fun x10 ds => pop (.slice (.pair Z0 Z0)) ds fun x11 ds => pop Z1 ds fun x12 ds => pop Z3 ds fun x13 ds => pop Z1 ds fun x14 ds => pop Z3 ds fun x15 ds => pop Z1 ds fun x16 ds => popN ds (det_Explore_int__2.l4 k x0 x1 x2 x3 x4 x5 x6 x7 x8 x9 x10 x11 x12 x13 x14 x15 x16)
def det_Explore_int__2.t17 : Tm := ⟨[(0, .p Z0), (2, .fn 125 [.ptr 0 0]), (3, .fn 126 [.ptr 1 0]), (4, .p Z0), (10, .ptr 2 0), (12, .ptr 3 0), (13, .map 4), (14, .own 5), (15, .p Z0), (16, .own 6), (42, .p Z0), (43, .p Z0)], [.box [.p Z0, .p Z0, .p Z5, .p Z1] 25, .box [.p Z0] 3, .box [.p Z0, .p Z0, .own 7, .own 8] 60, .box [.p Z0, .p Z0, .own 9, .own 10] 60, .map Z0 Z0, .own Z0, .own Z0, .own Z1, .own Z0, .own Z1, .own Z0]⟩
def det_Explore_int__2.c17 (k : Nat) (ds : List Dat) : Option (Int × Int × Bool × Int × Int × (List (List (List (List Int)))) × (List Int) × Int × (List (List Int)) × (List Int)) := pop Z0 ds fun x0 ds => pop Z0 ds fun x1 ds => pop Z0 ds fun x2 ds => pop Z0 ds fun x3 ds => pop Z0 ds fun x4 ds => pop Z0 ds fun x5 ds => pop Z0 ds fun x6 ds => pop Z5 ds fun x7 ds => pop Z1 ds fun x8 ds => pop Z0 ds fun x9 ds => pop Z0 ds fun x10 ds => pop Z0 ds fun x11 ds => pop Z0 ds fun x12 ds => pop Z0 ds fun x13 ds => pop (.slice (.pair Z0 Z0)) ds fun x14 ds => pop Z1 ds fun x15 ds => pop Z1 ds fun x16 ds => pop Z3 ds fun x17 ds => pop Z1 ds fun x18 ds => pop Z3 ds fun x19 ds => pop Z1 ds fun x20 ds => popN ds (det_Explore_int__2.l8 k x0 x1 x2 x3 x4 x5 x6 x7 x8 x9 x10 x11 x12 x13 x14 x15 x16 x17 x18 x19 x20)
def det_Explore_int__2.t36 : Tm := ⟨[(0, .p Z0), (2, .fn 125 [.ptr 0 0]), (3, .fn 126 [.ptr 1 0]), (4, .p Z0), (10, .ptr 2 0), (12, .ptr 3 0), (13, .map 4), (14, .own 5), (15, .p Z0), (16, .own 6), (17, .p Z0), (19, .p Z0), (42, .p Z0), (43, .p Z0)], [.box [.p Z0, .p Z0, .p Z5, .p Z1] 25, .box [.p Z0] 3, .box [.p Z0, .p Z0, .own 7, .own 8] 60, .box [.p Z0, .p Z0, .own 9, .own 10] 60, .map Z0 Z0, .own Z0, .own Z0, .own Z1, .own Z0, .own Z1, .own Z0]⟩
def det_Explore_int__2.c36 (k : Nat) (ds : List Dat) : Option (Int × Int × Bool × Int × Int × (List (List (List (List Int)))) × (List Int) × Int × (List (List Int)) × (List Int)) := pop Z0 ds fun x0 ds => pop Z0 ds fun x1 ds => pop Z0 ds fun x2 ds => pop Z0 ds fun x3 ds => pop Z0 ds fun x4 ds => pop Z0 ds fun x5 ds => pop Z0 ds fun x6 ds => pop Z0 ds fun x7 ds => pop Z0 ds fun x8 ds => pop Z5 ds fun x9 ds => pop Z1 ds fun x10 ds => pop Z0 ds fun x11 ds => pop Z0 ds fun x12 ds => pop Z0 ds fun x13 ds => pop Z0 ds fun x14 ds => pop Z0 ds fun x15 ds => pop (.slice (.pair Z0 Z0)) ds fun x16 ds => pop Z1 ds fun x17 ds => pop Z1 ds fun x18 ds => pop Z3 ds fun x19 ds => pop Z1 ds fun x20 ds => pop Z3 ds fun x21 ds => pop Z1 ds fun x22 ds => popN ds (det_Explore_int__2.j18 k x0 x1 x2 x3 x4 x5 x6 x7 x8 x9 x10 x11 x12 x13 x14 x15 x16 x17 x18 x19 x20 x21 x22)
def det_Explore_int__2.tbl : List (Nat × Tm × (Nat → List Dat → Option (Int × Int × Bool × Int × Int × (List (List (List (List Int)))) × (List Int) × Int × (List (List Int)) × (List Int)))) := [(9, det_Explore_int__2.t9, det_Explore_int__2.c9), (17, det_Explore_int__2.t17, det_Explore_int__2.c17), (36, det_Explore_int__2.t36, det_Explore_int__2.c36)]
noncomputable abbrev det_Explore_int__2.R (k : Nat) := run T (det_Explore_int__2.env k) Try.f124.ntmps (cutE 2 det_Explore_int__2.tbl k) (finE 2 det_Explore_int__2.to det_Explore_int__2.out) (fnRes Try.f124) [18] 100000 true
theorem det_Explore_int__2.e9 (k : Nat) (x0 : Int) (x1 : Int) (x2 : Int) (x3 : Int) (x4 : (List (List (List (List Int))))) (x5 : (List Int)) (x6 : Int) (x7 : Int) (x8 : Int) (x9 : Int) (x10 : Int) (x11 : (List (Int × Int))) (x12 : (List Int)) (x13 : (List (List Int))) (x14 : (List Int)) (x15 : (List (List Int))) (x16 : (List Int)) : det_Explore_int__2.l4 (k + 1) x0 x1 x2 x3 x4 x5 x6 x7 x8 x9 x10 x11 x12 x13 x14 x15 x16 = det_Explore_int__2.R k (start (stackOf 9 det_Explore_int__2.body)) (det_Explore_int__2.t9.fill [⟨Z0, x0⟩, ⟨Z0, x1⟩, ⟨Z0, x2⟩, ⟨Z0, x3⟩, ⟨Z5, x4⟩, ⟨Z1, x5⟩, ⟨Z0, x6⟩, ⟨Z0, x7⟩, ⟨Z0, x8⟩, ⟨Z0, x9⟩, ⟨Z0, x10⟩, ⟨(.slice (.pair Z0 Z0)), x11⟩, ⟨Z1, x12⟩, ⟨Z3, x13⟩, ⟨Z1, x14⟩, ⟨Z3, x15⟩, ⟨Z1, x16⟩]) := by kernel_rfl
theorem det_Explore_int__2.s9 : stackAt 9 det_Explore_int__2.body [] = some (stackOf 9 det_Explore_int__2.body) := by kernel_rfl
theorem det_Explore_int__2.h9 (k : Nat) (ds : List Dat) (r : Int × Int × Bool × Int × Int × (List (List (List (List Int)))) × (List Int) × Int × (List (List Int)) × (List Int)) (h : det_Explore_int__2.c9 k ds = some r) : ∃ k', k' < k ∧ ∃ s, stackAt 9 det_Explore_int__2.body [] = some s ∧ det_Explore_int__2.R k' (start s) (det_Explore_int__2.t9.fill ds) = some r := by
  unfold det_Explore_int__2.c9 at h
  iterate 17 (obtain ⟨_, _, e, g⟩ := pop_some h; clear h; subst e; have h := g; clear g)
  obtain ⟨rfl, g⟩ := popN_some h
  cases k with
  | zero => cases (show none = some r from g)
  | succ k => exact ⟨k, Nat.lt_succ_self k, _, det_Explore_int__2.s9, (det_Explore_int__2.e9 k ..).symm.trans g⟩
theorem det_Explore_int__2.e17 (k : Nat) (x0 : Int) (x1 : Int) (x2 : Int) (x3 : Int) (x4 : Int) (x5 : Int) (x6 : Int) (x7 : (List (List (List (List Int))))) (x8 : (List Int)) (x9 : Int) (x10 : Int) (x11 : Int) (x12 : Int) (x13 : Int) (x14 : (List (Int × Int))) (x15 : (List Int)) (x16 : (List Int)) (x17 : (List (List Int))) (x18 : (List Int)) (x19 : (List (List Int))) (x20 : (List Int)) : det_Explore_int__2.l8 (k + 1) x0 x1 x2 x3 x4 x5 x6 x7 x8 x9 x10 x11 x12 x13 x14 x15 x16 x17 x18 x19 x20 = det_Explore_int__2.R k (start (stackOf 17 det_Explore_int__2.body)) (det_Explore_int__2.t17.fill [⟨Z0, x0⟩, ⟨Z0, x1⟩, ⟨Z0, x2⟩, ⟨Z0, x3⟩, ⟨Z0, x4⟩, ⟨Z0, x5⟩, ⟨Z0, x6⟩, ⟨Z5, x7⟩, ⟨Z1, x8⟩, ⟨Z0, x9⟩, ⟨Z0, x10⟩, ⟨Z0, x11⟩, ⟨Z0, x12⟩, ⟨Z0, x13⟩, ⟨(.slice (.pair Z0 Z0)), x14⟩, ⟨Z1, x15⟩, ⟨Z1, x16⟩, ⟨Z3, x17⟩, ⟨Z1, x18⟩, ⟨Z3, x19⟩, ⟨Z1, x20⟩]) := by kernel_rfl
theorem det_Explore_int__2.s17 : stackAt 17 det_Explore_int__2.body [] = some (stackOf 17 det_Explore_int__2.body) := by kernel_rfl
theorem det_Explore_int__2.h17 (k : Nat) (ds : List Dat) (r : Int × Int × Bool × Int × Int × (List (List (List (List Int)))) × (List Int) × Int × (List (List Int)) × (List Int)) (h : det_Explore_int__2.c17 k ds = some r) : ∃ k', k' < k ∧ ∃ s, stackAt 17 det_Explore_int__2.body [] = some s ∧ det_Explore_int__2.R k' (start s) (det_Explore_int__2.t17.fill ds) = some r := by
  unfold det_Explore_int__2.c17 at h
  iterate 21 (obtain ⟨_, _, e, g⟩ := pop_some h; clear h; subst e; have h := g; clear g)
  obtain ⟨rfl, g⟩ := popN_some h
  cases k with
  | zero => cases (show none = some r from g)
  | succ k => exact ⟨k, Nat.lt_succ_self k, _, det_Explore_int__2.s17, (det_Explore_int__2.e17 k ..).symm.trans g⟩
theorem det_Explore_int__2.e36 (k : Nat) (x0 : Int) (x1 : Int) (x2 : Int) (x3 : Int) (x4 : Int) (x5 : Int) (x6 : Int) (x7 : Int) (x8 : Int) (x9 : (List (List (List (List Int))))) (x10 : (List Int)) (x11 : Int) (x12 : Int) (x13 : Int) (x14 : Int) (x15 : Int) (x16 : (List (Int × Int))) (x17 : (List Int)) (x18 : (List Int)) (x19 : (List (List Int))) (x20 : (List Int)) (x21 : (List (List Int))) (x22 : (List Int)) : det_Explore_int__2.j18 (k + 1) x0 x1 x2 x3 x4 x5 x6 x7 x8 x9 x10 x11 x12 x13 x14 x15 x16 x17 x18 x19 x20 x21 x22 = det_Explore_int__2.R k (start (stackOf 36 det_Explore_int__2.body)) (det_Explore_int__2.t36.fill [⟨Z0, x0⟩, ⟨Z0, x1⟩, ⟨Z0, x2⟩, ⟨Z0, x3⟩, ⟨Z0, x4⟩, ⟨Z0, x5⟩, ⟨Z0, x6⟩, ⟨Z0, x7⟩, ⟨Z0, x8⟩, ⟨Z5, x9⟩, ⟨Z1, x10⟩, ⟨Z0, x11⟩, ⟨Z0, x12⟩, ⟨Z0, x13⟩, ⟨Z0, x14⟩, ⟨Z0, x15⟩, ⟨(.slice (.pair Z0 Z0)), x16⟩, ⟨Z1, x17⟩, ⟨Z1, x18⟩, ⟨Z3, x19⟩, ⟨Z1, x20⟩, ⟨Z3, x21⟩, ⟨Z1, x22⟩]) := by kernel_rfl
theorem det_Explore_int__2.s36 : stackAt 36 det_Explore_int__2.body [] = some (stackOf 36 det_Explore_int__2.body) := by kernel_rfl
theorem det_Explore_int__2.h36 (k : Nat) (ds : List Dat) (r : Int × Int × Bool × Int × Int × (List (List (List (List Int)))) × (List Int) × Int × (List (List Int)) × (List Int)) (h : det_Explore_int__2.c36 k ds = some r) : ∃ k', k' < k ∧ ∃ s, stackAt 36 det_Explore_int__2.body [] = some s ∧ det_Explore_int__2.R k' (start s) (det_Explore_int__2.t36.fill ds) = some r := by
  unfold det_Explore_int__2.c36 at h
  iterate 23 (obtain ⟨_, _, e, g⟩ := pop_some h; clear h; subst e; have h := g; clear g)
  obtain ⟨rfl, g⟩ := popN_some h
  cases k with
  | zero => cases (show none = some r from g)
  | succ k => exact ⟨k, Nat.lt_succ_self k, _, det_Explore_int__2.s36, (det_Explore_int__2.e36 k ..).symm.trans g⟩
theorem det_Explore_int__2.e (k : Nat) (x0 : Int) (x1 : Int) (x2 : Int) (x3 : Int) (x4 : Int) (x5 : (List (List (List (List Int))))) (x6 : (List Int)) (x7 : Int) : det_Explore_int__2.f k x0 x1 x2 x3 x4 x5 x6 x7 = det_Explore_int__2.R k ([.code det_Explore_int__2.body]) (det_Explore_int__2.ti.fill [⟨Z0, x0⟩, ⟨Z0, x1⟩, ⟨Z0, x2⟩, ⟨Z0, x3⟩, ⟨Z0, x4⟩, ⟨Z5, x5⟩, ⟨Z1, x6⟩, ⟨Z0, x7⟩]) := by kernel_rfl
theorem det_Explore_int__2.h (k : Nat) (ds : List Dat) (r : Int × Int × Bool × Int × Int × (List (List (List (List Int)))) × (List Int) × Int × (List (List Int)) × (List Int)) (h : det_Explore_int__2.g k ds = some r) : ∃ k', k' < k ∧ det_Explore_int__2.R k' ([.code det_Explore_int__2.body]) (det_Explore_int__2.ti.fill ds) = some r := by
  cases k with
  | zero => cases (show none = some r from h)
  | succ k =>
  replace h : det_Explore_int__2.c k ds = some r := h
  unfold det_Explore_int__2.c at h
  iterate 8 (obtain ⟨_, _, e, g⟩ := pop_some h; clear h; subst e; have h := g; clear g)
  obtain ⟨rfl, g⟩ := popN_some h
  exact ⟨k, Nat.lt_succ_self k, (det_Explore_int__2.e k ..).symm.trans g⟩
theorem det_Explore_int__2.o (ds : List Dat) (r : Int × Int × Bool × Int × Int × (List (List (List (List Int)))) × (List Int) × Int × (List (List Int)) × (List Int)) (h : det_Explore_int__2.out ds = some r) : ds = det_Explore_int__2.rs r := by
  unfold det_Explore_int__2.out at h
  iterate 10 (obtain ⟨_, _, e, g⟩ := pop_some h; clear h; subst e; have h := g; clear g)
  obtain ⟨rfl, g⟩ := popN_some h
  cases g
  rfl
theorem det_Explore_int__2.fn : FnOk Try.prog 124 Try.f124 det_Explore_int__2.body Try.f124.ntmps 5 (fnRes Try.f124) :=
  fnOk_of (by kernel_rfl) (by kernel_rfl) (by kernel_rfl) (by kernel_rfl)
theorem det_Explore_int__2.con' : ∀ k ds r, det_Explore_int__2.g k ds = some r → Con Try.prog 124 5 det_Explore_int__2.ti det_Explore_int__2.to ds (det_Explore_int__2.rs r) :=
  fun_ok (T := T) T_ok mixed det_Explore_int__2.fn (env := det_Explore_int__2.env) (tbl := det_Explore_int__2.tbl) (gOut := det_Explore_int__2.out) (nin := 2) (cuts := [18]) (fuel := 100000) rfl (by kernel_rfl) (by kernel_rfl) (by kernel_rfl) (fun x hx => by
    simp only [det_Explore_int__2.tbl, List.mem_cons, List.not_mem_nil, or_false] at hx
    rcases hx with rfl | rfl | rfl
    · exact det_Explore_int__2.h9
    · exact det_Explore_int__2.h17
    · exact det_Explore_int__2.h36
) det_Explore_int__2.o det_Explore_int__2.h (fun k _ => by unfold det_Explore_int__2.env; exact (envC_ok (fun ds K r h => by
    iterate 6 (obtain ⟨_, _, e, g⟩ := pop_some h; clear h; subst e; have h := g; clear g)
    obtain ⟨rfl, g⟩ := popN_some h
    obtain ⟨r1, h1, h2⟩ := bind_some g
    exact ⟨_, h2, alter_Det_1.con k _ h1⟩) (envC_ok (fun ds K r h => by
    iterate 2 (obtain ⟨_, _, e, g⟩ := pop_some h; clear h; subst e; have h := g; clear g)
    obtain ⟨rfl, g⟩ := popN_some h
    obtain ⟨r1, h1, h2⟩ := bind_some g
    exact ⟨_, h2, alter_Det_2.con k _ h1⟩) env0_ok)))
theorem det_Explore_int__2.con (k : Nat) {x0 : Int} {x1 : Int} {x2 : Int} {x3 : Int} {x4 : Int} {x5 : (List (List (List (List Int))))} {x6 : (List Int)} {x7 : Int} (r : Int × Int × Bool × Int × Int × (List (List (List (List Int)))) × (List Int) × Int × (List (List Int)) × (List Int)) (h : det_Explore_int__2.f k x0 x1 x2 x3 x4 x5 x6 x7 = some r) : Con Try.prog 124 5 det_Explore_int__2.ti det_Explore_int__2.to [⟨Z0, x0⟩, ⟨Z0, x1⟩, ⟨Z0, x2⟩, ⟨Z0, x3⟩, ⟨Z0, x4⟩, ⟨Z5, x5⟩, ⟨Z1, x6⟩, ⟨Z0, x7⟩] (det_Explore_int__2.rs r) :=
  det_Explore_int__2.con' (k + 1) _ r (by show det_Explore_int__2.c k _ = some r; unfold det_Explore_int__2.c; simp only [pop_self, popN]; exact h)
mutual
def evermoretop_sameWords.l4 : Nat → List (Int) → List (Int) → Int → Option (Bool)
 | 0, _, _, _ => none
 | k + 1, a0, b1, i5 =>
  if i5 < (↑a0.length : Int) then
   if 0 ≤ i5 then
   if i5 < (↑a0.length : Int) then
    if 0 ≤ i5 then
     if i5 < (↑b1.length : Int) then
      if rd (Int.ofNat 0) a0 i5 = rd (Int.ofNat 0) b1 i5 then
        evermoretop_sameWords.l4 k a0 b1 (Go.IntKind.i64.wrap (i5 + 1))
       else
        some (false)
      else none
     else none
    else none
   else none
  else
   some (true)
end
def evermoretop_sameWords.f (k : Nat) (a0 : List (Int)) (b1 : List (Int)) : Option (Bool) :=
 if (↑a0.length : Int) = (↑b1.length : Int) then
  evermoretop_sameWords.l4 k a0 b1 0
 else
  some (false)

noncomputable def evermoretop_sameWords.body : Code := fnBody Try.f127
def evermoretop_sameWords.ti : Tm := ⟨[(0, .p Z1), (1, .p Z1)], []⟩
def evermoretop_sameWords.to : Tm := ⟨[(0, .p .bool)], []⟩
def evermoretop_sameWords.rs (r : Bool) : List Dat := [⟨.bool, r⟩]
def evermoretop_sameWords.out (ds : List Dat) : Option (Bool) := pop .bool ds fun x0 ds => popN ds (some (x0))
def evermoretop_sameWords.c (k : Nat) (ds : List Dat) : Option (Bool) := pop Z1 ds fun x0 ds => pop Z1 ds fun x1 ds => popN ds (evermoretop_sameWords.f k x0 x1)
def evermoretop_sameWords.g : Nat → List Dat → Option (Bool)
 | 0, _ => none
 | k + 1, ds => evermoretop_sameWords.c k ds
def evermoretop_sameWords.env (k : Nat) : Nat → List SV → List Chunk → KT (Bool) → Option (Bool) := env0
def evermoretop_sameWords.t9 : Tm := ⟨[(0, .p Z1), (1, .p Z1), (5, .p Z0)], []⟩
def evermoretop_sameWords.c9 (k : Nat) (ds : List Dat) : Option (Bool) := pop Z1 ds fun x0 ds => pop Z1 ds fun x1 ds => pop Z0 ds fun x2 ds => popN ds (evermoretop_sameWords.l4 k x0 x1 x2)
def evermoretop_sameWords.tbl : List (Nat × Tm × (Nat → List Dat → Option (Bool))) := [(9, evermoretop_sameWords.t9, evermoretop_sameWords.c9)]
noncomputable abbrev evermoretop_sameWords.R (k : Nat) := run T (evermoretop_sameWords.env k) Try.f127.ntmps (cutE 0 evermoretop_sameWords.tbl k) (finE 0 evermoretop_sameWords.to evermoretop_sameWords.out) (fnRes Try.f127) [] 100000 true
theorem evermoretop_sameWords.e9 (k : Nat) (x0 : (List Int)) (x1 : (List Int)) (x2 : Int) : evermoretop_sameWords.l4 (k + 1) x0 x1 x2 = evermoretop_sameWords.R k (start (stackOf 9 evermoretop_sameWords.body)) (evermoretop_sameWords.t9.fill [⟨Z1, x0⟩, ⟨Z1, x1⟩, ⟨Z0, x2⟩]) := by kernel_rfl
theorem evermoretop_sameWords.s9 : stackAt 9 evermoretop_sameWords.body [] = some (stackOf 9 evermoretop_sameWords.body) := by kernel_rfl
theorem evermoretop_sameWords.h9 (k : Nat) (ds : List Dat) (r : Bool) (h : evermoretop_sameWords.c9 k ds = some r) : ∃ k', k' < k ∧ ∃ s, stackAt 9 evermoretop_sameWords.body [] = some s ∧ evermoretop_sameWords.R k' (start s) (evermoretop_sameWords.t9.fill ds) = some r := by
  unfold evermoretop_sameWords.c9 at h
  iterate 3 (obtain ⟨_, _, e, g⟩ := pop_some h; clear h; subst e; have h := g; clear g)
  obtain ⟨rfl, g⟩ := popN_some h
  cases k with
  | zero => cases (show none = some r from g)
  | succ k => exact ⟨k, Nat.lt_succ_self k, _, evermoretop_sameWords.s9, (evermoretop_sameWords.e9 k ..).symm.trans g⟩
theorem evermoretop_sameWords.e (k : Nat) (x0 : (List Int)) (x1 : (List Int)) : evermoretop_sameWords.f k x0 x1 = evermoretop_sameWords.R k ([.code evermoretop_sameWords.body]) (evermoretop_sameWords.ti.fill [⟨Z1, x0⟩, ⟨Z1, x1⟩]) := by kernel_rfl
theorem evermoretop_sameWords.h (k : Nat) (ds : List Dat) (r : Bool) (h : evermoretop_sameWords.g k ds = some r) : ∃ k', k' < k ∧ evermoretop_sameWords.R k' ([.code evermoretop_sameWords.body]) (evermoretop_sameWords.ti.fill ds) = some r := by
  cases k with
  | zero => cases (show none = some r from h)
  | succ k =>
  replace h : evermoretop_sameWords.c k ds = some r := h
  unfold evermoretop_sameWords.c at h
  iterate 2 (obtain ⟨_, _, e, g⟩ := pop_some h; clear h; subst e; have h := g; clear g)
  obtain ⟨rfl, g⟩ := popN_some h
  exact ⟨k, Nat.lt_succ_self k, (evermoretop_sameWords.e k ..).symm.trans g⟩
theorem evermoretop_sameWords.o (ds : List Dat) (r : Bool) (h : evermoretop_sameWords.out ds = some r) : ds = evermoretop_sameWords.rs r := by
  unfold evermoretop_sameWords.out at h
  obtain ⟨x0, d0, rfl, h0⟩ := pop_some h
  obtain ⟨rfl, g⟩ := popN_some h0
  cases g
  rfl
theorem evermoretop_sameWords.fn : FnOk Try.prog 127 Try.f127 evermoretop_sameWords.body Try.f127.ntmps 2 (fnRes Try.f127) :=
  fnOk_of (by kernel_rfl) (by kernel_rfl) (by kernel_rfl) (by kernel_rfl)
theorem evermoretop_sameWords.con' : ∀ k ds r, evermoretop_sameWords.g k ds = some r → Con Try.prog 127 2 evermoretop_sameWords.ti evermoretop_sameWords.to ds (evermoretop_sameWords.rs r) :=
  fun_ok (T := T) T_ok mixed evermoretop_sameWords.fn (env := evermoretop_sameWords.env) (tbl := evermoretop_sameWords.tbl) (gOut := evermoretop_sameWords.out) (nin := 0) (cuts := []) (fuel := 100000) rfl (by kernel_rfl) (by kernel_rfl) (by kernel_rfl) (fun x hx => by
    simp only [evermoretop_sameWords.tbl, List.mem_cons, List.not_mem_nil, or_false] at hx
    subst hx
    · exact evermoretop_sameWords.h9
) evermoretop_sameWords.o evermoretop_sameWords.h (fun k _ => by unfold evermoretop_sameWords.env; exact env0_ok)
theorem evermoretop_sameWords.con (k : Nat) {x0 : (List Int)} {x1 : (List Int)} (r : Bool) (h : evermoretop_sameWords.f k x0 x1 = some r) : Con Try.prog 127 2 evermoretop_sameWords.ti evermoretop_sameWords.to [⟨Z1, x0⟩, ⟨Z1, x1⟩] (evermoretop_sameWords.rs r) :=
  evermoretop_sameWords.con' (k + 1) _ r (by show evermoretop_sameWords.c k _ = some r; unfold evermoretop_sameWords.c; simp only [pop_self, popN]; exact h)
end Go.Proofs.YtfkilmmldjajmaaSx
