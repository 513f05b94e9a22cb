import Derived.Test.YtooagmggibdlbaaSxT
import Derived.Test.YtooagmggibdlbaaSxQ
import Derived.Test.YtooagmggibdlbaaSxV2
import Derived.Test.YtooagmggibdlbaaSxW
import Derived.KernelRfl
import Derived.Test.YtooagmggibdlbaaProg
set_option linter.unusedVariables false
set_option maxRecDepth 100000
namespace Go.Proofs.YtooagmggibdlbaaSx
open Go Go.Proofs
theorem T_check : T.check Try.prog = true := by kernel_rfl
theorem T_ok : TOk Try.prog T := TT.check_ok T_check
theorem mixed : Try.prog.follows .mixedOrders = true := by kernel_rfl
mutual
def lyndon_Bruijn_1.l6 : Nat → Int → Int → Int → Int → List (Int) → List (Int) → Option (Int × Int × List Int × List Int)
 | 0, _, _, _, _, _, _ => none
 | k + 1, t0, a9, c0_0, x6_0, c6, c7 =>
  if a9 < x6_0 then
   if 0 ≤ t0 then
   if t0 < (↑c6.length : Int) then
    (lyndon_Bruijn_1.f k (Go.IntKind.i64.wrap (t0 + 1)) t0 c0_0 x6_0 c7 (c6.set t0.toNat a9)).bind fun r5 =>
      lyndon_Bruijn_1.l6 k t0 (Go.IntKind.i64.wrap (a9 + 1)) r5.fst r5.snd.fst r5.snd.snd.fst r5.snd.snd.snd
    else none
   else none
  else
   some (c0_0, x6_0, c6, c7)
def lyndon_Bruijn_1.f : Nat → Int → Int → Int → Int → (List (Int)) → (List (Int)) → Option (Int × Int × List Int × List Int)
 | 0, _, _, _, _, _, _ => none
 | k + 1, t0, p1, x2_0, x6_0, c5, c6 =>
 if x2_0 < t0 then
  if p1 = 0 then
   none
  else
   if x2_0.tmod p1 = 0 then
    if 0 ≤ 1 then
    if 1 ≤ Go.IntKind.i64.wrap (p1 + 1) then
     if Go.IntKind.i64.wrap (p1 + 1) ≤ (↑c6.length : Int) then
      if (c5 ++ List.take ((Go.IntKind.i64.wrap (p1 + 1)).toNat - Int.toNat 1) (List.drop (Int.toNat 1) c6)).length.blt 1000000000 = true then
       some (x2_0, x6_0, c6, c5 ++ List.take ((Go.IntKind.i64.wrap (p1 + 1)).toNat - Int.toNat 1) (List.drop (Int.toNat 1) c6))
       else none
      else none
     else none
    else none
   else
    some (x2_0, x6_0, c6, c5)
 else
  if 0 ≤ Go.IntKind.i64.wrap (t0 - p1) then
  if Go.IntKind.i64.wrap (t0 - p1) < (↑c6.length : Int) then
   if 0 ≤ t0 then
    if t0 < (↑c6.length : Int) then
     (lyndon_Bruijn_1.f k (Go.IntKind.i64.wrap (t0 + 1)) p1 x2_0 x6_0 c5 (c6.set t0.toNat (c6.getD (Go.IntKind.i64.wrap (t0 - p1)).toNat (Int.ofNat 0)))).bind fun r6 =>
       if 0 ≤ Go.IntKind.i64.wrap (t0 - p1) then
       if Go.IntKind.i64.wrap (t0 - p1) < (↑r6.snd.snd.fst.length : Int) then
        lyndon_Bruijn_1.l6 k t0 (Go.IntKind.i64.wrap (r6.snd.snd.fst.getD (Go.IntKind.i64.wrap (t0 - p1)).toNat (Int.ofNat 0) + 1)) r6.fst r6.snd.fst r6.snd.snd.fst r6.snd.snd.snd
        else none
       else none
     else none
    else none
   else none
  else none
end

noncomputable def lyndon_Bruijn_1.body : Code := fnBody Try.f9
def lyndon_Bruijn_1.ti : Tm := ⟨[(0, .p (.int .i64)), (1, .p (.int .i64)), (2, .ptr 0 0), (3, .ptr 1 0), (4, .ptr 2 0), (5, .ptr 3 0), (6, .ptr 4 0)], [.box [.p (.int .i64)] 3, .box [.own 5] 22, .box [.own 6] 22, .box [.fn 9 [.ptr 0 0, .ptr 1 0, .ptr 2 0, .ptr 3 0, .ptr 4 0]] 31, .box [.p (.int .i64)] 3, .own (.int .i64), .own (.int .i64)]⟩
def lyndon_Bruijn_1.to : Tm := ⟨[], [.box [.p (.int .i64)] 3, .box [.own 7] 22, .box [.own 6] 22, .box [.fn 9 [.ptr 0 0, .ptr 1 0, .ptr 2 0, .ptr 3 0, .ptr 4 0]] 31, .box [.p (.int .i64)] 3, .gone, .own (.int .i64), .own (.int .i64)]⟩
def lyndon_Bruijn_1.rs (r : Int × Int × (List Int) × (List Int)) : List Dat := [⟨(.int .i64), r.1⟩, ⟨(.int .i64), r.2.1⟩, ⟨(.slice (.int .i64)), r.2.2.1⟩, ⟨(.slice (.int .i64)), r.2.2.2⟩]
def lyndon_Bruijn_1.out (ds : List Dat) : Option (Int × Int × (List Int) × (List Int)) := pop (.int .i64) ds fun x0 ds => pop (.int .i64) ds fun x1 ds => pop (.slice (.int .i64)) ds fun x2 ds => pop (.slice (.int .i64)) ds fun x3 ds => popN ds (some (x0, x1, x2, x3))
def lyndon_Bruijn_1.c (k : Nat) (ds : List Dat) : Option (Int × Int × (List Int) × (List Int)) := pop (.int .i64) ds fun x0 ds => pop (.int .i64) ds fun x1 ds => pop (.int .i64) ds fun x2 ds => pop (.int .i64) ds fun x3 ds => pop (.slice (.int .i64)) ds fun x4 ds => pop (.slice (.int .i64)) ds fun x5 ds => popN ds (lyndon_Bruijn_1.f k x0 x1 x2 x3 x4 x5)
def lyndon_Bruijn_1.g (k : Nat) (ds : List Dat) : Option (Int × Int × (List Int) × (List Int)) := lyndon_Bruijn_1.c k ds
def lyndon_Bruijn_1.env (k : Nat) : Nat → List SV → List Chunk → KT (Int × Int × (List Int) × (List Int)) → Option (Int × Int × (List Int) × (List Int)) := (envC 9 7 lyndon_Bruijn_1.ti lyndon_Bruijn_1.to (fun ds K => pop (.int .i64) ds fun x0 ds => pop (.int .i64) ds fun x1 ds => pop (.int .i64) ds fun x2 ds => pop (.int .i64) ds fun x3 ds => pop (.slice (.int .i64)) ds fun x4 ds => pop (.slice (.int .i64)) ds fun x5 ds => popN ds ((lyndon_Bruijn_1.f k x0 x1 x2 x3 x4 x5).bind fun r => K (lyndon_Bruijn_1.rs r))) env0)
def lyndon_Bruijn_1.t13 : Tm := ⟨[(0, .p (.int .i64)), (4, .ptr 2 0), (5, .ptr 3 0), (6, .ptr 4 0), (9, .p (.int .i64))], [.box [.p (.int .i64)] 3, .box [.own 7] 22, .box [.own 6] 22, .box [.fn 9 [.ptr 0 0, .ptr 1 0, .ptr 2 0, .ptr 3 0, .ptr 4 0]] 31, .box [.p (.int .i64)] 3, .gone, .own (.int .i64), .own (.int .i64)]⟩
def lyndon_Bruijn_1.c13 (k : Nat) (ds : List Dat) : Option (Int × Int × (List Int) × (List Int)) := pop (.int .i64) ds fun x0 ds => pop (.int .i64) ds fun x1 ds => pop (.int .i64) ds fun x2 ds => pop (.int .i64) ds fun x3 ds => pop (.slice (.int .i64)) ds fun x4 ds => pop (.slice (.int .i64)) ds fun x5 ds => popN ds (lyndon_Bruijn_1.l6 k x0 x1 x2 x3 x4 x5)
def lyndon_Bruijn_1.tbl : List (Nat × Tm × (Nat → List Dat → Option (Int × Int × (List Int) × (List Int)))) := [(13, lyndon_Bruijn_1.t13, lyndon_Bruijn_1.c13)]
noncomputable abbrev lyndon_Bruijn_1.R (k : Nat) := run T (lyndon_Bruijn_1.env k) Try.f9.ntmps (cutE 7 lyndon_Bruijn_1.tbl k) (finE 7 lyndon_Bruijn_1.to lyndon_Bruijn_1.out) (fnRes Try.f9) [] 100000 true
theorem lyndon_Bruijn_1.e13 (k : Nat) (x0 : Int) (x1 : Int) (x2 : Int) (x3 : Int) (x4 : (List Int)) (x5 : (List Int)) : lyndon_Bruijn_1.l6 (k + 1) x0 x1 x2 x3 x4 x5 = lyndon_Bruijn_1.R k (start (stackOf 13 lyndon_Bruijn_1.body)) (lyndon_Bruijn_1.t13.fill [⟨(.int .i64), x0⟩, ⟨(.int .i64), x1⟩, ⟨(.int .i64), x2⟩, ⟨(.int .i64), x3⟩, ⟨(.slice (.int .i64)), x4⟩, ⟨(.slice (.int .i64)), x5⟩]) := by kernel_rfl
theorem lyndon_Bruijn_1.s13 : stackAt 13 lyndon_Bruijn_1.body [] = some (stackOf 13 lyndon_Bruijn_1.body) := by kernel_rfl
theorem lyndon_Bruijn_1.h13 (k : Nat) (ds : List Dat) (r : Int × Int × (List Int) × (List Int)) (h : lyndon_Bruijn_1.c13 k ds = some r) : ∃ k', k' < k ∧ ∃ s, stackAt 13 lyndon_Bruijn_1.body [] = some s ∧ lyndon_Bruijn_1.R k' (start s) (lyndon_Bruijn_1.t13.fill ds) = some r := by
  unfold lyndon_Bruijn_1.c13 at h
  obtain ⟨x0, d0, rfl, h0⟩ := pop_some h
  obtain ⟨x1, d1, rfl, h1⟩ := pop_some h0
  obtain ⟨x2, d2, rfl, h2⟩ := pop_some h1
  obtain ⟨x3, d3, rfl, h3⟩ := pop_some h2
  obtain ⟨x4, d4, rfl, h4⟩ := pop_some h3
  obtain ⟨x5, d5, rfl, h5⟩ := pop_some h4
  obtain ⟨rfl, g⟩ := popN_some h5
  cases k with
  | zero => cases (show none = some r from g)
  | succ k => exact ⟨k, Nat.lt_succ_self k, _, lyndon_Bruijn_1.s13, (lyndon_Bruijn_1.e13 k x0 x1 x2 x3 x4 x5).symm.trans g⟩
theorem lyndon_Bruijn_1.e (k : Nat) (x0 : Int) (x1 : Int) (x2 : Int) (x3 : Int) (x4 : (List Int)) (x5 : (List Int)) : lyndon_Bruijn_1.f (k + 1) x0 x1 x2 x3 x4 x5 = lyndon_Bruijn_1.R k ([.code lyndon_Bruijn_1.body]) (lyndon_Bruijn_1.ti.fill [⟨(.int .i64), x0⟩, ⟨(.int .i64), x1⟩, ⟨(.int .i64), x2⟩, ⟨(.int .i64), x3⟩, ⟨(.slice (.int .i64)), x4⟩, ⟨(.slice (.int .i64)), x5⟩]) := by kernel_rfl
theorem lyndon_Bruijn_1.h (k : Nat) (ds : List Dat) (r : Int × Int × (List Int) × (List Int)) (h : lyndon_Bruijn_1.g k ds = some r) : ∃ k', k' < k ∧ lyndon_Bruijn_1.R k' ([.code lyndon_Bruijn_1.body]) (lyndon_Bruijn_1.ti.fill ds) = some r := by
  replace h : lyndon_Bruijn_1.c k ds = some r := h
  unfold lyndon_Bruijn_1.c at h
  obtain ⟨x0, d0, rfl, h0⟩ := pop_some h
  obtain ⟨x1, d1, rfl, h1⟩ := pop_some h0
  obtain ⟨x2, d2, rfl, h2⟩ := pop_some h1
  obtain ⟨x3, d3, rfl, h3⟩ := pop_some h2
  obtain ⟨x4, d4, rfl, h4⟩ := pop_some h3
  obtain ⟨x5, d5, rfl, h5⟩ := pop_some h4
  obtain ⟨rfl, g⟩ := popN_some h5
  cases k with
  | zero => cases (show none = some r from g)
  | succ k => exact ⟨k, Nat.lt_succ_self k, (lyndon_Bruijn_1.e k x0 x1 x2 x3 x4 x5).symm.trans g⟩
theorem lyndon_Bruijn_1.o (ds : List Dat) (r : Int × Int × (List Int) × (List Int)) (h : lyndon_Bruijn_1.out ds = some r) : ds = lyndon_Bruijn_1.rs r := by
  unfold lyndon_Bruijn_1.out at h
  obtain ⟨x0, d0, rfl, h0⟩ := pop_some h
  obtain ⟨x1, d1, rfl, h1⟩ := pop_some h0
  obtain ⟨x2, d2, rfl, h2⟩ := pop_some h1
  obtain ⟨x3, d3, rfl, h3⟩ := pop_some h2
  obtain ⟨rfl, g⟩ := popN_some h3
  cases g
  rfl
theorem lyndon_Bruijn_1.fn : FnOk Try.prog 9 Try.f9 lyndon_Bruijn_1.body Try.f9.ntmps 7 (fnRes Try.f9) :=
  fnOk_of (by kernel_rfl) (by kernel_rfl) (by kernel_rfl) (by kernel_rfl)
theorem lyndon_Bruijn_1.con' : ∀ k ds r, lyndon_Bruijn_1.g k ds = some r → Con Try.prog 9 7 lyndon_Bruijn_1.ti lyndon_Bruijn_1.to ds (lyndon_Bruijn_1.rs r) :=
  fun_ok (T := T) T_ok mixed lyndon_Bruijn_1.fn (env := lyndon_Bruijn_1.env) (tbl := lyndon_Bruijn_1.tbl) (gOut := lyndon_Bruijn_1.out) (nin := 7) (cuts := []) (fuel := 100000) rfl (by kernel_rfl) (by kernel_rfl) (by kernel_rfl) (fun x hx => by
    simp only [lyndon_Bruijn_1.tbl, List.mem_cons, List.not_mem_nil, or_false] at hx
    subst hx
    · exact lyndon_Bruijn_1.h13
) lyndon_Bruijn_1.o lyndon_Bruijn_1.h (fun k ih => by unfold lyndon_Bruijn_1.env; exact (envC_ok (fun ds K r h => by
    obtain ⟨x0, d0, rfl, h0⟩ := pop_some h
    obtain ⟨x1, d1, rfl, h1⟩ := pop_some h0
    obtain ⟨x2, d2, rfl, h2⟩ := pop_some h1
    obtain ⟨x3, d3, rfl, h3⟩ := pop_some h2
    obtain ⟨x4, d4, rfl, h4⟩ := pop_some h3
    obtain ⟨x5, d5, rfl, h5⟩ := pop_some h4
    obtain ⟨rfl, g⟩ := popN_some h5
    obtain ⟨r1, h1, h2⟩ := bind_some g
    exact ⟨_, h2, ih _ _ (by show lyndon_Bruijn_1.c k _ = some r1; unfold lyndon_Bruijn_1.c; simp only [pop_self, popN]; exact h1)⟩) env0_ok))
theorem lyndon_Bruijn_1.con (k : Nat) {x0 : Int} {x1 : Int} {x2 : Int} {x3 : Int} {x4 : (List Int)} {x5 : (List Int)} (r : Int × Int × (List Int) × (List Int)) (h : lyndon_Bruijn_1.f k x0 x1 x2 x3 x4 x5 = some r) : Con Try.prog 9 7 lyndon_Bruijn_1.ti lyndon_Bruijn_1.to [⟨(.int .i64), x0⟩, ⟨(.int .i64), x1⟩, ⟨(.int .i64), x2⟩, ⟨(.int .i64), x3⟩, ⟨(.slice (.int .i64)), x4⟩, ⟨(.slice (.int .i64)), x5⟩] (lyndon_Bruijn_1.rs r) :=
  lyndon_Bruijn_1.con' k _ r (by show lyndon_Bruijn_1.c k _ = some r; unfold lyndon_Bruijn_1.c; simp only [pop_self, popN]; exact h)
mutual
def lyndon_Bruijn.l5 : Nat → Int → Int → Int → Int → Int → Option (Int × List Int)
 | 0, _, _, _, _, _ => none
 | k + 1, all6, x24, x25, letters2_0, n3_0 =>
  if x25 < x24 then
   lyndon_Bruijn.l5 k (Go.IntKind.i64.wrap (all6 * letters2_0)) x24 (Go.IntKind.i64.wrap (x25 + 1)) letters2_0 n3_0
  else
   if 256 < all6 then
    some (7, [])
   else
    if 0 ≤ Go.IntKind.i64.wrap (n3_0 + 1) then
    if Go.IntKind.i64.wrap (n3_0 + 1) ≤ Go.IntKind.i64.wrap (n3_0 + 1) then
     if Go.IntKind.i64.wrap (n3_0 + 1) * ((↑8 : Int) + 1) ≤ 1099511627776 then
      lyndon_Bruijn.j14 k [] n3_0 letters2_0 (List.replicate (Go.IntKind.i64.wrap (n3_0 + 1)).toNat (Int.ofNat 0))
      else none
     else none
    else none
def lyndon_Bruijn.j14 : Nat → List (Int) → Int → Int → List (Int) → Option (Int × List Int)
 | 0, _, _, _, _ => none
 | k + 1, c2, c3_0, c5_0, c6 =>
  (lyndon_Bruijn_1.f k (Int.ofNat 1) (Int.ofNat 1) c3_0 c5_0 c2 c6).bind fun r2 =>
   some (0, r2.snd.snd.snd)
end
def lyndon_Bruijn.f (k : Nat) (letters0 : Int) (n1 : Int) : Option (Int × List Int) :=
 if letters0 < 1 then
  some (2, [])
 else
  if 4 < letters0 then
   some (2, [])
  else
   if n1 < 1 then
    some (2, [])
   else
    if 8 < n1 then
     some (2, [])
    else
     lyndon_Bruijn.l5 k 1 n1 0 letters0 n1

noncomputable def lyndon_Bruijn.body : Code := fnBody Try.f4
def lyndon_Bruijn.ti : Tm := ⟨[(0, .p (.int .i64)), (1, .p (.int .i64))], []⟩
def lyndon_Bruijn.to : Tm := ⟨[(0, .own 0), (1, .p (.int .i64))], [.own (.int .i64)]⟩
def lyndon_Bruijn.rs (r : Int × (List Int)) : List Dat := [⟨(.int .i64), r.1⟩, ⟨(.slice (.int .i64)), r.2⟩]
def lyndon_Bruijn.out (ds : List Dat) : Option (Int × (List Int)) := pop (.int .i64) ds fun x0 ds => pop (.slice (.int .i64)) ds fun x1 ds => popN ds (some (x0, x1))
def lyndon_Bruijn.c (k : Nat) (ds : List Dat) : Option (Int × (List Int)) := pop (.int .i64) ds fun x0 ds => pop (.int .i64) ds fun x1 ds => popN ds (lyndon_Bruijn.f k x0 x1)
def lyndon_Bruijn.g : Nat → List Dat → Option (Int × (List Int))
 | 0, _ => none
 | k + 1, ds => lyndon_Bruijn.c k ds
def lyndon_Bruijn.env (k : Nat) : Nat → List SV → List Chunk → KT (Int × (List Int)) → Option (Int × (List Int)) := (envC 9 7 lyndon_Bruijn_1.ti lyndon_Bruijn_1.to (fun ds K => pop (.int .i64) ds fun x0 ds => pop (.int .i64) ds fun x1 ds => pop (.int .i64) ds fun x2 ds => pop (.int .i64) ds fun x3 ds => pop (.slice (.int .i64)) ds fun x4 ds => pop (.slice (.int .i64)) ds fun x5 ds => popN ds ((lyndon_Bruijn_1.f k x0 x1 x2 x3 x4 x5).bind fun r => K (lyndon_Bruijn_1.rs r))) env0)
def lyndon_Bruijn.t11 : Tm := ⟨[(2, .ptr 0 0), (3, .ptr 1 0), (6, .p (.int .i64)), (24, .p (.int .i64)), (25, .p (.int .i64))], [.box [.p (.int .i64)] 3, .box [.p (.int .i64)] 3]⟩
def lyndon_Bruijn.c11 (k : Nat) (ds : List Dat) : Option (Int × (List Int)) := pop (.int .i64) ds fun x0 ds => pop (.int .i64) ds fun x1 ds => pop (.int .i64) ds fun x2 ds => pop (.int .i64) ds fun x3 ds => pop (.int .i64) ds fun x4 ds => popN ds (lyndon_Bruijn.l5 k x0 x1 x2 x3 x4)
def lyndon_Bruijn.t28 : Tm := ⟨[(7, .ptr 0 0), (9, .ptr 1 0)], [.box [.own 2] 22, .box [.fn 9 [.ptr 3 0, .ptr 0 0, .ptr 4 0, .ptr 1 0, .ptr 5 0]] 31, .own (.int .i64), .box [.p (.int .i64)] 3, .box [.own 6] 22, .box [.p (.int .i64)] 3, .own (.int .i64)]⟩
def lyndon_Bruijn.c28 (k : Nat) (ds : List Dat) : Option (Int × (List Int)) := pop (.slice (.int .i64)) ds fun x0 ds => pop (.int .i64) ds fun x1 ds => pop (.int .i64) ds fun x2 ds => pop (.slice (.int .i64)) ds fun x3 ds => popN ds (lyndon_Bruijn.j14 k x0 x1 x2 x3)
def lyndon_Bruijn.tbl : List (Nat × Tm × (Nat → List Dat → Option (Int × (List Int)))) := [(11, lyndon_Bruijn.t11, lyndon_Bruijn.c11), (28, lyndon_Bruijn.t28, lyndon_Bruijn.c28)]
noncomputable abbrev lyndon_Bruijn.R (k : Nat) := run T (lyndon_Bruijn.env k) Try.f4.ntmps (cutE 0 lyndon_Bruijn.tbl k) (finE 0 lyndon_Bruijn.to lyndon_Bruijn.out) (fnRes Try.f4) [14] 100000 true
theorem lyndon_Bruijn.e11 (k : Nat) (x0 : Int) (x1 : Int) (x2 : Int) (x3 : Int) (x4 : Int) : lyndon_Bruijn.l5 (k + 1) x0 x1 x2 x3 x4 = lyndon_Bruijn.R k (start (stackOf 11 lyndon_Bruijn.body)) (lyndon_Bruijn.t11.fill [⟨(.int .i64), x0⟩, ⟨(.int .i64), x1⟩, ⟨(.int .i64), x2⟩, ⟨(.int .i64), x3⟩, ⟨(.int .i64), x4⟩]) := by kernel_rfl
theorem lyndon_Bruijn.s11 : stackAt 11 lyndon_Bruijn.body [] = some (stackOf 11 lyndon_Bruijn.body) := by kernel_rfl
theorem lyndon_Bruijn.h11 (k : Nat) (ds : List Dat) (r : Int × (List Int)) (h : lyndon_Bruijn.c11 k ds = some r) : ∃ k', k' < k ∧ ∃ s, stackAt 11 lyndon_Bruijn.body [] = some s ∧ lyndon_Bruijn.R k' (start s) (lyndon_Bruijn.t11.fill ds) = some r := by
  unfold lyndon_Bruijn.c11 at h
  obtain ⟨x0, d0, rfl, h0⟩ := pop_some h
  obtain ⟨x1, d1, rfl, h1⟩ := pop_some h0
  obtain ⟨x2, d2, rfl, h2⟩ := pop_some h1
  obtain ⟨x3, d3, rfl, h3⟩ := pop_some h2
  obtain ⟨x4, d4, rfl, h4⟩ := pop_some h3
  obtain ⟨rfl, g⟩ := popN_some h4
  cases k with
  | zero => cases (show none = some r from g)
  | succ k => exact ⟨k, Nat.lt_succ_self k, _, lyndon_Bruijn.s11, (lyndon_Bruijn.e11 k x0 x1 x2 x3 x4).symm.trans g⟩
theorem lyndon_Bruijn.e28 (k : Nat) (x0 : (List Int)) (x1 : Int) (x2 : Int) (x3 : (List Int)) : lyndon_Bruijn.j14 (k + 1) x0 x1 x2 x3 = lyndon_Bruijn.R k (start (stackOf 28 lyndon_Bruijn.body)) (lyndon_Bruijn.t28.fill [⟨(.slice (.int .i64)), x0⟩, ⟨(.int .i64), x1⟩, ⟨(.int .i64), x2⟩, ⟨(.slice (.int .i64)), x3⟩]) := by kernel_rfl
theorem lyndon_Bruijn.s28 : stackAt 28 lyndon_Bruijn.body [] = some (stackOf 28 lyndon_Bruijn.body) := by kernel_rfl
theorem lyndon_Bruijn.h28 (k : Nat) (ds : List Dat) (r : Int × (List Int)) (h : lyndon_Bruijn.c28 k ds = some r) : ∃ k', k' < k ∧ ∃ s, stackAt 28 lyndon_Bruijn.body [] = some s ∧ lyndon_Bruijn.R k' (start s) (lyndon_Bruijn.t28.fill ds) = some r := by
  unfold lyndon_Bruijn.c28 at h
  obtain ⟨x0, d0, rfl, h0⟩ := pop_some h
  obtain ⟨x1, d1, rfl, h1⟩ := pop_some h0
  obtain ⟨x2, d2, rfl, h2⟩ := pop_some h1
  obtain ⟨x3, d3, rfl, h3⟩ := pop_some h2
  obtain ⟨rfl, g⟩ := popN_some h3
  cases k with
  | zero => cases (show none = some r from g)
  | succ k => exact ⟨k, Nat.lt_succ_self k, _, lyndon_Bruijn.s28, (lyndon_Bruijn.e28 k x0 x1 x2 x3).symm.trans g⟩
theorem lyndon_Bruijn.e (k : Nat) (x0 : Int) (x1 : Int) : lyndon_Bruijn.f k x0 x1 = lyndon_Bruijn.R k ([.code lyndon_Bruijn.body]) (lyndon_Bruijn.ti.fill [⟨(.int .i64), x0⟩, ⟨(.int .i64), x1⟩]) := by kernel_rfl
theorem lyndon_Bruijn.h (k : Nat) (ds : List Dat) (r : Int × (List Int)) (h : lyndon_Bruijn.g k ds = some r) : ∃ k', k' < k ∧ lyndon_Bruijn.R k' ([.code lyndon_Bruijn.body]) (lyndon_Bruijn.ti.fill ds) = some r := by
  cases k with
  | zero => cases (show none = some r from h)
  | succ k =>
  replace h : lyndon_Bruijn.c k ds = some r := h
  unfold lyndon_Bruijn.c at h
  obtain ⟨x0, d0, rfl, h0⟩ := pop_some h
  obtain ⟨x1, d1, rfl, h1⟩ := pop_some h0
  obtain ⟨rfl, g⟩ := popN_some h1
  exact ⟨k, Nat.lt_succ_self k, (lyndon_Bruijn.e k x0 x1).symm.trans g⟩
theorem lyndon_Bruijn.o (ds : List Dat) (r : Int × (List Int)) (h : lyndon_Bruijn.out ds = some r) : ds = lyndon_Bruijn.rs r := by
  unfold lyndon_Bruijn.out at h
  obtain ⟨x0, d0, rfl, h0⟩ := pop_some h
  obtain ⟨x1, d1, rfl, h1⟩ := pop_some h0
  obtain ⟨rfl, g⟩ := popN_some h1
  cases g
  rfl
theorem lyndon_Bruijn.fn : FnOk Try.prog 4 Try.f4 lyndon_Bruijn.body Try.f4.ntmps 2 (fnRes Try.f4) :=
  fnOk_of (by kernel_rfl) (by kernel_rfl) (by kernel_rfl) (by kernel_rfl)
theorem lyndon_Bruijn.con' : ∀ k ds r, lyndon_Bruijn.g k ds = some r → Con Try.prog 4 2 lyndon_Bruijn.ti lyndon_Bruijn.to ds (lyndon_Bruijn.rs r) :=
  fun_ok (T := T) T_ok mixed lyndon_Bruijn.fn (env := lyndon_Bruijn.env) (tbl := lyndon_Bruijn.tbl) (gOut := lyndon_Bruijn.out) (nin := 0) (cuts := [14]) (fuel := 100000) rfl (by kernel_rfl) (by kernel_rfl) (by kernel_rfl) (fun x hx => by
    simp only [lyndon_Bruijn.tbl, List.mem_cons, List.not_mem_nil, or_false] at hx
    rcases hx with rfl | rfl
    · exact lyndon_Bruijn.h11
    · exact lyndon_Bruijn.h28
) lyndon_Bruijn.o lyndon_Bruijn.h (fun k _ => by unfold lyndon_Bruijn.env; exact (envC_ok (fun ds K r h => by
    obtain ⟨x0, d0, rfl, h0⟩ := pop_some h
    obtain ⟨x1, d1, rfl, h1⟩ := pop_some h0
    obtain ⟨x2, d2, rfl, h2⟩ := pop_some h1
    obtain ⟨x3, d3, rfl, h3⟩ := pop_some h2
    obtain ⟨x4, d4, rfl, h4⟩ := pop_some h3
    obtain ⟨x5, d5, rfl, h5⟩ := pop_some h4
    obtain ⟨rfl, g⟩ := popN_some h5
    obtain ⟨r1, h1, h2⟩ := bind_some g
    exact ⟨_, h2, lyndon_Bruijn_1.con k _ h1⟩) env0_ok))
theorem lyndon_Bruijn.con (k : Nat) {x0 : Int} {x1 : Int} (r : Int × (List Int)) (h : lyndon_Bruijn.f k x0 x1 = some r) : Con Try.prog 4 2 lyndon_Bruijn.ti lyndon_Bruijn.to [⟨(.int .i64), x0⟩, ⟨(.int .i64), x1⟩] (lyndon_Bruijn.rs r) :=
  lyndon_Bruijn.con' (k + 1) _ r (by show lyndon_Bruijn.c k _ = some r; unfold lyndon_Bruijn.c; simp only [pop_self, popN]; exact h)
mutual
def evermoreref31_All.l3 : Nat → Int → Int → Int → Int → Option (Int)
 | 0, _, _, _, _ => none
 | k + 1, letters0, n1, all5, i6 =>
  if i6 < n1 then
   if 256 < Go.IntKind.i64.wrap (all5 * letters0) then
    some (257)
   else
    evermoreref31_All.l3 k letters0 n1 (Go.IntKind.i64.wrap (all5 * letters0)) (Go.IntKind.i64.wrap (i6 + 1))
  else
   some (all5)
end
def evermoreref31_All.f (k : Nat) (letters0 : Int) (n1 : Int) : Option (Int) :=
 evermoreref31_All.l3 k letters0 n1 1 0

noncomputable def evermoreref31_All.body : Code := fnBody Try.f5
def evermoreref31_All.ti : Tm := ⟨[(0, .p (.int .i64)), (1, .p (.int .i64))], []⟩
def evermoreref31_All.to : Tm := ⟨[(0, .p (.int .i64))], []⟩
def evermoreref31_All.rs (r : Int) : List Dat := [⟨(.int .i64), r⟩]
def evermoreref31_All.out (ds : List Dat) : Option (Int) := pop (.int .i64) ds fun x0 ds => popN ds (some (x0))
def evermoreref31_All.c (k : Nat) (ds : List Dat) : Option (Int) := pop (.int .i64) ds fun x0 ds => pop (.int .i64) ds fun x1 ds => popN ds (evermoreref31_All.f k x0 x1)
def evermoreref31_All.g : Nat → List Dat → Option (Int)
 | 0, _ => none
 | k + 1, ds => evermoreref31_All.c k ds
def evermoreref31_All.env (k : Nat) : Nat → List SV → List Chunk → KT (Int) → Option (Int) := env0
def evermoreref31_All.t7 : Tm := ⟨[(0, .p (.int .i64)), (1, .p (.int .i64)), (5, .p (.int .i64)), (6, .p (.int .i64))], []⟩
def evermoreref31_All.c7 (k : Nat) (ds : List Dat) : Option (Int) := pop (.int .i64) ds fun x0 ds => pop (.int .i64) ds fun x1 ds => pop (.int .i64) ds fun x2 ds => pop (.int .i64) ds fun x3 ds => popN ds (evermoreref31_All.l3 k x0 x1 x2 x3)
def evermoreref31_All.tbl : List (Nat × Tm × (Nat → List Dat → Option (Int))) := [(7, evermoreref31_All.t7, evermoreref31_All.c7)]
noncomputable abbrev evermoreref31_All.R (k : Nat) := run T (evermoreref31_All.env k) Try.f5.ntmps (cutE 0 evermoreref31_All.tbl k) (finE 0 evermoreref31_All.to evermoreref31_All.out) (fnRes Try.f5) [] 100000 true
theorem evermoreref31_All.e7 (k : Nat) (x0 : Int) (x1 : Int) (x2 : Int) (x3 : Int) : evermoreref31_All.l3 (k + 1) x0 x1 x2 x3 = evermoreref31_All.R k (start (stackOf 7 evermoreref31_All.body)) (evermoreref31_All.t7.fill [⟨(.int .i64), x0⟩, ⟨(.int .i64), x1⟩, ⟨(.int .i64), x2⟩, ⟨(.int .i64), x3⟩]) := by kernel_rfl
theorem evermoreref31_All.s7 : stackAt 7 evermoreref31_All.body [] = some (stackOf 7 evermoreref31_All.body) := by kernel_rfl
theorem evermoreref31_All.h7 (k : Nat) (ds : List Dat) (r : Int) (h : evermoreref31_All.c7 k ds = some r) : ∃ k', k' < k ∧ ∃ s, stackAt 7 evermoreref31_All.body [] = some s ∧ evermoreref31_All.R k' (start s) (evermoreref31_All.t7.fill ds) = some r := by
  unfold evermoreref31_All.c7 at h
  obtain ⟨x0, d0, rfl, h0⟩ := pop_some h
  obtain ⟨x1, d1, rfl, h1⟩ := pop_some h0
  obtain ⟨x2, d2, rfl, h2⟩ := pop_some h1
  obtain ⟨x3, d3, rfl, h3⟩ := pop_some h2
  obtain ⟨rfl, g⟩ := popN_some h3
  cases k with
  | zero => cases (show none = some r from g)
  | succ k => exact ⟨k, Nat.lt_succ_self k, _, evermoreref31_All.s7, (evermoreref31_All.e7 k x0 x1 x2 x3).symm.trans g⟩
theorem evermoreref31_All.e (k : Nat) (x0 : Int) (x1 : Int) : evermoreref31_All.f k x0 x1 = evermoreref31_All.R k ([.code evermoreref31_All.body]) (evermoreref31_All.ti.fill [⟨(.int .i64), x0⟩, ⟨(.int .i64), x1⟩]) := by kernel_rfl
theorem evermoreref31_All.h (k : Nat) (ds : List Dat) (r : Int) (h : evermoreref31_All.g k ds = some r) : ∃ k', k' < k ∧ evermoreref31_All.R k' ([.code evermoreref31_All.body]) (evermoreref31_All.ti.fill ds) = some r := by
  cases k with
  | zero => cases (show none = some r from h)
  | succ k =>
  replace h : evermoreref31_All.c k ds = some r := h
  unfold evermoreref31_All.c at h
  obtain ⟨x0, d0, rfl, h0⟩ := pop_some h
  obtain ⟨x1, d1, rfl, h1⟩ := pop_some h0
  obtain ⟨rfl, g⟩ := popN_some h1
  exact ⟨k, Nat.lt_succ_self k, (evermoreref31_All.e k x0 x1).symm.trans g⟩
theorem evermoreref31_All.o (ds : List Dat) (r : Int) (h : evermoreref31_All.out ds = some r) : ds = evermoreref31_All.rs r := by
  unfold evermoreref31_All.out at h
  obtain ⟨x0, d0, rfl, h0⟩ := pop_some h
  obtain ⟨rfl, g⟩ := popN_some h0
  cases g
  rfl
theorem evermoreref31_All.fn : FnOk Try.prog 5 Try.f5 evermoreref31_All.body Try.f5.ntmps 2 (fnRes Try.f5) :=
  fnOk_of (by kernel_rfl) (by kernel_rfl) (by kernel_rfl) (by kernel_rfl)
theorem evermoreref31_All.con' : ∀ k ds r, evermoreref31_All.g k ds = some r → Con Try.prog 5 2 evermoreref31_All.ti evermoreref31_All.to ds (evermoreref31_All.rs r) :=
  fun_ok (T := T) T_ok mixed evermoreref31_All.fn (env := evermoreref31_All.env) (tbl := evermoreref31_All.tbl) (gOut := evermoreref31_All.out) (nin := 0) (cuts := []) (fuel := 100000) rfl (by kernel_rfl) (by kernel_rfl) (by kernel_rfl) (fun x hx => by
    simp only [evermoreref31_All.tbl, List.mem_cons, List.not_mem_nil, or_false] at hx
    subst hx
    · exact evermoreref31_All.h7
) evermoreref31_All.o evermoreref31_All.h (fun k _ => by unfold evermoreref31_All.env; exact env0_ok)
theorem evermoreref31_All.con (k : Nat) {x0 : Int} {x1 : Int} (r : Int) (h : evermoreref31_All.f k x0 x1 = some r) : Con Try.prog 5 2 evermoreref31_All.ti evermoreref31_All.to [⟨(.int .i64), x0⟩, ⟨(.int .i64), x1⟩] (evermoreref31_All.rs r) :=
  evermoreref31_All.con' (k + 1) _ r (by show evermoreref31_All.c k _ = some r; unfold evermoreref31_All.c; simp only [pop_self, popN]; exact h)
mutual
def evermoreref31_Bruijn.l3 : Nat → List (Int) → Int → Int → Int → List (Bool) → Option (Bool)
 | 0, _, _, _, _, _ => none
 | k + 1, w0, letters1, n2, i8, seen7 =>
  if i8 < (↑w0.length : Int) then
   evermoreref31_Bruijn.l7 k w0 letters1 n2 i8 0 0 seen7
  else
   (evermoreref31_All.f k letters1 n2).bind fun r3 =>
    some (decide ((↑w0.length : Int) = r3))
def evermoreref31_Bruijn.l7 : Nat → List (Int) → Int → Int → Int → Int → Int → List (Bool) → Option (Bool)
 | 0, _, _, _, _, _, _, _ => none
 | k + 1, w0, letters1, n2, i8, k9, j10, seen7 =>
  if j10 < n2 then
   if (↑w0.length : Int) = 0 then
    none
   else
    if 0 ≤ (Go.IntKind.i64.wrap (i8 + j10)).tmod (↑w0.length : Int) then
    if (Go.IntKind.i64.wrap (i8 + j10)).tmod (↑w0.length : Int) < (↑w0.length : Int) then
     if Go.Proofs.YtooagmggibdlbaaSx.rd (Int.ofNat 0) w0 ((Go.IntKind.i64.wrap (i8 + j10)).tmod (↑w0.length : Int)) < 0 then
       some (false)
      else
       if letters1 ≤ Go.Proofs.YtooagmggibdlbaaSx.rd (Int.ofNat 0) w0 ((Go.IntKind.i64.wrap (i8 + j10)).tmod (↑w0.length : Int)) then
        some (false)
       else
        evermoreref31_Bruijn.l7 k w0 letters1 n2 i8 (Go.IntKind.i64.wrap (Go.IntKind.i64.wrap (k9 * letters1) + Go.Proofs.YtooagmggibdlbaaSx.rd (Int.ofNat 0) w0 ((Go.IntKind.i64.wrap (i8 + j10)).tmod (↑w0.length : Int)))) (Go.IntKind.i64.wrap (j10 + 1)) seen7
     else none
    else none
  else
   if 0 ≤ k9 then
   if k9 < (↑seen7.length : Int) then
    if seen7.getD k9.toNat false = true then
      some (false)
     else
      if 0 ≤ k9 then
      if k9 < (↑seen7.length : Int) then
       evermoreref31_Bruijn.l3 k w0 letters1 n2 (Go.IntKind.i64.wrap (i8 + 1)) (seen7.set k9.toNat true)
       else none
      else none
    else none
   else none
end
def evermoreref31_Bruijn.f (k : Nat) (w0 : List (Int)) (letters1 : Int) (n2 : Int) : Option (Bool) :=
 if 0 ≤ 256 then
 if 256 ≤ 256 then
  if 256 * ((↑1 : Int) + 1) ≤ 1099511627776 then
   evermoreref31_Bruijn.l3 k w0 letters1 n2 0 (List.replicate (Int.toNat 256) false)
   else none
  else none
 else none

noncomputable def evermoreref31_Bruijn.body : Code := fnBody Try.f6
def evermoreref31_Bruijn.ti : Tm := ⟨[(0, .p (.slice (.int .i64))), (1, .p (.int .i64)), (2, .p (.int .i64))], []⟩
def evermoreref31_Bruijn.to : Tm := ⟨[(0, .p .bool)], []⟩
def evermoreref31_Bruijn.rs (r : Bool) : List Dat := [⟨.bool, r⟩]
def evermoreref31_Bruijn.out (ds : List Dat) : Option (Bool) := pop .bool ds fun x0 ds => popN ds (some (x0))
def evermoreref31_Bruijn.c (k : Nat) (ds : List Dat) : Option (Bool) := pop (.slice (.int .i64)) ds fun x0 ds => pop (.int .i64) ds fun x1 ds => pop (.int .i64) ds fun x2 ds => popN ds (evermoreref31_Bruijn.f k x0 x1 x2)
def evermoreref31_Bruijn.g : Nat → List Dat → Option (Bool)
 | 0, _ => none
 | k + 1, ds => evermoreref31_Bruijn.c k ds
def evermoreref31_Bruijn.env (k : Nat) : Nat → List SV → List Chunk → KT (Bool) → Option (Bool) := (envC 5 2 evermoreref31_All.ti evermoreref31_All.to (fun ds K => pop (.int .i64) ds fun x0 ds => pop (.int .i64) ds fun x1 ds => popN ds ((evermoreref31_All.f k x0 x1).bind fun r => K (evermoreref31_All.rs r))) env0)
def evermoreref31_Bruijn.t7 : Tm := ⟨[(0, .p (.slice (.int .i64))), (1, .p (.int .i64)), (2, .p (.int .i64)), (7, .own 0), (8, .p (.int .i64))], [.own .bool]⟩
def evermoreref31_Bruijn.c7 (k : Nat) (ds : List Dat) : Option (Bool) := pop (.slice (.int .i64)) ds fun x0 ds => pop (.int .i64) ds fun x1 ds => pop (.int .i64) ds fun x2 ds => pop (.int .i64) ds fun x3 ds => pop (.slice .bool) ds fun x4 ds => popN ds (evermoreref31_Bruijn.l3 k x0 x1 x2 x3 x4)
def evermoreref31_Bruijn.t15 : Tm := ⟨[(0, .p (.slice (.int .i64))), (1, .p (.int .i64)), (2, .p (.int .i64)), (7, .own 0), (8, .p (.int .i64)), (9, .p (.int .i64)), (10, .p (.int .i64))], [.own .bool]⟩
def evermoreref31_Bruijn.c15 (k : Nat) (ds : List Dat) : Option (Bool) := pop (.slice (.int .i64)) ds fun x0 ds => pop (.int .i64) ds fun x1 ds => pop (.int .i64) ds fun x2 ds => pop (.int .i64) ds fun x3 ds => pop (.int .i64) ds fun x4 ds => pop (.int .i64) ds fun x5 ds => pop (.slice .bool) ds fun x6 ds => popN ds (evermoreref31_Bruijn.l7 k x0 x1 x2 x3 x4 x5 x6)
def evermoreref31_Bruijn.tbl : List (Nat × Tm × (Nat → List Dat → Option (Bool))) := [(7, evermoreref31_Bruijn.t7, evermoreref31_Bruijn.c7), (15, evermoreref31_Bruijn.t15, evermoreref31_Bruijn.c15)]
noncomputable abbrev evermoreref31_Bruijn.R (k : Nat) := run T (evermoreref31_Bruijn.env k) Try.f6.ntmps (cutE 0 evermoreref31_Bruijn.tbl k) (finE 0 evermoreref31_Bruijn.to evermoreref31_Bruijn.out) (fnRes Try.f6) [] 100000 true
theorem evermoreref31_Bruijn.e7 (k : Nat) (x0 : (List Int)) (x1 : Int) (x2 : Int) (x3 : Int) (x4 : (List Bool)) : evermoreref31_Bruijn.l3 (k + 1) x0 x1 x2 x3 x4 = evermoreref31_Bruijn.R k (start (stackOf 7 evermoreref31_Bruijn.body)) (evermoreref31_Bruijn.t7.fill [⟨(.slice (.int .i64)), x0⟩, ⟨(.int .i64), x1⟩, ⟨(.int .i64), x2⟩, ⟨(.int .i64), x3⟩, ⟨(.slice .bool), x4⟩]) := by kernel_rfl
theorem evermoreref31_Bruijn.s7 : stackAt 7 evermoreref31_Bruijn.body [] = some (stackOf 7 evermoreref31_Bruijn.body) := by kernel_rfl
theorem evermoreref31_Bruijn.h7 (k : Nat) (ds : List Dat) (r : Bool) (h : evermoreref31_Bruijn.c7 k ds = some r) : ∃ k', k' < k ∧ ∃ s, stackAt 7 evermoreref31_Bruijn.body [] = some s ∧ evermoreref31_Bruijn.R k' (start s) (evermoreref31_Bruijn.t7.fill ds) = some r := by
  unfold evermoreref31_Bruijn.c7 at h
  obtain ⟨x0, d0, rfl, h0⟩ := pop_some h
  obtain ⟨x1, d1, rfl, h1⟩ := pop_some h0
  obtain ⟨x2, d2, rfl, h2⟩ := pop_some h1
  obtain ⟨x3, d3, rfl, h3⟩ := pop_some h2
  obtain ⟨x4, d4, rfl, h4⟩ := pop_some h3
  obtain ⟨rfl, g⟩ := popN_some h4
  cases k with
  | zero => cases (show none = some r from g)
  | succ k => exact ⟨k, Nat.lt_succ_self k, _, evermoreref31_Bruijn.s7, (evermoreref31_Bruijn.e7 k x0 x1 x2 x3 x4).symm.trans g⟩
theorem evermoreref31_Bruijn.e15 (k : Nat) (x0 : (List Int)) (x1 : Int) (x2 : Int) (x3 : Int) (x4 : Int) (x5 : Int) (x6 : (List Bool)) : evermoreref31_Bruijn.l7 (k + 1) x0 x1 x2 x3 x4 x5 x6 = evermoreref31_Bruijn.R k (start (stackOf 15 evermoreref31_Bruijn.body)) (evermoreref31_Bruijn.t15.fill [⟨(.slice (.int .i64)), x0⟩, ⟨(.int .i64), x1⟩, ⟨(.int .i64), x2⟩, ⟨(.int .i64), x3⟩, ⟨(.int .i64), x4⟩, ⟨(.int .i64), x5⟩, ⟨(.slice .bool), x6⟩]) := by kernel_rfl
theorem evermoreref31_Bruijn.s15 : stackAt 15 evermoreref31_Bruijn.body [] = some (stackOf 15 evermoreref31_Bruijn.body) := by kernel_rfl
theorem evermoreref31_Bruijn.h15 (k : Nat) (ds : List Dat) (r : Bool) (h : evermoreref31_Bruijn.c15 k ds = some r) : ∃ k', k' < k ∧ ∃ s, stackAt 15 evermoreref31_Bruijn.body [] = some s ∧ evermoreref31_Bruijn.R k' (start s) (evermoreref31_Bruijn.t15.fill ds) = some r := by
  unfold evermoreref31_Bruijn.c15 at h
  obtain ⟨x0, d0, rfl, h0⟩ := pop_some h
  obtain ⟨x1, d1, rfl, h1⟩ := pop_some h0
  obtain ⟨x2, d2, rfl, h2⟩ := pop_some h1
  obtain ⟨x3, d3, rfl, h3⟩ := pop_some h2
  obtain ⟨x4, d4, rfl, h4⟩ := pop_some h3
  obtain ⟨x5, d5, rfl, h5⟩ := pop_some h4
  obtain ⟨x6, d6, rfl, h6⟩ := pop_some h5
  obtain ⟨rfl, g⟩ := popN_some h6
  cases k with
  | zero => cases (show none = some r from g)
  | succ k => exact ⟨k, Nat.lt_succ_self k, _, evermoreref31_Bruijn.s15, (evermoreref31_Bruijn.e15 k x0 x1 x2 x3 x4 x5 x6).symm.trans g⟩
theorem evermoreref31_Bruijn.e (k : Nat) (x0 : (List Int)) (x1 : Int) (x2 : Int) : evermoreref31_Bruijn.f k x0 x1 x2 = evermoreref31_Bruijn.R k ([.code evermoreref31_Bruijn.body]) (evermoreref31_Bruijn.ti.fill [⟨(.slice (.int .i64)), x0⟩, ⟨(.int .i64), x1⟩, ⟨(.int .i64), x2⟩]) := by kernel_rfl
theorem evermoreref31_Bruijn.h (k : Nat) (ds : List Dat) (r : Bool) (h : evermoreref31_Bruijn.g k ds = some r) : ∃ k', k' < k ∧ evermoreref31_Bruijn.R k' ([.code evermoreref31_Bruijn.body]) (evermoreref31_Bruijn.ti.fill ds) = some r := by
  cases k with
  | zero => cases (show none = some r from h)
  | succ k =>
  replace h : evermoreref31_Bruijn.c k ds = some r := h
  unfold evermoreref31_Bruijn.c at h
  obtain ⟨x0, d0, rfl, h0⟩ := pop_some h
  obtain ⟨x1, d1, rfl, h1⟩ := pop_some h0
  obtain ⟨x2, d2, rfl, h2⟩ := pop_some h1
  obtain ⟨rfl, g⟩ := popN_some h2
  exact ⟨k, Nat.lt_succ_self k, (evermoreref31_Bruijn.e k x0 x1 x2).symm.trans g⟩
theorem evermoreref31_Bruijn.o (ds : List Dat) (r : Bool) (h : evermoreref31_Bruijn.out ds = some r) : ds = evermoreref31_Bruijn.rs r := by
  unfold evermoreref31_Bruijn.out at h
  obtain ⟨x0, d0, rfl, h0⟩ := pop_some h
  obtain ⟨rfl, g⟩ := popN_some h0
  cases g
  rfl
theorem evermoreref31_Bruijn.fn : FnOk Try.prog 6 Try.f6 evermoreref31_Bruijn.body Try.f6.ntmps 3 (fnRes Try.f6) :=
  fnOk_of (by kernel_rfl) (by kernel_rfl) (by kernel_rfl) (by kernel_rfl)
theorem evermoreref31_Bruijn.con' : ∀ k ds r, evermoreref31_Bruijn.g k ds = some r → Con Try.prog 6 3 evermoreref31_Bruijn.ti evermoreref31_Bruijn.to ds (evermoreref31_Bruijn.rs r) :=
  fun_ok (T := T) T_ok mixed evermoreref31_Bruijn.fn (env := evermoreref31_Bruijn.env) (tbl := evermoreref31_Bruijn.tbl) (gOut := evermoreref31_Bruijn.out) (nin := 0) (cuts := []) (fuel := 100000) rfl (by kernel_rfl) (by kernel_rfl) (by kernel_rfl) (fun x hx => by
    simp only [evermoreref31_Bruijn.tbl, List.mem_cons, List.not_mem_nil, or_false] at hx
    rcases hx with rfl | rfl
    · exact evermoreref31_Bruijn.h7
    · exact evermoreref31_Bruijn.h15
) evermoreref31_Bruijn.o evermoreref31_Bruijn.h (fun k _ => by unfold evermoreref31_Bruijn.env; exact (envC_ok (fun ds K r h => by
    obtain ⟨x0, d0, rfl, h0⟩ := pop_some h
    obtain ⟨x1, d1, rfl, h1⟩ := pop_some h0
    obtain ⟨rfl, g⟩ := popN_some h1
    obtain ⟨r1, h1, h2⟩ := bind_some g
    exact ⟨_, h2, evermoreref31_All.con k _ h1⟩) env0_ok))
theorem evermoreref31_Bruijn.con (k : Nat) {x0 : (List Int)} {x1 : Int} {x2 : Int} (r : Bool) (h : evermoreref31_Bruijn.f k x0 x1 x2 = some r) : Con Try.prog 6 3 evermoreref31_Bruijn.ti evermoreref31_Bruijn.to [⟨(.slice (.int .i64)), x0⟩, ⟨(.int .i64), x1⟩, ⟨(.int .i64), x2⟩] (evermoreref31_Bruijn.rs r) :=
  evermoreref31_Bruijn.con' (k + 1) _ r (by show evermoreref31_Bruijn.c k _ = some r; unfold evermoreref31_Bruijn.c; simp only [pop_self, popN]; exact h)
mutual
def evermoreref31_First.l3 : Nat → Int → Int → List (Int) → List (Int) → Option (List Int)
 | 0, _, _, _, _ => none
 | k + 1, letters0, n1, out5, w6 =>
  if 0 < (↑w6.length : Int) then
   if (↑w6.length : Int) = 0 then
    none
   else
    if n1.tmod (↑w6.length : Int) = 0 then
     if (out5 ++ w6).length.blt 1000000000 = true then
     evermoreref31_First.j6 k letters0 n1 (out5 ++ w6) w6
     else none
    else
     evermoreref31_First.j6 k letters0 n1 out5 w6
  else
   some (out5)
def evermoreref31_First.j6 : Nat → Int → Int → List (Int) → List (Int) → Option (List Int)
 | 0, _, _, _, _ => none
 | k + 1, letters0, n1, out5, w6 =>
  evermoreref31_First.l8 k letters0 n1 0 out5 w6 []
def evermoreref31_First.l8 : Nat → Int → Int → Int → List (Int) → List (Int) → List (Int) → Option (List Int)
 | 0, _, _, _, _, _, _ => none
 | k + 1, letters0, n1, i8, out5, w6, next7 =>
  if i8 < n1 then
   if (↑w6.length : Int) = 0 then
    none
   else
    if 0 ≤ i8.tmod (↑w6.length : Int) then
    if i8.tmod (↑w6.length : Int) < (↑w6.length : Int) then
     if (next7 ++ [w6.getD (i8.tmod (↑w6.length : Int)).toNat (Int.ofNat 0)]).length.blt 1000000000 = true then
      evermoreref31_First.l8 k letters0 n1 (Go.IntKind.i64.wrap (i8 + 1)) out5 w6 (next7 ++ [w6.getD (i8.tmod (↑w6.length : Int)).toNat (Int.ofNat 0)])
      else none
     else none
    else none
  else
   evermoreref31_First.l12 k letters0 n1 n1 out5 next7
def evermoreref31_First.l12 : Nat → Int → Int → Int → List (Int) → List (Int) → Option (List Int)
 | 0, _, _, _, _, _ => none
 | k + 1, letters0, n1, k9, out5, next7 =>
  if 0 < k9 then
   if 0 ≤ Go.IntKind.i64.wrap (k9 - 1) then
   if Go.IntKind.i64.wrap (k9 - 1) < (↑next7.length : Int) then
    if next7.getD (Go.IntKind.i64.wrap (k9 - 1)).toNat (Int.ofNat 0) = Go.IntKind.i64.wrap (letters0 - 1) then
      evermoreref31_First.l12 k letters0 n1 (Go.IntKind.i64.wrap (k9 - 1)) out5 next7
     else
      if 0 ≤ 0 then
      if 0 ≤ k9 then
       if k9 ≤ (↑next7.length : Int) then
        if 0 < k9 then
          if 0 ≤ Go.IntKind.i64.wrap (k9 - 1) then
          if Go.IntKind.i64.wrap (k9 - 1) < (↑(k9.toNat - Int.toNat 0) : Int) then
           if 0 ≤ Go.IntKind.i64.wrap (k9 - 1) then
            if Go.IntKind.i64.wrap (k9 - 1) < (↑(k9.toNat - Int.toNat 0) : Int) then
             evermoreref31_First.j17 k letters0 n1 out5 (List.take (k9.toNat - Int.toNat 0) (List.drop (Int.toNat 0) (next7.set (Int.toNat 0 + (Go.IntKind.i64.wrap (k9 - 1)).toNat) (Go.IntKind.i64.wrap (next7.getD (Int.toNat 0 + (Go.IntKind.i64.wrap (k9 - 1)).toNat) (Int.ofNat 0) + 1)))))
             else none
            else none
           else none
          else none
         else
          evermoreref31_First.j17 k letters0 n1 out5 (List.take (k9.toNat - Int.toNat 0) (List.drop (Int.toNat 0) next7))
        else none
       else none
      else none
    else none
   else none
  else
   if 0 ≤ 0 then
   if 0 ≤ k9 then
    if k9 ≤ (↑next7.length : Int) then
     if 0 < k9 then
       if 0 ≤ Go.IntKind.i64.wrap (k9 - 1) then
       if Go.IntKind.i64.wrap (k9 - 1) < (↑(k9.toNat - Int.toNat 0) : Int) then
        if 0 ≤ Go.IntKind.i64.wrap (k9 - 1) then
         if Go.IntKind.i64.wrap (k9 - 1) < (↑(k9.toNat - Int.toNat 0) : Int) then
          evermoreref31_First.j17 k letters0 n1 out5 (List.take (k9.toNat - Int.toNat 0) (List.drop (Int.toNat 0) (next7.set (Int.toNat 0 + (Go.IntKind.i64.wrap (k9 - 1)).toNat) (Go.IntKind.i64.wrap (next7.getD (Int.toNat 0 + (Go.IntKind.i64.wrap (k9 - 1)).toNat) (Int.ofNat 0) + 1)))))
          else none
         else none
        else none
       else none
      else
       evermoreref31_First.j17 k letters0 n1 out5 (List.take (k9.toNat - Int.toNat 0) (List.drop (Int.toNat 0) next7))
     else none
    else none
   else none
def evermoreref31_First.j17 : Nat → Int → Int → List (Int) → List (Int) → Option (List Int)
 | 0, _, _, _, _ => none
 | k + 1, letters0, n1, out5, next7 =>
  evermoreref31_First.l3 k letters0 n1 out5 next7
end
def evermoreref31_First.f (k : Nat) (letters0 : Int) (n1 : Int) : Option (List Int) :=
 evermoreref31_First.l3 k letters0 n1 [] ([Int.ofNat 0])

noncomputable def evermoreref31_First.body : Code := fnBody Try.f7
def evermoreref31_First.ti : Tm := ⟨[(0, .p (.int .i64)), (1, .p (.int .i64))], []⟩
def evermoreref31_First.to : Tm := ⟨[(0, .own 0)], [.own (.int .i64)]⟩
def evermoreref31_First.rs (r : (List Int)) : List Dat := [⟨(.slice (.int .i64)), r⟩]
def evermoreref31_First.out (ds : List Dat) : Option ((List Int)) := pop (.slice (.int .i64)) ds fun x0 ds => popN ds (some (x0))
def evermoreref31_First.c (k : Nat) (ds : List Dat) : Option ((List Int)) := pop (.int .i64) ds fun x0 ds => pop (.int .i64) ds fun x1 ds => popN ds (evermoreref31_First.f k x0 x1)
def evermoreref31_First.g : Nat → List Dat → Option ((List Int))
 | 0, _ => none
 | k + 1, ds => evermoreref31_First.c k ds
def evermoreref31_First.env (k : Nat) : Nat → List SV → List Chunk → KT ((List Int)) → Option ((List Int)) := env0
def evermoreref31_First.t7 : Tm := ⟨[(0, .p (.int .i64)), (1, .p (.int .i64)), (5, .own 0), (6, .own 1)], [.own (.int .i64), .own (.int .i64)]⟩
def evermoreref31_First.c7 (k : Nat) (ds : List Dat) : Option ((List Int)) := pop (.int .i64) ds fun x0 ds => pop (.int .i64) ds fun x1 ds => pop (.slice (.int .i64)) ds fun x2 ds => pop (.slice (.int .i64)) ds fun x3 ds => popN ds (evermoreref31_First.l3 k x0 x1 x2 x3)
def evermoreref31_First.t12 : Tm := ⟨[(0, .p (.int .i64)), (1, .p (.int .i64)), (5, .own 0), (6, .own 1)], [.own (.int .i64), .own (.int .i64)]⟩
def evermoreref31_First.c12 (k : Nat) (ds : List Dat) : Option ((List Int)) := pop (.int .i64) ds fun x0 ds => pop (.int .i64) ds fun x1 ds => pop (.slice (.int .i64)) ds fun x2 ds => pop (.slice (.int .i64)) ds fun x3 ds => popN ds (evermoreref31_First.j6 k x0 x1 x2 x3)
def evermoreref31_First.t17 : Tm := ⟨[(0, .p (.int .i64)), (1, .p (.int .i64)), (5, .own 0), (6, .own 1), (7, .own 2), (8, .p (.int .i64))], [.own (.int .i64), .own (.int .i64), .own (.int .i64)]⟩
def evermoreref31_First.c17 (k : Nat) (ds : List Dat) : Option ((List Int)) := pop (.int .i64) ds fun x0 ds => pop (.int .i64) ds fun x1 ds => pop (.int .i64) ds fun x2 ds => pop (.slice (.int .i64)) ds fun x3 ds => pop (.slice (.int .i64)) ds fun x4 ds => pop (.slice (.int .i64)) ds fun x5 ds => popN ds (evermoreref31_First.l8 k x0 x1 x2 x3 x4 x5)
def evermoreref31_First.t25 : Tm := ⟨[(0, .p (.int .i64)), (1, .p (.int .i64)), (5, .own 0), (7, .own 1), (9, .p (.int .i64))], [.own (.int .i64), .own (.int .i64)]⟩
def evermoreref31_First.c25 (k : Nat) (ds : List Dat) : Option ((List Int)) := pop (.int .i64) ds fun x0 ds => pop (.int .i64) ds fun x1 ds => pop (.int .i64) ds fun x2 ds => pop (.slice (.int .i64)) ds fun x3 ds => pop (.slice (.int .i64)) ds fun x4 ds => popN ds (evermoreref31_First.l12 k x0 x1 x2 x3 x4)
def evermoreref31_First.t34 : Tm := ⟨[(0, .p (.int .i64)), (1, .p (.int .i64)), (5, .own 0), (7, .own 1)], [.own (.int .i64), .own (.int .i64)]⟩
def evermoreref31_First.c34 (k : Nat) (ds : List Dat) : Option ((List Int)) := pop (.int .i64) ds fun x0 ds => pop (.int .i64) ds fun x1 ds => pop (.slice (.int .i64)) ds fun x2 ds => pop (.slice (.int .i64)) ds fun x3 ds => popN ds (evermoreref31_First.j17 k x0 x1 x2 x3)
def evermoreref31_First.tbl : List (Nat × Tm × (Nat → List Dat → Option ((List Int)))) := [(7, evermoreref31_First.t7, evermoreref31_First.c7), (12, evermoreref31_First.t12, evermoreref31_First.c12), (17, evermoreref31_First.t17, evermoreref31_First.c17), (25, evermoreref31_First.t25, evermoreref31_First.c25), (34, evermoreref31_First.t34, evermoreref31_First.c34)]
noncomputable abbrev evermoreref31_First.R (k : Nat) := run T (evermoreref31_First.env k) Try.f7.ntmps (cutE 0 evermoreref31_First.tbl k) (finE 0 evermoreref31_First.to evermoreref31_First.out) (fnRes Try.f7) [17, 6] 100000 true
theorem evermoreref31_First.e7 (k : Nat) (x0 : Int) (x1 : Int) (x2 : (List Int)) (x3 : (List Int)) : evermoreref31_First.l3 (k + 1) x0 x1 x2 x3 = evermoreref31_First.R k (start (stackOf 7 evermoreref31_First.body)) (evermoreref31_First.t7.fill [⟨(.int .i64), x0⟩, ⟨(.int .i64), x1⟩, ⟨(.slice (.int .i64)), x2⟩, ⟨(.slice (.int .i64)), x3⟩]) := by kernel_rfl
theorem evermoreref31_First.s7 : stackAt 7 evermoreref31_First.body [] = some (stackOf 7 evermoreref31_First.body) := by kernel_rfl
theorem evermoreref31_First.h7 (k : Nat) (ds : List Dat) (r : (List Int)) (h : evermoreref31_First.c7 k ds = some r) : ∃ k', k' < k ∧ ∃ s, stackAt 7 evermoreref31_First.body [] = some s ∧ evermoreref31_First.R k' (start s) (evermoreref31_First.t7.fill ds) = some r := by
  unfold evermoreref31_First.c7 at h
  obtain ⟨x0, d0, rfl, h0⟩ := pop_some h
  obtain ⟨x1, d1, rfl, h1⟩ := pop_some h0
  obtain ⟨x2, d2, rfl, h2⟩ := pop_some h1
  obtain ⟨x3, d3, rfl, h3⟩ := pop_some h2
  obtain ⟨rfl, g⟩ := popN_some h3
  cases k with
  | zero => cases (show none = some r from g)
  | succ k => exact ⟨k, Nat.lt_succ_self k, _, evermoreref31_First.s7, (evermoreref31_First.e7 k x0 x1 x2 x3).symm.trans g⟩
theorem evermoreref31_First.e12 (k : Nat) (x0 : Int) (x1 : Int) (x2 : (List Int)) (x3 : (List Int)) : evermoreref31_First.j6 (k + 1) x0 x1 x2 x3 = evermoreref31_First.R k (start (stackOf 12 evermoreref31_First.body)) (evermoreref31_First.t12.fill [⟨(.int .i64), x0⟩, ⟨(.int .i64), x1⟩, ⟨(.slice (.int .i64)), x2⟩, ⟨(.slice (.int .i64)), x3⟩]) := by kernel_rfl
theorem evermoreref31_First.s12 : stackAt 12 evermoreref31_First.body [] = some (stackOf 12 evermoreref31_First.body) := by kernel_rfl
theorem evermoreref31_First.h12 (k : Nat) (ds : List Dat) (r : (List Int)) (h : evermoreref31_First.c12 k ds = some r) : ∃ k', k' < k ∧ ∃ s, stackAt 12 evermoreref31_First.body [] = some s ∧ evermoreref31_First.R k' (start s) (evermoreref31_First.t12.fill ds) = some r := by
  unfold evermoreref31_First.c12 at h
  obtain ⟨x0, d0, rfl, h0⟩ := pop_some h
  obtain ⟨x1, d1, rfl, h1⟩ := pop_some h0
  obtain ⟨x2, d2, rfl, h2⟩ := pop_some h1
  obtain ⟨x3, d3, rfl, h3⟩ := pop_some h2
  obtain ⟨rfl, g⟩ := popN_some h3
  cases k with
  | zero => cases (show none = some r from g)
  | succ k => exact ⟨k, Nat.lt_succ_self k, _, evermoreref31_First.s12, (evermoreref31_First.e12 k x0 x1 x2 x3).symm.trans g⟩
theorem evermoreref31_First.e17 (k : Nat) (x0 : Int) (x1 : Int) (x2 : Int) (x3 : (List Int)) (x4 : (List Int)) (x5 : (List Int)) : evermoreref31_First.l8 (k + 1) x0 x1 x2 x3 x4 x5 = evermoreref31_First.R k (start (stackOf 17 evermoreref31_First.body)) (evermoreref31_First.t17.fill [⟨(.int .i64), x0⟩, ⟨(.int .i64), x1⟩, ⟨(.int .i64), x2⟩, ⟨(.slice (.int .i64)), x3⟩, ⟨(.slice (.int .i64)), x4⟩, ⟨(.slice (.int .i64)), x5⟩]) := by kernel_rfl
theorem evermoreref31_First.s17 : stackAt 17 evermoreref31_First.body [] = some (stackOf 17 evermoreref31_First.body) := by kernel_rfl
theorem evermoreref31_First.h17 (k : Nat) (ds : List Dat) (r : (List Int)) (h : evermoreref31_First.c17 k ds = some r) : ∃ k', k' < k ∧ ∃ s, stackAt 17 evermoreref31_First.body [] = some s ∧ evermoreref31_First.R k' (start s) (evermoreref31_First.t17.fill ds) = some r := by
  unfold evermoreref31_First.c17 at h
  obtain ⟨x0, d0, rfl, h0⟩ := pop_some h
  obtain ⟨x1, d1, rfl, h1⟩ := pop_some h0
  obtain ⟨x2, d2, rfl, h2⟩ := pop_some h1
  obtain ⟨x3, d3, rfl, h3⟩ := pop_some h2
  obtain ⟨x4, d4, rfl, h4⟩ := pop_some h3
  obtain ⟨x5, d5, rfl, h5⟩ := pop_some h4
  obtain ⟨rfl, g⟩ := popN_some h5
  cases k with
  | zero => cases (show none = some r from g)
  | succ k => exact ⟨k, Nat.lt_succ_self k, _, evermoreref31_First.s17, (evermoreref31_First.e17 k x0 x1 x2 x3 x4 x5).symm.trans g⟩
theorem evermoreref31_First.e25 (k : Nat) (x0 : Int) (x1 : Int) (x2 : Int) (x3 : (List Int)) (x4 : (List Int)) : evermoreref31_First.l12 (k + 1) x0 x1 x2 x3 x4 = evermoreref31_First.R k (start (stackOf 25 evermoreref31_First.body)) (evermoreref31_First.t25.fill [⟨(.int .i64), x0⟩, ⟨(.int .i64), x1⟩, ⟨(.int .i64), x2⟩, ⟨(.slice (.int .i64)), x3⟩, ⟨(.slice (.int .i64)), x4⟩]) := by kernel_rfl
theorem evermoreref31_First.s25 : stackAt 25 evermoreref31_First.body [] = some (stackOf 25 evermoreref31_First.body) := by kernel_rfl
theorem evermoreref31_First.h25 (k : Nat) (ds : List Dat) (r : (List Int)) (h : evermoreref31_First.c25 k ds = some r) : ∃ k', k' < k ∧ ∃ s, stackAt 25 evermoreref31_First.body [] = some s ∧ evermoreref31_First.R k' (start s) (evermoreref31_First.t25.fill ds) = some r := by
  unfold evermoreref31_First.c25 at h
  obtain ⟨x0, d0, rfl, h0⟩ := pop_some h
  obtain ⟨x1, d1, rfl, h1⟩ := pop_some h0
  obtain ⟨x2, d2, rfl, h2⟩ := pop_some h1
  obtain ⟨x3, d3, rfl, h3⟩ := pop_some h2
  obtain ⟨x4, d4, rfl, h4⟩ := pop_some h3
  obtain ⟨rfl, g⟩ := popN_some h4
  cases k with
  | zero => cases (show none = some r from g)
  | succ k => exact ⟨k, Nat.lt_succ_self k, _, evermoreref31_First.s25, (evermoreref31_First.e25 k x0 x1 x2 x3 x4).symm.trans g⟩
theorem evermoreref31_First.e34 (k : Nat) (x0 : Int) (x1 : Int) (x2 : (List Int)) (x3 : (List Int)) : evermoreref31_First.j17 (k + 1) x0 x1 x2 x3 = evermoreref31_First.R k (start (stackOf 34 evermoreref31_First.body)) (evermoreref31_First.t34.fill [⟨(.int .i64), x0⟩, ⟨(.int .i64), x1⟩, ⟨(.slice (.int .i64)), x2⟩, ⟨(.slice (.int .i64)), x3⟩]) := by kernel_rfl
theorem evermoreref31_First.s34 : stackAt 34 evermoreref31_First.body [] = some (stackOf 34 evermoreref31_First.body) := by kernel_rfl
theorem evermoreref31_First.h34 (k : Nat) (ds : List Dat) (r : (List Int)) (h : evermoreref31_First.c34 k ds = some r) : ∃ k', k' < k ∧ ∃ s, stackAt 34 evermoreref31_First.body [] = some s ∧ evermoreref31_First.R k' (start s) (evermoreref31_First.t34.fill ds) = some r := by
  unfold evermoreref31_First.c34 at h
  obtain ⟨x0, d0, rfl, h0⟩ := pop_some h
  obtain ⟨x1, d1, rfl, h1⟩ := pop_some h0
  obtain ⟨x2, d2, rfl, h2⟩ := pop_some h1
  obtain ⟨x3, d3, rfl, h3⟩ := pop_some h2
  obtain ⟨rfl, g⟩ := popN_some h3
  cases k with
  | zero => cases (show none = some r from g)
  | succ k => exact ⟨k, Nat.lt_succ_self k, _, evermoreref31_First.s34, (evermoreref31_First.e34 k x0 x1 x2 x3).symm.trans g⟩
theorem evermoreref31_First.e (k : Nat) (x0 : Int) (x1 : Int) : evermoreref31_First.f k x0 x1 = evermoreref31_First.R k ([.code evermoreref31_First.body]) (evermoreref31_First.ti.fill [⟨(.int .i64), x0⟩, ⟨(.int .i64), x1⟩]) := by kernel_rfl
theorem evermoreref31_First.h (k : Nat) (ds : List Dat) (r : (List Int)) (h : evermoreref31_First.g k ds = some r) : ∃ k', k' < k ∧ evermoreref31_First.R k' ([.code evermoreref31_First.body]) (evermoreref31_First.ti.fill ds) = some r := by
  cases k with
  | zero => cases (show none = some r from h)
  | succ k =>
  replace h : evermoreref31_First.c k ds = some r := h
  unfold evermoreref31_First.c at h
  obtain ⟨x0, d0, rfl, h0⟩ := pop_some h
  obtain ⟨x1, d1, rfl, h1⟩ := pop_some h0
  obtain ⟨rfl, g⟩ := popN_some h1
  exact ⟨k, Nat.lt_succ_self k, (evermoreref31_First.e k x0 x1).symm.trans g⟩
theorem evermoreref31_First.o (ds : List Dat) (r : (List Int)) (h : evermoreref31_First.out ds = some r) : ds = evermoreref31_First.rs r := by
  unfold evermoreref31_First.out at h
  obtain ⟨x0, d0, rfl, h0⟩ := pop_some h
  obtain ⟨rfl, g⟩ := popN_some h0
  cases g
  rfl
theorem evermoreref31_First.fn : FnOk Try.prog 7 Try.f7 evermoreref31_First.body Try.f7.ntmps 2 (fnRes Try.f7) :=
  fnOk_of (by kernel_rfl) (by kernel_rfl) (by kernel_rfl) (by kernel_rfl)
theorem evermoreref31_First.con' : ∀ k ds r, evermoreref31_First.g k ds = some r → Con Try.prog 7 2 evermoreref31_First.ti evermoreref31_First.to ds (evermoreref31_First.rs r) :=
  fun_ok (T := T) T_ok mixed evermoreref31_First.fn (env := evermoreref31_First.env) (tbl := evermoreref31_First.tbl) (gOut := evermoreref31_First.out) (nin := 0) (cuts := [17, 6]) (fuel := 100000) rfl (by kernel_rfl) (by kernel_rfl) (by kernel_rfl) (fun x hx => by
    simp only [evermoreref31_First.tbl, List.mem_cons, List.not_mem_nil, or_false] at hx
    rcases hx with rfl | rfl | rfl | rfl | rfl
    · exact evermoreref31_First.h7
    · exact evermoreref31_First.h12
    · exact evermoreref31_First.h17
    · exact evermoreref31_First.h25
    · exact evermoreref31_First.h34
) evermoreref31_First.o evermoreref31_First.h (fun k _ => by unfold evermoreref31_First.env; exact env0_ok)
theorem evermoreref31_First.con (k : Nat) {x0 : Int} {x1 : Int} (r : (List Int)) (h : evermoreref31_First.f k x0 x1 = some r) : Con Try.prog 7 2 evermoreref31_First.ti evermoreref31_First.to [⟨(.int .i64), x0⟩, ⟨(.int .i64), x1⟩] (evermoreref31_First.rs r) :=
  evermoreref31_First.con' (k + 1) _ r (by show evermoreref31_First.c k _ = some r; unfold evermoreref31_First.c; simp only [pop_self, popN]; exact h)
mutual
def evermoreref1_Words.l4 : Nat → List (Int) → List (Int) → Int → Option (Bool)
 | 0, _, _, _ => none
 | k + 1, a0, b1, i5 =>
  if i5 < (↑a0.length : Int) then
   if 0 ≤ i5 then
   if i5 < (↑a0.length : Int) then
    if 0 ≤ i5 then
     if i5 < (↑b1.length : Int) then
      if Go.Proofs.YtooagmggibdlbaaSx.rd (Int.ofNat 0) a0 i5 = Go.Proofs.YtooagmggibdlbaaSx.rd (Int.ofNat 0) b1 i5 then
        evermoreref1_Words.l4 k a0 b1 (Go.IntKind.i64.wrap (i5 + 1))
       else
        some (false)
      else none
     else none
    else none
   else none
  else
   some (true)
end
def evermoreref1_Words.f (k : Nat) (a0 : List (Int)) (b1 : List (Int)) : Option (Bool) :=
 if (↑a0.length : Int) = (↑b1.length : Int) then
  evermoreref1_Words.l4 k a0 b1 0
 else
  some (false)

noncomputable def evermoreref1_Words.body : Code := fnBody Try.f8
def evermoreref1_Words.ti : Tm := ⟨[(0, .p (.slice (.int .i64))), (1, .p (.slice (.int .i64)))], []⟩
def evermoreref1_Words.to : Tm := ⟨[(0, .p .bool)], []⟩
def evermoreref1_Words.rs (r : Bool) : List Dat := [⟨.bool, r⟩]
def evermoreref1_Words.out (ds : List Dat) : Option (Bool) := pop .bool ds fun x0 ds => popN ds (some (x0))
def evermoreref1_Words.c (k : Nat) (ds : List Dat) : Option (Bool) := pop (.slice (.int .i64)) ds fun x0 ds => pop (.slice (.int .i64)) ds fun x1 ds => popN ds (evermoreref1_Words.f k x0 x1)
def evermoreref1_Words.g : Nat → List Dat → Option (Bool)
 | 0, _ => none
 | k + 1, ds => evermoreref1_Words.c k ds
def evermoreref1_Words.env (k : Nat) : Nat → List SV → List Chunk → KT (Bool) → Option (Bool) := env0
def evermoreref1_Words.t9 : Tm := ⟨[(0, .p (.slice (.int .i64))), (1, .p (.slice (.int .i64))), (5, .p (.int .i64))], []⟩
def evermoreref1_Words.c9 (k : Nat) (ds : List Dat) : Option (Bool) := pop (.slice (.int .i64)) ds fun x0 ds => pop (.slice (.int .i64)) ds fun x1 ds => pop (.int .i64) ds fun x2 ds => popN ds (evermoreref1_Words.l4 k x0 x1 x2)
def evermoreref1_Words.tbl : List (Nat × Tm × (Nat → List Dat → Option (Bool))) := [(9, evermoreref1_Words.t9, evermoreref1_Words.c9)]
noncomputable abbrev evermoreref1_Words.R (k : Nat) := run T (evermoreref1_Words.env k) Try.f8.ntmps (cutE 0 evermoreref1_Words.tbl k) (finE 0 evermoreref1_Words.to evermoreref1_Words.out) (fnRes Try.f8) [] 100000 true
theorem evermoreref1_Words.e9 (k : Nat) (x0 : (List Int)) (x1 : (List Int)) (x2 : Int) : evermoreref1_Words.l4 (k + 1) x0 x1 x2 = evermoreref1_Words.R k (start (stackOf 9 evermoreref1_Words.body)) (evermoreref1_Words.t9.fill [⟨(.slice (.int .i64)), x0⟩, ⟨(.slice (.int .i64)), x1⟩, ⟨(.int .i64), x2⟩]) := by kernel_rfl
theorem evermoreref1_Words.s9 : stackAt 9 evermoreref1_Words.body [] = some (stackOf 9 evermoreref1_Words.body) := by kernel_rfl
theorem evermoreref1_Words.h9 (k : Nat) (ds : List Dat) (r : Bool) (h : evermoreref1_Words.c9 k ds = some r) : ∃ k', k' < k ∧ ∃ s, stackAt 9 evermoreref1_Words.body [] = some s ∧ evermoreref1_Words.R k' (start s) (evermoreref1_Words.t9.fill ds) = some r := by
  unfold evermoreref1_Words.c9 at h
  obtain ⟨x0, d0, rfl, h0⟩ := pop_some h
  obtain ⟨x1, d1, rfl, h1⟩ := pop_some h0
  obtain ⟨x2, d2, rfl, h2⟩ := pop_some h1
  obtain ⟨rfl, g⟩ := popN_some h2
  cases k with
  | zero => cases (show none = some r from g)
  | succ k => exact ⟨k, Nat.lt_succ_self k, _, evermoreref1_Words.s9, (evermoreref1_Words.e9 k x0 x1 x2).symm.trans g⟩
theorem evermoreref1_Words.e (k : Nat) (x0 : (List Int)) (x1 : (List Int)) : evermoreref1_Words.f k x0 x1 = evermoreref1_Words.R k ([.code evermoreref1_Words.body]) (evermoreref1_Words.ti.fill [⟨(.slice (.int .i64)), x0⟩, ⟨(.slice (.int .i64)), x1⟩]) := by kernel_rfl
theorem evermoreref1_Words.h (k : Nat) (ds : List Dat) (r : Bool) (h : evermoreref1_Words.g k ds = some r) : ∃ k', k' < k ∧ evermoreref1_Words.R k' ([.code evermoreref1_Words.body]) (evermoreref1_Words.ti.fill ds) = some r := by
  cases k with
  | zero => cases (show none = some r from h)
  | succ k =>
  replace h : evermoreref1_Words.c k ds = some r := h
  unfold evermoreref1_Words.c at h
  obtain ⟨x0, d0, rfl, h0⟩ := pop_some h
  obtain ⟨x1, d1, rfl, h1⟩ := pop_some h0
  obtain ⟨rfl, g⟩ := popN_some h1
  exact ⟨k, Nat.lt_succ_self k, (evermoreref1_Words.e k x0 x1).symm.trans g⟩
theorem evermoreref1_Words.o (ds : List Dat) (r : Bool) (h : evermoreref1_Words.out ds = some r) : ds = evermoreref1_Words.rs r := by
  unfold evermoreref1_Words.out at h
  obtain ⟨x0, d0, rfl, h0⟩ := pop_some h
  obtain ⟨rfl, g⟩ := popN_some h0
  cases g
  rfl
theorem evermoreref1_Words.fn : FnOk Try.prog 8 Try.f8 evermoreref1_Words.body Try.f8.ntmps 2 (fnRes Try.f8) :=
  fnOk_of (by kernel_rfl) (by kernel_rfl) (by kernel_rfl) (by kernel_rfl)
theorem evermoreref1_Words.con' : ∀ k ds r, evermoreref1_Words.g k ds = some r → Con Try.prog 8 2 evermoreref1_Words.ti evermoreref1_Words.to ds (evermoreref1_Words.rs r) :=
  fun_ok (T := T) T_ok mixed evermoreref1_Words.fn (env := evermoreref1_Words.env) (tbl := evermoreref1_Words.tbl) (gOut := evermoreref1_Words.out) (nin := 0) (cuts := []) (fuel := 100000) rfl (by kernel_rfl) (by kernel_rfl) (by kernel_rfl) (fun x hx => by
    simp only [evermoreref1_Words.tbl, List.mem_cons, List.not_mem_nil, or_false] at hx
    subst hx
    · exact evermoreref1_Words.h9
) evermoreref1_Words.o evermoreref1_Words.h (fun k _ => by unfold evermoreref1_Words.env; exact env0_ok)
theorem evermoreref1_Words.con (k : Nat) {x0 : (List Int)} {x1 : (List Int)} (r : Bool) (h : evermoreref1_Words.f k x0 x1 = some r) : Con Try.prog 8 2 evermoreref1_Words.ti evermoreref1_Words.to [⟨(.slice (.int .i64)), x0⟩, ⟨(.slice (.int .i64)), x1⟩] (evermoreref1_Words.rs r) :=
  evermoreref1_Words.con' (k + 1) _ r (by show evermoreref1_Words.c k _ = some r; unfold evermoreref1_Words.c; simp only [pop_self, popN]; exact h)
mutual
def evermorelaw_LyndonBruijn.j8 : Nat → Int → Int → Int → Int → List (Int) → Option (Bool)
 | 0, _, _, _, _, _ => none
 | k + 1, letters0, n1, e6, no7, w5 =>
  if no7 = 0 then
   (evermoreref31_Bruijn.f k w5 letters0 n1).bind fun r3 =>
    (evermoreref31_First.f k letters0 n1).bind fun r4 =>
     (evermoreref1_Words.f k w5 r4).bind fun r5 =>
      if e6 = 0 then
       if r3 = true then
        some (r5)
       else
        some (false)
      else
       some (false)
  else
   if e6 = no7 then
    some (decide ((↑w5.length : Int) = 0))
   else
    some (false)
end
def evermorelaw_LyndonBruijn.f (k : Nat) (letters0 : Int) (n1 : Int) : Option (Bool) :=
 (lyndon_Bruijn.f k letters0 n1).bind fun r1 =>
  if letters0 < 1 then
   evermorelaw_LyndonBruijn.j8 k letters0 n1 r1.fst 2 r1.snd
  else
   if 4 < letters0 then
    evermorelaw_LyndonBruijn.j8 k letters0 n1 r1.fst 2 r1.snd
   else
    if n1 < 1 then
     evermorelaw_LyndonBruijn.j8 k letters0 n1 r1.fst 2 r1.snd
    else
     if 8 < n1 then
      evermorelaw_LyndonBruijn.j8 k letters0 n1 r1.fst 2 r1.snd
     else
      (evermoreref31_All.f k letters0 n1).bind fun r6 =>
       if 256 < r6 then
        evermorelaw_LyndonBruijn.j8 k letters0 n1 r1.fst 7 r1.snd
       else
        evermorelaw_LyndonBruijn.j8 k letters0 n1 r1.fst 0 r1.snd

noncomputable def evermorelaw_LyndonBruijn.body : Code := fnBody Try.f3
def evermorelaw_LyndonBruijn.ti : Tm := ⟨[(0, .p (.int .i64)), (1, .p (.int .i64))], []⟩
def evermorelaw_LyndonBruijn.to : Tm := ⟨[(0, .p .bool)], []⟩
def evermorelaw_LyndonBruijn.rs (r : Bool) : List Dat := [⟨.bool, r⟩]
def evermorelaw_LyndonBruijn.out (ds : List Dat) : Option (Bool) := pop .bool ds fun x0 ds => popN ds (some (x0))
def evermorelaw_LyndonBruijn.c (k : Nat) (ds : List Dat) : Option (Bool) := pop (.int .i64) ds fun x0 ds => pop (.int .i64) ds fun x1 ds => popN ds (evermorelaw_LyndonBruijn.f k x0 x1)
def evermorelaw_LyndonBruijn.g : Nat → List Dat → Option (Bool)
 | 0, _ => none
 | k + 1, ds => evermorelaw_LyndonBruijn.c k ds
def evermorelaw_LyndonBruijn.env (k : Nat) : Nat → List SV → List Chunk → KT (Bool) → Option (Bool) := (envC 6 3 evermoreref31_Bruijn.ti evermoreref31_Bruijn.to (fun ds K => pop (.slice (.int .i64)) ds fun x0 ds => pop (.int .i64) ds fun x1 ds => pop (.int .i64) ds fun x2 ds => popN ds ((evermoreref31_Bruijn.f k x0 x1 x2).bind fun r => K (evermoreref31_Bruijn.rs r))) (envC 7 2 evermoreref31_First.ti evermoreref31_First.to (fun ds K => pop (.int .i64) ds fun x0 ds => pop (.int .i64) ds fun x1 ds => popN ds ((evermoreref31_First.f k x0 x1).bind fun r => K (evermoreref31_First.rs r))) (envC 8 2 evermoreref1_Words.ti evermoreref1_Words.to (fun ds K => pop (.slice (.int .i64)) ds fun x0 ds => pop (.slice (.int .i64)) ds fun x1 ds => popN ds ((evermoreref1_Words.f k x0 x1).bind fun r => K (evermoreref1_Words.rs r))) (envC 4 2 lyndon_Bruijn.ti lyndon_Bruijn.to (fun ds K => pop (.int .i64) ds fun x0 ds => pop (.int .i64) ds fun x1 ds => popN ds ((lyndon_Bruijn.f k x0 x1).bind fun r => K (lyndon_Bruijn.rs r))) (envC 5 2 evermoreref31_All.ti evermoreref31_All.to (fun ds K => pop (.int .i64) ds fun x0 ds => pop (.int .i64) ds fun x1 ds => popN ds ((evermoreref31_All.f k x0 x1).bind fun r => K (evermoreref31_All.rs r))) env0)))))
def evermorelaw_LyndonBruijn.t16 : Tm := ⟨[(0, .p (.int .i64)), (1, .p (.int .i64)), (5, .own 0), (6, .p (.int .i64)), (7, .p (.int .i64))], [.own (.int .i64)]⟩
def evermorelaw_LyndonBruijn.c16 (k : Nat) (ds : List Dat) : Option (Bool) := pop (.int .i64) ds fun x0 ds => pop (.int .i64) ds fun x1 ds => pop (.int .i64) ds fun x2 ds => pop (.int .i64) ds fun x3 ds => pop (.slice (.int .i64)) ds fun x4 ds => popN ds (evermorelaw_LyndonBruijn.j8 k x0 x1 x2 x3 x4)
def evermorelaw_LyndonBruijn.tbl : List (Nat × Tm × (Nat → List Dat → Option (Bool))) := [(16, evermorelaw_LyndonBruijn.t16, evermorelaw_LyndonBruijn.c16)]
noncomputable abbrev evermorelaw_LyndonBruijn.R (k : Nat) := run T (evermorelaw_LyndonBruijn.env k) Try.f3.ntmps (cutE 0 evermorelaw_LyndonBruijn.tbl k) (finE 0 evermorelaw_LyndonBruijn.to evermorelaw_LyndonBruijn.out) (fnRes Try.f3) [8] 100000 true
theorem evermorelaw_LyndonBruijn.e16 (k : Nat) (x0 : Int) (x1 : Int) (x2 : Int) (x3 : Int) (x4 : (List Int)) : evermorelaw_LyndonBruijn.j8 (k + 1) x0 x1 x2 x3 x4 = evermorelaw_LyndonBruijn.R k (start (stackOf 16 evermorelaw_LyndonBruijn.body)) (evermorelaw_LyndonBruijn.t16.fill [⟨(.int .i64), x0⟩, ⟨(.int .i64), x1⟩, ⟨(.int .i64), x2⟩, ⟨(.int .i64), x3⟩, ⟨(.slice (.int .i64)), x4⟩]) := by kernel_rfl
theorem evermorelaw_LyndonBruijn.s16 : stackAt 16 evermorelaw_LyndonBruijn.body [] = some (stackOf 16 evermorelaw_LyndonBruijn.body) := by kernel_rfl
theorem evermorelaw_LyndonBruijn.h16 (k : Nat) (ds : List Dat) (r : Bool) (h : evermorelaw_LyndonBruijn.c16 k ds = some r) : ∃ k', k' < k ∧ ∃ s, stackAt 16 evermorelaw_LyndonBruijn.body [] = some s ∧ evermorelaw_LyndonBruijn.R k' (start s) (evermorelaw_LyndonBruijn.t16.fill ds) = some r := by
  unfold evermorelaw_LyndonBruijn.c16 at h
  obtain ⟨x0, d0, rfl, h0⟩ := pop_some h
  obtain ⟨x1, d1, rfl, h1⟩ := pop_some h0
  obtain ⟨x2, d2, rfl, h2⟩ := pop_some h1
  obtain ⟨x3, d3, rfl, h3⟩ := pop_some h2
  obtain ⟨x4, d4, rfl, h4⟩ := pop_some h3
  obtain ⟨rfl, g⟩ := popN_some h4
  cases k with
  | zero => cases (show none = some r from g)
  | succ k => exact ⟨k, Nat.lt_succ_self k, _, evermorelaw_LyndonBruijn.s16, (evermorelaw_LyndonBruijn.e16 k x0 x1 x2 x3 x4).symm.trans g⟩
theorem evermorelaw_LyndonBruijn.e (k : Nat) (x0 : Int) (x1 : Int) : evermorelaw_LyndonBruijn.f k x0 x1 = evermorelaw_LyndonBruijn.R k ([.code evermorelaw_LyndonBruijn.body]) (evermorelaw_LyndonBruijn.ti.fill [⟨(.int .i64), x0⟩, ⟨(.int .i64), x1⟩]) := by kernel_rfl
theorem evermorelaw_LyndonBruijn.h (k : Nat) (ds : List Dat) (r : Bool) (h : evermorelaw_LyndonBruijn.g k ds = some r) : ∃ k', k' < k ∧ evermorelaw_LyndonBruijn.R k' ([.code evermorelaw_LyndonBruijn.body]) (evermorelaw_LyndonBruijn.ti.fill ds) = some r := by
  cases k with
  | zero => cases (show none = some r from h)
  | succ k =>
  replace h : evermorelaw_LyndonBruijn.c k ds = some r := h
  unfold evermorelaw_LyndonBruijn.c at h
  obtain ⟨x0, d0, rfl, h0⟩ := pop_some h
  obtain ⟨x1, d1, rfl, h1⟩ := pop_some h0
  obtain ⟨rfl, g⟩ := popN_some h1
  exact ⟨k, Nat.lt_succ_self k, (evermorelaw_LyndonBruijn.e k x0 x1).symm.trans g⟩
theorem evermorelaw_LyndonBruijn.o (ds : List Dat) (r : Bool) (h : evermorelaw_LyndonBruijn.out ds = some r) : ds = evermorelaw_LyndonBruijn.rs r := by
  unfold evermorelaw_LyndonBruijn.out at h
  obtain ⟨x0, d0, rfl, h0⟩ := pop_some h
  obtain ⟨rfl, g⟩ := popN_some h0
  cases g
  rfl
theorem evermorelaw_LyndonBruijn.fn : FnOk Try.prog 3 Try.f3 evermorelaw_LyndonBruijn.body Try.f3.ntmps 2 (fnRes Try.f3) :=
  fnOk_of (by kernel_rfl) (by kernel_rfl) (by kernel_rfl) (by kernel_rfl)
theorem evermorelaw_LyndonBruijn.con' : ∀ k ds r, evermorelaw_LyndonBruijn.g k ds = some r → Con Try.prog 3 2 evermorelaw_LyndonBruijn.ti evermorelaw_LyndonBruijn.to ds (evermorelaw_LyndonBruijn.rs r) :=
  fun_ok (T := T) T_ok mixed evermorelaw_LyndonBruijn.fn (env := evermorelaw_LyndonBruijn.env) (tbl := evermorelaw_LyndonBruijn.tbl) (gOut := evermorelaw_LyndonBruijn.out) (nin := 0) (cuts := [8]) (fuel := 100000) rfl (by kernel_rfl) (by kernel_rfl) (by kernel_rfl) (fun x hx => by
    simp only [evermorelaw_LyndonBruijn.tbl, List.mem_cons, List.not_mem_nil, or_false] at hx
    subst hx
    · exact evermorelaw_LyndonBruijn.h16
) evermorelaw_LyndonBruijn.o evermorelaw_LyndonBruijn.h (fun k _ => by unfold evermorelaw_LyndonBruijn.env; exact (envC_ok (fun ds K r h => by
    obtain ⟨x0, d0, rfl, h0⟩ := pop_some h
    obtain ⟨x1, d1, rfl, h1⟩ := pop_some h0
    obtain ⟨x2, d2, rfl, h2⟩ := pop_some h1
    obtain ⟨rfl, g⟩ := popN_some h2
    obtain ⟨r1, h1, h2⟩ := bind_some g
    exact ⟨_, h2, evermoreref31_Bruijn.con k _ h1⟩) (envC_ok (fun ds K r h => by
    obtain ⟨x0, d0, rfl, h0⟩ := pop_some h
    obtain ⟨x1, d1, rfl, h1⟩ := pop_some h0
    obtain ⟨rfl, g⟩ := popN_some h1
    obtain ⟨r1, h1, h2⟩ := bind_some g
    exact ⟨_, h2, evermoreref31_First.con k _ h1⟩) (envC_ok (fun ds K r h => by
    obtain ⟨x0, d0, rfl, h0⟩ := pop_some h
    obtain ⟨x1, d1, rfl, h1⟩ := pop_some h0
    obtain ⟨rfl, g⟩ := popN_some h1
    obtain ⟨r1, h1, h2⟩ := bind_some g
    exact ⟨_, h2, evermoreref1_Words.con k _ h1⟩) (envC_ok (fun ds K r h => by
    obtain ⟨x0, d0, rfl, h0⟩ := pop_some h
    obtain ⟨x1, d1, rfl, h1⟩ := pop_some h0
    obtain ⟨rfl, g⟩ := popN_some h1
    obtain ⟨r1, h1, h2⟩ := bind_some g
    exact ⟨_, h2, lyndon_Bruijn.con k _ h1⟩) (envC_ok (fun ds K r h => by
    obtain ⟨x0, d0, rfl, h0⟩ := pop_some h
    obtain ⟨x1, d1, rfl, h1⟩ := pop_some h0
    obtain ⟨rfl, g⟩ := popN_some h1
    obtain ⟨r1, h1, h2⟩ := bind_some g
    exact ⟨_, h2, evermoreref31_All.con k _ h1⟩) env0_ok))))))
theorem evermorelaw_LyndonBruijn.con (k : Nat) {x0 : Int} {x1 : Int} (r : Bool) (h : evermorelaw_LyndonBruijn.f k x0 x1 = some r) : Con Try.prog 3 2 evermorelaw_LyndonBruijn.ti evermorelaw_LyndonBruijn.to [⟨(.int .i64), x0⟩, ⟨(.int .i64), x1⟩] (evermorelaw_LyndonBruijn.rs r) :=
  evermorelaw_LyndonBruijn.con' (k + 1) _ r (by show evermorelaw_LyndonBruijn.c k _ = some r; unfold evermorelaw_LyndonBruijn.c; simp only [pop_self, popN]; exact h)
/-- The one pure statement of the law, over whatever arguments can be read. -/
def evermorelaw_LyndonBruijn.PureH : Prop := ∀ (x0 : Int) (x1 : Int), Ty.okv (.int .i64) x0 → Ty.okv (.int .i64) x1 → ∃ k, evermorelaw_LyndonBruijn.f k x0 x1 = some true
end Go.Proofs.YtooagmggibdlbaaSx
