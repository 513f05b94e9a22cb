import Derived.Test.YtfkilmmldjajmaaGbTopWays
set_option linter.unusedVariables false
set_option maxRecDepth 100000
namespace Go.Proofs.YtfkilmmldjajmaaSx
open Go Go.Proofs
mutual
def two_Det.l8 : Nat → Int → Int → Int → List (List ((Int × (Int × Unit)))) → List (Int) → Int → Int → Int → Int → Int → Int → Int → Int → List (List (Int)) → List (Int) → Option (Int × Int × Int × List (List Int) × List Int)
 | 0, _, _, _, _, _, _, _, _, _, _, _, _, _, _, _ => none
 | k + 1, x22, t1_0, t1_1, t1_2, t1_3, x2_0, x2_1, n5_0, begin7_0, begin7_1, begin7_2, begin7_3, begin7_4, c_5, c_6 =>
  if x22 < 4 then
   if 0 ≤ x22 then
   if x22 < (↑5 : Int) then
    if x22 < n5_0 then
      (two_Det_1.f k (if x22.toNat = 0 then Int.instNegInt.1 1 else begin7_0, if x22.toNat = 0 + 1 then Int.instNegInt.1 1 else begin7_1, if x22.toNat = 0 + 1 + 1 then Int.instNegInt.1 1 else begin7_2, if x22.toNat = 0 + 1 + 1 + 1 then Int.instNegInt.1 1 else begin7_3, if x22.toNat = 0 + 1 + 1 + 1 + 1 then Int.instNegInt.1 1 else begin7_4, ()) true x22 t1_0 n5_0 t1_0 t1_1 t1_2 t1_3).bind fun r_6 =>
       if 0 ≤ x22 then
       if x22 < (↑5 : Int) then
        two_Det.j13 k x22 r_6.snd.snd.fst r_6.snd.snd.snd.fst r_6.snd.snd.snd.snd.fst r_6.snd.snd.snd.snd.snd x2_0 x2_1 r_6.snd.fst (if x22.toNat = 0 then r_6.fst else if x22.toNat = 0 then Int.instNegInt.1 1 else begin7_0) (if x22.toNat = 0 + 1 then r_6.fst else if x22.toNat = 0 + 1 then Int.instNegInt.1 1 else begin7_1) (if x22.toNat = 0 + 1 + 1 then r_6.fst else if x22.toNat = 0 + 1 + 1 then Int.instNegInt.1 1 else begin7_2) (if x22.toNat = 0 + 1 + 1 + 1 then r_6.fst else if x22.toNat = 0 + 1 + 1 + 1 then Int.instNegInt.1 1 else begin7_3) (if x22.toNat = 0 + 1 + 1 + 1 + 1 then r_6.fst else if x22.toNat = 0 + 1 + 1 + 1 + 1 then Int.instNegInt.1 1 else begin7_4) c_5 c_6
        else none
       else none
     else
      two_Det.j13 k x22 t1_0 t1_1 t1_2 t1_3 x2_0 x2_1 n5_0 (if x22.toNat = 0 then Int.instNegInt.1 1 else begin7_0) (if x22.toNat = 0 + 1 then Int.instNegInt.1 1 else begin7_1) (if x22.toNat = 0 + 1 + 1 then Int.instNegInt.1 1 else begin7_2) (if x22.toNat = 0 + 1 + 1 + 1 then Int.instNegInt.1 1 else begin7_3) (if x22.toNat = 0 + 1 + 1 + 1 + 1 then Int.instNegInt.1 1 else begin7_4) c_5 c_6
    else none
   else none
  else
   (two_Det_1.f k (begin7_0, begin7_1, begin7_2, begin7_3, begin7_4, ()) true t1_1 t1_0 n5_0 t1_0 t1_1 t1_2 t1_3).bind fun r_3 =>
    (det_Explore_two_table_.f k r_3.snd.snd.fst (begin7_0, begin7_1, begin7_2, begin7_3, r_3.fst, ()) (Int.ofNat 1048576) r_3.snd.fst r_3.snd.snd.fst r_3.snd.snd.snd.fst r_3.snd.snd.snd.snd.fst r_3.snd.snd.snd.snd.snd).bind fun r_4 =>
     (det_Smallest.f k (r_4.fst, r_4.snd.fst, r_4.snd.snd.snd.snd.snd.snd.snd.snd.fst, r_4.snd.snd.snd.snd.snd.snd.snd.snd.snd, ())).bind fun r_5 =>
      if r_4.snd.snd.fst = true then
       if 3000 < (↑r_5.snd.snd.fst.length : Int) then
        some (0, 0, 7, [], [])
       else
        some (r_5.fst, r_5.snd.fst, 0, r_5.snd.snd.fst, r_5.snd.snd.snd)
      else
       some (0, 0, 7, [], [])
def two_Det.j13 : Nat → Int → Int → Int → List (List ((Int × (Int × Unit)))) → List (Int) → Int → Int → Int → Int → Int → Int → Int → Int → List (List (Int)) → List (Int) → Option (Int × Int × Int × List (List Int) × List Int)
 | 0, _, _, _, _, _, _, _, _, _, _, _, _, _, _, _ => none
 | k + 1, x22, t1_0, t1_1, t1_2, t1_3, x2_0, x2_1, n5_0, begin7_0, begin7_1, begin7_2, begin7_3, begin7_4, c_5, c_6 =>
  two_Det.l8 k (Go.IntKind.i64.wrap (x22 + 1)) t1_0 t1_1 t1_2 t1_3 x2_0 x2_1 n5_0 begin7_0 begin7_1 begin7_2 begin7_3 begin7_4 c_5 c_6
end
def two_Det.f (k : Nat) (t0 : (Int × (Int × (List (List ((Int × (Int × Unit)))) × (List (Int) × Unit))))) : Option (Int × Int × Int × List (List Int) × List Int) :=
 (two_Check.f k (t0.fst, t0.snd.fst, t0.snd.snd.fst, t0.snd.snd.snd.fst, ())).bind fun r_1 =>
  if r_1 = 0 then
   two_Det.l8 k 0 t0.fst t0.snd.fst t0.snd.snd.fst t0.snd.snd.snd.fst 0 0 ((↑t0.snd.snd.fst.length : Int)) (Int.ofNat 0) (Int.ofNat 0) (Int.ofNat 0) (Int.ofNat 0) (Int.ofNat 0) [] []
  else
   some (0, 0, r_1, [], [])

noncomputable def two_Det.body : Code := fnBody Try.f58
def two_Det.ti : Tm := ⟨[(0, .p Z9)], []⟩
def two_Det.to : Tm := ⟨[(0, .agg [.p Z0, .p Z0, .own 0, .own 1]), (1, .p Z0)], [.own Z1, .own Z0]⟩
def two_Det.rs (r : Int × Int × Int × (List (List Int)) × (List Int)) : List Dat := [⟨Z0, r.1⟩, ⟨Z0, r.2.1⟩, ⟨Z0, r.2.2.1⟩, ⟨Z3, r.2.2.2.1⟩, ⟨Z1, r.2.2.2.2⟩]
def two_Det.out (ds : List Dat) : Option (Int × Int × Int × (List (List Int)) × (List Int)) := pop Z0 ds fun x0 ds => pop Z0 ds fun x1 ds => pop Z0 ds fun x2 ds => pop Z3 ds fun x3 ds => pop Z1 ds fun x4 ds => popN ds (some (x0, x1, x2, x3, x4))
def two_Det.c (k : Nat) (ds : List Dat) : Option (Int × Int × Int × (List (List Int)) × (List Int)) := pop Z9 ds fun x0 ds => popN ds (two_Det.f k x0)
def two_Det.g : Nat → List Dat → Option (Int × Int × Int × (List (List Int)) × (List Int))
 | 0, _ => none
 | k + 1, ds => two_Det.c k ds
def two_Det.env (k : Nat) : Nat → List SV → List Chunk → KT (Int × Int × Int × (List (List Int)) × (List Int)) → Option (Int × Int × Int × (List (List Int)) × (List Int)) := (envC 120 6 two_Det_1.ti two_Det_1.to (fun ds K => pop Z4 ds fun x0 ds => pop .bool ds fun x1 ds => pop Z0 ds fun x2 ds => pop Z0 ds fun x3 ds => pop Z0 ds fun x4 ds => pop Z0 ds fun x5 ds => pop Z0 ds fun x6 ds => pop Z2 ds fun x7 ds => pop Z1 ds fun x8 ds => popN ds ((two_Det_1.f k x0 x1 x2 x3 x4 x5 x6 x7 x8).bind fun r => K (two_Det_1.rs r))) (envC 121 5 det_Explore_two_table_.ti det_Explore_two_table_.to (fun ds K => pop Z0 ds fun x0 ds => pop Z4 ds fun x1 ds => pop Z0 ds fun x2 ds => pop Z0 ds fun x3 ds => pop Z0 ds fun x4 ds => pop Z0 ds fun x5 ds => pop Z2 ds fun x6 ds => pop Z1 ds fun x7 ds => popN ds ((det_Explore_two_table_.f k x0 x1 x2 x3 x4 x5 x6 x7).bind fun r => K (det_Explore_two_table_.rs r))) (envC 108 1 det_Smallest.ti det_Smallest.to (fun ds K => pop Z6 ds fun x0 ds => popN ds ((det_Smallest.f k x0).bind fun r => K (det_Smallest.rs r))) (envC 119 1 two_Check.ti two_Check.to (fun ds K => pop Z9 ds fun x0 ds => popN ds ((two_Check.f k x0).bind fun r => K (two_Check.rs r))) env0))))
def two_Det.t17 : Tm := ⟨[(1, .ptr 0 0), (2, .ptr 1 0), (5, .ptr 2 0), (6, .ptr 3 0), (7, .ptr 4 0), (22, .p Z0)], [.box [.p Z0, .p Z0, .p Z2, .p Z1] 89, .box [.p Z0, .p Z0, .own 5, .own 6] 60, .box [.p Z0] 3, .box [.fn 120 [.ptr 2 0, .ptr 0 0]] 160, .box [.p Z0, .p Z0, .p Z0, .p Z0, .p Z0] 159, .own Z1, .own Z0]⟩
def two_Det.c17 (k : Nat) (ds : List Dat) : Option (Int × Int × Int × (List (List Int)) × (List Int)) := pop Z0 ds fun x0 ds => pop Z0 ds fun x1 ds => pop Z0 ds fun x2 ds => pop Z2 ds fun x3 ds => pop Z1 ds fun x4 ds => pop Z0 ds fun x5 ds => pop Z0 ds fun x6 ds => pop Z0 ds fun x7 ds => pop Z0 ds fun x8 ds => pop Z0 ds fun x9 ds => pop Z0 ds fun x10 ds => pop Z0 ds fun x11 ds => pop Z0 ds fun x12 ds => pop Z3 ds fun x13 ds => pop Z1 ds fun x14 ds => popN ds (two_Det.l8 k x0 x1 x2 x3 x4 x5 x6 x7 x8 x9 x10 x11 x12 x13 x14)
def two_Det.t26 : Tm := ⟨[(1, .ptr 0 0), (2, .ptr 1 0), (5, .ptr 2 0), (6, .ptr 3 0), (7, .ptr 4 0), (22, .p Z0)], [.box [.p Z0, .p Z0, .p Z2, .p Z1] 89, .box [.p Z0, .p Z0, .own 5, .own 6] 60, .box [.p Z0] 3, .box [.fn 120 [.ptr 2 0, .ptr 0 0]] 160, .box [.p Z0, .p Z0, .p Z0, .p Z0, .p Z0] 159, .own Z1, .own Z0]⟩
def two_Det.c26 (k : Nat) (ds : List Dat) : Option (Int × Int × Int × (List (List Int)) × (List Int)) := pop Z0 ds fun x0 ds => pop Z0 ds fun x1 ds => pop Z0 ds fun x2 ds => pop Z2 ds fun x3 ds => pop Z1 ds fun x4 ds => pop Z0 ds fun x5 ds => pop Z0 ds fun x6 ds => pop Z0 ds fun x7 ds => pop Z0 ds fun x8 ds => pop Z0 ds fun x9 ds => pop Z0 ds fun x10 ds => pop Z0 ds fun x11 ds => pop Z0 ds fun x12 ds => pop Z3 ds fun x13 ds => pop Z1 ds fun x14 ds => popN ds (two_Det.j13 k x0 x1 x2 x3 x4 x5 x6 x7 x8 x9 x10 x11 x12 x13 x14)
def two_Det.tbl : List (Nat × Tm × (Nat → List Dat → Option (Int × Int × Int × (List (List Int)) × (List Int)))) := [(17, two_Det.t17, two_Det.c17), (26, two_Det.t26, two_Det.c26)]
noncomputable abbrev two_Det.R (k : Nat) := run T (two_Det.env k) Try.f58.ntmps (cutE 0 two_Det.tbl k) (finE 0 two_Det.to two_Det.out) (fnRes Try.f58) [13] 100000 true
theorem two_Det.e17 (k : Nat) (x0 : Int) (x1 : Int) (x2 : Int) (x3 : (List (List (Int × (Int × Unit))))) (x4 : (List Int)) (x5 : Int) (x6 : Int) (x7 : Int) (x8 : Int) (x9 : Int) (x10 : Int) (x11 : Int) (x12 : Int) (x13 : (List (List Int))) (x14 : (List Int)) : two_Det.l8 (k + 1) x0 x1 x2 x3 x4 x5 x6 x7 x8 x9 x10 x11 x12 x13 x14 = two_Det.R k (start (stackOf 17 two_Det.body)) (two_Det.t17.fill [⟨Z0, x0⟩, ⟨Z0, x1⟩, ⟨Z0, x2⟩, ⟨Z2, x3⟩, ⟨Z1, x4⟩, ⟨Z0, x5⟩, ⟨Z0, x6⟩, ⟨Z0, x7⟩, ⟨Z0, x8⟩, ⟨Z0, x9⟩, ⟨Z0, x10⟩, ⟨Z0, x11⟩, ⟨Z0, x12⟩, ⟨Z3, x13⟩, ⟨Z1, x14⟩]) := by kernel_rfl
theorem two_Det.s17 : stackAt 17 two_Det.body [] = some (stackOf 17 two_Det.body) := by kernel_rfl
theorem two_Det.h17 (k : Nat) (ds : List Dat) (r : Int × Int × Int × (List (List Int)) × (List Int)) (h : two_Det.c17 k ds = some r) : ∃ k', k' < k ∧ ∃ s, stackAt 17 two_Det.body [] = some s ∧ two_Det.R k' (start s) (two_Det.t17.fill ds) = some r := by
  unfold two_Det.c17 at h
  iterate 15 (obtain ⟨_, _, e, g⟩ := pop_some h; clear h; subst e; have h := g; clear g)
  obtain ⟨rfl, g⟩ := popN_some h
  cases k with
  | zero => cases (show none = some r from g)
  | succ k => exact ⟨k, Nat.lt_succ_self k, _, two_Det.s17, (two_Det.e17 k ..).symm.trans g⟩
theorem two_Det.e26 (k : Nat) (x0 : Int) (x1 : Int) (x2 : Int) (x3 : (List (List (Int × (Int × Unit))))) (x4 : (List Int)) (x5 : Int) (x6 : Int) (x7 : Int) (x8 : Int) (x9 : Int) (x10 : Int) (x11 : Int) (x12 : Int) (x13 : (List (List Int))) (x14 : (List Int)) : two_Det.j13 (k + 1) x0 x1 x2 x3 x4 x5 x6 x7 x8 x9 x10 x11 x12 x13 x14 = two_Det.R k (start (stackOf 26 two_Det.body)) (two_Det.t26.fill [⟨Z0, x0⟩, ⟨Z0, x1⟩, ⟨Z0, x2⟩, ⟨Z2, x3⟩, ⟨Z1, x4⟩, ⟨Z0, x5⟩, ⟨Z0, x6⟩, ⟨Z0, x7⟩, ⟨Z0, x8⟩, ⟨Z0, x9⟩, ⟨Z0, x10⟩, ⟨Z0, x11⟩, ⟨Z0, x12⟩, ⟨Z3, x13⟩, ⟨Z1, x14⟩]) := by kernel_rfl
theorem two_Det.s26 : stackAt 26 two_Det.body [] = some (stackOf 26 two_Det.body) := by kernel_rfl
theorem two_Det.h26 (k : Nat) (ds : List Dat) (r : Int × Int × Int × (List (List Int)) × (List Int)) (h : two_Det.c26 k ds = some r) : ∃ k', k' < k ∧ ∃ s, stackAt 26 two_Det.body [] = some s ∧ two_Det.R k' (start s) (two_Det.t26.fill ds) = some r := by
  unfold two_Det.c26 at h
  iterate 15 (obtain ⟨_, _, e, g⟩ := pop_some h; clear h; subst e; have h := g; clear g)
  obtain ⟨rfl, g⟩ := popN_some h
  cases k with
  | zero => cases (show none = some r from g)
  | succ k => exact ⟨k, Nat.lt_succ_self k, _, two_Det.s26, (two_Det.e26 k ..).symm.trans g⟩
theorem two_Det.e (k : Nat) (x0 : (Int × (Int × ((List (List (Int × (Int × Unit)))) × ((List Int) × Unit))))) : two_Det.f k x0 = two_Det.R k ([.code two_Det.body]) (two_Det.ti.fill [⟨Z9, x0⟩]) := by kernel_rfl
theorem two_Det.h (k : Nat) (ds : List Dat) (r : Int × Int × Int × (List (List Int)) × (List Int)) (h : two_Det.g k ds = some r) : ∃ k', k' < k ∧ two_Det.R k' ([.code two_Det.body]) (two_Det.ti.fill ds) = some r := by
  cases k with
  | zero => cases (show none = some r from h)
  | succ k =>
  replace h : two_Det.c k ds = some r := h
  unfold two_Det.c at h
  obtain ⟨x0, d0, rfl, h0⟩ := pop_some h
  obtain ⟨rfl, g⟩ := popN_some h0
  exact ⟨k, Nat.lt_succ_self k, (two_Det.e k ..).symm.trans g⟩
theorem two_Det.o (ds : List Dat) (r : Int × Int × Int × (List (List Int)) × (List Int)) (h : two_Det.out ds = some r) : ds = two_Det.rs r := by
  unfold two_Det.out at h
  iterate 5 (obtain ⟨_, _, e, g⟩ := pop_some h; clear h; subst e; have h := g; clear g)
  obtain ⟨rfl, g⟩ := popN_some h
  cases g
  rfl
theorem two_Det.fn : FnOk Try.prog 58 Try.f58 two_Det.body Try.f58.ntmps 1 (fnRes Try.f58) :=
  fnOk_of (by kernel_rfl) (by kernel_rfl) (by kernel_rfl) (by kernel_rfl)
theorem two_Det.con' : ∀ k ds r, two_Det.g k ds = some r → Con Try.prog 58 1 two_Det.ti two_Det.to ds (two_Det.rs r) :=
  fun_ok (T := T) T_ok mixed two_Det.fn (env := two_Det.env) (tbl := two_Det.tbl) (gOut := two_Det.out) (nin := 0) (cuts := [13]) (fuel := 100000) rfl (by kernel_rfl) (by kernel_rfl) (by kernel_rfl) (fun x hx => by
    simp only [two_Det.tbl, List.mem_cons, List.not_mem_nil, or_false] at hx
    rcases hx with rfl | rfl
    · exact two_Det.h17
    · exact two_Det.h26
) two_Det.o two_Det.h (fun k _ => by unfold two_Det.env; exact (envC_ok (fun ds K r h => by
    iterate 9 (obtain ⟨_, _, e, g⟩ := pop_some h; clear h; subst e; have h := g; clear g)
    obtain ⟨rfl, g⟩ := popN_some h
    obtain ⟨r1, h1, h2⟩ := bind_some g
    exact ⟨_, h2, two_Det_1.con k _ h1⟩) (envC_ok (fun ds K r h => by
    iterate 8 (obtain ⟨_, _, e, g⟩ := pop_some h; clear h; subst e; have h := g; clear g)
    obtain ⟨rfl, g⟩ := popN_some h
    obtain ⟨r1, h1, h2⟩ := bind_some g
    exact ⟨_, h2, det_Explore_two_table_.con k _ h1⟩) (envC_ok (fun ds K r h => by
    obtain ⟨x0, d0, rfl, h0⟩ := pop_some h
    obtain ⟨rfl, g⟩ := popN_some h0
    obtain ⟨r1, h1, h2⟩ := bind_some g
    exact ⟨_, h2, det_Smallest.con k _ h1⟩) (envC_ok (fun ds K r h => by
    obtain ⟨x0, d0, rfl, h0⟩ := pop_some h
    obtain ⟨rfl, g⟩ := popN_some h0
    obtain ⟨r1, h1, h2⟩ := bind_some g
    exact ⟨_, h2, two_Check.con k _ h1⟩) env0_ok)))))
theorem two_Det.con (k : Nat) {x0 : (Int × (Int × ((List (List (Int × (Int × Unit)))) × ((List Int) × Unit))))} (r : Int × Int × Int × (List (List Int)) × (List Int)) (h : two_Det.f k x0 = some r) : Con Try.prog 58 1 two_Det.ti two_Det.to [⟨Z9, x0⟩] (two_Det.rs r) :=
  two_Det.con' (k + 1) _ r (by show two_Det.c k _ = some r; unfold two_Det.c; simp only [pop_self, popN]; exact h)
mutual
def alter_Det.l6 : Nat → Int → Int → Int → Int → List (List (List (List (Int)))) → List (Int) → Int → Int → List (List (Int)) → List (Int) → Option (Int × Int × Int × List (List Int) × List Int)
 | 0, _, _, _, _, _, _, _, _, _, _ => none
 | k + 1, first5, x16, a1_0, a1_1, a1_2, a1_3, x2_0, x2_1, c_2, c_3 =>
  if x16 < 16 then
   if 0 ≤ a1_1 then
   if Go.IntKind.i64.wrap (↑(BitVec.ofInt Go.IntKind.i64.bits (x16.fdiv (2 ^ min a1_1.toNat Go.IntKind.i64.bits)) &&& BitVec.ofInt Go.IntKind.i64.bits 1).toNat : Int) = 1 then
     if 0 ≤ x16 then
     alter_Det.j10 k (Go.IntKind.i64.wrap (↑(BitVec.ofInt Go.IntKind.i64.bits first5 ||| BitVec.ofInt Go.IntKind.i64.bits (Go.IntKind.i64.wrap (1 * 2 ^ min x16.toNat Go.IntKind.i64.bits))).toNat : Int)) x16 a1_0 a1_1 a1_2 a1_3 x2_0 x2_1 c_2 c_3
     else none
    else
     alter_Det.j10 k first5 x16 a1_0 a1_1 a1_2 a1_3 x2_0 x2_1 c_2 c_3
   else none
  else
   (alter_ends.f k (a1_0, a1_1, a1_2, a1_3, ())).bind fun r_3 =>
    (det_Explore_int__2.f k a1_0 first5 (Int.ofNat 131072) a1_0 a1_1 a1_2 a1_3 r_3).bind fun r_4 =>
     (det_Smallest.f k (r_4.fst, r_4.snd.fst, r_4.snd.snd.snd.snd.snd.snd.snd.snd.fst, r_4.snd.snd.snd.snd.snd.snd.snd.snd.snd, ())).bind fun r_5 =>
      if r_4.snd.snd.fst = true then
       if 3000 < (↑r_5.snd.snd.fst.length : Int) then
        some (0, 0, 7, [], [])
       else
        some (r_5.fst, r_5.snd.fst, 0, r_5.snd.snd.fst, r_5.snd.snd.snd)
      else
       some (0, 0, 7, [], [])
def alter_Det.j10 : Nat → Int → Int → Int → Int → List (List (List (List (Int)))) → List (Int) → Int → Int → List (List (Int)) → List (Int) → Option (Int × Int × Int × List (List Int) × List Int)
 | 0, _, _, _, _, _, _, _, _, _, _ => none
 | k + 1, first5, x16, a1_0, a1_1, a1_2, a1_3, x2_0, x2_1, c_2, c_3 =>
  alter_Det.l6 k first5 (Go.IntKind.i64.wrap (x16 + 1)) a1_0 a1_1 a1_2 a1_3 x2_0 x2_1 c_2 c_3
end
def alter_Det.f (k : Nat) (a0 : (Int × (Int × (List (List (List (List (Int)))) × (List (Int) × Unit))))) : Option (Int × Int × Int × List (List Int) × List Int) :=
 (alter_Check.f k (a0.fst, a0.snd.fst, a0.snd.snd.fst, a0.snd.snd.snd.fst, ())).bind fun r_1 =>
  if r_1 = 0 then
   alter_Det.l6 k 0 0 a0.fst a0.snd.fst a0.snd.snd.fst a0.snd.snd.snd.fst 0 0 [] []
  else
   some (0, 0, r_1, [], [])

noncomputable def alter_Det.body : Code := fnBody Try.f59
def alter_Det.ti : Tm := ⟨[(0, .p Z7)], []⟩
def alter_Det.to : Tm := ⟨[(0, .agg [.p Z0, .p Z0, .own 0, .own 1]), (1, .p Z0)], [.own Z1, .own Z0]⟩
def alter_Det.rs (r : Int × Int × Int × (List (List Int)) × (List Int)) : List Dat := [⟨Z0, r.1⟩, ⟨Z0, r.2.1⟩, ⟨Z0, r.2.2.1⟩, ⟨Z3, r.2.2.2.1⟩, ⟨Z1, r.2.2.2.2⟩]
def alter_Det.out (ds : List Dat) : Option (Int × Int × Int × (List (List Int)) × (List Int)) := pop Z0 ds fun x0 ds => pop Z0 ds fun x1 ds => pop Z0 ds fun x2 ds => pop Z3 ds fun x3 ds => pop Z1 ds fun x4 ds => popN ds (some (x0, x1, x2, x3, x4))
def alter_Det.c (k : Nat) (ds : List Dat) : Option (Int × Int × Int × (List (List Int)) × (List Int)) := pop Z7 ds fun x0 ds => popN ds (alter_Det.f k x0)
def alter_Det.g : Nat → List Dat → Option (Int × Int × Int × (List (List Int)) × (List Int))
 | 0, _ => none
 | k + 1, ds => alter_Det.c k ds
def alter_Det.env (k : Nat) : Nat → List SV → List Chunk → KT (Int × Int × Int × (List (List Int)) × (List Int)) → Option (Int × Int × Int × (List (List Int)) × (List Int)) := (envC 91 1 alter_ends.ti alter_ends.to (fun ds K => pop Z7 ds fun x0 ds => popN ds ((alter_ends.f k x0).bind fun r => K (alter_ends.rs r))) (envC 124 5 det_Explore_int__2.ti det_Explore_int__2.to (fun ds K => pop Z0 ds fun x0 ds => pop Z0 ds fun x1 ds => pop Z0 ds fun x2 ds => pop Z0 ds fun x3 ds => pop Z0 ds fun x4 ds => pop Z5 ds fun x5 ds => pop Z1 ds fun x6 ds => pop Z0 ds fun x7 ds => popN ds ((det_Explore_int__2.f k x0 x1 x2 x3 x4 x5 x6 x7).bind fun r => K (det_Explore_int__2.rs r))) (envC 108 1 det_Smallest.ti det_Smallest.to (fun ds K => pop Z6 ds fun x0 ds => popN ds ((det_Smallest.f k x0).bind fun r => K (det_Smallest.rs r))) (envC 27 1 alter_Check.ti alter_Check.to (fun ds K => pop Z7 ds fun x0 ds => popN ds ((alter_Check.f k x0).bind fun r => K (alter_Check.rs r))) env0))))
def alter_Det.t13 : Tm := ⟨[(1, .ptr 0 0), (2, .ptr 1 0), (5, .p Z0), (16, .p Z0)], [.box [.p Z0, .p Z0, .p Z5, .p Z1] 25, .box [.p Z0, .p Z0, .own 2, .own 3] 60, .own Z1, .own Z0]⟩
def alter_Det.c13 (k : Nat) (ds : List Dat) : Option (Int × Int × Int × (List (List Int)) × (List Int)) := pop Z0 ds fun x0 ds => pop Z0 ds fun x1 ds => pop Z0 ds fun x2 ds => pop Z0 ds fun x3 ds => pop Z5 ds fun x4 ds => pop Z1 ds fun x5 ds => pop Z0 ds fun x6 ds => pop Z0 ds fun x7 ds => pop Z3 ds fun x8 ds => pop Z1 ds fun x9 ds => popN ds (alter_Det.l6 k x0 x1 x2 x3 x4 x5 x6 x7 x8 x9)
def alter_Det.t20 : Tm := ⟨[(1, .ptr 0 0), (2, .ptr 1 0), (5, .p Z0), (16, .p Z0)], [.box [.p Z0, .p Z0, .p Z5, .p Z1] 25, .box [.p Z0, .p Z0, .own 2, .own 3] 60, .own Z1, .own Z0]⟩
def alter_Det.c20 (k : Nat) (ds : List Dat) : Option (Int × Int × Int × (List (List Int)) × (List Int)) := pop Z0 ds fun x0 ds => pop Z0 ds fun x1 ds => pop Z0 ds fun x2 ds => pop Z0 ds fun x3 ds => pop Z5 ds fun x4 ds => pop Z1 ds fun x5 ds => pop Z0 ds fun x6 ds => pop Z0 ds fun x7 ds => pop Z3 ds fun x8 ds => pop Z1 ds fun x9 ds => popN ds (alter_Det.j10 k x0 x1 x2 x3 x4 x5 x6 x7 x8 x9)
def alter_Det.tbl : List (Nat × Tm × (Nat → List Dat → Option (Int × Int × Int × (List (List Int)) × (List Int)))) := [(13, alter_Det.t13, alter_Det.c13), (20, alter_Det.t20, alter_Det.c20)]
noncomputable abbrev alter_Det.R (k : Nat) := run T (alter_Det.env k) Try.f59.ntmps (cutE 0 alter_Det.tbl k) (finE 0 alter_Det.to alter_Det.out) (fnRes Try.f59) [10] 100000 true
theorem alter_Det.e13 (k : Nat) (x0 : Int) (x1 : Int) (x2 : Int) (x3 : Int) (x4 : (List (List (List (List Int))))) (x5 : (List Int)) (x6 : Int) (x7 : Int) (x8 : (List (List Int))) (x9 : (List Int)) : alter_Det.l6 (k + 1) x0 x1 x2 x3 x4 x5 x6 x7 x8 x9 = alter_Det.R k (start (stackOf 13 alter_Det.body)) (alter_Det.t13.fill [⟨Z0, x0⟩, ⟨Z0, x1⟩, ⟨Z0, x2⟩, ⟨Z0, x3⟩, ⟨Z5, x4⟩, ⟨Z1, x5⟩, ⟨Z0, x6⟩, ⟨Z0, x7⟩, ⟨Z3, x8⟩, ⟨Z1, x9⟩]) := by kernel_rfl
theorem alter_Det.s13 : stackAt 13 alter_Det.body [] = some (stackOf 13 alter_Det.body) := by kernel_rfl
theorem alter_Det.h13 (k : Nat) (ds : List Dat) (r : Int × Int × Int × (List (List Int)) × (List Int)) (h : alter_Det.c13 k ds = some r) : ∃ k', k' < k ∧ ∃ s, stackAt 13 alter_Det.body [] = some s ∧ alter_Det.R k' (start s) (alter_Det.t13.fill ds) = some r := by
  unfold alter_Det.c13 at h
  iterate 10 (obtain ⟨_, _, e, g⟩ := pop_some h; clear h; subst e; have h := g; clear g)
  obtain ⟨rfl, g⟩ := popN_some h
  cases k with
  | zero => cases (show none = some r from g)
  | succ k => exact ⟨k, Nat.lt_succ_self k, _, alter_Det.s13, (alter_Det.e13 k ..).symm.trans g⟩
theorem alter_Det.e20 (k : Nat) (x0 : Int) (x1 : Int) (x2 : Int) (x3 : Int) (x4 : (List (List (List (List Int))))) (x5 : (List Int)) (x6 : Int) (x7 : Int) (x8 : (List (List Int))) (x9 : (List Int)) : alter_Det.j10 (k + 1) x0 x1 x2 x3 x4 x5 x6 x7 x8 x9 = alter_Det.R k (start (stackOf 20 alter_Det.body)) (alter_Det.t20.fill [⟨Z0, x0⟩, ⟨Z0, x1⟩, ⟨Z0, x2⟩, ⟨Z0, x3⟩, ⟨Z5, x4⟩, ⟨Z1, x5⟩, ⟨Z0, x6⟩, ⟨Z0, x7⟩, ⟨Z3, x8⟩, ⟨Z1, x9⟩]) := by kernel_rfl
theorem alter_Det.s20 : stackAt 20 alter_Det.body [] = some (stackOf 20 alter_Det.body) := by kernel_rfl
theorem alter_Det.h20 (k : Nat) (ds : List Dat) (r : Int × Int × Int × (List (List Int)) × (List Int)) (h : alter_Det.c20 k ds = some r) : ∃ k', k' < k ∧ ∃ s, stackAt 20 alter_Det.body [] = some s ∧ alter_Det.R k' (start s) (alter_Det.t20.fill ds) = some r := by
  unfold alter_Det.c20 at h
  iterate 10 (obtain ⟨_, _, e, g⟩ := pop_some h; clear h; subst e; have h := g; clear g)
  obtain ⟨rfl, g⟩ := popN_some h
  cases k with
  | zero => cases (show none = some r from g)
  | succ k => exact ⟨k, Nat.lt_succ_self k, _, alter_Det.s20, (alter_Det.e20 k ..).symm.trans g⟩
theorem alter_Det.e (k : Nat) (x0 : (Int × (Int × ((List (List (List (List Int)))) × ((List Int) × Unit))))) : alter_Det.f k x0 = alter_Det.R k ([.code alter_Det.body]) (alter_Det.ti.fill [⟨Z7, x0⟩]) := by kernel_rfl
theorem alter_Det.h (k : Nat) (ds : List Dat) (r : Int × Int × Int × (List (List Int)) × (List Int)) (h : alter_Det.g k ds = some r) : ∃ k', k' < k ∧ alter_Det.R k' ([.code alter_Det.body]) (alter_Det.ti.fill ds) = some r := by
  cases k with
  | zero => cases (show none = some r from h)
  | succ k =>
  replace h : alter_Det.c k ds = some r := h
  unfold alter_Det.c at h
  obtain ⟨x0, d0, rfl, h0⟩ := pop_some h
  obtain ⟨rfl, g⟩ := popN_some h0
  exact ⟨k, Nat.lt_succ_self k, (alter_Det.e k ..).symm.trans g⟩
theorem alter_Det.o (ds : List Dat) (r : Int × Int × Int × (List (List Int)) × (List Int)) (h : alter_Det.out ds = some r) : ds = alter_Det.rs r := by
  unfold alter_Det.out at h
  iterate 5 (obtain ⟨_, _, e, g⟩ := pop_some h; clear h; subst e; have h := g; clear g)
  obtain ⟨rfl, g⟩ := popN_some h
  cases g
  rfl
theorem alter_Det.fn : FnOk Try.prog 59 Try.f59 alter_Det.body Try.f59.ntmps 1 (fnRes Try.f59) :=
  fnOk_of (by kernel_rfl) (by kernel_rfl) (by kernel_rfl) (by kernel_rfl)
theorem alter_Det.con' : ∀ k ds r, alter_Det.g k ds = some r → Con Try.prog 59 1 alter_Det.ti alter_Det.to ds (alter_Det.rs r) :=
  fun_ok (T := T) T_ok mixed alter_Det.fn (env := alter_Det.env) (tbl := alter_Det.tbl) (gOut := alter_Det.out) (nin := 0) (cuts := [10]) (fuel := 100000) rfl (by kernel_rfl) (by kernel_rfl) (by kernel_rfl) (fun x hx => by
    simp only [alter_Det.tbl, List.mem_cons, List.not_mem_nil, or_false] at hx
    rcases hx with rfl | rfl
    · exact alter_Det.h13
    · exact alter_Det.h20
) alter_Det.o alter_Det.h (fun k _ => by unfold alter_Det.env; exact (envC_ok (fun ds K r h => by
    obtain ⟨x0, d0, rfl, h0⟩ := pop_some h
    obtain ⟨rfl, g⟩ := popN_some h0
    obtain ⟨r1, h1, h2⟩ := bind_some g
    exact ⟨_, h2, alter_ends.con k _ h1⟩) (envC_ok (fun ds K r h => by
    iterate 8 (obtain ⟨_, _, e, g⟩ := pop_some h; clear h; subst e; have h := g; clear g)
    obtain ⟨rfl, g⟩ := popN_some h
    obtain ⟨r1, h1, h2⟩ := bind_some g
    exact ⟨_, h2, det_Explore_int__2.con k _ h1⟩) (envC_ok (fun ds K r h => by
    obtain ⟨x0, d0, rfl, h0⟩ := pop_some h
    obtain ⟨rfl, g⟩ := popN_some h0
    obtain ⟨r1, h1, h2⟩ := bind_some g
    exact ⟨_, h2, det_Smallest.con k _ h1⟩) (envC_ok (fun ds K r h => by
    obtain ⟨x0, d0, rfl, h0⟩ := pop_some h
    obtain ⟨rfl, g⟩ := popN_some h0
    obtain ⟨r1, h1, h2⟩ := bind_some g
    exact ⟨_, h2, alter_Check.con k _ h1⟩) env0_ok)))))
theorem alter_Det.con (k : Nat) {x0 : (Int × (Int × ((List (List (List (List Int)))) × ((List Int) × Unit))))} (r : Int × Int × Int × (List (List Int)) × (List Int)) (h : alter_Det.f k x0 = some r) : Con Try.prog 59 1 alter_Det.ti alter_Det.to [⟨Z7, x0⟩] (alter_Det.rs r) :=
  alter_Det.con' (k + 1) _ r (by show alter_Det.c k _ = some r; unfold alter_Det.c; simp only [pop_self, popN]; exact h)
mutual
def evermoretop_alike.l5 : Nat → Bool → Int → Int → Int → List (List (Int)) → List (Int) → Int → Int → List (List (Int)) → List (Int) → Option (Bool)
 | 0, _, _, _, _, _, _, _, _, _, _ => none
 | k + 1, mark5, i6, a2_0, a2_1, a2_2, a2_3, b3_0, b3_1, b3_2, b3_3 =>
  if i6 < (↑a2_2.length : Int) then
   if mark5 = true then
    if 0 ≤ i6 then
    if i6 < (↑a2_2.length : Int) then
     if 0 ≤ i6 then
      if i6 < (↑b3_2.length : Int) then
       (evermoretop_sameWords.f k (rd [] a2_2 i6) (rd [] b3_2 i6)).bind fun r_8 =>
         evermoretop_alike.l5 k r_8 (Go.IntKind.i64.wrap (i6 + 1)) a2_0 a2_1 a2_2 a2_3 b3_0 b3_1 b3_2 b3_3
       else none
      else none
     else none
    else none
   else
    some (mark5)
  else
   some (mark5)
end
def evermoretop_alike.f (k : Nat) (a0 : (Int × (Int × (List (List (Int)) × (List (Int) × Unit))))) (b1 : (Int × (Int × (List (List (Int)) × (List (Int) × Unit))))) : Option (Bool) :=
 if a0.fst = b1.fst then
  if a0.snd.fst = b1.snd.fst then
   if (↑a0.snd.snd.fst.length : Int) = (↑b1.snd.snd.fst.length : Int) then
    (evermoretop_sameWords.f k a0.snd.snd.snd.fst b1.snd.snd.snd.fst).bind fun r_4 =>
     evermoretop_alike.l5 k r_4 0 a0.fst a0.snd.fst a0.snd.snd.fst a0.snd.snd.snd.fst b1.fst b1.snd.fst b1.snd.snd.fst b1.snd.snd.snd.fst
   else
    some (false)
  else
   some (false)
 else
  some (false)

noncomputable def evermoretop_alike.body : Code := fnBody Try.f60
def evermoretop_alike.ti : Tm := ⟨[(0, .p Z6), (1, .p Z6)], []⟩
def evermoretop_alike.to : Tm := ⟨[(0, .p .bool)], []⟩
def evermoretop_alike.rs (r : Bool) : List Dat := [⟨.bool, r⟩]
def evermoretop_alike.out (ds : List Dat) : Option (Bool) := pop .bool ds fun x0 ds => popN ds (some (x0))
def evermoretop_alike.c (k : Nat) (ds : List Dat) : Option (Bool) := pop Z6 ds fun x0 ds => pop Z6 ds fun x1 ds => popN ds (evermoretop_alike.f k x0 x1)
def evermoretop_alike.g : Nat → List Dat → Option (Bool)
 | 0, _ => none
 | k + 1, ds => evermoretop_alike.c k ds
def evermoretop_alike.env (k : Nat) : Nat → List SV → List Chunk → KT (Bool) → Option (Bool) := (envC 127 2 evermoretop_sameWords.ti evermoretop_sameWords.to (fun ds K => pop Z1 ds fun x0 ds => pop Z1 ds fun x1 ds => popN ds ((evermoretop_sameWords.f k x0 x1).bind fun r => K (evermoretop_sameWords.rs r))) env0)
def evermoretop_alike.t11 : Tm := ⟨[(2, .ptr 0 0), (3, .ptr 1 0), (5, .p .bool), (6, .p Z0)], [.box [.p Z0, .p Z0, .p Z3, .p Z1] 60, .box [.p Z0, .p Z0, .p Z3, .p Z1] 60]⟩
def evermoretop_alike.c11 (k : Nat) (ds : List Dat) : Option (Bool) := pop .bool ds fun x0 ds => pop Z0 ds fun x1 ds => pop Z0 ds fun x2 ds => pop Z0 ds fun x3 ds => pop Z3 ds fun x4 ds => pop Z1 ds fun x5 ds => pop Z0 ds fun x6 ds => pop Z0 ds fun x7 ds => pop Z3 ds fun x8 ds => pop Z1 ds fun x9 ds => popN ds (evermoretop_alike.l5 k x0 x1 x2 x3 x4 x5 x6 x7 x8 x9)
def evermoretop_alike.tbl : List (Nat × Tm × (Nat → List Dat → Option (Bool))) := [(11, evermoretop_alike.t11, evermoretop_alike.c11)]
noncomputable abbrev evermoretop_alike.R (k : Nat) := run T (evermoretop_alike.env k) Try.f60.ntmps (cutE 0 evermoretop_alike.tbl k) (finE 0 evermoretop_alike.to evermoretop_alike.out) (fnRes Try.f60) [] 100000 true
theorem evermoretop_alike.e11 (k : Nat) (x0 : Bool) (x1 : Int) (x2 : Int) (x3 : Int) (x4 : (List (List Int))) (x5 : (List Int)) (x6 : Int) (x7 : Int) (x8 : (List (List Int))) (x9 : (List Int)) : evermoretop_alike.l5 (k + 1) x0 x1 x2 x3 x4 x5 x6 x7 x8 x9 = evermoretop_alike.R k (start (stackOf 11 evermoretop_alike.body)) (evermoretop_alike.t11.fill [⟨.bool, x0⟩, ⟨Z0, x1⟩, ⟨Z0, x2⟩, ⟨Z0, x3⟩, ⟨Z3, x4⟩, ⟨Z1, x5⟩, ⟨Z0, x6⟩, ⟨Z0, x7⟩, ⟨Z3, x8⟩, ⟨Z1, x9⟩]) := by kernel_rfl
theorem evermoretop_alike.s11 : stackAt 11 evermoretop_alike.body [] = some (stackOf 11 evermoretop_alike.body) := by kernel_rfl
theorem evermoretop_alike.h11 (k : Nat) (ds : List Dat) (r : Bool) (h : evermoretop_alike.c11 k ds = some r) : ∃ k', k' < k ∧ ∃ s, stackAt 11 evermoretop_alike.body [] = some s ∧ evermoretop_alike.R k' (start s) (evermoretop_alike.t11.fill ds) = some r := by
  unfold evermoretop_alike.c11 at h
  iterate 10 (obtain ⟨_, _, e, g⟩ := pop_some h; clear h; subst e; have h := g; clear g)
  obtain ⟨rfl, g⟩ := popN_some h
  cases k with
  | zero => cases (show none = some r from g)
  | succ k => exact ⟨k, Nat.lt_succ_self k, _, evermoretop_alike.s11, (evermoretop_alike.e11 k ..).symm.trans g⟩
theorem evermoretop_alike.e (k : Nat) (x0 : (Int × (Int × ((List (List Int)) × ((List Int) × Unit))))) (x1 : (Int × (Int × ((List (List Int)) × ((List Int) × Unit))))) : evermoretop_alike.f k x0 x1 = evermoretop_alike.R k ([.code evermoretop_alike.body]) (evermoretop_alike.ti.fill [⟨Z6, x0⟩, ⟨Z6, x1⟩]) := by kernel_rfl
theorem evermoretop_alike.h (k : Nat) (ds : List Dat) (r : Bool) (h : evermoretop_alike.g k ds = some r) : ∃ k', k' < k ∧ evermoretop_alike.R k' ([.code evermoretop_alike.body]) (evermoretop_alike.ti.fill ds) = some r := by
  cases k with
  | zero => cases (show none = some r from h)
  | succ k =>
  replace h : evermoretop_alike.c k ds = some r := h
  unfold evermoretop_alike.c at h
  iterate 2 (obtain ⟨_, _, e, g⟩ := pop_some h; clear h; subst e; have h := g; clear g)
  obtain ⟨rfl, g⟩ := popN_some h
  exact ⟨k, Nat.lt_succ_self k, (evermoretop_alike.e k ..).symm.trans g⟩
theorem evermoretop_alike.o (ds : List Dat) (r : Bool) (h : evermoretop_alike.out ds = some r) : ds = evermoretop_alike.rs r := by
  unfold evermoretop_alike.out at h
  obtain ⟨x0, d0, rfl, h0⟩ := pop_some h
  obtain ⟨rfl, g⟩ := popN_some h0
  cases g
  rfl
theorem evermoretop_alike.fn : FnOk Try.prog 60 Try.f60 evermoretop_alike.body Try.f60.ntmps 2 (fnRes Try.f60) :=
  fnOk_of (by kernel_rfl) (by kernel_rfl) (by kernel_rfl) (by kernel_rfl)
theorem evermoretop_alike.con' : ∀ k ds r, evermoretop_alike.g k ds = some r → Con Try.prog 60 2 evermoretop_alike.ti evermoretop_alike.to ds (evermoretop_alike.rs r) :=
  fun_ok (T := T) T_ok mixed evermoretop_alike.fn (env := evermoretop_alike.env) (tbl := evermoretop_alike.tbl) (gOut := evermoretop_alike.out) (nin := 0) (cuts := []) (fuel := 100000) rfl (by kernel_rfl) (by kernel_rfl) (by kernel_rfl) (fun x hx => by
    simp only [evermoretop_alike.tbl, List.mem_cons, List.not_mem_nil, or_false] at hx
    subst hx
    · exact evermoretop_alike.h11
) evermoretop_alike.o evermoretop_alike.h (fun k _ => by unfold evermoretop_alike.env; exact (envC_ok (fun ds K r h => by
    iterate 2 (obtain ⟨_, _, e, g⟩ := pop_some h; clear h; subst e; have h := g; clear g)
    obtain ⟨rfl, g⟩ := popN_some h
    obtain ⟨r1, h1, h2⟩ := bind_some g
    exact ⟨_, h2, evermoretop_sameWords.con k _ h1⟩) env0_ok))
theorem evermoretop_alike.con (k : Nat) {x0 : (Int × (Int × ((List (List Int)) × ((List Int) × Unit))))} {x1 : (Int × (Int × ((List (List Int)) × ((List Int) × Unit))))} (r : Bool) (h : evermoretop_alike.f k x0 x1 = some r) : Con Try.prog 60 2 evermoretop_alike.ti evermoretop_alike.to [⟨Z6, x0⟩, ⟨Z6, x1⟩] (evermoretop_alike.rs r) :=
  evermoretop_alike.con' (k + 1) _ r (by show evermoretop_alike.c k _ = some r; unfold evermoretop_alike.c; simp only [pop_self, popN]; exact h)
mutual
def evermoretop_TopWays.l10 : Nat → Int → Int → Int → List (List (Int)) → List (Int) → Int → Int → Int → Int → List (Int) → Int → Int → List (Int) → List (List (Int)) → List (Int) → List (List ((Int × (Int × Unit)))) → List (List (List (List (Int)))) → Option (Bool)
 | 0, _, _, _, _, _, _, _, _, _, _, _, _, _, _, _, _, _ => none
 | k + 1, q7, d1_0, d1_1, d1_2, d1_3, l3_0, l3_1, t5_0, t5_1, t5_3, a6_0, a6_1, a6_3, c_4, c_5, c_6, c_7 =>
  if q7 < (↑d1_2.length : Int) then
   evermoretop_TopWays.l15 k q7 0 d1_0 d1_1 d1_2 d1_3 l3_0 l3_1 t5_0 t5_1 t5_3 a6_0 a6_1 a6_3 [] [] c_4 c_5 c_6 c_7
  else
   (two_Det.f k (t5_0, t5_1, c_6, t5_3, ())).bind fun r_3 =>
    (alter_Det.f k (a6_0, a6_1, c_7, a6_3, ())).bind fun r_4 =>
     if r_3.snd.snd.fst = 0 then
      if r_4.snd.snd.fst = 0 then
       (evermoretop_alike.f k (r_3.fst, r_3.snd.fst, r_3.snd.snd.snd.fst, r_3.snd.snd.snd.snd, ()) (l3_0, l3_1, c_4, c_5, ())).bind fun r_7 =>
        (evermoretop_alike.f k (r_4.fst, r_4.snd.fst, r_4.snd.snd.snd.fst, r_4.snd.snd.snd.snd, ()) (l3_0, l3_1, c_4, c_5, ())).bind fun r_8 =>
         if r_7 = true then
          some (r_8)
         else
          some (false)
      else
       some (false)
     else
      some (false)
def evermoretop_TopWays.l15 : Nat → Int → Int → Int → Int → List (List (Int)) → List (Int) → Int → Int → Int → Int → List (Int) → Int → Int → List (Int) → List ((Int × (Int × Unit))) → List (List (List (Int))) → List (List (Int)) → List (Int) → List (List ((Int × (Int × Unit)))) → List (List (List (List (Int)))) → Option (Bool)
 | 0, _, _, _, _, _, _, _, _, _, _, _, _, _, _, _, _, _, _, _, _ => none
 | k + 1, q7, k10, d1_0, d1_1, d1_2, d1_3, l3_0, l3_1, t5_0, t5_1, t5_3, a6_0, a6_1, a6_3, r8, c9, c_6, c_7, c_8, c_9 =>
  if k10 < d1_0 then
   if 0 ≤ q7 then
   if q7 < (↑d1_2.length : Int) then
    if 0 ≤ k10 then
     if k10 < (↑(rd [] d1_2 q7).length : Int) then
      if fitsIn (r8 ++ [(rd (Int.ofNat 0) (rd [] d1_2 q7) k10, Int.ofNat 1, ())]).length 16 = true then
       if 0 ≤ q7 then
        if q7 < (↑d1_2.length : Int) then
         if 0 ≤ k10 then
          if k10 < (↑(rd [] d1_2 q7).length : Int) then
           if fitsIn (c9 ++ [[[rd (Int.ofNat 0) (rd [] d1_2 q7) k10]]]).length 24 = true then
            evermoretop_TopWays.l15 k q7 (Go.IntKind.i64.wrap (k10 + 1)) d1_0 d1_1 d1_2 d1_3 l3_0 l3_1 t5_0 t5_1 t5_3 a6_0 a6_1 a6_3 (r8 ++ [(rd (Int.ofNat 0) (rd [] d1_2 q7) k10, Int.ofNat 1, ())]) (c9 ++ [[[rd (Int.ofNat 0) (rd [] d1_2 q7) k10]]]) c_6 c_7 c_8 c_9
            else none
           else none
          else none
         else none
        else none
       else none
      else none
     else none
    else none
   else none
  else
   if fitsIn (r8 ++ [(q7, Int.ofNat 1, ()), (q7, Int.ofNat 1, ())]).length 16 = true then
   if fitsIn (c_8 ++ [r8 ++ [(q7, Int.ofNat 1, ()), (q7, Int.ofNat 1, ())]]).length 24 = true then
    if fitsIn (c_9 ++ [c9]).length 24 = true then
     evermoretop_TopWays.l10 k (Go.IntKind.i64.wrap (q7 + 1)) d1_0 d1_1 d1_2 d1_3 l3_0 l3_1 t5_0 t5_1 t5_3 a6_0 a6_1 a6_3 c_6 c_7 (c_8 ++ [r8 ++ [(q7, Int.ofNat 1, ()), (q7, Int.ofNat 1, ())]]) (c_9 ++ [c9])
     else none
    else none
   else none
end
def evermoretop_TopWays.f (k : Nat) (d0 : (Int × (Int × (List (List (Int)) × (List (Int) × Unit))))) : Option (Bool) :=
 (det_Least.f k (Int.ofNat 1, Int.ofNat 0, [[Int.ofNat 1], [Int.ofNat 0]], [Int.ofNat 1, Int.ofNat 1], ())).bind fun r_1 =>
  if r_1.snd.snd.fst = 0 then
   if (↑r_1.snd.snd.snd.fst.length : Int) = 1 then
    (det_Least.f k (d0.fst, d0.snd.fst, d0.snd.snd.fst, d0.snd.snd.snd.fst, ())).bind fun r_4 =>
     if r_4.snd.snd.fst = 0 then
      if 4 < (↑d0.snd.snd.fst.length : Int) then
       some (true)
      else
       evermoretop_TopWays.l10 k 0 d0.fst d0.snd.fst d0.snd.snd.fst d0.snd.snd.snd.fst r_4.fst r_4.snd.fst d0.fst d0.snd.fst d0.snd.snd.snd.fst d0.fst d0.snd.fst d0.snd.snd.snd.fst r_4.snd.snd.snd.fst r_4.snd.snd.snd.snd [] []
     else
      some (true)
   else
    some (false)
  else
   some (false)

noncomputable def evermoretop_TopWays.body : Code := fnBody Try.f10
def evermoretop_TopWays.ti : Tm := ⟨[(0, .p Z6)], []⟩
def evermoretop_TopWays.to : Tm := ⟨[(0, .p .bool)], []⟩
def evermoretop_TopWays.rs (r : Bool) : List Dat := [⟨.bool, r⟩]
def evermoretop_TopWays.out (ds : List Dat) : Option (Bool) := pop .bool ds fun x0 ds => popN ds (some (x0))
def evermoretop_TopWays.c (k : Nat) (ds : List Dat) : Option (Bool) := pop Z6 ds fun x0 ds => popN ds (evermoretop_TopWays.f k x0)
def evermoretop_TopWays.g : Nat → List Dat → Option (Bool)
 | 0, _ => none
 | k + 1, ds => evermoretop_TopWays.c k ds
def evermoretop_TopWays.env (k : Nat) : Nat → List SV → List Chunk → KT (Bool) → Option (Bool) := (envC 58 1 two_Det.ti two_Det.to (fun ds K => pop Z9 ds fun x0 ds => popN ds ((two_Det.f k x0).bind fun r => K (two_Det.rs r))) (envC 59 1 alter_Det.ti alter_Det.to (fun ds K => pop Z7 ds fun x0 ds => popN ds ((alter_Det.f k x0).bind fun r => K (alter_Det.rs r))) (envC 60 2 evermoretop_alike.ti evermoretop_alike.to (fun ds K => pop Z6 ds fun x0 ds => pop Z6 ds fun x1 ds => popN ds ((evermoretop_alike.f k x0 x1).bind fun r => K (evermoretop_alike.rs r))) (envC 44 1 det_Least.ti det_Least.to (fun ds K => pop Z6 ds fun x0 ds => popN ds ((det_Least.f k x0).bind fun r => K (det_Least.rs r))) env0))))
def evermoretop_TopWays.t21 : Tm := ⟨[(1, .ptr 0 0), (3, .ptr 1 0), (5, .ptr 2 0), (6, .ptr 3 0), (7, .p Z0)], [.box [.p Z0, .p Z0, .p Z3, .p Z1] 60, .box [.p Z0, .p Z0, .own 4, .own 5] 60, .box [.p Z0, .p Z0, .own 6, .p Z1] 89, .box [.p Z0, .p Z0, .own 7, .p Z1] 25, .own Z1, .own Z0, .own Z8, .own (.slice Z3)]⟩
def evermoretop_TopWays.c21 (k : Nat) (ds : List Dat) : Option (Bool) := pop Z0 ds fun x0 ds => pop Z0 ds fun x1 ds => pop Z0 ds fun x2 ds => pop Z3 ds fun x3 ds => pop Z1 ds fun x4 ds => pop Z0 ds fun x5 ds => pop Z0 ds fun x6 ds => pop Z0 ds fun x7 ds => pop Z0 ds fun x8 ds => pop Z1 ds fun x9 ds => pop Z0 ds fun x10 ds => pop Z0 ds fun x11 ds => pop Z1 ds fun x12 ds => pop Z3 ds fun x13 ds => pop Z1 ds fun x14 ds => pop Z2 ds fun x15 ds => pop Z5 ds fun x16 ds => popN ds (evermoretop_TopWays.l10 k x0 x1 x2 x3 x4 x5 x6 x7 x8 x9 x10 x11 x12 x13 x14 x15 x16)
def evermoretop_TopWays.t31 : Tm := ⟨[(1, .ptr 0 0), (3, .ptr 1 0), (5, .ptr 2 0), (6, .ptr 3 0), (7, .p Z0), (8, .own 4), (9, .own 5), (10, .p Z0)], [.box [.p Z0, .p Z0, .p Z3, .p Z1] 60, .box [.p Z0, .p Z0, .own 6, .own 7] 60, .box [.p Z0, .p Z0, .own 8, .p Z1] 89, .box [.p Z0, .p Z0, .own 9, .p Z1] 25, .own (.pair Z0 (.pair Z0 .unit)), .own Z3, .own Z1, .own Z0, .own Z8, .own (.slice Z3)]⟩
def evermoretop_TopWays.c31 (k : Nat) (ds : List Dat) : Option (Bool) := pop Z0 ds fun x0 ds => pop Z0 ds fun x1 ds => pop Z0 ds fun x2 ds => pop Z0 ds fun x3 ds => pop Z3 ds fun x4 ds => pop Z1 ds fun x5 ds => pop Z0 ds fun x6 ds => pop Z0 ds fun x7 ds => pop Z0 ds fun x8 ds => pop Z0 ds fun x9 ds => pop Z1 ds fun x10 ds => pop Z0 ds fun x11 ds => pop Z0 ds fun x12 ds => pop Z1 ds fun x13 ds => pop Z8 ds fun x14 ds => pop (.slice Z3) ds fun x15 ds => pop Z3 ds fun x16 ds => pop Z1 ds fun x17 ds => pop Z2 ds fun x18 ds => pop Z5 ds fun x19 ds => popN ds (evermoretop_TopWays.l15 k x0 x1 x2 x3 x4 x5 x6 x7 x8 x9 x10 x11 x12 x13 x14 x15 x16 x17 x18 x19)
def evermoretop_TopWays.tbl : List (Nat × Tm × (Nat → List Dat → Option (Bool))) := [(21, evermoretop_TopWays.t21, evermoretop_TopWays.c21), (31, evermoretop_TopWays.t31, evermoretop_TopWays.c31)]
noncomputable abbrev evermoretop_TopWays.R (k : Nat) := run T (evermoretop_TopWays.env k) Try.f10.ntmps (cutE 0 evermoretop_TopWays.tbl k) (finE 0 evermoretop_TopWays.to evermoretop_TopWays.out) (fnRes Try.f10) [] 100000 true
theorem evermoretop_TopWays.e21 (k : Nat) (x0 : Int) (x1 : Int) (x2 : Int) (x3 : (List (List Int))) (x4 : (List Int)) (x5 : Int) (x6 : Int) (x7 : Int) (x8 : Int) (x9 : (List Int)) (x10 : Int) (x11 : Int) (x12 : (List Int)) (x13 : (List (List Int))) (x14 : (List Int)) (x15 : (List (List (Int × (Int × Unit))))) (x16 : (List (List (List (List Int))))) : evermoretop_TopWays.l10 (k + 1) x0 x1 x2 x3 x4 x5 x6 x7 x8 x9 x10 x11 x12 x13 x14 x15 x16 = evermoretop_TopWays.R k (start (stackOf 21 evermoretop_TopWays.body)) (evermoretop_TopWays.t21.fill [⟨Z0, x0⟩, ⟨Z0, x1⟩, ⟨Z0, x2⟩, ⟨Z3, x3⟩, ⟨Z1, x4⟩, ⟨Z0, x5⟩, ⟨Z0, x6⟩, ⟨Z0, x7⟩, ⟨Z0, x8⟩, ⟨Z1, x9⟩, ⟨Z0, x10⟩, ⟨Z0, x11⟩, ⟨Z1, x12⟩, ⟨Z3, x13⟩, ⟨Z1, x14⟩, ⟨Z2, x15⟩, ⟨Z5, x16⟩]) := by kernel_rfl
theorem evermoretop_TopWays.s21 : stackAt 21 evermoretop_TopWays.body [] = some (stackOf 21 evermoretop_TopWays.body) := by kernel_rfl
theorem evermoretop_TopWays.h21 (k : Nat) (ds : List Dat) (r : Bool) (h : evermoretop_TopWays.c21 k ds = some r) : ∃ k', k' < k ∧ ∃ s, stackAt 21 evermoretop_TopWays.body [] = some s ∧ evermoretop_TopWays.R k' (start s) (evermoretop_TopWays.t21.fill ds) = some r := by
  unfold evermoretop_TopWays.c21 at h
  iterate 17 (obtain ⟨_, _, e, g⟩ := pop_some h; clear h; subst e; have h := g; clear g)
  obtain ⟨rfl, g⟩ := popN_some h
  cases k with
  | zero => cases (show none = some r from g)
  | succ k => exact ⟨k, Nat.lt_succ_self k, _, evermoretop_TopWays.s21, (evermoretop_TopWays.e21 k ..).symm.trans g⟩
theorem evermoretop_TopWays.e31 (k : Nat) (x0 : Int) (x1 : Int) (x2 : Int) (x3 : Int) (x4 : (List (List Int))) (x5 : (List Int)) (x6 : Int) (x7 : Int) (x8 : Int) (x9 : Int) (x10 : (List Int)) (x11 : Int) (x12 : Int) (x13 : (List Int)) (x14 : (List (Int × (Int × Unit)))) (x15 : (List (List (List Int)))) (x16 : (List (List Int))) (x17 : (List Int)) (x18 : (List (List (Int × (Int × Unit))))) (x19 : (List (List (List (List Int))))) : evermoretop_TopWays.l15 (k + 1) x0 x1 x2 x3 x4 x5 x6 x7 x8 x9 x10 x11 x12 x13 x14 x15 x16 x17 x18 x19 = evermoretop_TopWays.R k (start (stackOf 31 evermoretop_TopWays.body)) (evermoretop_TopWays.t31.fill [⟨Z0, x0⟩, ⟨Z0, x1⟩, ⟨Z0, x2⟩, ⟨Z0, x3⟩, ⟨Z3, x4⟩, ⟨Z1, x5⟩, ⟨Z0, x6⟩, ⟨Z0, x7⟩, ⟨Z0, x8⟩, ⟨Z0, x9⟩, ⟨Z1, x10⟩, ⟨Z0, x11⟩, ⟨Z0, x12⟩, ⟨Z1, x13⟩, ⟨Z8, x14⟩, ⟨(.slice Z3), x15⟩, ⟨Z3, x16⟩, ⟨Z1, x17⟩, ⟨Z2, x18⟩, ⟨Z5, x19⟩]) := by kernel_rfl
theorem evermoretop_TopWays.s31 : stackAt 31 evermoretop_TopWays.body [] = some (stackOf 31 evermoretop_TopWays.body) := by kernel_rfl
theorem evermoretop_TopWays.h31 (k : Nat) (ds : List Dat) (r : Bool) (h : evermoretop_TopWays.c31 k ds = some r) : ∃ k', k' < k ∧ ∃ s, stackAt 31 evermoretop_TopWays.body [] = some s ∧ evermoretop_TopWays.R k' (start s) (evermoretop_TopWays.t31.fill ds) = some r := by
  unfold evermoretop_TopWays.c31 at h
  iterate 20 (obtain ⟨_, _, e, g⟩ := pop_some h; clear h; subst e; have h := g; clear g)
  obtain ⟨rfl, g⟩ := popN_some h
  cases k with
  | zero => cases (show none = some r from g)
  | succ k => exact ⟨k, Nat.lt_succ_self k, _, evermoretop_TopWays.s31, (evermoretop_TopWays.e31 k ..).symm.trans g⟩
theorem evermoretop_TopWays.e (k : Nat) (x0 : (Int × (Int × ((List (List Int)) × ((List Int) × Unit))))) : evermoretop_TopWays.f k x0 = evermoretop_TopWays.R k ([.code evermoretop_TopWays.body]) (evermoretop_TopWays.ti.fill [⟨Z6, x0⟩]) := by kernel_rfl
theorem evermoretop_TopWays.h (k : Nat) (ds : List Dat) (r : Bool) (h : evermoretop_TopWays.g k ds = some r) : ∃ k', k' < k ∧ evermoretop_TopWays.R k' ([.code evermoretop_TopWays.body]) (evermoretop_TopWays.ti.fill ds) = some r := by
  cases k with
  | zero => cases (show none = some r from h)
  | succ k =>
  replace h : evermoretop_TopWays.c k ds = some r := h
  unfold evermoretop_TopWays.c at h
  obtain ⟨x0, d0, rfl, h0⟩ := pop_some h
  obtain ⟨rfl, g⟩ := popN_some h0
  exact ⟨k, Nat.lt_succ_self k, (evermoretop_TopWays.e k ..).symm.trans g⟩
theorem evermoretop_TopWays.o (ds : List Dat) (r : Bool) (h : evermoretop_TopWays.out ds = some r) : ds = evermoretop_TopWays.rs r := by
  unfold evermoretop_TopWays.out at h
  obtain ⟨x0, d0, rfl, h0⟩ := pop_some h
  obtain ⟨rfl, g⟩ := popN_some h0
  cases g
  rfl
theorem evermoretop_TopWays.fn : FnOk Try.prog 10 Try.f10 evermoretop_TopWays.body Try.f10.ntmps 1 (fnRes Try.f10) :=
  fnOk_of (by kernel_rfl) (by kernel_rfl) (by kernel_rfl) (by kernel_rfl)
theorem evermoretop_TopWays.con' : ∀ k ds r, evermoretop_TopWays.g k ds = some r → Con Try.prog 10 1 evermoretop_TopWays.ti evermoretop_TopWays.to ds (evermoretop_TopWays.rs r) :=
  fun_ok (T := T) T_ok mixed evermoretop_TopWays.fn (env := evermoretop_TopWays.env) (tbl := evermoretop_TopWays.tbl) (gOut := evermoretop_TopWays.out) (nin := 0) (cuts := []) (fuel := 100000) rfl (by kernel_rfl) (by kernel_rfl) (by kernel_rfl) (fun x hx => by
    simp only [evermoretop_TopWays.tbl, List.mem_cons, List.not_mem_nil, or_false] at hx
    rcases hx with rfl | rfl
    · exact evermoretop_TopWays.h21
    · exact evermoretop_TopWays.h31
) evermoretop_TopWays.o evermoretop_TopWays.h (fun k _ => by unfold evermoretop_TopWays.env; exact (envC_ok (fun ds K r h => by
    obtain ⟨x0, d0, rfl, h0⟩ := pop_some h
    obtain ⟨rfl, g⟩ := popN_some h0
    obtain ⟨r1, h1, h2⟩ := bind_some g
    exact ⟨_, h2, two_Det.con k _ h1⟩) (envC_ok (fun ds K r h => by
    obtain ⟨x0, d0, rfl, h0⟩ := pop_some h
    obtain ⟨rfl, g⟩ := popN_some h0
    obtain ⟨r1, h1, h2⟩ := bind_some g
    exact ⟨_, h2, alter_Det.con k _ h1⟩) (envC_ok (fun ds K r h => by
    iterate 2 (obtain ⟨_, _, e, g⟩ := pop_some h; clear h; subst e; have h := g; clear g)
    obtain ⟨rfl, g⟩ := popN_some h
    obtain ⟨r1, h1, h2⟩ := bind_some g
    exact ⟨_, h2, evermoretop_alike.con k _ h1⟩) (envC_ok (fun ds K r h => by
    obtain ⟨x0, d0, rfl, h0⟩ := pop_some h
    obtain ⟨rfl, g⟩ := popN_some h0
    obtain ⟨r1, h1, h2⟩ := bind_some g
    exact ⟨_, h2, det_Least.con k _ h1⟩) env0_ok)))))
theorem evermoretop_TopWays.con (k : Nat) {x0 : (Int × (Int × ((List (List Int)) × ((List Int) × Unit))))} (r : Bool) (h : evermoretop_TopWays.f k x0 = some r) : Con Try.prog 10 1 evermoretop_TopWays.ti evermoretop_TopWays.to [⟨Z6, x0⟩] (evermoretop_TopWays.rs r) :=
  evermoretop_TopWays.con' (k + 1) _ r (by show evermoretop_TopWays.c k _ = some r; unfold evermoretop_TopWays.c; simp only [pop_self, popN]; exact h)
/-- The one pure statement of the law, over whatever arguments can be read. -/
def evermoretop_TopWays.PureH : Prop := ∀ (x0 : (Int × (Int × ((List (List Int)) × ((List Int) × Unit))))), Ty.okv Z6 x0 → ∃ k, evermoretop_TopWays.f k x0 = some true
end Go.Proofs.YtfkilmmldjajmaaSx
