import Derived.Test.YtiiioobebeaafaaGaDetMixed
set_option linter.unusedVariables false
set_option maxRecDepth 100000
namespace Go.Proofs.YtiiioobebeaafaaSx
open Go Go.Proofs
mutual
def det_seeks.l3 : Nat → Int → Int → Int → List (List (Int)) → List (Int) → Int → Int → List (List (Int)) → List (Int) → List (((Int × (Int × Unit)) × List (Int))) → List ((Int × (Int × Unit))) → Option (List Int × Bool × Int × Int × List (List Int) × List Int × Int × Int × List (List Int) × List Int)
 | 0, _, _, _, _, _, _, _, _, _, _, _ => none
 | k + 1, letters1, c0_0, c0_1, c0_2, c0_3, c1_0, c1_1, c1_2, c1_3, ways10, l11 =>
  if 0 < (↑l11.length : Int) then
   if 0 ≤ 0 then
   if 0 < (↑l11.length : Int) then
    (det_Differ_2.f k (l11.getD (Int.toNat 0) (Int.ofNat 0, Int.ofNat 0, ())) c0_0 c0_1 c0_2 c0_3 c1_0 c1_1 c1_2 c1_3).bind fun r5 =>
      if r5.fst = true then
       if 0 ≤ 0 then
       if 0 < (↑l11.length : Int) then
        some (Go.Proofs.YtiiioobebeaafaaSx.mget ((Go.Proofs.YtiiioobebeaafaaSx.Ty.int Go.IntKind.i64).pair ((Go.Proofs.YtiiioobebeaafaaSx.Ty.int Go.IntKind.i64).pair Go.Proofs.YtiiioobebeaafaaSx.Ty.unit)) (Go.Proofs.YtiiioobebeaafaaSx.Ty.int Go.IntKind.i64).slice ways10 (l11.getD (Int.toNat 0) (Int.ofNat 0, Int.ofNat 0, ())), true, r5.snd.fst, r5.snd.snd.fst, r5.snd.snd.snd.fst, r5.snd.snd.snd.snd.fst, r5.snd.snd.snd.snd.snd.fst, r5.snd.snd.snd.snd.snd.snd.fst, r5.snd.snd.snd.snd.snd.snd.snd.fst, r5.snd.snd.snd.snd.snd.snd.snd.snd)
        else none
       else none
      else
       det_seeks.l8 k letters1 letters1 0 r5.snd.fst r5.snd.snd.fst r5.snd.snd.snd.fst r5.snd.snd.snd.snd.fst r5.snd.snd.snd.snd.snd.fst r5.snd.snd.snd.snd.snd.snd.fst r5.snd.snd.snd.snd.snd.snd.snd.fst r5.snd.snd.snd.snd.snd.snd.snd.snd ways10 l11
    else none
   else none
  else
   some ([], false, c0_0, c0_1, c0_2, c0_3, c1_0, c1_1, c1_2, c1_3)
def det_seeks.l8 : Nat → Int → Int → Int → Int → Int → List (List (Int)) → List (Int) → Int → Int → List (List (Int)) → List (Int) → List (((Int × (Int × Unit)) × List (Int))) → List ((Int × (Int × Unit))) → Option (List Int × Bool × Int × Int × List (List Int) × List Int × Int × Int × List (List Int) × List Int)
 | 0, _, _, _, _, _, _, _, _, _, _, _, _, _ => none
 | k + 1, letters1, x37, x38, c0_0, c0_1, c0_2, c0_3, c1_0, c1_1, c1_2, c1_3, ways10, l11 =>
  if x38 < x37 then
   if 0 ≤ 0 then
   if 0 < (↑l11.length : Int) then
    (det_Differ_1.f k (l11.getD (Int.toNat 0) (Int.ofNat 0, Int.ofNat 0, ())) x38 c0_0 c0_1 c0_2 c0_3 c1_0 c1_1 c1_2 c1_3).bind fun r5 =>
      if Go.Proofs.YtiiioobebeaafaaSx.mhas ((Go.Proofs.YtiiioobebeaafaaSx.Ty.int Go.IntKind.i64).pair ((Go.Proofs.YtiiioobebeaafaaSx.Ty.int Go.IntKind.i64).pair Go.Proofs.YtiiioobebeaafaaSx.Ty.unit)) (Go.Proofs.YtiiioobebeaafaaSx.Ty.int Go.IntKind.i64).slice ways10 (r5.fst.fst, r5.fst.snd.fst, ()) = true then
       det_seeks.j15 k letters1 x37 x38 r5.snd.fst r5.snd.snd.fst r5.snd.snd.snd.fst r5.snd.snd.snd.snd.fst r5.snd.snd.snd.snd.snd.fst r5.snd.snd.snd.snd.snd.snd.fst r5.snd.snd.snd.snd.snd.snd.snd.fst r5.snd.snd.snd.snd.snd.snd.snd.snd ways10 l11
      else
       if 0 ≤ 0 then
       if 0 < (↑l11.length : Int) then
        (slices_Clone___int_int_.f k (Go.Proofs.YtiiioobebeaafaaSx.mget ((Go.Proofs.YtiiioobebeaafaaSx.Ty.int Go.IntKind.i64).pair ((Go.Proofs.YtiiioobebeaafaaSx.Ty.int Go.IntKind.i64).pair Go.Proofs.YtiiioobebeaafaaSx.Ty.unit)) (Go.Proofs.YtiiioobebeaafaaSx.Ty.int Go.IntKind.i64).slice ways10 (l11.getD (Int.toNat 0) (Int.ofNat 0, Int.ofNat 0, ())))).bind fun r9 =>
          if (r9 ++ [x38]).length.blt 1000000000 = true then
          if (l11 ++ [(r5.fst.fst, r5.fst.snd.fst, ())]).length.blt 1000000000 = true then
           det_seeks.j15 k letters1 x37 x38 r5.snd.fst r5.snd.snd.fst r5.snd.snd.snd.fst r5.snd.snd.snd.snd.fst r5.snd.snd.snd.snd.snd.fst r5.snd.snd.snd.snd.snd.snd.fst r5.snd.snd.snd.snd.snd.snd.snd.fst r5.snd.snd.snd.snd.snd.snd.snd.snd (Go.Proofs.YtiiioobebeaafaaSx.mput ((Go.Proofs.YtiiioobebeaafaaSx.Ty.int Go.IntKind.i64).pair ((Go.Proofs.YtiiioobebeaafaaSx.Ty.int Go.IntKind.i64).pair Go.Proofs.YtiiioobebeaafaaSx.Ty.unit)) (Go.Proofs.YtiiioobebeaafaaSx.Ty.int Go.IntKind.i64).slice ways10 (r5.fst.fst, r5.fst.snd.fst, ()) (r9 ++ [x38])) (l11 ++ [(r5.fst.fst, r5.fst.snd.fst, ())])
           else none
          else none
        else none
       else none
    else none
   else none
  else
   if 0 ≤ 1 then
   if 1 ≤ (↑l11.length : Int) then
    if (↑l11.length : Int) ≤ (↑l11.length : Int) then
     det_seeks.l3 k letters1 c0_0 c0_1 c0_2 c0_3 c1_0 c1_1 c1_2 c1_3 ways10 (List.take ((↑l11.length : Int).toNat - Int.toNat 1) (List.drop (Int.toNat 1) l11))
     else none
    else none
   else none
def det_seeks.j15 : Nat → Int → Int → Int → Int → Int → List (List (Int)) → List (Int) → Int → Int → List (List (Int)) → List (Int) → List (((Int × (Int × Unit)) × List (Int))) → List ((Int × (Int × Unit))) → Option (List Int × Bool × Int × Int × List (List Int) × List Int × Int × Int × List (List Int) × List Int)
 | 0, _, _, _, _, _, _, _, _, _, _, _, _, _ => none
 | k + 1, letters1, x37, x38, c0_0, c0_1, c0_2, c0_3, c1_0, c1_1, c1_2, c1_3, ways10, l11 =>
  det_seeks.l8 k letters1 x37 (Go.IntKind.i64.wrap (x38 + 1)) c0_0 c0_1 c0_2 c0_3 c1_0 c1_1 c1_2 c1_3 ways10 l11
end
def det_seeks.f (k : Nat) (first0 : (Int × (Int × Unit))) (letters1 : Int) (c0_0 : Int) (c0_1 : Int) (c0_2 : List (List (Int))) (c0_3 : List (Int)) (c1_0 : Int) (c1_1 : Int) (c1_2 : List (List (Int))) (c1_3 : List (Int)) : Option (List Int × Bool × Int × Int × List (List Int) × List Int × Int × Int × List (List Int) × List Int) :=
 det_seeks.l3 k letters1 c0_0 c0_1 c0_2 c0_3 c1_0 c1_1 c1_2 c1_3 (Go.Proofs.YtiiioobebeaafaaSx.mput ((Go.Proofs.YtiiioobebeaafaaSx.Ty.int Go.IntKind.i64).pair ((Go.Proofs.YtiiioobebeaafaaSx.Ty.int Go.IntKind.i64).pair Go.Proofs.YtiiioobebeaafaaSx.Ty.unit)) (Go.Proofs.YtiiioobebeaafaaSx.Ty.int Go.IntKind.i64).slice [] (first0.fst, first0.snd.fst, ()) []) ([(first0.fst, first0.snd.fst, ())])

noncomputable def det_seeks.body : Code := fnBody Try.f101
def det_seeks.ti : Tm := ⟨[(0, .p (.pair (.int .i64) (.pair (.int .i64) .unit))), (1, .p (.int .i64)), (2, .fn 121 [.ptr 0 0, .ptr 1 0]), (3, .fn 122 [.ptr 0 0, .ptr 1 0])], [.box [.p (.int .i64), .p (.int .i64), .p (.slice (.slice (.int .i64))), .p (.slice (.int .i64))] 58, .box [.p (.int .i64), .p (.int .i64), .p (.slice (.slice (.int .i64))), .p (.slice (.int .i64))] 58]⟩
def det_seeks.to : Tm := ⟨[(0, .p (.slice (.int .i64))), (1, .p .bool)], [.box [.p (.int .i64), .p (.int .i64), .p (.slice (.slice (.int .i64))), .p (.slice (.int .i64))] 58, .box [.p (.int .i64), .p (.int .i64), .p (.slice (.slice (.int .i64))), .p (.slice (.int .i64))] 58]⟩
def det_seeks.rs (r : (List Int) × Bool × Int × Int × (List (List Int)) × (List Int) × Int × Int × (List (List Int)) × (List Int)) : List Dat := [⟨(.slice (.int .i64)), r.1⟩, ⟨.bool, r.2.1⟩, ⟨(.int .i64), r.2.2.1⟩, ⟨(.int .i64), r.2.2.2.1⟩, ⟨(.slice (.slice (.int .i64))), r.2.2.2.2.1⟩, ⟨(.slice (.int .i64)), r.2.2.2.2.2.1⟩, ⟨(.int .i64), r.2.2.2.2.2.2.1⟩, ⟨(.int .i64), r.2.2.2.2.2.2.2.1⟩, ⟨(.slice (.slice (.int .i64))), r.2.2.2.2.2.2.2.2.1⟩, ⟨(.slice (.int .i64)), r.2.2.2.2.2.2.2.2.2⟩]
def det_seeks.out (ds : List Dat) : Option ((List Int) × Bool × Int × Int × (List (List Int)) × (List Int) × Int × Int × (List (List Int)) × (List Int)) := pop (.slice (.int .i64)) ds fun x0 ds => pop .bool ds fun x1 ds => pop (.int .i64) ds fun x2 ds => pop (.int .i64) ds fun x3 ds => pop (.slice (.slice (.int .i64))) ds fun x4 ds => pop (.slice (.int .i64)) ds fun x5 ds => pop (.int .i64) ds fun x6 ds => pop (.int .i64) ds fun x7 ds => pop (.slice (.slice (.int .i64))) ds fun x8 ds => pop (.slice (.int .i64)) ds fun x9 ds => popN ds (some (x0, x1, x2, x3, x4, x5, x6, x7, x8, x9))
def det_seeks.c (k : Nat) (ds : List Dat) : Option ((List Int) × Bool × Int × Int × (List (List Int)) × (List Int) × Int × Int × (List (List Int)) × (List Int)) := pop (.pair (.int .i64) (.pair (.int .i64) .unit)) ds fun x0 ds => pop (.int .i64) ds fun x1 ds => pop (.int .i64) ds fun x2 ds => pop (.int .i64) ds fun x3 ds => pop (.slice (.slice (.int .i64))) ds fun x4 ds => pop (.slice (.int .i64)) ds fun x5 ds => pop (.int .i64) ds fun x6 ds => pop (.int .i64) ds fun x7 ds => pop (.slice (.slice (.int .i64))) ds fun x8 ds => pop (.slice (.int .i64)) ds fun x9 ds => popN ds (det_seeks.f k x0 x1 x2 x3 x4 x5 x6 x7 x8 x9)
def det_seeks.g : Nat → List Dat → Option ((List Int) × Bool × Int × Int × (List (List Int)) × (List Int) × Int × Int × (List (List Int)) × (List Int))
 | 0, _ => none
 | k + 1, ds => det_seeks.c k ds
def det_seeks.env (k : Nat) : Nat → List SV → List Chunk → KT ((List Int) × Bool × Int × Int × (List (List Int)) × (List Int) × Int × Int × (List (List Int)) × (List Int)) → Option ((List Int) × Bool × Int × Int × (List (List Int)) × (List Int) × Int × Int × (List (List Int)) × (List Int)) := (envC 122 3 det_Differ_2.ti det_Differ_2.to (fun ds K => pop (.pair (.int .i64) (.pair (.int .i64) .unit)) ds fun x0 ds => pop (.int .i64) ds fun x1 ds => pop (.int .i64) ds fun x2 ds => pop (.slice (.slice (.int .i64))) ds fun x3 ds => pop (.slice (.int .i64)) ds fun x4 ds => pop (.int .i64) ds fun x5 ds => pop (.int .i64) ds fun x6 ds => pop (.slice (.slice (.int .i64))) ds fun x7 ds => pop (.slice (.int .i64)) ds fun x8 ds => popN ds ((det_Differ_2.f k x0 x1 x2 x3 x4 x5 x6 x7 x8).bind fun r => K (det_Differ_2.rs r))) (envC 121 4 det_Differ_1.ti det_Differ_1.to (fun ds K => pop (.pair (.int .i64) (.pair (.int .i64) .unit)) ds fun x0 ds => pop (.int .i64) ds fun x1 ds => pop (.int .i64) ds fun x2 ds => pop (.int .i64) ds fun x3 ds => pop (.slice (.slice (.int .i64))) ds fun x4 ds => pop (.slice (.int .i64)) ds fun x5 ds => pop (.int .i64) ds fun x6 ds => pop (.int .i64) ds fun x7 ds => pop (.slice (.slice (.int .i64))) ds fun x8 ds => pop (.slice (.int .i64)) ds fun x9 ds => popN ds ((det_Differ_1.f k x0 x1 x2 x3 x4 x5 x6 x7 x8 x9).bind fun r => K (det_Differ_1.rs r))) (envC 84 1 slices_Clone___int_int_.ti slices_Clone___int_int_.to (fun ds K => pop (.slice (.int .i64)) ds fun x0 ds => popN ds ((slices_Clone___int_int_.f k x0).bind fun r => K (slices_Clone___int_int_.rs r))) env0)))
def det_seeks.t7 : Tm := ⟨[(1, .p (.int .i64)), (2, .fn 121 [.ptr 0 0, .ptr 1 0]), (3, .fn 122 [.ptr 0 0, .ptr 1 0]), (10, .map 2), (11, .own 3)], [.box [.p (.int .i64), .p (.int .i64), .p (.slice (.slice (.int .i64))), .p (.slice (.int .i64))] 58, .box [.p (.int .i64), .p (.int .i64), .p (.slice (.slice (.int .i64))), .p (.slice (.int .i64))] 58, .map (.pair (.int .i64) (.pair (.int .i64) .unit)) (.slice (.int .i64)), .own (.pair (.int .i64) (.pair (.int .i64) .unit))]⟩
def det_seeks.c7 (k : Nat) (ds : List Dat) : Option ((List Int) × Bool × Int × Int × (List (List Int)) × (List Int) × Int × Int × (List (List Int)) × (List Int)) := pop (.int .i64) ds fun x0 ds => pop (.int .i64) ds fun x1 ds => pop (.int .i64) ds fun x2 ds => pop (.slice (.slice (.int .i64))) ds fun x3 ds => pop (.slice (.int .i64)) ds fun x4 ds => pop (.int .i64) ds fun x5 ds => pop (.int .i64) ds fun x6 ds => pop (.slice (.slice (.int .i64))) ds fun x7 ds => pop (.slice (.int .i64)) ds fun x8 ds => pop (.slice (.pair (.pair (.int .i64) (.pair (.int .i64) .unit)) (.slice (.int .i64)))) ds fun x9 ds => pop (.slice (.pair (.int .i64) (.pair (.int .i64) .unit))) ds fun x10 ds => popN ds (det_seeks.l3 k x0 x1 x2 x3 x4 x5 x6 x7 x8 x9 x10)
def det_seeks.t17 : Tm := ⟨[(1, .p (.int .i64)), (2, .fn 121 [.ptr 0 0, .ptr 1 0]), (3, .fn 122 [.ptr 0 0, .ptr 1 0]), (10, .map 2), (11, .own 3), (37, .p (.int .i64)), (38, .p (.int .i64))], [.box [.p (.int .i64), .p (.int .i64), .p (.slice (.slice (.int .i64))), .p (.slice (.int .i64))] 58, .box [.p (.int .i64), .p (.int .i64), .p (.slice (.slice (.int .i64))), .p (.slice (.int .i64))] 58, .map (.pair (.int .i64) (.pair (.int .i64) .unit)) (.slice (.int .i64)), .own (.pair (.int .i64) (.pair (.int .i64) .unit))]⟩
def det_seeks.c17 (k : Nat) (ds : List Dat) : Option ((List Int) × Bool × Int × Int × (List (List Int)) × (List Int) × Int × Int × (List (List Int)) × (List Int)) := pop (.int .i64) ds fun x0 ds => pop (.int .i64) ds fun x1 ds => pop (.int .i64) ds fun x2 ds => pop (.int .i64) ds fun x3 ds => pop (.int .i64) ds fun x4 ds => pop (.slice (.slice (.int .i64))) ds fun x5 ds => pop (.slice (.int .i64)) ds fun x6 ds => pop (.int .i64) ds fun x7 ds => pop (.int .i64) ds fun x8 ds => pop (.slice (.slice (.int .i64))) ds fun x9 ds => pop (.slice (.int .i64)) ds fun x10 ds => pop (.slice (.pair (.pair (.int .i64) (.pair (.int .i64) .unit)) (.slice (.int .i64)))) ds fun x11 ds => pop (.slice (.pair (.int .i64) (.pair (.int .i64) .unit))) ds fun x12 ds => popN ds (det_seeks.l8 k x0 x1 x2 x3 x4 x5 x6 x7 x8 x9 x10 x11 x12)
def det_seeks.t30 : Tm := ⟨[(1, .p (.int .i64)), (2, .fn 121 [.ptr 0 0, .ptr 1 0]), (3, .fn 122 [.ptr 0 0, .ptr 1 0]), (10, .map 2), (11, .own 3), (37, .p (.int .i64)), (38, .p (.int .i64))], [.box [.p (.int .i64), .p (.int .i64), .p (.slice (.slice (.int .i64))), .p (.slice (.int .i64))] 58, .box [.p (.int .i64), .p (.int .i64), .p (.slice (.slice (.int .i64))), .p (.slice (.int .i64))] 58, .map (.pair (.int .i64) (.pair (.int .i64) .unit)) (.slice (.int .i64)), .own (.pair (.int .i64) (.pair (.int .i64) .unit))]⟩
def det_seeks.c30 (k : Nat) (ds : List Dat) : Option ((List Int) × Bool × Int × Int × (List (List Int)) × (List Int) × Int × Int × (List (List Int)) × (List Int)) := pop (.int .i64) ds fun x0 ds => pop (.int .i64) ds fun x1 ds => pop (.int .i64) ds fun x2 ds => pop (.int .i64) ds fun x3 ds => pop (.int .i64) ds fun x4 ds => pop (.slice (.slice (.int .i64))) ds fun x5 ds => pop (.slice (.int .i64)) ds fun x6 ds => pop (.int .i64) ds fun x7 ds => pop (.int .i64) ds fun x8 ds => pop (.slice (.slice (.int .i64))) ds fun x9 ds => pop (.slice (.int .i64)) ds fun x10 ds => pop (.slice (.pair (.pair (.int .i64) (.pair (.int .i64) .unit)) (.slice (.int .i64)))) ds fun x11 ds => pop (.slice (.pair (.int .i64) (.pair (.int .i64) .unit))) ds fun x12 ds => popN ds (det_seeks.j15 k x0 x1 x2 x3 x4 x5 x6 x7 x8 x9 x10 x11 x12)
def det_seeks.tbl : List (Nat × Tm × (Nat → List Dat → Option ((List Int) × Bool × Int × Int × (List (List Int)) × (List Int) × Int × Int × (List (List Int)) × (List Int)))) := [(7, det_seeks.t7, det_seeks.c7), (17, det_seeks.t17, det_seeks.c17), (30, det_seeks.t30, det_seeks.c30)]
noncomputable abbrev det_seeks.R (k : Nat) := run T (det_seeks.env k) Try.f101.ntmps (cutE 2 det_seeks.tbl k) (finE 2 det_seeks.to det_seeks.out) (fnRes Try.f101) [15] 100000 true
theorem det_seeks.e7 (k : Nat) (x0 : Int) (x1 : Int) (x2 : Int) (x3 : (List (List Int))) (x4 : (List Int)) (x5 : Int) (x6 : Int) (x7 : (List (List Int))) (x8 : (List Int)) (x9 : (List ((Int × (Int × Unit)) × (List Int)))) (x10 : (List (Int × (Int × Unit)))) : det_seeks.l3 (k + 1) x0 x1 x2 x3 x4 x5 x6 x7 x8 x9 x10 = det_seeks.R k (start (stackOf 7 det_seeks.body)) (det_seeks.t7.fill [⟨(.int .i64), x0⟩, ⟨(.int .i64), x1⟩, ⟨(.int .i64), x2⟩, ⟨(.slice (.slice (.int .i64))), x3⟩, ⟨(.slice (.int .i64)), x4⟩, ⟨(.int .i64), x5⟩, ⟨(.int .i64), x6⟩, ⟨(.slice (.slice (.int .i64))), x7⟩, ⟨(.slice (.int .i64)), x8⟩, ⟨(.slice (.pair (.pair (.int .i64) (.pair (.int .i64) .unit)) (.slice (.int .i64)))), x9⟩, ⟨(.slice (.pair (.int .i64) (.pair (.int .i64) .unit))), x10⟩]) := by kernel_rfl
theorem det_seeks.s7 : stackAt 7 det_seeks.body [] = some (stackOf 7 det_seeks.body) := by kernel_rfl
theorem det_seeks.h7 (k : Nat) (ds : List Dat) (r : (List Int) × Bool × Int × Int × (List (List Int)) × (List Int) × Int × Int × (List (List Int)) × (List Int)) (h : det_seeks.c7 k ds = some r) : ∃ k', k' < k ∧ ∃ s, stackAt 7 det_seeks.body [] = some s ∧ det_seeks.R k' (start s) (det_seeks.t7.fill ds) = some r := by
  unfold det_seeks.c7 at h
  obtain ⟨x0, d0, rfl, h0⟩ := pop_some h
  obtain ⟨x1, d1, rfl, h1⟩ := pop_some h0
  obtain ⟨x2, d2, rfl, h2⟩ := pop_some h1
  obtain ⟨x3, d3, rfl, h3⟩ := pop_some h2
  obtain ⟨x4, d4, rfl, h4⟩ := pop_some h3
  obtain ⟨x5, d5, rfl, h5⟩ := pop_some h4
  obtain ⟨x6, d6, rfl, h6⟩ := pop_some h5
  obtain ⟨x7, d7, rfl, h7⟩ := pop_some h6
  obtain ⟨x8, d8, rfl, h8⟩ := pop_some h7
  obtain ⟨x9, d9, rfl, h9⟩ := pop_some h8
  obtain ⟨x10, d10, rfl, h10⟩ := pop_some h9
  obtain ⟨rfl, g⟩ := popN_some h10
  cases k with
  | zero => cases (show none = some r from g)
  | succ k => exact ⟨k, Nat.lt_succ_self k, _, det_seeks.s7, (det_seeks.e7 k x0 x1 x2 x3 x4 x5 x6 x7 x8 x9 x10).symm.trans g⟩
theorem det_seeks.e17 (k : Nat) (x0 : Int) (x1 : Int) (x2 : Int) (x3 : Int) (x4 : Int) (x5 : (List (List Int))) (x6 : (List Int)) (x7 : Int) (x8 : Int) (x9 : (List (List Int))) (x10 : (List Int)) (x11 : (List ((Int × (Int × Unit)) × (List Int)))) (x12 : (List (Int × (Int × Unit)))) : det_seeks.l8 (k + 1) x0 x1 x2 x3 x4 x5 x6 x7 x8 x9 x10 x11 x12 = det_seeks.R k (start (stackOf 17 det_seeks.body)) (det_seeks.t17.fill [⟨(.int .i64), x0⟩, ⟨(.int .i64), x1⟩, ⟨(.int .i64), x2⟩, ⟨(.int .i64), x3⟩, ⟨(.int .i64), x4⟩, ⟨(.slice (.slice (.int .i64))), x5⟩, ⟨(.slice (.int .i64)), x6⟩, ⟨(.int .i64), x7⟩, ⟨(.int .i64), x8⟩, ⟨(.slice (.slice (.int .i64))), x9⟩, ⟨(.slice (.int .i64)), x10⟩, ⟨(.slice (.pair (.pair (.int .i64) (.pair (.int .i64) .unit)) (.slice (.int .i64)))), x11⟩, ⟨(.slice (.pair (.int .i64) (.pair (.int .i64) .unit))), x12⟩]) := by kernel_rfl
theorem det_seeks.s17 : stackAt 17 det_seeks.body [] = some (stackOf 17 det_seeks.body) := by kernel_rfl
theorem det_seeks.h17 (k : Nat) (ds : List Dat) (r : (List Int) × Bool × Int × Int × (List (List Int)) × (List Int) × Int × Int × (List (List Int)) × (List Int)) (h : det_seeks.c17 k ds = some r) : ∃ k', k' < k ∧ ∃ s, stackAt 17 det_seeks.body [] = some s ∧ det_seeks.R k' (start s) (det_seeks.t17.fill ds) = some r := by
  unfold det_seeks.c17 at h
  obtain ⟨x0, d0, rfl, h0⟩ := pop_some h
  obtain ⟨x1, d1, rfl, h1⟩ := pop_some h0
  obtain ⟨x2, d2, rfl, h2⟩ := pop_some h1
  obtain ⟨x3, d3, rfl, h3⟩ := pop_some h2
  obtain ⟨x4, d4, rfl, h4⟩ := pop_some h3
  obtain ⟨x5, d5, rfl, h5⟩ := pop_some h4
  obtain ⟨x6, d6, rfl, h6⟩ := pop_some h5
  obtain ⟨x7, d7, rfl, h7⟩ := pop_some h6
  obtain ⟨x8, d8, rfl, h8⟩ := pop_some h7
  obtain ⟨x9, d9, rfl, h9⟩ := pop_some h8
  obtain ⟨x10, d10, rfl, h10⟩ := pop_some h9
  obtain ⟨x11, d11, rfl, h11⟩ := pop_some h10
  obtain ⟨x12, d12, rfl, h12⟩ := pop_some h11
  obtain ⟨rfl, g⟩ := popN_some h12
  cases k with
  | zero => cases (show none = some r from g)
  | succ k => exact ⟨k, Nat.lt_succ_self k, _, det_seeks.s17, (det_seeks.e17 k x0 x1 x2 x3 x4 x5 x6 x7 x8 x9 x10 x11 x12).symm.trans g⟩
theorem det_seeks.e30 (k : Nat) (x0 : Int) (x1 : Int) (x2 : Int) (x3 : Int) (x4 : Int) (x5 : (List (List Int))) (x6 : (List Int)) (x7 : Int) (x8 : Int) (x9 : (List (List Int))) (x10 : (List Int)) (x11 : (List ((Int × (Int × Unit)) × (List Int)))) (x12 : (List (Int × (Int × Unit)))) : det_seeks.j15 (k + 1) x0 x1 x2 x3 x4 x5 x6 x7 x8 x9 x10 x11 x12 = det_seeks.R k (start (stackOf 30 det_seeks.body)) (det_seeks.t30.fill [⟨(.int .i64), x0⟩, ⟨(.int .i64), x1⟩, ⟨(.int .i64), x2⟩, ⟨(.int .i64), x3⟩, ⟨(.int .i64), x4⟩, ⟨(.slice (.slice (.int .i64))), x5⟩, ⟨(.slice (.int .i64)), x6⟩, ⟨(.int .i64), x7⟩, ⟨(.int .i64), x8⟩, ⟨(.slice (.slice (.int .i64))), x9⟩, ⟨(.slice (.int .i64)), x10⟩, ⟨(.slice (.pair (.pair (.int .i64) (.pair (.int .i64) .unit)) (.slice (.int .i64)))), x11⟩, ⟨(.slice (.pair (.int .i64) (.pair (.int .i64) .unit))), x12⟩]) := by kernel_rfl
theorem det_seeks.s30 : stackAt 30 det_seeks.body [] = some (stackOf 30 det_seeks.body) := by kernel_rfl
theorem det_seeks.h30 (k : Nat) (ds : List Dat) (r : (List Int) × Bool × Int × Int × (List (List Int)) × (List Int) × Int × Int × (List (List Int)) × (List Int)) (h : det_seeks.c30 k ds = some r) : ∃ k', k' < k ∧ ∃ s, stackAt 30 det_seeks.body [] = some s ∧ det_seeks.R k' (start s) (det_seeks.t30.fill ds) = some r := by
  unfold det_seeks.c30 at h
  obtain ⟨x0, d0, rfl, h0⟩ := pop_some h
  obtain ⟨x1, d1, rfl, h1⟩ := pop_some h0
  obtain ⟨x2, d2, rfl, h2⟩ := pop_some h1
  obtain ⟨x3, d3, rfl, h3⟩ := pop_some h2
  obtain ⟨x4, d4, rfl, h4⟩ := pop_some h3
  obtain ⟨x5, d5, rfl, h5⟩ := pop_some h4
  obtain ⟨x6, d6, rfl, h6⟩ := pop_some h5
  obtain ⟨x7, d7, rfl, h7⟩ := pop_some h6
  obtain ⟨x8, d8, rfl, h8⟩ := pop_some h7
  obtain ⟨x9, d9, rfl, h9⟩ := pop_some h8
  obtain ⟨x10, d10, rfl, h10⟩ := pop_some h9
  obtain ⟨x11, d11, rfl, h11⟩ := pop_some h10
  obtain ⟨x12, d12, rfl, h12⟩ := pop_some h11
  obtain ⟨rfl, g⟩ := popN_some h12
  cases k with
  | zero => cases (show none = some r from g)
  | succ k => exact ⟨k, Nat.lt_succ_self k, _, det_seeks.s30, (det_seeks.e30 k x0 x1 x2 x3 x4 x5 x6 x7 x8 x9 x10 x11 x12).symm.trans g⟩
theorem det_seeks.e (k : Nat) (x0 : (Int × (Int × Unit))) (x1 : Int) (x2 : Int) (x3 : Int) (x4 : (List (List Int))) (x5 : (List Int)) (x6 : Int) (x7 : Int) (x8 : (List (List Int))) (x9 : (List Int)) : det_seeks.f k x0 x1 x2 x3 x4 x5 x6 x7 x8 x9 = det_seeks.R k ([.code det_seeks.body]) (det_seeks.ti.fill [⟨(.pair (.int .i64) (.pair (.int .i64) .unit)), x0⟩, ⟨(.int .i64), x1⟩, ⟨(.int .i64), x2⟩, ⟨(.int .i64), x3⟩, ⟨(.slice (.slice (.int .i64))), x4⟩, ⟨(.slice (.int .i64)), x5⟩, ⟨(.int .i64), x6⟩, ⟨(.int .i64), x7⟩, ⟨(.slice (.slice (.int .i64))), x8⟩, ⟨(.slice (.int .i64)), x9⟩]) := by kernel_rfl
theorem det_seeks.h (k : Nat) (ds : List Dat) (r : (List Int) × Bool × Int × Int × (List (List Int)) × (List Int) × Int × Int × (List (List Int)) × (List Int)) (h : det_seeks.g k ds = some r) : ∃ k', k' < k ∧ det_seeks.R k' ([.code det_seeks.body]) (det_seeks.ti.fill ds) = some r := by
  cases k with
  | zero => cases (show none = some r from h)
  | succ k =>
  replace h : det_seeks.c k ds = some r := h
  unfold det_seeks.c at h
  obtain ⟨x0, d0, rfl, h0⟩ := pop_some h
  obtain ⟨x1, d1, rfl, h1⟩ := pop_some h0
  obtain ⟨x2, d2, rfl, h2⟩ := pop_some h1
  obtain ⟨x3, d3, rfl, h3⟩ := pop_some h2
  obtain ⟨x4, d4, rfl, h4⟩ := pop_some h3
  obtain ⟨x5, d5, rfl, h5⟩ := pop_some h4
  obtain ⟨x6, d6, rfl, h6⟩ := pop_some h5
  obtain ⟨x7, d7, rfl, h7⟩ := pop_some h6
  obtain ⟨x8, d8, rfl, h8⟩ := pop_some h7
  obtain ⟨x9, d9, rfl, h9⟩ := pop_some h8
  obtain ⟨rfl, g⟩ := popN_some h9
  exact ⟨k, Nat.lt_succ_self k, (det_seeks.e k x0 x1 x2 x3 x4 x5 x6 x7 x8 x9).symm.trans g⟩
theorem det_seeks.o (ds : List Dat) (r : (List Int) × Bool × Int × Int × (List (List Int)) × (List Int) × Int × Int × (List (List Int)) × (List Int)) (h : det_seeks.out ds = some r) : ds = det_seeks.rs r := by
  unfold det_seeks.out at h
  obtain ⟨x0, d0, rfl, h0⟩ := pop_some h
  obtain ⟨x1, d1, rfl, h1⟩ := pop_some h0
  obtain ⟨x2, d2, rfl, h2⟩ := pop_some h1
  obtain ⟨x3, d3, rfl, h3⟩ := pop_some h2
  obtain ⟨x4, d4, rfl, h4⟩ := pop_some h3
  obtain ⟨x5, d5, rfl, h5⟩ := pop_some h4
  obtain ⟨x6, d6, rfl, h6⟩ := pop_some h5
  obtain ⟨x7, d7, rfl, h7⟩ := pop_some h6
  obtain ⟨x8, d8, rfl, h8⟩ := pop_some h7
  obtain ⟨x9, d9, rfl, h9⟩ := pop_some h8
  obtain ⟨rfl, g⟩ := popN_some h9
  cases g
  rfl
theorem det_seeks.fn : FnOk Try.prog 101 Try.f101 det_seeks.body Try.f101.ntmps 4 (fnRes Try.f101) :=
  fnOk_of (by kernel_rfl) (by kernel_rfl) (by kernel_rfl) (by kernel_rfl)
theorem det_seeks.con' : ∀ k ds r, det_seeks.g k ds = some r → Con Try.prog 101 4 det_seeks.ti det_seeks.to ds (det_seeks.rs r) :=
  fun_ok (T := T) T_ok mixed det_seeks.fn (env := det_seeks.env) (tbl := det_seeks.tbl) (gOut := det_seeks.out) (nin := 2) (cuts := [15]) (fuel := 100000) rfl (by kernel_rfl) (by kernel_rfl) (by kernel_rfl) (fun x hx => by
    simp only [det_seeks.tbl, List.mem_cons, List.not_mem_nil, or_false] at hx
    rcases hx with rfl | rfl | rfl
    · exact det_seeks.h7
    · exact det_seeks.h17
    · exact det_seeks.h30
) det_seeks.o det_seeks.h (fun k _ => by unfold det_seeks.env; exact (envC_ok (fun ds K r h => by
    obtain ⟨x0, d0, rfl, h0⟩ := pop_some h
    obtain ⟨x1, d1, rfl, h1⟩ := pop_some h0
    obtain ⟨x2, d2, rfl, h2⟩ := pop_some h1
    obtain ⟨x3, d3, rfl, h3⟩ := pop_some h2
    obtain ⟨x4, d4, rfl, h4⟩ := pop_some h3
    obtain ⟨x5, d5, rfl, h5⟩ := pop_some h4
    obtain ⟨x6, d6, rfl, h6⟩ := pop_some h5
    obtain ⟨x7, d7, rfl, h7⟩ := pop_some h6
    obtain ⟨x8, d8, rfl, h8⟩ := pop_some h7
    obtain ⟨rfl, g⟩ := popN_some h8
    obtain ⟨r1, h1, h2⟩ := bind_some g
    exact ⟨_, h2, det_Differ_2.con k _ h1⟩) (envC_ok (fun ds K r h => by
    obtain ⟨x0, d0, rfl, h0⟩ := pop_some h
    obtain ⟨x1, d1, rfl, h1⟩ := pop_some h0
    obtain ⟨x2, d2, rfl, h2⟩ := pop_some h1
    obtain ⟨x3, d3, rfl, h3⟩ := pop_some h2
    obtain ⟨x4, d4, rfl, h4⟩ := pop_some h3
    obtain ⟨x5, d5, rfl, h5⟩ := pop_some h4
    obtain ⟨x6, d6, rfl, h6⟩ := pop_some h5
    obtain ⟨x7, d7, rfl, h7⟩ := pop_some h6
    obtain ⟨x8, d8, rfl, h8⟩ := pop_some h7
    obtain ⟨x9, d9, rfl, h9⟩ := pop_some h8
    obtain ⟨rfl, g⟩ := popN_some h9
    obtain ⟨r1, h1, h2⟩ := bind_some g
    exact ⟨_, h2, det_Differ_1.con k _ h1⟩) (envC_ok (fun ds K r h => by
    obtain ⟨x0, d0, rfl, h0⟩ := pop_some h
    obtain ⟨rfl, g⟩ := popN_some h0
    obtain ⟨r1, h1, h2⟩ := bind_some g
    exact ⟨_, h2, slices_Clone___int_int_.con k _ h1⟩) env0_ok))))
theorem det_seeks.con (k : Nat) {x0 : (Int × (Int × Unit))} {x1 : Int} {x2 : Int} {x3 : Int} {x4 : (List (List Int))} {x5 : (List Int)} {x6 : Int} {x7 : Int} {x8 : (List (List Int))} {x9 : (List Int)} (r : (List Int) × Bool × Int × Int × (List (List Int)) × (List Int) × Int × Int × (List (List Int)) × (List Int)) (h : det_seeks.f k x0 x1 x2 x3 x4 x5 x6 x7 x8 x9 = some r) : Con Try.prog 101 4 det_seeks.ti det_seeks.to [⟨(.pair (.int .i64) (.pair (.int .i64) .unit)), x0⟩, ⟨(.int .i64), x1⟩, ⟨(.int .i64), x2⟩, ⟨(.int .i64), x3⟩, ⟨(.slice (.slice (.int .i64))), x4⟩, ⟨(.slice (.int .i64)), x5⟩, ⟨(.int .i64), x6⟩, ⟨(.int .i64), x7⟩, ⟨(.slice (.slice (.int .i64))), x8⟩, ⟨(.slice (.int .i64)), x9⟩] (det_seeks.rs r) :=
  det_seeks.con' (k + 1) _ r (by show det_seeks.c k _ = some r; unfold det_seeks.c; simp only [pop_self, popN]; exact h)
def det_Differ.f (k : Nat) (a0 : (Int × (Int × (List (List (Int)) × (List (Int) × Unit))))) (b1 : (Int × (Int × (List (List (Int)) × (List (Int) × Unit))))) : Option (List Int × Bool × Int) :=
 (det_two.f k (a0.fst, a0.snd.fst, a0.snd.snd.fst, a0.snd.snd.snd.fst, ()) (b1.fst, b1.snd.fst, b1.snd.snd.fst, b1.snd.snd.snd.fst, ())).bind fun r1 =>
  if r1 = 0 then
   (det_seeks.f k (a0.snd.fst, b1.snd.fst, ()) a0.fst a0.fst a0.snd.fst a0.snd.snd.fst a0.snd.snd.snd.fst b1.fst b1.snd.fst b1.snd.snd.fst b1.snd.snd.snd.fst).bind fun r3 =>
    some (r3.fst, r3.snd.fst, 0)
  else
   some ([], false, r1)

noncomputable def det_Differ.body : Code := fnBody Try.f53
def det_Differ.ti : Tm := ⟨[(0, .p (.pair (.int .i64) (.pair (.int .i64) (.pair (.slice (.slice (.int .i64))) (.pair (.slice (.int .i64)) .unit))))), (1, .p (.pair (.int .i64) (.pair (.int .i64) (.pair (.slice (.slice (.int .i64))) (.pair (.slice (.int .i64)) .unit)))))], []⟩
def det_Differ.to : Tm := ⟨[(0, .p (.slice (.int .i64))), (1, .p .bool), (2, .p (.int .i64))], []⟩
def det_Differ.rs (r : (List Int) × Bool × Int) : List Dat := [⟨(.slice (.int .i64)), r.1⟩, ⟨.bool, r.2.1⟩, ⟨(.int .i64), r.2.2⟩]
def det_Differ.out (ds : List Dat) : Option ((List Int) × Bool × Int) := pop (.slice (.int .i64)) ds fun x0 ds => pop .bool ds fun x1 ds => pop (.int .i64) ds fun x2 ds => popN ds (some (x0, x1, x2))
def det_Differ.c (k : Nat) (ds : List Dat) : Option ((List Int) × Bool × Int) := pop (.pair (.int .i64) (.pair (.int .i64) (.pair (.slice (.slice (.int .i64))) (.pair (.slice (.int .i64)) .unit)))) ds fun x0 ds => pop (.pair (.int .i64) (.pair (.int .i64) (.pair (.slice (.slice (.int .i64))) (.pair (.slice (.int .i64)) .unit)))) ds fun x1 ds => popN ds (det_Differ.f k x0 x1)
def det_Differ.g : Nat → List Dat → Option ((List Int) × Bool × Int)
 | 0, _ => none
 | k + 1, ds => det_Differ.c k ds
def det_Differ.env (k : Nat) : Nat → List SV → List Chunk → KT ((List Int) × Bool × Int) → Option ((List Int) × Bool × Int) := (envC 117 2 det_two.ti det_two.to (fun ds K => pop (.pair (.int .i64) (.pair (.int .i64) (.pair (.slice (.slice (.int .i64))) (.pair (.slice (.int .i64)) .unit)))) ds fun x0 ds => pop (.pair (.int .i64) (.pair (.int .i64) (.pair (.slice (.slice (.int .i64))) (.pair (.slice (.int .i64)) .unit)))) ds fun x1 ds => popN ds ((det_two.f k x0 x1).bind fun r => K (det_two.rs r))) (envC 101 4 det_seeks.ti det_seeks.to (fun ds K => pop (.pair (.int .i64) (.pair (.int .i64) .unit)) ds fun x0 ds => pop (.int .i64) ds fun x1 ds => pop (.int .i64) ds fun x2 ds => pop (.int .i64) ds fun x3 ds => pop (.slice (.slice (.int .i64))) ds fun x4 ds => pop (.slice (.int .i64)) ds fun x5 ds => pop (.int .i64) ds fun x6 ds => pop (.int .i64) ds fun x7 ds => pop (.slice (.slice (.int .i64))) ds fun x8 ds => pop (.slice (.int .i64)) ds fun x9 ds => popN ds ((det_seeks.f k x0 x1 x2 x3 x4 x5 x6 x7 x8 x9).bind fun r => K (det_seeks.rs r))) env0))
def det_Differ.tbl : List (Nat × Tm × (Nat → List Dat → Option ((List Int) × Bool × Int))) := []
noncomputable abbrev det_Differ.R (k : Nat) := run T (det_Differ.env k) Try.f53.ntmps (cutE 0 det_Differ.tbl k) (finE 0 det_Differ.to det_Differ.out) (fnRes Try.f53) [] 100000 true
theorem det_Differ.e (k : Nat) (x0 : (Int × (Int × ((List (List Int)) × ((List Int) × Unit))))) (x1 : (Int × (Int × ((List (List Int)) × ((List Int) × Unit))))) : det_Differ.f k x0 x1 = det_Differ.R k ([.code det_Differ.body]) (det_Differ.ti.fill [⟨(.pair (.int .i64) (.pair (.int .i64) (.pair (.slice (.slice (.int .i64))) (.pair (.slice (.int .i64)) .unit)))), x0⟩, ⟨(.pair (.int .i64) (.pair (.int .i64) (.pair (.slice (.slice (.int .i64))) (.pair (.slice (.int .i64)) .unit)))), x1⟩]) := by kernel_rfl
theorem det_Differ.h (k : Nat) (ds : List Dat) (r : (List Int) × Bool × Int) (h : det_Differ.g k ds = some r) : ∃ k', k' < k ∧ det_Differ.R k' ([.code det_Differ.body]) (det_Differ.ti.fill ds) = some r := by
  cases k with
  | zero => cases (show none = some r from h)
  | succ k =>
  replace h : det_Differ.c k ds = some r := h
  unfold det_Differ.c at h
  obtain ⟨x0, d0, rfl, h0⟩ := pop_some h
  obtain ⟨x1, d1, rfl, h1⟩ := pop_some h0
  obtain ⟨rfl, g⟩ := popN_some h1
  exact ⟨k, Nat.lt_succ_self k, (det_Differ.e k x0 x1).symm.trans g⟩
theorem det_Differ.o (ds : List Dat) (r : (List Int) × Bool × Int) (h : det_Differ.out ds = some r) : ds = det_Differ.rs r := by
  unfold det_Differ.out at h
  obtain ⟨x0, d0, rfl, h0⟩ := pop_some h
  obtain ⟨x1, d1, rfl, h1⟩ := pop_some h0
  obtain ⟨x2, d2, rfl, h2⟩ := pop_some h1
  obtain ⟨rfl, g⟩ := popN_some h2
  cases g
  rfl
theorem det_Differ.fn : FnOk Try.prog 53 Try.f53 det_Differ.body Try.f53.ntmps 2 (fnRes Try.f53) :=
  fnOk_of (by kernel_rfl) (by kernel_rfl) (by kernel_rfl) (by kernel_rfl)
theorem det_Differ.con' : ∀ k ds r, det_Differ.g k ds = some r → Con Try.prog 53 2 det_Differ.ti det_Differ.to ds (det_Differ.rs r) :=
  fun_ok (T := T) T_ok mixed det_Differ.fn (env := det_Differ.env) (tbl := det_Differ.tbl) (gOut := det_Differ.out) (nin := 0) (cuts := []) (fuel := 100000) rfl (by kernel_rfl) (by kernel_rfl) (by kernel_rfl) (fun x hx => by simp [det_Differ.tbl] at hx) det_Differ.o det_Differ.h (fun k _ => by unfold det_Differ.env; exact (envC_ok (fun ds K r h => by
    obtain ⟨x0, d0, rfl, h0⟩ := pop_some h
    obtain ⟨x1, d1, rfl, h1⟩ := pop_some h0
    obtain ⟨rfl, g⟩ := popN_some h1
    obtain ⟨r1, h1, h2⟩ := bind_some g
    exact ⟨_, h2, det_two.con k _ h1⟩) (envC_ok (fun ds K r h => by
    obtain ⟨x0, d0, rfl, h0⟩ := pop_some h
    obtain ⟨x1, d1, rfl, h1⟩ := pop_some h0
    obtain ⟨x2, d2, rfl, h2⟩ := pop_some h1
    obtain ⟨x3, d3, rfl, h3⟩ := pop_some h2
    obtain ⟨x4, d4, rfl, h4⟩ := pop_some h3
    obtain ⟨x5, d5, rfl, h5⟩ := pop_some h4
    obtain ⟨x6, d6, rfl, h6⟩ := pop_some h5
    obtain ⟨x7, d7, rfl, h7⟩ := pop_some h6
    obtain ⟨x8, d8, rfl, h8⟩ := pop_some h7
    obtain ⟨x9, d9, rfl, h9⟩ := pop_some h8
    obtain ⟨rfl, g⟩ := popN_some h9
    obtain ⟨r1, h1, h2⟩ := bind_some g
    exact ⟨_, h2, det_seeks.con k _ h1⟩) env0_ok)))
theorem det_Differ.con (k : Nat) {x0 : (Int × (Int × ((List (List Int)) × ((List Int) × Unit))))} {x1 : (Int × (Int × ((List (List Int)) × ((List Int) × Unit))))} (r : (List Int) × Bool × Int) (h : det_Differ.f k x0 x1 = some r) : Con Try.prog 53 2 det_Differ.ti det_Differ.to [⟨(.pair (.int .i64) (.pair (.int .i64) (.pair (.slice (.slice (.int .i64))) (.pair (.slice (.int .i64)) .unit)))), x0⟩, ⟨(.pair (.int .i64) (.pair (.int .i64) (.pair (.slice (.slice (.int .i64))) (.pair (.slice (.int .i64)) .unit)))), x1⟩] (det_Differ.rs r) :=
  det_Differ.con' (k + 1) _ r (by show det_Differ.c k _ = some r; unfold det_Differ.c; simp only [pop_self, popN]; exact h)
mutual
def evermoreref3_Check.l9 : Nat → Int → Int → Int → Int → List (List (Int)) → List (Int) → Option (Int)
 | 0, _, _, _, _, _, _ => none
 | k + 1, n3, i4, d1_0, d1_1, d1_2, d1_3 =>
  if i4 < n3 then
   if 0 ≤ i4 then
   if i4 < (↑d1_2.length : Int) then
    if (↑(Go.Proofs.YtiiioobebeaafaaSx.rd [] d1_2 i4).length : Int) = d1_0 then
      evermoreref3_Check.l9 k n3 (Go.IntKind.i64.wrap (i4 + 1)) d1_0 d1_1 d1_2 d1_3
     else
      some (3)
    else none
   else none
  else
   if d1_1 < 0 then
    some (2)
   else
    if n3 ≤ d1_1 then
     some (2)
    else
     evermoreref3_Check.l16 k n3 0 d1_0 d1_1 d1_2 d1_3
def evermoreref3_Check.l16 : Nat → Int → Int → Int → Int → List (List (Int)) → List (Int) → Option (Int)
 | 0, _, _, _, _, _, _ => none
 | k + 1, n3, i5, d1_0, d1_1, d1_2, d1_3 =>
  if i5 < n3 then
   evermoreref3_Check.l19 k n3 i5 0 d1_0 d1_1 d1_2 d1_3
  else
   evermoreref3_Check.l24 k n3 0 d1_0 d1_1 d1_2 d1_3
def evermoreref3_Check.l19 : Nat → Int → Int → Int → Int → Int → List (List (Int)) → List (Int) → Option (Int)
 | 0, _, _, _, _, _, _, _ => none
 | k + 1, n3, i5, k6, d1_0, d1_1, d1_2, d1_3 =>
  if k6 < d1_0 then
   if 0 ≤ i5 then
   if i5 < (↑d1_2.length : Int) then
    if 0 ≤ k6 then
     if k6 < (↑(Go.Proofs.YtiiioobebeaafaaSx.rd [] d1_2 i5).length : Int) then
      if Go.Proofs.YtiiioobebeaafaaSx.rd (Int.ofNat 0) (Go.Proofs.YtiiioobebeaafaaSx.rd [] d1_2 i5) k6 < 0 then
        some (2)
       else
        if 0 ≤ i5 then
        if i5 < (↑d1_2.length : Int) then
         if 0 ≤ k6 then
          if k6 < (↑(Go.Proofs.YtiiioobebeaafaaSx.rd [] d1_2 i5).length : Int) then
           if n3 ≤ Go.Proofs.YtiiioobebeaafaaSx.rd (Int.ofNat 0) (Go.Proofs.YtiiioobebeaafaaSx.rd [] d1_2 i5) k6 then
             some (2)
            else
             evermoreref3_Check.l19 k n3 i5 (Go.IntKind.i64.wrap (k6 + 1)) d1_0 d1_1 d1_2 d1_3
           else none
          else none
         else none
        else none
      else none
     else none
    else none
   else none
  else
   evermoreref3_Check.l16 k n3 (Go.IntKind.i64.wrap (i5 + 1)) d1_0 d1_1 d1_2 d1_3
def evermoreref3_Check.l24 : Nat → Int → Int → Int → Int → List (List (Int)) → List (Int) → Option (Int)
 | 0, _, _, _, _, _, _ => none
 | k + 1, n3, i7, d1_0, d1_1, d1_2, d1_3 =>
  if i7 < n3 then
   if 0 ≤ i7 then
   if i7 < (↑d1_3.length : Int) then
    if Go.Proofs.YtiiioobebeaafaaSx.rd (Int.ofNat 0) d1_3 i7 = 0 then
      evermoreref3_Check.l24 k n3 (Go.IntKind.i64.wrap (i7 + 1)) d1_0 d1_1 d1_2 d1_3
     else
      if 0 ≤ i7 then
      if i7 < (↑d1_3.length : Int) then
       if Go.Proofs.YtiiioobebeaafaaSx.rd (Int.ofNat 0) d1_3 i7 = 1 then
         evermoreref3_Check.l24 k n3 (Go.IntKind.i64.wrap (i7 + 1)) d1_0 d1_1 d1_2 d1_3
        else
         some (2)
       else none
      else none
    else none
   else none
  else
   some (0)
end
def evermoreref3_Check.f (k : Nat) (d0 : (Int × (Int × (List (List (Int)) × (List (Int) × Unit))))) : Option (Int) :=
 if d0.fst < 1 then
  some (2)
 else
  if 4 < d0.fst then
   some (2)
  else
   if (↑d0.snd.snd.fst.length : Int) < 1 then
    some (1)
   else
    if 3000 < (↑d0.snd.snd.fst.length : Int) then
     some (1)
    else
     if (↑d0.snd.snd.snd.fst.length : Int) = (↑d0.snd.snd.fst.length : Int) then
      evermoreref3_Check.l9 k ((↑d0.snd.snd.fst.length : Int)) 0 d0.fst d0.snd.fst d0.snd.snd.fst d0.snd.snd.snd.fst
     else
      some (3)

noncomputable def evermoreref3_Check.body : Code := fnBody Try.f45
def evermoreref3_Check.ti : Tm := ⟨[(0, .p (.pair (.int .i64) (.pair (.int .i64) (.pair (.slice (.slice (.int .i64))) (.pair (.slice (.int .i64)) .unit)))))], []⟩
def evermoreref3_Check.to : Tm := ⟨[(0, .p (.int .i64))], []⟩
def evermoreref3_Check.rs (r : Int) : List Dat := [⟨(.int .i64), r⟩]
def evermoreref3_Check.out (ds : List Dat) : Option (Int) := pop (.int .i64) ds fun x0 ds => popN ds (some (x0))
def evermoreref3_Check.c (k : Nat) (ds : List Dat) : Option (Int) := pop (.pair (.int .i64) (.pair (.int .i64) (.pair (.slice (.slice (.int .i64))) (.pair (.slice (.int .i64)) .unit)))) ds fun x0 ds => popN ds (evermoreref3_Check.f k x0)
def evermoreref3_Check.g : Nat → List Dat → Option (Int)
 | 0, _ => none
 | k + 1, ds => evermoreref3_Check.c k ds
def evermoreref3_Check.env (k : Nat) : Nat → List SV → List Chunk → KT (Int) → Option (Int) := env0
def evermoreref3_Check.t19 : Tm := ⟨[(1, .ptr 0 0), (3, .p (.int .i64)), (4, .p (.int .i64))], [.box [.p (.int .i64), .p (.int .i64), .p (.slice (.slice (.int .i64))), .p (.slice (.int .i64))] 58]⟩
def evermoreref3_Check.c19 (k : Nat) (ds : List Dat) : Option (Int) := pop (.int .i64) ds fun x0 ds => pop (.int .i64) ds fun x1 ds => pop (.int .i64) ds fun x2 ds => pop (.int .i64) ds fun x3 ds => pop (.slice (.slice (.int .i64))) ds fun x4 ds => pop (.slice (.int .i64)) ds fun x5 ds => popN ds (evermoreref3_Check.l9 k x0 x1 x2 x3 x4 x5)
def evermoreref3_Check.t33 : Tm := ⟨[(1, .ptr 0 0), (3, .p (.int .i64)), (5, .p (.int .i64))], [.box [.p (.int .i64), .p (.int .i64), .p (.slice (.slice (.int .i64))), .p (.slice (.int .i64))] 58]⟩
def evermoreref3_Check.c33 (k : Nat) (ds : List Dat) : Option (Int) := pop (.int .i64) ds fun x0 ds => pop (.int .i64) ds fun x1 ds => pop (.int .i64) ds fun x2 ds => pop (.int .i64) ds fun x3 ds => pop (.slice (.slice (.int .i64))) ds fun x4 ds => pop (.slice (.int .i64)) ds fun x5 ds => popN ds (evermoreref3_Check.l16 k x0 x1 x2 x3 x4 x5)
def evermoreref3_Check.t39 : Tm := ⟨[(1, .ptr 0 0), (3, .p (.int .i64)), (5, .p (.int .i64)), (6, .p (.int .i64))], [.box [.p (.int .i64), .p (.int .i64), .p (.slice (.slice (.int .i64))), .p (.slice (.int .i64))] 58]⟩
def evermoreref3_Check.c39 (k : Nat) (ds : List Dat) : Option (Int) := pop (.int .i64) ds fun x0 ds => pop (.int .i64) ds fun x1 ds => pop (.int .i64) ds fun x2 ds => pop (.int .i64) ds fun x3 ds => pop (.int .i64) ds fun x4 ds => pop (.slice (.slice (.int .i64))) ds fun x5 ds => pop (.slice (.int .i64)) ds fun x6 ds => popN ds (evermoreref3_Check.l19 k x0 x1 x2 x3 x4 x5 x6)
def evermoreref3_Check.t49 : Tm := ⟨[(1, .ptr 0 0), (3, .p (.int .i64)), (7, .p (.int .i64))], [.box [.p (.int .i64), .p (.int .i64), .p (.slice (.slice (.int .i64))), .p (.slice (.int .i64))] 58]⟩
def evermoreref3_Check.c49 (k : Nat) (ds : List Dat) : Option (Int) := pop (.int .i64) ds fun x0 ds => pop (.int .i64) ds fun x1 ds => pop (.int .i64) ds fun x2 ds => pop (.int .i64) ds fun x3 ds => pop (.slice (.slice (.int .i64))) ds fun x4 ds => pop (.slice (.int .i64)) ds fun x5 ds => popN ds (evermoreref3_Check.l24 k x0 x1 x2 x3 x4 x5)
def evermoreref3_Check.tbl : List (Nat × Tm × (Nat → List Dat → Option (Int))) := [(19, evermoreref3_Check.t19, evermoreref3_Check.c19), (33, evermoreref3_Check.t33, evermoreref3_Check.c33), (39, evermoreref3_Check.t39, evermoreref3_Check.c39), (49, evermoreref3_Check.t49, evermoreref3_Check.c49)]
noncomputable abbrev evermoreref3_Check.R (k : Nat) := run T (evermoreref3_Check.env k) Try.f45.ntmps (cutE 0 evermoreref3_Check.tbl k) (finE 0 evermoreref3_Check.to evermoreref3_Check.out) (fnRes Try.f45) [] 100000 true
theorem evermoreref3_Check.e19 (k : Nat) (x0 : Int) (x1 : Int) (x2 : Int) (x3 : Int) (x4 : (List (List Int))) (x5 : (List Int)) : evermoreref3_Check.l9 (k + 1) x0 x1 x2 x3 x4 x5 = evermoreref3_Check.R k (start (stackOf 19 evermoreref3_Check.body)) (evermoreref3_Check.t19.fill [⟨(.int .i64), x0⟩, ⟨(.int .i64), x1⟩, ⟨(.int .i64), x2⟩, ⟨(.int .i64), x3⟩, ⟨(.slice (.slice (.int .i64))), x4⟩, ⟨(.slice (.int .i64)), x5⟩]) := by kernel_rfl
theorem evermoreref3_Check.s19 : stackAt 19 evermoreref3_Check.body [] = some (stackOf 19 evermoreref3_Check.body) := by kernel_rfl
theorem evermoreref3_Check.h19 (k : Nat) (ds : List Dat) (r : Int) (h : evermoreref3_Check.c19 k ds = some r) : ∃ k', k' < k ∧ ∃ s, stackAt 19 evermoreref3_Check.body [] = some s ∧ evermoreref3_Check.R k' (start s) (evermoreref3_Check.t19.fill ds) = some r := by
  unfold evermoreref3_Check.c19 at h
  obtain ⟨x0, d0, rfl, h0⟩ := pop_some h
  obtain ⟨x1, d1, rfl, h1⟩ := pop_some h0
  obtain ⟨x2, d2, rfl, h2⟩ := pop_some h1
  obtain ⟨x3, d3, rfl, h3⟩ := pop_some h2
  obtain ⟨x4, d4, rfl, h4⟩ := pop_some h3
  obtain ⟨x5, d5, rfl, h5⟩ := pop_some h4
  obtain ⟨rfl, g⟩ := popN_some h5
  cases k with
  | zero => cases (show none = some r from g)
  | succ k => exact ⟨k, Nat.lt_succ_self k, _, evermoreref3_Check.s19, (evermoreref3_Check.e19 k x0 x1 x2 x3 x4 x5).symm.trans g⟩
theorem evermoreref3_Check.e33 (k : Nat) (x0 : Int) (x1 : Int) (x2 : Int) (x3 : Int) (x4 : (List (List Int))) (x5 : (List Int)) : evermoreref3_Check.l16 (k + 1) x0 x1 x2 x3 x4 x5 = evermoreref3_Check.R k (start (stackOf 33 evermoreref3_Check.body)) (evermoreref3_Check.t33.fill [⟨(.int .i64), x0⟩, ⟨(.int .i64), x1⟩, ⟨(.int .i64), x2⟩, ⟨(.int .i64), x3⟩, ⟨(.slice (.slice (.int .i64))), x4⟩, ⟨(.slice (.int .i64)), x5⟩]) := by kernel_rfl
theorem evermoreref3_Check.s33 : stackAt 33 evermoreref3_Check.body [] = some (stackOf 33 evermoreref3_Check.body) := by kernel_rfl
theorem evermoreref3_Check.h33 (k : Nat) (ds : List Dat) (r : Int) (h : evermoreref3_Check.c33 k ds = some r) : ∃ k', k' < k ∧ ∃ s, stackAt 33 evermoreref3_Check.body [] = some s ∧ evermoreref3_Check.R k' (start s) (evermoreref3_Check.t33.fill ds) = some r := by
  unfold evermoreref3_Check.c33 at h
  obtain ⟨x0, d0, rfl, h0⟩ := pop_some h
  obtain ⟨x1, d1, rfl, h1⟩ := pop_some h0
  obtain ⟨x2, d2, rfl, h2⟩ := pop_some h1
  obtain ⟨x3, d3, rfl, h3⟩ := pop_some h2
  obtain ⟨x4, d4, rfl, h4⟩ := pop_some h3
  obtain ⟨x5, d5, rfl, h5⟩ := pop_some h4
  obtain ⟨rfl, g⟩ := popN_some h5
  cases k with
  | zero => cases (show none = some r from g)
  | succ k => exact ⟨k, Nat.lt_succ_self k, _, evermoreref3_Check.s33, (evermoreref3_Check.e33 k x0 x1 x2 x3 x4 x5).symm.trans g⟩
theorem evermoreref3_Check.e39 (k : Nat) (x0 : Int) (x1 : Int) (x2 : Int) (x3 : Int) (x4 : Int) (x5 : (List (List Int))) (x6 : (List Int)) : evermoreref3_Check.l19 (k + 1) x0 x1 x2 x3 x4 x5 x6 = evermoreref3_Check.R k (start (stackOf 39 evermoreref3_Check.body)) (evermoreref3_Check.t39.fill [⟨(.int .i64), x0⟩, ⟨(.int .i64), x1⟩, ⟨(.int .i64), x2⟩, ⟨(.int .i64), x3⟩, ⟨(.int .i64), x4⟩, ⟨(.slice (.slice (.int .i64))), x5⟩, ⟨(.slice (.int .i64)), x6⟩]) := by kernel_rfl
theorem evermoreref3_Check.s39 : stackAt 39 evermoreref3_Check.body [] = some (stackOf 39 evermoreref3_Check.body) := by kernel_rfl
theorem evermoreref3_Check.h39 (k : Nat) (ds : List Dat) (r : Int) (h : evermoreref3_Check.c39 k ds = some r) : ∃ k', k' < k ∧ ∃ s, stackAt 39 evermoreref3_Check.body [] = some s ∧ evermoreref3_Check.R k' (start s) (evermoreref3_Check.t39.fill ds) = some r := by
  unfold evermoreref3_Check.c39 at h
  obtain ⟨x0, d0, rfl, h0⟩ := pop_some h
  obtain ⟨x1, d1, rfl, h1⟩ := pop_some h0
  obtain ⟨x2, d2, rfl, h2⟩ := pop_some h1
  obtain ⟨x3, d3, rfl, h3⟩ := pop_some h2
  obtain ⟨x4, d4, rfl, h4⟩ := pop_some h3
  obtain ⟨x5, d5, rfl, h5⟩ := pop_some h4
  obtain ⟨x6, d6, rfl, h6⟩ := pop_some h5
  obtain ⟨rfl, g⟩ := popN_some h6
  cases k with
  | zero => cases (show none = some r from g)
  | succ k => exact ⟨k, Nat.lt_succ_self k, _, evermoreref3_Check.s39, (evermoreref3_Check.e39 k x0 x1 x2 x3 x4 x5 x6).symm.trans g⟩
theorem evermoreref3_Check.e49 (k : Nat) (x0 : Int) (x1 : Int) (x2 : Int) (x3 : Int) (x4 : (List (List Int))) (x5 : (List Int)) : evermoreref3_Check.l24 (k + 1) x0 x1 x2 x3 x4 x5 = evermoreref3_Check.R k (start (stackOf 49 evermoreref3_Check.body)) (evermoreref3_Check.t49.fill [⟨(.int .i64), x0⟩, ⟨(.int .i64), x1⟩, ⟨(.int .i64), x2⟩, ⟨(.int .i64), x3⟩, ⟨(.slice (.slice (.int .i64))), x4⟩, ⟨(.slice (.int .i64)), x5⟩]) := by kernel_rfl
theorem evermoreref3_Check.s49 : stackAt 49 evermoreref3_Check.body [] = some (stackOf 49 evermoreref3_Check.body) := by kernel_rfl
theorem evermoreref3_Check.h49 (k : Nat) (ds : List Dat) (r : Int) (h : evermoreref3_Check.c49 k ds = some r) : ∃ k', k' < k ∧ ∃ s, stackAt 49 evermoreref3_Check.body [] = some s ∧ evermoreref3_Check.R k' (start s) (evermoreref3_Check.t49.fill ds) = some r := by
  unfold evermoreref3_Check.c49 at h
  obtain ⟨x0, d0, rfl, h0⟩ := pop_some h
  obtain ⟨x1, d1, rfl, h1⟩ := pop_some h0
  obtain ⟨x2, d2, rfl, h2⟩ := pop_some h1
  obtain ⟨x3, d3, rfl, h3⟩ := pop_some h2
  obtain ⟨x4, d4, rfl, h4⟩ := pop_some h3
  obtain ⟨x5, d5, rfl, h5⟩ := pop_some h4
  obtain ⟨rfl, g⟩ := popN_some h5
  cases k with
  | zero => cases (show none = some r from g)
  | succ k => exact ⟨k, Nat.lt_succ_self k, _, evermoreref3_Check.s49, (evermoreref3_Check.e49 k x0 x1 x2 x3 x4 x5).symm.trans g⟩
theorem evermoreref3_Check.e (k : Nat) (x0 : (Int × (Int × ((List (List Int)) × ((List Int) × Unit))))) : evermoreref3_Check.f k x0 = evermoreref3_Check.R k ([.code evermoreref3_Check.body]) (evermoreref3_Check.ti.fill [⟨(.pair (.int .i64) (.pair (.int .i64) (.pair (.slice (.slice (.int .i64))) (.pair (.slice (.int .i64)) .unit)))), x0⟩]) := by kernel_rfl
theorem evermoreref3_Check.h (k : Nat) (ds : List Dat) (r : Int) (h : evermoreref3_Check.g k ds = some r) : ∃ k', k' < k ∧ evermoreref3_Check.R k' ([.code evermoreref3_Check.body]) (evermoreref3_Check.ti.fill ds) = some r := by
  cases k with
  | zero => cases (show none = some r from h)
  | succ k =>
  replace h : evermoreref3_Check.c k ds = some r := h
  unfold evermoreref3_Check.c at h
  obtain ⟨x0, d0, rfl, h0⟩ := pop_some h
  obtain ⟨rfl, g⟩ := popN_some h0
  exact ⟨k, Nat.lt_succ_self k, (evermoreref3_Check.e k x0).symm.trans g⟩
theorem evermoreref3_Check.o (ds : List Dat) (r : Int) (h : evermoreref3_Check.out ds = some r) : ds = evermoreref3_Check.rs r := by
  unfold evermoreref3_Check.out at h
  obtain ⟨x0, d0, rfl, h0⟩ := pop_some h
  obtain ⟨rfl, g⟩ := popN_some h0
  cases g
  rfl
theorem evermoreref3_Check.fn : FnOk Try.prog 45 Try.f45 evermoreref3_Check.body Try.f45.ntmps 1 (fnRes Try.f45) :=
  fnOk_of (by kernel_rfl) (by kernel_rfl) (by kernel_rfl) (by kernel_rfl)
theorem evermoreref3_Check.con' : ∀ k ds r, evermoreref3_Check.g k ds = some r → Con Try.prog 45 1 evermoreref3_Check.ti evermoreref3_Check.to ds (evermoreref3_Check.rs r) :=
  fun_ok (T := T) T_ok mixed evermoreref3_Check.fn (env := evermoreref3_Check.env) (tbl := evermoreref3_Check.tbl) (gOut := evermoreref3_Check.out) (nin := 0) (cuts := []) (fuel := 100000) rfl (by kernel_rfl) (by kernel_rfl) (by kernel_rfl) (fun x hx => by
    simp only [evermoreref3_Check.tbl, List.mem_cons, List.not_mem_nil, or_false] at hx
    rcases hx with rfl | rfl | rfl | rfl
    · exact evermoreref3_Check.h19
    · exact evermoreref3_Check.h33
    · exact evermoreref3_Check.h39
    · exact evermoreref3_Check.h49
) evermoreref3_Check.o evermoreref3_Check.h (fun k _ => by unfold evermoreref3_Check.env; exact env0_ok)
theorem evermoreref3_Check.con (k : Nat) {x0 : (Int × (Int × ((List (List Int)) × ((List Int) × Unit))))} (r : Int) (h : evermoreref3_Check.f k x0 = some r) : Con Try.prog 45 1 evermoreref3_Check.ti evermoreref3_Check.to [⟨(.pair (.int .i64) (.pair (.int .i64) (.pair (.slice (.slice (.int .i64))) (.pair (.slice (.int .i64)) .unit)))), x0⟩] (evermoreref3_Check.rs r) :=
  evermoreref3_Check.con' (k + 1) _ r (by show evermoreref3_Check.c k _ = some r; unfold evermoreref3_Check.c; simp only [pop_self, popN]; exact h)
def evermorelaw_noDet.f (k : Nat) (d0 : (Int × (Int × (List (List (Int)) × (List (Int) × Unit))))) : Option (Bool) :=
 if d0.fst = 0 then
  if d0.snd.fst = 0 then
   some (decide (Go.IntKind.i64.wrap ((↑d0.snd.snd.fst.length : Int) + (↑d0.snd.snd.snd.fst.length : Int)) = 0))
  else
   some (false)
 else
  some (false)

noncomputable def evermorelaw_noDet.body : Code := fnBody Try.f37
def evermorelaw_noDet.ti : Tm := ⟨[(0, .p (.pair (.int .i64) (.pair (.int .i64) (.pair (.slice (.slice (.int .i64))) (.pair (.slice (.int .i64)) .unit)))))], []⟩
def evermorelaw_noDet.to : Tm := ⟨[(0, .p .bool)], []⟩
def evermorelaw_noDet.rs (r : Bool) : List Dat := [⟨.bool, r⟩]
def evermorelaw_noDet.out (ds : List Dat) : Option (Bool) := pop .bool ds fun x0 ds => popN ds (some (x0))
def evermorelaw_noDet.c (k : Nat) (ds : List Dat) : Option (Bool) := pop (.pair (.int .i64) (.pair (.int .i64) (.pair (.slice (.slice (.int .i64))) (.pair (.slice (.int .i64)) .unit)))) ds fun x0 ds => popN ds (evermorelaw_noDet.f k x0)
def evermorelaw_noDet.g : Nat → List Dat → Option (Bool)
 | 0, _ => none
 | k + 1, ds => evermorelaw_noDet.c k ds
def evermorelaw_noDet.env (k : Nat) : Nat → List SV → List Chunk → KT (Bool) → Option (Bool) := env0
def evermorelaw_noDet.tbl : List (Nat × Tm × (Nat → List Dat → Option (Bool))) := []
noncomputable abbrev evermorelaw_noDet.R (k : Nat) := run T (evermorelaw_noDet.env k) Try.f37.ntmps (cutE 0 evermorelaw_noDet.tbl k) (finE 0 evermorelaw_noDet.to evermorelaw_noDet.out) (fnRes Try.f37) [] 100000 true
theorem evermorelaw_noDet.e (k : Nat) (x0 : (Int × (Int × ((List (List Int)) × ((List Int) × Unit))))) : evermorelaw_noDet.f k x0 = evermorelaw_noDet.R k ([.code evermorelaw_noDet.body]) (evermorelaw_noDet.ti.fill [⟨(.pair (.int .i64) (.pair (.int .i64) (.pair (.slice (.slice (.int .i64))) (.pair (.slice (.int .i64)) .unit)))), x0⟩]) := by kernel_rfl
theorem evermorelaw_noDet.h (k : Nat) (ds : List Dat) (r : Bool) (h : evermorelaw_noDet.g k ds = some r) : ∃ k', k' < k ∧ evermorelaw_noDet.R k' ([.code evermorelaw_noDet.body]) (evermorelaw_noDet.ti.fill ds) = some r := by
  cases k with
  | zero => cases (show none = some r from h)
  | succ k =>
  replace h : evermorelaw_noDet.c k ds = some r := h
  unfold evermorelaw_noDet.c at h
  obtain ⟨x0, d0, rfl, h0⟩ := pop_some h
  obtain ⟨rfl, g⟩ := popN_some h0
  exact ⟨k, Nat.lt_succ_self k, (evermorelaw_noDet.e k x0).symm.trans g⟩
theorem evermorelaw_noDet.o (ds : List Dat) (r : Bool) (h : evermorelaw_noDet.out ds = some r) : ds = evermorelaw_noDet.rs r := by
  unfold evermorelaw_noDet.out at h
  obtain ⟨x0, d0, rfl, h0⟩ := pop_some h
  obtain ⟨rfl, g⟩ := popN_some h0
  cases g
  rfl
theorem evermorelaw_noDet.fn : FnOk Try.prog 37 Try.f37 evermorelaw_noDet.body Try.f37.ntmps 1 (fnRes Try.f37) :=
  fnOk_of (by kernel_rfl) (by kernel_rfl) (by kernel_rfl) (by kernel_rfl)
theorem evermorelaw_noDet.con' : ∀ k ds r, evermorelaw_noDet.g k ds = some r → Con Try.prog 37 1 evermorelaw_noDet.ti evermorelaw_noDet.to ds (evermorelaw_noDet.rs r) :=
  fun_ok (T := T) T_ok mixed evermorelaw_noDet.fn (env := evermorelaw_noDet.env) (tbl := evermorelaw_noDet.tbl) (gOut := evermorelaw_noDet.out) (nin := 0) (cuts := []) (fuel := 100000) rfl (by kernel_rfl) (by kernel_rfl) (by kernel_rfl) (fun x hx => by simp [evermorelaw_noDet.tbl] at hx) evermorelaw_noDet.o evermorelaw_noDet.h (fun k _ => by unfold evermorelaw_noDet.env; exact env0_ok)
theorem evermorelaw_noDet.con (k : Nat) {x0 : (Int × (Int × ((List (List Int)) × ((List Int) × Unit))))} (r : Bool) (h : evermorelaw_noDet.f k x0 = some r) : Con Try.prog 37 1 evermorelaw_noDet.ti evermorelaw_noDet.to [⟨(.pair (.int .i64) (.pair (.int .i64) (.pair (.slice (.slice (.int .i64))) (.pair (.slice (.int .i64)) .unit)))), x0⟩] (evermorelaw_noDet.rs r) :=
  evermorelaw_noDet.con' (k + 1) _ r (by show evermorelaw_noDet.c k _ = some r; unfold evermorelaw_noDet.c; simp only [pop_self, popN]; exact h)
mutual
def evermoreref3_Walked.l5 : Nat → Int → Int → Int → List (List (Int)) → List (Int) → Int → Int → List (List (Int)) → List (Int) → List (Bool) → List (Int) → List (Int) → List (List (Int)) → List (Int) → List (Int) → List (List (Int)) → Option (List Int × List Int × List (List Int))
 | 0, _, _, _, _, _, _, _, _, _, _, _, _, _, _, _, _ => none
 | k + 1, i11, a4_0, a4_1, a4_2, a4_3, b5_0, b5_1, b5_2, b5_3, seen9, c5, c6, c7, c8, c9, c10 =>
  if i11 < (↑c8.length : Int) then
   evermoreref3_Walked.l8 k i11 0 a4_0 a4_1 a4_2 a4_3 b5_0 b5_1 b5_2 b5_3 seen9 c5 c6 c7 c8 c9 c10
  else
   some (c8, c9, c10)
def evermoreref3_Walked.l8 : Nat → Int → Int → Int → Int → List (List (Int)) → List (Int) → Int → Int → List (List (Int)) → List (Int) → List (Bool) → List (Int) → List (Int) → List (List (Int)) → List (Int) → List (Int) → List (List (Int)) → Option (List Int × List Int × List (List Int))
 | 0, _, _, _, _, _, _, _, _, _, _, _, _, _, _, _, _, _ => none
 | k + 1, i11, k12, a4_0, a4_1, a4_2, a4_3, b5_0, b5_1, b5_2, b5_3, seen9, c5, c6, c7, c8, c9, c10 =>
  if k12 < a4_0 then
   if 0 ≤ i11 then
   if i11 < (↑c8.length : Int) then
    if 0 ≤ c8.getD i11.toNat (Int.ofNat 0) then
     if c8.getD i11.toNat (Int.ofNat 0) < (↑a4_2.length : Int) then
      if 0 ≤ k12 then
       if k12 < (↑(Go.Proofs.YtiiioobebeaafaaSx.rd [] a4_2 (c8.getD i11.toNat (Int.ofNat 0))).length : Int) then
        if 0 ≤ i11 then
         if i11 < (↑c9.length : Int) then
          if 0 ≤ c9.getD i11.toNat (Int.ofNat 0) then
           if c9.getD i11.toNat (Int.ofNat 0) < (↑b5_2.length : Int) then
            if 0 ≤ k12 then
             if k12 < (↑(Go.Proofs.YtiiioobebeaafaaSx.rd [] b5_2 (c9.getD i11.toNat (Int.ofNat 0))).length : Int) then
              if 0 ≤ Go.IntKind.i64.wrap (Go.IntKind.i64.wrap (Go.Proofs.YtiiioobebeaafaaSx.rd (Int.ofNat 0) (Go.Proofs.YtiiioobebeaafaaSx.rd [] a4_2 (c8.getD i11.toNat (Int.ofNat 0))) k12 * (↑b5_2.length : Int)) + Go.Proofs.YtiiioobebeaafaaSx.rd (Int.ofNat 0) (Go.Proofs.YtiiioobebeaafaaSx.rd [] b5_2 (c9.getD i11.toNat (Int.ofNat 0))) k12) then
               if Go.IntKind.i64.wrap (Go.IntKind.i64.wrap (Go.Proofs.YtiiioobebeaafaaSx.rd (Int.ofNat 0) (Go.Proofs.YtiiioobebeaafaaSx.rd [] a4_2 (c8.getD i11.toNat (Int.ofNat 0))) k12 * (↑b5_2.length : Int)) + Go.Proofs.YtiiioobebeaafaaSx.rd (Int.ofNat 0) (Go.Proofs.YtiiioobebeaafaaSx.rd [] b5_2 (c9.getD i11.toNat (Int.ofNat 0))) k12) < (↑seen9.length : Int) then
                if seen9.getD (Go.IntKind.i64.wrap (Go.IntKind.i64.wrap (Go.Proofs.YtiiioobebeaafaaSx.rd (Int.ofNat 0) (Go.Proofs.YtiiioobebeaafaaSx.rd [] a4_2 (c8.getD i11.toNat (Int.ofNat 0))) k12 * (↑b5_2.length : Int)) + Go.Proofs.YtiiioobebeaafaaSx.rd (Int.ofNat 0) (Go.Proofs.YtiiioobebeaafaaSx.rd [] b5_2 (c9.getD i11.toNat (Int.ofNat 0))) k12)).toNat false = true then
                  evermoreref3_Walked.l8 k i11 (Go.IntKind.i64.wrap (k12 + 1)) a4_0 a4_1 a4_2 a4_3 b5_0 b5_1 b5_2 b5_3 seen9 c5 c6 c7 c8 c9 c10
                 else
                  if 0 ≤ Go.IntKind.i64.wrap (Go.IntKind.i64.wrap (Go.Proofs.YtiiioobebeaafaaSx.rd (Int.ofNat 0) (Go.Proofs.YtiiioobebeaafaaSx.rd [] a4_2 (c8.getD i11.toNat (Int.ofNat 0))) k12 * (↑b5_2.length : Int)) + Go.Proofs.YtiiioobebeaafaaSx.rd (Int.ofNat 0) (Go.Proofs.YtiiioobebeaafaaSx.rd [] b5_2 (c9.getD i11.toNat (Int.ofNat 0))) k12) then
                  if Go.IntKind.i64.wrap (Go.IntKind.i64.wrap (Go.Proofs.YtiiioobebeaafaaSx.rd (Int.ofNat 0) (Go.Proofs.YtiiioobebeaafaaSx.rd [] a4_2 (c8.getD i11.toNat (Int.ofNat 0))) k12 * (↑b5_2.length : Int)) + Go.Proofs.YtiiioobebeaafaaSx.rd (Int.ofNat 0) (Go.Proofs.YtiiioobebeaafaaSx.rd [] b5_2 (c9.getD i11.toNat (Int.ofNat 0))) k12) < (↑seen9.length : Int) then
                   if 0 ≤ i11 then
                    if i11 < (↑c10.length : Int) then
                     if ([] ++ c10.getD i11.toNat []).length.blt 1000000000 = true then
                      if ([] ++ c10.getD i11.toNat [] ++ [k12]).length.blt 1000000000 = true then
                       if (c8 ++ [Go.Proofs.YtiiioobebeaafaaSx.rd (Int.ofNat 0) (Go.Proofs.YtiiioobebeaafaaSx.rd [] a4_2 (c8.getD i11.toNat (Int.ofNat 0))) k12]).length.blt 1000000000 = true then
                        if (c9 ++ [Go.Proofs.YtiiioobebeaafaaSx.rd (Int.ofNat 0) (Go.Proofs.YtiiioobebeaafaaSx.rd [] b5_2 (c9.getD i11.toNat (Int.ofNat 0))) k12]).length.blt 1000000000 = true then
                         if (c10 ++ [[] ++ c10.getD i11.toNat [] ++ [k12]]).length.blt 1000000000 = true then
                          evermoreref3_Walked.l8 k i11 (Go.IntKind.i64.wrap (k12 + 1)) a4_0 a4_1 a4_2 a4_3 b5_0 b5_1 b5_2 b5_3 (seen9.set (Go.IntKind.i64.wrap (Go.IntKind.i64.wrap (Go.Proofs.YtiiioobebeaafaaSx.rd (Int.ofNat 0) (Go.Proofs.YtiiioobebeaafaaSx.rd [] a4_2 (c8.getD i11.toNat (Int.ofNat 0))) k12 * (↑b5_2.length : Int)) + Go.Proofs.YtiiioobebeaafaaSx.rd (Int.ofNat 0) (Go.Proofs.YtiiioobebeaafaaSx.rd [] b5_2 (c9.getD i11.toNat (Int.ofNat 0))) k12)).toNat true) c5 c6 c7 (c8 ++ [Go.Proofs.YtiiioobebeaafaaSx.rd (Int.ofNat 0) (Go.Proofs.YtiiioobebeaafaaSx.rd [] a4_2 (c8.getD i11.toNat (Int.ofNat 0))) k12]) (c9 ++ [Go.Proofs.YtiiioobebeaafaaSx.rd (Int.ofNat 0) (Go.Proofs.YtiiioobebeaafaaSx.rd [] b5_2 (c9.getD i11.toNat (Int.ofNat 0))) k12]) (c10 ++ [[] ++ c10.getD i11.toNat [] ++ [k12]])
                          else none
                         else none
                        else none
                       else none
                      else none
                     else none
                    else none
                   else none
                  else none
                else none
               else none
              else none
             else none
            else none
           else none
          else none
         else none
        else none
       else none
      else none
     else none
    else none
   else none
  else
   evermoreref3_Walked.l5 k (Go.IntKind.i64.wrap (i11 + 1)) a4_0 a4_1 a4_2 a4_3 b5_0 b5_1 b5_2 b5_3 seen9 c5 c6 c7 c8 c9 c10
end
def evermoreref3_Walked.f (k : Nat) (a0 : (Int × (Int × (List (List (Int)) × (List (Int) × Unit))))) (b1 : (Int × (Int × (List (List (Int)) × (List (Int) × Unit))))) (p2 : Int) (q3 : Int) : Option (List Int × List Int × List (List Int)) :=
 if 0 ≤ Go.IntKind.i64.wrap ((↑a0.snd.snd.fst.length : Int) * (↑b1.snd.snd.fst.length : Int)) then
 if Go.IntKind.i64.wrap ((↑a0.snd.snd.fst.length : Int) * (↑b1.snd.snd.fst.length : Int)) ≤ Go.IntKind.i64.wrap ((↑a0.snd.snd.fst.length : Int) * (↑b1.snd.snd.fst.length : Int)) then
  if Go.IntKind.i64.wrap ((↑a0.snd.snd.fst.length : Int) * (↑b1.snd.snd.fst.length : Int)) * ((↑1 : Int) + 1) ≤ 1099511627776 then
   if 0 ≤ Go.IntKind.i64.wrap (Go.IntKind.i64.wrap (p2 * (↑b1.snd.snd.fst.length : Int)) + q3) then
    if Go.IntKind.i64.wrap (Go.IntKind.i64.wrap (p2 * (↑b1.snd.snd.fst.length : Int)) + q3) < (↑(List.replicate (Go.IntKind.i64.wrap ((↑a0.snd.snd.fst.length : Int) * (↑b1.snd.snd.fst.length : Int))).toNat false).length : Int) then
     evermoreref3_Walked.l5 k 0 a0.fst a0.snd.fst a0.snd.snd.fst a0.snd.snd.snd.fst b1.fst b1.snd.fst b1.snd.snd.fst b1.snd.snd.snd.fst ((List.replicate (Go.IntKind.i64.wrap ((↑a0.snd.snd.fst.length : Int) * (↑b1.snd.snd.fst.length : Int))).toNat false).set (Go.IntKind.i64.wrap (Go.IntKind.i64.wrap (p2 * (↑b1.snd.snd.fst.length : Int)) + q3)).toNat true) [] [] [] [p2] [q3] [[]]
     else none
    else none
   else none
  else none
 else none

noncomputable def evermoreref3_Walked.body : Code := fnBody Try.f105
def evermoreref3_Walked.ti : Tm := ⟨[(0, .p (.pair (.int .i64) (.pair (.int .i64) (.pair (.slice (.slice (.int .i64))) (.pair (.slice (.int .i64)) .unit))))), (1, .p (.pair (.int .i64) (.pair (.int .i64) (.pair (.slice (.slice (.int .i64))) (.pair (.slice (.int .i64)) .unit))))), (2, .p (.int .i64)), (3, .p (.int .i64))], []⟩
def evermoreref3_Walked.to : Tm := ⟨[(0, .agg [.own 0, .own 1, .own 2])], [.own (.int .i64), .own (.int .i64), .own (.slice (.int .i64))]⟩
def evermoreref3_Walked.rs (r : (List Int) × (List Int) × (List (List Int))) : List Dat := [⟨(.slice (.int .i64)), r.1⟩, ⟨(.slice (.int .i64)), r.2.1⟩, ⟨(.slice (.slice (.int .i64))), r.2.2⟩]
def evermoreref3_Walked.out (ds : List Dat) : Option ((List Int) × (List Int) × (List (List Int))) := pop (.slice (.int .i64)) ds fun x0 ds => pop (.slice (.int .i64)) ds fun x1 ds => pop (.slice (.slice (.int .i64))) ds fun x2 ds => popN ds (some (x0, x1, x2))
def evermoreref3_Walked.c (k : Nat) (ds : List Dat) : Option ((List Int) × (List Int) × (List (List Int))) := pop (.pair (.int .i64) (.pair (.int .i64) (.pair (.slice (.slice (.int .i64))) (.pair (.slice (.int .i64)) .unit)))) ds fun x0 ds => pop (.pair (.int .i64) (.pair (.int .i64) (.pair (.slice (.slice (.int .i64))) (.pair (.slice (.int .i64)) .unit)))) ds fun x1 ds => pop (.int .i64) ds fun x2 ds => pop (.int .i64) ds fun x3 ds => popN ds (evermoreref3_Walked.f k x0 x1 x2 x3)
def evermoreref3_Walked.g : Nat → List Dat → Option ((List Int) × (List Int) × (List (List Int)))
 | 0, _ => none
 | k + 1, ds => evermoreref3_Walked.c k ds
def evermoreref3_Walked.env (k : Nat) : Nat → List SV → List Chunk → KT ((List Int) × (List Int) × (List (List Int))) → Option ((List Int) × (List Int) × (List (List Int))) := env0
def evermoreref3_Walked.t11 : Tm := ⟨[(4, .ptr 0 0), (5, .ptr 1 0), (8, .ptr 2 0), (9, .own 3), (10, .ptr 4 0), (11, .p (.int .i64))], [.box [.p (.int .i64), .p (.int .i64), .p (.slice (.slice (.int .i64))), .p (.slice (.int .i64))] 58, .box [.p (.int .i64), .p (.int .i64), .p (.slice (.slice (.int .i64))), .p (.slice (.int .i64))] 58, .box [.own 5, .own 6, .own 7] 139, .own .bool, .box [.own 8, .own 9, .own 10] 139, .own (.int .i64), .own (.int .i64), .own (.slice (.int .i64)), .own (.int .i64), .own (.int .i64), .own (.slice (.int .i64))]⟩
def evermoreref3_Walked.c11 (k : Nat) (ds : List Dat) : Option ((List Int) × (List Int) × (List (List Int))) := pop (.int .i64) ds fun x0 ds => pop (.int .i64) ds fun x1 ds => pop (.int .i64) ds fun x2 ds => pop (.slice (.slice (.int .i64))) ds fun x3 ds => pop (.slice (.int .i64)) ds fun x4 ds => pop (.int .i64) ds fun x5 ds => pop (.int .i64) ds fun x6 ds => pop (.slice (.slice (.int .i64))) ds fun x7 ds => pop (.slice (.int .i64)) ds fun x8 ds => pop (.slice .bool) ds fun x9 ds => pop (.slice (.int .i64)) ds fun x10 ds => pop (.slice (.int .i64)) ds fun x11 ds => pop (.slice (.slice (.int .i64))) ds fun x12 ds => pop (.slice (.int .i64)) ds fun x13 ds => pop (.slice (.int .i64)) ds fun x14 ds => pop (.slice (.slice (.int .i64))) ds fun x15 ds => popN ds (evermoreref3_Walked.l5 k x0 x1 x2 x3 x4 x5 x6 x7 x8 x9 x10 x11 x12 x13 x14 x15)
def evermoreref3_Walked.t17 : Tm := ⟨[(4, .ptr 0 0), (5, .ptr 1 0), (8, .ptr 2 0), (9, .own 3), (10, .ptr 4 0), (11, .p (.int .i64)), (12, .p (.int .i64))], [.box [.p (.int .i64), .p (.int .i64), .p (.slice (.slice (.int .i64))), .p (.slice (.int .i64))] 58, .box [.p (.int .i64), .p (.int .i64), .p (.slice (.slice (.int .i64))), .p (.slice (.int .i64))] 58, .box [.own 5, .own 6, .own 7] 139, .own .bool, .box [.own 8, .own 9, .own 10] 139, .own (.int .i64), .own (.int .i64), .own (.slice (.int .i64)), .own (.int .i64), .own (.int .i64), .own (.slice (.int .i64))]⟩
def evermoreref3_Walked.c17 (k : Nat) (ds : List Dat) : Option ((List Int) × (List Int) × (List (List Int))) := pop (.int .i64) ds fun x0 ds => pop (.int .i64) ds fun x1 ds => pop (.int .i64) ds fun x2 ds => pop (.int .i64) ds fun x3 ds => pop (.slice (.slice (.int .i64))) ds fun x4 ds => pop (.slice (.int .i64)) ds fun x5 ds => pop (.int .i64) ds fun x6 ds => pop (.int .i64) ds fun x7 ds => pop (.slice (.slice (.int .i64))) ds fun x8 ds => pop (.slice (.int .i64)) ds fun x9 ds => pop (.slice .bool) ds fun x10 ds => pop (.slice (.int .i64)) ds fun x11 ds => pop (.slice (.int .i64)) ds fun x12 ds => pop (.slice (.slice (.int .i64))) ds fun x13 ds => pop (.slice (.int .i64)) ds fun x14 ds => pop (.slice (.int .i64)) ds fun x15 ds => pop (.slice (.slice (.int .i64))) ds fun x16 ds => popN ds (evermoreref3_Walked.l8 k x0 x1 x2 x3 x4 x5 x6 x7 x8 x9 x10 x11 x12 x13 x14 x15 x16)
def evermoreref3_Walked.tbl : List (Nat × Tm × (Nat → List Dat → Option ((List Int) × (List Int) × (List (List Int))))) := [(11, evermoreref3_Walked.t11, evermoreref3_Walked.c11), (17, evermoreref3_Walked.t17, evermoreref3_Walked.c17)]
noncomputable abbrev evermoreref3_Walked.R (k : Nat) := run T (evermoreref3_Walked.env k) Try.f105.ntmps (cutE 0 evermoreref3_Walked.tbl k) (finE 0 evermoreref3_Walked.to evermoreref3_Walked.out) (fnRes Try.f105) [] 100000 true
theorem evermoreref3_Walked.e11 (k : Nat) (x0 : Int) (x1 : Int) (x2 : Int) (x3 : (List (List Int))) (x4 : (List Int)) (x5 : Int) (x6 : Int) (x7 : (List (List Int))) (x8 : (List Int)) (x9 : (List Bool)) (x10 : (List Int)) (x11 : (List Int)) (x12 : (List (List Int))) (x13 : (List Int)) (x14 : (List Int)) (x15 : (List (List Int))) : evermoreref3_Walked.l5 (k + 1) x0 x1 x2 x3 x4 x5 x6 x7 x8 x9 x10 x11 x12 x13 x14 x15 = evermoreref3_Walked.R k (start (stackOf 11 evermoreref3_Walked.body)) (evermoreref3_Walked.t11.fill [⟨(.int .i64), x0⟩, ⟨(.int .i64), x1⟩, ⟨(.int .i64), x2⟩, ⟨(.slice (.slice (.int .i64))), x3⟩, ⟨(.slice (.int .i64)), x4⟩, ⟨(.int .i64), x5⟩, ⟨(.int .i64), x6⟩, ⟨(.slice (.slice (.int .i64))), x7⟩, ⟨(.slice (.int .i64)), x8⟩, ⟨(.slice .bool), x9⟩, ⟨(.slice (.int .i64)), x10⟩, ⟨(.slice (.int .i64)), x11⟩, ⟨(.slice (.slice (.int .i64))), x12⟩, ⟨(.slice (.int .i64)), x13⟩, ⟨(.slice (.int .i64)), x14⟩, ⟨(.slice (.slice (.int .i64))), x15⟩]) := by kernel_rfl
theorem evermoreref3_Walked.s11 : stackAt 11 evermoreref3_Walked.body [] = some (stackOf 11 evermoreref3_Walked.body) := by kernel_rfl
theorem evermoreref3_Walked.h11 (k : Nat) (ds : List Dat) (r : (List Int) × (List Int) × (List (List Int))) (h : evermoreref3_Walked.c11 k ds = some r) : ∃ k', k' < k ∧ ∃ s, stackAt 11 evermoreref3_Walked.body [] = some s ∧ evermoreref3_Walked.R k' (start s) (evermoreref3_Walked.t11.fill ds) = some r := by
  unfold evermoreref3_Walked.c11 at h
  obtain ⟨x0, d0, rfl, h0⟩ := pop_some h
  obtain ⟨x1, d1, rfl, h1⟩ := pop_some h0
  obtain ⟨x2, d2, rfl, h2⟩ := pop_some h1
  obtain ⟨x3, d3, rfl, h3⟩ := pop_some h2
  obtain ⟨x4, d4, rfl, h4⟩ := pop_some h3
  obtain ⟨x5, d5, rfl, h5⟩ := pop_some h4
  obtain ⟨x6, d6, rfl, h6⟩ := pop_some h5
  obtain ⟨x7, d7, rfl, h7⟩ := pop_some h6
  obtain ⟨x8, d8, rfl, h8⟩ := pop_some h7
  obtain ⟨x9, d9, rfl, h9⟩ := pop_some h8
  obtain ⟨x10, d10, rfl, h10⟩ := pop_some h9
  obtain ⟨x11, d11, rfl, h11⟩ := pop_some h10
  obtain ⟨x12, d12, rfl, h12⟩ := pop_some h11
  obtain ⟨x13, d13, rfl, h13⟩ := pop_some h12
  obtain ⟨x14, d14, rfl, h14⟩ := pop_some h13
  obtain ⟨x15, d15, rfl, h15⟩ := pop_some h14
  obtain ⟨rfl, g⟩ := popN_some h15
  cases k with
  | zero => cases (show none = some r from g)
  | succ k => exact ⟨k, Nat.lt_succ_self k, _, evermoreref3_Walked.s11, (evermoreref3_Walked.e11 k x0 x1 x2 x3 x4 x5 x6 x7 x8 x9 x10 x11 x12 x13 x14 x15).symm.trans g⟩
theorem evermoreref3_Walked.e17 (k : Nat) (x0 : Int) (x1 : Int) (x2 : Int) (x3 : Int) (x4 : (List (List Int))) (x5 : (List Int)) (x6 : Int) (x7 : Int) (x8 : (List (List Int))) (x9 : (List Int)) (x10 : (List Bool)) (x11 : (List Int)) (x12 : (List Int)) (x13 : (List (List Int))) (x14 : (List Int)) (x15 : (List Int)) (x16 : (List (List Int))) : evermoreref3_Walked.l8 (k + 1) x0 x1 x2 x3 x4 x5 x6 x7 x8 x9 x10 x11 x12 x13 x14 x15 x16 = evermoreref3_Walked.R k (start (stackOf 17 evermoreref3_Walked.body)) (evermoreref3_Walked.t17.fill [⟨(.int .i64), x0⟩, ⟨(.int .i64), x1⟩, ⟨(.int .i64), x2⟩, ⟨(.int .i64), x3⟩, ⟨(.slice (.slice (.int .i64))), x4⟩, ⟨(.slice (.int .i64)), x5⟩, ⟨(.int .i64), x6⟩, ⟨(.int .i64), x7⟩, ⟨(.slice (.slice (.int .i64))), x8⟩, ⟨(.slice (.int .i64)), x9⟩, ⟨(.slice .bool), x10⟩, ⟨(.slice (.int .i64)), x11⟩, ⟨(.slice (.int .i64)), x12⟩, ⟨(.slice (.slice (.int .i64))), x13⟩, ⟨(.slice (.int .i64)), x14⟩, ⟨(.slice (.int .i64)), x15⟩, ⟨(.slice (.slice (.int .i64))), x16⟩]) := by kernel_rfl
theorem evermoreref3_Walked.s17 : stackAt 17 evermoreref3_Walked.body [] = some (stackOf 17 evermoreref3_Walked.body) := by kernel_rfl
theorem evermoreref3_Walked.h17 (k : Nat) (ds : List Dat) (r : (List Int) × (List Int) × (List (List Int))) (h : evermoreref3_Walked.c17 k ds = some r) : ∃ k', k' < k ∧ ∃ s, stackAt 17 evermoreref3_Walked.body [] = some s ∧ evermoreref3_Walked.R k' (start s) (evermoreref3_Walked.t17.fill ds) = some r := by
  unfold evermoreref3_Walked.c17 at h
  obtain ⟨x0, d0, rfl, h0⟩ := pop_some h
  obtain ⟨x1, d1, rfl, h1⟩ := pop_some h0
  obtain ⟨x2, d2, rfl, h2⟩ := pop_some h1
  obtain ⟨x3, d3, rfl, h3⟩ := pop_some h2
  obtain ⟨x4, d4, rfl, h4⟩ := pop_some h3
  obtain ⟨x5, d5, rfl, h5⟩ := pop_some h4
  obtain ⟨x6, d6, rfl, h6⟩ := pop_some h5
  obtain ⟨x7, d7, rfl, h7⟩ := pop_some h6
  obtain ⟨x8, d8, rfl, h8⟩ := pop_some h7
  obtain ⟨x9, d9, rfl, h9⟩ := pop_some h8
  obtain ⟨x10, d10, rfl, h10⟩ := pop_some h9
  obtain ⟨x11, d11, rfl, h11⟩ := pop_some h10
  obtain ⟨x12, d12, rfl, h12⟩ := pop_some h11
  obtain ⟨x13, d13, rfl, h13⟩ := pop_some h12
  obtain ⟨x14, d14, rfl, h14⟩ := pop_some h13
  obtain ⟨x15, d15, rfl, h15⟩ := pop_some h14
  obtain ⟨x16, d16, rfl, h16⟩ := pop_some h15
  obtain ⟨rfl, g⟩ := popN_some h16
  cases k with
  | zero => cases (show none = some r from g)
  | succ k => exact ⟨k, Nat.lt_succ_self k, _, evermoreref3_Walked.s17, (evermoreref3_Walked.e17 k x0 x1 x2 x3 x4 x5 x6 x7 x8 x9 x10 x11 x12 x13 x14 x15 x16).symm.trans g⟩
theorem evermoreref3_Walked.e (k : Nat) (x0 : (Int × (Int × ((List (List Int)) × ((List Int) × Unit))))) (x1 : (Int × (Int × ((List (List Int)) × ((List Int) × Unit))))) (x2 : Int) (x3 : Int) : evermoreref3_Walked.f k x0 x1 x2 x3 = evermoreref3_Walked.R k ([.code evermoreref3_Walked.body]) (evermoreref3_Walked.ti.fill [⟨(.pair (.int .i64) (.pair (.int .i64) (.pair (.slice (.slice (.int .i64))) (.pair (.slice (.int .i64)) .unit)))), x0⟩, ⟨(.pair (.int .i64) (.pair (.int .i64) (.pair (.slice (.slice (.int .i64))) (.pair (.slice (.int .i64)) .unit)))), x1⟩, ⟨(.int .i64), x2⟩, ⟨(.int .i64), x3⟩]) := by kernel_rfl
theorem evermoreref3_Walked.h (k : Nat) (ds : List Dat) (r : (List Int) × (List Int) × (List (List Int))) (h : evermoreref3_Walked.g k ds = some r) : ∃ k', k' < k ∧ evermoreref3_Walked.R k' ([.code evermoreref3_Walked.body]) (evermoreref3_Walked.ti.fill ds) = some r := by
  cases k with
  | zero => cases (show none = some r from h)
  | succ k =>
  replace h : evermoreref3_Walked.c k ds = some r := h
  unfold evermoreref3_Walked.c at h
  obtain ⟨x0, d0, rfl, h0⟩ := pop_some h
  obtain ⟨x1, d1, rfl, h1⟩ := pop_some h0
  obtain ⟨x2, d2, rfl, h2⟩ := pop_some h1
  obtain ⟨x3, d3, rfl, h3⟩ := pop_some h2
  obtain ⟨rfl, g⟩ := popN_some h3
  exact ⟨k, Nat.lt_succ_self k, (evermoreref3_Walked.e k x0 x1 x2 x3).symm.trans g⟩
theorem evermoreref3_Walked.o (ds : List Dat) (r : (List Int) × (List Int) × (List (List Int))) (h : evermoreref3_Walked.out ds = some r) : ds = evermoreref3_Walked.rs r := by
  unfold evermoreref3_Walked.out at h
  obtain ⟨x0, d0, rfl, h0⟩ := pop_some h
  obtain ⟨x1, d1, rfl, h1⟩ := pop_some h0
  obtain ⟨x2, d2, rfl, h2⟩ := pop_some h1
  obtain ⟨rfl, g⟩ := popN_some h2
  cases g
  rfl
theorem evermoreref3_Walked.fn : FnOk Try.prog 105 Try.f105 evermoreref3_Walked.body Try.f105.ntmps 4 (fnRes Try.f105) :=
  fnOk_of (by kernel_rfl) (by kernel_rfl) (by kernel_rfl) (by kernel_rfl)
theorem evermoreref3_Walked.con' : ∀ k ds r, evermoreref3_Walked.g k ds = some r → Con Try.prog 105 4 evermoreref3_Walked.ti evermoreref3_Walked.to ds (evermoreref3_Walked.rs r) :=
  fun_ok (T := T) T_ok mixed evermoreref3_Walked.fn (env := evermoreref3_Walked.env) (tbl := evermoreref3_Walked.tbl) (gOut := evermoreref3_Walked.out) (nin := 0) (cuts := []) (fuel := 100000) rfl (by kernel_rfl) (by kernel_rfl) (by kernel_rfl) (fun x hx => by
    simp only [evermoreref3_Walked.tbl, List.mem_cons, List.not_mem_nil, or_false] at hx
    rcases hx with rfl | rfl
    · exact evermoreref3_Walked.h11
    · exact evermoreref3_Walked.h17
) evermoreref3_Walked.o evermoreref3_Walked.h (fun k _ => by unfold evermoreref3_Walked.env; exact env0_ok)
theorem evermoreref3_Walked.con (k : Nat) {x0 : (Int × (Int × ((List (List Int)) × ((List Int) × Unit))))} {x1 : (Int × (Int × ((List (List Int)) × ((List Int) × Unit))))} {x2 : Int} {x3 : Int} (r : (List Int) × (List Int) × (List (List Int))) (h : evermoreref3_Walked.f k x0 x1 x2 x3 = some r) : Con Try.prog 105 4 evermoreref3_Walked.ti evermoreref3_Walked.to [⟨(.pair (.int .i64) (.pair (.int .i64) (.pair (.slice (.slice (.int .i64))) (.pair (.slice (.int .i64)) .unit)))), x0⟩, ⟨(.pair (.int .i64) (.pair (.int .i64) (.pair (.slice (.slice (.int .i64))) (.pair (.slice (.int .i64)) .unit)))), x1⟩, ⟨(.int .i64), x2⟩, ⟨(.int .i64), x3⟩] (evermoreref3_Walked.rs r) :=
  evermoreref3_Walked.con' (k + 1) _ r (by show evermoreref3_Walked.c k _ = some r; unfold evermoreref3_Walked.c; simp only [pop_self, popN]; exact h)
mutual
def evermoreref3_Apart.l3 : Nat → Int → Int → Int → List (List (Int)) → List (Int) → Int → Int → List (List (Int)) → List (Int) → List (Int) → List (Int) → List (List (Int)) → Option (List Int × Bool)
 | 0, _, _, _, _, _, _, _, _, _, _, _, _ => none
 | k + 1, i11, a4_0, a4_1, a4_2, a4_3, b5_0, b5_1, b5_2, b5_3, c3, c4, c5 =>
  if i11 < (↑c3.length : Int) then
   if 0 ≤ i11 then
   if i11 < (↑c3.length : Int) then
    if 0 ≤ c3.getD i11.toNat (Int.ofNat 0) then
     if c3.getD i11.toNat (Int.ofNat 0) < (↑a4_3.length : Int) then
      if 0 ≤ i11 then
       if i11 < (↑c4.length : Int) then
        if 0 ≤ c4.getD i11.toNat (Int.ofNat 0) then
         if c4.getD i11.toNat (Int.ofNat 0) < (↑b5_3.length : Int) then
          if Go.Proofs.YtiiioobebeaafaaSx.rd (Int.ofNat 0) a4_3 (c3.getD i11.toNat (Int.ofNat 0)) = Go.Proofs.YtiiioobebeaafaaSx.rd (Int.ofNat 0) b5_3 (c4.getD i11.toNat (Int.ofNat 0)) then
            evermoreref3_Apart.l3 k (Go.IntKind.i64.wrap (i11 + 1)) a4_0 a4_1 a4_2 a4_3 b5_0 b5_1 b5_2 b5_3 c3 c4 c5
           else
            if 0 ≤ i11 then
            if i11 < (↑c5.length : Int) then
             some (c5.getD i11.toNat [], true)
             else none
            else none
          else none
         else none
        else none
       else none
      else none
     else none
    else none
   else none
  else
   some ([], false)
end
def evermoreref3_Apart.f (k : Nat) (a0 : (Int × (Int × (List (List (Int)) × (List (Int) × Unit))))) (b1 : (Int × (Int × (List (List (Int)) × (List (Int) × Unit))))) (p2 : Int) (q3 : Int) : Option (List Int × Bool) :=
 (evermoreref3_Walked.f k (a0.fst, a0.snd.fst, a0.snd.snd.fst, a0.snd.snd.snd.fst, ()) (b1.fst, b1.snd.fst, b1.snd.snd.fst, b1.snd.snd.snd.fst, ()) p2 q3).bind fun r1 =>
  evermoreref3_Apart.l3 k 0 a0.fst a0.snd.fst a0.snd.snd.fst a0.snd.snd.snd.fst b1.fst b1.snd.fst b1.snd.snd.fst b1.snd.snd.snd.fst r1.fst r1.snd.fst r1.snd.snd

noncomputable def evermoreref3_Apart.body : Code := fnBody Try.f48
def evermoreref3_Apart.ti : Tm := ⟨[(0, .p (.pair (.int .i64) (.pair (.int .i64) (.pair (.slice (.slice (.int .i64))) (.pair (.slice (.int .i64)) .unit))))), (1, .p (.pair (.int .i64) (.pair (.int .i64) (.pair (.slice (.slice (.int .i64))) (.pair (.slice (.int .i64)) .unit))))), (2, .p (.int .i64)), (3, .p (.int .i64))], []⟩
def evermoreref3_Apart.to : Tm := ⟨[(0, .p (.slice (.int .i64))), (1, .p .bool)], []⟩
def evermoreref3_Apart.rs (r : (List Int) × Bool) : List Dat := [⟨(.slice (.int .i64)), r.1⟩, ⟨.bool, r.2⟩]
def evermoreref3_Apart.out (ds : List Dat) : Option ((List Int) × Bool) := pop (.slice (.int .i64)) ds fun x0 ds => pop .bool ds fun x1 ds => popN ds (some (x0, x1))
def evermoreref3_Apart.c (k : Nat) (ds : List Dat) : Option ((List Int) × Bool) := pop (.pair (.int .i64) (.pair (.int .i64) (.pair (.slice (.slice (.int .i64))) (.pair (.slice (.int .i64)) .unit)))) ds fun x0 ds => pop (.pair (.int .i64) (.pair (.int .i64) (.pair (.slice (.slice (.int .i64))) (.pair (.slice (.int .i64)) .unit)))) ds fun x1 ds => pop (.int .i64) ds fun x2 ds => pop (.int .i64) ds fun x3 ds => popN ds (evermoreref3_Apart.f k x0 x1 x2 x3)
def evermoreref3_Apart.g : Nat → List Dat → Option ((List Int) × Bool)
 | 0, _ => none
 | k + 1, ds => evermoreref3_Apart.c k ds
def evermoreref3_Apart.env (k : Nat) : Nat → List SV → List Chunk → KT ((List Int) × Bool) → Option ((List Int) × Bool) := (envC 105 4 evermoreref3_Walked.ti evermoreref3_Walked.to (fun ds K => pop (.pair (.int .i64) (.pair (.int .i64) (.pair (.slice (.slice (.int .i64))) (.pair (.slice (.int .i64)) .unit)))) ds fun x0 ds => pop (.pair (.int .i64) (.pair (.int .i64) (.pair (.slice (.slice (.int .i64))) (.pair (.slice (.int .i64)) .unit)))) ds fun x1 ds => pop (.int .i64) ds fun x2 ds => pop (.int .i64) ds fun x3 ds => popN ds ((evermoreref3_Walked.f k x0 x1 x2 x3).bind fun r => K (evermoreref3_Walked.rs r))) env0)
def evermoreref3_Apart.t7 : Tm := ⟨[(4, .ptr 0 0), (5, .ptr 1 0), (10, .ptr 2 0), (11, .p (.int .i64))], [.box [.p (.int .i64), .p (.int .i64), .p (.slice (.slice (.int .i64))), .p (.slice (.int .i64))] 58, .box [.p (.int .i64), .p (.int .i64), .p (.slice (.slice (.int .i64))), .p (.slice (.int .i64))] 58, .box [.own 3, .own 4, .own 5] 139, .own (.int .i64), .own (.int .i64), .own (.slice (.int .i64))]⟩
def evermoreref3_Apart.c7 (k : Nat) (ds : List Dat) : Option ((List Int) × Bool) := pop (.int .i64) ds fun x0 ds => pop (.int .i64) ds fun x1 ds => pop (.int .i64) ds fun x2 ds => pop (.slice (.slice (.int .i64))) ds fun x3 ds => pop (.slice (.int .i64)) ds fun x4 ds => pop (.int .i64) ds fun x5 ds => pop (.int .i64) ds fun x6 ds => pop (.slice (.slice (.int .i64))) ds fun x7 ds => pop (.slice (.int .i64)) ds fun x8 ds => pop (.slice (.int .i64)) ds fun x9 ds => pop (.slice (.int .i64)) ds fun x10 ds => pop (.slice (.slice (.int .i64))) ds fun x11 ds => popN ds (evermoreref3_Apart.l3 k x0 x1 x2 x3 x4 x5 x6 x7 x8 x9 x10 x11)
def evermoreref3_Apart.tbl : List (Nat × Tm × (Nat → List Dat → Option ((List Int) × Bool))) := [(7, evermoreref3_Apart.t7, evermoreref3_Apart.c7)]
noncomputable abbrev evermoreref3_Apart.R (k : Nat) := run T (evermoreref3_Apart.env k) Try.f48.ntmps (cutE 0 evermoreref3_Apart.tbl k) (finE 0 evermoreref3_Apart.to evermoreref3_Apart.out) (fnRes Try.f48) [] 100000 true
theorem evermoreref3_Apart.e7 (k : Nat) (x0 : Int) (x1 : Int) (x2 : Int) (x3 : (List (List Int))) (x4 : (List Int)) (x5 : Int) (x6 : Int) (x7 : (List (List Int))) (x8 : (List Int)) (x9 : (List Int)) (x10 : (List Int)) (x11 : (List (List Int))) : evermoreref3_Apart.l3 (k + 1) x0 x1 x2 x3 x4 x5 x6 x7 x8 x9 x10 x11 = evermoreref3_Apart.R k (start (stackOf 7 evermoreref3_Apart.body)) (evermoreref3_Apart.t7.fill [⟨(.int .i64), x0⟩, ⟨(.int .i64), x1⟩, ⟨(.int .i64), x2⟩, ⟨(.slice (.slice (.int .i64))), x3⟩, ⟨(.slice (.int .i64)), x4⟩, ⟨(.int .i64), x5⟩, ⟨(.int .i64), x6⟩, ⟨(.slice (.slice (.int .i64))), x7⟩, ⟨(.slice (.int .i64)), x8⟩, ⟨(.slice (.int .i64)), x9⟩, ⟨(.slice (.int .i64)), x10⟩, ⟨(.slice (.slice (.int .i64))), x11⟩]) := by kernel_rfl
theorem evermoreref3_Apart.s7 : stackAt 7 evermoreref3_Apart.body [] = some (stackOf 7 evermoreref3_Apart.body) := by kernel_rfl
theorem evermoreref3_Apart.h7 (k : Nat) (ds : List Dat) (r : (List Int) × Bool) (h : evermoreref3_Apart.c7 k ds = some r) : ∃ k', k' < k ∧ ∃ s, stackAt 7 evermoreref3_Apart.body [] = some s ∧ evermoreref3_Apart.R k' (start s) (evermoreref3_Apart.t7.fill ds) = some r := by
  unfold evermoreref3_Apart.c7 at h
  obtain ⟨x0, d0, rfl, h0⟩ := pop_some h
  obtain ⟨x1, d1, rfl, h1⟩ := pop_some h0
  obtain ⟨x2, d2, rfl, h2⟩ := pop_some h1
  obtain ⟨x3, d3, rfl, h3⟩ := pop_some h2
  obtain ⟨x4, d4, rfl, h4⟩ := pop_some h3
  obtain ⟨x5, d5, rfl, h5⟩ := pop_some h4
  obtain ⟨x6, d6, rfl, h6⟩ := pop_some h5
  obtain ⟨x7, d7, rfl, h7⟩ := pop_some h6
  obtain ⟨x8, d8, rfl, h8⟩ := pop_some h7
  obtain ⟨x9, d9, rfl, h9⟩ := pop_some h8
  obtain ⟨x10, d10, rfl, h10⟩ := pop_some h9
  obtain ⟨x11, d11, rfl, h11⟩ := pop_some h10
  obtain ⟨rfl, g⟩ := popN_some h11
  cases k with
  | zero => cases (show none = some r from g)
  | succ k => exact ⟨k, Nat.lt_succ_self k, _, evermoreref3_Apart.s7, (evermoreref3_Apart.e7 k x0 x1 x2 x3 x4 x5 x6 x7 x8 x9 x10 x11).symm.trans g⟩
theorem evermoreref3_Apart.e (k : Nat) (x0 : (Int × (Int × ((List (List Int)) × ((List Int) × Unit))))) (x1 : (Int × (Int × ((List (List Int)) × ((List Int) × Unit))))) (x2 : Int) (x3 : Int) : evermoreref3_Apart.f k x0 x1 x2 x3 = evermoreref3_Apart.R k ([.code evermoreref3_Apart.body]) (evermoreref3_Apart.ti.fill [⟨(.pair (.int .i64) (.pair (.int .i64) (.pair (.slice (.slice (.int .i64))) (.pair (.slice (.int .i64)) .unit)))), x0⟩, ⟨(.pair (.int .i64) (.pair (.int .i64) (.pair (.slice (.slice (.int .i64))) (.pair (.slice (.int .i64)) .unit)))), x1⟩, ⟨(.int .i64), x2⟩, ⟨(.int .i64), x3⟩]) := by kernel_rfl
theorem evermoreref3_Apart.h (k : Nat) (ds : List Dat) (r : (List Int) × Bool) (h : evermoreref3_Apart.g k ds = some r) : ∃ k', k' < k ∧ evermoreref3_Apart.R k' ([.code evermoreref3_Apart.body]) (evermoreref3_Apart.ti.fill ds) = some r := by
  cases k with
  | zero => cases (show none = some r from h)
  | succ k =>
  replace h : evermoreref3_Apart.c k ds = some r := h
  unfold evermoreref3_Apart.c at h
  obtain ⟨x0, d0, rfl, h0⟩ := pop_some h
  obtain ⟨x1, d1, rfl, h1⟩ := pop_some h0
  obtain ⟨x2, d2, rfl, h2⟩ := pop_some h1
  obtain ⟨x3, d3, rfl, h3⟩ := pop_some h2
  obtain ⟨rfl, g⟩ := popN_some h3
  exact ⟨k, Nat.lt_succ_self k, (evermoreref3_Apart.e k x0 x1 x2 x3).symm.trans g⟩
theorem evermoreref3_Apart.o (ds : List Dat) (r : (List Int) × Bool) (h : evermoreref3_Apart.out ds = some r) : ds = evermoreref3_Apart.rs r := by
  unfold evermoreref3_Apart.out at h
  obtain ⟨x0, d0, rfl, h0⟩ := pop_some h
  obtain ⟨x1, d1, rfl, h1⟩ := pop_some h0
  obtain ⟨rfl, g⟩ := popN_some h1
  cases g
  rfl
theorem evermoreref3_Apart.fn : FnOk Try.prog 48 Try.f48 evermoreref3_Apart.body Try.f48.ntmps 4 (fnRes Try.f48) :=
  fnOk_of (by kernel_rfl) (by kernel_rfl) (by kernel_rfl) (by kernel_rfl)
theorem evermoreref3_Apart.con' : ∀ k ds r, evermoreref3_Apart.g k ds = some r → Con Try.prog 48 4 evermoreref3_Apart.ti evermoreref3_Apart.to ds (evermoreref3_Apart.rs r) :=
  fun_ok (T := T) T_ok mixed evermoreref3_Apart.fn (env := evermoreref3_Apart.env) (tbl := evermoreref3_Apart.tbl) (gOut := evermoreref3_Apart.out) (nin := 0) (cuts := []) (fuel := 100000) rfl (by kernel_rfl) (by kernel_rfl) (by kernel_rfl) (fun x hx => by
    simp only [evermoreref3_Apart.tbl, List.mem_cons, List.not_mem_nil, or_false] at hx
    subst hx
    · exact evermoreref3_Apart.h7
) evermoreref3_Apart.o evermoreref3_Apart.h (fun k _ => by unfold evermoreref3_Apart.env; exact (envC_ok (fun ds K r h => by
    obtain ⟨x0, d0, rfl, h0⟩ := pop_some h
    obtain ⟨x1, d1, rfl, h1⟩ := pop_some h0
    obtain ⟨x2, d2, rfl, h2⟩ := pop_some h1
    obtain ⟨x3, d3, rfl, h3⟩ := pop_some h2
    obtain ⟨rfl, g⟩ := popN_some h3
    obtain ⟨r1, h1, h2⟩ := bind_some g
    exact ⟨_, h2, evermoreref3_Walked.con k _ h1⟩) env0_ok))
theorem evermoreref3_Apart.con (k : Nat) {x0 : (Int × (Int × ((List (List Int)) × ((List Int) × Unit))))} {x1 : (Int × (Int × ((List (List Int)) × ((List Int) × Unit))))} {x2 : Int} {x3 : Int} (r : (List Int) × Bool) (h : evermoreref3_Apart.f k x0 x1 x2 x3 = some r) : Con Try.prog 48 4 evermoreref3_Apart.ti evermoreref3_Apart.to [⟨(.pair (.int .i64) (.pair (.int .i64) (.pair (.slice (.slice (.int .i64))) (.pair (.slice (.int .i64)) .unit)))), x0⟩, ⟨(.pair (.int .i64) (.pair (.int .i64) (.pair (.slice (.slice (.int .i64))) (.pair (.slice (.int .i64)) .unit)))), x1⟩, ⟨(.int .i64), x2⟩, ⟨(.int .i64), x3⟩] (evermoreref3_Apart.rs r) :=
  evermoreref3_Apart.con' (k + 1) _ r (by show evermoreref3_Apart.c k _ = some r; unfold evermoreref3_Apart.c; simp only [pop_self, popN]; exact h)
mutual
def evermoreref1_Words.l4 : Nat → List (Int) → List (Int) → Int → Option (Bool)
 | 0, _, _, _ => none
 | k + 1, a0, b1, i5 =>
  if i5 < (↑a0.length : Int) then
   if 0 ≤ i5 then
   if i5 < (↑a0.length : Int) then
    if 0 ≤ i5 then
     if i5 < (↑b1.length : Int) then
      if Go.Proofs.YtiiioobebeaafaaSx.rd (Int.ofNat 0) a0 i5 = Go.Proofs.YtiiioobebeaafaaSx.rd (Int.ofNat 0) b1 i5 then
        evermoreref1_Words.l4 k a0 b1 (Go.IntKind.i64.wrap (i5 + 1))
       else
        some (false)
      else none
     else none
    else none
   else none
  else
   some (true)
end
def evermoreref1_Words.f (k : Nat) (a0 : List (Int)) (b1 : List (Int)) : Option (Bool) :=
 if (↑a0.length : Int) = (↑b1.length : Int) then
  evermoreref1_Words.l4 k a0 b1 0
 else
  some (false)

noncomputable def evermoreref1_Words.body : Code := fnBody Try.f34
def evermoreref1_Words.ti : Tm := ⟨[(0, .p (.slice (.int .i64))), (1, .p (.slice (.int .i64)))], []⟩
def evermoreref1_Words.to : Tm := ⟨[(0, .p .bool)], []⟩
def evermoreref1_Words.rs (r : Bool) : List Dat := [⟨.bool, r⟩]
def evermoreref1_Words.out (ds : List Dat) : Option (Bool) := pop .bool ds fun x0 ds => popN ds (some (x0))
def evermoreref1_Words.c (k : Nat) (ds : List Dat) : Option (Bool) := pop (.slice (.int .i64)) ds fun x0 ds => pop (.slice (.int .i64)) ds fun x1 ds => popN ds (evermoreref1_Words.f k x0 x1)
def evermoreref1_Words.g : Nat → List Dat → Option (Bool)
 | 0, _ => none
 | k + 1, ds => evermoreref1_Words.c k ds
def evermoreref1_Words.env (k : Nat) : Nat → List SV → List Chunk → KT (Bool) → Option (Bool) := env0
def evermoreref1_Words.t9 : Tm := ⟨[(0, .p (.slice (.int .i64))), (1, .p (.slice (.int .i64))), (5, .p (.int .i64))], []⟩
def evermoreref1_Words.c9 (k : Nat) (ds : List Dat) : Option (Bool) := pop (.slice (.int .i64)) ds fun x0 ds => pop (.slice (.int .i64)) ds fun x1 ds => pop (.int .i64) ds fun x2 ds => popN ds (evermoreref1_Words.l4 k x0 x1 x2)
def evermoreref1_Words.tbl : List (Nat × Tm × (Nat → List Dat → Option (Bool))) := [(9, evermoreref1_Words.t9, evermoreref1_Words.c9)]
noncomputable abbrev evermoreref1_Words.R (k : Nat) := run T (evermoreref1_Words.env k) Try.f34.ntmps (cutE 0 evermoreref1_Words.tbl k) (finE 0 evermoreref1_Words.to evermoreref1_Words.out) (fnRes Try.f34) [] 100000 true
theorem evermoreref1_Words.e9 (k : Nat) (x0 : (List Int)) (x1 : (List Int)) (x2 : Int) : evermoreref1_Words.l4 (k + 1) x0 x1 x2 = evermoreref1_Words.R k (start (stackOf 9 evermoreref1_Words.body)) (evermoreref1_Words.t9.fill [⟨(.slice (.int .i64)), x0⟩, ⟨(.slice (.int .i64)), x1⟩, ⟨(.int .i64), x2⟩]) := by kernel_rfl
theorem evermoreref1_Words.s9 : stackAt 9 evermoreref1_Words.body [] = some (stackOf 9 evermoreref1_Words.body) := by kernel_rfl
theorem evermoreref1_Words.h9 (k : Nat) (ds : List Dat) (r : Bool) (h : evermoreref1_Words.c9 k ds = some r) : ∃ k', k' < k ∧ ∃ s, stackAt 9 evermoreref1_Words.body [] = some s ∧ evermoreref1_Words.R k' (start s) (evermoreref1_Words.t9.fill ds) = some r := by
  unfold evermoreref1_Words.c9 at h
  obtain ⟨x0, d0, rfl, h0⟩ := pop_some h
  obtain ⟨x1, d1, rfl, h1⟩ := pop_some h0
  obtain ⟨x2, d2, rfl, h2⟩ := pop_some h1
  obtain ⟨rfl, g⟩ := popN_some h2
  cases k with
  | zero => cases (show none = some r from g)
  | succ k => exact ⟨k, Nat.lt_succ_self k, _, evermoreref1_Words.s9, (evermoreref1_Words.e9 k x0 x1 x2).symm.trans g⟩
theorem evermoreref1_Words.e (k : Nat) (x0 : (List Int)) (x1 : (List Int)) : evermoreref1_Words.f k x0 x1 = evermoreref1_Words.R k ([.code evermoreref1_Words.body]) (evermoreref1_Words.ti.fill [⟨(.slice (.int .i64)), x0⟩, ⟨(.slice (.int .i64)), x1⟩]) := by kernel_rfl
theorem evermoreref1_Words.h (k : Nat) (ds : List Dat) (r : Bool) (h : evermoreref1_Words.g k ds = some r) : ∃ k', k' < k ∧ evermoreref1_Words.R k' ([.code evermoreref1_Words.body]) (evermoreref1_Words.ti.fill ds) = some r := by
  cases k with
  | zero => cases (show none = some r from h)
  | succ k =>
  replace h : evermoreref1_Words.c k ds = some r := h
  unfold evermoreref1_Words.c at h
  obtain ⟨x0, d0, rfl, h0⟩ := pop_some h
  obtain ⟨x1, d1, rfl, h1⟩ := pop_some h0
  obtain ⟨rfl, g⟩ := popN_some h1
  exact ⟨k, Nat.lt_succ_self k, (evermoreref1_Words.e k x0 x1).symm.trans g⟩
theorem evermoreref1_Words.o (ds : List Dat) (r : Bool) (h : evermoreref1_Words.out ds = some r) : ds = evermoreref1_Words.rs r := by
  unfold evermoreref1_Words.out at h
  obtain ⟨x0, d0, rfl, h0⟩ := pop_some h
  obtain ⟨rfl, g⟩ := popN_some h0
  cases g
  rfl
theorem evermoreref1_Words.fn : FnOk Try.prog 34 Try.f34 evermoreref1_Words.body Try.f34.ntmps 2 (fnRes Try.f34) :=
  fnOk_of (by kernel_rfl) (by kernel_rfl) (by kernel_rfl) (by kernel_rfl)
theorem evermoreref1_Words.con' : ∀ k ds r, evermoreref1_Words.g k ds = some r → Con Try.prog 34 2 evermoreref1_Words.ti evermoreref1_Words.to ds (evermoreref1_Words.rs r) :=
  fun_ok (T := T) T_ok mixed evermoreref1_Words.fn (env := evermoreref1_Words.env) (tbl := evermoreref1_Words.tbl) (gOut := evermoreref1_Words.out) (nin := 0) (cuts := []) (fuel := 100000) rfl (by kernel_rfl) (by kernel_rfl) (by kernel_rfl) (fun x hx => by
    simp only [evermoreref1_Words.tbl, List.mem_cons, List.not_mem_nil, or_false] at hx
    subst hx
    · exact evermoreref1_Words.h9
) evermoreref1_Words.o evermoreref1_Words.h (fun k _ => by unfold evermoreref1_Words.env; exact env0_ok)
theorem evermoreref1_Words.con (k : Nat) {x0 : (List Int)} {x1 : (List Int)} (r : Bool) (h : evermoreref1_Words.f k x0 x1 = some r) : Con Try.prog 34 2 evermoreref1_Words.ti evermoreref1_Words.to [⟨(.slice (.int .i64)), x0⟩, ⟨(.slice (.int .i64)), x1⟩] (evermoreref1_Words.rs r) :=
  evermoreref1_Words.con' (k + 1) _ r (by show evermoreref1_Words.c k _ = some r; unfold evermoreref1_Words.c; simp only [pop_self, popN]; exact h)
mutual
def evermoreref3_Classes.l3 : Nat → Int → Int → Int → List (List (Int)) → List (Int) → List (Int) → Option (List Int)
 | 0, _, _, _, _, _, _ => none
 | k + 1, count4, d1_0, d1_1, d1_2, d1_3, class3 =>
  if 0 ≤ (↑class3.length : Int) then
  if (↑class3.length : Int) ≤ (↑class3.length : Int) then
   if (↑class3.length : Int) * ((↑8 : Int) + 1) ≤ 1099511627776 then
    evermoreref3_Classes.l7 k count4 0 0 d1_0 d1_1 d1_2 d1_3 class3 (List.replicate (↑class3.length : Int).toNat (Int.ofNat 0)) []
    else none
   else none
  else none
def evermoreref3_Classes.l7 : Nat → Int → Int → Int → Int → Int → List (List (Int)) → List (Int) → List (Int) → List (Int) → List (Int) → Option (List Int)
 | 0, _, _, _, _, _, _, _, _, _, _ => none
 | k + 1, count4, n6, q8, d1_0, d1_1, d1_2, d1_3, class3, next5, first7 =>
  if q8 < (↑class3.length : Int) then
   evermoreref3_Classes.l10 k count4 n6 q8 0 d1_0 d1_1 d1_2 d1_3 class3 next5 first7
  else
   if n6 = count4 then
    some (next5)
   else
    evermoreref3_Classes.l3 k n6 d1_0 d1_1 d1_2 d1_3 next5
def evermoreref3_Classes.l10 : Nat → Int → Int → Int → Int → Int → Int → List (List (Int)) → List (Int) → List (Int) → List (Int) → List (Int) → Option (List Int)
 | 0, _, _, _, _, _, _, _, _, _, _, _ => none
 | k + 1, count4, n6, q8, k9, d1_0, d1_1, d1_2, d1_3, class3, next5, first7 =>
  if k9 < n6 then
   if 0 ≤ k9 then
   if k9 < (↑first7.length : Int) then
    if 0 ≤ first7.getD k9.toNat (Int.ofNat 0) then
     if first7.getD k9.toNat (Int.ofNat 0) < (↑class3.length : Int) then
      if 0 ≤ q8 then
       if q8 < (↑class3.length : Int) then
        evermoreref3_Classes.l14 k count4 n6 q8 k9 (first7.getD k9.toNat (Int.ofNat 0)) (decide (class3.getD (first7.getD k9.toNat (Int.ofNat 0)).toNat (Int.ofNat 0) = class3.getD q8.toNat (Int.ofNat 0))) 0 d1_0 d1_1 d1_2 d1_3 class3 next5 first7
        else none
       else none
      else none
     else none
    else none
   else none
  else
   if k9 = n6 then
    if (first7 ++ [q8]).length.blt 1000000000 = true then
    evermoreref3_Classes.j22 k count4 (Go.IntKind.i64.wrap (n6 + 1)) q8 k9 d1_0 d1_1 d1_2 d1_3 class3 next5 (first7 ++ [q8])
    else none
   else
    evermoreref3_Classes.j22 k count4 n6 q8 k9 d1_0 d1_1 d1_2 d1_3 class3 next5 first7
def evermoreref3_Classes.l14 : Nat → Int → Int → Int → Int → Int → Bool → Int → Int → Int → List (List (Int)) → List (Int) → List (Int) → List (Int) → List (Int) → Option (List Int)
 | 0, _, _, _, _, _, _, _, _, _, _, _, _, _, _ => none
 | k + 1, count4, n6, q8, k9, p10, same11, a12, d1_0, d1_1, d1_2, d1_3, class3, next5, first7 =>
  if a12 < d1_0 then
   if same11 = true then
    if 0 ≤ p10 then
    if p10 < (↑d1_2.length : Int) then
     if 0 ≤ a12 then
      if a12 < (↑(Go.Proofs.YtiiioobebeaafaaSx.rd [] d1_2 p10).length : Int) then
       if 0 ≤ Go.Proofs.YtiiioobebeaafaaSx.rd (Int.ofNat 0) (Go.Proofs.YtiiioobebeaafaaSx.rd [] d1_2 p10) a12 then
        if Go.Proofs.YtiiioobebeaafaaSx.rd (Int.ofNat 0) (Go.Proofs.YtiiioobebeaafaaSx.rd [] d1_2 p10) a12 < (↑class3.length : Int) then
         if 0 ≤ q8 then
          if q8 < (↑d1_2.length : Int) then
           if 0 ≤ a12 then
            if a12 < (↑(Go.Proofs.YtiiioobebeaafaaSx.rd [] d1_2 q8).length : Int) then
             if 0 ≤ Go.Proofs.YtiiioobebeaafaaSx.rd (Int.ofNat 0) (Go.Proofs.YtiiioobebeaafaaSx.rd [] d1_2 q8) a12 then
              if Go.Proofs.YtiiioobebeaafaaSx.rd (Int.ofNat 0) (Go.Proofs.YtiiioobebeaafaaSx.rd [] d1_2 q8) a12 < (↑class3.length : Int) then
               evermoreref3_Classes.l14 k count4 n6 q8 k9 p10 (decide (class3.getD (Go.Proofs.YtiiioobebeaafaaSx.rd (Int.ofNat 0) (Go.Proofs.YtiiioobebeaafaaSx.rd [] d1_2 p10) a12).toNat (Int.ofNat 0) = class3.getD (Go.Proofs.YtiiioobebeaafaaSx.rd (Int.ofNat 0) (Go.Proofs.YtiiioobebeaafaaSx.rd [] d1_2 q8) a12).toNat (Int.ofNat 0))) (Go.IntKind.i64.wrap (a12 + 1)) d1_0 d1_1 d1_2 d1_3 class3 next5 first7
               else none
              else none
             else none
            else none
           else none
          else none
         else none
        else none
       else none
      else none
     else none
    else none
   else
    if same11 = true then
     if k9 = n6 then
      if (first7 ++ [q8]).length.blt 1000000000 = true then
      evermoreref3_Classes.j22 k count4 (Go.IntKind.i64.wrap (n6 + 1)) q8 k9 d1_0 d1_1 d1_2 d1_3 class3 next5 (first7 ++ [q8])
      else none
     else
      evermoreref3_Classes.j22 k count4 n6 q8 k9 d1_0 d1_1 d1_2 d1_3 class3 next5 first7
    else
     evermoreref3_Classes.l10 k count4 n6 q8 (Go.IntKind.i64.wrap (k9 + 1)) d1_0 d1_1 d1_2 d1_3 class3 next5 first7
  else
   if same11 = true then
    if k9 = n6 then
     if (first7 ++ [q8]).length.blt 1000000000 = true then
     evermoreref3_Classes.j22 k count4 (Go.IntKind.i64.wrap (n6 + 1)) q8 k9 d1_0 d1_1 d1_2 d1_3 class3 next5 (first7 ++ [q8])
     else none
    else
     evermoreref3_Classes.j22 k count4 n6 q8 k9 d1_0 d1_1 d1_2 d1_3 class3 next5 first7
   else
    evermoreref3_Classes.l10 k count4 n6 q8 (Go.IntKind.i64.wrap (k9 + 1)) d1_0 d1_1 d1_2 d1_3 class3 next5 first7
def evermoreref3_Classes.j22 : Nat → Int → Int → Int → Int → Int → Int → List (List (Int)) → List (Int) → List (Int) → List (Int) → List (Int) → Option (List Int)
 | 0, _, _, _, _, _, _, _, _, _, _, _ => none
 | k + 1, count4, n6, q8, k9, d1_0, d1_1, d1_2, d1_3, class3, next5, first7 =>
  if 0 ≤ q8 then
  if q8 < (↑next5.length : Int) then
   evermoreref3_Classes.l7 k count4 n6 (Go.IntKind.i64.wrap (q8 + 1)) d1_0 d1_1 d1_2 d1_3 class3 (next5.set q8.toNat k9) first7
   else none
  else none
end
def evermoreref3_Classes.f (k : Nat) (d0 : (Int × (Int × (List (List (Int)) × (List (Int) × Unit))))) : Option (List Int) :=
 if ([] ++ d0.snd.snd.snd.fst).length.blt 1000000000 = true then
 evermoreref3_Classes.l3 k 0 d0.fst d0.snd.fst d0.snd.snd.fst d0.snd.snd.snd.fst ([] ++ d0.snd.snd.snd.fst)
 else none

noncomputable def evermoreref3_Classes.body : Code := fnBody Try.f104
def evermoreref3_Classes.ti : Tm := ⟨[(0, .p (.pair (.int .i64) (.pair (.int .i64) (.pair (.slice (.slice (.int .i64))) (.pair (.slice (.int .i64)) .unit)))))], []⟩
def evermoreref3_Classes.to : Tm := ⟨[(0, .own 0)], [.own (.int .i64)]⟩
def evermoreref3_Classes.rs (r : (List Int)) : List Dat := [⟨(.slice (.int .i64)), r⟩]
def evermoreref3_Classes.out (ds : List Dat) : Option ((List Int)) := pop (.slice (.int .i64)) ds fun x0 ds => popN ds (some (x0))
def evermoreref3_Classes.c (k : Nat) (ds : List Dat) : Option ((List Int)) := pop (.pair (.int .i64) (.pair (.int .i64) (.pair (.slice (.slice (.int .i64))) (.pair (.slice (.int .i64)) .unit)))) ds fun x0 ds => popN ds (evermoreref3_Classes.f k x0)
def evermoreref3_Classes.g : Nat → List Dat → Option ((List Int))
 | 0, _ => none
 | k + 1, ds => evermoreref3_Classes.c k ds
def evermoreref3_Classes.env (k : Nat) : Nat → List SV → List Chunk → KT ((List Int)) → Option ((List Int)) := env0
def evermoreref3_Classes.t7 : Tm := ⟨[(1, .ptr 0 0), (3, .own 1), (4, .p (.int .i64))], [.box [.p (.int .i64), .p (.int .i64), .p (.slice (.slice (.int .i64))), .p (.slice (.int .i64))] 58, .own (.int .i64)]⟩
def evermoreref3_Classes.c7 (k : Nat) (ds : List Dat) : Option ((List Int)) := pop (.int .i64) ds fun x0 ds => pop (.int .i64) ds fun x1 ds => pop (.int .i64) ds fun x2 ds => pop (.slice (.slice (.int .i64))) ds fun x3 ds => pop (.slice (.int .i64)) ds fun x4 ds => pop (.slice (.int .i64)) ds fun x5 ds => popN ds (evermoreref3_Classes.l3 k x0 x1 x2 x3 x4 x5)
def evermoreref3_Classes.t15 : Tm := ⟨[(1, .ptr 0 0), (3, .own 1), (4, .p (.int .i64)), (5, .own 2), (6, .p (.int .i64)), (7, .own 3), (8, .p (.int .i64))], [.box [.p (.int .i64), .p (.int .i64), .p (.slice (.slice (.int .i64))), .p (.slice (.int .i64))] 58, .own (.int .i64), .own (.int .i64), .own (.int .i64)]⟩
def evermoreref3_Classes.c15 (k : Nat) (ds : List Dat) : Option ((List Int)) := pop (.int .i64) ds fun x0 ds => pop (.int .i64) ds fun x1 ds => pop (.int .i64) ds fun x2 ds => pop (.int .i64) ds fun x3 ds => pop (.int .i64) ds fun x4 ds => pop (.slice (.slice (.int .i64))) ds fun x5 ds => pop (.slice (.int .i64)) ds fun x6 ds => pop (.slice (.int .i64)) ds fun x7 ds => pop (.slice (.int .i64)) ds fun x8 ds => pop (.slice (.int .i64)) ds fun x9 ds => popN ds (evermoreref3_Classes.l7 k x0 x1 x2 x3 x4 x5 x6 x7 x8 x9)
def evermoreref3_Classes.t21 : Tm := ⟨[(1, .ptr 0 0), (3, .own 1), (4, .p (.int .i64)), (5, .own 2), (6, .p (.int .i64)), (7, .own 3), (8, .p (.int .i64)), (9, .p (.int .i64))], [.box [.p (.int .i64), .p (.int .i64), .p (.slice (.slice (.int .i64))), .p (.slice (.int .i64))] 58, .own (.int .i64), .own (.int .i64), .own (.int .i64)]⟩
def evermoreref3_Classes.c21 (k : Nat) (ds : List Dat) : Option ((List Int)) := pop (.int .i64) ds fun x0 ds => pop (.int .i64) ds fun x1 ds => pop (.int .i64) ds fun x2 ds => pop (.int .i64) ds fun x3 ds => pop (.int .i64) ds fun x4 ds => pop (.int .i64) ds fun x5 ds => pop (.slice (.slice (.int .i64))) ds fun x6 ds => pop (.slice (.int .i64)) ds fun x7 ds => pop (.slice (.int .i64)) ds fun x8 ds => pop (.slice (.int .i64)) ds fun x9 ds => pop (.slice (.int .i64)) ds fun x10 ds => popN ds (evermoreref3_Classes.l10 k x0 x1 x2 x3 x4 x5 x6 x7 x8 x9 x10)
def evermoreref3_Classes.t29 : Tm := ⟨[(1, .ptr 0 0), (3, .own 1), (4, .p (.int .i64)), (5, .own 2), (6, .p (.int .i64)), (7, .own 3), (8, .p (.int .i64)), (9, .p (.int .i64)), (10, .p (.int .i64)), (11, .p .bool), (12, .p (.int .i64))], [.box [.p (.int .i64), .p (.int .i64), .p (.slice (.slice (.int .i64))), .p (.slice (.int .i64))] 58, .own (.int .i64), .own (.int .i64), .own (.int .i64)]⟩
def evermoreref3_Classes.c29 (k : Nat) (ds : List Dat) : Option ((List Int)) := pop (.int .i64) ds fun x0 ds => pop (.int .i64) ds fun x1 ds => pop (.int .i64) ds fun x2 ds => pop (.int .i64) ds fun x3 ds => pop (.int .i64) ds fun x4 ds => pop .bool ds fun x5 ds => pop (.int .i64) ds fun x6 ds => pop (.int .i64) ds fun x7 ds => pop (.int .i64) ds fun x8 ds => pop (.slice (.slice (.int .i64))) ds fun x9 ds => pop (.slice (.int .i64)) ds fun x10 ds => pop (.slice (.int .i64)) ds fun x11 ds => pop (.slice (.int .i64)) ds fun x12 ds => pop (.slice (.int .i64)) ds fun x13 ds => popN ds (evermoreref3_Classes.l14 k x0 x1 x2 x3 x4 x5 x6 x7 x8 x9 x10 x11 x12 x13)
def evermoreref3_Classes.t44 : Tm := ⟨[(1, .ptr 0 0), (3, .own 1), (4, .p (.int .i64)), (5, .own 2), (6, .p (.int .i64)), (7, .own 3), (8, .p (.int .i64)), (9, .p (.int .i64))], [.box [.p (.int .i64), .p (.int .i64), .p (.slice (.slice (.int .i64))), .p (.slice (.int .i64))] 58, .own (.int .i64), .own (.int .i64), .own (.int .i64)]⟩
def evermoreref3_Classes.c44 (k : Nat) (ds : List Dat) : Option ((List Int)) := pop (.int .i64) ds fun x0 ds => pop (.int .i64) ds fun x1 ds => pop (.int .i64) ds fun x2 ds => pop (.int .i64) ds fun x3 ds => pop (.int .i64) ds fun x4 ds => pop (.int .i64) ds fun x5 ds => pop (.slice (.slice (.int .i64))) ds fun x6 ds => pop (.slice (.int .i64)) ds fun x7 ds => pop (.slice (.int .i64)) ds fun x8 ds => pop (.slice (.int .i64)) ds fun x9 ds => pop (.slice (.int .i64)) ds fun x10 ds => popN ds (evermoreref3_Classes.j22 k x0 x1 x2 x3 x4 x5 x6 x7 x8 x9 x10)
def evermoreref3_Classes.tbl : List (Nat × Tm × (Nat → List Dat → Option ((List Int)))) := [(7, evermoreref3_Classes.t7, evermoreref3_Classes.c7), (15, evermoreref3_Classes.t15, evermoreref3_Classes.c15), (21, evermoreref3_Classes.t21, evermoreref3_Classes.c21), (29, evermoreref3_Classes.t29, evermoreref3_Classes.c29), (44, evermoreref3_Classes.t44, evermoreref3_Classes.c44)]
noncomputable abbrev evermoreref3_Classes.R (k : Nat) := run T (evermoreref3_Classes.env k) Try.f104.ntmps (cutE 0 evermoreref3_Classes.tbl k) (finE 0 evermoreref3_Classes.to evermoreref3_Classes.out) (fnRes Try.f104) [22] 100000 true
theorem evermoreref3_Classes.e7 (k : Nat) (x0 : Int) (x1 : Int) (x2 : Int) (x3 : (List (List Int))) (x4 : (List Int)) (x5 : (List Int)) : evermoreref3_Classes.l3 (k + 1) x0 x1 x2 x3 x4 x5 = evermoreref3_Classes.R k (start (stackOf 7 evermoreref3_Classes.body)) (evermoreref3_Classes.t7.fill [⟨(.int .i64), x0⟩, ⟨(.int .i64), x1⟩, ⟨(.int .i64), x2⟩, ⟨(.slice (.slice (.int .i64))), x3⟩, ⟨(.slice (.int .i64)), x4⟩, ⟨(.slice (.int .i64)), x5⟩]) := by kernel_rfl
theorem evermoreref3_Classes.s7 : stackAt 7 evermoreref3_Classes.body [] = some (stackOf 7 evermoreref3_Classes.body) := by kernel_rfl
theorem evermoreref3_Classes.h7 (k : Nat) (ds : List Dat) (r : (List Int)) (h : evermoreref3_Classes.c7 k ds = some r) : ∃ k', k' < k ∧ ∃ s, stackAt 7 evermoreref3_Classes.body [] = some s ∧ evermoreref3_Classes.R k' (start s) (evermoreref3_Classes.t7.fill ds) = some r := by
  unfold evermoreref3_Classes.c7 at h
  obtain ⟨x0, d0, rfl, h0⟩ := pop_some h
  obtain ⟨x1, d1, rfl, h1⟩ := pop_some h0
  obtain ⟨x2, d2, rfl, h2⟩ := pop_some h1
  obtain ⟨x3, d3, rfl, h3⟩ := pop_some h2
  obtain ⟨x4, d4, rfl, h4⟩ := pop_some h3
  obtain ⟨x5, d5, rfl, h5⟩ := pop_some h4
  obtain ⟨rfl, g⟩ := popN_some h5
  cases k with
  | zero => cases (show none = some r from g)
  | succ k => exact ⟨k, Nat.lt_succ_self k, _, evermoreref3_Classes.s7, (evermoreref3_Classes.e7 k x0 x1 x2 x3 x4 x5).symm.trans g⟩
theorem evermoreref3_Classes.e15 (k : Nat) (x0 : Int) (x1 : Int) (x2 : Int) (x3 : Int) (x4 : Int) (x5 : (List (List Int))) (x6 : (List Int)) (x7 : (List Int)) (x8 : (List Int)) (x9 : (List Int)) : evermoreref3_Classes.l7 (k + 1) x0 x1 x2 x3 x4 x5 x6 x7 x8 x9 = evermoreref3_Classes.R k (start (stackOf 15 evermoreref3_Classes.body)) (evermoreref3_Classes.t15.fill [⟨(.int .i64), x0⟩, ⟨(.int .i64), x1⟩, ⟨(.int .i64), x2⟩, ⟨(.int .i64), x3⟩, ⟨(.int .i64), x4⟩, ⟨(.slice (.slice (.int .i64))), x5⟩, ⟨(.slice (.int .i64)), x6⟩, ⟨(.slice (.int .i64)), x7⟩, ⟨(.slice (.int .i64)), x8⟩, ⟨(.slice (.int .i64)), x9⟩]) := by kernel_rfl
theorem evermoreref3_Classes.s15 : stackAt 15 evermoreref3_Classes.body [] = some (stackOf 15 evermoreref3_Classes.body) := by kernel_rfl
theorem evermoreref3_Classes.h15 (k : Nat) (ds : List Dat) (r : (List Int)) (h : evermoreref3_Classes.c15 k ds = some r) : ∃ k', k' < k ∧ ∃ s, stackAt 15 evermoreref3_Classes.body [] = some s ∧ evermoreref3_Classes.R k' (start s) (evermoreref3_Classes.t15.fill ds) = some r := by
  unfold evermoreref3_Classes.c15 at h
  obtain ⟨x0, d0, rfl, h0⟩ := pop_some h
  obtain ⟨x1, d1, rfl, h1⟩ := pop_some h0
  obtain ⟨x2, d2, rfl, h2⟩ := pop_some h1
  obtain ⟨x3, d3, rfl, h3⟩ := pop_some h2
  obtain ⟨x4, d4, rfl, h4⟩ := pop_some h3
  obtain ⟨x5, d5, rfl, h5⟩ := pop_some h4
  obtain ⟨x6, d6, rfl, h6⟩ := pop_some h5
  obtain ⟨x7, d7, rfl, h7⟩ := pop_some h6
  obtain ⟨x8, d8, rfl, h8⟩ := pop_some h7
  obtain ⟨x9, d9, rfl, h9⟩ := pop_some h8
  obtain ⟨rfl, g⟩ := popN_some h9
  cases k with
  | zero => cases (show none = some r from g)
  | succ k => exact ⟨k, Nat.lt_succ_self k, _, evermoreref3_Classes.s15, (evermoreref3_Classes.e15 k x0 x1 x2 x3 x4 x5 x6 x7 x8 x9).symm.trans g⟩
theorem evermoreref3_Classes.e21 (k : Nat) (x0 : Int) (x1 : Int) (x2 : Int) (x3 : Int) (x4 : Int) (x5 : Int) (x6 : (List (List Int))) (x7 : (List Int)) (x8 : (List Int)) (x9 : (List Int)) (x10 : (List Int)) : evermoreref3_Classes.l10 (k + 1) x0 x1 x2 x3 x4 x5 x6 x7 x8 x9 x10 = evermoreref3_Classes.R k (start (stackOf 21 evermoreref3_Classes.body)) (evermoreref3_Classes.t21.fill [⟨(.int .i64), x0⟩, ⟨(.int .i64), x1⟩, ⟨(.int .i64), x2⟩, ⟨(.int .i64), x3⟩, ⟨(.int .i64), x4⟩, ⟨(.int .i64), x5⟩, ⟨(.slice (.slice (.int .i64))), x6⟩, ⟨(.slice (.int .i64)), x7⟩, ⟨(.slice (.int .i64)), x8⟩, ⟨(.slice (.int .i64)), x9⟩, ⟨(.slice (.int .i64)), x10⟩]) := by kernel_rfl
theorem evermoreref3_Classes.s21 : stackAt 21 evermoreref3_Classes.body [] = some (stackOf 21 evermoreref3_Classes.body) := by kernel_rfl
theorem evermoreref3_Classes.h21 (k : Nat) (ds : List Dat) (r : (List Int)) (h : evermoreref3_Classes.c21 k ds = some r) : ∃ k', k' < k ∧ ∃ s, stackAt 21 evermoreref3_Classes.body [] = some s ∧ evermoreref3_Classes.R k' (start s) (evermoreref3_Classes.t21.fill ds) = some r := by
  unfold evermoreref3_Classes.c21 at h
  obtain ⟨x0, d0, rfl, h0⟩ := pop_some h
  obtain ⟨x1, d1, rfl, h1⟩ := pop_some h0
  obtain ⟨x2, d2, rfl, h2⟩ := pop_some h1
  obtain ⟨x3, d3, rfl, h3⟩ := pop_some h2
  obtain ⟨x4, d4, rfl, h4⟩ := pop_some h3
  obtain ⟨x5, d5, rfl, h5⟩ := pop_some h4
  obtain ⟨x6, d6, rfl, h6⟩ := pop_some h5
  obtain ⟨x7, d7, rfl, h7⟩ := pop_some h6
  obtain ⟨x8, d8, rfl, h8⟩ := pop_some h7
  obtain ⟨x9, d9, rfl, h9⟩ := pop_some h8
  obtain ⟨x10, d10, rfl, h10⟩ := pop_some h9
  obtain ⟨rfl, g⟩ := popN_some h10
  cases k with
  | zero => cases (show none = some r from g)
  | succ k => exact ⟨k, Nat.lt_succ_self k, _, evermoreref3_Classes.s21, (evermoreref3_Classes.e21 k x0 x1 x2 x3 x4 x5 x6 x7 x8 x9 x10).symm.trans g⟩
theorem evermoreref3_Classes.e29 (k : Nat) (x0 : Int) (x1 : Int) (x2 : Int) (x3 : Int) (x4 : Int) (x5 : Bool) (x6 : Int) (x7 : Int) (x8 : Int) (x9 : (List (List Int))) (x10 : (List Int)) (x11 : (List Int)) (x12 : (List Int)) (x13 : (List Int)) : evermoreref3_Classes.l14 (k + 1) x0 x1 x2 x3 x4 x5 x6 x7 x8 x9 x10 x11 x12 x13 = evermoreref3_Classes.R k (start (stackOf 29 evermoreref3_Classes.body)) (evermoreref3_Classes.t29.fill [⟨(.int .i64), x0⟩, ⟨(.int .i64), x1⟩, ⟨(.int .i64), x2⟩, ⟨(.int .i64), x3⟩, ⟨(.int .i64), x4⟩, ⟨.bool, x5⟩, ⟨(.int .i64), x6⟩, ⟨(.int .i64), x7⟩, ⟨(.int .i64), x8⟩, ⟨(.slice (.slice (.int .i64))), x9⟩, ⟨(.slice (.int .i64)), x10⟩, ⟨(.slice (.int .i64)), x11⟩, ⟨(.slice (.int .i64)), x12⟩, ⟨(.slice (.int .i64)), x13⟩]) := by kernel_rfl
theorem evermoreref3_Classes.s29 : stackAt 29 evermoreref3_Classes.body [] = some (stackOf 29 evermoreref3_Classes.body) := by kernel_rfl
theorem evermoreref3_Classes.h29 (k : Nat) (ds : List Dat) (r : (List Int)) (h : evermoreref3_Classes.c29 k ds = some r) : ∃ k', k' < k ∧ ∃ s, stackAt 29 evermoreref3_Classes.body [] = some s ∧ evermoreref3_Classes.R k' (start s) (evermoreref3_Classes.t29.fill ds) = some r := by
  unfold evermoreref3_Classes.c29 at h
  obtain ⟨x0, d0, rfl, h0⟩ := pop_some h
  obtain ⟨x1, d1, rfl, h1⟩ := pop_some h0
  obtain ⟨x2, d2, rfl, h2⟩ := pop_some h1
  obtain ⟨x3, d3, rfl, h3⟩ := pop_some h2
  obtain ⟨x4, d4, rfl, h4⟩ := pop_some h3
  obtain ⟨x5, d5, rfl, h5⟩ := pop_some h4
  obtain ⟨x6, d6, rfl, h6⟩ := pop_some h5
  obtain ⟨x7, d7, rfl, h7⟩ := pop_some h6
  obtain ⟨x8, d8, rfl, h8⟩ := pop_some h7
  obtain ⟨x9, d9, rfl, h9⟩ := pop_some h8
  obtain ⟨x10, d10, rfl, h10⟩ := pop_some h9
  obtain ⟨x11, d11, rfl, h11⟩ := pop_some h10
  obtain ⟨x12, d12, rfl, h12⟩ := pop_some h11
  obtain ⟨x13, d13, rfl, h13⟩ := pop_some h12
  obtain ⟨rfl, g⟩ := popN_some h13
  cases k with
  | zero => cases (show none = some r from g)
  | succ k => exact ⟨k, Nat.lt_succ_self k, _, evermoreref3_Classes.s29, (evermoreref3_Classes.e29 k x0 x1 x2 x3 x4 x5 x6 x7 x8 x9 x10 x11 x12 x13).symm.trans g⟩
theorem evermoreref3_Classes.e44 (k : Nat) (x0 : Int) (x1 : Int) (x2 : Int) (x3 : Int) (x4 : Int) (x5 : Int) (x6 : (List (List Int))) (x7 : (List Int)) (x8 : (List Int)) (x9 : (List Int)) (x10 : (List Int)) : evermoreref3_Classes.j22 (k + 1) x0 x1 x2 x3 x4 x5 x6 x7 x8 x9 x10 = evermoreref3_Classes.R k (start (stackOf 44 evermoreref3_Classes.body)) (evermoreref3_Classes.t44.fill [⟨(.int .i64), x0⟩, ⟨(.int .i64), x1⟩, ⟨(.int .i64), x2⟩, ⟨(.int .i64), x3⟩, ⟨(.int .i64), x4⟩, ⟨(.int .i64), x5⟩, ⟨(.slice (.slice (.int .i64))), x6⟩, ⟨(.slice (.int .i64)), x7⟩, ⟨(.slice (.int .i64)), x8⟩, ⟨(.slice (.int .i64)), x9⟩, ⟨(.slice (.int .i64)), x10⟩]) := by kernel_rfl
theorem evermoreref3_Classes.s44 : stackAt 44 evermoreref3_Classes.body [] = some (stackOf 44 evermoreref3_Classes.body) := by kernel_rfl
theorem evermoreref3_Classes.h44 (k : Nat) (ds : List Dat) (r : (List Int)) (h : evermoreref3_Classes.c44 k ds = some r) : ∃ k', k' < k ∧ ∃ s, stackAt 44 evermoreref3_Classes.body [] = some s ∧ evermoreref3_Classes.R k' (start s) (evermoreref3_Classes.t44.fill ds) = some r := by
  unfold evermoreref3_Classes.c44 at h
  obtain ⟨x0, d0, rfl, h0⟩ := pop_some h
  obtain ⟨x1, d1, rfl, h1⟩ := pop_some h0
  obtain ⟨x2, d2, rfl, h2⟩ := pop_some h1
  obtain ⟨x3, d3, rfl, h3⟩ := pop_some h2
  obtain ⟨x4, d4, rfl, h4⟩ := pop_some h3
  obtain ⟨x5, d5, rfl, h5⟩ := pop_some h4
  obtain ⟨x6, d6, rfl, h6⟩ := pop_some h5
  obtain ⟨x7, d7, rfl, h7⟩ := pop_some h6
  obtain ⟨x8, d8, rfl, h8⟩ := pop_some h7
  obtain ⟨x9, d9, rfl, h9⟩ := pop_some h8
  obtain ⟨x10, d10, rfl, h10⟩ := pop_some h9
  obtain ⟨rfl, g⟩ := popN_some h10
  cases k with
  | zero => cases (show none = some r from g)
  | succ k => exact ⟨k, Nat.lt_succ_self k, _, evermoreref3_Classes.s44, (evermoreref3_Classes.e44 k x0 x1 x2 x3 x4 x5 x6 x7 x8 x9 x10).symm.trans g⟩
theorem evermoreref3_Classes.e (k : Nat) (x0 : (Int × (Int × ((List (List Int)) × ((List Int) × Unit))))) : evermoreref3_Classes.f k x0 = evermoreref3_Classes.R k ([.code evermoreref3_Classes.body]) (evermoreref3_Classes.ti.fill [⟨(.pair (.int .i64) (.pair (.int .i64) (.pair (.slice (.slice (.int .i64))) (.pair (.slice (.int .i64)) .unit)))), x0⟩]) := by kernel_rfl
theorem evermoreref3_Classes.h (k : Nat) (ds : List Dat) (r : (List Int)) (h : evermoreref3_Classes.g k ds = some r) : ∃ k', k' < k ∧ evermoreref3_Classes.R k' ([.code evermoreref3_Classes.body]) (evermoreref3_Classes.ti.fill ds) = some r := by
  cases k with
  | zero => cases (show none = some r from h)
  | succ k =>
  replace h : evermoreref3_Classes.c k ds = some r := h
  unfold evermoreref3_Classes.c at h
  obtain ⟨x0, d0, rfl, h0⟩ := pop_some h
  obtain ⟨rfl, g⟩ := popN_some h0
  exact ⟨k, Nat.lt_succ_self k, (evermoreref3_Classes.e k x0).symm.trans g⟩
theorem evermoreref3_Classes.o (ds : List Dat) (r : (List Int)) (h : evermoreref3_Classes.out ds = some r) : ds = evermoreref3_Classes.rs r := by
  unfold evermoreref3_Classes.out at h
  obtain ⟨x0, d0, rfl, h0⟩ := pop_some h
  obtain ⟨rfl, g⟩ := popN_some h0
  cases g
  rfl
theorem evermoreref3_Classes.fn : FnOk Try.prog 104 Try.f104 evermoreref3_Classes.body Try.f104.ntmps 1 (fnRes Try.f104) :=
  fnOk_of (by kernel_rfl) (by kernel_rfl) (by kernel_rfl) (by kernel_rfl)
theorem evermoreref3_Classes.con' : ∀ k ds r, evermoreref3_Classes.g k ds = some r → Con Try.prog 104 1 evermoreref3_Classes.ti evermoreref3_Classes.to ds (evermoreref3_Classes.rs r) :=
  fun_ok (T := T) T_ok mixed evermoreref3_Classes.fn (env := evermoreref3_Classes.env) (tbl := evermoreref3_Classes.tbl) (gOut := evermoreref3_Classes.out) (nin := 0) (cuts := [22]) (fuel := 100000) rfl (by kernel_rfl) (by kernel_rfl) (by kernel_rfl) (fun x hx => by
    simp only [evermoreref3_Classes.tbl, List.mem_cons, List.not_mem_nil, or_false] at hx
    rcases hx with rfl | rfl | rfl | rfl | rfl
    · exact evermoreref3_Classes.h7
    · exact evermoreref3_Classes.h15
    · exact evermoreref3_Classes.h21
    · exact evermoreref3_Classes.h29
    · exact evermoreref3_Classes.h44
) evermoreref3_Classes.o evermoreref3_Classes.h (fun k _ => by unfold evermoreref3_Classes.env; exact env0_ok)
theorem evermoreref3_Classes.con (k : Nat) {x0 : (Int × (Int × ((List (List Int)) × ((List Int) × Unit))))} (r : (List Int)) (h : evermoreref3_Classes.f k x0 = some r) : Con Try.prog 104 1 evermoreref3_Classes.ti evermoreref3_Classes.to [⟨(.pair (.int .i64) (.pair (.int .i64) (.pair (.slice (.slice (.int .i64))) (.pair (.slice (.int .i64)) .unit)))), x0⟩] (evermoreref3_Classes.rs r) :=
  evermoreref3_Classes.con' (k + 1) _ r (by show evermoreref3_Classes.c k _ = some r; unfold evermoreref3_Classes.c; simp only [pop_self, popN]; exact h)
mutual
def evermoreref3_Least.l4 : Nat → Int → Int → Int → List (List (Int)) → List (Int) → Int → Int → List (Int) → List (Int) → List (List (Int)) → List (Int) → Option (Int × Int × List (List Int) × List Int)
 | 0, _, _, _, _, _, _, _, _, _, _, _ => none
 | k + 1, i5, d1_0, d1_1, d1_2, d1_3, x2_0, x2_1, class3, number4, c4, c5 =>
  if i5 < (↑number4.length : Int) then
   if 0 ≤ i5 then
   if i5 < (↑number4.length : Int) then
    evermoreref3_Least.l4 k (Go.IntKind.i64.wrap (i5 + 1)) d1_0 d1_1 d1_2 d1_3 x2_0 x2_1 class3 (number4.set i5.toNat (Int.instNegInt.1 1)) c4 c5
    else none
   else none
  else
   if 0 ≤ d1_1 then
   if d1_1 < (↑class3.length : Int) then
    if 0 ≤ class3.getD d1_1.toNat (Int.ofNat 0) then
     if class3.getD d1_1.toNat (Int.ofNat 0) < (↑number4.length : Int) then
      evermoreref3_Least.l11 k 0 d1_0 d1_1 d1_2 d1_3 x2_0 x2_1 class3 (number4.set (class3.getD d1_1.toNat (Int.ofNat 0)).toNat (Int.ofNat 0)) [d1_1] d1_0 0 c4 c5 [] []
      else none
     else none
    else none
   else none
def evermoreref3_Least.l11 : Nat → Int → Int → Int → List (List (Int)) → List (Int) → Int → Int → List (Int) → List (Int) → List (Int) → Int → Int → List (List (Int)) → List (Int) → List (List (Int)) → List (Int) → Option (Int × Int × List (List Int) × List Int)
 | 0, _, _, _, _, _, _, _, _, _, _, _, _, _, _, _, _ => none
 | k + 1, i8, d1_0, d1_1, d1_2, d1_3, x2_0, x2_1, class3, number4, row6, out7_0, out7_1, c6, c7, c8, c9 =>
  if i8 < (↑row6.length : Int) then
   if 0 ≤ d1_0 then
   if d1_0 ≤ d1_0 then
    if d1_0 * ((↑8 : Int) + 1) ≤ 1099511627776 then
     evermoreref3_Least.l15 k i8 0 d1_0 d1_1 d1_2 d1_3 x2_0 x2_1 class3 number4 row6 out7_0 out7_1 (List.replicate d1_0.toNat (Int.ofNat 0)) c6 c7 c8 c9
     else none
    else none
   else none
  else
   some (out7_0, out7_1, c8, c9)
def evermoreref3_Least.l15 : Nat → Int → Int → Int → Int → List (List (Int)) → List (Int) → Int → Int → List (Int) → List (Int) → List (Int) → Int → Int → List (Int) → List (List (Int)) → List (Int) → List (List (Int)) → List (Int) → Option (Int × Int × List (List Int) × List Int)
 | 0, _, _, _, _, _, _, _, _, _, _, _, _, _, _, _, _, _, _ => none
 | k + 1, i8, a10, d1_0, d1_1, d1_2, d1_3, x2_0, x2_1, class3, number4, row6, out7_0, out7_1, next9, c7, c8, c9, c10 =>
  if a10 < d1_0 then
   if 0 ≤ i8 then
   if i8 < (↑row6.length : Int) then
    if 0 ≤ row6.getD i8.toNat (Int.ofNat 0) then
     if row6.getD i8.toNat (Int.ofNat 0) < (↑d1_2.length : Int) then
      if 0 ≤ a10 then
       if a10 < (↑(Go.Proofs.YtiiioobebeaafaaSx.rd [] d1_2 (row6.getD i8.toNat (Int.ofNat 0))).length : Int) then
        if 0 ≤ Go.Proofs.YtiiioobebeaafaaSx.rd (Int.ofNat 0) (Go.Proofs.YtiiioobebeaafaaSx.rd [] d1_2 (row6.getD i8.toNat (Int.ofNat 0))) a10 then
         if Go.Proofs.YtiiioobebeaafaaSx.rd (Int.ofNat 0) (Go.Proofs.YtiiioobebeaafaaSx.rd [] d1_2 (row6.getD i8.toNat (Int.ofNat 0))) a10 < (↑class3.length : Int) then
          if 0 ≤ class3.getD (Go.Proofs.YtiiioobebeaafaaSx.rd (Int.ofNat 0) (Go.Proofs.YtiiioobebeaafaaSx.rd [] d1_2 (row6.getD i8.toNat (Int.ofNat 0))) a10).toNat (Int.ofNat 0) then
           if class3.getD (Go.Proofs.YtiiioobebeaafaaSx.rd (Int.ofNat 0) (Go.Proofs.YtiiioobebeaafaaSx.rd [] d1_2 (row6.getD i8.toNat (Int.ofNat 0))) a10).toNat (Int.ofNat 0) < (↑number4.length : Int) then
            if number4.getD (class3.getD (Go.Proofs.YtiiioobebeaafaaSx.rd (Int.ofNat 0) (Go.Proofs.YtiiioobebeaafaaSx.rd [] d1_2 (row6.getD i8.toNat (Int.ofNat 0))) a10).toNat (Int.ofNat 0)).toNat (Int.ofNat 0) < 0 then
              if 0 ≤ Go.Proofs.YtiiioobebeaafaaSx.rd (Int.ofNat 0) (Go.Proofs.YtiiioobebeaafaaSx.rd [] d1_2 (row6.getD i8.toNat (Int.ofNat 0))) a10 then
              if Go.Proofs.YtiiioobebeaafaaSx.rd (Int.ofNat 0) (Go.Proofs.YtiiioobebeaafaaSx.rd [] d1_2 (row6.getD i8.toNat (Int.ofNat 0))) a10 < (↑class3.length : Int) then
               if 0 ≤ class3.getD (Go.Proofs.YtiiioobebeaafaaSx.rd (Int.ofNat 0) (Go.Proofs.YtiiioobebeaafaaSx.rd [] d1_2 (row6.getD i8.toNat (Int.ofNat 0))) a10).toNat (Int.ofNat 0) then
                if class3.getD (Go.Proofs.YtiiioobebeaafaaSx.rd (Int.ofNat 0) (Go.Proofs.YtiiioobebeaafaaSx.rd [] d1_2 (row6.getD i8.toNat (Int.ofNat 0))) a10).toNat (Int.ofNat 0) < (↑number4.length : Int) then
                 if (row6 ++ [Go.Proofs.YtiiioobebeaafaaSx.rd (Int.ofNat 0) (Go.Proofs.YtiiioobebeaafaaSx.rd [] d1_2 (row6.getD i8.toNat (Int.ofNat 0))) a10]).length.blt 1000000000 = true then
                  evermoreref3_Least.j21 k i8 a10 (Go.Proofs.YtiiioobebeaafaaSx.rd (Int.ofNat 0) (Go.Proofs.YtiiioobebeaafaaSx.rd [] d1_2 (row6.getD i8.toNat (Int.ofNat 0))) a10) d1_0 d1_1 d1_2 d1_3 x2_0 x2_1 class3 (number4.set (class3.getD (Go.Proofs.YtiiioobebeaafaaSx.rd (Int.ofNat 0) (Go.Proofs.YtiiioobebeaafaaSx.rd [] d1_2 (row6.getD i8.toNat (Int.ofNat 0))) a10).toNat (Int.ofNat 0)).toNat (↑row6.length : Int)) (row6 ++ [Go.Proofs.YtiiioobebeaafaaSx.rd (Int.ofNat 0) (Go.Proofs.YtiiioobebeaafaaSx.rd [] d1_2 (row6.getD i8.toNat (Int.ofNat 0))) a10]) out7_0 out7_1 next9 c7 c8 c9 c10
                  else none
                 else none
                else none
               else none
              else none
             else
              evermoreref3_Least.j21 k i8 a10 (Go.Proofs.YtiiioobebeaafaaSx.rd (Int.ofNat 0) (Go.Proofs.YtiiioobebeaafaaSx.rd [] d1_2 (row6.getD i8.toNat (Int.ofNat 0))) a10) d1_0 d1_1 d1_2 d1_3 x2_0 x2_1 class3 number4 row6 out7_0 out7_1 next9 c7 c8 c9 c10
            else none
           else none
          else none
         else none
        else none
       else none
      else none
     else none
    else none
   else none
  else
   if (c9 ++ [next9]).length.blt 1000000000 = true then
   if 0 ≤ i8 then
    if i8 < (↑row6.length : Int) then
     if 0 ≤ row6.getD i8.toNat (Int.ofNat 0) then
      if row6.getD i8.toNat (Int.ofNat 0) < (↑d1_3.length : Int) then
       if (c10 ++ [Go.Proofs.YtiiioobebeaafaaSx.rd (Int.ofNat 0) d1_3 (row6.getD i8.toNat (Int.ofNat 0))]).length.blt 1000000000 = true then
        evermoreref3_Least.l11 k (Go.IntKind.i64.wrap (i8 + 1)) d1_0 d1_1 d1_2 d1_3 x2_0 x2_1 class3 number4 row6 out7_0 out7_1 c7 c8 (c9 ++ [next9]) (c10 ++ [Go.Proofs.YtiiioobebeaafaaSx.rd (Int.ofNat 0) d1_3 (row6.getD i8.toNat (Int.ofNat 0))])
        else none
       else none
      else none
     else none
    else none
   else none
def evermoreref3_Least.j21 : Nat → Int → Int → Int → Int → Int → List (List (Int)) → List (Int) → Int → Int → List (Int) → List (Int) → List (Int) → Int → Int → List (Int) → List (List (Int)) → List (Int) → List (List (Int)) → List (Int) → Option (Int × Int × List (List Int) × List Int)
 | 0, _, _, _, _, _, _, _, _, _, _, _, _, _, _, _, _, _, _, _ => none
 | k + 1, i8, a10, q11, d1_0, d1_1, d1_2, d1_3, x2_0, x2_1, class3, number4, row6, out7_0, out7_1, next9, c7, c8, c9, c10 =>
  if 0 ≤ q11 then
  if q11 < (↑class3.length : Int) then
   if 0 ≤ class3.getD q11.toNat (Int.ofNat 0) then
    if class3.getD q11.toNat (Int.ofNat 0) < (↑number4.length : Int) then
     if 0 ≤ a10 then
      if a10 < (↑next9.length : Int) then
       evermoreref3_Least.l15 k i8 (Go.IntKind.i64.wrap (a10 + 1)) d1_0 d1_1 d1_2 d1_3 x2_0 x2_1 class3 number4 row6 out7_0 out7_1 (next9.set a10.toNat (number4.getD (class3.getD q11.toNat (Int.ofNat 0)).toNat (Int.ofNat 0))) c7 c8 c9 c10
       else none
      else none
     else none
    else none
   else none
  else none
end
def evermoreref3_Least.f (k : Nat) (d0 : (Int × (Int × (List (List (Int)) × (List (Int) × Unit))))) : Option (Int × Int × List (List Int) × List Int) :=
 (evermoreref3_Classes.f k (d0.fst, d0.snd.fst, d0.snd.snd.fst, d0.snd.snd.snd.fst, ())).bind fun r1 =>
  if 0 ≤ (↑r1.length : Int) then
  if (↑r1.length : Int) ≤ (↑r1.length : Int) then
   if (↑r1.length : Int) * ((↑8 : Int) + 1) ≤ 1099511627776 then
    evermoreref3_Least.l4 k 0 d0.fst d0.snd.fst d0.snd.snd.fst d0.snd.snd.snd.fst 0 0 r1 (List.replicate (↑r1.length : Int).toNat (Int.ofNat 0)) [] []
    else none
   else none
  else none

noncomputable def evermoreref3_Least.body : Code := fnBody Try.f46
def evermoreref3_Least.ti : Tm := ⟨[(0, .p (.pair (.int .i64) (.pair (.int .i64) (.pair (.slice (.slice (.int .i64))) (.pair (.slice (.int .i64)) .unit)))))], []⟩
def evermoreref3_Least.to : Tm := ⟨[(0, .agg [.p (.int .i64), .p (.int .i64), .own 0, .own 1])], [.own (.slice (.int .i64)), .own (.int .i64)]⟩
def evermoreref3_Least.rs (r : Int × Int × (List (List Int)) × (List Int)) : List Dat := [⟨(.int .i64), r.1⟩, ⟨(.int .i64), r.2.1⟩, ⟨(.slice (.slice (.int .i64))), r.2.2.1⟩, ⟨(.slice (.int .i64)), r.2.2.2⟩]
def evermoreref3_Least.out (ds : List Dat) : Option (Int × Int × (List (List Int)) × (List Int)) := pop (.int .i64) ds fun x0 ds => pop (.int .i64) ds fun x1 ds => pop (.slice (.slice (.int .i64))) ds fun x2 ds => pop (.slice (.int .i64)) ds fun x3 ds => popN ds (some (x0, x1, x2, x3))
def evermoreref3_Least.c (k : Nat) (ds : List Dat) : Option (Int × Int × (List (List Int)) × (List Int)) := pop (.pair (.int .i64) (.pair (.int .i64) (.pair (.slice (.slice (.int .i64))) (.pair (.slice (.int .i64)) .unit)))) ds fun x0 ds => popN ds (evermoreref3_Least.f k x0)
def evermoreref3_Least.g : Nat → List Dat → Option (Int × Int × (List (List Int)) × (List Int))
 | 0, _ => none
 | k + 1, ds => evermoreref3_Least.c k ds
def evermoreref3_Least.env (k : Nat) : Nat → List SV → List Chunk → KT (Int × Int × (List (List Int)) × (List Int)) → Option (Int × Int × (List (List Int)) × (List Int)) := (envC 104 1 evermoreref3_Classes.ti evermoreref3_Classes.to (fun ds K => pop (.pair (.int .i64) (.pair (.int .i64) (.pair (.slice (.slice (.int .i64))) (.pair (.slice (.int .i64)) .unit)))) ds fun x0 ds => popN ds ((evermoreref3_Classes.f k x0).bind fun r => K (evermoreref3_Classes.rs r))) env0)
def evermoreref3_Least.t9 : Tm := ⟨[(1, .ptr 0 0), (2, .ptr 1 0), (3, .own 2), (4, .own 3), (5, .p (.int .i64))], [.box [.p (.int .i64), .p (.int .i64), .p (.slice (.slice (.int .i64))), .p (.slice (.int .i64))] 58, .box [.p (.int .i64), .p (.int .i64), .own 4, .own 5] 58, .own (.int .i64), .own (.int .i64), .own (.slice (.int .i64)), .own (.int .i64)]⟩
def evermoreref3_Least.c9 (k : Nat) (ds : List Dat) : Option (Int × Int × (List (List Int)) × (List Int)) := pop (.int .i64) ds fun x0 ds => pop (.int .i64) ds fun x1 ds => pop (.int .i64) ds fun x2 ds => pop (.slice (.slice (.int .i64))) ds fun x3 ds => pop (.slice (.int .i64)) ds fun x4 ds => pop (.int .i64) ds fun x5 ds => pop (.int .i64) ds fun x6 ds => pop (.slice (.int .i64)) ds fun x7 ds => pop (.slice (.int .i64)) ds fun x8 ds => pop (.slice (.slice (.int .i64))) ds fun x9 ds => pop (.slice (.int .i64)) ds fun x10 ds => popN ds (evermoreref3_Least.l4 k x0 x1 x2 x3 x4 x5 x6 x7 x8 x9 x10)
def evermoreref3_Least.t23 : Tm := ⟨[(1, .ptr 0 0), (2, .ptr 1 0), (3, .own 2), (4, .own 3), (6, .own 4), (7, .ptr 5 0), (8, .p (.int .i64))], [.box [.p (.int .i64), .p (.int .i64), .p (.slice (.slice (.int .i64))), .p (.slice (.int .i64))] 58, .box [.p (.int .i64), .p (.int .i64), .own 6, .own 7] 58, .own (.int .i64), .own (.int .i64), .own (.int .i64), .box [.p (.int .i64), .p (.int .i64), .own 8, .own 9] 58, .own (.slice (.int .i64)), .own (.int .i64), .own (.slice (.int .i64)), .own (.int .i64)]⟩
def evermoreref3_Least.c23 (k : Nat) (ds : List Dat) : Option (Int × Int × (List (List Int)) × (List Int)) := pop (.int .i64) ds fun x0 ds => pop (.int .i64) ds fun x1 ds => pop (.int .i64) ds fun x2 ds => pop (.slice (.slice (.int .i64))) ds fun x3 ds => pop (.slice (.int .i64)) ds fun x4 ds => pop (.int .i64) ds fun x5 ds => pop (.int .i64) ds fun x6 ds => pop (.slice (.int .i64)) ds fun x7 ds => pop (.slice (.int .i64)) ds fun x8 ds => pop (.slice (.int .i64)) ds fun x9 ds => pop (.int .i64) ds fun x10 ds => pop (.int .i64) ds fun x11 ds => pop (.slice (.slice (.int .i64))) ds fun x12 ds => pop (.slice (.int .i64)) ds fun x13 ds => pop (.slice (.slice (.int .i64))) ds fun x14 ds => pop (.slice (.int .i64)) ds fun x15 ds => popN ds (evermoreref3_Least.l11 k x0 x1 x2 x3 x4 x5 x6 x7 x8 x9 x10 x11 x12 x13 x14 x15)
def evermoreref3_Least.t31 : Tm := ⟨[(1, .ptr 0 0), (2, .ptr 1 0), (3, .own 2), (4, .own 3), (6, .own 4), (7, .ptr 5 0), (8, .p (.int .i64)), (9, .own 6), (10, .p (.int .i64))], [.box [.p (.int .i64), .p (.int .i64), .p (.slice (.slice (.int .i64))), .p (.slice (.int .i64))] 58, .box [.p (.int .i64), .p (.int .i64), .own 7, .own 8] 58, .own (.int .i64), .own (.int .i64), .own (.int .i64), .box [.p (.int .i64), .p (.int .i64), .own 9, .own 10] 58, .own (.int .i64), .own (.slice (.int .i64)), .own (.int .i64), .own (.slice (.int .i64)), .own (.int .i64)]⟩
def evermoreref3_Least.c31 (k : Nat) (ds : List Dat) : Option (Int × Int × (List (List Int)) × (List Int)) := pop (.int .i64) ds fun x0 ds => pop (.int .i64) ds fun x1 ds => pop (.int .i64) ds fun x2 ds => pop (.int .i64) ds fun x3 ds => pop (.slice (.slice (.int .i64))) ds fun x4 ds => pop (.slice (.int .i64)) ds fun x5 ds => pop (.int .i64) ds fun x6 ds => pop (.int .i64) ds fun x7 ds => pop (.slice (.int .i64)) ds fun x8 ds => pop (.slice (.int .i64)) ds fun x9 ds => pop (.slice (.int .i64)) ds fun x10 ds => pop (.int .i64) ds fun x11 ds => pop (.int .i64) ds fun x12 ds => pop (.slice (.int .i64)) ds fun x13 ds => pop (.slice (.slice (.int .i64))) ds fun x14 ds => pop (.slice (.int .i64)) ds fun x15 ds => pop (.slice (.slice (.int .i64))) ds fun x16 ds => pop (.slice (.int .i64)) ds fun x17 ds => popN ds (evermoreref3_Least.l15 k x0 x1 x2 x3 x4 x5 x6 x7 x8 x9 x10 x11 x12 x13 x14 x15 x16 x17)
def evermoreref3_Least.t42 : Tm := ⟨[(1, .ptr 0 0), (2, .ptr 1 0), (3, .own 2), (4, .own 3), (6, .own 4), (7, .ptr 5 0), (8, .p (.int .i64)), (9, .own 6), (10, .p (.int .i64)), (11, .p (.int .i64))], [.box [.p (.int .i64), .p (.int .i64), .p (.slice (.slice (.int .i64))), .p (.slice (.int .i64))] 58, .box [.p (.int .i64), .p (.int .i64), .own 7, .own 8] 58, .own (.int .i64), .own (.int .i64), .own (.int .i64), .box [.p (.int .i64), .p (.int .i64), .own 9, .own 10] 58, .own (.int .i64), .own (.slice (.int .i64)), .own (.int .i64), .own (.slice (.int .i64)), .own (.int .i64)]⟩
def evermoreref3_Least.c42 (k : Nat) (ds : List Dat) : Option (Int × Int × (List (List Int)) × (List Int)) := pop (.int .i64) ds fun x0 ds => pop (.int .i64) ds fun x1 ds => pop (.int .i64) ds fun x2 ds => pop (.int .i64) ds fun x3 ds => pop (.int .i64) ds fun x4 ds => pop (.slice (.slice (.int .i64))) ds fun x5 ds => pop (.slice (.int .i64)) ds fun x6 ds => pop (.int .i64) ds fun x7 ds => pop (.int .i64) ds fun x8 ds => pop (.slice (.int .i64)) ds fun x9 ds => pop (.slice (.int .i64)) ds fun x10 ds => pop (.slice (.int .i64)) ds fun x11 ds => pop (.int .i64) ds fun x12 ds => pop (.int .i64) ds fun x13 ds => pop (.slice (.int .i64)) ds fun x14 ds => pop (.slice (.slice (.int .i64))) ds fun x15 ds => pop (.slice (.int .i64)) ds fun x16 ds => pop (.slice (.slice (.int .i64))) ds fun x17 ds => pop (.slice (.int .i64)) ds fun x18 ds => popN ds (evermoreref3_Least.j21 k x0 x1 x2 x3 x4 x5 x6 x7 x8 x9 x10 x11 x12 x13 x14 x15 x16 x17 x18)
def evermoreref3_Least.tbl : List (Nat × Tm × (Nat → List Dat → Option (Int × Int × (List (List Int)) × (List Int)))) := [(9, evermoreref3_Least.t9, evermoreref3_Least.c9), (23, evermoreref3_Least.t23, evermoreref3_Least.c23), (31, evermoreref3_Least.t31, evermoreref3_Least.c31), (42, evermoreref3_Least.t42, evermoreref3_Least.c42)]
noncomputable abbrev evermoreref3_Least.R (k : Nat) := run T (evermoreref3_Least.env k) Try.f46.ntmps (cutE 0 evermoreref3_Least.tbl k) (finE 0 evermoreref3_Least.to evermoreref3_Least.out) (fnRes Try.f46) [21] 100000 true
theorem evermoreref3_Least.e9 (k : Nat) (x0 : Int) (x1 : Int) (x2 : Int) (x3 : (List (List Int))) (x4 : (List Int)) (x5 : Int) (x6 : Int) (x7 : (List Int)) (x8 : (List Int)) (x9 : (List (List Int))) (x10 : (List Int)) : evermoreref3_Least.l4 (k + 1) x0 x1 x2 x3 x4 x5 x6 x7 x8 x9 x10 = evermoreref3_Least.R k (start (stackOf 9 evermoreref3_Least.body)) (evermoreref3_Least.t9.fill [⟨(.int .i64), x0⟩, ⟨(.int .i64), x1⟩, ⟨(.int .i64), x2⟩, ⟨(.slice (.slice (.int .i64))), x3⟩, ⟨(.slice (.int .i64)), x4⟩, ⟨(.int .i64), x5⟩, ⟨(.int .i64), x6⟩, ⟨(.slice (.int .i64)), x7⟩, ⟨(.slice (.int .i64)), x8⟩, ⟨(.slice (.slice (.int .i64))), x9⟩, ⟨(.slice (.int .i64)), x10⟩]) := by kernel_rfl
theorem evermoreref3_Least.s9 : stackAt 9 evermoreref3_Least.body [] = some (stackOf 9 evermoreref3_Least.body) := by kernel_rfl
theorem evermoreref3_Least.h9 (k : Nat) (ds : List Dat) (r : Int × Int × (List (List Int)) × (List Int)) (h : evermoreref3_Least.c9 k ds = some r) : ∃ k', k' < k ∧ ∃ s, stackAt 9 evermoreref3_Least.body [] = some s ∧ evermoreref3_Least.R k' (start s) (evermoreref3_Least.t9.fill ds) = some r := by
  unfold evermoreref3_Least.c9 at h
  obtain ⟨x0, d0, rfl, h0⟩ := pop_some h
  obtain ⟨x1, d1, rfl, h1⟩ := pop_some h0
  obtain ⟨x2, d2, rfl, h2⟩ := pop_some h1
  obtain ⟨x3, d3, rfl, h3⟩ := pop_some h2
  obtain ⟨x4, d4, rfl, h4⟩ := pop_some h3
  obtain ⟨x5, d5, rfl, h5⟩ := pop_some h4
  obtain ⟨x6, d6, rfl, h6⟩ := pop_some h5
  obtain ⟨x7, d7, rfl, h7⟩ := pop_some h6
  obtain ⟨x8, d8, rfl, h8⟩ := pop_some h7
  obtain ⟨x9, d9, rfl, h9⟩ := pop_some h8
  obtain ⟨x10, d10, rfl, h10⟩ := pop_some h9
  obtain ⟨rfl, g⟩ := popN_some h10
  cases k with
  | zero => cases (show none = some r from g)
  | succ k => exact ⟨k, Nat.lt_succ_self k, _, evermoreref3_Least.s9, (evermoreref3_Least.e9 k x0 x1 x2 x3 x4 x5 x6 x7 x8 x9 x10).symm.trans g⟩
theorem evermoreref3_Least.e23 (k : Nat) (x0 : Int) (x1 : Int) (x2 : Int) (x3 : (List (List Int))) (x4 : (List Int)) (x5 : Int) (x6 : Int) (x7 : (List Int)) (x8 : (List Int)) (x9 : (List Int)) (x10 : Int) (x11 : Int) (x12 : (List (List Int))) (x13 : (List Int)) (x14 : (List (List Int))) (x15 : (List Int)) : evermoreref3_Least.l11 (k + 1) x0 x1 x2 x3 x4 x5 x6 x7 x8 x9 x10 x11 x12 x13 x14 x15 = evermoreref3_Least.R k (start (stackOf 23 evermoreref3_Least.body)) (evermoreref3_Least.t23.fill [⟨(.int .i64), x0⟩, ⟨(.int .i64), x1⟩, ⟨(.int .i64), x2⟩, ⟨(.slice (.slice (.int .i64))), x3⟩, ⟨(.slice (.int .i64)), x4⟩, ⟨(.int .i64), x5⟩, ⟨(.int .i64), x6⟩, ⟨(.slice (.int .i64)), x7⟩, ⟨(.slice (.int .i64)), x8⟩, ⟨(.slice (.int .i64)), x9⟩, ⟨(.int .i64), x10⟩, ⟨(.int .i64), x11⟩, ⟨(.slice (.slice (.int .i64))), x12⟩, ⟨(.slice (.int .i64)), x13⟩, ⟨(.slice (.slice (.int .i64))), x14⟩, ⟨(.slice (.int .i64)), x15⟩]) := by kernel_rfl
theorem evermoreref3_Least.s23 : stackAt 23 evermoreref3_Least.body [] = some (stackOf 23 evermoreref3_Least.body) := by kernel_rfl
theorem evermoreref3_Least.h23 (k : Nat) (ds : List Dat) (r : Int × Int × (List (List Int)) × (List Int)) (h : evermoreref3_Least.c23 k ds = some r) : ∃ k', k' < k ∧ ∃ s, stackAt 23 evermoreref3_Least.body [] = some s ∧ evermoreref3_Least.R k' (start s) (evermoreref3_Least.t23.fill ds) = some r := by
  unfold evermoreref3_Least.c23 at h
  obtain ⟨x0, d0, rfl, h0⟩ := pop_some h
  obtain ⟨x1, d1, rfl, h1⟩ := pop_some h0
  obtain ⟨x2, d2, rfl, h2⟩ := pop_some h1
  obtain ⟨x3, d3, rfl, h3⟩ := pop_some h2
  obtain ⟨x4, d4, rfl, h4⟩ := pop_some h3
  obtain ⟨x5, d5, rfl, h5⟩ := pop_some h4
  obtain ⟨x6, d6, rfl, h6⟩ := pop_some h5
  obtain ⟨x7, d7, rfl, h7⟩ := pop_some h6
  obtain ⟨x8, d8, rfl, h8⟩ := pop_some h7
  obtain ⟨x9, d9, rfl, h9⟩ := pop_some h8
  obtain ⟨x10, d10, rfl, h10⟩ := pop_some h9
  obtain ⟨x11, d11, rfl, h11⟩ := pop_some h10
  obtain ⟨x12, d12, rfl, h12⟩ := pop_some h11
  obtain ⟨x13, d13, rfl, h13⟩ := pop_some h12
  obtain ⟨x14, d14, rfl, h14⟩ := pop_some h13
  obtain ⟨x15, d15, rfl, h15⟩ := pop_some h14
  obtain ⟨rfl, g⟩ := popN_some h15
  cases k with
  | zero => cases (show none = some r from g)
  | succ k => exact ⟨k, Nat.lt_succ_self k, _, evermoreref3_Least.s23, (evermoreref3_Least.e23 k x0 x1 x2 x3 x4 x5 x6 x7 x8 x9 x10 x11 x12 x13 x14 x15).symm.trans g⟩
theorem evermoreref3_Least.e31 (k : Nat) (x0 : Int) (x1 : Int) (x2 : Int) (x3 : Int) (x4 : (List (List Int))) (x5 : (List Int)) (x6 : Int) (x7 : Int) (x8 : (List Int)) (x9 : (List Int)) (x10 : (List Int)) (x11 : Int) (x12 : Int) (x13 : (List Int)) (x14 : (List (List Int))) (x15 : (List Int)) (x16 : (List (List Int))) (x17 : (List Int)) : evermoreref3_Least.l15 (k + 1) x0 x1 x2 x3 x4 x5 x6 x7 x8 x9 x10 x11 x12 x13 x14 x15 x16 x17 = evermoreref3_Least.R k (start (stackOf 31 evermoreref3_Least.body)) (evermoreref3_Least.t31.fill [⟨(.int .i64), x0⟩, ⟨(.int .i64), x1⟩, ⟨(.int .i64), x2⟩, ⟨(.int .i64), x3⟩, ⟨(.slice (.slice (.int .i64))), x4⟩, ⟨(.slice (.int .i64)), x5⟩, ⟨(.int .i64), x6⟩, ⟨(.int .i64), x7⟩, ⟨(.slice (.int .i64)), x8⟩, ⟨(.slice (.int .i64)), x9⟩, ⟨(.slice (.int .i64)), x10⟩, ⟨(.int .i64), x11⟩, ⟨(.int .i64), x12⟩, ⟨(.slice (.int .i64)), x13⟩, ⟨(.slice (.slice (.int .i64))), x14⟩, ⟨(.slice (.int .i64)), x15⟩, ⟨(.slice (.slice (.int .i64))), x16⟩, ⟨(.slice (.int .i64)), x17⟩]) := by kernel_rfl
theorem evermoreref3_Least.s31 : stackAt 31 evermoreref3_Least.body [] = some (stackOf 31 evermoreref3_Least.body) := by kernel_rfl
theorem evermoreref3_Least.h31 (k : Nat) (ds : List Dat) (r : Int × Int × (List (List Int)) × (List Int)) (h : evermoreref3_Least.c31 k ds = some r) : ∃ k', k' < k ∧ ∃ s, stackAt 31 evermoreref3_Least.body [] = some s ∧ evermoreref3_Least.R k' (start s) (evermoreref3_Least.t31.fill ds) = some r := by
  unfold evermoreref3_Least.c31 at h
  obtain ⟨x0, d0, rfl, h0⟩ := pop_some h
  obtain ⟨x1, d1, rfl, h1⟩ := pop_some h0
  obtain ⟨x2, d2, rfl, h2⟩ := pop_some h1
  obtain ⟨x3, d3, rfl, h3⟩ := pop_some h2
  obtain ⟨x4, d4, rfl, h4⟩ := pop_some h3
  obtain ⟨x5, d5, rfl, h5⟩ := pop_some h4
  obtain ⟨x6, d6, rfl, h6⟩ := pop_some h5
  obtain ⟨x7, d7, rfl, h7⟩ := pop_some h6
  obtain ⟨x8, d8, rfl, h8⟩ := pop_some h7
  obtain ⟨x9, d9, rfl, h9⟩ := pop_some h8
  obtain ⟨x10, d10, rfl, h10⟩ := pop_some h9
  obtain ⟨x11, d11, rfl, h11⟩ := pop_some h10
  obtain ⟨x12, d12, rfl, h12⟩ := pop_some h11
  obtain ⟨x13, d13, rfl, h13⟩ := pop_some h12
  obtain ⟨x14, d14, rfl, h14⟩ := pop_some h13
  obtain ⟨x15, d15, rfl, h15⟩ := pop_some h14
  obtain ⟨x16, d16, rfl, h16⟩ := pop_some h15
  obtain ⟨x17, d17, rfl, h17⟩ := pop_some h16
  obtain ⟨rfl, g⟩ := popN_some h17
  cases k with
  | zero => cases (show none = some r from g)
  | succ k => exact ⟨k, Nat.lt_succ_self k, _, evermoreref3_Least.s31, (evermoreref3_Least.e31 k x0 x1 x2 x3 x4 x5 x6 x7 x8 x9 x10 x11 x12 x13 x14 x15 x16 x17).symm.trans g⟩
theorem evermoreref3_Least.e42 (k : Nat) (x0 : Int) (x1 : Int) (x2 : Int) (x3 : Int) (x4 : Int) (x5 : (List (List Int))) (x6 : (List Int)) (x7 : Int) (x8 : Int) (x9 : (List Int)) (x10 : (List Int)) (x11 : (List Int)) (x12 : Int) (x13 : Int) (x14 : (List Int)) (x15 : (List (List Int))) (x16 : (List Int)) (x17 : (List (List Int))) (x18 : (List Int)) : evermoreref3_Least.j21 (k + 1) x0 x1 x2 x3 x4 x5 x6 x7 x8 x9 x10 x11 x12 x13 x14 x15 x16 x17 x18 = evermoreref3_Least.R k (start (stackOf 42 evermoreref3_Least.body)) (evermoreref3_Least.t42.fill [⟨(.int .i64), x0⟩, ⟨(.int .i64), x1⟩, ⟨(.int .i64), x2⟩, ⟨(.int .i64), x3⟩, ⟨(.int .i64), x4⟩, ⟨(.slice (.slice (.int .i64))), x5⟩, ⟨(.slice (.int .i64)), x6⟩, ⟨(.int .i64), x7⟩, ⟨(.int .i64), x8⟩, ⟨(.slice (.int .i64)), x9⟩, ⟨(.slice (.int .i64)), x10⟩, ⟨(.slice (.int .i64)), x11⟩, ⟨(.int .i64), x12⟩, ⟨(.int .i64), x13⟩, ⟨(.slice (.int .i64)), x14⟩, ⟨(.slice (.slice (.int .i64))), x15⟩, ⟨(.slice (.int .i64)), x16⟩, ⟨(.slice (.slice (.int .i64))), x17⟩, ⟨(.slice (.int .i64)), x18⟩]) := by kernel_rfl
theorem evermoreref3_Least.s42 : stackAt 42 evermoreref3_Least.body [] = some (stackOf 42 evermoreref3_Least.body) := by kernel_rfl
theorem evermoreref3_Least.h42 (k : Nat) (ds : List Dat) (r : Int × Int × (List (List Int)) × (List Int)) (h : evermoreref3_Least.c42 k ds = some r) : ∃ k', k' < k ∧ ∃ s, stackAt 42 evermoreref3_Least.body [] = some s ∧ evermoreref3_Least.R k' (start s) (evermoreref3_Least.t42.fill ds) = some r := by
  unfold evermoreref3_Least.c42 at h
  obtain ⟨x0, d0, rfl, h0⟩ := pop_some h
  obtain ⟨x1, d1, rfl, h1⟩ := pop_some h0
  obtain ⟨x2, d2, rfl, h2⟩ := pop_some h1
  obtain ⟨x3, d3, rfl, h3⟩ := pop_some h2
  obtain ⟨x4, d4, rfl, h4⟩ := pop_some h3
  obtain ⟨x5, d5, rfl, h5⟩ := pop_some h4
  obtain ⟨x6, d6, rfl, h6⟩ := pop_some h5
  obtain ⟨x7, d7, rfl, h7⟩ := pop_some h6
  obtain ⟨x8, d8, rfl, h8⟩ := pop_some h7
  obtain ⟨x9, d9, rfl, h9⟩ := pop_some h8
  obtain ⟨x10, d10, rfl, h10⟩ := pop_some h9
  obtain ⟨x11, d11, rfl, h11⟩ := pop_some h10
  obtain ⟨x12, d12, rfl, h12⟩ := pop_some h11
  obtain ⟨x13, d13, rfl, h13⟩ := pop_some h12
  obtain ⟨x14, d14, rfl, h14⟩ := pop_some h13
  obtain ⟨x15, d15, rfl, h15⟩ := pop_some h14
  obtain ⟨x16, d16, rfl, h16⟩ := pop_some h15
  obtain ⟨x17, d17, rfl, h17⟩ := pop_some h16
  obtain ⟨x18, d18, rfl, h18⟩ := pop_some h17
  obtain ⟨rfl, g⟩ := popN_some h18
  cases k with
  | zero => cases (show none = some r from g)
  | succ k => exact ⟨k, Nat.lt_succ_self k, _, evermoreref3_Least.s42, (evermoreref3_Least.e42 k x0 x1 x2 x3 x4 x5 x6 x7 x8 x9 x10 x11 x12 x13 x14 x15 x16 x17 x18).symm.trans g⟩
theorem evermoreref3_Least.e (k : Nat) (x0 : (Int × (Int × ((List (List Int)) × ((List Int) × Unit))))) : evermoreref3_Least.f k x0 = evermoreref3_Least.R k ([.code evermoreref3_Least.body]) (evermoreref3_Least.ti.fill [⟨(.pair (.int .i64) (.pair (.int .i64) (.pair (.slice (.slice (.int .i64))) (.pair (.slice (.int .i64)) .unit)))), x0⟩]) := by kernel_rfl
theorem evermoreref3_Least.h (k : Nat) (ds : List Dat) (r : Int × Int × (List (List Int)) × (List Int)) (h : evermoreref3_Least.g k ds = some r) : ∃ k', k' < k ∧ evermoreref3_Least.R k' ([.code evermoreref3_Least.body]) (evermoreref3_Least.ti.fill ds) = some r := by
  cases k with
  | zero => cases (show none = some r from h)
  | succ k =>
  replace h : evermoreref3_Least.c k ds = some r := h
  unfold evermoreref3_Least.c at h
  obtain ⟨x0, d0, rfl, h0⟩ := pop_some h
  obtain ⟨rfl, g⟩ := popN_some h0
  exact ⟨k, Nat.lt_succ_self k, (evermoreref3_Least.e k x0).symm.trans g⟩
theorem evermoreref3_Least.o (ds : List Dat) (r : Int × Int × (List (List Int)) × (List Int)) (h : evermoreref3_Least.out ds = some r) : ds = evermoreref3_Least.rs r := by
  unfold evermoreref3_Least.out at h
  obtain ⟨x0, d0, rfl, h0⟩ := pop_some h
  obtain ⟨x1, d1, rfl, h1⟩ := pop_some h0
  obtain ⟨x2, d2, rfl, h2⟩ := pop_some h1
  obtain ⟨x3, d3, rfl, h3⟩ := pop_some h2
  obtain ⟨rfl, g⟩ := popN_some h3
  cases g
  rfl
theorem evermoreref3_Least.fn : FnOk Try.prog 46 Try.f46 evermoreref3_Least.body Try.f46.ntmps 1 (fnRes Try.f46) :=
  fnOk_of (by kernel_rfl) (by kernel_rfl) (by kernel_rfl) (by kernel_rfl)
theorem evermoreref3_Least.con' : ∀ k ds r, evermoreref3_Least.g k ds = some r → Con Try.prog 46 1 evermoreref3_Least.ti evermoreref3_Least.to ds (evermoreref3_Least.rs r) :=
  fun_ok (T := T) T_ok mixed evermoreref3_Least.fn (env := evermoreref3_Least.env) (tbl := evermoreref3_Least.tbl) (gOut := evermoreref3_Least.out) (nin := 0) (cuts := [21]) (fuel := 100000) rfl (by kernel_rfl) (by kernel_rfl) (by kernel_rfl) (fun x hx => by
    simp only [evermoreref3_Least.tbl, List.mem_cons, List.not_mem_nil, or_false] at hx
    rcases hx with rfl | rfl | rfl | rfl
    · exact evermoreref3_Least.h9
    · exact evermoreref3_Least.h23
    · exact evermoreref3_Least.h31
    · exact evermoreref3_Least.h42
) evermoreref3_Least.o evermoreref3_Least.h (fun k _ => by unfold evermoreref3_Least.env; exact (envC_ok (fun ds K r h => by
    obtain ⟨x0, d0, rfl, h0⟩ := pop_some h
    obtain ⟨rfl, g⟩ := popN_some h0
    obtain ⟨r1, h1, h2⟩ := bind_some g
    exact ⟨_, h2, evermoreref3_Classes.con k _ h1⟩) env0_ok))
theorem evermoreref3_Least.con (k : Nat) {x0 : (Int × (Int × ((List (List Int)) × ((List Int) × Unit))))} (r : Int × Int × (List (List Int)) × (List Int)) (h : evermoreref3_Least.f k x0 = some r) : Con Try.prog 46 1 evermoreref3_Least.ti evermoreref3_Least.to [⟨(.pair (.int .i64) (.pair (.int .i64) (.pair (.slice (.slice (.int .i64))) (.pair (.slice (.int .i64)) .unit)))), x0⟩] (evermoreref3_Least.rs r) :=
  evermoreref3_Least.con' (k + 1) _ r (by show evermoreref3_Least.c k _ = some r; unfold evermoreref3_Least.c; simp only [pop_self, popN]; exact h)
mutual
def evermoreref3_Least_2.l4 : Nat → Int → Int → Int → List (List (Int)) → List (Int) → Int → Int → List (Int) → List (Int) → List (List (Int)) → List (Int) → Option (Int × Int × List (List Int) × List Int)
 | 0, _, _, _, _, _, _, _, _, _, _, _ => none
 | k + 1, i5, d1_0, d1_1, d1_2, d1_3, x2_0, x2_1, class3, number4, c4, c5 =>
  if i5 < (↑number4.length : Int) then
   if 0 ≤ i5 then
   if i5 < (↑number4.length : Int) then
    evermoreref3_Least_2.l4 k (Go.IntKind.i64.wrap (i5 + 1)) d1_0 d1_1 d1_2 d1_3 x2_0 x2_1 class3 (number4.set i5.toNat (Int.instNegInt.1 1)) c4 c5
    else none
   else none
  else
   if 0 ≤ d1_1 then
   if d1_1 < (↑class3.length : Int) then
    if 0 ≤ class3.getD d1_1.toNat (Int.ofNat 0) then
     if class3.getD d1_1.toNat (Int.ofNat 0) < (↑number4.length : Int) then
      evermoreref3_Least_2.l11 k 0 d1_0 d1_1 d1_2 d1_3 x2_0 x2_1 class3 (number4.set (class3.getD d1_1.toNat (Int.ofNat 0)).toNat (Int.ofNat 0)) [d1_1] d1_0 0 c4 c5 [] []
      else none
     else none
    else none
   else none
def evermoreref3_Least_2.l11 : Nat → Int → Int → Int → List (List (Int)) → List (Int) → Int → Int → List (Int) → List (Int) → List (Int) → Int → Int → List (List (Int)) → List (Int) → List (List (Int)) → List (Int) → Option (Int × Int × List (List Int) × List Int)
 | 0, _, _, _, _, _, _, _, _, _, _, _, _, _, _, _, _ => none
 | k + 1, i8, d1_0, d1_1, d1_2, d1_3, x2_0, x2_1, class3, number4, row6, out7_0, out7_1, c6, c7, c8, c9 =>
  if i8 < (↑row6.length : Int) then
   if 0 ≤ d1_0 then
   if d1_0 ≤ d1_0 then
    if d1_0 * ((↑8 : Int) + 1) ≤ 1099511627776 then
     evermoreref3_Least_2.l15 k i8 0 d1_0 d1_1 d1_2 d1_3 x2_0 x2_1 class3 number4 row6 out7_0 out7_1 (List.replicate d1_0.toNat (Int.ofNat 0)) c6 c7 c8 c9
     else none
    else none
   else none
  else
   some (out7_0, out7_1, c8, c9)
def evermoreref3_Least_2.l15 : Nat → Int → Int → Int → Int → List (List (Int)) → List (Int) → Int → Int → List (Int) → List (Int) → List (Int) → Int → Int → List (Int) → List (List (Int)) → List (Int) → List (List (Int)) → List (Int) → Option (Int × Int × List (List Int) × List Int)
 | 0, _, _, _, _, _, _, _, _, _, _, _, _, _, _, _, _, _, _ => none
 | k + 1, i8, a10, d1_0, d1_1, d1_2, d1_3, x2_0, x2_1, class3, number4, row6, out7_0, out7_1, next9, c7, c8, c9, c10 =>
  if a10 < d1_0 then
   if 0 ≤ i8 then
   if i8 < (↑row6.length : Int) then
    if 0 ≤ row6.getD i8.toNat (Int.ofNat 0) then
     if row6.getD i8.toNat (Int.ofNat 0) < (↑d1_2.length : Int) then
      if 0 ≤ a10 then
       if a10 < (↑(Go.Proofs.YtiiioobebeaafaaSx.rd [] d1_2 (row6.getD i8.toNat (Int.ofNat 0))).length : Int) then
        if 0 ≤ Go.Proofs.YtiiioobebeaafaaSx.rd (Int.ofNat 0) (Go.Proofs.YtiiioobebeaafaaSx.rd [] d1_2 (row6.getD i8.toNat (Int.ofNat 0))) a10 then
         if Go.Proofs.YtiiioobebeaafaaSx.rd (Int.ofNat 0) (Go.Proofs.YtiiioobebeaafaaSx.rd [] d1_2 (row6.getD i8.toNat (Int.ofNat 0))) a10 < (↑class3.length : Int) then
          if 0 ≤ class3.getD (Go.Proofs.YtiiioobebeaafaaSx.rd (Int.ofNat 0) (Go.Proofs.YtiiioobebeaafaaSx.rd [] d1_2 (row6.getD i8.toNat (Int.ofNat 0))) a10).toNat (Int.ofNat 0) then
           if class3.getD (Go.Proofs.YtiiioobebeaafaaSx.rd (Int.ofNat 0) (Go.Proofs.YtiiioobebeaafaaSx.rd [] d1_2 (row6.getD i8.toNat (Int.ofNat 0))) a10).toNat (Int.ofNat 0) < (↑number4.length : Int) then
            if number4.getD (class3.getD (Go.Proofs.YtiiioobebeaafaaSx.rd (Int.ofNat 0) (Go.Proofs.YtiiioobebeaafaaSx.rd [] d1_2 (row6.getD i8.toNat (Int.ofNat 0))) a10).toNat (Int.ofNat 0)).toNat (Int.ofNat 0) < 0 then
              if 0 ≤ Go.Proofs.YtiiioobebeaafaaSx.rd (Int.ofNat 0) (Go.Proofs.YtiiioobebeaafaaSx.rd [] d1_2 (row6.getD i8.toNat (Int.ofNat 0))) a10 then
              if Go.Proofs.YtiiioobebeaafaaSx.rd (Int.ofNat 0) (Go.Proofs.YtiiioobebeaafaaSx.rd [] d1_2 (row6.getD i8.toNat (Int.ofNat 0))) a10 < (↑class3.length : Int) then
               if 0 ≤ class3.getD (Go.Proofs.YtiiioobebeaafaaSx.rd (Int.ofNat 0) (Go.Proofs.YtiiioobebeaafaaSx.rd [] d1_2 (row6.getD i8.toNat (Int.ofNat 0))) a10).toNat (Int.ofNat 0) then
                if class3.getD (Go.Proofs.YtiiioobebeaafaaSx.rd (Int.ofNat 0) (Go.Proofs.YtiiioobebeaafaaSx.rd [] d1_2 (row6.getD i8.toNat (Int.ofNat 0))) a10).toNat (Int.ofNat 0) < (↑number4.length : Int) then
                 if (row6 ++ [Go.Proofs.YtiiioobebeaafaaSx.rd (Int.ofNat 0) (Go.Proofs.YtiiioobebeaafaaSx.rd [] d1_2 (row6.getD i8.toNat (Int.ofNat 0))) a10]).length.blt 1000000000 = true then
                  evermoreref3_Least_2.j21 k i8 a10 (Go.Proofs.YtiiioobebeaafaaSx.rd (Int.ofNat 0) (Go.Proofs.YtiiioobebeaafaaSx.rd [] d1_2 (row6.getD i8.toNat (Int.ofNat 0))) a10) d1_0 d1_1 d1_2 d1_3 x2_0 x2_1 class3 (number4.set (class3.getD (Go.Proofs.YtiiioobebeaafaaSx.rd (Int.ofNat 0) (Go.Proofs.YtiiioobebeaafaaSx.rd [] d1_2 (row6.getD i8.toNat (Int.ofNat 0))) a10).toNat (Int.ofNat 0)).toNat (↑row6.length : Int)) (row6 ++ [Go.Proofs.YtiiioobebeaafaaSx.rd (Int.ofNat 0) (Go.Proofs.YtiiioobebeaafaaSx.rd [] d1_2 (row6.getD i8.toNat (Int.ofNat 0))) a10]) out7_0 out7_1 next9 c7 c8 c9 c10
                  else none
                 else none
                else none
               else none
              else none
             else
              evermoreref3_Least_2.j21 k i8 a10 (Go.Proofs.YtiiioobebeaafaaSx.rd (Int.ofNat 0) (Go.Proofs.YtiiioobebeaafaaSx.rd [] d1_2 (row6.getD i8.toNat (Int.ofNat 0))) a10) d1_0 d1_1 d1_2 d1_3 x2_0 x2_1 class3 number4 row6 out7_0 out7_1 next9 c7 c8 c9 c10
            else none
           else none
          else none
         else none
        else none
       else none
      else none
     else none
    else none
   else none
  else
   if (c9 ++ [next9]).length.blt 1000000000 = true then
   if 0 ≤ i8 then
    if i8 < (↑row6.length : Int) then
     if 0 ≤ row6.getD i8.toNat (Int.ofNat 0) then
      if row6.getD i8.toNat (Int.ofNat 0) < (↑d1_3.length : Int) then
       if (c10 ++ [Go.Proofs.YtiiioobebeaafaaSx.rd (Int.ofNat 0) d1_3 (row6.getD i8.toNat (Int.ofNat 0))]).length.blt 1000000000 = true then
        evermoreref3_Least_2.l11 k (Go.IntKind.i64.wrap (i8 + 1)) d1_0 d1_1 d1_2 d1_3 x2_0 x2_1 class3 number4 row6 out7_0 out7_1 c7 c8 (c9 ++ [next9]) (c10 ++ [Go.Proofs.YtiiioobebeaafaaSx.rd (Int.ofNat 0) d1_3 (row6.getD i8.toNat (Int.ofNat 0))])
        else none
       else none
      else none
     else none
    else none
   else none
def evermoreref3_Least_2.j21 : Nat → Int → Int → Int → Int → Int → List (List (Int)) → List (Int) → Int → Int → List (Int) → List (Int) → List (Int) → Int → Int → List (Int) → List (List (Int)) → List (Int) → List (List (Int)) → List (Int) → Option (Int × Int × List (List Int) × List Int)
 | 0, _, _, _, _, _, _, _, _, _, _, _, _, _, _, _, _, _, _, _ => none
 | k + 1, i8, a10, q11, d1_0, d1_1, d1_2, d1_3, x2_0, x2_1, class3, number4, row6, out7_0, out7_1, next9, c7, c8, c9, c10 =>
  if 0 ≤ q11 then
  if q11 < (↑class3.length : Int) then
   if 0 ≤ class3.getD q11.toNat (Int.ofNat 0) then
    if class3.getD q11.toNat (Int.ofNat 0) < (↑number4.length : Int) then
     if 0 ≤ a10 then
      if a10 < (↑next9.length : Int) then
       evermoreref3_Least_2.l15 k i8 (Go.IntKind.i64.wrap (a10 + 1)) d1_0 d1_1 d1_2 d1_3 x2_0 x2_1 class3 number4 row6 out7_0 out7_1 (next9.set a10.toNat (number4.getD (class3.getD q11.toNat (Int.ofNat 0)).toNat (Int.ofNat 0))) c7 c8 c9 c10
       else none
      else none
     else none
    else none
   else none
  else none
end
def evermoreref3_Least_2.f (k : Nat) (d0 : (Int × (Int × (List (List (Int)) × (List (Int) × Unit))))) : Option (Int × Int × List (List Int) × List Int) :=
 (evermoreref3_Classes.f k (d0.fst, d0.snd.fst, d0.snd.snd.fst, d0.snd.snd.snd.fst, ())).bind fun r1 =>
  if 0 ≤ (↑r1.length : Int) then
  if (↑r1.length : Int) ≤ (↑r1.length : Int) then
   if (↑r1.length : Int) * ((↑8 : Int) + 1) ≤ 1099511627776 then
    evermoreref3_Least_2.l4 k 0 d0.fst d0.snd.fst d0.snd.snd.fst d0.snd.snd.snd.fst 0 0 r1 (List.replicate (↑r1.length : Int).toNat (Int.ofNat 0)) [] []
    else none
   else none
  else none

noncomputable def evermoreref3_Least_2.body : Code := fnBody Try.f46
def evermoreref3_Least_2.ti : Tm := ⟨[(0, .p (.pair (.int .i64) (.pair (.int .i64) (.pair (.slice (.slice (.int .i64))) (.pair (.slice (.int .i64)) .unit)))))], []⟩
def evermoreref3_Least_2.to : Tm := ⟨[(0, .agg [.p (.int .i64), .p (.int .i64), .own 0, .own 1])], [.own (.slice (.int .i64)), .own (.int .i64)]⟩
def evermoreref3_Least_2.rs (r : Int × Int × (List (List Int)) × (List Int)) : List Dat := [⟨(.int .i64), r.1⟩, ⟨(.int .i64), r.2.1⟩, ⟨(.slice (.slice (.int .i64))), r.2.2.1⟩, ⟨(.slice (.int .i64)), r.2.2.2⟩]
def evermoreref3_Least_2.out (ds : List Dat) : Option (Int × Int × (List (List Int)) × (List Int)) := pop (.int .i64) ds fun x0 ds => pop (.int .i64) ds fun x1 ds => pop (.slice (.slice (.int .i64))) ds fun x2 ds => pop (.slice (.int .i64)) ds fun x3 ds => popN ds (some (x0, x1, x2, x3))
def evermoreref3_Least_2.c (k : Nat) (ds : List Dat) : Option (Int × Int × (List (List Int)) × (List Int)) := pop (.pair (.int .i64) (.pair (.int .i64) (.pair (.slice (.slice (.int .i64))) (.pair (.slice (.int .i64)) .unit)))) ds fun x0 ds => popN ds (evermoreref3_Least_2.f k x0)
def evermoreref3_Least_2.g : Nat → List Dat → Option (Int × Int × (List (List Int)) × (List Int))
 | 0, _ => none
 | k + 1, ds => evermoreref3_Least_2.c k ds
def evermoreref3_Least_2.env (k : Nat) : Nat → List SV → List Chunk → KT (Int × Int × (List (List Int)) × (List Int)) → Option (Int × Int × (List (List Int)) × (List Int)) := (envC 104 1 evermoreref3_Classes.ti evermoreref3_Classes.to (fun ds K => pop (.pair (.int .i64) (.pair (.int .i64) (.pair (.slice (.slice (.int .i64))) (.pair (.slice (.int .i64)) .unit)))) ds fun x0 ds => popN ds ((evermoreref3_Classes.f k x0).bind fun r => K (evermoreref3_Classes.rs r))) env0)
def evermoreref3_Least_2.t9 : Tm := ⟨[(1, .ptr 0 0), (2, .ptr 1 0), (3, .own 2), (4, .own 3), (5, .p (.int .i64))], [.box [.p (.int .i64), .p (.int .i64), .p (.slice (.slice (.int .i64))), .p (.slice (.int .i64))] 58, .box [.p (.int .i64), .p (.int .i64), .own 4, .own 5] 58, .own (.int .i64), .own (.int .i64), .own (.slice (.int .i64)), .own (.int .i64)]⟩
def evermoreref3_Least_2.c9 (k : Nat) (ds : List Dat) : Option (Int × Int × (List (List Int)) × (List Int)) := pop (.int .i64) ds fun x0 ds => pop (.int .i64) ds fun x1 ds => pop (.int .i64) ds fun x2 ds => pop (.slice (.slice (.int .i64))) ds fun x3 ds => pop (.slice (.int .i64)) ds fun x4 ds => pop (.int .i64) ds fun x5 ds => pop (.int .i64) ds fun x6 ds => pop (.slice (.int .i64)) ds fun x7 ds => pop (.slice (.int .i64)) ds fun x8 ds => pop (.slice (.slice (.int .i64))) ds fun x9 ds => pop (.slice (.int .i64)) ds fun x10 ds => popN ds (evermoreref3_Least_2.l4 k x0 x1 x2 x3 x4 x5 x6 x7 x8 x9 x10)
def evermoreref3_Least_2.t23 : Tm := ⟨[(1, .ptr 0 0), (2, .ptr 1 0), (3, .own 2), (4, .own 3), (6, .own 4), (7, .ptr 5 0), (8, .p (.int .i64))], [.box [.p (.int .i64), .p (.int .i64), .p (.slice (.slice (.int .i64))), .p (.slice (.int .i64))] 58, .box [.p (.int .i64), .p (.int .i64), .own 6, .own 7] 58, .own (.int .i64), .own (.int .i64), .own (.int .i64), .box [.p (.int .i64), .p (.int .i64), .own 8, .own 9] 58, .own (.slice (.int .i64)), .own (.int .i64), .own (.slice (.int .i64)), .own (.int .i64)]⟩
def evermoreref3_Least_2.c23 (k : Nat) (ds : List Dat) : Option (Int × Int × (List (List Int)) × (List Int)) := pop (.int .i64) ds fun x0 ds => pop (.int .i64) ds fun x1 ds => pop (.int .i64) ds fun x2 ds => pop (.slice (.slice (.int .i64))) ds fun x3 ds => pop (.slice (.int .i64)) ds fun x4 ds => pop (.int .i64) ds fun x5 ds => pop (.int .i64) ds fun x6 ds => pop (.slice (.int .i64)) ds fun x7 ds => pop (.slice (.int .i64)) ds fun x8 ds => pop (.slice (.int .i64)) ds fun x9 ds => pop (.int .i64) ds fun x10 ds => pop (.int .i64) ds fun x11 ds => pop (.slice (.slice (.int .i64))) ds fun x12 ds => pop (.slice (.int .i64)) ds fun x13 ds => pop (.slice (.slice (.int .i64))) ds fun x14 ds => pop (.slice (.int .i64)) ds fun x15 ds => popN ds (evermoreref3_Least_2.l11 k x0 x1 x2 x3 x4 x5 x6 x7 x8 x9 x10 x11 x12 x13 x14 x15)
def evermoreref3_Least_2.t31 : Tm := ⟨[(1, .ptr 0 0), (2, .ptr 1 0), (3, .own 2), (4, .own 3), (6, .own 4), (7, .ptr 5 0), (8, .p (.int .i64)), (9, .own 6), (10, .p (.int .i64))], [.box [.p (.int .i64), .p (.int .i64), .p (.slice (.slice (.int .i64))), .p (.slice (.int .i64))] 58, .box [.p (.int .i64), .p (.int .i64), .own 7, .own 8] 58, .own (.int .i64), .own (.int .i64), .own (.int .i64), .box [.p (.int .i64), .p (.int .i64), .own 9, .own 10] 58, .own (.int .i64), .own (.slice (.int .i64)), .own (.int .i64), .own (.slice (.int .i64)), .own (.int .i64)]⟩
def evermoreref3_Least_2.c31 (k : Nat) (ds : List Dat) : Option (Int × Int × (List (List Int)) × (List Int)) := pop (.int .i64) ds fun x0 ds => pop (.int .i64) ds fun x1 ds => pop (.int .i64) ds fun x2 ds => pop (.int .i64) ds fun x3 ds => pop (.slice (.slice (.int .i64))) ds fun x4 ds => pop (.slice (.int .i64)) ds fun x5 ds => pop (.int .i64) ds fun x6 ds => pop (.int .i64) ds fun x7 ds => pop (.slice (.int .i64)) ds fun x8 ds => pop (.slice (.int .i64)) ds fun x9 ds => pop (.slice (.int .i64)) ds fun x10 ds => pop (.int .i64) ds fun x11 ds => pop (.int .i64) ds fun x12 ds => pop (.slice (.int .i64)) ds fun x13 ds => pop (.slice (.slice (.int .i64))) ds fun x14 ds => pop (.slice (.int .i64)) ds fun x15 ds => pop (.slice (.slice (.int .i64))) ds fun x16 ds => pop (.slice (.int .i64)) ds fun x17 ds => popN ds (evermoreref3_Least_2.l15 k x0 x1 x2 x3 x4 x5 x6 x7 x8 x9 x10 x11 x12 x13 x14 x15 x16 x17)
def evermoreref3_Least_2.t42 : Tm := ⟨[(1, .ptr 0 0), (2, .ptr 1 0), (3, .own 2), (4, .own 3), (6, .own 4), (7, .ptr 5 0), (8, .p (.int .i64)), (9, .own 6), (10, .p (.int .i64)), (11, .p (.int .i64))], [.box [.p (.int .i64), .p (.int .i64), .p (.slice (.slice (.int .i64))), .p (.slice (.int .i64))] 58, .box [.p (.int .i64), .p (.int .i64), .own 7, .own 8] 58, .own (.int .i64), .own (.int .i64), .own (.int .i64), .box [.p (.int .i64), .p (.int .i64), .own 9, .own 10] 58, .own (.int .i64), .own (.slice (.int .i64)), .own (.int .i64), .own (.slice (.int .i64)), .own (.int .i64)]⟩
def evermoreref3_Least_2.c42 (k : Nat) (ds : List Dat) : Option (Int × Int × (List (List Int)) × (List Int)) := pop (.int .i64) ds fun x0 ds => pop (.int .i64) ds fun x1 ds => pop (.int .i64) ds fun x2 ds => pop (.int .i64) ds fun x3 ds => pop (.int .i64) ds fun x4 ds => pop (.slice (.slice (.int .i64))) ds fun x5 ds => pop (.slice (.int .i64)) ds fun x6 ds => pop (.int .i64) ds fun x7 ds => pop (.int .i64) ds fun x8 ds => pop (.slice (.int .i64)) ds fun x9 ds => pop (.slice (.int .i64)) ds fun x10 ds => pop (.slice (.int .i64)) ds fun x11 ds => pop (.int .i64) ds fun x12 ds => pop (.int .i64) ds fun x13 ds => pop (.slice (.int .i64)) ds fun x14 ds => pop (.slice (.slice (.int .i64))) ds fun x15 ds => pop (.slice (.int .i64)) ds fun x16 ds => pop (.slice (.slice (.int .i64))) ds fun x17 ds => pop (.slice (.int .i64)) ds fun x18 ds => popN ds (evermoreref3_Least_2.j21 k x0 x1 x2 x3 x4 x5 x6 x7 x8 x9 x10 x11 x12 x13 x14 x15 x16 x17 x18)
def evermoreref3_Least_2.tbl : List (Nat × Tm × (Nat → List Dat → Option (Int × Int × (List (List Int)) × (List Int)))) := [(9, evermoreref3_Least_2.t9, evermoreref3_Least_2.c9), (23, evermoreref3_Least_2.t23, evermoreref3_Least_2.c23), (31, evermoreref3_Least_2.t31, evermoreref3_Least_2.c31), (42, evermoreref3_Least_2.t42, evermoreref3_Least_2.c42)]
noncomputable abbrev evermoreref3_Least_2.R (k : Nat) := run T (evermoreref3_Least_2.env k) Try.f46.ntmps (cutE 0 evermoreref3_Least_2.tbl k) (finE 0 evermoreref3_Least_2.to evermoreref3_Least_2.out) (fnRes Try.f46) [21] 100000 true
theorem evermoreref3_Least_2.e9 (k : Nat) (x0 : Int) (x1 : Int) (x2 : Int) (x3 : (List (List Int))) (x4 : (List Int)) (x5 : Int) (x6 : Int) (x7 : (List Int)) (x8 : (List Int)) (x9 : (List (List Int))) (x10 : (List Int)) : evermoreref3_Least_2.l4 (k + 1) x0 x1 x2 x3 x4 x5 x6 x7 x8 x9 x10 = evermoreref3_Least_2.R k (start (stackOf 9 evermoreref3_Least_2.body)) (evermoreref3_Least_2.t9.fill [⟨(.int .i64), x0⟩, ⟨(.int .i64), x1⟩, ⟨(.int .i64), x2⟩, ⟨(.slice (.slice (.int .i64))), x3⟩, ⟨(.slice (.int .i64)), x4⟩, ⟨(.int .i64), x5⟩, ⟨(.int .i64), x6⟩, ⟨(.slice (.int .i64)), x7⟩, ⟨(.slice (.int .i64)), x8⟩, ⟨(.slice (.slice (.int .i64))), x9⟩, ⟨(.slice (.int .i64)), x10⟩]) := by kernel_rfl
theorem evermoreref3_Least_2.s9 : stackAt 9 evermoreref3_Least_2.body [] = some (stackOf 9 evermoreref3_Least_2.body) := by kernel_rfl
theorem evermoreref3_Least_2.h9 (k : Nat) (ds : List Dat) (r : Int × Int × (List (List Int)) × (List Int)) (h : evermoreref3_Least_2.c9 k ds = some r) : ∃ k', k' < k ∧ ∃ s, stackAt 9 evermoreref3_Least_2.body [] = some s ∧ evermoreref3_Least_2.R k' (start s) (evermoreref3_Least_2.t9.fill ds) = some r := by
  unfold evermoreref3_Least_2.c9 at h
  obtain ⟨x0, d0, rfl, h0⟩ := pop_some h
  obtain ⟨x1, d1, rfl, h1⟩ := pop_some h0
  obtain ⟨x2, d2, rfl, h2⟩ := pop_some h1
  obtain ⟨x3, d3, rfl, h3⟩ := pop_some h2
  obtain ⟨x4, d4, rfl, h4⟩ := pop_some h3
  obtain ⟨x5, d5, rfl, h5⟩ := pop_some h4
  obtain ⟨x6, d6, rfl, h6⟩ := pop_some h5
  obtain ⟨x7, d7, rfl, h7⟩ := pop_some h6
  obtain ⟨x8, d8, rfl, h8⟩ := pop_some h7
  obtain ⟨x9, d9, rfl, h9⟩ := pop_some h8
  obtain ⟨x10, d10, rfl, h10⟩ := pop_some h9
  obtain ⟨rfl, g⟩ := popN_some h10
  cases k with
  | zero => cases (show none = some r from g)
  | succ k => exact ⟨k, Nat.lt_succ_self k, _, evermoreref3_Least_2.s9, (evermoreref3_Least_2.e9 k x0 x1 x2 x3 x4 x5 x6 x7 x8 x9 x10).symm.trans g⟩
theorem evermoreref3_Least_2.e23 (k : Nat) (x0 : Int) (x1 : Int) (x2 : Int) (x3 : (List (List Int))) (x4 : (List Int)) (x5 : Int) (x6 : Int) (x7 : (List Int)) (x8 : (List Int)) (x9 : (List Int)) (x10 : Int) (x11 : Int) (x12 : (List (List Int))) (x13 : (List Int)) (x14 : (List (List Int))) (x15 : (List Int)) : evermoreref3_Least_2.l11 (k + 1) x0 x1 x2 x3 x4 x5 x6 x7 x8 x9 x10 x11 x12 x13 x14 x15 = evermoreref3_Least_2.R k (start (stackOf 23 evermoreref3_Least_2.body)) (evermoreref3_Least_2.t23.fill [⟨(.int .i64), x0⟩, ⟨(.int .i64), x1⟩, ⟨(.int .i64), x2⟩, ⟨(.slice (.slice (.int .i64))), x3⟩, ⟨(.slice (.int .i64)), x4⟩, ⟨(.int .i64), x5⟩, ⟨(.int .i64), x6⟩, ⟨(.slice (.int .i64)), x7⟩, ⟨(.slice (.int .i64)), x8⟩, ⟨(.slice (.int .i64)), x9⟩, ⟨(.int .i64), x10⟩, ⟨(.int .i64), x11⟩, ⟨(.slice (.slice (.int .i64))), x12⟩, ⟨(.slice (.int .i64)), x13⟩, ⟨(.slice (.slice (.int .i64))), x14⟩, ⟨(.slice (.int .i64)), x15⟩]) := by kernel_rfl
theorem evermoreref3_Least_2.s23 : stackAt 23 evermoreref3_Least_2.body [] = some (stackOf 23 evermoreref3_Least_2.body) := by kernel_rfl
theorem evermoreref3_Least_2.h23 (k : Nat) (ds : List Dat) (r : Int × Int × (List (List Int)) × (List Int)) (h : evermoreref3_Least_2.c23 k ds = some r) : ∃ k', k' < k ∧ ∃ s, stackAt 23 evermoreref3_Least_2.body [] = some s ∧ evermoreref3_Least_2.R k' (start s) (evermoreref3_Least_2.t23.fill ds) = some r := by
  unfold evermoreref3_Least_2.c23 at h
  obtain ⟨x0, d0, rfl, h0⟩ := pop_some h
  obtain ⟨x1, d1, rfl, h1⟩ := pop_some h0
  obtain ⟨x2, d2, rfl, h2⟩ := pop_some h1
  obtain ⟨x3, d3, rfl, h3⟩ := pop_some h2
  obtain ⟨x4, d4, rfl, h4⟩ := pop_some h3
  obtain ⟨x5, d5, rfl, h5⟩ := pop_some h4
  obtain ⟨x6, d6, rfl, h6⟩ := pop_some h5
  obtain ⟨x7, d7, rfl, h7⟩ := pop_some h6
  obtain ⟨x8, d8, rfl, h8⟩ := pop_some h7
  obtain ⟨x9, d9, rfl, h9⟩ := pop_some h8
  obtain ⟨x10, d10, rfl, h10⟩ := pop_some h9
  obtain ⟨x11, d11, rfl, h11⟩ := pop_some h10
  obtain ⟨x12, d12, rfl, h12⟩ := pop_some h11
  obtain ⟨x13, d13, rfl, h13⟩ := pop_some h12
  obtain ⟨x14, d14, rfl, h14⟩ := pop_some h13
  obtain ⟨x15, d15, rfl, h15⟩ := pop_some h14
  obtain ⟨rfl, g⟩ := popN_some h15
  cases k with
  | zero => cases (show none = some r from g)
  | succ k => exact ⟨k, Nat.lt_succ_self k, _, evermoreref3_Least_2.s23, (evermoreref3_Least_2.e23 k x0 x1 x2 x3 x4 x5 x6 x7 x8 x9 x10 x11 x12 x13 x14 x15).symm.trans g⟩
theorem evermoreref3_Least_2.e31 (k : Nat) (x0 : Int) (x1 : Int) (x2 : Int) (x3 : Int) (x4 : (List (List Int))) (x5 : (List Int)) (x6 : Int) (x7 : Int) (x8 : (List Int)) (x9 : (List Int)) (x10 : (List Int)) (x11 : Int) (x12 : Int) (x13 : (List Int)) (x14 : (List (List Int))) (x15 : (List Int)) (x16 : (List (List Int))) (x17 : (List Int)) : evermoreref3_Least_2.l15 (k + 1) x0 x1 x2 x3 x4 x5 x6 x7 x8 x9 x10 x11 x12 x13 x14 x15 x16 x17 = evermoreref3_Least_2.R k (start (stackOf 31 evermoreref3_Least_2.body)) (evermoreref3_Least_2.t31.fill [⟨(.int .i64), x0⟩, ⟨(.int .i64), x1⟩, ⟨(.int .i64), x2⟩, ⟨(.int .i64), x3⟩, ⟨(.slice (.slice (.int .i64))), x4⟩, ⟨(.slice (.int .i64)), x5⟩, ⟨(.int .i64), x6⟩, ⟨(.int .i64), x7⟩, ⟨(.slice (.int .i64)), x8⟩, ⟨(.slice (.int .i64)), x9⟩, ⟨(.slice (.int .i64)), x10⟩, ⟨(.int .i64), x11⟩, ⟨(.int .i64), x12⟩, ⟨(.slice (.int .i64)), x13⟩, ⟨(.slice (.slice (.int .i64))), x14⟩, ⟨(.slice (.int .i64)), x15⟩, ⟨(.slice (.slice (.int .i64))), x16⟩, ⟨(.slice (.int .i64)), x17⟩]) := by kernel_rfl
theorem evermoreref3_Least_2.s31 : stackAt 31 evermoreref3_Least_2.body [] = some (stackOf 31 evermoreref3_Least_2.body) := by kernel_rfl
theorem evermoreref3_Least_2.h31 (k : Nat) (ds : List Dat) (r : Int × Int × (List (List Int)) × (List Int)) (h : evermoreref3_Least_2.c31 k ds = some r) : ∃ k', k' < k ∧ ∃ s, stackAt 31 evermoreref3_Least_2.body [] = some s ∧ evermoreref3_Least_2.R k' (start s) (evermoreref3_Least_2.t31.fill ds) = some r := by
  unfold evermoreref3_Least_2.c31 at h
  obtain ⟨x0, d0, rfl, h0⟩ := pop_some h
  obtain ⟨x1, d1, rfl, h1⟩ := pop_some h0
  obtain ⟨x2, d2, rfl, h2⟩ := pop_some h1
  obtain ⟨x3, d3, rfl, h3⟩ := pop_some h2
  obtain ⟨x4, d4, rfl, h4⟩ := pop_some h3
  obtain ⟨x5, d5, rfl, h5⟩ := pop_some h4
  obtain ⟨x6, d6, rfl, h6⟩ := pop_some h5
  obtain ⟨x7, d7, rfl, h7⟩ := pop_some h6
  obtain ⟨x8, d8, rfl, h8⟩ := pop_some h7
  obtain ⟨x9, d9, rfl, h9⟩ := pop_some h8
  obtain ⟨x10, d10, rfl, h10⟩ := pop_some h9
  obtain ⟨x11, d11, rfl, h11⟩ := pop_some h10
  obtain ⟨x12, d12, rfl, h12⟩ := pop_some h11
  obtain ⟨x13, d13, rfl, h13⟩ := pop_some h12
  obtain ⟨x14, d14, rfl, h14⟩ := pop_some h13
  obtain ⟨x15, d15, rfl, h15⟩ := pop_some h14
  obtain ⟨x16, d16, rfl, h16⟩ := pop_some h15
  obtain ⟨x17, d17, rfl, h17⟩ := pop_some h16
  obtain ⟨rfl, g⟩ := popN_some h17
  cases k with
  | zero => cases (show none = some r from g)
  | succ k => exact ⟨k, Nat.lt_succ_self k, _, evermoreref3_Least_2.s31, (evermoreref3_Least_2.e31 k x0 x1 x2 x3 x4 x5 x6 x7 x8 x9 x10 x11 x12 x13 x14 x15 x16 x17).symm.trans g⟩
theorem evermoreref3_Least_2.e42 (k : Nat) (x0 : Int) (x1 : Int) (x2 : Int) (x3 : Int) (x4 : Int) (x5 : (List (List Int))) (x6 : (List Int)) (x7 : Int) (x8 : Int) (x9 : (List Int)) (x10 : (List Int)) (x11 : (List Int)) (x12 : Int) (x13 : Int) (x14 : (List Int)) (x15 : (List (List Int))) (x16 : (List Int)) (x17 : (List (List Int))) (x18 : (List Int)) : evermoreref3_Least_2.j21 (k + 1) x0 x1 x2 x3 x4 x5 x6 x7 x8 x9 x10 x11 x12 x13 x14 x15 x16 x17 x18 = evermoreref3_Least_2.R k (start (stackOf 42 evermoreref3_Least_2.body)) (evermoreref3_Least_2.t42.fill [⟨(.int .i64), x0⟩, ⟨(.int .i64), x1⟩, ⟨(.int .i64), x2⟩, ⟨(.int .i64), x3⟩, ⟨(.int .i64), x4⟩, ⟨(.slice (.slice (.int .i64))), x5⟩, ⟨(.slice (.int .i64)), x6⟩, ⟨(.int .i64), x7⟩, ⟨(.int .i64), x8⟩, ⟨(.slice (.int .i64)), x9⟩, ⟨(.slice (.int .i64)), x10⟩, ⟨(.slice (.int .i64)), x11⟩, ⟨(.int .i64), x12⟩, ⟨(.int .i64), x13⟩, ⟨(.slice (.int .i64)), x14⟩, ⟨(.slice (.slice (.int .i64))), x15⟩, ⟨(.slice (.int .i64)), x16⟩, ⟨(.slice (.slice (.int .i64))), x17⟩, ⟨(.slice (.int .i64)), x18⟩]) := by kernel_rfl
theorem evermoreref3_Least_2.s42 : stackAt 42 evermoreref3_Least_2.body [] = some (stackOf 42 evermoreref3_Least_2.body) := by kernel_rfl
theorem evermoreref3_Least_2.h42 (k : Nat) (ds : List Dat) (r : Int × Int × (List (List Int)) × (List Int)) (h : evermoreref3_Least_2.c42 k ds = some r) : ∃ k', k' < k ∧ ∃ s, stackAt 42 evermoreref3_Least_2.body [] = some s ∧ evermoreref3_Least_2.R k' (start s) (evermoreref3_Least_2.t42.fill ds) = some r := by
  unfold evermoreref3_Least_2.c42 at h
  obtain ⟨x0, d0, rfl, h0⟩ := pop_some h
  obtain ⟨x1, d1, rfl, h1⟩ := pop_some h0
  obtain ⟨x2, d2, rfl, h2⟩ := pop_some h1
  obtain ⟨x3, d3, rfl, h3⟩ := pop_some h2
  obtain ⟨x4, d4, rfl, h4⟩ := pop_some h3
  obtain ⟨x5, d5, rfl, h5⟩ := pop_some h4
  obtain ⟨x6, d6, rfl, h6⟩ := pop_some h5
  obtain ⟨x7, d7, rfl, h7⟩ := pop_some h6
  obtain ⟨x8, d8, rfl, h8⟩ := pop_some h7
  obtain ⟨x9, d9, rfl, h9⟩ := pop_some h8
  obtain ⟨x10, d10, rfl, h10⟩ := pop_some h9
  obtain ⟨x11, d11, rfl, h11⟩ := pop_some h10
  obtain ⟨x12, d12, rfl, h12⟩ := pop_some h11
  obtain ⟨x13, d13, rfl, h13⟩ := pop_some h12
  obtain ⟨x14, d14, rfl, h14⟩ := pop_some h13
  obtain ⟨x15, d15, rfl, h15⟩ := pop_some h14
  obtain ⟨x16, d16, rfl, h16⟩ := pop_some h15
  obtain ⟨x17, d17, rfl, h17⟩ := pop_some h16
  obtain ⟨x18, d18, rfl, h18⟩ := pop_some h17
  obtain ⟨rfl, g⟩ := popN_some h18
  cases k with
  | zero => cases (show none = some r from g)
  | succ k => exact ⟨k, Nat.lt_succ_self k, _, evermoreref3_Least_2.s42, (evermoreref3_Least_2.e42 k x0 x1 x2 x3 x4 x5 x6 x7 x8 x9 x10 x11 x12 x13 x14 x15 x16 x17 x18).symm.trans g⟩
theorem evermoreref3_Least_2.e (k : Nat) (x0 : (Int × (Int × ((List (List Int)) × ((List Int) × Unit))))) : evermoreref3_Least_2.f k x0 = evermoreref3_Least_2.R k ([.code evermoreref3_Least_2.body]) (evermoreref3_Least_2.ti.fill [⟨(.pair (.int .i64) (.pair (.int .i64) (.pair (.slice (.slice (.int .i64))) (.pair (.slice (.int .i64)) .unit)))), x0⟩]) := by kernel_rfl
theorem evermoreref3_Least_2.h (k : Nat) (ds : List Dat) (r : Int × Int × (List (List Int)) × (List Int)) (h : evermoreref3_Least_2.g k ds = some r) : ∃ k', k' < k ∧ evermoreref3_Least_2.R k' ([.code evermoreref3_Least_2.body]) (evermoreref3_Least_2.ti.fill ds) = some r := by
  cases k with
  | zero => cases (show none = some r from h)
  | succ k =>
  replace h : evermoreref3_Least_2.c k ds = some r := h
  unfold evermoreref3_Least_2.c at h
  obtain ⟨x0, d0, rfl, h0⟩ := pop_some h
  obtain ⟨rfl, g⟩ := popN_some h0
  exact ⟨k, Nat.lt_succ_self k, (evermoreref3_Least_2.e k x0).symm.trans g⟩
theorem evermoreref3_Least_2.o (ds : List Dat) (r : Int × Int × (List (List Int)) × (List Int)) (h : evermoreref3_Least_2.out ds = some r) : ds = evermoreref3_Least_2.rs r := by
  unfold evermoreref3_Least_2.out at h
  obtain ⟨x0, d0, rfl, h0⟩ := pop_some h
  obtain ⟨x1, d1, rfl, h1⟩ := pop_some h0
  obtain ⟨x2, d2, rfl, h2⟩ := pop_some h1
  obtain ⟨x3, d3, rfl, h3⟩ := pop_some h2
  obtain ⟨rfl, g⟩ := popN_some h3
  cases g
  rfl
theorem evermoreref3_Least_2.fn : FnOk Try.prog 46 Try.f46 evermoreref3_Least_2.body Try.f46.ntmps 1 (fnRes Try.f46) :=
  fnOk_of (by kernel_rfl) (by kernel_rfl) (by kernel_rfl) (by kernel_rfl)
theorem evermoreref3_Least_2.con' : ∀ k ds r, evermoreref3_Least_2.g k ds = some r → Con Try.prog 46 1 evermoreref3_Least_2.ti evermoreref3_Least_2.to ds (evermoreref3_Least_2.rs r) :=
  fun_ok (T := T) T_ok mixed evermoreref3_Least_2.fn (env := evermoreref3_Least_2.env) (tbl := evermoreref3_Least_2.tbl) (gOut := evermoreref3_Least_2.out) (nin := 0) (cuts := [21]) (fuel := 100000) rfl (by kernel_rfl) (by kernel_rfl) (by kernel_rfl) (fun x hx => by
    simp only [evermoreref3_Least_2.tbl, List.mem_cons, List.not_mem_nil, or_false] at hx
    rcases hx with rfl | rfl | rfl | rfl
    · exact evermoreref3_Least_2.h9
    · exact evermoreref3_Least_2.h23
    · exact evermoreref3_Least_2.h31
    · exact evermoreref3_Least_2.h42
) evermoreref3_Least_2.o evermoreref3_Least_2.h (fun k _ => by unfold evermoreref3_Least_2.env; exact (envC_ok (fun ds K r h => by
    obtain ⟨x0, d0, rfl, h0⟩ := pop_some h
    obtain ⟨rfl, g⟩ := popN_some h0
    obtain ⟨r1, h1, h2⟩ := bind_some g
    exact ⟨_, h2, evermoreref3_Classes.con k _ h1⟩) env0_ok))
theorem evermoreref3_Least_2.con (k : Nat) {x0 : (Int × (Int × ((List (List Int)) × ((List Int) × Unit))))} (r : Int × Int × (List (List Int)) × (List Int)) (h : evermoreref3_Least_2.f k x0 = some r) : Con Try.prog 46 1 evermoreref3_Least_2.ti evermoreref3_Least_2.to [⟨(.pair (.int .i64) (.pair (.int .i64) (.pair (.slice (.slice (.int .i64))) (.pair (.slice (.int .i64)) .unit)))), x0⟩] (evermoreref3_Least_2.rs r) :=
  evermoreref3_Least_2.con' (k + 1) _ r (by show evermoreref3_Least_2.c k _ = some r; unfold evermoreref3_Least_2.c; simp only [pop_self, popN]; exact h)
mutual
def evermoreref3_Mixed.l4 : Nat → Int → Int → Int → Int → Int → List (List (Int)) → List (Int) → Int → Int → List (List (Int)) → List (Int) → Int → Int → Int → Int → List (List (Int)) → List (Int) → List (List (Int)) → List (Int) → Option (Int × Int × List (List Int) × List Int)
 | 0, _, _, _, _, _, _, _, _, _, _, _, _, _, _, _, _, _, _, _ => none
 | k + 1, table2, n7, p9, a3_0, a3_1, a3_2, a3_3, b4_0, b4_1, b4_2, b4_3, x6_0, x6_1, out8_0, out8_1, c4, c5, c6, c7 =>
  if p9 < (↑a3_2.length : Int) then
   evermoreref3_Mixed.l7 k table2 n7 p9 0 a3_0 a3_1 a3_2 a3_3 b4_0 b4_1 b4_2 b4_3 x6_0 x6_1 out8_0 out8_1 c4 c5 c6 c7
  else
   (evermoreref3_Least_2.f k (out8_0, out8_1, c6, c7, ())).bind fun r3 =>
    some (r3.fst, r3.snd.fst, r3.snd.snd.fst, r3.snd.snd.snd)
def evermoreref3_Mixed.l7 : Nat → Int → Int → Int → Int → Int → Int → List (List (Int)) → List (Int) → Int → Int → List (List (Int)) → List (Int) → Int → Int → Int → Int → List (List (Int)) → List (Int) → List (List (Int)) → List (Int) → Option (Int × Int × List (List Int) × List Int)
 | 0, _, _, _, _, _, _, _, _, _, _, _, _, _, _, _, _, _, _, _, _ => none
 | k + 1, table2, n7, p9, q10, a3_0, a3_1, a3_2, a3_3, b4_0, b4_1, b4_2, b4_3, x6_0, x6_1, out8_0, out8_1, c4, c5, c6, c7 =>
  if q10 < n7 then
   evermoreref3_Mixed.l11 k table2 n7 p9 q10 0 a3_0 a3_1 a3_2 a3_3 b4_0 b4_1 b4_2 b4_3 x6_0 x6_1 out8_0 out8_1 [] c4 c5 c6 c7
  else
   evermoreref3_Mixed.l4 k table2 n7 (Go.IntKind.i64.wrap (p9 + 1)) a3_0 a3_1 a3_2 a3_3 b4_0 b4_1 b4_2 b4_3 x6_0 x6_1 out8_0 out8_1 c4 c5 c6 c7
def evermoreref3_Mixed.l11 : Nat → Int → Int → Int → Int → Int → Int → Int → List (List (Int)) → List (Int) → Int → Int → List (List (Int)) → List (Int) → Int → Int → Int → Int → List (Int) → List (List (Int)) → List (Int) → List (List (Int)) → List (Int) → Option (Int × Int × List (List Int) × List Int)
 | 0, _, _, _, _, _, _, _, _, _, _, _, _, _, _, _, _, _, _, _, _, _, _ => none
 | k + 1, table2, n7, p9, q10, k12, a3_0, a3_1, a3_2, a3_3, b4_0, b4_1, b4_2, b4_3, x6_0, x6_1, out8_0, out8_1, row11, c5, c6, c7, c8 =>
  if k12 < a3_0 then
   if 0 ≤ p9 then
   if p9 < (↑a3_2.length : Int) then
    if 0 ≤ k12 then
     if k12 < (↑(Go.Proofs.YtiiioobebeaafaaSx.rd [] a3_2 p9).length : Int) then
      if 0 ≤ q10 then
       if q10 < (↑b4_2.length : Int) then
        if 0 ≤ k12 then
         if k12 < (↑(Go.Proofs.YtiiioobebeaafaaSx.rd [] b4_2 q10).length : Int) then
          if (row11 ++ [Go.IntKind.i64.wrap (Go.IntKind.i64.wrap (Go.Proofs.YtiiioobebeaafaaSx.rd (Int.ofNat 0) (Go.Proofs.YtiiioobebeaafaaSx.rd [] a3_2 p9) k12 * n7) + Go.Proofs.YtiiioobebeaafaaSx.rd (Int.ofNat 0) (Go.Proofs.YtiiioobebeaafaaSx.rd [] b4_2 q10) k12)]).length.blt 1000000000 = true then
           evermoreref3_Mixed.l11 k table2 n7 p9 q10 (Go.IntKind.i64.wrap (k12 + 1)) a3_0 a3_1 a3_2 a3_3 b4_0 b4_1 b4_2 b4_3 x6_0 x6_1 out8_0 out8_1 (row11 ++ [Go.IntKind.i64.wrap (Go.IntKind.i64.wrap (Go.Proofs.YtiiioobebeaafaaSx.rd (Int.ofNat 0) (Go.Proofs.YtiiioobebeaafaaSx.rd [] a3_2 p9) k12 * n7) + Go.Proofs.YtiiioobebeaafaaSx.rd (Int.ofNat 0) (Go.Proofs.YtiiioobebeaafaaSx.rd [] b4_2 q10) k12)]) c5 c6 c7 c8
           else none
          else none
         else none
        else none
       else none
      else none
     else none
    else none
   else none
  else
   if (c7 ++ [row11]).length.blt 1000000000 = true then
   if 0 ≤ p9 then
    if p9 < (↑a3_3.length : Int) then
     if 0 ≤ q10 then
      if q10 < (↑b4_3.length : Int) then
       if 0 ≤ Go.IntKind.i64.wrap (Go.IntKind.i64.wrap (2 * Go.Proofs.YtiiioobebeaafaaSx.rd (Int.ofNat 0) a3_3 p9) + Go.Proofs.YtiiioobebeaafaaSx.rd (Int.ofNat 0) b4_3 q10) then
        if (c8 ++ [Go.IntKind.i64.wrap (↑(BitVec.ofInt Go.IntKind.i64.bits (table2.fdiv (2 ^ min (Go.IntKind.i64.wrap (Go.IntKind.i64.wrap (2 * Go.Proofs.YtiiioobebeaafaaSx.rd (Int.ofNat 0) a3_3 p9) + Go.Proofs.YtiiioobebeaafaaSx.rd (Int.ofNat 0) b4_3 q10)).toNat Go.IntKind.i64.bits)) &&& BitVec.ofInt Go.IntKind.i64.bits 1).toNat : Int)]).length.blt 1000000000 = true then
         evermoreref3_Mixed.l7 k table2 n7 p9 (Go.IntKind.i64.wrap (q10 + 1)) a3_0 a3_1 a3_2 a3_3 b4_0 b4_1 b4_2 b4_3 x6_0 x6_1 out8_0 out8_1 c5 c6 (c7 ++ [row11]) (c8 ++ [Go.IntKind.i64.wrap (↑(BitVec.ofInt Go.IntKind.i64.bits (table2.fdiv (2 ^ min (Go.IntKind.i64.wrap (Go.IntKind.i64.wrap (2 * Go.Proofs.YtiiioobebeaafaaSx.rd (Int.ofNat 0) a3_3 p9) + Go.Proofs.YtiiioobebeaafaaSx.rd (Int.ofNat 0) b4_3 q10)).toNat Go.IntKind.i64.bits)) &&& BitVec.ofInt Go.IntKind.i64.bits 1).toNat : Int)])
         else none
        else none
       else none
      else none
     else none
    else none
   else none
end
def evermoreref3_Mixed.f (k : Nat) (a0 : (Int × (Int × (List (List (Int)) × (List (Int) × Unit))))) (b1 : (Int × (Int × (List (List (Int)) × (List (Int) × Unit))))) (table2 : Int) : Option (Int × Int × List (List Int) × List Int) :=
 evermoreref3_Mixed.l4 k table2 ((↑b1.snd.snd.fst.length : Int)) 0 a0.fst a0.snd.fst a0.snd.snd.fst a0.snd.snd.snd.fst b1.fst b1.snd.fst b1.snd.snd.fst b1.snd.snd.snd.fst 0 0 a0.fst (Go.IntKind.i64.wrap (Go.IntKind.i64.wrap (a0.snd.fst * (↑b1.snd.snd.fst.length : Int)) + b1.snd.fst)) [] [] [] []

noncomputable def evermoreref3_Mixed.body : Code := fnBody Try.f54
def evermoreref3_Mixed.ti : Tm := ⟨[(0, .p (.pair (.int .i64) (.pair (.int .i64) (.pair (.slice (.slice (.int .i64))) (.pair (.slice (.int .i64)) .unit))))), (1, .p (.pair (.int .i64) (.pair (.int .i64) (.pair (.slice (.slice (.int .i64))) (.pair (.slice (.int .i64)) .unit))))), (2, .p (.int .i64))], []⟩
def evermoreref3_Mixed.to : Tm := ⟨[(0, .agg [.p (.int .i64), .p (.int .i64), .own 0, .own 1])], [.own (.slice (.int .i64)), .own (.int .i64)]⟩
def evermoreref3_Mixed.rs (r : Int × Int × (List (List Int)) × (List Int)) : List Dat := [⟨(.int .i64), r.1⟩, ⟨(.int .i64), r.2.1⟩, ⟨(.slice (.slice (.int .i64))), r.2.2.1⟩, ⟨(.slice (.int .i64)), r.2.2.2⟩]
def evermoreref3_Mixed.out (ds : List Dat) : Option (Int × Int × (List (List Int)) × (List Int)) := pop (.int .i64) ds fun x0 ds => pop (.int .i64) ds fun x1 ds => pop (.slice (.slice (.int .i64))) ds fun x2 ds => pop (.slice (.int .i64)) ds fun x3 ds => popN ds (some (x0, x1, x2, x3))
def evermoreref3_Mixed.c (k : Nat) (ds : List Dat) : Option (Int × Int × (List (List Int)) × (List Int)) := pop (.pair (.int .i64) (.pair (.int .i64) (.pair (.slice (.slice (.int .i64))) (.pair (.slice (.int .i64)) .unit)))) ds fun x0 ds => pop (.pair (.int .i64) (.pair (.int .i64) (.pair (.slice (.slice (.int .i64))) (.pair (.slice (.int .i64)) .unit)))) ds fun x1 ds => pop (.int .i64) ds fun x2 ds => popN ds (evermoreref3_Mixed.f k x0 x1 x2)
def evermoreref3_Mixed.g : Nat → List Dat → Option (Int × Int × (List (List Int)) × (List Int))
 | 0, _ => none
 | k + 1, ds => evermoreref3_Mixed.c k ds
def evermoreref3_Mixed.env (k : Nat) : Nat → List SV → List Chunk → KT (Int × Int × (List (List Int)) × (List Int)) → Option (Int × Int × (List (List Int)) × (List Int)) := (envC 46 1 evermoreref3_Least_2.ti evermoreref3_Least_2.to (fun ds K => pop (.pair (.int .i64) (.pair (.int .i64) (.pair (.slice (.slice (.int .i64))) (.pair (.slice (.int .i64)) .unit)))) ds fun x0 ds => popN ds ((evermoreref3_Least_2.f k x0).bind fun r => K (evermoreref3_Least_2.rs r))) env0)
def evermoreref3_Mixed.t9 : Tm := ⟨[(2, .p (.int .i64)), (3, .ptr 0 0), (4, .ptr 1 0), (6, .ptr 2 0), (7, .p (.int .i64)), (8, .ptr 3 0), (9, .p (.int .i64))], [.box [.p (.int .i64), .p (.int .i64), .p (.slice (.slice (.int .i64))), .p (.slice (.int .i64))] 58, .box [.p (.int .i64), .p (.int .i64), .p (.slice (.slice (.int .i64))), .p (.slice (.int .i64))] 58, .box [.p (.int .i64), .p (.int .i64), .own 4, .own 5] 58, .box [.p (.int .i64), .p (.int .i64), .own 6, .own 7] 58, .own (.slice (.int .i64)), .own (.int .i64), .own (.slice (.int .i64)), .own (.int .i64)]⟩
def evermoreref3_Mixed.c9 (k : Nat) (ds : List Dat) : Option (Int × Int × (List (List Int)) × (List Int)) := pop (.int .i64) ds fun x0 ds => pop (.int .i64) ds fun x1 ds => pop (.int .i64) ds fun x2 ds => pop (.int .i64) ds fun x3 ds => pop (.int .i64) ds fun x4 ds => pop (.slice (.slice (.int .i64))) ds fun x5 ds => pop (.slice (.int .i64)) ds fun x6 ds => pop (.int .i64) ds fun x7 ds => pop (.int .i64) ds fun x8 ds => pop (.slice (.slice (.int .i64))) ds fun x9 ds => pop (.slice (.int .i64)) ds fun x10 ds => pop (.int .i64) ds fun x11 ds => pop (.int .i64) ds fun x12 ds => pop (.int .i64) ds fun x13 ds => pop (.int .i64) ds fun x14 ds => pop (.slice (.slice (.int .i64))) ds fun x15 ds => pop (.slice (.int .i64)) ds fun x16 ds => pop (.slice (.slice (.int .i64))) ds fun x17 ds => pop (.slice (.int .i64)) ds fun x18 ds => popN ds (evermoreref3_Mixed.l4 k x0 x1 x2 x3 x4 x5 x6 x7 x8 x9 x10 x11 x12 x13 x14 x15 x16 x17 x18)
def evermoreref3_Mixed.t15 : Tm := ⟨[(2, .p (.int .i64)), (3, .ptr 0 0), (4, .ptr 1 0), (6, .ptr 2 0), (7, .p (.int .i64)), (8, .ptr 3 0), (9, .p (.int .i64)), (10, .p (.int .i64))], [.box [.p (.int .i64), .p (.int .i64), .p (.slice (.slice (.int .i64))), .p (.slice (.int .i64))] 58, .box [.p (.int .i64), .p (.int .i64), .p (.slice (.slice (.int .i64))), .p (.slice (.int .i64))] 58, .box [.p (.int .i64), .p (.int .i64), .own 4, .own 5] 58, .box [.p (.int .i64), .p (.int .i64), .own 6, .own 7] 58, .own (.slice (.int .i64)), .own (.int .i64), .own (.slice (.int .i64)), .own (.int .i64)]⟩
def evermoreref3_Mixed.c15 (k : Nat) (ds : List Dat) : Option (Int × Int × (List (List Int)) × (List Int)) := pop (.int .i64) ds fun x0 ds => pop (.int .i64) ds fun x1 ds => pop (.int .i64) ds fun x2 ds => pop (.int .i64) ds fun x3 ds => pop (.int .i64) ds fun x4 ds => pop (.int .i64) ds fun x5 ds => pop (.slice (.slice (.int .i64))) ds fun x6 ds => pop (.slice (.int .i64)) ds fun x7 ds => pop (.int .i64) ds fun x8 ds => pop (.int .i64) ds fun x9 ds => pop (.slice (.slice (.int .i64))) ds fun x10 ds => pop (.slice (.int .i64)) ds fun x11 ds => pop (.int .i64) ds fun x12 ds => pop (.int .i64) ds fun x13 ds => pop (.int .i64) ds fun x14 ds => pop (.int .i64) ds fun x15 ds => pop (.slice (.slice (.int .i64))) ds fun x16 ds => pop (.slice (.int .i64)) ds fun x17 ds => pop (.slice (.slice (.int .i64))) ds fun x18 ds => pop (.slice (.int .i64)) ds fun x19 ds => popN ds (evermoreref3_Mixed.l7 k x0 x1 x2 x3 x4 x5 x6 x7 x8 x9 x10 x11 x12 x13 x14 x15 x16 x17 x18 x19)
def evermoreref3_Mixed.t23 : Tm := ⟨[(2, .p (.int .i64)), (3, .ptr 0 0), (4, .ptr 1 0), (6, .ptr 2 0), (7, .p (.int .i64)), (8, .ptr 3 0), (9, .p (.int .i64)), (10, .p (.int .i64)), (11, .own 4), (12, .p (.int .i64))], [.box [.p (.int .i64), .p (.int .i64), .p (.slice (.slice (.int .i64))), .p (.slice (.int .i64))] 58, .box [.p (.int .i64), .p (.int .i64), .p (.slice (.slice (.int .i64))), .p (.slice (.int .i64))] 58, .box [.p (.int .i64), .p (.int .i64), .own 5, .own 6] 58, .box [.p (.int .i64), .p (.int .i64), .own 7, .own 8] 58, .own (.int .i64), .own (.slice (.int .i64)), .own (.int .i64), .own (.slice (.int .i64)), .own (.int .i64)]⟩
def evermoreref3_Mixed.c23 (k : Nat) (ds : List Dat) : Option (Int × Int × (List (List Int)) × (List Int)) := pop (.int .i64) ds fun x0 ds => pop (.int .i64) ds fun x1 ds => pop (.int .i64) ds fun x2 ds => pop (.int .i64) ds fun x3 ds => pop (.int .i64) ds fun x4 ds => pop (.int .i64) ds fun x5 ds => pop (.int .i64) ds fun x6 ds => pop (.slice (.slice (.int .i64))) ds fun x7 ds => pop (.slice (.int .i64)) ds fun x8 ds => pop (.int .i64) ds fun x9 ds => pop (.int .i64) ds fun x10 ds => pop (.slice (.slice (.int .i64))) ds fun x11 ds => pop (.slice (.int .i64)) ds fun x12 ds => pop (.int .i64) ds fun x13 ds => pop (.int .i64) ds fun x14 ds => pop (.int .i64) ds fun x15 ds => pop (.int .i64) ds fun x16 ds => pop (.slice (.int .i64)) ds fun x17 ds => pop (.slice (.slice (.int .i64))) ds fun x18 ds => pop (.slice (.int .i64)) ds fun x19 ds => pop (.slice (.slice (.int .i64))) ds fun x20 ds => pop (.slice (.int .i64)) ds fun x21 ds => popN ds (evermoreref3_Mixed.l11 k x0 x1 x2 x3 x4 x5 x6 x7 x8 x9 x10 x11 x12 x13 x14 x15 x16 x17 x18 x19 x20 x21)
def evermoreref3_Mixed.tbl : List (Nat × Tm × (Nat → List Dat → Option (Int × Int × (List (List Int)) × (List Int)))) := [(9, evermoreref3_Mixed.t9, evermoreref3_Mixed.c9), (15, evermoreref3_Mixed.t15, evermoreref3_Mixed.c15), (23, evermoreref3_Mixed.t23, evermoreref3_Mixed.c23)]
noncomputable abbrev evermoreref3_Mixed.R (k : Nat) := run T (evermoreref3_Mixed.env k) Try.f54.ntmps (cutE 0 evermoreref3_Mixed.tbl k) (finE 0 evermoreref3_Mixed.to evermoreref3_Mixed.out) (fnRes Try.f54) [] 100000 true
theorem evermoreref3_Mixed.e9 (k : Nat) (x0 : Int) (x1 : Int) (x2 : Int) (x3 : Int) (x4 : Int) (x5 : (List (List Int))) (x6 : (List Int)) (x7 : Int) (x8 : Int) (x9 : (List (List Int))) (x10 : (List Int)) (x11 : Int) (x12 : Int) (x13 : Int) (x14 : Int) (x15 : (List (List Int))) (x16 : (List Int)) (x17 : (List (List Int))) (x18 : (List Int)) : evermoreref3_Mixed.l4 (k + 1) x0 x1 x2 x3 x4 x5 x6 x7 x8 x9 x10 x11 x12 x13 x14 x15 x16 x17 x18 = evermoreref3_Mixed.R k (start (stackOf 9 evermoreref3_Mixed.body)) (evermoreref3_Mixed.t9.fill [⟨(.int .i64), x0⟩, ⟨(.int .i64), x1⟩, ⟨(.int .i64), x2⟩, ⟨(.int .i64), x3⟩, ⟨(.int .i64), x4⟩, ⟨(.slice (.slice (.int .i64))), x5⟩, ⟨(.slice (.int .i64)), x6⟩, ⟨(.int .i64), x7⟩, ⟨(.int .i64), x8⟩, ⟨(.slice (.slice (.int .i64))), x9⟩, ⟨(.slice (.int .i64)), x10⟩, ⟨(.int .i64), x11⟩, ⟨(.int .i64), x12⟩, ⟨(.int .i64), x13⟩, ⟨(.int .i64), x14⟩, ⟨(.slice (.slice (.int .i64))), x15⟩, ⟨(.slice (.int .i64)), x16⟩, ⟨(.slice (.slice (.int .i64))), x17⟩, ⟨(.slice (.int .i64)), x18⟩]) := by kernel_rfl
theorem evermoreref3_Mixed.s9 : stackAt 9 evermoreref3_Mixed.body [] = some (stackOf 9 evermoreref3_Mixed.body) := by kernel_rfl
theorem evermoreref3_Mixed.h9 (k : Nat) (ds : List Dat) (r : Int × Int × (List (List Int)) × (List Int)) (h : evermoreref3_Mixed.c9 k ds = some r) : ∃ k', k' < k ∧ ∃ s, stackAt 9 evermoreref3_Mixed.body [] = some s ∧ evermoreref3_Mixed.R k' (start s) (evermoreref3_Mixed.t9.fill ds) = some r := by
  unfold evermoreref3_Mixed.c9 at h
  obtain ⟨x0, d0, rfl, h0⟩ := pop_some h
  obtain ⟨x1, d1, rfl, h1⟩ := pop_some h0
  obtain ⟨x2, d2, rfl, h2⟩ := pop_some h1
  obtain ⟨x3, d3, rfl, h3⟩ := pop_some h2
  obtain ⟨x4, d4, rfl, h4⟩ := pop_some h3
  obtain ⟨x5, d5, rfl, h5⟩ := pop_some h4
  obtain ⟨x6, d6, rfl, h6⟩ := pop_some h5
  obtain ⟨x7, d7, rfl, h7⟩ := pop_some h6
  obtain ⟨x8, d8, rfl, h8⟩ := pop_some h7
  obtain ⟨x9, d9, rfl, h9⟩ := pop_some h8
  obtain ⟨x10, d10, rfl, h10⟩ := pop_some h9
  obtain ⟨x11, d11, rfl, h11⟩ := pop_some h10
  obtain ⟨x12, d12, rfl, h12⟩ := pop_some h11
  obtain ⟨x13, d13, rfl, h13⟩ := pop_some h12
  obtain ⟨x14, d14, rfl, h14⟩ := pop_some h13
  obtain ⟨x15, d15, rfl, h15⟩ := pop_some h14
  obtain ⟨x16, d16, rfl, h16⟩ := pop_some h15
  obtain ⟨x17, d17, rfl, h17⟩ := pop_some h16
  obtain ⟨x18, d18, rfl, h18⟩ := pop_some h17
  obtain ⟨rfl, g⟩ := popN_some h18
  cases k with
  | zero => cases (show none = some r from g)
  | succ k => exact ⟨k, Nat.lt_succ_self k, _, evermoreref3_Mixed.s9, (evermoreref3_Mixed.e9 k x0 x1 x2 x3 x4 x5 x6 x7 x8 x9 x10 x11 x12 x13 x14 x15 x16 x17 x18).symm.trans g⟩
theorem evermoreref3_Mixed.e15 (k : Nat) (x0 : Int) (x1 : Int) (x2 : Int) (x3 : Int) (x4 : Int) (x5 : Int) (x6 : (List (List Int))) (x7 : (List Int)) (x8 : Int) (x9 : Int) (x10 : (List (List Int))) (x11 : (List Int)) (x12 : Int) (x13 : Int) (x14 : Int) (x15 : Int) (x16 : (List (List Int))) (x17 : (List Int)) (x18 : (List (List Int))) (x19 : (List Int)) : evermoreref3_Mixed.l7 (k + 1) x0 x1 x2 x3 x4 x5 x6 x7 x8 x9 x10 x11 x12 x13 x14 x15 x16 x17 x18 x19 = evermoreref3_Mixed.R k (start (stackOf 15 evermoreref3_Mixed.body)) (evermoreref3_Mixed.t15.fill [⟨(.int .i64), x0⟩, ⟨(.int .i64), x1⟩, ⟨(.int .i64), x2⟩, ⟨(.int .i64), x3⟩, ⟨(.int .i64), x4⟩, ⟨(.int .i64), x5⟩, ⟨(.slice (.slice (.int .i64))), x6⟩, ⟨(.slice (.int .i64)), x7⟩, ⟨(.int .i64), x8⟩, ⟨(.int .i64), x9⟩, ⟨(.slice (.slice (.int .i64))), x10⟩, ⟨(.slice (.int .i64)), x11⟩, ⟨(.int .i64), x12⟩, ⟨(.int .i64), x13⟩, ⟨(.int .i64), x14⟩, ⟨(.int .i64), x15⟩, ⟨(.slice (.slice (.int .i64))), x16⟩, ⟨(.slice (.int .i64)), x17⟩, ⟨(.slice (.slice (.int .i64))), x18⟩, ⟨(.slice (.int .i64)), x19⟩]) := by kernel_rfl
theorem evermoreref3_Mixed.s15 : stackAt 15 evermoreref3_Mixed.body [] = some (stackOf 15 evermoreref3_Mixed.body) := by kernel_rfl
theorem evermoreref3_Mixed.h15 (k : Nat) (ds : List Dat) (r : Int × Int × (List (List Int)) × (List Int)) (h : evermoreref3_Mixed.c15 k ds = some r) : ∃ k', k' < k ∧ ∃ s, stackAt 15 evermoreref3_Mixed.body [] = some s ∧ evermoreref3_Mixed.R k' (start s) (evermoreref3_Mixed.t15.fill ds) = some r := by
  unfold evermoreref3_Mixed.c15 at h
  obtain ⟨x0, d0, rfl, h0⟩ := pop_some h
  obtain ⟨x1, d1, rfl, h1⟩ := pop_some h0
  obtain ⟨x2, d2, rfl, h2⟩ := pop_some h1
  obtain ⟨x3, d3, rfl, h3⟩ := pop_some h2
  obtain ⟨x4, d4, rfl, h4⟩ := pop_some h3
  obtain ⟨x5, d5, rfl, h5⟩ := pop_some h4
  obtain ⟨x6, d6, rfl, h6⟩ := pop_some h5
  obtain ⟨x7, d7, rfl, h7⟩ := pop_some h6
  obtain ⟨x8, d8, rfl, h8⟩ := pop_some h7
  obtain ⟨x9, d9, rfl, h9⟩ := pop_some h8
  obtain ⟨x10, d10, rfl, h10⟩ := pop_some h9
  obtain ⟨x11, d11, rfl, h11⟩ := pop_some h10
  obtain ⟨x12, d12, rfl, h12⟩ := pop_some h11
  obtain ⟨x13, d13, rfl, h13⟩ := pop_some h12
  obtain ⟨x14, d14, rfl, h14⟩ := pop_some h13
  obtain ⟨x15, d15, rfl, h15⟩ := pop_some h14
  obtain ⟨x16, d16, rfl, h16⟩ := pop_some h15
  obtain ⟨x17, d17, rfl, h17⟩ := pop_some h16
  obtain ⟨x18, d18, rfl, h18⟩ := pop_some h17
  obtain ⟨x19, d19, rfl, h19⟩ := pop_some h18
  obtain ⟨rfl, g⟩ := popN_some h19
  cases k with
  | zero => cases (show none = some r from g)
  | succ k => exact ⟨k, Nat.lt_succ_self k, _, evermoreref3_Mixed.s15, (evermoreref3_Mixed.e15 k x0 x1 x2 x3 x4 x5 x6 x7 x8 x9 x10 x11 x12 x13 x14 x15 x16 x17 x18 x19).symm.trans g⟩
theorem evermoreref3_Mixed.e23 (k : Nat) (x0 : Int) (x1 : Int) (x2 : Int) (x3 : Int) (x4 : Int) (x5 : Int) (x6 : Int) (x7 : (List (List Int))) (x8 : (List Int)) (x9 : Int) (x10 : Int) (x11 : (List (List Int))) (x12 : (List Int)) (x13 : Int) (x14 : Int) (x15 : Int) (x16 : Int) (x17 : (List Int)) (x18 : (List (List Int))) (x19 : (List Int)) (x20 : (List (List Int))) (x21 : (List Int)) : evermoreref3_Mixed.l11 (k + 1) x0 x1 x2 x3 x4 x5 x6 x7 x8 x9 x10 x11 x12 x13 x14 x15 x16 x17 x18 x19 x20 x21 = evermoreref3_Mixed.R k (start (stackOf 23 evermoreref3_Mixed.body)) (evermoreref3_Mixed.t23.fill [⟨(.int .i64), x0⟩, ⟨(.int .i64), x1⟩, ⟨(.int .i64), x2⟩, ⟨(.int .i64), x3⟩, ⟨(.int .i64), x4⟩, ⟨(.int .i64), x5⟩, ⟨(.int .i64), x6⟩, ⟨(.slice (.slice (.int .i64))), x7⟩, ⟨(.slice (.int .i64)), x8⟩, ⟨(.int .i64), x9⟩, ⟨(.int .i64), x10⟩, ⟨(.slice (.slice (.int .i64))), x11⟩, ⟨(.slice (.int .i64)), x12⟩, ⟨(.int .i64), x13⟩, ⟨(.int .i64), x14⟩, ⟨(.int .i64), x15⟩, ⟨(.int .i64), x16⟩, ⟨(.slice (.int .i64)), x17⟩, ⟨(.slice (.slice (.int .i64))), x18⟩, ⟨(.slice (.int .i64)), x19⟩, ⟨(.slice (.slice (.int .i64))), x20⟩, ⟨(.slice (.int .i64)), x21⟩]) := by kernel_rfl
theorem evermoreref3_Mixed.s23 : stackAt 23 evermoreref3_Mixed.body [] = some (stackOf 23 evermoreref3_Mixed.body) := by kernel_rfl
theorem evermoreref3_Mixed.h23 (k : Nat) (ds : List Dat) (r : Int × Int × (List (List Int)) × (List Int)) (h : evermoreref3_Mixed.c23 k ds = some r) : ∃ k', k' < k ∧ ∃ s, stackAt 23 evermoreref3_Mixed.body [] = some s ∧ evermoreref3_Mixed.R k' (start s) (evermoreref3_Mixed.t23.fill ds) = some r := by
  unfold evermoreref3_Mixed.c23 at h
  obtain ⟨x0, d0, rfl, h0⟩ := pop_some h
  obtain ⟨x1, d1, rfl, h1⟩ := pop_some h0
  obtain ⟨x2, d2, rfl, h2⟩ := pop_some h1
  obtain ⟨x3, d3, rfl, h3⟩ := pop_some h2
  obtain ⟨x4, d4, rfl, h4⟩ := pop_some h3
  obtain ⟨x5, d5, rfl, h5⟩ := pop_some h4
  obtain ⟨x6, d6, rfl, h6⟩ := pop_some h5
  obtain ⟨x7, d7, rfl, h7⟩ := pop_some h6
  obtain ⟨x8, d8, rfl, h8⟩ := pop_some h7
  obtain ⟨x9, d9, rfl, h9⟩ := pop_some h8
  obtain ⟨x10, d10, rfl, h10⟩ := pop_some h9
  obtain ⟨x11, d11, rfl, h11⟩ := pop_some h10
  obtain ⟨x12, d12, rfl, h12⟩ := pop_some h11
  obtain ⟨x13, d13, rfl, h13⟩ := pop_some h12
  obtain ⟨x14, d14, rfl, h14⟩ := pop_some h13
  obtain ⟨x15, d15, rfl, h15⟩ := pop_some h14
  obtain ⟨x16, d16, rfl, h16⟩ := pop_some h15
  obtain ⟨x17, d17, rfl, h17⟩ := pop_some h16
  obtain ⟨x18, d18, rfl, h18⟩ := pop_some h17
  obtain ⟨x19, d19, rfl, h19⟩ := pop_some h18
  obtain ⟨x20, d20, rfl, h20⟩ := pop_some h19
  obtain ⟨x21, d21, rfl, h21⟩ := pop_some h20
  obtain ⟨rfl, g⟩ := popN_some h21
  cases k with
  | zero => cases (show none = some r from g)
  | succ k => exact ⟨k, Nat.lt_succ_self k, _, evermoreref3_Mixed.s23, (evermoreref3_Mixed.e23 k x0 x1 x2 x3 x4 x5 x6 x7 x8 x9 x10 x11 x12 x13 x14 x15 x16 x17 x18 x19 x20 x21).symm.trans g⟩
theorem evermoreref3_Mixed.e (k : Nat) (x0 : (Int × (Int × ((List (List Int)) × ((List Int) × Unit))))) (x1 : (Int × (Int × ((List (List Int)) × ((List Int) × Unit))))) (x2 : Int) : evermoreref3_Mixed.f k x0 x1 x2 = evermoreref3_Mixed.R k ([.code evermoreref3_Mixed.body]) (evermoreref3_Mixed.ti.fill [⟨(.pair (.int .i64) (.pair (.int .i64) (.pair (.slice (.slice (.int .i64))) (.pair (.slice (.int .i64)) .unit)))), x0⟩, ⟨(.pair (.int .i64) (.pair (.int .i64) (.pair (.slice (.slice (.int .i64))) (.pair (.slice (.int .i64)) .unit)))), x1⟩, ⟨(.int .i64), x2⟩]) := by kernel_rfl
theorem evermoreref3_Mixed.h (k : Nat) (ds : List Dat) (r : Int × Int × (List (List Int)) × (List Int)) (h : evermoreref3_Mixed.g k ds = some r) : ∃ k', k' < k ∧ evermoreref3_Mixed.R k' ([.code evermoreref3_Mixed.body]) (evermoreref3_Mixed.ti.fill ds) = some r := by
  cases k with
  | zero => cases (show none = some r from h)
  | succ k =>
  replace h : evermoreref3_Mixed.c k ds = some r := h
  unfold evermoreref3_Mixed.c at h
  obtain ⟨x0, d0, rfl, h0⟩ := pop_some h
  obtain ⟨x1, d1, rfl, h1⟩ := pop_some h0
  obtain ⟨x2, d2, rfl, h2⟩ := pop_some h1
  obtain ⟨rfl, g⟩ := popN_some h2
  exact ⟨k, Nat.lt_succ_self k, (evermoreref3_Mixed.e k x0 x1 x2).symm.trans g⟩
theorem evermoreref3_Mixed.o (ds : List Dat) (r : Int × Int × (List (List Int)) × (List Int)) (h : evermoreref3_Mixed.out ds = some r) : ds = evermoreref3_Mixed.rs r := by
  unfold evermoreref3_Mixed.out at h
  obtain ⟨x0, d0, rfl, h0⟩ := pop_some h
  obtain ⟨x1, d1, rfl, h1⟩ := pop_some h0
  obtain ⟨x2, d2, rfl, h2⟩ := pop_some h1
  obtain ⟨x3, d3, rfl, h3⟩ := pop_some h2
  obtain ⟨rfl, g⟩ := popN_some h3
  cases g
  rfl
theorem evermoreref3_Mixed.fn : FnOk Try.prog 54 Try.f54 evermoreref3_Mixed.body Try.f54.ntmps 3 (fnRes Try.f54) :=
  fnOk_of (by kernel_rfl) (by kernel_rfl) (by kernel_rfl) (by kernel_rfl)
theorem evermoreref3_Mixed.con' : ∀ k ds r, evermoreref3_Mixed.g k ds = some r → Con Try.prog 54 3 evermoreref3_Mixed.ti evermoreref3_Mixed.to ds (evermoreref3_Mixed.rs r) :=
  fun_ok (T := T) T_ok mixed evermoreref3_Mixed.fn (env := evermoreref3_Mixed.env) (tbl := evermoreref3_Mixed.tbl) (gOut := evermoreref3_Mixed.out) (nin := 0) (cuts := []) (fuel := 100000) rfl (by kernel_rfl) (by kernel_rfl) (by kernel_rfl) (fun x hx => by
    simp only [evermoreref3_Mixed.tbl, List.mem_cons, List.not_mem_nil, or_false] at hx
    rcases hx with rfl | rfl | rfl
    · exact evermoreref3_Mixed.h9
    · exact evermoreref3_Mixed.h15
    · exact evermoreref3_Mixed.h23
) evermoreref3_Mixed.o evermoreref3_Mixed.h (fun k _ => by unfold evermoreref3_Mixed.env; exact (envC_ok (fun ds K r h => by
    obtain ⟨x0, d0, rfl, h0⟩ := pop_some h
    obtain ⟨rfl, g⟩ := popN_some h0
    obtain ⟨r1, h1, h2⟩ := bind_some g
    exact ⟨_, h2, evermoreref3_Least_2.con k _ h1⟩) env0_ok))
theorem evermoreref3_Mixed.con (k : Nat) {x0 : (Int × (Int × ((List (List Int)) × ((List Int) × Unit))))} {x1 : (Int × (Int × ((List (List Int)) × ((List Int) × Unit))))} {x2 : Int} (r : Int × Int × (List (List Int)) × (List Int)) (h : evermoreref3_Mixed.f k x0 x1 x2 = some r) : Con Try.prog 54 3 evermoreref3_Mixed.ti evermoreref3_Mixed.to [⟨(.pair (.int .i64) (.pair (.int .i64) (.pair (.slice (.slice (.int .i64))) (.pair (.slice (.int .i64)) .unit)))), x0⟩, ⟨(.pair (.int .i64) (.pair (.int .i64) (.pair (.slice (.slice (.int .i64))) (.pair (.slice (.int .i64)) .unit)))), x1⟩, ⟨(.int .i64), x2⟩] (evermoreref3_Mixed.rs r) :=
  evermoreref3_Mixed.con' (k + 1) _ r (by show evermoreref3_Mixed.c k _ = some r; unfold evermoreref3_Mixed.c; simp only [pop_self, popN]; exact h)
mutual
def evermoreref3_Same.l4 : Nat → Int → Int → Int → List (List (Int)) → List (Int) → Int → Int → List (List (Int)) → List (Int) → Option (Bool)
 | 0, _, _, _, _, _, _, _, _, _ => none
 | k + 1, i5, a2_0, a2_1, a2_2, a2_3, b3_0, b3_1, b3_2, b3_3 =>
  if i5 < (↑a2_3.length : Int) then
   if 0 ≤ i5 then
   if i5 < (↑a2_3.length : Int) then
    if 0 ≤ i5 then
     if i5 < (↑b3_3.length : Int) then
      if Go.Proofs.YtiiioobebeaafaaSx.rd (Int.ofNat 0) a2_3 i5 = Go.Proofs.YtiiioobebeaafaaSx.rd (Int.ofNat 0) b3_3 i5 then
        evermoreref3_Same.l4 k (Go.IntKind.i64.wrap (i5 + 1)) a2_0 a2_1 a2_2 a2_3 b3_0 b3_1 b3_2 b3_3
       else
        some (false)
      else none
     else none
    else none
   else none
  else
   evermoreref3_Same.l9 k 0 a2_0 a2_1 a2_2 a2_3 b3_0 b3_1 b3_2 b3_3
def evermoreref3_Same.l9 : Nat → Int → Int → Int → List (List (Int)) → List (Int) → Int → Int → List (List (Int)) → List (Int) → Option (Bool)
 | 0, _, _, _, _, _, _, _, _, _ => none
 | k + 1, i6, a2_0, a2_1, a2_2, a2_3, b3_0, b3_1, b3_2, b3_3 =>
  if i6 < (↑a2_2.length : Int) then
   if 0 ≤ i6 then
   if i6 < (↑a2_2.length : Int) then
    if 0 ≤ i6 then
     if i6 < (↑b3_2.length : Int) then
      if (↑(Go.Proofs.YtiiioobebeaafaaSx.rd [] a2_2 i6).length : Int) = (↑(Go.Proofs.YtiiioobebeaafaaSx.rd [] b3_2 i6).length : Int) then
        evermoreref3_Same.l14 k i6 0 a2_0 a2_1 a2_2 a2_3 b3_0 b3_1 b3_2 b3_3
       else
        some (false)
      else none
     else none
    else none
   else none
  else
   some (true)
def evermoreref3_Same.l14 : Nat → Int → Int → Int → Int → List (List (Int)) → List (Int) → Int → Int → List (List (Int)) → List (Int) → Option (Bool)
 | 0, _, _, _, _, _, _, _, _, _, _ => none
 | k + 1, i6, k7, a2_0, a2_1, a2_2, a2_3, b3_0, b3_1, b3_2, b3_3 =>
  if 0 ≤ i6 then
  if i6 < (↑a2_2.length : Int) then
   if k7 < (↑(Go.Proofs.YtiiioobebeaafaaSx.rd [] a2_2 i6).length : Int) then
     if 0 ≤ i6 then
     if i6 < (↑a2_2.length : Int) then
      if 0 ≤ k7 then
       if k7 < (↑(Go.Proofs.YtiiioobebeaafaaSx.rd [] a2_2 i6).length : Int) then
        if 0 ≤ i6 then
         if i6 < (↑b3_2.length : Int) then
          if 0 ≤ k7 then
           if k7 < (↑(Go.Proofs.YtiiioobebeaafaaSx.rd [] b3_2 i6).length : Int) then
            if Go.Proofs.YtiiioobebeaafaaSx.rd (Int.ofNat 0) (Go.Proofs.YtiiioobebeaafaaSx.rd [] a2_2 i6) k7 = Go.Proofs.YtiiioobebeaafaaSx.rd (Int.ofNat 0) (Go.Proofs.YtiiioobebeaafaaSx.rd [] b3_2 i6) k7 then
              evermoreref3_Same.l14 k i6 (Go.IntKind.i64.wrap (k7 + 1)) a2_0 a2_1 a2_2 a2_3 b3_0 b3_1 b3_2 b3_3
             else
              some (false)
            else none
           else none
          else none
         else none
        else none
       else none
      else none
     else none
    else
     evermoreref3_Same.l9 k (Go.IntKind.i64.wrap (i6 + 1)) a2_0 a2_1 a2_2 a2_3 b3_0 b3_1 b3_2 b3_3
   else none
  else none
end
def evermoreref3_Same.f (k : Nat) (a0 : (Int × (Int × (List (List (Int)) × (List (Int) × Unit))))) (b1 : (Int × (Int × (List (List (Int)) × (List (Int) × Unit))))) : Option (Bool) :=
 if a0.fst = b1.fst then
  if a0.snd.fst = b1.snd.fst then
   if (↑a0.snd.snd.fst.length : Int) = (↑b1.snd.snd.fst.length : Int) then
    if (↑a0.snd.snd.snd.fst.length : Int) = (↑b1.snd.snd.snd.fst.length : Int) then
     evermoreref3_Same.l4 k 0 a0.fst a0.snd.fst a0.snd.snd.fst a0.snd.snd.snd.fst b1.fst b1.snd.fst b1.snd.snd.fst b1.snd.snd.snd.fst
    else
     some (false)
   else
    some (false)
  else
   some (false)
 else
  some (false)

noncomputable def evermoreref3_Same.body : Code := fnBody Try.f44
def evermoreref3_Same.ti : Tm := ⟨[(0, .p (.pair (.int .i64) (.pair (.int .i64) (.pair (.slice (.slice (.int .i64))) (.pair (.slice (.int .i64)) .unit))))), (1, .p (.pair (.int .i64) (.pair (.int .i64) (.pair (.slice (.slice (.int .i64))) (.pair (.slice (.int .i64)) .unit)))))], []⟩
def evermoreref3_Same.to : Tm := ⟨[(0, .p .bool)], []⟩
def evermoreref3_Same.rs (r : Bool) : List Dat := [⟨.bool, r⟩]
def evermoreref3_Same.out (ds : List Dat) : Option (Bool) := pop .bool ds fun x0 ds => popN ds (some (x0))
def evermoreref3_Same.c (k : Nat) (ds : List Dat) : Option (Bool) := pop (.pair (.int .i64) (.pair (.int .i64) (.pair (.slice (.slice (.int .i64))) (.pair (.slice (.int .i64)) .unit)))) ds fun x0 ds => pop (.pair (.int .i64) (.pair (.int .i64) (.pair (.slice (.slice (.int .i64))) (.pair (.slice (.int .i64)) .unit)))) ds fun x1 ds => popN ds (evermoreref3_Same.f k x0 x1)
def evermoreref3_Same.g : Nat → List Dat → Option (Bool)
 | 0, _ => none
 | k + 1, ds => evermoreref3_Same.c k ds
def evermoreref3_Same.env (k : Nat) : Nat → List SV → List Chunk → KT (Bool) → Option (Bool) := env0
def evermoreref3_Same.t9 : Tm := ⟨[(2, .ptr 0 0), (3, .ptr 1 0), (5, .p (.int .i64))], [.box [.p (.int .i64), .p (.int .i64), .p (.slice (.slice (.int .i64))), .p (.slice (.int .i64))] 58, .box [.p (.int .i64), .p (.int .i64), .p (.slice (.slice (.int .i64))), .p (.slice (.int .i64))] 58]⟩
def evermoreref3_Same.c9 (k : Nat) (ds : List Dat) : Option (Bool) := pop (.int .i64) ds fun x0 ds => pop (.int .i64) ds fun x1 ds => pop (.int .i64) ds fun x2 ds => pop (.slice (.slice (.int .i64))) ds fun x3 ds => pop (.slice (.int .i64)) ds fun x4 ds => pop (.int .i64) ds fun x5 ds => pop (.int .i64) ds fun x6 ds => pop (.slice (.slice (.int .i64))) ds fun x7 ds => pop (.slice (.int .i64)) ds fun x8 ds => popN ds (evermoreref3_Same.l4 k x0 x1 x2 x3 x4 x5 x6 x7 x8)
def evermoreref3_Same.t19 : Tm := ⟨[(2, .ptr 0 0), (3, .ptr 1 0), (6, .p (.int .i64))], [.box [.p (.int .i64), .p (.int .i64), .p (.slice (.slice (.int .i64))), .p (.slice (.int .i64))] 58, .box [.p (.int .i64), .p (.int .i64), .p (.slice (.slice (.int .i64))), .p (.slice (.int .i64))] 58]⟩
def evermoreref3_Same.c19 (k : Nat) (ds : List Dat) : Option (Bool) := pop (.int .i64) ds fun x0 ds => pop (.int .i64) ds fun x1 ds => pop (.int .i64) ds fun x2 ds => pop (.slice (.slice (.int .i64))) ds fun x3 ds => pop (.slice (.int .i64)) ds fun x4 ds => pop (.int .i64) ds fun x5 ds => pop (.int .i64) ds fun x6 ds => pop (.slice (.slice (.int .i64))) ds fun x7 ds => pop (.slice (.int .i64)) ds fun x8 ds => popN ds (evermoreref3_Same.l9 k x0 x1 x2 x3 x4 x5 x6 x7 x8)
def evermoreref3_Same.t29 : Tm := ⟨[(2, .ptr 0 0), (3, .ptr 1 0), (6, .p (.int .i64)), (7, .p (.int .i64))], [.box [.p (.int .i64), .p (.int .i64), .p (.slice (.slice (.int .i64))), .p (.slice (.int .i64))] 58, .box [.p (.int .i64), .p (.int .i64), .p (.slice (.slice (.int .i64))), .p (.slice (.int .i64))] 58]⟩
def evermoreref3_Same.c29 (k : Nat) (ds : List Dat) : Option (Bool) := pop (.int .i64) ds fun x0 ds => pop (.int .i64) ds fun x1 ds => pop (.int .i64) ds fun x2 ds => pop (.int .i64) ds fun x3 ds => pop (.slice (.slice (.int .i64))) ds fun x4 ds => pop (.slice (.int .i64)) ds fun x5 ds => pop (.int .i64) ds fun x6 ds => pop (.int .i64) ds fun x7 ds => pop (.slice (.slice (.int .i64))) ds fun x8 ds => pop (.slice (.int .i64)) ds fun x9 ds => popN ds (evermoreref3_Same.l14 k x0 x1 x2 x3 x4 x5 x6 x7 x8 x9)
def evermoreref3_Same.tbl : List (Nat × Tm × (Nat → List Dat → Option (Bool))) := [(9, evermoreref3_Same.t9, evermoreref3_Same.c9), (19, evermoreref3_Same.t19, evermoreref3_Same.c19), (29, evermoreref3_Same.t29, evermoreref3_Same.c29)]
noncomputable abbrev evermoreref3_Same.R (k : Nat) := run T (evermoreref3_Same.env k) Try.f44.ntmps (cutE 0 evermoreref3_Same.tbl k) (finE 0 evermoreref3_Same.to evermoreref3_Same.out) (fnRes Try.f44) [] 100000 true
theorem evermoreref3_Same.e9 (k : Nat) (x0 : Int) (x1 : Int) (x2 : Int) (x3 : (List (List Int))) (x4 : (List Int)) (x5 : Int) (x6 : Int) (x7 : (List (List Int))) (x8 : (List Int)) : evermoreref3_Same.l4 (k + 1) x0 x1 x2 x3 x4 x5 x6 x7 x8 = evermoreref3_Same.R k (start (stackOf 9 evermoreref3_Same.body)) (evermoreref3_Same.t9.fill [⟨(.int .i64), x0⟩, ⟨(.int .i64), x1⟩, ⟨(.int .i64), x2⟩, ⟨(.slice (.slice (.int .i64))), x3⟩, ⟨(.slice (.int .i64)), x4⟩, ⟨(.int .i64), x5⟩, ⟨(.int .i64), x6⟩, ⟨(.slice (.slice (.int .i64))), x7⟩, ⟨(.slice (.int .i64)), x8⟩]) := by kernel_rfl
theorem evermoreref3_Same.s9 : stackAt 9 evermoreref3_Same.body [] = some (stackOf 9 evermoreref3_Same.body) := by kernel_rfl
theorem evermoreref3_Same.h9 (k : Nat) (ds : List Dat) (r : Bool) (h : evermoreref3_Same.c9 k ds = some r) : ∃ k', k' < k ∧ ∃ s, stackAt 9 evermoreref3_Same.body [] = some s ∧ evermoreref3_Same.R k' (start s) (evermoreref3_Same.t9.fill ds) = some r := by
  unfold evermoreref3_Same.c9 at h
  obtain ⟨x0, d0, rfl, h0⟩ := pop_some h
  obtain ⟨x1, d1, rfl, h1⟩ := pop_some h0
  obtain ⟨x2, d2, rfl, h2⟩ := pop_some h1
  obtain ⟨x3, d3, rfl, h3⟩ := pop_some h2
  obtain ⟨x4, d4, rfl, h4⟩ := pop_some h3
  obtain ⟨x5, d5, rfl, h5⟩ := pop_some h4
  obtain ⟨x6, d6, rfl, h6⟩ := pop_some h5
  obtain ⟨x7, d7, rfl, h7⟩ := pop_some h6
  obtain ⟨x8, d8, rfl, h8⟩ := pop_some h7
  obtain ⟨rfl, g⟩ := popN_some h8
  cases k with
  | zero => cases (show none = some r from g)
  | succ k => exact ⟨k, Nat.lt_succ_self k, _, evermoreref3_Same.s9, (evermoreref3_Same.e9 k x0 x1 x2 x3 x4 x5 x6 x7 x8).symm.trans g⟩
theorem evermoreref3_Same.e19 (k : Nat) (x0 : Int) (x1 : Int) (x2 : Int) (x3 : (List (List Int))) (x4 : (List Int)) (x5 : Int) (x6 : Int) (x7 : (List (List Int))) (x8 : (List Int)) : evermoreref3_Same.l9 (k + 1) x0 x1 x2 x3 x4 x5 x6 x7 x8 = evermoreref3_Same.R k (start (stackOf 19 evermoreref3_Same.body)) (evermoreref3_Same.t19.fill [⟨(.int .i64), x0⟩, ⟨(.int .i64), x1⟩, ⟨(.int .i64), x2⟩, ⟨(.slice (.slice (.int .i64))), x3⟩, ⟨(.slice (.int .i64)), x4⟩, ⟨(.int .i64), x5⟩, ⟨(.int .i64), x6⟩, ⟨(.slice (.slice (.int .i64))), x7⟩, ⟨(.slice (.int .i64)), x8⟩]) := by kernel_rfl
theorem evermoreref3_Same.s19 : stackAt 19 evermoreref3_Same.body [] = some (stackOf 19 evermoreref3_Same.body) := by kernel_rfl
theorem evermoreref3_Same.h19 (k : Nat) (ds : List Dat) (r : Bool) (h : evermoreref3_Same.c19 k ds = some r) : ∃ k', k' < k ∧ ∃ s, stackAt 19 evermoreref3_Same.body [] = some s ∧ evermoreref3_Same.R k' (start s) (evermoreref3_Same.t19.fill ds) = some r := by
  unfold evermoreref3_Same.c19 at h
  obtain ⟨x0, d0, rfl, h0⟩ := pop_some h
  obtain ⟨x1, d1, rfl, h1⟩ := pop_some h0
  obtain ⟨x2, d2, rfl, h2⟩ := pop_some h1
  obtain ⟨x3, d3, rfl, h3⟩ := pop_some h2
  obtain ⟨x4, d4, rfl, h4⟩ := pop_some h3
  obtain ⟨x5, d5, rfl, h5⟩ := pop_some h4
  obtain ⟨x6, d6, rfl, h6⟩ := pop_some h5
  obtain ⟨x7, d7, rfl, h7⟩ := pop_some h6
  obtain ⟨x8, d8, rfl, h8⟩ := pop_some h7
  obtain ⟨rfl, g⟩ := popN_some h8
  cases k with
  | zero => cases (show none = some r from g)
  | succ k => exact ⟨k, Nat.lt_succ_self k, _, evermoreref3_Same.s19, (evermoreref3_Same.e19 k x0 x1 x2 x3 x4 x5 x6 x7 x8).symm.trans g⟩
theorem evermoreref3_Same.e29 (k : Nat) (x0 : Int) (x1 : Int) (x2 : Int) (x3 : Int) (x4 : (List (List Int))) (x5 : (List Int)) (x6 : Int) (x7 : Int) (x8 : (List (List Int))) (x9 : (List Int)) : evermoreref3_Same.l14 (k + 1) x0 x1 x2 x3 x4 x5 x6 x7 x8 x9 = evermoreref3_Same.R k (start (stackOf 29 evermoreref3_Same.body)) (evermoreref3_Same.t29.fill [⟨(.int .i64), x0⟩, ⟨(.int .i64), x1⟩, ⟨(.int .i64), x2⟩, ⟨(.int .i64), x3⟩, ⟨(.slice (.slice (.int .i64))), x4⟩, ⟨(.slice (.int .i64)), x5⟩, ⟨(.int .i64), x6⟩, ⟨(.int .i64), x7⟩, ⟨(.slice (.slice (.int .i64))), x8⟩, ⟨(.slice (.int .i64)), x9⟩]) := by kernel_rfl
theorem evermoreref3_Same.s29 : stackAt 29 evermoreref3_Same.body [] = some (stackOf 29 evermoreref3_Same.body) := by kernel_rfl
theorem evermoreref3_Same.h29 (k : Nat) (ds : List Dat) (r : Bool) (h : evermoreref3_Same.c29 k ds = some r) : ∃ k', k' < k ∧ ∃ s, stackAt 29 evermoreref3_Same.body [] = some s ∧ evermoreref3_Same.R k' (start s) (evermoreref3_Same.t29.fill ds) = some r := by
  unfold evermoreref3_Same.c29 at h
  obtain ⟨x0, d0, rfl, h0⟩ := pop_some h
  obtain ⟨x1, d1, rfl, h1⟩ := pop_some h0
  obtain ⟨x2, d2, rfl, h2⟩ := pop_some h1
  obtain ⟨x3, d3, rfl, h3⟩ := pop_some h2
  obtain ⟨x4, d4, rfl, h4⟩ := pop_some h3
  obtain ⟨x5, d5, rfl, h5⟩ := pop_some h4
  obtain ⟨x6, d6, rfl, h6⟩ := pop_some h5
  obtain ⟨x7, d7, rfl, h7⟩ := pop_some h6
  obtain ⟨x8, d8, rfl, h8⟩ := pop_some h7
  obtain ⟨x9, d9, rfl, h9⟩ := pop_some h8
  obtain ⟨rfl, g⟩ := popN_some h9
  cases k with
  | zero => cases (show none = some r from g)
  | succ k => exact ⟨k, Nat.lt_succ_self k, _, evermoreref3_Same.s29, (evermoreref3_Same.e29 k x0 x1 x2 x3 x4 x5 x6 x7 x8 x9).symm.trans g⟩
theorem evermoreref3_Same.e (k : Nat) (x0 : (Int × (Int × ((List (List Int)) × ((List Int) × Unit))))) (x1 : (Int × (Int × ((List (List Int)) × ((List Int) × Unit))))) : evermoreref3_Same.f k x0 x1 = evermoreref3_Same.R k ([.code evermoreref3_Same.body]) (evermoreref3_Same.ti.fill [⟨(.pair (.int .i64) (.pair (.int .i64) (.pair (.slice (.slice (.int .i64))) (.pair (.slice (.int .i64)) .unit)))), x0⟩, ⟨(.pair (.int .i64) (.pair (.int .i64) (.pair (.slice (.slice (.int .i64))) (.pair (.slice (.int .i64)) .unit)))), x1⟩]) := by kernel_rfl
theorem evermoreref3_Same.h (k : Nat) (ds : List Dat) (r : Bool) (h : evermoreref3_Same.g k ds = some r) : ∃ k', k' < k ∧ evermoreref3_Same.R k' ([.code evermoreref3_Same.body]) (evermoreref3_Same.ti.fill ds) = some r := by
  cases k with
  | zero => cases (show none = some r from h)
  | succ k =>
  replace h : evermoreref3_Same.c k ds = some r := h
  unfold evermoreref3_Same.c at h
  obtain ⟨x0, d0, rfl, h0⟩ := pop_some h
  obtain ⟨x1, d1, rfl, h1⟩ := pop_some h0
  obtain ⟨rfl, g⟩ := popN_some h1
  exact ⟨k, Nat.lt_succ_self k, (evermoreref3_Same.e k x0 x1).symm.trans g⟩
theorem evermoreref3_Same.o (ds : List Dat) (r : Bool) (h : evermoreref3_Same.out ds = some r) : ds = evermoreref3_Same.rs r := by
  unfold evermoreref3_Same.out at h
  obtain ⟨x0, d0, rfl, h0⟩ := pop_some h
  obtain ⟨rfl, g⟩ := popN_some h0
  cases g
  rfl
theorem evermoreref3_Same.fn : FnOk Try.prog 44 Try.f44 evermoreref3_Same.body Try.f44.ntmps 2 (fnRes Try.f44) :=
  fnOk_of (by kernel_rfl) (by kernel_rfl) (by kernel_rfl) (by kernel_rfl)
theorem evermoreref3_Same.con' : ∀ k ds r, evermoreref3_Same.g k ds = some r → Con Try.prog 44 2 evermoreref3_Same.ti evermoreref3_Same.to ds (evermoreref3_Same.rs r) :=
  fun_ok (T := T) T_ok mixed evermoreref3_Same.fn (env := evermoreref3_Same.env) (tbl := evermoreref3_Same.tbl) (gOut := evermoreref3_Same.out) (nin := 0) (cuts := []) (fuel := 100000) rfl (by kernel_rfl) (by kernel_rfl) (by kernel_rfl) (fun x hx => by
    simp only [evermoreref3_Same.tbl, List.mem_cons, List.not_mem_nil, or_false] at hx
    rcases hx with rfl | rfl | rfl
    · exact evermoreref3_Same.h9
    · exact evermoreref3_Same.h19
    · exact evermoreref3_Same.h29
) evermoreref3_Same.o evermoreref3_Same.h (fun k _ => by unfold evermoreref3_Same.env; exact env0_ok)
theorem evermoreref3_Same.con (k : Nat) {x0 : (Int × (Int × ((List (List Int)) × ((List Int) × Unit))))} {x1 : (Int × (Int × ((List (List Int)) × ((List Int) × Unit))))} (r : Bool) (h : evermoreref3_Same.f k x0 x1 = some r) : Con Try.prog 44 2 evermoreref3_Same.ti evermoreref3_Same.to [⟨(.pair (.int .i64) (.pair (.int .i64) (.pair (.slice (.slice (.int .i64))) (.pair (.slice (.int .i64)) .unit)))), x0⟩, ⟨(.pair (.int .i64) (.pair (.int .i64) (.pair (.slice (.slice (.int .i64))) (.pair (.slice (.int .i64)) .unit)))), x1⟩] (evermoreref3_Same.rs r) :=
  evermoreref3_Same.con' (k + 1) _ r (by show evermoreref3_Same.c k _ = some r; unfold evermoreref3_Same.c; simp only [pop_self, popN]; exact h)
def evermorelaw_noDet_2.f (k : Nat) (d0 : (Int × (Int × (List (List (Int)) × (List (Int) × Unit))))) : Option (Bool) :=
 if d0.fst = 0 then
  if d0.snd.fst = 0 then
   some (decide (Go.IntKind.i64.wrap ((↑d0.snd.snd.fst.length : Int) + (↑d0.snd.snd.snd.fst.length : Int)) = 0))
  else
   some (false)
 else
  some (false)

noncomputable def evermorelaw_noDet_2.body : Code := fnBody Try.f37
def evermorelaw_noDet_2.ti : Tm := ⟨[(0, .p (.pair (.int .i64) (.pair (.int .i64) (.pair (.slice (.slice (.int .i64))) (.pair (.slice (.int .i64)) .unit)))))], []⟩
def evermorelaw_noDet_2.to : Tm := ⟨[(0, .p .bool)], []⟩
def evermorelaw_noDet_2.rs (r : Bool) : List Dat := [⟨.bool, r⟩]
def evermorelaw_noDet_2.out (ds : List Dat) : Option (Bool) := pop .bool ds fun x0 ds => popN ds (some (x0))
def evermorelaw_noDet_2.c (k : Nat) (ds : List Dat) : Option (Bool) := pop (.pair (.int .i64) (.pair (.int .i64) (.pair (.slice (.slice (.int .i64))) (.pair (.slice (.int .i64)) .unit)))) ds fun x0 ds => popN ds (evermorelaw_noDet_2.f k x0)
def evermorelaw_noDet_2.g : Nat → List Dat → Option (Bool)
 | 0, _ => none
 | k + 1, ds => evermorelaw_noDet_2.c k ds
def evermorelaw_noDet_2.env (k : Nat) : Nat → List SV → List Chunk → KT (Bool) → Option (Bool) := env0
def evermorelaw_noDet_2.tbl : List (Nat × Tm × (Nat → List Dat → Option (Bool))) := []
noncomputable abbrev evermorelaw_noDet_2.R (k : Nat) := run T (evermorelaw_noDet_2.env k) Try.f37.ntmps (cutE 0 evermorelaw_noDet_2.tbl k) (finE 0 evermorelaw_noDet_2.to evermorelaw_noDet_2.out) (fnRes Try.f37) [] 100000 true
theorem evermorelaw_noDet_2.e (k : Nat) (x0 : (Int × (Int × ((List (List Int)) × ((List Int) × Unit))))) : evermorelaw_noDet_2.f k x0 = evermorelaw_noDet_2.R k ([.code evermorelaw_noDet_2.body]) (evermorelaw_noDet_2.ti.fill [⟨(.pair (.int .i64) (.pair (.int .i64) (.pair (.slice (.slice (.int .i64))) (.pair (.slice (.int .i64)) .unit)))), x0⟩]) := by kernel_rfl
theorem evermorelaw_noDet_2.h (k : Nat) (ds : List Dat) (r : Bool) (h : evermorelaw_noDet_2.g k ds = some r) : ∃ k', k' < k ∧ evermorelaw_noDet_2.R k' ([.code evermorelaw_noDet_2.body]) (evermorelaw_noDet_2.ti.fill ds) = some r := by
  cases k with
  | zero => cases (show none = some r from h)
  | succ k =>
  replace h : evermorelaw_noDet_2.c k ds = some r := h
  unfold evermorelaw_noDet_2.c at h
  obtain ⟨x0, d0, rfl, h0⟩ := pop_some h
  obtain ⟨rfl, g⟩ := popN_some h0
  exact ⟨k, Nat.lt_succ_self k, (evermorelaw_noDet_2.e k x0).symm.trans g⟩
theorem evermorelaw_noDet_2.o (ds : List Dat) (r : Bool) (h : evermorelaw_noDet_2.out ds = some r) : ds = evermorelaw_noDet_2.rs r := by
  unfold evermorelaw_noDet_2.out at h
  obtain ⟨x0, d0, rfl, h0⟩ := pop_some h
  obtain ⟨rfl, g⟩ := popN_some h0
  cases g
  rfl
theorem evermorelaw_noDet_2.fn : FnOk Try.prog 37 Try.f37 evermorelaw_noDet_2.body Try.f37.ntmps 1 (fnRes Try.f37) :=
  fnOk_of (by kernel_rfl) (by kernel_rfl) (by kernel_rfl) (by kernel_rfl)
theorem evermorelaw_noDet_2.con' : ∀ k ds r, evermorelaw_noDet_2.g k ds = some r → Con Try.prog 37 1 evermorelaw_noDet_2.ti evermorelaw_noDet_2.to ds (evermorelaw_noDet_2.rs r) :=
  fun_ok (T := T) T_ok mixed evermorelaw_noDet_2.fn (env := evermorelaw_noDet_2.env) (tbl := evermorelaw_noDet_2.tbl) (gOut := evermorelaw_noDet_2.out) (nin := 0) (cuts := []) (fuel := 100000) rfl (by kernel_rfl) (by kernel_rfl) (by kernel_rfl) (fun x hx => by simp [evermorelaw_noDet_2.tbl] at hx) evermorelaw_noDet_2.o evermorelaw_noDet_2.h (fun k _ => by unfold evermorelaw_noDet_2.env; exact env0_ok)
theorem evermorelaw_noDet_2.con (k : Nat) {x0 : (Int × (Int × ((List (List Int)) × ((List Int) × Unit))))} (r : Bool) (h : evermorelaw_noDet_2.f k x0 = some r) : Con Try.prog 37 1 evermorelaw_noDet_2.ti evermorelaw_noDet_2.to [⟨(.pair (.int .i64) (.pair (.int .i64) (.pair (.slice (.slice (.int .i64))) (.pair (.slice (.int .i64)) .unit)))), x0⟩] (evermorelaw_noDet_2.rs r) :=
  evermorelaw_noDet_2.con' (k + 1) _ r (by show evermorelaw_noDet_2.c k _ = some r; unfold evermorelaw_noDet_2.c; simp only [pop_self, popN]; exact h)
mutual
def evermoreref3_Same_2.l4 : Nat → Int → Int → Int → List (List (Int)) → List (Int) → Int → Int → List (List (Int)) → List (Int) → Option (Bool)
 | 0, _, _, _, _, _, _, _, _, _ => none
 | k + 1, i5, a2_0, a2_1, a2_2, a2_3, b3_0, b3_1, b3_2, b3_3 =>
  if i5 < (↑a2_3.length : Int) then
   if 0 ≤ i5 then
   if i5 < (↑a2_3.length : Int) then
    if 0 ≤ i5 then
     if i5 < (↑b3_3.length : Int) then
      if Go.Proofs.YtiiioobebeaafaaSx.rd (Int.ofNat 0) a2_3 i5 = Go.Proofs.YtiiioobebeaafaaSx.rd (Int.ofNat 0) b3_3 i5 then
        evermoreref3_Same_2.l4 k (Go.IntKind.i64.wrap (i5 + 1)) a2_0 a2_1 a2_2 a2_3 b3_0 b3_1 b3_2 b3_3
       else
        some (false)
      else none
     else none
    else none
   else none
  else
   evermoreref3_Same_2.l9 k 0 a2_0 a2_1 a2_2 a2_3 b3_0 b3_1 b3_2 b3_3
def evermoreref3_Same_2.l9 : Nat → Int → Int → Int → List (List (Int)) → List (Int) → Int → Int → List (List (Int)) → List (Int) → Option (Bool)
 | 0, _, _, _, _, _, _, _, _, _ => none
 | k + 1, i6, a2_0, a2_1, a2_2, a2_3, b3_0, b3_1, b3_2, b3_3 =>
  if i6 < (↑a2_2.length : Int) then
   if 0 ≤ i6 then
   if i6 < (↑a2_2.length : Int) then
    if 0 ≤ i6 then
     if i6 < (↑b3_2.length : Int) then
      if (↑(Go.Proofs.YtiiioobebeaafaaSx.rd [] a2_2 i6).length : Int) = (↑(Go.Proofs.YtiiioobebeaafaaSx.rd [] b3_2 i6).length : Int) then
        evermoreref3_Same_2.l14 k i6 0 a2_0 a2_1 a2_2 a2_3 b3_0 b3_1 b3_2 b3_3
       else
        some (false)
      else none
     else none
    else none
   else none
  else
   some (true)
def evermoreref3_Same_2.l14 : Nat → Int → Int → Int → Int → List (List (Int)) → List (Int) → Int → Int → List (List (Int)) → List (Int) → Option (Bool)
 | 0, _, _, _, _, _, _, _, _, _, _ => none
 | k + 1, i6, k7, a2_0, a2_1, a2_2, a2_3, b3_0, b3_1, b3_2, b3_3 =>
  if 0 ≤ i6 then
  if i6 < (↑a2_2.length : Int) then
   if k7 < (↑(Go.Proofs.YtiiioobebeaafaaSx.rd [] a2_2 i6).length : Int) then
     if 0 ≤ i6 then
     if i6 < (↑a2_2.length : Int) then
      if 0 ≤ k7 then
       if k7 < (↑(Go.Proofs.YtiiioobebeaafaaSx.rd [] a2_2 i6).length : Int) then
        if 0 ≤ i6 then
         if i6 < (↑b3_2.length : Int) then
          if 0 ≤ k7 then
           if k7 < (↑(Go.Proofs.YtiiioobebeaafaaSx.rd [] b3_2 i6).length : Int) then
            if Go.Proofs.YtiiioobebeaafaaSx.rd (Int.ofNat 0) (Go.Proofs.YtiiioobebeaafaaSx.rd [] a2_2 i6) k7 = Go.Proofs.YtiiioobebeaafaaSx.rd (Int.ofNat 0) (Go.Proofs.YtiiioobebeaafaaSx.rd [] b3_2 i6) k7 then
              evermoreref3_Same_2.l14 k i6 (Go.IntKind.i64.wrap (k7 + 1)) a2_0 a2_1 a2_2 a2_3 b3_0 b3_1 b3_2 b3_3
             else
              some (false)
            else none
           else none
          else none
         else none
        else none
       else none
      else none
     else none
    else
     evermoreref3_Same_2.l9 k (Go.IntKind.i64.wrap (i6 + 1)) a2_0 a2_1 a2_2 a2_3 b3_0 b3_1 b3_2 b3_3
   else none
  else none
end
def evermoreref3_Same_2.f (k : Nat) (a0 : (Int × (Int × (List (List (Int)) × (List (Int) × Unit))))) (b1 : (Int × (Int × (List (List (Int)) × (List (Int) × Unit))))) : Option (Bool) :=
 if a0.fst = b1.fst then
  if a0.snd.fst = b1.snd.fst then
   if (↑a0.snd.snd.fst.length : Int) = (↑b1.snd.snd.fst.length : Int) then
    if (↑a0.snd.snd.snd.fst.length : Int) = (↑b1.snd.snd.snd.fst.length : Int) then
     evermoreref3_Same_2.l4 k 0 a0.fst a0.snd.fst a0.snd.snd.fst a0.snd.snd.snd.fst b1.fst b1.snd.fst b1.snd.snd.fst b1.snd.snd.snd.fst
    else
     some (false)
   else
    some (false)
  else
   some (false)
 else
  some (false)

noncomputable def evermoreref3_Same_2.body : Code := fnBody Try.f44
def evermoreref3_Same_2.ti : Tm := ⟨[(0, .p (.pair (.int .i64) (.pair (.int .i64) (.pair (.slice (.slice (.int .i64))) (.pair (.slice (.int .i64)) .unit))))), (1, .p (.pair (.int .i64) (.pair (.int .i64) (.pair (.slice (.slice (.int .i64))) (.pair (.slice (.int .i64)) .unit)))))], []⟩
def evermoreref3_Same_2.to : Tm := ⟨[(0, .p .bool)], []⟩
def evermoreref3_Same_2.rs (r : Bool) : List Dat := [⟨.bool, r⟩]
def evermoreref3_Same_2.out (ds : List Dat) : Option (Bool) := pop .bool ds fun x0 ds => popN ds (some (x0))
def evermoreref3_Same_2.c (k : Nat) (ds : List Dat) : Option (Bool) := pop (.pair (.int .i64) (.pair (.int .i64) (.pair (.slice (.slice (.int .i64))) (.pair (.slice (.int .i64)) .unit)))) ds fun x0 ds => pop (.pair (.int .i64) (.pair (.int .i64) (.pair (.slice (.slice (.int .i64))) (.pair (.slice (.int .i64)) .unit)))) ds fun x1 ds => popN ds (evermoreref3_Same_2.f k x0 x1)
def evermoreref3_Same_2.g : Nat → List Dat → Option (Bool)
 | 0, _ => none
 | k + 1, ds => evermoreref3_Same_2.c k ds
def evermoreref3_Same_2.env (k : Nat) : Nat → List SV → List Chunk → KT (Bool) → Option (Bool) := env0
def evermoreref3_Same_2.t9 : Tm := ⟨[(2, .ptr 0 0), (3, .ptr 1 0), (5, .p (.int .i64))], [.box [.p (.int .i64), .p (.int .i64), .p (.slice (.slice (.int .i64))), .p (.slice (.int .i64))] 58, .box [.p (.int .i64), .p (.int .i64), .p (.slice (.slice (.int .i64))), .p (.slice (.int .i64))] 58]⟩
def evermoreref3_Same_2.c9 (k : Nat) (ds : List Dat) : Option (Bool) := pop (.int .i64) ds fun x0 ds => pop (.int .i64) ds fun x1 ds => pop (.int .i64) ds fun x2 ds => pop (.slice (.slice (.int .i64))) ds fun x3 ds => pop (.slice (.int .i64)) ds fun x4 ds => pop (.int .i64) ds fun x5 ds => pop (.int .i64) ds fun x6 ds => pop (.slice (.slice (.int .i64))) ds fun x7 ds => pop (.slice (.int .i64)) ds fun x8 ds => popN ds (evermoreref3_Same_2.l4 k x0 x1 x2 x3 x4 x5 x6 x7 x8)
def evermoreref3_Same_2.t19 : Tm := ⟨[(2, .ptr 0 0), (3, .ptr 1 0), (6, .p (.int .i64))], [.box [.p (.int .i64), .p (.int .i64), .p (.slice (.slice (.int .i64))), .p (.slice (.int .i64))] 58, .box [.p (.int .i64), .p (.int .i64), .p (.slice (.slice (.int .i64))), .p (.slice (.int .i64))] 58]⟩
def evermoreref3_Same_2.c19 (k : Nat) (ds : List Dat) : Option (Bool) := pop (.int .i64) ds fun x0 ds => pop (.int .i64) ds fun x1 ds => pop (.int .i64) ds fun x2 ds => pop (.slice (.slice (.int .i64))) ds fun x3 ds => pop (.slice (.int .i64)) ds fun x4 ds => pop (.int .i64) ds fun x5 ds => pop (.int .i64) ds fun x6 ds => pop (.slice (.slice (.int .i64))) ds fun x7 ds => pop (.slice (.int .i64)) ds fun x8 ds => popN ds (evermoreref3_Same_2.l9 k x0 x1 x2 x3 x4 x5 x6 x7 x8)
def evermoreref3_Same_2.t29 : Tm := ⟨[(2, .ptr 0 0), (3, .ptr 1 0), (6, .p (.int .i64)), (7, .p (.int .i64))], [.box [.p (.int .i64), .p (.int .i64), .p (.slice (.slice (.int .i64))), .p (.slice (.int .i64))] 58, .box [.p (.int .i64), .p (.int .i64), .p (.slice (.slice (.int .i64))), .p (.slice (.int .i64))] 58]⟩
def evermoreref3_Same_2.c29 (k : Nat) (ds : List Dat) : Option (Bool) := pop (.int .i64) ds fun x0 ds => pop (.int .i64) ds fun x1 ds => pop (.int .i64) ds fun x2 ds => pop (.int .i64) ds fun x3 ds => pop (.slice (.slice (.int .i64))) ds fun x4 ds => pop (.slice (.int .i64)) ds fun x5 ds => pop (.int .i64) ds fun x6 ds => pop (.int .i64) ds fun x7 ds => pop (.slice (.slice (.int .i64))) ds fun x8 ds => pop (.slice (.int .i64)) ds fun x9 ds => popN ds (evermoreref3_Same_2.l14 k x0 x1 x2 x3 x4 x5 x6 x7 x8 x9)
def evermoreref3_Same_2.tbl : List (Nat × Tm × (Nat → List Dat → Option (Bool))) := [(9, evermoreref3_Same_2.t9, evermoreref3_Same_2.c9), (19, evermoreref3_Same_2.t19, evermoreref3_Same_2.c19), (29, evermoreref3_Same_2.t29, evermoreref3_Same_2.c29)]
noncomputable abbrev evermoreref3_Same_2.R (k : Nat) := run T (evermoreref3_Same_2.env k) Try.f44.ntmps (cutE 0 evermoreref3_Same_2.tbl k) (finE 0 evermoreref3_Same_2.to evermoreref3_Same_2.out) (fnRes Try.f44) [] 100000 true
theorem evermoreref3_Same_2.e9 (k : Nat) (x0 : Int) (x1 : Int) (x2 : Int) (x3 : (List (List Int))) (x4 : (List Int)) (x5 : Int) (x6 : Int) (x7 : (List (List Int))) (x8 : (List Int)) : evermoreref3_Same_2.l4 (k + 1) x0 x1 x2 x3 x4 x5 x6 x7 x8 = evermoreref3_Same_2.R k (start (stackOf 9 evermoreref3_Same_2.body)) (evermoreref3_Same_2.t9.fill [⟨(.int .i64), x0⟩, ⟨(.int .i64), x1⟩, ⟨(.int .i64), x2⟩, ⟨(.slice (.slice (.int .i64))), x3⟩, ⟨(.slice (.int .i64)), x4⟩, ⟨(.int .i64), x5⟩, ⟨(.int .i64), x6⟩, ⟨(.slice (.slice (.int .i64))), x7⟩, ⟨(.slice (.int .i64)), x8⟩]) := by kernel_rfl
theorem evermoreref3_Same_2.s9 : stackAt 9 evermoreref3_Same_2.body [] = some (stackOf 9 evermoreref3_Same_2.body) := by kernel_rfl
theorem evermoreref3_Same_2.h9 (k : Nat) (ds : List Dat) (r : Bool) (h : evermoreref3_Same_2.c9 k ds = some r) : ∃ k', k' < k ∧ ∃ s, stackAt 9 evermoreref3_Same_2.body [] = some s ∧ evermoreref3_Same_2.R k' (start s) (evermoreref3_Same_2.t9.fill ds) = some r := by
  unfold evermoreref3_Same_2.c9 at h
  obtain ⟨x0, d0, rfl, h0⟩ := pop_some h
  obtain ⟨x1, d1, rfl, h1⟩ := pop_some h0
  obtain ⟨x2, d2, rfl, h2⟩ := pop_some h1
  obtain ⟨x3, d3, rfl, h3⟩ := pop_some h2
  obtain ⟨x4, d4, rfl, h4⟩ := pop_some h3
  obtain ⟨x5, d5, rfl, h5⟩ := pop_some h4
  obtain ⟨x6, d6, rfl, h6⟩ := pop_some h5
  obtain ⟨x7, d7, rfl, h7⟩ := pop_some h6
  obtain ⟨x8, d8, rfl, h8⟩ := pop_some h7
  obtain ⟨rfl, g⟩ := popN_some h8
  cases k with
  | zero => cases (show none = some r from g)
  | succ k => exact ⟨k, Nat.lt_succ_self k, _, evermoreref3_Same_2.s9, (evermoreref3_Same_2.e9 k x0 x1 x2 x3 x4 x5 x6 x7 x8).symm.trans g⟩
theorem evermoreref3_Same_2.e19 (k : Nat) (x0 : Int) (x1 : Int) (x2 : Int) (x3 : (List (List Int))) (x4 : (List Int)) (x5 : Int) (x6 : Int) (x7 : (List (List Int))) (x8 : (List Int)) : evermoreref3_Same_2.l9 (k + 1) x0 x1 x2 x3 x4 x5 x6 x7 x8 = evermoreref3_Same_2.R k (start (stackOf 19 evermoreref3_Same_2.body)) (evermoreref3_Same_2.t19.fill [⟨(.int .i64), x0⟩, ⟨(.int .i64), x1⟩, ⟨(.int .i64), x2⟩, ⟨(.slice (.slice (.int .i64))), x3⟩, ⟨(.slice (.int .i64)), x4⟩, ⟨(.int .i64), x5⟩, ⟨(.int .i64), x6⟩, ⟨(.slice (.slice (.int .i64))), x7⟩, ⟨(.slice (.int .i64)), x8⟩]) := by kernel_rfl
theorem evermoreref3_Same_2.s19 : stackAt 19 evermoreref3_Same_2.body [] = some (stackOf 19 evermoreref3_Same_2.body) := by kernel_rfl
theorem evermoreref3_Same_2.h19 (k : Nat) (ds : List Dat) (r : Bool) (h : evermoreref3_Same_2.c19 k ds = some r) : ∃ k', k' < k ∧ ∃ s, stackAt 19 evermoreref3_Same_2.body [] = some s ∧ evermoreref3_Same_2.R k' (start s) (evermoreref3_Same_2.t19.fill ds) = some r := by
  unfold evermoreref3_Same_2.c19 at h
  obtain ⟨x0, d0, rfl, h0⟩ := pop_some h
  obtain ⟨x1, d1, rfl, h1⟩ := pop_some h0
  obtain ⟨x2, d2, rfl, h2⟩ := pop_some h1
  obtain ⟨x3, d3, rfl, h3⟩ := pop_some h2
  obtain ⟨x4, d4, rfl, h4⟩ := pop_some h3
  obtain ⟨x5, d5, rfl, h5⟩ := pop_some h4
  obtain ⟨x6, d6, rfl, h6⟩ := pop_some h5
  obtain ⟨x7, d7, rfl, h7⟩ := pop_some h6
  obtain ⟨x8, d8, rfl, h8⟩ := pop_some h7
  obtain ⟨rfl, g⟩ := popN_some h8
  cases k with
  | zero => cases (show none = some r from g)
  | succ k => exact ⟨k, Nat.lt_succ_self k, _, evermoreref3_Same_2.s19, (evermoreref3_Same_2.e19 k x0 x1 x2 x3 x4 x5 x6 x7 x8).symm.trans g⟩
theorem evermoreref3_Same_2.e29 (k : Nat) (x0 : Int) (x1 : Int) (x2 : Int) (x3 : Int) (x4 : (List (List Int))) (x5 : (List Int)) (x6 : Int) (x7 : Int) (x8 : (List (List Int))) (x9 : (List Int)) : evermoreref3_Same_2.l14 (k + 1) x0 x1 x2 x3 x4 x5 x6 x7 x8 x9 = evermoreref3_Same_2.R k (start (stackOf 29 evermoreref3_Same_2.body)) (evermoreref3_Same_2.t29.fill [⟨(.int .i64), x0⟩, ⟨(.int .i64), x1⟩, ⟨(.int .i64), x2⟩, ⟨(.int .i64), x3⟩, ⟨(.slice (.slice (.int .i64))), x4⟩, ⟨(.slice (.int .i64)), x5⟩, ⟨(.int .i64), x6⟩, ⟨(.int .i64), x7⟩, ⟨(.slice (.slice (.int .i64))), x8⟩, ⟨(.slice (.int .i64)), x9⟩]) := by kernel_rfl
theorem evermoreref3_Same_2.s29 : stackAt 29 evermoreref3_Same_2.body [] = some (stackOf 29 evermoreref3_Same_2.body) := by kernel_rfl
theorem evermoreref3_Same_2.h29 (k : Nat) (ds : List Dat) (r : Bool) (h : evermoreref3_Same_2.c29 k ds = some r) : ∃ k', k' < k ∧ ∃ s, stackAt 29 evermoreref3_Same_2.body [] = some s ∧ evermoreref3_Same_2.R k' (start s) (evermoreref3_Same_2.t29.fill ds) = some r := by
  unfold evermoreref3_Same_2.c29 at h
  obtain ⟨x0, d0, rfl, h0⟩ := pop_some h
  obtain ⟨x1, d1, rfl, h1⟩ := pop_some h0
  obtain ⟨x2, d2, rfl, h2⟩ := pop_some h1
  obtain ⟨x3, d3, rfl, h3⟩ := pop_some h2
  obtain ⟨x4, d4, rfl, h4⟩ := pop_some h3
  obtain ⟨x5, d5, rfl, h5⟩ := pop_some h4
  obtain ⟨x6, d6, rfl, h6⟩ := pop_some h5
  obtain ⟨x7, d7, rfl, h7⟩ := pop_some h6
  obtain ⟨x8, d8, rfl, h8⟩ := pop_some h7
  obtain ⟨x9, d9, rfl, h9⟩ := pop_some h8
  obtain ⟨rfl, g⟩ := popN_some h9
  cases k with
  | zero => cases (show none = some r from g)
  | succ k => exact ⟨k, Nat.lt_succ_self k, _, evermoreref3_Same_2.s29, (evermoreref3_Same_2.e29 k x0 x1 x2 x3 x4 x5 x6 x7 x8 x9).symm.trans g⟩
theorem evermoreref3_Same_2.e (k : Nat) (x0 : (Int × (Int × ((List (List Int)) × ((List Int) × Unit))))) (x1 : (Int × (Int × ((List (List Int)) × ((List Int) × Unit))))) : evermoreref3_Same_2.f k x0 x1 = evermoreref3_Same_2.R k ([.code evermoreref3_Same_2.body]) (evermoreref3_Same_2.ti.fill [⟨(.pair (.int .i64) (.pair (.int .i64) (.pair (.slice (.slice (.int .i64))) (.pair (.slice (.int .i64)) .unit)))), x0⟩, ⟨(.pair (.int .i64) (.pair (.int .i64) (.pair (.slice (.slice (.int .i64))) (.pair (.slice (.int .i64)) .unit)))), x1⟩]) := by kernel_rfl
theorem evermoreref3_Same_2.h (k : Nat) (ds : List Dat) (r : Bool) (h : evermoreref3_Same_2.g k ds = some r) : ∃ k', k' < k ∧ evermoreref3_Same_2.R k' ([.code evermoreref3_Same_2.body]) (evermoreref3_Same_2.ti.fill ds) = some r := by
  cases k with
  | zero => cases (show none = some r from h)
  | succ k =>
  replace h : evermoreref3_Same_2.c k ds = some r := h
  unfold evermoreref3_Same_2.c at h
  obtain ⟨x0, d0, rfl, h0⟩ := pop_some h
  obtain ⟨x1, d1, rfl, h1⟩ := pop_some h0
  obtain ⟨rfl, g⟩ := popN_some h1
  exact ⟨k, Nat.lt_succ_self k, (evermoreref3_Same_2.e k x0 x1).symm.trans g⟩
theorem evermoreref3_Same_2.o (ds : List Dat) (r : Bool) (h : evermoreref3_Same_2.out ds = some r) : ds = evermoreref3_Same_2.rs r := by
  unfold evermoreref3_Same_2.out at h
  obtain ⟨x0, d0, rfl, h0⟩ := pop_some h
  obtain ⟨rfl, g⟩ := popN_some h0
  cases g
  rfl
theorem evermoreref3_Same_2.fn : FnOk Try.prog 44 Try.f44 evermoreref3_Same_2.body Try.f44.ntmps 2 (fnRes Try.f44) :=
  fnOk_of (by kernel_rfl) (by kernel_rfl) (by kernel_rfl) (by kernel_rfl)
theorem evermoreref3_Same_2.con' : ∀ k ds r, evermoreref3_Same_2.g k ds = some r → Con Try.prog 44 2 evermoreref3_Same_2.ti evermoreref3_Same_2.to ds (evermoreref3_Same_2.rs r) :=
  fun_ok (T := T) T_ok mixed evermoreref3_Same_2.fn (env := evermoreref3_Same_2.env) (tbl := evermoreref3_Same_2.tbl) (gOut := evermoreref3_Same_2.out) (nin := 0) (cuts := []) (fuel := 100000) rfl (by kernel_rfl) (by kernel_rfl) (by kernel_rfl) (fun x hx => by
    simp only [evermoreref3_Same_2.tbl, List.mem_cons, List.not_mem_nil, or_false] at hx
    rcases hx with rfl | rfl | rfl
    · exact evermoreref3_Same_2.h9
    · exact evermoreref3_Same_2.h19
    · exact evermoreref3_Same_2.h29
) evermoreref3_Same_2.o evermoreref3_Same_2.h (fun k _ => by unfold evermoreref3_Same_2.env; exact env0_ok)
theorem evermoreref3_Same_2.con (k : Nat) {x0 : (Int × (Int × ((List (List Int)) × ((List Int) × Unit))))} {x1 : (Int × (Int × ((List (List Int)) × ((List Int) × Unit))))} (r : Bool) (h : evermoreref3_Same_2.f k x0 x1 = some r) : Con Try.prog 44 2 evermoreref3_Same_2.ti evermoreref3_Same_2.to [⟨(.pair (.int .i64) (.pair (.int .i64) (.pair (.slice (.slice (.int .i64))) (.pair (.slice (.int .i64)) .unit)))), x0⟩, ⟨(.pair (.int .i64) (.pair (.int .i64) (.pair (.slice (.slice (.int .i64))) (.pair (.slice (.int .i64)) .unit)))), x1⟩] (evermoreref3_Same_2.rs r) :=
  evermoreref3_Same_2.con' (k + 1) _ r (by show evermoreref3_Same_2.c k _ = some r; unfold evermoreref3_Same_2.c; simp only [pop_self, popN]; exact h)
mutual
def evermorelaw_DetMixed.j6 : Nat → Int → Int → List (Int) → Bool → Int → Int → Int → Int → List (List (Int)) → List (Int) → Int → Int → List (List (Int)) → List (Int) → Int → Int → List (List (Int)) → List (Int) → Option (Bool)
 | 0, _, _, _, _, _, _, _, _, _, _, _, _, _, _, _, _, _, _ => none
 | k + 1, table2, e8, w9, differ10, f11, no12, a3_0, a3_1, a3_2, a3_3, b4_0, b4_1, b4_2, b4_3, d7_0, d7_1, c3, c4 =>
  if no12 = 0 then
   if a3_0 = b4_0 then
    evermorelaw_DetMixed.j8 k table2 e8 w9 differ10 f11 no12 a3_0 a3_1 a3_2 a3_3 b4_0 b4_1 b4_2 b4_3 d7_0 d7_1 c3 c4
   else
    evermorelaw_DetMixed.j8 k table2 e8 w9 differ10 f11 3 a3_0 a3_1 a3_2 a3_3 b4_0 b4_1 b4_2 b4_3 d7_0 d7_1 c3 c4
  else
   evermorelaw_DetMixed.j8 k table2 e8 w9 differ10 f11 no12 a3_0 a3_1 a3_2 a3_3 b4_0 b4_1 b4_2 b4_3 d7_0 d7_1 c3 c4
def evermorelaw_DetMixed.j8 : Nat → Int → Int → List (Int) → Bool → Int → Int → Int → Int → List (List (Int)) → List (Int) → Int → Int → List (List (Int)) → List (Int) → Int → Int → List (List (Int)) → List (Int) → Option (Bool)
 | 0, _, _, _, _, _, _, _, _, _, _, _, _, _, _, _, _, _, _ => none
 | k + 1, table2, e8, w9, differ10, f11, no12, a3_0, a3_1, a3_2, a3_3, b4_0, b4_1, b4_2, b4_3, d7_0, d7_1, c3, c4 =>
  (evermorelaw_noDet_2.f k (d7_0, d7_1, c3, c4, ())).bind fun r2 =>
   if no12 = 0 then
    (evermoreref3_Apart.f k (a3_0, a3_1, a3_2, a3_3, ()) (b4_0, b4_1, b4_2, b4_3, ()) a3_1 b4_1).bind fun r4 =>
     (evermoreref1_Words.f k w9 r4.fst).bind fun r5 =>
      if f11 = 0 then
       if (!differ10 == r4.snd) = true then
        some (false)
       else
        if r5 = true then
         if table2 < 0 then
          if e8 = 2 then
           some (r2)
          else
           some (false)
         else
          if 15 < table2 then
           if e8 = 2 then
            some (r2)
           else
            some (false)
          else
           if 3000 < Go.IntKind.i64.wrap ((↑a3_2.length : Int) * (↑b4_2.length : Int)) then
            if e8 = 7 then
             some (r2)
            else
             some (false)
           else
            (evermoreref3_Mixed.f k (a3_0, a3_1, a3_2, a3_3, ()) (b4_0, b4_1, b4_2, b4_3, ()) table2).bind fun r12 =>
             (evermoreref3_Same_2.f k (d7_0, d7_1, c3, c4, ()) (r12.fst, r12.snd.fst, r12.snd.snd.fst, r12.snd.snd.snd, ())).bind fun r13 =>
              if e8 = 0 then
               some (r13)
              else
               some (false)
        else
         some (false)
      else
       some (false)
   else
    if e8 = no12 then
     if f11 = no12 then
      if r2 = true then
       if differ10 = true then
        some (false)
       else
        some (decide ((↑w9.length : Int) = 0))
      else
       some (false)
     else
      some (false)
    else
     some (false)
end
def evermorelaw_DetMixed.f (k : Nat) (a0 : (Int × (Int × (List (List (Int)) × (List (Int) × Unit))))) (b1 : (Int × (Int × (List (List (Int)) × (List (Int) × Unit))))) (table2 : Int) : Option (Bool) :=
 (det_Mixed.f k (a0.fst, a0.snd.fst, a0.snd.snd.fst, a0.snd.snd.snd.fst, ()) (b1.fst, b1.snd.fst, b1.snd.snd.fst, b1.snd.snd.snd.fst, ()) table2).bind fun r1 =>
  (det_Differ.f k (a0.fst, a0.snd.fst, a0.snd.snd.fst, a0.snd.snd.snd.fst, ()) (b1.fst, b1.snd.fst, b1.snd.snd.fst, b1.snd.snd.snd.fst, ())).bind fun r2 =>
   (evermoreref3_Check.f k (a0.fst, a0.snd.fst, a0.snd.snd.fst, a0.snd.snd.snd.fst, ())).bind fun r3 =>
    if r3 = 0 then
     (evermoreref3_Check.f k (b1.fst, b1.snd.fst, b1.snd.snd.fst, b1.snd.snd.snd.fst, ())).bind fun r5 =>
      evermorelaw_DetMixed.j6 k table2 r1.snd.snd.fst r2.fst r2.snd.fst r2.snd.snd r5 a0.fst a0.snd.fst a0.snd.snd.fst a0.snd.snd.snd.fst b1.fst b1.snd.fst b1.snd.snd.fst b1.snd.snd.snd.fst r1.fst r1.snd.fst r1.snd.snd.snd.fst r1.snd.snd.snd.snd
    else
     evermorelaw_DetMixed.j6 k table2 r1.snd.snd.fst r2.fst r2.snd.fst r2.snd.snd r3 a0.fst a0.snd.fst a0.snd.snd.fst a0.snd.snd.snd.fst b1.fst b1.snd.fst b1.snd.snd.fst b1.snd.snd.snd.fst r1.fst r1.snd.fst r1.snd.snd.snd.fst r1.snd.snd.snd.snd

noncomputable def evermorelaw_DetMixed.body : Code := fnBody Try.f9
def evermorelaw_DetMixed.ti : Tm := ⟨[(0, .p (.pair (.int .i64) (.pair (.int .i64) (.pair (.slice (.slice (.int .i64))) (.pair (.slice (.int .i64)) .unit))))), (1, .p (.pair (.int .i64) (.pair (.int .i64) (.pair (.slice (.slice (.int .i64))) (.pair (.slice (.int .i64)) .unit))))), (2, .p (.int .i64))], []⟩
def evermorelaw_DetMixed.to : Tm := ⟨[(0, .p .bool)], []⟩
def evermorelaw_DetMixed.rs (r : Bool) : List Dat := [⟨.bool, r⟩]
def evermorelaw_DetMixed.out (ds : List Dat) : Option (Bool) := pop .bool ds fun x0 ds => popN ds (some (x0))
def evermorelaw_DetMixed.c (k : Nat) (ds : List Dat) : Option (Bool) := pop (.pair (.int .i64) (.pair (.int .i64) (.pair (.slice (.slice (.int .i64))) (.pair (.slice (.int .i64)) .unit)))) ds fun x0 ds => pop (.pair (.int .i64) (.pair (.int .i64) (.pair (.slice (.slice (.int .i64))) (.pair (.slice (.int .i64)) .unit)))) ds fun x1 ds => pop (.int .i64) ds fun x2 ds => popN ds (evermorelaw_DetMixed.f k x0 x1 x2)
def evermorelaw_DetMixed.g : Nat → List Dat → Option (Bool)
 | 0, _ => none
 | k + 1, ds => evermorelaw_DetMixed.c k ds
def evermorelaw_DetMixed.env (k : Nat) : Nat → List SV → List Chunk → KT (Bool) → Option (Bool) := (envC 37 1 evermorelaw_noDet_2.ti evermorelaw_noDet_2.to (fun ds K => pop (.pair (.int .i64) (.pair (.int .i64) (.pair (.slice (.slice (.int .i64))) (.pair (.slice (.int .i64)) .unit)))) ds fun x0 ds => popN ds ((evermorelaw_noDet_2.f k x0).bind fun r => K (evermorelaw_noDet_2.rs r))) (envC 48 4 evermoreref3_Apart.ti evermoreref3_Apart.to (fun ds K => pop (.pair (.int .i64) (.pair (.int .i64) (.pair (.slice (.slice (.int .i64))) (.pair (.slice (.int .i64)) .unit)))) ds fun x0 ds => pop (.pair (.int .i64) (.pair (.int .i64) (.pair (.slice (.slice (.int .i64))) (.pair (.slice (.int .i64)) .unit)))) ds fun x1 ds => pop (.int .i64) ds fun x2 ds => pop (.int .i64) ds fun x3 ds => popN ds ((evermoreref3_Apart.f k x0 x1 x2 x3).bind fun r => K (evermoreref3_Apart.rs r))) (envC 34 2 evermoreref1_Words.ti evermoreref1_Words.to (fun ds K => pop (.slice (.int .i64)) ds fun x0 ds => pop (.slice (.int .i64)) ds fun x1 ds => popN ds ((evermoreref1_Words.f k x0 x1).bind fun r => K (evermoreref1_Words.rs r))) (envC 54 3 evermoreref3_Mixed.ti evermoreref3_Mixed.to (fun ds K => pop (.pair (.int .i64) (.pair (.int .i64) (.pair (.slice (.slice (.int .i64))) (.pair (.slice (.int .i64)) .unit)))) ds fun x0 ds => pop (.pair (.int .i64) (.pair (.int .i64) (.pair (.slice (.slice (.int .i64))) (.pair (.slice (.int .i64)) .unit)))) ds fun x1 ds => pop (.int .i64) ds fun x2 ds => popN ds ((evermoreref3_Mixed.f k x0 x1 x2).bind fun r => K (evermoreref3_Mixed.rs r))) (envC 44 2 evermoreref3_Same_2.ti evermoreref3_Same_2.to (fun ds K => pop (.pair (.int .i64) (.pair (.int .i64) (.pair (.slice (.slice (.int .i64))) (.pair (.slice (.int .i64)) .unit)))) ds fun x0 ds => pop (.pair (.int .i64) (.pair (.int .i64) (.pair (.slice (.slice (.int .i64))) (.pair (.slice (.int .i64)) .unit)))) ds fun x1 ds => popN ds ((evermoreref3_Same_2.f k x0 x1).bind fun r => K (evermoreref3_Same_2.rs r))) (envC 52 3 det_Mixed.ti det_Mixed.to (fun ds K => pop (.pair (.int .i64) (.pair (.int .i64) (.pair (.slice (.slice (.int .i64))) (.pair (.slice (.int .i64)) .unit)))) ds fun x0 ds => pop (.pair (.int .i64) (.pair (.int .i64) (.pair (.slice (.slice (.int .i64))) (.pair (.slice (.int .i64)) .unit)))) ds fun x1 ds => pop (.int .i64) ds fun x2 ds => popN ds ((det_Mixed.f k x0 x1 x2).bind fun r => K (det_Mixed.rs r))) (envC 53 2 det_Differ.ti det_Differ.to (fun ds K => pop (.pair (.int .i64) (.pair (.int .i64) (.pair (.slice (.slice (.int .i64))) (.pair (.slice (.int .i64)) .unit)))) ds fun x0 ds => pop (.pair (.int .i64) (.pair (.int .i64) (.pair (.slice (.slice (.int .i64))) (.pair (.slice (.int .i64)) .unit)))) ds fun x1 ds => popN ds ((det_Differ.f k x0 x1).bind fun r => K (det_Differ.rs r))) (envC 45 1 evermoreref3_Check.ti evermoreref3_Check.to (fun ds K => pop (.pair (.int .i64) (.pair (.int .i64) (.pair (.slice (.slice (.int .i64))) (.pair (.slice (.int .i64)) .unit)))) ds fun x0 ds => popN ds ((evermoreref3_Check.f k x0).bind fun r => K (evermoreref3_Check.rs r))) env0))))))))
def evermorelaw_DetMixed.t12 : Tm := ⟨[(2, .p (.int .i64)), (3, .ptr 0 0), (4, .ptr 1 0), (7, .ptr 2 0), (8, .p (.int .i64)), (9, .p (.slice (.int .i64))), (10, .p .bool), (11, .p (.int .i64)), (12, .p (.int .i64))], [.box [.p (.int .i64), .p (.int .i64), .p (.slice (.slice (.int .i64))), .p (.slice (.int .i64))] 58, .box [.p (.int .i64), .p (.int .i64), .p (.slice (.slice (.int .i64))), .p (.slice (.int .i64))] 58, .box [.p (.int .i64), .p (.int .i64), .own 3, .own 4] 58, .own (.slice (.int .i64)), .own (.int .i64)]⟩
def evermorelaw_DetMixed.c12 (k : Nat) (ds : List Dat) : Option (Bool) := pop (.int .i64) ds fun x0 ds => pop (.int .i64) ds fun x1 ds => pop (.slice (.int .i64)) ds fun x2 ds => pop .bool ds fun x3 ds => pop (.int .i64) ds fun x4 ds => pop (.int .i64) ds fun x5 ds => pop (.int .i64) ds fun x6 ds => pop (.int .i64) ds fun x7 ds => pop (.slice (.slice (.int .i64))) ds fun x8 ds => pop (.slice (.int .i64)) ds fun x9 ds => pop (.int .i64) ds fun x10 ds => pop (.int .i64) ds fun x11 ds => pop (.slice (.slice (.int .i64))) ds fun x12 ds => pop (.slice (.int .i64)) ds fun x13 ds => pop (.int .i64) ds fun x14 ds => pop (.int .i64) ds fun x15 ds => pop (.slice (.slice (.int .i64))) ds fun x16 ds => pop (.slice (.int .i64)) ds fun x17 ds => popN ds (evermorelaw_DetMixed.j6 k x0 x1 x2 x3 x4 x5 x6 x7 x8 x9 x10 x11 x12 x13 x14 x15 x16 x17)
def evermorelaw_DetMixed.t16 : Tm := ⟨[(2, .p (.int .i64)), (3, .ptr 0 0), (4, .ptr 1 0), (7, .ptr 2 0), (8, .p (.int .i64)), (9, .p (.slice (.int .i64))), (10, .p .bool), (11, .p (.int .i64)), (12, .p (.int .i64))], [.box [.p (.int .i64), .p (.int .i64), .p (.slice (.slice (.int .i64))), .p (.slice (.int .i64))] 58, .box [.p (.int .i64), .p (.int .i64), .p (.slice (.slice (.int .i64))), .p (.slice (.int .i64))] 58, .box [.p (.int .i64), .p (.int .i64), .own 3, .own 4] 58, .own (.slice (.int .i64)), .own (.int .i64)]⟩
def evermorelaw_DetMixed.c16 (k : Nat) (ds : List Dat) : Option (Bool) := pop (.int .i64) ds fun x0 ds => pop (.int .i64) ds fun x1 ds => pop (.slice (.int .i64)) ds fun x2 ds => pop .bool ds fun x3 ds => pop (.int .i64) ds fun x4 ds => pop (.int .i64) ds fun x5 ds => pop (.int .i64) ds fun x6 ds => pop (.int .i64) ds fun x7 ds => pop (.slice (.slice (.int .i64))) ds fun x8 ds => pop (.slice (.int .i64)) ds fun x9 ds => pop (.int .i64) ds fun x10 ds => pop (.int .i64) ds fun x11 ds => pop (.slice (.slice (.int .i64))) ds fun x12 ds => pop (.slice (.int .i64)) ds fun x13 ds => pop (.int .i64) ds fun x14 ds => pop (.int .i64) ds fun x15 ds => pop (.slice (.slice (.int .i64))) ds fun x16 ds => pop (.slice (.int .i64)) ds fun x17 ds => popN ds (evermorelaw_DetMixed.j8 k x0 x1 x2 x3 x4 x5 x6 x7 x8 x9 x10 x11 x12 x13 x14 x15 x16 x17)
def evermorelaw_DetMixed.tbl : List (Nat × Tm × (Nat → List Dat → Option (Bool))) := [(12, evermorelaw_DetMixed.t12, evermorelaw_DetMixed.c12), (16, evermorelaw_DetMixed.t16, evermorelaw_DetMixed.c16)]
noncomputable abbrev evermorelaw_DetMixed.R (k : Nat) := run T (evermorelaw_DetMixed.env k) Try.f9.ntmps (cutE 0 evermorelaw_DetMixed.tbl k) (finE 0 evermorelaw_DetMixed.to evermorelaw_DetMixed.out) (fnRes Try.f9) [8, 6] 100000 true
theorem evermorelaw_DetMixed.e12 (k : Nat) (x0 : Int) (x1 : Int) (x2 : (List Int)) (x3 : Bool) (x4 : Int) (x5 : Int) (x6 : Int) (x7 : Int) (x8 : (List (List Int))) (x9 : (List Int)) (x10 : Int) (x11 : Int) (x12 : (List (List Int))) (x13 : (List Int)) (x14 : Int) (x15 : Int) (x16 : (List (List Int))) (x17 : (List Int)) : evermorelaw_DetMixed.j6 (k + 1) x0 x1 x2 x3 x4 x5 x6 x7 x8 x9 x10 x11 x12 x13 x14 x15 x16 x17 = evermorelaw_DetMixed.R k (start (stackOf 12 evermorelaw_DetMixed.body)) (evermorelaw_DetMixed.t12.fill [⟨(.int .i64), x0⟩, ⟨(.int .i64), x1⟩, ⟨(.slice (.int .i64)), x2⟩, ⟨.bool, x3⟩, ⟨(.int .i64), x4⟩, ⟨(.int .i64), x5⟩, ⟨(.int .i64), x6⟩, ⟨(.int .i64), x7⟩, ⟨(.slice (.slice (.int .i64))), x8⟩, ⟨(.slice (.int .i64)), x9⟩, ⟨(.int .i64), x10⟩, ⟨(.int .i64), x11⟩, ⟨(.slice (.slice (.int .i64))), x12⟩, ⟨(.slice (.int .i64)), x13⟩, ⟨(.int .i64), x14⟩, ⟨(.int .i64), x15⟩, ⟨(.slice (.slice (.int .i64))), x16⟩, ⟨(.slice (.int .i64)), x17⟩]) := by kernel_rfl
theorem evermorelaw_DetMixed.s12 : stackAt 12 evermorelaw_DetMixed.body [] = some (stackOf 12 evermorelaw_DetMixed.body) := by kernel_rfl
theorem evermorelaw_DetMixed.h12 (k : Nat) (ds : List Dat) (r : Bool) (h : evermorelaw_DetMixed.c12 k ds = some r) : ∃ k', k' < k ∧ ∃ s, stackAt 12 evermorelaw_DetMixed.body [] = some s ∧ evermorelaw_DetMixed.R k' (start s) (evermorelaw_DetMixed.t12.fill ds) = some r := by
  unfold evermorelaw_DetMixed.c12 at h
  obtain ⟨x0, d0, rfl, h0⟩ := pop_some h
  obtain ⟨x1, d1, rfl, h1⟩ := pop_some h0
  obtain ⟨x2, d2, rfl, h2⟩ := pop_some h1
  obtain ⟨x3, d3, rfl, h3⟩ := pop_some h2
  obtain ⟨x4, d4, rfl, h4⟩ := pop_some h3
  obtain ⟨x5, d5, rfl, h5⟩ := pop_some h4
  obtain ⟨x6, d6, rfl, h6⟩ := pop_some h5
  obtain ⟨x7, d7, rfl, h7⟩ := pop_some h6
  obtain ⟨x8, d8, rfl, h8⟩ := pop_some h7
  obtain ⟨x9, d9, rfl, h9⟩ := pop_some h8
  obtain ⟨x10, d10, rfl, h10⟩ := pop_some h9
  obtain ⟨x11, d11, rfl, h11⟩ := pop_some h10
  obtain ⟨x12, d12, rfl, h12⟩ := pop_some h11
  obtain ⟨x13, d13, rfl, h13⟩ := pop_some h12
  obtain ⟨x14, d14, rfl, h14⟩ := pop_some h13
  obtain ⟨x15, d15, rfl, h15⟩ := pop_some h14
  obtain ⟨x16, d16, rfl, h16⟩ := pop_some h15
  obtain ⟨x17, d17, rfl, h17⟩ := pop_some h16
  obtain ⟨rfl, g⟩ := popN_some h17
  cases k with
  | zero => cases (show none = some r from g)
  | succ k => exact ⟨k, Nat.lt_succ_self k, _, evermorelaw_DetMixed.s12, (evermorelaw_DetMixed.e12 k x0 x1 x2 x3 x4 x5 x6 x7 x8 x9 x10 x11 x12 x13 x14 x15 x16 x17).symm.trans g⟩
theorem evermorelaw_DetMixed.e16 (k : Nat) (x0 : Int) (x1 : Int) (x2 : (List Int)) (x3 : Bool) (x4 : Int) (x5 : Int) (x6 : Int) (x7 : Int) (x8 : (List (List Int))) (x9 : (List Int)) (x10 : Int) (x11 : Int) (x12 : (List (List Int))) (x13 : (List Int)) (x14 : Int) (x15 : Int) (x16 : (List (List Int))) (x17 : (List Int)) : evermorelaw_DetMixed.j8 (k + 1) x0 x1 x2 x3 x4 x5 x6 x7 x8 x9 x10 x11 x12 x13 x14 x15 x16 x17 = evermorelaw_DetMixed.R k (start (stackOf 16 evermorelaw_DetMixed.body)) (evermorelaw_DetMixed.t16.fill [⟨(.int .i64), x0⟩, ⟨(.int .i64), x1⟩, ⟨(.slice (.int .i64)), x2⟩, ⟨.bool, x3⟩, ⟨(.int .i64), x4⟩, ⟨(.int .i64), x5⟩, ⟨(.int .i64), x6⟩, ⟨(.int .i64), x7⟩, ⟨(.slice (.slice (.int .i64))), x8⟩, ⟨(.slice (.int .i64)), x9⟩, ⟨(.int .i64), x10⟩, ⟨(.int .i64), x11⟩, ⟨(.slice (.slice (.int .i64))), x12⟩, ⟨(.slice (.int .i64)), x13⟩, ⟨(.int .i64), x14⟩, ⟨(.int .i64), x15⟩, ⟨(.slice (.slice (.int .i64))), x16⟩, ⟨(.slice (.int .i64)), x17⟩]) := by kernel_rfl
theorem evermorelaw_DetMixed.s16 : stackAt 16 evermorelaw_DetMixed.body [] = some (stackOf 16 evermorelaw_DetMixed.body) := by kernel_rfl
theorem evermorelaw_DetMixed.h16 (k : Nat) (ds : List Dat) (r : Bool) (h : evermorelaw_DetMixed.c16 k ds = some r) : ∃ k', k' < k ∧ ∃ s, stackAt 16 evermorelaw_DetMixed.body [] = some s ∧ evermorelaw_DetMixed.R k' (start s) (evermorelaw_DetMixed.t16.fill ds) = some r := by
  unfold evermorelaw_DetMixed.c16 at h
  obtain ⟨x0, d0, rfl, h0⟩ := pop_some h
  obtain ⟨x1, d1, rfl, h1⟩ := pop_some h0
  obtain ⟨x2, d2, rfl, h2⟩ := pop_some h1
  obtain ⟨x3, d3, rfl, h3⟩ := pop_some h2
  obtain ⟨x4, d4, rfl, h4⟩ := pop_some h3
  obtain ⟨x5, d5, rfl, h5⟩ := pop_some h4
  obtain ⟨x6, d6, rfl, h6⟩ := pop_some h5
  obtain ⟨x7, d7, rfl, h7⟩ := pop_some h6
  obtain ⟨x8, d8, rfl, h8⟩ := pop_some h7
  obtain ⟨x9, d9, rfl, h9⟩ := pop_some h8
  obtain ⟨x10, d10, rfl, h10⟩ := pop_some h9
  obtain ⟨x11, d11, rfl, h11⟩ := pop_some h10
  obtain ⟨x12, d12, rfl, h12⟩ := pop_some h11
  obtain ⟨x13, d13, rfl, h13⟩ := pop_some h12
  obtain ⟨x14, d14, rfl, h14⟩ := pop_some h13
  obtain ⟨x15, d15, rfl, h15⟩ := pop_some h14
  obtain ⟨x16, d16, rfl, h16⟩ := pop_some h15
  obtain ⟨x17, d17, rfl, h17⟩ := pop_some h16
  obtain ⟨rfl, g⟩ := popN_some h17
  cases k with
  | zero => cases (show none = some r from g)
  | succ k => exact ⟨k, Nat.lt_succ_self k, _, evermorelaw_DetMixed.s16, (evermorelaw_DetMixed.e16 k x0 x1 x2 x3 x4 x5 x6 x7 x8 x9 x10 x11 x12 x13 x14 x15 x16 x17).symm.trans g⟩
theorem evermorelaw_DetMixed.e (k : Nat) (x0 : (Int × (Int × ((List (List Int)) × ((List Int) × Unit))))) (x1 : (Int × (Int × ((List (List Int)) × ((List Int) × Unit))))) (x2 : Int) : evermorelaw_DetMixed.f k x0 x1 x2 = evermorelaw_DetMixed.R k ([.code evermorelaw_DetMixed.body]) (evermorelaw_DetMixed.ti.fill [⟨(.pair (.int .i64) (.pair (.int .i64) (.pair (.slice (.slice (.int .i64))) (.pair (.slice (.int .i64)) .unit)))), x0⟩, ⟨(.pair (.int .i64) (.pair (.int .i64) (.pair (.slice (.slice (.int .i64))) (.pair (.slice (.int .i64)) .unit)))), x1⟩, ⟨(.int .i64), x2⟩]) := by kernel_rfl
theorem evermorelaw_DetMixed.h (k : Nat) (ds : List Dat) (r : Bool) (h : evermorelaw_DetMixed.g k ds = some r) : ∃ k', k' < k ∧ evermorelaw_DetMixed.R k' ([.code evermorelaw_DetMixed.body]) (evermorelaw_DetMixed.ti.fill ds) = some r := by
  cases k with
  | zero => cases (show none = some r from h)
  | succ k =>
  replace h : evermorelaw_DetMixed.c k ds = some r := h
  unfold evermorelaw_DetMixed.c at h
  obtain ⟨x0, d0, rfl, h0⟩ := pop_some h
  obtain ⟨x1, d1, rfl, h1⟩ := pop_some h0
  obtain ⟨x2, d2, rfl, h2⟩ := pop_some h1
  obtain ⟨rfl, g⟩ := popN_some h2
  exact ⟨k, Nat.lt_succ_self k, (evermorelaw_DetMixed.e k x0 x1 x2).symm.trans g⟩
theorem evermorelaw_DetMixed.o (ds : List Dat) (r : Bool) (h : evermorelaw_DetMixed.out ds = some r) : ds = evermorelaw_DetMixed.rs r := by
  unfold evermorelaw_DetMixed.out at h
  obtain ⟨x0, d0, rfl, h0⟩ := pop_some h
  obtain ⟨rfl, g⟩ := popN_some h0
  cases g
  rfl
theorem evermorelaw_DetMixed.fn : FnOk Try.prog 9 Try.f9 evermorelaw_DetMixed.body Try.f9.ntmps 3 (fnRes Try.f9) :=
  fnOk_of (by kernel_rfl) (by kernel_rfl) (by kernel_rfl) (by kernel_rfl)
theorem evermorelaw_DetMixed.con' : ∀ k ds r, evermorelaw_DetMixed.g k ds = some r → Con Try.prog 9 3 evermorelaw_DetMixed.ti evermorelaw_DetMixed.to ds (evermorelaw_DetMixed.rs r) :=
  fun_ok (T := T) T_ok mixed evermorelaw_DetMixed.fn (env := evermorelaw_DetMixed.env) (tbl := evermorelaw_DetMixed.tbl) (gOut := evermorelaw_DetMixed.out) (nin := 0) (cuts := [8, 6]) (fuel := 100000) rfl (by kernel_rfl) (by kernel_rfl) (by kernel_rfl) (fun x hx => by
    simp only [evermorelaw_DetMixed.tbl, List.mem_cons, List.not_mem_nil, or_false] at hx
    rcases hx with rfl | rfl
    · exact evermorelaw_DetMixed.h12
    · exact evermorelaw_DetMixed.h16
) evermorelaw_DetMixed.o evermorelaw_DetMixed.h (fun k _ => by unfold evermorelaw_DetMixed.env; exact (envC_ok (fun ds K r h => by
    obtain ⟨x0, d0, rfl, h0⟩ := pop_some h
    obtain ⟨rfl, g⟩ := popN_some h0
    obtain ⟨r1, h1, h2⟩ := bind_some g
    exact ⟨_, h2, evermorelaw_noDet_2.con k _ h1⟩) (envC_ok (fun ds K r h => by
    obtain ⟨x0, d0, rfl, h0⟩ := pop_some h
    obtain ⟨x1, d1, rfl, h1⟩ := pop_some h0
    obtain ⟨x2, d2, rfl, h2⟩ := pop_some h1
    obtain ⟨x3, d3, rfl, h3⟩ := pop_some h2
    obtain ⟨rfl, g⟩ := popN_some h3
    obtain ⟨r1, h1, h2⟩ := bind_some g
    exact ⟨_, h2, evermoreref3_Apart.con k _ h1⟩) (envC_ok (fun ds K r h => by
    obtain ⟨x0, d0, rfl, h0⟩ := pop_some h
    obtain ⟨x1, d1, rfl, h1⟩ := pop_some h0
    obtain ⟨rfl, g⟩ := popN_some h1
    obtain ⟨r1, h1, h2⟩ := bind_some g
    exact ⟨_, h2, evermoreref1_Words.con k _ h1⟩) (envC_ok (fun ds K r h => by
    obtain ⟨x0, d0, rfl, h0⟩ := pop_some h
    obtain ⟨x1, d1, rfl, h1⟩ := pop_some h0
    obtain ⟨x2, d2, rfl, h2⟩ := pop_some h1
    obtain ⟨rfl, g⟩ := popN_some h2
    obtain ⟨r1, h1, h2⟩ := bind_some g
    exact ⟨_, h2, evermoreref3_Mixed.con k _ h1⟩) (envC_ok (fun ds K r h => by
    obtain ⟨x0, d0, rfl, h0⟩ := pop_some h
    obtain ⟨x1, d1, rfl, h1⟩ := pop_some h0
    obtain ⟨rfl, g⟩ := popN_some h1
    obtain ⟨r1, h1, h2⟩ := bind_some g
    exact ⟨_, h2, evermoreref3_Same_2.con k _ h1⟩) (envC_ok (fun ds K r h => by
    obtain ⟨x0, d0, rfl, h0⟩ := pop_some h
    obtain ⟨x1, d1, rfl, h1⟩ := pop_some h0
    obtain ⟨x2, d2, rfl, h2⟩ := pop_some h1
    obtain ⟨rfl, g⟩ := popN_some h2
    obtain ⟨r1, h1, h2⟩ := bind_some g
    exact ⟨_, h2, det_Mixed.con k _ h1⟩) (envC_ok (fun ds K r h => by
    obtain ⟨x0, d0, rfl, h0⟩ := pop_some h
    obtain ⟨x1, d1, rfl, h1⟩ := pop_some h0
    obtain ⟨rfl, g⟩ := popN_some h1
    obtain ⟨r1, h1, h2⟩ := bind_some g
    exact ⟨_, h2, det_Differ.con k _ h1⟩) (envC_ok (fun ds K r h => by
    obtain ⟨x0, d0, rfl, h0⟩ := pop_some h
    obtain ⟨rfl, g⟩ := popN_some h0
    obtain ⟨r1, h1, h2⟩ := bind_some g
    exact ⟨_, h2, evermoreref3_Check.con k _ h1⟩) env0_ok)))))))))
theorem evermorelaw_DetMixed.con (k : Nat) {x0 : (Int × (Int × ((List (List Int)) × ((List Int) × Unit))))} {x1 : (Int × (Int × ((List (List Int)) × ((List Int) × Unit))))} {x2 : Int} (r : Bool) (h : evermorelaw_DetMixed.f k x0 x1 x2 = some r) : Con Try.prog 9 3 evermorelaw_DetMixed.ti evermorelaw_DetMixed.to [⟨(.pair (.int .i64) (.pair (.int .i64) (.pair (.slice (.slice (.int .i64))) (.pair (.slice (.int .i64)) .unit)))), x0⟩, ⟨(.pair (.int .i64) (.pair (.int .i64) (.pair (.slice (.slice (.int .i64))) (.pair (.slice (.int .i64)) .unit)))), x1⟩, ⟨(.int .i64), x2⟩] (evermorelaw_DetMixed.rs r) :=
  evermorelaw_DetMixed.con' (k + 1) _ r (by show evermorelaw_DetMixed.c k _ = some r; unfold evermorelaw_DetMixed.c; simp only [pop_self, popN]; exact h)
/-- The one pure statement of the law, over whatever arguments can be read. -/
def evermorelaw_DetMixed.PureH : Prop := ∀ (x0 : (Int × (Int × ((List (List Int)) × ((List Int) × Unit))))) (x1 : (Int × (Int × ((List (List Int)) × ((List Int) × Unit))))) (x2 : Int), Ty.okv (.pair (.int .i64) (.pair (.int .i64) (.pair (.slice (.slice (.int .i64))) (.pair (.slice (.int .i64)) .unit)))) x0 → Ty.okv (.pair (.int .i64) (.pair (.int .i64) (.pair (.slice (.slice (.int .i64))) (.pair (.slice (.int .i64)) .unit)))) x1 → Ty.okv (.int .i64) x2 → ∃ k, evermorelaw_DetMixed.f k x0 x1 x2 = some true
end Go.Proofs.YtiiioobebeaafaaSx
