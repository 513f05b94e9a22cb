import Derived.Test.YtiiioobebeaafaaGaHigmanCloses
set_option linter.unusedVariables false
set_option maxRecDepth 100000
namespace Go.Proofs.YtiiioobebeaafaaSx
open Go Go.Proofs
mutual
def det_Explore_int__3.l4 : Nat → Int → Int → Int → Int → List (List (Int)) → List (Int) → Int → Int → Int → List (List (Int)) → List (Int) → Int → Int → Int → Int → List ((Int × Int)) → List (Int) → List (List (Int)) → List (Int) → List (List (Int)) → List (Int) → Option (Int ×
  Int ×
    Bool ×
      Int × Int × List (List Int) × List Int × Int × Int × Int × List (List Int) × List Int × List (List Int) × List Int)
 | 0, _, _, _, _, _, _, _, _, _, _, _, _, _, _, _, _, _, _, _, _, _ => none
 | k + 1, letters0, most4, c0_0, c0_1, c0_2, c0_3, c2_0, c3_0, c3_1, c3_2, c3_3, x10_0, x10_1, d12_0, d12_1, number13, l14, c8, c9, c10, c11 =>
  if (↑c10.length : Int) < (↑l14.length : Int) then
   if 0 ≤ (↑c10.length : Int) then
   if (↑c10.length : Int) < (↑l14.length : Int) then
    if 0 ≤ letters0 then
     if letters0 ≤ letters0 then
      if letters0 * ((↑8 : Int) + 1) ≤ 1099511627776 then
       det_Explore_int__3.l8 k letters0 most4 (l14.getD (↑c10.length : Int).toNat (Int.ofNat 0)) letters0 0 c0_0 c0_1 c0_2 c0_3 c2_0 c3_0 c3_1 c3_2 c3_3 x10_0 x10_1 d12_0 d12_1 number13 l14 (List.replicate letters0.toNat (Int.ofNat 0)) c8 c9 c10 c11
       else none
      else none
     else none
    else none
   else none
  else
   some (d12_0, d12_1, true, c0_0, c0_1, c0_2, c0_3, c2_0, c3_0, c3_1, c3_2, c3_3, c10, c11)
def det_Explore_int__3.l8 : Nat → Int → Int → Int → Int → Int → Int → Int → List (List (Int)) → List (Int) → Int → Int → Int → List (List (Int)) → List (Int) → Int → Int → Int → Int → List ((Int × Int)) → List (Int) → List (Int) → List (List (Int)) → List (Int) → List (List (Int)) → List (Int) → Option (Int ×
  Int ×
    Bool ×
      Int × Int × List (List Int) × List Int × Int × Int × Int × List (List Int) × List Int × List (List Int) × List Int)
 | 0, _, _, _, _, _, _, _, _, _, _, _, _, _, _, _, _, _, _, _, _, _, _, _, _, _ => none
 | k + 1, letters0, most4, k15, x42, x43, c0_0, c0_1, c0_2, c0_3, c2_0, c3_0, c3_1, c3_2, c3_3, x10_0, x10_1, d12_0, d12_1, number13, l14, row16, c9, c10, c11, c12 =>
  if x43 < x42 then
   (higman_sets_1_2.f k k15 x43 c0_0 c0_1 c0_2 c0_3 c3_0 c3_1 c3_2 c3_3).bind fun r3 =>
    if Go.Proofs.YtiiioobebeaafaaSx.mhas (Go.Proofs.YtiiioobebeaafaaSx.Ty.int Go.IntKind.i64) (Go.Proofs.YtiiioobebeaafaaSx.Ty.int Go.IntKind.i64) number13 r3.fst = true then
     det_Explore_int__3.j18 k letters0 most4 k15 x43 (Go.Proofs.YtiiioobebeaafaaSx.mget (Go.Proofs.YtiiioobebeaafaaSx.Ty.int Go.IntKind.i64) (Go.Proofs.YtiiioobebeaafaaSx.Ty.int Go.IntKind.i64) number13 r3.fst) x42 x43 r3.snd.fst r3.snd.snd.fst r3.snd.snd.snd.fst r3.snd.snd.snd.snd.fst c2_0 r3.snd.snd.snd.snd.snd.fst r3.snd.snd.snd.snd.snd.snd.fst r3.snd.snd.snd.snd.snd.snd.snd.fst r3.snd.snd.snd.snd.snd.snd.snd.snd x10_0 x10_1 d12_0 d12_1 number13 l14 row16 c9 c10 c11 c12
    else
     if (↑l14.length : Int) = most4 then
      some (0, 0, false, r3.snd.fst, r3.snd.snd.fst, r3.snd.snd.snd.fst, r3.snd.snd.snd.snd.fst, c2_0, r3.snd.snd.snd.snd.snd.fst, r3.snd.snd.snd.snd.snd.snd.fst, r3.snd.snd.snd.snd.snd.snd.snd.fst, r3.snd.snd.snd.snd.snd.snd.snd.snd, [], [])
     else
      if (l14 ++ [r3.fst]).length.blt 1000000000 = true then
      det_Explore_int__3.j18 k letters0 most4 k15 x43 ((↑l14.length : Int)) x42 x43 r3.snd.fst r3.snd.snd.fst r3.snd.snd.snd.fst r3.snd.snd.snd.snd.fst c2_0 r3.snd.snd.snd.snd.snd.fst r3.snd.snd.snd.snd.snd.snd.fst r3.snd.snd.snd.snd.snd.snd.snd.fst r3.snd.snd.snd.snd.snd.snd.snd.snd x10_0 x10_1 d12_0 d12_1 (Go.Proofs.YtiiioobebeaafaaSx.mput (Go.Proofs.YtiiioobebeaafaaSx.Ty.int Go.IntKind.i64) (Go.Proofs.YtiiioobebeaafaaSx.Ty.int Go.IntKind.i64) number13 r3.fst (↑l14.length : Int)) (l14 ++ [r3.fst]) row16 c9 c10 c11 c12
      else none
  else
   if (c11 ++ [row16]).length.blt 1000000000 = true then
   (higman_sets_2.f k k15 c2_0).bind fun r4 =>
     if (c12 ++ [r4.fst]).length.blt 1000000000 = true then
     det_Explore_int__3.l4 k letters0 most4 c0_0 c0_1 c0_2 c0_3 r4.snd c3_0 c3_1 c3_2 c3_3 x10_0 x10_1 d12_0 d12_1 number13 l14 c9 c10 (c11 ++ [row16]) (c12 ++ [r4.fst])
     else none
   else none
def det_Explore_int__3.j18 : Nat → Int → Int → Int → Int → Int → Int → Int → Int → Int → List (List (Int)) → List (Int) → Int → Int → Int → List (List (Int)) → List (Int) → Int → Int → Int → Int → List ((Int × Int)) → List (Int) → List (Int) → List (List (Int)) → List (Int) → List (List (Int)) → List (Int) → Option (Int ×
  Int ×
    Bool ×
      Int × Int × List (List Int) × List Int × Int × Int × Int × List (List Int) × List Int × List (List Int) × List Int)
 | 0, _, _, _, _, _, _, _, _, _, _, _, _, _, _, _, _, _, _, _, _, _, _, _, _, _, _, _ => none
 | k + 1, letters0, most4, k15, a17, n19, x42, x43, c0_0, c0_1, c0_2, c0_3, c2_0, c3_0, c3_1, c3_2, c3_3, x10_0, x10_1, d12_0, d12_1, number13, l14, row16, c9, c10, c11, c12 =>
  if 0 ≤ a17 then
  if a17 < (↑row16.length : Int) then
   det_Explore_int__3.l8 k letters0 most4 k15 x42 (Go.IntKind.i64.wrap (x43 + 1)) c0_0 c0_1 c0_2 c0_3 c2_0 c3_0 c3_1 c3_2 c3_3 x10_0 x10_1 d12_0 d12_1 number13 l14 (row16.set a17.toNat n19) c9 c10 c11 c12
   else none
  else none
end
def det_Explore_int__3.f (k : Nat) (letters0 : Int) (first1 : Int) (most4 : Int) (c0_0 : Int) (c0_1 : Int) (c0_2 : List (List (Int))) (c0_3 : List (Int)) (c2_0 : Int) (c3_0 : Int) (c3_1 : Int) (c3_2 : List (List (Int))) (c3_3 : List (Int)) : Option (Int ×
  Int ×
    Bool ×
      Int × Int × List (List Int) × List Int × Int × Int × Int × List (List Int) × List Int × List (List Int) × List Int) :=
 det_Explore_int__3.l4 k letters0 most4 c0_0 c0_1 c0_2 c0_3 c2_0 c3_0 c3_1 c3_2 c3_3 0 0 letters0 0 (Go.Proofs.YtiiioobebeaafaaSx.mput (Go.Proofs.YtiiioobebeaafaaSx.Ty.int Go.IntKind.i64) (Go.Proofs.YtiiioobebeaafaaSx.Ty.int Go.IntKind.i64) [] first1 (Int.ofNat 0)) [first1] [] [] [] []

noncomputable def det_Explore_int__3.body : Code := fnBody Try.f112
def det_Explore_int__3.ti : Tm := ⟨[(0, .p (.int .i64)), (1, .p (.int .i64)), (2, .fn 173 [.ptr 0 0, .ptr 1 0]), (3, .fn 174 [.ptr 2 0]), (4, .p (.int .i64))], [.box [.p (.int .i64), .p (.int .i64), .p (.slice (.slice (.int .i64))), .p (.slice (.int .i64))] 58, .box [.fn 129 [.ptr 3 0]] 150, .box [.p (.int .i64)] 3, .box [.p (.int .i64), .p (.int .i64), .p (.slice (.slice (.int .i64))), .p (.slice (.int .i64))] 58]⟩
def det_Explore_int__3.to : Tm := ⟨[(0, .agg [.p (.int .i64), .p (.int .i64), .own 4, .own 5]), (1, .p .bool)], [.box [.p (.int .i64), .p (.int .i64), .p (.slice (.slice (.int .i64))), .p (.slice (.int .i64))] 58, .box [.fn 129 [.ptr 3 0]] 150, .box [.p (.int .i64)] 3, .box [.p (.int .i64), .p (.int .i64), .p (.slice (.slice (.int .i64))), .p (.slice (.int .i64))] 58, .own (.slice (.int .i64)), .own (.int .i64)]⟩
def det_Explore_int__3.rs (r : Int × Int × Bool × Int × Int × (List (List Int)) × (List Int) × Int × Int × Int × (List (List Int)) × (List Int) × (List (List Int)) × (List Int)) : List Dat := [⟨(.int .i64), r.1⟩, ⟨(.int .i64), r.2.1⟩, ⟨.bool, r.2.2.1⟩, ⟨(.int .i64), r.2.2.2.1⟩, ⟨(.int .i64), r.2.2.2.2.1⟩, ⟨(.slice (.slice (.int .i64))), r.2.2.2.2.2.1⟩, ⟨(.slice (.int .i64)), r.2.2.2.2.2.2.1⟩, ⟨(.int .i64), r.2.2.2.2.2.2.2.1⟩, ⟨(.int .i64), r.2.2.2.2.2.2.2.2.1⟩, ⟨(.int .i64), r.2.2.2.2.2.2.2.2.2.1⟩, ⟨(.slice (.slice (.int .i64))), r.2.2.2.2.2.2.2.2.2.2.1⟩, ⟨(.slice (.int .i64)), r.2.2.2.2.2.2.2.2.2.2.2.1⟩, ⟨(.slice (.slice (.int .i64))), r.2.2.2.2.2.2.2.2.2.2.2.2.1⟩, ⟨(.slice (.int .i64)), r.2.2.2.2.2.2.2.2.2.2.2.2.2⟩]
def det_Explore_int__3.out (ds : List Dat) : Option (Int × Int × Bool × Int × Int × (List (List Int)) × (List Int) × Int × Int × Int × (List (List Int)) × (List Int) × (List (List Int)) × (List Int)) := pop (.int .i64) ds fun x0 ds => pop (.int .i64) ds fun x1 ds => pop .bool ds fun x2 ds => pop (.int .i64) ds fun x3 ds => pop (.int .i64) ds fun x4 ds => pop (.slice (.slice (.int .i64))) ds fun x5 ds => pop (.slice (.int .i64)) ds fun x6 ds => pop (.int .i64) ds fun x7 ds => pop (.int .i64) ds fun x8 ds => pop (.int .i64) ds fun x9 ds => pop (.slice (.slice (.int .i64))) ds fun x10 ds => pop (.slice (.int .i64)) ds fun x11 ds => pop (.slice (.slice (.int .i64))) ds fun x12 ds => pop (.slice (.int .i64)) ds fun x13 ds => popN ds (some (x0, x1, x2, x3, x4, x5, x6, x7, x8, x9, x10, x11, x12, x13))
def det_Explore_int__3.c (k : Nat) (ds : List Dat) : Option (Int × Int × Bool × Int × Int × (List (List Int)) × (List Int) × Int × Int × Int × (List (List Int)) × (List Int) × (List (List Int)) × (List Int)) := pop (.int .i64) ds fun x0 ds => pop (.int .i64) ds fun x1 ds => pop (.int .i64) ds fun x2 ds => pop (.int .i64) ds fun x3 ds => pop (.int .i64) ds fun x4 ds => pop (.slice (.slice (.int .i64))) ds fun x5 ds => pop (.slice (.int .i64)) ds fun x6 ds => pop (.int .i64) ds fun x7 ds => pop (.int .i64) ds fun x8 ds => pop (.int .i64) ds fun x9 ds => pop (.slice (.slice (.int .i64))) ds fun x10 ds => pop (.slice (.int .i64)) ds fun x11 ds => popN ds (det_Explore_int__3.f k x0 x1 x2 x3 x4 x5 x6 x7 x8 x9 x10 x11)
def det_Explore_int__3.g : Nat → List Dat → Option (Int × Int × Bool × Int × Int × (List (List Int)) × (List Int) × Int × Int × Int × (List (List Int)) × (List Int) × (List (List Int)) × (List Int))
 | 0, _ => none
 | k + 1, ds => det_Explore_int__3.c k ds
def det_Explore_int__3.env (k : Nat) : Nat → List SV → List Chunk → KT (Int × Int × Bool × Int × Int × (List (List Int)) × (List Int) × Int × Int × Int × (List (List Int)) × (List Int) × (List (List Int)) × (List Int)) → Option (Int × Int × Bool × Int × Int × (List (List Int)) × (List Int) × Int × Int × Int × (List (List Int)) × (List Int) × (List (List Int)) × (List Int)) := (envC 173 4 higman_sets_1_2.ti higman_sets_1_2.to (fun ds K => pop (.int .i64) ds fun x0 ds => pop (.int .i64) ds fun x1 ds => pop (.int .i64) ds fun x2 ds => pop (.int .i64) ds fun x3 ds => pop (.slice (.slice (.int .i64))) ds fun x4 ds => pop (.slice (.int .i64)) ds fun x5 ds => pop (.int .i64) ds fun x6 ds => pop (.int .i64) ds fun x7 ds => pop (.slice (.slice (.int .i64))) ds fun x8 ds => pop (.slice (.int .i64)) ds fun x9 ds => popN ds ((higman_sets_1_2.f k x0 x1 x2 x3 x4 x5 x6 x7 x8 x9).bind fun r => K (higman_sets_1_2.rs r))) (envC 174 2 higman_sets_2.ti higman_sets_2.to (fun ds K => pop (.int .i64) ds fun x0 ds => pop (.int .i64) ds fun x1 ds => popN ds ((higman_sets_2.f k x0 x1).bind fun r => K (higman_sets_2.rs r))) env0))
def det_Explore_int__3.t9 : Tm := ⟨[(0, .p (.int .i64)), (2, .fn 173 [.ptr 0 0, .ptr 1 0]), (3, .fn 174 [.ptr 2 0]), (4, .p (.int .i64)), (10, .ptr 4 0), (12, .ptr 5 0), (13, .map 6), (14, .own 7)], [.box [.p (.int .i64), .p (.int .i64), .p (.slice (.slice (.int .i64))), .p (.slice (.int .i64))] 58, .box [.fn 129 [.ptr 3 0]] 150, .box [.p (.int .i64)] 3, .box [.p (.int .i64), .p (.int .i64), .p (.slice (.slice (.int .i64))), .p (.slice (.int .i64))] 58, .box [.p (.int .i64), .p (.int .i64), .own 8, .own 9] 58, .box [.p (.int .i64), .p (.int .i64), .own 10, .own 11] 58, .map (.int .i64) (.int .i64), .own (.int .i64), .own (.slice (.int .i64)), .own (.int .i64), .own (.slice (.int .i64)), .own (.int .i64)]⟩
def det_Explore_int__3.c9 (k : Nat) (ds : List Dat) : Option (Int × Int × Bool × Int × Int × (List (List Int)) × (List Int) × Int × Int × Int × (List (List Int)) × (List Int) × (List (List Int)) × (List Int)) := pop (.int .i64) ds fun x0 ds => pop (.int .i64) ds fun x1 ds => pop (.int .i64) ds fun x2 ds => pop (.int .i64) ds fun x3 ds => pop (.slice (.slice (.int .i64))) ds fun x4 ds => pop (.slice (.int .i64)) ds fun x5 ds => pop (.int .i64) ds fun x6 ds => pop (.int .i64) ds fun x7 ds => pop (.int .i64) ds fun x8 ds => pop (.slice (.slice (.int .i64))) ds fun x9 ds => pop (.slice (.int .i64)) ds fun x10 ds => pop (.int .i64) ds fun x11 ds => pop (.int .i64) ds fun x12 ds => pop (.int .i64) ds fun x13 ds => pop (.int .i64) ds fun x14 ds => pop (.slice (.pair (.int .i64) (.int .i64))) ds fun x15 ds => pop (.slice (.int .i64)) ds fun x16 ds => pop (.slice (.slice (.int .i64))) ds fun x17 ds => pop (.slice (.int .i64)) ds fun x18 ds => pop (.slice (.slice (.int .i64))) ds fun x19 ds => pop (.slice (.int .i64)) ds fun x20 ds => popN ds (det_Explore_int__3.l4 k x0 x1 x2 x3 x4 x5 x6 x7 x8 x9 x10 x11 x12 x13 x14 x15 x16 x17 x18 x19 x20)
def det_Explore_int__3.t17 : Tm := ⟨[(0, .p (.int .i64)), (2, .fn 173 [.ptr 0 0, .ptr 1 0]), (3, .fn 174 [.ptr 2 0]), (4, .p (.int .i64)), (10, .ptr 4 0), (12, .ptr 5 0), (13, .map 6), (14, .own 7), (15, .p (.int .i64)), (16, .own 8), (42, .p (.int .i64)), (43, .p (.int .i64))], [.box [.p (.int .i64), .p (.int .i64), .p (.slice (.slice (.int .i64))), .p (.slice (.int .i64))] 58, .box [.fn 129 [.ptr 3 0]] 150, .box [.p (.int .i64)] 3, .box [.p (.int .i64), .p (.int .i64), .p (.slice (.slice (.int .i64))), .p (.slice (.int .i64))] 58, .box [.p (.int .i64), .p (.int .i64), .own 9, .own 10] 58, .box [.p (.int .i64), .p (.int .i64), .own 11, .own 12] 58, .map (.int .i64) (.int .i64), .own (.int .i64), .own (.int .i64), .own (.slice (.int .i64)), .own (.int .i64), .own (.slice (.int .i64)), .own (.int .i64)]⟩
def det_Explore_int__3.c17 (k : Nat) (ds : List Dat) : Option (Int × Int × Bool × Int × Int × (List (List Int)) × (List Int) × Int × Int × Int × (List (List Int)) × (List Int) × (List (List Int)) × (List Int)) := pop (.int .i64) ds fun x0 ds => pop (.int .i64) ds fun x1 ds => pop (.int .i64) ds fun x2 ds => pop (.int .i64) ds fun x3 ds => pop (.int .i64) ds fun x4 ds => pop (.int .i64) ds fun x5 ds => pop (.int .i64) ds fun x6 ds => pop (.slice (.slice (.int .i64))) ds fun x7 ds => pop (.slice (.int .i64)) ds fun x8 ds => pop (.int .i64) ds fun x9 ds => pop (.int .i64) ds fun x10 ds => pop (.int .i64) ds fun x11 ds => pop (.slice (.slice (.int .i64))) ds fun x12 ds => pop (.slice (.int .i64)) ds fun x13 ds => pop (.int .i64) ds fun x14 ds => pop (.int .i64) ds fun x15 ds => pop (.int .i64) ds fun x16 ds => pop (.int .i64) ds fun x17 ds => pop (.slice (.pair (.int .i64) (.int .i64))) ds fun x18 ds => pop (.slice (.int .i64)) ds fun x19 ds => pop (.slice (.int .i64)) ds fun x20 ds => pop (.slice (.slice (.int .i64))) ds fun x21 ds => pop (.slice (.int .i64)) ds fun x22 ds => pop (.slice (.slice (.int .i64))) ds fun x23 ds => pop (.slice (.int .i64)) ds fun x24 ds => popN ds (det_Explore_int__3.l8 k x0 x1 x2 x3 x4 x5 x6 x7 x8 x9 x10 x11 x12 x13 x14 x15 x16 x17 x18 x19 x20 x21 x22 x23 x24)
def det_Explore_int__3.t36 : Tm := ⟨[(0, .p (.int .i64)), (2, .fn 173 [.ptr 0 0, .ptr 1 0]), (3, .fn 174 [.ptr 2 0]), (4, .p (.int .i64)), (10, .ptr 4 0), (12, .ptr 5 0), (13, .map 6), (14, .own 7), (15, .p (.int .i64)), (16, .own 8), (17, .p (.int .i64)), (19, .p (.int .i64)), (42, .p (.int .i64)), (43, .p (.int .i64))], [.box [.p (.int .i64), .p (.int .i64), .p (.slice (.slice (.int .i64))), .p (.slice (.int .i64))] 58, .box [.fn 129 [.ptr 3 0]] 150, .box [.p (.int .i64)] 3, .box [.p (.int .i64), .p (.int .i64), .p (.slice (.slice (.int .i64))), .p (.slice (.int .i64))] 58, .box [.p (.int .i64), .p (.int .i64), .own 9, .own 10] 58, .box [.p (.int .i64), .p (.int .i64), .own 11, .own 12] 58, .map (.int .i64) (.int .i64), .own (.int .i64), .own (.int .i64), .own (.slice (.int .i64)), .own (.int .i64), .own (.slice (.int .i64)), .own (.int .i64)]⟩
def det_Explore_int__3.c36 (k : Nat) (ds : List Dat) : Option (Int × Int × Bool × Int × Int × (List (List Int)) × (List Int) × Int × Int × Int × (List (List Int)) × (List Int) × (List (List Int)) × (List Int)) := pop (.int .i64) ds fun x0 ds => pop (.int .i64) ds fun x1 ds => pop (.int .i64) ds fun x2 ds => pop (.int .i64) ds fun x3 ds => pop (.int .i64) ds fun x4 ds => pop (.int .i64) ds fun x5 ds => pop (.int .i64) ds fun x6 ds => pop (.int .i64) ds fun x7 ds => pop (.int .i64) ds fun x8 ds => pop (.slice (.slice (.int .i64))) ds fun x9 ds => pop (.slice (.int .i64)) ds fun x10 ds => pop (.int .i64) ds fun x11 ds => pop (.int .i64) ds fun x12 ds => pop (.int .i64) ds fun x13 ds => pop (.slice (.slice (.int .i64))) ds fun x14 ds => pop (.slice (.int .i64)) ds fun x15 ds => pop (.int .i64) ds fun x16 ds => pop (.int .i64) ds fun x17 ds => pop (.int .i64) ds fun x18 ds => pop (.int .i64) ds fun x19 ds => pop (.slice (.pair (.int .i64) (.int .i64))) ds fun x20 ds => pop (.slice (.int .i64)) ds fun x21 ds => pop (.slice (.int .i64)) ds fun x22 ds => pop (.slice (.slice (.int .i64))) ds fun x23 ds => pop (.slice (.int .i64)) ds fun x24 ds => pop (.slice (.slice (.int .i64))) ds fun x25 ds => pop (.slice (.int .i64)) ds fun x26 ds => popN ds (det_Explore_int__3.j18 k x0 x1 x2 x3 x4 x5 x6 x7 x8 x9 x10 x11 x12 x13 x14 x15 x16 x17 x18 x19 x20 x21 x22 x23 x24 x25 x26)
def det_Explore_int__3.tbl : List (Nat × Tm × (Nat → List Dat → Option (Int × Int × Bool × Int × Int × (List (List Int)) × (List Int) × Int × Int × Int × (List (List Int)) × (List Int) × (List (List Int)) × (List Int)))) := [(9, det_Explore_int__3.t9, det_Explore_int__3.c9), (17, det_Explore_int__3.t17, det_Explore_int__3.c17), (36, det_Explore_int__3.t36, det_Explore_int__3.c36)]
noncomputable abbrev det_Explore_int__3.R (k : Nat) := run T (det_Explore_int__3.env k) Try.f112.ntmps (cutE 4 det_Explore_int__3.tbl k) (finE 4 det_Explore_int__3.to det_Explore_int__3.out) (fnRes Try.f112) [18] 100000 true
theorem det_Explore_int__3.e9 (k : Nat) (x0 : Int) (x1 : Int) (x2 : Int) (x3 : Int) (x4 : (List (List Int))) (x5 : (List Int)) (x6 : Int) (x7 : Int) (x8 : Int) (x9 : (List (List Int))) (x10 : (List Int)) (x11 : Int) (x12 : Int) (x13 : Int) (x14 : Int) (x15 : (List (Int × Int))) (x16 : (List Int)) (x17 : (List (List Int))) (x18 : (List Int)) (x19 : (List (List Int))) (x20 : (List Int)) : det_Explore_int__3.l4 (k + 1) x0 x1 x2 x3 x4 x5 x6 x7 x8 x9 x10 x11 x12 x13 x14 x15 x16 x17 x18 x19 x20 = det_Explore_int__3.R k (start (stackOf 9 det_Explore_int__3.body)) (det_Explore_int__3.t9.fill [⟨(.int .i64), x0⟩, ⟨(.int .i64), x1⟩, ⟨(.int .i64), x2⟩, ⟨(.int .i64), x3⟩, ⟨(.slice (.slice (.int .i64))), x4⟩, ⟨(.slice (.int .i64)), x5⟩, ⟨(.int .i64), x6⟩, ⟨(.int .i64), x7⟩, ⟨(.int .i64), x8⟩, ⟨(.slice (.slice (.int .i64))), x9⟩, ⟨(.slice (.int .i64)), x10⟩, ⟨(.int .i64), x11⟩, ⟨(.int .i64), x12⟩, ⟨(.int .i64), x13⟩, ⟨(.int .i64), x14⟩, ⟨(.slice (.pair (.int .i64) (.int .i64))), x15⟩, ⟨(.slice (.int .i64)), x16⟩, ⟨(.slice (.slice (.int .i64))), x17⟩, ⟨(.slice (.int .i64)), x18⟩, ⟨(.slice (.slice (.int .i64))), x19⟩, ⟨(.slice (.int .i64)), x20⟩]) := by kernel_rfl
theorem det_Explore_int__3.s9 : stackAt 9 det_Explore_int__3.body [] = some (stackOf 9 det_Explore_int__3.body) := by kernel_rfl
theorem det_Explore_int__3.h9 (k : Nat) (ds : List Dat) (r : Int × Int × Bool × Int × Int × (List (List Int)) × (List Int) × Int × Int × Int × (List (List Int)) × (List Int) × (List (List Int)) × (List Int)) (h : det_Explore_int__3.c9 k ds = some r) : ∃ k', k' < k ∧ ∃ s, stackAt 9 det_Explore_int__3.body [] = some s ∧ det_Explore_int__3.R k' (start s) (det_Explore_int__3.t9.fill ds) = some r := by
  unfold det_Explore_int__3.c9 at h
  obtain ⟨x0, d0, rfl, h0⟩ := pop_some h
  obtain ⟨x1, d1, rfl, h1⟩ := pop_some h0
  obtain ⟨x2, d2, rfl, h2⟩ := pop_some h1
  obtain ⟨x3, d3, rfl, h3⟩ := pop_some h2
  obtain ⟨x4, d4, rfl, h4⟩ := pop_some h3
  obtain ⟨x5, d5, rfl, h5⟩ := pop_some h4
  obtain ⟨x6, d6, rfl, h6⟩ := pop_some h5
  obtain ⟨x7, d7, rfl, h7⟩ := pop_some h6
  obtain ⟨x8, d8, rfl, h8⟩ := pop_some h7
  obtain ⟨x9, d9, rfl, h9⟩ := pop_some h8
  obtain ⟨x10, d10, rfl, h10⟩ := pop_some h9
  obtain ⟨x11, d11, rfl, h11⟩ := pop_some h10
  obtain ⟨x12, d12, rfl, h12⟩ := pop_some h11
  obtain ⟨x13, d13, rfl, h13⟩ := pop_some h12
  obtain ⟨x14, d14, rfl, h14⟩ := pop_some h13
  obtain ⟨x15, d15, rfl, h15⟩ := pop_some h14
  obtain ⟨x16, d16, rfl, h16⟩ := pop_some h15
  obtain ⟨x17, d17, rfl, h17⟩ := pop_some h16
  obtain ⟨x18, d18, rfl, h18⟩ := pop_some h17
  obtain ⟨x19, d19, rfl, h19⟩ := pop_some h18
  obtain ⟨x20, d20, rfl, h20⟩ := pop_some h19
  obtain ⟨rfl, g⟩ := popN_some h20
  cases k with
  | zero => cases (show none = some r from g)
  | succ k => exact ⟨k, Nat.lt_succ_self k, _, det_Explore_int__3.s9, (det_Explore_int__3.e9 k x0 x1 x2 x3 x4 x5 x6 x7 x8 x9 x10 x11 x12 x13 x14 x15 x16 x17 x18 x19 x20).symm.trans g⟩
theorem det_Explore_int__3.e17 (k : Nat) (x0 : Int) (x1 : Int) (x2 : Int) (x3 : Int) (x4 : Int) (x5 : Int) (x6 : Int) (x7 : (List (List Int))) (x8 : (List Int)) (x9 : Int) (x10 : Int) (x11 : Int) (x12 : (List (List Int))) (x13 : (List Int)) (x14 : Int) (x15 : Int) (x16 : Int) (x17 : Int) (x18 : (List (Int × Int))) (x19 : (List Int)) (x20 : (List Int)) (x21 : (List (List Int))) (x22 : (List Int)) (x23 : (List (List Int))) (x24 : (List Int)) : det_Explore_int__3.l8 (k + 1) x0 x1 x2 x3 x4 x5 x6 x7 x8 x9 x10 x11 x12 x13 x14 x15 x16 x17 x18 x19 x20 x21 x22 x23 x24 = det_Explore_int__3.R k (start (stackOf 17 det_Explore_int__3.body)) (det_Explore_int__3.t17.fill [⟨(.int .i64), x0⟩, ⟨(.int .i64), x1⟩, ⟨(.int .i64), x2⟩, ⟨(.int .i64), x3⟩, ⟨(.int .i64), x4⟩, ⟨(.int .i64), x5⟩, ⟨(.int .i64), x6⟩, ⟨(.slice (.slice (.int .i64))), x7⟩, ⟨(.slice (.int .i64)), x8⟩, ⟨(.int .i64), x9⟩, ⟨(.int .i64), x10⟩, ⟨(.int .i64), x11⟩, ⟨(.slice (.slice (.int .i64))), x12⟩, ⟨(.slice (.int .i64)), x13⟩, ⟨(.int .i64), x14⟩, ⟨(.int .i64), x15⟩, ⟨(.int .i64), x16⟩, ⟨(.int .i64), x17⟩, ⟨(.slice (.pair (.int .i64) (.int .i64))), x18⟩, ⟨(.slice (.int .i64)), x19⟩, ⟨(.slice (.int .i64)), x20⟩, ⟨(.slice (.slice (.int .i64))), x21⟩, ⟨(.slice (.int .i64)), x22⟩, ⟨(.slice (.slice (.int .i64))), x23⟩, ⟨(.slice (.int .i64)), x24⟩]) := by kernel_rfl
theorem det_Explore_int__3.s17 : stackAt 17 det_Explore_int__3.body [] = some (stackOf 17 det_Explore_int__3.body) := by kernel_rfl
theorem det_Explore_int__3.h17 (k : Nat) (ds : List Dat) (r : Int × Int × Bool × Int × Int × (List (List Int)) × (List Int) × Int × Int × Int × (List (List Int)) × (List Int) × (List (List Int)) × (List Int)) (h : det_Explore_int__3.c17 k ds = some r) : ∃ k', k' < k ∧ ∃ s, stackAt 17 det_Explore_int__3.body [] = some s ∧ det_Explore_int__3.R k' (start s) (det_Explore_int__3.t17.fill ds) = some r := by
  unfold det_Explore_int__3.c17 at h
  obtain ⟨x0, d0, rfl, h0⟩ := pop_some h
  obtain ⟨x1, d1, rfl, h1⟩ := pop_some h0
  obtain ⟨x2, d2, rfl, h2⟩ := pop_some h1
  obtain ⟨x3, d3, rfl, h3⟩ := pop_some h2
  obtain ⟨x4, d4, rfl, h4⟩ := pop_some h3
  obtain ⟨x5, d5, rfl, h5⟩ := pop_some h4
  obtain ⟨x6, d6, rfl, h6⟩ := pop_some h5
  obtain ⟨x7, d7, rfl, h7⟩ := pop_some h6
  obtain ⟨x8, d8, rfl, h8⟩ := pop_some h7
  obtain ⟨x9, d9, rfl, h9⟩ := pop_some h8
  obtain ⟨x10, d10, rfl, h10⟩ := pop_some h9
  obtain ⟨x11, d11, rfl, h11⟩ := pop_some h10
  obtain ⟨x12, d12, rfl, h12⟩ := pop_some h11
  obtain ⟨x13, d13, rfl, h13⟩ := pop_some h12
  obtain ⟨x14, d14, rfl, h14⟩ := pop_some h13
  obtain ⟨x15, d15, rfl, h15⟩ := pop_some h14
  obtain ⟨x16, d16, rfl, h16⟩ := pop_some h15
  obtain ⟨x17, d17, rfl, h17⟩ := pop_some h16
  obtain ⟨x18, d18, rfl, h18⟩ := pop_some h17
  obtain ⟨x19, d19, rfl, h19⟩ := pop_some h18
  obtain ⟨x20, d20, rfl, h20⟩ := pop_some h19
  obtain ⟨x21, d21, rfl, h21⟩ := pop_some h20
  obtain ⟨x22, d22, rfl, h22⟩ := pop_some h21
  obtain ⟨x23, d23, rfl, h23⟩ := pop_some h22
  obtain ⟨x24, d24, rfl, h24⟩ := pop_some h23
  obtain ⟨rfl, g⟩ := popN_some h24
  cases k with
  | zero => cases (show none = some r from g)
  | succ k => exact ⟨k, Nat.lt_succ_self k, _, det_Explore_int__3.s17, (det_Explore_int__3.e17 k x0 x1 x2 x3 x4 x5 x6 x7 x8 x9 x10 x11 x12 x13 x14 x15 x16 x17 x18 x19 x20 x21 x22 x23 x24).symm.trans g⟩
theorem det_Explore_int__3.e36 (k : Nat) (x0 : Int) (x1 : Int) (x2 : Int) (x3 : Int) (x4 : Int) (x5 : Int) (x6 : Int) (x7 : Int) (x8 : Int) (x9 : (List (List Int))) (x10 : (List Int)) (x11 : Int) (x12 : Int) (x13 : Int) (x14 : (List (List Int))) (x15 : (List Int)) (x16 : Int) (x17 : Int) (x18 : Int) (x19 : Int) (x20 : (List (Int × Int))) (x21 : (List Int)) (x22 : (List Int)) (x23 : (List (List Int))) (x24 : (List Int)) (x25 : (List (List Int))) (x26 : (List Int)) : det_Explore_int__3.j18 (k + 1) x0 x1 x2 x3 x4 x5 x6 x7 x8 x9 x10 x11 x12 x13 x14 x15 x16 x17 x18 x19 x20 x21 x22 x23 x24 x25 x26 = det_Explore_int__3.R k (start (stackOf 36 det_Explore_int__3.body)) (det_Explore_int__3.t36.fill [⟨(.int .i64), x0⟩, ⟨(.int .i64), x1⟩, ⟨(.int .i64), x2⟩, ⟨(.int .i64), x3⟩, ⟨(.int .i64), x4⟩, ⟨(.int .i64), x5⟩, ⟨(.int .i64), x6⟩, ⟨(.int .i64), x7⟩, ⟨(.int .i64), x8⟩, ⟨(.slice (.slice (.int .i64))), x9⟩, ⟨(.slice (.int .i64)), x10⟩, ⟨(.int .i64), x11⟩, ⟨(.int .i64), x12⟩, ⟨(.int .i64), x13⟩, ⟨(.slice (.slice (.int .i64))), x14⟩, ⟨(.slice (.int .i64)), x15⟩, ⟨(.int .i64), x16⟩, ⟨(.int .i64), x17⟩, ⟨(.int .i64), x18⟩, ⟨(.int .i64), x19⟩, ⟨(.slice (.pair (.int .i64) (.int .i64))), x20⟩, ⟨(.slice (.int .i64)), x21⟩, ⟨(.slice (.int .i64)), x22⟩, ⟨(.slice (.slice (.int .i64))), x23⟩, ⟨(.slice (.int .i64)), x24⟩, ⟨(.slice (.slice (.int .i64))), x25⟩, ⟨(.slice (.int .i64)), x26⟩]) := by kernel_rfl
theorem det_Explore_int__3.s36 : stackAt 36 det_Explore_int__3.body [] = some (stackOf 36 det_Explore_int__3.body) := by kernel_rfl
theorem det_Explore_int__3.h36 (k : Nat) (ds : List Dat) (r : Int × Int × Bool × Int × Int × (List (List Int)) × (List Int) × Int × Int × Int × (List (List Int)) × (List Int) × (List (List Int)) × (List Int)) (h : det_Explore_int__3.c36 k ds = some r) : ∃ k', k' < k ∧ ∃ s, stackAt 36 det_Explore_int__3.body [] = some s ∧ det_Explore_int__3.R k' (start s) (det_Explore_int__3.t36.fill ds) = some r := by
  unfold det_Explore_int__3.c36 at h
  obtain ⟨x0, d0, rfl, h0⟩ := pop_some h
  obtain ⟨x1, d1, rfl, h1⟩ := pop_some h0
  obtain ⟨x2, d2, rfl, h2⟩ := pop_some h1
  obtain ⟨x3, d3, rfl, h3⟩ := pop_some h2
  obtain ⟨x4, d4, rfl, h4⟩ := pop_some h3
  obtain ⟨x5, d5, rfl, h5⟩ := pop_some h4
  obtain ⟨x6, d6, rfl, h6⟩ := pop_some h5
  obtain ⟨x7, d7, rfl, h7⟩ := pop_some h6
  obtain ⟨x8, d8, rfl, h8⟩ := pop_some h7
  obtain ⟨x9, d9, rfl, h9⟩ := pop_some h8
  obtain ⟨x10, d10, rfl, h10⟩ := pop_some h9
  obtain ⟨x11, d11, rfl, h11⟩ := pop_some h10
  obtain ⟨x12, d12, rfl, h12⟩ := pop_some h11
  obtain ⟨x13, d13, rfl, h13⟩ := pop_some h12
  obtain ⟨x14, d14, rfl, h14⟩ := pop_some h13
  obtain ⟨x15, d15, rfl, h15⟩ := pop_some h14
  obtain ⟨x16, d16, rfl, h16⟩ := pop_some h15
  obtain ⟨x17, d17, rfl, h17⟩ := pop_some h16
  obtain ⟨x18, d18, rfl, h18⟩ := pop_some h17
  obtain ⟨x19, d19, rfl, h19⟩ := pop_some h18
  obtain ⟨x20, d20, rfl, h20⟩ := pop_some h19
  obtain ⟨x21, d21, rfl, h21⟩ := pop_some h20
  obtain ⟨x22, d22, rfl, h22⟩ := pop_some h21
  obtain ⟨x23, d23, rfl, h23⟩ := pop_some h22
  obtain ⟨x24, d24, rfl, h24⟩ := pop_some h23
  obtain ⟨x25, d25, rfl, h25⟩ := pop_some h24
  obtain ⟨x26, d26, rfl, h26⟩ := pop_some h25
  obtain ⟨rfl, g⟩ := popN_some h26
  cases k with
  | zero => cases (show none = some r from g)
  | succ k => exact ⟨k, Nat.lt_succ_self k, _, det_Explore_int__3.s36, (det_Explore_int__3.e36 k x0 x1 x2 x3 x4 x5 x6 x7 x8 x9 x10 x11 x12 x13 x14 x15 x16 x17 x18 x19 x20 x21 x22 x23 x24 x25 x26).symm.trans g⟩
theorem det_Explore_int__3.e (k : Nat) (x0 : Int) (x1 : Int) (x2 : Int) (x3 : Int) (x4 : Int) (x5 : (List (List Int))) (x6 : (List Int)) (x7 : Int) (x8 : Int) (x9 : Int) (x10 : (List (List Int))) (x11 : (List Int)) : det_Explore_int__3.f k x0 x1 x2 x3 x4 x5 x6 x7 x8 x9 x10 x11 = det_Explore_int__3.R k ([.code det_Explore_int__3.body]) (det_Explore_int__3.ti.fill [⟨(.int .i64), x0⟩, ⟨(.int .i64), x1⟩, ⟨(.int .i64), x2⟩, ⟨(.int .i64), x3⟩, ⟨(.int .i64), x4⟩, ⟨(.slice (.slice (.int .i64))), x5⟩, ⟨(.slice (.int .i64)), x6⟩, ⟨(.int .i64), x7⟩, ⟨(.int .i64), x8⟩, ⟨(.int .i64), x9⟩, ⟨(.slice (.slice (.int .i64))), x10⟩, ⟨(.slice (.int .i64)), x11⟩]) := by kernel_rfl
theorem det_Explore_int__3.h (k : Nat) (ds : List Dat) (r : Int × Int × Bool × Int × Int × (List (List Int)) × (List Int) × Int × Int × Int × (List (List Int)) × (List Int) × (List (List Int)) × (List Int)) (h : det_Explore_int__3.g k ds = some r) : ∃ k', k' < k ∧ det_Explore_int__3.R k' ([.code det_Explore_int__3.body]) (det_Explore_int__3.ti.fill ds) = some r := by
  cases k with
  | zero => cases (show none = some r from h)
  | succ k =>
  replace h : det_Explore_int__3.c k ds = some r := h
  unfold det_Explore_int__3.c at h
  obtain ⟨x0, d0, rfl, h0⟩ := pop_some h
  obtain ⟨x1, d1, rfl, h1⟩ := pop_some h0
  obtain ⟨x2, d2, rfl, h2⟩ := pop_some h1
  obtain ⟨x3, d3, rfl, h3⟩ := pop_some h2
  obtain ⟨x4, d4, rfl, h4⟩ := pop_some h3
  obtain ⟨x5, d5, rfl, h5⟩ := pop_some h4
  obtain ⟨x6, d6, rfl, h6⟩ := pop_some h5
  obtain ⟨x7, d7, rfl, h7⟩ := pop_some h6
  obtain ⟨x8, d8, rfl, h8⟩ := pop_some h7
  obtain ⟨x9, d9, rfl, h9⟩ := pop_some h8
  obtain ⟨x10, d10, rfl, h10⟩ := pop_some h9
  obtain ⟨x11, d11, rfl, h11⟩ := pop_some h10
  obtain ⟨rfl, g⟩ := popN_some h11
  exact ⟨k, Nat.lt_succ_self k, (det_Explore_int__3.e k x0 x1 x2 x3 x4 x5 x6 x7 x8 x9 x10 x11).symm.trans g⟩
theorem det_Explore_int__3.o (ds : List Dat) (r : Int × Int × Bool × Int × Int × (List (List Int)) × (List Int) × Int × Int × Int × (List (List Int)) × (List Int) × (List (List Int)) × (List Int)) (h : det_Explore_int__3.out ds = some r) : ds = det_Explore_int__3.rs r := by
  unfold det_Explore_int__3.out at h
  obtain ⟨x0, d0, rfl, h0⟩ := pop_some h
  obtain ⟨x1, d1, rfl, h1⟩ := pop_some h0
  obtain ⟨x2, d2, rfl, h2⟩ := pop_some h1
  obtain ⟨x3, d3, rfl, h3⟩ := pop_some h2
  obtain ⟨x4, d4, rfl, h4⟩ := pop_some h3
  obtain ⟨x5, d5, rfl, h5⟩ := pop_some h4
  obtain ⟨x6, d6, rfl, h6⟩ := pop_some h5
  obtain ⟨x7, d7, rfl, h7⟩ := pop_some h6
  obtain ⟨x8, d8, rfl, h8⟩ := pop_some h7
  obtain ⟨x9, d9, rfl, h9⟩ := pop_some h8
  obtain ⟨x10, d10, rfl, h10⟩ := pop_some h9
  obtain ⟨x11, d11, rfl, h11⟩ := pop_some h10
  obtain ⟨x12, d12, rfl, h12⟩ := pop_some h11
  obtain ⟨x13, d13, rfl, h13⟩ := pop_some h12
  obtain ⟨rfl, g⟩ := popN_some h13
  cases g
  rfl
theorem det_Explore_int__3.fn : FnOk Try.prog 112 Try.f112 det_Explore_int__3.body Try.f112.ntmps 5 (fnRes Try.f112) :=
  fnOk_of (by kernel_rfl) (by kernel_rfl) (by kernel_rfl) (by kernel_rfl)
theorem det_Explore_int__3.con' : ∀ k ds r, det_Explore_int__3.g k ds = some r → Con Try.prog 112 5 det_Explore_int__3.ti det_Explore_int__3.to ds (det_Explore_int__3.rs r) :=
  fun_ok (T := T) T_ok mixed det_Explore_int__3.fn (env := det_Explore_int__3.env) (tbl := det_Explore_int__3.tbl) (gOut := det_Explore_int__3.out) (nin := 4) (cuts := [18]) (fuel := 100000) rfl (by kernel_rfl) (by kernel_rfl) (by kernel_rfl) (fun x hx => by
    simp only [det_Explore_int__3.tbl, List.mem_cons, List.not_mem_nil, or_false] at hx
    rcases hx with rfl | rfl | rfl
    · exact det_Explore_int__3.h9
    · exact det_Explore_int__3.h17
    · exact det_Explore_int__3.h36
) det_Explore_int__3.o det_Explore_int__3.h (fun k _ => by unfold det_Explore_int__3.env; exact (envC_ok (fun ds K r h => by
    obtain ⟨x0, d0, rfl, h0⟩ := pop_some h
    obtain ⟨x1, d1, rfl, h1⟩ := pop_some h0
    obtain ⟨x2, d2, rfl, h2⟩ := pop_some h1
    obtain ⟨x3, d3, rfl, h3⟩ := pop_some h2
    obtain ⟨x4, d4, rfl, h4⟩ := pop_some h3
    obtain ⟨x5, d5, rfl, h5⟩ := pop_some h4
    obtain ⟨x6, d6, rfl, h6⟩ := pop_some h5
    obtain ⟨x7, d7, rfl, h7⟩ := pop_some h6
    obtain ⟨x8, d8, rfl, h8⟩ := pop_some h7
    obtain ⟨x9, d9, rfl, h9⟩ := pop_some h8
    obtain ⟨rfl, g⟩ := popN_some h9
    obtain ⟨r1, h1, h2⟩ := bind_some g
    exact ⟨_, h2, higman_sets_1_2.con k _ h1⟩) (envC_ok (fun ds K r h => by
    obtain ⟨x0, d0, rfl, h0⟩ := pop_some h
    obtain ⟨x1, d1, rfl, h1⟩ := pop_some h0
    obtain ⟨rfl, g⟩ := popN_some h1
    obtain ⟨r1, h1, h2⟩ := bind_some g
    exact ⟨_, h2, higman_sets_2.con k _ h1⟩) env0_ok)))
theorem det_Explore_int__3.con (k : Nat) {x0 : Int} {x1 : Int} {x2 : Int} {x3 : Int} {x4 : Int} {x5 : (List (List Int))} {x6 : (List Int)} {x7 : Int} {x8 : Int} {x9 : Int} {x10 : (List (List Int))} {x11 : (List Int)} (r : Int × Int × Bool × Int × Int × (List (List Int)) × (List Int) × Int × Int × Int × (List (List Int)) × (List Int) × (List (List Int)) × (List Int)) (h : det_Explore_int__3.f k x0 x1 x2 x3 x4 x5 x6 x7 x8 x9 x10 x11 = some r) : Con Try.prog 112 5 det_Explore_int__3.ti det_Explore_int__3.to [⟨(.int .i64), x0⟩, ⟨(.int .i64), x1⟩, ⟨(.int .i64), x2⟩, ⟨(.int .i64), x3⟩, ⟨(.int .i64), x4⟩, ⟨(.slice (.slice (.int .i64))), x5⟩, ⟨(.slice (.int .i64)), x6⟩, ⟨(.int .i64), x7⟩, ⟨(.int .i64), x8⟩, ⟨(.int .i64), x9⟩, ⟨(.slice (.slice (.int .i64))), x10⟩, ⟨(.slice (.int .i64)), x11⟩] (det_Explore_int__3.rs r) :=
  det_Explore_int__3.con' (k + 1) _ r (by show det_Explore_int__3.c k _ = some r; unfold det_Explore_int__3.c; simp only [pop_self, popN]; exact h)
mutual
def det_Smallest_3.l4 : Nat → Int → Int → Int → Int → List (List (Int)) → List (Int) → Int → Int → List (Int) → List (List (Int)) → List (Int) → List (Int) → Option (Int × Int × List (List Int) × List Int)
 | 0, _, _, _, _, _, _, _, _, _, _, _, _ => none
 | k + 1, x15, x16, d1_0, d1_1, d1_2, d1_3, x2_0, x2_1, x14, c5, c6, c7 =>
  if x16 < x15 then
   if 0 ≤ x16 then
   if x16 < (↑x14.length : Int) then
    if 0 ≤ x14.getD x16.toNat (Int.ofNat 0) then
     if x14.getD x16.toNat (Int.ofNat 0) < (↑c7.length : Int) then
      det_Smallest_3.l4 k x15 (Go.IntKind.i64.wrap (x16 + 1)) d1_0 d1_1 d1_2 d1_3 x2_0 x2_1 x14 c5 c6 (c7.set (x14.getD x16.toNat (Int.ofNat 0)).toNat x16)
      else none
     else none
    else none
   else none
  else
   if 0 ≤ d1_1 then
   if d1_1 < (↑x14.length : Int) then
    (det_Explore_int__2.f k d1_0 (x14.getD d1_1.toNat (Int.ofNat 0)) (Go.IntKind.i64.wrap ((↑x14.length : Int) + 1)) d1_0 d1_1 d1_2 d1_3 x14 c7).bind fun r5 =>
      some (r5.fst, r5.snd.fst, r5.snd.snd.snd.snd.snd.snd.snd.snd.snd.fst, r5.snd.snd.snd.snd.snd.snd.snd.snd.snd.snd)
    else none
   else none
end
def det_Smallest_3.f (k : Nat) (d0 : (Int × (Int × (List (List (Int)) × (List (Int) × Unit))))) : Option (Int × Int × List (List Int) × List Int) :=
 (det_Classes.f k (d0.fst, d0.snd.fst, d0.snd.snd.fst, d0.snd.snd.snd.fst, ())).bind fun r1 =>
  if 0 ≤ (↑r1.length : Int) then
  if (↑r1.length : Int) ≤ (↑r1.length : Int) then
   if (↑r1.length : Int) * ((↑8 : Int) + 1) ≤ 1099511627776 then
    det_Smallest_3.l4 k ((↑r1.length : Int)) 0 d0.fst d0.snd.fst d0.snd.snd.fst d0.snd.snd.snd.fst 0 0 r1 [] [] (List.replicate (↑r1.length : Int).toNat (Int.ofNat 0))
    else none
   else none
  else none

noncomputable def det_Smallest_3.body : Code := fnBody Try.f100
def det_Smallest_3.ti : Tm := ⟨[(0, .p (.pair (.int .i64) (.pair (.int .i64) (.pair (.slice (.slice (.int .i64))) (.pair (.slice (.int .i64)) .unit)))))], []⟩
def det_Smallest_3.to : Tm := ⟨[(0, .agg [.p (.int .i64), .p (.int .i64), .own 0, .own 1])], [.own (.slice (.int .i64)), .own (.int .i64)]⟩
def det_Smallest_3.rs (r : Int × Int × (List (List Int)) × (List Int)) : List Dat := [⟨(.int .i64), r.1⟩, ⟨(.int .i64), r.2.1⟩, ⟨(.slice (.slice (.int .i64))), r.2.2.1⟩, ⟨(.slice (.int .i64)), r.2.2.2⟩]
def det_Smallest_3.out (ds : List Dat) : Option (Int × Int × (List (List Int)) × (List Int)) := pop (.int .i64) ds fun x0 ds => pop (.int .i64) ds fun x1 ds => pop (.slice (.slice (.int .i64))) ds fun x2 ds => pop (.slice (.int .i64)) ds fun x3 ds => popN ds (some (x0, x1, x2, x3))
def det_Smallest_3.c (k : Nat) (ds : List Dat) : Option (Int × Int × (List (List Int)) × (List Int)) := pop (.pair (.int .i64) (.pair (.int .i64) (.pair (.slice (.slice (.int .i64))) (.pair (.slice (.int .i64)) .unit)))) ds fun x0 ds => popN ds (det_Smallest_3.f k x0)
def det_Smallest_3.g : Nat → List Dat → Option (Int × Int × (List (List Int)) × (List Int))
 | 0, _ => none
 | k + 1, ds => det_Smallest_3.c k ds
def det_Smallest_3.env (k : Nat) : Nat → List SV → List Chunk → KT (Int × Int × (List (List Int)) × (List Int)) → Option (Int × Int × (List (List Int)) × (List Int)) := (envC 112 5 det_Explore_int__2.ti det_Explore_int__2.to (fun ds K => pop (.int .i64) ds fun x0 ds => pop (.int .i64) ds fun x1 ds => pop (.int .i64) ds fun x2 ds => pop (.int .i64) ds fun x3 ds => pop (.int .i64) ds fun x4 ds => pop (.slice (.slice (.int .i64))) ds fun x5 ds => pop (.slice (.int .i64)) ds fun x6 ds => pop (.slice (.int .i64)) ds fun x7 ds => pop (.slice (.int .i64)) ds fun x8 ds => popN ds ((det_Explore_int__2.f k x0 x1 x2 x3 x4 x5 x6 x7 x8).bind fun r => K (det_Explore_int__2.rs r))) (envC 161 1 det_Classes.ti det_Classes.to (fun ds K => pop (.pair (.int .i64) (.pair (.int .i64) (.pair (.slice (.slice (.int .i64))) (.pair (.slice (.int .i64)) .unit)))) ds fun x0 ds => popN ds ((det_Classes.f k x0).bind fun r => K (det_Classes.rs r))) env0))
def det_Smallest_3.t9 : Tm := ⟨[(1, .ptr 0 0), (2, .ptr 1 0), (3, .ptr 2 0), (4, .ptr 3 0), (14, .own 4), (15, .p (.int .i64)), (16, .p (.int .i64))], [.box [.p (.int .i64), .p (.int .i64), .p (.slice (.slice (.int .i64))), .p (.slice (.int .i64))] 58, .box [.p (.int .i64), .p (.int .i64), .own 5, .own 6] 58, .box [.own 4] 23, .box [.own 7] 23, .own (.int .i64), .own (.slice (.int .i64)), .own (.int .i64), .own (.int .i64)]⟩
def det_Smallest_3.c9 (k : Nat) (ds : List Dat) : Option (Int × Int × (List (List Int)) × (List Int)) := pop (.int .i64) ds fun x0 ds => pop (.int .i64) ds fun x1 ds => pop (.int .i64) ds fun x2 ds => pop (.int .i64) ds fun x3 ds => pop (.slice (.slice (.int .i64))) ds fun x4 ds => pop (.slice (.int .i64)) ds fun x5 ds => pop (.int .i64) ds fun x6 ds => pop (.int .i64) ds fun x7 ds => pop (.slice (.int .i64)) ds fun x8 ds => pop (.slice (.slice (.int .i64))) ds fun x9 ds => pop (.slice (.int .i64)) ds fun x10 ds => pop (.slice (.int .i64)) ds fun x11 ds => popN ds (det_Smallest_3.l4 k x0 x1 x2 x3 x4 x5 x6 x7 x8 x9 x10 x11)
def det_Smallest_3.tbl : List (Nat × Tm × (Nat → List Dat → Option (Int × Int × (List (List Int)) × (List Int)))) := [(9, det_Smallest_3.t9, det_Smallest_3.c9)]
noncomputable abbrev det_Smallest_3.R (k : Nat) := run T (det_Smallest_3.env k) Try.f100.ntmps (cutE 0 det_Smallest_3.tbl k) (finE 0 det_Smallest_3.to det_Smallest_3.out) (fnRes Try.f100) [] 100000 true
theorem det_Smallest_3.e9 (k : Nat) (x0 : Int) (x1 : Int) (x2 : Int) (x3 : Int) (x4 : (List (List Int))) (x5 : (List Int)) (x6 : Int) (x7 : Int) (x8 : (List Int)) (x9 : (List (List Int))) (x10 : (List Int)) (x11 : (List Int)) : det_Smallest_3.l4 (k + 1) x0 x1 x2 x3 x4 x5 x6 x7 x8 x9 x10 x11 = det_Smallest_3.R k (start (stackOf 9 det_Smallest_3.body)) (det_Smallest_3.t9.fill [⟨(.int .i64), x0⟩, ⟨(.int .i64), x1⟩, ⟨(.int .i64), x2⟩, ⟨(.int .i64), x3⟩, ⟨(.slice (.slice (.int .i64))), x4⟩, ⟨(.slice (.int .i64)), x5⟩, ⟨(.int .i64), x6⟩, ⟨(.int .i64), x7⟩, ⟨(.slice (.int .i64)), x8⟩, ⟨(.slice (.slice (.int .i64))), x9⟩, ⟨(.slice (.int .i64)), x10⟩, ⟨(.slice (.int .i64)), x11⟩]) := by kernel_rfl
theorem det_Smallest_3.s9 : stackAt 9 det_Smallest_3.body [] = some (stackOf 9 det_Smallest_3.body) := by kernel_rfl
theorem det_Smallest_3.h9 (k : Nat) (ds : List Dat) (r : Int × Int × (List (List Int)) × (List Int)) (h : det_Smallest_3.c9 k ds = some r) : ∃ k', k' < k ∧ ∃ s, stackAt 9 det_Smallest_3.body [] = some s ∧ det_Smallest_3.R k' (start s) (det_Smallest_3.t9.fill ds) = some r := by
  unfold det_Smallest_3.c9 at h
  obtain ⟨x0, d0, rfl, h0⟩ := pop_some h
  obtain ⟨x1, d1, rfl, h1⟩ := pop_some h0
  obtain ⟨x2, d2, rfl, h2⟩ := pop_some h1
  obtain ⟨x3, d3, rfl, h3⟩ := pop_some h2
  obtain ⟨x4, d4, rfl, h4⟩ := pop_some h3
  obtain ⟨x5, d5, rfl, h5⟩ := pop_some h4
  obtain ⟨x6, d6, rfl, h6⟩ := pop_some h5
  obtain ⟨x7, d7, rfl, h7⟩ := pop_some h6
  obtain ⟨x8, d8, rfl, h8⟩ := pop_some h7
  obtain ⟨x9, d9, rfl, h9⟩ := pop_some h8
  obtain ⟨x10, d10, rfl, h10⟩ := pop_some h9
  obtain ⟨x11, d11, rfl, h11⟩ := pop_some h10
  obtain ⟨rfl, g⟩ := popN_some h11
  cases k with
  | zero => cases (show none = some r from g)
  | succ k => exact ⟨k, Nat.lt_succ_self k, _, det_Smallest_3.s9, (det_Smallest_3.e9 k x0 x1 x2 x3 x4 x5 x6 x7 x8 x9 x10 x11).symm.trans g⟩
theorem det_Smallest_3.e (k : Nat) (x0 : (Int × (Int × ((List (List Int)) × ((List Int) × Unit))))) : det_Smallest_3.f k x0 = det_Smallest_3.R k ([.code det_Smallest_3.body]) (det_Smallest_3.ti.fill [⟨(.pair (.int .i64) (.pair (.int .i64) (.pair (.slice (.slice (.int .i64))) (.pair (.slice (.int .i64)) .unit)))), x0⟩]) := by kernel_rfl
theorem det_Smallest_3.h (k : Nat) (ds : List Dat) (r : Int × Int × (List (List Int)) × (List Int)) (h : det_Smallest_3.g k ds = some r) : ∃ k', k' < k ∧ det_Smallest_3.R k' ([.code det_Smallest_3.body]) (det_Smallest_3.ti.fill ds) = some r := by
  cases k with
  | zero => cases (show none = some r from h)
  | succ k =>
  replace h : det_Smallest_3.c k ds = some r := h
  unfold det_Smallest_3.c at h
  obtain ⟨x0, d0, rfl, h0⟩ := pop_some h
  obtain ⟨rfl, g⟩ := popN_some h0
  exact ⟨k, Nat.lt_succ_self k, (det_Smallest_3.e k x0).symm.trans g⟩
theorem det_Smallest_3.o (ds : List Dat) (r : Int × Int × (List (List Int)) × (List Int)) (h : det_Smallest_3.out ds = some r) : ds = det_Smallest_3.rs r := by
  unfold det_Smallest_3.out at h
  obtain ⟨x0, d0, rfl, h0⟩ := pop_some h
  obtain ⟨x1, d1, rfl, h1⟩ := pop_some h0
  obtain ⟨x2, d2, rfl, h2⟩ := pop_some h1
  obtain ⟨x3, d3, rfl, h3⟩ := pop_some h2
  obtain ⟨rfl, g⟩ := popN_some h3
  cases g
  rfl
theorem det_Smallest_3.fn : FnOk Try.prog 100 Try.f100 det_Smallest_3.body Try.f100.ntmps 1 (fnRes Try.f100) :=
  fnOk_of (by kernel_rfl) (by kernel_rfl) (by kernel_rfl) (by kernel_rfl)
theorem det_Smallest_3.con' : ∀ k ds r, det_Smallest_3.g k ds = some r → Con Try.prog 100 1 det_Smallest_3.ti det_Smallest_3.to ds (det_Smallest_3.rs r) :=
  fun_ok (T := T) T_ok mixed det_Smallest_3.fn (env := det_Smallest_3.env) (tbl := det_Smallest_3.tbl) (gOut := det_Smallest_3.out) (nin := 0) (cuts := []) (fuel := 100000) rfl (by kernel_rfl) (by kernel_rfl) (by kernel_rfl) (fun x hx => by
    simp only [det_Smallest_3.tbl, List.mem_cons, List.not_mem_nil, or_false] at hx
    subst hx
    · exact det_Smallest_3.h9
) det_Smallest_3.o det_Smallest_3.h (fun k _ => by unfold det_Smallest_3.env; exact (envC_ok (fun ds K r h => by
    obtain ⟨x0, d0, rfl, h0⟩ := pop_some h
    obtain ⟨x1, d1, rfl, h1⟩ := pop_some h0
    obtain ⟨x2, d2, rfl, h2⟩ := pop_some h1
    obtain ⟨x3, d3, rfl, h3⟩ := pop_some h2
    obtain ⟨x4, d4, rfl, h4⟩ := pop_some h3
    obtain ⟨x5, d5, rfl, h5⟩ := pop_some h4
    obtain ⟨x6, d6, rfl, h6⟩ := pop_some h5
    obtain ⟨x7, d7, rfl, h7⟩ := pop_some h6
    obtain ⟨x8, d8, rfl, h8⟩ := pop_some h7
    obtain ⟨rfl, g⟩ := popN_some h8
    obtain ⟨r1, h1, h2⟩ := bind_some g
    exact ⟨_, h2, det_Explore_int__2.con k _ h1⟩) (envC_ok (fun ds K r h => by
    obtain ⟨x0, d0, rfl, h0⟩ := pop_some h
    obtain ⟨rfl, g⟩ := popN_some h0
    obtain ⟨r1, h1, h2⟩ := bind_some g
    exact ⟨_, h2, det_Classes.con k _ h1⟩) env0_ok)))
theorem det_Smallest_3.con (k : Nat) {x0 : (Int × (Int × ((List (List Int)) × ((List Int) × Unit))))} (r : Int × Int × (List (List Int)) × (List Int)) (h : det_Smallest_3.f k x0 = some r) : Con Try.prog 100 1 det_Smallest_3.ti det_Smallest_3.to [⟨(.pair (.int .i64) (.pair (.int .i64) (.pair (.slice (.slice (.int .i64))) (.pair (.slice (.int .i64)) .unit)))), x0⟩] (det_Smallest_3.rs r) :=
  det_Smallest_3.con' (k + 1) _ r (by show det_Smallest_3.c k _ = some r; unfold det_Smallest_3.c; simp only [pop_self, popN]; exact h)
mutual
def higman_sets_3.l3 : Nat → Int → List (Int) → Int → Int → Int → Int → List (List (Int)) → List (Int) → Int → Int → List (List (Int)) → List (Int) → Int → Int → Int → List (List (Int)) → List (Int) → Option (Int × Int × Int × Int × List (List Int) × List Int × List (List Int) × List Int)
 | 0, _, _, _, _, _, _, _, _, _, _, _, _, _, _, _, _, _ => none
 | k + 1, first1, x13, x14, x15, c0_0, c0_1, c0_2, c0_3, d3_0, d3_1, d3_2, d3_3, x6_0, x6_1, good7_0, c5, c6 =>
  if x15 < x14 then
   if 0 ≤ x15 then
   if x15 < (↑x13.length : Int) then
    if 0 ≤ x15 then
     higman_sets_3.l3 k first1 x13 x14 (Go.IntKind.i64.wrap (x15 + 1)) c0_0 c0_1 c0_2 c0_3 d3_0 d3_1 d3_2 d3_3 x6_0 x6_1 (Go.IntKind.i64.wrap (↑(BitVec.ofInt Go.IntKind.i64.bits good7_0 ||| BitVec.ofInt Go.IntKind.i64.bits (Go.IntKind.i64.wrap (Go.Proofs.YtiiioobebeaafaaSx.rd (Int.ofNat 0) x13 x15 * 2 ^ min x15.toNat Go.IntKind.i64.bits))).toNat : Int)) c5 c6
     else none
    else none
   else none
  else
   (det_Explore_int__3.f k d3_0 first1 (Int.ofNat 64) d3_0 d3_1 d3_2 d3_3 good7_0 c0_0 c0_1 c0_2 c0_3).bind fun r3 =>
    (det_Smallest_3.f k (r3.fst, r3.snd.fst, r3.snd.snd.snd.snd.snd.snd.snd.snd.snd.snd.snd.snd.fst, r3.snd.snd.snd.snd.snd.snd.snd.snd.snd.snd.snd.snd.snd, ())).bind fun r4 =>
     some (r4.fst, r4.snd.fst, r3.snd.snd.snd.snd.snd.snd.snd.snd.fst, r3.snd.snd.snd.snd.snd.snd.snd.snd.snd.fst, r3.snd.snd.snd.snd.snd.snd.snd.snd.snd.snd.fst, r3.snd.snd.snd.snd.snd.snd.snd.snd.snd.snd.snd.fst, r4.snd.snd.fst, r4.snd.snd.snd)
end
def higman_sets_3.f (k : Nat) (d0 : (Int × (Int × (List (List (Int)) × (List (Int) × Unit))))) (first1 : Int) (c0_0 : Int) (c0_1 : Int) (c0_2 : List (List (Int))) (c0_3 : List (Int)) : Option (Int × Int × Int × Int × List (List Int) × List Int × List (List Int) × List Int) :=
 higman_sets_3.l3 k first1 d0.snd.snd.snd.fst ((↑d0.snd.snd.snd.fst.length : Int)) 0 c0_0 c0_1 c0_2 c0_3 d0.fst d0.snd.fst d0.snd.snd.fst d0.snd.snd.snd.fst 0 0 0 [] []

noncomputable def higman_sets_3.body : Code := fnBody Try.f126
def higman_sets_3.ti : Tm := ⟨[(0, .p (.pair (.int .i64) (.pair (.int .i64) (.pair (.slice (.slice (.int .i64))) (.pair (.slice (.int .i64)) .unit))))), (1, .p (.int .i64)), (2, .fn 129 [.ptr 0 0])], [.box [.p (.int .i64), .p (.int .i64), .p (.slice (.slice (.int .i64))), .p (.slice (.int .i64))] 58]⟩
def higman_sets_3.to : Tm := ⟨[(0, .agg [.p (.int .i64), .p (.int .i64), .own 1, .own 2])], [.box [.p (.int .i64), .p (.int .i64), .p (.slice (.slice (.int .i64))), .p (.slice (.int .i64))] 58, .own (.slice (.int .i64)), .own (.int .i64)]⟩
def higman_sets_3.rs (r : Int × Int × Int × Int × (List (List Int)) × (List Int) × (List (List Int)) × (List Int)) : List Dat := [⟨(.int .i64), r.1⟩, ⟨(.int .i64), r.2.1⟩, ⟨(.int .i64), r.2.2.1⟩, ⟨(.int .i64), r.2.2.2.1⟩, ⟨(.slice (.slice (.int .i64))), r.2.2.2.2.1⟩, ⟨(.slice (.int .i64)), r.2.2.2.2.2.1⟩, ⟨(.slice (.slice (.int .i64))), r.2.2.2.2.2.2.1⟩, ⟨(.slice (.int .i64)), r.2.2.2.2.2.2.2⟩]
def higman_sets_3.out (ds : List Dat) : Option (Int × Int × Int × Int × (List (List Int)) × (List Int) × (List (List Int)) × (List Int)) := pop (.int .i64) ds fun x0 ds => pop (.int .i64) ds fun x1 ds => pop (.int .i64) ds fun x2 ds => pop (.int .i64) ds fun x3 ds => pop (.slice (.slice (.int .i64))) ds fun x4 ds => pop (.slice (.int .i64)) ds fun x5 ds => pop (.slice (.slice (.int .i64))) ds fun x6 ds => pop (.slice (.int .i64)) ds fun x7 ds => popN ds (some (x0, x1, x2, x3, x4, x5, x6, x7))
def higman_sets_3.c (k : Nat) (ds : List Dat) : Option (Int × Int × Int × Int × (List (List Int)) × (List Int) × (List (List Int)) × (List Int)) := pop (.pair (.int .i64) (.pair (.int .i64) (.pair (.slice (.slice (.int .i64))) (.pair (.slice (.int .i64)) .unit)))) ds fun x0 ds => pop (.int .i64) ds fun x1 ds => pop (.int .i64) ds fun x2 ds => pop (.int .i64) ds fun x3 ds => pop (.slice (.slice (.int .i64))) ds fun x4 ds => pop (.slice (.int .i64)) ds fun x5 ds => popN ds (higman_sets_3.f k x0 x1 x2 x3 x4 x5)
def higman_sets_3.g : Nat → List Dat → Option (Int × Int × Int × Int × (List (List Int)) × (List Int) × (List (List Int)) × (List Int))
 | 0, _ => none
 | k + 1, ds => higman_sets_3.c k ds
def higman_sets_3.env (k : Nat) : Nat → List SV → List Chunk → KT (Int × Int × Int × Int × (List (List Int)) × (List Int) × (List (List Int)) × (List Int)) → Option (Int × Int × Int × Int × (List (List Int)) × (List Int) × (List (List Int)) × (List Int)) := (envC 112 5 det_Explore_int__3.ti det_Explore_int__3.to (fun ds K => pop (.int .i64) ds fun x0 ds => pop (.int .i64) ds fun x1 ds => pop (.int .i64) ds fun x2 ds => pop (.int .i64) ds fun x3 ds => pop (.int .i64) ds fun x4 ds => pop (.slice (.slice (.int .i64))) ds fun x5 ds => pop (.slice (.int .i64)) ds fun x6 ds => pop (.int .i64) ds fun x7 ds => pop (.int .i64) ds fun x8 ds => pop (.int .i64) ds fun x9 ds => pop (.slice (.slice (.int .i64))) ds fun x10 ds => pop (.slice (.int .i64)) ds fun x11 ds => popN ds ((det_Explore_int__3.f k x0 x1 x2 x3 x4 x5 x6 x7 x8 x9 x10 x11).bind fun r => K (det_Explore_int__3.rs r))) (envC 100 1 det_Smallest_3.ti det_Smallest_3.to (fun ds K => pop (.pair (.int .i64) (.pair (.int .i64) (.pair (.slice (.slice (.int .i64))) (.pair (.slice (.int .i64)) .unit)))) ds fun x0 ds => popN ds ((det_Smallest_3.f k x0).bind fun r => K (det_Smallest_3.rs r))) env0))
def higman_sets_3.t7 : Tm := ⟨[(1, .p (.int .i64)), (3, .ptr 1 0), (5, .ptr 2 0), (6, .ptr 3 0), (7, .ptr 4 0), (13, .p (.slice (.int .i64))), (14, .p (.int .i64)), (15, .p (.int .i64))], [.box [.p (.int .i64), .p (.int .i64), .p (.slice (.slice (.int .i64))), .p (.slice (.int .i64))] 58, .box [.p (.int .i64), .p (.int .i64), .p (.slice (.slice (.int .i64))), .p (.slice (.int .i64))] 58, .box [.fn 129 [.ptr 0 0]] 150, .box [.p (.int .i64), .p (.int .i64), .own 5, .own 6] 58, .box [.p (.int .i64)] 3, .own (.slice (.int .i64)), .own (.int .i64)]⟩
def higman_sets_3.c7 (k : Nat) (ds : List Dat) : Option (Int × Int × Int × Int × (List (List Int)) × (List Int) × (List (List Int)) × (List Int)) := pop (.int .i64) ds fun x0 ds => pop (.slice (.int .i64)) ds fun x1 ds => pop (.int .i64) ds fun x2 ds => pop (.int .i64) ds fun x3 ds => pop (.int .i64) ds fun x4 ds => pop (.int .i64) ds fun x5 ds => pop (.slice (.slice (.int .i64))) ds fun x6 ds => pop (.slice (.int .i64)) ds fun x7 ds => pop (.int .i64) ds fun x8 ds => pop (.int .i64) ds fun x9 ds => pop (.slice (.slice (.int .i64))) ds fun x10 ds => pop (.slice (.int .i64)) ds fun x11 ds => pop (.int .i64) ds fun x12 ds => pop (.int .i64) ds fun x13 ds => pop (.int .i64) ds fun x14 ds => pop (.slice (.slice (.int .i64))) ds fun x15 ds => pop (.slice (.int .i64)) ds fun x16 ds => popN ds (higman_sets_3.l3 k x0 x1 x2 x3 x4 x5 x6 x7 x8 x9 x10 x11 x12 x13 x14 x15 x16)
def higman_sets_3.tbl : List (Nat × Tm × (Nat → List Dat → Option (Int × Int × Int × Int × (List (List Int)) × (List Int) × (List (List Int)) × (List Int)))) := [(7, higman_sets_3.t7, higman_sets_3.c7)]
noncomputable abbrev higman_sets_3.R (k : Nat) := run T (higman_sets_3.env k) Try.f126.ntmps (cutE 1 higman_sets_3.tbl k) (finE 1 higman_sets_3.to higman_sets_3.out) (fnRes Try.f126) [] 100000 true
theorem higman_sets_3.e7 (k : Nat) (x0 : Int) (x1 : (List Int)) (x2 : Int) (x3 : Int) (x4 : Int) (x5 : Int) (x6 : (List (List Int))) (x7 : (List Int)) (x8 : Int) (x9 : Int) (x10 : (List (List Int))) (x11 : (List Int)) (x12 : Int) (x13 : Int) (x14 : Int) (x15 : (List (List Int))) (x16 : (List Int)) : higman_sets_3.l3 (k + 1) x0 x1 x2 x3 x4 x5 x6 x7 x8 x9 x10 x11 x12 x13 x14 x15 x16 = higman_sets_3.R k (start (stackOf 7 higman_sets_3.body)) (higman_sets_3.t7.fill [⟨(.int .i64), x0⟩, ⟨(.slice (.int .i64)), x1⟩, ⟨(.int .i64), x2⟩, ⟨(.int .i64), x3⟩, ⟨(.int .i64), x4⟩, ⟨(.int .i64), x5⟩, ⟨(.slice (.slice (.int .i64))), x6⟩, ⟨(.slice (.int .i64)), x7⟩, ⟨(.int .i64), x8⟩, ⟨(.int .i64), x9⟩, ⟨(.slice (.slice (.int .i64))), x10⟩, ⟨(.slice (.int .i64)), x11⟩, ⟨(.int .i64), x12⟩, ⟨(.int .i64), x13⟩, ⟨(.int .i64), x14⟩, ⟨(.slice (.slice (.int .i64))), x15⟩, ⟨(.slice (.int .i64)), x16⟩]) := by kernel_rfl
theorem higman_sets_3.s7 : stackAt 7 higman_sets_3.body [] = some (stackOf 7 higman_sets_3.body) := by kernel_rfl
theorem higman_sets_3.h7 (k : Nat) (ds : List Dat) (r : Int × Int × Int × Int × (List (List Int)) × (List Int) × (List (List Int)) × (List Int)) (h : higman_sets_3.c7 k ds = some r) : ∃ k', k' < k ∧ ∃ s, stackAt 7 higman_sets_3.body [] = some s ∧ higman_sets_3.R k' (start s) (higman_sets_3.t7.fill ds) = some r := by
  unfold higman_sets_3.c7 at h
  obtain ⟨x0, d0, rfl, h0⟩ := pop_some h
  obtain ⟨x1, d1, rfl, h1⟩ := pop_some h0
  obtain ⟨x2, d2, rfl, h2⟩ := pop_some h1
  obtain ⟨x3, d3, rfl, h3⟩ := pop_some h2
  obtain ⟨x4, d4, rfl, h4⟩ := pop_some h3
  obtain ⟨x5, d5, rfl, h5⟩ := pop_some h4
  obtain ⟨x6, d6, rfl, h6⟩ := pop_some h5
  obtain ⟨x7, d7, rfl, h7⟩ := pop_some h6
  obtain ⟨x8, d8, rfl, h8⟩ := pop_some h7
  obtain ⟨x9, d9, rfl, h9⟩ := pop_some h8
  obtain ⟨x10, d10, rfl, h10⟩ := pop_some h9
  obtain ⟨x11, d11, rfl, h11⟩ := pop_some h10
  obtain ⟨x12, d12, rfl, h12⟩ := pop_some h11
  obtain ⟨x13, d13, rfl, h13⟩ := pop_some h12
  obtain ⟨x14, d14, rfl, h14⟩ := pop_some h13
  obtain ⟨x15, d15, rfl, h15⟩ := pop_some h14
  obtain ⟨x16, d16, rfl, h16⟩ := pop_some h15
  obtain ⟨rfl, g⟩ := popN_some h16
  cases k with
  | zero => cases (show none = some r from g)
  | succ k => exact ⟨k, Nat.lt_succ_self k, _, higman_sets_3.s7, (higman_sets_3.e7 k x0 x1 x2 x3 x4 x5 x6 x7 x8 x9 x10 x11 x12 x13 x14 x15 x16).symm.trans g⟩
theorem higman_sets_3.e (k : Nat) (x0 : (Int × (Int × ((List (List Int)) × ((List Int) × Unit))))) (x1 : Int) (x2 : Int) (x3 : Int) (x4 : (List (List Int))) (x5 : (List Int)) : higman_sets_3.f k x0 x1 x2 x3 x4 x5 = higman_sets_3.R k ([.code higman_sets_3.body]) (higman_sets_3.ti.fill [⟨(.pair (.int .i64) (.pair (.int .i64) (.pair (.slice (.slice (.int .i64))) (.pair (.slice (.int .i64)) .unit)))), x0⟩, ⟨(.int .i64), x1⟩, ⟨(.int .i64), x2⟩, ⟨(.int .i64), x3⟩, ⟨(.slice (.slice (.int .i64))), x4⟩, ⟨(.slice (.int .i64)), x5⟩]) := by kernel_rfl
theorem higman_sets_3.h (k : Nat) (ds : List Dat) (r : Int × Int × Int × Int × (List (List Int)) × (List Int) × (List (List Int)) × (List Int)) (h : higman_sets_3.g k ds = some r) : ∃ k', k' < k ∧ higman_sets_3.R k' ([.code higman_sets_3.body]) (higman_sets_3.ti.fill ds) = some r := by
  cases k with
  | zero => cases (show none = some r from h)
  | succ k =>
  replace h : higman_sets_3.c k ds = some r := h
  unfold higman_sets_3.c at h
  obtain ⟨x0, d0, rfl, h0⟩ := pop_some h
  obtain ⟨x1, d1, rfl, h1⟩ := pop_some h0
  obtain ⟨x2, d2, rfl, h2⟩ := pop_some h1
  obtain ⟨x3, d3, rfl, h3⟩ := pop_some h2
  obtain ⟨x4, d4, rfl, h4⟩ := pop_some h3
  obtain ⟨x5, d5, rfl, h5⟩ := pop_some h4
  obtain ⟨rfl, g⟩ := popN_some h5
  exact ⟨k, Nat.lt_succ_self k, (higman_sets_3.e k x0 x1 x2 x3 x4 x5).symm.trans g⟩
theorem higman_sets_3.o (ds : List Dat) (r : Int × Int × Int × Int × (List (List Int)) × (List Int) × (List (List Int)) × (List Int)) (h : higman_sets_3.out ds = some r) : ds = higman_sets_3.rs r := by
  unfold higman_sets_3.out at h
  obtain ⟨x0, d0, rfl, h0⟩ := pop_some h
  obtain ⟨x1, d1, rfl, h1⟩ := pop_some h0
  obtain ⟨x2, d2, rfl, h2⟩ := pop_some h1
  obtain ⟨x3, d3, rfl, h3⟩ := pop_some h2
  obtain ⟨x4, d4, rfl, h4⟩ := pop_some h3
  obtain ⟨x5, d5, rfl, h5⟩ := pop_some h4
  obtain ⟨x6, d6, rfl, h6⟩ := pop_some h5
  obtain ⟨x7, d7, rfl, h7⟩ := pop_some h6
  obtain ⟨rfl, g⟩ := popN_some h7
  cases g
  rfl
theorem higman_sets_3.fn : FnOk Try.prog 126 Try.f126 higman_sets_3.body Try.f126.ntmps 3 (fnRes Try.f126) :=
  fnOk_of (by kernel_rfl) (by kernel_rfl) (by kernel_rfl) (by kernel_rfl)
theorem higman_sets_3.con' : ∀ k ds r, higman_sets_3.g k ds = some r → Con Try.prog 126 3 higman_sets_3.ti higman_sets_3.to ds (higman_sets_3.rs r) :=
  fun_ok (T := T) T_ok mixed higman_sets_3.fn (env := higman_sets_3.env) (tbl := higman_sets_3.tbl) (gOut := higman_sets_3.out) (nin := 1) (cuts := []) (fuel := 100000) rfl (by kernel_rfl) (by kernel_rfl) (by kernel_rfl) (fun x hx => by
    simp only [higman_sets_3.tbl, List.mem_cons, List.not_mem_nil, or_false] at hx
    subst hx
    · exact higman_sets_3.h7
) higman_sets_3.o higman_sets_3.h (fun k _ => by unfold higman_sets_3.env; exact (envC_ok (fun ds K r h => by
    obtain ⟨x0, d0, rfl, h0⟩ := pop_some h
    obtain ⟨x1, d1, rfl, h1⟩ := pop_some h0
    obtain ⟨x2, d2, rfl, h2⟩ := pop_some h1
    obtain ⟨x3, d3, rfl, h3⟩ := pop_some h2
    obtain ⟨x4, d4, rfl, h4⟩ := pop_some h3
    obtain ⟨x5, d5, rfl, h5⟩ := pop_some h4
    obtain ⟨x6, d6, rfl, h6⟩ := pop_some h5
    obtain ⟨x7, d7, rfl, h7⟩ := pop_some h6
    obtain ⟨x8, d8, rfl, h8⟩ := pop_some h7
    obtain ⟨x9, d9, rfl, h9⟩ := pop_some h8
    obtain ⟨x10, d10, rfl, h10⟩ := pop_some h9
    obtain ⟨x11, d11, rfl, h11⟩ := pop_some h10
    obtain ⟨rfl, g⟩ := popN_some h11
    obtain ⟨r1, h1, h2⟩ := bind_some g
    exact ⟨_, h2, det_Explore_int__3.con k _ h1⟩) (envC_ok (fun ds K r h => by
    obtain ⟨x0, d0, rfl, h0⟩ := pop_some h
    obtain ⟨rfl, g⟩ := popN_some h0
    obtain ⟨r1, h1, h2⟩ := bind_some g
    exact ⟨_, h2, det_Smallest_3.con k _ h1⟩) env0_ok)))
theorem higman_sets_3.con (k : Nat) {x0 : (Int × (Int × ((List (List Int)) × ((List Int) × Unit))))} {x1 : Int} {x2 : Int} {x3 : Int} {x4 : (List (List Int))} {x5 : (List Int)} (r : Int × Int × Int × Int × (List (List Int)) × (List Int) × (List (List Int)) × (List Int)) (h : higman_sets_3.f k x0 x1 x2 x3 x4 x5 = some r) : Con Try.prog 126 3 higman_sets_3.ti higman_sets_3.to [⟨(.pair (.int .i64) (.pair (.int .i64) (.pair (.slice (.slice (.int .i64))) (.pair (.slice (.int .i64)) .unit)))), x0⟩, ⟨(.int .i64), x1⟩, ⟨(.int .i64), x2⟩, ⟨(.int .i64), x3⟩, ⟨(.slice (.slice (.int .i64))), x4⟩, ⟨(.slice (.int .i64)), x5⟩] (higman_sets_3.rs r) :=
  higman_sets_3.con' (k + 1) _ r (by show higman_sets_3.c k _ = some r; unfold higman_sets_3.c; simp only [pop_self, popN]; exact h)
def higman_Down.f (k : Nat) (d0 : (Int × (Int × (List (List (Int)) × (List (Int) × Unit))))) : Option (Int × Int × Int × List (List Int) × List Int) :=
 (higman_small.f k (d0.fst, d0.snd.fst, d0.snd.snd.fst, d0.snd.snd.snd.fst, ())).bind fun r1 =>
  if r1 = 0 then
   if 0 ≤ d0.snd.fst then
   (higman_ahead.f k (d0.fst, d0.snd.fst, d0.snd.snd.fst, d0.snd.snd.snd.fst, ()) (Go.IntKind.i64.wrap (1 * 2 ^ min d0.snd.fst.toNat Go.IntKind.i64.bits))).bind fun r4 =>
     (higman_sets_3.f k (d0.fst, d0.snd.fst, d0.snd.snd.fst, d0.snd.snd.snd.fst, ()) r4 d0.fst d0.snd.fst d0.snd.snd.fst d0.snd.snd.snd.fst).bind fun r5 =>
      some (r5.fst, r5.snd.fst, 0, r5.snd.snd.snd.snd.snd.snd.fst, r5.snd.snd.snd.snd.snd.snd.snd)
   else none
  else
   some (0, 0, r1, [], [])

noncomputable def higman_Down.body : Code := fnBody Try.f60
def higman_Down.ti : Tm := ⟨[(0, .p (.pair (.int .i64) (.pair (.int .i64) (.pair (.slice (.slice (.int .i64))) (.pair (.slice (.int .i64)) .unit)))))], []⟩
def higman_Down.to : Tm := ⟨[(0, .agg [.p (.int .i64), .p (.int .i64), .own 0, .own 1]), (1, .p (.int .i64))], [.own (.slice (.int .i64)), .own (.int .i64)]⟩
def higman_Down.rs (r : Int × Int × Int × (List (List Int)) × (List Int)) : List Dat := [⟨(.int .i64), r.1⟩, ⟨(.int .i64), r.2.1⟩, ⟨(.int .i64), r.2.2.1⟩, ⟨(.slice (.slice (.int .i64))), r.2.2.2.1⟩, ⟨(.slice (.int .i64)), r.2.2.2.2⟩]
def higman_Down.out (ds : List Dat) : Option (Int × Int × Int × (List (List Int)) × (List Int)) := pop (.int .i64) ds fun x0 ds => pop (.int .i64) ds fun x1 ds => pop (.int .i64) ds fun x2 ds => pop (.slice (.slice (.int .i64))) ds fun x3 ds => pop (.slice (.int .i64)) ds fun x4 ds => popN ds (some (x0, x1, x2, x3, x4))
def higman_Down.c (k : Nat) (ds : List Dat) : Option (Int × Int × Int × (List (List Int)) × (List Int)) := pop (.pair (.int .i64) (.pair (.int .i64) (.pair (.slice (.slice (.int .i64))) (.pair (.slice (.int .i64)) .unit)))) ds fun x0 ds => popN ds (higman_Down.f k x0)
def higman_Down.g : Nat → List Dat → Option (Int × Int × Int × (List (List Int)) × (List Int))
 | 0, _ => none
 | k + 1, ds => higman_Down.c k ds
def higman_Down.env (k : Nat) : Nat → List SV → List Chunk → KT (Int × Int × Int × (List (List Int)) × (List Int)) → Option (Int × Int × Int × (List (List Int)) × (List Int)) := (envC 125 1 higman_small.ti higman_small.to (fun ds K => pop (.pair (.int .i64) (.pair (.int .i64) (.pair (.slice (.slice (.int .i64))) (.pair (.slice (.int .i64)) .unit)))) ds fun x0 ds => popN ds ((higman_small.f k x0).bind fun r => K (higman_small.rs r))) (envC 128 2 higman_ahead.ti higman_ahead.to (fun ds K => pop (.pair (.int .i64) (.pair (.int .i64) (.pair (.slice (.slice (.int .i64))) (.pair (.slice (.int .i64)) .unit)))) ds fun x0 ds => pop (.int .i64) ds fun x1 ds => popN ds ((higman_ahead.f k x0 x1).bind fun r => K (higman_ahead.rs r))) (envC 126 3 higman_sets_3.ti higman_sets_3.to (fun ds K => pop (.pair (.int .i64) (.pair (.int .i64) (.pair (.slice (.slice (.int .i64))) (.pair (.slice (.int .i64)) .unit)))) ds fun x0 ds => pop (.int .i64) ds fun x1 ds => pop (.int .i64) ds fun x2 ds => pop (.int .i64) ds fun x3 ds => pop (.slice (.slice (.int .i64))) ds fun x4 ds => pop (.slice (.int .i64)) ds fun x5 ds => popN ds ((higman_sets_3.f k x0 x1 x2 x3 x4 x5).bind fun r => K (higman_sets_3.rs r))) env0)))
def higman_Down.tbl : List (Nat × Tm × (Nat → List Dat → Option (Int × Int × Int × (List (List Int)) × (List Int)))) := []
noncomputable abbrev higman_Down.R (k : Nat) := run T (higman_Down.env k) Try.f60.ntmps (cutE 0 higman_Down.tbl k) (finE 0 higman_Down.to higman_Down.out) (fnRes Try.f60) [] 100000 true
theorem higman_Down.e (k : Nat) (x0 : (Int × (Int × ((List (List Int)) × ((List Int) × Unit))))) : higman_Down.f k x0 = higman_Down.R k ([.code higman_Down.body]) (higman_Down.ti.fill [⟨(.pair (.int .i64) (.pair (.int .i64) (.pair (.slice (.slice (.int .i64))) (.pair (.slice (.int .i64)) .unit)))), x0⟩]) := by kernel_rfl
theorem higman_Down.h (k : Nat) (ds : List Dat) (r : Int × Int × Int × (List (List Int)) × (List Int)) (h : higman_Down.g k ds = some r) : ∃ k', k' < k ∧ higman_Down.R k' ([.code higman_Down.body]) (higman_Down.ti.fill ds) = some r := by
  cases k with
  | zero => cases (show none = some r from h)
  | succ k =>
  replace h : higman_Down.c k ds = some r := h
  unfold higman_Down.c at h
  obtain ⟨x0, d0, rfl, h0⟩ := pop_some h
  obtain ⟨rfl, g⟩ := popN_some h0
  exact ⟨k, Nat.lt_succ_self k, (higman_Down.e k x0).symm.trans g⟩
theorem higman_Down.o (ds : List Dat) (r : Int × Int × Int × (List (List Int)) × (List Int)) (h : higman_Down.out ds = some r) : ds = higman_Down.rs r := by
  unfold higman_Down.out at h
  obtain ⟨x0, d0, rfl, h0⟩ := pop_some h
  obtain ⟨x1, d1, rfl, h1⟩ := pop_some h0
  obtain ⟨x2, d2, rfl, h2⟩ := pop_some h1
  obtain ⟨x3, d3, rfl, h3⟩ := pop_some h2
  obtain ⟨x4, d4, rfl, h4⟩ := pop_some h3
  obtain ⟨rfl, g⟩ := popN_some h4
  cases g
  rfl
theorem higman_Down.fn : FnOk Try.prog 60 Try.f60 higman_Down.body Try.f60.ntmps 1 (fnRes Try.f60) :=
  fnOk_of (by kernel_rfl) (by kernel_rfl) (by kernel_rfl) (by kernel_rfl)
theorem higman_Down.con' : ∀ k ds r, higman_Down.g k ds = some r → Con Try.prog 60 1 higman_Down.ti higman_Down.to ds (higman_Down.rs r) :=
  fun_ok (T := T) T_ok mixed higman_Down.fn (env := higman_Down.env) (tbl := higman_Down.tbl) (gOut := higman_Down.out) (nin := 0) (cuts := []) (fuel := 100000) rfl (by kernel_rfl) (by kernel_rfl) (by kernel_rfl) (fun x hx => by simp [higman_Down.tbl] at hx) higman_Down.o higman_Down.h (fun k _ => by unfold higman_Down.env; exact (envC_ok (fun ds K r h => by
    obtain ⟨x0, d0, rfl, h0⟩ := pop_some h
    obtain ⟨rfl, g⟩ := popN_some h0
    obtain ⟨r1, h1, h2⟩ := bind_some g
    exact ⟨_, h2, higman_small.con k _ h1⟩) (envC_ok (fun ds K r h => by
    obtain ⟨x0, d0, rfl, h0⟩ := pop_some h
    obtain ⟨x1, d1, rfl, h1⟩ := pop_some h0
    obtain ⟨rfl, g⟩ := popN_some h1
    obtain ⟨r1, h1, h2⟩ := bind_some g
    exact ⟨_, h2, higman_ahead.con k _ h1⟩) (envC_ok (fun ds K r h => by
    obtain ⟨x0, d0, rfl, h0⟩ := pop_some h
    obtain ⟨x1, d1, rfl, h1⟩ := pop_some h0
    obtain ⟨x2, d2, rfl, h2⟩ := pop_some h1
    obtain ⟨x3, d3, rfl, h3⟩ := pop_some h2
    obtain ⟨x4, d4, rfl, h4⟩ := pop_some h3
    obtain ⟨x5, d5, rfl, h5⟩ := pop_some h4
    obtain ⟨rfl, g⟩ := popN_some h5
    obtain ⟨r1, h1, h2⟩ := bind_some g
    exact ⟨_, h2, higman_sets_3.con k _ h1⟩) env0_ok))))
theorem higman_Down.con (k : Nat) {x0 : (Int × (Int × ((List (List Int)) × ((List Int) × Unit))))} (r : Int × Int × Int × (List (List Int)) × (List Int)) (h : higman_Down.f k x0 = some r) : Con Try.prog 60 1 higman_Down.ti higman_Down.to [⟨(.pair (.int .i64) (.pair (.int .i64) (.pair (.slice (.slice (.int .i64))) (.pair (.slice (.int .i64)) .unit)))), x0⟩] (higman_Down.rs r) :=
  higman_Down.con' (k + 1) _ r (by show higman_Down.c k _ = some r; unfold higman_Down.c; simp only [pop_self, popN]; exact h)
mutual
def evermoreref3_Check.l9 : Nat → Int → Int → Int → Int → List (List (Int)) → List (Int) → Option (Int)
 | 0, _, _, _, _, _, _ => none
 | k + 1, n3, i4, d1_0, d1_1, d1_2, d1_3 =>
  if i4 < n3 then
   if 0 ≤ i4 then
   if i4 < (↑d1_2.length : Int) then
    if (↑(Go.Proofs.YtiiioobebeaafaaSx.rd [] d1_2 i4).length : Int) = d1_0 then
      evermoreref3_Check.l9 k n3 (Go.IntKind.i64.wrap (i4 + 1)) d1_0 d1_1 d1_2 d1_3
     else
      some (3)
    else none
   else none
  else
   if d1_1 < 0 then
    some (2)
   else
    if n3 ≤ d1_1 then
     some (2)
    else
     evermoreref3_Check.l16 k n3 0 d1_0 d1_1 d1_2 d1_3
def evermoreref3_Check.l16 : Nat → Int → Int → Int → Int → List (List (Int)) → List (Int) → Option (Int)
 | 0, _, _, _, _, _, _ => none
 | k + 1, n3, i5, d1_0, d1_1, d1_2, d1_3 =>
  if i5 < n3 then
   evermoreref3_Check.l19 k n3 i5 0 d1_0 d1_1 d1_2 d1_3
  else
   evermoreref3_Check.l24 k n3 0 d1_0 d1_1 d1_2 d1_3
def evermoreref3_Check.l19 : Nat → Int → Int → Int → Int → Int → List (List (Int)) → List (Int) → Option (Int)
 | 0, _, _, _, _, _, _, _ => none
 | k + 1, n3, i5, k6, d1_0, d1_1, d1_2, d1_3 =>
  if k6 < d1_0 then
   if 0 ≤ i5 then
   if i5 < (↑d1_2.length : Int) then
    if 0 ≤ k6 then
     if k6 < (↑(Go.Proofs.YtiiioobebeaafaaSx.rd [] d1_2 i5).length : Int) then
      if Go.Proofs.YtiiioobebeaafaaSx.rd (Int.ofNat 0) (Go.Proofs.YtiiioobebeaafaaSx.rd [] d1_2 i5) k6 < 0 then
        some (2)
       else
        if 0 ≤ i5 then
        if i5 < (↑d1_2.length : Int) then
         if 0 ≤ k6 then
          if k6 < (↑(Go.Proofs.YtiiioobebeaafaaSx.rd [] d1_2 i5).length : Int) then
           if n3 ≤ Go.Proofs.YtiiioobebeaafaaSx.rd (Int.ofNat 0) (Go.Proofs.YtiiioobebeaafaaSx.rd [] d1_2 i5) k6 then
             some (2)
            else
             evermoreref3_Check.l19 k n3 i5 (Go.IntKind.i64.wrap (k6 + 1)) d1_0 d1_1 d1_2 d1_3
           else none
          else none
         else none
        else none
      else none
     else none
    else none
   else none
  else
   evermoreref3_Check.l16 k n3 (Go.IntKind.i64.wrap (i5 + 1)) d1_0 d1_1 d1_2 d1_3
def evermoreref3_Check.l24 : Nat → Int → Int → Int → Int → List (List (Int)) → List (Int) → Option (Int)
 | 0, _, _, _, _, _, _ => none
 | k + 1, n3, i7, d1_0, d1_1, d1_2, d1_3 =>
  if i7 < n3 then
   if 0 ≤ i7 then
   if i7 < (↑d1_3.length : Int) then
    if Go.Proofs.YtiiioobebeaafaaSx.rd (Int.ofNat 0) d1_3 i7 = 0 then
      evermoreref3_Check.l24 k n3 (Go.IntKind.i64.wrap (i7 + 1)) d1_0 d1_1 d1_2 d1_3
     else
      if 0 ≤ i7 then
      if i7 < (↑d1_3.length : Int) then
       if Go.Proofs.YtiiioobebeaafaaSx.rd (Int.ofNat 0) d1_3 i7 = 1 then
         evermoreref3_Check.l24 k n3 (Go.IntKind.i64.wrap (i7 + 1)) d1_0 d1_1 d1_2 d1_3
        else
         some (2)
       else none
      else none
    else none
   else none
  else
   some (0)
end
def evermoreref3_Check.f (k : Nat) (d0 : (Int × (Int × (List (List (Int)) × (List (Int) × Unit))))) : Option (Int) :=
 if d0.fst < 1 then
  some (2)
 else
  if 4 < d0.fst then
   some (2)
  else
   if (↑d0.snd.snd.fst.length : Int) < 1 then
    some (1)
   else
    if 3000 < (↑d0.snd.snd.fst.length : Int) then
     some (1)
    else
     if (↑d0.snd.snd.snd.fst.length : Int) = (↑d0.snd.snd.fst.length : Int) then
      evermoreref3_Check.l9 k ((↑d0.snd.snd.fst.length : Int)) 0 d0.fst d0.snd.fst d0.snd.snd.fst d0.snd.snd.snd.fst
     else
      some (3)

noncomputable def evermoreref3_Check.body : Code := fnBody Try.f45
def evermoreref3_Check.ti : Tm := ⟨[(0, .p (.pair (.int .i64) (.pair (.int .i64) (.pair (.slice (.slice (.int .i64))) (.pair (.slice (.int .i64)) .unit)))))], []⟩
def evermoreref3_Check.to : Tm := ⟨[(0, .p (.int .i64))], []⟩
def evermoreref3_Check.rs (r : Int) : List Dat := [⟨(.int .i64), r⟩]
def evermoreref3_Check.out (ds : List Dat) : Option (Int) := pop (.int .i64) ds fun x0 ds => popN ds (some (x0))
def evermoreref3_Check.c (k : Nat) (ds : List Dat) : Option (Int) := pop (.pair (.int .i64) (.pair (.int .i64) (.pair (.slice (.slice (.int .i64))) (.pair (.slice (.int .i64)) .unit)))) ds fun x0 ds => popN ds (evermoreref3_Check.f k x0)
def evermoreref3_Check.g : Nat → List Dat → Option (Int)
 | 0, _ => none
 | k + 1, ds => evermoreref3_Check.c k ds
def evermoreref3_Check.env (k : Nat) : Nat → List SV → List Chunk → KT (Int) → Option (Int) := env0
def evermoreref3_Check.t19 : Tm := ⟨[(1, .ptr 0 0), (3, .p (.int .i64)), (4, .p (.int .i64))], [.box [.p (.int .i64), .p (.int .i64), .p (.slice (.slice (.int .i64))), .p (.slice (.int .i64))] 58]⟩
def evermoreref3_Check.c19 (k : Nat) (ds : List Dat) : Option (Int) := pop (.int .i64) ds fun x0 ds => pop (.int .i64) ds fun x1 ds => pop (.int .i64) ds fun x2 ds => pop (.int .i64) ds fun x3 ds => pop (.slice (.slice (.int .i64))) ds fun x4 ds => pop (.slice (.int .i64)) ds fun x5 ds => popN ds (evermoreref3_Check.l9 k x0 x1 x2 x3 x4 x5)
def evermoreref3_Check.t33 : Tm := ⟨[(1, .ptr 0 0), (3, .p (.int .i64)), (5, .p (.int .i64))], [.box [.p (.int .i64), .p (.int .i64), .p (.slice (.slice (.int .i64))), .p (.slice (.int .i64))] 58]⟩
def evermoreref3_Check.c33 (k : Nat) (ds : List Dat) : Option (Int) := pop (.int .i64) ds fun x0 ds => pop (.int .i64) ds fun x1 ds => pop (.int .i64) ds fun x2 ds => pop (.int .i64) ds fun x3 ds => pop (.slice (.slice (.int .i64))) ds fun x4 ds => pop (.slice (.int .i64)) ds fun x5 ds => popN ds (evermoreref3_Check.l16 k x0 x1 x2 x3 x4 x5)
def evermoreref3_Check.t39 : Tm := ⟨[(1, .ptr 0 0), (3, .p (.int .i64)), (5, .p (.int .i64)), (6, .p (.int .i64))], [.box [.p (.int .i64), .p (.int .i64), .p (.slice (.slice (.int .i64))), .p (.slice (.int .i64))] 58]⟩
def evermoreref3_Check.c39 (k : Nat) (ds : List Dat) : Option (Int) := pop (.int .i64) ds fun x0 ds => pop (.int .i64) ds fun x1 ds => pop (.int .i64) ds fun x2 ds => pop (.int .i64) ds fun x3 ds => pop (.int .i64) ds fun x4 ds => pop (.slice (.slice (.int .i64))) ds fun x5 ds => pop (.slice (.int .i64)) ds fun x6 ds => popN ds (evermoreref3_Check.l19 k x0 x1 x2 x3 x4 x5 x6)
def evermoreref3_Check.t49 : Tm := ⟨[(1, .ptr 0 0), (3, .p (.int .i64)), (7, .p (.int .i64))], [.box [.p (.int .i64), .p (.int .i64), .p (.slice (.slice (.int .i64))), .p (.slice (.int .i64))] 58]⟩
def evermoreref3_Check.c49 (k : Nat) (ds : List Dat) : Option (Int) := pop (.int .i64) ds fun x0 ds => pop (.int .i64) ds fun x1 ds => pop (.int .i64) ds fun x2 ds => pop (.int .i64) ds fun x3 ds => pop (.slice (.slice (.int .i64))) ds fun x4 ds => pop (.slice (.int .i64)) ds fun x5 ds => popN ds (evermoreref3_Check.l24 k x0 x1 x2 x3 x4 x5)
def evermoreref3_Check.tbl : List (Nat × Tm × (Nat → List Dat → Option (Int))) := [(19, evermoreref3_Check.t19, evermoreref3_Check.c19), (33, evermoreref3_Check.t33, evermoreref3_Check.c33), (39, evermoreref3_Check.t39, evermoreref3_Check.c39), (49, evermoreref3_Check.t49, evermoreref3_Check.c49)]
noncomputable abbrev evermoreref3_Check.R (k : Nat) := run T (evermoreref3_Check.env k) Try.f45.ntmps (cutE 0 evermoreref3_Check.tbl k) (finE 0 evermoreref3_Check.to evermoreref3_Check.out) (fnRes Try.f45) [] 100000 true
theorem evermoreref3_Check.e19 (k : Nat) (x0 : Int) (x1 : Int) (x2 : Int) (x3 : Int) (x4 : (List (List Int))) (x5 : (List Int)) : evermoreref3_Check.l9 (k + 1) x0 x1 x2 x3 x4 x5 = evermoreref3_Check.R k (start (stackOf 19 evermoreref3_Check.body)) (evermoreref3_Check.t19.fill [⟨(.int .i64), x0⟩, ⟨(.int .i64), x1⟩, ⟨(.int .i64), x2⟩, ⟨(.int .i64), x3⟩, ⟨(.slice (.slice (.int .i64))), x4⟩, ⟨(.slice (.int .i64)), x5⟩]) := by kernel_rfl
theorem evermoreref3_Check.s19 : stackAt 19 evermoreref3_Check.body [] = some (stackOf 19 evermoreref3_Check.body) := by kernel_rfl
theorem evermoreref3_Check.h19 (k : Nat) (ds : List Dat) (r : Int) (h : evermoreref3_Check.c19 k ds = some r) : ∃ k', k' < k ∧ ∃ s, stackAt 19 evermoreref3_Check.body [] = some s ∧ evermoreref3_Check.R k' (start s) (evermoreref3_Check.t19.fill ds) = some r := by
  unfold evermoreref3_Check.c19 at h
  obtain ⟨x0, d0, rfl, h0⟩ := pop_some h
  obtain ⟨x1, d1, rfl, h1⟩ := pop_some h0
  obtain ⟨x2, d2, rfl, h2⟩ := pop_some h1
  obtain ⟨x3, d3, rfl, h3⟩ := pop_some h2
  obtain ⟨x4, d4, rfl, h4⟩ := pop_some h3
  obtain ⟨x5, d5, rfl, h5⟩ := pop_some h4
  obtain ⟨rfl, g⟩ := popN_some h5
  cases k with
  | zero => cases (show none = some r from g)
  | succ k => exact ⟨k, Nat.lt_succ_self k, _, evermoreref3_Check.s19, (evermoreref3_Check.e19 k x0 x1 x2 x3 x4 x5).symm.trans g⟩
theorem evermoreref3_Check.e33 (k : Nat) (x0 : Int) (x1 : Int) (x2 : Int) (x3 : Int) (x4 : (List (List Int))) (x5 : (List Int)) : evermoreref3_Check.l16 (k + 1) x0 x1 x2 x3 x4 x5 = evermoreref3_Check.R k (start (stackOf 33 evermoreref3_Check.body)) (evermoreref3_Check.t33.fill [⟨(.int .i64), x0⟩, ⟨(.int .i64), x1⟩, ⟨(.int .i64), x2⟩, ⟨(.int .i64), x3⟩, ⟨(.slice (.slice (.int .i64))), x4⟩, ⟨(.slice (.int .i64)), x5⟩]) := by kernel_rfl
theorem evermoreref3_Check.s33 : stackAt 33 evermoreref3_Check.body [] = some (stackOf 33 evermoreref3_Check.body) := by kernel_rfl
theorem evermoreref3_Check.h33 (k : Nat) (ds : List Dat) (r : Int) (h : evermoreref3_Check.c33 k ds = some r) : ∃ k', k' < k ∧ ∃ s, stackAt 33 evermoreref3_Check.body [] = some s ∧ evermoreref3_Check.R k' (start s) (evermoreref3_Check.t33.fill ds) = some r := by
  unfold evermoreref3_Check.c33 at h
  obtain ⟨x0, d0, rfl, h0⟩ := pop_some h
  obtain ⟨x1, d1, rfl, h1⟩ := pop_some h0
  obtain ⟨x2, d2, rfl, h2⟩ := pop_some h1
  obtain ⟨x3, d3, rfl, h3⟩ := pop_some h2
  obtain ⟨x4, d4, rfl, h4⟩ := pop_some h3
  obtain ⟨x5, d5, rfl, h5⟩ := pop_some h4
  obtain ⟨rfl, g⟩ := popN_some h5
  cases k with
  | zero => cases (show none = some r from g)
  | succ k => exact ⟨k, Nat.lt_succ_self k, _, evermoreref3_Check.s33, (evermoreref3_Check.e33 k x0 x1 x2 x3 x4 x5).symm.trans g⟩
theorem evermoreref3_Check.e39 (k : Nat) (x0 : Int) (x1 : Int) (x2 : Int) (x3 : Int) (x4 : Int) (x5 : (List (List Int))) (x6 : (List Int)) : evermoreref3_Check.l19 (k + 1) x0 x1 x2 x3 x4 x5 x6 = evermoreref3_Check.R k (start (stackOf 39 evermoreref3_Check.body)) (evermoreref3_Check.t39.fill [⟨(.int .i64), x0⟩, ⟨(.int .i64), x1⟩, ⟨(.int .i64), x2⟩, ⟨(.int .i64), x3⟩, ⟨(.int .i64), x4⟩, ⟨(.slice (.slice (.int .i64))), x5⟩, ⟨(.slice (.int .i64)), x6⟩]) := by kernel_rfl
theorem evermoreref3_Check.s39 : stackAt 39 evermoreref3_Check.body [] = some (stackOf 39 evermoreref3_Check.body) := by kernel_rfl
theorem evermoreref3_Check.h39 (k : Nat) (ds : List Dat) (r : Int) (h : evermoreref3_Check.c39 k ds = some r) : ∃ k', k' < k ∧ ∃ s, stackAt 39 evermoreref3_Check.body [] = some s ∧ evermoreref3_Check.R k' (start s) (evermoreref3_Check.t39.fill ds) = some r := by
  unfold evermoreref3_Check.c39 at h
  obtain ⟨x0, d0, rfl, h0⟩ := pop_some h
  obtain ⟨x1, d1, rfl, h1⟩ := pop_some h0
  obtain ⟨x2, d2, rfl, h2⟩ := pop_some h1
  obtain ⟨x3, d3, rfl, h3⟩ := pop_some h2
  obtain ⟨x4, d4, rfl, h4⟩ := pop_some h3
  obtain ⟨x5, d5, rfl, h5⟩ := pop_some h4
  obtain ⟨x6, d6, rfl, h6⟩ := pop_some h5
  obtain ⟨rfl, g⟩ := popN_some h6
  cases k with
  | zero => cases (show none = some r from g)
  | succ k => exact ⟨k, Nat.lt_succ_self k, _, evermoreref3_Check.s39, (evermoreref3_Check.e39 k x0 x1 x2 x3 x4 x5 x6).symm.trans g⟩
theorem evermoreref3_Check.e49 (k : Nat) (x0 : Int) (x1 : Int) (x2 : Int) (x3 : Int) (x4 : (List (List Int))) (x5 : (List Int)) : evermoreref3_Check.l24 (k + 1) x0 x1 x2 x3 x4 x5 = evermoreref3_Check.R k (start (stackOf 49 evermoreref3_Check.body)) (evermoreref3_Check.t49.fill [⟨(.int .i64), x0⟩, ⟨(.int .i64), x1⟩, ⟨(.int .i64), x2⟩, ⟨(.int .i64), x3⟩, ⟨(.slice (.slice (.int .i64))), x4⟩, ⟨(.slice (.int .i64)), x5⟩]) := by kernel_rfl
theorem evermoreref3_Check.s49 : stackAt 49 evermoreref3_Check.body [] = some (stackOf 49 evermoreref3_Check.body) := by kernel_rfl
theorem evermoreref3_Check.h49 (k : Nat) (ds : List Dat) (r : Int) (h : evermoreref3_Check.c49 k ds = some r) : ∃ k', k' < k ∧ ∃ s, stackAt 49 evermoreref3_Check.body [] = some s ∧ evermoreref3_Check.R k' (start s) (evermoreref3_Check.t49.fill ds) = some r := by
  unfold evermoreref3_Check.c49 at h
  obtain ⟨x0, d0, rfl, h0⟩ := pop_some h
  obtain ⟨x1, d1, rfl, h1⟩ := pop_some h0
  obtain ⟨x2, d2, rfl, h2⟩ := pop_some h1
  obtain ⟨x3, d3, rfl, h3⟩ := pop_some h2
  obtain ⟨x4, d4, rfl, h4⟩ := pop_some h3
  obtain ⟨x5, d5, rfl, h5⟩ := pop_some h4
  obtain ⟨rfl, g⟩ := popN_some h5
  cases k with
  | zero => cases (show none = some r from g)
  | succ k => exact ⟨k, Nat.lt_succ_self k, _, evermoreref3_Check.s49, (evermoreref3_Check.e49 k x0 x1 x2 x3 x4 x5).symm.trans g⟩
theorem evermoreref3_Check.e (k : Nat) (x0 : (Int × (Int × ((List (List Int)) × ((List Int) × Unit))))) : evermoreref3_Check.f k x0 = evermoreref3_Check.R k ([.code evermoreref3_Check.body]) (evermoreref3_Check.ti.fill [⟨(.pair (.int .i64) (.pair (.int .i64) (.pair (.slice (.slice (.int .i64))) (.pair (.slice (.int .i64)) .unit)))), x0⟩]) := by kernel_rfl
theorem evermoreref3_Check.h (k : Nat) (ds : List Dat) (r : Int) (h : evermoreref3_Check.g k ds = some r) : ∃ k', k' < k ∧ evermoreref3_Check.R k' ([.code evermoreref3_Check.body]) (evermoreref3_Check.ti.fill ds) = some r := by
  cases k with
  | zero => cases (show none = some r from h)
  | succ k =>
  replace h : evermoreref3_Check.c k ds = some r := h
  unfold evermoreref3_Check.c at h
  obtain ⟨x0, d0, rfl, h0⟩ := pop_some h
  obtain ⟨rfl, g⟩ := popN_some h0
  exact ⟨k, Nat.lt_succ_self k, (evermoreref3_Check.e k x0).symm.trans g⟩
theorem evermoreref3_Check.o (ds : List Dat) (r : Int) (h : evermoreref3_Check.out ds = some r) : ds = evermoreref3_Check.rs r := by
  unfold evermoreref3_Check.out at h
  obtain ⟨x0, d0, rfl, h0⟩ := pop_some h
  obtain ⟨rfl, g⟩ := popN_some h0
  cases g
  rfl
theorem evermoreref3_Check.fn : FnOk Try.prog 45 Try.f45 evermoreref3_Check.body Try.f45.ntmps 1 (fnRes Try.f45) :=
  fnOk_of (by kernel_rfl) (by kernel_rfl) (by kernel_rfl) (by kernel_rfl)
theorem evermoreref3_Check.con' : ∀ k ds r, evermoreref3_Check.g k ds = some r → Con Try.prog 45 1 evermoreref3_Check.ti evermoreref3_Check.to ds (evermoreref3_Check.rs r) :=
  fun_ok (T := T) T_ok mixed evermoreref3_Check.fn (env := evermoreref3_Check.env) (tbl := evermoreref3_Check.tbl) (gOut := evermoreref3_Check.out) (nin := 0) (cuts := []) (fuel := 100000) rfl (by kernel_rfl) (by kernel_rfl) (by kernel_rfl) (fun x hx => by
    simp only [evermoreref3_Check.tbl, List.mem_cons, List.not_mem_nil, or_false] at hx
    rcases hx with rfl | rfl | rfl | rfl
    · exact evermoreref3_Check.h19
    · exact evermoreref3_Check.h33
    · exact evermoreref3_Check.h39
    · exact evermoreref3_Check.h49
) evermoreref3_Check.o evermoreref3_Check.h (fun k _ => by unfold evermoreref3_Check.env; exact env0_ok)
theorem evermoreref3_Check.con (k : Nat) {x0 : (Int × (Int × ((List (List Int)) × ((List Int) × Unit))))} (r : Int) (h : evermoreref3_Check.f k x0 = some r) : Con Try.prog 45 1 evermoreref3_Check.ti evermoreref3_Check.to [⟨(.pair (.int .i64) (.pair (.int .i64) (.pair (.slice (.slice (.int .i64))) (.pair (.slice (.int .i64)) .unit)))), x0⟩] (evermoreref3_Check.rs r) :=
  evermoreref3_Check.con' (k + 1) _ r (by show evermoreref3_Check.c k _ = some r; unfold evermoreref3_Check.c; simp only [pop_self, popN]; exact h)
mutual
def evermoreref32_set.l3 : Nat → List (Bool) → Int → Int → Option (Int)
 | 0, _, _, _ => none
 | k + 1, l0, s3, q4 =>
  if q4 < (↑l0.length : Int) then
   if 0 ≤ q4 then
   if q4 < (↑l0.length : Int) then
    if Go.Proofs.YtiiioobebeaafaaSx.rd false l0 q4 = true then
      if 0 ≤ q4 then
      evermoreref32_set.j4 k l0 (Go.IntKind.i64.wrap (↑(BitVec.ofInt Go.IntKind.i64.bits s3 ||| BitVec.ofInt Go.IntKind.i64.bits (Go.IntKind.i64.wrap (1 * 2 ^ min q4.toNat Go.IntKind.i64.bits))).toNat : Int)) q4
      else none
     else
      evermoreref32_set.j4 k l0 s3 q4
    else none
   else none
  else
   some (s3)
def evermoreref32_set.j4 : Nat → List (Bool) → Int → Int → Option (Int)
 | 0, _, _, _ => none
 | k + 1, l0, s3, q4 =>
  evermoreref32_set.l3 k l0 s3 (Go.IntKind.i64.wrap (q4 + 1))
end
def evermoreref32_set.f (k : Nat) (l0 : List (Bool)) : Option (Int) :=
 evermoreref32_set.l3 k l0 0 0

noncomputable def evermoreref32_set.body : Code := fnBody Try.f130
def evermoreref32_set.ti : Tm := ⟨[(0, .p (.slice .bool))], []⟩
def evermoreref32_set.to : Tm := ⟨[(0, .p (.int .i64))], []⟩
def evermoreref32_set.rs (r : Int) : List Dat := [⟨(.int .i64), r⟩]
def evermoreref32_set.out (ds : List Dat) : Option (Int) := pop (.int .i64) ds fun x0 ds => popN ds (some (x0))
def evermoreref32_set.c (k : Nat) (ds : List Dat) : Option (Int) := pop (.slice .bool) ds fun x0 ds => popN ds (evermoreref32_set.f k x0)
def evermoreref32_set.g : Nat → List Dat → Option (Int)
 | 0, _ => none
 | k + 1, ds => evermoreref32_set.c k ds
def evermoreref32_set.env (k : Nat) : Nat → List SV → List Chunk → KT (Int) → Option (Int) := env0
def evermoreref32_set.t7 : Tm := ⟨[(0, .p (.slice .bool)), (3, .p (.int .i64)), (4, .p (.int .i64))], []⟩
def evermoreref32_set.c7 (k : Nat) (ds : List Dat) : Option (Int) := pop (.slice .bool) ds fun x0 ds => pop (.int .i64) ds fun x1 ds => pop (.int .i64) ds fun x2 ds => popN ds (evermoreref32_set.l3 k x0 x1 x2)
def evermoreref32_set.t8 : Tm := ⟨[(0, .p (.slice .bool)), (3, .p (.int .i64)), (4, .p (.int .i64))], []⟩
def evermoreref32_set.c8 (k : Nat) (ds : List Dat) : Option (Int) := pop (.slice .bool) ds fun x0 ds => pop (.int .i64) ds fun x1 ds => pop (.int .i64) ds fun x2 ds => popN ds (evermoreref32_set.j4 k x0 x1 x2)
def evermoreref32_set.tbl : List (Nat × Tm × (Nat → List Dat → Option (Int))) := [(7, evermoreref32_set.t7, evermoreref32_set.c7), (8, evermoreref32_set.t8, evermoreref32_set.c8)]
noncomputable abbrev evermoreref32_set.R (k : Nat) := run T (evermoreref32_set.env k) Try.f130.ntmps (cutE 0 evermoreref32_set.tbl k) (finE 0 evermoreref32_set.to evermoreref32_set.out) (fnRes Try.f130) [4] 100000 true
theorem evermoreref32_set.e7 (k : Nat) (x0 : (List Bool)) (x1 : Int) (x2 : Int) : evermoreref32_set.l3 (k + 1) x0 x1 x2 = evermoreref32_set.R k (start (stackOf 7 evermoreref32_set.body)) (evermoreref32_set.t7.fill [⟨(.slice .bool), x0⟩, ⟨(.int .i64), x1⟩, ⟨(.int .i64), x2⟩]) := by kernel_rfl
theorem evermoreref32_set.s7 : stackAt 7 evermoreref32_set.body [] = some (stackOf 7 evermoreref32_set.body) := by kernel_rfl
theorem evermoreref32_set.h7 (k : Nat) (ds : List Dat) (r : Int) (h : evermoreref32_set.c7 k ds = some r) : ∃ k', k' < k ∧ ∃ s, stackAt 7 evermoreref32_set.body [] = some s ∧ evermoreref32_set.R k' (start s) (evermoreref32_set.t7.fill ds) = some r := by
  unfold evermoreref32_set.c7 at h
  obtain ⟨x0, d0, rfl, h0⟩ := pop_some h
  obtain ⟨x1, d1, rfl, h1⟩ := pop_some h0
  obtain ⟨x2, d2, rfl, h2⟩ := pop_some h1
  obtain ⟨rfl, g⟩ := popN_some h2
  cases k with
  | zero => cases (show none = some r from g)
  | succ k => exact ⟨k, Nat.lt_succ_self k, _, evermoreref32_set.s7, (evermoreref32_set.e7 k x0 x1 x2).symm.trans g⟩
theorem evermoreref32_set.e8 (k : Nat) (x0 : (List Bool)) (x1 : Int) (x2 : Int) : evermoreref32_set.j4 (k + 1) x0 x1 x2 = evermoreref32_set.R k (start (stackOf 8 evermoreref32_set.body)) (evermoreref32_set.t8.fill [⟨(.slice .bool), x0⟩, ⟨(.int .i64), x1⟩, ⟨(.int .i64), x2⟩]) := by kernel_rfl
theorem evermoreref32_set.s8 : stackAt 8 evermoreref32_set.body [] = some (stackOf 8 evermoreref32_set.body) := by kernel_rfl
theorem evermoreref32_set.h8 (k : Nat) (ds : List Dat) (r : Int) (h : evermoreref32_set.c8 k ds = some r) : ∃ k', k' < k ∧ ∃ s, stackAt 8 evermoreref32_set.body [] = some s ∧ evermoreref32_set.R k' (start s) (evermoreref32_set.t8.fill ds) = some r := by
  unfold evermoreref32_set.c8 at h
  obtain ⟨x0, d0, rfl, h0⟩ := pop_some h
  obtain ⟨x1, d1, rfl, h1⟩ := pop_some h0
  obtain ⟨x2, d2, rfl, h2⟩ := pop_some h1
  obtain ⟨rfl, g⟩ := popN_some h2
  cases k with
  | zero => cases (show none = some r from g)
  | succ k => exact ⟨k, Nat.lt_succ_self k, _, evermoreref32_set.s8, (evermoreref32_set.e8 k x0 x1 x2).symm.trans g⟩
theorem evermoreref32_set.e (k : Nat) (x0 : (List Bool)) : evermoreref32_set.f k x0 = evermoreref32_set.R k ([.code evermoreref32_set.body]) (evermoreref32_set.ti.fill [⟨(.slice .bool), x0⟩]) := by kernel_rfl
theorem evermoreref32_set.h (k : Nat) (ds : List Dat) (r : Int) (h : evermoreref32_set.g k ds = some r) : ∃ k', k' < k ∧ evermoreref32_set.R k' ([.code evermoreref32_set.body]) (evermoreref32_set.ti.fill ds) = some r := by
  cases k with
  | zero => cases (show none = some r from h)
  | succ k =>
  replace h : evermoreref32_set.c k ds = some r := h
  unfold evermoreref32_set.c at h
  obtain ⟨x0, d0, rfl, h0⟩ := pop_some h
  obtain ⟨rfl, g⟩ := popN_some h0
  exact ⟨k, Nat.lt_succ_self k, (evermoreref32_set.e k x0).symm.trans g⟩
theorem evermoreref32_set.o (ds : List Dat) (r : Int) (h : evermoreref32_set.out ds = some r) : ds = evermoreref32_set.rs r := by
  unfold evermoreref32_set.out at h
  obtain ⟨x0, d0, rfl, h0⟩ := pop_some h
  obtain ⟨rfl, g⟩ := popN_some h0
  cases g
  rfl
theorem evermoreref32_set.fn : FnOk Try.prog 130 Try.f130 evermoreref32_set.body Try.f130.ntmps 1 (fnRes Try.f130) :=
  fnOk_of (by kernel_rfl) (by kernel_rfl) (by kernel_rfl) (by kernel_rfl)
theorem evermoreref32_set.con' : ∀ k ds r, evermoreref32_set.g k ds = some r → Con Try.prog 130 1 evermoreref32_set.ti evermoreref32_set.to ds (evermoreref32_set.rs r) :=
  fun_ok (T := T) T_ok mixed evermoreref32_set.fn (env := evermoreref32_set.env) (tbl := evermoreref32_set.tbl) (gOut := evermoreref32_set.out) (nin := 0) (cuts := [4]) (fuel := 100000) rfl (by kernel_rfl) (by kernel_rfl) (by kernel_rfl) (fun x hx => by
    simp only [evermoreref32_set.tbl, List.mem_cons, List.not_mem_nil, or_false] at hx
    rcases hx with rfl | rfl
    · exact evermoreref32_set.h7
    · exact evermoreref32_set.h8
) evermoreref32_set.o evermoreref32_set.h (fun k _ => by unfold evermoreref32_set.env; exact env0_ok)
theorem evermoreref32_set.con (k : Nat) {x0 : (List Bool)} (r : Int) (h : evermoreref32_set.f k x0 = some r) : Con Try.prog 130 1 evermoreref32_set.ti evermoreref32_set.to [⟨(.slice .bool), x0⟩] (evermoreref32_set.rs r) :=
  evermoreref32_set.con' (k + 1) _ r (by show evermoreref32_set.c k _ = some r; unfold evermoreref32_set.c; simp only [pop_self, popN]; exact h)
mutual
def evermoreref3_Classes.l3 : Nat → Int → Int → Int → List (List (Int)) → List (Int) → List (Int) → Option (List Int)
 | 0, _, _, _, _, _, _ => none
 | k + 1, count4, d1_0, d1_1, d1_2, d1_3, class3 =>
  if 0 ≤ (↑class3.length : Int) then
  if (↑class3.length : Int) ≤ (↑class3.length : Int) then
   if (↑class3.length : Int) * ((↑8 : Int) + 1) ≤ 1099511627776 then
    evermoreref3_Classes.l7 k count4 0 0 d1_0 d1_1 d1_2 d1_3 class3 (List.replicate (↑class3.length : Int).toNat (Int.ofNat 0)) []
    else none
   else none
  else none
def evermoreref3_Classes.l7 : Nat → Int → Int → Int → Int → Int → List (List (Int)) → List (Int) → List (Int) → List (Int) → List (Int) → Option (List Int)
 | 0, _, _, _, _, _, _, _, _, _, _ => none
 | k + 1, count4, n6, q8, d1_0, d1_1, d1_2, d1_3, class3, next5, first7 =>
  if q8 < (↑class3.length : Int) then
   evermoreref3_Classes.l10 k count4 n6 q8 0 d1_0 d1_1 d1_2 d1_3 class3 next5 first7
  else
   if n6 = count4 then
    some (next5)
   else
    evermoreref3_Classes.l3 k n6 d1_0 d1_1 d1_2 d1_3 next5
def evermoreref3_Classes.l10 : Nat → Int → Int → Int → Int → Int → Int → List (List (Int)) → List (Int) → List (Int) → List (Int) → List (Int) → Option (List Int)
 | 0, _, _, _, _, _, _, _, _, _, _, _ => none
 | k + 1, count4, n6, q8, k9, d1_0, d1_1, d1_2, d1_3, class3, next5, first7 =>
  if k9 < n6 then
   if 0 ≤ k9 then
   if k9 < (↑first7.length : Int) then
    if 0 ≤ first7.getD k9.toNat (Int.ofNat 0) then
     if first7.getD k9.toNat (Int.ofNat 0) < (↑class3.length : Int) then
      if 0 ≤ q8 then
       if q8 < (↑class3.length : Int) then
        evermoreref3_Classes.l14 k count4 n6 q8 k9 (first7.getD k9.toNat (Int.ofNat 0)) (decide (class3.getD (first7.getD k9.toNat (Int.ofNat 0)).toNat (Int.ofNat 0) = class3.getD q8.toNat (Int.ofNat 0))) 0 d1_0 d1_1 d1_2 d1_3 class3 next5 first7
        else none
       else none
      else none
     else none
    else none
   else none
  else
   if k9 = n6 then
    if (first7 ++ [q8]).length.blt 1000000000 = true then
    evermoreref3_Classes.j22 k count4 (Go.IntKind.i64.wrap (n6 + 1)) q8 k9 d1_0 d1_1 d1_2 d1_3 class3 next5 (first7 ++ [q8])
    else none
   else
    evermoreref3_Classes.j22 k count4 n6 q8 k9 d1_0 d1_1 d1_2 d1_3 class3 next5 first7
def evermoreref3_Classes.l14 : Nat → Int → Int → Int → Int → Int → Bool → Int → Int → Int → List (List (Int)) → List (Int) → List (Int) → List (Int) → List (Int) → Option (List Int)
 | 0, _, _, _, _, _, _, _, _, _, _, _, _, _, _ => none
 | k + 1, count4, n6, q8, k9, p10, same11, a12, d1_0, d1_1, d1_2, d1_3, class3, next5, first7 =>
  if a12 < d1_0 then
   if same11 = true then
    if 0 ≤ p10 then
    if p10 < (↑d1_2.length : Int) then
     if 0 ≤ a12 then
      if a12 < (↑(Go.Proofs.YtiiioobebeaafaaSx.rd [] d1_2 p10).length : Int) then
       if 0 ≤ Go.Proofs.YtiiioobebeaafaaSx.rd (Int.ofNat 0) (Go.Proofs.YtiiioobebeaafaaSx.rd [] d1_2 p10) a12 then
        if Go.Proofs.YtiiioobebeaafaaSx.rd (Int.ofNat 0) (Go.Proofs.YtiiioobebeaafaaSx.rd [] d1_2 p10) a12 < (↑class3.length : Int) then
         if 0 ≤ q8 then
          if q8 < (↑d1_2.length : Int) then
           if 0 ≤ a12 then
            if a12 < (↑(Go.Proofs.YtiiioobebeaafaaSx.rd [] d1_2 q8).length : Int) then
             if 0 ≤ Go.Proofs.YtiiioobebeaafaaSx.rd (Int.ofNat 0) (Go.Proofs.YtiiioobebeaafaaSx.rd [] d1_2 q8) a12 then
              if Go.Proofs.YtiiioobebeaafaaSx.rd (Int.ofNat 0) (Go.Proofs.YtiiioobebeaafaaSx.rd [] d1_2 q8) a12 < (↑class3.length : Int) then
               evermoreref3_Classes.l14 k count4 n6 q8 k9 p10 (decide (class3.getD (Go.Proofs.YtiiioobebeaafaaSx.rd (Int.ofNat 0) (Go.Proofs.YtiiioobebeaafaaSx.rd [] d1_2 p10) a12).toNat (Int.ofNat 0) = class3.getD (Go.Proofs.YtiiioobebeaafaaSx.rd (Int.ofNat 0) (Go.Proofs.YtiiioobebeaafaaSx.rd [] d1_2 q8) a12).toNat (Int.ofNat 0))) (Go.IntKind.i64.wrap (a12 + 1)) d1_0 d1_1 d1_2 d1_3 class3 next5 first7
               else none
              else none
             else none
            else none
           else none
          else none
         else none
        else none
       else none
      else none
     else none
    else none
   else
    if same11 = true then
     if k9 = n6 then
      if (first7 ++ [q8]).length.blt 1000000000 = true then
      evermoreref3_Classes.j22 k count4 (Go.IntKind.i64.wrap (n6 + 1)) q8 k9 d1_0 d1_1 d1_2 d1_3 class3 next5 (first7 ++ [q8])
      else none
     else
      evermoreref3_Classes.j22 k count4 n6 q8 k9 d1_0 d1_1 d1_2 d1_3 class3 next5 first7
    else
     evermoreref3_Classes.l10 k count4 n6 q8 (Go.IntKind.i64.wrap (k9 + 1)) d1_0 d1_1 d1_2 d1_3 class3 next5 first7
  else
   if same11 = true then
    if k9 = n6 then
     if (first7 ++ [q8]).length.blt 1000000000 = true then
     evermoreref3_Classes.j22 k count4 (Go.IntKind.i64.wrap (n6 + 1)) q8 k9 d1_0 d1_1 d1_2 d1_3 class3 next5 (first7 ++ [q8])
     else none
    else
     evermoreref3_Classes.j22 k count4 n6 q8 k9 d1_0 d1_1 d1_2 d1_3 class3 next5 first7
   else
    evermoreref3_Classes.l10 k count4 n6 q8 (Go.IntKind.i64.wrap (k9 + 1)) d1_0 d1_1 d1_2 d1_3 class3 next5 first7
def evermoreref3_Classes.j22 : Nat → Int → Int → Int → Int → Int → Int → List (List (Int)) → List (Int) → List (Int) → List (Int) → List (Int) → Option (List Int)
 | 0, _, _, _, _, _, _, _, _, _, _, _ => none
 | k + 1, count4, n6, q8, k9, d1_0, d1_1, d1_2, d1_3, class3, next5, first7 =>
  if 0 ≤ q8 then
  if q8 < (↑next5.length : Int) then
   evermoreref3_Classes.l7 k count4 n6 (Go.IntKind.i64.wrap (q8 + 1)) d1_0 d1_1 d1_2 d1_3 class3 (next5.set q8.toNat k9) first7
   else none
  else none
end
def evermoreref3_Classes.f (k : Nat) (d0 : (Int × (Int × (List (List (Int)) × (List (Int) × Unit))))) : Option (List Int) :=
 if ([] ++ d0.snd.snd.snd.fst).length.blt 1000000000 = true then
 evermoreref3_Classes.l3 k 0 d0.fst d0.snd.fst d0.snd.snd.fst d0.snd.snd.snd.fst ([] ++ d0.snd.snd.snd.fst)
 else none

noncomputable def evermoreref3_Classes.body : Code := fnBody Try.f104
def evermoreref3_Classes.ti : Tm := ⟨[(0, .p (.pair (.int .i64) (.pair (.int .i64) (.pair (.slice (.slice (.int .i64))) (.pair (.slice (.int .i64)) .unit)))))], []⟩
def evermoreref3_Classes.to : Tm := ⟨[(0, .own 0)], [.own (.int .i64)]⟩
def evermoreref3_Classes.rs (r : (List Int)) : List Dat := [⟨(.slice (.int .i64)), r⟩]
def evermoreref3_Classes.out (ds : List Dat) : Option ((List Int)) := pop (.slice (.int .i64)) ds fun x0 ds => popN ds (some (x0))
def evermoreref3_Classes.c (k : Nat) (ds : List Dat) : Option ((List Int)) := pop (.pair (.int .i64) (.pair (.int .i64) (.pair (.slice (.slice (.int .i64))) (.pair (.slice (.int .i64)) .unit)))) ds fun x0 ds => popN ds (evermoreref3_Classes.f k x0)
def evermoreref3_Classes.g : Nat → List Dat → Option ((List Int))
 | 0, _ => none
 | k + 1, ds => evermoreref3_Classes.c k ds
def evermoreref3_Classes.env (k : Nat) : Nat → List SV → List Chunk → KT ((List Int)) → Option ((List Int)) := env0
def evermoreref3_Classes.t7 : Tm := ⟨[(1, .ptr 0 0), (3, .own 1), (4, .p (.int .i64))], [.box [.p (.int .i64), .p (.int .i64), .p (.slice (.slice (.int .i64))), .p (.slice (.int .i64))] 58, .own (.int .i64)]⟩
def evermoreref3_Classes.c7 (k : Nat) (ds : List Dat) : Option ((List Int)) := pop (.int .i64) ds fun x0 ds => pop (.int .i64) ds fun x1 ds => pop (.int .i64) ds fun x2 ds => pop (.slice (.slice (.int .i64))) ds fun x3 ds => pop (.slice (.int .i64)) ds fun x4 ds => pop (.slice (.int .i64)) ds fun x5 ds => popN ds (evermoreref3_Classes.l3 k x0 x1 x2 x3 x4 x5)
def evermoreref3_Classes.t15 : Tm := ⟨[(1, .ptr 0 0), (3, .own 1), (4, .p (.int .i64)), (5, .own 2), (6, .p (.int .i64)), (7, .own 3), (8, .p (.int .i64))], [.box [.p (.int .i64), .p (.int .i64), .p (.slice (.slice (.int .i64))), .p (.slice (.int .i64))] 58, .own (.int .i64), .own (.int .i64), .own (.int .i64)]⟩
def evermoreref3_Classes.c15 (k : Nat) (ds : List Dat) : Option ((List Int)) := pop (.int .i64) ds fun x0 ds => pop (.int .i64) ds fun x1 ds => pop (.int .i64) ds fun x2 ds => pop (.int .i64) ds fun x3 ds => pop (.int .i64) ds fun x4 ds => pop (.slice (.slice (.int .i64))) ds fun x5 ds => pop (.slice (.int .i64)) ds fun x6 ds => pop (.slice (.int .i64)) ds fun x7 ds => pop (.slice (.int .i64)) ds fun x8 ds => pop (.slice (.int .i64)) ds fun x9 ds => popN ds (evermoreref3_Classes.l7 k x0 x1 x2 x3 x4 x5 x6 x7 x8 x9)
def evermoreref3_Classes.t21 : Tm := ⟨[(1, .ptr 0 0), (3, .own 1), (4, .p (.int .i64)), (5, .own 2), (6, .p (.int .i64)), (7, .own 3), (8, .p (.int .i64)), (9, .p (.int .i64))], [.box [.p (.int .i64), .p (.int .i64), .p (.slice (.slice (.int .i64))), .p (.slice (.int .i64))] 58, .own (.int .i64), .own (.int .i64), .own (.int .i64)]⟩
def evermoreref3_Classes.c21 (k : Nat) (ds : List Dat) : Option ((List Int)) := pop (.int .i64) ds fun x0 ds => pop (.int .i64) ds fun x1 ds => pop (.int .i64) ds fun x2 ds => pop (.int .i64) ds fun x3 ds => pop (.int .i64) ds fun x4 ds => pop (.int .i64) ds fun x5 ds => pop (.slice (.slice (.int .i64))) ds fun x6 ds => pop (.slice (.int .i64)) ds fun x7 ds => pop (.slice (.int .i64)) ds fun x8 ds => pop (.slice (.int .i64)) ds fun x9 ds => pop (.slice (.int .i64)) ds fun x10 ds => popN ds (evermoreref3_Classes.l10 k x0 x1 x2 x3 x4 x5 x6 x7 x8 x9 x10)
def evermoreref3_Classes.t29 : Tm := ⟨[(1, .ptr 0 0), (3, .own 1), (4, .p (.int .i64)), (5, .own 2), (6, .p (.int .i64)), (7, .own 3), (8, .p (.int .i64)), (9, .p (.int .i64)), (10, .p (.int .i64)), (11, .p .bool), (12, .p (.int .i64))], [.box [.p (.int .i64), .p (.int .i64), .p (.slice (.slice (.int .i64))), .p (.slice (.int .i64))] 58, .own (.int .i64), .own (.int .i64), .own (.int .i64)]⟩
def evermoreref3_Classes.c29 (k : Nat) (ds : List Dat) : Option ((List Int)) := pop (.int .i64) ds fun x0 ds => pop (.int .i64) ds fun x1 ds => pop (.int .i64) ds fun x2 ds => pop (.int .i64) ds fun x3 ds => pop (.int .i64) ds fun x4 ds => pop .bool ds fun x5 ds => pop (.int .i64) ds fun x6 ds => pop (.int .i64) ds fun x7 ds => pop (.int .i64) ds fun x8 ds => pop (.slice (.slice (.int .i64))) ds fun x9 ds => pop (.slice (.int .i64)) ds fun x10 ds => pop (.slice (.int .i64)) ds fun x11 ds => pop (.slice (.int .i64)) ds fun x12 ds => pop (.slice (.int .i64)) ds fun x13 ds => popN ds (evermoreref3_Classes.l14 k x0 x1 x2 x3 x4 x5 x6 x7 x8 x9 x10 x11 x12 x13)
def evermoreref3_Classes.t44 : Tm := ⟨[(1, .ptr 0 0), (3, .own 1), (4, .p (.int .i64)), (5, .own 2), (6, .p (.int .i64)), (7, .own 3), (8, .p (.int .i64)), (9, .p (.int .i64))], [.box [.p (.int .i64), .p (.int .i64), .p (.slice (.slice (.int .i64))), .p (.slice (.int .i64))] 58, .own (.int .i64), .own (.int .i64), .own (.int .i64)]⟩
def evermoreref3_Classes.c44 (k : Nat) (ds : List Dat) : Option ((List Int)) := pop (.int .i64) ds fun x0 ds => pop (.int .i64) ds fun x1 ds => pop (.int .i64) ds fun x2 ds => pop (.int .i64) ds fun x3 ds => pop (.int .i64) ds fun x4 ds => pop (.int .i64) ds fun x5 ds => pop (.slice (.slice (.int .i64))) ds fun x6 ds => pop (.slice (.int .i64)) ds fun x7 ds => pop (.slice (.int .i64)) ds fun x8 ds => pop (.slice (.int .i64)) ds fun x9 ds => pop (.slice (.int .i64)) ds fun x10 ds => popN ds (evermoreref3_Classes.j22 k x0 x1 x2 x3 x4 x5 x6 x7 x8 x9 x10)
def evermoreref3_Classes.tbl : List (Nat × Tm × (Nat → List Dat → Option ((List Int)))) := [(7, evermoreref3_Classes.t7, evermoreref3_Classes.c7), (15, evermoreref3_Classes.t15, evermoreref3_Classes.c15), (21, evermoreref3_Classes.t21, evermoreref3_Classes.c21), (29, evermoreref3_Classes.t29, evermoreref3_Classes.c29), (44, evermoreref3_Classes.t44, evermoreref3_Classes.c44)]
noncomputable abbrev evermoreref3_Classes.R (k : Nat) := run T (evermoreref3_Classes.env k) Try.f104.ntmps (cutE 0 evermoreref3_Classes.tbl k) (finE 0 evermoreref3_Classes.to evermoreref3_Classes.out) (fnRes Try.f104) [22] 100000 true
theorem evermoreref3_Classes.e7 (k : Nat) (x0 : Int) (x1 : Int) (x2 : Int) (x3 : (List (List Int))) (x4 : (List Int)) (x5 : (List Int)) : evermoreref3_Classes.l3 (k + 1) x0 x1 x2 x3 x4 x5 = evermoreref3_Classes.R k (start (stackOf 7 evermoreref3_Classes.body)) (evermoreref3_Classes.t7.fill [⟨(.int .i64), x0⟩, ⟨(.int .i64), x1⟩, ⟨(.int .i64), x2⟩, ⟨(.slice (.slice (.int .i64))), x3⟩, ⟨(.slice (.int .i64)), x4⟩, ⟨(.slice (.int .i64)), x5⟩]) := by kernel_rfl
theorem evermoreref3_Classes.s7 : stackAt 7 evermoreref3_Classes.body [] = some (stackOf 7 evermoreref3_Classes.body) := by kernel_rfl
theorem evermoreref3_Classes.h7 (k : Nat) (ds : List Dat) (r : (List Int)) (h : evermoreref3_Classes.c7 k ds = some r) : ∃ k', k' < k ∧ ∃ s, stackAt 7 evermoreref3_Classes.body [] = some s ∧ evermoreref3_Classes.R k' (start s) (evermoreref3_Classes.t7.fill ds) = some r := by
  unfold evermoreref3_Classes.c7 at h
  obtain ⟨x0, d0, rfl, h0⟩ := pop_some h
  obtain ⟨x1, d1, rfl, h1⟩ := pop_some h0
  obtain ⟨x2, d2, rfl, h2⟩ := pop_some h1
  obtain ⟨x3, d3, rfl, h3⟩ := pop_some h2
  obtain ⟨x4, d4, rfl, h4⟩ := pop_some h3
  obtain ⟨x5, d5, rfl, h5⟩ := pop_some h4
  obtain ⟨rfl, g⟩ := popN_some h5
  cases k with
  | zero => cases (show none = some r from g)
  | succ k => exact ⟨k, Nat.lt_succ_self k, _, evermoreref3_Classes.s7, (evermoreref3_Classes.e7 k x0 x1 x2 x3 x4 x5).symm.trans g⟩
theorem evermoreref3_Classes.e15 (k : Nat) (x0 : Int) (x1 : Int) (x2 : Int) (x3 : Int) (x4 : Int) (x5 : (List (List Int))) (x6 : (List Int)) (x7 : (List Int)) (x8 : (List Int)) (x9 : (List Int)) : evermoreref3_Classes.l7 (k + 1) x0 x1 x2 x3 x4 x5 x6 x7 x8 x9 = evermoreref3_Classes.R k (start (stackOf 15 evermoreref3_Classes.body)) (evermoreref3_Classes.t15.fill [⟨(.int .i64), x0⟩, ⟨(.int .i64), x1⟩, ⟨(.int .i64), x2⟩, ⟨(.int .i64), x3⟩, ⟨(.int .i64), x4⟩, ⟨(.slice (.slice (.int .i64))), x5⟩, ⟨(.slice (.int .i64)), x6⟩, ⟨(.slice (.int .i64)), x7⟩, ⟨(.slice (.int .i64)), x8⟩, ⟨(.slice (.int .i64)), x9⟩]) := by kernel_rfl
theorem evermoreref3_Classes.s15 : stackAt 15 evermoreref3_Classes.body [] = some (stackOf 15 evermoreref3_Classes.body) := by kernel_rfl
theorem evermoreref3_Classes.h15 (k : Nat) (ds : List Dat) (r : (List Int)) (h : evermoreref3_Classes.c15 k ds = some r) : ∃ k', k' < k ∧ ∃ s, stackAt 15 evermoreref3_Classes.body [] = some s ∧ evermoreref3_Classes.R k' (start s) (evermoreref3_Classes.t15.fill ds) = some r := by
  unfold evermoreref3_Classes.c15 at h
  obtain ⟨x0, d0, rfl, h0⟩ := pop_some h
  obtain ⟨x1, d1, rfl, h1⟩ := pop_some h0
  obtain ⟨x2, d2, rfl, h2⟩ := pop_some h1
  obtain ⟨x3, d3, rfl, h3⟩ := pop_some h2
  obtain ⟨x4, d4, rfl, h4⟩ := pop_some h3
  obtain ⟨x5, d5, rfl, h5⟩ := pop_some h4
  obtain ⟨x6, d6, rfl, h6⟩ := pop_some h5
  obtain ⟨x7, d7, rfl, h7⟩ := pop_some h6
  obtain ⟨x8, d8, rfl, h8⟩ := pop_some h7
  obtain ⟨x9, d9, rfl, h9⟩ := pop_some h8
  obtain ⟨rfl, g⟩ := popN_some h9
  cases k with
  | zero => cases (show none = some r from g)
  | succ k => exact ⟨k, Nat.lt_succ_self k, _, evermoreref3_Classes.s15, (evermoreref3_Classes.e15 k x0 x1 x2 x3 x4 x5 x6 x7 x8 x9).symm.trans g⟩
theorem evermoreref3_Classes.e21 (k : Nat) (x0 : Int) (x1 : Int) (x2 : Int) (x3 : Int) (x4 : Int) (x5 : Int) (x6 : (List (List Int))) (x7 : (List Int)) (x8 : (List Int)) (x9 : (List Int)) (x10 : (List Int)) : evermoreref3_Classes.l10 (k + 1) x0 x1 x2 x3 x4 x5 x6 x7 x8 x9 x10 = evermoreref3_Classes.R k (start (stackOf 21 evermoreref3_Classes.body)) (evermoreref3_Classes.t21.fill [⟨(.int .i64), x0⟩, ⟨(.int .i64), x1⟩, ⟨(.int .i64), x2⟩, ⟨(.int .i64), x3⟩, ⟨(.int .i64), x4⟩, ⟨(.int .i64), x5⟩, ⟨(.slice (.slice (.int .i64))), x6⟩, ⟨(.slice (.int .i64)), x7⟩, ⟨(.slice (.int .i64)), x8⟩, ⟨(.slice (.int .i64)), x9⟩, ⟨(.slice (.int .i64)), x10⟩]) := by kernel_rfl
theorem evermoreref3_Classes.s21 : stackAt 21 evermoreref3_Classes.body [] = some (stackOf 21 evermoreref3_Classes.body) := by kernel_rfl
theorem evermoreref3_Classes.h21 (k : Nat) (ds : List Dat) (r : (List Int)) (h : evermoreref3_Classes.c21 k ds = some r) : ∃ k', k' < k ∧ ∃ s, stackAt 21 evermoreref3_Classes.body [] = some s ∧ evermoreref3_Classes.R k' (start s) (evermoreref3_Classes.t21.fill ds) = some r := by
  unfold evermoreref3_Classes.c21 at h
  obtain ⟨x0, d0, rfl, h0⟩ := pop_some h
  obtain ⟨x1, d1, rfl, h1⟩ := pop_some h0
  obtain ⟨x2, d2, rfl, h2⟩ := pop_some h1
  obtain ⟨x3, d3, rfl, h3⟩ := pop_some h2
  obtain ⟨x4, d4, rfl, h4⟩ := pop_some h3
  obtain ⟨x5, d5, rfl, h5⟩ := pop_some h4
  obtain ⟨x6, d6, rfl, h6⟩ := pop_some h5
  obtain ⟨x7, d7, rfl, h7⟩ := pop_some h6
  obtain ⟨x8, d8, rfl, h8⟩ := pop_some h7
  obtain ⟨x9, d9, rfl, h9⟩ := pop_some h8
  obtain ⟨x10, d10, rfl, h10⟩ := pop_some h9
  obtain ⟨rfl, g⟩ := popN_some h10
  cases k with
  | zero => cases (show none = some r from g)
  | succ k => exact ⟨k, Nat.lt_succ_self k, _, evermoreref3_Classes.s21, (evermoreref3_Classes.e21 k x0 x1 x2 x3 x4 x5 x6 x7 x8 x9 x10).symm.trans g⟩
theorem evermoreref3_Classes.e29 (k : Nat) (x0 : Int) (x1 : Int) (x2 : Int) (x3 : Int) (x4 : Int) (x5 : Bool) (x6 : Int) (x7 : Int) (x8 : Int) (x9 : (List (List Int))) (x10 : (List Int)) (x11 : (List Int)) (x12 : (List Int)) (x13 : (List Int)) : evermoreref3_Classes.l14 (k + 1) x0 x1 x2 x3 x4 x5 x6 x7 x8 x9 x10 x11 x12 x13 = evermoreref3_Classes.R k (start (stackOf 29 evermoreref3_Classes.body)) (evermoreref3_Classes.t29.fill [⟨(.int .i64), x0⟩, ⟨(.int .i64), x1⟩, ⟨(.int .i64), x2⟩, ⟨(.int .i64), x3⟩, ⟨(.int .i64), x4⟩, ⟨.bool, x5⟩, ⟨(.int .i64), x6⟩, ⟨(.int .i64), x7⟩, ⟨(.int .i64), x8⟩, ⟨(.slice (.slice (.int .i64))), x9⟩, ⟨(.slice (.int .i64)), x10⟩, ⟨(.slice (.int .i64)), x11⟩, ⟨(.slice (.int .i64)), x12⟩, ⟨(.slice (.int .i64)), x13⟩]) := by kernel_rfl
theorem evermoreref3_Classes.s29 : stackAt 29 evermoreref3_Classes.body [] = some (stackOf 29 evermoreref3_Classes.body) := by kernel_rfl
theorem evermoreref3_Classes.h29 (k : Nat) (ds : List Dat) (r : (List Int)) (h : evermoreref3_Classes.c29 k ds = some r) : ∃ k', k' < k ∧ ∃ s, stackAt 29 evermoreref3_Classes.body [] = some s ∧ evermoreref3_Classes.R k' (start s) (evermoreref3_Classes.t29.fill ds) = some r := by
  unfold evermoreref3_Classes.c29 at h
  obtain ⟨x0, d0, rfl, h0⟩ := pop_some h
  obtain ⟨x1, d1, rfl, h1⟩ := pop_some h0
  obtain ⟨x2, d2, rfl, h2⟩ := pop_some h1
  obtain ⟨x3, d3, rfl, h3⟩ := pop_some h2
  obtain ⟨x4, d4, rfl, h4⟩ := pop_some h3
  obtain ⟨x5, d5, rfl, h5⟩ := pop_some h4
  obtain ⟨x6, d6, rfl, h6⟩ := pop_some h5
  obtain ⟨x7, d7, rfl, h7⟩ := pop_some h6
  obtain ⟨x8, d8, rfl, h8⟩ := pop_some h7
  obtain ⟨x9, d9, rfl, h9⟩ := pop_some h8
  obtain ⟨x10, d10, rfl, h10⟩ := pop_some h9
  obtain ⟨x11, d11, rfl, h11⟩ := pop_some h10
  obtain ⟨x12, d12, rfl, h12⟩ := pop_some h11
  obtain ⟨x13, d13, rfl, h13⟩ := pop_some h12
  obtain ⟨rfl, g⟩ := popN_some h13
  cases k with
  | zero => cases (show none = some r from g)
  | succ k => exact ⟨k, Nat.lt_succ_self k, _, evermoreref3_Classes.s29, (evermoreref3_Classes.e29 k x0 x1 x2 x3 x4 x5 x6 x7 x8 x9 x10 x11 x12 x13).symm.trans g⟩
theorem evermoreref3_Classes.e44 (k : Nat) (x0 : Int) (x1 : Int) (x2 : Int) (x3 : Int) (x4 : Int) (x5 : Int) (x6 : (List (List Int))) (x7 : (List Int)) (x8 : (List Int)) (x9 : (List Int)) (x10 : (List Int)) : evermoreref3_Classes.j22 (k + 1) x0 x1 x2 x3 x4 x5 x6 x7 x8 x9 x10 = evermoreref3_Classes.R k (start (stackOf 44 evermoreref3_Classes.body)) (evermoreref3_Classes.t44.fill [⟨(.int .i64), x0⟩, ⟨(.int .i64), x1⟩, ⟨(.int .i64), x2⟩, ⟨(.int .i64), x3⟩, ⟨(.int .i64), x4⟩, ⟨(.int .i64), x5⟩, ⟨(.slice (.slice (.int .i64))), x6⟩, ⟨(.slice (.int .i64)), x7⟩, ⟨(.slice (.int .i64)), x8⟩, ⟨(.slice (.int .i64)), x9⟩, ⟨(.slice (.int .i64)), x10⟩]) := by kernel_rfl
theorem evermoreref3_Classes.s44 : stackAt 44 evermoreref3_Classes.body [] = some (stackOf 44 evermoreref3_Classes.body) := by kernel_rfl
theorem evermoreref3_Classes.h44 (k : Nat) (ds : List Dat) (r : (List Int)) (h : evermoreref3_Classes.c44 k ds = some r) : ∃ k', k' < k ∧ ∃ s, stackAt 44 evermoreref3_Classes.body [] = some s ∧ evermoreref3_Classes.R k' (start s) (evermoreref3_Classes.t44.fill ds) = some r := by
  unfold evermoreref3_Classes.c44 at h
  obtain ⟨x0, d0, rfl, h0⟩ := pop_some h
  obtain ⟨x1, d1, rfl, h1⟩ := pop_some h0
  obtain ⟨x2, d2, rfl, h2⟩ := pop_some h1
  obtain ⟨x3, d3, rfl, h3⟩ := pop_some h2
  obtain ⟨x4, d4, rfl, h4⟩ := pop_some h3
  obtain ⟨x5, d5, rfl, h5⟩ := pop_some h4
  obtain ⟨x6, d6, rfl, h6⟩ := pop_some h5
  obtain ⟨x7, d7, rfl, h7⟩ := pop_some h6
  obtain ⟨x8, d8, rfl, h8⟩ := pop_some h7
  obtain ⟨x9, d9, rfl, h9⟩ := pop_some h8
  obtain ⟨x10, d10, rfl, h10⟩ := pop_some h9
  obtain ⟨rfl, g⟩ := popN_some h10
  cases k with
  | zero => cases (show none = some r from g)
  | succ k => exact ⟨k, Nat.lt_succ_self k, _, evermoreref3_Classes.s44, (evermoreref3_Classes.e44 k x0 x1 x2 x3 x4 x5 x6 x7 x8 x9 x10).symm.trans g⟩
theorem evermoreref3_Classes.e (k : Nat) (x0 : (Int × (Int × ((List (List Int)) × ((List Int) × Unit))))) : evermoreref3_Classes.f k x0 = evermoreref3_Classes.R k ([.code evermoreref3_Classes.body]) (evermoreref3_Classes.ti.fill [⟨(.pair (.int .i64) (.pair (.int .i64) (.pair (.slice (.slice (.int .i64))) (.pair (.slice (.int .i64)) .unit)))), x0⟩]) := by kernel_rfl
theorem evermoreref3_Classes.h (k : Nat) (ds : List Dat) (r : (List Int)) (h : evermoreref3_Classes.g k ds = some r) : ∃ k', k' < k ∧ evermoreref3_Classes.R k' ([.code evermoreref3_Classes.body]) (evermoreref3_Classes.ti.fill ds) = some r := by
  cases k with
  | zero => cases (show none = some r from h)
  | succ k =>
  replace h : evermoreref3_Classes.c k ds = some r := h
  unfold evermoreref3_Classes.c at h
  obtain ⟨x0, d0, rfl, h0⟩ := pop_some h
  obtain ⟨rfl, g⟩ := popN_some h0
  exact ⟨k, Nat.lt_succ_self k, (evermoreref3_Classes.e k x0).symm.trans g⟩
theorem evermoreref3_Classes.o (ds : List Dat) (r : (List Int)) (h : evermoreref3_Classes.out ds = some r) : ds = evermoreref3_Classes.rs r := by
  unfold evermoreref3_Classes.out at h
  obtain ⟨x0, d0, rfl, h0⟩ := pop_some h
  obtain ⟨rfl, g⟩ := popN_some h0
  cases g
  rfl
theorem evermoreref3_Classes.fn : FnOk Try.prog 104 Try.f104 evermoreref3_Classes.body Try.f104.ntmps 1 (fnRes Try.f104) :=
  fnOk_of (by kernel_rfl) (by kernel_rfl) (by kernel_rfl) (by kernel_rfl)
theorem evermoreref3_Classes.con' : ∀ k ds r, evermoreref3_Classes.g k ds = some r → Con Try.prog 104 1 evermoreref3_Classes.ti evermoreref3_Classes.to ds (evermoreref3_Classes.rs r) :=
  fun_ok (T := T) T_ok mixed evermoreref3_Classes.fn (env := evermoreref3_Classes.env) (tbl := evermoreref3_Classes.tbl) (gOut := evermoreref3_Classes.out) (nin := 0) (cuts := [22]) (fuel := 100000) rfl (by kernel_rfl) (by kernel_rfl) (by kernel_rfl) (fun x hx => by
    simp only [evermoreref3_Classes.tbl, List.mem_cons, List.not_mem_nil, or_false] at hx
    rcases hx with rfl | rfl | rfl | rfl | rfl
    · exact evermoreref3_Classes.h7
    · exact evermoreref3_Classes.h15
    · exact evermoreref3_Classes.h21
    · exact evermoreref3_Classes.h29
    · exact evermoreref3_Classes.h44
) evermoreref3_Classes.o evermoreref3_Classes.h (fun k _ => by unfold evermoreref3_Classes.env; exact env0_ok)
theorem evermoreref3_Classes.con (k : Nat) {x0 : (Int × (Int × ((List (List Int)) × ((List Int) × Unit))))} (r : (List Int)) (h : evermoreref3_Classes.f k x0 = some r) : Con Try.prog 104 1 evermoreref3_Classes.ti evermoreref3_Classes.to [⟨(.pair (.int .i64) (.pair (.int .i64) (.pair (.slice (.slice (.int .i64))) (.pair (.slice (.int .i64)) .unit)))), x0⟩] (evermoreref3_Classes.rs r) :=
  evermoreref3_Classes.con' (k + 1) _ r (by show evermoreref3_Classes.c k _ = some r; unfold evermoreref3_Classes.c; simp only [pop_self, popN]; exact h)
mutual
def evermoreref3_Least.l4 : Nat → Int → Int → Int → List (List (Int)) → List (Int) → Int → Int → List (Int) → List (Int) → List (List (Int)) → List (Int) → Option (Int × Int × List (List Int) × List Int)
 | 0, _, _, _, _, _, _, _, _, _, _, _ => none
 | k + 1, i5, d1_0, d1_1, d1_2, d1_3, x2_0, x2_1, class3, number4, c4, c5 =>
  if i5 < (↑number4.length : Int) then
   if 0 ≤ i5 then
   if i5 < (↑number4.length : Int) then
    evermoreref3_Least.l4 k (Go.IntKind.i64.wrap (i5 + 1)) d1_0 d1_1 d1_2 d1_3 x2_0 x2_1 class3 (number4.set i5.toNat (Int.instNegInt.1 1)) c4 c5
    else none
   else none
  else
   if 0 ≤ d1_1 then
   if d1_1 < (↑class3.length : Int) then
    if 0 ≤ class3.getD d1_1.toNat (Int.ofNat 0) then
     if class3.getD d1_1.toNat (Int.ofNat 0) < (↑number4.length : Int) then
      evermoreref3_Least.l11 k 0 d1_0 d1_1 d1_2 d1_3 x2_0 x2_1 class3 (number4.set (class3.getD d1_1.toNat (Int.ofNat 0)).toNat (Int.ofNat 0)) [d1_1] d1_0 0 c4 c5 [] []
      else none
     else none
    else none
   else none
def evermoreref3_Least.l11 : Nat → Int → Int → Int → List (List (Int)) → List (Int) → Int → Int → List (Int) → List (Int) → List (Int) → Int → Int → List (List (Int)) → List (Int) → List (List (Int)) → List (Int) → Option (Int × Int × List (List Int) × List Int)
 | 0, _, _, _, _, _, _, _, _, _, _, _, _, _, _, _, _ => none
 | k + 1, i8, d1_0, d1_1, d1_2, d1_3, x2_0, x2_1, class3, number4, row6, out7_0, out7_1, c6, c7, c8, c9 =>
  if i8 < (↑row6.length : Int) then
   if 0 ≤ d1_0 then
   if d1_0 ≤ d1_0 then
    if d1_0 * ((↑8 : Int) + 1) ≤ 1099511627776 then
     evermoreref3_Least.l15 k i8 0 d1_0 d1_1 d1_2 d1_3 x2_0 x2_1 class3 number4 row6 out7_0 out7_1 (List.replicate d1_0.toNat (Int.ofNat 0)) c6 c7 c8 c9
     else none
    else none
   else none
  else
   some (out7_0, out7_1, c8, c9)
def evermoreref3_Least.l15 : Nat → Int → Int → Int → Int → List (List (Int)) → List (Int) → Int → Int → List (Int) → List (Int) → List (Int) → Int → Int → List (Int) → List (List (Int)) → List (Int) → List (List (Int)) → List (Int) → Option (Int × Int × List (List Int) × List Int)
 | 0, _, _, _, _, _, _, _, _, _, _, _, _, _, _, _, _, _, _ => none
 | k + 1, i8, a10, d1_0, d1_1, d1_2, d1_3, x2_0, x2_1, class3, number4, row6, out7_0, out7_1, next9, c7, c8, c9, c10 =>
  if a10 < d1_0 then
   if 0 ≤ i8 then
   if i8 < (↑row6.length : Int) then
    if 0 ≤ row6.getD i8.toNat (Int.ofNat 0) then
     if row6.getD i8.toNat (Int.ofNat 0) < (↑d1_2.length : Int) then
      if 0 ≤ a10 then
       if a10 < (↑(Go.Proofs.YtiiioobebeaafaaSx.rd [] d1_2 (row6.getD i8.toNat (Int.ofNat 0))).length : Int) then
        if 0 ≤ Go.Proofs.YtiiioobebeaafaaSx.rd (Int.ofNat 0) (Go.Proofs.YtiiioobebeaafaaSx.rd [] d1_2 (row6.getD i8.toNat (Int.ofNat 0))) a10 then
         if Go.Proofs.YtiiioobebeaafaaSx.rd (Int.ofNat 0) (Go.Proofs.YtiiioobebeaafaaSx.rd [] d1_2 (row6.getD i8.toNat (Int.ofNat 0))) a10 < (↑class3.length : Int) then
          if 0 ≤ class3.getD (Go.Proofs.YtiiioobebeaafaaSx.rd (Int.ofNat 0) (Go.Proofs.YtiiioobebeaafaaSx.rd [] d1_2 (row6.getD i8.toNat (Int.ofNat 0))) a10).toNat (Int.ofNat 0) then
           if class3.getD (Go.Proofs.YtiiioobebeaafaaSx.rd (Int.ofNat 0) (Go.Proofs.YtiiioobebeaafaaSx.rd [] d1_2 (row6.getD i8.toNat (Int.ofNat 0))) a10).toNat (Int.ofNat 0) < (↑number4.length : Int) then
            if number4.getD (class3.getD (Go.Proofs.YtiiioobebeaafaaSx.rd (Int.ofNat 0) (Go.Proofs.YtiiioobebeaafaaSx.rd [] d1_2 (row6.getD i8.toNat (Int.ofNat 0))) a10).toNat (Int.ofNat 0)).toNat (Int.ofNat 0) < 0 then
              if 0 ≤ Go.Proofs.YtiiioobebeaafaaSx.rd (Int.ofNat 0) (Go.Proofs.YtiiioobebeaafaaSx.rd [] d1_2 (row6.getD i8.toNat (Int.ofNat 0))) a10 then
              if Go.Proofs.YtiiioobebeaafaaSx.rd (Int.ofNat 0) (Go.Proofs.YtiiioobebeaafaaSx.rd [] d1_2 (row6.getD i8.toNat (Int.ofNat 0))) a10 < (↑class3.length : Int) then
               if 0 ≤ class3.getD (Go.Proofs.YtiiioobebeaafaaSx.rd (Int.ofNat 0) (Go.Proofs.YtiiioobebeaafaaSx.rd [] d1_2 (row6.getD i8.toNat (Int.ofNat 0))) a10).toNat (Int.ofNat 0) then
                if class3.getD (Go.Proofs.YtiiioobebeaafaaSx.rd (Int.ofNat 0) (Go.Proofs.YtiiioobebeaafaaSx.rd [] d1_2 (row6.getD i8.toNat (Int.ofNat 0))) a10).toNat (Int.ofNat 0) < (↑number4.length : Int) then
                 if (row6 ++ [Go.Proofs.YtiiioobebeaafaaSx.rd (Int.ofNat 0) (Go.Proofs.YtiiioobebeaafaaSx.rd [] d1_2 (row6.getD i8.toNat (Int.ofNat 0))) a10]).length.blt 1000000000 = true then
                  evermoreref3_Least.j21 k i8 a10 (Go.Proofs.YtiiioobebeaafaaSx.rd (Int.ofNat 0) (Go.Proofs.YtiiioobebeaafaaSx.rd [] d1_2 (row6.getD i8.toNat (Int.ofNat 0))) a10) d1_0 d1_1 d1_2 d1_3 x2_0 x2_1 class3 (number4.set (class3.getD (Go.Proofs.YtiiioobebeaafaaSx.rd (Int.ofNat 0) (Go.Proofs.YtiiioobebeaafaaSx.rd [] d1_2 (row6.getD i8.toNat (Int.ofNat 0))) a10).toNat (Int.ofNat 0)).toNat (↑row6.length : Int)) (row6 ++ [Go.Proofs.YtiiioobebeaafaaSx.rd (Int.ofNat 0) (Go.Proofs.YtiiioobebeaafaaSx.rd [] d1_2 (row6.getD i8.toNat (Int.ofNat 0))) a10]) out7_0 out7_1 next9 c7 c8 c9 c10
                  else none
                 else none
                else none
               else none
              else none
             else
              evermoreref3_Least.j21 k i8 a10 (Go.Proofs.YtiiioobebeaafaaSx.rd (Int.ofNat 0) (Go.Proofs.YtiiioobebeaafaaSx.rd [] d1_2 (row6.getD i8.toNat (Int.ofNat 0))) a10) d1_0 d1_1 d1_2 d1_3 x2_0 x2_1 class3 number4 row6 out7_0 out7_1 next9 c7 c8 c9 c10
            else none
           else none
          else none
         else none
        else none
       else none
      else none
     else none
    else none
   else none
  else
   if (c9 ++ [next9]).length.blt 1000000000 = true then
   if 0 ≤ i8 then
    if i8 < (↑row6.length : Int) then
     if 0 ≤ row6.getD i8.toNat (Int.ofNat 0) then
      if row6.getD i8.toNat (Int.ofNat 0) < (↑d1_3.length : Int) then
       if (c10 ++ [Go.Proofs.YtiiioobebeaafaaSx.rd (Int.ofNat 0) d1_3 (row6.getD i8.toNat (Int.ofNat 0))]).length.blt 1000000000 = true then
        evermoreref3_Least.l11 k (Go.IntKind.i64.wrap (i8 + 1)) d1_0 d1_1 d1_2 d1_3 x2_0 x2_1 class3 number4 row6 out7_0 out7_1 c7 c8 (c9 ++ [next9]) (c10 ++ [Go.Proofs.YtiiioobebeaafaaSx.rd (Int.ofNat 0) d1_3 (row6.getD i8.toNat (Int.ofNat 0))])
        else none
       else none
      else none
     else none
    else none
   else none
def evermoreref3_Least.j21 : Nat → Int → Int → Int → Int → Int → List (List (Int)) → List (Int) → Int → Int → List (Int) → List (Int) → List (Int) → Int → Int → List (Int) → List (List (Int)) → List (Int) → List (List (Int)) → List (Int) → Option (Int × Int × List (List Int) × List Int)
 | 0, _, _, _, _, _, _, _, _, _, _, _, _, _, _, _, _, _, _, _ => none
 | k + 1, i8, a10, q11, d1_0, d1_1, d1_2, d1_3, x2_0, x2_1, class3, number4, row6, out7_0, out7_1, next9, c7, c8, c9, c10 =>
  if 0 ≤ q11 then
  if q11 < (↑class3.length : Int) then
   if 0 ≤ class3.getD q11.toNat (Int.ofNat 0) then
    if class3.getD q11.toNat (Int.ofNat 0) < (↑number4.length : Int) then
     if 0 ≤ a10 then
      if a10 < (↑next9.length : Int) then
       evermoreref3_Least.l15 k i8 (Go.IntKind.i64.wrap (a10 + 1)) d1_0 d1_1 d1_2 d1_3 x2_0 x2_1 class3 number4 row6 out7_0 out7_1 (next9.set a10.toNat (number4.getD (class3.getD q11.toNat (Int.ofNat 0)).toNat (Int.ofNat 0))) c7 c8 c9 c10
       else none
      else none
     else none
    else none
   else none
  else none
end
def evermoreref3_Least.f (k : Nat) (d0 : (Int × (Int × (List (List (Int)) × (List (Int) × Unit))))) : Option (Int × Int × List (List Int) × List Int) :=
 (evermoreref3_Classes.f k (d0.fst, d0.snd.fst, d0.snd.snd.fst, d0.snd.snd.snd.fst, ())).bind fun r1 =>
  if 0 ≤ (↑r1.length : Int) then
  if (↑r1.length : Int) ≤ (↑r1.length : Int) then
   if (↑r1.length : Int) * ((↑8 : Int) + 1) ≤ 1099511627776 then
    evermoreref3_Least.l4 k 0 d0.fst d0.snd.fst d0.snd.snd.fst d0.snd.snd.snd.fst 0 0 r1 (List.replicate (↑r1.length : Int).toNat (Int.ofNat 0)) [] []
    else none
   else none
  else none

noncomputable def evermoreref3_Least.body : Code := fnBody Try.f46
def evermoreref3_Least.ti : Tm := ⟨[(0, .p (.pair (.int .i64) (.pair (.int .i64) (.pair (.slice (.slice (.int .i64))) (.pair (.slice (.int .i64)) .unit)))))], []⟩
def evermoreref3_Least.to : Tm := ⟨[(0, .agg [.p (.int .i64), .p (.int .i64), .own 0, .own 1])], [.own (.slice (.int .i64)), .own (.int .i64)]⟩
def evermoreref3_Least.rs (r : Int × Int × (List (List Int)) × (List Int)) : List Dat := [⟨(.int .i64), r.1⟩, ⟨(.int .i64), r.2.1⟩, ⟨(.slice (.slice (.int .i64))), r.2.2.1⟩, ⟨(.slice (.int .i64)), r.2.2.2⟩]
def evermoreref3_Least.out (ds : List Dat) : Option (Int × Int × (List (List Int)) × (List Int)) := pop (.int .i64) ds fun x0 ds => pop (.int .i64) ds fun x1 ds => pop (.slice (.slice (.int .i64))) ds fun x2 ds => pop (.slice (.int .i64)) ds fun x3 ds => popN ds (some (x0, x1, x2, x3))
def evermoreref3_Least.c (k : Nat) (ds : List Dat) : Option (Int × Int × (List (List Int)) × (List Int)) := pop (.pair (.int .i64) (.pair (.int .i64) (.pair (.slice (.slice (.int .i64))) (.pair (.slice (.int .i64)) .unit)))) ds fun x0 ds => popN ds (evermoreref3_Least.f k x0)
def evermoreref3_Least.g : Nat → List Dat → Option (Int × Int × (List (List Int)) × (List Int))
 | 0, _ => none
 | k + 1, ds => evermoreref3_Least.c k ds
def evermoreref3_Least.env (k : Nat) : Nat → List SV → List Chunk → KT (Int × Int × (List (List Int)) × (List Int)) → Option (Int × Int × (List (List Int)) × (List Int)) := (envC 104 1 evermoreref3_Classes.ti evermoreref3_Classes.to (fun ds K => pop (.pair (.int .i64) (.pair (.int .i64) (.pair (.slice (.slice (.int .i64))) (.pair (.slice (.int .i64)) .unit)))) ds fun x0 ds => popN ds ((evermoreref3_Classes.f k x0).bind fun r => K (evermoreref3_Classes.rs r))) env0)
def evermoreref3_Least.t9 : Tm := ⟨[(1, .ptr 0 0), (2, .ptr 1 0), (3, .own 2), (4, .own 3), (5, .p (.int .i64))], [.box [.p (.int .i64), .p (.int .i64), .p (.slice (.slice (.int .i64))), .p (.slice (.int .i64))] 58, .box [.p (.int .i64), .p (.int .i64), .own 4, .own 5] 58, .own (.int .i64), .own (.int .i64), .own (.slice (.int .i64)), .own (.int .i64)]⟩
def evermoreref3_Least.c9 (k : Nat) (ds : List Dat) : Option (Int × Int × (List (List Int)) × (List Int)) := pop (.int .i64) ds fun x0 ds => pop (.int .i64) ds fun x1 ds => pop (.int .i64) ds fun x2 ds => pop (.slice (.slice (.int .i64))) ds fun x3 ds => pop (.slice (.int .i64)) ds fun x4 ds => pop (.int .i64) ds fun x5 ds => pop (.int .i64) ds fun x6 ds => pop (.slice (.int .i64)) ds fun x7 ds => pop (.slice (.int .i64)) ds fun x8 ds => pop (.slice (.slice (.int .i64))) ds fun x9 ds => pop (.slice (.int .i64)) ds fun x10 ds => popN ds (evermoreref3_Least.l4 k x0 x1 x2 x3 x4 x5 x6 x7 x8 x9 x10)
def evermoreref3_Least.t23 : Tm := ⟨[(1, .ptr 0 0), (2, .ptr 1 0), (3, .own 2), (4, .own 3), (6, .own 4), (7, .ptr 5 0), (8, .p (.int .i64))], [.box [.p (.int .i64), .p (.int .i64), .p (.slice (.slice (.int .i64))), .p (.slice (.int .i64))] 58, .box [.p (.int .i64), .p (.int .i64), .own 6, .own 7] 58, .own (.int .i64), .own (.int .i64), .own (.int .i64), .box [.p (.int .i64), .p (.int .i64), .own 8, .own 9] 58, .own (.slice (.int .i64)), .own (.int .i64), .own (.slice (.int .i64)), .own (.int .i64)]⟩
def evermoreref3_Least.c23 (k : Nat) (ds : List Dat) : Option (Int × Int × (List (List Int)) × (List Int)) := pop (.int .i64) ds fun x0 ds => pop (.int .i64) ds fun x1 ds => pop (.int .i64) ds fun x2 ds => pop (.slice (.slice (.int .i64))) ds fun x3 ds => pop (.slice (.int .i64)) ds fun x4 ds => pop (.int .i64) ds fun x5 ds => pop (.int .i64) ds fun x6 ds => pop (.slice (.int .i64)) ds fun x7 ds => pop (.slice (.int .i64)) ds fun x8 ds => pop (.slice (.int .i64)) ds fun x9 ds => pop (.int .i64) ds fun x10 ds => pop (.int .i64) ds fun x11 ds => pop (.slice (.slice (.int .i64))) ds fun x12 ds => pop (.slice (.int .i64)) ds fun x13 ds => pop (.slice (.slice (.int .i64))) ds fun x14 ds => pop (.slice (.int .i64)) ds fun x15 ds => popN ds (evermoreref3_Least.l11 k x0 x1 x2 x3 x4 x5 x6 x7 x8 x9 x10 x11 x12 x13 x14 x15)
def evermoreref3_Least.t31 : Tm := ⟨[(1, .ptr 0 0), (2, .ptr 1 0), (3, .own 2), (4, .own 3), (6, .own 4), (7, .ptr 5 0), (8, .p (.int .i64)), (9, .own 6), (10, .p (.int .i64))], [.box [.p (.int .i64), .p (.int .i64), .p (.slice (.slice (.int .i64))), .p (.slice (.int .i64))] 58, .box [.p (.int .i64), .p (.int .i64), .own 7, .own 8] 58, .own (.int .i64), .own (.int .i64), .own (.int .i64), .box [.p (.int .i64), .p (.int .i64), .own 9, .own 10] 58, .own (.int .i64), .own (.slice (.int .i64)), .own (.int .i64), .own (.slice (.int .i64)), .own (.int .i64)]⟩
def evermoreref3_Least.c31 (k : Nat) (ds : List Dat) : Option (Int × Int × (List (List Int)) × (List Int)) := pop (.int .i64) ds fun x0 ds => pop (.int .i64) ds fun x1 ds => pop (.int .i64) ds fun x2 ds => pop (.int .i64) ds fun x3 ds => pop (.slice (.slice (.int .i64))) ds fun x4 ds => pop (.slice (.int .i64)) ds fun x5 ds => pop (.int .i64) ds fun x6 ds => pop (.int .i64) ds fun x7 ds => pop (.slice (.int .i64)) ds fun x8 ds => pop (.slice (.int .i64)) ds fun x9 ds => pop (.slice (.int .i64)) ds fun x10 ds => pop (.int .i64) ds fun x11 ds => pop (.int .i64) ds fun x12 ds => pop (.slice (.int .i64)) ds fun x13 ds => pop (.slice (.slice (.int .i64))) ds fun x14 ds => pop (.slice (.int .i64)) ds fun x15 ds => pop (.slice (.slice (.int .i64))) ds fun x16 ds => pop (.slice (.int .i64)) ds fun x17 ds => popN ds (evermoreref3_Least.l15 k x0 x1 x2 x3 x4 x5 x6 x7 x8 x9 x10 x11 x12 x13 x14 x15 x16 x17)
def evermoreref3_Least.t42 : Tm := ⟨[(1, .ptr 0 0), (2, .ptr 1 0), (3, .own 2), (4, .own 3), (6, .own 4), (7, .ptr 5 0), (8, .p (.int .i64)), (9, .own 6), (10, .p (.int .i64)), (11, .p (.int .i64))], [.box [.p (.int .i64), .p (.int .i64), .p (.slice (.slice (.int .i64))), .p (.slice (.int .i64))] 58, .box [.p (.int .i64), .p (.int .i64), .own 7, .own 8] 58, .own (.int .i64), .own (.int .i64), .own (.int .i64), .box [.p (.int .i64), .p (.int .i64), .own 9, .own 10] 58, .own (.int .i64), .own (.slice (.int .i64)), .own (.int .i64), .own (.slice (.int .i64)), .own (.int .i64)]⟩
def evermoreref3_Least.c42 (k : Nat) (ds : List Dat) : Option (Int × Int × (List (List Int)) × (List Int)) := pop (.int .i64) ds fun x0 ds => pop (.int .i64) ds fun x1 ds => pop (.int .i64) ds fun x2 ds => pop (.int .i64) ds fun x3 ds => pop (.int .i64) ds fun x4 ds => pop (.slice (.slice (.int .i64))) ds fun x5 ds => pop (.slice (.int .i64)) ds fun x6 ds => pop (.int .i64) ds fun x7 ds => pop (.int .i64) ds fun x8 ds => pop (.slice (.int .i64)) ds fun x9 ds => pop (.slice (.int .i64)) ds fun x10 ds => pop (.slice (.int .i64)) ds fun x11 ds => pop (.int .i64) ds fun x12 ds => pop (.int .i64) ds fun x13 ds => pop (.slice (.int .i64)) ds fun x14 ds => pop (.slice (.slice (.int .i64))) ds fun x15 ds => pop (.slice (.int .i64)) ds fun x16 ds => pop (.slice (.slice (.int .i64))) ds fun x17 ds => pop (.slice (.int .i64)) ds fun x18 ds => popN ds (evermoreref3_Least.j21 k x0 x1 x2 x3 x4 x5 x6 x7 x8 x9 x10 x11 x12 x13 x14 x15 x16 x17 x18)
def evermoreref3_Least.tbl : List (Nat × Tm × (Nat → List Dat → Option (Int × Int × (List (List Int)) × (List Int)))) := [(9, evermoreref3_Least.t9, evermoreref3_Least.c9), (23, evermoreref3_Least.t23, evermoreref3_Least.c23), (31, evermoreref3_Least.t31, evermoreref3_Least.c31), (42, evermoreref3_Least.t42, evermoreref3_Least.c42)]
noncomputable abbrev evermoreref3_Least.R (k : Nat) := run T (evermoreref3_Least.env k) Try.f46.ntmps (cutE 0 evermoreref3_Least.tbl k) (finE 0 evermoreref3_Least.to evermoreref3_Least.out) (fnRes Try.f46) [21] 100000 true
theorem evermoreref3_Least.e9 (k : Nat) (x0 : Int) (x1 : Int) (x2 : Int) (x3 : (List (List Int))) (x4 : (List Int)) (x5 : Int) (x6 : Int) (x7 : (List Int)) (x8 : (List Int)) (x9 : (List (List Int))) (x10 : (List Int)) : evermoreref3_Least.l4 (k + 1) x0 x1 x2 x3 x4 x5 x6 x7 x8 x9 x10 = evermoreref3_Least.R k (start (stackOf 9 evermoreref3_Least.body)) (evermoreref3_Least.t9.fill [⟨(.int .i64), x0⟩, ⟨(.int .i64), x1⟩, ⟨(.int .i64), x2⟩, ⟨(.slice (.slice (.int .i64))), x3⟩, ⟨(.slice (.int .i64)), x4⟩, ⟨(.int .i64), x5⟩, ⟨(.int .i64), x6⟩, ⟨(.slice (.int .i64)), x7⟩, ⟨(.slice (.int .i64)), x8⟩, ⟨(.slice (.slice (.int .i64))), x9⟩, ⟨(.slice (.int .i64)), x10⟩]) := by kernel_rfl
theorem evermoreref3_Least.s9 : stackAt 9 evermoreref3_Least.body [] = some (stackOf 9 evermoreref3_Least.body) := by kernel_rfl
theorem evermoreref3_Least.h9 (k : Nat) (ds : List Dat) (r : Int × Int × (List (List Int)) × (List Int)) (h : evermoreref3_Least.c9 k ds = some r) : ∃ k', k' < k ∧ ∃ s, stackAt 9 evermoreref3_Least.body [] = some s ∧ evermoreref3_Least.R k' (start s) (evermoreref3_Least.t9.fill ds) = some r := by
  unfold evermoreref3_Least.c9 at h
  obtain ⟨x0, d0, rfl, h0⟩ := pop_some h
  obtain ⟨x1, d1, rfl, h1⟩ := pop_some h0
  obtain ⟨x2, d2, rfl, h2⟩ := pop_some h1
  obtain ⟨x3, d3, rfl, h3⟩ := pop_some h2
  obtain ⟨x4, d4, rfl, h4⟩ := pop_some h3
  obtain ⟨x5, d5, rfl, h5⟩ := pop_some h4
  obtain ⟨x6, d6, rfl, h6⟩ := pop_some h5
  obtain ⟨x7, d7, rfl, h7⟩ := pop_some h6
  obtain ⟨x8, d8, rfl, h8⟩ := pop_some h7
  obtain ⟨x9, d9, rfl, h9⟩ := pop_some h8
  obtain ⟨x10, d10, rfl, h10⟩ := pop_some h9
  obtain ⟨rfl, g⟩ := popN_some h10
  cases k with
  | zero => cases (show none = some r from g)
  | succ k => exact ⟨k, Nat.lt_succ_self k, _, evermoreref3_Least.s9, (evermoreref3_Least.e9 k x0 x1 x2 x3 x4 x5 x6 x7 x8 x9 x10).symm.trans g⟩
theorem evermoreref3_Least.e23 (k : Nat) (x0 : Int) (x1 : Int) (x2 : Int) (x3 : (List (List Int))) (x4 : (List Int)) (x5 : Int) (x6 : Int) (x7 : (List Int)) (x8 : (List Int)) (x9 : (List Int)) (x10 : Int) (x11 : Int) (x12 : (List (List Int))) (x13 : (List Int)) (x14 : (List (List Int))) (x15 : (List Int)) : evermoreref3_Least.l11 (k + 1) x0 x1 x2 x3 x4 x5 x6 x7 x8 x9 x10 x11 x12 x13 x14 x15 = evermoreref3_Least.R k (start (stackOf 23 evermoreref3_Least.body)) (evermoreref3_Least.t23.fill [⟨(.int .i64), x0⟩, ⟨(.int .i64), x1⟩, ⟨(.int .i64), x2⟩, ⟨(.slice (.slice (.int .i64))), x3⟩, ⟨(.slice (.int .i64)), x4⟩, ⟨(.int .i64), x5⟩, ⟨(.int .i64), x6⟩, ⟨(.slice (.int .i64)), x7⟩, ⟨(.slice (.int .i64)), x8⟩, ⟨(.slice (.int .i64)), x9⟩, ⟨(.int .i64), x10⟩, ⟨(.int .i64), x11⟩, ⟨(.slice (.slice (.int .i64))), x12⟩, ⟨(.slice (.int .i64)), x13⟩, ⟨(.slice (.slice (.int .i64))), x14⟩, ⟨(.slice (.int .i64)), x15⟩]) := by kernel_rfl
theorem evermoreref3_Least.s23 : stackAt 23 evermoreref3_Least.body [] = some (stackOf 23 evermoreref3_Least.body) := by kernel_rfl
theorem evermoreref3_Least.h23 (k : Nat) (ds : List Dat) (r : Int × Int × (List (List Int)) × (List Int)) (h : evermoreref3_Least.c23 k ds = some r) : ∃ k', k' < k ∧ ∃ s, stackAt 23 evermoreref3_Least.body [] = some s ∧ evermoreref3_Least.R k' (start s) (evermoreref3_Least.t23.fill ds) = some r := by
  unfold evermoreref3_Least.c23 at h
  obtain ⟨x0, d0, rfl, h0⟩ := pop_some h
  obtain ⟨x1, d1, rfl, h1⟩ := pop_some h0
  obtain ⟨x2, d2, rfl, h2⟩ := pop_some h1
  obtain ⟨x3, d3, rfl, h3⟩ := pop_some h2
  obtain ⟨x4, d4, rfl, h4⟩ := pop_some h3
  obtain ⟨x5, d5, rfl, h5⟩ := pop_some h4
  obtain ⟨x6, d6, rfl, h6⟩ := pop_some h5
  obtain ⟨x7, d7, rfl, h7⟩ := pop_some h6
  obtain ⟨x8, d8, rfl, h8⟩ := pop_some h7
  obtain ⟨x9, d9, rfl, h9⟩ := pop_some h8
  obtain ⟨x10, d10, rfl, h10⟩ := pop_some h9
  obtain ⟨x11, d11, rfl, h11⟩ := pop_some h10
  obtain ⟨x12, d12, rfl, h12⟩ := pop_some h11
  obtain ⟨x13, d13, rfl, h13⟩ := pop_some h12
  obtain ⟨x14, d14, rfl, h14⟩ := pop_some h13
  obtain ⟨x15, d15, rfl, h15⟩ := pop_some h14
  obtain ⟨rfl, g⟩ := popN_some h15
  cases k with
  | zero => cases (show none = some r from g)
  | succ k => exact ⟨k, Nat.lt_succ_self k, _, evermoreref3_Least.s23, (evermoreref3_Least.e23 k x0 x1 x2 x3 x4 x5 x6 x7 x8 x9 x10 x11 x12 x13 x14 x15).symm.trans g⟩
theorem evermoreref3_Least.e31 (k : Nat) (x0 : Int) (x1 : Int) (x2 : Int) (x3 : Int) (x4 : (List (List Int))) (x5 : (List Int)) (x6 : Int) (x7 : Int) (x8 : (List Int)) (x9 : (List Int)) (x10 : (List Int)) (x11 : Int) (x12 : Int) (x13 : (List Int)) (x14 : (List (List Int))) (x15 : (List Int)) (x16 : (List (List Int))) (x17 : (List Int)) : evermoreref3_Least.l15 (k + 1) x0 x1 x2 x3 x4 x5 x6 x7 x8 x9 x10 x11 x12 x13 x14 x15 x16 x17 = evermoreref3_Least.R k (start (stackOf 31 evermoreref3_Least.body)) (evermoreref3_Least.t31.fill [⟨(.int .i64), x0⟩, ⟨(.int .i64), x1⟩, ⟨(.int .i64), x2⟩, ⟨(.int .i64), x3⟩, ⟨(.slice (.slice (.int .i64))), x4⟩, ⟨(.slice (.int .i64)), x5⟩, ⟨(.int .i64), x6⟩, ⟨(.int .i64), x7⟩, ⟨(.slice (.int .i64)), x8⟩, ⟨(.slice (.int .i64)), x9⟩, ⟨(.slice (.int .i64)), x10⟩, ⟨(.int .i64), x11⟩, ⟨(.int .i64), x12⟩, ⟨(.slice (.int .i64)), x13⟩, ⟨(.slice (.slice (.int .i64))), x14⟩, ⟨(.slice (.int .i64)), x15⟩, ⟨(.slice (.slice (.int .i64))), x16⟩, ⟨(.slice (.int .i64)), x17⟩]) := by kernel_rfl
theorem evermoreref3_Least.s31 : stackAt 31 evermoreref3_Least.body [] = some (stackOf 31 evermoreref3_Least.body) := by kernel_rfl
theorem evermoreref3_Least.h31 (k : Nat) (ds : List Dat) (r : Int × Int × (List (List Int)) × (List Int)) (h : evermoreref3_Least.c31 k ds = some r) : ∃ k', k' < k ∧ ∃ s, stackAt 31 evermoreref3_Least.body [] = some s ∧ evermoreref3_Least.R k' (start s) (evermoreref3_Least.t31.fill ds) = some r := by
  unfold evermoreref3_Least.c31 at h
  obtain ⟨x0, d0, rfl, h0⟩ := pop_some h
  obtain ⟨x1, d1, rfl, h1⟩ := pop_some h0
  obtain ⟨x2, d2, rfl, h2⟩ := pop_some h1
  obtain ⟨x3, d3, rfl, h3⟩ := pop_some h2
  obtain ⟨x4, d4, rfl, h4⟩ := pop_some h3
  obtain ⟨x5, d5, rfl, h5⟩ := pop_some h4
  obtain ⟨x6, d6, rfl, h6⟩ := pop_some h5
  obtain ⟨x7, d7, rfl, h7⟩ := pop_some h6
  obtain ⟨x8, d8, rfl, h8⟩ := pop_some h7
  obtain ⟨x9, d9, rfl, h9⟩ := pop_some h8
  obtain ⟨x10, d10, rfl, h10⟩ := pop_some h9
  obtain ⟨x11, d11, rfl, h11⟩ := pop_some h10
  obtain ⟨x12, d12, rfl, h12⟩ := pop_some h11
  obtain ⟨x13, d13, rfl, h13⟩ := pop_some h12
  obtain ⟨x14, d14, rfl, h14⟩ := pop_some h13
  obtain ⟨x15, d15, rfl, h15⟩ := pop_some h14
  obtain ⟨x16, d16, rfl, h16⟩ := pop_some h15
  obtain ⟨x17, d17, rfl, h17⟩ := pop_some h16
  obtain ⟨rfl, g⟩ := popN_some h17
  cases k with
  | zero => cases (show none = some r from g)
  | succ k => exact ⟨k, Nat.lt_succ_self k, _, evermoreref3_Least.s31, (evermoreref3_Least.e31 k x0 x1 x2 x3 x4 x5 x6 x7 x8 x9 x10 x11 x12 x13 x14 x15 x16 x17).symm.trans g⟩
theorem evermoreref3_Least.e42 (k : Nat) (x0 : Int) (x1 : Int) (x2 : Int) (x3 : Int) (x4 : Int) (x5 : (List (List Int))) (x6 : (List Int)) (x7 : Int) (x8 : Int) (x9 : (List Int)) (x10 : (List Int)) (x11 : (List Int)) (x12 : Int) (x13 : Int) (x14 : (List Int)) (x15 : (List (List Int))) (x16 : (List Int)) (x17 : (List (List Int))) (x18 : (List Int)) : evermoreref3_Least.j21 (k + 1) x0 x1 x2 x3 x4 x5 x6 x7 x8 x9 x10 x11 x12 x13 x14 x15 x16 x17 x18 = evermoreref3_Least.R k (start (stackOf 42 evermoreref3_Least.body)) (evermoreref3_Least.t42.fill [⟨(.int .i64), x0⟩, ⟨(.int .i64), x1⟩, ⟨(.int .i64), x2⟩, ⟨(.int .i64), x3⟩, ⟨(.int .i64), x4⟩, ⟨(.slice (.slice (.int .i64))), x5⟩, ⟨(.slice (.int .i64)), x6⟩, ⟨(.int .i64), x7⟩, ⟨(.int .i64), x8⟩, ⟨(.slice (.int .i64)), x9⟩, ⟨(.slice (.int .i64)), x10⟩, ⟨(.slice (.int .i64)), x11⟩, ⟨(.int .i64), x12⟩, ⟨(.int .i64), x13⟩, ⟨(.slice (.int .i64)), x14⟩, ⟨(.slice (.slice (.int .i64))), x15⟩, ⟨(.slice (.int .i64)), x16⟩, ⟨(.slice (.slice (.int .i64))), x17⟩, ⟨(.slice (.int .i64)), x18⟩]) := by kernel_rfl
theorem evermoreref3_Least.s42 : stackAt 42 evermoreref3_Least.body [] = some (stackOf 42 evermoreref3_Least.body) := by kernel_rfl
theorem evermoreref3_Least.h42 (k : Nat) (ds : List Dat) (r : Int × Int × (List (List Int)) × (List Int)) (h : evermoreref3_Least.c42 k ds = some r) : ∃ k', k' < k ∧ ∃ s, stackAt 42 evermoreref3_Least.body [] = some s ∧ evermoreref3_Least.R k' (start s) (evermoreref3_Least.t42.fill ds) = some r := by
  unfold evermoreref3_Least.c42 at h
  obtain ⟨x0, d0, rfl, h0⟩ := pop_some h
  obtain ⟨x1, d1, rfl, h1⟩ := pop_some h0
  obtain ⟨x2, d2, rfl, h2⟩ := pop_some h1
  obtain ⟨x3, d3, rfl, h3⟩ := pop_some h2
  obtain ⟨x4, d4, rfl, h4⟩ := pop_some h3
  obtain ⟨x5, d5, rfl, h5⟩ := pop_some h4
  obtain ⟨x6, d6, rfl, h6⟩ := pop_some h5
  obtain ⟨x7, d7, rfl, h7⟩ := pop_some h6
  obtain ⟨x8, d8, rfl, h8⟩ := pop_some h7
  obtain ⟨x9, d9, rfl, h9⟩ := pop_some h8
  obtain ⟨x10, d10, rfl, h10⟩ := pop_some h9
  obtain ⟨x11, d11, rfl, h11⟩ := pop_some h10
  obtain ⟨x12, d12, rfl, h12⟩ := pop_some h11
  obtain ⟨x13, d13, rfl, h13⟩ := pop_some h12
  obtain ⟨x14, d14, rfl, h14⟩ := pop_some h13
  obtain ⟨x15, d15, rfl, h15⟩ := pop_some h14
  obtain ⟨x16, d16, rfl, h16⟩ := pop_some h15
  obtain ⟨x17, d17, rfl, h17⟩ := pop_some h16
  obtain ⟨x18, d18, rfl, h18⟩ := pop_some h17
  obtain ⟨rfl, g⟩ := popN_some h18
  cases k with
  | zero => cases (show none = some r from g)
  | succ k => exact ⟨k, Nat.lt_succ_self k, _, evermoreref3_Least.s42, (evermoreref3_Least.e42 k x0 x1 x2 x3 x4 x5 x6 x7 x8 x9 x10 x11 x12 x13 x14 x15 x16 x17 x18).symm.trans g⟩
theorem evermoreref3_Least.e (k : Nat) (x0 : (Int × (Int × ((List (List Int)) × ((List Int) × Unit))))) : evermoreref3_Least.f k x0 = evermoreref3_Least.R k ([.code evermoreref3_Least.body]) (evermoreref3_Least.ti.fill [⟨(.pair (.int .i64) (.pair (.int .i64) (.pair (.slice (.slice (.int .i64))) (.pair (.slice (.int .i64)) .unit)))), x0⟩]) := by kernel_rfl
theorem evermoreref3_Least.h (k : Nat) (ds : List Dat) (r : Int × Int × (List (List Int)) × (List Int)) (h : evermoreref3_Least.g k ds = some r) : ∃ k', k' < k ∧ evermoreref3_Least.R k' ([.code evermoreref3_Least.body]) (evermoreref3_Least.ti.fill ds) = some r := by
  cases k with
  | zero => cases (show none = some r from h)
  | succ k =>
  replace h : evermoreref3_Least.c k ds = some r := h
  unfold evermoreref3_Least.c at h
  obtain ⟨x0, d0, rfl, h0⟩ := pop_some h
  obtain ⟨rfl, g⟩ := popN_some h0
  exact ⟨k, Nat.lt_succ_self k, (evermoreref3_Least.e k x0).symm.trans g⟩
theorem evermoreref3_Least.o (ds : List Dat) (r : Int × Int × (List (List Int)) × (List Int)) (h : evermoreref3_Least.out ds = some r) : ds = evermoreref3_Least.rs r := by
  unfold evermoreref3_Least.out at h
  obtain ⟨x0, d0, rfl, h0⟩ := pop_some h
  obtain ⟨x1, d1, rfl, h1⟩ := pop_some h0
  obtain ⟨x2, d2, rfl, h2⟩ := pop_some h1
  obtain ⟨x3, d3, rfl, h3⟩ := pop_some h2
  obtain ⟨rfl, g⟩ := popN_some h3
  cases g
  rfl
theorem evermoreref3_Least.fn : FnOk Try.prog 46 Try.f46 evermoreref3_Least.body Try.f46.ntmps 1 (fnRes Try.f46) :=
  fnOk_of (by kernel_rfl) (by kernel_rfl) (by kernel_rfl) (by kernel_rfl)
theorem evermoreref3_Least.con' : ∀ k ds r, evermoreref3_Least.g k ds = some r → Con Try.prog 46 1 evermoreref3_Least.ti evermoreref3_Least.to ds (evermoreref3_Least.rs r) :=
  fun_ok (T := T) T_ok mixed evermoreref3_Least.fn (env := evermoreref3_Least.env) (tbl := evermoreref3_Least.tbl) (gOut := evermoreref3_Least.out) (nin := 0) (cuts := [21]) (fuel := 100000) rfl (by kernel_rfl) (by kernel_rfl) (by kernel_rfl) (fun x hx => by
    simp only [evermoreref3_Least.tbl, List.mem_cons, List.not_mem_nil, or_false] at hx
    rcases hx with rfl | rfl | rfl | rfl
    · exact evermoreref3_Least.h9
    · exact evermoreref3_Least.h23
    · exact evermoreref3_Least.h31
    · exact evermoreref3_Least.h42
) evermoreref3_Least.o evermoreref3_Least.h (fun k _ => by unfold evermoreref3_Least.env; exact (envC_ok (fun ds K r h => by
    obtain ⟨x0, d0, rfl, h0⟩ := pop_some h
    obtain ⟨rfl, g⟩ := popN_some h0
    obtain ⟨r1, h1, h2⟩ := bind_some g
    exact ⟨_, h2, evermoreref3_Classes.con k _ h1⟩) env0_ok))
theorem evermoreref3_Least.con (k : Nat) {x0 : (Int × (Int × ((List (List Int)) × ((List Int) × Unit))))} (r : Int × Int × (List (List Int)) × (List Int)) (h : evermoreref3_Least.f k x0 = some r) : Con Try.prog 46 1 evermoreref3_Least.ti evermoreref3_Least.to [⟨(.pair (.int .i64) (.pair (.int .i64) (.pair (.slice (.slice (.int .i64))) (.pair (.slice (.int .i64)) .unit)))), x0⟩] (evermoreref3_Least.rs r) :=
  evermoreref3_Least.con' (k + 1) _ r (by show evermoreref3_Least.c k _ = some r; unfold evermoreref3_Least.c; simp only [pop_self, popN]; exact h)
mutual
def evermoreref32_Wide.l4 : Nat → Bool → Int → Int → Int → Int → List (List (Int)) → List (Int) → Int → Int → List (List (Bool)) → List (List (Int)) → List (Int) → Option (Int × Int × List (List Int) × List Int)
 | 0, _, _, _, _, _, _, _, _, _, _, _, _ => none
 | k + 1, up1, n5, q7, d2_0, d2_1, d2_2, d2_3, x4_0, x4_1, lead6, c3, c4 =>
  if q7 < n5 then
   if 0 ≤ n5 then
   if n5 ≤ n5 then
    if n5 * ((↑1 : Int) + 1) ≤ 1099511627776 then
     if 0 ≤ q7 then
      if q7 < (↑(List.replicate n5.toNat false).length : Int) then
       evermoreref32_Wide.l9 k up1 n5 q7 true d2_0 d2_1 d2_2 d2_3 x4_0 x4_1 lead6 ((List.replicate n5.toNat false).set q7.toNat true) c3 c4
       else none
      else none
     else none
    else none
   else none
  else
   if 0 ≤ 32 then
   if 32 ≤ 32 then
    if 32 * ((↑8 : Int) + 1) ≤ 1099511627776 then
     if 0 ≤ d2_1 then
      if d2_1 < (↑lead6.length : Int) then
       (evermoreref32_set.f k (lead6.getD d2_1.toNat [])).bind fun r8 =>
         if 0 ≤ r8 then
         if r8 < (↑(List.replicate (Int.toNat 32) (Int.ofNat 0)).length : Int) then
          evermoreref32_Wide.l26 k up1 n5 0 d2_0 d2_1 d2_2 d2_3 x4_0 x4_1 lead6 ((List.replicate (Int.toNat 32) (Int.ofNat 0)).set r8.toNat (Int.ofNat 1)) [r8] d2_0 0 c3 c4 [] []
          else none
         else none
       else none
      else none
     else none
    else none
   else none
def evermoreref32_Wide.l9 : Nat → Bool → Int → Int → Bool → Int → Int → List (List (Int)) → List (Int) → Int → Int → List (List (Bool)) → List (Bool) → List (List (Int)) → List (Int) → Option (Int × Int × List (List Int) × List Int)
 | 0, _, _, _, _, _, _, _, _, _, _, _, _, _, _ => none
 | k + 1, up1, n5, q7, again9, d2_0, d2_1, d2_2, d2_3, x4_0, x4_1, lead6, l8, c4, c5 =>
  if again9 = true then
   if up1 = true then
    if (lead6 ++ [l8]).length.blt 1000000000 = true then
    evermoreref32_Wide.l4 k up1 n5 (Go.IntKind.i64.wrap (q7 + 1)) d2_0 d2_1 d2_2 d2_3 x4_0 x4_1 (lead6 ++ [l8]) c4 c5
    else none
   else
    evermoreref32_Wide.l12 k up1 n5 q7 false 0 d2_0 d2_1 d2_2 d2_3 x4_0 x4_1 lead6 l8 c4 c5
  else
   if (lead6 ++ [l8]).length.blt 1000000000 = true then
   evermoreref32_Wide.l4 k up1 n5 (Go.IntKind.i64.wrap (q7 + 1)) d2_0 d2_1 d2_2 d2_3 x4_0 x4_1 (lead6 ++ [l8]) c4 c5
   else none
def evermoreref32_Wide.l26 : Nat → Bool → Int → Int → Int → Int → List (List (Int)) → List (Int) → Int → Int → List (List (Bool)) → List (Int) → List (Int) → Int → Int → List (List (Int)) → List (Int) → List (List (Int)) → List (Int) → Option (Int × Int × List (List Int) × List Int)
 | 0, _, _, _, _, _, _, _, _, _, _, _, _, _, _, _, _, _, _ => none
 | k + 1, up1, n5, i16, d2_0, d2_1, d2_2, d2_3, x4_0, x4_1, lead6, number12, row14, out15_0, out15_1, c6, c7, c8, c9 =>
  if i16 < (↑row14.length : Int) then
   evermoreref32_Wide.l30 k up1 n5 i16 0 d2_0 d2_1 d2_2 d2_3 x4_0 x4_1 lead6 number12 row14 out15_0 out15_1 [] c6 c7 c8 c9
  else
   (evermoreref3_Least.f k (out15_0, out15_1, c8, c9, ())).bind fun r3 =>
    some (r3.fst, r3.snd.fst, r3.snd.snd.fst, r3.snd.snd.snd)
def evermoreref32_Wide.l12 : Nat → Bool → Int → Int → Bool → Int → Int → Int → List (List (Int)) → List (Int) → Int → Int → List (List (Bool)) → List (Bool) → List (List (Int)) → List (Int) → Option (Int × Int × List (List Int) × List Int)
 | 0, _, _, _, _, _, _, _, _, _, _, _, _, _, _, _ => none
 | k + 1, up1, n5, q7, again9, p10, d2_0, d2_1, d2_2, d2_3, x4_0, x4_1, lead6, l8, c4, c5 =>
  if p10 < n5 then
   evermoreref32_Wide.l15 k up1 n5 q7 again9 p10 0 d2_0 d2_1 d2_2 d2_3 x4_0 x4_1 lead6 l8 c4 c5
  else
   evermoreref32_Wide.l9 k up1 n5 q7 again9 d2_0 d2_1 d2_2 d2_3 x4_0 x4_1 lead6 l8 c4 c5
def evermoreref32_Wide.l30 : Nat → Bool → Int → Int → Int → Int → Int → List (List (Int)) → List (Int) → Int → Int → List (List (Bool)) → List (Int) → List (Int) → Int → Int → List (Int) → List (List (Int)) → List (Int) → List (List (Int)) → List (Int) → Option (Int × Int × List (List Int) × List Int)
 | 0, _, _, _, _, _, _, _, _, _, _, _, _, _, _, _, _, _, _, _, _ => none
 | k + 1, up1, n5, i16, a18, d2_0, d2_1, d2_2, d2_3, x4_0, x4_1, lead6, number12, row14, out15_0, out15_1, next17, c7, c8, c9, c10 =>
  if a18 < d2_0 then
   if up1 = true then
    if 0 ≤ i16 then
    if i16 < (↑row14.length : Int) then
     evermoreref32_Wide.j35 k up1 n5 i16 a18 (row14.getD i16.toNat (Int.ofNat 0)) d2_0 d2_1 d2_2 d2_3 x4_0 x4_1 lead6 number12 row14 out15_0 out15_1 next17 c7 c8 c9 c10
     else none
    else none
   else
    evermoreref32_Wide.j35 k up1 n5 i16 a18 0 d2_0 d2_1 d2_2 d2_3 x4_0 x4_1 lead6 number12 row14 out15_0 out15_1 next17 c7 c8 c9 c10
  else
   if (c9 ++ [next17]).length.blt 1000000000 = true then
   evermoreref32_Wide.l48 k up1 n5 i16 0 0 d2_0 d2_1 d2_2 d2_3 x4_0 x4_1 lead6 number12 row14 out15_0 out15_1 c7 c8 (c9 ++ [next17]) c10
   else none
def evermoreref32_Wide.l15 : Nat → Bool → Int → Int → Bool → Int → Int → Int → Int → List (List (Int)) → List (Int) → Int → Int → List (List (Bool)) → List (Bool) → List (List (Int)) → List (Int) → Option (Int × Int × List (List Int) × List Int)
 | 0, _, _, _, _, _, _, _, _, _, _, _, _, _, _, _, _ => none
 | k + 1, up1, n5, q7, again9, p10, a11, d2_0, d2_1, d2_2, d2_3, x4_0, x4_1, lead6, l8, c4, c5 =>
  if a11 < d2_0 then
   if 0 ≤ p10 then
   if p10 < (↑l8.length : Int) then
    if l8.getD p10.toNat false = true then
      if again9 = true then
       if 0 ≤ p10 then
       if p10 < (↑d2_2.length : Int) then
        if 0 ≤ a11 then
         if a11 < (↑(Go.Proofs.YtiiioobebeaafaaSx.rd [] d2_2 p10).length : Int) then
          if 0 ≤ Go.Proofs.YtiiioobebeaafaaSx.rd (Int.ofNat 0) (Go.Proofs.YtiiioobebeaafaaSx.rd [] d2_2 p10) a11 then
           if Go.Proofs.YtiiioobebeaafaaSx.rd (Int.ofNat 0) (Go.Proofs.YtiiioobebeaafaaSx.rd [] d2_2 p10) a11 < (↑l8.length : Int) then
            evermoreref32_Wide.l15 k up1 n5 q7 true p10 (Go.IntKind.i64.wrap (a11 + 1)) d2_0 d2_1 d2_2 d2_3 x4_0 x4_1 lead6 (l8.set (Go.Proofs.YtiiioobebeaafaaSx.rd (Int.ofNat 0) (Go.Proofs.YtiiioobebeaafaaSx.rd [] d2_2 p10) a11).toNat true) c4 c5
            else none
           else none
          else none
         else none
        else none
       else none
      else
       if 0 ≤ p10 then
       if p10 < (↑d2_2.length : Int) then
        if 0 ≤ a11 then
         if a11 < (↑(Go.Proofs.YtiiioobebeaafaaSx.rd [] d2_2 p10).length : Int) then
          if 0 ≤ Go.Proofs.YtiiioobebeaafaaSx.rd (Int.ofNat 0) (Go.Proofs.YtiiioobebeaafaaSx.rd [] d2_2 p10) a11 then
           if Go.Proofs.YtiiioobebeaafaaSx.rd (Int.ofNat 0) (Go.Proofs.YtiiioobebeaafaaSx.rd [] d2_2 p10) a11 < (↑l8.length : Int) then
            if 0 ≤ p10 then
             if p10 < (↑d2_2.length : Int) then
              if 0 ≤ a11 then
               if a11 < (↑(Go.Proofs.YtiiioobebeaafaaSx.rd [] d2_2 p10).length : Int) then
                if 0 ≤ Go.Proofs.YtiiioobebeaafaaSx.rd (Int.ofNat 0) (Go.Proofs.YtiiioobebeaafaaSx.rd [] d2_2 p10) a11 then
                 if Go.Proofs.YtiiioobebeaafaaSx.rd (Int.ofNat 0) (Go.Proofs.YtiiioobebeaafaaSx.rd [] d2_2 p10) a11 < (↑l8.length : Int) then
                  evermoreref32_Wide.l15 k up1 n5 q7 (!l8.getD (Go.Proofs.YtiiioobebeaafaaSx.rd (Int.ofNat 0) (Go.Proofs.YtiiioobebeaafaaSx.rd [] d2_2 p10) a11).toNat false) p10 (Go.IntKind.i64.wrap (a11 + 1)) d2_0 d2_1 d2_2 d2_3 x4_0 x4_1 lead6 (l8.set (Go.Proofs.YtiiioobebeaafaaSx.rd (Int.ofNat 0) (Go.Proofs.YtiiioobebeaafaaSx.rd [] d2_2 p10) a11).toNat true) c4 c5
                  else none
                 else none
                else none
               else none
              else none
             else none
            else none
           else none
          else none
         else none
        else none
       else none
     else
      evermoreref32_Wide.l12 k up1 n5 q7 again9 (Go.IntKind.i64.wrap (p10 + 1)) d2_0 d2_1 d2_2 d2_3 x4_0 x4_1 lead6 l8 c4 c5
    else none
   else none
  else
   evermoreref32_Wide.l12 k up1 n5 q7 again9 (Go.IntKind.i64.wrap (p10 + 1)) d2_0 d2_1 d2_2 d2_3 x4_0 x4_1 lead6 l8 c4 c5
def evermoreref32_Wide.j35 : Nat → Bool → Int → Int → Int → Int → Int → Int → List (List (Int)) → List (Int) → Int → Int → List (List (Bool)) → List (Int) → List (Int) → Int → Int → List (Int) → List (List (Int)) → List (Int) → List (List (Int)) → List (Int) → Option (Int × Int × List (List Int) × List Int)
 | 0, _, _, _, _, _, _, _, _, _, _, _, _, _, _, _, _, _, _, _, _, _ => none
 | k + 1, up1, n5, i16, a18, to19, d2_0, d2_1, d2_2, d2_3, x4_0, x4_1, lead6, number12, row14, out15_0, out15_1, next17, c7, c8, c9, c10 =>
  evermoreref32_Wide.l36 k up1 n5 i16 a18 to19 0 d2_0 d2_1 d2_2 d2_3 x4_0 x4_1 lead6 number12 row14 out15_0 out15_1 next17 c7 c8 c9 c10
def evermoreref32_Wide.l48 : Nat → Bool → Int → Int → Int → Int → Int → Int → List (List (Int)) → List (Int) → Int → Int → List (List (Bool)) → List (Int) → List (Int) → Int → Int → List (List (Int)) → List (Int) → List (List (Int)) → List (Int) → Option (Int × Int × List (List Int) × List Int)
 | 0, _, _, _, _, _, _, _, _, _, _, _, _, _, _, _, _, _, _, _, _ => none
 | k + 1, up1, n5, i16, mark22, q23, d2_0, d2_1, d2_2, d2_3, x4_0, x4_1, lead6, number12, row14, out15_0, out15_1, c6, c7, c8, c9 =>
  if q23 < n5 then
   if 0 ≤ i16 then
   if i16 < (↑row14.length : Int) then
    if 0 ≤ q23 then
     if Go.IntKind.i64.wrap (↑(BitVec.ofInt Go.IntKind.i64.bits ((row14.getD i16.toNat (Int.ofNat 0)).fdiv (2 ^ min q23.toNat Go.IntKind.i64.bits)) &&& BitVec.ofInt Go.IntKind.i64.bits 1).toNat : Int) = 1 then
       if 0 ≤ q23 then
       if q23 < (↑d2_3.length : Int) then
        if Go.Proofs.YtiiioobebeaafaaSx.rd (Int.ofNat 0) d2_3 q23 = 1 then
          evermoreref32_Wide.j49 k up1 n5 i16 1 q23 d2_0 d2_1 d2_2 d2_3 x4_0 x4_1 lead6 number12 row14 out15_0 out15_1 c6 c7 c8 c9
         else
          evermoreref32_Wide.j49 k up1 n5 i16 mark22 q23 d2_0 d2_1 d2_2 d2_3 x4_0 x4_1 lead6 number12 row14 out15_0 out15_1 c6 c7 c8 c9
        else none
       else none
      else
       evermoreref32_Wide.j49 k up1 n5 i16 mark22 q23 d2_0 d2_1 d2_2 d2_3 x4_0 x4_1 lead6 number12 row14 out15_0 out15_1 c6 c7 c8 c9
     else none
    else none
   else none
  else
   if (c9 ++ [mark22]).length.blt 1000000000 = true then
   evermoreref32_Wide.l26 k up1 n5 (Go.IntKind.i64.wrap (i16 + 1)) d2_0 d2_1 d2_2 d2_3 x4_0 x4_1 lead6 number12 row14 out15_0 out15_1 c6 c7 c8 (c9 ++ [mark22])
   else none
def evermoreref32_Wide.l36 : Nat → Bool → Int → Int → Int → Int → Int → Int → Int → List (List (Int)) → List (Int) → Int → Int → List (List (Bool)) → List (Int) → List (Int) → Int → Int → List (Int) → List (List (Int)) → List (Int) → List (List (Int)) → List (Int) → Option (Int × Int × List (List Int) × List Int)
 | 0, _, _, _, _, _, _, _, _, _, _, _, _, _, _, _, _, _, _, _, _, _, _ => none
 | k + 1, up1, n5, i16, a18, to19, q20, d2_0, d2_1, d2_2, d2_3, x4_0, x4_1, lead6, number12, row14, out15_0, out15_1, next17, c7, c8, c9, c10 =>
  if q20 < n5 then
   if 0 ≤ i16 then
   if i16 < (↑row14.length : Int) then
    if 0 ≤ q20 then
     if Go.IntKind.i64.wrap (↑(BitVec.ofInt Go.IntKind.i64.bits ((row14.getD i16.toNat (Int.ofNat 0)).fdiv (2 ^ min q20.toNat Go.IntKind.i64.bits)) &&& BitVec.ofInt Go.IntKind.i64.bits 1).toNat : Int) = 1 then
       if 0 ≤ q20 then
       if q20 < (↑d2_2.length : Int) then
        if 0 ≤ a18 then
         if a18 < (↑(Go.Proofs.YtiiioobebeaafaaSx.rd [] d2_2 q20).length : Int) then
          if 0 ≤ Go.Proofs.YtiiioobebeaafaaSx.rd (Int.ofNat 0) (Go.Proofs.YtiiioobebeaafaaSx.rd [] d2_2 q20) a18 then
           if Go.Proofs.YtiiioobebeaafaaSx.rd (Int.ofNat 0) (Go.Proofs.YtiiioobebeaafaaSx.rd [] d2_2 q20) a18 < (↑lead6.length : Int) then
            (evermoreref32_set.f k (lead6.getD (Go.Proofs.YtiiioobebeaafaaSx.rd (Int.ofNat 0) (Go.Proofs.YtiiioobebeaafaaSx.rd [] d2_2 q20) a18).toNat [])).bind fun r13 =>
              evermoreref32_Wide.j37 k up1 n5 i16 a18 (Go.IntKind.i64.wrap (↑(BitVec.ofInt Go.IntKind.i64.bits to19 ||| BitVec.ofInt Go.IntKind.i64.bits r13).toNat : Int)) q20 d2_0 d2_1 d2_2 d2_3 x4_0 x4_1 lead6 number12 row14 out15_0 out15_1 next17 c7 c8 c9 c10
            else none
           else none
          else none
         else none
        else none
       else none
      else
       evermoreref32_Wide.j37 k up1 n5 i16 a18 to19 q20 d2_0 d2_1 d2_2 d2_3 x4_0 x4_1 lead6 number12 row14 out15_0 out15_1 next17 c7 c8 c9 c10
     else none
    else none
   else none
  else
   if 0 ≤ to19 then
   if to19 < (↑number12.length : Int) then
    if number12.getD to19.toNat (Int.ofNat 0) = 0 then
      if (row14 ++ [to19]).length.blt 1000000000 = true then
      if 0 ≤ to19 then
       if to19 < (↑number12.length : Int) then
        evermoreref32_Wide.j44 k up1 n5 i16 a18 to19 d2_0 d2_1 d2_2 d2_3 x4_0 x4_1 lead6 (number12.set to19.toNat (↑(row14 ++ [to19]).length : Int)) (row14 ++ [to19]) out15_0 out15_1 next17 c7 c8 c9 c10
        else none
       else none
      else none
     else
      evermoreref32_Wide.j44 k up1 n5 i16 a18 to19 d2_0 d2_1 d2_2 d2_3 x4_0 x4_1 lead6 number12 row14 out15_0 out15_1 next17 c7 c8 c9 c10
    else none
   else none
def evermoreref32_Wide.j49 : Nat → Bool → Int → Int → Int → Int → Int → Int → List (List (Int)) → List (Int) → Int → Int → List (List (Bool)) → List (Int) → List (Int) → Int → Int → List (List (Int)) → List (Int) → List (List (Int)) → List (Int) → Option (Int × Int × List (List Int) × List Int)
 | 0, _, _, _, _, _, _, _, _, _, _, _, _, _, _, _, _, _, _, _, _ => none
 | k + 1, up1, n5, i16, mark22, q23, d2_0, d2_1, d2_2, d2_3, x4_0, x4_1, lead6, number12, row14, out15_0, out15_1, c6, c7, c8, c9 =>
  evermoreref32_Wide.l48 k up1 n5 i16 mark22 (Go.IntKind.i64.wrap (q23 + 1)) d2_0 d2_1 d2_2 d2_3 x4_0 x4_1 lead6 number12 row14 out15_0 out15_1 c6 c7 c8 c9
def evermoreref32_Wide.j37 : Nat → Bool → Int → Int → Int → Int → Int → Int → Int → List (List (Int)) → List (Int) → Int → Int → List (List (Bool)) → List (Int) → List (Int) → Int → Int → List (Int) → List (List (Int)) → List (Int) → List (List (Int)) → List (Int) → Option (Int × Int × List (List Int) × List Int)
 | 0, _, _, _, _, _, _, _, _, _, _, _, _, _, _, _, _, _, _, _, _, _, _ => none
 | k + 1, up1, n5, i16, a18, to19, q20, d2_0, d2_1, d2_2, d2_3, x4_0, x4_1, lead6, number12, row14, out15_0, out15_1, next17, c7, c8, c9, c10 =>
  evermoreref32_Wide.l36 k up1 n5 i16 a18 to19 (Go.IntKind.i64.wrap (q20 + 1)) d2_0 d2_1 d2_2 d2_3 x4_0 x4_1 lead6 number12 row14 out15_0 out15_1 next17 c7 c8 c9 c10
def evermoreref32_Wide.j44 : Nat → Bool → Int → Int → Int → Int → Int → Int → List (List (Int)) → List (Int) → Int → Int → List (List (Bool)) → List (Int) → List (Int) → Int → Int → List (Int) → List (List (Int)) → List (Int) → List (List (Int)) → List (Int) → Option (Int × Int × List (List Int) × List Int)
 | 0, _, _, _, _, _, _, _, _, _, _, _, _, _, _, _, _, _, _, _, _, _ => none
 | k + 1, up1, n5, i16, a18, to19, d2_0, d2_1, d2_2, d2_3, x4_0, x4_1, lead6, number12, row14, out15_0, out15_1, next17, c7, c8, c9, c10 =>
  if 0 ≤ to19 then
  if to19 < (↑number12.length : Int) then
   if (next17 ++ [Go.IntKind.i64.wrap (number12.getD to19.toNat (Int.ofNat 0) - 1)]).length.blt 1000000000 = true then
    evermoreref32_Wide.l30 k up1 n5 i16 (Go.IntKind.i64.wrap (a18 + 1)) d2_0 d2_1 d2_2 d2_3 x4_0 x4_1 lead6 number12 row14 out15_0 out15_1 (next17 ++ [Go.IntKind.i64.wrap (number12.getD to19.toNat (Int.ofNat 0) - 1)]) c7 c8 c9 c10
    else none
   else none
  else none
end
def evermoreref32_Wide.f (k : Nat) (d0 : (Int × (Int × (List (List (Int)) × (List (Int) × Unit))))) (up1 : Bool) : Option (Int × Int × List (List Int) × List Int) :=
 evermoreref32_Wide.l4 k up1 ((↑d0.snd.snd.fst.length : Int)) 0 d0.fst d0.snd.fst d0.snd.snd.fst d0.snd.snd.snd.fst 0 0 [] [] []

noncomputable def evermoreref32_Wide.body : Code := fnBody Try.f61
def evermoreref32_Wide.ti : Tm := ⟨[(0, .p (.pair (.int .i64) (.pair (.int .i64) (.pair (.slice (.slice (.int .i64))) (.pair (.slice (.int .i64)) .unit))))), (1, .p .bool)], []⟩
def evermoreref32_Wide.to : Tm := ⟨[(0, .agg [.p (.int .i64), .p (.int .i64), .own 0, .own 1])], [.own (.slice (.int .i64)), .own (.int .i64)]⟩
def evermoreref32_Wide.rs (r : Int × Int × (List (List Int)) × (List Int)) : List Dat := [⟨(.int .i64), r.1⟩, ⟨(.int .i64), r.2.1⟩, ⟨(.slice (.slice (.int .i64))), r.2.2.1⟩, ⟨(.slice (.int .i64)), r.2.2.2⟩]
def evermoreref32_Wide.out (ds : List Dat) : Option (Int × Int × (List (List Int)) × (List Int)) := pop (.int .i64) ds fun x0 ds => pop (.int .i64) ds fun x1 ds => pop (.slice (.slice (.int .i64))) ds fun x2 ds => pop (.slice (.int .i64)) ds fun x3 ds => popN ds (some (x0, x1, x2, x3))
def evermoreref32_Wide.c (k : Nat) (ds : List Dat) : Option (Int × Int × (List (List Int)) × (List Int)) := pop (.pair (.int .i64) (.pair (.int .i64) (.pair (.slice (.slice (.int .i64))) (.pair (.slice (.int .i64)) .unit)))) ds fun x0 ds => pop .bool ds fun x1 ds => popN ds (evermoreref32_Wide.f k x0 x1)
def evermoreref32_Wide.g : Nat → List Dat → Option (Int × Int × (List (List Int)) × (List Int))
 | 0, _ => none
 | k + 1, ds => evermoreref32_Wide.c k ds
def evermoreref32_Wide.env (k : Nat) : Nat → List SV → List Chunk → KT (Int × Int × (List (List Int)) × (List Int)) → Option (Int × Int × (List (List Int)) × (List Int)) := (envC 130 1 evermoreref32_set.ti evermoreref32_set.to (fun ds K => pop (.slice .bool) ds fun x0 ds => popN ds ((evermoreref32_set.f k x0).bind fun r => K (evermoreref32_set.rs r))) (envC 46 1 evermoreref3_Least.ti evermoreref3_Least.to (fun ds K => pop (.pair (.int .i64) (.pair (.int .i64) (.pair (.slice (.slice (.int .i64))) (.pair (.slice (.int .i64)) .unit)))) ds fun x0 ds => popN ds ((evermoreref3_Least.f k x0).bind fun r => K (evermoreref3_Least.rs r))) env0))
def evermoreref32_Wide.t9 : Tm := ⟨[(1, .p .bool), (2, .ptr 0 0), (4, .ptr 1 0), (5, .p (.int .i64)), (6, .own 2), (7, .p (.int .i64))], [.box [.p (.int .i64), .p (.int .i64), .p (.slice (.slice (.int .i64))), .p (.slice (.int .i64))] 58, .box [.p (.int .i64), .p (.int .i64), .own 3, .own 4] 58, .own (.slice .bool), .own (.slice (.int .i64)), .own (.int .i64)]⟩
def evermoreref32_Wide.c9 (k : Nat) (ds : List Dat) : Option (Int × Int × (List (List Int)) × (List Int)) := pop .bool ds fun x0 ds => pop (.int .i64) ds fun x1 ds => pop (.int .i64) ds fun x2 ds => pop (.int .i64) ds fun x3 ds => pop (.int .i64) ds fun x4 ds => pop (.slice (.slice (.int .i64))) ds fun x5 ds => pop (.slice (.int .i64)) ds fun x6 ds => pop (.int .i64) ds fun x7 ds => pop (.int .i64) ds fun x8 ds => pop (.slice (.slice .bool)) ds fun x9 ds => pop (.slice (.slice (.int .i64))) ds fun x10 ds => pop (.slice (.int .i64)) ds fun x11 ds => popN ds (evermoreref32_Wide.l4 k x0 x1 x2 x3 x4 x5 x6 x7 x8 x9 x10 x11)
def evermoreref32_Wide.t19 : Tm := ⟨[(1, .p .bool), (2, .ptr 0 0), (4, .ptr 1 0), (5, .p (.int .i64)), (6, .own 2), (7, .p (.int .i64)), (8, .own 3), (9, .p .bool)], [.box [.p (.int .i64), .p (.int .i64), .p (.slice (.slice (.int .i64))), .p (.slice (.int .i64))] 58, .box [.p (.int .i64), .p (.int .i64), .own 4, .own 5] 58, .own (.slice .bool), .own .bool, .own (.slice (.int .i64)), .own (.int .i64)]⟩
def evermoreref32_Wide.c19 (k : Nat) (ds : List Dat) : Option (Int × Int × (List (List Int)) × (List Int)) := pop .bool ds fun x0 ds => pop (.int .i64) ds fun x1 ds => pop (.int .i64) ds fun x2 ds => pop .bool ds fun x3 ds => pop (.int .i64) ds fun x4 ds => pop (.int .i64) ds fun x5 ds => pop (.slice (.slice (.int .i64))) ds fun x6 ds => pop (.slice (.int .i64)) ds fun x7 ds => pop (.int .i64) ds fun x8 ds => pop (.int .i64) ds fun x9 ds => pop (.slice (.slice .bool)) ds fun x10 ds => pop (.slice .bool) ds fun x11 ds => pop (.slice (.slice (.int .i64))) ds fun x12 ds => pop (.slice (.int .i64)) ds fun x13 ds => popN ds (evermoreref32_Wide.l9 k x0 x1 x2 x3 x4 x5 x6 x7 x8 x9 x10 x11 x12 x13)
def evermoreref32_Wide.t53 : Tm := ⟨[(1, .p .bool), (2, .ptr 0 0), (4, .ptr 1 0), (5, .p (.int .i64)), (6, .own 2), (12, .own 3), (14, .own 4), (15, .ptr 5 0), (16, .p (.int .i64))], [.box [.p (.int .i64), .p (.int .i64), .p (.slice (.slice (.int .i64))), .p (.slice (.int .i64))] 58, .box [.p (.int .i64), .p (.int .i64), .own 6, .own 7] 58, .own (.slice .bool), .own (.int .i64), .own (.int .i64), .box [.p (.int .i64), .p (.int .i64), .own 8, .own 9] 58, .own (.slice (.int .i64)), .own (.int .i64), .own (.slice (.int .i64)), .own (.int .i64)]⟩
def evermoreref32_Wide.c53 (k : Nat) (ds : List Dat) : Option (Int × Int × (List (List Int)) × (List Int)) := pop .bool ds fun x0 ds => pop (.int .i64) ds fun x1 ds => pop (.int .i64) ds fun x2 ds => pop (.int .i64) ds fun x3 ds => pop (.int .i64) ds fun x4 ds => pop (.slice (.slice (.int .i64))) ds fun x5 ds => pop (.slice (.int .i64)) ds fun x6 ds => pop (.int .i64) ds fun x7 ds => pop (.int .i64) ds fun x8 ds => pop (.slice (.slice .bool)) ds fun x9 ds => pop (.slice (.int .i64)) ds fun x10 ds => pop (.slice (.int .i64)) ds fun x11 ds => pop (.int .i64) ds fun x12 ds => pop (.int .i64) ds fun x13 ds => pop (.slice (.slice (.int .i64))) ds fun x14 ds => pop (.slice (.int .i64)) ds fun x15 ds => pop (.slice (.slice (.int .i64))) ds fun x16 ds => pop (.slice (.int .i64)) ds fun x17 ds => popN ds (evermoreref32_Wide.l26 k x0 x1 x2 x3 x4 x5 x6 x7 x8 x9 x10 x11 x12 x13 x14 x15 x16 x17)
def evermoreref32_Wide.t25 : Tm := ⟨[(1, .p .bool), (2, .ptr 0 0), (4, .ptr 1 0), (5, .p (.int .i64)), (6, .own 2), (7, .p (.int .i64)), (8, .own 3), (9, .p .bool), (10, .p (.int .i64))], [.box [.p (.int .i64), .p (.int .i64), .p (.slice (.slice (.int .i64))), .p (.slice (.int .i64))] 58, .box [.p (.int .i64), .p (.int .i64), .own 4, .own 5] 58, .own (.slice .bool), .own .bool, .own (.slice (.int .i64)), .own (.int .i64)]⟩
def evermoreref32_Wide.c25 (k : Nat) (ds : List Dat) : Option (Int × Int × (List (List Int)) × (List Int)) := pop .bool ds fun x0 ds => pop (.int .i64) ds fun x1 ds => pop (.int .i64) ds fun x2 ds => pop .bool ds fun x3 ds => pop (.int .i64) ds fun x4 ds => pop (.int .i64) ds fun x5 ds => pop (.int .i64) ds fun x6 ds => pop (.slice (.slice (.int .i64))) ds fun x7 ds => pop (.slice (.int .i64)) ds fun x8 ds => pop (.int .i64) ds fun x9 ds => pop (.int .i64) ds fun x10 ds => pop (.slice (.slice .bool)) ds fun x11 ds => pop (.slice .bool) ds fun x12 ds => pop (.slice (.slice (.int .i64))) ds fun x13 ds => pop (.slice (.int .i64)) ds fun x14 ds => popN ds (evermoreref32_Wide.l12 k x0 x1 x2 x3 x4 x5 x6 x7 x8 x9 x10 x11 x12 x13 x14)
def evermoreref32_Wide.t61 : Tm := ⟨[(1, .p .bool), (2, .ptr 0 0), (4, .ptr 1 0), (5, .p (.int .i64)), (6, .own 2), (12, .own 3), (14, .own 4), (15, .ptr 5 0), (16, .p (.int .i64)), (17, .own 6), (18, .p (.int .i64))], [.box [.p (.int .i64), .p (.int .i64), .p (.slice (.slice (.int .i64))), .p (.slice (.int .i64))] 58, .box [.p (.int .i64), .p (.int .i64), .own 7, .own 8] 58, .own (.slice .bool), .own (.int .i64), .own (.int .i64), .box [.p (.int .i64), .p (.int .i64), .own 9, .own 10] 58, .own (.int .i64), .own (.slice (.int .i64)), .own (.int .i64), .own (.slice (.int .i64)), .own (.int .i64)]⟩
def evermoreref32_Wide.c61 (k : Nat) (ds : List Dat) : Option (Int × Int × (List (List Int)) × (List Int)) := pop .bool ds fun x0 ds => pop (.int .i64) ds fun x1 ds => pop (.int .i64) ds fun x2 ds => pop (.int .i64) ds fun x3 ds => pop (.int .i64) ds fun x4 ds => pop (.int .i64) ds fun x5 ds => pop (.slice (.slice (.int .i64))) ds fun x6 ds => pop (.slice (.int .i64)) ds fun x7 ds => pop (.int .i64) ds fun x8 ds => pop (.int .i64) ds fun x9 ds => pop (.slice (.slice .bool)) ds fun x10 ds => pop (.slice (.int .i64)) ds fun x11 ds => pop (.slice (.int .i64)) ds fun x12 ds => pop (.int .i64) ds fun x13 ds => pop (.int .i64) ds fun x14 ds => pop (.slice (.int .i64)) ds fun x15 ds => pop (.slice (.slice (.int .i64))) ds fun x16 ds => pop (.slice (.int .i64)) ds fun x17 ds => pop (.slice (.slice (.int .i64))) ds fun x18 ds => pop (.slice (.int .i64)) ds fun x19 ds => popN ds (evermoreref32_Wide.l30 k x0 x1 x2 x3 x4 x5 x6 x7 x8 x9 x10 x11 x12 x13 x14 x15 x16 x17 x18 x19)
def evermoreref32_Wide.t31 : Tm := ⟨[(1, .p .bool), (2, .ptr 0 0), (4, .ptr 1 0), (5, .p (.int .i64)), (6, .own 2), (7, .p (.int .i64)), (8, .own 3), (9, .p .bool), (10, .p (.int .i64)), (11, .p (.int .i64))], [.box [.p (.int .i64), .p (.int .i64), .p (.slice (.slice (.int .i64))), .p (.slice (.int .i64))] 58, .box [.p (.int .i64), .p (.int .i64), .own 4, .own 5] 58, .own (.slice .bool), .own .bool, .own (.slice (.int .i64)), .own (.int .i64)]⟩
def evermoreref32_Wide.c31 (k : Nat) (ds : List Dat) : Option (Int × Int × (List (List Int)) × (List Int)) := pop .bool ds fun x0 ds => pop (.int .i64) ds fun x1 ds => pop (.int .i64) ds fun x2 ds => pop .bool ds fun x3 ds => pop (.int .i64) ds fun x4 ds => pop (.int .i64) ds fun x5 ds => pop (.int .i64) ds fun x6 ds => pop (.int .i64) ds fun x7 ds => pop (.slice (.slice (.int .i64))) ds fun x8 ds => pop (.slice (.int .i64)) ds fun x9 ds => pop (.int .i64) ds fun x10 ds => pop (.int .i64) ds fun x11 ds => pop (.slice (.slice .bool)) ds fun x12 ds => pop (.slice .bool) ds fun x13 ds => pop (.slice (.slice (.int .i64))) ds fun x14 ds => pop (.slice (.int .i64)) ds fun x15 ds => popN ds (evermoreref32_Wide.l15 k x0 x1 x2 x3 x4 x5 x6 x7 x8 x9 x10 x11 x12 x13 x14 x15)
def evermoreref32_Wide.t70 : Tm := ⟨[(1, .p .bool), (2, .ptr 0 0), (4, .ptr 1 0), (5, .p (.int .i64)), (6, .own 2), (12, .own 3), (14, .own 4), (15, .ptr 5 0), (16, .p (.int .i64)), (17, .own 6), (18, .p (.int .i64)), (19, .p (.int .i64))], [.box [.p (.int .i64), .p (.int .i64), .p (.slice (.slice (.int .i64))), .p (.slice (.int .i64))] 58, .box [.p (.int .i64), .p (.int .i64), .own 7, .own 8] 58, .own (.slice .bool), .own (.int .i64), .own (.int .i64), .box [.p (.int .i64), .p (.int .i64), .own 9, .own 10] 58, .own (.int .i64), .own (.slice (.int .i64)), .own (.int .i64), .own (.slice (.int .i64)), .own (.int .i64)]⟩
def evermoreref32_Wide.c70 (k : Nat) (ds : List Dat) : Option (Int × Int × (List (List Int)) × (List Int)) := pop .bool ds fun x0 ds => pop (.int .i64) ds fun x1 ds => pop (.int .i64) ds fun x2 ds => pop (.int .i64) ds fun x3 ds => pop (.int .i64) ds fun x4 ds => pop (.int .i64) ds fun x5 ds => pop (.int .i64) ds fun x6 ds => pop (.slice (.slice (.int .i64))) ds fun x7 ds => pop (.slice (.int .i64)) ds fun x8 ds => pop (.int .i64) ds fun x9 ds => pop (.int .i64) ds fun x10 ds => pop (.slice (.slice .bool)) ds fun x11 ds => pop (.slice (.int .i64)) ds fun x12 ds => pop (.slice (.int .i64)) ds fun x13 ds => pop (.int .i64) ds fun x14 ds => pop (.int .i64) ds fun x15 ds => pop (.slice (.int .i64)) ds fun x16 ds => pop (.slice (.slice (.int .i64))) ds fun x17 ds => pop (.slice (.int .i64)) ds fun x18 ds => pop (.slice (.slice (.int .i64))) ds fun x19 ds => pop (.slice (.int .i64)) ds fun x20 ds => popN ds (evermoreref32_Wide.j35 k x0 x1 x2 x3 x4 x5 x6 x7 x8 x9 x10 x11 x12 x13 x14 x15 x16 x17 x18 x19 x20)
def evermoreref32_Wide.t97 : Tm := ⟨[(1, .p .bool), (2, .ptr 0 0), (4, .ptr 1 0), (5, .p (.int .i64)), (6, .own 2), (12, .own 3), (14, .own 4), (15, .ptr 5 0), (16, .p (.int .i64)), (22, .p (.int .i64)), (23, .p (.int .i64))], [.box [.p (.int .i64), .p (.int .i64), .p (.slice (.slice (.int .i64))), .p (.slice (.int .i64))] 58, .box [.p (.int .i64), .p (.int .i64), .own 6, .own 7] 58, .own (.slice .bool), .own (.int .i64), .own (.int .i64), .box [.p (.int .i64), .p (.int .i64), .own 8, .own 9] 58, .own (.slice (.int .i64)), .own (.int .i64), .own (.slice (.int .i64)), .own (.int .i64)]⟩
def evermoreref32_Wide.c97 (k : Nat) (ds : List Dat) : Option (Int × Int × (List (List Int)) × (List Int)) := pop .bool ds fun x0 ds => pop (.int .i64) ds fun x1 ds => pop (.int .i64) ds fun x2 ds => pop (.int .i64) ds fun x3 ds => pop (.int .i64) ds fun x4 ds => pop (.int .i64) ds fun x5 ds => pop (.int .i64) ds fun x6 ds => pop (.slice (.slice (.int .i64))) ds fun x7 ds => pop (.slice (.int .i64)) ds fun x8 ds => pop (.int .i64) ds fun x9 ds => pop (.int .i64) ds fun x10 ds => pop (.slice (.slice .bool)) ds fun x11 ds => pop (.slice (.int .i64)) ds fun x12 ds => pop (.slice (.int .i64)) ds fun x13 ds => pop (.int .i64) ds fun x14 ds => pop (.int .i64) ds fun x15 ds => pop (.slice (.slice (.int .i64))) ds fun x16 ds => pop (.slice (.int .i64)) ds fun x17 ds => pop (.slice (.slice (.int .i64))) ds fun x18 ds => pop (.slice (.int .i64)) ds fun x19 ds => popN ds (evermoreref32_Wide.l48 k x0 x1 x2 x3 x4 x5 x6 x7 x8 x9 x10 x11 x12 x13 x14 x15 x16 x17 x18 x19)
def evermoreref32_Wide.t73 : Tm := ⟨[(1, .p .bool), (2, .ptr 0 0), (4, .ptr 1 0), (5, .p (.int .i64)), (6, .own 2), (12, .own 3), (14, .own 4), (15, .ptr 5 0), (16, .p (.int .i64)), (17, .own 6), (18, .p (.int .i64)), (19, .p (.int .i64)), (20, .p (.int .i64))], [.box [.p (.int .i64), .p (.int .i64), .p (.slice (.slice (.int .i64))), .p (.slice (.int .i64))] 58, .box [.p (.int .i64), .p (.int .i64), .own 7, .own 8] 58, .own (.slice .bool), .own (.int .i64), .own (.int .i64), .box [.p (.int .i64), .p (.int .i64), .own 9, .own 10] 58, .own (.int .i64), .own (.slice (.int .i64)), .own (.int .i64), .own (.slice (.int .i64)), .own (.int .i64)]⟩
def evermoreref32_Wide.c73 (k : Nat) (ds : List Dat) : Option (Int × Int × (List (List Int)) × (List Int)) := pop .bool ds fun x0 ds => pop (.int .i64) ds fun x1 ds => pop (.int .i64) ds fun x2 ds => pop (.int .i64) ds fun x3 ds => pop (.int .i64) ds fun x4 ds => pop (.int .i64) ds fun x5 ds => pop (.int .i64) ds fun x6 ds => pop (.int .i64) ds fun x7 ds => pop (.slice (.slice (.int .i64))) ds fun x8 ds => pop (.slice (.int .i64)) ds fun x9 ds => pop (.int .i64) ds fun x10 ds => pop (.int .i64) ds fun x11 ds => pop (.slice (.slice .bool)) ds fun x12 ds => pop (.slice (.int .i64)) ds fun x13 ds => pop (.slice (.int .i64)) ds fun x14 ds => pop (.int .i64) ds fun x15 ds => pop (.int .i64) ds fun x16 ds => pop (.slice (.int .i64)) ds fun x17 ds => pop (.slice (.slice (.int .i64))) ds fun x18 ds => pop (.slice (.int .i64)) ds fun x19 ds => pop (.slice (.slice (.int .i64))) ds fun x20 ds => pop (.slice (.int .i64)) ds fun x21 ds => popN ds (evermoreref32_Wide.l36 k x0 x1 x2 x3 x4 x5 x6 x7 x8 x9 x10 x11 x12 x13 x14 x15 x16 x17 x18 x19 x20 x21)
def evermoreref32_Wide.t98 : Tm := ⟨[(1, .p .bool), (2, .ptr 0 0), (4, .ptr 1 0), (5, .p (.int .i64)), (6, .own 2), (12, .own 3), (14, .own 4), (15, .ptr 5 0), (16, .p (.int .i64)), (22, .p (.int .i64)), (23, .p (.int .i64))], [.box [.p (.int .i64), .p (.int .i64), .p (.slice (.slice (.int .i64))), .p (.slice (.int .i64))] 58, .box [.p (.int .i64), .p (.int .i64), .own 6, .own 7] 58, .own (.slice .bool), .own (.int .i64), .own (.int .i64), .box [.p (.int .i64), .p (.int .i64), .own 8, .own 9] 58, .own (.slice (.int .i64)), .own (.int .i64), .own (.slice (.int .i64)), .own (.int .i64)]⟩
def evermoreref32_Wide.c98 (k : Nat) (ds : List Dat) : Option (Int × Int × (List (List Int)) × (List Int)) := pop .bool ds fun x0 ds => pop (.int .i64) ds fun x1 ds => pop (.int .i64) ds fun x2 ds => pop (.int .i64) ds fun x3 ds => pop (.int .i64) ds fun x4 ds => pop (.int .i64) ds fun x5 ds => pop (.int .i64) ds fun x6 ds => pop (.slice (.slice (.int .i64))) ds fun x7 ds => pop (.slice (.int .i64)) ds fun x8 ds => pop (.int .i64) ds fun x9 ds => pop (.int .i64) ds fun x10 ds => pop (.slice (.slice .bool)) ds fun x11 ds => pop (.slice (.int .i64)) ds fun x12 ds => pop (.slice (.int .i64)) ds fun x13 ds => pop (.int .i64) ds fun x14 ds => pop (.int .i64) ds fun x15 ds => pop (.slice (.slice (.int .i64))) ds fun x16 ds => pop (.slice (.int .i64)) ds fun x17 ds => pop (.slice (.slice (.int .i64))) ds fun x18 ds => pop (.slice (.int .i64)) ds fun x19 ds => popN ds (evermoreref32_Wide.j49 k x0 x1 x2 x3 x4 x5 x6 x7 x8 x9 x10 x11 x12 x13 x14 x15 x16 x17 x18 x19)
def evermoreref32_Wide.t74 : Tm := ⟨[(1, .p .bool), (2, .ptr 0 0), (4, .ptr 1 0), (5, .p (.int .i64)), (6, .own 2), (12, .own 3), (14, .own 4), (15, .ptr 5 0), (16, .p (.int .i64)), (17, .own 6), (18, .p (.int .i64)), (19, .p (.int .i64)), (20, .p (.int .i64))], [.box [.p (.int .i64), .p (.int .i64), .p (.slice (.slice (.int .i64))), .p (.slice (.int .i64))] 58, .box [.p (.int .i64), .p (.int .i64), .own 7, .own 8] 58, .own (.slice .bool), .own (.int .i64), .own (.int .i64), .box [.p (.int .i64), .p (.int .i64), .own 9, .own 10] 58, .own (.int .i64), .own (.slice (.int .i64)), .own (.int .i64), .own (.slice (.int .i64)), .own (.int .i64)]⟩
def evermoreref32_Wide.c74 (k : Nat) (ds : List Dat) : Option (Int × Int × (List (List Int)) × (List Int)) := pop .bool ds fun x0 ds => pop (.int .i64) ds fun x1 ds => pop (.int .i64) ds fun x2 ds => pop (.int .i64) ds fun x3 ds => pop (.int .i64) ds fun x4 ds => pop (.int .i64) ds fun x5 ds => pop (.int .i64) ds fun x6 ds => pop (.int .i64) ds fun x7 ds => pop (.slice (.slice (.int .i64))) ds fun x8 ds => pop (.slice (.int .i64)) ds fun x9 ds => pop (.int .i64) ds fun x10 ds => pop (.int .i64) ds fun x11 ds => pop (.slice (.slice .bool)) ds fun x12 ds => pop (.slice (.int .i64)) ds fun x13 ds => pop (.slice (.int .i64)) ds fun x14 ds => pop (.int .i64) ds fun x15 ds => pop (.int .i64) ds fun x16 ds => pop (.slice (.int .i64)) ds fun x17 ds => pop (.slice (.slice (.int .i64))) ds fun x18 ds => pop (.slice (.int .i64)) ds fun x19 ds => pop (.slice (.slice (.int .i64))) ds fun x20 ds => pop (.slice (.int .i64)) ds fun x21 ds => popN ds (evermoreref32_Wide.j37 k x0 x1 x2 x3 x4 x5 x6 x7 x8 x9 x10 x11 x12 x13 x14 x15 x16 x17 x18 x19 x20 x21)
def evermoreref32_Wide.t88 : Tm := ⟨[(1, .p .bool), (2, .ptr 0 0), (4, .ptr 1 0), (5, .p (.int .i64)), (6, .own 2), (12, .own 3), (14, .own 4), (15, .ptr 5 0), (16, .p (.int .i64)), (17, .own 6), (18, .p (.int .i64)), (19, .p (.int .i64))], [.box [.p (.int .i64), .p (.int .i64), .p (.slice (.slice (.int .i64))), .p (.slice (.int .i64))] 58, .box [.p (.int .i64), .p (.int .i64), .own 7, .own 8] 58, .own (.slice .bool), .own (.int .i64), .own (.int .i64), .box [.p (.int .i64), .p (.int .i64), .own 9, .own 10] 58, .own (.int .i64), .own (.slice (.int .i64)), .own (.int .i64), .own (.slice (.int .i64)), .own (.int .i64)]⟩
def evermoreref32_Wide.c88 (k : Nat) (ds : List Dat) : Option (Int × Int × (List (List Int)) × (List Int)) := pop .bool ds fun x0 ds => pop (.int .i64) ds fun x1 ds => pop (.int .i64) ds fun x2 ds => pop (.int .i64) ds fun x3 ds => pop (.int .i64) ds fun x4 ds => pop (.int .i64) ds fun x5 ds => pop (.int .i64) ds fun x6 ds => pop (.slice (.slice (.int .i64))) ds fun x7 ds => pop (.slice (.int .i64)) ds fun x8 ds => pop (.int .i64) ds fun x9 ds => pop (.int .i64) ds fun x10 ds => pop (.slice (.slice .bool)) ds fun x11 ds => pop (.slice (.int .i64)) ds fun x12 ds => pop (.slice (.int .i64)) ds fun x13 ds => pop (.int .i64) ds fun x14 ds => pop (.int .i64) ds fun x15 ds => pop (.slice (.int .i64)) ds fun x16 ds => pop (.slice (.slice (.int .i64))) ds fun x17 ds => pop (.slice (.int .i64)) ds fun x18 ds => pop (.slice (.slice (.int .i64))) ds fun x19 ds => pop (.slice (.int .i64)) ds fun x20 ds => popN ds (evermoreref32_Wide.j44 k x0 x1 x2 x3 x4 x5 x6 x7 x8 x9 x10 x11 x12 x13 x14 x15 x16 x17 x18 x19 x20)
def evermoreref32_Wide.tbl : List (Nat × Tm × (Nat → List Dat → Option (Int × Int × (List (List Int)) × (List Int)))) := [(9, evermoreref32_Wide.t9, evermoreref32_Wide.c9), (19, evermoreref32_Wide.t19, evermoreref32_Wide.c19), (53, evermoreref32_Wide.t53, evermoreref32_Wide.c53), (25, evermoreref32_Wide.t25, evermoreref32_Wide.c25), (61, evermoreref32_Wide.t61, evermoreref32_Wide.c61), (31, evermoreref32_Wide.t31, evermoreref32_Wide.c31), (70, evermoreref32_Wide.t70, evermoreref32_Wide.c70), (97, evermoreref32_Wide.t97, evermoreref32_Wide.c97), (73, evermoreref32_Wide.t73, evermoreref32_Wide.c73), (98, evermoreref32_Wide.t98, evermoreref32_Wide.c98), (74, evermoreref32_Wide.t74, evermoreref32_Wide.c74), (88, evermoreref32_Wide.t88, evermoreref32_Wide.c88)]
noncomputable abbrev evermoreref32_Wide.R (k : Nat) := run T (evermoreref32_Wide.env k) Try.f61.ntmps (cutE 0 evermoreref32_Wide.tbl k) (finE 0 evermoreref32_Wide.to evermoreref32_Wide.out) (fnRes Try.f61) [49, 44, 37, 35] 100000 true
theorem evermoreref32_Wide.e9 (k : Nat) (x0 : Bool) (x1 : Int) (x2 : Int) (x3 : Int) (x4 : Int) (x5 : (List (List Int))) (x6 : (List Int)) (x7 : Int) (x8 : Int) (x9 : (List (List Bool))) (x10 : (List (List Int))) (x11 : (List Int)) : evermoreref32_Wide.l4 (k + 1) x0 x1 x2 x3 x4 x5 x6 x7 x8 x9 x10 x11 = evermoreref32_Wide.R k (start (stackOf 9 evermoreref32_Wide.body)) (evermoreref32_Wide.t9.fill [⟨.bool, x0⟩, ⟨(.int .i64), x1⟩, ⟨(.int .i64), x2⟩, ⟨(.int .i64), x3⟩, ⟨(.int .i64), x4⟩, ⟨(.slice (.slice (.int .i64))), x5⟩, ⟨(.slice (.int .i64)), x6⟩, ⟨(.int .i64), x7⟩, ⟨(.int .i64), x8⟩, ⟨(.slice (.slice .bool)), x9⟩, ⟨(.slice (.slice (.int .i64))), x10⟩, ⟨(.slice (.int .i64)), x11⟩]) := by kernel_rfl
theorem evermoreref32_Wide.s9 : stackAt 9 evermoreref32_Wide.body [] = some (stackOf 9 evermoreref32_Wide.body) := by kernel_rfl
theorem evermoreref32_Wide.h9 (k : Nat) (ds : List Dat) (r : Int × Int × (List (List Int)) × (List Int)) (h : evermoreref32_Wide.c9 k ds = some r) : ∃ k', k' < k ∧ ∃ s, stackAt 9 evermoreref32_Wide.body [] = some s ∧ evermoreref32_Wide.R k' (start s) (evermoreref32_Wide.t9.fill ds) = some r := by
  unfold evermoreref32_Wide.c9 at h
  obtain ⟨x0, d0, rfl, h0⟩ := pop_some h
  obtain ⟨x1, d1, rfl, h1⟩ := pop_some h0
  obtain ⟨x2, d2, rfl, h2⟩ := pop_some h1
  obtain ⟨x3, d3, rfl, h3⟩ := pop_some h2
  obtain ⟨x4, d4, rfl, h4⟩ := pop_some h3
  obtain ⟨x5, d5, rfl, h5⟩ := pop_some h4
  obtain ⟨x6, d6, rfl, h6⟩ := pop_some h5
  obtain ⟨x7, d7, rfl, h7⟩ := pop_some h6
  obtain ⟨x8, d8, rfl, h8⟩ := pop_some h7
  obtain ⟨x9, d9, rfl, h9⟩ := pop_some h8
  obtain ⟨x10, d10, rfl, h10⟩ := pop_some h9
  obtain ⟨x11, d11, rfl, h11⟩ := pop_some h10
  obtain ⟨rfl, g⟩ := popN_some h11
  cases k with
  | zero => cases (show none = some r from g)
  | succ k => exact ⟨k, Nat.lt_succ_self k, _, evermoreref32_Wide.s9, (evermoreref32_Wide.e9 k x0 x1 x2 x3 x4 x5 x6 x7 x8 x9 x10 x11).symm.trans g⟩
theorem evermoreref32_Wide.e19 (k : Nat) (x0 : Bool) (x1 : Int) (x2 : Int) (x3 : Bool) (x4 : Int) (x5 : Int) (x6 : (List (List Int))) (x7 : (List Int)) (x8 : Int) (x9 : Int) (x10 : (List (List Bool))) (x11 : (List Bool)) (x12 : (List (List Int))) (x13 : (List Int)) : evermoreref32_Wide.l9 (k + 1) x0 x1 x2 x3 x4 x5 x6 x7 x8 x9 x10 x11 x12 x13 = evermoreref32_Wide.R k (start (stackOf 19 evermoreref32_Wide.body)) (evermoreref32_Wide.t19.fill [⟨.bool, x0⟩, ⟨(.int .i64), x1⟩, ⟨(.int .i64), x2⟩, ⟨.bool, x3⟩, ⟨(.int .i64), x4⟩, ⟨(.int .i64), x5⟩, ⟨(.slice (.slice (.int .i64))), x6⟩, ⟨(.slice (.int .i64)), x7⟩, ⟨(.int .i64), x8⟩, ⟨(.int .i64), x9⟩, ⟨(.slice (.slice .bool)), x10⟩, ⟨(.slice .bool), x11⟩, ⟨(.slice (.slice (.int .i64))), x12⟩, ⟨(.slice (.int .i64)), x13⟩]) := by kernel_rfl
theorem evermoreref32_Wide.s19 : stackAt 19 evermoreref32_Wide.body [] = some (stackOf 19 evermoreref32_Wide.body) := by kernel_rfl
theorem evermoreref32_Wide.h19 (k : Nat) (ds : List Dat) (r : Int × Int × (List (List Int)) × (List Int)) (h : evermoreref32_Wide.c19 k ds = some r) : ∃ k', k' < k ∧ ∃ s, stackAt 19 evermoreref32_Wide.body [] = some s ∧ evermoreref32_Wide.R k' (start s) (evermoreref32_Wide.t19.fill ds) = some r := by
  unfold evermoreref32_Wide.c19 at h
  obtain ⟨x0, d0, rfl, h0⟩ := pop_some h
  obtain ⟨x1, d1, rfl, h1⟩ := pop_some h0
  obtain ⟨x2, d2, rfl, h2⟩ := pop_some h1
  obtain ⟨x3, d3, rfl, h3⟩ := pop_some h2
  obtain ⟨x4, d4, rfl, h4⟩ := pop_some h3
  obtain ⟨x5, d5, rfl, h5⟩ := pop_some h4
  obtain ⟨x6, d6, rfl, h6⟩ := pop_some h5
  obtain ⟨x7, d7, rfl, h7⟩ := pop_some h6
  obtain ⟨x8, d8, rfl, h8⟩ := pop_some h7
  obtain ⟨x9, d9, rfl, h9⟩ := pop_some h8
  obtain ⟨x10, d10, rfl, h10⟩ := pop_some h9
  obtain ⟨x11, d11, rfl, h11⟩ := pop_some h10
  obtain ⟨x12, d12, rfl, h12⟩ := pop_some h11
  obtain ⟨x13, d13, rfl, h13⟩ := pop_some h12
  obtain ⟨rfl, g⟩ := popN_some h13
  cases k with
  | zero => cases (show none = some r from g)
  | succ k => exact ⟨k, Nat.lt_succ_self k, _, evermoreref32_Wide.s19, (evermoreref32_Wide.e19 k x0 x1 x2 x3 x4 x5 x6 x7 x8 x9 x10 x11 x12 x13).symm.trans g⟩
theorem evermoreref32_Wide.e53 (k : Nat) (x0 : Bool) (x1 : Int) (x2 : Int) (x3 : Int) (x4 : Int) (x5 : (List (List Int))) (x6 : (List Int)) (x7 : Int) (x8 : Int) (x9 : (List (List Bool))) (x10 : (List Int)) (x11 : (List Int)) (x12 : Int) (x13 : Int) (x14 : (List (List Int))) (x15 : (List Int)) (x16 : (List (List Int))) (x17 : (List Int)) : evermoreref32_Wide.l26 (k + 1) x0 x1 x2 x3 x4 x5 x6 x7 x8 x9 x10 x11 x12 x13 x14 x15 x16 x17 = evermoreref32_Wide.R k (start (stackOf 53 evermoreref32_Wide.body)) (evermoreref32_Wide.t53.fill [⟨.bool, x0⟩, ⟨(.int .i64), x1⟩, ⟨(.int .i64), x2⟩, ⟨(.int .i64), x3⟩, ⟨(.int .i64), x4⟩, ⟨(.slice (.slice (.int .i64))), x5⟩, ⟨(.slice (.int .i64)), x6⟩, ⟨(.int .i64), x7⟩, ⟨(.int .i64), x8⟩, ⟨(.slice (.slice .bool)), x9⟩, ⟨(.slice (.int .i64)), x10⟩, ⟨(.slice (.int .i64)), x11⟩, ⟨(.int .i64), x12⟩, ⟨(.int .i64), x13⟩, ⟨(.slice (.slice (.int .i64))), x14⟩, ⟨(.slice (.int .i64)), x15⟩, ⟨(.slice (.slice (.int .i64))), x16⟩, ⟨(.slice (.int .i64)), x17⟩]) := by kernel_rfl
theorem evermoreref32_Wide.s53 : stackAt 53 evermoreref32_Wide.body [] = some (stackOf 53 evermoreref32_Wide.body) := by kernel_rfl
theorem evermoreref32_Wide.h53 (k : Nat) (ds : List Dat) (r : Int × Int × (List (List Int)) × (List Int)) (h : evermoreref32_Wide.c53 k ds = some r) : ∃ k', k' < k ∧ ∃ s, stackAt 53 evermoreref32_Wide.body [] = some s ∧ evermoreref32_Wide.R k' (start s) (evermoreref32_Wide.t53.fill ds) = some r := by
  unfold evermoreref32_Wide.c53 at h
  obtain ⟨x0, d0, rfl, h0⟩ := pop_some h
  obtain ⟨x1, d1, rfl, h1⟩ := pop_some h0
  obtain ⟨x2, d2, rfl, h2⟩ := pop_some h1
  obtain ⟨x3, d3, rfl, h3⟩ := pop_some h2
  obtain ⟨x4, d4, rfl, h4⟩ := pop_some h3
  obtain ⟨x5, d5, rfl, h5⟩ := pop_some h4
  obtain ⟨x6, d6, rfl, h6⟩ := pop_some h5
  obtain ⟨x7, d7, rfl, h7⟩ := pop_some h6
  obtain ⟨x8, d8, rfl, h8⟩ := pop_some h7
  obtain ⟨x9, d9, rfl, h9⟩ := pop_some h8
  obtain ⟨x10, d10, rfl, h10⟩ := pop_some h9
  obtain ⟨x11, d11, rfl, h11⟩ := pop_some h10
  obtain ⟨x12, d12, rfl, h12⟩ := pop_some h11
  obtain ⟨x13, d13, rfl, h13⟩ := pop_some h12
  obtain ⟨x14, d14, rfl, h14⟩ := pop_some h13
  obtain ⟨x15, d15, rfl, h15⟩ := pop_some h14
  obtain ⟨x16, d16, rfl, h16⟩ := pop_some h15
  obtain ⟨x17, d17, rfl, h17⟩ := pop_some h16
  obtain ⟨rfl, g⟩ := popN_some h17
  cases k with
  | zero => cases (show none = some r from g)
  | succ k => exact ⟨k, Nat.lt_succ_self k, _, evermoreref32_Wide.s53, (evermoreref32_Wide.e53 k x0 x1 x2 x3 x4 x5 x6 x7 x8 x9 x10 x11 x12 x13 x14 x15 x16 x17).symm.trans g⟩
theorem evermoreref32_Wide.e25 (k : Nat) (x0 : Bool) (x1 : Int) (x2 : Int) (x3 : Bool) (x4 : Int) (x5 : Int) (x6 : Int) (x7 : (List (List Int))) (x8 : (List Int)) (x9 : Int) (x10 : Int) (x11 : (List (List Bool))) (x12 : (List Bool)) (x13 : (List (List Int))) (x14 : (List Int)) : evermoreref32_Wide.l12 (k + 1) x0 x1 x2 x3 x4 x5 x6 x7 x8 x9 x10 x11 x12 x13 x14 = evermoreref32_Wide.R k (start (stackOf 25 evermoreref32_Wide.body)) (evermoreref32_Wide.t25.fill [⟨.bool, x0⟩, ⟨(.int .i64), x1⟩, ⟨(.int .i64), x2⟩, ⟨.bool, x3⟩, ⟨(.int .i64), x4⟩, ⟨(.int .i64), x5⟩, ⟨(.int .i64), x6⟩, ⟨(.slice (.slice (.int .i64))), x7⟩, ⟨(.slice (.int .i64)), x8⟩, ⟨(.int .i64), x9⟩, ⟨(.int .i64), x10⟩, ⟨(.slice (.slice .bool)), x11⟩, ⟨(.slice .bool), x12⟩, ⟨(.slice (.slice (.int .i64))), x13⟩, ⟨(.slice (.int .i64)), x14⟩]) := by kernel_rfl
theorem evermoreref32_Wide.s25 : stackAt 25 evermoreref32_Wide.body [] = some (stackOf 25 evermoreref32_Wide.body) := by kernel_rfl
theorem evermoreref32_Wide.h25 (k : Nat) (ds : List Dat) (r : Int × Int × (List (List Int)) × (List Int)) (h : evermoreref32_Wide.c25 k ds = some r) : ∃ k', k' < k ∧ ∃ s, stackAt 25 evermoreref32_Wide.body [] = some s ∧ evermoreref32_Wide.R k' (start s) (evermoreref32_Wide.t25.fill ds) = some r := by
  unfold evermoreref32_Wide.c25 at h
  obtain ⟨x0, d0, rfl, h0⟩ := pop_some h
  obtain ⟨x1, d1, rfl, h1⟩ := pop_some h0
  obtain ⟨x2, d2, rfl, h2⟩ := pop_some h1
  obtain ⟨x3, d3, rfl, h3⟩ := pop_some h2
  obtain ⟨x4, d4, rfl, h4⟩ := pop_some h3
  obtain ⟨x5, d5, rfl, h5⟩ := pop_some h4
  obtain ⟨x6, d6, rfl, h6⟩ := pop_some h5
  obtain ⟨x7, d7, rfl, h7⟩ := pop_some h6
  obtain ⟨x8, d8, rfl, h8⟩ := pop_some h7
  obtain ⟨x9, d9, rfl, h9⟩ := pop_some h8
  obtain ⟨x10, d10, rfl, h10⟩ := pop_some h9
  obtain ⟨x11, d11, rfl, h11⟩ := pop_some h10
  obtain ⟨x12, d12, rfl, h12⟩ := pop_some h11
  obtain ⟨x13, d13, rfl, h13⟩ := pop_some h12
  obtain ⟨x14, d14, rfl, h14⟩ := pop_some h13
  obtain ⟨rfl, g⟩ := popN_some h14
  cases k with
  | zero => cases (show none = some r from g)
  | succ k => exact ⟨k, Nat.lt_succ_self k, _, evermoreref32_Wide.s25, (evermoreref32_Wide.e25 k x0 x1 x2 x3 x4 x5 x6 x7 x8 x9 x10 x11 x12 x13 x14).symm.trans g⟩
theorem evermoreref32_Wide.e61 (k : Nat) (x0 : Bool) (x1 : Int) (x2 : Int) (x3 : Int) (x4 : Int) (x5 : Int) (x6 : (List (List Int))) (x7 : (List Int)) (x8 : Int) (x9 : Int) (x10 : (List (List Bool))) (x11 : (List Int)) (x12 : (List Int)) (x13 : Int) (x14 : Int) (x15 : (List Int)) (x16 : (List (List Int))) (x17 : (List Int)) (x18 : (List (List Int))) (x19 : (List Int)) : evermoreref32_Wide.l30 (k + 1) x0 x1 x2 x3 x4 x5 x6 x7 x8 x9 x10 x11 x12 x13 x14 x15 x16 x17 x18 x19 = evermoreref32_Wide.R k (start (stackOf 61 evermoreref32_Wide.body)) (evermoreref32_Wide.t61.fill [⟨.bool, x0⟩, ⟨(.int .i64), x1⟩, ⟨(.int .i64), x2⟩, ⟨(.int .i64), x3⟩, ⟨(.int .i64), x4⟩, ⟨(.int .i64), x5⟩, ⟨(.slice (.slice (.int .i64))), x6⟩, ⟨(.slice (.int .i64)), x7⟩, ⟨(.int .i64), x8⟩, ⟨(.int .i64), x9⟩, ⟨(.slice (.slice .bool)), x10⟩, ⟨(.slice (.int .i64)), x11⟩, ⟨(.slice (.int .i64)), x12⟩, ⟨(.int .i64), x13⟩, ⟨(.int .i64), x14⟩, ⟨(.slice (.int .i64)), x15⟩, ⟨(.slice (.slice (.int .i64))), x16⟩, ⟨(.slice (.int .i64)), x17⟩, ⟨(.slice (.slice (.int .i64))), x18⟩, ⟨(.slice (.int .i64)), x19⟩]) := by kernel_rfl
theorem evermoreref32_Wide.s61 : stackAt 61 evermoreref32_Wide.body [] = some (stackOf 61 evermoreref32_Wide.body) := by kernel_rfl
theorem evermoreref32_Wide.h61 (k : Nat) (ds : List Dat) (r : Int × Int × (List (List Int)) × (List Int)) (h : evermoreref32_Wide.c61 k ds = some r) : ∃ k', k' < k ∧ ∃ s, stackAt 61 evermoreref32_Wide.body [] = some s ∧ evermoreref32_Wide.R k' (start s) (evermoreref32_Wide.t61.fill ds) = some r := by
  unfold evermoreref32_Wide.c61 at h
  obtain ⟨x0, d0, rfl, h0⟩ := pop_some h
  obtain ⟨x1, d1, rfl, h1⟩ := pop_some h0
  obtain ⟨x2, d2, rfl, h2⟩ := pop_some h1
  obtain ⟨x3, d3, rfl, h3⟩ := pop_some h2
  obtain ⟨x4, d4, rfl, h4⟩ := pop_some h3
  obtain ⟨x5, d5, rfl, h5⟩ := pop_some h4
  obtain ⟨x6, d6, rfl, h6⟩ := pop_some h5
  obtain ⟨x7, d7, rfl, h7⟩ := pop_some h6
  obtain ⟨x8, d8, rfl, h8⟩ := pop_some h7
  obtain ⟨x9, d9, rfl, h9⟩ := pop_some h8
  obtain ⟨x10, d10, rfl, h10⟩ := pop_some h9
  obtain ⟨x11, d11, rfl, h11⟩ := pop_some h10
  obtain ⟨x12, d12, rfl, h12⟩ := pop_some h11
  obtain ⟨x13, d13, rfl, h13⟩ := pop_some h12
  obtain ⟨x14, d14, rfl, h14⟩ := pop_some h13
  obtain ⟨x15, d15, rfl, h15⟩ := pop_some h14
  obtain ⟨x16, d16, rfl, h16⟩ := pop_some h15
  obtain ⟨x17, d17, rfl, h17⟩ := pop_some h16
  obtain ⟨x18, d18, rfl, h18⟩ := pop_some h17
  obtain ⟨x19, d19, rfl, h19⟩ := pop_some h18
  obtain ⟨rfl, g⟩ := popN_some h19
  cases k with
  | zero => cases (show none = some r from g)
  | succ k => exact ⟨k, Nat.lt_succ_self k, _, evermoreref32_Wide.s61, (evermoreref32_Wide.e61 k x0 x1 x2 x3 x4 x5 x6 x7 x8 x9 x10 x11 x12 x13 x14 x15 x16 x17 x18 x19).symm.trans g⟩
theorem evermoreref32_Wide.e31 (k : Nat) (x0 : Bool) (x1 : Int) (x2 : Int) (x3 : Bool) (x4 : Int) (x5 : Int) (x6 : Int) (x7 : Int) (x8 : (List (List Int))) (x9 : (List Int)) (x10 : Int) (x11 : Int) (x12 : (List (List Bool))) (x13 : (List Bool)) (x14 : (List (List Int))) (x15 : (List Int)) : evermoreref32_Wide.l15 (k + 1) x0 x1 x2 x3 x4 x5 x6 x7 x8 x9 x10 x11 x12 x13 x14 x15 = evermoreref32_Wide.R k (start (stackOf 31 evermoreref32_Wide.body)) (evermoreref32_Wide.t31.fill [⟨.bool, x0⟩, ⟨(.int .i64), x1⟩, ⟨(.int .i64), x2⟩, ⟨.bool, x3⟩, ⟨(.int .i64), x4⟩, ⟨(.int .i64), x5⟩, ⟨(.int .i64), x6⟩, ⟨(.int .i64), x7⟩, ⟨(.slice (.slice (.int .i64))), x8⟩, ⟨(.slice (.int .i64)), x9⟩, ⟨(.int .i64), x10⟩, ⟨(.int .i64), x11⟩, ⟨(.slice (.slice .bool)), x12⟩, ⟨(.slice .bool), x13⟩, ⟨(.slice (.slice (.int .i64))), x14⟩, ⟨(.slice (.int .i64)), x15⟩]) := by kernel_rfl
theorem evermoreref32_Wide.s31 : stackAt 31 evermoreref32_Wide.body [] = some (stackOf 31 evermoreref32_Wide.body) := by kernel_rfl
theorem evermoreref32_Wide.h31 (k : Nat) (ds : List Dat) (r : Int × Int × (List (List Int)) × (List Int)) (h : evermoreref32_Wide.c31 k ds = some r) : ∃ k', k' < k ∧ ∃ s, stackAt 31 evermoreref32_Wide.body [] = some s ∧ evermoreref32_Wide.R k' (start s) (evermoreref32_Wide.t31.fill ds) = some r := by
  unfold evermoreref32_Wide.c31 at h
  obtain ⟨x0, d0, rfl, h0⟩ := pop_some h
  obtain ⟨x1, d1, rfl, h1⟩ := pop_some h0
  obtain ⟨x2, d2, rfl, h2⟩ := pop_some h1
  obtain ⟨x3, d3, rfl, h3⟩ := pop_some h2
  obtain ⟨x4, d4, rfl, h4⟩ := pop_some h3
  obtain ⟨x5, d5, rfl, h5⟩ := pop_some h4
  obtain ⟨x6, d6, rfl, h6⟩ := pop_some h5
  obtain ⟨x7, d7, rfl, h7⟩ := pop_some h6
  obtain ⟨x8, d8, rfl, h8⟩ := pop_some h7
  obtain ⟨x9, d9, rfl, h9⟩ := pop_some h8
  obtain ⟨x10, d10, rfl, h10⟩ := pop_some h9
  obtain ⟨x11, d11, rfl, h11⟩ := pop_some h10
  obtain ⟨x12, d12, rfl, h12⟩ := pop_some h11
  obtain ⟨x13, d13, rfl, h13⟩ := pop_some h12
  obtain ⟨x14, d14, rfl, h14⟩ := pop_some h13
  obtain ⟨x15, d15, rfl, h15⟩ := pop_some h14
  obtain ⟨rfl, g⟩ := popN_some h15
  cases k with
  | zero => cases (show none = some r from g)
  | succ k => exact ⟨k, Nat.lt_succ_self k, _, evermoreref32_Wide.s31, (evermoreref32_Wide.e31 k x0 x1 x2 x3 x4 x5 x6 x7 x8 x9 x10 x11 x12 x13 x14 x15).symm.trans g⟩
theorem evermoreref32_Wide.e70 (k : Nat) (x0 : Bool) (x1 : Int) (x2 : Int) (x3 : Int) (x4 : Int) (x5 : Int) (x6 : Int) (x7 : (List (List Int))) (x8 : (List Int)) (x9 : Int) (x10 : Int) (x11 : (List (List Bool))) (x12 : (List Int)) (x13 : (List Int)) (x14 : Int) (x15 : Int) (x16 : (List Int)) (x17 : (List (List Int))) (x18 : (List Int)) (x19 : (List (List Int))) (x20 : (List Int)) : evermoreref32_Wide.j35 (k + 1) x0 x1 x2 x3 x4 x5 x6 x7 x8 x9 x10 x11 x12 x13 x14 x15 x16 x17 x18 x19 x20 = evermoreref32_Wide.R k (start (stackOf 70 evermoreref32_Wide.body)) (evermoreref32_Wide.t70.fill [⟨.bool, x0⟩, ⟨(.int .i64), x1⟩, ⟨(.int .i64), x2⟩, ⟨(.int .i64), x3⟩, ⟨(.int .i64), x4⟩, ⟨(.int .i64), x5⟩, ⟨(.int .i64), x6⟩, ⟨(.slice (.slice (.int .i64))), x7⟩, ⟨(.slice (.int .i64)), x8⟩, ⟨(.int .i64), x9⟩, ⟨(.int .i64), x10⟩, ⟨(.slice (.slice .bool)), x11⟩, ⟨(.slice (.int .i64)), x12⟩, ⟨(.slice (.int .i64)), x13⟩, ⟨(.int .i64), x14⟩, ⟨(.int .i64), x15⟩, ⟨(.slice (.int .i64)), x16⟩, ⟨(.slice (.slice (.int .i64))), x17⟩, ⟨(.slice (.int .i64)), x18⟩, ⟨(.slice (.slice (.int .i64))), x19⟩, ⟨(.slice (.int .i64)), x20⟩]) := by kernel_rfl
theorem evermoreref32_Wide.s70 : stackAt 70 evermoreref32_Wide.body [] = some (stackOf 70 evermoreref32_Wide.body) := by kernel_rfl
theorem evermoreref32_Wide.h70 (k : Nat) (ds : List Dat) (r : Int × Int × (List (List Int)) × (List Int)) (h : evermoreref32_Wide.c70 k ds = some r) : ∃ k', k' < k ∧ ∃ s, stackAt 70 evermoreref32_Wide.body [] = some s ∧ evermoreref32_Wide.R k' (start s) (evermoreref32_Wide.t70.fill ds) = some r := by
  unfold evermoreref32_Wide.c70 at h
  obtain ⟨x0, d0, rfl, h0⟩ := pop_some h
  obtain ⟨x1, d1, rfl, h1⟩ := pop_some h0
  obtain ⟨x2, d2, rfl, h2⟩ := pop_some h1
  obtain ⟨x3, d3, rfl, h3⟩ := pop_some h2
  obtain ⟨x4, d4, rfl, h4⟩ := pop_some h3
  obtain ⟨x5, d5, rfl, h5⟩ := pop_some h4
  obtain ⟨x6, d6, rfl, h6⟩ := pop_some h5
  obtain ⟨x7, d7, rfl, h7⟩ := pop_some h6
  obtain ⟨x8, d8, rfl, h8⟩ := pop_some h7
  obtain ⟨x9, d9, rfl, h9⟩ := pop_some h8
  obtain ⟨x10, d10, rfl, h10⟩ := pop_some h9
  obtain ⟨x11, d11, rfl, h11⟩ := pop_some h10
  obtain ⟨x12, d12, rfl, h12⟩ := pop_some h11
  obtain ⟨x13, d13, rfl, h13⟩ := pop_some h12
  obtain ⟨x14, d14, rfl, h14⟩ := pop_some h13
  obtain ⟨x15, d15, rfl, h15⟩ := pop_some h14
  obtain ⟨x16, d16, rfl, h16⟩ := pop_some h15
  obtain ⟨x17, d17, rfl, h17⟩ := pop_some h16
  obtain ⟨x18, d18, rfl, h18⟩ := pop_some h17
  obtain ⟨x19, d19, rfl, h19⟩ := pop_some h18
  obtain ⟨x20, d20, rfl, h20⟩ := pop_some h19
  obtain ⟨rfl, g⟩ := popN_some h20
  cases k with
  | zero => cases (show none = some r from g)
  | succ k => exact ⟨k, Nat.lt_succ_self k, _, evermoreref32_Wide.s70, (evermoreref32_Wide.e70 k x0 x1 x2 x3 x4 x5 x6 x7 x8 x9 x10 x11 x12 x13 x14 x15 x16 x17 x18 x19 x20).symm.trans g⟩
theorem evermoreref32_Wide.e97 (k : Nat) (x0 : Bool) (x1 : Int) (x2 : Int) (x3 : Int) (x4 : Int) (x5 : Int) (x6 : Int) (x7 : (List (List Int))) (x8 : (List Int)) (x9 : Int) (x10 : Int) (x11 : (List (List Bool))) (x12 : (List Int)) (x13 : (List Int)) (x14 : Int) (x15 : Int) (x16 : (List (List Int))) (x17 : (List Int)) (x18 : (List (List Int))) (x19 : (List Int)) : evermoreref32_Wide.l48 (k + 1) x0 x1 x2 x3 x4 x5 x6 x7 x8 x9 x10 x11 x12 x13 x14 x15 x16 x17 x18 x19 = evermoreref32_Wide.R k (start (stackOf 97 evermoreref32_Wide.body)) (evermoreref32_Wide.t97.fill [⟨.bool, x0⟩, ⟨(.int .i64), x1⟩, ⟨(.int .i64), x2⟩, ⟨(.int .i64), x3⟩, ⟨(.int .i64), x4⟩, ⟨(.int .i64), x5⟩, ⟨(.int .i64), x6⟩, ⟨(.slice (.slice (.int .i64))), x7⟩, ⟨(.slice (.int .i64)), x8⟩, ⟨(.int .i64), x9⟩, ⟨(.int .i64), x10⟩, ⟨(.slice (.slice .bool)), x11⟩, ⟨(.slice (.int .i64)), x12⟩, ⟨(.slice (.int .i64)), x13⟩, ⟨(.int .i64), x14⟩, ⟨(.int .i64), x15⟩, ⟨(.slice (.slice (.int .i64))), x16⟩, ⟨(.slice (.int .i64)), x17⟩, ⟨(.slice (.slice (.int .i64))), x18⟩, ⟨(.slice (.int .i64)), x19⟩]) := by kernel_rfl
theorem evermoreref32_Wide.s97 : stackAt 97 evermoreref32_Wide.body [] = some (stackOf 97 evermoreref32_Wide.body) := by kernel_rfl
theorem evermoreref32_Wide.h97 (k : Nat) (ds : List Dat) (r : Int × Int × (List (List Int)) × (List Int)) (h : evermoreref32_Wide.c97 k ds = some r) : ∃ k', k' < k ∧ ∃ s, stackAt 97 evermoreref32_Wide.body [] = some s ∧ evermoreref32_Wide.R k' (start s) (evermoreref32_Wide.t97.fill ds) = some r := by
  unfold evermoreref32_Wide.c97 at h
  obtain ⟨x0, d0, rfl, h0⟩ := pop_some h
  obtain ⟨x1, d1, rfl, h1⟩ := pop_some h0
  obtain ⟨x2, d2, rfl, h2⟩ := pop_some h1
  obtain ⟨x3, d3, rfl, h3⟩ := pop_some h2
  obtain ⟨x4, d4, rfl, h4⟩ := pop_some h3
  obtain ⟨x5, d5, rfl, h5⟩ := pop_some h4
  obtain ⟨x6, d6, rfl, h6⟩ := pop_some h5
  obtain ⟨x7, d7, rfl, h7⟩ := pop_some h6
  obtain ⟨x8, d8, rfl, h8⟩ := pop_some h7
  obtain ⟨x9, d9, rfl, h9⟩ := pop_some h8
  obtain ⟨x10, d10, rfl, h10⟩ := pop_some h9
  obtain ⟨x11, d11, rfl, h11⟩ := pop_some h10
  obtain ⟨x12, d12, rfl, h12⟩ := pop_some h11
  obtain ⟨x13, d13, rfl, h13⟩ := pop_some h12
  obtain ⟨x14, d14, rfl, h14⟩ := pop_some h13
  obtain ⟨x15, d15, rfl, h15⟩ := pop_some h14
  obtain ⟨x16, d16, rfl, h16⟩ := pop_some h15
  obtain ⟨x17, d17, rfl, h17⟩ := pop_some h16
  obtain ⟨x18, d18, rfl, h18⟩ := pop_some h17
  obtain ⟨x19, d19, rfl, h19⟩ := pop_some h18
  obtain ⟨rfl, g⟩ := popN_some h19
  cases k with
  | zero => cases (show none = some r from g)
  | succ k => exact ⟨k, Nat.lt_succ_self k, _, evermoreref32_Wide.s97, (evermoreref32_Wide.e97 k x0 x1 x2 x3 x4 x5 x6 x7 x8 x9 x10 x11 x12 x13 x14 x15 x16 x17 x18 x19).symm.trans g⟩
theorem evermoreref32_Wide.e73 (k : Nat) (x0 : Bool) (x1 : Int) (x2 : Int) (x3 : Int) (x4 : Int) (x5 : Int) (x6 : Int) (x7 : Int) (x8 : (List (List Int))) (x9 : (List Int)) (x10 : Int) (x11 : Int) (x12 : (List (List Bool))) (x13 : (List Int)) (x14 : (List Int)) (x15 : Int) (x16 : Int) (x17 : (List Int)) (x18 : (List (List Int))) (x19 : (List Int)) (x20 : (List (List Int))) (x21 : (List Int)) : evermoreref32_Wide.l36 (k + 1) x0 x1 x2 x3 x4 x5 x6 x7 x8 x9 x10 x11 x12 x13 x14 x15 x16 x17 x18 x19 x20 x21 = evermoreref32_Wide.R k (start (stackOf 73 evermoreref32_Wide.body)) (evermoreref32_Wide.t73.fill [⟨.bool, x0⟩, ⟨(.int .i64), x1⟩, ⟨(.int .i64), x2⟩, ⟨(.int .i64), x3⟩, ⟨(.int .i64), x4⟩, ⟨(.int .i64), x5⟩, ⟨(.int .i64), x6⟩, ⟨(.int .i64), x7⟩, ⟨(.slice (.slice (.int .i64))), x8⟩, ⟨(.slice (.int .i64)), x9⟩, ⟨(.int .i64), x10⟩, ⟨(.int .i64), x11⟩, ⟨(.slice (.slice .bool)), x12⟩, ⟨(.slice (.int .i64)), x13⟩, ⟨(.slice (.int .i64)), x14⟩, ⟨(.int .i64), x15⟩, ⟨(.int .i64), x16⟩, ⟨(.slice (.int .i64)), x17⟩, ⟨(.slice (.slice (.int .i64))), x18⟩, ⟨(.slice (.int .i64)), x19⟩, ⟨(.slice (.slice (.int .i64))), x20⟩, ⟨(.slice (.int .i64)), x21⟩]) := by kernel_rfl
theorem evermoreref32_Wide.s73 : stackAt 73 evermoreref32_Wide.body [] = some (stackOf 73 evermoreref32_Wide.body) := by kernel_rfl
theorem evermoreref32_Wide.h73 (k : Nat) (ds : List Dat) (r : Int × Int × (List (List Int)) × (List Int)) (h : evermoreref32_Wide.c73 k ds = some r) : ∃ k', k' < k ∧ ∃ s, stackAt 73 evermoreref32_Wide.body [] = some s ∧ evermoreref32_Wide.R k' (start s) (evermoreref32_Wide.t73.fill ds) = some r := by
  unfold evermoreref32_Wide.c73 at h
  obtain ⟨x0, d0, rfl, h0⟩ := pop_some h
  obtain ⟨x1, d1, rfl, h1⟩ := pop_some h0
  obtain ⟨x2, d2, rfl, h2⟩ := pop_some h1
  obtain ⟨x3, d3, rfl, h3⟩ := pop_some h2
  obtain ⟨x4, d4, rfl, h4⟩ := pop_some h3
  obtain ⟨x5, d5, rfl, h5⟩ := pop_some h4
  obtain ⟨x6, d6, rfl, h6⟩ := pop_some h5
  obtain ⟨x7, d7, rfl, h7⟩ := pop_some h6
  obtain ⟨x8, d8, rfl, h8⟩ := pop_some h7
  obtain ⟨x9, d9, rfl, h9⟩ := pop_some h8
  obtain ⟨x10, d10, rfl, h10⟩ := pop_some h9
  obtain ⟨x11, d11, rfl, h11⟩ := pop_some h10
  obtain ⟨x12, d12, rfl, h12⟩ := pop_some h11
  obtain ⟨x13, d13, rfl, h13⟩ := pop_some h12
  obtain ⟨x14, d14, rfl, h14⟩ := pop_some h13
  obtain ⟨x15, d15, rfl, h15⟩ := pop_some h14
  obtain ⟨x16, d16, rfl, h16⟩ := pop_some h15
  obtain ⟨x17, d17, rfl, h17⟩ := pop_some h16
  obtain ⟨x18, d18, rfl, h18⟩ := pop_some h17
  obtain ⟨x19, d19, rfl, h19⟩ := pop_some h18
  obtain ⟨x20, d20, rfl, h20⟩ := pop_some h19
  obtain ⟨x21, d21, rfl, h21⟩ := pop_some h20
  obtain ⟨rfl, g⟩ := popN_some h21
  cases k with
  | zero => cases (show none = some r from g)
  | succ k => exact ⟨k, Nat.lt_succ_self k, _, evermoreref32_Wide.s73, (evermoreref32_Wide.e73 k x0 x1 x2 x3 x4 x5 x6 x7 x8 x9 x10 x11 x12 x13 x14 x15 x16 x17 x18 x19 x20 x21).symm.trans g⟩
theorem evermoreref32_Wide.e98 (k : Nat) (x0 : Bool) (x1 : Int) (x2 : Int) (x3 : Int) (x4 : Int) (x5 : Int) (x6 : Int) (x7 : (List (List Int))) (x8 : (List Int)) (x9 : Int) (x10 : Int) (x11 : (List (List Bool))) (x12 : (List Int)) (x13 : (List Int)) (x14 : Int) (x15 : Int) (x16 : (List (List Int))) (x17 : (List Int)) (x18 : (List (List Int))) (x19 : (List Int)) : evermoreref32_Wide.j49 (k + 1) x0 x1 x2 x3 x4 x5 x6 x7 x8 x9 x10 x11 x12 x13 x14 x15 x16 x17 x18 x19 = evermoreref32_Wide.R k (start (stackOf 98 evermoreref32_Wide.body)) (evermoreref32_Wide.t98.fill [⟨.bool, x0⟩, ⟨(.int .i64), x1⟩, ⟨(.int .i64), x2⟩, ⟨(.int .i64), x3⟩, ⟨(.int .i64), x4⟩, ⟨(.int .i64), x5⟩, ⟨(.int .i64), x6⟩, ⟨(.slice (.slice (.int .i64))), x7⟩, ⟨(.slice (.int .i64)), x8⟩, ⟨(.int .i64), x9⟩, ⟨(.int .i64), x10⟩, ⟨(.slice (.slice .bool)), x11⟩, ⟨(.slice (.int .i64)), x12⟩, ⟨(.slice (.int .i64)), x13⟩, ⟨(.int .i64), x14⟩, ⟨(.int .i64), x15⟩, ⟨(.slice (.slice (.int .i64))), x16⟩, ⟨(.slice (.int .i64)), x17⟩, ⟨(.slice (.slice (.int .i64))), x18⟩, ⟨(.slice (.int .i64)), x19⟩]) := by kernel_rfl
theorem evermoreref32_Wide.s98 : stackAt 98 evermoreref32_Wide.body [] = some (stackOf 98 evermoreref32_Wide.body) := by kernel_rfl
theorem evermoreref32_Wide.h98 (k : Nat) (ds : List Dat) (r : Int × Int × (List (List Int)) × (List Int)) (h : evermoreref32_Wide.c98 k ds = some r) : ∃ k', k' < k ∧ ∃ s, stackAt 98 evermoreref32_Wide.body [] = some s ∧ evermoreref32_Wide.R k' (start s) (evermoreref32_Wide.t98.fill ds) = some r := by
  unfold evermoreref32_Wide.c98 at h
  obtain ⟨x0, d0, rfl, h0⟩ := pop_some h
  obtain ⟨x1, d1, rfl, h1⟩ := pop_some h0
  obtain ⟨x2, d2, rfl, h2⟩ := pop_some h1
  obtain ⟨x3, d3, rfl, h3⟩ := pop_some h2
  obtain ⟨x4, d4, rfl, h4⟩ := pop_some h3
  obtain ⟨x5, d5, rfl, h5⟩ := pop_some h4
  obtain ⟨x6, d6, rfl, h6⟩ := pop_some h5
  obtain ⟨x7, d7, rfl, h7⟩ := pop_some h6
  obtain ⟨x8, d8, rfl, h8⟩ := pop_some h7
  obtain ⟨x9, d9, rfl, h9⟩ := pop_some h8
  obtain ⟨x10, d10, rfl, h10⟩ := pop_some h9
  obtain ⟨x11, d11, rfl, h11⟩ := pop_some h10
  obtain ⟨x12, d12, rfl, h12⟩ := pop_some h11
  obtain ⟨x13, d13, rfl, h13⟩ := pop_some h12
  obtain ⟨x14, d14, rfl, h14⟩ := pop_some h13
  obtain ⟨x15, d15, rfl, h15⟩ := pop_some h14
  obtain ⟨x16, d16, rfl, h16⟩ := pop_some h15
  obtain ⟨x17, d17, rfl, h17⟩ := pop_some h16
  obtain ⟨x18, d18, rfl, h18⟩ := pop_some h17
  obtain ⟨x19, d19, rfl, h19⟩ := pop_some h18
  obtain ⟨rfl, g⟩ := popN_some h19
  cases k with
  | zero => cases (show none = some r from g)
  | succ k => exact ⟨k, Nat.lt_succ_self k, _, evermoreref32_Wide.s98, (evermoreref32_Wide.e98 k x0 x1 x2 x3 x4 x5 x6 x7 x8 x9 x10 x11 x12 x13 x14 x15 x16 x17 x18 x19).symm.trans g⟩
theorem evermoreref32_Wide.e74 (k : Nat) (x0 : Bool) (x1 : Int) (x2 : Int) (x3 : Int) (x4 : Int) (x5 : Int) (x6 : Int) (x7 : Int) (x8 : (List (List Int))) (x9 : (List Int)) (x10 : Int) (x11 : Int) (x12 : (List (List Bool))) (x13 : (List Int)) (x14 : (List Int)) (x15 : Int) (x16 : Int) (x17 : (List Int)) (x18 : (List (List Int))) (x19 : (List Int)) (x20 : (List (List Int))) (x21 : (List Int)) : evermoreref32_Wide.j37 (k + 1) x0 x1 x2 x3 x4 x5 x6 x7 x8 x9 x10 x11 x12 x13 x14 x15 x16 x17 x18 x19 x20 x21 = evermoreref32_Wide.R k (start (stackOf 74 evermoreref32_Wide.body)) (evermoreref32_Wide.t74.fill [⟨.bool, x0⟩, ⟨(.int .i64), x1⟩, ⟨(.int .i64), x2⟩, ⟨(.int .i64), x3⟩, ⟨(.int .i64), x4⟩, ⟨(.int .i64), x5⟩, ⟨(.int .i64), x6⟩, ⟨(.int .i64), x7⟩, ⟨(.slice (.slice (.int .i64))), x8⟩, ⟨(.slice (.int .i64)), x9⟩, ⟨(.int .i64), x10⟩, ⟨(.int .i64), x11⟩, ⟨(.slice (.slice .bool)), x12⟩, ⟨(.slice (.int .i64)), x13⟩, ⟨(.slice (.int .i64)), x14⟩, ⟨(.int .i64), x15⟩, ⟨(.int .i64), x16⟩, ⟨(.slice (.int .i64)), x17⟩, ⟨(.slice (.slice (.int .i64))), x18⟩, ⟨(.slice (.int .i64)), x19⟩, ⟨(.slice (.slice (.int .i64))), x20⟩, ⟨(.slice (.int .i64)), x21⟩]) := by kernel_rfl
theorem evermoreref32_Wide.s74 : stackAt 74 evermoreref32_Wide.body [] = some (stackOf 74 evermoreref32_Wide.body) := by kernel_rfl
theorem evermoreref32_Wide.h74 (k : Nat) (ds : List Dat) (r : Int × Int × (List (List Int)) × (List Int)) (h : evermoreref32_Wide.c74 k ds = some r) : ∃ k', k' < k ∧ ∃ s, stackAt 74 evermoreref32_Wide.body [] = some s ∧ evermoreref32_Wide.R k' (start s) (evermoreref32_Wide.t74.fill ds) = some r := by
  unfold evermoreref32_Wide.c74 at h
  obtain ⟨x0, d0, rfl, h0⟩ := pop_some h
  obtain ⟨x1, d1, rfl, h1⟩ := pop_some h0
  obtain ⟨x2, d2, rfl, h2⟩ := pop_some h1
  obtain ⟨x3, d3, rfl, h3⟩ := pop_some h2
  obtain ⟨x4, d4, rfl, h4⟩ := pop_some h3
  obtain ⟨x5, d5, rfl, h5⟩ := pop_some h4
  obtain ⟨x6, d6, rfl, h6⟩ := pop_some h5
  obtain ⟨x7, d7, rfl, h7⟩ := pop_some h6
  obtain ⟨x8, d8, rfl, h8⟩ := pop_some h7
  obtain ⟨x9, d9, rfl, h9⟩ := pop_some h8
  obtain ⟨x10, d10, rfl, h10⟩ := pop_some h9
  obtain ⟨x11, d11, rfl, h11⟩ := pop_some h10
  obtain ⟨x12, d12, rfl, h12⟩ := pop_some h11
  obtain ⟨x13, d13, rfl, h13⟩ := pop_some h12
  obtain ⟨x14, d14, rfl, h14⟩ := pop_some h13
  obtain ⟨x15, d15, rfl, h15⟩ := pop_some h14
  obtain ⟨x16, d16, rfl, h16⟩ := pop_some h15
  obtain ⟨x17, d17, rfl, h17⟩ := pop_some h16
  obtain ⟨x18, d18, rfl, h18⟩ := pop_some h17
  obtain ⟨x19, d19, rfl, h19⟩ := pop_some h18
  obtain ⟨x20, d20, rfl, h20⟩ := pop_some h19
  obtain ⟨x21, d21, rfl, h21⟩ := pop_some h20
  obtain ⟨rfl, g⟩ := popN_some h21
  cases k with
  | zero => cases (show none = some r from g)
  | succ k => exact ⟨k, Nat.lt_succ_self k, _, evermoreref32_Wide.s74, (evermoreref32_Wide.e74 k x0 x1 x2 x3 x4 x5 x6 x7 x8 x9 x10 x11 x12 x13 x14 x15 x16 x17 x18 x19 x20 x21).symm.trans g⟩
theorem evermoreref32_Wide.e88 (k : Nat) (x0 : Bool) (x1 : Int) (x2 : Int) (x3 : Int) (x4 : Int) (x5 : Int) (x6 : Int) (x7 : (List (List Int))) (x8 : (List Int)) (x9 : Int) (x10 : Int) (x11 : (List (List Bool))) (x12 : (List Int)) (x13 : (List Int)) (x14 : Int) (x15 : Int) (x16 : (List Int)) (x17 : (List (List Int))) (x18 : (List Int)) (x19 : (List (List Int))) (x20 : (List Int)) : evermoreref32_Wide.j44 (k + 1) x0 x1 x2 x3 x4 x5 x6 x7 x8 x9 x10 x11 x12 x13 x14 x15 x16 x17 x18 x19 x20 = evermoreref32_Wide.R k (start (stackOf 88 evermoreref32_Wide.body)) (evermoreref32_Wide.t88.fill [⟨.bool, x0⟩, ⟨(.int .i64), x1⟩, ⟨(.int .i64), x2⟩, ⟨(.int .i64), x3⟩, ⟨(.int .i64), x4⟩, ⟨(.int .i64), x5⟩, ⟨(.int .i64), x6⟩, ⟨(.slice (.slice (.int .i64))), x7⟩, ⟨(.slice (.int .i64)), x8⟩, ⟨(.int .i64), x9⟩, ⟨(.int .i64), x10⟩, ⟨(.slice (.slice .bool)), x11⟩, ⟨(.slice (.int .i64)), x12⟩, ⟨(.slice (.int .i64)), x13⟩, ⟨(.int .i64), x14⟩, ⟨(.int .i64), x15⟩, ⟨(.slice (.int .i64)), x16⟩, ⟨(.slice (.slice (.int .i64))), x17⟩, ⟨(.slice (.int .i64)), x18⟩, ⟨(.slice (.slice (.int .i64))), x19⟩, ⟨(.slice (.int .i64)), x20⟩]) := by kernel_rfl
theorem evermoreref32_Wide.s88 : stackAt 88 evermoreref32_Wide.body [] = some (stackOf 88 evermoreref32_Wide.body) := by kernel_rfl
theorem evermoreref32_Wide.h88 (k : Nat) (ds : List Dat) (r : Int × Int × (List (List Int)) × (List Int)) (h : evermoreref32_Wide.c88 k ds = some r) : ∃ k', k' < k ∧ ∃ s, stackAt 88 evermoreref32_Wide.body [] = some s ∧ evermoreref32_Wide.R k' (start s) (evermoreref32_Wide.t88.fill ds) = some r := by
  unfold evermoreref32_Wide.c88 at h
  obtain ⟨x0, d0, rfl, h0⟩ := pop_some h
  obtain ⟨x1, d1, rfl, h1⟩ := pop_some h0
  obtain ⟨x2, d2, rfl, h2⟩ := pop_some h1
  obtain ⟨x3, d3, rfl, h3⟩ := pop_some h2
  obtain ⟨x4, d4, rfl, h4⟩ := pop_some h3
  obtain ⟨x5, d5, rfl, h5⟩ := pop_some h4
  obtain ⟨x6, d6, rfl, h6⟩ := pop_some h5
  obtain ⟨x7, d7, rfl, h7⟩ := pop_some h6
  obtain ⟨x8, d8, rfl, h8⟩ := pop_some h7
  obtain ⟨x9, d9, rfl, h9⟩ := pop_some h8
  obtain ⟨x10, d10, rfl, h10⟩ := pop_some h9
  obtain ⟨x11, d11, rfl, h11⟩ := pop_some h10
  obtain ⟨x12, d12, rfl, h12⟩ := pop_some h11
  obtain ⟨x13, d13, rfl, h13⟩ := pop_some h12
  obtain ⟨x14, d14, rfl, h14⟩ := pop_some h13
  obtain ⟨x15, d15, rfl, h15⟩ := pop_some h14
  obtain ⟨x16, d16, rfl, h16⟩ := pop_some h15
  obtain ⟨x17, d17, rfl, h17⟩ := pop_some h16
  obtain ⟨x18, d18, rfl, h18⟩ := pop_some h17
  obtain ⟨x19, d19, rfl, h19⟩ := pop_some h18
  obtain ⟨x20, d20, rfl, h20⟩ := pop_some h19
  obtain ⟨rfl, g⟩ := popN_some h20
  cases k with
  | zero => cases (show none = some r from g)
  | succ k => exact ⟨k, Nat.lt_succ_self k, _, evermoreref32_Wide.s88, (evermoreref32_Wide.e88 k x0 x1 x2 x3 x4 x5 x6 x7 x8 x9 x10 x11 x12 x13 x14 x15 x16 x17 x18 x19 x20).symm.trans g⟩
theorem evermoreref32_Wide.e (k : Nat) (x0 : (Int × (Int × ((List (List Int)) × ((List Int) × Unit))))) (x1 : Bool) : evermoreref32_Wide.f k x0 x1 = evermoreref32_Wide.R k ([.code evermoreref32_Wide.body]) (evermoreref32_Wide.ti.fill [⟨(.pair (.int .i64) (.pair (.int .i64) (.pair (.slice (.slice (.int .i64))) (.pair (.slice (.int .i64)) .unit)))), x0⟩, ⟨.bool, x1⟩]) := by kernel_rfl
theorem evermoreref32_Wide.h (k : Nat) (ds : List Dat) (r : Int × Int × (List (List Int)) × (List Int)) (h : evermoreref32_Wide.g k ds = some r) : ∃ k', k' < k ∧ evermoreref32_Wide.R k' ([.code evermoreref32_Wide.body]) (evermoreref32_Wide.ti.fill ds) = some r := by
  cases k with
  | zero => cases (show none = some r from h)
  | succ k =>
  replace h : evermoreref32_Wide.c k ds = some r := h
  unfold evermoreref32_Wide.c at h
  obtain ⟨x0, d0, rfl, h0⟩ := pop_some h
  obtain ⟨x1, d1, rfl, h1⟩ := pop_some h0
  obtain ⟨rfl, g⟩ := popN_some h1
  exact ⟨k, Nat.lt_succ_self k, (evermoreref32_Wide.e k x0 x1).symm.trans g⟩
theorem evermoreref32_Wide.o (ds : List Dat) (r : Int × Int × (List (List Int)) × (List Int)) (h : evermoreref32_Wide.out ds = some r) : ds = evermoreref32_Wide.rs r := by
  unfold evermoreref32_Wide.out at h
  obtain ⟨x0, d0, rfl, h0⟩ := pop_some h
  obtain ⟨x1, d1, rfl, h1⟩ := pop_some h0
  obtain ⟨x2, d2, rfl, h2⟩ := pop_some h1
  obtain ⟨x3, d3, rfl, h3⟩ := pop_some h2
  obtain ⟨rfl, g⟩ := popN_some h3
  cases g
  rfl
theorem evermoreref32_Wide.fn : FnOk Try.prog 61 Try.f61 evermoreref32_Wide.body Try.f61.ntmps 2 (fnRes Try.f61) :=
  fnOk_of (by kernel_rfl) (by kernel_rfl) (by kernel_rfl) (by kernel_rfl)
theorem evermoreref32_Wide.con' : ∀ k ds r, evermoreref32_Wide.g k ds = some r → Con Try.prog 61 2 evermoreref32_Wide.ti evermoreref32_Wide.to ds (evermoreref32_Wide.rs r) :=
  fun_ok (T := T) T_ok mixed evermoreref32_Wide.fn (env := evermoreref32_Wide.env) (tbl := evermoreref32_Wide.tbl) (gOut := evermoreref32_Wide.out) (nin := 0) (cuts := [49, 44, 37, 35]) (fuel := 100000) rfl (by kernel_rfl) (by kernel_rfl) (by kernel_rfl) (fun x hx => by
    simp only [evermoreref32_Wide.tbl, List.mem_cons, List.not_mem_nil, or_false] at hx
    rcases hx with rfl | rfl | rfl | rfl | rfl | rfl | rfl | rfl | rfl | rfl | rfl | rfl
    · exact evermoreref32_Wide.h9
    · exact evermoreref32_Wide.h19
    · exact evermoreref32_Wide.h53
    · exact evermoreref32_Wide.h25
    · exact evermoreref32_Wide.h61
    · exact evermoreref32_Wide.h31
    · exact evermoreref32_Wide.h70
    · exact evermoreref32_Wide.h97
    · exact evermoreref32_Wide.h73
    · exact evermoreref32_Wide.h98
    · exact evermoreref32_Wide.h74
    · exact evermoreref32_Wide.h88
) evermoreref32_Wide.o evermoreref32_Wide.h (fun k _ => by unfold evermoreref32_Wide.env; exact (envC_ok (fun ds K r h => by
    obtain ⟨x0, d0, rfl, h0⟩ := pop_some h
    obtain ⟨rfl, g⟩ := popN_some h0
    obtain ⟨r1, h1, h2⟩ := bind_some g
    exact ⟨_, h2, evermoreref32_set.con k _ h1⟩) (envC_ok (fun ds K r h => by
    obtain ⟨x0, d0, rfl, h0⟩ := pop_some h
    obtain ⟨rfl, g⟩ := popN_some h0
    obtain ⟨r1, h1, h2⟩ := bind_some g
    exact ⟨_, h2, evermoreref3_Least.con k _ h1⟩) env0_ok)))
theorem evermoreref32_Wide.con (k : Nat) {x0 : (Int × (Int × ((List (List Int)) × ((List Int) × Unit))))} {x1 : Bool} (r : Int × Int × (List (List Int)) × (List Int)) (h : evermoreref32_Wide.f k x0 x1 = some r) : Con Try.prog 61 2 evermoreref32_Wide.ti evermoreref32_Wide.to [⟨(.pair (.int .i64) (.pair (.int .i64) (.pair (.slice (.slice (.int .i64))) (.pair (.slice (.int .i64)) .unit)))), x0⟩, ⟨.bool, x1⟩] (evermoreref32_Wide.rs r) :=
  evermoreref32_Wide.con' (k + 1) _ r (by show evermoreref32_Wide.c k _ = some r; unfold evermoreref32_Wide.c; simp only [pop_self, popN]; exact h)
mutual
def evermoreref3_Same.l4 : Nat → Int → Int → Int → List (List (Int)) → List (Int) → Int → Int → List (List (Int)) → List (Int) → Option (Bool)
 | 0, _, _, _, _, _, _, _, _, _ => none
 | k + 1, i5, a2_0, a2_1, a2_2, a2_3, b3_0, b3_1, b3_2, b3_3 =>
  if i5 < (↑a2_3.length : Int) then
   if 0 ≤ i5 then
   if i5 < (↑a2_3.length : Int) then
    if 0 ≤ i5 then
     if i5 < (↑b3_3.length : Int) then
      if Go.Proofs.YtiiioobebeaafaaSx.rd (Int.ofNat 0) a2_3 i5 = Go.Proofs.YtiiioobebeaafaaSx.rd (Int.ofNat 0) b3_3 i5 then
        evermoreref3_Same.l4 k (Go.IntKind.i64.wrap (i5 + 1)) a2_0 a2_1 a2_2 a2_3 b3_0 b3_1 b3_2 b3_3
       else
        some (false)
      else none
     else none
    else none
   else none
  else
   evermoreref3_Same.l9 k 0 a2_0 a2_1 a2_2 a2_3 b3_0 b3_1 b3_2 b3_3
def evermoreref3_Same.l9 : Nat → Int → Int → Int → List (List (Int)) → List (Int) → Int → Int → List (List (Int)) → List (Int) → Option (Bool)
 | 0, _, _, _, _, _, _, _, _, _ => none
 | k + 1, i6, a2_0, a2_1, a2_2, a2_3, b3_0, b3_1, b3_2, b3_3 =>
  if i6 < (↑a2_2.length : Int) then
   if 0 ≤ i6 then
   if i6 < (↑a2_2.length : Int) then
    if 0 ≤ i6 then
     if i6 < (↑b3_2.length : Int) then
      if (↑(Go.Proofs.YtiiioobebeaafaaSx.rd [] a2_2 i6).length : Int) = (↑(Go.Proofs.YtiiioobebeaafaaSx.rd [] b3_2 i6).length : Int) then
        evermoreref3_Same.l14 k i6 0 a2_0 a2_1 a2_2 a2_3 b3_0 b3_1 b3_2 b3_3
       else
        some (false)
      else none
     else none
    else none
   else none
  else
   some (true)
def evermoreref3_Same.l14 : Nat → Int → Int → Int → Int → List (List (Int)) → List (Int) → Int → Int → List (List (Int)) → List (Int) → Option (Bool)
 | 0, _, _, _, _, _, _, _, _, _, _ => none
 | k + 1, i6, k7, a2_0, a2_1, a2_2, a2_3, b3_0, b3_1, b3_2, b3_3 =>
  if 0 ≤ i6 then
  if i6 < (↑a2_2.length : Int) then
   if k7 < (↑(Go.Proofs.YtiiioobebeaafaaSx.rd [] a2_2 i6).length : Int) then
     if 0 ≤ i6 then
     if i6 < (↑a2_2.length : Int) then
      if 0 ≤ k7 then
       if k7 < (↑(Go.Proofs.YtiiioobebeaafaaSx.rd [] a2_2 i6).length : Int) then
        if 0 ≤ i6 then
         if i6 < (↑b3_2.length : Int) then
          if 0 ≤ k7 then
           if k7 < (↑(Go.Proofs.YtiiioobebeaafaaSx.rd [] b3_2 i6).length : Int) then
            if Go.Proofs.YtiiioobebeaafaaSx.rd (Int.ofNat 0) (Go.Proofs.YtiiioobebeaafaaSx.rd [] a2_2 i6) k7 = Go.Proofs.YtiiioobebeaafaaSx.rd (Int.ofNat 0) (Go.Proofs.YtiiioobebeaafaaSx.rd [] b3_2 i6) k7 then
              evermoreref3_Same.l14 k i6 (Go.IntKind.i64.wrap (k7 + 1)) a2_0 a2_1 a2_2 a2_3 b3_0 b3_1 b3_2 b3_3
             else
              some (false)
            else none
           else none
          else none
         else none
        else none
       else none
      else none
     else none
    else
     evermoreref3_Same.l9 k (Go.IntKind.i64.wrap (i6 + 1)) a2_0 a2_1 a2_2 a2_3 b3_0 b3_1 b3_2 b3_3
   else none
  else none
end
def evermoreref3_Same.f (k : Nat) (a0 : (Int × (Int × (List (List (Int)) × (List (Int) × Unit))))) (b1 : (Int × (Int × (List (List (Int)) × (List (Int) × Unit))))) : Option (Bool) :=
 if a0.fst = b1.fst then
  if a0.snd.fst = b1.snd.fst then
   if (↑a0.snd.snd.fst.length : Int) = (↑b1.snd.snd.fst.length : Int) then
    if (↑a0.snd.snd.snd.fst.length : Int) = (↑b1.snd.snd.snd.fst.length : Int) then
     evermoreref3_Same.l4 k 0 a0.fst a0.snd.fst a0.snd.snd.fst a0.snd.snd.snd.fst b1.fst b1.snd.fst b1.snd.snd.fst b1.snd.snd.snd.fst
    else
     some (false)
   else
    some (false)
  else
   some (false)
 else
  some (false)

noncomputable def evermoreref3_Same.body : Code := fnBody Try.f44
def evermoreref3_Same.ti : Tm := ⟨[(0, .p (.pair (.int .i64) (.pair (.int .i64) (.pair (.slice (.slice (.int .i64))) (.pair (.slice (.int .i64)) .unit))))), (1, .p (.pair (.int .i64) (.pair (.int .i64) (.pair (.slice (.slice (.int .i64))) (.pair (.slice (.int .i64)) .unit)))))], []⟩
def evermoreref3_Same.to : Tm := ⟨[(0, .p .bool)], []⟩
def evermoreref3_Same.rs (r : Bool) : List Dat := [⟨.bool, r⟩]
def evermoreref3_Same.out (ds : List Dat) : Option (Bool) := pop .bool ds fun x0 ds => popN ds (some (x0))
def evermoreref3_Same.c (k : Nat) (ds : List Dat) : Option (Bool) := pop (.pair (.int .i64) (.pair (.int .i64) (.pair (.slice (.slice (.int .i64))) (.pair (.slice (.int .i64)) .unit)))) ds fun x0 ds => pop (.pair (.int .i64) (.pair (.int .i64) (.pair (.slice (.slice (.int .i64))) (.pair (.slice (.int .i64)) .unit)))) ds fun x1 ds => popN ds (evermoreref3_Same.f k x0 x1)
def evermoreref3_Same.g : Nat → List Dat → Option (Bool)
 | 0, _ => none
 | k + 1, ds => evermoreref3_Same.c k ds
def evermoreref3_Same.env (k : Nat) : Nat → List SV → List Chunk → KT (Bool) → Option (Bool) := env0
def evermoreref3_Same.t9 : Tm := ⟨[(2, .ptr 0 0), (3, .ptr 1 0), (5, .p (.int .i64))], [.box [.p (.int .i64), .p (.int .i64), .p (.slice (.slice (.int .i64))), .p (.slice (.int .i64))] 58, .box [.p (.int .i64), .p (.int .i64), .p (.slice (.slice (.int .i64))), .p (.slice (.int .i64))] 58]⟩
def evermoreref3_Same.c9 (k : Nat) (ds : List Dat) : Option (Bool) := pop (.int .i64) ds fun x0 ds => pop (.int .i64) ds fun x1 ds => pop (.int .i64) ds fun x2 ds => pop (.slice (.slice (.int .i64))) ds fun x3 ds => pop (.slice (.int .i64)) ds fun x4 ds => pop (.int .i64) ds fun x5 ds => pop (.int .i64) ds fun x6 ds => pop (.slice (.slice (.int .i64))) ds fun x7 ds => pop (.slice (.int .i64)) ds fun x8 ds => popN ds (evermoreref3_Same.l4 k x0 x1 x2 x3 x4 x5 x6 x7 x8)
def evermoreref3_Same.t19 : Tm := ⟨[(2, .ptr 0 0), (3, .ptr 1 0), (6, .p (.int .i64))], [.box [.p (.int .i64), .p (.int .i64), .p (.slice (.slice (.int .i64))), .p (.slice (.int .i64))] 58, .box [.p (.int .i64), .p (.int .i64), .p (.slice (.slice (.int .i64))), .p (.slice (.int .i64))] 58]⟩
def evermoreref3_Same.c19 (k : Nat) (ds : List Dat) : Option (Bool) := pop (.int .i64) ds fun x0 ds => pop (.int .i64) ds fun x1 ds => pop (.int .i64) ds fun x2 ds => pop (.slice (.slice (.int .i64))) ds fun x3 ds => pop (.slice (.int .i64)) ds fun x4 ds => pop (.int .i64) ds fun x5 ds => pop (.int .i64) ds fun x6 ds => pop (.slice (.slice (.int .i64))) ds fun x7 ds => pop (.slice (.int .i64)) ds fun x8 ds => popN ds (evermoreref3_Same.l9 k x0 x1 x2 x3 x4 x5 x6 x7 x8)
def evermoreref3_Same.t29 : Tm := ⟨[(2, .ptr 0 0), (3, .ptr 1 0), (6, .p (.int .i64)), (7, .p (.int .i64))], [.box [.p (.int .i64), .p (.int .i64), .p (.slice (.slice (.int .i64))), .p (.slice (.int .i64))] 58, .box [.p (.int .i64), .p (.int .i64), .p (.slice (.slice (.int .i64))), .p (.slice (.int .i64))] 58]⟩
def evermoreref3_Same.c29 (k : Nat) (ds : List Dat) : Option (Bool) := pop (.int .i64) ds fun x0 ds => pop (.int .i64) ds fun x1 ds => pop (.int .i64) ds fun x2 ds => pop (.int .i64) ds fun x3 ds => pop (.slice (.slice (.int .i64))) ds fun x4 ds => pop (.slice (.int .i64)) ds fun x5 ds => pop (.int .i64) ds fun x6 ds => pop (.int .i64) ds fun x7 ds => pop (.slice (.slice (.int .i64))) ds fun x8 ds => pop (.slice (.int .i64)) ds fun x9 ds => popN ds (evermoreref3_Same.l14 k x0 x1 x2 x3 x4 x5 x6 x7 x8 x9)
def evermoreref3_Same.tbl : List (Nat × Tm × (Nat → List Dat → Option (Bool))) := [(9, evermoreref3_Same.t9, evermoreref3_Same.c9), (19, evermoreref3_Same.t19, evermoreref3_Same.c19), (29, evermoreref3_Same.t29, evermoreref3_Same.c29)]
noncomputable abbrev evermoreref3_Same.R (k : Nat) := run T (evermoreref3_Same.env k) Try.f44.ntmps (cutE 0 evermoreref3_Same.tbl k) (finE 0 evermoreref3_Same.to evermoreref3_Same.out) (fnRes Try.f44) [] 100000 true
theorem evermoreref3_Same.e9 (k : Nat) (x0 : Int) (x1 : Int) (x2 : Int) (x3 : (List (List Int))) (x4 : (List Int)) (x5 : Int) (x6 : Int) (x7 : (List (List Int))) (x8 : (List Int)) : evermoreref3_Same.l4 (k + 1) x0 x1 x2 x3 x4 x5 x6 x7 x8 = evermoreref3_Same.R k (start (stackOf 9 evermoreref3_Same.body)) (evermoreref3_Same.t9.fill [⟨(.int .i64), x0⟩, ⟨(.int .i64), x1⟩, ⟨(.int .i64), x2⟩, ⟨(.slice (.slice (.int .i64))), x3⟩, ⟨(.slice (.int .i64)), x4⟩, ⟨(.int .i64), x5⟩, ⟨(.int .i64), x6⟩, ⟨(.slice (.slice (.int .i64))), x7⟩, ⟨(.slice (.int .i64)), x8⟩]) := by kernel_rfl
theorem evermoreref3_Same.s9 : stackAt 9 evermoreref3_Same.body [] = some (stackOf 9 evermoreref3_Same.body) := by kernel_rfl
theorem evermoreref3_Same.h9 (k : Nat) (ds : List Dat) (r : Bool) (h : evermoreref3_Same.c9 k ds = some r) : ∃ k', k' < k ∧ ∃ s, stackAt 9 evermoreref3_Same.body [] = some s ∧ evermoreref3_Same.R k' (start s) (evermoreref3_Same.t9.fill ds) = some r := by
  unfold evermoreref3_Same.c9 at h
  obtain ⟨x0, d0, rfl, h0⟩ := pop_some h
  obtain ⟨x1, d1, rfl, h1⟩ := pop_some h0
  obtain ⟨x2, d2, rfl, h2⟩ := pop_some h1
  obtain ⟨x3, d3, rfl, h3⟩ := pop_some h2
  obtain ⟨x4, d4, rfl, h4⟩ := pop_some h3
  obtain ⟨x5, d5, rfl, h5⟩ := pop_some h4
  obtain ⟨x6, d6, rfl, h6⟩ := pop_some h5
  obtain ⟨x7, d7, rfl, h7⟩ := pop_some h6
  obtain ⟨x8, d8, rfl, h8⟩ := pop_some h7
  obtain ⟨rfl, g⟩ := popN_some h8
  cases k with
  | zero => cases (show none = some r from g)
  | succ k => exact ⟨k, Nat.lt_succ_self k, _, evermoreref3_Same.s9, (evermoreref3_Same.e9 k x0 x1 x2 x3 x4 x5 x6 x7 x8).symm.trans g⟩
theorem evermoreref3_Same.e19 (k : Nat) (x0 : Int) (x1 : Int) (x2 : Int) (x3 : (List (List Int))) (x4 : (List Int)) (x5 : Int) (x6 : Int) (x7 : (List (List Int))) (x8 : (List Int)) : evermoreref3_Same.l9 (k + 1) x0 x1 x2 x3 x4 x5 x6 x7 x8 = evermoreref3_Same.R k (start (stackOf 19 evermoreref3_Same.body)) (evermoreref3_Same.t19.fill [⟨(.int .i64), x0⟩, ⟨(.int .i64), x1⟩, ⟨(.int .i64), x2⟩, ⟨(.slice (.slice (.int .i64))), x3⟩, ⟨(.slice (.int .i64)), x4⟩, ⟨(.int .i64), x5⟩, ⟨(.int .i64), x6⟩, ⟨(.slice (.slice (.int .i64))), x7⟩, ⟨(.slice (.int .i64)), x8⟩]) := by kernel_rfl
theorem evermoreref3_Same.s19 : stackAt 19 evermoreref3_Same.body [] = some (stackOf 19 evermoreref3_Same.body) := by kernel_rfl
theorem evermoreref3_Same.h19 (k : Nat) (ds : List Dat) (r : Bool) (h : evermoreref3_Same.c19 k ds = some r) : ∃ k', k' < k ∧ ∃ s, stackAt 19 evermoreref3_Same.body [] = some s ∧ evermoreref3_Same.R k' (start s) (evermoreref3_Same.t19.fill ds) = some r := by
  unfold evermoreref3_Same.c19 at h
  obtain ⟨x0, d0, rfl, h0⟩ := pop_some h
  obtain ⟨x1, d1, rfl, h1⟩ := pop_some h0
  obtain ⟨x2, d2, rfl, h2⟩ := pop_some h1
  obtain ⟨x3, d3, rfl, h3⟩ := pop_some h2
  obtain ⟨x4, d4, rfl, h4⟩ := pop_some h3
  obtain ⟨x5, d5, rfl, h5⟩ := pop_some h4
  obtain ⟨x6, d6, rfl, h6⟩ := pop_some h5
  obtain ⟨x7, d7, rfl, h7⟩ := pop_some h6
  obtain ⟨x8, d8, rfl, h8⟩ := pop_some h7
  obtain ⟨rfl, g⟩ := popN_some h8
  cases k with
  | zero => cases (show none = some r from g)
  | succ k => exact ⟨k, Nat.lt_succ_self k, _, evermoreref3_Same.s19, (evermoreref3_Same.e19 k x0 x1 x2 x3 x4 x5 x6 x7 x8).symm.trans g⟩
theorem evermoreref3_Same.e29 (k : Nat) (x0 : Int) (x1 : Int) (x2 : Int) (x3 : Int) (x4 : (List (List Int))) (x5 : (List Int)) (x6 : Int) (x7 : Int) (x8 : (List (List Int))) (x9 : (List Int)) : evermoreref3_Same.l14 (k + 1) x0 x1 x2 x3 x4 x5 x6 x7 x8 x9 = evermoreref3_Same.R k (start (stackOf 29 evermoreref3_Same.body)) (evermoreref3_Same.t29.fill [⟨(.int .i64), x0⟩, ⟨(.int .i64), x1⟩, ⟨(.int .i64), x2⟩, ⟨(.int .i64), x3⟩, ⟨(.slice (.slice (.int .i64))), x4⟩, ⟨(.slice (.int .i64)), x5⟩, ⟨(.int .i64), x6⟩, ⟨(.int .i64), x7⟩, ⟨(.slice (.slice (.int .i64))), x8⟩, ⟨(.slice (.int .i64)), x9⟩]) := by kernel_rfl
theorem evermoreref3_Same.s29 : stackAt 29 evermoreref3_Same.body [] = some (stackOf 29 evermoreref3_Same.body) := by kernel_rfl
theorem evermoreref3_Same.h29 (k : Nat) (ds : List Dat) (r : Bool) (h : evermoreref3_Same.c29 k ds = some r) : ∃ k', k' < k ∧ ∃ s, stackAt 29 evermoreref3_Same.body [] = some s ∧ evermoreref3_Same.R k' (start s) (evermoreref3_Same.t29.fill ds) = some r := by
  unfold evermoreref3_Same.c29 at h
  obtain ⟨x0, d0, rfl, h0⟩ := pop_some h
  obtain ⟨x1, d1, rfl, h1⟩ := pop_some h0
  obtain ⟨x2, d2, rfl, h2⟩ := pop_some h1
  obtain ⟨x3, d3, rfl, h3⟩ := pop_some h2
  obtain ⟨x4, d4, rfl, h4⟩ := pop_some h3
  obtain ⟨x5, d5, rfl, h5⟩ := pop_some h4
  obtain ⟨x6, d6, rfl, h6⟩ := pop_some h5
  obtain ⟨x7, d7, rfl, h7⟩ := pop_some h6
  obtain ⟨x8, d8, rfl, h8⟩ := pop_some h7
  obtain ⟨x9, d9, rfl, h9⟩ := pop_some h8
  obtain ⟨rfl, g⟩ := popN_some h9
  cases k with
  | zero => cases (show none = some r from g)
  | succ k => exact ⟨k, Nat.lt_succ_self k, _, evermoreref3_Same.s29, (evermoreref3_Same.e29 k x0 x1 x2 x3 x4 x5 x6 x7 x8 x9).symm.trans g⟩
theorem evermoreref3_Same.e (k : Nat) (x0 : (Int × (Int × ((List (List Int)) × ((List Int) × Unit))))) (x1 : (Int × (Int × ((List (List Int)) × ((List Int) × Unit))))) : evermoreref3_Same.f k x0 x1 = evermoreref3_Same.R k ([.code evermoreref3_Same.body]) (evermoreref3_Same.ti.fill [⟨(.pair (.int .i64) (.pair (.int .i64) (.pair (.slice (.slice (.int .i64))) (.pair (.slice (.int .i64)) .unit)))), x0⟩, ⟨(.pair (.int .i64) (.pair (.int .i64) (.pair (.slice (.slice (.int .i64))) (.pair (.slice (.int .i64)) .unit)))), x1⟩]) := by kernel_rfl
theorem evermoreref3_Same.h (k : Nat) (ds : List Dat) (r : Bool) (h : evermoreref3_Same.g k ds = some r) : ∃ k', k' < k ∧ evermoreref3_Same.R k' ([.code evermoreref3_Same.body]) (evermoreref3_Same.ti.fill ds) = some r := by
  cases k with
  | zero => cases (show none = some r from h)
  | succ k =>
  replace h : evermoreref3_Same.c k ds = some r := h
  unfold evermoreref3_Same.c at h
  obtain ⟨x0, d0, rfl, h0⟩ := pop_some h
  obtain ⟨x1, d1, rfl, h1⟩ := pop_some h0
  obtain ⟨rfl, g⟩ := popN_some h1
  exact ⟨k, Nat.lt_succ_self k, (evermoreref3_Same.e k x0 x1).symm.trans g⟩
theorem evermoreref3_Same.o (ds : List Dat) (r : Bool) (h : evermoreref3_Same.out ds = some r) : ds = evermoreref3_Same.rs r := by
  unfold evermoreref3_Same.out at h
  obtain ⟨x0, d0, rfl, h0⟩ := pop_some h
  obtain ⟨rfl, g⟩ := popN_some h0
  cases g
  rfl
theorem evermoreref3_Same.fn : FnOk Try.prog 44 Try.f44 evermoreref3_Same.body Try.f44.ntmps 2 (fnRes Try.f44) :=
  fnOk_of (by kernel_rfl) (by kernel_rfl) (by kernel_rfl) (by kernel_rfl)
theorem evermoreref3_Same.con' : ∀ k ds r, evermoreref3_Same.g k ds = some r → Con Try.prog 44 2 evermoreref3_Same.ti evermoreref3_Same.to ds (evermoreref3_Same.rs r) :=
  fun_ok (T := T) T_ok mixed evermoreref3_Same.fn (env := evermoreref3_Same.env) (tbl := evermoreref3_Same.tbl) (gOut := evermoreref3_Same.out) (nin := 0) (cuts := []) (fuel := 100000) rfl (by kernel_rfl) (by kernel_rfl) (by kernel_rfl) (fun x hx => by
    simp only [evermoreref3_Same.tbl, List.mem_cons, List.not_mem_nil, or_false] at hx
    rcases hx with rfl | rfl | rfl
    · exact evermoreref3_Same.h9
    · exact evermoreref3_Same.h19
    · exact evermoreref3_Same.h29
) evermoreref3_Same.o evermoreref3_Same.h (fun k _ => by unfold evermoreref3_Same.env; exact env0_ok)
theorem evermoreref3_Same.con (k : Nat) {x0 : (Int × (Int × ((List (List Int)) × ((List Int) × Unit))))} {x1 : (Int × (Int × ((List (List Int)) × ((List Int) × Unit))))} (r : Bool) (h : evermoreref3_Same.f k x0 x1 = some r) : Con Try.prog 44 2 evermoreref3_Same.ti evermoreref3_Same.to [⟨(.pair (.int .i64) (.pair (.int .i64) (.pair (.slice (.slice (.int .i64))) (.pair (.slice (.int .i64)) .unit)))), x0⟩, ⟨(.pair (.int .i64) (.pair (.int .i64) (.pair (.slice (.slice (.int .i64))) (.pair (.slice (.int .i64)) .unit)))), x1⟩] (evermoreref3_Same.rs r) :=
  evermoreref3_Same.con' (k + 1) _ r (by show evermoreref3_Same.c k _ = some r; unfold evermoreref3_Same.c; simp only [pop_self, popN]; exact h)
mutual
def evermoreref3_Same_2.l4 : Nat → Int → Int → Int → List (List (Int)) → List (Int) → Int → Int → List (List (Int)) → List (Int) → Option (Bool)
 | 0, _, _, _, _, _, _, _, _, _ => none
 | k + 1, i5, a2_0, a2_1, a2_2, a2_3, b3_0, b3_1, b3_2, b3_3 =>
  if i5 < (↑a2_3.length : Int) then
   if 0 ≤ i5 then
   if i5 < (↑a2_3.length : Int) then
    if 0 ≤ i5 then
     if i5 < (↑b3_3.length : Int) then
      if Go.Proofs.YtiiioobebeaafaaSx.rd (Int.ofNat 0) a2_3 i5 = Go.Proofs.YtiiioobebeaafaaSx.rd (Int.ofNat 0) b3_3 i5 then
        evermoreref3_Same_2.l4 k (Go.IntKind.i64.wrap (i5 + 1)) a2_0 a2_1 a2_2 a2_3 b3_0 b3_1 b3_2 b3_3
       else
        some (false)
      else none
     else none
    else none
   else none
  else
   evermoreref3_Same_2.l9 k 0 a2_0 a2_1 a2_2 a2_3 b3_0 b3_1 b3_2 b3_3
def evermoreref3_Same_2.l9 : Nat → Int → Int → Int → List (List (Int)) → List (Int) → Int → Int → List (List (Int)) → List (Int) → Option (Bool)
 | 0, _, _, _, _, _, _, _, _, _ => none
 | k + 1, i6, a2_0, a2_1, a2_2, a2_3, b3_0, b3_1, b3_2, b3_3 =>
  if i6 < (↑a2_2.length : Int) then
   if 0 ≤ i6 then
   if i6 < (↑a2_2.length : Int) then
    if 0 ≤ i6 then
     if i6 < (↑b3_2.length : Int) then
      if (↑(Go.Proofs.YtiiioobebeaafaaSx.rd [] a2_2 i6).length : Int) = (↑(Go.Proofs.YtiiioobebeaafaaSx.rd [] b3_2 i6).length : Int) then
        evermoreref3_Same_2.l14 k i6 0 a2_0 a2_1 a2_2 a2_3 b3_0 b3_1 b3_2 b3_3
       else
        some (false)
      else none
     else none
    else none
   else none
  else
   some (true)
def evermoreref3_Same_2.l14 : Nat → Int → Int → Int → Int → List (List (Int)) → List (Int) → Int → Int → List (List (Int)) → List (Int) → Option (Bool)
 | 0, _, _, _, _, _, _, _, _, _, _ => none
 | k + 1, i6, k7, a2_0, a2_1, a2_2, a2_3, b3_0, b3_1, b3_2, b3_3 =>
  if 0 ≤ i6 then
  if i6 < (↑a2_2.length : Int) then
   if k7 < (↑(Go.Proofs.YtiiioobebeaafaaSx.rd [] a2_2 i6).length : Int) then
     if 0 ≤ i6 then
     if i6 < (↑a2_2.length : Int) then
      if 0 ≤ k7 then
       if k7 < (↑(Go.Proofs.YtiiioobebeaafaaSx.rd [] a2_2 i6).length : Int) then
        if 0 ≤ i6 then
         if i6 < (↑b3_2.length : Int) then
          if 0 ≤ k7 then
           if k7 < (↑(Go.Proofs.YtiiioobebeaafaaSx.rd [] b3_2 i6).length : Int) then
            if Go.Proofs.YtiiioobebeaafaaSx.rd (Int.ofNat 0) (Go.Proofs.YtiiioobebeaafaaSx.rd [] a2_2 i6) k7 = Go.Proofs.YtiiioobebeaafaaSx.rd (Int.ofNat 0) (Go.Proofs.YtiiioobebeaafaaSx.rd [] b3_2 i6) k7 then
              evermoreref3_Same_2.l14 k i6 (Go.IntKind.i64.wrap (k7 + 1)) a2_0 a2_1 a2_2 a2_3 b3_0 b3_1 b3_2 b3_3
             else
              some (false)
            else none
           else none
          else none
         else none
        else none
       else none
      else none
     else none
    else
     evermoreref3_Same_2.l9 k (Go.IntKind.i64.wrap (i6 + 1)) a2_0 a2_1 a2_2 a2_3 b3_0 b3_1 b3_2 b3_3
   else none
  else none
end
def evermoreref3_Same_2.f (k : Nat) (a0 : (Int × (Int × (List (List (Int)) × (List (Int) × Unit))))) (b1 : (Int × (Int × (List (List (Int)) × (List (Int) × Unit))))) : Option (Bool) :=
 if a0.fst = b1.fst then
  if a0.snd.fst = b1.snd.fst then
   if (↑a0.snd.snd.fst.length : Int) = (↑b1.snd.snd.fst.length : Int) then
    if (↑a0.snd.snd.snd.fst.length : Int) = (↑b1.snd.snd.snd.fst.length : Int) then
     evermoreref3_Same_2.l4 k 0 a0.fst a0.snd.fst a0.snd.snd.fst a0.snd.snd.snd.fst b1.fst b1.snd.fst b1.snd.snd.fst b1.snd.snd.snd.fst
    else
     some (false)
   else
    some (false)
  else
   some (false)
 else
  some (false)

noncomputable def evermoreref3_Same_2.body : Code := fnBody Try.f44
def evermoreref3_Same_2.ti : Tm := ⟨[(0, .p (.pair (.int .i64) (.pair (.int .i64) (.pair (.slice (.slice (.int .i64))) (.pair (.slice (.int .i64)) .unit))))), (1, .p (.pair (.int .i64) (.pair (.int .i64) (.pair (.slice (.slice (.int .i64))) (.pair (.slice (.int .i64)) .unit)))))], []⟩
def evermoreref3_Same_2.to : Tm := ⟨[(0, .p .bool)], []⟩
def evermoreref3_Same_2.rs (r : Bool) : List Dat := [⟨.bool, r⟩]
def evermoreref3_Same_2.out (ds : List Dat) : Option (Bool) := pop .bool ds fun x0 ds => popN ds (some (x0))
def evermoreref3_Same_2.c (k : Nat) (ds : List Dat) : Option (Bool) := pop (.pair (.int .i64) (.pair (.int .i64) (.pair (.slice (.slice (.int .i64))) (.pair (.slice (.int .i64)) .unit)))) ds fun x0 ds => pop (.pair (.int .i64) (.pair (.int .i64) (.pair (.slice (.slice (.int .i64))) (.pair (.slice (.int .i64)) .unit)))) ds fun x1 ds => popN ds (evermoreref3_Same_2.f k x0 x1)
def evermoreref3_Same_2.g : Nat → List Dat → Option (Bool)
 | 0, _ => none
 | k + 1, ds => evermoreref3_Same_2.c k ds
def evermoreref3_Same_2.env (k : Nat) : Nat → List SV → List Chunk → KT (Bool) → Option (Bool) := env0
def evermoreref3_Same_2.t9 : Tm := ⟨[(2, .ptr 0 0), (3, .ptr 1 0), (5, .p (.int .i64))], [.box [.p (.int .i64), .p (.int .i64), .p (.slice (.slice (.int .i64))), .p (.slice (.int .i64))] 58, .box [.p (.int .i64), .p (.int .i64), .p (.slice (.slice (.int .i64))), .p (.slice (.int .i64))] 58]⟩
def evermoreref3_Same_2.c9 (k : Nat) (ds : List Dat) : Option (Bool) := pop (.int .i64) ds fun x0 ds => pop (.int .i64) ds fun x1 ds => pop (.int .i64) ds fun x2 ds => pop (.slice (.slice (.int .i64))) ds fun x3 ds => pop (.slice (.int .i64)) ds fun x4 ds => pop (.int .i64) ds fun x5 ds => pop (.int .i64) ds fun x6 ds => pop (.slice (.slice (.int .i64))) ds fun x7 ds => pop (.slice (.int .i64)) ds fun x8 ds => popN ds (evermoreref3_Same_2.l4 k x0 x1 x2 x3 x4 x5 x6 x7 x8)
def evermoreref3_Same_2.t19 : Tm := ⟨[(2, .ptr 0 0), (3, .ptr 1 0), (6, .p (.int .i64))], [.box [.p (.int .i64), .p (.int .i64), .p (.slice (.slice (.int .i64))), .p (.slice (.int .i64))] 58, .box [.p (.int .i64), .p (.int .i64), .p (.slice (.slice (.int .i64))), .p (.slice (.int .i64))] 58]⟩
def evermoreref3_Same_2.c19 (k : Nat) (ds : List Dat) : Option (Bool) := pop (.int .i64) ds fun x0 ds => pop (.int .i64) ds fun x1 ds => pop (.int .i64) ds fun x2 ds => pop (.slice (.slice (.int .i64))) ds fun x3 ds => pop (.slice (.int .i64)) ds fun x4 ds => pop (.int .i64) ds fun x5 ds => pop (.int .i64) ds fun x6 ds => pop (.slice (.slice (.int .i64))) ds fun x7 ds => pop (.slice (.int .i64)) ds fun x8 ds => popN ds (evermoreref3_Same_2.l9 k x0 x1 x2 x3 x4 x5 x6 x7 x8)
def evermoreref3_Same_2.t29 : Tm := ⟨[(2, .ptr 0 0), (3, .ptr 1 0), (6, .p (.int .i64)), (7, .p (.int .i64))], [.box [.p (.int .i64), .p (.int .i64), .p (.slice (.slice (.int .i64))), .p (.slice (.int .i64))] 58, .box [.p (.int .i64), .p (.int .i64), .p (.slice (.slice (.int .i64))), .p (.slice (.int .i64))] 58]⟩
def evermoreref3_Same_2.c29 (k : Nat) (ds : List Dat) : Option (Bool) := pop (.int .i64) ds fun x0 ds => pop (.int .i64) ds fun x1 ds => pop (.int .i64) ds fun x2 ds => pop (.int .i64) ds fun x3 ds => pop (.slice (.slice (.int .i64))) ds fun x4 ds => pop (.slice (.int .i64)) ds fun x5 ds => pop (.int .i64) ds fun x6 ds => pop (.int .i64) ds fun x7 ds => pop (.slice (.slice (.int .i64))) ds fun x8 ds => pop (.slice (.int .i64)) ds fun x9 ds => popN ds (evermoreref3_Same_2.l14 k x0 x1 x2 x3 x4 x5 x6 x7 x8 x9)
def evermoreref3_Same_2.tbl : List (Nat × Tm × (Nat → List Dat → Option (Bool))) := [(9, evermoreref3_Same_2.t9, evermoreref3_Same_2.c9), (19, evermoreref3_Same_2.t19, evermoreref3_Same_2.c19), (29, evermoreref3_Same_2.t29, evermoreref3_Same_2.c29)]
noncomputable abbrev evermoreref3_Same_2.R (k : Nat) := run T (evermoreref3_Same_2.env k) Try.f44.ntmps (cutE 0 evermoreref3_Same_2.tbl k) (finE 0 evermoreref3_Same_2.to evermoreref3_Same_2.out) (fnRes Try.f44) [] 100000 true
theorem evermoreref3_Same_2.e9 (k : Nat) (x0 : Int) (x1 : Int) (x2 : Int) (x3 : (List (List Int))) (x4 : (List Int)) (x5 : Int) (x6 : Int) (x7 : (List (List Int))) (x8 : (List Int)) : evermoreref3_Same_2.l4 (k + 1) x0 x1 x2 x3 x4 x5 x6 x7 x8 = evermoreref3_Same_2.R k (start (stackOf 9 evermoreref3_Same_2.body)) (evermoreref3_Same_2.t9.fill [⟨(.int .i64), x0⟩, ⟨(.int .i64), x1⟩, ⟨(.int .i64), x2⟩, ⟨(.slice (.slice (.int .i64))), x3⟩, ⟨(.slice (.int .i64)), x4⟩, ⟨(.int .i64), x5⟩, ⟨(.int .i64), x6⟩, ⟨(.slice (.slice (.int .i64))), x7⟩, ⟨(.slice (.int .i64)), x8⟩]) := by kernel_rfl
theorem evermoreref3_Same_2.s9 : stackAt 9 evermoreref3_Same_2.body [] = some (stackOf 9 evermoreref3_Same_2.body) := by kernel_rfl
theorem evermoreref3_Same_2.h9 (k : Nat) (ds : List Dat) (r : Bool) (h : evermoreref3_Same_2.c9 k ds = some r) : ∃ k', k' < k ∧ ∃ s, stackAt 9 evermoreref3_Same_2.body [] = some s ∧ evermoreref3_Same_2.R k' (start s) (evermoreref3_Same_2.t9.fill ds) = some r := by
  unfold evermoreref3_Same_2.c9 at h
  obtain ⟨x0, d0, rfl, h0⟩ := pop_some h
  obtain ⟨x1, d1, rfl, h1⟩ := pop_some h0
  obtain ⟨x2, d2, rfl, h2⟩ := pop_some h1
  obtain ⟨x3, d3, rfl, h3⟩ := pop_some h2
  obtain ⟨x4, d4, rfl, h4⟩ := pop_some h3
  obtain ⟨x5, d5, rfl, h5⟩ := pop_some h4
  obtain ⟨x6, d6, rfl, h6⟩ := pop_some h5
  obtain ⟨x7, d7, rfl, h7⟩ := pop_some h6
  obtain ⟨x8, d8, rfl, h8⟩ := pop_some h7
  obtain ⟨rfl, g⟩ := popN_some h8
  cases k with
  | zero => cases (show none = some r from g)
  | succ k => exact ⟨k, Nat.lt_succ_self k, _, evermoreref3_Same_2.s9, (evermoreref3_Same_2.e9 k x0 x1 x2 x3 x4 x5 x6 x7 x8).symm.trans g⟩
theorem evermoreref3_Same_2.e19 (k : Nat) (x0 : Int) (x1 : Int) (x2 : Int) (x3 : (List (List Int))) (x4 : (List Int)) (x5 : Int) (x6 : Int) (x7 : (List (List Int))) (x8 : (List Int)) : evermoreref3_Same_2.l9 (k + 1) x0 x1 x2 x3 x4 x5 x6 x7 x8 = evermoreref3_Same_2.R k (start (stackOf 19 evermoreref3_Same_2.body)) (evermoreref3_Same_2.t19.fill [⟨(.int .i64), x0⟩, ⟨(.int .i64), x1⟩, ⟨(.int .i64), x2⟩, ⟨(.slice (.slice (.int .i64))), x3⟩, ⟨(.slice (.int .i64)), x4⟩, ⟨(.int .i64), x5⟩, ⟨(.int .i64), x6⟩, ⟨(.slice (.slice (.int .i64))), x7⟩, ⟨(.slice (.int .i64)), x8⟩]) := by kernel_rfl
theorem evermoreref3_Same_2.s19 : stackAt 19 evermoreref3_Same_2.body [] = some (stackOf 19 evermoreref3_Same_2.body) := by kernel_rfl
theorem evermoreref3_Same_2.h19 (k : Nat) (ds : List Dat) (r : Bool) (h : evermoreref3_Same_2.c19 k ds = some r) : ∃ k', k' < k ∧ ∃ s, stackAt 19 evermoreref3_Same_2.body [] = some s ∧ evermoreref3_Same_2.R k' (start s) (evermoreref3_Same_2.t19.fill ds) = some r := by
  unfold evermoreref3_Same_2.c19 at h
  obtain ⟨x0, d0, rfl, h0⟩ := pop_some h
  obtain ⟨x1, d1, rfl, h1⟩ := pop_some h0
  obtain ⟨x2, d2, rfl, h2⟩ := pop_some h1
  obtain ⟨x3, d3, rfl, h3⟩ := pop_some h2
  obtain ⟨x4, d4, rfl, h4⟩ := pop_some h3
  obtain ⟨x5, d5, rfl, h5⟩ := pop_some h4
  obtain ⟨x6, d6, rfl, h6⟩ := pop_some h5
  obtain ⟨x7, d7, rfl, h7⟩ := pop_some h6
  obtain ⟨x8, d8, rfl, h8⟩ := pop_some h7
  obtain ⟨rfl, g⟩ := popN_some h8
  cases k with
  | zero => cases (show none = some r from g)
  | succ k => exact ⟨k, Nat.lt_succ_self k, _, evermoreref3_Same_2.s19, (evermoreref3_Same_2.e19 k x0 x1 x2 x3 x4 x5 x6 x7 x8).symm.trans g⟩
theorem evermoreref3_Same_2.e29 (k : Nat) (x0 : Int) (x1 : Int) (x2 : Int) (x3 : Int) (x4 : (List (List Int))) (x5 : (List Int)) (x6 : Int) (x7 : Int) (x8 : (List (List Int))) (x9 : (List Int)) : evermoreref3_Same_2.l14 (k + 1) x0 x1 x2 x3 x4 x5 x6 x7 x8 x9 = evermoreref3_Same_2.R k (start (stackOf 29 evermoreref3_Same_2.body)) (evermoreref3_Same_2.t29.fill [⟨(.int .i64), x0⟩, ⟨(.int .i64), x1⟩, ⟨(.int .i64), x2⟩, ⟨(.int .i64), x3⟩, ⟨(.slice (.slice (.int .i64))), x4⟩, ⟨(.slice (.int .i64)), x5⟩, ⟨(.int .i64), x6⟩, ⟨(.int .i64), x7⟩, ⟨(.slice (.slice (.int .i64))), x8⟩, ⟨(.slice (.int .i64)), x9⟩]) := by kernel_rfl
theorem evermoreref3_Same_2.s29 : stackAt 29 evermoreref3_Same_2.body [] = some (stackOf 29 evermoreref3_Same_2.body) := by kernel_rfl
theorem evermoreref3_Same_2.h29 (k : Nat) (ds : List Dat) (r : Bool) (h : evermoreref3_Same_2.c29 k ds = some r) : ∃ k', k' < k ∧ ∃ s, stackAt 29 evermoreref3_Same_2.body [] = some s ∧ evermoreref3_Same_2.R k' (start s) (evermoreref3_Same_2.t29.fill ds) = some r := by
  unfold evermoreref3_Same_2.c29 at h
  obtain ⟨x0, d0, rfl, h0⟩ := pop_some h
  obtain ⟨x1, d1, rfl, h1⟩ := pop_some h0
  obtain ⟨x2, d2, rfl, h2⟩ := pop_some h1
  obtain ⟨x3, d3, rfl, h3⟩ := pop_some h2
  obtain ⟨x4, d4, rfl, h4⟩ := pop_some h3
  obtain ⟨x5, d5, rfl, h5⟩ := pop_some h4
  obtain ⟨x6, d6, rfl, h6⟩ := pop_some h5
  obtain ⟨x7, d7, rfl, h7⟩ := pop_some h6
  obtain ⟨x8, d8, rfl, h8⟩ := pop_some h7
  obtain ⟨x9, d9, rfl, h9⟩ := pop_some h8
  obtain ⟨rfl, g⟩ := popN_some h9
  cases k with
  | zero => cases (show none = some r from g)
  | succ k => exact ⟨k, Nat.lt_succ_self k, _, evermoreref3_Same_2.s29, (evermoreref3_Same_2.e29 k x0 x1 x2 x3 x4 x5 x6 x7 x8 x9).symm.trans g⟩
theorem evermoreref3_Same_2.e (k : Nat) (x0 : (Int × (Int × ((List (List Int)) × ((List Int) × Unit))))) (x1 : (Int × (Int × ((List (List Int)) × ((List Int) × Unit))))) : evermoreref3_Same_2.f k x0 x1 = evermoreref3_Same_2.R k ([.code evermoreref3_Same_2.body]) (evermoreref3_Same_2.ti.fill [⟨(.pair (.int .i64) (.pair (.int .i64) (.pair (.slice (.slice (.int .i64))) (.pair (.slice (.int .i64)) .unit)))), x0⟩, ⟨(.pair (.int .i64) (.pair (.int .i64) (.pair (.slice (.slice (.int .i64))) (.pair (.slice (.int .i64)) .unit)))), x1⟩]) := by kernel_rfl
theorem evermoreref3_Same_2.h (k : Nat) (ds : List Dat) (r : Bool) (h : evermoreref3_Same_2.g k ds = some r) : ∃ k', k' < k ∧ evermoreref3_Same_2.R k' ([.code evermoreref3_Same_2.body]) (evermoreref3_Same_2.ti.fill ds) = some r := by
  cases k with
  | zero => cases (show none = some r from h)
  | succ k =>
  replace h : evermoreref3_Same_2.c k ds = some r := h
  unfold evermoreref3_Same_2.c at h
  obtain ⟨x0, d0, rfl, h0⟩ := pop_some h
  obtain ⟨x1, d1, rfl, h1⟩ := pop_some h0
  obtain ⟨rfl, g⟩ := popN_some h1
  exact ⟨k, Nat.lt_succ_self k, (evermoreref3_Same_2.e k x0 x1).symm.trans g⟩
theorem evermoreref3_Same_2.o (ds : List Dat) (r : Bool) (h : evermoreref3_Same_2.out ds = some r) : ds = evermoreref3_Same_2.rs r := by
  unfold evermoreref3_Same_2.out at h
  obtain ⟨x0, d0, rfl, h0⟩ := pop_some h
  obtain ⟨rfl, g⟩ := popN_some h0
  cases g
  rfl
theorem evermoreref3_Same_2.fn : FnOk Try.prog 44 Try.f44 evermoreref3_Same_2.body Try.f44.ntmps 2 (fnRes Try.f44) :=
  fnOk_of (by kernel_rfl) (by kernel_rfl) (by kernel_rfl) (by kernel_rfl)
theorem evermoreref3_Same_2.con' : ∀ k ds r, evermoreref3_Same_2.g k ds = some r → Con Try.prog 44 2 evermoreref3_Same_2.ti evermoreref3_Same_2.to ds (evermoreref3_Same_2.rs r) :=
  fun_ok (T := T) T_ok mixed evermoreref3_Same_2.fn (env := evermoreref3_Same_2.env) (tbl := evermoreref3_Same_2.tbl) (gOut := evermoreref3_Same_2.out) (nin := 0) (cuts := []) (fuel := 100000) rfl (by kernel_rfl) (by kernel_rfl) (by kernel_rfl) (fun x hx => by
    simp only [evermoreref3_Same_2.tbl, List.mem_cons, List.not_mem_nil, or_false] at hx
    rcases hx with rfl | rfl | rfl
    · exact evermoreref3_Same_2.h9
    · exact evermoreref3_Same_2.h19
    · exact evermoreref3_Same_2.h29
) evermoreref3_Same_2.o evermoreref3_Same_2.h (fun k _ => by unfold evermoreref3_Same_2.env; exact env0_ok)
theorem evermoreref3_Same_2.con (k : Nat) {x0 : (Int × (Int × ((List (List Int)) × ((List Int) × Unit))))} {x1 : (Int × (Int × ((List (List Int)) × ((List Int) × Unit))))} (r : Bool) (h : evermoreref3_Same_2.f k x0 x1 = some r) : Con Try.prog 44 2 evermoreref3_Same_2.ti evermoreref3_Same_2.to [⟨(.pair (.int .i64) (.pair (.int .i64) (.pair (.slice (.slice (.int .i64))) (.pair (.slice (.int .i64)) .unit)))), x0⟩, ⟨(.pair (.int .i64) (.pair (.int .i64) (.pair (.slice (.slice (.int .i64))) (.pair (.slice (.int .i64)) .unit)))), x1⟩] (evermoreref3_Same_2.rs r) :=
  evermoreref3_Same_2.con' (k + 1) _ r (by show evermoreref3_Same_2.c k _ = some r; unfold evermoreref3_Same_2.c; simp only [pop_self, popN]; exact h)
def evermorelaw_noDet.f (k : Nat) (d0 : (Int × (Int × (List (List (Int)) × (List (Int) × Unit))))) : Option (Bool) :=
 if d0.fst = 0 then
  if d0.snd.fst = 0 then
   some (decide (Go.IntKind.i64.wrap ((↑d0.snd.snd.fst.length : Int) + (↑d0.snd.snd.snd.fst.length : Int)) = 0))
  else
   some (false)
 else
  some (false)

noncomputable def evermorelaw_noDet.body : Code := fnBody Try.f37
def evermorelaw_noDet.ti : Tm := ⟨[(0, .p (.pair (.int .i64) (.pair (.int .i64) (.pair (.slice (.slice (.int .i64))) (.pair (.slice (.int .i64)) .unit)))))], []⟩
def evermorelaw_noDet.to : Tm := ⟨[(0, .p .bool)], []⟩
def evermorelaw_noDet.rs (r : Bool) : List Dat := [⟨.bool, r⟩]
def evermorelaw_noDet.out (ds : List Dat) : Option (Bool) := pop .bool ds fun x0 ds => popN ds (some (x0))
def evermorelaw_noDet.c (k : Nat) (ds : List Dat) : Option (Bool) := pop (.pair (.int .i64) (.pair (.int .i64) (.pair (.slice (.slice (.int .i64))) (.pair (.slice (.int .i64)) .unit)))) ds fun x0 ds => popN ds (evermorelaw_noDet.f k x0)
def evermorelaw_noDet.g : Nat → List Dat → Option (Bool)
 | 0, _ => none
 | k + 1, ds => evermorelaw_noDet.c k ds
def evermorelaw_noDet.env (k : Nat) : Nat → List SV → List Chunk → KT (Bool) → Option (Bool) := env0
def evermorelaw_noDet.tbl : List (Nat × Tm × (Nat → List Dat → Option (Bool))) := []
noncomputable abbrev evermorelaw_noDet.R (k : Nat) := run T (evermorelaw_noDet.env k) Try.f37.ntmps (cutE 0 evermorelaw_noDet.tbl k) (finE 0 evermorelaw_noDet.to evermorelaw_noDet.out) (fnRes Try.f37) [] 100000 true
theorem evermorelaw_noDet.e (k : Nat) (x0 : (Int × (Int × ((List (List Int)) × ((List Int) × Unit))))) : evermorelaw_noDet.f k x0 = evermorelaw_noDet.R k ([.code evermorelaw_noDet.body]) (evermorelaw_noDet.ti.fill [⟨(.pair (.int .i64) (.pair (.int .i64) (.pair (.slice (.slice (.int .i64))) (.pair (.slice (.int .i64)) .unit)))), x0⟩]) := by kernel_rfl
theorem evermorelaw_noDet.h (k : Nat) (ds : List Dat) (r : Bool) (h : evermorelaw_noDet.g k ds = some r) : ∃ k', k' < k ∧ evermorelaw_noDet.R k' ([.code evermorelaw_noDet.body]) (evermorelaw_noDet.ti.fill ds) = some r := by
  cases k with
  | zero => cases (show none = some r from h)
  | succ k =>
  replace h : evermorelaw_noDet.c k ds = some r := h
  unfold evermorelaw_noDet.c at h
  obtain ⟨x0, d0, rfl, h0⟩ := pop_some h
  obtain ⟨rfl, g⟩ := popN_some h0
  exact ⟨k, Nat.lt_succ_self k, (evermorelaw_noDet.e k x0).symm.trans g⟩
theorem evermorelaw_noDet.o (ds : List Dat) (r : Bool) (h : evermorelaw_noDet.out ds = some r) : ds = evermorelaw_noDet.rs r := by
  unfold evermorelaw_noDet.out at h
  obtain ⟨x0, d0, rfl, h0⟩ := pop_some h
  obtain ⟨rfl, g⟩ := popN_some h0
  cases g
  rfl
theorem evermorelaw_noDet.fn : FnOk Try.prog 37 Try.f37 evermorelaw_noDet.body Try.f37.ntmps 1 (fnRes Try.f37) :=
  fnOk_of (by kernel_rfl) (by kernel_rfl) (by kernel_rfl) (by kernel_rfl)
theorem evermorelaw_noDet.con' : ∀ k ds r, evermorelaw_noDet.g k ds = some r → Con Try.prog 37 1 evermorelaw_noDet.ti evermorelaw_noDet.to ds (evermorelaw_noDet.rs r) :=
  fun_ok (T := T) T_ok mixed evermorelaw_noDet.fn (env := evermorelaw_noDet.env) (tbl := evermorelaw_noDet.tbl) (gOut := evermorelaw_noDet.out) (nin := 0) (cuts := []) (fuel := 100000) rfl (by kernel_rfl) (by kernel_rfl) (by kernel_rfl) (fun x hx => by simp [evermorelaw_noDet.tbl] at hx) evermorelaw_noDet.o evermorelaw_noDet.h (fun k _ => by unfold evermorelaw_noDet.env; exact env0_ok)
theorem evermorelaw_noDet.con (k : Nat) {x0 : (Int × (Int × ((List (List Int)) × ((List Int) × Unit))))} (r : Bool) (h : evermorelaw_noDet.f k x0 = some r) : Con Try.prog 37 1 evermorelaw_noDet.ti evermorelaw_noDet.to [⟨(.pair (.int .i64) (.pair (.int .i64) (.pair (.slice (.slice (.int .i64))) (.pair (.slice (.int .i64)) .unit)))), x0⟩] (evermorelaw_noDet.rs r) :=
  evermorelaw_noDet.con' (k + 1) _ r (by show evermorelaw_noDet.c k _ = some r; unfold evermorelaw_noDet.c; simp only [pop_self, popN]; exact h)
def evermorelaw_noDet_2.f (k : Nat) (d0 : (Int × (Int × (List (List (Int)) × (List (Int) × Unit))))) : Option (Bool) :=
 if d0.fst = 0 then
  if d0.snd.fst = 0 then
   some (decide (Go.IntKind.i64.wrap ((↑d0.snd.snd.fst.length : Int) + (↑d0.snd.snd.snd.fst.length : Int)) = 0))
  else
   some (false)
 else
  some (false)

noncomputable def evermorelaw_noDet_2.body : Code := fnBody Try.f37
def evermorelaw_noDet_2.ti : Tm := ⟨[(0, .p (.pair (.int .i64) (.pair (.int .i64) (.pair (.slice (.slice (.int .i64))) (.pair (.slice (.int .i64)) .unit)))))], []⟩
def evermorelaw_noDet_2.to : Tm := ⟨[(0, .p .bool)], []⟩
def evermorelaw_noDet_2.rs (r : Bool) : List Dat := [⟨.bool, r⟩]
def evermorelaw_noDet_2.out (ds : List Dat) : Option (Bool) := pop .bool ds fun x0 ds => popN ds (some (x0))
def evermorelaw_noDet_2.c (k : Nat) (ds : List Dat) : Option (Bool) := pop (.pair (.int .i64) (.pair (.int .i64) (.pair (.slice (.slice (.int .i64))) (.pair (.slice (.int .i64)) .unit)))) ds fun x0 ds => popN ds (evermorelaw_noDet_2.f k x0)
def evermorelaw_noDet_2.g : Nat → List Dat → Option (Bool)
 | 0, _ => none
 | k + 1, ds => evermorelaw_noDet_2.c k ds
def evermorelaw_noDet_2.env (k : Nat) : Nat → List SV → List Chunk → KT (Bool) → Option (Bool) := env0
def evermorelaw_noDet_2.tbl : List (Nat × Tm × (Nat → List Dat → Option (Bool))) := []
noncomputable abbrev evermorelaw_noDet_2.R (k : Nat) := run T (evermorelaw_noDet_2.env k) Try.f37.ntmps (cutE 0 evermorelaw_noDet_2.tbl k) (finE 0 evermorelaw_noDet_2.to evermorelaw_noDet_2.out) (fnRes Try.f37) [] 100000 true
theorem evermorelaw_noDet_2.e (k : Nat) (x0 : (Int × (Int × ((List (List Int)) × ((List Int) × Unit))))) : evermorelaw_noDet_2.f k x0 = evermorelaw_noDet_2.R k ([.code evermorelaw_noDet_2.body]) (evermorelaw_noDet_2.ti.fill [⟨(.pair (.int .i64) (.pair (.int .i64) (.pair (.slice (.slice (.int .i64))) (.pair (.slice (.int .i64)) .unit)))), x0⟩]) := by kernel_rfl
theorem evermorelaw_noDet_2.h (k : Nat) (ds : List Dat) (r : Bool) (h : evermorelaw_noDet_2.g k ds = some r) : ∃ k', k' < k ∧ evermorelaw_noDet_2.R k' ([.code evermorelaw_noDet_2.body]) (evermorelaw_noDet_2.ti.fill ds) = some r := by
  cases k with
  | zero => cases (show none = some r from h)
  | succ k =>
  replace h : evermorelaw_noDet_2.c k ds = some r := h
  unfold evermorelaw_noDet_2.c at h
  obtain ⟨x0, d0, rfl, h0⟩ := pop_some h
  obtain ⟨rfl, g⟩ := popN_some h0
  exact ⟨k, Nat.lt_succ_self k, (evermorelaw_noDet_2.e k x0).symm.trans g⟩
theorem evermorelaw_noDet_2.o (ds : List Dat) (r : Bool) (h : evermorelaw_noDet_2.out ds = some r) : ds = evermorelaw_noDet_2.rs r := by
  unfold evermorelaw_noDet_2.out at h
  obtain ⟨x0, d0, rfl, h0⟩ := pop_some h
  obtain ⟨rfl, g⟩ := popN_some h0
  cases g
  rfl
theorem evermorelaw_noDet_2.fn : FnOk Try.prog 37 Try.f37 evermorelaw_noDet_2.body Try.f37.ntmps 1 (fnRes Try.f37) :=
  fnOk_of (by kernel_rfl) (by kernel_rfl) (by kernel_rfl) (by kernel_rfl)
theorem evermorelaw_noDet_2.con' : ∀ k ds r, evermorelaw_noDet_2.g k ds = some r → Con Try.prog 37 1 evermorelaw_noDet_2.ti evermorelaw_noDet_2.to ds (evermorelaw_noDet_2.rs r) :=
  fun_ok (T := T) T_ok mixed evermorelaw_noDet_2.fn (env := evermorelaw_noDet_2.env) (tbl := evermorelaw_noDet_2.tbl) (gOut := evermorelaw_noDet_2.out) (nin := 0) (cuts := []) (fuel := 100000) rfl (by kernel_rfl) (by kernel_rfl) (by kernel_rfl) (fun x hx => by simp [evermorelaw_noDet_2.tbl] at hx) evermorelaw_noDet_2.o evermorelaw_noDet_2.h (fun k _ => by unfold evermorelaw_noDet_2.env; exact env0_ok)
theorem evermorelaw_noDet_2.con (k : Nat) {x0 : (Int × (Int × ((List (List Int)) × ((List Int) × Unit))))} (r : Bool) (h : evermorelaw_noDet_2.f k x0 = some r) : Con Try.prog 37 1 evermorelaw_noDet_2.ti evermorelaw_noDet_2.to [⟨(.pair (.int .i64) (.pair (.int .i64) (.pair (.slice (.slice (.int .i64))) (.pair (.slice (.int .i64)) .unit)))), x0⟩] (evermorelaw_noDet_2.rs r) :=
  evermorelaw_noDet_2.con' (k + 1) _ r (by show evermorelaw_noDet_2.c k _ = some r; unfold evermorelaw_noDet_2.c; simp only [pop_self, popN]; exact h)
mutual
def evermorelaw_HigmanCloses.j6 : Nat → Int → Int → Int → Int → Int → List (List (Int)) → List (Int) → Int → Int → Int → Int → List (List (Int)) → List (Int) → List (List (Int)) → List (Int) → Option (Bool)
 | 0, _, _, _, _, _, _, _, _, _, _, _, _, _, _, _ => none
 | k + 1, e4, f6, no7, d1_0, d1_1, d1_2, d1_3, a3_0, a3_1, b5_0, b5_1, c3, c4, c5, c6 =>
  if no7 = 0 then
   (evermoreref32_Wide.f k (d1_0, d1_1, d1_2, d1_3, ()) true).bind fun r3 =>
    (evermoreref32_Wide.f k (d1_0, d1_1, d1_2, d1_3, ()) false).bind fun r4 =>
     (evermoreref3_Same.f k (a3_0, a3_1, c3, c4, ()) (r3.fst, r3.snd.fst, r3.snd.snd.fst, r3.snd.snd.snd, ())).bind fun r5 =>
      (evermoreref3_Same_2.f k (b5_0, b5_1, c5, c6, ()) (r4.fst, r4.snd.fst, r4.snd.snd.fst, r4.snd.snd.snd, ())).bind fun r6 =>
       if e4 = 0 then
        if f6 = 0 then
         if r5 = true then
          some (r6)
         else
          some (false)
        else
         some (false)
       else
        some (false)
  else
   (evermorelaw_noDet.f k (a3_0, a3_1, c3, c4, ())).bind fun r3 =>
    (evermorelaw_noDet_2.f k (b5_0, b5_1, c5, c6, ())).bind fun r4 =>
     if e4 = no7 then
      if f6 = no7 then
       if r3 = true then
        some (r4)
       else
        some (false)
      else
       some (false)
     else
      some (false)
end
def evermorelaw_HigmanCloses.f (k : Nat) (d0 : (Int × (Int × (List (List (Int)) × (List (Int) × Unit))))) : Option (Bool) :=
 (higman_Up.f k (d0.fst, d0.snd.fst, d0.snd.snd.fst, d0.snd.snd.snd.fst, ())).bind fun r1 =>
  (higman_Down.f k (d0.fst, d0.snd.fst, d0.snd.snd.fst, d0.snd.snd.snd.fst, ())).bind fun r2 =>
   (evermoreref3_Check.f k (d0.fst, d0.snd.fst, d0.snd.snd.fst, d0.snd.snd.snd.fst, ())).bind fun r3 =>
    if r3 = 0 then
     if 5 < (↑d0.snd.snd.fst.length : Int) then
      evermorelaw_HigmanCloses.j6 k r1.snd.snd.fst r2.snd.snd.fst 1 d0.fst d0.snd.fst d0.snd.snd.fst d0.snd.snd.snd.fst r1.fst r1.snd.fst r2.fst r2.snd.fst r1.snd.snd.snd.fst r1.snd.snd.snd.snd r2.snd.snd.snd.fst r2.snd.snd.snd.snd
     else
      evermorelaw_HigmanCloses.j6 k r1.snd.snd.fst r2.snd.snd.fst r3 d0.fst d0.snd.fst d0.snd.snd.fst d0.snd.snd.snd.fst r1.fst r1.snd.fst r2.fst r2.snd.fst r1.snd.snd.snd.fst r1.snd.snd.snd.snd r2.snd.snd.snd.fst r2.snd.snd.snd.snd
    else
     evermorelaw_HigmanCloses.j6 k r1.snd.snd.fst r2.snd.snd.fst r3 d0.fst d0.snd.fst d0.snd.snd.fst d0.snd.snd.snd.fst r1.fst r1.snd.fst r2.fst r2.snd.fst r1.snd.snd.snd.fst r1.snd.snd.snd.snd r2.snd.snd.snd.fst r2.snd.snd.snd.snd

noncomputable def evermorelaw_HigmanCloses.body : Code := fnBody Try.f11
def evermorelaw_HigmanCloses.ti : Tm := ⟨[(0, .p (.pair (.int .i64) (.pair (.int .i64) (.pair (.slice (.slice (.int .i64))) (.pair (.slice (.int .i64)) .unit)))))], []⟩
def evermorelaw_HigmanCloses.to : Tm := ⟨[(0, .p .bool)], []⟩
def evermorelaw_HigmanCloses.rs (r : Bool) : List Dat := [⟨.bool, r⟩]
def evermorelaw_HigmanCloses.out (ds : List Dat) : Option (Bool) := pop .bool ds fun x0 ds => popN ds (some (x0))
def evermorelaw_HigmanCloses.c (k : Nat) (ds : List Dat) : Option (Bool) := pop (.pair (.int .i64) (.pair (.int .i64) (.pair (.slice (.slice (.int .i64))) (.pair (.slice (.int .i64)) .unit)))) ds fun x0 ds => popN ds (evermorelaw_HigmanCloses.f k x0)
def evermorelaw_HigmanCloses.g : Nat → List Dat → Option (Bool)
 | 0, _ => none
 | k + 1, ds => evermorelaw_HigmanCloses.c k ds
def evermorelaw_HigmanCloses.env (k : Nat) : Nat → List SV → List Chunk → KT (Bool) → Option (Bool) := (envC 61 2 evermoreref32_Wide.ti evermoreref32_Wide.to (fun ds K => pop (.pair (.int .i64) (.pair (.int .i64) (.pair (.slice (.slice (.int .i64))) (.pair (.slice (.int .i64)) .unit)))) ds fun x0 ds => pop .bool ds fun x1 ds => popN ds ((evermoreref32_Wide.f k x0 x1).bind fun r => K (evermoreref32_Wide.rs r))) (envC 44 2 evermoreref3_Same.ti evermoreref3_Same.to (fun ds K => pop (.pair (.int .i64) (.pair (.int .i64) (.pair (.slice (.slice (.int .i64))) (.pair (.slice (.int .i64)) .unit)))) ds fun x0 ds => pop (.pair (.int .i64) (.pair (.int .i64) (.pair (.slice (.slice (.int .i64))) (.pair (.slice (.int .i64)) .unit)))) ds fun x1 ds => popN ds ((evermoreref3_Same.f k x0 x1).bind fun r => K (evermoreref3_Same.rs r))) (envC 44 2 evermoreref3_Same_2.ti evermoreref3_Same_2.to (fun ds K => pop (.pair (.int .i64) (.pair (.int .i64) (.pair (.slice (.slice (.int .i64))) (.pair (.slice (.int .i64)) .unit)))) ds fun x0 ds => pop (.pair (.int .i64) (.pair (.int .i64) (.pair (.slice (.slice (.int .i64))) (.pair (.slice (.int .i64)) .unit)))) ds fun x1 ds => popN ds ((evermoreref3_Same_2.f k x0 x1).bind fun r => K (evermoreref3_Same_2.rs r))) (envC 37 1 evermorelaw_noDet.ti evermorelaw_noDet.to (fun ds K => pop (.pair (.int .i64) (.pair (.int .i64) (.pair (.slice (.slice (.int .i64))) (.pair (.slice (.int .i64)) .unit)))) ds fun x0 ds => popN ds ((evermorelaw_noDet.f k x0).bind fun r => K (evermorelaw_noDet.rs r))) (envC 37 1 evermorelaw_noDet_2.ti evermorelaw_noDet_2.to (fun ds K => pop (.pair (.int .i64) (.pair (.int .i64) (.pair (.slice (.slice (.int .i64))) (.pair (.slice (.int .i64)) .unit)))) ds fun x0 ds => popN ds ((evermorelaw_noDet_2.f k x0).bind fun r => K (evermorelaw_noDet_2.rs r))) (envC 59 1 higman_Up.ti higman_Up.to (fun ds K => pop (.pair (.int .i64) (.pair (.int .i64) (.pair (.slice (.slice (.int .i64))) (.pair (.slice (.int .i64)) .unit)))) ds fun x0 ds => popN ds ((higman_Up.f k x0).bind fun r => K (higman_Up.rs r))) (envC 60 1 higman_Down.ti higman_Down.to (fun ds K => pop (.pair (.int .i64) (.pair (.int .i64) (.pair (.slice (.slice (.int .i64))) (.pair (.slice (.int .i64)) .unit)))) ds fun x0 ds => popN ds ((higman_Down.f k x0).bind fun r => K (higman_Down.rs r))) (envC 45 1 evermoreref3_Check.ti evermoreref3_Check.to (fun ds K => pop (.pair (.int .i64) (.pair (.int .i64) (.pair (.slice (.slice (.int .i64))) (.pair (.slice (.int .i64)) .unit)))) ds fun x0 ds => popN ds ((evermoreref3_Check.f k x0).bind fun r => K (evermoreref3_Check.rs r))) env0))))))))
def evermorelaw_HigmanCloses.t12 : Tm := ⟨[(1, .ptr 0 0), (3, .ptr 1 0), (4, .p (.int .i64)), (5, .ptr 2 0), (6, .p (.int .i64)), (7, .p (.int .i64))], [.box [.p (.int .i64), .p (.int .i64), .p (.slice (.slice (.int .i64))), .p (.slice (.int .i64))] 58, .box [.p (.int .i64), .p (.int .i64), .own 3, .own 4] 58, .box [.p (.int .i64), .p (.int .i64), .own 5, .own 6] 58, .own (.slice (.int .i64)), .own (.int .i64), .own (.slice (.int .i64)), .own (.int .i64)]⟩
def evermorelaw_HigmanCloses.c12 (k : Nat) (ds : List Dat) : Option (Bool) := pop (.int .i64) ds fun x0 ds => pop (.int .i64) ds fun x1 ds => pop (.int .i64) ds fun x2 ds => pop (.int .i64) ds fun x3 ds => pop (.int .i64) ds fun x4 ds => pop (.slice (.slice (.int .i64))) ds fun x5 ds => pop (.slice (.int .i64)) ds fun x6 ds => pop (.int .i64) ds fun x7 ds => pop (.int .i64) ds fun x8 ds => pop (.int .i64) ds fun x9 ds => pop (.int .i64) ds fun x10 ds => pop (.slice (.slice (.int .i64))) ds fun x11 ds => pop (.slice (.int .i64)) ds fun x12 ds => pop (.slice (.slice (.int .i64))) ds fun x13 ds => pop (.slice (.int .i64)) ds fun x14 ds => popN ds (evermorelaw_HigmanCloses.j6 k x0 x1 x2 x3 x4 x5 x6 x7 x8 x9 x10 x11 x12 x13 x14)
def evermorelaw_HigmanCloses.tbl : List (Nat × Tm × (Nat → List Dat → Option (Bool))) := [(12, evermorelaw_HigmanCloses.t12, evermorelaw_HigmanCloses.c12)]
noncomputable abbrev evermorelaw_HigmanCloses.R (k : Nat) := run T (evermorelaw_HigmanCloses.env k) Try.f11.ntmps (cutE 0 evermorelaw_HigmanCloses.tbl k) (finE 0 evermorelaw_HigmanCloses.to evermorelaw_HigmanCloses.out) (fnRes Try.f11) [6] 100000 true
theorem evermorelaw_HigmanCloses.e12 (k : Nat) (x0 : Int) (x1 : Int) (x2 : Int) (x3 : Int) (x4 : Int) (x5 : (List (List Int))) (x6 : (List Int)) (x7 : Int) (x8 : Int) (x9 : Int) (x10 : Int) (x11 : (List (List Int))) (x12 : (List Int)) (x13 : (List (List Int))) (x14 : (List Int)) : evermorelaw_HigmanCloses.j6 (k + 1) x0 x1 x2 x3 x4 x5 x6 x7 x8 x9 x10 x11 x12 x13 x14 = evermorelaw_HigmanCloses.R k (start (stackOf 12 evermorelaw_HigmanCloses.body)) (evermorelaw_HigmanCloses.t12.fill [⟨(.int .i64), x0⟩, ⟨(.int .i64), x1⟩, ⟨(.int .i64), x2⟩, ⟨(.int .i64), x3⟩, ⟨(.int .i64), x4⟩, ⟨(.slice (.slice (.int .i64))), x5⟩, ⟨(.slice (.int .i64)), x6⟩, ⟨(.int .i64), x7⟩, ⟨(.int .i64), x8⟩, ⟨(.int .i64), x9⟩, ⟨(.int .i64), x10⟩, ⟨(.slice (.slice (.int .i64))), x11⟩, ⟨(.slice (.int .i64)), x12⟩, ⟨(.slice (.slice (.int .i64))), x13⟩, ⟨(.slice (.int .i64)), x14⟩]) := by kernel_rfl
theorem evermorelaw_HigmanCloses.s12 : stackAt 12 evermorelaw_HigmanCloses.body [] = some (stackOf 12 evermorelaw_HigmanCloses.body) := by kernel_rfl
theorem evermorelaw_HigmanCloses.h12 (k : Nat) (ds : List Dat) (r : Bool) (h : evermorelaw_HigmanCloses.c12 k ds = some r) : ∃ k', k' < k ∧ ∃ s, stackAt 12 evermorelaw_HigmanCloses.body [] = some s ∧ evermorelaw_HigmanCloses.R k' (start s) (evermorelaw_HigmanCloses.t12.fill ds) = some r := by
  unfold evermorelaw_HigmanCloses.c12 at h
  obtain ⟨x0, d0, rfl, h0⟩ := pop_some h
  obtain ⟨x1, d1, rfl, h1⟩ := pop_some h0
  obtain ⟨x2, d2, rfl, h2⟩ := pop_some h1
  obtain ⟨x3, d3, rfl, h3⟩ := pop_some h2
  obtain ⟨x4, d4, rfl, h4⟩ := pop_some h3
  obtain ⟨x5, d5, rfl, h5⟩ := pop_some h4
  obtain ⟨x6, d6, rfl, h6⟩ := pop_some h5
  obtain ⟨x7, d7, rfl, h7⟩ := pop_some h6
  obtain ⟨x8, d8, rfl, h8⟩ := pop_some h7
  obtain ⟨x9, d9, rfl, h9⟩ := pop_some h8
  obtain ⟨x10, d10, rfl, h10⟩ := pop_some h9
  obtain ⟨x11, d11, rfl, h11⟩ := pop_some h10
  obtain ⟨x12, d12, rfl, h12⟩ := pop_some h11
  obtain ⟨x13, d13, rfl, h13⟩ := pop_some h12
  obtain ⟨x14, d14, rfl, h14⟩ := pop_some h13
  obtain ⟨rfl, g⟩ := popN_some h14
  cases k with
  | zero => cases (show none = some r from g)
  | succ k => exact ⟨k, Nat.lt_succ_self k, _, evermorelaw_HigmanCloses.s12, (evermorelaw_HigmanCloses.e12 k x0 x1 x2 x3 x4 x5 x6 x7 x8 x9 x10 x11 x12 x13 x14).symm.trans g⟩
theorem evermorelaw_HigmanCloses.e (k : Nat) (x0 : (Int × (Int × ((List (List Int)) × ((List Int) × Unit))))) : evermorelaw_HigmanCloses.f k x0 = evermorelaw_HigmanCloses.R k ([.code evermorelaw_HigmanCloses.body]) (evermorelaw_HigmanCloses.ti.fill [⟨(.pair (.int .i64) (.pair (.int .i64) (.pair (.slice (.slice (.int .i64))) (.pair (.slice (.int .i64)) .unit)))), x0⟩]) := by kernel_rfl
theorem evermorelaw_HigmanCloses.h (k : Nat) (ds : List Dat) (r : Bool) (h : evermorelaw_HigmanCloses.g k ds = some r) : ∃ k', k' < k ∧ evermorelaw_HigmanCloses.R k' ([.code evermorelaw_HigmanCloses.body]) (evermorelaw_HigmanCloses.ti.fill ds) = some r := by
  cases k with
  | zero => cases (show none = some r from h)
  | succ k =>
  replace h : evermorelaw_HigmanCloses.c k ds = some r := h
  unfold evermorelaw_HigmanCloses.c at h
  obtain ⟨x0, d0, rfl, h0⟩ := pop_some h
  obtain ⟨rfl, g⟩ := popN_some h0
  exact ⟨k, Nat.lt_succ_self k, (evermorelaw_HigmanCloses.e k x0).symm.trans g⟩
theorem evermorelaw_HigmanCloses.o (ds : List Dat) (r : Bool) (h : evermorelaw_HigmanCloses.out ds = some r) : ds = evermorelaw_HigmanCloses.rs r := by
  unfold evermorelaw_HigmanCloses.out at h
  obtain ⟨x0, d0, rfl, h0⟩ := pop_some h
  obtain ⟨rfl, g⟩ := popN_some h0
  cases g
  rfl
theorem evermorelaw_HigmanCloses.fn : FnOk Try.prog 11 Try.f11 evermorelaw_HigmanCloses.body Try.f11.ntmps 1 (fnRes Try.f11) :=
  fnOk_of (by kernel_rfl) (by kernel_rfl) (by kernel_rfl) (by kernel_rfl)
theorem evermorelaw_HigmanCloses.con' : ∀ k ds r, evermorelaw_HigmanCloses.g k ds = some r → Con Try.prog 11 1 evermorelaw_HigmanCloses.ti evermorelaw_HigmanCloses.to ds (evermorelaw_HigmanCloses.rs r) :=
  fun_ok (T := T) T_ok mixed evermorelaw_HigmanCloses.fn (env := evermorelaw_HigmanCloses.env) (tbl := evermorelaw_HigmanCloses.tbl) (gOut := evermorelaw_HigmanCloses.out) (nin := 0) (cuts := [6]) (fuel := 100000) rfl (by kernel_rfl) (by kernel_rfl) (by kernel_rfl) (fun x hx => by
    simp only [evermorelaw_HigmanCloses.tbl, List.mem_cons, List.not_mem_nil, or_false] at hx
    subst hx
    · exact evermorelaw_HigmanCloses.h12
) evermorelaw_HigmanCloses.o evermorelaw_HigmanCloses.h (fun k _ => by unfold evermorelaw_HigmanCloses.env; exact (envC_ok (fun ds K r h => by
    obtain ⟨x0, d0, rfl, h0⟩ := pop_some h
    obtain ⟨x1, d1, rfl, h1⟩ := pop_some h0
    obtain ⟨rfl, g⟩ := popN_some h1
    obtain ⟨r1, h1, h2⟩ := bind_some g
    exact ⟨_, h2, evermoreref32_Wide.con k _ h1⟩) (envC_ok (fun ds K r h => by
    obtain ⟨x0, d0, rfl, h0⟩ := pop_some h
    obtain ⟨x1, d1, rfl, h1⟩ := pop_some h0
    obtain ⟨rfl, g⟩ := popN_some h1
    obtain ⟨r1, h1, h2⟩ := bind_some g
    exact ⟨_, h2, evermoreref3_Same.con k _ h1⟩) (envC_ok (fun ds K r h => by
    obtain ⟨x0, d0, rfl, h0⟩ := pop_some h
    obtain ⟨x1, d1, rfl, h1⟩ := pop_some h0
    obtain ⟨rfl, g⟩ := popN_some h1
    obtain ⟨r1, h1, h2⟩ := bind_some g
    exact ⟨_, h2, evermoreref3_Same_2.con k _ h1⟩) (envC_ok (fun ds K r h => by
    obtain ⟨x0, d0, rfl, h0⟩ := pop_some h
    obtain ⟨rfl, g⟩ := popN_some h0
    obtain ⟨r1, h1, h2⟩ := bind_some g
    exact ⟨_, h2, evermorelaw_noDet.con k _ h1⟩) (envC_ok (fun ds K r h => by
    obtain ⟨x0, d0, rfl, h0⟩ := pop_some h
    obtain ⟨rfl, g⟩ := popN_some h0
    obtain ⟨r1, h1, h2⟩ := bind_some g
    exact ⟨_, h2, evermorelaw_noDet_2.con k _ h1⟩) (envC_ok (fun ds K r h => by
    obtain ⟨x0, d0, rfl, h0⟩ := pop_some h
    obtain ⟨rfl, g⟩ := popN_some h0
    obtain ⟨r1, h1, h2⟩ := bind_some g
    exact ⟨_, h2, higman_Up.con k _ h1⟩) (envC_ok (fun ds K r h => by
    obtain ⟨x0, d0, rfl, h0⟩ := pop_some h
    obtain ⟨rfl, g⟩ := popN_some h0
    obtain ⟨r1, h1, h2⟩ := bind_some g
    exact ⟨_, h2, higman_Down.con k _ h1⟩) (envC_ok (fun ds K r h => by
    obtain ⟨x0, d0, rfl, h0⟩ := pop_some h
    obtain ⟨rfl, g⟩ := popN_some h0
    obtain ⟨r1, h1, h2⟩ := bind_some g
    exact ⟨_, h2, evermoreref3_Check.con k _ h1⟩) env0_ok)))))))))
theorem evermorelaw_HigmanCloses.con (k : Nat) {x0 : (Int × (Int × ((List (List Int)) × ((List Int) × Unit))))} (r : Bool) (h : evermorelaw_HigmanCloses.f k x0 = some r) : Con Try.prog 11 1 evermorelaw_HigmanCloses.ti evermorelaw_HigmanCloses.to [⟨(.pair (.int .i64) (.pair (.int .i64) (.pair (.slice (.slice (.int .i64))) (.pair (.slice (.int .i64)) .unit)))), x0⟩] (evermorelaw_HigmanCloses.rs r) :=
  evermorelaw_HigmanCloses.con' (k + 1) _ r (by show evermorelaw_HigmanCloses.c k _ = some r; unfold evermorelaw_HigmanCloses.c; simp only [pop_self, popN]; exact h)
/-- The one pure statement of the law, over whatever arguments can be read. -/
def evermorelaw_HigmanCloses.PureH : Prop := ∀ (x0 : (Int × (Int × ((List (List Int)) × ((List Int) × Unit))))), Ty.okv (.pair (.int .i64) (.pair (.int .i64) (.pair (.slice (.slice (.int .i64))) (.pair (.slice (.int .i64)) .unit)))) x0 → ∃ k, evermorelaw_HigmanCloses.f k x0 = some true
end Go.Proofs.YtiiioobebeaafaaSx
