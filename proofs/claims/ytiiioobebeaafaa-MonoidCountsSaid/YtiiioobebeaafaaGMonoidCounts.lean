import Derived.Test.YtiiioobebeaafaaGaMonoidCounts
set_option linter.unusedVariables false
set_option maxRecDepth 100000
namespace Go.Proofs.YtiiioobebeaafaaSx
open Go Go.Proofs
mutual
def evermoreref3_Least.l4 : Nat → Int → Int → Int → List (List (Int)) → List (Int) → Int → Int → List (Int) → List (Int) → List (List (Int)) → List (Int) → Option (Int × Int × List (List Int) × List Int)
 | 0, _, _, _, _, _, _, _, _, _, _, _ => none
 | k + 1, i5, d1_0, d1_1, d1_2, d1_3, x2_0, x2_1, class3, number4, c4, c5 =>
  if i5 < (↑number4.length : Int) then
   if 0 ≤ i5 then
   if i5 < (↑number4.length : Int) then
    evermoreref3_Least.l4 k (Go.IntKind.i64.wrap (i5 + 1)) d1_0 d1_1 d1_2 d1_3 x2_0 x2_1 class3 (number4.set i5.toNat (Int.instNegInt.1 1)) c4 c5
    else none
   else none
  else
   if 0 ≤ d1_1 then
   if d1_1 < (↑class3.length : Int) then
    if 0 ≤ class3.getD d1_1.toNat (Int.ofNat 0) then
     if class3.getD d1_1.toNat (Int.ofNat 0) < (↑number4.length : Int) then
      evermoreref3_Least.l11 k 0 d1_0 d1_1 d1_2 d1_3 x2_0 x2_1 class3 (number4.set (class3.getD d1_1.toNat (Int.ofNat 0)).toNat (Int.ofNat 0)) [d1_1] d1_0 0 c4 c5 [] []
      else none
     else none
    else none
   else none
def evermoreref3_Least.l11 : Nat → Int → Int → Int → List (List (Int)) → List (Int) → Int → Int → List (Int) → List (Int) → List (Int) → Int → Int → List (List (Int)) → List (Int) → List (List (Int)) → List (Int) → Option (Int × Int × List (List Int) × List Int)
 | 0, _, _, _, _, _, _, _, _, _, _, _, _, _, _, _, _ => none
 | k + 1, i8, d1_0, d1_1, d1_2, d1_3, x2_0, x2_1, class3, number4, row6, out7_0, out7_1, c6, c7, c8, c9 =>
  if i8 < (↑row6.length : Int) then
   if 0 ≤ d1_0 then
   if d1_0 ≤ d1_0 then
    if d1_0 * ((↑8 : Int) + 1) ≤ 1099511627776 then
     evermoreref3_Least.l15 k i8 0 d1_0 d1_1 d1_2 d1_3 x2_0 x2_1 class3 number4 row6 out7_0 out7_1 (List.replicate d1_0.toNat (Int.ofNat 0)) c6 c7 c8 c9
     else none
    else none
   else none
  else
   some (out7_0, out7_1, c8, c9)
def evermoreref3_Least.l15 : Nat → Int → Int → Int → Int → List (List (Int)) → List (Int) → Int → Int → List (Int) → List (Int) → List (Int) → Int → Int → List (Int) → List (List (Int)) → List (Int) → List (List (Int)) → List (Int) → Option (Int × Int × List (List Int) × List Int)
 | 0, _, _, _, _, _, _, _, _, _, _, _, _, _, _, _, _, _, _ => none
 | k + 1, i8, a10, d1_0, d1_1, d1_2, d1_3, x2_0, x2_1, class3, number4, row6, out7_0, out7_1, next9, c7, c8, c9, c10 =>
  if a10 < d1_0 then
   if 0 ≤ i8 then
   if i8 < (↑row6.length : Int) then
    if 0 ≤ row6.getD i8.toNat (Int.ofNat 0) then
     if row6.getD i8.toNat (Int.ofNat 0) < (↑d1_2.length : Int) then
      if 0 ≤ a10 then
       if a10 < (↑(Go.Proofs.YtiiioobebeaafaaSx.rd [] d1_2 (row6.getD i8.toNat (Int.ofNat 0))).length : Int) then
        if 0 ≤ Go.Proofs.YtiiioobebeaafaaSx.rd (Int.ofNat 0) (Go.Proofs.YtiiioobebeaafaaSx.rd [] d1_2 (row6.getD i8.toNat (Int.ofNat 0))) a10 then
         if Go.Proofs.YtiiioobebeaafaaSx.rd (Int.ofNat 0) (Go.Proofs.YtiiioobebeaafaaSx.rd [] d1_2 (row6.getD i8.toNat (Int.ofNat 0))) a10 < (↑class3.length : Int) then
          if 0 ≤ class3.getD (Go.Proofs.YtiiioobebeaafaaSx.rd (Int.ofNat 0) (Go.Proofs.YtiiioobebeaafaaSx.rd [] d1_2 (row6.getD i8.toNat (Int.ofNat 0))) a10).toNat (Int.ofNat 0) then
           if class3.getD (Go.Proofs.YtiiioobebeaafaaSx.rd (Int.ofNat 0) (Go.Proofs.YtiiioobebeaafaaSx.rd [] d1_2 (row6.getD i8.toNat (Int.ofNat 0))) a10).toNat (Int.ofNat 0) < (↑number4.length : Int) then
            if number4.getD (class3.getD (Go.Proofs.YtiiioobebeaafaaSx.rd (Int.ofNat 0) (Go.Proofs.YtiiioobebeaafaaSx.rd [] d1_2 (row6.getD i8.toNat (Int.ofNat 0))) a10).toNat (Int.ofNat 0)).toNat (Int.ofNat 0) < 0 then
              if 0 ≤ Go.Proofs.YtiiioobebeaafaaSx.rd (Int.ofNat 0) (Go.Proofs.YtiiioobebeaafaaSx.rd [] d1_2 (row6.getD i8.toNat (Int.ofNat 0))) a10 then
              if Go.Proofs.YtiiioobebeaafaaSx.rd (Int.ofNat 0) (Go.Proofs.YtiiioobebeaafaaSx.rd [] d1_2 (row6.getD i8.toNat (Int.ofNat 0))) a10 < (↑class3.length : Int) then
               if 0 ≤ class3.getD (Go.Proofs.YtiiioobebeaafaaSx.rd (Int.ofNat 0) (Go.Proofs.YtiiioobebeaafaaSx.rd [] d1_2 (row6.getD i8.toNat (Int.ofNat 0))) a10).toNat (Int.ofNat 0) then
                if class3.getD (Go.Proofs.YtiiioobebeaafaaSx.rd (Int.ofNat 0) (Go.Proofs.YtiiioobebeaafaaSx.rd [] d1_2 (row6.getD i8.toNat (Int.ofNat 0))) a10).toNat (Int.ofNat 0) < (↑number4.length : Int) then
                 if (row6 ++ [Go.Proofs.YtiiioobebeaafaaSx.rd (Int.ofNat 0) (Go.Proofs.YtiiioobebeaafaaSx.rd [] d1_2 (row6.getD i8.toNat (Int.ofNat 0))) a10]).length.blt 1000000000 = true then
                  evermoreref3_Least.j21 k i8 a10 (Go.Proofs.YtiiioobebeaafaaSx.rd (Int.ofNat 0) (Go.Proofs.YtiiioobebeaafaaSx.rd [] d1_2 (row6.getD i8.toNat (Int.ofNat 0))) a10) d1_0 d1_1 d1_2 d1_3 x2_0 x2_1 class3 (number4.set (class3.getD (Go.Proofs.YtiiioobebeaafaaSx.rd (Int.ofNat 0) (Go.Proofs.YtiiioobebeaafaaSx.rd [] d1_2 (row6.getD i8.toNat (Int.ofNat 0))) a10).toNat (Int.ofNat 0)).toNat (↑row6.length : Int)) (row6 ++ [Go.Proofs.YtiiioobebeaafaaSx.rd (Int.ofNat 0) (Go.Proofs.YtiiioobebeaafaaSx.rd [] d1_2 (row6.getD i8.toNat (Int.ofNat 0))) a10]) out7_0 out7_1 next9 c7 c8 c9 c10
                  else none
                 else none
                else none
               else none
              else none
             else
              evermoreref3_Least.j21 k i8 a10 (Go.Proofs.YtiiioobebeaafaaSx.rd (Int.ofNat 0) (Go.Proofs.YtiiioobebeaafaaSx.rd [] d1_2 (row6.getD i8.toNat (Int.ofNat 0))) a10) d1_0 d1_1 d1_2 d1_3 x2_0 x2_1 class3 number4 row6 out7_0 out7_1 next9 c7 c8 c9 c10
            else none
           else none
          else none
         else none
        else none
       else none
      else none
     else none
    else none
   else none
  else
   if (c9 ++ [next9]).length.blt 1000000000 = true then
   if 0 ≤ i8 then
    if i8 < (↑row6.length : Int) then
     if 0 ≤ row6.getD i8.toNat (Int.ofNat 0) then
      if row6.getD i8.toNat (Int.ofNat 0) < (↑d1_3.length : Int) then
       if (c10 ++ [Go.Proofs.YtiiioobebeaafaaSx.rd (Int.ofNat 0) d1_3 (row6.getD i8.toNat (Int.ofNat 0))]).length.blt 1000000000 = true then
        evermoreref3_Least.l11 k (Go.IntKind.i64.wrap (i8 + 1)) d1_0 d1_1 d1_2 d1_3 x2_0 x2_1 class3 number4 row6 out7_0 out7_1 c7 c8 (c9 ++ [next9]) (c10 ++ [Go.Proofs.YtiiioobebeaafaaSx.rd (Int.ofNat 0) d1_3 (row6.getD i8.toNat (Int.ofNat 0))])
        else none
       else none
      else none
     else none
    else none
   else none
def evermoreref3_Least.j21 : Nat → Int → Int → Int → Int → Int → List (List (Int)) → List (Int) → Int → Int → List (Int) → List (Int) → List (Int) → Int → Int → List (Int) → List (List (Int)) → List (Int) → List (List (Int)) → List (Int) → Option (Int × Int × List (List Int) × List Int)
 | 0, _, _, _, _, _, _, _, _, _, _, _, _, _, _, _, _, _, _, _ => none
 | k + 1, i8, a10, q11, d1_0, d1_1, d1_2, d1_3, x2_0, x2_1, class3, number4, row6, out7_0, out7_1, next9, c7, c8, c9, c10 =>
  if 0 ≤ q11 then
  if q11 < (↑class3.length : Int) then
   if 0 ≤ class3.getD q11.toNat (Int.ofNat 0) then
    if class3.getD q11.toNat (Int.ofNat 0) < (↑number4.length : Int) then
     if 0 ≤ a10 then
      if a10 < (↑next9.length : Int) then
       evermoreref3_Least.l15 k i8 (Go.IntKind.i64.wrap (a10 + 1)) d1_0 d1_1 d1_2 d1_3 x2_0 x2_1 class3 number4 row6 out7_0 out7_1 (next9.set a10.toNat (number4.getD (class3.getD q11.toNat (Int.ofNat 0)).toNat (Int.ofNat 0))) c7 c8 c9 c10
       else none
      else none
     else none
    else none
   else none
  else none
end
def evermoreref3_Least.f (k : Nat) (d0 : (Int × (Int × (List (List (Int)) × (List (Int) × Unit))))) : Option (Int × Int × List (List Int) × List Int) :=
 (evermoreref3_Classes.f k (d0.fst, d0.snd.fst, d0.snd.snd.fst, d0.snd.snd.snd.fst, ())).bind fun r1 =>
  if 0 ≤ (↑r1.length : Int) then
  if (↑r1.length : Int) ≤ (↑r1.length : Int) then
   if (↑r1.length : Int) * ((↑8 : Int) + 1) ≤ 1099511627776 then
    evermoreref3_Least.l4 k 0 d0.fst d0.snd.fst d0.snd.snd.fst d0.snd.snd.snd.fst 0 0 r1 (List.replicate (↑r1.length : Int).toNat (Int.ofNat 0)) [] []
    else none
   else none
  else none

noncomputable def evermoreref3_Least.body : Code := fnBody Try.f46
def evermoreref3_Least.ti : Tm := ⟨[(0, .p (.pair (.int .i64) (.pair (.int .i64) (.pair (.slice (.slice (.int .i64))) (.pair (.slice (.int .i64)) .unit)))))], []⟩
def evermoreref3_Least.to : Tm := ⟨[(0, .agg [.p (.int .i64), .p (.int .i64), .own 0, .own 1])], [.own (.slice (.int .i64)), .own (.int .i64)]⟩
def evermoreref3_Least.rs (r : Int × Int × (List (List Int)) × (List Int)) : List Dat := [⟨(.int .i64), r.1⟩, ⟨(.int .i64), r.2.1⟩, ⟨(.slice (.slice (.int .i64))), r.2.2.1⟩, ⟨(.slice (.int .i64)), r.2.2.2⟩]
def evermoreref3_Least.out (ds : List Dat) : Option (Int × Int × (List (List Int)) × (List Int)) := pop (.int .i64) ds fun x0 ds => pop (.int .i64) ds fun x1 ds => pop (.slice (.slice (.int .i64))) ds fun x2 ds => pop (.slice (.int .i64)) ds fun x3 ds => popN ds (some (x0, x1, x2, x3))
def evermoreref3_Least.c (k : Nat) (ds : List Dat) : Option (Int × Int × (List (List Int)) × (List Int)) := pop (.pair (.int .i64) (.pair (.int .i64) (.pair (.slice (.slice (.int .i64))) (.pair (.slice (.int .i64)) .unit)))) ds fun x0 ds => popN ds (evermoreref3_Least.f k x0)
def evermoreref3_Least.g : Nat → List Dat → Option (Int × Int × (List (List Int)) × (List Int))
 | 0, _ => none
 | k + 1, ds => evermoreref3_Least.c k ds
def evermoreref3_Least.env (k : Nat) : Nat → List SV → List Chunk → KT (Int × Int × (List (List Int)) × (List Int)) → Option (Int × Int × (List (List Int)) × (List Int)) := (envC 104 1 evermoreref3_Classes.ti evermoreref3_Classes.to (fun ds K => pop (.pair (.int .i64) (.pair (.int .i64) (.pair (.slice (.slice (.int .i64))) (.pair (.slice (.int .i64)) .unit)))) ds fun x0 ds => popN ds ((evermoreref3_Classes.f k x0).bind fun r => K (evermoreref3_Classes.rs r))) env0)
def evermoreref3_Least.t9 : Tm := ⟨[(1, .ptr 0 0), (2, .ptr 1 0), (3, .own 2), (4, .own 3), (5, .p (.int .i64))], [.box [.p (.int .i64), .p (.int .i64), .p (.slice (.slice (.int .i64))), .p (.slice (.int .i64))] 58, .box [.p (.int .i64), .p (.int .i64), .own 4, .own 5] 58, .own (.int .i64), .own (.int .i64), .own (.slice (.int .i64)), .own (.int .i64)]⟩
def evermoreref3_Least.c9 (k : Nat) (ds : List Dat) : Option (Int × Int × (List (List Int)) × (List Int)) := pop (.int .i64) ds fun x0 ds => pop (.int .i64) ds fun x1 ds => pop (.int .i64) ds fun x2 ds => pop (.slice (.slice (.int .i64))) ds fun x3 ds => pop (.slice (.int .i64)) ds fun x4 ds => pop (.int .i64) ds fun x5 ds => pop (.int .i64) ds fun x6 ds => pop (.slice (.int .i64)) ds fun x7 ds => pop (.slice (.int .i64)) ds fun x8 ds => pop (.slice (.slice (.int .i64))) ds fun x9 ds => pop (.slice (.int .i64)) ds fun x10 ds => popN ds (evermoreref3_Least.l4 k x0 x1 x2 x3 x4 x5 x6 x7 x8 x9 x10)
def evermoreref3_Least.t23 : Tm := ⟨[(1, .ptr 0 0), (2, .ptr 1 0), (3, .own 2), (4, .own 3), (6, .own 4), (7, .ptr 5 0), (8, .p (.int .i64))], [.box [.p (.int .i64), .p (.int .i64), .p (.slice (.slice (.int .i64))), .p (.slice (.int .i64))] 58, .box [.p (.int .i64), .p (.int .i64), .own 6, .own 7] 58, .own (.int .i64), .own (.int .i64), .own (.int .i64), .box [.p (.int .i64), .p (.int .i64), .own 8, .own 9] 58, .own (.slice (.int .i64)), .own (.int .i64), .own (.slice (.int .i64)), .own (.int .i64)]⟩
def evermoreref3_Least.c23 (k : Nat) (ds : List Dat) : Option (Int × Int × (List (List Int)) × (List Int)) := pop (.int .i64) ds fun x0 ds => pop (.int .i64) ds fun x1 ds => pop (.int .i64) ds fun x2 ds => pop (.slice (.slice (.int .i64))) ds fun x3 ds => pop (.slice (.int .i64)) ds fun x4 ds => pop (.int .i64) ds fun x5 ds => pop (.int .i64) ds fun x6 ds => pop (.slice (.int .i64)) ds fun x7 ds => pop (.slice (.int .i64)) ds fun x8 ds => pop (.slice (.int .i64)) ds fun x9 ds => pop (.int .i64) ds fun x10 ds => pop (.int .i64) ds fun x11 ds => pop (.slice (.slice (.int .i64))) ds fun x12 ds => pop (.slice (.int .i64)) ds fun x13 ds => pop (.slice (.slice (.int .i64))) ds fun x14 ds => pop (.slice (.int .i64)) ds fun x15 ds => popN ds (evermoreref3_Least.l11 k x0 x1 x2 x3 x4 x5 x6 x7 x8 x9 x10 x11 x12 x13 x14 x15)
def evermoreref3_Least.t31 : Tm := ⟨[(1, .ptr 0 0), (2, .ptr 1 0), (3, .own 2), (4, .own 3), (6, .own 4), (7, .ptr 5 0), (8, .p (.int .i64)), (9, .own 6), (10, .p (.int .i64))], [.box [.p (.int .i64), .p (.int .i64), .p (.slice (.slice (.int .i64))), .p (.slice (.int .i64))] 58, .box [.p (.int .i64), .p (.int .i64), .own 7, .own 8] 58, .own (.int .i64), .own (.int .i64), .own (.int .i64), .box [.p (.int .i64), .p (.int .i64), .own 9, .own 10] 58, .own (.int .i64), .own (.slice (.int .i64)), .own (.int .i64), .own (.slice (.int .i64)), .own (.int .i64)]⟩
def evermoreref3_Least.c31 (k : Nat) (ds : List Dat) : Option (Int × Int × (List (List Int)) × (List Int)) := pop (.int .i64) ds fun x0 ds => pop (.int .i64) ds fun x1 ds => pop (.int .i64) ds fun x2 ds => pop (.int .i64) ds fun x3 ds => pop (.slice (.slice (.int .i64))) ds fun x4 ds => pop (.slice (.int .i64)) ds fun x5 ds => pop (.int .i64) ds fun x6 ds => pop (.int .i64) ds fun x7 ds => pop (.slice (.int .i64)) ds fun x8 ds => pop (.slice (.int .i64)) ds fun x9 ds => pop (.slice (.int .i64)) ds fun x10 ds => pop (.int .i64) ds fun x11 ds => pop (.int .i64) ds fun x12 ds => pop (.slice (.int .i64)) ds fun x13 ds => pop (.slice (.slice (.int .i64))) ds fun x14 ds => pop (.slice (.int .i64)) ds fun x15 ds => pop (.slice (.slice (.int .i64))) ds fun x16 ds => pop (.slice (.int .i64)) ds fun x17 ds => popN ds (evermoreref3_Least.l15 k x0 x1 x2 x3 x4 x5 x6 x7 x8 x9 x10 x11 x12 x13 x14 x15 x16 x17)
def evermoreref3_Least.t42 : Tm := ⟨[(1, .ptr 0 0), (2, .ptr 1 0), (3, .own 2), (4, .own 3), (6, .own 4), (7, .ptr 5 0), (8, .p (.int .i64)), (9, .own 6), (10, .p (.int .i64)), (11, .p (.int .i64))], [.box [.p (.int .i64), .p (.int .i64), .p (.slice (.slice (.int .i64))), .p (.slice (.int .i64))] 58, .box [.p (.int .i64), .p (.int .i64), .own 7, .own 8] 58, .own (.int .i64), .own (.int .i64), .own (.int .i64), .box [.p (.int .i64), .p (.int .i64), .own 9, .own 10] 58, .own (.int .i64), .own (.slice (.int .i64)), .own (.int .i64), .own (.slice (.int .i64)), .own (.int .i64)]⟩
def evermoreref3_Least.c42 (k : Nat) (ds : List Dat) : Option (Int × Int × (List (List Int)) × (List Int)) := pop (.int .i64) ds fun x0 ds => pop (.int .i64) ds fun x1 ds => pop (.int .i64) ds fun x2 ds => pop (.int .i64) ds fun x3 ds => pop (.int .i64) ds fun x4 ds => pop (.slice (.slice (.int .i64))) ds fun x5 ds => pop (.slice (.int .i64)) ds fun x6 ds => pop (.int .i64) ds fun x7 ds => pop (.int .i64) ds fun x8 ds => pop (.slice (.int .i64)) ds fun x9 ds => pop (.slice (.int .i64)) ds fun x10 ds => pop (.slice (.int .i64)) ds fun x11 ds => pop (.int .i64) ds fun x12 ds => pop (.int .i64) ds fun x13 ds => pop (.slice (.int .i64)) ds fun x14 ds => pop (.slice (.slice (.int .i64))) ds fun x15 ds => pop (.slice (.int .i64)) ds fun x16 ds => pop (.slice (.slice (.int .i64))) ds fun x17 ds => pop (.slice (.int .i64)) ds fun x18 ds => popN ds (evermoreref3_Least.j21 k x0 x1 x2 x3 x4 x5 x6 x7 x8 x9 x10 x11 x12 x13 x14 x15 x16 x17 x18)
def evermoreref3_Least.tbl : List (Nat × Tm × (Nat → List Dat → Option (Int × Int × (List (List Int)) × (List Int)))) := [(9, evermoreref3_Least.t9, evermoreref3_Least.c9), (23, evermoreref3_Least.t23, evermoreref3_Least.c23), (31, evermoreref3_Least.t31, evermoreref3_Least.c31), (42, evermoreref3_Least.t42, evermoreref3_Least.c42)]
noncomputable abbrev evermoreref3_Least.R (k : Nat) := run T (evermoreref3_Least.env k) Try.f46.ntmps (cutE 0 evermoreref3_Least.tbl k) (finE 0 evermoreref3_Least.to evermoreref3_Least.out) (fnRes Try.f46) [21] 100000 true
theorem evermoreref3_Least.e9 (k : Nat) (x0 : Int) (x1 : Int) (x2 : Int) (x3 : (List (List Int))) (x4 : (List Int)) (x5 : Int) (x6 : Int) (x7 : (List Int)) (x8 : (List Int)) (x9 : (List (List Int))) (x10 : (List Int)) : evermoreref3_Least.l4 (k + 1) x0 x1 x2 x3 x4 x5 x6 x7 x8 x9 x10 = evermoreref3_Least.R k (start (stackOf 9 evermoreref3_Least.body)) (evermoreref3_Least.t9.fill [⟨(.int .i64), x0⟩, ⟨(.int .i64), x1⟩, ⟨(.int .i64), x2⟩, ⟨(.slice (.slice (.int .i64))), x3⟩, ⟨(.slice (.int .i64)), x4⟩, ⟨(.int .i64), x5⟩, ⟨(.int .i64), x6⟩, ⟨(.slice (.int .i64)), x7⟩, ⟨(.slice (.int .i64)), x8⟩, ⟨(.slice (.slice (.int .i64))), x9⟩, ⟨(.slice (.int .i64)), x10⟩]) := by kernel_rfl
theorem evermoreref3_Least.s9 : stackAt 9 evermoreref3_Least.body [] = some (stackOf 9 evermoreref3_Least.body) := by kernel_rfl
theorem evermoreref3_Least.h9 (k : Nat) (ds : List Dat) (r : Int × Int × (List (List Int)) × (List Int)) (h : evermoreref3_Least.c9 k ds = some r) : ∃ k', k' < k ∧ ∃ s, stackAt 9 evermoreref3_Least.body [] = some s ∧ evermoreref3_Least.R k' (start s) (evermoreref3_Least.t9.fill ds) = some r := by
  unfold evermoreref3_Least.c9 at h
  obtain ⟨x0, d0, rfl, h0⟩ := pop_some h
  obtain ⟨x1, d1, rfl, h1⟩ := pop_some h0
  obtain ⟨x2, d2, rfl, h2⟩ := pop_some h1
  obtain ⟨x3, d3, rfl, h3⟩ := pop_some h2
  obtain ⟨x4, d4, rfl, h4⟩ := pop_some h3
  obtain ⟨x5, d5, rfl, h5⟩ := pop_some h4
  obtain ⟨x6, d6, rfl, h6⟩ := pop_some h5
  obtain ⟨x7, d7, rfl, h7⟩ := pop_some h6
  obtain ⟨x8, d8, rfl, h8⟩ := pop_some h7
  obtain ⟨x9, d9, rfl, h9⟩ := pop_some h8
  obtain ⟨x10, d10, rfl, h10⟩ := pop_some h9
  obtain ⟨rfl, g⟩ := popN_some h10
  cases k with
  | zero => cases (show none = some r from g)
  | succ k => exact ⟨k, Nat.lt_succ_self k, _, evermoreref3_Least.s9, (evermoreref3_Least.e9 k x0 x1 x2 x3 x4 x5 x6 x7 x8 x9 x10).symm.trans g⟩
theorem evermoreref3_Least.e23 (k : Nat) (x0 : Int) (x1 : Int) (x2 : Int) (x3 : (List (List Int))) (x4 : (List Int)) (x5 : Int) (x6 : Int) (x7 : (List Int)) (x8 : (List Int)) (x9 : (List Int)) (x10 : Int) (x11 : Int) (x12 : (List (List Int))) (x13 : (List Int)) (x14 : (List (List Int))) (x15 : (List Int)) : evermoreref3_Least.l11 (k + 1) x0 x1 x2 x3 x4 x5 x6 x7 x8 x9 x10 x11 x12 x13 x14 x15 = evermoreref3_Least.R k (start (stackOf 23 evermoreref3_Least.body)) (evermoreref3_Least.t23.fill [⟨(.int .i64), x0⟩, ⟨(.int .i64), x1⟩, ⟨(.int .i64), x2⟩, ⟨(.slice (.slice (.int .i64))), x3⟩, ⟨(.slice (.int .i64)), x4⟩, ⟨(.int .i64), x5⟩, ⟨(.int .i64), x6⟩, ⟨(.slice (.int .i64)), x7⟩, ⟨(.slice (.int .i64)), x8⟩, ⟨(.slice (.int .i64)), x9⟩, ⟨(.int .i64), x10⟩, ⟨(.int .i64), x11⟩, ⟨(.slice (.slice (.int .i64))), x12⟩, ⟨(.slice (.int .i64)), x13⟩, ⟨(.slice (.slice (.int .i64))), x14⟩, ⟨(.slice (.int .i64)), x15⟩]) := by kernel_rfl
theorem evermoreref3_Least.s23 : stackAt 23 evermoreref3_Least.body [] = some (stackOf 23 evermoreref3_Least.body) := by kernel_rfl
theorem evermoreref3_Least.h23 (k : Nat) (ds : List Dat) (r : Int × Int × (List (List Int)) × (List Int)) (h : evermoreref3_Least.c23 k ds = some r) : ∃ k', k' < k ∧ ∃ s, stackAt 23 evermoreref3_Least.body [] = some s ∧ evermoreref3_Least.R k' (start s) (evermoreref3_Least.t23.fill ds) = some r := by
  unfold evermoreref3_Least.c23 at h
  obtain ⟨x0, d0, rfl, h0⟩ := pop_some h
  obtain ⟨x1, d1, rfl, h1⟩ := pop_some h0
  obtain ⟨x2, d2, rfl, h2⟩ := pop_some h1
  obtain ⟨x3, d3, rfl, h3⟩ := pop_some h2
  obtain ⟨x4, d4, rfl, h4⟩ := pop_some h3
  obtain ⟨x5, d5, rfl, h5⟩ := pop_some h4
  obtain ⟨x6, d6, rfl, h6⟩ := pop_some h5
  obtain ⟨x7, d7, rfl, h7⟩ := pop_some h6
  obtain ⟨x8, d8, rfl, h8⟩ := pop_some h7
  obtain ⟨x9, d9, rfl, h9⟩ := pop_some h8
  obtain ⟨x10, d10, rfl, h10⟩ := pop_some h9
  obtain ⟨x11, d11, rfl, h11⟩ := pop_some h10
  obtain ⟨x12, d12, rfl, h12⟩ := pop_some h11
  obtain ⟨x13, d13, rfl, h13⟩ := pop_some h12
  obtain ⟨x14, d14, rfl, h14⟩ := pop_some h13
  obtain ⟨x15, d15, rfl, h15⟩ := pop_some h14
  obtain ⟨rfl, g⟩ := popN_some h15
  cases k with
  | zero => cases (show none = some r from g)
  | succ k => exact ⟨k, Nat.lt_succ_self k, _, evermoreref3_Least.s23, (evermoreref3_Least.e23 k x0 x1 x2 x3 x4 x5 x6 x7 x8 x9 x10 x11 x12 x13 x14 x15).symm.trans g⟩
theorem evermoreref3_Least.e31 (k : Nat) (x0 : Int) (x1 : Int) (x2 : Int) (x3 : Int) (x4 : (List (List Int))) (x5 : (List Int)) (x6 : Int) (x7 : Int) (x8 : (List Int)) (x9 : (List Int)) (x10 : (List Int)) (x11 : Int) (x12 : Int) (x13 : (List Int)) (x14 : (List (List Int))) (x15 : (List Int)) (x16 : (List (List Int))) (x17 : (List Int)) : evermoreref3_Least.l15 (k + 1) x0 x1 x2 x3 x4 x5 x6 x7 x8 x9 x10 x11 x12 x13 x14 x15 x16 x17 = evermoreref3_Least.R k (start (stackOf 31 evermoreref3_Least.body)) (evermoreref3_Least.t31.fill [⟨(.int .i64), x0⟩, ⟨(.int .i64), x1⟩, ⟨(.int .i64), x2⟩, ⟨(.int .i64), x3⟩, ⟨(.slice (.slice (.int .i64))), x4⟩, ⟨(.slice (.int .i64)), x5⟩, ⟨(.int .i64), x6⟩, ⟨(.int .i64), x7⟩, ⟨(.slice (.int .i64)), x8⟩, ⟨(.slice (.int .i64)), x9⟩, ⟨(.slice (.int .i64)), x10⟩, ⟨(.int .i64), x11⟩, ⟨(.int .i64), x12⟩, ⟨(.slice (.int .i64)), x13⟩, ⟨(.slice (.slice (.int .i64))), x14⟩, ⟨(.slice (.int .i64)), x15⟩, ⟨(.slice (.slice (.int .i64))), x16⟩, ⟨(.slice (.int .i64)), x17⟩]) := by kernel_rfl
theorem evermoreref3_Least.s31 : stackAt 31 evermoreref3_Least.body [] = some (stackOf 31 evermoreref3_Least.body) := by kernel_rfl
theorem evermoreref3_Least.h31 (k : Nat) (ds : List Dat) (r : Int × Int × (List (List Int)) × (List Int)) (h : evermoreref3_Least.c31 k ds = some r) : ∃ k', k' < k ∧ ∃ s, stackAt 31 evermoreref3_Least.body [] = some s ∧ evermoreref3_Least.R k' (start s) (evermoreref3_Least.t31.fill ds) = some r := by
  unfold evermoreref3_Least.c31 at h
  obtain ⟨x0, d0, rfl, h0⟩ := pop_some h
  obtain ⟨x1, d1, rfl, h1⟩ := pop_some h0
  obtain ⟨x2, d2, rfl, h2⟩ := pop_some h1
  obtain ⟨x3, d3, rfl, h3⟩ := pop_some h2
  obtain ⟨x4, d4, rfl, h4⟩ := pop_some h3
  obtain ⟨x5, d5, rfl, h5⟩ := pop_some h4
  obtain ⟨x6, d6, rfl, h6⟩ := pop_some h5
  obtain ⟨x7, d7, rfl, h7⟩ := pop_some h6
  obtain ⟨x8, d8, rfl, h8⟩ := pop_some h7
  obtain ⟨x9, d9, rfl, h9⟩ := pop_some h8
  obtain ⟨x10, d10, rfl, h10⟩ := pop_some h9
  obtain ⟨x11, d11, rfl, h11⟩ := pop_some h10
  obtain ⟨x12, d12, rfl, h12⟩ := pop_some h11
  obtain ⟨x13, d13, rfl, h13⟩ := pop_some h12
  obtain ⟨x14, d14, rfl, h14⟩ := pop_some h13
  obtain ⟨x15, d15, rfl, h15⟩ := pop_some h14
  obtain ⟨x16, d16, rfl, h16⟩ := pop_some h15
  obtain ⟨x17, d17, rfl, h17⟩ := pop_some h16
  obtain ⟨rfl, g⟩ := popN_some h17
  cases k with
  | zero => cases (show none = some r from g)
  | succ k => exact ⟨k, Nat.lt_succ_self k, _, evermoreref3_Least.s31, (evermoreref3_Least.e31 k x0 x1 x2 x3 x4 x5 x6 x7 x8 x9 x10 x11 x12 x13 x14 x15 x16 x17).symm.trans g⟩
theorem evermoreref3_Least.e42 (k : Nat) (x0 : Int) (x1 : Int) (x2 : Int) (x3 : Int) (x4 : Int) (x5 : (List (List Int))) (x6 : (List Int)) (x7 : Int) (x8 : Int) (x9 : (List Int)) (x10 : (List Int)) (x11 : (List Int)) (x12 : Int) (x13 : Int) (x14 : (List Int)) (x15 : (List (List Int))) (x16 : (List Int)) (x17 : (List (List Int))) (x18 : (List Int)) : evermoreref3_Least.j21 (k + 1) x0 x1 x2 x3 x4 x5 x6 x7 x8 x9 x10 x11 x12 x13 x14 x15 x16 x17 x18 = evermoreref3_Least.R k (start (stackOf 42 evermoreref3_Least.body)) (evermoreref3_Least.t42.fill [⟨(.int .i64), x0⟩, ⟨(.int .i64), x1⟩, ⟨(.int .i64), x2⟩, ⟨(.int .i64), x3⟩, ⟨(.int .i64), x4⟩, ⟨(.slice (.slice (.int .i64))), x5⟩, ⟨(.slice (.int .i64)), x6⟩, ⟨(.int .i64), x7⟩, ⟨(.int .i64), x8⟩, ⟨(.slice (.int .i64)), x9⟩, ⟨(.slice (.int .i64)), x10⟩, ⟨(.slice (.int .i64)), x11⟩, ⟨(.int .i64), x12⟩, ⟨(.int .i64), x13⟩, ⟨(.slice (.int .i64)), x14⟩, ⟨(.slice (.slice (.int .i64))), x15⟩, ⟨(.slice (.int .i64)), x16⟩, ⟨(.slice (.slice (.int .i64))), x17⟩, ⟨(.slice (.int .i64)), x18⟩]) := by kernel_rfl
theorem evermoreref3_Least.s42 : stackAt 42 evermoreref3_Least.body [] = some (stackOf 42 evermoreref3_Least.body) := by kernel_rfl
theorem evermoreref3_Least.h42 (k : Nat) (ds : List Dat) (r : Int × Int × (List (List Int)) × (List Int)) (h : evermoreref3_Least.c42 k ds = some r) : ∃ k', k' < k ∧ ∃ s, stackAt 42 evermoreref3_Least.body [] = some s ∧ evermoreref3_Least.R k' (start s) (evermoreref3_Least.t42.fill ds) = some r := by
  unfold evermoreref3_Least.c42 at h
  obtain ⟨x0, d0, rfl, h0⟩ := pop_some h
  obtain ⟨x1, d1, rfl, h1⟩ := pop_some h0
  obtain ⟨x2, d2, rfl, h2⟩ := pop_some h1
  obtain ⟨x3, d3, rfl, h3⟩ := pop_some h2
  obtain ⟨x4, d4, rfl, h4⟩ := pop_some h3
  obtain ⟨x5, d5, rfl, h5⟩ := pop_some h4
  obtain ⟨x6, d6, rfl, h6⟩ := pop_some h5
  obtain ⟨x7, d7, rfl, h7⟩ := pop_some h6
  obtain ⟨x8, d8, rfl, h8⟩ := pop_some h7
  obtain ⟨x9, d9, rfl, h9⟩ := pop_some h8
  obtain ⟨x10, d10, rfl, h10⟩ := pop_some h9
  obtain ⟨x11, d11, rfl, h11⟩ := pop_some h10
  obtain ⟨x12, d12, rfl, h12⟩ := pop_some h11
  obtain ⟨x13, d13, rfl, h13⟩ := pop_some h12
  obtain ⟨x14, d14, rfl, h14⟩ := pop_some h13
  obtain ⟨x15, d15, rfl, h15⟩ := pop_some h14
  obtain ⟨x16, d16, rfl, h16⟩ := pop_some h15
  obtain ⟨x17, d17, rfl, h17⟩ := pop_some h16
  obtain ⟨x18, d18, rfl, h18⟩ := pop_some h17
  obtain ⟨rfl, g⟩ := popN_some h18
  cases k with
  | zero => cases (show none = some r from g)
  | succ k => exact ⟨k, Nat.lt_succ_self k, _, evermoreref3_Least.s42, (evermoreref3_Least.e42 k x0 x1 x2 x3 x4 x5 x6 x7 x8 x9 x10 x11 x12 x13 x14 x15 x16 x17 x18).symm.trans g⟩
theorem evermoreref3_Least.e (k : Nat) (x0 : (Int × (Int × ((List (List Int)) × ((List Int) × Unit))))) : evermoreref3_Least.f k x0 = evermoreref3_Least.R k ([.code evermoreref3_Least.body]) (evermoreref3_Least.ti.fill [⟨(.pair (.int .i64) (.pair (.int .i64) (.pair (.slice (.slice (.int .i64))) (.pair (.slice (.int .i64)) .unit)))), x0⟩]) := by kernel_rfl
theorem evermoreref3_Least.h (k : Nat) (ds : List Dat) (r : Int × Int × (List (List Int)) × (List Int)) (h : evermoreref3_Least.g k ds = some r) : ∃ k', k' < k ∧ evermoreref3_Least.R k' ([.code evermoreref3_Least.body]) (evermoreref3_Least.ti.fill ds) = some r := by
  cases k with
  | zero => cases (show none = some r from h)
  | succ k =>
  replace h : evermoreref3_Least.c k ds = some r := h
  unfold evermoreref3_Least.c at h
  obtain ⟨x0, d0, rfl, h0⟩ := pop_some h
  obtain ⟨rfl, g⟩ := popN_some h0
  exact ⟨k, Nat.lt_succ_self k, (evermoreref3_Least.e k x0).symm.trans g⟩
theorem evermoreref3_Least.o (ds : List Dat) (r : Int × Int × (List (List Int)) × (List Int)) (h : evermoreref3_Least.out ds = some r) : ds = evermoreref3_Least.rs r := by
  unfold evermoreref3_Least.out at h
  obtain ⟨x0, d0, rfl, h0⟩ := pop_some h
  obtain ⟨x1, d1, rfl, h1⟩ := pop_some h0
  obtain ⟨x2, d2, rfl, h2⟩ := pop_some h1
  obtain ⟨x3, d3, rfl, h3⟩ := pop_some h2
  obtain ⟨rfl, g⟩ := popN_some h3
  cases g
  rfl
theorem evermoreref3_Least.fn : FnOk Try.prog 46 Try.f46 evermoreref3_Least.body Try.f46.ntmps 1 (fnRes Try.f46) :=
  fnOk_of (by kernel_rfl) (by kernel_rfl) (by kernel_rfl) (by kernel_rfl)
theorem evermoreref3_Least.con' : ∀ k ds r, evermoreref3_Least.g k ds = some r → Con Try.prog 46 1 evermoreref3_Least.ti evermoreref3_Least.to ds (evermoreref3_Least.rs r) :=
  fun_ok (T := T) T_ok mixed evermoreref3_Least.fn (env := evermoreref3_Least.env) (tbl := evermoreref3_Least.tbl) (gOut := evermoreref3_Least.out) (nin := 0) (cuts := [21]) (fuel := 100000) rfl (by kernel_rfl) (by kernel_rfl) (by kernel_rfl) (fun x hx => by
    simp only [evermoreref3_Least.tbl, List.mem_cons, List.not_mem_nil, or_false] at hx
    rcases hx with rfl | rfl | rfl | rfl
    · exact evermoreref3_Least.h9
    · exact evermoreref3_Least.h23
    · exact evermoreref3_Least.h31
    · exact evermoreref3_Least.h42
) evermoreref3_Least.o evermoreref3_Least.h (fun k _ => by unfold evermoreref3_Least.env; exact (envC_ok (fun ds K r h => by
    obtain ⟨x0, d0, rfl, h0⟩ := pop_some h
    obtain ⟨rfl, g⟩ := popN_some h0
    obtain ⟨r1, h1, h2⟩ := bind_some g
    exact ⟨_, h2, evermoreref3_Classes.con k _ h1⟩) env0_ok))
theorem evermoreref3_Least.con (k : Nat) {x0 : (Int × (Int × ((List (List Int)) × ((List Int) × Unit))))} (r : Int × Int × (List (List Int)) × (List Int)) (h : evermoreref3_Least.f k x0 = some r) : Con Try.prog 46 1 evermoreref3_Least.ti evermoreref3_Least.to [⟨(.pair (.int .i64) (.pair (.int .i64) (.pair (.slice (.slice (.int .i64))) (.pair (.slice (.int .i64)) .unit)))), x0⟩] (evermoreref3_Least.rs r) :=
  evermoreref3_Least.con' (k + 1) _ r (by show evermoreref3_Least.c k _ = some r; unfold evermoreref3_Least.c; simp only [pop_self, popN]; exact h)
def evermorelaw_small.f (k : Nat) (d0 : (Int × (Int × (List (List (Int)) × (List (Int) × Unit))))) : Option (Int × Int × Int × List (List Int) × List Int) :=
 (evermoreref3_Check.f k (d0.fst, d0.snd.fst, d0.snd.snd.fst, d0.snd.snd.snd.fst, ())).bind fun r1 =>
  if r1 = 0 then
   (evermoreref3_Least.f k (d0.fst, d0.snd.fst, d0.snd.snd.fst, d0.snd.snd.snd.fst, ())).bind fun r3 =>
    if 5 < (↑r3.snd.snd.fst.length : Int) then
     some (0, 0, 1, [], [])
    else
     some (r3.fst, r3.snd.fst, 0, r3.snd.snd.fst, r3.snd.snd.snd)
  else
   some (0, 0, r1, [], [])

noncomputable def evermorelaw_small.body : Code := fnBody Try.f63
def evermorelaw_small.ti : Tm := ⟨[(0, .p (.pair (.int .i64) (.pair (.int .i64) (.pair (.slice (.slice (.int .i64))) (.pair (.slice (.int .i64)) .unit)))))], []⟩
def evermorelaw_small.to : Tm := ⟨[(0, .agg [.p (.int .i64), .p (.int .i64), .own 0, .own 1]), (1, .p (.int .i64))], [.own (.slice (.int .i64)), .own (.int .i64)]⟩
def evermorelaw_small.rs (r : Int × Int × Int × (List (List Int)) × (List Int)) : List Dat := [⟨(.int .i64), r.1⟩, ⟨(.int .i64), r.2.1⟩, ⟨(.int .i64), r.2.2.1⟩, ⟨(.slice (.slice (.int .i64))), r.2.2.2.1⟩, ⟨(.slice (.int .i64)), r.2.2.2.2⟩]
def evermorelaw_small.out (ds : List Dat) : Option (Int × Int × Int × (List (List Int)) × (List Int)) := pop (.int .i64) ds fun x0 ds => pop (.int .i64) ds fun x1 ds => pop (.int .i64) ds fun x2 ds => pop (.slice (.slice (.int .i64))) ds fun x3 ds => pop (.slice (.int .i64)) ds fun x4 ds => popN ds (some (x0, x1, x2, x3, x4))
def evermorelaw_small.c (k : Nat) (ds : List Dat) : Option (Int × Int × Int × (List (List Int)) × (List Int)) := pop (.pair (.int .i64) (.pair (.int .i64) (.pair (.slice (.slice (.int .i64))) (.pair (.slice (.int .i64)) .unit)))) ds fun x0 ds => popN ds (evermorelaw_small.f k x0)
def evermorelaw_small.g : Nat → List Dat → Option (Int × Int × Int × (List (List Int)) × (List Int))
 | 0, _ => none
 | k + 1, ds => evermorelaw_small.c k ds
def evermorelaw_small.env (k : Nat) : Nat → List SV → List Chunk → KT (Int × Int × Int × (List (List Int)) × (List Int)) → Option (Int × Int × Int × (List (List Int)) × (List Int)) := (envC 45 1 evermoreref3_Check.ti evermoreref3_Check.to (fun ds K => pop (.pair (.int .i64) (.pair (.int .i64) (.pair (.slice (.slice (.int .i64))) (.pair (.slice (.int .i64)) .unit)))) ds fun x0 ds => popN ds ((evermoreref3_Check.f k x0).bind fun r => K (evermoreref3_Check.rs r))) (envC 46 1 evermoreref3_Least.ti evermoreref3_Least.to (fun ds K => pop (.pair (.int .i64) (.pair (.int .i64) (.pair (.slice (.slice (.int .i64))) (.pair (.slice (.int .i64)) .unit)))) ds fun x0 ds => popN ds ((evermoreref3_Least.f k x0).bind fun r => K (evermoreref3_Least.rs r))) env0))
def evermorelaw_small.tbl : List (Nat × Tm × (Nat → List Dat → Option (Int × Int × Int × (List (List Int)) × (List Int)))) := []
noncomputable abbrev evermorelaw_small.R (k : Nat) := run T (evermorelaw_small.env k) Try.f63.ntmps (cutE 0 evermorelaw_small.tbl k) (finE 0 evermorelaw_small.to evermorelaw_small.out) (fnRes Try.f63) [] 100000 true
theorem evermorelaw_small.e (k : Nat) (x0 : (Int × (Int × ((List (List Int)) × ((List Int) × Unit))))) : evermorelaw_small.f k x0 = evermorelaw_small.R k ([.code evermorelaw_small.body]) (evermorelaw_small.ti.fill [⟨(.pair (.int .i64) (.pair (.int .i64) (.pair (.slice (.slice (.int .i64))) (.pair (.slice (.int .i64)) .unit)))), x0⟩]) := by kernel_rfl
theorem evermorelaw_small.h (k : Nat) (ds : List Dat) (r : Int × Int × Int × (List (List Int)) × (List Int)) (h : evermorelaw_small.g k ds = some r) : ∃ k', k' < k ∧ evermorelaw_small.R k' ([.code evermorelaw_small.body]) (evermorelaw_small.ti.fill ds) = some r := by
  cases k with
  | zero => cases (show none = some r from h)
  | succ k =>
  replace h : evermorelaw_small.c k ds = some r := h
  unfold evermorelaw_small.c at h
  obtain ⟨x0, d0, rfl, h0⟩ := pop_some h
  obtain ⟨rfl, g⟩ := popN_some h0
  exact ⟨k, Nat.lt_succ_self k, (evermorelaw_small.e k x0).symm.trans g⟩
theorem evermorelaw_small.o (ds : List Dat) (r : Int × Int × Int × (List (List Int)) × (List Int)) (h : evermorelaw_small.out ds = some r) : ds = evermorelaw_small.rs r := by
  unfold evermorelaw_small.out at h
  obtain ⟨x0, d0, rfl, h0⟩ := pop_some h
  obtain ⟨x1, d1, rfl, h1⟩ := pop_some h0
  obtain ⟨x2, d2, rfl, h2⟩ := pop_some h1
  obtain ⟨x3, d3, rfl, h3⟩ := pop_some h2
  obtain ⟨x4, d4, rfl, h4⟩ := pop_some h3
  obtain ⟨rfl, g⟩ := popN_some h4
  cases g
  rfl
theorem evermorelaw_small.fn : FnOk Try.prog 63 Try.f63 evermorelaw_small.body Try.f63.ntmps 1 (fnRes Try.f63) :=
  fnOk_of (by kernel_rfl) (by kernel_rfl) (by kernel_rfl) (by kernel_rfl)
theorem evermorelaw_small.con' : ∀ k ds r, evermorelaw_small.g k ds = some r → Con Try.prog 63 1 evermorelaw_small.ti evermorelaw_small.to ds (evermorelaw_small.rs r) :=
  fun_ok (T := T) T_ok mixed evermorelaw_small.fn (env := evermorelaw_small.env) (tbl := evermorelaw_small.tbl) (gOut := evermorelaw_small.out) (nin := 0) (cuts := []) (fuel := 100000) rfl (by kernel_rfl) (by kernel_rfl) (by kernel_rfl) (fun x hx => by simp [evermorelaw_small.tbl] at hx) evermorelaw_small.o evermorelaw_small.h (fun k _ => by unfold evermorelaw_small.env; exact (envC_ok (fun ds K r h => by
    obtain ⟨x0, d0, rfl, h0⟩ := pop_some h
    obtain ⟨rfl, g⟩ := popN_some h0
    obtain ⟨r1, h1, h2⟩ := bind_some g
    exact ⟨_, h2, evermoreref3_Check.con k _ h1⟩) (envC_ok (fun ds K r h => by
    obtain ⟨x0, d0, rfl, h0⟩ := pop_some h
    obtain ⟨rfl, g⟩ := popN_some h0
    obtain ⟨r1, h1, h2⟩ := bind_some g
    exact ⟨_, h2, evermoreref3_Least.con k _ h1⟩) env0_ok)))
theorem evermorelaw_small.con (k : Nat) {x0 : (Int × (Int × ((List (List Int)) × ((List Int) × Unit))))} (r : Int × Int × Int × (List (List Int)) × (List Int)) (h : evermorelaw_small.f k x0 = some r) : Con Try.prog 63 1 evermorelaw_small.ti evermorelaw_small.to [⟨(.pair (.int .i64) (.pair (.int .i64) (.pair (.slice (.slice (.int .i64))) (.pair (.slice (.int .i64)) .unit)))), x0⟩] (evermorelaw_small.rs r) :=
  evermorelaw_small.con' (k + 1) _ r (by show evermorelaw_small.c k _ = some r; unfold evermorelaw_small.c; simp only [pop_self, popN]; exact h)
mutual
def evermoreref3_After.l2 : Nat → Int → List (Int) → Int → Int → Int → List (List (Int)) → List (Int) → Option (Int)
 | 0, _, _, _, _, _, _, _ => none
 | k + 1, q1, w2, i7, d3_0, d3_1, d3_2, d3_3 =>
  if i7 < (↑w2.length : Int) then
   if 0 ≤ q1 then
   if q1 < (↑d3_2.length : Int) then
    if 0 ≤ i7 then
     if i7 < (↑w2.length : Int) then
      if 0 ≤ Go.Proofs.YtiiioobebeaafaaSx.rd (Int.ofNat 0) w2 i7 then
       if Go.Proofs.YtiiioobebeaafaaSx.rd (Int.ofNat 0) w2 i7 < (↑(Go.Proofs.YtiiioobebeaafaaSx.rd [] d3_2 q1).length : Int) then
        evermoreref3_After.l2 k (Go.Proofs.YtiiioobebeaafaaSx.rd (Int.ofNat 0) (Go.Proofs.YtiiioobebeaafaaSx.rd [] d3_2 q1) (Go.Proofs.YtiiioobebeaafaaSx.rd (Int.ofNat 0) w2 i7)) w2 (Go.IntKind.i64.wrap (i7 + 1)) d3_0 d3_1 d3_2 d3_3
        else none
       else none
      else none
     else none
    else none
   else none
  else
   some (q1)
end
def evermoreref3_After.f (k : Nat) (d0 : (Int × (Int × (List (List (Int)) × (List (Int) × Unit))))) (q1 : Int) (w2 : List (Int)) : Option (Int) :=
 evermoreref3_After.l2 k q1 w2 0 d0.fst d0.snd.fst d0.snd.snd.fst d0.snd.snd.snd.fst

noncomputable def evermoreref3_After.body : Code := fnBody Try.f73
def evermoreref3_After.ti : Tm := ⟨[(0, .p (.pair (.int .i64) (.pair (.int .i64) (.pair (.slice (.slice (.int .i64))) (.pair (.slice (.int .i64)) .unit))))), (1, .p (.int .i64)), (2, .p (.slice (.int .i64)))], []⟩
def evermoreref3_After.to : Tm := ⟨[(0, .p (.int .i64))], []⟩
def evermoreref3_After.rs (r : Int) : List Dat := [⟨(.int .i64), r⟩]
def evermoreref3_After.out (ds : List Dat) : Option (Int) := pop (.int .i64) ds fun x0 ds => popN ds (some (x0))
def evermoreref3_After.c (k : Nat) (ds : List Dat) : Option (Int) := pop (.pair (.int .i64) (.pair (.int .i64) (.pair (.slice (.slice (.int .i64))) (.pair (.slice (.int .i64)) .unit)))) ds fun x0 ds => pop (.int .i64) ds fun x1 ds => pop (.slice (.int .i64)) ds fun x2 ds => popN ds (evermoreref3_After.f k x0 x1 x2)
def evermoreref3_After.g : Nat → List Dat → Option (Int)
 | 0, _ => none
 | k + 1, ds => evermoreref3_After.c k ds
def evermoreref3_After.env (k : Nat) : Nat → List SV → List Chunk → KT (Int) → Option (Int) := env0
def evermoreref3_After.t5 : Tm := ⟨[(1, .p (.int .i64)), (2, .p (.slice (.int .i64))), (3, .ptr 0 0), (7, .p (.int .i64))], [.box [.p (.int .i64), .p (.int .i64), .p (.slice (.slice (.int .i64))), .p (.slice (.int .i64))] 58]⟩
def evermoreref3_After.c5 (k : Nat) (ds : List Dat) : Option (Int) := pop (.int .i64) ds fun x0 ds => pop (.slice (.int .i64)) ds fun x1 ds => pop (.int .i64) ds fun x2 ds => pop (.int .i64) ds fun x3 ds => pop (.int .i64) ds fun x4 ds => pop (.slice (.slice (.int .i64))) ds fun x5 ds => pop (.slice (.int .i64)) ds fun x6 ds => popN ds (evermoreref3_After.l2 k x0 x1 x2 x3 x4 x5 x6)
def evermoreref3_After.tbl : List (Nat × Tm × (Nat → List Dat → Option (Int))) := [(5, evermoreref3_After.t5, evermoreref3_After.c5)]
noncomputable abbrev evermoreref3_After.R (k : Nat) := run T (evermoreref3_After.env k) Try.f73.ntmps (cutE 0 evermoreref3_After.tbl k) (finE 0 evermoreref3_After.to evermoreref3_After.out) (fnRes Try.f73) [] 100000 true
theorem evermoreref3_After.e5 (k : Nat) (x0 : Int) (x1 : (List Int)) (x2 : Int) (x3 : Int) (x4 : Int) (x5 : (List (List Int))) (x6 : (List Int)) : evermoreref3_After.l2 (k + 1) x0 x1 x2 x3 x4 x5 x6 = evermoreref3_After.R k (start (stackOf 5 evermoreref3_After.body)) (evermoreref3_After.t5.fill [⟨(.int .i64), x0⟩, ⟨(.slice (.int .i64)), x1⟩, ⟨(.int .i64), x2⟩, ⟨(.int .i64), x3⟩, ⟨(.int .i64), x4⟩, ⟨(.slice (.slice (.int .i64))), x5⟩, ⟨(.slice (.int .i64)), x6⟩]) := by kernel_rfl
theorem evermoreref3_After.s5 : stackAt 5 evermoreref3_After.body [] = some (stackOf 5 evermoreref3_After.body) := by kernel_rfl
theorem evermoreref3_After.h5 (k : Nat) (ds : List Dat) (r : Int) (h : evermoreref3_After.c5 k ds = some r) : ∃ k', k' < k ∧ ∃ s, stackAt 5 evermoreref3_After.body [] = some s ∧ evermoreref3_After.R k' (start s) (evermoreref3_After.t5.fill ds) = some r := by
  unfold evermoreref3_After.c5 at h
  obtain ⟨x0, d0, rfl, h0⟩ := pop_some h
  obtain ⟨x1, d1, rfl, h1⟩ := pop_some h0
  obtain ⟨x2, d2, rfl, h2⟩ := pop_some h1
  obtain ⟨x3, d3, rfl, h3⟩ := pop_some h2
  obtain ⟨x4, d4, rfl, h4⟩ := pop_some h3
  obtain ⟨x5, d5, rfl, h5⟩ := pop_some h4
  obtain ⟨x6, d6, rfl, h6⟩ := pop_some h5
  obtain ⟨rfl, g⟩ := popN_some h6
  cases k with
  | zero => cases (show none = some r from g)
  | succ k => exact ⟨k, Nat.lt_succ_self k, _, evermoreref3_After.s5, (evermoreref3_After.e5 k x0 x1 x2 x3 x4 x5 x6).symm.trans g⟩
theorem evermoreref3_After.e (k : Nat) (x0 : (Int × (Int × ((List (List Int)) × ((List Int) × Unit))))) (x1 : Int) (x2 : (List Int)) : evermoreref3_After.f k x0 x1 x2 = evermoreref3_After.R k ([.code evermoreref3_After.body]) (evermoreref3_After.ti.fill [⟨(.pair (.int .i64) (.pair (.int .i64) (.pair (.slice (.slice (.int .i64))) (.pair (.slice (.int .i64)) .unit)))), x0⟩, ⟨(.int .i64), x1⟩, ⟨(.slice (.int .i64)), x2⟩]) := by kernel_rfl
theorem evermoreref3_After.h (k : Nat) (ds : List Dat) (r : Int) (h : evermoreref3_After.g k ds = some r) : ∃ k', k' < k ∧ evermoreref3_After.R k' ([.code evermoreref3_After.body]) (evermoreref3_After.ti.fill ds) = some r := by
  cases k with
  | zero => cases (show none = some r from h)
  | succ k =>
  replace h : evermoreref3_After.c k ds = some r := h
  unfold evermoreref3_After.c at h
  obtain ⟨x0, d0, rfl, h0⟩ := pop_some h
  obtain ⟨x1, d1, rfl, h1⟩ := pop_some h0
  obtain ⟨x2, d2, rfl, h2⟩ := pop_some h1
  obtain ⟨rfl, g⟩ := popN_some h2
  exact ⟨k, Nat.lt_succ_self k, (evermoreref3_After.e k x0 x1 x2).symm.trans g⟩
theorem evermoreref3_After.o (ds : List Dat) (r : Int) (h : evermoreref3_After.out ds = some r) : ds = evermoreref3_After.rs r := by
  unfold evermoreref3_After.out at h
  obtain ⟨x0, d0, rfl, h0⟩ := pop_some h
  obtain ⟨rfl, g⟩ := popN_some h0
  cases g
  rfl
theorem evermoreref3_After.fn : FnOk Try.prog 73 Try.f73 evermoreref3_After.body Try.f73.ntmps 3 (fnRes Try.f73) :=
  fnOk_of (by kernel_rfl) (by kernel_rfl) (by kernel_rfl) (by kernel_rfl)
theorem evermoreref3_After.con' : ∀ k ds r, evermoreref3_After.g k ds = some r → Con Try.prog 73 3 evermoreref3_After.ti evermoreref3_After.to ds (evermoreref3_After.rs r) :=
  fun_ok (T := T) T_ok mixed evermoreref3_After.fn (env := evermoreref3_After.env) (tbl := evermoreref3_After.tbl) (gOut := evermoreref3_After.out) (nin := 0) (cuts := []) (fuel := 100000) rfl (by kernel_rfl) (by kernel_rfl) (by kernel_rfl) (fun x hx => by
    simp only [evermoreref3_After.tbl, List.mem_cons, List.not_mem_nil, or_false] at hx
    subst hx
    · exact evermoreref3_After.h5
) evermoreref3_After.o evermoreref3_After.h (fun k _ => by unfold evermoreref3_After.env; exact env0_ok)
theorem evermoreref3_After.con (k : Nat) {x0 : (Int × (Int × ((List (List Int)) × ((List Int) × Unit))))} {x1 : Int} {x2 : (List Int)} (r : Int) (h : evermoreref3_After.f k x0 x1 x2 = some r) : Con Try.prog 73 3 evermoreref3_After.ti evermoreref3_After.to [⟨(.pair (.int .i64) (.pair (.int .i64) (.pair (.slice (.slice (.int .i64))) (.pair (.slice (.int .i64)) .unit)))), x0⟩, ⟨(.int .i64), x1⟩, ⟨(.slice (.int .i64)), x2⟩] (evermoreref3_After.rs r) :=
  evermoreref3_After.con' (k + 1) _ r (by show evermoreref3_After.c k _ = some r; unfold evermoreref3_After.c; simp only [pop_self, popN]; exact h)
mutual
def evermoreref4_Does.l3 : Nat → List (Int) → Int → Int → Int → List (List (Int)) → List (Int) → List (Int) → Option (List Int)
 | 0, _, _, _, _, _, _, _ => none
 | k + 1, w1, q6, d2_0, d2_1, d2_2, d2_3, out5 =>
  if q6 < (↑d2_2.length : Int) then
   (evermoreref3_After.f k (d2_0, d2_1, d2_2, d2_3, ()) q6 w1).bind fun r3 =>
    if (out5 ++ [r3]).length.blt 1000000000 = true then
    evermoreref4_Does.l3 k w1 (Go.IntKind.i64.wrap (q6 + 1)) d2_0 d2_1 d2_2 d2_3 (out5 ++ [r3])
    else none
  else
   some (out5)
end
def evermoreref4_Does.f (k : Nat) (d0 : (Int × (Int × (List (List (Int)) × (List (Int) × Unit))))) (w1 : List (Int)) : Option (List Int) :=
 evermoreref4_Does.l3 k w1 0 d0.fst d0.snd.fst d0.snd.snd.fst d0.snd.snd.snd.fst []

noncomputable def evermoreref4_Does.body : Code := fnBody Try.f72
def evermoreref4_Does.ti : Tm := ⟨[(0, .p (.pair (.int .i64) (.pair (.int .i64) (.pair (.slice (.slice (.int .i64))) (.pair (.slice (.int .i64)) .unit))))), (1, .p (.slice (.int .i64)))], []⟩
def evermoreref4_Does.to : Tm := ⟨[(0, .own 0)], [.own (.int .i64)]⟩
def evermoreref4_Does.rs (r : (List Int)) : List Dat := [⟨(.slice (.int .i64)), r⟩]
def evermoreref4_Does.out (ds : List Dat) : Option ((List Int)) := pop (.slice (.int .i64)) ds fun x0 ds => popN ds (some (x0))
def evermoreref4_Does.c (k : Nat) (ds : List Dat) : Option ((List Int)) := pop (.pair (.int .i64) (.pair (.int .i64) (.pair (.slice (.slice (.int .i64))) (.pair (.slice (.int .i64)) .unit)))) ds fun x0 ds => pop (.slice (.int .i64)) ds fun x1 ds => popN ds (evermoreref4_Does.f k x0 x1)
def evermoreref4_Does.g : Nat → List Dat → Option ((List Int))
 | 0, _ => none
 | k + 1, ds => evermoreref4_Does.c k ds
def evermoreref4_Does.env (k : Nat) : Nat → List SV → List Chunk → KT ((List Int)) → Option ((List Int)) := (envC 73 3 evermoreref3_After.ti evermoreref3_After.to (fun ds K => pop (.pair (.int .i64) (.pair (.int .i64) (.pair (.slice (.slice (.int .i64))) (.pair (.slice (.int .i64)) .unit)))) ds fun x0 ds => pop (.int .i64) ds fun x1 ds => pop (.slice (.int .i64)) ds fun x2 ds => popN ds ((evermoreref3_After.f k x0 x1 x2).bind fun r => K (evermoreref3_After.rs r))) env0)
def evermoreref4_Does.t7 : Tm := ⟨[(1, .p (.slice (.int .i64))), (2, .ptr 0 0), (5, .own 1), (6, .p (.int .i64))], [.box [.p (.int .i64), .p (.int .i64), .p (.slice (.slice (.int .i64))), .p (.slice (.int .i64))] 58, .own (.int .i64)]⟩
def evermoreref4_Does.c7 (k : Nat) (ds : List Dat) : Option ((List Int)) := pop (.slice (.int .i64)) ds fun x0 ds => pop (.int .i64) ds fun x1 ds => pop (.int .i64) ds fun x2 ds => pop (.int .i64) ds fun x3 ds => pop (.slice (.slice (.int .i64))) ds fun x4 ds => pop (.slice (.int .i64)) ds fun x5 ds => pop (.slice (.int .i64)) ds fun x6 ds => popN ds (evermoreref4_Does.l3 k x0 x1 x2 x3 x4 x5 x6)
def evermoreref4_Does.tbl : List (Nat × Tm × (Nat → List Dat → Option ((List Int)))) := [(7, evermoreref4_Does.t7, evermoreref4_Does.c7)]
noncomputable abbrev evermoreref4_Does.R (k : Nat) := run T (evermoreref4_Does.env k) Try.f72.ntmps (cutE 0 evermoreref4_Does.tbl k) (finE 0 evermoreref4_Does.to evermoreref4_Does.out) (fnRes Try.f72) [] 100000 true
theorem evermoreref4_Does.e7 (k : Nat) (x0 : (List Int)) (x1 : Int) (x2 : Int) (x3 : Int) (x4 : (List (List Int))) (x5 : (List Int)) (x6 : (List Int)) : evermoreref4_Does.l3 (k + 1) x0 x1 x2 x3 x4 x5 x6 = evermoreref4_Does.R k (start (stackOf 7 evermoreref4_Does.body)) (evermoreref4_Does.t7.fill [⟨(.slice (.int .i64)), x0⟩, ⟨(.int .i64), x1⟩, ⟨(.int .i64), x2⟩, ⟨(.int .i64), x3⟩, ⟨(.slice (.slice (.int .i64))), x4⟩, ⟨(.slice (.int .i64)), x5⟩, ⟨(.slice (.int .i64)), x6⟩]) := by kernel_rfl
theorem evermoreref4_Does.s7 : stackAt 7 evermoreref4_Does.body [] = some (stackOf 7 evermoreref4_Does.body) := by kernel_rfl
theorem evermoreref4_Does.h7 (k : Nat) (ds : List Dat) (r : (List Int)) (h : evermoreref4_Does.c7 k ds = some r) : ∃ k', k' < k ∧ ∃ s, stackAt 7 evermoreref4_Does.body [] = some s ∧ evermoreref4_Does.R k' (start s) (evermoreref4_Does.t7.fill ds) = some r := by
  unfold evermoreref4_Does.c7 at h
  obtain ⟨x0, d0, rfl, h0⟩ := pop_some h
  obtain ⟨x1, d1, rfl, h1⟩ := pop_some h0
  obtain ⟨x2, d2, rfl, h2⟩ := pop_some h1
  obtain ⟨x3, d3, rfl, h3⟩ := pop_some h2
  obtain ⟨x4, d4, rfl, h4⟩ := pop_some h3
  obtain ⟨x5, d5, rfl, h5⟩ := pop_some h4
  obtain ⟨x6, d6, rfl, h6⟩ := pop_some h5
  obtain ⟨rfl, g⟩ := popN_some h6
  cases k with
  | zero => cases (show none = some r from g)
  | succ k => exact ⟨k, Nat.lt_succ_self k, _, evermoreref4_Does.s7, (evermoreref4_Does.e7 k x0 x1 x2 x3 x4 x5 x6).symm.trans g⟩
theorem evermoreref4_Does.e (k : Nat) (x0 : (Int × (Int × ((List (List Int)) × ((List Int) × Unit))))) (x1 : (List Int)) : evermoreref4_Does.f k x0 x1 = evermoreref4_Does.R k ([.code evermoreref4_Does.body]) (evermoreref4_Does.ti.fill [⟨(.pair (.int .i64) (.pair (.int .i64) (.pair (.slice (.slice (.int .i64))) (.pair (.slice (.int .i64)) .unit)))), x0⟩, ⟨(.slice (.int .i64)), x1⟩]) := by kernel_rfl
theorem evermoreref4_Does.h (k : Nat) (ds : List Dat) (r : (List Int)) (h : evermoreref4_Does.g k ds = some r) : ∃ k', k' < k ∧ evermoreref4_Does.R k' ([.code evermoreref4_Does.body]) (evermoreref4_Does.ti.fill ds) = some r := by
  cases k with
  | zero => cases (show none = some r from h)
  | succ k =>
  replace h : evermoreref4_Does.c k ds = some r := h
  unfold evermoreref4_Does.c at h
  obtain ⟨x0, d0, rfl, h0⟩ := pop_some h
  obtain ⟨x1, d1, rfl, h1⟩ := pop_some h0
  obtain ⟨rfl, g⟩ := popN_some h1
  exact ⟨k, Nat.lt_succ_self k, (evermoreref4_Does.e k x0 x1).symm.trans g⟩
theorem evermoreref4_Does.o (ds : List Dat) (r : (List Int)) (h : evermoreref4_Does.out ds = some r) : ds = evermoreref4_Does.rs r := by
  unfold evermoreref4_Does.out at h
  obtain ⟨x0, d0, rfl, h0⟩ := pop_some h
  obtain ⟨rfl, g⟩ := popN_some h0
  cases g
  rfl
theorem evermoreref4_Does.fn : FnOk Try.prog 72 Try.f72 evermoreref4_Does.body Try.f72.ntmps 2 (fnRes Try.f72) :=
  fnOk_of (by kernel_rfl) (by kernel_rfl) (by kernel_rfl) (by kernel_rfl)
theorem evermoreref4_Does.con' : ∀ k ds r, evermoreref4_Does.g k ds = some r → Con Try.prog 72 2 evermoreref4_Does.ti evermoreref4_Does.to ds (evermoreref4_Does.rs r) :=
  fun_ok (T := T) T_ok mixed evermoreref4_Does.fn (env := evermoreref4_Does.env) (tbl := evermoreref4_Does.tbl) (gOut := evermoreref4_Does.out) (nin := 0) (cuts := []) (fuel := 100000) rfl (by kernel_rfl) (by kernel_rfl) (by kernel_rfl) (fun x hx => by
    simp only [evermoreref4_Does.tbl, List.mem_cons, List.not_mem_nil, or_false] at hx
    subst hx
    · exact evermoreref4_Does.h7
) evermoreref4_Does.o evermoreref4_Does.h (fun k _ => by unfold evermoreref4_Does.env; exact (envC_ok (fun ds K r h => by
    obtain ⟨x0, d0, rfl, h0⟩ := pop_some h
    obtain ⟨x1, d1, rfl, h1⟩ := pop_some h0
    obtain ⟨x2, d2, rfl, h2⟩ := pop_some h1
    obtain ⟨rfl, g⟩ := popN_some h2
    obtain ⟨r1, h1, h2⟩ := bind_some g
    exact ⟨_, h2, evermoreref3_After.con k _ h1⟩) env0_ok))
theorem evermoreref4_Does.con (k : Nat) {x0 : (Int × (Int × ((List (List Int)) × ((List Int) × Unit))))} {x1 : (List Int)} (r : (List Int)) (h : evermoreref4_Does.f k x0 x1 = some r) : Con Try.prog 72 2 evermoreref4_Does.ti evermoreref4_Does.to [⟨(.pair (.int .i64) (.pair (.int .i64) (.pair (.slice (.slice (.int .i64))) (.pair (.slice (.int .i64)) .unit)))), x0⟩, ⟨(.slice (.int .i64)), x1⟩] (evermoreref4_Does.rs r) :=
  evermoreref4_Does.con' (k + 1) _ r (by show evermoreref4_Does.c k _ = some r; unfold evermoreref4_Does.c; simp only [pop_self, popN]; exact h)
mutual
def evermoreref1_Words.l4 : Nat → List (Int) → List (Int) → Int → Option (Bool)
 | 0, _, _, _ => none
 | k + 1, a0, b1, i5 =>
  if i5 < (↑a0.length : Int) then
   if 0 ≤ i5 then
   if i5 < (↑a0.length : Int) then
    if 0 ≤ i5 then
     if i5 < (↑b1.length : Int) then
      if Go.Proofs.YtiiioobebeaafaaSx.rd (Int.ofNat 0) a0 i5 = Go.Proofs.YtiiioobebeaafaaSx.rd (Int.ofNat 0) b1 i5 then
        evermoreref1_Words.l4 k a0 b1 (Go.IntKind.i64.wrap (i5 + 1))
       else
        some (false)
      else none
     else none
    else none
   else none
  else
   some (true)
end
def evermoreref1_Words.f (k : Nat) (a0 : List (Int)) (b1 : List (Int)) : Option (Bool) :=
 if (↑a0.length : Int) = (↑b1.length : Int) then
  evermoreref1_Words.l4 k a0 b1 0
 else
  some (false)

noncomputable def evermoreref1_Words.body : Code := fnBody Try.f34
def evermoreref1_Words.ti : Tm := ⟨[(0, .p (.slice (.int .i64))), (1, .p (.slice (.int .i64)))], []⟩
def evermoreref1_Words.to : Tm := ⟨[(0, .p .bool)], []⟩
def evermoreref1_Words.rs (r : Bool) : List Dat := [⟨.bool, r⟩]
def evermoreref1_Words.out (ds : List Dat) : Option (Bool) := pop .bool ds fun x0 ds => popN ds (some (x0))
def evermoreref1_Words.c (k : Nat) (ds : List Dat) : Option (Bool) := pop (.slice (.int .i64)) ds fun x0 ds => pop (.slice (.int .i64)) ds fun x1 ds => popN ds (evermoreref1_Words.f k x0 x1)
def evermoreref1_Words.g : Nat → List Dat → Option (Bool)
 | 0, _ => none
 | k + 1, ds => evermoreref1_Words.c k ds
def evermoreref1_Words.env (k : Nat) : Nat → List SV → List Chunk → KT (Bool) → Option (Bool) := env0
def evermoreref1_Words.t9 : Tm := ⟨[(0, .p (.slice (.int .i64))), (1, .p (.slice (.int .i64))), (5, .p (.int .i64))], []⟩
def evermoreref1_Words.c9 (k : Nat) (ds : List Dat) : Option (Bool) := pop (.slice (.int .i64)) ds fun x0 ds => pop (.slice (.int .i64)) ds fun x1 ds => pop (.int .i64) ds fun x2 ds => popN ds (evermoreref1_Words.l4 k x0 x1 x2)
def evermoreref1_Words.tbl : List (Nat × Tm × (Nat → List Dat → Option (Bool))) := [(9, evermoreref1_Words.t9, evermoreref1_Words.c9)]
noncomputable abbrev evermoreref1_Words.R (k : Nat) := run T (evermoreref1_Words.env k) Try.f34.ntmps (cutE 0 evermoreref1_Words.tbl k) (finE 0 evermoreref1_Words.to evermoreref1_Words.out) (fnRes Try.f34) [] 100000 true
theorem evermoreref1_Words.e9 (k : Nat) (x0 : (List Int)) (x1 : (List Int)) (x2 : Int) : evermoreref1_Words.l4 (k + 1) x0 x1 x2 = evermoreref1_Words.R k (start (stackOf 9 evermoreref1_Words.body)) (evermoreref1_Words.t9.fill [⟨(.slice (.int .i64)), x0⟩, ⟨(.slice (.int .i64)), x1⟩, ⟨(.int .i64), x2⟩]) := by kernel_rfl
theorem evermoreref1_Words.s9 : stackAt 9 evermoreref1_Words.body [] = some (stackOf 9 evermoreref1_Words.body) := by kernel_rfl
theorem evermoreref1_Words.h9 (k : Nat) (ds : List Dat) (r : Bool) (h : evermoreref1_Words.c9 k ds = some r) : ∃ k', k' < k ∧ ∃ s, stackAt 9 evermoreref1_Words.body [] = some s ∧ evermoreref1_Words.R k' (start s) (evermoreref1_Words.t9.fill ds) = some r := by
  unfold evermoreref1_Words.c9 at h
  obtain ⟨x0, d0, rfl, h0⟩ := pop_some h
  obtain ⟨x1, d1, rfl, h1⟩ := pop_some h0
  obtain ⟨x2, d2, rfl, h2⟩ := pop_some h1
  obtain ⟨rfl, g⟩ := popN_some h2
  cases k with
  | zero => cases (show none = some r from g)
  | succ k => exact ⟨k, Nat.lt_succ_self k, _, evermoreref1_Words.s9, (evermoreref1_Words.e9 k x0 x1 x2).symm.trans g⟩
theorem evermoreref1_Words.e (k : Nat) (x0 : (List Int)) (x1 : (List Int)) : evermoreref1_Words.f k x0 x1 = evermoreref1_Words.R k ([.code evermoreref1_Words.body]) (evermoreref1_Words.ti.fill [⟨(.slice (.int .i64)), x0⟩, ⟨(.slice (.int .i64)), x1⟩]) := by kernel_rfl
theorem evermoreref1_Words.h (k : Nat) (ds : List Dat) (r : Bool) (h : evermoreref1_Words.g k ds = some r) : ∃ k', k' < k ∧ evermoreref1_Words.R k' ([.code evermoreref1_Words.body]) (evermoreref1_Words.ti.fill ds) = some r := by
  cases k with
  | zero => cases (show none = some r from h)
  | succ k =>
  replace h : evermoreref1_Words.c k ds = some r := h
  unfold evermoreref1_Words.c at h
  obtain ⟨x0, d0, rfl, h0⟩ := pop_some h
  obtain ⟨x1, d1, rfl, h1⟩ := pop_some h0
  obtain ⟨rfl, g⟩ := popN_some h1
  exact ⟨k, Nat.lt_succ_self k, (evermoreref1_Words.e k x0 x1).symm.trans g⟩
theorem evermoreref1_Words.o (ds : List Dat) (r : Bool) (h : evermoreref1_Words.out ds = some r) : ds = evermoreref1_Words.rs r := by
  unfold evermoreref1_Words.out at h
  obtain ⟨x0, d0, rfl, h0⟩ := pop_some h
  obtain ⟨rfl, g⟩ := popN_some h0
  cases g
  rfl
theorem evermoreref1_Words.fn : FnOk Try.prog 34 Try.f34 evermoreref1_Words.body Try.f34.ntmps 2 (fnRes Try.f34) :=
  fnOk_of (by kernel_rfl) (by kernel_rfl) (by kernel_rfl) (by kernel_rfl)
theorem evermoreref1_Words.con' : ∀ k ds r, evermoreref1_Words.g k ds = some r → Con Try.prog 34 2 evermoreref1_Words.ti evermoreref1_Words.to ds (evermoreref1_Words.rs r) :=
  fun_ok (T := T) T_ok mixed evermoreref1_Words.fn (env := evermoreref1_Words.env) (tbl := evermoreref1_Words.tbl) (gOut := evermoreref1_Words.out) (nin := 0) (cuts := []) (fuel := 100000) rfl (by kernel_rfl) (by kernel_rfl) (by kernel_rfl) (fun x hx => by
    simp only [evermoreref1_Words.tbl, List.mem_cons, List.not_mem_nil, or_false] at hx
    subst hx
    · exact evermoreref1_Words.h9
) evermoreref1_Words.o evermoreref1_Words.h (fun k _ => by unfold evermoreref1_Words.env; exact env0_ok)
theorem evermoreref1_Words.con (k : Nat) {x0 : (List Int)} {x1 : (List Int)} (r : Bool) (h : evermoreref1_Words.f k x0 x1 = some r) : Con Try.prog 34 2 evermoreref1_Words.ti evermoreref1_Words.to [⟨(.slice (.int .i64)), x0⟩, ⟨(.slice (.int .i64)), x1⟩] (evermoreref1_Words.rs r) :=
  evermoreref1_Words.con' (k + 1) _ r (by show evermoreref1_Words.c k _ = some r; unfold evermoreref1_Words.c; simp only [pop_self, popN]; exact h)
mutual
def evermoreref4_Elements.l4 : Nat → Int → Int → Int → List (List (Int)) → List (Int) → List ((List (Int) × (List (Int) × Unit))) → Option (List (List Int × List Int × Unit))
 | 0, _, _, _, _, _, _ => none
 | k + 1, i5, d1_0, d1_1, d1_2, d1_3, l4 =>
  if i5 < (↑l4.length : Int) then
   evermoreref4_Elements.l7 k i5 0 d1_0 d1_1 d1_2 d1_3 l4
  else
   some (l4)
def evermoreref4_Elements.l7 : Nat → Int → Int → Int → Int → List (List (Int)) → List (Int) → List ((List (Int) × (List (Int) × Unit))) → Option (List (List Int × List Int × Unit))
 | 0, _, _, _, _, _, _, _ => none
 | k + 1, i5, a6, d1_0, d1_1, d1_2, d1_3, l4 =>
  if a6 < d1_0 then
   if 0 ≤ i5 then
   if i5 < (↑l4.length : Int) then
    if ([] ++ (l4.getD i5.toNat ([], [], ())).snd.fst).length.blt 1000000000 = true then
     if ([] ++ (l4.getD i5.toNat ([], [], ())).snd.fst ++ [a6]).length.blt 1000000000 = true then
      (evermoreref4_Does.f k (d1_0, d1_1, d1_2, d1_3, ()) ([] ++ (l4.getD i5.toNat ([], [], ())).snd.fst ++ [a6])).bind fun r7 =>
        evermoreref4_Elements.l14 k i5 a6 false 0 d1_0 d1_1 d1_2 d1_3 l4 ([] ++ (l4.getD i5.toNat ([], [], ())).snd.fst ++ [a6]) r7
      else none
     else none
    else none
   else none
  else
   evermoreref4_Elements.l4 k (Go.IntKind.i64.wrap (i5 + 1)) d1_0 d1_1 d1_2 d1_3 l4
def evermoreref4_Elements.l14 : Nat → Int → Int → Bool → Int → Int → Int → List (List (Int)) → List (Int) → List ((List (Int) × (List (Int) × Unit))) → List (Int) → List (Int) → Option (List (List Int × List Int × Unit))
 | 0, _, _, _, _, _, _, _, _, _, _, _ => none
 | k + 1, i5, a6, known9, k10, d1_0, d1_1, d1_2, d1_3, l4, w7, does8 =>
  if k10 < (↑l4.length : Int) then
   if known9 = true then
    if known9 = true then
     evermoreref4_Elements.j8 k i5 a6 d1_0 d1_1 d1_2 d1_3 l4
    else
     if (l4 ++ [(does8, w7, ())]).length.blt 1000000000 = true then
     evermoreref4_Elements.j8 k i5 a6 d1_0 d1_1 d1_2 d1_3 (l4 ++ [(does8, w7, ())])
     else none
   else
    if 0 ≤ k10 then
    if k10 < (↑l4.length : Int) then
     (evermoreref1_Words.f k (l4.getD k10.toNat ([], [], ())).fst does8).bind fun r6 =>
       evermoreref4_Elements.l14 k i5 a6 r6 (Go.IntKind.i64.wrap (k10 + 1)) d1_0 d1_1 d1_2 d1_3 l4 w7 does8
     else none
    else none
  else
   if known9 = true then
    evermoreref4_Elements.j8 k i5 a6 d1_0 d1_1 d1_2 d1_3 l4
   else
    if (l4 ++ [(does8, w7, ())]).length.blt 1000000000 = true then
    evermoreref4_Elements.j8 k i5 a6 d1_0 d1_1 d1_2 d1_3 (l4 ++ [(does8, w7, ())])
    else none
def evermoreref4_Elements.j8 : Nat → Int → Int → Int → Int → List (List (Int)) → List (Int) → List ((List (Int) × (List (Int) × Unit))) → Option (List (List Int × List Int × Unit))
 | 0, _, _, _, _, _, _, _ => none
 | k + 1, i5, a6, d1_0, d1_1, d1_2, d1_3, l4 =>
  evermoreref4_Elements.l7 k i5 (Go.IntKind.i64.wrap (a6 + 1)) d1_0 d1_1 d1_2 d1_3 l4
end
def evermoreref4_Elements.f (k : Nat) (d0 : (Int × (Int × (List (List (Int)) × (List (Int) × Unit))))) : Option (List (List Int × List Int × Unit)) :=
 (evermoreref4_Does.f k (d0.fst, d0.snd.fst, d0.snd.snd.fst, d0.snd.snd.snd.fst, ()) []).bind fun r1 =>
  evermoreref4_Elements.l4 k 0 d0.fst d0.snd.fst d0.snd.snd.fst d0.snd.snd.snd.fst ([(r1, [], ())])

noncomputable def evermoreref4_Elements.body : Code := fnBody Try.f133
def evermoreref4_Elements.ti : Tm := ⟨[(0, .p (.pair (.int .i64) (.pair (.int .i64) (.pair (.slice (.slice (.int .i64))) (.pair (.slice (.int .i64)) .unit)))))], []⟩
def evermoreref4_Elements.to : Tm := ⟨[(0, .own 0)], [.own (.pair (.slice (.int .i64)) (.pair (.slice (.int .i64)) .unit))]⟩
def evermoreref4_Elements.rs (r : (List ((List Int) × ((List Int) × Unit)))) : List Dat := [⟨(.slice (.pair (.slice (.int .i64)) (.pair (.slice (.int .i64)) .unit))), r⟩]
def evermoreref4_Elements.out (ds : List Dat) : Option ((List ((List Int) × ((List Int) × Unit)))) := pop (.slice (.pair (.slice (.int .i64)) (.pair (.slice (.int .i64)) .unit))) ds fun x0 ds => popN ds (some (x0))
def evermoreref4_Elements.c (k : Nat) (ds : List Dat) : Option ((List ((List Int) × ((List Int) × Unit)))) := pop (.pair (.int .i64) (.pair (.int .i64) (.pair (.slice (.slice (.int .i64))) (.pair (.slice (.int .i64)) .unit)))) ds fun x0 ds => popN ds (evermoreref4_Elements.f k x0)
def evermoreref4_Elements.g : Nat → List Dat → Option ((List ((List Int) × ((List Int) × Unit))))
 | 0, _ => none
 | k + 1, ds => evermoreref4_Elements.c k ds
def evermoreref4_Elements.env (k : Nat) : Nat → List SV → List Chunk → KT ((List ((List Int) × ((List Int) × Unit)))) → Option ((List ((List Int) × ((List Int) × Unit)))) := (envC 72 2 evermoreref4_Does.ti evermoreref4_Does.to (fun ds K => pop (.pair (.int .i64) (.pair (.int .i64) (.pair (.slice (.slice (.int .i64))) (.pair (.slice (.int .i64)) .unit)))) ds fun x0 ds => pop (.slice (.int .i64)) ds fun x1 ds => popN ds ((evermoreref4_Does.f k x0 x1).bind fun r => K (evermoreref4_Does.rs r))) (envC 34 2 evermoreref1_Words.ti evermoreref1_Words.to (fun ds K => pop (.slice (.int .i64)) ds fun x0 ds => pop (.slice (.int .i64)) ds fun x1 ds => popN ds ((evermoreref1_Words.f k x0 x1).bind fun r => K (evermoreref1_Words.rs r))) env0))
def evermoreref4_Elements.t9 : Tm := ⟨[(1, .ptr 0 0), (4, .own 1), (5, .p (.int .i64))], [.box [.p (.int .i64), .p (.int .i64), .p (.slice (.slice (.int .i64))), .p (.slice (.int .i64))] 58, .own (.pair (.slice (.int .i64)) (.pair (.slice (.int .i64)) .unit))]⟩
def evermoreref4_Elements.c9 (k : Nat) (ds : List Dat) : Option ((List ((List Int) × ((List Int) × Unit)))) := pop (.int .i64) ds fun x0 ds => pop (.int .i64) ds fun x1 ds => pop (.int .i64) ds fun x2 ds => pop (.slice (.slice (.int .i64))) ds fun x3 ds => pop (.slice (.int .i64)) ds fun x4 ds => pop (.slice (.pair (.slice (.int .i64)) (.pair (.slice (.int .i64)) .unit))) ds fun x5 ds => popN ds (evermoreref4_Elements.l4 k x0 x1 x2 x3 x4 x5)
def evermoreref4_Elements.t15 : Tm := ⟨[(1, .ptr 0 0), (4, .own 1), (5, .p (.int .i64)), (6, .p (.int .i64))], [.box [.p (.int .i64), .p (.int .i64), .p (.slice (.slice (.int .i64))), .p (.slice (.int .i64))] 58, .own (.pair (.slice (.int .i64)) (.pair (.slice (.int .i64)) .unit))]⟩
def evermoreref4_Elements.c15 (k : Nat) (ds : List Dat) : Option ((List ((List Int) × ((List Int) × Unit)))) := pop (.int .i64) ds fun x0 ds => pop (.int .i64) ds fun x1 ds => pop (.int .i64) ds fun x2 ds => pop (.int .i64) ds fun x3 ds => pop (.slice (.slice (.int .i64))) ds fun x4 ds => pop (.slice (.int .i64)) ds fun x5 ds => pop (.slice (.pair (.slice (.int .i64)) (.pair (.slice (.int .i64)) .unit))) ds fun x6 ds => popN ds (evermoreref4_Elements.l7 k x0 x1 x2 x3 x4 x5 x6)
def evermoreref4_Elements.t29 : Tm := ⟨[(1, .ptr 0 0), (4, .own 1), (5, .p (.int .i64)), (6, .p (.int .i64)), (7, .own 2), (8, .own 3), (9, .p .bool), (10, .p (.int .i64))], [.box [.p (.int .i64), .p (.int .i64), .p (.slice (.slice (.int .i64))), .p (.slice (.int .i64))] 58, .own (.pair (.slice (.int .i64)) (.pair (.slice (.int .i64)) .unit)), .own (.int .i64), .own (.int .i64)]⟩
def evermoreref4_Elements.c29 (k : Nat) (ds : List Dat) : Option ((List ((List Int) × ((List Int) × Unit)))) := pop (.int .i64) ds fun x0 ds => pop (.int .i64) ds fun x1 ds => pop .bool ds fun x2 ds => pop (.int .i64) ds fun x3 ds => pop (.int .i64) ds fun x4 ds => pop (.int .i64) ds fun x5 ds => pop (.slice (.slice (.int .i64))) ds fun x6 ds => pop (.slice (.int .i64)) ds fun x7 ds => pop (.slice (.pair (.slice (.int .i64)) (.pair (.slice (.int .i64)) .unit))) ds fun x8 ds => pop (.slice (.int .i64)) ds fun x9 ds => pop (.slice (.int .i64)) ds fun x10 ds => popN ds (evermoreref4_Elements.l14 k x0 x1 x2 x3 x4 x5 x6 x7 x8 x9 x10)
def evermoreref4_Elements.t16 : Tm := ⟨[(1, .ptr 0 0), (4, .own 1), (5, .p (.int .i64)), (6, .p (.int .i64))], [.box [.p (.int .i64), .p (.int .i64), .p (.slice (.slice (.int .i64))), .p (.slice (.int .i64))] 58, .own (.pair (.slice (.int .i64)) (.pair (.slice (.int .i64)) .unit))]⟩
def evermoreref4_Elements.c16 (k : Nat) (ds : List Dat) : Option ((List ((List Int) × ((List Int) × Unit)))) := pop (.int .i64) ds fun x0 ds => pop (.int .i64) ds fun x1 ds => pop (.int .i64) ds fun x2 ds => pop (.int .i64) ds fun x3 ds => pop (.slice (.slice (.int .i64))) ds fun x4 ds => pop (.slice (.int .i64)) ds fun x5 ds => pop (.slice (.pair (.slice (.int .i64)) (.pair (.slice (.int .i64)) .unit))) ds fun x6 ds => popN ds (evermoreref4_Elements.j8 k x0 x1 x2 x3 x4 x5 x6)
def evermoreref4_Elements.tbl : List (Nat × Tm × (Nat → List Dat → Option ((List ((List Int) × ((List Int) × Unit)))))) := [(9, evermoreref4_Elements.t9, evermoreref4_Elements.c9), (15, evermoreref4_Elements.t15, evermoreref4_Elements.c15), (29, evermoreref4_Elements.t29, evermoreref4_Elements.c29), (16, evermoreref4_Elements.t16, evermoreref4_Elements.c16)]
noncomputable abbrev evermoreref4_Elements.R (k : Nat) := run T (evermoreref4_Elements.env k) Try.f133.ntmps (cutE 0 evermoreref4_Elements.tbl k) (finE 0 evermoreref4_Elements.to evermoreref4_Elements.out) (fnRes Try.f133) [8] 100000 true
theorem evermoreref4_Elements.e9 (k : Nat) (x0 : Int) (x1 : Int) (x2 : Int) (x3 : (List (List Int))) (x4 : (List Int)) (x5 : (List ((List Int) × ((List Int) × Unit)))) : evermoreref4_Elements.l4 (k + 1) x0 x1 x2 x3 x4 x5 = evermoreref4_Elements.R k (start (stackOf 9 evermoreref4_Elements.body)) (evermoreref4_Elements.t9.fill [⟨(.int .i64), x0⟩, ⟨(.int .i64), x1⟩, ⟨(.int .i64), x2⟩, ⟨(.slice (.slice (.int .i64))), x3⟩, ⟨(.slice (.int .i64)), x4⟩, ⟨(.slice (.pair (.slice (.int .i64)) (.pair (.slice (.int .i64)) .unit))), x5⟩]) := by kernel_rfl
theorem evermoreref4_Elements.s9 : stackAt 9 evermoreref4_Elements.body [] = some (stackOf 9 evermoreref4_Elements.body) := by kernel_rfl
theorem evermoreref4_Elements.h9 (k : Nat) (ds : List Dat) (r : (List ((List Int) × ((List Int) × Unit)))) (h : evermoreref4_Elements.c9 k ds = some r) : ∃ k', k' < k ∧ ∃ s, stackAt 9 evermoreref4_Elements.body [] = some s ∧ evermoreref4_Elements.R k' (start s) (evermoreref4_Elements.t9.fill ds) = some r := by
  unfold evermoreref4_Elements.c9 at h
  obtain ⟨x0, d0, rfl, h0⟩ := pop_some h
  obtain ⟨x1, d1, rfl, h1⟩ := pop_some h0
  obtain ⟨x2, d2, rfl, h2⟩ := pop_some h1
  obtain ⟨x3, d3, rfl, h3⟩ := pop_some h2
  obtain ⟨x4, d4, rfl, h4⟩ := pop_some h3
  obtain ⟨x5, d5, rfl, h5⟩ := pop_some h4
  obtain ⟨rfl, g⟩ := popN_some h5
  cases k with
  | zero => cases (show none = some r from g)
  | succ k => exact ⟨k, Nat.lt_succ_self k, _, evermoreref4_Elements.s9, (evermoreref4_Elements.e9 k x0 x1 x2 x3 x4 x5).symm.trans g⟩
theorem evermoreref4_Elements.e15 (k : Nat) (x0 : Int) (x1 : Int) (x2 : Int) (x3 : Int) (x4 : (List (List Int))) (x5 : (List Int)) (x6 : (List ((List Int) × ((List Int) × Unit)))) : evermoreref4_Elements.l7 (k + 1) x0 x1 x2 x3 x4 x5 x6 = evermoreref4_Elements.R k (start (stackOf 15 evermoreref4_Elements.body)) (evermoreref4_Elements.t15.fill [⟨(.int .i64), x0⟩, ⟨(.int .i64), x1⟩, ⟨(.int .i64), x2⟩, ⟨(.int .i64), x3⟩, ⟨(.slice (.slice (.int .i64))), x4⟩, ⟨(.slice (.int .i64)), x5⟩, ⟨(.slice (.pair (.slice (.int .i64)) (.pair (.slice (.int .i64)) .unit))), x6⟩]) := by kernel_rfl
theorem evermoreref4_Elements.s15 : stackAt 15 evermoreref4_Elements.body [] = some (stackOf 15 evermoreref4_Elements.body) := by kernel_rfl
theorem evermoreref4_Elements.h15 (k : Nat) (ds : List Dat) (r : (List ((List Int) × ((List Int) × Unit)))) (h : evermoreref4_Elements.c15 k ds = some r) : ∃ k', k' < k ∧ ∃ s, stackAt 15 evermoreref4_Elements.body [] = some s ∧ evermoreref4_Elements.R k' (start s) (evermoreref4_Elements.t15.fill ds) = some r := by
  unfold evermoreref4_Elements.c15 at h
  obtain ⟨x0, d0, rfl, h0⟩ := pop_some h
  obtain ⟨x1, d1, rfl, h1⟩ := pop_some h0
  obtain ⟨x2, d2, rfl, h2⟩ := pop_some h1
  obtain ⟨x3, d3, rfl, h3⟩ := pop_some h2
  obtain ⟨x4, d4, rfl, h4⟩ := pop_some h3
  obtain ⟨x5, d5, rfl, h5⟩ := pop_some h4
  obtain ⟨x6, d6, rfl, h6⟩ := pop_some h5
  obtain ⟨rfl, g⟩ := popN_some h6
  cases k with
  | zero => cases (show none = some r from g)
  | succ k => exact ⟨k, Nat.lt_succ_self k, _, evermoreref4_Elements.s15, (evermoreref4_Elements.e15 k x0 x1 x2 x3 x4 x5 x6).symm.trans g⟩
theorem evermoreref4_Elements.e29 (k : Nat) (x0 : Int) (x1 : Int) (x2 : Bool) (x3 : Int) (x4 : Int) (x5 : Int) (x6 : (List (List Int))) (x7 : (List Int)) (x8 : (List ((List Int) × ((List Int) × Unit)))) (x9 : (List Int)) (x10 : (List Int)) : evermoreref4_Elements.l14 (k + 1) x0 x1 x2 x3 x4 x5 x6 x7 x8 x9 x10 = evermoreref4_Elements.R k (start (stackOf 29 evermoreref4_Elements.body)) (evermoreref4_Elements.t29.fill [⟨(.int .i64), x0⟩, ⟨(.int .i64), x1⟩, ⟨.bool, x2⟩, ⟨(.int .i64), x3⟩, ⟨(.int .i64), x4⟩, ⟨(.int .i64), x5⟩, ⟨(.slice (.slice (.int .i64))), x6⟩, ⟨(.slice (.int .i64)), x7⟩, ⟨(.slice (.pair (.slice (.int .i64)) (.pair (.slice (.int .i64)) .unit))), x8⟩, ⟨(.slice (.int .i64)), x9⟩, ⟨(.slice (.int .i64)), x10⟩]) := by kernel_rfl
theorem evermoreref4_Elements.s29 : stackAt 29 evermoreref4_Elements.body [] = some (stackOf 29 evermoreref4_Elements.body) := by kernel_rfl
theorem evermoreref4_Elements.h29 (k : Nat) (ds : List Dat) (r : (List ((List Int) × ((List Int) × Unit)))) (h : evermoreref4_Elements.c29 k ds = some r) : ∃ k', k' < k ∧ ∃ s, stackAt 29 evermoreref4_Elements.body [] = some s ∧ evermoreref4_Elements.R k' (start s) (evermoreref4_Elements.t29.fill ds) = some r := by
  unfold evermoreref4_Elements.c29 at h
  obtain ⟨x0, d0, rfl, h0⟩ := pop_some h
  obtain ⟨x1, d1, rfl, h1⟩ := pop_some h0
  obtain ⟨x2, d2, rfl, h2⟩ := pop_some h1
  obtain ⟨x3, d3, rfl, h3⟩ := pop_some h2
  obtain ⟨x4, d4, rfl, h4⟩ := pop_some h3
  obtain ⟨x5, d5, rfl, h5⟩ := pop_some h4
  obtain ⟨x6, d6, rfl, h6⟩ := pop_some h5
  obtain ⟨x7, d7, rfl, h7⟩ := pop_some h6
  obtain ⟨x8, d8, rfl, h8⟩ := pop_some h7
  obtain ⟨x9, d9, rfl, h9⟩ := pop_some h8
  obtain ⟨x10, d10, rfl, h10⟩ := pop_some h9
  obtain ⟨rfl, g⟩ := popN_some h10
  cases k with
  | zero => cases (show none = some r from g)
  | succ k => exact ⟨k, Nat.lt_succ_self k, _, evermoreref4_Elements.s29, (evermoreref4_Elements.e29 k x0 x1 x2 x3 x4 x5 x6 x7 x8 x9 x10).symm.trans g⟩
theorem evermoreref4_Elements.e16 (k : Nat) (x0 : Int) (x1 : Int) (x2 : Int) (x3 : Int) (x4 : (List (List Int))) (x5 : (List Int)) (x6 : (List ((List Int) × ((List Int) × Unit)))) : evermoreref4_Elements.j8 (k + 1) x0 x1 x2 x3 x4 x5 x6 = evermoreref4_Elements.R k (start (stackOf 16 evermoreref4_Elements.body)) (evermoreref4_Elements.t16.fill [⟨(.int .i64), x0⟩, ⟨(.int .i64), x1⟩, ⟨(.int .i64), x2⟩, ⟨(.int .i64), x3⟩, ⟨(.slice (.slice (.int .i64))), x4⟩, ⟨(.slice (.int .i64)), x5⟩, ⟨(.slice (.pair (.slice (.int .i64)) (.pair (.slice (.int .i64)) .unit))), x6⟩]) := by kernel_rfl
theorem evermoreref4_Elements.s16 : stackAt 16 evermoreref4_Elements.body [] = some (stackOf 16 evermoreref4_Elements.body) := by kernel_rfl
theorem evermoreref4_Elements.h16 (k : Nat) (ds : List Dat) (r : (List ((List Int) × ((List Int) × Unit)))) (h : evermoreref4_Elements.c16 k ds = some r) : ∃ k', k' < k ∧ ∃ s, stackAt 16 evermoreref4_Elements.body [] = some s ∧ evermoreref4_Elements.R k' (start s) (evermoreref4_Elements.t16.fill ds) = some r := by
  unfold evermoreref4_Elements.c16 at h
  obtain ⟨x0, d0, rfl, h0⟩ := pop_some h
  obtain ⟨x1, d1, rfl, h1⟩ := pop_some h0
  obtain ⟨x2, d2, rfl, h2⟩ := pop_some h1
  obtain ⟨x3, d3, rfl, h3⟩ := pop_some h2
  obtain ⟨x4, d4, rfl, h4⟩ := pop_some h3
  obtain ⟨x5, d5, rfl, h5⟩ := pop_some h4
  obtain ⟨x6, d6, rfl, h6⟩ := pop_some h5
  obtain ⟨rfl, g⟩ := popN_some h6
  cases k with
  | zero => cases (show none = some r from g)
  | succ k => exact ⟨k, Nat.lt_succ_self k, _, evermoreref4_Elements.s16, (evermoreref4_Elements.e16 k x0 x1 x2 x3 x4 x5 x6).symm.trans g⟩
theorem evermoreref4_Elements.e (k : Nat) (x0 : (Int × (Int × ((List (List Int)) × ((List Int) × Unit))))) : evermoreref4_Elements.f k x0 = evermoreref4_Elements.R k ([.code evermoreref4_Elements.body]) (evermoreref4_Elements.ti.fill [⟨(.pair (.int .i64) (.pair (.int .i64) (.pair (.slice (.slice (.int .i64))) (.pair (.slice (.int .i64)) .unit)))), x0⟩]) := by kernel_rfl
theorem evermoreref4_Elements.h (k : Nat) (ds : List Dat) (r : (List ((List Int) × ((List Int) × Unit)))) (h : evermoreref4_Elements.g k ds = some r) : ∃ k', k' < k ∧ evermoreref4_Elements.R k' ([.code evermoreref4_Elements.body]) (evermoreref4_Elements.ti.fill ds) = some r := by
  cases k with
  | zero => cases (show none = some r from h)
  | succ k =>
  replace h : evermoreref4_Elements.c k ds = some r := h
  unfold evermoreref4_Elements.c at h
  obtain ⟨x0, d0, rfl, h0⟩ := pop_some h
  obtain ⟨rfl, g⟩ := popN_some h0
  exact ⟨k, Nat.lt_succ_self k, (evermoreref4_Elements.e k x0).symm.trans g⟩
theorem evermoreref4_Elements.o (ds : List Dat) (r : (List ((List Int) × ((List Int) × Unit)))) (h : evermoreref4_Elements.out ds = some r) : ds = evermoreref4_Elements.rs r := by
  unfold evermoreref4_Elements.out at h
  obtain ⟨x0, d0, rfl, h0⟩ := pop_some h
  obtain ⟨rfl, g⟩ := popN_some h0
  cases g
  rfl
theorem evermoreref4_Elements.fn : FnOk Try.prog 133 Try.f133 evermoreref4_Elements.body Try.f133.ntmps 1 (fnRes Try.f133) :=
  fnOk_of (by kernel_rfl) (by kernel_rfl) (by kernel_rfl) (by kernel_rfl)
theorem evermoreref4_Elements.con' : ∀ k ds r, evermoreref4_Elements.g k ds = some r → Con Try.prog 133 1 evermoreref4_Elements.ti evermoreref4_Elements.to ds (evermoreref4_Elements.rs r) :=
  fun_ok (T := T) T_ok mixed evermoreref4_Elements.fn (env := evermoreref4_Elements.env) (tbl := evermoreref4_Elements.tbl) (gOut := evermoreref4_Elements.out) (nin := 0) (cuts := [8]) (fuel := 100000) rfl (by kernel_rfl) (by kernel_rfl) (by kernel_rfl) (fun x hx => by
    simp only [evermoreref4_Elements.tbl, List.mem_cons, List.not_mem_nil, or_false] at hx
    rcases hx with rfl | rfl | rfl | rfl
    · exact evermoreref4_Elements.h9
    · exact evermoreref4_Elements.h15
    · exact evermoreref4_Elements.h29
    · exact evermoreref4_Elements.h16
) evermoreref4_Elements.o evermoreref4_Elements.h (fun k _ => by unfold evermoreref4_Elements.env; exact (envC_ok (fun ds K r h => by
    obtain ⟨x0, d0, rfl, h0⟩ := pop_some h
    obtain ⟨x1, d1, rfl, h1⟩ := pop_some h0
    obtain ⟨rfl, g⟩ := popN_some h1
    obtain ⟨r1, h1, h2⟩ := bind_some g
    exact ⟨_, h2, evermoreref4_Does.con k _ h1⟩) (envC_ok (fun ds K r h => by
    obtain ⟨x0, d0, rfl, h0⟩ := pop_some h
    obtain ⟨x1, d1, rfl, h1⟩ := pop_some h0
    obtain ⟨rfl, g⟩ := popN_some h1
    obtain ⟨r1, h1, h2⟩ := bind_some g
    exact ⟨_, h2, evermoreref1_Words.con k _ h1⟩) env0_ok)))
theorem evermoreref4_Elements.con (k : Nat) {x0 : (Int × (Int × ((List (List Int)) × ((List Int) × Unit))))} (r : (List ((List Int) × ((List Int) × Unit)))) (h : evermoreref4_Elements.f k x0 = some r) : Con Try.prog 133 1 evermoreref4_Elements.ti evermoreref4_Elements.to [⟨(.pair (.int .i64) (.pair (.int .i64) (.pair (.slice (.slice (.int .i64))) (.pair (.slice (.int .i64)) .unit)))), x0⟩] (evermoreref4_Elements.rs r) :=
  evermoreref4_Elements.con' (k + 1) _ r (by show evermoreref4_Elements.c k _ = some r; unfold evermoreref4_Elements.c; simp only [pop_self, popN]; exact h)
mutual
def evermoreref4_Turns.l3 : Nat → List (Int) → Int → Int → Int → Option (Int)
 | 0, _, _, _, _ => none
 | k + 1, does0, q1, p5, n6 =>
  if n6 ≤ (↑does0.length : Int) then
   if p5 = q1 then
    if p5 = q1 then
     some (n6)
    else
     some (0)
   else
    if 0 ≤ p5 then
    if p5 < (↑does0.length : Int) then
     evermoreref4_Turns.l3 k does0 q1 (Go.Proofs.YtiiioobebeaafaaSx.rd (Int.ofNat 0) does0 p5) (Go.IntKind.i64.wrap (n6 + 1))
     else none
    else none
  else
   if p5 = q1 then
    some (n6)
   else
    some (0)
end
def evermoreref4_Turns.f (k : Nat) (does0 : List (Int)) (q1 : Int) : Option (Int) :=
 if 0 ≤ q1 then
 if q1 < (↑does0.length : Int) then
  evermoreref4_Turns.l3 k does0 q1 (Go.Proofs.YtiiioobebeaafaaSx.rd (Int.ofNat 0) does0 q1) 1
  else none
 else none

noncomputable def evermoreref4_Turns.body : Code := fnBody Try.f134
def evermoreref4_Turns.ti : Tm := ⟨[(0, .p (.slice (.int .i64))), (1, .p (.int .i64))], []⟩
def evermoreref4_Turns.to : Tm := ⟨[(0, .p (.int .i64))], []⟩
def evermoreref4_Turns.rs (r : Int) : List Dat := [⟨(.int .i64), r⟩]
def evermoreref4_Turns.out (ds : List Dat) : Option (Int) := pop (.int .i64) ds fun x0 ds => popN ds (some (x0))
def evermoreref4_Turns.c (k : Nat) (ds : List Dat) : Option (Int) := pop (.slice (.int .i64)) ds fun x0 ds => pop (.int .i64) ds fun x1 ds => popN ds (evermoreref4_Turns.f k x0 x1)
def evermoreref4_Turns.g : Nat → List Dat → Option (Int)
 | 0, _ => none
 | k + 1, ds => evermoreref4_Turns.c k ds
def evermoreref4_Turns.env (k : Nat) : Nat → List SV → List Chunk → KT (Int) → Option (Int) := env0
def evermoreref4_Turns.t7 : Tm := ⟨[(0, .p (.slice (.int .i64))), (1, .p (.int .i64)), (5, .p (.int .i64)), (6, .p (.int .i64))], []⟩
def evermoreref4_Turns.c7 (k : Nat) (ds : List Dat) : Option (Int) := pop (.slice (.int .i64)) ds fun x0 ds => pop (.int .i64) ds fun x1 ds => pop (.int .i64) ds fun x2 ds => pop (.int .i64) ds fun x3 ds => popN ds (evermoreref4_Turns.l3 k x0 x1 x2 x3)
def evermoreref4_Turns.tbl : List (Nat × Tm × (Nat → List Dat → Option (Int))) := [(7, evermoreref4_Turns.t7, evermoreref4_Turns.c7)]
noncomputable abbrev evermoreref4_Turns.R (k : Nat) := run T (evermoreref4_Turns.env k) Try.f134.ntmps (cutE 0 evermoreref4_Turns.tbl k) (finE 0 evermoreref4_Turns.to evermoreref4_Turns.out) (fnRes Try.f134) [] 100000 true
theorem evermoreref4_Turns.e7 (k : Nat) (x0 : (List Int)) (x1 : Int) (x2 : Int) (x3 : Int) : evermoreref4_Turns.l3 (k + 1) x0 x1 x2 x3 = evermoreref4_Turns.R k (start (stackOf 7 evermoreref4_Turns.body)) (evermoreref4_Turns.t7.fill [⟨(.slice (.int .i64)), x0⟩, ⟨(.int .i64), x1⟩, ⟨(.int .i64), x2⟩, ⟨(.int .i64), x3⟩]) := by kernel_rfl
theorem evermoreref4_Turns.s7 : stackAt 7 evermoreref4_Turns.body [] = some (stackOf 7 evermoreref4_Turns.body) := by kernel_rfl
theorem evermoreref4_Turns.h7 (k : Nat) (ds : List Dat) (r : Int) (h : evermoreref4_Turns.c7 k ds = some r) : ∃ k', k' < k ∧ ∃ s, stackAt 7 evermoreref4_Turns.body [] = some s ∧ evermoreref4_Turns.R k' (start s) (evermoreref4_Turns.t7.fill ds) = some r := by
  unfold evermoreref4_Turns.c7 at h
  obtain ⟨x0, d0, rfl, h0⟩ := pop_some h
  obtain ⟨x1, d1, rfl, h1⟩ := pop_some h0
  obtain ⟨x2, d2, rfl, h2⟩ := pop_some h1
  obtain ⟨x3, d3, rfl, h3⟩ := pop_some h2
  obtain ⟨rfl, g⟩ := popN_some h3
  cases k with
  | zero => cases (show none = some r from g)
  | succ k => exact ⟨k, Nat.lt_succ_self k, _, evermoreref4_Turns.s7, (evermoreref4_Turns.e7 k x0 x1 x2 x3).symm.trans g⟩
theorem evermoreref4_Turns.e (k : Nat) (x0 : (List Int)) (x1 : Int) : evermoreref4_Turns.f k x0 x1 = evermoreref4_Turns.R k ([.code evermoreref4_Turns.body]) (evermoreref4_Turns.ti.fill [⟨(.slice (.int .i64)), x0⟩, ⟨(.int .i64), x1⟩]) := by kernel_rfl
theorem evermoreref4_Turns.h (k : Nat) (ds : List Dat) (r : Int) (h : evermoreref4_Turns.g k ds = some r) : ∃ k', k' < k ∧ evermoreref4_Turns.R k' ([.code evermoreref4_Turns.body]) (evermoreref4_Turns.ti.fill ds) = some r := by
  cases k with
  | zero => cases (show none = some r from h)
  | succ k =>
  replace h : evermoreref4_Turns.c k ds = some r := h
  unfold evermoreref4_Turns.c at h
  obtain ⟨x0, d0, rfl, h0⟩ := pop_some h
  obtain ⟨x1, d1, rfl, h1⟩ := pop_some h0
  obtain ⟨rfl, g⟩ := popN_some h1
  exact ⟨k, Nat.lt_succ_self k, (evermoreref4_Turns.e k x0 x1).symm.trans g⟩
theorem evermoreref4_Turns.o (ds : List Dat) (r : Int) (h : evermoreref4_Turns.out ds = some r) : ds = evermoreref4_Turns.rs r := by
  unfold evermoreref4_Turns.out at h
  obtain ⟨x0, d0, rfl, h0⟩ := pop_some h
  obtain ⟨rfl, g⟩ := popN_some h0
  cases g
  rfl
theorem evermoreref4_Turns.fn : FnOk Try.prog 134 Try.f134 evermoreref4_Turns.body Try.f134.ntmps 2 (fnRes Try.f134) :=
  fnOk_of (by kernel_rfl) (by kernel_rfl) (by kernel_rfl) (by kernel_rfl)
theorem evermoreref4_Turns.con' : ∀ k ds r, evermoreref4_Turns.g k ds = some r → Con Try.prog 134 2 evermoreref4_Turns.ti evermoreref4_Turns.to ds (evermoreref4_Turns.rs r) :=
  fun_ok (T := T) T_ok mixed evermoreref4_Turns.fn (env := evermoreref4_Turns.env) (tbl := evermoreref4_Turns.tbl) (gOut := evermoreref4_Turns.out) (nin := 0) (cuts := []) (fuel := 100000) rfl (by kernel_rfl) (by kernel_rfl) (by kernel_rfl) (fun x hx => by
    simp only [evermoreref4_Turns.tbl, List.mem_cons, List.not_mem_nil, or_false] at hx
    subst hx
    · exact evermoreref4_Turns.h7
) evermoreref4_Turns.o evermoreref4_Turns.h (fun k _ => by unfold evermoreref4_Turns.env; exact env0_ok)
theorem evermoreref4_Turns.con (k : Nat) {x0 : (List Int)} {x1 : Int} (r : Int) (h : evermoreref4_Turns.f k x0 x1 = some r) : Con Try.prog 134 2 evermoreref4_Turns.ti evermoreref4_Turns.to [⟨(.slice (.int .i64)), x0⟩, ⟨(.int .i64), x1⟩] (evermoreref4_Turns.rs r) :=
  evermoreref4_Turns.con' (k + 1) _ r (by show evermoreref4_Turns.c k _ = some r; unfold evermoreref4_Turns.c; simp only [pop_self, popN]; exact h)
mutual
def evermoreref4_Counts.l3 : Nat → Int → Int → Int → List (List (Int)) → List (Int) → List ((List (Int) × (List (Int) × Unit))) → Option (List Int × Int)
 | 0, _, _, _, _, _, _ => none
 | k + 1, i5, d1_0, d1_1, d1_2, d1_3, l4 =>
  if i5 < (↑l4.length : Int) then
   evermoreref4_Counts.l7 k i5 0 0 d1_0 d1_1 d1_2 d1_3 l4
  else
   some ([], 0)
def evermoreref4_Counts.l7 : Nat → Int → Int → Int → Int → Int → List (List (Int)) → List (Int) → List ((List (Int) × (List (Int) × Unit))) → Option (List Int × Int)
 | 0, _, _, _, _, _, _, _, _ => none
 | k + 1, i5, best6, q7, d1_0, d1_1, d1_2, d1_3, l4 =>
  if q7 < (↑d1_2.length : Int) then
   if 0 ≤ i5 then
   if i5 < (↑l4.length : Int) then
    (evermoreref4_Turns.f k (l4.getD i5.toNat ([], [], ())).fst q7).bind fun r5 =>
      if 1 < r5 then
       if best6 = 0 then
        evermoreref4_Counts.j8 k i5 r5 q7 d1_0 d1_1 d1_2 d1_3 l4
       else
        if r5 < best6 then
         evermoreref4_Counts.j8 k i5 r5 q7 d1_0 d1_1 d1_2 d1_3 l4
        else
         evermoreref4_Counts.j8 k i5 best6 q7 d1_0 d1_1 d1_2 d1_3 l4
      else
       evermoreref4_Counts.j8 k i5 best6 q7 d1_0 d1_1 d1_2 d1_3 l4
    else none
   else none
  else
   if 0 < best6 then
    if 0 ≤ i5 then
    if i5 < (↑l4.length : Int) then
     some ((l4.getD i5.toNat ([], [], ())).snd.fst, best6)
     else none
    else none
   else
    evermoreref4_Counts.l3 k (Go.IntKind.i64.wrap (i5 + 1)) d1_0 d1_1 d1_2 d1_3 l4
def evermoreref4_Counts.j8 : Nat → Int → Int → Int → Int → Int → List (List (Int)) → List (Int) → List ((List (Int) × (List (Int) × Unit))) → Option (List Int × Int)
 | 0, _, _, _, _, _, _, _, _ => none
 | k + 1, i5, best6, q7, d1_0, d1_1, d1_2, d1_3, l4 =>
  evermoreref4_Counts.l7 k i5 best6 (Go.IntKind.i64.wrap (q7 + 1)) d1_0 d1_1 d1_2 d1_3 l4
end
def evermoreref4_Counts.f (k : Nat) (d0 : (Int × (Int × (List (List (Int)) × (List (Int) × Unit))))) : Option (List Int × Int) :=
 (evermoreref4_Elements.f k (d0.fst, d0.snd.fst, d0.snd.snd.fst, d0.snd.snd.snd.fst, ())).bind fun r1 =>
  evermoreref4_Counts.l3 k 0 d0.fst d0.snd.fst d0.snd.snd.fst d0.snd.snd.snd.fst r1

noncomputable def evermoreref4_Counts.body : Code := fnBody Try.f64
def evermoreref4_Counts.ti : Tm := ⟨[(0, .p (.pair (.int .i64) (.pair (.int .i64) (.pair (.slice (.slice (.int .i64))) (.pair (.slice (.int .i64)) .unit)))))], []⟩
def evermoreref4_Counts.to : Tm := ⟨[(0, .p (.slice (.int .i64))), (1, .p (.int .i64))], [.gone]⟩
def evermoreref4_Counts.rs (r : (List Int) × Int) : List Dat := [⟨(.slice (.int .i64)), r.1⟩, ⟨(.int .i64), r.2⟩]
def evermoreref4_Counts.out (ds : List Dat) : Option ((List Int) × Int) := pop (.slice (.int .i64)) ds fun x0 ds => pop (.int .i64) ds fun x1 ds => popN ds (some (x0, x1))
def evermoreref4_Counts.c (k : Nat) (ds : List Dat) : Option ((List Int) × Int) := pop (.pair (.int .i64) (.pair (.int .i64) (.pair (.slice (.slice (.int .i64))) (.pair (.slice (.int .i64)) .unit)))) ds fun x0 ds => popN ds (evermoreref4_Counts.f k x0)
def evermoreref4_Counts.g : Nat → List Dat → Option ((List Int) × Int)
 | 0, _ => none
 | k + 1, ds => evermoreref4_Counts.c k ds
def evermoreref4_Counts.env (k : Nat) : Nat → List SV → List Chunk → KT ((List Int) × Int) → Option ((List Int) × Int) := (envC 134 2 evermoreref4_Turns.ti evermoreref4_Turns.to (fun ds K => pop (.slice (.int .i64)) ds fun x0 ds => pop (.int .i64) ds fun x1 ds => popN ds ((evermoreref4_Turns.f k x0 x1).bind fun r => K (evermoreref4_Turns.rs r))) (envC 133 1 evermoreref4_Elements.ti evermoreref4_Elements.to (fun ds K => pop (.pair (.int .i64) (.pair (.int .i64) (.pair (.slice (.slice (.int .i64))) (.pair (.slice (.int .i64)) .unit)))) ds fun x0 ds => popN ds ((evermoreref4_Elements.f k x0).bind fun r => K (evermoreref4_Elements.rs r))) env0))
def evermoreref4_Counts.t7 : Tm := ⟨[(1, .ptr 0 0), (4, .own 1), (5, .p (.int .i64))], [.box [.p (.int .i64), .p (.int .i64), .p (.slice (.slice (.int .i64))), .p (.slice (.int .i64))] 58, .own (.pair (.slice (.int .i64)) (.pair (.slice (.int .i64)) .unit))]⟩
def evermoreref4_Counts.c7 (k : Nat) (ds : List Dat) : Option ((List Int) × Int) := pop (.int .i64) ds fun x0 ds => pop (.int .i64) ds fun x1 ds => pop (.int .i64) ds fun x2 ds => pop (.slice (.slice (.int .i64))) ds fun x3 ds => pop (.slice (.int .i64)) ds fun x4 ds => pop (.slice (.pair (.slice (.int .i64)) (.pair (.slice (.int .i64)) .unit))) ds fun x5 ds => popN ds (evermoreref4_Counts.l3 k x0 x1 x2 x3 x4 x5)
def evermoreref4_Counts.t15 : Tm := ⟨[(1, .ptr 0 0), (4, .own 1), (5, .p (.int .i64)), (6, .p (.int .i64)), (7, .p (.int .i64))], [.box [.p (.int .i64), .p (.int .i64), .p (.slice (.slice (.int .i64))), .p (.slice (.int .i64))] 58, .own (.pair (.slice (.int .i64)) (.pair (.slice (.int .i64)) .unit))]⟩
def evermoreref4_Counts.c15 (k : Nat) (ds : List Dat) : Option ((List Int) × Int) := pop (.int .i64) ds fun x0 ds => pop (.int .i64) ds fun x1 ds => pop (.int .i64) ds fun x2 ds => pop (.int .i64) ds fun x3 ds => pop (.int .i64) ds fun x4 ds => pop (.slice (.slice (.int .i64))) ds fun x5 ds => pop (.slice (.int .i64)) ds fun x6 ds => pop (.slice (.pair (.slice (.int .i64)) (.pair (.slice (.int .i64)) .unit))) ds fun x7 ds => popN ds (evermoreref4_Counts.l7 k x0 x1 x2 x3 x4 x5 x6 x7)
def evermoreref4_Counts.t16 : Tm := ⟨[(1, .ptr 0 0), (4, .own 1), (5, .p (.int .i64)), (6, .p (.int .i64)), (7, .p (.int .i64))], [.box [.p (.int .i64), .p (.int .i64), .p (.slice (.slice (.int .i64))), .p (.slice (.int .i64))] 58, .own (.pair (.slice (.int .i64)) (.pair (.slice (.int .i64)) .unit))]⟩
def evermoreref4_Counts.c16 (k : Nat) (ds : List Dat) : Option ((List Int) × Int) := pop (.int .i64) ds fun x0 ds => pop (.int .i64) ds fun x1 ds => pop (.int .i64) ds fun x2 ds => pop (.int .i64) ds fun x3 ds => pop (.int .i64) ds fun x4 ds => pop (.slice (.slice (.int .i64))) ds fun x5 ds => pop (.slice (.int .i64)) ds fun x6 ds => pop (.slice (.pair (.slice (.int .i64)) (.pair (.slice (.int .i64)) .unit))) ds fun x7 ds => popN ds (evermoreref4_Counts.j8 k x0 x1 x2 x3 x4 x5 x6 x7)
def evermoreref4_Counts.tbl : List (Nat × Tm × (Nat → List Dat → Option ((List Int) × Int))) := [(7, evermoreref4_Counts.t7, evermoreref4_Counts.c7), (15, evermoreref4_Counts.t15, evermoreref4_Counts.c15), (16, evermoreref4_Counts.t16, evermoreref4_Counts.c16)]
noncomputable abbrev evermoreref4_Counts.R (k : Nat) := run T (evermoreref4_Counts.env k) Try.f64.ntmps (cutE 0 evermoreref4_Counts.tbl k) (finE 0 evermoreref4_Counts.to evermoreref4_Counts.out) (fnRes Try.f64) [8] 100000 true
theorem evermoreref4_Counts.e7 (k : Nat) (x0 : Int) (x1 : Int) (x2 : Int) (x3 : (List (List Int))) (x4 : (List Int)) (x5 : (List ((List Int) × ((List Int) × Unit)))) : evermoreref4_Counts.l3 (k + 1) x0 x1 x2 x3 x4 x5 = evermoreref4_Counts.R k (start (stackOf 7 evermoreref4_Counts.body)) (evermoreref4_Counts.t7.fill [⟨(.int .i64), x0⟩, ⟨(.int .i64), x1⟩, ⟨(.int .i64), x2⟩, ⟨(.slice (.slice (.int .i64))), x3⟩, ⟨(.slice (.int .i64)), x4⟩, ⟨(.slice (.pair (.slice (.int .i64)) (.pair (.slice (.int .i64)) .unit))), x5⟩]) := by kernel_rfl
theorem evermoreref4_Counts.s7 : stackAt 7 evermoreref4_Counts.body [] = some (stackOf 7 evermoreref4_Counts.body) := by kernel_rfl
theorem evermoreref4_Counts.h7 (k : Nat) (ds : List Dat) (r : (List Int) × Int) (h : evermoreref4_Counts.c7 k ds = some r) : ∃ k', k' < k ∧ ∃ s, stackAt 7 evermoreref4_Counts.body [] = some s ∧ evermoreref4_Counts.R k' (start s) (evermoreref4_Counts.t7.fill ds) = some r := by
  unfold evermoreref4_Counts.c7 at h
  obtain ⟨x0, d0, rfl, h0⟩ := pop_some h
  obtain ⟨x1, d1, rfl, h1⟩ := pop_some h0
  obtain ⟨x2, d2, rfl, h2⟩ := pop_some h1
  obtain ⟨x3, d3, rfl, h3⟩ := pop_some h2
  obtain ⟨x4, d4, rfl, h4⟩ := pop_some h3
  obtain ⟨x5, d5, rfl, h5⟩ := pop_some h4
  obtain ⟨rfl, g⟩ := popN_some h5
  cases k with
  | zero => cases (show none = some r from g)
  | succ k => exact ⟨k, Nat.lt_succ_self k, _, evermoreref4_Counts.s7, (evermoreref4_Counts.e7 k x0 x1 x2 x3 x4 x5).symm.trans g⟩
theorem evermoreref4_Counts.e15 (k : Nat) (x0 : Int) (x1 : Int) (x2 : Int) (x3 : Int) (x4 : Int) (x5 : (List (List Int))) (x6 : (List Int)) (x7 : (List ((List Int) × ((List Int) × Unit)))) : evermoreref4_Counts.l7 (k + 1) x0 x1 x2 x3 x4 x5 x6 x7 = evermoreref4_Counts.R k (start (stackOf 15 evermoreref4_Counts.body)) (evermoreref4_Counts.t15.fill [⟨(.int .i64), x0⟩, ⟨(.int .i64), x1⟩, ⟨(.int .i64), x2⟩, ⟨(.int .i64), x3⟩, ⟨(.int .i64), x4⟩, ⟨(.slice (.slice (.int .i64))), x5⟩, ⟨(.slice (.int .i64)), x6⟩, ⟨(.slice (.pair (.slice (.int .i64)) (.pair (.slice (.int .i64)) .unit))), x7⟩]) := by kernel_rfl
theorem evermoreref4_Counts.s15 : stackAt 15 evermoreref4_Counts.body [] = some (stackOf 15 evermoreref4_Counts.body) := by kernel_rfl
theorem evermoreref4_Counts.h15 (k : Nat) (ds : List Dat) (r : (List Int) × Int) (h : evermoreref4_Counts.c15 k ds = some r) : ∃ k', k' < k ∧ ∃ s, stackAt 15 evermoreref4_Counts.body [] = some s ∧ evermoreref4_Counts.R k' (start s) (evermoreref4_Counts.t15.fill ds) = some r := by
  unfold evermoreref4_Counts.c15 at h
  obtain ⟨x0, d0, rfl, h0⟩ := pop_some h
  obtain ⟨x1, d1, rfl, h1⟩ := pop_some h0
  obtain ⟨x2, d2, rfl, h2⟩ := pop_some h1
  obtain ⟨x3, d3, rfl, h3⟩ := pop_some h2
  obtain ⟨x4, d4, rfl, h4⟩ := pop_some h3
  obtain ⟨x5, d5, rfl, h5⟩ := pop_some h4
  obtain ⟨x6, d6, rfl, h6⟩ := pop_some h5
  obtain ⟨x7, d7, rfl, h7⟩ := pop_some h6
  obtain ⟨rfl, g⟩ := popN_some h7
  cases k with
  | zero => cases (show none = some r from g)
  | succ k => exact ⟨k, Nat.lt_succ_self k, _, evermoreref4_Counts.s15, (evermoreref4_Counts.e15 k x0 x1 x2 x3 x4 x5 x6 x7).symm.trans g⟩
theorem evermoreref4_Counts.e16 (k : Nat) (x0 : Int) (x1 : Int) (x2 : Int) (x3 : Int) (x4 : Int) (x5 : (List (List Int))) (x6 : (List Int)) (x7 : (List ((List Int) × ((List Int) × Unit)))) : evermoreref4_Counts.j8 (k + 1) x0 x1 x2 x3 x4 x5 x6 x7 = evermoreref4_Counts.R k (start (stackOf 16 evermoreref4_Counts.body)) (evermoreref4_Counts.t16.fill [⟨(.int .i64), x0⟩, ⟨(.int .i64), x1⟩, ⟨(.int .i64), x2⟩, ⟨(.int .i64), x3⟩, ⟨(.int .i64), x4⟩, ⟨(.slice (.slice (.int .i64))), x5⟩, ⟨(.slice (.int .i64)), x6⟩, ⟨(.slice (.pair (.slice (.int .i64)) (.pair (.slice (.int .i64)) .unit))), x7⟩]) := by kernel_rfl
theorem evermoreref4_Counts.s16 : stackAt 16 evermoreref4_Counts.body [] = some (stackOf 16 evermoreref4_Counts.body) := by kernel_rfl
theorem evermoreref4_Counts.h16 (k : Nat) (ds : List Dat) (r : (List Int) × Int) (h : evermoreref4_Counts.c16 k ds = some r) : ∃ k', k' < k ∧ ∃ s, stackAt 16 evermoreref4_Counts.body [] = some s ∧ evermoreref4_Counts.R k' (start s) (evermoreref4_Counts.t16.fill ds) = some r := by
  unfold evermoreref4_Counts.c16 at h
  obtain ⟨x0, d0, rfl, h0⟩ := pop_some h
  obtain ⟨x1, d1, rfl, h1⟩ := pop_some h0
  obtain ⟨x2, d2, rfl, h2⟩ := pop_some h1
  obtain ⟨x3, d3, rfl, h3⟩ := pop_some h2
  obtain ⟨x4, d4, rfl, h4⟩ := pop_some h3
  obtain ⟨x5, d5, rfl, h5⟩ := pop_some h4
  obtain ⟨x6, d6, rfl, h6⟩ := pop_some h5
  obtain ⟨x7, d7, rfl, h7⟩ := pop_some h6
  obtain ⟨rfl, g⟩ := popN_some h7
  cases k with
  | zero => cases (show none = some r from g)
  | succ k => exact ⟨k, Nat.lt_succ_self k, _, evermoreref4_Counts.s16, (evermoreref4_Counts.e16 k x0 x1 x2 x3 x4 x5 x6 x7).symm.trans g⟩
theorem evermoreref4_Counts.e (k : Nat) (x0 : (Int × (Int × ((List (List Int)) × ((List Int) × Unit))))) : evermoreref4_Counts.f k x0 = evermoreref4_Counts.R k ([.code evermoreref4_Counts.body]) (evermoreref4_Counts.ti.fill [⟨(.pair (.int .i64) (.pair (.int .i64) (.pair (.slice (.slice (.int .i64))) (.pair (.slice (.int .i64)) .unit)))), x0⟩]) := by kernel_rfl
theorem evermoreref4_Counts.h (k : Nat) (ds : List Dat) (r : (List Int) × Int) (h : evermoreref4_Counts.g k ds = some r) : ∃ k', k' < k ∧ evermoreref4_Counts.R k' ([.code evermoreref4_Counts.body]) (evermoreref4_Counts.ti.fill ds) = some r := by
  cases k with
  | zero => cases (show none = some r from h)
  | succ k =>
  replace h : evermoreref4_Counts.c k ds = some r := h
  unfold evermoreref4_Counts.c at h
  obtain ⟨x0, d0, rfl, h0⟩ := pop_some h
  obtain ⟨rfl, g⟩ := popN_some h0
  exact ⟨k, Nat.lt_succ_self k, (evermoreref4_Counts.e k x0).symm.trans g⟩
theorem evermoreref4_Counts.o (ds : List Dat) (r : (List Int) × Int) (h : evermoreref4_Counts.out ds = some r) : ds = evermoreref4_Counts.rs r := by
  unfold evermoreref4_Counts.out at h
  obtain ⟨x0, d0, rfl, h0⟩ := pop_some h
  obtain ⟨x1, d1, rfl, h1⟩ := pop_some h0
  obtain ⟨rfl, g⟩ := popN_some h1
  cases g
  rfl
theorem evermoreref4_Counts.fn : FnOk Try.prog 64 Try.f64 evermoreref4_Counts.body Try.f64.ntmps 1 (fnRes Try.f64) :=
  fnOk_of (by kernel_rfl) (by kernel_rfl) (by kernel_rfl) (by kernel_rfl)
theorem evermoreref4_Counts.con' : ∀ k ds r, evermoreref4_Counts.g k ds = some r → Con Try.prog 64 1 evermoreref4_Counts.ti evermoreref4_Counts.to ds (evermoreref4_Counts.rs r) :=
  fun_ok (T := T) T_ok mixed evermoreref4_Counts.fn (env := evermoreref4_Counts.env) (tbl := evermoreref4_Counts.tbl) (gOut := evermoreref4_Counts.out) (nin := 0) (cuts := [8]) (fuel := 100000) rfl (by kernel_rfl) (by kernel_rfl) (by kernel_rfl) (fun x hx => by
    simp only [evermoreref4_Counts.tbl, List.mem_cons, List.not_mem_nil, or_false] at hx
    rcases hx with rfl | rfl | rfl
    · exact evermoreref4_Counts.h7
    · exact evermoreref4_Counts.h15
    · exact evermoreref4_Counts.h16
) evermoreref4_Counts.o evermoreref4_Counts.h (fun k _ => by unfold evermoreref4_Counts.env; exact (envC_ok (fun ds K r h => by
    obtain ⟨x0, d0, rfl, h0⟩ := pop_some h
    obtain ⟨x1, d1, rfl, h1⟩ := pop_some h0
    obtain ⟨rfl, g⟩ := popN_some h1
    obtain ⟨r1, h1, h2⟩ := bind_some g
    exact ⟨_, h2, evermoreref4_Turns.con k _ h1⟩) (envC_ok (fun ds K r h => by
    obtain ⟨x0, d0, rfl, h0⟩ := pop_some h
    obtain ⟨rfl, g⟩ := popN_some h0
    obtain ⟨r1, h1, h2⟩ := bind_some g
    exact ⟨_, h2, evermoreref4_Elements.con k _ h1⟩) env0_ok)))
theorem evermoreref4_Counts.con (k : Nat) {x0 : (Int × (Int × ((List (List Int)) × ((List Int) × Unit))))} (r : (List Int) × Int) (h : evermoreref4_Counts.f k x0 = some r) : Con Try.prog 64 1 evermoreref4_Counts.ti evermoreref4_Counts.to [⟨(.pair (.int .i64) (.pair (.int .i64) (.pair (.slice (.slice (.int .i64))) (.pair (.slice (.int .i64)) .unit)))), x0⟩] (evermoreref4_Counts.rs r) :=
  evermoreref4_Counts.con' (k + 1) _ r (by show evermoreref4_Counts.c k _ = some r; unfold evermoreref4_Counts.c; simp only [pop_self, popN]; exact h)
def evermorelaw_MonoidCounts.f (k : Nat) (d0 : (Int × (Int × (List (List (Int)) × (List (Int) × Unit))))) : Option (Bool) :=
 (monoid_Counts.f k (d0.fst, d0.snd.fst, d0.snd.snd.fst, d0.snd.snd.snd.fst, ())).bind fun r1 =>
  (evermorelaw_small.f k (d0.fst, d0.snd.fst, d0.snd.snd.fst, d0.snd.snd.snd.fst, ())).bind fun r2 =>
   if r2.snd.snd.fst = 0 then
    (evermoreref4_Counts.f k (r2.fst, r2.snd.fst, r2.snd.snd.snd.fst, r2.snd.snd.snd.snd, ())).bind fun r4 =>
     (evermoreref1_Words.f k r1.fst r4.fst).bind fun r5 =>
      if r1.snd.snd.snd = 0 then
       if (r1.snd.snd.fst == decide (0 < r4.snd)) = true then
        if r1.snd.fst = r4.snd then
         some (r5)
        else
         some (false)
       else
        some (false)
      else
       some (false)
   else
    if r1.snd.snd.snd = r2.snd.snd.fst then
     if r1.snd.snd.fst = true then
      some (false)
     else
      if r1.snd.fst = 0 then
       some (decide ((↑r1.fst.length : Int) = 0))
      else
       some (false)
    else
     some (false)

noncomputable def evermorelaw_MonoidCounts.body : Code := fnBody Try.f12
def evermorelaw_MonoidCounts.ti : Tm := ⟨[(0, .p (.pair (.int .i64) (.pair (.int .i64) (.pair (.slice (.slice (.int .i64))) (.pair (.slice (.int .i64)) .unit)))))], []⟩
def evermorelaw_MonoidCounts.to : Tm := ⟨[(0, .p .bool)], []⟩
def evermorelaw_MonoidCounts.rs (r : Bool) : List Dat := [⟨.bool, r⟩]
def evermorelaw_MonoidCounts.out (ds : List Dat) : Option (Bool) := pop .bool ds fun x0 ds => popN ds (some (x0))
def evermorelaw_MonoidCounts.c (k : Nat) (ds : List Dat) : Option (Bool) := pop (.pair (.int .i64) (.pair (.int .i64) (.pair (.slice (.slice (.int .i64))) (.pair (.slice (.int .i64)) .unit)))) ds fun x0 ds => popN ds (evermorelaw_MonoidCounts.f k x0)
def evermorelaw_MonoidCounts.g : Nat → List Dat → Option (Bool)
 | 0, _ => none
 | k + 1, ds => evermorelaw_MonoidCounts.c k ds
def evermorelaw_MonoidCounts.env (k : Nat) : Nat → List SV → List Chunk → KT (Bool) → Option (Bool) := (envC 62 1 monoid_Counts.ti monoid_Counts.to (fun ds K => pop (.pair (.int .i64) (.pair (.int .i64) (.pair (.slice (.slice (.int .i64))) (.pair (.slice (.int .i64)) .unit)))) ds fun x0 ds => popN ds ((monoid_Counts.f k x0).bind fun r => K (monoid_Counts.rs r))) (envC 63 1 evermorelaw_small.ti evermorelaw_small.to (fun ds K => pop (.pair (.int .i64) (.pair (.int .i64) (.pair (.slice (.slice (.int .i64))) (.pair (.slice (.int .i64)) .unit)))) ds fun x0 ds => popN ds ((evermorelaw_small.f k x0).bind fun r => K (evermorelaw_small.rs r))) (envC 64 1 evermoreref4_Counts.ti evermoreref4_Counts.to (fun ds K => pop (.pair (.int .i64) (.pair (.int .i64) (.pair (.slice (.slice (.int .i64))) (.pair (.slice (.int .i64)) .unit)))) ds fun x0 ds => popN ds ((evermoreref4_Counts.f k x0).bind fun r => K (evermoreref4_Counts.rs r))) (envC 34 2 evermoreref1_Words.ti evermoreref1_Words.to (fun ds K => pop (.slice (.int .i64)) ds fun x0 ds => pop (.slice (.int .i64)) ds fun x1 ds => popN ds ((evermoreref1_Words.f k x0 x1).bind fun r => K (evermoreref1_Words.rs r))) env0))))
def evermorelaw_MonoidCounts.tbl : List (Nat × Tm × (Nat → List Dat → Option (Bool))) := []
noncomputable abbrev evermorelaw_MonoidCounts.R (k : Nat) := run T (evermorelaw_MonoidCounts.env k) Try.f12.ntmps (cutE 0 evermorelaw_MonoidCounts.tbl k) (finE 0 evermorelaw_MonoidCounts.to evermorelaw_MonoidCounts.out) (fnRes Try.f12) [] 100000 true
theorem evermorelaw_MonoidCounts.e (k : Nat) (x0 : (Int × (Int × ((List (List Int)) × ((List Int) × Unit))))) : evermorelaw_MonoidCounts.f k x0 = evermorelaw_MonoidCounts.R k ([.code evermorelaw_MonoidCounts.body]) (evermorelaw_MonoidCounts.ti.fill [⟨(.pair (.int .i64) (.pair (.int .i64) (.pair (.slice (.slice (.int .i64))) (.pair (.slice (.int .i64)) .unit)))), x0⟩]) := by kernel_rfl
theorem evermorelaw_MonoidCounts.h (k : Nat) (ds : List Dat) (r : Bool) (h : evermorelaw_MonoidCounts.g k ds = some r) : ∃ k', k' < k ∧ evermorelaw_MonoidCounts.R k' ([.code evermorelaw_MonoidCounts.body]) (evermorelaw_MonoidCounts.ti.fill ds) = some r := by
  cases k with
  | zero => cases (show none = some r from h)
  | succ k =>
  replace h : evermorelaw_MonoidCounts.c k ds = some r := h
  unfold evermorelaw_MonoidCounts.c at h
  obtain ⟨x0, d0, rfl, h0⟩ := pop_some h
  obtain ⟨rfl, g⟩ := popN_some h0
  exact ⟨k, Nat.lt_succ_self k, (evermorelaw_MonoidCounts.e k x0).symm.trans g⟩
theorem evermorelaw_MonoidCounts.o (ds : List Dat) (r : Bool) (h : evermorelaw_MonoidCounts.out ds = some r) : ds = evermorelaw_MonoidCounts.rs r := by
  unfold evermorelaw_MonoidCounts.out at h
  obtain ⟨x0, d0, rfl, h0⟩ := pop_some h
  obtain ⟨rfl, g⟩ := popN_some h0
  cases g
  rfl
theorem evermorelaw_MonoidCounts.fn : FnOk Try.prog 12 Try.f12 evermorelaw_MonoidCounts.body Try.f12.ntmps 1 (fnRes Try.f12) :=
  fnOk_of (by kernel_rfl) (by kernel_rfl) (by kernel_rfl) (by kernel_rfl)
theorem evermorelaw_MonoidCounts.con' : ∀ k ds r, evermorelaw_MonoidCounts.g k ds = some r → Con Try.prog 12 1 evermorelaw_MonoidCounts.ti evermorelaw_MonoidCounts.to ds (evermorelaw_MonoidCounts.rs r) :=
  fun_ok (T := T) T_ok mixed evermorelaw_MonoidCounts.fn (env := evermorelaw_MonoidCounts.env) (tbl := evermorelaw_MonoidCounts.tbl) (gOut := evermorelaw_MonoidCounts.out) (nin := 0) (cuts := []) (fuel := 100000) rfl (by kernel_rfl) (by kernel_rfl) (by kernel_rfl) (fun x hx => by simp [evermorelaw_MonoidCounts.tbl] at hx) evermorelaw_MonoidCounts.o evermorelaw_MonoidCounts.h (fun k _ => by unfold evermorelaw_MonoidCounts.env; exact (envC_ok (fun ds K r h => by
    obtain ⟨x0, d0, rfl, h0⟩ := pop_some h
    obtain ⟨rfl, g⟩ := popN_some h0
    obtain ⟨r1, h1, h2⟩ := bind_some g
    exact ⟨_, h2, monoid_Counts.con k _ h1⟩) (envC_ok (fun ds K r h => by
    obtain ⟨x0, d0, rfl, h0⟩ := pop_some h
    obtain ⟨rfl, g⟩ := popN_some h0
    obtain ⟨r1, h1, h2⟩ := bind_some g
    exact ⟨_, h2, evermorelaw_small.con k _ h1⟩) (envC_ok (fun ds K r h => by
    obtain ⟨x0, d0, rfl, h0⟩ := pop_some h
    obtain ⟨rfl, g⟩ := popN_some h0
    obtain ⟨r1, h1, h2⟩ := bind_some g
    exact ⟨_, h2, evermoreref4_Counts.con k _ h1⟩) (envC_ok (fun ds K r h => by
    obtain ⟨x0, d0, rfl, h0⟩ := pop_some h
    obtain ⟨x1, d1, rfl, h1⟩ := pop_some h0
    obtain ⟨rfl, g⟩ := popN_some h1
    obtain ⟨r1, h1, h2⟩ := bind_some g
    exact ⟨_, h2, evermoreref1_Words.con k _ h1⟩) env0_ok)))))
theorem evermorelaw_MonoidCounts.con (k : Nat) {x0 : (Int × (Int × ((List (List Int)) × ((List Int) × Unit))))} (r : Bool) (h : evermorelaw_MonoidCounts.f k x0 = some r) : Con Try.prog 12 1 evermorelaw_MonoidCounts.ti evermorelaw_MonoidCounts.to [⟨(.pair (.int .i64) (.pair (.int .i64) (.pair (.slice (.slice (.int .i64))) (.pair (.slice (.int .i64)) .unit)))), x0⟩] (evermorelaw_MonoidCounts.rs r) :=
  evermorelaw_MonoidCounts.con' (k + 1) _ r (by show evermorelaw_MonoidCounts.c k _ = some r; unfold evermorelaw_MonoidCounts.c; simp only [pop_self, popN]; exact h)
/-- The one pure statement of the law, over whatever arguments can be read. -/
def evermorelaw_MonoidCounts.PureH : Prop := ∀ (x0 : (Int × (Int × ((List (List Int)) × ((List Int) × Unit))))), Ty.okv (.pair (.int .i64) (.pair (.int .i64) (.pair (.slice (.slice (.int .i64))) (.pair (.slice (.int .i64)) .unit)))) x0 → ∃ k, evermorelaw_MonoidCounts.f k x0 = some true
end Go.Proofs.YtiiioobebeaafaaSx
