import Derived.Test.YtfkilmmldjajmaaGaDetMade
set_option linter.unusedVariables false
set_option maxRecDepth 100000
namespace Go.Proofs.YtfkilmmldjajmaaSx
open Go Go.Proofs
mutual
def evermoreref3_Least.l4 : Nat → Int → Int → Int → List (List (Int)) → List (Int) → Int → Int → List (Int) → List (Int) → List (List (Int)) → List (Int) → Option (Int × Int × List (List Int) × List Int)
 | 0, _, _, _, _, _, _, _, _, _, _, _ => none
 | k + 1, i5, d1_0, d1_1, d1_2, d1_3, x2_0, x2_1, class3, number4, c4, c5 =>
  if i5 < (↑number4.length : Int) then
   if 0 ≤ i5 then
   if i5 < (↑number4.length : Int) then
    evermoreref3_Least.l4 k (Go.IntKind.i64.wrap (i5 + 1)) d1_0 d1_1 d1_2 d1_3 x2_0 x2_1 class3 (number4.set i5.toNat (Int.instNegInt.1 1)) c4 c5
    else none
   else none
  else
   if 0 ≤ d1_1 then
   if d1_1 < (↑class3.length : Int) then
    if 0 ≤ class3.getD d1_1.toNat (Int.ofNat 0) then
     if class3.getD d1_1.toNat (Int.ofNat 0) < (↑number4.length : Int) then
      evermoreref3_Least.l11 k 0 d1_0 d1_1 d1_2 d1_3 x2_0 x2_1 class3 (number4.set (class3.getD d1_1.toNat (Int.ofNat 0)).toNat (Int.ofNat 0)) [d1_1] d1_0 0 c4 c5 [] []
      else none
     else none
    else none
   else none
def evermoreref3_Least.l11 : Nat → Int → Int → Int → List (List (Int)) → List (Int) → Int → Int → List (Int) → List (Int) → List (Int) → Int → Int → List (List (Int)) → List (Int) → List (List (Int)) → List (Int) → Option (Int × Int × List (List Int) × List Int)
 | 0, _, _, _, _, _, _, _, _, _, _, _, _, _, _, _, _ => none
 | k + 1, i8, d1_0, d1_1, d1_2, d1_3, x2_0, x2_1, class3, number4, row6, out7_0, out7_1, c6, c7, c8, c9 =>
  if i8 < (↑row6.length : Int) then
   if 0 ≤ d1_0 then
   if d1_0 ≤ d1_0 then
    if d1_0 * ((↑8 : Int) + 1) ≤ 281474976710656 then
     evermoreref3_Least.l15 k i8 0 d1_0 d1_1 d1_2 d1_3 x2_0 x2_1 class3 number4 row6 out7_0 out7_1 (List.replicate d1_0.toNat (Int.ofNat 0)) c6 c7 c8 c9
     else none
    else none
   else none
  else
   some (out7_0, out7_1, c8, c9)
def evermoreref3_Least.l15 : Nat → Int → Int → Int → Int → List (List (Int)) → List (Int) → Int → Int → List (Int) → List (Int) → List (Int) → Int → Int → List (Int) → List (List (Int)) → List (Int) → List (List (Int)) → List (Int) → Option (Int × Int × List (List Int) × List Int)
 | 0, _, _, _, _, _, _, _, _, _, _, _, _, _, _, _, _, _, _ => none
 | k + 1, i8, a10, d1_0, d1_1, d1_2, d1_3, x2_0, x2_1, class3, number4, row6, out7_0, out7_1, next9, c7, c8, c9, c10 =>
  if a10 < d1_0 then
   if 0 ≤ i8 then
   if i8 < (↑row6.length : Int) then
    if 0 ≤ row6.getD i8.toNat (Int.ofNat 0) then
     if row6.getD i8.toNat (Int.ofNat 0) < (↑d1_2.length : Int) then
      if 0 ≤ a10 then
       if a10 < (↑(Go.Proofs.YtfkilmmldjajmaaSx.rd [] d1_2 (row6.getD i8.toNat (Int.ofNat 0))).length : Int) then
        if 0 ≤ Go.Proofs.YtfkilmmldjajmaaSx.rd (Int.ofNat 0) (Go.Proofs.YtfkilmmldjajmaaSx.rd [] d1_2 (row6.getD i8.toNat (Int.ofNat 0))) a10 then
         if Go.Proofs.YtfkilmmldjajmaaSx.rd (Int.ofNat 0) (Go.Proofs.YtfkilmmldjajmaaSx.rd [] d1_2 (row6.getD i8.toNat (Int.ofNat 0))) a10 < (↑class3.length : Int) then
          if 0 ≤ class3.getD (Go.Proofs.YtfkilmmldjajmaaSx.rd (Int.ofNat 0) (Go.Proofs.YtfkilmmldjajmaaSx.rd [] d1_2 (row6.getD i8.toNat (Int.ofNat 0))) a10).toNat (Int.ofNat 0) then
           if class3.getD (Go.Proofs.YtfkilmmldjajmaaSx.rd (Int.ofNat 0) (Go.Proofs.YtfkilmmldjajmaaSx.rd [] d1_2 (row6.getD i8.toNat (Int.ofNat 0))) a10).toNat (Int.ofNat 0) < (↑number4.length : Int) then
            if number4.getD (class3.getD (Go.Proofs.YtfkilmmldjajmaaSx.rd (Int.ofNat 0) (Go.Proofs.YtfkilmmldjajmaaSx.rd [] d1_2 (row6.getD i8.toNat (Int.ofNat 0))) a10).toNat (Int.ofNat 0)).toNat (Int.ofNat 0) < 0 then
              if 0 ≤ Go.Proofs.YtfkilmmldjajmaaSx.rd (Int.ofNat 0) (Go.Proofs.YtfkilmmldjajmaaSx.rd [] d1_2 (row6.getD i8.toNat (Int.ofNat 0))) a10 then
              if Go.Proofs.YtfkilmmldjajmaaSx.rd (Int.ofNat 0) (Go.Proofs.YtfkilmmldjajmaaSx.rd [] d1_2 (row6.getD i8.toNat (Int.ofNat 0))) a10 < (↑class3.length : Int) then
               if 0 ≤ class3.getD (Go.Proofs.YtfkilmmldjajmaaSx.rd (Int.ofNat 0) (Go.Proofs.YtfkilmmldjajmaaSx.rd [] d1_2 (row6.getD i8.toNat (Int.ofNat 0))) a10).toNat (Int.ofNat 0) then
                if class3.getD (Go.Proofs.YtfkilmmldjajmaaSx.rd (Int.ofNat 0) (Go.Proofs.YtfkilmmldjajmaaSx.rd [] d1_2 (row6.getD i8.toNat (Int.ofNat 0))) a10).toNat (Int.ofNat 0) < (↑number4.length : Int) then
                 if (row6 ++ [Go.Proofs.YtfkilmmldjajmaaSx.rd (Int.ofNat 0) (Go.Proofs.YtfkilmmldjajmaaSx.rd [] d1_2 (row6.getD i8.toNat (Int.ofNat 0))) a10]).length.blt 1000000000 = true then
                  evermoreref3_Least.j21 k i8 a10 (Go.Proofs.YtfkilmmldjajmaaSx.rd (Int.ofNat 0) (Go.Proofs.YtfkilmmldjajmaaSx.rd [] d1_2 (row6.getD i8.toNat (Int.ofNat 0))) a10) d1_0 d1_1 d1_2 d1_3 x2_0 x2_1 class3 (number4.set (class3.getD (Go.Proofs.YtfkilmmldjajmaaSx.rd (Int.ofNat 0) (Go.Proofs.YtfkilmmldjajmaaSx.rd [] d1_2 (row6.getD i8.toNat (Int.ofNat 0))) a10).toNat (Int.ofNat 0)).toNat (↑row6.length : Int)) (row6 ++ [Go.Proofs.YtfkilmmldjajmaaSx.rd (Int.ofNat 0) (Go.Proofs.YtfkilmmldjajmaaSx.rd [] d1_2 (row6.getD i8.toNat (Int.ofNat 0))) a10]) out7_0 out7_1 next9 c7 c8 c9 c10
                  else none
                 else none
                else none
               else none
              else none
             else
              evermoreref3_Least.j21 k i8 a10 (Go.Proofs.YtfkilmmldjajmaaSx.rd (Int.ofNat 0) (Go.Proofs.YtfkilmmldjajmaaSx.rd [] d1_2 (row6.getD i8.toNat (Int.ofNat 0))) a10) d1_0 d1_1 d1_2 d1_3 x2_0 x2_1 class3 number4 row6 out7_0 out7_1 next9 c7 c8 c9 c10
            else none
           else none
          else none
         else none
        else none
       else none
      else none
     else none
    else none
   else none
  else
   if (c9 ++ [next9]).length.blt 1000000000 = true then
   if 0 ≤ i8 then
    if i8 < (↑row6.length : Int) then
     if 0 ≤ row6.getD i8.toNat (Int.ofNat 0) then
      if row6.getD i8.toNat (Int.ofNat 0) < (↑d1_3.length : Int) then
       if (c10 ++ [Go.Proofs.YtfkilmmldjajmaaSx.rd (Int.ofNat 0) d1_3 (row6.getD i8.toNat (Int.ofNat 0))]).length.blt 1000000000 = true then
        evermoreref3_Least.l11 k (Go.IntKind.i64.wrap (i8 + 1)) d1_0 d1_1 d1_2 d1_3 x2_0 x2_1 class3 number4 row6 out7_0 out7_1 c7 c8 (c9 ++ [next9]) (c10 ++ [Go.Proofs.YtfkilmmldjajmaaSx.rd (Int.ofNat 0) d1_3 (row6.getD i8.toNat (Int.ofNat 0))])
        else none
       else none
      else none
     else none
    else none
   else none
def evermoreref3_Least.j21 : Nat → Int → Int → Int → Int → Int → List (List (Int)) → List (Int) → Int → Int → List (Int) → List (Int) → List (Int) → Int → Int → List (Int) → List (List (Int)) → List (Int) → List (List (Int)) → List (Int) → Option (Int × Int × List (List Int) × List Int)
 | 0, _, _, _, _, _, _, _, _, _, _, _, _, _, _, _, _, _, _, _ => none
 | k + 1, i8, a10, q11, d1_0, d1_1, d1_2, d1_3, x2_0, x2_1, class3, number4, row6, out7_0, out7_1, next9, c7, c8, c9, c10 =>
  if 0 ≤ q11 then
  if q11 < (↑class3.length : Int) then
   if 0 ≤ class3.getD q11.toNat (Int.ofNat 0) then
    if class3.getD q11.toNat (Int.ofNat 0) < (↑number4.length : Int) then
     if 0 ≤ a10 then
      if a10 < (↑next9.length : Int) then
       evermoreref3_Least.l15 k i8 (Go.IntKind.i64.wrap (a10 + 1)) d1_0 d1_1 d1_2 d1_3 x2_0 x2_1 class3 number4 row6 out7_0 out7_1 (next9.set a10.toNat (number4.getD (class3.getD q11.toNat (Int.ofNat 0)).toNat (Int.ofNat 0))) c7 c8 c9 c10
       else none
      else none
     else none
    else none
   else none
  else none
end
def evermoreref3_Least.f (k : Nat) (d0 : (Int × (Int × (List (List (Int)) × (List (Int) × Unit))))) : Option (Int × Int × List (List Int) × List Int) :=
 (evermoreref3_Classes.f k (d0.fst, d0.snd.fst, d0.snd.snd.fst, d0.snd.snd.snd.fst, ())).bind fun r1 =>
  if 0 ≤ (↑r1.length : Int) then
  if (↑r1.length : Int) ≤ (↑r1.length : Int) then
   if (↑r1.length : Int) * ((↑8 : Int) + 1) ≤ 281474976710656 then
    evermoreref3_Least.l4 k 0 d0.fst d0.snd.fst d0.snd.snd.fst d0.snd.snd.snd.fst 0 0 r1 (List.replicate (↑r1.length : Int).toNat (Int.ofNat 0)) [] []
    else none
   else none
  else none

noncomputable def evermoreref3_Least.body : Code := fnBody Try.f48
def evermoreref3_Least.ti : Tm := ⟨[(0, .p (.pair (.int .i64) (.pair (.int .i64) (.pair (.slice (.slice (.int .i64))) (.pair (.slice (.int .i64)) .unit)))))], []⟩
def evermoreref3_Least.to : Tm := ⟨[(0, .agg [.p (.int .i64), .p (.int .i64), .own 0, .own 1])], [.own (.slice (.int .i64)), .own (.int .i64)]⟩
def evermoreref3_Least.rs (r : Int × Int × (List (List Int)) × (List Int)) : List Dat := [⟨(.int .i64), r.1⟩, ⟨(.int .i64), r.2.1⟩, ⟨(.slice (.slice (.int .i64))), r.2.2.1⟩, ⟨(.slice (.int .i64)), r.2.2.2⟩]
def evermoreref3_Least.out (ds : List Dat) : Option (Int × Int × (List (List Int)) × (List Int)) := pop (.int .i64) ds fun x0 ds => pop (.int .i64) ds fun x1 ds => pop (.slice (.slice (.int .i64))) ds fun x2 ds => pop (.slice (.int .i64)) ds fun x3 ds => popN ds (some (x0, x1, x2, x3))
def evermoreref3_Least.c (k : Nat) (ds : List Dat) : Option (Int × Int × (List (List Int)) × (List Int)) := pop (.pair (.int .i64) (.pair (.int .i64) (.pair (.slice (.slice (.int .i64))) (.pair (.slice (.int .i64)) .unit)))) ds fun x0 ds => popN ds (evermoreref3_Least.f k x0)
def evermoreref3_Least.g : Nat → List Dat → Option (Int × Int × (List (List Int)) × (List Int))
 | 0, _ => none
 | k + 1, ds => evermoreref3_Least.c k ds
def evermoreref3_Least.env (k : Nat) : Nat → List SV → List Chunk → KT (Int × Int × (List (List Int)) × (List Int)) → Option (Int × Int × (List (List Int)) × (List Int)) := (envC 112 1 evermoreref3_Classes.ti evermoreref3_Classes.to (fun ds K => pop (.pair (.int .i64) (.pair (.int .i64) (.pair (.slice (.slice (.int .i64))) (.pair (.slice (.int .i64)) .unit)))) ds fun x0 ds => popN ds ((evermoreref3_Classes.f k x0).bind fun r => K (evermoreref3_Classes.rs r))) env0)
def evermoreref3_Least.t9 : Tm := ⟨[(1, .ptr 0 0), (2, .ptr 1 0), (3, .own 2), (4, .own 3), (5, .p (.int .i64))], [.box [.p (.int .i64), .p (.int .i64), .p (.slice (.slice (.int .i64))), .p (.slice (.int .i64))] 60, .box [.p (.int .i64), .p (.int .i64), .own 4, .own 5] 60, .own (.int .i64), .own (.int .i64), .own (.slice (.int .i64)), .own (.int .i64)]⟩
def evermoreref3_Least.c9 (k : Nat) (ds : List Dat) : Option (Int × Int × (List (List Int)) × (List Int)) := pop (.int .i64) ds fun x0 ds => pop (.int .i64) ds fun x1 ds => pop (.int .i64) ds fun x2 ds => pop (.slice (.slice (.int .i64))) ds fun x3 ds => pop (.slice (.int .i64)) ds fun x4 ds => pop (.int .i64) ds fun x5 ds => pop (.int .i64) ds fun x6 ds => pop (.slice (.int .i64)) ds fun x7 ds => pop (.slice (.int .i64)) ds fun x8 ds => pop (.slice (.slice (.int .i64))) ds fun x9 ds => pop (.slice (.int .i64)) ds fun x10 ds => popN ds (evermoreref3_Least.l4 k x0 x1 x2 x3 x4 x5 x6 x7 x8 x9 x10)
def evermoreref3_Least.t23 : Tm := ⟨[(1, .ptr 0 0), (2, .ptr 1 0), (3, .own 2), (4, .own 3), (6, .own 4), (7, .ptr 5 0), (8, .p (.int .i64))], [.box [.p (.int .i64), .p (.int .i64), .p (.slice (.slice (.int .i64))), .p (.slice (.int .i64))] 60, .box [.p (.int .i64), .p (.int .i64), .own 6, .own 7] 60, .own (.int .i64), .own (.int .i64), .own (.int .i64), .box [.p (.int .i64), .p (.int .i64), .own 8, .own 9] 60, .own (.slice (.int .i64)), .own (.int .i64), .own (.slice (.int .i64)), .own (.int .i64)]⟩
def evermoreref3_Least.c23 (k : Nat) (ds : List Dat) : Option (Int × Int × (List (List Int)) × (List Int)) := pop (.int .i64) ds fun x0 ds => pop (.int .i64) ds fun x1 ds => pop (.int .i64) ds fun x2 ds => pop (.slice (.slice (.int .i64))) ds fun x3 ds => pop (.slice (.int .i64)) ds fun x4 ds => pop (.int .i64) ds fun x5 ds => pop (.int .i64) ds fun x6 ds => pop (.slice (.int .i64)) ds fun x7 ds => pop (.slice (.int .i64)) ds fun x8 ds => pop (.slice (.int .i64)) ds fun x9 ds => pop (.int .i64) ds fun x10 ds => pop (.int .i64) ds fun x11 ds => pop (.slice (.slice (.int .i64))) ds fun x12 ds => pop (.slice (.int .i64)) ds fun x13 ds => pop (.slice (.slice (.int .i64))) ds fun x14 ds => pop (.slice (.int .i64)) ds fun x15 ds => popN ds (evermoreref3_Least.l11 k x0 x1 x2 x3 x4 x5 x6 x7 x8 x9 x10 x11 x12 x13 x14 x15)
def evermoreref3_Least.t31 : Tm := ⟨[(1, .ptr 0 0), (2, .ptr 1 0), (3, .own 2), (4, .own 3), (6, .own 4), (7, .ptr 5 0), (8, .p (.int .i64)), (9, .own 6), (10, .p (.int .i64))], [.box [.p (.int .i64), .p (.int .i64), .p (.slice (.slice (.int .i64))), .p (.slice (.int .i64))] 60, .box [.p (.int .i64), .p (.int .i64), .own 7, .own 8] 60, .own (.int .i64), .own (.int .i64), .own (.int .i64), .box [.p (.int .i64), .p (.int .i64), .own 9, .own 10] 60, .own (.int .i64), .own (.slice (.int .i64)), .own (.int .i64), .own (.slice (.int .i64)), .own (.int .i64)]⟩
def evermoreref3_Least.c31 (k : Nat) (ds : List Dat) : Option (Int × Int × (List (List Int)) × (List Int)) := pop (.int .i64) ds fun x0 ds => pop (.int .i64) ds fun x1 ds => pop (.int .i64) ds fun x2 ds => pop (.int .i64) ds fun x3 ds => pop (.slice (.slice (.int .i64))) ds fun x4 ds => pop (.slice (.int .i64)) ds fun x5 ds => pop (.int .i64) ds fun x6 ds => pop (.int .i64) ds fun x7 ds => pop (.slice (.int .i64)) ds fun x8 ds => pop (.slice (.int .i64)) ds fun x9 ds => pop (.slice (.int .i64)) ds fun x10 ds => pop (.int .i64) ds fun x11 ds => pop (.int .i64) ds fun x12 ds => pop (.slice (.int .i64)) ds fun x13 ds => pop (.slice (.slice (.int .i64))) ds fun x14 ds => pop (.slice (.int .i64)) ds fun x15 ds => pop (.slice (.slice (.int .i64))) ds fun x16 ds => pop (.slice (.int .i64)) ds fun x17 ds => popN ds (evermoreref3_Least.l15 k x0 x1 x2 x3 x4 x5 x6 x7 x8 x9 x10 x11 x12 x13 x14 x15 x16 x17)
def evermoreref3_Least.t42 : Tm := ⟨[(1, .ptr 0 0), (2, .ptr 1 0), (3, .own 2), (4, .own 3), (6, .own 4), (7, .ptr 5 0), (8, .p (.int .i64)), (9, .own 6), (10, .p (.int .i64)), (11, .p (.int .i64))], [.box [.p (.int .i64), .p (.int .i64), .p (.slice (.slice (.int .i64))), .p (.slice (.int .i64))] 60, .box [.p (.int .i64), .p (.int .i64), .own 7, .own 8] 60, .own (.int .i64), .own (.int .i64), .own (.int .i64), .box [.p (.int .i64), .p (.int .i64), .own 9, .own 10] 60, .own (.int .i64), .own (.slice (.int .i64)), .own (.int .i64), .own (.slice (.int .i64)), .own (.int .i64)]⟩
def evermoreref3_Least.c42 (k : Nat) (ds : List Dat) : Option (Int × Int × (List (List Int)) × (List Int)) := pop (.int .i64) ds fun x0 ds => pop (.int .i64) ds fun x1 ds => pop (.int .i64) ds fun x2 ds => pop (.int .i64) ds fun x3 ds => pop (.int .i64) ds fun x4 ds => pop (.slice (.slice (.int .i64))) ds fun x5 ds => pop (.slice (.int .i64)) ds fun x6 ds => pop (.int .i64) ds fun x7 ds => pop (.int .i64) ds fun x8 ds => pop (.slice (.int .i64)) ds fun x9 ds => pop (.slice (.int .i64)) ds fun x10 ds => pop (.slice (.int .i64)) ds fun x11 ds => pop (.int .i64) ds fun x12 ds => pop (.int .i64) ds fun x13 ds => pop (.slice (.int .i64)) ds fun x14 ds => pop (.slice (.slice (.int .i64))) ds fun x15 ds => pop (.slice (.int .i64)) ds fun x16 ds => pop (.slice (.slice (.int .i64))) ds fun x17 ds => pop (.slice (.int .i64)) ds fun x18 ds => popN ds (evermoreref3_Least.j21 k x0 x1 x2 x3 x4 x5 x6 x7 x8 x9 x10 x11 x12 x13 x14 x15 x16 x17 x18)
def evermoreref3_Least.tbl : List (Nat × Tm × (Nat → List Dat → Option (Int × Int × (List (List Int)) × (List Int)))) := [(9, evermoreref3_Least.t9, evermoreref3_Least.c9), (23, evermoreref3_Least.t23, evermoreref3_Least.c23), (31, evermoreref3_Least.t31, evermoreref3_Least.c31), (42, evermoreref3_Least.t42, evermoreref3_Least.c42)]
noncomputable abbrev evermoreref3_Least.R (k : Nat) := run T (evermoreref3_Least.env k) Try.f48.ntmps (cutE 0 evermoreref3_Least.tbl k) (finE 0 evermoreref3_Least.to evermoreref3_Least.out) (fnRes Try.f48) [21] 100000 true
theorem evermoreref3_Least.e9 (k : Nat) (x0 : Int) (x1 : Int) (x2 : Int) (x3 : (List (List Int))) (x4 : (List Int)) (x5 : Int) (x6 : Int) (x7 : (List Int)) (x8 : (List Int)) (x9 : (List (List Int))) (x10 : (List Int)) : evermoreref3_Least.l4 (k + 1) x0 x1 x2 x3 x4 x5 x6 x7 x8 x9 x10 = evermoreref3_Least.R k (start (stackOf 9 evermoreref3_Least.body)) (evermoreref3_Least.t9.fill [⟨(.int .i64), x0⟩, ⟨(.int .i64), x1⟩, ⟨(.int .i64), x2⟩, ⟨(.slice (.slice (.int .i64))), x3⟩, ⟨(.slice (.int .i64)), x4⟩, ⟨(.int .i64), x5⟩, ⟨(.int .i64), x6⟩, ⟨(.slice (.int .i64)), x7⟩, ⟨(.slice (.int .i64)), x8⟩, ⟨(.slice (.slice (.int .i64))), x9⟩, ⟨(.slice (.int .i64)), x10⟩]) := by kernel_rfl
theorem evermoreref3_Least.s9 : stackAt 9 evermoreref3_Least.body [] = some (stackOf 9 evermoreref3_Least.body) := by kernel_rfl
theorem evermoreref3_Least.h9 (k : Nat) (ds : List Dat) (r : Int × Int × (List (List Int)) × (List Int)) (h : evermoreref3_Least.c9 k ds = some r) : ∃ k', k' < k ∧ ∃ s, stackAt 9 evermoreref3_Least.body [] = some s ∧ evermoreref3_Least.R k' (start s) (evermoreref3_Least.t9.fill ds) = some r := by
  unfold evermoreref3_Least.c9 at h
  obtain ⟨x0, d0, rfl, h0⟩ := pop_some h
  obtain ⟨x1, d1, rfl, h1⟩ := pop_some h0
  obtain ⟨x2, d2, rfl, h2⟩ := pop_some h1
  obtain ⟨x3, d3, rfl, h3⟩ := pop_some h2
  obtain ⟨x4, d4, rfl, h4⟩ := pop_some h3
  obtain ⟨x5, d5, rfl, h5⟩ := pop_some h4
  obtain ⟨x6, d6, rfl, h6⟩ := pop_some h5
  obtain ⟨x7, d7, rfl, h7⟩ := pop_some h6
  obtain ⟨x8, d8, rfl, h8⟩ := pop_some h7
  obtain ⟨x9, d9, rfl, h9⟩ := pop_some h8
  obtain ⟨x10, d10, rfl, h10⟩ := pop_some h9
  obtain ⟨rfl, g⟩ := popN_some h10
  cases k with
  | zero => cases (show none = some r from g)
  | succ k => exact ⟨k, Nat.lt_succ_self k, _, evermoreref3_Least.s9, (evermoreref3_Least.e9 k x0 x1 x2 x3 x4 x5 x6 x7 x8 x9 x10).symm.trans g⟩
theorem evermoreref3_Least.e23 (k : Nat) (x0 : Int) (x1 : Int) (x2 : Int) (x3 : (List (List Int))) (x4 : (List Int)) (x5 : Int) (x6 : Int) (x7 : (List Int)) (x8 : (List Int)) (x9 : (List Int)) (x10 : Int) (x11 : Int) (x12 : (List (List Int))) (x13 : (List Int)) (x14 : (List (List Int))) (x15 : (List Int)) : evermoreref3_Least.l11 (k + 1) x0 x1 x2 x3 x4 x5 x6 x7 x8 x9 x10 x11 x12 x13 x14 x15 = evermoreref3_Least.R k (start (stackOf 23 evermoreref3_Least.body)) (evermoreref3_Least.t23.fill [⟨(.int .i64), x0⟩, ⟨(.int .i64), x1⟩, ⟨(.int .i64), x2⟩, ⟨(.slice (.slice (.int .i64))), x3⟩, ⟨(.slice (.int .i64)), x4⟩, ⟨(.int .i64), x5⟩, ⟨(.int .i64), x6⟩, ⟨(.slice (.int .i64)), x7⟩, ⟨(.slice (.int .i64)), x8⟩, ⟨(.slice (.int .i64)), x9⟩, ⟨(.int .i64), x10⟩, ⟨(.int .i64), x11⟩, ⟨(.slice (.slice (.int .i64))), x12⟩, ⟨(.slice (.int .i64)), x13⟩, ⟨(.slice (.slice (.int .i64))), x14⟩, ⟨(.slice (.int .i64)), x15⟩]) := by kernel_rfl
theorem evermoreref3_Least.s23 : stackAt 23 evermoreref3_Least.body [] = some (stackOf 23 evermoreref3_Least.body) := by kernel_rfl
theorem evermoreref3_Least.h23 (k : Nat) (ds : List Dat) (r : Int × Int × (List (List Int)) × (List Int)) (h : evermoreref3_Least.c23 k ds = some r) : ∃ k', k' < k ∧ ∃ s, stackAt 23 evermoreref3_Least.body [] = some s ∧ evermoreref3_Least.R k' (start s) (evermoreref3_Least.t23.fill ds) = some r := by
  unfold evermoreref3_Least.c23 at h
  obtain ⟨x0, d0, rfl, h0⟩ := pop_some h
  obtain ⟨x1, d1, rfl, h1⟩ := pop_some h0
  obtain ⟨x2, d2, rfl, h2⟩ := pop_some h1
  obtain ⟨x3, d3, rfl, h3⟩ := pop_some h2
  obtain ⟨x4, d4, rfl, h4⟩ := pop_some h3
  obtain ⟨x5, d5, rfl, h5⟩ := pop_some h4
  obtain ⟨x6, d6, rfl, h6⟩ := pop_some h5
  obtain ⟨x7, d7, rfl, h7⟩ := pop_some h6
  obtain ⟨x8, d8, rfl, h8⟩ := pop_some h7
  obtain ⟨x9, d9, rfl, h9⟩ := pop_some h8
  obtain ⟨x10, d10, rfl, h10⟩ := pop_some h9
  obtain ⟨x11, d11, rfl, h11⟩ := pop_some h10
  obtain ⟨x12, d12, rfl, h12⟩ := pop_some h11
  obtain ⟨x13, d13, rfl, h13⟩ := pop_some h12
  obtain ⟨x14, d14, rfl, h14⟩ := pop_some h13
  obtain ⟨x15, d15, rfl, h15⟩ := pop_some h14
  obtain ⟨rfl, g⟩ := popN_some h15
  cases k with
  | zero => cases (show none = some r from g)
  | succ k => exact ⟨k, Nat.lt_succ_self k, _, evermoreref3_Least.s23, (evermoreref3_Least.e23 k x0 x1 x2 x3 x4 x5 x6 x7 x8 x9 x10 x11 x12 x13 x14 x15).symm.trans g⟩
theorem evermoreref3_Least.e31 (k : Nat) (x0 : Int) (x1 : Int) (x2 : Int) (x3 : Int) (x4 : (List (List Int))) (x5 : (List Int)) (x6 : Int) (x7 : Int) (x8 : (List Int)) (x9 : (List Int)) (x10 : (List Int)) (x11 : Int) (x12 : Int) (x13 : (List Int)) (x14 : (List (List Int))) (x15 : (List Int)) (x16 : (List (List Int))) (x17 : (List Int)) : evermoreref3_Least.l15 (k + 1) x0 x1 x2 x3 x4 x5 x6 x7 x8 x9 x10 x11 x12 x13 x14 x15 x16 x17 = evermoreref3_Least.R k (start (stackOf 31 evermoreref3_Least.body)) (evermoreref3_Least.t31.fill [⟨(.int .i64), x0⟩, ⟨(.int .i64), x1⟩, ⟨(.int .i64), x2⟩, ⟨(.int .i64), x3⟩, ⟨(.slice (.slice (.int .i64))), x4⟩, ⟨(.slice (.int .i64)), x5⟩, ⟨(.int .i64), x6⟩, ⟨(.int .i64), x7⟩, ⟨(.slice (.int .i64)), x8⟩, ⟨(.slice (.int .i64)), x9⟩, ⟨(.slice (.int .i64)), x10⟩, ⟨(.int .i64), x11⟩, ⟨(.int .i64), x12⟩, ⟨(.slice (.int .i64)), x13⟩, ⟨(.slice (.slice (.int .i64))), x14⟩, ⟨(.slice (.int .i64)), x15⟩, ⟨(.slice (.slice (.int .i64))), x16⟩, ⟨(.slice (.int .i64)), x17⟩]) := by kernel_rfl
theorem evermoreref3_Least.s31 : stackAt 31 evermoreref3_Least.body [] = some (stackOf 31 evermoreref3_Least.body) := by kernel_rfl
theorem evermoreref3_Least.h31 (k : Nat) (ds : List Dat) (r : Int × Int × (List (List Int)) × (List Int)) (h : evermoreref3_Least.c31 k ds = some r) : ∃ k', k' < k ∧ ∃ s, stackAt 31 evermoreref3_Least.body [] = some s ∧ evermoreref3_Least.R k' (start s) (evermoreref3_Least.t31.fill ds) = some r := by
  unfold evermoreref3_Least.c31 at h
  obtain ⟨x0, d0, rfl, h0⟩ := pop_some h
  obtain ⟨x1, d1, rfl, h1⟩ := pop_some h0
  obtain ⟨x2, d2, rfl, h2⟩ := pop_some h1
  obtain ⟨x3, d3, rfl, h3⟩ := pop_some h2
  obtain ⟨x4, d4, rfl, h4⟩ := pop_some h3
  obtain ⟨x5, d5, rfl, h5⟩ := pop_some h4
  obtain ⟨x6, d6, rfl, h6⟩ := pop_some h5
  obtain ⟨x7, d7, rfl, h7⟩ := pop_some h6
  obtain ⟨x8, d8, rfl, h8⟩ := pop_some h7
  obtain ⟨x9, d9, rfl, h9⟩ := pop_some h8
  obtain ⟨x10, d10, rfl, h10⟩ := pop_some h9
  obtain ⟨x11, d11, rfl, h11⟩ := pop_some h10
  obtain ⟨x12, d12, rfl, h12⟩ := pop_some h11
  obtain ⟨x13, d13, rfl, h13⟩ := pop_some h12
  obtain ⟨x14, d14, rfl, h14⟩ := pop_some h13
  obtain ⟨x15, d15, rfl, h15⟩ := pop_some h14
  obtain ⟨x16, d16, rfl, h16⟩ := pop_some h15
  obtain ⟨x17, d17, rfl, h17⟩ := pop_some h16
  obtain ⟨rfl, g⟩ := popN_some h17
  cases k with
  | zero => cases (show none = some r from g)
  | succ k => exact ⟨k, Nat.lt_succ_self k, _, evermoreref3_Least.s31, (evermoreref3_Least.e31 k x0 x1 x2 x3 x4 x5 x6 x7 x8 x9 x10 x11 x12 x13 x14 x15 x16 x17).symm.trans g⟩
theorem evermoreref3_Least.e42 (k : Nat) (x0 : Int) (x1 : Int) (x2 : Int) (x3 : Int) (x4 : Int) (x5 : (List (List Int))) (x6 : (List Int)) (x7 : Int) (x8 : Int) (x9 : (List Int)) (x10 : (List Int)) (x11 : (List Int)) (x12 : Int) (x13 : Int) (x14 : (List Int)) (x15 : (List (List Int))) (x16 : (List Int)) (x17 : (List (List Int))) (x18 : (List Int)) : evermoreref3_Least.j21 (k + 1) x0 x1 x2 x3 x4 x5 x6 x7 x8 x9 x10 x11 x12 x13 x14 x15 x16 x17 x18 = evermoreref3_Least.R k (start (stackOf 42 evermoreref3_Least.body)) (evermoreref3_Least.t42.fill [⟨(.int .i64), x0⟩, ⟨(.int .i64), x1⟩, ⟨(.int .i64), x2⟩, ⟨(.int .i64), x3⟩, ⟨(.int .i64), x4⟩, ⟨(.slice (.slice (.int .i64))), x5⟩, ⟨(.slice (.int .i64)), x6⟩, ⟨(.int .i64), x7⟩, ⟨(.int .i64), x8⟩, ⟨(.slice (.int .i64)), x9⟩, ⟨(.slice (.int .i64)), x10⟩, ⟨(.slice (.int .i64)), x11⟩, ⟨(.int .i64), x12⟩, ⟨(.int .i64), x13⟩, ⟨(.slice (.int .i64)), x14⟩, ⟨(.slice (.slice (.int .i64))), x15⟩, ⟨(.slice (.int .i64)), x16⟩, ⟨(.slice (.slice (.int .i64))), x17⟩, ⟨(.slice (.int .i64)), x18⟩]) := by kernel_rfl
theorem evermoreref3_Least.s42 : stackAt 42 evermoreref3_Least.body [] = some (stackOf 42 evermoreref3_Least.body) := by kernel_rfl
theorem evermoreref3_Least.h42 (k : Nat) (ds : List Dat) (r : Int × Int × (List (List Int)) × (List Int)) (h : evermoreref3_Least.c42 k ds = some r) : ∃ k', k' < k ∧ ∃ s, stackAt 42 evermoreref3_Least.body [] = some s ∧ evermoreref3_Least.R k' (start s) (evermoreref3_Least.t42.fill ds) = some r := by
  unfold evermoreref3_Least.c42 at h
  obtain ⟨x0, d0, rfl, h0⟩ := pop_some h
  obtain ⟨x1, d1, rfl, h1⟩ := pop_some h0
  obtain ⟨x2, d2, rfl, h2⟩ := pop_some h1
  obtain ⟨x3, d3, rfl, h3⟩ := pop_some h2
  obtain ⟨x4, d4, rfl, h4⟩ := pop_some h3
  obtain ⟨x5, d5, rfl, h5⟩ := pop_some h4
  obtain ⟨x6, d6, rfl, h6⟩ := pop_some h5
  obtain ⟨x7, d7, rfl, h7⟩ := pop_some h6
  obtain ⟨x8, d8, rfl, h8⟩ := pop_some h7
  obtain ⟨x9, d9, rfl, h9⟩ := pop_some h8
  obtain ⟨x10, d10, rfl, h10⟩ := pop_some h9
  obtain ⟨x11, d11, rfl, h11⟩ := pop_some h10
  obtain ⟨x12, d12, rfl, h12⟩ := pop_some h11
  obtain ⟨x13, d13, rfl, h13⟩ := pop_some h12
  obtain ⟨x14, d14, rfl, h14⟩ := pop_some h13
  obtain ⟨x15, d15, rfl, h15⟩ := pop_some h14
  obtain ⟨x16, d16, rfl, h16⟩ := pop_some h15
  obtain ⟨x17, d17, rfl, h17⟩ := pop_some h16
  obtain ⟨x18, d18, rfl, h18⟩ := pop_some h17
  obtain ⟨rfl, g⟩ := popN_some h18
  cases k with
  | zero => cases (show none = some r from g)
  | succ k => exact ⟨k, Nat.lt_succ_self k, _, evermoreref3_Least.s42, (evermoreref3_Least.e42 k x0 x1 x2 x3 x4 x5 x6 x7 x8 x9 x10 x11 x12 x13 x14 x15 x16 x17 x18).symm.trans g⟩
theorem evermoreref3_Least.e (k : Nat) (x0 : (Int × (Int × ((List (List Int)) × ((List Int) × Unit))))) : evermoreref3_Least.f k x0 = evermoreref3_Least.R k ([.code evermoreref3_Least.body]) (evermoreref3_Least.ti.fill [⟨(.pair (.int .i64) (.pair (.int .i64) (.pair (.slice (.slice (.int .i64))) (.pair (.slice (.int .i64)) .unit)))), x0⟩]) := by kernel_rfl
theorem evermoreref3_Least.h (k : Nat) (ds : List Dat) (r : Int × Int × (List (List Int)) × (List Int)) (h : evermoreref3_Least.g k ds = some r) : ∃ k', k' < k ∧ evermoreref3_Least.R k' ([.code evermoreref3_Least.body]) (evermoreref3_Least.ti.fill ds) = some r := by
  cases k with
  | zero => cases (show none = some r from h)
  | succ k =>
  replace h : evermoreref3_Least.c k ds = some r := h
  unfold evermoreref3_Least.c at h
  obtain ⟨x0, d0, rfl, h0⟩ := pop_some h
  obtain ⟨rfl, g⟩ := popN_some h0
  exact ⟨k, Nat.lt_succ_self k, (evermoreref3_Least.e k x0).symm.trans g⟩
theorem evermoreref3_Least.o (ds : List Dat) (r : Int × Int × (List (List Int)) × (List Int)) (h : evermoreref3_Least.out ds = some r) : ds = evermoreref3_Least.rs r := by
  unfold evermoreref3_Least.out at h
  obtain ⟨x0, d0, rfl, h0⟩ := pop_some h
  obtain ⟨x1, d1, rfl, h1⟩ := pop_some h0
  obtain ⟨x2, d2, rfl, h2⟩ := pop_some h1
  obtain ⟨x3, d3, rfl, h3⟩ := pop_some h2
  obtain ⟨rfl, g⟩ := popN_some h3
  cases g
  rfl
theorem evermoreref3_Least.fn : FnOk Try.prog 48 Try.f48 evermoreref3_Least.body Try.f48.ntmps 1 (fnRes Try.f48) :=
  fnOk_of (by kernel_rfl) (by kernel_rfl) (by kernel_rfl) (by kernel_rfl)
theorem evermoreref3_Least.con' : ∀ k ds r, evermoreref3_Least.g k ds = some r → Con Try.prog 48 1 evermoreref3_Least.ti evermoreref3_Least.to ds (evermoreref3_Least.rs r) :=
  fun_ok (T := T) T_ok mixed evermoreref3_Least.fn (env := evermoreref3_Least.env) (tbl := evermoreref3_Least.tbl) (gOut := evermoreref3_Least.out) (nin := 0) (cuts := [21]) (fuel := 100000) rfl (by kernel_rfl) (by kernel_rfl) (by kernel_rfl) (fun x hx => by
    simp only [evermoreref3_Least.tbl, List.mem_cons, List.not_mem_nil, or_false] at hx
    rcases hx with rfl | rfl | rfl | rfl
    · exact evermoreref3_Least.h9
    · exact evermoreref3_Least.h23
    · exact evermoreref3_Least.h31
    · exact evermoreref3_Least.h42
) evermoreref3_Least.o evermoreref3_Least.h (fun k _ => by unfold evermoreref3_Least.env; exact (envC_ok (fun ds K r h => by
    obtain ⟨x0, d0, rfl, h0⟩ := pop_some h
    obtain ⟨rfl, g⟩ := popN_some h0
    obtain ⟨r1, h1, h2⟩ := bind_some g
    exact ⟨_, h2, evermoreref3_Classes.con k _ h1⟩) env0_ok))
theorem evermoreref3_Least.con (k : Nat) {x0 : (Int × (Int × ((List (List Int)) × ((List Int) × Unit))))} (r : Int × Int × (List (List Int)) × (List Int)) (h : evermoreref3_Least.f k x0 = some r) : Con Try.prog 48 1 evermoreref3_Least.ti evermoreref3_Least.to [⟨(.pair (.int .i64) (.pair (.int .i64) (.pair (.slice (.slice (.int .i64))) (.pair (.slice (.int .i64)) .unit)))), x0⟩] (evermoreref3_Least.rs r) :=
  evermoreref3_Least.con' (k + 1) _ r (by show evermoreref3_Least.c k _ = some r; unfold evermoreref3_Least.c; simp only [pop_self, popN]; exact h)
mutual
def evermoreref3_Made.l3 : Nat → Int → Int → Int → Int → List (Int) → List ((Int × (Int × (Int × Unit)))) → List (Int) → Int → Int → List (List (Int)) → List (Int) → Option (Int × Int × List (List Int) × List Int)
 | 0, _, _, _, _, _, _, _, _, _, _, _ => none
 | k + 1, first3, i4, a1_0, a1_1, a1_2, a1_3, a1_4, x2_0, x2_1, c2, c3 =>
  if i4 < (↑a1_2.length : Int) then
   if 0 ≤ i4 then
   if i4 < (↑a1_2.length : Int) then
    if 0 ≤ Go.Proofs.YtfkilmmldjajmaaSx.rd (Int.ofNat 0) a1_2 i4 then
     evermoreref3_Made.l3 k (Go.IntKind.i64.wrap (↑(BitVec.ofInt Go.IntKind.i64.bits first3 ||| BitVec.ofInt Go.IntKind.i64.bits (Go.IntKind.i64.wrap (1 * 2 ^ min (Go.Proofs.YtfkilmmldjajmaaSx.rd (Int.ofNat 0) a1_2 i4).toNat Go.IntKind.i64.bits))).toNat : Int)) (Go.IntKind.i64.wrap (i4 + 1)) a1_0 a1_1 a1_2 a1_3 a1_4 x2_0 x2_1 c2 c3
     else none
    else none
   else none
  else
   evermoreref3_Made.l8 k first3 0 0 a1_0 a1_1 a1_2 a1_3 a1_4 x2_0 x2_1 c2 c3
def evermoreref3_Made.l8 : Nat → Int → Int → Int → Int → Int → List (Int) → List ((Int × (Int × (Int × Unit)))) → List (Int) → Int → Int → List (List (Int)) → List (Int) → Option (Int × Int × List (List Int) × List Int)
 | 0, _, _, _, _, _, _, _, _, _, _, _, _ => none
 | k + 1, first3, final5, i6, a1_0, a1_1, a1_2, a1_3, a1_4, x2_0, x2_1, c2, c3 =>
  if i6 < (↑a1_4.length : Int) then
   if 0 ≤ i6 then
   if i6 < (↑a1_4.length : Int) then
    if 0 ≤ Go.Proofs.YtfkilmmldjajmaaSx.rd (Int.ofNat 0) a1_4 i6 then
     evermoreref3_Made.l8 k first3 (Go.IntKind.i64.wrap (↑(BitVec.ofInt Go.IntKind.i64.bits final5 ||| BitVec.ofInt Go.IntKind.i64.bits (Go.IntKind.i64.wrap (1 * 2 ^ min (Go.Proofs.YtfkilmmldjajmaaSx.rd (Int.ofNat 0) a1_4 i6).toNat Go.IntKind.i64.bits))).toNat : Int)) (Go.IntKind.i64.wrap (i6 + 1)) a1_0 a1_1 a1_2 a1_3 a1_4 x2_0 x2_1 c2 c3
     else none
    else none
   else none
  else
   if 0 ≤ 256 then
   if 256 ≤ 256 then
    if 256 * ((↑8 : Int) + 1) ≤ 281474976710656 then
     evermoreref3_Made.l13 k first3 final5 0 a1_0 a1_1 a1_2 a1_3 a1_4 x2_0 x2_1 (List.replicate (Int.toNat 256) (Int.ofNat 0)) c2 c3
     else none
    else none
   else none
def evermoreref3_Made.l13 : Nat → Int → Int → Int → Int → Int → List (Int) → List ((Int × (Int × (Int × Unit)))) → List (Int) → Int → Int → List (Int) → List (List (Int)) → List (Int) → Option (Int × Int × List (List Int) × List Int)
 | 0, _, _, _, _, _, _, _, _, _, _, _, _, _ => none
 | k + 1, first3, final5, i8, a1_0, a1_1, a1_2, a1_3, a1_4, x2_0, x2_1, number7, c3, c4 =>
  if i8 < (↑number7.length : Int) then
   if 0 ≤ i8 then
   if i8 < (↑number7.length : Int) then
    evermoreref3_Made.l13 k first3 final5 (Go.IntKind.i64.wrap (i8 + 1)) a1_0 a1_1 a1_2 a1_3 a1_4 x2_0 x2_1 (number7.set i8.toNat (Int.instNegInt.1 1)) c3 c4
    else none
   else none
  else
   if 0 ≤ first3 then
   if first3 < (↑number7.length : Int) then
    evermoreref3_Made.l20 k final5 0 a1_0 a1_1 a1_2 a1_3 a1_4 x2_0 x2_1 (number7.set first3.toNat (Int.ofNat 0)) [first3] a1_0 0 c3 c4 [] []
    else none
   else none
def evermoreref3_Made.l20 : Nat → Int → Int → Int → Int → List (Int) → List ((Int × (Int × (Int × Unit)))) → List (Int) → Int → Int → List (Int) → List (Int) → Int → Int → List (List (Int)) → List (Int) → List (List (Int)) → List (Int) → Option (Int × Int × List (List Int) × List Int)
 | 0, _, _, _, _, _, _, _, _, _, _, _, _, _, _, _, _, _ => none
 | k + 1, final5, i11, a1_0, a1_1, a1_2, a1_3, a1_4, x2_0, x2_1, number7, row9, out10_0, out10_1, c5, c6, c7, c8 =>
  if i11 < (↑row9.length : Int) then
   evermoreref3_Made.l24 k final5 i11 0 a1_0 a1_1 a1_2 a1_3 a1_4 x2_0 x2_1 number7 row9 out10_0 out10_1 [] c5 c6 c7 c8
  else
   (evermoreref3_Least.f k (out10_0, out10_1, c7, c8, ())).bind fun r3 =>
    some (r3.fst, r3.snd.fst, r3.snd.snd.fst, r3.snd.snd.snd)
def evermoreref3_Made.l24 : Nat → Int → Int → Int → Int → Int → List (Int) → List ((Int × (Int × (Int × Unit)))) → List (Int) → Int → Int → List (Int) → List (Int) → Int → Int → List (Int) → List (List (Int)) → List (Int) → List (List (Int)) → List (Int) → Option (Int × Int × List (List Int) × List Int)
 | 0, _, _, _, _, _, _, _, _, _, _, _, _, _, _, _, _, _, _, _ => none
 | k + 1, final5, i11, k13, a1_0, a1_1, a1_2, a1_3, a1_4, x2_0, x2_1, number7, row9, out10_0, out10_1, next12, c6, c7, c8, c9 =>
  if k13 < a1_0 then
   evermoreref3_Made.l28 k final5 i11 k13 0 0 a1_0 a1_1 a1_2 a1_3 a1_4 x2_0 x2_1 number7 row9 out10_0 out10_1 next12 c6 c7 c8 c9
  else
   if (c8 ++ [next12]).length.blt 1000000000 = true then
   if 0 ≤ i11 then
    if i11 < (↑row9.length : Int) then
     if Go.IntKind.i64.wrap (↑(BitVec.ofInt Go.IntKind.i64.bits (row9.getD i11.toNat (Int.ofNat 0)) &&& BitVec.ofInt Go.IntKind.i64.bits final5).toNat : Int) = 0 then
       evermoreref3_Made.j41 k final5 i11 0 a1_0 a1_1 a1_2 a1_3 a1_4 x2_0 x2_1 number7 row9 out10_0 out10_1 c6 c7 (c8 ++ [next12]) c9
      else
       evermoreref3_Made.j41 k final5 i11 1 a1_0 a1_1 a1_2 a1_3 a1_4 x2_0 x2_1 number7 row9 out10_0 out10_1 c6 c7 (c8 ++ [next12]) c9
     else none
    else none
   else none
def evermoreref3_Made.l28 : Nat → Int → Int → Int → Int → Int → Int → Int → List (Int) → List ((Int × (Int × (Int × Unit)))) → List (Int) → Int → Int → List (Int) → List (Int) → Int → Int → List (Int) → List (List (Int)) → List (Int) → List (List (Int)) → List (Int) → Option (Int × Int × List (List Int) × List Int)
 | 0, _, _, _, _, _, _, _, _, _, _, _, _, _, _, _, _, _, _, _, _, _ => none
 | k + 1, final5, i11, k13, s14, j15, a1_0, a1_1, a1_2, a1_3, a1_4, x2_0, x2_1, number7, row9, out10_0, out10_1, next12, c6, c7, c8, c9 =>
  if j15 < (↑a1_3.length : Int) then
   if 0 ≤ j15 then
   if j15 < (↑a1_3.length : Int) then
    if (Go.Proofs.YtfkilmmldjajmaaSx.rd (Int.ofNat 0, Int.ofNat 0, Int.ofNat 0, ()) a1_3 j15).snd.fst = k13 then
      if 0 ≤ i11 then
      if i11 < (↑row9.length : Int) then
       if 0 ≤ (Go.Proofs.YtfkilmmldjajmaaSx.rd (Int.ofNat 0, Int.ofNat 0, Int.ofNat 0, ()) a1_3 j15).fst then
        if Go.IntKind.i64.wrap (↑(BitVec.ofInt Go.IntKind.i64.bits ((row9.getD i11.toNat (Int.ofNat 0)).fdiv (2 ^ min (Go.Proofs.YtfkilmmldjajmaaSx.rd (Int.ofNat 0, Int.ofNat 0, Int.ofNat 0, ()) a1_3 j15).fst.toNat Go.IntKind.i64.bits)) &&& BitVec.ofInt Go.IntKind.i64.bits 1).toNat : Int) = 1 then
          if 0 ≤ (Go.Proofs.YtfkilmmldjajmaaSx.rd (Int.ofNat 0, Int.ofNat 0, Int.ofNat 0, ()) a1_3 j15).snd.snd.fst then
          evermoreref3_Made.j29 k final5 i11 k13 (Go.IntKind.i64.wrap (↑(BitVec.ofInt Go.IntKind.i64.bits s14 ||| BitVec.ofInt Go.IntKind.i64.bits (Go.IntKind.i64.wrap (1 * 2 ^ min (Go.Proofs.YtfkilmmldjajmaaSx.rd (Int.ofNat 0, Int.ofNat 0, Int.ofNat 0, ()) a1_3 j15).snd.snd.fst.toNat Go.IntKind.i64.bits))).toNat : Int)) j15 a1_0 a1_1 a1_2 a1_3 a1_4 x2_0 x2_1 number7 row9 out10_0 out10_1 next12 c6 c7 c8 c9
          else none
         else
          evermoreref3_Made.j29 k final5 i11 k13 s14 j15 a1_0 a1_1 a1_2 a1_3 a1_4 x2_0 x2_1 number7 row9 out10_0 out10_1 next12 c6 c7 c8 c9
        else none
       else none
      else none
     else
      evermoreref3_Made.j29 k final5 i11 k13 s14 j15 a1_0 a1_1 a1_2 a1_3 a1_4 x2_0 x2_1 number7 row9 out10_0 out10_1 next12 c6 c7 c8 c9
    else none
   else none
  else
   if 0 ≤ s14 then
   if s14 < (↑number7.length : Int) then
    if number7.getD s14.toNat (Int.ofNat 0) < 0 then
      if 0 ≤ s14 then
      if s14 < (↑number7.length : Int) then
       if (row9 ++ [s14]).length.blt 1000000000 = true then
        evermoreref3_Made.j36 k final5 i11 k13 s14 a1_0 a1_1 a1_2 a1_3 a1_4 x2_0 x2_1 (number7.set s14.toNat (↑row9.length : Int)) (row9 ++ [s14]) out10_0 out10_1 next12 c6 c7 c8 c9
        else none
       else none
      else none
     else
      evermoreref3_Made.j36 k final5 i11 k13 s14 a1_0 a1_1 a1_2 a1_3 a1_4 x2_0 x2_1 number7 row9 out10_0 out10_1 next12 c6 c7 c8 c9
    else none
   else none
def evermoreref3_Made.j41 : Nat → Int → Int → Int → Int → Int → List (Int) → List ((Int × (Int × (Int × Unit)))) → List (Int) → Int → Int → List (Int) → List (Int) → Int → Int → List (List (Int)) → List (Int) → List (List (Int)) → List (Int) → Option (Int × Int × List (List Int) × List Int)
 | 0, _, _, _, _, _, _, _, _, _, _, _, _, _, _, _, _, _, _ => none
 | k + 1, final5, i11, mark17, a1_0, a1_1, a1_2, a1_3, a1_4, x2_0, x2_1, number7, row9, out10_0, out10_1, c5, c6, c7, c8 =>
  if (c8 ++ [mark17]).length.blt 1000000000 = true then
  evermoreref3_Made.l20 k final5 (Go.IntKind.i64.wrap (i11 + 1)) a1_0 a1_1 a1_2 a1_3 a1_4 x2_0 x2_1 number7 row9 out10_0 out10_1 c5 c6 c7 (c8 ++ [mark17])
  else none
def evermoreref3_Made.j29 : Nat → Int → Int → Int → Int → Int → Int → Int → List (Int) → List ((Int × (Int × (Int × Unit)))) → List (Int) → Int → Int → List (Int) → List (Int) → Int → Int → List (Int) → List (List (Int)) → List (Int) → List (List (Int)) → List (Int) → Option (Int × Int × List (List Int) × List Int)
 | 0, _, _, _, _, _, _, _, _, _, _, _, _, _, _, _, _, _, _, _, _, _ => none
 | k + 1, final5, i11, k13, s14, j15, a1_0, a1_1, a1_2, a1_3, a1_4, x2_0, x2_1, number7, row9, out10_0, out10_1, next12, c6, c7, c8, c9 =>
  evermoreref3_Made.l28 k final5 i11 k13 s14 (Go.IntKind.i64.wrap (j15 + 1)) a1_0 a1_1 a1_2 a1_3 a1_4 x2_0 x2_1 number7 row9 out10_0 out10_1 next12 c6 c7 c8 c9
def evermoreref3_Made.j36 : Nat → Int → Int → Int → Int → Int → Int → List (Int) → List ((Int × (Int × (Int × Unit)))) → List (Int) → Int → Int → List (Int) → List (Int) → Int → Int → List (Int) → List (List (Int)) → List (Int) → List (List (Int)) → List (Int) → Option (Int × Int × List (List Int) × List Int)
 | 0, _, _, _, _, _, _, _, _, _, _, _, _, _, _, _, _, _, _, _, _ => none
 | k + 1, final5, i11, k13, s14, a1_0, a1_1, a1_2, a1_3, a1_4, x2_0, x2_1, number7, row9, out10_0, out10_1, next12, c6, c7, c8, c9 =>
  if 0 ≤ s14 then
  if s14 < (↑number7.length : Int) then
   if (next12 ++ [number7.getD s14.toNat (Int.ofNat 0)]).length.blt 1000000000 = true then
    evermoreref3_Made.l24 k final5 i11 (Go.IntKind.i64.wrap (k13 + 1)) a1_0 a1_1 a1_2 a1_3 a1_4 x2_0 x2_1 number7 row9 out10_0 out10_1 (next12 ++ [number7.getD s14.toNat (Int.ofNat 0)]) c6 c7 c8 c9
    else none
   else none
  else none
end
def evermoreref3_Made.f (k : Nat) (a0 : (Int × (Int × (List (Int) × (List ((Int × (Int × (Int × Unit)))) × (List (Int) × Unit)))))) : Option (Int × Int × List (List Int) × List Int) :=
 evermoreref3_Made.l3 k 0 0 a0.fst a0.snd.fst a0.snd.snd.fst a0.snd.snd.snd.fst a0.snd.snd.snd.snd.fst 0 0 [] []

noncomputable def evermoreref3_Made.body : Code := fnBody Try.f70
def evermoreref3_Made.ti : Tm := ⟨[(0, .p (.pair (.int .i64) (.pair (.int .i64) (.pair (.slice (.int .i64)) (.pair (.slice (.pair (.int .i64) (.pair (.int .i64) (.pair (.int .i64) .unit)))) (.pair (.slice (.int .i64)) .unit))))))], []⟩
def evermoreref3_Made.to : Tm := ⟨[(0, .agg [.p (.int .i64), .p (.int .i64), .own 0, .own 1])], [.own (.slice (.int .i64)), .own (.int .i64)]⟩
def evermoreref3_Made.rs (r : Int × Int × (List (List Int)) × (List Int)) : List Dat := [⟨(.int .i64), r.1⟩, ⟨(.int .i64), r.2.1⟩, ⟨(.slice (.slice (.int .i64))), r.2.2.1⟩, ⟨(.slice (.int .i64)), r.2.2.2⟩]
def evermoreref3_Made.out (ds : List Dat) : Option (Int × Int × (List (List Int)) × (List Int)) := pop (.int .i64) ds fun x0 ds => pop (.int .i64) ds fun x1 ds => pop (.slice (.slice (.int .i64))) ds fun x2 ds => pop (.slice (.int .i64)) ds fun x3 ds => popN ds (some (x0, x1, x2, x3))
def evermoreref3_Made.c (k : Nat) (ds : List Dat) : Option (Int × Int × (List (List Int)) × (List Int)) := pop (.pair (.int .i64) (.pair (.int .i64) (.pair (.slice (.int .i64)) (.pair (.slice (.pair (.int .i64) (.pair (.int .i64) (.pair (.int .i64) .unit)))) (.pair (.slice (.int .i64)) .unit))))) ds fun x0 ds => popN ds (evermoreref3_Made.f k x0)
def evermoreref3_Made.g : Nat → List Dat → Option (Int × Int × (List (List Int)) × (List Int))
 | 0, _ => none
 | k + 1, ds => evermoreref3_Made.c k ds
def evermoreref3_Made.env (k : Nat) : Nat → List SV → List Chunk → KT (Int × Int × (List (List Int)) × (List Int)) → Option (Int × Int × (List (List Int)) × (List Int)) := (envC 48 1 evermoreref3_Least.ti evermoreref3_Least.to (fun ds K => pop (.pair (.int .i64) (.pair (.int .i64) (.pair (.slice (.slice (.int .i64))) (.pair (.slice (.int .i64)) .unit)))) ds fun x0 ds => popN ds ((evermoreref3_Least.f k x0).bind fun r => K (evermoreref3_Least.rs r))) env0)
def evermoreref3_Made.t7 : Tm := ⟨[(1, .ptr 0 0), (2, .ptr 1 0), (3, .p (.int .i64)), (4, .p (.int .i64))], [.box [.p (.int .i64), .p (.int .i64), .p (.slice (.int .i64)), .p (.slice (.pair (.int .i64) (.pair (.int .i64) (.pair (.int .i64) .unit)))), .p (.slice (.int .i64))] 78, .box [.p (.int .i64), .p (.int .i64), .own 2, .own 3] 60, .own (.slice (.int .i64)), .own (.int .i64)]⟩
def evermoreref3_Made.c7 (k : Nat) (ds : List Dat) : Option (Int × Int × (List (List Int)) × (List Int)) := pop (.int .i64) ds fun x0 ds => pop (.int .i64) ds fun x1 ds => pop (.int .i64) ds fun x2 ds => pop (.int .i64) ds fun x3 ds => pop (.slice (.int .i64)) ds fun x4 ds => pop (.slice (.pair (.int .i64) (.pair (.int .i64) (.pair (.int .i64) .unit)))) ds fun x5 ds => pop (.slice (.int .i64)) ds fun x6 ds => pop (.int .i64) ds fun x7 ds => pop (.int .i64) ds fun x8 ds => pop (.slice (.slice (.int .i64))) ds fun x9 ds => pop (.slice (.int .i64)) ds fun x10 ds => popN ds (evermoreref3_Made.l3 k x0 x1 x2 x3 x4 x5 x6 x7 x8 x9 x10)
def evermoreref3_Made.t17 : Tm := ⟨[(1, .ptr 0 0), (2, .ptr 1 0), (3, .p (.int .i64)), (5, .p (.int .i64)), (6, .p (.int .i64))], [.box [.p (.int .i64), .p (.int .i64), .p (.slice (.int .i64)), .p (.slice (.pair (.int .i64) (.pair (.int .i64) (.pair (.int .i64) .unit)))), .p (.slice (.int .i64))] 78, .box [.p (.int .i64), .p (.int .i64), .own 2, .own 3] 60, .own (.slice (.int .i64)), .own (.int .i64)]⟩
def evermoreref3_Made.c17 (k : Nat) (ds : List Dat) : Option (Int × Int × (List (List Int)) × (List Int)) := pop (.int .i64) ds fun x0 ds => pop (.int .i64) ds fun x1 ds => pop (.int .i64) ds fun x2 ds => pop (.int .i64) ds fun x3 ds => pop (.int .i64) ds fun x4 ds => pop (.slice (.int .i64)) ds fun x5 ds => pop (.slice (.pair (.int .i64) (.pair (.int .i64) (.pair (.int .i64) .unit)))) ds fun x6 ds => pop (.slice (.int .i64)) ds fun x7 ds => pop (.int .i64) ds fun x8 ds => pop (.int .i64) ds fun x9 ds => pop (.slice (.slice (.int .i64))) ds fun x10 ds => pop (.slice (.int .i64)) ds fun x11 ds => popN ds (evermoreref3_Made.l8 k x0 x1 x2 x3 x4 x5 x6 x7 x8 x9 x10 x11)
def evermoreref3_Made.t27 : Tm := ⟨[(1, .ptr 0 0), (2, .ptr 1 0), (3, .p (.int .i64)), (5, .p (.int .i64)), (7, .own 2), (8, .p (.int .i64))], [.box [.p (.int .i64), .p (.int .i64), .p (.slice (.int .i64)), .p (.slice (.pair (.int .i64) (.pair (.int .i64) (.pair (.int .i64) .unit)))), .p (.slice (.int .i64))] 78, .box [.p (.int .i64), .p (.int .i64), .own 3, .own 4] 60, .own (.int .i64), .own (.slice (.int .i64)), .own (.int .i64)]⟩
def evermoreref3_Made.c27 (k : Nat) (ds : List Dat) : Option (Int × Int × (List (List Int)) × (List Int)) := pop (.int .i64) ds fun x0 ds => pop (.int .i64) ds fun x1 ds => pop (.int .i64) ds fun x2 ds => pop (.int .i64) ds fun x3 ds => pop (.int .i64) ds fun x4 ds => pop (.slice (.int .i64)) ds fun x5 ds => pop (.slice (.pair (.int .i64) (.pair (.int .i64) (.pair (.int .i64) .unit)))) ds fun x6 ds => pop (.slice (.int .i64)) ds fun x7 ds => pop (.int .i64) ds fun x8 ds => pop (.int .i64) ds fun x9 ds => pop (.slice (.int .i64)) ds fun x10 ds => pop (.slice (.slice (.int .i64))) ds fun x11 ds => pop (.slice (.int .i64)) ds fun x12 ds => popN ds (evermoreref3_Made.l13 k x0 x1 x2 x3 x4 x5 x6 x7 x8 x9 x10 x11 x12)
def evermoreref3_Made.t41 : Tm := ⟨[(1, .ptr 0 0), (2, .ptr 1 0), (5, .p (.int .i64)), (7, .own 2), (9, .own 3), (10, .ptr 4 0), (11, .p (.int .i64))], [.box [.p (.int .i64), .p (.int .i64), .p (.slice (.int .i64)), .p (.slice (.pair (.int .i64) (.pair (.int .i64) (.pair (.int .i64) .unit)))), .p (.slice (.int .i64))] 78, .box [.p (.int .i64), .p (.int .i64), .own 5, .own 6] 60, .own (.int .i64), .own (.int .i64), .box [.p (.int .i64), .p (.int .i64), .own 7, .own 8] 60, .own (.slice (.int .i64)), .own (.int .i64), .own (.slice (.int .i64)), .own (.int .i64)]⟩
def evermoreref3_Made.c41 (k : Nat) (ds : List Dat) : Option (Int × Int × (List (List Int)) × (List Int)) := pop (.int .i64) ds fun x0 ds => pop (.int .i64) ds fun x1 ds => pop (.int .i64) ds fun x2 ds => pop (.int .i64) ds fun x3 ds => pop (.slice (.int .i64)) ds fun x4 ds => pop (.slice (.pair (.int .i64) (.pair (.int .i64) (.pair (.int .i64) .unit)))) ds fun x5 ds => pop (.slice (.int .i64)) ds fun x6 ds => pop (.int .i64) ds fun x7 ds => pop (.int .i64) ds fun x8 ds => pop (.slice (.int .i64)) ds fun x9 ds => pop (.slice (.int .i64)) ds fun x10 ds => pop (.int .i64) ds fun x11 ds => pop (.int .i64) ds fun x12 ds => pop (.slice (.slice (.int .i64))) ds fun x13 ds => pop (.slice (.int .i64)) ds fun x14 ds => pop (.slice (.slice (.int .i64))) ds fun x15 ds => pop (.slice (.int .i64)) ds fun x16 ds => popN ds (evermoreref3_Made.l20 k x0 x1 x2 x3 x4 x5 x6 x7 x8 x9 x10 x11 x12 x13 x14 x15 x16)
def evermoreref3_Made.t49 : Tm := ⟨[(1, .ptr 0 0), (2, .ptr 1 0), (5, .p (.int .i64)), (7, .own 2), (9, .own 3), (10, .ptr 4 0), (11, .p (.int .i64)), (12, .own 5), (13, .p (.int .i64))], [.box [.p (.int .i64), .p (.int .i64), .p (.slice (.int .i64)), .p (.slice (.pair (.int .i64) (.pair (.int .i64) (.pair (.int .i64) .unit)))), .p (.slice (.int .i64))] 78, .box [.p (.int .i64), .p (.int .i64), .own 6, .own 7] 60, .own (.int .i64), .own (.int .i64), .box [.p (.int .i64), .p (.int .i64), .own 8, .own 9] 60, .own (.int .i64), .own (.slice (.int .i64)), .own (.int .i64), .own (.slice (.int .i64)), .own (.int .i64)]⟩
def evermoreref3_Made.c49 (k : Nat) (ds : List Dat) : Option (Int × Int × (List (List Int)) × (List Int)) := pop (.int .i64) ds fun x0 ds => pop (.int .i64) ds fun x1 ds => pop (.int .i64) ds fun x2 ds => pop (.int .i64) ds fun x3 ds => pop (.int .i64) ds fun x4 ds => pop (.slice (.int .i64)) ds fun x5 ds => pop (.slice (.pair (.int .i64) (.pair (.int .i64) (.pair (.int .i64) .unit)))) ds fun x6 ds => pop (.slice (.int .i64)) ds fun x7 ds => pop (.int .i64) ds fun x8 ds => pop (.int .i64) ds fun x9 ds => pop (.slice (.int .i64)) ds fun x10 ds => pop (.slice (.int .i64)) ds fun x11 ds => pop (.int .i64) ds fun x12 ds => pop (.int .i64) ds fun x13 ds => pop (.slice (.int .i64)) ds fun x14 ds => pop (.slice (.slice (.int .i64))) ds fun x15 ds => pop (.slice (.int .i64)) ds fun x16 ds => pop (.slice (.slice (.int .i64))) ds fun x17 ds => pop (.slice (.int .i64)) ds fun x18 ds => popN ds (evermoreref3_Made.l24 k x0 x1 x2 x3 x4 x5 x6 x7 x8 x9 x10 x11 x12 x13 x14 x15 x16 x17 x18)
def evermoreref3_Made.t57 : Tm := ⟨[(1, .ptr 0 0), (2, .ptr 1 0), (5, .p (.int .i64)), (7, .own 2), (9, .own 3), (10, .ptr 4 0), (11, .p (.int .i64)), (12, .own 5), (13, .p (.int .i64)), (14, .p (.int .i64)), (15, .p (.int .i64))], [.box [.p (.int .i64), .p (.int .i64), .p (.slice (.int .i64)), .p (.slice (.pair (.int .i64) (.pair (.int .i64) (.pair (.int .i64) .unit)))), .p (.slice (.int .i64))] 78, .box [.p (.int .i64), .p (.int .i64), .own 6, .own 7] 60, .own (.int .i64), .own (.int .i64), .box [.p (.int .i64), .p (.int .i64), .own 8, .own 9] 60, .own (.int .i64), .own (.slice (.int .i64)), .own (.int .i64), .own (.slice (.int .i64)), .own (.int .i64)]⟩
def evermoreref3_Made.c57 (k : Nat) (ds : List Dat) : Option (Int × Int × (List (List Int)) × (List Int)) := pop (.int .i64) ds fun x0 ds => pop (.int .i64) ds fun x1 ds => pop (.int .i64) ds fun x2 ds => pop (.int .i64) ds fun x3 ds => pop (.int .i64) ds fun x4 ds => pop (.int .i64) ds fun x5 ds => pop (.int .i64) ds fun x6 ds => pop (.slice (.int .i64)) ds fun x7 ds => pop (.slice (.pair (.int .i64) (.pair (.int .i64) (.pair (.int .i64) .unit)))) ds fun x8 ds => pop (.slice (.int .i64)) ds fun x9 ds => pop (.int .i64) ds fun x10 ds => pop (.int .i64) ds fun x11 ds => pop (.slice (.int .i64)) ds fun x12 ds => pop (.slice (.int .i64)) ds fun x13 ds => pop (.int .i64) ds fun x14 ds => pop (.int .i64) ds fun x15 ds => pop (.slice (.int .i64)) ds fun x16 ds => pop (.slice (.slice (.int .i64))) ds fun x17 ds => pop (.slice (.int .i64)) ds fun x18 ds => pop (.slice (.slice (.int .i64))) ds fun x19 ds => pop (.slice (.int .i64)) ds fun x20 ds => popN ds (evermoreref3_Made.l28 k x0 x1 x2 x3 x4 x5 x6 x7 x8 x9 x10 x11 x12 x13 x14 x15 x16 x17 x18 x19 x20)
def evermoreref3_Made.t82 : Tm := ⟨[(1, .ptr 0 0), (2, .ptr 1 0), (5, .p (.int .i64)), (7, .own 2), (9, .own 3), (10, .ptr 4 0), (11, .p (.int .i64)), (17, .p (.int .i64))], [.box [.p (.int .i64), .p (.int .i64), .p (.slice (.int .i64)), .p (.slice (.pair (.int .i64) (.pair (.int .i64) (.pair (.int .i64) .unit)))), .p (.slice (.int .i64))] 78, .box [.p (.int .i64), .p (.int .i64), .own 5, .own 6] 60, .own (.int .i64), .own (.int .i64), .box [.p (.int .i64), .p (.int .i64), .own 7, .own 8] 60, .own (.slice (.int .i64)), .own (.int .i64), .own (.slice (.int .i64)), .own (.int .i64)]⟩
def evermoreref3_Made.c82 (k : Nat) (ds : List Dat) : Option (Int × Int × (List (List Int)) × (List Int)) := pop (.int .i64) ds fun x0 ds => pop (.int .i64) ds fun x1 ds => pop (.int .i64) ds fun x2 ds => pop (.int .i64) ds fun x3 ds => pop (.int .i64) ds fun x4 ds => pop (.slice (.int .i64)) ds fun x5 ds => pop (.slice (.pair (.int .i64) (.pair (.int .i64) (.pair (.int .i64) .unit)))) ds fun x6 ds => pop (.slice (.int .i64)) ds fun x7 ds => pop (.int .i64) ds fun x8 ds => pop (.int .i64) ds fun x9 ds => pop (.slice (.int .i64)) ds fun x10 ds => pop (.slice (.int .i64)) ds fun x11 ds => pop (.int .i64) ds fun x12 ds => pop (.int .i64) ds fun x13 ds => pop (.slice (.slice (.int .i64))) ds fun x14 ds => pop (.slice (.int .i64)) ds fun x15 ds => pop (.slice (.slice (.int .i64))) ds fun x16 ds => pop (.slice (.int .i64)) ds fun x17 ds => popN ds (evermoreref3_Made.j41 k x0 x1 x2 x3 x4 x5 x6 x7 x8 x9 x10 x11 x12 x13 x14 x15 x16 x17)
def evermoreref3_Made.t58 : Tm := ⟨[(1, .ptr 0 0), (2, .ptr 1 0), (5, .p (.int .i64)), (7, .own 2), (9, .own 3), (10, .ptr 4 0), (11, .p (.int .i64)), (12, .own 5), (13, .p (.int .i64)), (14, .p (.int .i64)), (15, .p (.int .i64))], [.box [.p (.int .i64), .p (.int .i64), .p (.slice (.int .i64)), .p (.slice (.pair (.int .i64) (.pair (.int .i64) (.pair (.int .i64) .unit)))), .p (.slice (.int .i64))] 78, .box [.p (.int .i64), .p (.int .i64), .own 6, .own 7] 60, .own (.int .i64), .own (.int .i64), .box [.p (.int .i64), .p (.int .i64), .own 8, .own 9] 60, .own (.int .i64), .own (.slice (.int .i64)), .own (.int .i64), .own (.slice (.int .i64)), .own (.int .i64)]⟩
def evermoreref3_Made.c58 (k : Nat) (ds : List Dat) : Option (Int × Int × (List (List Int)) × (List Int)) := pop (.int .i64) ds fun x0 ds => pop (.int .i64) ds fun x1 ds => pop (.int .i64) ds fun x2 ds => pop (.int .i64) ds fun x3 ds => pop (.int .i64) ds fun x4 ds => pop (.int .i64) ds fun x5 ds => pop (.int .i64) ds fun x6 ds => pop (.slice (.int .i64)) ds fun x7 ds => pop (.slice (.pair (.int .i64) (.pair (.int .i64) (.pair (.int .i64) .unit)))) ds fun x8 ds => pop (.slice (.int .i64)) ds fun x9 ds => pop (.int .i64) ds fun x10 ds => pop (.int .i64) ds fun x11 ds => pop (.slice (.int .i64)) ds fun x12 ds => pop (.slice (.int .i64)) ds fun x13 ds => pop (.int .i64) ds fun x14 ds => pop (.int .i64) ds fun x15 ds => pop (.slice (.int .i64)) ds fun x16 ds => pop (.slice (.slice (.int .i64))) ds fun x17 ds => pop (.slice (.int .i64)) ds fun x18 ds => pop (.slice (.slice (.int .i64))) ds fun x19 ds => pop (.slice (.int .i64)) ds fun x20 ds => popN ds (evermoreref3_Made.j29 k x0 x1 x2 x3 x4 x5 x6 x7 x8 x9 x10 x11 x12 x13 x14 x15 x16 x17 x18 x19 x20)
def evermoreref3_Made.t72 : Tm := ⟨[(1, .ptr 0 0), (2, .ptr 1 0), (5, .p (.int .i64)), (7, .own 2), (9, .own 3), (10, .ptr 4 0), (11, .p (.int .i64)), (12, .own 5), (13, .p (.int .i64)), (14, .p (.int .i64))], [.box [.p (.int .i64), .p (.int .i64), .p (.slice (.int .i64)), .p (.slice (.pair (.int .i64) (.pair (.int .i64) (.pair (.int .i64) .unit)))), .p (.slice (.int .i64))] 78, .box [.p (.int .i64), .p (.int .i64), .own 6, .own 7] 60, .own (.int .i64), .own (.int .i64), .box [.p (.int .i64), .p (.int .i64), .own 8, .own 9] 60, .own (.int .i64), .own (.slice (.int .i64)), .own (.int .i64), .own (.slice (.int .i64)), .own (.int .i64)]⟩
def evermoreref3_Made.c72 (k : Nat) (ds : List Dat) : Option (Int × Int × (List (List Int)) × (List Int)) := pop (.int .i64) ds fun x0 ds => pop (.int .i64) ds fun x1 ds => pop (.int .i64) ds fun x2 ds => pop (.int .i64) ds fun x3 ds => pop (.int .i64) ds fun x4 ds => pop (.int .i64) ds fun x5 ds => pop (.slice (.int .i64)) ds fun x6 ds => pop (.slice (.pair (.int .i64) (.pair (.int .i64) (.pair (.int .i64) .unit)))) ds fun x7 ds => pop (.slice (.int .i64)) ds fun x8 ds => pop (.int .i64) ds fun x9 ds => pop (.int .i64) ds fun x10 ds => pop (.slice (.int .i64)) ds fun x11 ds => pop (.slice (.int .i64)) ds fun x12 ds => pop (.int .i64) ds fun x13 ds => pop (.int .i64) ds fun x14 ds => pop (.slice (.int .i64)) ds fun x15 ds => pop (.slice (.slice (.int .i64))) ds fun x16 ds => pop (.slice (.int .i64)) ds fun x17 ds => pop (.slice (.slice (.int .i64))) ds fun x18 ds => pop (.slice (.int .i64)) ds fun x19 ds => popN ds (evermoreref3_Made.j36 k x0 x1 x2 x3 x4 x5 x6 x7 x8 x9 x10 x11 x12 x13 x14 x15 x16 x17 x18 x19)
def evermoreref3_Made.tbl : List (Nat × Tm × (Nat → List Dat → Option (Int × Int × (List (List Int)) × (List Int)))) := [(7, evermoreref3_Made.t7, evermoreref3_Made.c7), (17, evermoreref3_Made.t17, evermoreref3_Made.c17), (27, evermoreref3_Made.t27, evermoreref3_Made.c27), (41, evermoreref3_Made.t41, evermoreref3_Made.c41), (49, evermoreref3_Made.t49, evermoreref3_Made.c49), (57, evermoreref3_Made.t57, evermoreref3_Made.c57), (82, evermoreref3_Made.t82, evermoreref3_Made.c82), (58, evermoreref3_Made.t58, evermoreref3_Made.c58), (72, evermoreref3_Made.t72, evermoreref3_Made.c72)]
noncomputable abbrev evermoreref3_Made.R (k : Nat) := run T (evermoreref3_Made.env k) Try.f70.ntmps (cutE 0 evermoreref3_Made.tbl k) (finE 0 evermoreref3_Made.to evermoreref3_Made.out) (fnRes Try.f70) [41, 36, 29] 100000 true
theorem evermoreref3_Made.e7 (k : Nat) (x0 : Int) (x1 : Int) (x2 : Int) (x3 : Int) (x4 : (List Int)) (x5 : (List (Int × (Int × (Int × Unit))))) (x6 : (List Int)) (x7 : Int) (x8 : Int) (x9 : (List (List Int))) (x10 : (List Int)) : evermoreref3_Made.l3 (k + 1) x0 x1 x2 x3 x4 x5 x6 x7 x8 x9 x10 = evermoreref3_Made.R k (start (stackOf 7 evermoreref3_Made.body)) (evermoreref3_Made.t7.fill [⟨(.int .i64), x0⟩, ⟨(.int .i64), x1⟩, ⟨(.int .i64), x2⟩, ⟨(.int .i64), x3⟩, ⟨(.slice (.int .i64)), x4⟩, ⟨(.slice (.pair (.int .i64) (.pair (.int .i64) (.pair (.int .i64) .unit)))), x5⟩, ⟨(.slice (.int .i64)), x6⟩, ⟨(.int .i64), x7⟩, ⟨(.int .i64), x8⟩, ⟨(.slice (.slice (.int .i64))), x9⟩, ⟨(.slice (.int .i64)), x10⟩]) := by kernel_rfl
theorem evermoreref3_Made.s7 : stackAt 7 evermoreref3_Made.body [] = some (stackOf 7 evermoreref3_Made.body) := by kernel_rfl
theorem evermoreref3_Made.h7 (k : Nat) (ds : List Dat) (r : Int × Int × (List (List Int)) × (List Int)) (h : evermoreref3_Made.c7 k ds = some r) : ∃ k', k' < k ∧ ∃ s, stackAt 7 evermoreref3_Made.body [] = some s ∧ evermoreref3_Made.R k' (start s) (evermoreref3_Made.t7.fill ds) = some r := by
  unfold evermoreref3_Made.c7 at h
  obtain ⟨x0, d0, rfl, h0⟩ := pop_some h
  obtain ⟨x1, d1, rfl, h1⟩ := pop_some h0
  obtain ⟨x2, d2, rfl, h2⟩ := pop_some h1
  obtain ⟨x3, d3, rfl, h3⟩ := pop_some h2
  obtain ⟨x4, d4, rfl, h4⟩ := pop_some h3
  obtain ⟨x5, d5, rfl, h5⟩ := pop_some h4
  obtain ⟨x6, d6, rfl, h6⟩ := pop_some h5
  obtain ⟨x7, d7, rfl, h7⟩ := pop_some h6
  obtain ⟨x8, d8, rfl, h8⟩ := pop_some h7
  obtain ⟨x9, d9, rfl, h9⟩ := pop_some h8
  obtain ⟨x10, d10, rfl, h10⟩ := pop_some h9
  obtain ⟨rfl, g⟩ := popN_some h10
  cases k with
  | zero => cases (show none = some r from g)
  | succ k => exact ⟨k, Nat.lt_succ_self k, _, evermoreref3_Made.s7, (evermoreref3_Made.e7 k x0 x1 x2 x3 x4 x5 x6 x7 x8 x9 x10).symm.trans g⟩
theorem evermoreref3_Made.e17 (k : Nat) (x0 : Int) (x1 : Int) (x2 : Int) (x3 : Int) (x4 : Int) (x5 : (List Int)) (x6 : (List (Int × (Int × (Int × Unit))))) (x7 : (List Int)) (x8 : Int) (x9 : Int) (x10 : (List (List Int))) (x11 : (List Int)) : evermoreref3_Made.l8 (k + 1) x0 x1 x2 x3 x4 x5 x6 x7 x8 x9 x10 x11 = evermoreref3_Made.R k (start (stackOf 17 evermoreref3_Made.body)) (evermoreref3_Made.t17.fill [⟨(.int .i64), x0⟩, ⟨(.int .i64), x1⟩, ⟨(.int .i64), x2⟩, ⟨(.int .i64), x3⟩, ⟨(.int .i64), x4⟩, ⟨(.slice (.int .i64)), x5⟩, ⟨(.slice (.pair (.int .i64) (.pair (.int .i64) (.pair (.int .i64) .unit)))), x6⟩, ⟨(.slice (.int .i64)), x7⟩, ⟨(.int .i64), x8⟩, ⟨(.int .i64), x9⟩, ⟨(.slice (.slice (.int .i64))), x10⟩, ⟨(.slice (.int .i64)), x11⟩]) := by kernel_rfl
theorem evermoreref3_Made.s17 : stackAt 17 evermoreref3_Made.body [] = some (stackOf 17 evermoreref3_Made.body) := by kernel_rfl
theorem evermoreref3_Made.h17 (k : Nat) (ds : List Dat) (r : Int × Int × (List (List Int)) × (List Int)) (h : evermoreref3_Made.c17 k ds = some r) : ∃ k', k' < k ∧ ∃ s, stackAt 17 evermoreref3_Made.body [] = some s ∧ evermoreref3_Made.R k' (start s) (evermoreref3_Made.t17.fill ds) = some r := by
  unfold evermoreref3_Made.c17 at h
  obtain ⟨x0, d0, rfl, h0⟩ := pop_some h
  obtain ⟨x1, d1, rfl, h1⟩ := pop_some h0
  obtain ⟨x2, d2, rfl, h2⟩ := pop_some h1
  obtain ⟨x3, d3, rfl, h3⟩ := pop_some h2
  obtain ⟨x4, d4, rfl, h4⟩ := pop_some h3
  obtain ⟨x5, d5, rfl, h5⟩ := pop_some h4
  obtain ⟨x6, d6, rfl, h6⟩ := pop_some h5
  obtain ⟨x7, d7, rfl, h7⟩ := pop_some h6
  obtain ⟨x8, d8, rfl, h8⟩ := pop_some h7
  obtain ⟨x9, d9, rfl, h9⟩ := pop_some h8
  obtain ⟨x10, d10, rfl, h10⟩ := pop_some h9
  obtain ⟨x11, d11, rfl, h11⟩ := pop_some h10
  obtain ⟨rfl, g⟩ := popN_some h11
  cases k with
  | zero => cases (show none = some r from g)
  | succ k => exact ⟨k, Nat.lt_succ_self k, _, evermoreref3_Made.s17, (evermoreref3_Made.e17 k x0 x1 x2 x3 x4 x5 x6 x7 x8 x9 x10 x11).symm.trans g⟩
theorem evermoreref3_Made.e27 (k : Nat) (x0 : Int) (x1 : Int) (x2 : Int) (x3 : Int) (x4 : Int) (x5 : (List Int)) (x6 : (List (Int × (Int × (Int × Unit))))) (x7 : (List Int)) (x8 : Int) (x9 : Int) (x10 : (List Int)) (x11 : (List (List Int))) (x12 : (List Int)) : evermoreref3_Made.l13 (k + 1) x0 x1 x2 x3 x4 x5 x6 x7 x8 x9 x10 x11 x12 = evermoreref3_Made.R k (start (stackOf 27 evermoreref3_Made.body)) (evermoreref3_Made.t27.fill [⟨(.int .i64), x0⟩, ⟨(.int .i64), x1⟩, ⟨(.int .i64), x2⟩, ⟨(.int .i64), x3⟩, ⟨(.int .i64), x4⟩, ⟨(.slice (.int .i64)), x5⟩, ⟨(.slice (.pair (.int .i64) (.pair (.int .i64) (.pair (.int .i64) .unit)))), x6⟩, ⟨(.slice (.int .i64)), x7⟩, ⟨(.int .i64), x8⟩, ⟨(.int .i64), x9⟩, ⟨(.slice (.int .i64)), x10⟩, ⟨(.slice (.slice (.int .i64))), x11⟩, ⟨(.slice (.int .i64)), x12⟩]) := by kernel_rfl
theorem evermoreref3_Made.s27 : stackAt 27 evermoreref3_Made.body [] = some (stackOf 27 evermoreref3_Made.body) := by kernel_rfl
theorem evermoreref3_Made.h27 (k : Nat) (ds : List Dat) (r : Int × Int × (List (List Int)) × (List Int)) (h : evermoreref3_Made.c27 k ds = some r) : ∃ k', k' < k ∧ ∃ s, stackAt 27 evermoreref3_Made.body [] = some s ∧ evermoreref3_Made.R k' (start s) (evermoreref3_Made.t27.fill ds) = some r := by
  unfold evermoreref3_Made.c27 at h
  obtain ⟨x0, d0, rfl, h0⟩ := pop_some h
  obtain ⟨x1, d1, rfl, h1⟩ := pop_some h0
  obtain ⟨x2, d2, rfl, h2⟩ := pop_some h1
  obtain ⟨x3, d3, rfl, h3⟩ := pop_some h2
  obtain ⟨x4, d4, rfl, h4⟩ := pop_some h3
  obtain ⟨x5, d5, rfl, h5⟩ := pop_some h4
  obtain ⟨x6, d6, rfl, h6⟩ := pop_some h5
  obtain ⟨x7, d7, rfl, h7⟩ := pop_some h6
  obtain ⟨x8, d8, rfl, h8⟩ := pop_some h7
  obtain ⟨x9, d9, rfl, h9⟩ := pop_some h8
  obtain ⟨x10, d10, rfl, h10⟩ := pop_some h9
  obtain ⟨x11, d11, rfl, h11⟩ := pop_some h10
  obtain ⟨x12, d12, rfl, h12⟩ := pop_some h11
  obtain ⟨rfl, g⟩ := popN_some h12
  cases k with
  | zero => cases (show none = some r from g)
  | succ k => exact ⟨k, Nat.lt_succ_self k, _, evermoreref3_Made.s27, (evermoreref3_Made.e27 k x0 x1 x2 x3 x4 x5 x6 x7 x8 x9 x10 x11 x12).symm.trans g⟩
theorem evermoreref3_Made.e41 (k : Nat) (x0 : Int) (x1 : Int) (x2 : Int) (x3 : Int) (x4 : (List Int)) (x5 : (List (Int × (Int × (Int × Unit))))) (x6 : (List Int)) (x7 : Int) (x8 : Int) (x9 : (List Int)) (x10 : (List Int)) (x11 : Int) (x12 : Int) (x13 : (List (List Int))) (x14 : (List Int)) (x15 : (List (List Int))) (x16 : (List Int)) : evermoreref3_Made.l20 (k + 1) x0 x1 x2 x3 x4 x5 x6 x7 x8 x9 x10 x11 x12 x13 x14 x15 x16 = evermoreref3_Made.R k (start (stackOf 41 evermoreref3_Made.body)) (evermoreref3_Made.t41.fill [⟨(.int .i64), x0⟩, ⟨(.int .i64), x1⟩, ⟨(.int .i64), x2⟩, ⟨(.int .i64), x3⟩, ⟨(.slice (.int .i64)), x4⟩, ⟨(.slice (.pair (.int .i64) (.pair (.int .i64) (.pair (.int .i64) .unit)))), x5⟩, ⟨(.slice (.int .i64)), x6⟩, ⟨(.int .i64), x7⟩, ⟨(.int .i64), x8⟩, ⟨(.slice (.int .i64)), x9⟩, ⟨(.slice (.int .i64)), x10⟩, ⟨(.int .i64), x11⟩, ⟨(.int .i64), x12⟩, ⟨(.slice (.slice (.int .i64))), x13⟩, ⟨(.slice (.int .i64)), x14⟩, ⟨(.slice (.slice (.int .i64))), x15⟩, ⟨(.slice (.int .i64)), x16⟩]) := by kernel_rfl
theorem evermoreref3_Made.s41 : stackAt 41 evermoreref3_Made.body [] = some (stackOf 41 evermoreref3_Made.body) := by kernel_rfl
theorem evermoreref3_Made.h41 (k : Nat) (ds : List Dat) (r : Int × Int × (List (List Int)) × (List Int)) (h : evermoreref3_Made.c41 k ds = some r) : ∃ k', k' < k ∧ ∃ s, stackAt 41 evermoreref3_Made.body [] = some s ∧ evermoreref3_Made.R k' (start s) (evermoreref3_Made.t41.fill ds) = some r := by
  unfold evermoreref3_Made.c41 at h
  obtain ⟨x0, d0, rfl, h0⟩ := pop_some h
  obtain ⟨x1, d1, rfl, h1⟩ := pop_some h0
  obtain ⟨x2, d2, rfl, h2⟩ := pop_some h1
  obtain ⟨x3, d3, rfl, h3⟩ := pop_some h2
  obtain ⟨x4, d4, rfl, h4⟩ := pop_some h3
  obtain ⟨x5, d5, rfl, h5⟩ := pop_some h4
  obtain ⟨x6, d6, rfl, h6⟩ := pop_some h5
  obtain ⟨x7, d7, rfl, h7⟩ := pop_some h6
  obtain ⟨x8, d8, rfl, h8⟩ := pop_some h7
  obtain ⟨x9, d9, rfl, h9⟩ := pop_some h8
  obtain ⟨x10, d10, rfl, h10⟩ := pop_some h9
  obtain ⟨x11, d11, rfl, h11⟩ := pop_some h10
  obtain ⟨x12, d12, rfl, h12⟩ := pop_some h11
  obtain ⟨x13, d13, rfl, h13⟩ := pop_some h12
  obtain ⟨x14, d14, rfl, h14⟩ := pop_some h13
  obtain ⟨x15, d15, rfl, h15⟩ := pop_some h14
  obtain ⟨x16, d16, rfl, h16⟩ := pop_some h15
  obtain ⟨rfl, g⟩ := popN_some h16
  cases k with
  | zero => cases (show none = some r from g)
  | succ k => exact ⟨k, Nat.lt_succ_self k, _, evermoreref3_Made.s41, (evermoreref3_Made.e41 k x0 x1 x2 x3 x4 x5 x6 x7 x8 x9 x10 x11 x12 x13 x14 x15 x16).symm.trans g⟩
theorem evermoreref3_Made.e49 (k : Nat) (x0 : Int) (x1 : Int) (x2 : Int) (x3 : Int) (x4 : Int) (x5 : (List Int)) (x6 : (List (Int × (Int × (Int × Unit))))) (x7 : (List Int)) (x8 : Int) (x9 : Int) (x10 : (List Int)) (x11 : (List Int)) (x12 : Int) (x13 : Int) (x14 : (List Int)) (x15 : (List (List Int))) (x16 : (List Int)) (x17 : (List (List Int))) (x18 : (List Int)) : evermoreref3_Made.l24 (k + 1) x0 x1 x2 x3 x4 x5 x6 x7 x8 x9 x10 x11 x12 x13 x14 x15 x16 x17 x18 = evermoreref3_Made.R k (start (stackOf 49 evermoreref3_Made.body)) (evermoreref3_Made.t49.fill [⟨(.int .i64), x0⟩, ⟨(.int .i64), x1⟩, ⟨(.int .i64), x2⟩, ⟨(.int .i64), x3⟩, ⟨(.int .i64), x4⟩, ⟨(.slice (.int .i64)), x5⟩, ⟨(.slice (.pair (.int .i64) (.pair (.int .i64) (.pair (.int .i64) .unit)))), x6⟩, ⟨(.slice (.int .i64)), x7⟩, ⟨(.int .i64), x8⟩, ⟨(.int .i64), x9⟩, ⟨(.slice (.int .i64)), x10⟩, ⟨(.slice (.int .i64)), x11⟩, ⟨(.int .i64), x12⟩, ⟨(.int .i64), x13⟩, ⟨(.slice (.int .i64)), x14⟩, ⟨(.slice (.slice (.int .i64))), x15⟩, ⟨(.slice (.int .i64)), x16⟩, ⟨(.slice (.slice (.int .i64))), x17⟩, ⟨(.slice (.int .i64)), x18⟩]) := by kernel_rfl
theorem evermoreref3_Made.s49 : stackAt 49 evermoreref3_Made.body [] = some (stackOf 49 evermoreref3_Made.body) := by kernel_rfl
theorem evermoreref3_Made.h49 (k : Nat) (ds : List Dat) (r : Int × Int × (List (List Int)) × (List Int)) (h : evermoreref3_Made.c49 k ds = some r) : ∃ k', k' < k ∧ ∃ s, stackAt 49 evermoreref3_Made.body [] = some s ∧ evermoreref3_Made.R k' (start s) (evermoreref3_Made.t49.fill ds) = some r := by
  unfold evermoreref3_Made.c49 at h
  obtain ⟨x0, d0, rfl, h0⟩ := pop_some h
  obtain ⟨x1, d1, rfl, h1⟩ := pop_some h0
  obtain ⟨x2, d2, rfl, h2⟩ := pop_some h1
  obtain ⟨x3, d3, rfl, h3⟩ := pop_some h2
  obtain ⟨x4, d4, rfl, h4⟩ := pop_some h3
  obtain ⟨x5, d5, rfl, h5⟩ := pop_some h4
  obtain ⟨x6, d6, rfl, h6⟩ := pop_some h5
  obtain ⟨x7, d7, rfl, h7⟩ := pop_some h6
  obtain ⟨x8, d8, rfl, h8⟩ := pop_some h7
  obtain ⟨x9, d9, rfl, h9⟩ := pop_some h8
  obtain ⟨x10, d10, rfl, h10⟩ := pop_some h9
  obtain ⟨x11, d11, rfl, h11⟩ := pop_some h10
  obtain ⟨x12, d12, rfl, h12⟩ := pop_some h11
  obtain ⟨x13, d13, rfl, h13⟩ := pop_some h12
  obtain ⟨x14, d14, rfl, h14⟩ := pop_some h13
  obtain ⟨x15, d15, rfl, h15⟩ := pop_some h14
  obtain ⟨x16, d16, rfl, h16⟩ := pop_some h15
  obtain ⟨x17, d17, rfl, h17⟩ := pop_some h16
  obtain ⟨x18, d18, rfl, h18⟩ := pop_some h17
  obtain ⟨rfl, g⟩ := popN_some h18
  cases k with
  | zero => cases (show none = some r from g)
  | succ k => exact ⟨k, Nat.lt_succ_self k, _, evermoreref3_Made.s49, (evermoreref3_Made.e49 k x0 x1 x2 x3 x4 x5 x6 x7 x8 x9 x10 x11 x12 x13 x14 x15 x16 x17 x18).symm.trans g⟩
theorem evermoreref3_Made.e57 (k : Nat) (x0 : Int) (x1 : Int) (x2 : Int) (x3 : Int) (x4 : Int) (x5 : Int) (x6 : Int) (x7 : (List Int)) (x8 : (List (Int × (Int × (Int × Unit))))) (x9 : (List Int)) (x10 : Int) (x11 : Int) (x12 : (List Int)) (x13 : (List Int)) (x14 : Int) (x15 : Int) (x16 : (List Int)) (x17 : (List (List Int))) (x18 : (List Int)) (x19 : (List (List Int))) (x20 : (List Int)) : evermoreref3_Made.l28 (k + 1) x0 x1 x2 x3 x4 x5 x6 x7 x8 x9 x10 x11 x12 x13 x14 x15 x16 x17 x18 x19 x20 = evermoreref3_Made.R k (start (stackOf 57 evermoreref3_Made.body)) (evermoreref3_Made.t57.fill [⟨(.int .i64), x0⟩, ⟨(.int .i64), x1⟩, ⟨(.int .i64), x2⟩, ⟨(.int .i64), x3⟩, ⟨(.int .i64), x4⟩, ⟨(.int .i64), x5⟩, ⟨(.int .i64), x6⟩, ⟨(.slice (.int .i64)), x7⟩, ⟨(.slice (.pair (.int .i64) (.pair (.int .i64) (.pair (.int .i64) .unit)))), x8⟩, ⟨(.slice (.int .i64)), x9⟩, ⟨(.int .i64), x10⟩, ⟨(.int .i64), x11⟩, ⟨(.slice (.int .i64)), x12⟩, ⟨(.slice (.int .i64)), x13⟩, ⟨(.int .i64), x14⟩, ⟨(.int .i64), x15⟩, ⟨(.slice (.int .i64)), x16⟩, ⟨(.slice (.slice (.int .i64))), x17⟩, ⟨(.slice (.int .i64)), x18⟩, ⟨(.slice (.slice (.int .i64))), x19⟩, ⟨(.slice (.int .i64)), x20⟩]) := by kernel_rfl
theorem evermoreref3_Made.s57 : stackAt 57 evermoreref3_Made.body [] = some (stackOf 57 evermoreref3_Made.body) := by kernel_rfl
theorem evermoreref3_Made.h57 (k : Nat) (ds : List Dat) (r : Int × Int × (List (List Int)) × (List Int)) (h : evermoreref3_Made.c57 k ds = some r) : ∃ k', k' < k ∧ ∃ s, stackAt 57 evermoreref3_Made.body [] = some s ∧ evermoreref3_Made.R k' (start s) (evermoreref3_Made.t57.fill ds) = some r := by
  unfold evermoreref3_Made.c57 at h
  obtain ⟨x0, d0, rfl, h0⟩ := pop_some h
  obtain ⟨x1, d1, rfl, h1⟩ := pop_some h0
  obtain ⟨x2, d2, rfl, h2⟩ := pop_some h1
  obtain ⟨x3, d3, rfl, h3⟩ := pop_some h2
  obtain ⟨x4, d4, rfl, h4⟩ := pop_some h3
  obtain ⟨x5, d5, rfl, h5⟩ := pop_some h4
  obtain ⟨x6, d6, rfl, h6⟩ := pop_some h5
  obtain ⟨x7, d7, rfl, h7⟩ := pop_some h6
  obtain ⟨x8, d8, rfl, h8⟩ := pop_some h7
  obtain ⟨x9, d9, rfl, h9⟩ := pop_some h8
  obtain ⟨x10, d10, rfl, h10⟩ := pop_some h9
  obtain ⟨x11, d11, rfl, h11⟩ := pop_some h10
  obtain ⟨x12, d12, rfl, h12⟩ := pop_some h11
  obtain ⟨x13, d13, rfl, h13⟩ := pop_some h12
  obtain ⟨x14, d14, rfl, h14⟩ := pop_some h13
  obtain ⟨x15, d15, rfl, h15⟩ := pop_some h14
  obtain ⟨x16, d16, rfl, h16⟩ := pop_some h15
  obtain ⟨x17, d17, rfl, h17⟩ := pop_some h16
  obtain ⟨x18, d18, rfl, h18⟩ := pop_some h17
  obtain ⟨x19, d19, rfl, h19⟩ := pop_some h18
  obtain ⟨x20, d20, rfl, h20⟩ := pop_some h19
  obtain ⟨rfl, g⟩ := popN_some h20
  cases k with
  | zero => cases (show none = some r from g)
  | succ k => exact ⟨k, Nat.lt_succ_self k, _, evermoreref3_Made.s57, (evermoreref3_Made.e57 k x0 x1 x2 x3 x4 x5 x6 x7 x8 x9 x10 x11 x12 x13 x14 x15 x16 x17 x18 x19 x20).symm.trans g⟩
theorem evermoreref3_Made.e82 (k : Nat) (x0 : Int) (x1 : Int) (x2 : Int) (x3 : Int) (x4 : Int) (x5 : (List Int)) (x6 : (List (Int × (Int × (Int × Unit))))) (x7 : (List Int)) (x8 : Int) (x9 : Int) (x10 : (List Int)) (x11 : (List Int)) (x12 : Int) (x13 : Int) (x14 : (List (List Int))) (x15 : (List Int)) (x16 : (List (List Int))) (x17 : (List Int)) : evermoreref3_Made.j41 (k + 1) x0 x1 x2 x3 x4 x5 x6 x7 x8 x9 x10 x11 x12 x13 x14 x15 x16 x17 = evermoreref3_Made.R k (start (stackOf 82 evermoreref3_Made.body)) (evermoreref3_Made.t82.fill [⟨(.int .i64), x0⟩, ⟨(.int .i64), x1⟩, ⟨(.int .i64), x2⟩, ⟨(.int .i64), x3⟩, ⟨(.int .i64), x4⟩, ⟨(.slice (.int .i64)), x5⟩, ⟨(.slice (.pair (.int .i64) (.pair (.int .i64) (.pair (.int .i64) .unit)))), x6⟩, ⟨(.slice (.int .i64)), x7⟩, ⟨(.int .i64), x8⟩, ⟨(.int .i64), x9⟩, ⟨(.slice (.int .i64)), x10⟩, ⟨(.slice (.int .i64)), x11⟩, ⟨(.int .i64), x12⟩, ⟨(.int .i64), x13⟩, ⟨(.slice (.slice (.int .i64))), x14⟩, ⟨(.slice (.int .i64)), x15⟩, ⟨(.slice (.slice (.int .i64))), x16⟩, ⟨(.slice (.int .i64)), x17⟩]) := by kernel_rfl
theorem evermoreref3_Made.s82 : stackAt 82 evermoreref3_Made.body [] = some (stackOf 82 evermoreref3_Made.body) := by kernel_rfl
theorem evermoreref3_Made.h82 (k : Nat) (ds : List Dat) (r : Int × Int × (List (List Int)) × (List Int)) (h : evermoreref3_Made.c82 k ds = some r) : ∃ k', k' < k ∧ ∃ s, stackAt 82 evermoreref3_Made.body [] = some s ∧ evermoreref3_Made.R k' (start s) (evermoreref3_Made.t82.fill ds) = some r := by
  unfold evermoreref3_Made.c82 at h
  obtain ⟨x0, d0, rfl, h0⟩ := pop_some h
  obtain ⟨x1, d1, rfl, h1⟩ := pop_some h0
  obtain ⟨x2, d2, rfl, h2⟩ := pop_some h1
  obtain ⟨x3, d3, rfl, h3⟩ := pop_some h2
  obtain ⟨x4, d4, rfl, h4⟩ := pop_some h3
  obtain ⟨x5, d5, rfl, h5⟩ := pop_some h4
  obtain ⟨x6, d6, rfl, h6⟩ := pop_some h5
  obtain ⟨x7, d7, rfl, h7⟩ := pop_some h6
  obtain ⟨x8, d8, rfl, h8⟩ := pop_some h7
  obtain ⟨x9, d9, rfl, h9⟩ := pop_some h8
  obtain ⟨x10, d10, rfl, h10⟩ := pop_some h9
  obtain ⟨x11, d11, rfl, h11⟩ := pop_some h10
  obtain ⟨x12, d12, rfl, h12⟩ := pop_some h11
  obtain ⟨x13, d13, rfl, h13⟩ := pop_some h12
  obtain ⟨x14, d14, rfl, h14⟩ := pop_some h13
  obtain ⟨x15, d15, rfl, h15⟩ := pop_some h14
  obtain ⟨x16, d16, rfl, h16⟩ := pop_some h15
  obtain ⟨x17, d17, rfl, h17⟩ := pop_some h16
  obtain ⟨rfl, g⟩ := popN_some h17
  cases k with
  | zero => cases (show none = some r from g)
  | succ k => exact ⟨k, Nat.lt_succ_self k, _, evermoreref3_Made.s82, (evermoreref3_Made.e82 k x0 x1 x2 x3 x4 x5 x6 x7 x8 x9 x10 x11 x12 x13 x14 x15 x16 x17).symm.trans g⟩
theorem evermoreref3_Made.e58 (k : Nat) (x0 : Int) (x1 : Int) (x2 : Int) (x3 : Int) (x4 : Int) (x5 : Int) (x6 : Int) (x7 : (List Int)) (x8 : (List (Int × (Int × (Int × Unit))))) (x9 : (List Int)) (x10 : Int) (x11 : Int) (x12 : (List Int)) (x13 : (List Int)) (x14 : Int) (x15 : Int) (x16 : (List Int)) (x17 : (List (List Int))) (x18 : (List Int)) (x19 : (List (List Int))) (x20 : (List Int)) : evermoreref3_Made.j29 (k + 1) x0 x1 x2 x3 x4 x5 x6 x7 x8 x9 x10 x11 x12 x13 x14 x15 x16 x17 x18 x19 x20 = evermoreref3_Made.R k (start (stackOf 58 evermoreref3_Made.body)) (evermoreref3_Made.t58.fill [⟨(.int .i64), x0⟩, ⟨(.int .i64), x1⟩, ⟨(.int .i64), x2⟩, ⟨(.int .i64), x3⟩, ⟨(.int .i64), x4⟩, ⟨(.int .i64), x5⟩, ⟨(.int .i64), x6⟩, ⟨(.slice (.int .i64)), x7⟩, ⟨(.slice (.pair (.int .i64) (.pair (.int .i64) (.pair (.int .i64) .unit)))), x8⟩, ⟨(.slice (.int .i64)), x9⟩, ⟨(.int .i64), x10⟩, ⟨(.int .i64), x11⟩, ⟨(.slice (.int .i64)), x12⟩, ⟨(.slice (.int .i64)), x13⟩, ⟨(.int .i64), x14⟩, ⟨(.int .i64), x15⟩, ⟨(.slice (.int .i64)), x16⟩, ⟨(.slice (.slice (.int .i64))), x17⟩, ⟨(.slice (.int .i64)), x18⟩, ⟨(.slice (.slice (.int .i64))), x19⟩, ⟨(.slice (.int .i64)), x20⟩]) := by kernel_rfl
theorem evermoreref3_Made.s58 : stackAt 58 evermoreref3_Made.body [] = some (stackOf 58 evermoreref3_Made.body) := by kernel_rfl
theorem evermoreref3_Made.h58 (k : Nat) (ds : List Dat) (r : Int × Int × (List (List Int)) × (List Int)) (h : evermoreref3_Made.c58 k ds = some r) : ∃ k', k' < k ∧ ∃ s, stackAt 58 evermoreref3_Made.body [] = some s ∧ evermoreref3_Made.R k' (start s) (evermoreref3_Made.t58.fill ds) = some r := by
  unfold evermoreref3_Made.c58 at h
  obtain ⟨x0, d0, rfl, h0⟩ := pop_some h
  obtain ⟨x1, d1, rfl, h1⟩ := pop_some h0
  obtain ⟨x2, d2, rfl, h2⟩ := pop_some h1
  obtain ⟨x3, d3, rfl, h3⟩ := pop_some h2
  obtain ⟨x4, d4, rfl, h4⟩ := pop_some h3
  obtain ⟨x5, d5, rfl, h5⟩ := pop_some h4
  obtain ⟨x6, d6, rfl, h6⟩ := pop_some h5
  obtain ⟨x7, d7, rfl, h7⟩ := pop_some h6
  obtain ⟨x8, d8, rfl, h8⟩ := pop_some h7
  obtain ⟨x9, d9, rfl, h9⟩ := pop_some h8
  obtain ⟨x10, d10, rfl, h10⟩ := pop_some h9
  obtain ⟨x11, d11, rfl, h11⟩ := pop_some h10
  obtain ⟨x12, d12, rfl, h12⟩ := pop_some h11
  obtain ⟨x13, d13, rfl, h13⟩ := pop_some h12
  obtain ⟨x14, d14, rfl, h14⟩ := pop_some h13
  obtain ⟨x15, d15, rfl, h15⟩ := pop_some h14
  obtain ⟨x16, d16, rfl, h16⟩ := pop_some h15
  obtain ⟨x17, d17, rfl, h17⟩ := pop_some h16
  obtain ⟨x18, d18, rfl, h18⟩ := pop_some h17
  obtain ⟨x19, d19, rfl, h19⟩ := pop_some h18
  obtain ⟨x20, d20, rfl, h20⟩ := pop_some h19
  obtain ⟨rfl, g⟩ := popN_some h20
  cases k with
  | zero => cases (show none = some r from g)
  | succ k => exact ⟨k, Nat.lt_succ_self k, _, evermoreref3_Made.s58, (evermoreref3_Made.e58 k x0 x1 x2 x3 x4 x5 x6 x7 x8 x9 x10 x11 x12 x13 x14 x15 x16 x17 x18 x19 x20).symm.trans g⟩
theorem evermoreref3_Made.e72 (k : Nat) (x0 : Int) (x1 : Int) (x2 : Int) (x3 : Int) (x4 : Int) (x5 : Int) (x6 : (List Int)) (x7 : (List (Int × (Int × (Int × Unit))))) (x8 : (List Int)) (x9 : Int) (x10 : Int) (x11 : (List Int)) (x12 : (List Int)) (x13 : Int) (x14 : Int) (x15 : (List Int)) (x16 : (List (List Int))) (x17 : (List Int)) (x18 : (List (List Int))) (x19 : (List Int)) : evermoreref3_Made.j36 (k + 1) x0 x1 x2 x3 x4 x5 x6 x7 x8 x9 x10 x11 x12 x13 x14 x15 x16 x17 x18 x19 = evermoreref3_Made.R k (start (stackOf 72 evermoreref3_Made.body)) (evermoreref3_Made.t72.fill [⟨(.int .i64), x0⟩, ⟨(.int .i64), x1⟩, ⟨(.int .i64), x2⟩, ⟨(.int .i64), x3⟩, ⟨(.int .i64), x4⟩, ⟨(.int .i64), x5⟩, ⟨(.slice (.int .i64)), x6⟩, ⟨(.slice (.pair (.int .i64) (.pair (.int .i64) (.pair (.int .i64) .unit)))), x7⟩, ⟨(.slice (.int .i64)), x8⟩, ⟨(.int .i64), x9⟩, ⟨(.int .i64), x10⟩, ⟨(.slice (.int .i64)), x11⟩, ⟨(.slice (.int .i64)), x12⟩, ⟨(.int .i64), x13⟩, ⟨(.int .i64), x14⟩, ⟨(.slice (.int .i64)), x15⟩, ⟨(.slice (.slice (.int .i64))), x16⟩, ⟨(.slice (.int .i64)), x17⟩, ⟨(.slice (.slice (.int .i64))), x18⟩, ⟨(.slice (.int .i64)), x19⟩]) := by kernel_rfl
theorem evermoreref3_Made.s72 : stackAt 72 evermoreref3_Made.body [] = some (stackOf 72 evermoreref3_Made.body) := by kernel_rfl
theorem evermoreref3_Made.h72 (k : Nat) (ds : List Dat) (r : Int × Int × (List (List Int)) × (List Int)) (h : evermoreref3_Made.c72 k ds = some r) : ∃ k', k' < k ∧ ∃ s, stackAt 72 evermoreref3_Made.body [] = some s ∧ evermoreref3_Made.R k' (start s) (evermoreref3_Made.t72.fill ds) = some r := by
  unfold evermoreref3_Made.c72 at h
  obtain ⟨x0, d0, rfl, h0⟩ := pop_some h
  obtain ⟨x1, d1, rfl, h1⟩ := pop_some h0
  obtain ⟨x2, d2, rfl, h2⟩ := pop_some h1
  obtain ⟨x3, d3, rfl, h3⟩ := pop_some h2
  obtain ⟨x4, d4, rfl, h4⟩ := pop_some h3
  obtain ⟨x5, d5, rfl, h5⟩ := pop_some h4
  obtain ⟨x6, d6, rfl, h6⟩ := pop_some h5
  obtain ⟨x7, d7, rfl, h7⟩ := pop_some h6
  obtain ⟨x8, d8, rfl, h8⟩ := pop_some h7
  obtain ⟨x9, d9, rfl, h9⟩ := pop_some h8
  obtain ⟨x10, d10, rfl, h10⟩ := pop_some h9
  obtain ⟨x11, d11, rfl, h11⟩ := pop_some h10
  obtain ⟨x12, d12, rfl, h12⟩ := pop_some h11
  obtain ⟨x13, d13, rfl, h13⟩ := pop_some h12
  obtain ⟨x14, d14, rfl, h14⟩ := pop_some h13
  obtain ⟨x15, d15, rfl, h15⟩ := pop_some h14
  obtain ⟨x16, d16, rfl, h16⟩ := pop_some h15
  obtain ⟨x17, d17, rfl, h17⟩ := pop_some h16
  obtain ⟨x18, d18, rfl, h18⟩ := pop_some h17
  obtain ⟨x19, d19, rfl, h19⟩ := pop_some h18
  obtain ⟨rfl, g⟩ := popN_some h19
  cases k with
  | zero => cases (show none = some r from g)
  | succ k => exact ⟨k, Nat.lt_succ_self k, _, evermoreref3_Made.s72, (evermoreref3_Made.e72 k x0 x1 x2 x3 x4 x5 x6 x7 x8 x9 x10 x11 x12 x13 x14 x15 x16 x17 x18 x19).symm.trans g⟩
theorem evermoreref3_Made.e (k : Nat) (x0 : (Int × (Int × ((List Int) × ((List (Int × (Int × (Int × Unit)))) × ((List Int) × Unit)))))) : evermoreref3_Made.f k x0 = evermoreref3_Made.R k ([.code evermoreref3_Made.body]) (evermoreref3_Made.ti.fill [⟨(.pair (.int .i64) (.pair (.int .i64) (.pair (.slice (.int .i64)) (.pair (.slice (.pair (.int .i64) (.pair (.int .i64) (.pair (.int .i64) .unit)))) (.pair (.slice (.int .i64)) .unit))))), x0⟩]) := by kernel_rfl
theorem evermoreref3_Made.h (k : Nat) (ds : List Dat) (r : Int × Int × (List (List Int)) × (List Int)) (h : evermoreref3_Made.g k ds = some r) : ∃ k', k' < k ∧ evermoreref3_Made.R k' ([.code evermoreref3_Made.body]) (evermoreref3_Made.ti.fill ds) = some r := by
  cases k with
  | zero => cases (show none = some r from h)
  | succ k =>
  replace h : evermoreref3_Made.c k ds = some r := h
  unfold evermoreref3_Made.c at h
  obtain ⟨x0, d0, rfl, h0⟩ := pop_some h
  obtain ⟨rfl, g⟩ := popN_some h0
  exact ⟨k, Nat.lt_succ_self k, (evermoreref3_Made.e k x0).symm.trans g⟩
theorem evermoreref3_Made.o (ds : List Dat) (r : Int × Int × (List (List Int)) × (List Int)) (h : evermoreref3_Made.out ds = some r) : ds = evermoreref3_Made.rs r := by
  unfold evermoreref3_Made.out at h
  obtain ⟨x0, d0, rfl, h0⟩ := pop_some h
  obtain ⟨x1, d1, rfl, h1⟩ := pop_some h0
  obtain ⟨x2, d2, rfl, h2⟩ := pop_some h1
  obtain ⟨x3, d3, rfl, h3⟩ := pop_some h2
  obtain ⟨rfl, g⟩ := popN_some h3
  cases g
  rfl
theorem evermoreref3_Made.fn : FnOk Try.prog 70 Try.f70 evermoreref3_Made.body Try.f70.ntmps 1 (fnRes Try.f70) :=
  fnOk_of (by kernel_rfl) (by kernel_rfl) (by kernel_rfl) (by kernel_rfl)
theorem evermoreref3_Made.con' : ∀ k ds r, evermoreref3_Made.g k ds = some r → Con Try.prog 70 1 evermoreref3_Made.ti evermoreref3_Made.to ds (evermoreref3_Made.rs r) :=
  fun_ok (T := T) T_ok mixed evermoreref3_Made.fn (env := evermoreref3_Made.env) (tbl := evermoreref3_Made.tbl) (gOut := evermoreref3_Made.out) (nin := 0) (cuts := [41, 36, 29]) (fuel := 100000) rfl (by kernel_rfl) (by kernel_rfl) (by kernel_rfl) (fun x hx => by
    simp only [evermoreref3_Made.tbl, List.mem_cons, List.not_mem_nil, or_false] at hx
    rcases hx with rfl | rfl | rfl | rfl | rfl | rfl | rfl | rfl | rfl
    · exact evermoreref3_Made.h7
    · exact evermoreref3_Made.h17
    · exact evermoreref3_Made.h27
    · exact evermoreref3_Made.h41
    · exact evermoreref3_Made.h49
    · exact evermoreref3_Made.h57
    · exact evermoreref3_Made.h82
    · exact evermoreref3_Made.h58
    · exact evermoreref3_Made.h72
) evermoreref3_Made.o evermoreref3_Made.h (fun k _ => by unfold evermoreref3_Made.env; exact (envC_ok (fun ds K r h => by
    obtain ⟨x0, d0, rfl, h0⟩ := pop_some h
    obtain ⟨rfl, g⟩ := popN_some h0
    obtain ⟨r1, h1, h2⟩ := bind_some g
    exact ⟨_, h2, evermoreref3_Least.con k _ h1⟩) env0_ok))
theorem evermoreref3_Made.con (k : Nat) {x0 : (Int × (Int × ((List Int) × ((List (Int × (Int × (Int × Unit)))) × ((List Int) × Unit)))))} (r : Int × Int × (List (List Int)) × (List Int)) (h : evermoreref3_Made.f k x0 = some r) : Con Try.prog 70 1 evermoreref3_Made.ti evermoreref3_Made.to [⟨(.pair (.int .i64) (.pair (.int .i64) (.pair (.slice (.int .i64)) (.pair (.slice (.pair (.int .i64) (.pair (.int .i64) (.pair (.int .i64) .unit)))) (.pair (.slice (.int .i64)) .unit))))), x0⟩] (evermoreref3_Made.rs r) :=
  evermoreref3_Made.con' (k + 1) _ r (by show evermoreref3_Made.c k _ = some r; unfold evermoreref3_Made.c; simp only [pop_self, popN]; exact h)
mutual
def evermoreref1_May.l6 : Nat → Int → List (Int) → Int → Option (Int)
 | 0, _, _, _ => none
 | k + 1, letters0, w1, i5 =>
  if i5 < (↑w1.length : Int) then
   if 0 ≤ i5 then
   if i5 < (↑w1.length : Int) then
    if Go.Proofs.YtfkilmmldjajmaaSx.rd (Int.ofNat 0) w1 i5 < 0 then
      some (2)
     else
      if 0 ≤ i5 then
      if i5 < (↑w1.length : Int) then
       if letters0 ≤ Go.Proofs.YtfkilmmldjajmaaSx.rd (Int.ofNat 0) w1 i5 then
         some (2)
        else
         evermoreref1_May.l6 k letters0 w1 (Go.IntKind.i64.wrap (i5 + 1))
       else none
      else none
    else none
   else none
  else
   some (0)
end
def evermoreref1_May.f (k : Nat) (letters0 : Int) (w1 : List (Int)) : Option (Int) :=
 if letters0 < 1 then
  some (2)
 else
  if 4 < letters0 then
   some (2)
  else
   if 60 < (↑w1.length : Int) then
    some (1)
   else
    evermoreref1_May.l6 k letters0 w1 0

noncomputable def evermoreref1_May.body : Code := fnBody Try.f17
def evermoreref1_May.ti : Tm := ⟨[(0, .p (.int .i64)), (1, .p (.slice (.int .i64)))], []⟩
def evermoreref1_May.to : Tm := ⟨[(0, .p (.int .i64))], []⟩
def evermoreref1_May.rs (r : Int) : List Dat := [⟨(.int .i64), r⟩]
def evermoreref1_May.out (ds : List Dat) : Option (Int) := pop (.int .i64) ds fun x0 ds => popN ds (some (x0))
def evermoreref1_May.c (k : Nat) (ds : List Dat) : Option (Int) := pop (.int .i64) ds fun x0 ds => pop (.slice (.int .i64)) ds fun x1 ds => popN ds (evermoreref1_May.f k x0 x1)
def evermoreref1_May.g : Nat → List Dat → Option (Int)
 | 0, _ => none
 | k + 1, ds => evermoreref1_May.c k ds
def evermoreref1_May.env (k : Nat) : Nat → List SV → List Chunk → KT (Int) → Option (Int) := env0
def evermoreref1_May.t13 : Tm := ⟨[(0, .p (.int .i64)), (1, .p (.slice (.int .i64))), (5, .p (.int .i64))], []⟩
def evermoreref1_May.c13 (k : Nat) (ds : List Dat) : Option (Int) := pop (.int .i64) ds fun x0 ds => pop (.slice (.int .i64)) ds fun x1 ds => pop (.int .i64) ds fun x2 ds => popN ds (evermoreref1_May.l6 k x0 x1 x2)
def evermoreref1_May.tbl : List (Nat × Tm × (Nat → List Dat → Option (Int))) := [(13, evermoreref1_May.t13, evermoreref1_May.c13)]
noncomputable abbrev evermoreref1_May.R (k : Nat) := run T (evermoreref1_May.env k) Try.f17.ntmps (cutE 0 evermoreref1_May.tbl k) (finE 0 evermoreref1_May.to evermoreref1_May.out) (fnRes Try.f17) [] 100000 true
theorem evermoreref1_May.e13 (k : Nat) (x0 : Int) (x1 : (List Int)) (x2 : Int) : evermoreref1_May.l6 (k + 1) x0 x1 x2 = evermoreref1_May.R k (start (stackOf 13 evermoreref1_May.body)) (evermoreref1_May.t13.fill [⟨(.int .i64), x0⟩, ⟨(.slice (.int .i64)), x1⟩, ⟨(.int .i64), x2⟩]) := by kernel_rfl
theorem evermoreref1_May.s13 : stackAt 13 evermoreref1_May.body [] = some (stackOf 13 evermoreref1_May.body) := by kernel_rfl
theorem evermoreref1_May.h13 (k : Nat) (ds : List Dat) (r : Int) (h : evermoreref1_May.c13 k ds = some r) : ∃ k', k' < k ∧ ∃ s, stackAt 13 evermoreref1_May.body [] = some s ∧ evermoreref1_May.R k' (start s) (evermoreref1_May.t13.fill ds) = some r := by
  unfold evermoreref1_May.c13 at h
  obtain ⟨x0, d0, rfl, h0⟩ := pop_some h
  obtain ⟨x1, d1, rfl, h1⟩ := pop_some h0
  obtain ⟨x2, d2, rfl, h2⟩ := pop_some h1
  obtain ⟨rfl, g⟩ := popN_some h2
  cases k with
  | zero => cases (show none = some r from g)
  | succ k => exact ⟨k, Nat.lt_succ_self k, _, evermoreref1_May.s13, (evermoreref1_May.e13 k x0 x1 x2).symm.trans g⟩
theorem evermoreref1_May.e (k : Nat) (x0 : Int) (x1 : (List Int)) : evermoreref1_May.f k x0 x1 = evermoreref1_May.R k ([.code evermoreref1_May.body]) (evermoreref1_May.ti.fill [⟨(.int .i64), x0⟩, ⟨(.slice (.int .i64)), x1⟩]) := by kernel_rfl
theorem evermoreref1_May.h (k : Nat) (ds : List Dat) (r : Int) (h : evermoreref1_May.g k ds = some r) : ∃ k', k' < k ∧ evermoreref1_May.R k' ([.code evermoreref1_May.body]) (evermoreref1_May.ti.fill ds) = some r := by
  cases k with
  | zero => cases (show none = some r from h)
  | succ k =>
  replace h : evermoreref1_May.c k ds = some r := h
  unfold evermoreref1_May.c at h
  obtain ⟨x0, d0, rfl, h0⟩ := pop_some h
  obtain ⟨x1, d1, rfl, h1⟩ := pop_some h0
  obtain ⟨rfl, g⟩ := popN_some h1
  exact ⟨k, Nat.lt_succ_self k, (evermoreref1_May.e k x0 x1).symm.trans g⟩
theorem evermoreref1_May.o (ds : List Dat) (r : Int) (h : evermoreref1_May.out ds = some r) : ds = evermoreref1_May.rs r := by
  unfold evermoreref1_May.out at h
  obtain ⟨x0, d0, rfl, h0⟩ := pop_some h
  obtain ⟨rfl, g⟩ := popN_some h0
  cases g
  rfl
theorem evermoreref1_May.fn : FnOk Try.prog 17 Try.f17 evermoreref1_May.body Try.f17.ntmps 2 (fnRes Try.f17) :=
  fnOk_of (by kernel_rfl) (by kernel_rfl) (by kernel_rfl) (by kernel_rfl)
theorem evermoreref1_May.con' : ∀ k ds r, evermoreref1_May.g k ds = some r → Con Try.prog 17 2 evermoreref1_May.ti evermoreref1_May.to ds (evermoreref1_May.rs r) :=
  fun_ok (T := T) T_ok mixed evermoreref1_May.fn (env := evermoreref1_May.env) (tbl := evermoreref1_May.tbl) (gOut := evermoreref1_May.out) (nin := 0) (cuts := []) (fuel := 100000) rfl (by kernel_rfl) (by kernel_rfl) (by kernel_rfl) (fun x hx => by
    simp only [evermoreref1_May.tbl, List.mem_cons, List.not_mem_nil, or_false] at hx
    subst hx
    · exact evermoreref1_May.h13
) evermoreref1_May.o evermoreref1_May.h (fun k _ => by unfold evermoreref1_May.env; exact env0_ok)
theorem evermoreref1_May.con (k : Nat) {x0 : Int} {x1 : (List Int)} (r : Int) (h : evermoreref1_May.f k x0 x1 = some r) : Con Try.prog 17 2 evermoreref1_May.ti evermoreref1_May.to [⟨(.int .i64), x0⟩, ⟨(.slice (.int .i64)), x1⟩] (evermoreref1_May.rs r) :=
  evermoreref1_May.con' (k + 1) _ r (by show evermoreref1_May.c k _ = some r; unfold evermoreref1_May.c; simp only [pop_self, popN]; exact h)
mutual
def evermoreref3_After.l2 : Nat → Int → List (Int) → Int → Int → Int → List (List (Int)) → List (Int) → Option (Int)
 | 0, _, _, _, _, _, _, _ => none
 | k + 1, q1, w2, i7, d3_0, d3_1, d3_2, d3_3 =>
  if i7 < (↑w2.length : Int) then
   if 0 ≤ q1 then
   if q1 < (↑d3_2.length : Int) then
    if 0 ≤ i7 then
     if i7 < (↑w2.length : Int) then
      if 0 ≤ Go.Proofs.YtfkilmmldjajmaaSx.rd (Int.ofNat 0) w2 i7 then
       if Go.Proofs.YtfkilmmldjajmaaSx.rd (Int.ofNat 0) w2 i7 < (↑(Go.Proofs.YtfkilmmldjajmaaSx.rd [] d3_2 q1).length : Int) then
        evermoreref3_After.l2 k (Go.Proofs.YtfkilmmldjajmaaSx.rd (Int.ofNat 0) (Go.Proofs.YtfkilmmldjajmaaSx.rd [] d3_2 q1) (Go.Proofs.YtfkilmmldjajmaaSx.rd (Int.ofNat 0) w2 i7)) w2 (Go.IntKind.i64.wrap (i7 + 1)) d3_0 d3_1 d3_2 d3_3
        else none
       else none
      else none
     else none
    else none
   else none
  else
   some (q1)
end
def evermoreref3_After.f (k : Nat) (d0 : (Int × (Int × (List (List (Int)) × (List (Int) × Unit))))) (q1 : Int) (w2 : List (Int)) : Option (Int) :=
 evermoreref3_After.l2 k q1 w2 0 d0.fst d0.snd.fst d0.snd.snd.fst d0.snd.snd.snd.fst

noncomputable def evermoreref3_After.body : Code := fnBody Try.f106
def evermoreref3_After.ti : Tm := ⟨[(0, .p (.pair (.int .i64) (.pair (.int .i64) (.pair (.slice (.slice (.int .i64))) (.pair (.slice (.int .i64)) .unit))))), (1, .p (.int .i64)), (2, .p (.slice (.int .i64)))], []⟩
def evermoreref3_After.to : Tm := ⟨[(0, .p (.int .i64))], []⟩
def evermoreref3_After.rs (r : Int) : List Dat := [⟨(.int .i64), r⟩]
def evermoreref3_After.out (ds : List Dat) : Option (Int) := pop (.int .i64) ds fun x0 ds => popN ds (some (x0))
def evermoreref3_After.c (k : Nat) (ds : List Dat) : Option (Int) := pop (.pair (.int .i64) (.pair (.int .i64) (.pair (.slice (.slice (.int .i64))) (.pair (.slice (.int .i64)) .unit)))) ds fun x0 ds => pop (.int .i64) ds fun x1 ds => pop (.slice (.int .i64)) ds fun x2 ds => popN ds (evermoreref3_After.f k x0 x1 x2)
def evermoreref3_After.g : Nat → List Dat → Option (Int)
 | 0, _ => none
 | k + 1, ds => evermoreref3_After.c k ds
def evermoreref3_After.env (k : Nat) : Nat → List SV → List Chunk → KT (Int) → Option (Int) := env0
def evermoreref3_After.t5 : Tm := ⟨[(1, .p (.int .i64)), (2, .p (.slice (.int .i64))), (3, .ptr 0 0), (7, .p (.int .i64))], [.box [.p (.int .i64), .p (.int .i64), .p (.slice (.slice (.int .i64))), .p (.slice (.int .i64))] 60]⟩
def evermoreref3_After.c5 (k : Nat) (ds : List Dat) : Option (Int) := pop (.int .i64) ds fun x0 ds => pop (.slice (.int .i64)) ds fun x1 ds => pop (.int .i64) ds fun x2 ds => pop (.int .i64) ds fun x3 ds => pop (.int .i64) ds fun x4 ds => pop (.slice (.slice (.int .i64))) ds fun x5 ds => pop (.slice (.int .i64)) ds fun x6 ds => popN ds (evermoreref3_After.l2 k x0 x1 x2 x3 x4 x5 x6)
def evermoreref3_After.tbl : List (Nat × Tm × (Nat → List Dat → Option (Int))) := [(5, evermoreref3_After.t5, evermoreref3_After.c5)]
noncomputable abbrev evermoreref3_After.R (k : Nat) := run T (evermoreref3_After.env k) Try.f106.ntmps (cutE 0 evermoreref3_After.tbl k) (finE 0 evermoreref3_After.to evermoreref3_After.out) (fnRes Try.f106) [] 100000 true
theorem evermoreref3_After.e5 (k : Nat) (x0 : Int) (x1 : (List Int)) (x2 : Int) (x3 : Int) (x4 : Int) (x5 : (List (List Int))) (x6 : (List Int)) : evermoreref3_After.l2 (k + 1) x0 x1 x2 x3 x4 x5 x6 = evermoreref3_After.R k (start (stackOf 5 evermoreref3_After.body)) (evermoreref3_After.t5.fill [⟨(.int .i64), x0⟩, ⟨(.slice (.int .i64)), x1⟩, ⟨(.int .i64), x2⟩, ⟨(.int .i64), x3⟩, ⟨(.int .i64), x4⟩, ⟨(.slice (.slice (.int .i64))), x5⟩, ⟨(.slice (.int .i64)), x6⟩]) := by kernel_rfl
theorem evermoreref3_After.s5 : stackAt 5 evermoreref3_After.body [] = some (stackOf 5 evermoreref3_After.body) := by kernel_rfl
theorem evermoreref3_After.h5 (k : Nat) (ds : List Dat) (r : Int) (h : evermoreref3_After.c5 k ds = some r) : ∃ k', k' < k ∧ ∃ s, stackAt 5 evermoreref3_After.body [] = some s ∧ evermoreref3_After.R k' (start s) (evermoreref3_After.t5.fill ds) = some r := by
  unfold evermoreref3_After.c5 at h
  obtain ⟨x0, d0, rfl, h0⟩ := pop_some h
  obtain ⟨x1, d1, rfl, h1⟩ := pop_some h0
  obtain ⟨x2, d2, rfl, h2⟩ := pop_some h1
  obtain ⟨x3, d3, rfl, h3⟩ := pop_some h2
  obtain ⟨x4, d4, rfl, h4⟩ := pop_some h3
  obtain ⟨x5, d5, rfl, h5⟩ := pop_some h4
  obtain ⟨x6, d6, rfl, h6⟩ := pop_some h5
  obtain ⟨rfl, g⟩ := popN_some h6
  cases k with
  | zero => cases (show none = some r from g)
  | succ k => exact ⟨k, Nat.lt_succ_self k, _, evermoreref3_After.s5, (evermoreref3_After.e5 k x0 x1 x2 x3 x4 x5 x6).symm.trans g⟩
theorem evermoreref3_After.e (k : Nat) (x0 : (Int × (Int × ((List (List Int)) × ((List Int) × Unit))))) (x1 : Int) (x2 : (List Int)) : evermoreref3_After.f k x0 x1 x2 = evermoreref3_After.R k ([.code evermoreref3_After.body]) (evermoreref3_After.ti.fill [⟨(.pair (.int .i64) (.pair (.int .i64) (.pair (.slice (.slice (.int .i64))) (.pair (.slice (.int .i64)) .unit)))), x0⟩, ⟨(.int .i64), x1⟩, ⟨(.slice (.int .i64)), x2⟩]) := by kernel_rfl
theorem evermoreref3_After.h (k : Nat) (ds : List Dat) (r : Int) (h : evermoreref3_After.g k ds = some r) : ∃ k', k' < k ∧ evermoreref3_After.R k' ([.code evermoreref3_After.body]) (evermoreref3_After.ti.fill ds) = some r := by
  cases k with
  | zero => cases (show none = some r from h)
  | succ k =>
  replace h : evermoreref3_After.c k ds = some r := h
  unfold evermoreref3_After.c at h
  obtain ⟨x0, d0, rfl, h0⟩ := pop_some h
  obtain ⟨x1, d1, rfl, h1⟩ := pop_some h0
  obtain ⟨x2, d2, rfl, h2⟩ := pop_some h1
  obtain ⟨rfl, g⟩ := popN_some h2
  exact ⟨k, Nat.lt_succ_self k, (evermoreref3_After.e k x0 x1 x2).symm.trans g⟩
theorem evermoreref3_After.o (ds : List Dat) (r : Int) (h : evermoreref3_After.out ds = some r) : ds = evermoreref3_After.rs r := by
  unfold evermoreref3_After.out at h
  obtain ⟨x0, d0, rfl, h0⟩ := pop_some h
  obtain ⟨rfl, g⟩ := popN_some h0
  cases g
  rfl
theorem evermoreref3_After.fn : FnOk Try.prog 106 Try.f106 evermoreref3_After.body Try.f106.ntmps 3 (fnRes Try.f106) :=
  fnOk_of (by kernel_rfl) (by kernel_rfl) (by kernel_rfl) (by kernel_rfl)
theorem evermoreref3_After.con' : ∀ k ds r, evermoreref3_After.g k ds = some r → Con Try.prog 106 3 evermoreref3_After.ti evermoreref3_After.to ds (evermoreref3_After.rs r) :=
  fun_ok (T := T) T_ok mixed evermoreref3_After.fn (env := evermoreref3_After.env) (tbl := evermoreref3_After.tbl) (gOut := evermoreref3_After.out) (nin := 0) (cuts := []) (fuel := 100000) rfl (by kernel_rfl) (by kernel_rfl) (by kernel_rfl) (fun x hx => by
    simp only [evermoreref3_After.tbl, List.mem_cons, List.not_mem_nil, or_false] at hx
    subst hx
    · exact evermoreref3_After.h5
) evermoreref3_After.o evermoreref3_After.h (fun k _ => by unfold evermoreref3_After.env; exact env0_ok)
theorem evermoreref3_After.con (k : Nat) {x0 : (Int × (Int × ((List (List Int)) × ((List Int) × Unit))))} {x1 : Int} {x2 : (List Int)} (r : Int) (h : evermoreref3_After.f k x0 x1 x2 = some r) : Con Try.prog 106 3 evermoreref3_After.ti evermoreref3_After.to [⟨(.pair (.int .i64) (.pair (.int .i64) (.pair (.slice (.slice (.int .i64))) (.pair (.slice (.int .i64)) .unit)))), x0⟩, ⟨(.int .i64), x1⟩, ⟨(.slice (.int .i64)), x2⟩] (evermoreref3_After.rs r) :=
  evermoreref3_After.con' (k + 1) _ r (by show evermoreref3_After.c k _ = some r; unfold evermoreref3_After.c; simp only [pop_self, popN]; exact h)
mutual
def evermoreref3_Reach.l3 : Nat → List (Int) → Int → Int → Int → List (Int) → List ((Int × (Int × (Int × Unit)))) → List (Int) → List (Bool) → Option (Bool)
 | 0, _, _, _, _, _, _, _, _ => none
 | k + 1, w1, i6, a2_0, a2_1, a2_2, a2_3, a2_4, now5 =>
  if i6 < (↑a2_2.length : Int) then
   if 0 ≤ i6 then
   if i6 < (↑a2_2.length : Int) then
    if 0 ≤ Go.Proofs.YtfkilmmldjajmaaSx.rd (Int.ofNat 0) a2_2 i6 then
     if Go.Proofs.YtfkilmmldjajmaaSx.rd (Int.ofNat 0) a2_2 i6 < (↑now5.length : Int) then
      evermoreref3_Reach.l3 k w1 (Go.IntKind.i64.wrap (i6 + 1)) a2_0 a2_1 a2_2 a2_3 a2_4 (now5.set (Go.Proofs.YtfkilmmldjajmaaSx.rd (Int.ofNat 0) a2_2 i6).toNat true)
      else none
     else none
    else none
   else none
  else
   evermoreref3_Reach.l7 k w1 0 a2_0 a2_1 a2_2 a2_3 a2_4 now5
def evermoreref3_Reach.l7 : Nat → List (Int) → Int → Int → Int → List (Int) → List ((Int × (Int × (Int × Unit)))) → List (Int) → List (Bool) → Option (Bool)
 | 0, _, _, _, _, _, _, _, _ => none
 | k + 1, w1, i7, a2_0, a2_1, a2_2, a2_3, a2_4, now5 =>
  if i7 < (↑w1.length : Int) then
   if 0 ≤ a2_1 then
   if a2_1 ≤ a2_1 then
    if a2_1 * ((↑1 : Int) + 1) ≤ 281474976710656 then
     evermoreref3_Reach.l11 k w1 i7 0 a2_0 a2_1 a2_2 a2_3 a2_4 now5 (List.replicate a2_1.toNat false)
     else none
    else none
   else none
  else
   evermoreref3_Reach.l18 k 0 a2_0 a2_1 a2_2 a2_3 a2_4 now5
def evermoreref3_Reach.l11 : Nat → List (Int) → Int → Int → Int → Int → List (Int) → List ((Int × (Int × (Int × Unit)))) → List (Int) → List (Bool) → List (Bool) → Option (Bool)
 | 0, _, _, _, _, _, _, _, _, _, _ => none
 | k + 1, w1, i7, k9, a2_0, a2_1, a2_2, a2_3, a2_4, now5, next8 =>
  if k9 < (↑a2_3.length : Int) then
   if 0 ≤ k9 then
   if k9 < (↑a2_3.length : Int) then
    if 0 ≤ i7 then
     if i7 < (↑w1.length : Int) then
      if (Go.Proofs.YtfkilmmldjajmaaSx.rd (Int.ofNat 0, Int.ofNat 0, Int.ofNat 0, ()) a2_3 k9).snd.fst = Go.Proofs.YtfkilmmldjajmaaSx.rd (Int.ofNat 0) w1 i7 then
        if 0 ≤ (Go.Proofs.YtfkilmmldjajmaaSx.rd (Int.ofNat 0, Int.ofNat 0, Int.ofNat 0, ()) a2_3 k9).fst then
        if (Go.Proofs.YtfkilmmldjajmaaSx.rd (Int.ofNat 0, Int.ofNat 0, Int.ofNat 0, ()) a2_3 k9).fst < (↑now5.length : Int) then
         if now5.getD (Go.Proofs.YtfkilmmldjajmaaSx.rd (Int.ofNat 0, Int.ofNat 0, Int.ofNat 0, ()) a2_3 k9).fst.toNat false = true then
           if 0 ≤ (Go.Proofs.YtfkilmmldjajmaaSx.rd (Int.ofNat 0, Int.ofNat 0, Int.ofNat 0, ()) a2_3 k9).snd.snd.fst then
           if (Go.Proofs.YtfkilmmldjajmaaSx.rd (Int.ofNat 0, Int.ofNat 0, Int.ofNat 0, ()) a2_3 k9).snd.snd.fst < (↑next8.length : Int) then
            evermoreref3_Reach.j12 k w1 i7 k9 a2_0 a2_1 a2_2 a2_3 a2_4 now5 (next8.set (Go.Proofs.YtfkilmmldjajmaaSx.rd (Int.ofNat 0, Int.ofNat 0, Int.ofNat 0, ()) a2_3 k9).snd.snd.fst.toNat true)
            else none
           else none
          else
           evermoreref3_Reach.j12 k w1 i7 k9 a2_0 a2_1 a2_2 a2_3 a2_4 now5 next8
         else none
        else none
       else
        evermoreref3_Reach.j12 k w1 i7 k9 a2_0 a2_1 a2_2 a2_3 a2_4 now5 next8
      else none
     else none
    else none
   else none
  else
   evermoreref3_Reach.l7 k w1 (Go.IntKind.i64.wrap (i7 + 1)) a2_0 a2_1 a2_2 a2_3 a2_4 next8
def evermoreref3_Reach.l18 : Nat → Int → Int → Int → List (Int) → List ((Int × (Int × (Int × Unit)))) → List (Int) → List (Bool) → Option (Bool)
 | 0, _, _, _, _, _, _, _ => none
 | k + 1, i11, a2_0, a2_1, a2_2, a2_3, a2_4, now5 =>
  if i11 < (↑a2_4.length : Int) then
   if 0 ≤ i11 then
   if i11 < (↑a2_4.length : Int) then
    if 0 ≤ Go.Proofs.YtfkilmmldjajmaaSx.rd (Int.ofNat 0) a2_4 i11 then
     if Go.Proofs.YtfkilmmldjajmaaSx.rd (Int.ofNat 0) a2_4 i11 < (↑now5.length : Int) then
      if now5.getD (Go.Proofs.YtfkilmmldjajmaaSx.rd (Int.ofNat 0) a2_4 i11).toNat false = true then
        some (true)
       else
        evermoreref3_Reach.l18 k (Go.IntKind.i64.wrap (i11 + 1)) a2_0 a2_1 a2_2 a2_3 a2_4 now5
      else none
     else none
    else none
   else none
  else
   some (false)
def evermoreref3_Reach.j12 : Nat → List (Int) → Int → Int → Int → Int → List (Int) → List ((Int × (Int × (Int × Unit)))) → List (Int) → List (Bool) → List (Bool) → Option (Bool)
 | 0, _, _, _, _, _, _, _, _, _, _ => none
 | k + 1, w1, i7, k9, a2_0, a2_1, a2_2, a2_3, a2_4, now5, next8 =>
  evermoreref3_Reach.l11 k w1 i7 (Go.IntKind.i64.wrap (k9 + 1)) a2_0 a2_1 a2_2 a2_3 a2_4 now5 next8
end
def evermoreref3_Reach.f (k : Nat) (a0 : (Int × (Int × (List (Int) × (List ((Int × (Int × (Int × Unit)))) × (List (Int) × Unit)))))) (w1 : List (Int)) : Option (Bool) :=
 if 0 ≤ a0.snd.fst then
 if a0.snd.fst ≤ a0.snd.fst then
  if a0.snd.fst * ((↑1 : Int) + 1) ≤ 281474976710656 then
   evermoreref3_Reach.l3 k w1 0 a0.fst a0.snd.fst a0.snd.snd.fst a0.snd.snd.snd.fst a0.snd.snd.snd.snd.fst (List.replicate a0.snd.fst.toNat false)
   else none
  else none
 else none

noncomputable def evermoreref3_Reach.body : Code := fnBody Try.f71
def evermoreref3_Reach.ti : Tm := ⟨[(0, .p (.pair (.int .i64) (.pair (.int .i64) (.pair (.slice (.int .i64)) (.pair (.slice (.pair (.int .i64) (.pair (.int .i64) (.pair (.int .i64) .unit)))) (.pair (.slice (.int .i64)) .unit)))))), (1, .p (.slice (.int .i64)))], []⟩
def evermoreref3_Reach.to : Tm := ⟨[(0, .p .bool)], []⟩
def evermoreref3_Reach.rs (r : Bool) : List Dat := [⟨.bool, r⟩]
def evermoreref3_Reach.out (ds : List Dat) : Option (Bool) := pop .bool ds fun x0 ds => popN ds (some (x0))
def evermoreref3_Reach.c (k : Nat) (ds : List Dat) : Option (Bool) := pop (.pair (.int .i64) (.pair (.int .i64) (.pair (.slice (.int .i64)) (.pair (.slice (.pair (.int .i64) (.pair (.int .i64) (.pair (.int .i64) .unit)))) (.pair (.slice (.int .i64)) .unit))))) ds fun x0 ds => pop (.slice (.int .i64)) ds fun x1 ds => popN ds (evermoreref3_Reach.f k x0 x1)
def evermoreref3_Reach.g : Nat → List Dat → Option (Bool)
 | 0, _ => none
 | k + 1, ds => evermoreref3_Reach.c k ds
def evermoreref3_Reach.env (k : Nat) : Nat → List SV → List Chunk → KT (Bool) → Option (Bool) := env0
def evermoreref3_Reach.t7 : Tm := ⟨[(1, .p (.slice (.int .i64))), (2, .ptr 0 0), (5, .own 1), (6, .p (.int .i64))], [.box [.p (.int .i64), .p (.int .i64), .p (.slice (.int .i64)), .p (.slice (.pair (.int .i64) (.pair (.int .i64) (.pair (.int .i64) .unit)))), .p (.slice (.int .i64))] 78, .own .bool]⟩
def evermoreref3_Reach.c7 (k : Nat) (ds : List Dat) : Option (Bool) := pop (.slice (.int .i64)) ds fun x0 ds => pop (.int .i64) ds fun x1 ds => pop (.int .i64) ds fun x2 ds => pop (.int .i64) ds fun x3 ds => pop (.slice (.int .i64)) ds fun x4 ds => pop (.slice (.pair (.int .i64) (.pair (.int .i64) (.pair (.int .i64) .unit)))) ds fun x5 ds => pop (.slice (.int .i64)) ds fun x6 ds => pop (.slice .bool) ds fun x7 ds => popN ds (evermoreref3_Reach.l3 k x0 x1 x2 x3 x4 x5 x6 x7)
def evermoreref3_Reach.t15 : Tm := ⟨[(1, .p (.slice (.int .i64))), (2, .ptr 0 0), (5, .own 1), (7, .p (.int .i64))], [.box [.p (.int .i64), .p (.int .i64), .p (.slice (.int .i64)), .p (.slice (.pair (.int .i64) (.pair (.int .i64) (.pair (.int .i64) .unit)))), .p (.slice (.int .i64))] 78, .own .bool]⟩
def evermoreref3_Reach.c15 (k : Nat) (ds : List Dat) : Option (Bool) := pop (.slice (.int .i64)) ds fun x0 ds => pop (.int .i64) ds fun x1 ds => pop (.int .i64) ds fun x2 ds => pop (.int .i64) ds fun x3 ds => pop (.slice (.int .i64)) ds fun x4 ds => pop (.slice (.pair (.int .i64) (.pair (.int .i64) (.pair (.int .i64) .unit)))) ds fun x5 ds => pop (.slice (.int .i64)) ds fun x6 ds => pop (.slice .bool) ds fun x7 ds => popN ds (evermoreref3_Reach.l7 k x0 x1 x2 x3 x4 x5 x6 x7)
def evermoreref3_Reach.t23 : Tm := ⟨[(1, .p (.slice (.int .i64))), (2, .ptr 0 0), (5, .own 1), (7, .p (.int .i64)), (8, .own 2), (9, .p (.int .i64))], [.box [.p (.int .i64), .p (.int .i64), .p (.slice (.int .i64)), .p (.slice (.pair (.int .i64) (.pair (.int .i64) (.pair (.int .i64) .unit)))), .p (.slice (.int .i64))] 78, .own .bool, .own .bool]⟩
def evermoreref3_Reach.c23 (k : Nat) (ds : List Dat) : Option (Bool) := pop (.slice (.int .i64)) ds fun x0 ds => pop (.int .i64) ds fun x1 ds => pop (.int .i64) ds fun x2 ds => pop (.int .i64) ds fun x3 ds => pop (.int .i64) ds fun x4 ds => pop (.slice (.int .i64)) ds fun x5 ds => pop (.slice (.pair (.int .i64) (.pair (.int .i64) (.pair (.int .i64) .unit)))) ds fun x6 ds => pop (.slice (.int .i64)) ds fun x7 ds => pop (.slice .bool) ds fun x8 ds => pop (.slice .bool) ds fun x9 ds => popN ds (evermoreref3_Reach.l11 k x0 x1 x2 x3 x4 x5 x6 x7 x8 x9)
def evermoreref3_Reach.t37 : Tm := ⟨[(2, .ptr 0 0), (5, .own 1), (11, .p (.int .i64))], [.box [.p (.int .i64), .p (.int .i64), .p (.slice (.int .i64)), .p (.slice (.pair (.int .i64) (.pair (.int .i64) (.pair (.int .i64) .unit)))), .p (.slice (.int .i64))] 78, .own .bool]⟩
def evermoreref3_Reach.c37 (k : Nat) (ds : List Dat) : Option (Bool) := pop (.int .i64) ds fun x0 ds => pop (.int .i64) ds fun x1 ds => pop (.int .i64) ds fun x2 ds => pop (.slice (.int .i64)) ds fun x3 ds => pop (.slice (.pair (.int .i64) (.pair (.int .i64) (.pair (.int .i64) .unit)))) ds fun x4 ds => pop (.slice (.int .i64)) ds fun x5 ds => pop (.slice .bool) ds fun x6 ds => popN ds (evermoreref3_Reach.l18 k x0 x1 x2 x3 x4 x5 x6)
def evermoreref3_Reach.t24 : Tm := ⟨[(1, .p (.slice (.int .i64))), (2, .ptr 0 0), (5, .own 1), (7, .p (.int .i64)), (8, .own 2), (9, .p (.int .i64))], [.box [.p (.int .i64), .p (.int .i64), .p (.slice (.int .i64)), .p (.slice (.pair (.int .i64) (.pair (.int .i64) (.pair (.int .i64) .unit)))), .p (.slice (.int .i64))] 78, .own .bool, .own .bool]⟩
def evermoreref3_Reach.c24 (k : Nat) (ds : List Dat) : Option (Bool) := pop (.slice (.int .i64)) ds fun x0 ds => pop (.int .i64) ds fun x1 ds => pop (.int .i64) ds fun x2 ds => pop (.int .i64) ds fun x3 ds => pop (.int .i64) ds fun x4 ds => pop (.slice (.int .i64)) ds fun x5 ds => pop (.slice (.pair (.int .i64) (.pair (.int .i64) (.pair (.int .i64) .unit)))) ds fun x6 ds => pop (.slice (.int .i64)) ds fun x7 ds => pop (.slice .bool) ds fun x8 ds => pop (.slice .bool) ds fun x9 ds => popN ds (evermoreref3_Reach.j12 k x0 x1 x2 x3 x4 x5 x6 x7 x8 x9)
def evermoreref3_Reach.tbl : List (Nat × Tm × (Nat → List Dat → Option (Bool))) := [(7, evermoreref3_Reach.t7, evermoreref3_Reach.c7), (15, evermoreref3_Reach.t15, evermoreref3_Reach.c15), (23, evermoreref3_Reach.t23, evermoreref3_Reach.c23), (37, evermoreref3_Reach.t37, evermoreref3_Reach.c37), (24, evermoreref3_Reach.t24, evermoreref3_Reach.c24)]
noncomputable abbrev evermoreref3_Reach.R (k : Nat) := run T (evermoreref3_Reach.env k) Try.f71.ntmps (cutE 0 evermoreref3_Reach.tbl k) (finE 0 evermoreref3_Reach.to evermoreref3_Reach.out) (fnRes Try.f71) [12] 100000 true
theorem evermoreref3_Reach.e7 (k : Nat) (x0 : (List Int)) (x1 : Int) (x2 : Int) (x3 : Int) (x4 : (List Int)) (x5 : (List (Int × (Int × (Int × Unit))))) (x6 : (List Int)) (x7 : (List Bool)) : evermoreref3_Reach.l3 (k + 1) x0 x1 x2 x3 x4 x5 x6 x7 = evermoreref3_Reach.R k (start (stackOf 7 evermoreref3_Reach.body)) (evermoreref3_Reach.t7.fill [⟨(.slice (.int .i64)), x0⟩, ⟨(.int .i64), x1⟩, ⟨(.int .i64), x2⟩, ⟨(.int .i64), x3⟩, ⟨(.slice (.int .i64)), x4⟩, ⟨(.slice (.pair (.int .i64) (.pair (.int .i64) (.pair (.int .i64) .unit)))), x5⟩, ⟨(.slice (.int .i64)), x6⟩, ⟨(.slice .bool), x7⟩]) := by kernel_rfl
theorem evermoreref3_Reach.s7 : stackAt 7 evermoreref3_Reach.body [] = some (stackOf 7 evermoreref3_Reach.body) := by kernel_rfl
theorem evermoreref3_Reach.h7 (k : Nat) (ds : List Dat) (r : Bool) (h : evermoreref3_Reach.c7 k ds = some r) : ∃ k', k' < k ∧ ∃ s, stackAt 7 evermoreref3_Reach.body [] = some s ∧ evermoreref3_Reach.R k' (start s) (evermoreref3_Reach.t7.fill ds) = some r := by
  unfold evermoreref3_Reach.c7 at h
  obtain ⟨x0, d0, rfl, h0⟩ := pop_some h
  obtain ⟨x1, d1, rfl, h1⟩ := pop_some h0
  obtain ⟨x2, d2, rfl, h2⟩ := pop_some h1
  obtain ⟨x3, d3, rfl, h3⟩ := pop_some h2
  obtain ⟨x4, d4, rfl, h4⟩ := pop_some h3
  obtain ⟨x5, d5, rfl, h5⟩ := pop_some h4
  obtain ⟨x6, d6, rfl, h6⟩ := pop_some h5
  obtain ⟨x7, d7, rfl, h7⟩ := pop_some h6
  obtain ⟨rfl, g⟩ := popN_some h7
  cases k with
  | zero => cases (show none = some r from g)
  | succ k => exact ⟨k, Nat.lt_succ_self k, _, evermoreref3_Reach.s7, (evermoreref3_Reach.e7 k x0 x1 x2 x3 x4 x5 x6 x7).symm.trans g⟩
theorem evermoreref3_Reach.e15 (k : Nat) (x0 : (List Int)) (x1 : Int) (x2 : Int) (x3 : Int) (x4 : (List Int)) (x5 : (List (Int × (Int × (Int × Unit))))) (x6 : (List Int)) (x7 : (List Bool)) : evermoreref3_Reach.l7 (k + 1) x0 x1 x2 x3 x4 x5 x6 x7 = evermoreref3_Reach.R k (start (stackOf 15 evermoreref3_Reach.body)) (evermoreref3_Reach.t15.fill [⟨(.slice (.int .i64)), x0⟩, ⟨(.int .i64), x1⟩, ⟨(.int .i64), x2⟩, ⟨(.int .i64), x3⟩, ⟨(.slice (.int .i64)), x4⟩, ⟨(.slice (.pair (.int .i64) (.pair (.int .i64) (.pair (.int .i64) .unit)))), x5⟩, ⟨(.slice (.int .i64)), x6⟩, ⟨(.slice .bool), x7⟩]) := by kernel_rfl
theorem evermoreref3_Reach.s15 : stackAt 15 evermoreref3_Reach.body [] = some (stackOf 15 evermoreref3_Reach.body) := by kernel_rfl
theorem evermoreref3_Reach.h15 (k : Nat) (ds : List Dat) (r : Bool) (h : evermoreref3_Reach.c15 k ds = some r) : ∃ k', k' < k ∧ ∃ s, stackAt 15 evermoreref3_Reach.body [] = some s ∧ evermoreref3_Reach.R k' (start s) (evermoreref3_Reach.t15.fill ds) = some r := by
  unfold evermoreref3_Reach.c15 at h
  obtain ⟨x0, d0, rfl, h0⟩ := pop_some h
  obtain ⟨x1, d1, rfl, h1⟩ := pop_some h0
  obtain ⟨x2, d2, rfl, h2⟩ := pop_some h1
  obtain ⟨x3, d3, rfl, h3⟩ := pop_some h2
  obtain ⟨x4, d4, rfl, h4⟩ := pop_some h3
  obtain ⟨x5, d5, rfl, h5⟩ := pop_some h4
  obtain ⟨x6, d6, rfl, h6⟩ := pop_some h5
  obtain ⟨x7, d7, rfl, h7⟩ := pop_some h6
  obtain ⟨rfl, g⟩ := popN_some h7
  cases k with
  | zero => cases (show none = some r from g)
  | succ k => exact ⟨k, Nat.lt_succ_self k, _, evermoreref3_Reach.s15, (evermoreref3_Reach.e15 k x0 x1 x2 x3 x4 x5 x6 x7).symm.trans g⟩
theorem evermoreref3_Reach.e23 (k : Nat) (x0 : (List Int)) (x1 : Int) (x2 : Int) (x3 : Int) (x4 : Int) (x5 : (List Int)) (x6 : (List (Int × (Int × (Int × Unit))))) (x7 : (List Int)) (x8 : (List Bool)) (x9 : (List Bool)) : evermoreref3_Reach.l11 (k + 1) x0 x1 x2 x3 x4 x5 x6 x7 x8 x9 = evermoreref3_Reach.R k (start (stackOf 23 evermoreref3_Reach.body)) (evermoreref3_Reach.t23.fill [⟨(.slice (.int .i64)), x0⟩, ⟨(.int .i64), x1⟩, ⟨(.int .i64), x2⟩, ⟨(.int .i64), x3⟩, ⟨(.int .i64), x4⟩, ⟨(.slice (.int .i64)), x5⟩, ⟨(.slice (.pair (.int .i64) (.pair (.int .i64) (.pair (.int .i64) .unit)))), x6⟩, ⟨(.slice (.int .i64)), x7⟩, ⟨(.slice .bool), x8⟩, ⟨(.slice .bool), x9⟩]) := by kernel_rfl
theorem evermoreref3_Reach.s23 : stackAt 23 evermoreref3_Reach.body [] = some (stackOf 23 evermoreref3_Reach.body) := by kernel_rfl
theorem evermoreref3_Reach.h23 (k : Nat) (ds : List Dat) (r : Bool) (h : evermoreref3_Reach.c23 k ds = some r) : ∃ k', k' < k ∧ ∃ s, stackAt 23 evermoreref3_Reach.body [] = some s ∧ evermoreref3_Reach.R k' (start s) (evermoreref3_Reach.t23.fill ds) = some r := by
  unfold evermoreref3_Reach.c23 at h
  obtain ⟨x0, d0, rfl, h0⟩ := pop_some h
  obtain ⟨x1, d1, rfl, h1⟩ := pop_some h0
  obtain ⟨x2, d2, rfl, h2⟩ := pop_some h1
  obtain ⟨x3, d3, rfl, h3⟩ := pop_some h2
  obtain ⟨x4, d4, rfl, h4⟩ := pop_some h3
  obtain ⟨x5, d5, rfl, h5⟩ := pop_some h4
  obtain ⟨x6, d6, rfl, h6⟩ := pop_some h5
  obtain ⟨x7, d7, rfl, h7⟩ := pop_some h6
  obtain ⟨x8, d8, rfl, h8⟩ := pop_some h7
  obtain ⟨x9, d9, rfl, h9⟩ := pop_some h8
  obtain ⟨rfl, g⟩ := popN_some h9
  cases k with
  | zero => cases (show none = some r from g)
  | succ k => exact ⟨k, Nat.lt_succ_self k, _, evermoreref3_Reach.s23, (evermoreref3_Reach.e23 k x0 x1 x2 x3 x4 x5 x6 x7 x8 x9).symm.trans g⟩
theorem evermoreref3_Reach.e37 (k : Nat) (x0 : Int) (x1 : Int) (x2 : Int) (x3 : (List Int)) (x4 : (List (Int × (Int × (Int × Unit))))) (x5 : (List Int)) (x6 : (List Bool)) : evermoreref3_Reach.l18 (k + 1) x0 x1 x2 x3 x4 x5 x6 = evermoreref3_Reach.R k (start (stackOf 37 evermoreref3_Reach.body)) (evermoreref3_Reach.t37.fill [⟨(.int .i64), x0⟩, ⟨(.int .i64), x1⟩, ⟨(.int .i64), x2⟩, ⟨(.slice (.int .i64)), x3⟩, ⟨(.slice (.pair (.int .i64) (.pair (.int .i64) (.pair (.int .i64) .unit)))), x4⟩, ⟨(.slice (.int .i64)), x5⟩, ⟨(.slice .bool), x6⟩]) := by kernel_rfl
theorem evermoreref3_Reach.s37 : stackAt 37 evermoreref3_Reach.body [] = some (stackOf 37 evermoreref3_Reach.body) := by kernel_rfl
theorem evermoreref3_Reach.h37 (k : Nat) (ds : List Dat) (r : Bool) (h : evermoreref3_Reach.c37 k ds = some r) : ∃ k', k' < k ∧ ∃ s, stackAt 37 evermoreref3_Reach.body [] = some s ∧ evermoreref3_Reach.R k' (start s) (evermoreref3_Reach.t37.fill ds) = some r := by
  unfold evermoreref3_Reach.c37 at h
  obtain ⟨x0, d0, rfl, h0⟩ := pop_some h
  obtain ⟨x1, d1, rfl, h1⟩ := pop_some h0
  obtain ⟨x2, d2, rfl, h2⟩ := pop_some h1
  obtain ⟨x3, d3, rfl, h3⟩ := pop_some h2
  obtain ⟨x4, d4, rfl, h4⟩ := pop_some h3
  obtain ⟨x5, d5, rfl, h5⟩ := pop_some h4
  obtain ⟨x6, d6, rfl, h6⟩ := pop_some h5
  obtain ⟨rfl, g⟩ := popN_some h6
  cases k with
  | zero => cases (show none = some r from g)
  | succ k => exact ⟨k, Nat.lt_succ_self k, _, evermoreref3_Reach.s37, (evermoreref3_Reach.e37 k x0 x1 x2 x3 x4 x5 x6).symm.trans g⟩
theorem evermoreref3_Reach.e24 (k : Nat) (x0 : (List Int)) (x1 : Int) (x2 : Int) (x3 : Int) (x4 : Int) (x5 : (List Int)) (x6 : (List (Int × (Int × (Int × Unit))))) (x7 : (List Int)) (x8 : (List Bool)) (x9 : (List Bool)) : evermoreref3_Reach.j12 (k + 1) x0 x1 x2 x3 x4 x5 x6 x7 x8 x9 = evermoreref3_Reach.R k (start (stackOf 24 evermoreref3_Reach.body)) (evermoreref3_Reach.t24.fill [⟨(.slice (.int .i64)), x0⟩, ⟨(.int .i64), x1⟩, ⟨(.int .i64), x2⟩, ⟨(.int .i64), x3⟩, ⟨(.int .i64), x4⟩, ⟨(.slice (.int .i64)), x5⟩, ⟨(.slice (.pair (.int .i64) (.pair (.int .i64) (.pair (.int .i64) .unit)))), x6⟩, ⟨(.slice (.int .i64)), x7⟩, ⟨(.slice .bool), x8⟩, ⟨(.slice .bool), x9⟩]) := by kernel_rfl
theorem evermoreref3_Reach.s24 : stackAt 24 evermoreref3_Reach.body [] = some (stackOf 24 evermoreref3_Reach.body) := by kernel_rfl
theorem evermoreref3_Reach.h24 (k : Nat) (ds : List Dat) (r : Bool) (h : evermoreref3_Reach.c24 k ds = some r) : ∃ k', k' < k ∧ ∃ s, stackAt 24 evermoreref3_Reach.body [] = some s ∧ evermoreref3_Reach.R k' (start s) (evermoreref3_Reach.t24.fill ds) = some r := by
  unfold evermoreref3_Reach.c24 at h
  obtain ⟨x0, d0, rfl, h0⟩ := pop_some h
  obtain ⟨x1, d1, rfl, h1⟩ := pop_some h0
  obtain ⟨x2, d2, rfl, h2⟩ := pop_some h1
  obtain ⟨x3, d3, rfl, h3⟩ := pop_some h2
  obtain ⟨x4, d4, rfl, h4⟩ := pop_some h3
  obtain ⟨x5, d5, rfl, h5⟩ := pop_some h4
  obtain ⟨x6, d6, rfl, h6⟩ := pop_some h5
  obtain ⟨x7, d7, rfl, h7⟩ := pop_some h6
  obtain ⟨x8, d8, rfl, h8⟩ := pop_some h7
  obtain ⟨x9, d9, rfl, h9⟩ := pop_some h8
  obtain ⟨rfl, g⟩ := popN_some h9
  cases k with
  | zero => cases (show none = some r from g)
  | succ k => exact ⟨k, Nat.lt_succ_self k, _, evermoreref3_Reach.s24, (evermoreref3_Reach.e24 k x0 x1 x2 x3 x4 x5 x6 x7 x8 x9).symm.trans g⟩
theorem evermoreref3_Reach.e (k : Nat) (x0 : (Int × (Int × ((List Int) × ((List (Int × (Int × (Int × Unit)))) × ((List Int) × Unit)))))) (x1 : (List Int)) : evermoreref3_Reach.f k x0 x1 = evermoreref3_Reach.R k ([.code evermoreref3_Reach.body]) (evermoreref3_Reach.ti.fill [⟨(.pair (.int .i64) (.pair (.int .i64) (.pair (.slice (.int .i64)) (.pair (.slice (.pair (.int .i64) (.pair (.int .i64) (.pair (.int .i64) .unit)))) (.pair (.slice (.int .i64)) .unit))))), x0⟩, ⟨(.slice (.int .i64)), x1⟩]) := by kernel_rfl
theorem evermoreref3_Reach.h (k : Nat) (ds : List Dat) (r : Bool) (h : evermoreref3_Reach.g k ds = some r) : ∃ k', k' < k ∧ evermoreref3_Reach.R k' ([.code evermoreref3_Reach.body]) (evermoreref3_Reach.ti.fill ds) = some r := by
  cases k with
  | zero => cases (show none = some r from h)
  | succ k =>
  replace h : evermoreref3_Reach.c k ds = some r := h
  unfold evermoreref3_Reach.c at h
  obtain ⟨x0, d0, rfl, h0⟩ := pop_some h
  obtain ⟨x1, d1, rfl, h1⟩ := pop_some h0
  obtain ⟨rfl, g⟩ := popN_some h1
  exact ⟨k, Nat.lt_succ_self k, (evermoreref3_Reach.e k x0 x1).symm.trans g⟩
theorem evermoreref3_Reach.o (ds : List Dat) (r : Bool) (h : evermoreref3_Reach.out ds = some r) : ds = evermoreref3_Reach.rs r := by
  unfold evermoreref3_Reach.out at h
  obtain ⟨x0, d0, rfl, h0⟩ := pop_some h
  obtain ⟨rfl, g⟩ := popN_some h0
  cases g
  rfl
theorem evermoreref3_Reach.fn : FnOk Try.prog 71 Try.f71 evermoreref3_Reach.body Try.f71.ntmps 2 (fnRes Try.f71) :=
  fnOk_of (by kernel_rfl) (by kernel_rfl) (by kernel_rfl) (by kernel_rfl)
theorem evermoreref3_Reach.con' : ∀ k ds r, evermoreref3_Reach.g k ds = some r → Con Try.prog 71 2 evermoreref3_Reach.ti evermoreref3_Reach.to ds (evermoreref3_Reach.rs r) :=
  fun_ok (T := T) T_ok mixed evermoreref3_Reach.fn (env := evermoreref3_Reach.env) (tbl := evermoreref3_Reach.tbl) (gOut := evermoreref3_Reach.out) (nin := 0) (cuts := [12]) (fuel := 100000) rfl (by kernel_rfl) (by kernel_rfl) (by kernel_rfl) (fun x hx => by
    simp only [evermoreref3_Reach.tbl, List.mem_cons, List.not_mem_nil, or_false] at hx
    rcases hx with rfl | rfl | rfl | rfl | rfl
    · exact evermoreref3_Reach.h7
    · exact evermoreref3_Reach.h15
    · exact evermoreref3_Reach.h23
    · exact evermoreref3_Reach.h37
    · exact evermoreref3_Reach.h24
) evermoreref3_Reach.o evermoreref3_Reach.h (fun k _ => by unfold evermoreref3_Reach.env; exact env0_ok)
theorem evermoreref3_Reach.con (k : Nat) {x0 : (Int × (Int × ((List Int) × ((List (Int × (Int × (Int × Unit)))) × ((List Int) × Unit)))))} {x1 : (List Int)} (r : Bool) (h : evermoreref3_Reach.f k x0 x1 = some r) : Con Try.prog 71 2 evermoreref3_Reach.ti evermoreref3_Reach.to [⟨(.pair (.int .i64) (.pair (.int .i64) (.pair (.slice (.int .i64)) (.pair (.slice (.pair (.int .i64) (.pair (.int .i64) (.pair (.int .i64) .unit)))) (.pair (.slice (.int .i64)) .unit))))), x0⟩, ⟨(.slice (.int .i64)), x1⟩] (evermoreref3_Reach.rs r) :=
  evermoreref3_Reach.con' (k + 1) _ r (by show evermoreref3_Reach.c k _ = some r; unfold evermoreref3_Reach.c; simp only [pop_self, popN]; exact h)
mutual
def det_Smallest.l4 : Nat → Int → Int → Int → Int → List (List (Int)) → List (Int) → Int → Int → List (Int) → List (List (Int)) → List (Int) → List (Int) → Option (Int × Int × List (List Int) × List Int)
 | 0, _, _, _, _, _, _, _, _, _, _, _, _ => none
 | k + 1, x15, x16, d1_0, d1_1, d1_2, d1_3, x2_0, x2_1, x14, c5, c6, c7 =>
  if x16 < x15 then
   if 0 ≤ x16 then
   if x16 < (↑x14.length : Int) then
    if 0 ≤ x14.getD x16.toNat (Int.ofNat 0) then
     if x14.getD x16.toNat (Int.ofNat 0) < (↑c7.length : Int) then
      det_Smallest.l4 k x15 (Go.IntKind.i64.wrap (x16 + 1)) d1_0 d1_1 d1_2 d1_3 x2_0 x2_1 x14 c5 c6 (c7.set (x14.getD x16.toNat (Int.ofNat 0)).toNat x16)
      else none
     else none
    else none
   else none
  else
   if 0 ≤ d1_1 then
   if d1_1 < (↑x14.length : Int) then
    (det_Explore_int__2.f k d1_0 (x14.getD d1_1.toNat (Int.ofNat 0)) (Go.IntKind.i64.wrap ((↑x14.length : Int) + 1)) d1_0 d1_1 d1_2 d1_3 x14 c7).bind fun r5 =>
      some (r5.fst, r5.snd.fst, r5.snd.snd.snd.snd.snd.snd.snd.snd.snd.fst, r5.snd.snd.snd.snd.snd.snd.snd.snd.snd.snd)
    else none
   else none
end
def det_Smallest.f (k : Nat) (d0 : (Int × (Int × (List (List (Int)) × (List (Int) × Unit))))) : Option (Int × Int × List (List Int) × List Int) :=
 (det_Classes.f k (d0.fst, d0.snd.fst, d0.snd.snd.fst, d0.snd.snd.snd.fst, ())).bind fun r1 =>
  if 0 ≤ (↑r1.length : Int) then
  if (↑r1.length : Int) ≤ (↑r1.length : Int) then
   if (↑r1.length : Int) * ((↑8 : Int) + 1) ≤ 281474976710656 then
    det_Smallest.l4 k ((↑r1.length : Int)) 0 d0.fst d0.snd.fst d0.snd.snd.fst d0.snd.snd.snd.fst 0 0 r1 [] [] (List.replicate (↑r1.length : Int).toNat (Int.ofNat 0))
    else none
   else none
  else none

noncomputable def det_Smallest.body : Code := fnBody Try.f108
def det_Smallest.ti : Tm := ⟨[(0, .p (.pair (.int .i64) (.pair (.int .i64) (.pair (.slice (.slice (.int .i64))) (.pair (.slice (.int .i64)) .unit)))))], []⟩
def det_Smallest.to : Tm := ⟨[(0, .agg [.p (.int .i64), .p (.int .i64), .own 0, .own 1])], [.own (.slice (.int .i64)), .own (.int .i64)]⟩
def det_Smallest.rs (r : Int × Int × (List (List Int)) × (List Int)) : List Dat := [⟨(.int .i64), r.1⟩, ⟨(.int .i64), r.2.1⟩, ⟨(.slice (.slice (.int .i64))), r.2.2.1⟩, ⟨(.slice (.int .i64)), r.2.2.2⟩]
def det_Smallest.out (ds : List Dat) : Option (Int × Int × (List (List Int)) × (List Int)) := pop (.int .i64) ds fun x0 ds => pop (.int .i64) ds fun x1 ds => pop (.slice (.slice (.int .i64))) ds fun x2 ds => pop (.slice (.int .i64)) ds fun x3 ds => popN ds (some (x0, x1, x2, x3))
def det_Smallest.c (k : Nat) (ds : List Dat) : Option (Int × Int × (List (List Int)) × (List Int)) := pop (.pair (.int .i64) (.pair (.int .i64) (.pair (.slice (.slice (.int .i64))) (.pair (.slice (.int .i64)) .unit)))) ds fun x0 ds => popN ds (det_Smallest.f k x0)
def det_Smallest.g : Nat → List Dat → Option (Int × Int × (List (List Int)) × (List Int))
 | 0, _ => none
 | k + 1, ds => det_Smallest.c k ds
def det_Smallest.env (k : Nat) : Nat → List SV → List Chunk → KT (Int × Int × (List (List Int)) × (List Int)) → Option (Int × Int × (List (List Int)) × (List Int)) := (envC 124 5 det_Explore_int__2.ti det_Explore_int__2.to (fun ds K => pop (.int .i64) ds fun x0 ds => pop (.int .i64) ds fun x1 ds => pop (.int .i64) ds fun x2 ds => pop (.int .i64) ds fun x3 ds => pop (.int .i64) ds fun x4 ds => pop (.slice (.slice (.int .i64))) ds fun x5 ds => pop (.slice (.int .i64)) ds fun x6 ds => pop (.slice (.int .i64)) ds fun x7 ds => pop (.slice (.int .i64)) ds fun x8 ds => popN ds ((det_Explore_int__2.f k x0 x1 x2 x3 x4 x5 x6 x7 x8).bind fun r => K (det_Explore_int__2.rs r))) (envC 161 1 det_Classes.ti det_Classes.to (fun ds K => pop (.pair (.int .i64) (.pair (.int .i64) (.pair (.slice (.slice (.int .i64))) (.pair (.slice (.int .i64)) .unit)))) ds fun x0 ds => popN ds ((det_Classes.f k x0).bind fun r => K (det_Classes.rs r))) env0))
def det_Smallest.t9 : Tm := ⟨[(1, .ptr 0 0), (2, .ptr 1 0), (3, .ptr 2 0), (4, .ptr 3 0), (14, .own 4), (15, .p (.int .i64)), (16, .p (.int .i64))], [.box [.p (.int .i64), .p (.int .i64), .p (.slice (.slice (.int .i64))), .p (.slice (.int .i64))] 60, .box [.p (.int .i64), .p (.int .i64), .own 5, .own 6] 60, .box [.own 4] 23, .box [.own 7] 23, .own (.int .i64), .own (.slice (.int .i64)), .own (.int .i64), .own (.int .i64)]⟩
def det_Smallest.c9 (k : Nat) (ds : List Dat) : Option (Int × Int × (List (List Int)) × (List Int)) := pop (.int .i64) ds fun x0 ds => pop (.int .i64) ds fun x1 ds => pop (.int .i64) ds fun x2 ds => pop (.int .i64) ds fun x3 ds => pop (.slice (.slice (.int .i64))) ds fun x4 ds => pop (.slice (.int .i64)) ds fun x5 ds => pop (.int .i64) ds fun x6 ds => pop (.int .i64) ds fun x7 ds => pop (.slice (.int .i64)) ds fun x8 ds => pop (.slice (.slice (.int .i64))) ds fun x9 ds => pop (.slice (.int .i64)) ds fun x10 ds => pop (.slice (.int .i64)) ds fun x11 ds => popN ds (det_Smallest.l4 k x0 x1 x2 x3 x4 x5 x6 x7 x8 x9 x10 x11)
def det_Smallest.tbl : List (Nat × Tm × (Nat → List Dat → Option (Int × Int × (List (List Int)) × (List Int)))) := [(9, det_Smallest.t9, det_Smallest.c9)]
noncomputable abbrev det_Smallest.R (k : Nat) := run T (det_Smallest.env k) Try.f108.ntmps (cutE 0 det_Smallest.tbl k) (finE 0 det_Smallest.to det_Smallest.out) (fnRes Try.f108) [] 100000 true
theorem det_Smallest.e9 (k : Nat) (x0 : Int) (x1 : Int) (x2 : Int) (x3 : Int) (x4 : (List (List Int))) (x5 : (List Int)) (x6 : Int) (x7 : Int) (x8 : (List Int)) (x9 : (List (List Int))) (x10 : (List Int)) (x11 : (List Int)) : det_Smallest.l4 (k + 1) x0 x1 x2 x3 x4 x5 x6 x7 x8 x9 x10 x11 = det_Smallest.R k (start (stackOf 9 det_Smallest.body)) (det_Smallest.t9.fill [⟨(.int .i64), x0⟩, ⟨(.int .i64), x1⟩, ⟨(.int .i64), x2⟩, ⟨(.int .i64), x3⟩, ⟨(.slice (.slice (.int .i64))), x4⟩, ⟨(.slice (.int .i64)), x5⟩, ⟨(.int .i64), x6⟩, ⟨(.int .i64), x7⟩, ⟨(.slice (.int .i64)), x8⟩, ⟨(.slice (.slice (.int .i64))), x9⟩, ⟨(.slice (.int .i64)), x10⟩, ⟨(.slice (.int .i64)), x11⟩]) := by kernel_rfl
theorem det_Smallest.s9 : stackAt 9 det_Smallest.body [] = some (stackOf 9 det_Smallest.body) := by kernel_rfl
theorem det_Smallest.h9 (k : Nat) (ds : List Dat) (r : Int × Int × (List (List Int)) × (List Int)) (h : det_Smallest.c9 k ds = some r) : ∃ k', k' < k ∧ ∃ s, stackAt 9 det_Smallest.body [] = some s ∧ det_Smallest.R k' (start s) (det_Smallest.t9.fill ds) = some r := by
  unfold det_Smallest.c9 at h
  obtain ⟨x0, d0, rfl, h0⟩ := pop_some h
  obtain ⟨x1, d1, rfl, h1⟩ := pop_some h0
  obtain ⟨x2, d2, rfl, h2⟩ := pop_some h1
  obtain ⟨x3, d3, rfl, h3⟩ := pop_some h2
  obtain ⟨x4, d4, rfl, h4⟩ := pop_some h3
  obtain ⟨x5, d5, rfl, h5⟩ := pop_some h4
  obtain ⟨x6, d6, rfl, h6⟩ := pop_some h5
  obtain ⟨x7, d7, rfl, h7⟩ := pop_some h6
  obtain ⟨x8, d8, rfl, h8⟩ := pop_some h7
  obtain ⟨x9, d9, rfl, h9⟩ := pop_some h8
  obtain ⟨x10, d10, rfl, h10⟩ := pop_some h9
  obtain ⟨x11, d11, rfl, h11⟩ := pop_some h10
  obtain ⟨rfl, g⟩ := popN_some h11
  cases k with
  | zero => cases (show none = some r from g)
  | succ k => exact ⟨k, Nat.lt_succ_self k, _, det_Smallest.s9, (det_Smallest.e9 k x0 x1 x2 x3 x4 x5 x6 x7 x8 x9 x10 x11).symm.trans g⟩
theorem det_Smallest.e (k : Nat) (x0 : (Int × (Int × ((List (List Int)) × ((List Int) × Unit))))) : det_Smallest.f k x0 = det_Smallest.R k ([.code det_Smallest.body]) (det_Smallest.ti.fill [⟨(.pair (.int .i64) (.pair (.int .i64) (.pair (.slice (.slice (.int .i64))) (.pair (.slice (.int .i64)) .unit)))), x0⟩]) := by kernel_rfl
theorem det_Smallest.h (k : Nat) (ds : List Dat) (r : Int × Int × (List (List Int)) × (List Int)) (h : det_Smallest.g k ds = some r) : ∃ k', k' < k ∧ det_Smallest.R k' ([.code det_Smallest.body]) (det_Smallest.ti.fill ds) = some r := by
  cases k with
  | zero => cases (show none = some r from h)
  | succ k =>
  replace h : det_Smallest.c k ds = some r := h
  unfold det_Smallest.c at h
  obtain ⟨x0, d0, rfl, h0⟩ := pop_some h
  obtain ⟨rfl, g⟩ := popN_some h0
  exact ⟨k, Nat.lt_succ_self k, (det_Smallest.e k x0).symm.trans g⟩
theorem det_Smallest.o (ds : List Dat) (r : Int × Int × (List (List Int)) × (List Int)) (h : det_Smallest.out ds = some r) : ds = det_Smallest.rs r := by
  unfold det_Smallest.out at h
  obtain ⟨x0, d0, rfl, h0⟩ := pop_some h
  obtain ⟨x1, d1, rfl, h1⟩ := pop_some h0
  obtain ⟨x2, d2, rfl, h2⟩ := pop_some h1
  obtain ⟨x3, d3, rfl, h3⟩ := pop_some h2
  obtain ⟨rfl, g⟩ := popN_some h3
  cases g
  rfl
theorem det_Smallest.fn : FnOk Try.prog 108 Try.f108 det_Smallest.body Try.f108.ntmps 1 (fnRes Try.f108) :=
  fnOk_of (by kernel_rfl) (by kernel_rfl) (by kernel_rfl) (by kernel_rfl)
theorem det_Smallest.con' : ∀ k ds r, det_Smallest.g k ds = some r → Con Try.prog 108 1 det_Smallest.ti det_Smallest.to ds (det_Smallest.rs r) :=
  fun_ok (T := T) T_ok mixed det_Smallest.fn (env := det_Smallest.env) (tbl := det_Smallest.tbl) (gOut := det_Smallest.out) (nin := 0) (cuts := []) (fuel := 100000) rfl (by kernel_rfl) (by kernel_rfl) (by kernel_rfl) (fun x hx => by
    simp only [det_Smallest.tbl, List.mem_cons, List.not_mem_nil, or_false] at hx
    subst hx
    · exact det_Smallest.h9
) det_Smallest.o det_Smallest.h (fun k _ => by unfold det_Smallest.env; exact (envC_ok (fun ds K r h => by
    obtain ⟨x0, d0, rfl, h0⟩ := pop_some h
    obtain ⟨x1, d1, rfl, h1⟩ := pop_some h0
    obtain ⟨x2, d2, rfl, h2⟩ := pop_some h1
    obtain ⟨x3, d3, rfl, h3⟩ := pop_some h2
    obtain ⟨x4, d4, rfl, h4⟩ := pop_some h3
    obtain ⟨x5, d5, rfl, h5⟩ := pop_some h4
    obtain ⟨x6, d6, rfl, h6⟩ := pop_some h5
    obtain ⟨x7, d7, rfl, h7⟩ := pop_some h6
    obtain ⟨x8, d8, rfl, h8⟩ := pop_some h7
    obtain ⟨rfl, g⟩ := popN_some h8
    obtain ⟨r1, h1, h2⟩ := bind_some g
    exact ⟨_, h2, det_Explore_int__2.con k _ h1⟩) (envC_ok (fun ds K r h => by
    obtain ⟨x0, d0, rfl, h0⟩ := pop_some h
    obtain ⟨rfl, g⟩ := popN_some h0
    obtain ⟨r1, h1, h2⟩ := bind_some g
    exact ⟨_, h2, det_Classes.con k _ h1⟩) env0_ok)))
theorem det_Smallest.con (k : Nat) {x0 : (Int × (Int × ((List (List Int)) × ((List Int) × Unit))))} (r : Int × Int × (List (List Int)) × (List Int)) (h : det_Smallest.f k x0 = some r) : Con Try.prog 108 1 det_Smallest.ti det_Smallest.to [⟨(.pair (.int .i64) (.pair (.int .i64) (.pair (.slice (.slice (.int .i64))) (.pair (.slice (.int .i64)) .unit)))), x0⟩] (det_Smallest.rs r) :=
  det_Smallest.con' (k + 1) _ r (by show det_Smallest.c k _ = some r; unfold det_Smallest.c; simp only [pop_self, popN]; exact h)
def det_Made.f (k : Nat) (a0 : (Int × (Int × (List (Int) × (List ((Int × (Int × (Int × Unit)))) × (List (Int) × Unit)))))) : Option (Int × Int × Int × List (List Int) × List Int) :=
 (buchi_Check.f k (a0.fst, a0.snd.fst, a0.snd.snd.fst, a0.snd.snd.snd.fst, a0.snd.snd.snd.snd.fst, ())).bind fun r1 =>
  if r1 = 0 then
   if 8 < a0.snd.fst then
    some (0, 0, 1, [], [])
   else
    (det_Made_1.f k a0.snd.snd.snd.snd.fst).bind fun r4 =>
     (det_Made_1.f k a0.snd.snd.fst).bind fun r5 =>
      (det_Explore_int_.f k a0.fst r5 (Int.ofNat 3000) a0.fst a0.snd.fst a0.snd.snd.fst a0.snd.snd.snd.fst a0.snd.snd.snd.snd.fst r4).bind fun r6 =>
       (det_Smallest.f k (r6.fst, r6.snd.fst, r6.snd.snd.snd.snd.snd.snd.snd.snd.snd.fst, r6.snd.snd.snd.snd.snd.snd.snd.snd.snd.snd, ())).bind fun r7 =>
        some (r7.fst, r7.snd.fst, 0, r7.snd.snd.fst, r7.snd.snd.snd)
  else
   some (0, 0, r1, [], [])

noncomputable def det_Made.body : Code := fnBody Try.f69
def det_Made.ti : Tm := ⟨[(0, .p (.pair (.int .i64) (.pair (.int .i64) (.pair (.slice (.int .i64)) (.pair (.slice (.pair (.int .i64) (.pair (.int .i64) (.pair (.int .i64) .unit)))) (.pair (.slice (.int .i64)) .unit))))))], []⟩
def det_Made.to : Tm := ⟨[(0, .agg [.p (.int .i64), .p (.int .i64), .own 0, .own 1]), (1, .p (.int .i64))], [.own (.slice (.int .i64)), .own (.int .i64)]⟩
def det_Made.rs (r : Int × Int × Int × (List (List Int)) × (List Int)) : List Dat := [⟨(.int .i64), r.1⟩, ⟨(.int .i64), r.2.1⟩, ⟨(.int .i64), r.2.2.1⟩, ⟨(.slice (.slice (.int .i64))), r.2.2.2.1⟩, ⟨(.slice (.int .i64)), r.2.2.2.2⟩]
def det_Made.out (ds : List Dat) : Option (Int × Int × Int × (List (List Int)) × (List Int)) := pop (.int .i64) ds fun x0 ds => pop (.int .i64) ds fun x1 ds => pop (.int .i64) ds fun x2 ds => pop (.slice (.slice (.int .i64))) ds fun x3 ds => pop (.slice (.int .i64)) ds fun x4 ds => popN ds (some (x0, x1, x2, x3, x4))
def det_Made.c (k : Nat) (ds : List Dat) : Option (Int × Int × Int × (List (List Int)) × (List Int)) := pop (.pair (.int .i64) (.pair (.int .i64) (.pair (.slice (.int .i64)) (.pair (.slice (.pair (.int .i64) (.pair (.int .i64) (.pair (.int .i64) .unit)))) (.pair (.slice (.int .i64)) .unit))))) ds fun x0 ds => popN ds (det_Made.f k x0)
def det_Made.g : Nat → List Dat → Option (Int × Int × Int × (List (List Int)) × (List Int))
 | 0, _ => none
 | k + 1, ds => det_Made.c k ds
def det_Made.env (k : Nat) : Nat → List SV → List Chunk → KT (Int × Int × Int × (List (List Int)) × (List Int)) → Option (Int × Int × Int × (List (List Int)) × (List Int)) := (envC 67 1 buchi_Check.ti buchi_Check.to (fun ds K => pop (.pair (.int .i64) (.pair (.int .i64) (.pair (.slice (.int .i64)) (.pair (.slice (.pair (.int .i64) (.pair (.int .i64) (.pair (.int .i64) .unit)))) (.pair (.slice (.int .i64)) .unit))))) ds fun x0 ds => popN ds ((buchi_Check.f k x0).bind fun r => K (buchi_Check.rs r))) (envC 142 1 det_Made_1.ti det_Made_1.to (fun ds K => pop (.slice (.int .i64)) ds fun x0 ds => popN ds ((det_Made_1.f k x0).bind fun r => K (det_Made_1.rs r))) (envC 124 5 det_Explore_int_.ti det_Explore_int_.to (fun ds K => pop (.int .i64) ds fun x0 ds => pop (.int .i64) ds fun x1 ds => pop (.int .i64) ds fun x2 ds => pop (.int .i64) ds fun x3 ds => pop (.int .i64) ds fun x4 ds => pop (.slice (.int .i64)) ds fun x5 ds => pop (.slice (.pair (.int .i64) (.pair (.int .i64) (.pair (.int .i64) .unit)))) ds fun x6 ds => pop (.slice (.int .i64)) ds fun x7 ds => pop (.int .i64) ds fun x8 ds => popN ds ((det_Explore_int_.f k x0 x1 x2 x3 x4 x5 x6 x7 x8).bind fun r => K (det_Explore_int_.rs r))) (envC 108 1 det_Smallest.ti det_Smallest.to (fun ds K => pop (.pair (.int .i64) (.pair (.int .i64) (.pair (.slice (.slice (.int .i64))) (.pair (.slice (.int .i64)) .unit)))) ds fun x0 ds => popN ds ((det_Smallest.f k x0).bind fun r => K (det_Smallest.rs r))) env0))))
def det_Made.tbl : List (Nat × Tm × (Nat → List Dat → Option (Int × Int × Int × (List (List Int)) × (List Int)))) := []
noncomputable abbrev det_Made.R (k : Nat) := run T (det_Made.env k) Try.f69.ntmps (cutE 0 det_Made.tbl k) (finE 0 det_Made.to det_Made.out) (fnRes Try.f69) [] 100000 true
theorem det_Made.e (k : Nat) (x0 : (Int × (Int × ((List Int) × ((List (Int × (Int × (Int × Unit)))) × ((List Int) × Unit)))))) : det_Made.f k x0 = det_Made.R k ([.code det_Made.body]) (det_Made.ti.fill [⟨(.pair (.int .i64) (.pair (.int .i64) (.pair (.slice (.int .i64)) (.pair (.slice (.pair (.int .i64) (.pair (.int .i64) (.pair (.int .i64) .unit)))) (.pair (.slice (.int .i64)) .unit))))), x0⟩]) := by kernel_rfl
theorem det_Made.h (k : Nat) (ds : List Dat) (r : Int × Int × Int × (List (List Int)) × (List Int)) (h : det_Made.g k ds = some r) : ∃ k', k' < k ∧ det_Made.R k' ([.code det_Made.body]) (det_Made.ti.fill ds) = some r := by
  cases k with
  | zero => cases (show none = some r from h)
  | succ k =>
  replace h : det_Made.c k ds = some r := h
  unfold det_Made.c at h
  obtain ⟨x0, d0, rfl, h0⟩ := pop_some h
  obtain ⟨rfl, g⟩ := popN_some h0
  exact ⟨k, Nat.lt_succ_self k, (det_Made.e k x0).symm.trans g⟩
theorem det_Made.o (ds : List Dat) (r : Int × Int × Int × (List (List Int)) × (List Int)) (h : det_Made.out ds = some r) : ds = det_Made.rs r := by
  unfold det_Made.out at h
  obtain ⟨x0, d0, rfl, h0⟩ := pop_some h
  obtain ⟨x1, d1, rfl, h1⟩ := pop_some h0
  obtain ⟨x2, d2, rfl, h2⟩ := pop_some h1
  obtain ⟨x3, d3, rfl, h3⟩ := pop_some h2
  obtain ⟨x4, d4, rfl, h4⟩ := pop_some h3
  obtain ⟨rfl, g⟩ := popN_some h4
  cases g
  rfl
theorem det_Made.fn : FnOk Try.prog 69 Try.f69 det_Made.body Try.f69.ntmps 1 (fnRes Try.f69) :=
  fnOk_of (by kernel_rfl) (by kernel_rfl) (by kernel_rfl) (by kernel_rfl)
theorem det_Made.con' : ∀ k ds r, det_Made.g k ds = some r → Con Try.prog 69 1 det_Made.ti det_Made.to ds (det_Made.rs r) :=
  fun_ok (T := T) T_ok mixed det_Made.fn (env := det_Made.env) (tbl := det_Made.tbl) (gOut := det_Made.out) (nin := 0) (cuts := []) (fuel := 100000) rfl (by kernel_rfl) (by kernel_rfl) (by kernel_rfl) (fun x hx => by simp [det_Made.tbl] at hx) det_Made.o det_Made.h (fun k _ => by unfold det_Made.env; exact (envC_ok (fun ds K r h => by
    obtain ⟨x0, d0, rfl, h0⟩ := pop_some h
    obtain ⟨rfl, g⟩ := popN_some h0
    obtain ⟨r1, h1, h2⟩ := bind_some g
    exact ⟨_, h2, buchi_Check.con k _ h1⟩) (envC_ok (fun ds K r h => by
    obtain ⟨x0, d0, rfl, h0⟩ := pop_some h
    obtain ⟨rfl, g⟩ := popN_some h0
    obtain ⟨r1, h1, h2⟩ := bind_some g
    exact ⟨_, h2, det_Made_1.con k _ h1⟩) (envC_ok (fun ds K r h => by
    obtain ⟨x0, d0, rfl, h0⟩ := pop_some h
    obtain ⟨x1, d1, rfl, h1⟩ := pop_some h0
    obtain ⟨x2, d2, rfl, h2⟩ := pop_some h1
    obtain ⟨x3, d3, rfl, h3⟩ := pop_some h2
    obtain ⟨x4, d4, rfl, h4⟩ := pop_some h3
    obtain ⟨x5, d5, rfl, h5⟩ := pop_some h4
    obtain ⟨x6, d6, rfl, h6⟩ := pop_some h5
    obtain ⟨x7, d7, rfl, h7⟩ := pop_some h6
    obtain ⟨x8, d8, rfl, h8⟩ := pop_some h7
    obtain ⟨rfl, g⟩ := popN_some h8
    obtain ⟨r1, h1, h2⟩ := bind_some g
    exact ⟨_, h2, det_Explore_int_.con k _ h1⟩) (envC_ok (fun ds K r h => by
    obtain ⟨x0, d0, rfl, h0⟩ := pop_some h
    obtain ⟨rfl, g⟩ := popN_some h0
    obtain ⟨r1, h1, h2⟩ := bind_some g
    exact ⟨_, h2, det_Smallest.con k _ h1⟩) env0_ok)))))
theorem det_Made.con (k : Nat) {x0 : (Int × (Int × ((List Int) × ((List (Int × (Int × (Int × Unit)))) × ((List Int) × Unit)))))} (r : Int × Int × Int × (List (List Int)) × (List Int)) (h : det_Made.f k x0 = some r) : Con Try.prog 69 1 det_Made.ti det_Made.to [⟨(.pair (.int .i64) (.pair (.int .i64) (.pair (.slice (.int .i64)) (.pair (.slice (.pair (.int .i64) (.pair (.int .i64) (.pair (.int .i64) .unit)))) (.pair (.slice (.int .i64)) .unit))))), x0⟩] (det_Made.rs r) :=
  det_Made.con' (k + 1) _ r (by show det_Made.c k _ = some r; unfold det_Made.c; simp only [pop_self, popN]; exact h)
mutual
def evermorelaw_sameAuto.l6 : Nat → Int → Int → Int → List (Int) → List ((Int × (Int × (Int × Unit)))) → List (Int) → Int → Int → List (Int) → List ((Int × (Int × (Int × Unit)))) → List (Int) → Option (Bool)
 | 0, _, _, _, _, _, _, _, _, _, _, _ => none
 | k + 1, i7, a2_0, a2_1, a2_2, a2_3, a2_4, b3_0, b3_1, b3_2, b3_3, b3_4 =>
  if i7 < (↑a2_3.length : Int) then
   if 0 ≤ i7 then
   if i7 < (↑a2_3.length : Int) then
    if 0 ≤ i7 then
     if i7 < (↑b3_3.length : Int) then
      if (!((Go.Proofs.YtfkilmmldjajmaaSx.Ty.int Go.IntKind.i64).pair ((Go.Proofs.YtfkilmmldjajmaaSx.Ty.int Go.IntKind.i64).pair ((Go.Proofs.YtfkilmmldjajmaaSx.Ty.int Go.IntKind.i64).pair Go.Proofs.YtfkilmmldjajmaaSx.Ty.unit))).beq (Go.Proofs.YtfkilmmldjajmaaSx.rd (Int.ofNat 0, Int.ofNat 0, Int.ofNat 0, ()) a2_3 i7) (Go.Proofs.YtfkilmmldjajmaaSx.rd (Int.ofNat 0, Int.ofNat 0, Int.ofNat 0, ()) b3_3 i7)) = true then
        some (false)
       else
        evermorelaw_sameAuto.l6 k (Go.IntKind.i64.wrap (i7 + 1)) a2_0 a2_1 a2_2 a2_3 a2_4 b3_0 b3_1 b3_2 b3_3 b3_4
      else none
     else none
    else none
   else none
  else
   some (true)
end
def evermorelaw_sameAuto.f (k : Nat) (a0 : (Int × (Int × (List (Int) × (List ((Int × (Int × (Int × Unit)))) × (List (Int) × Unit)))))) (b1 : (Int × (Int × (List (Int) × (List ((Int × (Int × (Int × Unit)))) × (List (Int) × Unit)))))) : Option (Bool) :=
 (evermoreref1_Words.f k a0.snd.snd.fst b1.snd.snd.fst).bind fun r1 =>
  (evermoreref1_Words.f k a0.snd.snd.snd.snd.fst b1.snd.snd.snd.snd.fst).bind fun r2 =>
   if a0.fst = b1.fst then
    if a0.snd.fst = b1.snd.fst then
     if r1 = true then
      if r2 = true then
       if (↑a0.snd.snd.snd.fst.length : Int) = (↑b1.snd.snd.snd.fst.length : Int) then
        evermorelaw_sameAuto.l6 k 0 a0.fst a0.snd.fst a0.snd.snd.fst a0.snd.snd.snd.fst a0.snd.snd.snd.snd.fst b1.fst b1.snd.fst b1.snd.snd.fst b1.snd.snd.snd.fst b1.snd.snd.snd.snd.fst
       else
        some (false)
      else
       some (false)
     else
      some (false)
    else
     some (false)
   else
    some (false)

noncomputable def evermorelaw_sameAuto.body : Code := fnBody Try.f53
def evermorelaw_sameAuto.ti : Tm := ⟨[(0, .p (.pair (.int .i64) (.pair (.int .i64) (.pair (.slice (.int .i64)) (.pair (.slice (.pair (.int .i64) (.pair (.int .i64) (.pair (.int .i64) .unit)))) (.pair (.slice (.int .i64)) .unit)))))), (1, .p (.pair (.int .i64) (.pair (.int .i64) (.pair (.slice (.int .i64)) (.pair (.slice (.pair (.int .i64) (.pair (.int .i64) (.pair (.int .i64) .unit)))) (.pair (.slice (.int .i64)) .unit))))))], []⟩
def evermorelaw_sameAuto.to : Tm := ⟨[(0, .p .bool)], []⟩
def evermorelaw_sameAuto.rs (r : Bool) : List Dat := [⟨.bool, r⟩]
def evermorelaw_sameAuto.out (ds : List Dat) : Option (Bool) := pop .bool ds fun x0 ds => popN ds (some (x0))
def evermorelaw_sameAuto.c (k : Nat) (ds : List Dat) : Option (Bool) := pop (.pair (.int .i64) (.pair (.int .i64) (.pair (.slice (.int .i64)) (.pair (.slice (.pair (.int .i64) (.pair (.int .i64) (.pair (.int .i64) .unit)))) (.pair (.slice (.int .i64)) .unit))))) ds fun x0 ds => pop (.pair (.int .i64) (.pair (.int .i64) (.pair (.slice (.int .i64)) (.pair (.slice (.pair (.int .i64) (.pair (.int .i64) (.pair (.int .i64) .unit)))) (.pair (.slice (.int .i64)) .unit))))) ds fun x1 ds => popN ds (evermorelaw_sameAuto.f k x0 x1)
def evermorelaw_sameAuto.g : Nat → List Dat → Option (Bool)
 | 0, _ => none
 | k + 1, ds => evermorelaw_sameAuto.c k ds
def evermorelaw_sameAuto.env (k : Nat) : Nat → List SV → List Chunk → KT (Bool) → Option (Bool) := (envC 36 2 evermoreref1_Words.ti evermoreref1_Words.to (fun ds K => pop (.slice (.int .i64)) ds fun x0 ds => pop (.slice (.int .i64)) ds fun x1 ds => popN ds ((evermoreref1_Words.f k x0 x1).bind fun r => K (evermoreref1_Words.rs r))) env0)
def evermorelaw_sameAuto.t13 : Tm := ⟨[(2, .ptr 0 0), (3, .ptr 1 0), (7, .p (.int .i64))], [.box [.p (.int .i64), .p (.int .i64), .p (.slice (.int .i64)), .p (.slice (.pair (.int .i64) (.pair (.int .i64) (.pair (.int .i64) .unit)))), .p (.slice (.int .i64))] 78, .box [.p (.int .i64), .p (.int .i64), .p (.slice (.int .i64)), .p (.slice (.pair (.int .i64) (.pair (.int .i64) (.pair (.int .i64) .unit)))), .p (.slice (.int .i64))] 78]⟩
def evermorelaw_sameAuto.c13 (k : Nat) (ds : List Dat) : Option (Bool) := pop (.int .i64) ds fun x0 ds => pop (.int .i64) ds fun x1 ds => pop (.int .i64) ds fun x2 ds => pop (.slice (.int .i64)) ds fun x3 ds => pop (.slice (.pair (.int .i64) (.pair (.int .i64) (.pair (.int .i64) .unit)))) ds fun x4 ds => pop (.slice (.int .i64)) ds fun x5 ds => pop (.int .i64) ds fun x6 ds => pop (.int .i64) ds fun x7 ds => pop (.slice (.int .i64)) ds fun x8 ds => pop (.slice (.pair (.int .i64) (.pair (.int .i64) (.pair (.int .i64) .unit)))) ds fun x9 ds => pop (.slice (.int .i64)) ds fun x10 ds => popN ds (evermorelaw_sameAuto.l6 k x0 x1 x2 x3 x4 x5 x6 x7 x8 x9 x10)
def evermorelaw_sameAuto.tbl : List (Nat × Tm × (Nat → List Dat → Option (Bool))) := [(13, evermorelaw_sameAuto.t13, evermorelaw_sameAuto.c13)]
noncomputable abbrev evermorelaw_sameAuto.R (k : Nat) := run T (evermorelaw_sameAuto.env k) Try.f53.ntmps (cutE 0 evermorelaw_sameAuto.tbl k) (finE 0 evermorelaw_sameAuto.to evermorelaw_sameAuto.out) (fnRes Try.f53) [] 100000 true
theorem evermorelaw_sameAuto.e13 (k : Nat) (x0 : Int) (x1 : Int) (x2 : Int) (x3 : (List Int)) (x4 : (List (Int × (Int × (Int × Unit))))) (x5 : (List Int)) (x6 : Int) (x7 : Int) (x8 : (List Int)) (x9 : (List (Int × (Int × (Int × Unit))))) (x10 : (List Int)) : evermorelaw_sameAuto.l6 (k + 1) x0 x1 x2 x3 x4 x5 x6 x7 x8 x9 x10 = evermorelaw_sameAuto.R k (start (stackOf 13 evermorelaw_sameAuto.body)) (evermorelaw_sameAuto.t13.fill [⟨(.int .i64), x0⟩, ⟨(.int .i64), x1⟩, ⟨(.int .i64), x2⟩, ⟨(.slice (.int .i64)), x3⟩, ⟨(.slice (.pair (.int .i64) (.pair (.int .i64) (.pair (.int .i64) .unit)))), x4⟩, ⟨(.slice (.int .i64)), x5⟩, ⟨(.int .i64), x6⟩, ⟨(.int .i64), x7⟩, ⟨(.slice (.int .i64)), x8⟩, ⟨(.slice (.pair (.int .i64) (.pair (.int .i64) (.pair (.int .i64) .unit)))), x9⟩, ⟨(.slice (.int .i64)), x10⟩]) := by kernel_rfl
theorem evermorelaw_sameAuto.s13 : stackAt 13 evermorelaw_sameAuto.body [] = some (stackOf 13 evermorelaw_sameAuto.body) := by kernel_rfl
theorem evermorelaw_sameAuto.h13 (k : Nat) (ds : List Dat) (r : Bool) (h : evermorelaw_sameAuto.c13 k ds = some r) : ∃ k', k' < k ∧ ∃ s, stackAt 13 evermorelaw_sameAuto.body [] = some s ∧ evermorelaw_sameAuto.R k' (start s) (evermorelaw_sameAuto.t13.fill ds) = some r := by
  unfold evermorelaw_sameAuto.c13 at h
  obtain ⟨x0, d0, rfl, h0⟩ := pop_some h
  obtain ⟨x1, d1, rfl, h1⟩ := pop_some h0
  obtain ⟨x2, d2, rfl, h2⟩ := pop_some h1
  obtain ⟨x3, d3, rfl, h3⟩ := pop_some h2
  obtain ⟨x4, d4, rfl, h4⟩ := pop_some h3
  obtain ⟨x5, d5, rfl, h5⟩ := pop_some h4
  obtain ⟨x6, d6, rfl, h6⟩ := pop_some h5
  obtain ⟨x7, d7, rfl, h7⟩ := pop_some h6
  obtain ⟨x8, d8, rfl, h8⟩ := pop_some h7
  obtain ⟨x9, d9, rfl, h9⟩ := pop_some h8
  obtain ⟨x10, d10, rfl, h10⟩ := pop_some h9
  obtain ⟨rfl, g⟩ := popN_some h10
  cases k with
  | zero => cases (show none = some r from g)
  | succ k => exact ⟨k, Nat.lt_succ_self k, _, evermorelaw_sameAuto.s13, (evermorelaw_sameAuto.e13 k x0 x1 x2 x3 x4 x5 x6 x7 x8 x9 x10).symm.trans g⟩
theorem evermorelaw_sameAuto.e (k : Nat) (x0 : (Int × (Int × ((List Int) × ((List (Int × (Int × (Int × Unit)))) × ((List Int) × Unit)))))) (x1 : (Int × (Int × ((List Int) × ((List (Int × (Int × (Int × Unit)))) × ((List Int) × Unit)))))) : evermorelaw_sameAuto.f k x0 x1 = evermorelaw_sameAuto.R k ([.code evermorelaw_sameAuto.body]) (evermorelaw_sameAuto.ti.fill [⟨(.pair (.int .i64) (.pair (.int .i64) (.pair (.slice (.int .i64)) (.pair (.slice (.pair (.int .i64) (.pair (.int .i64) (.pair (.int .i64) .unit)))) (.pair (.slice (.int .i64)) .unit))))), x0⟩, ⟨(.pair (.int .i64) (.pair (.int .i64) (.pair (.slice (.int .i64)) (.pair (.slice (.pair (.int .i64) (.pair (.int .i64) (.pair (.int .i64) .unit)))) (.pair (.slice (.int .i64)) .unit))))), x1⟩]) := by kernel_rfl
theorem evermorelaw_sameAuto.h (k : Nat) (ds : List Dat) (r : Bool) (h : evermorelaw_sameAuto.g k ds = some r) : ∃ k', k' < k ∧ evermorelaw_sameAuto.R k' ([.code evermorelaw_sameAuto.body]) (evermorelaw_sameAuto.ti.fill ds) = some r := by
  cases k with
  | zero => cases (show none = some r from h)
  | succ k =>
  replace h : evermorelaw_sameAuto.c k ds = some r := h
  unfold evermorelaw_sameAuto.c at h
  obtain ⟨x0, d0, rfl, h0⟩ := pop_some h
  obtain ⟨x1, d1, rfl, h1⟩ := pop_some h0
  obtain ⟨rfl, g⟩ := popN_some h1
  exact ⟨k, Nat.lt_succ_self k, (evermorelaw_sameAuto.e k x0 x1).symm.trans g⟩
theorem evermorelaw_sameAuto.o (ds : List Dat) (r : Bool) (h : evermorelaw_sameAuto.out ds = some r) : ds = evermorelaw_sameAuto.rs r := by
  unfold evermorelaw_sameAuto.out at h
  obtain ⟨x0, d0, rfl, h0⟩ := pop_some h
  obtain ⟨rfl, g⟩ := popN_some h0
  cases g
  rfl
theorem evermorelaw_sameAuto.fn : FnOk Try.prog 53 Try.f53 evermorelaw_sameAuto.body Try.f53.ntmps 2 (fnRes Try.f53) :=
  fnOk_of (by kernel_rfl) (by kernel_rfl) (by kernel_rfl) (by kernel_rfl)
theorem evermorelaw_sameAuto.con' : ∀ k ds r, evermorelaw_sameAuto.g k ds = some r → Con Try.prog 53 2 evermorelaw_sameAuto.ti evermorelaw_sameAuto.to ds (evermorelaw_sameAuto.rs r) :=
  fun_ok (T := T) T_ok mixed evermorelaw_sameAuto.fn (env := evermorelaw_sameAuto.env) (tbl := evermorelaw_sameAuto.tbl) (gOut := evermorelaw_sameAuto.out) (nin := 0) (cuts := []) (fuel := 100000) rfl (by kernel_rfl) (by kernel_rfl) (by kernel_rfl) (fun x hx => by
    simp only [evermorelaw_sameAuto.tbl, List.mem_cons, List.not_mem_nil, or_false] at hx
    subst hx
    · exact evermorelaw_sameAuto.h13
) evermorelaw_sameAuto.o evermorelaw_sameAuto.h (fun k _ => by unfold evermorelaw_sameAuto.env; exact (envC_ok (fun ds K r h => by
    obtain ⟨x0, d0, rfl, h0⟩ := pop_some h
    obtain ⟨x1, d1, rfl, h1⟩ := pop_some h0
    obtain ⟨rfl, g⟩ := popN_some h1
    obtain ⟨r1, h1, h2⟩ := bind_some g
    exact ⟨_, h2, evermoreref1_Words.con k _ h1⟩) env0_ok))
theorem evermorelaw_sameAuto.con (k : Nat) {x0 : (Int × (Int × ((List Int) × ((List (Int × (Int × (Int × Unit)))) × ((List Int) × Unit)))))} {x1 : (Int × (Int × ((List Int) × ((List (Int × (Int × (Int × Unit)))) × ((List Int) × Unit)))))} (r : Bool) (h : evermorelaw_sameAuto.f k x0 x1 = some r) : Con Try.prog 53 2 evermorelaw_sameAuto.ti evermorelaw_sameAuto.to [⟨(.pair (.int .i64) (.pair (.int .i64) (.pair (.slice (.int .i64)) (.pair (.slice (.pair (.int .i64) (.pair (.int .i64) (.pair (.int .i64) .unit)))) (.pair (.slice (.int .i64)) .unit))))), x0⟩, ⟨(.pair (.int .i64) (.pair (.int .i64) (.pair (.slice (.int .i64)) (.pair (.slice (.pair (.int .i64) (.pair (.int .i64) (.pair (.int .i64) .unit)))) (.pair (.slice (.int .i64)) .unit))))), x1⟩] (evermorelaw_sameAuto.rs r) :=
  evermorelaw_sameAuto.con' (k + 1) _ r (by show evermorelaw_sameAuto.c k _ = some r; unfold evermorelaw_sameAuto.c; simp only [pop_self, popN]; exact h)
def evermorelaw_noDet.f (k : Nat) (d0 : (Int × (Int × (List (List (Int)) × (List (Int) × Unit))))) : Option (Bool) :=
 if d0.fst = 0 then
  if d0.snd.fst = 0 then
   some (decide (Go.IntKind.i64.wrap ((↑d0.snd.snd.fst.length : Int) + (↑d0.snd.snd.snd.fst.length : Int)) = 0))
  else
   some (false)
 else
  some (false)

noncomputable def evermorelaw_noDet.body : Code := fnBody Try.f39
def evermorelaw_noDet.ti : Tm := ⟨[(0, .p (.pair (.int .i64) (.pair (.int .i64) (.pair (.slice (.slice (.int .i64))) (.pair (.slice (.int .i64)) .unit)))))], []⟩
def evermorelaw_noDet.to : Tm := ⟨[(0, .p .bool)], []⟩
def evermorelaw_noDet.rs (r : Bool) : List Dat := [⟨.bool, r⟩]
def evermorelaw_noDet.out (ds : List Dat) : Option (Bool) := pop .bool ds fun x0 ds => popN ds (some (x0))
def evermorelaw_noDet.c (k : Nat) (ds : List Dat) : Option (Bool) := pop (.pair (.int .i64) (.pair (.int .i64) (.pair (.slice (.slice (.int .i64))) (.pair (.slice (.int .i64)) .unit)))) ds fun x0 ds => popN ds (evermorelaw_noDet.f k x0)
def evermorelaw_noDet.g : Nat → List Dat → Option (Bool)
 | 0, _ => none
 | k + 1, ds => evermorelaw_noDet.c k ds
def evermorelaw_noDet.env (k : Nat) : Nat → List SV → List Chunk → KT (Bool) → Option (Bool) := env0
def evermorelaw_noDet.tbl : List (Nat × Tm × (Nat → List Dat → Option (Bool))) := []
noncomputable abbrev evermorelaw_noDet.R (k : Nat) := run T (evermorelaw_noDet.env k) Try.f39.ntmps (cutE 0 evermorelaw_noDet.tbl k) (finE 0 evermorelaw_noDet.to evermorelaw_noDet.out) (fnRes Try.f39) [] 100000 true
theorem evermorelaw_noDet.e (k : Nat) (x0 : (Int × (Int × ((List (List Int)) × ((List Int) × Unit))))) : evermorelaw_noDet.f k x0 = evermorelaw_noDet.R k ([.code evermorelaw_noDet.body]) (evermorelaw_noDet.ti.fill [⟨(.pair (.int .i64) (.pair (.int .i64) (.pair (.slice (.slice (.int .i64))) (.pair (.slice (.int .i64)) .unit)))), x0⟩]) := by kernel_rfl
theorem evermorelaw_noDet.h (k : Nat) (ds : List Dat) (r : Bool) (h : evermorelaw_noDet.g k ds = some r) : ∃ k', k' < k ∧ evermorelaw_noDet.R k' ([.code evermorelaw_noDet.body]) (evermorelaw_noDet.ti.fill ds) = some r := by
  cases k with
  | zero => cases (show none = some r from h)
  | succ k =>
  replace h : evermorelaw_noDet.c k ds = some r := h
  unfold evermorelaw_noDet.c at h
  obtain ⟨x0, d0, rfl, h0⟩ := pop_some h
  obtain ⟨rfl, g⟩ := popN_some h0
  exact ⟨k, Nat.lt_succ_self k, (evermorelaw_noDet.e k x0).symm.trans g⟩
theorem evermorelaw_noDet.o (ds : List Dat) (r : Bool) (h : evermorelaw_noDet.out ds = some r) : ds = evermorelaw_noDet.rs r := by
  unfold evermorelaw_noDet.out at h
  obtain ⟨x0, d0, rfl, h0⟩ := pop_some h
  obtain ⟨rfl, g⟩ := popN_some h0
  cases g
  rfl
theorem evermorelaw_noDet.fn : FnOk Try.prog 39 Try.f39 evermorelaw_noDet.body Try.f39.ntmps 1 (fnRes Try.f39) :=
  fnOk_of (by kernel_rfl) (by kernel_rfl) (by kernel_rfl) (by kernel_rfl)
theorem evermorelaw_noDet.con' : ∀ k ds r, evermorelaw_noDet.g k ds = some r → Con Try.prog 39 1 evermorelaw_noDet.ti evermorelaw_noDet.to ds (evermorelaw_noDet.rs r) :=
  fun_ok (T := T) T_ok mixed evermorelaw_noDet.fn (env := evermorelaw_noDet.env) (tbl := evermorelaw_noDet.tbl) (gOut := evermorelaw_noDet.out) (nin := 0) (cuts := []) (fuel := 100000) rfl (by kernel_rfl) (by kernel_rfl) (by kernel_rfl) (fun x hx => by simp [evermorelaw_noDet.tbl] at hx) evermorelaw_noDet.o evermorelaw_noDet.h (fun k _ => by unfold evermorelaw_noDet.env; exact env0_ok)
theorem evermorelaw_noDet.con (k : Nat) {x0 : (Int × (Int × ((List (List Int)) × ((List Int) × Unit))))} (r : Bool) (h : evermorelaw_noDet.f k x0 = some r) : Con Try.prog 39 1 evermorelaw_noDet.ti evermorelaw_noDet.to [⟨(.pair (.int .i64) (.pair (.int .i64) (.pair (.slice (.slice (.int .i64))) (.pair (.slice (.int .i64)) .unit)))), x0⟩] (evermorelaw_noDet.rs r) :=
  evermorelaw_noDet.con' (k + 1) _ r (by show evermorelaw_noDet.c k _ = some r; unfold evermorelaw_noDet.c; simp only [pop_self, popN]; exact h)
mutual
def evermoreref3_Same.l4 : Nat → Int → Int → Int → List (List (Int)) → List (Int) → Int → Int → List (List (Int)) → List (Int) → Option (Bool)
 | 0, _, _, _, _, _, _, _, _, _ => none
 | k + 1, i5, a2_0, a2_1, a2_2, a2_3, b3_0, b3_1, b3_2, b3_3 =>
  if i5 < (↑a2_3.length : Int) then
   if 0 ≤ i5 then
   if i5 < (↑a2_3.length : Int) then
    if 0 ≤ i5 then
     if i5 < (↑b3_3.length : Int) then
      if Go.Proofs.YtfkilmmldjajmaaSx.rd (Int.ofNat 0) a2_3 i5 = Go.Proofs.YtfkilmmldjajmaaSx.rd (Int.ofNat 0) b3_3 i5 then
        evermoreref3_Same.l4 k (Go.IntKind.i64.wrap (i5 + 1)) a2_0 a2_1 a2_2 a2_3 b3_0 b3_1 b3_2 b3_3
       else
        some (false)
      else none
     else none
    else none
   else none
  else
   evermoreref3_Same.l9 k 0 a2_0 a2_1 a2_2 a2_3 b3_0 b3_1 b3_2 b3_3
def evermoreref3_Same.l9 : Nat → Int → Int → Int → List (List (Int)) → List (Int) → Int → Int → List (List (Int)) → List (Int) → Option (Bool)
 | 0, _, _, _, _, _, _, _, _, _ => none
 | k + 1, i6, a2_0, a2_1, a2_2, a2_3, b3_0, b3_1, b3_2, b3_3 =>
  if i6 < (↑a2_2.length : Int) then
   if 0 ≤ i6 then
   if i6 < (↑a2_2.length : Int) then
    if 0 ≤ i6 then
     if i6 < (↑b3_2.length : Int) then
      if (↑(Go.Proofs.YtfkilmmldjajmaaSx.rd [] a2_2 i6).length : Int) = (↑(Go.Proofs.YtfkilmmldjajmaaSx.rd [] b3_2 i6).length : Int) then
        evermoreref3_Same.l14 k i6 0 a2_0 a2_1 a2_2 a2_3 b3_0 b3_1 b3_2 b3_3
       else
        some (false)
      else none
     else none
    else none
   else none
  else
   some (true)
def evermoreref3_Same.l14 : Nat → Int → Int → Int → Int → List (List (Int)) → List (Int) → Int → Int → List (List (Int)) → List (Int) → Option (Bool)
 | 0, _, _, _, _, _, _, _, _, _, _ => none
 | k + 1, i6, k7, a2_0, a2_1, a2_2, a2_3, b3_0, b3_1, b3_2, b3_3 =>
  if 0 ≤ i6 then
  if i6 < (↑a2_2.length : Int) then
   if k7 < (↑(Go.Proofs.YtfkilmmldjajmaaSx.rd [] a2_2 i6).length : Int) then
     if 0 ≤ i6 then
     if i6 < (↑a2_2.length : Int) then
      if 0 ≤ k7 then
       if k7 < (↑(Go.Proofs.YtfkilmmldjajmaaSx.rd [] a2_2 i6).length : Int) then
        if 0 ≤ i6 then
         if i6 < (↑b3_2.length : Int) then
          if 0 ≤ k7 then
           if k7 < (↑(Go.Proofs.YtfkilmmldjajmaaSx.rd [] b3_2 i6).length : Int) then
            if Go.Proofs.YtfkilmmldjajmaaSx.rd (Int.ofNat 0) (Go.Proofs.YtfkilmmldjajmaaSx.rd [] a2_2 i6) k7 = Go.Proofs.YtfkilmmldjajmaaSx.rd (Int.ofNat 0) (Go.Proofs.YtfkilmmldjajmaaSx.rd [] b3_2 i6) k7 then
              evermoreref3_Same.l14 k i6 (Go.IntKind.i64.wrap (k7 + 1)) a2_0 a2_1 a2_2 a2_3 b3_0 b3_1 b3_2 b3_3
             else
              some (false)
            else none
           else none
          else none
         else none
        else none
       else none
      else none
     else none
    else
     evermoreref3_Same.l9 k (Go.IntKind.i64.wrap (i6 + 1)) a2_0 a2_1 a2_2 a2_3 b3_0 b3_1 b3_2 b3_3
   else none
  else none
end
def evermoreref3_Same.f (k : Nat) (a0 : (Int × (Int × (List (List (Int)) × (List (Int) × Unit))))) (b1 : (Int × (Int × (List (List (Int)) × (List (Int) × Unit))))) : Option (Bool) :=
 if a0.fst = b1.fst then
  if a0.snd.fst = b1.snd.fst then
   if (↑a0.snd.snd.fst.length : Int) = (↑b1.snd.snd.fst.length : Int) then
    if (↑a0.snd.snd.snd.fst.length : Int) = (↑b1.snd.snd.snd.fst.length : Int) then
     evermoreref3_Same.l4 k 0 a0.fst a0.snd.fst a0.snd.snd.fst a0.snd.snd.snd.fst b1.fst b1.snd.fst b1.snd.snd.fst b1.snd.snd.snd.fst
    else
     some (false)
   else
    some (false)
  else
   some (false)
 else
  some (false)

noncomputable def evermoreref3_Same.body : Code := fnBody Try.f46
def evermoreref3_Same.ti : Tm := ⟨[(0, .p (.pair (.int .i64) (.pair (.int .i64) (.pair (.slice (.slice (.int .i64))) (.pair (.slice (.int .i64)) .unit))))), (1, .p (.pair (.int .i64) (.pair (.int .i64) (.pair (.slice (.slice (.int .i64))) (.pair (.slice (.int .i64)) .unit)))))], []⟩
def evermoreref3_Same.to : Tm := ⟨[(0, .p .bool)], []⟩
def evermoreref3_Same.rs (r : Bool) : List Dat := [⟨.bool, r⟩]
def evermoreref3_Same.out (ds : List Dat) : Option (Bool) := pop .bool ds fun x0 ds => popN ds (some (x0))
def evermoreref3_Same.c (k : Nat) (ds : List Dat) : Option (Bool) := pop (.pair (.int .i64) (.pair (.int .i64) (.pair (.slice (.slice (.int .i64))) (.pair (.slice (.int .i64)) .unit)))) ds fun x0 ds => pop (.pair (.int .i64) (.pair (.int .i64) (.pair (.slice (.slice (.int .i64))) (.pair (.slice (.int .i64)) .unit)))) ds fun x1 ds => popN ds (evermoreref3_Same.f k x0 x1)
def evermoreref3_Same.g : Nat → List Dat → Option (Bool)
 | 0, _ => none
 | k + 1, ds => evermoreref3_Same.c k ds
def evermoreref3_Same.env (k : Nat) : Nat → List SV → List Chunk → KT (Bool) → Option (Bool) := env0
def evermoreref3_Same.t9 : Tm := ⟨[(2, .ptr 0 0), (3, .ptr 1 0), (5, .p (.int .i64))], [.box [.p (.int .i64), .p (.int .i64), .p (.slice (.slice (.int .i64))), .p (.slice (.int .i64))] 60, .box [.p (.int .i64), .p (.int .i64), .p (.slice (.slice (.int .i64))), .p (.slice (.int .i64))] 60]⟩
def evermoreref3_Same.c9 (k : Nat) (ds : List Dat) : Option (Bool) := pop (.int .i64) ds fun x0 ds => pop (.int .i64) ds fun x1 ds => pop (.int .i64) ds fun x2 ds => pop (.slice (.slice (.int .i64))) ds fun x3 ds => pop (.slice (.int .i64)) ds fun x4 ds => pop (.int .i64) ds fun x5 ds => pop (.int .i64) ds fun x6 ds => pop (.slice (.slice (.int .i64))) ds fun x7 ds => pop (.slice (.int .i64)) ds fun x8 ds => popN ds (evermoreref3_Same.l4 k x0 x1 x2 x3 x4 x5 x6 x7 x8)
def evermoreref3_Same.t19 : Tm := ⟨[(2, .ptr 0 0), (3, .ptr 1 0), (6, .p (.int .i64))], [.box [.p (.int .i64), .p (.int .i64), .p (.slice (.slice (.int .i64))), .p (.slice (.int .i64))] 60, .box [.p (.int .i64), .p (.int .i64), .p (.slice (.slice (.int .i64))), .p (.slice (.int .i64))] 60]⟩
def evermoreref3_Same.c19 (k : Nat) (ds : List Dat) : Option (Bool) := pop (.int .i64) ds fun x0 ds => pop (.int .i64) ds fun x1 ds => pop (.int .i64) ds fun x2 ds => pop (.slice (.slice (.int .i64))) ds fun x3 ds => pop (.slice (.int .i64)) ds fun x4 ds => pop (.int .i64) ds fun x5 ds => pop (.int .i64) ds fun x6 ds => pop (.slice (.slice (.int .i64))) ds fun x7 ds => pop (.slice (.int .i64)) ds fun x8 ds => popN ds (evermoreref3_Same.l9 k x0 x1 x2 x3 x4 x5 x6 x7 x8)
def evermoreref3_Same.t29 : Tm := ⟨[(2, .ptr 0 0), (3, .ptr 1 0), (6, .p (.int .i64)), (7, .p (.int .i64))], [.box [.p (.int .i64), .p (.int .i64), .p (.slice (.slice (.int .i64))), .p (.slice (.int .i64))] 60, .box [.p (.int .i64), .p (.int .i64), .p (.slice (.slice (.int .i64))), .p (.slice (.int .i64))] 60]⟩
def evermoreref3_Same.c29 (k : Nat) (ds : List Dat) : Option (Bool) := pop (.int .i64) ds fun x0 ds => pop (.int .i64) ds fun x1 ds => pop (.int .i64) ds fun x2 ds => pop (.int .i64) ds fun x3 ds => pop (.slice (.slice (.int .i64))) ds fun x4 ds => pop (.slice (.int .i64)) ds fun x5 ds => pop (.int .i64) ds fun x6 ds => pop (.int .i64) ds fun x7 ds => pop (.slice (.slice (.int .i64))) ds fun x8 ds => pop (.slice (.int .i64)) ds fun x9 ds => popN ds (evermoreref3_Same.l14 k x0 x1 x2 x3 x4 x5 x6 x7 x8 x9)
def evermoreref3_Same.tbl : List (Nat × Tm × (Nat → List Dat → Option (Bool))) := [(9, evermoreref3_Same.t9, evermoreref3_Same.c9), (19, evermoreref3_Same.t19, evermoreref3_Same.c19), (29, evermoreref3_Same.t29, evermoreref3_Same.c29)]
noncomputable abbrev evermoreref3_Same.R (k : Nat) := run T (evermoreref3_Same.env k) Try.f46.ntmps (cutE 0 evermoreref3_Same.tbl k) (finE 0 evermoreref3_Same.to evermoreref3_Same.out) (fnRes Try.f46) [] 100000 true
theorem evermoreref3_Same.e9 (k : Nat) (x0 : Int) (x1 : Int) (x2 : Int) (x3 : (List (List Int))) (x4 : (List Int)) (x5 : Int) (x6 : Int) (x7 : (List (List Int))) (x8 : (List Int)) : evermoreref3_Same.l4 (k + 1) x0 x1 x2 x3 x4 x5 x6 x7 x8 = evermoreref3_Same.R k (start (stackOf 9 evermoreref3_Same.body)) (evermoreref3_Same.t9.fill [⟨(.int .i64), x0⟩, ⟨(.int .i64), x1⟩, ⟨(.int .i64), x2⟩, ⟨(.slice (.slice (.int .i64))), x3⟩, ⟨(.slice (.int .i64)), x4⟩, ⟨(.int .i64), x5⟩, ⟨(.int .i64), x6⟩, ⟨(.slice (.slice (.int .i64))), x7⟩, ⟨(.slice (.int .i64)), x8⟩]) := by kernel_rfl
theorem evermoreref3_Same.s9 : stackAt 9 evermoreref3_Same.body [] = some (stackOf 9 evermoreref3_Same.body) := by kernel_rfl
theorem evermoreref3_Same.h9 (k : Nat) (ds : List Dat) (r : Bool) (h : evermoreref3_Same.c9 k ds = some r) : ∃ k', k' < k ∧ ∃ s, stackAt 9 evermoreref3_Same.body [] = some s ∧ evermoreref3_Same.R k' (start s) (evermoreref3_Same.t9.fill ds) = some r := by
  unfold evermoreref3_Same.c9 at h
  obtain ⟨x0, d0, rfl, h0⟩ := pop_some h
  obtain ⟨x1, d1, rfl, h1⟩ := pop_some h0
  obtain ⟨x2, d2, rfl, h2⟩ := pop_some h1
  obtain ⟨x3, d3, rfl, h3⟩ := pop_some h2
  obtain ⟨x4, d4, rfl, h4⟩ := pop_some h3
  obtain ⟨x5, d5, rfl, h5⟩ := pop_some h4
  obtain ⟨x6, d6, rfl, h6⟩ := pop_some h5
  obtain ⟨x7, d7, rfl, h7⟩ := pop_some h6
  obtain ⟨x8, d8, rfl, h8⟩ := pop_some h7
  obtain ⟨rfl, g⟩ := popN_some h8
  cases k with
  | zero => cases (show none = some r from g)
  | succ k => exact ⟨k, Nat.lt_succ_self k, _, evermoreref3_Same.s9, (evermoreref3_Same.e9 k x0 x1 x2 x3 x4 x5 x6 x7 x8).symm.trans g⟩
theorem evermoreref3_Same.e19 (k : Nat) (x0 : Int) (x1 : Int) (x2 : Int) (x3 : (List (List Int))) (x4 : (List Int)) (x5 : Int) (x6 : Int) (x7 : (List (List Int))) (x8 : (List Int)) : evermoreref3_Same.l9 (k + 1) x0 x1 x2 x3 x4 x5 x6 x7 x8 = evermoreref3_Same.R k (start (stackOf 19 evermoreref3_Same.body)) (evermoreref3_Same.t19.fill [⟨(.int .i64), x0⟩, ⟨(.int .i64), x1⟩, ⟨(.int .i64), x2⟩, ⟨(.slice (.slice (.int .i64))), x3⟩, ⟨(.slice (.int .i64)), x4⟩, ⟨(.int .i64), x5⟩, ⟨(.int .i64), x6⟩, ⟨(.slice (.slice (.int .i64))), x7⟩, ⟨(.slice (.int .i64)), x8⟩]) := by kernel_rfl
theorem evermoreref3_Same.s19 : stackAt 19 evermoreref3_Same.body [] = some (stackOf 19 evermoreref3_Same.body) := by kernel_rfl
theorem evermoreref3_Same.h19 (k : Nat) (ds : List Dat) (r : Bool) (h : evermoreref3_Same.c19 k ds = some r) : ∃ k', k' < k ∧ ∃ s, stackAt 19 evermoreref3_Same.body [] = some s ∧ evermoreref3_Same.R k' (start s) (evermoreref3_Same.t19.fill ds) = some r := by
  unfold evermoreref3_Same.c19 at h
  obtain ⟨x0, d0, rfl, h0⟩ := pop_some h
  obtain ⟨x1, d1, rfl, h1⟩ := pop_some h0
  obtain ⟨x2, d2, rfl, h2⟩ := pop_some h1
  obtain ⟨x3, d3, rfl, h3⟩ := pop_some h2
  obtain ⟨x4, d4, rfl, h4⟩ := pop_some h3
  obtain ⟨x5, d5, rfl, h5⟩ := pop_some h4
  obtain ⟨x6, d6, rfl, h6⟩ := pop_some h5
  obtain ⟨x7, d7, rfl, h7⟩ := pop_some h6
  obtain ⟨x8, d8, rfl, h8⟩ := pop_some h7
  obtain ⟨rfl, g⟩ := popN_some h8
  cases k with
  | zero => cases (show none = some r from g)
  | succ k => exact ⟨k, Nat.lt_succ_self k, _, evermoreref3_Same.s19, (evermoreref3_Same.e19 k x0 x1 x2 x3 x4 x5 x6 x7 x8).symm.trans g⟩
theorem evermoreref3_Same.e29 (k : Nat) (x0 : Int) (x1 : Int) (x2 : Int) (x3 : Int) (x4 : (List (List Int))) (x5 : (List Int)) (x6 : Int) (x7 : Int) (x8 : (List (List Int))) (x9 : (List Int)) : evermoreref3_Same.l14 (k + 1) x0 x1 x2 x3 x4 x5 x6 x7 x8 x9 = evermoreref3_Same.R k (start (stackOf 29 evermoreref3_Same.body)) (evermoreref3_Same.t29.fill [⟨(.int .i64), x0⟩, ⟨(.int .i64), x1⟩, ⟨(.int .i64), x2⟩, ⟨(.int .i64), x3⟩, ⟨(.slice (.slice (.int .i64))), x4⟩, ⟨(.slice (.int .i64)), x5⟩, ⟨(.int .i64), x6⟩, ⟨(.int .i64), x7⟩, ⟨(.slice (.slice (.int .i64))), x8⟩, ⟨(.slice (.int .i64)), x9⟩]) := by kernel_rfl
theorem evermoreref3_Same.s29 : stackAt 29 evermoreref3_Same.body [] = some (stackOf 29 evermoreref3_Same.body) := by kernel_rfl
theorem evermoreref3_Same.h29 (k : Nat) (ds : List Dat) (r : Bool) (h : evermoreref3_Same.c29 k ds = some r) : ∃ k', k' < k ∧ ∃ s, stackAt 29 evermoreref3_Same.body [] = some s ∧ evermoreref3_Same.R k' (start s) (evermoreref3_Same.t29.fill ds) = some r := by
  unfold evermoreref3_Same.c29 at h
  obtain ⟨x0, d0, rfl, h0⟩ := pop_some h
  obtain ⟨x1, d1, rfl, h1⟩ := pop_some h0
  obtain ⟨x2, d2, rfl, h2⟩ := pop_some h1
  obtain ⟨x3, d3, rfl, h3⟩ := pop_some h2
  obtain ⟨x4, d4, rfl, h4⟩ := pop_some h3
  obtain ⟨x5, d5, rfl, h5⟩ := pop_some h4
  obtain ⟨x6, d6, rfl, h6⟩ := pop_some h5
  obtain ⟨x7, d7, rfl, h7⟩ := pop_some h6
  obtain ⟨x8, d8, rfl, h8⟩ := pop_some h7
  obtain ⟨x9, d9, rfl, h9⟩ := pop_some h8
  obtain ⟨rfl, g⟩ := popN_some h9
  cases k with
  | zero => cases (show none = some r from g)
  | succ k => exact ⟨k, Nat.lt_succ_self k, _, evermoreref3_Same.s29, (evermoreref3_Same.e29 k x0 x1 x2 x3 x4 x5 x6 x7 x8 x9).symm.trans g⟩
theorem evermoreref3_Same.e (k : Nat) (x0 : (Int × (Int × ((List (List Int)) × ((List Int) × Unit))))) (x1 : (Int × (Int × ((List (List Int)) × ((List Int) × Unit))))) : evermoreref3_Same.f k x0 x1 = evermoreref3_Same.R k ([.code evermoreref3_Same.body]) (evermoreref3_Same.ti.fill [⟨(.pair (.int .i64) (.pair (.int .i64) (.pair (.slice (.slice (.int .i64))) (.pair (.slice (.int .i64)) .unit)))), x0⟩, ⟨(.pair (.int .i64) (.pair (.int .i64) (.pair (.slice (.slice (.int .i64))) (.pair (.slice (.int .i64)) .unit)))), x1⟩]) := by kernel_rfl
theorem evermoreref3_Same.h (k : Nat) (ds : List Dat) (r : Bool) (h : evermoreref3_Same.g k ds = some r) : ∃ k', k' < k ∧ evermoreref3_Same.R k' ([.code evermoreref3_Same.body]) (evermoreref3_Same.ti.fill ds) = some r := by
  cases k with
  | zero => cases (show none = some r from h)
  | succ k =>
  replace h : evermoreref3_Same.c k ds = some r := h
  unfold evermoreref3_Same.c at h
  obtain ⟨x0, d0, rfl, h0⟩ := pop_some h
  obtain ⟨x1, d1, rfl, h1⟩ := pop_some h0
  obtain ⟨rfl, g⟩ := popN_some h1
  exact ⟨k, Nat.lt_succ_self k, (evermoreref3_Same.e k x0 x1).symm.trans g⟩
theorem evermoreref3_Same.o (ds : List Dat) (r : Bool) (h : evermoreref3_Same.out ds = some r) : ds = evermoreref3_Same.rs r := by
  unfold evermoreref3_Same.out at h
  obtain ⟨x0, d0, rfl, h0⟩ := pop_some h
  obtain ⟨rfl, g⟩ := popN_some h0
  cases g
  rfl
theorem evermoreref3_Same.fn : FnOk Try.prog 46 Try.f46 evermoreref3_Same.body Try.f46.ntmps 2 (fnRes Try.f46) :=
  fnOk_of (by kernel_rfl) (by kernel_rfl) (by kernel_rfl) (by kernel_rfl)
theorem evermoreref3_Same.con' : ∀ k ds r, evermoreref3_Same.g k ds = some r → Con Try.prog 46 2 evermoreref3_Same.ti evermoreref3_Same.to ds (evermoreref3_Same.rs r) :=
  fun_ok (T := T) T_ok mixed evermoreref3_Same.fn (env := evermoreref3_Same.env) (tbl := evermoreref3_Same.tbl) (gOut := evermoreref3_Same.out) (nin := 0) (cuts := []) (fuel := 100000) rfl (by kernel_rfl) (by kernel_rfl) (by kernel_rfl) (fun x hx => by
    simp only [evermoreref3_Same.tbl, List.mem_cons, List.not_mem_nil, or_false] at hx
    rcases hx with rfl | rfl | rfl
    · exact evermoreref3_Same.h9
    · exact evermoreref3_Same.h19
    · exact evermoreref3_Same.h29
) evermoreref3_Same.o evermoreref3_Same.h (fun k _ => by unfold evermoreref3_Same.env; exact env0_ok)
theorem evermoreref3_Same.con (k : Nat) {x0 : (Int × (Int × ((List (List Int)) × ((List Int) × Unit))))} {x1 : (Int × (Int × ((List (List Int)) × ((List Int) × Unit))))} (r : Bool) (h : evermoreref3_Same.f k x0 x1 = some r) : Con Try.prog 46 2 evermoreref3_Same.ti evermoreref3_Same.to [⟨(.pair (.int .i64) (.pair (.int .i64) (.pair (.slice (.slice (.int .i64))) (.pair (.slice (.int .i64)) .unit)))), x0⟩, ⟨(.pair (.int .i64) (.pair (.int .i64) (.pair (.slice (.slice (.int .i64))) (.pair (.slice (.int .i64)) .unit)))), x1⟩] (evermoreref3_Same.rs r) :=
  evermoreref3_Same.con' (k + 1) _ r (by show evermoreref3_Same.c k _ = some r; unfold evermoreref3_Same.c; simp only [pop_self, popN]; exact h)
def evermoreref3_Accepts.f (k : Nat) (d0 : (Int × (Int × (List (List (Int)) × (List (Int) × Unit))))) (w1 : List (Int)) : Option (Bool) :=
 (evermoreref3_After.f k (d0.fst, d0.snd.fst, d0.snd.snd.fst, d0.snd.snd.snd.fst, ()) d0.snd.fst w1).bind fun r1 =>
  if 0 ≤ r1 then
  if r1 < (↑d0.snd.snd.snd.fst.length : Int) then
   some (decide (Go.Proofs.YtfkilmmldjajmaaSx.rd (Int.ofNat 0) d0.snd.snd.snd.fst r1 = 1))
   else none
  else none

noncomputable def evermoreref3_Accepts.body : Code := fnBody Try.f63
def evermoreref3_Accepts.ti : Tm := ⟨[(0, .p (.pair (.int .i64) (.pair (.int .i64) (.pair (.slice (.slice (.int .i64))) (.pair (.slice (.int .i64)) .unit))))), (1, .p (.slice (.int .i64)))], []⟩
def evermoreref3_Accepts.to : Tm := ⟨[(0, .p .bool)], []⟩
def evermoreref3_Accepts.rs (r : Bool) : List Dat := [⟨.bool, r⟩]
def evermoreref3_Accepts.out (ds : List Dat) : Option (Bool) := pop .bool ds fun x0 ds => popN ds (some (x0))
def evermoreref3_Accepts.c (k : Nat) (ds : List Dat) : Option (Bool) := pop (.pair (.int .i64) (.pair (.int .i64) (.pair (.slice (.slice (.int .i64))) (.pair (.slice (.int .i64)) .unit)))) ds fun x0 ds => pop (.slice (.int .i64)) ds fun x1 ds => popN ds (evermoreref3_Accepts.f k x0 x1)
def evermoreref3_Accepts.g : Nat → List Dat → Option (Bool)
 | 0, _ => none
 | k + 1, ds => evermoreref3_Accepts.c k ds
def evermoreref3_Accepts.env (k : Nat) : Nat → List SV → List Chunk → KT (Bool) → Option (Bool) := (envC 106 3 evermoreref3_After.ti evermoreref3_After.to (fun ds K => pop (.pair (.int .i64) (.pair (.int .i64) (.pair (.slice (.slice (.int .i64))) (.pair (.slice (.int .i64)) .unit)))) ds fun x0 ds => pop (.int .i64) ds fun x1 ds => pop (.slice (.int .i64)) ds fun x2 ds => popN ds ((evermoreref3_After.f k x0 x1 x2).bind fun r => K (evermoreref3_After.rs r))) env0)
def evermoreref3_Accepts.tbl : List (Nat × Tm × (Nat → List Dat → Option (Bool))) := []
noncomputable abbrev evermoreref3_Accepts.R (k : Nat) := run T (evermoreref3_Accepts.env k) Try.f63.ntmps (cutE 0 evermoreref3_Accepts.tbl k) (finE 0 evermoreref3_Accepts.to evermoreref3_Accepts.out) (fnRes Try.f63) [] 100000 true
theorem evermoreref3_Accepts.e (k : Nat) (x0 : (Int × (Int × ((List (List Int)) × ((List Int) × Unit))))) (x1 : (List Int)) : evermoreref3_Accepts.f k x0 x1 = evermoreref3_Accepts.R k ([.code evermoreref3_Accepts.body]) (evermoreref3_Accepts.ti.fill [⟨(.pair (.int .i64) (.pair (.int .i64) (.pair (.slice (.slice (.int .i64))) (.pair (.slice (.int .i64)) .unit)))), x0⟩, ⟨(.slice (.int .i64)), x1⟩]) := by kernel_rfl
theorem evermoreref3_Accepts.h (k : Nat) (ds : List Dat) (r : Bool) (h : evermoreref3_Accepts.g k ds = some r) : ∃ k', k' < k ∧ evermoreref3_Accepts.R k' ([.code evermoreref3_Accepts.body]) (evermoreref3_Accepts.ti.fill ds) = some r := by
  cases k with
  | zero => cases (show none = some r from h)
  | succ k =>
  replace h : evermoreref3_Accepts.c k ds = some r := h
  unfold evermoreref3_Accepts.c at h
  obtain ⟨x0, d0, rfl, h0⟩ := pop_some h
  obtain ⟨x1, d1, rfl, h1⟩ := pop_some h0
  obtain ⟨rfl, g⟩ := popN_some h1
  exact ⟨k, Nat.lt_succ_self k, (evermoreref3_Accepts.e k x0 x1).symm.trans g⟩
theorem evermoreref3_Accepts.o (ds : List Dat) (r : Bool) (h : evermoreref3_Accepts.out ds = some r) : ds = evermoreref3_Accepts.rs r := by
  unfold evermoreref3_Accepts.out at h
  obtain ⟨x0, d0, rfl, h0⟩ := pop_some h
  obtain ⟨rfl, g⟩ := popN_some h0
  cases g
  rfl
theorem evermoreref3_Accepts.fn : FnOk Try.prog 63 Try.f63 evermoreref3_Accepts.body Try.f63.ntmps 2 (fnRes Try.f63) :=
  fnOk_of (by kernel_rfl) (by kernel_rfl) (by kernel_rfl) (by kernel_rfl)
theorem evermoreref3_Accepts.con' : ∀ k ds r, evermoreref3_Accepts.g k ds = some r → Con Try.prog 63 2 evermoreref3_Accepts.ti evermoreref3_Accepts.to ds (evermoreref3_Accepts.rs r) :=
  fun_ok (T := T) T_ok mixed evermoreref3_Accepts.fn (env := evermoreref3_Accepts.env) (tbl := evermoreref3_Accepts.tbl) (gOut := evermoreref3_Accepts.out) (nin := 0) (cuts := []) (fuel := 100000) rfl (by kernel_rfl) (by kernel_rfl) (by kernel_rfl) (fun x hx => by simp [evermoreref3_Accepts.tbl] at hx) evermoreref3_Accepts.o evermoreref3_Accepts.h (fun k _ => by unfold evermoreref3_Accepts.env; exact (envC_ok (fun ds K r h => by
    obtain ⟨x0, d0, rfl, h0⟩ := pop_some h
    obtain ⟨x1, d1, rfl, h1⟩ := pop_some h0
    obtain ⟨x2, d2, rfl, h2⟩ := pop_some h1
    obtain ⟨rfl, g⟩ := popN_some h2
    obtain ⟨r1, h1, h2⟩ := bind_some g
    exact ⟨_, h2, evermoreref3_After.con k _ h1⟩) env0_ok))
theorem evermoreref3_Accepts.con (k : Nat) {x0 : (Int × (Int × ((List (List Int)) × ((List Int) × Unit))))} {x1 : (List Int)} (r : Bool) (h : evermoreref3_Accepts.f k x0 x1 = some r) : Con Try.prog 63 2 evermoreref3_Accepts.ti evermoreref3_Accepts.to [⟨(.pair (.int .i64) (.pair (.int .i64) (.pair (.slice (.slice (.int .i64))) (.pair (.slice (.int .i64)) .unit)))), x0⟩, ⟨(.slice (.int .i64)), x1⟩] (evermoreref3_Accepts.rs r) :=
  evermoreref3_Accepts.con' (k + 1) _ r (by show evermoreref3_Accepts.c k _ = some r; unfold evermoreref3_Accepts.c; simp only [pop_self, popN]; exact h)
mutual
def evermorelaw_DetMade.j8 : Nat → List (Int) → Int → Bool → Bool → Int → Int → Int → List (Int) → List ((Int × (Int × (Int × Unit)))) → List (Int) → Int → Int → List (List (Int)) → List (Int) → Option (Bool)
 | 0, _, _, _, _, _, _, _, _, _, _, _, _, _, _ => none
 | k + 1, w1, e7, kept8, none9, no10, a2_0, a2_1, a2_2, a2_3, a2_4, d6_0, d6_1, c2, c3 =>
  if kept8 = true then
   if no10 = 0 then
    (evermoreref3_Made.f k (a2_0, a2_1, a2_2, a2_3, a2_4, ())).bind fun r4 =>
     (evermoreref3_Same.f k (d6_0, d6_1, c2, c3, ()) (r4.fst, r4.snd.fst, r4.snd.snd.fst, r4.snd.snd.snd, ())).bind fun r5 =>
      if e7 = 0 then
       if r5 = true then
        (evermoreref1_May.f k a2_0 w1).bind fun r8 =>
         if r8 = 0 then
          (evermoreref3_Accepts.f k (d6_0, d6_1, c2, c3, ()) w1).bind fun r10 =>
           (evermoreref3_Reach.f k (a2_0, a2_1, a2_2, a2_3, a2_4, ()) w1).bind fun r11 =>
            some (r10 == r11)
         else
          some (true)
       else
        some (false)
      else
       some (false)
   else
    if e7 = no10 then
     some (none9)
    else
     some (false)
  else
   some (false)
end
def evermorelaw_DetMade.f (k : Nat) (a0 : (Int × (Int × (List (Int) × (List ((Int × (Int × (Int × Unit)))) × (List (Int) × Unit)))))) (w1 : List (Int)) : Option (Bool) :=
 (evermorelaw_auto.f k (a0.fst, a0.snd.fst, a0.snd.snd.fst, a0.snd.snd.snd.fst, a0.snd.snd.snd.snd.fst, ())).bind fun r1 =>
  (det_Made.f k (r1.fst, r1.snd.fst, r1.snd.snd.fst, r1.snd.snd.snd.fst, r1.snd.snd.snd.snd, ())).bind fun r2 =>
   (evermorelaw_sameAuto.f k (r1.fst, r1.snd.fst, r1.snd.snd.fst, r1.snd.snd.snd.fst, r1.snd.snd.snd.snd, ()) (a0.fst, a0.snd.fst, a0.snd.snd.fst, a0.snd.snd.snd.fst, a0.snd.snd.snd.snd.fst, ())).bind fun r3 =>
    (evermorelaw_noDet.f k (r2.fst, r2.snd.fst, r2.snd.snd.snd.fst, r2.snd.snd.snd.snd, ())).bind fun r4 =>
     (evermoreref7_Check.f k (a0.fst, a0.snd.fst, a0.snd.snd.fst, a0.snd.snd.snd.fst, a0.snd.snd.snd.snd.fst, ())).bind fun r5 =>
      if r5 = 0 then
       if 8 < a0.snd.fst then
        evermorelaw_DetMade.j8 k w1 r2.snd.snd.fst r3 r4 1 a0.fst a0.snd.fst a0.snd.snd.fst a0.snd.snd.snd.fst a0.snd.snd.snd.snd.fst r2.fst r2.snd.fst r2.snd.snd.snd.fst r2.snd.snd.snd.snd
       else
        evermorelaw_DetMade.j8 k w1 r2.snd.snd.fst r3 r4 r5 a0.fst a0.snd.fst a0.snd.snd.fst a0.snd.snd.snd.fst a0.snd.snd.snd.snd.fst r2.fst r2.snd.fst r2.snd.snd.snd.fst r2.snd.snd.snd.snd
      else
       evermorelaw_DetMade.j8 k w1 r2.snd.snd.fst r3 r4 r5 a0.fst a0.snd.fst a0.snd.snd.fst a0.snd.snd.snd.fst a0.snd.snd.snd.snd.fst r2.fst r2.snd.fst r2.snd.snd.snd.fst r2.snd.snd.snd.snd

noncomputable def evermorelaw_DetMade.body : Code := fnBody Try.f14
def evermorelaw_DetMade.ti : Tm := ⟨[(0, .p (.pair (.int .i64) (.pair (.int .i64) (.pair (.slice (.int .i64)) (.pair (.slice (.pair (.int .i64) (.pair (.int .i64) (.pair (.int .i64) .unit)))) (.pair (.slice (.int .i64)) .unit)))))), (1, .p (.slice (.int .i64)))], []⟩
def evermorelaw_DetMade.to : Tm := ⟨[(0, .p .bool)], []⟩
def evermorelaw_DetMade.rs (r : Bool) : List Dat := [⟨.bool, r⟩]
def evermorelaw_DetMade.out (ds : List Dat) : Option (Bool) := pop .bool ds fun x0 ds => popN ds (some (x0))
def evermorelaw_DetMade.c (k : Nat) (ds : List Dat) : Option (Bool) := pop (.pair (.int .i64) (.pair (.int .i64) (.pair (.slice (.int .i64)) (.pair (.slice (.pair (.int .i64) (.pair (.int .i64) (.pair (.int .i64) .unit)))) (.pair (.slice (.int .i64)) .unit))))) ds fun x0 ds => pop (.slice (.int .i64)) ds fun x1 ds => popN ds (evermorelaw_DetMade.f k x0 x1)
def evermorelaw_DetMade.g : Nat → List Dat → Option (Bool)
 | 0, _ => none
 | k + 1, ds => evermorelaw_DetMade.c k ds
def evermorelaw_DetMade.env (k : Nat) : Nat → List SV → List Chunk → KT (Bool) → Option (Bool) := (envC 70 1 evermoreref3_Made.ti evermoreref3_Made.to (fun ds K => pop (.pair (.int .i64) (.pair (.int .i64) (.pair (.slice (.int .i64)) (.pair (.slice (.pair (.int .i64) (.pair (.int .i64) (.pair (.int .i64) .unit)))) (.pair (.slice (.int .i64)) .unit))))) ds fun x0 ds => popN ds ((evermoreref3_Made.f k x0).bind fun r => K (evermoreref3_Made.rs r))) (envC 46 2 evermoreref3_Same.ti evermoreref3_Same.to (fun ds K => pop (.pair (.int .i64) (.pair (.int .i64) (.pair (.slice (.slice (.int .i64))) (.pair (.slice (.int .i64)) .unit)))) ds fun x0 ds => pop (.pair (.int .i64) (.pair (.int .i64) (.pair (.slice (.slice (.int .i64))) (.pair (.slice (.int .i64)) .unit)))) ds fun x1 ds => popN ds ((evermoreref3_Same.f k x0 x1).bind fun r => K (evermoreref3_Same.rs r))) (envC 17 2 evermoreref1_May.ti evermoreref1_May.to (fun ds K => pop (.int .i64) ds fun x0 ds => pop (.slice (.int .i64)) ds fun x1 ds => popN ds ((evermoreref1_May.f k x0 x1).bind fun r => K (evermoreref1_May.rs r))) (envC 63 2 evermoreref3_Accepts.ti evermoreref3_Accepts.to (fun ds K => pop (.pair (.int .i64) (.pair (.int .i64) (.pair (.slice (.slice (.int .i64))) (.pair (.slice (.int .i64)) .unit)))) ds fun x0 ds => pop (.slice (.int .i64)) ds fun x1 ds => popN ds ((evermoreref3_Accepts.f k x0 x1).bind fun r => K (evermoreref3_Accepts.rs r))) (envC 71 2 evermoreref3_Reach.ti evermoreref3_Reach.to (fun ds K => pop (.pair (.int .i64) (.pair (.int .i64) (.pair (.slice (.int .i64)) (.pair (.slice (.pair (.int .i64) (.pair (.int .i64) (.pair (.int .i64) .unit)))) (.pair (.slice (.int .i64)) .unit))))) ds fun x0 ds => pop (.slice (.int .i64)) ds fun x1 ds => popN ds ((evermoreref3_Reach.f k x0 x1).bind fun r => K (evermoreref3_Reach.rs r))) (envC 51 1 evermorelaw_auto.ti evermorelaw_auto.to (fun ds K => pop (.pair (.int .i64) (.pair (.int .i64) (.pair (.slice (.int .i64)) (.pair (.slice (.pair (.int .i64) (.pair (.int .i64) (.pair (.int .i64) .unit)))) (.pair (.slice (.int .i64)) .unit))))) ds fun x0 ds => popN ds ((evermorelaw_auto.f k x0).bind fun r => K (evermorelaw_auto.rs r))) (envC 69 1 det_Made.ti det_Made.to (fun ds K => pop (.pair (.int .i64) (.pair (.int .i64) (.pair (.slice (.int .i64)) (.pair (.slice (.pair (.int .i64) (.pair (.int .i64) (.pair (.int .i64) .unit)))) (.pair (.slice (.int .i64)) .unit))))) ds fun x0 ds => popN ds ((det_Made.f k x0).bind fun r => K (det_Made.rs r))) (envC 53 2 evermorelaw_sameAuto.ti evermorelaw_sameAuto.to (fun ds K => pop (.pair (.int .i64) (.pair (.int .i64) (.pair (.slice (.int .i64)) (.pair (.slice (.pair (.int .i64) (.pair (.int .i64) (.pair (.int .i64) .unit)))) (.pair (.slice (.int .i64)) .unit))))) ds fun x0 ds => pop (.pair (.int .i64) (.pair (.int .i64) (.pair (.slice (.int .i64)) (.pair (.slice (.pair (.int .i64) (.pair (.int .i64) (.pair (.int .i64) .unit)))) (.pair (.slice (.int .i64)) .unit))))) ds fun x1 ds => popN ds ((evermorelaw_sameAuto.f k x0 x1).bind fun r => K (evermorelaw_sameAuto.rs r))) (envC 39 1 evermorelaw_noDet.ti evermorelaw_noDet.to (fun ds K => pop (.pair (.int .i64) (.pair (.int .i64) (.pair (.slice (.slice (.int .i64))) (.pair (.slice (.int .i64)) .unit)))) ds fun x0 ds => popN ds ((evermorelaw_noDet.f k x0).bind fun r => K (evermorelaw_noDet.rs r))) (envC 54 1 evermoreref7_Check.ti evermoreref7_Check.to (fun ds K => pop (.pair (.int .i64) (.pair (.int .i64) (.pair (.slice (.int .i64)) (.pair (.slice (.pair (.int .i64) (.pair (.int .i64) (.pair (.int .i64) .unit)))) (.pair (.slice (.int .i64)) .unit))))) ds fun x0 ds => popN ds ((evermoreref7_Check.f k x0).bind fun r => K (evermoreref7_Check.rs r))) env0))))))))))
def evermorelaw_DetMade.t16 : Tm := ⟨[(1, .p (.slice (.int .i64))), (2, .ptr 0 0), (6, .ptr 1 0), (7, .p (.int .i64)), (8, .p .bool), (9, .p .bool), (10, .p (.int .i64))], [.box [.p (.int .i64), .p (.int .i64), .p (.slice (.int .i64)), .p (.slice (.pair (.int .i64) (.pair (.int .i64) (.pair (.int .i64) .unit)))), .p (.slice (.int .i64))] 78, .box [.p (.int .i64), .p (.int .i64), .own 2, .own 3] 60, .own (.slice (.int .i64)), .own (.int .i64)]⟩
def evermorelaw_DetMade.c16 (k : Nat) (ds : List Dat) : Option (Bool) := pop (.slice (.int .i64)) ds fun x0 ds => pop (.int .i64) ds fun x1 ds => pop .bool ds fun x2 ds => pop .bool ds fun x3 ds => pop (.int .i64) ds fun x4 ds => pop (.int .i64) ds fun x5 ds => pop (.int .i64) ds fun x6 ds => pop (.slice (.int .i64)) ds fun x7 ds => pop (.slice (.pair (.int .i64) (.pair (.int .i64) (.pair (.int .i64) .unit)))) ds fun x8 ds => pop (.slice (.int .i64)) ds fun x9 ds => pop (.int .i64) ds fun x10 ds => pop (.int .i64) ds fun x11 ds => pop (.slice (.slice (.int .i64))) ds fun x12 ds => pop (.slice (.int .i64)) ds fun x13 ds => popN ds (evermorelaw_DetMade.j8 k x0 x1 x2 x3 x4 x5 x6 x7 x8 x9 x10 x11 x12 x13)
def evermorelaw_DetMade.tbl : List (Nat × Tm × (Nat → List Dat → Option (Bool))) := [(16, evermorelaw_DetMade.t16, evermorelaw_DetMade.c16)]
noncomputable abbrev evermorelaw_DetMade.R (k : Nat) := run T (evermorelaw_DetMade.env k) Try.f14.ntmps (cutE 0 evermorelaw_DetMade.tbl k) (finE 0 evermorelaw_DetMade.to evermorelaw_DetMade.out) (fnRes Try.f14) [8] 100000 true
theorem evermorelaw_DetMade.e16 (k : Nat) (x0 : (List Int)) (x1 : Int) (x2 : Bool) (x3 : Bool) (x4 : Int) (x5 : Int) (x6 : Int) (x7 : (List Int)) (x8 : (List (Int × (Int × (Int × Unit))))) (x9 : (List Int)) (x10 : Int) (x11 : Int) (x12 : (List (List Int))) (x13 : (List Int)) : evermorelaw_DetMade.j8 (k + 1) x0 x1 x2 x3 x4 x5 x6 x7 x8 x9 x10 x11 x12 x13 = evermorelaw_DetMade.R k (start (stackOf 16 evermorelaw_DetMade.body)) (evermorelaw_DetMade.t16.fill [⟨(.slice (.int .i64)), x0⟩, ⟨(.int .i64), x1⟩, ⟨.bool, x2⟩, ⟨.bool, x3⟩, ⟨(.int .i64), x4⟩, ⟨(.int .i64), x5⟩, ⟨(.int .i64), x6⟩, ⟨(.slice (.int .i64)), x7⟩, ⟨(.slice (.pair (.int .i64) (.pair (.int .i64) (.pair (.int .i64) .unit)))), x8⟩, ⟨(.slice (.int .i64)), x9⟩, ⟨(.int .i64), x10⟩, ⟨(.int .i64), x11⟩, ⟨(.slice (.slice (.int .i64))), x12⟩, ⟨(.slice (.int .i64)), x13⟩]) := by kernel_rfl
theorem evermorelaw_DetMade.s16 : stackAt 16 evermorelaw_DetMade.body [] = some (stackOf 16 evermorelaw_DetMade.body) := by kernel_rfl
theorem evermorelaw_DetMade.h16 (k : Nat) (ds : List Dat) (r : Bool) (h : evermorelaw_DetMade.c16 k ds = some r) : ∃ k', k' < k ∧ ∃ s, stackAt 16 evermorelaw_DetMade.body [] = some s ∧ evermorelaw_DetMade.R k' (start s) (evermorelaw_DetMade.t16.fill ds) = some r := by
  unfold evermorelaw_DetMade.c16 at h
  obtain ⟨x0, d0, rfl, h0⟩ := pop_some h
  obtain ⟨x1, d1, rfl, h1⟩ := pop_some h0
  obtain ⟨x2, d2, rfl, h2⟩ := pop_some h1
  obtain ⟨x3, d3, rfl, h3⟩ := pop_some h2
  obtain ⟨x4, d4, rfl, h4⟩ := pop_some h3
  obtain ⟨x5, d5, rfl, h5⟩ := pop_some h4
  obtain ⟨x6, d6, rfl, h6⟩ := pop_some h5
  obtain ⟨x7, d7, rfl, h7⟩ := pop_some h6
  obtain ⟨x8, d8, rfl, h8⟩ := pop_some h7
  obtain ⟨x9, d9, rfl, h9⟩ := pop_some h8
  obtain ⟨x10, d10, rfl, h10⟩ := pop_some h9
  obtain ⟨x11, d11, rfl, h11⟩ := pop_some h10
  obtain ⟨x12, d12, rfl, h12⟩ := pop_some h11
  obtain ⟨x13, d13, rfl, h13⟩ := pop_some h12
  obtain ⟨rfl, g⟩ := popN_some h13
  cases k with
  | zero => cases (show none = some r from g)
  | succ k => exact ⟨k, Nat.lt_succ_self k, _, evermorelaw_DetMade.s16, (evermorelaw_DetMade.e16 k x0 x1 x2 x3 x4 x5 x6 x7 x8 x9 x10 x11 x12 x13).symm.trans g⟩
theorem evermorelaw_DetMade.e (k : Nat) (x0 : (Int × (Int × ((List Int) × ((List (Int × (Int × (Int × Unit)))) × ((List Int) × Unit)))))) (x1 : (List Int)) : evermorelaw_DetMade.f k x0 x1 = evermorelaw_DetMade.R k ([.code evermorelaw_DetMade.body]) (evermorelaw_DetMade.ti.fill [⟨(.pair (.int .i64) (.pair (.int .i64) (.pair (.slice (.int .i64)) (.pair (.slice (.pair (.int .i64) (.pair (.int .i64) (.pair (.int .i64) .unit)))) (.pair (.slice (.int .i64)) .unit))))), x0⟩, ⟨(.slice (.int .i64)), x1⟩]) := by kernel_rfl
theorem evermorelaw_DetMade.h (k : Nat) (ds : List Dat) (r : Bool) (h : evermorelaw_DetMade.g k ds = some r) : ∃ k', k' < k ∧ evermorelaw_DetMade.R k' ([.code evermorelaw_DetMade.body]) (evermorelaw_DetMade.ti.fill ds) = some r := by
  cases k with
  | zero => cases (show none = some r from h)
  | succ k =>
  replace h : evermorelaw_DetMade.c k ds = some r := h
  unfold evermorelaw_DetMade.c at h
  obtain ⟨x0, d0, rfl, h0⟩ := pop_some h
  obtain ⟨x1, d1, rfl, h1⟩ := pop_some h0
  obtain ⟨rfl, g⟩ := popN_some h1
  exact ⟨k, Nat.lt_succ_self k, (evermorelaw_DetMade.e k x0 x1).symm.trans g⟩
theorem evermorelaw_DetMade.o (ds : List Dat) (r : Bool) (h : evermorelaw_DetMade.out ds = some r) : ds = evermorelaw_DetMade.rs r := by
  unfold evermorelaw_DetMade.out at h
  obtain ⟨x0, d0, rfl, h0⟩ := pop_some h
  obtain ⟨rfl, g⟩ := popN_some h0
  cases g
  rfl
theorem evermorelaw_DetMade.fn : FnOk Try.prog 14 Try.f14 evermorelaw_DetMade.body Try.f14.ntmps 2 (fnRes Try.f14) :=
  fnOk_of (by kernel_rfl) (by kernel_rfl) (by kernel_rfl) (by kernel_rfl)
theorem evermorelaw_DetMade.con' : ∀ k ds r, evermorelaw_DetMade.g k ds = some r → Con Try.prog 14 2 evermorelaw_DetMade.ti evermorelaw_DetMade.to ds (evermorelaw_DetMade.rs r) :=
  fun_ok (T := T) T_ok mixed evermorelaw_DetMade.fn (env := evermorelaw_DetMade.env) (tbl := evermorelaw_DetMade.tbl) (gOut := evermorelaw_DetMade.out) (nin := 0) (cuts := [8]) (fuel := 100000) rfl (by kernel_rfl) (by kernel_rfl) (by kernel_rfl) (fun x hx => by
    simp only [evermorelaw_DetMade.tbl, List.mem_cons, List.not_mem_nil, or_false] at hx
    subst hx
    · exact evermorelaw_DetMade.h16
) evermorelaw_DetMade.o evermorelaw_DetMade.h (fun k _ => by unfold evermorelaw_DetMade.env; exact (envC_ok (fun ds K r h => by
    obtain ⟨x0, d0, rfl, h0⟩ := pop_some h
    obtain ⟨rfl, g⟩ := popN_some h0
    obtain ⟨r1, h1, h2⟩ := bind_some g
    exact ⟨_, h2, evermoreref3_Made.con k _ h1⟩) (envC_ok (fun ds K r h => by
    obtain ⟨x0, d0, rfl, h0⟩ := pop_some h
    obtain ⟨x1, d1, rfl, h1⟩ := pop_some h0
    obtain ⟨rfl, g⟩ := popN_some h1
    obtain ⟨r1, h1, h2⟩ := bind_some g
    exact ⟨_, h2, evermoreref3_Same.con k _ h1⟩) (envC_ok (fun ds K r h => by
    obtain ⟨x0, d0, rfl, h0⟩ := pop_some h
    obtain ⟨x1, d1, rfl, h1⟩ := pop_some h0
    obtain ⟨rfl, g⟩ := popN_some h1
    obtain ⟨r1, h1, h2⟩ := bind_some g
    exact ⟨_, h2, evermoreref1_May.con k _ h1⟩) (envC_ok (fun ds K r h => by
    obtain ⟨x0, d0, rfl, h0⟩ := pop_some h
    obtain ⟨x1, d1, rfl, h1⟩ := pop_some h0
    obtain ⟨rfl, g⟩ := popN_some h1
    obtain ⟨r1, h1, h2⟩ := bind_some g
    exact ⟨_, h2, evermoreref3_Accepts.con k _ h1⟩) (envC_ok (fun ds K r h => by
    obtain ⟨x0, d0, rfl, h0⟩ := pop_some h
    obtain ⟨x1, d1, rfl, h1⟩ := pop_some h0
    obtain ⟨rfl, g⟩ := popN_some h1
    obtain ⟨r1, h1, h2⟩ := bind_some g
    exact ⟨_, h2, evermoreref3_Reach.con k _ h1⟩) (envC_ok (fun ds K r h => by
    obtain ⟨x0, d0, rfl, h0⟩ := pop_some h
    obtain ⟨rfl, g⟩ := popN_some h0
    obtain ⟨r1, h1, h2⟩ := bind_some g
    exact ⟨_, h2, evermorelaw_auto.con k _ h1⟩) (envC_ok (fun ds K r h => by
    obtain ⟨x0, d0, rfl, h0⟩ := pop_some h
    obtain ⟨rfl, g⟩ := popN_some h0
    obtain ⟨r1, h1, h2⟩ := bind_some g
    exact ⟨_, h2, det_Made.con k _ h1⟩) (envC_ok (fun ds K r h => by
    obtain ⟨x0, d0, rfl, h0⟩ := pop_some h
    obtain ⟨x1, d1, rfl, h1⟩ := pop_some h0
    obtain ⟨rfl, g⟩ := popN_some h1
    obtain ⟨r1, h1, h2⟩ := bind_some g
    exact ⟨_, h2, evermorelaw_sameAuto.con k _ h1⟩) (envC_ok (fun ds K r h => by
    obtain ⟨x0, d0, rfl, h0⟩ := pop_some h
    obtain ⟨rfl, g⟩ := popN_some h0
    obtain ⟨r1, h1, h2⟩ := bind_some g
    exact ⟨_, h2, evermorelaw_noDet.con k _ h1⟩) (envC_ok (fun ds K r h => by
    obtain ⟨x0, d0, rfl, h0⟩ := pop_some h
    obtain ⟨rfl, g⟩ := popN_some h0
    obtain ⟨r1, h1, h2⟩ := bind_some g
    exact ⟨_, h2, evermoreref7_Check.con k _ h1⟩) env0_ok)))))))))))
theorem evermorelaw_DetMade.con (k : Nat) {x0 : (Int × (Int × ((List Int) × ((List (Int × (Int × (Int × Unit)))) × ((List Int) × Unit)))))} {x1 : (List Int)} (r : Bool) (h : evermorelaw_DetMade.f k x0 x1 = some r) : Con Try.prog 14 2 evermorelaw_DetMade.ti evermorelaw_DetMade.to [⟨(.pair (.int .i64) (.pair (.int .i64) (.pair (.slice (.int .i64)) (.pair (.slice (.pair (.int .i64) (.pair (.int .i64) (.pair (.int .i64) .unit)))) (.pair (.slice (.int .i64)) .unit))))), x0⟩, ⟨(.slice (.int .i64)), x1⟩] (evermorelaw_DetMade.rs r) :=
  evermorelaw_DetMade.con' (k + 1) _ r (by show evermorelaw_DetMade.c k _ = some r; unfold evermorelaw_DetMade.c; simp only [pop_self, popN]; exact h)
/-- The one pure statement of the law, over whatever arguments can be read. -/
def evermorelaw_DetMade.PureH : Prop := ∀ (x0 : (Int × (Int × ((List Int) × ((List (Int × (Int × (Int × Unit)))) × ((List Int) × Unit)))))) (x1 : (List Int)), Ty.okv (.pair (.int .i64) (.pair (.int .i64) (.pair (.slice (.int .i64)) (.pair (.slice (.pair (.int .i64) (.pair (.int .i64) (.pair (.int .i64) .unit)))) (.pair (.slice (.int .i64)) .unit))))) x0 → Ty.okv (.slice (.int .i64)) x1 → ∃ k, evermorelaw_DetMade.f k x0 x1 = some true
end Go.Proofs.YtfkilmmldjajmaaSx
