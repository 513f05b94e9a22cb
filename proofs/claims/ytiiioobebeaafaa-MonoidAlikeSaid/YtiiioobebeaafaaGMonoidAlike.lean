import Derived.Test.YtiiioobebeaafaaGaMonoidAlike
set_option linter.unusedVariables false
set_option maxRecDepth 100000
namespace Go.Proofs.YtiiioobebeaafaaSx
open Go Go.Proofs
mutual
def evermoreref3_Classes.l3 : Nat → Int → Int → Int → List (List (Int)) → List (Int) → List (Int) → Option (List Int)
 | 0, _, _, _, _, _, _ => none
 | k + 1, count4, d1_0, d1_1, d1_2, d1_3, class3 =>
  if 0 ≤ (↑class3.length : Int) then
  if (↑class3.length : Int) ≤ (↑class3.length : Int) then
   if (↑class3.length : Int) * ((↑8 : Int) + 1) ≤ 1099511627776 then
    evermoreref3_Classes.l7 k count4 0 0 d1_0 d1_1 d1_2 d1_3 class3 (List.replicate (↑class3.length : Int).toNat (Int.ofNat 0)) []
    else none
   else none
  else none
def evermoreref3_Classes.l7 : Nat → Int → Int → Int → Int → Int → List (List (Int)) → List (Int) → List (Int) → List (Int) → List (Int) → Option (List Int)
 | 0, _, _, _, _, _, _, _, _, _, _ => none
 | k + 1, count4, n6, q8, d1_0, d1_1, d1_2, d1_3, class3, next5, first7 =>
  if q8 < (↑class3.length : Int) then
   evermoreref3_Classes.l10 k count4 n6 q8 0 d1_0 d1_1 d1_2 d1_3 class3 next5 first7
  else
   if n6 = count4 then
    some (next5)
   else
    evermoreref3_Classes.l3 k n6 d1_0 d1_1 d1_2 d1_3 next5
def evermoreref3_Classes.l10 : Nat → Int → Int → Int → Int → Int → Int → List (List (Int)) → List (Int) → List (Int) → List (Int) → List (Int) → Option (List Int)
 | 0, _, _, _, _, _, _, _, _, _, _, _ => none
 | k + 1, count4, n6, q8, k9, d1_0, d1_1, d1_2, d1_3, class3, next5, first7 =>
  if k9 < n6 then
   if 0 ≤ k9 then
   if k9 < (↑first7.length : Int) then
    if 0 ≤ first7.getD k9.toNat (Int.ofNat 0) then
     if first7.getD k9.toNat (Int.ofNat 0) < (↑class3.length : Int) then
      if 0 ≤ q8 then
       if q8 < (↑class3.length : Int) then
        evermoreref3_Classes.l14 k count4 n6 q8 k9 (first7.getD k9.toNat (Int.ofNat 0)) (decide (class3.getD (first7.getD k9.toNat (Int.ofNat 0)).toNat (Int.ofNat 0) = class3.getD q8.toNat (Int.ofNat 0))) 0 d1_0 d1_1 d1_2 d1_3 class3 next5 first7
        else none
       else none
      else none
     else none
    else none
   else none
  else
   if k9 = n6 then
    if (first7 ++ [q8]).length.blt 1000000000 = true then
    evermoreref3_Classes.j22 k count4 (Go.IntKind.i64.wrap (n6 + 1)) q8 k9 d1_0 d1_1 d1_2 d1_3 class3 next5 (first7 ++ [q8])
    else none
   else
    evermoreref3_Classes.j22 k count4 n6 q8 k9 d1_0 d1_1 d1_2 d1_3 class3 next5 first7
def evermoreref3_Classes.l14 : Nat → Int → Int → Int → Int → Int → Bool → Int → Int → Int → List (List (Int)) → List (Int) → List (Int) → List (Int) → List (Int) → Option (List Int)
 | 0, _, _, _, _, _, _, _, _, _, _, _, _, _, _ => none
 | k + 1, count4, n6, q8, k9, p10, same11, a12, d1_0, d1_1, d1_2, d1_3, class3, next5, first7 =>
  if a12 < d1_0 then
   if same11 = true then
    if 0 ≤ p10 then
    if p10 < (↑d1_2.length : Int) then
     if 0 ≤ a12 then
      if a12 < (↑(Go.Proofs.YtiiioobebeaafaaSx.rd [] d1_2 p10).length : Int) then
       if 0 ≤ Go.Proofs.YtiiioobebeaafaaSx.rd (Int.ofNat 0) (Go.Proofs.YtiiioobebeaafaaSx.rd [] d1_2 p10) a12 then
        if Go.Proofs.YtiiioobebeaafaaSx.rd (Int.ofNat 0) (Go.Proofs.YtiiioobebeaafaaSx.rd [] d1_2 p10) a12 < (↑class3.length : Int) then
         if 0 ≤ q8 then
          if q8 < (↑d1_2.length : Int) then
           if 0 ≤ a12 then
            if a12 < (↑(Go.Proofs.YtiiioobebeaafaaSx.rd [] d1_2 q8).length : Int) then
             if 0 ≤ Go.Proofs.YtiiioobebeaafaaSx.rd (Int.ofNat 0) (Go.Proofs.YtiiioobebeaafaaSx.rd [] d1_2 q8) a12 then
              if Go.Proofs.YtiiioobebeaafaaSx.rd (Int.ofNat 0) (Go.Proofs.YtiiioobebeaafaaSx.rd [] d1_2 q8) a12 < (↑class3.length : Int) then
               evermoreref3_Classes.l14 k count4 n6 q8 k9 p10 (decide (class3.getD (Go.Proofs.YtiiioobebeaafaaSx.rd (Int.ofNat 0) (Go.Proofs.YtiiioobebeaafaaSx.rd [] d1_2 p10) a12).toNat (Int.ofNat 0) = class3.getD (Go.Proofs.YtiiioobebeaafaaSx.rd (Int.ofNat 0) (Go.Proofs.YtiiioobebeaafaaSx.rd [] d1_2 q8) a12).toNat (Int.ofNat 0))) (Go.IntKind.i64.wrap (a12 + 1)) d1_0 d1_1 d1_2 d1_3 class3 next5 first7
               else none
              else none
             else none
            else none
           else none
          else none
         else none
        else none
       else none
      else none
     else none
    else none
   else
    if same11 = true then
     if k9 = n6 then
      if (first7 ++ [q8]).length.blt 1000000000 = true then
      evermoreref3_Classes.j22 k count4 (Go.IntKind.i64.wrap (n6 + 1)) q8 k9 d1_0 d1_1 d1_2 d1_3 class3 next5 (first7 ++ [q8])
      else none
     else
      evermoreref3_Classes.j22 k count4 n6 q8 k9 d1_0 d1_1 d1_2 d1_3 class3 next5 first7
    else
     evermoreref3_Classes.l10 k count4 n6 q8 (Go.IntKind.i64.wrap (k9 + 1)) d1_0 d1_1 d1_2 d1_3 class3 next5 first7
  else
   if same11 = true then
    if k9 = n6 then
     if (first7 ++ [q8]).length.blt 1000000000 = true then
     evermoreref3_Classes.j22 k count4 (Go.IntKind.i64.wrap (n6 + 1)) q8 k9 d1_0 d1_1 d1_2 d1_3 class3 next5 (first7 ++ [q8])
     else none
    else
     evermoreref3_Classes.j22 k count4 n6 q8 k9 d1_0 d1_1 d1_2 d1_3 class3 next5 first7
   else
    evermoreref3_Classes.l10 k count4 n6 q8 (Go.IntKind.i64.wrap (k9 + 1)) d1_0 d1_1 d1_2 d1_3 class3 next5 first7
def evermoreref3_Classes.j22 : Nat → Int → Int → Int → Int → Int → Int → List (List (Int)) → List (Int) → List (Int) → List (Int) → List (Int) → Option (List Int)
 | 0, _, _, _, _, _, _, _, _, _, _, _ => none
 | k + 1, count4, n6, q8, k9, d1_0, d1_1, d1_2, d1_3, class3, next5, first7 =>
  if 0 ≤ q8 then
  if q8 < (↑next5.length : Int) then
   evermoreref3_Classes.l7 k count4 n6 (Go.IntKind.i64.wrap (q8 + 1)) d1_0 d1_1 d1_2 d1_3 class3 (next5.set q8.toNat k9) first7
   else none
  else none
end
def evermoreref3_Classes.f (k : Nat) (d0 : (Int × (Int × (List (List (Int)) × (List (Int) × Unit))))) : Option (List Int) :=
 if ([] ++ d0.snd.snd.snd.fst).length.blt 1000000000 = true then
 evermoreref3_Classes.l3 k 0 d0.fst d0.snd.fst d0.snd.snd.fst d0.snd.snd.snd.fst ([] ++ d0.snd.snd.snd.fst)
 else none

noncomputable def evermoreref3_Classes.body : Code := fnBody Try.f104
def evermoreref3_Classes.ti : Tm := ⟨[(0, .p (.pair (.int .i64) (.pair (.int .i64) (.pair (.slice (.slice (.int .i64))) (.pair (.slice (.int .i64)) .unit)))))], []⟩
def evermoreref3_Classes.to : Tm := ⟨[(0, .own 0)], [.own (.int .i64)]⟩
def evermoreref3_Classes.rs (r : (List Int)) : List Dat := [⟨(.slice (.int .i64)), r⟩]
def evermoreref3_Classes.out (ds : List Dat) : Option ((List Int)) := pop (.slice (.int .i64)) ds fun x0 ds => popN ds (some (x0))
def evermoreref3_Classes.c (k : Nat) (ds : List Dat) : Option ((List Int)) := pop (.pair (.int .i64) (.pair (.int .i64) (.pair (.slice (.slice (.int .i64))) (.pair (.slice (.int .i64)) .unit)))) ds fun x0 ds => popN ds (evermoreref3_Classes.f k x0)
def evermoreref3_Classes.g : Nat → List Dat → Option ((List Int))
 | 0, _ => none
 | k + 1, ds => evermoreref3_Classes.c k ds
def evermoreref3_Classes.env (k : Nat) : Nat → List SV → List Chunk → KT ((List Int)) → Option ((List Int)) := env0
def evermoreref3_Classes.t7 : Tm := ⟨[(1, .ptr 0 0), (3, .own 1), (4, .p (.int .i64))], [.box [.p (.int .i64), .p (.int .i64), .p (.slice (.slice (.int .i64))), .p (.slice (.int .i64))] 58, .own (.int .i64)]⟩
def evermoreref3_Classes.c7 (k : Nat) (ds : List Dat) : Option ((List Int)) := pop (.int .i64) ds fun x0 ds => pop (.int .i64) ds fun x1 ds => pop (.int .i64) ds fun x2 ds => pop (.slice (.slice (.int .i64))) ds fun x3 ds => pop (.slice (.int .i64)) ds fun x4 ds => pop (.slice (.int .i64)) ds fun x5 ds => popN ds (evermoreref3_Classes.l3 k x0 x1 x2 x3 x4 x5)
def evermoreref3_Classes.t15 : Tm := ⟨[(1, .ptr 0 0), (3, .own 1), (4, .p (.int .i64)), (5, .own 2), (6, .p (.int .i64)), (7, .own 3), (8, .p (.int .i64))], [.box [.p (.int .i64), .p (.int .i64), .p (.slice (.slice (.int .i64))), .p (.slice (.int .i64))] 58, .own (.int .i64), .own (.int .i64), .own (.int .i64)]⟩
def evermoreref3_Classes.c15 (k : Nat) (ds : List Dat) : Option ((List Int)) := pop (.int .i64) ds fun x0 ds => pop (.int .i64) ds fun x1 ds => pop (.int .i64) ds fun x2 ds => pop (.int .i64) ds fun x3 ds => pop (.int .i64) ds fun x4 ds => pop (.slice (.slice (.int .i64))) ds fun x5 ds => pop (.slice (.int .i64)) ds fun x6 ds => pop (.slice (.int .i64)) ds fun x7 ds => pop (.slice (.int .i64)) ds fun x8 ds => pop (.slice (.int .i64)) ds fun x9 ds => popN ds (evermoreref3_Classes.l7 k x0 x1 x2 x3 x4 x5 x6 x7 x8 x9)
def evermoreref3_Classes.t21 : Tm := ⟨[(1, .ptr 0 0), (3, .own 1), (4, .p (.int .i64)), (5, .own 2), (6, .p (.int .i64)), (7, .own 3), (8, .p (.int .i64)), (9, .p (.int .i64))], [.box [.p (.int .i64), .p (.int .i64), .p (.slice (.slice (.int .i64))), .p (.slice (.int .i64))] 58, .own (.int .i64), .own (.int .i64), .own (.int .i64)]⟩
def evermoreref3_Classes.c21 (k : Nat) (ds : List Dat) : Option ((List Int)) := pop (.int .i64) ds fun x0 ds => pop (.int .i64) ds fun x1 ds => pop (.int .i64) ds fun x2 ds => pop (.int .i64) ds fun x3 ds => pop (.int .i64) ds fun x4 ds => pop (.int .i64) ds fun x5 ds => pop (.slice (.slice (.int .i64))) ds fun x6 ds => pop (.slice (.int .i64)) ds fun x7 ds => pop (.slice (.int .i64)) ds fun x8 ds => pop (.slice (.int .i64)) ds fun x9 ds => pop (.slice (.int .i64)) ds fun x10 ds => popN ds (evermoreref3_Classes.l10 k x0 x1 x2 x3 x4 x5 x6 x7 x8 x9 x10)
def evermoreref3_Classes.t29 : Tm := ⟨[(1, .ptr 0 0), (3, .own 1), (4, .p (.int .i64)), (5, .own 2), (6, .p (.int .i64)), (7, .own 3), (8, .p (.int .i64)), (9, .p (.int .i64)), (10, .p (.int .i64)), (11, .p .bool), (12, .p (.int .i64))], [.box [.p (.int .i64), .p (.int .i64), .p (.slice (.slice (.int .i64))), .p (.slice (.int .i64))] 58, .own (.int .i64), .own (.int .i64), .own (.int .i64)]⟩
def evermoreref3_Classes.c29 (k : Nat) (ds : List Dat) : Option ((List Int)) := pop (.int .i64) ds fun x0 ds => pop (.int .i64) ds fun x1 ds => pop (.int .i64) ds fun x2 ds => pop (.int .i64) ds fun x3 ds => pop (.int .i64) ds fun x4 ds => pop .bool ds fun x5 ds => pop (.int .i64) ds fun x6 ds => pop (.int .i64) ds fun x7 ds => pop (.int .i64) ds fun x8 ds => pop (.slice (.slice (.int .i64))) ds fun x9 ds => pop (.slice (.int .i64)) ds fun x10 ds => pop (.slice (.int .i64)) ds fun x11 ds => pop (.slice (.int .i64)) ds fun x12 ds => pop (.slice (.int .i64)) ds fun x13 ds => popN ds (evermoreref3_Classes.l14 k x0 x1 x2 x3 x4 x5 x6 x7 x8 x9 x10 x11 x12 x13)
def evermoreref3_Classes.t44 : Tm := ⟨[(1, .ptr 0 0), (3, .own 1), (4, .p (.int .i64)), (5, .own 2), (6, .p (.int .i64)), (7, .own 3), (8, .p (.int .i64)), (9, .p (.int .i64))], [.box [.p (.int .i64), .p (.int .i64), .p (.slice (.slice (.int .i64))), .p (.slice (.int .i64))] 58, .own (.int .i64), .own (.int .i64), .own (.int .i64)]⟩
def evermoreref3_Classes.c44 (k : Nat) (ds : List Dat) : Option ((List Int)) := pop (.int .i64) ds fun x0 ds => pop (.int .i64) ds fun x1 ds => pop (.int .i64) ds fun x2 ds => pop (.int .i64) ds fun x3 ds => pop (.int .i64) ds fun x4 ds => pop (.int .i64) ds fun x5 ds => pop (.slice (.slice (.int .i64))) ds fun x6 ds => pop (.slice (.int .i64)) ds fun x7 ds => pop (.slice (.int .i64)) ds fun x8 ds => pop (.slice (.int .i64)) ds fun x9 ds => pop (.slice (.int .i64)) ds fun x10 ds => popN ds (evermoreref3_Classes.j22 k x0 x1 x2 x3 x4 x5 x6 x7 x8 x9 x10)
def evermoreref3_Classes.tbl : List (Nat × Tm × (Nat → List Dat → Option ((List Int)))) := [(7, evermoreref3_Classes.t7, evermoreref3_Classes.c7), (15, evermoreref3_Classes.t15, evermoreref3_Classes.c15), (21, evermoreref3_Classes.t21, evermoreref3_Classes.c21), (29, evermoreref3_Classes.t29, evermoreref3_Classes.c29), (44, evermoreref3_Classes.t44, evermoreref3_Classes.c44)]
noncomputable abbrev evermoreref3_Classes.R (k : Nat) := run T (evermoreref3_Classes.env k) Try.f104.ntmps (cutE 0 evermoreref3_Classes.tbl k) (finE 0 evermoreref3_Classes.to evermoreref3_Classes.out) (fnRes Try.f104) [22] 100000 true
theorem evermoreref3_Classes.e7 (k : Nat) (x0 : Int) (x1 : Int) (x2 : Int) (x3 : (List (List Int))) (x4 : (List Int)) (x5 : (List Int)) : evermoreref3_Classes.l3 (k + 1) x0 x1 x2 x3 x4 x5 = evermoreref3_Classes.R k (start (stackOf 7 evermoreref3_Classes.body)) (evermoreref3_Classes.t7.fill [⟨(.int .i64), x0⟩, ⟨(.int .i64), x1⟩, ⟨(.int .i64), x2⟩, ⟨(.slice (.slice (.int .i64))), x3⟩, ⟨(.slice (.int .i64)), x4⟩, ⟨(.slice (.int .i64)), x5⟩]) := by kernel_rfl
theorem evermoreref3_Classes.s7 : stackAt 7 evermoreref3_Classes.body [] = some (stackOf 7 evermoreref3_Classes.body) := by kernel_rfl
theorem evermoreref3_Classes.h7 (k : Nat) (ds : List Dat) (r : (List Int)) (h : evermoreref3_Classes.c7 k ds = some r) : ∃ k', k' < k ∧ ∃ s, stackAt 7 evermoreref3_Classes.body [] = some s ∧ evermoreref3_Classes.R k' (start s) (evermoreref3_Classes.t7.fill ds) = some r := by
  unfold evermoreref3_Classes.c7 at h
  obtain ⟨x0, d0, rfl, h0⟩ := pop_some h
  obtain ⟨x1, d1, rfl, h1⟩ := pop_some h0
  obtain ⟨x2, d2, rfl, h2⟩ := pop_some h1
  obtain ⟨x3, d3, rfl, h3⟩ := pop_some h2
  obtain ⟨x4, d4, rfl, h4⟩ := pop_some h3
  obtain ⟨x5, d5, rfl, h5⟩ := pop_some h4
  obtain ⟨rfl, g⟩ := popN_some h5
  cases k with
  | zero => cases (show none = some r from g)
  | succ k => exact ⟨k, Nat.lt_succ_self k, _, evermoreref3_Classes.s7, (evermoreref3_Classes.e7 k x0 x1 x2 x3 x4 x5).symm.trans g⟩
theorem evermoreref3_Classes.e15 (k : Nat) (x0 : Int) (x1 : Int) (x2 : Int) (x3 : Int) (x4 : Int) (x5 : (List (List Int))) (x6 : (List Int)) (x7 : (List Int)) (x8 : (List Int)) (x9 : (List Int)) : evermoreref3_Classes.l7 (k + 1) x0 x1 x2 x3 x4 x5 x6 x7 x8 x9 = evermoreref3_Classes.R k (start (stackOf 15 evermoreref3_Classes.body)) (evermoreref3_Classes.t15.fill [⟨(.int .i64), x0⟩, ⟨(.int .i64), x1⟩, ⟨(.int .i64), x2⟩, ⟨(.int .i64), x3⟩, ⟨(.int .i64), x4⟩, ⟨(.slice (.slice (.int .i64))), x5⟩, ⟨(.slice (.int .i64)), x6⟩, ⟨(.slice (.int .i64)), x7⟩, ⟨(.slice (.int .i64)), x8⟩, ⟨(.slice (.int .i64)), x9⟩]) := by kernel_rfl
theorem evermoreref3_Classes.s15 : stackAt 15 evermoreref3_Classes.body [] = some (stackOf 15 evermoreref3_Classes.body) := by kernel_rfl
theorem evermoreref3_Classes.h15 (k : Nat) (ds : List Dat) (r : (List Int)) (h : evermoreref3_Classes.c15 k ds = some r) : ∃ k', k' < k ∧ ∃ s, stackAt 15 evermoreref3_Classes.body [] = some s ∧ evermoreref3_Classes.R k' (start s) (evermoreref3_Classes.t15.fill ds) = some r := by
  unfold evermoreref3_Classes.c15 at h
  obtain ⟨x0, d0, rfl, h0⟩ := pop_some h
  obtain ⟨x1, d1, rfl, h1⟩ := pop_some h0
  obtain ⟨x2, d2, rfl, h2⟩ := pop_some h1
  obtain ⟨x3, d3, rfl, h3⟩ := pop_some h2
  obtain ⟨x4, d4, rfl, h4⟩ := pop_some h3
  obtain ⟨x5, d5, rfl, h5⟩ := pop_some h4
  obtain ⟨x6, d6, rfl, h6⟩ := pop_some h5
  obtain ⟨x7, d7, rfl, h7⟩ := pop_some h6
  obtain ⟨x8, d8, rfl, h8⟩ := pop_some h7
  obtain ⟨x9, d9, rfl, h9⟩ := pop_some h8
  obtain ⟨rfl, g⟩ := popN_some h9
  cases k with
  | zero => cases (show none = some r from g)
  | succ k => exact ⟨k, Nat.lt_succ_self k, _, evermoreref3_Classes.s15, (evermoreref3_Classes.e15 k x0 x1 x2 x3 x4 x5 x6 x7 x8 x9).symm.trans g⟩
theorem evermoreref3_Classes.e21 (k : Nat) (x0 : Int) (x1 : Int) (x2 : Int) (x3 : Int) (x4 : Int) (x5 : Int) (x6 : (List (List Int))) (x7 : (List Int)) (x8 : (List Int)) (x9 : (List Int)) (x10 : (List Int)) : evermoreref3_Classes.l10 (k + 1) x0 x1 x2 x3 x4 x5 x6 x7 x8 x9 x10 = evermoreref3_Classes.R k (start (stackOf 21 evermoreref3_Classes.body)) (evermoreref3_Classes.t21.fill [⟨(.int .i64), x0⟩, ⟨(.int .i64), x1⟩, ⟨(.int .i64), x2⟩, ⟨(.int .i64), x3⟩, ⟨(.int .i64), x4⟩, ⟨(.int .i64), x5⟩, ⟨(.slice (.slice (.int .i64))), x6⟩, ⟨(.slice (.int .i64)), x7⟩, ⟨(.slice (.int .i64)), x8⟩, ⟨(.slice (.int .i64)), x9⟩, ⟨(.slice (.int .i64)), x10⟩]) := by kernel_rfl
theorem evermoreref3_Classes.s21 : stackAt 21 evermoreref3_Classes.body [] = some (stackOf 21 evermoreref3_Classes.body) := by kernel_rfl
theorem evermoreref3_Classes.h21 (k : Nat) (ds : List Dat) (r : (List Int)) (h : evermoreref3_Classes.c21 k ds = some r) : ∃ k', k' < k ∧ ∃ s, stackAt 21 evermoreref3_Classes.body [] = some s ∧ evermoreref3_Classes.R k' (start s) (evermoreref3_Classes.t21.fill ds) = some r := by
  unfold evermoreref3_Classes.c21 at h
  obtain ⟨x0, d0, rfl, h0⟩ := pop_some h
  obtain ⟨x1, d1, rfl, h1⟩ := pop_some h0
  obtain ⟨x2, d2, rfl, h2⟩ := pop_some h1
  obtain ⟨x3, d3, rfl, h3⟩ := pop_some h2
  obtain ⟨x4, d4, rfl, h4⟩ := pop_some h3
  obtain ⟨x5, d5, rfl, h5⟩ := pop_some h4
  obtain ⟨x6, d6, rfl, h6⟩ := pop_some h5
  obtain ⟨x7, d7, rfl, h7⟩ := pop_some h6
  obtain ⟨x8, d8, rfl, h8⟩ := pop_some h7
  obtain ⟨x9, d9, rfl, h9⟩ := pop_some h8
  obtain ⟨x10, d10, rfl, h10⟩ := pop_some h9
  obtain ⟨rfl, g⟩ := popN_some h10
  cases k with
  | zero => cases (show none = some r from g)
  | succ k => exact ⟨k, Nat.lt_succ_self k, _, evermoreref3_Classes.s21, (evermoreref3_Classes.e21 k x0 x1 x2 x3 x4 x5 x6 x7 x8 x9 x10).symm.trans g⟩
theorem evermoreref3_Classes.e29 (k : Nat) (x0 : Int) (x1 : Int) (x2 : Int) (x3 : Int) (x4 : Int) (x5 : Bool) (x6 : Int) (x7 : Int) (x8 : Int) (x9 : (List (List Int))) (x10 : (List Int)) (x11 : (List Int)) (x12 : (List Int)) (x13 : (List Int)) : evermoreref3_Classes.l14 (k + 1) x0 x1 x2 x3 x4 x5 x6 x7 x8 x9 x10 x11 x12 x13 = evermoreref3_Classes.R k (start (stackOf 29 evermoreref3_Classes.body)) (evermoreref3_Classes.t29.fill [⟨(.int .i64), x0⟩, ⟨(.int .i64), x1⟩, ⟨(.int .i64), x2⟩, ⟨(.int .i64), x3⟩, ⟨(.int .i64), x4⟩, ⟨.bool, x5⟩, ⟨(.int .i64), x6⟩, ⟨(.int .i64), x7⟩, ⟨(.int .i64), x8⟩, ⟨(.slice (.slice (.int .i64))), x9⟩, ⟨(.slice (.int .i64)), x10⟩, ⟨(.slice (.int .i64)), x11⟩, ⟨(.slice (.int .i64)), x12⟩, ⟨(.slice (.int .i64)), x13⟩]) := by kernel_rfl
theorem evermoreref3_Classes.s29 : stackAt 29 evermoreref3_Classes.body [] = some (stackOf 29 evermoreref3_Classes.body) := by kernel_rfl
theorem evermoreref3_Classes.h29 (k : Nat) (ds : List Dat) (r : (List Int)) (h : evermoreref3_Classes.c29 k ds = some r) : ∃ k', k' < k ∧ ∃ s, stackAt 29 evermoreref3_Classes.body [] = some s ∧ evermoreref3_Classes.R k' (start s) (evermoreref3_Classes.t29.fill ds) = some r := by
  unfold evermoreref3_Classes.c29 at h
  obtain ⟨x0, d0, rfl, h0⟩ := pop_some h
  obtain ⟨x1, d1, rfl, h1⟩ := pop_some h0
  obtain ⟨x2, d2, rfl, h2⟩ := pop_some h1
  obtain ⟨x3, d3, rfl, h3⟩ := pop_some h2
  obtain ⟨x4, d4, rfl, h4⟩ := pop_some h3
  obtain ⟨x5, d5, rfl, h5⟩ := pop_some h4
  obtain ⟨x6, d6, rfl, h6⟩ := pop_some h5
  obtain ⟨x7, d7, rfl, h7⟩ := pop_some h6
  obtain ⟨x8, d8, rfl, h8⟩ := pop_some h7
  obtain ⟨x9, d9, rfl, h9⟩ := pop_some h8
  obtain ⟨x10, d10, rfl, h10⟩ := pop_some h9
  obtain ⟨x11, d11, rfl, h11⟩ := pop_some h10
  obtain ⟨x12, d12, rfl, h12⟩ := pop_some h11
  obtain ⟨x13, d13, rfl, h13⟩ := pop_some h12
  obtain ⟨rfl, g⟩ := popN_some h13
  cases k with
  | zero => cases (show none = some r from g)
  | succ k => exact ⟨k, Nat.lt_succ_self k, _, evermoreref3_Classes.s29, (evermoreref3_Classes.e29 k x0 x1 x2 x3 x4 x5 x6 x7 x8 x9 x10 x11 x12 x13).symm.trans g⟩
theorem evermoreref3_Classes.e44 (k : Nat) (x0 : Int) (x1 : Int) (x2 : Int) (x3 : Int) (x4 : Int) (x5 : Int) (x6 : (List (List Int))) (x7 : (List Int)) (x8 : (List Int)) (x9 : (List Int)) (x10 : (List Int)) : evermoreref3_Classes.j22 (k + 1) x0 x1 x2 x3 x4 x5 x6 x7 x8 x9 x10 = evermoreref3_Classes.R k (start (stackOf 44 evermoreref3_Classes.body)) (evermoreref3_Classes.t44.fill [⟨(.int .i64), x0⟩, ⟨(.int .i64), x1⟩, ⟨(.int .i64), x2⟩, ⟨(.int .i64), x3⟩, ⟨(.int .i64), x4⟩, ⟨(.int .i64), x5⟩, ⟨(.slice (.slice (.int .i64))), x6⟩, ⟨(.slice (.int .i64)), x7⟩, ⟨(.slice (.int .i64)), x8⟩, ⟨(.slice (.int .i64)), x9⟩, ⟨(.slice (.int .i64)), x10⟩]) := by kernel_rfl
theorem evermoreref3_Classes.s44 : stackAt 44 evermoreref3_Classes.body [] = some (stackOf 44 evermoreref3_Classes.body) := by kernel_rfl
theorem evermoreref3_Classes.h44 (k : Nat) (ds : List Dat) (r : (List Int)) (h : evermoreref3_Classes.c44 k ds = some r) : ∃ k', k' < k ∧ ∃ s, stackAt 44 evermoreref3_Classes.body [] = some s ∧ evermoreref3_Classes.R k' (start s) (evermoreref3_Classes.t44.fill ds) = some r := by
  unfold evermoreref3_Classes.c44 at h
  obtain ⟨x0, d0, rfl, h0⟩ := pop_some h
  obtain ⟨x1, d1, rfl, h1⟩ := pop_some h0
  obtain ⟨x2, d2, rfl, h2⟩ := pop_some h1
  obtain ⟨x3, d3, rfl, h3⟩ := pop_some h2
  obtain ⟨x4, d4, rfl, h4⟩ := pop_some h3
  obtain ⟨x5, d5, rfl, h5⟩ := pop_some h4
  obtain ⟨x6, d6, rfl, h6⟩ := pop_some h5
  obtain ⟨x7, d7, rfl, h7⟩ := pop_some h6
  obtain ⟨x8, d8, rfl, h8⟩ := pop_some h7
  obtain ⟨x9, d9, rfl, h9⟩ := pop_some h8
  obtain ⟨x10, d10, rfl, h10⟩ := pop_some h9
  obtain ⟨rfl, g⟩ := popN_some h10
  cases k with
  | zero => cases (show none = some r from g)
  | succ k => exact ⟨k, Nat.lt_succ_self k, _, evermoreref3_Classes.s44, (evermoreref3_Classes.e44 k x0 x1 x2 x3 x4 x5 x6 x7 x8 x9 x10).symm.trans g⟩
theorem evermoreref3_Classes.e (k : Nat) (x0 : (Int × (Int × ((List (List Int)) × ((List Int) × Unit))))) : evermoreref3_Classes.f k x0 = evermoreref3_Classes.R k ([.code evermoreref3_Classes.body]) (evermoreref3_Classes.ti.fill [⟨(.pair (.int .i64) (.pair (.int .i64) (.pair (.slice (.slice (.int .i64))) (.pair (.slice (.int .i64)) .unit)))), x0⟩]) := by kernel_rfl
theorem evermoreref3_Classes.h (k : Nat) (ds : List Dat) (r : (List Int)) (h : evermoreref3_Classes.g k ds = some r) : ∃ k', k' < k ∧ evermoreref3_Classes.R k' ([.code evermoreref3_Classes.body]) (evermoreref3_Classes.ti.fill ds) = some r := by
  cases k with
  | zero => cases (show none = some r from h)
  | succ k =>
  replace h : evermoreref3_Classes.c k ds = some r := h
  unfold evermoreref3_Classes.c at h
  obtain ⟨x0, d0, rfl, h0⟩ := pop_some h
  obtain ⟨rfl, g⟩ := popN_some h0
  exact ⟨k, Nat.lt_succ_self k, (evermoreref3_Classes.e k x0).symm.trans g⟩
theorem evermoreref3_Classes.o (ds : List Dat) (r : (List Int)) (h : evermoreref3_Classes.out ds = some r) : ds = evermoreref3_Classes.rs r := by
  unfold evermoreref3_Classes.out at h
  obtain ⟨x0, d0, rfl, h0⟩ := pop_some h
  obtain ⟨rfl, g⟩ := popN_some h0
  cases g
  rfl
theorem evermoreref3_Classes.fn : FnOk Try.prog 104 Try.f104 evermoreref3_Classes.body Try.f104.ntmps 1 (fnRes Try.f104) :=
  fnOk_of (by kernel_rfl) (by kernel_rfl) (by kernel_rfl) (by kernel_rfl)
theorem evermoreref3_Classes.con' : ∀ k ds r, evermoreref3_Classes.g k ds = some r → Con Try.prog 104 1 evermoreref3_Classes.ti evermoreref3_Classes.to ds (evermoreref3_Classes.rs r) :=
  fun_ok (T := T) T_ok mixed evermoreref3_Classes.fn (env := evermoreref3_Classes.env) (tbl := evermoreref3_Classes.tbl) (gOut := evermoreref3_Classes.out) (nin := 0) (cuts := [22]) (fuel := 100000) rfl (by kernel_rfl) (by kernel_rfl) (by kernel_rfl) (fun x hx => by
    simp only [evermoreref3_Classes.tbl, List.mem_cons, List.not_mem_nil, or_false] at hx
    rcases hx with rfl | rfl | rfl | rfl | rfl
    · exact evermoreref3_Classes.h7
    · exact evermoreref3_Classes.h15
    · exact evermoreref3_Classes.h21
    · exact evermoreref3_Classes.h29
    · exact evermoreref3_Classes.h44
) evermoreref3_Classes.o evermoreref3_Classes.h (fun k _ => by unfold evermoreref3_Classes.env; exact env0_ok)
theorem evermoreref3_Classes.con (k : Nat) {x0 : (Int × (Int × ((List (List Int)) × ((List Int) × Unit))))} (r : (List Int)) (h : evermoreref3_Classes.f k x0 = some r) : Con Try.prog 104 1 evermoreref3_Classes.ti evermoreref3_Classes.to [⟨(.pair (.int .i64) (.pair (.int .i64) (.pair (.slice (.slice (.int .i64))) (.pair (.slice (.int .i64)) .unit)))), x0⟩] (evermoreref3_Classes.rs r) :=
  evermoreref3_Classes.con' (k + 1) _ r (by show evermoreref3_Classes.c k _ = some r; unfold evermoreref3_Classes.c; simp only [pop_self, popN]; exact h)
mutual
def evermoreref3_Least.l4 : Nat → Int → Int → Int → List (List (Int)) → List (Int) → Int → Int → List (Int) → List (Int) → List (List (Int)) → List (Int) → Option (Int × Int × List (List Int) × List Int)
 | 0, _, _, _, _, _, _, _, _, _, _, _ => none
 | k + 1, i5, d1_0, d1_1, d1_2, d1_3, x2_0, x2_1, class3, number4, c4, c5 =>
  if i5 < (↑number4.length : Int) then
   if 0 ≤ i5 then
   if i5 < (↑number4.length : Int) then
    evermoreref3_Least.l4 k (Go.IntKind.i64.wrap (i5 + 1)) d1_0 d1_1 d1_2 d1_3 x2_0 x2_1 class3 (number4.set i5.toNat (Int.instNegInt.1 1)) c4 c5
    else none
   else none
  else
   if 0 ≤ d1_1 then
   if d1_1 < (↑class3.length : Int) then
    if 0 ≤ class3.getD d1_1.toNat (Int.ofNat 0) then
     if class3.getD d1_1.toNat (Int.ofNat 0) < (↑number4.length : Int) then
      evermoreref3_Least.l11 k 0 d1_0 d1_1 d1_2 d1_3 x2_0 x2_1 class3 (number4.set (class3.getD d1_1.toNat (Int.ofNat 0)).toNat (Int.ofNat 0)) [d1_1] d1_0 0 c4 c5 [] []
      else none
     else none
    else none
   else none
def evermoreref3_Least.l11 : Nat → Int → Int → Int → List (List (Int)) → List (Int) → Int → Int → List (Int) → List (Int) → List (Int) → Int → Int → List (List (Int)) → List (Int) → List (List (Int)) → List (Int) → Option (Int × Int × List (List Int) × List Int)
 | 0, _, _, _, _, _, _, _, _, _, _, _, _, _, _, _, _ => none
 | k + 1, i8, d1_0, d1_1, d1_2, d1_3, x2_0, x2_1, class3, number4, row6, out7_0, out7_1, c6, c7, c8, c9 =>
  if i8 < (↑row6.length : Int) then
   if 0 ≤ d1_0 then
   if d1_0 ≤ d1_0 then
    if d1_0 * ((↑8 : Int) + 1) ≤ 1099511627776 then
     evermoreref3_Least.l15 k i8 0 d1_0 d1_1 d1_2 d1_3 x2_0 x2_1 class3 number4 row6 out7_0 out7_1 (List.replicate d1_0.toNat (Int.ofNat 0)) c6 c7 c8 c9
     else none
    else none
   else none
  else
   some (out7_0, out7_1, c8, c9)
def evermoreref3_Least.l15 : Nat → Int → Int → Int → Int → List (List (Int)) → List (Int) → Int → Int → List (Int) → List (Int) → List (Int) → Int → Int → List (Int) → List (List (Int)) → List (Int) → List (List (Int)) → List (Int) → Option (Int × Int × List (List Int) × List Int)
 | 0, _, _, _, _, _, _, _, _, _, _, _, _, _, _, _, _, _, _ => none
 | k + 1, i8, a10, d1_0, d1_1, d1_2, d1_3, x2_0, x2_1, class3, number4, row6, out7_0, out7_1, next9, c7, c8, c9, c10 =>
  if a10 < d1_0 then
   if 0 ≤ i8 then
   if i8 < (↑row6.length : Int) then
    if 0 ≤ row6.getD i8.toNat (Int.ofNat 0) then
     if row6.getD i8.toNat (Int.ofNat 0) < (↑d1_2.length : Int) then
      if 0 ≤ a10 then
       if a10 < (↑(Go.Proofs.YtiiioobebeaafaaSx.rd [] d1_2 (row6.getD i8.toNat (Int.ofNat 0))).length : Int) then
        if 0 ≤ Go.Proofs.YtiiioobebeaafaaSx.rd (Int.ofNat 0) (Go.Proofs.YtiiioobebeaafaaSx.rd [] d1_2 (row6.getD i8.toNat (Int.ofNat 0))) a10 then
         if Go.Proofs.YtiiioobebeaafaaSx.rd (Int.ofNat 0) (Go.Proofs.YtiiioobebeaafaaSx.rd [] d1_2 (row6.getD i8.toNat (Int.ofNat 0))) a10 < (↑class3.length : Int) then
          if 0 ≤ class3.getD (Go.Proofs.YtiiioobebeaafaaSx.rd (Int.ofNat 0) (Go.Proofs.YtiiioobebeaafaaSx.rd [] d1_2 (row6.getD i8.toNat (Int.ofNat 0))) a10).toNat (Int.ofNat 0) then
           if class3.getD (Go.Proofs.YtiiioobebeaafaaSx.rd (Int.ofNat 0) (Go.Proofs.YtiiioobebeaafaaSx.rd [] d1_2 (row6.getD i8.toNat (Int.ofNat 0))) a10).toNat (Int.ofNat 0) < (↑number4.length : Int) then
            if number4.getD (class3.getD (Go.Proofs.YtiiioobebeaafaaSx.rd (Int.ofNat 0) (Go.Proofs.YtiiioobebeaafaaSx.rd [] d1_2 (row6.getD i8.toNat (Int.ofNat 0))) a10).toNat (Int.ofNat 0)).toNat (Int.ofNat 0) < 0 then
              if 0 ≤ Go.Proofs.YtiiioobebeaafaaSx.rd (Int.ofNat 0) (Go.Proofs.YtiiioobebeaafaaSx.rd [] d1_2 (row6.getD i8.toNat (Int.ofNat 0))) a10 then
              if Go.Proofs.YtiiioobebeaafaaSx.rd (Int.ofNat 0) (Go.Proofs.YtiiioobebeaafaaSx.rd [] d1_2 (row6.getD i8.toNat (Int.ofNat 0))) a10 < (↑class3.length : Int) then
               if 0 ≤ class3.getD (Go.Proofs.YtiiioobebeaafaaSx.rd (Int.ofNat 0) (Go.Proofs.YtiiioobebeaafaaSx.rd [] d1_2 (row6.getD i8.toNat (Int.ofNat 0))) a10).toNat (Int.ofNat 0) then
                if class3.getD (Go.Proofs.YtiiioobebeaafaaSx.rd (Int.ofNat 0) (Go.Proofs.YtiiioobebeaafaaSx.rd [] d1_2 (row6.getD i8.toNat (Int.ofNat 0))) a10).toNat (Int.ofNat 0) < (↑number4.length : Int) then
                 if (row6 ++ [Go.Proofs.YtiiioobebeaafaaSx.rd (Int.ofNat 0) (Go.Proofs.YtiiioobebeaafaaSx.rd [] d1_2 (row6.getD i8.toNat (Int.ofNat 0))) a10]).length.blt 1000000000 = true then
                  evermoreref3_Least.j21 k i8 a10 (Go.Proofs.YtiiioobebeaafaaSx.rd (Int.ofNat 0) (Go.Proofs.YtiiioobebeaafaaSx.rd [] d1_2 (row6.getD i8.toNat (Int.ofNat 0))) a10) d1_0 d1_1 d1_2 d1_3 x2_0 x2_1 class3 (number4.set (class3.getD (Go.Proofs.YtiiioobebeaafaaSx.rd (Int.ofNat 0) (Go.Proofs.YtiiioobebeaafaaSx.rd [] d1_2 (row6.getD i8.toNat (Int.ofNat 0))) a10).toNat (Int.ofNat 0)).toNat (↑row6.length : Int)) (row6 ++ [Go.Proofs.YtiiioobebeaafaaSx.rd (Int.ofNat 0) (Go.Proofs.YtiiioobebeaafaaSx.rd [] d1_2 (row6.getD i8.toNat (Int.ofNat 0))) a10]) out7_0 out7_1 next9 c7 c8 c9 c10
                  else none
                 else none
                else none
               else none
              else none
             else
              evermoreref3_Least.j21 k i8 a10 (Go.Proofs.YtiiioobebeaafaaSx.rd (Int.ofNat 0) (Go.Proofs.YtiiioobebeaafaaSx.rd [] d1_2 (row6.getD i8.toNat (Int.ofNat 0))) a10) d1_0 d1_1 d1_2 d1_3 x2_0 x2_1 class3 number4 row6 out7_0 out7_1 next9 c7 c8 c9 c10
            else none
           else none
          else none
         else none
        else none
       else none
      else none
     else none
    else none
   else none
  else
   if (c9 ++ [next9]).length.blt 1000000000 = true then
   if 0 ≤ i8 then
    if i8 < (↑row6.length : Int) then
     if 0 ≤ row6.getD i8.toNat (Int.ofNat 0) then
      if row6.getD i8.toNat (Int.ofNat 0) < (↑d1_3.length : Int) then
       if (c10 ++ [Go.Proofs.YtiiioobebeaafaaSx.rd (Int.ofNat 0) d1_3 (row6.getD i8.toNat (Int.ofNat 0))]).length.blt 1000000000 = true then
        evermoreref3_Least.l11 k (Go.IntKind.i64.wrap (i8 + 1)) d1_0 d1_1 d1_2 d1_3 x2_0 x2_1 class3 number4 row6 out7_0 out7_1 c7 c8 (c9 ++ [next9]) (c10 ++ [Go.Proofs.YtiiioobebeaafaaSx.rd (Int.ofNat 0) d1_3 (row6.getD i8.toNat (Int.ofNat 0))])
        else none
       else none
      else none
     else none
    else none
   else none
def evermoreref3_Least.j21 : Nat → Int → Int → Int → Int → Int → List (List (Int)) → List (Int) → Int → Int → List (Int) → List (Int) → List (Int) → Int → Int → List (Int) → List (List (Int)) → List (Int) → List (List (Int)) → List (Int) → Option (Int × Int × List (List Int) × List Int)
 | 0, _, _, _, _, _, _, _, _, _, _, _, _, _, _, _, _, _, _, _ => none
 | k + 1, i8, a10, q11, d1_0, d1_1, d1_2, d1_3, x2_0, x2_1, class3, number4, row6, out7_0, out7_1, next9, c7, c8, c9, c10 =>
  if 0 ≤ q11 then
  if q11 < (↑class3.length : Int) then
   if 0 ≤ class3.getD q11.toNat (Int.ofNat 0) then
    if class3.getD q11.toNat (Int.ofNat 0) < (↑number4.length : Int) then
     if 0 ≤ a10 then
      if a10 < (↑next9.length : Int) then
       evermoreref3_Least.l15 k i8 (Go.IntKind.i64.wrap (a10 + 1)) d1_0 d1_1 d1_2 d1_3 x2_0 x2_1 class3 number4 row6 out7_0 out7_1 (next9.set a10.toNat (number4.getD (class3.getD q11.toNat (Int.ofNat 0)).toNat (Int.ofNat 0))) c7 c8 c9 c10
       else none
      else none
     else none
    else none
   else none
  else none
end
def evermoreref3_Least.f (k : Nat) (d0 : (Int × (Int × (List (List (Int)) × (List (Int) × Unit))))) : Option (Int × Int × List (List Int) × List Int) :=
 (evermoreref3_Classes.f k (d0.fst, d0.snd.fst, d0.snd.snd.fst, d0.snd.snd.snd.fst, ())).bind fun r1 =>
  if 0 ≤ (↑r1.length : Int) then
  if (↑r1.length : Int) ≤ (↑r1.length : Int) then
   if (↑r1.length : Int) * ((↑8 : Int) + 1) ≤ 1099511627776 then
    evermoreref3_Least.l4 k 0 d0.fst d0.snd.fst d0.snd.snd.fst d0.snd.snd.snd.fst 0 0 r1 (List.replicate (↑r1.length : Int).toNat (Int.ofNat 0)) [] []
    else none
   else none
  else none

noncomputable def evermoreref3_Least.body : Code := fnBody Try.f46
def evermoreref3_Least.ti : Tm := ⟨[(0, .p (.pair (.int .i64) (.pair (.int .i64) (.pair (.slice (.slice (.int .i64))) (.pair (.slice (.int .i64)) .unit)))))], []⟩
def evermoreref3_Least.to : Tm := ⟨[(0, .agg [.p (.int .i64), .p (.int .i64), .own 0, .own 1])], [.own (.slice (.int .i64)), .own (.int .i64)]⟩
def evermoreref3_Least.rs (r : Int × Int × (List (List Int)) × (List Int)) : List Dat := [⟨(.int .i64), r.1⟩, ⟨(.int .i64), r.2.1⟩, ⟨(.slice (.slice (.int .i64))), r.2.2.1⟩, ⟨(.slice (.int .i64)), r.2.2.2⟩]
def evermoreref3_Least.out (ds : List Dat) : Option (Int × Int × (List (List Int)) × (List Int)) := pop (.int .i64) ds fun x0 ds => pop (.int .i64) ds fun x1 ds => pop (.slice (.slice (.int .i64))) ds fun x2 ds => pop (.slice (.int .i64)) ds fun x3 ds => popN ds (some (x0, x1, x2, x3))
def evermoreref3_Least.c (k : Nat) (ds : List Dat) : Option (Int × Int × (List (List Int)) × (List Int)) := pop (.pair (.int .i64) (.pair (.int .i64) (.pair (.slice (.slice (.int .i64))) (.pair (.slice (.int .i64)) .unit)))) ds fun x0 ds => popN ds (evermoreref3_Least.f k x0)
def evermoreref3_Least.g : Nat → List Dat → Option (Int × Int × (List (List Int)) × (List Int))
 | 0, _ => none
 | k + 1, ds => evermoreref3_Least.c k ds
def evermoreref3_Least.env (k : Nat) : Nat → List SV → List Chunk → KT (Int × Int × (List (List Int)) × (List Int)) → Option (Int × Int × (List (List Int)) × (List Int)) := (envC 104 1 evermoreref3_Classes.ti evermoreref3_Classes.to (fun ds K => pop (.pair (.int .i64) (.pair (.int .i64) (.pair (.slice (.slice (.int .i64))) (.pair (.slice (.int .i64)) .unit)))) ds fun x0 ds => popN ds ((evermoreref3_Classes.f k x0).bind fun r => K (evermoreref3_Classes.rs r))) env0)
def evermoreref3_Least.t9 : Tm := ⟨[(1, .ptr 0 0), (2, .ptr 1 0), (3, .own 2), (4, .own 3), (5, .p (.int .i64))], [.box [.p (.int .i64), .p (.int .i64), .p (.slice (.slice (.int .i64))), .p (.slice (.int .i64))] 58, .box [.p (.int .i64), .p (.int .i64), .own 4, .own 5] 58, .own (.int .i64), .own (.int .i64), .own (.slice (.int .i64)), .own (.int .i64)]⟩
def evermoreref3_Least.c9 (k : Nat) (ds : List Dat) : Option (Int × Int × (List (List Int)) × (List Int)) := pop (.int .i64) ds fun x0 ds => pop (.int .i64) ds fun x1 ds => pop (.int .i64) ds fun x2 ds => pop (.slice (.slice (.int .i64))) ds fun x3 ds => pop (.slice (.int .i64)) ds fun x4 ds => pop (.int .i64) ds fun x5 ds => pop (.int .i64) ds fun x6 ds => pop (.slice (.int .i64)) ds fun x7 ds => pop (.slice (.int .i64)) ds fun x8 ds => pop (.slice (.slice (.int .i64))) ds fun x9 ds => pop (.slice (.int .i64)) ds fun x10 ds => popN ds (evermoreref3_Least.l4 k x0 x1 x2 x3 x4 x5 x6 x7 x8 x9 x10)
def evermoreref3_Least.t23 : Tm := ⟨[(1, .ptr 0 0), (2, .ptr 1 0), (3, .own 2), (4, .own 3), (6, .own 4), (7, .ptr 5 0), (8, .p (.int .i64))], [.box [.p (.int .i64), .p (.int .i64), .p (.slice (.slice (.int .i64))), .p (.slice (.int .i64))] 58, .box [.p (.int .i64), .p (.int .i64), .own 6, .own 7] 58, .own (.int .i64), .own (.int .i64), .own (.int .i64), .box [.p (.int .i64), .p (.int .i64), .own 8, .own 9] 58, .own (.slice (.int .i64)), .own (.int .i64), .own (.slice (.int .i64)), .own (.int .i64)]⟩
def evermoreref3_Least.c23 (k : Nat) (ds : List Dat) : Option (Int × Int × (List (List Int)) × (List Int)) := pop (.int .i64) ds fun x0 ds => pop (.int .i64) ds fun x1 ds => pop (.int .i64) ds fun x2 ds => pop (.slice (.slice (.int .i64))) ds fun x3 ds => pop (.slice (.int .i64)) ds fun x4 ds => pop (.int .i64) ds fun x5 ds => pop (.int .i64) ds fun x6 ds => pop (.slice (.int .i64)) ds fun x7 ds => pop (.slice (.int .i64)) ds fun x8 ds => pop (.slice (.int .i64)) ds fun x9 ds => pop (.int .i64) ds fun x10 ds => pop (.int .i64) ds fun x11 ds => pop (.slice (.slice (.int .i64))) ds fun x12 ds => pop (.slice (.int .i64)) ds fun x13 ds => pop (.slice (.slice (.int .i64))) ds fun x14 ds => pop (.slice (.int .i64)) ds fun x15 ds => popN ds (evermoreref3_Least.l11 k x0 x1 x2 x3 x4 x5 x6 x7 x8 x9 x10 x11 x12 x13 x14 x15)
def evermoreref3_Least.t31 : Tm := ⟨[(1, .ptr 0 0), (2, .ptr 1 0), (3, .own 2), (4, .own 3), (6, .own 4), (7, .ptr 5 0), (8, .p (.int .i64)), (9, .own 6), (10, .p (.int .i64))], [.box [.p (.int .i64), .p (.int .i64), .p (.slice (.slice (.int .i64))), .p (.slice (.int .i64))] 58, .box [.p (.int .i64), .p (.int .i64), .own 7, .own 8] 58, .own (.int .i64), .own (.int .i64), .own (.int .i64), .box [.p (.int .i64), .p (.int .i64), .own 9, .own 10] 58, .own (.int .i64), .own (.slice (.int .i64)), .own (.int .i64), .own (.slice (.int .i64)), .own (.int .i64)]⟩
def evermoreref3_Least.c31 (k : Nat) (ds : List Dat) : Option (Int × Int × (List (List Int)) × (List Int)) := pop (.int .i64) ds fun x0 ds => pop (.int .i64) ds fun x1 ds => pop (.int .i64) ds fun x2 ds => pop (.int .i64) ds fun x3 ds => pop (.slice (.slice (.int .i64))) ds fun x4 ds => pop (.slice (.int .i64)) ds fun x5 ds => pop (.int .i64) ds fun x6 ds => pop (.int .i64) ds fun x7 ds => pop (.slice (.int .i64)) ds fun x8 ds => pop (.slice (.int .i64)) ds fun x9 ds => pop (.slice (.int .i64)) ds fun x10 ds => pop (.int .i64) ds fun x11 ds => pop (.int .i64) ds fun x12 ds => pop (.slice (.int .i64)) ds fun x13 ds => pop (.slice (.slice (.int .i64))) ds fun x14 ds => pop (.slice (.int .i64)) ds fun x15 ds => pop (.slice (.slice (.int .i64))) ds fun x16 ds => pop (.slice (.int .i64)) ds fun x17 ds => popN ds (evermoreref3_Least.l15 k x0 x1 x2 x3 x4 x5 x6 x7 x8 x9 x10 x11 x12 x13 x14 x15 x16 x17)
def evermoreref3_Least.t42 : Tm := ⟨[(1, .ptr 0 0), (2, .ptr 1 0), (3, .own 2), (4, .own 3), (6, .own 4), (7, .ptr 5 0), (8, .p (.int .i64)), (9, .own 6), (10, .p (.int .i64)), (11, .p (.int .i64))], [.box [.p (.int .i64), .p (.int .i64), .p (.slice (.slice (.int .i64))), .p (.slice (.int .i64))] 58, .box [.p (.int .i64), .p (.int .i64), .own 7, .own 8] 58, .own (.int .i64), .own (.int .i64), .own (.int .i64), .box [.p (.int .i64), .p (.int .i64), .own 9, .own 10] 58, .own (.int .i64), .own (.slice (.int .i64)), .own (.int .i64), .own (.slice (.int .i64)), .own (.int .i64)]⟩
def evermoreref3_Least.c42 (k : Nat) (ds : List Dat) : Option (Int × Int × (List (List Int)) × (List Int)) := pop (.int .i64) ds fun x0 ds => pop (.int .i64) ds fun x1 ds => pop (.int .i64) ds fun x2 ds => pop (.int .i64) ds fun x3 ds => pop (.int .i64) ds fun x4 ds => pop (.slice (.slice (.int .i64))) ds fun x5 ds => pop (.slice (.int .i64)) ds fun x6 ds => pop (.int .i64) ds fun x7 ds => pop (.int .i64) ds fun x8 ds => pop (.slice (.int .i64)) ds fun x9 ds => pop (.slice (.int .i64)) ds fun x10 ds => pop (.slice (.int .i64)) ds fun x11 ds => pop (.int .i64) ds fun x12 ds => pop (.int .i64) ds fun x13 ds => pop (.slice (.int .i64)) ds fun x14 ds => pop (.slice (.slice (.int .i64))) ds fun x15 ds => pop (.slice (.int .i64)) ds fun x16 ds => pop (.slice (.slice (.int .i64))) ds fun x17 ds => pop (.slice (.int .i64)) ds fun x18 ds => popN ds (evermoreref3_Least.j21 k x0 x1 x2 x3 x4 x5 x6 x7 x8 x9 x10 x11 x12 x13 x14 x15 x16 x17 x18)
def evermoreref3_Least.tbl : List (Nat × Tm × (Nat → List Dat → Option (Int × Int × (List (List Int)) × (List Int)))) := [(9, evermoreref3_Least.t9, evermoreref3_Least.c9), (23, evermoreref3_Least.t23, evermoreref3_Least.c23), (31, evermoreref3_Least.t31, evermoreref3_Least.c31), (42, evermoreref3_Least.t42, evermoreref3_Least.c42)]
noncomputable abbrev evermoreref3_Least.R (k : Nat) := run T (evermoreref3_Least.env k) Try.f46.ntmps (cutE 0 evermoreref3_Least.tbl k) (finE 0 evermoreref3_Least.to evermoreref3_Least.out) (fnRes Try.f46) [21] 100000 true
theorem evermoreref3_Least.e9 (k : Nat) (x0 : Int) (x1 : Int) (x2 : Int) (x3 : (List (List Int))) (x4 : (List Int)) (x5 : Int) (x6 : Int) (x7 : (List Int)) (x8 : (List Int)) (x9 : (List (List Int))) (x10 : (List Int)) : evermoreref3_Least.l4 (k + 1) x0 x1 x2 x3 x4 x5 x6 x7 x8 x9 x10 = evermoreref3_Least.R k (start (stackOf 9 evermoreref3_Least.body)) (evermoreref3_Least.t9.fill [⟨(.int .i64), x0⟩, ⟨(.int .i64), x1⟩, ⟨(.int .i64), x2⟩, ⟨(.slice (.slice (.int .i64))), x3⟩, ⟨(.slice (.int .i64)), x4⟩, ⟨(.int .i64), x5⟩, ⟨(.int .i64), x6⟩, ⟨(.slice (.int .i64)), x7⟩, ⟨(.slice (.int .i64)), x8⟩, ⟨(.slice (.slice (.int .i64))), x9⟩, ⟨(.slice (.int .i64)), x10⟩]) := by kernel_rfl
theorem evermoreref3_Least.s9 : stackAt 9 evermoreref3_Least.body [] = some (stackOf 9 evermoreref3_Least.body) := by kernel_rfl
theorem evermoreref3_Least.h9 (k : Nat) (ds : List Dat) (r : Int × Int × (List (List Int)) × (List Int)) (h : evermoreref3_Least.c9 k ds = some r) : ∃ k', k' < k ∧ ∃ s, stackAt 9 evermoreref3_Least.body [] = some s ∧ evermoreref3_Least.R k' (start s) (evermoreref3_Least.t9.fill ds) = some r := by
  unfold evermoreref3_Least.c9 at h
  obtain ⟨x0, d0, rfl, h0⟩ := pop_some h
  obtain ⟨x1, d1, rfl, h1⟩ := pop_some h0
  obtain ⟨x2, d2, rfl, h2⟩ := pop_some h1
  obtain ⟨x3, d3, rfl, h3⟩ := pop_some h2
  obtain ⟨x4, d4, rfl, h4⟩ := pop_some h3
  obtain ⟨x5, d5, rfl, h5⟩ := pop_some h4
  obtain ⟨x6, d6, rfl, h6⟩ := pop_some h5
  obtain ⟨x7, d7, rfl, h7⟩ := pop_some h6
  obtain ⟨x8, d8, rfl, h8⟩ := pop_some h7
  obtain ⟨x9, d9, rfl, h9⟩ := pop_some h8
  obtain ⟨x10, d10, rfl, h10⟩ := pop_some h9
  obtain ⟨rfl, g⟩ := popN_some h10
  cases k with
  | zero => cases (show none = some r from g)
  | succ k => exact ⟨k, Nat.lt_succ_self k, _, evermoreref3_Least.s9, (evermoreref3_Least.e9 k x0 x1 x2 x3 x4 x5 x6 x7 x8 x9 x10).symm.trans g⟩
theorem evermoreref3_Least.e23 (k : Nat) (x0 : Int) (x1 : Int) (x2 : Int) (x3 : (List (List Int))) (x4 : (List Int)) (x5 : Int) (x6 : Int) (x7 : (List Int)) (x8 : (List Int)) (x9 : (List Int)) (x10 : Int) (x11 : Int) (x12 : (List (List Int))) (x13 : (List Int)) (x14 : (List (List Int))) (x15 : (List Int)) : evermoreref3_Least.l11 (k + 1) x0 x1 x2 x3 x4 x5 x6 x7 x8 x9 x10 x11 x12 x13 x14 x15 = evermoreref3_Least.R k (start (stackOf 23 evermoreref3_Least.body)) (evermoreref3_Least.t23.fill [⟨(.int .i64), x0⟩, ⟨(.int .i64), x1⟩, ⟨(.int .i64), x2⟩, ⟨(.slice (.slice (.int .i64))), x3⟩, ⟨(.slice (.int .i64)), x4⟩, ⟨(.int .i64), x5⟩, ⟨(.int .i64), x6⟩, ⟨(.slice (.int .i64)), x7⟩, ⟨(.slice (.int .i64)), x8⟩, ⟨(.slice (.int .i64)), x9⟩, ⟨(.int .i64), x10⟩, ⟨(.int .i64), x11⟩, ⟨(.slice (.slice (.int .i64))), x12⟩, ⟨(.slice (.int .i64)), x13⟩, ⟨(.slice (.slice (.int .i64))), x14⟩, ⟨(.slice (.int .i64)), x15⟩]) := by kernel_rfl
theorem evermoreref3_Least.s23 : stackAt 23 evermoreref3_Least.body [] = some (stackOf 23 evermoreref3_Least.body) := by kernel_rfl
theorem evermoreref3_Least.h23 (k : Nat) (ds : List Dat) (r : Int × Int × (List (List Int)) × (List Int)) (h : evermoreref3_Least.c23 k ds = some r) : ∃ k', k' < k ∧ ∃ s, stackAt 23 evermoreref3_Least.body [] = some s ∧ evermoreref3_Least.R k' (start s) (evermoreref3_Least.t23.fill ds) = some r := by
  unfold evermoreref3_Least.c23 at h
  obtain ⟨x0, d0, rfl, h0⟩ := pop_some h
  obtain ⟨x1, d1, rfl, h1⟩ := pop_some h0
  obtain ⟨x2, d2, rfl, h2⟩ := pop_some h1
  obtain ⟨x3, d3, rfl, h3⟩ := pop_some h2
  obtain ⟨x4, d4, rfl, h4⟩ := pop_some h3
  obtain ⟨x5, d5, rfl, h5⟩ := pop_some h4
  obtain ⟨x6, d6, rfl, h6⟩ := pop_some h5
  obtain ⟨x7, d7, rfl, h7⟩ := pop_some h6
  obtain ⟨x8, d8, rfl, h8⟩ := pop_some h7
  obtain ⟨x9, d9, rfl, h9⟩ := pop_some h8
  obtain ⟨x10, d10, rfl, h10⟩ := pop_some h9
  obtain ⟨x11, d11, rfl, h11⟩ := pop_some h10
  obtain ⟨x12, d12, rfl, h12⟩ := pop_some h11
  obtain ⟨x13, d13, rfl, h13⟩ := pop_some h12
  obtain ⟨x14, d14, rfl, h14⟩ := pop_some h13
  obtain ⟨x15, d15, rfl, h15⟩ := pop_some h14
  obtain ⟨rfl, g⟩ := popN_some h15
  cases k with
  | zero => cases (show none = some r from g)
  | succ k => exact ⟨k, Nat.lt_succ_self k, _, evermoreref3_Least.s23, (evermoreref3_Least.e23 k x0 x1 x2 x3 x4 x5 x6 x7 x8 x9 x10 x11 x12 x13 x14 x15).symm.trans g⟩
theorem evermoreref3_Least.e31 (k : Nat) (x0 : Int) (x1 : Int) (x2 : Int) (x3 : Int) (x4 : (List (List Int))) (x5 : (List Int)) (x6 : Int) (x7 : Int) (x8 : (List Int)) (x9 : (List Int)) (x10 : (List Int)) (x11 : Int) (x12 : Int) (x13 : (List Int)) (x14 : (List (List Int))) (x15 : (List Int)) (x16 : (List (List Int))) (x17 : (List Int)) : evermoreref3_Least.l15 (k + 1) x0 x1 x2 x3 x4 x5 x6 x7 x8 x9 x10 x11 x12 x13 x14 x15 x16 x17 = evermoreref3_Least.R k (start (stackOf 31 evermoreref3_Least.body)) (evermoreref3_Least.t31.fill [⟨(.int .i64), x0⟩, ⟨(.int .i64), x1⟩, ⟨(.int .i64), x2⟩, ⟨(.int .i64), x3⟩, ⟨(.slice (.slice (.int .i64))), x4⟩, ⟨(.slice (.int .i64)), x5⟩, ⟨(.int .i64), x6⟩, ⟨(.int .i64), x7⟩, ⟨(.slice (.int .i64)), x8⟩, ⟨(.slice (.int .i64)), x9⟩, ⟨(.slice (.int .i64)), x10⟩, ⟨(.int .i64), x11⟩, ⟨(.int .i64), x12⟩, ⟨(.slice (.int .i64)), x13⟩, ⟨(.slice (.slice (.int .i64))), x14⟩, ⟨(.slice (.int .i64)), x15⟩, ⟨(.slice (.slice (.int .i64))), x16⟩, ⟨(.slice (.int .i64)), x17⟩]) := by kernel_rfl
theorem evermoreref3_Least.s31 : stackAt 31 evermoreref3_Least.body [] = some (stackOf 31 evermoreref3_Least.body) := by kernel_rfl
theorem evermoreref3_Least.h31 (k : Nat) (ds : List Dat) (r : Int × Int × (List (List Int)) × (List Int)) (h : evermoreref3_Least.c31 k ds = some r) : ∃ k', k' < k ∧ ∃ s, stackAt 31 evermoreref3_Least.body [] = some s ∧ evermoreref3_Least.R k' (start s) (evermoreref3_Least.t31.fill ds) = some r := by
  unfold evermoreref3_Least.c31 at h
  obtain ⟨x0, d0, rfl, h0⟩ := pop_some h
  obtain ⟨x1, d1, rfl, h1⟩ := pop_some h0
  obtain ⟨x2, d2, rfl, h2⟩ := pop_some h1
  obtain ⟨x3, d3, rfl, h3⟩ := pop_some h2
  obtain ⟨x4, d4, rfl, h4⟩ := pop_some h3
  obtain ⟨x5, d5, rfl, h5⟩ := pop_some h4
  obtain ⟨x6, d6, rfl, h6⟩ := pop_some h5
  obtain ⟨x7, d7, rfl, h7⟩ := pop_some h6
  obtain ⟨x8, d8, rfl, h8⟩ := pop_some h7
  obtain ⟨x9, d9, rfl, h9⟩ := pop_some h8
  obtain ⟨x10, d10, rfl, h10⟩ := pop_some h9
  obtain ⟨x11, d11, rfl, h11⟩ := pop_some h10
  obtain ⟨x12, d12, rfl, h12⟩ := pop_some h11
  obtain ⟨x13, d13, rfl, h13⟩ := pop_some h12
  obtain ⟨x14, d14, rfl, h14⟩ := pop_some h13
  obtain ⟨x15, d15, rfl, h15⟩ := pop_some h14
  obtain ⟨x16, d16, rfl, h16⟩ := pop_some h15
  obtain ⟨x17, d17, rfl, h17⟩ := pop_some h16
  obtain ⟨rfl, g⟩ := popN_some h17
  cases k with
  | zero => cases (show none = some r from g)
  | succ k => exact ⟨k, Nat.lt_succ_self k, _, evermoreref3_Least.s31, (evermoreref3_Least.e31 k x0 x1 x2 x3 x4 x5 x6 x7 x8 x9 x10 x11 x12 x13 x14 x15 x16 x17).symm.trans g⟩
theorem evermoreref3_Least.e42 (k : Nat) (x0 : Int) (x1 : Int) (x2 : Int) (x3 : Int) (x4 : Int) (x5 : (List (List Int))) (x6 : (List Int)) (x7 : Int) (x8 : Int) (x9 : (List Int)) (x10 : (List Int)) (x11 : (List Int)) (x12 : Int) (x13 : Int) (x14 : (List Int)) (x15 : (List (List Int))) (x16 : (List Int)) (x17 : (List (List Int))) (x18 : (List Int)) : evermoreref3_Least.j21 (k + 1) x0 x1 x2 x3 x4 x5 x6 x7 x8 x9 x10 x11 x12 x13 x14 x15 x16 x17 x18 = evermoreref3_Least.R k (start (stackOf 42 evermoreref3_Least.body)) (evermoreref3_Least.t42.fill [⟨(.int .i64), x0⟩, ⟨(.int .i64), x1⟩, ⟨(.int .i64), x2⟩, ⟨(.int .i64), x3⟩, ⟨(.int .i64), x4⟩, ⟨(.slice (.slice (.int .i64))), x5⟩, ⟨(.slice (.int .i64)), x6⟩, ⟨(.int .i64), x7⟩, ⟨(.int .i64), x8⟩, ⟨(.slice (.int .i64)), x9⟩, ⟨(.slice (.int .i64)), x10⟩, ⟨(.slice (.int .i64)), x11⟩, ⟨(.int .i64), x12⟩, ⟨(.int .i64), x13⟩, ⟨(.slice (.int .i64)), x14⟩, ⟨(.slice (.slice (.int .i64))), x15⟩, ⟨(.slice (.int .i64)), x16⟩, ⟨(.slice (.slice (.int .i64))), x17⟩, ⟨(.slice (.int .i64)), x18⟩]) := by kernel_rfl
theorem evermoreref3_Least.s42 : stackAt 42 evermoreref3_Least.body [] = some (stackOf 42 evermoreref3_Least.body) := by kernel_rfl
theorem evermoreref3_Least.h42 (k : Nat) (ds : List Dat) (r : Int × Int × (List (List Int)) × (List Int)) (h : evermoreref3_Least.c42 k ds = some r) : ∃ k', k' < k ∧ ∃ s, stackAt 42 evermoreref3_Least.body [] = some s ∧ evermoreref3_Least.R k' (start s) (evermoreref3_Least.t42.fill ds) = some r := by
  unfold evermoreref3_Least.c42 at h
  obtain ⟨x0, d0, rfl, h0⟩ := pop_some h
  obtain ⟨x1, d1, rfl, h1⟩ := pop_some h0
  obtain ⟨x2, d2, rfl, h2⟩ := pop_some h1
  obtain ⟨x3, d3, rfl, h3⟩ := pop_some h2
  obtain ⟨x4, d4, rfl, h4⟩ := pop_some h3
  obtain ⟨x5, d5, rfl, h5⟩ := pop_some h4
  obtain ⟨x6, d6, rfl, h6⟩ := pop_some h5
  obtain ⟨x7, d7, rfl, h7⟩ := pop_some h6
  obtain ⟨x8, d8, rfl, h8⟩ := pop_some h7
  obtain ⟨x9, d9, rfl, h9⟩ := pop_some h8
  obtain ⟨x10, d10, rfl, h10⟩ := pop_some h9
  obtain ⟨x11, d11, rfl, h11⟩ := pop_some h10
  obtain ⟨x12, d12, rfl, h12⟩ := pop_some h11
  obtain ⟨x13, d13, rfl, h13⟩ := pop_some h12
  obtain ⟨x14, d14, rfl, h14⟩ := pop_some h13
  obtain ⟨x15, d15, rfl, h15⟩ := pop_some h14
  obtain ⟨x16, d16, rfl, h16⟩ := pop_some h15
  obtain ⟨x17, d17, rfl, h17⟩ := pop_some h16
  obtain ⟨x18, d18, rfl, h18⟩ := pop_some h17
  obtain ⟨rfl, g⟩ := popN_some h18
  cases k with
  | zero => cases (show none = some r from g)
  | succ k => exact ⟨k, Nat.lt_succ_self k, _, evermoreref3_Least.s42, (evermoreref3_Least.e42 k x0 x1 x2 x3 x4 x5 x6 x7 x8 x9 x10 x11 x12 x13 x14 x15 x16 x17 x18).symm.trans g⟩
theorem evermoreref3_Least.e (k : Nat) (x0 : (Int × (Int × ((List (List Int)) × ((List Int) × Unit))))) : evermoreref3_Least.f k x0 = evermoreref3_Least.R k ([.code evermoreref3_Least.body]) (evermoreref3_Least.ti.fill [⟨(.pair (.int .i64) (.pair (.int .i64) (.pair (.slice (.slice (.int .i64))) (.pair (.slice (.int .i64)) .unit)))), x0⟩]) := by kernel_rfl
theorem evermoreref3_Least.h (k : Nat) (ds : List Dat) (r : Int × Int × (List (List Int)) × (List Int)) (h : evermoreref3_Least.g k ds = some r) : ∃ k', k' < k ∧ evermoreref3_Least.R k' ([.code evermoreref3_Least.body]) (evermoreref3_Least.ti.fill ds) = some r := by
  cases k with
  | zero => cases (show none = some r from h)
  | succ k =>
  replace h : evermoreref3_Least.c k ds = some r := h
  unfold evermoreref3_Least.c at h
  obtain ⟨x0, d0, rfl, h0⟩ := pop_some h
  obtain ⟨rfl, g⟩ := popN_some h0
  exact ⟨k, Nat.lt_succ_self k, (evermoreref3_Least.e k x0).symm.trans g⟩
theorem evermoreref3_Least.o (ds : List Dat) (r : Int × Int × (List (List Int)) × (List Int)) (h : evermoreref3_Least.out ds = some r) : ds = evermoreref3_Least.rs r := by
  unfold evermoreref3_Least.out at h
  obtain ⟨x0, d0, rfl, h0⟩ := pop_some h
  obtain ⟨x1, d1, rfl, h1⟩ := pop_some h0
  obtain ⟨x2, d2, rfl, h2⟩ := pop_some h1
  obtain ⟨x3, d3, rfl, h3⟩ := pop_some h2
  obtain ⟨rfl, g⟩ := popN_some h3
  cases g
  rfl
theorem evermoreref3_Least.fn : FnOk Try.prog 46 Try.f46 evermoreref3_Least.body Try.f46.ntmps 1 (fnRes Try.f46) :=
  fnOk_of (by kernel_rfl) (by kernel_rfl) (by kernel_rfl) (by kernel_rfl)
theorem evermoreref3_Least.con' : ∀ k ds r, evermoreref3_Least.g k ds = some r → Con Try.prog 46 1 evermoreref3_Least.ti evermoreref3_Least.to ds (evermoreref3_Least.rs r) :=
  fun_ok (T := T) T_ok mixed evermoreref3_Least.fn (env := evermoreref3_Least.env) (tbl := evermoreref3_Least.tbl) (gOut := evermoreref3_Least.out) (nin := 0) (cuts := [21]) (fuel := 100000) rfl (by kernel_rfl) (by kernel_rfl) (by kernel_rfl) (fun x hx => by
    simp only [evermoreref3_Least.tbl, List.mem_cons, List.not_mem_nil, or_false] at hx
    rcases hx with rfl | rfl | rfl | rfl
    · exact evermoreref3_Least.h9
    · exact evermoreref3_Least.h23
    · exact evermoreref3_Least.h31
    · exact evermoreref3_Least.h42
) evermoreref3_Least.o evermoreref3_Least.h (fun k _ => by unfold evermoreref3_Least.env; exact (envC_ok (fun ds K r h => by
    obtain ⟨x0, d0, rfl, h0⟩ := pop_some h
    obtain ⟨rfl, g⟩ := popN_some h0
    obtain ⟨r1, h1, h2⟩ := bind_some g
    exact ⟨_, h2, evermoreref3_Classes.con k _ h1⟩) env0_ok))
theorem evermoreref3_Least.con (k : Nat) {x0 : (Int × (Int × ((List (List Int)) × ((List Int) × Unit))))} (r : Int × Int × (List (List Int)) × (List Int)) (h : evermoreref3_Least.f k x0 = some r) : Con Try.prog 46 1 evermoreref3_Least.ti evermoreref3_Least.to [⟨(.pair (.int .i64) (.pair (.int .i64) (.pair (.slice (.slice (.int .i64))) (.pair (.slice (.int .i64)) .unit)))), x0⟩] (evermoreref3_Least.rs r) :=
  evermoreref3_Least.con' (k + 1) _ r (by show evermoreref3_Least.c k _ = some r; unfold evermoreref3_Least.c; simp only [pop_self, popN]; exact h)
def evermorelaw_small.f (k : Nat) (d0 : (Int × (Int × (List (List (Int)) × (List (Int) × Unit))))) : Option (Int × Int × Int × List (List Int) × List Int) :=
 (evermoreref3_Check.f k (d0.fst, d0.snd.fst, d0.snd.snd.fst, d0.snd.snd.snd.fst, ())).bind fun r1 =>
  if r1 = 0 then
   (evermoreref3_Least.f k (d0.fst, d0.snd.fst, d0.snd.snd.fst, d0.snd.snd.snd.fst, ())).bind fun r3 =>
    if 5 < (↑r3.snd.snd.fst.length : Int) then
     some (0, 0, 1, [], [])
    else
     some (r3.fst, r3.snd.fst, 0, r3.snd.snd.fst, r3.snd.snd.snd)
  else
   some (0, 0, r1, [], [])

noncomputable def evermorelaw_small.body : Code := fnBody Try.f63
def evermorelaw_small.ti : Tm := ⟨[(0, .p (.pair (.int .i64) (.pair (.int .i64) (.pair (.slice (.slice (.int .i64))) (.pair (.slice (.int .i64)) .unit)))))], []⟩
def evermorelaw_small.to : Tm := ⟨[(0, .agg [.p (.int .i64), .p (.int .i64), .own 0, .own 1]), (1, .p (.int .i64))], [.own (.slice (.int .i64)), .own (.int .i64)]⟩
def evermorelaw_small.rs (r : Int × Int × Int × (List (List Int)) × (List Int)) : List Dat := [⟨(.int .i64), r.1⟩, ⟨(.int .i64), r.2.1⟩, ⟨(.int .i64), r.2.2.1⟩, ⟨(.slice (.slice (.int .i64))), r.2.2.2.1⟩, ⟨(.slice (.int .i64)), r.2.2.2.2⟩]
def evermorelaw_small.out (ds : List Dat) : Option (Int × Int × Int × (List (List Int)) × (List Int)) := pop (.int .i64) ds fun x0 ds => pop (.int .i64) ds fun x1 ds => pop (.int .i64) ds fun x2 ds => pop (.slice (.slice (.int .i64))) ds fun x3 ds => pop (.slice (.int .i64)) ds fun x4 ds => popN ds (some (x0, x1, x2, x3, x4))
def evermorelaw_small.c (k : Nat) (ds : List Dat) : Option (Int × Int × Int × (List (List Int)) × (List Int)) := pop (.pair (.int .i64) (.pair (.int .i64) (.pair (.slice (.slice (.int .i64))) (.pair (.slice (.int .i64)) .unit)))) ds fun x0 ds => popN ds (evermorelaw_small.f k x0)
def evermorelaw_small.g : Nat → List Dat → Option (Int × Int × Int × (List (List Int)) × (List Int))
 | 0, _ => none
 | k + 1, ds => evermorelaw_small.c k ds
def evermorelaw_small.env (k : Nat) : Nat → List SV → List Chunk → KT (Int × Int × Int × (List (List Int)) × (List Int)) → Option (Int × Int × Int × (List (List Int)) × (List Int)) := (envC 45 1 evermoreref3_Check.ti evermoreref3_Check.to (fun ds K => pop (.pair (.int .i64) (.pair (.int .i64) (.pair (.slice (.slice (.int .i64))) (.pair (.slice (.int .i64)) .unit)))) ds fun x0 ds => popN ds ((evermoreref3_Check.f k x0).bind fun r => K (evermoreref3_Check.rs r))) (envC 46 1 evermoreref3_Least.ti evermoreref3_Least.to (fun ds K => pop (.pair (.int .i64) (.pair (.int .i64) (.pair (.slice (.slice (.int .i64))) (.pair (.slice (.int .i64)) .unit)))) ds fun x0 ds => popN ds ((evermoreref3_Least.f k x0).bind fun r => K (evermoreref3_Least.rs r))) env0))
def evermorelaw_small.tbl : List (Nat × Tm × (Nat → List Dat → Option (Int × Int × Int × (List (List Int)) × (List Int)))) := []
noncomputable abbrev evermorelaw_small.R (k : Nat) := run T (evermorelaw_small.env k) Try.f63.ntmps (cutE 0 evermorelaw_small.tbl k) (finE 0 evermorelaw_small.to evermorelaw_small.out) (fnRes Try.f63) [] 100000 true
theorem evermorelaw_small.e (k : Nat) (x0 : (Int × (Int × ((List (List Int)) × ((List Int) × Unit))))) : evermorelaw_small.f k x0 = evermorelaw_small.R k ([.code evermorelaw_small.body]) (evermorelaw_small.ti.fill [⟨(.pair (.int .i64) (.pair (.int .i64) (.pair (.slice (.slice (.int .i64))) (.pair (.slice (.int .i64)) .unit)))), x0⟩]) := by kernel_rfl
theorem evermorelaw_small.h (k : Nat) (ds : List Dat) (r : Int × Int × Int × (List (List Int)) × (List Int)) (h : evermorelaw_small.g k ds = some r) : ∃ k', k' < k ∧ evermorelaw_small.R k' ([.code evermorelaw_small.body]) (evermorelaw_small.ti.fill ds) = some r := by
  cases k with
  | zero => cases (show none = some r from h)
  | succ k =>
  replace h : evermorelaw_small.c k ds = some r := h
  unfold evermorelaw_small.c at h
  obtain ⟨x0, d0, rfl, h0⟩ := pop_some h
  obtain ⟨rfl, g⟩ := popN_some h0
  exact ⟨k, Nat.lt_succ_self k, (evermorelaw_small.e k x0).symm.trans g⟩
theorem evermorelaw_small.o (ds : List Dat) (r : Int × Int × Int × (List (List Int)) × (List Int)) (h : evermorelaw_small.out ds = some r) : ds = evermorelaw_small.rs r := by
  unfold evermorelaw_small.out at h
  obtain ⟨x0, d0, rfl, h0⟩ := pop_some h
  obtain ⟨x1, d1, rfl, h1⟩ := pop_some h0
  obtain ⟨x2, d2, rfl, h2⟩ := pop_some h1
  obtain ⟨x3, d3, rfl, h3⟩ := pop_some h2
  obtain ⟨x4, d4, rfl, h4⟩ := pop_some h3
  obtain ⟨rfl, g⟩ := popN_some h4
  cases g
  rfl
theorem evermorelaw_small.fn : FnOk Try.prog 63 Try.f63 evermorelaw_small.body Try.f63.ntmps 1 (fnRes Try.f63) :=
  fnOk_of (by kernel_rfl) (by kernel_rfl) (by kernel_rfl) (by kernel_rfl)
theorem evermorelaw_small.con' : ∀ k ds r, evermorelaw_small.g k ds = some r → Con Try.prog 63 1 evermorelaw_small.ti evermorelaw_small.to ds (evermorelaw_small.rs r) :=
  fun_ok (T := T) T_ok mixed evermorelaw_small.fn (env := evermorelaw_small.env) (tbl := evermorelaw_small.tbl) (gOut := evermorelaw_small.out) (nin := 0) (cuts := []) (fuel := 100000) rfl (by kernel_rfl) (by kernel_rfl) (by kernel_rfl) (fun x hx => by simp [evermorelaw_small.tbl] at hx) evermorelaw_small.o evermorelaw_small.h (fun k _ => by unfold evermorelaw_small.env; exact (envC_ok (fun ds K r h => by
    obtain ⟨x0, d0, rfl, h0⟩ := pop_some h
    obtain ⟨rfl, g⟩ := popN_some h0
    obtain ⟨r1, h1, h2⟩ := bind_some g
    exact ⟨_, h2, evermoreref3_Check.con k _ h1⟩) (envC_ok (fun ds K r h => by
    obtain ⟨x0, d0, rfl, h0⟩ := pop_some h
    obtain ⟨rfl, g⟩ := popN_some h0
    obtain ⟨r1, h1, h2⟩ := bind_some g
    exact ⟨_, h2, evermoreref3_Least.con k _ h1⟩) env0_ok)))
theorem evermorelaw_small.con (k : Nat) {x0 : (Int × (Int × ((List (List Int)) × ((List Int) × Unit))))} (r : Int × Int × Int × (List (List Int)) × (List Int)) (h : evermorelaw_small.f k x0 = some r) : Con Try.prog 63 1 evermorelaw_small.ti evermorelaw_small.to [⟨(.pair (.int .i64) (.pair (.int .i64) (.pair (.slice (.slice (.int .i64))) (.pair (.slice (.int .i64)) .unit)))), x0⟩] (evermorelaw_small.rs r) :=
  evermorelaw_small.con' (k + 1) _ r (by show evermorelaw_small.c k _ = some r; unfold evermorelaw_small.c; simp only [pop_self, popN]; exact h)
mutual
def evermoreref1_May.l6 : Nat → Int → List (Int) → Int → Option (Int)
 | 0, _, _, _ => none
 | k + 1, letters0, w1, i5 =>
  if i5 < (↑w1.length : Int) then
   if 0 ≤ i5 then
   if i5 < (↑w1.length : Int) then
    if Go.Proofs.YtiiioobebeaafaaSx.rd (Int.ofNat 0) w1 i5 < 0 then
      some (2)
     else
      if 0 ≤ i5 then
      if i5 < (↑w1.length : Int) then
       if letters0 ≤ Go.Proofs.YtiiioobebeaafaaSx.rd (Int.ofNat 0) w1 i5 then
         some (2)
        else
         evermoreref1_May.l6 k letters0 w1 (Go.IntKind.i64.wrap (i5 + 1))
       else none
      else none
    else none
   else none
  else
   some (0)
end
def evermoreref1_May.f (k : Nat) (letters0 : Int) (w1 : List (Int)) : Option (Int) :=
 if letters0 < 1 then
  some (2)
 else
  if 4 < letters0 then
   some (2)
  else
   if 60 < (↑w1.length : Int) then
    some (1)
   else
    evermoreref1_May.l6 k letters0 w1 0

noncomputable def evermoreref1_May.body : Code := fnBody Try.f17
def evermoreref1_May.ti : Tm := ⟨[(0, .p (.int .i64)), (1, .p (.slice (.int .i64)))], []⟩
def evermoreref1_May.to : Tm := ⟨[(0, .p (.int .i64))], []⟩
def evermoreref1_May.rs (r : Int) : List Dat := [⟨(.int .i64), r⟩]
def evermoreref1_May.out (ds : List Dat) : Option (Int) := pop (.int .i64) ds fun x0 ds => popN ds (some (x0))
def evermoreref1_May.c (k : Nat) (ds : List Dat) : Option (Int) := pop (.int .i64) ds fun x0 ds => pop (.slice (.int .i64)) ds fun x1 ds => popN ds (evermoreref1_May.f k x0 x1)
def evermoreref1_May.g : Nat → List Dat → Option (Int)
 | 0, _ => none
 | k + 1, ds => evermoreref1_May.c k ds
def evermoreref1_May.env (k : Nat) : Nat → List SV → List Chunk → KT (Int) → Option (Int) := env0
def evermoreref1_May.t13 : Tm := ⟨[(0, .p (.int .i64)), (1, .p (.slice (.int .i64))), (5, .p (.int .i64))], []⟩
def evermoreref1_May.c13 (k : Nat) (ds : List Dat) : Option (Int) := pop (.int .i64) ds fun x0 ds => pop (.slice (.int .i64)) ds fun x1 ds => pop (.int .i64) ds fun x2 ds => popN ds (evermoreref1_May.l6 k x0 x1 x2)
def evermoreref1_May.tbl : List (Nat × Tm × (Nat → List Dat → Option (Int))) := [(13, evermoreref1_May.t13, evermoreref1_May.c13)]
noncomputable abbrev evermoreref1_May.R (k : Nat) := run T (evermoreref1_May.env k) Try.f17.ntmps (cutE 0 evermoreref1_May.tbl k) (finE 0 evermoreref1_May.to evermoreref1_May.out) (fnRes Try.f17) [] 100000 true
theorem evermoreref1_May.e13 (k : Nat) (x0 : Int) (x1 : (List Int)) (x2 : Int) : evermoreref1_May.l6 (k + 1) x0 x1 x2 = evermoreref1_May.R k (start (stackOf 13 evermoreref1_May.body)) (evermoreref1_May.t13.fill [⟨(.int .i64), x0⟩, ⟨(.slice (.int .i64)), x1⟩, ⟨(.int .i64), x2⟩]) := by kernel_rfl
theorem evermoreref1_May.s13 : stackAt 13 evermoreref1_May.body [] = some (stackOf 13 evermoreref1_May.body) := by kernel_rfl
theorem evermoreref1_May.h13 (k : Nat) (ds : List Dat) (r : Int) (h : evermoreref1_May.c13 k ds = some r) : ∃ k', k' < k ∧ ∃ s, stackAt 13 evermoreref1_May.body [] = some s ∧ evermoreref1_May.R k' (start s) (evermoreref1_May.t13.fill ds) = some r := by
  unfold evermoreref1_May.c13 at h
  obtain ⟨x0, d0, rfl, h0⟩ := pop_some h
  obtain ⟨x1, d1, rfl, h1⟩ := pop_some h0
  obtain ⟨x2, d2, rfl, h2⟩ := pop_some h1
  obtain ⟨rfl, g⟩ := popN_some h2
  cases k with
  | zero => cases (show none = some r from g)
  | succ k => exact ⟨k, Nat.lt_succ_self k, _, evermoreref1_May.s13, (evermoreref1_May.e13 k x0 x1 x2).symm.trans g⟩
theorem evermoreref1_May.e (k : Nat) (x0 : Int) (x1 : (List Int)) : evermoreref1_May.f k x0 x1 = evermoreref1_May.R k ([.code evermoreref1_May.body]) (evermoreref1_May.ti.fill [⟨(.int .i64), x0⟩, ⟨(.slice (.int .i64)), x1⟩]) := by kernel_rfl
theorem evermoreref1_May.h (k : Nat) (ds : List Dat) (r : Int) (h : evermoreref1_May.g k ds = some r) : ∃ k', k' < k ∧ evermoreref1_May.R k' ([.code evermoreref1_May.body]) (evermoreref1_May.ti.fill ds) = some r := by
  cases k with
  | zero => cases (show none = some r from h)
  | succ k =>
  replace h : evermoreref1_May.c k ds = some r := h
  unfold evermoreref1_May.c at h
  obtain ⟨x0, d0, rfl, h0⟩ := pop_some h
  obtain ⟨x1, d1, rfl, h1⟩ := pop_some h0
  obtain ⟨rfl, g⟩ := popN_some h1
  exact ⟨k, Nat.lt_succ_self k, (evermoreref1_May.e k x0 x1).symm.trans g⟩
theorem evermoreref1_May.o (ds : List Dat) (r : Int) (h : evermoreref1_May.out ds = some r) : ds = evermoreref1_May.rs r := by
  unfold evermoreref1_May.out at h
  obtain ⟨x0, d0, rfl, h0⟩ := pop_some h
  obtain ⟨rfl, g⟩ := popN_some h0
  cases g
  rfl
theorem evermoreref1_May.fn : FnOk Try.prog 17 Try.f17 evermoreref1_May.body Try.f17.ntmps 2 (fnRes Try.f17) :=
  fnOk_of (by kernel_rfl) (by kernel_rfl) (by kernel_rfl) (by kernel_rfl)
theorem evermoreref1_May.con' : ∀ k ds r, evermoreref1_May.g k ds = some r → Con Try.prog 17 2 evermoreref1_May.ti evermoreref1_May.to ds (evermoreref1_May.rs r) :=
  fun_ok (T := T) T_ok mixed evermoreref1_May.fn (env := evermoreref1_May.env) (tbl := evermoreref1_May.tbl) (gOut := evermoreref1_May.out) (nin := 0) (cuts := []) (fuel := 100000) rfl (by kernel_rfl) (by kernel_rfl) (by kernel_rfl) (fun x hx => by
    simp only [evermoreref1_May.tbl, List.mem_cons, List.not_mem_nil, or_false] at hx
    subst hx
    · exact evermoreref1_May.h13
) evermoreref1_May.o evermoreref1_May.h (fun k _ => by unfold evermoreref1_May.env; exact env0_ok)
theorem evermoreref1_May.con (k : Nat) {x0 : Int} {x1 : (List Int)} (r : Int) (h : evermoreref1_May.f k x0 x1 = some r) : Con Try.prog 17 2 evermoreref1_May.ti evermoreref1_May.to [⟨(.int .i64), x0⟩, ⟨(.slice (.int .i64)), x1⟩] (evermoreref1_May.rs r) :=
  evermoreref1_May.con' (k + 1) _ r (by show evermoreref1_May.c k _ = some r; unfold evermoreref1_May.c; simp only [pop_self, popN]; exact h)
mutual
def evermoreref3_After.l2 : Nat → Int → List (Int) → Int → Int → Int → List (List (Int)) → List (Int) → Option (Int)
 | 0, _, _, _, _, _, _, _ => none
 | k + 1, q1, w2, i7, d3_0, d3_1, d3_2, d3_3 =>
  if i7 < (↑w2.length : Int) then
   if 0 ≤ q1 then
   if q1 < (↑d3_2.length : Int) then
    if 0 ≤ i7 then
     if i7 < (↑w2.length : Int) then
      if 0 ≤ Go.Proofs.YtiiioobebeaafaaSx.rd (Int.ofNat 0) w2 i7 then
       if Go.Proofs.YtiiioobebeaafaaSx.rd (Int.ofNat 0) w2 i7 < (↑(Go.Proofs.YtiiioobebeaafaaSx.rd [] d3_2 q1).length : Int) then
        evermoreref3_After.l2 k (Go.Proofs.YtiiioobebeaafaaSx.rd (Int.ofNat 0) (Go.Proofs.YtiiioobebeaafaaSx.rd [] d3_2 q1) (Go.Proofs.YtiiioobebeaafaaSx.rd (Int.ofNat 0) w2 i7)) w2 (Go.IntKind.i64.wrap (i7 + 1)) d3_0 d3_1 d3_2 d3_3
        else none
       else none
      else none
     else none
    else none
   else none
  else
   some (q1)
end
def evermoreref3_After.f (k : Nat) (d0 : (Int × (Int × (List (List (Int)) × (List (Int) × Unit))))) (q1 : Int) (w2 : List (Int)) : Option (Int) :=
 evermoreref3_After.l2 k q1 w2 0 d0.fst d0.snd.fst d0.snd.snd.fst d0.snd.snd.snd.fst

noncomputable def evermoreref3_After.body : Code := fnBody Try.f73
def evermoreref3_After.ti : Tm := ⟨[(0, .p (.pair (.int .i64) (.pair (.int .i64) (.pair (.slice (.slice (.int .i64))) (.pair (.slice (.int .i64)) .unit))))), (1, .p (.int .i64)), (2, .p (.slice (.int .i64)))], []⟩
def evermoreref3_After.to : Tm := ⟨[(0, .p (.int .i64))], []⟩
def evermoreref3_After.rs (r : Int) : List Dat := [⟨(.int .i64), r⟩]
def evermoreref3_After.out (ds : List Dat) : Option (Int) := pop (.int .i64) ds fun x0 ds => popN ds (some (x0))
def evermoreref3_After.c (k : Nat) (ds : List Dat) : Option (Int) := pop (.pair (.int .i64) (.pair (.int .i64) (.pair (.slice (.slice (.int .i64))) (.pair (.slice (.int .i64)) .unit)))) ds fun x0 ds => pop (.int .i64) ds fun x1 ds => pop (.slice (.int .i64)) ds fun x2 ds => popN ds (evermoreref3_After.f k x0 x1 x2)
def evermoreref3_After.g : Nat → List Dat → Option (Int)
 | 0, _ => none
 | k + 1, ds => evermoreref3_After.c k ds
def evermoreref3_After.env (k : Nat) : Nat → List SV → List Chunk → KT (Int) → Option (Int) := env0
def evermoreref3_After.t5 : Tm := ⟨[(1, .p (.int .i64)), (2, .p (.slice (.int .i64))), (3, .ptr 0 0), (7, .p (.int .i64))], [.box [.p (.int .i64), .p (.int .i64), .p (.slice (.slice (.int .i64))), .p (.slice (.int .i64))] 58]⟩
def evermoreref3_After.c5 (k : Nat) (ds : List Dat) : Option (Int) := pop (.int .i64) ds fun x0 ds => pop (.slice (.int .i64)) ds fun x1 ds => pop (.int .i64) ds fun x2 ds => pop (.int .i64) ds fun x3 ds => pop (.int .i64) ds fun x4 ds => pop (.slice (.slice (.int .i64))) ds fun x5 ds => pop (.slice (.int .i64)) ds fun x6 ds => popN ds (evermoreref3_After.l2 k x0 x1 x2 x3 x4 x5 x6)
def evermoreref3_After.tbl : List (Nat × Tm × (Nat → List Dat → Option (Int))) := [(5, evermoreref3_After.t5, evermoreref3_After.c5)]
noncomputable abbrev evermoreref3_After.R (k : Nat) := run T (evermoreref3_After.env k) Try.f73.ntmps (cutE 0 evermoreref3_After.tbl k) (finE 0 evermoreref3_After.to evermoreref3_After.out) (fnRes Try.f73) [] 100000 true
theorem evermoreref3_After.e5 (k : Nat) (x0 : Int) (x1 : (List Int)) (x2 : Int) (x3 : Int) (x4 : Int) (x5 : (List (List Int))) (x6 : (List Int)) : evermoreref3_After.l2 (k + 1) x0 x1 x2 x3 x4 x5 x6 = evermoreref3_After.R k (start (stackOf 5 evermoreref3_After.body)) (evermoreref3_After.t5.fill [⟨(.int .i64), x0⟩, ⟨(.slice (.int .i64)), x1⟩, ⟨(.int .i64), x2⟩, ⟨(.int .i64), x3⟩, ⟨(.int .i64), x4⟩, ⟨(.slice (.slice (.int .i64))), x5⟩, ⟨(.slice (.int .i64)), x6⟩]) := by kernel_rfl
theorem evermoreref3_After.s5 : stackAt 5 evermoreref3_After.body [] = some (stackOf 5 evermoreref3_After.body) := by kernel_rfl
theorem evermoreref3_After.h5 (k : Nat) (ds : List Dat) (r : Int) (h : evermoreref3_After.c5 k ds = some r) : ∃ k', k' < k ∧ ∃ s, stackAt 5 evermoreref3_After.body [] = some s ∧ evermoreref3_After.R k' (start s) (evermoreref3_After.t5.fill ds) = some r := by
  unfold evermoreref3_After.c5 at h
  obtain ⟨x0, d0, rfl, h0⟩ := pop_some h
  obtain ⟨x1, d1, rfl, h1⟩ := pop_some h0
  obtain ⟨x2, d2, rfl, h2⟩ := pop_some h1
  obtain ⟨x3, d3, rfl, h3⟩ := pop_some h2
  obtain ⟨x4, d4, rfl, h4⟩ := pop_some h3
  obtain ⟨x5, d5, rfl, h5⟩ := pop_some h4
  obtain ⟨x6, d6, rfl, h6⟩ := pop_some h5
  obtain ⟨rfl, g⟩ := popN_some h6
  cases k with
  | zero => cases (show none = some r from g)
  | succ k => exact ⟨k, Nat.lt_succ_self k, _, evermoreref3_After.s5, (evermoreref3_After.e5 k x0 x1 x2 x3 x4 x5 x6).symm.trans g⟩
theorem evermoreref3_After.e (k : Nat) (x0 : (Int × (Int × ((List (List Int)) × ((List Int) × Unit))))) (x1 : Int) (x2 : (List Int)) : evermoreref3_After.f k x0 x1 x2 = evermoreref3_After.R k ([.code evermoreref3_After.body]) (evermoreref3_After.ti.fill [⟨(.pair (.int .i64) (.pair (.int .i64) (.pair (.slice (.slice (.int .i64))) (.pair (.slice (.int .i64)) .unit)))), x0⟩, ⟨(.int .i64), x1⟩, ⟨(.slice (.int .i64)), x2⟩]) := by kernel_rfl
theorem evermoreref3_After.h (k : Nat) (ds : List Dat) (r : Int) (h : evermoreref3_After.g k ds = some r) : ∃ k', k' < k ∧ evermoreref3_After.R k' ([.code evermoreref3_After.body]) (evermoreref3_After.ti.fill ds) = some r := by
  cases k with
  | zero => cases (show none = some r from h)
  | succ k =>
  replace h : evermoreref3_After.c k ds = some r := h
  unfold evermoreref3_After.c at h
  obtain ⟨x0, d0, rfl, h0⟩ := pop_some h
  obtain ⟨x1, d1, rfl, h1⟩ := pop_some h0
  obtain ⟨x2, d2, rfl, h2⟩ := pop_some h1
  obtain ⟨rfl, g⟩ := popN_some h2
  exact ⟨k, Nat.lt_succ_self k, (evermoreref3_After.e k x0 x1 x2).symm.trans g⟩
theorem evermoreref3_After.o (ds : List Dat) (r : Int) (h : evermoreref3_After.out ds = some r) : ds = evermoreref3_After.rs r := by
  unfold evermoreref3_After.out at h
  obtain ⟨x0, d0, rfl, h0⟩ := pop_some h
  obtain ⟨rfl, g⟩ := popN_some h0
  cases g
  rfl
theorem evermoreref3_After.fn : FnOk Try.prog 73 Try.f73 evermoreref3_After.body Try.f73.ntmps 3 (fnRes Try.f73) :=
  fnOk_of (by kernel_rfl) (by kernel_rfl) (by kernel_rfl) (by kernel_rfl)
theorem evermoreref3_After.con' : ∀ k ds r, evermoreref3_After.g k ds = some r → Con Try.prog 73 3 evermoreref3_After.ti evermoreref3_After.to ds (evermoreref3_After.rs r) :=
  fun_ok (T := T) T_ok mixed evermoreref3_After.fn (env := evermoreref3_After.env) (tbl := evermoreref3_After.tbl) (gOut := evermoreref3_After.out) (nin := 0) (cuts := []) (fuel := 100000) rfl (by kernel_rfl) (by kernel_rfl) (by kernel_rfl) (fun x hx => by
    simp only [evermoreref3_After.tbl, List.mem_cons, List.not_mem_nil, or_false] at hx
    subst hx
    · exact evermoreref3_After.h5
) evermoreref3_After.o evermoreref3_After.h (fun k _ => by unfold evermoreref3_After.env; exact env0_ok)
theorem evermoreref3_After.con (k : Nat) {x0 : (Int × (Int × ((List (List Int)) × ((List Int) × Unit))))} {x1 : Int} {x2 : (List Int)} (r : Int) (h : evermoreref3_After.f k x0 x1 x2 = some r) : Con Try.prog 73 3 evermoreref3_After.ti evermoreref3_After.to [⟨(.pair (.int .i64) (.pair (.int .i64) (.pair (.slice (.slice (.int .i64))) (.pair (.slice (.int .i64)) .unit)))), x0⟩, ⟨(.int .i64), x1⟩, ⟨(.slice (.int .i64)), x2⟩] (evermoreref3_After.rs r) :=
  evermoreref3_After.con' (k + 1) _ r (by show evermoreref3_After.c k _ = some r; unfold evermoreref3_After.c; simp only [pop_self, popN]; exact h)
mutual
def evermoreref1_Words.l4 : Nat → List (Int) → List (Int) → Int → Option (Bool)
 | 0, _, _, _ => none
 | k + 1, a0, b1, i5 =>
  if i5 < (↑a0.length : Int) then
   if 0 ≤ i5 then
   if i5 < (↑a0.length : Int) then
    if 0 ≤ i5 then
     if i5 < (↑b1.length : Int) then
      if Go.Proofs.YtiiioobebeaafaaSx.rd (Int.ofNat 0) a0 i5 = Go.Proofs.YtiiioobebeaafaaSx.rd (Int.ofNat 0) b1 i5 then
        evermoreref1_Words.l4 k a0 b1 (Go.IntKind.i64.wrap (i5 + 1))
       else
        some (false)
      else none
     else none
    else none
   else none
  else
   some (true)
end
def evermoreref1_Words.f (k : Nat) (a0 : List (Int)) (b1 : List (Int)) : Option (Bool) :=
 if (↑a0.length : Int) = (↑b1.length : Int) then
  evermoreref1_Words.l4 k a0 b1 0
 else
  some (false)

noncomputable def evermoreref1_Words.body : Code := fnBody Try.f34
def evermoreref1_Words.ti : Tm := ⟨[(0, .p (.slice (.int .i64))), (1, .p (.slice (.int .i64)))], []⟩
def evermoreref1_Words.to : Tm := ⟨[(0, .p .bool)], []⟩
def evermoreref1_Words.rs (r : Bool) : List Dat := [⟨.bool, r⟩]
def evermoreref1_Words.out (ds : List Dat) : Option (Bool) := pop .bool ds fun x0 ds => popN ds (some (x0))
def evermoreref1_Words.c (k : Nat) (ds : List Dat) : Option (Bool) := pop (.slice (.int .i64)) ds fun x0 ds => pop (.slice (.int .i64)) ds fun x1 ds => popN ds (evermoreref1_Words.f k x0 x1)
def evermoreref1_Words.g : Nat → List Dat → Option (Bool)
 | 0, _ => none
 | k + 1, ds => evermoreref1_Words.c k ds
def evermoreref1_Words.env (k : Nat) : Nat → List SV → List Chunk → KT (Bool) → Option (Bool) := env0
def evermoreref1_Words.t9 : Tm := ⟨[(0, .p (.slice (.int .i64))), (1, .p (.slice (.int .i64))), (5, .p (.int .i64))], []⟩
def evermoreref1_Words.c9 (k : Nat) (ds : List Dat) : Option (Bool) := pop (.slice (.int .i64)) ds fun x0 ds => pop (.slice (.int .i64)) ds fun x1 ds => pop (.int .i64) ds fun x2 ds => popN ds (evermoreref1_Words.l4 k x0 x1 x2)
def evermoreref1_Words.tbl : List (Nat × Tm × (Nat → List Dat → Option (Bool))) := [(9, evermoreref1_Words.t9, evermoreref1_Words.c9)]
noncomputable abbrev evermoreref1_Words.R (k : Nat) := run T (evermoreref1_Words.env k) Try.f34.ntmps (cutE 0 evermoreref1_Words.tbl k) (finE 0 evermoreref1_Words.to evermoreref1_Words.out) (fnRes Try.f34) [] 100000 true
theorem evermoreref1_Words.e9 (k : Nat) (x0 : (List Int)) (x1 : (List Int)) (x2 : Int) : evermoreref1_Words.l4 (k + 1) x0 x1 x2 = evermoreref1_Words.R k (start (stackOf 9 evermoreref1_Words.body)) (evermoreref1_Words.t9.fill [⟨(.slice (.int .i64)), x0⟩, ⟨(.slice (.int .i64)), x1⟩, ⟨(.int .i64), x2⟩]) := by kernel_rfl
theorem evermoreref1_Words.s9 : stackAt 9 evermoreref1_Words.body [] = some (stackOf 9 evermoreref1_Words.body) := by kernel_rfl
theorem evermoreref1_Words.h9 (k : Nat) (ds : List Dat) (r : Bool) (h : evermoreref1_Words.c9 k ds = some r) : ∃ k', k' < k ∧ ∃ s, stackAt 9 evermoreref1_Words.body [] = some s ∧ evermoreref1_Words.R k' (start s) (evermoreref1_Words.t9.fill ds) = some r := by
  unfold evermoreref1_Words.c9 at h
  obtain ⟨x0, d0, rfl, h0⟩ := pop_some h
  obtain ⟨x1, d1, rfl, h1⟩ := pop_some h0
  obtain ⟨x2, d2, rfl, h2⟩ := pop_some h1
  obtain ⟨rfl, g⟩ := popN_some h2
  cases k with
  | zero => cases (show none = some r from g)
  | succ k => exact ⟨k, Nat.lt_succ_self k, _, evermoreref1_Words.s9, (evermoreref1_Words.e9 k x0 x1 x2).symm.trans g⟩
theorem evermoreref1_Words.e (k : Nat) (x0 : (List Int)) (x1 : (List Int)) : evermoreref1_Words.f k x0 x1 = evermoreref1_Words.R k ([.code evermoreref1_Words.body]) (evermoreref1_Words.ti.fill [⟨(.slice (.int .i64)), x0⟩, ⟨(.slice (.int .i64)), x1⟩]) := by kernel_rfl
theorem evermoreref1_Words.h (k : Nat) (ds : List Dat) (r : Bool) (h : evermoreref1_Words.g k ds = some r) : ∃ k', k' < k ∧ evermoreref1_Words.R k' ([.code evermoreref1_Words.body]) (evermoreref1_Words.ti.fill ds) = some r := by
  cases k with
  | zero => cases (show none = some r from h)
  | succ k =>
  replace h : evermoreref1_Words.c k ds = some r := h
  unfold evermoreref1_Words.c at h
  obtain ⟨x0, d0, rfl, h0⟩ := pop_some h
  obtain ⟨x1, d1, rfl, h1⟩ := pop_some h0
  obtain ⟨rfl, g⟩ := popN_some h1
  exact ⟨k, Nat.lt_succ_self k, (evermoreref1_Words.e k x0 x1).symm.trans g⟩
theorem evermoreref1_Words.o (ds : List Dat) (r : Bool) (h : evermoreref1_Words.out ds = some r) : ds = evermoreref1_Words.rs r := by
  unfold evermoreref1_Words.out at h
  obtain ⟨x0, d0, rfl, h0⟩ := pop_some h
  obtain ⟨rfl, g⟩ := popN_some h0
  cases g
  rfl
theorem evermoreref1_Words.fn : FnOk Try.prog 34 Try.f34 evermoreref1_Words.body Try.f34.ntmps 2 (fnRes Try.f34) :=
  fnOk_of (by kernel_rfl) (by kernel_rfl) (by kernel_rfl) (by kernel_rfl)
theorem evermoreref1_Words.con' : ∀ k ds r, evermoreref1_Words.g k ds = some r → Con Try.prog 34 2 evermoreref1_Words.ti evermoreref1_Words.to ds (evermoreref1_Words.rs r) :=
  fun_ok (T := T) T_ok mixed evermoreref1_Words.fn (env := evermoreref1_Words.env) (tbl := evermoreref1_Words.tbl) (gOut := evermoreref1_Words.out) (nin := 0) (cuts := []) (fuel := 100000) rfl (by kernel_rfl) (by kernel_rfl) (by kernel_rfl) (fun x hx => by
    simp only [evermoreref1_Words.tbl, List.mem_cons, List.not_mem_nil, or_false] at hx
    subst hx
    · exact evermoreref1_Words.h9
) evermoreref1_Words.o evermoreref1_Words.h (fun k _ => by unfold evermoreref1_Words.env; exact env0_ok)
theorem evermoreref1_Words.con (k : Nat) {x0 : (List Int)} {x1 : (List Int)} (r : Bool) (h : evermoreref1_Words.f k x0 x1 = some r) : Con Try.prog 34 2 evermoreref1_Words.ti evermoreref1_Words.to [⟨(.slice (.int .i64)), x0⟩, ⟨(.slice (.int .i64)), x1⟩] (evermoreref1_Words.rs r) :=
  evermoreref1_Words.con' (k + 1) _ r (by show evermoreref1_Words.c k _ = some r; unfold evermoreref1_Words.c; simp only [pop_self, popN]; exact h)
mutual
def evermoreref4_Does.l3 : Nat → List (Int) → Int → Int → Int → List (List (Int)) → List (Int) → List (Int) → Option (List Int)
 | 0, _, _, _, _, _, _, _ => none
 | k + 1, w1, q6, d2_0, d2_1, d2_2, d2_3, out5 =>
  if q6 < (↑d2_2.length : Int) then
   (evermoreref3_After.f k (d2_0, d2_1, d2_2, d2_3, ()) q6 w1).bind fun r3 =>
    if (out5 ++ [r3]).length.blt 1000000000 = true then
    evermoreref4_Does.l3 k w1 (Go.IntKind.i64.wrap (q6 + 1)) d2_0 d2_1 d2_2 d2_3 (out5 ++ [r3])
    else none
  else
   some (out5)
end
def evermoreref4_Does.f (k : Nat) (d0 : (Int × (Int × (List (List (Int)) × (List (Int) × Unit))))) (w1 : List (Int)) : Option (List Int) :=
 evermoreref4_Does.l3 k w1 0 d0.fst d0.snd.fst d0.snd.snd.fst d0.snd.snd.snd.fst []

noncomputable def evermoreref4_Does.body : Code := fnBody Try.f72
def evermoreref4_Does.ti : Tm := ⟨[(0, .p (.pair (.int .i64) (.pair (.int .i64) (.pair (.slice (.slice (.int .i64))) (.pair (.slice (.int .i64)) .unit))))), (1, .p (.slice (.int .i64)))], []⟩
def evermoreref4_Does.to : Tm := ⟨[(0, .own 0)], [.own (.int .i64)]⟩
def evermoreref4_Does.rs (r : (List Int)) : List Dat := [⟨(.slice (.int .i64)), r⟩]
def evermoreref4_Does.out (ds : List Dat) : Option ((List Int)) := pop (.slice (.int .i64)) ds fun x0 ds => popN ds (some (x0))
def evermoreref4_Does.c (k : Nat) (ds : List Dat) : Option ((List Int)) := pop (.pair (.int .i64) (.pair (.int .i64) (.pair (.slice (.slice (.int .i64))) (.pair (.slice (.int .i64)) .unit)))) ds fun x0 ds => pop (.slice (.int .i64)) ds fun x1 ds => popN ds (evermoreref4_Does.f k x0 x1)
def evermoreref4_Does.g : Nat → List Dat → Option ((List Int))
 | 0, _ => none
 | k + 1, ds => evermoreref4_Does.c k ds
def evermoreref4_Does.env (k : Nat) : Nat → List SV → List Chunk → KT ((List Int)) → Option ((List Int)) := (envC 73 3 evermoreref3_After.ti evermoreref3_After.to (fun ds K => pop (.pair (.int .i64) (.pair (.int .i64) (.pair (.slice (.slice (.int .i64))) (.pair (.slice (.int .i64)) .unit)))) ds fun x0 ds => pop (.int .i64) ds fun x1 ds => pop (.slice (.int .i64)) ds fun x2 ds => popN ds ((evermoreref3_After.f k x0 x1 x2).bind fun r => K (evermoreref3_After.rs r))) env0)
def evermoreref4_Does.t7 : Tm := ⟨[(1, .p (.slice (.int .i64))), (2, .ptr 0 0), (5, .own 1), (6, .p (.int .i64))], [.box [.p (.int .i64), .p (.int .i64), .p (.slice (.slice (.int .i64))), .p (.slice (.int .i64))] 58, .own (.int .i64)]⟩
def evermoreref4_Does.c7 (k : Nat) (ds : List Dat) : Option ((List Int)) := pop (.slice (.int .i64)) ds fun x0 ds => pop (.int .i64) ds fun x1 ds => pop (.int .i64) ds fun x2 ds => pop (.int .i64) ds fun x3 ds => pop (.slice (.slice (.int .i64))) ds fun x4 ds => pop (.slice (.int .i64)) ds fun x5 ds => pop (.slice (.int .i64)) ds fun x6 ds => popN ds (evermoreref4_Does.l3 k x0 x1 x2 x3 x4 x5 x6)
def evermoreref4_Does.tbl : List (Nat × Tm × (Nat → List Dat → Option ((List Int)))) := [(7, evermoreref4_Does.t7, evermoreref4_Does.c7)]
noncomputable abbrev evermoreref4_Does.R (k : Nat) := run T (evermoreref4_Does.env k) Try.f72.ntmps (cutE 0 evermoreref4_Does.tbl k) (finE 0 evermoreref4_Does.to evermoreref4_Does.out) (fnRes Try.f72) [] 100000 true
theorem evermoreref4_Does.e7 (k : Nat) (x0 : (List Int)) (x1 : Int) (x2 : Int) (x3 : Int) (x4 : (List (List Int))) (x5 : (List Int)) (x6 : (List Int)) : evermoreref4_Does.l3 (k + 1) x0 x1 x2 x3 x4 x5 x6 = evermoreref4_Does.R k (start (stackOf 7 evermoreref4_Does.body)) (evermoreref4_Does.t7.fill [⟨(.slice (.int .i64)), x0⟩, ⟨(.int .i64), x1⟩, ⟨(.int .i64), x2⟩, ⟨(.int .i64), x3⟩, ⟨(.slice (.slice (.int .i64))), x4⟩, ⟨(.slice (.int .i64)), x5⟩, ⟨(.slice (.int .i64)), x6⟩]) := by kernel_rfl
theorem evermoreref4_Does.s7 : stackAt 7 evermoreref4_Does.body [] = some (stackOf 7 evermoreref4_Does.body) := by kernel_rfl
theorem evermoreref4_Does.h7 (k : Nat) (ds : List Dat) (r : (List Int)) (h : evermoreref4_Does.c7 k ds = some r) : ∃ k', k' < k ∧ ∃ s, stackAt 7 evermoreref4_Does.body [] = some s ∧ evermoreref4_Does.R k' (start s) (evermoreref4_Does.t7.fill ds) = some r := by
  unfold evermoreref4_Does.c7 at h
  obtain ⟨x0, d0, rfl, h0⟩ := pop_some h
  obtain ⟨x1, d1, rfl, h1⟩ := pop_some h0
  obtain ⟨x2, d2, rfl, h2⟩ := pop_some h1
  obtain ⟨x3, d3, rfl, h3⟩ := pop_some h2
  obtain ⟨x4, d4, rfl, h4⟩ := pop_some h3
  obtain ⟨x5, d5, rfl, h5⟩ := pop_some h4
  obtain ⟨x6, d6, rfl, h6⟩ := pop_some h5
  obtain ⟨rfl, g⟩ := popN_some h6
  cases k with
  | zero => cases (show none = some r from g)
  | succ k => exact ⟨k, Nat.lt_succ_self k, _, evermoreref4_Does.s7, (evermoreref4_Does.e7 k x0 x1 x2 x3 x4 x5 x6).symm.trans g⟩
theorem evermoreref4_Does.e (k : Nat) (x0 : (Int × (Int × ((List (List Int)) × ((List Int) × Unit))))) (x1 : (List Int)) : evermoreref4_Does.f k x0 x1 = evermoreref4_Does.R k ([.code evermoreref4_Does.body]) (evermoreref4_Does.ti.fill [⟨(.pair (.int .i64) (.pair (.int .i64) (.pair (.slice (.slice (.int .i64))) (.pair (.slice (.int .i64)) .unit)))), x0⟩, ⟨(.slice (.int .i64)), x1⟩]) := by kernel_rfl
theorem evermoreref4_Does.h (k : Nat) (ds : List Dat) (r : (List Int)) (h : evermoreref4_Does.g k ds = some r) : ∃ k', k' < k ∧ evermoreref4_Does.R k' ([.code evermoreref4_Does.body]) (evermoreref4_Does.ti.fill ds) = some r := by
  cases k with
  | zero => cases (show none = some r from h)
  | succ k =>
  replace h : evermoreref4_Does.c k ds = some r := h
  unfold evermoreref4_Does.c at h
  obtain ⟨x0, d0, rfl, h0⟩ := pop_some h
  obtain ⟨x1, d1, rfl, h1⟩ := pop_some h0
  obtain ⟨rfl, g⟩ := popN_some h1
  exact ⟨k, Nat.lt_succ_self k, (evermoreref4_Does.e k x0 x1).symm.trans g⟩
theorem evermoreref4_Does.o (ds : List Dat) (r : (List Int)) (h : evermoreref4_Does.out ds = some r) : ds = evermoreref4_Does.rs r := by
  unfold evermoreref4_Does.out at h
  obtain ⟨x0, d0, rfl, h0⟩ := pop_some h
  obtain ⟨rfl, g⟩ := popN_some h0
  cases g
  rfl
theorem evermoreref4_Does.fn : FnOk Try.prog 72 Try.f72 evermoreref4_Does.body Try.f72.ntmps 2 (fnRes Try.f72) :=
  fnOk_of (by kernel_rfl) (by kernel_rfl) (by kernel_rfl) (by kernel_rfl)
theorem evermoreref4_Does.con' : ∀ k ds r, evermoreref4_Does.g k ds = some r → Con Try.prog 72 2 evermoreref4_Does.ti evermoreref4_Does.to ds (evermoreref4_Does.rs r) :=
  fun_ok (T := T) T_ok mixed evermoreref4_Does.fn (env := evermoreref4_Does.env) (tbl := evermoreref4_Does.tbl) (gOut := evermoreref4_Does.out) (nin := 0) (cuts := []) (fuel := 100000) rfl (by kernel_rfl) (by kernel_rfl) (by kernel_rfl) (fun x hx => by
    simp only [evermoreref4_Does.tbl, List.mem_cons, List.not_mem_nil, or_false] at hx
    subst hx
    · exact evermoreref4_Does.h7
) evermoreref4_Does.o evermoreref4_Does.h (fun k _ => by unfold evermoreref4_Does.env; exact (envC_ok (fun ds K r h => by
    obtain ⟨x0, d0, rfl, h0⟩ := pop_some h
    obtain ⟨x1, d1, rfl, h1⟩ := pop_some h0
    obtain ⟨x2, d2, rfl, h2⟩ := pop_some h1
    obtain ⟨rfl, g⟩ := popN_some h2
    obtain ⟨r1, h1, h2⟩ := bind_some g
    exact ⟨_, h2, evermoreref3_After.con k _ h1⟩) env0_ok))
theorem evermoreref4_Does.con (k : Nat) {x0 : (Int × (Int × ((List (List Int)) × ((List Int) × Unit))))} {x1 : (List Int)} (r : (List Int)) (h : evermoreref4_Does.f k x0 x1 = some r) : Con Try.prog 72 2 evermoreref4_Does.ti evermoreref4_Does.to [⟨(.pair (.int .i64) (.pair (.int .i64) (.pair (.slice (.slice (.int .i64))) (.pair (.slice (.int .i64)) .unit)))), x0⟩, ⟨(.slice (.int .i64)), x1⟩] (evermoreref4_Does.rs r) :=
  evermoreref4_Does.con' (k + 1) _ r (by show evermoreref4_Does.c k _ = some r; unfold evermoreref4_Does.c; simp only [pop_self, popN]; exact h)
mutual
def evermoreref4_Does_2.l3 : Nat → List (Int) → Int → Int → Int → List (List (Int)) → List (Int) → List (Int) → Option (List Int)
 | 0, _, _, _, _, _, _, _ => none
 | k + 1, w1, q6, d2_0, d2_1, d2_2, d2_3, out5 =>
  if q6 < (↑d2_2.length : Int) then
   (evermoreref3_After.f k (d2_0, d2_1, d2_2, d2_3, ()) q6 w1).bind fun r3 =>
    if (out5 ++ [r3]).length.blt 1000000000 = true then
    evermoreref4_Does_2.l3 k w1 (Go.IntKind.i64.wrap (q6 + 1)) d2_0 d2_1 d2_2 d2_3 (out5 ++ [r3])
    else none
  else
   some (out5)
end
def evermoreref4_Does_2.f (k : Nat) (d0 : (Int × (Int × (List (List (Int)) × (List (Int) × Unit))))) (w1 : List (Int)) : Option (List Int) :=
 evermoreref4_Does_2.l3 k w1 0 d0.fst d0.snd.fst d0.snd.snd.fst d0.snd.snd.snd.fst []

noncomputable def evermoreref4_Does_2.body : Code := fnBody Try.f72
def evermoreref4_Does_2.ti : Tm := ⟨[(0, .p (.pair (.int .i64) (.pair (.int .i64) (.pair (.slice (.slice (.int .i64))) (.pair (.slice (.int .i64)) .unit))))), (1, .p (.slice (.int .i64)))], []⟩
def evermoreref4_Does_2.to : Tm := ⟨[(0, .own 0)], [.own (.int .i64)]⟩
def evermoreref4_Does_2.rs (r : (List Int)) : List Dat := [⟨(.slice (.int .i64)), r⟩]
def evermoreref4_Does_2.out (ds : List Dat) : Option ((List Int)) := pop (.slice (.int .i64)) ds fun x0 ds => popN ds (some (x0))
def evermoreref4_Does_2.c (k : Nat) (ds : List Dat) : Option ((List Int)) := pop (.pair (.int .i64) (.pair (.int .i64) (.pair (.slice (.slice (.int .i64))) (.pair (.slice (.int .i64)) .unit)))) ds fun x0 ds => pop (.slice (.int .i64)) ds fun x1 ds => popN ds (evermoreref4_Does_2.f k x0 x1)
def evermoreref4_Does_2.g : Nat → List Dat → Option ((List Int))
 | 0, _ => none
 | k + 1, ds => evermoreref4_Does_2.c k ds
def evermoreref4_Does_2.env (k : Nat) : Nat → List SV → List Chunk → KT ((List Int)) → Option ((List Int)) := (envC 73 3 evermoreref3_After.ti evermoreref3_After.to (fun ds K => pop (.pair (.int .i64) (.pair (.int .i64) (.pair (.slice (.slice (.int .i64))) (.pair (.slice (.int .i64)) .unit)))) ds fun x0 ds => pop (.int .i64) ds fun x1 ds => pop (.slice (.int .i64)) ds fun x2 ds => popN ds ((evermoreref3_After.f k x0 x1 x2).bind fun r => K (evermoreref3_After.rs r))) env0)
def evermoreref4_Does_2.t7 : Tm := ⟨[(1, .p (.slice (.int .i64))), (2, .ptr 0 0), (5, .own 1), (6, .p (.int .i64))], [.box [.p (.int .i64), .p (.int .i64), .p (.slice (.slice (.int .i64))), .p (.slice (.int .i64))] 58, .own (.int .i64)]⟩
def evermoreref4_Does_2.c7 (k : Nat) (ds : List Dat) : Option ((List Int)) := pop (.slice (.int .i64)) ds fun x0 ds => pop (.int .i64) ds fun x1 ds => pop (.int .i64) ds fun x2 ds => pop (.int .i64) ds fun x3 ds => pop (.slice (.slice (.int .i64))) ds fun x4 ds => pop (.slice (.int .i64)) ds fun x5 ds => pop (.slice (.int .i64)) ds fun x6 ds => popN ds (evermoreref4_Does_2.l3 k x0 x1 x2 x3 x4 x5 x6)
def evermoreref4_Does_2.tbl : List (Nat × Tm × (Nat → List Dat → Option ((List Int)))) := [(7, evermoreref4_Does_2.t7, evermoreref4_Does_2.c7)]
noncomputable abbrev evermoreref4_Does_2.R (k : Nat) := run T (evermoreref4_Does_2.env k) Try.f72.ntmps (cutE 0 evermoreref4_Does_2.tbl k) (finE 0 evermoreref4_Does_2.to evermoreref4_Does_2.out) (fnRes Try.f72) [] 100000 true
theorem evermoreref4_Does_2.e7 (k : Nat) (x0 : (List Int)) (x1 : Int) (x2 : Int) (x3 : Int) (x4 : (List (List Int))) (x5 : (List Int)) (x6 : (List Int)) : evermoreref4_Does_2.l3 (k + 1) x0 x1 x2 x3 x4 x5 x6 = evermoreref4_Does_2.R k (start (stackOf 7 evermoreref4_Does_2.body)) (evermoreref4_Does_2.t7.fill [⟨(.slice (.int .i64)), x0⟩, ⟨(.int .i64), x1⟩, ⟨(.int .i64), x2⟩, ⟨(.int .i64), x3⟩, ⟨(.slice (.slice (.int .i64))), x4⟩, ⟨(.slice (.int .i64)), x5⟩, ⟨(.slice (.int .i64)), x6⟩]) := by kernel_rfl
theorem evermoreref4_Does_2.s7 : stackAt 7 evermoreref4_Does_2.body [] = some (stackOf 7 evermoreref4_Does_2.body) := by kernel_rfl
theorem evermoreref4_Does_2.h7 (k : Nat) (ds : List Dat) (r : (List Int)) (h : evermoreref4_Does_2.c7 k ds = some r) : ∃ k', k' < k ∧ ∃ s, stackAt 7 evermoreref4_Does_2.body [] = some s ∧ evermoreref4_Does_2.R k' (start s) (evermoreref4_Does_2.t7.fill ds) = some r := by
  unfold evermoreref4_Does_2.c7 at h
  obtain ⟨x0, d0, rfl, h0⟩ := pop_some h
  obtain ⟨x1, d1, rfl, h1⟩ := pop_some h0
  obtain ⟨x2, d2, rfl, h2⟩ := pop_some h1
  obtain ⟨x3, d3, rfl, h3⟩ := pop_some h2
  obtain ⟨x4, d4, rfl, h4⟩ := pop_some h3
  obtain ⟨x5, d5, rfl, h5⟩ := pop_some h4
  obtain ⟨x6, d6, rfl, h6⟩ := pop_some h5
  obtain ⟨rfl, g⟩ := popN_some h6
  cases k with
  | zero => cases (show none = some r from g)
  | succ k => exact ⟨k, Nat.lt_succ_self k, _, evermoreref4_Does_2.s7, (evermoreref4_Does_2.e7 k x0 x1 x2 x3 x4 x5 x6).symm.trans g⟩
theorem evermoreref4_Does_2.e (k : Nat) (x0 : (Int × (Int × ((List (List Int)) × ((List Int) × Unit))))) (x1 : (List Int)) : evermoreref4_Does_2.f k x0 x1 = evermoreref4_Does_2.R k ([.code evermoreref4_Does_2.body]) (evermoreref4_Does_2.ti.fill [⟨(.pair (.int .i64) (.pair (.int .i64) (.pair (.slice (.slice (.int .i64))) (.pair (.slice (.int .i64)) .unit)))), x0⟩, ⟨(.slice (.int .i64)), x1⟩]) := by kernel_rfl
theorem evermoreref4_Does_2.h (k : Nat) (ds : List Dat) (r : (List Int)) (h : evermoreref4_Does_2.g k ds = some r) : ∃ k', k' < k ∧ evermoreref4_Does_2.R k' ([.code evermoreref4_Does_2.body]) (evermoreref4_Does_2.ti.fill ds) = some r := by
  cases k with
  | zero => cases (show none = some r from h)
  | succ k =>
  replace h : evermoreref4_Does_2.c k ds = some r := h
  unfold evermoreref4_Does_2.c at h
  obtain ⟨x0, d0, rfl, h0⟩ := pop_some h
  obtain ⟨x1, d1, rfl, h1⟩ := pop_some h0
  obtain ⟨rfl, g⟩ := popN_some h1
  exact ⟨k, Nat.lt_succ_self k, (evermoreref4_Does_2.e k x0 x1).symm.trans g⟩
theorem evermoreref4_Does_2.o (ds : List Dat) (r : (List Int)) (h : evermoreref4_Does_2.out ds = some r) : ds = evermoreref4_Does_2.rs r := by
  unfold evermoreref4_Does_2.out at h
  obtain ⟨x0, d0, rfl, h0⟩ := pop_some h
  obtain ⟨rfl, g⟩ := popN_some h0
  cases g
  rfl
theorem evermoreref4_Does_2.fn : FnOk Try.prog 72 Try.f72 evermoreref4_Does_2.body Try.f72.ntmps 2 (fnRes Try.f72) :=
  fnOk_of (by kernel_rfl) (by kernel_rfl) (by kernel_rfl) (by kernel_rfl)
theorem evermoreref4_Does_2.con' : ∀ k ds r, evermoreref4_Does_2.g k ds = some r → Con Try.prog 72 2 evermoreref4_Does_2.ti evermoreref4_Does_2.to ds (evermoreref4_Does_2.rs r) :=
  fun_ok (T := T) T_ok mixed evermoreref4_Does_2.fn (env := evermoreref4_Does_2.env) (tbl := evermoreref4_Does_2.tbl) (gOut := evermoreref4_Does_2.out) (nin := 0) (cuts := []) (fuel := 100000) rfl (by kernel_rfl) (by kernel_rfl) (by kernel_rfl) (fun x hx => by
    simp only [evermoreref4_Does_2.tbl, List.mem_cons, List.not_mem_nil, or_false] at hx
    subst hx
    · exact evermoreref4_Does_2.h7
) evermoreref4_Does_2.o evermoreref4_Does_2.h (fun k _ => by unfold evermoreref4_Does_2.env; exact (envC_ok (fun ds K r h => by
    obtain ⟨x0, d0, rfl, h0⟩ := pop_some h
    obtain ⟨x1, d1, rfl, h1⟩ := pop_some h0
    obtain ⟨x2, d2, rfl, h2⟩ := pop_some h1
    obtain ⟨rfl, g⟩ := popN_some h2
    obtain ⟨r1, h1, h2⟩ := bind_some g
    exact ⟨_, h2, evermoreref3_After.con k _ h1⟩) env0_ok))
theorem evermoreref4_Does_2.con (k : Nat) {x0 : (Int × (Int × ((List (List Int)) × ((List Int) × Unit))))} {x1 : (List Int)} (r : (List Int)) (h : evermoreref4_Does_2.f k x0 x1 = some r) : Con Try.prog 72 2 evermoreref4_Does_2.ti evermoreref4_Does_2.to [⟨(.pair (.int .i64) (.pair (.int .i64) (.pair (.slice (.slice (.int .i64))) (.pair (.slice (.int .i64)) .unit)))), x0⟩, ⟨(.slice (.int .i64)), x1⟩] (evermoreref4_Does_2.rs r) :=
  evermoreref4_Does_2.con' (k + 1) _ r (by show evermoreref4_Does_2.c k _ = some r; unfold evermoreref4_Does_2.c; simp only [pop_self, popN]; exact h)
mutual
def evermorelaw_MonoidAlike.j5 : Nat → List (Int) → List (Int) → List (Int) → List (Int) → Bool → Int → Int → Int → Int → List (List (Int)) → List (Int) → Int → Int → List (List (Int)) → List (Int) → Option (Bool)
 | 0, _, _, _, _, _, _, _, _, _, _, _, _, _, _, _ => none
 | k + 1, u1, v2, before7, behind8, alike9, e10, no12, d3_0, d3_1, d3_2, d3_3, m11_0, m11_1, c2, c3 =>
  if no12 = 0 then
   (evermoreref1_May.f k d3_0 v2).bind fun r3 =>
    evermorelaw_MonoidAlike.j7 k u1 v2 before7 behind8 alike9 e10 r3 d3_0 d3_1 d3_2 d3_3 m11_0 m11_1 c2 c3
  else
   evermorelaw_MonoidAlike.j7 k u1 v2 before7 behind8 alike9 e10 no12 d3_0 d3_1 d3_2 d3_3 m11_0 m11_1 c2 c3
def evermorelaw_MonoidAlike.j7 : Nat → List (Int) → List (Int) → List (Int) → List (Int) → Bool → Int → Int → Int → Int → List (List (Int)) → List (Int) → Int → Int → List (List (Int)) → List (Int) → Option (Bool)
 | 0, _, _, _, _, _, _, _, _, _, _, _, _, _, _, _ => none
 | k + 1, u1, v2, before7, behind8, alike9, e10, no12, d3_0, d3_1, d3_2, d3_3, m11_0, m11_1, c2, c3 =>
  if no12 = 0 then
   if e10 = 0 then
    (evermoreref4_Does.f k (m11_0, m11_1, c2, c3, ()) u1).bind fun r4 =>
     (evermoreref4_Does_2.f k (m11_0, m11_1, c2, c3, ()) v2).bind fun r5 =>
      (evermoreref1_Words.f k r4 r5).bind fun r6 =>
       if r6 = true then
        if alike9 = true then
         some (decide (Go.IntKind.i64.wrap ((↑before7.length : Int) + (↑behind8.length : Int)) = 0))
        else
         some (false)
       else
        if alike9 = true then
         some (false)
        else
         evermorelaw_MonoidAlike.l19 k u1 v2 before7 behind8 0 d3_0 d3_1 d3_2 d3_3
   else
    some (false)
  else
   if e10 = no12 then
    if alike9 = true then
     some (false)
    else
     some (decide (Go.IntKind.i64.wrap ((↑before7.length : Int) + (↑behind8.length : Int)) = 0))
   else
    some (false)
def evermorelaw_MonoidAlike.l19 : Nat → List (Int) → List (Int) → List (Int) → List (Int) → Int → Int → Int → List (List (Int)) → List (Int) → Option (Bool)
 | 0, _, _, _, _, _, _, _, _, _ => none
 | k + 1, u1, v2, before7, behind8, i16, d3_0, d3_1, d3_2, d3_3 =>
  if i16 < Go.IntKind.i64.wrap ((↑before7.length : Int) + (↑behind8.length : Int)) then
   if i16 < (↑before7.length : Int) then
    if 0 ≤ i16 then
    if i16 < (↑before7.length : Int) then
     evermorelaw_MonoidAlike.j25 k u1 v2 before7 behind8 i16 (Go.Proofs.YtiiioobebeaafaaSx.rd (Int.ofNat 0) before7 i16) d3_0 d3_1 d3_2 d3_3
     else none
    else none
   else
    if 0 ≤ Go.IntKind.i64.wrap (i16 - (↑before7.length : Int)) then
    if Go.IntKind.i64.wrap (i16 - (↑before7.length : Int)) < (↑behind8.length : Int) then
     evermorelaw_MonoidAlike.j25 k u1 v2 before7 behind8 i16 (Go.Proofs.YtiiioobebeaafaaSx.rd (Int.ofNat 0) behind8 (Go.IntKind.i64.wrap (i16 - (↑before7.length : Int)))) d3_0 d3_1 d3_2 d3_3
     else none
    else none
  else
   (evermoreref3_After.f k (d3_0, d3_1, d3_2, d3_3, ()) d3_1 before7).bind fun r3 =>
    (evermoreref3_After.f k (d3_0, d3_1, d3_2, d3_3, ()) r3 u1).bind fun r4 =>
     (evermoreref3_After.f k (d3_0, d3_1, d3_2, d3_3, ()) r3 v2).bind fun r5 =>
      (evermoreref3_After.f k (d3_0, d3_1, d3_2, d3_3, ()) r4 behind8).bind fun r6 =>
       (evermoreref3_After.f k (d3_0, d3_1, d3_2, d3_3, ()) r5 behind8).bind fun r7 =>
        if 0 ≤ r6 then
        if r6 < (↑d3_3.length : Int) then
         if 0 ≤ r7 then
          if r7 < (↑d3_3.length : Int) then
           some (!decide (Go.Proofs.YtiiioobebeaafaaSx.rd (Int.ofNat 0) d3_3 r6 = Go.Proofs.YtiiioobebeaafaaSx.rd (Int.ofNat 0) d3_3 r7))
           else none
          else none
         else none
        else none
def evermorelaw_MonoidAlike.j25 : Nat → List (Int) → List (Int) → List (Int) → List (Int) → Int → Int → Int → Int → List (List (Int)) → List (Int) → Option (Bool)
 | 0, _, _, _, _, _, _, _, _, _, _ => none
 | k + 1, u1, v2, before7, behind8, i16, k17, d3_0, d3_1, d3_2, d3_3 =>
  if k17 < 0 then
   some (false)
  else
   if d3_0 ≤ k17 then
    some (false)
   else
    evermorelaw_MonoidAlike.l19 k u1 v2 before7 behind8 (Go.IntKind.i64.wrap (i16 + 1)) d3_0 d3_1 d3_2 d3_3
end
def evermorelaw_MonoidAlike.f (k : Nat) (d0 : (Int × (Int × (List (List (Int)) × (List (Int) × Unit))))) (u1 : List (Int)) (v2 : List (Int)) : Option (Bool) :=
 (monoid_Alike.f k (d0.fst, d0.snd.fst, d0.snd.snd.fst, d0.snd.snd.snd.fst, ()) u1 v2).bind fun r1 =>
  (evermorelaw_small.f k (d0.fst, d0.snd.fst, d0.snd.snd.fst, d0.snd.snd.snd.fst, ())).bind fun r2 =>
   if r2.snd.snd.fst = 0 then
    (evermoreref1_May.f k d0.fst u1).bind fun r4 =>
     evermorelaw_MonoidAlike.j5 k u1 v2 r1.fst r1.snd.fst r1.snd.snd.fst r1.snd.snd.snd r4 d0.fst d0.snd.fst d0.snd.snd.fst d0.snd.snd.snd.fst r2.fst r2.snd.fst r2.snd.snd.snd.fst r2.snd.snd.snd.snd
   else
    evermorelaw_MonoidAlike.j5 k u1 v2 r1.fst r1.snd.fst r1.snd.snd.fst r1.snd.snd.snd r2.snd.snd.fst d0.fst d0.snd.fst d0.snd.snd.fst d0.snd.snd.snd.fst r2.fst r2.snd.fst r2.snd.snd.snd.fst r2.snd.snd.snd.snd

noncomputable def evermorelaw_MonoidAlike.body : Code := fnBody Try.f14
def evermorelaw_MonoidAlike.ti : Tm := ⟨[(0, .p (.pair (.int .i64) (.pair (.int .i64) (.pair (.slice (.slice (.int .i64))) (.pair (.slice (.int .i64)) .unit))))), (1, .p (.slice (.int .i64))), (2, .p (.slice (.int .i64)))], []⟩
def evermorelaw_MonoidAlike.to : Tm := ⟨[(0, .p .bool)], []⟩
def evermorelaw_MonoidAlike.rs (r : Bool) : List Dat := [⟨.bool, r⟩]
def evermorelaw_MonoidAlike.out (ds : List Dat) : Option (Bool) := pop .bool ds fun x0 ds => popN ds (some (x0))
def evermorelaw_MonoidAlike.c (k : Nat) (ds : List Dat) : Option (Bool) := pop (.pair (.int .i64) (.pair (.int .i64) (.pair (.slice (.slice (.int .i64))) (.pair (.slice (.int .i64)) .unit)))) ds fun x0 ds => pop (.slice (.int .i64)) ds fun x1 ds => pop (.slice (.int .i64)) ds fun x2 ds => popN ds (evermorelaw_MonoidAlike.f k x0 x1 x2)
def evermorelaw_MonoidAlike.g : Nat → List Dat → Option (Bool)
 | 0, _ => none
 | k + 1, ds => evermorelaw_MonoidAlike.c k ds
def evermorelaw_MonoidAlike.env (k : Nat) : Nat → List SV → List Chunk → KT (Bool) → Option (Bool) := (envC 17 2 evermoreref1_May.ti evermoreref1_May.to (fun ds K => pop (.int .i64) ds fun x0 ds => pop (.slice (.int .i64)) ds fun x1 ds => popN ds ((evermoreref1_May.f k x0 x1).bind fun r => K (evermoreref1_May.rs r))) (envC 72 2 evermoreref4_Does.ti evermoreref4_Does.to (fun ds K => pop (.pair (.int .i64) (.pair (.int .i64) (.pair (.slice (.slice (.int .i64))) (.pair (.slice (.int .i64)) .unit)))) ds fun x0 ds => pop (.slice (.int .i64)) ds fun x1 ds => popN ds ((evermoreref4_Does.f k x0 x1).bind fun r => K (evermoreref4_Does.rs r))) (envC 72 2 evermoreref4_Does_2.ti evermoreref4_Does_2.to (fun ds K => pop (.pair (.int .i64) (.pair (.int .i64) (.pair (.slice (.slice (.int .i64))) (.pair (.slice (.int .i64)) .unit)))) ds fun x0 ds => pop (.slice (.int .i64)) ds fun x1 ds => popN ds ((evermoreref4_Does_2.f k x0 x1).bind fun r => K (evermoreref4_Does_2.rs r))) (envC 34 2 evermoreref1_Words.ti evermoreref1_Words.to (fun ds K => pop (.slice (.int .i64)) ds fun x0 ds => pop (.slice (.int .i64)) ds fun x1 ds => popN ds ((evermoreref1_Words.f k x0 x1).bind fun r => K (evermoreref1_Words.rs r))) (envC 73 3 evermoreref3_After.ti evermoreref3_After.to (fun ds K => pop (.pair (.int .i64) (.pair (.int .i64) (.pair (.slice (.slice (.int .i64))) (.pair (.slice (.int .i64)) .unit)))) ds fun x0 ds => pop (.int .i64) ds fun x1 ds => pop (.slice (.int .i64)) ds fun x2 ds => popN ds ((evermoreref3_After.f k x0 x1 x2).bind fun r => K (evermoreref3_After.rs r))) (envC 71 3 monoid_Alike.ti monoid_Alike.to (fun ds K => pop (.pair (.int .i64) (.pair (.int .i64) (.pair (.slice (.slice (.int .i64))) (.pair (.slice (.int .i64)) .unit)))) ds fun x0 ds => pop (.slice (.int .i64)) ds fun x1 ds => pop (.slice (.int .i64)) ds fun x2 ds => popN ds ((monoid_Alike.f k x0 x1 x2).bind fun r => K (monoid_Alike.rs r))) (envC 63 1 evermorelaw_small.ti evermorelaw_small.to (fun ds K => pop (.pair (.int .i64) (.pair (.int .i64) (.pair (.slice (.slice (.int .i64))) (.pair (.slice (.int .i64)) .unit)))) ds fun x0 ds => popN ds ((evermorelaw_small.f k x0).bind fun r => K (evermorelaw_small.rs r))) env0)))))))
def evermorelaw_MonoidAlike.t10 : Tm := ⟨[(1, .p (.slice (.int .i64))), (2, .p (.slice (.int .i64))), (3, .ptr 0 0), (7, .p (.slice (.int .i64))), (8, .p (.slice (.int .i64))), (9, .p .bool), (10, .p (.int .i64)), (11, .ptr 1 0), (12, .p (.int .i64))], [.box [.p (.int .i64), .p (.int .i64), .p (.slice (.slice (.int .i64))), .p (.slice (.int .i64))] 58, .box [.p (.int .i64), .p (.int .i64), .own 2, .own 3] 58, .own (.slice (.int .i64)), .own (.int .i64)]⟩
def evermorelaw_MonoidAlike.c10 (k : Nat) (ds : List Dat) : Option (Bool) := pop (.slice (.int .i64)) ds fun x0 ds => pop (.slice (.int .i64)) ds fun x1 ds => pop (.slice (.int .i64)) ds fun x2 ds => pop (.slice (.int .i64)) ds fun x3 ds => pop .bool ds fun x4 ds => pop (.int .i64) ds fun x5 ds => pop (.int .i64) ds fun x6 ds => pop (.int .i64) ds fun x7 ds => pop (.int .i64) ds fun x8 ds => pop (.slice (.slice (.int .i64))) ds fun x9 ds => pop (.slice (.int .i64)) ds fun x10 ds => pop (.int .i64) ds fun x11 ds => pop (.int .i64) ds fun x12 ds => pop (.slice (.slice (.int .i64))) ds fun x13 ds => pop (.slice (.int .i64)) ds fun x14 ds => popN ds (evermorelaw_MonoidAlike.j5 k x0 x1 x2 x3 x4 x5 x6 x7 x8 x9 x10 x11 x12 x13 x14)
def evermorelaw_MonoidAlike.t14 : Tm := ⟨[(1, .p (.slice (.int .i64))), (2, .p (.slice (.int .i64))), (3, .ptr 0 0), (7, .p (.slice (.int .i64))), (8, .p (.slice (.int .i64))), (9, .p .bool), (10, .p (.int .i64)), (11, .ptr 1 0), (12, .p (.int .i64))], [.box [.p (.int .i64), .p (.int .i64), .p (.slice (.slice (.int .i64))), .p (.slice (.int .i64))] 58, .box [.p (.int .i64), .p (.int .i64), .own 2, .own 3] 58, .own (.slice (.int .i64)), .own (.int .i64)]⟩
def evermorelaw_MonoidAlike.c14 (k : Nat) (ds : List Dat) : Option (Bool) := pop (.slice (.int .i64)) ds fun x0 ds => pop (.slice (.int .i64)) ds fun x1 ds => pop (.slice (.int .i64)) ds fun x2 ds => pop (.slice (.int .i64)) ds fun x3 ds => pop .bool ds fun x4 ds => pop (.int .i64) ds fun x5 ds => pop (.int .i64) ds fun x6 ds => pop (.int .i64) ds fun x7 ds => pop (.int .i64) ds fun x8 ds => pop (.slice (.slice (.int .i64))) ds fun x9 ds => pop (.slice (.int .i64)) ds fun x10 ds => pop (.int .i64) ds fun x11 ds => pop (.int .i64) ds fun x12 ds => pop (.slice (.slice (.int .i64))) ds fun x13 ds => pop (.slice (.int .i64)) ds fun x14 ds => popN ds (evermorelaw_MonoidAlike.j7 k x0 x1 x2 x3 x4 x5 x6 x7 x8 x9 x10 x11 x12 x13 x14)
def evermorelaw_MonoidAlike.t39 : Tm := ⟨[(1, .p (.slice (.int .i64))), (2, .p (.slice (.int .i64))), (3, .ptr 0 0), (7, .p (.slice (.int .i64))), (8, .p (.slice (.int .i64))), (16, .p (.int .i64))], [.box [.p (.int .i64), .p (.int .i64), .p (.slice (.slice (.int .i64))), .p (.slice (.int .i64))] 58]⟩
def evermorelaw_MonoidAlike.c39 (k : Nat) (ds : List Dat) : Option (Bool) := pop (.slice (.int .i64)) ds fun x0 ds => pop (.slice (.int .i64)) ds fun x1 ds => pop (.slice (.int .i64)) ds fun x2 ds => pop (.slice (.int .i64)) ds fun x3 ds => pop (.int .i64) ds fun x4 ds => pop (.int .i64) ds fun x5 ds => pop (.int .i64) ds fun x6 ds => pop (.slice (.slice (.int .i64))) ds fun x7 ds => pop (.slice (.int .i64)) ds fun x8 ds => popN ds (evermorelaw_MonoidAlike.l19 k x0 x1 x2 x3 x4 x5 x6 x7 x8)
def evermorelaw_MonoidAlike.t50 : Tm := ⟨[(1, .p (.slice (.int .i64))), (2, .p (.slice (.int .i64))), (3, .ptr 0 0), (7, .p (.slice (.int .i64))), (8, .p (.slice (.int .i64))), (16, .p (.int .i64)), (17, .p (.int .i64))], [.box [.p (.int .i64), .p (.int .i64), .p (.slice (.slice (.int .i64))), .p (.slice (.int .i64))] 58]⟩
def evermorelaw_MonoidAlike.c50 (k : Nat) (ds : List Dat) : Option (Bool) := pop (.slice (.int .i64)) ds fun x0 ds => pop (.slice (.int .i64)) ds fun x1 ds => pop (.slice (.int .i64)) ds fun x2 ds => pop (.slice (.int .i64)) ds fun x3 ds => pop (.int .i64) ds fun x4 ds => pop (.int .i64) ds fun x5 ds => pop (.int .i64) ds fun x6 ds => pop (.int .i64) ds fun x7 ds => pop (.slice (.slice (.int .i64))) ds fun x8 ds => pop (.slice (.int .i64)) ds fun x9 ds => popN ds (evermorelaw_MonoidAlike.j25 k x0 x1 x2 x3 x4 x5 x6 x7 x8 x9)
def evermorelaw_MonoidAlike.tbl : List (Nat × Tm × (Nat → List Dat → Option (Bool))) := [(10, evermorelaw_MonoidAlike.t10, evermorelaw_MonoidAlike.c10), (14, evermorelaw_MonoidAlike.t14, evermorelaw_MonoidAlike.c14), (39, evermorelaw_MonoidAlike.t39, evermorelaw_MonoidAlike.c39), (50, evermorelaw_MonoidAlike.t50, evermorelaw_MonoidAlike.c50)]
noncomputable abbrev evermorelaw_MonoidAlike.R (k : Nat) := run T (evermorelaw_MonoidAlike.env k) Try.f14.ntmps (cutE 0 evermorelaw_MonoidAlike.tbl k) (finE 0 evermorelaw_MonoidAlike.to evermorelaw_MonoidAlike.out) (fnRes Try.f14) [25, 7, 5] 100000 true
theorem evermorelaw_MonoidAlike.e10 (k : Nat) (x0 : (List Int)) (x1 : (List Int)) (x2 : (List Int)) (x3 : (List Int)) (x4 : Bool) (x5 : Int) (x6 : Int) (x7 : Int) (x8 : Int) (x9 : (List (List Int))) (x10 : (List Int)) (x11 : Int) (x12 : Int) (x13 : (List (List Int))) (x14 : (List Int)) : evermorelaw_MonoidAlike.j5 (k + 1) x0 x1 x2 x3 x4 x5 x6 x7 x8 x9 x10 x11 x12 x13 x14 = evermorelaw_MonoidAlike.R k (start (stackOf 10 evermorelaw_MonoidAlike.body)) (evermorelaw_MonoidAlike.t10.fill [⟨(.slice (.int .i64)), x0⟩, ⟨(.slice (.int .i64)), x1⟩, ⟨(.slice (.int .i64)), x2⟩, ⟨(.slice (.int .i64)), x3⟩, ⟨.bool, x4⟩, ⟨(.int .i64), x5⟩, ⟨(.int .i64), x6⟩, ⟨(.int .i64), x7⟩, ⟨(.int .i64), x8⟩, ⟨(.slice (.slice (.int .i64))), x9⟩, ⟨(.slice (.int .i64)), x10⟩, ⟨(.int .i64), x11⟩, ⟨(.int .i64), x12⟩, ⟨(.slice (.slice (.int .i64))), x13⟩, ⟨(.slice (.int .i64)), x14⟩]) := by kernel_rfl
theorem evermorelaw_MonoidAlike.s10 : stackAt 10 evermorelaw_MonoidAlike.body [] = some (stackOf 10 evermorelaw_MonoidAlike.body) := by kernel_rfl
theorem evermorelaw_MonoidAlike.h10 (k : Nat) (ds : List Dat) (r : Bool) (h : evermorelaw_MonoidAlike.c10 k ds = some r) : ∃ k', k' < k ∧ ∃ s, stackAt 10 evermorelaw_MonoidAlike.body [] = some s ∧ evermorelaw_MonoidAlike.R k' (start s) (evermorelaw_MonoidAlike.t10.fill ds) = some r := by
  unfold evermorelaw_MonoidAlike.c10 at h
  obtain ⟨x0, d0, rfl, h0⟩ := pop_some h
  obtain ⟨x1, d1, rfl, h1⟩ := pop_some h0
  obtain ⟨x2, d2, rfl, h2⟩ := pop_some h1
  obtain ⟨x3, d3, rfl, h3⟩ := pop_some h2
  obtain ⟨x4, d4, rfl, h4⟩ := pop_some h3
  obtain ⟨x5, d5, rfl, h5⟩ := pop_some h4
  obtain ⟨x6, d6, rfl, h6⟩ := pop_some h5
  obtain ⟨x7, d7, rfl, h7⟩ := pop_some h6
  obtain ⟨x8, d8, rfl, h8⟩ := pop_some h7
  obtain ⟨x9, d9, rfl, h9⟩ := pop_some h8
  obtain ⟨x10, d10, rfl, h10⟩ := pop_some h9
  obtain ⟨x11, d11, rfl, h11⟩ := pop_some h10
  obtain ⟨x12, d12, rfl, h12⟩ := pop_some h11
  obtain ⟨x13, d13, rfl, h13⟩ := pop_some h12
  obtain ⟨x14, d14, rfl, h14⟩ := pop_some h13
  obtain ⟨rfl, g⟩ := popN_some h14
  cases k with
  | zero => cases (show none = some r from g)
  | succ k => exact ⟨k, Nat.lt_succ_self k, _, evermorelaw_MonoidAlike.s10, (evermorelaw_MonoidAlike.e10 k x0 x1 x2 x3 x4 x5 x6 x7 x8 x9 x10 x11 x12 x13 x14).symm.trans g⟩
theorem evermorelaw_MonoidAlike.e14 (k : Nat) (x0 : (List Int)) (x1 : (List Int)) (x2 : (List Int)) (x3 : (List Int)) (x4 : Bool) (x5 : Int) (x6 : Int) (x7 : Int) (x8 : Int) (x9 : (List (List Int))) (x10 : (List Int)) (x11 : Int) (x12 : Int) (x13 : (List (List Int))) (x14 : (List Int)) : evermorelaw_MonoidAlike.j7 (k + 1) x0 x1 x2 x3 x4 x5 x6 x7 x8 x9 x10 x11 x12 x13 x14 = evermorelaw_MonoidAlike.R k (start (stackOf 14 evermorelaw_MonoidAlike.body)) (evermorelaw_MonoidAlike.t14.fill [⟨(.slice (.int .i64)), x0⟩, ⟨(.slice (.int .i64)), x1⟩, ⟨(.slice (.int .i64)), x2⟩, ⟨(.slice (.int .i64)), x3⟩, ⟨.bool, x4⟩, ⟨(.int .i64), x5⟩, ⟨(.int .i64), x6⟩, ⟨(.int .i64), x7⟩, ⟨(.int .i64), x8⟩, ⟨(.slice (.slice (.int .i64))), x9⟩, ⟨(.slice (.int .i64)), x10⟩, ⟨(.int .i64), x11⟩, ⟨(.int .i64), x12⟩, ⟨(.slice (.slice (.int .i64))), x13⟩, ⟨(.slice (.int .i64)), x14⟩]) := by kernel_rfl
theorem evermorelaw_MonoidAlike.s14 : stackAt 14 evermorelaw_MonoidAlike.body [] = some (stackOf 14 evermorelaw_MonoidAlike.body) := by kernel_rfl
theorem evermorelaw_MonoidAlike.h14 (k : Nat) (ds : List Dat) (r : Bool) (h : evermorelaw_MonoidAlike.c14 k ds = some r) : ∃ k', k' < k ∧ ∃ s, stackAt 14 evermorelaw_MonoidAlike.body [] = some s ∧ evermorelaw_MonoidAlike.R k' (start s) (evermorelaw_MonoidAlike.t14.fill ds) = some r := by
  unfold evermorelaw_MonoidAlike.c14 at h
  obtain ⟨x0, d0, rfl, h0⟩ := pop_some h
  obtain ⟨x1, d1, rfl, h1⟩ := pop_some h0
  obtain ⟨x2, d2, rfl, h2⟩ := pop_some h1
  obtain ⟨x3, d3, rfl, h3⟩ := pop_some h2
  obtain ⟨x4, d4, rfl, h4⟩ := pop_some h3
  obtain ⟨x5, d5, rfl, h5⟩ := pop_some h4
  obtain ⟨x6, d6, rfl, h6⟩ := pop_some h5
  obtain ⟨x7, d7, rfl, h7⟩ := pop_some h6
  obtain ⟨x8, d8, rfl, h8⟩ := pop_some h7
  obtain ⟨x9, d9, rfl, h9⟩ := pop_some h8
  obtain ⟨x10, d10, rfl, h10⟩ := pop_some h9
  obtain ⟨x11, d11, rfl, h11⟩ := pop_some h10
  obtain ⟨x12, d12, rfl, h12⟩ := pop_some h11
  obtain ⟨x13, d13, rfl, h13⟩ := pop_some h12
  obtain ⟨x14, d14, rfl, h14⟩ := pop_some h13
  obtain ⟨rfl, g⟩ := popN_some h14
  cases k with
  | zero => cases (show none = some r from g)
  | succ k => exact ⟨k, Nat.lt_succ_self k, _, evermorelaw_MonoidAlike.s14, (evermorelaw_MonoidAlike.e14 k x0 x1 x2 x3 x4 x5 x6 x7 x8 x9 x10 x11 x12 x13 x14).symm.trans g⟩
theorem evermorelaw_MonoidAlike.e39 (k : Nat) (x0 : (List Int)) (x1 : (List Int)) (x2 : (List Int)) (x3 : (List Int)) (x4 : Int) (x5 : Int) (x6 : Int) (x7 : (List (List Int))) (x8 : (List Int)) : evermorelaw_MonoidAlike.l19 (k + 1) x0 x1 x2 x3 x4 x5 x6 x7 x8 = evermorelaw_MonoidAlike.R k (start (stackOf 39 evermorelaw_MonoidAlike.body)) (evermorelaw_MonoidAlike.t39.fill [⟨(.slice (.int .i64)), x0⟩, ⟨(.slice (.int .i64)), x1⟩, ⟨(.slice (.int .i64)), x2⟩, ⟨(.slice (.int .i64)), x3⟩, ⟨(.int .i64), x4⟩, ⟨(.int .i64), x5⟩, ⟨(.int .i64), x6⟩, ⟨(.slice (.slice (.int .i64))), x7⟩, ⟨(.slice (.int .i64)), x8⟩]) := by kernel_rfl
theorem evermorelaw_MonoidAlike.s39 : stackAt 39 evermorelaw_MonoidAlike.body [] = some (stackOf 39 evermorelaw_MonoidAlike.body) := by kernel_rfl
theorem evermorelaw_MonoidAlike.h39 (k : Nat) (ds : List Dat) (r : Bool) (h : evermorelaw_MonoidAlike.c39 k ds = some r) : ∃ k', k' < k ∧ ∃ s, stackAt 39 evermorelaw_MonoidAlike.body [] = some s ∧ evermorelaw_MonoidAlike.R k' (start s) (evermorelaw_MonoidAlike.t39.fill ds) = some r := by
  unfold evermorelaw_MonoidAlike.c39 at h
  obtain ⟨x0, d0, rfl, h0⟩ := pop_some h
  obtain ⟨x1, d1, rfl, h1⟩ := pop_some h0
  obtain ⟨x2, d2, rfl, h2⟩ := pop_some h1
  obtain ⟨x3, d3, rfl, h3⟩ := pop_some h2
  obtain ⟨x4, d4, rfl, h4⟩ := pop_some h3
  obtain ⟨x5, d5, rfl, h5⟩ := pop_some h4
  obtain ⟨x6, d6, rfl, h6⟩ := pop_some h5
  obtain ⟨x7, d7, rfl, h7⟩ := pop_some h6
  obtain ⟨x8, d8, rfl, h8⟩ := pop_some h7
  obtain ⟨rfl, g⟩ := popN_some h8
  cases k with
  | zero => cases (show none = some r from g)
  | succ k => exact ⟨k, Nat.lt_succ_self k, _, evermorelaw_MonoidAlike.s39, (evermorelaw_MonoidAlike.e39 k x0 x1 x2 x3 x4 x5 x6 x7 x8).symm.trans g⟩
theorem evermorelaw_MonoidAlike.e50 (k : Nat) (x0 : (List Int)) (x1 : (List Int)) (x2 : (List Int)) (x3 : (List Int)) (x4 : Int) (x5 : Int) (x6 : Int) (x7 : Int) (x8 : (List (List Int))) (x9 : (List Int)) : evermorelaw_MonoidAlike.j25 (k + 1) x0 x1 x2 x3 x4 x5 x6 x7 x8 x9 = evermorelaw_MonoidAlike.R k (start (stackOf 50 evermorelaw_MonoidAlike.body)) (evermorelaw_MonoidAlike.t50.fill [⟨(.slice (.int .i64)), x0⟩, ⟨(.slice (.int .i64)), x1⟩, ⟨(.slice (.int .i64)), x2⟩, ⟨(.slice (.int .i64)), x3⟩, ⟨(.int .i64), x4⟩, ⟨(.int .i64), x5⟩, ⟨(.int .i64), x6⟩, ⟨(.int .i64), x7⟩, ⟨(.slice (.slice (.int .i64))), x8⟩, ⟨(.slice (.int .i64)), x9⟩]) := by kernel_rfl
theorem evermorelaw_MonoidAlike.s50 : stackAt 50 evermorelaw_MonoidAlike.body [] = some (stackOf 50 evermorelaw_MonoidAlike.body) := by kernel_rfl
theorem evermorelaw_MonoidAlike.h50 (k : Nat) (ds : List Dat) (r : Bool) (h : evermorelaw_MonoidAlike.c50 k ds = some r) : ∃ k', k' < k ∧ ∃ s, stackAt 50 evermorelaw_MonoidAlike.body [] = some s ∧ evermorelaw_MonoidAlike.R k' (start s) (evermorelaw_MonoidAlike.t50.fill ds) = some r := by
  unfold evermorelaw_MonoidAlike.c50 at h
  obtain ⟨x0, d0, rfl, h0⟩ := pop_some h
  obtain ⟨x1, d1, rfl, h1⟩ := pop_some h0
  obtain ⟨x2, d2, rfl, h2⟩ := pop_some h1
  obtain ⟨x3, d3, rfl, h3⟩ := pop_some h2
  obtain ⟨x4, d4, rfl, h4⟩ := pop_some h3
  obtain ⟨x5, d5, rfl, h5⟩ := pop_some h4
  obtain ⟨x6, d6, rfl, h6⟩ := pop_some h5
  obtain ⟨x7, d7, rfl, h7⟩ := pop_some h6
  obtain ⟨x8, d8, rfl, h8⟩ := pop_some h7
  obtain ⟨x9, d9, rfl, h9⟩ := pop_some h8
  obtain ⟨rfl, g⟩ := popN_some h9
  cases k with
  | zero => cases (show none = some r from g)
  | succ k => exact ⟨k, Nat.lt_succ_self k, _, evermorelaw_MonoidAlike.s50, (evermorelaw_MonoidAlike.e50 k x0 x1 x2 x3 x4 x5 x6 x7 x8 x9).symm.trans g⟩
theorem evermorelaw_MonoidAlike.e (k : Nat) (x0 : (Int × (Int × ((List (List Int)) × ((List Int) × Unit))))) (x1 : (List Int)) (x2 : (List Int)) : evermorelaw_MonoidAlike.f k x0 x1 x2 = evermorelaw_MonoidAlike.R k ([.code evermorelaw_MonoidAlike.body]) (evermorelaw_MonoidAlike.ti.fill [⟨(.pair (.int .i64) (.pair (.int .i64) (.pair (.slice (.slice (.int .i64))) (.pair (.slice (.int .i64)) .unit)))), x0⟩, ⟨(.slice (.int .i64)), x1⟩, ⟨(.slice (.int .i64)), x2⟩]) := by kernel_rfl
theorem evermorelaw_MonoidAlike.h (k : Nat) (ds : List Dat) (r : Bool) (h : evermorelaw_MonoidAlike.g k ds = some r) : ∃ k', k' < k ∧ evermorelaw_MonoidAlike.R k' ([.code evermorelaw_MonoidAlike.body]) (evermorelaw_MonoidAlike.ti.fill ds) = some r := by
  cases k with
  | zero => cases (show none = some r from h)
  | succ k =>
  replace h : evermorelaw_MonoidAlike.c k ds = some r := h
  unfold evermorelaw_MonoidAlike.c at h
  obtain ⟨x0, d0, rfl, h0⟩ := pop_some h
  obtain ⟨x1, d1, rfl, h1⟩ := pop_some h0
  obtain ⟨x2, d2, rfl, h2⟩ := pop_some h1
  obtain ⟨rfl, g⟩ := popN_some h2
  exact ⟨k, Nat.lt_succ_self k, (evermorelaw_MonoidAlike.e k x0 x1 x2).symm.trans g⟩
theorem evermorelaw_MonoidAlike.o (ds : List Dat) (r : Bool) (h : evermorelaw_MonoidAlike.out ds = some r) : ds = evermorelaw_MonoidAlike.rs r := by
  unfold evermorelaw_MonoidAlike.out at h
  obtain ⟨x0, d0, rfl, h0⟩ := pop_some h
  obtain ⟨rfl, g⟩ := popN_some h0
  cases g
  rfl
theorem evermorelaw_MonoidAlike.fn : FnOk Try.prog 14 Try.f14 evermorelaw_MonoidAlike.body Try.f14.ntmps 3 (fnRes Try.f14) :=
  fnOk_of (by kernel_rfl) (by kernel_rfl) (by kernel_rfl) (by kernel_rfl)
theorem evermorelaw_MonoidAlike.con' : ∀ k ds r, evermorelaw_MonoidAlike.g k ds = some r → Con Try.prog 14 3 evermorelaw_MonoidAlike.ti evermorelaw_MonoidAlike.to ds (evermorelaw_MonoidAlike.rs r) :=
  fun_ok (T := T) T_ok mixed evermorelaw_MonoidAlike.fn (env := evermorelaw_MonoidAlike.env) (tbl := evermorelaw_MonoidAlike.tbl) (gOut := evermorelaw_MonoidAlike.out) (nin := 0) (cuts := [25, 7, 5]) (fuel := 100000) rfl (by kernel_rfl) (by kernel_rfl) (by kernel_rfl) (fun x hx => by
    simp only [evermorelaw_MonoidAlike.tbl, List.mem_cons, List.not_mem_nil, or_false] at hx
    rcases hx with rfl | rfl | rfl | rfl
    · exact evermorelaw_MonoidAlike.h10
    · exact evermorelaw_MonoidAlike.h14
    · exact evermorelaw_MonoidAlike.h39
    · exact evermorelaw_MonoidAlike.h50
) evermorelaw_MonoidAlike.o evermorelaw_MonoidAlike.h (fun k _ => by unfold evermorelaw_MonoidAlike.env; exact (envC_ok (fun ds K r h => by
    obtain ⟨x0, d0, rfl, h0⟩ := pop_some h
    obtain ⟨x1, d1, rfl, h1⟩ := pop_some h0
    obtain ⟨rfl, g⟩ := popN_some h1
    obtain ⟨r1, h1, h2⟩ := bind_some g
    exact ⟨_, h2, evermoreref1_May.con k _ h1⟩) (envC_ok (fun ds K r h => by
    obtain ⟨x0, d0, rfl, h0⟩ := pop_some h
    obtain ⟨x1, d1, rfl, h1⟩ := pop_some h0
    obtain ⟨rfl, g⟩ := popN_some h1
    obtain ⟨r1, h1, h2⟩ := bind_some g
    exact ⟨_, h2, evermoreref4_Does.con k _ h1⟩) (envC_ok (fun ds K r h => by
    obtain ⟨x0, d0, rfl, h0⟩ := pop_some h
    obtain ⟨x1, d1, rfl, h1⟩ := pop_some h0
    obtain ⟨rfl, g⟩ := popN_some h1
    obtain ⟨r1, h1, h2⟩ := bind_some g
    exact ⟨_, h2, evermoreref4_Does_2.con k _ h1⟩) (envC_ok (fun ds K r h => by
    obtain ⟨x0, d0, rfl, h0⟩ := pop_some h
    obtain ⟨x1, d1, rfl, h1⟩ := pop_some h0
    obtain ⟨rfl, g⟩ := popN_some h1
    obtain ⟨r1, h1, h2⟩ := bind_some g
    exact ⟨_, h2, evermoreref1_Words.con k _ h1⟩) (envC_ok (fun ds K r h => by
    obtain ⟨x0, d0, rfl, h0⟩ := pop_some h
    obtain ⟨x1, d1, rfl, h1⟩ := pop_some h0
    obtain ⟨x2, d2, rfl, h2⟩ := pop_some h1
    obtain ⟨rfl, g⟩ := popN_some h2
    obtain ⟨r1, h1, h2⟩ := bind_some g
    exact ⟨_, h2, evermoreref3_After.con k _ h1⟩) (envC_ok (fun ds K r h => by
    obtain ⟨x0, d0, rfl, h0⟩ := pop_some h
    obtain ⟨x1, d1, rfl, h1⟩ := pop_some h0
    obtain ⟨x2, d2, rfl, h2⟩ := pop_some h1
    obtain ⟨rfl, g⟩ := popN_some h2
    obtain ⟨r1, h1, h2⟩ := bind_some g
    exact ⟨_, h2, monoid_Alike.con k _ h1⟩) (envC_ok (fun ds K r h => by
    obtain ⟨x0, d0, rfl, h0⟩ := pop_some h
    obtain ⟨rfl, g⟩ := popN_some h0
    obtain ⟨r1, h1, h2⟩ := bind_some g
    exact ⟨_, h2, evermorelaw_small.con k _ h1⟩) env0_ok))))))))
theorem evermorelaw_MonoidAlike.con (k : Nat) {x0 : (Int × (Int × ((List (List Int)) × ((List Int) × Unit))))} {x1 : (List Int)} {x2 : (List Int)} (r : Bool) (h : evermorelaw_MonoidAlike.f k x0 x1 x2 = some r) : Con Try.prog 14 3 evermorelaw_MonoidAlike.ti evermorelaw_MonoidAlike.to [⟨(.pair (.int .i64) (.pair (.int .i64) (.pair (.slice (.slice (.int .i64))) (.pair (.slice (.int .i64)) .unit)))), x0⟩, ⟨(.slice (.int .i64)), x1⟩, ⟨(.slice (.int .i64)), x2⟩] (evermorelaw_MonoidAlike.rs r) :=
  evermorelaw_MonoidAlike.con' (k + 1) _ r (by show evermorelaw_MonoidAlike.c k _ = some r; unfold evermorelaw_MonoidAlike.c; simp only [pop_self, popN]; exact h)
/-- The one pure statement of the law, over whatever arguments can be read. -/
def evermorelaw_MonoidAlike.PureH : Prop := ∀ (x0 : (Int × (Int × ((List (List Int)) × ((List Int) × Unit))))) (x1 : (List Int)) (x2 : (List Int)), Ty.okv (.pair (.int .i64) (.pair (.int .i64) (.pair (.slice (.slice (.int .i64))) (.pair (.slice (.int .i64)) .unit)))) x0 → Ty.okv (.slice (.int .i64)) x1 → Ty.okv (.slice (.int .i64)) x2 → ∃ k, evermorelaw_MonoidAlike.f k x0 x1 x2 = some true
end Go.Proofs.YtiiioobebeaafaaSx
