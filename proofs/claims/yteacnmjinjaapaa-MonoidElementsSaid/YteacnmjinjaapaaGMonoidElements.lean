import Derived.Test.YteacnmjinjaapaaGaMonoidElements
set_option linter.unusedVariables false
set_option maxRecDepth 100000
namespace Go.Proofs.YteacnmjinjaapaaSx
open Go Go.Proofs
mutual
def evermoreref3_Check.l9 : Nat → Int → Int → Int → Int → List (List (Int)) → List (Int) → Option (Int)
 | 0, _, _, _, _, _, _ => none
 | k + 1, n3, i4, d1_0, d1_1, d1_2, d1_3 =>
  if i4 < n3 then
   if 0 ≤ i4 then
   if i4 < (↑d1_2.length : Int) then
    if (↑(Go.Proofs.YteacnmjinjaapaaSx.rd [] d1_2 i4).length : Int) = d1_0 then
      evermoreref3_Check.l9 k n3 (Go.IntKind.i64.wrap (i4 + 1)) d1_0 d1_1 d1_2 d1_3
     else
      some (3)
    else none
   else none
  else
   if d1_1 < 0 then
    some (2)
   else
    if n3 ≤ d1_1 then
     some (2)
    else
     evermoreref3_Check.l16 k n3 0 d1_0 d1_1 d1_2 d1_3
def evermoreref3_Check.l16 : Nat → Int → Int → Int → Int → List (List (Int)) → List (Int) → Option (Int)
 | 0, _, _, _, _, _, _ => none
 | k + 1, n3, i5, d1_0, d1_1, d1_2, d1_3 =>
  if i5 < n3 then
   evermoreref3_Check.l19 k n3 i5 0 d1_0 d1_1 d1_2 d1_3
  else
   evermoreref3_Check.l24 k n3 0 d1_0 d1_1 d1_2 d1_3
def evermoreref3_Check.l19 : Nat → Int → Int → Int → Int → Int → List (List (Int)) → List (Int) → Option (Int)
 | 0, _, _, _, _, _, _, _ => none
 | k + 1, n3, i5, k6, d1_0, d1_1, d1_2, d1_3 =>
  if k6 < d1_0 then
   if 0 ≤ i5 then
   if i5 < (↑d1_2.length : Int) then
    if 0 ≤ k6 then
     if k6 < (↑(Go.Proofs.YteacnmjinjaapaaSx.rd [] d1_2 i5).length : Int) then
      if Go.Proofs.YteacnmjinjaapaaSx.rd (Int.ofNat 0) (Go.Proofs.YteacnmjinjaapaaSx.rd [] d1_2 i5) k6 < 0 then
        some (2)
       else
        if 0 ≤ i5 then
        if i5 < (↑d1_2.length : Int) then
         if 0 ≤ k6 then
          if k6 < (↑(Go.Proofs.YteacnmjinjaapaaSx.rd [] d1_2 i5).length : Int) then
           if n3 ≤ Go.Proofs.YteacnmjinjaapaaSx.rd (Int.ofNat 0) (Go.Proofs.YteacnmjinjaapaaSx.rd [] d1_2 i5) k6 then
             some (2)
            else
             evermoreref3_Check.l19 k n3 i5 (Go.IntKind.i64.wrap (k6 + 1)) d1_0 d1_1 d1_2 d1_3
           else none
          else none
         else none
        else none
      else none
     else none
    else none
   else none
  else
   evermoreref3_Check.l16 k n3 (Go.IntKind.i64.wrap (i5 + 1)) d1_0 d1_1 d1_2 d1_3
def evermoreref3_Check.l24 : Nat → Int → Int → Int → Int → List (List (Int)) → List (Int) → Option (Int)
 | 0, _, _, _, _, _, _ => none
 | k + 1, n3, i7, d1_0, d1_1, d1_2, d1_3 =>
  if i7 < n3 then
   if 0 ≤ i7 then
   if i7 < (↑d1_3.length : Int) then
    if Go.Proofs.YteacnmjinjaapaaSx.rd (Int.ofNat 0) d1_3 i7 = 0 then
      evermoreref3_Check.l24 k n3 (Go.IntKind.i64.wrap (i7 + 1)) d1_0 d1_1 d1_2 d1_3
     else
      if 0 ≤ i7 then
      if i7 < (↑d1_3.length : Int) then
       if Go.Proofs.YteacnmjinjaapaaSx.rd (Int.ofNat 0) d1_3 i7 = 1 then
         evermoreref3_Check.l24 k n3 (Go.IntKind.i64.wrap (i7 + 1)) d1_0 d1_1 d1_2 d1_3
        else
         some (2)
       else none
      else none
    else none
   else none
  else
   some (0)
end
def evermoreref3_Check.f (k : Nat) (d0 : (Int × (Int × (List (List (Int)) × (List (Int) × Unit))))) : Option (Int) :=
 if d0.fst < 1 then
  some (2)
 else
  if 4 < d0.fst then
   some (2)
  else
   if (↑d0.snd.snd.fst.length : Int) < 1 then
    some (1)
   else
    if 3000 < (↑d0.snd.snd.fst.length : Int) then
     some (1)
    else
     if (↑d0.snd.snd.snd.fst.length : Int) = (↑d0.snd.snd.fst.length : Int) then
      evermoreref3_Check.l9 k ((↑d0.snd.snd.fst.length : Int)) 0 d0.fst d0.snd.fst d0.snd.snd.fst d0.snd.snd.snd.fst
     else
      some (3)

noncomputable def evermoreref3_Check.body : Code := fnBody Try.f19
def evermoreref3_Check.ti : Tm := ⟨[(0, .p (.pair (.int .i64) (.pair (.int .i64) (.pair (.slice (.slice (.int .i64))) (.pair (.slice (.int .i64)) .unit)))))], []⟩
def evermoreref3_Check.to : Tm := ⟨[(0, .p (.int .i64))], []⟩
def evermoreref3_Check.rs (r : Int) : List Dat := [⟨(.int .i64), r⟩]
def evermoreref3_Check.out (ds : List Dat) : Option (Int) := pop (.int .i64) ds fun x0 ds => popN ds (some (x0))
def evermoreref3_Check.c (k : Nat) (ds : List Dat) : Option (Int) := pop (.pair (.int .i64) (.pair (.int .i64) (.pair (.slice (.slice (.int .i64))) (.pair (.slice (.int .i64)) .unit)))) ds fun x0 ds => popN ds (evermoreref3_Check.f k x0)
def evermoreref3_Check.g : Nat → List Dat → Option (Int)
 | 0, _ => none
 | k + 1, ds => evermoreref3_Check.c k ds
def evermoreref3_Check.env (k : Nat) : Nat → List SV → List Chunk → KT (Int) → Option (Int) := env0
def evermoreref3_Check.t19 : Tm := ⟨[(1, .ptr 0 0), (3, .p (.int .i64)), (4, .p (.int .i64))], [.box [.p (.int .i64), .p (.int .i64), .p (.slice (.slice (.int .i64))), .p (.slice (.int .i64))] 25]⟩
def evermoreref3_Check.c19 (k : Nat) (ds : List Dat) : Option (Int) := pop (.int .i64) ds fun x0 ds => pop (.int .i64) ds fun x1 ds => pop (.int .i64) ds fun x2 ds => pop (.int .i64) ds fun x3 ds => pop (.slice (.slice (.int .i64))) ds fun x4 ds => pop (.slice (.int .i64)) ds fun x5 ds => popN ds (evermoreref3_Check.l9 k x0 x1 x2 x3 x4 x5)
def evermoreref3_Check.t33 : Tm := ⟨[(1, .ptr 0 0), (3, .p (.int .i64)), (5, .p (.int .i64))], [.box [.p (.int .i64), .p (.int .i64), .p (.slice (.slice (.int .i64))), .p (.slice (.int .i64))] 25]⟩
def evermoreref3_Check.c33 (k : Nat) (ds : List Dat) : Option (Int) := pop (.int .i64) ds fun x0 ds => pop (.int .i64) ds fun x1 ds => pop (.int .i64) ds fun x2 ds => pop (.int .i64) ds fun x3 ds => pop (.slice (.slice (.int .i64))) ds fun x4 ds => pop (.slice (.int .i64)) ds fun x5 ds => popN ds (evermoreref3_Check.l16 k x0 x1 x2 x3 x4 x5)
def evermoreref3_Check.t39 : Tm := ⟨[(1, .ptr 0 0), (3, .p (.int .i64)), (5, .p (.int .i64)), (6, .p (.int .i64))], [.box [.p (.int .i64), .p (.int .i64), .p (.slice (.slice (.int .i64))), .p (.slice (.int .i64))] 25]⟩
def evermoreref3_Check.c39 (k : Nat) (ds : List Dat) : Option (Int) := pop (.int .i64) ds fun x0 ds => pop (.int .i64) ds fun x1 ds => pop (.int .i64) ds fun x2 ds => pop (.int .i64) ds fun x3 ds => pop (.int .i64) ds fun x4 ds => pop (.slice (.slice (.int .i64))) ds fun x5 ds => pop (.slice (.int .i64)) ds fun x6 ds => popN ds (evermoreref3_Check.l19 k x0 x1 x2 x3 x4 x5 x6)
def evermoreref3_Check.t49 : Tm := ⟨[(1, .ptr 0 0), (3, .p (.int .i64)), (7, .p (.int .i64))], [.box [.p (.int .i64), .p (.int .i64), .p (.slice (.slice (.int .i64))), .p (.slice (.int .i64))] 25]⟩
def evermoreref3_Check.c49 (k : Nat) (ds : List Dat) : Option (Int) := pop (.int .i64) ds fun x0 ds => pop (.int .i64) ds fun x1 ds => pop (.int .i64) ds fun x2 ds => pop (.int .i64) ds fun x3 ds => pop (.slice (.slice (.int .i64))) ds fun x4 ds => pop (.slice (.int .i64)) ds fun x5 ds => popN ds (evermoreref3_Check.l24 k x0 x1 x2 x3 x4 x5)
def evermoreref3_Check.tbl : List (Nat × Tm × (Nat → List Dat → Option (Int))) := [(19, evermoreref3_Check.t19, evermoreref3_Check.c19), (33, evermoreref3_Check.t33, evermoreref3_Check.c33), (39, evermoreref3_Check.t39, evermoreref3_Check.c39), (49, evermoreref3_Check.t49, evermoreref3_Check.c49)]
theorem evermoreref3_Check.e19 (k : Nat) (x0 : Int) (x1 : Int) (x2 : Int) (x3 : Int) (x4 : (List (List Int))) (x5 : (List Int)) : evermoreref3_Check.l9 (k + 1) x0 x1 x2 x3 x4 x5 = run T (evermoreref3_Check.env k) Try.f19.ntmps (cutE 0 evermoreref3_Check.tbl k) (finE 0 evermoreref3_Check.to evermoreref3_Check.out) (fnRes Try.f19) [] 100000 true (start (stackOf 19 evermoreref3_Check.body)) (evermoreref3_Check.t19.fill [⟨(.int .i64), x0⟩, ⟨(.int .i64), x1⟩, ⟨(.int .i64), x2⟩, ⟨(.int .i64), x3⟩, ⟨(.slice (.slice (.int .i64))), x4⟩, ⟨(.slice (.int .i64)), x5⟩]) := by kernel_rfl
theorem evermoreref3_Check.s19 : stackAt 19 evermoreref3_Check.body [] = some (stackOf 19 evermoreref3_Check.body) := by kernel_rfl
theorem evermoreref3_Check.h19 (k : Nat) (ds : List Dat) (r : Int) (h : evermoreref3_Check.c19 k ds = some r) : ∃ k', k' < k ∧ ∃ s, stackAt 19 evermoreref3_Check.body [] = some s ∧ run T (evermoreref3_Check.env k') Try.f19.ntmps (cutE 0 evermoreref3_Check.tbl k') (finE 0 evermoreref3_Check.to evermoreref3_Check.out) (fnRes Try.f19) [] 100000 true (start s) (evermoreref3_Check.t19.fill ds) = some r := by
  unfold evermoreref3_Check.c19 at h
  obtain ⟨x0, d0, e0, h0⟩ := pop_some h; clear h; subst e0; have h := h0; clear h0
  obtain ⟨x1, d1, e1, h1⟩ := pop_some h; clear h; subst e1; have h := h1; clear h1
  obtain ⟨x2, d2, e2, h2⟩ := pop_some h; clear h; subst e2; have h := h2; clear h2
  obtain ⟨x3, d3, e3, h3⟩ := pop_some h; clear h; subst e3; have h := h3; clear h3
  obtain ⟨x4, d4, e4, h4⟩ := pop_some h; clear h; subst e4; have h := h4; clear h4
  obtain ⟨x5, d5, e5, h5⟩ := pop_some h; clear h; subst e5; have h := h5; clear h5
  obtain ⟨eN, hN⟩ := popN_some h; clear h; subst eN; have h := hN; clear hN
  cases k with
  | zero => cases (show none = some r from h)
  | succ k => exact ⟨k, Nat.lt_succ_self k, _, evermoreref3_Check.s19, (evermoreref3_Check.e19 k x0 x1 x2 x3 x4 x5).symm.trans h⟩
theorem evermoreref3_Check.e33 (k : Nat) (x0 : Int) (x1 : Int) (x2 : Int) (x3 : Int) (x4 : (List (List Int))) (x5 : (List Int)) : evermoreref3_Check.l16 (k + 1) x0 x1 x2 x3 x4 x5 = run T (evermoreref3_Check.env k) Try.f19.ntmps (cutE 0 evermoreref3_Check.tbl k) (finE 0 evermoreref3_Check.to evermoreref3_Check.out) (fnRes Try.f19) [] 100000 true (start (stackOf 33 evermoreref3_Check.body)) (evermoreref3_Check.t33.fill [⟨(.int .i64), x0⟩, ⟨(.int .i64), x1⟩, ⟨(.int .i64), x2⟩, ⟨(.int .i64), x3⟩, ⟨(.slice (.slice (.int .i64))), x4⟩, ⟨(.slice (.int .i64)), x5⟩]) := by kernel_rfl
theorem evermoreref3_Check.s33 : stackAt 33 evermoreref3_Check.body [] = some (stackOf 33 evermoreref3_Check.body) := by kernel_rfl
theorem evermoreref3_Check.h33 (k : Nat) (ds : List Dat) (r : Int) (h : evermoreref3_Check.c33 k ds = some r) : ∃ k', k' < k ∧ ∃ s, stackAt 33 evermoreref3_Check.body [] = some s ∧ run T (evermoreref3_Check.env k') Try.f19.ntmps (cutE 0 evermoreref3_Check.tbl k') (finE 0 evermoreref3_Check.to evermoreref3_Check.out) (fnRes Try.f19) [] 100000 true (start s) (evermoreref3_Check.t33.fill ds) = some r := by
  unfold evermoreref3_Check.c33 at h
  obtain ⟨x0, d0, e0, h0⟩ := pop_some h; clear h; subst e0; have h := h0; clear h0
  obtain ⟨x1, d1, e1, h1⟩ := pop_some h; clear h; subst e1; have h := h1; clear h1
  obtain ⟨x2, d2, e2, h2⟩ := pop_some h; clear h; subst e2; have h := h2; clear h2
  obtain ⟨x3, d3, e3, h3⟩ := pop_some h; clear h; subst e3; have h := h3; clear h3
  obtain ⟨x4, d4, e4, h4⟩ := pop_some h; clear h; subst e4; have h := h4; clear h4
  obtain ⟨x5, d5, e5, h5⟩ := pop_some h; clear h; subst e5; have h := h5; clear h5
  obtain ⟨eN, hN⟩ := popN_some h; clear h; subst eN; have h := hN; clear hN
  cases k with
  | zero => cases (show none = some r from h)
  | succ k => exact ⟨k, Nat.lt_succ_self k, _, evermoreref3_Check.s33, (evermoreref3_Check.e33 k x0 x1 x2 x3 x4 x5).symm.trans h⟩
theorem evermoreref3_Check.e39 (k : Nat) (x0 : Int) (x1 : Int) (x2 : Int) (x3 : Int) (x4 : Int) (x5 : (List (List Int))) (x6 : (List Int)) : evermoreref3_Check.l19 (k + 1) x0 x1 x2 x3 x4 x5 x6 = run T (evermoreref3_Check.env k) Try.f19.ntmps (cutE 0 evermoreref3_Check.tbl k) (finE 0 evermoreref3_Check.to evermoreref3_Check.out) (fnRes Try.f19) [] 100000 true (start (stackOf 39 evermoreref3_Check.body)) (evermoreref3_Check.t39.fill [⟨(.int .i64), x0⟩, ⟨(.int .i64), x1⟩, ⟨(.int .i64), x2⟩, ⟨(.int .i64), x3⟩, ⟨(.int .i64), x4⟩, ⟨(.slice (.slice (.int .i64))), x5⟩, ⟨(.slice (.int .i64)), x6⟩]) := by kernel_rfl
theorem evermoreref3_Check.s39 : stackAt 39 evermoreref3_Check.body [] = some (stackOf 39 evermoreref3_Check.body) := by kernel_rfl
theorem evermoreref3_Check.h39 (k : Nat) (ds : List Dat) (r : Int) (h : evermoreref3_Check.c39 k ds = some r) : ∃ k', k' < k ∧ ∃ s, stackAt 39 evermoreref3_Check.body [] = some s ∧ run T (evermoreref3_Check.env k') Try.f19.ntmps (cutE 0 evermoreref3_Check.tbl k') (finE 0 evermoreref3_Check.to evermoreref3_Check.out) (fnRes Try.f19) [] 100000 true (start s) (evermoreref3_Check.t39.fill ds) = some r := by
  unfold evermoreref3_Check.c39 at h
  obtain ⟨x0, d0, e0, h0⟩ := pop_some h; clear h; subst e0; have h := h0; clear h0
  obtain ⟨x1, d1, e1, h1⟩ := pop_some h; clear h; subst e1; have h := h1; clear h1
  obtain ⟨x2, d2, e2, h2⟩ := pop_some h; clear h; subst e2; have h := h2; clear h2
  obtain ⟨x3, d3, e3, h3⟩ := pop_some h; clear h; subst e3; have h := h3; clear h3
  obtain ⟨x4, d4, e4, h4⟩ := pop_some h; clear h; subst e4; have h := h4; clear h4
  obtain ⟨x5, d5, e5, h5⟩ := pop_some h; clear h; subst e5; have h := h5; clear h5
  obtain ⟨x6, d6, e6, h6⟩ := pop_some h; clear h; subst e6; have h := h6; clear h6
  obtain ⟨eN, hN⟩ := popN_some h; clear h; subst eN; have h := hN; clear hN
  cases k with
  | zero => cases (show none = some r from h)
  | succ k => exact ⟨k, Nat.lt_succ_self k, _, evermoreref3_Check.s39, (evermoreref3_Check.e39 k x0 x1 x2 x3 x4 x5 x6).symm.trans h⟩
theorem evermoreref3_Check.e49 (k : Nat) (x0 : Int) (x1 : Int) (x2 : Int) (x3 : Int) (x4 : (List (List Int))) (x5 : (List Int)) : evermoreref3_Check.l24 (k + 1) x0 x1 x2 x3 x4 x5 = run T (evermoreref3_Check.env k) Try.f19.ntmps (cutE 0 evermoreref3_Check.tbl k) (finE 0 evermoreref3_Check.to evermoreref3_Check.out) (fnRes Try.f19) [] 100000 true (start (stackOf 49 evermoreref3_Check.body)) (evermoreref3_Check.t49.fill [⟨(.int .i64), x0⟩, ⟨(.int .i64), x1⟩, ⟨(.int .i64), x2⟩, ⟨(.int .i64), x3⟩, ⟨(.slice (.slice (.int .i64))), x4⟩, ⟨(.slice (.int .i64)), x5⟩]) := by kernel_rfl
theorem evermoreref3_Check.s49 : stackAt 49 evermoreref3_Check.body [] = some (stackOf 49 evermoreref3_Check.body) := by kernel_rfl
theorem evermoreref3_Check.h49 (k : Nat) (ds : List Dat) (r : Int) (h : evermoreref3_Check.c49 k ds = some r) : ∃ k', k' < k ∧ ∃ s, stackAt 49 evermoreref3_Check.body [] = some s ∧ run T (evermoreref3_Check.env k') Try.f19.ntmps (cutE 0 evermoreref3_Check.tbl k') (finE 0 evermoreref3_Check.to evermoreref3_Check.out) (fnRes Try.f19) [] 100000 true (start s) (evermoreref3_Check.t49.fill ds) = some r := by
  unfold evermoreref3_Check.c49 at h
  obtain ⟨x0, d0, e0, h0⟩ := pop_some h; clear h; subst e0; have h := h0; clear h0
  obtain ⟨x1, d1, e1, h1⟩ := pop_some h; clear h; subst e1; have h := h1; clear h1
  obtain ⟨x2, d2, e2, h2⟩ := pop_some h; clear h; subst e2; have h := h2; clear h2
  obtain ⟨x3, d3, e3, h3⟩ := pop_some h; clear h; subst e3; have h := h3; clear h3
  obtain ⟨x4, d4, e4, h4⟩ := pop_some h; clear h; subst e4; have h := h4; clear h4
  obtain ⟨x5, d5, e5, h5⟩ := pop_some h; clear h; subst e5; have h := h5; clear h5
  obtain ⟨eN, hN⟩ := popN_some h; clear h; subst eN; have h := hN; clear hN
  cases k with
  | zero => cases (show none = some r from h)
  | succ k => exact ⟨k, Nat.lt_succ_self k, _, evermoreref3_Check.s49, (evermoreref3_Check.e49 k x0 x1 x2 x3 x4 x5).symm.trans h⟩
theorem evermoreref3_Check.e (k : Nat) (x0 : (Int × (Int × ((List (List Int)) × ((List Int) × Unit))))) : evermoreref3_Check.f k x0 = run T (evermoreref3_Check.env k) Try.f19.ntmps (cutE 0 evermoreref3_Check.tbl k) (finE 0 evermoreref3_Check.to evermoreref3_Check.out) (fnRes Try.f19) [] 100000 true ([.code evermoreref3_Check.body]) (evermoreref3_Check.ti.fill [⟨(.pair (.int .i64) (.pair (.int .i64) (.pair (.slice (.slice (.int .i64))) (.pair (.slice (.int .i64)) .unit)))), x0⟩]) := by kernel_rfl
theorem evermoreref3_Check.h (k : Nat) (ds : List Dat) (r : Int) (h : evermoreref3_Check.g k ds = some r) : ∃ k', k' < k ∧ run T (evermoreref3_Check.env k') Try.f19.ntmps (cutE 0 evermoreref3_Check.tbl k') (finE 0 evermoreref3_Check.to evermoreref3_Check.out) (fnRes Try.f19) [] 100000 true ([.code evermoreref3_Check.body]) (evermoreref3_Check.ti.fill ds) = some r := by
  cases k with
  | zero => cases (show none = some r from h)
  | succ k =>
  replace h : evermoreref3_Check.c k ds = some r := h
  unfold evermoreref3_Check.c at h
  obtain ⟨x0, d0, e0, h0⟩ := pop_some h; clear h; subst e0; have h := h0; clear h0
  obtain ⟨eN, hN⟩ := popN_some h; clear h; subst eN; have h := hN; clear hN
  exact ⟨k, Nat.lt_succ_self k, (evermoreref3_Check.e k x0).symm.trans h⟩
theorem evermoreref3_Check.o (ds : List Dat) (r : Int) (h : evermoreref3_Check.out ds = some r) : ds = evermoreref3_Check.rs r := by
  unfold evermoreref3_Check.out at h
  obtain ⟨x0, d0, e0, h0⟩ := pop_some h; clear h; subst e0; have h := h0; clear h0
  obtain ⟨eN, hN⟩ := popN_some h; clear h; subst eN; have h := hN; clear hN
  cases h
  rfl
theorem evermoreref3_Check.fn : FnOk Try.prog 19 Try.f19 evermoreref3_Check.body Try.f19.ntmps 1 (fnRes Try.f19) :=
  fnOk_of (by kernel_rfl) (by kernel_rfl) (by kernel_rfl) (by kernel_rfl)
theorem evermoreref3_Check.con' : ∀ k ds r, evermoreref3_Check.g k ds = some r → Con Try.prog 19 1 evermoreref3_Check.ti evermoreref3_Check.to ds (evermoreref3_Check.rs r) :=
  fun_ok (T := T) T_ok mixed evermoreref3_Check.fn (env := evermoreref3_Check.env) (tbl := evermoreref3_Check.tbl) (gOut := evermoreref3_Check.out) (nin := 0) (cuts := []) (fuel := 100000) rfl (by kernel_rfl) (by kernel_rfl) (by kernel_rfl) (fun x hx => by
    simp only [evermoreref3_Check.tbl, List.mem_cons, List.not_mem_nil, or_false] at hx
    rcases hx with rfl | rfl | rfl | rfl
    · exact evermoreref3_Check.h19
    · exact evermoreref3_Check.h33
    · exact evermoreref3_Check.h39
    · exact evermoreref3_Check.h49
) evermoreref3_Check.o evermoreref3_Check.h (fun k _ => by unfold evermoreref3_Check.env; exact env0_ok)
theorem evermoreref3_Check.con (k : Nat) {x0 : (Int × (Int × ((List (List Int)) × ((List Int) × Unit))))} (r : Int) (h : evermoreref3_Check.f k x0 = some r) : Con Try.prog 19 1 evermoreref3_Check.ti evermoreref3_Check.to [⟨(.pair (.int .i64) (.pair (.int .i64) (.pair (.slice (.slice (.int .i64))) (.pair (.slice (.int .i64)) .unit)))), x0⟩] (evermoreref3_Check.rs r) :=
  evermoreref3_Check.con' (k + 1) _ r (by show evermoreref3_Check.c k _ = some r; unfold evermoreref3_Check.c; simp only [pop_self, popN]; exact h)
mutual
def evermoreref3_Classes.l3 : Nat → Int → Int → Int → List (List (Int)) → List (Int) → List (Int) → Option (List Int)
 | 0, _, _, _, _, _, _ => none
 | k + 1, count4, d1_0, d1_1, d1_2, d1_3, class3 =>
  if 0 ≤ (↑class3.length : Int) then
  if (↑class3.length : Int) ≤ (↑class3.length : Int) then
   if (↑class3.length : Int) * ((↑8 : Int) + 1) ≤ 1099511627776 then
    evermoreref3_Classes.l7 k count4 0 0 d1_0 d1_1 d1_2 d1_3 class3 (List.replicate (↑class3.length : Int).toNat (Int.ofNat 0)) []
    else none
   else none
  else none
def evermoreref3_Classes.l7 : Nat → Int → Int → Int → Int → Int → List (List (Int)) → List (Int) → List (Int) → List (Int) → List (Int) → Option (List Int)
 | 0, _, _, _, _, _, _, _, _, _, _ => none
 | k + 1, count4, n6, q8, d1_0, d1_1, d1_2, d1_3, class3, next5, first7 =>
  if q8 < (↑class3.length : Int) then
   evermoreref3_Classes.l10 k count4 n6 q8 0 d1_0 d1_1 d1_2 d1_3 class3 next5 first7
  else
   if n6 = count4 then
    some (next5)
   else
    evermoreref3_Classes.l3 k n6 d1_0 d1_1 d1_2 d1_3 next5
def evermoreref3_Classes.l10 : Nat → Int → Int → Int → Int → Int → Int → List (List (Int)) → List (Int) → List (Int) → List (Int) → List (Int) → Option (List Int)
 | 0, _, _, _, _, _, _, _, _, _, _, _ => none
 | k + 1, count4, n6, q8, k9, d1_0, d1_1, d1_2, d1_3, class3, next5, first7 =>
  if k9 < n6 then
   if 0 ≤ k9 then
   if k9 < (↑first7.length : Int) then
    if 0 ≤ first7.getD k9.toNat (Int.ofNat 0) then
     if first7.getD k9.toNat (Int.ofNat 0) < (↑class3.length : Int) then
      if 0 ≤ q8 then
       if q8 < (↑class3.length : Int) then
        evermoreref3_Classes.l14 k count4 n6 q8 k9 (first7.getD k9.toNat (Int.ofNat 0)) (decide (class3.getD (first7.getD k9.toNat (Int.ofNat 0)).toNat (Int.ofNat 0) = class3.getD q8.toNat (Int.ofNat 0))) 0 d1_0 d1_1 d1_2 d1_3 class3 next5 first7
        else none
       else none
      else none
     else none
    else none
   else none
  else
   if k9 = n6 then
    if (first7 ++ [q8]).length.blt 1000000000 = true then
    evermoreref3_Classes.j22 k count4 (Go.IntKind.i64.wrap (n6 + 1)) q8 k9 d1_0 d1_1 d1_2 d1_3 class3 next5 (first7 ++ [q8])
    else none
   else
    evermoreref3_Classes.j22 k count4 n6 q8 k9 d1_0 d1_1 d1_2 d1_3 class3 next5 first7
def evermoreref3_Classes.l14 : Nat → Int → Int → Int → Int → Int → Bool → Int → Int → Int → List (List (Int)) → List (Int) → List (Int) → List (Int) → List (Int) → Option (List Int)
 | 0, _, _, _, _, _, _, _, _, _, _, _, _, _, _ => none
 | k + 1, count4, n6, q8, k9, p10, same11, a12, d1_0, d1_1, d1_2, d1_3, class3, next5, first7 =>
  if a12 < d1_0 then
   if same11 = true then
    if 0 ≤ p10 then
    if p10 < (↑d1_2.length : Int) then
     if 0 ≤ a12 then
      if a12 < (↑(Go.Proofs.YteacnmjinjaapaaSx.rd [] d1_2 p10).length : Int) then
       if 0 ≤ Go.Proofs.YteacnmjinjaapaaSx.rd (Int.ofNat 0) (Go.Proofs.YteacnmjinjaapaaSx.rd [] d1_2 p10) a12 then
        if Go.Proofs.YteacnmjinjaapaaSx.rd (Int.ofNat 0) (Go.Proofs.YteacnmjinjaapaaSx.rd [] d1_2 p10) a12 < (↑class3.length : Int) then
         if 0 ≤ q8 then
          if q8 < (↑d1_2.length : Int) then
           if 0 ≤ a12 then
            if a12 < (↑(Go.Proofs.YteacnmjinjaapaaSx.rd [] d1_2 q8).length : Int) then
             if 0 ≤ Go.Proofs.YteacnmjinjaapaaSx.rd (Int.ofNat 0) (Go.Proofs.YteacnmjinjaapaaSx.rd [] d1_2 q8) a12 then
              if Go.Proofs.YteacnmjinjaapaaSx.rd (Int.ofNat 0) (Go.Proofs.YteacnmjinjaapaaSx.rd [] d1_2 q8) a12 < (↑class3.length : Int) then
               evermoreref3_Classes.l14 k count4 n6 q8 k9 p10 (decide (class3.getD (Go.Proofs.YteacnmjinjaapaaSx.rd (Int.ofNat 0) (Go.Proofs.YteacnmjinjaapaaSx.rd [] d1_2 p10) a12).toNat (Int.ofNat 0) = class3.getD (Go.Proofs.YteacnmjinjaapaaSx.rd (Int.ofNat 0) (Go.Proofs.YteacnmjinjaapaaSx.rd [] d1_2 q8) a12).toNat (Int.ofNat 0))) (Go.IntKind.i64.wrap (a12 + 1)) d1_0 d1_1 d1_2 d1_3 class3 next5 first7
               else none
              else none
             else none
            else none
           else none
          else none
         else none
        else none
       else none
      else none
     else none
    else none
   else
    if same11 = true then
     if k9 = n6 then
      if (first7 ++ [q8]).length.blt 1000000000 = true then
      evermoreref3_Classes.j22 k count4 (Go.IntKind.i64.wrap (n6 + 1)) q8 k9 d1_0 d1_1 d1_2 d1_3 class3 next5 (first7 ++ [q8])
      else none
     else
      evermoreref3_Classes.j22 k count4 n6 q8 k9 d1_0 d1_1 d1_2 d1_3 class3 next5 first7
    else
     evermoreref3_Classes.l10 k count4 n6 q8 (Go.IntKind.i64.wrap (k9 + 1)) d1_0 d1_1 d1_2 d1_3 class3 next5 first7
  else
   if same11 = true then
    if k9 = n6 then
     if (first7 ++ [q8]).length.blt 1000000000 = true then
     evermoreref3_Classes.j22 k count4 (Go.IntKind.i64.wrap (n6 + 1)) q8 k9 d1_0 d1_1 d1_2 d1_3 class3 next5 (first7 ++ [q8])
     else none
    else
     evermoreref3_Classes.j22 k count4 n6 q8 k9 d1_0 d1_1 d1_2 d1_3 class3 next5 first7
   else
    evermoreref3_Classes.l10 k count4 n6 q8 (Go.IntKind.i64.wrap (k9 + 1)) d1_0 d1_1 d1_2 d1_3 class3 next5 first7
def evermoreref3_Classes.j22 : Nat → Int → Int → Int → Int → Int → Int → List (List (Int)) → List (Int) → List (Int) → List (Int) → List (Int) → Option (List Int)
 | 0, _, _, _, _, _, _, _, _, _, _, _ => none
 | k + 1, count4, n6, q8, k9, d1_0, d1_1, d1_2, d1_3, class3, next5, first7 =>
  if 0 ≤ q8 then
  if q8 < (↑next5.length : Int) then
   evermoreref3_Classes.l7 k count4 n6 (Go.IntKind.i64.wrap (q8 + 1)) d1_0 d1_1 d1_2 d1_3 class3 (next5.set q8.toNat k9) first7
   else none
  else none
end
def evermoreref3_Classes.f (k : Nat) (d0 : (Int × (Int × (List (List (Int)) × (List (Int) × Unit))))) : Option (List Int) :=
 if ([] ++ d0.snd.snd.snd.fst).length.blt 1000000000 = true then
 evermoreref3_Classes.l3 k 0 d0.fst d0.snd.fst d0.snd.snd.fst d0.snd.snd.snd.fst ([] ++ d0.snd.snd.snd.fst)
 else none

noncomputable def evermoreref3_Classes.body : Code := fnBody Try.f82
def evermoreref3_Classes.ti : Tm := ⟨[(0, .p (.pair (.int .i64) (.pair (.int .i64) (.pair (.slice (.slice (.int .i64))) (.pair (.slice (.int .i64)) .unit)))))], []⟩
def evermoreref3_Classes.to : Tm := ⟨[(0, .own 0)], [.own (.int .i64)]⟩
def evermoreref3_Classes.rs (r : (List Int)) : List Dat := [⟨(.slice (.int .i64)), r⟩]
def evermoreref3_Classes.out (ds : List Dat) : Option ((List Int)) := pop (.slice (.int .i64)) ds fun x0 ds => popN ds (some (x0))
def evermoreref3_Classes.c (k : Nat) (ds : List Dat) : Option ((List Int)) := pop (.pair (.int .i64) (.pair (.int .i64) (.pair (.slice (.slice (.int .i64))) (.pair (.slice (.int .i64)) .unit)))) ds fun x0 ds => popN ds (evermoreref3_Classes.f k x0)
def evermoreref3_Classes.g : Nat → List Dat → Option ((List Int))
 | 0, _ => none
 | k + 1, ds => evermoreref3_Classes.c k ds
def evermoreref3_Classes.env (k : Nat) : Nat → List SV → List Chunk → KT ((List Int)) → Option ((List Int)) := env0
def evermoreref3_Classes.t7 : Tm := ⟨[(1, .ptr 0 0), (3, .own 1), (4, .p (.int .i64))], [.box [.p (.int .i64), .p (.int .i64), .p (.slice (.slice (.int .i64))), .p (.slice (.int .i64))] 25, .own (.int .i64)]⟩
def evermoreref3_Classes.c7 (k : Nat) (ds : List Dat) : Option ((List Int)) := pop (.int .i64) ds fun x0 ds => pop (.int .i64) ds fun x1 ds => pop (.int .i64) ds fun x2 ds => pop (.slice (.slice (.int .i64))) ds fun x3 ds => pop (.slice (.int .i64)) ds fun x4 ds => pop (.slice (.int .i64)) ds fun x5 ds => popN ds (evermoreref3_Classes.l3 k x0 x1 x2 x3 x4 x5)
def evermoreref3_Classes.t15 : Tm := ⟨[(1, .ptr 0 0), (3, .own 1), (4, .p (.int .i64)), (5, .own 2), (6, .p (.int .i64)), (7, .own 3), (8, .p (.int .i64))], [.box [.p (.int .i64), .p (.int .i64), .p (.slice (.slice (.int .i64))), .p (.slice (.int .i64))] 25, .own (.int .i64), .own (.int .i64), .own (.int .i64)]⟩
def evermoreref3_Classes.c15 (k : Nat) (ds : List Dat) : Option ((List Int)) := pop (.int .i64) ds fun x0 ds => pop (.int .i64) ds fun x1 ds => pop (.int .i64) ds fun x2 ds => pop (.int .i64) ds fun x3 ds => pop (.int .i64) ds fun x4 ds => pop (.slice (.slice (.int .i64))) ds fun x5 ds => pop (.slice (.int .i64)) ds fun x6 ds => pop (.slice (.int .i64)) ds fun x7 ds => pop (.slice (.int .i64)) ds fun x8 ds => pop (.slice (.int .i64)) ds fun x9 ds => popN ds (evermoreref3_Classes.l7 k x0 x1 x2 x3 x4 x5 x6 x7 x8 x9)
def evermoreref3_Classes.t21 : Tm := ⟨[(1, .ptr 0 0), (3, .own 1), (4, .p (.int .i64)), (5, .own 2), (6, .p (.int .i64)), (7, .own 3), (8, .p (.int .i64)), (9, .p (.int .i64))], [.box [.p (.int .i64), .p (.int .i64), .p (.slice (.slice (.int .i64))), .p (.slice (.int .i64))] 25, .own (.int .i64), .own (.int .i64), .own (.int .i64)]⟩
def evermoreref3_Classes.c21 (k : Nat) (ds : List Dat) : Option ((List Int)) := pop (.int .i64) ds fun x0 ds => pop (.int .i64) ds fun x1 ds => pop (.int .i64) ds fun x2 ds => pop (.int .i64) ds fun x3 ds => pop (.int .i64) ds fun x4 ds => pop (.int .i64) ds fun x5 ds => pop (.slice (.slice (.int .i64))) ds fun x6 ds => pop (.slice (.int .i64)) ds fun x7 ds => pop (.slice (.int .i64)) ds fun x8 ds => pop (.slice (.int .i64)) ds fun x9 ds => pop (.slice (.int .i64)) ds fun x10 ds => popN ds (evermoreref3_Classes.l10 k x0 x1 x2 x3 x4 x5 x6 x7 x8 x9 x10)
def evermoreref3_Classes.t29 : Tm := ⟨[(1, .ptr 0 0), (3, .own 1), (4, .p (.int .i64)), (5, .own 2), (6, .p (.int .i64)), (7, .own 3), (8, .p (.int .i64)), (9, .p (.int .i64)), (10, .p (.int .i64)), (11, .p .bool), (12, .p (.int .i64))], [.box [.p (.int .i64), .p (.int .i64), .p (.slice (.slice (.int .i64))), .p (.slice (.int .i64))] 25, .own (.int .i64), .own (.int .i64), .own (.int .i64)]⟩
def evermoreref3_Classes.c29 (k : Nat) (ds : List Dat) : Option ((List Int)) := pop (.int .i64) ds fun x0 ds => pop (.int .i64) ds fun x1 ds => pop (.int .i64) ds fun x2 ds => pop (.int .i64) ds fun x3 ds => pop (.int .i64) ds fun x4 ds => pop .bool ds fun x5 ds => pop (.int .i64) ds fun x6 ds => pop (.int .i64) ds fun x7 ds => pop (.int .i64) ds fun x8 ds => pop (.slice (.slice (.int .i64))) ds fun x9 ds => pop (.slice (.int .i64)) ds fun x10 ds => pop (.slice (.int .i64)) ds fun x11 ds => pop (.slice (.int .i64)) ds fun x12 ds => pop (.slice (.int .i64)) ds fun x13 ds => popN ds (evermoreref3_Classes.l14 k x0 x1 x2 x3 x4 x5 x6 x7 x8 x9 x10 x11 x12 x13)
def evermoreref3_Classes.t44 : Tm := ⟨[(1, .ptr 0 0), (3, .own 1), (4, .p (.int .i64)), (5, .own 2), (6, .p (.int .i64)), (7, .own 3), (8, .p (.int .i64)), (9, .p (.int .i64))], [.box [.p (.int .i64), .p (.int .i64), .p (.slice (.slice (.int .i64))), .p (.slice (.int .i64))] 25, .own (.int .i64), .own (.int .i64), .own (.int .i64)]⟩
def evermoreref3_Classes.c44 (k : Nat) (ds : List Dat) : Option ((List Int)) := pop (.int .i64) ds fun x0 ds => pop (.int .i64) ds fun x1 ds => pop (.int .i64) ds fun x2 ds => pop (.int .i64) ds fun x3 ds => pop (.int .i64) ds fun x4 ds => pop (.int .i64) ds fun x5 ds => pop (.slice (.slice (.int .i64))) ds fun x6 ds => pop (.slice (.int .i64)) ds fun x7 ds => pop (.slice (.int .i64)) ds fun x8 ds => pop (.slice (.int .i64)) ds fun x9 ds => pop (.slice (.int .i64)) ds fun x10 ds => popN ds (evermoreref3_Classes.j22 k x0 x1 x2 x3 x4 x5 x6 x7 x8 x9 x10)
def evermoreref3_Classes.tbl : List (Nat × Tm × (Nat → List Dat → Option ((List Int)))) := [(7, evermoreref3_Classes.t7, evermoreref3_Classes.c7), (15, evermoreref3_Classes.t15, evermoreref3_Classes.c15), (21, evermoreref3_Classes.t21, evermoreref3_Classes.c21), (29, evermoreref3_Classes.t29, evermoreref3_Classes.c29), (44, evermoreref3_Classes.t44, evermoreref3_Classes.c44)]
theorem evermoreref3_Classes.e7 (k : Nat) (x0 : Int) (x1 : Int) (x2 : Int) (x3 : (List (List Int))) (x4 : (List Int)) (x5 : (List Int)) : evermoreref3_Classes.l3 (k + 1) x0 x1 x2 x3 x4 x5 = run T (evermoreref3_Classes.env k) Try.f82.ntmps (cutE 0 evermoreref3_Classes.tbl k) (finE 0 evermoreref3_Classes.to evermoreref3_Classes.out) (fnRes Try.f82) [22] 100000 true (start (stackOf 7 evermoreref3_Classes.body)) (evermoreref3_Classes.t7.fill [⟨(.int .i64), x0⟩, ⟨(.int .i64), x1⟩, ⟨(.int .i64), x2⟩, ⟨(.slice (.slice (.int .i64))), x3⟩, ⟨(.slice (.int .i64)), x4⟩, ⟨(.slice (.int .i64)), x5⟩]) := by kernel_rfl
theorem evermoreref3_Classes.s7 : stackAt 7 evermoreref3_Classes.body [] = some (stackOf 7 evermoreref3_Classes.body) := by kernel_rfl
theorem evermoreref3_Classes.h7 (k : Nat) (ds : List Dat) (r : (List Int)) (h : evermoreref3_Classes.c7 k ds = some r) : ∃ k', k' < k ∧ ∃ s, stackAt 7 evermoreref3_Classes.body [] = some s ∧ run T (evermoreref3_Classes.env k') Try.f82.ntmps (cutE 0 evermoreref3_Classes.tbl k') (finE 0 evermoreref3_Classes.to evermoreref3_Classes.out) (fnRes Try.f82) [22] 100000 true (start s) (evermoreref3_Classes.t7.fill ds) = some r := by
  unfold evermoreref3_Classes.c7 at h
  obtain ⟨x0, d0, e0, h0⟩ := pop_some h; clear h; subst e0; have h := h0; clear h0
  obtain ⟨x1, d1, e1, h1⟩ := pop_some h; clear h; subst e1; have h := h1; clear h1
  obtain ⟨x2, d2, e2, h2⟩ := pop_some h; clear h; subst e2; have h := h2; clear h2
  obtain ⟨x3, d3, e3, h3⟩ := pop_some h; clear h; subst e3; have h := h3; clear h3
  obtain ⟨x4, d4, e4, h4⟩ := pop_some h; clear h; subst e4; have h := h4; clear h4
  obtain ⟨x5, d5, e5, h5⟩ := pop_some h; clear h; subst e5; have h := h5; clear h5
  obtain ⟨eN, hN⟩ := popN_some h; clear h; subst eN; have h := hN; clear hN
  cases k with
  | zero => cases (show none = some r from h)
  | succ k => exact ⟨k, Nat.lt_succ_self k, _, evermoreref3_Classes.s7, (evermoreref3_Classes.e7 k x0 x1 x2 x3 x4 x5).symm.trans h⟩
theorem evermoreref3_Classes.e15 (k : Nat) (x0 : Int) (x1 : Int) (x2 : Int) (x3 : Int) (x4 : Int) (x5 : (List (List Int))) (x6 : (List Int)) (x7 : (List Int)) (x8 : (List Int)) (x9 : (List Int)) : evermoreref3_Classes.l7 (k + 1) x0 x1 x2 x3 x4 x5 x6 x7 x8 x9 = run T (evermoreref3_Classes.env k) Try.f82.ntmps (cutE 0 evermoreref3_Classes.tbl k) (finE 0 evermoreref3_Classes.to evermoreref3_Classes.out) (fnRes Try.f82) [22] 100000 true (start (stackOf 15 evermoreref3_Classes.body)) (evermoreref3_Classes.t15.fill [⟨(.int .i64), x0⟩, ⟨(.int .i64), x1⟩, ⟨(.int .i64), x2⟩, ⟨(.int .i64), x3⟩, ⟨(.int .i64), x4⟩, ⟨(.slice (.slice (.int .i64))), x5⟩, ⟨(.slice (.int .i64)), x6⟩, ⟨(.slice (.int .i64)), x7⟩, ⟨(.slice (.int .i64)), x8⟩, ⟨(.slice (.int .i64)), x9⟩]) := by kernel_rfl
theorem evermoreref3_Classes.s15 : stackAt 15 evermoreref3_Classes.body [] = some (stackOf 15 evermoreref3_Classes.body) := by kernel_rfl
theorem evermoreref3_Classes.h15 (k : Nat) (ds : List Dat) (r : (List Int)) (h : evermoreref3_Classes.c15 k ds = some r) : ∃ k', k' < k ∧ ∃ s, stackAt 15 evermoreref3_Classes.body [] = some s ∧ run T (evermoreref3_Classes.env k') Try.f82.ntmps (cutE 0 evermoreref3_Classes.tbl k') (finE 0 evermoreref3_Classes.to evermoreref3_Classes.out) (fnRes Try.f82) [22] 100000 true (start s) (evermoreref3_Classes.t15.fill ds) = some r := by
  unfold evermoreref3_Classes.c15 at h
  obtain ⟨x0, d0, e0, h0⟩ := pop_some h; clear h; subst e0; have h := h0; clear h0
  obtain ⟨x1, d1, e1, h1⟩ := pop_some h; clear h; subst e1; have h := h1; clear h1
  obtain ⟨x2, d2, e2, h2⟩ := pop_some h; clear h; subst e2; have h := h2; clear h2
  obtain ⟨x3, d3, e3, h3⟩ := pop_some h; clear h; subst e3; have h := h3; clear h3
  obtain ⟨x4, d4, e4, h4⟩ := pop_some h; clear h; subst e4; have h := h4; clear h4
  obtain ⟨x5, d5, e5, h5⟩ := pop_some h; clear h; subst e5; have h := h5; clear h5
  obtain ⟨x6, d6, e6, h6⟩ := pop_some h; clear h; subst e6; have h := h6; clear h6
  obtain ⟨x7, d7, e7, h7⟩ := pop_some h; clear h; subst e7; have h := h7; clear h7
  obtain ⟨x8, d8, e8, h8⟩ := pop_some h; clear h; subst e8; have h := h8; clear h8
  obtain ⟨x9, d9, e9, h9⟩ := pop_some h; clear h; subst e9; have h := h9; clear h9
  obtain ⟨eN, hN⟩ := popN_some h; clear h; subst eN; have h := hN; clear hN
  cases k with
  | zero => cases (show none = some r from h)
  | succ k => exact ⟨k, Nat.lt_succ_self k, _, evermoreref3_Classes.s15, (evermoreref3_Classes.e15 k x0 x1 x2 x3 x4 x5 x6 x7 x8 x9).symm.trans h⟩
theorem evermoreref3_Classes.e21 (k : Nat) (x0 : Int) (x1 : Int) (x2 : Int) (x3 : Int) (x4 : Int) (x5 : Int) (x6 : (List (List Int))) (x7 : (List Int)) (x8 : (List Int)) (x9 : (List Int)) (x10 : (List Int)) : evermoreref3_Classes.l10 (k + 1) x0 x1 x2 x3 x4 x5 x6 x7 x8 x9 x10 = run T (evermoreref3_Classes.env k) Try.f82.ntmps (cutE 0 evermoreref3_Classes.tbl k) (finE 0 evermoreref3_Classes.to evermoreref3_Classes.out) (fnRes Try.f82) [22] 100000 true (start (stackOf 21 evermoreref3_Classes.body)) (evermoreref3_Classes.t21.fill [⟨(.int .i64), x0⟩, ⟨(.int .i64), x1⟩, ⟨(.int .i64), x2⟩, ⟨(.int .i64), x3⟩, ⟨(.int .i64), x4⟩, ⟨(.int .i64), x5⟩, ⟨(.slice (.slice (.int .i64))), x6⟩, ⟨(.slice (.int .i64)), x7⟩, ⟨(.slice (.int .i64)), x8⟩, ⟨(.slice (.int .i64)), x9⟩, ⟨(.slice (.int .i64)), x10⟩]) := by kernel_rfl
theorem evermoreref3_Classes.s21 : stackAt 21 evermoreref3_Classes.body [] = some (stackOf 21 evermoreref3_Classes.body) := by kernel_rfl
theorem evermoreref3_Classes.h21 (k : Nat) (ds : List Dat) (r : (List Int)) (h : evermoreref3_Classes.c21 k ds = some r) : ∃ k', k' < k ∧ ∃ s, stackAt 21 evermoreref3_Classes.body [] = some s ∧ run T (evermoreref3_Classes.env k') Try.f82.ntmps (cutE 0 evermoreref3_Classes.tbl k') (finE 0 evermoreref3_Classes.to evermoreref3_Classes.out) (fnRes Try.f82) [22] 100000 true (start s) (evermoreref3_Classes.t21.fill ds) = some r := by
  unfold evermoreref3_Classes.c21 at h
  obtain ⟨x0, d0, e0, h0⟩ := pop_some h; clear h; subst e0; have h := h0; clear h0
  obtain ⟨x1, d1, e1, h1⟩ := pop_some h; clear h; subst e1; have h := h1; clear h1
  obtain ⟨x2, d2, e2, h2⟩ := pop_some h; clear h; subst e2; have h := h2; clear h2
  obtain ⟨x3, d3, e3, h3⟩ := pop_some h; clear h; subst e3; have h := h3; clear h3
  obtain ⟨x4, d4, e4, h4⟩ := pop_some h; clear h; subst e4; have h := h4; clear h4
  obtain ⟨x5, d5, e5, h5⟩ := pop_some h; clear h; subst e5; have h := h5; clear h5
  obtain ⟨x6, d6, e6, h6⟩ := pop_some h; clear h; subst e6; have h := h6; clear h6
  obtain ⟨x7, d7, e7, h7⟩ := pop_some h; clear h; subst e7; have h := h7; clear h7
  obtain ⟨x8, d8, e8, h8⟩ := pop_some h; clear h; subst e8; have h := h8; clear h8
  obtain ⟨x9, d9, e9, h9⟩ := pop_some h; clear h; subst e9; have h := h9; clear h9
  obtain ⟨x10, d10, e10, h10⟩ := pop_some h; clear h; subst e10; have h := h10; clear h10
  obtain ⟨eN, hN⟩ := popN_some h; clear h; subst eN; have h := hN; clear hN
  cases k with
  | zero => cases (show none = some r from h)
  | succ k => exact ⟨k, Nat.lt_succ_self k, _, evermoreref3_Classes.s21, (evermoreref3_Classes.e21 k x0 x1 x2 x3 x4 x5 x6 x7 x8 x9 x10).symm.trans h⟩
theorem evermoreref3_Classes.e29 (k : Nat) (x0 : Int) (x1 : Int) (x2 : Int) (x3 : Int) (x4 : Int) (x5 : Bool) (x6 : Int) (x7 : Int) (x8 : Int) (x9 : (List (List Int))) (x10 : (List Int)) (x11 : (List Int)) (x12 : (List Int)) (x13 : (List Int)) : evermoreref3_Classes.l14 (k + 1) x0 x1 x2 x3 x4 x5 x6 x7 x8 x9 x10 x11 x12 x13 = run T (evermoreref3_Classes.env k) Try.f82.ntmps (cutE 0 evermoreref3_Classes.tbl k) (finE 0 evermoreref3_Classes.to evermoreref3_Classes.out) (fnRes Try.f82) [22] 100000 true (start (stackOf 29 evermoreref3_Classes.body)) (evermoreref3_Classes.t29.fill [⟨(.int .i64), x0⟩, ⟨(.int .i64), x1⟩, ⟨(.int .i64), x2⟩, ⟨(.int .i64), x3⟩, ⟨(.int .i64), x4⟩, ⟨.bool, x5⟩, ⟨(.int .i64), x6⟩, ⟨(.int .i64), x7⟩, ⟨(.int .i64), x8⟩, ⟨(.slice (.slice (.int .i64))), x9⟩, ⟨(.slice (.int .i64)), x10⟩, ⟨(.slice (.int .i64)), x11⟩, ⟨(.slice (.int .i64)), x12⟩, ⟨(.slice (.int .i64)), x13⟩]) := by kernel_rfl
theorem evermoreref3_Classes.s29 : stackAt 29 evermoreref3_Classes.body [] = some (stackOf 29 evermoreref3_Classes.body) := by kernel_rfl
theorem evermoreref3_Classes.h29 (k : Nat) (ds : List Dat) (r : (List Int)) (h : evermoreref3_Classes.c29 k ds = some r) : ∃ k', k' < k ∧ ∃ s, stackAt 29 evermoreref3_Classes.body [] = some s ∧ run T (evermoreref3_Classes.env k') Try.f82.ntmps (cutE 0 evermoreref3_Classes.tbl k') (finE 0 evermoreref3_Classes.to evermoreref3_Classes.out) (fnRes Try.f82) [22] 100000 true (start s) (evermoreref3_Classes.t29.fill ds) = some r := by
  unfold evermoreref3_Classes.c29 at h
  obtain ⟨x0, d0, e0, h0⟩ := pop_some h; clear h; subst e0; have h := h0; clear h0
  obtain ⟨x1, d1, e1, h1⟩ := pop_some h; clear h; subst e1; have h := h1; clear h1
  obtain ⟨x2, d2, e2, h2⟩ := pop_some h; clear h; subst e2; have h := h2; clear h2
  obtain ⟨x3, d3, e3, h3⟩ := pop_some h; clear h; subst e3; have h := h3; clear h3
  obtain ⟨x4, d4, e4, h4⟩ := pop_some h; clear h; subst e4; have h := h4; clear h4
  obtain ⟨x5, d5, e5, h5⟩ := pop_some h; clear h; subst e5; have h := h5; clear h5
  obtain ⟨x6, d6, e6, h6⟩ := pop_some h; clear h; subst e6; have h := h6; clear h6
  obtain ⟨x7, d7, e7, h7⟩ := pop_some h; clear h; subst e7; have h := h7; clear h7
  obtain ⟨x8, d8, e8, h8⟩ := pop_some h; clear h; subst e8; have h := h8; clear h8
  obtain ⟨x9, d9, e9, h9⟩ := pop_some h; clear h; subst e9; have h := h9; clear h9
  obtain ⟨x10, d10, e10, h10⟩ := pop_some h; clear h; subst e10; have h := h10; clear h10
  obtain ⟨x11, d11, e11, h11⟩ := pop_some h; clear h; subst e11; have h := h11; clear h11
  obtain ⟨x12, d12, e12, h12⟩ := pop_some h; clear h; subst e12; have h := h12; clear h12
  obtain ⟨x13, d13, e13, h13⟩ := pop_some h; clear h; subst e13; have h := h13; clear h13
  obtain ⟨eN, hN⟩ := popN_some h; clear h; subst eN; have h := hN; clear hN
  cases k with
  | zero => cases (show none = some r from h)
  | succ k => exact ⟨k, Nat.lt_succ_self k, _, evermoreref3_Classes.s29, (evermoreref3_Classes.e29 k x0 x1 x2 x3 x4 x5 x6 x7 x8 x9 x10 x11 x12 x13).symm.trans h⟩
theorem evermoreref3_Classes.e44 (k : Nat) (x0 : Int) (x1 : Int) (x2 : Int) (x3 : Int) (x4 : Int) (x5 : Int) (x6 : (List (List Int))) (x7 : (List Int)) (x8 : (List Int)) (x9 : (List Int)) (x10 : (List Int)) : evermoreref3_Classes.j22 (k + 1) x0 x1 x2 x3 x4 x5 x6 x7 x8 x9 x10 = run T (evermoreref3_Classes.env k) Try.f82.ntmps (cutE 0 evermoreref3_Classes.tbl k) (finE 0 evermoreref3_Classes.to evermoreref3_Classes.out) (fnRes Try.f82) [22] 100000 true (start (stackOf 44 evermoreref3_Classes.body)) (evermoreref3_Classes.t44.fill [⟨(.int .i64), x0⟩, ⟨(.int .i64), x1⟩, ⟨(.int .i64), x2⟩, ⟨(.int .i64), x3⟩, ⟨(.int .i64), x4⟩, ⟨(.int .i64), x5⟩, ⟨(.slice (.slice (.int .i64))), x6⟩, ⟨(.slice (.int .i64)), x7⟩, ⟨(.slice (.int .i64)), x8⟩, ⟨(.slice (.int .i64)), x9⟩, ⟨(.slice (.int .i64)), x10⟩]) := by kernel_rfl
theorem evermoreref3_Classes.s44 : stackAt 44 evermoreref3_Classes.body [] = some (stackOf 44 evermoreref3_Classes.body) := by kernel_rfl
theorem evermoreref3_Classes.h44 (k : Nat) (ds : List Dat) (r : (List Int)) (h : evermoreref3_Classes.c44 k ds = some r) : ∃ k', k' < k ∧ ∃ s, stackAt 44 evermoreref3_Classes.body [] = some s ∧ run T (evermoreref3_Classes.env k') Try.f82.ntmps (cutE 0 evermoreref3_Classes.tbl k') (finE 0 evermoreref3_Classes.to evermoreref3_Classes.out) (fnRes Try.f82) [22] 100000 true (start s) (evermoreref3_Classes.t44.fill ds) = some r := by
  unfold evermoreref3_Classes.c44 at h
  obtain ⟨x0, d0, e0, h0⟩ := pop_some h; clear h; subst e0; have h := h0; clear h0
  obtain ⟨x1, d1, e1, h1⟩ := pop_some h; clear h; subst e1; have h := h1; clear h1
  obtain ⟨x2, d2, e2, h2⟩ := pop_some h; clear h; subst e2; have h := h2; clear h2
  obtain ⟨x3, d3, e3, h3⟩ := pop_some h; clear h; subst e3; have h := h3; clear h3
  obtain ⟨x4, d4, e4, h4⟩ := pop_some h; clear h; subst e4; have h := h4; clear h4
  obtain ⟨x5, d5, e5, h5⟩ := pop_some h; clear h; subst e5; have h := h5; clear h5
  obtain ⟨x6, d6, e6, h6⟩ := pop_some h; clear h; subst e6; have h := h6; clear h6
  obtain ⟨x7, d7, e7, h7⟩ := pop_some h; clear h; subst e7; have h := h7; clear h7
  obtain ⟨x8, d8, e8, h8⟩ := pop_some h; clear h; subst e8; have h := h8; clear h8
  obtain ⟨x9, d9, e9, h9⟩ := pop_some h; clear h; subst e9; have h := h9; clear h9
  obtain ⟨x10, d10, e10, h10⟩ := pop_some h; clear h; subst e10; have h := h10; clear h10
  obtain ⟨eN, hN⟩ := popN_some h; clear h; subst eN; have h := hN; clear hN
  cases k with
  | zero => cases (show none = some r from h)
  | succ k => exact ⟨k, Nat.lt_succ_self k, _, evermoreref3_Classes.s44, (evermoreref3_Classes.e44 k x0 x1 x2 x3 x4 x5 x6 x7 x8 x9 x10).symm.trans h⟩
theorem evermoreref3_Classes.e (k : Nat) (x0 : (Int × (Int × ((List (List Int)) × ((List Int) × Unit))))) : evermoreref3_Classes.f k x0 = run T (evermoreref3_Classes.env k) Try.f82.ntmps (cutE 0 evermoreref3_Classes.tbl k) (finE 0 evermoreref3_Classes.to evermoreref3_Classes.out) (fnRes Try.f82) [22] 100000 true ([.code evermoreref3_Classes.body]) (evermoreref3_Classes.ti.fill [⟨(.pair (.int .i64) (.pair (.int .i64) (.pair (.slice (.slice (.int .i64))) (.pair (.slice (.int .i64)) .unit)))), x0⟩]) := by kernel_rfl
theorem evermoreref3_Classes.h (k : Nat) (ds : List Dat) (r : (List Int)) (h : evermoreref3_Classes.g k ds = some r) : ∃ k', k' < k ∧ run T (evermoreref3_Classes.env k') Try.f82.ntmps (cutE 0 evermoreref3_Classes.tbl k') (finE 0 evermoreref3_Classes.to evermoreref3_Classes.out) (fnRes Try.f82) [22] 100000 true ([.code evermoreref3_Classes.body]) (evermoreref3_Classes.ti.fill ds) = some r := by
  cases k with
  | zero => cases (show none = some r from h)
  | succ k =>
  replace h : evermoreref3_Classes.c k ds = some r := h
  unfold evermoreref3_Classes.c at h
  obtain ⟨x0, d0, e0, h0⟩ := pop_some h; clear h; subst e0; have h := h0; clear h0
  obtain ⟨eN, hN⟩ := popN_some h; clear h; subst eN; have h := hN; clear hN
  exact ⟨k, Nat.lt_succ_self k, (evermoreref3_Classes.e k x0).symm.trans h⟩
theorem evermoreref3_Classes.o (ds : List Dat) (r : (List Int)) (h : evermoreref3_Classes.out ds = some r) : ds = evermoreref3_Classes.rs r := by
  unfold evermoreref3_Classes.out at h
  obtain ⟨x0, d0, e0, h0⟩ := pop_some h; clear h; subst e0; have h := h0; clear h0
  obtain ⟨eN, hN⟩ := popN_some h; clear h; subst eN; have h := hN; clear hN
  cases h
  rfl
theorem evermoreref3_Classes.fn : FnOk Try.prog 82 Try.f82 evermoreref3_Classes.body Try.f82.ntmps 1 (fnRes Try.f82) :=
  fnOk_of (by kernel_rfl) (by kernel_rfl) (by kernel_rfl) (by kernel_rfl)
theorem evermoreref3_Classes.con' : ∀ k ds r, evermoreref3_Classes.g k ds = some r → Con Try.prog 82 1 evermoreref3_Classes.ti evermoreref3_Classes.to ds (evermoreref3_Classes.rs r) :=
  fun_ok (T := T) T_ok mixed evermoreref3_Classes.fn (env := evermoreref3_Classes.env) (tbl := evermoreref3_Classes.tbl) (gOut := evermoreref3_Classes.out) (nin := 0) (cuts := [22]) (fuel := 100000) rfl (by kernel_rfl) (by kernel_rfl) (by kernel_rfl) (fun x hx => by
    simp only [evermoreref3_Classes.tbl, List.mem_cons, List.not_mem_nil, or_false] at hx
    rcases hx with rfl | rfl | rfl | rfl | rfl
    · exact evermoreref3_Classes.h7
    · exact evermoreref3_Classes.h15
    · exact evermoreref3_Classes.h21
    · exact evermoreref3_Classes.h29
    · exact evermoreref3_Classes.h44
) evermoreref3_Classes.o evermoreref3_Classes.h (fun k _ => by unfold evermoreref3_Classes.env; exact env0_ok)
theorem evermoreref3_Classes.con (k : Nat) {x0 : (Int × (Int × ((List (List Int)) × ((List Int) × Unit))))} (r : (List Int)) (h : evermoreref3_Classes.f k x0 = some r) : Con Try.prog 82 1 evermoreref3_Classes.ti evermoreref3_Classes.to [⟨(.pair (.int .i64) (.pair (.int .i64) (.pair (.slice (.slice (.int .i64))) (.pair (.slice (.int .i64)) .unit)))), x0⟩] (evermoreref3_Classes.rs r) :=
  evermoreref3_Classes.con' (k + 1) _ r (by show evermoreref3_Classes.c k _ = some r; unfold evermoreref3_Classes.c; simp only [pop_self, popN]; exact h)
mutual
def evermoreref3_Least.l4 : Nat → Int → Int → Int → List (List (Int)) → List (Int) → Int → Int → List (Int) → List (Int) → List (List (Int)) → List (Int) → Option (Int × Int × List (List Int) × List Int)
 | 0, _, _, _, _, _, _, _, _, _, _, _ => none
 | k + 1, i5, d1_0, d1_1, d1_2, d1_3, x2_0, x2_1, class3, number4, c4, c5 =>
  if i5 < (↑number4.length : Int) then
   if 0 ≤ i5 then
   if i5 < (↑number4.length : Int) then
    evermoreref3_Least.l4 k (Go.IntKind.i64.wrap (i5 + 1)) d1_0 d1_1 d1_2 d1_3 x2_0 x2_1 class3 (number4.set i5.toNat (Int.instNegInt.1 1)) c4 c5
    else none
   else none
  else
   if 0 ≤ d1_1 then
   if d1_1 < (↑class3.length : Int) then
    if 0 ≤ class3.getD d1_1.toNat (Int.ofNat 0) then
     if class3.getD d1_1.toNat (Int.ofNat 0) < (↑number4.length : Int) then
      evermoreref3_Least.l11 k 0 d1_0 d1_1 d1_2 d1_3 x2_0 x2_1 class3 (number4.set (class3.getD d1_1.toNat (Int.ofNat 0)).toNat (Int.ofNat 0)) [d1_1] d1_0 0 c4 c5 [] []
      else none
     else none
    else none
   else none
def evermoreref3_Least.l11 : Nat → Int → Int → Int → List (List (Int)) → List (Int) → Int → Int → List (Int) → List (Int) → List (Int) → Int → Int → List (List (Int)) → List (Int) → List (List (Int)) → List (Int) → Option (Int × Int × List (List Int) × List Int)
 | 0, _, _, _, _, _, _, _, _, _, _, _, _, _, _, _, _ => none
 | k + 1, i8, d1_0, d1_1, d1_2, d1_3, x2_0, x2_1, class3, number4, row6, out7_0, out7_1, c6, c7, c8, c9 =>
  if i8 < (↑row6.length : Int) then
   if 0 ≤ d1_0 then
   if d1_0 ≤ d1_0 then
    if d1_0 * ((↑8 : Int) + 1) ≤ 1099511627776 then
     evermoreref3_Least.l15 k i8 0 d1_0 d1_1 d1_2 d1_3 x2_0 x2_1 class3 number4 row6 out7_0 out7_1 (List.replicate d1_0.toNat (Int.ofNat 0)) c6 c7 c8 c9
     else none
    else none
   else none
  else
   some (out7_0, out7_1, c8, c9)
def evermoreref3_Least.l15 : Nat → Int → Int → Int → Int → List (List (Int)) → List (Int) → Int → Int → List (Int) → List (Int) → List (Int) → Int → Int → List (Int) → List (List (Int)) → List (Int) → List (List (Int)) → List (Int) → Option (Int × Int × List (List Int) × List Int)
 | 0, _, _, _, _, _, _, _, _, _, _, _, _, _, _, _, _, _, _ => none
 | k + 1, i8, a10, d1_0, d1_1, d1_2, d1_3, x2_0, x2_1, class3, number4, row6, out7_0, out7_1, next9, c7, c8, c9, c10 =>
  if a10 < d1_0 then
   if 0 ≤ i8 then
   if i8 < (↑row6.length : Int) then
    if 0 ≤ row6.getD i8.toNat (Int.ofNat 0) then
     if row6.getD i8.toNat (Int.ofNat 0) < (↑d1_2.length : Int) then
      if 0 ≤ a10 then
       if a10 < (↑(Go.Proofs.YteacnmjinjaapaaSx.rd [] d1_2 (row6.getD i8.toNat (Int.ofNat 0))).length : Int) then
        if 0 ≤ Go.Proofs.YteacnmjinjaapaaSx.rd (Int.ofNat 0) (Go.Proofs.YteacnmjinjaapaaSx.rd [] d1_2 (row6.getD i8.toNat (Int.ofNat 0))) a10 then
         if Go.Proofs.YteacnmjinjaapaaSx.rd (Int.ofNat 0) (Go.Proofs.YteacnmjinjaapaaSx.rd [] d1_2 (row6.getD i8.toNat (Int.ofNat 0))) a10 < (↑class3.length : Int) then
          if 0 ≤ class3.getD (Go.Proofs.YteacnmjinjaapaaSx.rd (Int.ofNat 0) (Go.Proofs.YteacnmjinjaapaaSx.rd [] d1_2 (row6.getD i8.toNat (Int.ofNat 0))) a10).toNat (Int.ofNat 0) then
           if class3.getD (Go.Proofs.YteacnmjinjaapaaSx.rd (Int.ofNat 0) (Go.Proofs.YteacnmjinjaapaaSx.rd [] d1_2 (row6.getD i8.toNat (Int.ofNat 0))) a10).toNat (Int.ofNat 0) < (↑number4.length : Int) then
            if number4.getD (class3.getD (Go.Proofs.YteacnmjinjaapaaSx.rd (Int.ofNat 0) (Go.Proofs.YteacnmjinjaapaaSx.rd [] d1_2 (row6.getD i8.toNat (Int.ofNat 0))) a10).toNat (Int.ofNat 0)).toNat (Int.ofNat 0) < 0 then
              if 0 ≤ Go.Proofs.YteacnmjinjaapaaSx.rd (Int.ofNat 0) (Go.Proofs.YteacnmjinjaapaaSx.rd [] d1_2 (row6.getD i8.toNat (Int.ofNat 0))) a10 then
              if Go.Proofs.YteacnmjinjaapaaSx.rd (Int.ofNat 0) (Go.Proofs.YteacnmjinjaapaaSx.rd [] d1_2 (row6.getD i8.toNat (Int.ofNat 0))) a10 < (↑class3.length : Int) then
               if 0 ≤ class3.getD (Go.Proofs.YteacnmjinjaapaaSx.rd (Int.ofNat 0) (Go.Proofs.YteacnmjinjaapaaSx.rd [] d1_2 (row6.getD i8.toNat (Int.ofNat 0))) a10).toNat (Int.ofNat 0) then
                if class3.getD (Go.Proofs.YteacnmjinjaapaaSx.rd (Int.ofNat 0) (Go.Proofs.YteacnmjinjaapaaSx.rd [] d1_2 (row6.getD i8.toNat (Int.ofNat 0))) a10).toNat (Int.ofNat 0) < (↑number4.length : Int) then
                 if (row6 ++ [Go.Proofs.YteacnmjinjaapaaSx.rd (Int.ofNat 0) (Go.Proofs.YteacnmjinjaapaaSx.rd [] d1_2 (row6.getD i8.toNat (Int.ofNat 0))) a10]).length.blt 1000000000 = true then
                  evermoreref3_Least.j21 k i8 a10 (Go.Proofs.YteacnmjinjaapaaSx.rd (Int.ofNat 0) (Go.Proofs.YteacnmjinjaapaaSx.rd [] d1_2 (row6.getD i8.toNat (Int.ofNat 0))) a10) d1_0 d1_1 d1_2 d1_3 x2_0 x2_1 class3 (number4.set (class3.getD (Go.Proofs.YteacnmjinjaapaaSx.rd (Int.ofNat 0) (Go.Proofs.YteacnmjinjaapaaSx.rd [] d1_2 (row6.getD i8.toNat (Int.ofNat 0))) a10).toNat (Int.ofNat 0)).toNat (↑row6.length : Int)) (row6 ++ [Go.Proofs.YteacnmjinjaapaaSx.rd (Int.ofNat 0) (Go.Proofs.YteacnmjinjaapaaSx.rd [] d1_2 (row6.getD i8.toNat (Int.ofNat 0))) a10]) out7_0 out7_1 next9 c7 c8 c9 c10
                  else none
                 else none
                else none
               else none
              else none
             else
              evermoreref3_Least.j21 k i8 a10 (Go.Proofs.YteacnmjinjaapaaSx.rd (Int.ofNat 0) (Go.Proofs.YteacnmjinjaapaaSx.rd [] d1_2 (row6.getD i8.toNat (Int.ofNat 0))) a10) d1_0 d1_1 d1_2 d1_3 x2_0 x2_1 class3 number4 row6 out7_0 out7_1 next9 c7 c8 c9 c10
            else none
           else none
          else none
         else none
        else none
       else none
      else none
     else none
    else none
   else none
  else
   if (c9 ++ [next9]).length.blt 1000000000 = true then
   if 0 ≤ i8 then
    if i8 < (↑row6.length : Int) then
     if 0 ≤ row6.getD i8.toNat (Int.ofNat 0) then
      if row6.getD i8.toNat (Int.ofNat 0) < (↑d1_3.length : Int) then
       if (c10 ++ [Go.Proofs.YteacnmjinjaapaaSx.rd (Int.ofNat 0) d1_3 (row6.getD i8.toNat (Int.ofNat 0))]).length.blt 1000000000 = true then
        evermoreref3_Least.l11 k (Go.IntKind.i64.wrap (i8 + 1)) d1_0 d1_1 d1_2 d1_3 x2_0 x2_1 class3 number4 row6 out7_0 out7_1 c7 c8 (c9 ++ [next9]) (c10 ++ [Go.Proofs.YteacnmjinjaapaaSx.rd (Int.ofNat 0) d1_3 (row6.getD i8.toNat (Int.ofNat 0))])
        else none
       else none
      else none
     else none
    else none
   else none
def evermoreref3_Least.j21 : Nat → Int → Int → Int → Int → Int → List (List (Int)) → List (Int) → Int → Int → List (Int) → List (Int) → List (Int) → Int → Int → List (Int) → List (List (Int)) → List (Int) → List (List (Int)) → List (Int) → Option (Int × Int × List (List Int) × List Int)
 | 0, _, _, _, _, _, _, _, _, _, _, _, _, _, _, _, _, _, _, _ => none
 | k + 1, i8, a10, q11, d1_0, d1_1, d1_2, d1_3, x2_0, x2_1, class3, number4, row6, out7_0, out7_1, next9, c7, c8, c9, c10 =>
  if 0 ≤ q11 then
  if q11 < (↑class3.length : Int) then
   if 0 ≤ class3.getD q11.toNat (Int.ofNat 0) then
    if class3.getD q11.toNat (Int.ofNat 0) < (↑number4.length : Int) then
     if 0 ≤ a10 then
      if a10 < (↑next9.length : Int) then
       evermoreref3_Least.l15 k i8 (Go.IntKind.i64.wrap (a10 + 1)) d1_0 d1_1 d1_2 d1_3 x2_0 x2_1 class3 number4 row6 out7_0 out7_1 (next9.set a10.toNat (number4.getD (class3.getD q11.toNat (Int.ofNat 0)).toNat (Int.ofNat 0))) c7 c8 c9 c10
       else none
      else none
     else none
    else none
   else none
  else none
end
def evermoreref3_Least.f (k : Nat) (d0 : (Int × (Int × (List (List (Int)) × (List (Int) × Unit))))) : Option (Int × Int × List (List Int) × List Int) :=
 (evermoreref3_Classes.f k (d0.fst, d0.snd.fst, d0.snd.snd.fst, d0.snd.snd.snd.fst, ())).bind fun r1 =>
  if 0 ≤ (↑r1.length : Int) then
  if (↑r1.length : Int) ≤ (↑r1.length : Int) then
   if (↑r1.length : Int) * ((↑8 : Int) + 1) ≤ 1099511627776 then
    evermoreref3_Least.l4 k 0 d0.fst d0.snd.fst d0.snd.snd.fst d0.snd.snd.snd.fst 0 0 r1 (List.replicate (↑r1.length : Int).toNat (Int.ofNat 0)) [] []
    else none
   else none
  else none

noncomputable def evermoreref3_Least.body : Code := fnBody Try.f21
def evermoreref3_Least.ti : Tm := ⟨[(0, .p (.pair (.int .i64) (.pair (.int .i64) (.pair (.slice (.slice (.int .i64))) (.pair (.slice (.int .i64)) .unit)))))], []⟩
def evermoreref3_Least.to : Tm := ⟨[(0, .agg [.p (.int .i64), .p (.int .i64), .own 0, .own 1])], [.own (.slice (.int .i64)), .own (.int .i64)]⟩
def evermoreref3_Least.rs (r : Int × Int × (List (List Int)) × (List Int)) : List Dat := [⟨(.int .i64), r.1⟩, ⟨(.int .i64), r.2.1⟩, ⟨(.slice (.slice (.int .i64))), r.2.2.1⟩, ⟨(.slice (.int .i64)), r.2.2.2⟩]
def evermoreref3_Least.out (ds : List Dat) : Option (Int × Int × (List (List Int)) × (List Int)) := pop (.int .i64) ds fun x0 ds => pop (.int .i64) ds fun x1 ds => pop (.slice (.slice (.int .i64))) ds fun x2 ds => pop (.slice (.int .i64)) ds fun x3 ds => popN ds (some (x0, x1, x2, x3))
def evermoreref3_Least.c (k : Nat) (ds : List Dat) : Option (Int × Int × (List (List Int)) × (List Int)) := pop (.pair (.int .i64) (.pair (.int .i64) (.pair (.slice (.slice (.int .i64))) (.pair (.slice (.int .i64)) .unit)))) ds fun x0 ds => popN ds (evermoreref3_Least.f k x0)
def evermoreref3_Least.g : Nat → List Dat → Option (Int × Int × (List (List Int)) × (List Int))
 | 0, _ => none
 | k + 1, ds => evermoreref3_Least.c k ds
def evermoreref3_Least.env (k : Nat) : Nat → List SV → List Chunk → KT (Int × Int × (List (List Int)) × (List Int)) → Option (Int × Int × (List (List Int)) × (List Int)) := (envC 82 1 evermoreref3_Classes.ti evermoreref3_Classes.to (fun ds K => pop (.pair (.int .i64) (.pair (.int .i64) (.pair (.slice (.slice (.int .i64))) (.pair (.slice (.int .i64)) .unit)))) ds fun x0 ds => popN ds ((evermoreref3_Classes.f k x0).bind fun r => K (evermoreref3_Classes.rs r))) env0)
def evermoreref3_Least.t9 : Tm := ⟨[(1, .ptr 0 0), (2, .ptr 1 0), (3, .own 2), (4, .own 3), (5, .p (.int .i64))], [.box [.p (.int .i64), .p (.int .i64), .p (.slice (.slice (.int .i64))), .p (.slice (.int .i64))] 25, .box [.p (.int .i64), .p (.int .i64), .own 4, .own 5] 25, .own (.int .i64), .own (.int .i64), .own (.slice (.int .i64)), .own (.int .i64)]⟩
def evermoreref3_Least.c9 (k : Nat) (ds : List Dat) : Option (Int × Int × (List (List Int)) × (List Int)) := pop (.int .i64) ds fun x0 ds => pop (.int .i64) ds fun x1 ds => pop (.int .i64) ds fun x2 ds => pop (.slice (.slice (.int .i64))) ds fun x3 ds => pop (.slice (.int .i64)) ds fun x4 ds => pop (.int .i64) ds fun x5 ds => pop (.int .i64) ds fun x6 ds => pop (.slice (.int .i64)) ds fun x7 ds => pop (.slice (.int .i64)) ds fun x8 ds => pop (.slice (.slice (.int .i64))) ds fun x9 ds => pop (.slice (.int .i64)) ds fun x10 ds => popN ds (evermoreref3_Least.l4 k x0 x1 x2 x3 x4 x5 x6 x7 x8 x9 x10)
def evermoreref3_Least.t23 : Tm := ⟨[(1, .ptr 0 0), (2, .ptr 1 0), (3, .own 2), (4, .own 3), (6, .own 4), (7, .ptr 5 0), (8, .p (.int .i64))], [.box [.p (.int .i64), .p (.int .i64), .p (.slice (.slice (.int .i64))), .p (.slice (.int .i64))] 25, .box [.p (.int .i64), .p (.int .i64), .own 6, .own 7] 25, .own (.int .i64), .own (.int .i64), .own (.int .i64), .box [.p (.int .i64), .p (.int .i64), .own 8, .own 9] 25, .own (.slice (.int .i64)), .own (.int .i64), .own (.slice (.int .i64)), .own (.int .i64)]⟩
def evermoreref3_Least.c23 (k : Nat) (ds : List Dat) : Option (Int × Int × (List (List Int)) × (List Int)) := pop (.int .i64) ds fun x0 ds => pop (.int .i64) ds fun x1 ds => pop (.int .i64) ds fun x2 ds => pop (.slice (.slice (.int .i64))) ds fun x3 ds => pop (.slice (.int .i64)) ds fun x4 ds => pop (.int .i64) ds fun x5 ds => pop (.int .i64) ds fun x6 ds => pop (.slice (.int .i64)) ds fun x7 ds => pop (.slice (.int .i64)) ds fun x8 ds => pop (.slice (.int .i64)) ds fun x9 ds => pop (.int .i64) ds fun x10 ds => pop (.int .i64) ds fun x11 ds => pop (.slice (.slice (.int .i64))) ds fun x12 ds => pop (.slice (.int .i64)) ds fun x13 ds => pop (.slice (.slice (.int .i64))) ds fun x14 ds => pop (.slice (.int .i64)) ds fun x15 ds => popN ds (evermoreref3_Least.l11 k x0 x1 x2 x3 x4 x5 x6 x7 x8 x9 x10 x11 x12 x13 x14 x15)
def evermoreref3_Least.t31 : Tm := ⟨[(1, .ptr 0 0), (2, .ptr 1 0), (3, .own 2), (4, .own 3), (6, .own 4), (7, .ptr 5 0), (8, .p (.int .i64)), (9, .own 6), (10, .p (.int .i64))], [.box [.p (.int .i64), .p (.int .i64), .p (.slice (.slice (.int .i64))), .p (.slice (.int .i64))] 25, .box [.p (.int .i64), .p (.int .i64), .own 7, .own 8] 25, .own (.int .i64), .own (.int .i64), .own (.int .i64), .box [.p (.int .i64), .p (.int .i64), .own 9, .own 10] 25, .own (.int .i64), .own (.slice (.int .i64)), .own (.int .i64), .own (.slice (.int .i64)), .own (.int .i64)]⟩
def evermoreref3_Least.c31 (k : Nat) (ds : List Dat) : Option (Int × Int × (List (List Int)) × (List Int)) := pop (.int .i64) ds fun x0 ds => pop (.int .i64) ds fun x1 ds => pop (.int .i64) ds fun x2 ds => pop (.int .i64) ds fun x3 ds => pop (.slice (.slice (.int .i64))) ds fun x4 ds => pop (.slice (.int .i64)) ds fun x5 ds => pop (.int .i64) ds fun x6 ds => pop (.int .i64) ds fun x7 ds => pop (.slice (.int .i64)) ds fun x8 ds => pop (.slice (.int .i64)) ds fun x9 ds => pop (.slice (.int .i64)) ds fun x10 ds => pop (.int .i64) ds fun x11 ds => pop (.int .i64) ds fun x12 ds => pop (.slice (.int .i64)) ds fun x13 ds => pop (.slice (.slice (.int .i64))) ds fun x14 ds => pop (.slice (.int .i64)) ds fun x15 ds => pop (.slice (.slice (.int .i64))) ds fun x16 ds => pop (.slice (.int .i64)) ds fun x17 ds => popN ds (evermoreref3_Least.l15 k x0 x1 x2 x3 x4 x5 x6 x7 x8 x9 x10 x11 x12 x13 x14 x15 x16 x17)
def evermoreref3_Least.t42 : Tm := ⟨[(1, .ptr 0 0), (2, .ptr 1 0), (3, .own 2), (4, .own 3), (6, .own 4), (7, .ptr 5 0), (8, .p (.int .i64)), (9, .own 6), (10, .p (.int .i64)), (11, .p (.int .i64))], [.box [.p (.int .i64), .p (.int .i64), .p (.slice (.slice (.int .i64))), .p (.slice (.int .i64))] 25, .box [.p (.int .i64), .p (.int .i64), .own 7, .own 8] 25, .own (.int .i64), .own (.int .i64), .own (.int .i64), .box [.p (.int .i64), .p (.int .i64), .own 9, .own 10] 25, .own (.int .i64), .own (.slice (.int .i64)), .own (.int .i64), .own (.slice (.int .i64)), .own (.int .i64)]⟩
def evermoreref3_Least.c42 (k : Nat) (ds : List Dat) : Option (Int × Int × (List (List Int)) × (List Int)) := pop (.int .i64) ds fun x0 ds => pop (.int .i64) ds fun x1 ds => pop (.int .i64) ds fun x2 ds => pop (.int .i64) ds fun x3 ds => pop (.int .i64) ds fun x4 ds => pop (.slice (.slice (.int .i64))) ds fun x5 ds => pop (.slice (.int .i64)) ds fun x6 ds => pop (.int .i64) ds fun x7 ds => pop (.int .i64) ds fun x8 ds => pop (.slice (.int .i64)) ds fun x9 ds => pop (.slice (.int .i64)) ds fun x10 ds => pop (.slice (.int .i64)) ds fun x11 ds => pop (.int .i64) ds fun x12 ds => pop (.int .i64) ds fun x13 ds => pop (.slice (.int .i64)) ds fun x14 ds => pop (.slice (.slice (.int .i64))) ds fun x15 ds => pop (.slice (.int .i64)) ds fun x16 ds => pop (.slice (.slice (.int .i64))) ds fun x17 ds => pop (.slice (.int .i64)) ds fun x18 ds => popN ds (evermoreref3_Least.j21 k x0 x1 x2 x3 x4 x5 x6 x7 x8 x9 x10 x11 x12 x13 x14 x15 x16 x17 x18)
def evermoreref3_Least.tbl : List (Nat × Tm × (Nat → List Dat → Option (Int × Int × (List (List Int)) × (List Int)))) := [(9, evermoreref3_Least.t9, evermoreref3_Least.c9), (23, evermoreref3_Least.t23, evermoreref3_Least.c23), (31, evermoreref3_Least.t31, evermoreref3_Least.c31), (42, evermoreref3_Least.t42, evermoreref3_Least.c42)]
theorem evermoreref3_Least.e9 (k : Nat) (x0 : Int) (x1 : Int) (x2 : Int) (x3 : (List (List Int))) (x4 : (List Int)) (x5 : Int) (x6 : Int) (x7 : (List Int)) (x8 : (List Int)) (x9 : (List (List Int))) (x10 : (List Int)) : evermoreref3_Least.l4 (k + 1) x0 x1 x2 x3 x4 x5 x6 x7 x8 x9 x10 = run T (evermoreref3_Least.env k) Try.f21.ntmps (cutE 0 evermoreref3_Least.tbl k) (finE 0 evermoreref3_Least.to evermoreref3_Least.out) (fnRes Try.f21) [21] 100000 true (start (stackOf 9 evermoreref3_Least.body)) (evermoreref3_Least.t9.fill [⟨(.int .i64), x0⟩, ⟨(.int .i64), x1⟩, ⟨(.int .i64), x2⟩, ⟨(.slice (.slice (.int .i64))), x3⟩, ⟨(.slice (.int .i64)), x4⟩, ⟨(.int .i64), x5⟩, ⟨(.int .i64), x6⟩, ⟨(.slice (.int .i64)), x7⟩, ⟨(.slice (.int .i64)), x8⟩, ⟨(.slice (.slice (.int .i64))), x9⟩, ⟨(.slice (.int .i64)), x10⟩]) := by kernel_rfl
theorem evermoreref3_Least.s9 : stackAt 9 evermoreref3_Least.body [] = some (stackOf 9 evermoreref3_Least.body) := by kernel_rfl
theorem evermoreref3_Least.h9 (k : Nat) (ds : List Dat) (r : Int × Int × (List (List Int)) × (List Int)) (h : evermoreref3_Least.c9 k ds = some r) : ∃ k', k' < k ∧ ∃ s, stackAt 9 evermoreref3_Least.body [] = some s ∧ run T (evermoreref3_Least.env k') Try.f21.ntmps (cutE 0 evermoreref3_Least.tbl k') (finE 0 evermoreref3_Least.to evermoreref3_Least.out) (fnRes Try.f21) [21] 100000 true (start s) (evermoreref3_Least.t9.fill ds) = some r := by
  unfold evermoreref3_Least.c9 at h
  obtain ⟨x0, d0, e0, h0⟩ := pop_some h; clear h; subst e0; have h := h0; clear h0
  obtain ⟨x1, d1, e1, h1⟩ := pop_some h; clear h; subst e1; have h := h1; clear h1
  obtain ⟨x2, d2, e2, h2⟩ := pop_some h; clear h; subst e2; have h := h2; clear h2
  obtain ⟨x3, d3, e3, h3⟩ := pop_some h; clear h; subst e3; have h := h3; clear h3
  obtain ⟨x4, d4, e4, h4⟩ := pop_some h; clear h; subst e4; have h := h4; clear h4
  obtain ⟨x5, d5, e5, h5⟩ := pop_some h; clear h; subst e5; have h := h5; clear h5
  obtain ⟨x6, d6, e6, h6⟩ := pop_some h; clear h; subst e6; have h := h6; clear h6
  obtain ⟨x7, d7, e7, h7⟩ := pop_some h; clear h; subst e7; have h := h7; clear h7
  obtain ⟨x8, d8, e8, h8⟩ := pop_some h; clear h; subst e8; have h := h8; clear h8
  obtain ⟨x9, d9, e9, h9⟩ := pop_some h; clear h; subst e9; have h := h9; clear h9
  obtain ⟨x10, d10, e10, h10⟩ := pop_some h; clear h; subst e10; have h := h10; clear h10
  obtain ⟨eN, hN⟩ := popN_some h; clear h; subst eN; have h := hN; clear hN
  cases k with
  | zero => cases (show none = some r from h)
  | succ k => exact ⟨k, Nat.lt_succ_self k, _, evermoreref3_Least.s9, (evermoreref3_Least.e9 k x0 x1 x2 x3 x4 x5 x6 x7 x8 x9 x10).symm.trans h⟩
theorem evermoreref3_Least.e23 (k : Nat) (x0 : Int) (x1 : Int) (x2 : Int) (x3 : (List (List Int))) (x4 : (List Int)) (x5 : Int) (x6 : Int) (x7 : (List Int)) (x8 : (List Int)) (x9 : (List Int)) (x10 : Int) (x11 : Int) (x12 : (List (List Int))) (x13 : (List Int)) (x14 : (List (List Int))) (x15 : (List Int)) : evermoreref3_Least.l11 (k + 1) x0 x1 x2 x3 x4 x5 x6 x7 x8 x9 x10 x11 x12 x13 x14 x15 = run T (evermoreref3_Least.env k) Try.f21.ntmps (cutE 0 evermoreref3_Least.tbl k) (finE 0 evermoreref3_Least.to evermoreref3_Least.out) (fnRes Try.f21) [21] 100000 true (start (stackOf 23 evermoreref3_Least.body)) (evermoreref3_Least.t23.fill [⟨(.int .i64), x0⟩, ⟨(.int .i64), x1⟩, ⟨(.int .i64), x2⟩, ⟨(.slice (.slice (.int .i64))), x3⟩, ⟨(.slice (.int .i64)), x4⟩, ⟨(.int .i64), x5⟩, ⟨(.int .i64), x6⟩, ⟨(.slice (.int .i64)), x7⟩, ⟨(.slice (.int .i64)), x8⟩, ⟨(.slice (.int .i64)), x9⟩, ⟨(.int .i64), x10⟩, ⟨(.int .i64), x11⟩, ⟨(.slice (.slice (.int .i64))), x12⟩, ⟨(.slice (.int .i64)), x13⟩, ⟨(.slice (.slice (.int .i64))), x14⟩, ⟨(.slice (.int .i64)), x15⟩]) := by kernel_rfl
theorem evermoreref3_Least.s23 : stackAt 23 evermoreref3_Least.body [] = some (stackOf 23 evermoreref3_Least.body) := by kernel_rfl
theorem evermoreref3_Least.h23 (k : Nat) (ds : List Dat) (r : Int × Int × (List (List Int)) × (List Int)) (h : evermoreref3_Least.c23 k ds = some r) : ∃ k', k' < k ∧ ∃ s, stackAt 23 evermoreref3_Least.body [] = some s ∧ run T (evermoreref3_Least.env k') Try.f21.ntmps (cutE 0 evermoreref3_Least.tbl k') (finE 0 evermoreref3_Least.to evermoreref3_Least.out) (fnRes Try.f21) [21] 100000 true (start s) (evermoreref3_Least.t23.fill ds) = some r := by
  unfold evermoreref3_Least.c23 at h
  obtain ⟨x0, d0, e0, h0⟩ := pop_some h; clear h; subst e0; have h := h0; clear h0
  obtain ⟨x1, d1, e1, h1⟩ := pop_some h; clear h; subst e1; have h := h1; clear h1
  obtain ⟨x2, d2, e2, h2⟩ := pop_some h; clear h; subst e2; have h := h2; clear h2
  obtain ⟨x3, d3, e3, h3⟩ := pop_some h; clear h; subst e3; have h := h3; clear h3
  obtain ⟨x4, d4, e4, h4⟩ := pop_some h; clear h; subst e4; have h := h4; clear h4
  obtain ⟨x5, d5, e5, h5⟩ := pop_some h; clear h; subst e5; have h := h5; clear h5
  obtain ⟨x6, d6, e6, h6⟩ := pop_some h; clear h; subst e6; have h := h6; clear h6
  obtain ⟨x7, d7, e7, h7⟩ := pop_some h; clear h; subst e7; have h := h7; clear h7
  obtain ⟨x8, d8, e8, h8⟩ := pop_some h; clear h; subst e8; have h := h8; clear h8
  obtain ⟨x9, d9, e9, h9⟩ := pop_some h; clear h; subst e9; have h := h9; clear h9
  obtain ⟨x10, d10, e10, h10⟩ := pop_some h; clear h; subst e10; have h := h10; clear h10
  obtain ⟨x11, d11, e11, h11⟩ := pop_some h; clear h; subst e11; have h := h11; clear h11
  obtain ⟨x12, d12, e12, h12⟩ := pop_some h; clear h; subst e12; have h := h12; clear h12
  obtain ⟨x13, d13, e13, h13⟩ := pop_some h; clear h; subst e13; have h := h13; clear h13
  obtain ⟨x14, d14, e14, h14⟩ := pop_some h; clear h; subst e14; have h := h14; clear h14
  obtain ⟨x15, d15, e15, h15⟩ := pop_some h; clear h; subst e15; have h := h15; clear h15
  obtain ⟨eN, hN⟩ := popN_some h; clear h; subst eN; have h := hN; clear hN
  cases k with
  | zero => cases (show none = some r from h)
  | succ k => exact ⟨k, Nat.lt_succ_self k, _, evermoreref3_Least.s23, (evermoreref3_Least.e23 k x0 x1 x2 x3 x4 x5 x6 x7 x8 x9 x10 x11 x12 x13 x14 x15).symm.trans h⟩
theorem evermoreref3_Least.e31 (k : Nat) (x0 : Int) (x1 : Int) (x2 : Int) (x3 : Int) (x4 : (List (List Int))) (x5 : (List Int)) (x6 : Int) (x7 : Int) (x8 : (List Int)) (x9 : (List Int)) (x10 : (List Int)) (x11 : Int) (x12 : Int) (x13 : (List Int)) (x14 : (List (List Int))) (x15 : (List Int)) (x16 : (List (List Int))) (x17 : (List Int)) : evermoreref3_Least.l15 (k + 1) x0 x1 x2 x3 x4 x5 x6 x7 x8 x9 x10 x11 x12 x13 x14 x15 x16 x17 = run T (evermoreref3_Least.env k) Try.f21.ntmps (cutE 0 evermoreref3_Least.tbl k) (finE 0 evermoreref3_Least.to evermoreref3_Least.out) (fnRes Try.f21) [21] 100000 true (start (stackOf 31 evermoreref3_Least.body)) (evermoreref3_Least.t31.fill [⟨(.int .i64), x0⟩, ⟨(.int .i64), x1⟩, ⟨(.int .i64), x2⟩, ⟨(.int .i64), x3⟩, ⟨(.slice (.slice (.int .i64))), x4⟩, ⟨(.slice (.int .i64)), x5⟩, ⟨(.int .i64), x6⟩, ⟨(.int .i64), x7⟩, ⟨(.slice (.int .i64)), x8⟩, ⟨(.slice (.int .i64)), x9⟩, ⟨(.slice (.int .i64)), x10⟩, ⟨(.int .i64), x11⟩, ⟨(.int .i64), x12⟩, ⟨(.slice (.int .i64)), x13⟩, ⟨(.slice (.slice (.int .i64))), x14⟩, ⟨(.slice (.int .i64)), x15⟩, ⟨(.slice (.slice (.int .i64))), x16⟩, ⟨(.slice (.int .i64)), x17⟩]) := by kernel_rfl
theorem evermoreref3_Least.s31 : stackAt 31 evermoreref3_Least.body [] = some (stackOf 31 evermoreref3_Least.body) := by kernel_rfl
theorem evermoreref3_Least.h31 (k : Nat) (ds : List Dat) (r : Int × Int × (List (List Int)) × (List Int)) (h : evermoreref3_Least.c31 k ds = some r) : ∃ k', k' < k ∧ ∃ s, stackAt 31 evermoreref3_Least.body [] = some s ∧ run T (evermoreref3_Least.env k') Try.f21.ntmps (cutE 0 evermoreref3_Least.tbl k') (finE 0 evermoreref3_Least.to evermoreref3_Least.out) (fnRes Try.f21) [21] 100000 true (start s) (evermoreref3_Least.t31.fill ds) = some r := by
  unfold evermoreref3_Least.c31 at h
  obtain ⟨x0, d0, e0, h0⟩ := pop_some h; clear h; subst e0; have h := h0; clear h0
  obtain ⟨x1, d1, e1, h1⟩ := pop_some h; clear h; subst e1; have h := h1; clear h1
  obtain ⟨x2, d2, e2, h2⟩ := pop_some h; clear h; subst e2; have h := h2; clear h2
  obtain ⟨x3, d3, e3, h3⟩ := pop_some h; clear h; subst e3; have h := h3; clear h3
  obtain ⟨x4, d4, e4, h4⟩ := pop_some h; clear h; subst e4; have h := h4; clear h4
  obtain ⟨x5, d5, e5, h5⟩ := pop_some h; clear h; subst e5; have h := h5; clear h5
  obtain ⟨x6, d6, e6, h6⟩ := pop_some h; clear h; subst e6; have h := h6; clear h6
  obtain ⟨x7, d7, e7, h7⟩ := pop_some h; clear h; subst e7; have h := h7; clear h7
  obtain ⟨x8, d8, e8, h8⟩ := pop_some h; clear h; subst e8; have h := h8; clear h8
  obtain ⟨x9, d9, e9, h9⟩ := pop_some h; clear h; subst e9; have h := h9; clear h9
  obtain ⟨x10, d10, e10, h10⟩ := pop_some h; clear h; subst e10; have h := h10; clear h10
  obtain ⟨x11, d11, e11, h11⟩ := pop_some h; clear h; subst e11; have h := h11; clear h11
  obtain ⟨x12, d12, e12, h12⟩ := pop_some h; clear h; subst e12; have h := h12; clear h12
  obtain ⟨x13, d13, e13, h13⟩ := pop_some h; clear h; subst e13; have h := h13; clear h13
  obtain ⟨x14, d14, e14, h14⟩ := pop_some h; clear h; subst e14; have h := h14; clear h14
  obtain ⟨x15, d15, e15, h15⟩ := pop_some h; clear h; subst e15; have h := h15; clear h15
  obtain ⟨x16, d16, e16, h16⟩ := pop_some h; clear h; subst e16; have h := h16; clear h16
  obtain ⟨x17, d17, e17, h17⟩ := pop_some h; clear h; subst e17; have h := h17; clear h17
  obtain ⟨eN, hN⟩ := popN_some h; clear h; subst eN; have h := hN; clear hN
  cases k with
  | zero => cases (show none = some r from h)
  | succ k => exact ⟨k, Nat.lt_succ_self k, _, evermoreref3_Least.s31, (evermoreref3_Least.e31 k x0 x1 x2 x3 x4 x5 x6 x7 x8 x9 x10 x11 x12 x13 x14 x15 x16 x17).symm.trans h⟩
theorem evermoreref3_Least.e42 (k : Nat) (x0 : Int) (x1 : Int) (x2 : Int) (x3 : Int) (x4 : Int) (x5 : (List (List Int))) (x6 : (List Int)) (x7 : Int) (x8 : Int) (x9 : (List Int)) (x10 : (List Int)) (x11 : (List Int)) (x12 : Int) (x13 : Int) (x14 : (List Int)) (x15 : (List (List Int))) (x16 : (List Int)) (x17 : (List (List Int))) (x18 : (List Int)) : evermoreref3_Least.j21 (k + 1) x0 x1 x2 x3 x4 x5 x6 x7 x8 x9 x10 x11 x12 x13 x14 x15 x16 x17 x18 = run T (evermoreref3_Least.env k) Try.f21.ntmps (cutE 0 evermoreref3_Least.tbl k) (finE 0 evermoreref3_Least.to evermoreref3_Least.out) (fnRes Try.f21) [21] 100000 true (start (stackOf 42 evermoreref3_Least.body)) (evermoreref3_Least.t42.fill [⟨(.int .i64), x0⟩, ⟨(.int .i64), x1⟩, ⟨(.int .i64), x2⟩, ⟨(.int .i64), x3⟩, ⟨(.int .i64), x4⟩, ⟨(.slice (.slice (.int .i64))), x5⟩, ⟨(.slice (.int .i64)), x6⟩, ⟨(.int .i64), x7⟩, ⟨(.int .i64), x8⟩, ⟨(.slice (.int .i64)), x9⟩, ⟨(.slice (.int .i64)), x10⟩, ⟨(.slice (.int .i64)), x11⟩, ⟨(.int .i64), x12⟩, ⟨(.int .i64), x13⟩, ⟨(.slice (.int .i64)), x14⟩, ⟨(.slice (.slice (.int .i64))), x15⟩, ⟨(.slice (.int .i64)), x16⟩, ⟨(.slice (.slice (.int .i64))), x17⟩, ⟨(.slice (.int .i64)), x18⟩]) := by kernel_rfl
theorem evermoreref3_Least.s42 : stackAt 42 evermoreref3_Least.body [] = some (stackOf 42 evermoreref3_Least.body) := by kernel_rfl
theorem evermoreref3_Least.h42 (k : Nat) (ds : List Dat) (r : Int × Int × (List (List Int)) × (List Int)) (h : evermoreref3_Least.c42 k ds = some r) : ∃ k', k' < k ∧ ∃ s, stackAt 42 evermoreref3_Least.body [] = some s ∧ run T (evermoreref3_Least.env k') Try.f21.ntmps (cutE 0 evermoreref3_Least.tbl k') (finE 0 evermoreref3_Least.to evermoreref3_Least.out) (fnRes Try.f21) [21] 100000 true (start s) (evermoreref3_Least.t42.fill ds) = some r := by
  unfold evermoreref3_Least.c42 at h
  obtain ⟨x0, d0, e0, h0⟩ := pop_some h; clear h; subst e0; have h := h0; clear h0
  obtain ⟨x1, d1, e1, h1⟩ := pop_some h; clear h; subst e1; have h := h1; clear h1
  obtain ⟨x2, d2, e2, h2⟩ := pop_some h; clear h; subst e2; have h := h2; clear h2
  obtain ⟨x3, d3, e3, h3⟩ := pop_some h; clear h; subst e3; have h := h3; clear h3
  obtain ⟨x4, d4, e4, h4⟩ := pop_some h; clear h; subst e4; have h := h4; clear h4
  obtain ⟨x5, d5, e5, h5⟩ := pop_some h; clear h; subst e5; have h := h5; clear h5
  obtain ⟨x6, d6, e6, h6⟩ := pop_some h; clear h; subst e6; have h := h6; clear h6
  obtain ⟨x7, d7, e7, h7⟩ := pop_some h; clear h; subst e7; have h := h7; clear h7
  obtain ⟨x8, d8, e8, h8⟩ := pop_some h; clear h; subst e8; have h := h8; clear h8
  obtain ⟨x9, d9, e9, h9⟩ := pop_some h; clear h; subst e9; have h := h9; clear h9
  obtain ⟨x10, d10, e10, h10⟩ := pop_some h; clear h; subst e10; have h := h10; clear h10
  obtain ⟨x11, d11, e11, h11⟩ := pop_some h; clear h; subst e11; have h := h11; clear h11
  obtain ⟨x12, d12, e12, h12⟩ := pop_some h; clear h; subst e12; have h := h12; clear h12
  obtain ⟨x13, d13, e13, h13⟩ := pop_some h; clear h; subst e13; have h := h13; clear h13
  obtain ⟨x14, d14, e14, h14⟩ := pop_some h; clear h; subst e14; have h := h14; clear h14
  obtain ⟨x15, d15, e15, h15⟩ := pop_some h; clear h; subst e15; have h := h15; clear h15
  obtain ⟨x16, d16, e16, h16⟩ := pop_some h; clear h; subst e16; have h := h16; clear h16
  obtain ⟨x17, d17, e17, h17⟩ := pop_some h; clear h; subst e17; have h := h17; clear h17
  obtain ⟨x18, d18, e18, h18⟩ := pop_some h; clear h; subst e18; have h := h18; clear h18
  obtain ⟨eN, hN⟩ := popN_some h; clear h; subst eN; have h := hN; clear hN
  cases k with
  | zero => cases (show none = some r from h)
  | succ k => exact ⟨k, Nat.lt_succ_self k, _, evermoreref3_Least.s42, (evermoreref3_Least.e42 k x0 x1 x2 x3 x4 x5 x6 x7 x8 x9 x10 x11 x12 x13 x14 x15 x16 x17 x18).symm.trans h⟩
theorem evermoreref3_Least.e (k : Nat) (x0 : (Int × (Int × ((List (List Int)) × ((List Int) × Unit))))) : evermoreref3_Least.f k x0 = run T (evermoreref3_Least.env k) Try.f21.ntmps (cutE 0 evermoreref3_Least.tbl k) (finE 0 evermoreref3_Least.to evermoreref3_Least.out) (fnRes Try.f21) [21] 100000 true ([.code evermoreref3_Least.body]) (evermoreref3_Least.ti.fill [⟨(.pair (.int .i64) (.pair (.int .i64) (.pair (.slice (.slice (.int .i64))) (.pair (.slice (.int .i64)) .unit)))), x0⟩]) := by kernel_rfl
theorem evermoreref3_Least.h (k : Nat) (ds : List Dat) (r : Int × Int × (List (List Int)) × (List Int)) (h : evermoreref3_Least.g k ds = some r) : ∃ k', k' < k ∧ run T (evermoreref3_Least.env k') Try.f21.ntmps (cutE 0 evermoreref3_Least.tbl k') (finE 0 evermoreref3_Least.to evermoreref3_Least.out) (fnRes Try.f21) [21] 100000 true ([.code evermoreref3_Least.body]) (evermoreref3_Least.ti.fill ds) = some r := by
  cases k with
  | zero => cases (show none = some r from h)
  | succ k =>
  replace h : evermoreref3_Least.c k ds = some r := h
  unfold evermoreref3_Least.c at h
  obtain ⟨x0, d0, e0, h0⟩ := pop_some h; clear h; subst e0; have h := h0; clear h0
  obtain ⟨eN, hN⟩ := popN_some h; clear h; subst eN; have h := hN; clear hN
  exact ⟨k, Nat.lt_succ_self k, (evermoreref3_Least.e k x0).symm.trans h⟩
theorem evermoreref3_Least.o (ds : List Dat) (r : Int × Int × (List (List Int)) × (List Int)) (h : evermoreref3_Least.out ds = some r) : ds = evermoreref3_Least.rs r := by
  unfold evermoreref3_Least.out at h
  obtain ⟨x0, d0, e0, h0⟩ := pop_some h; clear h; subst e0; have h := h0; clear h0
  obtain ⟨x1, d1, e1, h1⟩ := pop_some h; clear h; subst e1; have h := h1; clear h1
  obtain ⟨x2, d2, e2, h2⟩ := pop_some h; clear h; subst e2; have h := h2; clear h2
  obtain ⟨x3, d3, e3, h3⟩ := pop_some h; clear h; subst e3; have h := h3; clear h3
  obtain ⟨eN, hN⟩ := popN_some h; clear h; subst eN; have h := hN; clear hN
  cases h
  rfl
theorem evermoreref3_Least.fn : FnOk Try.prog 21 Try.f21 evermoreref3_Least.body Try.f21.ntmps 1 (fnRes Try.f21) :=
  fnOk_of (by kernel_rfl) (by kernel_rfl) (by kernel_rfl) (by kernel_rfl)
theorem evermoreref3_Least.con' : ∀ k ds r, evermoreref3_Least.g k ds = some r → Con Try.prog 21 1 evermoreref3_Least.ti evermoreref3_Least.to ds (evermoreref3_Least.rs r) :=
  fun_ok (T := T) T_ok mixed evermoreref3_Least.fn (env := evermoreref3_Least.env) (tbl := evermoreref3_Least.tbl) (gOut := evermoreref3_Least.out) (nin := 0) (cuts := [21]) (fuel := 100000) rfl (by kernel_rfl) (by kernel_rfl) (by kernel_rfl) (fun x hx => by
    simp only [evermoreref3_Least.tbl, List.mem_cons, List.not_mem_nil, or_false] at hx
    rcases hx with rfl | rfl | rfl | rfl
    · exact evermoreref3_Least.h9
    · exact evermoreref3_Least.h23
    · exact evermoreref3_Least.h31
    · exact evermoreref3_Least.h42
) evermoreref3_Least.o evermoreref3_Least.h (fun k _ => by unfold evermoreref3_Least.env; exact (envC_ok (fun ds K r h => by
    obtain ⟨x0, d0, e0, h0⟩ := pop_some h; clear h; subst e0; have h := h0; clear h0
    obtain ⟨eN, hN⟩ := popN_some h; clear h; subst eN; have h := hN; clear hN
    obtain ⟨r1, h1, h2⟩ := bind_some h
    exact ⟨_, h2, evermoreref3_Classes.con k _ h1⟩) env0_ok))
theorem evermoreref3_Least.con (k : Nat) {x0 : (Int × (Int × ((List (List Int)) × ((List Int) × Unit))))} (r : Int × Int × (List (List Int)) × (List Int)) (h : evermoreref3_Least.f k x0 = some r) : Con Try.prog 21 1 evermoreref3_Least.ti evermoreref3_Least.to [⟨(.pair (.int .i64) (.pair (.int .i64) (.pair (.slice (.slice (.int .i64))) (.pair (.slice (.int .i64)) .unit)))), x0⟩] (evermoreref3_Least.rs r) :=
  evermoreref3_Least.con' (k + 1) _ r (by show evermoreref3_Least.c k _ = some r; unfold evermoreref3_Least.c; simp only [pop_self, popN]; exact h)
def evermorelaw_small.f (k : Nat) (d0 : (Int × (Int × (List (List (Int)) × (List (Int) × Unit))))) : Option (Int × Int × Int × List (List Int) × List Int) :=
 (evermoreref3_Check.f k (d0.fst, d0.snd.fst, d0.snd.snd.fst, d0.snd.snd.snd.fst, ())).bind fun r1 =>
  if r1 = 0 then
   (evermoreref3_Least.f k (d0.fst, d0.snd.fst, d0.snd.snd.fst, d0.snd.snd.snd.fst, ())).bind fun r3 =>
    if 5 < (↑r3.snd.snd.fst.length : Int) then
     some (0, 0, 1, [], [])
    else
     some (r3.fst, r3.snd.fst, 0, r3.snd.snd.fst, r3.snd.snd.snd)
  else
   some (0, 0, r1, [], [])

noncomputable def evermorelaw_small.body : Code := fnBody Try.f73
def evermorelaw_small.ti : Tm := ⟨[(0, .p (.pair (.int .i64) (.pair (.int .i64) (.pair (.slice (.slice (.int .i64))) (.pair (.slice (.int .i64)) .unit)))))], []⟩
def evermorelaw_small.to : Tm := ⟨[(0, .agg [.p (.int .i64), .p (.int .i64), .own 0, .own 1]), (1, .p (.int .i64))], [.own (.slice (.int .i64)), .own (.int .i64)]⟩
def evermorelaw_small.rs (r : Int × Int × Int × (List (List Int)) × (List Int)) : List Dat := [⟨(.int .i64), r.1⟩, ⟨(.int .i64), r.2.1⟩, ⟨(.int .i64), r.2.2.1⟩, ⟨(.slice (.slice (.int .i64))), r.2.2.2.1⟩, ⟨(.slice (.int .i64)), r.2.2.2.2⟩]
def evermorelaw_small.out (ds : List Dat) : Option (Int × Int × Int × (List (List Int)) × (List Int)) := pop (.int .i64) ds fun x0 ds => pop (.int .i64) ds fun x1 ds => pop (.int .i64) ds fun x2 ds => pop (.slice (.slice (.int .i64))) ds fun x3 ds => pop (.slice (.int .i64)) ds fun x4 ds => popN ds (some (x0, x1, x2, x3, x4))
def evermorelaw_small.c (k : Nat) (ds : List Dat) : Option (Int × Int × Int × (List (List Int)) × (List Int)) := pop (.pair (.int .i64) (.pair (.int .i64) (.pair (.slice (.slice (.int .i64))) (.pair (.slice (.int .i64)) .unit)))) ds fun x0 ds => popN ds (evermorelaw_small.f k x0)
def evermorelaw_small.g : Nat → List Dat → Option (Int × Int × Int × (List (List Int)) × (List Int))
 | 0, _ => none
 | k + 1, ds => evermorelaw_small.c k ds
def evermorelaw_small.env (k : Nat) : Nat → List SV → List Chunk → KT (Int × Int × Int × (List (List Int)) × (List Int)) → Option (Int × Int × Int × (List (List Int)) × (List Int)) := (envC 19 1 evermoreref3_Check.ti evermoreref3_Check.to (fun ds K => pop (.pair (.int .i64) (.pair (.int .i64) (.pair (.slice (.slice (.int .i64))) (.pair (.slice (.int .i64)) .unit)))) ds fun x0 ds => popN ds ((evermoreref3_Check.f k x0).bind fun r => K (evermoreref3_Check.rs r))) (envC 21 1 evermoreref3_Least.ti evermoreref3_Least.to (fun ds K => pop (.pair (.int .i64) (.pair (.int .i64) (.pair (.slice (.slice (.int .i64))) (.pair (.slice (.int .i64)) .unit)))) ds fun x0 ds => popN ds ((evermoreref3_Least.f k x0).bind fun r => K (evermoreref3_Least.rs r))) env0))
def evermorelaw_small.tbl : List (Nat × Tm × (Nat → List Dat → Option (Int × Int × Int × (List (List Int)) × (List Int)))) := []
theorem evermorelaw_small.e (k : Nat) (x0 : (Int × (Int × ((List (List Int)) × ((List Int) × Unit))))) : evermorelaw_small.f k x0 = run T (evermorelaw_small.env k) Try.f73.ntmps (cutE 0 evermorelaw_small.tbl k) (finE 0 evermorelaw_small.to evermorelaw_small.out) (fnRes Try.f73) [] 100000 true ([.code evermorelaw_small.body]) (evermorelaw_small.ti.fill [⟨(.pair (.int .i64) (.pair (.int .i64) (.pair (.slice (.slice (.int .i64))) (.pair (.slice (.int .i64)) .unit)))), x0⟩]) := by kernel_rfl
theorem evermorelaw_small.h (k : Nat) (ds : List Dat) (r : Int × Int × Int × (List (List Int)) × (List Int)) (h : evermorelaw_small.g k ds = some r) : ∃ k', k' < k ∧ run T (evermorelaw_small.env k') Try.f73.ntmps (cutE 0 evermorelaw_small.tbl k') (finE 0 evermorelaw_small.to evermorelaw_small.out) (fnRes Try.f73) [] 100000 true ([.code evermorelaw_small.body]) (evermorelaw_small.ti.fill ds) = some r := by
  cases k with
  | zero => cases (show none = some r from h)
  | succ k =>
  replace h : evermorelaw_small.c k ds = some r := h
  unfold evermorelaw_small.c at h
  obtain ⟨x0, d0, e0, h0⟩ := pop_some h; clear h; subst e0; have h := h0; clear h0
  obtain ⟨eN, hN⟩ := popN_some h; clear h; subst eN; have h := hN; clear hN
  exact ⟨k, Nat.lt_succ_self k, (evermorelaw_small.e k x0).symm.trans h⟩
theorem evermorelaw_small.o (ds : List Dat) (r : Int × Int × Int × (List (List Int)) × (List Int)) (h : evermorelaw_small.out ds = some r) : ds = evermorelaw_small.rs r := by
  unfold evermorelaw_small.out at h
  obtain ⟨x0, d0, e0, h0⟩ := pop_some h; clear h; subst e0; have h := h0; clear h0
  obtain ⟨x1, d1, e1, h1⟩ := pop_some h; clear h; subst e1; have h := h1; clear h1
  obtain ⟨x2, d2, e2, h2⟩ := pop_some h; clear h; subst e2; have h := h2; clear h2
  obtain ⟨x3, d3, e3, h3⟩ := pop_some h; clear h; subst e3; have h := h3; clear h3
  obtain ⟨x4, d4, e4, h4⟩ := pop_some h; clear h; subst e4; have h := h4; clear h4
  obtain ⟨eN, hN⟩ := popN_some h; clear h; subst eN; have h := hN; clear hN
  cases h
  rfl
theorem evermorelaw_small.fn : FnOk Try.prog 73 Try.f73 evermorelaw_small.body Try.f73.ntmps 1 (fnRes Try.f73) :=
  fnOk_of (by kernel_rfl) (by kernel_rfl) (by kernel_rfl) (by kernel_rfl)
theorem evermorelaw_small.con' : ∀ k ds r, evermorelaw_small.g k ds = some r → Con Try.prog 73 1 evermorelaw_small.ti evermorelaw_small.to ds (evermorelaw_small.rs r) :=
  fun_ok (T := T) T_ok mixed evermorelaw_small.fn (env := evermorelaw_small.env) (tbl := evermorelaw_small.tbl) (gOut := evermorelaw_small.out) (nin := 0) (cuts := []) (fuel := 100000) rfl (by kernel_rfl) (by kernel_rfl) (by kernel_rfl) (fun x hx => by simp [evermorelaw_small.tbl] at hx) evermorelaw_small.o evermorelaw_small.h (fun k _ => by unfold evermorelaw_small.env; exact (envC_ok (fun ds K r h => by
    obtain ⟨x0, d0, e0, h0⟩ := pop_some h; clear h; subst e0; have h := h0; clear h0
    obtain ⟨eN, hN⟩ := popN_some h; clear h; subst eN; have h := hN; clear hN
    obtain ⟨r1, h1, h2⟩ := bind_some h
    exact ⟨_, h2, evermoreref3_Check.con k _ h1⟩) (envC_ok (fun ds K r h => by
    obtain ⟨x0, d0, e0, h0⟩ := pop_some h; clear h; subst e0; have h := h0; clear h0
    obtain ⟨eN, hN⟩ := popN_some h; clear h; subst eN; have h := hN; clear hN
    obtain ⟨r1, h1, h2⟩ := bind_some h
    exact ⟨_, h2, evermoreref3_Least.con k _ h1⟩) env0_ok)))
theorem evermorelaw_small.con (k : Nat) {x0 : (Int × (Int × ((List (List Int)) × ((List Int) × Unit))))} (r : Int × Int × Int × (List (List Int)) × (List Int)) (h : evermorelaw_small.f k x0 = some r) : Con Try.prog 73 1 evermorelaw_small.ti evermorelaw_small.to [⟨(.pair (.int .i64) (.pair (.int .i64) (.pair (.slice (.slice (.int .i64))) (.pair (.slice (.int .i64)) .unit)))), x0⟩] (evermorelaw_small.rs r) :=
  evermorelaw_small.con' (k + 1) _ r (by show evermorelaw_small.c k _ = some r; unfold evermorelaw_small.c; simp only [pop_self, popN]; exact h)
mutual
def evermoreref3_After.l2 : Nat → Int → List (Int) → Int → Int → Int → List (List (Int)) → List (Int) → Option (Int)
 | 0, _, _, _, _, _, _, _ => none
 | k + 1, q1, w2, i7, d3_0, d3_1, d3_2, d3_3 =>
  if i7 < (↑w2.length : Int) then
   if 0 ≤ q1 then
   if q1 < (↑d3_2.length : Int) then
    if 0 ≤ i7 then
     if i7 < (↑w2.length : Int) then
      if 0 ≤ Go.Proofs.YteacnmjinjaapaaSx.rd (Int.ofNat 0) w2 i7 then
       if Go.Proofs.YteacnmjinjaapaaSx.rd (Int.ofNat 0) w2 i7 < (↑(Go.Proofs.YteacnmjinjaapaaSx.rd [] d3_2 q1).length : Int) then
        evermoreref3_After.l2 k (Go.Proofs.YteacnmjinjaapaaSx.rd (Int.ofNat 0) (Go.Proofs.YteacnmjinjaapaaSx.rd [] d3_2 q1) (Go.Proofs.YteacnmjinjaapaaSx.rd (Int.ofNat 0) w2 i7)) w2 (Go.IntKind.i64.wrap (i7 + 1)) d3_0 d3_1 d3_2 d3_3
        else none
       else none
      else none
     else none
    else none
   else none
  else
   some (q1)
end
def evermoreref3_After.f (k : Nat) (d0 : (Int × (Int × (List (List (Int)) × (List (Int) × Unit))))) (q1 : Int) (w2 : List (Int)) : Option (Int) :=
 evermoreref3_After.l2 k q1 w2 0 d0.fst d0.snd.fst d0.snd.snd.fst d0.snd.snd.snd.fst

noncomputable def evermoreref3_After.body : Code := fnBody Try.f132
def evermoreref3_After.ti : Tm := ⟨[(0, .p (.pair (.int .i64) (.pair (.int .i64) (.pair (.slice (.slice (.int .i64))) (.pair (.slice (.int .i64)) .unit))))), (1, .p (.int .i64)), (2, .p (.slice (.int .i64)))], []⟩
def evermoreref3_After.to : Tm := ⟨[(0, .p (.int .i64))], []⟩
def evermoreref3_After.rs (r : Int) : List Dat := [⟨(.int .i64), r⟩]
def evermoreref3_After.out (ds : List Dat) : Option (Int) := pop (.int .i64) ds fun x0 ds => popN ds (some (x0))
def evermoreref3_After.c (k : Nat) (ds : List Dat) : Option (Int) := pop (.pair (.int .i64) (.pair (.int .i64) (.pair (.slice (.slice (.int .i64))) (.pair (.slice (.int .i64)) .unit)))) ds fun x0 ds => pop (.int .i64) ds fun x1 ds => pop (.slice (.int .i64)) ds fun x2 ds => popN ds (evermoreref3_After.f k x0 x1 x2)
def evermoreref3_After.g : Nat → List Dat → Option (Int)
 | 0, _ => none
 | k + 1, ds => evermoreref3_After.c k ds
def evermoreref3_After.env (k : Nat) : Nat → List SV → List Chunk → KT (Int) → Option (Int) := env0
def evermoreref3_After.t5 : Tm := ⟨[(1, .p (.int .i64)), (2, .p (.slice (.int .i64))), (3, .ptr 0 0), (7, .p (.int .i64))], [.box [.p (.int .i64), .p (.int .i64), .p (.slice (.slice (.int .i64))), .p (.slice (.int .i64))] 25]⟩
def evermoreref3_After.c5 (k : Nat) (ds : List Dat) : Option (Int) := pop (.int .i64) ds fun x0 ds => pop (.slice (.int .i64)) ds fun x1 ds => pop (.int .i64) ds fun x2 ds => pop (.int .i64) ds fun x3 ds => pop (.int .i64) ds fun x4 ds => pop (.slice (.slice (.int .i64))) ds fun x5 ds => pop (.slice (.int .i64)) ds fun x6 ds => popN ds (evermoreref3_After.l2 k x0 x1 x2 x3 x4 x5 x6)
def evermoreref3_After.tbl : List (Nat × Tm × (Nat → List Dat → Option (Int))) := [(5, evermoreref3_After.t5, evermoreref3_After.c5)]
theorem evermoreref3_After.e5 (k : Nat) (x0 : Int) (x1 : (List Int)) (x2 : Int) (x3 : Int) (x4 : Int) (x5 : (List (List Int))) (x6 : (List Int)) : evermoreref3_After.l2 (k + 1) x0 x1 x2 x3 x4 x5 x6 = run T (evermoreref3_After.env k) Try.f132.ntmps (cutE 0 evermoreref3_After.tbl k) (finE 0 evermoreref3_After.to evermoreref3_After.out) (fnRes Try.f132) [] 100000 true (start (stackOf 5 evermoreref3_After.body)) (evermoreref3_After.t5.fill [⟨(.int .i64), x0⟩, ⟨(.slice (.int .i64)), x1⟩, ⟨(.int .i64), x2⟩, ⟨(.int .i64), x3⟩, ⟨(.int .i64), x4⟩, ⟨(.slice (.slice (.int .i64))), x5⟩, ⟨(.slice (.int .i64)), x6⟩]) := by kernel_rfl
theorem evermoreref3_After.s5 : stackAt 5 evermoreref3_After.body [] = some (stackOf 5 evermoreref3_After.body) := by kernel_rfl
theorem evermoreref3_After.h5 (k : Nat) (ds : List Dat) (r : Int) (h : evermoreref3_After.c5 k ds = some r) : ∃ k', k' < k ∧ ∃ s, stackAt 5 evermoreref3_After.body [] = some s ∧ run T (evermoreref3_After.env k') Try.f132.ntmps (cutE 0 evermoreref3_After.tbl k') (finE 0 evermoreref3_After.to evermoreref3_After.out) (fnRes Try.f132) [] 100000 true (start s) (evermoreref3_After.t5.fill ds) = some r := by
  unfold evermoreref3_After.c5 at h
  obtain ⟨x0, d0, e0, h0⟩ := pop_some h; clear h; subst e0; have h := h0; clear h0
  obtain ⟨x1, d1, e1, h1⟩ := pop_some h; clear h; subst e1; have h := h1; clear h1
  obtain ⟨x2, d2, e2, h2⟩ := pop_some h; clear h; subst e2; have h := h2; clear h2
  obtain ⟨x3, d3, e3, h3⟩ := pop_some h; clear h; subst e3; have h := h3; clear h3
  obtain ⟨x4, d4, e4, h4⟩ := pop_some h; clear h; subst e4; have h := h4; clear h4
  obtain ⟨x5, d5, e5, h5⟩ := pop_some h; clear h; subst e5; have h := h5; clear h5
  obtain ⟨x6, d6, e6, h6⟩ := pop_some h; clear h; subst e6; have h := h6; clear h6
  obtain ⟨eN, hN⟩ := popN_some h; clear h; subst eN; have h := hN; clear hN
  cases k with
  | zero => cases (show none = some r from h)
  | succ k => exact ⟨k, Nat.lt_succ_self k, _, evermoreref3_After.s5, (evermoreref3_After.e5 k x0 x1 x2 x3 x4 x5 x6).symm.trans h⟩
theorem evermoreref3_After.e (k : Nat) (x0 : (Int × (Int × ((List (List Int)) × ((List Int) × Unit))))) (x1 : Int) (x2 : (List Int)) : evermoreref3_After.f k x0 x1 x2 = run T (evermoreref3_After.env k) Try.f132.ntmps (cutE 0 evermoreref3_After.tbl k) (finE 0 evermoreref3_After.to evermoreref3_After.out) (fnRes Try.f132) [] 100000 true ([.code evermoreref3_After.body]) (evermoreref3_After.ti.fill [⟨(.pair (.int .i64) (.pair (.int .i64) (.pair (.slice (.slice (.int .i64))) (.pair (.slice (.int .i64)) .unit)))), x0⟩, ⟨(.int .i64), x1⟩, ⟨(.slice (.int .i64)), x2⟩]) := by kernel_rfl
theorem evermoreref3_After.h (k : Nat) (ds : List Dat) (r : Int) (h : evermoreref3_After.g k ds = some r) : ∃ k', k' < k ∧ run T (evermoreref3_After.env k') Try.f132.ntmps (cutE 0 evermoreref3_After.tbl k') (finE 0 evermoreref3_After.to evermoreref3_After.out) (fnRes Try.f132) [] 100000 true ([.code evermoreref3_After.body]) (evermoreref3_After.ti.fill ds) = some r := by
  cases k with
  | zero => cases (show none = some r from h)
  | succ k =>
  replace h : evermoreref3_After.c k ds = some r := h
  unfold evermoreref3_After.c at h
  obtain ⟨x0, d0, e0, h0⟩ := pop_some h; clear h; subst e0; have h := h0; clear h0
  obtain ⟨x1, d1, e1, h1⟩ := pop_some h; clear h; subst e1; have h := h1; clear h1
  obtain ⟨x2, d2, e2, h2⟩ := pop_some h; clear h; subst e2; have h := h2; clear h2
  obtain ⟨eN, hN⟩ := popN_some h; clear h; subst eN; have h := hN; clear hN
  exact ⟨k, Nat.lt_succ_self k, (evermoreref3_After.e k x0 x1 x2).symm.trans h⟩
theorem evermoreref3_After.o (ds : List Dat) (r : Int) (h : evermoreref3_After.out ds = some r) : ds = evermoreref3_After.rs r := by
  unfold evermoreref3_After.out at h
  obtain ⟨x0, d0, e0, h0⟩ := pop_some h; clear h; subst e0; have h := h0; clear h0
  obtain ⟨eN, hN⟩ := popN_some h; clear h; subst eN; have h := hN; clear hN
  cases h
  rfl
theorem evermoreref3_After.fn : FnOk Try.prog 132 Try.f132 evermoreref3_After.body Try.f132.ntmps 3 (fnRes Try.f132) :=
  fnOk_of (by kernel_rfl) (by kernel_rfl) (by kernel_rfl) (by kernel_rfl)
theorem evermoreref3_After.con' : ∀ k ds r, evermoreref3_After.g k ds = some r → Con Try.prog 132 3 evermoreref3_After.ti evermoreref3_After.to ds (evermoreref3_After.rs r) :=
  fun_ok (T := T) T_ok mixed evermoreref3_After.fn (env := evermoreref3_After.env) (tbl := evermoreref3_After.tbl) (gOut := evermoreref3_After.out) (nin := 0) (cuts := []) (fuel := 100000) rfl (by kernel_rfl) (by kernel_rfl) (by kernel_rfl) (fun x hx => by
    simp only [evermoreref3_After.tbl, List.mem_cons, List.not_mem_nil, or_false] at hx
    subst hx
    · exact evermoreref3_After.h5
) evermoreref3_After.o evermoreref3_After.h (fun k _ => by unfold evermoreref3_After.env; exact env0_ok)
theorem evermoreref3_After.con (k : Nat) {x0 : (Int × (Int × ((List (List Int)) × ((List Int) × Unit))))} {x1 : Int} {x2 : (List Int)} (r : Int) (h : evermoreref3_After.f k x0 x1 x2 = some r) : Con Try.prog 132 3 evermoreref3_After.ti evermoreref3_After.to [⟨(.pair (.int .i64) (.pair (.int .i64) (.pair (.slice (.slice (.int .i64))) (.pair (.slice (.int .i64)) .unit)))), x0⟩, ⟨(.int .i64), x1⟩, ⟨(.slice (.int .i64)), x2⟩] (evermoreref3_After.rs r) :=
  evermoreref3_After.con' (k + 1) _ r (by show evermoreref3_After.c k _ = some r; unfold evermoreref3_After.c; simp only [pop_self, popN]; exact h)
mutual
def evermoreref4_Does.l3 : Nat → List (Int) → Int → Int → Int → List (List (Int)) → List (Int) → List (Int) → Option (List Int)
 | 0, _, _, _, _, _, _, _ => none
 | k + 1, w1, q6, d2_0, d2_1, d2_2, d2_3, out5 =>
  if q6 < (↑d2_2.length : Int) then
   (evermoreref3_After.f k (d2_0, d2_1, d2_2, d2_3, ()) q6 w1).bind fun r3 =>
    if (out5 ++ [r3]).length.blt 1000000000 = true then
    evermoreref4_Does.l3 k w1 (Go.IntKind.i64.wrap (q6 + 1)) d2_0 d2_1 d2_2 d2_3 (out5 ++ [r3])
    else none
  else
   some (out5)
end
def evermoreref4_Does.f (k : Nat) (d0 : (Int × (Int × (List (List (Int)) × (List (Int) × Unit))))) (w1 : List (Int)) : Option (List Int) :=
 evermoreref4_Does.l3 k w1 0 d0.fst d0.snd.fst d0.snd.snd.fst d0.snd.snd.snd.fst []

noncomputable def evermoreref4_Does.body : Code := fnBody Try.f150
def evermoreref4_Does.ti : Tm := ⟨[(0, .p (.pair (.int .i64) (.pair (.int .i64) (.pair (.slice (.slice (.int .i64))) (.pair (.slice (.int .i64)) .unit))))), (1, .p (.slice (.int .i64)))], []⟩
def evermoreref4_Does.to : Tm := ⟨[(0, .own 0)], [.own (.int .i64)]⟩
def evermoreref4_Does.rs (r : (List Int)) : List Dat := [⟨(.slice (.int .i64)), r⟩]
def evermoreref4_Does.out (ds : List Dat) : Option ((List Int)) := pop (.slice (.int .i64)) ds fun x0 ds => popN ds (some (x0))
def evermoreref4_Does.c (k : Nat) (ds : List Dat) : Option ((List Int)) := pop (.pair (.int .i64) (.pair (.int .i64) (.pair (.slice (.slice (.int .i64))) (.pair (.slice (.int .i64)) .unit)))) ds fun x0 ds => pop (.slice (.int .i64)) ds fun x1 ds => popN ds (evermoreref4_Does.f k x0 x1)
def evermoreref4_Does.g : Nat → List Dat → Option ((List Int))
 | 0, _ => none
 | k + 1, ds => evermoreref4_Does.c k ds
def evermoreref4_Does.env (k : Nat) : Nat → List SV → List Chunk → KT ((List Int)) → Option ((List Int)) := (envC 132 3 evermoreref3_After.ti evermoreref3_After.to (fun ds K => pop (.pair (.int .i64) (.pair (.int .i64) (.pair (.slice (.slice (.int .i64))) (.pair (.slice (.int .i64)) .unit)))) ds fun x0 ds => pop (.int .i64) ds fun x1 ds => pop (.slice (.int .i64)) ds fun x2 ds => popN ds ((evermoreref3_After.f k x0 x1 x2).bind fun r => K (evermoreref3_After.rs r))) env0)
def evermoreref4_Does.t7 : Tm := ⟨[(1, .p (.slice (.int .i64))), (2, .ptr 0 0), (5, .own 1), (6, .p (.int .i64))], [.box [.p (.int .i64), .p (.int .i64), .p (.slice (.slice (.int .i64))), .p (.slice (.int .i64))] 25, .own (.int .i64)]⟩
def evermoreref4_Does.c7 (k : Nat) (ds : List Dat) : Option ((List Int)) := pop (.slice (.int .i64)) ds fun x0 ds => pop (.int .i64) ds fun x1 ds => pop (.int .i64) ds fun x2 ds => pop (.int .i64) ds fun x3 ds => pop (.slice (.slice (.int .i64))) ds fun x4 ds => pop (.slice (.int .i64)) ds fun x5 ds => pop (.slice (.int .i64)) ds fun x6 ds => popN ds (evermoreref4_Does.l3 k x0 x1 x2 x3 x4 x5 x6)
def evermoreref4_Does.tbl : List (Nat × Tm × (Nat → List Dat → Option ((List Int)))) := [(7, evermoreref4_Does.t7, evermoreref4_Does.c7)]
theorem evermoreref4_Does.e7 (k : Nat) (x0 : (List Int)) (x1 : Int) (x2 : Int) (x3 : Int) (x4 : (List (List Int))) (x5 : (List Int)) (x6 : (List Int)) : evermoreref4_Does.l3 (k + 1) x0 x1 x2 x3 x4 x5 x6 = run T (evermoreref4_Does.env k) Try.f150.ntmps (cutE 0 evermoreref4_Does.tbl k) (finE 0 evermoreref4_Does.to evermoreref4_Does.out) (fnRes Try.f150) [] 100000 true (start (stackOf 7 evermoreref4_Does.body)) (evermoreref4_Does.t7.fill [⟨(.slice (.int .i64)), x0⟩, ⟨(.int .i64), x1⟩, ⟨(.int .i64), x2⟩, ⟨(.int .i64), x3⟩, ⟨(.slice (.slice (.int .i64))), x4⟩, ⟨(.slice (.int .i64)), x5⟩, ⟨(.slice (.int .i64)), x6⟩]) := by kernel_rfl
theorem evermoreref4_Does.s7 : stackAt 7 evermoreref4_Does.body [] = some (stackOf 7 evermoreref4_Does.body) := by kernel_rfl
theorem evermoreref4_Does.h7 (k : Nat) (ds : List Dat) (r : (List Int)) (h : evermoreref4_Does.c7 k ds = some r) : ∃ k', k' < k ∧ ∃ s, stackAt 7 evermoreref4_Does.body [] = some s ∧ run T (evermoreref4_Does.env k') Try.f150.ntmps (cutE 0 evermoreref4_Does.tbl k') (finE 0 evermoreref4_Does.to evermoreref4_Does.out) (fnRes Try.f150) [] 100000 true (start s) (evermoreref4_Does.t7.fill ds) = some r := by
  unfold evermoreref4_Does.c7 at h
  obtain ⟨x0, d0, e0, h0⟩ := pop_some h; clear h; subst e0; have h := h0; clear h0
  obtain ⟨x1, d1, e1, h1⟩ := pop_some h; clear h; subst e1; have h := h1; clear h1
  obtain ⟨x2, d2, e2, h2⟩ := pop_some h; clear h; subst e2; have h := h2; clear h2
  obtain ⟨x3, d3, e3, h3⟩ := pop_some h; clear h; subst e3; have h := h3; clear h3
  obtain ⟨x4, d4, e4, h4⟩ := pop_some h; clear h; subst e4; have h := h4; clear h4
  obtain ⟨x5, d5, e5, h5⟩ := pop_some h; clear h; subst e5; have h := h5; clear h5
  obtain ⟨x6, d6, e6, h6⟩ := pop_some h; clear h; subst e6; have h := h6; clear h6
  obtain ⟨eN, hN⟩ := popN_some h; clear h; subst eN; have h := hN; clear hN
  cases k with
  | zero => cases (show none = some r from h)
  | succ k => exact ⟨k, Nat.lt_succ_self k, _, evermoreref4_Does.s7, (evermoreref4_Does.e7 k x0 x1 x2 x3 x4 x5 x6).symm.trans h⟩
theorem evermoreref4_Does.e (k : Nat) (x0 : (Int × (Int × ((List (List Int)) × ((List Int) × Unit))))) (x1 : (List Int)) : evermoreref4_Does.f k x0 x1 = run T (evermoreref4_Does.env k) Try.f150.ntmps (cutE 0 evermoreref4_Does.tbl k) (finE 0 evermoreref4_Does.to evermoreref4_Does.out) (fnRes Try.f150) [] 100000 true ([.code evermoreref4_Does.body]) (evermoreref4_Does.ti.fill [⟨(.pair (.int .i64) (.pair (.int .i64) (.pair (.slice (.slice (.int .i64))) (.pair (.slice (.int .i64)) .unit)))), x0⟩, ⟨(.slice (.int .i64)), x1⟩]) := by kernel_rfl
theorem evermoreref4_Does.h (k : Nat) (ds : List Dat) (r : (List Int)) (h : evermoreref4_Does.g k ds = some r) : ∃ k', k' < k ∧ run T (evermoreref4_Does.env k') Try.f150.ntmps (cutE 0 evermoreref4_Does.tbl k') (finE 0 evermoreref4_Does.to evermoreref4_Does.out) (fnRes Try.f150) [] 100000 true ([.code evermoreref4_Does.body]) (evermoreref4_Does.ti.fill ds) = some r := by
  cases k with
  | zero => cases (show none = some r from h)
  | succ k =>
  replace h : evermoreref4_Does.c k ds = some r := h
  unfold evermoreref4_Does.c at h
  obtain ⟨x0, d0, e0, h0⟩ := pop_some h; clear h; subst e0; have h := h0; clear h0
  obtain ⟨x1, d1, e1, h1⟩ := pop_some h; clear h; subst e1; have h := h1; clear h1
  obtain ⟨eN, hN⟩ := popN_some h; clear h; subst eN; have h := hN; clear hN
  exact ⟨k, Nat.lt_succ_self k, (evermoreref4_Does.e k x0 x1).symm.trans h⟩
theorem evermoreref4_Does.o (ds : List Dat) (r : (List Int)) (h : evermoreref4_Does.out ds = some r) : ds = evermoreref4_Does.rs r := by
  unfold evermoreref4_Does.out at h
  obtain ⟨x0, d0, e0, h0⟩ := pop_some h; clear h; subst e0; have h := h0; clear h0
  obtain ⟨eN, hN⟩ := popN_some h; clear h; subst eN; have h := hN; clear hN
  cases h
  rfl
theorem evermoreref4_Does.fn : FnOk Try.prog 150 Try.f150 evermoreref4_Does.body Try.f150.ntmps 2 (fnRes Try.f150) :=
  fnOk_of (by kernel_rfl) (by kernel_rfl) (by kernel_rfl) (by kernel_rfl)
theorem evermoreref4_Does.con' : ∀ k ds r, evermoreref4_Does.g k ds = some r → Con Try.prog 150 2 evermoreref4_Does.ti evermoreref4_Does.to ds (evermoreref4_Does.rs r) :=
  fun_ok (T := T) T_ok mixed evermoreref4_Does.fn (env := evermoreref4_Does.env) (tbl := evermoreref4_Does.tbl) (gOut := evermoreref4_Does.out) (nin := 0) (cuts := []) (fuel := 100000) rfl (by kernel_rfl) (by kernel_rfl) (by kernel_rfl) (fun x hx => by
    simp only [evermoreref4_Does.tbl, List.mem_cons, List.not_mem_nil, or_false] at hx
    subst hx
    · exact evermoreref4_Does.h7
) evermoreref4_Does.o evermoreref4_Does.h (fun k _ => by unfold evermoreref4_Does.env; exact (envC_ok (fun ds K r h => by
    obtain ⟨x0, d0, e0, h0⟩ := pop_some h; clear h; subst e0; have h := h0; clear h0
    obtain ⟨x1, d1, e1, h1⟩ := pop_some h; clear h; subst e1; have h := h1; clear h1
    obtain ⟨x2, d2, e2, h2⟩ := pop_some h; clear h; subst e2; have h := h2; clear h2
    obtain ⟨eN, hN⟩ := popN_some h; clear h; subst eN; have h := hN; clear hN
    obtain ⟨r1, h1, h2⟩ := bind_some h
    exact ⟨_, h2, evermoreref3_After.con k _ h1⟩) env0_ok))
theorem evermoreref4_Does.con (k : Nat) {x0 : (Int × (Int × ((List (List Int)) × ((List Int) × Unit))))} {x1 : (List Int)} (r : (List Int)) (h : evermoreref4_Does.f k x0 x1 = some r) : Con Try.prog 150 2 evermoreref4_Does.ti evermoreref4_Does.to [⟨(.pair (.int .i64) (.pair (.int .i64) (.pair (.slice (.slice (.int .i64))) (.pair (.slice (.int .i64)) .unit)))), x0⟩, ⟨(.slice (.int .i64)), x1⟩] (evermoreref4_Does.rs r) :=
  evermoreref4_Does.con' (k + 1) _ r (by show evermoreref4_Does.c k _ = some r; unfold evermoreref4_Does.c; simp only [pop_self, popN]; exact h)
mutual
def evermoreref1_Words.l4 : Nat → List (Int) → List (Int) → Int → Option (Bool)
 | 0, _, _, _ => none
 | k + 1, a0, b1, i5 =>
  if i5 < (↑a0.length : Int) then
   if 0 ≤ i5 then
   if i5 < (↑a0.length : Int) then
    if 0 ≤ i5 then
     if i5 < (↑b1.length : Int) then
      if Go.Proofs.YteacnmjinjaapaaSx.rd (Int.ofNat 0) a0 i5 = Go.Proofs.YteacnmjinjaapaaSx.rd (Int.ofNat 0) b1 i5 then
        evermoreref1_Words.l4 k a0 b1 (Go.IntKind.i64.wrap (i5 + 1))
       else
        some (false)
      else none
     else none
    else none
   else none
  else
   some (true)
end
def evermoreref1_Words.f (k : Nat) (a0 : List (Int)) (b1 : List (Int)) : Option (Bool) :=
 if (↑a0.length : Int) = (↑b1.length : Int) then
  evermoreref1_Words.l4 k a0 b1 0
 else
  some (false)

noncomputable def evermoreref1_Words.body : Code := fnBody Try.f24
def evermoreref1_Words.ti : Tm := ⟨[(0, .p (.slice (.int .i64))), (1, .p (.slice (.int .i64)))], []⟩
def evermoreref1_Words.to : Tm := ⟨[(0, .p .bool)], []⟩
def evermoreref1_Words.rs (r : Bool) : List Dat := [⟨.bool, r⟩]
def evermoreref1_Words.out (ds : List Dat) : Option (Bool) := pop .bool ds fun x0 ds => popN ds (some (x0))
def evermoreref1_Words.c (k : Nat) (ds : List Dat) : Option (Bool) := pop (.slice (.int .i64)) ds fun x0 ds => pop (.slice (.int .i64)) ds fun x1 ds => popN ds (evermoreref1_Words.f k x0 x1)
def evermoreref1_Words.g : Nat → List Dat → Option (Bool)
 | 0, _ => none
 | k + 1, ds => evermoreref1_Words.c k ds
def evermoreref1_Words.env (k : Nat) : Nat → List SV → List Chunk → KT (Bool) → Option (Bool) := env0
def evermoreref1_Words.t9 : Tm := ⟨[(0, .p (.slice (.int .i64))), (1, .p (.slice (.int .i64))), (5, .p (.int .i64))], []⟩
def evermoreref1_Words.c9 (k : Nat) (ds : List Dat) : Option (Bool) := pop (.slice (.int .i64)) ds fun x0 ds => pop (.slice (.int .i64)) ds fun x1 ds => pop (.int .i64) ds fun x2 ds => popN ds (evermoreref1_Words.l4 k x0 x1 x2)
def evermoreref1_Words.tbl : List (Nat × Tm × (Nat → List Dat → Option (Bool))) := [(9, evermoreref1_Words.t9, evermoreref1_Words.c9)]
theorem evermoreref1_Words.e9 (k : Nat) (x0 : (List Int)) (x1 : (List Int)) (x2 : Int) : evermoreref1_Words.l4 (k + 1) x0 x1 x2 = run T (evermoreref1_Words.env k) Try.f24.ntmps (cutE 0 evermoreref1_Words.tbl k) (finE 0 evermoreref1_Words.to evermoreref1_Words.out) (fnRes Try.f24) [] 100000 true (start (stackOf 9 evermoreref1_Words.body)) (evermoreref1_Words.t9.fill [⟨(.slice (.int .i64)), x0⟩, ⟨(.slice (.int .i64)), x1⟩, ⟨(.int .i64), x2⟩]) := by kernel_rfl
theorem evermoreref1_Words.s9 : stackAt 9 evermoreref1_Words.body [] = some (stackOf 9 evermoreref1_Words.body) := by kernel_rfl
theorem evermoreref1_Words.h9 (k : Nat) (ds : List Dat) (r : Bool) (h : evermoreref1_Words.c9 k ds = some r) : ∃ k', k' < k ∧ ∃ s, stackAt 9 evermoreref1_Words.body [] = some s ∧ run T (evermoreref1_Words.env k') Try.f24.ntmps (cutE 0 evermoreref1_Words.tbl k') (finE 0 evermoreref1_Words.to evermoreref1_Words.out) (fnRes Try.f24) [] 100000 true (start s) (evermoreref1_Words.t9.fill ds) = some r := by
  unfold evermoreref1_Words.c9 at h
  obtain ⟨x0, d0, e0, h0⟩ := pop_some h; clear h; subst e0; have h := h0; clear h0
  obtain ⟨x1, d1, e1, h1⟩ := pop_some h; clear h; subst e1; have h := h1; clear h1
  obtain ⟨x2, d2, e2, h2⟩ := pop_some h; clear h; subst e2; have h := h2; clear h2
  obtain ⟨eN, hN⟩ := popN_some h; clear h; subst eN; have h := hN; clear hN
  cases k with
  | zero => cases (show none = some r from h)
  | succ k => exact ⟨k, Nat.lt_succ_self k, _, evermoreref1_Words.s9, (evermoreref1_Words.e9 k x0 x1 x2).symm.trans h⟩
theorem evermoreref1_Words.e (k : Nat) (x0 : (List Int)) (x1 : (List Int)) : evermoreref1_Words.f k x0 x1 = run T (evermoreref1_Words.env k) Try.f24.ntmps (cutE 0 evermoreref1_Words.tbl k) (finE 0 evermoreref1_Words.to evermoreref1_Words.out) (fnRes Try.f24) [] 100000 true ([.code evermoreref1_Words.body]) (evermoreref1_Words.ti.fill [⟨(.slice (.int .i64)), x0⟩, ⟨(.slice (.int .i64)), x1⟩]) := by kernel_rfl
theorem evermoreref1_Words.h (k : Nat) (ds : List Dat) (r : Bool) (h : evermoreref1_Words.g k ds = some r) : ∃ k', k' < k ∧ run T (evermoreref1_Words.env k') Try.f24.ntmps (cutE 0 evermoreref1_Words.tbl k') (finE 0 evermoreref1_Words.to evermoreref1_Words.out) (fnRes Try.f24) [] 100000 true ([.code evermoreref1_Words.body]) (evermoreref1_Words.ti.fill ds) = some r := by
  cases k with
  | zero => cases (show none = some r from h)
  | succ k =>
  replace h : evermoreref1_Words.c k ds = some r := h
  unfold evermoreref1_Words.c at h
  obtain ⟨x0, d0, e0, h0⟩ := pop_some h; clear h; subst e0; have h := h0; clear h0
  obtain ⟨x1, d1, e1, h1⟩ := pop_some h; clear h; subst e1; have h := h1; clear h1
  obtain ⟨eN, hN⟩ := popN_some h; clear h; subst eN; have h := hN; clear hN
  exact ⟨k, Nat.lt_succ_self k, (evermoreref1_Words.e k x0 x1).symm.trans h⟩
theorem evermoreref1_Words.o (ds : List Dat) (r : Bool) (h : evermoreref1_Words.out ds = some r) : ds = evermoreref1_Words.rs r := by
  unfold evermoreref1_Words.out at h
  obtain ⟨x0, d0, e0, h0⟩ := pop_some h; clear h; subst e0; have h := h0; clear h0
  obtain ⟨eN, hN⟩ := popN_some h; clear h; subst eN; have h := hN; clear hN
  cases h
  rfl
theorem evermoreref1_Words.fn : FnOk Try.prog 24 Try.f24 evermoreref1_Words.body Try.f24.ntmps 2 (fnRes Try.f24) :=
  fnOk_of (by kernel_rfl) (by kernel_rfl) (by kernel_rfl) (by kernel_rfl)
theorem evermoreref1_Words.con' : ∀ k ds r, evermoreref1_Words.g k ds = some r → Con Try.prog 24 2 evermoreref1_Words.ti evermoreref1_Words.to ds (evermoreref1_Words.rs r) :=
  fun_ok (T := T) T_ok mixed evermoreref1_Words.fn (env := evermoreref1_Words.env) (tbl := evermoreref1_Words.tbl) (gOut := evermoreref1_Words.out) (nin := 0) (cuts := []) (fuel := 100000) rfl (by kernel_rfl) (by kernel_rfl) (by kernel_rfl) (fun x hx => by
    simp only [evermoreref1_Words.tbl, List.mem_cons, List.not_mem_nil, or_false] at hx
    subst hx
    · exact evermoreref1_Words.h9
) evermoreref1_Words.o evermoreref1_Words.h (fun k _ => by unfold evermoreref1_Words.env; exact env0_ok)
theorem evermoreref1_Words.con (k : Nat) {x0 : (List Int)} {x1 : (List Int)} (r : Bool) (h : evermoreref1_Words.f k x0 x1 = some r) : Con Try.prog 24 2 evermoreref1_Words.ti evermoreref1_Words.to [⟨(.slice (.int .i64)), x0⟩, ⟨(.slice (.int .i64)), x1⟩] (evermoreref1_Words.rs r) :=
  evermoreref1_Words.con' (k + 1) _ r (by show evermoreref1_Words.c k _ = some r; unfold evermoreref1_Words.c; simp only [pop_self, popN]; exact h)
mutual
def evermoreref4_Elements.l4 : Nat → Int → Int → Int → List (List (Int)) → List (Int) → List ((List (Int) × (List (Int) × Unit))) → Option (List (List Int × List Int × Unit))
 | 0, _, _, _, _, _, _ => none
 | k + 1, i5, d1_0, d1_1, d1_2, d1_3, l4 =>
  if i5 < (↑l4.length : Int) then
   evermoreref4_Elements.l7 k i5 0 d1_0 d1_1 d1_2 d1_3 l4
  else
   some (l4)
def evermoreref4_Elements.l7 : Nat → Int → Int → Int → Int → List (List (Int)) → List (Int) → List ((List (Int) × (List (Int) × Unit))) → Option (List (List Int × List Int × Unit))
 | 0, _, _, _, _, _, _, _ => none
 | k + 1, i5, a6, d1_0, d1_1, d1_2, d1_3, l4 =>
  if a6 < d1_0 then
   if 0 ≤ i5 then
   if i5 < (↑l4.length : Int) then
    if ([] ++ (l4.getD i5.toNat ([], [], ())).snd.fst).length.blt 1000000000 = true then
     if ([] ++ (l4.getD i5.toNat ([], [], ())).snd.fst ++ [a6]).length.blt 1000000000 = true then
      (evermoreref4_Does.f k (d1_0, d1_1, d1_2, d1_3, ()) ([] ++ (l4.getD i5.toNat ([], [], ())).snd.fst ++ [a6])).bind fun r7 =>
        evermoreref4_Elements.l14 k i5 a6 false 0 d1_0 d1_1 d1_2 d1_3 l4 ([] ++ (l4.getD i5.toNat ([], [], ())).snd.fst ++ [a6]) r7
      else none
     else none
    else none
   else none
  else
   evermoreref4_Elements.l4 k (Go.IntKind.i64.wrap (i5 + 1)) d1_0 d1_1 d1_2 d1_3 l4
def evermoreref4_Elements.l14 : Nat → Int → Int → Bool → Int → Int → Int → List (List (Int)) → List (Int) → List ((List (Int) × (List (Int) × Unit))) → List (Int) → List (Int) → Option (List (List Int × List Int × Unit))
 | 0, _, _, _, _, _, _, _, _, _, _, _ => none
 | k + 1, i5, a6, known9, k10, d1_0, d1_1, d1_2, d1_3, l4, w7, does8 =>
  if k10 < (↑l4.length : Int) then
   if known9 = true then
    if known9 = true then
     evermoreref4_Elements.j8 k i5 a6 d1_0 d1_1 d1_2 d1_3 l4
    else
     if (l4 ++ [(does8, w7, ())]).length.blt 1000000000 = true then
     evermoreref4_Elements.j8 k i5 a6 d1_0 d1_1 d1_2 d1_3 (l4 ++ [(does8, w7, ())])
     else none
   else
    if 0 ≤ k10 then
    if k10 < (↑l4.length : Int) then
     (evermoreref1_Words.f k (l4.getD k10.toNat ([], [], ())).fst does8).bind fun r6 =>
       evermoreref4_Elements.l14 k i5 a6 r6 (Go.IntKind.i64.wrap (k10 + 1)) d1_0 d1_1 d1_2 d1_3 l4 w7 does8
     else none
    else none
  else
   if known9 = true then
    evermoreref4_Elements.j8 k i5 a6 d1_0 d1_1 d1_2 d1_3 l4
   else
    if (l4 ++ [(does8, w7, ())]).length.blt 1000000000 = true then
    evermoreref4_Elements.j8 k i5 a6 d1_0 d1_1 d1_2 d1_3 (l4 ++ [(does8, w7, ())])
    else none
def evermoreref4_Elements.j8 : Nat → Int → Int → Int → Int → List (List (Int)) → List (Int) → List ((List (Int) × (List (Int) × Unit))) → Option (List (List Int × List Int × Unit))
 | 0, _, _, _, _, _, _, _ => none
 | k + 1, i5, a6, d1_0, d1_1, d1_2, d1_3, l4 =>
  evermoreref4_Elements.l7 k i5 (Go.IntKind.i64.wrap (a6 + 1)) d1_0 d1_1 d1_2 d1_3 l4
end
def evermoreref4_Elements.f (k : Nat) (d0 : (Int × (Int × (List (List (Int)) × (List (Int) × Unit))))) : Option (List (List Int × List Int × Unit)) :=
 (evermoreref4_Does.f k (d0.fst, d0.snd.fst, d0.snd.snd.fst, d0.snd.snd.snd.fst, ()) []).bind fun r1 =>
  evermoreref4_Elements.l4 k 0 d0.fst d0.snd.fst d0.snd.snd.fst d0.snd.snd.snd.fst ([(r1, [], ())])

noncomputable def evermoreref4_Elements.body : Code := fnBody Try.f74
def evermoreref4_Elements.ti : Tm := ⟨[(0, .p (.pair (.int .i64) (.pair (.int .i64) (.pair (.slice (.slice (.int .i64))) (.pair (.slice (.int .i64)) .unit)))))], []⟩
def evermoreref4_Elements.to : Tm := ⟨[(0, .own 0)], [.own (.pair (.slice (.int .i64)) (.pair (.slice (.int .i64)) .unit))]⟩
def evermoreref4_Elements.rs (r : (List ((List Int) × ((List Int) × Unit)))) : List Dat := [⟨(.slice (.pair (.slice (.int .i64)) (.pair (.slice (.int .i64)) .unit))), r⟩]
def evermoreref4_Elements.out (ds : List Dat) : Option ((List ((List Int) × ((List Int) × Unit)))) := pop (.slice (.pair (.slice (.int .i64)) (.pair (.slice (.int .i64)) .unit))) ds fun x0 ds => popN ds (some (x0))
def evermoreref4_Elements.c (k : Nat) (ds : List Dat) : Option ((List ((List Int) × ((List Int) × Unit)))) := pop (.pair (.int .i64) (.pair (.int .i64) (.pair (.slice (.slice (.int .i64))) (.pair (.slice (.int .i64)) .unit)))) ds fun x0 ds => popN ds (evermoreref4_Elements.f k x0)
def evermoreref4_Elements.g : Nat → List Dat → Option ((List ((List Int) × ((List Int) × Unit))))
 | 0, _ => none
 | k + 1, ds => evermoreref4_Elements.c k ds
def evermoreref4_Elements.env (k : Nat) : Nat → List SV → List Chunk → KT ((List ((List Int) × ((List Int) × Unit)))) → Option ((List ((List Int) × ((List Int) × Unit)))) := (envC 150 2 evermoreref4_Does.ti evermoreref4_Does.to (fun ds K => pop (.pair (.int .i64) (.pair (.int .i64) (.pair (.slice (.slice (.int .i64))) (.pair (.slice (.int .i64)) .unit)))) ds fun x0 ds => pop (.slice (.int .i64)) ds fun x1 ds => popN ds ((evermoreref4_Does.f k x0 x1).bind fun r => K (evermoreref4_Does.rs r))) (envC 24 2 evermoreref1_Words.ti evermoreref1_Words.to (fun ds K => pop (.slice (.int .i64)) ds fun x0 ds => pop (.slice (.int .i64)) ds fun x1 ds => popN ds ((evermoreref1_Words.f k x0 x1).bind fun r => K (evermoreref1_Words.rs r))) env0))
def evermoreref4_Elements.t9 : Tm := ⟨[(1, .ptr 0 0), (4, .own 1), (5, .p (.int .i64))], [.box [.p (.int .i64), .p (.int .i64), .p (.slice (.slice (.int .i64))), .p (.slice (.int .i64))] 25, .own (.pair (.slice (.int .i64)) (.pair (.slice (.int .i64)) .unit))]⟩
def evermoreref4_Elements.c9 (k : Nat) (ds : List Dat) : Option ((List ((List Int) × ((List Int) × Unit)))) := pop (.int .i64) ds fun x0 ds => pop (.int .i64) ds fun x1 ds => pop (.int .i64) ds fun x2 ds => pop (.slice (.slice (.int .i64))) ds fun x3 ds => pop (.slice (.int .i64)) ds fun x4 ds => pop (.slice (.pair (.slice (.int .i64)) (.pair (.slice (.int .i64)) .unit))) ds fun x5 ds => popN ds (evermoreref4_Elements.l4 k x0 x1 x2 x3 x4 x5)
def evermoreref4_Elements.t15 : Tm := ⟨[(1, .ptr 0 0), (4, .own 1), (5, .p (.int .i64)), (6, .p (.int .i64))], [.box [.p (.int .i64), .p (.int .i64), .p (.slice (.slice (.int .i64))), .p (.slice (.int .i64))] 25, .own (.pair (.slice (.int .i64)) (.pair (.slice (.int .i64)) .unit))]⟩
def evermoreref4_Elements.c15 (k : Nat) (ds : List Dat) : Option ((List ((List Int) × ((List Int) × Unit)))) := pop (.int .i64) ds fun x0 ds => pop (.int .i64) ds fun x1 ds => pop (.int .i64) ds fun x2 ds => pop (.int .i64) ds fun x3 ds => pop (.slice (.slice (.int .i64))) ds fun x4 ds => pop (.slice (.int .i64)) ds fun x5 ds => pop (.slice (.pair (.slice (.int .i64)) (.pair (.slice (.int .i64)) .unit))) ds fun x6 ds => popN ds (evermoreref4_Elements.l7 k x0 x1 x2 x3 x4 x5 x6)
def evermoreref4_Elements.t29 : Tm := ⟨[(1, .ptr 0 0), (4, .own 1), (5, .p (.int .i64)), (6, .p (.int .i64)), (7, .own 2), (8, .own 3), (9, .p .bool), (10, .p (.int .i64))], [.box [.p (.int .i64), .p (.int .i64), .p (.slice (.slice (.int .i64))), .p (.slice (.int .i64))] 25, .own (.pair (.slice (.int .i64)) (.pair (.slice (.int .i64)) .unit)), .own (.int .i64), .own (.int .i64)]⟩
def evermoreref4_Elements.c29 (k : Nat) (ds : List Dat) : Option ((List ((List Int) × ((List Int) × Unit)))) := pop (.int .i64) ds fun x0 ds => pop (.int .i64) ds fun x1 ds => pop .bool ds fun x2 ds => pop (.int .i64) ds fun x3 ds => pop (.int .i64) ds fun x4 ds => pop (.int .i64) ds fun x5 ds => pop (.slice (.slice (.int .i64))) ds fun x6 ds => pop (.slice (.int .i64)) ds fun x7 ds => pop (.slice (.pair (.slice (.int .i64)) (.pair (.slice (.int .i64)) .unit))) ds fun x8 ds => pop (.slice (.int .i64)) ds fun x9 ds => pop (.slice (.int .i64)) ds fun x10 ds => popN ds (evermoreref4_Elements.l14 k x0 x1 x2 x3 x4 x5 x6 x7 x8 x9 x10)
def evermoreref4_Elements.t16 : Tm := ⟨[(1, .ptr 0 0), (4, .own 1), (5, .p (.int .i64)), (6, .p (.int .i64))], [.box [.p (.int .i64), .p (.int .i64), .p (.slice (.slice (.int .i64))), .p (.slice (.int .i64))] 25, .own (.pair (.slice (.int .i64)) (.pair (.slice (.int .i64)) .unit))]⟩
def evermoreref4_Elements.c16 (k : Nat) (ds : List Dat) : Option ((List ((List Int) × ((List Int) × Unit)))) := pop (.int .i64) ds fun x0 ds => pop (.int .i64) ds fun x1 ds => pop (.int .i64) ds fun x2 ds => pop (.int .i64) ds fun x3 ds => pop (.slice (.slice (.int .i64))) ds fun x4 ds => pop (.slice (.int .i64)) ds fun x5 ds => pop (.slice (.pair (.slice (.int .i64)) (.pair (.slice (.int .i64)) .unit))) ds fun x6 ds => popN ds (evermoreref4_Elements.j8 k x0 x1 x2 x3 x4 x5 x6)
def evermoreref4_Elements.tbl : List (Nat × Tm × (Nat → List Dat → Option ((List ((List Int) × ((List Int) × Unit)))))) := [(9, evermoreref4_Elements.t9, evermoreref4_Elements.c9), (15, evermoreref4_Elements.t15, evermoreref4_Elements.c15), (29, evermoreref4_Elements.t29, evermoreref4_Elements.c29), (16, evermoreref4_Elements.t16, evermoreref4_Elements.c16)]
theorem evermoreref4_Elements.e9 (k : Nat) (x0 : Int) (x1 : Int) (x2 : Int) (x3 : (List (List Int))) (x4 : (List Int)) (x5 : (List ((List Int) × ((List Int) × Unit)))) : evermoreref4_Elements.l4 (k + 1) x0 x1 x2 x3 x4 x5 = run T (evermoreref4_Elements.env k) Try.f74.ntmps (cutE 0 evermoreref4_Elements.tbl k) (finE 0 evermoreref4_Elements.to evermoreref4_Elements.out) (fnRes Try.f74) [8] 100000 true (start (stackOf 9 evermoreref4_Elements.body)) (evermoreref4_Elements.t9.fill [⟨(.int .i64), x0⟩, ⟨(.int .i64), x1⟩, ⟨(.int .i64), x2⟩, ⟨(.slice (.slice (.int .i64))), x3⟩, ⟨(.slice (.int .i64)), x4⟩, ⟨(.slice (.pair (.slice (.int .i64)) (.pair (.slice (.int .i64)) .unit))), x5⟩]) := by kernel_rfl
theorem evermoreref4_Elements.s9 : stackAt 9 evermoreref4_Elements.body [] = some (stackOf 9 evermoreref4_Elements.body) := by kernel_rfl
theorem evermoreref4_Elements.h9 (k : Nat) (ds : List Dat) (r : (List ((List Int) × ((List Int) × Unit)))) (h : evermoreref4_Elements.c9 k ds = some r) : ∃ k', k' < k ∧ ∃ s, stackAt 9 evermoreref4_Elements.body [] = some s ∧ run T (evermoreref4_Elements.env k') Try.f74.ntmps (cutE 0 evermoreref4_Elements.tbl k') (finE 0 evermoreref4_Elements.to evermoreref4_Elements.out) (fnRes Try.f74) [8] 100000 true (start s) (evermoreref4_Elements.t9.fill ds) = some r := by
  unfold evermoreref4_Elements.c9 at h
  obtain ⟨x0, d0, e0, h0⟩ := pop_some h; clear h; subst e0; have h := h0; clear h0
  obtain ⟨x1, d1, e1, h1⟩ := pop_some h; clear h; subst e1; have h := h1; clear h1
  obtain ⟨x2, d2, e2, h2⟩ := pop_some h; clear h; subst e2; have h := h2; clear h2
  obtain ⟨x3, d3, e3, h3⟩ := pop_some h; clear h; subst e3; have h := h3; clear h3
  obtain ⟨x4, d4, e4, h4⟩ := pop_some h; clear h; subst e4; have h := h4; clear h4
  obtain ⟨x5, d5, e5, h5⟩ := pop_some h; clear h; subst e5; have h := h5; clear h5
  obtain ⟨eN, hN⟩ := popN_some h; clear h; subst eN; have h := hN; clear hN
  cases k with
  | zero => cases (show none = some r from h)
  | succ k => exact ⟨k, Nat.lt_succ_self k, _, evermoreref4_Elements.s9, (evermoreref4_Elements.e9 k x0 x1 x2 x3 x4 x5).symm.trans h⟩
theorem evermoreref4_Elements.e15 (k : Nat) (x0 : Int) (x1 : Int) (x2 : Int) (x3 : Int) (x4 : (List (List Int))) (x5 : (List Int)) (x6 : (List ((List Int) × ((List Int) × Unit)))) : evermoreref4_Elements.l7 (k + 1) x0 x1 x2 x3 x4 x5 x6 = run T (evermoreref4_Elements.env k) Try.f74.ntmps (cutE 0 evermoreref4_Elements.tbl k) (finE 0 evermoreref4_Elements.to evermoreref4_Elements.out) (fnRes Try.f74) [8] 100000 true (start (stackOf 15 evermoreref4_Elements.body)) (evermoreref4_Elements.t15.fill [⟨(.int .i64), x0⟩, ⟨(.int .i64), x1⟩, ⟨(.int .i64), x2⟩, ⟨(.int .i64), x3⟩, ⟨(.slice (.slice (.int .i64))), x4⟩, ⟨(.slice (.int .i64)), x5⟩, ⟨(.slice (.pair (.slice (.int .i64)) (.pair (.slice (.int .i64)) .unit))), x6⟩]) := by kernel_rfl
theorem evermoreref4_Elements.s15 : stackAt 15 evermoreref4_Elements.body [] = some (stackOf 15 evermoreref4_Elements.body) := by kernel_rfl
theorem evermoreref4_Elements.h15 (k : Nat) (ds : List Dat) (r : (List ((List Int) × ((List Int) × Unit)))) (h : evermoreref4_Elements.c15 k ds = some r) : ∃ k', k' < k ∧ ∃ s, stackAt 15 evermoreref4_Elements.body [] = some s ∧ run T (evermoreref4_Elements.env k') Try.f74.ntmps (cutE 0 evermoreref4_Elements.tbl k') (finE 0 evermoreref4_Elements.to evermoreref4_Elements.out) (fnRes Try.f74) [8] 100000 true (start s) (evermoreref4_Elements.t15.fill ds) = some r := by
  unfold evermoreref4_Elements.c15 at h
  obtain ⟨x0, d0, e0, h0⟩ := pop_some h; clear h; subst e0; have h := h0; clear h0
  obtain ⟨x1, d1, e1, h1⟩ := pop_some h; clear h; subst e1; have h := h1; clear h1
  obtain ⟨x2, d2, e2, h2⟩ := pop_some h; clear h; subst e2; have h := h2; clear h2
  obtain ⟨x3, d3, e3, h3⟩ := pop_some h; clear h; subst e3; have h := h3; clear h3
  obtain ⟨x4, d4, e4, h4⟩ := pop_some h; clear h; subst e4; have h := h4; clear h4
  obtain ⟨x5, d5, e5, h5⟩ := pop_some h; clear h; subst e5; have h := h5; clear h5
  obtain ⟨x6, d6, e6, h6⟩ := pop_some h; clear h; subst e6; have h := h6; clear h6
  obtain ⟨eN, hN⟩ := popN_some h; clear h; subst eN; have h := hN; clear hN
  cases k with
  | zero => cases (show none = some r from h)
  | succ k => exact ⟨k, Nat.lt_succ_self k, _, evermoreref4_Elements.s15, (evermoreref4_Elements.e15 k x0 x1 x2 x3 x4 x5 x6).symm.trans h⟩
theorem evermoreref4_Elements.e29 (k : Nat) (x0 : Int) (x1 : Int) (x2 : Bool) (x3 : Int) (x4 : Int) (x5 : Int) (x6 : (List (List Int))) (x7 : (List Int)) (x8 : (List ((List Int) × ((List Int) × Unit)))) (x9 : (List Int)) (x10 : (List Int)) : evermoreref4_Elements.l14 (k + 1) x0 x1 x2 x3 x4 x5 x6 x7 x8 x9 x10 = run T (evermoreref4_Elements.env k) Try.f74.ntmps (cutE 0 evermoreref4_Elements.tbl k) (finE 0 evermoreref4_Elements.to evermoreref4_Elements.out) (fnRes Try.f74) [8] 100000 true (start (stackOf 29 evermoreref4_Elements.body)) (evermoreref4_Elements.t29.fill [⟨(.int .i64), x0⟩, ⟨(.int .i64), x1⟩, ⟨.bool, x2⟩, ⟨(.int .i64), x3⟩, ⟨(.int .i64), x4⟩, ⟨(.int .i64), x5⟩, ⟨(.slice (.slice (.int .i64))), x6⟩, ⟨(.slice (.int .i64)), x7⟩, ⟨(.slice (.pair (.slice (.int .i64)) (.pair (.slice (.int .i64)) .unit))), x8⟩, ⟨(.slice (.int .i64)), x9⟩, ⟨(.slice (.int .i64)), x10⟩]) := by kernel_rfl
theorem evermoreref4_Elements.s29 : stackAt 29 evermoreref4_Elements.body [] = some (stackOf 29 evermoreref4_Elements.body) := by kernel_rfl
theorem evermoreref4_Elements.h29 (k : Nat) (ds : List Dat) (r : (List ((List Int) × ((List Int) × Unit)))) (h : evermoreref4_Elements.c29 k ds = some r) : ∃ k', k' < k ∧ ∃ s, stackAt 29 evermoreref4_Elements.body [] = some s ∧ run T (evermoreref4_Elements.env k') Try.f74.ntmps (cutE 0 evermoreref4_Elements.tbl k') (finE 0 evermoreref4_Elements.to evermoreref4_Elements.out) (fnRes Try.f74) [8] 100000 true (start s) (evermoreref4_Elements.t29.fill ds) = some r := by
  unfold evermoreref4_Elements.c29 at h
  obtain ⟨x0, d0, e0, h0⟩ := pop_some h; clear h; subst e0; have h := h0; clear h0
  obtain ⟨x1, d1, e1, h1⟩ := pop_some h; clear h; subst e1; have h := h1; clear h1
  obtain ⟨x2, d2, e2, h2⟩ := pop_some h; clear h; subst e2; have h := h2; clear h2
  obtain ⟨x3, d3, e3, h3⟩ := pop_some h; clear h; subst e3; have h := h3; clear h3
  obtain ⟨x4, d4, e4, h4⟩ := pop_some h; clear h; subst e4; have h := h4; clear h4
  obtain ⟨x5, d5, e5, h5⟩ := pop_some h; clear h; subst e5; have h := h5; clear h5
  obtain ⟨x6, d6, e6, h6⟩ := pop_some h; clear h; subst e6; have h := h6; clear h6
  obtain ⟨x7, d7, e7, h7⟩ := pop_some h; clear h; subst e7; have h := h7; clear h7
  obtain ⟨x8, d8, e8, h8⟩ := pop_some h; clear h; subst e8; have h := h8; clear h8
  obtain ⟨x9, d9, e9, h9⟩ := pop_some h; clear h; subst e9; have h := h9; clear h9
  obtain ⟨x10, d10, e10, h10⟩ := pop_some h; clear h; subst e10; have h := h10; clear h10
  obtain ⟨eN, hN⟩ := popN_some h; clear h; subst eN; have h := hN; clear hN
  cases k with
  | zero => cases (show none = some r from h)
  | succ k => exact ⟨k, Nat.lt_succ_self k, _, evermoreref4_Elements.s29, (evermoreref4_Elements.e29 k x0 x1 x2 x3 x4 x5 x6 x7 x8 x9 x10).symm.trans h⟩
theorem evermoreref4_Elements.e16 (k : Nat) (x0 : Int) (x1 : Int) (x2 : Int) (x3 : Int) (x4 : (List (List Int))) (x5 : (List Int)) (x6 : (List ((List Int) × ((List Int) × Unit)))) : evermoreref4_Elements.j8 (k + 1) x0 x1 x2 x3 x4 x5 x6 = run T (evermoreref4_Elements.env k) Try.f74.ntmps (cutE 0 evermoreref4_Elements.tbl k) (finE 0 evermoreref4_Elements.to evermoreref4_Elements.out) (fnRes Try.f74) [8] 100000 true (start (stackOf 16 evermoreref4_Elements.body)) (evermoreref4_Elements.t16.fill [⟨(.int .i64), x0⟩, ⟨(.int .i64), x1⟩, ⟨(.int .i64), x2⟩, ⟨(.int .i64), x3⟩, ⟨(.slice (.slice (.int .i64))), x4⟩, ⟨(.slice (.int .i64)), x5⟩, ⟨(.slice (.pair (.slice (.int .i64)) (.pair (.slice (.int .i64)) .unit))), x6⟩]) := by kernel_rfl
theorem evermoreref4_Elements.s16 : stackAt 16 evermoreref4_Elements.body [] = some (stackOf 16 evermoreref4_Elements.body) := by kernel_rfl
theorem evermoreref4_Elements.h16 (k : Nat) (ds : List Dat) (r : (List ((List Int) × ((List Int) × Unit)))) (h : evermoreref4_Elements.c16 k ds = some r) : ∃ k', k' < k ∧ ∃ s, stackAt 16 evermoreref4_Elements.body [] = some s ∧ run T (evermoreref4_Elements.env k') Try.f74.ntmps (cutE 0 evermoreref4_Elements.tbl k') (finE 0 evermoreref4_Elements.to evermoreref4_Elements.out) (fnRes Try.f74) [8] 100000 true (start s) (evermoreref4_Elements.t16.fill ds) = some r := by
  unfold evermoreref4_Elements.c16 at h
  obtain ⟨x0, d0, e0, h0⟩ := pop_some h; clear h; subst e0; have h := h0; clear h0
  obtain ⟨x1, d1, e1, h1⟩ := pop_some h; clear h; subst e1; have h := h1; clear h1
  obtain ⟨x2, d2, e2, h2⟩ := pop_some h; clear h; subst e2; have h := h2; clear h2
  obtain ⟨x3, d3, e3, h3⟩ := pop_some h; clear h; subst e3; have h := h3; clear h3
  obtain ⟨x4, d4, e4, h4⟩ := pop_some h; clear h; subst e4; have h := h4; clear h4
  obtain ⟨x5, d5, e5, h5⟩ := pop_some h; clear h; subst e5; have h := h5; clear h5
  obtain ⟨x6, d6, e6, h6⟩ := pop_some h; clear h; subst e6; have h := h6; clear h6
  obtain ⟨eN, hN⟩ := popN_some h; clear h; subst eN; have h := hN; clear hN
  cases k with
  | zero => cases (show none = some r from h)
  | succ k => exact ⟨k, Nat.lt_succ_self k, _, evermoreref4_Elements.s16, (evermoreref4_Elements.e16 k x0 x1 x2 x3 x4 x5 x6).symm.trans h⟩
theorem evermoreref4_Elements.e (k : Nat) (x0 : (Int × (Int × ((List (List Int)) × ((List Int) × Unit))))) : evermoreref4_Elements.f k x0 = run T (evermoreref4_Elements.env k) Try.f74.ntmps (cutE 0 evermoreref4_Elements.tbl k) (finE 0 evermoreref4_Elements.to evermoreref4_Elements.out) (fnRes Try.f74) [8] 100000 true ([.code evermoreref4_Elements.body]) (evermoreref4_Elements.ti.fill [⟨(.pair (.int .i64) (.pair (.int .i64) (.pair (.slice (.slice (.int .i64))) (.pair (.slice (.int .i64)) .unit)))), x0⟩]) := by kernel_rfl
theorem evermoreref4_Elements.h (k : Nat) (ds : List Dat) (r : (List ((List Int) × ((List Int) × Unit)))) (h : evermoreref4_Elements.g k ds = some r) : ∃ k', k' < k ∧ run T (evermoreref4_Elements.env k') Try.f74.ntmps (cutE 0 evermoreref4_Elements.tbl k') (finE 0 evermoreref4_Elements.to evermoreref4_Elements.out) (fnRes Try.f74) [8] 100000 true ([.code evermoreref4_Elements.body]) (evermoreref4_Elements.ti.fill ds) = some r := by
  cases k with
  | zero => cases (show none = some r from h)
  | succ k =>
  replace h : evermoreref4_Elements.c k ds = some r := h
  unfold evermoreref4_Elements.c at h
  obtain ⟨x0, d0, e0, h0⟩ := pop_some h; clear h; subst e0; have h := h0; clear h0
  obtain ⟨eN, hN⟩ := popN_some h; clear h; subst eN; have h := hN; clear hN
  exact ⟨k, Nat.lt_succ_self k, (evermoreref4_Elements.e k x0).symm.trans h⟩
theorem evermoreref4_Elements.o (ds : List Dat) (r : (List ((List Int) × ((List Int) × Unit)))) (h : evermoreref4_Elements.out ds = some r) : ds = evermoreref4_Elements.rs r := by
  unfold evermoreref4_Elements.out at h
  obtain ⟨x0, d0, e0, h0⟩ := pop_some h; clear h; subst e0; have h := h0; clear h0
  obtain ⟨eN, hN⟩ := popN_some h; clear h; subst eN; have h := hN; clear hN
  cases h
  rfl
theorem evermoreref4_Elements.fn : FnOk Try.prog 74 Try.f74 evermoreref4_Elements.body Try.f74.ntmps 1 (fnRes Try.f74) :=
  fnOk_of (by kernel_rfl) (by kernel_rfl) (by kernel_rfl) (by kernel_rfl)
theorem evermoreref4_Elements.con' : ∀ k ds r, evermoreref4_Elements.g k ds = some r → Con Try.prog 74 1 evermoreref4_Elements.ti evermoreref4_Elements.to ds (evermoreref4_Elements.rs r) :=
  fun_ok (T := T) T_ok mixed evermoreref4_Elements.fn (env := evermoreref4_Elements.env) (tbl := evermoreref4_Elements.tbl) (gOut := evermoreref4_Elements.out) (nin := 0) (cuts := [8]) (fuel := 100000) rfl (by kernel_rfl) (by kernel_rfl) (by kernel_rfl) (fun x hx => by
    simp only [evermoreref4_Elements.tbl, List.mem_cons, List.not_mem_nil, or_false] at hx
    rcases hx with rfl | rfl | rfl | rfl
    · exact evermoreref4_Elements.h9
    · exact evermoreref4_Elements.h15
    · exact evermoreref4_Elements.h29
    · exact evermoreref4_Elements.h16
) evermoreref4_Elements.o evermoreref4_Elements.h (fun k _ => by unfold evermoreref4_Elements.env; exact (envC_ok (fun ds K r h => by
    obtain ⟨x0, d0, e0, h0⟩ := pop_some h; clear h; subst e0; have h := h0; clear h0
    obtain ⟨x1, d1, e1, h1⟩ := pop_some h; clear h; subst e1; have h := h1; clear h1
    obtain ⟨eN, hN⟩ := popN_some h; clear h; subst eN; have h := hN; clear hN
    obtain ⟨r1, h1, h2⟩ := bind_some h
    exact ⟨_, h2, evermoreref4_Does.con k _ h1⟩) (envC_ok (fun ds K r h => by
    obtain ⟨x0, d0, e0, h0⟩ := pop_some h; clear h; subst e0; have h := h0; clear h0
    obtain ⟨x1, d1, e1, h1⟩ := pop_some h; clear h; subst e1; have h := h1; clear h1
    obtain ⟨eN, hN⟩ := popN_some h; clear h; subst eN; have h := hN; clear hN
    obtain ⟨r1, h1, h2⟩ := bind_some h
    exact ⟨_, h2, evermoreref1_Words.con k _ h1⟩) env0_ok)))
theorem evermoreref4_Elements.con (k : Nat) {x0 : (Int × (Int × ((List (List Int)) × ((List Int) × Unit))))} (r : (List ((List Int) × ((List Int) × Unit)))) (h : evermoreref4_Elements.f k x0 = some r) : Con Try.prog 74 1 evermoreref4_Elements.ti evermoreref4_Elements.to [⟨(.pair (.int .i64) (.pair (.int .i64) (.pair (.slice (.slice (.int .i64))) (.pair (.slice (.int .i64)) .unit)))), x0⟩] (evermoreref4_Elements.rs r) :=
  evermoreref4_Elements.con' (k + 1) _ r (by show evermoreref4_Elements.c k _ = some r; unfold evermoreref4_Elements.c; simp only [pop_self, popN]; exact h)
mutual
def evermoreref4_Elements_2.l4 : Nat → Int → Int → Int → List (List (Int)) → List (Int) → List ((List (Int) × (List (Int) × Unit))) → Option (List (List Int × List Int × Unit))
 | 0, _, _, _, _, _, _ => none
 | k + 1, i5, d1_0, d1_1, d1_2, d1_3, l4 =>
  if i5 < (↑l4.length : Int) then
   evermoreref4_Elements_2.l7 k i5 0 d1_0 d1_1 d1_2 d1_3 l4
  else
   some (l4)
def evermoreref4_Elements_2.l7 : Nat → Int → Int → Int → Int → List (List (Int)) → List (Int) → List ((List (Int) × (List (Int) × Unit))) → Option (List (List Int × List Int × Unit))
 | 0, _, _, _, _, _, _, _ => none
 | k + 1, i5, a6, d1_0, d1_1, d1_2, d1_3, l4 =>
  if a6 < d1_0 then
   if 0 ≤ i5 then
   if i5 < (↑l4.length : Int) then
    if ([] ++ (l4.getD i5.toNat ([], [], ())).snd.fst).length.blt 1000000000 = true then
     if ([] ++ (l4.getD i5.toNat ([], [], ())).snd.fst ++ [a6]).length.blt 1000000000 = true then
      (evermoreref4_Does.f k (d1_0, d1_1, d1_2, d1_3, ()) ([] ++ (l4.getD i5.toNat ([], [], ())).snd.fst ++ [a6])).bind fun r7 =>
        evermoreref4_Elements_2.l14 k i5 a6 false 0 d1_0 d1_1 d1_2 d1_3 l4 ([] ++ (l4.getD i5.toNat ([], [], ())).snd.fst ++ [a6]) r7
      else none
     else none
    else none
   else none
  else
   evermoreref4_Elements_2.l4 k (Go.IntKind.i64.wrap (i5 + 1)) d1_0 d1_1 d1_2 d1_3 l4
def evermoreref4_Elements_2.l14 : Nat → Int → Int → Bool → Int → Int → Int → List (List (Int)) → List (Int) → List ((List (Int) × (List (Int) × Unit))) → List (Int) → List (Int) → Option (List (List Int × List Int × Unit))
 | 0, _, _, _, _, _, _, _, _, _, _, _ => none
 | k + 1, i5, a6, known9, k10, d1_0, d1_1, d1_2, d1_3, l4, w7, does8 =>
  if k10 < (↑l4.length : Int) then
   if known9 = true then
    if known9 = true then
     evermoreref4_Elements_2.j8 k i5 a6 d1_0 d1_1 d1_2 d1_3 l4
    else
     if (l4 ++ [(does8, w7, ())]).length.blt 1000000000 = true then
     evermoreref4_Elements_2.j8 k i5 a6 d1_0 d1_1 d1_2 d1_3 (l4 ++ [(does8, w7, ())])
     else none
   else
    if 0 ≤ k10 then
    if k10 < (↑l4.length : Int) then
     (evermoreref1_Words.f k (l4.getD k10.toNat ([], [], ())).fst does8).bind fun r6 =>
       evermoreref4_Elements_2.l14 k i5 a6 r6 (Go.IntKind.i64.wrap (k10 + 1)) d1_0 d1_1 d1_2 d1_3 l4 w7 does8
     else none
    else none
  else
   if known9 = true then
    evermoreref4_Elements_2.j8 k i5 a6 d1_0 d1_1 d1_2 d1_3 l4
   else
    if (l4 ++ [(does8, w7, ())]).length.blt 1000000000 = true then
    evermoreref4_Elements_2.j8 k i5 a6 d1_0 d1_1 d1_2 d1_3 (l4 ++ [(does8, w7, ())])
    else none
def evermoreref4_Elements_2.j8 : Nat → Int → Int → Int → Int → List (List (Int)) → List (Int) → List ((List (Int) × (List (Int) × Unit))) → Option (List (List Int × List Int × Unit))
 | 0, _, _, _, _, _, _, _ => none
 | k + 1, i5, a6, d1_0, d1_1, d1_2, d1_3, l4 =>
  evermoreref4_Elements_2.l7 k i5 (Go.IntKind.i64.wrap (a6 + 1)) d1_0 d1_1 d1_2 d1_3 l4
end
def evermoreref4_Elements_2.f (k : Nat) (d0 : (Int × (Int × (List (List (Int)) × (List (Int) × Unit))))) : Option (List (List Int × List Int × Unit)) :=
 (evermoreref4_Does.f k (d0.fst, d0.snd.fst, d0.snd.snd.fst, d0.snd.snd.snd.fst, ()) []).bind fun r1 =>
  evermoreref4_Elements_2.l4 k 0 d0.fst d0.snd.fst d0.snd.snd.fst d0.snd.snd.snd.fst ([(r1, [], ())])

noncomputable def evermoreref4_Elements_2.body : Code := fnBody Try.f74
def evermoreref4_Elements_2.ti : Tm := ⟨[(0, .p (.pair (.int .i64) (.pair (.int .i64) (.pair (.slice (.slice (.int .i64))) (.pair (.slice (.int .i64)) .unit)))))], []⟩
def evermoreref4_Elements_2.to : Tm := ⟨[(0, .own 0)], [.own (.pair (.slice (.int .i64)) (.pair (.slice (.int .i64)) .unit))]⟩
def evermoreref4_Elements_2.rs (r : (List ((List Int) × ((List Int) × Unit)))) : List Dat := [⟨(.slice (.pair (.slice (.int .i64)) (.pair (.slice (.int .i64)) .unit))), r⟩]
def evermoreref4_Elements_2.out (ds : List Dat) : Option ((List ((List Int) × ((List Int) × Unit)))) := pop (.slice (.pair (.slice (.int .i64)) (.pair (.slice (.int .i64)) .unit))) ds fun x0 ds => popN ds (some (x0))
def evermoreref4_Elements_2.c (k : Nat) (ds : List Dat) : Option ((List ((List Int) × ((List Int) × Unit)))) := pop (.pair (.int .i64) (.pair (.int .i64) (.pair (.slice (.slice (.int .i64))) (.pair (.slice (.int .i64)) .unit)))) ds fun x0 ds => popN ds (evermoreref4_Elements_2.f k x0)
def evermoreref4_Elements_2.g : Nat → List Dat → Option ((List ((List Int) × ((List Int) × Unit))))
 | 0, _ => none
 | k + 1, ds => evermoreref4_Elements_2.c k ds
def evermoreref4_Elements_2.env (k : Nat) : Nat → List SV → List Chunk → KT ((List ((List Int) × ((List Int) × Unit)))) → Option ((List ((List Int) × ((List Int) × Unit)))) := (envC 150 2 evermoreref4_Does.ti evermoreref4_Does.to (fun ds K => pop (.pair (.int .i64) (.pair (.int .i64) (.pair (.slice (.slice (.int .i64))) (.pair (.slice (.int .i64)) .unit)))) ds fun x0 ds => pop (.slice (.int .i64)) ds fun x1 ds => popN ds ((evermoreref4_Does.f k x0 x1).bind fun r => K (evermoreref4_Does.rs r))) (envC 24 2 evermoreref1_Words.ti evermoreref1_Words.to (fun ds K => pop (.slice (.int .i64)) ds fun x0 ds => pop (.slice (.int .i64)) ds fun x1 ds => popN ds ((evermoreref1_Words.f k x0 x1).bind fun r => K (evermoreref1_Words.rs r))) env0))
def evermoreref4_Elements_2.t9 : Tm := ⟨[(1, .ptr 0 0), (4, .own 1), (5, .p (.int .i64))], [.box [.p (.int .i64), .p (.int .i64), .p (.slice (.slice (.int .i64))), .p (.slice (.int .i64))] 25, .own (.pair (.slice (.int .i64)) (.pair (.slice (.int .i64)) .unit))]⟩
def evermoreref4_Elements_2.c9 (k : Nat) (ds : List Dat) : Option ((List ((List Int) × ((List Int) × Unit)))) := pop (.int .i64) ds fun x0 ds => pop (.int .i64) ds fun x1 ds => pop (.int .i64) ds fun x2 ds => pop (.slice (.slice (.int .i64))) ds fun x3 ds => pop (.slice (.int .i64)) ds fun x4 ds => pop (.slice (.pair (.slice (.int .i64)) (.pair (.slice (.int .i64)) .unit))) ds fun x5 ds => popN ds (evermoreref4_Elements_2.l4 k x0 x1 x2 x3 x4 x5)
def evermoreref4_Elements_2.t15 : Tm := ⟨[(1, .ptr 0 0), (4, .own 1), (5, .p (.int .i64)), (6, .p (.int .i64))], [.box [.p (.int .i64), .p (.int .i64), .p (.slice (.slice (.int .i64))), .p (.slice (.int .i64))] 25, .own (.pair (.slice (.int .i64)) (.pair (.slice (.int .i64)) .unit))]⟩
def evermoreref4_Elements_2.c15 (k : Nat) (ds : List Dat) : Option ((List ((List Int) × ((List Int) × Unit)))) := pop (.int .i64) ds fun x0 ds => pop (.int .i64) ds fun x1 ds => pop (.int .i64) ds fun x2 ds => pop (.int .i64) ds fun x3 ds => pop (.slice (.slice (.int .i64))) ds fun x4 ds => pop (.slice (.int .i64)) ds fun x5 ds => pop (.slice (.pair (.slice (.int .i64)) (.pair (.slice (.int .i64)) .unit))) ds fun x6 ds => popN ds (evermoreref4_Elements_2.l7 k x0 x1 x2 x3 x4 x5 x6)
def evermoreref4_Elements_2.t29 : Tm := ⟨[(1, .ptr 0 0), (4, .own 1), (5, .p (.int .i64)), (6, .p (.int .i64)), (7, .own 2), (8, .own 3), (9, .p .bool), (10, .p (.int .i64))], [.box [.p (.int .i64), .p (.int .i64), .p (.slice (.slice (.int .i64))), .p (.slice (.int .i64))] 25, .own (.pair (.slice (.int .i64)) (.pair (.slice (.int .i64)) .unit)), .own (.int .i64), .own (.int .i64)]⟩
def evermoreref4_Elements_2.c29 (k : Nat) (ds : List Dat) : Option ((List ((List Int) × ((List Int) × Unit)))) := pop (.int .i64) ds fun x0 ds => pop (.int .i64) ds fun x1 ds => pop .bool ds fun x2 ds => pop (.int .i64) ds fun x3 ds => pop (.int .i64) ds fun x4 ds => pop (.int .i64) ds fun x5 ds => pop (.slice (.slice (.int .i64))) ds fun x6 ds => pop (.slice (.int .i64)) ds fun x7 ds => pop (.slice (.pair (.slice (.int .i64)) (.pair (.slice (.int .i64)) .unit))) ds fun x8 ds => pop (.slice (.int .i64)) ds fun x9 ds => pop (.slice (.int .i64)) ds fun x10 ds => popN ds (evermoreref4_Elements_2.l14 k x0 x1 x2 x3 x4 x5 x6 x7 x8 x9 x10)
def evermoreref4_Elements_2.t16 : Tm := ⟨[(1, .ptr 0 0), (4, .own 1), (5, .p (.int .i64)), (6, .p (.int .i64))], [.box [.p (.int .i64), .p (.int .i64), .p (.slice (.slice (.int .i64))), .p (.slice (.int .i64))] 25, .own (.pair (.slice (.int .i64)) (.pair (.slice (.int .i64)) .unit))]⟩
def evermoreref4_Elements_2.c16 (k : Nat) (ds : List Dat) : Option ((List ((List Int) × ((List Int) × Unit)))) := pop (.int .i64) ds fun x0 ds => pop (.int .i64) ds fun x1 ds => pop (.int .i64) ds fun x2 ds => pop (.int .i64) ds fun x3 ds => pop (.slice (.slice (.int .i64))) ds fun x4 ds => pop (.slice (.int .i64)) ds fun x5 ds => pop (.slice (.pair (.slice (.int .i64)) (.pair (.slice (.int .i64)) .unit))) ds fun x6 ds => popN ds (evermoreref4_Elements_2.j8 k x0 x1 x2 x3 x4 x5 x6)
def evermoreref4_Elements_2.tbl : List (Nat × Tm × (Nat → List Dat → Option ((List ((List Int) × ((List Int) × Unit)))))) := [(9, evermoreref4_Elements_2.t9, evermoreref4_Elements_2.c9), (15, evermoreref4_Elements_2.t15, evermoreref4_Elements_2.c15), (29, evermoreref4_Elements_2.t29, evermoreref4_Elements_2.c29), (16, evermoreref4_Elements_2.t16, evermoreref4_Elements_2.c16)]
theorem evermoreref4_Elements_2.e9 (k : Nat) (x0 : Int) (x1 : Int) (x2 : Int) (x3 : (List (List Int))) (x4 : (List Int)) (x5 : (List ((List Int) × ((List Int) × Unit)))) : evermoreref4_Elements_2.l4 (k + 1) x0 x1 x2 x3 x4 x5 = run T (evermoreref4_Elements_2.env k) Try.f74.ntmps (cutE 0 evermoreref4_Elements_2.tbl k) (finE 0 evermoreref4_Elements_2.to evermoreref4_Elements_2.out) (fnRes Try.f74) [8] 100000 true (start (stackOf 9 evermoreref4_Elements_2.body)) (evermoreref4_Elements_2.t9.fill [⟨(.int .i64), x0⟩, ⟨(.int .i64), x1⟩, ⟨(.int .i64), x2⟩, ⟨(.slice (.slice (.int .i64))), x3⟩, ⟨(.slice (.int .i64)), x4⟩, ⟨(.slice (.pair (.slice (.int .i64)) (.pair (.slice (.int .i64)) .unit))), x5⟩]) := by kernel_rfl
theorem evermoreref4_Elements_2.s9 : stackAt 9 evermoreref4_Elements_2.body [] = some (stackOf 9 evermoreref4_Elements_2.body) := by kernel_rfl
theorem evermoreref4_Elements_2.h9 (k : Nat) (ds : List Dat) (r : (List ((List Int) × ((List Int) × Unit)))) (h : evermoreref4_Elements_2.c9 k ds = some r) : ∃ k', k' < k ∧ ∃ s, stackAt 9 evermoreref4_Elements_2.body [] = some s ∧ run T (evermoreref4_Elements_2.env k') Try.f74.ntmps (cutE 0 evermoreref4_Elements_2.tbl k') (finE 0 evermoreref4_Elements_2.to evermoreref4_Elements_2.out) (fnRes Try.f74) [8] 100000 true (start s) (evermoreref4_Elements_2.t9.fill ds) = some r := by
  unfold evermoreref4_Elements_2.c9 at h
  obtain ⟨x0, d0, e0, h0⟩ := pop_some h; clear h; subst e0; have h := h0; clear h0
  obtain ⟨x1, d1, e1, h1⟩ := pop_some h; clear h; subst e1; have h := h1; clear h1
  obtain ⟨x2, d2, e2, h2⟩ := pop_some h; clear h; subst e2; have h := h2; clear h2
  obtain ⟨x3, d3, e3, h3⟩ := pop_some h; clear h; subst e3; have h := h3; clear h3
  obtain ⟨x4, d4, e4, h4⟩ := pop_some h; clear h; subst e4; have h := h4; clear h4
  obtain ⟨x5, d5, e5, h5⟩ := pop_some h; clear h; subst e5; have h := h5; clear h5
  obtain ⟨eN, hN⟩ := popN_some h; clear h; subst eN; have h := hN; clear hN
  cases k with
  | zero => cases (show none = some r from h)
  | succ k => exact ⟨k, Nat.lt_succ_self k, _, evermoreref4_Elements_2.s9, (evermoreref4_Elements_2.e9 k x0 x1 x2 x3 x4 x5).symm.trans h⟩
theorem evermoreref4_Elements_2.e15 (k : Nat) (x0 : Int) (x1 : Int) (x2 : Int) (x3 : Int) (x4 : (List (List Int))) (x5 : (List Int)) (x6 : (List ((List Int) × ((List Int) × Unit)))) : evermoreref4_Elements_2.l7 (k + 1) x0 x1 x2 x3 x4 x5 x6 = run T (evermoreref4_Elements_2.env k) Try.f74.ntmps (cutE 0 evermoreref4_Elements_2.tbl k) (finE 0 evermoreref4_Elements_2.to evermoreref4_Elements_2.out) (fnRes Try.f74) [8] 100000 true (start (stackOf 15 evermoreref4_Elements_2.body)) (evermoreref4_Elements_2.t15.fill [⟨(.int .i64), x0⟩, ⟨(.int .i64), x1⟩, ⟨(.int .i64), x2⟩, ⟨(.int .i64), x3⟩, ⟨(.slice (.slice (.int .i64))), x4⟩, ⟨(.slice (.int .i64)), x5⟩, ⟨(.slice (.pair (.slice (.int .i64)) (.pair (.slice (.int .i64)) .unit))), x6⟩]) := by kernel_rfl
theorem evermoreref4_Elements_2.s15 : stackAt 15 evermoreref4_Elements_2.body [] = some (stackOf 15 evermoreref4_Elements_2.body) := by kernel_rfl
theorem evermoreref4_Elements_2.h15 (k : Nat) (ds : List Dat) (r : (List ((List Int) × ((List Int) × Unit)))) (h : evermoreref4_Elements_2.c15 k ds = some r) : ∃ k', k' < k ∧ ∃ s, stackAt 15 evermoreref4_Elements_2.body [] = some s ∧ run T (evermoreref4_Elements_2.env k') Try.f74.ntmps (cutE 0 evermoreref4_Elements_2.tbl k') (finE 0 evermoreref4_Elements_2.to evermoreref4_Elements_2.out) (fnRes Try.f74) [8] 100000 true (start s) (evermoreref4_Elements_2.t15.fill ds) = some r := by
  unfold evermoreref4_Elements_2.c15 at h
  obtain ⟨x0, d0, e0, h0⟩ := pop_some h; clear h; subst e0; have h := h0; clear h0
  obtain ⟨x1, d1, e1, h1⟩ := pop_some h; clear h; subst e1; have h := h1; clear h1
  obtain ⟨x2, d2, e2, h2⟩ := pop_some h; clear h; subst e2; have h := h2; clear h2
  obtain ⟨x3, d3, e3, h3⟩ := pop_some h; clear h; subst e3; have h := h3; clear h3
  obtain ⟨x4, d4, e4, h4⟩ := pop_some h; clear h; subst e4; have h := h4; clear h4
  obtain ⟨x5, d5, e5, h5⟩ := pop_some h; clear h; subst e5; have h := h5; clear h5
  obtain ⟨x6, d6, e6, h6⟩ := pop_some h; clear h; subst e6; have h := h6; clear h6
  obtain ⟨eN, hN⟩ := popN_some h; clear h; subst eN; have h := hN; clear hN
  cases k with
  | zero => cases (show none = some r from h)
  | succ k => exact ⟨k, Nat.lt_succ_self k, _, evermoreref4_Elements_2.s15, (evermoreref4_Elements_2.e15 k x0 x1 x2 x3 x4 x5 x6).symm.trans h⟩
theorem evermoreref4_Elements_2.e29 (k : Nat) (x0 : Int) (x1 : Int) (x2 : Bool) (x3 : Int) (x4 : Int) (x5 : Int) (x6 : (List (List Int))) (x7 : (List Int)) (x8 : (List ((List Int) × ((List Int) × Unit)))) (x9 : (List Int)) (x10 : (List Int)) : evermoreref4_Elements_2.l14 (k + 1) x0 x1 x2 x3 x4 x5 x6 x7 x8 x9 x10 = run T (evermoreref4_Elements_2.env k) Try.f74.ntmps (cutE 0 evermoreref4_Elements_2.tbl k) (finE 0 evermoreref4_Elements_2.to evermoreref4_Elements_2.out) (fnRes Try.f74) [8] 100000 true (start (stackOf 29 evermoreref4_Elements_2.body)) (evermoreref4_Elements_2.t29.fill [⟨(.int .i64), x0⟩, ⟨(.int .i64), x1⟩, ⟨.bool, x2⟩, ⟨(.int .i64), x3⟩, ⟨(.int .i64), x4⟩, ⟨(.int .i64), x5⟩, ⟨(.slice (.slice (.int .i64))), x6⟩, ⟨(.slice (.int .i64)), x7⟩, ⟨(.slice (.pair (.slice (.int .i64)) (.pair (.slice (.int .i64)) .unit))), x8⟩, ⟨(.slice (.int .i64)), x9⟩, ⟨(.slice (.int .i64)), x10⟩]) := by kernel_rfl
theorem evermoreref4_Elements_2.s29 : stackAt 29 evermoreref4_Elements_2.body [] = some (stackOf 29 evermoreref4_Elements_2.body) := by kernel_rfl
theorem evermoreref4_Elements_2.h29 (k : Nat) (ds : List Dat) (r : (List ((List Int) × ((List Int) × Unit)))) (h : evermoreref4_Elements_2.c29 k ds = some r) : ∃ k', k' < k ∧ ∃ s, stackAt 29 evermoreref4_Elements_2.body [] = some s ∧ run T (evermoreref4_Elements_2.env k') Try.f74.ntmps (cutE 0 evermoreref4_Elements_2.tbl k') (finE 0 evermoreref4_Elements_2.to evermoreref4_Elements_2.out) (fnRes Try.f74) [8] 100000 true (start s) (evermoreref4_Elements_2.t29.fill ds) = some r := by
  unfold evermoreref4_Elements_2.c29 at h
  obtain ⟨x0, d0, e0, h0⟩ := pop_some h; clear h; subst e0; have h := h0; clear h0
  obtain ⟨x1, d1, e1, h1⟩ := pop_some h; clear h; subst e1; have h := h1; clear h1
  obtain ⟨x2, d2, e2, h2⟩ := pop_some h; clear h; subst e2; have h := h2; clear h2
  obtain ⟨x3, d3, e3, h3⟩ := pop_some h; clear h; subst e3; have h := h3; clear h3
  obtain ⟨x4, d4, e4, h4⟩ := pop_some h; clear h; subst e4; have h := h4; clear h4
  obtain ⟨x5, d5, e5, h5⟩ := pop_some h; clear h; subst e5; have h := h5; clear h5
  obtain ⟨x6, d6, e6, h6⟩ := pop_some h; clear h; subst e6; have h := h6; clear h6
  obtain ⟨x7, d7, e7, h7⟩ := pop_some h; clear h; subst e7; have h := h7; clear h7
  obtain ⟨x8, d8, e8, h8⟩ := pop_some h; clear h; subst e8; have h := h8; clear h8
  obtain ⟨x9, d9, e9, h9⟩ := pop_some h; clear h; subst e9; have h := h9; clear h9
  obtain ⟨x10, d10, e10, h10⟩ := pop_some h; clear h; subst e10; have h := h10; clear h10
  obtain ⟨eN, hN⟩ := popN_some h; clear h; subst eN; have h := hN; clear hN
  cases k with
  | zero => cases (show none = some r from h)
  | succ k => exact ⟨k, Nat.lt_succ_self k, _, evermoreref4_Elements_2.s29, (evermoreref4_Elements_2.e29 k x0 x1 x2 x3 x4 x5 x6 x7 x8 x9 x10).symm.trans h⟩
theorem evermoreref4_Elements_2.e16 (k : Nat) (x0 : Int) (x1 : Int) (x2 : Int) (x3 : Int) (x4 : (List (List Int))) (x5 : (List Int)) (x6 : (List ((List Int) × ((List Int) × Unit)))) : evermoreref4_Elements_2.j8 (k + 1) x0 x1 x2 x3 x4 x5 x6 = run T (evermoreref4_Elements_2.env k) Try.f74.ntmps (cutE 0 evermoreref4_Elements_2.tbl k) (finE 0 evermoreref4_Elements_2.to evermoreref4_Elements_2.out) (fnRes Try.f74) [8] 100000 true (start (stackOf 16 evermoreref4_Elements_2.body)) (evermoreref4_Elements_2.t16.fill [⟨(.int .i64), x0⟩, ⟨(.int .i64), x1⟩, ⟨(.int .i64), x2⟩, ⟨(.int .i64), x3⟩, ⟨(.slice (.slice (.int .i64))), x4⟩, ⟨(.slice (.int .i64)), x5⟩, ⟨(.slice (.pair (.slice (.int .i64)) (.pair (.slice (.int .i64)) .unit))), x6⟩]) := by kernel_rfl
theorem evermoreref4_Elements_2.s16 : stackAt 16 evermoreref4_Elements_2.body [] = some (stackOf 16 evermoreref4_Elements_2.body) := by kernel_rfl
theorem evermoreref4_Elements_2.h16 (k : Nat) (ds : List Dat) (r : (List ((List Int) × ((List Int) × Unit)))) (h : evermoreref4_Elements_2.c16 k ds = some r) : ∃ k', k' < k ∧ ∃ s, stackAt 16 evermoreref4_Elements_2.body [] = some s ∧ run T (evermoreref4_Elements_2.env k') Try.f74.ntmps (cutE 0 evermoreref4_Elements_2.tbl k') (finE 0 evermoreref4_Elements_2.to evermoreref4_Elements_2.out) (fnRes Try.f74) [8] 100000 true (start s) (evermoreref4_Elements_2.t16.fill ds) = some r := by
  unfold evermoreref4_Elements_2.c16 at h
  obtain ⟨x0, d0, e0, h0⟩ := pop_some h; clear h; subst e0; have h := h0; clear h0
  obtain ⟨x1, d1, e1, h1⟩ := pop_some h; clear h; subst e1; have h := h1; clear h1
  obtain ⟨x2, d2, e2, h2⟩ := pop_some h; clear h; subst e2; have h := h2; clear h2
  obtain ⟨x3, d3, e3, h3⟩ := pop_some h; clear h; subst e3; have h := h3; clear h3
  obtain ⟨x4, d4, e4, h4⟩ := pop_some h; clear h; subst e4; have h := h4; clear h4
  obtain ⟨x5, d5, e5, h5⟩ := pop_some h; clear h; subst e5; have h := h5; clear h5
  obtain ⟨x6, d6, e6, h6⟩ := pop_some h; clear h; subst e6; have h := h6; clear h6
  obtain ⟨eN, hN⟩ := popN_some h; clear h; subst eN; have h := hN; clear hN
  cases k with
  | zero => cases (show none = some r from h)
  | succ k => exact ⟨k, Nat.lt_succ_self k, _, evermoreref4_Elements_2.s16, (evermoreref4_Elements_2.e16 k x0 x1 x2 x3 x4 x5 x6).symm.trans h⟩
theorem evermoreref4_Elements_2.e (k : Nat) (x0 : (Int × (Int × ((List (List Int)) × ((List Int) × Unit))))) : evermoreref4_Elements_2.f k x0 = run T (evermoreref4_Elements_2.env k) Try.f74.ntmps (cutE 0 evermoreref4_Elements_2.tbl k) (finE 0 evermoreref4_Elements_2.to evermoreref4_Elements_2.out) (fnRes Try.f74) [8] 100000 true ([.code evermoreref4_Elements_2.body]) (evermoreref4_Elements_2.ti.fill [⟨(.pair (.int .i64) (.pair (.int .i64) (.pair (.slice (.slice (.int .i64))) (.pair (.slice (.int .i64)) .unit)))), x0⟩]) := by kernel_rfl
theorem evermoreref4_Elements_2.h (k : Nat) (ds : List Dat) (r : (List ((List Int) × ((List Int) × Unit)))) (h : evermoreref4_Elements_2.g k ds = some r) : ∃ k', k' < k ∧ run T (evermoreref4_Elements_2.env k') Try.f74.ntmps (cutE 0 evermoreref4_Elements_2.tbl k') (finE 0 evermoreref4_Elements_2.to evermoreref4_Elements_2.out) (fnRes Try.f74) [8] 100000 true ([.code evermoreref4_Elements_2.body]) (evermoreref4_Elements_2.ti.fill ds) = some r := by
  cases k with
  | zero => cases (show none = some r from h)
  | succ k =>
  replace h : evermoreref4_Elements_2.c k ds = some r := h
  unfold evermoreref4_Elements_2.c at h
  obtain ⟨x0, d0, e0, h0⟩ := pop_some h; clear h; subst e0; have h := h0; clear h0
  obtain ⟨eN, hN⟩ := popN_some h; clear h; subst eN; have h := hN; clear hN
  exact ⟨k, Nat.lt_succ_self k, (evermoreref4_Elements_2.e k x0).symm.trans h⟩
theorem evermoreref4_Elements_2.o (ds : List Dat) (r : (List ((List Int) × ((List Int) × Unit)))) (h : evermoreref4_Elements_2.out ds = some r) : ds = evermoreref4_Elements_2.rs r := by
  unfold evermoreref4_Elements_2.out at h
  obtain ⟨x0, d0, e0, h0⟩ := pop_some h; clear h; subst e0; have h := h0; clear h0
  obtain ⟨eN, hN⟩ := popN_some h; clear h; subst eN; have h := hN; clear hN
  cases h
  rfl
theorem evermoreref4_Elements_2.fn : FnOk Try.prog 74 Try.f74 evermoreref4_Elements_2.body Try.f74.ntmps 1 (fnRes Try.f74) :=
  fnOk_of (by kernel_rfl) (by kernel_rfl) (by kernel_rfl) (by kernel_rfl)
theorem evermoreref4_Elements_2.con' : ∀ k ds r, evermoreref4_Elements_2.g k ds = some r → Con Try.prog 74 1 evermoreref4_Elements_2.ti evermoreref4_Elements_2.to ds (evermoreref4_Elements_2.rs r) :=
  fun_ok (T := T) T_ok mixed evermoreref4_Elements_2.fn (env := evermoreref4_Elements_2.env) (tbl := evermoreref4_Elements_2.tbl) (gOut := evermoreref4_Elements_2.out) (nin := 0) (cuts := [8]) (fuel := 100000) rfl (by kernel_rfl) (by kernel_rfl) (by kernel_rfl) (fun x hx => by
    simp only [evermoreref4_Elements_2.tbl, List.mem_cons, List.not_mem_nil, or_false] at hx
    rcases hx with rfl | rfl | rfl | rfl
    · exact evermoreref4_Elements_2.h9
    · exact evermoreref4_Elements_2.h15
    · exact evermoreref4_Elements_2.h29
    · exact evermoreref4_Elements_2.h16
) evermoreref4_Elements_2.o evermoreref4_Elements_2.h (fun k _ => by unfold evermoreref4_Elements_2.env; exact (envC_ok (fun ds K r h => by
    obtain ⟨x0, d0, e0, h0⟩ := pop_some h; clear h; subst e0; have h := h0; clear h0
    obtain ⟨x1, d1, e1, h1⟩ := pop_some h; clear h; subst e1; have h := h1; clear h1
    obtain ⟨eN, hN⟩ := popN_some h; clear h; subst eN; have h := hN; clear hN
    obtain ⟨r1, h1, h2⟩ := bind_some h
    exact ⟨_, h2, evermoreref4_Does.con k _ h1⟩) (envC_ok (fun ds K r h => by
    obtain ⟨x0, d0, e0, h0⟩ := pop_some h; clear h; subst e0; have h := h0; clear h0
    obtain ⟨x1, d1, e1, h1⟩ := pop_some h; clear h; subst e1; have h := h1; clear h1
    obtain ⟨eN, hN⟩ := popN_some h; clear h; subst eN; have h := hN; clear hN
    obtain ⟨r1, h1, h2⟩ := bind_some h
    exact ⟨_, h2, evermoreref1_Words.con k _ h1⟩) env0_ok)))
theorem evermoreref4_Elements_2.con (k : Nat) {x0 : (Int × (Int × ((List (List Int)) × ((List Int) × Unit))))} (r : (List ((List Int) × ((List Int) × Unit)))) (h : evermoreref4_Elements_2.f k x0 = some r) : Con Try.prog 74 1 evermoreref4_Elements_2.ti evermoreref4_Elements_2.to [⟨(.pair (.int .i64) (.pair (.int .i64) (.pair (.slice (.slice (.int .i64))) (.pair (.slice (.int .i64)) .unit)))), x0⟩] (evermoreref4_Elements_2.rs r) :=
  evermoreref4_Elements_2.con' (k + 1) _ r (by show evermoreref4_Elements_2.c k _ = some r; unfold evermoreref4_Elements_2.c; simp only [pop_self, popN]; exact h)
mutual
def evermorelaw_MonoidElements.l9 : Nat → Int → List (List (Int)) → List ((List (Int) × (List (Int) × Unit))) → Option (Bool)
 | 0, _, _, _ => none
 | k + 1, i8, l3, x7 =>
  if i8 < (↑l3.length : Int) then
   if 0 ≤ i8 then
   if i8 < (↑l3.length : Int) then
    if 0 ≤ i8 then
     if i8 < (↑x7.length : Int) then
      (evermoreref1_Words.f k (l3.getD i8.toNat []) (x7.getD i8.toNat ([], [], ())).fst).bind fun r7 =>
        if r7 = true then
         evermorelaw_MonoidElements.l9 k (Go.IntKind.i64.wrap (i8 + 1)) l3 x7
        else
         some (false)
      else none
     else none
    else none
   else none
  else
   some (true)
end
def evermorelaw_MonoidElements.f (k : Nat) (d0 : (Int × (Int × (List (List (Int)) × (List (Int) × Unit))))) : Option (Bool) :=
 (monoid_Elements.f k (d0.fst, d0.snd.fst, d0.snd.snd.fst, d0.snd.snd.snd.fst, ())).bind fun r1 =>
  (evermorelaw_small.f k (d0.fst, d0.snd.fst, d0.snd.snd.fst, d0.snd.snd.snd.fst, ())).bind fun r2 =>
   if r2.snd.snd.fst = 0 then
    (evermoreref4_Elements_2.f k (r2.fst, r2.snd.fst, r2.snd.snd.snd.fst, r2.snd.snd.snd.snd, ())).bind fun r4 =>
     if r1.fst = 0 then
      if (↑r1.snd.length : Int) = (↑r4.length : Int) then
       if 3200 < (↑r1.snd.length : Int) then
        some (false)
       else
        evermorelaw_MonoidElements.l9 k 0 r1.snd r4
      else
       some (false)
     else
      some (false)
   else
    if r1.fst = r2.snd.snd.fst then
     some (decide ((↑r1.snd.length : Int) = 0))
    else
     some (false)

noncomputable def evermorelaw_MonoidElements.body : Code := fnBody Try.f14
def evermorelaw_MonoidElements.ti : Tm := ⟨[(0, .p (.pair (.int .i64) (.pair (.int .i64) (.pair (.slice (.slice (.int .i64))) (.pair (.slice (.int .i64)) .unit)))))], []⟩
def evermorelaw_MonoidElements.to : Tm := ⟨[(0, .p .bool)], []⟩
def evermorelaw_MonoidElements.rs (r : Bool) : List Dat := [⟨.bool, r⟩]
def evermorelaw_MonoidElements.out (ds : List Dat) : Option (Bool) := pop .bool ds fun x0 ds => popN ds (some (x0))
def evermorelaw_MonoidElements.c (k : Nat) (ds : List Dat) : Option (Bool) := pop (.pair (.int .i64) (.pair (.int .i64) (.pair (.slice (.slice (.int .i64))) (.pair (.slice (.int .i64)) .unit)))) ds fun x0 ds => popN ds (evermorelaw_MonoidElements.f k x0)
def evermorelaw_MonoidElements.g : Nat → List Dat → Option (Bool)
 | 0, _ => none
 | k + 1, ds => evermorelaw_MonoidElements.c k ds
def evermorelaw_MonoidElements.env (k : Nat) : Nat → List SV → List Chunk → KT (Bool) → Option (Bool) := (envC 24 2 evermoreref1_Words.ti evermoreref1_Words.to (fun ds K => pop (.slice (.int .i64)) ds fun x0 ds => pop (.slice (.int .i64)) ds fun x1 ds => popN ds ((evermoreref1_Words.f k x0 x1).bind fun r => K (evermoreref1_Words.rs r))) (envC 72 1 monoid_Elements.ti monoid_Elements.to (fun ds K => pop (.pair (.int .i64) (.pair (.int .i64) (.pair (.slice (.slice (.int .i64))) (.pair (.slice (.int .i64)) .unit)))) ds fun x0 ds => popN ds ((monoid_Elements.f k x0).bind fun r => K (monoid_Elements.rs r))) (envC 73 1 evermorelaw_small.ti evermorelaw_small.to (fun ds K => pop (.pair (.int .i64) (.pair (.int .i64) (.pair (.slice (.slice (.int .i64))) (.pair (.slice (.int .i64)) .unit)))) ds fun x0 ds => popN ds ((evermorelaw_small.f k x0).bind fun r => K (evermorelaw_small.rs r))) (envC 74 1 evermoreref4_Elements_2.ti evermoreref4_Elements_2.to (fun ds K => pop (.pair (.int .i64) (.pair (.int .i64) (.pair (.slice (.slice (.int .i64))) (.pair (.slice (.int .i64)) .unit)))) ds fun x0 ds => popN ds ((evermoreref4_Elements_2.f k x0).bind fun r => K (evermoreref4_Elements_2.rs r))) env0))))
def evermorelaw_MonoidElements.t19 : Tm := ⟨[(3, .own 0), (7, .own 1), (8, .p (.int .i64))], [.own (.slice (.int .i64)), .own (.pair (.slice (.int .i64)) (.pair (.slice (.int .i64)) .unit))]⟩
def evermorelaw_MonoidElements.c19 (k : Nat) (ds : List Dat) : Option (Bool) := pop (.int .i64) ds fun x0 ds => pop (.slice (.slice (.int .i64))) ds fun x1 ds => pop (.slice (.pair (.slice (.int .i64)) (.pair (.slice (.int .i64)) .unit))) ds fun x2 ds => popN ds (evermorelaw_MonoidElements.l9 k x0 x1 x2)
def evermorelaw_MonoidElements.tbl : List (Nat × Tm × (Nat → List Dat → Option (Bool))) := [(19, evermorelaw_MonoidElements.t19, evermorelaw_MonoidElements.c19)]
theorem evermorelaw_MonoidElements.e19 (k : Nat) (x0 : Int) (x1 : (List (List Int))) (x2 : (List ((List Int) × ((List Int) × Unit)))) : evermorelaw_MonoidElements.l9 (k + 1) x0 x1 x2 = run T (evermorelaw_MonoidElements.env k) Try.f14.ntmps (cutE 0 evermorelaw_MonoidElements.tbl k) (finE 0 evermorelaw_MonoidElements.to evermorelaw_MonoidElements.out) (fnRes Try.f14) [] 100000 true (start (stackOf 19 evermorelaw_MonoidElements.body)) (evermorelaw_MonoidElements.t19.fill [⟨(.int .i64), x0⟩, ⟨(.slice (.slice (.int .i64))), x1⟩, ⟨(.slice (.pair (.slice (.int .i64)) (.pair (.slice (.int .i64)) .unit))), x2⟩]) := by kernel_rfl
theorem evermorelaw_MonoidElements.s19 : stackAt 19 evermorelaw_MonoidElements.body [] = some (stackOf 19 evermorelaw_MonoidElements.body) := by kernel_rfl
theorem evermorelaw_MonoidElements.h19 (k : Nat) (ds : List Dat) (r : Bool) (h : evermorelaw_MonoidElements.c19 k ds = some r) : ∃ k', k' < k ∧ ∃ s, stackAt 19 evermorelaw_MonoidElements.body [] = some s ∧ run T (evermorelaw_MonoidElements.env k') Try.f14.ntmps (cutE 0 evermorelaw_MonoidElements.tbl k') (finE 0 evermorelaw_MonoidElements.to evermorelaw_MonoidElements.out) (fnRes Try.f14) [] 100000 true (start s) (evermorelaw_MonoidElements.t19.fill ds) = some r := by
  unfold evermorelaw_MonoidElements.c19 at h
  obtain ⟨x0, d0, e0, h0⟩ := pop_some h; clear h; subst e0; have h := h0; clear h0
  obtain ⟨x1, d1, e1, h1⟩ := pop_some h; clear h; subst e1; have h := h1; clear h1
  obtain ⟨x2, d2, e2, h2⟩ := pop_some h; clear h; subst e2; have h := h2; clear h2
  obtain ⟨eN, hN⟩ := popN_some h; clear h; subst eN; have h := hN; clear hN
  cases k with
  | zero => cases (show none = some r from h)
  | succ k => exact ⟨k, Nat.lt_succ_self k, _, evermorelaw_MonoidElements.s19, (evermorelaw_MonoidElements.e19 k x0 x1 x2).symm.trans h⟩
theorem evermorelaw_MonoidElements.e (k : Nat) (x0 : (Int × (Int × ((List (List Int)) × ((List Int) × Unit))))) : evermorelaw_MonoidElements.f k x0 = run T (evermorelaw_MonoidElements.env k) Try.f14.ntmps (cutE 0 evermorelaw_MonoidElements.tbl k) (finE 0 evermorelaw_MonoidElements.to evermorelaw_MonoidElements.out) (fnRes Try.f14) [] 100000 true ([.code evermorelaw_MonoidElements.body]) (evermorelaw_MonoidElements.ti.fill [⟨(.pair (.int .i64) (.pair (.int .i64) (.pair (.slice (.slice (.int .i64))) (.pair (.slice (.int .i64)) .unit)))), x0⟩]) := by kernel_rfl
theorem evermorelaw_MonoidElements.h (k : Nat) (ds : List Dat) (r : Bool) (h : evermorelaw_MonoidElements.g k ds = some r) : ∃ k', k' < k ∧ run T (evermorelaw_MonoidElements.env k') Try.f14.ntmps (cutE 0 evermorelaw_MonoidElements.tbl k') (finE 0 evermorelaw_MonoidElements.to evermorelaw_MonoidElements.out) (fnRes Try.f14) [] 100000 true ([.code evermorelaw_MonoidElements.body]) (evermorelaw_MonoidElements.ti.fill ds) = some r := by
  cases k with
  | zero => cases (show none = some r from h)
  | succ k =>
  replace h : evermorelaw_MonoidElements.c k ds = some r := h
  unfold evermorelaw_MonoidElements.c at h
  obtain ⟨x0, d0, e0, h0⟩ := pop_some h; clear h; subst e0; have h := h0; clear h0
  obtain ⟨eN, hN⟩ := popN_some h; clear h; subst eN; have h := hN; clear hN
  exact ⟨k, Nat.lt_succ_self k, (evermorelaw_MonoidElements.e k x0).symm.trans h⟩
theorem evermorelaw_MonoidElements.o (ds : List Dat) (r : Bool) (h : evermorelaw_MonoidElements.out ds = some r) : ds = evermorelaw_MonoidElements.rs r := by
  unfold evermorelaw_MonoidElements.out at h
  obtain ⟨x0, d0, e0, h0⟩ := pop_some h; clear h; subst e0; have h := h0; clear h0
  obtain ⟨eN, hN⟩ := popN_some h; clear h; subst eN; have h := hN; clear hN
  cases h
  rfl
theorem evermorelaw_MonoidElements.fn : FnOk Try.prog 14 Try.f14 evermorelaw_MonoidElements.body Try.f14.ntmps 1 (fnRes Try.f14) :=
  fnOk_of (by kernel_rfl) (by kernel_rfl) (by kernel_rfl) (by kernel_rfl)
theorem evermorelaw_MonoidElements.con' : ∀ k ds r, evermorelaw_MonoidElements.g k ds = some r → Con Try.prog 14 1 evermorelaw_MonoidElements.ti evermorelaw_MonoidElements.to ds (evermorelaw_MonoidElements.rs r) :=
  fun_ok (T := T) T_ok mixed evermorelaw_MonoidElements.fn (env := evermorelaw_MonoidElements.env) (tbl := evermorelaw_MonoidElements.tbl) (gOut := evermorelaw_MonoidElements.out) (nin := 0) (cuts := []) (fuel := 100000) rfl (by kernel_rfl) (by kernel_rfl) (by kernel_rfl) (fun x hx => by
    simp only [evermorelaw_MonoidElements.tbl, List.mem_cons, List.not_mem_nil, or_false] at hx
    subst hx
    · exact evermorelaw_MonoidElements.h19
) evermorelaw_MonoidElements.o evermorelaw_MonoidElements.h (fun k _ => by unfold evermorelaw_MonoidElements.env; exact (envC_ok (fun ds K r h => by
    obtain ⟨x0, d0, e0, h0⟩ := pop_some h; clear h; subst e0; have h := h0; clear h0
    obtain ⟨x1, d1, e1, h1⟩ := pop_some h; clear h; subst e1; have h := h1; clear h1
    obtain ⟨eN, hN⟩ := popN_some h; clear h; subst eN; have h := hN; clear hN
    obtain ⟨r1, h1, h2⟩ := bind_some h
    exact ⟨_, h2, evermoreref1_Words.con k _ h1⟩) (envC_ok (fun ds K r h => by
    obtain ⟨x0, d0, e0, h0⟩ := pop_some h; clear h; subst e0; have h := h0; clear h0
    obtain ⟨eN, hN⟩ := popN_some h; clear h; subst eN; have h := hN; clear hN
    obtain ⟨r1, h1, h2⟩ := bind_some h
    exact ⟨_, h2, monoid_Elements.con k _ h1⟩) (envC_ok (fun ds K r h => by
    obtain ⟨x0, d0, e0, h0⟩ := pop_some h; clear h; subst e0; have h := h0; clear h0
    obtain ⟨eN, hN⟩ := popN_some h; clear h; subst eN; have h := hN; clear hN
    obtain ⟨r1, h1, h2⟩ := bind_some h
    exact ⟨_, h2, evermorelaw_small.con k _ h1⟩) (envC_ok (fun ds K r h => by
    obtain ⟨x0, d0, e0, h0⟩ := pop_some h; clear h; subst e0; have h := h0; clear h0
    obtain ⟨eN, hN⟩ := popN_some h; clear h; subst eN; have h := hN; clear hN
    obtain ⟨r1, h1, h2⟩ := bind_some h
    exact ⟨_, h2, evermoreref4_Elements_2.con k _ h1⟩) env0_ok)))))
theorem evermorelaw_MonoidElements.con (k : Nat) {x0 : (Int × (Int × ((List (List Int)) × ((List Int) × Unit))))} (r : Bool) (h : evermorelaw_MonoidElements.f k x0 = some r) : Con Try.prog 14 1 evermorelaw_MonoidElements.ti evermorelaw_MonoidElements.to [⟨(.pair (.int .i64) (.pair (.int .i64) (.pair (.slice (.slice (.int .i64))) (.pair (.slice (.int .i64)) .unit)))), x0⟩] (evermorelaw_MonoidElements.rs r) :=
  evermorelaw_MonoidElements.con' (k + 1) _ r (by show evermorelaw_MonoidElements.c k _ = some r; unfold evermorelaw_MonoidElements.c; simp only [pop_self, popN]; exact h)
/-- The one pure statement of the law, over whatever arguments can be read. -/
def evermorelaw_MonoidElements.PureH : Prop := ∀ (x0 : (Int × (Int × ((List (List Int)) × ((List Int) × Unit))))), Ty.okv (.pair (.int .i64) (.pair (.int .i64) (.pair (.slice (.slice (.int .i64))) (.pair (.slice (.int .i64)) .unit)))) x0 → ∃ k, evermorelaw_MonoidElements.f k x0 = some true
end Go.Proofs.YteacnmjinjaapaaSx
