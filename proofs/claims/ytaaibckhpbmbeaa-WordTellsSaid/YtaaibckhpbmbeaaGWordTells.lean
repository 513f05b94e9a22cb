import Derived.Test.YtaaibckhpbmbeaaSxT
import Derived.Test.YtaaibckhpbmbeaaSxQ
import Derived.Test.YtaaibckhpbmbeaaSxV2
import Derived.Test.YtaaibckhpbmbeaaSxW
import Derived.KernelRfl
import Derived.Test.YtaaibckhpbmbeaaProg
set_option linter.unusedVariables false
set_option maxRecDepth 100000
namespace Go.Proofs.YtaaibckhpbmbeaaSx
open Go Go.Proofs
theorem T_check : T.check Try.prog = true := by kernel_rfl
theorem T_ok : TOk Try.prog T := TT.check_ok T_check
theorem mixed : Try.prog.follows .mixedOrders = true := by kernel_rfl
mutual
def word_May.l6 : Nat → Int → List (Int) → Int → Int → Option (Int)
 | 0, _, _, _, _ => none
 | k + 1, letters0, x16, x17, x18 =>
  if x18 < x17 then
   if 0 ≤ x18 then
   if x18 < (↑x16.length : Int) then
    if Go.Proofs.YtaaibckhpbmbeaaSx.rd (Int.ofNat 0) x16 x18 < 0 then
      some (2)
     else
      if letters0 ≤ Go.Proofs.YtaaibckhpbmbeaaSx.rd (Int.ofNat 0) x16 x18 then
       some (2)
      else
       word_May.l6 k letters0 x16 x17 (Go.IntKind.i64.wrap (x18 + 1))
    else none
   else none
  else
   some (0)
end
def word_May.f (k : Nat) (letters0 : Int) (w1 : List (Int)) : Option (Int) :=
 if letters0 < 1 then
  some (2)
 else
  if 4 < letters0 then
   some (2)
  else
   if 60 < (↑w1.length : Int) then
    some (1)
   else
    word_May.l6 k letters0 w1 ((↑w1.length : Int)) 0

noncomputable def word_May.body : Code := fnBody Try.f28
def word_May.ti : Tm := ⟨[(0, .p (.int .i64)), (1, .p (.slice (.int .i64)))], []⟩
def word_May.to : Tm := ⟨[(0, .p (.int .i64))], []⟩
def word_May.rs (r : Int) : List Dat := [⟨(.int .i64), r⟩]
def word_May.out (ds : List Dat) : Option (Int) := pop (.int .i64) ds fun x0 ds => popN ds (some (x0))
def word_May.c (k : Nat) (ds : List Dat) : Option (Int) := pop (.int .i64) ds fun x0 ds => pop (.slice (.int .i64)) ds fun x1 ds => popN ds (word_May.f k x0 x1)
def word_May.g : Nat → List Dat → Option (Int)
 | 0, _ => none
 | k + 1, ds => word_May.c k ds
def word_May.env (k : Nat) : Nat → List SV → List Chunk → KT (Int) → Option (Int) := env0
def word_May.t13 : Tm := ⟨[(0, .p (.int .i64)), (16, .p (.slice (.int .i64))), (17, .p (.int .i64)), (18, .p (.int .i64))], []⟩
def word_May.c13 (k : Nat) (ds : List Dat) : Option (Int) := pop (.int .i64) ds fun x0 ds => pop (.slice (.int .i64)) ds fun x1 ds => pop (.int .i64) ds fun x2 ds => pop (.int .i64) ds fun x3 ds => popN ds (word_May.l6 k x0 x1 x2 x3)
def word_May.tbl : List (Nat × Tm × (Nat → List Dat → Option (Int))) := [(13, word_May.t13, word_May.c13)]
theorem word_May.e13 (k : Nat) (x0 : Int) (x1 : (List Int)) (x2 : Int) (x3 : Int) : word_May.l6 (k + 1) x0 x1 x2 x3 = run T (word_May.env k) Try.f28.ntmps (cutE 0 word_May.tbl k) (finE 0 word_May.to word_May.out) (fnRes Try.f28) [] 100000 true (start (stackOf 13 word_May.body)) (word_May.t13.fill [⟨(.int .i64), x0⟩, ⟨(.slice (.int .i64)), x1⟩, ⟨(.int .i64), x2⟩, ⟨(.int .i64), x3⟩]) := by kernel_rfl
theorem word_May.s13 : stackAt 13 word_May.body [] = some (stackOf 13 word_May.body) := by kernel_rfl
theorem word_May.h13 (k : Nat) (ds : List Dat) (r : Int) (h : word_May.c13 k ds = some r) : ∃ k', k' < k ∧ ∃ s, stackAt 13 word_May.body [] = some s ∧ run T (word_May.env k') Try.f28.ntmps (cutE 0 word_May.tbl k') (finE 0 word_May.to word_May.out) (fnRes Try.f28) [] 100000 true (start s) (word_May.t13.fill ds) = some r := by
  unfold word_May.c13 at h
  obtain ⟨x0, d0, e0, h0⟩ := pop_some h; clear h; subst e0; have h := h0; clear h0
  obtain ⟨x1, d1, e1, h1⟩ := pop_some h; clear h; subst e1; have h := h1; clear h1
  obtain ⟨x2, d2, e2, h2⟩ := pop_some h; clear h; subst e2; have h := h2; clear h2
  obtain ⟨x3, d3, e3, h3⟩ := pop_some h; clear h; subst e3; have h := h3; clear h3
  obtain ⟨eN, hN⟩ := popN_some h; clear h; subst eN; have h := hN; clear hN
  cases k with
  | zero => cases (show none = some r from h)
  | succ k => exact ⟨k, Nat.lt_succ_self k, _, word_May.s13, (word_May.e13 k x0 x1 x2 x3).symm.trans h⟩
theorem word_May.e (k : Nat) (x0 : Int) (x1 : (List Int)) : word_May.f k x0 x1 = run T (word_May.env k) Try.f28.ntmps (cutE 0 word_May.tbl k) (finE 0 word_May.to word_May.out) (fnRes Try.f28) [] 100000 true ([.code word_May.body]) (word_May.ti.fill [⟨(.int .i64), x0⟩, ⟨(.slice (.int .i64)), x1⟩]) := by kernel_rfl
theorem word_May.h (k : Nat) (ds : List Dat) (r : Int) (h : word_May.g k ds = some r) : ∃ k', k' < k ∧ run T (word_May.env k') Try.f28.ntmps (cutE 0 word_May.tbl k') (finE 0 word_May.to word_May.out) (fnRes Try.f28) [] 100000 true ([.code word_May.body]) (word_May.ti.fill ds) = some r := by
  cases k with
  | zero => cases (show none = some r from h)
  | succ k =>
  replace h : word_May.c k ds = some r := h
  unfold word_May.c at h
  obtain ⟨x0, d0, e0, h0⟩ := pop_some h; clear h; subst e0; have h := h0; clear h0
  obtain ⟨x1, d1, e1, h1⟩ := pop_some h; clear h; subst e1; have h := h1; clear h1
  obtain ⟨eN, hN⟩ := popN_some h; clear h; subst eN; have h := hN; clear hN
  exact ⟨k, Nat.lt_succ_self k, (word_May.e k x0 x1).symm.trans h⟩
theorem word_May.o (ds : List Dat) (r : Int) (h : word_May.out ds = some r) : ds = word_May.rs r := by
  unfold word_May.out at h
  obtain ⟨x0, d0, e0, h0⟩ := pop_some h; clear h; subst e0; have h := h0; clear h0
  obtain ⟨eN, hN⟩ := popN_some h; clear h; subst eN; have h := hN; clear hN
  cases h
  rfl
theorem word_May.fn : FnOk Try.prog 28 Try.f28 word_May.body Try.f28.ntmps 2 (fnRes Try.f28) :=
  fnOk_of (by kernel_rfl) (by kernel_rfl) (by kernel_rfl) (by kernel_rfl)
theorem word_May.con' : ∀ k ds r, word_May.g k ds = some r → Con Try.prog 28 2 word_May.ti word_May.to ds (word_May.rs r) :=
  fun_ok (T := T) T_ok mixed word_May.fn (env := word_May.env) (tbl := word_May.tbl) (gOut := word_May.out) (nin := 0) (cuts := []) (fuel := 100000) rfl (by kernel_rfl) (by kernel_rfl) (by kernel_rfl) (fun x hx => by
    simp only [word_May.tbl, List.mem_cons, List.not_mem_nil, or_false] at hx
    subst hx
    · exact word_May.h13
) word_May.o word_May.h (fun k _ => by unfold word_May.env; exact env0_ok)
theorem word_May.con (k : Nat) {x0 : Int} {x1 : (List Int)} (r : Int) (h : word_May.f k x0 x1 = some r) : Con Try.prog 28 2 word_May.ti word_May.to [⟨(.int .i64), x0⟩, ⟨(.slice (.int .i64)), x1⟩] (word_May.rs r) :=
  word_May.con' (k + 1) _ r (by show word_May.c k _ = some r; unfold word_May.c; simp only [pop_self, popN]; exact h)
mutual
def evermoreref1_May.l6 : Nat → Int → List (Int) → Int → Option (Int)
 | 0, _, _, _ => none
 | k + 1, letters0, w1, i5 =>
  if i5 < (↑w1.length : Int) then
   if 0 ≤ i5 then
   if i5 < (↑w1.length : Int) then
    if Go.Proofs.YtaaibckhpbmbeaaSx.rd (Int.ofNat 0) w1 i5 < 0 then
      some (2)
     else
      if 0 ≤ i5 then
      if i5 < (↑w1.length : Int) then
       if letters0 ≤ Go.Proofs.YtaaibckhpbmbeaaSx.rd (Int.ofNat 0) w1 i5 then
         some (2)
        else
         evermoreref1_May.l6 k letters0 w1 (Go.IntKind.i64.wrap (i5 + 1))
       else none
      else none
    else none
   else none
  else
   some (0)
end
def evermoreref1_May.f (k : Nat) (letters0 : Int) (w1 : List (Int)) : Option (Int) :=
 if letters0 < 1 then
  some (2)
 else
  if 4 < letters0 then
   some (2)
  else
   if 60 < (↑w1.length : Int) then
    some (1)
   else
    evermoreref1_May.l6 k letters0 w1 0

noncomputable def evermoreref1_May.body : Code := fnBody Try.f21
def evermoreref1_May.ti : Tm := ⟨[(0, .p (.int .i64)), (1, .p (.slice (.int .i64)))], []⟩
def evermoreref1_May.to : Tm := ⟨[(0, .p (.int .i64))], []⟩
def evermoreref1_May.rs (r : Int) : List Dat := [⟨(.int .i64), r⟩]
def evermoreref1_May.out (ds : List Dat) : Option (Int) := pop (.int .i64) ds fun x0 ds => popN ds (some (x0))
def evermoreref1_May.c (k : Nat) (ds : List Dat) : Option (Int) := pop (.int .i64) ds fun x0 ds => pop (.slice (.int .i64)) ds fun x1 ds => popN ds (evermoreref1_May.f k x0 x1)
def evermoreref1_May.g : Nat → List Dat → Option (Int)
 | 0, _ => none
 | k + 1, ds => evermoreref1_May.c k ds
def evermoreref1_May.env (k : Nat) : Nat → List SV → List Chunk → KT (Int) → Option (Int) := env0
def evermoreref1_May.t13 : Tm := ⟨[(0, .p (.int .i64)), (1, .p (.slice (.int .i64))), (5, .p (.int .i64))], []⟩
def evermoreref1_May.c13 (k : Nat) (ds : List Dat) : Option (Int) := pop (.int .i64) ds fun x0 ds => pop (.slice (.int .i64)) ds fun x1 ds => pop (.int .i64) ds fun x2 ds => popN ds (evermoreref1_May.l6 k x0 x1 x2)
def evermoreref1_May.tbl : List (Nat × Tm × (Nat → List Dat → Option (Int))) := [(13, evermoreref1_May.t13, evermoreref1_May.c13)]
theorem evermoreref1_May.e13 (k : Nat) (x0 : Int) (x1 : (List Int)) (x2 : Int) : evermoreref1_May.l6 (k + 1) x0 x1 x2 = run T (evermoreref1_May.env k) Try.f21.ntmps (cutE 0 evermoreref1_May.tbl k) (finE 0 evermoreref1_May.to evermoreref1_May.out) (fnRes Try.f21) [] 100000 true (start (stackOf 13 evermoreref1_May.body)) (evermoreref1_May.t13.fill [⟨(.int .i64), x0⟩, ⟨(.slice (.int .i64)), x1⟩, ⟨(.int .i64), x2⟩]) := by kernel_rfl
theorem evermoreref1_May.s13 : stackAt 13 evermoreref1_May.body [] = some (stackOf 13 evermoreref1_May.body) := by kernel_rfl
theorem evermoreref1_May.h13 (k : Nat) (ds : List Dat) (r : Int) (h : evermoreref1_May.c13 k ds = some r) : ∃ k', k' < k ∧ ∃ s, stackAt 13 evermoreref1_May.body [] = some s ∧ run T (evermoreref1_May.env k') Try.f21.ntmps (cutE 0 evermoreref1_May.tbl k') (finE 0 evermoreref1_May.to evermoreref1_May.out) (fnRes Try.f21) [] 100000 true (start s) (evermoreref1_May.t13.fill ds) = some r := by
  unfold evermoreref1_May.c13 at h
  obtain ⟨x0, d0, e0, h0⟩ := pop_some h; clear h; subst e0; have h := h0; clear h0
  obtain ⟨x1, d1, e1, h1⟩ := pop_some h; clear h; subst e1; have h := h1; clear h1
  obtain ⟨x2, d2, e2, h2⟩ := pop_some h; clear h; subst e2; have h := h2; clear h2
  obtain ⟨eN, hN⟩ := popN_some h; clear h; subst eN; have h := hN; clear hN
  cases k with
  | zero => cases (show none = some r from h)
  | succ k => exact ⟨k, Nat.lt_succ_self k, _, evermoreref1_May.s13, (evermoreref1_May.e13 k x0 x1 x2).symm.trans h⟩
theorem evermoreref1_May.e (k : Nat) (x0 : Int) (x1 : (List Int)) : evermoreref1_May.f k x0 x1 = run T (evermoreref1_May.env k) Try.f21.ntmps (cutE 0 evermoreref1_May.tbl k) (finE 0 evermoreref1_May.to evermoreref1_May.out) (fnRes Try.f21) [] 100000 true ([.code evermoreref1_May.body]) (evermoreref1_May.ti.fill [⟨(.int .i64), x0⟩, ⟨(.slice (.int .i64)), x1⟩]) := by kernel_rfl
theorem evermoreref1_May.h (k : Nat) (ds : List Dat) (r : Int) (h : evermoreref1_May.g k ds = some r) : ∃ k', k' < k ∧ run T (evermoreref1_May.env k') Try.f21.ntmps (cutE 0 evermoreref1_May.tbl k') (finE 0 evermoreref1_May.to evermoreref1_May.out) (fnRes Try.f21) [] 100000 true ([.code evermoreref1_May.body]) (evermoreref1_May.ti.fill ds) = some r := by
  cases k with
  | zero => cases (show none = some r from h)
  | succ k =>
  replace h : evermoreref1_May.c k ds = some r := h
  unfold evermoreref1_May.c at h
  obtain ⟨x0, d0, e0, h0⟩ := pop_some h; clear h; subst e0; have h := h0; clear h0
  obtain ⟨x1, d1, e1, h1⟩ := pop_some h; clear h; subst e1; have h := h1; clear h1
  obtain ⟨eN, hN⟩ := popN_some h; clear h; subst eN; have h := hN; clear hN
  exact ⟨k, Nat.lt_succ_self k, (evermoreref1_May.e k x0 x1).symm.trans h⟩
theorem evermoreref1_May.o (ds : List Dat) (r : Int) (h : evermoreref1_May.out ds = some r) : ds = evermoreref1_May.rs r := by
  unfold evermoreref1_May.out at h
  obtain ⟨x0, d0, e0, h0⟩ := pop_some h; clear h; subst e0; have h := h0; clear h0
  obtain ⟨eN, hN⟩ := popN_some h; clear h; subst eN; have h := hN; clear hN
  cases h
  rfl
theorem evermoreref1_May.fn : FnOk Try.prog 21 Try.f21 evermoreref1_May.body Try.f21.ntmps 2 (fnRes Try.f21) :=
  fnOk_of (by kernel_rfl) (by kernel_rfl) (by kernel_rfl) (by kernel_rfl)
theorem evermoreref1_May.con' : ∀ k ds r, evermoreref1_May.g k ds = some r → Con Try.prog 21 2 evermoreref1_May.ti evermoreref1_May.to ds (evermoreref1_May.rs r) :=
  fun_ok (T := T) T_ok mixed evermoreref1_May.fn (env := evermoreref1_May.env) (tbl := evermoreref1_May.tbl) (gOut := evermoreref1_May.out) (nin := 0) (cuts := []) (fuel := 100000) rfl (by kernel_rfl) (by kernel_rfl) (by kernel_rfl) (fun x hx => by
    simp only [evermoreref1_May.tbl, List.mem_cons, List.not_mem_nil, or_false] at hx
    subst hx
    · exact evermoreref1_May.h13
) evermoreref1_May.o evermoreref1_May.h (fun k _ => by unfold evermoreref1_May.env; exact env0_ok)
theorem evermoreref1_May.con (k : Nat) {x0 : Int} {x1 : (List Int)} (r : Int) (h : evermoreref1_May.f k x0 x1 = some r) : Con Try.prog 21 2 evermoreref1_May.ti evermoreref1_May.to [⟨(.int .i64), x0⟩, ⟨(.slice (.int .i64)), x1⟩] (evermoreref1_May.rs r) :=
  evermoreref1_May.con' (k + 1) _ r (by show evermoreref1_May.c k _ = some r; unfold evermoreref1_May.c; simp only [pop_self, popN]; exact h)
mutual
def word_Lasso.l2 : Nat → Int → (List (Int) × (List (Int) × Unit)) → Int → List (Int) → List (Int) → Option (Int)
 | 0, _, _, _, _, _ => none
 | k + 1, letters0, x12, x13, l3_0, l3_1 =>
  if x13 < 2 then
   if 0 ≤ x13 then
   if x13 < (↑2 : Int) then
    (word_May.f k letters0 (((Go.Proofs.YtaaibckhpbmbeaaSx.Ty.int Go.IntKind.i64).slice.pair ((Go.Proofs.YtaaibckhpbmbeaaSx.Ty.int Go.IntKind.i64).slice.pair Go.Proofs.YtaaibckhpbmbeaaSx.Ty.unit)).ix x12 x13.toNat (Go.Proofs.YtaaibckhpbmbeaaSx.Ty.int Go.IntKind.i64).slice)).bind fun r5 =>
      if r5 = 0 then
       word_Lasso.l2 k letters0 x12 (Go.IntKind.i64.wrap (x13 + 1)) l3_0 l3_1
      else
       some (r5)
    else none
   else none
  else
   if (↑l3_1.length : Int) = 0 then
    some (1)
   else
    some (0)
end
def word_Lasso.f (k : Nat) (letters0 : Int) (l1 : (List (Int) × (List (Int) × Unit))) : Option (Int) :=
 word_Lasso.l2 k letters0 ((l1.fst, l1.snd.fst, ())) 0 l1.fst l1.snd.fst

noncomputable def word_Lasso.body : Code := fnBody Try.f29
def word_Lasso.ti : Tm := ⟨[(0, .p (.int .i64)), (1, .p (.pair (.slice (.int .i64)) (.pair (.slice (.int .i64)) .unit)))], []⟩
def word_Lasso.to : Tm := ⟨[(0, .p (.int .i64))], []⟩
def word_Lasso.rs (r : Int) : List Dat := [⟨(.int .i64), r⟩]
def word_Lasso.out (ds : List Dat) : Option (Int) := pop (.int .i64) ds fun x0 ds => popN ds (some (x0))
def word_Lasso.c (k : Nat) (ds : List Dat) : Option (Int) := pop (.int .i64) ds fun x0 ds => pop (.pair (.slice (.int .i64)) (.pair (.slice (.int .i64)) .unit)) ds fun x1 ds => popN ds (word_Lasso.f k x0 x1)
def word_Lasso.g : Nat → List Dat → Option (Int)
 | 0, _ => none
 | k + 1, ds => word_Lasso.c k ds
def word_Lasso.env (k : Nat) : Nat → List SV → List Chunk → KT (Int) → Option (Int) := (envC 28 2 word_May.ti word_May.to (fun ds K => pop (.int .i64) ds fun x0 ds => pop (.slice (.int .i64)) ds fun x1 ds => popN ds ((word_May.f k x0 x1).bind fun r => K (word_May.rs r))) env0)
def word_Lasso.t5 : Tm := ⟨[(0, .p (.int .i64)), (3, .ptr 0 0), (12, .p (.pair (.slice (.int .i64)) (.pair (.slice (.int .i64)) .unit))), (13, .p (.int .i64))], [.box [.p (.slice (.int .i64)), .p (.slice (.int .i64))] 43]⟩
def word_Lasso.c5 (k : Nat) (ds : List Dat) : Option (Int) := pop (.int .i64) ds fun x0 ds => pop (.pair (.slice (.int .i64)) (.pair (.slice (.int .i64)) .unit)) ds fun x1 ds => pop (.int .i64) ds fun x2 ds => pop (.slice (.int .i64)) ds fun x3 ds => pop (.slice (.int .i64)) ds fun x4 ds => popN ds (word_Lasso.l2 k x0 x1 x2 x3 x4)
def word_Lasso.tbl : List (Nat × Tm × (Nat → List Dat → Option (Int))) := [(5, word_Lasso.t5, word_Lasso.c5)]
theorem word_Lasso.e5 (k : Nat) (x0 : Int) (x1 : ((List Int) × ((List Int) × Unit))) (x2 : Int) (x3 : (List Int)) (x4 : (List Int)) : word_Lasso.l2 (k + 1) x0 x1 x2 x3 x4 = run T (word_Lasso.env k) Try.f29.ntmps (cutE 0 word_Lasso.tbl k) (finE 0 word_Lasso.to word_Lasso.out) (fnRes Try.f29) [] 100000 true (start (stackOf 5 word_Lasso.body)) (word_Lasso.t5.fill [⟨(.int .i64), x0⟩, ⟨(.pair (.slice (.int .i64)) (.pair (.slice (.int .i64)) .unit)), x1⟩, ⟨(.int .i64), x2⟩, ⟨(.slice (.int .i64)), x3⟩, ⟨(.slice (.int .i64)), x4⟩]) := by kernel_rfl
theorem word_Lasso.s5 : stackAt 5 word_Lasso.body [] = some (stackOf 5 word_Lasso.body) := by kernel_rfl
theorem word_Lasso.h5 (k : Nat) (ds : List Dat) (r : Int) (h : word_Lasso.c5 k ds = some r) : ∃ k', k' < k ∧ ∃ s, stackAt 5 word_Lasso.body [] = some s ∧ run T (word_Lasso.env k') Try.f29.ntmps (cutE 0 word_Lasso.tbl k') (finE 0 word_Lasso.to word_Lasso.out) (fnRes Try.f29) [] 100000 true (start s) (word_Lasso.t5.fill ds) = some r := by
  unfold word_Lasso.c5 at h
  obtain ⟨x0, d0, e0, h0⟩ := pop_some h; clear h; subst e0; have h := h0; clear h0
  obtain ⟨x1, d1, e1, h1⟩ := pop_some h; clear h; subst e1; have h := h1; clear h1
  obtain ⟨x2, d2, e2, h2⟩ := pop_some h; clear h; subst e2; have h := h2; clear h2
  obtain ⟨x3, d3, e3, h3⟩ := pop_some h; clear h; subst e3; have h := h3; clear h3
  obtain ⟨x4, d4, e4, h4⟩ := pop_some h; clear h; subst e4; have h := h4; clear h4
  obtain ⟨eN, hN⟩ := popN_some h; clear h; subst eN; have h := hN; clear hN
  cases k with
  | zero => cases (show none = some r from h)
  | succ k => exact ⟨k, Nat.lt_succ_self k, _, word_Lasso.s5, (word_Lasso.e5 k x0 x1 x2 x3 x4).symm.trans h⟩
theorem word_Lasso.e (k : Nat) (x0 : Int) (x1 : ((List Int) × ((List Int) × Unit))) : word_Lasso.f k x0 x1 = run T (word_Lasso.env k) Try.f29.ntmps (cutE 0 word_Lasso.tbl k) (finE 0 word_Lasso.to word_Lasso.out) (fnRes Try.f29) [] 100000 true ([.code word_Lasso.body]) (word_Lasso.ti.fill [⟨(.int .i64), x0⟩, ⟨(.pair (.slice (.int .i64)) (.pair (.slice (.int .i64)) .unit)), x1⟩]) := by kernel_rfl
theorem word_Lasso.h (k : Nat) (ds : List Dat) (r : Int) (h : word_Lasso.g k ds = some r) : ∃ k', k' < k ∧ run T (word_Lasso.env k') Try.f29.ntmps (cutE 0 word_Lasso.tbl k') (finE 0 word_Lasso.to word_Lasso.out) (fnRes Try.f29) [] 100000 true ([.code word_Lasso.body]) (word_Lasso.ti.fill ds) = some r := by
  cases k with
  | zero => cases (show none = some r from h)
  | succ k =>
  replace h : word_Lasso.c k ds = some r := h
  unfold word_Lasso.c at h
  obtain ⟨x0, d0, e0, h0⟩ := pop_some h; clear h; subst e0; have h := h0; clear h0
  obtain ⟨x1, d1, e1, h1⟩ := pop_some h; clear h; subst e1; have h := h1; clear h1
  obtain ⟨eN, hN⟩ := popN_some h; clear h; subst eN; have h := hN; clear hN
  exact ⟨k, Nat.lt_succ_self k, (word_Lasso.e k x0 x1).symm.trans h⟩
theorem word_Lasso.o (ds : List Dat) (r : Int) (h : word_Lasso.out ds = some r) : ds = word_Lasso.rs r := by
  unfold word_Lasso.out at h
  obtain ⟨x0, d0, e0, h0⟩ := pop_some h; clear h; subst e0; have h := h0; clear h0
  obtain ⟨eN, hN⟩ := popN_some h; clear h; subst eN; have h := hN; clear hN
  cases h
  rfl
theorem word_Lasso.fn : FnOk Try.prog 29 Try.f29 word_Lasso.body Try.f29.ntmps 2 (fnRes Try.f29) :=
  fnOk_of (by kernel_rfl) (by kernel_rfl) (by kernel_rfl) (by kernel_rfl)
theorem word_Lasso.con' : ∀ k ds r, word_Lasso.g k ds = some r → Con Try.prog 29 2 word_Lasso.ti word_Lasso.to ds (word_Lasso.rs r) :=
  fun_ok (T := T) T_ok mixed word_Lasso.fn (env := word_Lasso.env) (tbl := word_Lasso.tbl) (gOut := word_Lasso.out) (nin := 0) (cuts := []) (fuel := 100000) rfl (by kernel_rfl) (by kernel_rfl) (by kernel_rfl) (fun x hx => by
    simp only [word_Lasso.tbl, List.mem_cons, List.not_mem_nil, or_false] at hx
    subst hx
    · exact word_Lasso.h5
) word_Lasso.o word_Lasso.h (fun k _ => by unfold word_Lasso.env; exact (envC_ok (fun ds K r h => by
    obtain ⟨x0, d0, e0, h0⟩ := pop_some h; clear h; subst e0; have h := h0; clear h0
    obtain ⟨x1, d1, e1, h1⟩ := pop_some h; clear h; subst e1; have h := h1; clear h1
    obtain ⟨eN, hN⟩ := popN_some h; clear h; subst eN; have h := hN; clear hN
    obtain ⟨r1, h1, h2⟩ := bind_some h
    exact ⟨_, h2, word_May.con k _ h1⟩) env0_ok))
theorem word_Lasso.con (k : Nat) {x0 : Int} {x1 : ((List Int) × ((List Int) × Unit))} (r : Int) (h : word_Lasso.f k x0 x1 = some r) : Con Try.prog 29 2 word_Lasso.ti word_Lasso.to [⟨(.int .i64), x0⟩, ⟨(.pair (.slice (.int .i64)) (.pair (.slice (.int .i64)) .unit)), x1⟩] (word_Lasso.rs r) :=
  word_Lasso.con' (k + 1) _ r (by show word_Lasso.c k _ = some r; unfold word_Lasso.c; simp only [pop_self, popN]; exact h)
def evermoreref1_Lasso.f (k : Nat) (letters0 : Int) (l1 : (List (Int) × (List (Int) × Unit))) : Option (Int) :=
 (evermoreref1_May.f k letters0 l1.fst).bind fun r1 =>
  if r1 = 0 then
   (evermoreref1_May.f k letters0 l1.snd.fst).bind fun r3 =>
    if r3 = 0 then
     if (↑l1.snd.fst.length : Int) = 0 then
      some (1)
     else
      some (0)
    else
     some (r3)
  else
   some (r1)

noncomputable def evermoreref1_Lasso.body : Code := fnBody Try.f26
def evermoreref1_Lasso.ti : Tm := ⟨[(0, .p (.int .i64)), (1, .p (.pair (.slice (.int .i64)) (.pair (.slice (.int .i64)) .unit)))], []⟩
def evermoreref1_Lasso.to : Tm := ⟨[(0, .p (.int .i64))], []⟩
def evermoreref1_Lasso.rs (r : Int) : List Dat := [⟨(.int .i64), r⟩]
def evermoreref1_Lasso.out (ds : List Dat) : Option (Int) := pop (.int .i64) ds fun x0 ds => popN ds (some (x0))
def evermoreref1_Lasso.c (k : Nat) (ds : List Dat) : Option (Int) := pop (.int .i64) ds fun x0 ds => pop (.pair (.slice (.int .i64)) (.pair (.slice (.int .i64)) .unit)) ds fun x1 ds => popN ds (evermoreref1_Lasso.f k x0 x1)
def evermoreref1_Lasso.g : Nat → List Dat → Option (Int)
 | 0, _ => none
 | k + 1, ds => evermoreref1_Lasso.c k ds
def evermoreref1_Lasso.env (k : Nat) : Nat → List SV → List Chunk → KT (Int) → Option (Int) := (envC 21 2 evermoreref1_May.ti evermoreref1_May.to (fun ds K => pop (.int .i64) ds fun x0 ds => pop (.slice (.int .i64)) ds fun x1 ds => popN ds ((evermoreref1_May.f k x0 x1).bind fun r => K (evermoreref1_May.rs r))) env0)
def evermoreref1_Lasso.tbl : List (Nat × Tm × (Nat → List Dat → Option (Int))) := []
theorem evermoreref1_Lasso.e (k : Nat) (x0 : Int) (x1 : ((List Int) × ((List Int) × Unit))) : evermoreref1_Lasso.f k x0 x1 = run T (evermoreref1_Lasso.env k) Try.f26.ntmps (cutE 0 evermoreref1_Lasso.tbl k) (finE 0 evermoreref1_Lasso.to evermoreref1_Lasso.out) (fnRes Try.f26) [] 100000 true ([.code evermoreref1_Lasso.body]) (evermoreref1_Lasso.ti.fill [⟨(.int .i64), x0⟩, ⟨(.pair (.slice (.int .i64)) (.pair (.slice (.int .i64)) .unit)), x1⟩]) := by kernel_rfl
theorem evermoreref1_Lasso.h (k : Nat) (ds : List Dat) (r : Int) (h : evermoreref1_Lasso.g k ds = some r) : ∃ k', k' < k ∧ run T (evermoreref1_Lasso.env k') Try.f26.ntmps (cutE 0 evermoreref1_Lasso.tbl k') (finE 0 evermoreref1_Lasso.to evermoreref1_Lasso.out) (fnRes Try.f26) [] 100000 true ([.code evermoreref1_Lasso.body]) (evermoreref1_Lasso.ti.fill ds) = some r := by
  cases k with
  | zero => cases (show none = some r from h)
  | succ k =>
  replace h : evermoreref1_Lasso.c k ds = some r := h
  unfold evermoreref1_Lasso.c at h
  obtain ⟨x0, d0, e0, h0⟩ := pop_some h; clear h; subst e0; have h := h0; clear h0
  obtain ⟨x1, d1, e1, h1⟩ := pop_some h; clear h; subst e1; have h := h1; clear h1
  obtain ⟨eN, hN⟩ := popN_some h; clear h; subst eN; have h := hN; clear hN
  exact ⟨k, Nat.lt_succ_self k, (evermoreref1_Lasso.e k x0 x1).symm.trans h⟩
theorem evermoreref1_Lasso.o (ds : List Dat) (r : Int) (h : evermoreref1_Lasso.out ds = some r) : ds = evermoreref1_Lasso.rs r := by
  unfold evermoreref1_Lasso.out at h
  obtain ⟨x0, d0, e0, h0⟩ := pop_some h; clear h; subst e0; have h := h0; clear h0
  obtain ⟨eN, hN⟩ := popN_some h; clear h; subst eN; have h := hN; clear hN
  cases h
  rfl
theorem evermoreref1_Lasso.fn : FnOk Try.prog 26 Try.f26 evermoreref1_Lasso.body Try.f26.ntmps 2 (fnRes Try.f26) :=
  fnOk_of (by kernel_rfl) (by kernel_rfl) (by kernel_rfl) (by kernel_rfl)
theorem evermoreref1_Lasso.con' : ∀ k ds r, evermoreref1_Lasso.g k ds = some r → Con Try.prog 26 2 evermoreref1_Lasso.ti evermoreref1_Lasso.to ds (evermoreref1_Lasso.rs r) :=
  fun_ok (T := T) T_ok mixed evermoreref1_Lasso.fn (env := evermoreref1_Lasso.env) (tbl := evermoreref1_Lasso.tbl) (gOut := evermoreref1_Lasso.out) (nin := 0) (cuts := []) (fuel := 100000) rfl (by kernel_rfl) (by kernel_rfl) (by kernel_rfl) (fun x hx => by simp [evermoreref1_Lasso.tbl] at hx) evermoreref1_Lasso.o evermoreref1_Lasso.h (fun k _ => by unfold evermoreref1_Lasso.env; exact (envC_ok (fun ds K r h => by
    obtain ⟨x0, d0, e0, h0⟩ := pop_some h; clear h; subst e0; have h := h0; clear h0
    obtain ⟨x1, d1, e1, h1⟩ := pop_some h; clear h; subst e1; have h := h1; clear h1
    obtain ⟨eN, hN⟩ := popN_some h; clear h; subst eN; have h := hN; clear hN
    obtain ⟨r1, h1, h2⟩ := bind_some h
    exact ⟨_, h2, evermoreref1_May.con k _ h1⟩) env0_ok))
theorem evermoreref1_Lasso.con (k : Nat) {x0 : Int} {x1 : ((List Int) × ((List Int) × Unit))} (r : Int) (h : evermoreref1_Lasso.f k x0 x1 = some r) : Con Try.prog 26 2 evermoreref1_Lasso.ti evermoreref1_Lasso.to [⟨(.int .i64), x0⟩, ⟨(.pair (.slice (.int .i64)) (.pair (.slice (.int .i64)) .unit)), x1⟩] (evermoreref1_Lasso.rs r) :=
  evermoreref1_Lasso.con' (k + 1) _ r (by show evermoreref1_Lasso.c k _ = some r; unfold evermoreref1_Lasso.c; simp only [pop_self, popN]; exact h)
def word_at.f (k : Nat) (l0 : (List (Int) × (List (Int) × Unit))) (n1 : Int) : Option (Int) :=
 if n1 < (↑l0.fst.length : Int) then
  if 0 ≤ n1 then
  if n1 < (↑l0.fst.length : Int) then
   some (Go.Proofs.YtaaibckhpbmbeaaSx.rd (Int.ofNat 0) l0.fst n1)
   else none
  else none
 else
  if (↑l0.snd.fst.length : Int) = 0 then
   none
  else
   if 0 ≤ (Go.IntKind.i64.wrap (n1 - (↑l0.fst.length : Int))).tmod (↑l0.snd.fst.length : Int) then
   if (Go.IntKind.i64.wrap (n1 - (↑l0.fst.length : Int))).tmod (↑l0.snd.fst.length : Int) < (↑l0.snd.fst.length : Int) then
    some (Go.Proofs.YtaaibckhpbmbeaaSx.rd (Int.ofNat 0) l0.snd.fst ((Go.IntKind.i64.wrap (n1 - (↑l0.fst.length : Int))).tmod (↑l0.snd.fst.length : Int)))
    else none
   else none

noncomputable def word_at.body : Code := fnBody Try.f81
def word_at.ti : Tm := ⟨[(0, .p (.pair (.slice (.int .i64)) (.pair (.slice (.int .i64)) .unit))), (1, .p (.int .i64))], []⟩
def word_at.to : Tm := ⟨[(0, .p (.int .i64))], []⟩
def word_at.rs (r : Int) : List Dat := [⟨(.int .i64), r⟩]
def word_at.out (ds : List Dat) : Option (Int) := pop (.int .i64) ds fun x0 ds => popN ds (some (x0))
def word_at.c (k : Nat) (ds : List Dat) : Option (Int) := pop (.pair (.slice (.int .i64)) (.pair (.slice (.int .i64)) .unit)) ds fun x0 ds => pop (.int .i64) ds fun x1 ds => popN ds (word_at.f k x0 x1)
def word_at.g : Nat → List Dat → Option (Int)
 | 0, _ => none
 | k + 1, ds => word_at.c k ds
def word_at.env (k : Nat) : Nat → List SV → List Chunk → KT (Int) → Option (Int) := env0
def word_at.tbl : List (Nat × Tm × (Nat → List Dat → Option (Int))) := []
theorem word_at.e (k : Nat) (x0 : ((List Int) × ((List Int) × Unit))) (x1 : Int) : word_at.f k x0 x1 = run T (word_at.env k) Try.f81.ntmps (cutE 0 word_at.tbl k) (finE 0 word_at.to word_at.out) (fnRes Try.f81) [] 100000 true ([.code word_at.body]) (word_at.ti.fill [⟨(.pair (.slice (.int .i64)) (.pair (.slice (.int .i64)) .unit)), x0⟩, ⟨(.int .i64), x1⟩]) := by kernel_rfl
theorem word_at.h (k : Nat) (ds : List Dat) (r : Int) (h : word_at.g k ds = some r) : ∃ k', k' < k ∧ run T (word_at.env k') Try.f81.ntmps (cutE 0 word_at.tbl k') (finE 0 word_at.to word_at.out) (fnRes Try.f81) [] 100000 true ([.code word_at.body]) (word_at.ti.fill ds) = some r := by
  cases k with
  | zero => cases (show none = some r from h)
  | succ k =>
  replace h : word_at.c k ds = some r := h
  unfold word_at.c at h
  obtain ⟨x0, d0, e0, h0⟩ := pop_some h; clear h; subst e0; have h := h0; clear h0
  obtain ⟨x1, d1, e1, h1⟩ := pop_some h; clear h; subst e1; have h := h1; clear h1
  obtain ⟨eN, hN⟩ := popN_some h; clear h; subst eN; have h := hN; clear hN
  exact ⟨k, Nat.lt_succ_self k, (word_at.e k x0 x1).symm.trans h⟩
theorem word_at.o (ds : List Dat) (r : Int) (h : word_at.out ds = some r) : ds = word_at.rs r := by
  unfold word_at.out at h
  obtain ⟨x0, d0, e0, h0⟩ := pop_some h; clear h; subst e0; have h := h0; clear h0
  obtain ⟨eN, hN⟩ := popN_some h; clear h; subst eN; have h := hN; clear hN
  cases h
  rfl
theorem word_at.fn : FnOk Try.prog 81 Try.f81 word_at.body Try.f81.ntmps 2 (fnRes Try.f81) :=
  fnOk_of (by kernel_rfl) (by kernel_rfl) (by kernel_rfl) (by kernel_rfl)
theorem word_at.con' : ∀ k ds r, word_at.g k ds = some r → Con Try.prog 81 2 word_at.ti word_at.to ds (word_at.rs r) :=
  fun_ok (T := T) T_ok mixed word_at.fn (env := word_at.env) (tbl := word_at.tbl) (gOut := word_at.out) (nin := 0) (cuts := []) (fuel := 100000) rfl (by kernel_rfl) (by kernel_rfl) (by kernel_rfl) (fun x hx => by simp [word_at.tbl] at hx) word_at.o word_at.h (fun k _ => by unfold word_at.env; exact env0_ok)
theorem word_at.con (k : Nat) {x0 : ((List Int) × ((List Int) × Unit))} {x1 : Int} (r : Int) (h : word_at.f k x0 x1 = some r) : Con Try.prog 81 2 word_at.ti word_at.to [⟨(.pair (.slice (.int .i64)) (.pair (.slice (.int .i64)) .unit)), x0⟩, ⟨(.int .i64), x1⟩] (word_at.rs r) :=
  word_at.con' (k + 1) _ r (by show word_at.c k _ = some r; unfold word_at.c; simp only [pop_self, popN]; exact h)
def word_At.f (k : Nat) (l0 : (List (Int) × (List (Int) × Unit))) (n1 : Int) : Option (Int × Int) :=
 (word_Lasso.f k (Int.ofNat 4) (l0.fst, l0.snd.fst, ())).bind fun r1 =>
  if r1 = 0 then
   if n1 < 0 then
    some (0, 2)
   else
    (word_at.f k (l0.fst, l0.snd.fst, ()) n1).bind fun r4 =>
     some (r4, 0)
  else
   some (0, r1)

noncomputable def word_At.body : Code := fnBody Try.f30
def word_At.ti : Tm := ⟨[(0, .p (.pair (.slice (.int .i64)) (.pair (.slice (.int .i64)) .unit))), (1, .p (.int .i64))], []⟩
def word_At.to : Tm := ⟨[(0, .p (.int .i64)), (1, .p (.int .i64))], []⟩
def word_At.rs (r : Int × Int) : List Dat := [⟨(.int .i64), r.1⟩, ⟨(.int .i64), r.2⟩]
def word_At.out (ds : List Dat) : Option (Int × Int) := pop (.int .i64) ds fun x0 ds => pop (.int .i64) ds fun x1 ds => popN ds (some (x0, x1))
def word_At.c (k : Nat) (ds : List Dat) : Option (Int × Int) := pop (.pair (.slice (.int .i64)) (.pair (.slice (.int .i64)) .unit)) ds fun x0 ds => pop (.int .i64) ds fun x1 ds => popN ds (word_At.f k x0 x1)
def word_At.g : Nat → List Dat → Option (Int × Int)
 | 0, _ => none
 | k + 1, ds => word_At.c k ds
def word_At.env (k : Nat) : Nat → List SV → List Chunk → KT (Int × Int) → Option (Int × Int) := (envC 29 2 word_Lasso.ti word_Lasso.to (fun ds K => pop (.int .i64) ds fun x0 ds => pop (.pair (.slice (.int .i64)) (.pair (.slice (.int .i64)) .unit)) ds fun x1 ds => popN ds ((word_Lasso.f k x0 x1).bind fun r => K (word_Lasso.rs r))) (envC 81 2 word_at.ti word_at.to (fun ds K => pop (.pair (.slice (.int .i64)) (.pair (.slice (.int .i64)) .unit)) ds fun x0 ds => pop (.int .i64) ds fun x1 ds => popN ds ((word_at.f k x0 x1).bind fun r => K (word_at.rs r))) env0))
def word_At.tbl : List (Nat × Tm × (Nat → List Dat → Option (Int × Int))) := []
theorem word_At.e (k : Nat) (x0 : ((List Int) × ((List Int) × Unit))) (x1 : Int) : word_At.f k x0 x1 = run T (word_At.env k) Try.f30.ntmps (cutE 0 word_At.tbl k) (finE 0 word_At.to word_At.out) (fnRes Try.f30) [] 100000 true ([.code word_At.body]) (word_At.ti.fill [⟨(.pair (.slice (.int .i64)) (.pair (.slice (.int .i64)) .unit)), x0⟩, ⟨(.int .i64), x1⟩]) := by kernel_rfl
theorem word_At.h (k : Nat) (ds : List Dat) (r : Int × Int) (h : word_At.g k ds = some r) : ∃ k', k' < k ∧ run T (word_At.env k') Try.f30.ntmps (cutE 0 word_At.tbl k') (finE 0 word_At.to word_At.out) (fnRes Try.f30) [] 100000 true ([.code word_At.body]) (word_At.ti.fill ds) = some r := by
  cases k with
  | zero => cases (show none = some r from h)
  | succ k =>
  replace h : word_At.c k ds = some r := h
  unfold word_At.c at h
  obtain ⟨x0, d0, e0, h0⟩ := pop_some h; clear h; subst e0; have h := h0; clear h0
  obtain ⟨x1, d1, e1, h1⟩ := pop_some h; clear h; subst e1; have h := h1; clear h1
  obtain ⟨eN, hN⟩ := popN_some h; clear h; subst eN; have h := hN; clear hN
  exact ⟨k, Nat.lt_succ_self k, (word_At.e k x0 x1).symm.trans h⟩
theorem word_At.o (ds : List Dat) (r : Int × Int) (h : word_At.out ds = some r) : ds = word_At.rs r := by
  unfold word_At.out at h
  obtain ⟨x0, d0, e0, h0⟩ := pop_some h; clear h; subst e0; have h := h0; clear h0
  obtain ⟨x1, d1, e1, h1⟩ := pop_some h; clear h; subst e1; have h := h1; clear h1
  obtain ⟨eN, hN⟩ := popN_some h; clear h; subst eN; have h := hN; clear hN
  cases h
  rfl
theorem word_At.fn : FnOk Try.prog 30 Try.f30 word_At.body Try.f30.ntmps 2 (fnRes Try.f30) :=
  fnOk_of (by kernel_rfl) (by kernel_rfl) (by kernel_rfl) (by kernel_rfl)
theorem word_At.con' : ∀ k ds r, word_At.g k ds = some r → Con Try.prog 30 2 word_At.ti word_At.to ds (word_At.rs r) :=
  fun_ok (T := T) T_ok mixed word_At.fn (env := word_At.env) (tbl := word_At.tbl) (gOut := word_At.out) (nin := 0) (cuts := []) (fuel := 100000) rfl (by kernel_rfl) (by kernel_rfl) (by kernel_rfl) (fun x hx => by simp [word_At.tbl] at hx) word_At.o word_At.h (fun k _ => by unfold word_At.env; exact (envC_ok (fun ds K r h => by
    obtain ⟨x0, d0, e0, h0⟩ := pop_some h; clear h; subst e0; have h := h0; clear h0
    obtain ⟨x1, d1, e1, h1⟩ := pop_some h; clear h; subst e1; have h := h1; clear h1
    obtain ⟨eN, hN⟩ := popN_some h; clear h; subst eN; have h := hN; clear hN
    obtain ⟨r1, h1, h2⟩ := bind_some h
    exact ⟨_, h2, word_Lasso.con k _ h1⟩) (envC_ok (fun ds K r h => by
    obtain ⟨x0, d0, e0, h0⟩ := pop_some h; clear h; subst e0; have h := h0; clear h0
    obtain ⟨x1, d1, e1, h1⟩ := pop_some h; clear h; subst e1; have h := h1; clear h1
    obtain ⟨eN, hN⟩ := popN_some h; clear h; subst eN; have h := hN; clear hN
    obtain ⟨r1, h1, h2⟩ := bind_some h
    exact ⟨_, h2, word_at.con k _ h1⟩) env0_ok)))
theorem word_At.con (k : Nat) {x0 : ((List Int) × ((List Int) × Unit))} {x1 : Int} (r : Int × Int) (h : word_At.f k x0 x1 = some r) : Con Try.prog 30 2 word_At.ti word_At.to [⟨(.pair (.slice (.int .i64)) (.pair (.slice (.int .i64)) .unit)), x0⟩, ⟨(.int .i64), x1⟩] (word_At.rs r) :=
  word_At.con' (k + 1) _ r (by show word_At.c k _ = some r; unfold word_At.c; simp only [pop_self, popN]; exact h)
def evermoreref1_At.f (k : Nat) (l0 : (List (Int) × (List (Int) × Unit))) (n1 : Int) : Option (Int) :=
 if n1 < (↑l0.fst.length : Int) then
  if 0 ≤ n1 then
  if n1 < (↑l0.fst.length : Int) then
   some (Go.Proofs.YtaaibckhpbmbeaaSx.rd (Int.ofNat 0) l0.fst n1)
   else none
  else none
 else
  if (↑l0.snd.fst.length : Int) = 0 then
   none
  else
   if 0 ≤ (Go.IntKind.i64.wrap (n1 - (↑l0.fst.length : Int))).tmod (↑l0.snd.fst.length : Int) then
   if (Go.IntKind.i64.wrap (n1 - (↑l0.fst.length : Int))).tmod (↑l0.snd.fst.length : Int) < (↑l0.snd.fst.length : Int) then
    some (Go.Proofs.YtaaibckhpbmbeaaSx.rd (Int.ofNat 0) l0.snd.fst ((Go.IntKind.i64.wrap (n1 - (↑l0.fst.length : Int))).tmod (↑l0.snd.fst.length : Int)))
    else none
   else none

noncomputable def evermoreref1_At.body : Code := fnBody Try.f31
def evermoreref1_At.ti : Tm := ⟨[(0, .p (.pair (.slice (.int .i64)) (.pair (.slice (.int .i64)) .unit))), (1, .p (.int .i64))], []⟩
def evermoreref1_At.to : Tm := ⟨[(0, .p (.int .i64))], []⟩
def evermoreref1_At.rs (r : Int) : List Dat := [⟨(.int .i64), r⟩]
def evermoreref1_At.out (ds : List Dat) : Option (Int) := pop (.int .i64) ds fun x0 ds => popN ds (some (x0))
def evermoreref1_At.c (k : Nat) (ds : List Dat) : Option (Int) := pop (.pair (.slice (.int .i64)) (.pair (.slice (.int .i64)) .unit)) ds fun x0 ds => pop (.int .i64) ds fun x1 ds => popN ds (evermoreref1_At.f k x0 x1)
def evermoreref1_At.g : Nat → List Dat → Option (Int)
 | 0, _ => none
 | k + 1, ds => evermoreref1_At.c k ds
def evermoreref1_At.env (k : Nat) : Nat → List SV → List Chunk → KT (Int) → Option (Int) := env0
def evermoreref1_At.tbl : List (Nat × Tm × (Nat → List Dat → Option (Int))) := []
theorem evermoreref1_At.e (k : Nat) (x0 : ((List Int) × ((List Int) × Unit))) (x1 : Int) : evermoreref1_At.f k x0 x1 = run T (evermoreref1_At.env k) Try.f31.ntmps (cutE 0 evermoreref1_At.tbl k) (finE 0 evermoreref1_At.to evermoreref1_At.out) (fnRes Try.f31) [] 100000 true ([.code evermoreref1_At.body]) (evermoreref1_At.ti.fill [⟨(.pair (.slice (.int .i64)) (.pair (.slice (.int .i64)) .unit)), x0⟩, ⟨(.int .i64), x1⟩]) := by kernel_rfl
theorem evermoreref1_At.h (k : Nat) (ds : List Dat) (r : Int) (h : evermoreref1_At.g k ds = some r) : ∃ k', k' < k ∧ run T (evermoreref1_At.env k') Try.f31.ntmps (cutE 0 evermoreref1_At.tbl k') (finE 0 evermoreref1_At.to evermoreref1_At.out) (fnRes Try.f31) [] 100000 true ([.code evermoreref1_At.body]) (evermoreref1_At.ti.fill ds) = some r := by
  cases k with
  | zero => cases (show none = some r from h)
  | succ k =>
  replace h : evermoreref1_At.c k ds = some r := h
  unfold evermoreref1_At.c at h
  obtain ⟨x0, d0, e0, h0⟩ := pop_some h; clear h; subst e0; have h := h0; clear h0
  obtain ⟨x1, d1, e1, h1⟩ := pop_some h; clear h; subst e1; have h := h1; clear h1
  obtain ⟨eN, hN⟩ := popN_some h; clear h; subst eN; have h := hN; clear hN
  exact ⟨k, Nat.lt_succ_self k, (evermoreref1_At.e k x0 x1).symm.trans h⟩
theorem evermoreref1_At.o (ds : List Dat) (r : Int) (h : evermoreref1_At.out ds = some r) : ds = evermoreref1_At.rs r := by
  unfold evermoreref1_At.out at h
  obtain ⟨x0, d0, e0, h0⟩ := pop_some h; clear h; subst e0; have h := h0; clear h0
  obtain ⟨eN, hN⟩ := popN_some h; clear h; subst eN; have h := hN; clear hN
  cases h
  rfl
theorem evermoreref1_At.fn : FnOk Try.prog 31 Try.f31 evermoreref1_At.body Try.f31.ntmps 2 (fnRes Try.f31) :=
  fnOk_of (by kernel_rfl) (by kernel_rfl) (by kernel_rfl) (by kernel_rfl)
theorem evermoreref1_At.con' : ∀ k ds r, evermoreref1_At.g k ds = some r → Con Try.prog 31 2 evermoreref1_At.ti evermoreref1_At.to ds (evermoreref1_At.rs r) :=
  fun_ok (T := T) T_ok mixed evermoreref1_At.fn (env := evermoreref1_At.env) (tbl := evermoreref1_At.tbl) (gOut := evermoreref1_At.out) (nin := 0) (cuts := []) (fuel := 100000) rfl (by kernel_rfl) (by kernel_rfl) (by kernel_rfl) (fun x hx => by simp [evermoreref1_At.tbl] at hx) evermoreref1_At.o evermoreref1_At.h (fun k _ => by unfold evermoreref1_At.env; exact env0_ok)
theorem evermoreref1_At.con (k : Nat) {x0 : ((List Int) × ((List Int) × Unit))} {x1 : Int} (r : Int) (h : evermoreref1_At.f k x0 x1 = some r) : Con Try.prog 31 2 evermoreref1_At.ti evermoreref1_At.to [⟨(.pair (.slice (.int .i64)) (.pair (.slice (.int .i64)) .unit)), x0⟩, ⟨(.int .i64), x1⟩] (evermoreref1_At.rs r) :=
  evermoreref1_At.con' (k + 1) _ r (by show evermoreref1_At.c k _ = some r; unfold evermoreref1_At.c; simp only [pop_self, popN]; exact h)
def slices_Clone___int_int_.f (k : Nat) (x0 : List (Int)) : Option (List (Int)) := if Short x0.length then some x0 else none
def slices_Clone___int_int_.ti : Tm := cloneIn (.int .i64)
def slices_Clone___int_int_.to : Tm := cloneOut (.int .i64)
def slices_Clone___int_int_.rs (r : List Int) : List Dat := [⟨.slice (.int .i64), r⟩]
theorem slices_Clone___int_int_.fn : FnOk Try.prog 68 Try.f68 (fnBody Try.f68) Try.f68.ntmps 1 (fnRes Try.f68) :=
  fnOk_of (by kernel_rfl) (by kernel_rfl) (by kernel_rfl) (by kernel_rfl)
theorem slices_Clone___int_int_.con (k : Nat) {x0 : List Int} (r : List Int) (h : slices_Clone___int_int_.f k x0 = some r) : Con Try.prog 68 1 slices_Clone___int_int_.ti slices_Clone___int_int_.to [⟨.slice (.int .i64), x0⟩] (slices_Clone___int_int_.rs r) := by
  unfold slices_Clone___int_int_.f at h
  split at h
  · rename_i hs
    cases h
    exact clone_con (u := (.int .i64)) (t := 23) (t' := 23) (k := restOf (stackOf 2 (fnBody Try.f68))) (ops := opsAt 1 (fnBody Try.f68)) (o1 := opAt 0 (opsAt 1 (fnBody Try.f68))) (o2 := opAt 1 (opsAt 1 (fnBody Try.f68))) T_ok mixed slices_Clone___int_int_.fn (by kernel_rfl) ⟨by kernel_rfl, by kernel_rfl, by kernel_rfl, by kernel_rfl, by kernel_rfl, by kernel_rfl, by kernel_rfl, ⟨3, by kernel_rfl⟩⟩ (Nat.le_of_ble_eq_true (by kernel_rfl)) (by kernel_rfl) (by kernel_rfl) (fun L => by kernel_rfl) (by kernel_rfl) (fun L => by kernel_rfl) x0 hs
  · cases h
mutual
def slices_Equal___int_int_.l4 : Nat → List (Int) → List (Int) → Int → Int → Option (Bool)
 | 0, _, _, _, _ => none
 | k + 1, s10, s21, x12, x13 =>
  if x13 < x12 then
   if 0 ≤ x13 then
   if x13 < (↑s10.length : Int) then
    if 0 ≤ x13 then
     if x13 < (↑s21.length : Int) then
      if Go.Proofs.YtaaibckhpbmbeaaSx.rd (Int.ofNat 0) s10 x13 = Go.Proofs.YtaaibckhpbmbeaaSx.rd (Int.ofNat 0) s21 x13 then
        slices_Equal___int_int_.l4 k s10 s21 x12 (Go.IntKind.i64.wrap (x13 + 1))
       else
        some (false)
      else none
     else none
    else none
   else none
  else
   some (true)
end
def slices_Equal___int_int_.f (k : Nat) (s10 : List (Int)) (s21 : List (Int)) : Option (Bool) :=
 if (↑s10.length : Int) = (↑s21.length : Int) then
  slices_Equal___int_int_.l4 k s10 s21 ((↑s10.length : Int)) 0
 else
  some (false)

noncomputable def slices_Equal___int_int_.body : Code := fnBody Try.f83
def slices_Equal___int_int_.ti : Tm := ⟨[(0, .p (.slice (.int .i64))), (1, .p (.slice (.int .i64)))], []⟩
def slices_Equal___int_int_.to : Tm := ⟨[(0, .p .bool)], []⟩
def slices_Equal___int_int_.rs (r : Bool) : List Dat := [⟨.bool, r⟩]
def slices_Equal___int_int_.out (ds : List Dat) : Option (Bool) := pop .bool ds fun x0 ds => popN ds (some (x0))
def slices_Equal___int_int_.c (k : Nat) (ds : List Dat) : Option (Bool) := pop (.slice (.int .i64)) ds fun x0 ds => pop (.slice (.int .i64)) ds fun x1 ds => popN ds (slices_Equal___int_int_.f k x0 x1)
def slices_Equal___int_int_.g : Nat → List Dat → Option (Bool)
 | 0, _ => none
 | k + 1, ds => slices_Equal___int_int_.c k ds
def slices_Equal___int_int_.env (k : Nat) : Nat → List SV → List Chunk → KT (Bool) → Option (Bool) := env0
def slices_Equal___int_int_.t9 : Tm := ⟨[(0, .p (.slice (.int .i64))), (1, .p (.slice (.int .i64))), (12, .p (.int .i64)), (13, .p (.int .i64))], []⟩
def slices_Equal___int_int_.c9 (k : Nat) (ds : List Dat) : Option (Bool) := pop (.slice (.int .i64)) ds fun x0 ds => pop (.slice (.int .i64)) ds fun x1 ds => pop (.int .i64) ds fun x2 ds => pop (.int .i64) ds fun x3 ds => popN ds (slices_Equal___int_int_.l4 k x0 x1 x2 x3)
def slices_Equal___int_int_.tbl : List (Nat × Tm × (Nat → List Dat → Option (Bool))) := [(9, slices_Equal___int_int_.t9, slices_Equal___int_int_.c9)]
theorem slices_Equal___int_int_.e9 (k : Nat) (x0 : (List Int)) (x1 : (List Int)) (x2 : Int) (x3 : Int) : slices_Equal___int_int_.l4 (k + 1) x0 x1 x2 x3 = run T (slices_Equal___int_int_.env k) Try.f83.ntmps (cutE 0 slices_Equal___int_int_.tbl k) (finE 0 slices_Equal___int_int_.to slices_Equal___int_int_.out) (fnRes Try.f83) [] 100000 true (start (stackOf 9 slices_Equal___int_int_.body)) (slices_Equal___int_int_.t9.fill [⟨(.slice (.int .i64)), x0⟩, ⟨(.slice (.int .i64)), x1⟩, ⟨(.int .i64), x2⟩, ⟨(.int .i64), x3⟩]) := by kernel_rfl
theorem slices_Equal___int_int_.s9 : stackAt 9 slices_Equal___int_int_.body [] = some (stackOf 9 slices_Equal___int_int_.body) := by kernel_rfl
theorem slices_Equal___int_int_.h9 (k : Nat) (ds : List Dat) (r : Bool) (h : slices_Equal___int_int_.c9 k ds = some r) : ∃ k', k' < k ∧ ∃ s, stackAt 9 slices_Equal___int_int_.body [] = some s ∧ run T (slices_Equal___int_int_.env k') Try.f83.ntmps (cutE 0 slices_Equal___int_int_.tbl k') (finE 0 slices_Equal___int_int_.to slices_Equal___int_int_.out) (fnRes Try.f83) [] 100000 true (start s) (slices_Equal___int_int_.t9.fill ds) = some r := by
  unfold slices_Equal___int_int_.c9 at h
  obtain ⟨x0, d0, e0, h0⟩ := pop_some h; clear h; subst e0; have h := h0; clear h0
  obtain ⟨x1, d1, e1, h1⟩ := pop_some h; clear h; subst e1; have h := h1; clear h1
  obtain ⟨x2, d2, e2, h2⟩ := pop_some h; clear h; subst e2; have h := h2; clear h2
  obtain ⟨x3, d3, e3, h3⟩ := pop_some h; clear h; subst e3; have h := h3; clear h3
  obtain ⟨eN, hN⟩ := popN_some h; clear h; subst eN; have h := hN; clear hN
  cases k with
  | zero => cases (show none = some r from h)
  | succ k => exact ⟨k, Nat.lt_succ_self k, _, slices_Equal___int_int_.s9, (slices_Equal___int_int_.e9 k x0 x1 x2 x3).symm.trans h⟩
theorem slices_Equal___int_int_.e (k : Nat) (x0 : (List Int)) (x1 : (List Int)) : slices_Equal___int_int_.f k x0 x1 = run T (slices_Equal___int_int_.env k) Try.f83.ntmps (cutE 0 slices_Equal___int_int_.tbl k) (finE 0 slices_Equal___int_int_.to slices_Equal___int_int_.out) (fnRes Try.f83) [] 100000 true ([.code slices_Equal___int_int_.body]) (slices_Equal___int_int_.ti.fill [⟨(.slice (.int .i64)), x0⟩, ⟨(.slice (.int .i64)), x1⟩]) := by kernel_rfl
theorem slices_Equal___int_int_.h (k : Nat) (ds : List Dat) (r : Bool) (h : slices_Equal___int_int_.g k ds = some r) : ∃ k', k' < k ∧ run T (slices_Equal___int_int_.env k') Try.f83.ntmps (cutE 0 slices_Equal___int_int_.tbl k') (finE 0 slices_Equal___int_int_.to slices_Equal___int_int_.out) (fnRes Try.f83) [] 100000 true ([.code slices_Equal___int_int_.body]) (slices_Equal___int_int_.ti.fill ds) = some r := by
  cases k with
  | zero => cases (show none = some r from h)
  | succ k =>
  replace h : slices_Equal___int_int_.c k ds = some r := h
  unfold slices_Equal___int_int_.c at h
  obtain ⟨x0, d0, e0, h0⟩ := pop_some h; clear h; subst e0; have h := h0; clear h0
  obtain ⟨x1, d1, e1, h1⟩ := pop_some h; clear h; subst e1; have h := h1; clear h1
  obtain ⟨eN, hN⟩ := popN_some h; clear h; subst eN; have h := hN; clear hN
  exact ⟨k, Nat.lt_succ_self k, (slices_Equal___int_int_.e k x0 x1).symm.trans h⟩
theorem slices_Equal___int_int_.o (ds : List Dat) (r : Bool) (h : slices_Equal___int_int_.out ds = some r) : ds = slices_Equal___int_int_.rs r := by
  unfold slices_Equal___int_int_.out at h
  obtain ⟨x0, d0, e0, h0⟩ := pop_some h; clear h; subst e0; have h := h0; clear h0
  obtain ⟨eN, hN⟩ := popN_some h; clear h; subst eN; have h := hN; clear hN
  cases h
  rfl
theorem slices_Equal___int_int_.fn : FnOk Try.prog 83 Try.f83 slices_Equal___int_int_.body Try.f83.ntmps 2 (fnRes Try.f83) :=
  fnOk_of (by kernel_rfl) (by kernel_rfl) (by kernel_rfl) (by kernel_rfl)
theorem slices_Equal___int_int_.con' : ∀ k ds r, slices_Equal___int_int_.g k ds = some r → Con Try.prog 83 2 slices_Equal___int_int_.ti slices_Equal___int_int_.to ds (slices_Equal___int_int_.rs r) :=
  fun_ok (T := T) T_ok mixed slices_Equal___int_int_.fn (env := slices_Equal___int_int_.env) (tbl := slices_Equal___int_int_.tbl) (gOut := slices_Equal___int_int_.out) (nin := 0) (cuts := []) (fuel := 100000) rfl (by kernel_rfl) (by kernel_rfl) (by kernel_rfl) (fun x hx => by
    simp only [slices_Equal___int_int_.tbl, List.mem_cons, List.not_mem_nil, or_false] at hx
    subst hx
    · exact slices_Equal___int_int_.h9
) slices_Equal___int_int_.o slices_Equal___int_int_.h (fun k _ => by unfold slices_Equal___int_int_.env; exact env0_ok)
theorem slices_Equal___int_int_.con (k : Nat) {x0 : (List Int)} {x1 : (List Int)} (r : Bool) (h : slices_Equal___int_int_.f k x0 x1 = some r) : Con Try.prog 83 2 slices_Equal___int_int_.ti slices_Equal___int_int_.to [⟨(.slice (.int .i64)), x0⟩, ⟨(.slice (.int .i64)), x1⟩] (slices_Equal___int_int_.rs r) :=
  slices_Equal___int_int_.con' (k + 1) _ r (by show slices_Equal___int_int_.c k _ = some r; unfold slices_Equal___int_int_.c; simp only [pop_self, popN]; exact h)
mutual
def word_period.l2 : Nat → List (Int) → Int → Int → Option (List Int)
 | 0, _, _, _ => none
 | k + 1, loop0, x5, x6 =>
  if x6 < x5 then
   if 0 < x6 then
    if x6 = 0 then
     none
    else
     if (↑loop0.length : Int).tmod x6 = 0 then
      if 0 ≤ x6 then
      if x6 ≤ (↑loop0.length : Int) then
       if (↑loop0.length : Int) ≤ (↑loop0.length : Int) then
        if 0 ≤ 0 then
         if 0 ≤ Go.IntKind.i64.wrap ((↑loop0.length : Int) - x6) then
          if Go.IntKind.i64.wrap ((↑loop0.length : Int) - x6) ≤ (↑loop0.length : Int) then
           (slices_Equal___int_int_.f k (List.take ((↑loop0.length : Int).toNat - x6.toNat) (List.drop x6.toNat loop0)) (List.take ((Go.IntKind.i64.wrap ((↑loop0.length : Int) - x6)).toNat - Int.toNat 0) (List.drop (Int.toNat 0) loop0))).bind fun r12 =>
             if r12 = true then
              if 0 ≤ 0 then
              if 0 ≤ x6 then
               if x6 ≤ (↑loop0.length : Int) then
                some (List.take (x6.toNat - Int.toNat 0) (List.drop (Int.toNat 0) loop0))
                else none
               else none
              else none
             else
              word_period.l2 k loop0 x5 (Go.IntKind.i64.wrap (x6 + 1))
           else none
          else none
         else none
        else none
       else none
      else none
     else
      word_period.l2 k loop0 x5 (Go.IntKind.i64.wrap (x6 + 1))
   else
    word_period.l2 k loop0 x5 (Go.IntKind.i64.wrap (x6 + 1))
  else
   some (loop0)
end
def word_period.f (k : Nat) (loop0 : List (Int)) : Option (List Int) :=
 word_period.l2 k loop0 ((↑loop0.length : Int)) 0

noncomputable def word_period.body : Code := fnBody Try.f133
def word_period.ti : Tm := ⟨[(0, .p (.slice (.int .i64)))], []⟩
def word_period.to : Tm := ⟨[(0, .p (.slice (.int .i64)))], []⟩
def word_period.rs (r : (List Int)) : List Dat := [⟨(.slice (.int .i64)), r⟩]
def word_period.out (ds : List Dat) : Option ((List Int)) := pop (.slice (.int .i64)) ds fun x0 ds => popN ds (some (x0))
def word_period.c (k : Nat) (ds : List Dat) : Option ((List Int)) := pop (.slice (.int .i64)) ds fun x0 ds => popN ds (word_period.f k x0)
def word_period.g : Nat → List Dat → Option ((List Int))
 | 0, _ => none
 | k + 1, ds => word_period.c k ds
def word_period.env (k : Nat) : Nat → List SV → List Chunk → KT ((List Int)) → Option ((List Int)) := (envC 83 2 slices_Equal___int_int_.ti slices_Equal___int_int_.to (fun ds K => pop (.slice (.int .i64)) ds fun x0 ds => pop (.slice (.int .i64)) ds fun x1 ds => popN ds ((slices_Equal___int_int_.f k x0 x1).bind fun r => K (slices_Equal___int_int_.rs r))) env0)
def word_period.t5 : Tm := ⟨[(0, .p (.slice (.int .i64))), (5, .p (.int .i64)), (6, .p (.int .i64))], []⟩
def word_period.c5 (k : Nat) (ds : List Dat) : Option ((List Int)) := pop (.slice (.int .i64)) ds fun x0 ds => pop (.int .i64) ds fun x1 ds => pop (.int .i64) ds fun x2 ds => popN ds (word_period.l2 k x0 x1 x2)
def word_period.tbl : List (Nat × Tm × (Nat → List Dat → Option ((List Int)))) := [(5, word_period.t5, word_period.c5)]
theorem word_period.e5 (k : Nat) (x0 : (List Int)) (x1 : Int) (x2 : Int) : word_period.l2 (k + 1) x0 x1 x2 = run T (word_period.env k) Try.f133.ntmps (cutE 0 word_period.tbl k) (finE 0 word_period.to word_period.out) (fnRes Try.f133) [] 100000 true (start (stackOf 5 word_period.body)) (word_period.t5.fill [⟨(.slice (.int .i64)), x0⟩, ⟨(.int .i64), x1⟩, ⟨(.int .i64), x2⟩]) := by kernel_rfl
theorem word_period.s5 : stackAt 5 word_period.body [] = some (stackOf 5 word_period.body) := by kernel_rfl
theorem word_period.h5 (k : Nat) (ds : List Dat) (r : (List Int)) (h : word_period.c5 k ds = some r) : ∃ k', k' < k ∧ ∃ s, stackAt 5 word_period.body [] = some s ∧ run T (word_period.env k') Try.f133.ntmps (cutE 0 word_period.tbl k') (finE 0 word_period.to word_period.out) (fnRes Try.f133) [] 100000 true (start s) (word_period.t5.fill ds) = some r := by
  unfold word_period.c5 at h
  obtain ⟨x0, d0, e0, h0⟩ := pop_some h; clear h; subst e0; have h := h0; clear h0
  obtain ⟨x1, d1, e1, h1⟩ := pop_some h; clear h; subst e1; have h := h1; clear h1
  obtain ⟨x2, d2, e2, h2⟩ := pop_some h; clear h; subst e2; have h := h2; clear h2
  obtain ⟨eN, hN⟩ := popN_some h; clear h; subst eN; have h := hN; clear hN
  cases k with
  | zero => cases (show none = some r from h)
  | succ k => exact ⟨k, Nat.lt_succ_self k, _, word_period.s5, (word_period.e5 k x0 x1 x2).symm.trans h⟩
theorem word_period.e (k : Nat) (x0 : (List Int)) : word_period.f k x0 = run T (word_period.env k) Try.f133.ntmps (cutE 0 word_period.tbl k) (finE 0 word_period.to word_period.out) (fnRes Try.f133) [] 100000 true ([.code word_period.body]) (word_period.ti.fill [⟨(.slice (.int .i64)), x0⟩]) := by kernel_rfl
theorem word_period.h (k : Nat) (ds : List Dat) (r : (List Int)) (h : word_period.g k ds = some r) : ∃ k', k' < k ∧ run T (word_period.env k') Try.f133.ntmps (cutE 0 word_period.tbl k') (finE 0 word_period.to word_period.out) (fnRes Try.f133) [] 100000 true ([.code word_period.body]) (word_period.ti.fill ds) = some r := by
  cases k with
  | zero => cases (show none = some r from h)
  | succ k =>
  replace h : word_period.c k ds = some r := h
  unfold word_period.c at h
  obtain ⟨x0, d0, e0, h0⟩ := pop_some h; clear h; subst e0; have h := h0; clear h0
  obtain ⟨eN, hN⟩ := popN_some h; clear h; subst eN; have h := hN; clear hN
  exact ⟨k, Nat.lt_succ_self k, (word_period.e k x0).symm.trans h⟩
theorem word_period.o (ds : List Dat) (r : (List Int)) (h : word_period.out ds = some r) : ds = word_period.rs r := by
  unfold word_period.out at h
  obtain ⟨x0, d0, e0, h0⟩ := pop_some h; clear h; subst e0; have h := h0; clear h0
  obtain ⟨eN, hN⟩ := popN_some h; clear h; subst eN; have h := hN; clear hN
  cases h
  rfl
theorem word_period.fn : FnOk Try.prog 133 Try.f133 word_period.body Try.f133.ntmps 1 (fnRes Try.f133) :=
  fnOk_of (by kernel_rfl) (by kernel_rfl) (by kernel_rfl) (by kernel_rfl)
theorem word_period.con' : ∀ k ds r, word_period.g k ds = some r → Con Try.prog 133 1 word_period.ti word_period.to ds (word_period.rs r) :=
  fun_ok (T := T) T_ok mixed word_period.fn (env := word_period.env) (tbl := word_period.tbl) (gOut := word_period.out) (nin := 0) (cuts := []) (fuel := 100000) rfl (by kernel_rfl) (by kernel_rfl) (by kernel_rfl) (fun x hx => by
    simp only [word_period.tbl, List.mem_cons, List.not_mem_nil, or_false] at hx
    subst hx
    · exact word_period.h5
) word_period.o word_period.h (fun k _ => by unfold word_period.env; exact (envC_ok (fun ds K r h => by
    obtain ⟨x0, d0, e0, h0⟩ := pop_some h; clear h; subst e0; have h := h0; clear h0
    obtain ⟨x1, d1, e1, h1⟩ := pop_some h; clear h; subst e1; have h := h1; clear h1
    obtain ⟨eN, hN⟩ := popN_some h; clear h; subst eN; have h := hN; clear hN
    obtain ⟨r1, h1, h2⟩ := bind_some h
    exact ⟨_, h2, slices_Equal___int_int_.con k _ h1⟩) env0_ok))
theorem word_period.con (k : Nat) {x0 : (List Int)} (r : (List Int)) (h : word_period.f k x0 = some r) : Con Try.prog 133 1 word_period.ti word_period.to [⟨(.slice (.int .i64)), x0⟩] (word_period.rs r) :=
  word_period.con' (k + 1) _ r (by show word_period.c k _ = some r; unfold word_period.c; simp only [pop_self, popN]; exact h)
mutual
def word_normal.l2 : Nat → List (Int) → List (Int) → List (Int) → List (Int) → List (Int) → List (Int) → Option (List Int × List Int)
 | 0, _, _, _, _, _, _ => none
 | k + 1, l1_0, l1_1, head3, loop4, c4, c5 =>
  if 0 < (↑head3.length : Int) then
   if 0 ≤ Go.IntKind.i64.wrap ((↑head3.length : Int) - 1) then
   if Go.IntKind.i64.wrap ((↑head3.length : Int) - 1) < (↑head3.length : Int) then
    if 0 ≤ Go.IntKind.i64.wrap ((↑loop4.length : Int) - 1) then
     if Go.IntKind.i64.wrap ((↑loop4.length : Int) - 1) < (↑loop4.length : Int) then
      if head3.getD (Go.IntKind.i64.wrap ((↑head3.length : Int) - 1)).toNat (Int.ofNat 0) = loop4.getD (Go.IntKind.i64.wrap ((↑loop4.length : Int) - 1)).toNat (Int.ofNat 0) then
        if 0 ≤ 0 then
        if 0 ≤ Go.IntKind.i64.wrap ((↑head3.length : Int) - 1) then
         if Go.IntKind.i64.wrap ((↑head3.length : Int) - 1) ≤ (↑head3.length : Int) then
          if 0 ≤ 1 then
           if 1 ≤ (↑loop4.length : Int) then
            if (↑loop4.length : Int) ≤ (↑loop4.length : Int) then
             (slices_Clone___int_int_.f k loop4).bind fun r14 =>
               (word_at.f k (l1_0, l1_1, ()) (↑((Go.IntKind.i64.wrap ((↑head3.length : Int) - 1)).toNat - Int.toNat 0) : Int)).bind fun r15 =>
                if 0 ≤ 0 then
                if 0 < (↑(Go.Proofs.YtaaibckhpbmbeaaSx.cpy loop4 r14 (Int.toNat 1) ((↑loop4.length : Int).toNat - Int.toNat 1)).length : Int) then
                 word_normal.l2 k l1_0 l1_1 (List.take ((Go.IntKind.i64.wrap ((↑head3.length : Int) - 1)).toNat - Int.toNat 0) (List.drop (Int.toNat 0) head3)) ((Go.Proofs.YtaaibckhpbmbeaaSx.cpy loop4 r14 (Int.toNat 1) ((↑loop4.length : Int).toNat - Int.toNat 1)).set (Int.toNat 0) r15) c4 c5
                 else none
                else none
             else none
            else none
           else none
          else none
         else none
        else none
       else
        some (head3, loop4)
      else none
     else none
    else none
   else none
  else
   some (head3, loop4)
end
def word_normal.f (k : Nat) (l0 : (List (Int) × (List (Int) × Unit))) : Option (List Int × List Int) :=
 (slices_Clone___int_int_.f k l0.fst).bind fun r1 =>
  (word_period.f k l0.snd.fst).bind fun r2 =>
   (slices_Clone___int_int_.f k r2).bind fun r3 =>
    word_normal.l2 k l0.fst l0.snd.fst r1 r3 [] []

noncomputable def word_normal.body : Code := fnBody Try.f82
def word_normal.ti : Tm := ⟨[(0, .p (.pair (.slice (.int .i64)) (.pair (.slice (.int .i64)) .unit)))], []⟩
def word_normal.to : Tm := ⟨[(0, .agg [.own 0, .own 1])], [.own (.int .i64), .own (.int .i64)]⟩
def word_normal.rs (r : (List Int) × (List Int)) : List Dat := [⟨(.slice (.int .i64)), r.1⟩, ⟨(.slice (.int .i64)), r.2⟩]
def word_normal.out (ds : List Dat) : Option ((List Int) × (List Int)) := pop (.slice (.int .i64)) ds fun x0 ds => pop (.slice (.int .i64)) ds fun x1 ds => popN ds (some (x0, x1))
def word_normal.c (k : Nat) (ds : List Dat) : Option ((List Int) × (List Int)) := pop (.pair (.slice (.int .i64)) (.pair (.slice (.int .i64)) .unit)) ds fun x0 ds => popN ds (word_normal.f k x0)
def word_normal.g : Nat → List Dat → Option ((List Int) × (List Int))
 | 0, _ => none
 | k + 1, ds => word_normal.c k ds
def word_normal.env (k : Nat) : Nat → List SV → List Chunk → KT ((List Int) × (List Int)) → Option ((List Int) × (List Int)) := (envC 68 1 slices_Clone___int_int_.ti slices_Clone___int_int_.to (fun ds K => pop (.slice (.int .i64)) ds fun x0 ds => popN ds ((slices_Clone___int_int_.f k x0).bind fun r => K (slices_Clone___int_int_.rs r))) (envC 81 2 word_at.ti word_at.to (fun ds K => pop (.pair (.slice (.int .i64)) (.pair (.slice (.int .i64)) .unit)) ds fun x0 ds => pop (.int .i64) ds fun x1 ds => popN ds ((word_at.f k x0 x1).bind fun r => K (word_at.rs r))) (envC 133 1 word_period.ti word_period.to (fun ds K => pop (.slice (.int .i64)) ds fun x0 ds => popN ds ((word_period.f k x0).bind fun r => K (word_period.rs r))) env0)))
def word_normal.t5 : Tm := ⟨[(1, .ptr 0 0), (2, .ptr 1 0), (3, .own 2), (4, .own 3)], [.box [.p (.slice (.int .i64)), .p (.slice (.int .i64))] 43, .box [.own 4, .own 5] 43, .own (.int .i64), .own (.int .i64), .own (.int .i64), .own (.int .i64)]⟩
def word_normal.c5 (k : Nat) (ds : List Dat) : Option ((List Int) × (List Int)) := pop (.slice (.int .i64)) ds fun x0 ds => pop (.slice (.int .i64)) ds fun x1 ds => pop (.slice (.int .i64)) ds fun x2 ds => pop (.slice (.int .i64)) ds fun x3 ds => pop (.slice (.int .i64)) ds fun x4 ds => pop (.slice (.int .i64)) ds fun x5 ds => popN ds (word_normal.l2 k x0 x1 x2 x3 x4 x5)
def word_normal.tbl : List (Nat × Tm × (Nat → List Dat → Option ((List Int) × (List Int)))) := [(5, word_normal.t5, word_normal.c5)]
theorem word_normal.e5 (k : Nat) (x0 : (List Int)) (x1 : (List Int)) (x2 : (List Int)) (x3 : (List Int)) (x4 : (List Int)) (x5 : (List Int)) : word_normal.l2 (k + 1) x0 x1 x2 x3 x4 x5 = run T (word_normal.env k) Try.f82.ntmps (cutE 0 word_normal.tbl k) (finE 0 word_normal.to word_normal.out) (fnRes Try.f82) [] 100000 true (start (stackOf 5 word_normal.body)) (word_normal.t5.fill [⟨(.slice (.int .i64)), x0⟩, ⟨(.slice (.int .i64)), x1⟩, ⟨(.slice (.int .i64)), x2⟩, ⟨(.slice (.int .i64)), x3⟩, ⟨(.slice (.int .i64)), x4⟩, ⟨(.slice (.int .i64)), x5⟩]) := by kernel_rfl
theorem word_normal.s5 : stackAt 5 word_normal.body [] = some (stackOf 5 word_normal.body) := by kernel_rfl
theorem word_normal.h5 (k : Nat) (ds : List Dat) (r : (List Int) × (List Int)) (h : word_normal.c5 k ds = some r) : ∃ k', k' < k ∧ ∃ s, stackAt 5 word_normal.body [] = some s ∧ run T (word_normal.env k') Try.f82.ntmps (cutE 0 word_normal.tbl k') (finE 0 word_normal.to word_normal.out) (fnRes Try.f82) [] 100000 true (start s) (word_normal.t5.fill ds) = some r := by
  unfold word_normal.c5 at h
  obtain ⟨x0, d0, e0, h0⟩ := pop_some h; clear h; subst e0; have h := h0; clear h0
  obtain ⟨x1, d1, e1, h1⟩ := pop_some h; clear h; subst e1; have h := h1; clear h1
  obtain ⟨x2, d2, e2, h2⟩ := pop_some h; clear h; subst e2; have h := h2; clear h2
  obtain ⟨x3, d3, e3, h3⟩ := pop_some h; clear h; subst e3; have h := h3; clear h3
  obtain ⟨x4, d4, e4, h4⟩ := pop_some h; clear h; subst e4; have h := h4; clear h4
  obtain ⟨x5, d5, e5, h5⟩ := pop_some h; clear h; subst e5; have h := h5; clear h5
  obtain ⟨eN, hN⟩ := popN_some h; clear h; subst eN; have h := hN; clear hN
  cases k with
  | zero => cases (show none = some r from h)
  | succ k => exact ⟨k, Nat.lt_succ_self k, _, word_normal.s5, (word_normal.e5 k x0 x1 x2 x3 x4 x5).symm.trans h⟩
theorem word_normal.e (k : Nat) (x0 : ((List Int) × ((List Int) × Unit))) : word_normal.f k x0 = run T (word_normal.env k) Try.f82.ntmps (cutE 0 word_normal.tbl k) (finE 0 word_normal.to word_normal.out) (fnRes Try.f82) [] 100000 true ([.code word_normal.body]) (word_normal.ti.fill [⟨(.pair (.slice (.int .i64)) (.pair (.slice (.int .i64)) .unit)), x0⟩]) := by kernel_rfl
theorem word_normal.h (k : Nat) (ds : List Dat) (r : (List Int) × (List Int)) (h : word_normal.g k ds = some r) : ∃ k', k' < k ∧ run T (word_normal.env k') Try.f82.ntmps (cutE 0 word_normal.tbl k') (finE 0 word_normal.to word_normal.out) (fnRes Try.f82) [] 100000 true ([.code word_normal.body]) (word_normal.ti.fill ds) = some r := by
  cases k with
  | zero => cases (show none = some r from h)
  | succ k =>
  replace h : word_normal.c k ds = some r := h
  unfold word_normal.c at h
  obtain ⟨x0, d0, e0, h0⟩ := pop_some h; clear h; subst e0; have h := h0; clear h0
  obtain ⟨eN, hN⟩ := popN_some h; clear h; subst eN; have h := hN; clear hN
  exact ⟨k, Nat.lt_succ_self k, (word_normal.e k x0).symm.trans h⟩
theorem word_normal.o (ds : List Dat) (r : (List Int) × (List Int)) (h : word_normal.out ds = some r) : ds = word_normal.rs r := by
  unfold word_normal.out at h
  obtain ⟨x0, d0, e0, h0⟩ := pop_some h; clear h; subst e0; have h := h0; clear h0
  obtain ⟨x1, d1, e1, h1⟩ := pop_some h; clear h; subst e1; have h := h1; clear h1
  obtain ⟨eN, hN⟩ := popN_some h; clear h; subst eN; have h := hN; clear hN
  cases h
  rfl
theorem word_normal.fn : FnOk Try.prog 82 Try.f82 word_normal.body Try.f82.ntmps 1 (fnRes Try.f82) :=
  fnOk_of (by kernel_rfl) (by kernel_rfl) (by kernel_rfl) (by kernel_rfl)
theorem word_normal.con' : ∀ k ds r, word_normal.g k ds = some r → Con Try.prog 82 1 word_normal.ti word_normal.to ds (word_normal.rs r) :=
  fun_ok (T := T) T_ok mixed word_normal.fn (env := word_normal.env) (tbl := word_normal.tbl) (gOut := word_normal.out) (nin := 0) (cuts := []) (fuel := 100000) rfl (by kernel_rfl) (by kernel_rfl) (by kernel_rfl) (fun x hx => by
    simp only [word_normal.tbl, List.mem_cons, List.not_mem_nil, or_false] at hx
    subst hx
    · exact word_normal.h5
) word_normal.o word_normal.h (fun k _ => by unfold word_normal.env; exact (envC_ok (fun ds K r h => by
    obtain ⟨x0, d0, e0, h0⟩ := pop_some h; clear h; subst e0; have h := h0; clear h0
    obtain ⟨eN, hN⟩ := popN_some h; clear h; subst eN; have h := hN; clear hN
    obtain ⟨r1, h1, h2⟩ := bind_some h
    exact ⟨_, h2, slices_Clone___int_int_.con k _ h1⟩) (envC_ok (fun ds K r h => by
    obtain ⟨x0, d0, e0, h0⟩ := pop_some h; clear h; subst e0; have h := h0; clear h0
    obtain ⟨x1, d1, e1, h1⟩ := pop_some h; clear h; subst e1; have h := h1; clear h1
    obtain ⟨eN, hN⟩ := popN_some h; clear h; subst eN; have h := hN; clear hN
    obtain ⟨r1, h1, h2⟩ := bind_some h
    exact ⟨_, h2, word_at.con k _ h1⟩) (envC_ok (fun ds K r h => by
    obtain ⟨x0, d0, e0, h0⟩ := pop_some h; clear h; subst e0; have h := h0; clear h0
    obtain ⟨eN, hN⟩ := popN_some h; clear h; subst eN; have h := hN; clear hN
    obtain ⟨r1, h1, h2⟩ := bind_some h
    exact ⟨_, h2, word_period.con k _ h1⟩) env0_ok))))
theorem word_normal.con (k : Nat) {x0 : ((List Int) × ((List Int) × Unit))} (r : (List Int) × (List Int)) (h : word_normal.f k x0 = some r) : Con Try.prog 82 1 word_normal.ti word_normal.to [⟨(.pair (.slice (.int .i64)) (.pair (.slice (.int .i64)) .unit)), x0⟩] (word_normal.rs r) :=
  word_normal.con' (k + 1) _ r (by show word_normal.c k _ = some r; unfold word_normal.c; simp only [pop_self, popN]; exact h)
mutual
def word_Same.l2 : Nat → Int → Int → List (Int) → List (Int) → List (Int) → List (Int) → List ((List (Int) × (List (Int) × Unit))) → Option (Bool × Int)
 | 0, _, _, _, _, _, _, _ => none
 | k + 1, x14, x15, a2_0, a2_1, b3_0, b3_1, x13 =>
  if x15 < x14 then
   if 0 ≤ x15 then
   if x15 < (↑x13.length : Int) then
    (word_Lasso.f k (Int.ofNat 4) ((x13.getD x15.toNat ([], [], ())).fst, (x13.getD x15.toNat ([], [], ())).snd.fst, ())).bind fun r5 =>
      if r5 = 0 then
       word_Same.l2 k x14 (Go.IntKind.i64.wrap (x15 + 1)) a2_0 a2_1 b3_0 b3_1 x13
      else
       some (false, r5)
    else none
   else none
  else
   (word_normal.f k (a2_0, a2_1, ())).bind fun r3 =>
    (word_normal.f k (b3_0, b3_1, ())).bind fun r4 =>
     (slices_Equal___int_int_.f k r3.fst r4.fst).bind fun r5 =>
      if r5 = true then
       (slices_Equal___int_int_.f k r3.snd r4.snd).bind fun r7 =>
        some (r7, 0)
      else
       some (false, 0)
end
def word_Same.f (k : Nat) (a0 : (List (Int) × (List (Int) × Unit))) (b1 : (List (Int) × (List (Int) × Unit))) : Option (Bool × Int) :=
 word_Same.l2 k ((↑[(a0.fst, a0.snd.fst, ()), (b1.fst, b1.snd.fst, ())].length : Int)) 0 a0.fst a0.snd.fst b1.fst b1.snd.fst ([(a0.fst, a0.snd.fst, ()), (b1.fst, b1.snd.fst, ())])

noncomputable def word_Same.body : Code := fnBody Try.f32
def word_Same.ti : Tm := ⟨[(0, .p (.pair (.slice (.int .i64)) (.pair (.slice (.int .i64)) .unit))), (1, .p (.pair (.slice (.int .i64)) (.pair (.slice (.int .i64)) .unit)))], []⟩
def word_Same.to : Tm := ⟨[(0, .p .bool), (1, .p (.int .i64))], []⟩
def word_Same.rs (r : Bool × Int) : List Dat := [⟨.bool, r.1⟩, ⟨(.int .i64), r.2⟩]
def word_Same.out (ds : List Dat) : Option (Bool × Int) := pop .bool ds fun x0 ds => pop (.int .i64) ds fun x1 ds => popN ds (some (x0, x1))
def word_Same.c (k : Nat) (ds : List Dat) : Option (Bool × Int) := pop (.pair (.slice (.int .i64)) (.pair (.slice (.int .i64)) .unit)) ds fun x0 ds => pop (.pair (.slice (.int .i64)) (.pair (.slice (.int .i64)) .unit)) ds fun x1 ds => popN ds (word_Same.f k x0 x1)
def word_Same.g : Nat → List Dat → Option (Bool × Int)
 | 0, _ => none
 | k + 1, ds => word_Same.c k ds
def word_Same.env (k : Nat) : Nat → List SV → List Chunk → KT (Bool × Int) → Option (Bool × Int) := (envC 29 2 word_Lasso.ti word_Lasso.to (fun ds K => pop (.int .i64) ds fun x0 ds => pop (.pair (.slice (.int .i64)) (.pair (.slice (.int .i64)) .unit)) ds fun x1 ds => popN ds ((word_Lasso.f k x0 x1).bind fun r => K (word_Lasso.rs r))) (envC 82 1 word_normal.ti word_normal.to (fun ds K => pop (.pair (.slice (.int .i64)) (.pair (.slice (.int .i64)) .unit)) ds fun x0 ds => popN ds ((word_normal.f k x0).bind fun r => K (word_normal.rs r))) (envC 83 2 slices_Equal___int_int_.ti slices_Equal___int_int_.to (fun ds K => pop (.slice (.int .i64)) ds fun x0 ds => pop (.slice (.int .i64)) ds fun x1 ds => popN ds ((slices_Equal___int_int_.f k x0 x1).bind fun r => K (slices_Equal___int_int_.rs r))) env0)))
def word_Same.t5 : Tm := ⟨[(2, .ptr 0 0), (3, .ptr 1 0), (13, .own 2), (14, .p (.int .i64)), (15, .p (.int .i64))], [.box [.p (.slice (.int .i64)), .p (.slice (.int .i64))] 43, .box [.p (.slice (.int .i64)), .p (.slice (.int .i64))] 43, .own (.pair (.slice (.int .i64)) (.pair (.slice (.int .i64)) .unit))]⟩
def word_Same.c5 (k : Nat) (ds : List Dat) : Option (Bool × Int) := pop (.int .i64) ds fun x0 ds => pop (.int .i64) ds fun x1 ds => pop (.slice (.int .i64)) ds fun x2 ds => pop (.slice (.int .i64)) ds fun x3 ds => pop (.slice (.int .i64)) ds fun x4 ds => pop (.slice (.int .i64)) ds fun x5 ds => pop (.slice (.pair (.slice (.int .i64)) (.pair (.slice (.int .i64)) .unit))) ds fun x6 ds => popN ds (word_Same.l2 k x0 x1 x2 x3 x4 x5 x6)
def word_Same.tbl : List (Nat × Tm × (Nat → List Dat → Option (Bool × Int))) := [(5, word_Same.t5, word_Same.c5)]
theorem word_Same.e5 (k : Nat) (x0 : Int) (x1 : Int) (x2 : (List Int)) (x3 : (List Int)) (x4 : (List Int)) (x5 : (List Int)) (x6 : (List ((List Int) × ((List Int) × Unit)))) : word_Same.l2 (k + 1) x0 x1 x2 x3 x4 x5 x6 = run T (word_Same.env k) Try.f32.ntmps (cutE 0 word_Same.tbl k) (finE 0 word_Same.to word_Same.out) (fnRes Try.f32) [] 100000 true (start (stackOf 5 word_Same.body)) (word_Same.t5.fill [⟨(.int .i64), x0⟩, ⟨(.int .i64), x1⟩, ⟨(.slice (.int .i64)), x2⟩, ⟨(.slice (.int .i64)), x3⟩, ⟨(.slice (.int .i64)), x4⟩, ⟨(.slice (.int .i64)), x5⟩, ⟨(.slice (.pair (.slice (.int .i64)) (.pair (.slice (.int .i64)) .unit))), x6⟩]) := by kernel_rfl
theorem word_Same.s5 : stackAt 5 word_Same.body [] = some (stackOf 5 word_Same.body) := by kernel_rfl
theorem word_Same.h5 (k : Nat) (ds : List Dat) (r : Bool × Int) (h : word_Same.c5 k ds = some r) : ∃ k', k' < k ∧ ∃ s, stackAt 5 word_Same.body [] = some s ∧ run T (word_Same.env k') Try.f32.ntmps (cutE 0 word_Same.tbl k') (finE 0 word_Same.to word_Same.out) (fnRes Try.f32) [] 100000 true (start s) (word_Same.t5.fill ds) = some r := by
  unfold word_Same.c5 at h
  obtain ⟨x0, d0, e0, h0⟩ := pop_some h; clear h; subst e0; have h := h0; clear h0
  obtain ⟨x1, d1, e1, h1⟩ := pop_some h; clear h; subst e1; have h := h1; clear h1
  obtain ⟨x2, d2, e2, h2⟩ := pop_some h; clear h; subst e2; have h := h2; clear h2
  obtain ⟨x3, d3, e3, h3⟩ := pop_some h; clear h; subst e3; have h := h3; clear h3
  obtain ⟨x4, d4, e4, h4⟩ := pop_some h; clear h; subst e4; have h := h4; clear h4
  obtain ⟨x5, d5, e5, h5⟩ := pop_some h; clear h; subst e5; have h := h5; clear h5
  obtain ⟨x6, d6, e6, h6⟩ := pop_some h; clear h; subst e6; have h := h6; clear h6
  obtain ⟨eN, hN⟩ := popN_some h; clear h; subst eN; have h := hN; clear hN
  cases k with
  | zero => cases (show none = some r from h)
  | succ k => exact ⟨k, Nat.lt_succ_self k, _, word_Same.s5, (word_Same.e5 k x0 x1 x2 x3 x4 x5 x6).symm.trans h⟩
theorem word_Same.e (k : Nat) (x0 : ((List Int) × ((List Int) × Unit))) (x1 : ((List Int) × ((List Int) × Unit))) : word_Same.f k x0 x1 = run T (word_Same.env k) Try.f32.ntmps (cutE 0 word_Same.tbl k) (finE 0 word_Same.to word_Same.out) (fnRes Try.f32) [] 100000 true ([.code word_Same.body]) (word_Same.ti.fill [⟨(.pair (.slice (.int .i64)) (.pair (.slice (.int .i64)) .unit)), x0⟩, ⟨(.pair (.slice (.int .i64)) (.pair (.slice (.int .i64)) .unit)), x1⟩]) := by kernel_rfl
theorem word_Same.h (k : Nat) (ds : List Dat) (r : Bool × Int) (h : word_Same.g k ds = some r) : ∃ k', k' < k ∧ run T (word_Same.env k') Try.f32.ntmps (cutE 0 word_Same.tbl k') (finE 0 word_Same.to word_Same.out) (fnRes Try.f32) [] 100000 true ([.code word_Same.body]) (word_Same.ti.fill ds) = some r := by
  cases k with
  | zero => cases (show none = some r from h)
  | succ k =>
  replace h : word_Same.c k ds = some r := h
  unfold word_Same.c at h
  obtain ⟨x0, d0, e0, h0⟩ := pop_some h; clear h; subst e0; have h := h0; clear h0
  obtain ⟨x1, d1, e1, h1⟩ := pop_some h; clear h; subst e1; have h := h1; clear h1
  obtain ⟨eN, hN⟩ := popN_some h; clear h; subst eN; have h := hN; clear hN
  exact ⟨k, Nat.lt_succ_self k, (word_Same.e k x0 x1).symm.trans h⟩
theorem word_Same.o (ds : List Dat) (r : Bool × Int) (h : word_Same.out ds = some r) : ds = word_Same.rs r := by
  unfold word_Same.out at h
  obtain ⟨x0, d0, e0, h0⟩ := pop_some h; clear h; subst e0; have h := h0; clear h0
  obtain ⟨x1, d1, e1, h1⟩ := pop_some h; clear h; subst e1; have h := h1; clear h1
  obtain ⟨eN, hN⟩ := popN_some h; clear h; subst eN; have h := hN; clear hN
  cases h
  rfl
theorem word_Same.fn : FnOk Try.prog 32 Try.f32 word_Same.body Try.f32.ntmps 2 (fnRes Try.f32) :=
  fnOk_of (by kernel_rfl) (by kernel_rfl) (by kernel_rfl) (by kernel_rfl)
theorem word_Same.con' : ∀ k ds r, word_Same.g k ds = some r → Con Try.prog 32 2 word_Same.ti word_Same.to ds (word_Same.rs r) :=
  fun_ok (T := T) T_ok mixed word_Same.fn (env := word_Same.env) (tbl := word_Same.tbl) (gOut := word_Same.out) (nin := 0) (cuts := []) (fuel := 100000) rfl (by kernel_rfl) (by kernel_rfl) (by kernel_rfl) (fun x hx => by
    simp only [word_Same.tbl, List.mem_cons, List.not_mem_nil, or_false] at hx
    subst hx
    · exact word_Same.h5
) word_Same.o word_Same.h (fun k _ => by unfold word_Same.env; exact (envC_ok (fun ds K r h => by
    obtain ⟨x0, d0, e0, h0⟩ := pop_some h; clear h; subst e0; have h := h0; clear h0
    obtain ⟨x1, d1, e1, h1⟩ := pop_some h; clear h; subst e1; have h := h1; clear h1
    obtain ⟨eN, hN⟩ := popN_some h; clear h; subst eN; have h := hN; clear hN
    obtain ⟨r1, h1, h2⟩ := bind_some h
    exact ⟨_, h2, word_Lasso.con k _ h1⟩) (envC_ok (fun ds K r h => by
    obtain ⟨x0, d0, e0, h0⟩ := pop_some h; clear h; subst e0; have h := h0; clear h0
    obtain ⟨eN, hN⟩ := popN_some h; clear h; subst eN; have h := hN; clear hN
    obtain ⟨r1, h1, h2⟩ := bind_some h
    exact ⟨_, h2, word_normal.con k _ h1⟩) (envC_ok (fun ds K r h => by
    obtain ⟨x0, d0, e0, h0⟩ := pop_some h; clear h; subst e0; have h := h0; clear h0
    obtain ⟨x1, d1, e1, h1⟩ := pop_some h; clear h; subst e1; have h := h1; clear h1
    obtain ⟨eN, hN⟩ := popN_some h; clear h; subst eN; have h := hN; clear hN
    obtain ⟨r1, h1, h2⟩ := bind_some h
    exact ⟨_, h2, slices_Equal___int_int_.con k _ h1⟩) env0_ok))))
theorem word_Same.con (k : Nat) {x0 : ((List Int) × ((List Int) × Unit))} {x1 : ((List Int) × ((List Int) × Unit))} (r : Bool × Int) (h : word_Same.f k x0 x1 = some r) : Con Try.prog 32 2 word_Same.ti word_Same.to [⟨(.pair (.slice (.int .i64)) (.pair (.slice (.int .i64)) .unit)), x0⟩, ⟨(.pair (.slice (.int .i64)) (.pair (.slice (.int .i64)) .unit)), x1⟩] (word_Same.rs r) :=
  word_Same.con' (k + 1) _ r (by show word_Same.c k _ = some r; unfold word_Same.c; simp only [pop_self, popN]; exact h)
mutual
def evermoreref1_Same.l3 : Nat → Int → Int → List (Int) → List (Int) → List (Int) → List (Int) → Option (Bool)
 | 0, _, _, _, _, _, _ => none
 | k + 1, n5, i6, a2_0, a2_1, b3_0, b3_1 =>
  if i6 < n5 then
   (evermoreref1_At.f k (a2_0, a2_1, ()) i6).bind fun r3 =>
    (evermoreref1_At.f k (b3_0, b3_1, ()) i6).bind fun r4 =>
     if r3 = r4 then
      evermoreref1_Same.l3 k n5 (Go.IntKind.i64.wrap (i6 + 1)) a2_0 a2_1 b3_0 b3_1
     else
      some (false)
  else
   some (true)
end
def evermoreref1_Same.f (k : Nat) (a0 : (List (Int) × (List (Int) × Unit))) (b1 : (List (Int) × (List (Int) × Unit))) : Option (Bool) :=
 evermoreref1_Same.l3 k (Go.IntKind.i64.wrap (Go.IntKind.i64.wrap (Go.IntKind.i64.wrap ((↑a0.fst.length : Int) + (↑b1.fst.length : Int)) + (↑a0.snd.fst.length : Int)) + (↑b1.snd.fst.length : Int))) 0 a0.fst a0.snd.fst b1.fst b1.snd.fst

noncomputable def evermoreref1_Same.body : Code := fnBody Try.f33
def evermoreref1_Same.ti : Tm := ⟨[(0, .p (.pair (.slice (.int .i64)) (.pair (.slice (.int .i64)) .unit))), (1, .p (.pair (.slice (.int .i64)) (.pair (.slice (.int .i64)) .unit)))], []⟩
def evermoreref1_Same.to : Tm := ⟨[(0, .p .bool)], []⟩
def evermoreref1_Same.rs (r : Bool) : List Dat := [⟨.bool, r⟩]
def evermoreref1_Same.out (ds : List Dat) : Option (Bool) := pop .bool ds fun x0 ds => popN ds (some (x0))
def evermoreref1_Same.c (k : Nat) (ds : List Dat) : Option (Bool) := pop (.pair (.slice (.int .i64)) (.pair (.slice (.int .i64)) .unit)) ds fun x0 ds => pop (.pair (.slice (.int .i64)) (.pair (.slice (.int .i64)) .unit)) ds fun x1 ds => popN ds (evermoreref1_Same.f k x0 x1)
def evermoreref1_Same.g : Nat → List Dat → Option (Bool)
 | 0, _ => none
 | k + 1, ds => evermoreref1_Same.c k ds
def evermoreref1_Same.env (k : Nat) : Nat → List SV → List Chunk → KT (Bool) → Option (Bool) := (envC 31 2 evermoreref1_At.ti evermoreref1_At.to (fun ds K => pop (.pair (.slice (.int .i64)) (.pair (.slice (.int .i64)) .unit)) ds fun x0 ds => pop (.int .i64) ds fun x1 ds => popN ds ((evermoreref1_At.f k x0 x1).bind fun r => K (evermoreref1_At.rs r))) env0)
def evermoreref1_Same.t7 : Tm := ⟨[(2, .ptr 0 0), (3, .ptr 1 0), (5, .p (.int .i64)), (6, .p (.int .i64))], [.box [.p (.slice (.int .i64)), .p (.slice (.int .i64))] 43, .box [.p (.slice (.int .i64)), .p (.slice (.int .i64))] 43]⟩
def evermoreref1_Same.c7 (k : Nat) (ds : List Dat) : Option (Bool) := pop (.int .i64) ds fun x0 ds => pop (.int .i64) ds fun x1 ds => pop (.slice (.int .i64)) ds fun x2 ds => pop (.slice (.int .i64)) ds fun x3 ds => pop (.slice (.int .i64)) ds fun x4 ds => pop (.slice (.int .i64)) ds fun x5 ds => popN ds (evermoreref1_Same.l3 k x0 x1 x2 x3 x4 x5)
def evermoreref1_Same.tbl : List (Nat × Tm × (Nat → List Dat → Option (Bool))) := [(7, evermoreref1_Same.t7, evermoreref1_Same.c7)]
theorem evermoreref1_Same.e7 (k : Nat) (x0 : Int) (x1 : Int) (x2 : (List Int)) (x3 : (List Int)) (x4 : (List Int)) (x5 : (List Int)) : evermoreref1_Same.l3 (k + 1) x0 x1 x2 x3 x4 x5 = run T (evermoreref1_Same.env k) Try.f33.ntmps (cutE 0 evermoreref1_Same.tbl k) (finE 0 evermoreref1_Same.to evermoreref1_Same.out) (fnRes Try.f33) [] 100000 true (start (stackOf 7 evermoreref1_Same.body)) (evermoreref1_Same.t7.fill [⟨(.int .i64), x0⟩, ⟨(.int .i64), x1⟩, ⟨(.slice (.int .i64)), x2⟩, ⟨(.slice (.int .i64)), x3⟩, ⟨(.slice (.int .i64)), x4⟩, ⟨(.slice (.int .i64)), x5⟩]) := by kernel_rfl
theorem evermoreref1_Same.s7 : stackAt 7 evermoreref1_Same.body [] = some (stackOf 7 evermoreref1_Same.body) := by kernel_rfl
theorem evermoreref1_Same.h7 (k : Nat) (ds : List Dat) (r : Bool) (h : evermoreref1_Same.c7 k ds = some r) : ∃ k', k' < k ∧ ∃ s, stackAt 7 evermoreref1_Same.body [] = some s ∧ run T (evermoreref1_Same.env k') Try.f33.ntmps (cutE 0 evermoreref1_Same.tbl k') (finE 0 evermoreref1_Same.to evermoreref1_Same.out) (fnRes Try.f33) [] 100000 true (start s) (evermoreref1_Same.t7.fill ds) = some r := by
  unfold evermoreref1_Same.c7 at h
  obtain ⟨x0, d0, e0, h0⟩ := pop_some h; clear h; subst e0; have h := h0; clear h0
  obtain ⟨x1, d1, e1, h1⟩ := pop_some h; clear h; subst e1; have h := h1; clear h1
  obtain ⟨x2, d2, e2, h2⟩ := pop_some h; clear h; subst e2; have h := h2; clear h2
  obtain ⟨x3, d3, e3, h3⟩ := pop_some h; clear h; subst e3; have h := h3; clear h3
  obtain ⟨x4, d4, e4, h4⟩ := pop_some h; clear h; subst e4; have h := h4; clear h4
  obtain ⟨x5, d5, e5, h5⟩ := pop_some h; clear h; subst e5; have h := h5; clear h5
  obtain ⟨eN, hN⟩ := popN_some h; clear h; subst eN; have h := hN; clear hN
  cases k with
  | zero => cases (show none = some r from h)
  | succ k => exact ⟨k, Nat.lt_succ_self k, _, evermoreref1_Same.s7, (evermoreref1_Same.e7 k x0 x1 x2 x3 x4 x5).symm.trans h⟩
theorem evermoreref1_Same.e (k : Nat) (x0 : ((List Int) × ((List Int) × Unit))) (x1 : ((List Int) × ((List Int) × Unit))) : evermoreref1_Same.f k x0 x1 = run T (evermoreref1_Same.env k) Try.f33.ntmps (cutE 0 evermoreref1_Same.tbl k) (finE 0 evermoreref1_Same.to evermoreref1_Same.out) (fnRes Try.f33) [] 100000 true ([.code evermoreref1_Same.body]) (evermoreref1_Same.ti.fill [⟨(.pair (.slice (.int .i64)) (.pair (.slice (.int .i64)) .unit)), x0⟩, ⟨(.pair (.slice (.int .i64)) (.pair (.slice (.int .i64)) .unit)), x1⟩]) := by kernel_rfl
theorem evermoreref1_Same.h (k : Nat) (ds : List Dat) (r : Bool) (h : evermoreref1_Same.g k ds = some r) : ∃ k', k' < k ∧ run T (evermoreref1_Same.env k') Try.f33.ntmps (cutE 0 evermoreref1_Same.tbl k') (finE 0 evermoreref1_Same.to evermoreref1_Same.out) (fnRes Try.f33) [] 100000 true ([.code evermoreref1_Same.body]) (evermoreref1_Same.ti.fill ds) = some r := by
  cases k with
  | zero => cases (show none = some r from h)
  | succ k =>
  replace h : evermoreref1_Same.c k ds = some r := h
  unfold evermoreref1_Same.c at h
  obtain ⟨x0, d0, e0, h0⟩ := pop_some h; clear h; subst e0; have h := h0; clear h0
  obtain ⟨x1, d1, e1, h1⟩ := pop_some h; clear h; subst e1; have h := h1; clear h1
  obtain ⟨eN, hN⟩ := popN_some h; clear h; subst eN; have h := hN; clear hN
  exact ⟨k, Nat.lt_succ_self k, (evermoreref1_Same.e k x0 x1).symm.trans h⟩
theorem evermoreref1_Same.o (ds : List Dat) (r : Bool) (h : evermoreref1_Same.out ds = some r) : ds = evermoreref1_Same.rs r := by
  unfold evermoreref1_Same.out at h
  obtain ⟨x0, d0, e0, h0⟩ := pop_some h; clear h; subst e0; have h := h0; clear h0
  obtain ⟨eN, hN⟩ := popN_some h; clear h; subst eN; have h := hN; clear hN
  cases h
  rfl
theorem evermoreref1_Same.fn : FnOk Try.prog 33 Try.f33 evermoreref1_Same.body Try.f33.ntmps 2 (fnRes Try.f33) :=
  fnOk_of (by kernel_rfl) (by kernel_rfl) (by kernel_rfl) (by kernel_rfl)
theorem evermoreref1_Same.con' : ∀ k ds r, evermoreref1_Same.g k ds = some r → Con Try.prog 33 2 evermoreref1_Same.ti evermoreref1_Same.to ds (evermoreref1_Same.rs r) :=
  fun_ok (T := T) T_ok mixed evermoreref1_Same.fn (env := evermoreref1_Same.env) (tbl := evermoreref1_Same.tbl) (gOut := evermoreref1_Same.out) (nin := 0) (cuts := []) (fuel := 100000) rfl (by kernel_rfl) (by kernel_rfl) (by kernel_rfl) (fun x hx => by
    simp only [evermoreref1_Same.tbl, List.mem_cons, List.not_mem_nil, or_false] at hx
    subst hx
    · exact evermoreref1_Same.h7
) evermoreref1_Same.o evermoreref1_Same.h (fun k _ => by unfold evermoreref1_Same.env; exact (envC_ok (fun ds K r h => by
    obtain ⟨x0, d0, e0, h0⟩ := pop_some h; clear h; subst e0; have h := h0; clear h0
    obtain ⟨x1, d1, e1, h1⟩ := pop_some h; clear h; subst e1; have h := h1; clear h1
    obtain ⟨eN, hN⟩ := popN_some h; clear h; subst eN; have h := hN; clear hN
    obtain ⟨r1, h1, h2⟩ := bind_some h
    exact ⟨_, h2, evermoreref1_At.con k _ h1⟩) env0_ok))
theorem evermoreref1_Same.con (k : Nat) {x0 : ((List Int) × ((List Int) × Unit))} {x1 : ((List Int) × ((List Int) × Unit))} (r : Bool) (h : evermoreref1_Same.f k x0 x1 = some r) : Con Try.prog 33 2 evermoreref1_Same.ti evermoreref1_Same.to [⟨(.pair (.slice (.int .i64)) (.pair (.slice (.int .i64)) .unit)), x0⟩, ⟨(.pair (.slice (.int .i64)) (.pair (.slice (.int .i64)) .unit)), x1⟩] (evermoreref1_Same.rs r) :=
  evermoreref1_Same.con' (k + 1) _ r (by show evermoreref1_Same.c k _ = some r; unfold evermoreref1_Same.c; simp only [pop_self, popN]; exact h)
mutual
def evermorelaw_WordTells.j19 : Nat → Int → Int → List (Int) → List (Int) → List (Int) → List (Int) → Option (Bool)
 | 0, _, _, _, _, _, _ => none
 | k + 1, one15, two16, a7_0, a7_1, b8_0, b8_1 =>
  (word_Same.f k (a7_0, a7_1, ()) (b8_0, b8_1, ())).bind fun r2 =>
   if one15 = 0 then
    if two16 = 0 then
     (evermoreref1_Same.f k (a7_0, a7_1, ()) (b8_0, b8_1, ())).bind fun r5 =>
      if r2.snd = 0 then
       some (r2.fst == r5)
      else
       some (false)
    else
     if r2.snd = two16 then
      some (!r2.fst)
     else
      some (false)
   else
    if r2.snd = one15 then
     some (!r2.fst)
    else
     some (false)
end
def evermorelaw_WordTells.f (k : Nat) (letters0 : Int) (w1 : List (Int)) (a2 : (List (Int) × (List (Int) × Unit))) (b3 : (List (Int) × (List (Int) × Unit))) (n4 : Int) : Option (Bool) :=
 (word_May.f k letters0 w1).bind fun r1 =>
  (evermoreref1_May.f k letters0 w1).bind fun r2 =>
   (word_Lasso.f k letters0 (a2.fst, a2.snd.fst, ())).bind fun r3 =>
    (evermoreref1_Lasso.f k letters0 (a2.fst, a2.snd.fst, ())).bind fun r4 =>
     if r1 = r2 then
      if r3 = r4 then
       (evermoreref1_Lasso.f k (Int.ofNat 4) (a2.fst, a2.snd.fst, ())).bind fun r7 =>
        (evermoreref1_Lasso.f k (Int.ofNat 4) (b3.fst, b3.snd.fst, ())).bind fun r8 =>
         (word_At.f k (a2.fst, a2.snd.fst, ()) n4).bind fun r9 =>
          if r7 = 0 then
           if n4 < 0 then
            if r9.snd = 2 then
             if r9.fst = 0 then
              evermorelaw_WordTells.j19 k r7 r8 a2.fst a2.snd.fst b3.fst b3.snd.fst
             else
              some (false)
            else
             some (false)
           else
            (evermoreref1_At.f k (a2.fst, a2.snd.fst, ()) n4).bind fun r12 =>
             if r9.snd = 0 then
              if r9.fst = r12 then
               evermorelaw_WordTells.j19 k r7 r8 a2.fst a2.snd.fst b3.fst b3.snd.fst
              else
               some (false)
             else
              some (false)
          else
           if r9.snd = r7 then
            if r9.fst = 0 then
             evermorelaw_WordTells.j19 k r7 r8 a2.fst a2.snd.fst b3.fst b3.snd.fst
            else
             some (false)
           else
            some (false)
      else
       some (false)
     else
      some (false)

noncomputable def evermorelaw_WordTells.body : Code := fnBody Try.f6
def evermorelaw_WordTells.ti : Tm := ⟨[(0, .p (.int .i64)), (1, .p (.slice (.int .i64))), (2, .p (.pair (.slice (.int .i64)) (.pair (.slice (.int .i64)) .unit))), (3, .p (.pair (.slice (.int .i64)) (.pair (.slice (.int .i64)) .unit))), (4, .p (.int .i64))], []⟩
def evermorelaw_WordTells.to : Tm := ⟨[(0, .p .bool)], []⟩
def evermorelaw_WordTells.rs (r : Bool) : List Dat := [⟨.bool, r⟩]
def evermorelaw_WordTells.out (ds : List Dat) : Option (Bool) := pop .bool ds fun x0 ds => popN ds (some (x0))
def evermorelaw_WordTells.c (k : Nat) (ds : List Dat) : Option (Bool) := pop (.int .i64) ds fun x0 ds => pop (.slice (.int .i64)) ds fun x1 ds => pop (.pair (.slice (.int .i64)) (.pair (.slice (.int .i64)) .unit)) ds fun x2 ds => pop (.pair (.slice (.int .i64)) (.pair (.slice (.int .i64)) .unit)) ds fun x3 ds => pop (.int .i64) ds fun x4 ds => popN ds (evermorelaw_WordTells.f k x0 x1 x2 x3 x4)
def evermorelaw_WordTells.g : Nat → List Dat → Option (Bool)
 | 0, _ => none
 | k + 1, ds => evermorelaw_WordTells.c k ds
def evermorelaw_WordTells.env (k : Nat) : Nat → List SV → List Chunk → KT (Bool) → Option (Bool) := (envC 32 2 word_Same.ti word_Same.to (fun ds K => pop (.pair (.slice (.int .i64)) (.pair (.slice (.int .i64)) .unit)) ds fun x0 ds => pop (.pair (.slice (.int .i64)) (.pair (.slice (.int .i64)) .unit)) ds fun x1 ds => popN ds ((word_Same.f k x0 x1).bind fun r => K (word_Same.rs r))) (envC 33 2 evermoreref1_Same.ti evermoreref1_Same.to (fun ds K => pop (.pair (.slice (.int .i64)) (.pair (.slice (.int .i64)) .unit)) ds fun x0 ds => pop (.pair (.slice (.int .i64)) (.pair (.slice (.int .i64)) .unit)) ds fun x1 ds => popN ds ((evermoreref1_Same.f k x0 x1).bind fun r => K (evermoreref1_Same.rs r))) (envC 28 2 word_May.ti word_May.to (fun ds K => pop (.int .i64) ds fun x0 ds => pop (.slice (.int .i64)) ds fun x1 ds => popN ds ((word_May.f k x0 x1).bind fun r => K (word_May.rs r))) (envC 21 2 evermoreref1_May.ti evermoreref1_May.to (fun ds K => pop (.int .i64) ds fun x0 ds => pop (.slice (.int .i64)) ds fun x1 ds => popN ds ((evermoreref1_May.f k x0 x1).bind fun r => K (evermoreref1_May.rs r))) (envC 29 2 word_Lasso.ti word_Lasso.to (fun ds K => pop (.int .i64) ds fun x0 ds => pop (.pair (.slice (.int .i64)) (.pair (.slice (.int .i64)) .unit)) ds fun x1 ds => popN ds ((word_Lasso.f k x0 x1).bind fun r => K (word_Lasso.rs r))) (envC 26 2 evermoreref1_Lasso.ti evermoreref1_Lasso.to (fun ds K => pop (.int .i64) ds fun x0 ds => pop (.pair (.slice (.int .i64)) (.pair (.slice (.int .i64)) .unit)) ds fun x1 ds => popN ds ((evermoreref1_Lasso.f k x0 x1).bind fun r => K (evermoreref1_Lasso.rs r))) (envC 30 2 word_At.ti word_At.to (fun ds K => pop (.pair (.slice (.int .i64)) (.pair (.slice (.int .i64)) .unit)) ds fun x0 ds => pop (.int .i64) ds fun x1 ds => popN ds ((word_At.f k x0 x1).bind fun r => K (word_At.rs r))) (envC 31 2 evermoreref1_At.ti evermoreref1_At.to (fun ds K => pop (.pair (.slice (.int .i64)) (.pair (.slice (.int .i64)) .unit)) ds fun x0 ds => pop (.int .i64) ds fun x1 ds => popN ds ((evermoreref1_At.f k x0 x1).bind fun r => K (evermoreref1_At.rs r))) env0))))))))
def evermorelaw_WordTells.t38 : Tm := ⟨[(7, .ptr 0 0), (8, .ptr 1 0), (15, .p (.int .i64)), (16, .p (.int .i64))], [.box [.p (.slice (.int .i64)), .p (.slice (.int .i64))] 43, .box [.p (.slice (.int .i64)), .p (.slice (.int .i64))] 43]⟩
def evermorelaw_WordTells.c38 (k : Nat) (ds : List Dat) : Option (Bool) := pop (.int .i64) ds fun x0 ds => pop (.int .i64) ds fun x1 ds => pop (.slice (.int .i64)) ds fun x2 ds => pop (.slice (.int .i64)) ds fun x3 ds => pop (.slice (.int .i64)) ds fun x4 ds => pop (.slice (.int .i64)) ds fun x5 ds => popN ds (evermorelaw_WordTells.j19 k x0 x1 x2 x3 x4 x5)
def evermorelaw_WordTells.tbl : List (Nat × Tm × (Nat → List Dat → Option (Bool))) := [(38, evermorelaw_WordTells.t38, evermorelaw_WordTells.c38)]
theorem evermorelaw_WordTells.e38 (k : Nat) (x0 : Int) (x1 : Int) (x2 : (List Int)) (x3 : (List Int)) (x4 : (List Int)) (x5 : (List Int)) : evermorelaw_WordTells.j19 (k + 1) x0 x1 x2 x3 x4 x5 = run T (evermorelaw_WordTells.env k) Try.f6.ntmps (cutE 0 evermorelaw_WordTells.tbl k) (finE 0 evermorelaw_WordTells.to evermorelaw_WordTells.out) (fnRes Try.f6) [19] 100000 true (start (stackOf 38 evermorelaw_WordTells.body)) (evermorelaw_WordTells.t38.fill [⟨(.int .i64), x0⟩, ⟨(.int .i64), x1⟩, ⟨(.slice (.int .i64)), x2⟩, ⟨(.slice (.int .i64)), x3⟩, ⟨(.slice (.int .i64)), x4⟩, ⟨(.slice (.int .i64)), x5⟩]) := by kernel_rfl
theorem evermorelaw_WordTells.s38 : stackAt 38 evermorelaw_WordTells.body [] = some (stackOf 38 evermorelaw_WordTells.body) := by kernel_rfl
theorem evermorelaw_WordTells.h38 (k : Nat) (ds : List Dat) (r : Bool) (h : evermorelaw_WordTells.c38 k ds = some r) : ∃ k', k' < k ∧ ∃ s, stackAt 38 evermorelaw_WordTells.body [] = some s ∧ run T (evermorelaw_WordTells.env k') Try.f6.ntmps (cutE 0 evermorelaw_WordTells.tbl k') (finE 0 evermorelaw_WordTells.to evermorelaw_WordTells.out) (fnRes Try.f6) [19] 100000 true (start s) (evermorelaw_WordTells.t38.fill ds) = some r := by
  unfold evermorelaw_WordTells.c38 at h
  obtain ⟨x0, d0, e0, h0⟩ := pop_some h; clear h; subst e0; have h := h0; clear h0
  obtain ⟨x1, d1, e1, h1⟩ := pop_some h; clear h; subst e1; have h := h1; clear h1
  obtain ⟨x2, d2, e2, h2⟩ := pop_some h; clear h; subst e2; have h := h2; clear h2
  obtain ⟨x3, d3, e3, h3⟩ := pop_some h; clear h; subst e3; have h := h3; clear h3
  obtain ⟨x4, d4, e4, h4⟩ := pop_some h; clear h; subst e4; have h := h4; clear h4
  obtain ⟨x5, d5, e5, h5⟩ := pop_some h; clear h; subst e5; have h := h5; clear h5
  obtain ⟨eN, hN⟩ := popN_some h; clear h; subst eN; have h := hN; clear hN
  cases k with
  | zero => cases (show none = some r from h)
  | succ k => exact ⟨k, Nat.lt_succ_self k, _, evermorelaw_WordTells.s38, (evermorelaw_WordTells.e38 k x0 x1 x2 x3 x4 x5).symm.trans h⟩
theorem evermorelaw_WordTells.e (k : Nat) (x0 : Int) (x1 : (List Int)) (x2 : ((List Int) × ((List Int) × Unit))) (x3 : ((List Int) × ((List Int) × Unit))) (x4 : Int) : evermorelaw_WordTells.f k x0 x1 x2 x3 x4 = run T (evermorelaw_WordTells.env k) Try.f6.ntmps (cutE 0 evermorelaw_WordTells.tbl k) (finE 0 evermorelaw_WordTells.to evermorelaw_WordTells.out) (fnRes Try.f6) [19] 100000 true ([.code evermorelaw_WordTells.body]) (evermorelaw_WordTells.ti.fill [⟨(.int .i64), x0⟩, ⟨(.slice (.int .i64)), x1⟩, ⟨(.pair (.slice (.int .i64)) (.pair (.slice (.int .i64)) .unit)), x2⟩, ⟨(.pair (.slice (.int .i64)) (.pair (.slice (.int .i64)) .unit)), x3⟩, ⟨(.int .i64), x4⟩]) := by kernel_rfl
theorem evermorelaw_WordTells.h (k : Nat) (ds : List Dat) (r : Bool) (h : evermorelaw_WordTells.g k ds = some r) : ∃ k', k' < k ∧ run T (evermorelaw_WordTells.env k') Try.f6.ntmps (cutE 0 evermorelaw_WordTells.tbl k') (finE 0 evermorelaw_WordTells.to evermorelaw_WordTells.out) (fnRes Try.f6) [19] 100000 true ([.code evermorelaw_WordTells.body]) (evermorelaw_WordTells.ti.fill ds) = some r := by
  cases k with
  | zero => cases (show none = some r from h)
  | succ k =>
  replace h : evermorelaw_WordTells.c k ds = some r := h
  unfold evermorelaw_WordTells.c at h
  obtain ⟨x0, d0, e0, h0⟩ := pop_some h; clear h; subst e0; have h := h0; clear h0
  obtain ⟨x1, d1, e1, h1⟩ := pop_some h; clear h; subst e1; have h := h1; clear h1
  obtain ⟨x2, d2, e2, h2⟩ := pop_some h; clear h; subst e2; have h := h2; clear h2
  obtain ⟨x3, d3, e3, h3⟩ := pop_some h; clear h; subst e3; have h := h3; clear h3
  obtain ⟨x4, d4, e4, h4⟩ := pop_some h; clear h; subst e4; have h := h4; clear h4
  obtain ⟨eN, hN⟩ := popN_some h; clear h; subst eN; have h := hN; clear hN
  exact ⟨k, Nat.lt_succ_self k, (evermorelaw_WordTells.e k x0 x1 x2 x3 x4).symm.trans h⟩
theorem evermorelaw_WordTells.o (ds : List Dat) (r : Bool) (h : evermorelaw_WordTells.out ds = some r) : ds = evermorelaw_WordTells.rs r := by
  unfold evermorelaw_WordTells.out at h
  obtain ⟨x0, d0, e0, h0⟩ := pop_some h; clear h; subst e0; have h := h0; clear h0
  obtain ⟨eN, hN⟩ := popN_some h; clear h; subst eN; have h := hN; clear hN
  cases h
  rfl
theorem evermorelaw_WordTells.fn : FnOk Try.prog 6 Try.f6 evermorelaw_WordTells.body Try.f6.ntmps 5 (fnRes Try.f6) :=
  fnOk_of (by kernel_rfl) (by kernel_rfl) (by kernel_rfl) (by kernel_rfl)
theorem evermorelaw_WordTells.con' : ∀ k ds r, evermorelaw_WordTells.g k ds = some r → Con Try.prog 6 5 evermorelaw_WordTells.ti evermorelaw_WordTells.to ds (evermorelaw_WordTells.rs r) :=
  fun_ok (T := T) T_ok mixed evermorelaw_WordTells.fn (env := evermorelaw_WordTells.env) (tbl := evermorelaw_WordTells.tbl) (gOut := evermorelaw_WordTells.out) (nin := 0) (cuts := [19]) (fuel := 100000) rfl (by kernel_rfl) (by kernel_rfl) (by kernel_rfl) (fun x hx => by
    simp only [evermorelaw_WordTells.tbl, List.mem_cons, List.not_mem_nil, or_false] at hx
    subst hx
    · exact evermorelaw_WordTells.h38
) evermorelaw_WordTells.o evermorelaw_WordTells.h (fun k _ => by unfold evermorelaw_WordTells.env; exact (envC_ok (fun ds K r h => by
    obtain ⟨x0, d0, e0, h0⟩ := pop_some h; clear h; subst e0; have h := h0; clear h0
    obtain ⟨x1, d1, e1, h1⟩ := pop_some h; clear h; subst e1; have h := h1; clear h1
    obtain ⟨eN, hN⟩ := popN_some h; clear h; subst eN; have h := hN; clear hN
    obtain ⟨r1, h1, h2⟩ := bind_some h
    exact ⟨_, h2, word_Same.con k _ h1⟩) (envC_ok (fun ds K r h => by
    obtain ⟨x0, d0, e0, h0⟩ := pop_some h; clear h; subst e0; have h := h0; clear h0
    obtain ⟨x1, d1, e1, h1⟩ := pop_some h; clear h; subst e1; have h := h1; clear h1
    obtain ⟨eN, hN⟩ := popN_some h; clear h; subst eN; have h := hN; clear hN
    obtain ⟨r1, h1, h2⟩ := bind_some h
    exact ⟨_, h2, evermoreref1_Same.con k _ h1⟩) (envC_ok (fun ds K r h => by
    obtain ⟨x0, d0, e0, h0⟩ := pop_some h; clear h; subst e0; have h := h0; clear h0
    obtain ⟨x1, d1, e1, h1⟩ := pop_some h; clear h; subst e1; have h := h1; clear h1
    obtain ⟨eN, hN⟩ := popN_some h; clear h; subst eN; have h := hN; clear hN
    obtain ⟨r1, h1, h2⟩ := bind_some h
    exact ⟨_, h2, word_May.con k _ h1⟩) (envC_ok (fun ds K r h => by
    obtain ⟨x0, d0, e0, h0⟩ := pop_some h; clear h; subst e0; have h := h0; clear h0
    obtain ⟨x1, d1, e1, h1⟩ := pop_some h; clear h; subst e1; have h := h1; clear h1
    obtain ⟨eN, hN⟩ := popN_some h; clear h; subst eN; have h := hN; clear hN
    obtain ⟨r1, h1, h2⟩ := bind_some h
    exact ⟨_, h2, evermoreref1_May.con k _ h1⟩) (envC_ok (fun ds K r h => by
    obtain ⟨x0, d0, e0, h0⟩ := pop_some h; clear h; subst e0; have h := h0; clear h0
    obtain ⟨x1, d1, e1, h1⟩ := pop_some h; clear h; subst e1; have h := h1; clear h1
    obtain ⟨eN, hN⟩ := popN_some h; clear h; subst eN; have h := hN; clear hN
    obtain ⟨r1, h1, h2⟩ := bind_some h
    exact ⟨_, h2, word_Lasso.con k _ h1⟩) (envC_ok (fun ds K r h => by
    obtain ⟨x0, d0, e0, h0⟩ := pop_some h; clear h; subst e0; have h := h0; clear h0
    obtain ⟨x1, d1, e1, h1⟩ := pop_some h; clear h; subst e1; have h := h1; clear h1
    obtain ⟨eN, hN⟩ := popN_some h; clear h; subst eN; have h := hN; clear hN
    obtain ⟨r1, h1, h2⟩ := bind_some h
    exact ⟨_, h2, evermoreref1_Lasso.con k _ h1⟩) (envC_ok (fun ds K r h => by
    obtain ⟨x0, d0, e0, h0⟩ := pop_some h; clear h; subst e0; have h := h0; clear h0
    obtain ⟨x1, d1, e1, h1⟩ := pop_some h; clear h; subst e1; have h := h1; clear h1
    obtain ⟨eN, hN⟩ := popN_some h; clear h; subst eN; have h := hN; clear hN
    obtain ⟨r1, h1, h2⟩ := bind_some h
    exact ⟨_, h2, word_At.con k _ h1⟩) (envC_ok (fun ds K r h => by
    obtain ⟨x0, d0, e0, h0⟩ := pop_some h; clear h; subst e0; have h := h0; clear h0
    obtain ⟨x1, d1, e1, h1⟩ := pop_some h; clear h; subst e1; have h := h1; clear h1
    obtain ⟨eN, hN⟩ := popN_some h; clear h; subst eN; have h := hN; clear hN
    obtain ⟨r1, h1, h2⟩ := bind_some h
    exact ⟨_, h2, evermoreref1_At.con k _ h1⟩) env0_ok)))))))))
theorem evermorelaw_WordTells.con (k : Nat) {x0 : Int} {x1 : (List Int)} {x2 : ((List Int) × ((List Int) × Unit))} {x3 : ((List Int) × ((List Int) × Unit))} {x4 : Int} (r : Bool) (h : evermorelaw_WordTells.f k x0 x1 x2 x3 x4 = some r) : Con Try.prog 6 5 evermorelaw_WordTells.ti evermorelaw_WordTells.to [⟨(.int .i64), x0⟩, ⟨(.slice (.int .i64)), x1⟩, ⟨(.pair (.slice (.int .i64)) (.pair (.slice (.int .i64)) .unit)), x2⟩, ⟨(.pair (.slice (.int .i64)) (.pair (.slice (.int .i64)) .unit)), x3⟩, ⟨(.int .i64), x4⟩] (evermorelaw_WordTells.rs r) :=
  evermorelaw_WordTells.con' (k + 1) _ r (by show evermorelaw_WordTells.c k _ = some r; unfold evermorelaw_WordTells.c; simp only [pop_self, popN]; exact h)
/-- The one pure statement of the law, over whatever arguments can be read. -/
def evermorelaw_WordTells.PureH : Prop := ∀ (x0 : Int) (x1 : (List Int)) (x2 : ((List Int) × ((List Int) × Unit))) (x3 : ((List Int) × ((List Int) × Unit))) (x4 : Int), Ty.okv (.int .i64) x0 → Ty.okv (.slice (.int .i64)) x1 → Ty.okv (.pair (.slice (.int .i64)) (.pair (.slice (.int .i64)) .unit)) x2 → Ty.okv (.pair (.slice (.int .i64)) (.pair (.slice (.int .i64)) .unit)) x3 → Ty.okv (.int .i64) x4 → ∃ k, evermorelaw_WordTells.f k x0 x1 x2 x3 x4 = some true
end Go.Proofs.YtaaibckhpbmbeaaSx
