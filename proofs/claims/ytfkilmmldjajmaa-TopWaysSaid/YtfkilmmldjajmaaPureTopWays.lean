import Derived.Test.YtfkilmmldjajmaaGTopWays
import Derived.Test.YtfkilmmldjajmaaSxW
import Derived.Test.YtfkilmmldjajmaaSxV2
set_option linter.unusedVariables false
set_option linter.unusedSimpArgs false
namespace Go.Proofs.YtfkilmmldjajmaaSx
/-- With enough fuel. -/
def Ev {α : Type} (g : Nat → Option α) (r : α) : Prop := ∃ k0, ∀ k, k0 ≤ k → g k = some r
theorem Ev.now {α : Type} (r : α) : Ev (fun _ => some r) r := ⟨0, fun _ _ => rfl⟩
theorem Ev.all {α : Type} {g : Nat → Option α} {r : α} (h : ∀ k, g k = some r) : Ev g r := ⟨0, fun k _ => h k⟩
theorem Ev.step {α : Type} {g h : Nat → Option α} {r : α} (e : ∀ k, g (k + 1) = h k) (H : Ev h r) : Ev g r := by
  obtain ⟨k0, H⟩ := H
  refine ⟨k0 + 1, fun k hk => ?_⟩
  obtain ⟨k, rfl⟩ : ∃ j, k = j + 1 := ⟨k - 1, by omega⟩
  rw [e]; exact H _ (by omega)
theorem Ev.bind {α β : Type} {g : Nat → Option α} {h : Nat → α → Option β} {x : α} {r : β} (G : Ev g x) (H : Ev (fun k => h k x) r) : Ev (fun k => (g k).bind (h k)) r := by
  obtain ⟨a, G⟩ := G
  obtain ⟨b, H⟩ := H
  refine ⟨max a b, fun k hk => ?_⟩
  show (g k).bind (h k) = some r
  rw [G k (by omega)]; exact H k (by omega)
theorem Ev.get {α : Type} {g : Nat → Option α} {r : α} (H : Ev g r) : ∃ k, g k = some r := H.elim fun k0 H => ⟨k0, H k0 (Nat.le_refl _)⟩
theorem Ev.cast {α : Type} {g : Nat → Option α} {r r' : α} (H : Ev g r) (e : r = r') : Ev g r' := e ▸ H

theorem wr64 (n : Int) (h0 : -9223372036854775808 ≤ n) (h1 : n < 9223372036854775808) : IntKind.i64.wrap n = n := by rw [IntKind.wrap_i64]; omega
theorem wrSucc (i : Nat) (h : i < 1000000000) : IntKind.i64.wrap ((i : Int) + 1) = ((i + 1 : Nat) : Int) := by rw [wr64] <;> omega
theorem rd_nat {α : Type} (d : α) (w : List α) (i : Nat) : rd d w (i : Int) = w.getD i d := by simp [rd]
theorem drop_getD {α : Type} (d : α) (w : List α) (i : Nat) (h : i < w.length) : w.drop i = w.getD i d :: w.drop (i + 1) := by
  rw [List.drop_eq_getElem_cons h]; simp [List.getD, h]
theorem short (n : Nat) (h : n < 1000000000) : Nat.blt n 1000000000 = true := Nat.ble_eq_true_of_le (by omega)
theorem fits (n b : Nat) (hb : b ≤ 1000) (h : n < 100000000000) : fitsIn n b = true := by
  have h1 : n * b ≤ 100000000000 * 1000 := Nat.mul_le_mul (by omega) hb
  exact Nat.ble_eq_true_of_le (by omega)
theorem fit1 {b : Nat} (n : Nat) (h : n < 1000000000) (hb : b ≤ 4096 := by decide) : fitsIn n b = true := by
  have h1 : n * b ≤ 1000000000 * 4096 := Nat.mul_le_mul (by omega) hb
  exact Nat.ble_eq_true_of_le (by omega)
end Go.Proofs.YtfkilmmldjajmaaSx
namespace Go.Proofs.YtfkilmmldjajmaaSx
/- Mirrors of the reference (as the explorer printed them for TwoDet), for the use of the texts behind; the law does not call them. -/
mutual
def evermoreref3_Classes.l3 : Nat → Int → Int → Int → List (List (Int)) → List (Int) → List (Int) → Option (List Int)
 | 0, _, _, _, _, _, _ => none
 | k + 1, count4, d1_0, d1_1, d1_2, d1_3, class3 =>
  if 0 ≤ (↑class3.length : Int) then
  if (↑class3.length : Int) ≤ (↑class3.length : Int) then
   if (↑class3.length : Int) * ((↑8 : Int) + 1) ≤ 1099511627776 then
    evermoreref3_Classes.l7 k count4 0 0 d1_0 d1_1 d1_2 d1_3 class3 (List.replicate (↑class3.length : Int).toNat (Int.ofNat 0)) []
    else none
   else none
  else none
def evermoreref3_Classes.l7 : Nat → Int → Int → Int → Int → Int → List (List (Int)) → List (Int) → List (Int) → List (Int) → List (Int) → Option (List Int)
 | 0, _, _, _, _, _, _, _, _, _, _ => none
 | k + 1, count4, n6, q8, d1_0, d1_1, d1_2, d1_3, class3, next5, first7 =>
  if q8 < (↑class3.length : Int) then
   evermoreref3_Classes.l10 k count4 n6 q8 0 d1_0 d1_1 d1_2 d1_3 class3 next5 first7
  else
   if n6 = count4 then
    some (next5)
   else
    evermoreref3_Classes.l3 k n6 d1_0 d1_1 d1_2 d1_3 next5
def evermoreref3_Classes.l10 : Nat → Int → Int → Int → Int → Int → Int → List (List (Int)) → List (Int) → List (Int) → List (Int) → List (Int) → Option (List Int)
 | 0, _, _, _, _, _, _, _, _, _, _, _ => none
 | k + 1, count4, n6, q8, k9, d1_0, d1_1, d1_2, d1_3, class3, next5, first7 =>
  if k9 < n6 then
   if 0 ≤ k9 then
   if k9 < (↑first7.length : Int) then
    if 0 ≤ first7.getD k9.toNat (Int.ofNat 0) then
     if first7.getD k9.toNat (Int.ofNat 0) < (↑class3.length : Int) then
      if 0 ≤ q8 then
       if q8 < (↑class3.length : Int) then
        evermoreref3_Classes.l14 k count4 n6 q8 k9 (first7.getD k9.toNat (Int.ofNat 0)) (decide (class3.getD (first7.getD k9.toNat (Int.ofNat 0)).toNat (Int.ofNat 0) = class3.getD q8.toNat (Int.ofNat 0))) 0 d1_0 d1_1 d1_2 d1_3 class3 next5 first7
        else none
       else none
      else none
     else none
    else none
   else none
  else
   if k9 = n6 then
    if Go.Proofs.YtfkilmmldjajmaaSx.fitsIn (first7 ++ [q8]).length 8 = true then
    evermoreref3_Classes.j22 k count4 (Go.IntKind.i64.wrap (n6 + 1)) q8 k9 d1_0 d1_1 d1_2 d1_3 class3 next5 (first7 ++ [q8])
    else none
   else
    evermoreref3_Classes.j22 k count4 n6 q8 k9 d1_0 d1_1 d1_2 d1_3 class3 next5 first7
def evermoreref3_Classes.l14 : Nat → Int → Int → Int → Int → Int → Bool → Int → Int → Int → List (List (Int)) → List (Int) → List (Int) → List (Int) → List (Int) → Option (List Int)
 | 0, _, _, _, _, _, _, _, _, _, _, _, _, _, _ => none
 | k + 1, count4, n6, q8, k9, p10, same11, a12, d1_0, d1_1, d1_2, d1_3, class3, next5, first7 =>
  if a12 < d1_0 then
   if same11 = true then
    if 0 ≤ p10 then
    if p10 < (↑d1_2.length : Int) then
     if 0 ≤ a12 then
      if a12 < (↑(Go.Proofs.YtfkilmmldjajmaaSx.rd [] d1_2 p10).length : Int) then
       if 0 ≤ Go.Proofs.YtfkilmmldjajmaaSx.rd (Int.ofNat 0) (Go.Proofs.YtfkilmmldjajmaaSx.rd [] d1_2 p10) a12 then
        if Go.Proofs.YtfkilmmldjajmaaSx.rd (Int.ofNat 0) (Go.Proofs.YtfkilmmldjajmaaSx.rd [] d1_2 p10) a12 < (↑class3.length : Int) then
         if 0 ≤ q8 then
          if q8 < (↑d1_2.length : Int) then
           if 0 ≤ a12 then
            if a12 < (↑(Go.Proofs.YtfkilmmldjajmaaSx.rd [] d1_2 q8).length : Int) then
             if 0 ≤ Go.Proofs.YtfkilmmldjajmaaSx.rd (Int.ofNat 0) (Go.Proofs.YtfkilmmldjajmaaSx.rd [] d1_2 q8) a12 then
              if Go.Proofs.YtfkilmmldjajmaaSx.rd (Int.ofNat 0) (Go.Proofs.YtfkilmmldjajmaaSx.rd [] d1_2 q8) a12 < (↑class3.length : Int) then
               evermoreref3_Classes.l14 k count4 n6 q8 k9 p10 (decide (class3.getD (Go.Proofs.YtfkilmmldjajmaaSx.rd (Int.ofNat 0) (Go.Proofs.YtfkilmmldjajmaaSx.rd [] d1_2 p10) a12).toNat (Int.ofNat 0) = class3.getD (Go.Proofs.YtfkilmmldjajmaaSx.rd (Int.ofNat 0) (Go.Proofs.YtfkilmmldjajmaaSx.rd [] d1_2 q8) a12).toNat (Int.ofNat 0))) (Go.IntKind.i64.wrap (a12 + 1)) d1_0 d1_1 d1_2 d1_3 class3 next5 first7
               else none
              else none
             else none
            else none
           else none
          else none
         else none
        else none
       else none
      else none
     else none
    else none
   else
    if same11 = true then
     if k9 = n6 then
      if Go.Proofs.YtfkilmmldjajmaaSx.fitsIn (first7 ++ [q8]).length 8 = true then
      evermoreref3_Classes.j22 k count4 (Go.IntKind.i64.wrap (n6 + 1)) q8 k9 d1_0 d1_1 d1_2 d1_3 class3 next5 (first7 ++ [q8])
      else none
     else
      evermoreref3_Classes.j22 k count4 n6 q8 k9 d1_0 d1_1 d1_2 d1_3 class3 next5 first7
    else
     evermoreref3_Classes.l10 k count4 n6 q8 (Go.IntKind.i64.wrap (k9 + 1)) d1_0 d1_1 d1_2 d1_3 class3 next5 first7
  else
   if same11 = true then
    if k9 = n6 then
     if Go.Proofs.YtfkilmmldjajmaaSx.fitsIn (first7 ++ [q8]).length 8 = true then
     evermoreref3_Classes.j22 k count4 (Go.IntKind.i64.wrap (n6 + 1)) q8 k9 d1_0 d1_1 d1_2 d1_3 class3 next5 (first7 ++ [q8])
     else none
    else
     evermoreref3_Classes.j22 k count4 n6 q8 k9 d1_0 d1_1 d1_2 d1_3 class3 next5 first7
   else
    evermoreref3_Classes.l10 k count4 n6 q8 (Go.IntKind.i64.wrap (k9 + 1)) d1_0 d1_1 d1_2 d1_3 class3 next5 first7
def evermoreref3_Classes.j22 : Nat → Int → Int → Int → Int → Int → Int → List (List (Int)) → List (Int) → List (Int) → List (Int) → List (Int) → Option (List Int)
 | 0, _, _, _, _, _, _, _, _, _, _, _ => none
 | k + 1, count4, n6, q8, k9, d1_0, d1_1, d1_2, d1_3, class3, next5, first7 =>
  if 0 ≤ q8 then
  if q8 < (↑next5.length : Int) then
   evermoreref3_Classes.l7 k count4 n6 (Go.IntKind.i64.wrap (q8 + 1)) d1_0 d1_1 d1_2 d1_3 class3 (next5.set q8.toNat k9) first7
   else none
  else none
end
def evermoreref3_Classes.f (k : Nat) (d0 : (Int × (Int × (List (List (Int)) × (List (Int) × Unit))))) : Option (List Int) :=
 if Go.Proofs.YtfkilmmldjajmaaSx.fitsIn ([] ++ d0.snd.snd.snd.fst).length 8 = true then
 evermoreref3_Classes.l3 k 0 d0.fst d0.snd.fst d0.snd.snd.fst d0.snd.snd.snd.fst ([] ++ d0.snd.snd.snd.fst)
 else none

mutual
def evermoreref3_Least.l4 : Nat → Int → Int → Int → List (List (Int)) → List (Int) → Int → Int → List (Int) → List (Int) → List (List (Int)) → List (Int) → Option (Int × Int × List (List Int) × List Int)
 | 0, _, _, _, _, _, _, _, _, _, _, _ => none
 | k + 1, i5, d1_0, d1_1, d1_2, d1_3, x2_0, x2_1, class3, number4, c4, c5 =>
  if i5 < (↑number4.length : Int) then
   if 0 ≤ i5 then
   if i5 < (↑number4.length : Int) then
    evermoreref3_Least.l4 k (Go.IntKind.i64.wrap (i5 + 1)) d1_0 d1_1 d1_2 d1_3 x2_0 x2_1 class3 (number4.set i5.toNat (Int.instNegInt.1 1)) c4 c5
    else none
   else none
  else
   if 0 ≤ d1_1 then
   if d1_1 < (↑class3.length : Int) then
    if 0 ≤ class3.getD d1_1.toNat (Int.ofNat 0) then
     if class3.getD d1_1.toNat (Int.ofNat 0) < (↑number4.length : Int) then
      evermoreref3_Least.l11 k 0 d1_0 d1_1 d1_2 d1_3 x2_0 x2_1 class3 (number4.set (class3.getD d1_1.toNat (Int.ofNat 0)).toNat (Int.ofNat 0)) [d1_1] d1_0 0 c4 c5 [] []
      else none
     else none
    else none
   else none
def evermoreref3_Least.l11 : Nat → Int → Int → Int → List (List (Int)) → List (Int) → Int → Int → List (Int) → List (Int) → List (Int) → Int → Int → List (List (Int)) → List (Int) → List (List (Int)) → List (Int) → Option (Int × Int × List (List Int) × List Int)
 | 0, _, _, _, _, _, _, _, _, _, _, _, _, _, _, _, _ => none
 | k + 1, i8, d1_0, d1_1, d1_2, d1_3, x2_0, x2_1, class3, number4, row6, out7_0, out7_1, c6, c7, c8, c9 =>
  if i8 < (↑row6.length : Int) then
   if 0 ≤ d1_0 then
   if d1_0 ≤ d1_0 then
    if d1_0 * ((↑8 : Int) + 1) ≤ 1099511627776 then
     evermoreref3_Least.l15 k i8 0 d1_0 d1_1 d1_2 d1_3 x2_0 x2_1 class3 number4 row6 out7_0 out7_1 (List.replicate d1_0.toNat (Int.ofNat 0)) c6 c7 c8 c9
     else none
    else none
   else none
  else
   some (out7_0, out7_1, c8, c9)
def evermoreref3_Least.l15 : Nat → Int → Int → Int → Int → List (List (Int)) → List (Int) → Int → Int → List (Int) → List (Int) → List (Int) → Int → Int → List (Int) → List (List (Int)) → List (Int) → List (List (Int)) → List (Int) → Option (Int × Int × List (List Int) × List Int)
 | 0, _, _, _, _, _, _, _, _, _, _, _, _, _, _, _, _, _, _ => none
 | k + 1, i8, a10, d1_0, d1_1, d1_2, d1_3, x2_0, x2_1, class3, number4, row6, out7_0, out7_1, next9, c7, c8, c9, c10 =>
  if a10 < d1_0 then
   if 0 ≤ i8 then
   if i8 < (↑row6.length : Int) then
    if 0 ≤ row6.getD i8.toNat (Int.ofNat 0) then
     if row6.getD i8.toNat (Int.ofNat 0) < (↑d1_2.length : Int) then
      if 0 ≤ a10 then
       if a10 < (↑(Go.Proofs.YtfkilmmldjajmaaSx.rd [] d1_2 (row6.getD i8.toNat (Int.ofNat 0))).length : Int) then
        if 0 ≤ Go.Proofs.YtfkilmmldjajmaaSx.rd (Int.ofNat 0) (Go.Proofs.YtfkilmmldjajmaaSx.rd [] d1_2 (row6.getD i8.toNat (Int.ofNat 0))) a10 then
         if Go.Proofs.YtfkilmmldjajmaaSx.rd (Int.ofNat 0) (Go.Proofs.YtfkilmmldjajmaaSx.rd [] d1_2 (row6.getD i8.toNat (Int.ofNat 0))) a10 < (↑class3.length : Int) then
          if 0 ≤ class3.getD (Go.Proofs.YtfkilmmldjajmaaSx.rd (Int.ofNat 0) (Go.Proofs.YtfkilmmldjajmaaSx.rd [] d1_2 (row6.getD i8.toNat (Int.ofNat 0))) a10).toNat (Int.ofNat 0) then
           if class3.getD (Go.Proofs.YtfkilmmldjajmaaSx.rd (Int.ofNat 0) (Go.Proofs.YtfkilmmldjajmaaSx.rd [] d1_2 (row6.getD i8.toNat (Int.ofNat 0))) a10).toNat (Int.ofNat 0) < (↑number4.length : Int) then
            if number4.getD (class3.getD (Go.Proofs.YtfkilmmldjajmaaSx.rd (Int.ofNat 0) (Go.Proofs.YtfkilmmldjajmaaSx.rd [] d1_2 (row6.getD i8.toNat (Int.ofNat 0))) a10).toNat (Int.ofNat 0)).toNat (Int.ofNat 0) < 0 then
              if 0 ≤ Go.Proofs.YtfkilmmldjajmaaSx.rd (Int.ofNat 0) (Go.Proofs.YtfkilmmldjajmaaSx.rd [] d1_2 (row6.getD i8.toNat (Int.ofNat 0))) a10 then
              if Go.Proofs.YtfkilmmldjajmaaSx.rd (Int.ofNat 0) (Go.Proofs.YtfkilmmldjajmaaSx.rd [] d1_2 (row6.getD i8.toNat (Int.ofNat 0))) a10 < (↑class3.length : Int) then
               if 0 ≤ class3.getD (Go.Proofs.YtfkilmmldjajmaaSx.rd (Int.ofNat 0) (Go.Proofs.YtfkilmmldjajmaaSx.rd [] d1_2 (row6.getD i8.toNat (Int.ofNat 0))) a10).toNat (Int.ofNat 0) then
                if class3.getD (Go.Proofs.YtfkilmmldjajmaaSx.rd (Int.ofNat 0) (Go.Proofs.YtfkilmmldjajmaaSx.rd [] d1_2 (row6.getD i8.toNat (Int.ofNat 0))) a10).toNat (Int.ofNat 0) < (↑number4.length : Int) then
                 if Go.Proofs.YtfkilmmldjajmaaSx.fitsIn (row6 ++ [Go.Proofs.YtfkilmmldjajmaaSx.rd (Int.ofNat 0) (Go.Proofs.YtfkilmmldjajmaaSx.rd [] d1_2 (row6.getD i8.toNat (Int.ofNat 0))) a10]).length 8 = true then
                  evermoreref3_Least.j21 k i8 a10 (Go.Proofs.YtfkilmmldjajmaaSx.rd (Int.ofNat 0) (Go.Proofs.YtfkilmmldjajmaaSx.rd [] d1_2 (row6.getD i8.toNat (Int.ofNat 0))) a10) d1_0 d1_1 d1_2 d1_3 x2_0 x2_1 class3 (number4.set (class3.getD (Go.Proofs.YtfkilmmldjajmaaSx.rd (Int.ofNat 0) (Go.Proofs.YtfkilmmldjajmaaSx.rd [] d1_2 (row6.getD i8.toNat (Int.ofNat 0))) a10).toNat (Int.ofNat 0)).toNat (↑row6.length : Int)) (row6 ++ [Go.Proofs.YtfkilmmldjajmaaSx.rd (Int.ofNat 0) (Go.Proofs.YtfkilmmldjajmaaSx.rd [] d1_2 (row6.getD i8.toNat (Int.ofNat 0))) a10]) out7_0 out7_1 next9 c7 c8 c9 c10
                  else none
                 else none
                else none
               else none
              else none
             else
              evermoreref3_Least.j21 k i8 a10 (Go.Proofs.YtfkilmmldjajmaaSx.rd (Int.ofNat 0) (Go.Proofs.YtfkilmmldjajmaaSx.rd [] d1_2 (row6.getD i8.toNat (Int.ofNat 0))) a10) d1_0 d1_1 d1_2 d1_3 x2_0 x2_1 class3 number4 row6 out7_0 out7_1 next9 c7 c8 c9 c10
            else none
           else none
          else none
         else none
        else none
       else none
      else none
     else none
    else none
   else none
  else
   if Go.Proofs.YtfkilmmldjajmaaSx.fitsIn (c9 ++ [next9]).length 8 = true then
   if 0 ≤ i8 then
    if i8 < (↑row6.length : Int) then
     if 0 ≤ row6.getD i8.toNat (Int.ofNat 0) then
      if row6.getD i8.toNat (Int.ofNat 0) < (↑d1_3.length : Int) then
       if Go.Proofs.YtfkilmmldjajmaaSx.fitsIn (c10 ++ [Go.Proofs.YtfkilmmldjajmaaSx.rd (Int.ofNat 0) d1_3 (row6.getD i8.toNat (Int.ofNat 0))]).length 8 = true then
        evermoreref3_Least.l11 k (Go.IntKind.i64.wrap (i8 + 1)) d1_0 d1_1 d1_2 d1_3 x2_0 x2_1 class3 number4 row6 out7_0 out7_1 c7 c8 (c9 ++ [next9]) (c10 ++ [Go.Proofs.YtfkilmmldjajmaaSx.rd (Int.ofNat 0) d1_3 (row6.getD i8.toNat (Int.ofNat 0))])
        else none
       else none
      else none
     else none
    else none
   else none
def evermoreref3_Least.j21 : Nat → Int → Int → Int → Int → Int → List (List (Int)) → List (Int) → Int → Int → List (Int) → List (Int) → List (Int) → Int → Int → List (Int) → List (List (Int)) → List (Int) → List (List (Int)) → List (Int) → Option (Int × Int × List (List Int) × List Int)
 | 0, _, _, _, _, _, _, _, _, _, _, _, _, _, _, _, _, _, _, _ => none
 | k + 1, i8, a10, q11, d1_0, d1_1, d1_2, d1_3, x2_0, x2_1, class3, number4, row6, out7_0, out7_1, next9, c7, c8, c9, c10 =>
  if 0 ≤ q11 then
  if q11 < (↑class3.length : Int) then
   if 0 ≤ class3.getD q11.toNat (Int.ofNat 0) then
    if class3.getD q11.toNat (Int.ofNat 0) < (↑number4.length : Int) then
     if 0 ≤ a10 then
      if a10 < (↑next9.length : Int) then
       evermoreref3_Least.l15 k i8 (Go.IntKind.i64.wrap (a10 + 1)) d1_0 d1_1 d1_2 d1_3 x2_0 x2_1 class3 number4 row6 out7_0 out7_1 (next9.set a10.toNat (number4.getD (class3.getD q11.toNat (Int.ofNat 0)).toNat (Int.ofNat 0))) c7 c8 c9 c10
       else none
      else none
     else none
    else none
   else none
  else none
end
def evermoreref3_Least.f (k : Nat) (d0 : (Int × (Int × (List (List (Int)) × (List (Int) × Unit))))) : Option (Int × Int × List (List Int) × List Int) :=
 (evermoreref3_Classes.f k (d0.fst, d0.snd.fst, d0.snd.snd.fst, d0.snd.snd.snd.fst, ())).bind fun r1 =>
  if 0 ≤ (↑r1.length : Int) then
  if (↑r1.length : Int) ≤ (↑r1.length : Int) then
   if (↑r1.length : Int) * ((↑8 : Int) + 1) ≤ 1099511627776 then
    evermoreref3_Least.l4 k 0 d0.fst d0.snd.fst d0.snd.snd.fst d0.snd.snd.snd.fst 0 0 r1 (List.replicate (↑r1.length : Int).toNat (Int.ofNat 0)) [] []
    else none
   else none
  else none

mutual
def evermoreref3_Check.l9 : Nat → Int → Int → Int → Int → List (List (Int)) → List (Int) → Option (Int)
 | 0, _, _, _, _, _, _ => none
 | k + 1, n3, i4, d1_0, d1_1, d1_2, d1_3 =>
  if i4 < n3 then
   if 0 ≤ i4 then
   if i4 < (↑d1_2.length : Int) then
    if (↑(Go.Proofs.YtfkilmmldjajmaaSx.rd [] d1_2 i4).length : Int) = d1_0 then
      evermoreref3_Check.l9 k n3 (Go.IntKind.i64.wrap (i4 + 1)) d1_0 d1_1 d1_2 d1_3
     else
      some (3)
    else none
   else none
  else
   if d1_1 < 0 then
    some (2)
   else
    if n3 ≤ d1_1 then
     some (2)
    else
     evermoreref3_Check.l16 k n3 0 d1_0 d1_1 d1_2 d1_3
def evermoreref3_Check.l16 : Nat → Int → Int → Int → Int → List (List (Int)) → List (Int) → Option (Int)
 | 0, _, _, _, _, _, _ => none
 | k + 1, n3, i5, d1_0, d1_1, d1_2, d1_3 =>
  if i5 < n3 then
   evermoreref3_Check.l19 k n3 i5 0 d1_0 d1_1 d1_2 d1_3
  else
   evermoreref3_Check.l24 k n3 0 d1_0 d1_1 d1_2 d1_3
def evermoreref3_Check.l19 : Nat → Int → Int → Int → Int → Int → List (List (Int)) → List (Int) → Option (Int)
 | 0, _, _, _, _, _, _, _ => none
 | k + 1, n3, i5, k6, d1_0, d1_1, d1_2, d1_3 =>
  if k6 < d1_0 then
   if 0 ≤ i5 then
   if i5 < (↑d1_2.length : Int) then
    if 0 ≤ k6 then
     if k6 < (↑(Go.Proofs.YtfkilmmldjajmaaSx.rd [] d1_2 i5).length : Int) then
      if Go.Proofs.YtfkilmmldjajmaaSx.rd (Int.ofNat 0) (Go.Proofs.YtfkilmmldjajmaaSx.rd [] d1_2 i5) k6 < 0 then
        some (2)
       else
        if 0 ≤ i5 then
        if i5 < (↑d1_2.length : Int) then
         if 0 ≤ k6 then
          if k6 < (↑(Go.Proofs.YtfkilmmldjajmaaSx.rd [] d1_2 i5).length : Int) then
           if n3 ≤ Go.Proofs.YtfkilmmldjajmaaSx.rd (Int.ofNat 0) (Go.Proofs.YtfkilmmldjajmaaSx.rd [] d1_2 i5) k6 then
             some (2)
            else
             evermoreref3_Check.l19 k n3 i5 (Go.IntKind.i64.wrap (k6 + 1)) d1_0 d1_1 d1_2 d1_3
           else none
          else none
         else none
        else none
      else none
     else none
    else none
   else none
  else
   evermoreref3_Check.l16 k n3 (Go.IntKind.i64.wrap (i5 + 1)) d1_0 d1_1 d1_2 d1_3
def evermoreref3_Check.l24 : Nat → Int → Int → Int → Int → List (List (Int)) → List (Int) → Option (Int)
 | 0, _, _, _, _, _, _ => none
 | k + 1, n3, i7, d1_0, d1_1, d1_2, d1_3 =>
  if i7 < n3 then
   if 0 ≤ i7 then
   if i7 < (↑d1_3.length : Int) then
    if Go.Proofs.YtfkilmmldjajmaaSx.rd (Int.ofNat 0) d1_3 i7 = 0 then
      evermoreref3_Check.l24 k n3 (Go.IntKind.i64.wrap (i7 + 1)) d1_0 d1_1 d1_2 d1_3
     else
      if 0 ≤ i7 then
      if i7 < (↑d1_3.length : Int) then
       if Go.Proofs.YtfkilmmldjajmaaSx.rd (Int.ofNat 0) d1_3 i7 = 1 then
         evermoreref3_Check.l24 k n3 (Go.IntKind.i64.wrap (i7 + 1)) d1_0 d1_1 d1_2 d1_3
        else
         some (2)
       else none
      else none
    else none
   else none
  else
   some (0)
end
def evermoreref3_Check.f (k : Nat) (d0 : (Int × (Int × (List (List (Int)) × (List (Int) × Unit))))) : Option (Int) :=
 if d0.fst < 1 then
  some (2)
 else
  if 4 < d0.fst then
   some (2)
  else
   if (↑d0.snd.snd.fst.length : Int) < 1 then
    some (1)
   else
    if 3000 < (↑d0.snd.snd.fst.length : Int) then
     some (1)
    else
     if (↑d0.snd.snd.snd.fst.length : Int) = (↑d0.snd.snd.fst.length : Int) then
      evermoreref3_Check.l9 k ((↑d0.snd.snd.fst.length : Int)) 0 d0.fst d0.snd.fst d0.snd.snd.fst d0.snd.snd.snd.fst
     else
      some (3)

end Go.Proofs.YtfkilmmldjajmaaSx
namespace Go.Proofs.YtfkilmmldjajmaaSx.DC
def bad (N : Int) (b : Int) : Bool := decide (b < 0) || decide (N ≤ b)
def badW (B : Int) (w : List Int) : Bool := !decide ((w.length : Int) = B)
def badM (m : Int) : Bool := !(decide (m = 0) || decide (m = 1))
/-- An automaton that may be. -/
structure Fit (A s : Int) (N : List (List Int)) (M : List Int) : Prop where
  a1 : 1 ≤ A
  a4 : A ≤ 4
  n1 : 1 ≤ N.length
  n3 : N.length ≤ 4000
  m : M.length = N.length
  row : ∀ q, q < N.length → ((N.getD q []).length : Int) = A
  s : 0 ≤ s ∧ s < (N.length : Int)
  ent : ∀ q, q < N.length → ∀ a : Nat, (a : Int) < A → 0 ≤ (N.getD q []).getD a 0 ∧ (N.getD q []).getD a 0 < (N.length : Int)
  mark : ∀ q, q < N.length → M.getD q 0 = 0 ∨ M.getD q 0 = 1

theorem idx1 (A s : Int) (N' : List (List Int)) (M : List Int) (N : List (List Int)) (hN : N.length ≤ 3000) : ∀ n i, N.length - i = n → i ≤ N.length →
    ∃ r, Ev (fun k => Sf0.l2 k N (N.length : Int) (i : Int) A s N' M) (r, A, s, N', M) ∧ decide (0 ≤ r) = (N.drop i).any (badW A) := by
  intro n
  induction n with
  | zero =>
    intro i hn hi
    refine ⟨-1, Ev.step (h := fun _ => some (-1, A, s, N', M)) (fun k => ?_) (Ev.now _), ?_⟩
    · rw [Sf0.l2, if_neg (by omega)]
    · rw [List.drop_eq_nil_of_le (by omega)]; rfl
  | succ n ih =>
    intro i hn hi
    obtain ⟨r, h1, h2⟩ := ih (i + 1) (by omega) (by omega)
    by_cases hb : badW A (N.getD i []) = true
    · refine ⟨i, Ev.step (h := fun _ => some ((i : Int), A, s, N', M)) (fun k => ?_) (Ev.now _), ?_⟩
      · rw [Sf0.l2, if_pos (by omega), if_pos (by omega), if_pos (by omega), det_Check_1.f, rd_nat, Option.bind_some]
        rw [badW] at hb; simp only [hb, if_true]
      · rw [drop_getD [] N i (by omega), List.any_cons, hb, Bool.true_or, decide_eq_true (by omega)]
    · refine ⟨r, Ev.step (h := fun k => Sf0.l2 k N (N.length : Int) ((i + 1 : Nat) : Int) A s N' M) (fun k => ?_) h1, ?_⟩
      · rw [Sf0.l2, if_pos (by omega), if_pos (by omega), if_pos (by omega), det_Check_1.f, rd_nat, Option.bind_some, wrSucc i (by omega)]
        rw [Bool.not_eq_true, badW] at hb; simp only [hb, Bool.false_eq_true, if_false]
      · rw [drop_getD [] N i (by omega), List.any_cons, h2, show badW A (N.getD i []) = false from (Bool.not_eq_true _).mp hb, Bool.false_or]
theorem con1 (A s : Int) (N' : List (List Int)) (M : List Int) (N : List (List Int)) (hN : N.length ≤ 3000) :
    Ev (fun k => Sf1.f k N A s N' M) (N.any (badW A), A, s, N', M) := by
  obtain ⟨r, h1, h2⟩ := idx1 A s N' M N hN _ 0 rfl (by omega)
  rw [List.drop_zero] at h2
  refine (Ev.bind (g := fun k => Sf0.f k N A s N' M) (x := (r, A, s, N', M)) (h := fun k r1 => some (decide (0 ≤ r1.fst), r1.snd.fst, r1.snd.snd.fst, r1.snd.snd.snd.fst, r1.snd.snd.snd.snd)) h1 (Ev.now _)).cast ?_
  exact congrArg (fun b => (b, A, s, N', M)) h2

theorem check2 (k : Nat) (b n : Int) : det_Check_2.f k b n = some (bad n b, n) := by
  rw [det_Check_2.f, bad]
  by_cases h : b < 0
  · rw [if_pos h]; simp [h]
  · rw [if_neg h]; simp [h]
theorem idx2 (n0 : Int) (w : List Int) (hw : w.length ≤ 10000) : ∀ n i, w.length - i = n → i ≤ w.length →
    ∃ r, Ev (fun k => Sf2.l2 k w (w.length : Int) (i : Int) n0) (r, n0) ∧ decide (0 ≤ r) = (w.drop i).any (bad n0) := by
  intro n
  induction n with
  | zero =>
    intro i hn hi
    refine ⟨-1, Ev.step (h := fun _ => some (-1, n0)) (fun k => ?_) (Ev.now _), ?_⟩
    · rw [Sf2.l2, if_neg (by omega)]
    · rw [List.drop_eq_nil_of_le (by omega)]; rfl
  | succ n ih =>
    intro i hn hi
    obtain ⟨r, h1, h2⟩ := ih (i + 1) (by omega) (by omega)
    by_cases hb : bad n0 (w.getD i (Int.ofNat 0)) = true
    · refine ⟨i, Ev.step (h := fun _ => some ((i : Int), n0)) (fun k => ?_) (Ev.now _), ?_⟩
      · rw [Sf2.l2, if_pos (by omega), if_pos (by omega), if_pos (by omega), check2, rd_nat, Option.bind_some]
        simp only [hb, if_true]
      · rw [drop_getD (Int.ofNat 0) w i (by omega), List.any_cons, hb, Bool.true_or, decide_eq_true (by omega)]
    · refine ⟨r, Ev.step (h := fun k => Sf2.l2 k w (w.length : Int) ((i + 1 : Nat) : Int) n0) (fun k => ?_) h1, ?_⟩
      · rw [Sf2.l2, if_pos (by omega), if_pos (by omega), if_pos (by omega), check2, rd_nat, Option.bind_some, wrSucc i (by omega)]
        simp only [hb]; rfl
      · rw [drop_getD (Int.ofNat 0) w i (by omega), List.any_cons, h2, show bad n0 (w.getD i (Int.ofNat 0)) = false from (Bool.not_eq_true _).mp hb, Bool.false_or]
theorem con2 (n0 : Int) (w : List Int) (hw : w.length ≤ 10000) : Ev (fun k => Sf3.f k w n0) (w.any (bad n0), n0) := by
  obtain ⟨r, h1, h2⟩ := idx2 n0 w hw _ 0 rfl (by omega)
  rw [List.drop_zero] at h2
  refine (Ev.bind (g := fun k => Sf2.f k w n0) (x := (r, n0)) (h := fun k r1 => some (decide (0 ≤ r1.fst), r1.snd)) h1 (Ev.now _)).cast ?_
  exact congrArg (fun b => (b, n0)) h2
theorem check3 (n0 : Int) (w : List Int) (hw : w.length ≤ 10000) : Ev (fun k => det_Check_3.f k w n0) (w.any (bad n0), n0) := by
  show Ev (fun k => (Sf3.f k w n0).bind fun r1 => some (r1.fst, r1.snd)) _
  exact Ev.bind (x := (w.any (bad n0), n0)) (con2 n0 w hw) (Ev.now _)
theorem idx3 (n0 : Int) (N : List (List Int)) (hN : N.length ≤ 3000) (hw : ∀ q, q < N.length → (N.getD q []).length ≤ 10000) : ∀ n i, N.length - i = n → i ≤ N.length →
    ∃ r, Ev (fun k => Sf4.l2 k N (N.length : Int) (i : Int) n0) (r, n0) ∧ decide (0 ≤ r) = (N.drop i).any (fun w => w.any (bad n0)) := by
  intro n
  induction n with
  | zero =>
    intro i hn hi
    refine ⟨-1, Ev.step (h := fun _ => some (-1, n0)) (fun k => ?_) (Ev.now _), ?_⟩
    · rw [Sf4.l2, if_neg (by omega)]
    · rw [List.drop_eq_nil_of_le (by omega)]; rfl
  | succ n ih =>
    intro i hn hi
    obtain ⟨r, h1, h2⟩ := ih (i + 1) (by omega) (by omega)
    have c3 := check3 n0 (N.getD i []) (hw i (by omega))
    by_cases hb : (N.getD i []).any (bad n0) = true
    · refine ⟨i, Ev.step (h := fun k => (det_Check_3.f k (N.getD i []) n0).bind fun r5 => if r5.fst = true then some ((i : Int), r5.snd) else Sf4.l2 k N (N.length : Int) ((i + 1 : Nat) : Int) r5.snd) (fun k => ?_) (Ev.bind c3 ?_), ?_⟩
      · rw [Sf4.l2, if_pos (by omega), if_pos (by omega), if_pos (by omega), rd_nat, wrSucc i (by omega)]
      · simp only [hb, if_true]; exact Ev.now _
      · rw [drop_getD [] N i (by omega), List.any_cons, hb, Bool.true_or, decide_eq_true (by omega)]
    · refine ⟨r, Ev.step (h := fun k => (det_Check_3.f k (N.getD i []) n0).bind fun r5 => if r5.fst = true then some ((i : Int), r5.snd) else Sf4.l2 k N (N.length : Int) ((i + 1 : Nat) : Int) r5.snd) (fun k => ?_) (Ev.bind c3 ?_), ?_⟩
      · rw [Sf4.l2, if_pos (by omega), if_pos (by omega), if_pos (by omega), rd_nat, wrSucc i (by omega)]
      · simp only [if_neg hb]; exact h1
      · rw [drop_getD [] N i (by omega), List.any_cons, h2, show (N.getD i []).any (bad n0) = false from (Bool.not_eq_true _).mp hb, Bool.false_or]
theorem con3 (n0 : Int) (N : List (List Int)) (hN : N.length ≤ 3000) (hw : ∀ q, q < N.length → (N.getD q []).length ≤ 10000) : Ev (fun k => Sf5.f k N n0) (N.any (fun w => w.any (bad n0)), n0) := by
  obtain ⟨r, h1, h2⟩ := idx3 n0 N hN hw _ 0 rfl (by omega)
  rw [List.drop_zero] at h2
  refine (Ev.bind (g := fun k => Sf4.f k N n0) (x := (r, n0)) (h := fun k r1 => some (decide (0 ≤ r1.fst), r1.snd)) h1 (Ev.now _)).cast ?_
  exact congrArg (fun b => (b, n0)) h2
theorem check4 (k : Nat) (m : Int) : det_Check_4.f k m = some (badM m) := by
  rw [det_Check_4.f, badM]
  by_cases h : m = 0
  · rw [if_pos h]; simp [h]
  · rw [if_neg h]; simp [h]
theorem idx4 (w : List Int) (hw : w.length ≤ 3000) : ∀ n i, w.length - i = n → i ≤ w.length →
    ∃ r, Ev (fun k => Sf6.l2 k w (w.length : Int) (i : Int)) r ∧ decide (0 ≤ r) = (w.drop i).any badM := by
  intro n
  induction n with
  | zero =>
    intro i hn hi
    refine ⟨-1, Ev.step (h := fun _ => some (-1)) (fun k => ?_) (Ev.now _), ?_⟩
    · rw [Sf6.l2, if_neg (by omega)]
    · rw [List.drop_eq_nil_of_le (by omega)]; rfl
  | succ n ih =>
    intro i hn hi
    obtain ⟨r, h1, h2⟩ := ih (i + 1) (by omega) (by omega)
    by_cases hb : badM (w.getD i (Int.ofNat 0)) = true
    · refine ⟨i, Ev.step (h := fun _ => some (i : Int)) (fun k => ?_) (Ev.now _), ?_⟩
      · rw [Sf6.l2, if_pos (by omega), if_pos (by omega), if_pos (by omega), check4, rd_nat, Option.bind_some, if_pos hb]
      · rw [drop_getD (Int.ofNat 0) w i (by omega), List.any_cons, hb, Bool.true_or, decide_eq_true (by omega)]
    · refine ⟨r, Ev.step (h := fun k => Sf6.l2 k w (w.length : Int) ((i + 1 : Nat) : Int)) (fun k => ?_) h1, ?_⟩
      · rw [Sf6.l2, if_pos (by omega), if_pos (by omega), if_pos (by omega), check4, rd_nat, Option.bind_some, wrSucc i (by omega), if_neg hb]
      · rw [drop_getD (Int.ofNat 0) w i (by omega), List.any_cons, h2, show badM (w.getD i (Int.ofNat 0)) = false from (Bool.not_eq_true _).mp hb, Bool.false_or]
theorem con4 (w : List Int) (hw : w.length ≤ 3000) : Ev (fun k => Sf7.f k w) (w.any badM) := by
  obtain ⟨r, h1, h2⟩ := idx4 w hw _ 0 rfl (by omega)
  rw [List.drop_zero] at h2
  refine (Ev.bind (g := fun k => Sf6.f k w) (x := r) (h := fun k r1 => some (decide (0 ≤ r1))) h1 (Ev.now _)).cast ?_
  exact h2
end Go.Proofs.YtfkilmmldjajmaaSx.DC
namespace Go.Proofs.YtfkilmmldjajmaaSx.DC
variable {A s : Int} {N : List (List Int)} {M : List Int}
theorem r24 (hN : N.length ≤ 3000) (hM : M.length = N.length) : ∀ n i, N.length - i = n → i ≤ N.length → Ev (fun k => evermoreref3_Check.l24 k (N.length : Int) (i : Int) A s N M) (if (M.drop i).any badM = true then 2 else 0) := by
  intro n
  induction n with
  | zero =>
    intro i hn hi
    rw [List.drop_eq_nil_of_le (by omega)]
    refine Ev.step (h := fun _ => some 0) (fun k => ?_) (Ev.now _)
    rw [evermoreref3_Check.l24, if_neg (by omega)]
  | succ n ih =>
    intro i hn hi
    have h1 := ih (i + 1) (by omega) (by omega)
    rw [drop_getD (Int.ofNat 0) M i (by omega), List.any_cons]
    by_cases c0 : M.getD i (Int.ofNat 0) = 0
    · rw [show badM (M.getD i (Int.ofNat 0)) = false by rw [badM, decide_eq_true c0]; rfl, Bool.false_or]
      refine Ev.step (h := fun k => evermoreref3_Check.l24 k (N.length : Int) ((i + 1 : Nat) : Int) A s N M) (fun k => ?_) h1
      rw [evermoreref3_Check.l24, if_pos (by omega), if_pos (by omega), if_pos (by omega), rd_nat, if_pos c0, wrSucc i (by omega)]
    · by_cases c1 : M.getD i (Int.ofNat 0) = 1
      · rw [show badM (M.getD i (Int.ofNat 0)) = false by rw [badM, decide_eq_true c1, Bool.or_true]; rfl, Bool.false_or]
        refine Ev.step (h := fun k => evermoreref3_Check.l24 k (N.length : Int) ((i + 1 : Nat) : Int) A s N M) (fun k => ?_) h1
        rw [evermoreref3_Check.l24, if_pos (by omega), if_pos (by omega), if_pos (by omega), rd_nat, if_neg c0, if_pos (by omega), if_pos (by omega), if_pos c1, wrSucc i (by omega)]
      · rw [show badM (M.getD i (Int.ofNat 0)) = true by rw [badM, decide_eq_false c1, decide_eq_false c0]; rfl, Bool.true_or, if_pos rfl]
        refine Ev.step (h := fun _ => some 2) (fun k => ?_) (Ev.now _)
        rw [evermoreref3_Check.l24, if_pos (by omega), if_pos (by omega), if_pos (by omega), rd_nat, if_neg c0, if_pos (by omega), if_pos (by omega), if_neg c1]

theorem r19 (hN : N.length ≤ 3000) (hA : A ≤ 4) (q : Nat) (hq : q < N.length) (hrow : ((N.getD q []).length : Int) = A) : ∀ n a, (N.getD q []).length - a = n → a ≤ (N.getD q []).length →
    (((N.getD q []).drop a).any (bad (N.length : Int)) = true → Ev (fun k => evermoreref3_Check.l19 k (N.length : Int) (q : Int) (a : Int) A s N M) 2) ∧
    (((N.getD q []).drop a).any (bad (N.length : Int)) = false → ∀ e, Ev (fun k => evermoreref3_Check.l16 k (N.length : Int) ((q + 1 : Nat) : Int) A s N M) e → Ev (fun k => evermoreref3_Check.l19 k (N.length : Int) (q : Int) (a : Int) A s N M) e) := by
  intro n
  induction n with
  | zero =>
    intro a hn ha
    rw [List.drop_eq_nil_of_le (by omega)]
    refine ⟨fun h => by simp at h, fun _ e he => Ev.step (fun k => ?_) he⟩
    rw [evermoreref3_Check.l19, if_neg (by omega), wrSucc q (by omega)]
  | succ n ih =>
    intro a hn ha
    obtain ⟨h1, h2⟩ := ih (a + 1) (by omega) (by omega)
    rw [drop_getD (Int.ofNat 0) (N.getD q []) a (by omega), List.any_cons]
    by_cases c0 : (N.getD q []).getD a (Int.ofNat 0) < 0
    · rw [show bad (N.length : Int) ((N.getD q []).getD a (Int.ofNat 0)) = true by rw [bad, decide_eq_true c0]; rfl, Bool.true_or]
      refine ⟨fun _ => Ev.step (h := fun _ => some 2) (fun k => ?_) (Ev.now _), fun h => by simp at h⟩
      rw [evermoreref3_Check.l19, if_pos (by omega), if_pos (by omega), if_pos (by omega), if_pos (by omega), rd_nat, if_pos (by omega), rd_nat, if_pos c0]
    · by_cases c1 : (N.length : Int) ≤ (N.getD q []).getD a (Int.ofNat 0)
      · rw [show bad (N.length : Int) ((N.getD q []).getD a (Int.ofNat 0)) = true by rw [bad, decide_eq_true c1, Bool.or_true], Bool.true_or]
        refine ⟨fun _ => Ev.step (h := fun _ => some 2) (fun k => ?_) (Ev.now _), fun h => by simp at h⟩
        rw [evermoreref3_Check.l19, if_pos (by omega), if_pos (by omega), if_pos (by omega), if_pos (by omega), rd_nat, if_pos (by omega), rd_nat, if_neg c0, if_pos (by omega), if_pos (by omega), if_pos (by omega), if_pos (by omega), if_pos c1]
      · rw [show bad (N.length : Int) ((N.getD q []).getD a (Int.ofNat 0)) = false by rw [bad, decide_eq_false c1, decide_eq_false c0]; rfl, Bool.false_or]
        refine ⟨fun h => Ev.step (fun k => ?_) (h1 h), fun h e he => Ev.step (fun k => ?_) (h2 h e he)⟩
        · rw [evermoreref3_Check.l19, if_pos (by omega), if_pos (by omega), if_pos (by omega), if_pos (by omega), rd_nat, if_pos (by omega), rd_nat, if_neg c0, if_pos (by omega), if_pos (by omega), if_pos (by omega), if_pos (by omega), if_neg c1, wrSucc a (by omega)]
        · rw [evermoreref3_Check.l19, if_pos (by omega), if_pos (by omega), if_pos (by omega), if_pos (by omega), rd_nat, if_pos (by omega), rd_nat, if_neg c0, if_pos (by omega), if_pos (by omega), if_pos (by omega), if_pos (by omega), if_neg c1, wrSucc a (by omega)]

theorem r16 (hN : N.length ≤ 3000) (hA : A ≤ 4) (hrow : ∀ q, q < N.length → ((N.getD q []).length : Int) = A) : ∀ n q, N.length - q = n → q ≤ N.length →
    ((N.drop q).any (fun w => w.any (bad (N.length : Int))) = true → Ev (fun k => evermoreref3_Check.l16 k (N.length : Int) (q : Int) A s N M) 2) ∧
    ((N.drop q).any (fun w => w.any (bad (N.length : Int))) = false → ∀ e, Ev (fun k => evermoreref3_Check.l24 k (N.length : Int) 0 A s N M) e → Ev (fun k => evermoreref3_Check.l16 k (N.length : Int) (q : Int) A s N M) e) := by
  intro n
  induction n with
  | zero =>
    intro q hn hq
    rw [List.drop_eq_nil_of_le (by omega)]
    refine ⟨fun h => by simp at h, fun _ e he => Ev.step (fun k => ?_) he⟩
    rw [evermoreref3_Check.l16, if_neg (by omega)]
  | succ n ih =>
    intro q hn hq
    obtain ⟨h1, h2⟩ := ih (q + 1) (by omega) (by omega)
    have R := r19 (M := M) (s := s) hN hA q (by omega) (hrow q (by omega)) _ 0 rfl (by omega)
    rw [List.drop_zero] at R
    rw [drop_getD [] N q (by omega), List.any_cons]
    by_cases hb : (N.getD q []).any (bad (N.length : Int)) = true
    · rw [hb, Bool.true_or]
      refine ⟨fun _ => Ev.step (fun k => ?_) (R.1 hb), fun h => by simp at h⟩
      rw [evermoreref3_Check.l16, if_pos (by omega)]; rfl
    · have hb' := (Bool.not_eq_true _).mp hb
      rw [hb', Bool.false_or]
      refine ⟨fun h => Ev.step (fun k => ?_) (R.2 hb' 2 (h1 h)), fun h e he => Ev.step (fun k => ?_) (R.2 hb' e (h2 h e he))⟩
      · rw [evermoreref3_Check.l16, if_pos (by omega)]; rfl
      · rw [evermoreref3_Check.l16, if_pos (by omega)]; rfl

theorem r9 (hN : N.length ≤ 3000) : ∀ n q, N.length - q = n → q ≤ N.length →
    ((N.drop q).any (badW A) = true → Ev (fun k => evermoreref3_Check.l9 k (N.length : Int) (q : Int) A s N M) 3) ∧
    ((N.drop q).any (badW A) = false → ∀ e, Ev (fun k => if s < 0 then some 2 else if (N.length : Int) ≤ s then some 2 else evermoreref3_Check.l16 k (N.length : Int) 0 A s N M) e → Ev (fun k => evermoreref3_Check.l9 k (N.length : Int) (q : Int) A s N M) e) := by
  intro n
  induction n with
  | zero =>
    intro q hn hq
    rw [List.drop_eq_nil_of_le (by omega)]
    refine ⟨fun h => by simp at h, fun _ e he => Ev.step (fun k => ?_) he⟩
    rw [evermoreref3_Check.l9, if_neg (by omega)]
  | succ n ih =>
    intro q hn hq
    obtain ⟨h1, h2⟩ := ih (q + 1) (by omega) (by omega)
    rw [drop_getD [] N q (by omega), List.any_cons]
    by_cases hb : ((N.getD q []).length : Int) = A
    · rw [show badW A (N.getD q []) = false by rw [badW, decide_eq_true hb]; rfl, Bool.false_or]
      refine ⟨fun h => Ev.step (fun k => ?_) (h1 h), fun h e he => Ev.step (fun k => ?_) (h2 h e he)⟩
      · rw [evermoreref3_Check.l9, if_pos (by omega), if_pos (by omega), if_pos (by omega), rd_nat, if_pos hb, wrSucc q (by omega)]
      · rw [evermoreref3_Check.l9, if_pos (by omega), if_pos (by omega), if_pos (by omega), rd_nat, if_pos hb, wrSucc q (by omega)]
    · rw [show badW A (N.getD q []) = true by rw [badW, decide_eq_false hb]; rfl, Bool.true_or]
      refine ⟨fun _ => Ev.step (h := fun _ => some 3) (fun k => ?_) (Ev.now _), fun h => by simp at h⟩
      rw [evermoreref3_Check.l9, if_pos (by omega), if_pos (by omega), if_pos (by omega), rd_nat, if_neg hb]

theorem any_at {α : Type} (d : α) (f : α → Bool) (w : List α) (h : w.any f = false) (j : Nat) (hj : j < w.length) : f (w.getD j d) = false := by
  rw [List.any_eq_false] at h
  have : w.getD j d ∈ w := by rw [List.getD_eq_getElem?_getD, List.getElem?_eq_getElem hj]; exact List.getElem_mem hj
  exact (Bool.not_eq_true _).mp (h _ this)
theorem bad_false {N b : Int} (h : bad N b = false) : 0 ≤ b ∧ b < N := by
  rw [bad, Bool.or_eq_false_iff, decide_eq_false_iff_not, decide_eq_false_iff_not] at h; omega

/-- Both say the same of an automaton. -/
theorem check_ev (A s : Int) (N : List (List Int)) (M : List Int) : ∃ e, Ev (fun k => det_Check.f k (A, s, N, M, ())) e ∧ Ev (fun k => evermoreref3_Check.f k (A, s, N, M, ())) e ∧ (e = 0 → Fit A s N M) := by
  by_cases h1 : A < 1
  · exact ⟨2, .all fun k => by rw [det_Check.f, if_pos h1], .all fun k => by rw [evermoreref3_Check.f, if_pos h1], fun h => absurd h (by decide)⟩
  by_cases h2 : 4 < A
  · exact ⟨2, .all fun k => by rw [det_Check.f, if_neg h1, if_pos h2], .all fun k => by rw [evermoreref3_Check.f, if_neg h1, if_pos h2], fun h => absurd h (by decide)⟩
  by_cases h3 : (N.length : Int) < 1
  · exact ⟨1, .all fun k => by rw [det_Check.f, if_neg h1, if_neg h2, if_pos h3], .all fun k => by rw [evermoreref3_Check.f, if_neg h1, if_neg h2, if_pos h3], fun h => absurd h (by decide)⟩
  by_cases h4 : 3000 < (N.length : Int)
  · exact ⟨1, .all fun k => by rw [det_Check.f, if_neg h1, if_neg h2, if_neg h3, if_pos h4], .all fun k => by rw [evermoreref3_Check.f, if_neg h1, if_neg h2, if_neg h3, if_pos h4], fun h => absurd h (by decide)⟩
  by_cases h5 : ¬ (M.length : Int) = (N.length : Int)
  · exact ⟨3, .all fun k => by rw [det_Check.f, if_neg h1, if_neg h2, if_neg h3, if_neg h4, if_neg h5], .all fun k => by rw [evermoreref3_Check.f, if_neg h1, if_neg h2, if_neg h3, if_neg h4, if_neg h5], fun h => absurd h (by decide)⟩
  have h5 := Decidable.not_not.1 h5
  have hN : N.length ≤ 3000 := by omega
  have R9 := r9 (A := A) (s := s) (M := M) hN _ 0 rfl (by omega)
  rw [List.drop_zero] at R9
  have C1 := con1 A s N M N hN
  by_cases hb : N.any (badW A) = true
  · refine ⟨3, ?_, ?_, fun h => absurd h (by decide)⟩
    · simp only [det_Check.f, if_neg h1, if_neg h2, if_neg h3, if_neg h4, if_pos h5]
      refine Ev.bind C1 ?_
      simp only [if_pos hb]; exact Ev.now _
    · simp only [evermoreref3_Check.f, if_neg h1, if_neg h2, if_neg h3, if_neg h4, if_pos h5]
      exact R9.1 hb
  have hb' := (Bool.not_eq_true _).mp hb
  have hrow : ∀ q, q < N.length → ((N.getD q []).length : Int) = A := by
    intro q hq
    have := any_at [] _ _ hb' q hq
    rw [badW, Bool.not_eq_false', decide_eq_true_iff] at this; exact this
  by_cases hs : bad (N.length : Int) s = true
  · refine ⟨2, ?_, ?_, fun h => absurd h (by decide)⟩
    · simp only [det_Check.f, if_neg h1, if_neg h2, if_neg h3, if_neg h4, if_pos h5]
      refine Ev.bind C1 ?_
      simp only [if_neg hb]
      refine Ev.bind (.all fun k => check2 k s _) ?_
      simp only [if_pos hs]; exact Ev.now _
    · simp only [evermoreref3_Check.f, if_neg h1, if_neg h2, if_neg h3, if_neg h4, if_pos h5]
      refine R9.2 hb' 2 ?_
      rw [bad, Bool.or_eq_true, decide_eq_true_iff, decide_eq_true_iff] at hs
      by_cases c0 : s < 0
      · simp only [if_pos c0]; exact Ev.now _
      · have c1 : (N.length : Int) ≤ s := hs.resolve_left c0
        simp only [if_neg c0, if_pos c1]; exact Ev.now _
  have hs' := bad_false ((Bool.not_eq_true _).mp hs)
  have hs0 : ¬ s < 0 := by omega
  have hs1 : ¬ (N.length : Int) ≤ s := by omega
  have C3 := con3 (N.length : Int) N hN (fun q hq => by have := hrow q hq; omega)
  have R16 := r16 (s := s) (M := M) hN (by omega) hrow _ 0 rfl (by omega)
  rw [List.drop_zero] at R16
  by_cases he : N.any (fun w => w.any (bad (N.length : Int))) = true
  · refine ⟨2, ?_, ?_, fun h => absurd h (by decide)⟩
    · simp only [det_Check.f, if_neg h1, if_neg h2, if_neg h3, if_neg h4, if_pos h5]
      refine Ev.bind C1 ?_
      simp only [if_neg hb]
      refine Ev.bind (.all fun k => check2 k s _) ?_
      simp only [if_neg hs]
      refine Ev.bind C3 ?_
      simp only [if_pos he]; exact Ev.now _
    · simp only [evermoreref3_Check.f, if_neg h1, if_neg h2, if_neg h3, if_neg h4, if_pos h5]
      refine R9.2 hb' 2 ?_
      simp only [if_neg hs0, if_neg hs1]
      exact R16.1 he
  have he' := (Bool.not_eq_true _).mp he
  have C4 := con4 M (by omega)
  have R24 := r24 (A := A) (s := s) hN (show M.length = N.length by omega) _ 0 rfl (by omega)
  rw [List.drop_zero] at R24
  refine ⟨if M.any badM = true then 2 else 0, ?_, ?_, fun h => ?_⟩
  · simp only [det_Check.f, if_neg h1, if_neg h2, if_neg h3, if_neg h4, if_pos h5]
    refine Ev.bind C1 ?_
    simp only [if_neg hb]
    refine Ev.bind (.all fun k => check2 k s _) ?_
    simp only [if_neg hs]
    refine Ev.bind C3 ?_
    simp only [if_neg he]
    refine Ev.bind C4 ?_
    by_cases hm : M.any badM = true
    · simp only [if_pos hm]; exact Ev.now _
    · simp only [if_neg hm]; exact Ev.now _
  · simp only [evermoreref3_Check.f, if_neg h1, if_neg h2, if_neg h3, if_neg h4, if_pos h5]
    refine R9.2 hb' _ ?_
    simp only [if_neg hs0, if_neg hs1]
    exact R16.2 he' _ R24
  · by_cases hm : M.any badM = true
    · rw [if_pos hm] at h; exact absurd h (by decide)
    · have hm' := (Bool.not_eq_true _).mp hm
      refine ⟨by omega, by omega, by omega, (by omega : N.length ≤ 4000), by omega, hrow, hs', fun q hq a ha => ?_, fun q hq => ?_⟩
      · have := any_at [] _ _ he' q hq
        have hr := hrow q hq
        exact bad_false (any_at 0 _ _ this a (by omega))
      · have := any_at 0 _ _ hm' q (by omega)
        rw [badM, Bool.not_eq_false', Bool.or_eq_true, decide_eq_true_iff, decide_eq_true_iff] at this
        exact this
end Go.Proofs.YtfkilmmldjajmaaSx.DC
namespace Go.Proofs.YtfkilmmldjajmaaSx.DC
/-! Keys: two bytes a number. -/
def encB (x : Int) : List Int := [IntKind.u8.wrap x, IntKind.u8.wrap (x.fdiv (2 ^ min (Int.toNat 8) IntKind.i64.bits))]
theorem strOf_data (L : List Int) : ∀ r : ByteArray, (L.foldl (fun r n => r.push (UInt8.ofNat n.toNat)) r).data.toList = r.data.toList ++ L.map fun n => UInt8.ofNat n.toNat := by
  induction L with
  | nil => intro r; simp
  | cons a L ih => intro r; rw [List.foldl_cons, ih]; simp [ByteArray.push]
theorem wrap_u8 (x : Int) : IntKind.u8.wrap x = x % 256 := by
  simp [IntKind.wrap, IntKind.signed, IntKind.bits]
theorem enc_eq (x : Int) : encB x = [x % 256, (x / 256) % 256] := by
  have e : (2 : Int) ^ min (Int.toNat 8) IntKind.i64.bits = 256 := by decide
  rw [encB, wrap_u8, wrap_u8, e, Int.fdiv_eq_ediv_of_nonneg _ (by decide)]
theorem enc_inj : ∀ u v : List Int, u.length = v.length → (∀ x ∈ u, 0 ≤ x ∧ x < 65536) → (∀ x ∈ v, 0 ≤ x ∧ x < 65536) → (u.flatMap encB).map (fun n => UInt8.ofNat n.toNat) = (v.flatMap encB).map (fun n => UInt8.ofNat n.toNat) → u = v := by
  intro u
  induction u with
  | nil => intro v h _ _ _; cases v with
    | nil => rfl
    | cons => simp at h
  | cons a u ih =>
    intro v h hu hv e
    cases v with
    | nil => simp at h
    | cons b v =>
      have ha := hu a List.mem_cons_self
      have hb := hv b List.mem_cons_self
      rw [List.flatMap_cons, List.flatMap_cons, List.map_append, List.map_append, enc_eq, enc_eq] at e
      simp only [List.map_cons, List.map_nil, List.cons_append, List.nil_append, List.cons.injEq] at e
      have e1 := congrArg UInt8.toNat e.1
      have e2 := congrArg UInt8.toNat e.2.1
      have e3 := ih v (by simpa using h) (fun x hx => hu x (List.mem_cons_of_mem _ hx)) (fun x hx => hv x (List.mem_cons_of_mem _ hx)) e.2.2
      have t : ∀ n : Nat, n < 256 → (UInt8.ofNat n).toNat = n := by intro n hn; simp; omega
      rw [t _ (by omega), t _ (by omega)] at e1
      rw [t _ (by omega), t _ (by omega)] at e2
      rw [e3, show a = b by omega]
def text (u : List Int) : ByteArray := strOf (u.flatMap encB)
theorem text_inj {u v : List Int} (h : u.length = v.length) (hu : ∀ x ∈ u, 0 ≤ x ∧ x < 65536) (hv : ∀ x ∈ v, 0 ≤ x ∧ x < 65536) : text u = text v ↔ u = v := by
  refine ⟨fun e => enc_inj u v h hu hv ?_, fun e => e ▸ rfl⟩
  have e1 := congrArg (fun b : ByteArray => b.data.toList) e
  simp only [text, strOf, strOf_data] at e1
  simpa using e1

/-! Maps from keys to numbers in the order of their coming. -/
section
variable {α : Type} {K : Ty} (key : α → K.den)
def numb : Nat → List α → List (K.den × Int)
  | _, [] => []
  | i, a :: l => (key a, (i : Int)) :: numb (i + 1) l
theorem numb_len : ∀ (l : List α) (i : Nat), (numb key i l).length = l.length := by
  intro l
  induction l with
  | nil => intro i; rfl
  | cons a l ih => intro i; rw [numb, List.length_cons, List.length_cons, ih]
theorem numb_get (x : K.den) : ∀ (l : List α) (i : Nat), mget K (.int .i64) (numb key i l) x = if l.findIdx (fun a => K.beq x (key a)) < l.length then ((i + l.findIdx (fun a => K.beq x (key a)) : Nat) : Int) else (0 : Int) := by
  intro l
  induction l with
  | nil => intro i; rfl
  | cons a l ih =>
    intro i
    rw [List.findIdx_cons, List.length_cons]
    show (bif K.beq x (key a) then (i : Int) else mget K (.int .i64) (numb key (i + 1) l) x) = _
    cases h : K.beq x (key a) with
    | true => simp
    | false =>
      rw [cond_false, cond_false, ih]
      by_cases hl : l.findIdx (fun a => K.beq x (key a)) < l.length
      · rw [if_pos hl, if_pos (by omega)]; congr 1; omega
      · rw [if_neg hl, if_neg (by omega)]
theorem numb_has (x : K.den) : ∀ (l : List α) (i : Nat), mhas K (.int .i64) (numb key i l) x = decide (l.findIdx (fun a => K.beq x (key a)) < l.length) := by
  intro l
  induction l with
  | nil => intro i; rfl
  | cons a l ih =>
    intro i
    rw [List.findIdx_cons, List.length_cons]
    show (bif K.beq x (key a) then true else mhas K (.int .i64) (numb key (i + 1) l) x) = _
    cases h : K.beq x (key a) with
    | true => simp
    | false => rw [cond_false, cond_false, ih]; simp
theorem numb_put (b : α) : ∀ (l : List α) (i : Nat), ¬ l.findIdx (fun a => K.beq (key b) (key a)) < l.length → mput K (.int .i64) (numb key i l) (key b) ((i + l.length : Nat) : Int) = numb key i (l ++ [b]) := by
  intro l
  induction l with
  | nil => intro i _; rfl
  | cons a l ih =>
    intro i h
    rw [List.findIdx_cons, List.length_cons] at h
    show (bif K.beq (key b) (key a) then _ else _) = _
    cases hb : K.beq (key b) (key a) with
    | true => rw [hb] at h; simp at h
    | false =>
      rw [hb, cond_false] at h
      rw [cond_false]
      have := ih (i + 1) (by omega)
      rw [show i + 1 + l.length = i + (a :: l).length by simp; omega] at this
      exact congrArg (List.cons (key a, (i : Int))) this
end

/-! The program's row of bytes. -/
variable {A s : Int} {N : List (List Int)} {M : List Int}
theorem bytes10 (F : Fit A s N M) (cl : List Int) (hcl : cl.length = N.length) (count : Int) (q : Nat) (hq : q < N.length) (nu : List ((Int × (ByteArray × Unit)) × Int)) (nx : List Int) (r : List Int)
    (H : Ev (fun k => if mhas (.pair (.int .i64) (.pair .str .unit)) (.int .i64) nu (cl.getD q 0, text ((N.getD q []).map fun t => cl.getD t.toNat 0), ()) = true then
        det_Classes.j18 k count (q : Int) N (N.length : Int) (q : Int) A s N M cl nu nx (cl.getD q 0) (text ((N.getD q []).map fun t => cl.getD t.toNat 0))
      else det_Classes.j18 k count (q : Int) N (N.length : Int) (q : Int) A s N M cl (mput (.pair (.int .i64) (.pair .str .unit)) (.int .i64) nu (cl.getD q 0, text ((N.getD q []).map fun t => cl.getD t.toNat 0), ()) (nu.length : Int)) nx (cl.getD q 0) (text ((N.getD q []).map fun t => cl.getD t.toNat 0))) r) :
    ∀ n a, (N.getD q []).length - a = n → a ≤ (N.getD q []).length → Ev (fun k => det_Classes.l10 k count (q : Int) N (N.length : Int) (q : Int) (N.getD q []) ((N.getD q []).length : Int) (a : Int) A s N M cl nu nx ((((N.getD q []).take a).map fun t => cl.getD t.toNat 0).flatMap encB)) r := by
  have hrow := F.row q hq
  have a4 := F.a4
  have n3 := F.n3
  intro n
  induction n with
  | zero =>
    intro a hn ha
    rw [List.take_of_length_le (by omega)]
    refine Ev.step (fun k => ?_) H
    rw [det_Classes.l10, if_neg (by omega), if_pos (by omega), if_pos (by omega)]
    rfl
  | succ n ih =>
    intro a hn ha
    have he := F.ent q hq a (by omega)
    have c1 : (0 : Int) ≤ (N.getD q []).getD a (Int.ofNat 0) := he.1
    have c2 : (N.getD q []).getD a (Int.ofNat 0) < (cl.length : Int) := by rw [hcl]; exact he.2
    have hsz : ∀ l : List Int, (l.flatMap encB).length = 2 * l.length := by
      intro l
      induction l with
      | nil => rfl
      | cons x l ih => rw [List.flatMap_cons, List.length_append, ih, List.length_cons]; simp only [encB, List.length_cons, List.length_nil]; omega
    have e : (((N.getD q []).take a).map fun t => cl.getD t.toNat 0).flatMap encB ++ encB (cl.getD ((N.getD q []).getD a (Int.ofNat 0)).toNat (Int.ofNat 0)) = (((N.getD q []).take (a + 1)).map fun t => cl.getD t.toNat 0).flatMap encB := by
      rw [List.take_succ_eq_append_getElem (by omega), List.map_append, List.flatMap_append]
      congr 1
      simp only [List.map_cons, List.map_nil, List.flatMap_cons, List.flatMap_nil, List.append_nil]
      rw [List.getD_eq_getElem?_getD (l := N.getD q []), List.getElem?_eq_getElem (by omega)]
      rfl
    refine Ev.step (fun k => ?_) (ih (a + 1) (by omega) (by omega))
    have hs := fit1 (b := 1) ((((N.getD q []).take (a + 1)).map fun t => cl.getD t.toNat 0).flatMap encB).length (by rw [hsz]; simp; omega)
    rw [← e] at hs ⊢
    rw [det_Classes.l10, if_pos (by omega), if_pos (by omega), if_pos (by omega), rd_nat, if_pos c1, if_pos c2, if_pos c1, if_pos c2, if_pos (by decide), wrSucc a (by omega)]
    exact if_pos hs
end Go.Proofs.YtfkilmmldjajmaaSx.DC
namespace Go.Proofs.YtfkilmmldjajmaaSx.DC
variable {A s : Int} {N : List (List Int)} {M : List Int}
/-- The classes of what is next. -/
def nexts (N : List (List Int)) (cl : List Int) (q : Nat) : List Int := (N.getD q []).map fun t => cl.getD t.toNat 0
def sg (N : List (List Int)) (cl : List Int) (q f : Nat) : Bool := decide (cl.getD q 0 = cl.getD f 0) && decide (nexts N cl q = nexts N cl f)
def stepC (N : List (List Int)) (cl : List Int) (st : List Nat × List Int) (q : Nat) : List Nat × List Int :=
  (if st.1.findIdx (sg N cl q) < st.1.length then st.1 else st.1 ++ [q], st.2.set q (st.1.findIdx (sg N cl q) : Nat))
def roundC (N : List (List Int)) (cl : List Int) : Nat → Nat → List Nat × List Int → List Nat × List Int
  | _, 0, st => st
  | q, n + 1, st => roundC N cl (q + 1) n (stepC N cl st q)

abbrev KT' : Ty := .pair (.int .i64) (.pair .str .unit)
def key (N : List (List Int)) (cl : List Int) (f : Nat) : KT'.den := (cl.getD f 0, text (nexts N cl f), ())
structure ClOk (N : List (List Int)) (cl : List Int) : Prop where
  len : cl.length = N.length
  rng : ∀ q, q < N.length → 0 ≤ cl.getD q 0 ∧ cl.getD q 0 < 65536

theorem nexts_len (F : Fit A s N M) (cl : List Int) {q : Nat} (hq : q < N.length) : ((nexts N cl q).length : Int) = A := by rw [nexts, List.length_map]; exact F.row q hq
theorem nexts_rng (F : Fit A s N M) {cl : List Int} (C : ClOk N cl) {q : Nat} (hq : q < N.length) : ∀ x ∈ nexts N cl q, 0 ≤ x ∧ x < 65536 := by
  intro x hx
  obtain ⟨t, ht, rfl⟩ := List.mem_map.1 hx
  obtain ⟨j, hj, e⟩ := List.getElem_of_mem ht
  have := F.ent q hq j (by have := F.row q hq; omega)
  rw [List.getD_eq_getElem?_getD (l := N.getD q []), List.getElem?_eq_getElem hj, Option.getD_some, e] at this
  exact C.rng _ (by omega)
theorem key_beq (F : Fit A s N M) {cl : List Int} (C : ClOk N cl) {q f : Nat} (hq : q < N.length) (hf : f < N.length) : KT'.beq (key N cl q) (key N cl f) = sg N cl q f := by
  have e : KT'.beq (key N cl q) (key N cl f) = bif decide (cl.getD q 0 = cl.getD f 0) then (bif decide (text (nexts N cl q) = text (nexts N cl f)) then true else false) else false := rfl
  rw [e, sg]
  have hl : (nexts N cl q).length = (nexts N cl f).length := by have := nexts_len F cl hq; have := nexts_len F cl hf; omega
  have t := text_inj hl (nexts_rng F C hq) (nexts_rng F C hf)
  by_cases h1 : cl.getD q 0 = cl.getD f 0
  · rw [decide_eq_true h1, cond_true, Bool.true_and]
    by_cases h2 : nexts N cl q = nexts N cl f
    · rw [decide_eq_true h2, decide_eq_true (t.2 h2)]; rfl
    · rw [decide_eq_false h2, decide_eq_false (fun e => h2 (t.1 e))]; rfl
  · rw [decide_eq_false h1]; rfl
theorem findIdx_congr {α : Type} {p p' : α → Bool} : ∀ l : List α, (∀ a ∈ l, p a = p' a) → l.findIdx p = l.findIdx p' := by
  intro l
  induction l with
  | nil => intro _; rfl
  | cons a l ih => intro h; rw [List.findIdx_cons, List.findIdx_cons, h a List.mem_cons_self, ih fun b hb => h b (List.mem_cons_of_mem _ hb)]
theorem sg_self (cl : List Int) (q : Nat) : sg N cl q q = true := by simp [sg]
theorem findIdx_app {α : Type} (p : α → Bool) (b : α) (hb : p b = true) : ∀ l : List α, (l ++ [b]).findIdx p = l.findIdx p := by
  intro l
  induction l with
  | nil => rw [List.nil_append, List.findIdx_cons, hb]; rfl
  | cons a l ih => rw [List.cons_append, List.findIdx_cons, List.findIdx_cons, ih]

theorem prog6 (F : Fit A s N M) (cl : List Int) (C : ClOk N cl) (count : Int) (r : List Int) : ∀ n q Fs nx, N.length - q = n → q ≤ N.length → nx.length = N.length → (∀ f ∈ Fs, f < N.length) →
    Ev (fun k => if (((roundC N cl q n (Fs, nx)).1.length : Nat) : Int) = count then some (roundC N cl q n (Fs, nx)).2 else det_Classes.l3 k (((roundC N cl q n (Fs, nx)).1.length : Nat) : Int) A s N M (roundC N cl q n (Fs, nx)).2) r →
    Ev (fun k => det_Classes.l6 k count N (N.length : Int) (q : Int) A s N M cl (numb (K := KT') (key N cl) 0 Fs) nx) r := by
  have n3 := F.n3
  intro n
  induction n with
  | zero =>
    intro q Fs nx hn hq hx hF H
    refine Ev.step (fun k => ?_) H
    rw [det_Classes.l6, if_neg (by omega), numb_len]
    rfl
  | succ n ih =>
    intro q Fs nx hn hq hx hF H
    have hq' : q < N.length := by omega
    have hidx : Fs.findIdx (fun a => KT'.beq (key N cl q) (key N cl a)) = Fs.findIdx (sg N cl q) := findIdx_congr Fs fun f hf => key_beq F C hq' (hF f hf)
    -- what follows, with the map as it is then
    have fol : ∀ Fs', (∀ f ∈ Fs', f < N.length) → Fs'.findIdx (sg N cl q) < Fs'.length → Fs'.findIdx (sg N cl q) = Fs.findIdx (sg N cl q) → Fs' = (stepC N cl (Fs, nx) q).1 →
        Ev (fun k => det_Classes.j18 k count (q : Int) N (N.length : Int) (q : Int) A s N M cl (numb (K := KT') (key N cl) 0 Fs') nx (cl.getD q 0) (text (nexts N cl q))) r := by
      intro Fs' hF' hlt heq hst
      have hg : mget KT' (.int .i64) (numb (K := KT') (key N cl) 0 Fs') (cl.getD q 0, text (nexts N cl q), ()) = ((Fs.findIdx (sg N cl q) : Nat) : Int) := by
        have := numb_get (K := KT') (key N cl) (key N cl q) Fs' 0
        rw [findIdx_congr Fs' fun f hf => key_beq F C hq' (hF' f hf), if_pos hlt, Nat.zero_add, heq] at this
        exact this
      have h1 := ih (q + 1) Fs' (nx.set q ((Fs.findIdx (sg N cl q) : Nat) : Int)) (by omega) (by omega) (by rw [List.length_set]; exact hx) hF' (by
        have e : (Fs', nx.set q ((Fs.findIdx (sg N cl q) : Nat) : Int)) = stepC N cl (Fs, nx) q := Prod.ext hst rfl
        rw [e]; exact H)
      refine Ev.step (fun k => ?_) h1
      rw [det_Classes.j18, if_pos (by omega), if_pos (by omega), hg, wrSucc q (by omega), Int.toNat_natCast]
    refine Ev.step (h := fun k => det_Classes.l10 k count (q : Int) N (N.length : Int) (q : Int) (N.getD q []) ((N.getD q []).length : Int) 0 A s N M cl (numb (K := KT') (key N cl) 0 Fs) nx []) (fun k => ?_) ?_
    · rw [det_Classes.l6, if_pos (by omega), if_pos (by omega), if_pos (by omega), rd_nat]
    · refine bytes10 F cl C.len count q hq' (numb (K := KT') (key N cl) 0 Fs) nx r ?_ _ 0 rfl (by omega)
      have hh : mhas KT' (.int .i64) (numb (K := KT') (key N cl) 0 Fs) (cl.getD q 0, text (nexts N cl q), ()) = decide (Fs.findIdx (sg N cl q) < Fs.length) := by
        have := numb_has (K := KT') (key N cl) (key N cl q) Fs 0
        rw [hidx] at this; exact this
      show Ev (fun k => if mhas KT' (.int .i64) (numb (K := KT') (key N cl) 0 Fs) (cl.getD q 0, text (nexts N cl q), ()) = true then
        det_Classes.j18 k count (q : Int) N (N.length : Int) (q : Int) A s N M cl (numb (K := KT') (key N cl) 0 Fs) nx (cl.getD q 0) (text (nexts N cl q))
        else det_Classes.j18 k count (q : Int) N (N.length : Int) (q : Int) A s N M cl (mput KT' (.int .i64) (numb (K := KT') (key N cl) 0 Fs) (cl.getD q 0, text (nexts N cl q), ()) ((numb (K := KT') (key N cl) 0 Fs).length : Int)) nx (cl.getD q 0) (text (nexts N cl q))) r
      rw [hh]
      by_cases hk : Fs.findIdx (sg N cl q) < Fs.length
      · simp only [decide_eq_true hk, if_true]
        exact fol Fs hF hk rfl (by rw [stepC, if_pos hk])
      · simp only [decide_eq_false hk, Bool.false_eq_true, if_false]
        have hp : mput KT' (.int .i64) (numb (K := KT') (key N cl) 0 Fs) (cl.getD q 0, text (nexts N cl q), ()) (((numb (K := KT') (key N cl) 0 Fs).length : Nat) : Int) = numb (K := KT') (key N cl) 0 (Fs ++ [q]) := by
          have := numb_put (K := KT') (key N cl) q Fs 0 (by rw [hidx]; exact hk)
          rw [Nat.zero_add] at this
          rw [numb_len]; exact this
        rw [hp]
        have hle := List.findIdx_le_length (xs := Fs) (p := sg N cl q)
        exact fol (Fs ++ [q]) (fun f hf => by
          rcases List.mem_append.1 hf with h | h
          · exact hF f h
          · rw [List.mem_singleton] at h; omega) (by rw [findIdx_app _ _ (sg_self cl q), List.length_append]; simp; omega) (findIdx_app _ _ (sg_self cl q) _) (by rw [stepC, if_neg hk])
end Go.Proofs.YtfkilmmldjajmaaSx.DC
namespace Go.Proofs.YtfkilmmldjajmaaSx.DC
variable {A s : Int} {N : List (List Int)} {M : List Int}
def ints (Fs : List Nat) : List Int := List.map (fun f : Nat => (f : Int)) Fs
theorem stepC_1 (cl : List Int) (Fs : List Nat) (nx : List Int) (q : Nat) : (stepC N cl (Fs, nx) q).1 = if Fs.findIdx (sg N cl q) < Fs.length then Fs else Fs ++ [q] := rfl
theorem stepC_2 (cl : List Int) (Fs : List Nat) (nx : List Int) (q : Nat) : (stepC N cl (Fs, nx) q).2 = nx.set q ((Fs.findIdx (sg N cl q) : Nat) : Int) := rfl
theorem ints_getD (Fs : List Nat) (j : Nat) (h : j < Fs.length) : (ints Fs).getD j (Int.ofNat 0) = ((Fs.getD j 0 : Nat) : Int) := by
  rw [List.getD_eq_getElem?_getD, List.getD_eq_getElem?_getD, ints, List.getElem?_map, List.getElem?_eq_getElem h]; rfl
theorem ints_len (Fs : List Nat) : (ints Fs).length = Fs.length := List.length_map ..
theorem nexts_getD (cl : List Int) (q a : Nat) (h : a < (N.getD q []).length) : (nexts N cl q).getD a 0 = cl.getD ((N.getD q []).getD a 0).toNat 0 := by
  rw [List.getD_eq_getElem?_getD (l := nexts N cl q), nexts, List.getElem?_map, List.getD_eq_getElem?_getD (l := N.getD q []), List.getElem?_eq_getElem h]; rfl

theorem ref14F (F : Fit A s N M) (cl : List Int) (count : Int) (q j : Nat) (hj : j < 1000000) (p : Nat) (Fs : List Nat) (nx : List Int) (r : List Int)
    (H : Ev (fun k => evermoreref3_Classes.l10 k count (Fs.length : Int) (q : Int) ((j + 1 : Nat) : Int) A s N M cl nx (ints Fs)) r) (a : Nat) :
    Ev (fun k => evermoreref3_Classes.l14 k count (Fs.length : Int) (q : Int) (j : Int) (p : Int) false (a : Int) A s N M cl nx (ints Fs)) r := by
  refine Ev.step (fun k => ?_) H
  rw [evermoreref3_Classes.l14]
  by_cases h : (a : Int) < A
  · rw [if_pos h]; simp only [Bool.false_eq_true, if_false, wrSucc j (by omega)]
  · rw [if_neg h]; simp only [Bool.false_eq_true, if_false, wrSucc j (by omega)]

theorem ref14 (F : Fit A s N M) (cl : List Int) (hcl : cl.length = N.length) (count : Int) (q : Nat) (hq : q < N.length) (Fs : List Nat) (hFs : Fs.length ≤ 4000) (j : Nat) (hj : j < Fs.length) (p : Nat) (hp : p < N.length) (nx : List Int) (r : List Int) : ∀ n a, A.toNat - a = n → (a : Int) ≤ A →
    ((nexts N cl p).drop a = (nexts N cl q).drop a → Ev (fun k => evermoreref3_Classes.j22 k count (Fs.length : Int) (q : Int) (j : Int) A s N M cl nx (ints Fs)) r →
      Ev (fun k => evermoreref3_Classes.l14 k count (Fs.length : Int) (q : Int) (j : Int) (p : Int) true (a : Int) A s N M cl nx (ints Fs)) r) ∧
    (¬ (nexts N cl p).drop a = (nexts N cl q).drop a → Ev (fun k => evermoreref3_Classes.l10 k count (Fs.length : Int) (q : Int) ((j + 1 : Nat) : Int) A s N M cl nx (ints Fs)) r →
      Ev (fun k => evermoreref3_Classes.l14 k count (Fs.length : Int) (q : Int) (j : Int) (p : Int) true (a : Int) A s N M cl nx (ints Fs)) r) := by
  have hrp := F.row p hp
  have hrq := F.row q hq
  have hlp := nexts_len F cl hp
  have hlq := nexts_len F cl hq
  have a4 := F.a4
  intro n
  induction n with
  | zero =>
    intro a hn ha
    rw [List.drop_eq_nil_of_le (by omega), List.drop_eq_nil_of_le (by omega)]
    refine ⟨fun _ H => Ev.step (fun k => ?_) H, fun h => absurd rfl h⟩
    rw [evermoreref3_Classes.l14, if_neg (by omega), if_pos rfl, if_neg (by omega)]
  | succ n ih =>
    intro a hn ha
    obtain ⟨h1, h2⟩ := ih (a + 1) (by omega) (by omega)
    have hep := F.ent p hp a (by omega)
    have heq := F.ent q hq a (by omega)
    have c1 : (0 : Int) ≤ (N.getD p []).getD a (Int.ofNat 0) := hep.1
    have c2 : (N.getD p []).getD a (Int.ofNat 0) < (cl.length : Int) := by rw [hcl]; exact hep.2
    have c3 : (0 : Int) ≤ (N.getD q []).getD a (Int.ofNat 0) := heq.1
    have c4 : (N.getD q []).getD a (Int.ofNat 0) < (cl.length : Int) := by rw [hcl]; exact heq.2
    have st : ∀ k, evermoreref3_Classes.l14 (k + 1) count (Fs.length : Int) (q : Int) (j : Int) (p : Int) true (a : Int) A s N M cl nx (ints Fs) =
        evermoreref3_Classes.l14 k count (Fs.length : Int) (q : Int) (j : Int) (p : Int) (decide ((nexts N cl p).getD a 0 = (nexts N cl q).getD a 0)) ((a + 1 : Nat) : Int) A s N M cl nx (ints Fs) := by
      intro k
      rw [evermoreref3_Classes.l14, if_pos (by omega), if_pos rfl, if_pos (by omega), if_pos (by omega), if_pos (by omega), rd_nat, if_pos (by omega), rd_nat, if_pos c1, if_pos c2, if_pos (by omega), if_pos (by omega), if_pos (by omega), rd_nat, if_pos (by omega), rd_nat, if_pos c3, if_pos c4, wrSucc a (by omega), nexts_getD cl p a (by omega), nexts_getD cl q a (by omega)]
      rfl
    rw [drop_getD 0 (nexts N cl p) a (by omega), drop_getD 0 (nexts N cl q) a (by omega)]
    by_cases he : (nexts N cl p).getD a 0 = (nexts N cl q).getD a 0
    · rw [decide_eq_true he] at st
      refine ⟨fun h H => Ev.step st (h1 (List.cons.inj h).2 H), fun h H => Ev.step st (h2 (fun e => h (by rw [he, e])) H)⟩
    · rw [decide_eq_false he] at st
      exact ⟨fun h => absurd (List.cons.inj h).1 he, fun _ H => Ev.step st (ref14F F cl count q j (by omega) p Fs nx r H (a + 1))⟩

theorem ref10 (F : Fit A s N M) (cl : List Int) (hcl : cl.length = N.length) (count : Int) (q : Nat) (hq : q < N.length) (Fs : List Nat) (hFs : Fs.length ≤ 4000) (hF : ∀ f ∈ Fs, f < N.length) (nx : List Int) (r : List Int)
    (H : Ev (fun k => evermoreref3_Classes.j22 k count (((stepC N cl (Fs, nx) q).1.length : Nat) : Int) (q : Int) ((Fs.findIdx (sg N cl q) : Nat) : Int) A s N M cl nx (ints (stepC N cl (Fs, nx) q).1)) r) : ∀ n j, Fs.length - j = n → j ≤ Fs.length → Fs.findIdx (sg N cl q) = j + (Fs.drop j).findIdx (sg N cl q) →
    Ev (fun k => evermoreref3_Classes.l10 k count (Fs.length : Int) (q : Int) (j : Int) A s N M cl nx (ints Fs)) r := by
  intro n
  induction n with
  | zero =>
    intro j hn hj he
    rw [List.drop_eq_nil_of_le (by omega)] at he
    have hidx : Fs.findIdx (sg N cl q) = Fs.length := by rw [he]; simp; omega
    rw [stepC_1, if_neg (by rw [hidx]; omega), hidx] at H
    refine Ev.step (fun k => ?_) H
    have hj' : j = Fs.length := by omega
    subst hj'
    rw [evermoreref3_Classes.l10, if_neg (by omega), if_pos rfl, if_pos (fit1 _ (by rw [List.length_append, ints_len]; simp; omega)), wrSucc _ (by omega)]
    rw [show ints Fs ++ [(q : Int)] = ints (Fs ++ [q]) by simp [ints], List.length_append]
    rfl
  | succ n ih =>
    intro j hn hj he
    have hp : Fs.getD j 0 < N.length := hF _ (by rw [List.getD_eq_getElem?_getD, List.getElem?_eq_getElem (by omega)]; exact List.getElem_mem (by omega))
    have hig := ints_getD Fs j (by omega)
    rw [drop_getD 0 Fs j (by omega), List.findIdx_cons] at he
    have st : ∀ k, evermoreref3_Classes.l10 (k + 1) count (Fs.length : Int) (q : Int) (j : Int) A s N M cl nx (ints Fs) =
        evermoreref3_Classes.l14 k count (Fs.length : Int) (q : Int) (j : Int) ((Fs.getD j 0 : Nat) : Int) (decide (cl.getD (Fs.getD j 0) 0 = cl.getD q 0)) 0 A s N M cl nx (ints Fs) := by
      intro k
      rw [evermoreref3_Classes.l10, if_pos (by omega), if_pos (by omega), if_pos (by rw [ints_len]; omega), Int.toNat_natCast, hig, if_pos (by omega), if_pos (by omega), if_pos (by omega), if_pos (by omega), Int.toNat_natCast, Int.toNat_natCast]
      rfl
    obtain ⟨h1, h2⟩ := ref14 F cl hcl count q hq Fs hFs j (by omega) (Fs.getD j 0) hp nx r _ 0 rfl (by have := F.a1; omega)
    rw [List.drop_zero, List.drop_zero] at h1 h2
    by_cases hc : cl.getD (Fs.getD j 0) 0 = cl.getD q 0
    · rw [decide_eq_true hc] at st
      by_cases hx : nexts N cl (Fs.getD j 0) = nexts N cl q
      · have hs : sg N cl q (Fs.getD j 0) = true := by rw [sg, decide_eq_true hc.symm, decide_eq_true hx.symm]; rfl
        rw [hs, cond_true, Nat.add_zero] at he
        rw [stepC_1, if_pos (by rw [he]; omega), he] at H
        exact Ev.step st (h1 hx H)
      · have hs : sg N cl q (Fs.getD j 0) = false := by rw [sg, decide_eq_false (show ¬ nexts N cl q = nexts N cl (Fs.getD j 0) from fun e => hx e.symm), Bool.and_false]
        rw [hs, cond_false] at he
        exact Ev.step st (h2 hx (ih (j + 1) (by omega) (by omega) (by omega)))
    · rw [decide_eq_false hc] at st
      have hs : sg N cl q (Fs.getD j 0) = false := by rw [sg, decide_eq_false (show ¬ cl.getD q 0 = cl.getD (Fs.getD j 0) 0 from fun e => hc e.symm), Bool.false_and]
      rw [hs, cond_false] at he
      exact Ev.step st (ref14F F cl count q j (by omega) _ Fs nx r (ih (j + 1) (by omega) (by omega) (by omega)) 0)

theorem ref7 (F : Fit A s N M) (cl : List Int) (hcl : cl.length = N.length) (count : Int) (r : List Int) : ∀ n q Fs nx, N.length - q = n → q ≤ N.length → nx.length = N.length → (∀ f ∈ Fs, f < N.length) → Fs.length ≤ q →
    Ev (fun k => if (((roundC N cl q n (Fs, nx)).1.length : Nat) : Int) = count then some (roundC N cl q n (Fs, nx)).2 else evermoreref3_Classes.l3 k (((roundC N cl q n (Fs, nx)).1.length : Nat) : Int) A s N M (roundC N cl q n (Fs, nx)).2) r →
    Ev (fun k => evermoreref3_Classes.l7 k count (Fs.length : Int) (q : Int) A s N M cl nx (ints Fs)) r := by
  have n3 := F.n3
  intro n
  induction n with
  | zero =>
    intro q Fs nx hn hq hx hF hl H
    refine Ev.step (fun k => ?_) H
    rw [evermoreref3_Classes.l7, if_neg (by omega)]
    rfl
  | succ n ih =>
    intro q Fs nx hn hq hx hF hl H
    have hq' : q < N.length := by omega
    have h1 := ih (q + 1) (stepC N cl (Fs, nx) q).1 (stepC N cl (Fs, nx) q).2 (by omega) (by omega) (by rw [stepC_2, List.length_set]; exact hx) (fun f hf => by
      rw [stepC_1] at hf
      by_cases hk : Fs.findIdx (sg N cl q) < Fs.length
      · rw [if_pos hk] at hf; exact hF f hf
      · rw [if_neg hk] at hf
        rcases List.mem_append.1 hf with h | h
        · exact hF f h
        · rw [List.mem_singleton] at h; omega) (by
      rw [stepC_1]
      by_cases hk : Fs.findIdx (sg N cl q) < Fs.length
      · rw [if_pos hk]; omega
      · rw [if_neg hk, List.length_append]; simp; omega) H
    refine Ev.step (h := fun k => evermoreref3_Classes.l10 k count (Fs.length : Int) (q : Int) 0 A s N M cl nx (ints Fs)) (fun k => ?_) (ref10 F cl hcl count q hq' Fs (by omega) hF nx r (Ev.step (fun k => ?_) h1) _ 0 rfl (by omega) (by rw [List.drop_zero, Nat.zero_add]))
    · rw [evermoreref3_Classes.l7, if_pos (by omega)]
    · rw [evermoreref3_Classes.j22, if_pos (by omega), if_pos (by omega), wrSucc q (by omega), Int.toNat_natCast]
      rfl
end Go.Proofs.YtfkilmmldjajmaaSx.DC
namespace Go.Proofs.YtfkilmmldjajmaaSx.DC
variable {A s : Int} {N : List (List Int)} {M : List Int}
theorem nodup_sub {α : Type} [DecidableEq α] : ∀ (L T : List α), L.Nodup → (∀ x ∈ L, x ∈ T) → L.length ≤ T.length := by
  intro L
  induction L with
  | nil => intro T _ _; simp
  | cons a L ih =>
    intro T hn h
    rw [List.nodup_cons] at hn
    have ha := h a List.mem_cons_self
    have := ih (T.erase a) hn.2 (fun x hx => (List.mem_erase_of_ne (show x ≠ a from fun e => hn.1 (e ▸ hx))).2 (h x (List.mem_cons_of_mem _ hx)))
    rw [List.length_erase_of_mem ha] at this
    have : 0 < T.length := List.length_pos_of_mem ha
    simp only [List.length_cons]; omega

/-- What a round has made when the states below q are done. -/
structure Done (N : List (List Int)) (cl : List Int) (q : Nat) (Fs : List Nat) (nx : List Int) : Prop where
  len : nx.length = N.length
  lt : ∀ i, i < Fs.length → Fs.getD i 0 < q ∧ nx.getD (Fs.getD i 0) 0 = (i : Int)
  num : ∀ p, p < q → ∃ i, i < Fs.length ∧ nx.getD p 0 = (i : Int) ∧ sg N cl p (Fs.getD i 0) = true
  cnt : Fs.length ≤ q

theorem getD_set_int (l : List Int) (x y : Nat) (v : Int) : (l.set x v).getD y 0 = if x = y ∧ y < l.length then v else l.getD y 0 := by
  rw [List.getD_eq_getElem?_getD, List.getD_eq_getElem?_getD, List.getElem?_set]
  by_cases h : x = y
  · subst h
    by_cases h2 : x < l.length
    · simp [h2]
    · simp [h2]
  · simp [h]
theorem getD_app_left (l : List Nat) (b i : Nat) (h : i < l.length) : (l ++ [b]).getD i 0 = l.getD i 0 := by
  rw [List.getD_eq_getElem?_getD, List.getElem?_append_left h, ← List.getD_eq_getElem?_getD]
theorem getD_app_last (l : List Nat) (b : Nat) : (l ++ [b]).getD l.length 0 = b := by
  rw [List.getD_eq_getElem?_getD, List.getElem?_append_right (Nat.le_refl _), Nat.sub_self]; rfl
theorem findIdx_hit (p : Nat → Bool) (l : List Nat) (h : l.findIdx p < l.length) : p (l.getD (l.findIdx p) 0) = true := by
  rw [List.getD_eq_getElem?_getD, List.getElem?_eq_getElem h]
  exact List.findIdx_getElem (w := h)

theorem Done.step {cl : List Int} {q : Nat} {Fs : List Nat} {nx : List Int} (D : Done N cl q Fs nx) (hq : q < N.length) : Done N cl (q + 1) (stepC N cl (Fs, nx) q).1 (stepC N cl (Fs, nx) q).2 := by
  have hl := D.len
  have hq2 : q < nx.length := by rw [hl]; exact hq
  rw [stepC_1, stepC_2]
  have hset : ∀ v y, y < q → (nx.set q v).getD y 0 = nx.getD y 0 := by
    intro v y hy; rw [getD_set_int, if_neg (by omega)]
  have hself : ∀ v, (nx.set q v).getD q 0 = v := by
    intro v; rw [getD_set_int, if_pos ⟨rfl, hq2⟩]
  by_cases hk : Fs.findIdx (sg N cl q) < Fs.length
  · rw [if_pos hk]
    refine ⟨by rw [List.length_set]; exact hl, fun i hi => ?_, fun p hp => ?_, by have := D.cnt; omega⟩
    · obtain ⟨a, b⟩ := D.lt i hi
      exact ⟨by omega, by rw [hset _ _ a]; exact b⟩
    · by_cases hpq : p = q
      · subst hpq; exact ⟨_, hk, hself _, findIdx_hit _ _ hk⟩
      · obtain ⟨i, a, b, c⟩ := D.num p (by omega)
        exact ⟨i, a, by rw [hset _ _ (by omega)]; exact b, c⟩
  · rw [if_neg hk]
    have hle : Fs.findIdx (sg N cl q) = Fs.length := by have := List.findIdx_le_length (xs := Fs) (p := sg N cl q); omega
    rw [hle]
    refine ⟨by rw [List.length_set]; exact hl, fun i hi => ?_, fun p hp => ?_, by rw [List.length_append]; have := D.cnt; simp; omega⟩
    · rw [List.length_append, List.length_singleton] at hi
      by_cases hi2 : i < Fs.length
      · obtain ⟨a, b⟩ := D.lt i hi2
        rw [getD_app_left _ _ _ hi2]
        exact ⟨by omega, by rw [hset _ _ a]; exact b⟩
      · have : i = Fs.length := by omega
        subst this
        rw [getD_app_last]; exact ⟨by omega, hself _⟩
    · by_cases hpq : p = q
      · subst hpq; exact ⟨Fs.length, by simp, hself _, by rw [getD_app_last]; exact sg_self cl p⟩
      · obtain ⟨i, a, b, c⟩ := D.num p (by omega)
        exact ⟨i, by rw [List.length_append]; omega, by rw [hset _ _ (by omega)]; exact b, by rw [getD_app_left _ _ _ a]; exact c⟩

theorem Done.round {cl : List Int} : ∀ n q Fs nx, N.length - q = n → q ≤ N.length → Done N cl q Fs nx → Done N cl N.length (roundC N cl q n (Fs, nx)).1 (roundC N cl q n (Fs, nx)).2 := by
  intro n
  induction n with
  | zero => intro q Fs nx hn hq D; have : q = N.length := by omega
            subst this; exact D
  | succ n ih =>
    intro q Fs nx hn hq D
    exact ih (q + 1) _ _ (by omega) (by omega) (D.step (by omega))
theorem Done.whole (N : List (List Int)) (cl : List Int) : Done N cl N.length (roundC N cl 0 N.length ([], List.replicate N.length 0)).1 (roundC N cl 0 N.length ([], List.replicate N.length 0)).2 :=
  Done.round _ 0 _ _ rfl (by omega) ⟨by simp, fun i hi => by simp at hi, fun p hp => by omega, by simp⟩
end Go.Proofs.YtfkilmmldjajmaaSx.DC
namespace Go.Proofs.YtfkilmmldjajmaaSx.DC
variable {A s : Int} {N : List (List Int)} {M : List Int}
/-! What words tell of states. -/
def aft (N : List (List Int)) : Nat → List Nat → Nat
  | q, [] => q
  | q, a :: w => aft N ((N.getD q []).getD a 0).toNat w
/-- No word tells a state of the one from a state of the other. -/
def Same (A : Int) (N : List (List Int)) (M : List Int) (p : Nat) (N' : List (List Int)) (M' : List Int) (p' : Nat) : Prop :=
  ∀ w : List Nat, (∀ a ∈ w, (a : Int) < A) → M.getD (aft N p w) 0 = M'.getD (aft N' p' w) 0
theorem Same.symm {N' : List (List Int)} {M' : List Int} {p p' : Nat} (h : Same A N M p N' M' p') : Same A N' M' p' N M p := fun w hw => (h w hw).symm
theorem Same.trans {N' N'' : List (List Int)} {M' M'' : List Int} {p p' p'' : Nat} (h : Same A N M p N' M' p') (h' : Same A N' M' p' N'' M'' p'') : Same A N M p N'' M'' p'' := fun w hw => (h w hw).trans (h' w hw)
theorem Same.mark {N' : List (List Int)} {M' : List Int} {p p' : Nat} (h : Same A N M p N' M' p') : M.getD p 0 = M'.getD p' 0 := h [] (fun a ha => by simp at ha)
theorem Same.next {N' : List (List Int)} {M' : List Int} {p p' : Nat} (h : Same A N M p N' M' p') (a : Nat) (ha : (a : Int) < A) : Same A N M ((N.getD p []).getD a 0).toNat N' M' ((N'.getD p' []).getD a 0).toNat := fun w hw => h (a :: w) (fun b hb => by
  rcases List.mem_cons.1 hb with h | h
  · rw [h]; exact ha
  · exact hw b h)
theorem Same.refl (p : Nat) : Same A N M p N M p := fun w hw => rfl
/-- A relation that the steps keep. -/
theorem Same.of {N' : List (List Int)} {M' : List Int} (R : Nat → Nat → Prop) (hm : ∀ p p', R p p' → M.getD p 0 = M'.getD p' 0) (hn : ∀ p p' (a : Nat), R p p' → (a : Int) < A → R ((N.getD p []).getD a 0).toNat ((N'.getD p' []).getD a 0).toNat) : ∀ (p p' : Nat), R p p' → Same A N M p N' M' p' := by
  intro p p' h w
  induction w generalizing p p' with
  | nil => intro _; exact hm _ _ h
  | cons a w ih => intro hw; exact ih _ _ (hn _ _ a h (hw a List.mem_cons_self)) (fun b hb => hw b (List.mem_cons_of_mem _ hb))
/-- States that no word tells apart have one class. -/
def Coarse (A : Int) (N : List (List Int)) (M cl : List Int) : Prop := ∀ p p', p < N.length → p' < N.length → Same A N M p N M p' → cl.getD p 0 = cl.getD p' 0

def Uni (N : List (List Int)) (cl : List Int) (Fs : List Nat) : Prop := ∀ i i', i < Fs.length → i' < Fs.length → sg N cl (Fs.getD i 0) (Fs.getD i' 0) = true → i = i'
theorem sg_iff {cl : List Int} {p q : Nat} : sg N cl p q = true ↔ cl.getD p 0 = cl.getD q 0 ∧ nexts N cl p = nexts N cl q := by
  rw [sg, Bool.and_eq_true, decide_eq_true_iff, decide_eq_true_iff]
theorem sg_symm {cl : List Int} {p q : Nat} (h : sg N cl p q = true) : sg N cl q p = true := by
  rw [sg_iff] at h ⊢; exact ⟨h.1.symm, h.2.symm⟩
theorem sg_trans {cl : List Int} {p q r : Nat} (h : sg N cl p q = true) (h' : sg N cl q r = true) : sg N cl p r = true := by
  rw [sg_iff] at h h' ⊢; exact ⟨h.1.trans h'.1, h.2.trans h'.2⟩
theorem Uni.step {cl : List Int} {Fs : List Nat} {nx : List Int} (U : Uni N cl Fs) (q : Nat) : Uni N cl (stepC N cl (Fs, nx) q).1 := by
  rw [stepC_1]
  by_cases hk : Fs.findIdx (sg N cl q) < Fs.length
  · rw [if_pos hk]; exact U
  · rw [if_neg hk]
    have hno : ∀ i, i < Fs.length → sg N cl q (Fs.getD i 0) = true → False := by
      intro i hi h
      apply hk
      rw [List.findIdx_lt_length]
      exact ⟨Fs.getD i 0, by rw [List.getD_eq_getElem?_getD, List.getElem?_eq_getElem hi]; exact List.getElem_mem hi, h⟩
    intro i i' hi hi' h
    rw [List.length_append, List.length_singleton] at hi hi'
    by_cases h1 : i < Fs.length
    · rw [getD_app_left _ _ _ h1] at h
      by_cases h2 : i' < Fs.length
      · rw [getD_app_left _ _ _ h2] at h; exact U i i' h1 h2 h
      · have : i' = Fs.length := by omega
        subst this
        rw [getD_app_last] at h; exact (hno i h1 (sg_symm h)).elim
    · have : i = Fs.length := by omega
      subst this
      rw [getD_app_last] at h
      by_cases h2 : i' < Fs.length
      · rw [getD_app_left _ _ _ h2] at h; exact (hno i' h2 h).elim
      · omega
theorem Uni.round {cl : List Int} : ∀ n q Fs nx, Uni N cl Fs → Uni N cl (roundC N cl q n (Fs, nx)).1 := by
  intro n
  induction n with
  | zero => intro q Fs nx U; exact U
  | succ n ih => intro q Fs nx U; exact ih (q + 1) _ _ (U.step q)
theorem Coarse.round (F : Fit A s N M) {cl : List Int} (H : Coarse A N M cl) : Coarse A N M (roundC N cl 0 N.length ([], List.replicate N.length 0)).2 := by
  have D := Done.whole N cl
  have U : Uni N cl (roundC N cl 0 N.length ([], List.replicate N.length 0)).1 := Uni.round _ 0 _ _ (fun i i' hi => by simp at hi)
  intro p p' hp hp' h
  obtain ⟨i, hi, e, g⟩ := D.num p hp
  obtain ⟨i', hi', e', g'⟩ := D.num p' hp'
  have hs : sg N cl p p' = true := by
    rw [sg_iff]
    refine ⟨H p p' hp hp' h, ?_⟩
    have l1 := F.row p hp
    have l2 := F.row p' hp'
    apply List.ext_getElem (by rw [nexts, nexts, List.length_map, List.length_map]; omega)
    intro j h1 h2
    rw [nexts, List.length_map] at h1 h2
    have e1 := nexts_getD (N := N) cl p j h1
    have e2 := nexts_getD (N := N) cl p' j h2
    rw [List.getD_eq_getElem?_getD (l := nexts N cl p), List.getElem?_eq_getElem (by rw [nexts, List.length_map]; exact h1), Option.getD_some] at e1
    rw [List.getD_eq_getElem?_getD (l := nexts N cl p'), List.getElem?_eq_getElem (by rw [nexts, List.length_map]; exact h2), Option.getD_some] at e2
    rw [e1, e2]
    have q1 := F.ent p hp j (by omega)
    have q2 := F.ent p' hp' j (by omega)
    exact H _ _ (by omega) (by omega) (h.next j (by omega))
  have : i = i' := U i i' hi hi' (sg_trans (sg_symm g) (sg_trans hs g'))
  rw [e, e', this]
end Go.Proofs.YtfkilmmldjajmaaSx.DC
namespace Go.Proofs.YtfkilmmldjajmaaSx.DC
variable {A s : Int} {N : List (List Int)} {M : List Int}
structure Att (N : List (List Int)) (c : Nat) (cl : List Int) : Prop where
  hit : ∀ i, i < c → ∃ q, q < N.length ∧ cl.getD q 0 = (i : Int)
  lt : c = 0 ∨ ∀ q, q < N.length → ∃ i, i < c ∧ cl.getD q 0 = (i : Int)
structure Stable (N : List (List Int)) (M : List Int) (cl : List Int) : Prop where
  len : cl.length = N.length
  num : ∀ q, q < N.length → 0 ≤ cl.getD q 0 ∧ cl.getD q 0 < (N.length : Int)
  mark : ∀ p p', p < N.length → p' < N.length → cl.getD p 0 = cl.getD p' 0 → M.getD p 0 = M.getD p' 0
  next : ∀ p p', p < N.length → p' < N.length → cl.getD p 0 = cl.getD p' 0 → nexts N cl p = nexts N cl p'

theorem sg_eq {cl : List Int} {p q : Nat} (h : sg N cl p q = true) : cl.getD p 0 = cl.getD q 0 ∧ nexts N cl p = nexts N cl q := by
  rw [sg, Bool.and_eq_true, decide_eq_true_iff, decide_eq_true_iff] at h; exact h
theorem mem_of {Fs : List Nat} {i : Nat} (h : i < Fs.length) : Fs.getD i 0 ∈ Fs := by
  rw [List.getD_eq_getElem?_getD, List.getElem?_eq_getElem h]; exact List.getElem_mem h
theorem nodup_range (c : Nat) : ((List.range c).map fun i : Nat => (i : Int)).Nodup := by
  rw [List.nodup_iff_pairwise_ne, List.pairwise_map]
  exact List.Pairwise.imp (fun {a b} h => by omega) List.pairwise_lt_range
theorem covers {c : Nat} {cl : List Int} {Fs : List Nat} {nx : List Int} (T : Att N c cl) (D : Done N cl N.length Fs nx) : ∀ x ∈ (List.range c).map (fun i : Nat => (i : Int)), ∃ i, i < Fs.length ∧ cl.getD (Fs.getD i 0) 0 = x := by
  intro x hx
  obtain ⟨i, hi, rfl⟩ := List.mem_map.1 hx
  rw [List.mem_range] at hi
  obtain ⟨q, hq, e⟩ := T.hit i hi
  obtain ⟨j, hj, _, h⟩ := D.num q hq
  exact ⟨j, hj, by rw [← (sg_eq h).1, e]⟩
theorem grows {c : Nat} {cl : List Int} {Fs : List Nat} {nx : List Int} (T : Att N c cl) (D : Done N cl N.length Fs nx) : c ≤ Fs.length := by
  have := nodup_sub _ (Fs.map fun f => cl.getD f 0) (nodup_range c) (fun x hx => by
    obtain ⟨i, hi, e⟩ := covers T D x hx
    exact List.mem_map.2 ⟨_, mem_of hi, e⟩)
  simpa using this
theorem same_nx {c : Nat} {cl : List Int} {Fs : List Nat} {nx : List Int} (T : Att N c cl) (D : Done N cl N.length Fs nx) (hc : Fs.length = c) {p p' : Nat} (hp : p < N.length) (hp' : p' < N.length) (e : cl.getD p 0 = cl.getD p' 0) : nx.getD p 0 = nx.getD p' 0 := by
  obtain ⟨i, hi, e1, s1⟩ := D.num p hp
  obtain ⟨i', hi', e2, s2⟩ := D.num p' hp'
  by_cases hii : i = i'
  · rw [e1, e2, hii]
  · exfalso
    have ee : cl.getD (Fs.getD i 0) 0 = cl.getD (Fs.getD i' 0) 0 := by rw [← (sg_eq s1).1, ← (sg_eq s2).1, e]
    have := nodup_sub _ ((Fs.map fun f => cl.getD f 0).eraseIdx i') (nodup_range c) (fun x hx => by
      obtain ⟨j, hj, ej⟩ := covers T D x hx
      rw [List.mem_eraseIdx_iff_getElem]
      have hg : ∀ j (h : j < Fs.length), (Fs.map fun f => cl.getD f 0)[j]'(by simpa using h) = cl.getD (Fs.getD j 0) 0 := by
        intro j h
        rw [List.getElem_map, List.getD_eq_getElem?_getD (l := Fs), List.getElem?_eq_getElem h]; rfl
      by_cases hji : j = i'
      · exact ⟨i, by simpa using hi, hii, by rw [hg i hi, ee, ← hji]; exact ej⟩
      · exact ⟨j, by simpa using hj, hji, by rw [hg j hj]; exact ej⟩)
    rw [List.length_eraseIdx_of_lt (by simpa using hi')] at this
    simp at this; omega

theorem rounds (F : Fit A s N M) : ∀ n c cl, N.length - c = n → c ≤ N.length → ClOk N cl → Coarse A N M cl → Att N c cl → (∀ p p', p < N.length → p' < N.length → cl.getD p 0 = cl.getD p' 0 → M.getD p 0 = M.getD p' 0) →
    ∃ C, Stable N M C ∧ Coarse A N M C ∧ Ev (fun k => det_Classes.l3 k (c : Int) A s N M cl) C ∧ Ev (fun k => evermoreref3_Classes.l3 k (c : Int) A s N M cl) C := by
  have n3 := F.n3; have n1 := F.n1
  intro n
  induction n using Nat.strongRecOn with
  | _ n ih =>
    intro c cl hn hc C HC T hM
    have HC2 := HC.round F
    have D := Done.whole N cl
    have P := fun r => prog6 F cl C (c : Int) r _ 0 [] (List.replicate N.length 0) rfl (by omega) (by simp) (by simp)
    have R := fun r => ref7 F cl C.len (c : Int) r _ 0 [] (List.replicate N.length 0) rfl (by omega) (by simp) (by simp) (by simp)
    rw [Nat.sub_zero] at P R
    generalize (roundC N cl 0 N.length ([], List.replicate N.length 0)).1 = Fs at D P R
    generalize (roundC N cl 0 N.length ([], List.replicate N.length 0)).2 = nx at D P R HC2
    have hg := grows T D
    have hcnt := D.cnt
    have hstep : ∀ C', (Ev (fun k => if ((Fs.length : Nat) : Int) = (c : Int) then some nx else det_Classes.l3 k ((Fs.length : Nat) : Int) A s N M nx) C') → (Ev (fun k => if ((Fs.length : Nat) : Int) = (c : Int) then some nx else evermoreref3_Classes.l3 k ((Fs.length : Nat) : Int) A s N M nx) C') →
        Ev (fun k => det_Classes.l3 k (c : Int) A s N M cl) C' ∧ Ev (fun k => evermoreref3_Classes.l3 k (c : Int) A s N M cl) C' := by
      intro C' h1 h2
      have hl := C.len
      refine ⟨Ev.step (fun k => ?_) (P C' h1), Ev.step (fun k => ?_) (R C' h2)⟩
      · rw [det_Classes.l3, if_pos (by omega), if_pos (by omega), if_pos (by omega), Int.toNat_natCast, hl]; rfl
      · rw [evermoreref3_Classes.l3, if_pos (by omega), if_pos (by omega), if_pos (by omega), Int.toNat_natCast, hl]; rfl
    have hnum : ∀ q, q < N.length → 0 ≤ nx.getD q 0 ∧ nx.getD q 0 < (Fs.length : Int) := by
      intro q hq
      obtain ⟨i, a, b, _⟩ := D.num q hq
      omega
    have hfine : ∀ p p', p < N.length → p' < N.length → nx.getD p 0 = nx.getD p' 0 → cl.getD p 0 = cl.getD p' 0 ∧ nexts N cl p = nexts N cl p' := by
      intro p p' hp hp' e
      obtain ⟨i, a, b, h⟩ := D.num p hp
      obtain ⟨i', a', b', h'⟩ := D.num p' hp'
      have : i = i' := by omega
      subst this
      exact ⟨(sg_eq h).1.trans (sg_eq h').1.symm, (sg_eq h).2.trans (sg_eq h').2.symm⟩
    by_cases hend : Fs.length = c
    · refine ⟨nx, ⟨D.len, fun q hq => by have := hnum q hq; omega, fun p p' hp hp' e => hM p p' hp hp' (hfine p p' hp hp' e).1, fun p p' hp hp' e => ?_⟩, HC2, hstep nx ?_ ?_⟩
      · have hx := (hfine p p' hp hp' e).2
        have l1 := F.row p hp
        have l2 := F.row p' hp'
        apply List.ext_getElem (by rw [nexts, nexts, List.length_map, List.length_map]; omega)
        intro j h1 h2
        rw [nexts, List.length_map] at h1 h2
        have e1 := nexts_getD (N := N) nx p j h1
        have e2 := nexts_getD (N := N) nx p' j h2
        rw [List.getD_eq_getElem?_getD (l := nexts N nx p), List.getElem?_eq_getElem (by rw [nexts, List.length_map]; exact h1), Option.getD_some] at e1
        rw [List.getD_eq_getElem?_getD (l := nexts N nx p'), List.getElem?_eq_getElem (by rw [nexts, List.length_map]; exact h2), Option.getD_some] at e2
        rw [e1, e2]
        have q1 := F.ent p hp j (by omega)
        have q2 := F.ent p' hp' j (by omega)
        refine same_nx T D hend (by omega) (by omega) ?_
        rw [← nexts_getD cl p j h1, ← nexts_getD cl p' j h2, hx]
      · simp only [if_pos (show ((Fs.length : Nat) : Int) = (c : Int) by omega)]; exact Ev.now _
      · simp only [if_pos (show ((Fs.length : Nat) : Int) = (c : Int) by omega)]; exact Ev.now _
    · obtain ⟨C', q1, qc, q2, q3⟩ := ih (N.length - Fs.length) (by omega) Fs.length nx rfl hcnt ⟨D.len, fun q hq => by have := hnum q hq; omega⟩ HC2
        ⟨fun i hi => ⟨_, (D.lt i hi).1, (D.lt i hi).2⟩, .inr fun q hq => by obtain ⟨i, a, b, _⟩ := D.num q hq; exact ⟨i, a, b⟩⟩ (fun p p' hp hp' e => hM p p' hp hp' (hfine p p' hp hp' e).1)
      refine ⟨C', q1, qc, hstep C' ?_ ?_⟩
      · simp only [if_neg (show ¬ ((Fs.length : Nat) : Int) = (c : Int) by omega)]; exact q2
      · simp only [if_neg (show ¬ ((Fs.length : Nat) : Int) = (c : Int) by omega)]; exact q3

/-- Both find the same classes. -/
theorem classes_ev (F : Fit A s N M) : ∃ C, Stable N M C ∧ Coarse A N M C ∧ Ev (fun k => det_Classes.f k (A, s, N, M, ())) C ∧ Ev (fun k => evermoreref3_Classes.f k (A, s, N, M, ())) C := by
  have n3 := F.n3; have hm := F.m
  obtain ⟨C, q1, qc, q2, q3⟩ := rounds F _ 0 M rfl (by omega) ⟨F.m, fun q hq => by rcases F.mark q hq with h | h <;> rw [h] <;> omega⟩ (fun p p' _ _ h => h.mark) ⟨fun i hi => by omega, .inl rfl⟩ (fun p p' _ _ e => e)
  refine ⟨C, q1, qc, Ev.bind (x := M) (.all fun k => ?_) q2, ?_⟩
  · rw [Sf8.f, if_pos (show Short M.length from short _ (by omega))]
  · simp only [evermoreref3_Classes.f, List.nil_append, if_pos (fits M.length 8 (by omega) (by omega))]
    exact q3
end Go.Proofs.YtfkilmmldjajmaaSx.DC
namespace Go.Proofs.YtfkilmmldjajmaaSx.DC
variable {A s : Int} {N : List (List Int)} {M : List Int} {C : List Int}
/-- Of each class that a state has, some state. -/
structure OfOk (N : List (List Int)) (C ofs : List Int) (q : Nat) : Prop where
  len : ofs.length = C.length
  ok : ∀ p, p < q → ∃ p' : Nat, p' < N.length ∧ ofs.getD (C.getD p 0).toNat 0 = (p' : Int) ∧ C.getD p' 0 = C.getD p 0

theorem ofs4 (F : Fit A s N M) (S : Stable N M C) (c5 : List (List Int)) (c6 : List Int) : ∀ n i ofs, N.length - i = n → i ≤ N.length → OfOk N C ofs i →
    ∃ ofs', OfOk N C ofs' N.length ∧ ∀ r, Ev (fun k => det_Smallest.l4 k (C.length : Int) (N.length : Int) A s N M 0 0 C c5 c6 ofs') r → Ev (fun k => det_Smallest.l4 k (C.length : Int) (i : Int) A s N M 0 0 C c5 c6 ofs) r := by
  have n3 := F.n3; have hl := S.len
  intro n
  induction n with
  | zero =>
    intro i ofs hn hi H
    have : i = N.length := by omega
    subst this
    exact ⟨ofs, H, fun r E => E⟩
  | succ n ih =>
    intro i ofs hn hi H
    have hc := S.num i (by omega)
    have ho := H.len
    have H' : OfOk N C (ofs.set (C.getD i 0).toNat (i : Int)) (i + 1) := by
      refine ⟨by rw [List.length_set]; exact ho, fun p hp => ?_⟩
      rw [getD_set_int]
      have hcp := S.num p (by omega)
      by_cases e : (C.getD i 0).toNat = (C.getD p 0).toNat
      · rw [if_pos ⟨e, by omega⟩]; exact ⟨i, by omega, rfl, by omega⟩
      · rw [if_neg (fun h => e h.1)]
        have : p ≠ i := fun h => e (by rw [h])
        exact H.ok p (by omega)
    obtain ⟨ofs', q1, q2⟩ := ih (i + 1) _ (by omega) (by omega) H'
    refine ⟨ofs', q1, fun r E => Ev.step (fun k => ?_) (q2 r E)⟩
    have c1 : (0 : Int) ≤ C.getD i (Int.ofNat 0) := hc.1
    have c2 : C.getD i (Int.ofNat 0) < (ofs.length : Int) := by rw [ho, hl]; exact hc.2
    rw [det_Smallest.l4, if_pos (by omega), if_pos (by omega), if_pos (by omega), Int.toNat_natCast, if_pos c1, if_pos c2, wrSucc i (by omega)]
    rfl

/-- Classes as they are come to, the states by which, and their numbers. -/
structure LK (N : List (List Int)) (C : List Int) (L : List Int) (rows : List Nat) (num : List Int) : Prop where
  same : rows.length = L.length
  row : ∀ i, i < L.length → rows.getD i 0 < N.length ∧ C.getD (rows.getD i 0) 0 = L.getD i 0
  nd : L.Nodup
  len : num.length = C.length
  num : ∀ c : Nat, c < C.length → (∃ i, i < L.length ∧ L.getD i 0 = (c : Int) ∧ num.getD c 0 = (i : Int)) ∨ ((c : Int) ∉ L ∧ num.getD c 0 = -1)
theorem nodup_ints (n : Nat) : ∀ l : List Int, l.Nodup → (∀ x ∈ l, 0 ≤ x ∧ x < (n : Int)) → l.length ≤ n := by
  intro l h1 h2
  have := nodup_sub l ((List.range n).map fun i : Nat => (i : Int)) h1 (fun x hx => List.mem_map.2 ⟨x.toNat, by rw [List.mem_range]; have := h2 x hx; omega, by have := h2 x hx; omega⟩)
  simpa using this
theorem mem_int {w : List Int} {x : Int} (h : x ∈ w) : ∃ j, j < w.length ∧ w.getD j 0 = x := by
  obtain ⟨j, hj, e⟩ := List.getElem_of_mem h
  exact ⟨j, hj, by rw [List.getD_eq_getElem?_getD, List.getElem?_eq_getElem hj]; exact e⟩
theorem LK.bound (S : Stable N M C) {L : List Int} {rows : List Nat} {num : List Int} (K : LK N C L rows num) : L.length ≤ N.length :=
  nodup_ints _ L K.nd fun x hx => by
    obtain ⟨j, hj, e⟩ := mem_int hx
    obtain ⟨a, b⟩ := K.row j hj
    rw [← e, ← b]; exact S.num _ a
theorem findIdx_int (L : List Int) (hn : L.Nodup) (i : Nat) (hi : i < L.length) : L.findIdx (fun a => decide (L.getD i 0 = a)) = i := by
  have hx : L.findIdx (fun a => decide (L.getD i 0 = a)) < L.length := by
    rw [List.findIdx_lt_length]
    exact ⟨L.getD i 0, by rw [List.getD_eq_getElem?_getD, List.getElem?_eq_getElem hi]; exact List.getElem_mem hi, by simp⟩
  have := List.findIdx_getElem (w := hx)
  rw [decide_eq_true_iff] at this
  have e : L.getD i 0 = L[i] := by rw [List.getD_eq_getElem?_getD, List.getElem?_eq_getElem hi]; rfl
  have t := e.symm.trans this
  have pw := List.pairwise_iff_getElem.1 hn
  obtain ⟨j, hj⟩ : ∃ j, L.findIdx (fun a => decide (L.getD i 0 = a)) = j := ⟨_, rfl⟩
  have hx' : j < L.length := by rw [← hj]; exact hx
  have t : L[i] = L[j] := by subst hj; exact t
  rw [hj]
  rcases Nat.lt_trichotomy j i with h | h | h
  · exact absurd t.symm (pw j i hx' hi h)
  · exact h
  · exact absurd t (pw i j hi hx' h)
theorem findIdx_none (L : List Int) (x : Int) (h : x ∉ L) : ¬ L.findIdx (fun a => decide (x = a)) < L.length := by
  rw [List.findIdx_lt_length]
  rintro ⟨a, ha, e⟩
  rw [decide_eq_true_iff] at e
  exact h (e ▸ ha)
theorem LK.push (S : Stable N M C) {L : List Int} {rows : List Nat} {num : List Int} (K : LK N C L rows num) (q : Nat) (hq : q < N.length) (hn : C.getD q 0 ∉ L) :
    LK N C (L ++ [C.getD q 0]) (rows ++ [q]) (num.set (C.getD q 0).toNat (L.length : Int)) := by
  have hc := S.num q hq
  have hl := S.len
  have happ : ∀ i, i < L.length → (L ++ [C.getD q 0]).getD i 0 = L.getD i 0 := by
    intro i hi; rw [List.getD_eq_getElem?_getD, List.getElem?_append_left hi, ← List.getD_eq_getElem?_getD]
  have hlast : (L ++ [C.getD q 0]).getD L.length 0 = C.getD q 0 := by
    rw [List.getD_eq_getElem?_getD, List.getElem?_append_right (Nat.le_refl _), Nat.sub_self]; rfl
  refine ⟨by simp [K.same], fun i hi => ?_, ?_, by rw [List.length_set]; exact K.len, fun c hcc => ?_⟩
  · rw [List.length_append, List.length_singleton] at hi
    by_cases h : i < L.length
    · rw [happ i h, getD_app_left _ _ _ (by rw [K.same]; exact h)]; exact K.row i h
    · have : i = L.length := by omega
      subst this
      rw [hlast, ← K.same, getD_app_last]; exact ⟨hq, rfl⟩
  · rw [List.nodup_append]
    refine ⟨K.nd, by simp, fun a ha b hb => ?_⟩
    rw [List.mem_singleton] at hb
    intro e; exact hn (hb ▸ e ▸ ha)
  · rw [getD_set_int]
    by_cases e : (C.getD q 0).toNat = c
    · rw [if_pos ⟨e, by rw [K.len]; exact hcc⟩]
      exact .inl ⟨L.length, by simp, by rw [hlast]; omega, rfl⟩
    · rw [if_neg (fun h => e h.1)]
      rcases K.num c hcc with ⟨i, a, b, d⟩ | ⟨a, b⟩
      · exact .inl ⟨i, by rw [List.length_append]; omega, by rw [happ i a]; exact b, d⟩
      · refine .inr ⟨fun h => ?_, b⟩
        rcases List.mem_append.1 h with h | h
        · exact a h
        · rw [List.mem_singleton] at h; omega
end Go.Proofs.YtfkilmmldjajmaaSx.DC
namespace Go.Proofs.YtfkilmmldjajmaaSx.DC
variable {A s : Int} {N : List (List Int)} {M : List Int} {C : List Int}
theorem sm1 (F : Fit A s N M) (S : Stable N M C) {ofs : List Int} (O : OfOk N C ofs N.length) (p : Nat) (hp : p < N.length) (a : Nat) (ha : (a : Int) < A) (k : Nat) :
    det_Smallest_1.f k (C.getD p 0) (a : Int) A s N M C ofs = some ((nexts N C p).getD a 0, A, s, N, M, C, ofs) := by
  obtain ⟨p', h1, h2, h3⟩ := O.ok p hp
  have hc := S.num p hp
  have hl := S.len; have ho := O.len
  have hr := F.row p' h1
  have he := F.ent p' h1 a ha
  have hx : (nexts N C p).getD a 0 = C.getD ((N.getD p' []).getD a 0).toNat 0 := by rw [← S.next p' p h1 hp h3, nexts_getD C p' a (by omega)]
  have h2' : ofs.getD (C.getD p 0).toNat (Int.ofNat 0) = (p' : Int) := h2
  have c1 : (0 : Int) ≤ (N.getD p' []).getD a (Int.ofNat 0) := he.1
  have c2 : (N.getD p' []).getD a (Int.ofNat 0) < (C.length : Int) := by rw [hl]; exact he.2
  rw [hx, det_Smallest_1.f, if_pos hc.1, if_pos (by omega), h2', if_pos (by omega), if_pos (by omega), if_pos (by omega), rd_nat, if_pos (by omega), rd_nat, if_pos c1, if_pos c2]
  rfl
theorem sm2 (F : Fit A s N M) (S : Stable N M C) {ofs : List Int} (O : OfOk N C ofs N.length) (p : Nat) (hp : p < N.length) (k : Nat) :
    det_Smallest_2.f k (C.getD p 0) A s N M ofs = some (M.getD p 0, A, s, N, M, ofs) := by
  obtain ⟨p', h1, h2, h3⟩ := O.ok p hp
  have hc := S.num p hp
  have hl := S.len; have ho := O.len; have hm := F.m
  have h2' : ofs.getD (C.getD p 0).toNat (Int.ofNat 0) = (p' : Int) := h2
  rw [det_Smallest_2.f, if_pos hc.1, if_pos (by omega), h2', if_pos (by omega), if_pos (by omega), rd_nat, ← S.mark p' p h1 hp h3]
  rfl
abbrev nm (L : List Int) : List (Int × Int) := numb (K := .int .i64) (fun x : Int => x) 0 L

theorem tand (F : Fit A s N M) (S : Stable N M C) {ofs : List Int} (O : OfOk N C ofs N.length) (i p : Nat) (hp : p < N.length) (c10 c11 : List (List Int)) (c12 : List (List Int)) (c13 : List Int) (d10 : List Int) (d7 : List (List Int)) (d8 : List Int) (d9 : List (List Int)) (e10 : List Int) : ∀ n a L rows num nxt, A.toNat - a = n → (a : Int) ≤ A → LK N C L rows num → i < L.length → rows.getD i 0 = p → nxt.length = A.toNat → (∀ j, j < a → 0 ≤ nxt.getD j 0 ∧ nxt.getD j 0 < (L.length : Int)) →
    ∃ L' rows' num' nxt', LK N C L' rows' num' ∧ L.length ≤ L'.length ∧ rows'.getD i 0 = p ∧ nxt'.length = A.toNat ∧ (∀ j, j < A.toNat → 0 ≤ nxt'.getD j 0 ∧ nxt'.getD j 0 < (L'.length : Int)) ∧
      (∀ r, Ev (fun k => det_Explore_int_.l8 k A ((C.length : Int) + 1) (C.getD p 0) A A A s N M C ofs 0 0 A 0 (nm L') L' nxt' c10 d10 c12 c13) r → Ev (fun k => det_Explore_int_.l8 k A ((C.length : Int) + 1) (C.getD p 0) A (a : Int) A s N M C ofs 0 0 A 0 (nm L) L nxt c10 d10 c12 c13) r) ∧
      (∀ r, Ev (fun k => evermoreref3_Least.l15 k (i : Int) A A s N M 0 0 C num' (ints rows') A 0 nxt' d7 d8 d9 e10) r → Ev (fun k => evermoreref3_Least.l15 k (i : Int) (a : Int) A s N M 0 0 C num (ints rows) A 0 nxt d7 d8 d9 e10) r) := by
  have a1 := F.a1; have a4 := F.a4; have n3 := F.n3
  have hl := S.len
  have hrow := F.row p hp
  intro n
  induction n with
  | zero =>
    intro a L rows num nxt hn ha K hi hr hx hv
    have haa : a = A.toNat := by omega
    have : (a : Int) = A := by omega
    rw [this]
    exact ⟨L, rows, num, nxt, K, Nat.le_refl _, hr, hx, fun j hj => hv j (by omega), fun r E => E, fun r E => E⟩
  | succ n ih =>
    intro a L rows num nxt hn ha K hi hr hx hv
    have hvs : ∀ (m : Nat) (v : Int), L.length ≤ m → 0 ≤ v → v < (m : Int) → ∀ j, j < a + 1 → 0 ≤ (nxt.set a v).getD j 0 ∧ (nxt.set a v).getD j 0 < (m : Int) := by
      intro m v h1 h2 h3 j hj
      rw [getD_set_int]
      by_cases e : a = j ∧ j < nxt.length
      · rw [if_pos e]; omega
      · rw [if_neg e]; have := hv j (by omega); omega
    have haA : (a : Int) < A := by omega
    have he := F.ent p hp a haA
    have hb := K.bound S
    have hsame := K.same
    have hklen := K.len
    obtain ⟨q, hq, hqe⟩ : ∃ q : Nat, q < N.length ∧ (N.getD p []).getD a 0 = (q : Int) := ⟨((N.getD p []).getD a 0).toNat, by omega, by omega⟩
    have ht : (nexts N C p).getD a 0 = C.getD q 0 := by rw [nexts_getD C p a (by omega), hqe, Int.toNat_natCast]
    have hc := S.num q hq
    have hsm := sm1 F S O p hp a haA
    rw [ht] at hsm
    have hhas := numb_has (K := .int .i64) (fun x : Int => x) (C.getD q 0) L 0
    have hget := numb_get (K := .int .i64) (fun x : Int => x) (C.getD q 0) L 0
    have hrp : (ints rows).getD i (Int.ofNat 0) = (p : Int) := by rw [ints_getD rows i (by omega), hr]
    have hqe' : (N.getD p []).getD a (Int.ofNat 0) = (q : Int) := hqe
    -- the reference's step up to the test
    have refq : ∀ k, evermoreref3_Least.l15 (k + 1) (i : Int) (a : Int) A s N M 0 0 C num (ints rows) A 0 nxt d7 d8 d9 e10 =
        if num.getD (C.getD q 0).toNat 0 < 0 then
          (if fitsIn (ints rows ++ [(q : Int)]).length 8 = true then evermoreref3_Least.j21 k (i : Int) (a : Int) (q : Int) A s N M 0 0 C (num.set (C.getD q 0).toNat ((ints rows).length : Int)) (ints rows ++ [(q : Int)]) A 0 nxt d7 d8 d9 e10 else none)
        else evermoreref3_Least.j21 k (i : Int) (a : Int) (q : Int) A s N M 0 0 C num (ints rows) A 0 nxt d7 d8 d9 e10 := by
      intro k
      have c1 : (0 : Int) ≤ C.getD q (Int.ofNat 0) := hc.1
      have c2 : C.getD q (Int.ofNat 0) < (num.length : Int) := by rw [hklen, hl]; exact hc.2
      rw [evermoreref3_Least.l15, if_pos haA, if_pos (by omega), if_pos (by rw [ints_len]; omega), Int.toNat_natCast, hrp, if_pos (by omega), if_pos (by omega), if_pos (by omega), rd_nat, if_pos (by omega), rd_nat, hqe', if_pos (by omega), if_pos (by omega), Int.toNat_natCast, if_pos c1, if_pos c2]
      rw [if_pos (show (0 : Int) ≤ (q : Int) by omega), if_pos (show (q : Int) < (C.length : Int) by omega), if_pos c1, if_pos c2]
      rfl
    have j21 : ∀ num2 rows2 (v : Int) k, num2.length = C.length → num2.getD (C.getD q 0).toNat 0 = v → evermoreref3_Least.j21 (k + 1) (i : Int) (a : Int) (q : Int) A s N M 0 0 C num2 (ints rows2) A 0 nxt d7 d8 d9 e10 =
        evermoreref3_Least.l15 k (i : Int) ((a + 1 : Nat) : Int) A s N M 0 0 C num2 (ints rows2) A 0 (nxt.set a v) d7 d8 d9 e10 := by
      intro num2 rows2 v k h2 hv
      subst hv
      have c1 : (0 : Int) ≤ C.getD q (Int.ofNat 0) := hc.1
      have c2 : C.getD q (Int.ofNat 0) < (num2.length : Int) := by rw [h2, hl]; exact hc.2
      rw [evermoreref3_Least.j21, if_pos (by omega), if_pos (by omega), Int.toNat_natCast, if_pos c1, if_pos c2, if_pos (by omega), if_pos (by omega), wrSucc a (by omega), Int.toNat_natCast]
      rfl
    have j18 : ∀ L2 (v : Int) k, det_Explore_int_.j18 (k + 1) A ((C.length : Int) + 1) (C.getD p 0) (a : Int) v A (a : Int) A s N M C ofs 0 0 A 0 (nm L2) L2 nxt c10 d10 c12 c13 =
        det_Explore_int_.l8 k A ((C.length : Int) + 1) (C.getD p 0) A ((a + 1 : Nat) : Int) A s N M C ofs 0 0 A 0 (nm L2) L2 (nxt.set a v) c10 d10 c12 c13 := by
      intro L2 v k
      rw [det_Explore_int_.j18, if_pos (by omega), if_pos (by omega), wrSucc a (by omega), Int.toNat_natCast]
    rcases K.num (C.getD q 0).toNat (by omega) with ⟨i2, h1, h2, h3⟩ | ⟨h1, h2⟩
    · -- known
      have ei : L.getD i2 0 = C.getD q 0 := by omega
      have hidx : L.findIdx (fun x => (Ty.int .i64).beq (C.getD q 0) x) = i2 := by
        have := findIdx_int L K.nd i2 h1
        rw [ei] at this; exact this
      rw [hidx, decide_eq_true h1] at hhas
      rw [hidx, if_pos h1, Nat.zero_add] at hget
      obtain ⟨L', rows', num', nxt', q1, q2, q3, q4, qv, q5, q6⟩ := ih (a + 1) L rows num (nxt.set a (i2 : Int)) (by omega) (by omega) K hi hr (by rw [List.length_set]; exact hx) (hvs L.length (i2 : Int) (Nat.le_refl _) (by omega) (by omega))
      refine ⟨L', rows', num', nxt', q1, q2, q3, q4, qv, fun r E => Ev.step (fun k => ?_) (Ev.step (g := fun k => det_Explore_int_.j18 k A ((C.length : Int) + 1) (C.getD p 0) (a : Int) (i2 : Int) A (a : Int) A s N M C ofs 0 0 A 0 (nm L) L nxt c10 d10 c12 c13) (fun k => j18 L (i2 : Int) k) (q5 r E)), fun r E => Ev.step (fun k => ?_) (Ev.step (g := fun k => evermoreref3_Least.j21 k (i : Int) (a : Int) (q : Int) A s N M 0 0 C num (ints rows) A 0 nxt d7 d8 d9 e10) (fun k => j21 num rows (i2 : Int) k hklen h3) (q6 r E))⟩
      · rw [det_Explore_int_.l8, if_pos haA, hsm, Option.bind_some]
        have hh : mhas (.int .i64) (.int .i64) (nm L) (C.getD q 0) = true := hhas
        have hg : mget (.int .i64) (.int .i64) (nm L) (C.getD q 0) = (i2 : Int) := hget
        simp only [hh, if_true, hg]
      · rw [refq, if_neg (by rw [h3]; omega)]
    · -- new
      have hnot : C.getD q 0 ∉ L := by
        have : (((C.getD q 0).toNat : Nat) : Int) = C.getD q 0 := by omega
        rw [this] at h1; exact h1
      have hidx : ¬ L.findIdx (fun x => (Ty.int .i64).beq (C.getD q 0) x) < L.length := findIdx_none L (C.getD q 0) hnot
      have hh : mhas (.int .i64) (.int .i64) (nm L) (C.getD q 0) = false := by
        rw [decide_eq_false hidx] at hhas; exact hhas
      have hput : mput (.int .i64) (.int .i64) (nm L) (C.getD q 0) ((L.length : Nat) : Int) = nm (L ++ [C.getD q 0]) := by
        have := numb_put (K := .int .i64) (fun x : Int => x) (C.getD q 0) L 0 hidx
        rw [Nat.zero_add] at this; exact this
      have K2 := K.push S q hq hnot
      have hb2 := K2.bound S
      rw [List.length_append, List.length_singleton] at hb2
      obtain ⟨L', rows', num', nxt', q1, q2, q3, q4, qv, q5, q6⟩ := ih (a + 1) (L ++ [C.getD q 0]) (rows ++ [q]) (num.set (C.getD q 0).toNat (L.length : Int)) (nxt.set a (L.length : Int)) (by omega) (by omega) K2 (by rw [List.length_append]; omega) (by rw [getD_app_left _ _ _ (by omega)]; exact hr) (by rw [List.length_set]; exact hx) (by rw [List.length_append, List.length_singleton]; exact hvs (L.length + 1) (L.length : Int) (by omega) (by omega) (by omega))
      have hn2 : (num.set (C.getD q 0).toNat (L.length : Int)).getD (C.getD q 0).toNat 0 = (L.length : Int) := by rw [getD_set_int, if_pos ⟨rfl, by omega⟩]
      refine ⟨L', rows', num', nxt', q1, by rw [List.length_append] at q2; omega, q3, q4, qv, fun r E => Ev.step (fun k => ?_) (Ev.step (g := fun k => det_Explore_int_.j18 k A ((C.length : Int) + 1) (C.getD p 0) (a : Int) (L.length : Int) A (a : Int) A s N M C ofs 0 0 A 0 (nm (L ++ [C.getD q 0])) (L ++ [C.getD q 0]) nxt c10 d10 c12 c13) (fun k => j18 (L ++ [C.getD q 0]) (L.length : Int) k) (q5 r E)), fun r E => Ev.step (fun k => ?_) (Ev.step (g := fun k => evermoreref3_Least.j21 k (i : Int) (a : Int) (q : Int) A s N M 0 0 C (num.set (C.getD q 0).toNat (L.length : Int)) (ints (rows ++ [q])) A 0 nxt d7 d8 d9 e10) (fun k => j21 _ (rows ++ [q]) (L.length : Int) k (by rw [List.length_set]; exact hklen) hn2) (q6 r E))⟩
      · rw [det_Explore_int_.l8, if_pos haA, hsm, Option.bind_some]
        simp only [hh, Bool.false_eq_true, if_false, hput]
        rw [if_neg (by omega), if_pos (fit1 _ (by rw [List.length_append, List.length_singleton]; omega))]
      · rw [refq, if_pos (by rw [h2]; omega), if_pos (fit1 _ (by rw [List.length_append, ints_len, List.length_singleton]; omega)), ints_len, hsame]
        rw [show ints rows ++ [(q : Int)] = ints (rows ++ [q]) by simp [ints]]
end Go.Proofs.YtfkilmmldjajmaaSx.DC
namespace Go.Proofs.YtfkilmmldjajmaaSx.DC
variable {A s : Int} {N : List (List Int)} {M : List Int} {C : List Int}
/-- What a least automaton is made of. -/
structure Made (A : Int) (m : Nat) (X : List (List Int)) (Y : List Int) : Prop where
  row : ∀ x ∈ X, x.length = A.toNat ∧ ∀ j, j < A.toNat → 0 ≤ x.getD j 0 ∧ x.getD j 0 < (m : Int)
  mark : ∀ y ∈ Y, y = 0 ∨ y = 1
theorem Made.more {A : Int} {m m' : Nat} {X : List (List Int)} {Y : List Int} (H : Made A m X Y) (h : m ≤ m') : Made A m' X Y :=
  ⟨fun x hx => ⟨(H.row x hx).1, fun j hj => by have := (H.row x hx).2 j hj; omega⟩, H.mark⟩
theorem outer (F : Fit A s N M) (S : Stable N M C) {ofs : List Int} (O : OfOk N C ofs N.length) : ∀ n i L rows num X Y, N.length - i = n → LK N C L rows num → i ≤ L.length → X.length = i → Y.length = i → Made A L.length X Y →
    ∃ X' Y', Made A X'.length X' Y' ∧ Y'.length = X'.length ∧ X'.length ≤ N.length ∧ L.length ≤ X'.length ∧ Ev (fun k => det_Explore_int_.l4 k A ((C.length : Int) + 1) A s N M C ofs 0 0 A 0 (nm L) L [] [] X Y) (A, 0, true, A, s, N, M, C, ofs, X', Y') ∧
      Ev (fun k => evermoreref3_Least.l11 k (i : Int) A s N M 0 0 C num (ints rows) A 0 [] [] X Y) (A, 0, X', Y') := by
  have a1 := F.a1; have a4 := F.a4; have n3 := F.n3
  have hl := S.len
  intro n
  have fin : ∀ i L rows num X Y, LK N C L rows num → i = L.length → X.length = i → Y.length = i → Made A L.length X Y →
    ∃ X' Y', Made A X'.length X' Y' ∧ Y'.length = X'.length ∧ X'.length ≤ N.length ∧ L.length ≤ X'.length ∧ Ev (fun k => det_Explore_int_.l4 k A ((C.length : Int) + 1) A s N M C ofs 0 0 A 0 (nm L) L [] [] X Y) (A, 0, true, A, s, N, M, C, ofs, X', Y') ∧
      Ev (fun k => evermoreref3_Least.l11 k (i : Int) A s N M 0 0 C num (ints rows) A 0 [] [] X Y) (A, 0, X', Y') := by
    intro i L rows num X Y K hi hX hY hM
    have hs := K.same
    have hbb := K.bound S
    refine ⟨X, Y, by rw [hX, hi]; exact hM, by omega, by omega, by omega, Ev.step (h := fun _ => some (A, 0, true, A, s, N, M, C, ofs, X, Y)) (fun k => ?_) (Ev.now _), Ev.step (h := fun _ => some (A, 0, X, Y)) (fun k => ?_) (Ev.now _)⟩
    · rw [det_Explore_int_.l4, if_neg (by omega)]
    · rw [evermoreref3_Least.l11, if_neg (by rw [ints_len]; omega)]
  induction n with
  | zero =>
    intro i L rows num X Y hn K hi hX hY hM
    have := K.bound S
    exact fin i L rows num X Y K (by omega) hX hY hM
  | succ n ih =>
    intro i L rows num X Y hn K hi hX hY hM
    by_cases hiL : i < L.length
    · obtain ⟨hp, hpe⟩ := K.row i hiL
      have hs := K.same
      have hb := K.bound S
      obtain ⟨L', rows', num', nxt', q1, q2, q3, q4, qv, q5, q6⟩ := tand F S O i (rows.getD i 0) hp [] [] X Y [] [] [] X Y _ 0 L rows num (List.replicate A.toNat 0) rfl (by omega) K hiL rfl (by simp) (fun j hj => by omega)
      have hM2 : Made A L'.length (X ++ [nxt']) (Y ++ [M.getD (rows.getD i 0) 0]) := by
        have := hM.more q2
        refine ⟨fun x hx => ?_, fun y hy => ?_⟩
        · rcases List.mem_append.1 hx with h | h
          · exact this.row x h
          · rw [List.mem_singleton] at h; rw [h]; exact ⟨q4, qv⟩
        · rcases List.mem_append.1 hy with h | h
          · exact this.mark y h
          · rw [List.mem_singleton] at h; rw [h]; exact F.mark _ hp
      obtain ⟨X', Y', m1, m2, m3, m4, e1, e2⟩ := ih (i + 1) L' rows' num' (X ++ [nxt']) (Y ++ [M.getD (rows.getD i 0) 0]) (by omega) q1 (by omega) (by simp [hX]) (by simp [hY]) hM2
      have hs' := q1.same
      have hb' := q1.bound S
      have hk : L.getD X.length (Int.ofNat 0) = C.getD (rows.getD i 0) 0 := by rw [hX]; exact hpe.symm
      have hm := F.m
      refine ⟨X', Y', m1, m2, m3, by omega, Ev.step (fun k => ?_) (q5 _ (Ev.step (fun k => ?_) e1)), Ev.step (fun k => ?_) (q6 _ (Ev.step (fun k => ?_) e2))⟩
      · rw [det_Explore_int_.l4, if_pos (by omega), if_pos (by omega), if_pos (by omega), if_pos (by omega), if_pos (by omega), if_pos (by omega), Int.toNat_natCast, hk]
        rfl
      · rw [det_Explore_int_.l8, if_neg (by omega), if_pos (fit1 _ (by simp; omega)), sm2 F S O _ hp, Option.bind_some]
        exact if_pos (fit1 _ (by simp; omega))
      · rw [evermoreref3_Least.l11, if_pos (by rw [ints_len]; omega), if_pos (by omega), if_pos (by omega), if_pos (by omega)]
        rfl
      · have hrp : (ints rows').getD i (Int.ofNat 0) = ((rows.getD i 0 : Nat) : Int) := by rw [ints_getD rows' i (by omega), q3]
        rw [evermoreref3_Least.l15, if_neg (by omega), if_pos (fit1 _ (by simp; omega)), if_pos (by omega), if_pos (by rw [ints_len]; omega), Int.toNat_natCast, hrp, if_pos (by omega), if_pos (by omega), rd_nat]
        rw [wrSucc i (by omega)]
        exact if_pos (fit1 _ (by simp; omega))
    · exact fin i L rows num X Y K (by omega) hX hY hM
end Go.Proofs.YtfkilmmldjajmaaSx.DC
namespace Go.Proofs.YtfkilmmldjajmaaSx.DC
variable {A s : Int} {N : List (List Int)} {M : List Int} {C : List Int}
theorem Ev_eq {α : Type} {g h : Nat → Option α} {r : α} (e : ∀ k, g k = h k) (H : Ev h r) : Ev g r := by
  obtain ⟨k0, H⟩ := H
  exact ⟨k0, fun k hk => by rw [e]; exact H k hk⟩
theorem minus (S : Stable N M C) (F : Fit A s N M) (r : Int × Int × List (List Int) × List Int)
    (H : Ev (fun k => evermoreref3_Least.l11 k 0 A s N M 0 0 C ((List.replicate C.length (-1 : Int)).set (C.getD s.toNat 0).toNat 0) [s] A 0 [] [] [] []) r) : ∀ n i, C.length - i = n → i ≤ C.length →
    Ev (fun k => evermoreref3_Least.l4 k (i : Int) A s N M 0 0 C (List.replicate i (-1 : Int) ++ List.replicate n 0) [] []) r := by
  have n3 := F.n3
  have hl := S.len
  have hs := F.s
  have hc := S.num s.toNat (by omega)
  intro n
  induction n with
  | zero =>
    intro i hn hi
    have : i = C.length := by omega
    subst this
    refine Ev.step (fun k => ?_) H
    have c1 : (0 : Int) ≤ C.getD s.toNat (Int.ofNat 0) := hc.1
    have c2 : C.getD s.toNat (Int.ofNat 0) < (((List.replicate C.length (-1 : Int) ++ List.replicate 0 0).length : Nat) : Int) := by simp only [List.length_append, List.length_replicate]; have := hc.2; have h' : C.getD s.toNat (Int.ofNat 0) < (N.length : Int) := hc.2; omega
    rw [evermoreref3_Least.l4, if_neg (by simp), if_pos hs.1, if_pos (by omega), if_pos c1, if_pos c2, List.replicate_zero, List.append_nil]
    rfl
  | succ n ih =>
    intro i hn hi
    refine Ev.step (fun k => ?_) (ih (i + 1) (by omega) (by omega))
    have e : (List.replicate i (-1 : Int) ++ List.replicate (n + 1) 0).set i (-1) = List.replicate (i + 1) (-1 : Int) ++ List.replicate n 0 := by
      rw [List.set_append_right _ _ (by simp), List.length_replicate, Nat.sub_self, List.replicate_succ (n := n), List.set_cons_zero, List.replicate_succ' (n := i), List.append_assoc]; rfl
    rw [evermoreref3_Least.l4, if_pos (by simp only [List.length_append, List.length_replicate]; omega), if_pos (by omega), if_pos (by simp only [List.length_append, List.length_replicate]; omega), wrSucc i (by omega), Int.toNat_natCast]
    rw [← e]

/-- Both make the same least automaton. -/
theorem least_ev (F : Fit A s N M) : ∃ X Y, Made A X.length X Y ∧ Y.length = X.length ∧ X.length ≤ N.length ∧ 1 ≤ X.length ∧ Ev (fun k => det_Smallest.f k (A, s, N, M, ())) (A, 0, X, Y) ∧ Ev (fun k => evermoreref3_Least.f k (A, s, N, M, ())) (A, 0, X, Y) := by
  obtain ⟨C, S, _, c1, c2⟩ := classes_ev F
  have n3 := F.n3
  have hl := S.len
  have hs := F.s
  have hc := S.num s.toNat (by omega)
  obtain ⟨ofs, O, o1⟩ := ofs4 F S [] [] _ 0 (List.replicate C.length 0) rfl (by omega) ⟨by simp, fun p hp => by omega⟩
  have K : LK N C [C.getD s.toNat 0] [s.toNat] ((List.replicate C.length (-1 : Int)).set (C.getD s.toNat 0).toNat 0) := by
    refine ⟨rfl, fun i hi => ?_, by simp, by simp, fun c hcc => ?_⟩
    · have : i = 0 := by simp at hi; omega
      subst this; exact ⟨by show s.toNat < _; omega, rfl⟩
    · rw [getD_set_int]
      by_cases e : (C.getD s.toNat 0).toNat = c
      · rw [if_pos ⟨e, by simpa using hcc⟩]; exact .inl ⟨0, by simp, by show C.getD s.toNat 0 = _; omega, rfl⟩
      · rw [if_neg (fun h => e h.1)]
        refine .inr ⟨fun h => ?_, ?_⟩
        · rw [List.mem_singleton] at h; omega
        · rw [List.getD_eq_getElem?_getD, List.getElem?_replicate, if_pos hcc]; rfl
  obtain ⟨X, Y, m1, m2, m3, m4, e1, e2⟩ := outer F S O _ 0 _ _ _ [] [] rfl K (by simp) rfl rfl ⟨fun x hx => by simp at hx, fun y hy => by simp at hy⟩
  refine ⟨X, Y, m1, m2, m3, m4, ?_, ?_⟩
  · simp only [det_Smallest.f]
    refine Ev.bind c1 ?_
    have E : Ev (fun k => det_Smallest.l4 k (C.length : Int) (N.length : Int) A s N M 0 0 C [] [] ofs) (A, 0, X, Y) := by
      refine Ev.step (h := fun k => (det_Explore_int_.f k A (C.getD s.toNat 0) ((C.length : Int) + 1) A s N M C ofs).bind fun r5 => some (r5.fst, r5.snd.fst, r5.snd.snd.snd.snd.snd.snd.snd.snd.snd.fst, r5.snd.snd.snd.snd.snd.snd.snd.snd.snd.snd)) (fun k => ?_) (Ev.bind (x := (A, 0, true, A, s, N, M, C, ofs, X, Y)) e1 (Ev.now _))
      rw [det_Smallest.l4, if_neg (by omega), if_pos hs.1, if_pos (by omega), wr64 _ (by omega) (by omega)]
      rfl
    refine Ev_eq (fun k => ?_) (o1 _ E)
    rw [if_pos (by omega), if_pos (by omega), if_pos (by omega), Int.toNat_natCast]
    rfl
  · simp only [evermoreref3_Least.f]
    refine Ev.bind c2 ?_
    have e2' : Ev (fun k => evermoreref3_Least.l11 k 0 A s N M 0 0 C ((List.replicate C.length (-1 : Int)).set (C.getD s.toNat 0).toNat 0) [s] A 0 [] [] [] []) (A, 0, X, Y) := by
      have : ints [s.toNat] = [s] := by show [((s.toNat : Nat) : Int)] = [s]; rw [show ((s.toNat : Nat) : Int) = s by omega]
      rw [this] at e2; exact e2
    refine Ev_eq (fun k => ?_) (minus S F _ e2' _ 0 rfl (by omega))
    rw [if_pos (by omega), if_pos (by omega), if_pos (by omega), Int.toNat_natCast]
    rfl
end Go.Proofs.YtfkilmmldjajmaaSx.DC
namespace Go.Proofs.YtfkilmmldjajmaaSx.DC
variable {A s : Int} {N : List (List Int)} {M : List Int}
theorem getD_memW (w : List (List Int)) (j : Nat) (h : j < w.length) : w.getD j [] ∈ w := by
  rw [List.getD_eq_getElem?_getD, List.getElem?_eq_getElem h]; exact List.getElem_mem h
theorem getD_memI (w : List Int) (j : Nat) (h : j < w.length) : w.getD j 0 ∈ w := by
  rw [List.getD_eq_getElem?_getD, List.getElem?_eq_getElem h]; exact List.getElem_mem h
theorem fit_of (F : Fit A s N M) {X : List (List Int)} {Y : List Int} (H : Made A X.length X Y) (h1 : Y.length = X.length) (h2 : X.length ≤ N.length) (h3 : 1 ≤ X.length) : Fit A 0 X Y := by
  have a1 := F.a1; have a4 := F.a4; have n3 := F.n3
  refine ⟨a1, a4, h3, by omega, h1, fun q hq => ?_, by omega, fun q hq a ha => ?_, fun q hq => H.mark _ (getD_memI _ _ (by omega))⟩
  · have := (H.row _ (getD_memW X q hq)).1; omega
  · exact (H.row _ (getD_memW X q hq)).2 a (by omega)
end Go.Proofs.YtfkilmmldjajmaaSx.DC
namespace Go.Proofs.YtfkilmmldjajmaaSx.DC
variable {A s : Int} {N : List (List Int)} {M : List Int} {C : List Int}
theorem Stable.same (F : Fit A s N M) (S : Stable N M C) {p p' : Nat} (hp : p < N.length) (hp' : p' < N.length) (h : C.getD p 0 = C.getD p' 0) : Same A N M p N M p' := by
  refine Same.of (fun p p' => p < N.length ∧ p' < N.length ∧ C.getD p 0 = C.getD p' 0) (fun p p' h => S.mark p p' h.1 h.2.1 h.2.2) (fun p p' a h ha => ?_) p p' ⟨hp, hp', h⟩
  obtain ⟨h1, h2, h3⟩ := h
  have e1 := F.ent p h1 a ha
  have e2 := F.ent p' h2 a ha
  have r1 := F.row p h1
  have r2 := F.row p' h2
  have hn := S.next p p' h1 h2 h3
  refine ⟨by omega, by omega, ?_⟩
  rw [← nexts_getD (N := N) C p a (by omega), ← nexts_getD (N := N) C p' a (by omega), hn]
/-- The state that a letter leads to. -/
abbrev nx (N : List (List Int)) (p a : Nat) : Nat := ((N.getD p []).getD a 0).toNat

section
variable (d7 : List (List Int)) (d8 : List Int) (d9 : List (List Int)) (e10 : List Int)
/-- The reference's step. -/
theorem ls_known (F : Fit A s N M) (S : Stable N M C) {L : List Int} {rows : List Nat} {num : List Int} (K : LK N C L rows num) (i p a : Nat) (hp : p < N.length) (ha : (a : Int) < A) (hi : i < L.length) (hr : rows.getD i 0 = p) (nxt : List Int) (hx : nxt.length = A.toNat)
    (v : Int) (hv : num.getD (C.getD (nx N p a) 0).toNat 0 = v) (h0 : 0 ≤ v) (r : Int × Int × List (List Int) × List Int)
    (E : Ev (fun k => evermoreref3_Least.l15 k (i : Int) ((a + 1 : Nat) : Int) A s N M 0 0 C num (ints rows) A 0 (nxt.set a v) d7 d8 d9 e10) r) :
    Ev (fun k => evermoreref3_Least.l15 k (i : Int) (a : Int) A s N M 0 0 C num (ints rows) A 0 nxt d7 d8 d9 e10) r := by
  have a1 := F.a1; have a4 := F.a4; have n3 := F.n3
  have hl := S.len
  have hrow := F.row p hp
  have he := F.ent p hp a ha
  have hb := K.bound S
  have hsame := K.same
  have hklen := K.len
  obtain ⟨q, hq, hqe⟩ : ∃ q : Nat, q < N.length ∧ (N.getD p []).getD a 0 = (q : Int) := ⟨((N.getD p []).getD a 0).toNat, by omega, by omega⟩
  rw [nx, hqe, Int.toNat_natCast] at hv
  have hc := S.num q hq
  have hrp : (ints rows).getD i (Int.ofNat 0) = (p : Int) := by rw [ints_getD rows i (by omega), hr]
  have hqe' : (N.getD p []).getD a (Int.ofNat 0) = (q : Int) := hqe
  have c1 : (0 : Int) ≤ C.getD q (Int.ofNat 0) := hc.1
  have c2 : C.getD q (Int.ofNat 0) < (num.length : Int) := by rw [hklen, hl]; exact hc.2
  have hv' : num.getD (C.getD q (Int.ofNat 0)).toNat 0 = v := hv
  have hv'' : num.getD (C.getD q (Int.ofNat 0)).toNat (Int.ofNat 0) = v := hv
  refine Ev.step (h := fun k => evermoreref3_Least.j21 k (i : Int) (a : Int) (q : Int) A s N M 0 0 C num (ints rows) A 0 nxt d7 d8 d9 e10) (fun k => ?_) (Ev.step (fun k => ?_) E)
  · rw [evermoreref3_Least.l15, if_pos ha, if_pos (by omega), if_pos (by rw [ints_len]; omega), Int.toNat_natCast, hrp, if_pos (by omega), if_pos (by omega), if_pos (by omega), rd_nat, if_pos (by omega), rd_nat, hqe', if_pos (by omega), if_pos (by omega), Int.toNat_natCast, if_pos c1, if_pos c2, hv'', if_neg (by omega)]
  · rw [evermoreref3_Least.j21, if_pos (by omega), if_pos (by omega), Int.toNat_natCast, if_pos c1, if_pos c2, if_pos (by omega), if_pos (by omega), wrSucc a (by omega), Int.toNat_natCast, hv'']
theorem ls_new (F : Fit A s N M) (S : Stable N M C) {L : List Int} {rows : List Nat} {num : List Int} (K : LK N C L rows num) (i p a : Nat) (hp : p < N.length) (ha : (a : Int) < A) (hi : i < L.length) (hr : rows.getD i 0 = p) (nxt : List Int) (hx : nxt.length = A.toNat)
    (hv : num.getD (C.getD (nx N p a) 0).toNat 0 < 0) (r : Int × Int × List (List Int) × List Int)
    (E : Ev (fun k => evermoreref3_Least.l15 k (i : Int) ((a + 1 : Nat) : Int) A s N M 0 0 C (num.set (C.getD (nx N p a) 0).toNat (L.length : Int)) (ints (rows ++ [nx N p a])) A 0 (nxt.set a (L.length : Int)) d7 d8 d9 e10) r) :
    Ev (fun k => evermoreref3_Least.l15 k (i : Int) (a : Int) A s N M 0 0 C num (ints rows) A 0 nxt d7 d8 d9 e10) r := by
  have a1 := F.a1; have a4 := F.a4; have n3 := F.n3
  have hl := S.len
  have hrow := F.row p hp
  have he := F.ent p hp a ha
  have hb := K.bound S
  have hsame := K.same
  have hklen := K.len
  obtain ⟨q, hq, hqe⟩ : ∃ q : Nat, q < N.length ∧ (N.getD p []).getD a 0 = (q : Int) := ⟨((N.getD p []).getD a 0).toNat, by omega, by omega⟩
  rw [nx, hqe, Int.toNat_natCast] at hv E
  have hc := S.num q hq
  have hrp : (ints rows).getD i (Int.ofNat 0) = (p : Int) := by rw [ints_getD rows i (by omega), hr]
  have hqe' : (N.getD p []).getD a (Int.ofNat 0) = (q : Int) := hqe
  have c1 : (0 : Int) ≤ C.getD q (Int.ofNat 0) := hc.1
  have c2 : C.getD q (Int.ofNat 0) < (num.length : Int) := by rw [hklen, hl]; exact hc.2
  have hv'' : num.getD (C.getD q (Int.ofNat 0)).toNat (Int.ofNat 0) < 0 := hv
  have hn2 : (num.set (C.getD q 0).toNat (L.length : Int)).getD (C.getD q 0).toNat 0 = (L.length : Int) := by rw [getD_set_int, if_pos ⟨rfl, by omega⟩]
  have hn3 : (num.set (C.getD q 0).toNat (L.length : Int)).getD (C.getD q (Int.ofNat 0)).toNat (Int.ofNat 0) = (L.length : Int) := hn2
  have c3 : C.getD q (Int.ofNat 0) < ((num.set (C.getD q 0).toNat (L.length : Int)).length : Int) := by rw [List.length_set]; exact c2
  have hie : ints rows ++ [(q : Int)] = ints (rows ++ [q]) := by simp [ints]
  refine Ev.step (h := fun k => evermoreref3_Least.j21 k (i : Int) (a : Int) (q : Int) A s N M 0 0 C (num.set (C.getD q 0).toNat (L.length : Int)) (ints (rows ++ [q])) A 0 nxt d7 d8 d9 e10) (fun k => ?_) (Ev.step (fun k => ?_) E)
  · rw [evermoreref3_Least.l15, if_pos ha, if_pos (by omega), if_pos (by rw [ints_len]; omega), Int.toNat_natCast, hrp, if_pos (by omega), if_pos (by omega), if_pos (by omega), rd_nat, if_pos (by omega), rd_nat, hqe', if_pos (by omega), if_pos (by omega), Int.toNat_natCast, if_pos c1, if_pos c2, if_pos hv'']
    rw [if_pos (show (0 : Int) ≤ (q : Int) by omega), if_pos (show (q : Int) < (C.length : Int) by omega), if_pos c1, if_pos c2, if_pos (fit1 _ (by rw [List.length_append, ints_len, List.length_singleton]; omega)), ints_len, hsame, hie]
    rfl
  · rw [evermoreref3_Least.j21, if_pos (by omega), if_pos (by omega), Int.toNat_natCast, if_pos c1, if_pos c3, if_pos (by omega), if_pos (by omega), wrSucc a (by omega), Int.toNat_natCast, hn3]
end
/-- Two automata side by side, of which one sees the same words. -/
structure Twin (A : Int) (N : List (List Int)) (M C : List Int) (L : List Int) (rows : List Nat) (num : List Int) (N' : List (List Int)) (M' C' : List Int) (L' : List Int) (rows' : List Nat) (num' : List Int) : Prop where
  k : LK N C L rows num
  k' : LK N' C' L' rows' num'
  len : L.length = L'.length
  same : ∀ j, j < L.length → Same A N M (rows.getD j 0) N' M' (rows'.getD j 0)
theorem getD_memN {l : List Int} {i : Nat} (h : i < l.length) : l.getD i 0 ∈ l := by
  rw [List.getD_eq_getElem?_getD, List.getElem?_eq_getElem h]; exact List.getElem_mem h
theorem LK.cases (S : Stable N M C) {L : List Int} {rows : List Nat} {num : List Int} (K : LK N C L rows num) (q : Nat) (hq : q < N.length) :
    (∃ i, i < L.length ∧ L.getD i 0 = C.getD q 0 ∧ num.getD (C.getD q 0).toNat 0 = (i : Int)) ∨ (C.getD q 0 ∉ L ∧ num.getD (C.getD q 0).toNat 0 = -1) := by
  have hc := S.num q hq
  have hl := S.len
  have e : (((C.getD q 0).toNat : Nat) : Int) = C.getD q 0 := by omega
  have := K.num (C.getD q 0).toNat (by omega)
  rw [e] at this; exact this
theorem tan2 {s' : Int} {N' : List (List Int)} {M' C' : List Int} (F : Fit A s N M) (S : Stable N M C) (H : Coarse A N M C) (F' : Fit A s' N' M') (S' : Stable N' M' C') (H' : Coarse A N' M' C') (i p p' : Nat) (hp : p < N.length) (hp' : p' < N'.length) (hs : Same A N M p N' M' p') (Rch : Nat → Prop) (hRp : ∀ a : Nat, (a : Int) < A → Rch (nx N p a)) (d7 : List (List Int)) (d8 : List Int) (d9 : List (List Int)) (e10 : List Int) :
    ∀ n a L rows num L' rows' num' nxt, A.toNat - a = n → (a : Int) ≤ A → Twin A N M C L rows num N' M' C' L' rows' num' → i < L.length → rows.getD i 0 = p → rows'.getD i 0 = p' → nxt.length = A.toNat → (∀ j, j < L.length → Rch (rows.getD j 0)) →
    (∀ j, j < a → ∃ t : Nat, t < L.length ∧ nxt.getD j 0 = (t : Int) ∧ Same A N M (rows.getD t 0) N M (nx N p j)) →
    ∃ L1 rows1 num1 L1' rows1' num1' nxt', Twin A N M C L1 rows1 num1 N' M' C' L1' rows1' num1' ∧ L.length ≤ L1.length ∧ (∀ j, j < L.length → rows1.getD j 0 = rows.getD j 0) ∧ rows1.getD i 0 = p ∧ rows1'.getD i 0 = p' ∧ nxt'.length = A.toNat ∧ (∀ j, j < L1.length → Rch (rows1.getD j 0)) ∧
      (∀ j, j < A.toNat → ∃ t : Nat, t < L1.length ∧ nxt'.getD j 0 = (t : Int) ∧ Same A N M (rows1.getD t 0) N M (nx N p j)) ∧
      (∀ r, Ev (fun k => evermoreref3_Least.l15 k (i : Int) A A s N M 0 0 C num1 (ints rows1) A 0 nxt' d7 d8 d9 e10) r → Ev (fun k => evermoreref3_Least.l15 k (i : Int) (a : Int) A s N M 0 0 C num (ints rows) A 0 nxt d7 d8 d9 e10) r) ∧
      (∀ r, Ev (fun k => evermoreref3_Least.l15 k (i : Int) A A s' N' M' 0 0 C' num1' (ints rows1') A 0 nxt' d7 d8 d9 e10) r → Ev (fun k => evermoreref3_Least.l15 k (i : Int) (a : Int) A s' N' M' 0 0 C' num' (ints rows') A 0 nxt d7 d8 d9 e10) r) := by
  have a1 := F.a1; have a4 := F.a4; have n3 := F.n3
  intro n
  induction n with
  | zero =>
    intro a L rows num L' rows' num' nxt hn ha T hi hr hr' hx hR hv
    have haa : a = A.toNat := by omega
    have : (a : Int) = A := by omega
    rw [this]
    exact ⟨L, rows, num, L', rows', num', nxt, T, Nat.le_refl _, fun j hj => rfl, hr, hr', hx, hR, fun j hj => hv j (by omega), fun r E => E, fun r E => E⟩
  | succ n ih =>
    intro a L rows num L' rows' num' nxt hn ha T hi hr hr' hx hR hv
    have haA : (a : Int) < A := by omega
    have he := F.ent p hp a haA
    have he' := F'.ent p' hp' a haA
    have hq : nx N p a < N.length := by rw [nx]; omega
    have hq' : nx N' p' a < N'.length := by rw [nx]; omega
    have hsn : Same A N M (nx N p a) N' M' (nx N' p' a) := hs.next a haA
    have hlen := T.len
    have hi' : i < L'.length := by omega
    have hset : ∀ (v : Int) j, j < a + 1 → (nxt.set a v).getD j 0 = if j = a then v else nxt.getD j 0 := by
      intro v j hj
      rw [getD_set_int]
      by_cases e : j = a
      · rw [if_pos ⟨e.symm, by omega⟩, if_pos e]
      · rw [if_neg (fun h => e h.1.symm), if_neg e]
    rcases T.k.cases S _ hq with ⟨j, h1, h2, h3⟩ | ⟨h1, h2⟩
    · -- known
      have hj := T.k.row j h1
      have hsj : Same A N M (rows.getD j 0) N M (nx N p a) := S.same F hj.1 hq (hj.2.trans h2)
      have hj' := T.k'.row j (by omega)
      have hc' : C'.getD (rows'.getD j 0) 0 = C'.getD (nx N' p' a) 0 := H' _ _ hj'.1 hq' (((T.same j h1).symm.trans hsj).trans hsn)
      have hnum' : num'.getD (C'.getD (nx N' p' a) 0).toNat 0 = (j : Int) := by
        rcases T.k'.cases S' _ hq' with ⟨j2, g1, g2, g3⟩ | ⟨g1, g2⟩
        · have : j2 = j := by
            have pw := List.pairwise_iff_getElem.1 T.k'.nd
            have e1 : L'.getD j2 0 = L'[j2] := by rw [List.getD_eq_getElem?_getD, List.getElem?_eq_getElem g1]; rfl
            have e2 : L'.getD j 0 = L'[j]'(by omega) := by rw [List.getD_eq_getElem?_getD, List.getElem?_eq_getElem (by omega)]; rfl
            have e3 : L'.getD j2 0 = L'.getD j 0 := by rw [g2, ← hc', hj'.2]
            rw [e1, e2] at e3
            rcases Nat.lt_trichotomy j2 j with h | h | h
            · exact absurd e3 (pw j2 j g1 (by omega) h)
            · exact h
            · exact absurd e3.symm (pw j j2 (by omega) g1 h)
          rw [g3, this]
        · exfalso; apply g1; rw [← hc', hj'.2]; exact getD_memN (by omega)
      obtain ⟨L1, rows1, num1, L1', rows1', num1', nxt', q1, q2, q3, q4, q5, q6, qR, q7, q8, q9⟩ := ih (a + 1) L rows num L' rows' num' (nxt.set a (j : Int)) (by omega) (by omega) T hi hr hr' (by rw [List.length_set]; exact hx) hR (fun b hb => by
        rw [hset _ _ hb]
        by_cases e : b = a
        · rw [if_pos e]; exact ⟨j, h1, rfl, by rw [e]; exact hsj⟩
        · rw [if_neg e]; exact hv b (by omega))
      exact ⟨L1, rows1, num1, L1', rows1', num1', nxt', q1, q2, q3, q4, q5, q6, qR, q7,
        fun r E => ls_known d7 d8 d9 e10 F S T.k i p a hp haA hi hr nxt hx (j : Int) h3 (by omega) r (q8 r E),
        fun r E => ls_known d7 d8 d9 e10 F' S' T.k' i p' a hp' haA hi' hr' nxt hx (j : Int) hnum' (by omega) r (q9 r E)⟩
    · -- new
      have hnum' : C'.getD (nx N' p' a) 0 ∉ L' ∧ num'.getD (C'.getD (nx N' p' a) 0).toNat 0 = -1 := by
        rcases T.k'.cases S' _ hq' with ⟨j, g1, g2, g3⟩ | h
        · exfalso
          have hj' := T.k'.row j g1
          have hj := T.k.row j (by omega)
          have hsj : Same A N' M' (rows'.getD j 0) N' M' (nx N' p' a) := S'.same F' hj'.1 hq' (hj'.2.trans g2)
          have := H _ _ hj.1 hq (((T.same j (by omega)).trans hsj).trans hsn.symm)
          apply h1; rw [← this, hj.2]; exact getD_memN (by omega)
        · exact h
      have K2 := T.k.push S _ hq h1
      have K2' := T.k'.push S' _ hq' hnum'.1
      have hrl := T.k.same
      have hrl' := T.k'.same
      have T2 : Twin A N M C (L ++ [C.getD (nx N p a) 0]) (rows ++ [nx N p a]) (num.set (C.getD (nx N p a) 0).toNat (L.length : Int)) N' M' C' (L' ++ [C'.getD (nx N' p' a) 0]) (rows' ++ [nx N' p' a]) (num'.set (C'.getD (nx N' p' a) 0).toNat (L'.length : Int)) := by
        refine ⟨K2, K2', by simp [hlen], fun j hj => ?_⟩
        rw [List.length_append, List.length_singleton] at hj
        by_cases h : j < L.length
        · rw [getD_app_left _ _ _ (by omega), getD_app_left _ _ _ (by omega)]; exact T.same j h
        · have e : j = rows.length := by omega
          have e' : j = rows'.length := by omega
          rw [show (rows ++ [nx N p a]).getD j 0 = nx N p a by rw [e, getD_app_last], show (rows' ++ [nx N' p' a]).getD j 0 = nx N' p' a by rw [e', getD_app_last]]
          exact hsn
      obtain ⟨L1, rows1, num1, L1', rows1', num1', nxt', q1, q2, q3, q4, q5, q6, qR, q7, q8, q9⟩ := ih (a + 1) _ _ _ _ _ _ (nxt.set a (L.length : Int)) (by omega) (by omega) T2 (by rw [List.length_append]; omega) (by rw [getD_app_left _ _ _ (by omega)]; exact hr) (by rw [getD_app_left _ _ _ (by omega)]; exact hr') (by rw [List.length_set]; exact hx) (fun j hj => by
        rw [List.length_append, List.length_singleton] at hj
        by_cases h : j < L.length
        · rw [getD_app_left _ _ _ (by omega)]; exact hR j h
        · have e : j = rows.length := by omega
          rw [show (rows ++ [nx N p a]).getD j 0 = nx N p a by rw [e, getD_app_last]]; exact hRp a haA) (fun b hb => by
        rw [hset _ _ hb, List.length_append, List.length_singleton]
        by_cases e : b = a
        · rw [if_pos e]; exact ⟨L.length, by omega, rfl, by rw [e, ← hrl, getD_app_last]; exact Same.refl _⟩
        · rw [if_neg e]
          obtain ⟨t, t1, t2, t3⟩ := hv b (by omega)
          exact ⟨t, by omega, t2, by rw [getD_app_left _ _ _ (by omega)]; exact t3⟩)
      rw [List.length_append, List.length_singleton] at q2 q3
      refine ⟨L1, rows1, num1, L1', rows1', num1', nxt', q1, by omega, fun j hj => by rw [q3 j (by omega), getD_app_left _ _ _ (by omega)], q4, q5, q6, qR, q7,
        fun r E => ls_new d7 d8 d9 e10 F S T.k i p a hp haA hi hr nxt hx (by omega) r (q8 r E),
        fun r E => ls_new d7 d8 d9 e10 F' S' T.k' i p' a hp' haA hi' hr' nxt hx (by omega) r ?_⟩
      rw [← hlen]
      have := q9 r E
      rw [← hlen] at this
      exact this
end Go.Proofs.YtfkilmmldjajmaaSx.DC
namespace Go.Proofs.YtfkilmmldjajmaaSx.DC
variable {A s : Int} {N : List (List Int)} {M : List Int} {C : List Int}
theorem ev_det {α : Type} {g : Nat → Option α} {r r' : α} (h : Ev g r) (h' : Ev g r') : r = r' := by
  obtain ⟨a, h⟩ := h
  obtain ⟨b, h'⟩ := h'
  have e1 := h (max a b) (by omega)
  have e2 := h' (max a b) (by omega)
  rw [e1] at e2; exact Option.some.inj e2
/-- What is known of the rows that are made: each row's state, and where its letters lead. -/
structure Led (A : Int) (N : List (List Int)) (M : List Int) (rows : List Nat) (m : Nat) (X : List (List Int)) (Y : List Int) : Prop where
  mark : ∀ j, j < X.length → Y.getD j 0 = M.getD (rows.getD j 0) 0
  row : ∀ j, j < X.length → ∀ a : Nat, (a : Int) < A → ∃ t : Nat, t < m ∧ (X.getD j []).getD a 0 = (t : Int) ∧ Same A N M (rows.getD t 0) N M (nx N (rows.getD j 0) a)
theorem getD_appW (l : List (List Int)) (b : List Int) (i : Nat) (h : i < l.length) : (l ++ [b]).getD i [] = l.getD i [] := by
  rw [List.getD_eq_getElem?_getD, List.getElem?_append_left h, ← List.getD_eq_getElem?_getD]
theorem getD_lastW (l : List (List Int)) (b : List Int) : (l ++ [b]).getD l.length [] = b := by
  rw [List.getD_eq_getElem?_getD, List.getElem?_append_right (Nat.le_refl _), Nat.sub_self]; rfl
theorem getD_appI (l : List Int) (b : Int) (i : Nat) (h : i < l.length) : (l ++ [b]).getD i 0 = l.getD i 0 := by
  rw [List.getD_eq_getElem?_getD, List.getElem?_append_left h, ← List.getD_eq_getElem?_getD]
theorem getD_lastI (l : List Int) (b : Int) : (l ++ [b]).getD l.length 0 = b := by
  rw [List.getD_eq_getElem?_getD, List.getElem?_append_right (Nat.le_refl _), Nat.sub_self]; rfl
theorem out2 {s' : Int} {N' : List (List Int)} {M' C' : List Int} (F : Fit A s N M) (S : Stable N M C) (H : Coarse A N M C) (F' : Fit A s' N' M') (S' : Stable N' M' C') (H' : Coarse A N' M' C') (Rch : Nat → Prop) (hRp : ∀ p a : Nat, p < N.length → (a : Int) < A → Rch p → Rch (nx N p a)) :
    ∀ n i L rows num L' rows' num' X Y, N.length - i = n → Twin A N M C L rows num N' M' C' L' rows' num' → i ≤ L.length → X.length = i → Y.length = i → Led A N M rows L.length X Y → (∀ j, j < L.length → Rch (rows.getD j 0)) →
    ∃ rf X1 Y1, ((∀ j, j < X1.length → Rch (rf.getD j 0)) ∧ ∀ j j', j < X1.length → j' < X1.length → C.getD (rf.getD j 0) 0 = C.getD (rf.getD j' 0) 0 → j = j') ∧ Led A N M rf X1.length X1 Y1 ∧ Y1.length = X1.length ∧ (∀ j, j < X1.length → rf.getD j 0 < N.length) ∧ L.length ≤ X1.length ∧ (∀ j, j < L.length → rf.getD j 0 = rows.getD j 0) ∧
      Ev (fun k => evermoreref3_Least.l11 k (i : Int) A s N M 0 0 C num (ints rows) A 0 [] [] X Y) (A, 0, X1, Y1) ∧
      Ev (fun k => evermoreref3_Least.l11 k (i : Int) A s' N' M' 0 0 C' num' (ints rows') A 0 [] [] X Y) (A, 0, X1, Y1) := by
  have a1 := F.a1; have a4 := F.a4; have n3 := F.n3; have n3' := F'.n3
  intro n
  have fin : ∀ i L rows num L' rows' num' X Y, Twin A N M C L rows num N' M' C' L' rows' num' → i = L.length → X.length = i → Y.length = i → Led A N M rows L.length X Y → (∀ j, j < L.length → Rch (rows.getD j 0)) →
    ∃ rf X1 Y1, ((∀ j, j < X1.length → Rch (rf.getD j 0)) ∧ ∀ j j', j < X1.length → j' < X1.length → C.getD (rf.getD j 0) 0 = C.getD (rf.getD j' 0) 0 → j = j') ∧ Led A N M rf X1.length X1 Y1 ∧ Y1.length = X1.length ∧ (∀ j, j < X1.length → rf.getD j 0 < N.length) ∧ L.length ≤ X1.length ∧ (∀ j, j < L.length → rf.getD j 0 = rows.getD j 0) ∧
      Ev (fun k => evermoreref3_Least.l11 k (i : Int) A s N M 0 0 C num (ints rows) A 0 [] [] X Y) (A, 0, X1, Y1) ∧
      Ev (fun k => evermoreref3_Least.l11 k (i : Int) A s' N' M' 0 0 C' num' (ints rows') A 0 [] [] X Y) (A, 0, X1, Y1) := by
    intro i L rows num L' rows' num' X Y T hi hX hY hL hR
    have h1 := T.k.same; have h2 := T.k'.same; have h3 := T.len
    refine ⟨rows, X, Y, ⟨fun j hj => hR j (by omega), fun j j' hj hj' e => ?_⟩, by rw [hX, hi]; exact hL, by omega, fun j hj => (T.k.row j (by omega)).1, by omega, fun j hj => rfl, Ev.step (h := fun _ => some (A, 0, X, Y)) (fun k => ?_) (Ev.now _), Ev.step (h := fun _ => some (A, 0, X, Y)) (fun k => ?_) (Ev.now _)⟩
    · rw [(T.k.row j (by omega)).2, (T.k.row j' (by omega)).2] at e
      have pw := List.pairwise_iff_getElem.1 T.k.nd
      have e1 : L.getD j 0 = L[j]'(by omega) := by rw [List.getD_eq_getElem?_getD, List.getElem?_eq_getElem (by omega)]; rfl
      have e2 : L.getD j' 0 = L[j']'(by omega) := by rw [List.getD_eq_getElem?_getD, List.getElem?_eq_getElem (by omega)]; rfl
      rw [e1, e2] at e
      rcases Nat.lt_trichotomy j j' with h | h | h
      · exact absurd e (pw j j' (by omega) (by omega) h)
      · exact h
      · exact absurd e.symm (pw j' j (by omega) (by omega) h)
    · rw [evermoreref3_Least.l11, if_neg (by rw [ints_len]; omega)]
    · rw [evermoreref3_Least.l11, if_neg (by rw [ints_len]; omega)]
  induction n with
  | zero =>
    intro i L rows num L' rows' num' X Y hn T hi hX hY hL hR
    have := T.k.bound S
    exact fin i L rows num L' rows' num' X Y T (by omega) hX hY hL hR
  | succ n ih =>
    intro i L rows num L' rows' num' X Y hn T hi hX hY hL hR
    by_cases hiL : i < L.length
    · have h3 := T.len
      obtain ⟨hp, hpe⟩ := T.k.row i hiL
      obtain ⟨hp', hpe'⟩ := T.k'.row i (by omega)
      have hs := T.k.same
      have hs' := T.k'.same
      have hb := T.k.bound S
      obtain ⟨L1, rows1, num1, L1', rows1', num1', nxt', q1, q2, q3, q4, q5, q6, qR, q7, q8, q9⟩ := tan2 F S H F' S' H' i (rows.getD i 0) (rows'.getD i 0) hp hp' (T.same i hiL) Rch (fun a ha => hRp _ a hp ha (hR i hiL)) [] [] X Y _ 0 L rows num L' rows' num' (List.replicate A.toNat 0) rfl (by omega) T hiL rfl rfl (by simp) hR (fun j hj => by omega)
      have hs1 := q1.k.same
      have hs1' := q1.k'.same
      have hb1 := q1.k.bound S
      have h31 := q1.len
      have hm := F.m
      have hm' := F'.m
      have hmm := (T.same i hiL).mark
      have hL2 : Led A N M rows1 L1.length (X ++ [nxt']) (Y ++ [M.getD (rows.getD i 0) 0]) := by
        refine ⟨fun j hj => ?_, fun j hj a ha => ?_⟩
        · rw [List.length_append, List.length_singleton] at hj
          by_cases h : j < X.length
          · rw [getD_appI _ _ _ (by omega), q3 j (by omega)]; exact hL.mark j h
          · have e : j = Y.length := by omega
            have e2 : j = i := by omega
            rw [show (Y ++ [M.getD (rows.getD i 0) 0]).getD j 0 = M.getD (rows.getD i 0) 0 by rw [e, getD_lastI], q3 j (by omega), e2]
        · rw [List.length_append, List.length_singleton] at hj
          by_cases h : j < X.length
          · rw [getD_appW _ _ _ h]
            obtain ⟨t, t1, t2, t3⟩ := hL.row j h a ha
            exact ⟨t, by omega, t2, by rw [q3 t t1, q3 j (by omega)]; exact t3⟩
          · have e : j = X.length := by omega
            have e2 : j = i := by omega
            rw [show (X ++ [nxt']).getD j [] = nxt' by rw [e, getD_lastW]]
            obtain ⟨t, t1, t2, t3⟩ := q7 a (by omega)
            exact ⟨t, t1, t2, by rw [e2, q4]; exact t3⟩
      obtain ⟨rf, X1, Y1, m0, m1, m2, m3, m4, m5, e1, e2⟩ := ih (i + 1) L1 rows1 num1 L1' rows1' num1' (X ++ [nxt']) (Y ++ [M.getD (rows.getD i 0) 0]) (by omega) q1 (by omega) (by simp [hX]) (by simp [hY]) hL2 qR
      have hb1' := q1.k'.bound S'
      refine ⟨rf, X1, Y1, m0, m1, m2, m3, by omega, fun j hj => by rw [m5 j (by omega), q3 j hj], Ev.step (fun k => ?_) (q8 _ (Ev.step (fun k => ?_) e1)), Ev.step (fun k => ?_) (q9 _ (Ev.step (fun k => ?_) e2))⟩
      · rw [evermoreref3_Least.l11, if_pos (by rw [ints_len]; omega), if_pos (by omega), if_pos (by omega), if_pos (by omega)]
        rfl
      · have hrp : (ints rows1).getD i (Int.ofNat 0) = ((rows.getD i 0 : Nat) : Int) := by rw [ints_getD rows1 i (by omega), q4]
        rw [evermoreref3_Least.l15, if_neg (by omega), if_pos (fit1 _ (by simp; omega)), if_pos (by omega), if_pos (by rw [ints_len]; omega), Int.toNat_natCast, hrp, if_pos (by omega), if_pos (by omega), rd_nat]
        rw [wrSucc i (by omega)]
        exact if_pos (fit1 _ (by simp; omega))
      · rw [evermoreref3_Least.l11, if_pos (by rw [ints_len]; omega), if_pos (by omega), if_pos (by omega), if_pos (by omega)]
        rfl
      · have hrp : (ints rows1').getD i (Int.ofNat 0) = ((rows'.getD i 0 : Nat) : Int) := by rw [ints_getD rows1' i (by omega), q5]
        rw [evermoreref3_Least.l15, if_neg (by omega), if_pos (fit1 _ (by simp; omega)), if_pos (by omega), if_pos (by rw [ints_len]; omega), Int.toNat_natCast, hrp, if_pos (by omega), if_pos (by omega), rd_nat]
        rw [wrSucc i (by omega), hmm]
        exact if_pos (fit1 _ (by simp; omega))
    · exact fin i L rows num L' rows' num' X Y T (by omega) hX hY hL hR
theorem LK.init (F : Fit A s N M) (S : Stable N M C) : LK N C [C.getD s.toNat 0] [s.toNat] ((List.replicate C.length (-1 : Int)).set (C.getD s.toNat 0).toNat 0) := by
  have hl := S.len
  have hs := F.s
  have hc := S.num s.toNat (by omega)
  refine ⟨rfl, fun i hi => ?_, by simp, by simp, fun c hcc => ?_⟩
  · have : i = 0 := by simp at hi; omega
    subst this; exact ⟨by show s.toNat < _; omega, rfl⟩
  · rw [getD_set_int]
    by_cases e : (C.getD s.toNat 0).toNat = c
    · rw [if_pos ⟨e, by simpa using hcc⟩]; exact .inl ⟨0, by simp, by show C.getD s.toNat 0 = _; omega, rfl⟩
    · rw [if_neg (fun h => e h.1)]
      refine .inr ⟨fun h => ?_, ?_⟩
      · rw [List.mem_singleton] at h; omega
      · rw [List.getD_eq_getElem?_getD, List.getElem?_replicate, if_pos hcc]; rfl
theorem least_start (F : Fit A s N M) (S : Stable N M C) (c2 : Ev (fun k => evermoreref3_Classes.f k (A, s, N, M, ())) C) {X : List (List Int)} {Y : List Int}
    (e2 : Ev (fun k => evermoreref3_Least.l11 k ((0 : Nat) : Int) A s N M 0 0 C ((List.replicate C.length (-1 : Int)).set (C.getD s.toNat 0).toNat 0) (ints [s.toNat]) A 0 [] [] [] []) (A, 0, X, Y)) : Ev (fun k => evermoreref3_Least.f k (A, s, N, M, ())) (A, 0, X, Y) := by
  have n3 := F.n3
  have hl := S.len
  have hs := F.s
  simp only [evermoreref3_Least.f]
  refine Ev.bind c2 ?_
  have e2' : Ev (fun k => evermoreref3_Least.l11 k 0 A s N M 0 0 C ((List.replicate C.length (-1 : Int)).set (C.getD s.toNat 0).toNat 0) [s] A 0 [] [] [] []) (A, 0, X, Y) := by
    have : ints [s.toNat] = [s] := by show [((s.toNat : Nat) : Int)] = [s]; rw [show ((s.toNat : Nat) : Int) = s by omega]
    rw [this] at e2; exact e2
  refine Ev_eq (fun k => ?_) (minus S F _ e2' _ 0 rfl (by omega))
  rw [if_pos (by omega), if_pos (by omega), if_pos (by omega), Int.toNat_natCast]
  rfl
/-- Least: words tell all states apart, and come to each. -/
structure Lst (A : Int) (X : List (List Int)) (Y : List Int) : Prop where
  min : ∀ j j', j < X.length → j' < X.length → Same A X Y j X Y j' → j = j'
  reach : ∀ j, j < X.length → ∃ w : List Nat, (∀ a ∈ w, (a : Int) < A) ∧ aft X 0 w = j
theorem aft_app (N : List (List Int)) : ∀ (w w' : List Nat) (q : Nat), aft N q (w ++ w') = aft N (aft N q w) w' := by
  intro w
  induction w with
  | nil => intro w' q; rfl
  | cons a w ih => intro w' q; exact ih w' _
/-- Two automata that no word tells apart have one least automaton, and it is as they are. -/
theorem least_same {s' : Int} {N' : List (List Int)} {M' : List Int} (F : Fit A s N M) (F' : Fit A s' N' M') (h : Same A N M s.toNat N' M' s'.toNat) :
    ∃ X Y, Ev (fun k => evermoreref3_Least.f k (A, s, N, M, ())) (A, 0, X, Y) ∧ Ev (fun k => evermoreref3_Least.f k (A, s', N', M', ())) (A, 0, X, Y) ∧ Same A X Y 0 N M s.toNat ∧ Lst A X Y := by
  obtain ⟨C, S, H, _, c2⟩ := classes_ev F
  obtain ⟨C', S', H', _, c2'⟩ := classes_ev F'
  obtain ⟨rf, X, Y, m0, m1, m2, m3, m4, m5, e1, e2⟩ := out2 F S H F' S' H' (fun p => ∃ w : List Nat, (∀ a ∈ w, (a : Int) < A) ∧ aft N s.toNat w = p) (fun p a hp ha h => by
    obtain ⟨w, hw, e⟩ := h
    refine ⟨w ++ [a], fun b hb => ?_, ?_⟩
    · rcases List.mem_append.1 hb with h | h
      · exact hw b h
      · rw [List.mem_singleton] at h; rw [h]; exact ha
    · rw [aft_app, e]; rfl) _ 0 _ _ _ _ _ _ [] [] rfl ⟨LK.init F S, LK.init F' S', rfl, fun j hj => by
    have : j = 0 := by simp at hj; omega
    subst this; exact h⟩ (by simp) rfl rfl ⟨fun j hj => by simp at hj, fun j hj => by simp at hj⟩ (fun j hj => by
    have : j = 0 := by simp at hj; omega
    subst this; exact ⟨[], fun a ha => by simp at ha, rfl⟩)
  have hs := F.s
  have sim : ∀ j q, j < X.length → Same A N M (rf.getD j 0) N M q → Same A X Y j N M q := by
    intro j q h1 h2
    refine Same.of (fun j q => j < X.length ∧ Same A N M (rf.getD j 0) N M q) (fun j q hjq => ?_) (fun j q a hjq ha => ?_) j q ⟨h1, h2⟩
    · rw [m1.mark j hjq.1]; exact hjq.2.mark
    · obtain ⟨t, t1, t2, t3⟩ := m1.row j hjq.1 a ha
      rw [t2, Int.toNat_natCast]
      exact ⟨t1, t3.trans (hjq.2.next a ha)⟩
  have h0 : 0 < X.length := by simp at m4; omega
  have hrf0 : rf.getD 0 0 = s.toNat := m5 0 (by simp)
  have walk : ∀ w : List Nat, (∀ a ∈ w, (a : Int) < A) → ∀ j q, j < X.length → Same A N M (rf.getD j 0) N M q → aft X j w < X.length ∧ Same A N M (rf.getD (aft X j w) 0) N M (aft N q w) := by
    intro w
    induction w with
    | nil => intro _ j q h1 h2; exact ⟨h1, h2⟩
    | cons a w ih =>
      intro hw j q h1 h2
      obtain ⟨t, t1, t2, t3⟩ := m1.row j h1 a (hw a List.mem_cons_self)
      have := ih (fun b hb => hw b (List.mem_cons_of_mem _ hb)) t (nx N q a) t1 (t3.trans (h2.next a (hw a List.mem_cons_self)))
      rw [aft, t2, Int.toNat_natCast]; exact this
  refine ⟨X, Y, least_start F S c2 e1, least_start F' S' c2' e2, sim 0 _ h0 (by rw [hrf0]; exact Same.refl _), ⟨fun j j' hj hj' h => ?_, fun j hj => ?_⟩⟩
  · refine m0.2 j j' hj hj' (H _ _ (m3 j hj) (m3 j' hj') ?_)
    exact ((sim j _ hj (Same.refl _)).symm.trans h).trans (sim j' _ hj' (Same.refl _))
  · obtain ⟨w, hw, e⟩ := m0.1 j hj
    obtain ⟨w1, w2⟩ := walk w hw 0 s.toNat h0 (by rw [hrf0]; exact Same.refl _)
    refine ⟨w, hw, m0.2 _ _ w1 hj (H _ _ (m3 _ w1) (m3 j hj) ?_)⟩
    rw [e] at w2; exact w2
/-- det.Smallest of one automaton is the reference's least of another one that no word tells from it. -/
theorem small_same {s' : Int} {N' : List (List Int)} {M' : List Int} (F : Fit A s N M) (F' : Fit A s' N' M') (h : Same A N M s.toNat N' M' s'.toNat) :
    ∃ X Y, Fit A 0 X Y ∧ Ev (fun k => det_Smallest.f k (A, s, N, M, ())) (A, 0, X, Y) ∧ Ev (fun k => evermoreref3_Least.f k (A, s', N', M', ())) (A, 0, X, Y) ∧ Same A X Y 0 N M s.toNat ∧ Lst A X Y := by
  obtain ⟨X, Y, m1, m2, m3, m4, e1, e2⟩ := least_ev F
  obtain ⟨X2, Y2, f1, f2, f3⟩ := least_same F F' h
  have := ev_det e2 f1
  have ex : X = X2 := congrArg (fun r : Int × Int × List (List Int) × List Int => r.2.2.1) this
  have ey : Y = Y2 := congrArg (fun r : Int × Int × List (List Int) × List Int => r.2.2.2) this
  subst ex; subst ey
  exact ⟨X, Y, fit_of F m1 m2 m3 m4, e1, f2, f3⟩
end Go.Proofs.YtfkilmmldjajmaaSx.DC
namespace Go.Proofs.YtfkilmmldjajmaaSx.DC
/-! States that are told by keys, numbered as they are come to. -/
section
variable {κ R : Type} (A : Nat) (nf : κ → Nat → κ) (mf : κ → Int) (V : κ → Prop) (B : Nat)
/-- What holds of the keys that were come to. -/
structure KOk (V : κ → Prop) (B : Nat) (L : List κ) : Prop where
  nd : L.Nodup
  v : ∀ k ∈ L, V k
  le : L.length ≤ B
/-- A search by keys: g8 is the loop over letters (keys, the key, what the letters so far lead to, rows, marks), g4 the loop over keys. -/
structure Sys (R : Type) where
  g8 : Nat → List κ → κ → List Int → List (List Int) → List Int → Nat → Option R
  g4 : List κ → List (List Int) → List Int → Nat → Option R
  fin : List (List Int) → List Int → Nat → Option R
  known : ∀ a L k row X Y r i, a < A → KOk V B L → k ∈ L → row.length = a → X.length < L.length → L[X.length]? = some k → (h : i < L.length) → L[i] = nf k a → Ev (g8 (a + 1) L k (row ++ [(i : Int)]) X Y) r → Ev (g8 a L k row X Y) r
  new : ∀ a L k row X Y r, a < A → KOk V B L → k ∈ L → row.length = a → X.length < L.length → L[X.length]? = some k → nf k a ∉ L → KOk V B (L ++ [nf k a]) → Ev (g8 (a + 1) (L ++ [nf k a]) k (row ++ [(L.length : Int)]) X Y) r → Ev (g8 a L k row X Y) r
  done : ∀ L k row X Y r, KOk V B L → k ∈ L → row.length = A → X.length < L.length → L[X.length]? = some k → Y.length = X.length → Ev (g4 L (X ++ [row]) (Y ++ [mf k])) r → Ev (g8 A L k row X Y) r
  start : ∀ L X Y r (h : X.length < L.length), KOk V B L → Y.length = X.length → Ev (g8 0 L L[X.length] [] X Y) r → Ev (g4 L X Y) r
  stop : ∀ L X Y r, KOk V B L → X.length = L.length → Y.length = X.length → Ev (fin X Y) r → Ev (g4 L X Y) r
variable {A nf mf V B}
/-- What a search has made: of each key a row, and where its letters lead. -/
structure Rows (A : Nat) (nf : κ → Nat → κ) (mf : κ → Int) (L : List κ) (X : List (List Int)) (Y : List Int) : Prop where
  len : Y.length = X.length
  le : X.length ≤ L.length
  row : ∀ i (h : i < X.length), (X.getD i []).length = A ∧ Y.getD i 0 = mf (L[i]'(by omega)) ∧ ∀ a, a < A → ∃ j, ∃ hj : j < L.length, (X.getD i []).getD a 0 = (j : Int) ∧ L[j] = nf (L[i]'(by omega)) a
variable {R' : Type} (hV : ∀ k a, V k → a < A → V (nf k a)) (hB : ∀ L : List κ, L.Nodup → (∀ k ∈ L, V k) → L.length ≤ B)
include hV hB
theorem KOk.push {L : List κ} (K : KOk V B L) {k : κ} (hk : k ∈ L) {a : Nat} (ha : a < A) (hn : nf k a ∉ L) : KOk V B (L ++ [nf k a]) := by
  have h1 : (L ++ [nf k a]).Nodup := by
    rw [List.nodup_append]
    refine ⟨K.nd, by simp, fun x hx b hb => ?_⟩
    rw [List.mem_singleton] at hb
    intro e; exact hn (hb ▸ e ▸ hx)
  have h2 : ∀ x ∈ L ++ [nf k a], V x := by
    intro x hx
    rcases List.mem_append.1 hx with h | h
    · exact K.v x h
    · rw [List.mem_singleton] at h; rw [h]; exact hV k a (K.v k hk) ha
  exact ⟨h1, h2, hB _ h1 h2⟩
theorem sys_inner (S : Sys A nf mf V B R) (S' : Sys A nf mf V B R') (k : κ) (X : List (List Int)) (Y : List Int) : ∀ n a L row, A - a = n → a ≤ A → KOk V B L → k ∈ L → row.length = a → X.length < L.length → L[X.length]? = some k →
    (∀ b, b < a → ∃ j, ∃ hj : j < L.length, row.getD b 0 = (j : Int) ∧ L[j] = nf k b) →
    ∃ L' row', KOk V B (L ++ L') ∧ row'.length = A ∧ (∀ b, b < A → ∃ j, ∃ hj : j < (L ++ L').length, row'.getD b 0 = (j : Int) ∧ (L ++ L')[j] = nf k b) ∧
      (∀ r, Ev (S.g8 A (L ++ L') k row' X Y) r → Ev (S.g8 a L k row X Y) r) ∧ (∀ r, Ev (S'.g8 A (L ++ L') k row' X Y) r → Ev (S'.g8 a L k row X Y) r) := by
  intro n
  induction n with
  | zero =>
    intro a L row hn ha K hk hr hx hkx hv
    have : a = A := by omega
    subst this
    refine ⟨[], row, by rw [List.append_nil]; exact K, hr, fun b hb => ?_, fun r E => ?_, fun r E => ?_⟩
    · obtain ⟨j, hj, e1, e2⟩ := hv b hb
      exact ⟨j, by rw [List.append_nil]; exact hj, e1, by simpa using e2⟩
    · rw [List.append_nil] at E; exact E
    · rw [List.append_nil] at E; exact E
  | succ n ih =>
    intro a L row hn ha K hk hr hx hkx hv
    have haA : a < A := by omega
    by_cases hm : nf k a ∈ L
    · obtain ⟨i, hi, e⟩ := List.getElem_of_mem hm
      obtain ⟨L', row', q1, q2, q3, q4, q5⟩ := ih (a + 1) L (row ++ [(i : Int)]) (by omega) (by omega) K hk (by simp [hr]) hx hkx (fun b hb => by
        by_cases h : b < a
        · obtain ⟨j, hj, e1, e2⟩ := hv b h
          exact ⟨j, hj, by rw [getD_appI _ _ _ (by omega)]; exact e1, e2⟩
        · have : b = a := by omega
          subst this
          exact ⟨i, hi, by rw [← hr, getD_lastI], e⟩)
      exact ⟨L', row', q1, q2, q3, fun r E => S.known a L k row X Y r i haA K hk hr hx hkx hi e (q4 r E), fun r E => S'.known a L k row X Y r i haA K hk hr hx hkx hi e (q5 r E)⟩
    · have K2 := K.push hV hB hk haA hm
      obtain ⟨L', row', q1, q2, q3, q4, q5⟩ := ih (a + 1) (L ++ [nf k a]) (row ++ [(L.length : Int)]) (by omega) (by omega) K2 (List.mem_append_left _ hk) (by simp [hr]) (by simp; omega) (by rw [List.getElem?_append_left hx]; exact hkx) (fun b hb => by
        by_cases h : b < a
        · obtain ⟨j, hj, e1, e2⟩ := hv b h
          exact ⟨j, by simp; omega, by rw [getD_appI _ _ _ (by omega)]; exact e1, by rw [List.getElem_append_left hj]; exact e2⟩
        · have : b = a := by omega
          subst this
          exact ⟨L.length, by simp, by rw [← hr, getD_lastI], by simp⟩)
      have e : L ++ (nf k a :: L') = L ++ [nf k a] ++ L' := by simp
      refine ⟨nf k a :: L', row', by rw [e]; exact q1, q2, fun b hb => ?_, fun r E => ?_, fun r E => ?_⟩
      · obtain ⟨j, hj, e1, e2⟩ := q3 b hb
        exact ⟨j, by rw [e]; exact hj, e1, by simpa only [e] using e2⟩
      · rw [e] at E; exact S.new a L k row X Y r haA K hk hr hx hkx hm K2 (q4 r E)
      · rw [e] at E; exact S'.new a L k row X Y r haA K hk hr hx hkx hm K2 (q5 r E)
theorem sys_outer (S : Sys A nf mf V B R) (S' : Sys A nf mf V B R') : ∀ n L X Y, B - X.length = n → KOk V B L → Rows A nf mf L X Y →
    ∃ L' X' Y', KOk V B (L ++ L') ∧ X'.length = (L ++ L').length ∧ Rows A nf mf (L ++ L') X' Y' ∧ (∀ r, Ev (S.fin X' Y') r → Ev (S.g4 L X Y) r) ∧ (∀ r, Ev (S'.fin X' Y') r → Ev (S'.g4 L X Y) r) := by
  intro n
  have stop : ∀ L X Y, KOk V B L → Rows A nf mf L X Y → X.length = L.length → ∃ L' X' Y', KOk V B (L ++ L') ∧ X'.length = (L ++ L').length ∧ Rows A nf mf (L ++ L') X' Y' ∧ (∀ r, Ev (S.fin X' Y') r → Ev (S.g4 L X Y) r) ∧ (∀ r, Ev (S'.fin X' Y') r → Ev (S'.g4 L X Y) r) := by
    intro L X Y K H h
    exact ⟨[], X, Y, by rw [List.append_nil]; exact K, by rw [List.append_nil]; exact h, by rw [List.append_nil]; exact H, fun r E => S.stop L X Y r K h H.len E, fun r E => S'.stop L X Y r K h H.len E⟩
  induction n with
  | zero => intro L X Y hn K H; have := K.le; have := H.le; exact stop L X Y K H (by omega)
  | succ n ih =>
    intro L X Y hn K H
    by_cases h : X.length < L.length
    · have hk : L[X.length] ∈ L := List.getElem_mem h
      obtain ⟨L1, row, q1, q2, q3, q4, q5⟩ := sys_inner hV hB S S' L[X.length] X Y _ 0 L [] rfl (by omega) K hk rfl h (List.getElem?_eq_getElem h) (fun b hb => by omega)
      have hll := H.len
      have H2 : Rows A nf mf (L ++ L1) (X ++ [row]) (Y ++ [mf L[X.length]]) := by
        refine ⟨by simp [hll], by simp; omega, fun i hi => ?_⟩
        rw [List.length_append, List.length_singleton] at hi
        have hL : (L ++ L1)[i]'(by rw [List.length_append]; omega) = L[i]'(by omega) := List.getElem_append_left (by omega)
        by_cases hi2 : i < X.length
        · obtain ⟨r1, r2, r3⟩ := H.row i hi2
          rw [getD_appW _ _ _ hi2, getD_appI _ _ _ (by omega), hL]
          refine ⟨r1, r2, fun a ha => ?_⟩
          obtain ⟨j, hj, e1, e2⟩ := r3 a ha
          exact ⟨j, by rw [List.length_append]; omega, e1, (List.getElem_append_left hj).trans (e2.trans (by rw [hL]))⟩
        · have e : i = X.length := by omega
          subst e
          have ey := getD_lastI Y (mf L[X.length])
          rw [hll] at ey
          rw [getD_lastW, ey, hL]
          refine ⟨q2, rfl, fun b hb => ?_⟩
          obtain ⟨j, hj, e1, e2⟩ := q3 b hb
          exact ⟨j, hj, e1, e2.trans (by rw [hL])⟩
      obtain ⟨L2, X', Y', p1, p2, p3, p4, p5⟩ := ih (L ++ L1) (X ++ [row]) (Y ++ [mf L[X.length]]) (by simp; omega) q1 H2
      have hm : L[X.length] ∈ L ++ L1 := List.mem_append_left _ hk
      have hkx : (L ++ L1)[X.length]? = some L[X.length] := by rw [List.getElem?_append_left h]; exact List.getElem?_eq_getElem h
      refine ⟨L1 ++ L2, X', Y', by rw [← List.append_assoc]; exact p1, by rw [← List.append_assoc]; exact p2, by rw [← List.append_assoc]; exact p3, ?_, ?_⟩
      · exact fun r E => S.start L X Y _ h K hll (q4 _ (S.done (L ++ L1) _ row X Y _ q1 hm q2 (by rw [List.length_append]; omega) hkx hll (p4 r E)))
      · exact fun r E => S'.start L X Y _ h K hll (q5 _ (S'.done (L ++ L1) _ row X Y _ q1 hm q2 (by rw [List.length_append]; omega) hkx hll (p5 r E)))
    · have := H.le; exact stop L X Y K H (by omega)
/-- Both searches make the same. -/
theorem sys_run (S : Sys A nf mf V B R) (S' : Sys A nf mf V B R') (first : κ) (hf : V first) :
    ∃ L X Y, KOk V B (first :: L) ∧ X.length = L.length + 1 ∧ Rows A nf mf (first :: L) X Y ∧ (∀ r, Ev (S.fin X Y) r → Ev (S.g4 [first] [] []) r) ∧ (∀ r, Ev (S'.fin X Y) r → Ev (S'.g4 [first] [] []) r) := by
  have h1 : ∀ k ∈ [first], V k := fun k hk => by rw [List.mem_singleton] at hk; rw [hk]; exact hf
  have K : KOk V B [first] := ⟨by simp, h1, hB _ (by simp) h1⟩
  obtain ⟨L, X, Y, p1, p2, p3, p4, p5⟩ := sys_outer hV hB S S' _ [first] [] [] rfl K ⟨rfl, by simp, fun i hi => by simp at hi⟩
  exact ⟨L, X, Y, p1, by simpa [Nat.add_comm] using p2, p3, p4, p5⟩
end
end Go.Proofs.YtfkilmmldjajmaaSx.DC
namespace Go.Proofs.YtfkilmmldjajmaaSx.DC
section
variable {K : Ty} (hb : ∀ x y : K.den, K.beq x y = true ↔ x = y)
/-- The map from keys to their numbers. -/
abbrev nmk (K : Ty) (L : List K.den) : List (K.den × Int) := numb (K := K) (fun x => x) 0 L
include hb
theorem nmk_idx (L : List K.den) (k : K.den) : L.findIdx (fun x => K.beq k x) < L.length ↔ k ∈ L := by
  rw [List.findIdx_lt_length]
  constructor
  · rintro ⟨x, hx, e⟩; rw [(hb k x).1 e]; exact hx
  · intro h; exact ⟨k, h, (hb k k).2 rfl⟩
theorem nmk_hit {L : List K.den} {k : K.den} (h : k ∈ L) : mhas K (.int .i64) (nmk K L) k = true := by
  rw [numb_has, decide_eq_true_iff]; exact (nmk_idx hb L k).2 h
theorem nmk_miss {L : List K.den} {k : K.den} (h : k ∉ L) : mhas K (.int .i64) (nmk K L) k = false := by
  rw [numb_has]; exact decide_eq_false fun h' => h ((nmk_idx hb L k).1 h')
theorem nmk_get {L : List K.den} (hn : L.Nodup) {k : K.den} {i : Nat} (hi : i < L.length) (e : L[i] = k) : mget K (.int .i64) (nmk K L) k = (i : Int) := by
  have hm : k ∈ L := e ▸ List.getElem_mem hi
  have hx := (nmk_idx hb L k).2 hm
  have := numb_get (K := K) (fun x => x) k L 0
  rw [if_pos hx, Nat.zero_add] at this
  have hk := (hb _ _).1 (List.findIdx_getElem (w := hx))
  have pw := List.pairwise_iff_getElem.1 hn
  refine this.trans ?_
  obtain ⟨j, hj⟩ : ∃ j, L.findIdx (fun x => K.beq k x) = j := ⟨_, rfl⟩
  have hj2 : j < L.length := hj ▸ hx
  have hk2 : k = L[j] := by subst hj; exact hk
  rw [hj]
  rcases Nat.lt_trichotomy j i with h | h | h
  · exact absurd (hk2.symm.trans e.symm) (pw j i hj2 hi h)
  · rw [h]
  · exact absurd (e.trans hk2) (pw i j hi hj2 h)
theorem nmk_put {L : List K.den} {k : K.den} (h : k ∉ L) : mput K (.int .i64) (nmk K L) k (L.length : Int) = nmk K (L ++ [k]) := by
  have := numb_put (K := K) (fun x => x) k L 0 (fun h' => h ((nmk_idx hb L k).1 h'))
  rw [Nat.zero_add] at this; exact this
end
/-! Rows that are filled letter by letter. -/
def padI (A : Nat) (row : List Int) : List Int := row ++ List.replicate (A - row.length) 0
theorem pad_len {A : Nat} {row : List Int} (h : row.length ≤ A) : (padI A row).length = A := by rw [padI, List.length_append, List.length_replicate]; omega
theorem pad_set {A : Nat} {row : List Int} (v : Int) (h : row.length < A) : (padI A row).set row.length v = padI A (row ++ [v]) := by
  rw [padI, padI, List.set_append_right _ _ (Nat.le_refl _), Nat.sub_self, List.length_append, List.length_singleton, show A - row.length = (A - (row.length + 1)) + 1 by omega, List.replicate_succ, List.set_cons_zero, List.append_assoc]; rfl
theorem pad_full {A : Nat} {row : List Int} (h : row.length = A) : padI A row = row := by rw [padI, h, Nat.sub_self, List.replicate_zero, List.append_nil]
theorem pad_nil (A : Nat) : padI A [] = List.replicate A 0 := rfl

/-! Couples. -/
abbrev K2 : Ty := .pair (.int .i64) (.pair (.int .i64) .unit)
abbrev Co := Int × Int × Unit
instance : DecidableEq K2.den := inferInstanceAs (DecidableEq (Int × Int × Unit))
theorem k2_beq (x y : K2.den) : K2.beq x y = true ↔ x = y := by
  obtain ⟨a, b, ⟨⟩⟩ := x
  obtain ⟨c, d, ⟨⟩⟩ := y
  have e : K2.beq (a, b, ()) (c, d, ()) = bif decide (a = c) then (bif decide (b = d) then true else false) else false := rfl
  rw [e]
  by_cases h1 : a = c
  · by_cases h2 : b = d
    · subst h1; subst h2; simp
    · simp [h1, h2]
  · simp [h1]
def allCo (n m : Nat) : List Co := (List.range n).flatMap fun p : Nat => (List.range m).map fun q : Nat => ((p : Int), (q : Int), ())
theorem sum_c (b : Nat) (l : List Nat) : (l.map fun _ => b).sum = l.length * b := by
  induction l with
  | nil => simp
  | cons a l ih => rw [List.map_cons, List.sum_cons, ih, List.length_cons, Nat.succ_mul]; omega
theorem allCo_len (n m : Nat) : (allCo n m).length = n * m := by
  rw [allCo, List.length_flatMap]; simp only [List.length_map, List.length_range]; rw [sum_c, List.length_range]
def VCo (n m : Nat) (k : Co) : Prop := (0 ≤ k.1 ∧ k.1 < (n : Int)) ∧ (0 ≤ k.2.1 ∧ k.2.1 < (m : Int))
theorem co_bound (n m : Nat) (L : List Co) (h1 : L.Nodup) (h2 : ∀ k ∈ L, VCo n m k) : L.length ≤ n * m := by
  rw [← allCo_len]
  refine nodup_sub L _ h1 fun k hk => ?_
  obtain ⟨h3, h4⟩ := h2 k hk
  obtain ⟨p, q, ⟨⟩⟩ := k
  rw [allCo, List.mem_flatMap]
  exact ⟨p.toNat, List.mem_range.2 (by simp at h3 h4; omega), List.mem_map.2 ⟨q.toNat, List.mem_range.2 (by simp at h3 h4; omega), by
    simp at h3 h4
    rw [show ((p.toNat : Nat) : Int) = p by omega, show ((q.toNat : Nat) : Int) = q by omega]⟩⟩
def nfCo (N P : List (List Int)) (k : Co) (a : Nat) : Co := ((N.getD k.1.toNat []).getD a 0, (P.getD k.2.1.toNat []).getD a 0, ())
variable {A s t : Int} {N P : List (List Int)} {M Q : List Int}
theorem vco_step (F : Fit A s N M) (G : Fit A t P Q) {k : Co} {a : Nat} (hk : VCo N.length P.length k) (ha : (a : Int) < A) : VCo N.length P.length (nfCo N P k a) := by
  obtain ⟨h1, h2⟩ := hk
  exact ⟨F.ent k.1.toNat (by omega) a ha, G.ent k.2.1.toNat (by omega) a ha⟩
end Go.Proofs.YtfkilmmldjajmaaSx.DC
namespace Go.Proofs.YtfkilmmldjajmaaSx.DC
variable {A : Int} {κ : Type} {nf : κ → Nat → κ} {mf : κ → Int} {V : κ → Prop} {B : Nat} {L : List κ} {X : List (List Int)} {Y : List Int}
/-- What a search makes may be. -/
theorem fit_rows (H : Rows A.toNat nf mf L X Y) (a1 : 1 ≤ A) (a4 : A ≤ 4) (hl : X.length = L.length) (h1 : 1 ≤ L.length) (h3 : L.length ≤ 4000) (hv : ∀ k ∈ L, V k) (hm : ∀ k, V k → mf k = 0 ∨ mf k = 1) : Fit A 0 X Y := by
  refine ⟨a1, a4, by omega, by omega, H.len, fun q hq => ?_, by omega, fun q hq a ha => ?_, fun q hq => ?_⟩
  · have := (H.row q hq).1; omega
  · obtain ⟨j, hj, e, _⟩ := (H.row q hq).2.2 a (by omega)
    rw [e]; omega
  · rw [(H.row q hq).2.1]; exact hm _ (hv _ (List.getElem_mem _))
/-- What a search makes is as an automaton to whose states the keys belong. -/
theorem same_rows {N' : List (List Int)} {M' : List Int} (H : Rows A.toNat nf mf L X Y) (a1 : 1 ≤ A) (hl : X.length = L.length) (h1 : 0 < L.length) (hv : ∀ k ∈ L, V k) (f : κ → Nat) (hm : ∀ k, V k → mf k = M'.getD (f k) 0) (hn : ∀ k a, V k → a < A.toNat → f (nf k a) = nx N' (f k) a) : Same A X Y 0 N' M' (f L[0]) := by
  refine Same.of (fun i c => ∃ h : i < L.length, c = f L[i]) (fun i c h => ?_) (fun i c a h ha => ?_) 0 _ ⟨h1, rfl⟩
  · obtain ⟨h, rfl⟩ := h
    rw [(H.row i (by omega)).2.1]; exact hm _ (hv _ (List.getElem_mem _))
  · obtain ⟨h, rfl⟩ := h
    obtain ⟨j, hj, e1, e2⟩ := (H.row i (by omega)).2.2 a (by omega)
    rw [e1, Int.toNat_natCast]
    refine ⟨hj, ?_⟩
    rw [e2, hn _ _ (hv _ (List.getElem_mem _)) (by omega)]
end Go.Proofs.YtfkilmmldjajmaaSx.DC
namespace Go.Proofs.YtfkilmmldjajmaaSx.DC
abbrev TP := Int × Int × Unit
abbrev T0 : TP := (Int.ofNat 0, Int.ofNat 0, ())
def t_bad (N : Int) (b : Int) : Bool := decide (b < 0) || decide (N ≤ b)
def badE (n : Int) (x : TP) : Bool := t_bad n x.1 || (!decide (x.2.1 = 1) && !decide (x.2.1 = -1))
def t_badW (B : Int) (w : List TP) : Bool := !decide ((w.length : Int) = B + 2)
def t_badM (m : Int) : Bool := !(decide (m = 0) || decide (m = 1))
/-- A two-way automaton that may be. -/
structure TFit (A s : Int) (N : List (List TP)) (M : List Int) : Prop where
  a1 : 1 ≤ A
  a4 : A ≤ 4
  n1 : 1 ≤ N.length
  n4 : N.length ≤ 4
  m : M.length = N.length
  row : ∀ q, q < N.length → ((N.getD q []).length : Int) = A + 2
  s : 0 ≤ s ∧ s < (N.length : Int)
  ent : ∀ q, q < N.length → ∀ a : Nat, (a : Int) < A + 2 → (0 ≤ ((N.getD q []).getD a T0).1 ∧ ((N.getD q []).getD a T0).1 < (N.length : Int)) ∧ (((N.getD q []).getD a T0).2.1 = 1 ∨ ((N.getD q []).getD a T0).2.1 = -1)
  mark : ∀ q, q < N.length → M.getD q 0 = 0 ∨ M.getD q 0 = 1
theorem t_idx1 (A s : Int) (N' : List (List TP)) (M : List Int) (N : List (List TP)) (hN : N.length ≤ 3000) (hA : Go.IntKind.i64.wrap (A + 2) = A + 2) : ∀ n i, N.length - i = n → i ≤ N.length →
    ∃ r, Ev (fun k => Sf9.l2 k N (N.length : Int) (i : Int) A s N' M) (r, A, s, N', M) ∧ decide (0 ≤ r) = (N.drop i).any (t_badW A) := by
  intro n
  induction n with
  | zero =>
    intro i hn hi
    refine ⟨-1, Ev.step (h := fun _ => some (-1, A, s, N', M)) (fun k => ?_) (Ev.now _), ?_⟩
    · rw [Sf9.l2, if_neg (by omega)]
    · rw [List.drop_eq_nil_of_le (by omega)]; rfl
  | succ n ih =>
    intro i hn hi
    obtain ⟨r, h1, h2⟩ := ih (i + 1) (by omega) (by omega)
    by_cases hb : t_badW A (N.getD i []) = true
    · refine ⟨i, Ev.step (h := fun _ => some ((i : Int), A, s, N', M)) (fun k => ?_) (Ev.now _), ?_⟩
      · rw [Sf9.l2, if_pos (by omega), if_pos (by omega), if_pos (by omega), two_Check_1.f, rd_nat, hA, Option.bind_some]
        rw [t_badW] at hb; simp only [hb, if_true]
      · rw [drop_getD [] N i (by omega), List.any_cons, hb, Bool.true_or, decide_eq_true (by omega)]
    · refine ⟨r, Ev.step (h := fun k => Sf9.l2 k N (N.length : Int) ((i + 1 : Nat) : Int) A s N' M) (fun k => ?_) h1, ?_⟩
      · rw [Sf9.l2, if_pos (by omega), if_pos (by omega), if_pos (by omega), two_Check_1.f, rd_nat, hA, Option.bind_some, wrSucc i (by omega)]
        rw [Bool.not_eq_true, t_badW] at hb; simp only [hb, Bool.false_eq_true, if_false]
      · rw [drop_getD [] N i (by omega), List.any_cons, h2, show t_badW A (N.getD i []) = false from (Bool.not_eq_true _).mp hb, Bool.false_or]
theorem t_con1 (A s : Int) (N' : List (List TP)) (M : List Int) (N : List (List TP)) (hN : N.length ≤ 3000) (hA : Go.IntKind.i64.wrap (A + 2) = A + 2) :
    Ev (fun k => Sf10.f k N A s N' M) (N.any (t_badW A), A, s, N', M) := by
  obtain ⟨r, h1, h2⟩ := t_idx1 A s N' M N hN hA _ 0 rfl (by omega)
  rw [List.drop_zero] at h2
  refine (Ev.bind (g := fun k => Sf9.f k N A s N' M) (x := (r, A, s, N', M)) (h := fun k r1 => some (decide (0 ≤ r1.fst), r1.snd.fst, r1.snd.snd.fst, r1.snd.snd.snd.fst, r1.snd.snd.snd.snd)) h1 (Ev.now _)).cast ?_
  exact congrArg (fun b => (b, A, s, N', M)) h2

theorem t_check2 (k : Nat) (b n : Int) : two_Check_2.f k b n = some (t_bad n b, n) := by
  rw [two_Check_2.f, t_bad]
  by_cases h : b < 0
  · rw [if_pos h]; simp [h]
  · rw [if_neg h]; simp [h]
theorem check31 (k : Nat) (x : TP) (n : Int) : two_Check_3_1.f k x n = some (badE n x, n) := by
  rw [two_Check_3_1.f, t_check2, Option.bind_some, badE]
  by_cases h : t_bad n x.fst = true
  · rw [if_pos h, h]; rfl
  · rw [if_neg h]
    rw [Bool.not_eq_true] at h
    by_cases h1 : x.snd.fst = 1
    · rw [if_pos h1, h, decide_eq_true h1]; rfl
    · rw [if_neg h1, h, decide_eq_false h1]
      by_cases h2 : x.snd.fst = -1
      · rw [decide_eq_true h2]; rfl
      · rw [decide_eq_false h2]; rfl
theorem t_idx2 (n0 : Int) (w : List TP) (hw : w.length ≤ 10000) : ∀ n i, w.length - i = n → i ≤ w.length →
    ∃ r, Ev (fun k => Sf11.l2 k w (w.length : Int) (i : Int) n0) (r, n0) ∧ decide (0 ≤ r) = (w.drop i).any (badE n0) := by
  intro n
  induction n with
  | zero =>
    intro i hn hi
    refine ⟨-1, Ev.step (h := fun _ => some (-1, n0)) (fun k => ?_) (Ev.now _), ?_⟩
    · rw [Sf11.l2, if_neg (by omega)]
    · rw [List.drop_eq_nil_of_le (by omega)]; rfl
  | succ n ih =>
    intro i hn hi
    obtain ⟨r, h1, h2⟩ := ih (i + 1) (by omega) (by omega)
    by_cases hb : badE n0 (w.getD i T0) = true
    · refine ⟨i, Ev.step (h := fun _ => some ((i : Int), n0)) (fun k => ?_) (Ev.now _), ?_⟩
      · rw [Sf11.l2, if_pos (by omega), if_pos (by omega), if_pos (by omega), check31, rd_nat, Option.bind_some]
        simp only [hb, if_true]
      · rw [drop_getD T0 w i (by omega), List.any_cons, hb, Bool.true_or, decide_eq_true (by omega)]
    · refine ⟨r, Ev.step (h := fun k => Sf11.l2 k w (w.length : Int) ((i + 1 : Nat) : Int) n0) (fun k => ?_) h1, ?_⟩
      · rw [Sf11.l2, if_pos (by omega), if_pos (by omega), if_pos (by omega), check31, rd_nat, Option.bind_some, wrSucc i (by omega)]
        simp only [hb]; rfl
      · rw [drop_getD T0 w i (by omega), List.any_cons, h2, show badE n0 (w.getD i T0) = false from (Bool.not_eq_true _).mp hb, Bool.false_or]
theorem t_con2 (n0 : Int) (w : List TP) (hw : w.length ≤ 10000) : Ev (fun k => Sf12.f k w n0) (w.any (badE n0), n0) := by
  obtain ⟨r, h1, h2⟩ := t_idx2 n0 w hw _ 0 rfl (by omega)
  rw [List.drop_zero] at h2
  refine (Ev.bind (g := fun k => Sf11.f k w n0) (x := (r, n0)) (h := fun k r1 => some (decide (0 ≤ r1.fst), r1.snd)) h1 (Ev.now _)).cast ?_
  exact congrArg (fun b => (b, n0)) h2
theorem t_check3 (n0 : Int) (w : List TP) (hw : w.length ≤ 10000) : Ev (fun k => two_Check_3.f k w n0) (w.any (badE n0), n0) := by
  show Ev (fun k => (Sf12.f k w n0).bind fun r1 => some (r1.fst, r1.snd)) _
  exact Ev.bind (x := (w.any (badE n0), n0)) (t_con2 n0 w hw) (Ev.now _)
theorem t_idx3 (n0 : Int) (N : List (List TP)) (hN : N.length ≤ 3000) (hw : ∀ q, q < N.length → (N.getD q []).length ≤ 10000) : ∀ n i, N.length - i = n → i ≤ N.length →
    ∃ r, Ev (fun k => Sf13.l2 k N (N.length : Int) (i : Int) n0) (r, n0) ∧ decide (0 ≤ r) = (N.drop i).any (fun w => w.any (badE n0)) := by
  intro n
  induction n with
  | zero =>
    intro i hn hi
    refine ⟨-1, Ev.step (h := fun _ => some (-1, n0)) (fun k => ?_) (Ev.now _), ?_⟩
    · rw [Sf13.l2, if_neg (by omega)]
    · rw [List.drop_eq_nil_of_le (by omega)]; rfl
  | succ n ih =>
    intro i hn hi
    obtain ⟨r, h1, h2⟩ := ih (i + 1) (by omega) (by omega)
    have c3 := t_check3 n0 (N.getD i []) (hw i (by omega))
    by_cases hb : (N.getD i []).any (badE n0) = true
    · refine ⟨i, Ev.step (h := fun k => (two_Check_3.f k (N.getD i []) n0).bind fun r5 => if r5.fst = true then some ((i : Int), r5.snd) else Sf13.l2 k N (N.length : Int) ((i + 1 : Nat) : Int) r5.snd) (fun k => ?_) (Ev.bind c3 ?_), ?_⟩
      · rw [Sf13.l2, if_pos (by omega), if_pos (by omega), if_pos (by omega), rd_nat, wrSucc i (by omega)]
      · simp only [hb, if_true]; exact Ev.now _
      · rw [drop_getD [] N i (by omega), List.any_cons, hb, Bool.true_or, decide_eq_true (by omega)]
    · refine ⟨r, Ev.step (h := fun k => (two_Check_3.f k (N.getD i []) n0).bind fun r5 => if r5.fst = true then some ((i : Int), r5.snd) else Sf13.l2 k N (N.length : Int) ((i + 1 : Nat) : Int) r5.snd) (fun k => ?_) (Ev.bind c3 ?_), ?_⟩
      · rw [Sf13.l2, if_pos (by omega), if_pos (by omega), if_pos (by omega), rd_nat, wrSucc i (by omega)]
      · simp only [if_neg hb]; exact h1
      · rw [drop_getD [] N i (by omega), List.any_cons, h2, show (N.getD i []).any (badE n0) = false from (Bool.not_eq_true _).mp hb, Bool.false_or]
theorem t_con3 (n0 : Int) (N : List (List TP)) (hN : N.length ≤ 3000) (hw : ∀ q, q < N.length → (N.getD q []).length ≤ 10000) : Ev (fun k => Sf14.f k N n0) (N.any (fun w => w.any (badE n0)), n0) := by
  obtain ⟨r, h1, h2⟩ := t_idx3 n0 N hN hw _ 0 rfl (by omega)
  rw [List.drop_zero] at h2
  refine (Ev.bind (g := fun k => Sf13.f k N n0) (x := (r, n0)) (h := fun k r1 => some (decide (0 ≤ r1.fst), r1.snd)) h1 (Ev.now _)).cast ?_
  exact congrArg (fun b => (b, n0)) h2
theorem t_check4 (k : Nat) (m : Int) : two_Check_4.f k m = some (t_badM m) := by
  rw [two_Check_4.f, t_badM]
  by_cases h : m = 0
  · rw [if_pos h]; simp [h]
  · rw [if_neg h]; simp [h]
theorem t_idx4 (w : List Int) (hw : w.length ≤ 3000) : ∀ n i, w.length - i = n → i ≤ w.length →
    ∃ r, Ev (fun k => Sf15.l2 k w (w.length : Int) (i : Int)) r ∧ decide (0 ≤ r) = (w.drop i).any t_badM := by
  intro n
  induction n with
  | zero =>
    intro i hn hi
    refine ⟨-1, Ev.step (h := fun _ => some (-1)) (fun k => ?_) (Ev.now _), ?_⟩
    · rw [Sf15.l2, if_neg (by omega)]
    · rw [List.drop_eq_nil_of_le (by omega)]; rfl
  | succ n ih =>
    intro i hn hi
    obtain ⟨r, h1, h2⟩ := ih (i + 1) (by omega) (by omega)
    by_cases hb : t_badM (w.getD i (Int.ofNat 0)) = true
    · refine ⟨i, Ev.step (h := fun _ => some (i : Int)) (fun k => ?_) (Ev.now _), ?_⟩
      · rw [Sf15.l2, if_pos (by omega), if_pos (by omega), if_pos (by omega), t_check4, rd_nat, Option.bind_some, if_pos hb]
      · rw [drop_getD (Int.ofNat 0) w i (by omega), List.any_cons, hb, Bool.true_or, decide_eq_true (by omega)]
    · refine ⟨r, Ev.step (h := fun k => Sf15.l2 k w (w.length : Int) ((i + 1 : Nat) : Int)) (fun k => ?_) h1, ?_⟩
      · rw [Sf15.l2, if_pos (by omega), if_pos (by omega), if_pos (by omega), t_check4, rd_nat, Option.bind_some, wrSucc i (by omega), if_neg hb]
      · rw [drop_getD (Int.ofNat 0) w i (by omega), List.any_cons, h2, show t_badM (w.getD i (Int.ofNat 0)) = false from (Bool.not_eq_true _).mp hb, Bool.false_or]
theorem t_con4 (w : List Int) (hw : w.length ≤ 3000) : Ev (fun k => Sf16.f k w) (w.any t_badM) := by
  obtain ⟨r, h1, h2⟩ := t_idx4 w hw _ 0 rfl (by omega)
  rw [List.drop_zero] at h2
  refine (Ev.bind (g := fun k => Sf15.f k w) (x := r) (h := fun k r1 => some (decide (0 ≤ r1))) h1 (Ev.now _)).cast ?_
  exact h2
end Go.Proofs.YtfkilmmldjajmaaSx.DC
namespace Go.Proofs.YtfkilmmldjajmaaSx.DC
variable {A s : Int} {N : List (List TP)} {M : List Int}
theorem wrA (h1 : 1 ≤ A) (h4 : A ≤ 4) : Go.IntKind.i64.wrap (A + 2) = A + 2 := wr64 _ (by omega) (by omega)
theorem t_any_at {α : Type} (d : α) (p : α → Bool) (l : List α) (h : l.any p = false) (i : Nat) (hi : i < l.length) : p (l.getD i d) = false := by
  rw [List.any_eq_false] at h
  rw [List.getD_eq_getElem?_getD, List.getElem?_eq_getElem hi]
  exact (Bool.not_eq_true _).mp (h _ (List.getElem_mem hi))
theorem t_bad_false {n b : Int} (h : t_bad n b = false) : 0 ≤ b ∧ b < n := by
  rw [t_bad, Bool.or_eq_false_iff, decide_eq_false_iff_not, decide_eq_false_iff_not] at h; omega
end Go.Proofs.YtfkilmmldjajmaaSx.DC
namespace Go.Proofs.YtfkilmmldjajmaaSx.DC
variable {A s : Int} {N : List (List TP)} {M : List Int}
/-- What a state does at a letter. -/
abbrev tr (N : List (List TP)) (q c : Nat) : TP := (N.getD q []).getD c T0
/-- In which state one leaves a letter to the right. -/
def bh (N : List (List TP)) (ah : Nat → Int) (first : Bool) : Nat → Nat → Nat → Int
  | 0, _, _ => -1
  | m + 1, q, c => if (tr N q c).2.1 = 1 then (tr N q c).1 else if first = true then -1 else if ah (tr N q c).1.toNat < 0 then -1 else bh N ah first m (ah (tr N q c).1.toNat).toNat c
theorem tr_lt (F : TFit A s N M) {q c : Nat} (hq : q < N.length) (hc : (c : Int) < A + 2) : 0 ≤ (tr N q c).1 ∧ (tr N q c).1 < (N.length : Int) := (F.ent q hq c hc).1
theorem bh_rng (F : TFit A s N M) {ah : Nat → Int} (hah : ∀ i, i < N.length → ah i < (N.length : Int)) (first : Bool) {c : Nat} (hc : (c : Int) < A + 2) : ∀ m q, q < N.length → -1 ≤ bh N ah first m q c ∧ bh N ah first m q c < (N.length : Int) := by
  intro m
  induction m with
  | zero => intro q hq; rw [bh]; omega
  | succ m ih =>
    intro q hq
    have ht := tr_lt F hq hc
    have ha := hah (tr N q c).1.toNat (by omega)
    rw [bh]
    split
    · omega
    · split
      · omega
      · split
        · omega
        · exact ih _ (by omega)
theorem bh_ext (F : TFit A s N M) {ah ah' : Nat → Int} (he : ∀ i, i < N.length → ah i = ah' i) (hah : ∀ i, i < N.length → ah i < (N.length : Int)) (first : Bool) {c : Nat} (hc : (c : Int) < A + 2) : ∀ m q, q < N.length → bh N ah first m q c = bh N ah' first m q c := by
  intro m
  induction m with
  | zero => intro q hq; rfl
  | succ m ih =>
    intro q hq
    have ht := tr_lt F hq hc
    have ha := hah (tr N q c).1.toNat (by omega)
    have e := he (tr N q c).1.toNat (by omega)
    rw [bh, bh, ← e]
    split
    · rfl
    · split
      · rfl
      · split
        · rfl
        · exact ih _ (by omega)
theorem bh_first (N : List (List TP)) (ah ah' : Nat → Int) (m q c : Nat) : bh N ah true (m + 1) q c = bh N ah' true (m + 1) q c := by
  rw [bh, bh]; simp
abbrev K5 := Int × Int × Int × Int × Int × Unit
def tabL (k : K5) : List Int := [k.1, k.2.1, k.2.2.1, k.2.2.2.1, k.2.2.2.2.1]
abbrev tab (k : K5) (i : Nat) : Int := (tabL k).getD i 0
structure VT (n : Nat) (k : K5) : Prop where
  rng : ∀ i, i < 5 → -1 ≤ tab k i ∧ tab k i < (n : Int)
  pad : ∀ i, n ≤ i → i < 4 → tab k i = -1
/-- The program's leaves. -/
theorem leaves_l2 (F : TFit A s N M) (k : K5) (hk : ∀ i, i < N.length → tab k i < (N.length : Int)) (first : Bool) (c : Nat) (hc : (c : Int) < A + 2) : ∀ m j q, N.length + 1 - j = m → j ≤ N.length + 1 → q < N.length →
    Ev (fun n => two_Det_1.l2 n first (q : Int) (c : Int) ((N.length + 1 : Nat) : Int) (j : Int) (N.length : Int) A s N M k.1 k.2.1 k.2.2.1 k.2.2.2.1 k.2.2.2.2.1) (bh N (tab k) first m q c, (N.length : Int), A, s, N, M) := by
  have n4 := F.n4
  intro m
  induction m with
  | zero =>
    intro j q hm hj hq
    refine Ev.step (h := fun _ => some (-1, (N.length : Int), A, s, N, M)) (fun n => ?_) (Ev.now _)
    rw [two_Det_1.l2, if_neg (by omega)]
  | succ m ih =>
    intro j q hm hj hq
    have ht := tr_lt F hq hc
    have hrow := F.row q hq
    have e1 : rd [] N (q : Int) = N.getD q [] := rd_nat _ _ _
    have e2 : rd (Int.ofNat 0, Int.ofNat 0, ()) (N.getD q []) (c : Int) = tr N q c := rd_nat _ _ _
    have ha := hk (tr N q c).1.toNat (by omega)
    have e3 : [k.1, k.2.1, k.2.2.1, k.2.2.2.1, k.2.2.2.2.1].getD (tr N q c).1.toNat (Int.ofNat 0) = tab k (tr N q c).1.toNat := rfl
    rw [bh]
    by_cases h1 : (tr N q c).2.1 = 1
    · rw [if_pos h1]
      refine Ev.step (h := fun _ => some ((tr N q c).1, (N.length : Int), A, s, N, M)) (fun n => ?_) (Ev.now _)
      rw [two_Det_1.l2, if_pos (by omega), if_pos (by omega), if_pos (by omega), if_pos (by omega), e1, if_pos (by omega), e2, if_pos h1]
    · rw [if_neg h1]
      by_cases h2 : first = true
      · rw [if_pos h2]
        refine Ev.step (h := fun _ => some (-1, (N.length : Int), A, s, N, M)) (fun n => ?_) (Ev.now _)
        rw [two_Det_1.l2, if_pos (by omega), if_pos (by omega), if_pos (by omega), if_pos (by omega), e1, if_pos (by omega), e2, if_neg h1, if_pos h2]
      · rw [if_neg h2]
        by_cases h3 : tab k (tr N q c).1.toNat < 0
        · rw [if_pos h3]
          refine Ev.step (h := fun _ => some (-1, (N.length : Int), A, s, N, M)) (fun n => ?_) (Ev.now _)
          rw [two_Det_1.l2, if_pos (by omega), if_pos (by omega), if_pos (by omega), if_pos (by omega), e1, if_pos (by omega), e2, if_neg h1, if_neg h2, if_pos ht.1, if_pos (by omega), e3, if_pos h3]
        · rw [if_neg h3]
          have := ih (j + 1) (tab k (tr N q c).1.toNat).toNat (by omega) (by omega) (by omega)
          rw [show (((tab k (tr N q c).1.toNat).toNat : Nat) : Int) = tab k (tr N q c).1.toNat by omega] at this
          refine Ev.step (fun n => ?_) this
          rw [two_Det_1.l2, if_pos (by omega), if_pos (by omega), if_pos (by omega), if_pos (by omega), e1, if_pos (by omega), e2, if_neg h1, if_neg h2, if_pos ht.1, if_pos (by omega), e3, if_neg h3, wrSucc j (by omega)]
theorem leaves_ev (F : TFit A s N M) (k : K5) (hk : ∀ i, i < N.length → tab k i < (N.length : Int)) (first : Bool) (c : Nat) (hc : (c : Int) < A + 2) (q : Nat) (hq : q < N.length) :
    Ev (fun n => two_Det_1.f n k first (q : Int) (c : Int) (N.length : Int) A s N M) (bh N (tab k) first (N.length + 1) q c, (N.length : Int), A, s, N, M) := by
  have n4 := F.n4
  have := leaves_l2 F k hk first c hc _ 0 q rfl (by omega) hq
  have hw : Go.IntKind.i64.wrap ((N.length : Int) + 1) = ((N.length + 1 : Nat) : Int) := wrSucc _ (by omega)
  refine Ev_eq (fun n => ?_) this
  rw [two_Det_1.f, hw]; rfl
/-- The table behind a letter. -/
def gT (N : List (List TP)) (ah : Nat → Int) (first : Bool) (c n i : Nat) : Int := if i < n then bh N ah first (N.length + 1) i c else -1
def frT (N : List (List TP)) (ah : Nat → Int) (first : Bool) (c : Nat) (z : Int) : Int := if 0 ≤ z then bh N ah first (N.length + 1) z.toNat c else -1
def mkTab (N : List (List TP)) (ah : Nat → Int) (first : Bool) (c : Nat) (z : Int) : K5 := (gT N ah first c N.length 0, gT N ah first c N.length 1, gT N ah first c N.length 2, gT N ah first c N.length 3, frT N ah first c z, ())
def nfT (N : List (List TP)) (k : K5) (c : Nat) : K5 := mkTab N (tab k) false c (tab k 4)
theorem mkTab_get (ah : Nat → Int) (first : Bool) (c : Nat) (z : Int) {i : Nat} (hi : i < 4) : tab (mkTab N ah first c z) i = gT N ah first c N.length i := by
  have : i = 0 ∨ i = 1 ∨ i = 2 ∨ i = 3 := by omega
  rcases this with rfl | rfl | rfl | rfl <;> rfl
theorem mkTab_ok (F : TFit A s N M) {ah : Nat → Int} (hah : ∀ i, i < N.length → ah i < (N.length : Int)) (first : Bool) {c : Nat} (hc : (c : Int) < A + 2) {z : Int} (hz : z < (N.length : Int)) : VT N.length (mkTab N ah first c z) := by
  have n4 := F.n4; have n1 := F.n1
  refine ⟨fun i hi => ?_, fun i h1 h2 => ?_⟩
  · by_cases h4 : i < 4
    · rw [mkTab_get ah first c z h4, gT]
      split
      · exact bh_rng F hah first hc _ i (by omega)
      · omega
    · have : i = 4 := by omega
      subst this
      show -1 ≤ frT N ah first c z ∧ frT N ah first c z < (N.length : Int)
      rw [frT]
      split
      · exact bh_rng F hah first hc _ _ (by omega)
      · omega
  · rw [mkTab_get ah first c z h2, gT, if_neg (by omega)]
theorem VT.lt {n : Nat} (hn : n ≤ 4) {k : K5} (h : VT n k) : ∀ i, i < n → tab k i < (n : Int) := fun i hi => (h.rng i (by omega)).2
theorem gT_step (ah : Nat → Int) (first : Bool) (c q i : Nat) : (if ((q : Nat) : Int).toNat = i then bh N ah first (N.length + 1) q c else gT N ah first c q i) = gT N ah first c (q + 1) i := by
  rw [Int.toNat_natCast, gT, gT]
  by_cases h : q = i
  · subst h; rw [if_pos rfl, if_pos (by omega)]
  · rw [if_neg h]
    by_cases h2 : i < q
    · rw [if_pos h2, if_pos (by omega)]
    · rw [if_neg h2, if_neg (by omega)]
/-- The program's next table. -/
theorem next_l3 (F : TFit A s N M) (k : K5) (hk : VT N.length k) (c : Nat) (hc : (c : Int) < A + 2) (x0 x1 x2 x3 x4 : Int) : ∀ m q, N.length - q = m → q ≤ N.length →
    Ev (fun n => two_Det_2.l3 n (c : Int) (N.length : Int) (q : Int) (N.length : Int) A s N M k.1 k.2.1 k.2.2.1 k.2.2.2.1 k.2.2.2.2.1 x0 x1 x2 x3 x4 (gT N (tab k) false c q 0) (gT N (tab k) false c q 1) (gT N (tab k) false c q 2) (gT N (tab k) false c q 3) (-1)) (nfT N k c, (N.length : Int), A, s, N, M) := by
  have n4 := F.n4
  have hlt := hk.lt n4
  intro m
  induction m with
  | zero =>
    intro q hm hq
    have : q = N.length := by omega
    subst this
    have j9 : ∀ z : Int, Ev (fun n => two_Det_2.j9 n (N.length : Int) A s N M x0 x1 x2 x3 x4 (gT N (tab k) false c N.length 0) (gT N (tab k) false c N.length 1) (gT N (tab k) false c N.length 2) (gT N (tab k) false c N.length 3) z) ((gT N (tab k) false c N.length 0, gT N (tab k) false c N.length 1, gT N (tab k) false c N.length 2, gT N (tab k) false c N.length 3, z, ()), (N.length : Int), A, s, N, M) := by
      intro z
      refine Ev.step (fun n => by rw [two_Det_2.j9]) (Ev.now _)
    have h4r := (hk.rng 4 (by omega))
    by_cases h4 : 0 ≤ k.2.2.2.2.1
    · have hk4 : (0 : Int) ≤ tab k 4 := h4
      have hlv := leaves_ev F k hlt false c hc (tab k 4).toNat (by omega)
      rw [show (((tab k 4).toNat : Nat) : Int) = tab k 4 by omega] at hlv
      refine Ev.step (h := fun n => (two_Det_1.f n k false (tab k 4) (c : Int) (N.length : Int) A s N M).bind fun r4 => two_Det_2.j9 n r4.snd.fst r4.snd.snd.fst r4.snd.snd.snd.fst r4.snd.snd.snd.snd.fst r4.snd.snd.snd.snd.snd x0 x1 x2 x3 x4 (gT N (tab k) false c N.length 0) (gT N (tab k) false c N.length 1) (gT N (tab k) false c N.length 2) (gT N (tab k) false c N.length 3) r4.fst) (fun n => by rw [two_Det_2.l3, if_neg (show ¬ (N.length : Int) < (N.length : Int) by omega), if_pos h4]; rfl) (Ev.bind hlv ?_)
      refine (j9 _).cast ?_
      rw [nfT, mkTab, frT, if_pos hk4]
    · have hk4 : ¬ (0 : Int) ≤ tab k 4 := h4
      refine Ev.step (fun n => by rw [two_Det_2.l3, if_neg (show ¬ (N.length : Int) < (N.length : Int) by omega), if_neg h4]) ((j9 _).cast ?_)
      rw [nfT, mkTab, frT, if_neg hk4]
  | succ m ih =>
    intro q hm hq
    have hlv := leaves_ev F k hlt false c hc q (by omega)
    refine Ev.step (fun n => by rw [two_Det_2.l3, if_pos (show (q : Int) < (N.length : Int) by omega)]) (Ev.bind hlv ?_)
    simp only [if_pos (show (0 : Int) ≤ (q : Int) by omega), if_pos (show (q : Int) < 5 by omega)]
    refine Ev_eq (fun n => ?_) (ih (q + 1) (by omega) (by omega))
    rw [wrSucc q (by omega)]
    rw [gT_step, show (0 + 1 : Nat) = 1 from rfl, gT_step, gT_step, gT_step]
    rw [if_neg (show ¬ ((q : Nat) : Int).toNat = 1 + 1 + 1 + 1 by rw [Int.toNat_natCast]; omega)]
theorem next_ev (F : TFit A s N M) (k : K5) (hk : VT N.length k) (c : Nat) (hc : (c : Int) < A + 2) : Ev (fun n => two_Det_2.f n k (c : Int) (N.length : Int) A s N M) (nfT N k c, (N.length : Int), A, s, N, M) := by
  have := next_l3 F k hk c hc 0 0 0 0 0 _ 0 rfl (by omega)
  exact this
def mkT2 (A : Int) (N : List (List TP)) (M : List Int) (k : K5) : Int := if tab k 4 < 0 then 0 else if 0 ≤ bh N (tab k) false (N.length + 1) (tab k 4).toNat (A.toNat + 1) then M.getD (bh N (tab k) false (N.length + 1) (tab k 4).toNat (A.toNat + 1)).toNat 0 else 0
theorem mark2_ev (F : TFit A s N M) (k : K5) (hk : VT N.length k) : Ev (fun n => two_Det_3.f n k A s N M (N.length : Int)) (mkT2 A N M k, A, s, N, M, (N.length : Int)) := by
  have n4 := F.n4; have a1 := F.a1; have a4 := F.a4; have hm := F.m
  have hlt := hk.lt n4
  have h4r := (hk.rng 4 (by omega))
  simp only [two_Det_3.f]
  by_cases h4 : k.2.2.2.2.1 < 0
  · have hk4 : tab k 4 < 0 := h4
    simp only [if_pos h4]
    refine (Ev.now _).cast ?_
    rw [mkT2, if_pos hk4]
  · have hk4 : ¬ tab k 4 < 0 := h4
    simp only [if_neg h4]
    have hw : Go.IntKind.i64.wrap (A + 1) = ((A.toNat + 1 : Nat) : Int) := by rw [wr64 _ (by omega) (by omega)]; omega
    have hlv := leaves_ev F k hlt false (A.toNat + 1) (by omega) (tab k 4).toNat (by omega)
    have hr := bh_rng F hlt false (c := A.toNat + 1) (by omega) (N.length + 1) (tab k 4).toNat (by omega)
    rw [show (((tab k 4).toNat : Nat) : Int) = tab k 4 by omega] at hlv
    rw [hw]
    refine Ev.bind hlv ?_
    rw [mkT2, if_neg hk4]
    by_cases h5 : 0 ≤ bh N (tab k) false (N.length + 1) (tab k 4).toNat (A.toNat + 1)
    · simp only [if_pos h5, if_pos (show bh N (tab k) false (N.length + 1) (tab k 4).toNat (A.toNat + 1) < (M.length : Int) by omega)]
      exact Ev.now _
    · simp only [if_neg h5]; exact Ev.now _
end Go.Proofs.YtfkilmmldjajmaaSx.DC
namespace Go.Proofs.YtfkilmmldjajmaaSx.DC
variable {A s : Int} {N : List (List TP)} {M : List Int}
abbrev KT5 : Ty := .pair (.int .i64) (.pair (.int .i64) (.pair (.int .i64) (.pair (.int .i64) (.pair (.int .i64) .unit))))
theorem k5_beq (x y : KT5.den) : KT5.beq x y = true ↔ x = y := by
  obtain ⟨a0, a1, a2, a3, a4, ⟨⟩⟩ := x
  obtain ⟨b0, b1, b2, b3, b4, ⟨⟩⟩ := y
  have e : KT5.beq (a0, a1, a2, a3, a4, ()) (b0, b1, b2, b3, b4, ()) = bif decide (a0 = b0) then (bif decide (a1 = b1) then (bif decide (a2 = b2) then (bif decide (a3 = b3) then (bif decide (a4 = b4) then true else false) else false) else false) else false) else false := rfl
  rw [e]
  by_cases h0 : a0 = b0
  · by_cases h1 : a1 = b1
    · by_cases h2 : a2 = b2
      · by_cases h3 : a3 = b3
        · by_cases h4 : a4 = b4
          · subst h0; subst h1; subst h2; subst h3; subst h4; simp
          · simp [h4]
        · simp [h3]
      · simp [h2]
    · simp [h1]
  · simp [h0]
instance : DecidableEq K5 := inferInstanceAs (DecidableEq (Int × Int × Int × Int × Int × Unit))
def r5 : List Int := [-1, 0, 1, 2, 3]
def allK5 : List K5 := r5.flatMap fun a => r5.flatMap fun b => r5.flatMap fun c => r5.flatMap fun d => r5.map fun e => (a, b, c, d, e, ())
theorem allK5_len : allK5.length = 3125 := by decide +kernel
theorem mem_r5 {x : Int} (h : -1 ≤ x) (h' : x < 4) : x ∈ r5 := by
  have : x = -1 ∨ x = 0 ∨ x = 1 ∨ x = 2 ∨ x = 3 := by omega
  rcases this with rfl | rfl | rfl | rfl | rfl <;> decide
theorem vt_bound (n : Nat) (hn : n ≤ 4) (L : List K5) (h1 : L.Nodup) (h2 : ∀ k ∈ L, VT n k) : L.length ≤ 3125 := by
  rw [← allK5_len]
  refine nodup_sub L _ h1 fun k hk => ?_
  have := (h2 k hk).rng
  obtain ⟨a, b, c, d, e, ⟨⟩⟩ := k
  have e0 : -1 ≤ a ∧ a < (n : Int) := this 0 (by omega)
  have e1 : -1 ≤ b ∧ b < (n : Int) := this 1 (by omega)
  have e2 : -1 ≤ c ∧ c < (n : Int) := this 2 (by omega)
  have e3 : -1 ≤ d ∧ d < (n : Int) := this 3 (by omega)
  have e4 : -1 ≤ e ∧ e < (n : Int) := this 4 (by omega)
  rw [allK5, List.mem_flatMap]
  refine ⟨a, mem_r5 (by omega) (by omega), List.mem_flatMap.2 ⟨b, mem_r5 (by omega) (by omega), List.mem_flatMap.2 ⟨c, mem_r5 (by omega) (by omega), List.mem_flatMap.2 ⟨d, mem_r5 (by omega) (by omega), List.mem_map.2 ⟨e, mem_r5 (by omega) (by omega), rfl⟩⟩⟩⟩⟩
theorem nfT_ok (F : TFit A s N M) {k : K5} (hk : VT N.length k) {a : Nat} (ha : (a : Int) < A + 2) : VT N.length (nfT N k a) :=
  mkTab_ok F (hk.lt F.n4) false ha (hk.rng 4 (by omega)).2
abbrev RT := Int × Int × Bool × Int × Int × Int × List (List TP) × List Int × List (List Int) × List Int
def sysT (F : TFit A s N M) : Sys A.toNat (nfT N) (mkT2 A N M) (VT N.length) 3125 RT where
  g8 a L k row X Y := fun n => det_Explore_two_table_.l8 n A 1048576 A (a : Int) (N.length : Int) A s N M 0 0 A 0 (nmk KT5 L) L k.1 k.2.1 k.2.2.1 k.2.2.2.1 k.2.2.2.2.1 (padI A.toNat row) [] [] X Y
  g4 L X Y := fun n => det_Explore_two_table_.l4 n A 1048576 (N.length : Int) A s N M 0 0 A 0 (nmk KT5 L) L [] [] X Y
  fin X Y := fun _ => some (A, 0, true, (N.length : Int), A, s, N, M, X, Y)
  known a L k row X Y r i ha K hk hr hx hkx hi e E := by
    have a4 := F.a4
    have hm : mhas KT5 (.int .i64) (nmk KT5 L) (nfT N k a) = true := nmk_hit (K := KT5) k5_beq (show nfT N k a ∈ L from e ▸ List.getElem_mem hi)
    have hg : mget KT5 (.int .i64) (nmk KT5 L) (nfT N k a) = (i : Int) := nmk_get (K := KT5) k5_beq K.nd hi e
    have hp := pad_len (A := A.toNat) (row := row) (by omega)
    refine Ev.step (h := fun n => (two_Det_2.f n k (a : Int) (N.length : Int) A s N M).bind fun r3 => if mhas KT5 (.int .i64) (nmk KT5 L) r3.fst = true then det_Explore_two_table_.j18 n A 1048576 (a : Int) (mget KT5 (.int .i64) (nmk KT5 L) r3.fst) A (a : Int) r3.snd.fst r3.snd.snd.fst r3.snd.snd.snd.fst r3.snd.snd.snd.snd.fst r3.snd.snd.snd.snd.snd 0 0 A 0 (nmk KT5 L) L k.1 k.2.1 k.2.2.1 k.2.2.2.1 k.2.2.2.2.1 (padI A.toNat row) [] [] X Y else
        if (L.length : Int) = 1048576 then some (0, 0, false, r3.snd.fst, r3.snd.snd.fst, r3.snd.snd.snd.fst, r3.snd.snd.snd.snd.fst, r3.snd.snd.snd.snd.snd, [], []) else if fitsIn (L ++ [r3.fst]).length 40 = true then det_Explore_two_table_.j18 n A 1048576 (a : Int) (L.length : Int) A (a : Int) r3.snd.fst r3.snd.snd.fst r3.snd.snd.snd.fst r3.snd.snd.snd.snd.fst r3.snd.snd.snd.snd.snd 0 0 A 0 (mput KT5 (.int .i64) (nmk KT5 L) r3.fst (L.length : Int)) (L ++ [r3.fst]) k.1 k.2.1 k.2.2.1 k.2.2.2.1 k.2.2.2.2.1 (padI A.toNat row) [] [] X Y else none) (fun n => by rw [det_Explore_two_table_.l8, if_pos (show (a : Int) < A by omega)]) (Ev.bind (next_ev F k (K.v k hk) a (by omega)) ?_)
    simp only [hm, if_true, hg]
    refine Ev.step (fun n => ?_) E
    rw [det_Explore_two_table_.j18, if_pos (by omega), if_pos (by omega), wrSucc a (by omega), Int.toNat_natCast]
    have := pad_set (A := A.toNat) (row := row) (i : Int) (by omega)
    rw [hr] at this
    rw [this]
  new a L k row X Y r ha K hk hr hx hkx hn K2' E := by
    have a4 := F.a4
    have hm : mhas KT5 (.int .i64) (nmk KT5 L) (nfT N k a) = false := nmk_miss (K := KT5) k5_beq hn
    have hg : mput KT5 (.int .i64) (nmk KT5 L) (nfT N k a) (L.length : Int) = nmk KT5 (L ++ [nfT N k a]) := nmk_put (K := KT5) k5_beq hn
    have hp := pad_len (A := A.toNat) (row := row) (by omega)
    have hle := K.le
    have hle2 := K2'.le
    rw [List.length_append, List.length_singleton] at hle2
    refine Ev.step (h := fun n => (two_Det_2.f n k (a : Int) (N.length : Int) A s N M).bind fun r3 => if mhas KT5 (.int .i64) (nmk KT5 L) r3.fst = true then det_Explore_two_table_.j18 n A 1048576 (a : Int) (mget KT5 (.int .i64) (nmk KT5 L) r3.fst) A (a : Int) r3.snd.fst r3.snd.snd.fst r3.snd.snd.snd.fst r3.snd.snd.snd.snd.fst r3.snd.snd.snd.snd.snd 0 0 A 0 (nmk KT5 L) L k.1 k.2.1 k.2.2.1 k.2.2.2.1 k.2.2.2.2.1 (padI A.toNat row) [] [] X Y else
        if (L.length : Int) = 1048576 then some (0, 0, false, r3.snd.fst, r3.snd.snd.fst, r3.snd.snd.snd.fst, r3.snd.snd.snd.snd.fst, r3.snd.snd.snd.snd.snd, [], []) else if fitsIn (L ++ [r3.fst]).length 40 = true then det_Explore_two_table_.j18 n A 1048576 (a : Int) (L.length : Int) A (a : Int) r3.snd.fst r3.snd.snd.fst r3.snd.snd.snd.fst r3.snd.snd.snd.snd.fst r3.snd.snd.snd.snd.snd 0 0 A 0 (mput KT5 (.int .i64) (nmk KT5 L) r3.fst (L.length : Int)) (L ++ [r3.fst]) k.1 k.2.1 k.2.2.1 k.2.2.2.1 k.2.2.2.2.1 (padI A.toNat row) [] [] X Y else none) (fun n => by rw [det_Explore_two_table_.l8, if_pos (show (a : Int) < A by omega)]) (Ev.bind (next_ev F k (K.v k hk) a (by omega)) ?_)
    simp only [hm, Bool.false_eq_true, if_false, hg, if_neg (show ¬ (L.length : Int) = 1048576 by omega), if_pos (fit1 (b := 40) (L ++ [nfT N k a]).length (by rw [List.length_append, List.length_singleton]; omega))]
    refine Ev.step (fun n => ?_) E
    rw [det_Explore_two_table_.j18, if_pos (by omega), if_pos (by omega), wrSucc a (by omega), Int.toNat_natCast]
    have := pad_set (A := A.toNat) (row := row) (L.length : Int) (by omega)
    rw [hr] at this
    rw [this]
  done L k row X Y r K hk hr hx hkx hy E := by
    have a4 := F.a4; have a1 := F.a1
    have hle := K.le
    refine Ev.step (h := fun n => (two_Det_3.f n k A s N M (N.length : Int)).bind fun r4 => if fitsIn (Y ++ [r4.fst]).length 8 = true then det_Explore_two_table_.l4 n A 1048576 r4.snd.snd.snd.snd.snd r4.snd.fst r4.snd.snd.fst r4.snd.snd.snd.fst r4.snd.snd.snd.snd.fst 0 0 A 0 (nmk KT5 L) L [] [] (X ++ [row]) (Y ++ [r4.fst]) else none) (fun n => ?_) (Ev.bind (mark2_ev F k (K.v k hk)) ?_)
    · rw [det_Explore_two_table_.l8, if_neg (by omega), pad_full hr, if_pos (fit1 _ (by rw [List.length_append, List.length_singleton]; omega))]
    · simp only [if_pos (fit1 (b := 8) (Y ++ [mkT2 A N M k]).length (by rw [List.length_append, List.length_singleton]; omega))]
      exact E
  start L X Y r h K hy E := by
    have a4 := F.a4; have a1 := F.a1
    refine Ev.step (fun n => ?_) E
    have e : L.getD X.length (Int.ofNat 0, Int.ofNat 0, Int.ofNat 0, Int.ofNat 0, Int.ofNat 0, ()) = L[X.length] := by rw [List.getD_eq_getElem?_getD, List.getElem?_eq_getElem h]; rfl
    rw [det_Explore_two_table_.l4, if_pos (by omega), if_pos (by omega), if_pos (by omega), if_pos (by omega), if_pos (by omega), if_pos (by omega), Int.toNat_natCast, e]
    rfl
  stop L X Y r K h hy E := by
    refine Ev.step (fun n => ?_) E
    rw [det_Explore_two_table_.l4, if_neg (by omega)]
end Go.Proofs.YtfkilmmldjajmaaSx.DC
namespace Go.Proofs.YtfkilmmldjajmaaSx.DC
variable {A s : Int} {N : List (List TP)} {M : List Int}
/-! What goes to and fro: configurations. -/
abbrev Cf := Nat × Nat
def nxc (N : List (List TP)) (tp : List Nat) : Option Cf → Option Cf
  | none => none
  | some (q, a) => if a = tp.length then some (q, a) else if (tr N q (tp.getD a 0)).2.1 = 1 then some ((tr N q (tp.getD a 0)).1.toNat, a + 1) else if a = 0 then none else some ((tr N q (tp.getD a 0)).1.toNat, a - 1)
def itc (N : List (List TP)) (tp : List Nat) : Nat → Option Cf → Option Cf
  | 0, c => c
  | m + 1, c => itc N tp m (nxc N tp c)
variable {tp : List Nat}
theorem itc_none : ∀ m, itc N tp m none = none := by
  intro m
  induction m with
  | zero => rfl
  | succ m ih => exact ih
theorem itc_add : ∀ (m n : Nat) (c : Option Cf), itc N tp (m + n) c = itc N tp n (itc N tp m c) := by
  intro m
  induction m with
  | zero => intro n c; rw [Nat.zero_add]; rfl
  | succ m ih => intro n c; rw [Nat.succ_add]; exact ih n _
theorem itc_end (q : Nat) : ∀ m, itc N tp m (some (q, tp.length)) = some (q, tp.length) := by
  intro m
  induction m with
  | zero => rfl
  | succ m ih => rw [itc, nxc, if_pos rfl]; exact ih
/-- Comes to place i + 1 for the first time in state z. -/
def Fst (N : List (List TP)) (tp : List Nat) (c : Cf) (i z : Nat) : Prop := ∃ m, itc N tp m (some c) = some (z, i + 1) ∧ ∀ j, j < m → ∃ q a, itc N tp j (some c) = some (q, a) ∧ a ≤ i
def Nev (N : List (List TP)) (tp : List Nat) (c : Cf) (i : Nat) : Prop := ∀ m z, itc N tp m (some c) ≠ some (z, i + 1)
theorem Fst.comp {c : Cf} {i z z' : Nat} (h : Fst N tp c i z) (h' : Fst N tp (z, i + 1) (i + 1) z') : Fst N tp c (i + 1) z' := by
  obtain ⟨m, h1, h2⟩ := h
  obtain ⟨n, g1, g2⟩ := h'
  refine ⟨m + n, by rw [itc_add, h1]; exact g1, fun j hj => ?_⟩
  by_cases hm : j < m
  · obtain ⟨q, a, e, l⟩ := h2 j hm; exact ⟨q, a, e, by omega⟩
  · obtain ⟨q, a, e, l⟩ := g2 (j - m) (by omega)
    refine ⟨q, a, ?_, l⟩
    rw [show j = m + (j - m) by omega, itc_add, h1]; exact e
/-- Whoever comes to i + 2 was at i + 1. -/
theorem pass {i z : Nat} : ∀ m (c : Cf), c.2 ≤ i + 1 → itc N tp m (some c) = some (z, i + 2) → ∃ m' z', itc N tp m' (some c) = some (z', i + 1) := by
  intro m
  induction m with
  | zero => intro c hc h; rw [itc] at h; have := congrArg (fun o : Option Cf => (o.getD (0, 0)).2) h; simp at this; omega
  | succ m ih =>
    intro c hc h
    obtain ⟨q, a⟩ := c
    by_cases ha : a = i + 1
    · exact ⟨0, q, by rw [itc, ha]⟩
    · rw [itc] at h
      have hstep : nxc N tp (some (q, a)) = none ∨ ∃ c' : Cf, nxc N tp (some (q, a)) = some c' ∧ c'.2 ≤ i + 1 := by
        rw [nxc]
        simp only at hc
        split
        · exact .inr ⟨_, rfl, by simp; omega⟩
        · split
          · exact .inr ⟨_, rfl, by simp; omega⟩
          · split
            · exact .inl rfl
            · exact .inr ⟨_, rfl, by simp; omega⟩
      rcases hstep with e | ⟨c', e, l⟩
      · rw [e, itc_none] at h; cases h
      · rw [e] at h
        obtain ⟨m', z', g⟩ := ih c' l h
        exact ⟨m' + 1, z', by rw [itc, e]; exact g⟩
theorem Nev.up {c : Cf} {i : Nat} (hc : c.2 ≤ i) (h : Nev N tp c i) : Nev N tp c (i + 1) := by
  intro m z e
  obtain ⟨m', z', g⟩ := pass m c (by omega) e
  exact h m' z' g
theorem Fst.nev {c : Cf} {i z : Nat} (h : Fst N tp c i z) (h' : Nev N tp (z, i + 1) (i + 1)) : Nev N tp c (i + 1) := by
  obtain ⟨m, h1, h2⟩ := h
  intro n z' e
  by_cases hn : n < m
  · obtain ⟨q, a, g, l⟩ := h2 n hn
    rw [e] at g
    have := congrArg (fun o : Option Cf => (o.getD (0, 0)).2) g
    simp at this; omega
  · apply h' (n - m) z'
    rw [← e, show n = m + (n - m) by omega, itc_add, h1, Nat.add_sub_cancel_left]
/-! The bounded search for the state in which one leaves: as many rounds as there are states are enough. -/
theorem bh_succ {ah : Nat → Int} {first : Bool} {c : Nat} (m q : Nat) : bh N ah first (m + 1) q c = if (tr N q c).2.1 = 1 then (tr N q c).1 else if first = true then -1 else if ah (tr N q c).1.toNat < 0 then -1 else bh N ah first m (ah (tr N q c).1.toNat).toNat c := rfl
theorem bh_more {ah : Nat → Int} {first : Bool} {c : Nat} : ∀ m q, 0 ≤ bh N ah first m q c → bh N ah first (m + 1) q c = bh N ah first m q c := by
  intro m
  induction m with
  | zero => intro q h; rw [bh] at h; omega
  | succ m ih =>
    intro q h
    rw [bh_succ] at h
    rw [bh_succ (m + 1), bh_succ m q]
    by_cases h1 : (tr N q c).2.1 = 1
    · rw [if_pos h1, if_pos h1]
    · rw [if_neg h1] at h ⊢
      rw [if_neg h1]
      by_cases h2 : first = true
      · rw [if_pos h2, if_pos h2]
      · rw [if_neg h2] at h ⊢
        rw [if_neg h2]
        by_cases h3 : ah (tr N q c).1.toNat < 0
        · rw [if_pos h3, if_pos h3]
        · rw [if_neg h3] at h ⊢
          rw [if_neg h3]
          exact ih _ h
theorem bh_le {ah : Nat → Int} {first : Bool} {c : Nat} {m : Nat} {q : Nat} (h : 0 ≤ bh N ah first m q c) : ∀ d, bh N ah first (m + d) q c = bh N ah first m q c := by
  intro d
  induction d with
  | zero => rfl
  | succ d ih => rw [← Nat.add_assoc, bh_more _ _ (by rw [ih]; exact h), ih]
def cntE (N : List (List TP)) (ah : Nat → Int) (first : Bool) (c d : Nat) : Nat := (List.range N.length).countP fun q => decide (0 ≤ bh N ah first d q c)
theorem countP_lt {α : Type} {p p' : α → Bool} : ∀ (l : List α), (∀ x ∈ l, p x = true → p' x = true) → (∃ x ∈ l, p' x = true ∧ p x = false) → l.countP p < l.countP p' := by
  intro l
  induction l with
  | nil => rintro _ ⟨x, hx, _⟩; simp at hx
  | cons a l ih =>
    rintro h ⟨x, hx, h1, h2⟩
    have hle : l.countP p ≤ l.countP p' := List.countP_mono_left fun y hy => h y (List.mem_cons_of_mem _ hy)
    rw [List.countP_cons, List.countP_cons]
    rcases List.mem_cons.1 hx with e | e
    · subst e
      rw [if_neg (by rw [h2]; decide), if_pos h1]; omega
    · have := ih (fun y hy => h y (List.mem_cons_of_mem _ hy)) ⟨x, e, h1, h2⟩
      by_cases ha : p a = true
      · rw [if_pos ha, if_pos (h a List.mem_cons_self ha)]; omega
      · rw [if_neg ha]; split <;> omega
theorem bh_stable (F : TFit A s N M) {ah : Nat → Int} (hah : ∀ i, i < N.length → ah i < (N.length : Int)) {first : Bool} {c : Nat} (hc : (c : Int) < A + 2) {d : Nat} (h : ∀ q, q < N.length → 0 ≤ bh N ah first (d + 1) q c → 0 ≤ bh N ah first d q c) : ∀ q, q < N.length → 0 ≤ bh N ah first (d + 2) q c → 0 ≤ bh N ah first (d + 1) q c := by
  intro q hq h2
  have ht := tr_lt F hq hc
  have ha := hah (tr N q c).1.toNat (by omega)
  rw [bh] at h2 ⊢
  by_cases h1 : (tr N q c).2.1 = 1
  · rw [if_pos h1]; exact ht.1
  · rw [if_neg h1] at h2 ⊢
    by_cases hf : first = true
    · rw [if_pos hf] at h2; omega
    · rw [if_neg hf] at h2 ⊢
      by_cases h3 : ah (tr N q c).1.toNat < 0
      · rw [if_pos h3] at h2; omega
      · rw [if_neg h3] at h2 ⊢
        exact h _ (by omega) h2
theorem bh_enough (F : TFit A s N M) {ah : Nat → Int} (hah : ∀ i, i < N.length → ah i < (N.length : Int)) {first : Bool} {c : Nat} (hc : (c : Int) < A + 2) {m q : Nat} (hq : q < N.length) (h : 0 ≤ bh N ah first m q c) : bh N ah first (N.length + 1) q c = bh N ah first m q c := by
  -- where a round brings more, every round ahead of it did
  have key : ∀ d, (∃ q, q < N.length ∧ 0 ≤ bh N ah first (d + 1) q c ∧ ¬ 0 ≤ bh N ah first d q c) → d + 1 ≤ cntE N ah first c (d + 1) := by
    intro d
    induction d with
    | zero =>
      rintro ⟨q, hq, h1, h2⟩
      have := countP_lt (p := fun q => decide (0 ≤ bh N ah first 0 q c)) (p' := fun q => decide (0 ≤ bh N ah first 1 q c)) (List.range N.length) (fun x _ hx => by rw [decide_eq_true_iff] at hx ⊢; rw [bh_more _ _ hx]; exact hx) ⟨q, List.mem_range.2 hq, decide_eq_true h1, decide_eq_false h2⟩
      show 1 ≤ cntE N ah first c 1
      rw [cntE]; omega
    | succ d ih =>
      rintro ⟨q, hq, h1, h2⟩
      have hprev : ∃ q, q < N.length ∧ 0 ≤ bh N ah first (d + 1) q c ∧ ¬ 0 ≤ bh N ah first d q c := by
        apply Classical.byContradiction
        intro hno
        apply h2
        refine bh_stable F hah hc (fun x hx hx1 => ?_) q hq h1
        apply Classical.byContradiction
        intro hx2
        exact hno ⟨x, hx, hx1, hx2⟩
      have h3 := ih hprev
      have := countP_lt (p := fun q => decide (0 ≤ bh N ah first (d + 1) q c)) (p' := fun q => decide (0 ≤ bh N ah first (d + 2) q c)) (List.range N.length) (fun x _ hx => by rw [decide_eq_true_iff] at hx ⊢; rw [bh_more _ _ hx]; exact hx) ⟨q, List.mem_range.2 hq, decide_eq_true h1, decide_eq_false h2⟩
      show d + 1 + 1 ≤ cntE N ah first c (d + 2)
      rw [cntE] at h3 ⊢; omega
  have hst : ∀ d, N.length ≤ d → ∀ q, q < N.length → 0 ≤ bh N ah first (d + 1) q c → 0 ≤ bh N ah first d q c := by
    intro d hd q hq h1
    apply Classical.byContradiction
    intro h2
    have h3 := key d ⟨q, hq, h1, h2⟩
    have h4 : cntE N ah first c (d + 1) ≤ N.length := by rw [cntE]; have := List.countP_le_length (p := fun q => decide (0 ≤ bh N ah first (d + 1) q c)) (l := List.range N.length); rw [List.length_range] at this; exact this
    omega
  by_cases hm : m ≤ N.length + 1
  · have := bh_le h (N.length + 1 - m)
    rw [show m + (N.length + 1 - m) = N.length + 1 by omega] at this; exact this
  · have hdown : ∀ e, 0 ≤ bh N ah first (N.length + 1 + e) q c → 0 ≤ bh N ah first (N.length + 1) q c := by
      intro e
      induction e with
      | zero => exact fun h => h
      | succ e ih => exact fun h => ih (hst (N.length + 1 + e) (by omega) q hq h)
    have h0 := hdown (m - (N.length + 1)) (by rw [show N.length + 1 + (m - (N.length + 1)) = m by omega]; exact h)
    have := bh_le h0 (m - (N.length + 1))
    rw [show N.length + 1 + (m - (N.length + 1)) = m by omega] at this; exact this.symm
/-- What the table behind a place says. -/
structure TabOk (N : List (List TP)) (tp : List Nat) (s0 : Nat) (i : Nat) (k : K5) : Prop where
  v : VT N.length k
  go : ∀ q, q < N.length → 0 ≤ tab k q → Fst N tp (q, i) i (tab k q).toNat
  nev : ∀ q, q < N.length → tab k q < 0 → Nev N tp (q, i) i
  go0 : 0 ≤ tab k 4 → Fst N tp (s0, 0) i (tab k 4).toNat
  nev0 : tab k 4 < 0 → Nev N tp (s0, 0) i
theorem step_r {q i : Nat} (hi : i < tp.length) (h : (tr N q (tp.getD i 0)).2.1 = 1) : nxc N tp (some (q, i)) = some ((tr N q (tp.getD i 0)).1.toNat, i + 1) := by
  rw [nxc, if_neg (by omega), if_pos h]
theorem step_l {q i : Nat} (hi : i + 1 < tp.length) (h : ¬ (tr N q (tp.getD (i + 1) 0)).2.1 = 1) : nxc N tp (some (q, i + 1)) = some ((tr N q (tp.getD (i + 1) 0)).1.toNat, i) := by
  rw [nxc, if_neg (by omega), if_neg h, if_neg (by omega)]; rfl
theorem step_0 {q : Nat} (hi : 0 < tp.length) (h : ¬ (tr N q (tp.getD 0 0)).2.1 = 1) : nxc N tp (some (q, 0)) = none := by
  rw [nxc, if_neg (by omega), if_neg h, if_pos rfl]
/-- Behind the first letter. -/
theorem bh_begin (F : TFit A s N M) (htp : ∀ i, i < tp.length → ((tp.getD i 0 : Nat) : Int) < A + 2) (h0 : 0 < tp.length) (ah : Nat → Int) (q : Nat) (hq : q < N.length) :
    (0 ≤ bh N ah true (N.length + 1) q (tp.getD 0 0) → Fst N tp (q, 0) 0 (bh N ah true (N.length + 1) q (tp.getD 0 0)).toNat) ∧ (bh N ah true (N.length + 1) q (tp.getD 0 0) < 0 → Nev N tp (q, 0) 0) := by
  have ht := tr_lt F hq (htp 0 h0)
  rw [bh]
  by_cases h1 : (tr N q (tp.getD 0 0)).2.1 = 1
  · rw [if_pos h1]
    refine ⟨fun _ => ⟨1, by rw [itc, step_r h0 h1]; rfl, fun j hj => ⟨q, 0, by rw [show j = 0 by omega]; rfl, Nat.le_refl _⟩⟩, fun h => by omega⟩
  · rw [if_neg h1, if_pos rfl]
    refine ⟨fun h => by omega, fun _ m z e => ?_⟩
    cases m with
    | zero => rw [itc] at e; have := congrArg (fun o : Option Cf => (o.getD (0, 0)).2) e; simp at this
    | succ m => rw [itc, step_0 h0 h1, itc_none] at e; cases e
/-- Behind a later letter. -/
theorem bh_go (F : TFit A s N M) (htp : ∀ i, i < tp.length → ((tp.getD i 0 : Nat) : Int) < A + 2) {s0 i : Nat} {k : K5} (T : TabOk N tp s0 i k) (hi : i + 1 < tp.length) : ∀ m q, q < N.length → 0 ≤ bh N (tab k) false m q (tp.getD (i + 1) 0) → Fst N tp (q, i + 1) (i + 1) (bh N (tab k) false m q (tp.getD (i + 1) 0)).toNat := by
  intro m
  induction m with
  | zero => intro q hq h; rw [bh] at h; omega
  | succ m ih =>
    intro q hq h
    have ht := tr_lt F hq (htp (i + 1) hi)
    have hv := T.v.lt F.n4 (tr N q (tp.getD (i + 1) 0)).1.toNat (by omega)
    rw [bh] at h ⊢
    by_cases h1 : (tr N q (tp.getD (i + 1) 0)).2.1 = 1
    · rw [if_pos h1]
      exact ⟨1, by rw [itc, step_r hi h1]; rfl, fun j hj => ⟨q, i + 1, by rw [show j = 0 by omega]; rfl, Nat.le_refl _⟩⟩
    · rw [if_neg h1, if_neg (by decide)] at h ⊢
      by_cases h3 : tab k (tr N q (tp.getD (i + 1) 0)).1.toNat < 0
      · rw [if_pos h3] at h; omega
      · rw [if_neg h3] at h ⊢
        have g1 := T.go _ (show (tr N q (tp.getD (i + 1) 0)).1.toNat < N.length by omega) (by omega)
        have g2 := ih _ (show (tab k (tr N q (tp.getD (i + 1) 0)).1.toNat).toNat < N.length by omega) h
        obtain ⟨n, e1, e2⟩ := g1.comp g2
        refine ⟨n + 1, by rw [itc, step_l hi h1]; exact e1, fun j hj => ?_⟩
        cases j with
        | zero => exact ⟨q, i + 1, rfl, Nat.le_refl _⟩
        | succ j =>
          obtain ⟨q', a, e, l⟩ := e2 j (by omega)
          exact ⟨q', a, by rw [itc, step_l hi h1]; exact e, l⟩
theorem bh_come (F : TFit A s N M) (htp : ∀ i, i < tp.length → ((tp.getD i 0 : Nat) : Int) < A + 2) {s0 i : Nat} {k : K5} (T : TabOk N tp s0 i k) (hi : i + 1 < tp.length) : ∀ n q z, q < N.length → itc N tp n (some (q, i + 1)) = some (z, i + 2) → ∃ m, 0 ≤ bh N (tab k) false m q (tp.getD (i + 1) 0) := by
  intro n
  induction n using Nat.strongRecOn with
  | _ n ih =>
    intro q z hq e
    have ht := tr_lt F hq (htp (i + 1) hi)
    have hv := T.v.lt F.n4 (tr N q (tp.getD (i + 1) 0)).1.toNat (by omega)
    cases n with
    | zero => rw [itc] at e; have := congrArg (fun o : Option Cf => (o.getD (0, 0)).2) e; simp at this
    | succ n =>
      by_cases h1 : (tr N q (tp.getD (i + 1) 0)).2.1 = 1
      · exact ⟨1, by rw [bh, if_pos h1]; exact ht.1⟩
      · rw [itc, step_l hi h1] at e
        have hx : (tr N q (tp.getD (i + 1) 0)).1.toNat < N.length := by omega
        by_cases h3 : tab k (tr N q (tp.getD (i + 1) 0)).1.toNat < 0
        · exfalso
          obtain ⟨m', z', g⟩ := pass n ((tr N q (tp.getD (i + 1) 0)).1.toNat, i) (by simp) e
          exact T.nev _ hx h3 m' z' g
        · obtain ⟨m1, g1, g2⟩ := T.go _ hx (by omega)
          by_cases hm : n < m1
          · exfalso
            obtain ⟨q', a, e', l⟩ := g2 n hm
            rw [e] at e'
            have := congrArg (fun o : Option Cf => (o.getD (0, 0)).2) e'
            simp at this; omega
          · have e2 : itc N tp (n - m1) (some ((tab k (tr N q (tp.getD (i + 1) 0)).1.toNat).toNat, i + 1)) = some (z, i + 2) := by
              rw [← e, show n = m1 + (n - m1) by omega, itc_add, g1, Nat.add_sub_cancel_left]
            obtain ⟨m, hm2⟩ := ih (n - m1) (by omega) _ z (by omega) e2
            exact ⟨m + 1, by rw [bh, if_neg h1, if_neg (by decide), if_neg h3]; exact hm2⟩
theorem bh_next (F : TFit A s N M) (htp : ∀ i, i < tp.length → ((tp.getD i 0 : Nat) : Int) < A + 2) {s0 i : Nat} {k : K5} (T : TabOk N tp s0 i k) (hi : i + 1 < tp.length) (q : Nat) (hq : q < N.length) :
    (0 ≤ bh N (tab k) false (N.length + 1) q (tp.getD (i + 1) 0) → Fst N tp (q, i + 1) (i + 1) (bh N (tab k) false (N.length + 1) q (tp.getD (i + 1) 0)).toNat) ∧ (bh N (tab k) false (N.length + 1) q (tp.getD (i + 1) 0) < 0 → Nev N tp (q, i + 1) (i + 1)) := by
  refine ⟨bh_go F htp T hi _ q hq, fun h m z e => ?_⟩
  obtain ⟨d, hd⟩ := bh_come F htp T hi m q z hq e
  rw [bh_enough F (T.v.lt F.n4) (htp (i + 1) hi) hq hd] at h
  omega
/-- From who began at the left. -/
theorem fr_next (F : TFit A s N M) (htp : ∀ i, i < tp.length → ((tp.getD i 0 : Nat) : Int) < A + 2) {s0 i : Nat} {k : K5} (T : TabOk N tp s0 i k) (hi : i + 1 < tp.length) :
    (0 ≤ frT N (tab k) false (tp.getD (i + 1) 0) (tab k 4) → Fst N tp (s0, 0) (i + 1) (frT N (tab k) false (tp.getD (i + 1) 0) (tab k 4)).toNat) ∧ (frT N (tab k) false (tp.getD (i + 1) 0) (tab k 4) < 0 → Nev N tp (s0, 0) (i + 1)) := by
  have h4 := T.v.rng 4 (by omega)
  rw [frT]
  by_cases hz : 0 ≤ tab k 4
  · rw [if_pos hz]
    obtain ⟨g1, g2⟩ := bh_next F htp T hi (tab k 4).toNat (by omega)
    exact ⟨fun h => (T.go0 hz).comp (g1 h), fun h => (T.go0 hz).nev (g2 h)⟩
  · rw [if_neg hz]
    exact ⟨fun h => by omega, fun _ => (T.nev0 (by omega)).up (Nat.zero_le _)⟩
theorem tab_next (F : TFit A s N M) (htp : ∀ i, i < tp.length → ((tp.getD i 0 : Nat) : Int) < A + 2) {s0 i : Nat} {k : K5} (T : TabOk N tp s0 i k) (hi : i + 1 < tp.length) : TabOk N tp s0 (i + 1) (nfT N k (tp.getD (i + 1) 0)) := by
  have n4 := F.n4
  have hg : ∀ q, q < N.length → tab (nfT N k (tp.getD (i + 1) 0)) q = bh N (tab k) false (N.length + 1) q (tp.getD (i + 1) 0) := by
    intro q hq
    rw [nfT, mkTab_get _ _ _ _ (by omega), gT, if_pos hq]
  have h4 : tab (nfT N k (tp.getD (i + 1) 0)) 4 = frT N (tab k) false (tp.getD (i + 1) 0) (tab k 4) := rfl
  obtain ⟨f1, f2⟩ := fr_next F htp T hi
  refine ⟨nfT_ok F T.v (htp _ hi), fun q hq h => ?_, fun q hq h => ?_, fun h => ?_, fun h => ?_⟩
  · rw [hg q hq] at h ⊢; exact (bh_next F htp T hi q hq).1 h
  · rw [hg q hq] at h; exact (bh_next F htp T hi q hq).2 h
  · rw [h4] at h ⊢; exact f1 h
  · rw [h4] at h; exact f2 h
end Go.Proofs.YtfkilmmldjajmaaSx.DC
namespace Go.Proofs.YtfkilmmldjajmaaSx.DC
section
variable {A s : Int} {N : List (List TP)} {M : List Int} {tp : List Nat}
/-! Words. -/
def first2 (A s : Int) (N : List (List TP)) : K5 := mkTab N (fun _ => 0) true A.toNat s
def keyW (A s : Int) (N : List (List TP)) (w : List Nat) : K5 := w.foldl (nfT N) (first2 A s N)
theorem first_ok (F : TFit A s N M) : VT N.length (first2 A s N) := mkTab_ok F (fun i hi => by have := F.n1; omega) true (by have := F.a1; omega) F.s.2
theorem tab_first (F : TFit A s N M) (htp : ∀ i, i < tp.length → ((tp.getD i 0 : Nat) : Int) < A + 2) (h0 : 0 < tp.length) (e0 : tp.getD 0 0 = A.toNat) : TabOk N tp s.toNat 0 (first2 A s N) := by
  have n4 := F.n4; have hs := F.s
  have hg : ∀ q, q < N.length → tab (first2 A s N) q = bh N (fun _ => 0) true (N.length + 1) q (tp.getD 0 0) := by
    intro q hq
    rw [first2, mkTab_get _ _ _ _ (by omega), gT, if_pos hq, e0]
  have h4 : tab (first2 A s N) 4 = bh N (fun _ => 0) true (N.length + 1) s.toNat (tp.getD 0 0) := by
    show frT N (fun _ => 0) true A.toNat s = _
    rw [frT, if_pos hs.1, e0]
  refine ⟨first_ok F, fun q hq h => ?_, fun q hq h => ?_, fun h => ?_, fun h => ?_⟩
  · rw [hg q hq] at h ⊢; exact (bh_begin F htp h0 _ q hq).1 h
  · rw [hg q hq] at h; exact (bh_begin F htp h0 _ q hq).2 h
  · rw [h4] at h ⊢; exact (bh_begin F htp h0 _ s.toNat (by omega)).1 h
  · rw [h4] at h; exact (bh_begin F htp h0 _ s.toNat (by omega)).2 h
theorem tab_word (F : TFit A s N M) (w : List Nat) (htp : ∀ i, i < ((A.toNat :: w) ++ [A.toNat + 1]).length → ((((A.toNat :: w) ++ [A.toNat + 1]).getD i 0 : Nat) : Int) < A + 2) : ∀ i, i ≤ w.length → TabOk N ((A.toNat :: w) ++ [A.toNat + 1]) s.toNat i ((w.take i).foldl (nfT N) (first2 A s N)) := by
  intro i
  induction i with
  | zero => intro _; exact tab_first F htp (by simp) rfl
  | succ i ih =>
    intro hi
    have T := ih (by omega)
    have hgi : ((A.toNat :: w) ++ [A.toNat + 1]).getD (i + 1) 0 = w[i]'(by omega) := by
      rw [List.getD_eq_getElem?_getD, List.cons_append, List.getElem?_cons_succ, List.getElem?_append_left (by omega), List.getElem?_eq_getElem (by omega)]; rfl
    have := tab_next F htp T (show i + 1 < ((A.toNat :: w) ++ [A.toNat + 1]).length by simp; omega)
    rw [hgi] at this
    rw [List.take_succ_eq_append_getElem (by omega), List.foldl_append]
    exact this
/-- A word is accepted just where its table says so. -/
theorem acc_word (F : TFit A s N M) (w : List Nat) (hw : ∀ c ∈ w, (c : Int) < A) : mkT2 A N M (keyW A s N w) = 1 ↔ ∃ z, M.getD z 0 = 1 ∧ ∃ m, itc N ((A.toNat :: w) ++ [A.toNat + 1]) m (some (s.toNat, 0)) = some (z, ((A.toNat :: w) ++ [A.toNat + 1]).length) := by
  have a1 := F.a1; have n4 := F.n4; have hm := F.m
  have htp : ∀ i, i < ((A.toNat :: w) ++ [A.toNat + 1]).length → ((((A.toNat :: w) ++ [A.toNat + 1]).getD i 0 : Nat) : Int) < A + 2 := by
    intro i hi
    have hmem : ((A.toNat :: w) ++ [A.toNat + 1]).getD i 0 ∈ (A.toNat :: w) ++ [A.toNat + 1] := by
      rw [List.getD_eq_getElem?_getD, List.getElem?_eq_getElem hi]; exact List.getElem_mem hi
    rcases List.mem_append.1 hmem with h | h
    · rcases List.mem_cons.1 h with h | h
      · rw [h]; omega
      · have := hw _ h; omega
    · rw [List.mem_singleton] at h; rw [h]; omega
  have T := tab_word F w htp w.length (Nat.le_refl _)
  rw [List.take_length] at T
  have hlen : ((A.toNat :: w) ++ [A.toNat + 1]).length = w.length + 1 + 1 := by simp
  have hlast : ((A.toNat :: w) ++ [A.toNat + 1]).getD (w.length + 1) 0 = A.toNat + 1 := by
    rw [List.getD_eq_getElem?_getD, List.getElem?_append_right (by simp)]; simp
  obtain ⟨f1, f2⟩ := fr_next F htp T (by omega)
  rw [hlast] at f1 f2
  have hmk : mkT2 A N M (keyW A s N w) = if 0 ≤ frT N (tab (keyW A s N w)) false (A.toNat + 1) (tab (keyW A s N w) 4) then M.getD (frT N (tab (keyW A s N w)) false (A.toNat + 1) (tab (keyW A s N w) 4)).toNat 0 else 0 := by
    rw [mkT2, frT]
    by_cases h : tab (keyW A s N w) 4 < 0
    · rw [if_pos h, if_neg (show ¬ 0 ≤ tab (keyW A s N w) 4 by omega), if_neg (by decide)]
    · rw [if_neg h, if_pos (show 0 ≤ tab (keyW A s N w) 4 by omega)]
  obtain ⟨v, hv⟩ : ∃ v, v = frT N (tab (keyW A s N w)) false (A.toNat + 1) (tab (keyW A s N w) 4) := ⟨_, rfl⟩
  have f1' : 0 ≤ v → Fst N ((A.toNat :: w) ++ [A.toNat + 1]) (s.toNat, 0) (w.length + 1) v.toNat := by rw [hv]; exact f1
  have f2' : v < 0 → Nev N ((A.toNat :: w) ++ [A.toNat + 1]) (s.toNat, 0) (w.length + 1) := by rw [hv]; exact f2
  rw [hmk, ← hv, hlen]
  by_cases h : 0 ≤ v
  · rw [if_pos h]
    obtain ⟨m0, e0, _⟩ := f1' h
    constructor
    · intro h1; exact ⟨v.toNat, h1, m0, e0⟩
    · rintro ⟨z, hz, m, e⟩
      have hend : ∀ (x y : Nat) d, itc N ((A.toNat :: w) ++ [A.toNat + 1]) x (some (s.toNat, 0)) = some (y, w.length + 1 + 1) → itc N ((A.toNat :: w) ++ [A.toNat + 1]) (x + d) (some (s.toNat, 0)) = some (y, w.length + 1 + 1) := by
        intro x y d hx
        have := itc_end (N := N) (tp := (A.toNat :: w) ++ [A.toNat + 1]) y d
        rw [hlen] at this
        rw [itc_add, hx, this]
      have e1 := hend m z m0 e
      have e2 := hend m0 v.toNat m e0
      rw [Nat.add_comm m m0, e2] at e1
      have := congrArg (fun o : Option Cf => (o.getD (0, 0)).1) e1
      simp at this
      rw [this]; exact hz
  · rw [if_neg h]
    constructor
    · intro h1; omega
    · rintro ⟨z, hz, m, e⟩
      exact absurd e (f2' (by omega) m z)
end
end Go.Proofs.YtfkilmmldjajmaaSx.DC
namespace Go.Proofs.YtfkilmmldjajmaaSx.DC
variable {A s : Int} {N : List (List TP)} {M : List Int}
/-- At the first letter what is ahead is not looked at. -/
theorem leaves_first (F : TFit A s N M) (k : K5) (c : Nat) (hc : (c : Int) < A + 2) (q : Nat) (hq : q < N.length) :
    Ev (fun n => two_Det_1.f n k true (q : Int) (c : Int) (N.length : Int) A s N M) (bh N (fun _ => 0) true (N.length + 1) q c, (N.length : Int), A, s, N, M) := by
  have n4 := F.n4
  have hw : Go.IntKind.i64.wrap ((N.length : Int) + 1) = ((N.length + 1 : Nat) : Int) := wrSucc _ (by omega)
  have ht := tr_lt F hq hc
  have hrow := F.row q hq
  have e1 : rd [] N (q : Int) = N.getD q [] := rd_nat _ _ _
  have e2 : rd (Int.ofNat 0, Int.ofNat 0, ()) (N.getD q []) (c : Int) = tr N q c := rd_nat _ _ _
  rw [bh_succ, if_pos rfl]
  simp only [two_Det_1.f, hw]
  by_cases h1 : (tr N q c).2.1 = 1
  · rw [if_pos h1]
    refine Ev.step (h := fun _ => some ((tr N q c).1, (N.length : Int), A, s, N, M)) (fun n => ?_) (Ev.now _)
    rw [two_Det_1.l2, if_pos (by omega), if_pos (by omega), if_pos (by omega), if_pos (by omega), e1, if_pos (by omega), e2, if_pos h1]
  · rw [if_neg h1]
    refine Ev.step (h := fun _ => some (-1, (N.length : Int), A, s, N, M)) (fun n => ?_) (Ev.now _)
    rw [two_Det_1.l2, if_pos (by omega), if_pos (by omega), if_pos (by omega), if_pos (by omega), e1, if_pos (by omega), e2, if_neg h1, if_pos rfl]
/-- The first table as it grows. -/
def b0 (A : Int) (N : List (List TP)) (q i : Nat) : Int := if i < q then gT N (fun _ => 0) true A.toNat N.length i else 0
theorem b0_step (q i : Nat) (hq : q < N.length) : (if ((q : Nat) : Int).toNat = i then bh N (fun _ => 0) true (N.length + 1) q A.toNat else if ((q : Nat) : Int).toNat = i then Int.instNegInt.1 1 else b0 A N q i) = b0 A N (q + 1) i := by
  rw [Int.toNat_natCast, b0, b0]
  by_cases h : q = i
  · subst h; rw [if_pos rfl, if_pos (by omega), gT, if_pos hq]
  · rw [if_neg h, if_neg h]
    by_cases h2 : i < q
    · rw [if_pos h2, if_pos (by omega)]
    · rw [if_neg h2, if_neg (by omega)]
theorem b0_none (q i : Nat) (hq : ¬ q < N.length) : (if ((q : Nat) : Int).toNat = i then Int.instNegInt.1 1 else b0 A N q i) = b0 A N (q + 1) i := by
  rw [Int.toNat_natCast, b0, b0]
  by_cases h : q = i
  · subst h; rw [if_pos rfl, if_pos (by omega), gT, if_neg hq]
  · rw [if_neg h]
    by_cases h2 : i < q
    · rw [if_pos h2, if_pos (by omega)]
    · rw [if_neg h2, if_neg (by omega)]
abbrev RTD := Int × Int × Int × List (List Int) × List Int
theorem det_l8 (F : TFit A s N M) (r : RTD)
    (E : Ev (fun k => (det_Explore_two_table_.f k A (first2 A s N) (Int.ofNat 1048576) (N.length : Int) A s N M).bind fun r4 => (det_Smallest.f k (r4.fst, r4.snd.fst, r4.snd.snd.snd.snd.snd.snd.snd.snd.fst, r4.snd.snd.snd.snd.snd.snd.snd.snd.snd, ())).bind fun r5 => if r4.snd.snd.fst = true then if 3000 < (r5.snd.snd.fst.length : Int) then some (0, 0, 7, [], []) else some (r5.fst, r5.snd.fst, 0, r5.snd.snd.fst, r5.snd.snd.snd) else some (0, 0, 7, [], [])) r) :
    ∀ (n q : Nat), 4 - q = n → q ≤ 4 → Ev (fun k => two_Det.l8 k (q : Int) A s N M 0 0 (N.length : Int) (b0 A N q 0) (b0 A N q 1) (b0 A N q 2) (b0 A N q 3) 0 [] []) r := by
  have n4 := F.n4; have a1 := F.a1; have hs := F.s
  have hA : ((A.toNat : Nat) : Int) = A := by omega
  intro n
  induction n with
  | zero =>
    intro q hn hq
    have : q = 4 := by omega
    subst this
    have hlv := leaves_first F (b0 A N 4 0, b0 A N 4 1, b0 A N 4 2, b0 A N 4 3, 0, ()) A.toNat (by omega) s.toNat (by omega)
    rw [hA, show ((s.toNat : Nat) : Int) = s by omega] at hlv
    have hf : first2 A s N = (b0 A N 4 0, b0 A N 4 1, b0 A N 4 2, b0 A N 4 3, bh N (fun _ => 0) true (N.length + 1) s.toNat A.toNat, ()) := by
      rw [first2, mkTab, frT, if_pos hs.1]
      rfl
    rw [hf] at E
    refine Ev.step (fun k => by rw [two_Det.l8, if_neg (show ¬ ((4 : Nat) : Int) < 4 by decide)]) (Ev.bind hlv ?_)
    exact E
  | succ n ih =>
    intro q hn hq
    have h1 := ih (q + 1) (by omega) (by omega)
    have j13 : ∀ x0 x1 x2 x3 x4 : Int, x0 = b0 A N (q + 1) 0 → x1 = b0 A N (q + 1) 1 → x2 = b0 A N (q + 1) 2 → x3 = b0 A N (q + 1) 3 → x4 = 0 → Ev (fun k => two_Det.j13 k (q : Int) A s N M 0 0 (N.length : Int) x0 x1 x2 x3 x4 [] []) r := by
      intro x0 x1 x2 x3 x4 y0 y1 y2 y3 y4
      rw [y0, y1, y2, y3, y4]
      refine Ev.step (fun k => ?_) h1
      rw [two_Det.j13, wrSucc q (by omega)]
    have hne : ¬ ((q : Nat) : Int).toNat = 0 + 1 + 1 + 1 + 1 := by rw [Int.toNat_natCast]; omega
    by_cases hqn : q < N.length
    · have hlv := leaves_first F (if ((q : Nat) : Int).toNat = 0 then Int.instNegInt.1 1 else b0 A N q 0, if ((q : Nat) : Int).toNat = 0 + 1 then Int.instNegInt.1 1 else b0 A N q 1, if ((q : Nat) : Int).toNat = 0 + 1 + 1 then Int.instNegInt.1 1 else b0 A N q 2, if ((q : Nat) : Int).toNat = 0 + 1 + 1 + 1 then Int.instNegInt.1 1 else b0 A N q 3, if ((q : Nat) : Int).toNat = 0 + 1 + 1 + 1 + 1 then Int.instNegInt.1 1 else 0, ()) A.toNat (by omega) q hqn
      rw [hA] at hlv
      refine Ev.step (fun k => by rw [two_Det.l8, if_pos (show ((q : Nat) : Int) < 4 by omega), if_pos (show (0 : Int) ≤ ((q : Nat) : Int) by omega), if_pos (show ((q : Nat) : Int) < 5 by omega), if_pos (show ((q : Nat) : Int) < (N.length : Int) by omega)]) (Ev.bind hlv ?_)
      simp only [if_pos (show (0 : Int) ≤ ((q : Nat) : Int) by omega), if_pos (show ((q : Nat) : Int) < 5 by omega)]
      exact j13 _ _ _ _ _ (b0_step q 0 hqn) (b0_step q 1 hqn) (b0_step q 2 hqn) (b0_step q 3 hqn) (by rw [if_neg hne, if_neg hne])
    · refine Ev.step (fun k => by rw [two_Det.l8, if_pos (show ((q : Nat) : Int) < 4 by omega), if_pos (show (0 : Int) ≤ ((q : Nat) : Int) by omega), if_pos (show ((q : Nat) : Int) < 5 by omega), if_neg (show ¬ ((q : Nat) : Int) < (N.length : Int) by omega)]) ?_
      exact j13 _ _ _ _ _ (b0_none q 0 hqn) (b0_none q 1 hqn) (b0_none q 2 hqn) (b0_none q 3 hqn) (by rw [if_neg hne])
/-- Where a word leads in what a search has made. -/
theorem rows_walk {κ : Type} {B : Int} {nf : κ → Nat → κ} {mf : κ → Int} {L : List κ} {X : List (List Int)} {Y : List Int} (H : Rows B.toNat nf mf L X Y) (hl : X.length = L.length) : ∀ (w : List Nat) (i : Nat) (hi : i < L.length), (∀ a ∈ w, (a : Int) < B) → Y.getD (aft X i w) 0 = mf (w.foldl nf L[i]) := by
  intro w
  induction w with
  | nil => intro i hi _; exact (H.row i (by omega)).2.1
  | cons a w ih =>
    intro i hi hw
    obtain ⟨j, hj, e1, e2⟩ := (H.row i (by omega)).2.2 a (by have := hw a List.mem_cons_self; omega)
    rw [aft, e1, Int.toNat_natCast, ih j hj (fun b hb => hw b (List.mem_cons_of_mem _ hb)), e2]
    rfl
theorem mkT2_ok (F : TFit A s N M) (k : K5) (hk : VT N.length k) : mkT2 A N M k = 0 ∨ mkT2 A N M k = 1 := by
  have a1 := F.a1; have n4 := F.n4
  have h4 := hk.rng 4 (by omega)
  rw [mkT2]
  split
  · exact .inl rfl
  · split
    · rename_i h1 h2
      have := bh_rng F (hk.lt n4) false (c := A.toNat + 1) (by omega) (N.length + 1) (tab k 4).toNat (by omega)
      exact F.mark _ (by omega)
    · exact .inl rfl
end Go.Proofs.YtfkilmmldjajmaaSx.DC
namespace Go.Proofs.YtfkilmmldjajmaaSx.DC
/-! Bits. -/
theorem or_bits (a b : Nat) (ha : a < 2 ^ 31) (hb : b < 2 ^ 31) : Go.IntKind.i64.wrap (((BitVec.ofInt Go.IntKind.i64.bits (a : Int) ||| BitVec.ofInt Go.IntKind.i64.bits (b : Int)).toNat : Nat) : Int) = ((a ||| b : Nat) : Int) := by
  have h : (BitVec.ofInt 64 (a : Int) ||| BitVec.ofInt 64 (b : Int)).toNat = a ||| b := by
    rw [BitVec.toNat_or, BitVec.ofInt_natCast, BitVec.ofInt_natCast, BitVec.toNat_ofNat, BitVec.toNat_ofNat, Nat.mod_eq_of_lt (by omega), Nat.mod_eq_of_lt (by omega)]
  have h2 : a ||| b < 2 ^ 31 := Nat.or_lt_two_pow ha hb
  show Go.IntKind.i64.wrap (((BitVec.ofInt 64 (a : Int) ||| BitVec.ofInt 64 (b : Int)).toNat : Nat) : Int) = _
  rw [h, wr64] <;> omega
theorem test_bits (g r : Nat) (hg : g < 2 ^ 31) (hr : r ≤ 60) : Go.IntKind.i64.wrap (((BitVec.ofInt Go.IntKind.i64.bits ((g : Int).fdiv (2 ^ min (r : Int).toNat Go.IntKind.i64.bits)) &&& BitVec.ofInt Go.IntKind.i64.bits 1).toNat : Nat) : Int) = ((g / 2 ^ r % 2 : Nat) : Int) := by
  have e1 : ((g : Int).fdiv (2 ^ min (r : Int).toNat Go.IntKind.i64.bits)) = ((g / 2 ^ r : Nat) : Int) := by
    show ((g : Int).fdiv (2 ^ min (r : Int).toNat 64)) = _
    rw [Int.toNat_natCast, Nat.min_eq_left (by omega), Int.fdiv_eq_ediv_of_nonneg _ (by exact Int.pow_nonneg (by decide)), Int.natCast_ediv, Int.natCast_pow]; rfl
  have h : (BitVec.ofInt 64 ((g / 2 ^ r : Nat) : Int) &&& BitVec.ofInt 64 ((1 : Nat) : Int)).toNat = g / 2 ^ r % 2 := by
    have : g / 2 ^ r ≤ g := Nat.div_le_self _ _
    rw [BitVec.toNat_and, BitVec.ofInt_natCast, BitVec.ofInt_natCast, BitVec.toNat_ofNat, BitVec.toNat_ofNat, Nat.mod_eq_of_lt (by omega), Nat.mod_eq_of_lt (by omega), Nat.and_one_is_mod]
  rw [e1]
  show Go.IntKind.i64.wrap (((BitVec.ofInt 64 ((g / 2 ^ r : Nat) : Int) &&& BitVec.ofInt 64 ((1 : Nat) : Int)).toNat : Nat) : Int) = _
  rw [h, wr64] <;> omega
theorem shl_bits (m q : Nat) (hm : m ≤ 1) (hq : q ≤ 20) : Go.IntKind.i64.wrap ((m : Int) * 2 ^ min (q : Int).toNat Go.IntKind.i64.bits) = ((m * 2 ^ q : Nat) : Int) := by
  have hp : 2 ^ q ≤ 2 ^ 20 := Nat.pow_le_pow_right (by decide) hq
  have hb : m * 2 ^ q ≤ 1 * 2 ^ 20 := Nat.mul_le_mul hm hp
  show Go.IntKind.i64.wrap ((m : Int) * 2 ^ min (q : Int).toNat 64) = _
  have e : (m : Int) * 2 ^ min (q : Int).toNat 64 = ((m * 2 ^ q : Nat) : Int) := by
    rw [Int.toNat_natCast, Nat.min_eq_left (by omega), Int.natCast_mul, Int.natCast_pow]; rfl
  rw [e, wr64] <;> omega
/-- The number whose bits below i are told by P. -/
def bitsum (P : Nat → Bool) : Nat → Nat
  | 0 => 0
  | i + 1 => bitsum P i + (if P i = true then 1 else 0) * 2 ^ i
theorem bitsum_lt (P : Nat → Bool) : ∀ i, bitsum P i < 2 ^ i
  | 0 => by simp [bitsum]
  | i + 1 => by
    have := bitsum_lt P i
    rw [bitsum, Nat.pow_succ]
    split <;> omega
theorem or_step (P : Nat → Bool) (i : Nat) (hi : i ≤ 20) (m : Nat) (hm : m = if P i = true then 1 else 0) : Go.IntKind.i64.wrap (((BitVec.ofInt Go.IntKind.i64.bits (bitsum P i : Int) ||| BitVec.ofInt Go.IntKind.i64.bits (Go.IntKind.i64.wrap ((m : Int) * 2 ^ min (i : Int).toNat Go.IntKind.i64.bits))).toNat : Nat) : Int) = ((bitsum P (i + 1) : Nat) : Int) := by
  have hlt := bitsum_lt P i
  have hp : 2 ^ i ≤ 2 ^ 20 := Nat.pow_le_pow_right (by decide) hi
  have hm1 : m ≤ 1 := by rw [hm]; split <;> omega
  have hb : m * 2 ^ i ≤ 1 * 2 ^ 20 := Nat.mul_le_mul hm1 hp
  rw [shl_bits m i hm1 hi, or_bits _ _ (by omega) (by omega), bitsum, ← hm]
  congr 1
  rw [Nat.or_comm, Nat.mul_comm, ← Nat.two_pow_add_eq_or_of_lt hlt, Nat.add_comm]
theorem bitsum_test (P : Nat → Bool) : ∀ i j, bitsum P i / 2 ^ j % 2 = if j < i ∧ P j = true then 1 else 0
  | 0, j => by simp [bitsum]
  | i + 1, j => by
    have ih := bitsum_test P i j
    have hlt := bitsum_lt P i
    rw [bitsum]
    rcases Nat.lt_trichotomy j i with h | h | h
    · have e : (if P i = true then 1 else 0) * 2 ^ i = 2 ^ j * (2 * ((if P i = true then 1 else 0) * 2 ^ (i - j - 1))) := by
        have : 2 ^ i = 2 ^ j * (2 * 2 ^ (i - j - 1)) := by
          rw [← Nat.pow_succ', ← Nat.pow_add]; congr 1; omega
        rw [this, Nat.mul_left_comm, Nat.mul_left_comm 2]
      rw [e, Nat.add_mul_div_left _ _ (Nat.two_pow_pos j), Nat.add_mul_mod_self_left, ih]
      simp [h, show j < i + 1 by omega]
    · subst h
      have e : bitsum P j / 2 ^ j = 0 := Nat.div_eq_of_lt hlt
      rw [Nat.add_mul_div_right _ _ (Nat.two_pow_pos j), e, Nat.zero_add]
      by_cases hp : P j = true <;> simp [hp]
    · have hlt2 : bitsum P i + (if P i = true then 1 else 0) * 2 ^ i < 2 ^ j := by
        have := bitsum_lt P (i + 1)
        rw [bitsum] at this
        exact Nat.lt_of_lt_of_le this (Nat.pow_le_pow_right (by decide) h)
      rw [Nat.div_eq_of_lt hlt2]
      simp [show ¬ j < i + 1 by omega]
theorem bitsum_ext {P Q : Nat → Bool} : ∀ i, (∀ j, j < i → P j = Q j) → bitsum P i = bitsum Q i
  | 0, _ => rfl
  | i + 1, h => by rw [bitsum, bitsum, bitsum_ext i fun j hj => h j (by omega), h i (by omega)]
def bit (g r : Nat) : Bool := decide (g / 2 ^ r % 2 = 1)
theorem bit_sum (P : Nat → Bool) (i j : Nat) (h : j < i) : bit (bitsum P i) j = P j := by
  rw [bit, bitsum_test]
  by_cases hp : P j = true
  · rw [if_pos ⟨h, hp⟩, hp]; rfl
  · rw [if_neg fun h' => hp h'.2, (Bool.not_eq_true _).mp hp]; rfl
end Go.Proofs.YtfkilmmldjajmaaSx.DC
namespace Go.Proofs.YtfkilmmldjajmaaSx.DC
variable {A s : Int} {N : List (List Int)} {M : List Int}
/-- The one with choices: there is but one. -/
def alt (N : List (List Int)) : List (List (List (List Int))) := N.map fun r => r.map fun x => [[x]]
theorem alt_len (N : List (List Int)) : (alt N).length = N.length := List.length_map _
theorem alt_get {q : Nat} (hq : q < N.length) : (alt N).getD q [] = (N.getD q []).map fun x => [[x]] := by
  rw [alt, List.getD_eq_getElem?_getD, List.getD_eq_getElem?_getD, List.getElem?_map, List.getElem?_eq_getElem hq]; rfl
theorem alt_get2 {q a : Nat} (hq : q < N.length) (ha : a < (N.getD q []).length) : ((alt N).getD q []).getD a [] = [[(N.getD q []).getD a 0]] := by
  rw [alt_get hq, List.getD_eq_getElem?_getD, List.getD_eq_getElem?_getD (l := N.getD q []), List.getElem?_map, List.getElem?_eq_getElem ha]; rfl
theorem a11 (p g : Nat) (hp : p ≤ 60) (hg : g < 2 ^ 31) (k : Nat) : alter_ahead_1_1.f k (p : Int) (g : Int) = some (!bit g p, (g : Int)) := by
  rw [alter_ahead_1_1.f, if_pos (by omega), test_bits g p hg hp, bit]
  have : g / 2 ^ p % 2 = 0 ∨ g / 2 ^ p % 2 = 1 := by omega
  rcases this with h | h <;> rw [h] <;> rfl
theorem con6 (p g : Nat) (hp : p ≤ 60) (hg : g < 2 ^ 31) : Ev (fun k => Sf28.f k [(p : Int)] (g : Int)) (!bit g p, (g : Int)) := by
  have e0 : rd (Int.ofNat 0) [(p : Int)] 0 = (p : Int) := rfl
  have hl : (([(p : Int)] : List Int).length : Int) = 1 := rfl
  simp only [Sf28.f, Sf27.f, hl]
  cases hb : bit g p with
  | false =>
    refine Ev.bind (x := (0, (g : Int))) (Ev.step (h := fun _ => some (0, (g : Int))) (fun k => ?_) (Ev.now _)) (Ev.now _)
    rw [Sf27.l2, if_pos (by decide), if_pos (by decide), if_pos (by rw [hl]; decide), e0, a11 p g hp hg, Option.bind_some, hb]; rfl
  | true =>
    refine Ev.bind (x := (-1, (g : Int))) (Ev.step (h := fun k => Sf27.l2 k [(p : Int)] 1 1 (g : Int)) (fun k => ?_) (Ev.step (h := fun _ => some (-1, (g : Int))) (fun k => ?_) (Ev.now _))) (Ev.now _)
    · rw [Sf27.l2, if_pos (by decide), if_pos (by decide), if_pos (by rw [hl]; decide), e0, a11 p g hp hg, Option.bind_some, hb]; rfl
    · rw [Sf27.l2, if_neg (by decide)]
theorem con5 (p g : Nat) (hp : p ≤ 60) (hg : g < 2 ^ 31) : Ev (fun k => Sf30.f k [[(p : Int)]] (g : Int)) (bit g p, (g : Int)) := by
  have e0 : rd [] [[(p : Int)]] 0 = [(p : Int)] := rfl
  have hl : (([[(p : Int)]] : List (List Int)).length : Int) = 1 := rfl
  have h1 : Ev (fun k => alter_ahead_1.f k [(p : Int)] (g : Int)) (bit g p, (g : Int)) := by
    simp only [alter_ahead_1.f]
    refine Ev.bind (con6 p g hp hg) ((Ev.now _).cast ?_)
    rw [Bool.not_not]
  simp only [Sf30.f, Sf29.f, hl]
  cases hb : bit g p with
  | true =>
    rw [hb] at h1
    refine Ev.bind (x := (0, (g : Int))) (Ev.step (fun k => by rw [Sf29.l2, if_pos (by decide), if_pos (by decide), if_pos (by rw [hl]; decide), e0]) (Ev.bind h1 ?_)) (Ev.now _)
    simp only [if_true]; exact Ev.now _
  | false =>
    rw [hb] at h1
    refine Ev.bind (x := (-1, (g : Int))) (Ev.step (fun k => by rw [Sf29.l2, if_pos (by decide), if_pos (by decide), if_pos (by rw [hl]; decide), e0]) (Ev.bind h1 ?_)) (Ev.now _)
    simp only [Bool.false_eq_true, if_false]
    refine Ev.step (h := fun _ => some (-1, (g : Int))) (fun k => ?_) (Ev.now _)
    rw [Sf29.l2, if_neg (by decide)]
/-- The states ahead of a set. -/
def ahd (N : List (List Int)) (g a : Nat) : Nat := bitsum (fun q => bit g (nx N q a)) N.length
theorem ahd_lt (n4 : N.length ≤ 4) (g a : Nat) : ahd N g a < 16 := Nat.lt_of_lt_of_le (bitsum_lt _ _) (Nat.pow_le_pow_right (by decide) n4)
theorem or_one (P : Nat → Bool) (i : Nat) (hi : i ≤ 20) (h : P i = true) : Go.IntKind.i64.wrap (((BitVec.ofInt Go.IntKind.i64.bits (bitsum P i : Int) ||| BitVec.ofInt Go.IntKind.i64.bits (Go.IntKind.i64.wrap (1 * 2 ^ min (i : Int).toNat Go.IntKind.i64.bits))).toNat : Nat) : Int) = ((bitsum P (i + 1) : Nat) : Int) :=
  or_step P i hi 1 (by rw [h]; rfl)
theorem or_zero (P : Nat → Bool) (i : Nat) (h : P i = false) : bitsum P i = bitsum P (i + 1) := by
  rw [bitsum, h]; simp
theorem ahead_ev (F : Fit A s N M) (n4 : N.length ≤ 4) (g a : Nat) (hg : g < 2 ^ 31) (ha : (a : Int) < A) : Ev (fun k => alter_ahead.f k (A, s, alt N, M, ()) (g : Int) (a : Int)) ((ahd N g a : Nat) : Int) := by
  have hal := alt_len N
  have l3 : ∀ m q, N.length - q = m → q ≤ N.length → Ev (fun k => alter_ahead.l3 k (a : Int) (bitsum (fun q => bit g (nx N q a)) q : Int) (alt N) (N.length : Int) (q : Int) (g : Int)) ((ahd N g a : Nat) : Int) := by
    intro m
    induction m with
    | zero =>
      intro q hm hq
      have : q = N.length := by omega
      subst this
      refine Ev.step (h := fun _ => some ((ahd N g a : Nat) : Int)) (fun k => ?_) (Ev.now _)
      rw [alter_ahead.l3, if_neg (by omega)]; rfl
    | succ m ih =>
      intro q hm hq
      have hrow := F.row q (by omega)
      have hent := F.ent q (by omega) a ha
      have hnx : nx N q a ≤ 60 := by show ((N.getD q []).getD a 0).toNat ≤ 60; omega
      have e1 : rd [] (alt N) (q : Int) = (alt N).getD q [] := rd_nat _ _ _
      have e2 : rd [] ((alt N).getD q []) (a : Int) = [[((nx N q a : Nat) : Int)]] := by
        rw [rd_nat, alt_get2 (by omega) (by omega), Int.toNat_of_nonneg hent.1]
      have hlr : (((alt N).getD q []).length : Int) = A := by rw [alt_get (by omega), List.length_map]; exact hrow
      have hh := ih (q + 1) (by omega) (by omega)
      have j7 : Ev (fun k => alter_ahead.j7 k (a : Int) (bitsum (fun q => bit g (nx N q a)) (q + 1) : Int) (alt N) (N.length : Int) (q : Int) (g : Int)) ((ahd N g a : Nat) : Int) := by
        refine Ev.step (fun k => ?_) hh
        rw [alter_ahead.j7, wrSucc q (by omega)]
      refine Ev.step (fun k => by rw [alter_ahead.l3, if_pos (by omega), if_pos (by omega), if_pos (by omega), if_pos (by omega), e1, if_pos (by omega), e2]) (Ev.bind (con5 (nx N q a) g hnx hg) ?_)
      cases hb : bit g (nx N q a) with
      | true =>
        simp only [if_true, if_pos (show (0 : Int) ≤ (q : Int) by omega)]
        rw [or_one (fun q => bit g (nx N q a)) q (by omega) hb]; exact j7
      | false =>
        simp only [Bool.false_eq_true, if_false]
        rw [or_zero (fun q => bit g (nx N q a)) q hb]; exact j7
  simp only [alter_ahead.f, hal]
  exact l3 _ 0 rfl (by omega)
def nfA (N : List (List Int)) (k : Int) (a : Nat) : Int := ((bitsum (fun set => bit k.toNat (ahd N set a)) 16 : Nat) : Int)
theorem one_iff (b : Bool) (x : Nat) (h : x = 0 ∨ x = 1) (e : b = decide (x = 1)) : ((x : Int) = 1) ↔ b = true := by
  subst e; rcases h with h | h <;> subst h <;> simp
theorem det1_ev (F : Fit A s N M) (n4 : N.length ≤ 4) (g a : Nat) (hg : g < 2 ^ 31) (ha : (a : Int) < A) : Ev (fun k => alter_Det_1.f k (g : Int) (a : Int) A s (alt N) M) (nfA N (g : Int) a, A, s, alt N, M) := by
  have l3 : ∀ m i, 16 - i = m → i ≤ 16 → Ev (fun k => alter_Det_1.l3 k (g : Int) (a : Int) (bitsum (fun set => bit g (ahd N set a)) i : Int) (i : Int) A s (alt N) M) (nfA N (g : Int) a, A, s, alt N, M) := by
    intro m
    induction m with
    | zero =>
      intro i hm hi
      have : i = 16 := by omega
      subst this
      refine Ev.step (h := fun _ => some (nfA N (g : Int) a, A, s, alt N, M)) (fun k => ?_) (Ev.now _)
      rw [alter_Det_1.l3, if_neg (by omega)]; rfl
    | succ m ih =>
      intro i hm hi
      have hlt := ahd_lt n4 i a
      have hh := ih (i + 1) (by omega) (by omega)
      have j7 : Ev (fun k => alter_Det_1.j7 k (g : Int) (a : Int) (bitsum (fun set => bit g (ahd N set a)) (i + 1) : Int) (i : Int) A s (alt N) M) (nfA N (g : Int) a, A, s, alt N, M) := by
        refine Ev.step (fun k => ?_) hh
        rw [alter_Det_1.j7, wrSucc i (by omega)]
      refine Ev.step (fun k => by rw [alter_Det_1.l3, if_pos (by omega)]) (Ev.bind (ahead_ev F n4 i a (by omega) ha) ?_)
      simp only [if_pos (show (0 : Int) ≤ ((ahd N i a : Nat) : Int) by omega), test_bits g (ahd N i a) hg (by omega)]
      have hx : g / 2 ^ ahd N i a % 2 = 0 ∨ g / 2 ^ ahd N i a % 2 = 1 := by omega
      cases hb : bit g (ahd N i a) with
      | true =>
        have h1 := (one_iff (bit g (ahd N i a)) _ hx rfl).2 hb
        simp only [if_pos h1, if_pos (show (0 : Int) ≤ (i : Int) by omega)]
        rw [or_one (fun set => bit g (ahd N set a)) i (by omega) hb]; exact j7
      | false =>
        have h1 : ¬ ((g / 2 ^ ahd N i a % 2 : Nat) : Int) = 1 := fun h => by have := (one_iff (bit g (ahd N i a)) _ hx rfl).1 h; rw [hb] at this; cases this
        simp only [if_neg h1]
        rw [or_zero (fun set => bit g (ahd N set a)) i hb]; exact j7
  simp only [alter_Det_1.f]
  exact l3 _ 0 rfl (by omega)
theorem det2_ev (g l : Nat) (hg : g < 2 ^ 31) (hl : l ≤ 60) (k : Nat) : alter_Det_2.f k (g : Int) (l : Int) = some (if bit g l = true then 1 else 0, (l : Int)) := by
  rw [alter_Det_2.f, if_pos (by omega), test_bits g l hg hl, bit]
  have : g / 2 ^ l % 2 = 0 ∨ g / 2 ^ l % 2 = 1 := by omega
  rcases this with h | h <;> rw [h] <;> rfl
/-- The states that are good at the end. -/
def lst (M : List Int) : Nat := bitsum (fun q => decide (M.getD q 0 = 1)) M.length
theorem ends_ev (F : Fit A s N M) (n4 : N.length ≤ 4) : Ev (fun k => alter_ends.f k (A, s, alt N, M, ())) ((lst M : Nat) : Int) := by
  have hM := F.m
  have l3 : ∀ m q, M.length - q = m → q ≤ M.length → Ev (fun k => alter_ends.l3 k (bitsum (fun q => decide (M.getD q 0 = 1)) q : Int) M (M.length : Int) (q : Int)) ((lst M : Nat) : Int) := by
    intro m
    induction m with
    | zero =>
      intro q hm hq
      have : q = M.length := by omega
      subst this
      refine Ev.step (h := fun _ => some ((lst M : Nat) : Int)) (fun k => ?_) (Ev.now _)
      rw [alter_ends.l3, if_neg (by omega)]; rfl
    | succ m ih =>
      intro q hm hq
      have e1 : rd (Int.ofNat 0) M (q : Int) = ((if decide (M.getD q 0 = 1) = true then 1 else 0 : Nat) : Int) := by
        rw [rd_nat]
        show M.getD q 0 = _
        rcases F.mark q (by omega) with h | h <;> rw [h] <;> rfl
      refine Ev.step (fun k => ?_) (ih (q + 1) (by omega) (by omega))
      rw [alter_ends.l3, if_pos (by omega), if_pos (by omega), if_pos (by omega), if_pos (by omega), e1, or_step (fun q => decide (M.getD q 0 = 1)) q (by omega) _ rfl, wrSucc q (by omega)]
  simp only [alter_ends.f]
  exact l3 _ 0 rfl (by omega)
/-! The sets that a state stands for. -/
def good (p : Nat) : Nat := bitsum (fun set => bit set p) 16
theorem good_lt (p : Nat) : good p < 65536 := bitsum_lt _ 16
def fA (k : Int) : Nat := ((List.range 4).find? fun p => decide (k = (good p : Int))).getD 0
theorem fA_good : ∀ p, p < 4 → fA (good p : Int) = p := by decide +kernel
theorem nf_good (F : Fit A s N M) (n4 : N.length ≤ 4) {p a : Nat} (hp : p < N.length) : nfA N (good p : Int) a = (good (nx N p a) : Int) := by
  rw [nfA, Int.toNat_natCast]
  congr 1
  refine bitsum_ext 16 fun set hset => ?_
  rw [show bit (good p) (ahd N set a) = bit (ahd N set a) p from bit_sum _ 16 _ (ahd_lt n4 set a)]
  exact bit_sum _ _ _ hp
theorem mf_good (F : Fit A s N M) (n4 : N.length ≤ 4) {p : Nat} (hp : p < N.length) : (if bit ((good p : Nat) : Int).toNat (lst M) = true then (1 : Int) else 0) = M.getD p 0 := by
  have hM := F.m
  have hlt : lst M < 16 := by
    have h1 := bitsum_lt (fun q => decide (M.getD q 0 = 1)) M.length
    have h2 : 2 ^ M.length ≤ 2 ^ 4 := Nat.pow_le_pow_right (by decide) (by omega)
    show bitsum (fun q => decide (M.getD q 0 = 1)) M.length < 16
    omega
  rw [Int.toNat_natCast, show bit (good p) (lst M) = bit (lst M) p from bit_sum _ 16 _ hlt, show bit (lst M) p = decide (M.getD p 0 = 1) from bit_sum _ _ _ (by omega)]
  rcases F.mark p hp with h | h <;> rw [h] <;> rfl
end Go.Proofs.YtfkilmmldjajmaaSx.DC
namespace Go.Proofs.YtfkilmmldjajmaaSx.DC
theorem v_check4 (k : Nat) (m : Int) : alter_Check_5.f k m = some (badM m) := by
  rw [alter_Check_5.f, badM]
  by_cases h : m = 0
  · rw [if_pos h]; simp [h]
  · rw [if_neg h]; simp [h]
theorem v_idx4 (w : List Int) (hw : w.length ≤ 3000) : ∀ n i, w.length - i = n → i ≤ w.length →
    ∃ r, Ev (fun k => Sf19.l2 k w (w.length : Int) (i : Int)) r ∧ decide (0 ≤ r) = (w.drop i).any badM := by
  intro n
  induction n with
  | zero =>
    intro i hn hi
    refine ⟨-1, Ev.step (h := fun _ => some (-1)) (fun k => ?_) (Ev.now _), ?_⟩
    · rw [Sf19.l2, if_neg (by omega)]
    · rw [List.drop_eq_nil_of_le (by omega)]; rfl
  | succ n ih =>
    intro i hn hi
    obtain ⟨r, h1, h2⟩ := ih (i + 1) (by omega) (by omega)
    by_cases hb : badM (w.getD i (Int.ofNat 0)) = true
    · refine ⟨i, Ev.step (h := fun _ => some (i : Int)) (fun k => ?_) (Ev.now _), ?_⟩
      · rw [Sf19.l2, if_pos (by omega), if_pos (by omega), if_pos (by omega), v_check4, rd_nat, Option.bind_some, if_pos hb]
      · rw [drop_getD (Int.ofNat 0) w i (by omega), List.any_cons, hb, Bool.true_or, decide_eq_true (by omega)]
    · refine ⟨r, Ev.step (h := fun k => Sf19.l2 k w (w.length : Int) ((i + 1 : Nat) : Int)) (fun k => ?_) h1, ?_⟩
      · rw [Sf19.l2, if_pos (by omega), if_pos (by omega), if_pos (by omega), v_check4, rd_nat, Option.bind_some, wrSucc i (by omega), if_neg hb]
      · rw [drop_getD (Int.ofNat 0) w i (by omega), List.any_cons, h2, show badM (w.getD i (Int.ofNat 0)) = false from (Bool.not_eq_true _).mp hb, Bool.false_or]
theorem v_con4 (w : List Int) (hw : w.length ≤ 3000) : Ev (fun k => Sf20.f k w) (w.any badM) := by
  obtain ⟨r, h1, h2⟩ := v_idx4 w hw _ 0 rfl (by omega)
  rw [List.drop_zero] at h2
  refine (Ev.bind (g := fun k => Sf19.f k w) (x := r) (h := fun k r1 => some (decide (0 ≤ r1))) h1 (Ev.now _)).cast ?_
  exact h2

variable {A s : Int} {N : List (List Int)} {M : List Int}
/-! The check of the one with choices. -/
theorem v_con1 (F : Fit A s N M) (n4 : N.length ≤ 4) : Ev (fun k => Sf18.f k (alt N) A s (alt N) M) (false, A, s, alt N, M) := by
  have hal := alt_len N
  have l2 : ∀ m i, N.length - i = m → i ≤ N.length → Ev (fun k => Sf17.l2 k (alt N) (N.length : Int) (i : Int) A s (alt N) M) (-1, A, s, alt N, M) := by
    intro m
    induction m with
    | zero =>
      intro i hm hi
      refine Ev.step (h := fun _ => some (-1, A, s, alt N, M)) (fun k => ?_) (Ev.now _)
      rw [Sf17.l2, if_neg (by omega)]
    | succ m ih =>
      intro i hm hi
      have e1 : rd [] (alt N) (i : Int) = (alt N).getD i [] := rd_nat _ _ _
      have hlr : (((alt N).getD i []).length : Int) = A := by rw [alt_get (by omega), List.length_map]; exact F.row i (by omega)
      refine Ev.step (fun k => ?_) (ih (i + 1) (by omega) (by omega))
      rw [Sf17.l2, if_pos (by omega), if_pos (by omega), if_pos (by omega), e1, alter_Check_1.f, Option.bind_some, decide_eq_true hlr, wrSucc i (by omega)]
      rfl
  simp only [Sf18.f, Sf17.f, hal]
  exact Ev.bind (l2 _ 0 rfl (by omega)) (Ev.now _)
theorem v_con3 (p : Int) : Ev (fun k => Sf22.f k [[p]]) false := by
  have e0 : rd [] [[p]] 0 = [p] := rfl
  have hl : (([[p]] : List (List Int)).length : Int) = 1 := rfl
  simp only [Sf22.f, Sf21.f, hl]
  refine Ev.bind (x := -1) (Ev.step (h := fun k => Sf21.l2 k [[p]] 1 1) (fun k => ?_) (Ev.step (h := fun _ => some (-1)) (fun k => ?_) (Ev.now _))) (Ev.now _)
  · rw [Sf21.l2, if_pos (by decide), if_pos (by decide), if_pos (by rw [hl]; decide), e0, alter_Check_3.f, Option.bind_some]; rfl
  · rw [Sf21.l2, if_neg (by decide)]
theorem v_check2 (n p : Int) (h : 0 ≤ p ∧ p < n) (k : Nat) : alter_Check_2.f k p n = some (false, n) := by
  rw [alter_Check_2.f, if_neg (by omega), decide_eq_false (by omega)]
theorem v_con5 (n p : Int) (h : 0 ≤ p ∧ p < n) : Ev (fun k => Sf24.f k [p] n) (false, n) := by
  have e0 : rd (Int.ofNat 0) [p] 0 = p := rfl
  have hl : (([p] : List Int).length : Int) = 1 := rfl
  simp only [Sf24.f, Sf23.f, hl]
  refine Ev.bind (x := (-1, n)) (Ev.step (h := fun k => Sf23.l2 k [p] 1 1 n) (fun k => ?_) (Ev.step (h := fun _ => some (-1, n)) (fun k => ?_) (Ev.now _))) (Ev.now _)
  · rw [Sf23.l2, if_pos (by decide), if_pos (by decide), if_pos (by rw [hl]; decide), e0, v_check2 n p h, Option.bind_some]; rfl
  · rw [Sf23.l2, if_neg (by decide)]
theorem v_con44 (n p : Int) (h : 0 ≤ p ∧ p < n) : Ev (fun k => Sf26.f k [[p]] n) (false, n) := by
  have e0 : rd [] [[p]] 0 = [p] := rfl
  have hl : (([[p]] : List (List Int)).length : Int) = 1 := rfl
  have h1 : Ev (fun k => alter_Check_4.f k [p] n) (false, n) := by
    simp only [alter_Check_4.f]
    exact Ev.bind (v_con5 n p h) (Ev.now _)
  simp only [Sf26.f, Sf25.f, hl]
  refine Ev.bind (x := (-1, n)) (Ev.step (fun k => by rw [Sf25.l2, if_pos (by decide), if_pos (by decide), if_pos (by rw [hl]; decide), e0]) (Ev.bind h1 ?_)) (Ev.now _)
  simp only [Bool.false_eq_true, if_false]
  refine Ev.step (h := fun _ => some (-1, n)) (fun k => ?_) (Ev.now _)
  rw [Sf25.l2, if_neg (by decide)]
theorem v_l14 (F : Fit A s N M) (n4 : N.length ≤ 4) (q : Nat) (hq : q < N.length) (r : Int) (E : Ev (fun k => alter_Check.l11 k false (alt N) (N.length : Int) ((q + 1 : Nat) : Int) A s (alt N) M (N.length : Int)) r) :
    ∀ m a, A.toNat - a = m → a ≤ A.toNat → Ev (fun k => alter_Check.l14 k false (alt N) (N.length : Int) (q : Int) ((alt N).getD q []) A (a : Int) A s (alt N) M (N.length : Int)) r := by
  have a1 := F.a1; have a4 := F.a4
  have hrow := F.row q hq
  have hlr : (((alt N).getD q []).length : Int) = A := by rw [alt_get hq, List.length_map]; exact hrow
  intro m
  induction m with
  | zero =>
    intro a hm ha
    refine Ev.step (fun k => ?_) E
    rw [alter_Check.l14, if_neg (by omega), wrSucc q (by omega)]
  | succ m ih =>
    intro a hm ha
    have hent := F.ent q hq a (by omega)
    have e2 : rd [] ((alt N).getD q []) (a : Int) = [[(N.getD q []).getD a 0]] := by
      rw [rd_nat, alt_get2 hq (by omega)]
    have hl1 : (([[(N.getD q []).getD a 0]] : List (List Int)).length : Int) = 1 := rfl
    refine Ev.step (fun k => by rw [alter_Check.l14, if_pos (by omega), if_pos (by omega), if_pos (by omega), e2, hl1, if_neg (by decide)]) (Ev.bind (v_con3 _) ?_)
    simp only [Bool.false_eq_true, if_false]
    refine Ev.bind (v_con44 (N.length : Int) _ hent) ?_
    simp only [wrSucc a (show a < 1000000000 by omega)]
    exact ih (a + 1) (by omega) (by omega)
theorem v_l11 (F : Fit A s N M) (n4 : N.length ≤ 4) : ∀ m q, N.length - q = m → q ≤ N.length → Ev (fun k => alter_Check.l11 k false (alt N) (N.length : Int) (q : Int) A s (alt N) M (N.length : Int)) 0 := by
  have hal := alt_len N
  have a1 := F.a1
  have hM := F.m
  intro m
  induction m with
  | zero =>
    intro q hm hq
    have hbm : M.any badM = false := by
      refine List.any_eq_false.2 fun x hx => ?_
      obtain ⟨i, hi, rfl⟩ := List.mem_iff_getElem.1 hx
      have := F.mark i (by omega)
      rw [List.getD_eq_getElem?_getD, List.getElem?_eq_getElem hi] at this
      have h2 : M[i] = 0 ∨ M[i] = 1 := this
      rcases h2 with h | h <;> rw [h] <;> decide
    have hc := v_con4 M (by omega)
    rw [hbm] at hc
    refine Ev.step (fun k => by rw [alter_Check.l11, if_neg (by omega), if_neg (by decide), v_check2 _ s F.s, Option.bind_some]; rfl) (Ev.bind hc ?_)
    simp only [Bool.false_eq_true, if_false]; exact Ev.now _
  | succ m ih =>
    intro q hm hq
    have e1 : rd [] (alt N) (q : Int) = (alt N).getD q [] := rd_nat _ _ _
    have hlr : (((alt N).getD q []).length : Int) = A := by rw [alt_get (by omega), List.length_map]; exact F.row q (by omega)
    refine Ev.step (fun k => ?_) (v_l14 F n4 q (by omega) 0 (ih (q + 1) (by omega) (by omega)) _ 0 rfl (by omega))
    rw [alter_Check.l11, if_pos (by omega), if_pos (by omega), if_pos (by omega), e1, hlr]; rfl
theorem v_check (F : Fit A s N M) (n4 : N.length ≤ 4) : Ev (fun k => alter_Check.f k (A, s, alt N, M, ())) 0 := by
  have hal := alt_len N
  have a1 := F.a1; have a4 := F.a4; have n1 := F.n1; have hM := F.m
  simp only [alter_Check.f, hal, if_neg (show ¬ A < 1 by omega), if_neg (show ¬ 4 < A by omega), if_neg (show ¬ (N.length : Int) < 1 by omega), if_neg (show ¬ 4 < (N.length : Int) by omega), if_pos (show (M.length : Int) = (N.length : Int) by omega)]
  refine Ev.bind (v_con1 F n4) ?_
  simp only [Bool.false_eq_true, if_false, hal]
  exact v_l11 F n4 _ 0 rfl (by omega)
/-! The search. -/
abbrev KI : Ty := .int .i64
theorem ki_beq (x y : KI.den) : KI.beq x y = true ↔ x = y := by
  have e : KI.beq x y = decide (x = y) := rfl
  rw [e, decide_eq_true_iff]
def VA (n : Nat) (k : Int) : Prop := ∃ p, p < n ∧ k = (good p : Int)
theorem va_bound {n : Nat} (hn : n ≤ 4) (L : List Int) (h1 : L.Nodup) (h2 : ∀ k ∈ L, VA n k) : L.length ≤ 4 := by
  refine nodup_sub L [(good 0 : Int), (good 1 : Int), (good 2 : Int), (good 3 : Int)] h1 fun k hk => ?_
  obtain ⟨p, hp, rfl⟩ := h2 k hk
  have : p = 0 ∨ p = 1 ∨ p = 2 ∨ p = 3 := by omega
  rcases this with rfl | rfl | rfl | rfl <;> simp
def mfA (M : List Int) (k : Int) : Int := if bit k.toNat (lst M) = true then 1 else 0
abbrev RA := Int × Int × Bool × Int × Int × List (List (List (List Int))) × List Int × Int × List (List Int) × List Int
theorem va_next (F : Fit A s N M) (n4 : N.length ≤ 4) (k : Int) (a : Nat) (hk : VA N.length k) (ha : a < A.toNat) : VA N.length (nfA N k a) := by
  obtain ⟨p, hp, rfl⟩ := hk
  have hent := F.ent p hp a (by omega)
  have hnx : nx N p a < N.length := by show ((N.getD p []).getD a 0).toNat < N.length; omega
  exact ⟨nx N p a, hnx, nf_good F n4 hp⟩
theorem step_A (F : Fit A s N M) (n4 : N.length ≤ 4) {k : Int} (hk : VA N.length k) {a : Nat} (ha : a < A.toNat) : Ev (fun m => alter_Det_1.f m k (a : Int) A s (alt N) M) (nfA N k a, A, s, alt N, M) := by
  obtain ⟨p, hp, rfl⟩ := hk
  exact det1_ev F n4 (good p) a (by have := good_lt p; omega) (by omega)
theorem lst_lt (F : Fit A s N M) (n4 : N.length ≤ 4) : lst M < 16 := by
  have hM := F.m
  have h1 := bitsum_lt (fun q => decide (M.getD q 0 = 1)) M.length
  have h2 : 2 ^ M.length ≤ 2 ^ 4 := Nat.pow_le_pow_right (by decide) (by omega)
  show bitsum (fun q => decide (M.getD q 0 = 1)) M.length < 16
  omega
theorem mark_A (F : Fit A s N M) (n4 : N.length ≤ 4) {k : Int} (hk : VA N.length k) (m : Nat) : alter_Det_2.f m k (lst M : Int) = some (mfA M k, (lst M : Int)) := by
  obtain ⟨p, hp, rfl⟩ := hk
  have hlt := lst_lt F n4
  rw [det2_ev (good p) (lst M) (by have := good_lt p; omega) (by omega)]; rfl
def sysA (F : Fit A s N M) (n4 : N.length ≤ 4) : Sys A.toNat (nfA N) (mfA M) (VA N.length) 4 RA where
  g8 a L k row X Y := fun n => det_Explore_int__2.l8 n A 131072 k A (a : Int) A s (alt N) M (lst M : Int) 0 0 A 0 (nmk KI L) L (padI A.toNat row) [] [] X Y
  g4 L X Y := fun n => det_Explore_int__2.l4 n A 131072 A s (alt N) M (lst M : Int) 0 0 A 0 (nmk KI L) L [] [] X Y
  fin X Y := fun _ => some (A, 0, true, A, s, alt N, M, (lst M : Int), X, Y)
  known a L k row X Y r i ha K hk hr hx hkx hi e E := by
    have a4 := F.a4
    have hm : mhas KI (.int .i64) (nmk KI L) (nfA N k a) = true := nmk_hit (K := KI) ki_beq (show nfA N k a ∈ L from e ▸ List.getElem_mem hi)
    have hg : mget KI (.int .i64) (nmk KI L) (nfA N k a) = (i : Int) := nmk_get (K := KI) ki_beq K.nd hi e
    have hp := pad_len (A := A.toNat) (row := row) (by omega)
    refine Ev.step (fun n => by rw [det_Explore_int__2.l8, if_pos (show (a : Int) < A by omega)]) (Ev.bind (step_A F n4 (K.v k hk) ha) ?_)
    simp only [hm, if_true, hg]
    refine Ev.step (fun n => ?_) E
    rw [det_Explore_int__2.j18, if_pos (by omega), if_pos (by omega), wrSucc a (by omega), Int.toNat_natCast]
    have := pad_set (A := A.toNat) (row := row) (i : Int) (by omega)
    rw [hr] at this
    rw [this]
  new a L k row X Y r ha K hk hr hx hkx hn K2' E := by
    have a4 := F.a4
    have hm : mhas KI (.int .i64) (nmk KI L) (nfA N k a) = false := nmk_miss (K := KI) ki_beq hn
    have hg : mput KI (.int .i64) (nmk KI L) (nfA N k a) (L.length : Int) = nmk KI (L ++ [nfA N k a]) := nmk_put (K := KI) ki_beq hn
    have hp := pad_len (A := A.toNat) (row := row) (by omega)
    have hle := K.le
    refine Ev.step (fun n => by rw [det_Explore_int__2.l8, if_pos (show (a : Int) < A by omega)]) (Ev.bind (step_A F n4 (K.v k hk) ha) ?_)
    simp only [hm, Bool.false_eq_true, if_false, hg, if_neg (show ¬ (L.length : Int) = 131072 by omega), if_pos (fit1 (b := 8) (L ++ [nfA N k a]).length (by rw [List.length_append, List.length_singleton]; omega))]
    refine Ev.step (fun n => ?_) E
    rw [det_Explore_int__2.j18, if_pos (by omega), if_pos (by omega), wrSucc a (by omega), Int.toNat_natCast]
    have := pad_set (A := A.toNat) (row := row) (L.length : Int) (by omega)
    rw [hr] at this
    rw [this]
  done L k row X Y r K hk hr hx hkx hy E := by
    have a4 := F.a4; have a1 := F.a1
    have hle := K.le
    refine Ev.step (fun n => ?_) E
    rw [det_Explore_int__2.l8, if_neg (by omega), pad_full hr, if_pos (fit1 _ (by rw [List.length_append, List.length_singleton]; omega)), mark_A F n4 (K.v k hk), Option.bind_some]
    exact if_pos (fit1 _ (by rw [List.length_append, List.length_singleton]; omega))
  start L X Y r h K hy E := by
    have a4 := F.a4; have a1 := F.a1
    refine Ev.step (fun n => ?_) E
    have e : L.getD X.length (Int.ofNat 0) = L[X.length] := by rw [List.getD_eq_getElem?_getD, List.getElem?_eq_getElem h]; rfl
    rw [det_Explore_int__2.l4, if_pos (by omega), if_pos (by omega), if_pos (by omega), if_pos (by omega), if_pos (by omega), if_pos (by omega), Int.toNat_natCast, e]
    rfl
  stop L X Y r K h hy E := by
    refine Ev.step (fun n => ?_) E
    rw [det_Explore_int__2.l4, if_neg (by omega)]
end Go.Proofs.YtfkilmmldjajmaaSx.DC
namespace Go.Proofs.YtfkilmmldjajmaaSx.DC
variable {A s : Int} {N : List (List Int)} {M : List Int}
/-! The one that goes to and fro: it goes but to. -/
def wayR (r : List Int) (q : Int) : List TP := r.map (fun x => (x, 1, ())) ++ [(q, 1, ()), (q, 1, ())]
def way (N : List (List Int)) : List (List TP) := (List.range N.length).map fun q : Nat => wayR (N.getD q []) (q : Int)
theorem way_len (N : List (List Int)) : (way N).length = N.length := by simp [way]
theorem way_get {q : Nat} (hq : q < N.length) : (way N).getD q [] = wayR (N.getD q []) (q : Int) := by
  rw [way, List.getD_eq_getElem?_getD, List.getElem?_map, List.getElem?_range hq]; rfl
theorem tr_low (F : Fit A s N M) {q c : Nat} (hq : q < N.length) (hc : (c : Int) < A) : tr (way N) q c = ((N.getD q []).getD c 0, 1, ()) := by
  have hrow := F.row q hq
  have hlt : c < (N.getD q []).length := by omega
  have e : (N.getD q []).getD c 0 = (N.getD q [])[c] := by rw [List.getD_eq_getElem?_getD, List.getElem?_eq_getElem hlt]; rfl
  show ((way N).getD q []).getD c T0 = _
  rw [e, way_get hq, wayR, List.getD_eq_getElem?_getD, List.getElem?_append_left (by rw [List.length_map]; exact hlt), List.getElem?_map, List.getElem?_eq_getElem hlt]; rfl
theorem tr_high (F : Fit A s N M) {q c : Nat} (hq : q < N.length) (hc : (c : Int) = A ∨ (c : Int) = A + 1) : tr (way N) q c = ((q : Int), 1, ()) := by
  have hrow := F.row q hq
  show ((way N).getD q []).getD c T0 = _
  rw [way_get hq, wayR, List.getD_eq_getElem?_getD, List.getElem?_append_right (by rw [List.length_map]; omega), List.length_map]
  rcases hc with h | h
  · rw [show c - (N.getD q []).length = 0 by omega]; rfl
  · rw [show c - (N.getD q []).length = 1 by omega]; rfl
theorem tr_mv (F : Fit A s N M) {q c : Nat} (hq : q < N.length) (hc : (c : Int) < A + 2) : (tr (way N) q c).2.1 = 1 ∧ 0 ≤ (tr (way N) q c).1 ∧ (tr (way N) q c).1 < (N.length : Int) := by
  by_cases h : (c : Int) < A
  · rw [tr_low F hq h]; exact ⟨rfl, F.ent q hq c h⟩
  · rw [tr_high F hq (by omega)]; exact ⟨rfl, by show (0 : Int) ≤ (q : Int); omega, by show (q : Int) < (N.length : Int); omega⟩
theorem way_fit (F : Fit A s N M) (n4 : N.length ≤ 4) : TFit A s (way N) M := by
  have wl := way_len N
  refine ⟨F.a1, F.a4, by rw [wl]; exact F.n1, by rw [wl]; exact n4, by rw [wl]; exact F.m, fun q hq => ?_, by rw [wl]; exact F.s, fun q hq a ha => ?_, fun q hq => F.mark q (by rw [← wl]; exact hq)⟩
  · rw [wl] at hq
    have hrow := F.row q hq
    rw [way_get hq, wayR, List.length_append, List.length_map]
    show (((N.getD q []).length + 2 : Nat) : Int) = A + 2
    omega
  · rw [wl] at hq ⊢
    have := tr_mv F hq ha
    exact ⟨this.2, .inl this.1⟩
theorem any_no {α : Type} (d : α) (p : α → Bool) (l : List α) (h : ∀ i, i < l.length → p (l.getD i d) = false) : l.any p = false := by
  refine List.any_eq_false.2 fun x hx => ?_
  obtain ⟨i, hi, rfl⟩ := List.mem_iff_getElem.1 hx
  have := h i hi
  rw [List.getD_eq_getElem?_getD, List.getElem?_eq_getElem hi] at this
  rw [show p l[i] = false from this]; decide
theorem two_chk {N : List (List TP)} (F : TFit A s N M) : Ev (fun k => two_Check.f k (A, s, N, M, ())) 0 := by
  have a1 := F.a1; have a4 := F.a4; have n1 := F.n1; have n4 := F.n4; have hm := F.m; have hs := F.s
  have hA := wrA (A := A) (by omega) (by omega)
  have C1 := t_con1 A s N M N (by omega) hA
  have C3 := t_con3 (N.length : Int) N (by omega) (fun q hq => by have := F.row q hq; omega)
  have C4 := t_con4 M (by omega)
  have b1 : N.any (t_badW A) = false := any_no [] _ _ fun i hi => by rw [t_badW, decide_eq_true (F.row i hi)]; rfl
  have b3 : N.any (fun w => w.any (badE (N.length : Int))) = false := any_no [] _ _ fun i hi => any_no T0 _ _ fun j hj => by
    have hr := F.row i hi
    obtain ⟨e1, e2⟩ := F.ent i hi j (by omega)
    rw [badE, t_bad, decide_eq_false (by omega), decide_eq_false (by omega)]
    rcases e2 with h | h <;> rw [h] <;> rfl
  have b4 : M.any t_badM = false := any_no 0 _ _ fun i hi => by
    rcases F.mark i (by omega) with h | h <;> rw [h] <;> rfl
  have b2 : t_bad (N.length : Int) s = false := by rw [t_bad, decide_eq_false (by omega), decide_eq_false (by omega)]; rfl
  rw [b1] at C1
  rw [b3] at C3
  rw [b4] at C4
  simp only [two_Check.f, if_neg (show ¬ A < 1 by omega), if_neg (show ¬ 4 < A by omega), if_neg (show ¬ (N.length : Int) < 1 by omega), if_neg (show ¬ 4 < (N.length : Int) by omega), if_pos (show (M.length : Int) = (N.length : Int) by omega)]
  refine Ev.bind C1 ?_
  simp only [Bool.false_eq_true, if_false]
  refine Ev.bind (.all fun k => t_check2 k s _) ?_
  simp only [b2, Bool.false_eq_true, if_false]
  refine Ev.bind C3 ?_
  simp only [Bool.false_eq_true, if_false]
  refine Ev.bind C4 ?_
  simp only [Bool.false_eq_true, if_false]; exact Ev.now _
/-! Where it comes to. -/
def goW (N : List (List Int)) (tp : List Nat) (q : Nat) : Nat := tp.foldl (fun q c => (tr (way N) q c).1.toNat) q
theorem goW_lt (F : Fit A s N M) : ∀ (tp : List Nat) (q : Nat), (∀ c ∈ tp, (c : Int) < A + 2) → q < N.length → goW N tp q < N.length
  | [], q, _, hq => hq
  | c :: tp, q, h, hq => by
    have h1 := tr_mv F hq (h c List.mem_cons_self)
    exact goW_lt F tp _ (fun x hx => h x (List.mem_cons_of_mem _ hx)) (by show (tr (way N) q c).1.toNat < N.length; omega)
theorem itc_way (F : Fit A s N M) (tp : List Nat) (q : Nat) (hq : q < N.length) (h : ∀ c ∈ tp, (c : Int) < A + 2) : ∀ j, j ≤ tp.length → itc (way N) tp j (some (q, 0)) = some (goW N (tp.take j) q, j) := by
  intro j
  induction j with
  | zero => intro _; rfl
  | succ j ih =>
    intro hj
    have hlt := goW_lt F (tp.take j) q (fun c hc => h c (List.mem_of_mem_take hc)) hq
    have hmem : tp.getD j 0 ∈ tp := by
      rw [List.getD_eq_getElem?_getD, List.getElem?_eq_getElem (by omega)]; exact List.getElem_mem (by omega)
    have hmv := tr_mv F hlt (h _ hmem)
    rw [itc_add, ih (by omega)]
    show nxc (way N) tp (some (goW N (tp.take j) q, j)) = _
    rw [nxc, if_neg (by omega), if_pos hmv.1]
    congr 2
    have : tp.take (j + 1) = tp.take j ++ [tp.getD j 0] := by
      rw [List.take_add_one, List.getD_eq_getElem?_getD, List.getElem?_eq_getElem (by omega)]; rfl
    rw [this, goW, goW, List.foldl_append]; rfl
theorem goW_aft (F : Fit A s N M) : ∀ (w : List Nat) (q : Nat), (∀ c ∈ w, (c : Int) < A) → q < N.length → goW N w q = aft N q w ∧ aft N q w < N.length
  | [], q, _, hq => ⟨rfl, hq⟩
  | c :: w, q, h, hq => by
    have hc := h c List.mem_cons_self
    have he := F.ent q hq c hc
    have e : goW N (c :: w) q = goW N w ((N.getD q []).getD c 0).toNat := by
      show goW N w (tr (way N) q c).1.toNat = _
      rw [tr_low F hq hc]
    rw [e, aft]
    exact goW_aft F w _ (fun x hx => h x (List.mem_cons_of_mem _ hx)) (by omega)
theorem goW_tape (F : Fit A s N M) (w : List Nat) (hw : ∀ c ∈ w, (c : Int) < A) (q : Nat) (hq : q < N.length) : goW N ((A.toNat :: w) ++ [A.toNat + 1]) q = aft N q w := by
  have a1 := F.a1
  obtain ⟨g1, g2⟩ := goW_aft F w q hw hq
  have e0 : (tr (way N) q A.toNat).1.toNat = q := by rw [tr_high F hq (.inl (by omega))]; rfl
  have e1 : goW N ((A.toNat :: w) ++ [A.toNat + 1]) q = (tr (way N) (goW N w (tr (way N) q A.toNat).1.toNat) (A.toNat + 1)).1.toNat := by
    rw [goW, List.foldl_append]; rfl
  rw [e1, e0, g1, tr_high F g2 (.inr (by omega))]; rfl
theorem same_two (F : Fit A s N M) (n4 : N.length ≤ 4) (w : List Nat) (hw : ∀ c ∈ w, (c : Int) < A) (hv : VT (way N).length (keyW A s (way N) w)) : mkT2 A (way N) M (keyW A s (way N) w) = M.getD (aft N s.toNat w) 0 := by
  have F2 := way_fit F n4
  have hs := F.s; have a1 := F.a1
  have hq : s.toNat < N.length := by omega
  have ha := acc_word F2 w hw
  have htp : ∀ c ∈ (A.toNat :: w) ++ [A.toNat + 1], (c : Int) < A + 2 := by
    intro c hc
    rcases List.mem_append.1 hc with h | h
    · rcases List.mem_cons.1 h with h | h
      · omega
      · have := hw c h; omega
    · have := List.mem_singleton.1 h; omega
  have hend := itc_way F _ s.toNat hq htp _ (Nat.le_refl _)
  rw [List.take_length, goW_tape F w hw _ hq] at hend
  have hlt := (goW_aft F w s.toNat hw hq).2
  have hiff : mkT2 A (way N) M (keyW A s (way N) w) = 1 ↔ M.getD (aft N s.toNat w) 0 = 1 := by
    rw [ha]
    constructor
    · rintro ⟨z, hz, m, hm⟩
      by_cases hle : m ≤ ((A.toNat :: w) ++ [A.toNat + 1]).length
      · have h1 := itc_way F _ s.toNat hq htp m hle
        rw [hm] at h1
        have h2 := congrArg (fun o : Option Cf => (o.getD (0, 0)).2) h1
        have h3 : ((A.toNat :: w) ++ [A.toNat + 1]).length = m := h2
        rw [← h3, hend] at hm
        have h4 := congrArg (fun o : Option Cf => (o.getD (0, 0)).1) hm
        have h5 : aft N s.toNat w = z := h4
        rw [h5]; exact hz
      · obtain ⟨d, hd⟩ : ∃ d, m = ((A.toNat :: w) ++ [A.toNat + 1]).length + d := ⟨m - ((A.toNat :: w) ++ [A.toNat + 1]).length, by omega⟩
        rw [hd, itc_add, hend, itc_end] at hm
        have h4 := congrArg (fun o : Option Cf => (o.getD (0, 0)).1) hm
        have h5 : aft N s.toNat w = z := h4
        rw [h5]; exact hz
    · intro h
      exact ⟨_, h, _, hend⟩
  rcases mkT2_ok F2 _ hv with h1 | h1 <;> rcases F.mark _ hlt with h2 | h2
  · rw [h1, h2]
  · have := hiff.2 h2; rw [h1] at this; exact absurd this (by decide)
  · have := hiff.1 h1; rw [h2] at this; exact absurd this (by decide)
  · rw [h1, h2]
end Go.Proofs.YtfkilmmldjajmaaSx.DC
namespace Go.Proofs.YtfkilmmldjajmaaSx.DC
variable {A s : Int} {N : List (List Int)} {M : List Int}
/-- What is least for two is the same, by what the reference makes. -/
theorem least_x {s0 : Int} {X0 : List (List Int)} {Y0 : List Int} (F0 : Fit A s0 X0 Y0) (F : Fit A s N M) (h : Same A X0 Y0 s0.toNat N M s.toNat) {X : List (List Int)} {Y : List Int} (hd : Ev (fun k => evermoreref3_Least.f k (A, s, N, M, ())) (A, 0, X, Y)) :
    Ev (fun k => det_Smallest.f k (A, s0, X0, Y0, ())) (A, 0, X, Y) := by
  obtain ⟨X2, Y2, f2, y1, y2, _⟩ := small_same F0 F h
  have hh := ev_det hd y2
  have ex : X = X2 := congrArg (fun r : Int × Int × List (List Int) × List Int => r.2.2.1) hh
  have ey : Y = Y2 := congrArg (fun r : Int × Int × List (List Int) × List Int => r.2.2.2) hh
  subst ex; subst ey
  exact y1
theorem Ev.eqv' {α : Type} {f h : Nat → Option α} {r : α} (e : ∀ m, f m = h m) (H : Ev h r) : Ev f r := by
  obtain ⟨k0, H⟩ := H; exact ⟨k0, fun k hk => (e k).trans (H k hk)⟩
theorem two_ev (F : Fit A s N M) (n4 : N.length ≤ 4) {X : List (List Int)} {Y : List Int} (hd : Ev (fun k => evermoreref3_Least.f k (A, s, N, M, ())) (A, 0, X, Y)) (hx : X.length ≤ 4) : Ev (fun k => two_Det.f k (A, s, way N, M, ())) (A, 0, 0, X, Y) := by
  have F2 := way_fit F n4
  have a1 := F.a1; have a4 := F.a4
  obtain ⟨L, X0, Y0, K, hl, H, e1, _⟩ := sys_run (hV := fun k a hk ha => nfT_ok F2 hk (show (a : Int) < A + 2 by omega)) (hB := vt_bound (way N).length F2.n4) (sysT F2) (sysT F2) (first2 A s (way N)) (first_ok F2)
  have hle := K.le
  have hll : X0.length = (first2 A s (way N) :: L).length := by rw [hl]; rfl
  have F0 := fit_rows H a1 a4 hll (by simp) (by omega) K.v (fun k hk => mkT2_ok F2 k hk)
  have hvt : ∀ (w : List Nat) (k : K5), VT (way N).length k → (∀ a ∈ w, (a : Int) < A) → VT (way N).length (w.foldl (nfT (way N)) k) := by
    intro w
    induction w with
    | nil => intro k hk _; exact hk
    | cons a w ih => intro k hk hw; exact ih _ (nfT_ok F2 hk (by have := hw a List.mem_cons_self; omega)) (fun b hb => hw b (List.mem_cons_of_mem _ hb))
  have hS : Same A X0 Y0 (0 : Int).toNat N M s.toNat := fun w hw => by
    have s2 := rows_walk H hll w 0 (by simp) hw
    show Y0.getD (aft X0 0 w) 0 = _
    rw [s2]
    exact same_two F n4 w hw (hvt w _ (first_ok F2) hw)
  have z := least_x F0 F hS hd
  have prog := det_l8 F2 (A, 0, 0, X, Y) (Ev.bind (x := (A, 0, true, ((way N).length : Int), A, s, way N, M, X0, Y0)) (e1 _ (Ev.now _)) (Ev.bind z (by
    simp only [if_true, if_neg (show ¬ 3000 < (X.length : Int) by omega)]; exact Ev.now _))) _ 0 rfl (by omega)
  simp only [two_Det.f]
  refine Ev.bind (two_chk F2) ?_
  simp only [if_true]
  exact prog
theorem alter_ev (F : Fit A s N M) (n4 : N.length ≤ 4) {X : List (List Int)} {Y : List Int} (hd : Ev (fun k => evermoreref3_Least.f k (A, s, N, M, ())) (A, 0, X, Y)) (hx : X.length ≤ 4) : Ev (fun k => alter_Det.f k (A, s, alt N, M, ())) (A, 0, 0, X, Y) := by
  have a1 := F.a1; have a4 := F.a4; have hs := F.s
  have hp : s.toNat < N.length := by omega
  have hV0 : VA N.length (good s.toNat : Int) := ⟨s.toNat, hp, rfl⟩
  obtain ⟨L, X0, Y0, K, hl, H, e1, _⟩ := sys_run (hV := fun k a hk ha => va_next F n4 k a hk ha) (hB := va_bound n4) (sysA F n4) (sysA F n4) (good s.toNat : Int) hV0
  have hle := K.le
  have hll : X0.length = ((good s.toNat : Int) :: L).length := by rw [hl]; rfl
  have F0 := fit_rows H a1 a4 hll (by simp) (by omega) K.v (fun k hk => by unfold mfA; split <;> simp)
  have hS : Same A X0 Y0 (0 : Int).toNat N M s.toNat := by
    have := same_rows (N' := N) (M' := M) H a1 hll (by simp) K.v fA (fun k hk => by
      obtain ⟨p, hp, rfl⟩ := hk
      rw [fA_good p (by omega)]; exact mf_good F n4 hp) (fun k a hk ha => by
      obtain ⟨p, hp, rfl⟩ := hk
      have hent := F.ent p hp a (by omega)
      have hnx : nx N p a < N.length := by show ((N.getD p []).getD a 0).toNat < N.length; omega
      rw [nf_good F n4 hp, fA_good p (by omega), fA_good _ (by omega)])
    have e0 : fA (((good s.toNat : Int) :: L)[0]'(by simp)) = s.toNat := fA_good _ (by omega)
    rw [e0] at this
    exact this
  have z := least_x F0 F hS hd
  have l6 : ∀ m i, 16 - i = m → i ≤ 16 → Ev (fun k => alter_Det.l6 k (bitsum (fun set => bit set s.toNat) i : Int) (i : Int) A s (alt N) M 0 0 [] []) (A, 0, 0, X, Y) := by
    intro m
    induction m with
    | zero =>
      intro i hm hi
      have : i = 16 := by omega
      subst this
      refine Ev.step (fun k => by rw [alter_Det.l6, if_neg (by omega)]) (Ev.bind (ends_ev F n4) (Ev.bind (x := (A, 0, true, A, s, alt N, M, (lst M : Int), X0, Y0)) (e1 _ (Ev.now _)) (Ev.bind z ?_)))
      simp only [if_true, if_neg (show ¬ 3000 < (X.length : Int) by omega)]; exact Ev.now _
    | succ m ih =>
      intro i hm hi
      have hh := ih (i + 1) (by omega) (by omega)
      have j10 : Ev (fun k => alter_Det.j10 k (bitsum (fun set => bit set s.toNat) (i + 1) : Int) (i : Int) A s (alt N) M 0 0 [] []) (A, 0, 0, X, Y) := by
        refine Ev.step (fun k => ?_) hh
        rw [alter_Det.j10, wrSucc i (by omega)]
      have ht := test_bits i s.toNat (by omega) (by omega)
      rw [show ((s.toNat : Nat) : Int) = s by omega] at ht
      have hx2 : i / 2 ^ s.toNat % 2 = 0 ∨ i / 2 ^ s.toNat % 2 = 1 := by omega
      cases hb : bit i s.toNat with
      | true =>
        have h1 := (one_iff (bit i s.toNat) _ hx2 rfl).2 hb
        refine Ev.step (fun k => ?_) j10
        rw [alter_Det.l6, if_pos (by omega), if_pos hs.1, ht, if_pos h1, if_pos (by omega), or_one (fun set => bit set s.toNat) i (by omega) hb]
      | false =>
        have h1 : ¬ ((i / 2 ^ s.toNat % 2 : Nat) : Int) = 1 := fun h => by have := (one_iff (bit i s.toNat) _ hx2 rfl).1 h; rw [hb] at this; cases this
        refine Ev.step (fun k => ?_) j10
        rw [alter_Det.l6, if_pos (by omega), if_pos hs.1, ht, if_neg h1, or_zero (fun set => bit set s.toNat) i hb]
  simp only [alter_Det.f]
  refine Ev.bind (v_check F n4) ?_
  simp only [if_true]
  exact l6 _ 0 rfl (by omega)
/-! The law. -/
theorem sw_ev (a : List Int) (ha : a.length ≤ 100000000) : Ev (fun k => evermoretop_sameWords.f k a a) true := by
  have l4 : ∀ m i, a.length - i = m → i ≤ a.length → Ev (fun k => evermoretop_sameWords.l4 k a a (i : Int)) true := by
    intro m
    induction m with
    | zero =>
      intro i hm hi
      refine Ev.step (h := fun _ => some true) (fun k => ?_) (Ev.now _)
      rw [evermoretop_sameWords.l4, if_neg (by omega)]
    | succ m ih =>
      intro i hm hi
      refine Ev.step (fun k => ?_) (ih (i + 1) (by omega) (by omega))
      rw [evermoretop_sameWords.l4, if_pos (by omega), if_pos (by omega), if_pos (by omega), if_pos (by omega), if_pos (by omega), if_pos rfl, wrSucc i (by omega)]
  simp only [evermoretop_sameWords.f, if_true]
  exact l4 _ 0 rfl (by omega)
theorem alike_ev (F : Fit A 0 N M) : Ev (fun k => evermoretop_alike.f k (A, 0, N, M, ()) (A, 0, N, M, ())) true := by
  have n3 := F.n3; have hm := F.m; have a4 := F.a4
  have l5 : ∀ m i, N.length - i = m → i ≤ N.length → Ev (fun k => evermoretop_alike.l5 k true (i : Int) A 0 N M A 0 N M) true := by
    intro m
    induction m with
    | zero =>
      intro i hm hi
      refine Ev.step (h := fun _ => some true) (fun k => ?_) (Ev.now _)
      rw [evermoretop_alike.l5, if_neg (by omega)]
    | succ m ih =>
      intro i hm hi
      have e : rd [] N (i : Int) = N.getD i [] := rd_nat _ _ _
      have hr := F.row i (by omega)
      refine Ev.step (fun k => by rw [evermoretop_alike.l5, if_pos (by omega), if_pos rfl, if_pos (by omega), if_pos (by omega), if_pos (by omega), if_pos (by omega), e]) (Ev.bind (sw_ev _ (by omega)) ?_)
      simp only [wrSucc i (show i < 1000000000 by omega)]
      exact ih (i + 1) (by omega) (by omega)
  simp only [evermoretop_alike.f, if_true]
  exact Ev.bind (sw_ev M (by omega)) (l5 _ 0 rfl (by omega))
end Go.Proofs.YtfkilmmldjajmaaSx.DC
namespace Go.Proofs.YtfkilmmldjajmaaSx.DC
variable {A s : Int} {N : List (List Int)} {M : List Int}
theorem det_chk (F : Fit A s N M) (n3 : N.length ≤ 3000) : Ev (fun k => det_Check.f k (A, s, N, M, ())) 0 := by
  have a1 := F.a1; have a4 := F.a4; have n1 := F.n1; have hm := F.m; have hs := F.s
  have C1 := con1 A s N M N n3
  have C3 := con3 (N.length : Int) N n3 (fun q hq => by have := F.row q hq; omega)
  have C4 := con4 M (by omega)
  have b1 : N.any (badW A) = false := any_no [] _ _ fun i hi => by rw [badW, decide_eq_true (F.row i hi)]; rfl
  have b3 : N.any (fun w => w.any (bad (N.length : Int))) = false := any_no [] _ _ fun i hi => any_no 0 _ _ fun j hj => by
    have hr := F.row i hi
    obtain ⟨e1, e2⟩ := F.ent i hi j (by omega)
    rw [bad, decide_eq_false (by omega), decide_eq_false (by omega)]; rfl
  have b4 : M.any badM = false := any_no 0 _ _ fun i hi => by
    rcases F.mark i (by omega) with h | h <;> rw [h] <;> rfl
  have b2 : bad (N.length : Int) s = false := by rw [bad, decide_eq_false (by omega), decide_eq_false (by omega)]; rfl
  rw [b1] at C1
  rw [b3] at C3
  rw [b4] at C4
  simp only [det_Check.f, if_neg (show ¬ A < 1 by omega), if_neg (show ¬ 4 < A by omega), if_neg (show ¬ (N.length : Int) < 1 by omega), if_neg (show ¬ 3000 < (N.length : Int) by omega), if_pos (show (M.length : Int) = (N.length : Int) by omega)]
  refine Ev.bind C1 ?_
  simp only [Bool.false_eq_true, if_false]
  refine Ev.bind (.all fun k => check2 k s _) ?_
  simp only [b2, Bool.false_eq_true, if_false]
  refine Ev.bind C3 ?_
  simp only [Bool.false_eq_true, if_false]
  refine Ev.bind C4 ?_
  simp only [Bool.false_eq_true, if_false]; exact Ev.now _
/-- What is least may be. -/
theorem least_fit (F : Fit A s N M) : ∃ X Y, Fit A 0 X Y ∧ X.length ≤ N.length ∧ Ev (fun k => det_Smallest.f k (A, s, N, M, ())) (A, 0, X, Y) ∧ Ev (fun k => evermoreref3_Least.f k (A, s, N, M, ())) (A, 0, X, Y) := by
  obtain ⟨X, Y, m1, m2, m3, m4, z1, z2⟩ := least_ev F
  obtain ⟨X2, Y2, f2, y1, y2, _⟩ := small_same F F (Same.refl _)
  have hh := ev_det z2 y2
  have ex : X = X2 := congrArg (fun r : Int × Int × List (List Int) × List Int => r.2.2.1) hh
  have ey : Y = Y2 := congrArg (fun r : Int × Int × List (List Int) × List Int => r.2.2.2) hh
  subst ex; subst ey
  exact ⟨X, Y, f2, m3, z1, z2⟩
/-! Two states that are one. -/
theorem fit_2 : Fit 1 0 [[1], [0]] [1, 1] := by
  refine ⟨by decide, by decide, by decide, by decide, rfl, fun q hq => ?_, by decide, fun q hq a ha => ?_, fun q hq => ?_⟩
  · have : q = 0 ∨ q = 1 := by simp at hq; omega
    rcases this with rfl | rfl <;> rfl
  · have h1 : q = 0 ∨ q = 1 := by simp at hq; omega
    have h2 : a = 0 := by omega
    subst h2
    rcases h1 with rfl | rfl <;> decide
  · have : q = 0 ∨ q = 1 := by simp at hq; omega
    rcases this with rfl | rfl <;> decide
theorem fit_1 : Fit 1 0 [[0]] [1] := by
  refine ⟨by decide, by decide, by decide, by decide, rfl, fun q hq => ?_, by decide, fun q hq a ha => ?_, fun q hq => ?_⟩
  · have : q = 0 := by simp at hq; omega
    subst this; rfl
  · have h1 : q = 0 := by simp at hq; omega
    have h2 : a = 0 := by omega
    subst h2; subst h1; decide
  · have : q = 0 := by simp at hq; omega
    subst this; decide
theorem const_ev : ∃ X Y, X.length = 1 ∧ Ev (fun k => det_Least.f k (Int.ofNat 1, Int.ofNat 0, [[Int.ofNat 1], [Int.ofNat 0]], [Int.ofNat 1, Int.ofNat 1], ())) (1, 0, 0, X, Y) := by
  obtain ⟨X, Y, f, hx, z1, z2⟩ := least_fit fit_1
  have hS : Same 1 [[1], [0]] [1, 1] (0 : Int).toNat [[0]] [1] (0 : Int).toNat := fun w hw => by
    have h1 := (goW_aft fit_2 w 0 hw (by decide)).2
    have h2 := (goW_aft fit_1 w 0 hw (by decide)).2
    have e1 : aft [[1], [0]] 0 w = 0 ∨ aft [[1], [0]] 0 w = 1 := by simp at h1; omega
    have e2 : aft [[0]] 0 w = 0 := by simp at h2; omega
    show [1, 1].getD (aft [[1], [0]] 0 w) 0 = [1].getD (aft [[0]] 0 w) 0
    rw [e2]
    rcases e1 with h | h <;> rw [h] <;> rfl
  have z := least_x fit_2 fit_1 hS z2
  have n1 := f.n1
  have hx1 : X.length ≤ 1 := hx
  refine ⟨X, Y, by omega, ?_⟩
  simp only [det_Least.f]
  refine Ev.bind (det_chk fit_2 (by decide)) ?_
  simp only [if_true]
  exact Ev.bind z (Ev.now _)
/-! The loops that write them down. -/
abbrev mT (x : Int) : TP := (x, 1, ())
abbrev mA (x : Int) : List (List Int) := [[x]]
theorem take_snoc {α : Type} (d : α) (l : List α) (i : Nat) (h : i < l.length) : l.take (i + 1) = l.take i ++ [l.getD i d] := by
  rw [List.take_add_one, List.getD_eq_getElem?_getD, List.getElem?_eq_getElem h]; rfl
theorem l15_ev (F : Fit A s N M) (n4 : N.length ≤ 4) {X : List (List Int)} {Y : List Int} (TW : List (List TP)) (AW : List (List (List (List Int)))) (ht : TW.length ≤ 4) (hw : AW.length ≤ 4) (q : Nat) (hq : q < N.length) (r : Bool)
    (E : Ev (fun k => evermoretop_TopWays.l10 k ((q + 1 : Nat) : Int) A s N M A 0 A s M A s M X Y (TW ++ [wayR (N.getD q []) (q : Int)]) (AW ++ [(N.getD q []).map mA])) r) :
    ∀ m i, A.toNat - i = m → i ≤ A.toNat → Ev (fun k => evermoretop_TopWays.l15 k (q : Int) (i : Int) A s N M A 0 A s M A s M (((N.getD q []).take i).map mT) (((N.getD q []).take i).map mA) X Y TW AW) r := by
  have a1 := F.a1; have a4 := F.a4
  have hrow := F.row q hq
  intro m
  induction m with
  | zero =>
    intro i hm hi
    rw [List.take_of_length_le (by omega)]
    refine Ev.step (fun k => ?_) E
    rw [evermoretop_TopWays.l15, if_neg (by omega), if_pos (fit1 _ (by rw [List.length_append, List.length_map]; show (N.getD q []).length + 2 < 1000000000; omega)), if_pos (fit1 _ (by rw [List.length_append, List.length_singleton]; omega)), if_pos (fit1 _ (by rw [List.length_append, List.length_singleton]; omega)), wrSucc q (by omega)]
    rfl
  | succ m ih =>
    intro i hm hi
    have e1 : rd [] N (q : Int) = N.getD q [] := rd_nat _ _ _
    have e2 : rd (Int.ofNat 0) (N.getD q []) (i : Int) = (N.getD q []).getD i 0 := rd_nat _ _ _
    have hh := ih (i + 1) (by omega) (by omega)
    rw [take_snoc 0 _ i (by omega), List.map_append, List.map_append] at hh
    have hl : ((N.getD q []).take i).length ≤ 4 := by rw [List.length_take]; omega
    refine Ev.step (fun k => ?_) hh
    rw [evermoretop_TopWays.l15, if_pos (by omega), if_pos (by omega), if_pos (by omega), if_pos (by omega), e1, if_pos (by omega), e2, if_pos (fit1 _ (by rw [List.length_append, List.length_map, List.length_singleton]; omega)), if_pos (by omega), if_pos (by omega), if_pos (by omega), if_pos (by omega), if_pos (fit1 _ (by rw [List.length_append, List.length_map, List.length_singleton]; omega)), wrSucc i (by omega)]
    rfl
theorem l10_ev (F : Fit A s N M) (n4 : N.length ≤ 4) {X : List (List Int)} {Y : List Int} (r : Bool) (E : Ev (fun k => evermoretop_TopWays.l10 k (N.length : Int) A s N M A 0 A s M A s M X Y (way N) (alt N)) r) :
    ∀ m q, N.length - q = m → q ≤ N.length → Ev (fun k => evermoretop_TopWays.l10 k (q : Int) A s N M A 0 A s M A s M X Y ((way N).take q) ((alt N).take q)) r := by
  have wl := way_len N; have al := alt_len N
  intro m
  induction m with
  | zero =>
    intro q hm hq
    have : q = N.length := by omega
    subst this
    rw [List.take_of_length_le (by omega), List.take_of_length_le (by omega)]; exact E
  | succ m ih =>
    intro q hm hq
    have hh := ih (q + 1) (by omega) (by omega)
    rw [take_snoc [] (way N) q (by omega), take_snoc [] (alt N) q (by omega), way_get (by omega), alt_get (by omega)] at hh
    refine Ev.step (fun k => ?_) (l15_ev F n4 ((way N).take q) ((alt N).take q) (by rw [List.length_take]; omega) (by rw [List.length_take]; omega) q (by omega) r hh _ 0 rfl (by omega))
    rw [evermoretop_TopWays.l10, if_pos (by omega)]; rfl
theorem TopWays : evermoretop_TopWays.PureH := by
  rintro ⟨A, s, N, M, ⟨⟩⟩ _
  refine Ev.get ?_
  simp only [evermoretop_TopWays.f]
  obtain ⟨X1, Y1, hx1, hc⟩ := const_ev
  refine Ev.bind hc ?_
  simp only [if_true, if_pos (show (X1.length : Int) = 1 by omega)]
  obtain ⟨e, c1, _, c3⟩ := check_ev A s N M
  by_cases he : e = 0
  · subst he
    have F := c3 rfl
    obtain ⟨X, Y, f, hx, z1, z2⟩ := least_fit F
    have hl : Ev (fun k => det_Least.f k (A, s, N, M, ())) (A, 0, 0, X, Y) := by
      simp only [det_Least.f]
      refine Ev.bind c1 ?_
      simp only [if_true]
      exact Ev.bind z1 (Ev.now _)
    refine Ev.bind hl ?_
    simp only [if_true]
    by_cases h4 : 4 < (N.length : Int)
    · simp only [if_pos h4]; exact Ev.now _
    · simp only [if_neg h4]
      have n4 : N.length ≤ 4 := by omega
      refine l10_ev F n4 true ?_ _ 0 rfl (by omega)
      refine Ev.step (fun k => by rw [evermoretop_TopWays.l10, if_neg (by omega)]) (Ev.bind (two_ev F n4 z2 (by omega)) (Ev.bind (alter_ev F n4 z2 (by omega)) ?_))
      simp only [if_true]
      refine Ev.bind (alike_ev f) (Ev.bind (alike_ev f) ?_)
      simp only [if_true]; exact Ev.now _
  · have hl : Ev (fun k => det_Least.f k (A, s, N, M, ())) (0, 0, e, [], []) := by
      simp only [det_Least.f]
      refine Ev.bind c1 ?_
      simp only [if_neg he]; exact Ev.now _
    refine Ev.bind hl ?_
    simp only [if_neg he]; exact Ev.now _
end Go.Proofs.YtfkilmmldjajmaaSx.DC
namespace Go.Proofs.Ytfkilmmldjajmaa
theorem Pure.TopWays : Go.Proofs.YtfkilmmldjajmaaSx.evermoretop_TopWays.PureH := Go.Proofs.YtfkilmmldjajmaaSx.DC.TopWays
end Go.Proofs.Ytfkilmmldjajmaa
