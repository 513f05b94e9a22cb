/- For every two words the program's answer on whether the first is within the second, and at which places, is the reference's. No conditions beyond the statement's. -/
import Derived.Test.YthbdmfhobienaaaPHigmanStandsx2
import Derived.Test.YthbdmfhobienaaaWSized
namespace Go.Proofs.Ythbdmfhobienaaa.Pure
open Go.RowKit Go.Proofs.Ythbdmfhobienaaa.PHigmanStands Go.Proofs.YthbdmfhobienaaaW.PrintWords Go.Proofs.YthbdmfhobienaaaW.PrintLast Go.Proofs.YthbdmfhobienaaaW.PrintMore
set_option linter.unusedVariables false
set_option linter.unusedSimpArgs false
theorem w64 {n : Int} (h : -9223372036854775808 ≤ n) (h' : n ≤ 9223372036854775807) : wrap64 n = n := by unfold wrap64; omega
theorem rdn (l : List Int) (i : Nat) (h : i < l.length) : rd l (i : Int) = l[i] := by
  unfold rd; rw [Int.toNat_natCast, List.getD_eq_getElem?_getD, List.getElem?_eq_getElem h]; rfl
theorem rdOfn {α : Type} (d : α) (l : List α) (i : Nat) (h : i < l.length) : rdOf d l (i : Int) = l[i] := by
  unfold rdOf; rw [Int.toNat_natCast, List.getD_eq_getElem?_getD, List.getElem?_eq_getElem h]; rfl
theorem evc {α : Type} {g : Nat → Option α} {a b : α} (h : Ev g a) (e : a = b) : Ev g b := e ▸ h
theorem evermoreref1_Words_l0 (a b : List Int) (hl : a.length = b.length) (hb : a.length ≤ 9223372036854775000) : ∀ d i : Nat, i + d = a.length → Ev (fun k => evermoreref1_Words.l0 k a b (i : Int)) (decide (a.drop i = b.drop i)) := by
  intro d
  induction d with
  | zero =>
    intro i hi
    refine Ev.step (fun k => by rw [evermoreref1_Words.l0]) ?_
    simp only [if_neg (show ¬ ((i : Int) < (a.length : Int)) by omega)]
    rw [List.drop_of_length_le (by omega), List.drop_of_length_le (by omega)]
    simpa using Ev.now true
  | succ d ih =>
    intro i hi
    refine Ev.step (fun k => by rw [evermoreref1_Words.l0]) ?_
    have h1 : i < a.length := by omega
    have h2 : i < b.length := by omega
    simp only [if_pos (show ((i : Int) < (a.length : Int)) by omega), if_pos (show (0 ≤ (i : Int)) by omega), if_pos (show ((i : Int) < (b.length : Int)) by omega), rdn a i h1, rdn b i h2]
    rw [List.drop_eq_getElem_cons h1, List.drop_eq_getElem_cons h2]
    by_cases e : a[i] = b[i]
    · simp only [if_pos e]
      have := ih (i + 1) (by omega)
      rw [show wrap64 ((i : Int) + 1) = ((i + 1 : Nat) : Int) from by rw [w64 (by omega) (by omega)]; omega]
      exact evc this (by simp only [List.cons.injEq, e, true_and])
    · simp only [if_neg e]
      exact evc (Ev.now false) (by simp only [List.cons.injEq, e, false_and, decide_false])
theorem evermoreref1_Words_ev (a b : List Int) (hb : a.length ≤ 9223372036854775000) : Ev (fun k => evermoreref1_Words.f k a b) (decide (a = b)) := by
  unfold evermoreref1_Words.f
  by_cases h : a.length = b.length
  · simp only [if_pos (show ((a.length : Int) = (b.length : Int)) by omega)]
    exact evermoreref1_Words_l0 a b h hb a.length 0 (by omega)
  · simp only [if_neg (show ¬ ((a.length : Int) = (b.length : Int)) by omega)]
    have : a ≠ b := fun e => h (by rw [e])
    simpa [this] using Ev.now false
def okB (n : Int) (l : List Int) : Bool := l.all (fun a => decide (0 ≤ a) && decide (a < n))
theorem okB_cons (n a : Int) (l : List Int) : okB n (a :: l) = (decide (0 ≤ a) && decide (a < n) && okB n l) := rfl
def mayS (n : Int) (l : List Int) : Int := if n < 1 ∨ n > 4 then 2 else if l.length > 60 then 1 else if okB n l = true then 0 else 2
theorem mayS_ok {n : Int} {l : List Int} (h : mayS n l = 0) : 1 ≤ n ∧ n ≤ 4 ∧ l.length ≤ 60 ∧ ∀ a ∈ l, 0 ≤ a ∧ a < n := by
  unfold mayS at h
  by_cases h1 : n < 1 ∨ n > 4
  · rw [if_pos h1] at h; omega
  · rw [if_neg h1] at h
    by_cases h2 : l.length > 60
    · rw [if_pos h2] at h; omega
    · rw [if_neg h2] at h
      by_cases h3 : okB n l = true
      · refine ⟨by omega, by omega, by omega, ?_⟩
        simpa [okB] using h3
      · rw [if_neg h3] at h; omega
theorem evermoreref1_May_l0 (n : Int) (l : List Int) (hl : l.length ≤ 60) : ∀ d i : Nat, i + d = l.length → Ev (fun k => evermoreref1_May.l0 k n l (i : Int)) (if okB n (l.drop i) = true then 0 else 2) := by
  intro d
  induction d with
  | zero =>
    intro i hi
    refine Ev.step (fun k => by rw [evermoreref1_May.l0]) ?_
    simp only [if_neg (show ¬ ((i : Int) < (l.length : Int)) by omega)]
    rw [List.drop_of_length_le (by omega)]
    exact Ev.now _
  | succ d ih =>
    intro i hi
    refine Ev.step (fun k => by rw [evermoreref1_May.l0]) ?_
    have h1 : i < l.length := by omega
    simp only [if_pos (show ((i : Int) < (l.length : Int)) by omega), if_pos (show (0 ≤ (i : Int)) by omega), rdn l i h1]
    rw [List.drop_eq_getElem_cons h1]
    have := ih (i + 1) (by omega)
    rw [show wrap64 ((i : Int) + 1) = ((i + 1 : Nat) : Int) from by rw [w64 (by omega) (by omega)]; omega]
    by_cases e : l[i] < 0
    · simp only [if_pos e]
      exact evc (Ev.now 2) (by rw [okB_cons, decide_eq_false (show ¬ (0 ≤ l[i]) by omega)]; rfl)
    · simp only [if_neg e]
      by_cases e' : l[i] ≥ n
      · simp only [if_pos e']
        exact evc (Ev.now 2) (by rw [okB_cons, decide_eq_false (show ¬ (l[i] < n) by omega), Bool.and_false]; rfl)
      · simp only [if_neg e']
        exact evc this (by rw [okB_cons, decide_eq_true (show (0 ≤ l[i]) by omega), decide_eq_true (show (l[i] < n) by omega), Bool.true_and, Bool.true_and])
theorem evermoreref1_May_ev (n : Int) (l : List Int) : Ev (fun k => evermoreref1_May.f k n l) (mayS n l) := by
  have key : ∀ b : Bool, (b = true ↔ (n < 1 ∨ n > 4)) → Ev (fun k => evermoreref1_May.j0 k n l b) (mayS n l) := by
    intro b hb
    refine Ev.step (fun k => by rw [evermoreref1_May.j0]) ?_
    unfold mayS
    by_cases h : b = true
    · simp only [if_pos h, if_pos (hb.1 h)]; exact Ev.now _
    · simp only [if_neg h, if_neg (fun x => h (hb.2 x))]
      by_cases h2 : l.length > 60
      · simp only [if_pos h2, if_pos (show (l.length : Int) > 60 by omega)]; exact Ev.now _
      · simp only [if_neg h2, if_neg (show ¬ (l.length : Int) > 60 by omega)]
        exact evermoreref1_May_l0 n l (by omega) l.length 0 (by omega)
  unfold evermoreref1_May.f
  by_cases h : n < 1
  · simp only [if_pos h]; exact key true (by simp; omega)
  · simp only [if_neg h]; exact key _ (by simp; omega)
theorem word_May_l0 (n : Int) (l : List Int) (hl : l.length ≤ 60) : ∀ d i : Nat, i + d = l.length → Ev (fun k => word_May.l0 k n l (l.length : Int) (i : Int)) (if okB n (l.drop i) = true then 0 else 2) := by
  intro d
  induction d with
  | zero =>
    intro i hi
    refine Ev.step (fun k => by rw [word_May.l0]) ?_
    simp only [if_neg (show ¬ ((i : Int) < (l.length : Int)) by omega)]
    rw [List.drop_of_length_le (by omega)]
    exact Ev.now _
  | succ d ih =>
    intro i hi
    refine Ev.step (fun k => by rw [word_May.l0]) ?_
    have h1 : i < l.length := by omega
    simp only [if_pos (show ((i : Int) < (l.length : Int)) by omega), if_pos (show (0 ≤ (i : Int)) by omega), rdn l i h1]
    rw [List.drop_eq_getElem_cons h1]
    have := ih (i + 1) (by omega)
    rw [show wrap64 ((i : Int) + 1) = ((i + 1 : Nat) : Int) from by rw [w64 (by omega) (by omega)]; omega]
    by_cases e : l[i] < 0
    · simp only [if_pos e]
      exact evc (Ev.now 2) (by rw [okB_cons, decide_eq_false (show ¬ (0 ≤ l[i]) by omega)]; rfl)
    · simp only [if_neg e]
      by_cases e' : l[i] ≥ n
      · simp only [if_pos e']
        exact evc (Ev.now 2) (by rw [okB_cons, decide_eq_false (show ¬ (l[i] < n) by omega), Bool.and_false]; rfl)
      · simp only [if_neg e']
        exact evc this (by rw [okB_cons, decide_eq_true (show (0 ≤ l[i]) by omega), decide_eq_true (show (l[i] < n) by omega), Bool.true_and, Bool.true_and])
theorem word_May_ev (n : Int) (l : List Int) : Ev (fun k => word_May.f k n l) (mayS n l) := by
  have key : ∀ b : Bool, (b = true ↔ (n < 1 ∨ n > 4)) → Ev (fun k => word_May.j0 k n l b) (mayS n l) := by
    intro b hb
    refine Ev.step (fun k => by rw [word_May.j0]) ?_
    unfold mayS
    by_cases h : b = true
    · simp only [if_pos h, if_pos (hb.1 h)]; exact Ev.now _
    · simp only [if_neg h, if_neg (fun x => h (hb.2 x))]
      by_cases h2 : l.length > 60
      · simp only [if_pos h2, if_pos (show (l.length : Int) > 60 by omega)]; exact Ev.now _
      · simp only [if_neg h2, if_neg (show ¬ (l.length : Int) > 60 by omega)]
        exact word_May_l0 n l (by omega) l.length 0 (by omega)
  unfold word_May.f
  by_cases h : n < 1
  · simp only [if_pos h]; exact key true (by simp; omega)
  · simp only [if_neg h]; exact key _ (by simp; omega)
def gr : List Int → List Int → Int → List Int × Bool
  | [], _, _ => ([], true)
  | _ :: _, [], _ => ([], false)
  | a :: u, b :: v, i => if a = b then (i :: (gr u v (i + 1)).1, (gr u v (i + 1)).2) else gr (a :: u) v (i + 1)
def grS (p u v : List Int) (i : Int) : List Int × Bool := if (gr u v i).2 = true then (p ++ (gr u v i).1, true) else ([], false)
theorem grS_nil (p v : List Int) (i : Int) : grS p [] v i = (p, true) := by simp [grS, gr]
theorem grS_out (p : List Int) (a : Int) (u : List Int) (i : Int) : grS p (a :: u) [] i = ([], false) := by simp [grS, gr]
theorem grS_hit (p : List Int) (a b : Int) (u v : List Int) (i : Int) (h : a = b) : grS p (a :: u) (b :: v) i = grS (p ++ [i]) u v (i + 1) := by
  simp [grS, gr, h]
theorem grS_miss (p : List Int) (a b : Int) (u v : List Int) (i : Int) (h : a ≠ b) : grS p (a :: u) (b :: v) i = grS p (a :: u) v (i + 1) := by
  simp [grS, gr, h]
theorem higman_Stands_l1 (u v : List Int) (hu : u.length ≤ 60) (hv : v.length ≤ 60) : ∀ (d i : Nat) (p : List Int), i + d = v.length → p.length ≤ u.length → p.length ≤ i →
    Ev (fun k => higman_Stands.l1 k u p v (v.length : Int) (i : Int)) ((grS p (u.drop p.length) (v.drop i) i).1, (grS p (u.drop p.length) (v.drop i) i).2, 0) := by
  intro d
  induction d with
  | zero =>
    intro i p hi hp hpi
    refine Ev.step (fun k => by rw [higman_Stands.l1]) ?_
    simp only [if_neg (show ¬ ((i : Int) < (v.length : Int)) by omega)]
    by_cases h : p.length < u.length
    · simp only [if_pos (show ((p.length : Int) < (u.length : Int)) by omega)]
      exact evc (Ev.now _) (by rw [List.drop_eq_getElem_cons h, List.drop_of_length_le (show v.length ≤ i by omega), grS_out])
    · simp only [if_neg (show ¬ ((p.length : Int) < (u.length : Int)) by omega)]
      exact evc (Ev.now _) (by rw [List.drop_of_length_le (show u.length ≤ p.length by omega), grS_nil])
  | succ d ih =>
    intro i p hi hp hpi
    refine Ev.step (fun k => by rw [higman_Stands.l1]) ?_
    have hv' : i < v.length := by omega
    rw [show wrap64 ((i : Int) + 1) = ((i + 1 : Nat) : Int) from by rw [w64 (by omega) (by omega)]; omega]
    simp only [if_pos (show ((i : Int) < (v.length : Int)) by omega), if_pos (show (0 ≤ (i : Int)) by omega)]
    by_cases h : p.length < u.length
    · simp only [if_pos (show ((p.length : Int) < (u.length : Int)) by omega), if_pos (show (0 ≤ (p.length : Int)) by omega), rdn u p.length h, rdn v i hv', if_pos (show p.length < 17592186044416 by omega)]
      by_cases e : u[p.length] = v[i]
      · simp only [if_pos e]
        have := ih (i + 1) (p ++ [(i : Int)]) (by omega) (by simp; omega) (by simp; omega)
        exact evc this (by rw [List.drop_eq_getElem_cons h, List.drop_eq_getElem_cons hv', grS_hit _ _ _ _ _ _ e]; simp)
      · simp only [if_neg e]
        have := ih (i + 1) p (by omega) hp (by omega)
        exact evc this (by rw [List.drop_eq_getElem_cons h, List.drop_eq_getElem_cons hv', grS_miss _ _ _ _ _ _ e]; simp)
    · simp only [if_neg (show ¬ ((p.length : Int) < (u.length : Int)) by omega)]
      have := ih (i + 1) p (by omega) hp (by omega)
      exact evc this (by rw [List.drop_of_length_le (show u.length ≤ p.length by omega), grS_nil, grS_nil])
def standsS (u v : List Int) : List Int × Bool × Int :=
  if mayS 4 u = 0 then (if mayS 4 v = 0 then ((grS [] u v 0).1, (grS [] u v 0).2, 0) else ([], false, mayS 4 v)) else ([], false, mayS 4 u)
theorem higman_Stands_ev (u v : List Int) : Ev (fun k => higman_Stands.f k u v) (standsS u v) := by
  unfold higman_Stands.f standsS
  simp only [Option.bind_some]
  refine Ev.step (fun k => by rw [higman_Stands.l0]) ?_
  simp only [List.length_cons, List.length_nil, if_pos (show ((0 : Int) < ((0 + 1 + 1 : Nat) : Int)) by decide), if_pos (show (0 : Int) ≤ 0 by decide), show rd_L1 [u, v] 0 = u from rfl]
  refine Ev.bind (word_May_ev 4 u) ?_
  by_cases h : mayS 4 u = 0
  · simp only [if_pos h]
    refine Ev.step (fun k => by rw [higman_Stands.l0]) ?_
    rw [show wrap64 (0 + 1) = 1 from w64 (by decide) (by decide)]
    simp only [List.length_cons, List.length_nil, if_pos (show ((1 : Int) < ((0 + 1 + 1 : Nat) : Int)) by decide), if_pos (show (0 : Int) ≤ 1 by decide), show rd_L1 [u, v] 1 = v from rfl]
    refine Ev.bind (word_May_ev 4 v) ?_
    by_cases h' : mayS 4 v = 0
    · simp only [if_pos h']
      refine Ev.step (fun k => by rw [higman_Stands.l0]) ?_
      rw [show wrap64 (1 + 1) = 2 from w64 (by decide) (by decide)]
      simp only [List.length_cons, List.length_nil, if_neg (show ¬ ((2 : Int) < ((0 + 1 + 1 : Nat) : Int)) by decide)]
      exact higman_Stands_l1 u v (mayS_ok h).2.2.1 (mayS_ok h').2.2.1 v.length 0 [] (by omega) (by simp) (by simp)
    · simp only [if_neg h']; exact Ev.now _
  · simp only [if_neg h]; exact Ev.now _
theorem within_l1 (u v : List Int) (hu : u.length ≤ 60) (hv : v.length ≤ 60) (i : Nat) (hi : i < u.length) (p : List Int) (hp : p.length = i)
    (ih : ∀ (j : Nat) (p : List Int), j ≤ v.length → p.length = i + 1 → Ev (fun k => evermoreref32_Within.l0 k u v p (j : Int) ((i + 1 : Nat) : Int)) (grS p (u.drop (i + 1)) (v.drop j) j)) :
    ∀ (d j : Nat), j + d = v.length → Ev (fun k => evermoreref32_Within.l1 k u v p (j : Int) (i : Int)) (grS p (u.drop i) (v.drop j) j) := by
  intro d
  induction d with
  | zero =>
    intro j hj
    refine Ev.step (fun k => by rw [evermoreref32_Within.l1]) ?_
    simp only [if_neg (show ¬ ((j : Int) < (v.length : Int)) by omega), if_pos (show (j : Int) = (v.length : Int) by omega)]
    exact evc (Ev.now _) (by rw [List.drop_eq_getElem_cons hi, List.drop_of_length_le (show v.length ≤ j by omega), grS_out])
  | succ d ihd =>
    intro j hj
    refine Ev.step (fun k => by rw [evermoreref32_Within.l1]) ?_
    have hv' : j < v.length := by omega
    rw [show wrap64 ((i : Int) + 1) = ((i + 1 : Nat) : Int) from by rw [w64 (by omega) (by omega)]; omega, show wrap64 ((j : Int) + 1) = ((j + 1 : Nat) : Int) from by rw [w64 (by omega) (by omega)]; omega]
    simp only [if_pos (show ((j : Int) < (v.length : Int)) by omega), if_pos (show (0 ≤ (j : Int)) by omega), if_pos (show (0 ≤ (i : Int)) by omega), if_pos (show ((i : Int) < (u.length : Int)) by omega), rdn u i hi, rdn v j hv',
      if_neg (show ¬ (j : Int) = (v.length : Int) by omega), if_pos (show p.length < 17592186044416 by omega)]
    by_cases e : v[j] = u[i]
    · simp only [if_pos e]
      exact evc (ih (j + 1) (p ++ [(j : Int)]) (by omega) (by simp; omega)) (by rw [List.drop_eq_getElem_cons hi, List.drop_eq_getElem_cons hv', grS_hit _ _ _ _ _ _ e.symm]; rfl)
    · simp only [if_neg e]
      exact evc (ihd (j + 1) (by omega)) (by rw [List.drop_eq_getElem_cons hi, List.drop_eq_getElem_cons hv', grS_miss _ _ _ _ _ _ (fun x => e x.symm)]; rfl)
theorem within_l0 (u v : List Int) (hu : u.length ≤ 60) (hv : v.length ≤ 60) : ∀ (d i : Nat), i + d = u.length → ∀ (j : Nat) (p : List Int), j ≤ v.length → p.length = i →
    Ev (fun k => evermoreref32_Within.l0 k u v p (j : Int) (i : Int)) (grS p (u.drop i) (v.drop j) j) := by
  intro d
  induction d with
  | zero =>
    intro i hi j p hj hp
    refine Ev.step (fun k => by rw [evermoreref32_Within.l0]) ?_
    simp only [if_neg (show ¬ ((i : Int) < (u.length : Int)) by omega)]
    exact evc (Ev.now _) (by rw [List.drop_of_length_le (show u.length ≤ i by omega), grS_nil])
  | succ d ih =>
    intro i hi j p hj hp
    refine Ev.step (fun k => by rw [evermoreref32_Within.l0]) ?_
    simp only [if_pos (show ((i : Int) < (u.length : Int)) by omega)]
    exact within_l1 u v hu hv i (by omega) p hp (fun j p hj hp => ih (i + 1) (by omega) j p hj hp) (v.length - j) j (by omega)
theorem law_j0 (u v : List Int) (e : Int) (h : e = if mayS 4 u = 0 then mayS 4 v else mayS 4 u) :
    Ev (fun k => evermorelaw_HigmanStands.j0 k u v (standsS u v).1 (standsS u v).2.1 (standsS u v).2.2 e) true := by
  refine Ev.step (fun k => by rw [evermorelaw_HigmanStands.j0]) ?_
  by_cases h1 : mayS 4 u = 0
  · rw [if_pos h1] at h
    by_cases h2 : mayS 4 v = 0
    · simp only [if_pos (show e = 0 by omega)]
      have hu := (mayS_ok h1).2.2.1
      have hv := (mayS_ok h2).2.2.1
      have s : standsS u v = ((grS [] u v 0).1, (grS [] u v 0).2, 0) := by simp only [standsS, if_pos h1, if_pos h2]
      rw [s]
      have hW : Ev (fun k => evermoreref32_Within.f k u v) (grS [] u v 0) := by
        unfold evermoreref32_Within.f
        exact within_l0 u v hu hv u.length 0 (by omega) 0 [] (by omega) rfl
      refine Ev.bind hW ?_
      refine Ev.bind (evermoreref1_Words_ev _ _ ?_) ?_
      · have : ∀ (u v : List Int) (i : Int), (gr u v i).1.length ≤ u.length := by
          intro u v
          induction v generalizing u with
          | nil => intro i; cases u <;> simp [gr]
          | cons b v ih =>
            intro i
            cases u with
            | nil => simp [gr]
            | cons a u =>
              unfold gr
              split
              · have := ih u (i + 1); simp only [List.length_cons]; omega
              · exact ih _ _
        have := this u v 0
        unfold grS
        split <;> simp <;> omega
      · simp only [decide_true, beq_self_eq_true, if_true]
        exact Ev.now _
    · simp only [if_neg (show ¬ e = 0 by omega)]
      have s : standsS u v = ([], false, mayS 4 v) := by simp only [standsS, if_pos h1, if_neg h2]
      rw [s]
      simp only [if_pos (show mayS 4 v = e by omega)]
      exact Ev.now _
  · rw [if_neg h1] at h
    simp only [if_neg (show ¬ e = 0 by omega)]
    have s : standsS u v = ([], false, mayS 4 u) := by simp only [standsS, if_neg h1]
    rw [s]
    simp only [if_pos (show mayS 4 u = e by omega)]
    exact Ev.now _
theorem HigmanStands : evermorelaw_HigmanStands.Pure := by
  intro u v _ _ _ _ _ _
  refine Ev.rounds ?_
  unfold evermorelaw_HigmanStands.f
  refine Ev.bind (higman_Stands_ev u v) ?_
  refine Ev.bind (evermoreref1_May_ev 4 u) ?_
  by_cases h : mayS 4 u = 0
  · simp only [if_pos h]
    refine Ev.bind (evermoreref1_May_ev 4 v) ?_
    exact law_j0 u v _ (by rw [if_pos h])
  · simp only [if_neg h]
    exact law_j0 u v _ (by rw [if_neg h])

end Go.Proofs.Ythbdmfhobienaaa.Pure
namespace Go.Proofs.Ythbdmfhobienaaa.PrintWords
abbrev sized_ints := @Go.Proofs.YthbdmfhobienaaaW.PrintWords.sized_ints
end Go.Proofs.Ythbdmfhobienaaa.PrintWords
