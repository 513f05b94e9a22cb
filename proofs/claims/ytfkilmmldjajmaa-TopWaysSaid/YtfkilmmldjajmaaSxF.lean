/- Regions: what is done in them, in whatever order. -/
import Derived.Test.YtfkilmmldjajmaaSxE
namespace Go.Proofs.YtfkilmmldjajmaaSx
open Go
set_option linter.unusedVariables false
set_option linter.unusedSimpArgs false

section
variable {P : Program} {T : TT} {R : Type} {env : Nat → List SV → List Chunk → KT R → Option R}

theorem alive_bind (v : SV) (K : SV → Option R) : alive v K = (alive v some).bind K := by
  cases v <;> simp [alive, bad]
theorem exInt_bind (op : BinOp) (k k' : IntKind) (a b : Int) (K : SV → Option R) : exInt op k k' a b K = (exInt op k k' a b some).bind K := by
  cases op <;> simp only [exInt, bad] <;> (repeat' split) <;> simp_all [cmp, arith]
theorem exStr_bind (op : BinOp) (a b : ByteArray) (K : SV → Option R) : exStr op a b K = (exStr op a b some).bind K := by
  cases op <;> simp only [exStr, bad] <;> (repeat' split) <;> simp_all
theorem exBool_bind (op : BinOp) (a b : Bool) (K : SV → Option R) : exBool op a b K = (exBool op a b some).bind K := by
  cases op <;> simp [exBool, bad]
theorem exBin_bind (isB : Bool) (op : BinOp) (x y : SV) (K : SV → Option R) : exBin isB op x y K = (exBin isB op x y some).bind K := by
  unfold exBin
  (repeat' split) <;> first
    | exact exInt_bind _ _ _ _ _ _
    | exact exStr_bind _ _ _ _
    | (cases isB <;> simp [exBool_bind _ _ _ K, bad])
    | simp [bad]
theorem exEqs_bind (u : Ty) (op : BinOp) (x y : SV) (K : SV → Option R) : exEqs u op x y K = (exEqs u op x y some).bind K := by
  unfold exEqs
  (repeat' split) <;> simp [bad]
theorem exIndexAddr_bind (sz : Nat) (cs : List Chunk) (x i : SV) (K : SV → Option R) : exIndexAddr sz cs x i K = (exIndexAddr sz cs x i some).bind K := by
  unfold exIndexAddr
  (repeat' split) <;> first
    | simp [bad]; done
    | (rename_i h; cases hb : Nat.beq sz _ <;> simp [bad]; done)
    | (generalize Nat.beq sz _ = q; cases q <;> simp [bad]; done)
    | (generalize Nat.beq sz _ = q; cases q <;> simp [bad] <;> (repeat' split) <;> simp_all)

theorem exBnds_bind (n : Int) (lo hi : Option SV) (f : Nat → Nat → Option R) (g : Nat → Nat → Option SV) (K : SV → Option R) (h : ∀ a b, f a b = (g a b).bind K) : exBnds n lo hi f = (exBnds n lo hi g).bind K := by
  unfold exBnds
  (repeat' split) <;> simp_all [bad]

theorem cond_bind {c : Bool} {A : Option R} {A' : Option SV} {K : SV → Option R} {n : Nat} (h : A = A'.bind K) : (bif c then A else bad n) = (bif c then A' else bad n).bind K := by cases c <;> simp [bad, h]
theorem cond_bind' {c : Bool} {A : Option R} {A' : Option SV} {K : SV → Option R} {n : Nat} (h : A = A'.bind K) : (bif c then bad n else A) = (bif c then bad n else A').bind K := by cases c <;> simp [bad, h]

theorem exSlice_bind (sz : Nat) (cs : List Chunk) (x : SV) (lo hi : Option SV) (K : SV → Option R) : exSlice sz cs x lo hi K = (exSlice sz cs x lo hi some).bind K := by
  unfold exSlice
  split
  · exact cond_bind (exBnds_bind _ _ _ _ _ K fun _ _ => rfl)
  · split
    · exact cond_bind (exBnds_bind _ _ _ _ _ K fun _ _ => rfl)
    · exact cond_bind (exBnds_bind _ _ _ _ _ K fun _ _ => rfl)
    · rfl
  · split
    · exact cond_bind (exBnds_bind _ _ _ _ _ K fun _ _ => rfl)
    · rfl
  · exact exBnds_bind _ _ _ _ _ K fun _ _ => rfl
  · rfl

theorem exSlice3_bind (sz : Nat) (z : Bool) (x : SV) (lo : Option SV) (hi mx : SV) (K : SV → Option R) : exSlice3 sz z x lo hi mx K = (exSlice3 sz z x lo hi mx some).bind K := by
  unfold exSlice3
  split
  · refine cond_bind ?_
    cases z with
    | true => rfl
    | false =>
      simp only [cond_false]
      refine exBnds_bind _ _ _ _ _ K fun _ _ => ?_
      split
      · split <;> rfl
      · rfl
  · cases z <;> rfl
  · rfl

theorem exStrSlice_bind (t : Nat) (x : SV) (lo hi : Option SV) (mx : Option Operand) (K : SV → Option R) : exStrSlice T t x lo hi mx K = (exStrSlice T t x lo hi mx some).bind K := by
  unfold exStrSlice
  split
  · split
    · split
      · split
        · exact exBnds_bind _ _ _ _ _ K fun _ _ => rfl
        · rfl
      · rfl
    · rfl
  · rfl

theorem exIndex_bind (t : Nat) (k : Option Nat) (x i : SV) (K : SV → Option R) : exIndex T t k x i K = (exIndex T t k x i some).bind K := by
  unfold exIndex
  split
  · split
    · split
      · split
        · (repeat' split) <;> rfl
        · rfl
      · split
        · split
          · split
            · refine cond_bind ?_
              split
              · exact cond_bind rfl
              · (repeat' split) <;> rfl
            · rfl
          · rfl
        · rfl
      · rfl
    · rfl
  · rfl

theorem exLookup_bind (t : Nat) (cs : List Chunk) (x i : SV) (ok : Bool) (K : SV → Option R) : exLookup T t cs x i ok K = (exLookup T t cs x i ok some).bind K := by
  unfold exLookup
  (repeat' split) <;> first | rfl | (cases ok <;> rfl)

theorem exArrAddr_bind (t : Nat) (k : Option Nat) (x i : SV) (K : SV → Option R) : exArrAddr T t k x i K = (exArrAddr T t k x i some).bind K := by
  unfold exArrAddr
  split
  · split
    · split
      · split
        · split
          · refine cond_bind (cond_bind ?_)
            split <;> rfl
          · split
            · refine cond_bind ?_
              (repeat' split) <;> rfl
            · split
              · split
                · split
                  · refine cond_bind (cond_bind ?_)
                    (repeat' split) <;> rfl
                  · rfl
                · rfl
              · rfl
            · rfl
        · rfl
      · rfl
    · rfl
  · rfl

theorem exCap_bind (x : SV) (K : SV → Option R) : exCap x K = (exCap x some).bind K := by
  unfold exCap
  split <;> rfl

theorem exRd_bind (op : Op) (σ : Operand → SV) (cs : List Chunk) (K : SV → Option R) : exRd T op σ cs K = (exRd T op σ cs some).bind K := by
  unfold exRd
  split
  case h_1 => rfl
  case h_2 => rfl
  case h_3 =>
    split
    · rename_i bc _; rw [BC.br_eq, BC.br_eq]; split <;> rfl
    · rfl
  case h_4 =>
    split
    · split
      · refine cond_bind ?_
        split
        · exact cond_bind (alive_bind _ _)
        · rfl
      · split
        · split
          · exact cond_bind (alive_bind _ _)
          · rfl
        · rfl
      · rfl
    · rfl
  case h_5 => exact alive_bind _ _
  case h_6 => split <;> first | exact exEqs_bind _ _ _ _ _ | exact exBin_bind _ _ _ _ _
  case h_7 => (repeat' split) <;> rfl
  case h_8 => (repeat' split) <;> rfl
  case h_9 => (repeat' split) <;> rfl
  case h_10 =>
    split
    · refine cond_bind' ?_
      (repeat' split) <;> rfl
    · rfl
  case h_11 =>
    split
    · split
      · exact cond_bind (alive_bind _ _)
      · rfl
    · rfl
  case h_12 =>
    split
    · exact exIndexAddr_bind _ _ _ _ _
    · exact exArrAddr_bind _ _ _ _ _
  case h_13 => (repeat' split) <;> rfl
  case h_14 => (repeat' split) <;> rfl
  case h_15 =>
    split
    · split
      · (repeat' split) <;> first | rfl | exact alive_bind _ _
      · (repeat' split) <;> rfl
      · (repeat' split) <;> rfl
      · split
        · split
          · exact cond_bind (exCap_bind _ _)
          · rfl
        · rfl
      · rfl
    · rfl
  case h_16 =>
    split
    · split
      · exact exSlice_bind _ _ _ _ _ _
      · split
        · exact exSlice3_bind _ _ _ _ _ _ _
        · rfl
    · exact exStrSlice_bind _ _ _ _ _ _
  case h_17 => exact exIndex_bind _ _ _ _ _
  case h_18 => exact exLookup_bind _ _ _ _ _ _
  case h_19 => rfl

/-- What is asked of the operands alone. -/
theorem buildCells_congr {σ σ' : Operand → SV} {fs : List (Nat × Nat)} : ∀ (ps : List (Nat × Operand)) (cells : List SV), (∀ x ∈ ps, σ x.2 = σ' x.2) → buildCells T σ fs ps cells = buildCells T σ' fs ps cells
  | [], _, _ => rfl
  | (i, o) :: ps, cells, h => by
    have h0 : σ o = σ' o := h (i, o) (by simp)
    have ih := fun cells => buildCells_congr (σ := σ) (σ' := σ') (fs := fs) ps cells (fun x hx => h x (List.mem_cons_of_mem _ hx))
    simp only [buildCells, h0, ih]

theorem map_congr_mem {α β : Type} {f g : α → β} {l : List α} (h : ∀ x ∈ l, f x = g x) : l.map f = l.map g := List.map_congr_left h

theorem exRd_congr {op : Op} {σ σ' : Operand → SV} (h : ∀ x ∈ uses op, σ x = σ' x) (cs : List Chunk) (K : SV → Option R) : exRd T op σ cs K = exRd T op σ' cs K := by
  cases op <;> simp only [uses, List.mem_cons, List.not_mem_nil, or_false, forall_eq_or_imp, forall_eq] at h <;> simp only [exRd]
  case move => rw [h]
  case assign => rw [h]
  case pick => rw [h.1, h.2.1, h.2.2]
  case build t parts =>
    have : ∀ x ∈ parts.toList, σ x.2 = σ' x.2 := fun x hx => h x.2 (List.mem_map.2 ⟨x, hx, rfl⟩)
    simp only [buildCells_congr _ _ this]
  case load => rw [h]
  case binOp => rw [h.1, h.2]
  case unOp => rw [h]
  case convert => rw [h]
  case makeFunc => rw [map_congr_mem h]
  case fieldAddr => rw [h]
  case field => rw [h]
  case indexAddr => rw [h.1, h.2]
  case extract => rw [h]
  case nilCheck => rw [h]
  case slice t x lo hi mx =>
    obtain ⟨h1, h2⟩ := h
    have e1 : lo.map σ = lo.map σ' := by
      cases lo with
      | none => rfl
      | some y => simp [h2 y (by simp [optL])]
    have e2 : hi.map σ = hi.map σ' := by
      cases hi with
      | none => rfl
      | some y => simp [h2 y (by simp [optL])]
    have e3 : ∀ y, mx = some y → σ y = σ' y := fun y hy => h2 y (by subst hy; simp [optL])
    have e4 : ∀ y, hi = some y → σ y = σ' y := fun y hy => h2 y (by subst hy; simp [optL])
    rw [h1, e1, e2]
    split
    · split
      · rfl
      · rename_i y
        split
        · rename_i z
          rw [e3 y rfl, e4 z rfl]
        · rfl
    · rfl
  case index => rw [h.1, h.2]
  case lookup => rw [h.1, h.2]
  case call c =>
    split
    · rename_i b hb
      rw [hb] at h
      simp only at h
      have hm := map_congr_mem h
      split
      · split
        · rename_i x hx
          have : σ x = σ' x := h x (by rw [hx]; simp)
          simp only [this]
        · rfl
      · simp only [hm]
      · simp only [hm]
      · simp only [hm]
      · rfl
    · rfl

theorem exWr_congr {op : Op} {σ σ' : Operand → SV} (h : ∀ x ∈ uses op, σ x = σ' x) (cs : List Chunk) (K : KT R) : exWr T env op σ cs K = exWr T env op σ' cs K := by
  cases op <;> simp only [uses, List.mem_cons, List.not_mem_nil, or_false, forall_eq_or_imp, forall_eq] at h <;> simp only [exWr]
  case box => rw [h]
  case buildSlice t len parts =>
    have : parts.toList.map (fun x => σ x.2) = parts.toList.map (fun x => σ' x.2) := map_congr_mem (fun x hx => h x.2 (List.mem_map.2 ⟨x, hx, rfl⟩))
    simp only [this]
  case store => rw [h.1, h.2]
  case makeSlice => rw [h.1, h.2]
  case mapUpdate => rw [h.1, h.2.1, h.2.2]
  case insert => rw [h.1, h.2.1, h.2.2]
  case call c =>
    split
    · rename_i b hb
      rw [hb] at h
      simp only at h
      have hm := map_congr_mem h
      simp only [hm]
    · rename_i f hf
      rw [hf] at h
      simp only [List.mem_cons, forall_eq_or_imp] at h
      have hm := map_congr_mem h.2
      simp only [h.1, hm]
    · rfl

theorem exLoad_cs {t : Nat} {a : SV} {cs cs' : List Chunk} (h : ∀ c ∈ a.names, cs'[c]? = cs[c]?) : exLoad T cs' t a = exLoad T cs t a := by
  unfold exLoad
  cases a <;> simp only [SV.names, List.mem_cons, List.not_mem_nil, or_false, forall_eq] at h <;> simp only [nth_eq] <;> (try rw [h])
theorem exLen_cs {b : Bool} {a : SV} {cs cs' : List Chunk} (h : ∀ c ∈ a.names, cs'[c]? = cs[c]?) : exLen b cs' a = exLen b cs a := by
  cases a <;> simp only [SV.names, List.mem_cons, List.not_mem_nil, or_false, forall_eq] at h <;> simp only [exLen, nth_eq] <;> (try rw [h])
theorem exIndexAddr_cs {sz : Nat} {x i : SV} {cs cs' : List Chunk} (h : ∀ c ∈ x.names, cs'[c]? = cs[c]?) (K : SV → Option R) : exIndexAddr sz cs' x i K = exIndexAddr sz cs x i K := by
  unfold exIndexAddr
  split
  · cases x with
    | own c => simp only [nth_eq]; rw [h c (by simp [SV.names])]
    | sub c lo n => simp only [nth_eq]; rw [h c (by simp [SV.names])]
    | p t y => cases t <;> rfl
    | _ => rfl
  · rfl

theorem mapLen_cs {a : SV} {cs cs' : List Chunk} (h : ∀ c ∈ a.names, cs'[c]? = cs[c]?) : mapLen cs' a = mapLen cs a := by
  cases a with
  | map c => simp only [mapLen, nth_eq]; rw [h c (by simp [SV.names])]
  | _ => rfl
theorem exSlice_cs {sz : Nat} {x : SV} {lo hi : Option SV} {cs cs' : List Chunk} (h : ∀ c ∈ x.names, cs'[c]? = cs[c]?) (K : SV → Option R) : exSlice sz cs' x lo hi K = exSlice sz cs x lo hi K := by
  unfold exSlice
  cases x with
  | own c => simp only [nth_eq]; rw [h c (by simp [SV.names])]
  | sub c lo n => simp only [nth_eq]; rw [h c (by simp [SV.names])]
  | p t y => cases t <;> rfl
  | _ => rfl
theorem exLookup_cs {t : Nat} {x i : SV} {ok : Bool} {cs cs' : List Chunk} (h : ∀ c ∈ x.names, cs'[c]? = cs[c]?) (K : SV → Option R) : exLookup T t cs' x i ok K = exLookup T t cs x i ok K := by
  unfold exLookup
  cases x with
  | map c => simp only [nth_eq]; rw [h c (by simp [SV.names])]
  | _ => rfl
theorem flatOf_cs {u : Ty} {a : SV} {cs cs' : List Chunk} (h : ∀ c ∈ a.names, cs'[c]? = cs[c]?) : flatOf cs' u a = flatOf cs u a := by
  cases a with
  | own c => simp only [flatOf, nth_eq]; rw [h c (by simp [SV.names])]
  | sub c lo n => simp only [flatOf, nth_eq]; rw [h c (by simp [SV.names])]
  | _ => rfl

theorem bytesOf_cs {a : SV} {cs cs' : List Chunk} (h : ∀ c ∈ a.names, cs'[c]? = cs[c]?) : bytesOf cs' a = bytesOf cs a := flatOf_cs h

theorem mem_namesL {l : List SV} {v : SV} {c : Nat} (hv : v ∈ l) (hc : c ∈ v.names) : c ∈ SV.namesL l := by
  induction l with
  | nil => simp at hv
  | cons a l ih =>
    simp only [SV.namesL, app_eq, List.mem_append]
    simp at hv
    rcases hv with rfl | hv
    · exact .inl hc
    · exact .inr (ih hv)

theorem exRd_cs {op : Op} {σ : Operand → SV} {cs cs' : List Chunk} (h : ∀ c ∈ foot op σ, cs'[c]? = cs[c]?) (K : SV → Option R) : exRd T op σ cs' K = exRd T op σ cs K := by
  cases hm : noMem op with
  | true => cases op <;> simp only [noMem, Bool.false_eq_true, reduceCtorEq] at hm <;> rfl
  | false =>
  replace h : ∀ c ∈ SV.namesL ((uses op).map σ), cs'[c]? = cs[c]? := by
    unfold foot at h; rw [hm] at h; exact h
  have hx : ∀ x ∈ uses op, ∀ c ∈ (σ x).names, cs'[c]? = cs[c]? := fun x hx c hc => h c (mem_namesL (List.mem_map.2 ⟨x, hx, rfl⟩) hc)
  cases op <;> simp only [exRd]
  case load t a => rw [exLoad_cs (hx a (by simp [uses]))]
  case convert s d x => simp only [bytesOf_cs (hx x (by simp [uses]))]
  case indexAddr t x i => split <;> first | exact exIndexAddr_cs (hx x (by simp [uses])) K | rfl
  case slice t x lo hi mx =>
    split
    · split
      · exact exSlice_cs (hx x (by simp [uses])) K
      · rfl
    · rfl
  case lookup t x i ok => exact exLookup_cs (hx x (by simp [uses])) K
  case call c =>
    split
    · rename_i b hb
      split
      · split
        · rename_i x hxs
          have : ∀ c' ∈ (σ x).names, cs'[c']? = cs[c']? := hx x (by simp [uses, hb, hxs])
          simp only [exLen_cs this, mapLen_cs this]
        · rfl
      · rfl
      · rfl
      · rfl
      · rfl
    · rfl
end
end Go.Proofs.YtfkilmmldjajmaaSx
