/- Words of this session's hand: a map that the code itself has made, as the list of its entries in the order in which they came; what a look-up, a store and a length come to; and that the rows and the variables that are held stay what they are while the map is written. No conditions. -/
import Derived.Maps.Keyed
import Derived.Carry
import Derived.ChangeKeysEq
import Derived.Test.YtaaibckhpbmbeaaVCodeSyncWords
import Derived.Test.YtaaibckhpbmbeaaVCodeSyncApart
import Derived.Test.YtaaibckhpbmbeaaVCodeSyncShare
import Derived.Test.YtaaibckhpbmbeaaVCodeSyncN
import Derived.Test.YtaaibckhpbmbeaaVCodeSyncMore
import Derived.Test.YtaaibckhpbmbeaaVCodeSyncKept
import Derived.Test.YtaaibckhpbmbeaaVCodeSyncFootNe
set_option linter.unusedVariables false
set_option linter.unusedSimpArgs false
namespace Go.Proofs.YtaaibckhpbmbeaaW.PrintMap
open Go.RowKit Go.Proofs.YtaaibckhpbmbeaaW.PrintWords
section
variable {κ ν : Type}
def ment (ek : κ → Value) (ev : ν → Value) : List (κ × ν) → Nat → List MapEntry
  | [], _ => []
  | p :: r, i => { key := ek p.1, val := ev p.2, born := i } :: ment ek ev r (i + 1)
/-- The block of a map. -/
def mObj (ek : κ → Value) (ev : ν → Value) (m : List (κ × ν)) : Obj := .map (ment ek ev m 0).toArray m.length
theorem ment_append (ek : κ → Value) (ev : ν → Value) (k : κ) (v : ν) : ∀ (m : List (κ × ν)) (i : Nat), ment ek ev (m ++ [(k, v)]) i = ment ek ev m i ++ [{ key := ek k, val := ev v, born := i + m.length }]
  | [], _ => by simp [ment]
  | p :: r, i => by
    simp only [List.cons_append, ment, ment_append ek ev k v r (i + 1), List.length_cons, List.cons.injEq, true_and]
    rw [Nat.add_right_comm, Nat.add_assoc]
end
section
variable {κ ν : Type} [DecidableEq κ]
/-- 'm[k] = v'. -/
def mput : List (κ × ν) → κ → ν → List (κ × ν)
  | [], k, v => [(k, v)]
  | p :: r, k, v => if p.1 = k then (p.1, v) :: r else p :: mput r k v
/-- The entry at k: its place and its value. -/
def mfind (k : κ) : List (κ × ν) → Nat → Option (Nat × ν)
  | [], _ => none
  | p :: r, i => if p.1 = k then some (i, p.2) else mfind k r (i + 1)
/-- 'm[k]'. -/
def mget (m : List (κ × ν)) (k : κ) (d : ν) : ν := ((mfind k m 0).map (·.2)).getD d
/-- '_, ok := m[k]'. -/
def mhas (m : List (κ × ν)) (k : κ) : Bool := (mfind k m 0).isSome
theorem mfind_lt (k : κ) : ∀ (m : List (κ × ν)) (i j : Nat) (v : ν), mfind k m i = some (j, v) → i ≤ j ∧ j < i + m.length
  | [], _, _, _, h => by simp [mfind] at h
  | p :: r, i, j, v, h => by
    unfold mfind at h
    split at h
    · simp only [Option.some.injEq, Prod.mk.injEq] at h
      simp only [List.length_cons]
      omega
    · have := mfind_lt k r (i + 1) j v h
      simp only [List.length_cons]
      omega
theorem mfind_none (k : κ) : ∀ (m : List (κ × ν)) (i : Nat), mfind k m i = none → ∀ v, mput m k v = m ++ [(k, v)]
  | [], _, _, _ => rfl
  | p :: r, i, h, v => by
    unfold mfind at h
    split at h
    · cases h
    · rename_i hne
      rw [mput, if_neg hne, mfind_none k r (i + 1) h v]
      rfl
theorem ment_put (ek : κ → Value) (ev : ν → Value) (k : κ) (v : ν) : ∀ (m : List (κ × ν)) (i j : Nat) (u : ν), mfind k m i = some (j, u) → ∀ b, (ment ek ev m b).modify (j - i) (fun e => { e with key := ek k, val := ev v }) = ment ek ev (mput m k v) b
  | [], _, _, _, h, _ => by simp [mfind] at h
  | p :: r, i, j, u, h, b => by
    unfold mfind at h
    split at h
    · rename_i he
      simp only [Option.some.injEq, Prod.mk.injEq] at h
      obtain ⟨rfl, rfl⟩ := h
      subst he
      simp [ment, mput]
    · rename_i hne
      have hlt := mfind_lt k r (i + 1) j u h
      have e : j - i = (j - (i + 1)) + 1 := by omega
      rw [e, mput, if_neg hne]
      simp only [ment, List.modify_succ_cons]
      rw [ment_put ek ev k v r (i + 1) j u h (b + 1)]
theorem mput_length (k : κ) (v : ν) : ∀ (m : List (κ × ν)) (i : Nat), (mput m k v).length = if (mfind k m i).isSome then m.length else m.length + 1
  | [], _ => by simp [mput, mfind]
  | p :: r, i => by
    unfold mput mfind
    split
    · simp
    · simp only [List.length_cons, mput_length k v r (i + 1)]
      split <;> rfl
/-- What is known of a key's type: every key may be one, a key is found by its value, and it stays what it is. -/
structure MKey (P : Program) (t : TypeId) (ek : κ → Value) : Prop where
  check : ∀ (w : World) (em : Bool) (x : κ), (Instr.checkKey em 10000 t (ek x)).run P w = .ok () w
  find : ∀ {ν : Type} (ev : ν → Value) (w : World) (x : κ) (m : List (κ × ν)), (Instr.findKey t (ek x) (ment ek ev m 0)).run P w = .ok ((mfind x m 0).map fun p => (p.1, ev p.2)) w
  stays : ∀ (w : World) (x : κ), (Instr.keyThatStays (ek x) (ek x)).run P w = .ok (ek x) w
end
section
variable {κ ν : Type} [DecidableEq κ] {P : Program} {ek : κ → Value} {ev : ν → Value} {W : World} {g : Nat} {m : List (κ × ν)} {kt vt t : TypeId}
theorem run_mlook (K : MKey P kt ek) (ht : P.underlying t = some (.map kt vt)) (z : ν) (hz : ∀ w, (zeroValue vt).run P w = .ok (ev z) w) (hb : W.heap[g]? = some (mObj ek ev m)) (x : κ) (c : Bool) :
    (Instr.lookup t (.map (some g)) (ek x) c).run P W = .ok (if c then .tuple #[ev (mget m x z), .bool (mhas m x)] else ev (mget m x z)) W := by
  unfold mObj at hb
  unfold Instr.lookup
  simp only [Sem.run_bind, run_underlying ht, Result.andThen_ok, MapKept.run_getObj_map hb, Sem.run_pure, K.check, K.find]
  unfold mget mhas
  cases h : mfind x m 0 with
  | none => simp only [Option.map_none, Sem.run_bind, hz, Result.andThen_ok, Sem.run_pure, Option.getD_none, Option.isSome_none]
  | some p => simp only [Option.map_some, Sem.run_bind, Result.andThen_ok, Sem.run_pure, Option.getD_some, Option.isSome_some]
theorem run_mput (K : MKey P kt ek) (ht : P.underlying t = some (.map kt vt)) (hb : W.heap[g]? = some (mObj ek ev m)) (x : κ) (v : ν) :
    (Instr.mapUpdate t (.map (some g)) (ek x) (ev v)).run P W = .ok () { W with heap := W.heap.setIfInBounds g (mObj ek ev (mput m x v)) } := by
  have hb' := hb
  unfold mObj at hb'
  unfold Instr.mapUpdate
  simp only [Sem.run_bind, run_underlying ht, Result.andThen_ok, MapKept.run_getObj_map hb', K.check, K.find]
  have hlen := mput_length x v m 0
  cases h : mfind x m 0 with
  | none =>
    simp only [Option.map_none]
    rw [MapKept.run_setObj_map _ hb']
    rw [h] at hlen
    congr 4
    · rw [mfind_none x m 0 h v, ment_append, Nat.zero_add]
      simp
    · simpa using hlen.symm
  | some p =>
    obtain ⟨j, u⟩ := p
    have hlt := mfind_lt x m 0 j u h
    have hk : ∀ (m : List (κ × ν)) (i j : Nat) (u : ν), mfind x m i = some (j, u) → ∀ b, ((ment ek ev m b)[j - i]?).map (·.key) = some (ek x) := by
      intro m
      induction m with
      | nil => intro i j u h; simp [mfind] at h
      | cons p r ih =>
        intro i j u h b
        unfold mfind at h
        split at h
        · rename_i he
          simp only [Option.some.injEq, Prod.mk.injEq] at h
          obtain ⟨rfl, rfl⟩ := h
          subst he
          simp [ment]
        · have hlt := mfind_lt x r (i + 1) j u h
          have e : j - i = (j - (i + 1)) + 1 := by omega
          rw [e]
          simp only [ment, List.getElem?_cons_succ]
          exact ih (i + 1) j u h (b + 1)
    have hk0 := hk m 0 j u h 0
    rw [Nat.sub_zero] at hk0
    have hk1 : (((ment ek ev m 0).toArray[j]?).map (·.key)).getD (ek x) = ek x := by
      rw [List.getElem?_toArray, hk0]; rfl
    simp only [Option.map_some, Sem.run_bind, hk1, K.stays, Result.andThen_ok]
    rw [MapKept.run_setObj_map _ hb']
    rw [h] at hlen
    have hp := ment_put ek ev x v m 0 j u h 0
    rw [Nat.sub_zero] at hp
    congr 4
    · rw [← hp]
      simp
    · simpa using hlen.symm
end
/-! ### the keys' types -/
section
variable {P : Program} {κ ν : Type} [DecidableEq κ] {ek : κ → Value}
theorem findAsking_of {t : TypeId} {w : World} (he : ∀ a b : κ, (Op.equal t (ek a) (ek b)).run P w = .ok (decide (a = b)) w) (ev : ν → Value) (x : κ) : ∀ (m : List (κ × ν)) (i b : Nat),
    (Instr.findAsking t (ek x) (ment ek ev m b) i).run P w = .ok ((mfind x m i).map fun p => (p.1, ev p.2)) w
  | [], _, _ => rfl
  | p :: r, i, b => by
    simp only [ment, Instr.findAsking, Sem.run_bind, he, Result.andThen_ok]
    unfold mfind
    by_cases h : x = p.1
    · have h2 : decide (x = p.1) = true := decide_eq_true h
      rw [h2, if_pos (c := p.1 = x) h.symm]
      rfl
    · have h2 : decide (x = p.1) = false := decide_eq_false h
      rw [h2, if_neg (c := p.1 = x) (fun e => h e.symm)]
      simp only [Bool.false_eq_true, if_false]
      exact findAsking_of he ev x r (i + 1) (b + 1)
theorem findNow_of {d : TypeDesc} (he : ∀ a b : κ, Instr.sameNow d (ek a) (ek b) = some (decide (a = b))) (ev : ν → Value) (x : κ) : ∀ (m : List (κ × ν)) (i b : Nat),
    Instr.findNow d (ek x) (ment ek ev m b) i = some ((mfind x m i).map fun p => (p.1, ev p.2))
  | [], _, _ => rfl
  | p :: r, i, b => by
    simp only [ment, Instr.findNow, he]
    unfold mfind
    by_cases h : x = p.1
    · rw [decide_eq_true h, if_pos h.symm]
      rfl
    · rw [decide_eq_false h, if_neg (fun e => h e.symm)]
      simp only
      exact findNow_of he ev x r (i + 1) (b + 1)
/-- A key of a plain kind. -/
theorem MKey.plain {t : TypeId} {d : TypeDesc} (hd : P.underlying t = some d) (hk : ∀ x : κ, MapKept.IsKey d (ek x)) (he : ∀ a b : κ, Instr.sameNow d (ek a) (ek b) = some (decide (a = b))) : MKey P t ek where
  check := fun w em x => MapKept.run_checkKey hd (hk x) em 9999
  find := fun ev w x m => MapKept.run_findKey hd (findNow_of he ev x m 0 0)
  stays := fun w x => MapKept.run_keyThatStays (hk x)
/-- A key of several parts. -/
theorem MKey.deep {t : TypeId} (hwide : (match P.underlying t with | some (.array _ _) | some (.struct _) => true | _ => false) = true)
    (hc : ∀ (w : World) (em : Bool) (x : κ), (Instr.checkKey em 10000 t (ek x)).run P w = .ok () w) (he : ∀ (w : World) (a b : κ), (Op.equal t (ek a) (ek b)).run P w = .ok (decide (a = b)) w)
    (hs : ∀ x : κ, Instr.sameBits 10000 (ek x) (ek x) = true) : MKey P t ek where
  check := hc
  find := fun ev w x m => by
    have hf := findAsking_of (he w) ev x m 0 0
    unfold Instr.findKey
    cases hd : P.underlying t with
    | none => rw [hd] at hwide; cases hwide
    | some d =>
      simp only [Sem.run_bind, run_underlying hd, Result.andThen_ok]
      cases m with
      | nil => exact hf
      | cons p r =>
        have hn : ∀ a b : κ, Instr.sameNow d (ek a) (ek b) = none := by
          intro a b
          rw [hd] at hwide
          cases d <;> first | rfl | (exfalso; simp at hwide)
        simp only [ment, Instr.findNow, hn]
        exact hf
  stays := fun w x => by
    unfold Instr.keyThatStays
    rw [if_pos (hs x)]
    rfl
theorem mkey_int {t : TypeId} {k : IntKind} (hd : P.underlying t = some (.int k)) : MKey P t (Value.int k) := MKey.plain hd (fun x => by simp [MapKept.IsKey]) (fun a b => by simp [Instr.sameNow]; rfl)
end
section
variable {P : Program} {t e : TypeId} {i : TypeInfo} {k : IntKind}
end
/-! ### at the operation -/
section
variable {P : Program} {ops : Array Oper} {rest : List Oper} {o : Oper} {a : Act} {Q : Exit → Act → World → Prop} {κ ν : Type} {W : World} {g : Nat} {t : TypeId}
/-- 'make(map[K]V)'. -/
theorem mmade_event (ek : κ → Value) (ev : ν → Value) (hgd : o.guard = none) {N : Tmp} (_hd : o.dst = some N) (hop : o.op = .makeMap t none)
    (h : ∀ g, g = W.heap.size → ∀ w1, w1.heap[g]? = some (mObj ek ev ([] : List (κ × ν))) → Below W.heap.size W w1 → wpList P ops Q rest (a.put o.dst (.map (some g))) w1) : wpList P ops Q (o :: rest) a W :=
  Kd.event_run hgd (w1 := W.alloc (.map #[] 0)) (v := .map (some W.heap.size)) (by unfold execOp; simp only [hop]; rfl) (h _ rfl _ (blk_new W _) (below_alloc (Below.refl _ _) _))
theorem gate_mupd {p : Tmp} {kk vv : Operand} (_ho : o.op = .mapUpdate t (.tmp p) kk vv) (h : wpList P ops Q (o :: rest) a W) : wpList P ops Q (o :: rest) a W := h
theorem cell_nomap {w1 : World} {ob : Obj} (hb : W.heap[g]? = some ob) (hob : ∀ cs t fr, ob ≠ .cells cs t fr) (hg : W.grownBy w1 (some g)) (p : Addr) (v : Value) (hp : W.cell? p = some v) : w1.cell? p = some v := by
  have hlt := World.block_lt_of_cell? W p hp
  have hne : p.block ≠ g := by
    intro e
    unfold World.cell? at hp
    rw [e, hb] at hp
    cases ob <;> first | (exact absurd rfl (hob _ _ _)) | simp at hp
  have := hg.block p.block hlt (by simpa using hne)
  simpa [World.cell?, this] using hp
end
section
variable {P : Program} {ops : Array Oper} {rest : List Oper} {o : Oper} {a : Act} {Q : Exit → Act → World → Prop} {κ ν : Type} [DecidableEq κ] {ek : κ → Value} {ev : ν → Value} {W : World} {g : Nat} {m : List (κ × ν)} {kt vt t : TypeId}
/-- 'm[k] = v'. -/
theorem mput_event (K : MKey P kt ek) (ht : P.underlying t = some (.map kt vt)) {mm kk vv : Operand} (hop : o.op = .mapUpdate t mm kk vv ∨ o.op = .insert t mm kk vv) (x : κ) (v : ν) (hb : W.heap[g]? = some (mObj ek ev m)) (hgd : o.guard = none) (hN : o.dst = none)
    (hm : a.eval mm = .map (some g)) (hk : a.eval kk = ek x) (hv : a.eval vv = ev v)
    (h : ∀ w1, w1.heap[g]? = some (mObj ek ev (mput m x v)) → W.grownBy w1 (some g) → (∀ p u, W.cell? p = some u → w1.cell? p = some u) → wpList P ops Q rest a w1) : wpList P ops Q (o :: rest) a W := by
  have hlt := blk_lt hb
  have hrun : (execOp a.eval o).run P W = .ok .skip { W with heap := W.heap.setIfInBounds g (mObj ek ev (mput m x v)) } := by
    unfold execOp
    rcases hop with hop | hop <;> simp only [hop, hm, hk, hv, Sem.run_bind, run_mput K ht hb x v, Result.andThen_ok] <;> rfl
  have hg : W.grownBy { W with heap := W.heap.setIfInBounds g (mObj ek ev (mput m x v)) } (some g) := ⟨rfl, rfl, rfl, by simp, fun i hi hne => by
    have hne' : g ≠ i := fun e => hne (by rw [e])
    simp [Array.getElem?_setIfInBounds_ne hne']⟩
  refine wpList_plain hgd fun K' hK => ?_
  unfold Oper.wp
  rw [hrun]
  show K' (a.put o.dst undef) _
  rw [hN]
  refine hK _ _ (h _ ?_ hg (cell_nomap hb (fun cs t fr e => by cases e) hg))
  simp [Array.getElem?_setIfInBounds, hlt]
/-- 'm[k]'. -/
theorem mlook_event (K : MKey P kt ek) (ht : P.underlying t = some (.map kt vt)) (z : ν) (hz : ∀ w, (zeroValue vt).run P w = .ok (ev z) w) {mm kk : Operand} (x : κ) (hb : W.heap[g]? = some (mObj ek ev m)) (hop : o.op = .lookup t mm kk false) (hgd : o.guard = none)
    (hm : a.eval mm = .map (some g)) (hk : a.eval kk = ek x) (h : wpList P ops Q rest (a.put o.dst (ev (mget m x z))) W) : wpList P ops Q (o :: rest) a W := by
  refine wpList_plain hgd fun K' hK' => ?_
  unfold Oper.wp
  simp [execOp, hop, hm, hk, run_mlook K ht z hz hb x false, Result.andThen]
  exact hK' _ _ h
end
section
variable {P : Program} {ops : Array Oper} {rest : List Oper} {o : Oper} {a : Act} {Q : Exit → Act → World → Prop} {κ ν : Type} {ek : κ → Value} {ev : ν → Value} {W : World} {g : Nat} {m : List (κ × ν)} {kt vt t : TypeId}
end
/-! ### what is held stays -/
theorem blk_farO {w : World} {g : Nat} {ob : Obj} (h : w.heap[g]? = some ob) {p : Addr} (hp : g ≠ p.block) (u : Value) : (w.setCell p u).heap[g]? = some ob := (Below.heap_setCell w p u g hp).trans h
theorem below_mput {B : Nat} {w W w1 : World} {g : Nat} (h : Below B w W) (hB : B ≤ W.heap.size) (hle : B ≤ g) (hg : W.grownBy w1 (some g)) : Below B w w1 := pw_below_grown h (some g) hB hg (fun k e => by injection e with e; omega)
section
variable {α : Type} {d : Kd α} {e : Nat} {W w1 : World} {base g : Nat} {ok : Nat → Prop} {v : Value} {xs : List α} {κ ν : Type} {ek : κ → Value} {ev : ν → Value} {m : List (κ × ν)}
theorem ne_map {k : Nat} (hb : W.heap[g]? = some (mObj ek ev m)) (hc : ∃ cells q, W.heap[k]? = some (.cells cells q (0, 0))) : some k ≠ some g := by
  obtain ⟨cells, q, hc⟩ := hc
  intro e
  injection e with e
  subst e
  rw [hb] at hc
  cases hc
theorem R_mput (h : d.R e W base ok v xs) (hb : W.heap[g]? = some (mObj ek ev m)) (hg : W.grownBy w1 (some g)) : d.R e w1 base ok v xs :=
  Kd.R_mono (Kd.R_grown (Kd.R_bound h) hg (fun k hk => by obtain ⟨_, _, _, q, _, cells, hc⟩ := hk; exact ne_map hb ⟨cells, q, hc⟩)) (fun _ hk => hk.1)
theorem Q_mput (h : d.Q e W base ok v xs) (hb : W.heap[g]? = some (mObj ek ev m)) (hg : W.grownBy w1 (some g)) : d.Q e w1 base ok v xs :=
  Kd.Q_mono (Kd.Q_grown (Kd.Q_bound h) hg (fun k hk => by obtain ⟨_, _, _, q, _, cells, hc⟩ := hk; exact ne_map hb ⟨cells, q, hc⟩)) (fun _ hk => hk.1)
theorem R_neM (h : d.R e W base ok v xs) (hb : W.heap[g]? = some (mObj ek ev m)) : some g ≠ v.ownBlock := by
  intro he
  obtain ⟨_, inner, ho, _⟩ := h
  obtain ⟨cells, hc⟩ := own_typed ho g he.symm
  exact ne_map hb ⟨cells, e, hc⟩ rfl
theorem Q_neM (h : d.Q e W base ok v xs) (hb : W.heap[g]? = some (mObj ek ev m)) : some g ≠ v.ownBlock := by
  intro he
  obtain ⟨cells, hc⟩ := Kd.Q_typed h g he.symm
  exact ne_map hb ⟨cells, e, hc⟩ rfl
/-- What a kind reads lies in cells. -/
def CK {α : Type} (d : Kd α) : Prop := ∀ {w w1 : World} {x : α} {cs : List Value}, (∀ p u, w.cell? p = some u → w1.cell? p = some u) → d.K w x cs → d.K w1 x cs
theorem CK.C (hd : CK d) {w w1 : World} {A : Option Addr} {n : Nat} (hc : ∀ p u, w.cell? p = some u → w1.cell? p = some u) (h : d.C w A n xs) : d.C w1 A n xs :=
  ⟨h.1, h.2.1, fun hn => by
    obtain ⟨ad, e, hr⟩ := h.2.2 hn
    refine ⟨ad, e, fun j p hj => ?_⟩
    obtain ⟨c, hs, hk, hcell⟩ := hr j p hj
    exact ⟨c, hs, hd hc hk, fun i u hu => hc _ _ (hcell i u hu)⟩⟩
end
theorem ck_int (k : IntKind) : CK (Kd.int k) := fun _ h => h
end Go.Proofs.YtaaibckhpbmbeaaW.PrintMap
namespace Go.Proofs.YtaaibckhpbmbeaaW.PrintWords.Kd
open Go.RowKit Go.Proofs.YtaaibckhpbmbeaaW.PrintWords
/-- Element i of a queue, lent: its cells and what it leads to, as the queue has them. -/
theorem Q_get {α : Type} {d : Kd α} {e base n cap : Nat} {ok : Nat → Prop} {W : World} {ad : Addr} {xs : List α} (h : d.Q e W base ok (.slice (some ad) n cap) xs) (z : α) (i : Int) (h0 : 0 ≤ i) (h1 : i < n) :
    ∃ c, c.length = d.sz ∧ d.M W base (fun k => ok k ∧ some k ≠ (Value.slice (some ad) n cap).ownBlock) (xs.getD i.toNat z) c ∧ ∀ j u, c[j]? = some u → W.cell? (ad.add (i.toNat * d.sz + j)) = some u := by
  have hn := (Q_reads' h).1
  obtain ⟨_, inner, ho, hr⟩ := h
  subst hn
  obtain ⟨ad', he, hc⟩ := q_cells ho (by omega)
  injection he with he
  subst he
  have hi : i.toNat < xs.length := by omega
  have hx : xs[i.toNat]? = some (xs.getD i.toNat z) := by rw [List.getD_eq_getElem?_getD, List.getElem?_eq_getElem hi]; rfl
  have hM := hr.2 i.toNat _ hx
  have hl := d.K_len (d.K_of_M hM)
  refine ⟨(inner.drop (i.toNat * d.sz)).take d.sz, hl, hM, fun j u hu => hc _ u ?_⟩
  rw [List.getElem?_take] at hu
  split at hu
  · rwa [List.getElem?_drop] at hu
  · cases hu
end Go.Proofs.YtaaibckhpbmbeaaW.PrintWords.Kd
