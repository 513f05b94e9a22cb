/- A law's arguments: whatever can be read as data of a told type is data of it. -/
import Derived.Test.YtfkilmmldjajmaaSxR
import Derived.Test.YtfkilmmldjajmaaSxP
import Derived.OpenShut
import Derived.SizedLaws
import Derived.Deep.Slices
import Derived.ProofKit
import Derived.DataElems
namespace Go.Proofs.YtfkilmmldjajmaaSx
open Go Go.RowKit
set_option linter.unusedVariables false
set_option linter.unusedSimpArgs false

/-- The least size of a value. -/
def Ty.byt : Ty → Nat
  | .int k => (match k with | .i64 | .u64 => 8 | .i32 | .u32 => 4 | .i16 | .u16 => 2 | _ => 1)
  | .bool => 1
  | .str => 16
  | .slice _ => 24
  | .pair a b => a.byt + b.byt
  | .unit => 0

/-- Numbers of their kinds, lengths within the reach. -/
def Ty.okv : (u : Ty) → u.den → Prop
  | .int k, x => (Lit.int k x).wf = true
  | .bool, _ => True
  | .str, s => ByteArray.size s ≤ 140737488351232
  | .slice t, l => List.length l ≤ 140737488351232 ∧ List.length l * t.byt ≤ 140737488351232 ∧ ∀ x ∈ l, t.okv x
  | .pair a b, x => a.okv x.1 ∧ b.okv x.2
  | .unit, _ => True

inductive OG where
  | ty (t : Nat) | fields (fs : List (Nat × Nat)) (o : Nat)

/-- The parts of a type. -/
def OG.fs (T : TT) : OG → Option (List (Nat × Nat) × Nat)
  | .fields fs o => some (fs, o)
  | .ty t => match T.find t with
    | some ti => (match ti.d with
      | .struct fs => some (fs, 0)
      | .arr n e => (match T.find e with | some te => some (arrFs e te.size n 0, 0) | none => none)
      | _ => none)
    | none => none

def isKind (T : TT) (k : TD → Bool) : OG → Bool
  | .ty t => (match T.find t with | some ti => k ti.d | none => false)
  | _ => false

/-- The element type of a slice, of at least a byte and a cell. -/
def OG.elem (T : TT) : OG → Option Nat
  | .ty t => (match T.find t with
    | some ti => (match ti.d with
      | .slice e => (match T.find e with
        | some te => bif Nat.blt 0 te.bytes then (bif Nat.blt 0 te.size then some e else none) else none
        | none => none)
      | _ => none)
    | none => none)
  | _ => none

def OG.sized (T : TT) (n : Nat) : OG → Bool
  | .ty t => (match T.find t with | some ti => Nat.beq ti.size n | none => false)
  | _ => true

def okG (T : TT) : Ty → OG → Bool
  | .int k, g => isKind T (fun d => match d with | .int k' => (match kindEq? k k' with | some _ => true | none => false) | _ => false) g && g.sized T 1
  | .bool, g => isKind T (fun d => match d with | .bool => true | _ => false) g && g.sized T 1
  | .str, g => isKind T (fun d => match d with | .str => true | _ => false) g && g.sized T 1
  | .slice u, g => (match g.elem T with | some e => okG T u (.ty e) && (match T.find e with | some te => Nat.ble u.byt te.bytes | none => false) | none => false) && g.sized T 1
  | .pair a b, g => (match g.fs T with
    | some ((o', ft) :: fs, o) => Nat.beq o' o && okG T a (.ty ft) && okG T b (.fields fs (o + a.width))
    | _ => false) && g.sized T (a.width + b.width)
  | .unit, g => (match g.fs T with | some ([], _) => true | _ => false) && g.sized T 0

theorem wall {H : Type} {P : Program} {e : TypeId} : ∀ (l : List (DataW H)) (d : DataW H), d ∈ l → ∀ n ∈ DataW.weights P e d, n ∈ DataW.weightsAll P e l
  | [], d, hd, _, _ => by cases hd
  | x :: l, d, hd, n, hn => by
    rw [DataW.weightsAll, List.mem_append]
    rcases List.mem_cons.1 hd with rfl | hd
    · exact .inl hn
    · exact .inr (wall l d hd n hn)
theorem choose_list {α : Type} (R : Nat → α → Prop) : ∀ n, (∀ i, i < n → ∃ y, R i y) → ∃ l : List α, l.length = n ∧ ∀ i y, l[i]? = some y → R i y
  | 0, _ => ⟨[], rfl, fun i y h => by simp at h⟩
  | n + 1, h => by
    obtain ⟨l, hl, hr⟩ := choose_list R n (fun i hi => h i (by omega))
    obtain ⟨y, hy⟩ := h n (by omega)
    refine ⟨l ++ [y], by simp [hl], fun i z hz => ?_⟩
    by_cases hi : i < l.length
    · rw [List.getElem?_append_left hi] at hz; exact hr i z hz
    · have : i = n := by
        have := (List.getElem?_eq_some_iff.1 hz).1
        simp at this
        omega
      subst this
      rw [List.getElem?_append_right (by omega), hl] at hz
      simp at hz
      subst hz
      exact hy
theorem weach {H : Type} {P : Program} : ∀ (ts : List TypeId) (ds : List (DataW H)) (i : Nat) (t : TypeId) (d : DataW H), ts[i]? = some t → ds[i]? = some d → ∀ n ∈ DataW.weights P t d, n ∈ DataW.weightsEach P ts ds
  | [], _, i, t, d, ht, _, _, _ => by simp at ht
  | _ :: _, [], i, t, d, _, hd, _, _ => by simp at hd
  | t0 :: ts, d0 :: ds, 0, t, d, ht, hd, n, hn => by
    simp at ht hd
    subst ht hd
    rw [DataW.weightsEach, List.mem_append]
    exact .inl hn
  | t0 :: ts, d0 :: ds, i + 1, t, d, ht, hd, n, hn => by
    rw [DataW.weightsEach, List.mem_append]
    exact .inr (weach ts ds i t d (by simpa using ht) (by simpa using hd) n hn)

section
variable {P : Program} {T : TT} {W : World}

/-- Whatever reads as data of a type, by cells, is told data. -/
def OpT (P : Program) (W : World) (t : TypeId) (u : Ty) : Prop :=
  ∀ (H : Type) (enc : TypeId × Value → H) (fuel : Nat) (cs : List Value) (x : DataW H × List MemPlace), DataW.trod enc P W 0 (fun _ => true) true fuel t cs = some x → ((DataW.weights P t x.1).all (· ≤ reachBytes) = true) →
    ∃ y : u.den, u.rep (cellsOf W) y cs ∧ u.okv y

def OpFs (P : Program) (W : World) (fs : List (Nat × Nat)) (off : Nat) (u : Ty) : Prop :=
  ∀ (H : Type) (enc : TypeId × Value → H) (n : Nat) (cs : List Value) (xs : List (DataW H × List MemPlace)), cs.length = off + u.width → xs.length = fs.length →
    (∀ (i : Nat) (f : Nat × Nat) (x : DataW H × List MemPlace), fs[i]? = some f → xs[i]? = some x → DataW.trod enc P W 0 (fun _ => true) true n f.2 ((cs.drop f.1).take (P.cellsOf f.2)) = some x ∧ ((DataW.weights P f.2 x.1).all (· ≤ reachBytes) = true)) →
    ∃ y : u.den, u.rep (cellsOf W) y (cs.drop off) ∧ u.okv y

def OpG (P : Program) (T : TT) (W : World) (u : Ty) : OG → Prop
  | .ty t => OpT P W t u
  | .fields fs o => OpFs P W fs o u

theorem cellsOf_of (hT : TOk P T) {t : Nat} {ti : TI} (h : T.find t = some ti) : P.cellsOf t = ti.size := by
  obtain ⟨i, z, hi, hs, _⟩ := (hT _ _ h).info
  simp [Program.cellsOf, hi, hs]

theorem bytesOf_of (hT : TOk P T) {t : Nat} {ti : TI} (h : T.find t = some ti) : P.bytesOf t = ti.bytes := by
  obtain ⟨i, z, hi, _, hb, _⟩ := (hT _ _ h).info
  simp [Program.bytesOf, hi, hb]

theorem sized_of (hT : TOk P T) {t n : Nat} (h : (OG.ty t).sized T n = true) : P.cellsOf t = n := by
  simp only [OG.sized] at h
  split at h
  · rename_i ti hti; rw [cellsOf_of hT hti]; exact beq_nat h
  · cases h

theorem arrFs_get (e c : Nat) : ∀ (n o i : Nat), i < n → (arrFs e c n o)[i]? = some (o + i * c, e)
  | 0, _, _, h => by omega
  | n + 1, o, 0, _ => by simp [arrFs]
  | n + 1, o, i + 1, h => by
    simp only [arrFs, List.getElem?_cons_succ]
    rw [arrFs_get e c n (o + c) i (by omega)]
    rw [Nat.add_mul]; congr 2; omega
theorem arrFs_len (e c : Nat) : ∀ (n o : Nat), (arrFs e c n o).length = n
  | 0, _ => rfl
  | n + 1, o => by simp [arrFs, arrFs_len e c n]

/-- A type of parts, by its parts. -/
theorem op_parts (hT : TOk P T) {u : Ty} {t : Nat} {fs : List (Nat × Nat)} {o : Nat} (h : (OG.ty t).fs T = some (fs, o)) (hw : P.cellsOf t = u.width) (H : OpFs P W fs o u) : OpT P W t u := by
  intro Hh enc fuel cs x hx hwt
  simp only [OG.fs] at h
  split at h
  · rename_i ti hti
    obtain ⟨d, hd, _, hd2⟩ := (hT _ _ hti).und
    split at h
    · rename_i fs' hfs
      cases h
      rw [hfs] at hd2
      obtain ⟨fields, rfl, rfl⟩ := hd2
      obtain ⟨xs, n, rfl, rfl, hl, hxl, hf⟩ := DataW.trod_struct hd hx
      rw [List.all_eq_true] at hwt
      simp only [DataW.weights, hd] at hwt
      have := H Hh enc n cs xs (by rw [hl, hw]; simp) (by simpa using hxl) (fun i f u hfi hu => by
        rw [List.getElem?_map] at hfi
        cases hfl : fields.toList[i]? with
        | none => rw [hfl] at hfi; simp at hfi
        | some fl =>
          rw [hfl] at hfi
          simp at hfi
          subst hfi
          refine ⟨(hf i fl (by simpa using hfl)).trans hu, ?_⟩
          rw [List.all_eq_true]
          intro q hq
          exact hwt q (weach _ _ i fl.type u.1 (by simp only [List.getElem?_map, hfl, Option.map_some]) (by simp only [List.getElem?_map, hu, Option.map_some]) q hq))
      simpa using this
    · rename_i n e hfs
      split at h
      · rename_i te hte
        cases h
        rw [hfs] at hd2
        subst hd2
        have hce := cellsOf_of hT hte
        obtain ⟨xs, m, rfl, rfl, hl, hxl, hf⟩ := DataW.trod_array hd hx
        rw [List.all_eq_true] at hwt
        simp only [DataW.weights, hd] at hwt
        have := H Hh enc m cs xs (by rw [hl, hw]; simp) (by rw [arrFs_len, hxl]) (fun i f u hfi hu => by
          have hi : i < n := by rw [← hxl]; exact (List.getElem?_eq_some_iff.1 hu).1
          rw [arrFs_get e te.size n 0 i hi] at hfi
          obtain rfl := Option.some.inj hfi
          refine ⟨?_, ?_⟩
          · have := (hf i hi).trans hu
            rw [hce] at this ⊢
            simpa using this
          · rw [List.all_eq_true]
            intro q hq
            exact hwt q (wall _ u.1 (List.mem_map.2 ⟨u, List.mem_of_getElem? hu, rfl⟩) q hq))
        simpa using this
      · cases h
    · cases h
  · cases h

theorem okG_op (hT : TOk P T) : ∀ (u : Ty) (g : OG), okG T u g = true → OpG P T W u g
  | .int k, g, h => by
    cases g with
    | fields => simp [okG, isKind] at h
    | ty t =>
      simp only [okG, isKind, Bool.and_eq_true] at h
      obtain ⟨h, _⟩ := h
      split at h
      · rename_i ti hti
        split at h
        · rename_i k' hd
          split at h
          · rename_i q hq
            obtain ⟨e⟩ := q
            subst e
            obtain ⟨d, hu, _, hd2⟩ := (hT _ _ hti).und
            rw [hd] at hd2
            subst hd2
            intro H enc fuel cs x hx _
            obtain ⟨n, hc, _, hw⟩ := DataW.trod_int hu hx
            exact ⟨n, by simp only [Ty.rep]; exact hc, hw⟩
          · cases h
        · cases h
      · cases h
  | .bool, g, h => by
    cases g with
    | fields => simp [okG, isKind] at h
    | ty t =>
      simp only [okG, isKind, Bool.and_eq_true] at h
      obtain ⟨h, _⟩ := h
      split at h
      · rename_i ti hti
        split at h
        · rename_i hd
          obtain ⟨d, hu, _, hd2⟩ := (hT _ _ hti).und
          rw [hd] at hd2
          subst hd2
          intro H enc fuel cs x hx _
          obtain ⟨b, hc, _⟩ := DataW.trod_bool hu hx
          exact ⟨b, by simp only [Ty.rep]; exact hc, trivial⟩
        · cases h
      · cases h
  | .str, g, h => by
    cases g with
    | fields => simp [okG, isKind] at h
    | ty t =>
      simp only [okG, isKind, Bool.and_eq_true] at h
      obtain ⟨h, _⟩ := h
      split at h
      · rename_i ti hti
        split at h
        · rename_i hd
          obtain ⟨d, hu, _, hd2⟩ := (hT _ _ hti).und
          rw [hd] at hd2
          subst hd2
          intro H enc fuel cs x hx hw
          obtain ⟨s, hc, rfl, _⟩ := DataW.trod_string hu hx
          refine ⟨s, by simp only [Ty.rep]; exact hc, ?_⟩
          simp [DataW.weights, reachBytes] at hw
          have hw' : s.size ≤ 140737488351232 := of_decide_eq_true hw
          exact hw'
        · cases h
      · cases h
  | .slice u, g, h => by
    cases g with
    | fields => simp [okG, OG.elem] at h
    | ty t =>
      simp only [okG, Bool.and_eq_true] at h
      obtain ⟨h, _⟩ := h
      split at h
      · rename_i e he
        simp only [OG.elem] at he
        split at he
        · rename_i ti hti
          split at he
          · rename_i e' hd
            split at he
            · rename_i te hte
              cases hb : Nat.blt 0 te.bytes with
              | false => rw [hb] at he; cases he
              | true =>
                rw [hb] at he
                cases hs : Nat.blt 0 te.size with
                | false => rw [hs] at he; cases he
                | true =>
                  rw [hs] at he
                  cases he
                  rw [hte, Bool.and_eq_true] at h
                  obtain ⟨h, hbyt⟩ := h
                  have hbyt := Nat.le_of_ble_eq_true hbyt
                  have hb' : 0 < te.bytes := by simp [Nat.blt] at hb; omega
                  have hs' : 0 < te.size := by simp [Nat.blt] at hs; omega
                  obtain ⟨d, hu, _, hd2⟩ := (hT _ _ hti).und
                  rw [hd] at hd2
                  subst hd2
                  have hsz : P.cellsOf e = u.width := by
                    have : (OG.ty e).sized T u.width = true := by
                      cases u <;> simp only [okG, Bool.and_eq_true] at h <;> exact h.2
                    exact sized_of hT this
                  have hce := cellsOf_of hT hte
                  have ih : OpT P W e u := okG_op hT u (.ty e) h
                  intro H enc fuel cs x hx hw
                  rcases Go.Deep.open_slice hu hx with ⟨rfl, _⟩ | ⟨a, len, cap, m, n, D, Pl, rfl, _, hl, hm, hmm, rfl, hxx⟩
                  · exact ⟨[], by simp only [Ty.rep]; exact ⟨none, 0, by simp, by simp, fun h => absurd rfl h⟩, by simp [Ty.okv]⟩
                  · simp at hmm
                    subst hmm
                    rw [List.all_eq_true] at hw
                    simp only [DataW.weights, hu] at hw
                    have h1 := hw _ List.mem_cons_self
                    simp only [List.length_map, List.length_range, bytesOf_of hT hte, decide_eq_true_eq, reachBytes] at h1
                    have hlen : len ≤ 140737488351232 := by
                      have h2 : (len + (m - len)) * 1 ≤ (len + (m - len)) * te.bytes := Nat.mul_le_mul_left _ hb'
                      omega
                    obtain ⟨ys, hys, hr⟩ := choose_list (fun i (y : u.den) => ∃ c, W.cells? 0 (a.add (i * P.cellsOf e)) (P.cellsOf e) = some c ∧ u.rep (cellsOf W) y c ∧ u.okv y) len (fun i hi => by
                      obtain ⟨c, hc, htr⟩ := hxx i (by omega)
                      obtain ⟨y, hk, hok⟩ := ih H enc n c _ htr (by
                        rw [List.all_eq_true]
                        intro q hq
                        exact hw q (List.mem_cons_of_mem _ (List.mem_append_left _ (wall _ (D i) (List.mem_map.2 ⟨i, List.mem_range.2 hi, rfl⟩) q hq))))
                      exact ⟨y, c, hc, hk, hok⟩)
                    obtain ⟨b, o, sp⟩ := a
                    refine ⟨ys, ?_, ?_⟩
                    · simp only [Ty.rep]
                      refine ⟨some ⟨b, o, sp⟩, m, by rw [hys], by omega, fun hne => ?_⟩
                      have hpos : 0 < ys.length := by omega
                      have hsp : sp = none := by
                        obtain ⟨c, hc, hk, _⟩ := hr 0 ys[0] (List.getElem?_eq_getElem hpos)
                        obtain ⟨_, hl2, hcell⟩ := World.cells?_some hc
                        have := hcell 0 (by omega)
                        simp only [Nat.zero_mul, Addr.add, if_true] at this
                        cases sp with
                        | none => rfl
                        | some s =>
                          rw [List.getElem?_eq_getElem (by omega)] at this
                          simp only [World.cell?] at this
                          split at this <;> simp at this
                      subst hsp
                      refine ⟨b, o, rfl, fun i hi => ?_⟩
                      obtain ⟨c, hc, hk, _⟩ := hr i ys[i] (List.getElem?_eq_getElem hi)
                      refine ⟨c, hk, fun j hj => ?_⟩
                      obtain ⟨_, hl2, hcell⟩ := World.cells?_some hc
                      have := hcell j (by omega)
                      rw [Addr.add_none, Addr.add_none, hsz] at this
                      exact this
                    · show List.length ys ≤ 140737488351232 ∧ List.length ys * u.byt ≤ 140737488351232 ∧ ∀ x ∈ ys, u.okv x
                      refine ⟨by omega, ?_, fun y hy => ?_⟩
                      · have h3 : ys.length * u.byt ≤ (len + (m - len)) * te.bytes := Nat.mul_le_mul (by omega) hbyt
                        omega
                      obtain ⟨i, hi⟩ := List.getElem?_of_mem hy
                      obtain ⟨_, _, _, hok⟩ := hr i y hi
                      exact hok
            · cases he
          · cases he
        · cases he
      · cases h
  | .pair a b, g, h => by
    simp only [okG, Bool.and_eq_true] at h
    obtain ⟨h, hsz⟩ := h
    split at h
    · rename_i o' ft fs o hfs
      simp only [Bool.and_eq_true] at h
      obtain ⟨⟨h1, h2⟩, h3⟩ := h
      have h1 := beq_nat h1
      subst h1
      have iha : OpT P W ft a := okG_op hT a (.ty ft) h2
      have ihb : OpFs P W fs (o' + a.width) b := okG_op hT b (.fields fs (o' + a.width)) h3
      have hca : P.cellsOf ft = a.width := by
        have : (OG.ty ft).sized T a.width = true := by
          cases a <;> simp only [okG, Bool.and_eq_true] at h2 <;> exact h2.2
        exact sized_of hT this
      have main : OpFs P W ((o', ft) :: fs) o' (.pair a b) := by
        intro H enc n cs xs hl hx hf
        match xs, hx with
        | x :: xs, hx =>
          obtain ⟨ht, hw⟩ := hf 0 (o', ft) x rfl rfl
          obtain ⟨y, hk, hok⟩ := iha H enc n _ x ht hw
          have hl' : cs.length = o' + (a.width + b.width) := hl
          obtain ⟨z, hz, hokz⟩ := ihb H enc n cs xs (by omega) (by simpa using hx) (fun i g u hg hu => hf (i + 1) g u hg hu)
          refine ⟨(y, z), ?_, hok, hokz⟩
          simp only [Ty.rep]
          refine ⟨(cs.drop o').take a.width, cs.drop (o' + a.width), ?_, ?_, hz⟩
          · rw [← List.drop_drop, List.take_append_drop]
          · simp only [hca] at hk; exact hk
      cases g with
      | fields => simp only [OG.fs, Option.some.injEq, Prod.mk.injEq] at hfs; obtain ⟨rfl, rfl⟩ := hfs; exact main
      | ty t => exact op_parts hT hfs (sized_of hT hsz) main
    · cases h
  | .unit, g, h => by
    simp only [okG, Bool.and_eq_true] at h
    obtain ⟨h, hsz⟩ := h
    split at h
    · rename_i o hfs
      have main : OpFs P W [] o .unit := by
        intro H enc n cs xs hl hx hf
        refine ⟨(), ?_, trivial⟩
        simp only [Ty.rep]
        rw [List.drop_of_length_le]
        simp [Ty.width] at hl; omega
      cases g with
      | fields => simp only [OG.fs, Option.some.injEq, Prod.mk.injEq] at hfs; obtain ⟨rfl, rfl⟩ := hfs; exact main
      | ty t => exact op_parts hT hfs (sized_of hT hsz) main
    · cases h
end
end Go.Proofs.YtfkilmmldjajmaaSx
