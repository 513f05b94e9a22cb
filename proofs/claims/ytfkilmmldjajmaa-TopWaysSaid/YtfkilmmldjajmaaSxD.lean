/- Memory turned: what is told of it stays. -/
import Derived.Test.YtfkilmmldjajmaaSxC
import Derived.Calls
namespace Go.Proofs.YtfkilmmldjajmaaSx
open Go
set_option linter.unusedVariables false
set_option linter.unusedSimpArgs false

/-- Only one block turned (or none). -/
structure Touch (w w' : World) (B : List Nat) : Prop where
  os : w'.os = w.os
  tape : w'.tape = w.tape
  output : w'.output = w.output
  size : w'.heap.size = w.heap.size
  old : ∀ b, b ∉ B → w'.heap[b]? = w.heap[b]?

theorem Touch.refl (w : World) (B : List Nat) : Touch w w B := ⟨rfl, rfl, rfl, rfl, fun _ _ => rfl⟩
theorem Touch.trans {w w' w'' : World} {B : List Nat} (h : Touch w w' B) (k : Touch w' w'' B) : Touch w w'' B :=
  ⟨k.os.trans h.os, k.tape.trans h.tape, k.output.trans h.output, k.size.trans h.size, fun b hb => (k.old b hb).trans (h.old b hb)⟩

section
variable {bs : Base} {m : Mm} {ls : List Loc} {Bs : List (List Nat)} {cs : List Chunk} {w w' : World}

theorem Mem.lt_of (M : Mem bs m ls Bs cs w) {b o : Nat} {v : Value} (h : m b o = some v) : b < w.heap.size := by
  have := M.mle b o v h
  rcases Nat.lt_or_ge b w.heap.size with h' | h'
  · exact h'
  · simp [World.cell?, Array.getElem?_eq_none h'] at this

theorem Mem.new_none (M : Mem bs m ls Bs cs w) (o : Nat) : m w.heap.size o = none := by
  cases h : m w.heap.size o with
  | none => rfl
  | some v => exact absurd (M.lt_of h) (Nat.lt_irrefl _)

theorem Mem.m_none (M : Mem bs m ls Bs cs w) {i : Nat} {B : List Nat} (h : Bs[i]? = some B) {b : Nat} (hb : b ∈ B) (o : Nat) : m b o = none := (M.fresh i B h b hb).2.2 o

/-- One chunk turned, with what is its own. -/
theorem Mem.upd (M : Mem bs m ls Bs cs w) {i : Nat} {B B' : List Nat} {l : Loc} {c' : Chunk} (hB : Bs[i]? = some B) (hl : ls[i]? = some l) (T : Touch w w' B) (hsub : ∀ b ∈ B', b ∈ B)
    (hc : c'.holds m ls w' l B') : Mem bs m ls (Bs.set i B') (cs.set i c') w' := by
  have hmem : ∀ b o v, m b o = some v → b ∉ B := fun b o v h hb => by rw [M.m_none hB hb] at h; cases h
  refine ⟨T.os.trans M.os, T.tape.trans M.tape, T.output.trans M.output, by rw [T.size]; exact M.size, ?_, M.m0, M.mnew, ?_, M.pre, by simp [M.nl], by simp [M.nB], ?_, ?_, ?_⟩
  · intro b hb hn
    rw [T.old b ?_, M.old b hb hn]
    intro hbB
    rcases (M.fresh i B hB b hbB).2.1 with h | h
    · omega
    · exact hn h
  · intro b o v h
    rw [World.cell?_of_block (w := w) (T.old b (hmem b o v h))]
    exact M.mle b o v h
  · intro j c lj Bj hcj hlj hBj
    by_cases hij : i = j
    · subst hij
      have hi : i < cs.length := by
        rw [← M.nB]
        rcases Nat.lt_or_ge i Bs.length with h | h
        · exact h
        · rw [List.getElem?_eq_none h] at hB; cases hB
      rw [List.getElem?_set_self hi] at hcj
      rw [List.getElem?_set_self (by rw [M.nB]; exact hi)] at hBj
      cases hcj; cases hBj
      rw [hl] at hlj; cases hlj
      exact hc
    · rw [List.getElem?_set_ne hij] at hcj hBj
      exact Chunk.holds_of (Ext.refl m ls) (fun b hb => T.old b (fun hbB => M.apart i j B Bj hB hBj hij b hbB hb)) (M.holds j c lj Bj hcj hlj hBj)
  · intro j k Bj Bk hj hk hjk b hbj hbk
    have hi : i < Bs.length := by
      rcases Nat.lt_or_ge i Bs.length with h | h
      · exact h
      · rw [List.getElem?_eq_none h] at hB; cases hB
    by_cases h1 : i = j
    · subst h1
      rw [List.getElem?_set_self hi] at hj; cases hj
      rw [List.getElem?_set_ne hjk] at hk
      exact M.apart i k B Bk hB hk hjk b (hsub b hbj) hbk
    · rw [List.getElem?_set_ne h1] at hj
      by_cases h2 : i = k
      · subst h2
        rw [List.getElem?_set_self hi] at hk; cases hk
        exact M.apart j i Bj B hj hB (fun e => hjk e) b hbj (hsub b hbk)
      · rw [List.getElem?_set_ne h2] at hk
        exact M.apart j k Bj Bk hj hk hjk b hbj hbk
  · intro j Bj hj b hb
    rw [T.size]
    have hi : i < Bs.length := by
      rcases Nat.lt_or_ge i Bs.length with h | h
      · exact h
      · rw [List.getElem?_eq_none h] at hB; cases hB
    by_cases h1 : i = j
    · subst h1
      rw [List.getElem?_set_self hi] at hj; cases hj
      exact M.fresh i B hB b (hsub b hb)
    · rw [List.getElem?_set_ne h1] at hj
      exact M.fresh j Bj hj b hb

theorem ext_push (m : Mm) (ls : List Loc) (l : Loc) : Ext m ls m (ls ++ [l]) :=
  ⟨fun _ _ _ h => h, fun i l' h => by
    rw [List.getElem?_append_left]
    · exact h
    · rcases Nat.lt_or_ge i ls.length with h' | h'
      · exact h'
      · rw [List.getElem?_eq_none h'] at h; cases h⟩

/-- A new block. -/
theorem Mem.alloc (M : Mem bs m ls Bs cs w) (o : Obj) : Mem bs m ls Bs cs (w.alloc o) := by
  have hh : ∀ b, b < w.heap.size → (w.alloc o).heap[b]? = w.heap[b]? := fun b hb => Below_heap b hb
  refine ⟨M.os, M.tape, M.output, Nat.le_trans M.size (by show w.heap.size ≤ (w.heap.push o).size; simp), ?_, M.m0, M.mnew, ?_, M.pre, M.nl, M.nB, ?_, M.apart, ?_⟩
  · intro b hb hn; rw [hh b (Nat.lt_of_lt_of_le hb M.size)]; exact M.old b hb hn
  · intro b o' v h
    rw [World.cell?_of_block (w := w) (hh b (M.lt_of h))]; exact M.mle b o' v h
  · intro i c l B h1 h2 h3
    exact Chunk.holds_of (Ext.refl m ls) (fun b hb => hh b (M.fresh i B h3 b hb).1) (M.holds i c l B h1 h2 h3)
  · intro i B h b hb
    have := M.fresh i B h b hb
    exact ⟨Nat.lt_of_lt_of_le this.1 (by show w.heap.size ≤ (w.heap.push o).size; simp), this.2⟩
where
  Below_heap {o : Obj} {w : World} (b : Nat) (hb : b < w.heap.size) : (w.alloc o).heap[b]? = w.heap[b]? := by
    show (w.heap.push o)[b]? = _
    rw [Array.getElem?_push, if_neg (by omega)]

/-- A new chunk. -/
theorem Mem.add (M : Mem bs m ls Bs cs w) {c : Chunk} {l : Loc} {B : List Nat}
    (hf : ∀ b ∈ B, b < w.heap.size ∧ (bs.w0.heap.size ≤ b ∨ b ∈ bs.lent) ∧ (∀ o, m b o = none) ∧ ∀ (j : Nat) B', Bs[j]? = some B' → b ∉ B')
    (hc : c.holds m (ls ++ [l]) w l B) : Mem bs m (ls ++ [l]) (Bs ++ [B]) (cs ++ [c]) w := by
  refine ⟨M.os, M.tape, M.output, M.size, M.old, M.m0, M.mnew, M.mle, fun i l' h => (ext_push m ls l).l i l' (M.pre i l' h), by simp [M.nl], by simp [M.nB], ?_, ?_, ?_⟩
  · intro i c' l' B' h1 h2 h3
    by_cases hi : i < cs.length
    · rw [List.getElem?_append_left hi] at h1
      rw [List.getElem?_append_left (by rw [M.nl]; exact hi)] at h2
      rw [List.getElem?_append_left (by rw [M.nB]; exact hi)] at h3
      exact Chunk.holds_of (ext_push m ls l) (fun _ _ => rfl) (M.holds i c' l' B' h1 h2 h3)
    · have hi' : i = cs.length := by
        rcases Nat.lt_or_ge i (cs ++ [c]).length with h | h
        · simp at h; omega
        · rw [List.getElem?_eq_none h] at h1; cases h1
      subst hi'
      rw [List.getElem?_append_right (Nat.le_refl _)] at h1
      rw [List.getElem?_append_right (by rw [M.nl]; exact Nat.le_refl _)] at h2
      rw [List.getElem?_append_right (by rw [M.nB]; exact Nat.le_refl _)] at h3
      simp [M.nl, M.nB] at h1 h2 h3
      subst h1; subst h2; subst h3
      exact hc
  · intro i j Bi Bj hi hj hij b hbi hbj
    by_cases h1 : i < Bs.length
    · rw [List.getElem?_append_left h1] at hi
      by_cases h2 : j < Bs.length
      · rw [List.getElem?_append_left h2] at hj
        exact M.apart i j Bi Bj hi hj hij b hbi hbj
      · have hj' : Bj = B := by
          rw [List.getElem?_append_right (by omega)] at hj
          cases h : j - Bs.length with
          | zero => rw [h] at hj; simpa using hj.symm
          | succ n => rw [h] at hj; simp at hj
        subst hj'
        exact (hf b hbj).2.2.2 i Bi hi hbi
    · have hi' : Bi = B := by
        rw [List.getElem?_append_right (by omega)] at hi
        cases h : i - Bs.length with
        | zero => rw [h] at hi; simpa using hi.symm
        | succ n => rw [h] at hi; simp at hi
      by_cases h2 : j < Bs.length
      · rw [List.getElem?_append_left h2] at hj
        subst hi'
        exact (hf b hbi).2.2.2 j Bj hj hbj
      · have : i = j := by
          have e1 : i < (Bs ++ [B]).length := by
            rcases Nat.lt_or_ge i (Bs ++ [B]).length with h | h
            · exact h
            · rw [List.getElem?_eq_none h] at hi; cases hi
          have e2 : j < (Bs ++ [B]).length := by
            rcases Nat.lt_or_ge j (Bs ++ [B]).length with h | h
            · exact h
            · rw [List.getElem?_eq_none h] at hj; cases hj
          simp at e1 e2; omega
        exact hij this
  · intro i Bi hi b hb
    by_cases h1 : i < Bs.length
    · rw [List.getElem?_append_left h1] at hi; exact M.fresh i Bi hi b hb
    · have hi' : Bi = B := by
        rw [List.getElem?_append_right (by omega)] at hi
        cases h : i - Bs.length with
        | zero => rw [h] at hi; simpa using hi.symm
        | succ n => rw [h] at hi; simp at hi
      subst hi'
      have := hf b hb
      exact ⟨this.1, this.2.1, this.2.2.1⟩

/-- A world with the same memory. -/
theorem Mem.same (M : Mem bs m ls Bs cs w) (h : w'.heap = w.heap) (h1 : w'.os = w.os) (h2 : w'.tape = w.tape) (h3 : w'.output = w.output) : Mem bs m ls Bs cs w' := by
  have hh : ∀ b : Nat, w'.heap[b]? = w.heap[b]? := fun b => by rw [h]
  refine ⟨h1.trans M.os, h2.trans M.tape, h3.trans M.output, by rw [h]; exact M.size, fun b hb hn => (hh b).trans (M.old b hb hn), M.m0, M.mnew, ?_, M.pre, M.nl, M.nB, ?_, M.apart, ?_⟩
  · intro b o v hm; rw [World.cell?_of_block (w := w) (hh b)]; exact M.mle b o v hm
  · intro i c l B e1 e2 e3; exact Chunk.holds_of (Ext.refl m ls) (fun b _ => hh b) (M.holds i c l B e1 e2 e3)
  · intro i B e b hb; rw [h]; exact M.fresh i B e b hb

/-- What is frozen: a block's cells too. -/
def frozenWith (m : Mm) (w : World) (g : Nat) : Mm := fun b o => match m b o with
  | some v => some v
  | none => if b = g then w.cell? ⟨b, o, none⟩ else none

theorem Mem.freeze1 (M : Mem bs m ls Bs cs w) {c : Nat} {t : Ty} {L : List t.den} (hc : cs[c]? = some (.own t L)) :
    ∃ m' Bs', Ext m ls m' ls ∧ Mem bs m' ls Bs' (cs.set c (.froz t L)) w ∧ Bs' = Bs.set c [] := by
  obtain ⟨l, B, hl, hB, hh⟩ := M.at hc
  have hhh := hh
  have hclt : c < cs.length := by
    rcases Nat.lt_or_ge c cs.length with h | h
    · exact h
    · rw [List.getElem?_eq_none h] at hc; cases hc
  simp only [Chunk.holds] at hh
  obtain ⟨h0, h1, h2, h3, h⟩ := hh
  rcases h with ⟨hcap, rfl⟩ | ⟨g, o, cs', e, hA, rfl, hheap, hroom, hall⟩
  · refine ⟨m, Bs.set c [], Ext.refl _ _, M.upd hB hl (Touch.refl _ _) (by simp) ?_, rfl⟩
    simp only [Chunk.holds]
    exact ⟨trivial, h1, own_reads hhh m (fun _ _ _ h => h) (by simp)⟩
  · let m' := frozenWith m w g
    have hm' : ∀ b o v, m b o = some v → m' b o = some v := by
      intro b o v h; simp only [m', frozenWith, h]
    have hm'n : ∀ b, b ≠ g → ∀ o, m' b o = m b o := by
      intro b hb o; simp only [m', frozenWith, hb, if_false]; split <;> simp_all
    have E : Ext m ls m' ls := ⟨hm', fun _ _ h => h⟩
    have hfg := M.fresh c [g] hB g (by simp)
    refine ⟨m', Bs.set c [], E, ?_, rfl⟩
    refine ⟨M.os, M.tape, M.output, M.size, M.old, fun b o v h => hm' b o v (M.m0 b o v h), ?_, ?_, M.pre, by simp [M.nl], by simp [M.nB], ?_, ?_, ?_⟩
    · intro b o v h
      by_cases hb : b = g
      · subst hb; exact .inr hfg.2.1
      · rw [hm'n b hb] at h; exact M.mnew b o v h
    · intro b o v h
      by_cases hb : b = g
      · subst hb
        simp only [m', frozenWith, hfg.2.2 o, if_true] at h
        exact h
      · rw [hm'n b hb] at h; exact M.mle b o v h
    · intro i ci li Bi hci hli hBi
      by_cases hic : c = i
      · subst hic
        rw [List.getElem?_set_self hclt] at hci
        rw [List.getElem?_set_self (by rw [M.nB]; exact hclt)] at hBi
        cases hci; cases hBi
        rw [hl] at hli; cases hli
        simp only [Chunk.holds]
        refine ⟨trivial, h1, own_reads hhh m' hm' ?_⟩
        intro b hb o v hv
        simp at hb; subst hb
        simp only [m', frozenWith, hfg.2.2 o, if_true]; exact hv
      · rw [List.getElem?_set_ne hic] at hci hBi
        exact Chunk.holds_of E (fun _ _ => rfl) (M.holds i ci li Bi hci hli hBi)
    · intro i j Bi Bj hi hj hij b hbi hbj
      by_cases h1 : c = i
      · subst h1; rw [List.getElem?_set_self (by rw [M.nB]; exact hclt)] at hi; cases hi; simp at hbi
      · by_cases h2 : c = j
        · subst h2; rw [List.getElem?_set_self (by rw [M.nB]; exact hclt)] at hj; cases hj; simp at hbj
        · rw [List.getElem?_set_ne h1] at hi
          rw [List.getElem?_set_ne h2] at hj
          exact M.apart i j Bi Bj hi hj hij b hbi hbj
    · intro i Bi hi b hb
      by_cases h1 : c = i
      · subst h1; rw [List.getElem?_set_self (by rw [M.nB]; exact hclt)] at hi; cases hi; simp at hb
      · rw [List.getElem?_set_ne h1] at hi
        have hf := M.fresh i Bi hi b hb
        refine ⟨hf.1, hf.2.1, fun o => ?_⟩
        have hne : b ≠ g := fun e => by subst e; exact M.apart c i [b] Bi hB hi h1 b (by simp) hb
        rw [hm'n b hne]; exact hf.2.2 o

/-- A box that is frozen: gone, its cells told. -/
theorem Mem.freezeB (M : Mem bs m ls Bs cs w) {c : Nat} {cells : List SV} {ty : Nat} (hc : cs[c]? = some (.box cells ty)) :
    ∃ m' Bs', Ext m ls m' ls ∧ Mem bs m' ls Bs' (cs.set c .gone) w ∧ Bs' = Bs.set c [] ∧ ∀ l, ls[c]? = some l → ∃ b us, l.A = some ⟨b, 0, none⟩ ∧ SV.rels m' ls cells us ∧ ∀ j, j < us.length → m' b j = us[j]? := by
  obtain ⟨l, B, hl, hB, hh⟩ := M.at hc
  have hclt : c < cs.length := by
    rcases Nat.lt_or_ge c cs.length with h | h
    · exact h
    · rw [List.getElem?_eq_none h] at hc; cases hc
  simp only [Chunk.holds] at hh
  obtain ⟨g, cs', hA, rfl, hheap, hrel⟩ := hh
  let m' := frozenWith m w g
  have hm' : ∀ b o v, m b o = some v → m' b o = some v := by
    intro b o v h; simp only [m', frozenWith, h]
  have hm'n : ∀ b, b ≠ g → ∀ o, m' b o = m b o := by
    intro b hb o; simp only [m', frozenWith, hb, if_false]; split <;> simp_all
  have E : Ext m ls m' ls := ⟨hm', fun _ _ h => h⟩
  have hfg := M.fresh c [g] hB g (by simp)
  refine ⟨m', Bs.set c [], E, ?_, rfl, ?_⟩
  · refine ⟨M.os, M.tape, M.output, M.size, M.old, fun b o v h => hm' b o v (M.m0 b o v h), ?_, ?_, M.pre, by simp [M.nl], by simp [M.nB], ?_, ?_, ?_⟩
    · intro b o v h
      by_cases hb : b = g
      · subst hb; exact .inr hfg.2.1
      · rw [hm'n b hb] at h; exact M.mnew b o v h
    · intro b o v h
      by_cases hb : b = g
      · subst hb
        simp only [m', frozenWith, hfg.2.2 o, if_true] at h
        exact h
      · rw [hm'n b hb] at h; exact M.mle b o v h
    · intro i ci li Bi hci hli hBi
      by_cases hic : c = i
      · subst hic
        rw [List.getElem?_set_self hclt] at hci
        rw [List.getElem?_set_self (by rw [M.nB]; exact hclt)] at hBi
        cases hci; cases hBi
        simp only [Chunk.holds]
      · rw [List.getElem?_set_ne hic] at hci hBi
        exact Chunk.holds_of E (fun _ _ => rfl) (M.holds i ci li Bi hci hli hBi)
    · intro i j Bi Bj hi hj hij b hbi hbj
      by_cases h1 : c = i
      · subst h1; rw [List.getElem?_set_self (by rw [M.nB]; exact hclt)] at hi; cases hi; simp at hbi
      · by_cases h2 : c = j
        · subst h2; rw [List.getElem?_set_self (by rw [M.nB]; exact hclt)] at hj; cases hj; simp at hbj
        · rw [List.getElem?_set_ne h1] at hi
          rw [List.getElem?_set_ne h2] at hj
          exact M.apart i j Bi Bj hi hj hij b hbi hbj
    · intro i Bi hi b hb
      by_cases h1 : c = i
      · subst h1; rw [List.getElem?_set_self (by rw [M.nB]; exact hclt)] at hi; cases hi; simp at hb
      · rw [List.getElem?_set_ne h1] at hi
        have hf := M.fresh i Bi hi b hb
        refine ⟨hf.1, hf.2.1, fun o => ?_⟩
        have hne : b ≠ g := fun e => by subst e; exact M.apart c i [b] Bi hB hi h1 b (by simp) hb
        rw [hm'n b hne]; exact hf.2.2 o
  · intro l2 hl2
    rw [hl] at hl2; cases hl2
    refine ⟨g, cs'.toList, hA, SV.rels_ext E hrel, fun j hj => ?_⟩
    simp only [m', frozenWith, hfg.2.2 j, if_true]
    simp only [World.cell?, hheap, Option.isSome_none, Bool.false_eq_true, if_false]
    rw [Array.getElem?_toList]

/-- Chunks that are frozen, one behind another. -/
theorem Mem.freeze2 (z : List Nat) : ∀ {m : Mm} {Bs : List (List Nat)} {cs : List Chunk}, Mem bs m ls Bs cs w →
    ∃ m' Bs', Ext m ls m' ls ∧ Mem bs m' ls Bs' (freeze cs z) w ∧ Reads m' ls cs z ∧ ∀ (i : Nat) B, Bs'[i]? = some B → ∃ B0, Bs[i]? = some B0 ∧ ∀ b ∈ B, b ∈ B0 := by
  induction z with
  | nil => intro m Bs cs M; exact ⟨m, Bs, Ext.refl _ _, M, M.reads_nil, fun i B h => ⟨B, h, fun _ hb => hb⟩⟩
  | cons c z ih =>
    intro m Bs cs M
    simp only [YtfkilmmldjajmaaSx.freeze, nth_eq]
    split
    · rename_i t L hc
      have hclt : c < cs.length := by
        rcases Nat.lt_or_ge c cs.length with h | h
        · exact h
        · rw [List.getElem?_eq_none h] at hc; cases hc
      obtain ⟨m1, Bs1, E1, M1, e1⟩ := M.freeze1 hc
      rw [setNth_eq]
      obtain ⟨m2, Bs2, E2, M2, R2, S2⟩ := ih M1
      refine ⟨m2, Bs2, E1.trans E2, M2, ?_, ?_⟩
      rotate_left
      · intro i B h
        obtain ⟨B0, h1, h2⟩ := S2 i B h
        subst e1
        by_cases hci : c = i
        · subst hci
          rw [List.getElem?_set_self (by rw [M.nB]; exact hclt)] at h1
          cases h1
          exact ⟨Bs[c]'(by rw [M.nB]; exact hclt), List.getElem?_eq_getElem _, fun b hb => by have := h2 b hb; simp at this⟩
        · rw [List.getElem?_set_ne hci] at h1
          exact ⟨B0, h1, h2⟩
      refine ⟨fun d l u K hl hd => ?_, fun d l cells ty hl hd hz => ?_⟩
      · by_cases hdc : c = d
        · subst hdc
          have : u = t ∧ HEq K L := by
            rcases hd with ⟨h, _⟩ | h
            · rw [hc] at h; cases h; exact ⟨rfl, HEq.rfl⟩
            · rw [hc] at h; cases h
          obtain ⟨rfl, hK⟩ := this
          cases hK
          exact R2.1 c l u K hl (.inr (by rw [List.getElem?_set_self hclt]))
        · refine R2.1 d l u K hl ?_
          rw [List.getElem?_set_ne hdc]
          rcases hd with ⟨h, hz⟩ | h
          · simp at hz
            rcases hz with rfl | hz
            · exact absurd rfl hdc
            · exact .inl ⟨h, hz⟩
          · exact .inr h
      · by_cases hdc : c = d
        · subst hdc; rw [hc] at hd; cases hd
        · refine R2.2 d l cells ty hl (by rw [List.getElem?_set_ne hdc]; exact hd) ?_
          simp at hz
          rcases hz with rfl | hz
          · exact absurd rfl hdc
          · exact hz
    · rename_i cells0 ty0 hc
      have hclt : c < cs.length := by
        rcases Nat.lt_or_ge c cs.length with h | h
        · exact h
        · rw [List.getElem?_eq_none h] at hc; cases hc
      obtain ⟨m1, Bs1, E1, M1, e1, H1⟩ := M.freezeB hc
      rw [setNth_eq]
      obtain ⟨m2, Bs2, E2, M2, R2, S2⟩ := ih M1
      refine ⟨m2, Bs2, E1.trans E2, M2, ⟨fun d l u K hl hd => ?_, fun d l cells ty hl hd hz => ?_⟩, ?_⟩
      · by_cases hdc : c = d
        · subst hdc
          rcases hd with ⟨h, _⟩ | h
          · rw [hc] at h; cases h
          · rw [hc] at h; cases h
        · refine R2.1 d l u K hl ?_
          rw [List.getElem?_set_ne hdc]
          rcases hd with ⟨h, hz⟩ | h
          · simp at hz
            rcases hz with rfl | hz
            · exact absurd rfl hdc
            · exact .inl ⟨h, hz⟩
          · exact .inr h
      · by_cases hdc : c = d
        · subst hdc
          rw [hc] at hd; cases hd
          obtain ⟨b, us, q1, q2, q3⟩ := H1 l hl
          refine ⟨b, us, q1, SV.rels_ext E2 q2, fun j hj => ?_⟩
          rw [List.getElem?_eq_getElem hj]
          exact E2.m _ _ _ (by rw [q3 j hj, List.getElem?_eq_getElem hj])
        · refine R2.2 d l cells ty hl (by rw [List.getElem?_set_ne hdc]; exact hd) ?_
          simp at hz
          rcases hz with rfl | hz
          · exact absurd rfl hdc
          · exact hz
      · intro i B h
        obtain ⟨B0, h1, h2⟩ := S2 i B h
        subst e1
        by_cases hci : c = i
        · subst hci
          rw [List.getElem?_set_self (by rw [M.nB]; exact hclt)] at h1
          cases h1
          exact ⟨Bs[c]'(by rw [M.nB]; exact hclt), List.getElem?_eq_getElem _, fun b hb => by have := h2 b hb; simp at this⟩
        · rw [List.getElem?_set_ne hci] at h1
          exact ⟨B0, h1, h2⟩
    · rename_i hno hnb
      obtain ⟨m2, Bs2, E2, M2, R2, S2⟩ := ih M
      refine ⟨m2, Bs2, E2, M2, ⟨fun d l u K hl hd => ?_, fun d l cells ty hl hd hz => ?_⟩, S2⟩
      · refine R2.1 d l u K hl ?_
        rcases hd with ⟨h, hz⟩ | h
        · simp at hz
          rcases hz with rfl | hz
          · exact absurd h (hno u K)
          · exact .inl ⟨h, hz⟩
        · exact .inr h
      · refine R2.2 d l cells ty hl hd ?_
        simp at hz
        rcases hz with rfl | hz
        · exact absurd hd (hnb cells ty)
        · exact hz
theorem Mem.freeze (z : List Nat) {m : Mm} {Bs : List (List Nat)} {cs : List Chunk} (M : Mem bs m ls Bs cs w) :
    ∃ m' Bs', Ext m ls m' ls ∧ Mem bs m' ls Bs' (freeze cs z) w ∧ Reads m' ls cs z := by
  obtain ⟨m', Bs', h1, h2, h3, _⟩ := M.freeze2 z
  exact ⟨m', Bs', h1, h2, h3⟩

theorem get_lt {α : Type} {l : List α} {i : Nat} {a : α} (h : l[i]? = some a) : i < l.length := by
  rcases Nat.lt_or_ge i l.length with h' | h'
  · exact h'
  · rw [List.getElem?_eq_none h'] at h; cases h

/-- A part of an own slice, told as an own one. -/
theorem Mem.settle (M : Mem bs m ls Bs cs w) {c lo n : Nat} {t : Ty} {L : List t.den} {l : Loc} {A : Option Addr} (hc : cs[c]? = some (.own t L)) (hl : ls[c]? = some l) (hlo : lo + n ≤ l.len) (hA : lo < l.cap → A = l.A.map (·.add (lo * l.w))) :
    ∃ Bs', Mem bs m (ls ++ [⟨A, n, l.cap - lo, l.w⟩]) Bs' (cs.set c .gone ++ [.own t (List.take n (List.drop lo L))]) w ∧ Bs'.length = cs.length + 1 := by
  obtain ⟨l', B, hl', hB, hh⟩ := M.at hc
  rw [hl] at hl'; cases hl'
  simp only [Chunk.holds] at hh
  obtain ⟨h0, h1, h2, h3, h⟩ := hh
  have hclt := get_lt hc
  have M1 := M.upd (B' := []) (c' := .gone) hB hl (Touch.refl _ _) (by simp) (by simp only [Chunk.holds])
  have hlen : (List.take n (List.drop lo L)).length = n := by simp; omega
  rcases h with ⟨hcap, rfl⟩ | ⟨g, o, cs', e, hA', rfl, hheap, hroom, hall⟩
  · refine ⟨_, M1.add (B := []) (by simp) ?_, by simp [M.nB]⟩
    simp only [Chunk.holds]
    exact ⟨h0, h1, by rw [hlen], by rw [hlen]; omega, .inl ⟨by omega, trivial⟩⟩
  · by_cases hcl : lo < l.cap
    · have hA := hA hcl
      rw [hA'] at hA
      simp only [Option.map_some, Addr.add_none] at hA
      refine ⟨_, M1.add (B := [g]) ?_ ?_, by simp [M.nB]⟩
      · intro b hb
        simp at hb
        subst hb
        have hf := M.fresh c [b] hB b (by simp)
        refine ⟨hf.1, hf.2.1, hf.2.2, fun j B' hj hbB => ?_⟩
        by_cases hcj : c = j
        · subst hcj
          rw [List.getElem?_set_self (by rw [M.nB]; exact hclt)] at hj; cases hj; simp at hbB
        · rw [List.getElem?_set_ne hcj] at hj
          exact M.apart c j [b] B' hB hj hcj b (by simp) hbB
      · simp only [Chunk.holds]
        refine ⟨h0, h1, by rw [hlen], by rw [hlen]; omega, .inr ⟨g, o + lo * t.width, cs', e, by rw [hA, h1], rfl, hheap, ?_, fun i hi => ?_⟩⟩
        · have : (l.cap - lo) * t.width + lo * t.width = l.cap * t.width := by rw [← Nat.add_mul]; congr 1; omega
          omega
        · rw [hlen] at hi
          obtain ⟨us, r1, r2⟩ := hall (lo + i) (by omega)
          refine ⟨us, ?_, fun j hj => ?_⟩
          · have : List.get (List.take n (List.drop lo L)) ⟨i, by rw [hlen]; exact hi⟩ = List.get L ⟨lo + i, by omega⟩ := by simp
            rw [this]; exact r1
          · rw [← r2 j hj]; congr 1; rw [Nat.add_mul]; omega
    · refine ⟨_, M1.add (B := []) (by simp) ?_, by simp [M.nB]⟩
      simp only [Chunk.holds]
      exact ⟨h0, h1, by rw [hlen], by rw [hlen]; omega, .inl ⟨by omega, trivial⟩⟩

theorem mem_flatten {Bs : List (List Nat)} {b : Nat} : b ∈ Bs.flatten ↔ ∃ i : Nat, ∃ B, Bs[i]? = some B ∧ b ∈ B := by
  rw [List.mem_flatten]
  constructor
  · rintro ⟨B, h1, h2⟩
    obtain ⟨i, hi, rfl⟩ := List.getElem_of_mem h1
    exact ⟨i, _, List.getElem?_eq_getElem hi, h2⟩
  · rintro ⟨i, B, h1, h2⟩
    exact ⟨B, List.mem_of_getElem? h1, h2⟩

/-- The same memory over its own base. -/
theorem Mem.rebase (M : Mem bs m ls Bs cs w) : Mem ⟨w, m, Bs.flatten, ls⟩ m ls Bs cs w := by
  refine ⟨rfl, rfl, rfl, Nat.le_refl _, fun _ _ _ => rfl, fun _ _ _ h => h, fun _ _ _ h => .inl h, M.mle, fun _ _ h => h, M.nl, M.nB, M.holds, M.apart, ?_⟩
  intro i B h b hb
  have := M.fresh i B h b hb
  exact ⟨this.1, .inr (mem_flatten.2 ⟨i, B, h, hb⟩), this.2.2⟩

/-- And back. -/
theorem Mem.unbase {m' : Mm} {ls' : List Loc} {Bs' : List (List Nat)} {cs' : List Chunk} (M : Mem bs m ls Bs cs w) (M' : Mem ⟨w, m, Bs.flatten, ls⟩ m' ls' Bs' cs' w') : Mem bs m' ls' Bs' cs' w' := by
  have fl : ∀ b, b ∈ Bs.flatten → b < w.heap.size ∧ (bs.w0.heap.size ≤ b ∨ b ∈ bs.lent) ∧ ∀ o, m b o = none := by
    intro b hb
    obtain ⟨i, B, h1, h2⟩ := mem_flatten.1 hb
    exact M.fresh i B h1 b h2
  refine ⟨M'.os.trans M.os, M'.tape.trans M.tape, M'.output.trans M.output, Nat.le_trans M.size M'.size, ?_, fun b o v h => M'.m0 b o v (M.m0 b o v h), ?_, M'.mle, fun i l h => M'.pre i l (M.pre i l h), M'.nl, M'.nB, M'.holds, M'.apart, ?_⟩
  · intro b hb hn
    rw [M'.old b (Nat.lt_of_lt_of_le hb M.size) (fun hf => ?_), M.old b hb hn]
    rcases (fl b hf).2.1 with h | h
    · omega
    · exact hn h
  · intro b o v h
    rcases M'.mnew b o v h with h1 | h1 | h1
    · exact M.mnew b o v h1
    · exact .inr (.inl (Nat.le_trans M.size h1))
    · exact .inr (fl b h1).2.1
  · intro i B h b hb
    obtain ⟨h1, h2, h3⟩ := M'.fresh i B h b hb
    refine ⟨h1, ?_, h3⟩
    rcases h2 with h2 | h2
    · exact .inl (Nat.le_trans M.size h2)
    · exact (fl b h2).2.1
end
end Go.Proofs.YtfkilmmldjajmaaSx
