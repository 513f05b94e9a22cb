/- Calls by contracts. -/
import Derived.Test.YtfkilmmldjajmaaSxM
namespace Go.Proofs.YtfkilmmldjajmaaSx
open Go
set_option linter.unusedVariables false
set_option linter.unusedSimpArgs false

section
variable {bs : Base} {m : Mm} {ls : List Loc} {Bs : List (List Nat)} {cs : List Chunk} {w : World}

theorem Mem.nopre (M : Mem bs m ls Bs cs w) : Mem { bs with ls0 := [] } m ls Bs cs w :=
  ⟨M.os, M.tape, M.output, M.size, M.old, M.m0, M.mnew, M.mle, fun i l h => by simp at h, M.nl, M.nB, M.holds, M.apart, M.fresh⟩

/-- Behind a call: what came back, in its place. -/
theorem Mem.back {mK m1 m' mF : Mm} {BsK B1 Bs' : List (List Nat)} {ls1 ls' : List Loc} {csK out : List Chunk} {w' : World} {l : List Nat} (MK : Mem bs mK ls BsK csK w)
    (hnd : l.Nodup) (hl1 : ls1.length = l.length)
    (hl : ∀ (i : Nat) c, l[i]? = some c → c < csK.length ∧ ls1[i]? = ls[c]? ∧ ∀ B, B1[i]? = some B → ∃ B0, BsK[c]? = some B0 ∧ ∀ b ∈ B, b ∈ B0) (hB1 : B1.length = l.length)
    (M' : Mem ⟨w, m1, B1.flatten, ls1⟩ m' ls' Bs' out w') (hKF : ∀ b o v, mK b o = some v → mF b o = some v) (hF' : ∀ b o v, mF b o = some v → m' b o = some v)
    (hmF : ∀ b o v, mF b o = some v → mK b o = some v ∨ w.heap.size ≤ b ∨ b ∈ B1.flatten)
    (hold : ∀ (i : Nat) c lo B, out[i]? = some c → ls'[i]? = some lo → Bs'[i]? = some B → c.holds mF ls' w' lo B) :
    let ρ := app l (upTo out.length csK.length)
    let lsN := placeG ls l ls'
    Ext mK ls mF lsN ∧ (∀ i lo, ls'[i]? = some lo → lsN[rho ρ i]? = some lo) ∧ Mem bs mF lsN (placeG BsK l Bs') (placeG csK l (out.map (Chunk.ren ρ))) w' := by
  intro ρ lsN
  have hlb : ∀ c ∈ l, c < csK.length := fun c hc => by
    obtain ⟨i, hi, rfl⟩ := List.getElem_of_mem hc
    exact (hl i _ (List.getElem?_eq_getElem hi)).1
  have hk : l.length ≤ out.length := by
    rw [← M'.nl, ← hl1]
    rcases Nat.lt_or_ge ls'.length ls1.length with h | h
    · have h2 := M'.pre ls'.length ls1[ls'.length] (List.getElem?_eq_getElem h)
      simp at h2
    · exact h
  -- a kept block is none of the lent ones
  have kept : ∀ (c : Nat) B b, c ∉ l → BsK[c]? = some B → b ∈ B → b ∉ B1.flatten := by
    intro c B b hc hB hb hf
    obtain ⟨i, B', h1, h2⟩ := mem_flatten.1 hf
    have hi : i < l.length := by rw [← hB1]; exact get_lt h1
    obtain ⟨_, _, h3⟩ := hl i _ (List.getElem?_eq_getElem hi)
    obtain ⟨B0, h4, h5⟩ := h3 B' h1
    exact MK.apart c _ B B0 hB h4 (fun e => hc (e ▸ List.getElem_mem hi)) b hb (h5 b h2)
  have lent : ∀ b, b ∈ B1.flatten → b < w.heap.size ∧ (bs.w0.heap.size ≤ b ∨ b ∈ bs.lent) := by
    intro b hf
    obtain ⟨i, B', h1, h2⟩ := mem_flatten.1 hf
    have hi : i < l.length := by rw [← hB1]; exact get_lt h1
    obtain ⟨_, _, h3⟩ := hl i _ (List.getElem?_eq_getElem hi)
    obtain ⟨B0, h4, h5⟩ := h3 B' h1
    have := MK.fresh _ B0 h4 b (h5 b h2)
    exact ⟨this.1, this.2.1⟩
  have newb : ∀ (i : Nat) B b, Bs'[i]? = some B → b ∈ B → (w.heap.size ≤ b ∨ b ∈ B1.flatten) := fun i B b h hb => (M'.fresh i B h b hb).2.1
  have R : ∀ i lo, ls'[i]? = some lo → lsN[rho ρ i]? = some lo := by
    intro i lo h
    have hi : i < out.length := by rw [← M'.nl]; exact get_lt h
    rw [rho_get (n := csK.length) (k := out.length) MK.nl M'.nl hk hnd hlb hi]; exact h
  have RB : ∀ i, i < out.length → (placeG BsK l Bs')[rho ρ i]? = Bs'[i]? := fun i hi => rho_get (n := csK.length) (k := out.length) MK.nB M'.nB hk hnd hlb hi
  have RC : ∀ i, i < out.length → (placeG csK l (out.map (Chunk.ren ρ)))[rho ρ i]? = (out.map (Chunk.ren ρ))[i]? := fun i hi => rho_get (n := csK.length) (k := out.length) rfl (by simp) hk hnd hlb hi
  have RL : ∀ i, i < out.length → lsN[rho ρ i]? = ls'[i]? := fun i hi => rho_get (n := csK.length) (k := out.length) MK.nl M'.nl hk hnd hlb hi
  have nL : lsN.length = csK.length + (out.length - l.length) := by
    simp only [lsN]; rw [placeG_len (by rw [M'.nl]; exact hk), MK.nl, M'.nl]
  have nB : (placeG BsK l Bs').length = csK.length + (out.length - l.length) := by rw [placeG_len (by rw [M'.nB]; exact hk), MK.nB, M'.nB]
  have nC : (placeG csK l (out.map (Chunk.ren ρ))).length = csK.length + (out.length - l.length) := by rw [placeG_len (by simpa using hk)]; simp
  have outL : ∀ c, c ∉ l → c < csK.length → lsN[c]? = ls[c]? := fun c h1 h2 => placeG_out h1 (by rw [MK.nl]; exact h2)
  have outB : ∀ c, c ∉ l → c < csK.length → (placeG BsK l Bs')[c]? = BsK[c]? := fun c h1 h2 => placeG_out h1 (by rw [MK.nB]; exact h2)
  have outC : ∀ c, c ∉ l → c < csK.length → (placeG csK l (out.map (Chunk.ren ρ)))[c]? = csK[c]? := fun c h1 h2 => placeG_out h1 h2
  have extL : ∀ (i : Nat) lo, ls[i]? = some lo → lsN[i]? = some lo := by
    intro i lo h
    have hi : i < csK.length := by rw [← MK.nl]; exact get_lt h
    rcases rho_cases (l := l) (n := csK.length) (k := out.length) (c := i) hk (by omega) with ⟨j, hj, hji⟩ | ⟨_, hn⟩
    · obtain ⟨c, hc, hrc⟩ := rho_mem (l := l) (n := csK.length) (k := out.length) hj (by rw [hji]; exact hi)
      have hci : c = i := by rw [← hrc]; exact hji
      subst hci
      obtain ⟨_, h2, _⟩ := hl j c hc
      rw [h] at h2
      have h3 := M'.pre j lo h2
      have h4 := R j lo h3
      rw [show rho ρ j = c from hji] at h4
      exact h4
    · rw [outL i hn hi]; exact h
  have E : Ext mK ls mF lsN := ⟨hKF, extL⟩
  have heap : ∀ b, b < w.heap.size → b ∉ B1.flatten → w'.heap[b]? = w.heap[b]? := fun b h1 h2 => M'.old b h1 h2
  refine ⟨E, R, ⟨M'.os.trans MK.os, M'.tape.trans MK.tape, M'.output.trans MK.output, Nat.le_trans MK.size M'.size, ?_, fun b o v h => hKF b o v (MK.m0 b o v h), ?_, fun b o v h => M'.mle b o v (hF' b o v h), fun i lo h => extL i lo (MK.pre i lo h), by rw [nL, nC], by rw [nB, nC], ?_, ?_, ?_⟩⟩
  · intro b hb hn
    rw [heap b (Nat.lt_of_lt_of_le hb MK.size) (fun hf => ?_), MK.old b hb hn]
    rcases (lent b hf).2 with h | h
    · omega
    · exact hn h
  · intro b o v h
    rcases hmF b o v h with h | h | h
    · exact MK.mnew b o v h
    · exact .inr (.inl (Nat.le_trans MK.size h))
    · exact .inr (lent b h).2
  · intro i c lo B hc hlo hB
    have hi : i < csK.length + (out.length - l.length) := by rw [← nC]; exact get_lt hc
    rcases rho_cases (l := l) (n := csK.length) (k := out.length) (c := i) hk hi with ⟨j, hj, hji⟩ | ⟨hn, hnl⟩
    · have hji' : rho ρ j = i := hji
      rw [← hji', RC j hj] at hc
      rw [← hji', RL j hj] at hlo
      rw [← hji', RB j hj] at hB
      rw [List.getElem?_map] at hc
      cases ho : out[j]? with
      | none => rw [ho] at hc; simp at hc
      | some oc =>
        rw [ho] at hc
        simp only [Option.map_some, Option.some.injEq] at hc
        subst hc
        exact Chunk.ren_holds R (hold j oc lo B ho hlo hB)
    · rw [outC i hnl hn] at hc
      rw [outL i hnl hn] at hlo
      rw [outB i hnl hn] at hB
      exact Chunk.holds_of E (fun b hb => heap b (MK.fresh i B hB b hb).1 (kept i B b hnl hB hb)) (MK.holds i c lo B hc hlo hB)
  · intro i j Bi Bj hBi hBj hij b hbi hbj
    have hi : i < csK.length + (out.length - l.length) := by rw [← nB]; exact get_lt hBi
    have hj : j < csK.length + (out.length - l.length) := by rw [← nB]; exact get_lt hBj
    have mixed : ∀ (a c : Nat) Ba Bc, Bs'[a]? = some Ba → c ∉ l → BsK[c]? = some Bc → b ∈ Ba → b ∈ Bc → False := by
      intro a c Ba Bc ha hc hBc h1 h2
      rcases newb a Ba b ha h1 with h | h
      · have := (MK.fresh c Bc hBc b h2).1; omega
      · exact kept c Bc b hc hBc h2 h
    rcases rho_cases (l := l) (n := csK.length) (k := out.length) (c := i) hk hi with ⟨a, ha, hai⟩ | ⟨hni, hli⟩
    · have hai' : rho ρ a = i := hai
      rw [← hai', RB a ha] at hBi
      rcases rho_cases (l := l) (n := csK.length) (k := out.length) (c := j) hk hj with ⟨a2, ha2, hai2⟩ | ⟨hnj, hlj⟩
      · have hai2' : rho ρ a2 = j := hai2
        rw [← hai2', RB a2 ha2] at hBj
        exact M'.apart a a2 Bi Bj hBi hBj (fun e => hij (by rw [← hai', ← hai2', e])) b hbi hbj
      · rw [outB j hlj hnj] at hBj
        exact mixed a j Bi Bj hBi hlj hBj hbi hbj
    · rw [outB i hli hni] at hBi
      rcases rho_cases (l := l) (n := csK.length) (k := out.length) (c := j) hk hj with ⟨a2, ha2, hai2⟩ | ⟨hnj, hlj⟩
      · have hai2' : rho ρ a2 = j := hai2
        rw [← hai2', RB a2 ha2] at hBj
        exact mixed a2 i Bj Bi hBj hli hBi hbj hbi
      · rw [outB j hlj hnj] at hBj
        exact MK.apart i j Bi Bj hBi hBj hij b hbi hbj
  · intro i B hB b hb
    have hi : i < csK.length + (out.length - l.length) := by rw [← nB]; exact get_lt hB
    rcases rho_cases (l := l) (n := csK.length) (k := out.length) (c := i) hk hi with ⟨a, ha, hai⟩ | ⟨hn, hnl⟩
    · have hai' : rho ρ a = i := hai
      rw [← hai', RB a ha] at hB
      have hf := M'.fresh a B hB b hb
      refine ⟨hf.1, ?_, fun o => ?_⟩
      · rcases newb a B b hB hb with h | h
        · exact .inl (Nat.le_trans MK.size h)
        · exact (lent b h).2
      · cases hq : mF b o with
        | none => rfl
        | some v => have := hF' b o v hq; rw [hf.2.2 o] at this; cases this
    · rw [outB i hnl hn] at hB
      have hf := MK.fresh i B hB b hb
      refine ⟨Nat.lt_of_lt_of_le hf.1 M'.size, hf.2.1, fun o => ?_⟩
      cases hq : mF b o with
      | none => rfl
      | some v =>
        rcases hmF b o v hq with h | h | h
        · rw [hf.2.2 o] at h; cases h
        · omega
        · exact (kept i B b hnl hB hb h).elim
end
end Go.Proofs.YtfkilmmldjajmaaSx
