/- Words of this session's hand: what a call's argument that can be read as data says as a kind of the print's (lists, numbers, structs), with each number of its kind and each slice within the reach. No conditions. -/
import Derived.OpenShut
import Derived.Test.YtaaibckhpbmbeaaVCodeSyncWords
import Derived.SizedLaws
import Derived.Deep.Slices
import Derived.ProofKit
import Derived.DataElems
namespace Go.Proofs.YtaaibckhpbmbeaaW.PrintOpen
open Go.RowKit Go.Proofs.YtaaibckhpbmbeaaW.PrintWords
/-- Whatever reads as data of type t, by cells, is a value of kind d that is ok. -/
def Op {α : Type} (P : Program) (W : World) (t : TypeId) (d : Kd α) (ok : α → Prop) : Prop :=
  ∀ (H : Type) (enc : TypeId × Value → H) (fuel : Nat) (cs : List Value) (x : DataW H × List MemPlace), DataW.trod enc P W 0 (fun _ => true) true fuel t cs = some x → ((DataW.weights P t x.1).all (· ≤ reachBytes) = true) → ∃ y, d.K W y cs ∧ ok y
theorem op_int {P : Program} {W : World} {t : TypeId} {k : IntKind} (ht : P.underlying t = some (.int k)) : Op P W t (Kd.int k) (fun y => (Lit.int k y).wf = true) := by
  intro H enc fuel cs x h _
  obtain ⟨n, hc, _, hw⟩ := DataW.trod_int ht h
  exact ⟨n, hc, hw⟩
theorem wall {H : Type} {P : Program} {e : TypeId} : ∀ (l : List (DataW H)) (d : DataW H), d ∈ l → ∀ n ∈ DataW.weights P e d, n ∈ DataW.weightsAll P e l
  | [], d, hd, _, _ => by cases hd
  | x :: l, d, hd, n, hn => by
    rw [DataW.weightsAll, List.mem_append]
    rcases List.mem_cons.1 hd with rfl | hd
    · exact .inl hn
    · exact .inr (wall l d hd n hn)
theorem choose_list {α : Type} (R : Nat → α → Prop) : ∀ n, (∀ i, i < n → ∃ y, R i y) → ∃ l : List α, l.length = n ∧ ∀ i y, l[i]? = some y → R i y
  | 0, _ => ⟨[], rfl, fun i y h => by simp at h⟩
  | n + 1, h => by
    obtain ⟨l, hl, hr⟩ := choose_list R n (fun i hi => h i (by omega))
    obtain ⟨y, hy⟩ := h n (by omega)
    refine ⟨l ++ [y], by simp [hl], fun i z hz => ?_⟩
    by_cases hi : i < l.length
    · rw [List.getElem?_append_left hi] at hz; exact hr i z hz
    · have : i = n := by
        have := (List.getElem?_eq_some_iff.1 hz).1
        simp at this
        omega
      subst this
      rw [List.getElem?_append_right (by omega), hl] at hz
      simp at hz
      subst hz
      exact hy
theorem op_slice {α : Type} {P : Program} {W : World} {t e : TypeId} {d : Kd α} {ok : α → Prop} (ht : P.underlying t = some (.slice e)) (hsz : P.cellsOf e = d.sz) (B : Nat) (hB : P.bytesOf e = B) (he : Op P W e d ok) :
    Op P W t (Kd.slice e d) (fun xs => xs.length ≤ 9223372036854775807 ∧ xs.length * B ≤ 140737488351232 ∧ ∀ x ∈ xs, ok x) := by
  intro H enc fuel cs x h hw
  rcases Go.Deep.open_slice ht h with ⟨rfl, _⟩ | ⟨a, len, cap, m, n, D, Pl, rfl, _, hl, hm, hmm, rfl, hx⟩
  · exact ⟨[], ⟨none, 0, rfl, Nat.le_refl _, rfl, by simp, fun h => absurd h (by simp)⟩, by simp, by simp, by simp⟩
  · simp at hmm
    subst hmm
    rw [List.all_eq_true] at hw
    simp only [DataW.weights, ht] at hw
    have h1 := hw _ List.mem_cons_self
    simp only [List.length_map, List.length_range, hB, decide_eq_true_eq, reachBytes] at h1
    have hlen : len * B ≤ 140737488351232 := Nat.le_trans (Nat.mul_le_mul_right _ (by omega)) h1
    obtain ⟨ys, hys, hr⟩ := choose_list (fun i y => ∃ c, W.cells? 0 (a.add (i * P.cellsOf e)) (P.cellsOf e) = some c ∧ d.K W y c ∧ ok y) len (fun i hi => by
      obtain ⟨c, hc, htr⟩ := hx i (by omega)
      obtain ⟨y, hk, hok⟩ := he H enc n c _ htr (by
        rw [List.all_eq_true]
        intro q hq
        refine hw q (List.mem_cons_of_mem _ (List.mem_append_left _ (wall _ (D i) (List.mem_map.2 ⟨i, List.mem_range.2 hi, rfl⟩) q hq)))
        )
      exact ⟨y, c, hc, hk, hok⟩)
    have hlen63 : ys.length ≤ 9223372036854775807 := by rw [hys]; exact Nat.le_trans hl hm
    refine ⟨ys, ⟨some a, _, by rw [hys], by rw [hys]; exact hl, rfl, hlen63, fun _ => ⟨a, rfl, fun j p hj => ?_⟩⟩, hlen63, by rw [hys]; exact hlen, fun y hy => ?_⟩
    · obtain ⟨c, hc, hk, _⟩ := hr j p hj
      rw [hsz] at hc
      obtain ⟨hb, hl2, hcell⟩ := World.cells?_some hc
      refine ⟨c, hl2, hk, fun i u hu => ?_⟩
      have hi : i < c.length := (List.getElem?_eq_some_iff.1 hu).1
      have := hcell i (by omega)
      rw [hu] at this
      rw [← Addr.add_add]
      exact this
    · obtain ⟨i, hi⟩ := List.getElem?_of_mem hy
      obtain ⟨_, _, _, hok⟩ := hr i y hi
      exact hok
/-- A struct's fields from a place on. -/
def OpF {α : Type} (P : Program) (W : World) (fs : List Field) (off : Nat) (d : Kd α) (ok : α → Prop) : Prop :=
  ∀ (H : Type) (enc : TypeId × Value → H) (n : Nat) (cs : List Value) (xs : List (DataW H × List MemPlace)), cs.length = off + d.sz → xs.length = fs.length →
    (∀ (i : Nat) (f : Field) (x : DataW H × List MemPlace), fs[i]? = some f → xs[i]? = some x → DataW.trod enc P W 0 (fun _ => true) true n f.type ((cs.drop f.offset).take (P.cellsOf f.type)) = some x ∧ ((DataW.weights P f.type x.1).all (· ≤ reachBytes) = true)) → ∃ y, d.K W y (cs.drop off) ∧ ok y
theorem opf_last {α : Type} {P : Program} {W : World} {f : Field} {off : Nat} {d : Kd α} {ok : α → Prop} (ho : f.offset = off) (hsz : P.cellsOf f.type = d.sz) (h : Op P W f.type d ok) : OpF P W [f] off d ok := by
  intro H enc n cs xs hl hx hf
  match xs, hx with
  | [x], _ =>
    obtain ⟨ht, hw⟩ := hf 0 f x rfl rfl
    obtain ⟨y, hk, hok⟩ := h H enc n _ x ht hw
    rw [ho, hsz, List.take_of_length_le (by rw [List.length_drop]; omega)] at hk
    exact ⟨y, hk, hok⟩
theorem opf_cons {α β : Type} {P : Program} {W : World} {f : Field} {fs : List Field} {off : Nat} {a : Kd α} {b : Kd β} {oka : α → Prop} {okb : β → Prop} (ho : f.offset = off) (hsz : P.cellsOf f.type = a.sz) (h : Op P W f.type a oka) (hr : OpF P W fs (off + a.sz) b okb) :
    OpF P W (f :: fs) off (Kd.pair a b) (fun y => oka y.1 ∧ okb y.2) := by
  intro H enc n cs xs hl hx hf
  match xs, hx with
  | x :: xs, hx =>
    obtain ⟨ht, hw⟩ := hf 0 f x rfl rfl
    obtain ⟨y, hk, hok⟩ := h H enc n _ x ht hw
    have hl' : cs.length = off + (a.sz + b.sz) := hl
    obtain ⟨z, hz, hokz⟩ := hr H enc n cs xs (by omega) (by simpa using hx) (fun i g u hg hu => hf (i + 1) g u hg hu)
    refine ⟨(y, z), ⟨(cs.drop off).take a.sz, cs.drop (off + a.sz), ?_, ?_, hz⟩, hok, hokz⟩
    · rw [← List.drop_drop, List.take_append_drop]
    · rw [ho, hsz] at hk; exact hk
theorem weach {H : Type} {P : Program} : ∀ (ts : List TypeId) (ds : List (DataW H)) (i : Nat) (t : TypeId) (d : DataW H), ts[i]? = some t → ds[i]? = some d → ∀ n ∈ DataW.weights P t d, n ∈ DataW.weightsEach P ts ds
  | [], _, i, t, d, ht, _, _, _ => by simp at ht
  | _ :: _, [], i, t, d, _, hd, _, _ => by simp at hd
  | t0 :: ts, d0 :: ds, 0, t, d, ht, hd, n, hn => by
    simp at ht hd
    subst ht hd
    rw [DataW.weightsEach, List.mem_append]
    exact .inl hn
  | t0 :: ts, d0 :: ds, i + 1, t, d, ht, hd, n, hn => by
    rw [DataW.weightsEach, List.mem_append]
    exact .inr (weach ts ds i t d (by simpa using ht) (by simpa using hd) n hn)
theorem op_struct {α β : Type} {P : Program} {W : World} {t : TypeId} {fs : Array Field} {d : Kd α} {ok : α → Prop} (ht : P.underlying t = some (.struct fs)) (hsz : P.cellsOf t = d.sz) (h : OpF P W fs.toList 0 d ok) (proj : β → α) (mk : α → β) (hpm : ∀ y, proj (mk y) = y) :
    Op P W t (Kd.iso d proj) (fun s => ok (proj s)) := by
  intro H enc fuel cs x hx hw
  obtain ⟨xs, n, rfl, rfl, hl, hxl, hf⟩ := DataW.trod_struct ht hx
  rw [List.all_eq_true] at hw
  simp only [DataW.weights, ht] at hw
  obtain ⟨y, hk, hok⟩ := h H enc n cs xs (by rw [hl, hsz, Nat.zero_add]) (by simpa using hxl) (fun i f u hfi hu => by
    refine ⟨(hf i f (by simpa using hfi)).trans hu, ?_⟩
    rw [List.all_eq_true]
    intro q hq
    exact hw q (weach _ _ i f.type u.1 (by simp only [List.getElem?_map, hfi, Option.map_some]) (by simp only [List.getElem?_map, hu, Option.map_some]) q hq))
  refine ⟨mk y, ?_, ?_⟩
  · show d.K W (proj (mk y)) cs
    rw [hpm]
    exact hk
  · show ok (proj (mk y))
    rw [hpm]; exact hok
/-- An array's elements, as fields that lie one behind the other. -/
def arrF (e c n : Nat) : List Field := (List.range n).map (fun i => ⟨default, e, i * c, false, default, default, 0⟩)
/-- An argument of a row, opened. -/
theorem opened {α : Type} {P : Program} {W : World} {t : TypeId} {d : Kd α} {ok : α → Prop} (h : Op P W t d ok) {H : Type} {enc : TypeId × Value → H} {v : Value} {x : DataW H} {ps : List MemPlace} (hv : DataW.Trod enc P W 0 (fun _ => true) true t v x ps)
    {ts : List TypeId} {ds : List (DataW H)} (hw : (DataW.weightsEach P ts ds).all (· ≤ reachBytes) = true) (i : Nat) (hti : ts[i]? = some t) (hdi : ds[i]? = some x) : ∃ y, d.K W y v.cells.toList ∧ ok y := by
  obtain ⟨fuel, hf⟩ := hv
  refine h H enc fuel _ _ hf ?_
  rw [List.all_eq_true] at hw ⊢
  exact fun q hq => hw q (weach _ _ i t x hti hdi q hq)
end Go.Proofs.YtaaibckhpbmbeaaW.PrintOpen
