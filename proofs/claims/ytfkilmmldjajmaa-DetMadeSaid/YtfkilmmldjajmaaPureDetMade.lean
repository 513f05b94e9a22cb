import Derived.Test.YtfkilmmldjajmaaGDetMade
import Derived.Test.YtfkilmmldjajmaaSxW
import Derived.Test.YtfkilmmldjajmaaSxV2
set_option linter.unusedVariables false
namespace Go.Proofs.YtfkilmmldjajmaaSx
/-- With enough fuel. -/
def Ev {α : Type} (g : Nat → Option α) (r : α) : Prop := ∃ k0, ∀ k, k0 ≤ k → g k = some r
theorem Ev.now {α : Type} (r : α) : Ev (fun _ => some r) r := ⟨0, fun _ _ => rfl⟩
theorem Ev.all {α : Type} {g : Nat → Option α} {r : α} (h : ∀ k, g k = some r) : Ev g r := ⟨0, fun k _ => h k⟩
theorem Ev.step {α : Type} {g h : Nat → Option α} {r : α} (e : ∀ k, g (k + 1) = h k) (H : Ev h r) : Ev g r := by
  obtain ⟨k0, H⟩ := H
  refine ⟨k0 + 1, fun k hk => ?_⟩
  obtain ⟨k, rfl⟩ : ∃ j, k = j + 1 := ⟨k - 1, by omega⟩
  rw [e]; exact H _ (by omega)
theorem Ev.bind {α β : Type} {g : Nat → Option α} {h : Nat → α → Option β} {x : α} {r : β} (G : Ev g x) (H : Ev (fun k => h k x) r) : Ev (fun k => (g k).bind (h k)) r := by
  obtain ⟨a, G⟩ := G
  obtain ⟨b, H⟩ := H
  refine ⟨max a b, fun k hk => ?_⟩
  show (g k).bind (h k) = some r
  rw [G k (by omega)]; exact H k (by omega)
theorem Ev.get {α : Type} {g : Nat → Option α} {r : α} (H : Ev g r) : ∃ k, g k = some r := H.elim fun k0 H => ⟨k0, H k0 (Nat.le_refl _)⟩
theorem Ev.cast {α : Type} {g : Nat → Option α} {r r' : α} (H : Ev g r) (e : r = r') : Ev g r' := e ▸ H

theorem wr64 (n : Int) (h0 : -9223372036854775808 ≤ n) (h1 : n < 9223372036854775808) : IntKind.i64.wrap n = n := by rw [IntKind.wrap_i64]; omega
theorem wrSucc (i : Nat) (h : i < 1000000000) : IntKind.i64.wrap ((i : Int) + 1) = ((i + 1 : Nat) : Int) := by rw [wr64] <;> omega
theorem rd_nat {α : Type} (d : α) (w : List α) (i : Nat) : rd d w (i : Int) = w.getD i d := by simp [rd]
theorem drop_getD {α : Type} (d : α) (w : List α) (i : Nat) (h : i < w.length) : w.drop i = w.getD i d :: w.drop (i + 1) := by
  rw [List.drop_eq_getElem_cons h]; simp [List.getD, h]
theorem short (n : Nat) (h : n < 1000000000) : Nat.blt n 1000000000 = true := Nat.ble_eq_true_of_le (by omega)
theorem fits (n b : Nat) (hb : b ≤ 1000) (h : n < 100000000000) : fitsIn n b = true := by
  have h1 : n * b ≤ 100000000000 * 1000 := Nat.mul_le_mul (by omega) hb
  exact Nat.ble_eq_true_of_le (by omega)
end Go.Proofs.YtfkilmmldjajmaaSx
namespace Go.Proofs.YtfkilmmldjajmaaSx.DC
/-- An automaton that may be (somewhat more states than a checked one). -/
structure Fit (A s : Int) (N : List (List Int)) (M : List Int) : Prop where
  a1 : 1 ≤ A
  a4 : A ≤ 4
  n1 : 1 ≤ N.length
  n3 : N.length ≤ 4000
  m : M.length = N.length
  row : ∀ q, q < N.length → ((N.getD q []).length : Int) = A
  s : 0 ≤ s ∧ s < (N.length : Int)
  ent : ∀ q, q < N.length → ∀ a : Nat, (a : Int) < A → 0 ≤ (N.getD q []).getD a 0 ∧ (N.getD q []).getD a 0 < (N.length : Int)
  mark : ∀ q, q < N.length → M.getD q 0 = 0 ∨ M.getD q 0 = 1
end Go.Proofs.YtfkilmmldjajmaaSx.DC
namespace Go.Proofs.YtfkilmmldjajmaaSx.DC
/-! Keys: two bytes a number. -/
def encB (x : Int) : List Int := [IntKind.u8.wrap x, IntKind.u8.wrap (x.fdiv (2 ^ min (Int.toNat 8) IntKind.i64.bits))]
theorem strOf_data (L : List Int) : ∀ r : ByteArray, (L.foldl (fun r n => r.push (UInt8.ofNat n.toNat)) r).data.toList = r.data.toList ++ L.map fun n => UInt8.ofNat n.toNat := by
  induction L with
  | nil => intro r; simp
  | cons a L ih => intro r; rw [List.foldl_cons, ih]; simp [ByteArray.push]
theorem wrap_u8 (x : Int) : IntKind.u8.wrap x = x % 256 := by
  simp [IntKind.wrap, IntKind.signed, IntKind.bits]
theorem enc_eq (x : Int) : encB x = [x % 256, (x / 256) % 256] := by
  have e : (2 : Int) ^ min (Int.toNat 8) IntKind.i64.bits = 256 := by decide
  rw [encB, wrap_u8, wrap_u8, e, Int.fdiv_eq_ediv_of_nonneg _ (by decide)]
theorem enc_inj : ∀ u v : List Int, u.length = v.length → (∀ x ∈ u, 0 ≤ x ∧ x < 65536) → (∀ x ∈ v, 0 ≤ x ∧ x < 65536) → (u.flatMap encB).map (fun n => UInt8.ofNat n.toNat) = (v.flatMap encB).map (fun n => UInt8.ofNat n.toNat) → u = v := by
  intro u
  induction u with
  | nil => intro v h _ _ _; cases v with
    | nil => rfl
    | cons => simp at h
  | cons a u ih =>
    intro v h hu hv e
    cases v with
    | nil => simp at h
    | cons b v =>
      have ha := hu a List.mem_cons_self
      have hb := hv b List.mem_cons_self
      rw [List.flatMap_cons, List.flatMap_cons, List.map_append, List.map_append, enc_eq, enc_eq] at e
      simp only [List.map_cons, List.map_nil, List.cons_append, List.nil_append, List.cons.injEq] at e
      have e1 := congrArg UInt8.toNat e.1
      have e2 := congrArg UInt8.toNat e.2.1
      have e3 := ih v (by simpa using h) (fun x hx => hu x (List.mem_cons_of_mem _ hx)) (fun x hx => hv x (List.mem_cons_of_mem _ hx)) e.2.2
      have t : ∀ n : Nat, n < 256 → (UInt8.ofNat n).toNat = n := by intro n hn; simp; omega
      rw [t _ (by omega), t _ (by omega)] at e1
      rw [t _ (by omega), t _ (by omega)] at e2
      rw [e3, show a = b by omega]
def text (u : List Int) : ByteArray := strOf (u.flatMap encB)
theorem text_inj {u v : List Int} (h : u.length = v.length) (hu : ∀ x ∈ u, 0 ≤ x ∧ x < 65536) (hv : ∀ x ∈ v, 0 ≤ x ∧ x < 65536) : text u = text v ↔ u = v := by
  refine ⟨fun e => enc_inj u v h hu hv ?_, fun e => e ▸ rfl⟩
  have e1 := congrArg (fun b : ByteArray => b.data.toList) e
  simp only [text, strOf, strOf_data] at e1
  simpa using e1

/-! Maps from keys to numbers in the order of their coming. -/
section
variable {α : Type} {K : Ty} (key : α → K.den)
def numb : Nat → List α → List (K.den × Int)
  | _, [] => []
  | i, a :: l => (key a, (i : Int)) :: numb (i + 1) l
theorem numb_len : ∀ (l : List α) (i : Nat), (numb key i l).length = l.length := by
  intro l
  induction l with
  | nil => intro i; rfl
  | cons a l ih => intro i; rw [numb, List.length_cons, List.length_cons, ih]
theorem numb_get (x : K.den) : ∀ (l : List α) (i : Nat), mget K (.int .i64) (numb key i l) x = if l.findIdx (fun a => K.beq x (key a)) < l.length then ((i + l.findIdx (fun a => K.beq x (key a)) : Nat) : Int) else (0 : Int) := by
  intro l
  induction l with
  | nil => intro i; rfl
  | cons a l ih =>
    intro i
    rw [List.findIdx_cons, List.length_cons]
    show (bif K.beq x (key a) then (i : Int) else mget K (.int .i64) (numb key (i + 1) l) x) = _
    cases h : K.beq x (key a) with
    | true => simp
    | false =>
      rw [cond_false, cond_false, ih]
      by_cases hl : l.findIdx (fun a => K.beq x (key a)) < l.length
      · rw [if_pos hl, if_pos (by omega)]; congr 1; omega
      · rw [if_neg hl, if_neg (by omega)]
theorem numb_has (x : K.den) : ∀ (l : List α) (i : Nat), mhas K (.int .i64) (numb key i l) x = decide (l.findIdx (fun a => K.beq x (key a)) < l.length) := by
  intro l
  induction l with
  | nil => intro i; rfl
  | cons a l ih =>
    intro i
    rw [List.findIdx_cons, List.length_cons]
    show (bif K.beq x (key a) then true else mhas K (.int .i64) (numb key (i + 1) l) x) = _
    cases h : K.beq x (key a) with
    | true => simp
    | false => rw [cond_false, cond_false, ih]; simp
theorem numb_put (b : α) : ∀ (l : List α) (i : Nat), ¬ l.findIdx (fun a => K.beq (key b) (key a)) < l.length → mput K (.int .i64) (numb key i l) (key b) ((i + l.length : Nat) : Int) = numb key i (l ++ [b]) := by
  intro l
  induction l with
  | nil => intro i _; rfl
  | cons a l ih =>
    intro i h
    rw [List.findIdx_cons, List.length_cons] at h
    show (bif K.beq (key b) (key a) then _ else _) = _
    cases hb : K.beq (key b) (key a) with
    | true => rw [hb] at h; simp at h
    | false =>
      rw [hb, cond_false] at h
      rw [cond_false]
      have := ih (i + 1) (by omega)
      rw [show i + 1 + l.length = i + (a :: l).length by simp; omega] at this
      exact congrArg (List.cons (key a, (i : Int))) this
end

/-! The program's row of bytes. -/
variable {A s : Int} {N : List (List Int)} {M : List Int}
theorem bytes10 (F : Fit A s N M) (cl : List Int) (hcl : cl.length = N.length) (count : Int) (q : Nat) (hq : q < N.length) (nu : List ((Int × (ByteArray × Unit)) × Int)) (nx : List Int) (r : List Int)
    (H : Ev (fun k => if mhas (.pair (.int .i64) (.pair .str .unit)) (.int .i64) nu (cl.getD q 0, text ((N.getD q []).map fun t => cl.getD t.toNat 0), ()) = true then
        det_Classes.j18 k count (q : Int) N (N.length : Int) (q : Int) A s N M cl nu nx (cl.getD q 0) (text ((N.getD q []).map fun t => cl.getD t.toNat 0))
      else det_Classes.j18 k count (q : Int) N (N.length : Int) (q : Int) A s N M cl (mput (.pair (.int .i64) (.pair .str .unit)) (.int .i64) nu (cl.getD q 0, text ((N.getD q []).map fun t => cl.getD t.toNat 0), ()) (nu.length : Int)) nx (cl.getD q 0) (text ((N.getD q []).map fun t => cl.getD t.toNat 0))) r) :
    ∀ n a, (N.getD q []).length - a = n → a ≤ (N.getD q []).length → Ev (fun k => det_Classes.l10 k count (q : Int) N (N.length : Int) (q : Int) (N.getD q []) ((N.getD q []).length : Int) (a : Int) A s N M cl nu nx ((((N.getD q []).take a).map fun t => cl.getD t.toNat 0).flatMap encB)) r := by
  have hrow := F.row q hq
  have a4 := F.a4
  have n3 := F.n3
  intro n
  induction n with
  | zero =>
    intro a hn ha
    rw [List.take_of_length_le (by omega)]
    refine Ev.step (fun k => ?_) H
    rw [det_Classes.l10, if_neg (by omega), if_pos (by omega), if_pos (by omega)]
    rfl
  | succ n ih =>
    intro a hn ha
    have he := F.ent q hq a (by omega)
    have c1 : (0 : Int) ≤ (N.getD q []).getD a (Int.ofNat 0) := he.1
    have c2 : (N.getD q []).getD a (Int.ofNat 0) < (cl.length : Int) := by rw [hcl]; exact he.2
    have hsz : ∀ l : List Int, (l.flatMap encB).length = 2 * l.length := by
      intro l
      induction l with
      | nil => rfl
      | cons x l ih => rw [List.flatMap_cons, List.length_append, ih, List.length_cons]; simp only [encB, List.length_cons, List.length_nil]; omega
    have e : (((N.getD q []).take a).map fun t => cl.getD t.toNat 0).flatMap encB ++ encB (cl.getD ((N.getD q []).getD a (Int.ofNat 0)).toNat (Int.ofNat 0)) = (((N.getD q []).take (a + 1)).map fun t => cl.getD t.toNat 0).flatMap encB := by
      rw [List.take_succ_eq_append_getElem (by omega), List.map_append, List.flatMap_append]
      congr 1
      simp only [List.map_cons, List.map_nil, List.flatMap_cons, List.flatMap_nil, List.append_nil]
      rw [List.getD_eq_getElem?_getD (l := N.getD q []), List.getElem?_eq_getElem (by omega)]
      rfl
    refine Ev.step (fun k => ?_) (ih (a + 1) (by omega) (by omega))
    have hs := short ((((N.getD q []).take (a + 1)).map fun t => cl.getD t.toNat 0).flatMap encB).length (by rw [hsz]; simp; omega)
    rw [← e] at hs ⊢
    rw [det_Classes.l10, if_pos (by omega), if_pos (by omega), if_pos (by omega), rd_nat, if_pos c1, if_pos c2, if_pos c1, if_pos c2, if_pos (by decide), wrSucc a (by omega)]
    exact if_pos hs
end Go.Proofs.YtfkilmmldjajmaaSx.DC
namespace Go.Proofs.YtfkilmmldjajmaaSx.DC
variable {A s : Int} {N : List (List Int)} {M : List Int}
/-- The classes of what is next. -/
def nexts (N : List (List Int)) (cl : List Int) (q : Nat) : List Int := (N.getD q []).map fun t => cl.getD t.toNat 0
def sg (N : List (List Int)) (cl : List Int) (q f : Nat) : Bool := decide (cl.getD q 0 = cl.getD f 0) && decide (nexts N cl q = nexts N cl f)
def stepC (N : List (List Int)) (cl : List Int) (st : List Nat × List Int) (q : Nat) : List Nat × List Int :=
  (if st.1.findIdx (sg N cl q) < st.1.length then st.1 else st.1 ++ [q], st.2.set q (st.1.findIdx (sg N cl q) : Nat))
def roundC (N : List (List Int)) (cl : List Int) : Nat → Nat → List Nat × List Int → List Nat × List Int
  | _, 0, st => st
  | q, n + 1, st => roundC N cl (q + 1) n (stepC N cl st q)

abbrev KT' : Ty := .pair (.int .i64) (.pair .str .unit)
def key (N : List (List Int)) (cl : List Int) (f : Nat) : KT'.den := (cl.getD f 0, text (nexts N cl f), ())
structure ClOk (N : List (List Int)) (cl : List Int) : Prop where
  len : cl.length = N.length
  rng : ∀ q, q < N.length → 0 ≤ cl.getD q 0 ∧ cl.getD q 0 < 65536

theorem nexts_len (F : Fit A s N M) (cl : List Int) {q : Nat} (hq : q < N.length) : ((nexts N cl q).length : Int) = A := by rw [nexts, List.length_map]; exact F.row q hq
theorem nexts_rng (F : Fit A s N M) {cl : List Int} (C : ClOk N cl) {q : Nat} (hq : q < N.length) : ∀ x ∈ nexts N cl q, 0 ≤ x ∧ x < 65536 := by
  intro x hx
  obtain ⟨t, ht, rfl⟩ := List.mem_map.1 hx
  obtain ⟨j, hj, e⟩ := List.getElem_of_mem ht
  have := F.ent q hq j (by have := F.row q hq; omega)
  rw [List.getD_eq_getElem?_getD (l := N.getD q []), List.getElem?_eq_getElem hj, Option.getD_some, e] at this
  exact C.rng _ (by omega)
theorem key_beq (F : Fit A s N M) {cl : List Int} (C : ClOk N cl) {q f : Nat} (hq : q < N.length) (hf : f < N.length) : KT'.beq (key N cl q) (key N cl f) = sg N cl q f := by
  have e : KT'.beq (key N cl q) (key N cl f) = bif decide (cl.getD q 0 = cl.getD f 0) then (bif decide (text (nexts N cl q) = text (nexts N cl f)) then true else false) else false := rfl
  rw [e, sg]
  have hl : (nexts N cl q).length = (nexts N cl f).length := by have := nexts_len F cl hq; have := nexts_len F cl hf; omega
  have t := text_inj hl (nexts_rng F C hq) (nexts_rng F C hf)
  by_cases h1 : cl.getD q 0 = cl.getD f 0
  · rw [decide_eq_true h1, cond_true, Bool.true_and]
    by_cases h2 : nexts N cl q = nexts N cl f
    · rw [decide_eq_true h2, decide_eq_true (t.2 h2)]; rfl
    · rw [decide_eq_false h2, decide_eq_false (fun e => h2 (t.1 e))]; rfl
  · rw [decide_eq_false h1]; rfl
theorem findIdx_congr {α : Type} {p p' : α → Bool} : ∀ l : List α, (∀ a ∈ l, p a = p' a) → l.findIdx p = l.findIdx p' := by
  intro l
  induction l with
  | nil => intro _; rfl
  | cons a l ih => intro h; rw [List.findIdx_cons, List.findIdx_cons, h a List.mem_cons_self, ih fun b hb => h b (List.mem_cons_of_mem _ hb)]
theorem sg_self (cl : List Int) (q : Nat) : sg N cl q q = true := by simp [sg]
theorem findIdx_app {α : Type} (p : α → Bool) (b : α) (hb : p b = true) : ∀ l : List α, (l ++ [b]).findIdx p = l.findIdx p := by
  intro l
  induction l with
  | nil => rw [List.nil_append, List.findIdx_cons, hb]; rfl
  | cons a l ih => rw [List.cons_append, List.findIdx_cons, List.findIdx_cons, ih]

theorem prog6 (F : Fit A s N M) (cl : List Int) (C : ClOk N cl) (count : Int) (r : List Int) : ∀ n q Fs nx, N.length - q = n → q ≤ N.length → nx.length = N.length → (∀ f ∈ Fs, f < N.length) →
    Ev (fun k => if (((roundC N cl q n (Fs, nx)).1.length : Nat) : Int) = count then some (roundC N cl q n (Fs, nx)).2 else det_Classes.l3 k (((roundC N cl q n (Fs, nx)).1.length : Nat) : Int) A s N M (roundC N cl q n (Fs, nx)).2) r →
    Ev (fun k => det_Classes.l6 k count N (N.length : Int) (q : Int) A s N M cl (numb (K := KT') (key N cl) 0 Fs) nx) r := by
  have n3 := F.n3
  intro n
  induction n with
  | zero =>
    intro q Fs nx hn hq hx hF H
    refine Ev.step (fun k => ?_) H
    rw [det_Classes.l6, if_neg (by omega), numb_len]
    rfl
  | succ n ih =>
    intro q Fs nx hn hq hx hF H
    have hq' : q < N.length := by omega
    have hidx : Fs.findIdx (fun a => KT'.beq (key N cl q) (key N cl a)) = Fs.findIdx (sg N cl q) := findIdx_congr Fs fun f hf => key_beq F C hq' (hF f hf)
    -- what follows, with the map as it is then
    have fol : ∀ Fs', (∀ f ∈ Fs', f < N.length) → Fs'.findIdx (sg N cl q) < Fs'.length → Fs'.findIdx (sg N cl q) = Fs.findIdx (sg N cl q) → Fs' = (stepC N cl (Fs, nx) q).1 →
        Ev (fun k => det_Classes.j18 k count (q : Int) N (N.length : Int) (q : Int) A s N M cl (numb (K := KT') (key N cl) 0 Fs') nx (cl.getD q 0) (text (nexts N cl q))) r := by
      intro Fs' hF' hlt heq hst
      have hg : mget KT' (.int .i64) (numb (K := KT') (key N cl) 0 Fs') (cl.getD q 0, text (nexts N cl q), ()) = ((Fs.findIdx (sg N cl q) : Nat) : Int) := by
        have := numb_get (K := KT') (key N cl) (key N cl q) Fs' 0
        rw [findIdx_congr Fs' fun f hf => key_beq F C hq' (hF' f hf), if_pos hlt, Nat.zero_add, heq] at this
        exact this
      have h1 := ih (q + 1) Fs' (nx.set q ((Fs.findIdx (sg N cl q) : Nat) : Int)) (by omega) (by omega) (by rw [List.length_set]; exact hx) hF' (by
        have e : (Fs', nx.set q ((Fs.findIdx (sg N cl q) : Nat) : Int)) = stepC N cl (Fs, nx) q := Prod.ext hst rfl
        rw [e]; exact H)
      refine Ev.step (fun k => ?_) h1
      rw [det_Classes.j18, if_pos (by omega), if_pos (by omega), hg, wrSucc q (by omega), Int.toNat_natCast]
    refine Ev.step (h := fun k => det_Classes.l10 k count (q : Int) N (N.length : Int) (q : Int) (N.getD q []) ((N.getD q []).length : Int) 0 A s N M cl (numb (K := KT') (key N cl) 0 Fs) nx []) (fun k => ?_) ?_
    · rw [det_Classes.l6, if_pos (by omega), if_pos (by omega), if_pos (by omega), rd_nat]
    · refine bytes10 F cl C.len count q hq' (numb (K := KT') (key N cl) 0 Fs) nx r ?_ _ 0 rfl (by omega)
      have hh : mhas KT' (.int .i64) (numb (K := KT') (key N cl) 0 Fs) (cl.getD q 0, text (nexts N cl q), ()) = decide (Fs.findIdx (sg N cl q) < Fs.length) := by
        have := numb_has (K := KT') (key N cl) (key N cl q) Fs 0
        rw [hidx] at this; exact this
      show Ev (fun k => if mhas KT' (.int .i64) (numb (K := KT') (key N cl) 0 Fs) (cl.getD q 0, text (nexts N cl q), ()) = true then
        det_Classes.j18 k count (q : Int) N (N.length : Int) (q : Int) A s N M cl (numb (K := KT') (key N cl) 0 Fs) nx (cl.getD q 0) (text (nexts N cl q))
        else det_Classes.j18 k count (q : Int) N (N.length : Int) (q : Int) A s N M cl (mput KT' (.int .i64) (numb (K := KT') (key N cl) 0 Fs) (cl.getD q 0, text (nexts N cl q), ()) ((numb (K := KT') (key N cl) 0 Fs).length : Int)) nx (cl.getD q 0) (text (nexts N cl q))) r
      rw [hh]
      by_cases hk : Fs.findIdx (sg N cl q) < Fs.length
      · simp only [decide_eq_true hk, if_true]
        exact fol Fs hF hk rfl (by rw [stepC, if_pos hk])
      · simp only [decide_eq_false hk, Bool.false_eq_true, if_false]
        have hp : mput KT' (.int .i64) (numb (K := KT') (key N cl) 0 Fs) (cl.getD q 0, text (nexts N cl q), ()) (((numb (K := KT') (key N cl) 0 Fs).length : Nat) : Int) = numb (K := KT') (key N cl) 0 (Fs ++ [q]) := by
          have := numb_put (K := KT') (key N cl) q Fs 0 (by rw [hidx]; exact hk)
          rw [Nat.zero_add] at this
          rw [numb_len]; exact this
        rw [hp]
        have hle := List.findIdx_le_length (xs := Fs) (p := sg N cl q)
        exact fol (Fs ++ [q]) (fun f hf => by
          rcases List.mem_append.1 hf with h | h
          · exact hF f h
          · rw [List.mem_singleton] at h; omega) (by rw [findIdx_app _ _ (sg_self cl q), List.length_append]; simp; omega) (findIdx_app _ _ (sg_self cl q) _) (by rw [stepC, if_neg hk])
end Go.Proofs.YtfkilmmldjajmaaSx.DC
namespace Go.Proofs.YtfkilmmldjajmaaSx.DC
variable {A s : Int} {N : List (List Int)} {M : List Int}
def ints (Fs : List Nat) : List Int := List.map (fun f : Nat => (f : Int)) Fs
theorem stepC_1 (cl : List Int) (Fs : List Nat) (nx : List Int) (q : Nat) : (stepC N cl (Fs, nx) q).1 = if Fs.findIdx (sg N cl q) < Fs.length then Fs else Fs ++ [q] := rfl
theorem stepC_2 (cl : List Int) (Fs : List Nat) (nx : List Int) (q : Nat) : (stepC N cl (Fs, nx) q).2 = nx.set q ((Fs.findIdx (sg N cl q) : Nat) : Int) := rfl
theorem ints_getD (Fs : List Nat) (j : Nat) (h : j < Fs.length) : (ints Fs).getD j (Int.ofNat 0) = ((Fs.getD j 0 : Nat) : Int) := by
  rw [List.getD_eq_getElem?_getD, List.getD_eq_getElem?_getD, ints, List.getElem?_map, List.getElem?_eq_getElem h]; rfl
theorem ints_len (Fs : List Nat) : (ints Fs).length = Fs.length := List.length_map ..
theorem nexts_getD (cl : List Int) (q a : Nat) (h : a < (N.getD q []).length) : (nexts N cl q).getD a 0 = cl.getD ((N.getD q []).getD a 0).toNat 0 := by
  rw [List.getD_eq_getElem?_getD (l := nexts N cl q), nexts, List.getElem?_map, List.getD_eq_getElem?_getD (l := N.getD q []), List.getElem?_eq_getElem h]; rfl

theorem ref14F (F : Fit A s N M) (cl : List Int) (count : Int) (q j : Nat) (hj : j < 1000000) (p : Nat) (Fs : List Nat) (nx : List Int) (r : List Int)
    (H : Ev (fun k => evermoreref3_Classes.l10 k count (Fs.length : Int) (q : Int) ((j + 1 : Nat) : Int) A s N M cl nx (ints Fs)) r) (a : Nat) :
    Ev (fun k => evermoreref3_Classes.l14 k count (Fs.length : Int) (q : Int) (j : Int) (p : Int) false (a : Int) A s N M cl nx (ints Fs)) r := by
  refine Ev.step (fun k => ?_) H
  rw [evermoreref3_Classes.l14]
  by_cases h : (a : Int) < A
  · rw [if_pos h]; simp only [Bool.false_eq_true, if_false, wrSucc j (by omega)]
  · rw [if_neg h]; simp only [Bool.false_eq_true, if_false, wrSucc j (by omega)]

theorem ref14 (F : Fit A s N M) (cl : List Int) (hcl : cl.length = N.length) (count : Int) (q : Nat) (hq : q < N.length) (Fs : List Nat) (hFs : Fs.length ≤ 4000) (j : Nat) (hj : j < Fs.length) (p : Nat) (hp : p < N.length) (nx : List Int) (r : List Int) : ∀ n a, A.toNat - a = n → (a : Int) ≤ A →
    ((nexts N cl p).drop a = (nexts N cl q).drop a → Ev (fun k => evermoreref3_Classes.j22 k count (Fs.length : Int) (q : Int) (j : Int) A s N M cl nx (ints Fs)) r →
      Ev (fun k => evermoreref3_Classes.l14 k count (Fs.length : Int) (q : Int) (j : Int) (p : Int) true (a : Int) A s N M cl nx (ints Fs)) r) ∧
    (¬ (nexts N cl p).drop a = (nexts N cl q).drop a → Ev (fun k => evermoreref3_Classes.l10 k count (Fs.length : Int) (q : Int) ((j + 1 : Nat) : Int) A s N M cl nx (ints Fs)) r →
      Ev (fun k => evermoreref3_Classes.l14 k count (Fs.length : Int) (q : Int) (j : Int) (p : Int) true (a : Int) A s N M cl nx (ints Fs)) r) := by
  have hrp := F.row p hp
  have hrq := F.row q hq
  have hlp := nexts_len F cl hp
  have hlq := nexts_len F cl hq
  have a4 := F.a4
  intro n
  induction n with
  | zero =>
    intro a hn ha
    rw [List.drop_eq_nil_of_le (by omega), List.drop_eq_nil_of_le (by omega)]
    refine ⟨fun _ H => Ev.step (fun k => ?_) H, fun h => absurd rfl h⟩
    rw [evermoreref3_Classes.l14, if_neg (by omega), if_pos rfl, if_neg (by omega)]
  | succ n ih =>
    intro a hn ha
    obtain ⟨h1, h2⟩ := ih (a + 1) (by omega) (by omega)
    have hep := F.ent p hp a (by omega)
    have heq := F.ent q hq a (by omega)
    have c1 : (0 : Int) ≤ (N.getD p []).getD a (Int.ofNat 0) := hep.1
    have c2 : (N.getD p []).getD a (Int.ofNat 0) < (cl.length : Int) := by rw [hcl]; exact hep.2
    have c3 : (0 : Int) ≤ (N.getD q []).getD a (Int.ofNat 0) := heq.1
    have c4 : (N.getD q []).getD a (Int.ofNat 0) < (cl.length : Int) := by rw [hcl]; exact heq.2
    have st : ∀ k, evermoreref3_Classes.l14 (k + 1) count (Fs.length : Int) (q : Int) (j : Int) (p : Int) true (a : Int) A s N M cl nx (ints Fs) =
        evermoreref3_Classes.l14 k count (Fs.length : Int) (q : Int) (j : Int) (p : Int) (decide ((nexts N cl p).getD a 0 = (nexts N cl q).getD a 0)) ((a + 1 : Nat) : Int) A s N M cl nx (ints Fs) := by
      intro k
      rw [evermoreref3_Classes.l14, if_pos (by omega), if_pos rfl, if_pos (by omega), if_pos (by omega), if_pos (by omega), rd_nat, if_pos (by omega), rd_nat, if_pos c1, if_pos c2, if_pos (by omega), if_pos (by omega), if_pos (by omega), rd_nat, if_pos (by omega), rd_nat, if_pos c3, if_pos c4, wrSucc a (by omega), nexts_getD cl p a (by omega), nexts_getD cl q a (by omega)]
      rfl
    rw [drop_getD 0 (nexts N cl p) a (by omega), drop_getD 0 (nexts N cl q) a (by omega)]
    by_cases he : (nexts N cl p).getD a 0 = (nexts N cl q).getD a 0
    · rw [decide_eq_true he] at st
      refine ⟨fun h H => Ev.step st (h1 (List.cons.inj h).2 H), fun h H => Ev.step st (h2 (fun e => h (by rw [he, e])) H)⟩
    · rw [decide_eq_false he] at st
      exact ⟨fun h => absurd (List.cons.inj h).1 he, fun _ H => Ev.step st (ref14F F cl count q j (by omega) p Fs nx r H (a + 1))⟩

theorem ref10 (F : Fit A s N M) (cl : List Int) (hcl : cl.length = N.length) (count : Int) (q : Nat) (hq : q < N.length) (Fs : List Nat) (hFs : Fs.length ≤ 4000) (hF : ∀ f ∈ Fs, f < N.length) (nx : List Int) (r : List Int)
    (H : Ev (fun k => evermoreref3_Classes.j22 k count (((stepC N cl (Fs, nx) q).1.length : Nat) : Int) (q : Int) ((Fs.findIdx (sg N cl q) : Nat) : Int) A s N M cl nx (ints (stepC N cl (Fs, nx) q).1)) r) : ∀ n j, Fs.length - j = n → j ≤ Fs.length → Fs.findIdx (sg N cl q) = j + (Fs.drop j).findIdx (sg N cl q) →
    Ev (fun k => evermoreref3_Classes.l10 k count (Fs.length : Int) (q : Int) (j : Int) A s N M cl nx (ints Fs)) r := by
  intro n
  induction n with
  | zero =>
    intro j hn hj he
    rw [List.drop_eq_nil_of_le (by omega)] at he
    have hidx : Fs.findIdx (sg N cl q) = Fs.length := by rw [he]; simp; omega
    rw [stepC_1, if_neg (by rw [hidx]; omega), hidx] at H
    refine Ev.step (fun k => ?_) H
    have hj' : j = Fs.length := by omega
    subst hj'
    rw [evermoreref3_Classes.l10, if_neg (by omega), if_pos rfl, if_pos (short _ (by rw [List.length_append, ints_len]; simp; omega)), wrSucc _ (by omega)]
    rw [show ints Fs ++ [(q : Int)] = ints (Fs ++ [q]) by simp [ints], List.length_append]
    rfl
  | succ n ih =>
    intro j hn hj he
    have hp : Fs.getD j 0 < N.length := hF _ (by rw [List.getD_eq_getElem?_getD, List.getElem?_eq_getElem (by omega)]; exact List.getElem_mem (by omega))
    have hig := ints_getD Fs j (by omega)
    rw [drop_getD 0 Fs j (by omega), List.findIdx_cons] at he
    have st : ∀ k, evermoreref3_Classes.l10 (k + 1) count (Fs.length : Int) (q : Int) (j : Int) A s N M cl nx (ints Fs) =
        evermoreref3_Classes.l14 k count (Fs.length : Int) (q : Int) (j : Int) ((Fs.getD j 0 : Nat) : Int) (decide (cl.getD (Fs.getD j 0) 0 = cl.getD q 0)) 0 A s N M cl nx (ints Fs) := by
      intro k
      rw [evermoreref3_Classes.l10, if_pos (by omega), if_pos (by omega), if_pos (by rw [ints_len]; omega), Int.toNat_natCast, hig, if_pos (by omega), if_pos (by omega), if_pos (by omega), if_pos (by omega), Int.toNat_natCast, Int.toNat_natCast]
      rfl
    obtain ⟨h1, h2⟩ := ref14 F cl hcl count q hq Fs hFs j (by omega) (Fs.getD j 0) hp nx r _ 0 rfl (by have := F.a1; omega)
    rw [List.drop_zero, List.drop_zero] at h1 h2
    by_cases hc : cl.getD (Fs.getD j 0) 0 = cl.getD q 0
    · rw [decide_eq_true hc] at st
      by_cases hx : nexts N cl (Fs.getD j 0) = nexts N cl q
      · have hs : sg N cl q (Fs.getD j 0) = true := by rw [sg, decide_eq_true hc.symm, decide_eq_true hx.symm]; rfl
        rw [hs, cond_true, Nat.add_zero] at he
        rw [stepC_1, if_pos (by rw [he]; omega), he] at H
        exact Ev.step st (h1 hx H)
      · have hs : sg N cl q (Fs.getD j 0) = false := by rw [sg, decide_eq_false (show ¬ nexts N cl q = nexts N cl (Fs.getD j 0) from fun e => hx e.symm), Bool.and_false]
        rw [hs, cond_false] at he
        exact Ev.step st (h2 hx (ih (j + 1) (by omega) (by omega) (by omega)))
    · rw [decide_eq_false hc] at st
      have hs : sg N cl q (Fs.getD j 0) = false := by rw [sg, decide_eq_false (show ¬ cl.getD q 0 = cl.getD (Fs.getD j 0) 0 from fun e => hc e.symm), Bool.false_and]
      rw [hs, cond_false] at he
      exact Ev.step st (ref14F F cl count q j (by omega) _ Fs nx r (ih (j + 1) (by omega) (by omega) (by omega)) 0)

theorem ref7 (F : Fit A s N M) (cl : List Int) (hcl : cl.length = N.length) (count : Int) (r : List Int) : ∀ n q Fs nx, N.length - q = n → q ≤ N.length → nx.length = N.length → (∀ f ∈ Fs, f < N.length) → Fs.length ≤ q →
    Ev (fun k => if (((roundC N cl q n (Fs, nx)).1.length : Nat) : Int) = count then some (roundC N cl q n (Fs, nx)).2 else evermoreref3_Classes.l3 k (((roundC N cl q n (Fs, nx)).1.length : Nat) : Int) A s N M (roundC N cl q n (Fs, nx)).2) r →
    Ev (fun k => evermoreref3_Classes.l7 k count (Fs.length : Int) (q : Int) A s N M cl nx (ints Fs)) r := by
  have n3 := F.n3
  intro n
  induction n with
  | zero =>
    intro q Fs nx hn hq hx hF hl H
    refine Ev.step (fun k => ?_) H
    rw [evermoreref3_Classes.l7, if_neg (by omega)]
    rfl
  | succ n ih =>
    intro q Fs nx hn hq hx hF hl H
    have hq' : q < N.length := by omega
    have h1 := ih (q + 1) (stepC N cl (Fs, nx) q).1 (stepC N cl (Fs, nx) q).2 (by omega) (by omega) (by rw [stepC_2, List.length_set]; exact hx) (fun f hf => by
      rw [stepC_1] at hf
      by_cases hk : Fs.findIdx (sg N cl q) < Fs.length
      · rw [if_pos hk] at hf; exact hF f hf
      · rw [if_neg hk] at hf
        rcases List.mem_append.1 hf with h | h
        · exact hF f h
        · rw [List.mem_singleton] at h; omega) (by
      rw [stepC_1]
      by_cases hk : Fs.findIdx (sg N cl q) < Fs.length
      · rw [if_pos hk]; omega
      · rw [if_neg hk, List.length_append]; simp; omega) H
    refine Ev.step (h := fun k => evermoreref3_Classes.l10 k count (Fs.length : Int) (q : Int) 0 A s N M cl nx (ints Fs)) (fun k => ?_) (ref10 F cl hcl count q hq' Fs (by omega) hF nx r (Ev.step (fun k => ?_) h1) _ 0 rfl (by omega) (by rw [List.drop_zero, Nat.zero_add]))
    · rw [evermoreref3_Classes.l7, if_pos (by omega)]
    · rw [evermoreref3_Classes.j22, if_pos (by omega), if_pos (by omega), wrSucc q (by omega), Int.toNat_natCast]
      rfl
end Go.Proofs.YtfkilmmldjajmaaSx.DC
namespace Go.Proofs.YtfkilmmldjajmaaSx.DC
variable {A s : Int} {N : List (List Int)} {M : List Int}
theorem nodup_sub {α : Type} [DecidableEq α] : ∀ (L T : List α), L.Nodup → (∀ x ∈ L, x ∈ T) → L.length ≤ T.length := by
  intro L
  induction L with
  | nil => intro T _ _; simp
  | cons a L ih =>
    intro T hn h
    rw [List.nodup_cons] at hn
    have ha := h a List.mem_cons_self
    have := ih (T.erase a) hn.2 (fun x hx => (List.mem_erase_of_ne (show x ≠ a from fun e => hn.1 (e ▸ hx))).2 (h x (List.mem_cons_of_mem _ hx)))
    rw [List.length_erase_of_mem ha] at this
    have : 0 < T.length := List.length_pos_of_mem ha
    simp only [List.length_cons]; omega

/-- What a round has made when the states below q are done. -/
structure Done (N : List (List Int)) (cl : List Int) (q : Nat) (Fs : List Nat) (nx : List Int) : Prop where
  len : nx.length = N.length
  lt : ∀ i, i < Fs.length → Fs.getD i 0 < q ∧ nx.getD (Fs.getD i 0) 0 = (i : Int)
  num : ∀ p, p < q → ∃ i, i < Fs.length ∧ nx.getD p 0 = (i : Int) ∧ sg N cl p (Fs.getD i 0) = true
  cnt : Fs.length ≤ q

theorem getD_set_int (l : List Int) (x y : Nat) (v : Int) : (l.set x v).getD y 0 = if x = y ∧ y < l.length then v else l.getD y 0 := by
  rw [List.getD_eq_getElem?_getD, List.getD_eq_getElem?_getD, List.getElem?_set]
  by_cases h : x = y
  · subst h
    by_cases h2 : x < l.length
    · simp [h2]
    · simp [h2]
  · simp [h]
theorem getD_app_left (l : List Nat) (b i : Nat) (h : i < l.length) : (l ++ [b]).getD i 0 = l.getD i 0 := by
  rw [List.getD_eq_getElem?_getD, List.getElem?_append_left h, ← List.getD_eq_getElem?_getD]
theorem getD_app_last (l : List Nat) (b : Nat) : (l ++ [b]).getD l.length 0 = b := by
  rw [List.getD_eq_getElem?_getD, List.getElem?_append_right (Nat.le_refl _), Nat.sub_self]; rfl
theorem findIdx_hit (p : Nat → Bool) (l : List Nat) (h : l.findIdx p < l.length) : p (l.getD (l.findIdx p) 0) = true := by
  rw [List.getD_eq_getElem?_getD, List.getElem?_eq_getElem h]
  exact List.findIdx_getElem (w := h)

theorem Done.step {cl : List Int} {q : Nat} {Fs : List Nat} {nx : List Int} (D : Done N cl q Fs nx) (hq : q < N.length) : Done N cl (q + 1) (stepC N cl (Fs, nx) q).1 (stepC N cl (Fs, nx) q).2 := by
  have hl := D.len
  have hq2 : q < nx.length := by rw [hl]; exact hq
  rw [stepC_1, stepC_2]
  have hset : ∀ v y, y < q → (nx.set q v).getD y 0 = nx.getD y 0 := by
    intro v y hy; rw [getD_set_int, if_neg (by omega)]
  have hself : ∀ v, (nx.set q v).getD q 0 = v := by
    intro v; rw [getD_set_int, if_pos ⟨rfl, hq2⟩]
  by_cases hk : Fs.findIdx (sg N cl q) < Fs.length
  · rw [if_pos hk]
    refine ⟨by rw [List.length_set]; exact hl, fun i hi => ?_, fun p hp => ?_, by have := D.cnt; omega⟩
    · obtain ⟨a, b⟩ := D.lt i hi
      exact ⟨by omega, by rw [hset _ _ a]; exact b⟩
    · by_cases hpq : p = q
      · subst hpq; exact ⟨_, hk, hself _, findIdx_hit _ _ hk⟩
      · obtain ⟨i, a, b, c⟩ := D.num p (by omega)
        exact ⟨i, a, by rw [hset _ _ (by omega)]; exact b, c⟩
  · rw [if_neg hk]
    have hle : Fs.findIdx (sg N cl q) = Fs.length := by have := List.findIdx_le_length (xs := Fs) (p := sg N cl q); omega
    rw [hle]
    refine ⟨by rw [List.length_set]; exact hl, fun i hi => ?_, fun p hp => ?_, by rw [List.length_append]; have := D.cnt; simp; omega⟩
    · rw [List.length_append, List.length_singleton] at hi
      by_cases hi2 : i < Fs.length
      · obtain ⟨a, b⟩ := D.lt i hi2
        rw [getD_app_left _ _ _ hi2]
        exact ⟨by omega, by rw [hset _ _ a]; exact b⟩
      · have : i = Fs.length := by omega
        subst this
        rw [getD_app_last]; exact ⟨by omega, hself _⟩
    · by_cases hpq : p = q
      · subst hpq; exact ⟨Fs.length, by simp, hself _, by rw [getD_app_last]; exact sg_self cl p⟩
      · obtain ⟨i, a, b, c⟩ := D.num p (by omega)
        exact ⟨i, by rw [List.length_append]; omega, by rw [hset _ _ (by omega)]; exact b, by rw [getD_app_left _ _ _ a]; exact c⟩

theorem Done.round {cl : List Int} : ∀ n q Fs nx, N.length - q = n → q ≤ N.length → Done N cl q Fs nx → Done N cl N.length (roundC N cl q n (Fs, nx)).1 (roundC N cl q n (Fs, nx)).2 := by
  intro n
  induction n with
  | zero => intro q Fs nx hn hq D; have : q = N.length := by omega
            subst this; exact D
  | succ n ih =>
    intro q Fs nx hn hq D
    exact ih (q + 1) _ _ (by omega) (by omega) (D.step (by omega))
theorem Done.whole (N : List (List Int)) (cl : List Int) : Done N cl N.length (roundC N cl 0 N.length ([], List.replicate N.length 0)).1 (roundC N cl 0 N.length ([], List.replicate N.length 0)).2 :=
  Done.round _ 0 _ _ rfl (by omega) ⟨by simp, fun i hi => by simp at hi, fun p hp => by omega, by simp⟩
end Go.Proofs.YtfkilmmldjajmaaSx.DC
namespace Go.Proofs.YtfkilmmldjajmaaSx.DC
variable {A s : Int} {N : List (List Int)} {M : List Int}
/-! What words tell of states. -/
def aft (N : List (List Int)) : Nat → List Nat → Nat
  | q, [] => q
  | q, a :: w => aft N ((N.getD q []).getD a 0).toNat w
/-- No word tells a state of the one from a state of the other. -/
def Same (A : Int) (N : List (List Int)) (M : List Int) (p : Nat) (N' : List (List Int)) (M' : List Int) (p' : Nat) : Prop :=
  ∀ w : List Nat, (∀ a ∈ w, (a : Int) < A) → M.getD (aft N p w) 0 = M'.getD (aft N' p' w) 0
theorem Same.symm {N' : List (List Int)} {M' : List Int} {p p' : Nat} (h : Same A N M p N' M' p') : Same A N' M' p' N M p := fun w hw => (h w hw).symm
theorem Same.trans {N' N'' : List (List Int)} {M' M'' : List Int} {p p' p'' : Nat} (h : Same A N M p N' M' p') (h' : Same A N' M' p' N'' M'' p'') : Same A N M p N'' M'' p'' := fun w hw => (h w hw).trans (h' w hw)
theorem Same.mark {N' : List (List Int)} {M' : List Int} {p p' : Nat} (h : Same A N M p N' M' p') : M.getD p 0 = M'.getD p' 0 := h [] (fun a ha => by simp at ha)
theorem Same.next {N' : List (List Int)} {M' : List Int} {p p' : Nat} (h : Same A N M p N' M' p') (a : Nat) (ha : (a : Int) < A) : Same A N M ((N.getD p []).getD a 0).toNat N' M' ((N'.getD p' []).getD a 0).toNat := fun w hw => h (a :: w) (fun b hb => by
  rcases List.mem_cons.1 hb with h | h
  · rw [h]; exact ha
  · exact hw b h)
theorem Same.refl (p : Nat) : Same A N M p N M p := fun w hw => rfl
/-- A relation that the steps keep. -/
theorem Same.of {N' : List (List Int)} {M' : List Int} (R : Nat → Nat → Prop) (hm : ∀ p p', R p p' → M.getD p 0 = M'.getD p' 0) (hn : ∀ p p' (a : Nat), R p p' → (a : Int) < A → R ((N.getD p []).getD a 0).toNat ((N'.getD p' []).getD a 0).toNat) : ∀ (p p' : Nat), R p p' → Same A N M p N' M' p' := by
  intro p p' h w
  induction w generalizing p p' with
  | nil => intro _; exact hm _ _ h
  | cons a w ih => intro hw; exact ih _ _ (hn _ _ a h (hw a List.mem_cons_self)) (fun b hb => hw b (List.mem_cons_of_mem _ hb))
/-- States that no word tells apart have one class. -/
def Coarse (A : Int) (N : List (List Int)) (M cl : List Int) : Prop := ∀ p p', p < N.length → p' < N.length → Same A N M p N M p' → cl.getD p 0 = cl.getD p' 0

def Uni (N : List (List Int)) (cl : List Int) (Fs : List Nat) : Prop := ∀ i i', i < Fs.length → i' < Fs.length → sg N cl (Fs.getD i 0) (Fs.getD i' 0) = true → i = i'
theorem sg_iff {cl : List Int} {p q : Nat} : sg N cl p q = true ↔ cl.getD p 0 = cl.getD q 0 ∧ nexts N cl p = nexts N cl q := by
  rw [sg, Bool.and_eq_true, decide_eq_true_iff, decide_eq_true_iff]
theorem sg_symm {cl : List Int} {p q : Nat} (h : sg N cl p q = true) : sg N cl q p = true := by
  rw [sg_iff] at h ⊢; exact ⟨h.1.symm, h.2.symm⟩
theorem sg_trans {cl : List Int} {p q r : Nat} (h : sg N cl p q = true) (h' : sg N cl q r = true) : sg N cl p r = true := by
  rw [sg_iff] at h h' ⊢; exact ⟨h.1.trans h'.1, h.2.trans h'.2⟩
theorem Uni.step {cl : List Int} {Fs : List Nat} {nx : List Int} (U : Uni N cl Fs) (q : Nat) : Uni N cl (stepC N cl (Fs, nx) q).1 := by
  rw [stepC_1]
  by_cases hk : Fs.findIdx (sg N cl q) < Fs.length
  · rw [if_pos hk]; exact U
  · rw [if_neg hk]
    have hno : ∀ i, i < Fs.length → sg N cl q (Fs.getD i 0) = true → False := by
      intro i hi h
      apply hk
      rw [List.findIdx_lt_length]
      exact ⟨Fs.getD i 0, by rw [List.getD_eq_getElem?_getD, List.getElem?_eq_getElem hi]; exact List.getElem_mem hi, h⟩
    intro i i' hi hi' h
    rw [List.length_append, List.length_singleton] at hi hi'
    by_cases h1 : i < Fs.length
    · rw [getD_app_left _ _ _ h1] at h
      by_cases h2 : i' < Fs.length
      · rw [getD_app_left _ _ _ h2] at h; exact U i i' h1 h2 h
      · have : i' = Fs.length := by omega
        subst this
        rw [getD_app_last] at h; exact (hno i h1 (sg_symm h)).elim
    · have : i = Fs.length := by omega
      subst this
      rw [getD_app_last] at h
      by_cases h2 : i' < Fs.length
      · rw [getD_app_left _ _ _ h2] at h; exact (hno i' h2 h).elim
      · omega
theorem Uni.round {cl : List Int} : ∀ n q Fs nx, Uni N cl Fs → Uni N cl (roundC N cl q n (Fs, nx)).1 := by
  intro n
  induction n with
  | zero => intro q Fs nx U; exact U
  | succ n ih => intro q Fs nx U; exact ih (q + 1) _ _ (U.step q)
theorem Coarse.round (F : Fit A s N M) {cl : List Int} (H : Coarse A N M cl) : Coarse A N M (roundC N cl 0 N.length ([], List.replicate N.length 0)).2 := by
  have D := Done.whole N cl
  have U : Uni N cl (roundC N cl 0 N.length ([], List.replicate N.length 0)).1 := Uni.round _ 0 _ _ (fun i i' hi => by simp at hi)
  intro p p' hp hp' h
  obtain ⟨i, hi, e, g⟩ := D.num p hp
  obtain ⟨i', hi', e', g'⟩ := D.num p' hp'
  have hs : sg N cl p p' = true := by
    rw [sg_iff]
    refine ⟨H p p' hp hp' h, ?_⟩
    have l1 := F.row p hp
    have l2 := F.row p' hp'
    apply List.ext_getElem (by rw [nexts, nexts, List.length_map, List.length_map]; omega)
    intro j h1 h2
    rw [nexts, List.length_map] at h1 h2
    have e1 := nexts_getD (N := N) cl p j h1
    have e2 := nexts_getD (N := N) cl p' j h2
    rw [List.getD_eq_getElem?_getD (l := nexts N cl p), List.getElem?_eq_getElem (by rw [nexts, List.length_map]; exact h1), Option.getD_some] at e1
    rw [List.getD_eq_getElem?_getD (l := nexts N cl p'), List.getElem?_eq_getElem (by rw [nexts, List.length_map]; exact h2), Option.getD_some] at e2
    rw [e1, e2]
    have q1 := F.ent p hp j (by omega)
    have q2 := F.ent p' hp' j (by omega)
    exact H _ _ (by omega) (by omega) (h.next j (by omega))
  have : i = i' := U i i' hi hi' (sg_trans (sg_symm g) (sg_trans hs g'))
  rw [e, e', this]
end Go.Proofs.YtfkilmmldjajmaaSx.DC
namespace Go.Proofs.YtfkilmmldjajmaaSx.DC
variable {A s : Int} {N : List (List Int)} {M : List Int}
structure Att (N : List (List Int)) (c : Nat) (cl : List Int) : Prop where
  hit : ∀ i, i < c → ∃ q, q < N.length ∧ cl.getD q 0 = (i : Int)
  lt : c = 0 ∨ ∀ q, q < N.length → ∃ i, i < c ∧ cl.getD q 0 = (i : Int)
structure Stable (N : List (List Int)) (M : List Int) (cl : List Int) : Prop where
  len : cl.length = N.length
  num : ∀ q, q < N.length → 0 ≤ cl.getD q 0 ∧ cl.getD q 0 < (N.length : Int)
  mark : ∀ p p', p < N.length → p' < N.length → cl.getD p 0 = cl.getD p' 0 → M.getD p 0 = M.getD p' 0
  next : ∀ p p', p < N.length → p' < N.length → cl.getD p 0 = cl.getD p' 0 → nexts N cl p = nexts N cl p'

theorem sg_eq {cl : List Int} {p q : Nat} (h : sg N cl p q = true) : cl.getD p 0 = cl.getD q 0 ∧ nexts N cl p = nexts N cl q := by
  rw [sg, Bool.and_eq_true, decide_eq_true_iff, decide_eq_true_iff] at h; exact h
theorem mem_of {Fs : List Nat} {i : Nat} (h : i < Fs.length) : Fs.getD i 0 ∈ Fs := by
  rw [List.getD_eq_getElem?_getD, List.getElem?_eq_getElem h]; exact List.getElem_mem h
theorem nodup_range (c : Nat) : ((List.range c).map fun i : Nat => (i : Int)).Nodup := by
  rw [List.nodup_iff_pairwise_ne, List.pairwise_map]
  exact List.Pairwise.imp (fun {a b} h => by omega) List.pairwise_lt_range
theorem covers {c : Nat} {cl : List Int} {Fs : List Nat} {nx : List Int} (T : Att N c cl) (D : Done N cl N.length Fs nx) : ∀ x ∈ (List.range c).map (fun i : Nat => (i : Int)), ∃ i, i < Fs.length ∧ cl.getD (Fs.getD i 0) 0 = x := by
  intro x hx
  obtain ⟨i, hi, rfl⟩ := List.mem_map.1 hx
  rw [List.mem_range] at hi
  obtain ⟨q, hq, e⟩ := T.hit i hi
  obtain ⟨j, hj, _, h⟩ := D.num q hq
  exact ⟨j, hj, by rw [← (sg_eq h).1, e]⟩
theorem grows {c : Nat} {cl : List Int} {Fs : List Nat} {nx : List Int} (T : Att N c cl) (D : Done N cl N.length Fs nx) : c ≤ Fs.length := by
  have := nodup_sub _ (Fs.map fun f => cl.getD f 0) (nodup_range c) (fun x hx => by
    obtain ⟨i, hi, e⟩ := covers T D x hx
    exact List.mem_map.2 ⟨_, mem_of hi, e⟩)
  simpa using this
theorem same_nx {c : Nat} {cl : List Int} {Fs : List Nat} {nx : List Int} (T : Att N c cl) (D : Done N cl N.length Fs nx) (hc : Fs.length = c) {p p' : Nat} (hp : p < N.length) (hp' : p' < N.length) (e : cl.getD p 0 = cl.getD p' 0) : nx.getD p 0 = nx.getD p' 0 := by
  obtain ⟨i, hi, e1, s1⟩ := D.num p hp
  obtain ⟨i', hi', e2, s2⟩ := D.num p' hp'
  by_cases hii : i = i'
  · rw [e1, e2, hii]
  · exfalso
    have ee : cl.getD (Fs.getD i 0) 0 = cl.getD (Fs.getD i' 0) 0 := by rw [← (sg_eq s1).1, ← (sg_eq s2).1, e]
    have := nodup_sub _ ((Fs.map fun f => cl.getD f 0).eraseIdx i') (nodup_range c) (fun x hx => by
      obtain ⟨j, hj, ej⟩ := covers T D x hx
      rw [List.mem_eraseIdx_iff_getElem]
      have hg : ∀ j (h : j < Fs.length), (Fs.map fun f => cl.getD f 0)[j]'(by simpa using h) = cl.getD (Fs.getD j 0) 0 := by
        intro j h
        rw [List.getElem_map, List.getD_eq_getElem?_getD (l := Fs), List.getElem?_eq_getElem h]; rfl
      by_cases hji : j = i'
      · exact ⟨i, by simpa using hi, hii, by rw [hg i hi, ee, ← hji]; exact ej⟩
      · exact ⟨j, by simpa using hj, hji, by rw [hg j hj]; exact ej⟩)
    rw [List.length_eraseIdx_of_lt (by simpa using hi')] at this
    simp at this; omega

theorem rounds (F : Fit A s N M) : ∀ n c cl, N.length - c = n → c ≤ N.length → ClOk N cl → Coarse A N M cl → Att N c cl → (∀ p p', p < N.length → p' < N.length → cl.getD p 0 = cl.getD p' 0 → M.getD p 0 = M.getD p' 0) →
    ∃ C, Stable N M C ∧ Coarse A N M C ∧ Ev (fun k => det_Classes.l3 k (c : Int) A s N M cl) C ∧ Ev (fun k => evermoreref3_Classes.l3 k (c : Int) A s N M cl) C := by
  have n3 := F.n3; have n1 := F.n1
  intro n
  induction n using Nat.strongRecOn with
  | _ n ih =>
    intro c cl hn hc C HC T hM
    have HC2 := HC.round F
    have D := Done.whole N cl
    have P := fun r => prog6 F cl C (c : Int) r _ 0 [] (List.replicate N.length 0) rfl (by omega) (by simp) (by simp)
    have R := fun r => ref7 F cl C.len (c : Int) r _ 0 [] (List.replicate N.length 0) rfl (by omega) (by simp) (by simp) (by simp)
    rw [Nat.sub_zero] at P R
    generalize (roundC N cl 0 N.length ([], List.replicate N.length 0)).1 = Fs at D P R
    generalize (roundC N cl 0 N.length ([], List.replicate N.length 0)).2 = nx at D P R HC2
    have hg := grows T D
    have hcnt := D.cnt
    have hstep : ∀ C', (Ev (fun k => if ((Fs.length : Nat) : Int) = (c : Int) then some nx else det_Classes.l3 k ((Fs.length : Nat) : Int) A s N M nx) C') → (Ev (fun k => if ((Fs.length : Nat) : Int) = (c : Int) then some nx else evermoreref3_Classes.l3 k ((Fs.length : Nat) : Int) A s N M nx) C') →
        Ev (fun k => det_Classes.l3 k (c : Int) A s N M cl) C' ∧ Ev (fun k => evermoreref3_Classes.l3 k (c : Int) A s N M cl) C' := by
      intro C' h1 h2
      have hl := C.len
      refine ⟨Ev.step (fun k => ?_) (P C' h1), Ev.step (fun k => ?_) (R C' h2)⟩
      · rw [det_Classes.l3, if_pos (by omega), if_pos (by omega), if_pos (by omega), Int.toNat_natCast, hl]; rfl
      · rw [evermoreref3_Classes.l3, if_pos (by omega), if_pos (by omega), if_pos (by omega), Int.toNat_natCast, hl]; rfl
    have hnum : ∀ q, q < N.length → 0 ≤ nx.getD q 0 ∧ nx.getD q 0 < (Fs.length : Int) := by
      intro q hq
      obtain ⟨i, a, b, _⟩ := D.num q hq
      omega
    have hfine : ∀ p p', p < N.length → p' < N.length → nx.getD p 0 = nx.getD p' 0 → cl.getD p 0 = cl.getD p' 0 ∧ nexts N cl p = nexts N cl p' := by
      intro p p' hp hp' e
      obtain ⟨i, a, b, h⟩ := D.num p hp
      obtain ⟨i', a', b', h'⟩ := D.num p' hp'
      have : i = i' := by omega
      subst this
      exact ⟨(sg_eq h).1.trans (sg_eq h').1.symm, (sg_eq h).2.trans (sg_eq h').2.symm⟩
    by_cases hend : Fs.length = c
    · refine ⟨nx, ⟨D.len, fun q hq => by have := hnum q hq; omega, fun p p' hp hp' e => hM p p' hp hp' (hfine p p' hp hp' e).1, fun p p' hp hp' e => ?_⟩, HC2, hstep nx ?_ ?_⟩
      · have hx := (hfine p p' hp hp' e).2
        have l1 := F.row p hp
        have l2 := F.row p' hp'
        apply List.ext_getElem (by rw [nexts, nexts, List.length_map, List.length_map]; omega)
        intro j h1 h2
        rw [nexts, List.length_map] at h1 h2
        have e1 := nexts_getD (N := N) nx p j h1
        have e2 := nexts_getD (N := N) nx p' j h2
        rw [List.getD_eq_getElem?_getD (l := nexts N nx p), List.getElem?_eq_getElem (by rw [nexts, List.length_map]; exact h1), Option.getD_some] at e1
        rw [List.getD_eq_getElem?_getD (l := nexts N nx p'), List.getElem?_eq_getElem (by rw [nexts, List.length_map]; exact h2), Option.getD_some] at e2
        rw [e1, e2]
        have q1 := F.ent p hp j (by omega)
        have q2 := F.ent p' hp' j (by omega)
        refine same_nx T D hend (by omega) (by omega) ?_
        rw [← nexts_getD cl p j h1, ← nexts_getD cl p' j h2, hx]
      · simp only [if_pos (show ((Fs.length : Nat) : Int) = (c : Int) by omega)]; exact Ev.now _
      · simp only [if_pos (show ((Fs.length : Nat) : Int) = (c : Int) by omega)]; exact Ev.now _
    · obtain ⟨C', q1, qc, q2, q3⟩ := ih (N.length - Fs.length) (by omega) Fs.length nx rfl hcnt ⟨D.len, fun q hq => by have := hnum q hq; omega⟩ HC2
        ⟨fun i hi => ⟨_, (D.lt i hi).1, (D.lt i hi).2⟩, .inr fun q hq => by obtain ⟨i, a, b, _⟩ := D.num q hq; exact ⟨i, a, b⟩⟩ (fun p p' hp hp' e => hM p p' hp hp' (hfine p p' hp hp' e).1)
      refine ⟨C', q1, qc, hstep C' ?_ ?_⟩
      · simp only [if_neg (show ¬ ((Fs.length : Nat) : Int) = (c : Int) by omega)]; exact q2
      · simp only [if_neg (show ¬ ((Fs.length : Nat) : Int) = (c : Int) by omega)]; exact q3

/-- Both find the same classes. -/
theorem classes_ev (F : Fit A s N M) : ∃ C, Stable N M C ∧ Coarse A N M C ∧ Ev (fun k => det_Classes.f k (A, s, N, M, ())) C ∧ Ev (fun k => evermoreref3_Classes.f k (A, s, N, M, ())) C := by
  have n3 := F.n3; have hm := F.m
  obtain ⟨C, q1, qc, q2, q3⟩ := rounds F _ 0 M rfl (by omega) ⟨F.m, fun q hq => by rcases F.mark q hq with h | h <;> rw [h] <;> omega⟩ (fun p p' _ _ h => h.mark) ⟨fun i hi => by omega, .inl rfl⟩ (fun p p' _ _ e => e)
  refine ⟨C, q1, qc, Ev.bind (x := M) (.all fun k => ?_) q2, ?_⟩
  · rw [slices_Clone___int_int_.f, if_pos (show Short M.length from short _ (by omega))]
  · simp only [evermoreref3_Classes.f, List.nil_append, if_pos (fits M.length 8 (by omega) (by omega))]
    exact q3
end Go.Proofs.YtfkilmmldjajmaaSx.DC
namespace Go.Proofs.YtfkilmmldjajmaaSx.DC
variable {A s : Int} {N : List (List Int)} {M : List Int} {C : List Int}
/-- Of each class that a state has, some state. -/
structure OfOk (N : List (List Int)) (C ofs : List Int) (q : Nat) : Prop where
  len : ofs.length = C.length
  ok : ∀ p, p < q → ∃ p' : Nat, p' < N.length ∧ ofs.getD (C.getD p 0).toNat 0 = (p' : Int) ∧ C.getD p' 0 = C.getD p 0

theorem ofs4 (F : Fit A s N M) (S : Stable N M C) (c5 : List (List Int)) (c6 : List Int) : ∀ n i ofs, N.length - i = n → i ≤ N.length → OfOk N C ofs i →
    ∃ ofs', OfOk N C ofs' N.length ∧ ∀ r, Ev (fun k => det_Smallest.l4 k (C.length : Int) (N.length : Int) A s N M 0 0 C c5 c6 ofs') r → Ev (fun k => det_Smallest.l4 k (C.length : Int) (i : Int) A s N M 0 0 C c5 c6 ofs) r := by
  have n3 := F.n3; have hl := S.len
  intro n
  induction n with
  | zero =>
    intro i ofs hn hi H
    have : i = N.length := by omega
    subst this
    exact ⟨ofs, H, fun r E => E⟩
  | succ n ih =>
    intro i ofs hn hi H
    have hc := S.num i (by omega)
    have ho := H.len
    have H' : OfOk N C (ofs.set (C.getD i 0).toNat (i : Int)) (i + 1) := by
      refine ⟨by rw [List.length_set]; exact ho, fun p hp => ?_⟩
      rw [getD_set_int]
      have hcp := S.num p (by omega)
      by_cases e : (C.getD i 0).toNat = (C.getD p 0).toNat
      · rw [if_pos ⟨e, by omega⟩]; exact ⟨i, by omega, rfl, by omega⟩
      · rw [if_neg (fun h => e h.1)]
        have : p ≠ i := fun h => e (by rw [h])
        exact H.ok p (by omega)
    obtain ⟨ofs', q1, q2⟩ := ih (i + 1) _ (by omega) (by omega) H'
    refine ⟨ofs', q1, fun r E => Ev.step (fun k => ?_) (q2 r E)⟩
    have c1 : (0 : Int) ≤ C.getD i (Int.ofNat 0) := hc.1
    have c2 : C.getD i (Int.ofNat 0) < (ofs.length : Int) := by rw [ho, hl]; exact hc.2
    rw [det_Smallest.l4, if_pos (by omega), if_pos (by omega), if_pos (by omega), Int.toNat_natCast, if_pos c1, if_pos c2, wrSucc i (by omega)]
    rfl

/-- Classes as they are come to, the states by which, and their numbers. -/
structure LK (N : List (List Int)) (C : List Int) (L : List Int) (rows : List Nat) (num : List Int) : Prop where
  same : rows.length = L.length
  row : ∀ i, i < L.length → rows.getD i 0 < N.length ∧ C.getD (rows.getD i 0) 0 = L.getD i 0
  nd : L.Nodup
  len : num.length = C.length
  num : ∀ c : Nat, c < C.length → (∃ i, i < L.length ∧ L.getD i 0 = (c : Int) ∧ num.getD c 0 = (i : Int)) ∨ ((c : Int) ∉ L ∧ num.getD c 0 = -1)
theorem nodup_ints (n : Nat) : ∀ l : List Int, l.Nodup → (∀ x ∈ l, 0 ≤ x ∧ x < (n : Int)) → l.length ≤ n := by
  intro l h1 h2
  have := nodup_sub l ((List.range n).map fun i : Nat => (i : Int)) h1 (fun x hx => List.mem_map.2 ⟨x.toNat, by rw [List.mem_range]; have := h2 x hx; omega, by have := h2 x hx; omega⟩)
  simpa using this
theorem mem_int {w : List Int} {x : Int} (h : x ∈ w) : ∃ j, j < w.length ∧ w.getD j 0 = x := by
  obtain ⟨j, hj, e⟩ := List.getElem_of_mem h
  exact ⟨j, hj, by rw [List.getD_eq_getElem?_getD, List.getElem?_eq_getElem hj]; exact e⟩
theorem LK.bound (S : Stable N M C) {L : List Int} {rows : List Nat} {num : List Int} (K : LK N C L rows num) : L.length ≤ N.length :=
  nodup_ints _ L K.nd fun x hx => by
    obtain ⟨j, hj, e⟩ := mem_int hx
    obtain ⟨a, b⟩ := K.row j hj
    rw [← e, ← b]; exact S.num _ a
theorem findIdx_int (L : List Int) (hn : L.Nodup) (i : Nat) (hi : i < L.length) : L.findIdx (fun a => decide (L.getD i 0 = a)) = i := by
  have hx : L.findIdx (fun a => decide (L.getD i 0 = a)) < L.length := by
    rw [List.findIdx_lt_length]
    exact ⟨L.getD i 0, by rw [List.getD_eq_getElem?_getD, List.getElem?_eq_getElem hi]; exact List.getElem_mem hi, by simp⟩
  have := List.findIdx_getElem (w := hx)
  rw [decide_eq_true_iff] at this
  have e : L.getD i 0 = L[i] := by rw [List.getD_eq_getElem?_getD, List.getElem?_eq_getElem hi]; rfl
  have t := e.symm.trans this
  have pw := List.pairwise_iff_getElem.1 hn
  obtain ⟨j, hj⟩ : ∃ j, L.findIdx (fun a => decide (L.getD i 0 = a)) = j := ⟨_, rfl⟩
  have hx' : j < L.length := by rw [← hj]; exact hx
  have t : L[i] = L[j] := by subst hj; exact t
  rw [hj]
  rcases Nat.lt_trichotomy j i with h | h | h
  · exact absurd t.symm (pw j i hx' hi h)
  · exact h
  · exact absurd t (pw i j hi hx' h)
theorem findIdx_none (L : List Int) (x : Int) (h : x ∉ L) : ¬ L.findIdx (fun a => decide (x = a)) < L.length := by
  rw [List.findIdx_lt_length]
  rintro ⟨a, ha, e⟩
  rw [decide_eq_true_iff] at e
  exact h (e ▸ ha)
theorem LK.push (S : Stable N M C) {L : List Int} {rows : List Nat} {num : List Int} (K : LK N C L rows num) (q : Nat) (hq : q < N.length) (hn : C.getD q 0 ∉ L) :
    LK N C (L ++ [C.getD q 0]) (rows ++ [q]) (num.set (C.getD q 0).toNat (L.length : Int)) := by
  have hc := S.num q hq
  have hl := S.len
  have happ : ∀ i, i < L.length → (L ++ [C.getD q 0]).getD i 0 = L.getD i 0 := by
    intro i hi; rw [List.getD_eq_getElem?_getD, List.getElem?_append_left hi, ← List.getD_eq_getElem?_getD]
  have hlast : (L ++ [C.getD q 0]).getD L.length 0 = C.getD q 0 := by
    rw [List.getD_eq_getElem?_getD, List.getElem?_append_right (Nat.le_refl _), Nat.sub_self]; rfl
  refine ⟨by simp [K.same], fun i hi => ?_, ?_, by rw [List.length_set]; exact K.len, fun c hcc => ?_⟩
  · rw [List.length_append, List.length_singleton] at hi
    by_cases h : i < L.length
    · rw [happ i h, getD_app_left _ _ _ (by rw [K.same]; exact h)]; exact K.row i h
    · have : i = L.length := by omega
      subst this
      rw [hlast, ← K.same, getD_app_last]; exact ⟨hq, rfl⟩
  · rw [List.nodup_append]
    refine ⟨K.nd, by simp, fun a ha b hb => ?_⟩
    rw [List.mem_singleton] at hb
    intro e; exact hn (hb ▸ e ▸ ha)
  · rw [getD_set_int]
    by_cases e : (C.getD q 0).toNat = c
    · rw [if_pos ⟨e, by rw [K.len]; exact hcc⟩]
      exact .inl ⟨L.length, by simp, by rw [hlast]; omega, rfl⟩
    · rw [if_neg (fun h => e h.1)]
      rcases K.num c hcc with ⟨i, a, b, d⟩ | ⟨a, b⟩
      · exact .inl ⟨i, by rw [List.length_append]; omega, by rw [happ i a]; exact b, d⟩
      · refine .inr ⟨fun h => ?_, b⟩
        rcases List.mem_append.1 h with h | h
        · exact a h
        · rw [List.mem_singleton] at h; omega
end Go.Proofs.YtfkilmmldjajmaaSx.DC
namespace Go.Proofs.YtfkilmmldjajmaaSx.DC
variable {A s : Int} {N : List (List Int)} {M : List Int} {C : List Int}
theorem sm1 (F : Fit A s N M) (S : Stable N M C) {ofs : List Int} (O : OfOk N C ofs N.length) (p : Nat) (hp : p < N.length) (a : Nat) (ha : (a : Int) < A) (k : Nat) :
    det_Smallest_1.f k (C.getD p 0) (a : Int) A s N M C ofs = some ((nexts N C p).getD a 0, A, s, N, M, C, ofs) := by
  obtain ⟨p', h1, h2, h3⟩ := O.ok p hp
  have hc := S.num p hp
  have hl := S.len; have ho := O.len
  have hr := F.row p' h1
  have he := F.ent p' h1 a ha
  have hx : (nexts N C p).getD a 0 = C.getD ((N.getD p' []).getD a 0).toNat 0 := by rw [← S.next p' p h1 hp h3, nexts_getD C p' a (by omega)]
  have h2' : ofs.getD (C.getD p 0).toNat (Int.ofNat 0) = (p' : Int) := h2
  have c1 : (0 : Int) ≤ (N.getD p' []).getD a (Int.ofNat 0) := he.1
  have c2 : (N.getD p' []).getD a (Int.ofNat 0) < (C.length : Int) := by rw [hl]; exact he.2
  rw [hx, det_Smallest_1.f, if_pos hc.1, if_pos (by omega), h2', if_pos (by omega), if_pos (by omega), if_pos (by omega), rd_nat, if_pos (by omega), rd_nat, if_pos c1, if_pos c2]
  rfl
theorem sm2 (F : Fit A s N M) (S : Stable N M C) {ofs : List Int} (O : OfOk N C ofs N.length) (p : Nat) (hp : p < N.length) (k : Nat) :
    det_Smallest_2.f k (C.getD p 0) A s N M ofs = some (M.getD p 0, A, s, N, M, ofs) := by
  obtain ⟨p', h1, h2, h3⟩ := O.ok p hp
  have hc := S.num p hp
  have hl := S.len; have ho := O.len; have hm := F.m
  have h2' : ofs.getD (C.getD p 0).toNat (Int.ofNat 0) = (p' : Int) := h2
  rw [det_Smallest_2.f, if_pos hc.1, if_pos (by omega), h2', if_pos (by omega), if_pos (by omega), rd_nat, ← S.mark p' p h1 hp h3]
  rfl
abbrev nm (L : List Int) : List (Int × Int) := numb (K := .int .i64) (fun x : Int => x) 0 L

theorem tand (F : Fit A s N M) (S : Stable N M C) {ofs : List Int} (O : OfOk N C ofs N.length) (i p : Nat) (hp : p < N.length) (c10 c11 : List (List Int)) (c12 : List (List Int)) (c13 : List Int) (d10 : List Int) (d7 : List (List Int)) (d8 : List Int) (d9 : List (List Int)) (e10 : List Int) : ∀ n a L rows num nxt, A.toNat - a = n → (a : Int) ≤ A → LK N C L rows num → i < L.length → rows.getD i 0 = p → nxt.length = A.toNat → (∀ j, j < a → 0 ≤ nxt.getD j 0 ∧ nxt.getD j 0 < (L.length : Int)) →
    ∃ L' rows' num' nxt', LK N C L' rows' num' ∧ L.length ≤ L'.length ∧ rows'.getD i 0 = p ∧ nxt'.length = A.toNat ∧ (∀ j, j < A.toNat → 0 ≤ nxt'.getD j 0 ∧ nxt'.getD j 0 < (L'.length : Int)) ∧
      (∀ r, Ev (fun k => det_Explore_int__2.l8 k A ((C.length : Int) + 1) (C.getD p 0) A A A s N M C ofs 0 0 A 0 (nm L') L' nxt' c10 d10 c12 c13) r → Ev (fun k => det_Explore_int__2.l8 k A ((C.length : Int) + 1) (C.getD p 0) A (a : Int) A s N M C ofs 0 0 A 0 (nm L) L nxt c10 d10 c12 c13) r) ∧
      (∀ r, Ev (fun k => evermoreref3_Least.l15 k (i : Int) A A s N M 0 0 C num' (ints rows') A 0 nxt' d7 d8 d9 e10) r → Ev (fun k => evermoreref3_Least.l15 k (i : Int) (a : Int) A s N M 0 0 C num (ints rows) A 0 nxt d7 d8 d9 e10) r) := by
  have a1 := F.a1; have a4 := F.a4; have n3 := F.n3
  have hl := S.len
  have hrow := F.row p hp
  intro n
  induction n with
  | zero =>
    intro a L rows num nxt hn ha K hi hr hx hv
    have haa : a = A.toNat := by omega
    have : (a : Int) = A := by omega
    rw [this]
    exact ⟨L, rows, num, nxt, K, Nat.le_refl _, hr, hx, fun j hj => hv j (by omega), fun r E => E, fun r E => E⟩
  | succ n ih =>
    intro a L rows num nxt hn ha K hi hr hx hv
    have hvs : ∀ (m : Nat) (v : Int), L.length ≤ m → 0 ≤ v → v < (m : Int) → ∀ j, j < a + 1 → 0 ≤ (nxt.set a v).getD j 0 ∧ (nxt.set a v).getD j 0 < (m : Int) := by
      intro m v h1 h2 h3 j hj
      rw [getD_set_int]
      by_cases e : a = j ∧ j < nxt.length
      · rw [if_pos e]; omega
      · rw [if_neg e]; have := hv j (by omega); omega
    have haA : (a : Int) < A := by omega
    have he := F.ent p hp a haA
    have hb := K.bound S
    have hsame := K.same
    have hklen := K.len
    obtain ⟨q, hq, hqe⟩ : ∃ q : Nat, q < N.length ∧ (N.getD p []).getD a 0 = (q : Int) := ⟨((N.getD p []).getD a 0).toNat, by omega, by omega⟩
    have ht : (nexts N C p).getD a 0 = C.getD q 0 := by rw [nexts_getD C p a (by omega), hqe, Int.toNat_natCast]
    have hc := S.num q hq
    have hsm := sm1 F S O p hp a haA
    rw [ht] at hsm
    have hhas := numb_has (K := .int .i64) (fun x : Int => x) (C.getD q 0) L 0
    have hget := numb_get (K := .int .i64) (fun x : Int => x) (C.getD q 0) L 0
    have hrp : (ints rows).getD i (Int.ofNat 0) = (p : Int) := by rw [ints_getD rows i (by omega), hr]
    have hqe' : (N.getD p []).getD a (Int.ofNat 0) = (q : Int) := hqe
    -- the reference's step up to the test
    have refq : ∀ k, evermoreref3_Least.l15 (k + 1) (i : Int) (a : Int) A s N M 0 0 C num (ints rows) A 0 nxt d7 d8 d9 e10 =
        if num.getD (C.getD q 0).toNat 0 < 0 then
          (if (ints rows ++ [(q : Int)]).length.blt 1000000000 = true then evermoreref3_Least.j21 k (i : Int) (a : Int) (q : Int) A s N M 0 0 C (num.set (C.getD q 0).toNat ((ints rows).length : Int)) (ints rows ++ [(q : Int)]) A 0 nxt d7 d8 d9 e10 else none)
        else evermoreref3_Least.j21 k (i : Int) (a : Int) (q : Int) A s N M 0 0 C num (ints rows) A 0 nxt d7 d8 d9 e10 := by
      intro k
      have c1 : (0 : Int) ≤ C.getD q (Int.ofNat 0) := hc.1
      have c2 : C.getD q (Int.ofNat 0) < (num.length : Int) := by rw [hklen, hl]; exact hc.2
      rw [evermoreref3_Least.l15, if_pos haA, if_pos (by omega), if_pos (by rw [ints_len]; omega), Int.toNat_natCast, hrp, if_pos (by omega), if_pos (by omega), if_pos (by omega), rd_nat, if_pos (by omega), rd_nat, hqe', if_pos (by omega), if_pos (by omega), Int.toNat_natCast, if_pos c1, if_pos c2]
      rw [if_pos (show (0 : Int) ≤ (q : Int) by omega), if_pos (show (q : Int) < (C.length : Int) by omega), if_pos c1, if_pos c2]
      rfl
    have j21 : ∀ num2 rows2 (v : Int) k, num2.length = C.length → num2.getD (C.getD q 0).toNat 0 = v → evermoreref3_Least.j21 (k + 1) (i : Int) (a : Int) (q : Int) A s N M 0 0 C num2 (ints rows2) A 0 nxt d7 d8 d9 e10 =
        evermoreref3_Least.l15 k (i : Int) ((a + 1 : Nat) : Int) A s N M 0 0 C num2 (ints rows2) A 0 (nxt.set a v) d7 d8 d9 e10 := by
      intro num2 rows2 v k h2 hv
      subst hv
      have c1 : (0 : Int) ≤ C.getD q (Int.ofNat 0) := hc.1
      have c2 : C.getD q (Int.ofNat 0) < (num2.length : Int) := by rw [h2, hl]; exact hc.2
      rw [evermoreref3_Least.j21, if_pos (by omega), if_pos (by omega), Int.toNat_natCast, if_pos c1, if_pos c2, if_pos (by omega), if_pos (by omega), wrSucc a (by omega), Int.toNat_natCast]
      rfl
    have j18 : ∀ L2 (v : Int) k, det_Explore_int__2.j18 (k + 1) A ((C.length : Int) + 1) (C.getD p 0) (a : Int) v A (a : Int) A s N M C ofs 0 0 A 0 (nm L2) L2 nxt c10 d10 c12 c13 =
        det_Explore_int__2.l8 k A ((C.length : Int) + 1) (C.getD p 0) A ((a + 1 : Nat) : Int) A s N M C ofs 0 0 A 0 (nm L2) L2 (nxt.set a v) c10 d10 c12 c13 := by
      intro L2 v k
      rw [det_Explore_int__2.j18, if_pos (by omega), if_pos (by omega), wrSucc a (by omega), Int.toNat_natCast]
    rcases K.num (C.getD q 0).toNat (by omega) with ⟨i2, h1, h2, h3⟩ | ⟨h1, h2⟩
    · -- known
      have ei : L.getD i2 0 = C.getD q 0 := by omega
      have hidx : L.findIdx (fun x => (Ty.int .i64).beq (C.getD q 0) x) = i2 := by
        have := findIdx_int L K.nd i2 h1
        rw [ei] at this; exact this
      rw [hidx, decide_eq_true h1] at hhas
      rw [hidx, if_pos h1, Nat.zero_add] at hget
      obtain ⟨L', rows', num', nxt', q1, q2, q3, q4, qv, q5, q6⟩ := ih (a + 1) L rows num (nxt.set a (i2 : Int)) (by omega) (by omega) K hi hr (by rw [List.length_set]; exact hx) (hvs L.length (i2 : Int) (Nat.le_refl _) (by omega) (by omega))
      refine ⟨L', rows', num', nxt', q1, q2, q3, q4, qv, fun r E => Ev.step (fun k => ?_) (Ev.step (g := fun k => det_Explore_int__2.j18 k A ((C.length : Int) + 1) (C.getD p 0) (a : Int) (i2 : Int) A (a : Int) A s N M C ofs 0 0 A 0 (nm L) L nxt c10 d10 c12 c13) (fun k => j18 L (i2 : Int) k) (q5 r E)), fun r E => Ev.step (fun k => ?_) (Ev.step (g := fun k => evermoreref3_Least.j21 k (i : Int) (a : Int) (q : Int) A s N M 0 0 C num (ints rows) A 0 nxt d7 d8 d9 e10) (fun k => j21 num rows (i2 : Int) k hklen h3) (q6 r E))⟩
      · rw [det_Explore_int__2.l8, if_pos haA, hsm, Option.bind_some]
        have hh : mhas (.int .i64) (.int .i64) (nm L) (C.getD q 0) = true := hhas
        have hg : mget (.int .i64) (.int .i64) (nm L) (C.getD q 0) = (i2 : Int) := hget
        simp only [hh, if_true, hg]
      · rw [refq, if_neg (by rw [h3]; omega)]
    · -- new
      have hnot : C.getD q 0 ∉ L := by
        have : (((C.getD q 0).toNat : Nat) : Int) = C.getD q 0 := by omega
        rw [this] at h1; exact h1
      have hidx : ¬ L.findIdx (fun x => (Ty.int .i64).beq (C.getD q 0) x) < L.length := findIdx_none L (C.getD q 0) hnot
      have hh : mhas (.int .i64) (.int .i64) (nm L) (C.getD q 0) = false := by
        rw [decide_eq_false hidx] at hhas; exact hhas
      have hput : mput (.int .i64) (.int .i64) (nm L) (C.getD q 0) ((L.length : Nat) : Int) = nm (L ++ [C.getD q 0]) := by
        have := numb_put (K := .int .i64) (fun x : Int => x) (C.getD q 0) L 0 hidx
        rw [Nat.zero_add] at this; exact this
      have K2 := K.push S q hq hnot
      have hb2 := K2.bound S
      rw [List.length_append, List.length_singleton] at hb2
      obtain ⟨L', rows', num', nxt', q1, q2, q3, q4, qv, q5, q6⟩ := ih (a + 1) (L ++ [C.getD q 0]) (rows ++ [q]) (num.set (C.getD q 0).toNat (L.length : Int)) (nxt.set a (L.length : Int)) (by omega) (by omega) K2 (by rw [List.length_append]; omega) (by rw [getD_app_left _ _ _ (by omega)]; exact hr) (by rw [List.length_set]; exact hx) (by rw [List.length_append, List.length_singleton]; exact hvs (L.length + 1) (L.length : Int) (by omega) (by omega) (by omega))
      have hn2 : (num.set (C.getD q 0).toNat (L.length : Int)).getD (C.getD q 0).toNat 0 = (L.length : Int) := by rw [getD_set_int, if_pos ⟨rfl, by omega⟩]
      refine ⟨L', rows', num', nxt', q1, by rw [List.length_append] at q2; omega, q3, q4, qv, fun r E => Ev.step (fun k => ?_) (Ev.step (g := fun k => det_Explore_int__2.j18 k A ((C.length : Int) + 1) (C.getD p 0) (a : Int) (L.length : Int) A (a : Int) A s N M C ofs 0 0 A 0 (nm (L ++ [C.getD q 0])) (L ++ [C.getD q 0]) nxt c10 d10 c12 c13) (fun k => j18 (L ++ [C.getD q 0]) (L.length : Int) k) (q5 r E)), fun r E => Ev.step (fun k => ?_) (Ev.step (g := fun k => evermoreref3_Least.j21 k (i : Int) (a : Int) (q : Int) A s N M 0 0 C (num.set (C.getD q 0).toNat (L.length : Int)) (ints (rows ++ [q])) A 0 nxt d7 d8 d9 e10) (fun k => j21 _ (rows ++ [q]) (L.length : Int) k (by rw [List.length_set]; exact hklen) hn2) (q6 r E))⟩
      · rw [det_Explore_int__2.l8, if_pos haA, hsm, Option.bind_some]
        simp only [hh, Bool.false_eq_true, if_false, hput]
        rw [if_neg (by omega), if_pos (short _ (by rw [List.length_append, List.length_singleton]; omega))]
      · rw [refq, if_pos (by rw [h2]; omega), if_pos (short _ (by rw [List.length_append, ints_len, List.length_singleton]; omega)), ints_len, hsame]
        rw [show ints rows ++ [(q : Int)] = ints (rows ++ [q]) by simp [ints]]
end Go.Proofs.YtfkilmmldjajmaaSx.DC
namespace Go.Proofs.YtfkilmmldjajmaaSx.DC
variable {A s : Int} {N : List (List Int)} {M : List Int} {C : List Int}
/-- What a least automaton is made of. -/
structure Made (A : Int) (m : Nat) (X : List (List Int)) (Y : List Int) : Prop where
  row : ∀ x ∈ X, x.length = A.toNat ∧ ∀ j, j < A.toNat → 0 ≤ x.getD j 0 ∧ x.getD j 0 < (m : Int)
  mark : ∀ y ∈ Y, y = 0 ∨ y = 1
theorem Made.more {A : Int} {m m' : Nat} {X : List (List Int)} {Y : List Int} (H : Made A m X Y) (h : m ≤ m') : Made A m' X Y :=
  ⟨fun x hx => ⟨(H.row x hx).1, fun j hj => by have := (H.row x hx).2 j hj; omega⟩, H.mark⟩
theorem outer (F : Fit A s N M) (S : Stable N M C) {ofs : List Int} (O : OfOk N C ofs N.length) : ∀ n i L rows num X Y, N.length - i = n → LK N C L rows num → i ≤ L.length → X.length = i → Y.length = i → Made A L.length X Y →
    ∃ X' Y', Made A X'.length X' Y' ∧ Y'.length = X'.length ∧ X'.length ≤ N.length ∧ L.length ≤ X'.length ∧ Ev (fun k => det_Explore_int__2.l4 k A ((C.length : Int) + 1) A s N M C ofs 0 0 A 0 (nm L) L [] [] X Y) (A, 0, true, A, s, N, M, C, ofs, X', Y') ∧
      Ev (fun k => evermoreref3_Least.l11 k (i : Int) A s N M 0 0 C num (ints rows) A 0 [] [] X Y) (A, 0, X', Y') := by
  have a1 := F.a1; have a4 := F.a4; have n3 := F.n3
  have hl := S.len
  intro n
  have fin : ∀ i L rows num X Y, LK N C L rows num → i = L.length → X.length = i → Y.length = i → Made A L.length X Y →
    ∃ X' Y', Made A X'.length X' Y' ∧ Y'.length = X'.length ∧ X'.length ≤ N.length ∧ L.length ≤ X'.length ∧ Ev (fun k => det_Explore_int__2.l4 k A ((C.length : Int) + 1) A s N M C ofs 0 0 A 0 (nm L) L [] [] X Y) (A, 0, true, A, s, N, M, C, ofs, X', Y') ∧
      Ev (fun k => evermoreref3_Least.l11 k (i : Int) A s N M 0 0 C num (ints rows) A 0 [] [] X Y) (A, 0, X', Y') := by
    intro i L rows num X Y K hi hX hY hM
    have hs := K.same
    have hbb := K.bound S
    refine ⟨X, Y, by rw [hX, hi]; exact hM, by omega, by omega, by omega, Ev.step (h := fun _ => some (A, 0, true, A, s, N, M, C, ofs, X, Y)) (fun k => ?_) (Ev.now _), Ev.step (h := fun _ => some (A, 0, X, Y)) (fun k => ?_) (Ev.now _)⟩
    · rw [det_Explore_int__2.l4, if_neg (by omega)]
    · rw [evermoreref3_Least.l11, if_neg (by rw [ints_len]; omega)]
  induction n with
  | zero =>
    intro i L rows num X Y hn K hi hX hY hM
    have := K.bound S
    exact fin i L rows num X Y K (by omega) hX hY hM
  | succ n ih =>
    intro i L rows num X Y hn K hi hX hY hM
    by_cases hiL : i < L.length
    · obtain ⟨hp, hpe⟩ := K.row i hiL
      have hs := K.same
      have hb := K.bound S
      obtain ⟨L', rows', num', nxt', q1, q2, q3, q4, qv, q5, q6⟩ := tand F S O i (rows.getD i 0) hp [] [] X Y [] [] [] X Y _ 0 L rows num (List.replicate A.toNat 0) rfl (by omega) K hiL rfl (by simp) (fun j hj => by omega)
      have hM2 : Made A L'.length (X ++ [nxt']) (Y ++ [M.getD (rows.getD i 0) 0]) := by
        have := hM.more q2
        refine ⟨fun x hx => ?_, fun y hy => ?_⟩
        · rcases List.mem_append.1 hx with h | h
          · exact this.row x h
          · rw [List.mem_singleton] at h; rw [h]; exact ⟨q4, qv⟩
        · rcases List.mem_append.1 hy with h | h
          · exact this.mark y h
          · rw [List.mem_singleton] at h; rw [h]; exact F.mark _ hp
      obtain ⟨X', Y', m1, m2, m3, m4, e1, e2⟩ := ih (i + 1) L' rows' num' (X ++ [nxt']) (Y ++ [M.getD (rows.getD i 0) 0]) (by omega) q1 (by omega) (by simp [hX]) (by simp [hY]) hM2
      have hs' := q1.same
      have hb' := q1.bound S
      have hk : L.getD X.length (Int.ofNat 0) = C.getD (rows.getD i 0) 0 := by rw [hX]; exact hpe.symm
      have hm := F.m
      refine ⟨X', Y', m1, m2, m3, by omega, Ev.step (fun k => ?_) (q5 _ (Ev.step (fun k => ?_) e1)), Ev.step (fun k => ?_) (q6 _ (Ev.step (fun k => ?_) e2))⟩
      · rw [det_Explore_int__2.l4, if_pos (by omega), if_pos (by omega), if_pos (by omega), if_pos (by omega), if_pos (by omega), if_pos (by omega), Int.toNat_natCast, hk]
        rfl
      · rw [det_Explore_int__2.l8, if_neg (by omega), if_pos (short _ (by simp; omega)), sm2 F S O _ hp, Option.bind_some]
        exact if_pos (short _ (by simp; omega))
      · rw [evermoreref3_Least.l11, if_pos (by rw [ints_len]; omega), if_pos (by omega), if_pos (by omega), if_pos (by omega)]
        rfl
      · have hrp : (ints rows').getD i (Int.ofNat 0) = ((rows.getD i 0 : Nat) : Int) := by rw [ints_getD rows' i (by omega), q3]
        rw [evermoreref3_Least.l15, if_neg (by omega), if_pos (short _ (by simp; omega)), if_pos (by omega), if_pos (by rw [ints_len]; omega), Int.toNat_natCast, hrp, if_pos (by omega), if_pos (by omega), rd_nat]
        rw [wrSucc i (by omega)]
        exact if_pos (short _ (by simp; omega))
    · exact fin i L rows num X Y K (by omega) hX hY hM
end Go.Proofs.YtfkilmmldjajmaaSx.DC
namespace Go.Proofs.YtfkilmmldjajmaaSx.DC
variable {A s : Int} {N : List (List Int)} {M : List Int} {C : List Int}
theorem Ev_eq {α : Type} {g h : Nat → Option α} {r : α} (e : ∀ k, g k = h k) (H : Ev h r) : Ev g r := by
  obtain ⟨k0, H⟩ := H
  exact ⟨k0, fun k hk => by rw [e]; exact H k hk⟩
theorem minus (S : Stable N M C) (F : Fit A s N M) (r : Int × Int × List (List Int) × List Int)
    (H : Ev (fun k => evermoreref3_Least.l11 k 0 A s N M 0 0 C ((List.replicate C.length (-1 : Int)).set (C.getD s.toNat 0).toNat 0) [s] A 0 [] [] [] []) r) : ∀ n i, C.length - i = n → i ≤ C.length →
    Ev (fun k => evermoreref3_Least.l4 k (i : Int) A s N M 0 0 C (List.replicate i (-1 : Int) ++ List.replicate n 0) [] []) r := by
  have n3 := F.n3
  have hl := S.len
  have hs := F.s
  have hc := S.num s.toNat (by omega)
  intro n
  induction n with
  | zero =>
    intro i hn hi
    have : i = C.length := by omega
    subst this
    refine Ev.step (fun k => ?_) H
    have c1 : (0 : Int) ≤ C.getD s.toNat (Int.ofNat 0) := hc.1
    have c2 : C.getD s.toNat (Int.ofNat 0) < (((List.replicate C.length (-1 : Int) ++ List.replicate 0 0).length : Nat) : Int) := by simp only [List.length_append, List.length_replicate]; have := hc.2; have h' : C.getD s.toNat (Int.ofNat 0) < (N.length : Int) := hc.2; omega
    rw [evermoreref3_Least.l4, if_neg (by simp), if_pos hs.1, if_pos (by omega), if_pos c1, if_pos c2, List.replicate_zero, List.append_nil]
    rfl
  | succ n ih =>
    intro i hn hi
    refine Ev.step (fun k => ?_) (ih (i + 1) (by omega) (by omega))
    have e : (List.replicate i (-1 : Int) ++ List.replicate (n + 1) 0).set i (-1) = List.replicate (i + 1) (-1 : Int) ++ List.replicate n 0 := by
      rw [List.set_append_right _ _ (by simp), List.length_replicate, Nat.sub_self, List.replicate_succ (n := n), List.set_cons_zero, List.replicate_succ' (n := i), List.append_assoc]; rfl
    rw [evermoreref3_Least.l4, if_pos (by simp only [List.length_append, List.length_replicate]; omega), if_pos (by omega), if_pos (by simp only [List.length_append, List.length_replicate]; omega), wrSucc i (by omega), Int.toNat_natCast]
    rw [← e]

/-- Both make the same least automaton. -/
theorem least_ev (F : Fit A s N M) : ∃ X Y, Made A X.length X Y ∧ Y.length = X.length ∧ X.length ≤ N.length ∧ 1 ≤ X.length ∧ Ev (fun k => det_Smallest.f k (A, s, N, M, ())) (A, 0, X, Y) ∧ Ev (fun k => evermoreref3_Least.f k (A, s, N, M, ())) (A, 0, X, Y) := by
  obtain ⟨C, S, _, c1, c2⟩ := classes_ev F
  have n3 := F.n3
  have hl := S.len
  have hs := F.s
  have hc := S.num s.toNat (by omega)
  obtain ⟨ofs, O, o1⟩ := ofs4 F S [] [] _ 0 (List.replicate C.length 0) rfl (by omega) ⟨by simp, fun p hp => by omega⟩
  have K : LK N C [C.getD s.toNat 0] [s.toNat] ((List.replicate C.length (-1 : Int)).set (C.getD s.toNat 0).toNat 0) := by
    refine ⟨rfl, fun i hi => ?_, by simp, by simp, fun c hcc => ?_⟩
    · have : i = 0 := by simp at hi; omega
      subst this; exact ⟨by show s.toNat < _; omega, rfl⟩
    · rw [getD_set_int]
      by_cases e : (C.getD s.toNat 0).toNat = c
      · rw [if_pos ⟨e, by simpa using hcc⟩]; exact .inl ⟨0, by simp, by show C.getD s.toNat 0 = _; omega, rfl⟩
      · rw [if_neg (fun h => e h.1)]
        refine .inr ⟨fun h => ?_, ?_⟩
        · rw [List.mem_singleton] at h; omega
        · rw [List.getD_eq_getElem?_getD, List.getElem?_replicate, if_pos hcc]; rfl
  obtain ⟨X, Y, m1, m2, m3, m4, e1, e2⟩ := outer F S O _ 0 _ _ _ [] [] rfl K (by simp) rfl rfl ⟨fun x hx => by simp at hx, fun y hy => by simp at hy⟩
  refine ⟨X, Y, m1, m2, m3, m4, ?_, ?_⟩
  · simp only [det_Smallest.f]
    refine Ev.bind c1 ?_
    have E : Ev (fun k => det_Smallest.l4 k (C.length : Int) (N.length : Int) A s N M 0 0 C [] [] ofs) (A, 0, X, Y) := by
      refine Ev.step (h := fun k => (det_Explore_int__2.f k A (C.getD s.toNat 0) ((C.length : Int) + 1) A s N M C ofs).bind fun r5 => some (r5.fst, r5.snd.fst, r5.snd.snd.snd.snd.snd.snd.snd.snd.snd.fst, r5.snd.snd.snd.snd.snd.snd.snd.snd.snd.snd)) (fun k => ?_) (Ev.bind (x := (A, 0, true, A, s, N, M, C, ofs, X, Y)) e1 (Ev.now _))
      rw [det_Smallest.l4, if_neg (by omega), if_pos hs.1, if_pos (by omega), wr64 _ (by omega) (by omega)]
      rfl
    refine Ev_eq (fun k => ?_) (o1 _ E)
    rw [if_pos (by omega), if_pos (by omega), if_pos (by omega), Int.toNat_natCast]
    rfl
  · simp only [evermoreref3_Least.f]
    refine Ev.bind c2 ?_
    have e2' : Ev (fun k => evermoreref3_Least.l11 k 0 A s N M 0 0 C ((List.replicate C.length (-1 : Int)).set (C.getD s.toNat 0).toNat 0) [s] A 0 [] [] [] []) (A, 0, X, Y) := by
      have : ints [s.toNat] = [s] := by show [((s.toNat : Nat) : Int)] = [s]; rw [show ((s.toNat : Nat) : Int) = s by omega]
      rw [this] at e2; exact e2
    refine Ev_eq (fun k => ?_) (minus S F _ e2' _ 0 rfl (by omega))
    rw [if_pos (by omega), if_pos (by omega), if_pos (by omega), Int.toNat_natCast]
    rfl
end Go.Proofs.YtfkilmmldjajmaaSx.DC
namespace Go.Proofs.YtfkilmmldjajmaaSx.DC
variable {A s : Int} {N : List (List Int)} {M : List Int}
theorem getD_memW (w : List (List Int)) (j : Nat) (h : j < w.length) : w.getD j [] ∈ w := by
  rw [List.getD_eq_getElem?_getD, List.getElem?_eq_getElem h]; exact List.getElem_mem h
theorem getD_memI (w : List Int) (j : Nat) (h : j < w.length) : w.getD j 0 ∈ w := by
  rw [List.getD_eq_getElem?_getD, List.getElem?_eq_getElem h]; exact List.getElem_mem h
theorem fit_of (F : Fit A s N M) {X : List (List Int)} {Y : List Int} (H : Made A X.length X Y) (h1 : Y.length = X.length) (h2 : X.length ≤ N.length) (h3 : 1 ≤ X.length) : Fit A 0 X Y := by
  have a1 := F.a1; have a4 := F.a4; have n3 := F.n3
  refine ⟨a1, a4, h3, by omega, h1, fun q hq => ?_, by omega, fun q hq a ha => ?_, fun q hq => H.mark _ (getD_memI _ _ (by omega))⟩
  · have := (H.row _ (getD_memW X q hq)).1; omega
  · exact (H.row _ (getD_memW X q hq)).2 a (by omega)
end Go.Proofs.YtfkilmmldjajmaaSx.DC
namespace Go.Proofs.YtfkilmmldjajmaaSx.DC
variable {A s : Int} {N : List (List Int)} {M : List Int} {C : List Int}
theorem Stable.same (F : Fit A s N M) (S : Stable N M C) {p p' : Nat} (hp : p < N.length) (hp' : p' < N.length) (h : C.getD p 0 = C.getD p' 0) : Same A N M p N M p' := by
  refine Same.of (fun p p' => p < N.length ∧ p' < N.length ∧ C.getD p 0 = C.getD p' 0) (fun p p' h => S.mark p p' h.1 h.2.1 h.2.2) (fun p p' a h ha => ?_) p p' ⟨hp, hp', h⟩
  obtain ⟨h1, h2, h3⟩ := h
  have e1 := F.ent p h1 a ha
  have e2 := F.ent p' h2 a ha
  have r1 := F.row p h1
  have r2 := F.row p' h2
  have hn := S.next p p' h1 h2 h3
  refine ⟨by omega, by omega, ?_⟩
  rw [← nexts_getD (N := N) C p a (by omega), ← nexts_getD (N := N) C p' a (by omega), hn]
/-- The state that a letter leads to. -/
abbrev nx (N : List (List Int)) (p a : Nat) : Nat := ((N.getD p []).getD a 0).toNat

section
variable (d7 : List (List Int)) (d8 : List Int) (d9 : List (List Int)) (e10 : List Int)
/-- The reference's step. -/
theorem ls_known (F : Fit A s N M) (S : Stable N M C) {L : List Int} {rows : List Nat} {num : List Int} (K : LK N C L rows num) (i p a : Nat) (hp : p < N.length) (ha : (a : Int) < A) (hi : i < L.length) (hr : rows.getD i 0 = p) (nxt : List Int) (hx : nxt.length = A.toNat)
    (v : Int) (hv : num.getD (C.getD (nx N p a) 0).toNat 0 = v) (h0 : 0 ≤ v) (r : Int × Int × List (List Int) × List Int)
    (E : Ev (fun k => evermoreref3_Least.l15 k (i : Int) ((a + 1 : Nat) : Int) A s N M 0 0 C num (ints rows) A 0 (nxt.set a v) d7 d8 d9 e10) r) :
    Ev (fun k => evermoreref3_Least.l15 k (i : Int) (a : Int) A s N M 0 0 C num (ints rows) A 0 nxt d7 d8 d9 e10) r := by
  have a1 := F.a1; have a4 := F.a4; have n3 := F.n3
  have hl := S.len
  have hrow := F.row p hp
  have he := F.ent p hp a ha
  have hb := K.bound S
  have hsame := K.same
  have hklen := K.len
  obtain ⟨q, hq, hqe⟩ : ∃ q : Nat, q < N.length ∧ (N.getD p []).getD a 0 = (q : Int) := ⟨((N.getD p []).getD a 0).toNat, by omega, by omega⟩
  rw [nx, hqe, Int.toNat_natCast] at hv
  have hc := S.num q hq
  have hrp : (ints rows).getD i (Int.ofNat 0) = (p : Int) := by rw [ints_getD rows i (by omega), hr]
  have hqe' : (N.getD p []).getD a (Int.ofNat 0) = (q : Int) := hqe
  have c1 : (0 : Int) ≤ C.getD q (Int.ofNat 0) := hc.1
  have c2 : C.getD q (Int.ofNat 0) < (num.length : Int) := by rw [hklen, hl]; exact hc.2
  have hv' : num.getD (C.getD q (Int.ofNat 0)).toNat 0 = v := hv
  have hv'' : num.getD (C.getD q (Int.ofNat 0)).toNat (Int.ofNat 0) = v := hv
  refine Ev.step (h := fun k => evermoreref3_Least.j21 k (i : Int) (a : Int) (q : Int) A s N M 0 0 C num (ints rows) A 0 nxt d7 d8 d9 e10) (fun k => ?_) (Ev.step (fun k => ?_) E)
  · rw [evermoreref3_Least.l15, if_pos ha, if_pos (by omega), if_pos (by rw [ints_len]; omega), Int.toNat_natCast, hrp, if_pos (by omega), if_pos (by omega), if_pos (by omega), rd_nat, if_pos (by omega), rd_nat, hqe', if_pos (by omega), if_pos (by omega), Int.toNat_natCast, if_pos c1, if_pos c2, hv'', if_neg (by omega)]
  · rw [evermoreref3_Least.j21, if_pos (by omega), if_pos (by omega), Int.toNat_natCast, if_pos c1, if_pos c2, if_pos (by omega), if_pos (by omega), wrSucc a (by omega), Int.toNat_natCast, hv'']
theorem ls_new (F : Fit A s N M) (S : Stable N M C) {L : List Int} {rows : List Nat} {num : List Int} (K : LK N C L rows num) (i p a : Nat) (hp : p < N.length) (ha : (a : Int) < A) (hi : i < L.length) (hr : rows.getD i 0 = p) (nxt : List Int) (hx : nxt.length = A.toNat)
    (hv : num.getD (C.getD (nx N p a) 0).toNat 0 < 0) (r : Int × Int × List (List Int) × List Int)
    (E : Ev (fun k => evermoreref3_Least.l15 k (i : Int) ((a + 1 : Nat) : Int) A s N M 0 0 C (num.set (C.getD (nx N p a) 0).toNat (L.length : Int)) (ints (rows ++ [nx N p a])) A 0 (nxt.set a (L.length : Int)) d7 d8 d9 e10) r) :
    Ev (fun k => evermoreref3_Least.l15 k (i : Int) (a : Int) A s N M 0 0 C num (ints rows) A 0 nxt d7 d8 d9 e10) r := by
  have a1 := F.a1; have a4 := F.a4; have n3 := F.n3
  have hl := S.len
  have hrow := F.row p hp
  have he := F.ent p hp a ha
  have hb := K.bound S
  have hsame := K.same
  have hklen := K.len
  obtain ⟨q, hq, hqe⟩ : ∃ q : Nat, q < N.length ∧ (N.getD p []).getD a 0 = (q : Int) := ⟨((N.getD p []).getD a 0).toNat, by omega, by omega⟩
  rw [nx, hqe, Int.toNat_natCast] at hv E
  have hc := S.num q hq
  have hrp : (ints rows).getD i (Int.ofNat 0) = (p : Int) := by rw [ints_getD rows i (by omega), hr]
  have hqe' : (N.getD p []).getD a (Int.ofNat 0) = (q : Int) := hqe
  have c1 : (0 : Int) ≤ C.getD q (Int.ofNat 0) := hc.1
  have c2 : C.getD q (Int.ofNat 0) < (num.length : Int) := by rw [hklen, hl]; exact hc.2
  have hv'' : num.getD (C.getD q (Int.ofNat 0)).toNat (Int.ofNat 0) < 0 := hv
  have hn2 : (num.set (C.getD q 0).toNat (L.length : Int)).getD (C.getD q 0).toNat 0 = (L.length : Int) := by rw [getD_set_int, if_pos ⟨rfl, by omega⟩]
  have hn3 : (num.set (C.getD q 0).toNat (L.length : Int)).getD (C.getD q (Int.ofNat 0)).toNat (Int.ofNat 0) = (L.length : Int) := hn2
  have c3 : C.getD q (Int.ofNat 0) < ((num.set (C.getD q 0).toNat (L.length : Int)).length : Int) := by rw [List.length_set]; exact c2
  have hie : ints rows ++ [(q : Int)] = ints (rows ++ [q]) := by simp [ints]
  refine Ev.step (h := fun k => evermoreref3_Least.j21 k (i : Int) (a : Int) (q : Int) A s N M 0 0 C (num.set (C.getD q 0).toNat (L.length : Int)) (ints (rows ++ [q])) A 0 nxt d7 d8 d9 e10) (fun k => ?_) (Ev.step (fun k => ?_) E)
  · rw [evermoreref3_Least.l15, if_pos ha, if_pos (by omega), if_pos (by rw [ints_len]; omega), Int.toNat_natCast, hrp, if_pos (by omega), if_pos (by omega), if_pos (by omega), rd_nat, if_pos (by omega), rd_nat, hqe', if_pos (by omega), if_pos (by omega), Int.toNat_natCast, if_pos c1, if_pos c2, if_pos hv'']
    rw [if_pos (show (0 : Int) ≤ (q : Int) by omega), if_pos (show (q : Int) < (C.length : Int) by omega), if_pos c1, if_pos c2, if_pos (short _ (by rw [List.length_append, ints_len, List.length_singleton]; omega)), ints_len, hsame, hie]
    rfl
  · rw [evermoreref3_Least.j21, if_pos (by omega), if_pos (by omega), Int.toNat_natCast, if_pos c1, if_pos c3, if_pos (by omega), if_pos (by omega), wrSucc a (by omega), Int.toNat_natCast, hn3]
end
/-- Two automata side by side, of which one sees the same words. -/
structure Twin (A : Int) (N : List (List Int)) (M C : List Int) (L : List Int) (rows : List Nat) (num : List Int) (N' : List (List Int)) (M' C' : List Int) (L' : List Int) (rows' : List Nat) (num' : List Int) : Prop where
  k : LK N C L rows num
  k' : LK N' C' L' rows' num'
  len : L.length = L'.length
  same : ∀ j, j < L.length → Same A N M (rows.getD j 0) N' M' (rows'.getD j 0)
theorem getD_memN {l : List Int} {i : Nat} (h : i < l.length) : l.getD i 0 ∈ l := by
  rw [List.getD_eq_getElem?_getD, List.getElem?_eq_getElem h]; exact List.getElem_mem h
theorem LK.cases (S : Stable N M C) {L : List Int} {rows : List Nat} {num : List Int} (K : LK N C L rows num) (q : Nat) (hq : q < N.length) :
    (∃ i, i < L.length ∧ L.getD i 0 = C.getD q 0 ∧ num.getD (C.getD q 0).toNat 0 = (i : Int)) ∨ (C.getD q 0 ∉ L ∧ num.getD (C.getD q 0).toNat 0 = -1) := by
  have hc := S.num q hq
  have hl := S.len
  have e : (((C.getD q 0).toNat : Nat) : Int) = C.getD q 0 := by omega
  have := K.num (C.getD q 0).toNat (by omega)
  rw [e] at this; exact this
theorem tan2 {s' : Int} {N' : List (List Int)} {M' C' : List Int} (F : Fit A s N M) (S : Stable N M C) (H : Coarse A N M C) (F' : Fit A s' N' M') (S' : Stable N' M' C') (H' : Coarse A N' M' C') (i p p' : Nat) (hp : p < N.length) (hp' : p' < N'.length) (hs : Same A N M p N' M' p') (Rch : Nat → Prop) (hRp : ∀ a : Nat, (a : Int) < A → Rch (nx N p a)) (d7 : List (List Int)) (d8 : List Int) (d9 : List (List Int)) (e10 : List Int) :
    ∀ n a L rows num L' rows' num' nxt, A.toNat - a = n → (a : Int) ≤ A → Twin A N M C L rows num N' M' C' L' rows' num' → i < L.length → rows.getD i 0 = p → rows'.getD i 0 = p' → nxt.length = A.toNat → (∀ j, j < L.length → Rch (rows.getD j 0)) →
    (∀ j, j < a → ∃ t : Nat, t < L.length ∧ nxt.getD j 0 = (t : Int) ∧ Same A N M (rows.getD t 0) N M (nx N p j)) →
    ∃ L1 rows1 num1 L1' rows1' num1' nxt', Twin A N M C L1 rows1 num1 N' M' C' L1' rows1' num1' ∧ L.length ≤ L1.length ∧ (∀ j, j < L.length → rows1.getD j 0 = rows.getD j 0) ∧ rows1.getD i 0 = p ∧ rows1'.getD i 0 = p' ∧ nxt'.length = A.toNat ∧ (∀ j, j < L1.length → Rch (rows1.getD j 0)) ∧
      (∀ j, j < A.toNat → ∃ t : Nat, t < L1.length ∧ nxt'.getD j 0 = (t : Int) ∧ Same A N M (rows1.getD t 0) N M (nx N p j)) ∧
      (∀ r, Ev (fun k => evermoreref3_Least.l15 k (i : Int) A A s N M 0 0 C num1 (ints rows1) A 0 nxt' d7 d8 d9 e10) r → Ev (fun k => evermoreref3_Least.l15 k (i : Int) (a : Int) A s N M 0 0 C num (ints rows) A 0 nxt d7 d8 d9 e10) r) ∧
      (∀ r, Ev (fun k => evermoreref3_Least.l15 k (i : Int) A A s' N' M' 0 0 C' num1' (ints rows1') A 0 nxt' d7 d8 d9 e10) r → Ev (fun k => evermoreref3_Least.l15 k (i : Int) (a : Int) A s' N' M' 0 0 C' num' (ints rows') A 0 nxt d7 d8 d9 e10) r) := by
  have a1 := F.a1; have a4 := F.a4; have n3 := F.n3
  intro n
  induction n with
  | zero =>
    intro a L rows num L' rows' num' nxt hn ha T hi hr hr' hx hR hv
    have haa : a = A.toNat := by omega
    have : (a : Int) = A := by omega
    rw [this]
    exact ⟨L, rows, num, L', rows', num', nxt, T, Nat.le_refl _, fun j hj => rfl, hr, hr', hx, hR, fun j hj => hv j (by omega), fun r E => E, fun r E => E⟩
  | succ n ih =>
    intro a L rows num L' rows' num' nxt hn ha T hi hr hr' hx hR hv
    have haA : (a : Int) < A := by omega
    have he := F.ent p hp a haA
    have he' := F'.ent p' hp' a haA
    have hq : nx N p a < N.length := by rw [nx]; omega
    have hq' : nx N' p' a < N'.length := by rw [nx]; omega
    have hsn : Same A N M (nx N p a) N' M' (nx N' p' a) := hs.next a haA
    have hlen := T.len
    have hi' : i < L'.length := by omega
    have hset : ∀ (v : Int) j, j < a + 1 → (nxt.set a v).getD j 0 = if j = a then v else nxt.getD j 0 := by
      intro v j hj
      rw [getD_set_int]
      by_cases e : j = a
      · rw [if_pos ⟨e.symm, by omega⟩, if_pos e]
      · rw [if_neg (fun h => e h.1.symm), if_neg e]
    rcases T.k.cases S _ hq with ⟨j, h1, h2, h3⟩ | ⟨h1, h2⟩
    · -- known
      have hj := T.k.row j h1
      have hsj : Same A N M (rows.getD j 0) N M (nx N p a) := S.same F hj.1 hq (hj.2.trans h2)
      have hj' := T.k'.row j (by omega)
      have hc' : C'.getD (rows'.getD j 0) 0 = C'.getD (nx N' p' a) 0 := H' _ _ hj'.1 hq' (((T.same j h1).symm.trans hsj).trans hsn)
      have hnum' : num'.getD (C'.getD (nx N' p' a) 0).toNat 0 = (j : Int) := by
        rcases T.k'.cases S' _ hq' with ⟨j2, g1, g2, g3⟩ | ⟨g1, g2⟩
        · have : j2 = j := by
            have pw := List.pairwise_iff_getElem.1 T.k'.nd
            have e1 : L'.getD j2 0 = L'[j2] := by rw [List.getD_eq_getElem?_getD, List.getElem?_eq_getElem g1]; rfl
            have e2 : L'.getD j 0 = L'[j]'(by omega) := by rw [List.getD_eq_getElem?_getD, List.getElem?_eq_getElem (by omega)]; rfl
            have e3 : L'.getD j2 0 = L'.getD j 0 := by rw [g2, ← hc', hj'.2]
            rw [e1, e2] at e3
            rcases Nat.lt_trichotomy j2 j with h | h | h
            · exact absurd e3 (pw j2 j g1 (by omega) h)
            · exact h
            · exact absurd e3.symm (pw j j2 (by omega) g1 h)
          rw [g3, this]
        · exfalso; apply g1; rw [← hc', hj'.2]; exact getD_memN (by omega)
      obtain ⟨L1, rows1, num1, L1', rows1', num1', nxt', q1, q2, q3, q4, q5, q6, qR, q7, q8, q9⟩ := ih (a + 1) L rows num L' rows' num' (nxt.set a (j : Int)) (by omega) (by omega) T hi hr hr' (by rw [List.length_set]; exact hx) hR (fun b hb => by
        rw [hset _ _ hb]
        by_cases e : b = a
        · rw [if_pos e]; exact ⟨j, h1, rfl, by rw [e]; exact hsj⟩
        · rw [if_neg e]; exact hv b (by omega))
      exact ⟨L1, rows1, num1, L1', rows1', num1', nxt', q1, q2, q3, q4, q5, q6, qR, q7,
        fun r E => ls_known d7 d8 d9 e10 F S T.k i p a hp haA hi hr nxt hx (j : Int) h3 (by omega) r (q8 r E),
        fun r E => ls_known d7 d8 d9 e10 F' S' T.k' i p' a hp' haA hi' hr' nxt hx (j : Int) hnum' (by omega) r (q9 r E)⟩
    · -- new
      have hnum' : C'.getD (nx N' p' a) 0 ∉ L' ∧ num'.getD (C'.getD (nx N' p' a) 0).toNat 0 = -1 := by
        rcases T.k'.cases S' _ hq' with ⟨j, g1, g2, g3⟩ | h
        · exfalso
          have hj' := T.k'.row j g1
          have hj := T.k.row j (by omega)
          have hsj : Same A N' M' (rows'.getD j 0) N' M' (nx N' p' a) := S'.same F' hj'.1 hq' (hj'.2.trans g2)
          have := H _ _ hj.1 hq (((T.same j (by omega)).trans hsj).trans hsn.symm)
          apply h1; rw [← this, hj.2]; exact getD_memN (by omega)
        · exact h
      have K2 := T.k.push S _ hq h1
      have K2' := T.k'.push S' _ hq' hnum'.1
      have hrl := T.k.same
      have hrl' := T.k'.same
      have T2 : Twin A N M C (L ++ [C.getD (nx N p a) 0]) (rows ++ [nx N p a]) (num.set (C.getD (nx N p a) 0).toNat (L.length : Int)) N' M' C' (L' ++ [C'.getD (nx N' p' a) 0]) (rows' ++ [nx N' p' a]) (num'.set (C'.getD (nx N' p' a) 0).toNat (L'.length : Int)) := by
        refine ⟨K2, K2', by simp [hlen], fun j hj => ?_⟩
        rw [List.length_append, List.length_singleton] at hj
        by_cases h : j < L.length
        · rw [getD_app_left _ _ _ (by omega), getD_app_left _ _ _ (by omega)]; exact T.same j h
        · have e : j = rows.length := by omega
          have e' : j = rows'.length := by omega
          rw [show (rows ++ [nx N p a]).getD j 0 = nx N p a by rw [e, getD_app_last], show (rows' ++ [nx N' p' a]).getD j 0 = nx N' p' a by rw [e', getD_app_last]]
          exact hsn
      obtain ⟨L1, rows1, num1, L1', rows1', num1', nxt', q1, q2, q3, q4, q5, q6, qR, q7, q8, q9⟩ := ih (a + 1) _ _ _ _ _ _ (nxt.set a (L.length : Int)) (by omega) (by omega) T2 (by rw [List.length_append]; omega) (by rw [getD_app_left _ _ _ (by omega)]; exact hr) (by rw [getD_app_left _ _ _ (by omega)]; exact hr') (by rw [List.length_set]; exact hx) (fun j hj => by
        rw [List.length_append, List.length_singleton] at hj
        by_cases h : j < L.length
        · rw [getD_app_left _ _ _ (by omega)]; exact hR j h
        · have e : j = rows.length := by omega
          rw [show (rows ++ [nx N p a]).getD j 0 = nx N p a by rw [e, getD_app_last]]; exact hRp a haA) (fun b hb => by
        rw [hset _ _ hb, List.length_append, List.length_singleton]
        by_cases e : b = a
        · rw [if_pos e]; exact ⟨L.length, by omega, rfl, by rw [e, ← hrl, getD_app_last]; exact Same.refl _⟩
        · rw [if_neg e]
          obtain ⟨t, t1, t2, t3⟩ := hv b (by omega)
          exact ⟨t, by omega, t2, by rw [getD_app_left _ _ _ (by omega)]; exact t3⟩)
      rw [List.length_append, List.length_singleton] at q2 q3
      refine ⟨L1, rows1, num1, L1', rows1', num1', nxt', q1, by omega, fun j hj => by rw [q3 j (by omega), getD_app_left _ _ _ (by omega)], q4, q5, q6, qR, q7,
        fun r E => ls_new d7 d8 d9 e10 F S T.k i p a hp haA hi hr nxt hx (by omega) r (q8 r E),
        fun r E => ls_new d7 d8 d9 e10 F' S' T.k' i p' a hp' haA hi' hr' nxt hx (by omega) r ?_⟩
      rw [← hlen]
      have := q9 r E
      rw [← hlen] at this
      exact this
end Go.Proofs.YtfkilmmldjajmaaSx.DC
namespace Go.Proofs.YtfkilmmldjajmaaSx.DC
variable {A s : Int} {N : List (List Int)} {M : List Int} {C : List Int}
theorem ev_det {α : Type} {g : Nat → Option α} {r r' : α} (h : Ev g r) (h' : Ev g r') : r = r' := by
  obtain ⟨a, h⟩ := h
  obtain ⟨b, h'⟩ := h'
  have e1 := h (max a b) (by omega)
  have e2 := h' (max a b) (by omega)
  rw [e1] at e2; exact Option.some.inj e2
/-- What is known of the rows that are made: each row's state, and where its letters lead. -/
structure Led (A : Int) (N : List (List Int)) (M : List Int) (rows : List Nat) (m : Nat) (X : List (List Int)) (Y : List Int) : Prop where
  mark : ∀ j, j < X.length → Y.getD j 0 = M.getD (rows.getD j 0) 0
  row : ∀ j, j < X.length → ∀ a : Nat, (a : Int) < A → ∃ t : Nat, t < m ∧ (X.getD j []).getD a 0 = (t : Int) ∧ Same A N M (rows.getD t 0) N M (nx N (rows.getD j 0) a)
theorem getD_appW (l : List (List Int)) (b : List Int) (i : Nat) (h : i < l.length) : (l ++ [b]).getD i [] = l.getD i [] := by
  rw [List.getD_eq_getElem?_getD, List.getElem?_append_left h, ← List.getD_eq_getElem?_getD]
theorem getD_lastW (l : List (List Int)) (b : List Int) : (l ++ [b]).getD l.length [] = b := by
  rw [List.getD_eq_getElem?_getD, List.getElem?_append_right (Nat.le_refl _), Nat.sub_self]; rfl
theorem getD_appI (l : List Int) (b : Int) (i : Nat) (h : i < l.length) : (l ++ [b]).getD i 0 = l.getD i 0 := by
  rw [List.getD_eq_getElem?_getD, List.getElem?_append_left h, ← List.getD_eq_getElem?_getD]
theorem getD_lastI (l : List Int) (b : Int) : (l ++ [b]).getD l.length 0 = b := by
  rw [List.getD_eq_getElem?_getD, List.getElem?_append_right (Nat.le_refl _), Nat.sub_self]; rfl
theorem out2 {s' : Int} {N' : List (List Int)} {M' C' : List Int} (F : Fit A s N M) (S : Stable N M C) (H : Coarse A N M C) (F' : Fit A s' N' M') (S' : Stable N' M' C') (H' : Coarse A N' M' C') (Rch : Nat → Prop) (hRp : ∀ p a : Nat, p < N.length → (a : Int) < A → Rch p → Rch (nx N p a)) :
    ∀ n i L rows num L' rows' num' X Y, N.length - i = n → Twin A N M C L rows num N' M' C' L' rows' num' → i ≤ L.length → X.length = i → Y.length = i → Led A N M rows L.length X Y → (∀ j, j < L.length → Rch (rows.getD j 0)) →
    ∃ rf X1 Y1, ((∀ j, j < X1.length → Rch (rf.getD j 0)) ∧ ∀ j j', j < X1.length → j' < X1.length → C.getD (rf.getD j 0) 0 = C.getD (rf.getD j' 0) 0 → j = j') ∧ Led A N M rf X1.length X1 Y1 ∧ Y1.length = X1.length ∧ (∀ j, j < X1.length → rf.getD j 0 < N.length) ∧ L.length ≤ X1.length ∧ (∀ j, j < L.length → rf.getD j 0 = rows.getD j 0) ∧
      Ev (fun k => evermoreref3_Least.l11 k (i : Int) A s N M 0 0 C num (ints rows) A 0 [] [] X Y) (A, 0, X1, Y1) ∧
      Ev (fun k => evermoreref3_Least.l11 k (i : Int) A s' N' M' 0 0 C' num' (ints rows') A 0 [] [] X Y) (A, 0, X1, Y1) := by
  have a1 := F.a1; have a4 := F.a4; have n3 := F.n3; have n3' := F'.n3
  intro n
  have fin : ∀ i L rows num L' rows' num' X Y, Twin A N M C L rows num N' M' C' L' rows' num' → i = L.length → X.length = i → Y.length = i → Led A N M rows L.length X Y → (∀ j, j < L.length → Rch (rows.getD j 0)) →
    ∃ rf X1 Y1, ((∀ j, j < X1.length → Rch (rf.getD j 0)) ∧ ∀ j j', j < X1.length → j' < X1.length → C.getD (rf.getD j 0) 0 = C.getD (rf.getD j' 0) 0 → j = j') ∧ Led A N M rf X1.length X1 Y1 ∧ Y1.length = X1.length ∧ (∀ j, j < X1.length → rf.getD j 0 < N.length) ∧ L.length ≤ X1.length ∧ (∀ j, j < L.length → rf.getD j 0 = rows.getD j 0) ∧
      Ev (fun k => evermoreref3_Least.l11 k (i : Int) A s N M 0 0 C num (ints rows) A 0 [] [] X Y) (A, 0, X1, Y1) ∧
      Ev (fun k => evermoreref3_Least.l11 k (i : Int) A s' N' M' 0 0 C' num' (ints rows') A 0 [] [] X Y) (A, 0, X1, Y1) := by
    intro i L rows num L' rows' num' X Y T hi hX hY hL hR
    have h1 := T.k.same; have h2 := T.k'.same; have h3 := T.len
    refine ⟨rows, X, Y, ⟨fun j hj => hR j (by omega), fun j j' hj hj' e => ?_⟩, by rw [hX, hi]; exact hL, by omega, fun j hj => (T.k.row j (by omega)).1, by omega, fun j hj => rfl, Ev.step (h := fun _ => some (A, 0, X, Y)) (fun k => ?_) (Ev.now _), Ev.step (h := fun _ => some (A, 0, X, Y)) (fun k => ?_) (Ev.now _)⟩
    · rw [(T.k.row j (by omega)).2, (T.k.row j' (by omega)).2] at e
      have pw := List.pairwise_iff_getElem.1 T.k.nd
      have e1 : L.getD j 0 = L[j]'(by omega) := by rw [List.getD_eq_getElem?_getD, List.getElem?_eq_getElem (by omega)]; rfl
      have e2 : L.getD j' 0 = L[j']'(by omega) := by rw [List.getD_eq_getElem?_getD, List.getElem?_eq_getElem (by omega)]; rfl
      rw [e1, e2] at e
      rcases Nat.lt_trichotomy j j' with h | h | h
      · exact absurd e (pw j j' (by omega) (by omega) h)
      · exact h
      · exact absurd e.symm (pw j' j (by omega) (by omega) h)
    · rw [evermoreref3_Least.l11, if_neg (by rw [ints_len]; omega)]
    · rw [evermoreref3_Least.l11, if_neg (by rw [ints_len]; omega)]
  induction n with
  | zero =>
    intro i L rows num L' rows' num' X Y hn T hi hX hY hL hR
    have := T.k.bound S
    exact fin i L rows num L' rows' num' X Y T (by omega) hX hY hL hR
  | succ n ih =>
    intro i L rows num L' rows' num' X Y hn T hi hX hY hL hR
    by_cases hiL : i < L.length
    · have h3 := T.len
      obtain ⟨hp, hpe⟩ := T.k.row i hiL
      obtain ⟨hp', hpe'⟩ := T.k'.row i (by omega)
      have hs := T.k.same
      have hs' := T.k'.same
      have hb := T.k.bound S
      obtain ⟨L1, rows1, num1, L1', rows1', num1', nxt', q1, q2, q3, q4, q5, q6, qR, q7, q8, q9⟩ := tan2 F S H F' S' H' i (rows.getD i 0) (rows'.getD i 0) hp hp' (T.same i hiL) Rch (fun a ha => hRp _ a hp ha (hR i hiL)) [] [] X Y _ 0 L rows num L' rows' num' (List.replicate A.toNat 0) rfl (by omega) T hiL rfl rfl (by simp) hR (fun j hj => by omega)
      have hs1 := q1.k.same
      have hs1' := q1.k'.same
      have hb1 := q1.k.bound S
      have h31 := q1.len
      have hm := F.m
      have hm' := F'.m
      have hmm := (T.same i hiL).mark
      have hL2 : Led A N M rows1 L1.length (X ++ [nxt']) (Y ++ [M.getD (rows.getD i 0) 0]) := by
        refine ⟨fun j hj => ?_, fun j hj a ha => ?_⟩
        · rw [List.length_append, List.length_singleton] at hj
          by_cases h : j < X.length
          · rw [getD_appI _ _ _ (by omega), q3 j (by omega)]; exact hL.mark j h
          · have e : j = Y.length := by omega
            have e2 : j = i := by omega
            rw [show (Y ++ [M.getD (rows.getD i 0) 0]).getD j 0 = M.getD (rows.getD i 0) 0 by rw [e, getD_lastI], q3 j (by omega), e2]
        · rw [List.length_append, List.length_singleton] at hj
          by_cases h : j < X.length
          · rw [getD_appW _ _ _ h]
            obtain ⟨t, t1, t2, t3⟩ := hL.row j h a ha
            exact ⟨t, by omega, t2, by rw [q3 t t1, q3 j (by omega)]; exact t3⟩
          · have e : j = X.length := by omega
            have e2 : j = i := by omega
            rw [show (X ++ [nxt']).getD j [] = nxt' by rw [e, getD_lastW]]
            obtain ⟨t, t1, t2, t3⟩ := q7 a (by omega)
            exact ⟨t, t1, t2, by rw [e2, q4]; exact t3⟩
      obtain ⟨rf, X1, Y1, m0, m1, m2, m3, m4, m5, e1, e2⟩ := ih (i + 1) L1 rows1 num1 L1' rows1' num1' (X ++ [nxt']) (Y ++ [M.getD (rows.getD i 0) 0]) (by omega) q1 (by omega) (by simp [hX]) (by simp [hY]) hL2 qR
      have hb1' := q1.k'.bound S'
      refine ⟨rf, X1, Y1, m0, m1, m2, m3, by omega, fun j hj => by rw [m5 j (by omega), q3 j hj], Ev.step (fun k => ?_) (q8 _ (Ev.step (fun k => ?_) e1)), Ev.step (fun k => ?_) (q9 _ (Ev.step (fun k => ?_) e2))⟩
      · rw [evermoreref3_Least.l11, if_pos (by rw [ints_len]; omega), if_pos (by omega), if_pos (by omega), if_pos (by omega)]
        rfl
      · have hrp : (ints rows1).getD i (Int.ofNat 0) = ((rows.getD i 0 : Nat) : Int) := by rw [ints_getD rows1 i (by omega), q4]
        rw [evermoreref3_Least.l15, if_neg (by omega), if_pos (short _ (by simp; omega)), if_pos (by omega), if_pos (by rw [ints_len]; omega), Int.toNat_natCast, hrp, if_pos (by omega), if_pos (by omega), rd_nat]
        rw [wrSucc i (by omega)]
        exact if_pos (short _ (by simp; omega))
      · rw [evermoreref3_Least.l11, if_pos (by rw [ints_len]; omega), if_pos (by omega), if_pos (by omega), if_pos (by omega)]
        rfl
      · have hrp : (ints rows1').getD i (Int.ofNat 0) = ((rows'.getD i 0 : Nat) : Int) := by rw [ints_getD rows1' i (by omega), q5]
        rw [evermoreref3_Least.l15, if_neg (by omega), if_pos (short _ (by simp; omega)), if_pos (by omega), if_pos (by rw [ints_len]; omega), Int.toNat_natCast, hrp, if_pos (by omega), if_pos (by omega), rd_nat]
        rw [wrSucc i (by omega), hmm]
        exact if_pos (short _ (by simp; omega))
    · exact fin i L rows num L' rows' num' X Y T (by omega) hX hY hL hR
theorem LK.init (F : Fit A s N M) (S : Stable N M C) : LK N C [C.getD s.toNat 0] [s.toNat] ((List.replicate C.length (-1 : Int)).set (C.getD s.toNat 0).toNat 0) := by
  have hl := S.len
  have hs := F.s
  have hc := S.num s.toNat (by omega)
  refine ⟨rfl, fun i hi => ?_, by simp, by simp, fun c hcc => ?_⟩
  · have : i = 0 := by simp at hi; omega
    subst this; exact ⟨by show s.toNat < _; omega, rfl⟩
  · rw [getD_set_int]
    by_cases e : (C.getD s.toNat 0).toNat = c
    · rw [if_pos ⟨e, by simpa using hcc⟩]; exact .inl ⟨0, by simp, by show C.getD s.toNat 0 = _; omega, rfl⟩
    · rw [if_neg (fun h => e h.1)]
      refine .inr ⟨fun h => ?_, ?_⟩
      · rw [List.mem_singleton] at h; omega
      · rw [List.getD_eq_getElem?_getD, List.getElem?_replicate, if_pos hcc]; rfl
theorem least_start (F : Fit A s N M) (S : Stable N M C) (c2 : Ev (fun k => evermoreref3_Classes.f k (A, s, N, M, ())) C) {X : List (List Int)} {Y : List Int}
    (e2 : Ev (fun k => evermoreref3_Least.l11 k ((0 : Nat) : Int) A s N M 0 0 C ((List.replicate C.length (-1 : Int)).set (C.getD s.toNat 0).toNat 0) (ints [s.toNat]) A 0 [] [] [] []) (A, 0, X, Y)) : Ev (fun k => evermoreref3_Least.f k (A, s, N, M, ())) (A, 0, X, Y) := by
  have n3 := F.n3
  have hl := S.len
  have hs := F.s
  simp only [evermoreref3_Least.f]
  refine Ev.bind c2 ?_
  have e2' : Ev (fun k => evermoreref3_Least.l11 k 0 A s N M 0 0 C ((List.replicate C.length (-1 : Int)).set (C.getD s.toNat 0).toNat 0) [s] A 0 [] [] [] []) (A, 0, X, Y) := by
    have : ints [s.toNat] = [s] := by show [((s.toNat : Nat) : Int)] = [s]; rw [show ((s.toNat : Nat) : Int) = s by omega]
    rw [this] at e2; exact e2
  refine Ev_eq (fun k => ?_) (minus S F _ e2' _ 0 rfl (by omega))
  rw [if_pos (by omega), if_pos (by omega), if_pos (by omega), Int.toNat_natCast]
  rfl
/-- Least: words tell all states apart, and come to each. -/
structure Lst (A : Int) (X : List (List Int)) (Y : List Int) : Prop where
  min : ∀ j j', j < X.length → j' < X.length → Same A X Y j X Y j' → j = j'
  reach : ∀ j, j < X.length → ∃ w : List Nat, (∀ a ∈ w, (a : Int) < A) ∧ aft X 0 w = j
theorem aft_app (N : List (List Int)) : ∀ (w w' : List Nat) (q : Nat), aft N q (w ++ w') = aft N (aft N q w) w' := by
  intro w
  induction w with
  | nil => intro w' q; rfl
  | cons a w ih => intro w' q; exact ih w' _
/-- Two automata that no word tells apart have one least automaton, and it is as they are. -/
theorem least_same {s' : Int} {N' : List (List Int)} {M' : List Int} (F : Fit A s N M) (F' : Fit A s' N' M') (h : Same A N M s.toNat N' M' s'.toNat) :
    ∃ X Y, Ev (fun k => evermoreref3_Least.f k (A, s, N, M, ())) (A, 0, X, Y) ∧ Ev (fun k => evermoreref3_Least.f k (A, s', N', M', ())) (A, 0, X, Y) ∧ Same A X Y 0 N M s.toNat ∧ Lst A X Y := by
  obtain ⟨C, S, H, _, c2⟩ := classes_ev F
  obtain ⟨C', S', H', _, c2'⟩ := classes_ev F'
  obtain ⟨rf, X, Y, m0, m1, m2, m3, m4, m5, e1, e2⟩ := out2 F S H F' S' H' (fun p => ∃ w : List Nat, (∀ a ∈ w, (a : Int) < A) ∧ aft N s.toNat w = p) (fun p a hp ha h => by
    obtain ⟨w, hw, e⟩ := h
    refine ⟨w ++ [a], fun b hb => ?_, ?_⟩
    · rcases List.mem_append.1 hb with h | h
      · exact hw b h
      · rw [List.mem_singleton] at h; rw [h]; exact ha
    · rw [aft_app, e]; rfl) _ 0 _ _ _ _ _ _ [] [] rfl ⟨LK.init F S, LK.init F' S', rfl, fun j hj => by
    have : j = 0 := by simp at hj; omega
    subst this; exact h⟩ (by simp) rfl rfl ⟨fun j hj => by simp at hj, fun j hj => by simp at hj⟩ (fun j hj => by
    have : j = 0 := by simp at hj; omega
    subst this; exact ⟨[], fun a ha => by simp at ha, rfl⟩)
  have hs := F.s
  have sim : ∀ j q, j < X.length → Same A N M (rf.getD j 0) N M q → Same A X Y j N M q := by
    intro j q h1 h2
    refine Same.of (fun j q => j < X.length ∧ Same A N M (rf.getD j 0) N M q) (fun j q hjq => ?_) (fun j q a hjq ha => ?_) j q ⟨h1, h2⟩
    · rw [m1.mark j hjq.1]; exact hjq.2.mark
    · obtain ⟨t, t1, t2, t3⟩ := m1.row j hjq.1 a ha
      rw [t2, Int.toNat_natCast]
      exact ⟨t1, t3.trans (hjq.2.next a ha)⟩
  have h0 : 0 < X.length := by simp at m4; omega
  have hrf0 : rf.getD 0 0 = s.toNat := m5 0 (by simp)
  have walk : ∀ w : List Nat, (∀ a ∈ w, (a : Int) < A) → ∀ j q, j < X.length → Same A N M (rf.getD j 0) N M q → aft X j w < X.length ∧ Same A N M (rf.getD (aft X j w) 0) N M (aft N q w) := by
    intro w
    induction w with
    | nil => intro _ j q h1 h2; exact ⟨h1, h2⟩
    | cons a w ih =>
      intro hw j q h1 h2
      obtain ⟨t, t1, t2, t3⟩ := m1.row j h1 a (hw a List.mem_cons_self)
      have := ih (fun b hb => hw b (List.mem_cons_of_mem _ hb)) t (nx N q a) t1 (t3.trans (h2.next a (hw a List.mem_cons_self)))
      rw [aft, t2, Int.toNat_natCast]; exact this
  refine ⟨X, Y, least_start F S c2 e1, least_start F' S' c2' e2, sim 0 _ h0 (by rw [hrf0]; exact Same.refl _), ⟨fun j j' hj hj' h => ?_, fun j hj => ?_⟩⟩
  · refine m0.2 j j' hj hj' (H _ _ (m3 j hj) (m3 j' hj') ?_)
    exact ((sim j _ hj (Same.refl _)).symm.trans h).trans (sim j' _ hj' (Same.refl _))
  · obtain ⟨w, hw, e⟩ := m0.1 j hj
    obtain ⟨w1, w2⟩ := walk w hw 0 s.toNat h0 (by rw [hrf0]; exact Same.refl _)
    refine ⟨w, hw, m0.2 _ _ w1 hj (H _ _ (m3 _ w1) (m3 j hj) ?_)⟩
    rw [e] at w2; exact w2
/-- det.Smallest of one automaton is the reference's least of another one that no word tells from it. -/
theorem small_same {s' : Int} {N' : List (List Int)} {M' : List Int} (F : Fit A s N M) (F' : Fit A s' N' M') (h : Same A N M s.toNat N' M' s'.toNat) :
    ∃ X Y, Fit A 0 X Y ∧ Ev (fun k => det_Smallest.f k (A, s, N, M, ())) (A, 0, X, Y) ∧ Ev (fun k => evermoreref3_Least.f k (A, s', N', M', ())) (A, 0, X, Y) ∧ Same A X Y 0 N M s.toNat ∧ Lst A X Y := by
  obtain ⟨X, Y, m1, m2, m3, m4, e1, e2⟩ := least_ev F
  obtain ⟨X2, Y2, f1, f2, f3⟩ := least_same F F' h
  have := ev_det e2 f1
  have ex : X = X2 := congrArg (fun r : Int × Int × List (List Int) × List Int => r.2.2.1) this
  have ey : Y = Y2 := congrArg (fun r : Int × Int × List (List Int) × List Int => r.2.2.2) this
  subst ex; subst ey
  exact ⟨X, Y, fit_of F m1 m2 m3 m4, e1, f2, f3⟩
end Go.Proofs.YtfkilmmldjajmaaSx.DC
namespace Go.Proofs.YtfkilmmldjajmaaSx.DC
/-! States that are told by keys, numbered as they are come to. -/
section
variable {κ R : Type} (A : Nat) (nf : κ → Nat → κ) (mf : κ → Int) (V : κ → Prop) (B : Nat)
/-- What holds of the keys that were come to. -/
structure KOk (V : κ → Prop) (B : Nat) (L : List κ) : Prop where
  nd : L.Nodup
  v : ∀ k ∈ L, V k
  le : L.length ≤ B
/-- A search by keys: g8 is the loop over letters (keys, the key, what the letters so far lead to, rows, marks), g4 the loop over keys. -/
structure Sys (R : Type) where
  g8 : Nat → List κ → κ → List Int → List (List Int) → List Int → Nat → Option R
  g4 : List κ → List (List Int) → List Int → Nat → Option R
  fin : List (List Int) → List Int → Nat → Option R
  known : ∀ a L k row X Y r i, a < A → KOk V B L → k ∈ L → row.length = a → X.length < L.length → L[X.length]? = some k → (h : i < L.length) → L[i] = nf k a → Ev (g8 (a + 1) L k (row ++ [(i : Int)]) X Y) r → Ev (g8 a L k row X Y) r
  new : ∀ a L k row X Y r, a < A → KOk V B L → k ∈ L → row.length = a → X.length < L.length → L[X.length]? = some k → nf k a ∉ L → KOk V B (L ++ [nf k a]) → Ev (g8 (a + 1) (L ++ [nf k a]) k (row ++ [(L.length : Int)]) X Y) r → Ev (g8 a L k row X Y) r
  done : ∀ L k row X Y r, KOk V B L → k ∈ L → row.length = A → X.length < L.length → L[X.length]? = some k → Y.length = X.length → Ev (g4 L (X ++ [row]) (Y ++ [mf k])) r → Ev (g8 A L k row X Y) r
  start : ∀ L X Y r (h : X.length < L.length), KOk V B L → Y.length = X.length → Ev (g8 0 L L[X.length] [] X Y) r → Ev (g4 L X Y) r
  stop : ∀ L X Y r, KOk V B L → X.length = L.length → Y.length = X.length → Ev (fin X Y) r → Ev (g4 L X Y) r
variable {A nf mf V B}
/-- What a search has made: of each key a row, and where its letters lead. -/
structure Rows (A : Nat) (nf : κ → Nat → κ) (mf : κ → Int) (L : List κ) (X : List (List Int)) (Y : List Int) : Prop where
  len : Y.length = X.length
  le : X.length ≤ L.length
  row : ∀ i (h : i < X.length), (X.getD i []).length = A ∧ Y.getD i 0 = mf (L[i]'(by omega)) ∧ ∀ a, a < A → ∃ j, ∃ hj : j < L.length, (X.getD i []).getD a 0 = (j : Int) ∧ L[j] = nf (L[i]'(by omega)) a
variable {R' : Type} (hV : ∀ k a, V k → a < A → V (nf k a)) (hB : ∀ L : List κ, L.Nodup → (∀ k ∈ L, V k) → L.length ≤ B)
include hV hB
theorem KOk.push {L : List κ} (K : KOk V B L) {k : κ} (hk : k ∈ L) {a : Nat} (ha : a < A) (hn : nf k a ∉ L) : KOk V B (L ++ [nf k a]) := by
  have h1 : (L ++ [nf k a]).Nodup := by
    rw [List.nodup_append]
    refine ⟨K.nd, by simp, fun x hx b hb => ?_⟩
    rw [List.mem_singleton] at hb
    intro e; exact hn (hb ▸ e ▸ hx)
  have h2 : ∀ x ∈ L ++ [nf k a], V x := by
    intro x hx
    rcases List.mem_append.1 hx with h | h
    · exact K.v x h
    · rw [List.mem_singleton] at h; rw [h]; exact hV k a (K.v k hk) ha
  exact ⟨h1, h2, hB _ h1 h2⟩
theorem sys_inner (S : Sys A nf mf V B R) (S' : Sys A nf mf V B R') (k : κ) (X : List (List Int)) (Y : List Int) : ∀ n a L row, A - a = n → a ≤ A → KOk V B L → k ∈ L → row.length = a → X.length < L.length → L[X.length]? = some k →
    (∀ b, b < a → ∃ j, ∃ hj : j < L.length, row.getD b 0 = (j : Int) ∧ L[j] = nf k b) →
    ∃ L' row', KOk V B (L ++ L') ∧ row'.length = A ∧ (∀ b, b < A → ∃ j, ∃ hj : j < (L ++ L').length, row'.getD b 0 = (j : Int) ∧ (L ++ L')[j] = nf k b) ∧
      (∀ r, Ev (S.g8 A (L ++ L') k row' X Y) r → Ev (S.g8 a L k row X Y) r) ∧ (∀ r, Ev (S'.g8 A (L ++ L') k row' X Y) r → Ev (S'.g8 a L k row X Y) r) := by
  intro n
  induction n with
  | zero =>
    intro a L row hn ha K hk hr hx hkx hv
    have : a = A := by omega
    subst this
    refine ⟨[], row, by rw [List.append_nil]; exact K, hr, fun b hb => ?_, fun r E => ?_, fun r E => ?_⟩
    · obtain ⟨j, hj, e1, e2⟩ := hv b hb
      exact ⟨j, by rw [List.append_nil]; exact hj, e1, by simpa using e2⟩
    · rw [List.append_nil] at E; exact E
    · rw [List.append_nil] at E; exact E
  | succ n ih =>
    intro a L row hn ha K hk hr hx hkx hv
    have haA : a < A := by omega
    by_cases hm : nf k a ∈ L
    · obtain ⟨i, hi, e⟩ := List.getElem_of_mem hm
      obtain ⟨L', row', q1, q2, q3, q4, q5⟩ := ih (a + 1) L (row ++ [(i : Int)]) (by omega) (by omega) K hk (by simp [hr]) hx hkx (fun b hb => by
        by_cases h : b < a
        · obtain ⟨j, hj, e1, e2⟩ := hv b h
          exact ⟨j, hj, by rw [getD_appI _ _ _ (by omega)]; exact e1, e2⟩
        · have : b = a := by omega
          subst this
          exact ⟨i, hi, by rw [← hr, getD_lastI], e⟩)
      exact ⟨L', row', q1, q2, q3, fun r E => S.known a L k row X Y r i haA K hk hr hx hkx hi e (q4 r E), fun r E => S'.known a L k row X Y r i haA K hk hr hx hkx hi e (q5 r E)⟩
    · have K2 := K.push hV hB hk haA hm
      obtain ⟨L', row', q1, q2, q3, q4, q5⟩ := ih (a + 1) (L ++ [nf k a]) (row ++ [(L.length : Int)]) (by omega) (by omega) K2 (List.mem_append_left _ hk) (by simp [hr]) (by simp; omega) (by rw [List.getElem?_append_left hx]; exact hkx) (fun b hb => by
        by_cases h : b < a
        · obtain ⟨j, hj, e1, e2⟩ := hv b h
          exact ⟨j, by simp; omega, by rw [getD_appI _ _ _ (by omega)]; exact e1, by rw [List.getElem_append_left hj]; exact e2⟩
        · have : b = a := by omega
          subst this
          exact ⟨L.length, by simp, by rw [← hr, getD_lastI], by simp⟩)
      have e : L ++ (nf k a :: L') = L ++ [nf k a] ++ L' := by simp
      refine ⟨nf k a :: L', row', by rw [e]; exact q1, q2, fun b hb => ?_, fun r E => ?_, fun r E => ?_⟩
      · obtain ⟨j, hj, e1, e2⟩ := q3 b hb
        exact ⟨j, by rw [e]; exact hj, e1, by simpa only [e] using e2⟩
      · rw [e] at E; exact S.new a L k row X Y r haA K hk hr hx hkx hm K2 (q4 r E)
      · rw [e] at E; exact S'.new a L k row X Y r haA K hk hr hx hkx hm K2 (q5 r E)
theorem sys_outer (S : Sys A nf mf V B R) (S' : Sys A nf mf V B R') : ∀ n L X Y, B - X.length = n → KOk V B L → Rows A nf mf L X Y →
    ∃ L' X' Y', KOk V B (L ++ L') ∧ X'.length = (L ++ L').length ∧ Rows A nf mf (L ++ L') X' Y' ∧ (∀ r, Ev (S.fin X' Y') r → Ev (S.g4 L X Y) r) ∧ (∀ r, Ev (S'.fin X' Y') r → Ev (S'.g4 L X Y) r) := by
  intro n
  have stop : ∀ L X Y, KOk V B L → Rows A nf mf L X Y → X.length = L.length → ∃ L' X' Y', KOk V B (L ++ L') ∧ X'.length = (L ++ L').length ∧ Rows A nf mf (L ++ L') X' Y' ∧ (∀ r, Ev (S.fin X' Y') r → Ev (S.g4 L X Y) r) ∧ (∀ r, Ev (S'.fin X' Y') r → Ev (S'.g4 L X Y) r) := by
    intro L X Y K H h
    exact ⟨[], X, Y, by rw [List.append_nil]; exact K, by rw [List.append_nil]; exact h, by rw [List.append_nil]; exact H, fun r E => S.stop L X Y r K h H.len E, fun r E => S'.stop L X Y r K h H.len E⟩
  induction n with
  | zero => intro L X Y hn K H; have := K.le; have := H.le; exact stop L X Y K H (by omega)
  | succ n ih =>
    intro L X Y hn K H
    by_cases h : X.length < L.length
    · have hk : L[X.length] ∈ L := List.getElem_mem h
      obtain ⟨L1, row, q1, q2, q3, q4, q5⟩ := sys_inner hV hB S S' L[X.length] X Y _ 0 L [] rfl (by omega) K hk rfl h (List.getElem?_eq_getElem h) (fun b hb => by omega)
      have hll := H.len
      have H2 : Rows A nf mf (L ++ L1) (X ++ [row]) (Y ++ [mf L[X.length]]) := by
        refine ⟨by simp [hll], by simp; omega, fun i hi => ?_⟩
        rw [List.length_append, List.length_singleton] at hi
        have hL : (L ++ L1)[i]'(by rw [List.length_append]; omega) = L[i]'(by omega) := List.getElem_append_left (by omega)
        by_cases hi2 : i < X.length
        · obtain ⟨r1, r2, r3⟩ := H.row i hi2
          rw [getD_appW _ _ _ hi2, getD_appI _ _ _ (by omega), hL]
          refine ⟨r1, r2, fun a ha => ?_⟩
          obtain ⟨j, hj, e1, e2⟩ := r3 a ha
          exact ⟨j, by rw [List.length_append]; omega, e1, (List.getElem_append_left hj).trans (e2.trans (by rw [hL]))⟩
        · have e : i = X.length := by omega
          subst e
          have ey := getD_lastI Y (mf L[X.length])
          rw [hll] at ey
          rw [getD_lastW, ey, hL]
          refine ⟨q2, rfl, fun b hb => ?_⟩
          obtain ⟨j, hj, e1, e2⟩ := q3 b hb
          exact ⟨j, hj, e1, e2.trans (by rw [hL])⟩
      obtain ⟨L2, X', Y', p1, p2, p3, p4, p5⟩ := ih (L ++ L1) (X ++ [row]) (Y ++ [mf L[X.length]]) (by simp; omega) q1 H2
      have hm : L[X.length] ∈ L ++ L1 := List.mem_append_left _ hk
      have hkx : (L ++ L1)[X.length]? = some L[X.length] := by rw [List.getElem?_append_left h]; exact List.getElem?_eq_getElem h
      refine ⟨L1 ++ L2, X', Y', by rw [← List.append_assoc]; exact p1, by rw [← List.append_assoc]; exact p2, by rw [← List.append_assoc]; exact p3, ?_, ?_⟩
      · exact fun r E => S.start L X Y _ h K hll (q4 _ (S.done (L ++ L1) _ row X Y _ q1 hm q2 (by rw [List.length_append]; omega) hkx hll (p4 r E)))
      · exact fun r E => S'.start L X Y _ h K hll (q5 _ (S'.done (L ++ L1) _ row X Y _ q1 hm q2 (by rw [List.length_append]; omega) hkx hll (p5 r E)))
    · have := H.le; exact stop L X Y K H (by omega)
/-- Both searches make the same. -/
theorem sys_run (S : Sys A nf mf V B R) (S' : Sys A nf mf V B R') (first : κ) (hf : V first) :
    ∃ L X Y, KOk V B (first :: L) ∧ X.length = L.length + 1 ∧ Rows A nf mf (first :: L) X Y ∧ (∀ r, Ev (S.fin X Y) r → Ev (S.g4 [first] [] []) r) ∧ (∀ r, Ev (S'.fin X Y) r → Ev (S'.g4 [first] [] []) r) := by
  have h1 : ∀ k ∈ [first], V k := fun k hk => by rw [List.mem_singleton] at hk; rw [hk]; exact hf
  have K : KOk V B [first] := ⟨by simp, h1, hB _ (by simp) h1⟩
  obtain ⟨L, X, Y, p1, p2, p3, p4, p5⟩ := sys_outer hV hB S S' _ [first] [] [] rfl K ⟨rfl, by simp, fun i hi => by simp at hi⟩
  exact ⟨L, X, Y, p1, by simpa [Nat.add_comm] using p2, p3, p4, p5⟩
end
end Go.Proofs.YtfkilmmldjajmaaSx.DC
namespace Go.Proofs.YtfkilmmldjajmaaSx.DC
section
variable {K : Ty} (hb : ∀ x y : K.den, K.beq x y = true ↔ x = y)
/-- The map from keys to their numbers. -/
abbrev nmk (K : Ty) (L : List K.den) : List (K.den × Int) := numb (K := K) (fun x => x) 0 L
include hb
theorem nmk_idx (L : List K.den) (k : K.den) : L.findIdx (fun x => K.beq k x) < L.length ↔ k ∈ L := by
  rw [List.findIdx_lt_length]
  constructor
  · rintro ⟨x, hx, e⟩; rw [(hb k x).1 e]; exact hx
  · intro h; exact ⟨k, h, (hb k k).2 rfl⟩
theorem nmk_hit {L : List K.den} {k : K.den} (h : k ∈ L) : mhas K (.int .i64) (nmk K L) k = true := by
  rw [numb_has, decide_eq_true_iff]; exact (nmk_idx hb L k).2 h
theorem nmk_miss {L : List K.den} {k : K.den} (h : k ∉ L) : mhas K (.int .i64) (nmk K L) k = false := by
  rw [numb_has]; exact decide_eq_false fun h' => h ((nmk_idx hb L k).1 h')
theorem nmk_get {L : List K.den} (hn : L.Nodup) {k : K.den} {i : Nat} (hi : i < L.length) (e : L[i] = k) : mget K (.int .i64) (nmk K L) k = (i : Int) := by
  have hm : k ∈ L := e ▸ List.getElem_mem hi
  have hx := (nmk_idx hb L k).2 hm
  have := numb_get (K := K) (fun x => x) k L 0
  rw [if_pos hx, Nat.zero_add] at this
  have hk := (hb _ _).1 (List.findIdx_getElem (w := hx))
  have pw := List.pairwise_iff_getElem.1 hn
  refine this.trans ?_
  obtain ⟨j, hj⟩ : ∃ j, L.findIdx (fun x => K.beq k x) = j := ⟨_, rfl⟩
  have hj2 : j < L.length := hj ▸ hx
  have hk2 : k = L[j] := by subst hj; exact hk
  rw [hj]
  rcases Nat.lt_trichotomy j i with h | h | h
  · exact absurd (hk2.symm.trans e.symm) (pw j i hj2 hi h)
  · rw [h]
  · exact absurd (e.trans hk2) (pw i j hi hj2 h)
theorem nmk_put {L : List K.den} {k : K.den} (h : k ∉ L) : mput K (.int .i64) (nmk K L) k (L.length : Int) = nmk K (L ++ [k]) := by
  have := numb_put (K := K) (fun x => x) k L 0 (fun h' => h ((nmk_idx hb L k).1 h'))
  rw [Nat.zero_add] at this; exact this
end
/-! Rows that are filled letter by letter. -/
def padI (A : Nat) (row : List Int) : List Int := row ++ List.replicate (A - row.length) 0
theorem pad_len {A : Nat} {row : List Int} (h : row.length ≤ A) : (padI A row).length = A := by rw [padI, List.length_append, List.length_replicate]; omega
theorem pad_set {A : Nat} {row : List Int} (v : Int) (h : row.length < A) : (padI A row).set row.length v = padI A (row ++ [v]) := by
  rw [padI, padI, List.set_append_right _ _ (Nat.le_refl _), Nat.sub_self, List.length_append, List.length_singleton, show A - row.length = (A - (row.length + 1)) + 1 by omega, List.replicate_succ, List.set_cons_zero, List.append_assoc]; rfl
theorem pad_full {A : Nat} {row : List Int} (h : row.length = A) : padI A row = row := by rw [padI, h, Nat.sub_self, List.replicate_zero, List.append_nil]
theorem pad_nil (A : Nat) : padI A [] = List.replicate A 0 := rfl

/-! Couples. -/
abbrev K2 : Ty := .pair (.int .i64) (.pair (.int .i64) .unit)
abbrev Co := Int × Int × Unit
instance : DecidableEq K2.den := inferInstanceAs (DecidableEq (Int × Int × Unit))
theorem k2_beq (x y : K2.den) : K2.beq x y = true ↔ x = y := by
  obtain ⟨a, b, ⟨⟩⟩ := x
  obtain ⟨c, d, ⟨⟩⟩ := y
  have e : K2.beq (a, b, ()) (c, d, ()) = bif decide (a = c) then (bif decide (b = d) then true else false) else false := rfl
  rw [e]
  by_cases h1 : a = c
  · by_cases h2 : b = d
    · subst h1; subst h2; simp
    · simp [h1, h2]
  · simp [h1]
def allCo (n m : Nat) : List Co := (List.range n).flatMap fun p : Nat => (List.range m).map fun q : Nat => ((p : Int), (q : Int), ())
theorem sum_c (b : Nat) (l : List Nat) : (l.map fun _ => b).sum = l.length * b := by
  induction l with
  | nil => simp
  | cons a l ih => rw [List.map_cons, List.sum_cons, ih, List.length_cons, Nat.succ_mul]; omega
theorem allCo_len (n m : Nat) : (allCo n m).length = n * m := by
  rw [allCo, List.length_flatMap]; simp only [List.length_map, List.length_range]; rw [sum_c, List.length_range]
def VCo (n m : Nat) (k : Co) : Prop := (0 ≤ k.1 ∧ k.1 < (n : Int)) ∧ (0 ≤ k.2.1 ∧ k.2.1 < (m : Int))
theorem co_bound (n m : Nat) (L : List Co) (h1 : L.Nodup) (h2 : ∀ k ∈ L, VCo n m k) : L.length ≤ n * m := by
  rw [← allCo_len]
  refine nodup_sub L _ h1 fun k hk => ?_
  obtain ⟨h3, h4⟩ := h2 k hk
  obtain ⟨p, q, ⟨⟩⟩ := k
  rw [allCo, List.mem_flatMap]
  exact ⟨p.toNat, List.mem_range.2 (by simp at h3 h4; omega), List.mem_map.2 ⟨q.toNat, List.mem_range.2 (by simp at h3 h4; omega), by
    simp at h3 h4
    rw [show ((p.toNat : Nat) : Int) = p by omega, show ((q.toNat : Nat) : Int) = q by omega]⟩⟩
def nfCo (N P : List (List Int)) (k : Co) (a : Nat) : Co := ((N.getD k.1.toNat []).getD a 0, (P.getD k.2.1.toNat []).getD a 0, ())
variable {A s t : Int} {N P : List (List Int)} {M Q : List Int}
theorem vco_step (F : Fit A s N M) (G : Fit A t P Q) {k : Co} {a : Nat} (hk : VCo N.length P.length k) (ha : (a : Int) < A) : VCo N.length P.length (nfCo N P k a) := by
  obtain ⟨h1, h2⟩ := hk
  exact ⟨F.ent k.1.toNat (by omega) a ha, G.ent k.2.1.toNat (by omega) a ha⟩
end Go.Proofs.YtfkilmmldjajmaaSx.DC
namespace Go.Proofs.YtfkilmmldjajmaaSx.DC
variable {A : Int} {κ : Type} {nf : κ → Nat → κ} {mf : κ → Int} {V : κ → Prop} {B : Nat} {L : List κ} {X : List (List Int)} {Y : List Int}
/-- What a search makes may be. -/
theorem fit_rows (H : Rows A.toNat nf mf L X Y) (a1 : 1 ≤ A) (a4 : A ≤ 4) (hl : X.length = L.length) (h1 : 1 ≤ L.length) (h3 : L.length ≤ 4000) (hv : ∀ k ∈ L, V k) (hm : ∀ k, V k → mf k = 0 ∨ mf k = 1) : Fit A 0 X Y := by
  refine ⟨a1, a4, by omega, by omega, H.len, fun q hq => ?_, by omega, fun q hq a ha => ?_, fun q hq => ?_⟩
  · have := (H.row q hq).1; omega
  · obtain ⟨j, hj, e, _⟩ := (H.row q hq).2.2 a (by omega)
    rw [e]; omega
  · rw [(H.row q hq).2.1]; exact hm _ (hv _ (List.getElem_mem _))
/-- What a search makes is as an automaton to whose states the keys belong. -/
theorem same_rows {N' : List (List Int)} {M' : List Int} (H : Rows A.toNat nf mf L X Y) (a1 : 1 ≤ A) (hl : X.length = L.length) (h1 : 0 < L.length) (hv : ∀ k ∈ L, V k) (f : κ → Nat) (hm : ∀ k, V k → mf k = M'.getD (f k) 0) (hn : ∀ k a, V k → a < A.toNat → f (nf k a) = nx N' (f k) a) : Same A X Y 0 N' M' (f L[0]) := by
  refine Same.of (fun i c => ∃ h : i < L.length, c = f L[i]) (fun i c h => ?_) (fun i c a h ha => ?_) 0 _ ⟨h1, rfl⟩
  · obtain ⟨h, rfl⟩ := h
    rw [(H.row i (by omega)).2.1]; exact hm _ (hv _ (List.getElem_mem _))
  · obtain ⟨h, rfl⟩ := h
    obtain ⟨j, hj, e1, e2⟩ := (H.row i (by omega)).2.2 a (by omega)
    rw [e1, Int.toNat_natCast]
    refine ⟨hj, ?_⟩
    rw [e2, hn _ _ (hv _ (List.getElem_mem _)) (by omega)]
end Go.Proofs.YtfkilmmldjajmaaSx.DC
namespace Go.Proofs.YtfkilmmldjajmaaSx.DC
/-! What the laws ask of what is made: the same, the same words, none. -/
theorem same14 (A s : Int) (N : List (List Int)) (M : List Int) (i : Nat) (hi : i < N.length) (hN : N.length ≤ 100000) (hr : (N.getD i []).length ≤ 100000) (r : Bool)
    (E : Ev (fun n => evermoreref3_Same.l9 n ((i + 1 : Nat) : Int) A s N M A s N M) r) : ∀ n a, (N.getD i []).length - a = n → a ≤ (N.getD i []).length → Ev (fun n => evermoreref3_Same.l14 n (i : Int) (a : Int) A s N M A s N M) r := by
  have e1 : rd [] N (i : Int) = N.getD i [] := rd_nat _ _ _
  intro n
  induction n with
  | zero =>
    intro a hn ha
    refine Ev.step (fun n => ?_) E
    rw [evermoreref3_Same.l14, if_pos (by omega), if_pos (by omega), e1, if_neg (by omega), wrSucc i (by omega)]
  | succ n ih =>
    intro a hn ha
    refine Ev.step (fun n => ?_) (ih (a + 1) (by omega) (by omega))
    rw [evermoreref3_Same.l14, if_pos (by omega), if_pos (by omega), e1, if_pos (by omega), if_pos (by omega), if_pos (by omega), if_pos (by omega), if_pos (by omega), if_pos (by omega), if_pos (by omega), if_pos (by omega), if_pos (by omega), if_pos rfl, wrSucc a (by omega)]
theorem same9 (A s : Int) (N : List (List Int)) (M : List Int) (hN : N.length ≤ 100000) (hr : ∀ i, i < N.length → (N.getD i []).length ≤ 100000) : ∀ n i, N.length - i = n → i ≤ N.length → Ev (fun n => evermoreref3_Same.l9 n (i : Int) A s N M A s N M) true := by
  intro n
  induction n with
  | zero =>
    intro i hn hi
    refine Ev.step (h := fun _ => some true) (fun n => ?_) (Ev.now _)
    rw [evermoreref3_Same.l9, if_neg (by omega)]
  | succ n ih =>
    intro i hn hi
    refine Ev.step (fun n => ?_) (same14 A s N M i (by omega) hN (hr i (by omega)) true (ih (i + 1) (by omega) (by omega)) _ 0 rfl (by omega))
    rw [evermoreref3_Same.l9, if_pos (by omega), if_pos (by omega), if_pos (by omega), if_pos (by omega), if_pos (by omega), if_pos rfl]
    rfl
theorem same4 (A s : Int) (N : List (List Int)) (M : List Int) (hM : M.length ≤ 100000) (E : Ev (fun n => evermoreref3_Same.l9 n ((0 : Nat) : Int) A s N M A s N M) true) : ∀ n i, M.length - i = n → i ≤ M.length → Ev (fun n => evermoreref3_Same.l4 n (i : Int) A s N M A s N M) true := by
  intro n
  induction n with
  | zero =>
    intro i hn hi
    refine Ev.step (fun n => ?_) E
    rw [evermoreref3_Same.l4, if_neg (by omega)]
    rfl
  | succ n ih =>
    intro i hn hi
    refine Ev.step (fun n => ?_) (ih (i + 1) (by omega) (by omega))
    rw [evermoreref3_Same.l4, if_pos (by omega), if_pos (by omega), if_pos (by omega), if_pos (by omega), if_pos (by omega), if_pos rfl, wrSucc i (by omega)]
theorem same_ev (A s : Int) (N : List (List Int)) (M : List Int) (hM : M.length ≤ 100000) (hN : N.length ≤ 100000) (hr : ∀ i, i < N.length → (N.getD i []).length ≤ 100000) : Ev (fun n => evermoreref3_Same.f n (A, s, N, M, ()) (A, s, N, M, ())) true := by
  simp only [evermoreref3_Same.f, if_true]
  exact same4 A s N M hM (same9 A s N M hN hr _ 0 rfl (by omega)) _ 0 rfl (by omega)
theorem same_fit {A s : Int} {N : List (List Int)} {M : List Int} (F : Fit A s N M) : Ev (fun n => evermoreref3_Same.f n (A, s, N, M, ()) (A, s, N, M, ())) true := by
  have n3 := F.n3; have m := F.m; have a4 := F.a4
  exact same_ev A s N M (by omega) (by omega) fun i hi => by have := F.row i hi; omega
theorem none_ev (A s : Int) (N : List (List Int)) (M : List Int) : ∃ b, ∀ n, evermorelaw_noDet.f n (A, s, N, M, ()) = some b := by
  by_cases h1 : A = 0
  · by_cases h2 : s = 0
    · exact ⟨_, fun n => by simp only [evermorelaw_noDet.f, if_pos h1, if_pos h2]; rfl⟩
    · exact ⟨false, fun n => by simp only [evermorelaw_noDet.f, if_pos h1, if_neg h2]⟩
  · exact ⟨false, fun n => by simp only [evermorelaw_noDet.f, if_neg h1]⟩
theorem none_0 (n : Nat) : evermorelaw_noDet.f n (0, 0, [], [], ()) = some true := by
  simp only [evermorelaw_noDet.f, if_true]; rfl
end Go.Proofs.YtfkilmmldjajmaaSx.DC
namespace Go.Proofs.YtfkilmmldjajmaaSx.DC
theorem words_l4 (a b : List Int) (ha : a.length ≤ 100000000) (hb : a.length = b.length) : ∀ n i, a.length - i = n → i ≤ a.length → Ev (fun k => evermoreref1_Words.l4 k a b (i : Int)) (decide (a.drop i = b.drop i)) := by
  intro n
  induction n with
  | zero =>
    intro i hn hi
    refine Ev.step (fun k => by rw [evermoreref1_Words.l4]) ?_
    simp only [if_neg (show ¬ (i : Int) < (a.length : Int) by omega)]
    rw [List.drop_eq_nil_of_le (by omega), List.drop_eq_nil_of_le (by omega)]; exact Ev.now _
  | succ n ih =>
    intro i hn hi
    refine Ev.step (fun k => by rw [evermoreref1_Words.l4]) ?_
    simp only [if_pos (show (i : Int) < (a.length : Int) by omega), if_pos (show (0 : Int) ≤ (i : Int) by omega), if_pos (show (i : Int) < (b.length : Int) by omega), rd_nat, wrSucc i (by omega)]
    rw [drop_getD (Int.ofNat 0) a i (by omega), drop_getD (Int.ofNat 0) b i (by omega)]
    by_cases h1 : a.getD i (Int.ofNat 0) = b.getD i (Int.ofNat 0)
    · simp only [if_pos h1]; refine (ih (i + 1) (by omega) (by omega)).cast ?_; simp only [List.cons.injEq, h1, true_and]
    · simp only [if_neg h1]; refine (Ev.now _).cast ?_; simp only [List.cons.injEq, h1, false_and, decide_false]
theorem words_ev (a b : List Int) (ha : a.length ≤ 100000000) : Ev (fun k => evermoreref1_Words.f k a b) (decide (a = b)) := by
  by_cases h : a.length = b.length
  · simp only [evermoreref1_Words.f, if_pos (show (a.length : Int) = (b.length : Int) by omega)]
    exact words_l4 a b ha h _ 0 rfl (by omega)
  · simp only [evermoreref1_Words.f, if_neg (show ¬ (a.length : Int) = (b.length : Int) by omega)]
    exact (Ev.now _).cast (decide_eq_false (fun e => h (congrArg _ e))).symm
end Go.Proofs.YtfkilmmldjajmaaSx.DC
namespace Go.Proofs.YtfkilmmldjajmaaSx.DC
abbrev SP := Int × Int × Int × Unit
abbrev S0 : SP := (Int.ofNat 0, Int.ofNat 0, Int.ofNat 0, ())
def badI (n : Int) (q : Int) : Bool := decide (q < 0) || decide (n ≤ q)
def badS (A n : Int) (x : SP) : Bool := badI n x.1 || (badI n x.2.2.1 || badI A x.2.1)
/-- An automaton that need not know its way, and may be. -/
structure AFit (A n : Int) (S : List Int) (T : List SP) (G : List Int) : Prop where
  a1 : 1 ≤ A
  a4 : A ≤ 4
  n1 : 1 ≤ n
  s : ∀ q ∈ S, 0 ≤ q ∧ q < n
  g : ∀ q ∈ G, 0 ≤ q ∧ q < n
  t : ∀ x ∈ T, (0 ≤ x.1 ∧ x.1 < n) ∧ (0 ≤ x.2.2.1 ∧ x.2.2.1 < n) ∧ (0 ≤ x.2.1 ∧ x.2.1 < A)
  tl : T.length ≤ 40000
theorem badI_iff {n q : Int} : badI n q = false ↔ 0 ≤ q ∧ q < n := by
  rw [badI, Bool.or_eq_false_iff, decide_eq_false_iff_not, decide_eq_false_iff_not]; omega
section
variable (A n : Int) (S : List Int) (T : List SP) (G : List Int)
theorem ck1 (q : Int) (k : Nat) : buchi_Check_1.f k q A n S T G = some (badI n q, A, n, S, T, G) := by
  rw [buchi_Check_1.f]
  by_cases h : q < 0
  · rw [if_pos h, badI, decide_eq_true h]; rfl
  · rw [if_neg h, badI, decide_eq_false h]; rfl
theorem ck2 (x : SP) (k : Nat) : buchi_Check_2.f k x A n S T G = some (badS A n x, A, n, S, T, G) := by
  simp only [buchi_Check_2.f, ck1, Option.bind_some]
  by_cases h1 : badI n x.1 = true
  · rw [if_pos h1, badS, h1]; rfl
  · rw [if_neg h1, badS, (Bool.not_eq_true _).mp h1]
    by_cases h2 : badI n x.2.2.1 = true
    · rw [if_pos h2, h2]; rfl
    · rw [if_neg h2, (Bool.not_eq_true _).mp h2]
      by_cases h3 : x.2.1 < 0
      · rw [if_pos h3, badI, decide_eq_true h3]; rfl
      · rw [if_neg h3, badI, decide_eq_false h3]; rfl
theorem idxI (s : List Int) (hs : s.length ≤ 140737488351232) : ∀ m i, s.length - i = m → i ≤ s.length →
    ∃ r, Ev (fun k => slices_IndexFunc___int_int_.l2 k s (s.length : Int) (i : Int) A n S T G) (r, A, n, S, T, G) ∧ decide (0 ≤ r) = (s.drop i).any (badI n) := by
  intro m
  induction m with
  | zero =>
    intro i hn hi
    refine ⟨-1, Ev.step (h := fun _ => some (-1, A, n, S, T, G)) (fun k => ?_) (Ev.now _), ?_⟩
    · rw [slices_IndexFunc___int_int_.l2, if_neg (by omega)]
    · rw [List.drop_eq_nil_of_le (by omega)]; rfl
  | succ m ih =>
    intro i hn hi
    obtain ⟨r, h1, h2⟩ := ih (i + 1) (by omega) (by omega)
    have hr : rd (Int.ofNat 0) s (i : Int) = s.getD i 0 := rd_nat _ _ _
    have hw : Go.IntKind.i64.wrap ((i : Int) + 1) = ((i + 1 : Nat) : Int) := by rw [wr64] <;> omega
    by_cases hb : badI n (s.getD i 0) = true
    · refine ⟨i, Ev.step (h := fun _ => some ((i : Int), A, n, S, T, G)) (fun k => ?_) (Ev.now _), ?_⟩
      · rw [slices_IndexFunc___int_int_.l2, if_pos (by omega), if_pos (by omega), if_pos (by omega), hr, ck1, Option.bind_some]
        simp only [hb, if_true]
      · rw [drop_getD 0 s i (by omega), List.any_cons, hb, Bool.true_or, decide_eq_true (by omega)]
    · refine ⟨r, Ev.step (h := fun k => slices_IndexFunc___int_int_.l2 k s (s.length : Int) ((i + 1 : Nat) : Int) A n S T G) (fun k => ?_) h1, ?_⟩
      · rw [slices_IndexFunc___int_int_.l2, if_pos (by omega), if_pos (by omega), if_pos (by omega), hr, ck1, Option.bind_some, hw]
        simp only [(Bool.not_eq_true _).mp hb, Bool.false_eq_true, if_false]
      · rw [drop_getD 0 s i (by omega), List.any_cons, h2, (Bool.not_eq_true _).mp hb, Bool.false_or]
theorem conI (s : List Int) (hs : s.length ≤ 140737488351232) : Ev (fun k => slices_ContainsFunc___int_int_.f k s A n S T G) (s.any (badI n), A, n, S, T, G) := by
  obtain ⟨r, h1, h2⟩ := idxI A n S T G s hs _ 0 rfl (by omega)
  rw [List.drop_zero] at h2
  simp only [slices_ContainsFunc___int_int_.f]
  refine Ev.cast (r := (decide (0 ≤ r), A, n, S, T, G)) (Ev.bind (x := (r, A, n, S, T, G)) h1 (Ev.now _)) ?_
  exact congrArg (fun b => (b, A, n, S, T, G)) h2
theorem idxS (s : List SP) (hs : s.length ≤ 40000) : ∀ m i, s.length - i = m → i ≤ s.length →
    ∃ r, Ev (fun k => slices_IndexFunc___api_Step_api_Step_.l2 k s (s.length : Int) (i : Int) A n S T G) (r, A, n, S, T, G) ∧ decide (0 ≤ r) = (s.drop i).any (badS A n) := by
  intro m
  induction m with
  | zero =>
    intro i hn hi
    refine ⟨-1, Ev.step (h := fun _ => some (-1, A, n, S, T, G)) (fun k => ?_) (Ev.now _), ?_⟩
    · rw [slices_IndexFunc___api_Step_api_Step_.l2, if_neg (by omega)]
    · rw [List.drop_eq_nil_of_le (by omega)]; rfl
  | succ m ih =>
    intro i hn hi
    obtain ⟨r, h1, h2⟩ := ih (i + 1) (by omega) (by omega)
    have hr : rd S0 s (i : Int) = s.getD i S0 := rd_nat _ _ _
    by_cases hb : badS A n (s.getD i S0) = true
    · refine ⟨i, Ev.step (h := fun _ => some ((i : Int), A, n, S, T, G)) (fun k => ?_) (Ev.now _), ?_⟩
      · rw [slices_IndexFunc___api_Step_api_Step_.l2, if_pos (by omega), if_pos (by omega), if_pos (by omega), hr, ck2, Option.bind_some]
        simp only [hb, if_true]
      · rw [drop_getD S0 s i (by omega), List.any_cons, hb, Bool.true_or, decide_eq_true (by omega)]
    · refine ⟨r, Ev.step (h := fun k => slices_IndexFunc___api_Step_api_Step_.l2 k s (s.length : Int) ((i + 1 : Nat) : Int) A n S T G) (fun k => ?_) h1, ?_⟩
      · rw [slices_IndexFunc___api_Step_api_Step_.l2, if_pos (by omega), if_pos (by omega), if_pos (by omega), hr, ck2, Option.bind_some, wrSucc i (by omega)]
        simp only [(Bool.not_eq_true _).mp hb, Bool.false_eq_true, if_false]
      · rw [drop_getD S0 s i (by omega), List.any_cons, h2, (Bool.not_eq_true _).mp hb, Bool.false_or]
theorem conS (s : List SP) (hs : s.length ≤ 40000) : Ev (fun k => slices_ContainsFunc___api_Step_api_Step_.f k s A n S T G) (s.any (badS A n), A, n, S, T, G) := by
  obtain ⟨r, h1, h2⟩ := idxS A n S T G s hs _ 0 rfl (by omega)
  rw [List.drop_zero] at h2
  simp only [slices_ContainsFunc___api_Step_api_Step_.f]
  refine Ev.cast (r := (decide (0 ≤ r), A, n, S, T, G)) (Ev.bind (x := (r, A, n, S, T, G)) h1 (Ev.now _)) ?_
  exact congrArg (fun b => (b, A, n, S, T, G)) h2
end
/-- Does a list rise from a place on? -/
def risF (l : List Int) : Nat → Nat → Bool
  | 0, _ => true
  | m + 1, i => if l.getD i 0 ≤ l.getD (i - 1) 0 then false else risF l m (i + 1)
def risB (l : List Int) : Bool := risF l (l.length - 1) 1
def aheadB (x y : SP) : Bool := if x.1 = y.1 then (if x.2.1 = y.2.1 then decide (x.2.2.1 < y.2.2.1) else decide (x.2.1 < y.2.1)) else decide (x.1 < y.1)
def ordF (l : List SP) : Nat → Nat → Bool
  | 0, _ => true
  | m + 1, i => if aheadB (l.getD (i - 1) S0) (l.getD i S0) = true then ordF l m (i + 1) else false
theorem ris_l2 (l : List Int) (hl : l.length ≤ 140737488351232) : ∀ m i, l.length - i = m → 1 ≤ i → i ≤ l.length →
    Ev (fun k => buchi_rising.l2 k l (l.length : Int) (i : Int)) (risF l m i) := by
  intro m
  induction m with
  | zero =>
    intro i hn h1 hi
    refine Ev.step (h := fun _ => some true) (fun k => ?_) (Ev.now _)
    rw [buchi_rising.l2, if_neg (by omega)]
  | succ m ih =>
    intro i hn h1 hi
    have hw : Go.IntKind.i64.wrap ((i : Int) - 1) = ((i - 1 : Nat) : Int) := by rw [wr64] <;> omega
    have hw2 : Go.IntKind.i64.wrap ((i : Int) + 1) = ((i + 1 : Nat) : Int) := by rw [wr64] <;> omega
    have hr1 : rd (Int.ofNat 0) l (i : Int) = l.getD i 0 := rd_nat _ _ _
    have hr2 : rd (Int.ofNat 0) l ((i - 1 : Nat) : Int) = l.getD (i - 1) 0 := rd_nat _ _ _
    rw [risF]
    by_cases hb : l.getD i 0 ≤ l.getD (i - 1) 0
    · rw [if_pos hb]
      refine Ev.step (h := fun _ => some false) (fun k => ?_) (Ev.now _)
      rw [buchi_rising.l2, if_pos (by omega), if_pos (by omega), hw, if_pos (by omega), if_pos (by omega), if_pos (by omega), if_pos (by omega), hr1, hr2, if_pos hb]
    · rw [if_neg hb]
      refine Ev.step (fun k => ?_) (ih (i + 1) (by omega) (by omega) (by omega))
      rw [buchi_rising.l2, if_pos (by omega), if_pos (by omega), hw, if_pos (by omega), if_pos (by omega), if_pos (by omega), if_pos (by omega), hr1, hr2, if_neg hb, hw2]
theorem ris_ev (l : List Int) (hl : l.length ≤ 140737488351232) : Ev (fun k => buchi_rising.f k l) (risB l) := by
  simp only [buchi_rising.f]
  by_cases h : l.length = 0
  · refine Ev.step (h := fun _ => some (risB l)) (fun k => ?_) (Ev.now _)
    rw [buchi_rising.l2, if_neg (by omega), risB, h]; rfl
  · refine Ev.step (fun k => ?_) (ris_l2 l hl _ 1 rfl (by omega) (by omega))
    rw [buchi_rising.l2, if_pos (by omega), if_neg (by omega)]
    rfl
theorem cmp_ev (x y : Int) (k : Nat) : cmp_Compare_int_.f k x y = some (if x < y then -1 else if y < x then 1 else 0) := by
  simp only [cmp_Compare_int_.f, cmp_isNaN_int_.f, Option.bind_some, decide_true, Bool.not_true, Bool.false_eq_true, if_false]
  by_cases h : x < y
  · rw [if_pos h, if_pos h]
  · rw [if_neg h, if_neg h]
    by_cases h2 : y < x
    · rw [if_pos h2, if_pos h2]
    · rw [if_neg h2, if_neg h2]
theorem or3_ev (a b c : Int) : Ev (fun k => cmp_Or_int_.f k [a, b, c]) (if a = 0 then (if b = 0 then c else b) else a) := by
  simp only [cmp_Or_int_.f]
  have w1 : Go.IntKind.i64.wrap ((0 : Int) + 1) = 1 := by decide
  have w2 : Go.IntKind.i64.wrap ((1 : Int) + 1) = 2 := by decide
  have w3 : Go.IntKind.i64.wrap ((2 : Int) + 1) = 3 := by decide
  have l3 : (([a, b, c].length : Nat) : Int) = 3 := rfl
  have r0 : rd (Int.ofNat 0) [a, b, c] 0 = a := rfl
  have r1 : rd (Int.ofNat 0) [a, b, c] 1 = b := rfl
  have r2 : rd (Int.ofNat 0) [a, b, c] 2 = c := rfl
  by_cases ha : a = 0
  · rw [if_pos ha]
    refine Ev.step (h := fun k => cmp_Or_int_.l3 k 0 [a, b, c] 3 1) (fun k => by rw [cmp_Or_int_.l3, l3, if_pos (by decide), if_pos (by decide), if_pos (by decide), r0, if_pos ha, w1]) ?_
    by_cases hb : b = 0
    · rw [if_pos hb]
      refine Ev.step (h := fun k => cmp_Or_int_.l3 k 0 [a, b, c] 3 2) (fun k => by rw [cmp_Or_int_.l3, l3, if_pos (by decide), if_pos (by decide), if_pos (by decide), r1, if_pos hb, w2]) ?_
      by_cases hc : c = 0
      · refine Ev.step (h := fun k => cmp_Or_int_.l3 k 0 [a, b, c] 3 3) (fun k => by rw [cmp_Or_int_.l3, l3, if_pos (by decide), if_pos (by decide), if_pos (by decide), r2, if_pos hc, w3]) ?_
        refine Ev.step (h := fun _ => some c) (fun k => by rw [cmp_Or_int_.l3, if_neg (by decide), hc]) (Ev.now _)
      · exact Ev.step (h := fun _ => some c) (fun k => by rw [cmp_Or_int_.l3, l3, if_pos (by decide), if_pos (by decide), if_pos (by decide), r2, if_neg hc]) (Ev.now _)
    · rw [if_neg hb]
      exact Ev.step (h := fun _ => some b) (fun k => by rw [cmp_Or_int_.l3, l3, if_pos (by decide), if_pos (by decide), if_pos (by decide), r1, if_neg hb]) (Ev.now _)
  · rw [if_neg ha]
    exact Ev.step (h := fun _ => some a) (fun k => by rw [cmp_Or_int_.l3, l3, if_pos (by decide), if_pos (by decide), if_pos (by decide), r0, if_neg ha]) (Ev.now _)
theorem order_ev (x y : SP) : ∃ r : Int, Ev (fun k => buchi_order.f k x y) r ∧ (0 ≤ r ↔ aheadB x y = false) := by
  have E := or3_ev (if x.1 < y.1 then (-1 : Int) else if y.1 < x.1 then 1 else 0) (if x.2.1 < y.2.1 then (-1 : Int) else if y.2.1 < x.2.1 then 1 else 0) (if x.2.2.1 < y.2.2.1 then (-1 : Int) else if y.2.2.1 < x.2.2.1 then 1 else 0)
  refine ⟨_, Ev_eq (fun k => ?_) E, ?_⟩
  · simp only [buchi_order.f, cmp_ev, Option.bind_some, Option.bind_fun_some]
  · rw [aheadB]
    obtain ⟨a, b, c, ⟨⟩⟩ := x
    obtain ⟨d, e, f, ⟨⟩⟩ := y
    show 0 ≤ (if (if a < d then (-1 : Int) else if d < a then 1 else 0) = 0 then (if (if b < e then (-1 : Int) else if e < b then 1 else 0) = 0 then (if c < f then (-1 : Int) else if f < c then 1 else 0) else (if b < e then (-1 : Int) else if e < b then 1 else 0)) else (if a < d then (-1 : Int) else if d < a then 1 else 0)) ↔ (if a = d then (if b = e then decide (c < f) else decide (b < e)) else decide (a < d)) = false
    by_cases h1 : a < d
    · have : ¬ a = d := by omega
      simp [h1, this]
    · by_cases h2 : d < a
      · have : ¬ a = d := by omega
        simp [h1, h2, this]
      · have e1 : a = d := by omega
        subst e1
        by_cases h3 : b < e
        · have : ¬ b = e := by omega
          simp [h3, this]
        · by_cases h4 : e < b
          · have : ¬ b = e := by omega
            simp [h3, h4, this]
          · have e2 : b = e := by omega
            subst e2
            by_cases h5 : c < f
            · simp [h5]
            · by_cases h6 : f < c
              · simp [h5, h6]
              · simp [h5, h6]
end Go.Proofs.YtfkilmmldjajmaaSx.DC
namespace Go.Proofs.YtfkilmmldjajmaaSx.DC
section
variable (A n : Int) (S : List Int) (T : List SP) (G : List Int)
theorem badI_lt {n q : Int} (h : q < 0) : badI n q = true := by rw [badI, decide_eq_true h]; rfl
theorem badI_ge {n q : Int} (h : n ≤ q) : badI n q = true := by rw [badI, decide_eq_true h, Bool.or_true]
theorem wrS (i : Nat) (h : i < 9223372036854775807) : Go.IntKind.i64.wrap ((i : Int) + 1) = ((i + 1 : Nat) : Int) := by rw [wr64] <;> omega
theorem wrP (i : Nat) (h1 : 1 ≤ i) (h : i < 9223372036854775807) : Go.IntKind.i64.wrap ((i : Int) - 1) = ((i - 1 : Nat) : Int) := by rw [wr64] <;> omega
theorem p11 (hT : T.length ≤ 40000) : ∀ m i, T.length - i = m → 1 ≤ i → i ≤ T.length → Ev (fun k => buchi_Check.l11 k (T.length : Int) (i : Int) A n S T G) (if ordF T m i = true then 0 else 3) := by
  intro m
  induction m with
  | zero =>
    intro i hn h1 hi
    refine Ev.step (h := fun _ => some 0) (fun k => ?_) (Ev.now _)
    rw [buchi_Check.l11, if_neg (by omega)]
  | succ m ih =>
    intro i hn h1 hi
    obtain ⟨r, g1, g2⟩ := order_ev (T.getD (i - 1) S0) (T.getD i S0)
    have hr1 : rd S0 T (i : Int) = T.getD i S0 := rd_nat _ _ _
    have hr2 : rd S0 T ((i - 1 : Nat) : Int) = T.getD (i - 1) S0 := rd_nat _ _ _
    refine Ev.step (fun k => by rw [buchi_Check.l11, if_pos (by omega), if_pos (by omega), wrP i h1 (by omega), if_pos (by omega), if_pos (by omega), if_pos (by omega), if_pos (by omega), hr1, hr2, wrS i (by omega)]) (Ev.bind g1 ?_)
    rw [ordF]
    cases ha : aheadB (T.getD (i - 1) S0) (T.getD i S0) with
    | false => simp only [if_pos (g2.2 ha), Bool.false_eq_true, if_false]; exact Ev.now _
    | true =>
      have : ¬ 0 ≤ r := fun h => by rw [g2.1 h] at ha; cases ha
      simp only [if_neg this, if_true]
      exact ih (i + 1) (by omega) (by omega) (by omega)
theorem q32 (hT : T.length ≤ 40000) : ∀ m i, T.length - i = m → 1 ≤ i → (m ≠ 0 → i ≤ T.length) → Ev (fun k => evermoreref7_Check.l32 k (i : Int) A n S T G) (if ordF T m i = true then 0 else 3) := by
  intro m
  induction m with
  | zero =>
    intro i hn h1 hi
    refine Ev.step (h := fun _ => some 0) (fun k => ?_) (Ev.now _)
    rw [evermoreref7_Check.l32, if_neg (by omega)]
  | succ m ih =>
    intro i hn h1 hi
    have hi := hi (by omega)
    have hr1 : rd S0 T (i : Int) = T.getD i S0 := rd_nat _ _ _
    have hr2 : rd S0 T ((i - 1 : Nat) : Int) = T.getD (i - 1) S0 := rd_nat _ _ _
    have ha : ∀ (k : Nat) x y, evermoreref7_Ahead.f k x y = some (aheadB x y) := by
      intro k x y
      rw [evermoreref7_Ahead.f, aheadB]
      by_cases h1 : x.1 = y.1
      · rw [if_pos h1, if_pos h1]
        by_cases h2 : x.2.1 = y.2.1
        · rw [if_pos h2, if_pos h2]
        · rw [if_neg h2, if_neg h2]
      · rw [if_neg h1, if_neg h1]
    rw [ordF]
    cases hb : aheadB (T.getD (i - 1) S0) (T.getD i S0) with
    | false =>
      refine Ev.step (h := fun _ => some 3) (fun k => ?_) (by simp only [Bool.false_eq_true, if_false]; exact Ev.now _)
      rw [evermoreref7_Check.l32, if_pos (by omega), wrP i h1 (by omega), if_pos (by omega), if_pos (by omega), if_pos (by omega), if_pos (by omega), hr1, hr2, ha, Option.bind_some, hb]
      rfl
    | true =>
      simp only [if_true]
      refine Ev.step (fun k => ?_) (ih (i + 1) (by omega) (by omega) (fun _ => by omega))
      rw [evermoreref7_Check.l32, if_pos (by omega), wrP i h1 (by omega), if_pos (by omega), if_pos (by omega), if_pos (by omega), if_pos (by omega), hr1, hr2, ha, Option.bind_some, hb, wrS i (by omega)]
      rfl
theorem q27 (hl : G.length ≤ 140737488351232) (r : Int) (E : Ev (fun k => evermoreref7_Check.l32 k 1 A n S T G) r) : ∀ m i, G.length - i = m → 1 ≤ i → (m ≠ 0 → i ≤ G.length) → Ev (fun k => evermoreref7_Check.l27 k (i : Int) A n S T G) (if risF G m i = true then r else 3) := by
  intro m
  induction m with
  | zero =>
    intro i hn h1 hi
    refine Ev.step (fun k => ?_) E
    rw [evermoreref7_Check.l27, if_neg (by omega)]
  | succ m ih =>
    intro i hn h1 hi
    have hi := hi (by omega)
    have hr1 : rd (Int.ofNat 0) G (i : Int) = G.getD i 0 := rd_nat _ _ _
    have hr2 : rd (Int.ofNat 0) G ((i - 1 : Nat) : Int) = G.getD (i - 1) 0 := rd_nat _ _ _
    rw [risF]
    by_cases hb : G.getD i 0 ≤ G.getD (i - 1) 0
    · rw [if_pos hb]
      refine Ev.step (h := fun _ => some 3) (fun k => ?_) (by simp only [Bool.false_eq_true, if_false]; exact Ev.now _)
      rw [evermoreref7_Check.l27, if_pos (by omega), wrP i h1 (by omega), if_pos (by omega), if_pos (by omega), if_pos (by omega), if_pos (by omega), hr1, hr2, if_pos hb]
    · rw [if_neg hb]
      refine Ev.step (fun k => ?_) (ih (i + 1) (by omega) (by omega) (fun _ => by omega))
      rw [evermoreref7_Check.l27, if_pos (by omega), wrP i h1 (by omega), if_pos (by omega), if_pos (by omega), if_pos (by omega), if_pos (by omega), hr1, hr2, if_neg hb, wrS i (by omega)]
theorem q22 (hl : S.length ≤ 140737488351232) (r : Int) (E : Ev (fun k => evermoreref7_Check.l27 k 1 A n S T G) r) : ∀ m i, S.length - i = m → 1 ≤ i → (m ≠ 0 → i ≤ S.length) → Ev (fun k => evermoreref7_Check.l22 k (i : Int) A n S T G) (if risF S m i = true then r else 3) := by
  intro m
  induction m with
  | zero =>
    intro i hn h1 hi
    refine Ev.step (fun k => ?_) E
    rw [evermoreref7_Check.l22, if_neg (by omega)]
  | succ m ih =>
    intro i hn h1 hi
    have hi := hi (by omega)
    have hr1 : rd (Int.ofNat 0) S (i : Int) = S.getD i 0 := rd_nat _ _ _
    have hr2 : rd (Int.ofNat 0) S ((i - 1 : Nat) : Int) = S.getD (i - 1) 0 := rd_nat _ _ _
    rw [risF]
    by_cases hb : S.getD i 0 ≤ S.getD (i - 1) 0
    · rw [if_pos hb]
      refine Ev.step (h := fun _ => some 3) (fun k => ?_) (by simp only [Bool.false_eq_true, if_false]; exact Ev.now _)
      rw [evermoreref7_Check.l22, if_pos (by omega), wrP i h1 (by omega), if_pos (by omega), if_pos (by omega), if_pos (by omega), if_pos (by omega), hr1, hr2, if_pos hb]
    · rw [if_neg hb]
      refine Ev.step (fun k => ?_) (ih (i + 1) (by omega) (by omega) (fun _ => by omega))
      rw [evermoreref7_Check.l22, if_pos (by omega), wrP i h1 (by omega), if_pos (by omega), if_pos (by omega), if_pos (by omega), if_pos (by omega), hr1, hr2, if_neg hb, wrS i (by omega)]
theorem q16 (hl : T.length ≤ 40000) (r : Int) (E : Ev (fun k => evermoreref7_Check.l22 k 1 A n S T G) r) : ∀ m i, T.length - i = m → i ≤ T.length → Ev (fun k => evermoreref7_Check.l16 k (i : Int) A n S T G) (if (T.drop i).any (badS A n) = true then 2 else r) := by
  intro m
  induction m with
  | zero =>
    intro i hn hi
    rw [List.drop_eq_nil_of_le (by omega)]
    refine Ev.step (fun k => ?_) E
    rw [evermoreref7_Check.l16, if_neg (by omega)]
  | succ m ih =>
    intro i hn hi
    have hr : rd S0 T (i : Int) = T.getD i S0 := rd_nat _ _ _
    have go := ih (i + 1) (by omega) (by omega)
    rw [drop_getD S0 T i (by omega), List.any_cons]
    generalize hx : T.getD i S0 = x at hr
    have step : ∀ Q : Nat → Option Int, (∀ k, evermoreref7_Check.l16 (k + 1) (i : Int) A n S T G = Q k) → badS A n x = false → (∀ k, Q k = evermoreref7_Check.l16 k ((i + 1 : Nat) : Int) A n S T G) → Ev (fun k => evermoreref7_Check.l16 k (i : Int) A n S T G) (if (badS A n x || (T.drop (i + 1)).any (badS A n)) = true then 2 else r) := by
      intro Q h1 h2 h3
      rw [h2, Bool.false_or]
      exact Ev.step (fun k => (h1 k).trans (h3 k)) go
    have stop : (∀ k, evermoreref7_Check.l16 (k + 1) (i : Int) A n S T G = some 2) → badS A n x = true → Ev (fun k => evermoreref7_Check.l16 k (i : Int) A n S T G) (if (badS A n x || (T.drop (i + 1)).any (badS A n)) = true then 2 else r) := by
      intro h1 h2
      rw [h2, Bool.true_or, if_pos rfl]
      exact Ev.step h1 (Ev.now _)
    have hd : ∀ k, evermoreref7_Check.l16 (k + 1) (i : Int) A n S T G = if x.1 < 0 then some 2 else if n ≤ x.1 then some 2 else if x.2.2.1 < 0 then some 2 else if n ≤ x.2.2.1 then some 2 else if x.2.1 < 0 then some 2 else if A ≤ x.2.1 then some 2 else evermoreref7_Check.l16 k (Go.IntKind.i64.wrap ((i : Int) + 1)) A n S T G := by
      intro k
      rw [evermoreref7_Check.l16, if_pos (by omega), if_pos (by omega), if_pos (by omega), hr]
    by_cases c1 : x.1 < 0
    · exact stop (fun k => by rw [hd, if_pos c1]) (by simp [badS, badI, c1])
    by_cases c2 : n ≤ x.1
    · exact stop (fun k => by rw [hd, if_neg c1, if_pos c2]) (by simp [badS, badI, c2])
    by_cases c3 : x.2.2.1 < 0
    · exact stop (fun k => by rw [hd, if_neg c1, if_neg c2, if_pos c3]) (by simp [badS, badI, c3])
    by_cases c4 : n ≤ x.2.2.1
    · exact stop (fun k => by rw [hd, if_neg c1, if_neg c2, if_neg c3, if_pos c4]) (by simp [badS, badI, c4])
    by_cases c5 : x.2.1 < 0
    · exact stop (fun k => by rw [hd, if_neg c1, if_neg c2, if_neg c3, if_neg c4, if_pos c5]) (by simp [badS, badI, c5])
    by_cases c6 : A ≤ x.2.1
    · exact stop (fun k => by rw [hd, if_neg c1, if_neg c2, if_neg c3, if_neg c4, if_neg c5, if_pos c6]) (by simp [badS, badI, c6])
    exact step _ (fun k => hd k) (by simp [badS, badI, c1, c2, c3, c4, c5, c6]) (fun k => by rw [if_neg c1, if_neg c2, if_neg c3, if_neg c4, if_neg c5, if_neg c6, wrS i (by omega)])
theorem q11 (hl : G.length ≤ 140737488351232) (r : Int) (E : Ev (fun k => evermoreref7_Check.l16 k 0 A n S T G) r) : ∀ m i, G.length - i = m → i ≤ G.length → Ev (fun k => evermoreref7_Check.l11 k (i : Int) A n S T G) (if (G.drop i).any (badI n) = true then 2 else r) := by
  intro m
  induction m with
  | zero =>
    intro i hn hi
    rw [List.drop_eq_nil_of_le (by omega)]
    refine Ev.step (fun k => ?_) E
    rw [evermoreref7_Check.l11, if_neg (by omega)]
  | succ m ih =>
    intro i hn hi
    have hr : rd (Int.ofNat 0) G (i : Int) = G.getD i 0 := rd_nat _ _ _
    rw [drop_getD 0 G i (by omega), List.any_cons]
    by_cases c1 : G.getD i 0 < 0
    · rw [show badI n (G.getD i 0) = true from badI_lt c1, Bool.true_or, if_pos rfl]
      refine Ev.step (h := fun _ => some 2) (fun k => ?_) (Ev.now _)
      rw [evermoreref7_Check.l11, if_pos (by omega), if_pos (by omega), if_pos (by omega), hr, if_pos c1]
    · by_cases c2 : n ≤ G.getD i 0
      · rw [show badI n (G.getD i 0) = true from badI_ge c2, Bool.true_or, if_pos rfl]
        refine Ev.step (h := fun _ => some 2) (fun k => ?_) (Ev.now _)
        rw [evermoreref7_Check.l11, if_pos (by omega), if_pos (by omega), if_pos (by omega), hr, if_neg c1, if_pos (by omega), if_pos (by omega), if_pos c2]
      · rw [show badI n (G.getD i 0) = false from badI_iff.2 ⟨by omega, by omega⟩, Bool.false_or]
        refine Ev.step (fun k => ?_) (ih (i + 1) (by omega) (by omega))
        rw [evermoreref7_Check.l11, if_pos (by omega), if_pos (by omega), if_pos (by omega), hr, if_neg c1, if_pos (by omega), if_pos (by omega), if_neg c2, wrS i (by omega)]
theorem q6 (hl : S.length ≤ 140737488351232) (r : Int) (E : Ev (fun k => evermoreref7_Check.l11 k 0 A n S T G) r) : ∀ m i, S.length - i = m → i ≤ S.length → Ev (fun k => evermoreref7_Check.l6 k (i : Int) A n S T G) (if (S.drop i).any (badI n) = true then 2 else r) := by
  intro m
  induction m with
  | zero =>
    intro i hn hi
    rw [List.drop_eq_nil_of_le (by omega)]
    refine Ev.step (fun k => ?_) E
    rw [evermoreref7_Check.l6, if_neg (by omega)]
  | succ m ih =>
    intro i hn hi
    have hr : rd (Int.ofNat 0) S (i : Int) = S.getD i 0 := rd_nat _ _ _
    rw [drop_getD 0 S i (by omega), List.any_cons]
    by_cases c1 : S.getD i 0 < 0
    · rw [show badI n (S.getD i 0) = true from badI_lt c1, Bool.true_or, if_pos rfl]
      refine Ev.step (h := fun _ => some 2) (fun k => ?_) (Ev.now _)
      rw [evermoreref7_Check.l6, if_pos (by omega), if_pos (by omega), if_pos (by omega), hr, if_pos c1]
    · by_cases c2 : n ≤ S.getD i 0
      · rw [show badI n (S.getD i 0) = true from badI_ge c2, Bool.true_or, if_pos rfl]
        refine Ev.step (h := fun _ => some 2) (fun k => ?_) (Ev.now _)
        rw [evermoreref7_Check.l6, if_pos (by omega), if_pos (by omega), if_pos (by omega), hr, if_neg c1, if_pos (by omega), if_pos (by omega), if_pos c2]
      · rw [show badI n (S.getD i 0) = false from badI_iff.2 ⟨by omega, by omega⟩, Bool.false_or]
        refine Ev.step (fun k => ?_) (ih (i + 1) (by omega) (by omega))
        rw [evermoreref7_Check.l6, if_pos (by omega), if_pos (by omega), if_pos (by omega), hr, if_neg c1, if_pos (by omega), if_pos (by omega), if_neg c2, wrS i (by omega)]
def ordB (T : List SP) : Bool := ordF T (T.length - 1) 1
def chk7 : Int := if A < 1 then 2 else if 4 < A then 2 else if n < 1 then 1 else if 300 < n then 1 else if 40000 < (T.length : Int) then 1 else
  if S.any (badI n) = true then 2 else if G.any (badI n) = true then 2 else if T.any (badS A n) = true then 2 else if risB S = true then (if risB G = true then (if ordB T = true then 0 else 3) else 3) else 3
theorem check_ev (hS : S.length ≤ 140737488351232) (hG : G.length ≤ 140737488351232) : Ev (fun k => buchi_Check.f k (A, n, S, T, G, ())) (chk7 A n S T G) ∧ Ev (fun k => evermoreref7_Check.f k (A, n, S, T, G, ())) (chk7 A n S T G) := by
  rw [chk7]
  by_cases c1 : A < 1
  · simp only [buchi_Check.f, evermoreref7_Check.f, if_pos c1]; exact ⟨Ev.now _, Ev.now _⟩
  by_cases c2 : 4 < A
  · simp only [buchi_Check.f, evermoreref7_Check.f, if_neg c1, if_pos c2]; exact ⟨Ev.now _, Ev.now _⟩
  by_cases c3 : n < 1
  · simp only [buchi_Check.f, evermoreref7_Check.f, if_neg c1, if_neg c2, if_pos c3]; exact ⟨Ev.now _, Ev.now _⟩
  by_cases c4 : 300 < n
  · simp only [buchi_Check.f, evermoreref7_Check.f, if_neg c1, if_neg c2, if_neg c3, if_pos c4]; exact ⟨Ev.now _, Ev.now _⟩
  by_cases c5 : 40000 < (T.length : Int)
  · simp only [buchi_Check.f, evermoreref7_Check.f, if_neg c1, if_neg c2, if_neg c3, if_neg c4, if_pos c5]; exact ⟨Ev.now _, Ev.now _⟩
  have hT : T.length ≤ 40000 := by omega
  simp only [buchi_Check.f, evermoreref7_Check.f, if_neg c1, if_neg c2, if_neg c3, if_neg c4, if_neg c5]
  constructor
  · refine Ev.bind (conI A n S T G S hS) ?_
    by_cases d1 : S.any (badI n) = true
    · simp only [if_pos d1]; exact Ev.now _
    simp only [if_neg d1]
    refine Ev.bind (conI A n S T G G hG) ?_
    by_cases d2 : G.any (badI n) = true
    · simp only [if_pos d2]; exact Ev.now _
    simp only [if_neg d2]
    refine Ev.bind (conS A n S T G T hT) ?_
    by_cases d3 : T.any (badS A n) = true
    · simp only [if_pos d3]; exact Ev.now _
    simp only [if_neg d3]
    refine Ev.bind (ris_ev S hS) ?_
    by_cases d4 : risB S = true
    · simp only [if_pos d4]
      refine Ev.bind (ris_ev G hG) ?_
      by_cases d5 : risB G = true
      · simp only [if_pos d5]
        by_cases h0 : T.length = 0
        · refine Ev.step (h := fun _ => some _) (fun k => ?_) (Ev.now _)
          rw [buchi_Check.l11, if_neg (by omega), ordB, h0]
          rfl
        · refine Ev.step (fun k => ?_) (p11 A n S T G hT _ 1 rfl (by omega) (by omega))
          rw [buchi_Check.l11, if_pos (by omega), if_neg (by omega)]
          rfl
      · simp only [if_neg d5]; exact Ev.now _
    · simp only [if_neg d4]; exact Ev.now _
  · have e32 := q32 A n S T G hT _ 1 rfl (by omega) (by omega)
    have e27 := q27 A n S T G hG _ e32 _ 1 rfl (by omega) (by omega)
    have e22 := q22 A n S T G hS _ e27 _ 1 rfl (by omega) (by omega)
    have e16 := q16 A n S T G hT _ e22 _ 0 rfl (by omega)
    have e11 := q11 A n S T G hG _ e16 _ 0 rfl (by omega)
    have e6 := q6 A n S T G hS _ e11 _ 0 rfl (by omega)
    simp only [List.drop_zero] at e6
    exact e6
theorem chk7_fit (h : chk7 A n S T G = 0) : AFit A n S T G ∧ n ≤ 300 := by
  rw [chk7] at h
  by_cases c1 : A < 1
  · rw [if_pos c1] at h; cases h
  rw [if_neg c1] at h
  by_cases c2 : 4 < A
  · rw [if_pos c2] at h; cases h
  rw [if_neg c2] at h
  by_cases c3 : n < 1
  · rw [if_pos c3] at h; cases h
  rw [if_neg c3] at h
  by_cases c4 : 300 < n
  · rw [if_pos c4] at h; cases h
  rw [if_neg c4] at h
  by_cases c5 : 40000 < (T.length : Int)
  · rw [if_pos c5] at h; cases h
  rw [if_neg c5] at h
  by_cases d1 : S.any (badI n) = true
  · rw [if_pos d1] at h; cases h
  rw [if_neg d1] at h
  by_cases d2 : G.any (badI n) = true
  · rw [if_pos d2] at h; cases h
  rw [if_neg d2] at h
  by_cases d3 : T.any (badS A n) = true
  · rw [if_pos d3] at h; cases h
  have hin : ∀ (l : List Int), ¬ l.any (badI n) = true → ∀ q ∈ l, 0 ≤ q ∧ q < n := by
    intro l hl q hq
    rw [Bool.not_eq_true, List.any_eq_false] at hl
    exact badI_iff.1 ((Bool.not_eq_true _).mp (hl q hq))
  refine ⟨⟨by omega, by omega, by omega, hin S d1, hin G d2, fun x hx => ?_, by omega⟩, by omega⟩
  rw [Bool.not_eq_true, List.any_eq_false] at d3
  have := (Bool.not_eq_true _).mp (d3 x hx)
  rw [badS, Bool.or_eq_false_iff, Bool.or_eq_false_iff] at this
  exact ⟨badI_iff.1 this.1, badI_iff.1 this.2.1, badI_iff.1 this.2.2⟩
end
end Go.Proofs.YtfkilmmldjajmaaSx.DC
namespace Go.Proofs.YtfkilmmldjajmaaSx.DC
/-! The copy. -/
theorem list_ev (l : List Int) (h : l.length * 8 ≤ 140737488351232) (k : Nat) : evermorelaw_list.f k l = some l := by
  have hw : Go.IntKind.i64.wrap ((l.length : Int) + 3) = (l.length : Int) + 3 := by rw [wr64] <;> omega
  rw [evermorelaw_list.f, hw, if_pos (by omega), if_pos (by omega), if_pos (by omega)]
  congr 1
  rw [cpy]
  simp
theorem auto_ev (A n : Int) (S : List Int) (T : List SP) (G : List Int) (hS : S.length * 8 ≤ 140737488351232) (hG : G.length * 8 ≤ 140737488351232) (hT : T.length * 24 ≤ 140737488351232) (k : Nat) : evermorelaw_auto.f k (A, n, S, T, G, ()) = some (A, n, S, T, G) := by
  simp only [evermorelaw_auto.f, list_ev S hS, list_ev G hG, Option.bind_some, List.nil_append]
  rw [if_pos (show fitsIn T.length 24 = true from Nat.ble_eq_true_of_le (by omega))]
theorem same_l6 (A n : Int) (S : List Int) (T : List SP) (G : List Int) (hT : T.length * 24 ≤ 140737488351232) : ∀ m i, T.length - i = m → i ≤ T.length → Ev (fun k => evermorelaw_sameAuto.l6 k (i : Int) A n S T G A n S T G) true := by
  intro m
  induction m with
  | zero =>
    intro i hn hi
    refine Ev.step (h := fun _ => some true) (fun k => ?_) (Ev.now _)
    rw [evermorelaw_sameAuto.l6, if_neg (by omega)]
  | succ m ih =>
    intro i hn hi
    refine Ev.step (fun k => ?_) (ih (i + 1) (by omega) (by omega))
    rw [evermorelaw_sameAuto.l6, if_pos (by omega), if_pos (by omega), if_pos (by omega), if_pos (by omega), if_pos (by omega), beq_self _ rfl, wrS i (by omega)]
    rfl
theorem selfw_l4 (a : List Int) (h : a.length ≤ 140737488351232) : ∀ m i, a.length - i = m → i ≤ a.length → Ev (fun k => evermoreref1_Words.l4 k a a (i : Int)) true := by
  intro m
  induction m with
  | zero =>
    intro i hn hi
    refine Ev.step (h := fun _ => some true) (fun k => ?_) (Ev.now _)
    rw [evermoreref1_Words.l4, if_neg (by omega)]
  | succ m ih =>
    intro i hn hi
    refine Ev.step (fun k => ?_) (ih (i + 1) (by omega) (by omega))
    rw [evermoreref1_Words.l4, if_pos (by omega), if_pos (by omega), if_pos (by omega), if_pos (by omega), if_pos (by omega), if_pos rfl, wrS i (by omega)]
theorem selfw (a : List Int) (h : a.length ≤ 140737488351232) : Ev (fun k => evermoreref1_Words.f k a a) true := by
  simp only [evermoreref1_Words.f, if_true]
  exact selfw_l4 a h _ 0 rfl (by omega)
theorem same_auto (A n : Int) (S : List Int) (T : List SP) (G : List Int) (hS : S.length * 8 ≤ 140737488351232) (hG : G.length * 8 ≤ 140737488351232) (hT : T.length * 24 ≤ 140737488351232) : Ev (fun k => evermorelaw_sameAuto.f k (A, n, S, T, G, ()) (A, n, S, T, G, ())) true := by
  simp only [evermorelaw_sameAuto.f]
  refine Ev.bind (selfw S (by omega)) (Ev.bind (selfw G (by omega)) ?_)
  simp only [if_true]
  exact same_l6 A n S T G hT _ 0 rfl (by omega)
/-! Sets as bits. -/
def gbit (s : Int) (q : Nat) : Int := Go.IntKind.i64.wrap (((BitVec.ofInt Go.IntKind.i64.bits (s.fdiv (2 ^ min q Go.IntKind.i64.bits)) &&& BitVec.ofInt Go.IntKind.i64.bits 1).toNat : Nat) : Int)
def gor (a b : Int) : Int := Go.IntKind.i64.wrap (((BitVec.ofInt Go.IntKind.i64.bits a ||| BitVec.ofInt Go.IntKind.i64.bits b).toNat : Nat) : Int)
def gand (a b : Int) : Int := Go.IntKind.i64.wrap (((BitVec.ofInt Go.IntKind.i64.bits a &&& BitVec.ofInt Go.IntKind.i64.bits b).toNat : Nat) : Int)
def gshl (m : Int) (q : Nat) : Int := Go.IntKind.i64.wrap (m * 2 ^ min q Go.IntKind.i64.bits)
theorem ofI (a : Nat) (h : a < 2 ^ 62) : (BitVec.ofInt Go.IntKind.i64.bits (a : Int)).toNat = a := by
  show (BitVec.ofInt 64 (a : Int)).toNat = a
  rw [BitVec.ofInt_natCast, BitVec.toNat_ofNat, Nat.mod_eq_of_lt (by omega)]
theorem gor_eq {a b : Nat} (ha : a < 2 ^ 62) (hb : b < 2 ^ 62) : gor (a : Int) (b : Int) = ((a ||| b : Nat) : Int) := by
  have h := Nat.or_lt_two_pow ha hb
  rw [gor, BitVec.toNat_or, ofI a ha, ofI b hb, wr64 _ (by omega) (by omega)]
theorem gand_eq {a b : Nat} (ha : a < 2 ^ 62) (hb : b < 2 ^ 62) : gand (a : Int) (b : Int) = ((a &&& b : Nat) : Int) := by
  have h := Nat.and_lt_two_pow a hb
  rw [gand, BitVec.toNat_and, ofI a ha, ofI b hb, wr64 _ (by omega) (by omega)]
theorem gshl_one {q : Nat} (hq : q < 62) : gshl 1 q = ((2 ^ q : Nat) : Int) := by
  have h := Nat.pow_lt_pow_right (a := 2) (by omega) hq
  have e : min q Go.IntKind.i64.bits = q := Nat.min_eq_left (by show q ≤ 64; omega)
  have e2 : (1 : Int) * 2 ^ q = ((2 ^ q : Nat) : Int) := by rw [Int.one_mul]; norm_cast
  obtain ⟨y, hy⟩ : ∃ y, y = 2 ^ q := ⟨_, rfl⟩
  rw [← hy] at h
  rw [gshl, e, e2, ← hy]
  exact wr64 _ (by omega) (by omega)
theorem gbit_val {s q : Nat} (hs : s < 2 ^ 62) (hq : q < 62) : gbit (s : Int) q = if s.testBit q = true then 1 else 0 := by
  have e : min q Go.IntKind.i64.bits = q := Nat.min_eq_left (by show q ≤ 64; omega)
  have e2 : ((s : Int)).fdiv (2 ^ q) = ((s / 2 ^ q : Nat) : Int) := by
    rw [show ((2 : Int) ^ q) = ((2 ^ q : Nat) : Int) by norm_cast]
    exact (Int.ofNat_fdiv s (2 ^ q)).symm
  have hd : s / 2 ^ q < 2 ^ 62 := Nat.lt_of_le_of_lt (Nat.div_le_self _ _) hs
  have h1 : (BitVec.ofInt Go.IntKind.i64.bits (1 : Int)).toNat = 1 := ofI 1 (by decide)
  rw [gbit, e, e2, BitVec.toNat_and, ofI _ hd, h1, Nat.and_one_is_mod]
  have ht : s.testBit q = decide (s / 2 ^ q % 2 = 1) := by rw [Nat.testBit_eq_decide_div_mod_eq]
  rw [ht]
  by_cases h : s / 2 ^ q % 2 = 1
  · rw [h, decide_eq_true rfl, if_pos rfl]; decide
  · rw [decide_eq_false h, if_neg (by decide), show s / 2 ^ q % 2 = 0 by omega]; decide
theorem gbit_iff {s q : Nat} (hs : s < 2 ^ 62) (hq : q < 62) : gbit (s : Int) q = 1 ↔ s.testBit q = true := by
  rw [gbit_val hs hq]
  by_cases h : s.testBit q = true
  · rw [if_pos h]; simp [h]
  · rw [if_neg h]; simp [h]
theorem bit_pow {q p : Nat} : (2 ^ q).testBit p = true ↔ q = p := by rw [Nat.testBit_two_pow]; simp
theorem bit_or {a b p : Nat} : (a ||| b).testBit p = true ↔ a.testBit p = true ∨ b.testBit p = true := by rw [Nat.testBit_or, Bool.or_eq_true]
theorem or8 {a b : Nat} (ha : a < 256) (hb : b < 256) : a ||| b < 256 := Nat.or_lt_two_pow (n := 8) ha hb
theorem pow8 {q : Nat} (hq : q < 8) : 2 ^ q < 256 := Nat.pow_lt_pow_right (by omega) (n := 8) hq
/-- A list's bits. -/
def bo : List Int → Nat → Nat
  | [], acc => acc
  | q :: l, acc => bo l (acc ||| 2 ^ q.toNat)
theorem bo_lt {n : Int} (h8 : n ≤ 8) : ∀ (l : List Int) acc, (∀ q ∈ l, 0 ≤ q ∧ q < n) → acc < 256 → bo l acc < 256
  | [], _, _, h => h
  | q :: l, acc, hl, h => bo_lt h8 l _ (fun x hx => hl x (List.mem_cons_of_mem _ hx)) (or8 h (pow8 (by have := hl q List.mem_cons_self; omega)))
theorem bo_bit {p : Nat} : ∀ (l : List Int) acc, (bo l acc).testBit p = true ↔ acc.testBit p = true ∨ ∃ q ∈ l, q.toNat = p
  | [], acc => by simp [bo]
  | q :: l, acc => by
    rw [bo, bo_bit l, bit_or, bit_pow]
    constructor
    · rintro ((h | h) | ⟨x, h1, h2⟩)
      · exact .inl h
      · exact .inr ⟨q, List.mem_cons_self, h⟩
      · exact .inr ⟨x, List.mem_cons_of_mem _ h1, h2⟩
    · rintro (h | ⟨x, h1, h2⟩)
      · exact .inl (.inl h)
      · rcases List.mem_cons.1 h1 with h | h
        · subst h; exact .inl (.inr h2)
        · exact .inr ⟨x, h, h2⟩
/-- Where the steps of a letter lead from a set. -/
def goes (s a : Nat) (x : SP) : Prop := x.2.1 = (a : Int) ∧ s.testBit x.1.toNat = true
instance (s a : Nat) (x : SP) : Decidable (goes s a x) := inferInstanceAs (Decidable (_ ∧ _))
def stF (s a : Nat) : List SP → Nat → Nat
  | [], acc => acc
  | x :: l, acc => stF s a l (if goes s a x then acc ||| 2 ^ x.2.2.1.toNat else acc)
theorem stF_lt {A n : Int} (h8 : n ≤ 8) {s a : Nat} : ∀ (l : List SP) acc, (∀ x ∈ l, (0 ≤ x.1 ∧ x.1 < n) ∧ (0 ≤ x.2.2.1 ∧ x.2.2.1 < n) ∧ (0 ≤ x.2.1 ∧ x.2.1 < A)) → acc < 256 → stF s a l acc < 256
  | [], _, _, h => h
  | x :: l, acc, hl, h => by
    rw [stF]
    refine stF_lt h8 l _ (fun y hy => hl y (List.mem_cons_of_mem _ hy)) ?_
    have := hl x List.mem_cons_self
    split
    · exact or8 h (pow8 (by omega))
    · exact h
theorem stF_bit {s a p : Nat} : ∀ (l : List SP) acc, (stF s a l acc).testBit p = true ↔ acc.testBit p = true ∨ ∃ x ∈ l, goes s a x ∧ x.2.2.1.toNat = p
  | [], acc => by simp [stF]
  | x :: l, acc => by
    rw [stF, stF_bit l]
    constructor
    · rintro (h | ⟨y, h1, h2⟩)
      · by_cases hg : goes s a x
        · rw [if_pos hg, bit_or, bit_pow] at h
          rcases h with h | h
          · exact .inl h
          · exact .inr ⟨x, List.mem_cons_self, hg, h⟩
        · rw [if_neg hg] at h; exact .inl h
      · exact .inr ⟨y, List.mem_cons_of_mem _ h1, h2⟩
    · rintro (h | ⟨y, h1, hg, h2⟩)
      · left
        by_cases hg : goes s a x
        · rw [if_pos hg, bit_or]; exact .inl h
        · rw [if_neg hg]; exact h
      · rcases List.mem_cons.1 h1 with h | h
        · subst h; left; rw [if_pos hg, bit_or, bit_pow]; exact .inr h2
        · exact .inr ⟨y, h, hg, h2⟩
end Go.Proofs.YtfkilmmldjajmaaSx.DC
namespace Go.Proofs.YtfkilmmldjajmaaSx.DC
theorem Ev.eqv {α : Type} {f h : Nat → Option α} {r : α} (e : ∀ m, f m = h m) (H : Ev h r) : Ev f r := by
  obtain ⟨k0, H⟩ := H; exact ⟨k0, fun k hk => (e k).trans (H k hk)⟩
abbrev KI : Ty := .int .i64
theorem ki_beq (x y : KI.den) : KI.beq x y = true ↔ x = y := by
  have e : KI.beq x y = decide (x = y) := rfl
  rw [e, decide_eq_true_iff]
def V256 (k : Int) : Prop := 0 ≤ k ∧ k < 256
theorem v256_bound (L : List Int) (h1 : L.Nodup) (h2 : ∀ k ∈ L, V256 k) : L.length ≤ 256 := nodup_ints 256 L h1 fun x hx => by have := h2 x hx; exact ⟨this.1, this.2⟩
def nfM (T : List SP) (k : Int) (a : Nat) : Int := (stF k.toNat a T 0 : Int)
def mkM (g : Nat) (k : Int) : Int := if k.toNat &&& g = 0 then 0 else 1
theorem mkM_ok (g : Nat) (k : Int) : mkM g k = 0 ∨ mkM g k = 1 := by unfold mkM; split <;> simp
theorem getD_memP (w : List SP) (j : Nat) (h : j < w.length) : w.getD j S0 ∈ w := by
  rw [List.getD_eq_getElem?_getD, List.getElem?_eq_getElem h]; exact List.getElem_mem h
theorem l62 {a : Nat} (h : a < 256) : a < 2 ^ 62 := Nat.lt_trans h (by decide)
theorem gor_pow {acc q : Nat} (ha : acc < 256) (hq : q < 8) : gor (acc : Int) (gshl 1 q) = ((acc ||| 2 ^ q : Nat) : Int) := by
  rw [gshl_one (by omega), gor_eq (l62 ha) (l62 (pow8 hq))]
variable {A n : Int} {S : List Int} {T : List SP} {G : List Int}
theorem bits_l3 (h8 : n ≤ 8) (l : List Int) (hl : l.length ≤ 140737488351232) (hq : ∀ q ∈ l, 0 ≤ q ∧ q < n) : ∀ m i (acc : Nat), l.length - i = m → i ≤ l.length → acc < 256 → Ev (fun k => det_Made_1.l3 k (acc : Int) l (l.length : Int) (i : Int)) ((bo (l.drop i) acc : Nat) : Int) := by
  intro m
  induction m with
  | zero =>
    intro i acc hm hi ha
    rw [List.drop_eq_nil_of_le (by omega)]
    refine Ev.step (h := fun _ => some (acc : Int)) (fun k => ?_) (Ev.now _)
    rw [det_Made_1.l3, if_neg (by omega)]
  | succ m ih =>
    intro i acc hm hi ha
    have hx := hq _ (getD_memI l i (by omega))
    have hr : rd (Int.ofNat 0) l (i : Int) = l.getD i 0 := rd_nat _ _ _
    rw [drop_getD 0 l i (by omega), bo]
    refine Ev.step (fun k => ?_) (ih (i + 1) (acc ||| 2 ^ (l.getD i 0).toNat) (by omega) (by omega) (or8 ha (pow8 (by omega))))
    rw [det_Made_1.l3, if_pos (by omega), if_pos (by omega), if_pos (by omega), hr, if_pos hx.1, wrS i (by omega)]
    show det_Made_1.l3 k (gor (acc : Int) (gshl 1 (l.getD i 0).toNat)) l _ _ = _
    rw [gor_pow ha (by omega)]
theorem bits_ev (h8 : n ≤ 8) (l : List Int) (hl : l.length ≤ 140737488351232) (hq : ∀ q ∈ l, 0 ≤ q ∧ q < n) : Ev (fun k => det_Made_1.f k l) ((bo l 0 : Nat) : Int) := bits_l3 h8 l hl hq _ 0 0 rfl (by omega) (by omega)
theorem step_l3 (AF : AFit A n S T G) (h8 : n ≤ 8) (s a : Nat) (hs : s < 256) : ∀ m i (acc : Nat), T.length - i = m → i ≤ T.length → acc < 256 →
    Ev (fun k => det_Made_2.l3 k (s : Int) (a : Int) (acc : Int) T (T.length : Int) (i : Int) A n S T G) (((stF s a (T.drop i) acc : Nat) : Int), A, n, S, T, G) := by
  have htl := AF.tl
  intro m
  induction m with
  | zero =>
    intro i acc hm hi ha
    rw [List.drop_eq_nil_of_le (by omega)]
    refine Ev.step (h := fun _ => some ((acc : Int), A, n, S, T, G)) (fun k => ?_) (Ev.now _)
    rw [det_Made_2.l3, if_neg (by omega)]
  | succ m ih =>
    intro i acc hm hi ha
    have hx := AF.t _ (getD_memP T i (by omega))
    obtain ⟨x, hxe⟩ : ∃ x, x = T.getD i S0 := ⟨_, rfl⟩
    have hr : rd (Int.ofNat 0, Int.ofNat 0, Int.ofNat 0, ()) T (i : Int) = x := by rw [rd_nat, hxe]
    rw [← hxe] at hx
    rw [drop_getD S0 T i (by omega), ← hxe, stF]
    have j7 : ∀ y : Int, ∀ k, det_Made_2.j7 (k + 1) (s : Int) (a : Int) y T (T.length : Int) (i : Int) A n S T G = det_Made_2.l3 k (s : Int) (a : Int) y T (T.length : Int) ((i + 1 : Nat) : Int) A n S T G := by
      intro y k; rw [det_Made_2.j7, wrSucc i (by omega)]
    by_cases h1 : x.2.1 = (a : Int)
    · by_cases h2 : s.testBit x.1.toNat = true
      · rw [if_pos (show goes s a x from And.intro h1 h2)]
        refine Ev.step (h := fun k => det_Made_2.j7 k (s : Int) (a : Int) ((acc ||| 2 ^ x.2.2.1.toNat : Nat) : Int) T (T.length : Int) (i : Int) A n S T G) (fun k => ?_) (Ev.step (j7 _) (ih (i + 1) _ (by omega) (by omega) (or8 ha (pow8 (by omega)))))
        rw [det_Made_2.l3, if_pos (by omega), if_pos (by omega), if_pos (by omega), hr, if_pos h1, if_pos (by omega)]
        refine (if_pos ((gbit_iff (l62 hs) (by omega)).2 h2)).trans ?_
        rw [if_pos (by omega)]
        show det_Made_2.j7 k (s : Int) (a : Int) (gor (acc : Int) (gshl 1 x.2.2.1.toNat)) T (T.length : Int) (i : Int) A n S T G = _
        rw [gor_pow ha (by omega)]
      · rw [if_neg (fun h : goes s a x => h2 h.2)]
        refine Ev.step (h := fun k => det_Made_2.j7 k (s : Int) (a : Int) (acc : Int) T (T.length : Int) (i : Int) A n S T G) (fun k => ?_) (Ev.step (j7 _) (ih (i + 1) _ (by omega) (by omega) ha))
        rw [det_Made_2.l3, if_pos (by omega), if_pos (by omega), if_pos (by omega), hr, if_pos h1, if_pos (by omega)]
        exact if_neg fun h => h2 ((gbit_iff (l62 hs) (by omega)).1 h)
    · rw [if_neg (fun h : goes s a x => h1 h.1)]
      refine Ev.step (h := fun k => det_Made_2.j7 k (s : Int) (a : Int) (acc : Int) T (T.length : Int) (i : Int) A n S T G) (fun k => ?_) (Ev.step (j7 _) (ih (i + 1) _ (by omega) (by omega) ha))
      rw [det_Made_2.l3, if_pos (by omega), if_pos (by omega), if_pos (by omega), hr, if_neg h1]
theorem step_ev (AF : AFit A n S T G) (h8 : n ≤ 8) {k : Int} (hk : V256 k) (a : Nat) : Ev (fun m => det_Made_2.f m k (a : Int) A n S T G) (nfM T k a, A, n, S, T, G) := by
  have := step_l3 AF h8 k.toNat a (by have := hk.1; have := hk.2; omega) _ 0 0 rfl (by omega) (by omega)
  rw [show ((k.toNat : Nat) : Int) = k from Int.toNat_of_nonneg hk.1] at this
  exact this
theorem v_step (AF : AFit A n S T G) (h8 : n ≤ 8) (k : Int) (a : Nat) : V256 (nfM T k a) := by
  have := stF_lt h8 (s := k.toNat) (a := a) T 0 AF.t (by omega)
  exact ⟨by unfold nfM; omega, by unfold nfM; omega⟩
theorem gand_k {k : Int} (hk : V256 k) {g : Nat} (hg : g < 256) : gand k (g : Int) = ((k.toNat &&& g : Nat) : Int) := by
  have := gand_eq (a := k.toNat) (b := g) (l62 (by have := hk.1; have := hk.2; omega)) (l62 hg)
  rw [show ((k.toNat : Nat) : Int) = k from Int.toNat_of_nonneg hk.1] at this; exact this
theorem mark3_ev {g : Nat} (hg : g < 256) {k : Int} (hk : V256 k) (m : Nat) : det_Made_3.f m k (g : Int) = some (mkM g k, (g : Int)) := by
  have e := gand_k hk hg
  have : det_Made_3.f m k (g : Int) = some (if 1 < gand k (g : Int) then 1 else gand k (g : Int), (g : Int)) := rfl
  rw [this, e, mkM]
  by_cases h : k.toNat &&& g = 0
  · rw [h]; rfl
  · rw [if_neg h]
    by_cases h1 : (1 : Int) < ((k.toNat &&& g : Nat) : Int)
    · rw [if_pos h1]
    · rw [if_neg h1, show ((k.toNat &&& g : Nat) : Int) = 1 by omega]
abbrev RP := Int × Int × Bool × Int × Int × List Int × List SP × List Int × Int × List (List Int) × List Int
/-- The program's search. -/
def sysP (AF : AFit A n S T G) (h8 : n ≤ 8) (g : Nat) (hg : g < 256) : Sys A.toNat (nfM T) (mkM g) V256 256 RP where
  g8 a L k row X Y := fun m => det_Explore_int_.l8 m A 3000 k A (a : Int) A n S T G (g : Int) 0 0 A 0 (nmk KI L) L (padI A.toNat row) [] [] X Y
  g4 L X Y := fun m => det_Explore_int_.l4 m A 3000 A n S T G (g : Int) 0 0 A 0 (nmk KI L) L [] [] X Y
  fin X Y := fun _ => some (A, 0, true, A, n, S, T, G, (g : Int), X, Y)
  known a L k row X Y r i ha K hk hr hx hkx hi e E := by
    have a4 := AF.a4
    have hm : mhas KI (.int .i64) (nmk KI L) (nfM T k a) = true := nmk_hit (K := KI) ki_beq (show nfM T k a ∈ L from e ▸ List.getElem_mem hi)
    have hg : mget KI (.int .i64) (nmk KI L) (nfM T k a) = (i : Int) := nmk_get (K := KI) ki_beq K.nd hi e
    have hp := pad_len (A := A.toNat) (row := row) (by omega)
    refine Ev.step (fun n => by rw [det_Explore_int_.l8, if_pos (show (a : Int) < A by omega)]) (Ev.bind (step_ev AF h8 (K.v k hk) a) ?_)
    simp only [hm, if_true, hg]
    refine Ev.step (fun n => ?_) E
    rw [det_Explore_int_.j18, if_pos (by omega), if_pos (by omega), wrSucc a (by omega), Int.toNat_natCast]
    have := pad_set (A := A.toNat) (row := row) (i : Int) (by omega)
    rw [hr] at this
    rw [this]
  new a L k row X Y r ha K hk hr hx hkx hn K2' E := by
    have a4 := AF.a4
    have hm : mhas KI (.int .i64) (nmk KI L) (nfM T k a) = false := nmk_miss (K := KI) ki_beq hn
    have hg : mput KI (.int .i64) (nmk KI L) (nfM T k a) (L.length : Int) = nmk KI (L ++ [nfM T k a]) := nmk_put (K := KI) ki_beq hn
    have hp := pad_len (A := A.toNat) (row := row) (by omega)
    have hle := K.le
    have hle2 := K2'.le
    rw [List.length_append, List.length_singleton] at hle2
    refine Ev.step (fun n => by rw [det_Explore_int_.l8, if_pos (show (a : Int) < A by omega)]) (Ev.bind (step_ev AF h8 (K.v k hk) a) ?_)
    simp only [hm, Bool.false_eq_true, if_false, hg, if_neg (show ¬ (L.length : Int) = 3000 by omega), if_pos (short (L ++ [nfM T k a]).length (by rw [List.length_append, List.length_singleton]; omega))]
    refine Ev.step (fun n => ?_) E
    rw [det_Explore_int_.j18, if_pos (by omega), if_pos (by omega), wrSucc a (by omega), Int.toNat_natCast]
    have := pad_set (A := A.toNat) (row := row) (L.length : Int) (by omega)
    rw [hr] at this
    rw [this]
  done L k row X Y r K hk hr hx hkx hy E := by
    have a4 := AF.a4; have a1 := AF.a1
    have hle := K.le
    refine Ev.step (fun n => ?_) E
    rw [det_Explore_int_.l8, if_neg (by omega), pad_full hr, if_pos (short _ (by rw [List.length_append, List.length_singleton]; omega)), mark3_ev hg (K.v k hk), Option.bind_some]
    exact if_pos (short _ (by rw [List.length_append, List.length_singleton]; omega))
  start L X Y r h K hy E := by
    have a4 := AF.a4; have a1 := AF.a1
    refine Ev.step (fun n => ?_) E
    have e : L.getD X.length (Int.ofNat 0) = L[X.length] := by rw [List.getD_eq_getElem?_getD, List.getElem?_eq_getElem h]; rfl
    rw [det_Explore_int_.l4, if_pos (by omega), if_pos (by omega), if_pos (by omega), if_pos (by omega), if_pos (by omega), if_pos (by omega), Int.toNat_natCast, e]
    rfl
  stop L X Y r K h hy E := by
    refine Ev.step (fun n => ?_) E
    rw [det_Explore_int_.l4, if_neg (by omega)]
/-! The reference's search. -/
/-- The numbers of what was come to. -/
def numM (L : List Int) : List Int := (List.range 256).map fun v : Nat => if L.findIdx (fun x => decide ((v : Int) = x)) < L.length then ((L.findIdx (fun x => decide ((v : Int) = x)) : Nat) : Int) else -1
theorem numM_len (L : List Int) : (numM L).length = 256 := by simp [numM]
theorem numM_getD (L : List Int) {v : Nat} (hv : v < 256) : (numM L).getD v 0 = if L.findIdx (fun x => decide ((v : Int) = x)) < L.length then ((L.findIdx (fun x => decide ((v : Int) = x)) : Nat) : Int) else -1 := by
  rw [numM, List.getD_eq_getElem?_getD, List.getElem?_map, List.getElem?_range hv]; rfl
theorem fidx_mem (L : List Int) (x : Int) : L.findIdx (fun y => decide (x = y)) < L.length ↔ x ∈ L := by
  rw [List.findIdx_lt_length]
  constructor
  · rintro ⟨y, hy, e⟩; rw [decide_eq_true_iff] at e; rw [e]; exact hy
  · intro h; exact ⟨x, h, by simp⟩
theorem numM_hit {L : List Int} (hn : L.Nodup) {i : Nat} (hi : i < L.length) {v : Nat} (hv : v < 256) (e : L[i] = (v : Int)) : (numM L).getD v 0 = (i : Int) := by
  have h1 : L.findIdx (fun x => decide ((v : Int) = x)) = i := by
    have := findIdx_int L hn i hi
    rw [List.getD_eq_getElem?_getD, List.getElem?_eq_getElem hi, Option.getD_some, e] at this; exact this
  rw [numM_getD L hv, h1, if_pos hi]
theorem numM_miss {L : List Int} {v : Nat} (hv : v < 256) (h : (v : Int) ∉ L) : (numM L).getD v 0 = -1 := by
  rw [numM_getD L hv, if_neg fun h' => h ((fidx_mem L _).1 h')]
theorem fidx_app (L : List Int) (x y : Int) : (L ++ [y]).findIdx (fun z => decide (x = z)) = if x ∈ L then L.findIdx (fun z => decide (x = z)) else if x = y then L.length else L.length + 1 := by
  induction L with
  | nil => simp only [List.nil_append, List.findIdx_cons, List.findIdx_nil]; by_cases h : x = y <;> simp [h]
  | cons a L ih =>
    rw [List.cons_append, List.findIdx_cons, List.findIdx_cons, ih]
    by_cases h : x = a
    · simp [h]
    · simp only [h, decide_false, cond_false, List.mem_cons, false_or, List.length_cons]
      by_cases h2 : x ∈ L
      · simp [h2]
      · by_cases h3 : x = y
        · subst h3; simp [h2]
        · simp [h2, h3]
theorem numM_set {L : List Int} {v : Nat} (hv : v < 256) (h : (v : Int) ∉ L) : (numM L).set v (L.length : Int) = numM (L ++ [(v : Int)]) := by
  apply List.ext_getElem (by rw [List.length_set, numM_len, numM_len])
  intro i h1 h2
  rw [numM_len] at h2
  rw [List.getElem_set]
  have g : ∀ L' : List Int, ∀ hh : i < (numM L').length, (numM L')[i] = (numM L').getD i 0 := fun L' hh => by rw [List.getD_eq_getElem?_getD, List.getElem?_eq_getElem hh]; rfl
  by_cases e : v = i
  · subst e
    rw [if_pos rfl, g _ (by rw [numM_len]; exact h2), numM_getD _ h2, fidx_app, if_neg h, if_pos rfl, if_pos (by simp)]
  · rw [if_neg e, g _ (by rw [numM_len]; exact h2), g _ (by rw [numM_len]; exact h2), numM_getD _ h2, numM_getD _ h2, fidx_app]
    by_cases hm : (i : Int) ∈ L
    · have hx := (fidx_mem L (i : Int)).2 hm
      rw [if_pos hm, if_pos hx, if_pos (by rw [List.length_append]; omega)]
    · have hx : ¬ L.findIdx (fun x => decide ((i : Int) = x)) < L.length := fun h' => hm ((fidx_mem L _).1 h')
      rw [if_neg hm, if_neg (show ¬ (i : Int) = (v : Int) by omega), if_neg hx, if_neg (by simp)]
theorem numM_nil : numM [] = List.replicate 256 (-1) := by
  rw [List.eq_replicate_iff]
  exact ⟨numM_len _, fun b hb => by rw [numM, List.mem_map] at hb; obtain ⟨v, _, e⟩ := hb; rw [← e]; simp⟩
abbrev RR := Int × Int × List (List Int) × List Int
theorem ref_l28 (AF : AFit A n S T G) (h8 : n ≤ 8) (g : Nat) (L : List Int) (k : Int) (i a : Nat) (hi : i < L.length) (hk : L[i] = k) (hv : V256 k) (row : List Int) (X : List (List Int)) (Y : List Int) (r : RR) : ∀ m j (acc : Nat), T.length - j = m → j ≤ T.length → acc < 256 →
    Ev (fun m => if (numM L).getD (stF k.toNat a (T.drop j) acc) 0 < 0 then
        (if (L ++ [((stF k.toNat a (T.drop j) acc : Nat) : Int)]).length.blt 1000000000 = true then
        evermoreref3_Made.j36 m (g : Int) (i : Int) (a : Int) ((stF k.toNat a (T.drop j) acc : Nat) : Int) A n S T G 0 0 ((numM L).set (stF k.toNat a (T.drop j) acc) (L.length : Int)) (L ++ [((stF k.toNat a (T.drop j) acc : Nat) : Int)]) A 0 row [] [] X Y else none)
      else evermoreref3_Made.j36 m (g : Int) (i : Int) (a : Int) ((stF k.toNat a (T.drop j) acc : Nat) : Int) A n S T G 0 0 (numM L) L A 0 row [] [] X Y) r →
    Ev (fun m => evermoreref3_Made.l28 m (g : Int) (i : Int) (a : Int) (acc : Int) (j : Int) A n S T G 0 0 (numM L) L A 0 row [] [] X Y) r := by
  have htl := AF.tl
  have hs : k.toNat < 256 := by have := hv.1; have := hv.2; omega
  have hL : L.getD (i : Int).toNat (Int.ofNat 0) = ((k.toNat : Nat) : Int) := by
    rw [Int.toNat_natCast, List.getD_eq_getElem?_getD, List.getElem?_eq_getElem hi, Option.getD_some, hk]
    exact (Int.toNat_of_nonneg hv.1).symm
  intro m
  induction m with
  | zero =>
    intro j acc hm hj ha E
    rw [List.drop_eq_nil_of_le (by omega)] at E
    refine Ev.step (fun q => ?_) E
    have hlen := numM_len L
    rw [evermoreref3_Made.l28, if_neg (by omega), if_pos (by omega), if_pos (by omega)]
    by_cases h : (numM L).getD acc 0 < 0
    · exact (if_pos h).trans ((if_pos (by omega)).trans ((if_pos (by omega)).trans (if_pos h).symm))
    · exact (if_neg h).trans (if_neg h).symm
  | succ m ih =>
    intro j acc hm hj ha E
    have hx := AF.t _ (getD_memP T j (by omega))
    obtain ⟨x, hxe⟩ : ∃ x, x = T.getD j S0 := ⟨_, rfl⟩
    have hr : rd (Int.ofNat 0, Int.ofNat 0, Int.ofNat 0, ()) T (j : Int) = x := by rw [rd_nat, hxe]
    rw [← hxe] at hx
    rw [drop_getD S0 T j (by omega), ← hxe, stF] at E
    have j29 : ∀ y : Int, ∀ q, evermoreref3_Made.j29 (q + 1) (g : Int) (i : Int) (a : Int) y (j : Int) A n S T G 0 0 (numM L) L A 0 row [] [] X Y = evermoreref3_Made.l28 q (g : Int) (i : Int) (a : Int) y ((j + 1 : Nat) : Int) A n S T G 0 0 (numM L) L A 0 row [] [] X Y := by
      intro y q; rw [evermoreref3_Made.j29, wrSucc j (by omega)]
    by_cases h1 : x.2.1 = (a : Int)
    · by_cases h2 : k.toNat.testBit x.1.toNat = true
      · rw [if_pos (show goes k.toNat a x from And.intro h1 h2)] at E
        refine Ev.step (h := fun q => evermoreref3_Made.j29 q (g : Int) (i : Int) (a : Int) ((acc ||| 2 ^ x.2.2.1.toNat : Nat) : Int) (j : Int) A n S T G 0 0 (numM L) L A 0 row [] [] X Y) (fun q => ?_) (Ev.step (j29 _) (ih (j + 1) _ (by omega) (by omega) (or8 ha (pow8 (by omega))) E))
        rw [evermoreref3_Made.l28, if_pos (by omega), if_pos (by omega), if_pos (by omega), hr, if_pos h1, if_pos (by omega), if_pos (by omega), if_pos (by omega), hL]
        refine (if_pos ((gbit_iff (l62 hs) (by omega)).2 h2)).trans ?_
        rw [if_pos (by omega)]
        show evermoreref3_Made.j29 q (g : Int) (i : Int) (a : Int) (gor (acc : Int) (gshl 1 x.2.2.1.toNat)) (j : Int) A n S T G 0 0 (numM L) L A 0 row [] [] X Y = _
        rw [gor_pow ha (by omega)]
      · rw [if_neg (fun h : goes k.toNat a x => h2 h.2)] at E
        refine Ev.step (h := fun q => evermoreref3_Made.j29 q (g : Int) (i : Int) (a : Int) (acc : Int) (j : Int) A n S T G 0 0 (numM L) L A 0 row [] [] X Y) (fun q => ?_) (Ev.step (j29 _) (ih (j + 1) _ (by omega) (by omega) ha E))
        rw [evermoreref3_Made.l28, if_pos (by omega), if_pos (by omega), if_pos (by omega), hr, if_pos h1, if_pos (by omega), if_pos (by omega), if_pos (by omega), hL]
        exact if_neg fun h => h2 ((gbit_iff (l62 hs) (by omega)).1 h)
    · rw [if_neg (fun h : goes k.toNat a x => h1 h.1)] at E
      refine Ev.step (h := fun q => evermoreref3_Made.j29 q (g : Int) (i : Int) (a : Int) (acc : Int) (j : Int) A n S T G 0 0 (numM L) L A 0 row [] [] X Y) (fun q => ?_) (Ev.step (j29 _) (ih (j + 1) _ (by omega) (by omega) ha E))
      rw [evermoreref3_Made.l28, if_pos (by omega), if_pos (by omega), if_pos (by omega), hr, if_neg h1]
theorem j36_ev (AF : AFit A n S T G) (g i a v : Nat) (hv : v < 256) (c : Nat) (num L row : List Int) (hnum : num.length = 256) (hc : num.getD v 0 = (c : Int)) (hrow : row.length = a) (ha : (a : Int) < A) (X : List (List Int)) (Y : List Int) (r : RR)
    (E : Ev (fun m => evermoreref3_Made.l24 m (g : Int) (i : Int) ((a + 1 : Nat) : Int) A n S T G 0 0 num L A 0 (row ++ [(c : Int)]) [] [] X Y) r) :
    Ev (fun m => evermoreref3_Made.j36 m (g : Int) (i : Int) (a : Int) (v : Int) A n S T G 0 0 num L A 0 row [] [] X Y) r := by
  have a4 := AF.a4
  have hc' : num.getD (v : Int).toNat (Int.ofNat 0) = (c : Int) := hc
  refine Ev.step (fun m => ?_) E
  rw [evermoreref3_Made.j36, if_pos (by omega), if_pos (by omega), hc', if_pos (short _ (by rw [List.length_append, List.length_singleton]; omega)), wrSucc a (by omega)]
/-- The reference's search. -/
def sysR (AF : AFit A n S T G) (h8 : n ≤ 8) (g : Nat) (hg : g < 256) : Sys A.toNat (nfM T) (mkM g) V256 256 RR where
  g8 a L k row X Y := fun m => evermoreref3_Made.l24 m (g : Int) (X.length : Int) (a : Int) A n S T G 0 0 (numM L) L A 0 row [] [] X Y
  g4 L X Y := fun m => evermoreref3_Made.l20 m (g : Int) (X.length : Int) A n S T G 0 0 (numM L) L A 0 [] [] X Y
  fin X Y := fun m => (evermoreref3_Least.f m (A, 0, X, Y, ())).bind fun r3 => some (r3.fst, r3.snd.fst, r3.snd.snd.fst, r3.snd.snd.snd)
  known a L k row X Y r i ha K hk hr hx hkx hi e E := by
    have hkx2 : L[X.length] = k := by rw [List.getElem?_eq_getElem hx] at hkx; exact Option.some.inj hkx
    have hlt := stF_lt h8 (s := k.toNat) (a := a) T 0 AF.t (by omega)
    have hn : (numM L).getD (stF k.toNat a T 0) 0 = (i : Int) := numM_hit K.nd hi hlt e
    refine Ev.step (fun m => ?_) (ref_l28 AF h8 g L k X.length a hx hkx2 (K.v k hk) row X Y r _ 0 0 rfl (by omega) (by omega) ?_)
    · rw [evermoreref3_Made.l24, if_pos (by omega)]; rfl
    · rw [List.drop_zero]
      refine Ev.eqv (h := fun m => evermoreref3_Made.j36 m (g : Int) (X.length : Int) (a : Int) ((stF k.toNat a T 0 : Nat) : Int) A n S T G 0 0 (numM L) L A 0 row [] [] X Y) (fun m => if_neg (by rw [hn]; omega)) ?_
      exact j36_ev AF g X.length a _ hlt i _ L row (numM_len L) hn hr (by omega) X Y r E
  new a L k row X Y r ha K hk hr hx hkx hnm K2' E := by
    have hkx2 : L[X.length] = k := by rw [List.getElem?_eq_getElem hx] at hkx; exact Option.some.inj hkx
    have hlt := stF_lt h8 (s := k.toNat) (a := a) T 0 AF.t (by omega)
    have hn : (numM L).getD (stF k.toNat a T 0) 0 = -1 := numM_miss hlt hnm
    have hle2 := K2'.le
    have hse : (numM L).set (stF k.toNat a T 0) (L.length : Int) = numM (L ++ [nfM T k a]) := numM_set hlt hnm
    have hn2 : (numM (L ++ [nfM T k a])).getD (stF k.toNat a T 0) 0 = (L.length : Int) := numM_hit K2'.nd (by simp) hlt (by simp [nfM])
    refine Ev.step (fun m => ?_) (ref_l28 AF h8 g L k X.length a hx hkx2 (K.v k hk) row X Y r _ 0 0 rfl (by omega) (by omega) ?_)
    · rw [evermoreref3_Made.l24, if_pos (by omega)]; rfl
    · rw [List.drop_zero]
      refine Ev.eqv (h := fun m => evermoreref3_Made.j36 m (g : Int) (X.length : Int) (a : Int) ((stF k.toNat a T 0 : Nat) : Int) A n S T G 0 0 (numM (L ++ [nfM T k a])) (L ++ [nfM T k a]) A 0 row [] [] X Y) (fun m => ?_) ?_
      · refine (if_pos (by rw [hn]; omega)).trans ((if_pos (short _ (by rw [List.length_append, List.length_singleton] at hle2 ⊢; omega))).trans ?_)
        rw [hse]; rfl
      · exact j36_ev AF g X.length a _ hlt L.length _ _ row (numM_len _) hn2 hr (by omega) X Y r E
  done L k row X Y r K hk hr hx hkx hy E := by
    have a4 := AF.a4; have a1 := AF.a1
    have hle := K.le
    have hkx2 : L[X.length] = k := by rw [List.getElem?_eq_getElem hx] at hkx; exact Option.some.inj hkx
    have hv := K.v k hk
    have hL : L.getD (X.length : Int).toNat (Int.ofNat 0) = k := by
      rw [Int.toNat_natCast, List.getD_eq_getElem?_getD, List.getElem?_eq_getElem hx, Option.getD_some, hkx2]
    have e := gand_k hv hg
    have hE : (fun m => evermoreref3_Made.l20 m (g : Int) ((X.length + 1 : Nat) : Int) A n S T G 0 0 (numM L) L A 0 [] [] (X ++ [row]) (Y ++ [mkM g k])) = (fun m => evermoreref3_Made.l20 m (g : Int) ((X ++ [row]).length : Int) A n S T G 0 0 (numM L) L A 0 [] [] (X ++ [row]) (Y ++ [mkM g k])) := by
      rw [List.length_append, List.length_singleton]
    rw [← hE] at E
    refine Ev.step (h := fun m => evermoreref3_Made.j41 m (g : Int) (X.length : Int) (mkM g k) A n S T G 0 0 (numM L) L A 0 [] [] (X ++ [row]) Y) (fun m => ?_) (Ev.step (fun m => ?_) E)
    · rw [evermoreref3_Made.l24, if_neg (by omega), if_pos (short _ (by rw [List.length_append, List.length_singleton]; omega)), if_pos (by omega), if_pos (by omega), hL]
      by_cases h : k.toNat &&& g = 0
      · rw [mkM, if_pos h]; exact if_pos (show gand k (g : Int) = 0 by rw [e, h]; rfl)
      · rw [mkM, if_neg h]; exact if_neg (show ¬ gand k (g : Int) = 0 by rw [e]; omega)
    · rw [evermoreref3_Made.j41, if_pos (short _ (by rw [List.length_append, List.length_singleton]; omega)), wrSucc _ (by omega)]
  start L X Y r h K hy E := by
    refine Ev.step (fun m => ?_) E
    rw [evermoreref3_Made.l20, if_pos (by omega)]; rfl
  stop L X Y r K h hy E := by
    refine Ev.step (fun m => ?_) E
    rw [evermoreref3_Made.l20, if_neg (by omega)]
end Go.Proofs.YtfkilmmldjajmaaSx.DC
namespace Go.Proofs.YtfkilmmldjajmaaSx.DC
/-- The state behind a word. -/
def afterN (N : List (List Int)) (q : Int) (w : List Int) : Int := w.foldl (fun q a => (N.getD q.toNat []).getD a.toNat 0) q
def WordOk (A : Int) (w : List Int) : Prop := ∀ x ∈ w, 0 ≤ x ∧ x < A
abbrev nats (w : List Int) : List Nat := w.map Int.toNat
theorem nats_ok {A : Int} {w : List Int} (h : WordOk A w) : ∀ a ∈ nats w, (a : Int) < A := by
  intro a ha
  obtain ⟨x, hx, rfl⟩ := List.mem_map.1 ha
  have := h x hx; omega
section
variable {A s : Int} {N : List (List Int)} {M : List Int}
theorem step_ok (F : Fit A s N M) {q x : Int} (hq : 0 ≤ q ∧ q < (N.length : Int)) (hx : 0 ≤ x ∧ x < A) : 0 ≤ (N.getD q.toNat []).getD x.toNat 0 ∧ (N.getD q.toNat []).getD x.toNat 0 < (N.length : Int) :=
  F.ent q.toNat (by omega) x.toNat (by omega)
theorem after_l2 (F : Fit A s N M) (w : List Int) (hw : WordOk A w) (hl : w.length ≤ 100000) : ∀ n i q, w.length - i = n → i ≤ w.length → (0 ≤ q ∧ q < (N.length : Int)) →
    Ev (fun k => evermoreref3_After.l2 k q w (i : Int) A s N M) (afterN N q (w.drop i)) := by
  intro n
  induction n with
  | zero =>
    intro i q hn hi hq
    rw [List.drop_eq_nil_of_le (by omega)]
    refine Ev.step (h := fun _ => some q) (fun k => ?_) (Ev.now _)
    rw [evermoreref3_After.l2, if_neg (by omega)]
  | succ n ih =>
    intro i q hn hi hq
    have hx := hw _ (getD_memI w i (by omega))
    have hrow := F.row q.toNat (by omega)
    have hrd : rd [] N q = N.getD q.toNat [] := rfl
    have c1 : (0 : Int) ≤ w.getD i (Int.ofNat 0) := hx.1
    have c2 : w.getD i (Int.ofNat 0) < (((N.getD q.toNat []).length : Nat) : Int) := by rw [hrow]; exact hx.2
    have h1 := ih (i + 1) ((N.getD q.toNat []).getD (w.getD i 0).toNat 0) (by omega) (by omega) (step_ok F hq hx)
    rw [drop_getD 0 w i (by omega)]
    refine Ev.step (fun k => ?_) h1
    rw [evermoreref3_After.l2, if_pos (by omega), if_pos (by omega), if_pos (by omega), if_pos (by omega), if_pos (by omega), rd_nat, if_pos c1, hrd, if_pos c2, wrSucc i (by omega)]
    rfl
theorem after_ev (F : Fit A s N M) (w : List Int) (hw : WordOk A w) (hl : w.length ≤ 100000) (q : Int) (hq : 0 ≤ q ∧ q < (N.length : Int)) : Ev (fun k => evermoreref3_After.f k (A, s, N, M, ()) q w) (afterN N q w) := by
  have := after_l2 F w hw hl _ 0 q rfl (by omega) hq
  rw [List.drop_zero] at this; exact this
theorem afterN_aft (F : Fit A s N M) : ∀ (w : List Int) (q : Nat), WordOk A w → q < N.length → afterN N (q : Int) w = ((aft N q (nats w) : Nat) : Int) ∧ aft N q (nats w) < N.length := by
  intro w
  induction w with
  | nil => intro q _ hq; exact ⟨rfl, hq⟩
  | cons a w ih =>
    intro q hw hq
    have ha := hw a List.mem_cons_self
    have he := F.ent q hq a.toNat (by omega)
    have := ih ((N.getD q []).getD a.toNat 0).toNat (fun x hx => hw x (List.mem_cons_of_mem _ hx)) (by omega)
    rw [show (((N.getD q []).getD a.toNat 0).toNat : Int) = (N.getD q []).getD a.toNat 0 by omega] at this
    exact this
theorem ref_after (F : Fit A s N M) (w : List Int) (hw : WordOk A w) (hl : w.length ≤ 100000) (q : Nat) (hq : q < N.length) : Ev (fun k => evermoreref3_After.f k (A, s, N, M, ()) (q : Int) w) ((aft N q (nats w) : Nat) : Int) :=
  (after_ev F w hw hl (q : Int) ⟨by omega, by omega⟩).cast (afterN_aft F w q hw hq).1
end
/-- Where a word leads in what a search has made. -/
theorem rows_walk {κ : Type} {B : Int} {nf : κ → Nat → κ} {mf : κ → Int} {L : List κ} {X : List (List Int)} {Y : List Int} (H : Rows B.toNat nf mf L X Y) (hl : X.length = L.length) : ∀ (w : List Nat) (i : Nat) (hi : i < L.length), (∀ a ∈ w, (a : Int) < B) → Y.getD (aft X i w) 0 = mf (w.foldl nf L[i]) := by
  intro w
  induction w with
  | nil => intro i hi _; exact (H.row i (by omega)).2.1
  | cons a w ih =>
    intro i hi hw
    obtain ⟨j, hj, e1, e2⟩ := (H.row i (by omega)).2.2 a (by have := hw a List.mem_cons_self; omega)
    rw [aft, e1, Int.toNat_natCast, ih j hj (fun b hb => hw b (List.mem_cons_of_mem _ hb)), e2]
    rfl
theorem may_ref (A : Int) (w : List Int) : ∃ e, Ev (fun k => evermoreref1_May.f k A w) e ∧ (e = 0 → WordOk A w ∧ w.length ≤ 60) := by
  by_cases h1 : A < 1
  · exact ⟨2, .all fun k => by rw [evermoreref1_May.f, if_pos h1], fun h => absurd h (by decide)⟩
  by_cases h2 : 4 < A
  · exact ⟨2, .all fun k => by rw [evermoreref1_May.f, if_neg h1, if_pos h2], fun h => absurd h (by decide)⟩
  by_cases h3 : 60 < (w.length : Int)
  · exact ⟨1, .all fun k => by rw [evermoreref1_May.f, if_neg h1, if_neg h2, if_pos h3], fun h => absurd h (by decide)⟩
  have l6 : ∀ n i, w.length - i = n → i ≤ w.length → ∃ e, Ev (fun k => evermoreref1_May.l6 k A w (i : Int)) e ∧ (e = 0 → ∀ x ∈ w.drop i, 0 ≤ x ∧ x < A) := by
    intro n
    induction n with
    | zero =>
      intro i hn hi
      refine ⟨0, Ev.step (h := fun _ => some 0) (fun k => ?_) (Ev.now _), fun _ x hx => ?_⟩
      · rw [evermoreref1_May.l6, if_neg (by omega)]
      · rw [List.drop_eq_nil_of_le (by omega)] at hx; simp at hx
    | succ n ih =>
      intro i hn hi
      obtain ⟨e, g2, g3⟩ := ih (i + 1) (by omega) (by omega)
      have hr : rd (Int.ofNat 0) w (i : Int) = w.getD i 0 := rd_nat _ _ _
      by_cases c1 : w.getD i 0 < 0
      · refine ⟨2, Ev.step (h := fun _ => some 2) (fun k => ?_) (Ev.now _), fun h => absurd h (by decide)⟩
        rw [evermoreref1_May.l6, if_pos (by omega), if_pos (by omega), if_pos (by omega), hr, if_pos c1]
      · by_cases c2 : A ≤ w.getD i 0
        · refine ⟨2, Ev.step (h := fun _ => some 2) (fun k => ?_) (Ev.now _), fun h => absurd h (by decide)⟩
          rw [evermoreref1_May.l6, if_pos (by omega), if_pos (by omega), if_pos (by omega), hr, if_neg c1, if_pos (by omega), if_pos (by omega), if_pos c2]
        · refine ⟨e, Ev.step (fun k => ?_) g2, fun he x hx => ?_⟩
          · rw [evermoreref1_May.l6, if_pos (by omega), if_pos (by omega), if_pos (by omega), hr, if_neg c1, if_pos (by omega), if_pos (by omega), if_neg c2, wrSucc i (by omega)]
          · rw [drop_getD 0 w i (by omega)] at hx
            rcases List.mem_cons.1 hx with h | h
            · rw [h]; omega
            · exact g3 he x h
  obtain ⟨e, q2, q3⟩ := l6 _ 0 rfl (by omega)
  refine ⟨e, ?_, fun he => ⟨fun x hx => q3 he x (by rw [List.drop_zero]; exact hx), by omega⟩⟩
  simp only [evermoreref1_May.f, if_neg h1, if_neg h2, if_neg h3]; exact q2
variable {A n : Int} {S : List Int} {T : List SP} {G : List Int}
theorem getD_setB (l : List Bool) (x y : Nat) (v : Bool) : (l.set x v).getD y false = if x = y ∧ y < l.length then v else l.getD y false := by
  rw [List.getD_eq_getElem?_getD, List.getD_eq_getElem?_getD, List.getElem?_set]
  by_cases h : x = y
  · subst h
    by_cases h2 : x < l.length
    · simp [h2]
    · simp [h2]
  · simp [h]
/-- Truths that are a set's bits. -/
structure Now (n : Int) (now : List Bool) (b : Nat) : Prop where
  len : (now.length : Int) = n
  bit : ∀ p : Nat, (p : Int) < n → now.getD p false = b.testBit p
theorem Now.put {now : List Bool} {b : Nat} (H : Now n now b) {q : Nat} (hq : (q : Int) < n) : Now n (now.set q true) (b ||| 2 ^ q) := by
  have hl := H.len
  refine ⟨by rw [List.length_set]; exact hl, fun p hp => ?_⟩
  rw [getD_setB, Nat.testBit_or, Nat.testBit_two_pow]
  by_cases h : q = p
  · rw [if_pos ⟨h, by omega⟩]; simp [h]
  · rw [if_neg (fun h' => h h'.1), H.bit p hp]; simp [h]
theorem Now.zero (n0 : 0 ≤ n) : Now n (List.replicate n.toNat false) 0 := ⟨by rw [List.length_replicate]; omega, fun p hp => by
  rw [Nat.zero_testBit, List.getD_eq_getElem?_getD, List.getElem?_replicate]; split <;> rfl⟩
theorem reach_l3 (AF : AFit A n S T G) (hS : S.length ≤ 140737488351232) (w : List Int) (r : Bool) : ∀ m i (acc : Nat) now, S.length - i = m → i ≤ S.length → Now n now acc → (∀ now', Now n now' (bo (S.drop i) acc) → Ev (fun k => evermoreref3_Reach.l7 k w 0 A n S T G now') r) → Ev (fun k => evermoreref3_Reach.l3 k w (i : Int) A n S T G now) r := by
  intro m
  induction m with
  | zero =>
    intro i acc now hm hi H E
    rw [List.drop_eq_nil_of_le (by omega)] at E
    refine Ev.step (fun k => ?_) (E now H)
    rw [evermoreref3_Reach.l3, if_neg (by omega)]
  | succ m ih =>
    intro i acc now hm hi H E
    have hx := AF.s _ (getD_memI S i (by omega))
    have hr : rd (Int.ofNat 0) S (i : Int) = S.getD i 0 := rd_nat _ _ _
    have hl := H.len
    rw [drop_getD 0 S i (by omega)] at E
    refine Ev.step (fun k => ?_) (ih (i + 1) (acc ||| 2 ^ (S.getD i 0).toNat) (now.set (S.getD i 0).toNat true) (by omega) (by omega) (H.put (by omega)) E)
    rw [evermoreref3_Reach.l3, if_pos (by omega), if_pos (by omega), if_pos (by omega), hr, if_pos hx.1, if_pos (by omega), wrS i (by omega)]
theorem reach_l11 (AF : AFit A n S T G) (w : List Int) (hwl : w.length ≤ 60) (i : Nat) (hi : i < w.length) (a : Nat) (hwa : w.getD i 0 = (a : Int)) (s : Nat) (now : List Bool) (H : Now n now s) (r : Bool) : ∀ m j (acc : Nat) next, T.length - j = m → j ≤ T.length → Now n next acc →
    (∀ next', Now n next' (stF s a (T.drop j) acc) → Ev (fun k => evermoreref3_Reach.l7 k w ((i + 1 : Nat) : Int) A n S T G next') r) → Ev (fun k => evermoreref3_Reach.l11 k w (i : Int) (j : Int) A n S T G now next) r := by
  have htl := AF.tl
  have hln := H.len
  have hwr : rd (Int.ofNat 0) w (i : Int) = (a : Int) := by rw [rd_nat]; exact hwa
  intro m
  induction m with
  | zero =>
    intro j acc next hm hj H2 E
    rw [List.drop_eq_nil_of_le (by omega)] at E
    refine Ev.step (fun k => ?_) (E next H2)
    rw [evermoreref3_Reach.l11, if_neg (by omega), wrS i (by omega)]
  | succ m ih =>
    intro j acc next hm hj H2 E
    have hx := AF.t _ (getD_memP T j (by omega))
    obtain ⟨x, hxe⟩ : ∃ x, x = T.getD j S0 := ⟨_, rfl⟩
    have hr : rd (Int.ofNat 0, Int.ofNat 0, Int.ofNat 0, ()) T (j : Int) = x := by rw [rd_nat, hxe]
    rw [← hxe] at hx
    have hl2 := H2.len
    rw [drop_getD S0 T j (by omega), ← hxe, stF] at E
    have j12 : ∀ (nx : List Bool) k, evermoreref3_Reach.j12 (k + 1) w (i : Int) (j : Int) A n S T G now nx = evermoreref3_Reach.l11 k w (i : Int) ((j + 1 : Nat) : Int) A n S T G now nx := by
      intro nx k; rw [evermoreref3_Reach.j12, wrSucc j (by omega)]
    by_cases h1 : x.2.1 = (a : Int)
    · have hb := H.bit x.1.toNat (by omega)
      by_cases h2 : s.testBit x.1.toNat = true
      · rw [if_pos (show goes s a x from And.intro h1 h2)] at E
        refine Ev.step (h := fun k => evermoreref3_Reach.j12 k w (i : Int) (j : Int) A n S T G now (next.set x.2.2.1.toNat true)) (fun k => ?_) (Ev.step (j12 _) (ih (j + 1) _ _ (by omega) (by omega) (H2.put (by omega)) E))
        rw [evermoreref3_Reach.l11, if_pos (by omega), if_pos (by omega), if_pos (by omega), if_pos (by omega), if_pos (by omega), hr, hwr, if_pos h1, if_pos (by omega), if_pos (by omega), if_pos (hb.trans h2), if_pos (by omega), if_pos (by omega)]
      · rw [if_neg (fun h : goes s a x => h2 h.2)] at E
        refine Ev.step (h := fun k => evermoreref3_Reach.j12 k w (i : Int) (j : Int) A n S T G now next) (fun k => ?_) (Ev.step (j12 _) (ih (j + 1) _ _ (by omega) (by omega) H2 E))
        rw [evermoreref3_Reach.l11, if_pos (by omega), if_pos (by omega), if_pos (by omega), if_pos (by omega), if_pos (by omega), hr, hwr, if_pos h1, if_pos (by omega), if_pos (by omega), if_neg (fun h => h2 (hb.symm.trans h))]
    · rw [if_neg (fun h : goes s a x => h1 h.1)] at E
      refine Ev.step (h := fun k => evermoreref3_Reach.j12 k w (i : Int) (j : Int) A n S T G now next) (fun k => ?_) (Ev.step (j12 _) (ih (j + 1) _ _ (by omega) (by omega) H2 E))
      rw [evermoreref3_Reach.l11, if_pos (by omega), if_pos (by omega), if_pos (by omega), if_pos (by omega), if_pos (by omega), hr, hwr, if_neg h1]
theorem reach_l7 (AF : AFit A n S T G) (h8 : n ≤ 8) (w : List Int) (hw : WordOk A w) (hwl : w.length ≤ 60) (r : Bool) : ∀ m i (b : Nat) now, w.length - i = m → i ≤ w.length → Now n now b →
    (∀ now', Now n now' ((nats (w.drop i)).foldl (nfM T) (b : Int)).toNat → Ev (fun k => evermoreref3_Reach.l18 k 0 A n S T G now') r) → Ev (fun k => evermoreref3_Reach.l7 k w (i : Int) A n S T G now) r := by
  have n1 := AF.n1
  intro m
  induction m with
  | zero =>
    intro i b now hm hi H E
    rw [List.drop_eq_nil_of_le (by omega)] at E
    refine Ev.step (fun k => ?_) (E now H)
    rw [evermoreref3_Reach.l7, if_neg (by omega)]
  | succ m ih =>
    intro i b now hm hi H E
    have hx := hw _ (getD_memI w i (by omega))
    rw [drop_getD 0 w i (by omega)] at E
    refine Ev.step (fun k => ?_) (reach_l11 AF w hwl i (by omega) (w.getD i 0).toNat (by omega) b now H r _ 0 0 (List.replicate n.toNat false) rfl (by omega) (Now.zero (by omega)) (fun next' H' => ih (i + 1) _ next' (by omega) (by omega) H' (fun now' H'' => E now' H'')))
    rw [evermoreref3_Reach.l7, if_pos (by omega), if_pos (by omega), if_pos (by omega), if_pos (by omega)]; rfl
theorem reach_l18 (AF : AFit A n S T G) (hG : G.length ≤ 140737488351232) (b : Nat) (now : List Bool) (H : Now n now b) : ∀ m i, G.length - i = m → i ≤ G.length → Ev (fun k => evermoreref3_Reach.l18 k (i : Int) A n S T G now) ((G.drop i).any fun q => b.testBit q.toNat) := by
  have hl := H.len
  intro m
  induction m with
  | zero =>
    intro i hm hi
    rw [List.drop_eq_nil_of_le (by omega)]
    refine Ev.step (h := fun _ => some false) (fun k => ?_) (Ev.now _)
    rw [evermoreref3_Reach.l18, if_neg (by omega)]
  | succ m ih =>
    intro i hm hi
    have hx := AF.g _ (getD_memI G i (by omega))
    have hr : rd (Int.ofNat 0) G (i : Int) = G.getD i 0 := rd_nat _ _ _
    have hb := H.bit (G.getD i 0).toNat (by omega)
    rw [drop_getD 0 G i (by omega), List.any_cons]
    by_cases h : b.testBit (G.getD i 0).toNat = true
    · rw [h, Bool.true_or]
      refine Ev.step (h := fun _ => some true) (fun k => ?_) (Ev.now _)
      rw [evermoreref3_Reach.l18, if_pos (by omega), if_pos (by omega), if_pos (by omega), hr, if_pos hx.1, if_pos (by omega), if_pos (hb.trans h)]
    · rw [(Bool.not_eq_true _).mp h, Bool.false_or]
      refine Ev.step (fun k => ?_) (ih (i + 1) (by omega) (by omega))
      rw [evermoreref3_Reach.l18, if_pos (by omega), if_pos (by omega), if_pos (by omega), hr, if_pos hx.1, if_pos (by omega), if_neg (fun h' => h (hb.symm.trans h')), wrS i (by omega)]
theorem any_mk (b : Nat) (k : Int) (hk : k.toNat = b) : (G.any fun q => b.testBit q.toNat) = decide (mkM (bo G 0) k = 1) := by
  rw [mkM, hk]
  by_cases h : b &&& bo G 0 = 0
  · rw [if_pos h, decide_eq_false (by decide), List.any_eq_false]
    intro q hq hb
    have : (b &&& bo G 0).testBit q.toNat = true := by rw [Nat.testBit_and, hb, (bo_bit G 0).2 (.inr ⟨q, hq, rfl⟩)]; rfl
    rw [h, Nat.zero_testBit] at this; cases this
  · rw [if_neg h, decide_eq_true rfl, List.any_eq_true]
    obtain ⟨p, hp⟩ := Nat.exists_testBit_of_ne_zero h
    rw [Nat.testBit_and, Bool.and_eq_true] at hp
    rcases (bo_bit G 0).1 hp.2 with h' | ⟨q, hq, e⟩
    · rw [Nat.zero_testBit] at h'; cases h'
    · exact ⟨q, hq, by rw [e]; exact hp.1⟩
theorem reach_ev (AF : AFit A n S T G) (h8 : n ≤ 8) (hS : S.length ≤ 140737488351232) (hG : G.length ≤ 140737488351232) (w : List Int) (hw : WordOk A w) (hwl : w.length ≤ 60) :
    Ev (fun k => evermoreref3_Reach.f k (A, n, S, T, G, ()) w) (decide (mkM (bo G 0) ((nats w).foldl (nfM T) ((bo S 0 : Nat) : Int)) = 1)) := by
  have n1 := AF.n1
  simp only [evermoreref3_Reach.f, if_pos (show (0 : Int) ≤ n by omega), if_pos (show n ≤ n by omega)]
  simp only [if_pos (show n * ((1 : Int) + 1) ≤ 281474976710656 by omega)]
  refine reach_l3 AF hS w _ _ 0 0 _ rfl (by omega) (Now.zero (by omega)) (fun now' H => ?_)
  refine reach_l7 AF h8 w hw hwl _ _ 0 _ now' rfl (by omega) H (fun now'' H' => ?_)
  refine (reach_l18 AF hG _ now'' H' _ 0 rfl (by omega)).cast ?_
  exact any_mk _ _ rfl
end Go.Proofs.YtfkilmmldjajmaaSx.DC
namespace Go.Proofs.YtfkilmmldjajmaaSx.DC
variable {A n : Int} {S : List Int} {T : List SP} {G : List Int}
theorem rm3 (AF : AFit A n S T G) (h8 : n ≤ 8) (hS : S.length ≤ 140737488351232) (r : RR) : ∀ m i (acc : Nat), S.length - i = m → i ≤ S.length → acc < 256 → Ev (fun k => evermoreref3_Made.l8 k ((bo (S.drop i) acc : Nat) : Int) 0 0 A n S T G 0 0 [] []) r → Ev (fun k => evermoreref3_Made.l3 k (acc : Int) (i : Int) A n S T G 0 0 [] []) r := by
  intro m
  induction m with
  | zero =>
    intro i acc hm hi ha E
    rw [List.drop_eq_nil_of_le (by omega)] at E
    refine Ev.step (fun k => ?_) E
    rw [evermoreref3_Made.l3, if_neg (by omega)]; rfl
  | succ m ih =>
    intro i acc hm hi ha E
    have hx := AF.s _ (getD_memI S i (by omega))
    have hr : rd (Int.ofNat 0) S (i : Int) = S.getD i 0 := rd_nat _ _ _
    rw [drop_getD 0 S i (by omega)] at E
    refine Ev.step (fun k => ?_) (ih (i + 1) (acc ||| 2 ^ (S.getD i 0).toNat) (by omega) (by omega) (or8 ha (pow8 (by omega))) E)
    rw [evermoreref3_Made.l3, if_pos (by omega), if_pos (by omega), if_pos (by omega), hr, if_pos hx.1, wrS i (by omega)]
    show evermoreref3_Made.l3 k (gor (acc : Int) (gshl 1 (S.getD i 0).toNat)) _ A n S T G 0 0 [] [] = _
    rw [gor_pow ha (by omega)]
theorem rm8 (AF : AFit A n S T G) (h8 : n ≤ 8) (hG : G.length ≤ 140737488351232) (f : Nat) (r : RR) : ∀ m i (acc : Nat), G.length - i = m → i ≤ G.length → acc < 256 → Ev (fun k => evermoreref3_Made.l13 k (f : Int) ((bo (G.drop i) acc : Nat) : Int) 0 A n S T G 0 0 (List.replicate 256 0) [] []) r → Ev (fun k => evermoreref3_Made.l8 k (f : Int) (acc : Int) (i : Int) A n S T G 0 0 [] []) r := by
  intro m
  induction m with
  | zero =>
    intro i acc hm hi ha E
    rw [List.drop_eq_nil_of_le (by omega)] at E
    refine Ev.step (fun k => ?_) E
    rw [evermoreref3_Made.l8, if_neg (by omega), if_pos (by decide), if_pos (by decide), if_pos (by decide)]; rfl
  | succ m ih =>
    intro i acc hm hi ha E
    have hx := AF.g _ (getD_memI G i (by omega))
    have hr : rd (Int.ofNat 0) G (i : Int) = G.getD i 0 := rd_nat _ _ _
    rw [drop_getD 0 G i (by omega)] at E
    refine Ev.step (fun k => ?_) (ih (i + 1) (acc ||| 2 ^ (G.getD i 0).toNat) (by omega) (by omega) (or8 ha (pow8 (by omega))) E)
    rw [evermoreref3_Made.l8, if_pos (by omega), if_pos (by omega), if_pos (by omega), hr, if_pos hx.1, wrS i (by omega)]
    show evermoreref3_Made.l8 k (f : Int) (gor (acc : Int) (gshl 1 (G.getD i 0).toNat)) _ A n S T G 0 0 [] [] = _
    rw [gor_pow ha (by omega)]
theorem rm13 (f g : Nat) (hf : f < 256) (r : RR) (E : Ev (fun k => evermoreref3_Made.l20 k (g : Int) 0 A n S T G 0 0 (numM [(f : Int)]) [(f : Int)] A 0 [] [] [] []) r) : ∀ m i : Nat, 256 - i = m → i ≤ 256 →
    Ev (fun k => evermoreref3_Made.l13 k (f : Int) (g : Int) (i : Int) A n S T G 0 0 (List.replicate i (-1) ++ List.replicate (256 - i) 0) [] []) r := by
  intro m
  induction m with
  | zero =>
    intro i hm hi
    have : i = 256 := by omega
    subst this
    have hset : (List.replicate 256 (-1 : Int)).set f 0 = numM [(f : Int)] := by
      have := numM_set (L := []) (v := f) hf (by simp)
      rw [numM_nil] at this; exact this
    refine Ev.step (fun k => ?_) E
    have hl : (List.replicate 256 (-1 : Int) ++ List.replicate (256 - 256) 0) = List.replicate 256 (-1 : Int) := by rw [Nat.sub_self, List.replicate_zero, List.append_nil]
    rw [hl, evermoreref3_Made.l13, if_neg (by rw [List.length_replicate]; omega), if_pos (by omega), if_pos (by rw [List.length_replicate]; omega), Int.toNat_natCast]
    rw [← hset]; rfl
  | succ m ih =>
    intro i hm hi
    have hlen : (List.replicate i (-1 : Int) ++ List.replicate (256 - i) 0).length = 256 := by rw [List.length_append, List.length_replicate, List.length_replicate]; omega
    have hset : (List.replicate i (-1 : Int) ++ List.replicate (256 - i) 0).set i (-1) = List.replicate (i + 1) (-1 : Int) ++ List.replicate (256 - (i + 1)) 0 := by
      rw [List.set_append_right _ _ (by rw [List.length_replicate]; omega), List.length_replicate, Nat.sub_self, show 256 - i = (256 - (i + 1)) + 1 by omega, List.replicate_succ, List.set_cons_zero, List.replicate_succ' (n := i), List.append_assoc]; rfl
    refine Ev.step (fun k => ?_) (ih (i + 1) (by omega) (by omega))
    rw [evermoreref3_Made.l13, if_pos (by omega), if_pos (by omega), if_pos (by omega), wrSucc i (by omega), Int.toNat_natCast, ← hset]
/-- Both make the same least automaton, which accepts what the sets tell. -/
theorem made_ev (AF : AFit A n S T G) (h8 : n ≤ 8) (hS : S.length ≤ 140737488351232) (hG : G.length ≤ 140737488351232) (hc : chk7 A n S T G = 0) :
    ∃ X Y, Fit A 0 X Y ∧ Ev (fun k => det_Made.f k (A, n, S, T, G, ())) (A, 0, 0, X, Y) ∧ Ev (fun k => evermoreref3_Made.f k (A, n, S, T, G, ())) (A, 0, X, Y) ∧
      ∀ w : List Nat, (∀ a ∈ w, (a : Int) < A) → Y.getD (aft X 0 w) 0 = mkM (bo G 0) (w.foldl (nfM T) ((bo S 0 : Nat) : Int)) := by
  have a1 := AF.a1; have a4 := AF.a4
  have hs := bo_lt h8 S 0 AF.s (by omega)
  have hg := bo_lt h8 G 0 AF.g (by omega)
  obtain ⟨L, X0, Y0, K, hl, H, f1, f2⟩ := sys_run (hV := fun k a _ _ => v_step AF h8 k a) (hB := v256_bound) (sysP AF h8 (bo G 0) hg) (sysR AF h8 (bo G 0) hg) ((bo S 0 : Nat) : Int) ⟨by omega, by omega⟩
  have hle := K.le
  have F0 := fit_rows H a1 a4 (by rw [hl]; rfl) (by simp) (by omega) K.v (fun k _ => mkM_ok _ k)
  obtain ⟨X, Y, fX, e1, e2, sm, _⟩ := small_same F0 F0 (Same.refl _)
  refine ⟨X, Y, fX, ?_, ?_, fun w hw => ?_⟩
  · simp only [det_Made.f]
    refine Ev.bind (check_ev A n S T G hS hG).1 ?_
    simp only [if_pos hc, if_neg (show ¬ 8 < n by omega)]
    refine Ev.bind (bits_ev h8 G hG AF.g) (Ev.bind (bits_ev h8 S hS AF.s) (Ev.bind (x := (A, 0, true, A, n, S, T, G, ((bo G 0 : Nat) : Int), X0, Y0)) ?_ (Ev.bind e1 (Ev.now _))))
    exact f1 _ (Ev.now _)
  · simp only [evermoreref3_Made.f]
    refine rm3 AF h8 hS _ _ 0 0 rfl (by omega) (by omega) ?_
    refine rm8 AF h8 hG _ _ _ 0 0 rfl (by omega) (by omega) ?_
    have := rm13 (A := A) (n := n) (S := S) (T := T) (G := G) (bo S 0) (bo G 0) hs (A, 0, X, Y) (f2 _ (Ev.bind e2 (Ev.now _))) 256 0 rfl (by omega)
    exact this
  · exact (sm w hw).trans (rows_walk H (by rw [hl]; rfl) w 0 (by simp) hw)
end Go.Proofs.YtfkilmmldjajmaaSx.DC
namespace Go.Proofs.YtfkilmmldjajmaaSx.DC
theorem DetMade : evermorelaw_DetMade.PureH := by
  intro x0 w ok0 ok1
  obtain ⟨A, n, S, T, G, u⟩ := x0
  have hS1 : S.length ≤ 140737488351232 := ok0.2.2.1.1
  have hS8 : S.length * 8 ≤ 140737488351232 := ok0.2.2.1.2.1
  have hT8 : T.length * 24 ≤ 140737488351232 := ok0.2.2.2.1.2.1
  have hG1 : G.length ≤ 140737488351232 := ok0.2.2.2.2.1.1
  have hG8 : G.length * 8 ≤ 140737488351232 := ok0.2.2.2.2.1.2.1
  refine Ev.get ?_
  obtain ⟨c1, c2⟩ := check_ev A n S T G hS1 hG1
  have sa := same_auto A n S T G hS8 hG8 hT8
  simp only [evermorelaw_DetMade.f]
  refine Ev.bind (Ev.all (auto_ev A n S T G hS8 hG8 hT8)) ?_
  by_cases hc : chk7 A n S T G = 0
  · obtain ⟨AF, _⟩ := chk7_fit A n S T G hc
    by_cases h8 : 8 < n
    · have hm : Ev (fun k => det_Made.f k (A, n, S, T, G, ())) (0, 0, 1, [], []) := by
        simp only [det_Made.f]
        refine Ev.bind c1 ?_
        simp only [if_pos hc, if_pos h8]
        exact Ev.now _
      refine Ev.bind hm (Ev.bind sa (Ev.bind (Ev.all none_0) (Ev.bind c2 ?_)))
      simp only [if_pos hc, if_pos h8]
      refine Ev.step (h := fun _ => some true) (fun k => ?_) (Ev.now _)
      rw [evermorelaw_DetMade.j8, if_pos rfl, if_neg (by decide), if_pos rfl]
    · obtain ⟨X, Y, fX, e1, e2, e3⟩ := made_ev AF (by omega) hS1 hG1 hc
      obtain ⟨b, hb⟩ := none_ev A 0 X Y
      refine Ev.bind e1 (Ev.bind sa (Ev.bind (Ev.all hb) (Ev.bind c2 ?_)))
      simp only [if_pos hc, if_neg h8]
      refine Ev.step (fun k => by rw [evermorelaw_DetMade.j8, if_pos rfl, if_pos hc]) ?_
      refine Ev.bind e2 (Ev.bind (same_fit fX) ?_)
      simp only [if_true]
      obtain ⟨e, m1, m2⟩ := may_ref A w
      refine Ev.bind m1 ?_
      by_cases he : e = 0
      · obtain ⟨hw, hl⟩ := m2 he
        simp only [if_pos he]
        have hX1 : 0 < X.length := fX.n1
        have hacc : Ev (fun k => evermoreref3_Accepts.f k (A, 0, X, Y, ()) w) (decide (mkM (bo G 0) ((nats w).foldl (nfM T) ((bo S 0 : Nat) : Int)) = 1)) := by
          have ra := ref_after fX w hw (by omega) 0 hX1
          have hlt := (afterN_aft fX w 0 hw hX1).2
          have hY := fX.m
          simp only [evermoreref3_Accepts.f]
          refine Ev.bind ra ?_
          simp only [if_pos (show (0 : Int) ≤ ((aft X 0 (nats w) : Nat) : Int) by omega), if_pos (show ((aft X 0 (nats w) : Nat) : Int) < (Y.length : Int) by omega), rd_nat]
          refine (Ev.now _).cast ?_
          have := e3 (nats w) (nats_ok hw)
          have : Y.getD (aft X 0 (nats w)) (Int.ofNat 0) = mkM (bo G 0) ((nats w).foldl (nfM T) ((bo S 0 : Nat) : Int)) := this
          rw [this]
        refine Ev.bind hacc (Ev.bind (reach_ev AF (by omega) hS1 hG1 w hw hl) ?_)
        simp only [beq_self_eq_true]
        exact Ev.now _
      · simp only [if_neg he]; exact Ev.now _
  · have hm : Ev (fun k => det_Made.f k (A, n, S, T, G, ())) (0, 0, chk7 A n S T G, [], []) := by
      simp only [det_Made.f]
      refine Ev.bind c1 ?_
      simp only [if_neg hc]
      exact Ev.now _
    refine Ev.bind hm (Ev.bind sa (Ev.bind (Ev.all none_0) (Ev.bind c2 ?_)))
    simp only [if_neg hc]
    refine Ev.step (h := fun _ => some true) (fun k => ?_) (Ev.now _)
    rw [evermorelaw_DetMade.j8, if_pos rfl, if_neg hc, if_pos rfl]
end Go.Proofs.YtfkilmmldjajmaaSx.DC
namespace Go.Proofs.Ytfkilmmldjajmaa
theorem Pure.DetMade : Go.Proofs.YtfkilmmldjajmaaSx.evermorelaw_DetMade.PureH := Go.Proofs.YtfkilmmldjajmaaSx.DC.DetMade
end Go.Proofs.Ytfkilmmldjajmaa
