/- The reduced row echelon form: two lists of rows in this form with one span are the same; no program in sight. -/
import Derived.Test.YtjfabhkgmelmgaaP3
import Derived.Test.YtjfabhkgmelmgaaP7
namespace Go.Proofs.Ytjfabhkgmelmgaa
set_option linter.unusedSimpArgs false
set_option linter.unusedVariables false

def vat (r : List Int) (i : Nat) : Int := r.getD i 0
/-- The combination of rows with these factors, at place i. -/
def comb : List (List Int) → (Nat → Int) → Nat → Int
  | [], _, _ => 0
  | r :: R, c, i => c 0 * vat r i + comb R (fun k => c (k + 1)) i
/-- v is a combination of the rows, modulo p. -/
def Sp (p : Int) (R : List (List Int)) (v : Nat → Int) : Prop := ∃ c : Nat → Int, ∀ i, Cg p (v i) (comb R c i)
theorem comb_zero : ∀ (R : List (List Int)) (i : Nat), comb R (fun _ => 0) i = 0
  | [], _ => rfl
  | r :: R, i => by simp only [comb, Int.zero_mul, comb_zero R i]; rfl
theorem comb_add : ∀ (R : List (List Int)) (c d : Nat → Int) (i : Nat), comb R (fun k => c k + d k) i = comb R c i + comb R d i
  | [], _, _, _ => rfl
  | r :: R, c, d, i => by
    simp only [comb]
    rw [comb_add R (fun k => c (k + 1)) (fun k => d (k + 1)) i, Int.add_mul]; omega
theorem comb_mul : ∀ (R : List (List Int)) (c : Nat → Int) (x : Int) (i : Nat), comb R (fun k => x * c k) i = x * comb R c i
  | [], _, x, _ => by simp [comb]
  | r :: R, c, x, i => by
    simp only [comb]
    rw [comb_mul R (fun k => c (k + 1)) x i, Int.mul_add, Int.mul_assoc]
theorem Sp.zero (p : Int) (R : List (List Int)) : Sp p R (fun _ => 0) := ⟨fun _ => 0, fun i => Cg.of_eq (comb_zero R i).symm⟩
theorem Sp.add {p : Int} {R : List (List Int)} {u v : Nat → Int} (hu : Sp p R u) (hv : Sp p R v) : Sp p R (fun i => u i + v i) := by
  obtain ⟨c, hc⟩ := hu; obtain ⟨d, hd⟩ := hv
  exact ⟨fun k => c k + d k, fun i => ((hc i).add (hd i)).trans (Cg.of_eq (comb_add R c d i).symm)⟩
theorem Sp.smul {p : Int} {R : List (List Int)} {u : Nat → Int} (x : Int) (hu : Sp p R u) : Sp p R (fun i => x * u i) := by
  obtain ⟨c, hc⟩ := hu
  exact ⟨fun k => x * c k, fun i => ((hc i).mulL x).trans (Cg.of_eq (comb_mul R c x i).symm)⟩
theorem Sp.cg {p : Int} {R : List (List Int)} {u v : Nat → Int} (hu : Sp p R u) (h : ∀ i, Cg p (v i) (u i)) : Sp p R v := by
  obtain ⟨c, hc⟩ := hu
  exact ⟨c, fun i => (h i).trans (hc i)⟩
theorem Sp.tail {p : Int} {r : List Int} {R : List (List Int)} {u : Nat → Int} (hu : Sp p R u) : Sp p (r :: R) u := by
  obtain ⟨c, hc⟩ := hu
  refine ⟨fun k => match k with | 0 => 0 | k + 1 => c k, fun i => (hc i).trans (Cg.of_eq ?_)⟩
  show comb R c i = 0 * vat r i + comb R c i
  omega
theorem Sp.head (p : Int) (r : List Int) (R : List (List Int)) : Sp p (r :: R) (vat r) := by
  refine ⟨fun k => match k with | 0 => 1 | _ + 1 => 0, fun i => Cg.of_eq ?_⟩
  simp only [comb, comb_zero]; omega
theorem Sp.mem {p : Int} : ∀ {R : List (List Int)} {r : List Int}, r ∈ R → Sp p R (vat r)
  | s :: R, r, h => by
    rcases List.mem_cons.1 h with rfl | h
    · exact Sp.head p _ R
    · exact (Sp.mem h).tail
theorem Sp.comb {p : Int} {R' : List (List Int)} : ∀ (R : List (List Int)) (c : Nat → Int), (∀ r ∈ R, Sp p R' (vat r)) → Sp p R' (comb R c)
  | [], c, _ => (Sp.zero p R').cg (fun i => Cg.refl p _)
  | r :: R, c, h => (((h r (by simp)).smul (c 0)).add (Sp.comb R (fun k => c (k + 1)) (fun s hs => h s (by simp [hs])))).cg (fun i => Cg.refl p _)
/-- Rows of one span lie in another one: so does the span. -/
theorem Sp.le {p : Int} {R R' : List (List Int)} (h : ∀ r ∈ R, Sp p R' (vat r)) {v : Nat → Int} (hv : Sp p R v) : Sp p R' v := by
  obtain ⟨c, hc⟩ := hv
  exact (Sp.comb R c h).cg hc
/-- At a place where one row alone is not 0. -/
theorem comb_at : ∀ {R : List (List Int)} {k j : Nat} {r : List Int} (c : Nat → Int), R[k]? = some r → (∀ l s, R[l]? = some s → l ≠ k → vat s j = 0) → Go.Proofs.Ytjfabhkgmelmgaa.comb R c j = c k * vat r j
  | s :: R, 0, j, r, c, hk, h => by
    simp at hk; subst hk
    simp only [Go.Proofs.Ytjfabhkgmelmgaa.comb]
    have : Go.Proofs.Ytjfabhkgmelmgaa.comb R (fun k => c (k + 1)) j = 0 := by
      have hz : ∀ (R : List (List Int)) (c : Nat → Int), (∀ (l : Nat) (s : List Int), R[l]? = some s → vat s j = 0) → Go.Proofs.Ytjfabhkgmelmgaa.comb R c j = 0 := by
        intro R
        induction R with
        | nil => intro c _; rfl
        | cons s R ih =>
          intro c h
          simp only [Go.Proofs.Ytjfabhkgmelmgaa.comb]
          rw [h 0 s rfl, ih _ (fun l s hs => h (l + 1) s (by simpa using hs))]; omega
      exact hz R _ (fun l s hs => h (l + 1) s (by simpa using hs) (by omega))
    omega
  | s :: R, k + 1, j, r, c, hk, h => by
    simp only [Go.Proofs.Ytjfabhkgmelmgaa.comb]
    rw [h 0 s rfl (by omega), comb_at (fun k => c (k + 1)) (by simpa using hk) (fun l s hs hl => h (l + 1) s (by simpa using hs) (by omega))]; omega
/-- Rows in the reduced form, with their leading places. -/
structure Rref (p : Int) (n : Nat) (R : List (List Int)) (P : List Nat) : Prop where
  len : P.length = R.length
  rows : ∀ r ∈ R, r.length = n ∧ ∀ x ∈ r, 0 ≤ x ∧ x < p
  lt : ∀ (k j : Nat), P[k]? = some j → j < n
  one : ∀ (k j : Nat) (r : List Int), P[k]? = some j → R[k]? = some r → vat r j = 1
  before : ∀ (k j : Nat) (r : List Int) (i : Nat), P[k]? = some j → R[k]? = some r → i < j → vat r i = 0
  other : ∀ (k j l : Nat) (s : List Int), P[k]? = some j → R[l]? = some s → l ≠ k → vat s j = 0
  incr : P.Pairwise (· < ·)
theorem one_lt {p : Int} (hp : isP p = true) : ¬ p ∣ 1 := by
  have := isP_lo hp
  intro h
  have := Int.le_of_dvd (by omega) h
  omega
theorem vat_out {r : List Int} {i : Nat} (h : r.length ≤ i) : vat r i = 0 := by
  unfold vat; rw [List.getD_eq_getElem?_getD, List.getElem?_eq_none h]; rfl
/-- The factor of a row is the value at its leading place. -/
theorem Rref.coef {p : Int} {n : Nat} {R : List (List Int)} {P : List Nat} (h : Rref p n R P) (c : Nat → Int) {k j : Nat} (hk : P[k]? = some j) : comb R c j = c k := by
  have hl : k < R.length := by rw [← h.len]; exact (List.getElem?_eq_some_iff.1 hk).1
  have hr := List.getElem?_eq_getElem hl
  rw [comb_at c hr (fun l s hs hne => h.other k j l s hk hs hne), h.one k j _ hk hr]
  omega
theorem comb_none : ∀ {R : List (List Int)} {c : Nat → Int} {i : Nat} {p : Int}, (∀ (k : Nat) (r : List Int), R[k]? = some r → Cg p (c k * vat r i) 0) → Cg p (comb R c i) 0
  | [], _, _, p, _ => Cg.refl p 0
  | r :: R, c, i, p, h => by
    have h0 := h 0 r rfl
    have h1 := comb_none (R := R) (c := fun k => c (k + 1)) (i := i) (p := p) (fun k r hk => h (k + 1) r (by simpa using hk))
    exact (h0.add h1).trans (Cg.of_eq (by omega))
/-- A member of the span that is 0 at all leading places is 0. -/
theorem Rref.zero {p : Int} {n : Nat} {R : List (List Int)} {P : List Nat} (h : Rref p n R P) {v : Nat → Int} (hv : Sp p R v) (h0 : ∀ (k j : Nat), P[k]? = some j → Cg p (v j) 0) (i : Nat) : Cg p (v i) 0 := by
  obtain ⟨c, hc⟩ := hv
  refine (hc i).trans (comb_none fun k r hk => ?_)
  have hl : k < P.length := by rw [h.len]; exact (List.getElem?_eq_some_iff.1 hk).1
  have hP := List.getElem?_eq_getElem hl
  have h1 := h0 k _ hP
  have h2 := (hc (P[k]'hl)).symm
  rw [h.coef c hP] at h2
  exact ((h2.trans h1).mulR _).trans (Cg.of_eq (by omega))
/-- A leading place of the one is one of the other. -/
theorem Rref.lead {p : Int} (hp : isP p = true) {n : Nat} {R R' : List (List Int)} {P P' : List Nat} (h : Rref p n R P) (h' : Rref p n R' P') (hs : ∀ r ∈ R, Sp p R' (vat r)) {j : Nat} (hj : j ∈ P) : j ∈ P' := by
  obtain ⟨k, hk⟩ := List.getElem?_of_mem hj
  have hl : k < R.length := by rw [← h.len]; exact (List.getElem?_eq_some_iff.1 hk).1
  have hr := List.getElem?_eq_getElem hl
  obtain ⟨c, hc⟩ := hs _ (List.getElem_mem hl)
  by_cases hmem : j ∈ P'
  · exact hmem
  exfalso
  have hone := h.one k j _ hk hr
  have hz : Cg p (comb R' c j) 0 := comb_none fun l s hls => by
    have hl' : l < P'.length := by rw [h'.len]; exact (List.getElem?_eq_some_iff.1 hls).1
    have hP := List.getElem?_eq_getElem hl'
    generalize hq : P'[l]'hl' = q at *
    have hqj : q ≠ j := fun e => hmem (by rw [← e, ← hq]; exact List.getElem_mem hl')
    by_cases hlt : q < j
    · have h1 := (hc q).symm
      rw [h'.coef c hP, h.before k j _ q hk hr hlt] at h1
      exact (h1.mulR _).trans (Cg.of_eq (by omega))
    · rw [h'.before l q s j hP hls (by omega)]
      exact Cg.of_eq (by omega)
  have h1 := (hc j).trans hz
  rw [hone] at h1
  exact one_lt hp (Cg.zero.1 h1)
theorem sorted_eq : ∀ {P Q : List Nat}, P.Pairwise (· < ·) → Q.Pairwise (· < ·) → (∀ x, x ∈ P ↔ x ∈ Q) → P = Q
  | [], [], _, _, _ => rfl
  | [], q :: Q, _, _, h => absurd ((h q).2 (by simp)) (by simp)
  | a :: P, [], _, _, h => absurd ((h a).1 (by simp)) (by simp)
  | a :: P, q :: Q, hP, hQ, h => by
    rw [List.pairwise_cons] at hP hQ
    have haq : a = q := by
      have h1 := (h a).1 (by simp); have h2 := (h q).2 (by simp)
      rcases List.mem_cons.1 h1 with e | h1
      · exact e
      · rcases List.mem_cons.1 h2 with e | h2
        · exact e.symm
        · have := hQ.1 a h1; have := hP.1 q h2; omega
    subst haq
    rw [sorted_eq hP.2 hQ.2 (fun x => ?_)]
    have hx := h x
    simp only [List.mem_cons] at hx
    constructor
    · intro hm
      rcases hx.1 (.inr hm) with e | hm'
      · have := hP.1 x hm; omega
      · exact hm'
    · intro hm
      rcases hx.2 (.inr hm) with e | hm'
      · have := hQ.1 x hm; omega
      · exact hm'
/-- The reduced form of a span is one. -/
theorem Rref.uniq {p : Int} (hp : isP p = true) {n : Nat} {R R' : List (List Int)} {P P' : List Nat} (h : Rref p n R P) (h' : Rref p n R' P') (hs : ∀ r ∈ R, Sp p R' (vat r)) (hs' : ∀ r ∈ R', Sp p R (vat r)) : R = R' := by
  have hPP : P = P' := sorted_eq h.incr h'.incr (fun x => ⟨h.lead hp h' hs, h'.lead hp h hs'⟩)
  subst hPP
  have hlen : R.length = R'.length := by rw [← h.len, h'.len]
  apply List.ext_getElem hlen
  intro k hk hk'
  have hr := List.getElem?_eq_getElem hk
  have hr' := List.getElem?_eq_getElem hk'
  have hP := List.getElem?_eq_getElem (show k < P.length by rw [h.len]; exact hk)
  have hd : Sp p R (fun i => vat (R[k]'hk) i + (-1) * vat (R'[k]'hk') i) := (Sp.mem (List.getElem_mem hk)).add ((hs' _ (List.getElem_mem hk')).smul (-1))
  have hz := h.zero hd (fun l j hl => by
    by_cases hlk : l = k
    · subst hlk
      rw [h.one l j _ hl hr, h'.one l j _ hl hr']
      exact Cg.of_eq (by omega)
    · rw [h.other l j k _ hl hr (Ne.symm hlk), h'.other l j k _ hl hr' (Ne.symm hlk)]
      exact Cg.of_eq (by omega))
  obtain ⟨hn, hx⟩ := h.rows _ (List.getElem_mem hk)
  obtain ⟨hn', hx'⟩ := h'.rows _ (List.getElem_mem hk')
  apply List.ext_getElem (by rw [hn, hn'])
  intro i hi hi'
  have h1 := hz i
  have e1 : vat (R[k]'hk) i = (R[k]'hk)[i]'hi := by unfold vat; rw [List.getD_eq_getElem?_getD, List.getElem?_eq_getElem hi]; rfl
  have e2 : vat (R'[k]'hk') i = (R'[k]'hk')[i]'hi' := by unfold vat; rw [List.getD_eq_getElem?_getD, List.getElem?_eq_getElem hi']; rfl
  rw [e1, e2] at h1
  have b1 := hx _ (List.getElem_mem hi)
  have b2 := hx' _ (List.getElem_mem hi')
  have h2 : Cg p ((R[k]'hk)[i]'hi) ((R'[k]'hk')[i]'hi') := by
    have := h1.add (Cg.refl p ((R'[k]'hk')[i]'hi'))
    exact (Cg.of_eq (by omega)).trans (this.trans (Cg.of_eq (by omega)))
  have h3 := h2.em
  rwa [Int.emod_eq_of_lt b1.1 b1.2, Int.emod_eq_of_lt b2.1 b2.2] at h3
/-- The place of the first number other than 0. -/
def ldr : List Int → Option Nat
  | [] => none
  | x :: xs => if x = 0 then (ldr xs).map (· + 1) else some 0
/-- A row less k times another one. -/
def less (p : Int) (a b : List Int) (k : Int) : List Int := (List.range a.length).map fun i => (vat a i - k * vat b i) % p
theorem less_len (p : Int) (a b : List Int) (k : Int) : (less p a b k).length = a.length := by unfold less; simp
theorem less_vat {p : Int} {a b : List Int} {k : Int} {n : Nat} (ha : a.length = n) (hb : b.length = n) (i : Nat) : Cg p (vat (less p a b k) i) (vat a i - k * vat b i) := by
  by_cases hi : i < n
  · unfold less
    have : vat ((List.range a.length).map fun i => (vat a i - k * vat b i) % p) i = (vat a i - k * vat b i) % p := by
      show List.getD _ _ _ = _
      rw [List.getD_eq_getElem?_getD, List.getElem?_map, List.getElem?_range (by omega)]; rfl
    rw [this]
    exact Cg.mod p _
  · rw [vat_out (by rw [less_len]; omega), vat_out (r := a) (by omega), vat_out (r := b) (by omega)]
    exact Cg.of_eq (by omega)
theorem less_rng {p : Int} (hp : isP p = true) (a b : List Int) (k : Int) : ∀ x ∈ less p a b k, 0 ≤ x ∧ x < p := by
  have := isP_lo hp
  intro x hx
  unfold less at hx
  rw [List.mem_map] at hx
  obtain ⟨i, _, rfl⟩ := hx
  exact ⟨Int.emod_nonneg _ (by omega), Int.emod_lt_of_pos _ (by omega)⟩
theorem ldr_some : ∀ {r : List Int} {j : Nat}, ldr r = some j → j < r.length ∧ vat r j ≠ 0 ∧ ∀ i, i < j → vat r i = 0
  | x :: xs, j, h => by
    unfold ldr at h
    by_cases hx : x = 0
    · rw [if_pos hx, Option.map_eq_some_iff] at h
      obtain ⟨k, hk, rfl⟩ := h
      obtain ⟨h1, h2, h3⟩ := ldr_some hk
      refine ⟨by simp; omega, by simpa [vat] using h2, fun i hi => ?_⟩
      cases i with
      | zero => simpa [vat] using hx
      | succ i => have := h3 i (by omega); simpa [vat] using this
    · rw [if_neg hx] at h
      injection h with h
      subst h
      exact ⟨by simp, by simpa [vat] using hx, fun i hi => by omega⟩
theorem ldr_none : ∀ {r : List Int}, ldr r = none → ∀ i, vat r i = 0
  | [], _, i => by simp [vat]
  | x :: xs, h, i => by
    unfold ldr at h
    by_cases hx : x = 0
    · rw [if_pos hx] at h
      have h' : ldr xs = none := by cases hl : ldr xs with | none => rfl | some k => rw [hl] at h; cases h
      cases i with
      | zero => simpa [vat] using hx
      | succ i => have := ldr_none h' i; simpa [vat] using this
    · rw [if_neg hx] at h; cases h
theorem ldr_eq {r : List Int} {j : Nat} (h1 : vat r j ≠ 0) (h2 : ∀ i, i < j → vat r i = 0) : ldr r = some j := by
  cases h : ldr r with
  | none => exact absurd (ldr_none h j) h1
  | some k =>
    obtain ⟨a, b, c⟩ := ldr_some h
    rcases Nat.lt_trichotomy j k with hlt | heq | hgt
    · exact absurd (c j hlt) h1
    · rw [heq]
    · exact absurd (h2 k hgt) b
theorem Rref.ldr {p : Int} {n : Nat} {R : List (List Int)} {P : List Nat} (h : Rref p n R P) {k j : Nat} {r : List Int} (hk : P[k]? = some j) (hr : R[k]? = some r) : ldr r = some j :=
  ldr_eq (by rw [h.one k j r hk hr]; decide) (fun i hi => h.before k j r i hk hr hi)
/-- A row less its parts along the others. -/
def subAll (p : Int) (own : List Int) : List (List Int) → List Int
  | [] => own
  | s :: S => subAll p (less p own s (vat own ((ldr s).getD 0))) S
/-- A row is good: n reduced numbers. -/
def okR (p : Int) (n : Nat) (r : List Int) : Prop := r.length = n ∧ ∀ x ∈ r, 0 ≤ x ∧ x < p
theorem okR.less {p : Int} (hp : isP p = true) {n : Nat} {a : List Int} (b : List Int) (k : Int) (h : okR p n a) : okR p n (less p a b k) := ⟨by rw [less_len]; exact h.1, less_rng hp a b k⟩
theorem vat_rng {p : Int} (hp : isP p = true) {n : Nat} {r : List Int} (h : okR p n r) (i : Nat) : 0 ≤ vat r i ∧ vat r i < p := by
  by_cases hi : i < r.length
  · have e : vat r i = r[i]'hi := by unfold vat; rw [List.getD_eq_getElem?_getD, List.getElem?_eq_getElem hi]; rfl
    rw [e]; exact h.2 _ (List.getElem_mem hi)
  · rw [vat_out (by omega)]
    have := isP_lo hp
    omega
theorem vat_zero {p : Int} (hp : isP p = true) {n : Nat} {r : List Int} (h : okR p n r) {i : Nat} (h0 : Cg p (vat r i) 0) : vat r i = 0 := by
  obtain ⟨a, b⟩ := vat_rng hp h i
  have := h0.em
  rwa [Int.emod_eq_of_lt a b, Int.zero_emod] at this
theorem subAll_ok {p : Int} (hp : isP p = true) {n : Nat} : ∀ (S : List (List Int)) {own : List Int}, okR p n own → okR p n (subAll p own S)
  | [], _, h => h
  | s :: S, _, h => subAll_ok hp S (h.less hp s _)
/-- Where all rows that are taken off are 0, nothing changes. -/
theorem subAll_at {p : Int} (hp : isP p = true) {n : Nat} : ∀ (S : List (List Int)) {own : List Int} {j : Nat}, okR p n own → (∀ s ∈ S, s.length = n) → (∀ s ∈ S, vat s j = 0) → Cg p (vat (subAll p own S) j) (vat own j)
  | [], own, j, _, _, _ => Cg.refl p _
  | s :: S, own, j, h, hl, h0 => by
    refine (subAll_at hp S (h.less hp s _) (fun t ht => hl t (by simp [ht])) (fun t ht => h0 t (by simp [ht]))).trans ?_
    refine (less_vat h.1 (hl s (by simp)) j).trans ?_
    rw [h0 s (by simp)]
    exact Cg.of_eq (by omega)
/-- What is left differs by a combination of the rows. -/
theorem subAll_sp {p : Int} (hp : isP p = true) {n : Nat} : ∀ (S : List (List Int)) {own : List Int}, okR p n own → (∀ s ∈ S, s.length = n) → Sp p S (fun i => vat own i - vat (subAll p own S) i)
  | [], own, _, _ => (Sp.zero p []).cg (fun i => Cg.of_eq (by simp only [subAll]; omega))
  | s :: S, own, h, hl => by
    have ih := (subAll_sp hp S (h.less hp s (vat own ((ldr s).getD 0))) (fun t ht => hl t (by simp [ht]))).tail (r := s)
    have h1 := (Sp.head p s S).smul (vat own ((ldr s).getD 0))
    refine (h1.add ih).cg (fun i => ?_)
    have h2 := less_vat (p := p) (k := vat own ((ldr s).getD 0)) h.1 (hl s (by simp)) i
    simp only [subAll]
    refine (Cg.of_eq ?_).trans ((Cg.refl p (vat own ((ldr s).getD 0) * vat s i)).add (h2.symm.sub (Cg.refl p _)))
    omega
/-- Rows of which each has its own leading place. -/
def Led (S : List (List Int)) : Prop := ∀ (k : Nat) (s : List Int), S[k]? = some s → ∃ j, ldr s = some j ∧ vat s j = 1 ∧ ∀ (l : Nat) (t : List Int), S[l]? = some t → l ≠ k → vat t j = 0
theorem Led.tail {s : List Int} {S : List (List Int)} (h : Led (s :: S)) : Led S := fun k t hk => by
  obtain ⟨j, h1, h2, h3⟩ := h (k + 1) t (by simpa using hk)
  exact ⟨j, h1, h2, fun l u hl hne => h3 (l + 1) u (by simpa using hl) (by omega)⟩
theorem Rref.led {p : Int} {n : Nat} {R : List (List Int)} {P : List Nat} (h : Rref p n R P) : Led R := fun k s hk => by
  have hl : k < P.length := by rw [h.len]; exact (List.getElem?_eq_some_iff.1 hk).1
  have hP := List.getElem?_eq_getElem hl
  exact ⟨_, h.ldr hP hk, h.one k _ s hP hk, fun l t ht hne => h.other k _ l t hP ht hne⟩
theorem subAll_zero {p : Int} (hp : isP p = true) {n : Nat} : ∀ (S : List (List Int)) {own : List Int}, okR p n own → (∀ s ∈ S, s.length = n) → Led S → ∀ (k j : Nat) (s : List Int), S[k]? = some s → ldr s = some j → Cg p (vat (subAll p own S) j) 0
  | s :: S, own, h, hl, hS, 0, j, s', hk, hj => by
    simp at hk
    subst hk
    obtain ⟨j', h1, h2, h3⟩ := hS 0 s rfl
    rw [hj] at h1
    injection h1 with h1
    subst h1
    simp only [subAll]
    rw [hj]
    refine (subAll_at hp S (h.less hp s _) (fun t ht => hl t (by simp [ht])) (fun t ht => ?_)).trans ?_
    · obtain ⟨l, hl'⟩ := List.getElem?_of_mem ht
      exact h3 (l + 1) t (by simpa using hl') (by omega)
    · refine (less_vat h.1 (hl s (by simp)) j).trans (Cg.of_eq ?_)
      rw [h2]
      show vat own j - vat own j * 1 = 0
      omega
  | s :: S, own, h, hl, hS, k + 1, j, s', hk, hj => by
    simp only [subAll]
    exact subAll_zero hp S (h.less hp s _) (fun t ht => hl t (by simp [ht])) hS.tail k j s' (by simpa using hk) hj
/-- Rows in the reduced form, each with its leading place. -/
structure RrefZ (p : Int) (n : Nat) (Z : List (Nat × List Int)) : Prop where
  ok : ∀ z ∈ Z, okR p n z.2 ∧ z.1 < n ∧ vat z.2 z.1 = 1 ∧ ∀ i, i < z.1 → vat z.2 i = 0
  other : ∀ z ∈ Z, ∀ y ∈ Z, z.1 ≠ y.1 → vat y.2 z.1 = 0
  incr : Z.Pairwise (fun a b => a.1 < b.1)
theorem RrefZ.ldr {p : Int} {n : Nat} {Z : List (Nat × List Int)} (h : RrefZ p n Z) : ∀ z ∈ Z, ldr z.2 = some z.1 := fun z hz => by
  obtain ⟨_, _, h1, h2⟩ := h.ok z hz
  exact ldr_eq (by rw [h1]; decide) h2
theorem RrefZ.rref {p : Int} {n : Nat} {Z : List (Nat × List Int)} (h : RrefZ p n Z) : Rref p n (Z.map Prod.snd) (Z.map Prod.fst) := by
  have get : ∀ {k : Nat} {j : Nat}, (Z.map Prod.fst)[k]? = some j → ∃ z ∈ Z, Z[k]? = some z ∧ z.1 = j := fun hk => by
    rw [List.getElem?_map, Option.map_eq_some_iff] at hk
    obtain ⟨z, h1, h2⟩ := hk
    exact ⟨z, List.mem_of_getElem? h1, h1, h2⟩
  have get2 : ∀ {k : Nat} {r : List Int}, (Z.map Prod.snd)[k]? = some r → ∃ z ∈ Z, Z[k]? = some z ∧ z.2 = r := fun hk => by
    rw [List.getElem?_map, Option.map_eq_some_iff] at hk
    obtain ⟨z, h1, h2⟩ := hk
    exact ⟨z, List.mem_of_getElem? h1, h1, h2⟩
  refine ⟨by simp, ?_, ?_, ?_, ?_, ?_, ?_⟩
  · intro r hr
    rw [List.mem_map] at hr
    obtain ⟨z, hz, rfl⟩ := hr
    exact (h.ok z hz).1
  · intro k j hk
    obtain ⟨z, hz, _, rfl⟩ := get hk
    exact (h.ok z hz).2.1
  · intro k j r hk hr
    obtain ⟨z, hz, h1, rfl⟩ := get hk
    obtain ⟨y, hy, h2, rfl⟩ := get2 hr
    rw [h1] at h2; injection h2 with h2; subst h2
    exact (h.ok z hz).2.2.1
  · intro k j r i hk hr hi
    obtain ⟨z, hz, h1, rfl⟩ := get hk
    obtain ⟨y, hy, h2, rfl⟩ := get2 hr
    rw [h1] at h2; injection h2 with h2; subst h2
    exact (h.ok z hz).2.2.2 i hi
  · intro k j l s hk hs hne
    obtain ⟨z, hz, h1, rfl⟩ := get hk
    obtain ⟨y, hy, h2, rfl⟩ := get2 hs
    refine h.other z hz y hy ?_
    have hp := List.pairwise_iff_getElem.1 h.incr
    obtain ⟨hk', e1⟩ := List.getElem?_eq_some_iff.1 h1
    obtain ⟨hl', e2⟩ := List.getElem?_eq_some_iff.1 h2
    rcases Nat.lt_or_gt_of_ne hne with hlt | hgt
    · have := hp l k hl' hk' hlt; rw [e1, e2] at this; omega
    · have := hp k l hk' hl' hgt; rw [e1, e2] at this; omega
  · rw [List.pairwise_map]; exact h.incr
def updZ (p : Int) (own : List Int) (q : Nat) (z : Nat × List Int) : Nat × List Int := (z.1, less p z.2 own (vat z.2 q))
def insZ (p : Int) (own : List Int) (q : Nat) : List (Nat × List Int) → List (Nat × List Int)
  | [] => [(q, own)]
  | z :: Z => if q < z.1 then (q, own) :: (z :: Z).map (updZ p own q) else updZ p own q z :: insZ p own q Z
/-- The same on the rows alone, as the reference does it. -/
def insR (p : Int) (own : List Int) (q : Nat) : List (List Int) → List (List Int)
  | [] => [own]
  | s :: S => if q < (ldr s).getD 0 then own :: (s :: S).map (fun r => less p r own (vat r q)) else less p s own (vat s q) :: insR p own q S
theorem insZ_snd {p : Int} {own : List Int} {q : Nat} : ∀ {Z : List (Nat × List Int)}, (∀ z ∈ Z, ldr z.2 = some z.1) → (insZ p own q Z).map Prod.snd = insR p own q (Z.map Prod.snd)
  | [], _ => rfl
  | z :: Z, h => by
    simp only [insZ, List.map_cons, insR]
    rw [h z (by simp)]
    show List.map Prod.snd (if q < z.1 then _ else _) = if q < z.1 then _ else _
    by_cases hq : q < z.1
    · rw [if_pos hq, if_pos hq]
      simp [updZ, Function.comp_def]
    · rw [if_neg hq, if_neg hq]
      have ih := insZ_snd (p := p) (own := own) (q := q) (Z := Z) (fun y hy => h y (List.mem_cons_of_mem _ hy))
      rw [List.map_cons, ih]
      rfl
theorem insZ_mem {p : Int} {own : List Int} {q : Nat} : ∀ {Z : List (Nat × List Int)} {x : Nat × List Int}, x ∈ insZ p own q Z ↔ x = (q, own) ∨ ∃ z ∈ Z, x = updZ p own q z
  | [], x => by simp [insZ]
  | z :: Z, x => by
    simp only [insZ]
    by_cases hq : q < z.1
    · rw [if_pos hq]
      simp only [List.map_cons, List.mem_cons, List.mem_map]
      constructor
      · rintro (h | h | ⟨y, hy, rfl⟩)
        · exact .inl h
        · exact .inr ⟨z, .inl rfl, h⟩
        · exact .inr ⟨y, .inr hy, rfl⟩
      · rintro (h | ⟨y, rfl | hy, rfl⟩)
        · exact .inl h
        · exact .inr (.inl rfl)
        · exact .inr (.inr ⟨y, hy, rfl⟩)
    · rw [if_neg hq]
      simp only [List.mem_cons, insZ_mem]
      constructor
      · rintro (h | h | ⟨y, hy, rfl⟩)
        · exact .inr ⟨z, .inl rfl, h⟩
        · exact .inl h
        · exact .inr ⟨y, .inr hy, rfl⟩
      · rintro (h | ⟨y, rfl | hy, rfl⟩)
        · exact .inr (.inl h)
        · exact .inl rfl
        · exact .inr (.inr ⟨y, hy, rfl⟩)
theorem insZ_incr {p : Int} {own : List Int} {q : Nat} : ∀ {Z : List (Nat × List Int)}, Z.Pairwise (fun a b => a.1 < b.1) → (∀ z ∈ Z, z.1 ≠ q) → (insZ p own q Z).Pairwise (fun a b => a.1 < b.1)
  | [], _, _ => by simp [insZ]
  | z :: Z, h, hq => by
    rw [List.pairwise_cons] at h
    simp only [insZ]
    by_cases hlt : q < z.1
    · rw [if_pos hlt, List.pairwise_cons]
      refine ⟨fun y hy => ?_, ?_⟩
      · rw [List.mem_map] at hy
        obtain ⟨x, hx, rfl⟩ := hy
        show q < x.1
        rcases List.mem_cons.1 hx with rfl | hx
        · exact hlt
        · have := h.1 x hx; omega
      · rw [List.pairwise_map]
        exact List.pairwise_cons.2 ⟨h.1, h.2⟩
    · rw [if_neg hlt, List.pairwise_cons]
      refine ⟨fun y hy => ?_, insZ_incr h.2 (fun x hx => hq x (by simp [hx]))⟩
      have hne := hq z (by simp)
      rcases insZ_mem.1 hy with rfl | ⟨x, hx, rfl⟩
      · show z.1 < q; omega
      · exact h.1 x hx
/-- Putting in a row that is 0 at the other leading places keeps the form. -/
theorem insZ_rref {p : Int} (hp : isP p = true) {n : Nat} {Z : List (Nat × List Int)} (h : RrefZ p n Z) {own : List Int} {q : Nat} (ho : okR p n own) (hq : q < n) (h1 : vat own q = 1) (hb : ∀ i, i < q → vat own i = 0) (hz : ∀ z ∈ Z, vat own z.1 = 0) : RrefZ p n (insZ p own q Z) := by
  have hne : ∀ z ∈ Z, z.1 ≠ q := fun z hm e => by
    have := hz z hm
    rw [e, h1] at this
    cases this
  have upd : ∀ z ∈ Z, ∀ i, Cg p (vat (updZ p own q z).2 i) (vat z.2 i - vat z.2 q * vat own i) := fun z hm i => less_vat (h.ok z hm).1.1 ho.1 i
  have uok : ∀ z ∈ Z, okR p n (updZ p own q z).2 := fun z hm => (h.ok z hm).1.less hp own _
  have uz : ∀ z ∈ Z, ∀ i, vat z.2 i - vat z.2 q * vat own i = 0 → vat (updZ p own q z).2 i = 0 := fun z hm i e => vat_zero hp (uok z hm) ((upd z hm i).trans (Cg.of_eq e))
  refine ⟨fun x hx => ?_, fun x hx y hy hxy => ?_, insZ_incr h.incr hne⟩
  · rcases insZ_mem.1 hx with rfl | ⟨z, hm, rfl⟩
    · exact ⟨ho, hq, h1, hb⟩
    · obtain ⟨o1, o2, o3, o4⟩ := h.ok z hm
      refine ⟨uok z hm, o2, ?_, fun i hi => uz z hm i ?_⟩
      · have e := upd z hm z.1
        rw [o3, hz z hm] at e
        obtain ⟨a, b⟩ := vat_rng hp (uok z hm) z.1
        have k1 := isP_lo hp
        have := e.em
        rw [Int.emod_eq_of_lt a b] at this
        show vat (updZ p own q z).2 z.1 = 1
        rw [this]
        have : (1 - vat z.2 q * 0) = (1 : Int) := by omega
        rw [this]
        exact Int.emod_eq_of_lt (by omega) (by omega)
      · have hi' : i < z.1 := hi
        rw [o4 i hi']
        by_cases hqz : q < z.1
        · rw [o4 q hqz]; omega
        · rw [hb i (by have := hne z hm; omega)]; omega
  · rcases insZ_mem.1 hx with rfl | ⟨z, hm, rfl⟩
    · rcases insZ_mem.1 hy with rfl | ⟨u, hu, rfl⟩
      · exact absurd rfl hxy
      · refine uz u hu q ?_
        rw [h1]; omega
    · rcases insZ_mem.1 hy with rfl | ⟨u, hu, rfl⟩
      · exact hz z hm
      · refine uz u hu z.1 ?_
        rw [h.other z hm u hu hxy, hz z hm]; omega
theorem fac_ldr {p : Int} : ∀ {r : List Int} {q : Nat}, (∀ x ∈ r, 0 ≤ x ∧ x < p) → ldr r = some q → fac p r = inv p (vat r q)
  | x :: xs, q, h, hq => by
    obtain ⟨a, b⟩ := h x (by simp)
    unfold ldr at hq
    simp only [fac]
    rw [Int.emod_eq_of_lt a b]
    by_cases hx : x = 0
    · rw [if_pos hx, Option.map_eq_some_iff] at hq
      obtain ⟨k, hk, rfl⟩ := hq
      rw [if_pos hx, fac_ldr (fun y hy => h y (by simp [hy])) hk]
      simp [vat]
    · rw [if_neg hx] at hq
      injection hq with hq
      subst hq
      rw [if_neg hx]
      simp [vat]
def normR (p : Int) (r : List Int) : List Int := r.map (nr p (fac p r))
theorem normR_vat {p : Int} (hp : isP p = true) (r : List Int) (i : Nat) : Cg p (vat (normR p r) i) (fac p r * vat r i) := by
  by_cases hi : i < r.length
  · have e : vat (normR p r) i = nr p (fac p r) (vat r i) := by
      unfold vat normR
      rw [List.getD_eq_getElem?_getD, List.getD_eq_getElem?_getD, List.getElem?_map, List.getElem?_eq_getElem hi]; rfl
    rw [e]; exact nr_cg p _ _
  · rw [vat_out (by unfold normR; simp; omega), vat_out (r := r) (by omega)]
    exact Cg.of_eq (by omega)
theorem normR_ok {p : Int} (hp : isP p = true) {n : Nat} {r : List Int} (h : r.length = n) : okR p n (normR p r) := by
  refine ⟨by unfold normR; simpa using h, fun x hx => ?_⟩
  unfold normR at hx
  rw [List.mem_map] at hx
  obtain ⟨y, _, rfl⟩ := hx
  have := nr_lo hp (fac p r) y
  have := nr_hi hp (fac p r) y
  omega
theorem nd_of {p x : Int} (h : 0 ≤ x ∧ x < p) (h0 : x ≠ 0) : ¬ p ∣ x := fun hd => by
  have := Int.le_of_dvd (by omega) hd
  omega
/-- A row made normal: 1 at its leading place, 0 where it was 0. -/
theorem normR_facts {p : Int} (hp : isP p = true) {n : Nat} {r : List Int} {q : Nat} (h : okR p n r) (hq : ldr r = some q) :
    vat (normR p r) q = 1 ∧ (∀ i, vat r i = 0 → vat (normR p r) i = 0) ∧ ∀ i, Cg p (vat r i) (vat r q * vat (normR p r) i) := by
  obtain ⟨hl, hne, _⟩ := ldr_some hq
  have hf := fac_ldr h.2 hq
  have hok := normR_ok (r := r) hp h.1
  have hnd := nd_of (vat_rng hp h q) hne
  have hin := Cg.inv hp hnd
  refine ⟨?_, fun i h0 => ?_, fun i => ?_⟩
  · have e := normR_vat hp r q
    rw [hf] at e
    have e2 := (e.trans ((Cg.of_eq (Int.mul_comm _ _)).trans hin)).em
    obtain ⟨a, b⟩ := vat_rng hp hok q
    have := isP_lo hp
    rw [Int.emod_eq_of_lt a b, Int.emod_eq_of_lt (by omega) (by omega)] at e2
    exact e2
  · have e := normR_vat hp r i
    rw [h0] at e
    exact vat_zero hp hok (e.trans (Cg.of_eq (by omega)))
  · have e := (normR_vat hp r i).mulL (vat r q)
    rw [hf] at e
    refine (e.trans ((Cg.of_eq (show vat r q * (inv p (vat r q) * vat r i) = vat r q * inv p (vat r q) * vat r i by rw [Int.mul_assoc])).trans ((hin.mulR (vat r i)).trans (Cg.of_eq (by omega))))).symm
/-- One row more. -/
def echStep (p : Int) (out : List (List Int)) (row : List Int) : List (List Int) :=
  match ldr (subAll p row out) with
  | none => out
  | some q => insR p (normR p (subAll p row out)) q out
def ech (p : Int) (rows : List (List Int)) : List (List Int) := rows.foldl (echStep p) []
theorem echStep_ok {p : Int} (hp : isP p = true) {n : Nat} {Z : List (Nat × List Int)} (h : RrefZ p n Z) {row : List Int} (hr : okR p n row) :
    ∃ Z', RrefZ p n Z' ∧ Z'.map Prod.snd = echStep p (Z.map Prod.snd) row ∧ (∀ r ∈ Z.map Prod.snd, Sp p (Z'.map Prod.snd) (vat r)) ∧ Sp p (Z'.map Prod.snd) (vat row) ∧ ∀ r ∈ Z'.map Prod.snd, Sp p (row :: Z.map Prod.snd) (vat r) := by
  have hR := h.rref
  have hlen : ∀ s ∈ Z.map Prod.snd, s.length = n := fun s hs => (hR.rows s hs).1
  have hok := subAll_ok hp (Z.map Prod.snd) hr
  have hsp := subAll_sp hp (Z.map Prod.snd) hr hlen
  have hz : ∀ z ∈ Z, Cg p (vat (subAll p row (Z.map Prod.snd)) z.1) 0 := fun z hm => by
    obtain ⟨k, hk⟩ := List.getElem?_of_mem hm
    exact subAll_zero hp _ hr hlen hR.led k z.1 z.2 (by rw [List.getElem?_map, hk]; rfl) (h.ldr z hm)
  unfold echStep
  generalize subAll p row (Z.map Prod.snd) = own at *
  cases hq : ldr own with
  | none =>
    refine ⟨Z, h, rfl, fun r hr => Sp.mem hr, hsp.cg (fun i => ?_), fun r hr => (Sp.mem hr).tail⟩
    rw [ldr_none hq i]
    exact Cg.of_eq (by omega)
  | some q =>
    obtain ⟨hql, hqn, hqb⟩ := ldr_some hq
    obtain ⟨f1, f2, f3⟩ := normR_facts hp hok hq
    have f4 := normR_vat hp own
    have hok2 := normR_ok (r := own) hp hok.1
    have hZ' := insZ_rref hp h hok2 (by rw [← hok.1]; exact hql) f1 (fun i hi => f2 i (hqb i hi)) (fun z hm => f2 _ (vat_zero hp hok (hz z hm)))
    generalize normR p own = o2 at *
    have hm0 : o2 ∈ (insZ p o2 q Z).map Prod.snd := List.mem_map.2 ⟨(q, o2), insZ_mem.2 (.inl rfl), rfl⟩
    have hup : ∀ z ∈ Z, ∀ i, Cg p (vat (updZ p o2 q z).2 i) (vat z.2 i - vat z.2 q * vat o2 i) := fun z hm i => less_vat (h.ok z hm).1.1 hok2.1 i
    have hin : ∀ r ∈ Z.map Prod.snd, Sp p ((insZ p o2 q Z).map Prod.snd) (vat r) := fun r hr => by
      rw [List.mem_map] at hr
      obtain ⟨z, hm, rfl⟩ := hr
      have hmu : (updZ p o2 q z).2 ∈ (insZ p o2 q Z).map Prod.snd := List.mem_map.2 ⟨_, insZ_mem.2 (.inr ⟨z, hm, rfl⟩), rfl⟩
      refine ((Sp.mem hmu).add ((Sp.mem hm0).smul (vat z.2 q))).cg (fun i => ?_)
      exact (Cg.of_eq (by omega)).trans ((hup z hm i).symm.add (Cg.refl p (vat z.2 q * vat o2 i)))
    have hrow : Sp p (row :: Z.map Prod.snd) (vat o2) := by
      have hown : Sp p (row :: Z.map Prod.snd) (vat own) := ((Sp.head p row _).add (hsp.tail.smul (-1))).cg (fun i => Cg.of_eq (by omega))
      exact (hown.smul (fac p own)).cg f4
    refine ⟨insZ p o2 q Z, hZ', insZ_snd h.ldr, hin, ?_, fun r hr => ?_⟩
    · refine ((Sp.le hin hsp).add ((Sp.mem hm0).smul (vat own q))).cg (fun i => ?_)
      exact (Cg.of_eq (by omega)).trans ((Cg.refl p (vat row i - vat own i)).add (f3 i))
    · rw [List.mem_map] at hr
      obtain ⟨x, hx, rfl⟩ := hr
      rcases insZ_mem.1 hx with rfl | ⟨z, hm, rfl⟩
      · exact hrow
      · refine (((Sp.mem (List.mem_map.2 ⟨z, hm, rfl⟩)).tail).add (hrow.smul (-(vat z.2 q)))).cg (fun i => (hup z hm i).trans (Cg.of_eq ?_))
        rw [Int.neg_mul]; omega
/-- The reference's list is in the reduced form and has the rows' span. -/
theorem ech_ok {p : Int} (hp : isP p = true) {n : Nat} {rows : List (List Int)} (h : ∀ r ∈ rows, okR p n r) :
    ∃ Z, RrefZ p n Z ∧ Z.map Prod.snd = ech p rows ∧ (∀ r ∈ rows, Sp p (ech p rows) (vat r)) ∧ ∀ r ∈ ech p rows, Sp p rows (vat r) := by
  have go : ∀ (rest done : List (List Int)) (Z : List (Nat × List Int)), (∀ r ∈ rest, okR p n r) → RrefZ p n Z → (∀ r ∈ done, Sp p (Z.map Prod.snd) (vat r)) → (∀ r ∈ Z.map Prod.snd, Sp p (done ++ rest) (vat r)) → (∀ r ∈ done, r ∈ done ++ rest) →
      ∃ Z', RrefZ p n Z' ∧ Z'.map Prod.snd = rest.foldl (echStep p) (Z.map Prod.snd) ∧ (∀ r ∈ done ++ rest, Sp p (Z'.map Prod.snd) (vat r)) ∧ ∀ r ∈ Z'.map Prod.snd, Sp p (done ++ rest) (vat r) := by
    intro rest
    induction rest with
    | nil => intro done Z _ hZ h1 h2 _; exact ⟨Z, hZ, rfl, by simpa using h1, h2⟩
    | cons r rest ih =>
      intro done Z hr hZ h1 h2 _
      obtain ⟨Z1, g1, g2, g3, g4, g5⟩ := echStep_ok hp hZ (hr r (by simp))
      obtain ⟨Z2, e1, e2, e3, e4⟩ := ih (done ++ [r]) Z1 (fun s hs => hr s (by simp [hs])) g1 (fun s hs => by
        rcases List.mem_append.1 hs with hs | hs
        · exact Sp.le g3 (h1 s hs)
        · simp at hs; subst hs; exact g4) (fun s hs => by
        rw [List.append_assoc, List.singleton_append]
        refine Sp.le (fun t ht => ?_) (g5 s hs)
        rcases List.mem_cons.1 ht with rfl | ht
        · exact Sp.mem (by simp)
        · exact h2 t ht) (fun s hs => by simp at hs ⊢; rcases hs with hs | hs <;> simp [hs])
      rw [List.append_assoc, List.singleton_append] at e3 e4
      exact ⟨Z2, e1, by rw [e2, g2]; rfl, e3, e4⟩
  obtain ⟨Z, h1, h2, h3, h4⟩ := go rows [] [] h ⟨by simp, by simp, List.Pairwise.nil⟩ (by simp) (by simp) (by simp)
  simp only [List.nil_append, List.map_nil] at h2 h3 h4
  refine ⟨Z, h1, h2, ?_, ?_⟩
  · unfold ech; rw [← h2]; exact h3
  · unfold ech; rw [← h2]; exact h4
/-- What holds when c columns are done and t leading places are found. -/
structure RInv (p : Int) (n : Nat) (rows M : List (List Int)) (t c : Nat) (P : List Nat) : Prop where
  ok : ∀ r ∈ M, okR p n r
  plen : P.length = t
  le : t ≤ M.length
  cn : c ≤ n
  lt : ∀ j ∈ P, j < c
  incr : P.Pairwise (· < ·)
  one : ∀ (k j : Nat) (r : List Int), P[k]? = some j → M[k]? = some r → vat r j = 1
  before : ∀ (k j : Nat) (r : List Int) (i : Nat), P[k]? = some j → M[k]? = some r → i < j → vat r i = 0
  other : ∀ (k j l : Nat) (s : List Int), P[k]? = some j → M[l]? = some s → l ≠ k → vat s j = 0
  below : ∀ (l : Nat) (s : List Int) (i : Nat), t ≤ l → M[l]? = some s → i < c → vat s i = 0
  inn : ∀ r ∈ rows, Sp p M (vat r)
  out : ∀ r ∈ M, Sp p rows (vat r)
theorem RInv.start {p : Int} {n : Nat} {rows : List (List Int)} (h : ∀ r ∈ rows, okR p n r) : RInv p n rows rows 0 0 [] :=
  ⟨h, rfl, Nat.zero_le _, Nat.zero_le _, by simp, List.Pairwise.nil, by simp, by simp, by simp, fun l s i _ _ hi => absurd hi (Nat.not_lt_zero _), fun r hr => Sp.mem hr, fun r hr => Sp.mem hr⟩
/-- A column without a leading place. -/
theorem RInv.skip {p : Int} {n : Nat} {rows M : List (List Int)} {t c : Nat} {P : List Nat} (h : RInv p n rows M t c P) (hc : c < n) (hz : ∀ (l : Nat) (s : List Int), t ≤ l → M[l]? = some s → vat s c = 0) : RInv p n rows M t (c + 1) P := by
  refine ⟨h.ok, h.plen, h.le, hc, fun j hj => by have := h.lt j hj; omega, h.incr, h.one, h.before, h.other, fun l s i hl hs hi => ?_, h.inn, h.out⟩
  by_cases e : i = c
  · rw [e]; exact hz l s hl hs
  · exact h.below l s i hl hs (by omega)
/-- Two rows change places. -/
theorem RInv.swap {p : Int} {n : Nat} {rows M M' : List (List Int)} {t c i : Nat} {P : List Nat} (h : RInv p n rows M t c P) (hti : t ≤ i) (hi : i < M.length) (h1 : M'[t]? = M[i]?) (h2 : M'[i]? = M[t]?) (h3 : ∀ k, k ≠ t → k ≠ i → M'[k]? = M[k]?) (hl : M'.length = M.length) : RInv p n rows M' t c P := by
  have hfrom : ∀ (l : Nat) (s : List Int), M'[l]? = some s → ∃ l', M[l']? = some s ∧ (t ≤ l → t ≤ l') ∧ (l < t → l' = l) ∧ (t ≤ l' → t ≤ l) := fun l s hs => by
    by_cases e : l = t
    · subst e; exact ⟨i, by rw [← h1]; exact hs, fun _ => hti, fun hh => by omega, fun _ => Nat.le_refl _⟩
    · by_cases e2 : l = i
      · subst e2; exact ⟨t, by rw [← h2]; exact hs, fun _ => Nat.le_refl _, fun hh => by omega, fun _ => by omega⟩
      · exact ⟨l, by rw [← h3 l e e2]; exact hs, fun hh => hh, fun _ => rfl, fun hh => hh⟩
  have hP : ∀ (k j : Nat), P[k]? = some j → k < t := fun k j hk => by rw [← h.plen]; exact (List.getElem?_eq_some_iff.1 hk).1
  have hmem : ∀ r ∈ M', r ∈ M := fun r hr => by
    obtain ⟨l, hl⟩ := List.getElem?_of_mem hr
    obtain ⟨l', h', _⟩ := hfrom l r hl
    exact List.mem_of_getElem? h'
  have hmem' : ∀ r ∈ M, r ∈ M' := fun r hr => by
    obtain ⟨l, hl⟩ := List.getElem?_of_mem hr
    by_cases e : l = t
    · subst e; exact List.mem_of_getElem? (h2.trans hl)
    · by_cases e2 : l = i
      · subst e2; exact List.mem_of_getElem? (h1.trans hl)
      · exact List.mem_of_getElem? ((h3 l e e2).trans hl)
  refine ⟨fun r hr => h.ok r (hmem r hr), h.plen, by rw [hl]; exact h.le, h.cn, h.lt, h.incr, fun k j r hk hr => ?_, fun k j r i' hk hr hi' => ?_, fun k j l s hk hs hne => ?_, fun l s i' hl' hs hi' => ?_, fun r hr => Sp.le (fun s hs => Sp.mem (hmem' s hs)) (h.inn r hr), fun r hr => h.out r (hmem r hr)⟩
  · obtain ⟨l', g1, g2, g3, g4⟩ := hfrom k r hr
    have e := g3 (hP k j hk); subst e
    exact h.one l' j r hk g1
  · obtain ⟨l', g1, g2, g3, g4⟩ := hfrom k r hr
    have e := g3 (hP k j hk); subst e
    exact h.before l' j r i' hk g1 hi'
  · obtain ⟨l', g1, g2, g3, g4⟩ := hfrom l s hs
    refine h.other k j l' s hk g1 (fun e => ?_)
    have := hP k j hk
    by_cases hlt : l < t
    · exact hne ((g3 hlt).symm.trans e)
    · have := g2 (by omega); omega
  · obtain ⟨l', g1, g2, g3, g4⟩ := hfrom l s hs
    exact h.below l' s i' (g2 hl') g1 hi'
/-- A column with a leading place: row t made normal, the others less their part of it. -/
theorem RInv.pivot {p : Int} (hp : isP p = true) {n : Nat} {rows M M' : List (List Int)} {t c : Nat} {P : List Nat} (h : RInv p n rows M t c P) (hc : c < n) {r : List Int} (hr : M[t]? = some r) (hne : vat r c ≠ 0) (h1 : M'[t]? = some (normR p r)) (h2 : ∀ (k : Nat) (s : List Int), k ≠ t → M[k]? = some s → M'[k]? = some (if vat s c = 0 then s else less p s (normR p r) (vat s c))) (hl : M'.length = M.length) : RInv p n rows M' (t + 1) (c + 1) (P ++ [c]) := by
  have htl : t < M.length := (List.getElem?_eq_some_iff.1 hr).1
  have hrm : r ∈ M := List.mem_of_getElem? hr
  have hro := h.ok r hrm
  have hld : ldr r = some c := ldr_eq hne (fun i hi => h.below t r i (Nat.le_refl _) hr hi)
  obtain ⟨f1, f2, f3⟩ := normR_facts hp hro hld
  have f4 := normR_vat hp r
  have bok := normR_ok (r := r) hp hro.1
  generalize normR p r = b at *
  have k1 := isP_lo hp
  have hfrom : ∀ (k : Nat) (s' : List Int), k ≠ t → M'[k]? = some s' → ∃ s, M[k]? = some s ∧ okR p n s' ∧ ∀ i, Cg p (vat s' i) (vat s i - vat s c * vat b i) := fun k s' hk hs' => by
    have hkl : k < M.length := by rw [← hl]; exact (List.getElem?_eq_some_iff.1 hs').1
    have hs := List.getElem?_eq_getElem hkl
    have e := h2 k _ hk hs
    rw [hs'] at e
    injection e with e
    refine ⟨_, hs, ?_⟩
    have hso := h.ok _ (List.getElem_mem hkl)
    by_cases hz : vat (M[k]'hkl) c = 0
    · rw [if_pos hz] at e
      rw [e]
      exact ⟨hso, fun i => Cg.of_eq (by rw [hz]; omega)⟩
    · rw [if_neg hz] at e
      rw [e]
      exact ⟨hso.less hp _ _, fun i => less_vat hso.1 bok.1 i⟩
  have hto : ∀ (k : Nat) (s : List Int), k ≠ t → M[k]? = some s → ∃ s' ∈ M', ∀ i, Cg p (vat s' i) (vat s i - vat s c * vat b i) := fun k s hk hs => by
    obtain ⟨s0, g1, _, g3⟩ := hfrom k _ hk (h2 k s hk hs)
    rw [hs] at g1; injection g1 with g1; subst g1
    exact ⟨_, List.mem_of_getElem? (h2 k s hk hs), g3⟩
  have hP : ∀ (k j : Nat), P[k]? = some j → k < t ∧ j < c := fun k j hk => ⟨by rw [← h.plen]; exact (List.getElem?_eq_some_iff.1 hk).1, h.lt j (List.mem_of_getElem? hk)⟩
  have hPn : ∀ (k j : Nat), (P ++ [c])[k]? = some j → P[k]? = some j ∨ (k = t ∧ j = c) := fun k j hk => by
    by_cases hlt : k < P.length
    · rw [List.getElem?_append_left hlt] at hk; exact .inl hk
    · rw [List.getElem?_append_right (by omega)] at hk
      have hk0 : k - P.length = 0 := by
        have := (List.getElem?_eq_some_iff.1 hk).1
        simp at this; omega
      rw [hk0] at hk
      simp at hk
      exact .inr ⟨by rw [← h.plen]; omega, hk.symm⟩
  have hbP : ∀ (k j : Nat), P[k]? = some j → vat b j = 0 := fun k j hk => f2 j (h.other k j t r hk hr (by have := (hP k j hk).1; omega))
  have hbB : ∀ i, i < c → vat b i = 0 := fun i hi => f2 i (h.below t r i (Nat.le_refl _) hr hi)
  have hbm : b ∈ M' := List.mem_of_getElem? h1
  refine ⟨fun s hs => ?_, by simp [h.plen], by rw [hl]; exact htl, hc, fun j hj => ?_, ?_, fun k j s hk hs => ?_, fun k j s i hk hs hi => ?_, fun k j l s hk hs hlk => ?_, fun l s i hle hs hi => ?_, fun s hs => ?_, fun s hs => ?_⟩
  · obtain ⟨l, hls⟩ := List.getElem?_of_mem hs
    by_cases e : l = t
    · subst e; rw [h1] at hls; injection hls with hls; subst hls; exact bok
    · obtain ⟨_, _, g, _⟩ := hfrom l s e hls; exact g
  · rcases List.mem_append.1 hj with hj | hj
    · have := h.lt j hj; omega
    · simp at hj; omega
  · rw [List.pairwise_append]
    refine ⟨h.incr, by simp, fun a ha b' hb' => ?_⟩
    simp at hb'; subst hb'; exact h.lt a ha
  · rcases hPn k j hk with hk | ⟨rfl, rfl⟩
    · obtain ⟨s0, g1, g2, g3⟩ := hfrom k s (by have := (hP k j hk).1; omega) hs
      have e := g3 j
      rw [h.one k j s0 hk g1, hbP k j hk] at e
      obtain ⟨a, b'⟩ := vat_rng hp g2 j
      have e2 := (e.trans (Cg.of_eq (show (1 - vat s0 c * 0 : Int) = 1 by omega))).em
      rw [Int.emod_eq_of_lt a b', Int.emod_eq_of_lt (by omega) (by omega)] at e2
      exact e2
    · rw [h1] at hs; injection hs with hs; subst hs; exact f1
  · rcases hPn k j hk with hk | ⟨rfl, rfl⟩
    · obtain ⟨s0, g1, g2, g3⟩ := hfrom k s (by have := (hP k j hk).1; omega) hs
      refine vat_zero hp g2 ((g3 i).trans (Cg.of_eq ?_))
      rw [h.before k j s0 i hk g1 hi, hbB i (by have := (hP k j hk).2; omega)]; omega
    · rw [h1] at hs; injection hs with hs; subst hs; exact hbB i hi
  · rcases hPn k j hk with hk | ⟨rfl, rfl⟩
    · by_cases e : l = t
      · subst e; rw [h1] at hs; injection hs with hs; subst hs; exact hbP k j hk
      · obtain ⟨s0, g1, g2, g3⟩ := hfrom l s e hs
        refine vat_zero hp g2 ((g3 j).trans (Cg.of_eq ?_))
        rw [h.other k j l s0 hk g1 hlk, hbP k j hk]; omega
    · obtain ⟨s0, g1, g2, g3⟩ := hfrom l s hlk hs
      refine vat_zero hp g2 ((g3 j).trans (Cg.of_eq ?_))
      rw [f1]; omega
  · obtain ⟨s0, g1, g2, g3⟩ := hfrom l s (by omega) hs
    refine vat_zero hp g2 ((g3 i).trans (Cg.of_eq ?_))
    by_cases e : i = c
    · subst e; rw [f1]; omega
    · rw [h.below l s0 i (by omega) g1 (by omega), hbB i (by omega)]; omega
  · refine Sp.le (fun u hu => ?_) (h.inn s hs)
    obtain ⟨l, hlu⟩ := List.getElem?_of_mem hu
    by_cases e : l = t
    · subst e; rw [hr] at hlu; injection hlu with hlu; subst hlu
      exact ((Sp.mem hbm).smul (vat r c)).cg f3
    · obtain ⟨s', g1, g2⟩ := hto l u e hlu
      refine ((Sp.mem g1).add ((Sp.mem hbm).smul (vat u c))).cg (fun i => ?_)
      exact (Cg.of_eq (by omega)).trans ((g2 i).symm.add (Cg.refl p (vat u c * vat b i)))
  · have hb : Sp p rows (vat b) := ((h.out r hrm).smul (fac p r)).cg f4
    obtain ⟨l, hls⟩ := List.getElem?_of_mem hs
    by_cases e : l = t
    · subst e; rw [h1] at hls; injection hls with hls; subst hls; exact hb
    · obtain ⟨s0, g1, g2, g3⟩ := hfrom l s e hls
      refine ((h.out s0 (List.mem_of_getElem? g1)).add (hb.smul (-(vat s0 c)))).cg (fun i => (g3 i).trans (Cg.of_eq ?_))
      rw [Int.neg_mul]; omega
/-- The first t rows are the reference's list. -/
theorem RInv.fin {p : Int} (hp : isP p = true) {n : Nat} {rows M : List (List Int)} {t c : Nat} {P : List Nat} (h : RInv p n rows M t c P) (hrows : ∀ r ∈ rows, okR p n r) (he : t = M.length ∨ c = n) : M.take t = ech p rows := by
  obtain ⟨Z, z1, z2, z3, z4⟩ := ech_ok hp hrows
  have hR := z1.rref
  rw [z2] at hR
  have htk : ∀ (k : Nat) (r : List Int), (M.take t)[k]? = some r → k < t ∧ M[k]? = some r := fun k r hk => by
    have : k < t := by
      have := (List.getElem?_eq_some_iff.1 hk).1
      rw [List.length_take] at this; omega
    rw [List.getElem?_take_of_lt this] at hk
    exact ⟨this, hk⟩
  have hL : Rref p n (M.take t) P := by
    refine ⟨by rw [h.plen, List.length_take]; have := h.le; omega, fun r hr => h.ok r (List.mem_of_mem_take hr), fun k j hk => ?_, fun k j r hk hr => h.one k j r hk (htk k r hr).2, fun k j r i hk hr hi => h.before k j r i hk (htk k r hr).2 hi, fun k j l s hk hs hne => h.other k j l s hk (htk l s hs).2 hne, h.incr⟩
    have := h.lt j (List.mem_of_getElem? hk); have := h.cn; omega
  have hsp : ∀ r ∈ M, Sp p (M.take t) (vat r) := fun r hr => by
    obtain ⟨l, hlr⟩ := List.getElem?_of_mem hr
    by_cases hlt : l < t
    · exact Sp.mem (List.mem_of_getElem? (by rw [List.getElem?_take_of_lt hlt]; exact hlr))
    · have hll := (List.getElem?_eq_some_iff.1 hlr).1
      rcases he with he | he
      · omega
      · refine (Sp.zero p _).cg (fun i => Cg.of_eq ?_)
        by_cases hi : i < c
        · exact h.below l r i (by omega) hlr hi
        · exact vat_out (by rw [(h.ok r hr).1]; omega)
  refine hL.uniq hp hR (fun r hr => Sp.le z3 (h.out r (List.mem_of_mem_take hr))) (fun r hr => Sp.le hsp (Sp.le h.inn (z4 r hr)))
theorem nrm_normR (p : Int) (r : List Int) : nrm p r = normR p r := rfl
/-- The place of the first number other than 0, or -1. -/
def ldI (r : List Int) : Int := match ldr r with | none => -1 | some q => q
theorem ldI_some {r : List Int} {q : Nat} (h : ldr r = some q) : ldI r = q := by unfold ldI; rw [h]
theorem ldI_none {r : List Int} (h : ldr r = none) : ldI r = -1 := by unfold ldI; rw [h]
theorem subAll_snoc {p : Int} : ∀ (S : List (List Int)) (own s : List Int), subAll p own (S ++ [s]) = less p (subAll p own S) s (vat (subAll p own S) ((ldr s).getD 0))
  | [], own, s => rfl
  | t :: S, own, s => by
    show subAll p (less p own t (vat own ((ldr t).getD 0))) (S ++ [s]) = _
    rw [subAll_snoc S]; rfl
theorem subAll_take {p : Int} {S : List (List Int)} {own s : List Int} {k q : Nat} (hk : S[k]? = some s) (hq : ldr s = some q) : subAll p own (S.take (k + 1)) = less p (subAll p own (S.take k)) s (vat (subAll p own (S.take k)) q) := by
  rw [List.take_add_one, hk]
  simp only [Option.toList_some]
  rw [subAll_snoc, hq]; rfl
def insStep (p : Int) (own : List Int) (q : Nat) (acc : List (List Int) × Bool) (s : List Int) : List (List Int) × Bool :=
  if acc.2 = false ∧ q < (ldr s).getD 0 then ((acc.1 ++ [own]) ++ [less p s own (vat s q)], true) else (acc.1 ++ [less p s own (vat s q)], acc.2)
def insF (p : Int) (own : List Int) (q : Nat) (S : List (List Int)) : List (List Int) × Bool := S.foldl (insStep p own q) ([], false)
theorem insF_put {p : Int} {own : List Int} {q : Nat} : ∀ (S A : List (List Int)), S.foldl (insStep p own q) (A, true) = (A ++ S.map (fun s => less p s own (vat s q)), true)
  | [], A => by simp
  | s :: S, A => by
    have h : insStep p own q (A, true) s = (A ++ [less p s own (vat s q)], true) := by
      unfold insStep; rw [if_neg (by simp)]
    rw [List.foldl_cons, h, insF_put S]; simp
theorem insF_go {p : Int} {own : List Int} {q : Nat} : ∀ (S A : List (List Int)), (if (S.foldl (insStep p own q) (A, false)).2 = true then (S.foldl (insStep p own q) (A, false)).1 else (S.foldl (insStep p own q) (A, false)).1 ++ [own]) = A ++ insR p own q S
  | [], A => by simp [insR]
  | s :: S, A => by
    rw [List.foldl_cons]
    by_cases hq : q < (ldr s).getD 0
    · have h : insStep p own q (A, false) s = ((A ++ [own]) ++ [less p s own (vat s q)], true) := by
        unfold insStep; rw [if_pos ⟨rfl, hq⟩]
      rw [h, insF_put S]
      simp only [insR]
      rw [if_pos hq]
      simp
    · have h : insStep p own q (A, false) s = (A ++ [less p s own (vat s q)], false) := by
        unfold insStep; rw [if_neg (by simp [hq])]
      rw [h, insF_go S]
      simp only [insR]
      rw [if_neg hq]
      simp
theorem insF_eq {p : Int} {own : List Int} {q : Nat} (S : List (List Int)) : (if (insF p own q S).2 = true then (insF p own q S).1 else (insF p own q S).1 ++ [own]) = insR p own q S := by
  have := insF_go (p := p) (own := own) (q := q) S []
  rw [List.nil_append] at this
  exact this
theorem insF_snoc {p : Int} {own : List Int} {q : Nat} {S : List (List Int)} {k : Nat} {s : List Int} (hk : S[k]? = some s) : insF p own q (S.take (k + 1)) = insStep p own q (insF p own q (S.take k)) s := by
  unfold insF
  rw [List.take_add_one, hk, List.foldl_append]
  rfl
theorem insStep_len {p : Int} {own : List Int} {q : Nat} (acc : List (List Int) × Bool) (s : List Int) : (insStep p own q acc s).1.length ≤ acc.1.length + 2 := by
  unfold insStep; split <;> simp
theorem insF_len {p : Int} {own : List Int} {q : Nat} : ∀ (S : List (List Int)) (k : Nat), (insF p own q (S.take k)).1.length ≤ 2 * k
  | S, 0 => by simp [insF]
  | S, k + 1 => by
    cases hk : S[k]? with
    | none => rw [List.take_add_one, hk]; simp only [Option.toList_none, List.append_nil]; have := insF_len (p := p) (own := own) (q := q) S k; omega
    | some s => rw [insF_snoc hk]; have := insF_len (p := p) (own := own) (q := q) S k; have := insStep_len (p := p) (own := own) (q := q) (insF p own q (S.take k)) s; omega
theorem insR_len {p : Int} {own : List Int} {q : Nat} : ∀ (S : List (List Int)), (insR p own q S).length = S.length + 1
  | [] => rfl
  | s :: S => by
    simp only [insR]
    split
    · simp
    · simp [insR_len S]
theorem ech_snoc {p : Int} {rows : List (List Int)} {k : Nat} {r : List Int} (hk : rows[k]? = some r) : ech p (rows.take (k + 1)) = echStep p (ech p (rows.take k)) r := by
  unfold ech
  rw [List.take_add_one, hk, List.foldl_append]; rfl
theorem echStep_len {p : Int} (S : List (List Int)) (r : List Int) : (echStep p S r).length ≤ S.length + 1 := by
  unfold echStep; split
  · omega
  · rw [insR_len]; omega
theorem ech_len {p : Int} : ∀ (rows : List (List Int)) (k : Nat), (ech p (rows.take k)).length ≤ k
  | rows, 0 => by simp [ech]
  | rows, k + 1 => by
    cases hk : rows[k]? with
    | none => rw [List.take_add_one, hk]; simp only [Option.toList_none, List.append_nil]; have := ech_len (p := p) rows k; omega
    | some s => rw [ech_snoc hk]; have := ech_len (p := p) rows k; have := echStep_len (p := p) (ech p (rows.take k)) s; omega
/-- What the reference's rows are at each step. -/
def LedN (p : Int) (n : Nat) (S : List (List Int)) : Prop := ∀ s ∈ S, okR p n s ∧ ∃ q, ldr s = some q ∧ q < n
theorem ech_led {p : Int} (hp : isP p = true) {n : Nat} {rows : List (List Int)} (h : ∀ r ∈ rows, okR p n r) (k : Nat) : LedN p n (ech p (rows.take k)) := by
  obtain ⟨Z, hZ, he, _, _⟩ := ech_ok hp (fun r hr => h r (List.mem_of_mem_take hr) : ∀ r ∈ rows.take k, okR p n r)
  intro s hs
  rw [← he, List.mem_map] at hs
  obtain ⟨z, hz, rfl⟩ := hs
  obtain ⟨h1, h2, _⟩ := hZ.ok z hz
  exact ⟨h1, z.1, hZ.ldr z hz, h2⟩
/-- One row more, where it is 0 behind the subtractions. -/
theorem echStep_none {p : Int} {S : List (List Int)} {r : List Int} (h : ldr (subAll p r S) = none) : echStep p S r = S := by unfold echStep; rw [h]
theorem echStep_some {p : Int} {S : List (List Int)} {r : List Int} {q : Nat} (h : ldr (subAll p r S) = some q) : echStep p S r = insR p (normR p (subAll p r S)) q S := by unfold echStep; rw [h]
theorem less_take {p : Int} {a b : List Int} {k : Int} {j : Nat} (hj : j < a.length) : (less p a b k).take (j + 1) = (less p a b k).take j ++ [(vat a j - k * vat b j) % p] := by
  rw [List.take_add_one]
  congr 1
  unfold less
  rw [List.getElem?_map, List.getElem?_range hj]; rfl
theorem vat_get {r : List Int} {i : Nat} {x : Int} (h : r[i]? = some x) : vat r i = x := by
  unfold vat; rw [List.getD_eq_getElem?_getD, h]; rfl
end Go.Proofs.Ytjfabhkgmelmgaa
