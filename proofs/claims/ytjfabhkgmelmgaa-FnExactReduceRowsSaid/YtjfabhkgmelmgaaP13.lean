/- The reduced row echelon form: two lists of rows in this form with one span are the same; no program in sight. -/
import Derived.Test.YtjfabhkgmelmgaaP3
namespace Go.Proofs.Ytjfabhkgmelmgaa
set_option linter.unusedSimpArgs false
set_option linter.unusedVariables false

def vat (r : List Int) (i : Nat) : Int := r.getD i 0
/-- The combination of rows with these factors, at place i. -/
def comb : List (List Int) → (Nat → Int) → Nat → Int
  | [], _, _ => 0
  | r :: R, c, i => c 0 * vat r i + comb R (fun k => c (k + 1)) i
/-- v is a combination of the rows, modulo p. -/
def Sp (p : Int) (R : List (List Int)) (v : Nat → Int) : Prop := ∃ c : Nat → Int, ∀ i, Cg p (v i) (comb R c i)
theorem comb_zero : ∀ (R : List (List Int)) (i : Nat), comb R (fun _ => 0) i = 0
  | [], _ => rfl
  | r :: R, i => by simp only [comb, Int.zero_mul, comb_zero R i]; rfl
theorem comb_add : ∀ (R : List (List Int)) (c d : Nat → Int) (i : Nat), comb R (fun k => c k + d k) i = comb R c i + comb R d i
  | [], _, _, _ => rfl
  | r :: R, c, d, i => by
    simp only [comb]
    rw [comb_add R (fun k => c (k + 1)) (fun k => d (k + 1)) i, Int.add_mul]; omega
theorem comb_mul : ∀ (R : List (List Int)) (c : Nat → Int) (x : Int) (i : Nat), comb R (fun k => x * c k) i = x * comb R c i
  | [], _, x, _ => by simp [comb]
  | r :: R, c, x, i => by
    simp only [comb]
    rw [comb_mul R (fun k => c (k + 1)) x i, Int.mul_add, Int.mul_assoc]
theorem Sp.zero (p : Int) (R : List (List Int)) : Sp p R (fun _ => 0) := ⟨fun _ => 0, fun i => Cg.of_eq (comb_zero R i).symm⟩
theorem Sp.add {p : Int} {R : List (List Int)} {u v : Nat → Int} (hu : Sp p R u) (hv : Sp p R v) : Sp p R (fun i => u i + v i) := by
  obtain ⟨c, hc⟩ := hu; obtain ⟨d, hd⟩ := hv
  exact ⟨fun k => c k + d k, fun i => ((hc i).add (hd i)).trans (Cg.of_eq (comb_add R c d i).symm)⟩
theorem Sp.smul {p : Int} {R : List (List Int)} {u : Nat → Int} (x : Int) (hu : Sp p R u) : Sp p R (fun i => x * u i) := by
  obtain ⟨c, hc⟩ := hu
  exact ⟨fun k => x * c k, fun i => ((hc i).mulL x).trans (Cg.of_eq (comb_mul R c x i).symm)⟩
theorem Sp.cg {p : Int} {R : List (List Int)} {u v : Nat → Int} (hu : Sp p R u) (h : ∀ i, Cg p (v i) (u i)) : Sp p R v := by
  obtain ⟨c, hc⟩ := hu
  exact ⟨c, fun i => (h i).trans (hc i)⟩
theorem Sp.tail {p : Int} {r : List Int} {R : List (List Int)} {u : Nat → Int} (hu : Sp p R u) : Sp p (r :: R) u := by
  obtain ⟨c, hc⟩ := hu
  refine ⟨fun k => match k with | 0 => 0 | k + 1 => c k, fun i => (hc i).trans (Cg.of_eq ?_)⟩
  show comb R c i = 0 * vat r i + comb R c i
  omega
theorem Sp.head (p : Int) (r : List Int) (R : List (List Int)) : Sp p (r :: R) (vat r) := by
  refine ⟨fun k => match k with | 0 => 1 | _ + 1 => 0, fun i => Cg.of_eq ?_⟩
  simp only [comb, comb_zero]; omega
theorem Sp.mem {p : Int} : ∀ {R : List (List Int)} {r : List Int}, r ∈ R → Sp p R (vat r)
  | s :: R, r, h => by
    rcases List.mem_cons.1 h with rfl | h
    · exact Sp.head p _ R
    · exact (Sp.mem h).tail
theorem Sp.comb {p : Int} {R' : List (List Int)} : ∀ (R : List (List Int)) (c : Nat → Int), (∀ r ∈ R, Sp p R' (vat r)) → Sp p R' (comb R c)
  | [], c, _ => (Sp.zero p R').cg (fun i => Cg.refl p _)
  | r :: R, c, h => (((h r (by simp)).smul (c 0)).add (Sp.comb R (fun k => c (k + 1)) (fun s hs => h s (by simp [hs])))).cg (fun i => Cg.refl p _)
/-- Rows of one span lie in another one: so does the span. -/
theorem Sp.le {p : Int} {R R' : List (List Int)} (h : ∀ r ∈ R, Sp p R' (vat r)) {v : Nat → Int} (hv : Sp p R v) : Sp p R' v := by
  obtain ⟨c, hc⟩ := hv
  exact (Sp.comb R c h).cg hc
/-- At a place where one row alone is not 0. -/
theorem comb_at : ∀ {R : List (List Int)} {k j : Nat} {r : List Int} (c : Nat → Int), R[k]? = some r → (∀ l s, R[l]? = some s → l ≠ k → vat s j = 0) → Go.Proofs.Ytjfabhkgmelmgaa.comb R c j = c k * vat r j
  | s :: R, 0, j, r, c, hk, h => by
    simp at hk; subst hk
    simp only [Go.Proofs.Ytjfabhkgmelmgaa.comb]
    have : Go.Proofs.Ytjfabhkgmelmgaa.comb R (fun k => c (k + 1)) j = 0 := by
      have hz : ∀ (R : List (List Int)) (c : Nat → Int), (∀ (l : Nat) (s : List Int), R[l]? = some s → vat s j = 0) → Go.Proofs.Ytjfabhkgmelmgaa.comb R c j = 0 := by
        intro R
        induction R with
        | nil => intro c _; rfl
        | cons s R ih =>
          intro c h
          simp only [Go.Proofs.Ytjfabhkgmelmgaa.comb]
          rw [h 0 s rfl, ih _ (fun l s hs => h (l + 1) s (by simpa using hs))]; omega
      exact hz R _ (fun l s hs => h (l + 1) s (by simpa using hs) (by omega))
    omega
  | s :: R, k + 1, j, r, c, hk, h => by
    simp only [Go.Proofs.Ytjfabhkgmelmgaa.comb]
    rw [h 0 s rfl (by omega), comb_at (fun k => c (k + 1)) (by simpa using hk) (fun l s hs hl => h (l + 1) s (by simpa using hs) (by omega))]; omega
/-- Rows in the reduced form, with their leading places. -/
structure Rref (p : Int) (n : Nat) (R : List (List Int)) (P : List Nat) : Prop where
  len : P.length = R.length
  rows : ∀ r ∈ R, r.length = n ∧ ∀ x ∈ r, 0 ≤ x ∧ x < p
  lt : ∀ (k j : Nat), P[k]? = some j → j < n
  one : ∀ (k j : Nat) (r : List Int), P[k]? = some j → R[k]? = some r → vat r j = 1
  before : ∀ (k j : Nat) (r : List Int) (i : Nat), P[k]? = some j → R[k]? = some r → i < j → vat r i = 0
  other : ∀ (k j l : Nat) (s : List Int), P[k]? = some j → R[l]? = some s → l ≠ k → vat s j = 0
  incr : P.Pairwise (· < ·)
theorem one_lt {p : Int} (hp : isP p = true) : ¬ p ∣ 1 := by
  have := isP_lo hp
  intro h
  have := Int.le_of_dvd (by omega) h
  omega
theorem vat_out {r : List Int} {i : Nat} (h : r.length ≤ i) : vat r i = 0 := by
  unfold vat; rw [List.getD_eq_getElem?_getD, List.getElem?_eq_none h]; rfl
/-- The factor of a row is the value at its leading place. -/
theorem Rref.coef {p : Int} {n : Nat} {R : List (List Int)} {P : List Nat} (h : Rref p n R P) (c : Nat → Int) {k j : Nat} (hk : P[k]? = some j) : comb R c j = c k := by
  have hl : k < R.length := by rw [← h.len]; exact (List.getElem?_eq_some_iff.1 hk).1
  have hr := List.getElem?_eq_getElem hl
  rw [comb_at c hr (fun l s hs hne => h.other k j l s hk hs hne), h.one k j _ hk hr]
  omega
theorem comb_none : ∀ {R : List (List Int)} {c : Nat → Int} {i : Nat} {p : Int}, (∀ (k : Nat) (r : List Int), R[k]? = some r → Cg p (c k * vat r i) 0) → Cg p (comb R c i) 0
  | [], _, _, p, _ => Cg.refl p 0
  | r :: R, c, i, p, h => by
    have h0 := h 0 r rfl
    have h1 := comb_none (R := R) (c := fun k => c (k + 1)) (i := i) (p := p) (fun k r hk => h (k + 1) r (by simpa using hk))
    exact (h0.add h1).trans (Cg.of_eq (by omega))
/-- A member of the span that is 0 at all leading places is 0. -/
theorem Rref.zero {p : Int} {n : Nat} {R : List (List Int)} {P : List Nat} (h : Rref p n R P) {v : Nat → Int} (hv : Sp p R v) (h0 : ∀ (k j : Nat), P[k]? = some j → Cg p (v j) 0) (i : Nat) : Cg p (v i) 0 := by
  obtain ⟨c, hc⟩ := hv
  refine (hc i).trans (comb_none fun k r hk => ?_)
  have hl : k < P.length := by rw [h.len]; exact (List.getElem?_eq_some_iff.1 hk).1
  have hP := List.getElem?_eq_getElem hl
  have h1 := h0 k _ hP
  have h2 := (hc (P[k]'hl)).symm
  rw [h.coef c hP] at h2
  exact ((h2.trans h1).mulR _).trans (Cg.of_eq (by omega))
/-- A leading place of the one is one of the other. -/
theorem Rref.lead {p : Int} (hp : isP p = true) {n : Nat} {R R' : List (List Int)} {P P' : List Nat} (h : Rref p n R P) (h' : Rref p n R' P') (hs : ∀ r ∈ R, Sp p R' (vat r)) {j : Nat} (hj : j ∈ P) : j ∈ P' := by
  obtain ⟨k, hk⟩ := List.getElem?_of_mem hj
  have hl : k < R.length := by rw [← h.len]; exact (List.getElem?_eq_some_iff.1 hk).1
  have hr := List.getElem?_eq_getElem hl
  obtain ⟨c, hc⟩ := hs _ (List.getElem_mem hl)
  by_cases hmem : j ∈ P'
  · exact hmem
  exfalso
  have hone := h.one k j _ hk hr
  have hz : Cg p (comb R' c j) 0 := comb_none fun l s hls => by
    have hl' : l < P'.length := by rw [h'.len]; exact (List.getElem?_eq_some_iff.1 hls).1
    have hP := List.getElem?_eq_getElem hl'
    generalize hq : P'[l]'hl' = q at *
    have hqj : q ≠ j := fun e => hmem (by rw [← e, ← hq]; exact List.getElem_mem hl')
    by_cases hlt : q < j
    · have h1 := (hc q).symm
      rw [h'.coef c hP, h.before k j _ q hk hr hlt] at h1
      exact (h1.mulR _).trans (Cg.of_eq (by omega))
    · rw [h'.before l q s j hP hls (by omega)]
      exact Cg.of_eq (by omega)
  have h1 := (hc j).trans hz
  rw [hone] at h1
  exact one_lt hp (Cg.zero.1 h1)
theorem sorted_eq : ∀ {P Q : List Nat}, P.Pairwise (· < ·) → Q.Pairwise (· < ·) → (∀ x, x ∈ P ↔ x ∈ Q) → P = Q
  | [], [], _, _, _ => rfl
  | [], q :: Q, _, _, h => absurd ((h q).2 (by simp)) (by simp)
  | a :: P, [], _, _, h => absurd ((h a).1 (by simp)) (by simp)
  | a :: P, q :: Q, hP, hQ, h => by
    rw [List.pairwise_cons] at hP hQ
    have haq : a = q := by
      have h1 := (h a).1 (by simp); have h2 := (h q).2 (by simp)
      rcases List.mem_cons.1 h1 with e | h1
      · exact e
      · rcases List.mem_cons.1 h2 with e | h2
        · exact e.symm
        · have := hQ.1 a h1; have := hP.1 q h2; omega
    subst haq
    rw [sorted_eq hP.2 hQ.2 (fun x => ?_)]
    have hx := h x
    simp only [List.mem_cons] at hx
    constructor
    · intro hm
      rcases hx.1 (.inr hm) with e | hm'
      · have := hP.1 x hm; omega
      · exact hm'
    · intro hm
      rcases hx.2 (.inr hm) with e | hm'
      · have := hQ.1 x hm; omega
      · exact hm'
/-- The reduced form of a span is one. -/
theorem Rref.uniq {p : Int} (hp : isP p = true) {n : Nat} {R R' : List (List Int)} {P P' : List Nat} (h : Rref p n R P) (h' : Rref p n R' P') (hs : ∀ r ∈ R, Sp p R' (vat r)) (hs' : ∀ r ∈ R', Sp p R (vat r)) : R = R' := by
  have hPP : P = P' := sorted_eq h.incr h'.incr (fun x => ⟨h.lead hp h' hs, h'.lead hp h hs'⟩)
  subst hPP
  have hlen : R.length = R'.length := by rw [← h.len, h'.len]
  apply List.ext_getElem hlen
  intro k hk hk'
  have hr := List.getElem?_eq_getElem hk
  have hr' := List.getElem?_eq_getElem hk'
  have hP := List.getElem?_eq_getElem (show k < P.length by rw [h.len]; exact hk)
  have hd : Sp p R (fun i => vat (R[k]'hk) i + (-1) * vat (R'[k]'hk') i) := (Sp.mem (List.getElem_mem hk)).add ((hs' _ (List.getElem_mem hk')).smul (-1))
  have hz := h.zero hd (fun l j hl => by
    by_cases hlk : l = k
    · subst hlk
      rw [h.one l j _ hl hr, h'.one l j _ hl hr']
      exact Cg.of_eq (by omega)
    · rw [h.other l j k _ hl hr (Ne.symm hlk), h'.other l j k _ hl hr' (Ne.symm hlk)]
      exact Cg.of_eq (by omega))
  obtain ⟨hn, hx⟩ := h.rows _ (List.getElem_mem hk)
  obtain ⟨hn', hx'⟩ := h'.rows _ (List.getElem_mem hk')
  apply List.ext_getElem (by rw [hn, hn'])
  intro i hi hi'
  have h1 := hz i
  have e1 : vat (R[k]'hk) i = (R[k]'hk)[i]'hi := by unfold vat; rw [List.getD_eq_getElem?_getD, List.getElem?_eq_getElem hi]; rfl
  have e2 : vat (R'[k]'hk') i = (R'[k]'hk')[i]'hi' := by unfold vat; rw [List.getD_eq_getElem?_getD, List.getElem?_eq_getElem hi']; rfl
  rw [e1, e2] at h1
  have b1 := hx _ (List.getElem_mem hi)
  have b2 := hx' _ (List.getElem_mem hi')
  have h2 : Cg p ((R[k]'hk)[i]'hi) ((R'[k]'hk')[i]'hi') := by
    have := h1.add (Cg.refl p ((R'[k]'hk')[i]'hi'))
    exact (Cg.of_eq (by omega)).trans (this.trans (Cg.of_eq (by omega)))
  have h3 := h2.em
  rwa [Int.emod_eq_of_lt b1.1 b1.2, Int.emod_eq_of_lt b2.1 b2.2] at h3
end Go.Proofs.Ytjfabhkgmelmgaa
