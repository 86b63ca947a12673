/- The program's reduced list: column by column; it keeps the span and ends in the reduced form, so it is the reference's; no program in sight. -/
import Derived.Test.YtjfabhkgmelmgaaP14
namespace Go.Proofs.Ytjfabhkgmelmgaa
set_option linter.unusedSimpArgs false
set_option linter.unusedVariables false

/-- What holds when c columns are done and t leading places are found. -/
structure RInv (p : Int) (n : Nat) (rows M : List (List Int)) (t c : Nat) (P : List Nat) : Prop where
  ok : ∀ r ∈ M, okR p n r
  plen : P.length = t
  le : t ≤ M.length
  cn : c ≤ n
  lt : ∀ j ∈ P, j < c
  incr : P.Pairwise (· < ·)
  one : ∀ (k j : Nat) (r : List Int), P[k]? = some j → M[k]? = some r → vat r j = 1
  before : ∀ (k j : Nat) (r : List Int) (i : Nat), P[k]? = some j → M[k]? = some r → i < j → vat r i = 0
  other : ∀ (k j l : Nat) (s : List Int), P[k]? = some j → M[l]? = some s → l ≠ k → vat s j = 0
  below : ∀ (l : Nat) (s : List Int) (i : Nat), t ≤ l → M[l]? = some s → i < c → vat s i = 0
  inn : ∀ r ∈ rows, Sp p M (vat r)
  out : ∀ r ∈ M, Sp p rows (vat r)
theorem RInv.start {p : Int} {n : Nat} {rows : List (List Int)} (h : ∀ r ∈ rows, okR p n r) : RInv p n rows rows 0 0 [] :=
  ⟨h, rfl, Nat.zero_le _, Nat.zero_le _, by simp, List.Pairwise.nil, by simp, by simp, by simp, fun l s i _ _ hi => absurd hi (Nat.not_lt_zero _), fun r hr => Sp.mem hr, fun r hr => Sp.mem hr⟩
/-- A column without a leading place. -/
theorem RInv.skip {p : Int} {n : Nat} {rows M : List (List Int)} {t c : Nat} {P : List Nat} (h : RInv p n rows M t c P) (hc : c < n) (hz : ∀ (l : Nat) (s : List Int), t ≤ l → M[l]? = some s → vat s c = 0) : RInv p n rows M t (c + 1) P := by
  refine ⟨h.ok, h.plen, h.le, hc, fun j hj => by have := h.lt j hj; omega, h.incr, h.one, h.before, h.other, fun l s i hl hs hi => ?_, h.inn, h.out⟩
  by_cases e : i = c
  · rw [e]; exact hz l s hl hs
  · exact h.below l s i hl hs (by omega)
/-- Two rows change places. -/
theorem RInv.swap {p : Int} {n : Nat} {rows M M' : List (List Int)} {t c i : Nat} {P : List Nat} (h : RInv p n rows M t c P) (hti : t ≤ i) (hi : i < M.length) (h1 : M'[t]? = M[i]?) (h2 : M'[i]? = M[t]?) (h3 : ∀ k, k ≠ t → k ≠ i → M'[k]? = M[k]?) (hl : M'.length = M.length) : RInv p n rows M' t c P := by
  have hfrom : ∀ (l : Nat) (s : List Int), M'[l]? = some s → ∃ l', M[l']? = some s ∧ (t ≤ l → t ≤ l') ∧ (l < t → l' = l) ∧ (t ≤ l' → t ≤ l) := fun l s hs => by
    by_cases e : l = t
    · subst e; exact ⟨i, by rw [← h1]; exact hs, fun _ => hti, fun hh => by omega, fun _ => Nat.le_refl _⟩
    · by_cases e2 : l = i
      · subst e2; exact ⟨t, by rw [← h2]; exact hs, fun _ => Nat.le_refl _, fun hh => by omega, fun _ => by omega⟩
      · exact ⟨l, by rw [← h3 l e e2]; exact hs, fun hh => hh, fun _ => rfl, fun hh => hh⟩
  have hP : ∀ (k j : Nat), P[k]? = some j → k < t := fun k j hk => by rw [← h.plen]; exact (List.getElem?_eq_some_iff.1 hk).1
  have hmem : ∀ r ∈ M', r ∈ M := fun r hr => by
    obtain ⟨l, hl⟩ := List.getElem?_of_mem hr
    obtain ⟨l', h', _⟩ := hfrom l r hl
    exact List.mem_of_getElem? h'
  have hmem' : ∀ r ∈ M, r ∈ M' := fun r hr => by
    obtain ⟨l, hl⟩ := List.getElem?_of_mem hr
    by_cases e : l = t
    · subst e; exact List.mem_of_getElem? (h2.trans hl)
    · by_cases e2 : l = i
      · subst e2; exact List.mem_of_getElem? (h1.trans hl)
      · exact List.mem_of_getElem? ((h3 l e e2).trans hl)
  refine ⟨fun r hr => h.ok r (hmem r hr), h.plen, by rw [hl]; exact h.le, h.cn, h.lt, h.incr, fun k j r hk hr => ?_, fun k j r i' hk hr hi' => ?_, fun k j l s hk hs hne => ?_, fun l s i' hl' hs hi' => ?_, fun r hr => Sp.le (fun s hs => Sp.mem (hmem' s hs)) (h.inn r hr), fun r hr => h.out r (hmem r hr)⟩
  · obtain ⟨l', g1, g2, g3, g4⟩ := hfrom k r hr
    have e := g3 (hP k j hk); subst e
    exact h.one l' j r hk g1
  · obtain ⟨l', g1, g2, g3, g4⟩ := hfrom k r hr
    have e := g3 (hP k j hk); subst e
    exact h.before l' j r i' hk g1 hi'
  · obtain ⟨l', g1, g2, g3, g4⟩ := hfrom l s hs
    refine h.other k j l' s hk g1 (fun e => ?_)
    have := hP k j hk
    by_cases hlt : l < t
    · exact hne ((g3 hlt).symm.trans e)
    · have := g2 (by omega); omega
  · obtain ⟨l', g1, g2, g3, g4⟩ := hfrom l s hs
    exact h.below l' s i' (g2 hl') g1 hi'
/-- A column with a leading place: row t made normal, the others less their part of it. -/
theorem RInv.pivot {p : Int} (hp : isP p = true) {n : Nat} {rows M M' : List (List Int)} {t c : Nat} {P : List Nat} (h : RInv p n rows M t c P) (hc : c < n) {r : List Int} (hr : M[t]? = some r) (hne : vat r c ≠ 0) (h1 : M'[t]? = some (normR p r)) (h2 : ∀ (k : Nat) (s : List Int), k ≠ t → M[k]? = some s → M'[k]? = some (if vat s c = 0 then s else less p s (normR p r) (vat s c))) (hl : M'.length = M.length) : RInv p n rows M' (t + 1) (c + 1) (P ++ [c]) := by
  have htl : t < M.length := (List.getElem?_eq_some_iff.1 hr).1
  have hrm : r ∈ M := List.mem_of_getElem? hr
  have hro := h.ok r hrm
  have hld : ldr r = some c := ldr_eq hne (fun i hi => h.below t r i (Nat.le_refl _) hr hi)
  obtain ⟨f1, f2, f3⟩ := normR_facts hp hro hld
  have f4 := normR_vat hp r
  have bok := normR_ok (r := r) hp hro.1
  generalize normR p r = b at *
  have k1 := isP_lo hp
  have hfrom : ∀ (k : Nat) (s' : List Int), k ≠ t → M'[k]? = some s' → ∃ s, M[k]? = some s ∧ okR p n s' ∧ ∀ i, Cg p (vat s' i) (vat s i - vat s c * vat b i) := fun k s' hk hs' => by
    have hkl : k < M.length := by rw [← hl]; exact (List.getElem?_eq_some_iff.1 hs').1
    have hs := List.getElem?_eq_getElem hkl
    have e := h2 k _ hk hs
    rw [hs'] at e
    injection e with e
    refine ⟨_, hs, ?_⟩
    have hso := h.ok _ (List.getElem_mem hkl)
    by_cases hz : vat (M[k]'hkl) c = 0
    · rw [if_pos hz] at e
      rw [e]
      exact ⟨hso, fun i => Cg.of_eq (by rw [hz]; omega)⟩
    · rw [if_neg hz] at e
      rw [e]
      exact ⟨hso.less hp _ _, fun i => less_vat hso.1 bok.1 i⟩
  have hto : ∀ (k : Nat) (s : List Int), k ≠ t → M[k]? = some s → ∃ s' ∈ M', ∀ i, Cg p (vat s' i) (vat s i - vat s c * vat b i) := fun k s hk hs => by
    obtain ⟨s0, g1, _, g3⟩ := hfrom k _ hk (h2 k s hk hs)
    rw [hs] at g1; injection g1 with g1; subst g1
    exact ⟨_, List.mem_of_getElem? (h2 k s hk hs), g3⟩
  have hP : ∀ (k j : Nat), P[k]? = some j → k < t ∧ j < c := fun k j hk => ⟨by rw [← h.plen]; exact (List.getElem?_eq_some_iff.1 hk).1, h.lt j (List.mem_of_getElem? hk)⟩
  have hPn : ∀ (k j : Nat), (P ++ [c])[k]? = some j → P[k]? = some j ∨ (k = t ∧ j = c) := fun k j hk => by
    by_cases hlt : k < P.length
    · rw [List.getElem?_append_left hlt] at hk; exact .inl hk
    · rw [List.getElem?_append_right (by omega)] at hk
      have hk0 : k - P.length = 0 := by
        have := (List.getElem?_eq_some_iff.1 hk).1
        simp at this; omega
      rw [hk0] at hk
      simp at hk
      exact .inr ⟨by rw [← h.plen]; omega, hk.symm⟩
  have hbP : ∀ (k j : Nat), P[k]? = some j → vat b j = 0 := fun k j hk => f2 j (h.other k j t r hk hr (by have := (hP k j hk).1; omega))
  have hbB : ∀ i, i < c → vat b i = 0 := fun i hi => f2 i (h.below t r i (Nat.le_refl _) hr hi)
  have hbm : b ∈ M' := List.mem_of_getElem? h1
  refine ⟨fun s hs => ?_, by simp [h.plen], by rw [hl]; exact htl, hc, fun j hj => ?_, ?_, fun k j s hk hs => ?_, fun k j s i hk hs hi => ?_, fun k j l s hk hs hlk => ?_, fun l s i hle hs hi => ?_, fun s hs => ?_, fun s hs => ?_⟩
  · obtain ⟨l, hls⟩ := List.getElem?_of_mem hs
    by_cases e : l = t
    · subst e; rw [h1] at hls; injection hls with hls; subst hls; exact bok
    · obtain ⟨_, _, g, _⟩ := hfrom l s e hls; exact g
  · rcases List.mem_append.1 hj with hj | hj
    · have := h.lt j hj; omega
    · simp at hj; omega
  · rw [List.pairwise_append]
    refine ⟨h.incr, by simp, fun a ha b' hb' => ?_⟩
    simp at hb'; subst hb'; exact h.lt a ha
  · rcases hPn k j hk with hk | ⟨rfl, rfl⟩
    · obtain ⟨s0, g1, g2, g3⟩ := hfrom k s (by have := (hP k j hk).1; omega) hs
      have e := g3 j
      rw [h.one k j s0 hk g1, hbP k j hk] at e
      obtain ⟨a, b'⟩ := vat_rng hp g2 j
      have e2 := (e.trans (Cg.of_eq (show (1 - vat s0 c * 0 : Int) = 1 by omega))).em
      rw [Int.emod_eq_of_lt a b', Int.emod_eq_of_lt (by omega) (by omega)] at e2
      exact e2
    · rw [h1] at hs; injection hs with hs; subst hs; exact f1
  · rcases hPn k j hk with hk | ⟨rfl, rfl⟩
    · obtain ⟨s0, g1, g2, g3⟩ := hfrom k s (by have := (hP k j hk).1; omega) hs
      refine vat_zero hp g2 ((g3 i).trans (Cg.of_eq ?_))
      rw [h.before k j s0 i hk g1 hi, hbB i (by have := (hP k j hk).2; omega)]; omega
    · rw [h1] at hs; injection hs with hs; subst hs; exact hbB i hi
  · rcases hPn k j hk with hk | ⟨rfl, rfl⟩
    · by_cases e : l = t
      · subst e; rw [h1] at hs; injection hs with hs; subst hs; exact hbP k j hk
      · obtain ⟨s0, g1, g2, g3⟩ := hfrom l s e hs
        refine vat_zero hp g2 ((g3 j).trans (Cg.of_eq ?_))
        rw [h.other k j l s0 hk g1 hlk, hbP k j hk]; omega
    · obtain ⟨s0, g1, g2, g3⟩ := hfrom l s hlk hs
      refine vat_zero hp g2 ((g3 j).trans (Cg.of_eq ?_))
      rw [f1]; omega
  · obtain ⟨s0, g1, g2, g3⟩ := hfrom l s (by omega) hs
    refine vat_zero hp g2 ((g3 i).trans (Cg.of_eq ?_))
    by_cases e : i = c
    · subst e; rw [f1]; omega
    · rw [h.below l s0 i (by omega) g1 (by omega), hbB i (by omega)]; omega
  · refine Sp.le (fun u hu => ?_) (h.inn s hs)
    obtain ⟨l, hlu⟩ := List.getElem?_of_mem hu
    by_cases e : l = t
    · subst e; rw [hr] at hlu; injection hlu with hlu; subst hlu
      exact ((Sp.mem hbm).smul (vat r c)).cg f3
    · obtain ⟨s', g1, g2⟩ := hto l u e hlu
      refine ((Sp.mem g1).add ((Sp.mem hbm).smul (vat u c))).cg (fun i => ?_)
      exact (Cg.of_eq (by omega)).trans ((g2 i).symm.add (Cg.refl p (vat u c * vat b i)))
  · have hb : Sp p rows (vat b) := ((h.out r hrm).smul (fac p r)).cg f4
    obtain ⟨l, hls⟩ := List.getElem?_of_mem hs
    by_cases e : l = t
    · subst e; rw [h1] at hls; injection hls with hls; subst hls; exact hb
    · obtain ⟨s0, g1, g2, g3⟩ := hfrom l s e hls
      refine ((h.out s0 (List.mem_of_getElem? g1)).add (hb.smul (-(vat s0 c)))).cg (fun i => (g3 i).trans (Cg.of_eq ?_))
      rw [Int.neg_mul]; omega
/-- The first t rows are the reference's list. -/
theorem RInv.fin {p : Int} (hp : isP p = true) {n : Nat} {rows M : List (List Int)} {t c : Nat} {P : List Nat} (h : RInv p n rows M t c P) (hrows : ∀ r ∈ rows, okR p n r) (he : t = M.length ∨ c = n) : M.take t = ech p rows := by
  obtain ⟨Z, z1, z2, z3, z4⟩ := ech_ok hp hrows
  have hR := z1.rref
  rw [z2] at hR
  have htk : ∀ (k : Nat) (r : List Int), (M.take t)[k]? = some r → k < t ∧ M[k]? = some r := fun k r hk => by
    have : k < t := by
      have := (List.getElem?_eq_some_iff.1 hk).1
      rw [List.length_take] at this; omega
    rw [List.getElem?_take_of_lt this] at hk
    exact ⟨this, hk⟩
  have hL : Rref p n (M.take t) P := by
    refine ⟨by rw [h.plen, List.length_take]; have := h.le; omega, fun r hr => h.ok r (List.mem_of_mem_take hr), fun k j hk => ?_, fun k j r hk hr => h.one k j r hk (htk k r hr).2, fun k j r i hk hr hi => h.before k j r i hk (htk k r hr).2 hi, fun k j l s hk hs hne => h.other k j l s hk (htk l s hs).2 hne, h.incr⟩
    have := h.lt j (List.mem_of_getElem? hk); have := h.cn; omega
  have hsp : ∀ r ∈ M, Sp p (M.take t) (vat r) := fun r hr => by
    obtain ⟨l, hlr⟩ := List.getElem?_of_mem hr
    by_cases hlt : l < t
    · exact Sp.mem (List.mem_of_getElem? (by rw [List.getElem?_take_of_lt hlt]; exact hlr))
    · have hll := (List.getElem?_eq_some_iff.1 hlr).1
      rcases he with he | he
      · omega
      · refine (Sp.zero p _).cg (fun i => Cg.of_eq ?_)
        by_cases hi : i < c
        · exact h.below l r i (by omega) hlr hi
        · exact vat_out (by rw [(h.ok r hr).1]; omega)
  refine hL.uniq hp hR (fun r hr => Sp.le z3 (h.out r (List.mem_of_mem_take hr))) (fun r hr => Sp.le hsp (Sp.le h.inn (z4 r hr)))
end Go.Proofs.Ytjfabhkgmelmgaa
