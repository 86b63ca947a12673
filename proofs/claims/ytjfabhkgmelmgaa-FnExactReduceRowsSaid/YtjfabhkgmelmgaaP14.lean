/- The reference's reduced list: rows put in one by one; it keeps the span and the reduced form; no program in sight. -/
import Derived.Test.YtjfabhkgmelmgaaP13
import Derived.Test.YtjfabhkgmelmgaaP7
namespace Go.Proofs.Ytjfabhkgmelmgaa
set_option linter.unusedSimpArgs false
set_option linter.unusedVariables false

/-- The place of the first number other than 0. -/
def ldr : List Int → Option Nat
  | [] => none
  | x :: xs => if x = 0 then (ldr xs).map (· + 1) else some 0
/-- A row less k times another one. -/
def less (p : Int) (a b : List Int) (k : Int) : List Int := (List.range a.length).map fun i => (vat a i - k * vat b i) % p
theorem less_len (p : Int) (a b : List Int) (k : Int) : (less p a b k).length = a.length := by unfold less; simp
theorem less_vat {p : Int} {a b : List Int} {k : Int} {n : Nat} (ha : a.length = n) (hb : b.length = n) (i : Nat) : Cg p (vat (less p a b k) i) (vat a i - k * vat b i) := by
  by_cases hi : i < n
  · unfold less
    have : vat ((List.range a.length).map fun i => (vat a i - k * vat b i) % p) i = (vat a i - k * vat b i) % p := by
      show List.getD _ _ _ = _
      rw [List.getD_eq_getElem?_getD, List.getElem?_map, List.getElem?_range (by omega)]; rfl
    rw [this]
    exact Cg.mod p _
  · rw [vat_out (by rw [less_len]; omega), vat_out (r := a) (by omega), vat_out (r := b) (by omega)]
    exact Cg.of_eq (by omega)
theorem less_rng {p : Int} (hp : isP p = true) (a b : List Int) (k : Int) : ∀ x ∈ less p a b k, 0 ≤ x ∧ x < p := by
  have := isP_lo hp
  intro x hx
  unfold less at hx
  rw [List.mem_map] at hx
  obtain ⟨i, _, rfl⟩ := hx
  exact ⟨Int.emod_nonneg _ (by omega), Int.emod_lt_of_pos _ (by omega)⟩
theorem ldr_some : ∀ {r : List Int} {j : Nat}, ldr r = some j → j < r.length ∧ vat r j ≠ 0 ∧ ∀ i, i < j → vat r i = 0
  | x :: xs, j, h => by
    unfold ldr at h
    by_cases hx : x = 0
    · rw [if_pos hx, Option.map_eq_some_iff] at h
      obtain ⟨k, hk, rfl⟩ := h
      obtain ⟨h1, h2, h3⟩ := ldr_some hk
      refine ⟨by simp; omega, by simpa [vat] using h2, fun i hi => ?_⟩
      cases i with
      | zero => simpa [vat] using hx
      | succ i => have := h3 i (by omega); simpa [vat] using this
    · rw [if_neg hx] at h
      injection h with h
      subst h
      exact ⟨by simp, by simpa [vat] using hx, fun i hi => by omega⟩
theorem ldr_none : ∀ {r : List Int}, ldr r = none → ∀ i, vat r i = 0
  | [], _, i => by simp [vat]
  | x :: xs, h, i => by
    unfold ldr at h
    by_cases hx : x = 0
    · rw [if_pos hx] at h
      have h' : ldr xs = none := by cases hl : ldr xs with | none => rfl | some k => rw [hl] at h; cases h
      cases i with
      | zero => simpa [vat] using hx
      | succ i => have := ldr_none h' i; simpa [vat] using this
    · rw [if_neg hx] at h; cases h
theorem ldr_eq {r : List Int} {j : Nat} (h1 : vat r j ≠ 0) (h2 : ∀ i, i < j → vat r i = 0) : ldr r = some j := by
  cases h : ldr r with
  | none => exact absurd (ldr_none h j) h1
  | some k =>
    obtain ⟨a, b, c⟩ := ldr_some h
    rcases Nat.lt_trichotomy j k with hlt | heq | hgt
    · exact absurd (c j hlt) h1
    · rw [heq]
    · exact absurd (h2 k hgt) b
theorem Rref.ldr {p : Int} {n : Nat} {R : List (List Int)} {P : List Nat} (h : Rref p n R P) {k j : Nat} {r : List Int} (hk : P[k]? = some j) (hr : R[k]? = some r) : ldr r = some j :=
  ldr_eq (by rw [h.one k j r hk hr]; decide) (fun i hi => h.before k j r i hk hr hi)
/-- A row less its parts along the others. -/
def subAll (p : Int) (own : List Int) : List (List Int) → List Int
  | [] => own
  | s :: S => subAll p (less p own s (vat own ((ldr s).getD 0))) S
/-- A row is good: n reduced numbers. -/
def okR (p : Int) (n : Nat) (r : List Int) : Prop := r.length = n ∧ ∀ x ∈ r, 0 ≤ x ∧ x < p
theorem okR.less {p : Int} (hp : isP p = true) {n : Nat} {a : List Int} (b : List Int) (k : Int) (h : okR p n a) : okR p n (less p a b k) := ⟨by rw [less_len]; exact h.1, less_rng hp a b k⟩
theorem vat_rng {p : Int} (hp : isP p = true) {n : Nat} {r : List Int} (h : okR p n r) (i : Nat) : 0 ≤ vat r i ∧ vat r i < p := by
  by_cases hi : i < r.length
  · have e : vat r i = r[i]'hi := by unfold vat; rw [List.getD_eq_getElem?_getD, List.getElem?_eq_getElem hi]; rfl
    rw [e]; exact h.2 _ (List.getElem_mem hi)
  · rw [vat_out (by omega)]
    have := isP_lo hp
    omega
theorem vat_zero {p : Int} (hp : isP p = true) {n : Nat} {r : List Int} (h : okR p n r) {i : Nat} (h0 : Cg p (vat r i) 0) : vat r i = 0 := by
  obtain ⟨a, b⟩ := vat_rng hp h i
  have := h0.em
  rwa [Int.emod_eq_of_lt a b, Int.zero_emod] at this
theorem subAll_ok {p : Int} (hp : isP p = true) {n : Nat} : ∀ (S : List (List Int)) {own : List Int}, okR p n own → okR p n (subAll p own S)
  | [], _, h => h
  | s :: S, _, h => subAll_ok hp S (h.less hp s _)
/-- Where all rows that are taken off are 0, nothing changes. -/
theorem subAll_at {p : Int} (hp : isP p = true) {n : Nat} : ∀ (S : List (List Int)) {own : List Int} {j : Nat}, okR p n own → (∀ s ∈ S, s.length = n) → (∀ s ∈ S, vat s j = 0) → Cg p (vat (subAll p own S) j) (vat own j)
  | [], own, j, _, _, _ => Cg.refl p _
  | s :: S, own, j, h, hl, h0 => by
    refine (subAll_at hp S (h.less hp s _) (fun t ht => hl t (by simp [ht])) (fun t ht => h0 t (by simp [ht]))).trans ?_
    refine (less_vat h.1 (hl s (by simp)) j).trans ?_
    rw [h0 s (by simp)]
    exact Cg.of_eq (by omega)
/-- What is left differs by a combination of the rows. -/
theorem subAll_sp {p : Int} (hp : isP p = true) {n : Nat} : ∀ (S : List (List Int)) {own : List Int}, okR p n own → (∀ s ∈ S, s.length = n) → Sp p S (fun i => vat own i - vat (subAll p own S) i)
  | [], own, _, _ => (Sp.zero p []).cg (fun i => Cg.of_eq (by simp only [subAll]; omega))
  | s :: S, own, h, hl => by
    have ih := (subAll_sp hp S (h.less hp s (vat own ((ldr s).getD 0))) (fun t ht => hl t (by simp [ht]))).tail (r := s)
    have h1 := (Sp.head p s S).smul (vat own ((ldr s).getD 0))
    refine (h1.add ih).cg (fun i => ?_)
    have h2 := less_vat (p := p) (k := vat own ((ldr s).getD 0)) h.1 (hl s (by simp)) i
    simp only [subAll]
    refine (Cg.of_eq ?_).trans ((Cg.refl p (vat own ((ldr s).getD 0) * vat s i)).add (h2.symm.sub (Cg.refl p _)))
    omega
/-- Rows of which each has its own leading place. -/
def Led (S : List (List Int)) : Prop := ∀ (k : Nat) (s : List Int), S[k]? = some s → ∃ j, ldr s = some j ∧ vat s j = 1 ∧ ∀ (l : Nat) (t : List Int), S[l]? = some t → l ≠ k → vat t j = 0
theorem Led.tail {s : List Int} {S : List (List Int)} (h : Led (s :: S)) : Led S := fun k t hk => by
  obtain ⟨j, h1, h2, h3⟩ := h (k + 1) t (by simpa using hk)
  exact ⟨j, h1, h2, fun l u hl hne => h3 (l + 1) u (by simpa using hl) (by omega)⟩
theorem Rref.led {p : Int} {n : Nat} {R : List (List Int)} {P : List Nat} (h : Rref p n R P) : Led R := fun k s hk => by
  have hl : k < P.length := by rw [h.len]; exact (List.getElem?_eq_some_iff.1 hk).1
  have hP := List.getElem?_eq_getElem hl
  exact ⟨_, h.ldr hP hk, h.one k _ s hP hk, fun l t ht hne => h.other k _ l t hP ht hne⟩
theorem subAll_zero {p : Int} (hp : isP p = true) {n : Nat} : ∀ (S : List (List Int)) {own : List Int}, okR p n own → (∀ s ∈ S, s.length = n) → Led S → ∀ (k j : Nat) (s : List Int), S[k]? = some s → ldr s = some j → Cg p (vat (subAll p own S) j) 0
  | s :: S, own, h, hl, hS, 0, j, s', hk, hj => by
    simp at hk
    subst hk
    obtain ⟨j', h1, h2, h3⟩ := hS 0 s rfl
    rw [hj] at h1
    injection h1 with h1
    subst h1
    simp only [subAll]
    rw [hj]
    refine (subAll_at hp S (h.less hp s _) (fun t ht => hl t (by simp [ht])) (fun t ht => ?_)).trans ?_
    · obtain ⟨l, hl'⟩ := List.getElem?_of_mem ht
      exact h3 (l + 1) t (by simpa using hl') (by omega)
    · refine (less_vat h.1 (hl s (by simp)) j).trans (Cg.of_eq ?_)
      rw [h2]
      show vat own j - vat own j * 1 = 0
      omega
  | s :: S, own, h, hl, hS, k + 1, j, s', hk, hj => by
    simp only [subAll]
    exact subAll_zero hp S (h.less hp s _) (fun t ht => hl t (by simp [ht])) hS.tail k j s' (by simpa using hk) hj
/-- Rows in the reduced form, each with its leading place. -/
structure RrefZ (p : Int) (n : Nat) (Z : List (Nat × List Int)) : Prop where
  ok : ∀ z ∈ Z, okR p n z.2 ∧ z.1 < n ∧ vat z.2 z.1 = 1 ∧ ∀ i, i < z.1 → vat z.2 i = 0
  other : ∀ z ∈ Z, ∀ y ∈ Z, z.1 ≠ y.1 → vat y.2 z.1 = 0
  incr : Z.Pairwise (fun a b => a.1 < b.1)
theorem RrefZ.ldr {p : Int} {n : Nat} {Z : List (Nat × List Int)} (h : RrefZ p n Z) : ∀ z ∈ Z, ldr z.2 = some z.1 := fun z hz => by
  obtain ⟨_, _, h1, h2⟩ := h.ok z hz
  exact ldr_eq (by rw [h1]; decide) h2
theorem RrefZ.rref {p : Int} {n : Nat} {Z : List (Nat × List Int)} (h : RrefZ p n Z) : Rref p n (Z.map Prod.snd) (Z.map Prod.fst) := by
  have get : ∀ {k : Nat} {j : Nat}, (Z.map Prod.fst)[k]? = some j → ∃ z ∈ Z, Z[k]? = some z ∧ z.1 = j := fun hk => by
    rw [List.getElem?_map, Option.map_eq_some_iff] at hk
    obtain ⟨z, h1, h2⟩ := hk
    exact ⟨z, List.mem_of_getElem? h1, h1, h2⟩
  have get2 : ∀ {k : Nat} {r : List Int}, (Z.map Prod.snd)[k]? = some r → ∃ z ∈ Z, Z[k]? = some z ∧ z.2 = r := fun hk => by
    rw [List.getElem?_map, Option.map_eq_some_iff] at hk
    obtain ⟨z, h1, h2⟩ := hk
    exact ⟨z, List.mem_of_getElem? h1, h1, h2⟩
  refine ⟨by simp, ?_, ?_, ?_, ?_, ?_, ?_⟩
  · intro r hr
    rw [List.mem_map] at hr
    obtain ⟨z, hz, rfl⟩ := hr
    exact (h.ok z hz).1
  · intro k j hk
    obtain ⟨z, hz, _, rfl⟩ := get hk
    exact (h.ok z hz).2.1
  · intro k j r hk hr
    obtain ⟨z, hz, h1, rfl⟩ := get hk
    obtain ⟨y, hy, h2, rfl⟩ := get2 hr
    rw [h1] at h2; injection h2 with h2; subst h2
    exact (h.ok z hz).2.2.1
  · intro k j r i hk hr hi
    obtain ⟨z, hz, h1, rfl⟩ := get hk
    obtain ⟨y, hy, h2, rfl⟩ := get2 hr
    rw [h1] at h2; injection h2 with h2; subst h2
    exact (h.ok z hz).2.2.2 i hi
  · intro k j l s hk hs hne
    obtain ⟨z, hz, h1, rfl⟩ := get hk
    obtain ⟨y, hy, h2, rfl⟩ := get2 hs
    refine h.other z hz y hy ?_
    have hp := List.pairwise_iff_getElem.1 h.incr
    obtain ⟨hk', e1⟩ := List.getElem?_eq_some_iff.1 h1
    obtain ⟨hl', e2⟩ := List.getElem?_eq_some_iff.1 h2
    rcases Nat.lt_or_gt_of_ne hne with hlt | hgt
    · have := hp l k hl' hk' hlt; rw [e1, e2] at this; omega
    · have := hp k l hk' hl' hgt; rw [e1, e2] at this; omega
  · rw [List.pairwise_map]; exact h.incr
def updZ (p : Int) (own : List Int) (q : Nat) (z : Nat × List Int) : Nat × List Int := (z.1, less p z.2 own (vat z.2 q))
def insZ (p : Int) (own : List Int) (q : Nat) : List (Nat × List Int) → List (Nat × List Int)
  | [] => [(q, own)]
  | z :: Z => if q < z.1 then (q, own) :: (z :: Z).map (updZ p own q) else updZ p own q z :: insZ p own q Z
/-- The same on the rows alone, as the reference does it. -/
def insR (p : Int) (own : List Int) (q : Nat) : List (List Int) → List (List Int)
  | [] => [own]
  | s :: S => if q < (ldr s).getD 0 then own :: (s :: S).map (fun r => less p r own (vat r q)) else less p s own (vat s q) :: insR p own q S
theorem insZ_snd {p : Int} {own : List Int} {q : Nat} : ∀ {Z : List (Nat × List Int)}, (∀ z ∈ Z, ldr z.2 = some z.1) → (insZ p own q Z).map Prod.snd = insR p own q (Z.map Prod.snd)
  | [], _ => rfl
  | z :: Z, h => by
    simp only [insZ, List.map_cons, insR]
    rw [h z (by simp)]
    show List.map Prod.snd (if q < z.1 then _ else _) = if q < z.1 then _ else _
    by_cases hq : q < z.1
    · rw [if_pos hq, if_pos hq]
      simp [updZ, Function.comp_def]
    · rw [if_neg hq, if_neg hq]
      have ih := insZ_snd (p := p) (own := own) (q := q) (Z := Z) (fun y hy => h y (List.mem_cons_of_mem _ hy))
      rw [List.map_cons, ih]
      rfl
theorem insZ_mem {p : Int} {own : List Int} {q : Nat} : ∀ {Z : List (Nat × List Int)} {x : Nat × List Int}, x ∈ insZ p own q Z ↔ x = (q, own) ∨ ∃ z ∈ Z, x = updZ p own q z
  | [], x => by simp [insZ]
  | z :: Z, x => by
    simp only [insZ]
    by_cases hq : q < z.1
    · rw [if_pos hq]
      simp only [List.map_cons, List.mem_cons, List.mem_map]
      constructor
      · rintro (h | h | ⟨y, hy, rfl⟩)
        · exact .inl h
        · exact .inr ⟨z, .inl rfl, h⟩
        · exact .inr ⟨y, .inr hy, rfl⟩
      · rintro (h | ⟨y, rfl | hy, rfl⟩)
        · exact .inl h
        · exact .inr (.inl rfl)
        · exact .inr (.inr ⟨y, hy, rfl⟩)
    · rw [if_neg hq]
      simp only [List.mem_cons, insZ_mem]
      constructor
      · rintro (h | h | ⟨y, hy, rfl⟩)
        · exact .inr ⟨z, .inl rfl, h⟩
        · exact .inl h
        · exact .inr ⟨y, .inr hy, rfl⟩
      · rintro (h | ⟨y, rfl | hy, rfl⟩)
        · exact .inr (.inl h)
        · exact .inl rfl
        · exact .inr (.inr ⟨y, hy, rfl⟩)
theorem insZ_incr {p : Int} {own : List Int} {q : Nat} : ∀ {Z : List (Nat × List Int)}, Z.Pairwise (fun a b => a.1 < b.1) → (∀ z ∈ Z, z.1 ≠ q) → (insZ p own q Z).Pairwise (fun a b => a.1 < b.1)
  | [], _, _ => by simp [insZ]
  | z :: Z, h, hq => by
    rw [List.pairwise_cons] at h
    simp only [insZ]
    by_cases hlt : q < z.1
    · rw [if_pos hlt, List.pairwise_cons]
      refine ⟨fun y hy => ?_, ?_⟩
      · rw [List.mem_map] at hy
        obtain ⟨x, hx, rfl⟩ := hy
        show q < x.1
        rcases List.mem_cons.1 hx with rfl | hx
        · exact hlt
        · have := h.1 x hx; omega
      · rw [List.pairwise_map]
        exact List.pairwise_cons.2 ⟨h.1, h.2⟩
    · rw [if_neg hlt, List.pairwise_cons]
      refine ⟨fun y hy => ?_, insZ_incr h.2 (fun x hx => hq x (by simp [hx]))⟩
      have hne := hq z (by simp)
      rcases insZ_mem.1 hy with rfl | ⟨x, hx, rfl⟩
      · show z.1 < q; omega
      · exact h.1 x hx
/-- Putting in a row that is 0 at the other leading places keeps the form. -/
theorem insZ_rref {p : Int} (hp : isP p = true) {n : Nat} {Z : List (Nat × List Int)} (h : RrefZ p n Z) {own : List Int} {q : Nat} (ho : okR p n own) (hq : q < n) (h1 : vat own q = 1) (hb : ∀ i, i < q → vat own i = 0) (hz : ∀ z ∈ Z, vat own z.1 = 0) : RrefZ p n (insZ p own q Z) := by
  have hne : ∀ z ∈ Z, z.1 ≠ q := fun z hm e => by
    have := hz z hm
    rw [e, h1] at this
    cases this
  have upd : ∀ z ∈ Z, ∀ i, Cg p (vat (updZ p own q z).2 i) (vat z.2 i - vat z.2 q * vat own i) := fun z hm i => less_vat (h.ok z hm).1.1 ho.1 i
  have uok : ∀ z ∈ Z, okR p n (updZ p own q z).2 := fun z hm => (h.ok z hm).1.less hp own _
  have uz : ∀ z ∈ Z, ∀ i, vat z.2 i - vat z.2 q * vat own i = 0 → vat (updZ p own q z).2 i = 0 := fun z hm i e => vat_zero hp (uok z hm) ((upd z hm i).trans (Cg.of_eq e))
  refine ⟨fun x hx => ?_, fun x hx y hy hxy => ?_, insZ_incr h.incr hne⟩
  · rcases insZ_mem.1 hx with rfl | ⟨z, hm, rfl⟩
    · exact ⟨ho, hq, h1, hb⟩
    · obtain ⟨o1, o2, o3, o4⟩ := h.ok z hm
      refine ⟨uok z hm, o2, ?_, fun i hi => uz z hm i ?_⟩
      · have e := upd z hm z.1
        rw [o3, hz z hm] at e
        obtain ⟨a, b⟩ := vat_rng hp (uok z hm) z.1
        have k1 := isP_lo hp
        have := e.em
        rw [Int.emod_eq_of_lt a b] at this
        show vat (updZ p own q z).2 z.1 = 1
        rw [this]
        have : (1 - vat z.2 q * 0) = (1 : Int) := by omega
        rw [this]
        exact Int.emod_eq_of_lt (by omega) (by omega)
      · have hi' : i < z.1 := hi
        rw [o4 i hi']
        by_cases hqz : q < z.1
        · rw [o4 q hqz]; omega
        · rw [hb i (by have := hne z hm; omega)]; omega
  · rcases insZ_mem.1 hx with rfl | ⟨z, hm, rfl⟩
    · rcases insZ_mem.1 hy with rfl | ⟨u, hu, rfl⟩
      · exact absurd rfl hxy
      · refine uz u hu q ?_
        rw [h1]; omega
    · rcases insZ_mem.1 hy with rfl | ⟨u, hu, rfl⟩
      · exact hz z hm
      · refine uz u hu z.1 ?_
        rw [h.other z hm u hu hxy, hz z hm]; omega
theorem fac_ldr {p : Int} : ∀ {r : List Int} {q : Nat}, (∀ x ∈ r, 0 ≤ x ∧ x < p) → ldr r = some q → fac p r = inv p (vat r q)
  | x :: xs, q, h, hq => by
    obtain ⟨a, b⟩ := h x (by simp)
    unfold ldr at hq
    simp only [fac]
    rw [Int.emod_eq_of_lt a b]
    by_cases hx : x = 0
    · rw [if_pos hx, Option.map_eq_some_iff] at hq
      obtain ⟨k, hk, rfl⟩ := hq
      rw [if_pos hx, fac_ldr (fun y hy => h y (by simp [hy])) hk]
      simp [vat]
    · rw [if_neg hx] at hq
      injection hq with hq
      subst hq
      rw [if_neg hx]
      simp [vat]
def normR (p : Int) (r : List Int) : List Int := r.map (nr p (fac p r))
theorem normR_vat {p : Int} (hp : isP p = true) (r : List Int) (i : Nat) : Cg p (vat (normR p r) i) (fac p r * vat r i) := by
  by_cases hi : i < r.length
  · have e : vat (normR p r) i = nr p (fac p r) (vat r i) := by
      unfold vat normR
      rw [List.getD_eq_getElem?_getD, List.getD_eq_getElem?_getD, List.getElem?_map, List.getElem?_eq_getElem hi]; rfl
    rw [e]; exact nr_cg p _ _
  · rw [vat_out (by unfold normR; simp; omega), vat_out (r := r) (by omega)]
    exact Cg.of_eq (by omega)
theorem normR_ok {p : Int} (hp : isP p = true) {n : Nat} {r : List Int} (h : r.length = n) : okR p n (normR p r) := by
  refine ⟨by unfold normR; simpa using h, fun x hx => ?_⟩
  unfold normR at hx
  rw [List.mem_map] at hx
  obtain ⟨y, _, rfl⟩ := hx
  have := nr_lo hp (fac p r) y
  have := nr_hi hp (fac p r) y
  omega
theorem nd_of {p x : Int} (h : 0 ≤ x ∧ x < p) (h0 : x ≠ 0) : ¬ p ∣ x := fun hd => by
  have := Int.le_of_dvd (by omega) hd
  omega
/-- A row made normal: 1 at its leading place, 0 where it was 0. -/
theorem normR_facts {p : Int} (hp : isP p = true) {n : Nat} {r : List Int} {q : Nat} (h : okR p n r) (hq : ldr r = some q) :
    vat (normR p r) q = 1 ∧ (∀ i, vat r i = 0 → vat (normR p r) i = 0) ∧ ∀ i, Cg p (vat r i) (vat r q * vat (normR p r) i) := by
  obtain ⟨hl, hne, _⟩ := ldr_some hq
  have hf := fac_ldr h.2 hq
  have hok := normR_ok (r := r) hp h.1
  have hnd := nd_of (vat_rng hp h q) hne
  have hin := Cg.inv hp hnd
  refine ⟨?_, fun i h0 => ?_, fun i => ?_⟩
  · have e := normR_vat hp r q
    rw [hf] at e
    have e2 := (e.trans ((Cg.of_eq (Int.mul_comm _ _)).trans hin)).em
    obtain ⟨a, b⟩ := vat_rng hp hok q
    have := isP_lo hp
    rw [Int.emod_eq_of_lt a b, Int.emod_eq_of_lt (by omega) (by omega)] at e2
    exact e2
  · have e := normR_vat hp r i
    rw [h0] at e
    exact vat_zero hp hok (e.trans (Cg.of_eq (by omega)))
  · have e := (normR_vat hp r i).mulL (vat r q)
    rw [hf] at e
    refine (e.trans ((Cg.of_eq (show vat r q * (inv p (vat r q) * vat r i) = vat r q * inv p (vat r q) * vat r i by rw [Int.mul_assoc])).trans ((hin.mulR (vat r i)).trans (Cg.of_eq (by omega))))).symm
/-- One row more. -/
def echStep (p : Int) (out : List (List Int)) (row : List Int) : List (List Int) :=
  match ldr (subAll p row out) with
  | none => out
  | some q => insR p (normR p (subAll p row out)) q out
def ech (p : Int) (rows : List (List Int)) : List (List Int) := rows.foldl (echStep p) []
theorem echStep_ok {p : Int} (hp : isP p = true) {n : Nat} {Z : List (Nat × List Int)} (h : RrefZ p n Z) {row : List Int} (hr : okR p n row) :
    ∃ Z', RrefZ p n Z' ∧ Z'.map Prod.snd = echStep p (Z.map Prod.snd) row ∧ (∀ r ∈ Z.map Prod.snd, Sp p (Z'.map Prod.snd) (vat r)) ∧ Sp p (Z'.map Prod.snd) (vat row) ∧ ∀ r ∈ Z'.map Prod.snd, Sp p (row :: Z.map Prod.snd) (vat r) := by
  have hR := h.rref
  have hlen : ∀ s ∈ Z.map Prod.snd, s.length = n := fun s hs => (hR.rows s hs).1
  have hok := subAll_ok hp (Z.map Prod.snd) hr
  have hsp := subAll_sp hp (Z.map Prod.snd) hr hlen
  have hz : ∀ z ∈ Z, Cg p (vat (subAll p row (Z.map Prod.snd)) z.1) 0 := fun z hm => by
    obtain ⟨k, hk⟩ := List.getElem?_of_mem hm
    exact subAll_zero hp _ hr hlen hR.led k z.1 z.2 (by rw [List.getElem?_map, hk]; rfl) (h.ldr z hm)
  unfold echStep
  generalize subAll p row (Z.map Prod.snd) = own at *
  cases hq : ldr own with
  | none =>
    refine ⟨Z, h, rfl, fun r hr => Sp.mem hr, hsp.cg (fun i => ?_), fun r hr => (Sp.mem hr).tail⟩
    rw [ldr_none hq i]
    exact Cg.of_eq (by omega)
  | some q =>
    obtain ⟨hql, hqn, hqb⟩ := ldr_some hq
    obtain ⟨f1, f2, f3⟩ := normR_facts hp hok hq
    have f4 := normR_vat hp own
    have hok2 := normR_ok (r := own) hp hok.1
    have hZ' := insZ_rref hp h hok2 (by rw [← hok.1]; exact hql) f1 (fun i hi => f2 i (hqb i hi)) (fun z hm => f2 _ (vat_zero hp hok (hz z hm)))
    generalize normR p own = o2 at *
    have hm0 : o2 ∈ (insZ p o2 q Z).map Prod.snd := List.mem_map.2 ⟨(q, o2), insZ_mem.2 (.inl rfl), rfl⟩
    have hup : ∀ z ∈ Z, ∀ i, Cg p (vat (updZ p o2 q z).2 i) (vat z.2 i - vat z.2 q * vat o2 i) := fun z hm i => less_vat (h.ok z hm).1.1 hok2.1 i
    have hin : ∀ r ∈ Z.map Prod.snd, Sp p ((insZ p o2 q Z).map Prod.snd) (vat r) := fun r hr => by
      rw [List.mem_map] at hr
      obtain ⟨z, hm, rfl⟩ := hr
      have hmu : (updZ p o2 q z).2 ∈ (insZ p o2 q Z).map Prod.snd := List.mem_map.2 ⟨_, insZ_mem.2 (.inr ⟨z, hm, rfl⟩), rfl⟩
      refine ((Sp.mem hmu).add ((Sp.mem hm0).smul (vat z.2 q))).cg (fun i => ?_)
      exact (Cg.of_eq (by omega)).trans ((hup z hm i).symm.add (Cg.refl p (vat z.2 q * vat o2 i)))
    have hrow : Sp p (row :: Z.map Prod.snd) (vat o2) := by
      have hown : Sp p (row :: Z.map Prod.snd) (vat own) := ((Sp.head p row _).add (hsp.tail.smul (-1))).cg (fun i => Cg.of_eq (by omega))
      exact (hown.smul (fac p own)).cg f4
    refine ⟨insZ p o2 q Z, hZ', insZ_snd h.ldr, hin, ?_, fun r hr => ?_⟩
    · refine ((Sp.le hin hsp).add ((Sp.mem hm0).smul (vat own q))).cg (fun i => ?_)
      exact (Cg.of_eq (by omega)).trans ((Cg.refl p (vat row i - vat own i)).add (f3 i))
    · rw [List.mem_map] at hr
      obtain ⟨x, hx, rfl⟩ := hr
      rcases insZ_mem.1 hx with rfl | ⟨z, hm, rfl⟩
      · exact hrow
      · refine (((Sp.mem (List.mem_map.2 ⟨z, hm, rfl⟩)).tail).add (hrow.smul (-(vat z.2 q)))).cg (fun i => (hup z hm i).trans (Cg.of_eq ?_))
        rw [Int.neg_mul]; omega
/-- The reference's list is in the reduced form and has the rows' span. -/
theorem ech_ok {p : Int} (hp : isP p = true) {n : Nat} {rows : List (List Int)} (h : ∀ r ∈ rows, okR p n r) :
    ∃ Z, RrefZ p n Z ∧ Z.map Prod.snd = ech p rows ∧ (∀ r ∈ rows, Sp p (ech p rows) (vat r)) ∧ ∀ r ∈ ech p rows, Sp p rows (vat r) := by
  have go : ∀ (rest done : List (List Int)) (Z : List (Nat × List Int)), (∀ r ∈ rest, okR p n r) → RrefZ p n Z → (∀ r ∈ done, Sp p (Z.map Prod.snd) (vat r)) → (∀ r ∈ Z.map Prod.snd, Sp p (done ++ rest) (vat r)) → (∀ r ∈ done, r ∈ done ++ rest) →
      ∃ Z', RrefZ p n Z' ∧ Z'.map Prod.snd = rest.foldl (echStep p) (Z.map Prod.snd) ∧ (∀ r ∈ done ++ rest, Sp p (Z'.map Prod.snd) (vat r)) ∧ ∀ r ∈ Z'.map Prod.snd, Sp p (done ++ rest) (vat r) := by
    intro rest
    induction rest with
    | nil => intro done Z _ hZ h1 h2 _; exact ⟨Z, hZ, rfl, by simpa using h1, h2⟩
    | cons r rest ih =>
      intro done Z hr hZ h1 h2 _
      obtain ⟨Z1, g1, g2, g3, g4, g5⟩ := echStep_ok hp hZ (hr r (by simp))
      obtain ⟨Z2, e1, e2, e3, e4⟩ := ih (done ++ [r]) Z1 (fun s hs => hr s (by simp [hs])) g1 (fun s hs => by
        rcases List.mem_append.1 hs with hs | hs
        · exact Sp.le g3 (h1 s hs)
        · simp at hs; subst hs; exact g4) (fun s hs => by
        rw [List.append_assoc, List.singleton_append]
        refine Sp.le (fun t ht => ?_) (g5 s hs)
        rcases List.mem_cons.1 ht with rfl | ht
        · exact Sp.mem (by simp)
        · exact h2 t ht) (fun s hs => by simp at hs ⊢; rcases hs with hs | hs <;> simp [hs])
      rw [List.append_assoc, List.singleton_append] at e3 e4
      exact ⟨Z2, e1, by rw [e2, g2]; rfl, e3, e4⟩
  obtain ⟨Z, h1, h2, h3, h4⟩ := go rows [] [] h ⟨by simp, by simp, List.Pairwise.nil⟩ (by simp) (by simp) (by simp)
  simp only [List.nil_append, List.map_nil] at h2 h3 h4
  refine ⟨Z, h1, h2, ?_, ?_⟩
  · unfold ech; rw [← h2]; exact h3
  · unfold ech; rw [← h2]; exact h4
end Go.Proofs.Ytjfabhkgmelmgaa
