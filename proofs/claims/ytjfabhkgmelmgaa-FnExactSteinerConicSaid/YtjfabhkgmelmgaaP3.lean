/- Points as sums of multiples of two points, and cross ratios: plain arithmetic modulo a prime; no program in sight. -/
import Derived.Test.YtjfabhkgmelmgaaP2
namespace Go.Proofs.Ytjfabhkgmelmgaa
set_option linter.unusedSimpArgs false
set_option linter.unusedVariables false

theorem dvd_em {p x : Int} : p ∣ x ↔ x % p = 0 := Int.dvd_iff_emod_eq_zero
theorem pr_dvd {p x y : Int} (hp : isP p = true) (h : p ∣ x * y) : p ∣ x ∨ p ∣ y := by
  have key : ∀ q ∈ [3, 5, 7, 11, 13], ∀ i ∈ List.range q, ∀ j ∈ List.range q, (i : Int) * (j : Int) % (q : Int) = 0 → (i : Int) = 0 ∨ (j : Int) = 0 := by decide
  rw [dvd_em] at h ⊢
  rw [dvd_em]
  have k1 := isP_lo hp
  have hx0 : 0 ≤ x % p := Int.emod_nonneg _ (by omega)
  have hx1 : x % p < p := Int.emod_lt_of_pos _ (by omega)
  have hy0 : 0 ≤ y % p := Int.emod_nonneg _ (by omega)
  have hy1 : y % p < p := Int.emod_lt_of_pos _ (by omega)
  rw [Int.mul_emod] at h
  obtain ⟨i, hi⟩ := Int.eq_ofNat_of_zero_le hx0
  obtain ⟨j, hj⟩ := Int.eq_ofNat_of_zero_le hy0
  rw [hi, hj] at h ⊢
  have h2 : (i : Int) < p := by omega
  have h3 : (j : Int) < p := by omega
  clear hx0 hx1 hy0 hy1 hi hj k1
  rcases isP_cases hp with rfl | rfl | rfl | rfl | rfl <;> exact key _ (by decide) i (by simp; omega) j (by simp; omega) h
theorem inv_dvd {p n : Int} (hp : isP p = true) (h : ¬ p ∣ n) : p ∣ n * inv p n - 1 := by
  rw [dvd_em] at h
  have := inv_mul hp h
  have k1 := isP_lo hp
  rw [dvd_em, Int.sub_emod, this]
  have : (1 : Int) % p = 1 := Int.emod_eq_of_lt (by omega) (by omega)
  rw [this]; simp
theorem em_dvd (p x : Int) : p ∣ x % p - x := by
  rw [dvd_em, Int.sub_emod, Int.emod_emod_of_dvd _ (Int.dvd_refl p), ← Int.sub_emod]; simp
theorem em_eq {p x y : Int} (h : p ∣ x - y) : x % p = y % p := (Int.emod_emod_of_dvd x (Int.dvd_refl p)).symm.trans (by rw [Int.emod_emod_of_dvd _ (Int.dvd_refl p)]; exact Int.emod_eq_emod_iff_emod_sub_eq_zero.2 (dvd_em.1 h))
theorem eq_em {p x y : Int} (h : x % p = y % p) : p ∣ x - y := dvd_em.2 (Int.emod_eq_emod_iff_emod_sub_eq_zero.1 h)
theorem small_eq {p x y : Int} (hx : 0 ≤ x) (hx1 : x ≤ p - 1) (hy : 0 ≤ y) (hy1 : y ≤ p - 1) (h : p ∣ x - y) : x = y := by
  have := em_eq h
  rwa [Int.emod_eq_of_lt hx (by omega), Int.emod_eq_of_lt hy (by omega)] at this
/-- The three minors of two points. -/
def mi0 (a b : P3) : Int := a.y * b.z - a.z * b.y
def mi1 (a b : P3) : Int := a.z * b.x - a.x * b.z
def mi2 (a b : P3) : Int := a.x * b.y - a.y * b.x
theorem minor_ne {p : Int} {a b : P3} (ha : isPt p a = true) (hb : isPt p b = true) (hne : a ≠ b) : ¬ p ∣ mi0 a b ∨ ¬ p ∣ mi1 a b ∨ ¬ p ∣ mi2 a b := by
  obtain ⟨x, y, z⟩ := a
  obtain ⟨u, v, w⟩ := b
  have h := crs_zero ha hb
  have hp := isPt_pr ha
  rw [fac_zero hp] at h
  simp only [List.mem_cons, List.not_mem_nil, or_false, forall_eq_or_imp, forall_eq] at h
  simp only [dvd_em, mi0, mi1, mi2]
  by_cases h0 : (y * w - z * v) % p = 0
  · by_cases h1 : (z * u - x * w) % p = 0
    · by_cases h2 : (x * v - y * u) % p = 0
      · obtain ⟨rfl, rfl, rfl⟩ := h.1 ⟨h0, h1, h2⟩
        exact absurd rfl hne
      · exact .inr (.inr h2)
    · exact .inr (.inl h1)
  · exact .inl h0
/-- s a and t b together are c modulo p. -/
def isSum (p : Int) (a b c : P3) (s t : Int) : Prop := p ∣ s * a.x + t * b.x - c.x ∧ p ∣ s * a.y + t * b.y - c.y ∧ p ∣ s * a.z + t * b.z - c.z
theorem indep {p : Int} {a b : P3} (ha : isPt p a = true) (hb : isPt p b = true) (hne : a ≠ b) {s t : Int} (h : isSum p a b ⟨0, 0, 0⟩ s t) : p ∣ s ∧ p ∣ t := by
  have hp := isPt_pr ha
  obtain ⟨h0, h1, h2⟩ := h
  simp only [Int.sub_zero] at h0 h1 h2
  have key : ∀ m e f g h : Int, ¬ p ∣ m → p ∣ e → p ∣ f → s * m = g * e - h * f → p ∣ s := by
    intro m e f g h hm he hf heq
    have : p ∣ s * m := by rw [heq]; exact Int.dvd_sub (Int.dvd_mul_of_dvd_right he) (Int.dvd_mul_of_dvd_right hf)
    exact (pr_dvd hp this).resolve_right hm
  have key2 : ∀ m e f g h : Int, ¬ p ∣ m → p ∣ e → p ∣ f → t * m = g * e - h * f → p ∣ t := by
    intro m e f g h hm he hf heq
    have : p ∣ t * m := by rw [heq]; exact Int.dvd_sub (Int.dvd_mul_of_dvd_right he) (Int.dvd_mul_of_dvd_right hf)
    exact (pr_dvd hp this).resolve_right hm
  rcases minor_ne ha hb hne with hm | hm | hm
  · exact ⟨key _ _ _ b.z b.y hm h1 h2 (by unfold mi0; grind), key2 _ _ _ a.y a.z hm h2 h1 (by unfold mi0; grind)⟩
  · exact ⟨key _ _ _ b.x b.z hm h2 h0 (by unfold mi1; grind), key2 _ _ _ a.z a.x hm h0 h2 (by unfold mi1; grind)⟩
  · exact ⟨key _ _ _ b.y b.x hm h0 h1 (by unfold mi2; grind), key2 _ _ _ a.x a.y hm h1 h0 (by unfold mi2; grind)⟩
/-! ### congruence -/
def Cg (p x y : Int) : Prop := p ∣ x - y
theorem Cg.refl (p x : Int) : Cg p x x := by unfold Cg; simp
theorem Cg.of_eq {p x y : Int} (h : x = y) : Cg p x y := h ▸ Cg.refl p x
theorem Cg.symm {p x y : Int} (h : Cg p x y) : Cg p y x := by
  unfold Cg at *
  have := Int.dvd_neg.2 h
  rwa [Int.neg_sub] at this
theorem Cg.trans {p x y z : Int} (h : Cg p x y) (k : Cg p y z) : Cg p x z := by
  unfold Cg at *
  have := Int.dvd_add h k
  rwa [show x - y + (y - z) = x - z by omega] at this
theorem Cg.add {p x y u v : Int} (h : Cg p x y) (k : Cg p u v) : Cg p (x + u) (y + v) := by
  unfold Cg at *
  have := Int.dvd_add h k
  rwa [show x - y + (u - v) = x + u - (y + v) by omega] at this
theorem Cg.sub {p x y u v : Int} (h : Cg p x y) (k : Cg p u v) : Cg p (x - u) (y - v) := by
  unfold Cg at *
  have := Int.dvd_sub h k
  rwa [show x - y - (u - v) = x - u - (y - v) by omega] at this
theorem Cg.neg {p x y : Int} (h : Cg p x y) : Cg p (-x) (-y) := by
  unfold Cg at *
  have := Int.dvd_neg.2 h
  rwa [show -(x - y) = -x - -y by omega] at this
theorem Cg.mul {p x y u v : Int} (h : Cg p x y) (k : Cg p u v) : Cg p (x * u) (y * v) := by
  unfold Cg at *
  have h1 : p ∣ (x - y) * u := Int.dvd_mul_of_dvd_left h
  have h2 : p ∣ y * (u - v) := Int.dvd_mul_of_dvd_right k
  have := Int.dvd_add h1 h2
  rwa [show (x - y) * u + y * (u - v) = x * u - y * v by grind] at this
theorem Cg.mulL {p x y : Int} (z : Int) (h : Cg p x y) : Cg p (z * x) (z * y) := (Cg.refl p z).mul h
theorem Cg.mulR {p x y : Int} (z : Int) (h : Cg p x y) : Cg p (x * z) (y * z) := h.mul (Cg.refl p z)
theorem Cg.mod (p x : Int) : Cg p (x % p) x := em_dvd p x
theorem Cg.em {p x y : Int} (h : Cg p x y) : x % p = y % p := em_eq h
theorem Cg.of_em {p x y : Int} (h : x % p = y % p) : Cg p x y := eq_em h
theorem Cg.zero {p x : Int} : Cg p x 0 ↔ p ∣ x := by unfold Cg; simp
theorem Cg.cancel {p x y z : Int} (hp : isP p = true) (hz : ¬ p ∣ z) (h : Cg p (x * z) (y * z)) : Cg p x y := by
  unfold Cg at *
  rw [← Int.sub_mul] at h
  exact (pr_dvd hp h).resolve_right hz
theorem Cg.inv {p n : Int} (hp : isP p = true) (h : ¬ p ∣ n) : Cg p (n * inv p n) 1 := inv_dvd hp h
theorem Cg.ndvd {p x y : Int} (h : Cg p x y) (hx : ¬ p ∣ x) : ¬ p ∣ y := by
  intro hy; apply hx
  unfold Cg at h
  have := Int.dvd_add h hy
  rwa [show x - y + y = x by omega] at this
theorem nd_mul {p x y : Int} (hp : isP p = true) (hx : ¬ p ∣ x) (hy : ¬ p ∣ y) : ¬ p ∣ x * y := fun h => (pr_dvd hp h).elim hx hy
theorem inv_md (p n : Int) : inv p (n % p) = inv p n := by unfold inv; rw [Int.emod_emod_of_dvd _ (Int.dvd_refl p)]
theorem inv_nd {p n : Int} (hp : isP p = true) (h : ¬ p ∣ n) : ¬ p ∣ inv p n := by
  intro h'
  have h1 := Cg.inv hp h
  unfold Cg at h1
  have h2 : p ∣ n * inv p n := Int.dvd_mul_of_dvd_right h'
  have h3 := Int.dvd_sub h2 h1
  rw [show n * inv p n - (n * inv p n - 1) = 1 by omega] at h3
  have := isP_lo hp
  have := Int.le_of_dvd (by omega) h3
  omega
theorem small_nd {p x : Int} (h0 : 0 < x) (h1 : x < p) : ¬ p ∣ x := fun h => by have := Int.le_of_dvd h0 h; omega

theorem isSum_cg {p : Int} {a b c : P3} {s t : Int} : isSum p a b c s t ↔ Cg p (s * a.x + t * b.x) c.x ∧ Cg p (s * a.y + t * b.y) c.y ∧ Cg p (s * a.z + t * b.z) c.z := Iff.rfl
/-- Sums of multiples are unique up to the multiple. -/
theorem isSum_uniq {p : Int} {a b c : P3} (ha : isPt p a = true) (hb : isPt p b = true) (hne : a ≠ b) {s t s1 t1 l : Int} (h : isSum p a b c s t) (h1 : isSum p a b ⟨l * c.x, l * c.y, l * c.z⟩ s1 t1) : Cg p s1 (l * s) ∧ Cg p t1 (l * t) := by
  have h2 : isSum p a b ⟨0, 0, 0⟩ (s1 - l * s) (t1 - l * t) := by
    rw [isSum_cg] at *
    obtain ⟨a0, a1, a2⟩ := h
    obtain ⟨b0, b1, b2⟩ := h1
    refine ⟨?_, ?_, ?_⟩
    · refine (Cg.of_eq ?_).trans ((b0.sub (a0.mulL l)).trans (Cg.of_eq ?_)) <;> (try simp only) <;> grind
    · refine (Cg.of_eq ?_).trans ((b1.sub (a1.mulL l)).trans (Cg.of_eq ?_)) <;> (try simp only) <;> grind
    · refine (Cg.of_eq ?_).trans ((b2.sub (a2.mulL l)).trans (Cg.of_eq ?_)) <;> (try simp only) <;> grind
  exact indep ha hb hne h2
theorem isSum_mod {p : Int} {a b c : P3} {s t : Int} (h : isSum p a b c s t) : isSum p a b c (s % p) (t % p) := by
  rw [isSum_cg] at *
  obtain ⟨a0, a1, a2⟩ := h
  exact ⟨(((Cg.mod p s).mulR _).add ((Cg.mod p t).mulR _)).trans a0, (((Cg.mod p s).mulR _).add ((Cg.mod p t).mulR _)).trans a1, (((Cg.mod p s).mulR _).add ((Cg.mod p t).mulR _)).trans a2⟩
/-- A point on the line of two others is a sum of multiples of them. -/
theorem isSum_ex {p : Int} {a b c : P3} (ha : isPt p a = true) (hb : isPt p b = true) (hne : a ≠ b) (hd : det3 p a.x a.y a.z b.x b.y b.z c.x c.y c.z = 0) : ∃ s t, isSum p a b c s t := by
  have hp := isPt_pr ha
  have hdet : Cg p (a.x * (b.y * c.z - b.z * c.y) - a.y * (b.x * c.z - b.z * c.x) + a.z * (b.x * c.y - b.y * c.x)) 0 := Cg.zero.2 (dvd_em.2 hd)
  have fin : ∀ {m e f x : Int}, ¬ p ∣ m → Cg p (e + f) (x * m) → Cg p (e * inv p m + f * inv p m) x := by
    intro m e f x hm h
    refine (Cg.of_eq (show _ = (e + f) * inv p m by grind)).trans ((h.mulR _).trans ((Cg.of_eq (show _ = x * (m * inv p m) by grind)).trans (((Cg.inv hp hm).mulL x).trans (Cg.of_eq (by omega)))))
  rcases minor_ne ha hb hne with hm | hm | hm
  · refine ⟨(c.y * b.z - c.z * b.y) * inv p (mi0 a b), (a.y * c.z - a.z * c.y) * inv p (mi0 a b), ?_⟩
    rw [isSum_cg]
    refine ⟨?_, ?_, ?_⟩
    · refine (Cg.of_eq (show _ = (c.y * b.z - c.z * b.y) * a.x * inv p (mi0 a b) + (a.y * c.z - a.z * c.y) * b.x * inv p (mi0 a b) by grind)).trans (fin hm ?_)
      refine (Cg.of_eq (show _ = c.x * mi0 a b - (a.x * (b.y * c.z - b.z * c.y) - a.y * (b.x * c.z - b.z * c.x) + a.z * (b.x * c.y - b.y * c.x)) by unfold mi0; grind)).trans (((Cg.refl _ _).sub hdet).trans (Cg.of_eq (by omega)))
    · refine (Cg.of_eq (show _ = (c.y * b.z - c.z * b.y) * a.y * inv p (mi0 a b) + (a.y * c.z - a.z * c.y) * b.y * inv p (mi0 a b) by grind)).trans (fin hm (Cg.of_eq (by unfold mi0; grind)))
    · refine (Cg.of_eq (show _ = (c.y * b.z - c.z * b.y) * a.z * inv p (mi0 a b) + (a.y * c.z - a.z * c.y) * b.z * inv p (mi0 a b) by grind)).trans (fin hm (Cg.of_eq (by unfold mi0; grind)))
  · refine ⟨(c.z * b.x - c.x * b.z) * inv p (mi1 a b), (a.z * c.x - a.x * c.z) * inv p (mi1 a b), ?_⟩
    rw [isSum_cg]
    refine ⟨?_, ?_, ?_⟩
    · refine (Cg.of_eq (show _ = (c.z * b.x - c.x * b.z) * a.x * inv p (mi1 a b) + (a.z * c.x - a.x * c.z) * b.x * inv p (mi1 a b) by grind)).trans (fin hm (Cg.of_eq (by unfold mi1; grind)))
    · refine (Cg.of_eq (show _ = (c.z * b.x - c.x * b.z) * a.y * inv p (mi1 a b) + (a.z * c.x - a.x * c.z) * b.y * inv p (mi1 a b) by grind)).trans (fin hm ?_)
      refine (Cg.of_eq (show _ = c.y * mi1 a b - (a.x * (b.y * c.z - b.z * c.y) - a.y * (b.x * c.z - b.z * c.x) + a.z * (b.x * c.y - b.y * c.x)) by unfold mi1; grind)).trans (((Cg.refl _ _).sub hdet).trans (Cg.of_eq (by omega)))
    · refine (Cg.of_eq (show _ = (c.z * b.x - c.x * b.z) * a.z * inv p (mi1 a b) + (a.z * c.x - a.x * c.z) * b.z * inv p (mi1 a b) by grind)).trans (fin hm (Cg.of_eq (by unfold mi1; grind)))
  · refine ⟨(c.x * b.y - c.y * b.x) * inv p (mi2 a b), (a.x * c.y - a.y * c.x) * inv p (mi2 a b), ?_⟩
    rw [isSum_cg]
    refine ⟨?_, ?_, ?_⟩
    · refine (Cg.of_eq (show _ = (c.x * b.y - c.y * b.x) * a.x * inv p (mi2 a b) + (a.x * c.y - a.y * c.x) * b.x * inv p (mi2 a b) by grind)).trans (fin hm (Cg.of_eq (by unfold mi2; grind)))
    · refine (Cg.of_eq (show _ = (c.x * b.y - c.y * b.x) * a.y * inv p (mi2 a b) + (a.x * c.y - a.y * c.x) * b.y * inv p (mi2 a b) by grind)).trans (fin hm (Cg.of_eq (by unfold mi2; grind)))
    · refine (Cg.of_eq (show _ = (c.x * b.y - c.y * b.x) * a.z * inv p (mi2 a b) + (a.x * c.y - a.y * c.x) * b.z * inv p (mi2 a b) by grind)).trans (fin hm ?_)
      refine (Cg.of_eq (show _ = c.z * mi2 a b - (a.x * (b.y * c.z - b.z * c.y) - a.y * (b.x * c.z - b.z * c.x) + a.z * (b.x * c.y - b.y * c.x)) by unfold mi2; grind)).trans (((Cg.refl _ _).sub hdet).trans (Cg.of_eq (by omega)))

/-! ### the searches -/
def pairsN (n : Nat) : List (Int × Int) := (List.range n).flatMap fun s : Nat => (List.range n).map fun t : Nat => ((s : Int), (t : Int))
theorem pairsN_mem {n : Nat} {q : Int × Int} : q ∈ pairsN n ↔ (0 ≤ q.1 ∧ q.1 < n) ∧ (0 ≤ q.2 ∧ q.2 < n) := by
  unfold pairsN
  simp only [List.mem_flatMap, List.mem_map, List.mem_range]
  constructor
  · rintro ⟨s, hs, t, ht, rfl⟩; simp; omega
  · rintro ⟨⟨h1, h2⟩, h3, h4⟩
    exact ⟨q.1.toNat, by omega, q.2.toNat, by omega, by ext <;> simp <;> omega⟩
/-- The first pair for which something is so. -/
def find2 (n : Nat) (f : Int → Int → Bool) : Option (Int × Int) := (pairsN n).find? fun q => f q.1 q.2
theorem find2_none {n : Nat} {f : Int → Int → Bool} (h : ∀ s t : Nat, s < n → t < n → f s t = false) : find2 n f = none := by
  unfold find2
  rw [List.find?_eq_none]
  intro q hq
  rw [pairsN_mem] at hq
  have := h q.1.toNat q.2.toNat (by omega) (by omega)
  rw [Int.toNat_of_nonneg hq.1.1, Int.toNat_of_nonneg hq.2.1] at this
  simp [this]
theorem find2_some {n : Nat} {f : Int → Int → Bool} {s t : Nat} (hs : s < n) (ht : t < n) (hf : f s t = true) (h1 : ∀ s' t' : Nat, s' < s → t' < n → f s' t' = false) (h2 : ∀ t' : Nat, t' < t → f s t' = false) : find2 n f = some ((s : Int), (t : Int)) := by
  have hsplit : pairsN n = ((List.range s).flatMap fun s : Nat => (List.range n).map fun t : Nat => ((s : Int), (t : Int))) ++ (((List.range t).map fun t : Nat => ((s : Int), (t : Int))) ++ (((s : Int), (t : Int)) :: ((((List.range (n - t - 1)).map fun d : Nat => (((s : Int), ((t + 1 + d : Nat) : Int))))) ++ ((List.range (n - s - 1)).flatMap fun d : Nat => (List.range n).map fun t : Nat => (((s + 1 + d : Nat) : Int), (t : Int)))))) := by
    unfold pairsN
    have e1 : List.range n = List.range s ++ (s :: (List.range (n - s - 1)).map fun d => s + 1 + d) := by
      have := List.range_add (n := s) (m := n - s)
      rw [show s + (n - s) = n by omega] at this
      rw [this]
      congr 1
      obtain ⟨m, hm⟩ : ∃ m, n - s = m + 1 := ⟨n - s - 1, by omega⟩
      rw [show n - s - 1 = m by omega, hm, List.range_succ_eq_map]
      simp only [List.map_cons, List.map_map, Nat.add_zero]
      congr 1
      apply List.map_congr_left
      intro d _
      simp only [Function.comp]; omega
    have e2 : (List.range n).map (fun t : Nat => ((s : Int), (t : Int))) = ((List.range t).map fun t : Nat => ((s : Int), (t : Int))) ++ (((s : Int), (t : Int)) :: ((List.range (n - t - 1)).map fun d : Nat => (((s : Int), ((t + 1 + d : Nat) : Int))))) := by
      have := List.range_add (n := t) (m := n - t)
      rw [show t + (n - t) = n by omega] at this
      rw [this]
      obtain ⟨m, hm⟩ : ∃ m, n - t = m + 1 := ⟨n - t - 1, by omega⟩
      rw [show n - t - 1 = m by omega, hm, List.range_succ_eq_map]
      simp only [List.map_append, List.map_cons, List.map_map, Nat.add_zero]
      congr 2
      apply List.map_congr_left
      intro d _
      simp only [Function.comp]
      congr 2
      omega
    have gen : ∀ g : Nat → List (Int × Int), (List.range n).flatMap g = (List.range s).flatMap g ++ (g s ++ (List.range (n - s - 1)).flatMap (fun d => g (s + 1 + d))) := by
      intro g
      conv => lhs; rw [e1]
      rw [List.flatMap_append, List.flatMap_cons, List.flatMap_map]
    rw [gen, e2]
    simp only [List.append_assoc, List.cons_append]
  unfold find2
  rw [hsplit, List.find?_append, List.find?_append, List.find?_eq_none.2, List.find?_eq_none.2, List.find?_cons_of_pos (by exact hf)]
  · rfl
  · intro q hq
    simp only [List.mem_map, List.mem_range] at hq
    obtain ⟨t', ht', rfl⟩ := hq
    simp [h2 t' ht']
  · intro q hq
    simp only [List.mem_flatMap, List.mem_map, List.mem_range] at hq
    obtain ⟨s', hs', t', ht', rfl⟩ := hq
    simp [h1 s' t' hs' ht']
theorem find2_ex {n : Nat} {f : Int → Int → Bool} {s t : Int} (hs : 0 ≤ s) (hs1 : s < n) (ht : 0 ≤ t) (ht1 : t < n) (hf : f s t = true) : ∃ q, find2 n f = some q ∧ f q.1 q.2 = true ∧ (0 ≤ q.1 ∧ q.1 < n) ∧ (0 ≤ q.2 ∧ q.2 < n) := by
  have : (find2 n f).isSome := by
    unfold find2
    rw [List.find?_isSome]
    exact ⟨(s, t), pairsN_mem.2 ⟨⟨hs, hs1⟩, ht, ht1⟩, hf⟩
  obtain ⟨q, hq⟩ := Option.isSome_iff_exists.1 this
  have h1 := List.find?_some hq
  have h2 := List.mem_of_find?_eq_some hq
  exact ⟨q, hq, h1, pairsN_mem.1 h2⟩

/-- s a and t b together are c: as the program asks. -/
def sumB (p : Int) (a b c : P3) (s t : Int) : Bool := (s * a.x + t * b.x - c.x) % p == 0 && ((s * a.y + t * b.y - c.y) % p == 0 && (s * a.z + t * b.z - c.z) % p == 0)
theorem sumB_iff {p : Int} {a b c : P3} {s t : Int} : sumB p a b c s t = true ↔ isSum p a b c s t := by
  unfold sumB isSum
  simp [dvd_em]
/-- What the program's combined answers. -/
def cmb (p : Int) (a b c : P3) : Int × Int := (find2 p.toNat (sumB p a b c)).getD (0, 0)
/-- s a and t b together are a multiple of c: as the reference asks. -/
def parB (p : Int) (a b c : P3) (s t : Int) : Bool :=
  decide (made p ((s * a.x + t * b.x) % p) ((s * a.y + t * b.y) % p) ((s * a.z + t * b.z) % p) = (c, true))
def prt (p : Int) (a b c : P3) : Int × Int := (find2 p.toNat (parB p a b c)).getD (0, 0)
theorem cmb_sum {p : Int} {a b c : P3} (ha : isPt p a = true) (hb : isPt p b = true) (hne : a ≠ b) (hd : det3 p a.x a.y a.z b.x b.y b.z c.x c.y c.z = 0) :
    isSum p a b c (cmb p a b c).1 (cmb p a b c).2 ∧ (0 ≤ (cmb p a b c).1 ∧ (cmb p a b c).1 ≤ p - 1) ∧ (0 ≤ (cmb p a b c).2 ∧ (cmb p a b c).2 ≤ p - 1) := by
  have k1 := isP_lo (isPt_pr ha)
  obtain ⟨s, t, h⟩ := isSum_ex ha hb hne hd
  have h' := isSum_mod h
  have m0 : 0 ≤ s % p := Int.emod_nonneg _ (by omega)
  have m1 : s % p < p := Int.emod_lt_of_pos _ (by omega)
  have n0 : 0 ≤ t % p := Int.emod_nonneg _ (by omega)
  have n1 : t % p < p := Int.emod_lt_of_pos _ (by omega)
  obtain ⟨q, hq, hf, h1, h2⟩ := find2_ex (n := p.toNat) (f := sumB p a b c) m0 (by omega) n0 (by omega) (sumB_iff.2 h')
  have e : cmb p a b c = q := by unfold cmb; rw [hq]; rfl
  rw [e]
  exact ⟨sumB_iff.1 hf, by omega, by omega⟩
theorem inv_one {p : Int} (hp : isP p = true) : inv p 1 = 1 := by
  rcases isP_cases hp with rfl | rfl | rfl | rfl | rfl <;> decide
theorem fac_norm {p : Int} {c : P3} (hc : isPt p c = true) : fac p [c.x, c.y, c.z] = 1 := by
  obtain ⟨x, y, z⟩ := c
  have hp := isPt_pr hc
  have k1 := isP_lo hp
  obtain ⟨⟨b1, b2, b3, b4, b5, b6⟩, h⟩ := isPt_cases hc
  have o : (1 : Int) % p = 1 := Int.emod_eq_of_lt (by omega) (by omega)
  rcases h with rfl | ⟨rfl, rfl⟩ | ⟨rfl, rfl, rfl⟩ <;> simp [fac, o, inv_one hp]
theorem made_norm {p : Int} {c : P3} (hc : isPt p c = true) : made p c.x c.y c.z = (c, true) := by
  have hp := isPt_pr hc
  obtain ⟨⟨b1, b2, b3, b4, b5, b6⟩, h⟩ := isPt_cases (x := c.x) (y := c.y) (z := c.z) hc
  have hf := fac_norm hc
  unfold made npt
  rw [hf, if_neg (by omega)]
  have e : ∀ x : Int, 0 ≤ x → x ≤ p - 1 → nr p 1 x = x := by
    intro x h0 h1
    unfold nr
    rw [Int.mul_one, Int.emod_emod_of_dvd _ (Int.dvd_refl p), Int.emod_eq_of_lt h0 (by omega)]
  rw [e _ b1 b2, e _ b3 b4, e _ b5 b6]
theorem fac_mod {p : Int} (zs : List Int) : fac p (zs.map (· % p)) = fac p zs := by
  induction zs with
  | nil => rfl
  | cons z zs ih =>
    simp only [List.map_cons, fac, Int.emod_emod_of_dvd _ (Int.dvd_refl p), ih, inv_md]
theorem made_mod (p x y z : Int) : made p (x % p) (y % p) (z % p) = made p x y z := by
  have h := fac_mod (p := p) [x, y, z]
  simp only [List.map_cons, List.map_nil] at h
  unfold made npt nr
  rw [h]
  simp only [Int.emod_emod_of_dvd _ (Int.dvd_refl p)]
theorem fac_pos_nd {p : Int} (hp : isP p = true) (zs : List Int) (h : fac p zs ≠ 0) : ¬ p ∣ fac p zs :=
  small_nd (by have := fac_lo hp zs; omega) (by have := fac_hi hp zs; omega)
theorem made_cg {p x y z : Int} {c : P3} (hp : isP p = true) (h : made p x y z = (c, true)) : ∃ l, ¬ p ∣ l ∧ Cg p x (l * c.x) ∧ Cg p y (l * c.y) ∧ Cg p z (l * c.z) := by
  unfold made at h
  split at h
  · cases h
  · rename_i hf
    injection h with h _
    subst h
    have hnd := fac_pos_nd hp _ hf
    refine ⟨inv p (fac p [x, y, z]), inv_nd hp hnd, ?_⟩
    have e : ∀ u : Int, Cg p u (inv p (fac p [x, y, z]) * nr p (fac p [x, y, z]) u) := by
      intro u
      unfold nr
      refine Cg.symm ((((Cg.mod p _).trans ((Cg.mod p u).mulR _)).mulL _).trans ((Cg.of_eq (show _ = u * (fac p [x, y, z] * inv p (fac p [x, y, z])) by grind)).trans (((Cg.inv hp hnd).mulL u).trans (Cg.of_eq (by omega)))))
    exact ⟨e x, e y, e z⟩
theorem prt_sum {p : Int} {a b c : P3} (ha : isPt p a = true) (hb : isPt p b = true) (hc : isPt p c = true) (hne : a ≠ b) (hd : det3 p a.x a.y a.z b.x b.y b.z c.x c.y c.z = 0) :
    ∃ l, ¬ p ∣ l ∧ isSum p a b ⟨l * c.x, l * c.y, l * c.z⟩ (prt p a b c).1 (prt p a b c).2 ∧ (0 ≤ (prt p a b c).1 ∧ (prt p a b c).1 ≤ p - 1) ∧ (0 ≤ (prt p a b c).2 ∧ (prt p a b c).2 ≤ p - 1) := by
  have hp := isPt_pr ha
  have k1 := isP_lo hp
  obtain ⟨h, hs, ht⟩ := cmb_sum ha hb hne hd
  obtain ⟨⟨b1, b2, b3, b4, b5, b6⟩, _⟩ := isPt_cases (x := c.x) (y := c.y) (z := c.z) hc
  have e : parB p a b c (cmb p a b c).1 (cmb p a b c).2 = true := by
    unfold parB
    rw [decide_eq_true_eq]
    obtain ⟨h0, h1, h2⟩ := h
    rw [em_eq h0, em_eq h1, em_eq h2, Int.emod_eq_of_lt b1 (by omega), Int.emod_eq_of_lt b3 (by omega), Int.emod_eq_of_lt b5 (by omega)]
    exact made_norm hc
  obtain ⟨q, hq, hf, h1, h2⟩ := find2_ex (n := p.toNat) hs.1 (by omega) ht.1 (by omega) e
  have e : prt p a b c = q := by unfold prt; rw [hq]; rfl
  rw [e]
  unfold parB at hf
  rw [decide_eq_true_eq] at hf
  obtain ⟨l, hl, g0, g1, g2⟩ := made_cg hp hf
  exact ⟨l, hl, ⟨(Cg.mod p _).symm.trans g0, (Cg.mod p _).symm.trans g1, (Cg.mod p _).symm.trans g2⟩, by omega, by omega⟩
/-- The cross ratio: as the program computes it, and as the reference does. -/
def crI (p : Int) (a b c d : P3) : Int := if (cmb p a b d).2 = 0 then p else (cmb p a b c).2 * (cmb p a b d).1 * inv p ((cmb p a b c).1 * (cmb p a b d).2) % p
def crS (p : Int) (a b c d : P3) : Int := if (prt p a b d).2 = 0 then p else (prt p a b c).2 * (prt p a b d).1 % p * inv p ((prt p a b c).1 * (prt p a b d).2 % p) % p
theorem sum_b {p : Int} {a b c : P3} (hb : isPt p b = true) (hc : isPt p c = true) {t : Int} (h : isSum p a b c 0 t) : c = b := by
  have hp := isPt_pr hb
  have k1 := isP_lo hp
  obtain ⟨x, y, z⟩ := b
  obtain ⟨u, v, w⟩ := c
  obtain ⟨⟨b1, b2, b3, b4, b5, b6⟩, eb⟩ := isPt_cases hb
  obtain ⟨⟨c1, c2, c3, c4, c5, c6⟩, ec⟩ := isPt_cases hc
  have hz := crs_zero hb hc
  rw [fac_zero hp] at hz
  simp only [List.mem_cons, List.not_mem_nil, or_false, forall_eq_or_imp, forall_eq] at hz
  rw [isSum_cg] at h
  simp only [Int.zero_mul, Int.zero_add] at h
  obtain ⟨h0, h1, h2⟩ := h
  have key : ∀ {f g r s : Int}, Cg p (t * f) r → Cg p (t * g) s → (f * s - g * r) % p = 0 := by
    intro f g r s hr hs
    have := ((hs.mulL f).sub (hr.mulL g)).symm.trans (Cg.of_eq (show _ = (0 : Int) by grind))
    rw [← dvd_em]; exact Cg.zero.1 this
  obtain ⟨rfl, rfl, rfl⟩ := hz.1 ⟨key h1 h2, key h2 h0, key h0 h1⟩
  rfl
theorem cmb_fst_ne {p : Int} {a b c : P3} (ha : isPt p a = true) (hb : isPt p b = true) (hc : isPt p c = true) (hne : a ≠ b) (hbc : b ≠ c) (hd : det3 p a.x a.y a.z b.x b.y b.z c.x c.y c.z = 0) : (cmb p a b c).1 ≠ 0 := by
  obtain ⟨h, _, _⟩ := cmb_sum ha hb hne hd
  intro e
  rw [e] at h
  exact hbc (sum_b hb hc h).symm
theorem ratio_eq {p : Int} {a b c d : P3} (ha : isPt p a = true) (hb : isPt p b = true) (hc : isPt p c = true) (hd : isPt p d = true) (hne : a ≠ b) (hbc : b ≠ c)
    (hc0 : det3 p a.x a.y a.z b.x b.y b.z c.x c.y c.z = 0) (hd0 : det3 p a.x a.y a.z b.x b.y b.z d.x d.y d.z = 0) : crS p a b c d = crI p a b c d := by
  have hp := isPt_pr ha
  have k1 := isP_lo hp
  obtain ⟨hS, ⟨s0, s1⟩, t0, t1⟩ := cmb_sum ha hb hne hc0
  obtain ⟨hU, ⟨u0, u1⟩, v0, v1⟩ := cmb_sum ha hb hne hd0
  obtain ⟨l, hl, hS1, _, _⟩ := prt_sum ha hb hc hne hc0
  obtain ⟨m, hm, hU1, ⟨_, _⟩, y0, y1⟩ := prt_sum ha hb hd hne hd0
  obtain ⟨es, et⟩ := isSum_uniq ha hb hne hS hS1
  obtain ⟨eu, ev⟩ := isSum_uniq ha hb hne hU hU1
  have hsne := cmb_fst_ne ha hb hc hne hbc hc0
  unfold crS crI
  generalize (cmb p a b c).1 = s at *
  generalize (cmb p a b c).2 = t at *
  generalize (cmb p a b d).1 = u at *
  generalize (cmb p a b d).2 = v at *
  generalize (prt p a b c).1 = s' at *
  generalize (prt p a b c).2 = t' at *
  generalize (prt p a b d).1 = u' at *
  generalize (prt p a b d).2 = v' at *
  have hv : v' = 0 ↔ v = 0 := by
    constructor
    · rintro rfl
      have h1 : p ∣ m * v := Cg.zero.1 ev.symm
      have h2 := (pr_dvd hp h1).resolve_left hm
      exact small_eq v0 v1 (by omega) (by omega) (by simpa using h2)
    · rintro rfl
      have h1 : p ∣ v' := Cg.zero.1 (ev.trans (Cg.of_eq (by omega)))
      exact small_eq y0 y1 (by omega) (by omega) (by simpa using h1)
  by_cases hv0 : v = 0
  · rw [if_pos hv0, if_pos (hv.2 hv0)]
  · rw [if_neg hv0, if_neg (fun h => hv0 (hv.1 h)), inv_md, mulm]
    have hsn : ¬ p ∣ s := small_nd (by omega) (by omega)
    have hvn : ¬ p ∣ v := small_nd (by omega) (by omega)
    have hsv := nd_mul hp hsn hvn
    have hlm := nd_mul hp hl hm
    have e1 : Cg p (s' * v') (l * m * (s * v)) := (es.mul ev).trans (Cg.of_eq (by grind))
    have e2 : Cg p (t' * u') (l * m * (t * u)) := (et.mul eu).trans (Cg.of_eq (by grind))
    have hsv' : ¬ p ∣ s' * v' := e1.symm.ndvd (nd_mul hp hlm hsv)
    apply Cg.em
    refine Cg.cancel hp hsv' ?_
    refine (Cg.of_eq (show _ = t' * u' * (s' * v' * inv p (s' * v')) by grind)).trans (((Cg.inv hp hsv').mulL _).trans ((Cg.of_eq (by omega)).trans (e2.trans (Cg.symm ?_))))
    refine (e1.mulL _).trans ((Cg.of_eq (show _ = l * m * (t * u) * (s * v * inv p (s * v)) by grind)).trans (((Cg.inv hp hsv).mulL _).trans (Cg.of_eq (by omega))))
end Go.Proofs.Ytjfabhkgmelmgaa
