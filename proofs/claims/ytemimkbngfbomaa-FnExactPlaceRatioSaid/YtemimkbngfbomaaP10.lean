/- The cross ratio of places: the reference's, by maps, is the program's, by brackets; plain facts. -/
import Derived.Test.YtemimkbngfbomaaW63
import Derived.Test.YtemimkbngfbomaaP3
namespace Go.Proofs.Ytemimkbngfbomaa
open Go.RowKit
set_option linter.unusedSimpArgs false
set_option linter.unusedVariables false

theorem plc_ratio {p k X Y x y : Int} (hp : isP p = true) (hk : ¬ p ∣ k) (hX : Cg p X (k * x)) (hY : Cg p Y (k * y)) : plcS p X Y = plcI p x y := by
  by_cases h : y % p = 0
  · have hy : p ∣ y := dvd_em.2 h
    have h2 : p ∣ Y := Cg.zero.1 (hY.trans (Cg.zero.2 (Int.dvd_mul_of_dvd_right hy)))
    unfold plcS plcI
    rw [if_pos h, if_pos (dvd_em.1 h2)]
  · have hy : ¬ p ∣ y := fun h' => h (dvd_em.1 h')
    have hY2 : ¬ p ∣ Y := (hY.symm).ndvd (nd_mul hp hk hy)
    unfold plcS plcI
    rw [if_neg h, if_neg (fun h' => hY2 (dvd_em.2 h')), inv_md]
    refine Cg.em (Cg.cancel hp hY2 ?_)
    have e1 : Cg p (X % p * inv p Y * Y) (k * x) := by
      refine (Cg.of_eq (show _ = X % p * (Y * inv p Y) by grind)).trans ?_
      refine (((Cg.mod p X).mul (Cg.inv hp hY2)).trans (Cg.of_eq (show X * 1 = X by omega))).trans hX
    have e2 : Cg p (x * inv p y * Y) (k * x) := by
      refine (hY.mulL (x * inv p y)).trans ?_
      refine (Cg.of_eq (show _ = k * x * (y * inv p y) by grind)).trans ?_
      exact ((Cg.inv hp hy).mulL (k * x)).trans (Cg.of_eq (by omega))
    exact e1.trans e2.symm
def br0 (p x y : Int) : Int := prA p x * prB p y - prB p x * prA p y
theorem brk_cg (p x y : Int) : Cg p (brk p x y) (br0 p x y) := Cg.mod p _
theorem br0_nd {p x y : Int} (hp : isP p = true) (hx : 0 ≤ x ∧ x ≤ p) (hy : 0 ≤ y ∧ y ≤ p) (h : x ≠ y) : ¬ p ∣ br0 p x y := by
  have k1 := isP_lo hp
  unfold br0 prA prB
  by_cases h1 : x = p
  · rw [if_pos h1, if_pos h1, if_neg (fun e => h (by omega)), if_neg (fun e => h (by omega))]
    intro h'
    exact small_nd (p := p) (x := 1) (by omega) (by omega) (by simpa using h')
  · rw [if_neg h1, if_neg h1]
    by_cases h2 : y = p
    · rw [if_pos h2, if_pos h2]
      intro h'
      have : p ∣ 1 := by have := Int.dvd_neg.2 h'; simpa using this
      exact small_nd (p := p) (x := 1) (by omega) (by omega) this
    · rw [if_neg h2, if_neg h2]
      intro h'
      rw [Int.mul_one, Int.one_mul] at h'
      rcases Int.lt_or_gt_of_ne h with hl | hg
      · have := Int.dvd_neg.2 h'
        exact small_nd (p := p) (x := -(x - y)) (by omega) (by omega) this
      · exact small_nd (p := p) (x := x - y) (by omega) (by omega) h'
theorem nr_fac (p f x : Int) : Cg p (nr p f x) (f * x) := by
  unfold nr
  exact (Cg.mod p _).trans (((Cg.mod p x).mulR f).trans (Cg.of_eq (Int.mul_comm _ _)))
/-- A list with a number that is no multiple of p: its normal list is a multiple. -/
theorem nm4_cg {p a b c d : Int} (hp : isP p = true) (h : ∃ z ∈ [a, b, c, d], ¬ p ∣ z) :
    ∃ l, ¬ p ∣ l ∧ Cg p (nm4 p a b c d).a (l * a) ∧ Cg p (nm4 p a b c d).b (l * b) ∧ Cg p (nm4 p a b c d).c (l * c) ∧ Cg p (nm4 p a b c d).d (l * d) := by
  have hf : fac p [a, b, c, d] ≠ 0 := fun h0 => by
    obtain ⟨z, hz, hn⟩ := h
    exact hn (dvd_em.2 ((fac_zero hp _).1 h0 z hz))
  exact ⟨fac p [a, b, c, d], fac_pos_nd hp _ hf, nr_fac p _ a, nr_fac p _ b, nr_fac p _ c, nr_fac p _ d⟩
theorem neg_nd {p x : Int} (h : ¬ p ∣ x) : ¬ p ∣ -x := fun h' => h (Int.dvd_neg.1 h')
theorem pr_eq {p a b c d : Int} (hp : isP p = true) (ha : 0 ≤ a ∧ a ≤ p) (hb : 0 ≤ b ∧ b ≤ p) (hc : 0 ≤ c ∧ c ≤ p) (hab : a ≠ b) (hac : a ≠ c) (hbc : b ≠ c) : prS p a b c d = prI p a b c d := by
  have n1 : ¬ p ∣ prA p a * prB p b - prA p b * prB p a := by
    have := br0_nd hp ha hb hab; unfold br0 at this
    rwa [Int.mul_comm (prB p a)] at this
  have n2 : ¬ p ∣ prA p c * prB p b - prA p b * prB p c := by
    have := br0_nd hp hc hb (Ne.symm hbc); unfold br0 at this
    rwa [Int.mul_comm (prB p c)] at this
  have hx : prA p a = 1 ∨ prB p a = 1 := by unfold prA prB; split <;> simp
  have c1 : Cg p (brk p a c) (prA p a * prB p c - prA p c * prB p a) := (brk_cg p a c).trans (Cg.of_eq (by unfold br0; grind))
  have c2 : Cg p (brk p d b) (prA p d * prB p b - prA p b * prB p d) := (brk_cg p d b).trans (Cg.of_eq (by unfold br0; grind))
  have c3 : Cg p (brk p c b) (prA p c * prB p b - prA p b * prB p c) := (brk_cg p c b).trans (Cg.of_eq (by unfold br0; grind))
  have c4 : Cg p (brk p a d) (prA p a * prB p d - prA p d * prB p a) := (brk_cg p a d).trans (Cg.of_eq (by unfold br0; grind))
  unfold prS prI atM moInv frmM
  generalize brk p a c = b1 at *
  generalize brk p d b = b2 at *
  generalize brk p c b = b3 at *
  generalize brk p a d = b4 at *
  generalize prA p a = x at *
  generalize prB p a = y at *
  generalize prA p b = u at *
  generalize prB p b = v at *
  generalize prA p c = s at *
  generalize prB p c = t at *
  generalize prA p d = z at *
  generalize prB p d = w at *
  have hdd : ¬ p ∣ inv p (x * v - u * y) := inv_nd hp n1
  generalize inv p (x * v - u * y) = dd at *
  have cf : Cg p ((s * v - u * t) * dd % p) ((s * v - u * t) * dd) := Cg.mod p _
  have cg : Cg p ((x * t - s * y) * dd % p) ((x * t - s * y) * dd) := Cg.mod p _
  have hf : ¬ p ∣ (s * v - u * t) * dd % p := cf.symm.ndvd (nd_mul hp n2 hdd)
  generalize (s * v - u * t) * dd % p = f at *
  generalize (x * t - s * y) * dd % p = g at *
  obtain ⟨l, hl, m0, m1, m2, m3⟩ := nm4_cg (a := f * x) (b := g * u) (c := f * y) (d := g * v) hp (by
    rcases hx with e | e
    · exact ⟨f * x, by simp, by rw [e, Int.mul_one]; exact hf⟩
    · exact ⟨f * y, by simp, by rw [e, Int.mul_one]; exact hf⟩)
  have hlf := nd_mul hp hl hf
  have hMM : (¬ p ∣ (nm4 p (f * x) (g * u) (f * y) (g * v)).a) ∨ ¬ p ∣ (nm4 p (f * x) (g * u) (f * y) (g * v)).c := by
    rcases hx with e | e
    · exact .inl (m0.symm.ndvd (by rw [e, Int.mul_one]; exact hlf))
    · exact .inr (m2.symm.ndvd (by rw [e, Int.mul_one]; exact hlf))
  generalize nm4 p (f * x) (g * u) (f * y) (g * v) = M at *
  obtain ⟨A, B, C, D⟩ := M
  dsimp only at *
  obtain ⟨k, hk, j0, j1, j2, j3⟩ := nm4_cg (a := D) (b := -B) (c := -C) (d := A) hp (by
    rcases hMM with e | e
    · exact ⟨A, by simp, e⟩
    · exact ⟨-C, by simp, neg_nd e⟩)
  generalize nm4 p D (-B) (-C) A = N at *
  obtain ⟨N0, N1, N2, N3⟩ := N
  dsimp only at *
  have hK : ¬ p ∣ k * l * dd := nd_mul hp (nd_mul hp hk hl) hdd
  refine plc_ratio (k := k * l * dd) hp hK ?_ ?_
  · have e1 : Cg p (N0 * z + N1 * w) (k * (l * (g * v)) * z + k * -(l * (g * u)) * w) :=
      ((j0.trans (m3.mulL k)).mulR z).add ((j1.trans ((Cg.neg m1).mulL k)).mulR w)
    refine e1.trans ((Cg.of_eq (show _ = k * l * (v * z - u * w) * g by grind)).trans ((cg.mulL _).trans ?_))
    refine (Cg.of_eq (show _ = k * l * dd * ((x * t - s * y) * (z * v - u * w)) by grind)).trans ?_
    exact ((c1.mul c2).symm).mulL _
  · have e1 : Cg p (N2 * z + N3 * w) (k * -(l * (f * y)) * z + k * (l * (f * x)) * w) :=
      ((j2.trans ((Cg.neg m2).mulL k)).mulR z).add ((j3.trans (m0.mulL k)).mulR w)
    refine e1.trans ((Cg.of_eq (show _ = k * l * (x * w - z * y) * f by grind)).trans ((cf.mulL _).trans ?_))
    refine (Cg.of_eq (show _ = k * l * dd * ((s * v - u * t) * (x * w - z * y)) by grind)).trans ?_
    exact ((c3.mul c4).symm).mulL _
end Go.Proofs.Ytemimkbngfbomaa
