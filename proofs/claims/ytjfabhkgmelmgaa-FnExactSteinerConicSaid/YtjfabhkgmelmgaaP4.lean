/- The point with a cross ratio: the program's sum and the reference's search find the same point; plain arithmetic modulo a prime. -/
import Derived.Test.YtjfabhkgmelmgaaP3
namespace Go.Proofs.Ytjfabhkgmelmgaa
set_option linter.unusedSimpArgs false
set_option linter.unusedVariables false

theorem allP_all {p : Int} {a : P3} (h : isPt p a = true) : a ∈ allP p := by
  have k1 := isP_lo (isPt_pr h)
  obtain ⟨x, y, z⟩ := a
  obtain ⟨⟨b1, b2, b3, b4, b5, b6⟩, e⟩ := isPt_cases h
  unfold allP
  simp only [List.mem_append, List.mem_cons, List.not_mem_nil, or_false, colP, gridP, rowP, List.mem_map, List.mem_flatMap, List.mem_range]
  rcases e with rfl | ⟨rfl, rfl⟩ | ⟨rfl, rfl, rfl⟩
  · right
    exact ⟨y.toNat, by omega, z.toNat, by omega, by rw [Int.toNat_of_nonneg b3, Int.toNat_of_nonneg b5]⟩
  · left; right
    exact ⟨z.toNat, by omega, by rw [Int.toNat_of_nonneg b5]⟩
  · left; left; rfl
theorem lead_nr {p : Int} (hp : isP p = true) : ∀ (zs : List Int), fac p zs ≠ 0 → lead (zs.map (nr p (fac p zs))) = 1 := by
  intro zs
  have k1 := isP_lo hp
  have gen : ∀ zs : List Int, ∀ f, fac p zs = f → f ≠ 0 → lead (zs.map (nr p f)) = 1 := by
    intro zs
    induction zs with
    | nil => intro f h h0; simp [fac] at h; omega
    | cons z zs ih =>
      intro f h h0
      simp only [List.map_cons, lead]
      simp only [fac] at h
      split at h
      · rename_i hz
        have e : nr p f z = 0 := by unfold nr; rw [hz]; simp
        rw [if_pos e]
        exact ih f h h0
      · rename_i hz
        have e : nr p f z = 1 := by
          unfold nr
          rw [mulm, ← h]
          exact inv_mul hp hz
        rw [if_neg (by omega), e]
  exact gen zs _ rfl
theorem npt_pt {p x y z : Int} (hp : isP p = true) (h : fac p [x, y, z] ≠ 0) : isPt p (npt p x y z) = true := by
  have h1 := lead_nr hp _ h
  unfold isPt isN
  rw [hp, Bool.true_and, Bool.and_eq_true]
  refine ⟨by unfold npt P3.l; simpa using h1, ?_⟩
  unfold numsB npt P3.l
  rw [List.all_eq_true]
  intro u hu
  rw [inB_iff]
  simp only [List.mem_cons, List.not_mem_nil, or_false] at hu
  rcases hu with rfl | rfl | rfl <;> exact ⟨nr_lo hp _ _, nr_hi hp _ _⟩
theorem npt_cg {p x y z : Int} (hp : isP p = true) (h : fac p [x, y, z] ≠ 0) : ∃ l, ¬ p ∣ l ∧ Cg p x (l * (npt p x y z).x) ∧ Cg p y (l * (npt p x y z).y) ∧ Cg p z (l * (npt p x y z).z) :=
  made_cg hp (by unfold made; rw [if_neg h])
/-- Points that are multiples of each other are one. -/
theorem prop_eq {p : Int} {d e : P3} (hd : isPt p d = true) (he : isPt p e = true) {x y : Int} (hx : ¬ p ∣ x) (h : Cg p (x * d.x) (y * e.x) ∧ Cg p (x * d.y) (y * e.y) ∧ Cg p (x * d.z) (y * e.z)) : d = e := by
  have hp := isPt_pr hd
  obtain ⟨u, v, w⟩ := d
  obtain ⟨f, g, k⟩ := e
  have hz := crs_zero hd he
  rw [fac_zero hp] at hz
  simp only [List.mem_cons, List.not_mem_nil, or_false, forall_eq_or_imp, forall_eq] at hz
  obtain ⟨h0, h1, h2⟩ := h
  simp only at h0 h1 h2
  have key : ∀ {a b r s : Int}, Cg p (x * a) (y * r) → Cg p (x * b) (y * s) → (a * s - b * r) % p = 0 := by
    intro a b r s ha hb
    have h3 : Cg p ((a * s - b * r) * x) 0 :=
      (Cg.of_eq (show _ = x * a * s - x * b * r by grind)).trans (((ha.mulR s).sub (hb.mulR r)).trans (Cg.of_eq (by grind)))
    rw [← dvd_em]
    exact (pr_dvd hp (Cg.zero.1 h3)).resolve_right hx
  obtain ⟨rfl, rfl, rfl⟩ := hz.1 ⟨key h1 h2, key h2 h0, key h0 h1⟩
  rfl
theorem find_uniq {α : Type} {f : α → Bool} {l : List α} {e : α} (he : e ∈ l) (hf : f e = true) (hu : ∀ d ∈ l, f d = true → d = e) : l.find? f = some e := by
  have : (l.find? f).isSome := by rw [List.find?_isSome]; exact ⟨e, he, hf⟩
  obtain ⟨d, hd⟩ := Option.isSome_iff_exists.1 this
  rw [hd, hu d (List.mem_of_find?_eq_some hd) (List.find?_some hd)]
theorem fac_crs {p : Int} {a b : P3} (ha : isPt p a = true) (hb : isPt p b = true) (hne : a ≠ b) : fac p [a.y * b.z - a.z * b.y, a.z * b.x - a.x * b.z, a.x * b.y - a.y * b.x] ≠ 0 := by
  obtain ⟨x, y, z⟩ := a
  obtain ⟨u, v, w⟩ := b
  intro h
  obtain ⟨rfl, rfl, rfl⟩ := (crs_zero ha hb).1 h
  exact hne rfl
theorem crs_pt {p : Int} {a b : P3} (ha : isPt p a = true) (hb : isPt p b = true) (hne : a ≠ b) : isPt p (crs p a b) = true := npt_pt (isPt_pr ha) (fac_crs ha hb hne)
theorem on_line {p : Int} {a b d : P3} (ha : isPt p a = true) (hb : isPt p b = true) (hne : a ≠ b) : onB p (crs p a b) d = true ↔ det3 p a.x a.y a.z b.x b.y b.z d.x d.y d.z = 0 := by
  have hp := isPt_pr ha
  obtain ⟨l, hl, h0, h1, h2⟩ := npt_cg hp (fac_crs ha hb hne)
  change Cg p _ (l * (crs p a b).x) at h0
  change Cg p _ (l * (crs p a b).y) at h1
  change Cg p _ (l * (crs p a b).z) at h2
  unfold onB dot3 det3
  rw [beq_iff_eq, ← dvd_em, ← dvd_em]
  generalize crs p a b = c at *
  have e : Cg p (a.x * (b.y * d.z - b.z * d.y) - a.y * (b.x * d.z - b.z * d.x) + a.z * (b.x * d.y - b.y * d.x)) (l * (d.x * c.x + d.y * c.y + d.z * c.z)) :=
    (Cg.of_eq (show _ = d.x * (a.y * b.z - a.z * b.y) + d.y * (a.z * b.x - a.x * b.z) + d.z * (a.x * b.y - a.y * b.x) by grind)).trans
      ((((h0.mulL d.x).add (h1.mulL d.y)).add (h2.mulL d.z)).trans (Cg.of_eq (by grind)))
  constructor
  · intro h; exact Cg.zero.1 (e.trans (Cg.zero.2 (Int.dvd_mul_of_dvd_right h)))
  · intro h; exact (pr_dvd hp (Cg.zero.1 (e.symm.trans (Cg.zero.2 h)))).resolve_left hl
theorem onP_line {p : Int} {a b d : P3} (ha : isPt p a = true) (hb : isPt p b = true) (hne : a ≠ b) : d ∈ onP p (crs p a b) ↔ isPt p d = true ∧ det3 p a.x a.y a.z b.x b.y b.z d.x d.y d.z = 0 := by
  unfold onP
  rw [List.mem_filter, on_line ha hb hne]
  exact ⟨fun h => ⟨allP_mem (isPt_pr ha) h.1, h.2⟩, fun h => ⟨allP_all h.1, h.2⟩⟩
/-- The point with a cross ratio: the program's, and the reference's. -/
def atI (p : Int) (a b c : P3) (r : Int) : P3 :=
  if r = p then a else npt p (r * (cmb p a b c).1 * a.x + (cmb p a b c).2 * b.x) (r * (cmb p a b c).1 * a.y + (cmb p a b c).2 * b.y) (r * (cmb p a b c).1 * a.z + (cmb p a b c).2 * b.z)
def atS (p : Int) (a b c : P3) (r : Int) : P3 := ((onP p (crs p a b)).find? fun d => crS p a b c d == r).getD ⟨0, 0, 0⟩
theorem sum_a {p : Int} {a c : P3} (ha : isPt p a = true) (hc : isPt p c = true) {b : P3} {s : Int} (h : isSum p a b c s 0) : c = a := by
  have h' : isSum p b a c 0 s := by
    rw [isSum_cg] at *
    simpa using h
  exact sum_b ha hc h'
theorem cmb_snd_ne {p : Int} {a b c : P3} (ha : isPt p a = true) (hb : isPt p b = true) (hc : isPt p c = true) (hne : a ≠ b) (hac : a ≠ c) (hd : det3 p a.x a.y a.z b.x b.y b.z c.x c.y c.z = 0) : (cmb p a b c).2 ≠ 0 := by
  obtain ⟨h, _, _⟩ := cmb_sum ha hb hne hd
  intro e
  rw [e] at h
  exact hac (sum_a ha hc h).symm
theorem fac_ne {p x y z : Int} (hp : isP p = true) (h : ¬ (p ∣ x ∧ p ∣ y ∧ p ∣ z)) : fac p [x, y, z] ≠ 0 := by
  intro h0
  rw [fac_zero hp] at h0
  simp only [List.mem_cons, List.not_mem_nil, or_false, forall_eq_or_imp, forall_eq] at h0
  exact h ⟨dvd_em.2 h0.1, dvd_em.2 h0.2.1, dvd_em.2 h0.2.2⟩
theorem at_eq {p : Int} {a b c : P3} {r : Int} (ha : isPt p a = true) (hb : isPt p b = true) (hc : isPt p c = true) (hne : a ≠ b) (hac : a ≠ c) (hbc : b ≠ c)
    (hc0 : det3 p a.x a.y a.z b.x b.y b.z c.x c.y c.z = 0) (r0 : 0 ≤ r) (r1 : r ≤ p) : atS p a b c r = atI p a b c r := by
  have hp := isPt_pr ha
  have k1 := isP_lo hp
  obtain ⟨hS, ⟨s0, s1⟩, t0, t1⟩ := cmb_sum ha hb hne hc0
  have hsne := cmb_fst_ne ha hb hc hne hbc hc0
  have htne := cmb_snd_ne ha hb hc hne hac hc0
  unfold atS
  suffices hh : (onP p (crs p a b)).find? (fun d => crS p a b c d == r) = some (atI p a b c r) by rw [hh]; rfl
  have hcr : ∀ {d : P3}, isPt p d = true → det3 p a.x a.y a.z b.x b.y b.z d.x d.y d.z = 0 → crS p a b c d = crI p a b c d := fun h1 h2 => ratio_eq ha hb hc h1 hne hbc hc0 h2
  unfold crI at hcr
  unfold atI
  generalize (cmb p a b c).1 = s at *
  generalize (cmb p a b c).2 = t at *
  have hsn : ¬ p ∣ s := small_nd (by omega) (by omega)
  have htn : ¬ p ∣ t := small_nd (by omega) (by omega)
  by_cases hr : r = p
  · rw [if_pos hr]
    have hda : det3 p a.x a.y a.z b.x b.y b.z a.x a.y a.z = 0 := by
      unfold det3; rw [show (a.x * (b.y * a.z - b.z * a.y) - a.y * (b.x * a.z - b.z * a.x) + a.z * (b.x * a.y - b.y * a.x)) = 0 by grind]; simp
    refine find_uniq ((onP_line ha hb hne).2 ⟨ha, hda⟩) ?_ ?_
    · rw [beq_iff_eq, hcr ha hda, hr]
      obtain ⟨hU, ⟨u0, u1⟩, v0, v1⟩ := cmb_sum ha hb hne hda
      have h1 : isSum p a b a 1 0 := by
        rw [isSum_cg]; exact ⟨Cg.of_eq (by omega), Cg.of_eq (by omega), Cg.of_eq (by omega)⟩
      have h2 := (isSum_uniq ha hb hne h1 (l := 1) (by simpa using hU)).2
      rw [if_pos]
      exact small_eq v0 v1 (by omega) (by omega) (by simpa [Cg] using h2)
    · intro d hd hf
      obtain ⟨hd1, hd2⟩ := (onP_line ha hb hne).1 hd
      rw [beq_iff_eq, hcr hd1 hd2] at hf
      obtain ⟨hU, ⟨u0, u1⟩, v0, v1⟩ := cmb_sum ha hb hne hd2
      split at hf
      · rename_i hv
        rw [hv] at hU
        exact sum_a ha hd1 hU
      · have := Int.emod_lt_of_pos (t * (cmb p a b d).1 * inv p (s * (cmb p a b d).2)) (b := p) (by omega)
        omega
  · rw [if_neg hr]
    have hfac : fac p [r * s * a.x + t * b.x, r * s * a.y + t * b.y, r * s * a.z + t * b.z] ≠ 0 := by
      apply fac_ne hp
      rintro ⟨h0, h1, h2⟩
      exact htn (indep ha hb hne (s := r * s) (t := t) ⟨by simpa using h0, by simpa using h1, by simpa using h2⟩).2
    have hept := npt_pt hp hfac
    obtain ⟨l, hl, e0, e1, e2⟩ := npt_cg hp hfac
    generalize npt p (r * s * a.x + t * b.x) (r * s * a.y + t * b.y) (r * s * a.z + t * b.z) = e at *
    have hde : det3 p a.x a.y a.z b.x b.y b.z e.x e.y e.z = 0 := by
      unfold det3
      rw [← dvd_em]
      refine (pr_dvd hp (x := l) ?_).resolve_left hl
      refine Cg.zero.1 ((Cg.of_eq (show _ = a.x * (b.y * (l * e.z) - b.z * (l * e.y)) - a.y * (b.x * (l * e.z) - b.z * (l * e.x)) + a.z * (b.x * (l * e.y) - b.y * (l * e.x)) by grind)).trans ?_)
      refine ((((((e2.symm.mulL b.y).sub (e1.symm.mulL b.z)).mulL a.x).sub ((((e2.symm.mulL b.x).sub (e0.symm.mulL b.z))).mulL a.y)).add ((((e1.symm.mulL b.x).sub (e0.symm.mulL b.y))).mulL a.z))).trans (Cg.of_eq (by grind))
    have hsum : isSum p a b ⟨l * e.x, l * e.y, l * e.z⟩ (r * s) t := ⟨e0, e1, e2⟩
    refine find_uniq ((onP_line ha hb hne).2 ⟨hept, hde⟩) ?_ ?_
    · rw [beq_iff_eq, hcr hept hde]
      obtain ⟨hU, ⟨u0, u1⟩, v0, v1⟩ := cmb_sum ha hb hne hde
      obtain ⟨g0, g1⟩ := isSum_uniq ha hb hne hU hsum
      generalize (cmb p a b e).1 = u at *
      generalize (cmb p a b e).2 = v at *
      have hvn : ¬ p ∣ v := by
        intro hv
        exact htn (Cg.zero.1 (g1.trans (Cg.zero.2 (Int.dvd_mul_of_dvd_right hv))))
      have hv0 : v ≠ 0 := by rintro rfl; exact hvn (by simp)
      rw [if_neg hv0]
      have hsv := nd_mul hp hsn hvn
      have h3 : Cg p (t * u) (r * (s * v)) := by
        refine Cg.cancel hp hl ?_
        refine (Cg.of_eq (show _ = t * (l * u) by grind)).trans (((g0.symm.mulL t).trans ((Cg.of_eq (show _ = r * s * t by grind)).trans ((g1.mulL (r * s)).trans (Cg.of_eq (by grind))))))
      have h4 : Cg p (t * u * inv p (s * v)) r :=
        (h3.mulR _).trans ((Cg.of_eq (show _ = r * (s * v * inv p (s * v)) by grind)).trans (((Cg.inv hp hsv).mulL r).trans (Cg.of_eq (by omega))))
      rw [h4.em, Int.emod_eq_of_lt r0 (by omega)]
    · intro d hd hf
      obtain ⟨hd1, hd2⟩ := (onP_line ha hb hne).1 hd
      rw [beq_iff_eq, hcr hd1 hd2] at hf
      obtain ⟨hU, ⟨u0, u1⟩, v0, v1⟩ := cmb_sum ha hb hne hd2
      generalize (cmb p a b d).1 = u at *
      generalize (cmb p a b d).2 = v at *
      split at hf
      · omega
      · rename_i hv
        have hvn : ¬ p ∣ v := small_nd (by omega) (by omega)
        have hsv := nd_mul hp hsn hvn
        have h5 : Cg p (t * u * inv p (s * v)) r := Cg.of_em (by rw [hf, Int.emod_eq_of_lt r0 (by omega)])
        have h6 : Cg p (t * u) (r * (s * v)) :=
          (((Cg.inv hp hsv).mulL (t * u)).trans (Cg.of_eq (by omega))).symm.trans ((Cg.of_eq (show _ = t * u * inv p (s * v) * (s * v) by grind)).trans (h5.mulR _))
        rw [isSum_cg] at hU
        obtain ⟨d0, d1, d2⟩ := hU
        have step : ∀ {x y z w : Int}, Cg p (u * x + v * y) z → Cg p (r * s * x + t * y) (l * w) → Cg p (t * z) (v * l * w) := by
          intro x y z w hz hw
          refine (hz.symm.mulL t).trans ((Cg.of_eq (show _ = t * u * x + t * v * y by grind)).trans (((h6.mulR x).add (Cg.refl _ _)).trans ((Cg.of_eq (show _ = v * (r * s * x + t * y) by grind)).trans ((hw.mulL v).trans (Cg.of_eq (by grind))))))
        exact prop_eq hd1 hept htn (y := v * l) ⟨step d0 e0, step d1 e1, step d2 e2⟩
end Go.Proofs.Ytjfabhkgmelmgaa
