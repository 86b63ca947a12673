/- The image of a conic: the reference's sums are a multiple of the program's; no program in sight. -/
import Derived.Test.YtemimkbngfbomaaP7
import Derived.Test.YtemimkbngfbomaaW76
namespace Go.Proofs.Ytemimkbngfbomaa
set_option linter.unusedSimpArgs false
set_option linter.unusedVariables false

/-- One step of the sum. -/
def stp (p s a m b : Int) : Int := (s + a * m % p * b) % p
def t9 (p a0 a1 a2 : Int) (m : M9) (b0 b1 b2 : Int) : Int := stp p (stp p (stp p (stp p (stp p (stp p (stp p (stp p (stp p 0 a0 m.m0 b0) a0 m.m1 b1) a0 m.m2 b2) a1 m.m3 b0) a1 m.m4 b1) a1 m.m5 b2) a2 m.m6 b0) a2 m.m7 b1) a2 m.m8 b2
def Q9 (a0 a1 a2 : Int) (m : M9) (b0 b1 b2 : Int) : Int := a0 * m.m0 * b0 + a0 * m.m1 * b1 + a0 * m.m2 * b2 + a1 * m.m3 * b0 + a1 * m.m4 * b1 + a1 * m.m5 * b2 + a2 * m.m6 * b0 + a2 * m.m7 * b1 + a2 * m.m8 * b2
theorem stp_cg {p s t : Int} (a m b : Int) (h : Cg p s t) : Cg p (stp p s a m b) (t + a * m * b) := (Cg.mod p _).trans (h.add ((Cg.mod p _).mulR b))
theorem t9_cg (p a0 a1 a2 : Int) (m : M9) (b0 b1 b2 : Int) : Cg p (t9 p a0 a1 a2 m b0 b1 b2) (Q9 a0 a1 a2 m b0 b1 b2) := by
  unfold t9
  refine Cg.trans (stp_cg _ _ _ (stp_cg _ _ _ (stp_cg _ _ _ (stp_cg _ _ _ (stp_cg _ _ _ (stp_cg _ _ _ (stp_cg _ _ _ (stp_cg _ _ _ (stp_cg _ _ _ (Cg.refl p 0)))))))))) (Cg.of_eq ?_)
  unfold Q9
  omega
theorem Q9_mul {p f a0 a1 a2 b0 b1 b2 x0 x1 x2 y0 y1 y2 : Int} (m : M9) (h0 : Cg p x0 (f * a0)) (h1 : Cg p x1 (f * a1)) (h2 : Cg p x2 (f * a2)) (g0 : Cg p y0 (f * b0)) (g1 : Cg p y1 (f * b1)) (g2 : Cg p y2 (f * b2)) :
    Cg p (Q9 x0 x1 x2 m y0 y1 y2) (f * f * Q9 a0 a1 a2 m b0 b1 b2) := by
  unfold Q9
  refine Cg.trans (Cg.add (Cg.add (Cg.add (Cg.add (Cg.add (Cg.add (Cg.add (Cg.add ((h0.mulR m.m0).mul g0) ((h0.mulR m.m1).mul g1)) ((h0.mulR m.m2).mul g2)) ((h1.mulR m.m3).mul g0)) ((h1.mulR m.m4).mul g1)) ((h1.mulR m.m5).mul g2)) ((h2.mulR m.m6).mul g0)) ((h2.mulR m.m7).mul g1)) ((h2.mulR m.m8).mul g2)) (Cg.of_eq ?_)
  grind
theorem q_cg (p a0 a1 a2 : Int) (m : M9) (b0 b1 b2 : Int) : Cg p (dot3 p a0 a1 a2 (dot3 p m.m0 m.m1 m.m2 b0 b1 b2) (dot3 p m.m3 m.m4 m.m5 b0 b1 b2) (dot3 p m.m6 m.m7 m.m8 b0 b1 b2)) (Q9 a0 a1 a2 m b0 b1 b2) := by
  refine (dot_cg p _ _ _ _ _ _).trans (Cg.trans ((((dot_cg p _ _ _ _ _ _).mulL a0).add ((dot_cg p _ _ _ _ _ _).mulL a1)).add ((dot_cg p _ _ _ _ _ _).mulL a2)) (Cg.of_eq ?_))
  unfold Q9
  grind
/-- The reference's list, of a map and a matrix. -/
def imS (p : Int) (b m : M9) : C6 := nmC p (t9 p b.m0 b.m3 b.m6 m b.m0 b.m3 b.m6 * inv p 2 % p) (t9 p b.m1 b.m4 b.m7 m b.m1 b.m4 b.m7 * inv p 2 % p) (t9 p b.m2 b.m5 b.m8 m b.m2 b.m5 b.m8 * inv p 2 % p) (t9 p b.m0 b.m3 b.m6 m b.m1 b.m4 b.m7) (t9 p b.m0 b.m3 b.m6 m b.m2 b.m5 b.m8) (t9 p b.m1 b.m4 b.m7 m b.m2 b.m5 b.m8)
theorem nmC_mul {p l x0 x1 x2 x3 x4 x5 y0 y1 y2 y3 y4 y5 : Int} (hp : isP p = true) (hl : ¬ p ∣ l) (h0 : Cg p y0 (l * x0)) (h1 : Cg p y1 (l * x1)) (h2 : Cg p y2 (l * x2)) (h3 : Cg p y3 (l * x3)) (h4 : Cg p y4 (l * x4)) (h5 : Cg p y5 (l * x5)) :
    nmC p y0 y1 y2 y3 y4 y5 = nmC p x0 x1 x2 x3 x4 x5 := by
  have h := fac_mul hp hl (.cons h0 (.cons h1 (.cons h2 (.cons h3 (.cons h4 (.cons h5 .nil))))))
  unfold nmC
  rw [nr_mul h h0, nr_mul h h1, nr_mul h h2, nr_mul h h3, nr_mul h h4, nr_mul h h5]
theorem two_nd {p : Int} (hp : isP p = true) : ¬ p ∣ 2 := by
  have k1 := isP_lo hp
  intro h
  have := Int.le_of_dvd (by omega) h
  omega
theorem half_nd {p : Int} (hp : isP p = true) : ¬ p ∣ inv p 2 := by
  intro h
  have h1 := Cg.inv hp (two_nd hp)
  have h2 : Cg p (2 * inv p 2) 0 := Cg.zero.2 (Int.dvd_mul_of_dvd_right h)
  have h3 := h1.symm.trans h2
  unfold Cg at h3
  have k1 := isP_lo hp
  have := Int.le_of_dvd (by omega) h3
  omega
theorem imS_eq {p : Int} (hp : isP p = true) {m : M9} {c : C6} (hm : isMap p m = true) : imS p (bkM p m) (mxC p c) = imC p m c := by
  have hB := nmM_is p (adM p m)
  have hf : ¬ p ∣ fac p (adM p m).l := fac_nd hp (adM_nd hp (isMap_dI hm))
  have hl : ¬ p ∣ fac p (adM p m).l * fac p (adM p m).l * inv p 2 := nd_mul hp (nd_mul hp hf hf) (half_nd hp)
  have hin := Cg.inv hp (two_nd hp)
  unfold imS imC coOf bkM
  generalize mxC p c = k at *
  generalize nmM p (adM p m) = b at *
  generalize adM p m = n at *
  generalize fac p n.l = f at *
  obtain ⟨h0, h1, h2, h3, h4, h5, h6, h7, h8⟩ := hB
  have T : ∀ {x0 x1 x2 y0 y1 y2 a0 a1 a2 b0 b1 b2 : Int}, Cg p x0 (f * a0) → Cg p x1 (f * a1) → Cg p x2 (f * a2) → Cg p y0 (f * b0) → Cg p y1 (f * b1) → Cg p y2 (f * b2) →
      Cg p (t9 p x0 x1 x2 k y0 y1 y2) (f * f * dot3 p a0 a1 a2 (dot3 p k.m0 k.m1 k.m2 b0 b1 b2) (dot3 p k.m3 k.m4 k.m5 b0 b1 b2) (dot3 p k.m6 k.m7 k.m8 b0 b1 b2)) :=
    fun e0 e1 e2 g0 g1 g2 => (t9_cg p _ _ _ k _ _ _).trans ((Q9_mul k e0 e1 e2 g0 g1 g2).trans ((q_cg p _ _ _ k _ _ _).symm.mulL _))
  have D : ∀ {t q : Int}, Cg p t (f * f * q) → Cg p (t * inv p 2 % p) (f * f * inv p 2 * q) := fun h => (Cg.mod p _).trans ((h.mulR _).trans (Cg.of_eq (by grind)))
  have O : ∀ {t q : Int}, Cg p t (f * f * q) → Cg p t (f * f * inv p 2 * (2 * q)) := fun {t q} h => h.trans ((Cg.of_eq (show f * f * q = 1 * (f * f * q) by omega)).trans ((hin.symm.mulR _).trans (Cg.of_eq (by grind))))
  unfold prM trM
  dsimp only
  exact nmC_mul hp hl (D (T h0 h3 h6 h0 h3 h6)) (D (T h1 h4 h7 h1 h4 h7)) (D (T h2 h5 h8 h2 h5 h8)) (O (T h0 h3 h6 h1 h4 h7)) (O (T h0 h3 h6 h2 h5 h8)) (O (T h1 h4 h7 h2 h5 h8))
end Go.Proofs.Ytemimkbngfbomaa
