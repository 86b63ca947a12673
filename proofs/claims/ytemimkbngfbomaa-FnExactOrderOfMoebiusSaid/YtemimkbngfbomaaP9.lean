/- Moebius maps: products injective, orders end; plain facts, no program in sight. -/
import Derived.Test.YtemimkbngfbomaaW11
import Derived.Test.YtemimkbngfbomaaP7
namespace Go.Proofs.Ytemimkbngfbomaa
set_option linter.unusedSimpArgs false
set_option linter.unusedVariables false

theorem mo_lin {p : Int} (hp : isP p = true) {n : M4} (hd : ¬ p ∣ n.a * n.d - n.b * n.c) {x y : Int} (h0 : p ∣ x * n.a + y * n.c) (h1 : p ∣ x * n.b + y * n.d) : p ∣ x ∧ p ∣ y := by
  have key : ∀ {v u0 u1 : Int}, (n.a * n.d - n.b * n.c) * v = u0 * (x * n.a + y * n.c) + u1 * (x * n.b + y * n.d) → p ∣ v := by
    intro v u0 u1 h
    have : p ∣ (n.a * n.d - n.b * n.c) * v := by rw [h]; exact Int.dvd_add (Int.dvd_mul_of_dvd_right h0) (Int.dvd_mul_of_dvd_right h1)
    exact (pr_dvd hp this).resolve_left hd
  exact ⟨key (u0 := n.d) (u1 := -n.c) (by grind), key (u0 := -n.b) (u1 := n.a) (by grind)⟩
theorem isMoE_n {p : Int} {m : M4} (h : isMoE p m = true) : isN p [m.a, m.b, m.c, m.d] = true := by
  unfold isMoE isMo at h
  rw [Bool.and_eq_true] at h
  exact h.1
theorem isMoE_d {p : Int} {m : M4} (h : isMoE p m = true) : ¬ p ∣ m.a * m.d - m.b * m.c := by
  unfold isMoE isMo at h
  rw [Bool.and_eq_true] at h
  intro h'
  have := dvd_em.1 h'
  simp [this] at h
theorem fac4_nd {p a b c d : Int} (hp : isP p = true) (h : ¬ p ∣ a * d - b * c) : ¬ p ∣ fac p [a, b, c, d] := by
  apply fac_pos_nd hp
  intro h0
  rw [fac_zero hp] at h0
  have ha := dvd_em.2 (h0 a (by simp))
  have hb := dvd_em.2 (h0 b (by simp))
  exact h (Int.dvd_sub (Int.dvd_mul_of_dvd_left ha) (Int.dvd_mul_of_dvd_left hb))
theorem nm4_mo {p a b c d : Int} (hp : isP p = true) (h : ¬ p ∣ a * d - b * c) : isMoE p (nm4 p a b c d) = true := by
  have hf := fac4_nd hp h
  have hf0 : fac p [a, b, c, d] ≠ 0 := fun e => hf (by rw [e]; exact Int.dvd_zero p)
  have h1 := lead_nr hp _ hf0
  have hr : ∀ x ∈ [a, b, c, d].map (nr p (fac p [a, b, c, d])), 0 ≤ x ∧ x ≤ p - 1 := by
    intro x hx
    rw [List.mem_map] at hx
    obtain ⟨y, _, rfl⟩ := hx
    exact ⟨nr_lo hp _ _, nr_hi hp _ _⟩
  have hn : isN p ([a, b, c, d].map (nr p (fac p [a, b, c, d]))) = true := by
    unfold isN numsB
    rw [h1]
    simp only [beq_self_eq_true, Bool.true_and, List.all_eq_true]
    intro x hx
    exact inB_iff.2 (hr x hx)
  generalize hg : fac p [a, b, c, d] = f at *
  have hdet : ¬ p ∣ nr p f a * nr p f d - nr p f b * nr p f c := by
    have e : Cg p (nr p f a * nr p f d - nr p f b * nr p f c) (f * f * (a * d - b * c)) :=
      (((nr_cg p f a).mul (nr_cg p f d)).sub ((nr_cg p f b).mul (nr_cg p f c))).trans (Cg.of_eq (by grind))
    exact e.symm.ndvd (nd_mul hp (nd_mul hp hf hf) h)
  unfold isMoE isMo nm4
  rw [hg]
  have hn' : isN p [nr p f a, nr p f b, nr p f c, nr p f d] = true := hn
  simp only [hn', Bool.true_and, Bool.not_eq_true', beq_eq_false_iff_ne, ne_eq]
  exact fun e => hdet (dvd_em.2 e)
theorem nm4_id {p : Int} (hp : isP p = true) {m : M4} (h : isN p [m.a, m.b, m.c, m.d] = true) : nm4 p m.a m.b m.c m.d = m := by
  have hm := isN_mem h
  have hl : lead [m.a, m.b, m.c, m.d] = 1 := by unfold isN at h; simp at h; exact h.1
  unfold nm4
  rw [lead_fac hp hm hl, nr_one (hm _ (by simp)).1 (hm _ (by simp)).2, nr_one (hm _ (by simp)).1 (hm _ (by simp)).2, nr_one (hm _ (by simp)).1 (hm _ (by simp)).2, nr_one (hm _ (by simp)).1 (hm _ (by simp)).2]
theorem moMul_det {p : Int} (hp : isP p = true) {m n : M4} (hm : isMoE p m = true) (hn : isMoE p n = true) :
    ¬ p ∣ (m.a * n.a + m.b * n.c) * (m.c * n.b + m.d * n.d) - (m.a * n.b + m.b * n.d) * (m.c * n.a + m.d * n.c) := by
  have e : (m.a * n.a + m.b * n.c) * (m.c * n.b + m.d * n.d) - (m.a * n.b + m.b * n.d) * (m.c * n.a + m.d * n.c) = (m.a * m.d - m.b * m.c) * (n.a * n.d - n.b * n.c) := by grind
  rw [e]
  exact nd_mul hp (isMoE_d hm) (isMoE_d hn)
theorem moMul_mo {p : Int} (hp : isP p = true) {m n : M4} (hm : isMoE p m = true) (hn : isMoE p n = true) : isMoE p (moMul p m n) = true := nm4_mo hp (moMul_det hp hm hn)
theorem moMul_inj {p : Int} (hp : isP p = true) {m x y : M4} (hm : isMoE p m = true) (hx : isMoE p x = true) (hy : isMoE p y = true) (h : moMul p x m = moMul p y m) : x = y := by
  have nx := fac4_nd hp (moMul_det hp hx hm)
  have ny := fac4_nd hp (moMul_det hp hy hm)
  unfold moMul nm4 at h
  generalize fac p [x.a * m.a + x.b * m.c, x.a * m.b + x.b * m.d, x.c * m.a + x.d * m.c, x.c * m.b + x.d * m.d] = s at nx h
  generalize fac p [y.a * m.a + y.b * m.c, y.a * m.b + y.b * m.d, y.c * m.a + y.d * m.c, y.c * m.b + y.d * m.d] = t at ny h
  injection h with h0 h1 h2 h3
  have key : ∀ {u v : Int}, nr p s u = nr p t v → p ∣ s * u - t * v := fun {u v} e => ((nr_cg p s u).symm.trans (Cg.of_eq e)).trans (nr_cg p t v)
  have two : ∀ {a b a' b' : Int}, nr p s (a * m.a + b * m.c) = nr p t (a' * m.a + b' * m.c) → nr p s (a * m.b + b * m.d) = nr p t (a' * m.b + b' * m.d) → p ∣ s * a - t * a' ∧ p ∣ s * b - t * b' := by
    intro a b a' b' e f
    have e := key e
    have f := key f
    exact mo_lin hp (isMoE_d hm) (by rw [show (s * a - t * a') * m.a + (s * b - t * b') * m.c = s * (a * m.a + b * m.c) - t * (a' * m.a + b' * m.c) by grind]; exact e)
      (by rw [show (s * a - t * a') * m.b + (s * b - t * b') * m.d = s * (a * m.b + b * m.d) - t * (a' * m.b + b' * m.d) by grind]; exact f)
  obtain ⟨k0, k1⟩ := two h0 h1
  obtain ⟨k2, k3⟩ := two h2 h3
  have fin : ∀ {u v : Int}, p ∣ s * u - t * v → Cg p v ((inv p t * s) * u) := by
    intro u v k
    refine Cg.symm ((Cg.of_eq (show _ = inv p t * (s * u) by grind)).trans (((show Cg p (s * u) (t * v) from k).mulL _).trans ((Cg.of_eq (show _ = (t * inv p t) * v by grind)).trans (((Cg.inv hp ny).mulR v).trans (Cg.of_eq (by omega))))))
  have hl := nd_mul hp (inv_nd hp ny) nx
  have hfm := fac_mul hp hl (.cons (fin k0) (.cons (fin k1) (.cons (fin k2) (.cons (fin k3) .nil))))
  have e : nm4 p y.a y.b y.c y.d = nm4 p x.a x.b x.c x.d := by
    unfold nm4
    rw [nr_mul hfm (fin k0), nr_mul hfm (fin k1), nr_mul hfm (fin k2), nr_mul hfm (fin k3)]
  rw [nm4_id hp (isMoE_n hx), nm4_id hp (isMoE_n hy)] at e
  exact e.symm
def unMo : M4 := ⟨1, 0, 0, 1⟩
theorem unMo_mo {p : Int} (hp : isP p = true) : isMoE p unMo = true := by rcases isP_cases hp with rfl | rfl | rfl | rfl | rfl <;> decide
theorem moMul_un {p : Int} (hp : isP p = true) {m : M4} (hm : isMoE p m = true) : moMul p unMo m = m := by
  have := nm4_id hp (isMoE_n hm)
  unfold moMul unMo
  simpa using this
def cdMo (m : M4) : Nat := m.a.toNat + 13 * (m.b.toNat + 13 * (m.c.toNat + 13 * m.d.toNat))
def moPw (p : Int) (m : M4) (k : Nat) : M4 := itr (fun x => moMul p x m) k m
theorem moPw_mo {p : Int} (hp : isP p = true) {m : M4} (hm : isMoE p m = true) (k : Nat) : isMoE p (moPw p m k) = true := itr_ok (ok := fun x => isMoE p x = true) (fun x hx => moMul_mo hp hx hm) hm k
theorem moPw_un {p : Int} (hp : isP p = true) {m : M4} (hm : isMoE p m = true) (k : Nat) : moPw p m k = itr (fun x => moMul p x m) (k + 1) unMo := by
  induction k with
  | zero => show m = moMul p unMo m; rw [moMul_un hp hm]
  | succ k ih => show moMul p (moPw p m k) m = moMul p (itr (fun x => moMul p x m) (k + 1) unMo) m; rw [ih]
theorem isMoE_sm {p : Int} (hp : isP p = true) {m : M4} (hm : isMoE p m = true) : sm m.a ∧ sm m.b ∧ sm m.c ∧ sm m.d := by
  have h2 := isP_hi hp
  have hn := isN_mem (isMoE_n hm)
  have g : ∀ x ∈ [m.a, m.b, m.c, m.d], sm x := fun x hx => sm_of h2 (hn x hx)
  exact ⟨g _ (by simp), g _ (by simp), g _ (by simp), g _ (by simp)⟩
theorem moOrder_ex {p : Int} (hp : isP p = true) {m : M4} (hm : isMoE p m = true) : ∃ n, n < 28561 ∧ moPw p m n = unMo ∧ ∀ k, k < n → moPw p m k ≠ unMo := by
  have hlt : ∀ x : M4, isMoE p x = true → cdMo x < 28561 := by
    intro x hx
    obtain ⟨h0, h1, h2, h3⟩ := isMoE_sm hp hx
    have := nat_le h0; have := nat_le h1; have := nat_le h2; have := nat_le h3
    unfold cdMo
    omega
  have hinj : ∀ x y : M4, isMoE p x = true → isMoE p y = true → cdMo x = cdMo y → x = y := by
    intro x y hx hy h
    obtain ⟨h0, h1, h2, h3⟩ := isMoE_sm hp hx
    obtain ⟨g0, g1, g2, g3⟩ := isMoE_sm hp hy
    unfold cdMo at h
    obtain ⟨e0, h⟩ := cd_one (nat_le h0) (nat_le g0) h
    obtain ⟨e1, h⟩ := cd_one (nat_le h1) (nat_le g1) h
    obtain ⟨e2, e3⟩ := cd_one (nat_le h2) (nat_le g2) h
    obtain ⟨a, b, c, d⟩ := x
    obtain ⟨a', b', c', d'⟩ := y
    obtain rfl := nat_sm h0 g0 e0
    obtain rfl := nat_sm h1 g1 e1
    obtain rfl := nat_sm h2 g2 e2
    obtain rfl := nat_sm h3 g3 e3
    rfl
  obtain ⟨n, h1, h2, h3⟩ := comes_back (fun x => moMul p x m) (fun x => isMoE p x = true) cdMo 28561 hlt hinj (fun x hx => moMul_mo hp hx hm) (fun x y hx hy h => moMul_inj hp hm hx hy h) (unMo_mo hp)
  obtain ⟨n, rfl⟩ : ∃ k, n = k + 1 := ⟨n - 1, by omega⟩
  rw [← moPw_un hp hm] at h3
  obtain ⟨k, hk, e, f⟩ := first_time (fun k => moPw p m k = unMo) n h3
  exact ⟨k, by omega, e, f⟩
end Go.Proofs.Ytemimkbngfbomaa
