/- Maps: images, products and inverses modulo p, multiples, and orbits that come back; plain facts, no program in sight. -/
import Derived.Test.YtjfabhkgmelmgaaP5
namespace Go.Proofs.Ytjfabhkgmelmgaa
set_option linter.unusedSimpArgs false
set_option linter.unusedVariables false

/-! ### coming back -/
theorem nodup_len {α : Type} [DecidableEq α] : ∀ {l S : List α}, l.Nodup → (∀ x ∈ l, x ∈ S) → l.length ≤ S.length
  | [], _, _, _ => by simp
  | x :: t, S, hn, hs => by
    rw [List.nodup_cons] at hn
    have hx := hs x (by simp)
    have h1 : t.length ≤ (S.erase x).length := nodup_len hn.2 (fun y hy => (List.mem_erase_of_ne (by rintro rfl; exact hn.1 hy)).2 (hs y (by simp [hy])))
    have h2 := List.length_erase_of_mem hx
    have h3 : 0 < S.length := List.length_pos_of_mem hx
    simp only [List.length_cons]
    omega
theorem pigeon (N : Nat) (g : Nat → Nat) (h : ∀ i, g i < N) : ∃ i j, i < j ∧ j ≤ N ∧ g i = g j := by
  by_cases hn : ((List.range (N + 1)).map g).Nodup
  · have := nodup_len (S := List.range N) hn (by intro x hx; rw [List.mem_map] at hx; obtain ⟨i, _, rfl⟩ := hx; exact List.mem_range.2 (h i))
    simp at this
    omega
  · by_cases he : ∃ i j, i < j ∧ j ≤ N ∧ g i = g j
    · exact he
    · exfalso
      apply hn
      unfold List.Nodup
      rw [List.pairwise_map]
      have hp : (List.range (N + 1)).Pairwise (fun a b => a < b ∧ b ≤ N) := by
        rw [List.pairwise_iff_getElem]
        intro i j hi hj hij
        simp at hi hj ⊢
        omega
      exact hp.imp (fun {a b} hab hg => he ⟨a, b, hab.1, hab.2, hg⟩)
def itr {α : Type} (f : α → α) : Nat → α → α
  | 0, a => a
  | n + 1, a => f (itr f n a)
theorem itr_ok {α : Type} {f : α → α} {ok : α → Prop} (hok : ∀ x, ok x → ok (f x)) {a : α} (ha : ok a) : ∀ n, ok (itr f n a)
  | 0 => ha
  | n + 1 => hok _ (itr_ok hok ha n)
theorem comes_back {α : Type} (f : α → α) (ok : α → Prop) (c : α → Nat) (N : Nat) (hc : ∀ x, ok x → c x < N) (hci : ∀ x y, ok x → ok y → c x = c y → x = y)
    (hok : ∀ x, ok x → ok (f x)) (hinj : ∀ x y, ok x → ok y → f x = f y → x = y) {a : α} (ha : ok a) : ∃ n, 1 ≤ n ∧ n ≤ N ∧ itr f n a = a := by
  have ho := itr_ok hok ha
  obtain ⟨i, j, hij, hj, he⟩ := pigeon N (fun i => c (itr f i a)) (fun i => hc _ (ho i))
  have he := hci _ _ (ho i) (ho j) he
  have down : ∀ i d, itr f i a = itr f (i + d) a → a = itr f d a := by
    intro i
    induction i with
    | zero => intro d h; simpa [itr] using h
    | succ i ih =>
      intro d h
      rw [show i + 1 + d = (i + d) + 1 from by omega] at h
      exact ih d (hinj _ _ (ho i) (ho (i + d)) h)
  exact ⟨j - i, by omega, by omega, (down i (j - i) (by rw [show i + (j - i) = j from by omega]; exact he)).symm⟩
/-- The first time that something is so. -/
theorem first_time (q : Nat → Prop) [DecidablePred q] : ∀ n, q n → ∃ m, m ≤ n ∧ q m ∧ ∀ k, k < m → ¬ q k := by
  intro n
  induction n using Nat.strongRecOn with
  | ind n ih =>
    intro h
    by_cases he : ∃ k, k < n ∧ q k
    · obtain ⟨k, hk, hq⟩ := he
      obtain ⟨m, hm, h1, h2⟩ := ih k hk hq
      exact ⟨m, by omega, h1, h2⟩
    · exact ⟨n, Nat.le_refl n, h, fun k hk hq => he ⟨k, hk, hq⟩⟩

/-! ### multiples -/
/-- Two lists are multiples of each other modulo p. -/
inductive Mul (p l : Int) : List Int → List Int → Prop
  | nil : Mul p l [] []
  | cons {x y xs ys} : Cg p y (l * x) → Mul p l xs ys → Mul p l (x :: xs) (y :: ys)
theorem fac_mul {p l : Int} (hp : isP p = true) (hl : ¬ p ∣ l) {xs ys : List Int} (h : Mul p l xs ys) : Cg p (l * fac p ys) (fac p xs) := by
  induction h with
  | nil => exact Cg.of_eq (by simp [fac])
  | @cons x y xs ys hxy _ ih =>
    simp only [fac]
    by_cases hx : x % p = 0
    · have hy : y % p = 0 := by
        rw [← dvd_em] at hx ⊢
        exact Cg.zero.1 (hxy.trans (Cg.zero.2 (Int.dvd_mul_of_dvd_right hx)))
      rw [if_pos hx, if_pos hy]
      exact ih
    · have hx' : ¬ p ∣ x := fun h => hx (dvd_em.1 h)
      have hy' : ¬ p ∣ y := hxy.symm.ndvd (nd_mul hp hl hx')
      have hy : ¬ y % p = 0 := fun h => hy' (dvd_em.2 h)
      rw [if_neg hx, if_neg hy]
      refine Cg.cancel hp hx' ?_
      refine (Cg.of_eq (show _ = (l * x) * inv p y by grind)).trans ((hxy.symm.mulR _).trans ((Cg.inv hp hy').trans (Cg.symm ?_)))
      exact (Cg.of_eq (show _ = x * inv p x by grind)).trans (Cg.inv hp hx')
theorem nr_cg (p f x : Int) : Cg p (nr p f x) (f * x) := by
  unfold nr
  exact (Cg.mod p _).trans (((Cg.mod p x).mulR f).trans (Cg.of_eq (by grind)))
theorem nr_mul {p l x y f g : Int} (h : Cg p (l * g) f) (hxy : Cg p y (l * x)) : nr p g y = nr p f x := by
  have h1 : Cg p (nr p g y) (nr p f x) := (nr_cg p g y).trans (((hxy.mulL g)).trans ((Cg.of_eq (show _ = (l * g) * x by grind)).trans ((h.mulR x).trans (nr_cg p f x).symm)))
  have h2 := h1.em
  unfold nr at h2 ⊢
  simpa [Int.emod_emod_of_dvd _ (Int.dvd_refl p)] using h2
theorem npt_mul {p l x y z x' y' z' : Int} (hp : isP p = true) (hl : ¬ p ∣ l) (hx : Cg p x' (l * x)) (hy : Cg p y' (l * y)) (hz : Cg p z' (l * z)) : npt p x' y' z' = npt p x y z := by
  have h := fac_mul hp hl (.cons hx (.cons hy (.cons hz .nil)))
  unfold npt
  rw [nr_mul h hx, nr_mul h hy, nr_mul h hz]
/-- A map is a multiple of another one. -/
def MulM (p l : Int) (e e' : M9) : Prop := Cg p e'.m0 (l * e.m0) ∧ Cg p e'.m1 (l * e.m1) ∧ Cg p e'.m2 (l * e.m2) ∧ Cg p e'.m3 (l * e.m3) ∧ Cg p e'.m4 (l * e.m4) ∧ Cg p e'.m5 (l * e.m5) ∧ Cg p e'.m6 (l * e.m6) ∧ Cg p e'.m7 (l * e.m7) ∧ Cg p e'.m8 (l * e.m8)
theorem nmM_mul {p l : Int} {e e' : M9} (hp : isP p = true) (hl : ¬ p ∣ l) (h : MulM p l e e') : nmM p e' = nmM p e := by
  obtain ⟨h0, h1, h2, h3, h4, h5, h6, h7, h8⟩ := h
  have h := fac_mul hp hl (.cons h0 (.cons h1 (.cons h2 (.cons h3 (.cons h4 (.cons h5 (.cons h6 (.cons h7 (.cons h8 .nil)))))))))
  unfold nmM M9.l
  rw [nr_mul h h0, nr_mul h h1, nr_mul h h2, nr_mul h h3, nr_mul h h4, nr_mul h h5, nr_mul h h6, nr_mul h h7, nr_mul h h8]
theorem nmM_is (p : Int) (e : M9) : MulM p (fac p e.l) e (nmM p e) := ⟨nr_cg p _ _, nr_cg p _ _, nr_cg p _ _, nr_cg p _ _, nr_cg p _ _, nr_cg p _ _, nr_cg p _ _, nr_cg p _ _, nr_cg p _ _⟩
theorem dot_mul {p l a b c a' b' c' x y z : Int} (ha : Cg p a' (l * a)) (hb : Cg p b' (l * b)) (hc : Cg p c' (l * c)) : Cg p (dot3 p a' b' c' x y z) (l * dot3 p a b c x y z) := by
  unfold dot3
  refine (Cg.mod p _).trans (Cg.trans ?_ ((Cg.mod p _).symm.mulL l))
  exact (((ha.mulR x).add (hb.mulR y)).add (hc.mulR z)).trans (Cg.of_eq (by grind))
theorem imM_mul {p l : Int} {e e' : M9} (hp : isP p = true) (hl : ¬ p ∣ l) (h : MulM p l e e') (a : P3) : imM p e' a = imM p e a := by
  obtain ⟨h0, h1, h2, h3, h4, h5, h6, h7, h8⟩ := h
  exact npt_mul hp hl (dot_mul h0 h1 h2) (dot_mul h3 h4 h5) (dot_mul h6 h7 h8)
theorem trM_mul {p l : Int} {e e' : M9} (h : MulM p l e e') : MulM p l (trM e) (trM e') := by
  obtain ⟨h0, h1, h2, h3, h4, h5, h6, h7, h8⟩ := h
  exact ⟨h0, h3, h6, h1, h4, h7, h2, h5, h8⟩
theorem trM_l (p : Int) (e : M9) (h : ∀ x ∈ e.l, x % p = 0) : ∀ x ∈ (trM e).l, x % p = 0 := by
  intro x hx
  apply h
  simp only [trM, M9.l, List.mem_cons, List.not_mem_nil, or_false] at hx ⊢
  grind

/-! ### determinants -/
def dI (e : M9) : Int := e.m0 * (e.m4 * e.m8 - e.m5 * e.m7) - e.m1 * (e.m3 * e.m8 - e.m5 * e.m6) + e.m2 * (e.m3 * e.m7 - e.m4 * e.m6)
theorem det_dI (p : Int) (e : M9) : e.det p = 0 ↔ p ∣ dI e := by unfold M9.det det3 dI; rw [dvd_em]
theorem dI_cg {p : Int} {a b : M9} (h0 : Cg p a.m0 b.m0) (h1 : Cg p a.m1 b.m1) (h2 : Cg p a.m2 b.m2) (h3 : Cg p a.m3 b.m3) (h4 : Cg p a.m4 b.m4) (h5 : Cg p a.m5 b.m5) (h6 : Cg p a.m6 b.m6) (h7 : Cg p a.m7 b.m7) (h8 : Cg p a.m8 b.m8) :
    Cg p (dI a) (dI b) :=
  ((h0.mul ((h4.mul h8).sub (h5.mul h7))).sub (h1.mul ((h3.mul h8).sub (h5.mul h6)))).add (h2.mul ((h3.mul h7).sub (h4.mul h6)))
theorem dI_mul {p l : Int} {e e' : M9} (h : MulM p l e e') : Cg p (dI e') (l * l * l * dI e) := by
  obtain ⟨h0, h1, h2, h3, h4, h5, h6, h7, h8⟩ := h
  exact (dI_cg (b := ⟨l * e.m0, l * e.m1, l * e.m2, l * e.m3, l * e.m4, l * e.m5, l * e.m6, l * e.m7, l * e.m8⟩) h0 h1 h2 h3 h4 h5 h6 h7 h8).trans (Cg.of_eq (by unfold dI; grind))
theorem dI_tr (e : M9) : dI (trM e) = dI e := by unfold dI trM; grind
theorem isMap_dI {p : Int} {e : M9} (h : isMap p e = true) : ¬ p ∣ dI e := fun h1 => isMap_det h ((det_dI p e).2 h1)
theorem dI_pr (p : Int) (m n : M9) : Cg p (dI (prM p m n)) (dI m * dI n) := by
  refine (dI_cg (b := ⟨m.m0 * n.m0 + m.m1 * n.m3 + m.m2 * n.m6, m.m0 * n.m1 + m.m1 * n.m4 + m.m2 * n.m7, m.m0 * n.m2 + m.m1 * n.m5 + m.m2 * n.m8,
    m.m3 * n.m0 + m.m4 * n.m3 + m.m5 * n.m6, m.m3 * n.m1 + m.m4 * n.m4 + m.m5 * n.m7, m.m3 * n.m2 + m.m4 * n.m5 + m.m5 * n.m8,
    m.m6 * n.m0 + m.m7 * n.m3 + m.m8 * n.m6, m.m6 * n.m1 + m.m7 * n.m4 + m.m8 * n.m7, m.m6 * n.m2 + m.m7 * n.m5 + m.m8 * n.m8⟩)
    (Cg.mod p _) (Cg.mod p _) (Cg.mod p _) (Cg.mod p _) (Cg.mod p _) (Cg.mod p _) (Cg.mod p _) (Cg.mod p _) (Cg.mod p _)).trans (Cg.of_eq ?_)
  unfold dI
  obtain ⟨a, b, c, d, e, f, g, h, i⟩ := m
  obtain ⟨a', b', c', d', e', f', g', h', i'⟩ := n
  simp only
  grind
theorem dI_ad (p : Int) (m : M9) : Cg p (dI (adM p m)) (dI m * dI m) := by
  refine (dI_cg (b := ⟨m.m4 * m.m8 - m.m5 * m.m7, m.m7 * m.m2 - m.m8 * m.m1, m.m1 * m.m5 - m.m2 * m.m4, m.m5 * m.m6 - m.m3 * m.m8, m.m8 * m.m0 - m.m6 * m.m2, m.m2 * m.m3 - m.m0 * m.m5,
    m.m3 * m.m7 - m.m4 * m.m6, m.m6 * m.m1 - m.m7 * m.m0, m.m0 * m.m4 - m.m1 * m.m3⟩)
    (Cg.mod p _) (Cg.mod p _) (Cg.mod p _) (Cg.mod p _) (Cg.mod p _) (Cg.mod p _) (Cg.mod p _) (Cg.mod p _) (Cg.mod p _)).trans (Cg.of_eq ?_)
  unfold dI
  obtain ⟨a, b, c, d, e, f, g, h, i⟩ := m
  simp only
  grind
/-- A map with a determinant leads only zeros to zeros. -/
theorem lin {p : Int} (hp : isP p = true) {m : M9} (hd : ¬ p ∣ dI m) {x y z : Int} (h0 : p ∣ m.m0 * x + m.m1 * y + m.m2 * z) (h1 : p ∣ m.m3 * x + m.m4 * y + m.m5 * z) (h2 : p ∣ m.m6 * x + m.m7 * y + m.m8 * z) :
    p ∣ x ∧ p ∣ y ∧ p ∣ z := by
  have key : ∀ {v u0 u1 u2 : Int}, dI m * v = u0 * (m.m0 * x + m.m1 * y + m.m2 * z) + u1 * (m.m3 * x + m.m4 * y + m.m5 * z) + u2 * (m.m6 * x + m.m7 * y + m.m8 * z) → p ∣ v := by
    intro v u0 u1 u2 h
    have : p ∣ dI m * v := by rw [h]; exact Int.dvd_add (Int.dvd_add (Int.dvd_mul_of_dvd_right h0) (Int.dvd_mul_of_dvd_right h1)) (Int.dvd_mul_of_dvd_right h2)
    exact (pr_dvd hp this).resolve_left hd
  refine ⟨key (u0 := m.m4 * m.m8 - m.m5 * m.m7) (u1 := m.m7 * m.m2 - m.m8 * m.m1) (u2 := m.m1 * m.m5 - m.m2 * m.m4) (by unfold dI; grind),
    key (u0 := m.m5 * m.m6 - m.m3 * m.m8) (u1 := m.m8 * m.m0 - m.m6 * m.m2) (u2 := m.m2 * m.m3 - m.m0 * m.m5) (by unfold dI; grind),
    key (u0 := m.m3 * m.m7 - m.m4 * m.m6) (u1 := m.m6 * m.m1 - m.m7 * m.m0) (u2 := m.m0 * m.m4 - m.m1 * m.m3) (by unfold dI; grind)⟩

/-! ### normal maps -/
theorem nmM_map {p : Int} (hp : isP p = true) {e : M9} (hd : ¬ p ∣ dI e) : isMap p (nmM p e) = true := by
  have hf := det_fac hp (e := e) (fun h => hd ((det_dI p e).1 h))
  have h1 := lead_nr hp _ hf
  rw [← nmM_l] at h1
  have hr : ∀ x ∈ (nmM p e).l, 0 ≤ x ∧ x ≤ p - 1 := by
    intro x hx
    rw [nmM_l, List.mem_map] at hx
    obtain ⟨y, _, rfl⟩ := hx
    exact ⟨nr_lo hp _ _, nr_hi hp _ _⟩
  have hn : isN p (nmM p e).l = true := by
    unfold isN numsB
    rw [h1]
    simp only [beq_self_eq_true, Bool.true_and, List.all_eq_true]
    intro x hx
    exact inB_iff.2 (hr x hx)
  have hnd := fac_pos_nd hp _ hf
  have hdd : ¬ (nmM p e).det p = 0 := fun h => by
    exact (dI_mul (nmM_is p e)).symm.ndvd (nd_mul hp (nd_mul hp (nd_mul hp hnd hnd) hnd) hd) ((det_dI p _).1 h)
  unfold isMap
  rw [hp, hn]
  simpa using hdd
theorem tmM_map {p : Int} {m n : M9} (hm : isMap p m = true) (hn : isMap p n = true) : isMap p (tmM p m n) = true :=
  nmM_map (isMap_pr hm) ((dI_pr p m n).symm.ndvd (nd_mul (isMap_pr hm) (isMap_dI hm) (isMap_dI hn)))
theorem adM_nd {p : Int} {m : M9} (hp : isP p = true) (hm : ¬ p ∣ dI m) : ¬ p ∣ dI (adM p m) := (dI_ad p m).symm.ndvd (nd_mul hp hm hm)
theorem bkM_map {p : Int} {m : M9} (hm : isMap p m = true) : isMap p (bkM p m) = true := nmM_map (isMap_pr hm) (adM_nd (isMap_pr hm) (isMap_dI hm))
theorem trn_map {p : Int} {m : M9} (hp : isP p = true) (hm : ¬ p ∣ dI m) : isMap p (nmM p (trM m)) = true := nmM_map hp (by rw [dI_tr]; exact hm)
theorem fac_nd {p : Int} {e : M9} (hp : isP p = true) (hd : ¬ p ∣ dI e) : ¬ p ∣ fac p e.l := fac_pos_nd hp _ (det_fac hp (fun h => hd ((det_dI p e).1 h)))
/-- The image of a line: by the adjoint or by the inverse. -/
def imL (p : Int) (m : M9) (l : P3) : P3 := imM p (trM (adM p m)) l
theorem imL_eq {p : Int} {m : M9} (hm : isMap p m = true) (l : P3) : imM p (nmM p (trM (bkM p m))) l = imL p m l := by
  have hp := isMap_pr hm
  have hd := isMap_dI (bkM_map hm)
  rw [imM_mul hp (fac_nd hp (by rw [dI_tr]; exact hd)) (nmM_is p (trM (bkM p m)))]
  exact imM_mul hp (fac_nd hp (adM_nd hp (isMap_dI hm))) (trM_mul (nmM_is p (adM p m))) l

/-! ### images of points are points, of different points different -/
theorem dot_nz {p : Int} {m : M9} (hp : isP p = true) (hd : ¬ p ∣ dI m) {a : P3} (ha : isPt p a = true) : fac p [dot3 p m.m0 m.m1 m.m2 a.x a.y a.z, dot3 p m.m3 m.m4 m.m5 a.x a.y a.z, dot3 p m.m6 m.m7 m.m8 a.x a.y a.z] ≠ 0 := by
  intro h
  rw [fac_zero hp] at h
  simp only [List.mem_cons, List.not_mem_nil, or_false, forall_eq_or_imp, forall_eq, dot3, Int.emod_emod_of_dvd _ (Int.dvd_refl p)] at h
  obtain ⟨h0, h1, h2⟩ := h
  have := lin hp hd (dvd_em.2 h0) (dvd_em.2 h1) (dvd_em.2 h2)
  have hf := fac_norm ha
  have h0 : fac p [a.x, a.y, a.z] = 0 := by
    rw [fac_zero hp]
    simp only [List.mem_cons, List.not_mem_nil, or_false, forall_eq_or_imp, forall_eq]
    exact ⟨dvd_em.1 this.1, dvd_em.1 this.2.1, dvd_em.1 this.2.2⟩
  omega
theorem imM_pt {p : Int} {m : M9} (hp : isP p = true) (hd : ¬ p ∣ dI m) {a : P3} (ha : isPt p a = true) : isPt p (imM p m a) = true := npt_pt hp (dot_nz hp hd ha)
theorem dot_cg (p a b c x y z : Int) : Cg p (dot3 p a b c x y z) (a * x + b * y + c * z) := Cg.mod p _
theorem imM_inj {p : Int} {m : M9} (hp : isP p = true) (hd : ¬ p ∣ dI m) {a b : P3} (ha : isPt p a = true) (hb : isPt p b = true) (h : imM p m a = imM p m b) : a = b := by
  obtain ⟨s, hs, h0, h1, h2⟩ := npt_cg hp (dot_nz hp hd ha)
  obtain ⟨t, ht, g0, g1, g2⟩ := npt_cg hp (dot_nz hp hd hb)
  have hc : imM p m a = npt p (dot3 p m.m0 m.m1 m.m2 a.x a.y a.z) (dot3 p m.m3 m.m4 m.m5 a.x a.y a.z) (dot3 p m.m6 m.m7 m.m8 a.x a.y a.z) := rfl
  have hc' : imM p m b = npt p (dot3 p m.m0 m.m1 m.m2 b.x b.y b.z) (dot3 p m.m3 m.m4 m.m5 b.x b.y b.z) (dot3 p m.m6 m.m7 m.m8 b.x b.y b.z) := rfl
  rw [← hc, h] at h0 h1 h2
  rw [← hc'] at g0 g1 g2
  generalize imM p m b = c at h0 h1 h2 g0 g1 g2
  have key : ∀ {u v w c : Int}, Cg p (dot3 p u v w a.x a.y a.z) (s * c) → Cg p (dot3 p u v w b.x b.y b.z) (t * c) → p ∣ u * (t * a.x - s * b.x) + v * (t * a.y - s * b.y) + w * (t * a.z - s * b.z) := by
    intro u v w c e f
    have e := (dot_cg p u v w a.x a.y a.z).symm.trans e
    have f := (dot_cg p u v w b.x b.y b.z).symm.trans f
    refine Cg.zero.1 ((Cg.of_eq (show _ = t * (u * a.x + v * a.y + w * a.z) - s * (u * b.x + v * b.y + w * b.z) by grind)).trans (((e.mulL t).sub (f.mulL s)).trans (Cg.of_eq (by grind))))
  obtain ⟨k0, k1, k2⟩ := lin hp hd (key h0 g0) (key h1 g1) (key h2 g2)
  exact prop_eq (y := s) ha hb ht ⟨k0, k1, k2⟩
theorem tmM_inj {p : Int} {m x y : M9} (hm : isMap p m = true) (hx : isMap p x = true) (hy : isMap p y = true) (h : tmM p x m = tmM p y m) : x = y := by
  have hp := isMap_pr hm
  have hdt : ¬ p ∣ dI (trM m) := by rw [dI_tr]; exact isMap_dI hm
  have nx := fac_nd hp ((dI_pr p x m).symm.ndvd (nd_mul hp (isMap_dI hx) (isMap_dI hm)))
  have ny := fac_nd hp ((dI_pr p y m).symm.ndvd (nd_mul hp (isMap_dI hy) (isMap_dI hm)))
  have ex := nmM_is p (prM p x m)
  have ey := nmM_is p (prM p y m)
  unfold tmM at h
  rw [h] at ex
  generalize fac p (prM p x m).l = s at nx ex
  generalize fac p (prM p y m).l = t at ny ey
  generalize nmM p (prM p y m) = n at ex ey
  obtain ⟨a0, a1, a2, a3, a4, a5, a6, a7, a8⟩ := ex
  obtain ⟨b0, b1, b2, b3, b4, b5, b6, b7, b8⟩ := ey
  have key : ∀ {n u v w u' v' w' a b c : Int}, Cg p n (s * dot3 p u v w a b c) → Cg p n (t * dot3 p u' v' w' a b c) → p ∣ a * (s * u - t * u') + b * (s * v - t * v') + c * (s * w - t * w') := by
    intro n u v w u' v' w' a b c e f
    have e := e.trans ((dot_cg p u v w a b c).mulL s)
    have f := f.trans ((dot_cg p u' v' w' a b c).mulL t)
    refine Cg.zero.1 ((Cg.of_eq (show _ = s * (u * a + v * b + w * c) - t * (u' * a + v' * b + w' * c) by grind)).trans (((e.symm).sub (f.symm)).trans (Cg.of_eq (by grind))))
  obtain ⟨k0, k1, k2⟩ := lin hp hdt (key a0 b0) (key a1 b1) (key a2 b2)
  obtain ⟨k3, k4, k5⟩ := lin hp hdt (key a3 b3) (key a4 b4) (key a5 b5)
  obtain ⟨k6, k7, k8⟩ := lin hp hdt (key a6 b6) (key a7 b7) (key a8 b8)
  have fin : ∀ {u v : Int}, p ∣ s * u - t * v → Cg p v ((inv p t * s) * u) := by
    intro u v k
    refine Cg.symm ((Cg.of_eq (show _ = inv p t * (s * u) by grind)).trans (((show Cg p (s * u) (t * v) from k).mulL _).trans ((Cg.of_eq (show _ = (t * inv p t) * v by grind)).trans (((Cg.inv hp ny).mulR v).trans (Cg.of_eq (by omega))))))
  have := nmM_mul (e := x) (e' := y) hp (nd_mul hp (inv_nd hp ny) nx) ⟨fin k0, fin k1, fin k2, fin k3, fin k4, fin k5, fin k6, fin k7, fin k8⟩
  rw [nmM_id hp (isMap_n hx), nmM_id hp (isMap_n hy)] at this
  exact this.symm

/-! ### orders and orbits -/
def unM : M9 := ⟨1, 0, 0, 0, 1, 0, 0, 0, 1⟩
theorem tmM_un {p : Int} {m : M9} (hm : isMap p m = true) : tmM p unM m = m := by
  have hp := isMap_pr hm
  have h : prM p unM m = ⟨m.m0 % p, m.m1 % p, m.m2 % p, m.m3 % p, m.m4 % p, m.m5 % p, m.m6 % p, m.m7 % p, m.m8 % p⟩ := by
    unfold prM unM dot3
    simp
  unfold tmM
  have hn := isN_mem (isMap_n hm)
  have e : ∀ x ∈ m.l, x % p = x := fun x hx => Int.emod_eq_of_lt (hn x hx).1 (by have := (hn x hx).2; omega)
  rw [h, e m.m0 (by simp [M9.l]), e m.m1 (by simp [M9.l]), e m.m2 (by simp [M9.l]), e m.m3 (by simp [M9.l]), e m.m4 (by simp [M9.l]), e m.m5 (by simp [M9.l]), e m.m6 (by simp [M9.l]), e m.m7 (by simp [M9.l]), e m.m8 (by simp [M9.l])]
  exact nmM_id hp (isMap_n hm)
theorem unM_map {p : Int} (hp : isP p = true) : isMap p unM = true := by
  rcases isP_cases hp with rfl | rfl | rfl | rfl | rfl <;> decide
def cdM (e : M9) : Nat := e.m0.toNat + 13 * (e.m1.toNat + 13 * (e.m2.toNat + 13 * (e.m3.toNat + 13 * (e.m4.toNat + 13 * (e.m5.toNat + 13 * (e.m6.toNat + 13 * (e.m7.toNat + 13 * e.m8.toNat)))))))
theorem cd_one {a b x y : Nat} (ha : a ≤ 12) (hb : b ≤ 12) (h : a + 13 * x = b + 13 * y) : a = b ∧ x = y := by omega
theorem cdM_lt {p : Int} {e : M9} (h : isMap p e = true) : cdM e < 10604499373 := by
  obtain ⟨h0, h1, h2, h3, h4, h5, h6, h7, h8⟩ := isMap_sm h
  unfold sm at *
  unfold cdM
  omega
theorem nat_sm {x y : Int} (hx : sm x) (hy : sm y) (h : x.toNat = y.toNat) : x = y := by unfold sm at hx hy; omega
theorem nat_le {x : Int} (hx : sm x) : x.toNat ≤ 12 := by unfold sm at hx; omega
theorem cdM_inj {p : Int} {a b : M9} (ha : isMap p a = true) (hb : isMap p b = true) (h : cdM a = cdM b) : a = b := by
  obtain ⟨h0, h1, h2, h3, h4, h5, h6, h7, h8⟩ := isMap_sm ha
  obtain ⟨g0, g1, g2, g3, g4, g5, g6, g7, g8⟩ := isMap_sm hb
  unfold cdM at h
  obtain ⟨e0, h⟩ := cd_one (nat_le h0) (nat_le g0) h
  obtain ⟨e1, h⟩ := cd_one (nat_le h1) (nat_le g1) h
  obtain ⟨e2, h⟩ := cd_one (nat_le h2) (nat_le g2) h
  obtain ⟨e3, h⟩ := cd_one (nat_le h3) (nat_le g3) h
  obtain ⟨e4, h⟩ := cd_one (nat_le h4) (nat_le g4) h
  obtain ⟨e5, h⟩ := cd_one (nat_le h5) (nat_le g5) h
  obtain ⟨e6, h⟩ := cd_one (nat_le h6) (nat_le g6) h
  obtain ⟨e7, e8⟩ := cd_one (nat_le h7) (nat_le g7) h
  exact M9_ext (by unfold M9.l; rw [nat_sm h0 g0 e0, nat_sm h1 g1 e1, nat_sm h2 g2 e2, nat_sm h3 g3 e3, nat_sm h4 g4 e4, nat_sm h5 g5 e5, nat_sm h6 g6 e6, nat_sm h7 g7 e7, nat_sm h8 g8 e8])
/-- The powers of a map: the k-th is the (k + 1)-th power. -/
def pwM (p : Int) (m : M9) (k : Nat) : M9 := itr (fun x => tmM p x m) k m
theorem pwM_map {p : Int} {m : M9} (hm : isMap p m = true) (k : Nat) : isMap p (pwM p m k) = true := itr_ok (ok := fun x => isMap p x = true) (fun x hx => tmM_map hx hm) hm k
theorem pw_un {p : Int} {m : M9} (hm : isMap p m = true) (k : Nat) : pwM p m k = itr (fun x => tmM p x m) (k + 1) unM := by
  induction k with
  | zero => show m = tmM p unM m; rw [tmM_un hm]
  | succ k ih => show tmM p (pwM p m k) m = tmM p (itr (fun x => tmM p x m) (k + 1) unM) m; rw [ih]
/-- The first power that is the unit. -/
theorem order_ex {p : Int} {m : M9} (hm : isMap p m = true) : ∃ n, n < 10604499373 ∧ pwM p m n = unM ∧ ∀ k, k < n → pwM p m k ≠ unM := by
  obtain ⟨n, h1, h2, h3⟩ := comes_back (fun x => tmM p x m) (fun x => isMap p x = true) cdM 10604499373 (fun _ h => cdM_lt h) (fun _ _ h g => cdM_inj h g) (fun x hx => tmM_map hx hm) (fun x y hx hy h => tmM_inj hm hx hy h) (unM_map (isMap_pr hm))
  obtain ⟨n, rfl⟩ : ∃ k, n = k + 1 := ⟨n - 1, by omega⟩
  rw [← pw_un hm] at h3
  obtain ⟨k, hk, e, f⟩ := first_time (fun k => pwM p m k = unM) n h3
  exact ⟨k, by omega, e, f⟩
def cdP (a : P3) : Nat := a.x.toNat + 13 * (a.y.toNat + 13 * a.z.toNat)
theorem cdP_lt {p : Int} {a : P3} (h : isPt p a = true) : cdP a < 2197 := by
  obtain ⟨h0, h1, h2⟩ := isPt_sm h
  unfold sm at *
  unfold cdP
  omega
theorem cdP_inj {p : Int} {a b : P3} (ha : isPt p a = true) (hb : isPt p b = true) (h : cdP a = cdP b) : a = b := by
  obtain ⟨h0, h1, h2⟩ := isPt_sm ha
  obtain ⟨g0, g1, g2⟩ := isPt_sm hb
  unfold cdP at h
  obtain ⟨e0, h⟩ := cd_one (nat_le h0) (nat_le g0) h
  obtain ⟨e1, e2⟩ := cd_one (nat_le h1) (nat_le g1) h
  obtain ⟨u, v, z⟩ := a
  obtain ⟨u', v', z'⟩ := b
  obtain rfl := nat_sm h0 g0 e0
  obtain rfl := nat_sm h1 g1 e1
  obtain rfl := nat_sm h2 g2 e2
  rfl
/-- The first image of images that is the point again: the k-th here is the (k + 1)-th. -/
theorem orbit_ex {p : Int} {m : M9} {a : P3} (hm : isMap p m = true) (ha : isPt p a = true) : ∃ n, n < 2197 ∧ itr (imM p m) (n + 1) a = a ∧ ∀ k, k < n → itr (imM p m) (k + 1) a ≠ a := by
  have hp := isMap_pr hm
  obtain ⟨n, h1, h2, h3⟩ := comes_back (imM p m) (fun x => isPt p x = true) cdP 2197 (fun _ h => cdP_lt h) (fun _ _ h g => cdP_inj h g) (fun x hx => imM_pt hp (isMap_dI hm) hx) (fun x y hx hy h => imM_inj hp (isMap_dI hm) hx hy h) ha
  obtain ⟨n, rfl⟩ : ∃ k, n = k + 1 := ⟨n - 1, by omega⟩
  obtain ⟨k, hk, e, f⟩ := first_time (fun k => itr (imM p m) (k + 1) a = a) n h3
  exact ⟨k, by omega, e, f⟩
theorem orb_pt {p : Int} {m : M9} {a : P3} (hm : isMap p m = true) (ha : isPt p a = true) (k : Nat) : isPt p (itr (imM p m) k a) = true :=
  itr_ok (ok := fun x => isPt p x = true) (fun x hx => imM_pt (isMap_pr hm) (isMap_dI hm) hx) ha k
end Go.Proofs.Ytjfabhkgmelmgaa
