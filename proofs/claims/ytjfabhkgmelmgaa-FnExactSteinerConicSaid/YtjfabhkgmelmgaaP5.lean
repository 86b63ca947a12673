/- Maps as three rows of three numbers: plain definitions and facts; no program in sight. -/
import Derived.Test.YtjfabhkgmelmgaaP4
namespace Go.Proofs.Ytjfabhkgmelmgaa
set_option linter.unusedSimpArgs false
set_option linter.unusedVariables false

structure M9 where
  m0 : Int
  m1 : Int
  m2 : Int
  m3 : Int
  m4 : Int
  m5 : Int
  m6 : Int
  m7 : Int
  m8 : Int
  deriving DecidableEq
def M9.l (e : M9) : List Int := [e.m0, e.m1, e.m2, e.m3, e.m4, e.m5, e.m6, e.m7, e.m8]
def M9.det (p : Int) (e : M9) : Int := det3 p e.m0 e.m1 e.m2 e.m3 e.m4 e.m5 e.m6 e.m7 e.m8
/-- Nine numbers are a map for p. -/
def isMap (p : Int) (e : M9) : Bool := isP p && (isN p e.l && !(e.det p == 0))
/-- A map with its first number 1. -/
def nmM (p : Int) (e : M9) : M9 :=
  ⟨nr p (fac p e.l) e.m0, nr p (fac p e.l) e.m1, nr p (fac p e.l) e.m2, nr p (fac p e.l) e.m3, nr p (fac p e.l) e.m4, nr p (fac p e.l) e.m5, nr p (fac p e.l) e.m6, nr p (fac p e.l) e.m7, nr p (fac p e.l) e.m8⟩
def dt (p a0 a1 a2 b0 b1 b2 : Int) : Int := dot3 p a0 a1 a2 b0 b1 b2
/-- The product, not made normal. -/
def prM (p : Int) (m n : M9) : M9 :=
  ⟨dot3 p m.m0 m.m1 m.m2 n.m0 n.m3 n.m6, dot3 p m.m0 m.m1 m.m2 n.m1 n.m4 n.m7, dot3 p m.m0 m.m1 m.m2 n.m2 n.m5 n.m8,
   dot3 p m.m3 m.m4 m.m5 n.m0 n.m3 n.m6, dot3 p m.m3 m.m4 m.m5 n.m1 n.m4 n.m7, dot3 p m.m3 m.m4 m.m5 n.m2 n.m5 n.m8,
   dot3 p m.m6 m.m7 m.m8 n.m0 n.m3 n.m6, dot3 p m.m6 m.m7 m.m8 n.m1 n.m4 n.m7, dot3 p m.m6 m.m7 m.m8 n.m2 n.m5 n.m8⟩
def tmM (p : Int) (m n : M9) : M9 := nmM p (prM p m n)
def trM (m : M9) : M9 := ⟨m.m0, m.m3, m.m6, m.m1, m.m4, m.m7, m.m2, m.m5, m.m8⟩
/-- A multiple of the inverse. -/
def adM (p : Int) (m : M9) : M9 :=
  ⟨(m.m4 * m.m8 - m.m5 * m.m7) % p, (m.m7 * m.m2 - m.m8 * m.m1) % p, (m.m1 * m.m5 - m.m2 * m.m4) % p,
   (m.m5 * m.m6 - m.m3 * m.m8) % p, (m.m8 * m.m0 - m.m6 * m.m2) % p, (m.m2 * m.m3 - m.m0 * m.m5) % p,
   (m.m3 * m.m7 - m.m4 * m.m6) % p, (m.m6 * m.m1 - m.m7 * m.m0) % p, (m.m0 * m.m4 - m.m1 * m.m3) % p⟩
def bkM (p : Int) (m : M9) : M9 := nmM p (adM p m)
/-- The point to which a map leads a point. -/
def imM (p : Int) (m : M9) (a : P3) : P3 := npt p (dot3 p m.m0 m.m1 m.m2 a.x a.y a.z) (dot3 p m.m3 m.m4 m.m5 a.x a.y a.z) (dot3 p m.m6 m.m7 m.m8 a.x a.y a.z)
theorem isMap_pr {p : Int} {e : M9} (h : isMap p e = true) : isP p = true := by unfold isMap at h; simp at h; exact h.1
theorem isMap_n {p : Int} {e : M9} (h : isMap p e = true) : isN p e.l = true := by unfold isMap at h; simp at h; exact h.2.1
theorem isMap_det {p : Int} {e : M9} (h : isMap p e = true) : e.det p ≠ 0 := by unfold isMap at h; simp at h; exact h.2.2
def smM (e : M9) : Prop := sm e.m0 ∧ sm e.m1 ∧ sm e.m2 ∧ sm e.m3 ∧ sm e.m4 ∧ sm e.m5 ∧ sm e.m6 ∧ sm e.m7 ∧ sm e.m8
theorem isMap_sm {p : Int} {e : M9} (h : isMap p e = true) : smM e := by
  have h2 := isP_hi (isMap_pr h)
  have hn := isN_mem (isMap_n h)
  have g : ∀ x ∈ e.l, sm x := fun x hx => sm_of h2 (hn x hx)
  unfold M9.l at g
  exact ⟨g _ (by simp), g _ (by simp), g _ (by simp), g _ (by simp), g _ (by simp), g _ (by simp), g _ (by simp), g _ (by simp), g _ (by simp)⟩
theorem nr_sm {p : Int} (hp : isP p = true) (f x : Int) : sm (nr p f x) := ⟨nr_lo hp f x, by have := nr_hi hp f x; have := isP_hi hp; omega⟩
theorem em_sm {p : Int} (hp : isP p = true) (x : Int) : sm (x % p) := ⟨Int.emod_nonneg _ (by have := isP_lo hp; omega), by have := Int.emod_lt_of_pos x (b := p) (by have := isP_lo hp; omega); have := isP_hi hp; omega⟩
theorem nmM_sm {p : Int} (hp : isP p = true) (e : M9) : smM (nmM p e) := by
  unfold nmM smM; exact ⟨nr_sm hp _ _, nr_sm hp _ _, nr_sm hp _ _, nr_sm hp _ _, nr_sm hp _ _, nr_sm hp _ _, nr_sm hp _ _, nr_sm hp _ _, nr_sm hp _ _⟩
theorem prM_sm {p : Int} (hp : isP p = true) (m n : M9) : smM (prM p m n) := by
  unfold prM smM dot3; exact ⟨em_sm hp _, em_sm hp _, em_sm hp _, em_sm hp _, em_sm hp _, em_sm hp _, em_sm hp _, em_sm hp _, em_sm hp _⟩
theorem adM_sm {p : Int} (hp : isP p = true) (m : M9) : smM (adM p m) := by
  unfold adM smM; exact ⟨em_sm hp _, em_sm hp _, em_sm hp _, em_sm hp _, em_sm hp _, em_sm hp _, em_sm hp _, em_sm hp _, em_sm hp _⟩
theorem trM_sm {m : M9} (h : smM m) : smM (trM m) := by
  obtain ⟨h0, h1, h2, h3, h4, h5, h6, h7, h8⟩ := h
  exact ⟨h0, h3, h6, h1, h4, h7, h2, h5, h8⟩
theorem npt_sm {p : Int} (hp : isP p = true) (x y z : Int) : sm (npt p x y z).x ∧ sm (npt p x y z).y ∧ sm (npt p x y z).z := ⟨nr_sm hp _ _, nr_sm hp _ _, nr_sm hp _ _⟩
/-- The normal list of a list in range is the list, if its first number other than 0 is 1. -/
theorem lead_fac {p : Int} (hp : isP p = true) : ∀ {zs : List Int}, (∀ z ∈ zs, 0 ≤ z ∧ z ≤ p - 1) → lead zs = 1 → fac p zs = 1
  | [], _, h => by simp [lead] at h
  | z :: zs, hz, h => by
    have k1 := isP_lo hp
    have h0 := hz z (by simp)
    simp only [lead] at h
    simp only [fac]
    have hm : z % p = z := Int.emod_eq_of_lt h0.1 (by omega)
    rw [hm]
    split at h
    · rename_i he
      rw [if_pos he]
      exact lead_fac hp (fun z' hz' => hz z' (by simp [hz'])) h
    · rename_i he
      rw [if_neg he, h, inv_one hp]
theorem nr_one {p x : Int} (h0 : 0 ≤ x) (h1 : x ≤ p - 1) : nr p 1 x = x := by
  unfold nr
  rw [Int.mul_one, Int.emod_emod_of_dvd _ (Int.dvd_refl p), Int.emod_eq_of_lt h0 (by omega)]
theorem nmM_l (p : Int) (e : M9) : (nmM p e).l = e.l.map (nr p (fac p e.l)) := rfl
theorem M9_ext {a b : M9} (h : a.l = b.l) : a = b := by
  cases a; cases b; simp [M9.l] at h; simp [h]
theorem nmM_id {p : Int} (hp : isP p = true) {e : M9} (h : isN p e.l = true) : nmM p e = e := by
  have hm := isN_mem h
  have hl : lead e.l = 1 := by unfold isN at h; simp at h; exact h.1
  apply M9_ext
  rw [nmM_l, lead_fac hp hm hl]
  conv => rhs; rw [← List.map_id e.l]
  apply List.map_congr_left
  intro x hx
  exact nr_one (hm x hx).1 (hm x hx).2
theorem nmM_fix {p : Int} (hp : isP p = true) {e : M9} (hr : ∀ x ∈ e.l, 0 ≤ x ∧ x ≤ p - 1) (hf : fac p e.l ≠ 0) (h : nmM p e = e) : isN p e.l = true := by
  have h1 := lead_nr hp _ hf
  rw [← nmM_l, h] at h1
  unfold isN numsB
  rw [h1]
  simp only [beq_self_eq_true, Bool.true_and, List.all_eq_true]
  intro x hx
  exact inB_iff.2 (hr x hx)
theorem det_fac {p : Int} (hp : isP p = true) {e : M9} (h : e.det p ≠ 0) : fac p e.l ≠ 0 := by
  intro h0
  rw [fac_zero hp] at h0
  apply h
  unfold M9.det det3
  rw [← dvd_em]
  have g : ∀ x ∈ e.l, p ∣ x := fun x hx => dvd_em.2 (h0 x hx)
  unfold M9.l at g
  have g0 := g e.m0 (by simp)
  have g1 := g e.m1 (by simp)
  have g2 := g e.m2 (by simp)
  exact Int.dvd_add (Int.dvd_sub (Int.dvd_mul_of_dvd_left g0) (Int.dvd_mul_of_dvd_left g1)) (Int.dvd_mul_of_dvd_left g2)
theorem isN_l {p : Int} {e : M9} : isN p e.l = isN p [e.m0, e.m1, e.m2, e.m3, e.m4, e.m5, e.m6, e.m7, e.m8] := rfl
/-- Nine numbers in the range. -/
def rngM (p : Int) (e : M9) : Bool := e.l.all fun x => inB x 0 (p - 1)
theorem isMap_ref {p : Int} (hp : isP p = true) (e : M9) : isMap p e = (rngM p e && (!(e.det p == 0) && decide (nmM p e = e))) := by
  unfold isMap rngM
  rw [hp, Bool.true_and]
  cases hd : (e.det p == 0)
  · have hd' : e.det p ≠ 0 := by simpa using hd
    have hf := det_fac hp hd'
    simp only [Bool.not_false, Bool.and_true, Bool.true_and]
    rw [Bool.eq_iff_iff, Bool.and_eq_true, decide_eq_true_eq, List.all_eq_true]
    constructor
    · intro h; exact ⟨fun x hx => inB_iff.2 (isN_mem h x hx), nmM_id hp h⟩
    · rintro ⟨h1, h2⟩; exact nmM_fix hp (fun x hx => inB_iff.1 (h1 x hx)) hf h2
  · simp
end Go.Proofs.Ytjfabhkgmelmgaa
