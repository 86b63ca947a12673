/- Places: the reference's steps; PlaceRatio on both sides. -/
import Derived.Test.YtemimkbngfbomaaW62
import Derived.Test.YtemimkbngfbomaaP5
import Derived.Deep.RegionWith
namespace Go.Proofs.Ytemimkbngfbomaa
open Go.RowKit
set_option linter.unusedSimpArgs false
set_option linter.unusedVariables false
set_option maxRecDepth 100000

def frmM (p a b c : Int) : M4 :=
  nm4 p ((prA p c * prB p b - prA p b * prB p c) * inv p (prA p a * prB p b - prA p b * prB p a) % p * prA p a) ((prA p a * prB p c - prA p c * prB p a) * inv p (prA p a * prB p b - prA p b * prB p a) % p * prA p b)
    ((prA p c * prB p b - prA p b * prB p c) * inv p (prA p a * prB p b - prA p b * prB p a) % p * prB p a) ((prA p a * prB p c - prA p c * prB p a) * inv p (prA p a * prB p b - prA p b * prB p a) % p * prB p b)
def atM (p : Int) (m : M4) (x : Int) : Int := plcS p (m.a * prA p x + m.b * prB p x) (m.c * prA p x + m.d * prB p x)
def prS (p a b c d : Int) : Int := atM p (moInv p (frmM p a b c)) d
theorem nm4_sm {p : Int} (hp : isP p = true) (a b c d : Int) : sm (nm4 p a b c d).a ∧ sm (nm4 p a b c d).b ∧ sm (nm4 p a b c d).c ∧ sm (nm4 p a b c d).d := ⟨nr_sm hp _ _, nr_sm hp _ _, nr_sm hp _ _, nr_sm hp _ _⟩
theorem frmM_sm {p : Int} (hp : isP p = true) (a b c : Int) : sm (frmM p a b c).a ∧ sm (frmM p a b c).b ∧ sm (frmM p a b c).c ∧ sm (frmM p a b c).d := nm4_sm hp _ _ _ _
set_option maxHeartbeats 400000 in
theorem l05Pair_any (p x : Int) (w : World) :
    Calls Try.prog 143 #[.int .i64 p, .int .i64 x] w fun e w' => e = .returned (.tuple #[.int .i64 (prA p x), .int .i64 (prB p x)]) ∧ w = w' := by
  by_cases h : x = p
  · have h1 : prA p x = 1 := by unfold prA; rw [if_pos h]
    have h2 : prB p x = 0 := by unfold prB; rw [if_pos h]
    rw [h1, h2]
    go_enter Try.func143, Try.ntmps143
    go_wp2
    go_returns
    exact ⟨rfl, rfl⟩
  · have h1 : prA p x = x := by unfold prA; rw [if_neg h]
    have h2 : prB p x = 1 := by unfold prB; rw [if_neg h]
    rw [h1, h2]
    go_enter Try.func143, Try.ntmps143
    go_wp2
    go_returns
    exact ⟨rfl, rfl⟩
set_option maxHeartbeats 400000 in
theorem l05Place_any (p x y : Int) (w : World) (hp : isP p = true) (hy : 0 ≤ y ∧ y ≤ 1000) :
    Calls Try.prog 142 #[.int .i64 p, .int .i64 x, .int .i64 y] w fun e w' => e = .returned (.int .i64 (plcS p x y)) ∧ w = w' := by
  have k1 := isP_lo hp
  have k2 := isP_hi hp
  obtain ⟨y0, y1⟩ := hy
  have ht : y.tmod p = y % p := Int.tmod_eq_emod_of_nonneg y0
  have hp0 : ¬ p = 0 := by omega
  have x0 : 0 ≤ x % p := Int.emod_nonneg _ (by omega)
  have x1 : x % p < p := Int.emod_lt_of_pos _ (by omega)
  have i0 := inv_lo (n := y) hp
  have i1 := inv_hi (n := y) hp
  have ⟨e1, e2⟩ := mul_bd (a := x % p) (b := inv p y) (A := 12) (B := 12) x0 (by omega) i0 (by omega)
  by_cases h : y % p = 0
  · have hE : Hid (plcS p x y = p) := by show _ = _; unfold plcS; rw [if_pos h]
    go_enter Try.func142, Try.ntmps142
    go_wp2
    go_returns
    exact ⟨ret_int hE.out.symm, rfl⟩
  · have hE : Hid (plcS p x y = x % p * inv p y % p) := by show _ = _; unfold plcS; rw [if_neg h]
    have ht2 : (x % p * inv p y).tmod p = x % p * inv p y % p := Int.tmod_eq_emod_of_nonneg e1
    go_enter Try.func142, Try.ntmps142
    go_wp2_with (first | (go_at_call 91; refine (l01Mod_any _ _ _ k1 k2).mono ?_; rintro e w' ⟨rfl, rfl⟩) | (go_at_call 113; refine (l01Inverse_any _ _ _ hp).mono ?_; rintro e w' ⟨rfl, rfl⟩))
    go_returns
    exact ⟨ret_int hE.out.symm, rfl⟩
set_option maxHeartbeats 1000000 in
theorem l05At_any (p m0 m1 m2 m3 x : Int) (w : World) (hp : isP p = true) (hx : 0 ≤ x ∧ x ≤ p) (sm0 : sm m0) (sm1 : sm m1) (sm2 : sm m2) (sm3 : sm m3) :
    Calls Try.prog 128 #[.int .i64 p, .agg #[.int .i64 m0, .int .i64 m1, .int .i64 m2, .int .i64 m3], .int .i64 x] w fun e w' => e = .returned (.int .i64 (atM p ⟨m0, m1, m2, m3⟩ x)) ∧ Below w.heap.size w w' := by
  have k2 := isP_hi hp
  have ⟨lm0, um0⟩ := sm0; have ⟨lm1, um1⟩ := sm1; have ⟨lm2, um2⟩ := sm2; have ⟨lm3, um3⟩ := sm3
  obtain ⟨x0, x1⟩ := hx
  have ⟨e1, e2⟩ := mul_bd (a := m0) (b := x) (A := 12) (B := 13) (by omega) (by omega) x0 (by omega)
  have ⟨e3, e4⟩ := mul_bd (a := m2) (b := x) (A := 12) (B := 13) (by omega) (by omega) x0 (by omega)
  by_cases h : x = p
  · have hE : Hid (atM p ⟨m0, m1, m2, m3⟩ x = plcS p m0 m2) := by
      show _ = _; unfold atM prA prB; rw [if_pos h, if_pos h]; simp
    go_enter Try.func128, Try.ntmps128
    go_wp2_with (go_at_call 142; refine (l05Place_any _ _ _ _ hp ⟨by omega, by omega⟩).mono ?_; rintro e w' ⟨rfl, rfl⟩)
    go_returns
    exact ⟨ret_int hE.out.symm, by (repeat' (first | (with_reducible exact Below.refl _ _) | (with_reducible assumption) | (with_reducible refine Below.alloc ?_ ?_ _) | (with_reducible refine Below.drew ?_) | (with_reducible refine below_drewN ?_ _) | (with_reducible refine Below.setCell ?_ ?_ _) | (refine Below.step ?_ (by with_reducible assumption) ?_) | go_size))⟩
  · have hE : Hid (atM p ⟨m0, m1, m2, m3⟩ x = plcS p (m0 * x + m1) (m2 * x + m3)) := by
      show _ = _; unfold atM prA prB; rw [if_neg h, if_neg h]; simp
    go_enter Try.func128, Try.ntmps128
    go_wp2_with (go_at_call 142; refine (l05Place_any _ _ _ _ hp ⟨by omega, by omega⟩).mono ?_; rintro e w' ⟨rfl, rfl⟩)
    go_returns
    exact ⟨ret_int hE.out.symm, by (repeat' (first | (with_reducible exact Below.refl _ _) | (with_reducible assumption) | (with_reducible refine Below.alloc ?_ ?_ _) | (with_reducible refine Below.drew ?_) | (with_reducible refine below_drewN ?_ _) | (with_reducible refine Below.setCell ?_ ?_ _) | (refine Below.step ?_ (by with_reducible assumption) ?_) | go_size))⟩
theorem cr_bd {a b c d : Int} (h1 : 0 ≤ a ∧ a ≤ 12) (h2 : 0 ≤ b ∧ b ≤ 1) (h3 : 0 ≤ c ∧ c ≤ 12) (h4 : 0 ≤ d ∧ d ≤ 1) : (0 ≤ a * b ∧ a * b ≤ 12) ∧ (0 ≤ c * d ∧ c * d ≤ 12) := by
  have := mul_bd (A := 12) (B := 1) h1.1 h1.2 h2.1 h2.2
  have := mul_bd (A := 12) (B := 1) h3.1 h3.2 h4.1 h4.2
  omega
theorem ms_bd {a b : Int} (h1 : -12 ≤ a) (h2 : a ≤ 12) (h3 : 0 ≤ b) (h4 : b ≤ 12) : -144 ≤ a * b ∧ a * b ≤ 144 := by
  constructor
  · have h5 := Int.mul_le_mul_of_nonneg_right h1 h3
    omega
  · have h5 := Int.mul_le_mul_of_nonneg_right h2 h3
    omega
set_option maxHeartbeats 2000000 in
theorem l05Frame_any (p a b c : Int) (w : World) (hp : isP p = true) (ha : 0 ≤ a ∧ a ≤ p) (hb : 0 ≤ b ∧ b ≤ p) (hc : 0 ≤ c ∧ c ≤ p) :
    Calls Try.prog 130 #[.int .i64 p, .int .i64 a, .int .i64 b, .int .i64 c] w fun e w' => e = .returned (.agg #[.int .i64 (frmM p a b c).a, .int .i64 (frmM p a b c).b, .int .i64 (frmM p a b c).c, .int .i64 (frmM p a b c).d]) ∧ Below w.heap.size w w' := by
  have k1 := isP_lo hp
  have k2 := isP_hi hp
  have r1 := prA_rng k1 ha.1 ha.2; have r2 := prA_rng k1 hb.1 hb.2; have r3 := prA_rng k1 hc.1 hc.2
  have t1 := prB_rng p a; have t2 := prB_rng p b; have t3 := prB_rng p c
  have HA : Hid (∀ w', _) := fun w' => l05Pair_any p a w'
  have HB : Hid (∀ w', _) := fun w' => l05Pair_any p b w'
  have HC : Hid (∀ w', _) := fun w' => l05Pair_any p c w'
  have hE0 : frmM p a b c = frmM p a b c := rfl
  conv at hE0 => rhs; unfold frmM
  generalize prA p a = x at *
  generalize prB p a = y at *
  generalize prA p b = u at *
  generalize prB p b = v at *
  generalize prA p c = s at *
  generalize prB p c = t at *
  have q1 := cr_bd (a := x) (b := v) (c := u) (d := y) ⟨r1.1, by omega⟩ t2 ⟨r2.1, by omega⟩ t1
  have q2 := cr_bd (a := s) (b := v) (c := u) (d := t) ⟨r3.1, by omega⟩ t2 ⟨r2.1, by omega⟩ t3
  have q3 := cr_bd (a := x) (b := t) (c := s) (d := y) ⟨r1.1, by omega⟩ t3 ⟨r3.1, by omega⟩ t1
  obtain ⟨⟨a1, a2⟩, a3, a4⟩ := q1; obtain ⟨⟨b1, b2⟩, b3, b4⟩ := q2; obtain ⟨⟨c1, c2⟩, c3, c4⟩ := q3
  have i0 := inv_lo (n := x * v - u * y) hp
  have i1 := inv_hi (n := x * v - u * y) hp
  have HI : Hid (∀ w', _) := fun w' => l01Inverse_any p (x * v - u * y) w' hp
  generalize inv p (x * v - u * y) = dd at *
  have m1 := ms_bd (a := s * v - u * t) (b := dd) (by omega) (by omega) i0 (by omega)
  have m2 := ms_bd (a := x * t - s * y) (b := dd) (by omega) (by omega) i0 (by omega)
  obtain ⟨m1a, m1b⟩ := m1; obtain ⟨m2a, m2b⟩ := m2
  have f0 : 0 ≤ (s * v - u * t) * dd % p := Int.emod_nonneg _ (by omega)
  have f1 : (s * v - u * t) * dd % p < p := Int.emod_lt_of_pos _ (by omega)
  have g0 : 0 ≤ (x * t - s * y) * dd % p := Int.emod_nonneg _ (by omega)
  have g1 : (x * t - s * y) * dd % p < p := Int.emod_lt_of_pos _ (by omega)
  have HF : Hid (∀ w', _) := fun w' => l01Mod_any p ((s * v - u * t) * dd) w' k1 k2
  have HG : Hid (∀ w', _) := fun w' => l01Mod_any p ((x * t - s * y) * dd) w' k1 k2
  obtain ⟨F, hF⟩ : ∃ F, (s * v - u * t) * dd = F := ⟨_, rfl⟩
  obtain ⟨G, hG⟩ : ∃ G, (x * t - s * y) * dd = G := ⟨_, rfl⟩
  have hw1 : IntKind.i64.wrap ((s * v - u * t) * dd) = F := by rw [← hF]; go_arith
  have hw2 : IntKind.i64.wrap ((x * t - s * y) * dd) = G := by rw [← hG]; go_arith
  rw [hF] at HF f0 f1 hE0
  rw [hG] at HG g0 g1 hE0
  obtain ⟨f, hf⟩ : ∃ f, F % p = f := ⟨_, rfl⟩
  obtain ⟨g, hg⟩ : ∃ g, G % p = g := ⟨_, rfl⟩
  rw [hf] at HF f0 f1 hE0
  rw [hg] at HG g0 g1 hE0
  have n1 := mul_bd (a := f) (b := x) (A := 12) (B := 12) f0 (by omega) r1.1 (by omega)
  have n2 := mul_bd (a := g) (b := u) (A := 12) (B := 12) g0 (by omega) r2.1 (by omega)
  have n3 := mul_bd (a := f) (b := y) (A := 12) (B := 1) f0 (by omega) t1.1 t1.2
  have n4 := mul_bd (a := g) (b := v) (A := 12) (B := 1) g0 (by omega) t2.1 t2.2
  obtain ⟨n1a, n1b⟩ := n1; obtain ⟨n2a, n2b⟩ := n2; obtain ⟨n3a, n3b⟩ := n3; obtain ⟨n4a, n4b⟩ := n4
  have HM : Hid (∀ w', _) := fun w' => l05Made_any p (f * x) (g * u) (f * y) (g * v) w' hp
  rw [← hE0] at HM
  obtain ⟨⟨v0, v1, v2, v3⟩, hv⟩ : ∃ m, frmM p a b c = m := ⟨_, rfl⟩
  rw [hv] at HM ⊢
  dsimp only at HM ⊢
  clear hE0 hv hF hG hf hg r1 r2 r3 t1 t2 t3 f0 f1 g0 g1 i0 i1 m1a m1b m2a m2b
  go_enter Try.func130, Try.ntmps130
  go_wp2_with (first | (go_at_call_of 143 (Value.int IntKind.i64 a); refine (HA.out _).mono ?_; rintro e w' ⟨rfl, rfl⟩) | (go_at_call_of 143 (Value.int IntKind.i64 b); refine (HB.out _).mono ?_; rintro e w' ⟨rfl, rfl⟩) | (go_at_call_of 143 (Value.int IntKind.i64 c); refine (HC.out _).mono ?_; rintro e w' ⟨rfl, rfl⟩) | (go_at_call 113; refine (HI.out _).mono ?_; rintro e w' ⟨rfl, rfl⟩) | (go_at_call_of 91 (Value.int IntKind.i64 F); refine (HF.out _).mono ?_; rintro e w' ⟨rfl, rfl⟩) | (go_at_call_of 91 (Value.int IntKind.i64 G); refine (HG.out _).mono ?_; rintro e w' ⟨rfl, rfl⟩) | (go_at_call 140; refine (HM.out _).mono ?_; rintro e w1 ⟨rfl, hb1⟩; obtain ⟨hc1, hf1⟩ := bcell hb1; have hz1 := hb1.size; (try simp only [World.size_alloc, World.size_setCell, World.size_drew] at hz1); (try (have hy1w0 : w.heap.size < w1.heap.size := by omega)); (try (have hy1w1 : w.heap.size + 1 < w1.heap.size := by omega)); (try (have hy1w2 : w.heap.size + 1 + 1 < w1.heap.size := by omega)); (try (have hy1w3 : w.heap.size + 1 + 1 + 1 < w1.heap.size := by omega)); (try (have hy1w4 : w.heap.size + 1 + 1 + 1 + 1 < w1.heap.size := by omega)); have r1_0 := keepC hb1 (b := w.heap.size) (o := 0) (v := .int .i64 0) (by go_cell); have r1_1 := keepC hb1 (b := w.heap.size) (o := 1) (v := .int .i64 0) (by go_cell); have r1_2 := keepC hb1 (b := w.heap.size) (o := 2) (v := .int .i64 0) (by go_cell); have r1_3 := keepC hb1 (b := w.heap.size) (o := 3) (v := .int .i64 0) (by go_cell)))
  (try simp only [Exit.inBlock, Exit.then]); refine bodyPost_ret (by simp [results, Try.results130, go_sem, *]; try rfl) rfl ?_
  exact ⟨rfl, by (repeat' (first | (with_reducible exact Below.refl _ _) | (with_reducible assumption) | (with_reducible refine Below.alloc ?_ ?_ _) | (with_reducible refine Below.drew ?_) | (with_reducible refine below_drewN ?_ _) | (with_reducible refine Below.setCell ?_ ?_ _) | (refine Below.step ?_ (by with_reducible assumption) ?_) | go_size))⟩
end Go.Proofs.Ytemimkbngfbomaa
