/- Three points of a line and cross ratios, in the program and in the reference. -/
import Derived.Test.YtphiohmeahpofaaW18
import Derived.Test.YtphiohmeahpofaaW4
import Derived.Test.YtphiohmeahpofaaW8
namespace Go.Proofs.Ytphiohmeahpofaa
open Go.RowKit
set_option linter.unusedSimpArgs false
set_option linter.unusedVariables false
set_option maxRecDepth 100000


/-- Three different points of a line. -/
def three (p : Int) (a b c : P3) : Bool := decide (a ≠ b) && (decide (a ≠ c) && (decide (b ≠ c) && (det3 p a.x a.y a.z b.x b.y b.z c.x c.y c.z == 0)))
theorem ne3 {a0 a1 a2 b0 b1 b2 : Int} (h : ¬(a0 = b0 ∧ a1 = b1 ∧ a2 = b2)) : (⟨a0, a1, a2⟩ : P3) ≠ ⟨b0, b1, b2⟩ := by
  intro e; injection e with e0 e1 e2; exact h ⟨e0, e1, e2⟩
set_option maxHeartbeats 2000000 in
theorem l01Three_any (p a0 a1 a2 b0 b1 b2 c0 c1 c2 : Int) (w : World) (k1 : 3 ≤ p) (k2 : p ≤ 13) (sa0 : sm a0) (sa1 : sm a1) (sa2 : sm a2) (sb0 : sm b0) (sb1 : sm b1) (sb2 : sm b2) (sc0 : sm c0) (sc1 : sm c1) (sc2 : sm c2) :
    Calls Try.prog 77 #[.int .i64 p, .agg #[.int .i64 a0, .int .i64 a1, .int .i64 a2], .agg #[.int .i64 b0, .int .i64 b1, .int .i64 b2], .agg #[.int .i64 c0, .int .i64 c1, .int .i64 c2]] w fun e w' => e = .returned (.bool (three p ⟨a0, a1, a2⟩ ⟨b0, b1, b2⟩ ⟨c0, c1, c2⟩)) ∧ Below w.heap.size w w' := by
  by_cases h1 : a0 = b0 ∧ a1 = b1 ∧ a2 = b2
  · obtain ⟨rfl, rfl, rfl⟩ := h1
    have q1 := fun w' => (eq3_yes Try.underlying30 a0 a1 a2 w').2
    have hE : Hid (three p ⟨a0, a1, a2⟩ ⟨a0, a1, a2⟩ ⟨c0, c1, c2⟩ = false) := by show _ = _; unfold three; simp
    go_enter Try.func77, Try.ntmps77
    go_wp2_with fail
    go_ret
    exact ⟨ret_bool hE.out.symm, by (repeat' (first | (with_reducible exact Below.refl _ _) | (with_reducible assumption) | (with_reducible refine Below.alloc ?_ ?_ _) | (with_reducible refine Below.drew ?_) | (with_reducible refine below_drewN ?_ _) | (with_reducible refine Below.setCell ?_ ?_ _) | (refine Below.step ?_ (by with_reducible assumption) ?_) | go_size))⟩
  · have n1 := Lib.hid (ne3 h1)
    have q1 := fun w' => (eq3_no Try.underlying30 h1 w').2
    clear h1
    by_cases h2 : a0 = c0 ∧ a1 = c1 ∧ a2 = c2
    · obtain ⟨rfl, rfl, rfl⟩ := h2
      have q2 := fun w' => (eq3_yes Try.underlying30 a0 a1 a2 w').2
      have hE : Hid (three p ⟨a0, a1, a2⟩ ⟨b0, b1, b2⟩ ⟨a0, a1, a2⟩ = false) := by show _ = _; unfold three; simp
      go_enter Try.func77, Try.ntmps77
      go_wp2_with fail
      go_ret
      exact ⟨ret_bool hE.out.symm, by (repeat' (first | (with_reducible exact Below.refl _ _) | (with_reducible assumption) | (with_reducible refine Below.alloc ?_ ?_ _) | (with_reducible refine Below.drew ?_) | (with_reducible refine below_drewN ?_ _) | (with_reducible refine Below.setCell ?_ ?_ _) | (refine Below.step ?_ (by with_reducible assumption) ?_) | go_size))⟩
    · have n2 := Lib.hid (ne3 h2)
      have q2 := fun w' => (eq3_no Try.underlying30 h2 w').2
      clear h2
      by_cases h3 : b0 = c0 ∧ b1 = c1 ∧ b2 = c2
      · obtain ⟨rfl, rfl, rfl⟩ := h3
        have q3 := fun w' => (eq3_yes Try.underlying30 b0 b1 b2 w').2
        have hE : Hid (three p ⟨a0, a1, a2⟩ ⟨b0, b1, b2⟩ ⟨b0, b1, b2⟩ = false) := by show _ = _; unfold three; simp
        go_enter Try.func77, Try.ntmps77
        go_wp2_with fail
        go_ret
        exact ⟨ret_bool hE.out.symm, by (repeat' (first | (with_reducible exact Below.refl _ _) | (with_reducible assumption) | (with_reducible refine Below.alloc ?_ ?_ _) | (with_reducible refine Below.drew ?_) | (with_reducible refine below_drewN ?_ _) | (with_reducible refine Below.setCell ?_ ?_ _) | (refine Below.step ?_ (by with_reducible assumption) ?_) | go_size))⟩
      · have n3 := Lib.hid (ne3 h3)
        have q3 := fun w' => (eq3_no Try.underlying30 h3 w').2
        clear h3
        have hE : Hid (three p ⟨a0, a1, a2⟩ ⟨b0, b1, b2⟩ ⟨c0, c1, c2⟩ = (det3 p a0 a1 a2 b0 b1 b2 c0 c1 c2 == 0)) := by show _ = _; unfold three; rw [decide_eq_true n1.out, decide_eq_true n2.out, decide_eq_true n3.out]; rfl
        go_enter Try.func77, Try.ntmps77
        go_wp2_with (go_at_call 115; refine (l01Det_any _ _ _ _ _ _ _ _ _ _ _ k1 k2 sa0 sa1 sa2 sb0 sb1 sb2 sc0 sc1 sc2).mono ?_; rintro e w1 ⟨rfl, hb1⟩; obtain ⟨hc1, hf1⟩ := bcell hb1; have hz1 := hb1.size; (try simp only [World.size_alloc, World.size_setCell, World.size_drew] at hz1); (try (have hy1w0 : w.heap.size < w1.heap.size := by omega)); (try (have hy1w1 : w.heap.size + 1 < w1.heap.size := by omega)); (try (have hy1w2 : w.heap.size + 1 + 1 < w1.heap.size := by omega)); (try (have hy1w3 : w.heap.size + 1 + 1 + 1 < w1.heap.size := by omega)); (try (have hy1w4 : w.heap.size + 1 + 1 + 1 + 1 < w1.heap.size := by omega)))
        go_ret
        exact ⟨ret_bool hE.out.symm, by (repeat' (first | (with_reducible exact Below.refl _ _) | (with_reducible assumption) | (with_reducible refine Below.alloc ?_ ?_ _) | (with_reducible refine Below.drew ?_) | (with_reducible refine below_drewN ?_ _) | (with_reducible refine Below.setCell ?_ ?_ _) | (refine Below.step ?_ (by with_reducible assumption) ?_) | go_size))⟩
set_option maxHeartbeats 2000000 in
theorem areThree_any (p a0 a1 a2 b0 b1 b2 c0 c1 c2 : Int) (w : World) (k1 : 3 ≤ p) (k2 : p ≤ 13) (sa0 : sm a0) (sa1 : sm a1) (sa2 : sm a2) (sb0 : sm b0) (sb1 : sm b1) (sb2 : sm b2) (sc0 : sm c0) (sc1 : sm c1) (sc2 : sm c2) :
    Calls Try.prog 80 #[.int .i64 p, .agg #[.int .i64 a0, .int .i64 a1, .int .i64 a2], .agg #[.int .i64 b0, .int .i64 b1, .int .i64 b2], .agg #[.int .i64 c0, .int .i64 c1, .int .i64 c2]] w fun e w' => e = .returned (.bool (three p ⟨a0, a1, a2⟩ ⟨b0, b1, b2⟩ ⟨c0, c1, c2⟩)) ∧ Below w.heap.size w w' := by
  by_cases h1 : a0 = b0 ∧ a1 = b1 ∧ a2 = b2
  · obtain ⟨rfl, rfl, rfl⟩ := h1
    have q1 := fun w' => (eq3_yes Try.underlying30 a0 a1 a2 w').2
    have hE : Hid (three p ⟨a0, a1, a2⟩ ⟨a0, a1, a2⟩ ⟨c0, c1, c2⟩ = false) := by show _ = _; unfold three; simp
    go_enter Try.func80, Try.ntmps80
    go_wp2_with fail
    go_ret
    exact ⟨ret_bool hE.out.symm, by (repeat' (first | (with_reducible exact Below.refl _ _) | (with_reducible assumption) | (with_reducible refine Below.alloc ?_ ?_ _) | (with_reducible refine Below.drew ?_) | (with_reducible refine below_drewN ?_ _) | (with_reducible refine Below.setCell ?_ ?_ _) | (refine Below.step ?_ (by with_reducible assumption) ?_) | go_size))⟩
  · have n1 := Lib.hid (ne3 h1)
    have q1 := fun w' => (eq3_no Try.underlying30 h1 w').2
    clear h1
    by_cases h2 : a0 = c0 ∧ a1 = c1 ∧ a2 = c2
    · obtain ⟨rfl, rfl, rfl⟩ := h2
      have q2 := fun w' => (eq3_yes Try.underlying30 a0 a1 a2 w').2
      have hE : Hid (three p ⟨a0, a1, a2⟩ ⟨b0, b1, b2⟩ ⟨a0, a1, a2⟩ = false) := by show _ = _; unfold three; simp
      go_enter Try.func80, Try.ntmps80
      go_wp2_with fail
      go_ret
      exact ⟨ret_bool hE.out.symm, by (repeat' (first | (with_reducible exact Below.refl _ _) | (with_reducible assumption) | (with_reducible refine Below.alloc ?_ ?_ _) | (with_reducible refine Below.drew ?_) | (with_reducible refine below_drewN ?_ _) | (with_reducible refine Below.setCell ?_ ?_ _) | (refine Below.step ?_ (by with_reducible assumption) ?_) | go_size))⟩
    · have n2 := Lib.hid (ne3 h2)
      have q2 := fun w' => (eq3_no Try.underlying30 h2 w').2
      clear h2
      by_cases h3 : b0 = c0 ∧ b1 = c1 ∧ b2 = c2
      · obtain ⟨rfl, rfl, rfl⟩ := h3
        have q3 := fun w' => (eq3_yes Try.underlying30 b0 b1 b2 w').2
        have hE : Hid (three p ⟨a0, a1, a2⟩ ⟨b0, b1, b2⟩ ⟨b0, b1, b2⟩ = false) := by show _ = _; unfold three; simp
        go_enter Try.func80, Try.ntmps80
        go_wp2_with fail
        go_ret
        exact ⟨ret_bool hE.out.symm, by (repeat' (first | (with_reducible exact Below.refl _ _) | (with_reducible assumption) | (with_reducible refine Below.alloc ?_ ?_ _) | (with_reducible refine Below.drew ?_) | (with_reducible refine below_drewN ?_ _) | (with_reducible refine Below.setCell ?_ ?_ _) | (refine Below.step ?_ (by with_reducible assumption) ?_) | go_size))⟩
      · have n3 := Lib.hid (ne3 h3)
        have q3 := fun w' => (eq3_no Try.underlying30 h3 w').2
        clear h3
        have hE : Hid (three p ⟨a0, a1, a2⟩ ⟨b0, b1, b2⟩ ⟨c0, c1, c2⟩ = (det3 p a0 a1 a2 b0 b1 b2 c0 c1 c2 == 0)) := by show _ = _; unfold three; rw [decide_eq_true n1.out, decide_eq_true n2.out, decide_eq_true n3.out]; rfl
        go_enter Try.func80, Try.ntmps80
        go_wp2_with (go_at_call 121; refine (collinear_any _ _ _ _ _ _ _ _ _ _ _ k1 k2 sa0 sa1 sa2 sb0 sb1 sb2 sc0 sc1 sc2).mono ?_; rintro e w1 ⟨rfl, hb1⟩; obtain ⟨hc1, hf1⟩ := bcell hb1; have hz1 := hb1.size; (try simp only [World.size_alloc, World.size_setCell, World.size_drew] at hz1); (try (have hy1w0 : w.heap.size < w1.heap.size := by omega)); (try (have hy1w1 : w.heap.size + 1 < w1.heap.size := by omega)); (try (have hy1w2 : w.heap.size + 1 + 1 < w1.heap.size := by omega)); (try (have hy1w3 : w.heap.size + 1 + 1 + 1 < w1.heap.size := by omega)); (try (have hy1w4 : w.heap.size + 1 + 1 + 1 + 1 < w1.heap.size := by omega)))
        go_ret
        exact ⟨ret_bool hE.out.symm, by (repeat' (first | (with_reducible exact Below.refl _ _) | (with_reducible assumption) | (with_reducible refine Below.alloc ?_ ?_ _) | (with_reducible refine Below.drew ?_) | (with_reducible refine below_drewN ?_ _) | (with_reducible refine Below.setCell ?_ ?_ _) | (refine Below.step ?_ (by with_reducible assumption) ?_) | go_size))⟩
set_option maxHeartbeats 2000000 in
theorem l01Ratio_any (p a0 a1 a2 b0 b1 b2 c0 c1 c2 d0 d1 d2 : Int) (w : World) (hp : isP p = true) (sa0 : sm a0) (sa1 : sm a1) (sa2 : sm a2) (sb0 : sm b0) (sb1 : sm b1) (sb2 : sm b2) (sc0 : sm c0) (sc1 : sm c1) (sc2 : sm c2) (sd0 : sm d0) (sd1 : sm d1) (sd2 : sm d2) (hb0 : 0 ≤ (prt p ⟨a0, a1, a2⟩ ⟨b0, b1, b2⟩ ⟨c0, c1, c2⟩).1 ∧ (prt p ⟨a0, a1, a2⟩ ⟨b0, b1, b2⟩ ⟨c0, c1, c2⟩).1 ≤ p - 1) (hb1 : 0 ≤ (prt p ⟨a0, a1, a2⟩ ⟨b0, b1, b2⟩ ⟨c0, c1, c2⟩).2 ∧ (prt p ⟨a0, a1, a2⟩ ⟨b0, b1, b2⟩ ⟨c0, c1, c2⟩).2 ≤ p - 1)
    (hb2 : 0 ≤ (prt p ⟨a0, a1, a2⟩ ⟨b0, b1, b2⟩ ⟨d0, d1, d2⟩).1 ∧ (prt p ⟨a0, a1, a2⟩ ⟨b0, b1, b2⟩ ⟨d0, d1, d2⟩).1 ≤ p - 1) (hb3 : 0 ≤ (prt p ⟨a0, a1, a2⟩ ⟨b0, b1, b2⟩ ⟨d0, d1, d2⟩).2 ∧ (prt p ⟨a0, a1, a2⟩ ⟨b0, b1, b2⟩ ⟨d0, d1, d2⟩).2 ≤ p - 1) :
    Calls Try.prog 118 #[.int .i64 p, .agg #[.int .i64 a0, .int .i64 a1, .int .i64 a2], .agg #[.int .i64 b0, .int .i64 b1, .int .i64 b2], .agg #[.int .i64 c0, .int .i64 c1, .int .i64 c2], .agg #[.int .i64 d0, .int .i64 d1, .int .i64 d2]] w fun e w' => e = .returned (.int .i64 (crS p ⟨a0, a1, a2⟩ ⟨b0, b1, b2⟩ ⟨c0, c1, c2⟩ ⟨d0, d1, d2⟩)) ∧ Below w.heap.size w w' := by
  have k1 := isP_lo hp
  have k2 := isP_hi hp
  have hE : Hid (crS p ⟨a0, a1, a2⟩ ⟨b0, b1, b2⟩ ⟨c0, c1, c2⟩ ⟨d0, d1, d2⟩ = if (prt p ⟨a0, a1, a2⟩ ⟨b0, b1, b2⟩ ⟨d0, d1, d2⟩).2 = 0 then p else (prt p ⟨a0, a1, a2⟩ ⟨b0, b1, b2⟩ ⟨c0, c1, c2⟩).2 * (prt p ⟨a0, a1, a2⟩ ⟨b0, b1, b2⟩ ⟨d0, d1, d2⟩).1 % p * inv p ((prt p ⟨a0, a1, a2⟩ ⟨b0, b1, b2⟩ ⟨c0, c1, c2⟩).1 * (prt p ⟨a0, a1, a2⟩ ⟨b0, b1, b2⟩ ⟨d0, d1, d2⟩).2 % p) % p) := rfl
  have hc1 := fun w' => l01Parts_any p a0 a1 a2 b0 b1 b2 c0 c1 c2 w' hp sa0 sa1 sa2 sb0 sb1 sb2 sc0 sc1 sc2
  have hc2 := fun w' => l01Parts_any p a0 a1 a2 b0 b1 b2 d0 d1 d2 w' hp sa0 sa1 sa2 sb0 sb1 sb2 sd0 sd1 sd2
  unfold partP at hc1 hc2
  generalize prt p ⟨a0, a1, a2⟩ ⟨b0, b1, b2⟩ ⟨c0, c1, c2⟩ = R at *
  generalize prt p ⟨a0, a1, a2⟩ ⟨b0, b1, b2⟩ ⟨d0, d1, d2⟩ = S at *
  obtain ⟨s, t⟩ := R
  obtain ⟨u, v⟩ := S
  simp only at hb0 hb1 hb2 hb3 hc1 hc2
  obtain ⟨s0, s1⟩ := hb0
  obtain ⟨t0, t1⟩ := hb1
  obtain ⟨u0, u1⟩ := hb2
  obtain ⟨v0, v1⟩ := hb3
  have HC1 := Lib.hid hc1; have HC2 := Lib.hid hc2; have HP := Lib.hid hp
  clear hc1 hc2 hp
  have ⟨e1, f1⟩ := mul_bd (a := t) (b := u) (A := 12) (B := 12) (by omega) (by omega) (by omega) (by omega)
  have ⟨e2, f2⟩ := mul_bd (a := s) (b := v) (A := 12) (B := 12) (by omega) (by omega) (by omega) (by omega)
  by_cases hv : v = 0
  · subst hv
    have hE' : Hid (crS p ⟨a0, a1, a2⟩ ⟨b0, b1, b2⟩ ⟨c0, c1, c2⟩ ⟨d0, d1, d2⟩ = p) := by show _ = _; rw [hE.out, if_pos rfl]
    clear hE
    go_enter Try.func118, Try.ntmps118
    go_wp2_with fail
    refine (HC1.out _).mono ?_; rintro e w1 ⟨ok1, rfl, hb1⟩; obtain ⟨hc1, hf1⟩ := bcell hb1; have hz1 := hb1.size; (try simp only [World.size_alloc, World.size_setCell, World.size_drew] at hz1); (try (have hy1w0 : w.heap.size < w1.heap.size := by omega)); (try (have hy1w1 : w.heap.size + 1 < w1.heap.size := by omega)); (try (have hy1w2 : w.heap.size + 1 + 1 < w1.heap.size := by omega)); (try (have hy1w3 : w.heap.size + 1 + 1 + 1 < w1.heap.size := by omega)); (try (have hy1w4 : w.heap.size + 1 + 1 + 1 + 1 < w1.heap.size := by omega))
    go_wp2_with fail
    refine (HC2.out _).mono ?_; rintro e w2 ⟨ok2, rfl, hb2⟩; obtain ⟨hc2, hf2⟩ := bcell hb2; have hz2 := hb2.size; (try simp only [World.size_alloc, World.size_setCell, World.size_drew] at hz2); (try (have hy2w0 : w.heap.size < w2.heap.size := by omega)); (try (have hy2w1 : w.heap.size + 1 < w2.heap.size := by omega)); (try (have hy2w2 : w.heap.size + 1 + 1 < w2.heap.size := by omega)); (try (have hy2w3 : w.heap.size + 1 + 1 + 1 < w2.heap.size := by omega)); (try (have hy2w4 : w.heap.size + 1 + 1 + 1 + 1 < w2.heap.size := by omega)); (try (have hy2w10 : w1.heap.size < w2.heap.size := by omega)); (try (have hy2w11 : w1.heap.size + 1 < w2.heap.size := by omega)); (try (have hy2w12 : w1.heap.size + 1 + 1 < w2.heap.size := by omega)); (try (have hy2w13 : w1.heap.size + 1 + 1 + 1 < w2.heap.size := by omega)); (try (have hy2w14 : w1.heap.size + 1 + 1 + 1 + 1 < w2.heap.size := by omega))
    go_wp2_with fail
    go_ret
    exact ⟨ret_int hE'.out.symm, by (repeat' (first | (with_reducible exact Below.refl _ _) | (with_reducible assumption) | (with_reducible refine Below.alloc ?_ ?_ _) | (with_reducible refine Below.drew ?_) | (with_reducible refine below_drewN ?_ _) | (with_reducible refine Below.setCell ?_ ?_ _) | (refine Below.step ?_ (by with_reducible assumption) ?_) | go_size))⟩
  · have hE' : Hid (crS p ⟨a0, a1, a2⟩ ⟨b0, b1, b2⟩ ⟨c0, c1, c2⟩ ⟨d0, d1, d2⟩ = t * u % p * inv p (s * v % p) % p) := by show _ = _; rw [hE.out, if_neg hv]
    have hv' : (v == 0) = false := by rw [beq_eq_false_iff_ne]; exact hv
    have i0 := inv_lo (n := s * v % p) HP.out
    have i1 := inv_hi (n := s * v % p) HP.out
    have y0 : 0 ≤ t * u % p := Int.emod_nonneg _ (by omega)
    have y1 : t * u % p < p := Int.emod_lt_of_pos _ (by omega)
    have ⟨e3, f3⟩ := mul_bd (a := t * u % p) (b := inv p (s * v % p)) (A := 12) (B := 12) (by omega) (by omega) (by omega) (by omega)
    clear hE hv
    go_enter Try.func118, Try.ntmps118
    go_wp2_with fail
    refine (HC1.out _).mono ?_; rintro e w1 ⟨ok1, rfl, hb1⟩; obtain ⟨hc1, hf1⟩ := bcell hb1; have hz1 := hb1.size; (try simp only [World.size_alloc, World.size_setCell, World.size_drew] at hz1); (try (have hy1w0 : w.heap.size < w1.heap.size := by omega)); (try (have hy1w1 : w.heap.size + 1 < w1.heap.size := by omega)); (try (have hy1w2 : w.heap.size + 1 + 1 < w1.heap.size := by omega)); (try (have hy1w3 : w.heap.size + 1 + 1 + 1 < w1.heap.size := by omega)); (try (have hy1w4 : w.heap.size + 1 + 1 + 1 + 1 < w1.heap.size := by omega))
    go_wp2_with fail
    refine (HC2.out _).mono ?_; rintro e w2 ⟨ok2, rfl, hb2⟩; obtain ⟨hc2, hf2⟩ := bcell hb2; have hz2 := hb2.size; (try simp only [World.size_alloc, World.size_setCell, World.size_drew] at hz2); (try (have hy2w0 : w.heap.size < w2.heap.size := by omega)); (try (have hy2w1 : w.heap.size + 1 < w2.heap.size := by omega)); (try (have hy2w2 : w.heap.size + 1 + 1 < w2.heap.size := by omega)); (try (have hy2w3 : w.heap.size + 1 + 1 + 1 < w2.heap.size := by omega)); (try (have hy2w4 : w.heap.size + 1 + 1 + 1 + 1 < w2.heap.size := by omega)); (try (have hy2w10 : w1.heap.size < w2.heap.size := by omega)); (try (have hy2w11 : w1.heap.size + 1 < w2.heap.size := by omega)); (try (have hy2w12 : w1.heap.size + 1 + 1 < w2.heap.size := by omega)); (try (have hy2w13 : w1.heap.size + 1 + 1 + 1 < w2.heap.size := by omega)); (try (have hy2w14 : w1.heap.size + 1 + 1 + 1 + 1 < w2.heap.size := by omega))
    go_wp2_with fail
    refine wp_name (fun wq => w2.heap.size ≤ wq.heap.size ∧ Below w2.heap.size w2 wq) ⟨by go_size, Below.refl _ _⟩ ?_; rintro wq ⟨hzwq, hBwq⟩
    go_quiet ((go_at_call 132; exact Calls.quiet_of_same ((l01Inverse_any _ _ _ HP.out).mono (fun _ _ h => ⟨h.1, h.2.symm⟩))))
    go_wp2
    go_ret
    exact ⟨ret_int hE'.out.symm, by (repeat' (first | (with_reducible exact Below.refl _ _) | (with_reducible assumption) | (with_reducible refine Below.alloc ?_ ?_ _) | (with_reducible refine Below.drew ?_) | (with_reducible refine below_drewN ?_ _) | (with_reducible refine Below.setCell ?_ ?_ _) | (refine Below.step ?_ (by with_reducible assumption) ?_) | go_size))⟩
end Go.Proofs.Ytphiohmeahpofaa
