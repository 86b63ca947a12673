/- The point with a cross ratio, in the program and in the reference. -/
import Derived.Test.YtphiohmeahpofaaW20
import Derived.Test.YtphiohmeahpofaaW16
namespace Go.Proofs.Ytphiohmeahpofaa
open Go.RowKit
set_option linter.unusedSimpArgs false
set_option linter.unusedVariables false
set_option maxRecDepth 100000

set_option maxHeartbeats 1000000 in
theorem sumOf_any (p u a0 a1 a2 v b0 b1 b2 : Int) (w : World) (hp : isP p = true) (hu : 0 ≤ u ∧ u ≤ 144) (hv : 0 ≤ v ∧ v ≤ 12) (sa0 : sm a0) (sa1 : sm a1) (sa2 : sm a2) (sb0 : sm b0) (sb1 : sm b1) (sb2 : sm b2) :
    Calls Try.prog 123 #[.int .i64 p, .int .i64 u, .agg #[.int .i64 a0, .int .i64 a1, .int .i64 a2], .int .i64 v, .agg #[.int .i64 b0, .int .i64 b1, .int .i64 b2]] w fun e w' => e = .returned (.agg #[.int .i64 (npt p (u * a0 + v * b0) (u * a1 + v * b1) (u * a2 + v * b2)).x, .int .i64 (npt p (u * a0 + v * b0) (u * a1 + v * b1) (u * a2 + v * b2)).y, .int .i64 (npt p (u * a0 + v * b0) (u * a1 + v * b1) (u * a2 + v * b2)).z]) ∧ Below w.heap.size w w' := by
  have ⟨la0, ua0⟩ := sa0; have ⟨la1, ua1⟩ := sa1; have ⟨la2, ua2⟩ := sa2; have ⟨lb0, ub0⟩ := sb0; have ⟨lb1, ub1⟩ := sb1; have ⟨lb2, ub2⟩ := sb2
  obtain ⟨u0, u1⟩ := hu
  obtain ⟨v0, v1⟩ := hv
  have ⟨e0, f0⟩ := mul_bd (a := u) (b := a0) (A := 144) (B := 12) (by omega) (by omega) (by omega) (by omega); have ⟨e1, f1⟩ := mul_bd (a := u) (b := a1) (A := 144) (B := 12) (by omega) (by omega) (by omega) (by omega); have ⟨e2, f2⟩ := mul_bd (a := u) (b := a2) (A := 144) (B := 12) (by omega) (by omega) (by omega) (by omega)
  have ⟨g0, h0⟩ := mul_bd (a := v) (b := b0) (A := 12) (B := 12) (by omega) (by omega) (by omega) (by omega); have ⟨g1, h1⟩ := mul_bd (a := v) (b := b1) (A := 12) (B := 12) (by omega) (by omega) (by omega) (by omega); have ⟨g2, h2⟩ := mul_bd (a := v) (b := b2) (A := 12) (B := 12) (by omega) (by omega) (by omega) (by omega)
  go_enter Try.func123, Try.ntmps123
  go_wp2_with (go_at_call 129; refine (pointOf_any _ _ _ _ _ hp).mono ?_; rintro e w1 ⟨rfl, hb1⟩; obtain ⟨hc1, hf1⟩ := bcell hb1; have hz1 := hb1.size; (try simp only [World.size_alloc, World.size_setCell, World.size_drew] at hz1); (try (have hy1w0 : w.heap.size < w1.heap.size := by omega)); (try (have hy1w1 : w.heap.size + 1 < w1.heap.size := by omega)); (try (have hy1w2 : w.heap.size + 1 + 1 < w1.heap.size := by omega)); (try (have hy1w3 : w.heap.size + 1 + 1 + 1 < w1.heap.size := by omega)); (try (have hy1w4 : w.heap.size + 1 + 1 + 1 + 1 < w1.heap.size := by omega)); have r1_0 := keepC hb1 (b := w.heap.size + 1 + 1) (o := 0) (v := .int .i64 0) (by go_cell); have r1_1 := keepC hb1 (b := w.heap.size + 1 + 1) (o := 1) (v := .int .i64 0) (by go_cell); have r1_2 := keepC hb1 (b := w.heap.size + 1 + 1) (o := 2) (v := .int .i64 0) (by go_cell))
  (try simp only [Exit.inBlock, Exit.then]); refine bodyPost_ret (by simp [results, Try.results123, go_sem, *]; try rfl) rfl ?_
  exact ⟨rfl, by (repeat' (first | (with_reducible exact Below.refl _ _) | (with_reducible assumption) | (with_reducible refine Below.alloc ?_ ?_ _) | (with_reducible refine Below.drew ?_) | (with_reducible refine below_drewN ?_ _) | (with_reducible refine Below.setCell ?_ ?_ _) | (refine Below.step ?_ (by with_reducible assumption) ?_) | go_size))⟩
set_option maxHeartbeats 1000000 in
theorem atRatio_any (p a0 a1 a2 b0 b1 b2 c0 c1 c2 r : Int) (w : World) (hp : isP p = true) (sa0 : sm a0) (sa1 : sm a1) (sa2 : sm a2) (sb0 : sm b0) (sb1 : sm b1) (sb2 : sm b2) (sc0 : sm c0) (sc1 : sm c1) (sc2 : sm c2) (hr : 0 ≤ r ∧ r ≤ p) (hb : (0 ≤ (cmb p ⟨a0, a1, a2⟩ ⟨b0, b1, b2⟩ ⟨c0, c1, c2⟩).1 ∧ (cmb p ⟨a0, a1, a2⟩ ⟨b0, b1, b2⟩ ⟨c0, c1, c2⟩).1 ≤ p - 1) ∧ (0 ≤ (cmb p ⟨a0, a1, a2⟩ ⟨b0, b1, b2⟩ ⟨c0, c1, c2⟩).2 ∧ (cmb p ⟨a0, a1, a2⟩ ⟨b0, b1, b2⟩ ⟨c0, c1, c2⟩).2 ≤ p - 1)) :
    Calls Try.prog 81 #[.int .i64 p, .agg #[.int .i64 a0, .int .i64 a1, .int .i64 a2], .agg #[.int .i64 b0, .int .i64 b1, .int .i64 b2], .agg #[.int .i64 c0, .int .i64 c1, .int .i64 c2], .int .i64 r] w fun e w' => e = .returned (.agg #[.int .i64 (atI p ⟨a0, a1, a2⟩ ⟨b0, b1, b2⟩ ⟨c0, c1, c2⟩ r).x, .int .i64 (atI p ⟨a0, a1, a2⟩ ⟨b0, b1, b2⟩ ⟨c0, c1, c2⟩ r).y, .int .i64 (atI p ⟨a0, a1, a2⟩ ⟨b0, b1, b2⟩ ⟨c0, c1, c2⟩ r).z]) ∧ Below w.heap.size w w' := by
  have k1 := isP_lo hp
  have k2 := isP_hi hp
  obtain ⟨r0, r1⟩ := hr
  have HP := Lib.hid hp; clear hp
  by_cases hr : r = p
  · subst hr
    have hE : Hid (atI r ⟨a0, a1, a2⟩ ⟨b0, b1, b2⟩ ⟨c0, c1, c2⟩ r = ⟨a0, a1, a2⟩) := by show _ = _; unfold atI; rw [if_pos rfl]
    go_enter Try.func81, Try.ntmps81
    go_wp2
    (try simp only [Exit.inBlock, Exit.then]); refine bodyPost_ret (by simp [results, Try.results81, go_sem, *]; try rfl) rfl ?_
    exact ⟨by rw [hE.out], by (repeat' (first | (with_reducible exact Below.refl _ _) | (with_reducible assumption) | (with_reducible refine Below.alloc ?_ ?_ _) | (with_reducible refine Below.drew ?_) | (with_reducible refine below_drewN ?_ _) | (with_reducible refine Below.setCell ?_ ?_ _) | (refine Below.step ?_ (by with_reducible assumption) ?_) | go_size))⟩
  · have hE : Hid (atI p ⟨a0, a1, a2⟩ ⟨b0, b1, b2⟩ ⟨c0, c1, c2⟩ r = npt p (r * (cmb p ⟨a0, a1, a2⟩ ⟨b0, b1, b2⟩ ⟨c0, c1, c2⟩).1 * a0 + (cmb p ⟨a0, a1, a2⟩ ⟨b0, b1, b2⟩ ⟨c0, c1, c2⟩).2 * b0) (r * (cmb p ⟨a0, a1, a2⟩ ⟨b0, b1, b2⟩ ⟨c0, c1, c2⟩).1 * a1 + (cmb p ⟨a0, a1, a2⟩ ⟨b0, b1, b2⟩ ⟨c0, c1, c2⟩).2 * b1) (r * (cmb p ⟨a0, a1, a2⟩ ⟨b0, b1, b2⟩ ⟨c0, c1, c2⟩).1 * a2 + (cmb p ⟨a0, a1, a2⟩ ⟨b0, b1, b2⟩ ⟨c0, c1, c2⟩).2 * b2)) := by show _ = _; unfold atI; rw [if_neg hr]
    have hr' : (r == p) = false := by rw [beq_eq_false_iff_ne]; exact hr
    have hc := fun w' => combined_any p a0 a1 a2 b0 b1 b2 c0 c1 c2 w' HP.out sa0 sa1 sa2 sb0 sb1 sb2 sc0 sc1 sc2
    unfold combP at hc
    generalize cmb p ⟨a0, a1, a2⟩ ⟨b0, b1, b2⟩ ⟨c0, c1, c2⟩ = R at *
    obtain ⟨s, t⟩ := R
    simp only at hb hc
    obtain ⟨⟨s0, s1⟩, t0, t1⟩ := hb
    have HC := Lib.hid hc
    have ⟨e1, f1⟩ := mul_bd (a := r) (b := s) (A := 12) (B := 12) (by omega) (by omega) (by omega) (by omega)
    clear hc hr
    go_enter Try.func81, Try.ntmps81
    go_wp2_with fail
    refine (HC.out _).mono ?_; rintro e w1 ⟨rfl, hb1⟩; obtain ⟨hc1, hf1⟩ := bcell hb1; have hz1 := hb1.size; (try simp only [World.size_alloc, World.size_setCell, World.size_drew] at hz1); (try (have hy1w0 : w.heap.size < w1.heap.size := by omega)); (try (have hy1w1 : w.heap.size + 1 < w1.heap.size := by omega)); (try (have hy1w2 : w.heap.size + 1 + 1 < w1.heap.size := by omega)); (try (have hy1w3 : w.heap.size + 1 + 1 + 1 < w1.heap.size := by omega)); (try (have hy1w4 : w.heap.size + 1 + 1 + 1 + 1 < w1.heap.size := by omega)); have r1_0 := keepC hb1 (b := w.heap.size + 1 + 1 + 1) (o := 0) (v := .int .i64 0) (by go_cell); have r1_1 := keepC hb1 (b := w.heap.size + 1 + 1 + 1) (o := 1) (v := .int .i64 0) (by go_cell); have r1_2 := keepC hb1 (b := w.heap.size + 1 + 1 + 1) (o := 2) (v := .int .i64 0) (by go_cell)
    go_wp2_with (go_at_call 123; refine (sumOf_any _ _ _ _ _ _ _ _ _ _ HP.out ⟨by omega, by omega⟩ ⟨by omega, by omega⟩ sa0 sa1 sa2 sb0 sb1 sb2).mono ?_; rintro e w2 ⟨rfl, hb2⟩; obtain ⟨hc2, hf2⟩ := bcell hb2; have hz2 := hb2.size; (try simp only [World.size_alloc, World.size_setCell, World.size_drew] at hz2); (try (have hy2w0 : w.heap.size < w2.heap.size := by omega)); (try (have hy2w1 : w.heap.size + 1 < w2.heap.size := by omega)); (try (have hy2w2 : w.heap.size + 1 + 1 < w2.heap.size := by omega)); (try (have hy2w3 : w.heap.size + 1 + 1 + 1 < w2.heap.size := by omega)); (try (have hy2w4 : w.heap.size + 1 + 1 + 1 + 1 < w2.heap.size := by omega)); (try (have hy2w10 : w1.heap.size < w2.heap.size := by omega)); (try (have hy2w11 : w1.heap.size + 1 < w2.heap.size := by omega)); (try (have hy2w12 : w1.heap.size + 1 + 1 < w2.heap.size := by omega)); (try (have hy2w13 : w1.heap.size + 1 + 1 + 1 < w2.heap.size := by omega)); (try (have hy2w14 : w1.heap.size + 1 + 1 + 1 + 1 < w2.heap.size := by omega)); have r2_0 := keepC hb2 (b := w.heap.size + 1 + 1 + 1) (o := 0) (v := .int .i64 0) (by go_cell); have r2_1 := keepC hb2 (b := w.heap.size + 1 + 1 + 1) (o := 1) (v := .int .i64 0) (by go_cell); have r2_2 := keepC hb2 (b := w.heap.size + 1 + 1 + 1) (o := 2) (v := .int .i64 0) (by go_cell))
    (try simp only [Exit.inBlock, Exit.then]); refine bodyPost_ret (by simp [results, Try.results81, go_sem, *]; try rfl) rfl ?_
    exact ⟨by rw [hE.out], by (repeat' (first | (with_reducible exact Below.refl _ _) | (with_reducible assumption) | (with_reducible refine Below.alloc ?_ ?_ _) | (with_reducible refine Below.drew ?_) | (with_reducible refine below_drewN ?_ _) | (with_reducible refine Below.setCell ?_ ?_ _) | (refine Below.step ?_ (by with_reducible assumption) ?_) | go_size))⟩
set_option maxHeartbeats 4000000 in
theorem l01AtRatio_any (p a0 a1 a2 b0 b1 b2 c0 c1 c2 r : Int) (w : World) (hp : isP p = true) (ha : isPt p ⟨a0, a1, a2⟩ = true) (hb : isPt p ⟨b0, b1, b2⟩ = true) (hc : isPt p ⟨c0, c1, c2⟩ = true) (h3 : three p ⟨a0, a1, a2⟩ ⟨b0, b1, b2⟩ ⟨c0, c1, c2⟩ = true) (hr : 0 ≤ r ∧ r ≤ p) :
    Calls Try.prog 78 #[.int .i64 p, .agg #[.int .i64 a0, .int .i64 a1, .int .i64 a2], .agg #[.int .i64 b0, .int .i64 b1, .int .i64 b2], .agg #[.int .i64 c0, .int .i64 c1, .int .i64 c2], .int .i64 r] w fun e w' => e = .returned (.agg #[.int .i64 (atI p ⟨a0, a1, a2⟩ ⟨b0, b1, b2⟩ ⟨c0, c1, c2⟩ r).x, .int .i64 (atI p ⟨a0, a1, a2⟩ ⟨b0, b1, b2⟩ ⟨c0, c1, c2⟩ r).y, .int .i64 (atI p ⟨a0, a1, a2⟩ ⟨b0, b1, b2⟩ ⟨c0, c1, c2⟩ r).z]) ∧ Below w.heap.size w w' := by
  have k1 := isP_lo hp
  have k2 := isP_hi hp
  obtain ⟨sa0, sa1, sa2⟩ := isPt_sm ha
  obtain ⟨sb0, sb1, sb2⟩ := isPt_sm hb
  obtain ⟨sc0, sc1, sc2⟩ := isPt_sm hc
  obtain ⟨n1, n2, n3, hz⟩ := three_of h3
  have hat := Lib.hid (at_eq ha hb hc n1 n2 n3 hz hr.1 hr.2)
  have hM : made p (a1 * b2 - a2 * b1) (a2 * b0 - a0 * b2) (a0 * b1 - a1 * b0) = (crs p ⟨a0, a1, a2⟩ ⟨b0, b1, b2⟩, true) := by
    unfold made; rw [if_neg (fac_crs ha hb n1)]; rfl
  have hLp : sm (crs p ⟨a0, a1, a2⟩ ⟨b0, b1, b2⟩).x ∧ sm (crs p ⟨a0, a1, a2⟩ ⟨b0, b1, b2⟩).y ∧ sm (crs p ⟨a0, a1, a2⟩ ⟨b0, b1, b2⟩).z := @isPt_sm p (crs p ⟨a0, a1, a2⟩ ⟨b0, b1, b2⟩).x (crs p ⟨a0, a1, a2⟩ ⟨b0, b1, b2⟩).y (crs p ⟨a0, a1, a2⟩ ⟨b0, b1, b2⟩).z (crs_pt ha hb n1)
  have hon := Lib.hid (fun d => @onP_line p ⟨a0, a1, a2⟩ ⟨b0, b1, b2⟩ d ha hb n1)
  have hratio : Hid (∀ d : P3, d ∈ onP p (crs p ⟨a0, a1, a2⟩ ⟨b0, b1, b2⟩) → ∀ w', Calls Try.prog 118 #[.int .i64 p, .agg #[.int .i64 a0, .int .i64 a1, .int .i64 a2], .agg #[.int .i64 b0, .int .i64 b1, .int .i64 b2], .agg #[.int .i64 c0, .int .i64 c1, .int .i64 c2], .agg #[.int .i64 d.x, .int .i64 d.y, .int .i64 d.z]] w' fun e w'' => e = .returned (.int .i64 (crS p ⟨a0, a1, a2⟩ ⟨b0, b1, b2⟩ ⟨c0, c1, c2⟩ d)) ∧ Below w'.heap.size w' w'') := by
    show ∀ d : P3, _
    intro d hd w'
    obtain ⟨hd1, hd2⟩ := (hon.out d).1 hd
    obtain ⟨sd0, sd1, sd2⟩ := isPt_sm hd1
    exact l01Ratio_any p a0 a1 a2 b0 b1 b2 c0 c1 c2 d.x d.y d.z w' hp sa0 sa1 sa2 sb0 sb1 sb2 sc0 sc1 sc2 sd0 sd1 sd2 (prt_bds ha hb hc n1 hz).1 (prt_bds ha hb hc n1 hz).2 (prt_bds ha hb hd1 n1 hd2).1 (prt_bds ha hb hd1 n1 hd2).2
  have hlen := Lib.hid (onP_len hp (crs p ⟨a0, a1, a2⟩ ⟨b0, b1, b2⟩))
  have hS : Hid (atS p ⟨a0, a1, a2⟩ ⟨b0, b1, b2⟩ ⟨c0, c1, c2⟩ r = ((onP p (crs p ⟨a0, a1, a2⟩ ⟨b0, b1, b2⟩)).find? fun d => crS p ⟨a0, a1, a2⟩ ⟨b0, b1, b2⟩ ⟨c0, c1, c2⟩ d == r).getD ⟨0, 0, 0⟩) := rfl
  have HP := Lib.hid hp
  have hmem : ⟨a0, a1, a2⟩ ∈ onP p (crs p ⟨a0, a1, a2⟩ ⟨b0, b1, b2⟩) := (hon.out ⟨a0, a1, a2⟩).2 ⟨ha, by
    unfold det3; rw [show (a0 * (b1 * a2 - b2 * a1) - a1 * (b0 * a2 - b2 * a0) + a2 * (b0 * a1 - b1 * a0)) = 0 by grind]; simp⟩
  have hne := Lib.hid (show rowsP (onP p (crs p ⟨a0, a1, a2⟩ ⟨b0, b1, b2⟩)) ≠ [] from fun h => by
    have h1 := congrArg List.length h
    rw [rowsP_len] at h1
    rw [List.length_eq_zero_iff.1 h1] at hmem
    cases hmem)
  clear hmem hon h3 n1 n2 n3 hz ha hb hc hp
  generalize crs p ⟨a0, a1, a2⟩ ⟨b0, b1, b2⟩ = ln at *
  obtain ⟨l0, l1, l2⟩ := ln
  simp only at hLp
  obtain ⟨sl0, sl1, sl2⟩ := hLp
  have R3 : True := trivial
  go_enter Try.func78, Try.ntmps78
  go_wp2_with (first | (go_at_call 116; refine (l01Join_any _ _ _ _ _ _ _ _ HP.out k2 sa0 sa1 sa2 sb0 sb1 sb2).mono ?_; rintro e w1 ⟨rfl, hb1⟩; obtain ⟨hc1, hf1⟩ := bcell hb1; have hz1 := hb1.size; (try simp only [World.size_alloc, World.size_setCell, World.size_drew] at hz1); (try (have hy1w0 : w.heap.size < w1.heap.size := by omega)); (try (have hy1w1 : w.heap.size + 1 < w1.heap.size := by omega)); (try (have hy1w2 : w.heap.size + 1 + 1 < w1.heap.size := by omega)); (try (have hy1w3 : w.heap.size + 1 + 1 + 1 < w1.heap.size := by omega)); (try (have hy1w4 : w.heap.size + 1 + 1 + 1 + 1 < w1.heap.size := by omega))) | (go_at_call 117; refine (l01PointsOn_any _ _ _ _ _ HP.out sl0 sl1 sl2).mono ?_; rintro e w2 ⟨v2, rfl, hown2, hb2⟩; obtain ⟨hc2, hf2⟩ := bcell hb2; have hz2 := hb2.size; (try simp only [World.size_alloc, World.size_setCell, World.size_drew] at hz2); (try (have hy2w0 : w.heap.size < w2.heap.size := by omega)); (try (have hy2w1 : w.heap.size + 1 < w2.heap.size := by omega)); (try (have hy2w2 : w.heap.size + 1 + 1 < w2.heap.size := by omega)); (try (have hy2w3 : w.heap.size + 1 + 1 + 1 < w2.heap.size := by omega)); (try (have hy2w4 : w.heap.size + 1 + 1 + 1 + 1 < w2.heap.size := by omega)); (try (have hy2w10 : w1.heap.size < w2.heap.size := by omega)); (try (have hy2w11 : w1.heap.size + 1 < w2.heap.size := by omega)); (try (have hy2w12 : w1.heap.size + 1 + 1 < w2.heap.size := by omega)); (try (have hy2w13 : w1.heap.size + 1 + 1 + 1 < w2.heap.size := by omega)); (try (have hy2w14 : w1.heap.size + 1 + 1 + 1 + 1 < w2.heap.size := by omega))))
  have ax0 : w2.cell? ⟨w.heap.size, 0, none⟩ = some (.int .i64 a0) := keepC hb2 (keepA _ (keepC hb1 (by go_cell))); have ax1 : w2.cell? ⟨w.heap.size, 1, none⟩ = some (.int .i64 a1) := keepC hb2 (keepA _ (keepC hb1 (by go_cell))); have ax2 : w2.cell? ⟨w.heap.size, 2, none⟩ = some (.int .i64 a2) := keepC hb2 (keepA _ (keepC hb1 (by go_cell))); have bx0 : w2.cell? ⟨w.heap.size + 1, 0, none⟩ = some (.int .i64 b0) := keepC hb2 (keepA _ (keepC hb1 (by go_cell))); have bx1 : w2.cell? ⟨w.heap.size + 1, 1, none⟩ = some (.int .i64 b1) := keepC hb2 (keepA _ (keepC hb1 (by go_cell))); have bx2 : w2.cell? ⟨w.heap.size + 1, 2, none⟩ = some (.int .i64 b2) := keepC hb2 (keepA _ (keepC hb1 (by go_cell))); have cx0 : w2.cell? ⟨w.heap.size + 1 + 1, 0, none⟩ = some (.int .i64 c0) := keepC hb2 (keepA _ (keepC hb1 (by go_cell))); have cx1 : w2.cell? ⟨w.heap.size + 1 + 1, 1, none⟩ = some (.int .i64 c1) := keepC hb2 (keepA _ (keepC hb1 (by go_cell))); have cx2 : w2.cell? ⟨w.heap.size + 1 + 1, 2, none⟩ = some (.int .i64 c2) := keepC hb2 (keepA _ (keepC hb1 (by go_cell)))
  have rx0 : w2.cell? ⟨w.heap.size + 1 + 1 + 1, 0, none⟩ = some (.int .i64 0) := keepC hb2 (keepA _ (keepC hb1 (by go_cell))); have rx1 : w2.cell? ⟨w.heap.size + 1 + 1 + 1, 1, none⟩ = some (.int .i64 0) := keepC hb2 (keepA _ (keepC hb1 (by go_cell))); have rx2 : w2.cell? ⟨w.heap.size + 1 + 1 + 1, 2, none⟩ = some (.int .i64 0) := keepC hb2 (keepA _ (keepC hb1 (by go_cell)))
  have fx0 : w2.frozen? ⟨w.heap.size + 1 + 1 + 1, 0, none⟩ = false := keepF hb2 (by go_size) (keepFA (by go_size) (keepF hb1 (by go_size) (by go_cell)) _); have fx1 : w2.frozen? ⟨w.heap.size + 1 + 1 + 1, 1, none⟩ = false := keepF hb2 (by go_size) (keepFA (by go_size) (keepF hb1 (by go_size) (by go_cell)) _); have fx2 : w2.frozen? ⟨w.heap.size + 1 + 1 + 1, 2, none⟩ = false := keepF hb2 (by go_size) (keepFA (by go_size) (keepF hb1 (by go_size) (by go_cell)) _)
  have hB2 : Below w.heap.size w w2 := by (repeat' (first | (with_reducible exact Below.refl _ _) | (with_reducible assumption) | (with_reducible refine Below.alloc ?_ ?_ _) | (with_reducible refine Below.drew ?_) | (with_reducible refine below_drewN ?_ _) | (with_reducible refine Below.setCell ?_ ?_ _) | (refine Below.step ?_ (by with_reducible assumption) ?_) | go_size))
  obtain ⟨g, cap, rfl, hbg, hg, hR, hfz, hcap⟩ := hown2.shape hne.out
  simp only [rowsP_len]
  have hgw : w.heap.size + 1 + 1 + 1 < g := by simp only [World.size_alloc] at *; omega
  clear hb1 hb2 hc1 hc2 hf1 hf2 hown2 hfz hcap hne hM
  generalize hps : onP p ⟨l0, l1, l2⟩ = ps at *
  clear hps
  generalize hn : ps.length = n at *
  have HN := Lib.hid hn; clear hn
  have hn1 : n ≤ 1000000 := by have := HN.out; have := hlen.out; omega
  generalize hf : (fun d => crS p ⟨a0, a1, a2⟩ ⟨b0, b1, b2⟩ ⟨c0, c1, c2⟩ d == r) = f at *
  have HF := Lib.hid (fun d => congrFun hf d); clear hf
  go_wp2
  go_loopw [14] (fun i wr => ∃ k : Nat, k ≤ n ∧ i = .int .i64 k ∧ Below w2.heap.size w2 wr ∧ Hid (ps.find? f = (ps.drop k).find? f)) (fun i _ => n - (intOf i).toNat)
  case atStart => exact ⟨0, Nat.zero_le _, rfl, Below.refl _ _, rfl⟩
  case round =>
    obtain ⟨k, hk, rfl, hC, hI⟩ := hrel
    have hCz := hC.size
    by_cases hlt : k < n
    · have hkp : Hid (k < ps.length) := by show _ < _; rw [HN.out]; exact hlt
      obtain ⟨p0, p1, p2⟩ := (hR.rdp.below hC hg).at_ hkp.out
      have hcall := hratio.out (ps[k]'(hkp.out)) (List.getElem_mem _)
      have hstep := Lib.hid (hI.out.trans (congrArg (List.find? f) (drop_cons (List.getElem?_eq_getElem hkp.out))))
      have hdf := Lib.hid (HF.out (ps[k]'(hkp.out)))
      have ay0 := keepC hC ax0; have ay1 := keepC hC ax1; have ay2 := keepC hC ax2; have by0 := keepC hC bx0; have by1 := keepC hC bx1; have by2 := keepC hC bx2; have cy0 := keepC hC cx0; have cy1 := keepC hC cx1; have cy2 := keepC hC cx2
      have ry0 := keepC hC rx0; have ry1 := keepC hC rx1; have ry2 := keepC hC rx2
      have fy0 := keepF hC (by omega) fx0; have fy1 := keepF hC (by omega) fx1; have fy2 := keepF hC (by omega) fx2
      generalize ps[k]'(hkp.out) = d at *
      simp only [Nat.zero_add] at p0 p1 p2
      have hfb : Hid ((crS p ⟨a0, a1, a2⟩ ⟨b0, b1, b2⟩ ⟨c0, c1, c2⟩ d == r) = f d) := hdf
      generalize crS p ⟨a0, a1, a2⟩ ⟨b0, b1, b2⟩ ⟨c0, c1, c2⟩ d = rr at *
      have HC := Lib.hid hcall; clear hcall
      cases hfd : f d
      · have hn' : Hid (ps.find? f = (ps.drop (k + 1)).find? f) := by show _ = _; rw [hstep.out, List.find?_cons_of_neg (by rw [hfd]; simp)]
        have ht : (rr == r) = false := by rw [hfb.out]; exact hfd
        clear hfd hstep hI
        go_wp2_with fail
        go_region_held3 (fun w' => w'.cell? ⟨w.heap.size, 0, none⟩ = some (.int .i64 a0) ∧ w'.cell? ⟨w.heap.size, 1, none⟩ = some (.int .i64 a1) ∧ w'.cell? ⟨w.heap.size, 2, none⟩ = some (.int .i64 a2) ∧ w'.cell? ⟨w.heap.size + 1, 0, none⟩ = some (.int .i64 b0) ∧ w'.cell? ⟨w.heap.size + 1, 1, none⟩ = some (.int .i64 b1) ∧ w'.cell? ⟨w.heap.size + 1, 2, none⟩ = some (.int .i64 b2) ∧ w'.cell? ⟨w.heap.size + 1 + 1, 0, none⟩ = some (.int .i64 c0) ∧ w'.cell? ⟨w.heap.size + 1 + 1, 1, none⟩ = some (.int .i64 c1) ∧ w'.cell? ⟨w.heap.size + 1 + 1, 2, none⟩ = some (.int .i64 c2) ∧ w'.cell? ⟨w.heap.size + 1 + 1 + 1, 0, none⟩ = some (.int .i64 0) ∧ w'.cell? ⟨w.heap.size + 1 + 1 + 1, 1, none⟩ = some (.int .i64 0) ∧ w'.cell? ⟨w.heap.size + 1 + 1 + 1, 2, none⟩ = some (.int .i64 0) ∧ w'.frozen? ⟨w.heap.size + 1 + 1 + 1, 0, none⟩ = false ∧ w'.frozen? ⟨w.heap.size + 1 + 1 + 1, 1, none⟩ = false ∧ w'.frozen? ⟨w.heap.size + 1 + 1 + 1, 2, none⟩ = false ∧ w'.cell? ⟨g, k * 3, none⟩ = some (.int .i64 d.x) ∧ w'.cell? ⟨g, k * 3 + 1, none⟩ = some (.int .i64 d.y) ∧ w'.cell? ⟨g, k * 3 + 2, none⟩ = some (.int .i64 d.z) ∧ w2.heap.size ≤ w'.heap.size ∧ Below w2.heap.size w2 w')
          ((go_split_ands; (repeat (any_goals (with_reducible apply And.intro))) <;> (first
            | (with_reducible assumption)
            | (with_reducible exact keepC (by with_reducible assumption) (by with_reducible assumption))
            | (with_reducible exact keepD (by with_reducible assumption))
            | (with_reducible exact keepFD (by with_reducible assumption))
            | ((with_reducible apply keepF); (with_reducible assumption); (omega); (with_reducible assumption))
            | (with_reducible exact keepB (by with_reducible assumption) (by with_reducible assumption) (Nat.le_refl _))
            | (go_cell) | (go_grown))))
          (first | (go_at_call 118; refine (HC.out _).mono ?_; rintro e w3 ⟨rfl, hb3⟩; obtain ⟨hc3, hf3⟩ := bcell hb3; have hz3 := hb3.size; (try simp only [World.size_alloc, World.size_setCell, World.size_drew] at hz3); (try (have hy3w0 : w.heap.size < w3.heap.size := by omega)); (try (have hy3w1 : w.heap.size + 1 < w3.heap.size := by omega)); (try (have hy3w2 : w.heap.size + 1 + 1 < w3.heap.size := by omega)); (try (have hy3w3 : w.heap.size + 1 + 1 + 1 < w3.heap.size := by omega)); (try (have hy3w4 : w.heap.size + 1 + 1 + 1 + 1 < w3.heap.size := by omega)); (try (have hy3w10 : w1.heap.size < w3.heap.size := by omega)); (try (have hy3w11 : w1.heap.size + 1 < w3.heap.size := by omega)); (try (have hy3w12 : w1.heap.size + 1 + 1 < w3.heap.size := by omega)); (try (have hy3w13 : w1.heap.size + 1 + 1 + 1 < w3.heap.size := by omega)); (try (have hy3w14 : w1.heap.size + 1 + 1 + 1 + 1 < w3.heap.size := by omega)); (try (have hy3w20 : w2.heap.size < w3.heap.size := by omega)); (try (have hy3w21 : w2.heap.size + 1 < w3.heap.size := by omega)); (try (have hy3w22 : w2.heap.size + 1 + 1 < w3.heap.size := by omega)); (try (have hy3w23 : w2.heap.size + 1 + 1 + 1 < w3.heap.size := by omega)); (try (have hy3w24 : w2.heap.size + 1 + 1 + 1 + 1 < w3.heap.size := by omega))))
        go_wp2
        go_split_ands
        go_roundw
        case rel => exact ⟨k + 1, by omega, by go_num, by with_reducible assumption, hn'⟩
        case measure => simp [intOf]; omega
      · have hres : Hid (atI p ⟨a0, a1, a2⟩ ⟨b0, b1, b2⟩ ⟨c0, c1, c2⟩ r = d) := by show _ = _; rw [← hat.out, hS.out, hstep.out, List.find?_cons_of_pos hfd]; rfl
        have ht : (rr == r) = true := by rw [hfb.out]; exact hfd
        have hdd : Hid (∀ q, q = d → q.x = d.x ∧ q.y = d.y ∧ q.z = d.z) := Lib.hid (fun q h => by subst h; exact ⟨rfl, rfl, rfl⟩)
        clear hfd hstep hI
        go_wp2_with fail
        go_region_held3 (fun w' => w'.cell? ⟨w.heap.size, 0, none⟩ = some (.int .i64 a0) ∧ w'.cell? ⟨w.heap.size, 1, none⟩ = some (.int .i64 a1) ∧ w'.cell? ⟨w.heap.size, 2, none⟩ = some (.int .i64 a2) ∧ w'.cell? ⟨w.heap.size + 1, 0, none⟩ = some (.int .i64 b0) ∧ w'.cell? ⟨w.heap.size + 1, 1, none⟩ = some (.int .i64 b1) ∧ w'.cell? ⟨w.heap.size + 1, 2, none⟩ = some (.int .i64 b2) ∧ w'.cell? ⟨w.heap.size + 1 + 1, 0, none⟩ = some (.int .i64 c0) ∧ w'.cell? ⟨w.heap.size + 1 + 1, 1, none⟩ = some (.int .i64 c1) ∧ w'.cell? ⟨w.heap.size + 1 + 1, 2, none⟩ = some (.int .i64 c2) ∧ w'.cell? ⟨w.heap.size + 1 + 1 + 1, 0, none⟩ = some (.int .i64 0) ∧ w'.cell? ⟨w.heap.size + 1 + 1 + 1, 1, none⟩ = some (.int .i64 0) ∧ w'.cell? ⟨w.heap.size + 1 + 1 + 1, 2, none⟩ = some (.int .i64 0) ∧ w'.frozen? ⟨w.heap.size + 1 + 1 + 1, 0, none⟩ = false ∧ w'.frozen? ⟨w.heap.size + 1 + 1 + 1, 1, none⟩ = false ∧ w'.frozen? ⟨w.heap.size + 1 + 1 + 1, 2, none⟩ = false ∧ w'.cell? ⟨g, k * 3, none⟩ = some (.int .i64 d.x) ∧ w'.cell? ⟨g, k * 3 + 1, none⟩ = some (.int .i64 d.y) ∧ w'.cell? ⟨g, k * 3 + 2, none⟩ = some (.int .i64 d.z) ∧ w2.heap.size ≤ w'.heap.size ∧ Below w2.heap.size w2 w')
          ((go_split_ands; (repeat (any_goals (with_reducible apply And.intro))) <;> (first
            | (with_reducible assumption)
            | (with_reducible exact keepC (by with_reducible assumption) (by with_reducible assumption))
            | (with_reducible exact keepD (by with_reducible assumption))
            | (with_reducible exact keepFD (by with_reducible assumption))
            | ((with_reducible apply keepF); (with_reducible assumption); (omega); (with_reducible assumption))
            | (with_reducible exact keepB (by with_reducible assumption) (by with_reducible assumption) (Nat.le_refl _))
            | (go_cell) | (go_grown))))
          (first | (go_at_call 118; refine (HC.out _).mono ?_; rintro e w3 ⟨rfl, hb3⟩; obtain ⟨hc3, hf3⟩ := bcell hb3; have hz3 := hb3.size; (try simp only [World.size_alloc, World.size_setCell, World.size_drew] at hz3); (try (have hy3w0 : w.heap.size < w3.heap.size := by omega)); (try (have hy3w1 : w.heap.size + 1 < w3.heap.size := by omega)); (try (have hy3w2 : w.heap.size + 1 + 1 < w3.heap.size := by omega)); (try (have hy3w3 : w.heap.size + 1 + 1 + 1 < w3.heap.size := by omega)); (try (have hy3w4 : w.heap.size + 1 + 1 + 1 + 1 < w3.heap.size := by omega)); (try (have hy3w10 : w1.heap.size < w3.heap.size := by omega)); (try (have hy3w11 : w1.heap.size + 1 < w3.heap.size := by omega)); (try (have hy3w12 : w1.heap.size + 1 + 1 < w3.heap.size := by omega)); (try (have hy3w13 : w1.heap.size + 1 + 1 + 1 < w3.heap.size := by omega)); (try (have hy3w14 : w1.heap.size + 1 + 1 + 1 + 1 < w3.heap.size := by omega)); (try (have hy3w20 : w2.heap.size < w3.heap.size := by omega)); (try (have hy3w21 : w2.heap.size + 1 < w3.heap.size := by omega)); (try (have hy3w22 : w2.heap.size + 1 + 1 < w3.heap.size := by omega)); (try (have hy3w23 : w2.heap.size + 1 + 1 + 1 < w3.heap.size := by omega)); (try (have hy3w24 : w2.heap.size + 1 + 1 + 1 + 1 < w3.heap.size := by omega))))
        go_split_ands
        go_wp2
        (try simp only [Exit.inBlock, Exit.then]); refine bodyPost_ret (by simp [results, Try.results78, go_sem, *]; try rfl) rfl ?_
        rw [hres.out]
        exact ⟨rfl, by (repeat (first | (with_reducible exact hB2.trans (Below.mono (by with_reducible assumption) hB2.size)) | (with_reducible refine Below.setCell ?_ (by simp only []; omega) _) | (with_reducible refine Below.drew ?_)))⟩
    · have hres : Hid (atI p ⟨a0, a1, a2⟩ ⟨b0, b1, b2⟩ ⟨c0, c1, c2⟩ r = ⟨0, 0, 0⟩) := by show _ = _; rw [← hat.out, hS.out, hI.out, List.drop_of_length_le (by rw [HN.out]; omega)]; rfl
      have ry0 := keepC hC rx0; have ry1 := keepC hC rx1; have ry2 := keepC hC rx2
      have fy0 := keepF hC (by omega) fx0; have fy1 := keepF hC (by omega) fx1; have fy2 := keepF hC (by omega) fx2
      go_wp2
      (try simp only [Exit.inBlock, Exit.then]); refine bodyPost_ret (by simp [results, Try.results78, go_sem, *]; try rfl) rfl ?_
      rw [hres.out]
      exact ⟨rfl, by (repeat (first | (with_reducible exact hB2.trans (Below.mono (by with_reducible assumption) hB2.size)) | (with_reducible refine Below.setCell ?_ (by simp only []; omega) _) | (with_reducible refine Below.drew ?_)))⟩
end Go.Proofs.Ytphiohmeahpofaa
