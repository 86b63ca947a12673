/- The point with a cross ratio, in the program and in the reference. -/
import Derived.Test.YtjfabhkgmelmgaaW20
import Derived.Test.YtjfabhkgmelmgaaW16
namespace Go.Proofs.Ytjfabhkgmelmgaa
open Go.RowKit
set_option linter.unusedSimpArgs false
set_option linter.unusedVariables false
set_option maxRecDepth 100000

set_option maxHeartbeats 1000000 in
theorem sumOf_any (p u a0 a1 a2 v b0 b1 b2 : Int) (w : World) (hp : isP p = true) (hu : 0 ≤ u ∧ u ≤ 144) (hv : 0 ≤ v ∧ v ≤ 12) (sa0 : sm a0) (sa1 : sm a1) (sa2 : sm a2) (sb0 : sm b0) (sb1 : sm b1) (sb2 : sm b2) :
    Calls Try.prog 148 #[.int .i64 p, .int .i64 u, .agg #[.int .i64 a0, .int .i64 a1, .int .i64 a2], .int .i64 v, .agg #[.int .i64 b0, .int .i64 b1, .int .i64 b2]] w fun e w' => e = .returned (.agg #[.int .i64 (npt p (u * a0 + v * b0) (u * a1 + v * b1) (u * a2 + v * b2)).x, .int .i64 (npt p (u * a0 + v * b0) (u * a1 + v * b1) (u * a2 + v * b2)).y, .int .i64 (npt p (u * a0 + v * b0) (u * a1 + v * b1) (u * a2 + v * b2)).z]) ∧ Below w.heap.size w w' := by
  have ⟨la0, ua0⟩ := sa0; have ⟨la1, ua1⟩ := sa1; have ⟨la2, ua2⟩ := sa2; have ⟨lb0, ub0⟩ := sb0; have ⟨lb1, ub1⟩ := sb1; have ⟨lb2, ub2⟩ := sb2
  obtain ⟨u0, u1⟩ := hu
  obtain ⟨v0, v1⟩ := hv
  have ⟨e0, f0⟩ := mul_bd (a := u) (b := a0) (A := 144) (B := 12) (by omega) (by omega) (by omega) (by omega); have ⟨e1, f1⟩ := mul_bd (a := u) (b := a1) (A := 144) (B := 12) (by omega) (by omega) (by omega) (by omega); have ⟨e2, f2⟩ := mul_bd (a := u) (b := a2) (A := 144) (B := 12) (by omega) (by omega) (by omega) (by omega)
  have ⟨g0, h0⟩ := mul_bd (a := v) (b := b0) (A := 12) (B := 12) (by omega) (by omega) (by omega) (by omega); have ⟨g1, h1⟩ := mul_bd (a := v) (b := b1) (A := 12) (B := 12) (by omega) (by omega) (by omega) (by omega); have ⟨g2, h2⟩ := mul_bd (a := v) (b := b2) (A := 12) (B := 12) (by omega) (by omega) (by omega) (by omega)
  go_enter Try.func148, Try.ntmps148
  go_wp2_with (go_at_call 180; refine (pointOf_any _ _ _ _ _ hp).mono ?_; rintro e w1 ⟨rfl, hb1⟩; obtain ⟨hc1, hf1⟩ := bcell hb1; have hz1 := hb1.size; (try simp only [World.size_alloc, World.size_setCell, World.size_drew] at hz1); (try (have hy1w0 : w.heap.size < w1.heap.size := by omega)); (try (have hy1w1 : w.heap.size + 1 < w1.heap.size := by omega)); (try (have hy1w2 : w.heap.size + 1 + 1 < w1.heap.size := by omega)); (try (have hy1w3 : w.heap.size + 1 + 1 + 1 < w1.heap.size := by omega)); (try (have hy1w4 : w.heap.size + 1 + 1 + 1 + 1 < w1.heap.size := by omega)); have r1_0 := keepC hb1 (b := w.heap.size + 1 + 1) (o := 0) (v := .int .i64 0) (by go_cell); have r1_1 := keepC hb1 (b := w.heap.size + 1 + 1) (o := 1) (v := .int .i64 0) (by go_cell); have r1_2 := keepC hb1 (b := w.heap.size + 1 + 1) (o := 2) (v := .int .i64 0) (by go_cell))
  (try simp only [Exit.inBlock, Exit.then]); refine bodyPost_ret (by simp [results, Try.results148, go_sem, *]; try rfl) rfl ?_
  exact ⟨rfl, by (repeat' (first | (with_reducible exact Below.refl _ _) | (with_reducible assumption) | (with_reducible refine Below.alloc ?_ ?_ _) | (with_reducible refine Below.drew ?_) | (with_reducible refine below_drewN ?_ _) | (with_reducible refine Below.setCell ?_ ?_ _) | (refine Below.step ?_ (by with_reducible assumption) ?_) | go_size))⟩