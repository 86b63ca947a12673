/- Points out of three numbers, what is on both of two lines, joins and meets, in the program and in the reference. -/
import Derived.Test.YtjfabhkgmelmgaaW6
namespace Go.Proofs.Ytjfabhkgmelmgaa
open Go.RowKit
set_option linter.unusedSimpArgs false
set_option linter.unusedVariables false
set_option maxRecDepth 100000

set_option maxHeartbeats 400000 in
theorem pointOf_any (p x y z : Int) (w : World) (hp : isP p = true) :
    Calls Try.prog 180 #[.int .i64 p, .int .i64 x, .int .i64 y, .int .i64 z] w fun e w' => e = .returned (.agg #[.int .i64 (nr p (fac p [x, y, z]) x), .int .i64 (nr p (fac p [x, y, z]) y), .int .i64 (nr p (fac p [x, y, z]) z)]) ∧ Below w.heap.size w w' := by
  go_enter Try.func180, Try.ntmps180
  go_wp2_with (go_at_call 102; refine (normal3 p _ _ x y z _ hp (by go_cell) (by go_cell) (by go_cell) (by go_cell) (by go_cell) (by go_cell)).mono ?_; rintro e w' ⟨rfl, rfl⟩)
  go_returns
  exact ⟨rfl, by (repeat' (first | (with_reducible exact Below.refl _ _) | (with_reducible assumption) | (with_reducible refine Below.alloc ?_ ?_ _) | (with_reducible refine Below.drew ?_) | (with_reducible refine below_drewN ?_ _) | (with_reducible refine Below.setCell ?_ ?_ _) | (refine Below.step ?_ (by with_reducible assumption) ?_) | go_size))⟩

set_option maxHeartbeats 400000 in
theorem l01Made_any (p x y z : Int) (w : World) (hp : isP p = true) :
    Calls Try.prog 190 #[.int .i64 p, .int .i64 x, .int .i64 y, .int .i64 z] w fun e w' => e = .returned (.tuple #[.agg #[.int .i64 (made p x y z).1.x, .int .i64 (made p x y z).1.y, .int .i64 (made p x y z).1.z], .bool (made p x y z).2]) ∧ Below w.heap.size w w' := by
  by_cases hf : fac p [x, y, z] = 0
  · have hE : Hid (made p x y z = (⟨0, 0, 0⟩, false)) := by show _ = _; unfold made; rw [if_pos hf]
    have hf' : (fac p [x, y, z] == 0) = true := by simpa using hf
    clear hf
    go_enter Try.func190, Try.ntmps190
    go_wp2_with (fail)
    refine (l01Norm_ne p _ _ _ [x, y, z] _ hp (rd3 (by go_cell) (by go_cell) (by go_cell)) (by go_size) (by simp) (by simp)).mono ?_
    rintro e w1 ⟨g, cap, rfl, hg, hg2, hR, hfr, hb1⟩
    obtain ⟨hc1, hf1⟩ := bcell hb1; have hz1 := hb1.size; (try simp only [World.size_alloc, World.size_setCell, World.size_drew] at hz1); (try (have hy1w0 : w.heap.size < w1.heap.size := by omega)); (try (have hy1w1 : w.heap.size + 1 < w1.heap.size := by omega)); (try (have hy1w2 : w.heap.size + 1 + 1 < w1.heap.size := by omega)); (try (have hy1w3 : w.heap.size + 1 + 1 + 1 < w1.heap.size := by omega)); (try (have hy1w4 : w.heap.size + 1 + 1 + 1 + 1 < w1.heap.size := by omega))
    have r0 := keepC hb1 (b := w.heap.size) (o := 0) (v := .int .i64 0) (by go_cell)
    have r1 := keepC hb1 (b := w.heap.size) (o := 1) (v := .int .i64 0) (by go_cell)
    have r2 := keepC hb1 (b := w.heap.size) (o := 2) (v := .int .i64 0) (by go_cell)
    have c0 := hR 0 _ rfl
    have c1 := hR 1 _ rfl
    have c2 := hR 2 _ rfl
    clear hR hfr
    simp only [Nat.zero_add] at c0 c1 c2
    go_wp2
    (try simp only [Exit.inBlock, Exit.then]); refine bodyPost_ret (by simp [results, Try.results190, go_sem, *]; try rfl) rfl ?_
    exact ⟨by rw [hE.out]; try rfl, by (repeat' (first | (with_reducible exact Below.refl _ _) | (with_reducible assumption) | (with_reducible refine Below.alloc ?_ ?_ _) | (with_reducible refine Below.drew ?_) | (with_reducible refine below_drewN ?_ _) | (with_reducible refine Below.setCell ?_ ?_ _) | (refine Below.step ?_ (by with_reducible assumption) ?_) | go_size))⟩
  · have hE : Hid (made p x y z = (⟨nr p (fac p [x, y, z]) x, nr p (fac p [x, y, z]) y, nr p (fac p [x, y, z]) z⟩, true)) := by show _ = _; unfold made; rw [if_neg hf]; rfl
    have hf' : (fac p [x, y, z] == 0) = false := by simpa using hf
    clear hf
    go_enter Try.func190, Try.ntmps190
    go_wp2_with (fail)
    refine (l01Norm_ne p _ _ _ [x, y, z] _ hp (rd3 (by go_cell) (by go_cell) (by go_cell)) (by go_size) (by simp) (by simp)).mono ?_
    rintro e w1 ⟨g, cap, rfl, hg, hg2, hR, hfr, hb1⟩
    obtain ⟨hc1, hf1⟩ := bcell hb1; have hz1 := hb1.size; (try simp only [World.size_alloc, World.size_setCell, World.size_drew] at hz1); (try (have hy1w0 : w.heap.size < w1.heap.size := by omega)); (try (have hy1w1 : w.heap.size + 1 < w1.heap.size := by omega)); (try (have hy1w2 : w.heap.size + 1 + 1 < w1.heap.size := by omega)); (try (have hy1w3 : w.heap.size + 1 + 1 + 1 < w1.heap.size := by omega)); (try (have hy1w4 : w.heap.size + 1 + 1 + 1 + 1 < w1.heap.size := by omega))
    have r0 := keepC hb1 (b := w.heap.size) (o := 0) (v := .int .i64 0) (by go_cell)
    have r1 := keepC hb1 (b := w.heap.size) (o := 1) (v := .int .i64 0) (by go_cell)
    have r2 := keepC hb1 (b := w.heap.size) (o := 2) (v := .int .i64 0) (by go_cell)
    have c0 := hR 0 _ rfl
    have c1 := hR 1 _ rfl
    have c2 := hR 2 _ rfl
    clear hR hfr
    simp only [Nat.zero_add] at c0 c1 c2
    go_wp2
    go_region
    go_wp2
    (try simp only [Exit.inBlock, Exit.then]); refine bodyPost_ret (by simp [results, Try.results190, go_sem, *]; try rfl) rfl ?_
    exact ⟨by rw [hE.out]; try rfl, by (repeat' (first | (with_reducible exact Below.refl _ _) | (with_reducible assumption) | (with_reducible refine Below.alloc ?_ ?_ _) | (with_reducible refine Below.drew ?_) | (with_reducible refine below_drewN ?_ _) | (with_reducible refine Below.setCell ?_ ?_ _) | (refine Below.step ?_ (by with_reducible assumption) ?_) | go_size))⟩

set_option maxHeartbeats 400000 in
theorem l01Cross_any (p a0 a1 a2 b0 b1 b2 : Int) (w : World) (hp : isP p = true) (k2 : p ≤ 13) (sa0 : sm a0) (sa1 : sm a1) (sa2 : sm a2) (sb0 : sm b0) (sb1 : sm b1) (sb2 : sm b2) :
    Calls Try.prog 182 #[.int .i64 p, .agg #[.int .i64 a0, .int .i64 a1, .int .i64 a2], .agg #[.int .i64 b0, .int .i64 b1, .int .i64 b2]] w fun e w' => e = .returned (.tuple #[.agg #[.int .i64 ((made p (a1 * b2 - a2 * b1) (a2 * b0 - a0 * b2) (a0 * b1 - a1 * b0)).1).x, .int .i64 ((made p (a1 * b2 - a2 * b1) (a2 * b0 - a0 * b2) (a0 * b1 - a1 * b0)).1).y, .int .i64 ((made p (a1 * b2 - a2 * b1) (a2 * b0 - a0 * b2) (a0 * b1 - a1 * b0)).1).z], .bool (made p (a1 * b2 - a2 * b1) (a2 * b0 - a0 * b2) (a0 * b1 - a1 * b0)).2]) ∧ Below w.heap.size w w' := by
  have ⟨la0, ua0⟩ := sa0; have ⟨la1, ua1⟩ := sa1; have ⟨la2, ua2⟩ := sa2; have ⟨lb0, ub0⟩ := sb0; have ⟨lb1, ub1⟩ := sb1; have ⟨lb2, ub2⟩ := sb2
  have ⟨ea1b2, fa1b2⟩ := mul_bd (a := a1) (b := b2) (A := 12) (B := 12) (by omega) (by omega) (by omega) (by omega); have ⟨ea2b1, fa2b1⟩ := mul_bd (a := a2) (b := b1) (A := 12) (B := 12) (by omega) (by omega) (by omega) (by omega); have ⟨ea2b0, fa2b0⟩ := mul_bd (a := a2) (b := b0) (A := 12) (B := 12) (by omega) (by omega) (by omega) (by omega); have ⟨ea0b2, fa0b2⟩ := mul_bd (a := a0) (b := b2) (A := 12) (B := 12) (by omega) (by omega) (by omega) (by omega); have ⟨ea0b1, fa0b1⟩ := mul_bd (a := a0) (b := b1) (A := 12) (B := 12) (by omega) (by omega) (by omega) (by omega); have ⟨ea1b0, fa1b0⟩ := mul_bd (a := a1) (b := b0) (A := 12) (B := 12) (by omega) (by omega) (by omega) (by omega)
  go_enter Try.func182, Try.ntmps182
  go_wp2_with (go_at_call 190; refine (l01Made_any _ _ _ _ _ hp).mono ?_; rintro e w1 ⟨rfl, hb1⟩; obtain ⟨hc1, hf1⟩ := bcell hb1; have hz1 := hb1.size; (try simp only [World.size_alloc, World.size_setCell, World.size_drew] at hz1); (try (have hy1w0 : w.heap.size < w1.heap.size := by omega)); (try (have hy1w1 : w.heap.size + 1 < w1.heap.size := by omega)); (try (have hy1w2 : w.heap.size + 1 + 1 < w1.heap.size := by omega)); (try (have hy1w3 : w.heap.size + 1 + 1 + 1 < w1.heap.size := by omega)); (try (have hy1w4 : w.heap.size + 1 + 1 + 1 + 1 < w1.heap.size := by omega)); have r1_0 := keepC hb1 (b := w.heap.size + 1 + 1) (o := 0) (v := .int .i64 0) (by go_cell); have r1_1 := keepC hb1 (b := w.heap.size + 1 + 1) (o := 1) (v := .int .i64 0) (by go_cell); have r1_2 := keepC hb1 (b := w.heap.size + 1 + 1) (o := 2) (v := .int .i64 0) (by go_cell))
  (try simp only [Exit.inBlock, Exit.then]); refine bodyPost_ret (by simp [results, Try.results182, go_sem, *]; try rfl) rfl ?_
  exact ⟨rfl, by (repeat' (first | (with_reducible exact Below.refl _ _) | (with_reducible assumption) | (with_reducible refine Below.alloc ?_ ?_ _) | (with_reducible refine Below.drew ?_) | (with_reducible refine below_drewN ?_ _) | (with_reducible refine Below.setCell ?_ ?_ _) | (refine Below.step ?_ (by with_reducible assumption) ?_) | go_size))⟩

set_option maxHeartbeats 400000 in
theorem l01Join_any (p a0 a1 a2 b0 b1 b2 : Int) (w : World) (hp : isP p = true) (k2 : p ≤ 13) (sa0 : sm a0) (sa1 : sm a1) (sa2 : sm a2) (sb0 : sm b0) (sb1 : sm b1) (sb2 : sm b2) :
    Calls Try.prog 161 #[.int .i64 p, .agg #[.int .i64 a0, .int .i64 a1, .int .i64 a2], .agg #[.int .i64 b0, .int .i64 b1, .int .i64 b2]] w fun e w' => e = .returned (.tuple #[.agg #[.int .i64 ((made p (a1 * b2 - a2 * b1) (a2 * b0 - a0 * b2) (a0 * b1 - a1 * b0)).1).x, .int .i64 ((made p (a1 * b2 - a2 * b1) (a2 * b0 - a0 * b2) (a0 * b1 - a1 * b0)).1).y, .int .i64 ((made p (a1 * b2 - a2 * b1) (a2 * b0 - a0 * b2) (a0 * b1 - a1 * b0)).1).z], .bool (made p (a1 * b2 - a2 * b1) (a2 * b0 - a0 * b2) (a0 * b1 - a1 * b0)).2]) ∧ Below w.heap.size w w' := by
  go_enter Try.func161, Try.ntmps161
  go_wp2_with (go_at_call 182; refine (l01Cross_any _ _ _ _ _ _ _ _ hp k2 sa0 sa1 sa2 sb0 sb1 sb2).mono ?_; rintro e w1 ⟨rfl, hb1⟩; obtain ⟨hc1, hf1⟩ := bcell hb1; have hz1 := hb1.size; (try simp only [World.size_alloc, World.size_setCell, World.size_drew] at hz1); (try (have hy1w0 : w.heap.size < w1.heap.size := by omega)); (try (have hy1w1 : w.heap.size + 1 < w1.heap.size := by omega)); (try (have hy1w2 : w.heap.size + 1 + 1 < w1.heap.size := by omega)); (try (have hy1w3 : w.heap.size + 1 + 1 + 1 < w1.heap.size := by omega)); (try (have hy1w4 : w.heap.size + 1 + 1 + 1 + 1 < w1.heap.size := by omega)); have r1_0 := keepC hb1 (b := w.heap.size + 1 + 1) (o := 0) (v := .int .i64 0) (by go_cell); have r1_1 := keepC hb1 (b := w.heap.size + 1 + 1) (o := 1) (v := .int .i64 0) (by go_cell); have r1_2 := keepC hb1 (b := w.heap.size + 1 + 1) (o := 2) (v := .int .i64 0) (by go_cell))
  (try simp only [Exit.inBlock, Exit.then]); refine bodyPost_ret (by simp [results, Try.results161, go_sem, *]; try rfl) rfl ?_
  exact ⟨rfl, by (repeat' (first | (with_reducible exact Below.refl _ _) | (with_reducible assumption) | (with_reducible refine Below.alloc ?_ ?_ _) | (with_reducible refine Below.drew ?_) | (with_reducible refine below_drewN ?_ _) | (with_reducible refine Below.setCell ?_ ?_ _) | (refine Below.step ?_ (by with_reducible assumption) ?_) | go_size))⟩

set_option maxHeartbeats 400000 in
theorem l01Meet_any (p a0 a1 a2 b0 b1 b2 : Int) (w : World) (hp : isP p = true) (k2 : p ≤ 13) (sa0 : sm a0) (sa1 : sm a1) (sa2 : sm a2) (sb0 : sm b0) (sb1 : sm b1) (sb2 : sm b2) :
    Calls Try.prog 162 #[.int .i64 p, .agg #[.int .i64 a0, .int .i64 a1, .int .i64 a2], .agg #[.int .i64 b0, .int .i64 b1, .int .i64 b2]] w fun e w' => e = .returned (.tuple #[.agg #[.int .i64 ((made p (a1 * b2 - a2 * b1) (a2 * b0 - a0 * b2) (a0 * b1 - a1 * b0)).1).x, .int .i64 ((made p (a1 * b2 - a2 * b1) (a2 * b0 - a0 * b2) (a0 * b1 - a1 * b0)).1).y, .int .i64 ((made p (a1 * b2 - a2 * b1) (a2 * b0 - a0 * b2) (a0 * b1 - a1 * b0)).1).z], .bool (made p (a1 * b2 - a2 * b1) (a2 * b0 - a0 * b2) (a0 * b1 - a1 * b0)).2]) ∧ Below w.heap.size w w' := by
  go_enter Try.func162, Try.ntmps162
  go_wp2_with (go_at_call 182; refine (l01Cross_any _ _ _ _ _ _ _ _ hp k2 sa0 sa1 sa2 sb0 sb1 sb2).mono ?_; rintro e w1 ⟨rfl, hb1⟩; obtain ⟨hc1, hf1⟩ := bcell hb1; have hz1 := hb1.size; (try simp only [World.size_alloc, World.size_setCell, World.size_drew] at hz1); (try (have hy1w0 : w.heap.size < w1.heap.size := by omega)); (try (have hy1w1 : w.heap.size + 1 < w1.heap.size := by omega)); (try (have hy1w2 : w.heap.size + 1 + 1 < w1.heap.size := by omega)); (try (have hy1w3 : w.heap.size + 1 + 1 + 1 < w1.heap.size := by omega)); (try (have hy1w4 : w.heap.size + 1 + 1 + 1 + 1 < w1.heap.size := by omega)); have r1_0 := keepC hb1 (b := w.heap.size + 1 + 1) (o := 0) (v := .int .i64 0) (by go_cell); have r1_1 := keepC hb1 (b := w.heap.size + 1 + 1) (o := 1) (v := .int .i64 0) (by go_cell); have r1_2 := keepC hb1 (b := w.heap.size + 1 + 1) (o := 2) (v := .int .i64 0) (by go_cell))
  (try simp only [Exit.inBlock, Exit.then]); refine bodyPost_ret (by simp [results, Try.results162, go_sem, *]; try rfl) rfl ?_
  exact ⟨rfl, by (repeat' (first | (with_reducible exact Below.refl _ _) | (with_reducible assumption) | (with_reducible refine Below.alloc ?_ ?_ _) | (with_reducible refine Below.drew ?_) | (with_reducible refine below_drewN ?_ _) | (with_reducible refine Below.setCell ?_ ?_ _) | (refine Below.step ?_ (by with_reducible assumption) ?_) | go_size))⟩

end Go.Proofs.Ytjfabhkgmelmgaa
