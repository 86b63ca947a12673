/- Points out of three numbers, what is on both of two lines, joins and meets, in the program and in the reference. -/
import Derived.Test.YthlmodofgoelbaaW6
namespace Go.Proofs.Ythlmodofgoelbaa
open Go.RowKit
set_option linter.unusedSimpArgs false
set_option linter.unusedVariables false
set_option maxRecDepth 100000

set_option maxHeartbeats 400000 in
theorem pointOf_any (p x y z : Int) (w : World) (hp : isP p = true) :
    Calls Try.prog 121 #[.int .i64 p, .int .i64 x, .int .i64 y, .int .i64 z] w fun e w' => e = .returned (.agg #[.int .i64 (nr p (fac p [x, y, z]) x), .int .i64 (nr p (fac p [x, y, z]) y), .int .i64 (nr p (fac p [x, y, z]) z)]) ∧ Below w.heap.size w w' := by
  go_enter Try.func121, Try.ntmps121
  go_wp2_with (go_at_call 87; refine (normal3 p _ _ x y z _ hp (by go_cell) (by go_cell) (by go_cell) (by go_cell) (by go_cell) (by go_cell)).mono ?_; rintro e w' ⟨rfl, rfl⟩)
  go_returns
  exact ⟨rfl, by (repeat' (first | (with_reducible exact Below.refl _ _) | (with_reducible assumption) | (with_reducible refine Below.alloc ?_ ?_ _) | (with_reducible refine Below.drew ?_) | (with_reducible refine below_drewN ?_ _) | (with_reducible refine Below.setCell ?_ ?_ _) | (refine Below.step ?_ (by with_reducible assumption) ?_) | go_size))⟩

set_option maxHeartbeats 400000 in
theorem l01Made_any (p x y z : Int) (w : World) (hp : isP p = true) :
    Calls Try.prog 83 #[.int .i64 p, .int .i64 x, .int .i64 y, .int .i64 z] w fun e w' => e = .returned (.tuple #[.agg #[.int .i64 (made p x y z).1.x, .int .i64 (made p x y z).1.y, .int .i64 (made p x y z).1.z], .bool (made p x y z).2]) ∧ Below w.heap.size w w' := by
  by_cases hf : fac p [x, y, z] = 0
  · have hE : Hid (made p x y z = (⟨0, 0, 0⟩, false)) := by show _ = _; unfold made; rw [if_pos hf]
    have hf' : (fac p [x, y, z] == 0) = true := by simpa using hf
    clear hf
    go_enter Try.func83, Try.ntmps83
    go_wp2_with (fail)
    refine (l01Norm_ne p _ _ _ [x, y, z] _ hp (rd3 (by go_cell) (by go_cell) (by go_cell)) (by go_size) (by simp) (by simp)).mono ?_
    rintro e w1 ⟨g, cap, rfl, hg, hg2, hR, hfr, hb1⟩
    obtain ⟨hc1, hf1⟩ := bcell hb1; have hz1 := hb1.size; (try simp only [World.size_alloc, World.size_setCell, World.size_drew] at hz1); (try (have hy1w0 : w.heap.size < w1.heap.size := by omega)); (try (have hy1w1 : w.heap.size + 1 < w1.heap.size := by omega)); (try (have hy1w2 : w.heap.size + 1 + 1 < w1.heap.size := by omega)); (try (have hy1w3 : w.heap.size + 1 + 1 + 1 < w1.heap.size := by omega)); (try (have hy1w4 : w.heap.size + 1 + 1 + 1 + 1 < w1.heap.size := by omega))
    have r0 := keepC hb1 (b := w.heap.size) (o := 0) (v := .int .i64 0) (by go_cell)
    have r1 := keepC hb1 (b := w.heap.size) (o := 1) (v := .int .i64 0) (by go_cell)
    have r2 := keepC hb1 (b := w.heap.size) (o := 2) (v := .int .i64 0) (by go_cell)
    have c0 := hR 0 _ rfl
    have c1 := hR 1 _ rfl
    have c2 := hR 2 _ rfl
    clear hR hfr
    simp only [Nat.zero_add] at c0 c1 c2
    go_wp2
    (try simp only [Exit.inBlock, Exit.then]); refine bodyPost_ret (by simp [results, Try.results83, go_sem, *]; try rfl) rfl ?_
    exact ⟨by rw [hE.out]; try rfl, by (repeat' (first | (with_reducible exact Below.refl _ _) | (with_reducible assumption) | (with_reducible refine Below.alloc ?_ ?_ _) | (with_reducible refine Below.drew ?_) | (with_reducible refine below_drewN ?_ _) | (with_reducible refine Below.setCell ?_ ?_ _) | (refine Below.step ?_ (by with_reducible assumption) ?_) | go_size))⟩
  · have hE : Hid (made p x y z = (⟨nr p (fac p [x, y, z]) x, nr p (fac p [x, y, z]) y, nr p (fac p [x, y, z]) z⟩, true)) := by show _ = _; unfold made; rw [if_neg hf]; rfl
    have hf' : (fac p [x, y, z] == 0) = false := by simpa using hf
    clear hf
    go_enter Try.func83, Try.ntmps83
    go_wp2_with (fail)
    refine (l01Norm_ne p _ _ _ [x, y, z] _ hp (rd3 (by go_cell) (by go_cell) (by go_cell)) (by go_size) (by simp) (by simp)).mono ?_
    rintro e w1 ⟨g, cap, rfl, hg, hg2, hR, hfr, hb1⟩
    obtain ⟨hc1, hf1⟩ := bcell hb1; have hz1 := hb1.size; (try simp only [World.size_alloc, World.size_setCell, World.size_drew] at hz1); (try (have hy1w0 : w.heap.size < w1.heap.size := by omega)); (try (have hy1w1 : w.heap.size + 1 < w1.heap.size := by omega)); (try (have hy1w2 : w.heap.size + 1 + 1 < w1.heap.size := by omega)); (try (have hy1w3 : w.heap.size + 1 + 1 + 1 < w1.heap.size := by omega)); (try (have hy1w4 : w.heap.size + 1 + 1 + 1 + 1 < w1.heap.size := by omega))
    have r0 := keepC hb1 (b := w.heap.size) (o := 0) (v := .int .i64 0) (by go_cell)
    have r1 := keepC hb1 (b := w.heap.size) (o := 1) (v := .int .i64 0) (by go_cell)
    have r2 := keepC hb1 (b := w.heap.size) (o := 2) (v := .int .i64 0) (by go_cell)
    have c0 := hR 0 _ rfl
    have c1 := hR 1 _ rfl
    have c2 := hR 2 _ rfl
    clear hR hfr
    simp only [Nat.zero_add] at c0 c1 c2
    go_wp2
    go_region
    go_wp2
    (try simp only [Exit.inBlock, Exit.then]); refine bodyPost_ret (by simp [results, Try.results83, go_sem, *]; try rfl) rfl ?_
    exact ⟨by rw [hE.out]; try rfl, by (repeat' (first | (with_reducible exact Below.refl _ _) | (with_reducible assumption) | (with_reducible refine Below.alloc ?_ ?_ _) | (with_reducible refine Below.drew ?_) | (with_reducible refine below_drewN ?_ _) | (with_reducible refine Below.setCell ?_ ?_ _) | (refine Below.step ?_ (by with_reducible assumption) ?_) | go_size))⟩
