/- The exported function AllPoints, in the program and in the reference; no condition. -/
import Derived.Test.YtphiohmeahpofaaW12
namespace Go.Proofs.Ytphiohmeahpofaa
open Go.RowKit
set_option linter.unusedSimpArgs false
set_option linter.unusedVariables false
set_option maxRecDepth 100000

/-- What AllPoints answers. -/
def allR (p : Int) : List P3 × Int := if isP p then (allP p, 0) else ([], 2)
theorem allR_len (p : Int) : Hid ((rowsP (allR p).1).length ≤ 1000000) := by
  show _ ≤ _
  rw [rowsP_len]
  unfold allR
  cases hp : isP p
  · simp
  · have := allP_len hp; simp; omega
def PtsPostA (E : Nat) (R : List P3 × Int) (w : World) (e : Ending) (w' : World) : Prop :=
  ∃ v, e = .returned (.tuple #[v, .int .i64 R.2]) ∧ OwnA E 3 w' w.heap.size v (rowsP R.1) ∧ Below w.heap.size w w'
set_option maxHeartbeats 600000 in
theorem AllPoints_any (p : Int) (w : World) : Calls Try.prog 16 #[.int .i64 p] w (PtsPostA 30 (allR p) w) := by
  cases hp : isP p
  · have hE : Hid (allR p = ([], 2)) := by show _ = _; unfold allR; rw [hp]; rfl
    go_enter Try.func16, Try.ntmps16
    go_wp2_with (go_at_call 56; refine (isPrime_any _ _).mono ?_; rintro e w' ⟨rfl, rfl⟩)
    go_ret2
    exact ⟨_, by rw [hE.out]; try rfl, by rw [hE.out]; exact OwnA.nil _ _ _ _, by (repeat' (first | (with_reducible exact Below.refl _ _) | (with_reducible assumption) | (with_reducible refine Below.alloc ?_ ?_ _) | (with_reducible refine Below.drew ?_) | (with_reducible refine below_drewN ?_ _) | (with_reducible refine Below.setCell ?_ ?_ _) | (refine Below.step ?_ (by with_reducible assumption) ?_) | go_size))⟩
  · have hE : Hid (allR p = (allP p, 0)) := by show _ = _; unfold allR; rw [hp]; rfl
    have HP := Lib.hid hp
    go_enter Try.func16, Try.ntmps16
    go_wp2_with (first | (go_at_call 56; refine (isPrime_any _ _).mono ?_; rintro e w' ⟨rfl, rfl⟩) | (go_at_call 57; refine (allPoints_any _ _ HP.out).mono ?_; rintro e w1 ⟨v1, rfl, hown1, hb1⟩; obtain ⟨hc1, hf1⟩ := bcell hb1; have hz1 := hb1.size; (try simp only [World.size_alloc, World.size_setCell, World.size_drew] at hz1); (try (have hy1w0 : w.heap.size < w1.heap.size := by omega)); (try (have hy1w1 : w.heap.size + 1 < w1.heap.size := by omega)); (try (have hy1w2 : w.heap.size + 1 + 1 < w1.heap.size := by omega)); (try (have hy1w3 : w.heap.size + 1 + 1 + 1 < w1.heap.size := by omega)); (try (have hy1w4 : w.heap.size + 1 + 1 + 1 + 1 < w1.heap.size := by omega))))
    go_ret2
    exact ⟨_, by rw [hE.out]; try rfl, by rw [hE.out]; exact hown1, by (repeat' (first | (with_reducible exact Below.refl _ _) | (with_reducible assumption) | (with_reducible refine Below.alloc ?_ ?_ _) | (with_reducible refine Below.drew ?_) | (with_reducible refine below_drewN ?_ _) | (with_reducible refine Below.setCell ?_ ?_ _) | (refine Below.step ?_ (by with_reducible assumption) ?_) | go_size))⟩
set_option maxHeartbeats 600000 in
theorem AllPoints_spec (p : Int) (w : World) : Calls Try.prog 15 #[.int .i64 p] w (PtsPostA 30 (allR p) w) := by
  cases hp : isP p
  · have hE : Hid (allR p = ([], 2)) := by show _ = _; unfold allR; rw [hp]; rfl
    go_enter Try.func15, Try.ntmps15
    go_wp2_with (go_at_call 54; refine (l01Prime_any _ _).mono ?_; rintro e w' ⟨rfl, rfl⟩)
    go_ret2
    exact ⟨_, by rw [hE.out]; try rfl, by rw [hE.out]; exact OwnA.nil _ _ _ _, by (repeat' (first | (with_reducible exact Below.refl _ _) | (with_reducible assumption) | (with_reducible refine Below.alloc ?_ ?_ _) | (with_reducible refine Below.drew ?_) | (with_reducible refine below_drewN ?_ _) | (with_reducible refine Below.setCell ?_ ?_ _) | (refine Below.step ?_ (by with_reducible assumption) ?_) | go_size))⟩
  · have hE : Hid (allR p = (allP p, 0)) := by show _ = _; unfold allR; rw [hp]; rfl
    have HP := Lib.hid hp
    go_enter Try.func15, Try.ntmps15
    go_wp2_with (first | (go_at_call 54; refine (l01Prime_any _ _).mono ?_; rintro e w' ⟨rfl, rfl⟩) | (go_at_call 55; refine (l01Points_any _ _ HP.out).mono ?_; rintro e w1 ⟨v1, rfl, hown1, hb1⟩; obtain ⟨hc1, hf1⟩ := bcell hb1; have hz1 := hb1.size; (try simp only [World.size_alloc, World.size_setCell, World.size_drew] at hz1); (try (have hy1w0 : w.heap.size < w1.heap.size := by omega)); (try (have hy1w1 : w.heap.size + 1 < w1.heap.size := by omega)); (try (have hy1w2 : w.heap.size + 1 + 1 < w1.heap.size := by omega)); (try (have hy1w3 : w.heap.size + 1 + 1 + 1 < w1.heap.size := by omega)); (try (have hy1w4 : w.heap.size + 1 + 1 + 1 + 1 < w1.heap.size := by omega))))
    go_ret2
    exact ⟨_, by rw [hE.out]; try rfl, by rw [hE.out]; exact hown1, by (repeat' (first | (with_reducible exact Below.refl _ _) | (with_reducible assumption) | (with_reducible refine Below.alloc ?_ ?_ _) | (with_reducible refine Below.drew ?_) | (with_reducible refine below_drewN ?_ _) | (with_reducible refine Below.setCell ?_ ?_ _) | (refine Below.step ?_ (by with_reducible assumption) ?_) | go_size))⟩
end Go.Proofs.Ytphiohmeahpofaa
