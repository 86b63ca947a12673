/- The exported functions PointsOn and LinesThrough, in the program and in the reference; no condition. -/
import Derived.Test.YtbabedkaeeogdaaW16
import Derived.Test.YtbabedkaeeogdaaW8
namespace Go.Proofs.Ytbabedkaeeogdaa
open Go.RowKit
set_option linter.unusedSimpArgs false
set_option linter.unusedVariables false
set_option maxRecDepth 100000

set_option maxHeartbeats 600000 in
theorem PointsOn_any (p l0 l1 l2 : Int) (w : World) :
    Calls Try.prog 54 #[.int .i64 p, .agg #[.int .i64 l0, .int .i64 l1, .int .i64 l2]] w (PtsPost2 35 (onR p ⟨l0, l1, l2⟩) w) := by
  rcases code3 p (allPt p [⟨l0, l1, l2⟩]) with hk | hk | ⟨hp, hok, hk⟩
  · have hE : Hid (onR p ⟨l0, l1, l2⟩ = ([], 2)) := by show _ = _; unfold onR; rw [hk]; rfl
    go_enter Try.func54, Try.ntmps54
    go_wp2_with (go_at_call 76; refine (linesCode_any _ _ _ [⟨l0, l1, l2⟩] _ (rdp1 (by go_cell) (by go_cell) (by go_cell)) (by go_size) (by simp)).mono ?_; rintro e w1 ⟨rfl, hb1⟩; obtain ⟨hc1, hf1⟩ := bcell hb1; have hz1 := hb1.size; (try simp only [World.size_alloc, World.size_setCell, World.size_drew] at hz1); (try (have hy1w0 : w.heap.size < w1.heap.size := by omega)); (try (have hy1w1 : w.heap.size + 1 < w1.heap.size := by omega)); (try (have hy1w2 : w.heap.size + 1 + 1 < w1.heap.size := by omega)); (try (have hy1w3 : w.heap.size + 1 + 1 + 1 < w1.heap.size := by omega)); (try (have hy1w4 : w.heap.size + 1 + 1 + 1 + 1 < w1.heap.size := by omega)))
    go_ret2
    exact ⟨_, by rw [hE.out]; try rfl, by rw [hE.out]; exact OwnA.nil _ _ _ _, by (repeat' (first | (with_reducible exact Below.refl _ _) | (with_reducible assumption) | (with_reducible refine Below.alloc ?_ ?_ _) | (with_reducible refine Below.drew ?_) | (with_reducible refine below_drewN ?_ _) | (with_reducible refine Below.setCell ?_ ?_ _) | (refine Below.step ?_ (by with_reducible assumption) ?_) | go_size))⟩
  · have hE : Hid (onR p ⟨l0, l1, l2⟩ = ([], 1)) := by show _ = _; unfold onR; rw [hk]; rfl
    go_enter Try.func54, Try.ntmps54
    go_wp2_with (go_at_call 76; refine (linesCode_any _ _ _ [⟨l0, l1, l2⟩] _ (rdp1 (by go_cell) (by go_cell) (by go_cell)) (by go_size) (by simp)).mono ?_; rintro e w1 ⟨rfl, hb1⟩; obtain ⟨hc1, hf1⟩ := bcell hb1; have hz1 := hb1.size; (try simp only [World.size_alloc, World.size_setCell, World.size_drew] at hz1); (try (have hy1w0 : w.heap.size < w1.heap.size := by omega)); (try (have hy1w1 : w.heap.size + 1 < w1.heap.size := by omega)); (try (have hy1w2 : w.heap.size + 1 + 1 < w1.heap.size := by omega)); (try (have hy1w3 : w.heap.size + 1 + 1 + 1 < w1.heap.size := by omega)); (try (have hy1w4 : w.heap.size + 1 + 1 + 1 + 1 < w1.heap.size := by omega)))
    go_ret2
    exact ⟨_, by rw [hE.out]; try rfl, by rw [hE.out]; exact OwnA.nil _ _ _ _, by (repeat' (first | (with_reducible exact Below.refl _ _) | (with_reducible assumption) | (with_reducible refine Below.alloc ?_ ?_ _) | (with_reducible refine Below.drew ?_) | (with_reducible refine below_drewN ?_ _) | (with_reducible refine Below.setCell ?_ ?_ _) | (refine Below.step ?_ (by with_reducible assumption) ?_) | go_size))⟩
  · have hE : Hid (onR p ⟨l0, l1, l2⟩ = (onP p ⟨l0, l1, l2⟩, 0)) := by show _ = _; unfold onR; rw [hk]; rfl
    obtain ⟨sl0, sl1, sl2⟩ := pts1 hok
    have HP := Lib.hid hp; clear hp hok
    have hl := Lib.hid (onP_len HP.out ⟨l0, l1, l2⟩)
    go_enter Try.func54, Try.ntmps54
    go_wp2_with (first | (go_at_call 76; refine (linesCode_any _ _ _ [⟨l0, l1, l2⟩] _ (rdp1 (by go_cell) (by go_cell) (by go_cell)) (by go_size) (by simp)).mono ?_; rintro e w1 ⟨rfl, hb1⟩; obtain ⟨hc1, hf1⟩ := bcell hb1; have hz1 := hb1.size; (try simp only [World.size_alloc, World.size_setCell, World.size_drew] at hz1); (try (have hy1w0 : w.heap.size < w1.heap.size := by omega)); (try (have hy1w1 : w.heap.size + 1 < w1.heap.size := by omega)); (try (have hy1w2 : w.heap.size + 1 + 1 < w1.heap.size := by omega)); (try (have hy1w3 : w.heap.size + 1 + 1 + 1 < w1.heap.size := by omega)); (try (have hy1w4 : w.heap.size + 1 + 1 + 1 + 1 < w1.heap.size := by omega))) | (go_at_call 103; refine (pointsOn_any _ _ _ _ _ HP.out sl0 sl1 sl2).mono ?_; rintro e w2 ⟨v2, rfl, hown2, hb2⟩; obtain ⟨hc2, hf2⟩ := bcell hb2; have hz2 := hb2.size; (try simp only [World.size_alloc, World.size_setCell, World.size_drew] at hz2); (try (have hy2w0 : w.heap.size < w2.heap.size := by omega)); (try (have hy2w1 : w.heap.size + 1 < w2.heap.size := by omega)); (try (have hy2w2 : w.heap.size + 1 + 1 < w2.heap.size := by omega)); (try (have hy2w3 : w.heap.size + 1 + 1 + 1 < w2.heap.size := by omega)); (try (have hy2w4 : w.heap.size + 1 + 1 + 1 + 1 < w2.heap.size := by omega)); (try (have hy2w10 : w1.heap.size < w2.heap.size := by omega)); (try (have hy2w11 : w1.heap.size + 1 < w2.heap.size := by omega)); (try (have hy2w12 : w1.heap.size + 1 + 1 < w2.heap.size := by omega)); (try (have hy2w13 : w1.heap.size + 1 + 1 + 1 < w2.heap.size := by omega)); (try (have hy2w14 : w1.heap.size + 1 + 1 + 1 + 1 < w2.heap.size := by omega))))
    go_ret2
    exact ⟨_, by rw [hE.out]; try rfl, by rw [hE.out]; exact hown2.base_le (by (try simp only [World.size_alloc] at *); omega), by (repeat' (first | (with_reducible exact Below.refl _ _) | (with_reducible assumption) | (with_reducible refine Below.alloc ?_ ?_ _) | (with_reducible refine Below.drew ?_) | (with_reducible refine below_drewN ?_ _) | (with_reducible refine Below.setCell ?_ ?_ _) | (refine Below.step ?_ (by with_reducible assumption) ?_) | go_size))⟩
set_option maxHeartbeats 600000 in
theorem LinesThrough_any (p l0 l1 l2 : Int) (w : World) :
    Calls Try.prog 42 #[.int .i64 p, .agg #[.int .i64 l0, .int .i64 l1, .int .i64 l2]] w (PtsPost2 38 (onR p ⟨l0, l1, l2⟩) w) := by
  rcases code3 p (allPt p [⟨l0, l1, l2⟩]) with hk | hk | ⟨hp, hok, hk⟩
  · have hE : Hid (onR p ⟨l0, l1, l2⟩ = ([], 2)) := by show _ = _; unfold onR; rw [hk]; rfl
    go_enter Try.func42, Try.ntmps42
    go_wp2_with (go_at_call 73; refine (pointsCode_any _ _ _ [⟨l0, l1, l2⟩] _ (rdp1 (by go_cell) (by go_cell) (by go_cell)) (by go_size) (by simp)).mono ?_; rintro e w1 ⟨rfl, hb1⟩; obtain ⟨hc1, hf1⟩ := bcell hb1; have hz1 := hb1.size; (try simp only [World.size_alloc, World.size_setCell, World.size_drew] at hz1); (try (have hy1w0 : w.heap.size < w1.heap.size := by omega)); (try (have hy1w1 : w.heap.size + 1 < w1.heap.size := by omega)); (try (have hy1w2 : w.heap.size + 1 + 1 < w1.heap.size := by omega)); (try (have hy1w3 : w.heap.size + 1 + 1 + 1 < w1.heap.size := by omega)); (try (have hy1w4 : w.heap.size + 1 + 1 + 1 + 1 < w1.heap.size := by omega)))
    go_ret2
    exact ⟨_, by rw [hE.out]; try rfl, by rw [hE.out]; exact OwnA.nil _ _ _ _, by (repeat' (first | (with_reducible exact Below.refl _ _) | (with_reducible assumption) | (with_reducible refine Below.alloc ?_ ?_ _) | (with_reducible refine Below.drew ?_) | (with_reducible refine below_drewN ?_ _) | (with_reducible refine Below.setCell ?_ ?_ _) | (refine Below.step ?_ (by with_reducible assumption) ?_) | go_size))⟩
  · have hE : Hid (onR p ⟨l0, l1, l2⟩ = ([], 1)) := by show _ = _; unfold onR; rw [hk]; rfl
    go_enter Try.func42, Try.ntmps42
    go_wp2_with (go_at_call 73; refine (pointsCode_any _ _ _ [⟨l0, l1, l2⟩] _ (rdp1 (by go_cell) (by go_cell) (by go_cell)) (by go_size) (by simp)).mono ?_; rintro e w1 ⟨rfl, hb1⟩; obtain ⟨hc1, hf1⟩ := bcell hb1; have hz1 := hb1.size; (try simp only [World.size_alloc, World.size_setCell, World.size_drew] at hz1); (try (have hy1w0 : w.heap.size < w1.heap.size := by omega)); (try (have hy1w1 : w.heap.size + 1 < w1.heap.size := by omega)); (try (have hy1w2 : w.heap.size + 1 + 1 < w1.heap.size := by omega)); (try (have hy1w3 : w.heap.size + 1 + 1 + 1 < w1.heap.size := by omega)); (try (have hy1w4 : w.heap.size + 1 + 1 + 1 + 1 < w1.heap.size := by omega)))
    go_ret2
    exact ⟨_, by rw [hE.out]; try rfl, by rw [hE.out]; exact OwnA.nil _ _ _ _, by (repeat' (first | (with_reducible exact Below.refl _ _) | (with_reducible assumption) | (with_reducible refine Below.alloc ?_ ?_ _) | (with_reducible refine Below.drew ?_) | (with_reducible refine below_drewN ?_ _) | (with_reducible refine Below.setCell ?_ ?_ _) | (refine Below.step ?_ (by with_reducible assumption) ?_) | go_size))⟩
  · have hE : Hid (onR p ⟨l0, l1, l2⟩ = (onP p ⟨l0, l1, l2⟩, 0)) := by show _ = _; unfold onR; rw [hk]; rfl
    obtain ⟨sl0, sl1, sl2⟩ := pts1 hok
    have HP := Lib.hid hp; clear hp hok
    have hl := Lib.hid (onP_len HP.out ⟨l0, l1, l2⟩)
    go_enter Try.func42, Try.ntmps42
    go_wp2_with (first | (go_at_call 73; refine (pointsCode_any _ _ _ [⟨l0, l1, l2⟩] _ (rdp1 (by go_cell) (by go_cell) (by go_cell)) (by go_size) (by simp)).mono ?_; rintro e w1 ⟨rfl, hb1⟩; obtain ⟨hc1, hf1⟩ := bcell hb1; have hz1 := hb1.size; (try simp only [World.size_alloc, World.size_setCell, World.size_drew] at hz1); (try (have hy1w0 : w.heap.size < w1.heap.size := by omega)); (try (have hy1w1 : w.heap.size + 1 < w1.heap.size := by omega)); (try (have hy1w2 : w.heap.size + 1 + 1 < w1.heap.size := by omega)); (try (have hy1w3 : w.heap.size + 1 + 1 + 1 < w1.heap.size := by omega)); (try (have hy1w4 : w.heap.size + 1 + 1 + 1 + 1 < w1.heap.size := by omega))) | (go_at_call 91; refine (linesThrough_any _ _ _ _ _ HP.out sl0 sl1 sl2).mono ?_; rintro e w2 ⟨v2, rfl, hown2, hb2⟩; obtain ⟨hc2, hf2⟩ := bcell hb2; have hz2 := hb2.size; (try simp only [World.size_alloc, World.size_setCell, World.size_drew] at hz2); (try (have hy2w0 : w.heap.size < w2.heap.size := by omega)); (try (have hy2w1 : w.heap.size + 1 < w2.heap.size := by omega)); (try (have hy2w2 : w.heap.size + 1 + 1 < w2.heap.size := by omega)); (try (have hy2w3 : w.heap.size + 1 + 1 + 1 < w2.heap.size := by omega)); (try (have hy2w4 : w.heap.size + 1 + 1 + 1 + 1 < w2.heap.size := by omega)); (try (have hy2w10 : w1.heap.size < w2.heap.size := by omega)); (try (have hy2w11 : w1.heap.size + 1 < w2.heap.size := by omega)); (try (have hy2w12 : w1.heap.size + 1 + 1 < w2.heap.size := by omega)); (try (have hy2w13 : w1.heap.size + 1 + 1 + 1 < w2.heap.size := by omega)); (try (have hy2w14 : w1.heap.size + 1 + 1 + 1 + 1 < w2.heap.size := by omega))))
    go_ret2
    exact ⟨_, by rw [hE.out]; try rfl, by rw [hE.out]; exact hown2.base_le (by (try simp only [World.size_alloc] at *); omega), by (repeat' (first | (with_reducible exact Below.refl _ _) | (with_reducible assumption) | (with_reducible refine Below.alloc ?_ ?_ _) | (with_reducible refine Below.drew ?_) | (with_reducible refine below_drewN ?_ _) | (with_reducible refine Below.setCell ?_ ?_ _) | (refine Below.step ?_ (by with_reducible assumption) ?_) | go_size))⟩
set_option maxHeartbeats 600000 in
theorem PointsOn_spec (p l0 l1 l2 : Int) (w : World) :
    Calls Try.prog 53 #[.int .i64 p, .agg #[.int .i64 l0, .int .i64 l1, .int .i64 l2]] w (PtsPost2 35 (onR p ⟨l0, l1, l2⟩) w) := by
  rcases code3 p (allPt p [⟨l0, l1, l2⟩]) with hk | hk | ⟨hp, hok, hk⟩
  · have hE : Hid (onR p ⟨l0, l1, l2⟩ = ([], 2)) := by show _ = _; unfold onR; rw [hk]; rfl
    go_enter Try.func53, Try.ntmps53
    go_wp2_with (go_at_call 71; refine (l01Code_any _ _ _ _ [⟨l0, l1, l2⟩] _ (rdp1 (by go_cell) (by go_cell) (by go_cell)) (by go_size) (by simp)).mono ?_; rintro e w1 ⟨rfl, hb1⟩; obtain ⟨hc1, hf1⟩ := bcell hb1; have hz1 := hb1.size; (try simp only [World.size_alloc, World.size_setCell, World.size_drew] at hz1); (try (have hy1w0 : w.heap.size < w1.heap.size := by omega)); (try (have hy1w1 : w.heap.size + 1 < w1.heap.size := by omega)); (try (have hy1w2 : w.heap.size + 1 + 1 < w1.heap.size := by omega)); (try (have hy1w3 : w.heap.size + 1 + 1 + 1 < w1.heap.size := by omega)); (try (have hy1w4 : w.heap.size + 1 + 1 + 1 + 1 < w1.heap.size := by omega)))
    go_ret2
    exact ⟨_, by rw [hE.out]; try rfl, by rw [hE.out]; exact OwnA.nil _ _ _ _, by (repeat' (first | (with_reducible exact Below.refl _ _) | (with_reducible assumption) | (with_reducible refine Below.alloc ?_ ?_ _) | (with_reducible refine Below.drew ?_) | (with_reducible refine below_drewN ?_ _) | (with_reducible refine Below.setCell ?_ ?_ _) | (refine Below.step ?_ (by with_reducible assumption) ?_) | go_size))⟩
  · have hE : Hid (onR p ⟨l0, l1, l2⟩ = ([], 1)) := by show _ = _; unfold onR; rw [hk]; rfl
    go_enter Try.func53, Try.ntmps53
    go_wp2_with (go_at_call 71; refine (l01Code_any _ _ _ _ [⟨l0, l1, l2⟩] _ (rdp1 (by go_cell) (by go_cell) (by go_cell)) (by go_size) (by simp)).mono ?_; rintro e w1 ⟨rfl, hb1⟩; obtain ⟨hc1, hf1⟩ := bcell hb1; have hz1 := hb1.size; (try simp only [World.size_alloc, World.size_setCell, World.size_drew] at hz1); (try (have hy1w0 : w.heap.size < w1.heap.size := by omega)); (try (have hy1w1 : w.heap.size + 1 < w1.heap.size := by omega)); (try (have hy1w2 : w.heap.size + 1 + 1 < w1.heap.size := by omega)); (try (have hy1w3 : w.heap.size + 1 + 1 + 1 < w1.heap.size := by omega)); (try (have hy1w4 : w.heap.size + 1 + 1 + 1 + 1 < w1.heap.size := by omega)))
    go_ret2
    exact ⟨_, by rw [hE.out]; try rfl, by rw [hE.out]; exact OwnA.nil _ _ _ _, by (repeat' (first | (with_reducible exact Below.refl _ _) | (with_reducible assumption) | (with_reducible refine Below.alloc ?_ ?_ _) | (with_reducible refine Below.drew ?_) | (with_reducible refine below_drewN ?_ _) | (with_reducible refine Below.setCell ?_ ?_ _) | (refine Below.step ?_ (by with_reducible assumption) ?_) | go_size))⟩
  · have hE : Hid (onR p ⟨l0, l1, l2⟩ = (onP p ⟨l0, l1, l2⟩, 0)) := by show _ = _; unfold onR; rw [hk]; rfl
    obtain ⟨sl0, sl1, sl2⟩ := pts1 hok
    have HP := Lib.hid hp; clear hp hok
    have hl := Lib.hid (onP_len HP.out ⟨l0, l1, l2⟩)
    go_enter Try.func53, Try.ntmps53
    go_wp2_with (first | (go_at_call 71; refine (l01Code_any _ _ _ _ [⟨l0, l1, l2⟩] _ (rdp1 (by go_cell) (by go_cell) (by go_cell)) (by go_size) (by simp)).mono ?_; rintro e w1 ⟨rfl, hb1⟩; obtain ⟨hc1, hf1⟩ := bcell hb1; have hz1 := hb1.size; (try simp only [World.size_alloc, World.size_setCell, World.size_drew] at hz1); (try (have hy1w0 : w.heap.size < w1.heap.size := by omega)); (try (have hy1w1 : w.heap.size + 1 < w1.heap.size := by omega)); (try (have hy1w2 : w.heap.size + 1 + 1 < w1.heap.size := by omega)); (try (have hy1w3 : w.heap.size + 1 + 1 + 1 < w1.heap.size := by omega)); (try (have hy1w4 : w.heap.size + 1 + 1 + 1 + 1 < w1.heap.size := by omega))) | (go_at_call 90; refine (l01PointsOn_any _ _ _ _ _ HP.out sl0 sl1 sl2).mono ?_; rintro e w2 ⟨v2, rfl, hown2, hb2⟩; obtain ⟨hc2, hf2⟩ := bcell hb2; have hz2 := hb2.size; (try simp only [World.size_alloc, World.size_setCell, World.size_drew] at hz2); (try (have hy2w0 : w.heap.size < w2.heap.size := by omega)); (try (have hy2w1 : w.heap.size + 1 < w2.heap.size := by omega)); (try (have hy2w2 : w.heap.size + 1 + 1 < w2.heap.size := by omega)); (try (have hy2w3 : w.heap.size + 1 + 1 + 1 < w2.heap.size := by omega)); (try (have hy2w4 : w.heap.size + 1 + 1 + 1 + 1 < w2.heap.size := by omega)); (try (have hy2w10 : w1.heap.size < w2.heap.size := by omega)); (try (have hy2w11 : w1.heap.size + 1 < w2.heap.size := by omega)); (try (have hy2w12 : w1.heap.size + 1 + 1 < w2.heap.size := by omega)); (try (have hy2w13 : w1.heap.size + 1 + 1 + 1 < w2.heap.size := by omega)); (try (have hy2w14 : w1.heap.size + 1 + 1 + 1 + 1 < w2.heap.size := by omega))))
    go_ret2
    exact ⟨_, by rw [hE.out]; try rfl, by rw [hE.out]; exact hown2.base_le (by (try simp only [World.size_alloc] at *); omega), by (repeat' (first | (with_reducible exact Below.refl _ _) | (with_reducible assumption) | (with_reducible refine Below.alloc ?_ ?_ _) | (with_reducible refine Below.drew ?_) | (with_reducible refine below_drewN ?_ _) | (with_reducible refine Below.setCell ?_ ?_ _) | (refine Below.step ?_ (by with_reducible assumption) ?_) | go_size))⟩
set_option maxHeartbeats 600000 in
theorem LinesThrough_spec (p l0 l1 l2 : Int) (w : World) :
    Calls Try.prog 41 #[.int .i64 p, .agg #[.int .i64 l0, .int .i64 l1, .int .i64 l2]] w (PtsPost2 38 (onR p ⟨l0, l1, l2⟩) w) := by
  rcases code3 p (allPt p [⟨l0, l1, l2⟩]) with hk | hk | ⟨hp, hok, hk⟩
  · have hE : Hid (onR p ⟨l0, l1, l2⟩ = ([], 2)) := by show _ = _; unfold onR; rw [hk]; rfl
    go_enter Try.func41, Try.ntmps41
    go_wp2_with (go_at_call 71; refine (l01Code_any _ _ _ _ [⟨l0, l1, l2⟩] _ (rdp1 (by go_cell) (by go_cell) (by go_cell)) (by go_size) (by simp)).mono ?_; rintro e w1 ⟨rfl, hb1⟩; obtain ⟨hc1, hf1⟩ := bcell hb1; have hz1 := hb1.size; (try simp only [World.size_alloc, World.size_setCell, World.size_drew] at hz1); (try (have hy1w0 : w.heap.size < w1.heap.size := by omega)); (try (have hy1w1 : w.heap.size + 1 < w1.heap.size := by omega)); (try (have hy1w2 : w.heap.size + 1 + 1 < w1.heap.size := by omega)); (try (have hy1w3 : w.heap.size + 1 + 1 + 1 < w1.heap.size := by omega)); (try (have hy1w4 : w.heap.size + 1 + 1 + 1 + 1 < w1.heap.size := by omega)))
    go_ret2
    exact ⟨_, by rw [hE.out]; try rfl, by rw [hE.out]; exact OwnA.nil _ _ _ _, by (repeat' (first | (with_reducible exact Below.refl _ _) | (with_reducible assumption) | (with_reducible refine Below.alloc ?_ ?_ _) | (with_reducible refine Below.drew ?_) | (with_reducible refine below_drewN ?_ _) | (with_reducible refine Below.setCell ?_ ?_ _) | (refine Below.step ?_ (by with_reducible assumption) ?_) | go_size))⟩
  · have hE : Hid (onR p ⟨l0, l1, l2⟩ = ([], 1)) := by show _ = _; unfold onR; rw [hk]; rfl
    go_enter Try.func41, Try.ntmps41
    go_wp2_with (go_at_call 71; refine (l01Code_any _ _ _ _ [⟨l0, l1, l2⟩] _ (rdp1 (by go_cell) (by go_cell) (by go_cell)) (by go_size) (by simp)).mono ?_; rintro e w1 ⟨rfl, hb1⟩; obtain ⟨hc1, hf1⟩ := bcell hb1; have hz1 := hb1.size; (try simp only [World.size_alloc, World.size_setCell, World.size_drew] at hz1); (try (have hy1w0 : w.heap.size < w1.heap.size := by omega)); (try (have hy1w1 : w.heap.size + 1 < w1.heap.size := by omega)); (try (have hy1w2 : w.heap.size + 1 + 1 < w1.heap.size := by omega)); (try (have hy1w3 : w.heap.size + 1 + 1 + 1 < w1.heap.size := by omega)); (try (have hy1w4 : w.heap.size + 1 + 1 + 1 + 1 < w1.heap.size := by omega)))
    go_ret2
    exact ⟨_, by rw [hE.out]; try rfl, by rw [hE.out]; exact OwnA.nil _ _ _ _, by (repeat' (first | (with_reducible exact Below.refl _ _) | (with_reducible assumption) | (with_reducible refine Below.alloc ?_ ?_ _) | (with_reducible refine Below.drew ?_) | (with_reducible refine below_drewN ?_ _) | (with_reducible refine Below.setCell ?_ ?_ _) | (refine Below.step ?_ (by with_reducible assumption) ?_) | go_size))⟩
  · have hE : Hid (onR p ⟨l0, l1, l2⟩ = (onP p ⟨l0, l1, l2⟩, 0)) := by show _ = _; unfold onR; rw [hk]; rfl
    obtain ⟨sl0, sl1, sl2⟩ := pts1 hok
    have HP := Lib.hid hp; clear hp hok
    have hl := Lib.hid (onP_len HP.out ⟨l0, l1, l2⟩)
    go_enter Try.func41, Try.ntmps41
    go_wp2_with (first | (go_at_call 71; refine (l01Code_any _ _ _ _ [⟨l0, l1, l2⟩] _ (rdp1 (by go_cell) (by go_cell) (by go_cell)) (by go_size) (by simp)).mono ?_; rintro e w1 ⟨rfl, hb1⟩; obtain ⟨hc1, hf1⟩ := bcell hb1; have hz1 := hb1.size; (try simp only [World.size_alloc, World.size_setCell, World.size_drew] at hz1); (try (have hy1w0 : w.heap.size < w1.heap.size := by omega)); (try (have hy1w1 : w.heap.size + 1 < w1.heap.size := by omega)); (try (have hy1w2 : w.heap.size + 1 + 1 < w1.heap.size := by omega)); (try (have hy1w3 : w.heap.size + 1 + 1 + 1 < w1.heap.size := by omega)); (try (have hy1w4 : w.heap.size + 1 + 1 + 1 + 1 < w1.heap.size := by omega))) | (go_at_call 90; refine (l01PointsOn_any _ _ _ _ _ HP.out sl0 sl1 sl2).mono ?_; rintro e w2 ⟨v2, rfl, hown2, hb2⟩; obtain ⟨hc2, hf2⟩ := bcell hb2; have hz2 := hb2.size; (try simp only [World.size_alloc, World.size_setCell, World.size_drew] at hz2); (try (have hy2w0 : w.heap.size < w2.heap.size := by omega)); (try (have hy2w1 : w.heap.size + 1 < w2.heap.size := by omega)); (try (have hy2w2 : w.heap.size + 1 + 1 < w2.heap.size := by omega)); (try (have hy2w3 : w.heap.size + 1 + 1 + 1 < w2.heap.size := by omega)); (try (have hy2w4 : w.heap.size + 1 + 1 + 1 + 1 < w2.heap.size := by omega)); (try (have hy2w10 : w1.heap.size < w2.heap.size := by omega)); (try (have hy2w11 : w1.heap.size + 1 < w2.heap.size := by omega)); (try (have hy2w12 : w1.heap.size + 1 + 1 < w2.heap.size := by omega)); (try (have hy2w13 : w1.heap.size + 1 + 1 + 1 < w2.heap.size := by omega)); (try (have hy2w14 : w1.heap.size + 1 + 1 + 1 + 1 < w2.heap.size := by omega))))
    obtain ⟨a, cap, rfl, hsl⟩ := hown2.sl
    rw [rowsP_len]
    have hB2 : Below w.heap.size w w2 := by (repeat' (first | (with_reducible exact Below.refl _ _) | (with_reducible assumption) | (with_reducible refine Below.alloc ?_ ?_ _) | (with_reducible refine Below.drew ?_) | (with_reducible refine below_drewN ?_ _) | (with_reducible refine Below.setCell ?_ ?_ _) | (refine Below.step ?_ (by with_reducible assumption) ?_) | go_size))
    generalize hps : onP p ⟨l0, l1, l2⟩ = ps at *
    clear hps
    generalize hn : ps.length = n at *
    have HN := Lib.hid hn; clear hn
    have hn1 : n ≤ 1000000 := by have := hl.out; omega
    clear hown2
    go_wp2
    go_loopw [8, 9] (fun v i wr => ∃ k : Nat, k ≤ n ∧ i = .int .i64 k ∧ OwnA 38 3 wr w2.heap.size v (rowsP (ps.take k)) ∧ Below w2.heap.size w2 wr) (fun _ i _ => n - (intOf i).toNat)
    case atStart => exact ⟨0, Nat.zero_le _, rfl, OwnA.made 38 w2 #[] 0 _ (Nat.le_refl _) (by unfold maxLen; omega) rfl, by (repeat' (first | (with_reducible exact Below.refl _ _) | (with_reducible assumption) | (with_reducible refine Below.alloc ?_ ?_ _) | (with_reducible refine Below.drew ?_) | (with_reducible refine below_drewN ?_ _) | (with_reducible refine Below.setCell ?_ ?_ _) | (refine Below.step ?_ (by with_reducible assumption) ?_) | go_size))⟩
    case round =>
      obtain ⟨k, hk, rfl, hown, hC⟩ := hrel
      have hCz := hC.size
      by_cases hlt : k < n
      · have hkp : Hid (k < ps.length) := by show _ < _; rw [HN.out]; exact hlt
        rcases hsl with hnil | ⟨g, off, rfl, hg, hR⟩
        · exfalso
          have h1 := hkp.out
          rw [← rowsP_len, hnil] at h1
          simp at h1
        obtain ⟨p0, p1, p2⟩ := (hR.rdp.below hC hg).at_ hkp.out
        have hfs : Hid (ps.take (k + 1) = ps.take k ++ [ps[k]'(hkp.out)]) := by show _ = _; rw [List.take_succ_eq_append_getElem hkp.out]
        have hlk : Hid ((rowsP (ps.take k)).length ≤ 10000000) := by
          show _ ≤ _
          rw [rowsP_len, List.length_take]; omega
        generalize ps[k]'(hkp.out) = b at *
        clear hR
        go_wp2_with (at_builtin; refine append3 Try.underlying60 info_Line w2.heap.size _ _ hown rfl _ _ rfl rfl rfl hlk.out (by omega) ?_; intro v' w3 hown3 hB3 hz3)
        go_roundw
        case rel => exact ⟨k + 1, by omega, by go_num, by rw [rowsP_snoc, ← hfs.out] at hown3; exact hown3, hB3 _ _ hC (Nat.le_refl _)⟩
        case measure => simp [intOf]; omega
      · have hkn : Hid (ps.take k = ps) := List.take_of_length_le (by rw [HN.out]; omega)
        rw [hkn.out] at hown
        go_wp2
        go_ret2
        exact ⟨_, by rw [hE.out]; try rfl, by rw [hE.out]; exact hown.base_le hB2.size, hB2.trans (hC.mono hB2.size)⟩
end Go.Proofs.Ytbabedkaeeogdaa
