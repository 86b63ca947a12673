/- Maps in the program: their lists, determinants, normal maps, products, images; p is a prime. -/
import Derived.Test.YtemimkbngfbomaaW7
import Derived.Test.YtemimkbngfbomaaE1
import Derived.Test.YtemimkbngfbomaaA3
import Derived.Test.YtemimkbngfbomaaP5
import Derived.Test.YtemimkbngfbomaaX1
import Derived.StillTailTactics
import Derived.Laws.Cover3
namespace Go.Proofs.Ytemimkbngfbomaa
open Go.RowKit
set_option linter.unusedSimpArgs false
set_option linter.unusedVariables false
set_option maxRecDepth 100000

set_option maxHeartbeats 1000000 in
theorem flat_any (m0 m1 m2 m3 m4 m5 m6 m7 m8 : Int) (w : World) :
    Calls Try.prog 115 #[.agg #[.int .i64 m0, .int .i64 m1, .int .i64 m2, .int .i64 m3, .int .i64 m4, .int .i64 m5, .int .i64 m6, .int .i64 m7, .int .i64 m8]] w fun e w' => ∃ g cap, e = .returned (.slice (some ⟨g, 0, none⟩) 9 cap) ∧ w.heap.size ≤ g ∧ g < w'.heap.size ∧ Rd w' g 0 [m0, m1, m2, m3, m4, m5, m6, m7, m8] ∧ (∀ j, w'.frozen? ⟨g, j, none⟩ = false) ∧ 9 ≤ cap ∧ Below w.heap.size w w' := by
  go_enter Try.func115, Try.ntmps115
  go_wp2_with fail
  refine wp_eq fun wq hq => ?_
  have hQ := Lib.hid hq; clear hq
  refine wp_region_still_tail 6 (by kernel_rfl) (by kernel_rfl) ?_
  simp only [List.take_succ_cons, List.take_zero, List.drop_succ_cons, List.drop_zero]
  repeat still_step
  try refine wpStill_nil ?_
  change wpList _ _ _ _ _ wq.drew
  have hq := hQ.out; clear hQ; subst hq
  go_wp2_with (go_at_call 139; refine (Concat3 _ w.heap.size w.heap.size w.heap.size 0 3 6 3 3 3 _ m0 m1 m2 m3 m4 m5 m6 m7 m8 _ (by go_cell) (by go_cell) (by go_cell) (rd3 (by go_cell) (by go_cell) (by go_cell)) (rd3 (by go_cell) (by go_cell) (by go_cell)) (rd3 (by go_cell) (by go_cell) (by go_cell)) (by go_size) (by go_size) (by go_size)).mono ?_; rintro e w1 ⟨v1, rfl, hown1, hb1⟩; obtain ⟨hc1, hf1⟩ := bcell hb1; have hz1 := hb1.size; (try simp only [World.size_alloc, World.size_setCell, World.size_drew] at hz1); (try (have hy1w0 : w.heap.size < w1.heap.size := by omega)); (try (have hy1w1 : w.heap.size + 1 < w1.heap.size := by omega)); (try (have hy1w2 : w.heap.size + 1 + 1 < w1.heap.size := by omega)); (try (have hy1w3 : w.heap.size + 1 + 1 + 1 < w1.heap.size := by omega)); (try (have hy1w4 : w.heap.size + 1 + 1 + 1 + 1 < w1.heap.size := by omega)))
  go_ret
  obtain ⟨g, cap, hv, h1, h2, h3, h4, h5⟩ := hown1.shape (by simp)
  exact ⟨g, cap, by rw [hv]; rfl, by (try simp only [World.size_alloc, World.size_drew] at h1); omega, h2, h3, h4, h5, by (repeat' (first | (with_reducible exact Below.refl _ _) | (with_reducible assumption) | (with_reducible refine Below.alloc ?_ ?_ _) | (with_reducible refine Below.drew ?_) | (with_reducible refine below_drewN ?_ _) | (with_reducible refine Below.setCell ?_ ?_ _) | (refine Below.step ?_ (by with_reducible assumption) ?_) | go_size))⟩
set_option maxHeartbeats 1000000 in
theorem detM_any (m0 m1 m2 m3 m4 m5 m6 m7 m8 p : Int) (w : World) (k1 : 3 ≤ p) (k2 : p ≤ 13) (sm0 : sm m0) (sm1 : sm m1) (sm2 : sm m2) (sm3 : sm m3) (sm4 : sm m4) (sm5 : sm m5) (sm6 : sm m6) (sm7 : sm m7) (sm8 : sm m8) :
    Calls Try.prog 116 #[.agg #[.int .i64 m0, .int .i64 m1, .int .i64 m2, .int .i64 m3, .int .i64 m4, .int .i64 m5, .int .i64 m6, .int .i64 m7, .int .i64 m8], .int .i64 p] w fun e w' => e = .returned (.int .i64 (M9.det p ⟨m0, m1, m2, m3, m4, m5, m6, m7, m8⟩)) ∧ Below w.heap.size w w' := by
  go_enter Try.func116, Try.ntmps116
  go_wp2_with (go_at_call 73; refine (determinant_any _ _ _ _ _ _ _ _ _ _ _ k1 k2 sm0 sm1 sm2 sm3 sm4 sm5 sm6 sm7 sm8).mono ?_; rintro e w1 ⟨rfl, hb1⟩; obtain ⟨hc1, hf1⟩ := bcell hb1; have hz1 := hb1.size; (try simp only [World.size_alloc, World.size_setCell, World.size_drew] at hz1); (try (have hy1w0 : w.heap.size < w1.heap.size := by omega)); (try (have hy1w1 : w.heap.size + 1 < w1.heap.size := by omega)); (try (have hy1w2 : w.heap.size + 1 + 1 < w1.heap.size := by omega)); (try (have hy1w3 : w.heap.size + 1 + 1 + 1 < w1.heap.size := by omega)); (try (have hy1w4 : w.heap.size + 1 + 1 + 1 + 1 < w1.heap.size := by omega)))
  go_returns
  exact ⟨rfl, by (repeat' (first | (with_reducible exact Below.refl _ _) | (with_reducible assumption) | (with_reducible refine Below.alloc ?_ ?_ _) | (with_reducible refine Below.drew ?_) | (with_reducible refine below_drewN ?_ _) | (with_reducible refine Below.setCell ?_ ?_ _) | (refine Below.step ?_ (by with_reducible assumption) ?_) | go_size))⟩
set_option maxHeartbeats 4000000 in
theorem normalMap_any (p m0 m1 m2 m3 m4 m5 m6 m7 m8 : Int) (w : World) (hp : isP p = true) :
    Calls Try.prog 134 #[.int .i64 p, .agg #[.int .i64 m0, .int .i64 m1, .int .i64 m2, .int .i64 m3, .int .i64 m4, .int .i64 m5, .int .i64 m6, .int .i64 m7, .int .i64 m8]] w fun e w' => e = .returned (.agg #[.int .i64 (nmM p ⟨m0, m1, m2, m3, m4, m5, m6, m7, m8⟩).m0, .int .i64 (nmM p ⟨m0, m1, m2, m3, m4, m5, m6, m7, m8⟩).m1, .int .i64 (nmM p ⟨m0, m1, m2, m3, m4, m5, m6, m7, m8⟩).m2, .int .i64 (nmM p ⟨m0, m1, m2, m3, m4, m5, m6, m7, m8⟩).m3, .int .i64 (nmM p ⟨m0, m1, m2, m3, m4, m5, m6, m7, m8⟩).m4, .int .i64 (nmM p ⟨m0, m1, m2, m3, m4, m5, m6, m7, m8⟩).m5, .int .i64 (nmM p ⟨m0, m1, m2, m3, m4, m5, m6, m7, m8⟩).m6, .int .i64 (nmM p ⟨m0, m1, m2, m3, m4, m5, m6, m7, m8⟩).m7, .int .i64 (nmM p ⟨m0, m1, m2, m3, m4, m5, m6, m7, m8⟩).m8]) ∧ Below w.heap.size w w' := by
  have HP := Lib.hid hp; clear hp
  go_enter Try.func134, Try.ntmps134
  go_wp2_with (go_at_call 115; refine (flat_any _ _ _ _ _ _ _ _ _ _).mono ?_; rintro e w1 ⟨g, cap, rfl, hg0, hg1, hR, hfz, hcap, hb1⟩; obtain ⟨hc1, hf1⟩ := bcell hb1; have hz1 := hb1.size; (try simp only [World.size_alloc, World.size_setCell, World.size_drew] at hz1); (try (have hy1w0 : w.heap.size < w1.heap.size := by omega)); (try (have hy1w1 : w.heap.size + 1 < w1.heap.size := by omega)); (try (have hy1w2 : w.heap.size + 1 + 1 < w1.heap.size := by omega)); (try (have hy1w3 : w.heap.size + 1 + 1 + 1 < w1.heap.size := by omega)); (try (have hy1w4 : w.heap.size + 1 + 1 + 1 + 1 < w1.heap.size := by omega)))
  have rx0 := keepC hb1 (b := w.heap.size + 1) (o := 0) (v := .int .i64 0) (by go_cell); have rx1 := keepC hb1 (b := w.heap.size + 1) (o := 1) (v := .int .i64 0) (by go_cell); have rx2 := keepC hb1 (b := w.heap.size + 1) (o := 2) (v := .int .i64 0) (by go_cell); have rx3 := keepC hb1 (b := w.heap.size + 1) (o := 3) (v := .int .i64 0) (by go_cell); have rx4 := keepC hb1 (b := w.heap.size + 1) (o := 4) (v := .int .i64 0) (by go_cell); have rx5 := keepC hb1 (b := w.heap.size + 1) (o := 5) (v := .int .i64 0) (by go_cell); have rx6 := keepC hb1 (b := w.heap.size + 1) (o := 6) (v := .int .i64 0) (by go_cell); have rx7 := keepC hb1 (b := w.heap.size + 1) (o := 7) (v := .int .i64 0) (by go_cell); have rx8 := keepC hb1 (b := w.heap.size + 1) (o := 8) (v := .int .i64 0) (by go_cell)
  have c0 : w1.cell? ⟨g, 0, none⟩ = some (.int .i64 m0) := (by simpa using hR 0 m0 rfl); have c1 : w1.cell? ⟨g, 1, none⟩ = some (.int .i64 m1) := (by simpa using hR 1 m1 rfl); have c2 : w1.cell? ⟨g, 2, none⟩ = some (.int .i64 m2) := (by simpa using hR 2 m2 rfl); have c3 : w1.cell? ⟨g, 3, none⟩ = some (.int .i64 m3) := (by simpa using hR 3 m3 rfl); have c4 : w1.cell? ⟨g, 4, none⟩ = some (.int .i64 m4) := (by simpa using hR 4 m4 rfl); have c5 : w1.cell? ⟨g, 5, none⟩ = some (.int .i64 m5) := (by simpa using hR 5 m5 rfl); have c6 : w1.cell? ⟨g, 6, none⟩ = some (.int .i64 m6) := (by simpa using hR 6 m6 rfl); have c7 : w1.cell? ⟨g, 7, none⟩ = some (.int .i64 m7) := (by simpa using hR 7 m7 rfl); have c8 : w1.cell? ⟨g, 8, none⟩ = some (.int .i64 m8) := (by simpa using hR 8 m8 rfl)
  have fx0 := keepF hb1 (b := w.heap.size + 1) (o := 0) (by simp) (by go_cell); have fx1 := keepF hb1 (b := w.heap.size + 1) (o := 1) (by simp) (by go_cell); have fx2 := keepF hb1 (b := w.heap.size + 1) (o := 2) (by simp) (by go_cell); have fx3 := keepF hb1 (b := w.heap.size + 1) (o := 3) (by simp) (by go_cell); have fx4 := keepF hb1 (b := w.heap.size + 1) (o := 4) (by simp) (by go_cell); have fx5 := keepF hb1 (b := w.heap.size + 1) (o := 5) (by simp) (by go_cell); have fx6 := keepF hb1 (b := w.heap.size + 1) (o := 6) (by simp) (by go_cell); have fx7 := keepF hb1 (b := w.heap.size + 1) (o := 7) (by simp) (by go_cell); have fx8 := keepF hb1 (b := w.heap.size + 1) (o := 8) (by simp) (by go_cell)
  simp only [World.size_alloc] at hg0
  have hgw : w.heap.size + 1 < g := by omega
  have hgw' : ¬ (g = w.heap.size + 1) := by omega
  have HFZ := Lib.hid hfz
  have hat0 : ∀ w', (Instr.arrayAt 31 (.slice (some ⟨g, 0, none⟩) 9 cap)).run Try.prog w' = .ok (.pointer (some ⟨g, 0, none⟩)) w' := fun w' => run_arrayAt w' _ 2 3 _ 9 cap Try.underlying31 (by omega)
  have hat3 : ∀ w', (Instr.arrayAt 31 (.slice (some ⟨g, 3, none⟩) 6 (cap - 3))).run Try.prog w' = .ok (.pointer (some ⟨g, 3, none⟩)) w' := fun w' => run_arrayAt w' _ 2 3 _ 6 _ Try.underlying31 (by omega)
  have hat6 : ∀ w', (Instr.arrayAt 31 (.slice (some ⟨g, 6, none⟩) 3 (cap - 6))).run Try.prog w' = .ok (.pointer (some ⟨g, 6, none⟩)) w' := fun w' => run_arrayAt w' _ 2 3 _ 3 _ Try.underlying31 (by omega)
  have hc3 : ¬ (cap = 3) := by omega
  have hc6 : ¬ (cap = 6) := by omega
  have hB1 : Below w.heap.size w w1 := by (repeat' (first | (with_reducible exact Below.refl _ _) | (with_reducible assumption) | (with_reducible refine Below.alloc ?_ ?_ _) | (with_reducible refine Below.drew ?_) | (with_reducible refine below_drewN ?_ _) | (with_reducible refine Below.setCell ?_ ?_ _) | (refine Below.step ?_ (by with_reducible assumption) ?_) | go_size))
  clear hR hc1 hf1 hb1
  go_wp2_with fail
  refine (normal9 p g cap m0 m1 m2 m3 m4 m5 m6 m7 m8 _ HP.out c0 c1 c2 c3 c4 c5 c6 c7 c8 (HFZ.out 0) (HFZ.out 1) (HFZ.out 2) (HFZ.out 3) (HFZ.out 4) (HFZ.out 5) (HFZ.out 6) (HFZ.out 7) (HFZ.out 8)).mono ?_
  rintro e w2 ⟨rfl, hw2⟩
  have y0 : True := trivial
  have d0 : w2.cell? ⟨g, 0, none⟩ = some (.int .i64 (nr p (fac p [m0, m1, m2, m3, m4, m5, m6, m7, m8]) m0)) := (by rw [← hw2]; go_cell); have d1 : w2.cell? ⟨g, 1, none⟩ = some (.int .i64 (nr p (fac p [m0, m1, m2, m3, m4, m5, m6, m7, m8]) m1)) := (by rw [← hw2]; go_cell); have d2 : w2.cell? ⟨g, 2, none⟩ = some (.int .i64 (nr p (fac p [m0, m1, m2, m3, m4, m5, m6, m7, m8]) m2)) := (by rw [← hw2]; go_cell); have d3 : w2.cell? ⟨g, 3, none⟩ = some (.int .i64 (nr p (fac p [m0, m1, m2, m3, m4, m5, m6, m7, m8]) m3)) := (by rw [← hw2]; go_cell); have d4 : w2.cell? ⟨g, 4, none⟩ = some (.int .i64 (nr p (fac p [m0, m1, m2, m3, m4, m5, m6, m7, m8]) m4)) := (by rw [← hw2]; go_cell); have d5 : w2.cell? ⟨g, 5, none⟩ = some (.int .i64 (nr p (fac p [m0, m1, m2, m3, m4, m5, m6, m7, m8]) m5)) := (by rw [← hw2]; go_cell); have d6 : w2.cell? ⟨g, 6, none⟩ = some (.int .i64 (nr p (fac p [m0, m1, m2, m3, m4, m5, m6, m7, m8]) m6)) := (by rw [← hw2]; go_cell); have d7 : w2.cell? ⟨g, 7, none⟩ = some (.int .i64 (nr p (fac p [m0, m1, m2, m3, m4, m5, m6, m7, m8]) m7)) := (by rw [← hw2]; go_cell); have d8 : w2.cell? ⟨g, 8, none⟩ = some (.int .i64 (nr p (fac p [m0, m1, m2, m3, m4, m5, m6, m7, m8]) m8)) := (by rw [← hw2]; go_cell)
  have rz0 : w2.cell? ⟨w.heap.size + 1, 0, none⟩ = some (.int .i64 0) := (by rw [← hw2]; go_cell); have rz1 : w2.cell? ⟨w.heap.size + 1, 1, none⟩ = some (.int .i64 0) := (by rw [← hw2]; go_cell); have rz2 : w2.cell? ⟨w.heap.size + 1, 2, none⟩ = some (.int .i64 0) := (by rw [← hw2]; go_cell); have rz3 : w2.cell? ⟨w.heap.size + 1, 3, none⟩ = some (.int .i64 0) := (by rw [← hw2]; go_cell); have rz4 : w2.cell? ⟨w.heap.size + 1, 4, none⟩ = some (.int .i64 0) := (by rw [← hw2]; go_cell); have rz5 : w2.cell? ⟨w.heap.size + 1, 5, none⟩ = some (.int .i64 0) := (by rw [← hw2]; go_cell); have rz6 : w2.cell? ⟨w.heap.size + 1, 6, none⟩ = some (.int .i64 0) := (by rw [← hw2]; go_cell); have rz7 : w2.cell? ⟨w.heap.size + 1, 7, none⟩ = some (.int .i64 0) := (by rw [← hw2]; go_cell); have rz8 : w2.cell? ⟨w.heap.size + 1, 8, none⟩ = some (.int .i64 0) := (by rw [← hw2]; go_cell)
  have fz0 : w2.frozen? ⟨w.heap.size + 1, 0, none⟩ = false := (by rw [← hw2]; simp only [World.frozen?_setCell]; exact fx0); have fz1 : w2.frozen? ⟨w.heap.size + 1, 1, none⟩ = false := (by rw [← hw2]; simp only [World.frozen?_setCell]; exact fx1); have fz2 : w2.frozen? ⟨w.heap.size + 1, 2, none⟩ = false := (by rw [← hw2]; simp only [World.frozen?_setCell]; exact fx2); have fz3 : w2.frozen? ⟨w.heap.size + 1, 3, none⟩ = false := (by rw [← hw2]; simp only [World.frozen?_setCell]; exact fx3); have fz4 : w2.frozen? ⟨w.heap.size + 1, 4, none⟩ = false := (by rw [← hw2]; simp only [World.frozen?_setCell]; exact fx4); have fz5 : w2.frozen? ⟨w.heap.size + 1, 5, none⟩ = false := (by rw [← hw2]; simp only [World.frozen?_setCell]; exact fx5); have fz6 : w2.frozen? ⟨w.heap.size + 1, 6, none⟩ = false := (by rw [← hw2]; simp only [World.frozen?_setCell]; exact fx6); have fz7 : w2.frozen? ⟨w.heap.size + 1, 7, none⟩ = false := (by rw [← hw2]; simp only [World.frozen?_setCell]; exact fx7); have fz8 : w2.frozen? ⟨w.heap.size + 1, 8, none⟩ = false := (by rw [← hw2]; simp only [World.frozen?_setCell]; exact fx8)
  have hB2 : Below w.heap.size w w2 := by rw [← hw2]; (repeat' (first | (with_reducible exact Below.refl _ _) | (with_reducible assumption) | (with_reducible refine Below.alloc ?_ ?_ _) | (with_reducible refine Below.drew ?_) | (with_reducible refine below_drewN ?_ _) | (with_reducible refine Below.setCell ?_ ?_ _) | (refine Below.step ?_ (by with_reducible assumption) ?_) | go_size))
  have hz2 : w1.heap.size ≤ w2.heap.size := by rw [← hw2]; simp
  clear hw2 c0 rx0 fx0 c1 rx1 fx1 c2 rx2 fx2 c3 rx3 fx3 c4 rx4 fx4 c5 rx5 fx5 c6 rx6 fx6 c7 rx7 fx7 c8 rx8 fx8 hfz
  go_wp2_with fail
  refine wp_eq fun wq hq => ?_
  have rd0 : wq.cell? ⟨g, 0, none⟩ = some (.int .i64 (nr p (fac p [m0, m1, m2, m3, m4, m5, m6, m7, m8]) m0)) := by rw [hq]; go_cell
  have rd1 : wq.cell? ⟨g, 1, none⟩ = some (.int .i64 (nr p (fac p [m0, m1, m2, m3, m4, m5, m6, m7, m8]) m1)) := by rw [hq]; go_cell
  have rd2 : wq.cell? ⟨g, 2, none⟩ = some (.int .i64 (nr p (fac p [m0, m1, m2, m3, m4, m5, m6, m7, m8]) m2)) := by rw [hq]; go_cell
  have rd3 : wq.cell? ⟨g, 3, none⟩ = some (.int .i64 (nr p (fac p [m0, m1, m2, m3, m4, m5, m6, m7, m8]) m3)) := by rw [hq]; go_cell
  have rd4 : wq.cell? ⟨g, 4, none⟩ = some (.int .i64 (nr p (fac p [m0, m1, m2, m3, m4, m5, m6, m7, m8]) m4)) := by rw [hq]; go_cell
  have rd5 : wq.cell? ⟨g, 5, none⟩ = some (.int .i64 (nr p (fac p [m0, m1, m2, m3, m4, m5, m6, m7, m8]) m5)) := by rw [hq]; go_cell
  have rd6 : wq.cell? ⟨g, 6, none⟩ = some (.int .i64 (nr p (fac p [m0, m1, m2, m3, m4, m5, m6, m7, m8]) m6)) := by rw [hq]; go_cell
  have rd7 : wq.cell? ⟨g, 7, none⟩ = some (.int .i64 (nr p (fac p [m0, m1, m2, m3, m4, m5, m6, m7, m8]) m7)) := by rw [hq]; go_cell
  have rd8 : wq.cell? ⟨g, 8, none⟩ = some (.int .i64 (nr p (fac p [m0, m1, m2, m3, m4, m5, m6, m7, m8]) m8)) := by rw [hq]; go_cell
  have hQ := Lib.hid hq; clear hq
  refine wp_region_still_tail 12 (by kernel_rfl) (by kernel_rfl) ?_
  simp only [List.take_succ_cons, List.take_zero, List.drop_succ_cons, List.drop_zero]
  repeat still_step
  try refine wpStill_nil ?_
  change wpList _ _ _ _ _ wq.drew
  clear rd0 rd1 rd2 rd3 rd4 rd5 rd6 rd7 rd8
  have hq := hQ.out; clear hQ; subst hq
  go_wp2_with fail
  (try simp only [Exit.inBlock, Exit.then]); refine bodyPost_ret (by simp [results, Try.results134, go_sem, *]; try rfl) rfl ?_
  exact ⟨rfl, by (repeat' (first | (with_reducible exact Below.refl _ _) | (with_reducible assumption) | (with_reducible refine Below.alloc ?_ ?_ _) | (with_reducible refine Below.drew ?_) | (with_reducible refine below_drewN ?_ _) | (with_reducible refine Below.setCell ?_ ?_ _) | (refine Below.step ?_ (by with_reducible assumption) ?_) | go_size))⟩
end Go.Proofs.Ytemimkbngfbomaa
