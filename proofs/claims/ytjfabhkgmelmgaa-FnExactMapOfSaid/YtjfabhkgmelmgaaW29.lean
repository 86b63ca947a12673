/- Transposed maps and products of maps: the reference's steps and the exported functions; p is a prime where it says so. -/
import Derived.Test.YtjfabhkgmelmgaaW28
namespace Go.Proofs.Ytjfabhkgmelmgaa
open Go.RowKit
set_option linter.unusedSimpArgs false
set_option linter.unusedVariables false
set_option maxRecDepth 100000

set_option maxHeartbeats 400000 in
theorem eqMap_same (m0 m1 m2 m3 m4 m5 m6 m7 m8 : Int) (w : World) :
    Calls Try.prog 23 #[.agg #[.int .i64 m0, .int .i64 m1, .int .i64 m2, .int .i64 m3, .int .i64 m4, .int .i64 m5, .int .i64 m6, .int .i64 m7, .int .i64 m8], .agg #[.int .i64 m0, .int .i64 m1, .int .i64 m2, .int .i64 m3, .int .i64 m4, .int .i64 m5, .int .i64 m6, .int .i64 m7, .int .i64 m8]] w fun e w' => e = .returned (.bool true) ∧ Below w.heap.size w w' := by
  go_enter Try.func23, Try.ntmps23
  go_wp2_with fail
  refine wp_name (fun w' => Box 31 w' (w.heap.size) [m0, m1, m2, m3, m4, m5, m6, m7, m8] ∧ Box 31 w' (w.heap.size + 1) [m0, m1, m2, m3, m4, m5, m6, m7, m8] ∧ Below w.heap.size w w') ⟨Box.alloc (Box.new [m0, m1, m2, m3, m4, m5, m6, m7, m8] (by simp)) _, Box.new [m0, m1, m2, m3, m4, m5, m6, m7, m8] (by simp), by (repeat' (first | (with_reducible exact Below.refl _ _) | (with_reducible assumption) | (with_reducible refine Below.alloc ?_ ?_ _) | (with_reducible refine Below.drew ?_) | (with_reducible refine below_drewN ?_ _) | (with_reducible refine Below.setCell ?_ ?_ _) | (refine Below.step ?_ (by with_reducible assumption) ?_) | go_size))⟩ ?_
  rintro wq0 ⟨Bx0, By0, hB0⟩
  have hz0 := hB0.size
  have ltx0 := Bx0.lt
  have lty0 := By0.lt
  refine wp_loop_rounds 4 ?_
  rw [rounds_succ]
  go_wp2_with fail
  have rd0 := Bx0.cell 0 rfl
  have rd1 := Bx0.cell 1 rfl
  have rd2 := Bx0.cell 2 rfl
  have rd3 := By0.cell 0 rfl
  have rd4 := By0.cell 1 rfl
  have rd5 := By0.cell 2 rfl
  refine wp_region_still_tail 6 (by kernel_rfl) (by kernel_rfl) ?_
  simp only [List.take_succ_cons, List.take_zero, List.drop_succ_cons, List.drop_zero]
  repeat still_step
  try refine wpStill_nil ?_
  change wpList _ _ _ _ _ wq0.drew
  clear rd0 rd1 rd2 rd3 rd4 rd5
  go_wp2_with (go_at_call 75; refine (eqInt64A3_same m0 m1 m2 _).mono ?_; rintro e wq1 ⟨rfl, hb⟩)
  have Bx1 := Box.below hb (Box.drew Bx0)
  have By1 := Box.below hb (Box.drew By0)
  have hB1 := Below.step hB0.drew hb (by simp only [World.size_drew]; omega)
  clear hb Bx0 By0 hB0 hz0 ltx0 lty0
  have hz1 := hB1.size
  have ltx1 := Bx1.lt
  have lty1 := By1.lt
  rw [rounds_succ]
  go_wp2_with fail
  have rd0 := Bx1.cell 3 rfl
  have rd1 := Bx1.cell 4 rfl
  have rd2 := Bx1.cell 5 rfl
  have rd3 := By1.cell 3 rfl
  have rd4 := By1.cell 4 rfl
  have rd5 := By1.cell 5 rfl
  refine wp_region_still_tail 6 (by kernel_rfl) (by kernel_rfl) ?_
  simp only [List.take_succ_cons, List.take_zero, List.drop_succ_cons, List.drop_zero]
  repeat still_step
  try refine wpStill_nil ?_
  change wpList _ _ _ _ _ wq1.drew
  clear rd0 rd1 rd2 rd3 rd4 rd5
  go_wp2_with (go_at_call 75; refine (eqInt64A3_same m3 m4 m5 _).mono ?_; rintro e wq2 ⟨rfl, hb⟩)
  have Bx2 := Box.below hb (Box.drew Bx1)
  have By2 := Box.below hb (Box.drew By1)
  have hB2 := Below.step hB1.drew hb (by simp only [World.size_drew]; omega)
  clear hb Bx1 By1 hB1 hz1 ltx1 lty1
  have hz2 := hB2.size
  have ltx2 := Bx2.lt
  have lty2 := By2.lt
  rw [rounds_succ]
  go_wp2_with fail
  have rd0 := Bx2.cell 6 rfl
  have rd1 := Bx2.cell 7 rfl
  have rd2 := Bx2.cell 8 rfl
  have rd3 := By2.cell 6 rfl
  have rd4 := By2.cell 7 rfl
  have rd5 := By2.cell 8 rfl
  refine wp_region_still_tail 6 (by kernel_rfl) (by kernel_rfl) ?_
  simp only [List.take_succ_cons, List.take_zero, List.drop_succ_cons, List.drop_zero]
  repeat still_step
  try refine wpStill_nil ?_
  change wpList _ _ _ _ _ wq2.drew
  clear rd0 rd1 rd2 rd3 rd4 rd5
  go_wp2_with (go_at_call 75; refine (eqInt64A3_same m6 m7 m8 _).mono ?_; rintro e wq3 ⟨rfl, hb⟩)
  have Bx3 := Box.below hb (Box.drew Bx2)
  have By3 := Box.below hb (Box.drew By2)
  have hB3 := Below.step hB2.drew hb (by simp only [World.size_drew]; omega)
  clear hb Bx2 By2 hB2 hz2 ltx2 lty2
  have hz3 := hB3.size
  have ltx3 := Bx3.lt
  have lty3 := By3.lt
  rw [rounds_succ]
  go_wp2_with fail
  go_returns
  exact ⟨rfl, by (repeat' (first | (with_reducible exact Below.refl _ _) | (with_reducible assumption) | (with_reducible refine Below.alloc ?_ ?_ _) | (with_reducible refine Below.drew ?_) | (with_reducible refine below_drewN ?_ _) | (with_reducible refine Below.setCell ?_ ?_ _) | (refine Below.step ?_ (by with_reducible assumption) ?_) | go_size))⟩
set_option maxHeartbeats 8000000 in
theorem l02Turned_any (p m0 m1 m2 m3 m4 m5 m6 m7 m8 : Int) (w : World) (hp : isP p = true) :
    Calls Try.prog 156 #[.int .i64 p, .agg #[.int .i64 m0, .int .i64 m1, .int .i64 m2, .int .i64 m3, .int .i64 m4, .int .i64 m5, .int .i64 m6, .int .i64 m7, .int .i64 m8]] w fun e w' => e = .returned (.agg #[.int .i64 (nmM p (trM ⟨m0, m1, m2, m3, m4, m5, m6, m7, m8⟩)).m0, .int .i64 (nmM p (trM ⟨m0, m1, m2, m3, m4, m5, m6, m7, m8⟩)).m1, .int .i64 (nmM p (trM ⟨m0, m1, m2, m3, m4, m5, m6, m7, m8⟩)).m2, .int .i64 (nmM p (trM ⟨m0, m1, m2, m3, m4, m5, m6, m7, m8⟩)).m3, .int .i64 (nmM p (trM ⟨m0, m1, m2, m3, m4, m5, m6, m7, m8⟩)).m4, .int .i64 (nmM p (trM ⟨m0, m1, m2, m3, m4, m5, m6, m7, m8⟩)).m5, .int .i64 (nmM p (trM ⟨m0, m1, m2, m3, m4, m5, m6, m7, m8⟩)).m6, .int .i64 (nmM p (trM ⟨m0, m1, m2, m3, m4, m5, m6, m7, m8⟩)).m7, .int .i64 (nmM p (trM ⟨m0, m1, m2, m3, m4, m5, m6, m7, m8⟩)).m8]) ∧ Below w.heap.size w w' := by
  have HP := Lib.hid hp; clear hp
  go_enter Try.func156, Try.ntmps156
  go_wp2_with fail
  refine wp_name (fun w' => Box 31 w' (w.heap.size) [m0, m1, m2, m3, m4, m5, m6, m7, m8] ∧ Box 31 w' (w.heap.size + 1) [0, 0, 0, 0, 0, 0, 0, 0, 0] ∧ Box 31 w' (w.heap.size + 1 + 1) [0, 0, 0, 0, 0, 0, 0, 0, 0] ∧ Below w.heap.size w w') ⟨Box.alloc (Box.alloc (Box.new [m0, m1, m2, m3, m4, m5, m6, m7, m8] (by simp)) _) _, Box.alloc (Box.new [0, 0, 0, 0, 0, 0, 0, 0, 0] (by simp)) _, Box.new [0, 0, 0, 0, 0, 0, 0, 0, 0] (by simp), by (repeat' (first | (with_reducible exact Below.refl _ _) | (with_reducible assumption) | (with_reducible refine Below.alloc ?_ ?_ _) | (with_reducible refine Below.drew ?_) | (with_reducible refine below_drewN ?_ _) | (with_reducible refine Below.setCell ?_ ?_ _) | (refine Below.step ?_ (by with_reducible assumption) ?_) | go_size))⟩ ?_
  rintro wq0 ⟨Bm0, Br0, Bo0, hB0⟩
  have hz0 := hB0.size
  have ltm0 := Bm0.lt
  have ltr0 := Br0.lt
  have lto0 := Bo0.lt
  refine wp_loop_rounds 4 ?_
  rw [rounds_succ]
  go_wp2_with fail
  refine wp_loop_rounds 4 ?_
  rw [rounds_succ]
  go_wp2_with fail
  have rd0 := Bm0.cell 0 rfl
  refine wp_region_still_tail 8 (by kernel_rfl) (by kernel_rfl) ?_
  simp only [List.take_succ_cons, List.take_zero, List.drop_succ_cons, List.drop_zero]
  repeat still_step
  try refine wpStill_nil ?_
  change wpList _ _ _ _ _ wq0.drew
  clear rd0
  have st := (Box.drew Bo0).cell 0 rfl
  have sf := (Box.drew Bo0).frz 0
  go_wp2_with fail
  rw [rounds_succ]
  go_wp2_with fail
  refine wp_name (fun w' => Box 31 w' (w.heap.size) [m0, m1, m2, m3, m4, m5, m6, m7, m8] ∧ Box 31 w' (w.heap.size + 1) [0, 0, 0, 0, 0, 0, 0, 0, 0] ∧ Box 31 w' (w.heap.size + 1 + 1) [m0, 0, 0, 0, 0, 0, 0, 0, 0] ∧ Below w.heap.size w w') ⟨Box.far (Box.drew Bm0) (by omega), Box.far (Box.drew Br0) (by omega), (Box.set (Box.drew Bo0) 0 (m0)).cast rfl, Below.setCell (p := ⟨w.heap.size + 1 + 1, 0, none⟩) hB0.drew (by simp only []; omega) _⟩ ?_
  rintro wq1 ⟨Bm1, Br1, Bo1, hB1⟩
  clear st sf Bm0 Br0 Bo0 hB0 ltm0 ltr0 lto0 hz0
  have hz1 := hB1.size
  have ltm1 := Bm1.lt
  have ltr1 := Br1.lt
  have lto1 := Bo1.lt
  have rd0 := Bm1.cell 3 rfl
  refine wp_region_still_tail 8 (by kernel_rfl) (by kernel_rfl) ?_
  simp only [List.take_succ_cons, List.take_zero, List.drop_succ_cons, List.drop_zero]
  repeat still_step
  try refine wpStill_nil ?_
  change wpList _ _ _ _ _ wq1.drew
  clear rd0
  have st := (Box.drew Bo1).cell 1 rfl
  have sf := (Box.drew Bo1).frz 1
  go_wp2_with fail
  rw [rounds_succ]
  go_wp2_with fail
  refine wp_name (fun w' => Box 31 w' (w.heap.size) [m0, m1, m2, m3, m4, m5, m6, m7, m8] ∧ Box 31 w' (w.heap.size + 1) [0, 0, 0, 0, 0, 0, 0, 0, 0] ∧ Box 31 w' (w.heap.size + 1 + 1) [m0, m3, 0, 0, 0, 0, 0, 0, 0] ∧ Below w.heap.size w w') ⟨Box.far (Box.drew Bm1) (by omega), Box.far (Box.drew Br1) (by omega), (Box.set (Box.drew Bo1) 1 (m3)).cast rfl, Below.setCell (p := ⟨w.heap.size + 1 + 1, 1, none⟩) hB1.drew (by simp only []; omega) _⟩ ?_
  rintro wq2 ⟨Bm2, Br2, Bo2, hB2⟩
  clear st sf Bm1 Br1 Bo1 hB1 ltm1 ltr1 lto1 hz1
  have hz2 := hB2.size
  have ltm2 := Bm2.lt
  have ltr2 := Br2.lt
  have lto2 := Bo2.lt
  have rd0 := Bm2.cell 6 rfl
  refine wp_region_still_tail 8 (by kernel_rfl) (by kernel_rfl) ?_
  simp only [List.take_succ_cons, List.take_zero, List.drop_succ_cons, List.drop_zero]
  repeat still_step
  try refine wpStill_nil ?_
  change wpList _ _ _ _ _ wq2.drew
  clear rd0
  have st := (Box.drew Bo2).cell 2 rfl
  have sf := (Box.drew Bo2).frz 2
  go_wp2_with fail
  rw [rounds_succ]
  go_wp2_with fail
  rw [rounds_succ]
  go_wp2_with fail
  refine wp_loop_rounds 4 ?_
  rw [rounds_succ]
  go_wp2_with fail
  refine wp_name (fun w' => Box 31 w' (w.heap.size) [m0, m1, m2, m3, m4, m5, m6, m7, m8] ∧ Box 31 w' (w.heap.size + 1) [0, 0, 0, 0, 0, 0, 0, 0, 0] ∧ Box 31 w' (w.heap.size + 1 + 1) [m0, m3, m6, 0, 0, 0, 0, 0, 0] ∧ Below w.heap.size w w') ⟨Box.far (Box.drew Bm2) (by omega), Box.far (Box.drew Br2) (by omega), (Box.set (Box.drew Bo2) 2 (m6)).cast rfl, Below.setCell (p := ⟨w.heap.size + 1 + 1, 2, none⟩) hB2.drew (by simp only []; omega) _⟩ ?_
  rintro wq3 ⟨Bm3, Br3, Bo3, hB3⟩
  clear st sf Bm2 Br2 Bo2 hB2 ltm2 ltr2 lto2 hz2
  have hz3 := hB3.size
  have ltm3 := Bm3.lt
  have ltr3 := Br3.lt
  have lto3 := Bo3.lt
  have rd0 := Bm3.cell 1 rfl
  refine wp_region_still_tail 8 (by kernel_rfl) (by kernel_rfl) ?_
  simp only [List.take_succ_cons, List.take_zero, List.drop_succ_cons, List.drop_zero]
  repeat still_step
  try refine wpStill_nil ?_
  change wpList _ _ _ _ _ wq3.drew
  clear rd0
  have st := (Box.drew Bo3).cell 3 rfl
  have sf := (Box.drew Bo3).frz 3
  go_wp2_with fail
  rw [rounds_succ]
  go_wp2_with fail
  refine wp_name (fun w' => Box 31 w' (w.heap.size) [m0, m1, m2, m3, m4, m5, m6, m7, m8] ∧ Box 31 w' (w.heap.size + 1) [0, 0, 0, 0, 0, 0, 0, 0, 0] ∧ Box 31 w' (w.heap.size + 1 + 1) [m0, m3, m6, m1, 0, 0, 0, 0, 0] ∧ Below w.heap.size w w') ⟨Box.far (Box.drew Bm3) (by omega), Box.far (Box.drew Br3) (by omega), (Box.set (Box.drew Bo3) 3 (m1)).cast rfl, Below.setCell (p := ⟨w.heap.size + 1 + 1, 3, none⟩) hB3.drew (by simp only []; omega) _⟩ ?_
  rintro wq4 ⟨Bm4, Br4, Bo4, hB4⟩
  clear st sf Bm3 Br3 Bo3 hB3 ltm3 ltr3 lto3 hz3
  have hz4 := hB4.size
  have ltm4 := Bm4.lt
  have ltr4 := Br4.lt
  have lto4 := Bo4.lt
  have rd0 := Bm4.cell 4 rfl
  refine wp_region_still_tail 8 (by kernel_rfl) (by kernel_rfl) ?_
  simp only [List.take_succ_cons, List.take_zero, List.drop_succ_cons, List.drop_zero]
  repeat still_step
  try refine wpStill_nil ?_
  change wpList _ _ _ _ _ wq4.drew
  clear rd0
  have st := (Box.drew Bo4).cell 4 rfl
  have sf := (Box.drew Bo4).frz 4
  go_wp2_with fail
  rw [rounds_succ]
  go_wp2_with fail
  refine wp_name (fun w' => Box 31 w' (w.heap.size) [m0, m1, m2, m3, m4, m5, m6, m7, m8] ∧ Box 31 w' (w.heap.size + 1) [0, 0, 0, 0, 0, 0, 0, 0, 0] ∧ Box 31 w' (w.heap.size + 1 + 1) [m0, m3, m6, m1, m4, 0, 0, 0, 0] ∧ Below w.heap.size w w') ⟨Box.far (Box.drew Bm4) (by omega), Box.far (Box.drew Br4) (by omega), (Box.set (Box.drew Bo4) 4 (m4)).cast rfl, Below.setCell (p := ⟨w.heap.size + 1 + 1, 4, none⟩) hB4.drew (by simp only []; omega) _⟩ ?_
  rintro wq5 ⟨Bm5, Br5, Bo5, hB5⟩
  clear st sf Bm4 Br4 Bo4 hB4 ltm4 ltr4 lto4 hz4
  have hz5 := hB5.size
  have ltm5 := Bm5.lt
  have ltr5 := Br5.lt
  have lto5 := Bo5.lt
  have rd0 := Bm5.cell 7 rfl
  refine wp_region_still_tail 8 (by kernel_rfl) (by kernel_rfl) ?_
  simp only [List.take_succ_cons, List.take_zero, List.drop_succ_cons, List.drop_zero]
  repeat still_step
  try refine wpStill_nil ?_
  change wpList _ _ _ _ _ wq5.drew
  clear rd0
  have st := (Box.drew Bo5).cell 5 rfl
  have sf := (Box.drew Bo5).frz 5
  go_wp2_with fail
  rw [rounds_succ]
  go_wp2_with fail
  rw [rounds_succ]
  go_wp2_with fail
  refine wp_loop_rounds 4 ?_
  rw [rounds_succ]
  go_wp2_with fail
  refine wp_name (fun w' => Box 31 w' (w.heap.size) [m0, m1, m2, m3, m4, m5, m6, m7, m8] ∧ Box 31 w' (w.heap.size + 1) [0, 0, 0, 0, 0, 0, 0, 0, 0] ∧ Box 31 w' (w.heap.size + 1 + 1) [m0, m3, m6, m1, m4, m7, 0, 0, 0] ∧ Below w.heap.size w w') ⟨Box.far (Box.drew Bm5) (by omega), Box.far (Box.drew Br5) (by omega), (Box.set (Box.drew Bo5) 5 (m7)).cast rfl, Below.setCell (p := ⟨w.heap.size + 1 + 1, 5, none⟩) hB5.drew (by simp only []; omega) _⟩ ?_
  rintro wq6 ⟨Bm6, Br6, Bo6, hB6⟩
  clear st sf Bm5 Br5 Bo5 hB5 ltm5 ltr5 lto5 hz5
  have hz6 := hB6.size
  have ltm6 := Bm6.lt
  have ltr6 := Br6.lt
  have lto6 := Bo6.lt
  have rd0 := Bm6.cell 2 rfl
  refine wp_region_still_tail 8 (by kernel_rfl) (by kernel_rfl) ?_
  simp only [List.take_succ_cons, List.take_zero, List.drop_succ_cons, List.drop_zero]
  repeat still_step
  try refine wpStill_nil ?_
  change wpList _ _ _ _ _ wq6.drew
  clear rd0
  have st := (Box.drew Bo6).cell 6 rfl
  have sf := (Box.drew Bo6).frz 6
  go_wp2_with fail
  rw [rounds_succ]
  go_wp2_with fail
  refine wp_name (fun w' => Box 31 w' (w.heap.size) [m0, m1, m2, m3, m4, m5, m6, m7, m8] ∧ Box 31 w' (w.heap.size + 1) [0, 0, 0, 0, 0, 0, 0, 0, 0] ∧ Box 31 w' (w.heap.size + 1 + 1) [m0, m3, m6, m1, m4, m7, m2, 0, 0] ∧ Below w.heap.size w w') ⟨Box.far (Box.drew Bm6) (by omega), Box.far (Box.drew Br6) (by omega), (Box.set (Box.drew Bo6) 6 (m2)).cast rfl, Below.setCell (p := ⟨w.heap.size + 1 + 1, 6, none⟩) hB6.drew (by simp only []; omega) _⟩ ?_
  rintro wq7 ⟨Bm7, Br7, Bo7, hB7⟩
  clear st sf Bm6 Br6 Bo6 hB6 ltm6 ltr6 lto6 hz6
  have hz7 := hB7.size
  have ltm7 := Bm7.lt
  have ltr7 := Br7.lt
  have lto7 := Bo7.lt
  have rd0 := Bm7.cell 5 rfl
  refine wp_region_still_tail 8 (by kernel_rfl) (by kernel_rfl) ?_
  simp only [List.take_succ_cons, List.take_zero, List.drop_succ_cons, List.drop_zero]
  repeat still_step
  try refine wpStill_nil ?_
  change wpList _ _ _ _ _ wq7.drew
  clear rd0
  have st := (Box.drew Bo7).cell 7 rfl
  have sf := (Box.drew Bo7).frz 7
  go_wp2_with fail
  rw [rounds_succ]
  go_wp2_with fail
  refine wp_name (fun w' => Box 31 w' (w.heap.size) [m0, m1, m2, m3, m4, m5, m6, m7, m8] ∧ Box 31 w' (w.heap.size + 1) [0, 0, 0, 0, 0, 0, 0, 0, 0] ∧ Box 31 w' (w.heap.size + 1 + 1) [m0, m3, m6, m1, m4, m7, m2, m5, 0] ∧ Below w.heap.size w w') ⟨Box.far (Box.drew Bm7) (by omega), Box.far (Box.drew Br7) (by omega), (Box.set (Box.drew Bo7) 7 (m5)).cast rfl, Below.setCell (p := ⟨w.heap.size + 1 + 1, 7, none⟩) hB7.drew (by simp only []; omega) _⟩ ?_
  rintro wq8 ⟨Bm8, Br8, Bo8, hB8⟩
  clear st sf Bm7 Br7 Bo7 hB7 ltm7 ltr7 lto7 hz7
  have hz8 := hB8.size
  have ltm8 := Bm8.lt
  have ltr8 := Br8.lt
  have lto8 := Bo8.lt
  have rd0 := Bm8.cell 8 rfl
  refine wp_region_still_tail 8 (by kernel_rfl) (by kernel_rfl) ?_
  simp only [List.take_succ_cons, List.take_zero, List.drop_succ_cons, List.drop_zero]
  repeat still_step
  try refine wpStill_nil ?_
  change wpList _ _ _ _ _ wq8.drew
  clear rd0
  have st := (Box.drew Bo8).cell 8 rfl
  have sf := (Box.drew Bo8).frz 8
  go_wp2_with fail
  rw [rounds_succ]
  go_wp2_with fail
  have rd0 := Bo8.cell 0 rfl
  have rs0 := Br8.cell 0 rfl
  have rf0 := Br8.frz 0
  have rd1 := Bo8.cell 1 rfl
  have rs1 := Br8.cell 1 rfl
  have rf1 := Br8.frz 1
  have rd2 := Bo8.cell 2 rfl
  have rs2 := Br8.cell 2 rfl
  have rf2 := Br8.frz 2
  have rd3 := Bo8.cell 3 rfl
  have rs3 := Br8.cell 3 rfl
  have rf3 := Br8.frz 3
  have rd4 := Bo8.cell 4 rfl
  have rs4 := Br8.cell 4 rfl
  have rf4 := Br8.frz 4
  have rd5 := Bo8.cell 5 rfl
  have rs5 := Br8.cell 5 rfl
  have rf5 := Br8.frz 5
  have rd6 := Bo8.cell 6 rfl
  have rs6 := Br8.cell 6 rfl
  have rf6 := Br8.frz 6
  have rd7 := Bo8.cell 7 rfl
  have rs7 := Br8.cell 7 rfl
  have rf7 := Br8.frz 7
  have rd8 := Bo8.cell 8 rfl
  have rs8 := Br8.cell 8 rfl
  have rf8 := Br8.frz 8
  rw [rounds_succ]
  go_wp2_with (go_at_call 71; refine (l02Normal_any p m0 m3 m6 m1 m4 m7 m2 m5 m8 _ HP.out).mono ?_; rintro e w7 ⟨rfl, hb7⟩; have Br7 : Box 31 w7 (w.heap.size + 1) [0, 0, 0, 0, 0, 0, 0, 0, 0] := Box.below hb7 (by first | exact Box.far (Box.drew Br8) (by omega) | exact Box.drew (Box.far Br8 (by omega))); have rx0 := Br7.cell 0 rfl; have fx0 := Br7.frz 0; have rx1 := Br7.cell 1 rfl; have fx1 := Br7.frz 1; have rx2 := Br7.cell 2 rfl; have fx2 := Br7.frz 2; have rx3 := Br7.cell 3 rfl; have fx3 := Br7.frz 3; have rx4 := Br7.cell 4 rfl; have fx4 := Br7.frz 4; have rx5 := Br7.cell 5 rfl; have fx5 := Br7.frz 5; have rx6 := Br7.cell 6 rfl; have fx6 := Br7.frz 6; have rx7 := Br7.cell 7 rfl; have fx7 := Br7.frz 7; have rx8 := Br7.cell 8 rfl; have fx8 := Br7.frz 8; have hz7 := hb7.size; simp only [World.size_setCell, World.size_drew] at hz7)
  (try simp only [Exit.inBlock, Exit.then]); refine bodyPost_ret (by simp [results, Try.results156, go_sem, *]; try rfl) rfl ?_
  exact ⟨rfl, by (repeat' (first | (with_reducible exact Below.refl _ _) | (with_reducible assumption) | (with_reducible refine Below.alloc ?_ ?_ _) | (with_reducible refine Below.drew ?_) | (with_reducible refine below_drewN ?_ _) | (with_reducible refine Below.setCell ?_ ?_ _) | (refine Below.step ?_ (by with_reducible assumption) ?_) | go_size))⟩
theorem mpCode3 (p : Int) (es : List M9) : mpCode p es = 2 ∨ mpCode p es = 1 ∨ (isP p = true ∧ es.all (isMap p) = true ∧ mpCode p es = 0) := code3 p _
def zM : M9 := ⟨0, 0, 0, 0, 0, 0, 0, 0, 0⟩
def trR (p : Int) (m : M9) : M9 × Int := if mpCode p [m] = 0 then (nmM p (trM m), 0) else (zM, mpCode p [m])
def ivR (p : Int) (m : M9) : M9 × Int := if mpCode p [m] = 0 then (bkM p m, 0) else (zM, mpCode p [m])
def muR (p : Int) (m n : M9) : M9 × Int := if mpCode p [m, n] = 0 then (tmM p m n, 0) else (zM, mpCode p [m, n])
theorem mp1 {p : Int} {m : M9} {es : List M9} (h : (m :: es).all (isMap p) = true) : isMap p m = true ∧ es.all (isMap p) = true := by
  rw [List.all_cons, Bool.and_eq_true] at h
  exact h