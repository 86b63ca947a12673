/- Inverses of maps: the reference's steps; p is a prime where it says so. -/
import Derived.Test.YtemimkbngfbomaaW26
import Derived.Test.YtemimkbngfbomaaP6
namespace Go.Proofs.Ytemimkbngfbomaa
open Go.RowKit
set_option linter.unusedSimpArgs false
set_option linter.unusedVariables false
set_option maxRecDepth 100000

set_option maxHeartbeats 16000000 in
theorem l02Inverse_any (p m0 m1 m2 m3 m4 m5 m6 m7 m8 : Int) (w : World) (hp : isP p = true) (sm0 : sm m0) (sm1 : sm m1) (sm2 : sm m2) (sm3 : sm m3) (sm4 : sm m4) (sm5 : sm m5) (sm6 : sm m6) (sm7 : sm m7) (sm8 : sm m8) :
    Calls Try.prog 112 #[.int .i64 p, .agg #[.int .i64 m0, .int .i64 m1, .int .i64 m2, .int .i64 m3, .int .i64 m4, .int .i64 m5, .int .i64 m6, .int .i64 m7, .int .i64 m8]] w fun e w' => e = .returned (.agg #[.int .i64 (bkM p ⟨m0, m1, m2, m3, m4, m5, m6, m7, m8⟩).m0, .int .i64 (bkM p ⟨m0, m1, m2, m3, m4, m5, m6, m7, m8⟩).m1, .int .i64 (bkM p ⟨m0, m1, m2, m3, m4, m5, m6, m7, m8⟩).m2, .int .i64 (bkM p ⟨m0, m1, m2, m3, m4, m5, m6, m7, m8⟩).m3, .int .i64 (bkM p ⟨m0, m1, m2, m3, m4, m5, m6, m7, m8⟩).m4, .int .i64 (bkM p ⟨m0, m1, m2, m3, m4, m5, m6, m7, m8⟩).m5, .int .i64 (bkM p ⟨m0, m1, m2, m3, m4, m5, m6, m7, m8⟩).m6, .int .i64 (bkM p ⟨m0, m1, m2, m3, m4, m5, m6, m7, m8⟩).m7, .int .i64 (bkM p ⟨m0, m1, m2, m3, m4, m5, m6, m7, m8⟩).m8]) ∧ Below w.heap.size w w' := by
  have HP := Lib.hid hp
  have k1 := isP_lo hp
  have k2 := isP_hi hp
  have hcm := fun (x : Int) (w' : World) => l01Mod_any p x w' k1 k2
  have HCM := Lib.hid hcm
  clear hp k1 k2 hcm
  have hl0 : IntKind.i64.wrap 0 = 0 := by decide
  have hl1 : IntKind.i64.wrap 1 = 1 := by decide
  have hl2 : IntKind.i64.wrap 2 = 2 := by decide
  have hl3 : IntKind.i64.wrap 3 = 3 := by decide
  have hl4 : IntKind.i64.wrap 4 = 4 := by decide
  obtain ⟨d0, hd0⟩ : ∃ d : Int, Hid (d = (m4 * m8 - m5 * m7) % p) := ⟨_, rfl⟩
  obtain ⟨d1, hd1⟩ : ∃ d : Int, Hid (d = (m7 * m2 - m8 * m1) % p) := ⟨_, rfl⟩
  obtain ⟨d2, hd2⟩ : ∃ d : Int, Hid (d = (m1 * m5 - m2 * m4) % p) := ⟨_, rfl⟩
  obtain ⟨d3, hd3⟩ : ∃ d : Int, Hid (d = (m5 * m6 - m3 * m8) % p) := ⟨_, rfl⟩
  obtain ⟨d4, hd4⟩ : ∃ d : Int, Hid (d = (m8 * m0 - m6 * m2) % p) := ⟨_, rfl⟩
  obtain ⟨d5, hd5⟩ : ∃ d : Int, Hid (d = (m2 * m3 - m0 * m5) % p) := ⟨_, rfl⟩
  obtain ⟨d6, hd6⟩ : ∃ d : Int, Hid (d = (m3 * m7 - m4 * m6) % p) := ⟨_, rfl⟩
  obtain ⟨d7, hd7⟩ : ∃ d : Int, Hid (d = (m6 * m1 - m7 * m0) % p) := ⟨_, rfl⟩
  obtain ⟨d8, hd8⟩ : ∃ d : Int, Hid (d = (m0 * m4 - m1 * m3) % p) := ⟨_, rfl⟩
  have hE : Hid (adM p ⟨m0, m1, m2, m3, m4, m5, m6, m7, m8⟩ = ⟨d0, d1, d2, d3, d4, d5, d6, d7, d8⟩) := by show _ = _; unfold adM; rw [hd0.out, hd1.out, hd2.out, hd3.out, hd4.out, hd5.out, hd6.out, hd7.out, hd8.out]
  go_enter Try.func112, Try.ntmps112
  go_wp2_with fail
  refine wp_name (fun w' => Box 55 w' (w.heap.size) [m0, m1, m2, m3, m4, m5, m6, m7, m8] ∧ Box 55 w' (w.heap.size + 1) [0, 0, 0, 0, 0, 0, 0, 0, 0] ∧ Box 55 w' (w.heap.size + 1 + 1) [0, 0, 0, 0, 0, 0, 0, 0, 0] ∧ Below w.heap.size w w') ⟨Box.alloc (Box.alloc (Box.new [m0, m1, m2, m3, m4, m5, m6, m7, m8] (by simp)) _) _, Box.alloc (Box.new [0, 0, 0, 0, 0, 0, 0, 0, 0] (by simp)) _, Box.new [0, 0, 0, 0, 0, 0, 0, 0, 0] (by simp), by (repeat' (first | (with_reducible exact Below.refl _ _) | (with_reducible assumption) | (with_reducible refine Below.alloc ?_ ?_ _) | (with_reducible refine Below.drew ?_) | (with_reducible refine below_drewN ?_ _) | (with_reducible refine Below.setCell ?_ ?_ _) | (refine Below.step ?_ (by with_reducible assumption) ?_) | go_size))⟩ ?_
  rintro wq0 ⟨Bm0, Br0, Bo0, hB0⟩
  have hz0 := hB0.size
  have ltm0 := Bm0.lt
  have ltr0 := Br0.lt
  have lto0 := Bo0.lt
  refine wp_loop_rounds 4 ?_
  rw [rounds_succ]
  go_wp2_with fail
  refine wp_loop_rounds 4 ?_
  rw [rounds_succ]
  go_wp2_with fail
  obtain ⟨hw0, hw1, hw2⟩ := detw sm4 sm8 sm5 sm7
  have hc : Hid (∀ w' : World, Calls Try.prog 91 #[.int .i64 p, .int .i64 (m4 * m8 - m5 * m7)] w' fun e w'' => e = .returned (.int .i64 d0) ∧ w'' = w') := fun w' => (HCM.out _ w').mono fun _ _ h => ⟨by rw [hd0.out]; exact h.1, h.2.symm⟩
  have rd0 := Bm0.cell 4 rfl
  have rd1 := Bm0.cell 8 rfl
  have rd2 := Bm0.cell 5 rfl
  have rd3 := Bm0.cell 7 rfl
  refine wp_region_still_tail 28 (by kernel_rfl) (by kernel_rfl) ?_
  simp only [List.take_succ_cons, List.take_zero, List.drop_succ_cons, List.drop_zero]
  repeat (first | still_step | still_call (hc.out _))
  try refine wpStill_nil ?_
  change wpList _ _ _ _ _ wq0.drew
  clear rd0 rd1 rd2 rd3
  have st := (Box.drew Bo0).cell 0 rfl
  have sf := (Box.drew Bo0).frz 0
  go_wp2_with fail
  clear hw0 hw1 hw2 hc
  rw [rounds_succ]
  go_wp2_with fail
  obtain ⟨hw0, hw1, hw2⟩ := detw sm7 sm2 sm8 sm1
  have hc : Hid (∀ w' : World, Calls Try.prog 91 #[.int .i64 p, .int .i64 (m7 * m2 - m8 * m1)] w' fun e w'' => e = .returned (.int .i64 d1) ∧ w'' = w') := fun w' => (HCM.out _ w').mono fun _ _ h => ⟨by rw [hd1.out]; exact h.1, h.2.symm⟩
  refine wp_name (fun w' => Box 55 w' (w.heap.size) [m0, m1, m2, m3, m4, m5, m6, m7, m8] ∧ Box 55 w' (w.heap.size + 1) [0, 0, 0, 0, 0, 0, 0, 0, 0] ∧ Box 55 w' (w.heap.size + 1 + 1) [d0, 0, 0, 0, 0, 0, 0, 0, 0] ∧ Below w.heap.size w w') ⟨Box.far (Box.drew Bm0) (by omega), Box.far (Box.drew Br0) (by omega), (Box.set (Box.drew Bo0) 0 (d0)).cast rfl, Below.setCell (p := ⟨w.heap.size + 1 + 1, 0, none⟩) hB0.drew (by simp only []; omega) _⟩ ?_
  rintro wq1 ⟨Bm1, Br1, Bo1, hB1⟩
  clear st sf Bm0 Br0 Bo0 hB0 ltm0 ltr0 lto0 hz0
  have hz1 := hB1.size
  have ltm1 := Bm1.lt
  have ltr1 := Br1.lt
  have lto1 := Bo1.lt
  have rd0 := Bm1.cell 7 rfl
  have rd1 := Bm1.cell 2 rfl
  have rd2 := Bm1.cell 8 rfl
  have rd3 := Bm1.cell 1 rfl
  refine wp_region_still_tail 28 (by kernel_rfl) (by kernel_rfl) ?_
  simp only [List.take_succ_cons, List.take_zero, List.drop_succ_cons, List.drop_zero]
  repeat (first | still_step | still_call (hc.out _))
  try refine wpStill_nil ?_
  change wpList _ _ _ _ _ wq1.drew
  clear rd0 rd1 rd2 rd3
  have st := (Box.drew Bo1).cell 1 rfl
  have sf := (Box.drew Bo1).frz 1
  go_wp2_with fail
  clear hw0 hw1 hw2 hc
  rw [rounds_succ]
  go_wp2_with fail
  obtain ⟨hw0, hw1, hw2⟩ := detw sm1 sm5 sm2 sm4
  have hc : Hid (∀ w' : World, Calls Try.prog 91 #[.int .i64 p, .int .i64 (m1 * m5 - m2 * m4)] w' fun e w'' => e = .returned (.int .i64 d2) ∧ w'' = w') := fun w' => (HCM.out _ w').mono fun _ _ h => ⟨by rw [hd2.out]; exact h.1, h.2.symm⟩
  refine wp_name (fun w' => Box 55 w' (w.heap.size) [m0, m1, m2, m3, m4, m5, m6, m7, m8] ∧ Box 55 w' (w.heap.size + 1) [0, 0, 0, 0, 0, 0, 0, 0, 0] ∧ Box 55 w' (w.heap.size + 1 + 1) [d0, d1, 0, 0, 0, 0, 0, 0, 0] ∧ Below w.heap.size w w') ⟨Box.far (Box.drew Bm1) (by omega), Box.far (Box.drew Br1) (by omega), (Box.set (Box.drew Bo1) 1 (d1)).cast rfl, Below.setCell (p := ⟨w.heap.size + 1 + 1, 1, none⟩) hB1.drew (by simp only []; omega) _⟩ ?_
  rintro wq2 ⟨Bm2, Br2, Bo2, hB2⟩
  clear st sf Bm1 Br1 Bo1 hB1 ltm1 ltr1 lto1 hz1
  have hz2 := hB2.size
  have ltm2 := Bm2.lt
  have ltr2 := Br2.lt
  have lto2 := Bo2.lt
  have rd0 := Bm2.cell 1 rfl
  have rd1 := Bm2.cell 5 rfl
  have rd2 := Bm2.cell 2 rfl
  have rd3 := Bm2.cell 4 rfl
  refine wp_region_still_tail 28 (by kernel_rfl) (by kernel_rfl) ?_
  simp only [List.take_succ_cons, List.take_zero, List.drop_succ_cons, List.drop_zero]
  repeat (first | still_step | still_call (hc.out _))
  try refine wpStill_nil ?_
  change wpList _ _ _ _ _ wq2.drew
  clear rd0 rd1 rd2 rd3
  have st := (Box.drew Bo2).cell 2 rfl
  have sf := (Box.drew Bo2).frz 2
  go_wp2_with fail
  clear hw0 hw1 hw2 hc
  rw [rounds_succ]
  go_wp2_with fail
  rw [rounds_succ]
  go_wp2_with fail
  refine wp_loop_rounds 4 ?_
  rw [rounds_succ]
  go_wp2_with fail
  obtain ⟨hw0, hw1, hw2⟩ := detw sm5 sm6 sm3 sm8
  have hc : Hid (∀ w' : World, Calls Try.prog 91 #[.int .i64 p, .int .i64 (m5 * m6 - m3 * m8)] w' fun e w'' => e = .returned (.int .i64 d3) ∧ w'' = w') := fun w' => (HCM.out _ w').mono fun _ _ h => ⟨by rw [hd3.out]; exact h.1, h.2.symm⟩
  refine wp_name (fun w' => Box 55 w' (w.heap.size) [m0, m1, m2, m3, m4, m5, m6, m7, m8] ∧ Box 55 w' (w.heap.size + 1) [0, 0, 0, 0, 0, 0, 0, 0, 0] ∧ Box 55 w' (w.heap.size + 1 + 1) [d0, d1, d2, 0, 0, 0, 0, 0, 0] ∧ Below w.heap.size w w') ⟨Box.far (Box.drew Bm2) (by omega), Box.far (Box.drew Br2) (by omega), (Box.set (Box.drew Bo2) 2 (d2)).cast rfl, Below.setCell (p := ⟨w.heap.size + 1 + 1, 2, none⟩) hB2.drew (by simp only []; omega) _⟩ ?_
  rintro wq3 ⟨Bm3, Br3, Bo3, hB3⟩
  clear st sf Bm2 Br2 Bo2 hB2 ltm2 ltr2 lto2 hz2
  have hz3 := hB3.size
  have ltm3 := Bm3.lt
  have ltr3 := Br3.lt
  have lto3 := Bo3.lt
  have rd0 := Bm3.cell 5 rfl
  have rd1 := Bm3.cell 6 rfl
  have rd2 := Bm3.cell 3 rfl
  have rd3 := Bm3.cell 8 rfl
  refine wp_region_still_tail 28 (by kernel_rfl) (by kernel_rfl) ?_
  simp only [List.take_succ_cons, List.take_zero, List.drop_succ_cons, List.drop_zero]
  repeat (first | still_step | still_call (hc.out _))
  try refine wpStill_nil ?_
  change wpList _ _ _ _ _ wq3.drew
  clear rd0 rd1 rd2 rd3
  have st := (Box.drew Bo3).cell 3 rfl
  have sf := (Box.drew Bo3).frz 3
  go_wp2_with fail
  clear hw0 hw1 hw2 hc
  rw [rounds_succ]
  go_wp2_with fail
  obtain ⟨hw0, hw1, hw2⟩ := detw sm8 sm0 sm6 sm2
  have hc : Hid (∀ w' : World, Calls Try.prog 91 #[.int .i64 p, .int .i64 (m8 * m0 - m6 * m2)] w' fun e w'' => e = .returned (.int .i64 d4) ∧ w'' = w') := fun w' => (HCM.out _ w').mono fun _ _ h => ⟨by rw [hd4.out]; exact h.1, h.2.symm⟩
  refine wp_name (fun w' => Box 55 w' (w.heap.size) [m0, m1, m2, m3, m4, m5, m6, m7, m8] ∧ Box 55 w' (w.heap.size + 1) [0, 0, 0, 0, 0, 0, 0, 0, 0] ∧ Box 55 w' (w.heap.size + 1 + 1) [d0, d1, d2, d3, 0, 0, 0, 0, 0] ∧ Below w.heap.size w w') ⟨Box.far (Box.drew Bm3) (by omega), Box.far (Box.drew Br3) (by omega), (Box.set (Box.drew Bo3) 3 (d3)).cast rfl, Below.setCell (p := ⟨w.heap.size + 1 + 1, 3, none⟩) hB3.drew (by simp only []; omega) _⟩ ?_
  rintro wq4 ⟨Bm4, Br4, Bo4, hB4⟩
  clear st sf Bm3 Br3 Bo3 hB3 ltm3 ltr3 lto3 hz3
  have hz4 := hB4.size
  have ltm4 := Bm4.lt
  have ltr4 := Br4.lt
  have lto4 := Bo4.lt
  have rd0 := Bm4.cell 8 rfl
  have rd1 := Bm4.cell 0 rfl
  have rd2 := Bm4.cell 6 rfl
  have rd3 := Bm4.cell 2 rfl
  refine wp_region_still_tail 28 (by kernel_rfl) (by kernel_rfl) ?_
  simp only [List.take_succ_cons, List.take_zero, List.drop_succ_cons, List.drop_zero]
  repeat (first | still_step | still_call (hc.out _))
  try refine wpStill_nil ?_
  change wpList _ _ _ _ _ wq4.drew
  clear rd0 rd1 rd2 rd3
  have st := (Box.drew Bo4).cell 4 rfl
  have sf := (Box.drew Bo4).frz 4
  go_wp2_with fail
  clear hw0 hw1 hw2 hc
  rw [rounds_succ]
  go_wp2_with fail
  obtain ⟨hw0, hw1, hw2⟩ := detw sm2 sm3 sm0 sm5
  have hc : Hid (∀ w' : World, Calls Try.prog 91 #[.int .i64 p, .int .i64 (m2 * m3 - m0 * m5)] w' fun e w'' => e = .returned (.int .i64 d5) ∧ w'' = w') := fun w' => (HCM.out _ w').mono fun _ _ h => ⟨by rw [hd5.out]; exact h.1, h.2.symm⟩
  refine wp_name (fun w' => Box 55 w' (w.heap.size) [m0, m1, m2, m3, m4, m5, m6, m7, m8] ∧ Box 55 w' (w.heap.size + 1) [0, 0, 0, 0, 0, 0, 0, 0, 0] ∧ Box 55 w' (w.heap.size + 1 + 1) [d0, d1, d2, d3, d4, 0, 0, 0, 0] ∧ Below w.heap.size w w') ⟨Box.far (Box.drew Bm4) (by omega), Box.far (Box.drew Br4) (by omega), (Box.set (Box.drew Bo4) 4 (d4)).cast rfl, Below.setCell (p := ⟨w.heap.size + 1 + 1, 4, none⟩) hB4.drew (by simp only []; omega) _⟩ ?_
  rintro wq5 ⟨Bm5, Br5, Bo5, hB5⟩
  clear st sf Bm4 Br4 Bo4 hB4 ltm4 ltr4 lto4 hz4
  have hz5 := hB5.size
  have ltm5 := Bm5.lt
  have ltr5 := Br5.lt
  have lto5 := Bo5.lt
  have rd0 := Bm5.cell 2 rfl
  have rd1 := Bm5.cell 3 rfl
  have rd2 := Bm5.cell 0 rfl
  have rd3 := Bm5.cell 5 rfl
  refine wp_region_still_tail 28 (by kernel_rfl) (by kernel_rfl) ?_
  simp only [List.take_succ_cons, List.take_zero, List.drop_succ_cons, List.drop_zero]
  repeat (first | still_step | still_call (hc.out _))
  try refine wpStill_nil ?_
  change wpList _ _ _ _ _ wq5.drew
  clear rd0 rd1 rd2 rd3
  have st := (Box.drew Bo5).cell 5 rfl
  have sf := (Box.drew Bo5).frz 5
  go_wp2_with fail
  clear hw0 hw1 hw2 hc
  rw [rounds_succ]
  go_wp2_with fail
  rw [rounds_succ]
  go_wp2_with fail
  refine wp_loop_rounds 4 ?_
  rw [rounds_succ]
  go_wp2_with fail
  obtain ⟨hw0, hw1, hw2⟩ := detw sm3 sm7 sm4 sm6
  have hc : Hid (∀ w' : World, Calls Try.prog 91 #[.int .i64 p, .int .i64 (m3 * m7 - m4 * m6)] w' fun e w'' => e = .returned (.int .i64 d6) ∧ w'' = w') := fun w' => (HCM.out _ w').mono fun _ _ h => ⟨by rw [hd6.out]; exact h.1, h.2.symm⟩
  refine wp_name (fun w' => Box 55 w' (w.heap.size) [m0, m1, m2, m3, m4, m5, m6, m7, m8] ∧ Box 55 w' (w.heap.size + 1) [0, 0, 0, 0, 0, 0, 0, 0, 0] ∧ Box 55 w' (w.heap.size + 1 + 1) [d0, d1, d2, d3, d4, d5, 0, 0, 0] ∧ Below w.heap.size w w') ⟨Box.far (Box.drew Bm5) (by omega), Box.far (Box.drew Br5) (by omega), (Box.set (Box.drew Bo5) 5 (d5)).cast rfl, Below.setCell (p := ⟨w.heap.size + 1 + 1, 5, none⟩) hB5.drew (by simp only []; omega) _⟩ ?_
  rintro wq6 ⟨Bm6, Br6, Bo6, hB6⟩
  clear st sf Bm5 Br5 Bo5 hB5 ltm5 ltr5 lto5 hz5
  have hz6 := hB6.size
  have ltm6 := Bm6.lt
  have ltr6 := Br6.lt
  have lto6 := Bo6.lt
  have rd0 := Bm6.cell 3 rfl
  have rd1 := Bm6.cell 7 rfl
  have rd2 := Bm6.cell 4 rfl
  have rd3 := Bm6.cell 6 rfl
  refine wp_region_still_tail 28 (by kernel_rfl) (by kernel_rfl) ?_
  simp only [List.take_succ_cons, List.take_zero, List.drop_succ_cons, List.drop_zero]
  repeat (first | still_step | still_call (hc.out _))
  try refine wpStill_nil ?_
  change wpList _ _ _ _ _ wq6.drew
  clear rd0 rd1 rd2 rd3
  have st := (Box.drew Bo6).cell 6 rfl
  have sf := (Box.drew Bo6).frz 6
  go_wp2_with fail
  clear hw0 hw1 hw2 hc
  rw [rounds_succ]
  go_wp2_with fail
  obtain ⟨hw0, hw1, hw2⟩ := detw sm6 sm1 sm7 sm0
  have hc : Hid (∀ w' : World, Calls Try.prog 91 #[.int .i64 p, .int .i64 (m6 * m1 - m7 * m0)] w' fun e w'' => e = .returned (.int .i64 d7) ∧ w'' = w') := fun w' => (HCM.out _ w').mono fun _ _ h => ⟨by rw [hd7.out]; exact h.1, h.2.symm⟩
  refine wp_name (fun w' => Box 55 w' (w.heap.size) [m0, m1, m2, m3, m4, m5, m6, m7, m8] ∧ Box 55 w' (w.heap.size + 1) [0, 0, 0, 0, 0, 0, 0, 0, 0] ∧ Box 55 w' (w.heap.size + 1 + 1) [d0, d1, d2, d3, d4, d5, d6, 0, 0] ∧ Below w.heap.size w w') ⟨Box.far (Box.drew Bm6) (by omega), Box.far (Box.drew Br6) (by omega), (Box.set (Box.drew Bo6) 6 (d6)).cast rfl, Below.setCell (p := ⟨w.heap.size + 1 + 1, 6, none⟩) hB6.drew (by simp only []; omega) _⟩ ?_
  rintro wq7 ⟨Bm7, Br7, Bo7, hB7⟩
  clear st sf Bm6 Br6 Bo6 hB6 ltm6 ltr6 lto6 hz6
  have hz7 := hB7.size
  have ltm7 := Bm7.lt
  have ltr7 := Br7.lt
  have lto7 := Bo7.lt
  have rd0 := Bm7.cell 6 rfl
  have rd1 := Bm7.cell 1 rfl
  have rd2 := Bm7.cell 7 rfl
  have rd3 := Bm7.cell 0 rfl
  refine wp_region_still_tail 28 (by kernel_rfl) (by kernel_rfl) ?_
  simp only [List.take_succ_cons, List.take_zero, List.drop_succ_cons, List.drop_zero]
  repeat (first | still_step | still_call (hc.out _))
  try refine wpStill_nil ?_
  change wpList _ _ _ _ _ wq7.drew
  clear rd0 rd1 rd2 rd3
  have st := (Box.drew Bo7).cell 7 rfl
  have sf := (Box.drew Bo7).frz 7
  go_wp2_with fail
  clear hw0 hw1 hw2 hc
  rw [rounds_succ]
  go_wp2_with fail
  obtain ⟨hw0, hw1, hw2⟩ := detw sm0 sm4 sm1 sm3
  have hc : Hid (∀ w' : World, Calls Try.prog 91 #[.int .i64 p, .int .i64 (m0 * m4 - m1 * m3)] w' fun e w'' => e = .returned (.int .i64 d8) ∧ w'' = w') := fun w' => (HCM.out _ w').mono fun _ _ h => ⟨by rw [hd8.out]; exact h.1, h.2.symm⟩
  refine wp_name (fun w' => Box 55 w' (w.heap.size) [m0, m1, m2, m3, m4, m5, m6, m7, m8] ∧ Box 55 w' (w.heap.size + 1) [0, 0, 0, 0, 0, 0, 0, 0, 0] ∧ Box 55 w' (w.heap.size + 1 + 1) [d0, d1, d2, d3, d4, d5, d6, d7, 0] ∧ Below w.heap.size w w') ⟨Box.far (Box.drew Bm7) (by omega), Box.far (Box.drew Br7) (by omega), (Box.set (Box.drew Bo7) 7 (d7)).cast rfl, Below.setCell (p := ⟨w.heap.size + 1 + 1, 7, none⟩) hB7.drew (by simp only []; omega) _⟩ ?_
  rintro wq8 ⟨Bm8, Br8, Bo8, hB8⟩
  clear st sf Bm7 Br7 Bo7 hB7 ltm7 ltr7 lto7 hz7
  have hz8 := hB8.size
  have ltm8 := Bm8.lt
  have ltr8 := Br8.lt
  have lto8 := Bo8.lt
  have rd0 := Bm8.cell 0 rfl
  have rd1 := Bm8.cell 4 rfl
  have rd2 := Bm8.cell 1 rfl
  have rd3 := Bm8.cell 3 rfl
  refine wp_region_still_tail 28 (by kernel_rfl) (by kernel_rfl) ?_
  simp only [List.take_succ_cons, List.take_zero, List.drop_succ_cons, List.drop_zero]
  repeat (first | still_step | still_call (hc.out _))
  try refine wpStill_nil ?_
  change wpList _ _ _ _ _ wq8.drew
  clear rd0 rd1 rd2 rd3
  have st := (Box.drew Bo8).cell 8 rfl
  have sf := (Box.drew Bo8).frz 8
  go_wp2_with fail
  clear hw0 hw1 hw2 hc
  rw [rounds_succ]
  go_wp2_with fail
  have rd0 := Bo8.cell 0 rfl
  have rs0 := Br8.cell 0 rfl
  have rf0 := Br8.frz 0
  have rd1 := Bo8.cell 1 rfl
  have rs1 := Br8.cell 1 rfl
  have rf1 := Br8.frz 1
  have rd2 := Bo8.cell 2 rfl
  have rs2 := Br8.cell 2 rfl
  have rf2 := Br8.frz 2
  have rd3 := Bo8.cell 3 rfl
  have rs3 := Br8.cell 3 rfl
  have rf3 := Br8.frz 3
  have rd4 := Bo8.cell 4 rfl
  have rs4 := Br8.cell 4 rfl
  have rf4 := Br8.frz 4
  have rd5 := Bo8.cell 5 rfl
  have rs5 := Br8.cell 5 rfl
  have rf5 := Br8.frz 5
  have rd6 := Bo8.cell 6 rfl
  have rs6 := Br8.cell 6 rfl
  have rf6 := Br8.frz 6
  have rd7 := Bo8.cell 7 rfl
  have rs7 := Br8.cell 7 rfl
  have rf7 := Br8.frz 7
  have rd8 := Bo8.cell 8 rfl
  have rs8 := Br8.cell 8 rfl
  have rf8 := Br8.frz 8
  clear HCM hd0 sm0 hd1 sm1 hd2 sm2 hd3 sm3 hd4 sm4 hd5 sm5 hd6 sm6 hd7 sm7 hd8 sm8 hl0 hl1 hl2 hl3 hl4
  rw [rounds_succ]
  repeat ((fail_if_success guard_target = (_ : Exit → Act → World → Prop) Exit.ret _ _); (first | (go_big_may; go_at_call 93; refine (l02Normal_any p d0 d1 d2 d3 d4 d5 d6 d7 d8 _ HP.out).mono ?_; rintro e w7 ⟨rfl, hb7⟩; have Br7 : Box 55 w7 (w.heap.size + 1) [0, 0, 0, 0, 0, 0, 0, 0, 0] := Box.below hb7 (by first | exact Box.far (Box.drew Br8) (by omega) | exact Box.drew (Box.far Br8 (by omega))); have rx0 := Br7.cell 0 rfl; have fx0 := Br7.frz 0; have rx1 := Br7.cell 1 rfl; have fx1 := Br7.frz 1; have rx2 := Br7.cell 2 rfl; have fx2 := Br7.frz 2; have rx3 := Br7.cell 3 rfl; have fx3 := Br7.frz 3; have rx4 := Br7.cell 4 rfl; have fx4 := Br7.frz 4; have rx5 := Br7.cell 5 rfl; have fx5 := Br7.frz 5; have rx6 := Br7.cell 6 rfl; have fx6 := Br7.frz 6; have rx7 := Br7.cell 7 rfl; have fx7 := Br7.frz 7; have rx8 := Br7.cell 8 rfl; have fx8 := Br7.frz 8; have hz7 := hb7.size; simp only [World.size_setCell, World.size_drew] at hz7; dsimp only) | go_values | go_skip | go_guarded | go_step | go_upon | go_back))
  (try simp only [Exit.inBlock, Exit.then]); refine bodyPost_ret (by simp [results, Try.results112, go_sem, *]; try rfl) rfl ?_
  exact ⟨by unfold bkM; rw [hE.out], by (repeat' (first | (with_reducible exact Below.refl _ _) | (with_reducible assumption) | (with_reducible refine Below.alloc ?_ ?_ _) | (with_reducible refine Below.drew ?_) | (with_reducible refine below_drewN ?_ _) | (with_reducible refine Below.setCell ?_ ?_ _) | (refine Below.step ?_ (by with_reducible assumption) ?_) | go_size))⟩
end Go.Proofs.Ytemimkbngfbomaa
