/- Maps in the program: which numbers are a map, products, adjoints, images; p is a prime. -/
import Derived.Test.YtemimkbngfbomaaW24
import Derived.Test.YtemimkbngfbomaaH2
namespace Go.Proofs.Ytemimkbngfbomaa
open Go.RowKit
set_option linter.unusedSimpArgs false
set_option linter.unusedVariables false
set_option maxRecDepth 100000

set_option maxHeartbeats 1000000 in
theorem IsMap_any (p m0 m1 m2 m3 m4 m5 m6 m7 m8 : Int) (w : World) :
    Calls Try.prog 79 #[.int .i64 p, .agg #[.int .i64 m0, .int .i64 m1, .int .i64 m2, .int .i64 m3, .int .i64 m4, .int .i64 m5, .int .i64 m6, .int .i64 m7, .int .i64 m8]] w fun e w' => e = .returned (.bool (isMap p ⟨m0, m1, m2, m3, m4, m5, m6, m7, m8⟩)) ∧ Below w.heap.size w w' := by
  cases hp : isP p
  · have hE : Hid (isMap p ⟨m0, m1, m2, m3, m4, m5, m6, m7, m8⟩ = false) := by show _ = _; unfold isMap; rw [hp]; rfl
    go_enter Try.func79, Try.ntmps79
    go_wp2_with (go_at_call 53; refine (isPrime_any _ _).mono ?_; rintro e w' ⟨rfl, rfl⟩)
    go_returns
    exact ⟨ret_bool hE.out.symm, by (repeat' (first | (with_reducible exact Below.refl _ _) | (with_reducible assumption) | (with_reducible refine Below.alloc ?_ ?_ _) | (with_reducible refine Below.drew ?_) | (with_reducible refine below_drewN ?_ _) | (with_reducible refine Below.setCell ?_ ?_ _) | (refine Below.step ?_ (by with_reducible assumption) ?_) | go_size))⟩
  · have k1 := isP_lo hp
    have k2 := isP_hi hp
    have HP := Lib.hid hp
    cases hn : isN p [m0, m1, m2, m3, m4, m5, m6, m7, m8]
    · have hE : Hid (isMap p ⟨m0, m1, m2, m3, m4, m5, m6, m7, m8⟩ = false) := by show _ = _; unfold isMap; rw [hp, isN_l, hn]; rfl
      have HN := Lib.hid hn; clear hn hp
      go_enter Try.func79, Try.ntmps79
      go_wp2_with (first | (go_at_call 53; refine (isPrime_any _ _).mono ?_; rintro e w' ⟨rfl, rfl⟩) | (go_at_call 115; refine (flat_any _ _ _ _ _ _ _ _ _ _).mono ?_; rintro e w1 ⟨g, cap, rfl, hg0, hg1, hR, hfz, hcap, hb1⟩; obtain ⟨hc1, hf1⟩ := bcell hb1; have hz1 := hb1.size; (try simp only [World.size_alloc, World.size_setCell, World.size_drew] at hz1); (try (have hy1w0 : w.heap.size < w1.heap.size := by omega)); (try (have hy1w1 : w.heap.size + 1 < w1.heap.size := by omega)); (try (have hy1w2 : w.heap.size + 1 + 1 < w1.heap.size := by omega)); (try (have hy1w3 : w.heap.size + 1 + 1 + 1 < w1.heap.size := by omega)); (try (have hy1w4 : w.heap.size + 1 + 1 + 1 + 1 < w1.heap.size := by omega)); clear hfz) | (go_at_call 114; refine (isNormal_any p g 0 cap [m0, m1, m2, m3, m4, m5, m6, m7, m8] _ (by omega) (by omega) hR (by simp)).mono ?_; rintro e w' ⟨rfl, rfl⟩; rw [HN.out]))
      go_returns
      exact ⟨ret_bool hE.out.symm, by (repeat' (first | (with_reducible exact Below.refl _ _) | (with_reducible assumption) | (with_reducible refine Below.alloc ?_ ?_ _) | (with_reducible refine Below.drew ?_) | (with_reducible refine below_drewN ?_ _) | (with_reducible refine Below.setCell ?_ ?_ _) | (refine Below.step ?_ (by with_reducible assumption) ?_) | go_size))⟩
    · have hE : Hid (isMap p ⟨m0, m1, m2, m3, m4, m5, m6, m7, m8⟩ = !(M9.det p ⟨m0, m1, m2, m3, m4, m5, m6, m7, m8⟩ == 0)) := by show _ = _; unfold isMap; rw [hp, isN_l, hn]; rfl
      have HN := Lib.hid hn
      have h2 := fun x hx => sm_of k2 (isN_mem hn x hx)
      have sm0 : sm m0 := (h2 _ (by simp)); have sm1 : sm m1 := (h2 _ (by simp)); have sm2 : sm m2 := (h2 _ (by simp)); have sm3 : sm m3 := (h2 _ (by simp)); have sm4 : sm m4 := (h2 _ (by simp)); have sm5 : sm m5 := (h2 _ (by simp)); have sm6 : sm m6 := (h2 _ (by simp)); have sm7 : sm m7 := (h2 _ (by simp)); have sm8 : sm m8 := (h2 _ (by simp))
      clear hn hp h2
      go_enter Try.func79, Try.ntmps79
      go_wp2_with (first | (go_at_call 53; refine (isPrime_any _ _).mono ?_; rintro e w' ⟨rfl, rfl⟩) | (go_at_call 115; refine (flat_any _ _ _ _ _ _ _ _ _ _).mono ?_; rintro e w1 ⟨g, cap, rfl, hg0, hg1, hR, hfz, hcap, hb1⟩; obtain ⟨hc1, hf1⟩ := bcell hb1; have hz1 := hb1.size; (try simp only [World.size_alloc, World.size_setCell, World.size_drew] at hz1); (try (have hy1w0 : w.heap.size < w1.heap.size := by omega)); (try (have hy1w1 : w.heap.size + 1 < w1.heap.size := by omega)); (try (have hy1w2 : w.heap.size + 1 + 1 < w1.heap.size := by omega)); (try (have hy1w3 : w.heap.size + 1 + 1 + 1 < w1.heap.size := by omega)); (try (have hy1w4 : w.heap.size + 1 + 1 + 1 + 1 < w1.heap.size := by omega)); clear hfz) | (go_at_call 114; refine (isNormal_any p g 0 cap [m0, m1, m2, m3, m4, m5, m6, m7, m8] _ (by omega) (by omega) hR (by simp)).mono ?_; rintro e w' ⟨rfl, rfl⟩; rw [HN.out]) | (go_at_call 116; refine (detM_any _ _ _ _ _ _ _ _ _ _ _ k1 k2 sm0 sm1 sm2 sm3 sm4 sm5 sm6 sm7 sm8).mono ?_; rintro e w2 ⟨rfl, hb2⟩; obtain ⟨hc2, hf2⟩ := bcell hb2; have hz2 := hb2.size; (try simp only [World.size_alloc, World.size_setCell, World.size_drew] at hz2); (try (have hy2w0 : w.heap.size < w2.heap.size := by omega)); (try (have hy2w1 : w.heap.size + 1 < w2.heap.size := by omega)); (try (have hy2w2 : w.heap.size + 1 + 1 < w2.heap.size := by omega)); (try (have hy2w3 : w.heap.size + 1 + 1 + 1 < w2.heap.size := by omega)); (try (have hy2w4 : w.heap.size + 1 + 1 + 1 + 1 < w2.heap.size := by omega)); (try (have hy2w10 : w1.heap.size < w2.heap.size := by omega)); (try (have hy2w11 : w1.heap.size + 1 < w2.heap.size := by omega)); (try (have hy2w12 : w1.heap.size + 1 + 1 < w2.heap.size := by omega)); (try (have hy2w13 : w1.heap.size + 1 + 1 + 1 < w2.heap.size := by omega)); (try (have hy2w14 : w1.heap.size + 1 + 1 + 1 + 1 < w2.heap.size := by omega))))
      go_returns
      exact ⟨ret_bool hE.out.symm, by (repeat' (first | (with_reducible exact Below.refl _ _) | (with_reducible assumption) | (with_reducible refine Below.alloc ?_ ?_ _) | (with_reducible refine Below.drew ?_) | (with_reducible refine below_drewN ?_ _) | (with_reducible refine Below.setCell ?_ ?_ _) | (refine Below.step ?_ (by with_reducible assumption) ?_) | go_size))⟩
set_option maxHeartbeats 4000000 in
theorem transposed_any (m0 m1 m2 m3 m4 m5 m6 m7 m8 : Int) (w : World) :
    Calls Try.prog 120 #[.agg #[.int .i64 m0, .int .i64 m1, .int .i64 m2, .int .i64 m3, .int .i64 m4, .int .i64 m5, .int .i64 m6, .int .i64 m7, .int .i64 m8]] w fun e w' => e = .returned (.agg #[.int .i64 (trM ⟨m0, m1, m2, m3, m4, m5, m6, m7, m8⟩).m0, .int .i64 (trM ⟨m0, m1, m2, m3, m4, m5, m6, m7, m8⟩).m1, .int .i64 (trM ⟨m0, m1, m2, m3, m4, m5, m6, m7, m8⟩).m2, .int .i64 (trM ⟨m0, m1, m2, m3, m4, m5, m6, m7, m8⟩).m3, .int .i64 (trM ⟨m0, m1, m2, m3, m4, m5, m6, m7, m8⟩).m4, .int .i64 (trM ⟨m0, m1, m2, m3, m4, m5, m6, m7, m8⟩).m5, .int .i64 (trM ⟨m0, m1, m2, m3, m4, m5, m6, m7, m8⟩).m6, .int .i64 (trM ⟨m0, m1, m2, m3, m4, m5, m6, m7, m8⟩).m7, .int .i64 (trM ⟨m0, m1, m2, m3, m4, m5, m6, m7, m8⟩).m8]) ∧ Below w.heap.size w w' := by
  go_enter Try.func120, Try.ntmps120
  go_wp2_with fail
  refine wp_name (fun w' => Box 55 w' (w.heap.size) [m0, m1, m2, m3, m4, m5, m6, m7, m8] ∧ Box 55 w' (w.heap.size + 1) [0, 0, 0, 0, 0, 0, 0, 0, 0] ∧ Box 55 w' (w.heap.size + 1 + 1) [0, 0, 0, 0, 0, 0, 0, 0, 0] ∧ Below w.heap.size w w') ⟨Box.alloc (Box.alloc (Box.new [m0, m1, m2, m3, m4, m5, m6, m7, m8] (by simp)) _) _, Box.alloc (Box.new [0, 0, 0, 0, 0, 0, 0, 0, 0] (by simp)) _, Box.new [0, 0, 0, 0, 0, 0, 0, 0, 0] (by simp), by (repeat' (first | (with_reducible exact Below.refl _ _) | (with_reducible assumption) | (with_reducible refine Below.alloc ?_ ?_ _) | (with_reducible refine Below.drew ?_) | (with_reducible refine below_drewN ?_ _) | (with_reducible refine Below.setCell ?_ ?_ _) | (refine Below.step ?_ (by with_reducible assumption) ?_) | go_size))⟩ ?_
  rintro wq0 ⟨Bm0, Br0, Bo0, hB0⟩
  have hz0 := hB0.size
  have ltm0 := Bm0.lt
  have ltr0 := Br0.lt
  have lto0 := Bo0.lt
  refine wp_loop_rounds 4 ?_
  rw [rounds_succ]
  go_wp2_with fail
  refine wp_loop_rounds 4 ?_
  rw [rounds_succ]
  go_wp2_with fail
  have rd0 := Bm0.cell 0 rfl
  refine wp_region_still_tail 8 (by kernel_rfl) (by kernel_rfl) ?_
  simp only [List.take_succ_cons, List.take_zero, List.drop_succ_cons, List.drop_zero]
  repeat still_step
  try refine wpStill_nil ?_
  change wpList _ _ _ _ _ wq0.drew
  clear rd0
  have st := (Box.drew Bo0).cell 0 rfl
  have sf := (Box.drew Bo0).frz 0
  go_wp2_with fail
  rw [rounds_succ]
  go_wp2_with fail
  refine wp_name (fun w' => Box 55 w' (w.heap.size) [m0, m1, m2, m3, m4, m5, m6, m7, m8] ∧ Box 55 w' (w.heap.size + 1) [0, 0, 0, 0, 0, 0, 0, 0, 0] ∧ Box 55 w' (w.heap.size + 1 + 1) [m0, 0, 0, 0, 0, 0, 0, 0, 0] ∧ Below w.heap.size w w') ⟨Box.far (Box.drew Bm0) (by omega), Box.far (Box.drew Br0) (by omega), (Box.set (Box.drew Bo0) 0 (m0)).cast rfl, Below.setCell (p := ⟨w.heap.size + 1 + 1, 0, none⟩) hB0.drew (by simp only []; omega) _⟩ ?_
  rintro wq1 ⟨Bm1, Br1, Bo1, hB1⟩
  clear st sf Bm0 Br0 Bo0 hB0 ltm0 ltr0 lto0 hz0
  have hz1 := hB1.size
  have ltm1 := Bm1.lt
  have ltr1 := Br1.lt
  have lto1 := Bo1.lt
  have rd0 := Bm1.cell 1 rfl
  refine wp_region_still_tail 8 (by kernel_rfl) (by kernel_rfl) ?_
  simp only [List.take_succ_cons, List.take_zero, List.drop_succ_cons, List.drop_zero]
  repeat still_step
  try refine wpStill_nil ?_
  change wpList _ _ _ _ _ wq1.drew
  clear rd0
  have st := (Box.drew Bo1).cell 3 rfl
  have sf := (Box.drew Bo1).frz 3
  go_wp2_with fail
  rw [rounds_succ]
  go_wp2_with fail
  refine wp_name (fun w' => Box 55 w' (w.heap.size) [m0, m1, m2, m3, m4, m5, m6, m7, m8] ∧ Box 55 w' (w.heap.size + 1) [0, 0, 0, 0, 0, 0, 0, 0, 0] ∧ Box 55 w' (w.heap.size + 1 + 1) [m0, 0, 0, m1, 0, 0, 0, 0, 0] ∧ Below w.heap.size w w') ⟨Box.far (Box.drew Bm1) (by omega), Box.far (Box.drew Br1) (by omega), (Box.set (Box.drew Bo1) 3 (m1)).cast rfl, Below.setCell (p := ⟨w.heap.size + 1 + 1, 3, none⟩) hB1.drew (by simp only []; omega) _⟩ ?_
  rintro wq2 ⟨Bm2, Br2, Bo2, hB2⟩
  clear st sf Bm1 Br1 Bo1 hB1 ltm1 ltr1 lto1 hz1
  have hz2 := hB2.size
  have ltm2 := Bm2.lt
  have ltr2 := Br2.lt
  have lto2 := Bo2.lt
  have rd0 := Bm2.cell 2 rfl
  refine wp_region_still_tail 8 (by kernel_rfl) (by kernel_rfl) ?_
  simp only [List.take_succ_cons, List.take_zero, List.drop_succ_cons, List.drop_zero]
  repeat still_step
  try refine wpStill_nil ?_
  change wpList _ _ _ _ _ wq2.drew
  clear rd0
  have st := (Box.drew Bo2).cell 6 rfl
  have sf := (Box.drew Bo2).frz 6
  go_wp2_with fail
  rw [rounds_succ]
  go_wp2_with fail
  rw [rounds_succ]
  go_wp2_with fail
  refine wp_loop_rounds 4 ?_
  rw [rounds_succ]
  go_wp2_with fail
  refine wp_name (fun w' => Box 55 w' (w.heap.size) [m0, m1, m2, m3, m4, m5, m6, m7, m8] ∧ Box 55 w' (w.heap.size + 1) [0, 0, 0, 0, 0, 0, 0, 0, 0] ∧ Box 55 w' (w.heap.size + 1 + 1) [m0, 0, 0, m1, 0, 0, m2, 0, 0] ∧ Below w.heap.size w w') ⟨Box.far (Box.drew Bm2) (by omega), Box.far (Box.drew Br2) (by omega), (Box.set (Box.drew Bo2) 6 (m2)).cast rfl, Below.setCell (p := ⟨w.heap.size + 1 + 1, 6, none⟩) hB2.drew (by simp only []; omega) _⟩ ?_
  rintro wq3 ⟨Bm3, Br3, Bo3, hB3⟩
  clear st sf Bm2 Br2 Bo2 hB2 ltm2 ltr2 lto2 hz2
  have hz3 := hB3.size
  have ltm3 := Bm3.lt
  have ltr3 := Br3.lt
  have lto3 := Bo3.lt
  have rd0 := Bm3.cell 3 rfl
  refine wp_region_still_tail 8 (by kernel_rfl) (by kernel_rfl) ?_
  simp only [List.take_succ_cons, List.take_zero, List.drop_succ_cons, List.drop_zero]
  repeat still_step
  try refine wpStill_nil ?_
  change wpList _ _ _ _ _ wq3.drew
  clear rd0
  have st := (Box.drew Bo3).cell 1 rfl
  have sf := (Box.drew Bo3).frz 1
  go_wp2_with fail
  rw [rounds_succ]
  go_wp2_with fail
  refine wp_name (fun w' => Box 55 w' (w.heap.size) [m0, m1, m2, m3, m4, m5, m6, m7, m8] ∧ Box 55 w' (w.heap.size + 1) [0, 0, 0, 0, 0, 0, 0, 0, 0] ∧ Box 55 w' (w.heap.size + 1 + 1) [m0, m3, 0, m1, 0, 0, m2, 0, 0] ∧ Below w.heap.size w w') ⟨Box.far (Box.drew Bm3) (by omega), Box.far (Box.drew Br3) (by omega), (Box.set (Box.drew Bo3) 1 (m3)).cast rfl, Below.setCell (p := ⟨w.heap.size + 1 + 1, 1, none⟩) hB3.drew (by simp only []; omega) _⟩ ?_
  rintro wq4 ⟨Bm4, Br4, Bo4, hB4⟩
  clear st sf Bm3 Br3 Bo3 hB3 ltm3 ltr3 lto3 hz3
  have hz4 := hB4.size
  have ltm4 := Bm4.lt
  have ltr4 := Br4.lt
  have lto4 := Bo4.lt
  have rd0 := Bm4.cell 4 rfl
  refine wp_region_still_tail 8 (by kernel_rfl) (by kernel_rfl) ?_
  simp only [List.take_succ_cons, List.take_zero, List.drop_succ_cons, List.drop_zero]
  repeat still_step
  try refine wpStill_nil ?_
  change wpList _ _ _ _ _ wq4.drew
  clear rd0
  have st := (Box.drew Bo4).cell 4 rfl
  have sf := (Box.drew Bo4).frz 4
  go_wp2_with fail
  rw [rounds_succ]
  go_wp2_with fail
  refine wp_name (fun w' => Box 55 w' (w.heap.size) [m0, m1, m2, m3, m4, m5, m6, m7, m8] ∧ Box 55 w' (w.heap.size + 1) [0, 0, 0, 0, 0, 0, 0, 0, 0] ∧ Box 55 w' (w.heap.size + 1 + 1) [m0, m3, 0, m1, m4, 0, m2, 0, 0] ∧ Below w.heap.size w w') ⟨Box.far (Box.drew Bm4) (by omega), Box.far (Box.drew Br4) (by omega), (Box.set (Box.drew Bo4) 4 (m4)).cast rfl, Below.setCell (p := ⟨w.heap.size + 1 + 1, 4, none⟩) hB4.drew (by simp only []; omega) _⟩ ?_
  rintro wq5 ⟨Bm5, Br5, Bo5, hB5⟩
  clear st sf Bm4 Br4 Bo4 hB4 ltm4 ltr4 lto4 hz4
  have hz5 := hB5.size
  have ltm5 := Bm5.lt
  have ltr5 := Br5.lt
  have lto5 := Bo5.lt
  have rd0 := Bm5.cell 5 rfl
  refine wp_region_still_tail 8 (by kernel_rfl) (by kernel_rfl) ?_
  simp only [List.take_succ_cons, List.take_zero, List.drop_succ_cons, List.drop_zero]
  repeat still_step
  try refine wpStill_nil ?_
  change wpList _ _ _ _ _ wq5.drew
  clear rd0
  have st := (Box.drew Bo5).cell 7 rfl
  have sf := (Box.drew Bo5).frz 7
  go_wp2_with fail
  rw [rounds_succ]
  go_wp2_with fail
  rw [rounds_succ]
  go_wp2_with fail
  refine wp_loop_rounds 4 ?_
  rw [rounds_succ]
  go_wp2_with fail
  refine wp_name (fun w' => Box 55 w' (w.heap.size) [m0, m1, m2, m3, m4, m5, m6, m7, m8] ∧ Box 55 w' (w.heap.size + 1) [0, 0, 0, 0, 0, 0, 0, 0, 0] ∧ Box 55 w' (w.heap.size + 1 + 1) [m0, m3, 0, m1, m4, 0, m2, m5, 0] ∧ Below w.heap.size w w') ⟨Box.far (Box.drew Bm5) (by omega), Box.far (Box.drew Br5) (by omega), (Box.set (Box.drew Bo5) 7 (m5)).cast rfl, Below.setCell (p := ⟨w.heap.size + 1 + 1, 7, none⟩) hB5.drew (by simp only []; omega) _⟩ ?_
  rintro wq6 ⟨Bm6, Br6, Bo6, hB6⟩
  clear st sf Bm5 Br5 Bo5 hB5 ltm5 ltr5 lto5 hz5
  have hz6 := hB6.size
  have ltm6 := Bm6.lt
  have ltr6 := Br6.lt
  have lto6 := Bo6.lt
  have rd0 := Bm6.cell 6 rfl
  refine wp_region_still_tail 8 (by kernel_rfl) (by kernel_rfl) ?_
  simp only [List.take_succ_cons, List.take_zero, List.drop_succ_cons, List.drop_zero]
  repeat still_step
  try refine wpStill_nil ?_
  change wpList _ _ _ _ _ wq6.drew
  clear rd0
  have st := (Box.drew Bo6).cell 2 rfl
  have sf := (Box.drew Bo6).frz 2
  go_wp2_with fail
  rw [rounds_succ]
  go_wp2_with fail
  refine wp_name (fun w' => Box 55 w' (w.heap.size) [m0, m1, m2, m3, m4, m5, m6, m7, m8] ∧ Box 55 w' (w.heap.size + 1) [0, 0, 0, 0, 0, 0, 0, 0, 0] ∧ Box 55 w' (w.heap.size + 1 + 1) [m0, m3, m6, m1, m4, 0, m2, m5, 0] ∧ Below w.heap.size w w') ⟨Box.far (Box.drew Bm6) (by omega), Box.far (Box.drew Br6) (by omega), (Box.set (Box.drew Bo6) 2 (m6)).cast rfl, Below.setCell (p := ⟨w.heap.size + 1 + 1, 2, none⟩) hB6.drew (by simp only []; omega) _⟩ ?_
  rintro wq7 ⟨Bm7, Br7, Bo7, hB7⟩
  clear st sf Bm6 Br6 Bo6 hB6 ltm6 ltr6 lto6 hz6
  have hz7 := hB7.size
  have ltm7 := Bm7.lt
  have ltr7 := Br7.lt
  have lto7 := Bo7.lt
  have rd0 := Bm7.cell 7 rfl
  refine wp_region_still_tail 8 (by kernel_rfl) (by kernel_rfl) ?_
  simp only [List.take_succ_cons, List.take_zero, List.drop_succ_cons, List.drop_zero]
  repeat still_step
  try refine wpStill_nil ?_
  change wpList _ _ _ _ _ wq7.drew
  clear rd0
  have st := (Box.drew Bo7).cell 5 rfl
  have sf := (Box.drew Bo7).frz 5
  go_wp2_with fail
  rw [rounds_succ]
  go_wp2_with fail
  refine wp_name (fun w' => Box 55 w' (w.heap.size) [m0, m1, m2, m3, m4, m5, m6, m7, m8] ∧ Box 55 w' (w.heap.size + 1) [0, 0, 0, 0, 0, 0, 0, 0, 0] ∧ Box 55 w' (w.heap.size + 1 + 1) [m0, m3, m6, m1, m4, m7, m2, m5, 0] ∧ Below w.heap.size w w') ⟨Box.far (Box.drew Bm7) (by omega), Box.far (Box.drew Br7) (by omega), (Box.set (Box.drew Bo7) 5 (m7)).cast rfl, Below.setCell (p := ⟨w.heap.size + 1 + 1, 5, none⟩) hB7.drew (by simp only []; omega) _⟩ ?_
  rintro wq8 ⟨Bm8, Br8, Bo8, hB8⟩
  clear st sf Bm7 Br7 Bo7 hB7 ltm7 ltr7 lto7 hz7
  have hz8 := hB8.size
  have ltm8 := Bm8.lt
  have ltr8 := Br8.lt
  have lto8 := Bo8.lt
  have rd0 := Bm8.cell 8 rfl
  refine wp_region_still_tail 8 (by kernel_rfl) (by kernel_rfl) ?_
  simp only [List.take_succ_cons, List.take_zero, List.drop_succ_cons, List.drop_zero]
  repeat still_step
  try refine wpStill_nil ?_
  change wpList _ _ _ _ _ wq8.drew
  clear rd0
  have st := (Box.drew Bo8).cell 8 rfl
  have sf := (Box.drew Bo8).frz 8
  go_wp2_with fail
  rw [rounds_succ]
  go_wp2_with fail
  have rs0 := Br8.cell 0 rfl
  have rf0 := Br8.frz 0
  have rd0 := Bo8.cell 0 rfl
  have rs1 := Br8.cell 1 rfl
  have rf1 := Br8.frz 1
  have rd1 := Bo8.cell 1 rfl
  have rs2 := Br8.cell 2 rfl
  have rf2 := Br8.frz 2
  have rd2 := Bo8.cell 2 rfl
  have rs3 := Br8.cell 3 rfl
  have rf3 := Br8.frz 3
  have rd3 := Bo8.cell 3 rfl
  have rs4 := Br8.cell 4 rfl
  have rf4 := Br8.frz 4
  have rd4 := Bo8.cell 4 rfl
  have rs5 := Br8.cell 5 rfl
  have rf5 := Br8.frz 5
  have rd5 := Bo8.cell 5 rfl
  have rs6 := Br8.cell 6 rfl
  have rf6 := Br8.frz 6
  have rd6 := Bo8.cell 6 rfl
  have rs7 := Br8.cell 7 rfl
  have rf7 := Br8.frz 7
  have rd7 := Bo8.cell 7 rfl
  have rs8 := Br8.cell 8 rfl
  have rf8 := Br8.frz 8
  have rd8 := Bo8.cell 8 rfl
  rw [rounds_succ]
  go_wp2_with fail
  (try simp only [Exit.inBlock, Exit.then]); refine bodyPost_ret (by simp [results, Try.results120, go_sem, *]; try rfl) rfl ?_
  exact ⟨rfl, by (repeat' (first | (with_reducible exact Below.refl _ _) | (with_reducible assumption) | (with_reducible refine Below.alloc ?_ ?_ _) | (with_reducible refine Below.drew ?_) | (with_reducible refine below_drewN ?_ _) | (with_reducible refine Below.setCell ?_ ?_ _) | (refine Below.step ?_ (by with_reducible assumption) ?_) | go_size))⟩
end Go.Proofs.Ytemimkbngfbomaa
