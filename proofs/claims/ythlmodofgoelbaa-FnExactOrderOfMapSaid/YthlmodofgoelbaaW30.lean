/- Products of maps: the reference's steps and the exported functions; p is a prime where it says so. -/
import Derived.Test.YthlmodofgoelbaaW29
namespace Go.Proofs.Ythlmodofgoelbaa
open Go.RowKit
set_option linter.unusedSimpArgs false
set_option linter.unusedVariables false
set_option maxRecDepth 100000

theorem wsm {x : Int} (h1 : 0 ≤ x) (h2 : x ≤ 1000) : IntKind.i64.wrap x = x := by go_arith
theorem dotw (p : Int) {a0 a1 a2 b0 b1 b2 : Int} (h0 : sm a0) (h1 : sm a1) (h2 : sm a2) (g0 : sm b0) (g1 : sm b1) (g2 : sm b2) :
    IntKind.i64.wrap (a0 * b0) = a0 * b0 ∧ IntKind.i64.wrap (a1 * b1) = a1 * b1 ∧ IntKind.i64.wrap (a2 * b2) = a2 * b2 ∧ IntKind.i64.wrap (a0 * b0 + a1 * b1) = a0 * b0 + a1 * b1 ∧
    IntKind.i64.wrap (a0 * b0 + a1 * b1 + a2 * b2) = a0 * b0 + a1 * b1 + a2 * b2 ∧ (a0 * b0 + a1 * b1 + a2 * b2).tmod p = (a0 * b0 + a1 * b1 + a2 * b2) % p := by
  obtain ⟨l0, u0⟩ := h0; obtain ⟨l1, u1⟩ := h1; obtain ⟨l2, u2⟩ := h2; obtain ⟨c0, d0⟩ := g0; obtain ⟨c1, d1⟩ := g1; obtain ⟨c2, d2⟩ := g2
  have ⟨e0, f0⟩ := mul_bd (a := a0) (b := b0) (A := 12) (B := 12) (by omega) (by omega) (by omega) (by omega)
  have ⟨e1, f1⟩ := mul_bd (a := a1) (b := b1) (A := 12) (B := 12) (by omega) (by omega) (by omega) (by omega)
  have ⟨e2, f2⟩ := mul_bd (a := a2) (b := b2) (A := 12) (B := 12) (by omega) (by omega) (by omega) (by omega)
  exact ⟨wsm (by omega) (by omega), wsm (by omega) (by omega), wsm (by omega) (by omega), wsm (by omega) (by omega), wsm (by omega) (by omega), Int.tmod_eq_emod_of_nonneg (by omega)⟩
set_option maxHeartbeats 16000000 in
theorem l02Times_any (p m0 m1 m2 m3 m4 m5 m6 m7 m8 n0 n1 n2 n3 n4 n5 n6 n7 n8 : Int) (w : World) (hp : isP p = true) (sm0 : sm m0) (sm1 : sm m1) (sm2 : sm m2) (sm3 : sm m3) (sm4 : sm m4) (sm5 : sm m5) (sm6 : sm m6) (sm7 : sm m7) (sm8 : sm m8) (sn0 : sm n0) (sn1 : sm n1) (sn2 : sm n2) (sn3 : sm n3) (sn4 : sm n4) (sn5 : sm n5) (sn6 : sm n6) (sn7 : sm n7) (sn8 : sm n8) :
    Calls Try.prog 54 #[.int .i64 p, .agg #[.int .i64 m0, .int .i64 m1, .int .i64 m2, .int .i64 m3, .int .i64 m4, .int .i64 m5, .int .i64 m6, .int .i64 m7, .int .i64 m8], .agg #[.int .i64 n0, .int .i64 n1, .int .i64 n2, .int .i64 n3, .int .i64 n4, .int .i64 n5, .int .i64 n6, .int .i64 n7, .int .i64 n8]] w fun e w' => e = .returned (.agg #[.int .i64 (tmM p ⟨m0, m1, m2, m3, m4, m5, m6, m7, m8⟩ ⟨n0, n1, n2, n3, n4, n5, n6, n7, n8⟩).m0, .int .i64 (tmM p ⟨m0, m1, m2, m3, m4, m5, m6, m7, m8⟩ ⟨n0, n1, n2, n3, n4, n5, n6, n7, n8⟩).m1, .int .i64 (tmM p ⟨m0, m1, m2, m3, m4, m5, m6, m7, m8⟩ ⟨n0, n1, n2, n3, n4, n5, n6, n7, n8⟩).m2, .int .i64 (tmM p ⟨m0, m1, m2, m3, m4, m5, m6, m7, m8⟩ ⟨n0, n1, n2, n3, n4, n5, n6, n7, n8⟩).m3, .int .i64 (tmM p ⟨m0, m1, m2, m3, m4, m5, m6, m7, m8⟩ ⟨n0, n1, n2, n3, n4, n5, n6, n7, n8⟩).m4, .int .i64 (tmM p ⟨m0, m1, m2, m3, m4, m5, m6, m7, m8⟩ ⟨n0, n1, n2, n3, n4, n5, n6, n7, n8⟩).m5, .int .i64 (tmM p ⟨m0, m1, m2, m3, m4, m5, m6, m7, m8⟩ ⟨n0, n1, n2, n3, n4, n5, n6, n7, n8⟩).m6, .int .i64 (tmM p ⟨m0, m1, m2, m3, m4, m5, m6, m7, m8⟩ ⟨n0, n1, n2, n3, n4, n5, n6, n7, n8⟩).m7, .int .i64 (tmM p ⟨m0, m1, m2, m3, m4, m5, m6, m7, m8⟩ ⟨n0, n1, n2, n3, n4, n5, n6, n7, n8⟩).m8]) ∧ Below w.heap.size w w' := by
  have HP := Lib.hid hp
  have k1 := isP_lo hp
  have k2 := isP_hi hp
  have hp0 : ¬ p = 0 := by omega
  clear hp k1 k2
  obtain ⟨d0, hd0⟩ : ∃ d : Int, Hid (d = (m0 * n0 + m1 * n3 + m2 * n6) % p) := ⟨_, rfl⟩
  obtain ⟨d1, hd1⟩ : ∃ d : Int, Hid (d = (m0 * n1 + m1 * n4 + m2 * n7) % p) := ⟨_, rfl⟩
  obtain ⟨d2, hd2⟩ : ∃ d : Int, Hid (d = (m0 * n2 + m1 * n5 + m2 * n8) % p) := ⟨_, rfl⟩
  obtain ⟨d3, hd3⟩ : ∃ d : Int, Hid (d = (m3 * n0 + m4 * n3 + m5 * n6) % p) := ⟨_, rfl⟩
  obtain ⟨d4, hd4⟩ : ∃ d : Int, Hid (d = (m3 * n1 + m4 * n4 + m5 * n7) % p) := ⟨_, rfl⟩
  obtain ⟨d5, hd5⟩ : ∃ d : Int, Hid (d = (m3 * n2 + m4 * n5 + m5 * n8) % p) := ⟨_, rfl⟩
  obtain ⟨d6, hd6⟩ : ∃ d : Int, Hid (d = (m6 * n0 + m7 * n3 + m8 * n6) % p) := ⟨_, rfl⟩
  obtain ⟨d7, hd7⟩ : ∃ d : Int, Hid (d = (m6 * n1 + m7 * n4 + m8 * n7) % p) := ⟨_, rfl⟩
  obtain ⟨d8, hd8⟩ : ∃ d : Int, Hid (d = (m6 * n2 + m7 * n5 + m8 * n8) % p) := ⟨_, rfl⟩
  have hE : Hid (prM p ⟨m0, m1, m2, m3, m4, m5, m6, m7, m8⟩ ⟨n0, n1, n2, n3, n4, n5, n6, n7, n8⟩ = ⟨d0, d1, d2, d3, d4, d5, d6, d7, d8⟩) := by show _ = _; unfold prM dot3; rw [hd0.out, hd1.out, hd2.out, hd3.out, hd4.out, hd5.out, hd6.out, hd7.out, hd8.out]
  go_enter Try.func54, Try.ntmps54
  go_wp2_with fail
  refine wp_name (fun w' => Box 24 w' (w.heap.size) [m0, m1, m2, m3, m4, m5, m6, m7, m8] ∧ Box 24 w' (w.heap.size + 1) [n0, n1, n2, n3, n4, n5, n6, n7, n8] ∧ Box 24 w' (w.heap.size + 1 + 1) [0, 0, 0, 0, 0, 0, 0, 0, 0] ∧ Box 24 w' (w.heap.size + 1 + 1 + 1) [0, 0, 0, 0, 0, 0, 0, 0, 0] ∧ Below w.heap.size w w') ⟨Box.alloc (Box.alloc (Box.alloc (Box.new [m0, m1, m2, m3, m4, m5, m6, m7, m8] (by simp)) _) _) _, Box.alloc (Box.alloc (Box.new [n0, n1, n2, n3, n4, n5, n6, n7, n8] (by simp)) _) _, Box.alloc (Box.new [0, 0, 0, 0, 0, 0, 0, 0, 0] (by simp)) _, Box.new [0, 0, 0, 0, 0, 0, 0, 0, 0] (by simp), by (repeat' (first | (with_reducible exact Below.refl _ _) | (with_reducible assumption) | (with_reducible refine Below.alloc ?_ ?_ _) | (with_reducible refine Below.drew ?_) | (with_reducible refine below_drewN ?_ _) | (with_reducible refine Below.setCell ?_ ?_ _) | (refine Below.step ?_ (by with_reducible assumption) ?_) | go_size))⟩ ?_
  rintro wq0 ⟨Bm0, Bn0, Br0, Bo0, hB0⟩
  have hz0 := hB0.size
  have ltm0 := Bm0.lt
  have ltn0 := Bn0.lt
  have ltr0 := Br0.lt
  have lto0 := Bo0.lt
  refine wp_loop_rounds 4 ?_
  rw [rounds_succ]
  go_wp2_with fail
  refine wp_loop_rounds 4 ?_
  obtain ⟨hw0, hw1, hw2, hw3, hw4, htm'⟩ := dotw p sm0 sm1 sm2 sn0 sn3 sn6
  have htm : (m0 * n0 + m1 * n3 + m2 * n6).tmod p = d0 := by rw [htm']; exact hd0.out.symm
  clear htm'
  rw [rounds_succ]
  go_wp2_with fail
  refine wp_loop_rounds 4 ?_
  rw [rounds_succ]
  go_wp2_with fail
  have rd0 := Bm0.cell 0 rfl
  have rd1 := Bn0.cell 0 rfl
  refine wp_region_still_tail 12 (by kernel_rfl) (by kernel_rfl) ?_
  simp only [List.take_succ_cons, List.take_zero, List.drop_succ_cons, List.drop_zero]
  repeat still_step
  try refine wpStill_nil ?_
  change wpList _ _ _ _ _ wq0.drew
  clear rd0 rd1
  go_wp2_with fail
  rw [rounds_succ]
  go_wp2_with fail
  refine wp_name (fun w' => Box 24 w' (w.heap.size) [m0, m1, m2, m3, m4, m5, m6, m7, m8] ∧ Box 24 w' (w.heap.size + 1) [n0, n1, n2, n3, n4, n5, n6, n7, n8] ∧ Box 24 w' (w.heap.size + 1 + 1) [0, 0, 0, 0, 0, 0, 0, 0, 0] ∧ Box 24 w' (w.heap.size + 1 + 1 + 1) [0, 0, 0, 0, 0, 0, 0, 0, 0] ∧ Below w.heap.size w w') ⟨Box.drew Bm0, Box.drew Bn0, Box.drew Br0, Box.drew Bo0, hB0.drew⟩ ?_
  rintro wq1 ⟨Bm1, Bn1, Br1, Bo1, hB1⟩
  clear Bm0 Bn0 Br0 Bo0 hB0 ltm0 ltn0 ltr0 lto0 hz0
  have hz1 := hB1.size
  have ltm1 := Bm1.lt
  have ltn1 := Bn1.lt
  have ltr1 := Br1.lt
  have lto1 := Bo1.lt
  have rd0 := Bm1.cell 1 rfl
  have rd1 := Bn1.cell 3 rfl
  refine wp_region_still_tail 12 (by kernel_rfl) (by kernel_rfl) ?_
  simp only [List.take_succ_cons, List.take_zero, List.drop_succ_cons, List.drop_zero]
  repeat still_step
  try refine wpStill_nil ?_
  change wpList _ _ _ _ _ wq1.drew
  clear rd0 rd1
  go_wp2_with fail
  rw [rounds_succ]
  go_wp2_with fail
  refine wp_name (fun w' => Box 24 w' (w.heap.size) [m0, m1, m2, m3, m4, m5, m6, m7, m8] ∧ Box 24 w' (w.heap.size + 1) [n0, n1, n2, n3, n4, n5, n6, n7, n8] ∧ Box 24 w' (w.heap.size + 1 + 1) [0, 0, 0, 0, 0, 0, 0, 0, 0] ∧ Box 24 w' (w.heap.size + 1 + 1 + 1) [0, 0, 0, 0, 0, 0, 0, 0, 0] ∧ Below w.heap.size w w') ⟨Box.drew Bm1, Box.drew Bn1, Box.drew Br1, Box.drew Bo1, hB1.drew⟩ ?_
  rintro wq2 ⟨Bm2, Bn2, Br2, Bo2, hB2⟩
  clear Bm1 Bn1 Br1 Bo1 hB1 ltm1 ltn1 ltr1 lto1 hz1
  have hz2 := hB2.size
  have ltm2 := Bm2.lt
  have ltn2 := Bn2.lt
  have ltr2 := Br2.lt
  have lto2 := Bo2.lt
  have rd0 := Bm2.cell 2 rfl
  have rd1 := Bn2.cell 6 rfl
  refine wp_region_still_tail 12 (by kernel_rfl) (by kernel_rfl) ?_
  simp only [List.take_succ_cons, List.take_zero, List.drop_succ_cons, List.drop_zero]
  repeat still_step
  try refine wpStill_nil ?_
  change wpList _ _ _ _ _ wq2.drew
  clear rd0 rd1
  go_wp2_with fail
  rw [rounds_succ]
  go_wp2_with fail
  refine wp_name (fun w' => Box 24 w' (w.heap.size) [m0, m1, m2, m3, m4, m5, m6, m7, m8] ∧ Box 24 w' (w.heap.size + 1) [n0, n1, n2, n3, n4, n5, n6, n7, n8] ∧ Box 24 w' (w.heap.size + 1 + 1) [0, 0, 0, 0, 0, 0, 0, 0, 0] ∧ Box 24 w' (w.heap.size + 1 + 1 + 1) [0, 0, 0, 0, 0, 0, 0, 0, 0] ∧ Below w.heap.size w w') ⟨Box.drew Bm2, Box.drew Bn2, Box.drew Br2, Box.drew Bo2, hB2.drew⟩ ?_
  rintro wq3 ⟨Bm3, Bn3, Br3, Bo3, hB3⟩
  clear Bm2 Bn2 Br2 Bo2 hB2 ltm2 ltn2 ltr2 lto2 hz2
  have hz3 := hB3.size
  have ltm3 := Bm3.lt
  have ltn3 := Bn3.lt
  have ltr3 := Br3.lt
  have lto3 := Bo3.lt
  refine wp_region_still_tail 6 (by kernel_rfl) (by kernel_rfl) ?_
  simp only [List.take_succ_cons, List.take_zero, List.drop_succ_cons, List.drop_zero]
  repeat still_step
  try refine wpStill_nil ?_
  change wpList _ _ _ _ _ wq3.drew
  have st := (Box.drew Bo3).cell 0 rfl
  have sf := (Box.drew Bo3).frz 0
  go_wp2_with fail
  clear htm hw0 hw1 hw2 hw3 hw4
  obtain ⟨hw0, hw1, hw2, hw3, hw4, htm'⟩ := dotw p sm0 sm1 sm2 sn1 sn4 sn7
  have htm : (m0 * n1 + m1 * n4 + m2 * n7).tmod p = d1 := by rw [htm']; exact hd1.out.symm
  clear htm'
  rw [rounds_succ]
  go_wp2_with fail
  refine wp_loop_rounds 4 ?_
  rw [rounds_succ]
  go_wp2_with fail
  refine wp_name (fun w' => Box 24 w' (w.heap.size) [m0, m1, m2, m3, m4, m5, m6, m7, m8] ∧ Box 24 w' (w.heap.size + 1) [n0, n1, n2, n3, n4, n5, n6, n7, n8] ∧ Box 24 w' (w.heap.size + 1 + 1) [0, 0, 0, 0, 0, 0, 0, 0, 0] ∧ Box 24 w' (w.heap.size + 1 + 1 + 1) [d0, 0, 0, 0, 0, 0, 0, 0, 0] ∧ Below w.heap.size w w') ⟨Box.far (Box.drew Bm3) (by omega), Box.far (Box.drew Bn3) (by omega), Box.far (Box.drew Br3) (by omega), (Box.set (Box.drew Bo3) 0 (d0)).cast rfl, Below.setCell (p := ⟨w.heap.size + 1 + 1 + 1, 0, none⟩) hB3.drew (by simp only []; omega) _⟩ ?_
  rintro wq4 ⟨Bm4, Bn4, Br4, Bo4, hB4⟩
  clear st sf Bm3 Bn3 Br3 Bo3 hB3 ltm3 ltn3 ltr3 lto3 hz3
  have hz4 := hB4.size
  have ltm4 := Bm4.lt
  have ltn4 := Bn4.lt
  have ltr4 := Br4.lt
  have lto4 := Bo4.lt
  have rd0 := Bm4.cell 0 rfl
  have rd1 := Bn4.cell 1 rfl
  refine wp_region_still_tail 12 (by kernel_rfl) (by kernel_rfl) ?_
  simp only [List.take_succ_cons, List.take_zero, List.drop_succ_cons, List.drop_zero]
  repeat still_step
  try refine wpStill_nil ?_
  change wpList _ _ _ _ _ wq4.drew
  clear rd0 rd1
  go_wp2_with fail
  rw [rounds_succ]
  go_wp2_with fail
  refine wp_name (fun w' => Box 24 w' (w.heap.size) [m0, m1, m2, m3, m4, m5, m6, m7, m8] ∧ Box 24 w' (w.heap.size + 1) [n0, n1, n2, n3, n4, n5, n6, n7, n8] ∧ Box 24 w' (w.heap.size + 1 + 1) [0, 0, 0, 0, 0, 0, 0, 0, 0] ∧ Box 24 w' (w.heap.size + 1 + 1 + 1) [d0, 0, 0, 0, 0, 0, 0, 0, 0] ∧ Below w.heap.size w w') ⟨Box.drew Bm4, Box.drew Bn4, Box.drew Br4, Box.drew Bo4, hB4.drew⟩ ?_
  rintro wq5 ⟨Bm5, Bn5, Br5, Bo5, hB5⟩
  clear Bm4 Bn4 Br4 Bo4 hB4 ltm4 ltn4 ltr4 lto4 hz4
  have hz5 := hB5.size
  have ltm5 := Bm5.lt
  have ltn5 := Bn5.lt
  have ltr5 := Br5.lt
  have lto5 := Bo5.lt
  have rd0 := Bm5.cell 1 rfl
  have rd1 := Bn5.cell 4 rfl
  refine wp_region_still_tail 12 (by kernel_rfl) (by kernel_rfl) ?_
  simp only [List.take_succ_cons, List.take_zero, List.drop_succ_cons, List.drop_zero]
  repeat still_step
  try refine wpStill_nil ?_
  change wpList _ _ _ _ _ wq5.drew
  clear rd0 rd1
  go_wp2_with fail
  rw [rounds_succ]
  go_wp2_with fail
  refine wp_name (fun w' => Box 24 w' (w.heap.size) [m0, m1, m2, m3, m4, m5, m6, m7, m8] ∧ Box 24 w' (w.heap.size + 1) [n0, n1, n2, n3, n4, n5, n6, n7, n8] ∧ Box 24 w' (w.heap.size + 1 + 1) [0, 0, 0, 0, 0, 0, 0, 0, 0] ∧ Box 24 w' (w.heap.size + 1 + 1 + 1) [d0, 0, 0, 0, 0, 0, 0, 0, 0] ∧ Below w.heap.size w w') ⟨Box.drew Bm5, Box.drew Bn5, Box.drew Br5, Box.drew Bo5, hB5.drew⟩ ?_
  rintro wq6 ⟨Bm6, Bn6, Br6, Bo6, hB6⟩
  clear Bm5 Bn5 Br5 Bo5 hB5 ltm5 ltn5 ltr5 lto5 hz5
  have hz6 := hB6.size
  have ltm6 := Bm6.lt
  have ltn6 := Bn6.lt
  have ltr6 := Br6.lt
  have lto6 := Bo6.lt
  have rd0 := Bm6.cell 2 rfl
  have rd1 := Bn6.cell 7 rfl
  refine wp_region_still_tail 12 (by kernel_rfl) (by kernel_rfl) ?_
  simp only [List.take_succ_cons, List.take_zero, List.drop_succ_cons, List.drop_zero]
  repeat still_step
  try refine wpStill_nil ?_
  change wpList _ _ _ _ _ wq6.drew
  clear rd0 rd1
  go_wp2_with fail
  rw [rounds_succ]
  go_wp2_with fail
  refine wp_name (fun w' => Box 24 w' (w.heap.size) [m0, m1, m2, m3, m4, m5, m6, m7, m8] ∧ Box 24 w' (w.heap.size + 1) [n0, n1, n2, n3, n4, n5, n6, n7, n8] ∧ Box 24 w' (w.heap.size + 1 + 1) [0, 0, 0, 0, 0, 0, 0, 0, 0] ∧ Box 24 w' (w.heap.size + 1 + 1 + 1) [d0, 0, 0, 0, 0, 0, 0, 0, 0] ∧ Below w.heap.size w w') ⟨Box.drew Bm6, Box.drew Bn6, Box.drew Br6, Box.drew Bo6, hB6.drew⟩ ?_
  rintro wq7 ⟨Bm7, Bn7, Br7, Bo7, hB7⟩
  clear Bm6 Bn6 Br6 Bo6 hB6 ltm6 ltn6 ltr6 lto6 hz6
  have hz7 := hB7.size
  have ltm7 := Bm7.lt
  have ltn7 := Bn7.lt
  have ltr7 := Br7.lt
  have lto7 := Bo7.lt
  refine wp_region_still_tail 6 (by kernel_rfl) (by kernel_rfl) ?_
  simp only [List.take_succ_cons, List.take_zero, List.drop_succ_cons, List.drop_zero]
  repeat still_step
  try refine wpStill_nil ?_
  change wpList _ _ _ _ _ wq7.drew
  have st := (Box.drew Bo7).cell 1 rfl
  have sf := (Box.drew Bo7).frz 1
  go_wp2_with fail
  clear htm hw0 hw1 hw2 hw3 hw4
  obtain ⟨hw0, hw1, hw2, hw3, hw4, htm'⟩ := dotw p sm0 sm1 sm2 sn2 sn5 sn8
  have htm : (m0 * n2 + m1 * n5 + m2 * n8).tmod p = d2 := by rw [htm']; exact hd2.out.symm
  clear htm'
  rw [rounds_succ]
  go_wp2_with fail
  refine wp_loop_rounds 4 ?_
  rw [rounds_succ]
  go_wp2_with fail
  refine wp_name (fun w' => Box 24 w' (w.heap.size) [m0, m1, m2, m3, m4, m5, m6, m7, m8] ∧ Box 24 w' (w.heap.size + 1) [n0, n1, n2, n3, n4, n5, n6, n7, n8] ∧ Box 24 w' (w.heap.size + 1 + 1) [0, 0, 0, 0, 0, 0, 0, 0, 0] ∧ Box 24 w' (w.heap.size + 1 + 1 + 1) [d0, d1, 0, 0, 0, 0, 0, 0, 0] ∧ Below w.heap.size w w') ⟨Box.far (Box.drew Bm7) (by omega), Box.far (Box.drew Bn7) (by omega), Box.far (Box.drew Br7) (by omega), (Box.set (Box.drew Bo7) 1 (d1)).cast rfl, Below.setCell (p := ⟨w.heap.size + 1 + 1 + 1, 1, none⟩) hB7.drew (by simp only []; omega) _⟩ ?_
  rintro wq8 ⟨Bm8, Bn8, Br8, Bo8, hB8⟩
  clear st sf Bm7 Bn7 Br7 Bo7 hB7 ltm7 ltn7 ltr7 lto7 hz7
  have hz8 := hB8.size
  have ltm8 := Bm8.lt
  have ltn8 := Bn8.lt
  have ltr8 := Br8.lt
  have lto8 := Bo8.lt
  have rd0 := Bm8.cell 0 rfl
  have rd1 := Bn8.cell 2 rfl
  refine wp_region_still_tail 12 (by kernel_rfl) (by kernel_rfl) ?_
  simp only [List.take_succ_cons, List.take_zero, List.drop_succ_cons, List.drop_zero]
  repeat still_step
  try refine wpStill_nil ?_
  change wpList _ _ _ _ _ wq8.drew
  clear rd0 rd1
  go_wp2_with fail
  rw [rounds_succ]
  go_wp2_with fail
  refine wp_name (fun w' => Box 24 w' (w.heap.size) [m0, m1, m2, m3, m4, m5, m6, m7, m8] ∧ Box 24 w' (w.heap.size + 1) [n0, n1, n2, n3, n4, n5, n6, n7, n8] ∧ Box 24 w' (w.heap.size + 1 + 1) [0, 0, 0, 0, 0, 0, 0, 0, 0] ∧ Box 24 w' (w.heap.size + 1 + 1 + 1) [d0, d1, 0, 0, 0, 0, 0, 0, 0] ∧ Below w.heap.size w w') ⟨Box.drew Bm8, Box.drew Bn8, Box.drew Br8, Box.drew Bo8, hB8.drew⟩ ?_
  rintro wq9 ⟨Bm9, Bn9, Br9, Bo9, hB9⟩
  clear Bm8 Bn8 Br8 Bo8 hB8 ltm8 ltn8 ltr8 lto8 hz8
  have hz9 := hB9.size
  have ltm9 := Bm9.lt
  have ltn9 := Bn9.lt
  have ltr9 := Br9.lt
  have lto9 := Bo9.lt
  have rd0 := Bm9.cell 1 rfl
  have rd1 := Bn9.cell 5 rfl
  refine wp_region_still_tail 12 (by kernel_rfl) (by kernel_rfl) ?_
  simp only [List.take_succ_cons, List.take_zero, List.drop_succ_cons, List.drop_zero]
  repeat still_step
  try refine wpStill_nil ?_
  change wpList _ _ _ _ _ wq9.drew
  clear rd0 rd1
  go_wp2_with fail
  rw [rounds_succ]
  go_wp2_with fail
  refine wp_name (fun w' => Box 24 w' (w.heap.size) [m0, m1, m2, m3, m4, m5, m6, m7, m8] ∧ Box 24 w' (w.heap.size + 1) [n0, n1, n2, n3, n4, n5, n6, n7, n8] ∧ Box 24 w' (w.heap.size + 1 + 1) [0, 0, 0, 0, 0, 0, 0, 0, 0] ∧ Box 24 w' (w.heap.size + 1 + 1 + 1) [d0, d1, 0, 0, 0, 0, 0, 0, 0] ∧ Below w.heap.size w w') ⟨Box.drew Bm9, Box.drew Bn9, Box.drew Br9, Box.drew Bo9, hB9.drew⟩ ?_
  rintro wq10 ⟨Bm10, Bn10, Br10, Bo10, hB10⟩
  clear Bm9 Bn9 Br9 Bo9 hB9 ltm9 ltn9 ltr9 lto9 hz9
  have hz10 := hB10.size
  have ltm10 := Bm10.lt
  have ltn10 := Bn10.lt
  have ltr10 := Br10.lt
  have lto10 := Bo10.lt
  have rd0 := Bm10.cell 2 rfl
  have rd1 := Bn10.cell 8 rfl
  refine wp_region_still_tail 12 (by kernel_rfl) (by kernel_rfl) ?_
  simp only [List.take_succ_cons, List.take_zero, List.drop_succ_cons, List.drop_zero]
  repeat still_step
  try refine wpStill_nil ?_
  change wpList _ _ _ _ _ wq10.drew
  clear rd0 rd1
  go_wp2_with fail
  rw [rounds_succ]
  go_wp2_with fail
  refine wp_name (fun w' => Box 24 w' (w.heap.size) [m0, m1, m2, m3, m4, m5, m6, m7, m8] ∧ Box 24 w' (w.heap.size + 1) [n0, n1, n2, n3, n4, n5, n6, n7, n8] ∧ Box 24 w' (w.heap.size + 1 + 1) [0, 0, 0, 0, 0, 0, 0, 0, 0] ∧ Box 24 w' (w.heap.size + 1 + 1 + 1) [d0, d1, 0, 0, 0, 0, 0, 0, 0] ∧ Below w.heap.size w w') ⟨Box.drew Bm10, Box.drew Bn10, Box.drew Br10, Box.drew Bo10, hB10.drew⟩ ?_
  rintro wq11 ⟨Bm11, Bn11, Br11, Bo11, hB11⟩
  clear Bm10 Bn10 Br10 Bo10 hB10 ltm10 ltn10 ltr10 lto10 hz10
  have hz11 := hB11.size
  have ltm11 := Bm11.lt
  have ltn11 := Bn11.lt
  have ltr11 := Br11.lt
  have lto11 := Bo11.lt
  refine wp_region_still_tail 6 (by kernel_rfl) (by kernel_rfl) ?_
  simp only [List.take_succ_cons, List.take_zero, List.drop_succ_cons, List.drop_zero]
  repeat still_step
  try refine wpStill_nil ?_
  change wpList _ _ _ _ _ wq11.drew
  have st := (Box.drew Bo11).cell 2 rfl
  have sf := (Box.drew Bo11).frz 2
  go_wp2_with fail
  clear htm hw0 hw1 hw2 hw3 hw4
  rw [rounds_succ]
  go_wp2_with fail
  rw [rounds_succ]
  go_wp2_with fail
  refine wp_loop_rounds 4 ?_
  obtain ⟨hw0, hw1, hw2, hw3, hw4, htm'⟩ := dotw p sm3 sm4 sm5 sn0 sn3 sn6
  have htm : (m3 * n0 + m4 * n3 + m5 * n6).tmod p = d3 := by rw [htm']; exact hd3.out.symm
  clear htm'
  rw [rounds_succ]
  go_wp2_with fail
  refine wp_loop_rounds 4 ?_
  rw [rounds_succ]
  go_wp2_with fail
  refine wp_name (fun w' => Box 24 w' (w.heap.size) [m0, m1, m2, m3, m4, m5, m6, m7, m8] ∧ Box 24 w' (w.heap.size + 1) [n0, n1, n2, n3, n4, n5, n6, n7, n8] ∧ Box 24 w' (w.heap.size + 1 + 1) [0, 0, 0, 0, 0, 0, 0, 0, 0] ∧ Box 24 w' (w.heap.size + 1 + 1 + 1) [d0, d1, d2, 0, 0, 0, 0, 0, 0] ∧ Below w.heap.size w w') ⟨Box.far (Box.drew Bm11) (by omega), Box.far (Box.drew Bn11) (by omega), Box.far (Box.drew Br11) (by omega), (Box.set (Box.drew Bo11) 2 (d2)).cast rfl, Below.setCell (p := ⟨w.heap.size + 1 + 1 + 1, 2, none⟩) hB11.drew (by simp only []; omega) _⟩ ?_
  rintro wq12 ⟨Bm12, Bn12, Br12, Bo12, hB12⟩
  clear st sf Bm11 Bn11 Br11 Bo11 hB11 ltm11 ltn11 ltr11 lto11 hz11
  have hz12 := hB12.size
  have ltm12 := Bm12.lt
  have ltn12 := Bn12.lt
  have ltr12 := Br12.lt
  have lto12 := Bo12.lt
  have rd0 := Bm12.cell 3 rfl
  have rd1 := Bn12.cell 0 rfl
  refine wp_region_still_tail 12 (by kernel_rfl) (by kernel_rfl) ?_
  simp only [List.take_succ_cons, List.take_zero, List.drop_succ_cons, List.drop_zero]
  repeat still_step
  try refine wpStill_nil ?_
  change wpList _ _ _ _ _ wq12.drew
  clear rd0 rd1
  go_wp2_with fail
  rw [rounds_succ]
  go_wp2_with fail
  refine wp_name (fun w' => Box 24 w' (w.heap.size) [m0, m1, m2, m3, m4, m5, m6, m7, m8] ∧ Box 24 w' (w.heap.size + 1) [n0, n1, n2, n3, n4, n5, n6, n7, n8] ∧ Box 24 w' (w.heap.size + 1 + 1) [0, 0, 0, 0, 0, 0, 0, 0, 0] ∧ Box 24 w' (w.heap.size + 1 + 1 + 1) [d0, d1, d2, 0, 0, 0, 0, 0, 0] ∧ Below w.heap.size w w') ⟨Box.drew Bm12, Box.drew Bn12, Box.drew Br12, Box.drew Bo12, hB12.drew⟩ ?_
  rintro wq13 ⟨Bm13, Bn13, Br13, Bo13, hB13⟩
  clear Bm12 Bn12 Br12 Bo12 hB12 ltm12 ltn12 ltr12 lto12 hz12
  have hz13 := hB13.size
  have ltm13 := Bm13.lt
  have ltn13 := Bn13.lt
  have ltr13 := Br13.lt
  have lto13 := Bo13.lt
  have rd0 := Bm13.cell 4 rfl
  have rd1 := Bn13.cell 3 rfl
  refine wp_region_still_tail 12 (by kernel_rfl) (by kernel_rfl) ?_
  simp only [List.take_succ_cons, List.take_zero, List.drop_succ_cons, List.drop_zero]
  repeat still_step
  try refine wpStill_nil ?_
  change wpList _ _ _ _ _ wq13.drew
  clear rd0 rd1
  go_wp2_with fail
  rw [rounds_succ]
  go_wp2_with fail
  refine wp_name (fun w' => Box 24 w' (w.heap.size) [m0, m1, m2, m3, m4, m5, m6, m7, m8] ∧ Box 24 w' (w.heap.size + 1) [n0, n1, n2, n3, n4, n5, n6, n7, n8] ∧ Box 24 w' (w.heap.size + 1 + 1) [0, 0, 0, 0, 0, 0, 0, 0, 0] ∧ Box 24 w' (w.heap.size + 1 + 1 + 1) [d0, d1, d2, 0, 0, 0, 0, 0, 0] ∧ Below w.heap.size w w') ⟨Box.drew Bm13, Box.drew Bn13, Box.drew Br13, Box.drew Bo13, hB13.drew⟩ ?_
  rintro wq14 ⟨Bm14, Bn14, Br14, Bo14, hB14⟩
  clear Bm13 Bn13 Br13 Bo13 hB13 ltm13 ltn13 ltr13 lto13 hz13
  have hz14 := hB14.size
  have ltm14 := Bm14.lt
  have ltn14 := Bn14.lt
  have ltr14 := Br14.lt
  have lto14 := Bo14.lt
  have rd0 := Bm14.cell 5 rfl
  have rd1 := Bn14.cell 6 rfl
  refine wp_region_still_tail 12 (by kernel_rfl) (by kernel_rfl) ?_
  simp only [List.take_succ_cons, List.take_zero, List.drop_succ_cons, List.drop_zero]
  repeat still_step
  try refine wpStill_nil ?_
  change wpList _ _ _ _ _ wq14.drew
  clear rd0 rd1
  go_wp2_with fail
  rw [rounds_succ]
  go_wp2_with fail
  refine wp_name (fun w' => Box 24 w' (w.heap.size) [m0, m1, m2, m3, m4, m5, m6, m7, m8] ∧ Box 24 w' (w.heap.size + 1) [n0, n1, n2, n3, n4, n5, n6, n7, n8] ∧ Box 24 w' (w.heap.size + 1 + 1) [0, 0, 0, 0, 0, 0, 0, 0, 0] ∧ Box 24 w' (w.heap.size + 1 + 1 + 1) [d0, d1, d2, 0, 0, 0, 0, 0, 0] ∧ Below w.heap.size w w') ⟨Box.drew Bm14, Box.drew Bn14, Box.drew Br14, Box.drew Bo14, hB14.drew⟩ ?_
  rintro wq15 ⟨Bm15, Bn15, Br15, Bo15, hB15⟩
  clear Bm14 Bn14 Br14 Bo14 hB14 ltm14 ltn14 ltr14 lto14 hz14
  have hz15 := hB15.size
  have ltm15 := Bm15.lt
  have ltn15 := Bn15.lt
  have ltr15 := Br15.lt
  have lto15 := Bo15.lt
  refine wp_region_still_tail 6 (by kernel_rfl) (by kernel_rfl) ?_
  simp only [List.take_succ_cons, List.take_zero, List.drop_succ_cons, List.drop_zero]
  repeat still_step
  try refine wpStill_nil ?_
  change wpList _ _ _ _ _ wq15.drew
  have st := (Box.drew Bo15).cell 3 rfl
  have sf := (Box.drew Bo15).frz 3
  go_wp2_with fail
  clear htm hw0 hw1 hw2 hw3 hw4
  obtain ⟨hw0, hw1, hw2, hw3, hw4, htm'⟩ := dotw p sm3 sm4 sm5 sn1 sn4 sn7
  have htm : (m3 * n1 + m4 * n4 + m5 * n7).tmod p = d4 := by rw [htm']; exact hd4.out.symm
  clear htm'
  rw [rounds_succ]
  go_wp2_with fail
  refine wp_loop_rounds 4 ?_
  rw [rounds_succ]
  go_wp2_with fail
  refine wp_name (fun w' => Box 24 w' (w.heap.size) [m0, m1, m2, m3, m4, m5, m6, m7, m8] ∧ Box 24 w' (w.heap.size + 1) [n0, n1, n2, n3, n4, n5, n6, n7, n8] ∧ Box 24 w' (w.heap.size + 1 + 1) [0, 0, 0, 0, 0, 0, 0, 0, 0] ∧ Box 24 w' (w.heap.size + 1 + 1 + 1) [d0, d1, d2, d3, 0, 0, 0, 0, 0] ∧ Below w.heap.size w w') ⟨Box.far (Box.drew Bm15) (by omega), Box.far (Box.drew Bn15) (by omega), Box.far (Box.drew Br15) (by omega), (Box.set (Box.drew Bo15) 3 (d3)).cast rfl, Below.setCell (p := ⟨w.heap.size + 1 + 1 + 1, 3, none⟩) hB15.drew (by simp only []; omega) _⟩ ?_
  rintro wq16 ⟨Bm16, Bn16, Br16, Bo16, hB16⟩
  clear st sf Bm15 Bn15 Br15 Bo15 hB15 ltm15 ltn15 ltr15 lto15 hz15
  have hz16 := hB16.size
  have ltm16 := Bm16.lt
  have ltn16 := Bn16.lt
  have ltr16 := Br16.lt
  have lto16 := Bo16.lt
  have rd0 := Bm16.cell 3 rfl
  have rd1 := Bn16.cell 1 rfl
  refine wp_region_still_tail 12 (by kernel_rfl) (by kernel_rfl) ?_
  simp only [List.take_succ_cons, List.take_zero, List.drop_succ_cons, List.drop_zero]
  repeat still_step
  try refine wpStill_nil ?_
  change wpList _ _ _ _ _ wq16.drew
  clear rd0 rd1
  go_wp2_with fail
  rw [rounds_succ]
  go_wp2_with fail
  refine wp_name (fun w' => Box 24 w' (w.heap.size) [m0, m1, m2, m3, m4, m5, m6, m7, m8] ∧ Box 24 w' (w.heap.size + 1) [n0, n1, n2, n3, n4, n5, n6, n7, n8] ∧ Box 24 w' (w.heap.size + 1 + 1) [0, 0, 0, 0, 0, 0, 0, 0, 0] ∧ Box 24 w' (w.heap.size + 1 + 1 + 1) [d0, d1, d2, d3, 0, 0, 0, 0, 0] ∧ Below w.heap.size w w') ⟨Box.drew Bm16, Box.drew Bn16, Box.drew Br16, Box.drew Bo16, hB16.drew⟩ ?_
  rintro wq17 ⟨Bm17, Bn17, Br17, Bo17, hB17⟩
  clear Bm16 Bn16 Br16 Bo16 hB16 ltm16 ltn16 ltr16 lto16 hz16
  have hz17 := hB17.size
  have ltm17 := Bm17.lt
  have ltn17 := Bn17.lt
  have ltr17 := Br17.lt
  have lto17 := Bo17.lt
  have rd0 := Bm17.cell 4 rfl
  have rd1 := Bn17.cell 4 rfl
  refine wp_region_still_tail 12 (by kernel_rfl) (by kernel_rfl) ?_
  simp only [List.take_succ_cons, List.take_zero, List.drop_succ_cons, List.drop_zero]
  repeat still_step
  try refine wpStill_nil ?_
  change wpList _ _ _ _ _ wq17.drew
  clear rd0 rd1
  go_wp2_with fail
  rw [rounds_succ]
  go_wp2_with fail
  refine wp_name (fun w' => Box 24 w' (w.heap.size) [m0, m1, m2, m3, m4, m5, m6, m7, m8] ∧ Box 24 w' (w.heap.size + 1) [n0, n1, n2, n3, n4, n5, n6, n7, n8] ∧ Box 24 w' (w.heap.size + 1 + 1) [0, 0, 0, 0, 0, 0, 0, 0, 0] ∧ Box 24 w' (w.heap.size + 1 + 1 + 1) [d0, d1, d2, d3, 0, 0, 0, 0, 0] ∧ Below w.heap.size w w') ⟨Box.drew Bm17, Box.drew Bn17, Box.drew Br17, Box.drew Bo17, hB17.drew⟩ ?_
  rintro wq18 ⟨Bm18, Bn18, Br18, Bo18, hB18⟩
  clear Bm17 Bn17 Br17 Bo17 hB17 ltm17 ltn17 ltr17 lto17 hz17
  have hz18 := hB18.size
  have ltm18 := Bm18.lt
  have ltn18 := Bn18.lt
  have ltr18 := Br18.lt
  have lto18 := Bo18.lt
  have rd0 := Bm18.cell 5 rfl
  have rd1 := Bn18.cell 7 rfl
  refine wp_region_still_tail 12 (by kernel_rfl) (by kernel_rfl) ?_
  simp only [List.take_succ_cons, List.take_zero, List.drop_succ_cons, List.drop_zero]
  repeat still_step
  try refine wpStill_nil ?_
  change wpList _ _ _ _ _ wq18.drew
  clear rd0 rd1
  go_wp2_with fail
  rw [rounds_succ]
  go_wp2_with fail
  refine wp_name (fun w' => Box 24 w' (w.heap.size) [m0, m1, m2, m3, m4, m5, m6, m7, m8] ∧ Box 24 w' (w.heap.size + 1) [n0, n1, n2, n3, n4, n5, n6, n7, n8] ∧ Box 24 w' (w.heap.size + 1 + 1) [0, 0, 0, 0, 0, 0, 0, 0, 0] ∧ Box 24 w' (w.heap.size + 1 + 1 + 1) [d0, d1, d2, d3, 0, 0, 0, 0, 0] ∧ Below w.heap.size w w') ⟨Box.drew Bm18, Box.drew Bn18, Box.drew Br18, Box.drew Bo18, hB18.drew⟩ ?_
  rintro wq19 ⟨Bm19, Bn19, Br19, Bo19, hB19⟩
  clear Bm18 Bn18 Br18 Bo18 hB18 ltm18 ltn18 ltr18 lto18 hz18
  have hz19 := hB19.size
  have ltm19 := Bm19.lt
  have ltn19 := Bn19.lt
  have ltr19 := Br19.lt
  have lto19 := Bo19.lt
  refine wp_region_still_tail 6 (by kernel_rfl) (by kernel_rfl) ?_
  simp only [List.take_succ_cons, List.take_zero, List.drop_succ_cons, List.drop_zero]
  repeat still_step
  try refine wpStill_nil ?_
  change wpList _ _ _ _ _ wq19.drew
  have st := (Box.drew Bo19).cell 4 rfl
  have sf := (Box.drew Bo19).frz 4
  go_wp2_with fail
  clear htm hw0 hw1 hw2 hw3 hw4
  obtain ⟨hw0, hw1, hw2, hw3, hw4, htm'⟩ := dotw p sm3 sm4 sm5 sn2 sn5 sn8
  have htm : (m3 * n2 + m4 * n5 + m5 * n8).tmod p = d5 := by rw [htm']; exact hd5.out.symm
  clear htm'
  rw [rounds_succ]
  go_wp2_with fail
  refine wp_loop_rounds 4 ?_
  rw [rounds_succ]
  go_wp2_with fail
  refine wp_name (fun w' => Box 24 w' (w.heap.size) [m0, m1, m2, m3, m4, m5, m6, m7, m8] ∧ Box 24 w' (w.heap.size + 1) [n0, n1, n2, n3, n4, n5, n6, n7, n8] ∧ Box 24 w' (w.heap.size + 1 + 1) [0, 0, 0, 0, 0, 0, 0, 0, 0] ∧ Box 24 w' (w.heap.size + 1 + 1 + 1) [d0, d1, d2, d3, d4, 0, 0, 0, 0] ∧ Below w.heap.size w w') ⟨Box.far (Box.drew Bm19) (by omega), Box.far (Box.drew Bn19) (by omega), Box.far (Box.drew Br19) (by omega), (Box.set (Box.drew Bo19) 4 (d4)).cast rfl, Below.setCell (p := ⟨w.heap.size + 1 + 1 + 1, 4, none⟩) hB19.drew (by simp only []; omega) _⟩ ?_
  rintro wq20 ⟨Bm20, Bn20, Br20, Bo20, hB20⟩
  clear st sf Bm19 Bn19 Br19 Bo19 hB19 ltm19 ltn19 ltr19 lto19 hz19
  have hz20 := hB20.size
  have ltm20 := Bm20.lt
  have ltn20 := Bn20.lt
  have ltr20 := Br20.lt
  have lto20 := Bo20.lt
  have rd0 := Bm20.cell 3 rfl
  have rd1 := Bn20.cell 2 rfl
  refine wp_region_still_tail 12 (by kernel_rfl) (by kernel_rfl) ?_
  simp only [List.take_succ_cons, List.take_zero, List.drop_succ_cons, List.drop_zero]
  repeat still_step
  try refine wpStill_nil ?_
  change wpList _ _ _ _ _ wq20.drew
  clear rd0 rd1
  go_wp2_with fail
  rw [rounds_succ]
  go_wp2_with fail
  refine wp_name (fun w' => Box 24 w' (w.heap.size) [m0, m1, m2, m3, m4, m5, m6, m7, m8] ∧ Box 24 w' (w.heap.size + 1) [n0, n1, n2, n3, n4, n5, n6, n7, n8] ∧ Box 24 w' (w.heap.size + 1 + 1) [0, 0, 0, 0, 0, 0, 0, 0, 0] ∧ Box 24 w' (w.heap.size + 1 + 1 + 1) [d0, d1, d2, d3, d4, 0, 0, 0, 0] ∧ Below w.heap.size w w') ⟨Box.drew Bm20, Box.drew Bn20, Box.drew Br20, Box.drew Bo20, hB20.drew⟩ ?_
  rintro wq21 ⟨Bm21, Bn21, Br21, Bo21, hB21⟩
  clear Bm20 Bn20 Br20 Bo20 hB20 ltm20 ltn20 ltr20 lto20 hz20
  have hz21 := hB21.size
  have ltm21 := Bm21.lt
  have ltn21 := Bn21.lt
  have ltr21 := Br21.lt
  have lto21 := Bo21.lt
  have rd0 := Bm21.cell 4 rfl
  have rd1 := Bn21.cell 5 rfl
  refine wp_region_still_tail 12 (by kernel_rfl) (by kernel_rfl) ?_
  simp only [List.take_succ_cons, List.take_zero, List.drop_succ_cons, List.drop_zero]
  repeat still_step
  try refine wpStill_nil ?_
  change wpList _ _ _ _ _ wq21.drew
  clear rd0 rd1
  go_wp2_with fail
  rw [rounds_succ]
  go_wp2_with fail
  refine wp_name (fun w' => Box 24 w' (w.heap.size) [m0, m1, m2, m3, m4, m5, m6, m7, m8] ∧ Box 24 w' (w.heap.size + 1) [n0, n1, n2, n3, n4, n5, n6, n7, n8] ∧ Box 24 w' (w.heap.size + 1 + 1) [0, 0, 0, 0, 0, 0, 0, 0, 0] ∧ Box 24 w' (w.heap.size + 1 + 1 + 1) [d0, d1, d2, d3, d4, 0, 0, 0, 0] ∧ Below w.heap.size w w') ⟨Box.drew Bm21, Box.drew Bn21, Box.drew Br21, Box.drew Bo21, hB21.drew⟩ ?_
  rintro wq22 ⟨Bm22, Bn22, Br22, Bo22, hB22⟩
  clear Bm21 Bn21 Br21 Bo21 hB21 ltm21 ltn21 ltr21 lto21 hz21
  have hz22 := hB22.size
  have ltm22 := Bm22.lt
  have ltn22 := Bn22.lt
  have ltr22 := Br22.lt
  have lto22 := Bo22.lt
  have rd0 := Bm22.cell 5 rfl
  have rd1 := Bn22.cell 8 rfl
  refine wp_region_still_tail 12 (by kernel_rfl) (by kernel_rfl) ?_
  simp only [List.take_succ_cons, List.take_zero, List.drop_succ_cons, List.drop_zero]
  repeat still_step
  try refine wpStill_nil ?_
  change wpList _ _ _ _ _ wq22.drew
  clear rd0 rd1
  go_wp2_with fail
  rw [rounds_succ]
  go_wp2_with fail
  refine wp_name (fun w' => Box 24 w' (w.heap.size) [m0, m1, m2, m3, m4, m5, m6, m7, m8] ∧ Box 24 w' (w.heap.size + 1) [n0, n1, n2, n3, n4, n5, n6, n7, n8] ∧ Box 24 w' (w.heap.size + 1 + 1) [0, 0, 0, 0, 0, 0, 0, 0, 0] ∧ Box 24 w' (w.heap.size + 1 + 1 + 1) [d0, d1, d2, d3, d4, 0, 0, 0, 0] ∧ Below w.heap.size w w') ⟨Box.drew Bm22, Box.drew Bn22, Box.drew Br22, Box.drew Bo22, hB22.drew⟩ ?_
  rintro wq23 ⟨Bm23, Bn23, Br23, Bo23, hB23⟩
  clear Bm22 Bn22 Br22 Bo22 hB22 ltm22 ltn22 ltr22 lto22 hz22
  have hz23 := hB23.size
  have ltm23 := Bm23.lt
  have ltn23 := Bn23.lt
  have ltr23 := Br23.lt
  have lto23 := Bo23.lt
  refine wp_region_still_tail 6 (by kernel_rfl) (by kernel_rfl) ?_
  simp only [List.take_succ_cons, List.take_zero, List.drop_succ_cons, List.drop_zero]
  repeat still_step
  try refine wpStill_nil ?_
  change wpList _ _ _ _ _ wq23.drew
  have st := (Box.drew Bo23).cell 5 rfl
  have sf := (Box.drew Bo23).frz 5
  go_wp2_with fail
  clear htm hw0 hw1 hw2 hw3 hw4
  rw [rounds_succ]
  go_wp2_with fail
  rw [rounds_succ]
  go_wp2_with fail
  refine wp_loop_rounds 4 ?_
  obtain ⟨hw0, hw1, hw2, hw3, hw4, htm'⟩ := dotw p sm6 sm7 sm8 sn0 sn3 sn6
  have htm : (m6 * n0 + m7 * n3 + m8 * n6).tmod p = d6 := by rw [htm']; exact hd6.out.symm
  clear htm'
  rw [rounds_succ]
  go_wp2_with fail
  refine wp_loop_rounds 4 ?_
  rw [rounds_succ]
  go_wp2_with fail
  refine wp_name (fun w' => Box 24 w' (w.heap.size) [m0, m1, m2, m3, m4, m5, m6, m7, m8] ∧ Box 24 w' (w.heap.size + 1) [n0, n1, n2, n3, n4, n5, n6, n7, n8] ∧ Box 24 w' (w.heap.size + 1 + 1) [0, 0, 0, 0, 0, 0, 0, 0, 0] ∧ Box 24 w' (w.heap.size + 1 + 1 + 1) [d0, d1, d2, d3, d4, d5, 0, 0, 0] ∧ Below w.heap.size w w') ⟨Box.far (Box.drew Bm23) (by omega), Box.far (Box.drew Bn23) (by omega), Box.far (Box.drew Br23) (by omega), (Box.set (Box.drew Bo23) 5 (d5)).cast rfl, Below.setCell (p := ⟨w.heap.size + 1 + 1 + 1, 5, none⟩) hB23.drew (by simp only []; omega) _⟩ ?_
  rintro wq24 ⟨Bm24, Bn24, Br24, Bo24, hB24⟩
  clear st sf Bm23 Bn23 Br23 Bo23 hB23 ltm23 ltn23 ltr23 lto23 hz23
  have hz24 := hB24.size
  have ltm24 := Bm24.lt
  have ltn24 := Bn24.lt
  have ltr24 := Br24.lt
  have lto24 := Bo24.lt
  have rd0 := Bm24.cell 6 rfl
  have rd1 := Bn24.cell 0 rfl
  refine wp_region_still_tail 12 (by kernel_rfl) (by kernel_rfl) ?_
  simp only [List.take_succ_cons, List.take_zero, List.drop_succ_cons, List.drop_zero]
  repeat still_step
  try refine wpStill_nil ?_
  change wpList _ _ _ _ _ wq24.drew
  clear rd0 rd1
  go_wp2_with fail
  rw [rounds_succ]
  go_wp2_with fail
  refine wp_name (fun w' => Box 24 w' (w.heap.size) [m0, m1, m2, m3, m4, m5, m6, m7, m8] ∧ Box 24 w' (w.heap.size + 1) [n0, n1, n2, n3, n4, n5, n6, n7, n8] ∧ Box 24 w' (w.heap.size + 1 + 1) [0, 0, 0, 0, 0, 0, 0, 0, 0] ∧ Box 24 w' (w.heap.size + 1 + 1 + 1) [d0, d1, d2, d3, d4, d5, 0, 0, 0] ∧ Below w.heap.size w w') ⟨Box.drew Bm24, Box.drew Bn24, Box.drew Br24, Box.drew Bo24, hB24.drew⟩ ?_
  rintro wq25 ⟨Bm25, Bn25, Br25, Bo25, hB25⟩
  clear Bm24 Bn24 Br24 Bo24 hB24 ltm24 ltn24 ltr24 lto24 hz24
  have hz25 := hB25.size
  have ltm25 := Bm25.lt
  have ltn25 := Bn25.lt
  have ltr25 := Br25.lt
  have lto25 := Bo25.lt
  have rd0 := Bm25.cell 7 rfl
  have rd1 := Bn25.cell 3 rfl
  refine wp_region_still_tail 12 (by kernel_rfl) (by kernel_rfl) ?_
  simp only [List.take_succ_cons, List.take_zero, List.drop_succ_cons, List.drop_zero]
  repeat still_step
  try refine wpStill_nil ?_
  change wpList _ _ _ _ _ wq25.drew
  clear rd0 rd1
  go_wp2_with fail
  rw [rounds_succ]
  go_wp2_with fail
  refine wp_name (fun w' => Box 24 w' (w.heap.size) [m0, m1, m2, m3, m4, m5, m6, m7, m8] ∧ Box 24 w' (w.heap.size + 1) [n0, n1, n2, n3, n4, n5, n6, n7, n8] ∧ Box 24 w' (w.heap.size + 1 + 1) [0, 0, 0, 0, 0, 0, 0, 0, 0] ∧ Box 24 w' (w.heap.size + 1 + 1 + 1) [d0, d1, d2, d3, d4, d5, 0, 0, 0] ∧ Below w.heap.size w w') ⟨Box.drew Bm25, Box.drew Bn25, Box.drew Br25, Box.drew Bo25, hB25.drew⟩ ?_
  rintro wq26 ⟨Bm26, Bn26, Br26, Bo26, hB26⟩
  clear Bm25 Bn25 Br25 Bo25 hB25 ltm25 ltn25 ltr25 lto25 hz25
  have hz26 := hB26.size
  have ltm26 := Bm26.lt
  have ltn26 := Bn26.lt
  have ltr26 := Br26.lt
  have lto26 := Bo26.lt
  have rd0 := Bm26.cell 8 rfl
  have rd1 := Bn26.cell 6 rfl
  refine wp_region_still_tail 12 (by kernel_rfl) (by kernel_rfl) ?_
  simp only [List.take_succ_cons, List.take_zero, List.drop_succ_cons, List.drop_zero]
  repeat still_step
  try refine wpStill_nil ?_
  change wpList _ _ _ _ _ wq26.drew
  clear rd0 rd1
  go_wp2_with fail
  rw [rounds_succ]
  go_wp2_with fail
  refine wp_name (fun w' => Box 24 w' (w.heap.size) [m0, m1, m2, m3, m4, m5, m6, m7, m8] ∧ Box 24 w' (w.heap.size + 1) [n0, n1, n2, n3, n4, n5, n6, n7, n8] ∧ Box 24 w' (w.heap.size + 1 + 1) [0, 0, 0, 0, 0, 0, 0, 0, 0] ∧ Box 24 w' (w.heap.size + 1 + 1 + 1) [d0, d1, d2, d3, d4, d5, 0, 0, 0] ∧ Below w.heap.size w w') ⟨Box.drew Bm26, Box.drew Bn26, Box.drew Br26, Box.drew Bo26, hB26.drew⟩ ?_
  rintro wq27 ⟨Bm27, Bn27, Br27, Bo27, hB27⟩
  clear Bm26 Bn26 Br26 Bo26 hB26 ltm26 ltn26 ltr26 lto26 hz26
  have hz27 := hB27.size
  have ltm27 := Bm27.lt
  have ltn27 := Bn27.lt
  have ltr27 := Br27.lt
  have lto27 := Bo27.lt
  refine wp_region_still_tail 6 (by kernel_rfl) (by kernel_rfl) ?_
  simp only [List.take_succ_cons, List.take_zero, List.drop_succ_cons, List.drop_zero]
  repeat still_step
  try refine wpStill_nil ?_
  change wpList _ _ _ _ _ wq27.drew
  have st := (Box.drew Bo27).cell 6 rfl
  have sf := (Box.drew Bo27).frz 6
  go_wp2_with fail
  clear htm hw0 hw1 hw2 hw3 hw4
  obtain ⟨hw0, hw1, hw2, hw3, hw4, htm'⟩ := dotw p sm6 sm7 sm8 sn1 sn4 sn7
  have htm : (m6 * n1 + m7 * n4 + m8 * n7).tmod p = d7 := by rw [htm']; exact hd7.out.symm
  clear htm'
  rw [rounds_succ]
  go_wp2_with fail
  refine wp_loop_rounds 4 ?_
  rw [rounds_succ]
  go_wp2_with fail
  refine wp_name (fun w' => Box 24 w' (w.heap.size) [m0, m1, m2, m3, m4, m5, m6, m7, m8] ∧ Box 24 w' (w.heap.size + 1) [n0, n1, n2, n3, n4, n5, n6, n7, n8] ∧ Box 24 w' (w.heap.size + 1 + 1) [0, 0, 0, 0, 0, 0, 0, 0, 0] ∧ Box 24 w' (w.heap.size + 1 + 1 + 1) [d0, d1, d2, d3, d4, d5, d6, 0, 0] ∧ Below w.heap.size w w') ⟨Box.far (Box.drew Bm27) (by omega), Box.far (Box.drew Bn27) (by omega), Box.far (Box.drew Br27) (by omega), (Box.set (Box.drew Bo27) 6 (d6)).cast rfl, Below.setCell (p := ⟨w.heap.size + 1 + 1 + 1, 6, none⟩) hB27.drew (by simp only []; omega) _⟩ ?_
  rintro wq28 ⟨Bm28, Bn28, Br28, Bo28, hB28⟩
  clear st sf Bm27 Bn27 Br27 Bo27 hB27 ltm27 ltn27 ltr27 lto27 hz27
  have hz28 := hB28.size
  have ltm28 := Bm28.lt
  have ltn28 := Bn28.lt
  have ltr28 := Br28.lt
  have lto28 := Bo28.lt
  have rd0 := Bm28.cell 6 rfl
  have rd1 := Bn28.cell 1 rfl
  refine wp_region_still_tail 12 (by kernel_rfl) (by kernel_rfl) ?_
  simp only [List.take_succ_cons, List.take_zero, List.drop_succ_cons, List.drop_zero]
  repeat still_step
  try refine wpStill_nil ?_
  change wpList _ _ _ _ _ wq28.drew
  clear rd0 rd1
  go_wp2_with fail
  rw [rounds_succ]
  go_wp2_with fail
  refine wp_name (fun w' => Box 24 w' (w.heap.size) [m0, m1, m2, m3, m4, m5, m6, m7, m8] ∧ Box 24 w' (w.heap.size + 1) [n0, n1, n2, n3, n4, n5, n6, n7, n8] ∧ Box 24 w' (w.heap.size + 1 + 1) [0, 0, 0, 0, 0, 0, 0, 0, 0] ∧ Box 24 w' (w.heap.size + 1 + 1 + 1) [d0, d1, d2, d3, d4, d5, d6, 0, 0] ∧ Below w.heap.size w w') ⟨Box.drew Bm28, Box.drew Bn28, Box.drew Br28, Box.drew Bo28, hB28.drew⟩ ?_
  rintro wq29 ⟨Bm29, Bn29, Br29, Bo29, hB29⟩
  clear Bm28 Bn28 Br28 Bo28 hB28 ltm28 ltn28 ltr28 lto28 hz28
  have hz29 := hB29.size
  have ltm29 := Bm29.lt
  have ltn29 := Bn29.lt
  have ltr29 := Br29.lt
  have lto29 := Bo29.lt
  have rd0 := Bm29.cell 7 rfl
  have rd1 := Bn29.cell 4 rfl
  refine wp_region_still_tail 12 (by kernel_rfl) (by kernel_rfl) ?_
  simp only [List.take_succ_cons, List.take_zero, List.drop_succ_cons, List.drop_zero]
  repeat still_step
  try refine wpStill_nil ?_
  change wpList _ _ _ _ _ wq29.drew
  clear rd0 rd1
  go_wp2_with fail
  rw [rounds_succ]
  go_wp2_with fail
  refine wp_name (fun w' => Box 24 w' (w.heap.size) [m0, m1, m2, m3, m4, m5, m6, m7, m8] ∧ Box 24 w' (w.heap.size + 1) [n0, n1, n2, n3, n4, n5, n6, n7, n8] ∧ Box 24 w' (w.heap.size + 1 + 1) [0, 0, 0, 0, 0, 0, 0, 0, 0] ∧ Box 24 w' (w.heap.size + 1 + 1 + 1) [d0, d1, d2, d3, d4, d5, d6, 0, 0] ∧ Below w.heap.size w w') ⟨Box.drew Bm29, Box.drew Bn29, Box.drew Br29, Box.drew Bo29, hB29.drew⟩ ?_
  rintro wq30 ⟨Bm30, Bn30, Br30, Bo30, hB30⟩
  clear Bm29 Bn29 Br29 Bo29 hB29 ltm29 ltn29 ltr29 lto29 hz29
  have hz30 := hB30.size
  have ltm30 := Bm30.lt
  have ltn30 := Bn30.lt
  have ltr30 := Br30.lt
  have lto30 := Bo30.lt
  have rd0 := Bm30.cell 8 rfl
  have rd1 := Bn30.cell 7 rfl
  refine wp_region_still_tail 12 (by kernel_rfl) (by kernel_rfl) ?_
  simp only [List.take_succ_cons, List.take_zero, List.drop_succ_cons, List.drop_zero]
  repeat still_step
  try refine wpStill_nil ?_
  change wpList _ _ _ _ _ wq30.drew
  clear rd0 rd1
  go_wp2_with fail
  rw [rounds_succ]
  go_wp2_with fail
  refine wp_name (fun w' => Box 24 w' (w.heap.size) [m0, m1, m2, m3, m4, m5, m6, m7, m8] ∧ Box 24 w' (w.heap.size + 1) [n0, n1, n2, n3, n4, n5, n6, n7, n8] ∧ Box 24 w' (w.heap.size + 1 + 1) [0, 0, 0, 0, 0, 0, 0, 0, 0] ∧ Box 24 w' (w.heap.size + 1 + 1 + 1) [d0, d1, d2, d3, d4, d5, d6, 0, 0] ∧ Below w.heap.size w w') ⟨Box.drew Bm30, Box.drew Bn30, Box.drew Br30, Box.drew Bo30, hB30.drew⟩ ?_
  rintro wq31 ⟨Bm31, Bn31, Br31, Bo31, hB31⟩
  clear Bm30 Bn30 Br30 Bo30 hB30 ltm30 ltn30 ltr30 lto30 hz30
  have hz31 := hB31.size
  have ltm31 := Bm31.lt
  have ltn31 := Bn31.lt
  have ltr31 := Br31.lt
  have lto31 := Bo31.lt
  refine wp_region_still_tail 6 (by kernel_rfl) (by kernel_rfl) ?_
  simp only [List.take_succ_cons, List.take_zero, List.drop_succ_cons, List.drop_zero]
  repeat still_step
  try refine wpStill_nil ?_
  change wpList _ _ _ _ _ wq31.drew
  have st := (Box.drew Bo31).cell 7 rfl
  have sf := (Box.drew Bo31).frz 7
  go_wp2_with fail
  clear htm hw0 hw1 hw2 hw3 hw4
  obtain ⟨hw0, hw1, hw2, hw3, hw4, htm'⟩ := dotw p sm6 sm7 sm8 sn2 sn5 sn8
  have htm : (m6 * n2 + m7 * n5 + m8 * n8).tmod p = d8 := by rw [htm']; exact hd8.out.symm
  clear htm'
  rw [rounds_succ]
  go_wp2_with fail
  refine wp_loop_rounds 4 ?_
  rw [rounds_succ]
  go_wp2_with fail
  refine wp_name (fun w' => Box 24 w' (w.heap.size) [m0, m1, m2, m3, m4, m5, m6, m7, m8] ∧ Box 24 w' (w.heap.size + 1) [n0, n1, n2, n3, n4, n5, n6, n7, n8] ∧ Box 24 w' (w.heap.size + 1 + 1) [0, 0, 0, 0, 0, 0, 0, 0, 0] ∧ Box 24 w' (w.heap.size + 1 + 1 + 1) [d0, d1, d2, d3, d4, d5, d6, d7, 0] ∧ Below w.heap.size w w') ⟨Box.far (Box.drew Bm31) (by omega), Box.far (Box.drew Bn31) (by omega), Box.far (Box.drew Br31) (by omega), (Box.set (Box.drew Bo31) 7 (d7)).cast rfl, Below.setCell (p := ⟨w.heap.size + 1 + 1 + 1, 7, none⟩) hB31.drew (by simp only []; omega) _⟩ ?_
  rintro wq32 ⟨Bm32, Bn32, Br32, Bo32, hB32⟩
  clear st sf Bm31 Bn31 Br31 Bo31 hB31 ltm31 ltn31 ltr31 lto31 hz31
  have hz32 := hB32.size
  have ltm32 := Bm32.lt
  have ltn32 := Bn32.lt
  have ltr32 := Br32.lt
  have lto32 := Bo32.lt
  have rd0 := Bm32.cell 6 rfl
  have rd1 := Bn32.cell 2 rfl
  refine wp_region_still_tail 12 (by kernel_rfl) (by kernel_rfl) ?_
  simp only [List.take_succ_cons, List.take_zero, List.drop_succ_cons, List.drop_zero]
  repeat still_step
  try refine wpStill_nil ?_
  change wpList _ _ _ _ _ wq32.drew
  clear rd0 rd1
  go_wp2_with fail
  rw [rounds_succ]
  go_wp2_with fail
  refine wp_name (fun w' => Box 24 w' (w.heap.size) [m0, m1, m2, m3, m4, m5, m6, m7, m8] ∧ Box 24 w' (w.heap.size + 1) [n0, n1, n2, n3, n4, n5, n6, n7, n8] ∧ Box 24 w' (w.heap.size + 1 + 1) [0, 0, 0, 0, 0, 0, 0, 0, 0] ∧ Box 24 w' (w.heap.size + 1 + 1 + 1) [d0, d1, d2, d3, d4, d5, d6, d7, 0] ∧ Below w.heap.size w w') ⟨Box.drew Bm32, Box.drew Bn32, Box.drew Br32, Box.drew Bo32, hB32.drew⟩ ?_
  rintro wq33 ⟨Bm33, Bn33, Br33, Bo33, hB33⟩
  clear Bm32 Bn32 Br32 Bo32 hB32 ltm32 ltn32 ltr32 lto32 hz32
  have hz33 := hB33.size
  have ltm33 := Bm33.lt
  have ltn33 := Bn33.lt
  have ltr33 := Br33.lt
  have lto33 := Bo33.lt
  have rd0 := Bm33.cell 7 rfl
  have rd1 := Bn33.cell 5 rfl
  refine wp_region_still_tail 12 (by kernel_rfl) (by kernel_rfl) ?_
  simp only [List.take_succ_cons, List.take_zero, List.drop_succ_cons, List.drop_zero]
  repeat still_step
  try refine wpStill_nil ?_
  change wpList _ _ _ _ _ wq33.drew
  clear rd0 rd1
  go_wp2_with fail
  rw [rounds_succ]
  go_wp2_with fail
  refine wp_name (fun w' => Box 24 w' (w.heap.size) [m0, m1, m2, m3, m4, m5, m6, m7, m8] ∧ Box 24 w' (w.heap.size + 1) [n0, n1, n2, n3, n4, n5, n6, n7, n8] ∧ Box 24 w' (w.heap.size + 1 + 1) [0, 0, 0, 0, 0, 0, 0, 0, 0] ∧ Box 24 w' (w.heap.size + 1 + 1 + 1) [d0, d1, d2, d3, d4, d5, d6, d7, 0] ∧ Below w.heap.size w w') ⟨Box.drew Bm33, Box.drew Bn33, Box.drew Br33, Box.drew Bo33, hB33.drew⟩ ?_
  rintro wq34 ⟨Bm34, Bn34, Br34, Bo34, hB34⟩
  clear Bm33 Bn33 Br33 Bo33 hB33 ltm33 ltn33 ltr33 lto33 hz33
  have hz34 := hB34.size
  have ltm34 := Bm34.lt
  have ltn34 := Bn34.lt
  have ltr34 := Br34.lt
  have lto34 := Bo34.lt
  have rd0 := Bm34.cell 8 rfl
  have rd1 := Bn34.cell 8 rfl
  refine wp_region_still_tail 12 (by kernel_rfl) (by kernel_rfl) ?_
  simp only [List.take_succ_cons, List.take_zero, List.drop_succ_cons, List.drop_zero]
  repeat still_step
  try refine wpStill_nil ?_
  change wpList _ _ _ _ _ wq34.drew
  clear rd0 rd1
  go_wp2_with fail
  rw [rounds_succ]
  go_wp2_with fail
  refine wp_name (fun w' => Box 24 w' (w.heap.size) [m0, m1, m2, m3, m4, m5, m6, m7, m8] ∧ Box 24 w' (w.heap.size + 1) [n0, n1, n2, n3, n4, n5, n6, n7, n8] ∧ Box 24 w' (w.heap.size + 1 + 1) [0, 0, 0, 0, 0, 0, 0, 0, 0] ∧ Box 24 w' (w.heap.size + 1 + 1 + 1) [d0, d1, d2, d3, d4, d5, d6, d7, 0] ∧ Below w.heap.size w w') ⟨Box.drew Bm34, Box.drew Bn34, Box.drew Br34, Box.drew Bo34, hB34.drew⟩ ?_
  rintro wq35 ⟨Bm35, Bn35, Br35, Bo35, hB35⟩
  clear Bm34 Bn34 Br34 Bo34 hB34 ltm34 ltn34 ltr34 lto34 hz34
  have hz35 := hB35.size
  have ltm35 := Bm35.lt
  have ltn35 := Bn35.lt
  have ltr35 := Br35.lt
  have lto35 := Bo35.lt
  refine wp_region_still_tail 6 (by kernel_rfl) (by kernel_rfl) ?_
  simp only [List.take_succ_cons, List.take_zero, List.drop_succ_cons, List.drop_zero]
  repeat still_step
  try refine wpStill_nil ?_
  change wpList _ _ _ _ _ wq35.drew
  have st := (Box.drew Bo35).cell 8 rfl
  have sf := (Box.drew Bo35).frz 8
  go_wp2_with fail
  clear htm hw0 hw1 hw2 hw3 hw4
  rw [rounds_succ]
  go_wp2_with fail
  have rd0 := Bo35.cell 0 rfl
  have rs0 := Br35.cell 0 rfl
  have rf0 := Br35.frz 0
  have rd1 := Bo35.cell 1 rfl
  have rs1 := Br35.cell 1 rfl
  have rf1 := Br35.frz 1
  have rd2 := Bo35.cell 2 rfl
  have rs2 := Br35.cell 2 rfl
  have rf2 := Br35.frz 2
  have rd3 := Bo35.cell 3 rfl
  have rs3 := Br35.cell 3 rfl
  have rf3 := Br35.frz 3
  have rd4 := Bo35.cell 4 rfl
  have rs4 := Br35.cell 4 rfl
  have rf4 := Br35.frz 4
  have rd5 := Bo35.cell 5 rfl
  have rs5 := Br35.cell 5 rfl
  have rf5 := Br35.frz 5
  have rd6 := Bo35.cell 6 rfl
  have rs6 := Br35.cell 6 rfl
  have rf6 := Br35.frz 6
  have rd7 := Bo35.cell 7 rfl
  have rs7 := Br35.cell 7 rfl
  have rf7 := Br35.frz 7
  have rd8 := Bo35.cell 8 rfl
  have rs8 := Br35.cell 8 rfl
  have rf8 := Br35.frz 8
  rw [rounds_succ]
  repeat ((fail_if_success guard_target = (_ : Exit → Act → World → Prop) Exit.ret _ _); (first | (go_big_may; go_at_call 92; refine (l02Normal_any p d0 d1 d2 d3 d4 d5 d6 d7 d8 _ HP.out).mono ?_; rintro e w7 ⟨rfl, hb7⟩; have Br7 : Box 24 w7 (w.heap.size + 1 + 1) [0, 0, 0, 0, 0, 0, 0, 0, 0] := Box.below hb7 (by first | exact Box.far (Box.drew Br35) (by omega) | exact Box.drew (Box.far Br35 (by omega))); have rx0 := Br7.cell 0 rfl; have fx0 := Br7.frz 0; have rx1 := Br7.cell 1 rfl; have fx1 := Br7.frz 1; have rx2 := Br7.cell 2 rfl; have fx2 := Br7.frz 2; have rx3 := Br7.cell 3 rfl; have fx3 := Br7.frz 3; have rx4 := Br7.cell 4 rfl; have fx4 := Br7.frz 4; have rx5 := Br7.cell 5 rfl; have fx5 := Br7.frz 5; have rx6 := Br7.cell 6 rfl; have fx6 := Br7.frz 6; have rx7 := Br7.cell 7 rfl; have fx7 := Br7.frz 7; have rx8 := Br7.cell 8 rfl; have fx8 := Br7.frz 8; have hz7 := hb7.size; simp only [World.size_setCell, World.size_drew] at hz7; dsimp only) | go_values | go_skip | go_guarded | go_step | go_upon | go_back))
  (try simp only [Exit.inBlock, Exit.then]); refine bodyPost_ret (by simp [results, Try.results54, go_sem, *]; try rfl) rfl ?_
  exact ⟨by unfold tmM; rw [hE.out], by (repeat' (first | (with_reducible exact Below.refl _ _) | (with_reducible assumption) | (with_reducible refine Below.alloc ?_ ?_ _) | (with_reducible refine Below.drew ?_) | (with_reducible refine below_drewN ?_ _) | (with_reducible refine Below.setCell ?_ ?_ _) | (refine Below.step ?_ (by with_reducible assumption) ?_) | go_size))⟩
set_option maxHeartbeats 2000000 in
theorem times_any (p m0 m1 m2 m3 m4 m5 m6 m7 m8 n0 n1 n2 n3 n4 n5 n6 n7 n8 : Int) (w : World) (hp : isP p = true) (sm0 : sm m0) (sm1 : sm m1) (sm2 : sm m2) (sm3 : sm m3) (sm4 : sm m4) (sm5 : sm m5) (sm6 : sm m6) (sm7 : sm m7) (sm8 : sm m8) (sn0 : sm n0) (sn1 : sm n1) (sn2 : sm n2) (sn3 : sm n3) (sn4 : sm n4) (sn5 : sm n5) (sn6 : sm n6) (sn7 : sm n7) (sn8 : sm n8) :
    Calls Try.prog 57 #[.int .i64 p, .agg #[.int .i64 m0, .int .i64 m1, .int .i64 m2, .int .i64 m3, .int .i64 m4, .int .i64 m5, .int .i64 m6, .int .i64 m7, .int .i64 m8], .agg #[.int .i64 n0, .int .i64 n1, .int .i64 n2, .int .i64 n3, .int .i64 n4, .int .i64 n5, .int .i64 n6, .int .i64 n7, .int .i64 n8]] w fun e w' => e = .returned (.agg #[.int .i64 (tmM p ⟨m0, m1, m2, m3, m4, m5, m6, m7, m8⟩ ⟨n0, n1, n2, n3, n4, n5, n6, n7, n8⟩).m0, .int .i64 (tmM p ⟨m0, m1, m2, m3, m4, m5, m6, m7, m8⟩ ⟨n0, n1, n2, n3, n4, n5, n6, n7, n8⟩).m1, .int .i64 (tmM p ⟨m0, m1, m2, m3, m4, m5, m6, m7, m8⟩ ⟨n0, n1, n2, n3, n4, n5, n6, n7, n8⟩).m2, .int .i64 (tmM p ⟨m0, m1, m2, m3, m4, m5, m6, m7, m8⟩ ⟨n0, n1, n2, n3, n4, n5, n6, n7, n8⟩).m3, .int .i64 (tmM p ⟨m0, m1, m2, m3, m4, m5, m6, m7, m8⟩ ⟨n0, n1, n2, n3, n4, n5, n6, n7, n8⟩).m4, .int .i64 (tmM p ⟨m0, m1, m2, m3, m4, m5, m6, m7, m8⟩ ⟨n0, n1, n2, n3, n4, n5, n6, n7, n8⟩).m5, .int .i64 (tmM p ⟨m0, m1, m2, m3, m4, m5, m6, m7, m8⟩ ⟨n0, n1, n2, n3, n4, n5, n6, n7, n8⟩).m6, .int .i64 (tmM p ⟨m0, m1, m2, m3, m4, m5, m6, m7, m8⟩ ⟨n0, n1, n2, n3, n4, n5, n6, n7, n8⟩).m7, .int .i64 (tmM p ⟨m0, m1, m2, m3, m4, m5, m6, m7, m8⟩ ⟨n0, n1, n2, n3, n4, n5, n6, n7, n8⟩).m8]) ∧ Below w.heap.size w w' := by
  have HP := Lib.hid hp
  have k1 := isP_lo hp
  have k2 := isP_hi hp
  clear hp
  go_enter Try.func57, Try.ntmps57
  go_wp2_with (first | (go_at_call 108; refine (product_any p m0 m1 m2 m3 m4 m5 m6 m7 m8 n0 n1 n2 n3 n4 n5 n6 n7 n8 _ k1 k2 sm0 sm1 sm2 sm3 sm4 sm5 sm6 sm7 sm8 sn0 sn1 sn2 sn3 sn4 sn5 sn6 sn7 sn8).mono ?_; rintro e w1 ⟨rfl, hb1⟩; obtain ⟨hc1, hf1⟩ := bcell hb1; have hz1 := hb1.size; (try simp only [World.size_alloc, World.size_setCell, World.size_drew] at hz1); (try (have hy1w0 : w.heap.size < w1.heap.size := by omega)); (try (have hy1w1 : w.heap.size + 1 < w1.heap.size := by omega)); (try (have hy1w2 : w.heap.size + 1 + 1 < w1.heap.size := by omega)); (try (have hy1w3 : w.heap.size + 1 + 1 + 1 < w1.heap.size := by omega)); (try (have hy1w4 : w.heap.size + 1 + 1 + 1 + 1 < w1.heap.size := by omega)); have r1_0 := keepC hb1 (b := w.heap.size + 1 + 1) (o := 0) (v := .int .i64 0) (by go_cell); have r1_1 := keepC hb1 (b := w.heap.size + 1 + 1) (o := 1) (v := .int .i64 0) (by go_cell); have r1_2 := keepC hb1 (b := w.heap.size + 1 + 1) (o := 2) (v := .int .i64 0) (by go_cell); have r1_3 := keepC hb1 (b := w.heap.size + 1 + 1) (o := 3) (v := .int .i64 0) (by go_cell); have r1_4 := keepC hb1 (b := w.heap.size + 1 + 1) (o := 4) (v := .int .i64 0) (by go_cell); have r1_5 := keepC hb1 (b := w.heap.size + 1 + 1) (o := 5) (v := .int .i64 0) (by go_cell); have r1_6 := keepC hb1 (b := w.heap.size + 1 + 1) (o := 6) (v := .int .i64 0) (by go_cell); have r1_7 := keepC hb1 (b := w.heap.size + 1 + 1) (o := 7) (v := .int .i64 0) (by go_cell); have r1_8 := keepC hb1 (b := w.heap.size + 1 + 1) (o := 8) (v := .int .i64 0) (by go_cell)) | (go_at_call 107; refine (normalMap_any p _ _ _ _ _ _ _ _ _ _ HP.out).mono ?_; rintro e w2 ⟨rfl, hb2⟩; obtain ⟨hc2, hf2⟩ := bcell hb2; have hz2 := hb2.size; (try simp only [World.size_alloc, World.size_setCell, World.size_drew] at hz2); (try (have hy2w0 : w.heap.size < w2.heap.size := by omega)); (try (have hy2w1 : w.heap.size + 1 < w2.heap.size := by omega)); (try (have hy2w2 : w.heap.size + 1 + 1 < w2.heap.size := by omega)); (try (have hy2w3 : w.heap.size + 1 + 1 + 1 < w2.heap.size := by omega)); (try (have hy2w4 : w.heap.size + 1 + 1 + 1 + 1 < w2.heap.size := by omega)); (try (have hy2w10 : w1.heap.size < w2.heap.size := by omega)); (try (have hy2w11 : w1.heap.size + 1 < w2.heap.size := by omega)); (try (have hy2w12 : w1.heap.size + 1 + 1 < w2.heap.size := by omega)); (try (have hy2w13 : w1.heap.size + 1 + 1 + 1 < w2.heap.size := by omega)); (try (have hy2w14 : w1.heap.size + 1 + 1 + 1 + 1 < w2.heap.size := by omega)); have r2_0 := keepC hb2 (b := w.heap.size + 1 + 1) (o := 0) (v := .int .i64 0) (by go_cell); have r2_1 := keepC hb2 (b := w.heap.size + 1 + 1) (o := 1) (v := .int .i64 0) (by go_cell); have r2_2 := keepC hb2 (b := w.heap.size + 1 + 1) (o := 2) (v := .int .i64 0) (by go_cell); have r2_3 := keepC hb2 (b := w.heap.size + 1 + 1) (o := 3) (v := .int .i64 0) (by go_cell); have r2_4 := keepC hb2 (b := w.heap.size + 1 + 1) (o := 4) (v := .int .i64 0) (by go_cell); have r2_5 := keepC hb2 (b := w.heap.size + 1 + 1) (o := 5) (v := .int .i64 0) (by go_cell); have r2_6 := keepC hb2 (b := w.heap.size + 1 + 1) (o := 6) (v := .int .i64 0) (by go_cell); have r2_7 := keepC hb2 (b := w.heap.size + 1 + 1) (o := 7) (v := .int .i64 0) (by go_cell); have r2_8 := keepC hb2 (b := w.heap.size + 1 + 1) (o := 8) (v := .int .i64 0) (by go_cell)))
  (try simp only [Exit.inBlock, Exit.then]); refine bodyPost_ret (by simp [results, Try.results57, go_sem, *]; try rfl) rfl ?_
  exact ⟨rfl, by (repeat' (first | (with_reducible exact Below.refl _ _) | (with_reducible assumption) | (with_reducible refine Below.alloc ?_ ?_ _) | (with_reducible refine Below.drew ?_) | (with_reducible refine below_drewN ?_ _) | (with_reducible refine Below.setCell ?_ ?_ _) | (refine Below.step ?_ (by with_reducible assumption) ?_) | go_size))⟩
set_option maxHeartbeats 2000000 in
theorem MultiplyMaps_spec (p m0 m1 m2 m3 m4 m5 m6 m7 m8 n0 n1 n2 n3 n4 n5 n6 n7 n8 : Int) (w : World) :
    Calls Try.prog 13 #[.int .i64 p, .agg #[.int .i64 m0, .int .i64 m1, .int .i64 m2, .int .i64 m3, .int .i64 m4, .int .i64 m5, .int .i64 m6, .int .i64 m7, .int .i64 m8], .agg #[.int .i64 n0, .int .i64 n1, .int .i64 n2, .int .i64 n3, .int .i64 n4, .int .i64 n5, .int .i64 n6, .int .i64 n7, .int .i64 n8]] w fun e w' => e = .returned (.tuple #[.agg #[.int .i64 ((muR p ⟨m0, m1, m2, m3, m4, m5, m6, m7, m8⟩ ⟨n0, n1, n2, n3, n4, n5, n6, n7, n8⟩).1).m0, .int .i64 ((muR p ⟨m0, m1, m2, m3, m4, m5, m6, m7, m8⟩ ⟨n0, n1, n2, n3, n4, n5, n6, n7, n8⟩).1).m1, .int .i64 ((muR p ⟨m0, m1, m2, m3, m4, m5, m6, m7, m8⟩ ⟨n0, n1, n2, n3, n4, n5, n6, n7, n8⟩).1).m2, .int .i64 ((muR p ⟨m0, m1, m2, m3, m4, m5, m6, m7, m8⟩ ⟨n0, n1, n2, n3, n4, n5, n6, n7, n8⟩).1).m3, .int .i64 ((muR p ⟨m0, m1, m2, m3, m4, m5, m6, m7, m8⟩ ⟨n0, n1, n2, n3, n4, n5, n6, n7, n8⟩).1).m4, .int .i64 ((muR p ⟨m0, m1, m2, m3, m4, m5, m6, m7, m8⟩ ⟨n0, n1, n2, n3, n4, n5, n6, n7, n8⟩).1).m5, .int .i64 ((muR p ⟨m0, m1, m2, m3, m4, m5, m6, m7, m8⟩ ⟨n0, n1, n2, n3, n4, n5, n6, n7, n8⟩).1).m6, .int .i64 ((muR p ⟨m0, m1, m2, m3, m4, m5, m6, m7, m8⟩ ⟨n0, n1, n2, n3, n4, n5, n6, n7, n8⟩).1).m7, .int .i64 ((muR p ⟨m0, m1, m2, m3, m4, m5, m6, m7, m8⟩ ⟨n0, n1, n2, n3, n4, n5, n6, n7, n8⟩).1).m8], .int .i64 (muR p ⟨m0, m1, m2, m3, m4, m5, m6, m7, m8⟩ ⟨n0, n1, n2, n3, n4, n5, n6, n7, n8⟩).2]) ∧ Below w.heap.size w w' := by
  rcases mpCode3 p [⟨m0, m1, m2, m3, m4, m5, m6, m7, m8⟩, ⟨n0, n1, n2, n3, n4, n5, n6, n7, n8⟩] with hk | hk | ⟨hp, hok, hk⟩
  · have hE : Hid (muR p ⟨m0, m1, m2, m3, m4, m5, m6, m7, m8⟩ ⟨n0, n1, n2, n3, n4, n5, n6, n7, n8⟩ = (zM, 2)) := by show _ = _; unfold muR; rw [hk]; rfl
    go_enter Try.func13, Try.ntmps13
    go_wp2_with (go_at_call 53; refine (l02Code_any p _ _ _ [⟨m0, m1, m2, m3, m4, m5, m6, m7, m8⟩, ⟨n0, n1, n2, n3, n4, n5, n6, n7, n8⟩] _ (rdM9_2 (by go_cell) (by go_cell) (by go_cell) (by go_cell) (by go_cell) (by go_cell) (by go_cell) (by go_cell) (by go_cell) (by go_cell) (by go_cell) (by go_cell) (by go_cell) (by go_cell) (by go_cell) (by go_cell) (by go_cell) (by go_cell)) (by go_size) (by simp)).mono ?_; rintro e w1 ⟨rfl, hb1⟩; obtain ⟨hc1, hf1⟩ := bcell hb1; have hz1 := hb1.size; (try simp only [World.size_alloc, World.size_setCell, World.size_drew] at hz1); (try (have hy1w0 : w.heap.size < w1.heap.size := by omega)); (try (have hy1w1 : w.heap.size + 1 < w1.heap.size := by omega)); (try (have hy1w2 : w.heap.size + 1 + 1 < w1.heap.size := by omega)); (try (have hy1w3 : w.heap.size + 1 + 1 + 1 < w1.heap.size := by omega)); (try (have hy1w4 : w.heap.size + 1 + 1 + 1 + 1 < w1.heap.size := by omega)); have r1_0 := keepC hb1 (b := w.heap.size + 1 + 1) (o := 0) (v := .int .i64 0) (by go_cell); have r1_1 := keepC hb1 (b := w.heap.size + 1 + 1) (o := 1) (v := .int .i64 0) (by go_cell); have r1_2 := keepC hb1 (b := w.heap.size + 1 + 1) (o := 2) (v := .int .i64 0) (by go_cell); have r1_3 := keepC hb1 (b := w.heap.size + 1 + 1) (o := 3) (v := .int .i64 0) (by go_cell); have r1_4 := keepC hb1 (b := w.heap.size + 1 + 1) (o := 4) (v := .int .i64 0) (by go_cell); have r1_5 := keepC hb1 (b := w.heap.size + 1 + 1) (o := 5) (v := .int .i64 0) (by go_cell); have r1_6 := keepC hb1 (b := w.heap.size + 1 + 1) (o := 6) (v := .int .i64 0) (by go_cell); have r1_7 := keepC hb1 (b := w.heap.size + 1 + 1) (o := 7) (v := .int .i64 0) (by go_cell); have r1_8 := keepC hb1 (b := w.heap.size + 1 + 1) (o := 8) (v := .int .i64 0) (by go_cell))
    (try simp only [Exit.inBlock, Exit.then]); refine bodyPost_ret (by simp [results, Try.results13, go_sem, *]; try rfl) rfl ?_
    exact ⟨by rw [hE.out]; try rfl, by (repeat' (first | (with_reducible exact Below.refl _ _) | (with_reducible assumption) | (with_reducible refine Below.alloc ?_ ?_ _) | (with_reducible refine Below.drew ?_) | (with_reducible refine below_drewN ?_ _) | (with_reducible refine Below.setCell ?_ ?_ _) | (refine Below.step ?_ (by with_reducible assumption) ?_) | go_size))⟩
  · have hE : Hid (muR p ⟨m0, m1, m2, m3, m4, m5, m6, m7, m8⟩ ⟨n0, n1, n2, n3, n4, n5, n6, n7, n8⟩ = (zM, 1)) := by show _ = _; unfold muR; rw [hk]; rfl
    go_enter Try.func13, Try.ntmps13
    go_wp2_with (go_at_call 53; refine (l02Code_any p _ _ _ [⟨m0, m1, m2, m3, m4, m5, m6, m7, m8⟩, ⟨n0, n1, n2, n3, n4, n5, n6, n7, n8⟩] _ (rdM9_2 (by go_cell) (by go_cell) (by go_cell) (by go_cell) (by go_cell) (by go_cell) (by go_cell) (by go_cell) (by go_cell) (by go_cell) (by go_cell) (by go_cell) (by go_cell) (by go_cell) (by go_cell) (by go_cell) (by go_cell) (by go_cell)) (by go_size) (by simp)).mono ?_; rintro e w1 ⟨rfl, hb1⟩; obtain ⟨hc1, hf1⟩ := bcell hb1; have hz1 := hb1.size; (try simp only [World.size_alloc, World.size_setCell, World.size_drew] at hz1); (try (have hy1w0 : w.heap.size < w1.heap.size := by omega)); (try (have hy1w1 : w.heap.size + 1 < w1.heap.size := by omega)); (try (have hy1w2 : w.heap.size + 1 + 1 < w1.heap.size := by omega)); (try (have hy1w3 : w.heap.size + 1 + 1 + 1 < w1.heap.size := by omega)); (try (have hy1w4 : w.heap.size + 1 + 1 + 1 + 1 < w1.heap.size := by omega)); have r1_0 := keepC hb1 (b := w.heap.size + 1 + 1) (o := 0) (v := .int .i64 0) (by go_cell); have r1_1 := keepC hb1 (b := w.heap.size + 1 + 1) (o := 1) (v := .int .i64 0) (by go_cell); have r1_2 := keepC hb1 (b := w.heap.size + 1 + 1) (o := 2) (v := .int .i64 0) (by go_cell); have r1_3 := keepC hb1 (b := w.heap.size + 1 + 1) (o := 3) (v := .int .i64 0) (by go_cell); have r1_4 := keepC hb1 (b := w.heap.size + 1 + 1) (o := 4) (v := .int .i64 0) (by go_cell); have r1_5 := keepC hb1 (b := w.heap.size + 1 + 1) (o := 5) (v := .int .i64 0) (by go_cell); have r1_6 := keepC hb1 (b := w.heap.size + 1 + 1) (o := 6) (v := .int .i64 0) (by go_cell); have r1_7 := keepC hb1 (b := w.heap.size + 1 + 1) (o := 7) (v := .int .i64 0) (by go_cell); have r1_8 := keepC hb1 (b := w.heap.size + 1 + 1) (o := 8) (v := .int .i64 0) (by go_cell))
    (try simp only [Exit.inBlock, Exit.then]); refine bodyPost_ret (by simp [results, Try.results13, go_sem, *]; try rfl) rfl ?_
    exact ⟨by rw [hE.out]; try rfl, by (repeat' (first | (with_reducible exact Below.refl _ _) | (with_reducible assumption) | (with_reducible refine Below.alloc ?_ ?_ _) | (with_reducible refine Below.drew ?_) | (with_reducible refine below_drewN ?_ _) | (with_reducible refine Below.setCell ?_ ?_ _) | (refine Below.step ?_ (by with_reducible assumption) ?_) | go_size))⟩
  · have hE : Hid (muR p ⟨m0, m1, m2, m3, m4, m5, m6, m7, m8⟩ ⟨n0, n1, n2, n3, n4, n5, n6, n7, n8⟩ = (tmM p ⟨m0, m1, m2, m3, m4, m5, m6, m7, m8⟩ ⟨n0, n1, n2, n3, n4, n5, n6, n7, n8⟩, 0)) := by show _ = _; unfold muR; rw [hk]; rfl
    obtain ⟨tm, hok0⟩ := mp1 hok; obtain ⟨sm0, sm1, sm2, sm3, sm4, sm5, sm6, sm7, sm8⟩ := isMap_sm tm
    obtain ⟨tn, hok1⟩ := mp1 hok0; obtain ⟨sn0, sn1, sn2, sn3, sn4, sn5, sn6, sn7, sn8⟩ := isMap_sm tn
    replace sm0 : sm m0 := sm0; replace sm1 : sm m1 := sm1; replace sm2 : sm m2 := sm2; replace sm3 : sm m3 := sm3; replace sm4 : sm m4 := sm4; replace sm5 : sm m5 := sm5; replace sm6 : sm m6 := sm6; replace sm7 : sm m7 := sm7; replace sm8 : sm m8 := sm8; replace sn0 : sm n0 := sn0; replace sn1 : sm n1 := sn1; replace sn2 : sm n2 := sn2; replace sn3 : sm n3 := sn3; replace sn4 : sm n4 := sn4; replace sn5 : sm n5 := sn5; replace sn6 : sm n6 := sn6; replace sn7 : sm n7 := sn7; replace sn8 : sm n8 := sn8
    clear hok tm tn hok0 hok1
    have HP := Lib.hid hp; clear hp
    go_enter Try.func13, Try.ntmps13
    go_wp2_with (first | (go_at_call 53; refine (l02Code_any p _ _ _ [⟨m0, m1, m2, m3, m4, m5, m6, m7, m8⟩, ⟨n0, n1, n2, n3, n4, n5, n6, n7, n8⟩] _ (rdM9_2 (by go_cell) (by go_cell) (by go_cell) (by go_cell) (by go_cell) (by go_cell) (by go_cell) (by go_cell) (by go_cell) (by go_cell) (by go_cell) (by go_cell) (by go_cell) (by go_cell) (by go_cell) (by go_cell) (by go_cell) (by go_cell)) (by go_size) (by simp)).mono ?_; rintro e w1 ⟨rfl, hb1⟩; obtain ⟨hc1, hf1⟩ := bcell hb1; have hz1 := hb1.size; (try simp only [World.size_alloc, World.size_setCell, World.size_drew] at hz1); (try (have hy1w0 : w.heap.size < w1.heap.size := by omega)); (try (have hy1w1 : w.heap.size + 1 < w1.heap.size := by omega)); (try (have hy1w2 : w.heap.size + 1 + 1 < w1.heap.size := by omega)); (try (have hy1w3 : w.heap.size + 1 + 1 + 1 < w1.heap.size := by omega)); (try (have hy1w4 : w.heap.size + 1 + 1 + 1 + 1 < w1.heap.size := by omega)); have r1_0 := keepC hb1 (b := w.heap.size + 1 + 1) (o := 0) (v := .int .i64 0) (by go_cell); have r1_1 := keepC hb1 (b := w.heap.size + 1 + 1) (o := 1) (v := .int .i64 0) (by go_cell); have r1_2 := keepC hb1 (b := w.heap.size + 1 + 1) (o := 2) (v := .int .i64 0) (by go_cell); have r1_3 := keepC hb1 (b := w.heap.size + 1 + 1) (o := 3) (v := .int .i64 0) (by go_cell); have r1_4 := keepC hb1 (b := w.heap.size + 1 + 1) (o := 4) (v := .int .i64 0) (by go_cell); have r1_5 := keepC hb1 (b := w.heap.size + 1 + 1) (o := 5) (v := .int .i64 0) (by go_cell); have r1_6 := keepC hb1 (b := w.heap.size + 1 + 1) (o := 6) (v := .int .i64 0) (by go_cell); have r1_7 := keepC hb1 (b := w.heap.size + 1 + 1) (o := 7) (v := .int .i64 0) (by go_cell); have r1_8 := keepC hb1 (b := w.heap.size + 1 + 1) (o := 8) (v := .int .i64 0) (by go_cell)) | (go_at_call 54; refine (l02Times_any p m0 m1 m2 m3 m4 m5 m6 m7 m8 n0 n1 n2 n3 n4 n5 n6 n7 n8 _ HP.out sm0 sm1 sm2 sm3 sm4 sm5 sm6 sm7 sm8 sn0 sn1 sn2 sn3 sn4 sn5 sn6 sn7 sn8).mono ?_; rintro e w2 ⟨rfl, hb2⟩; obtain ⟨hc2, hf2⟩ := bcell hb2; have hz2 := hb2.size; (try simp only [World.size_alloc, World.size_setCell, World.size_drew] at hz2); (try (have hy2w0 : w.heap.size < w2.heap.size := by omega)); (try (have hy2w1 : w.heap.size + 1 < w2.heap.size := by omega)); (try (have hy2w2 : w.heap.size + 1 + 1 < w2.heap.size := by omega)); (try (have hy2w3 : w.heap.size + 1 + 1 + 1 < w2.heap.size := by omega)); (try (have hy2w4 : w.heap.size + 1 + 1 + 1 + 1 < w2.heap.size := by omega)); (try (have hy2w10 : w1.heap.size < w2.heap.size := by omega)); (try (have hy2w11 : w1.heap.size + 1 < w2.heap.size := by omega)); (try (have hy2w12 : w1.heap.size + 1 + 1 < w2.heap.size := by omega)); (try (have hy2w13 : w1.heap.size + 1 + 1 + 1 < w2.heap.size := by omega)); (try (have hy2w14 : w1.heap.size + 1 + 1 + 1 + 1 < w2.heap.size := by omega)); have r2_0 := keepC hb2 (b := w.heap.size + 1 + 1) (o := 0) (v := .int .i64 0) (by go_cell); have r2_1 := keepC hb2 (b := w.heap.size + 1 + 1) (o := 1) (v := .int .i64 0) (by go_cell); have r2_2 := keepC hb2 (b := w.heap.size + 1 + 1) (o := 2) (v := .int .i64 0) (by go_cell); have r2_3 := keepC hb2 (b := w.heap.size + 1 + 1) (o := 3) (v := .int .i64 0) (by go_cell); have r2_4 := keepC hb2 (b := w.heap.size + 1 + 1) (o := 4) (v := .int .i64 0) (by go_cell); have r2_5 := keepC hb2 (b := w.heap.size + 1 + 1) (o := 5) (v := .int .i64 0) (by go_cell); have r2_6 := keepC hb2 (b := w.heap.size + 1 + 1) (o := 6) (v := .int .i64 0) (by go_cell); have r2_7 := keepC hb2 (b := w.heap.size + 1 + 1) (o := 7) (v := .int .i64 0) (by go_cell); have r2_8 := keepC hb2 (b := w.heap.size + 1 + 1) (o := 8) (v := .int .i64 0) (by go_cell)))
    (try simp only [Exit.inBlock, Exit.then]); refine bodyPost_ret (by simp [results, Try.results13, go_sem, *]; try rfl) rfl ?_
    exact ⟨by rw [hE.out]; try rfl, by (repeat' (first | (with_reducible exact Below.refl _ _) | (with_reducible assumption) | (with_reducible refine Below.alloc ?_ ?_ _) | (with_reducible refine Below.drew ?_) | (with_reducible refine below_drewN ?_ _) | (with_reducible refine Below.setCell ?_ ?_ _) | (refine Below.step ?_ (by with_reducible assumption) ?_) | go_size))⟩

set_option maxHeartbeats 2000000 in
theorem MultiplyMaps_any (p m0 m1 m2 m3 m4 m5 m6 m7 m8 n0 n1 n2 n3 n4 n5 n6 n7 n8 : Int) (w : World) :
    Calls Try.prog 15 #[.int .i64 p, .agg #[.int .i64 m0, .int .i64 m1, .int .i64 m2, .int .i64 m3, .int .i64 m4, .int .i64 m5, .int .i64 m6, .int .i64 m7, .int .i64 m8], .agg #[.int .i64 n0, .int .i64 n1, .int .i64 n2, .int .i64 n3, .int .i64 n4, .int .i64 n5, .int .i64 n6, .int .i64 n7, .int .i64 n8]] w fun e w' => e = .returned (.tuple #[.agg #[.int .i64 ((muR p ⟨m0, m1, m2, m3, m4, m5, m6, m7, m8⟩ ⟨n0, n1, n2, n3, n4, n5, n6, n7, n8⟩).1).m0, .int .i64 ((muR p ⟨m0, m1, m2, m3, m4, m5, m6, m7, m8⟩ ⟨n0, n1, n2, n3, n4, n5, n6, n7, n8⟩).1).m1, .int .i64 ((muR p ⟨m0, m1, m2, m3, m4, m5, m6, m7, m8⟩ ⟨n0, n1, n2, n3, n4, n5, n6, n7, n8⟩).1).m2, .int .i64 ((muR p ⟨m0, m1, m2, m3, m4, m5, m6, m7, m8⟩ ⟨n0, n1, n2, n3, n4, n5, n6, n7, n8⟩).1).m3, .int .i64 ((muR p ⟨m0, m1, m2, m3, m4, m5, m6, m7, m8⟩ ⟨n0, n1, n2, n3, n4, n5, n6, n7, n8⟩).1).m4, .int .i64 ((muR p ⟨m0, m1, m2, m3, m4, m5, m6, m7, m8⟩ ⟨n0, n1, n2, n3, n4, n5, n6, n7, n8⟩).1).m5, .int .i64 ((muR p ⟨m0, m1, m2, m3, m4, m5, m6, m7, m8⟩ ⟨n0, n1, n2, n3, n4, n5, n6, n7, n8⟩).1).m6, .int .i64 ((muR p ⟨m0, m1, m2, m3, m4, m5, m6, m7, m8⟩ ⟨n0, n1, n2, n3, n4, n5, n6, n7, n8⟩).1).m7, .int .i64 ((muR p ⟨m0, m1, m2, m3, m4, m5, m6, m7, m8⟩ ⟨n0, n1, n2, n3, n4, n5, n6, n7, n8⟩).1).m8], .int .i64 (muR p ⟨m0, m1, m2, m3, m4, m5, m6, m7, m8⟩ ⟨n0, n1, n2, n3, n4, n5, n6, n7, n8⟩).2]) ∧ Below w.heap.size w w' := by
  rcases mpCode3 p [⟨m0, m1, m2, m3, m4, m5, m6, m7, m8⟩, ⟨n0, n1, n2, n3, n4, n5, n6, n7, n8⟩] with hk | hk | ⟨hp, hok, hk⟩
  · have hE : Hid (muR p ⟨m0, m1, m2, m3, m4, m5, m6, m7, m8⟩ ⟨n0, n1, n2, n3, n4, n5, n6, n7, n8⟩ = (zM, 2)) := by show _ = _; unfold muR; rw [hk]; rfl
    go_enter Try.func15, Try.ntmps15
    go_wp2_with (go_at_call 56; refine (mapsCode_any p _ _ [⟨m0, m1, m2, m3, m4, m5, m6, m7, m8⟩, ⟨n0, n1, n2, n3, n4, n5, n6, n7, n8⟩] _ (rdM9_2 (by go_cell) (by go_cell) (by go_cell) (by go_cell) (by go_cell) (by go_cell) (by go_cell) (by go_cell) (by go_cell) (by go_cell) (by go_cell) (by go_cell) (by go_cell) (by go_cell) (by go_cell) (by go_cell) (by go_cell) (by go_cell)) (by go_size) (by simp)).mono ?_; rintro e w1 ⟨rfl, hb1⟩; obtain ⟨hc1, hf1⟩ := bcell hb1; have hz1 := hb1.size; (try simp only [World.size_alloc, World.size_setCell, World.size_drew] at hz1); (try (have hy1w0 : w.heap.size < w1.heap.size := by omega)); (try (have hy1w1 : w.heap.size + 1 < w1.heap.size := by omega)); (try (have hy1w2 : w.heap.size + 1 + 1 < w1.heap.size := by omega)); (try (have hy1w3 : w.heap.size + 1 + 1 + 1 < w1.heap.size := by omega)); (try (have hy1w4 : w.heap.size + 1 + 1 + 1 + 1 < w1.heap.size := by omega)); have r1_0 := keepC hb1 (b := w.heap.size + 1 + 1) (o := 0) (v := .int .i64 0) (by go_cell); have r1_1 := keepC hb1 (b := w.heap.size + 1 + 1) (o := 1) (v := .int .i64 0) (by go_cell); have r1_2 := keepC hb1 (b := w.heap.size + 1 + 1) (o := 2) (v := .int .i64 0) (by go_cell); have r1_3 := keepC hb1 (b := w.heap.size + 1 + 1) (o := 3) (v := .int .i64 0) (by go_cell); have r1_4 := keepC hb1 (b := w.heap.size + 1 + 1) (o := 4) (v := .int .i64 0) (by go_cell); have r1_5 := keepC hb1 (b := w.heap.size + 1 + 1) (o := 5) (v := .int .i64 0) (by go_cell); have r1_6 := keepC hb1 (b := w.heap.size + 1 + 1) (o := 6) (v := .int .i64 0) (by go_cell); have r1_7 := keepC hb1 (b := w.heap.size + 1 + 1) (o := 7) (v := .int .i64 0) (by go_cell); have r1_8 := keepC hb1 (b := w.heap.size + 1 + 1) (o := 8) (v := .int .i64 0) (by go_cell))
    (try simp only [Exit.inBlock, Exit.then]); refine bodyPost_ret (by simp [results, Try.results15, go_sem, *]; try rfl) rfl ?_
    exact ⟨by rw [hE.out]; try rfl, by (repeat' (first | (with_reducible exact Below.refl _ _) | (with_reducible assumption) | (with_reducible refine Below.alloc ?_ ?_ _) | (with_reducible refine Below.drew ?_) | (with_reducible refine below_drewN ?_ _) | (with_reducible refine Below.setCell ?_ ?_ _) | (refine Below.step ?_ (by with_reducible assumption) ?_) | go_size))⟩
  · have hE : Hid (muR p ⟨m0, m1, m2, m3, m4, m5, m6, m7, m8⟩ ⟨n0, n1, n2, n3, n4, n5, n6, n7, n8⟩ = (zM, 1)) := by show _ = _; unfold muR; rw [hk]; rfl
    go_enter Try.func15, Try.ntmps15
    go_wp2_with (go_at_call 56; refine (mapsCode_any p _ _ [⟨m0, m1, m2, m3, m4, m5, m6, m7, m8⟩, ⟨n0, n1, n2, n3, n4, n5, n6, n7, n8⟩] _ (rdM9_2 (by go_cell) (by go_cell) (by go_cell) (by go_cell) (by go_cell) (by go_cell) (by go_cell) (by go_cell) (by go_cell) (by go_cell) (by go_cell) (by go_cell) (by go_cell) (by go_cell) (by go_cell) (by go_cell) (by go_cell) (by go_cell)) (by go_size) (by simp)).mono ?_; rintro e w1 ⟨rfl, hb1⟩; obtain ⟨hc1, hf1⟩ := bcell hb1; have hz1 := hb1.size; (try simp only [World.size_alloc, World.size_setCell, World.size_drew] at hz1); (try (have hy1w0 : w.heap.size < w1.heap.size := by omega)); (try (have hy1w1 : w.heap.size + 1 < w1.heap.size := by omega)); (try (have hy1w2 : w.heap.size + 1 + 1 < w1.heap.size := by omega)); (try (have hy1w3 : w.heap.size + 1 + 1 + 1 < w1.heap.size := by omega)); (try (have hy1w4 : w.heap.size + 1 + 1 + 1 + 1 < w1.heap.size := by omega)); have r1_0 := keepC hb1 (b := w.heap.size + 1 + 1) (o := 0) (v := .int .i64 0) (by go_cell); have r1_1 := keepC hb1 (b := w.heap.size + 1 + 1) (o := 1) (v := .int .i64 0) (by go_cell); have r1_2 := keepC hb1 (b := w.heap.size + 1 + 1) (o := 2) (v := .int .i64 0) (by go_cell); have r1_3 := keepC hb1 (b := w.heap.size + 1 + 1) (o := 3) (v := .int .i64 0) (by go_cell); have r1_4 := keepC hb1 (b := w.heap.size + 1 + 1) (o := 4) (v := .int .i64 0) (by go_cell); have r1_5 := keepC hb1 (b := w.heap.size + 1 + 1) (o := 5) (v := .int .i64 0) (by go_cell); have r1_6 := keepC hb1 (b := w.heap.size + 1 + 1) (o := 6) (v := .int .i64 0) (by go_cell); have r1_7 := keepC hb1 (b := w.heap.size + 1 + 1) (o := 7) (v := .int .i64 0) (by go_cell); have r1_8 := keepC hb1 (b := w.heap.size + 1 + 1) (o := 8) (v := .int .i64 0) (by go_cell))
    (try simp only [Exit.inBlock, Exit.then]); refine bodyPost_ret (by simp [results, Try.results15, go_sem, *]; try rfl) rfl ?_
    exact ⟨by rw [hE.out]; try rfl, by (repeat' (first | (with_reducible exact Below.refl _ _) | (with_reducible assumption) | (with_reducible refine Below.alloc ?_ ?_ _) | (with_reducible refine Below.drew ?_) | (with_reducible refine below_drewN ?_ _) | (with_reducible refine Below.setCell ?_ ?_ _) | (refine Below.step ?_ (by with_reducible assumption) ?_) | go_size))⟩
  · have hE : Hid (muR p ⟨m0, m1, m2, m3, m4, m5, m6, m7, m8⟩ ⟨n0, n1, n2, n3, n4, n5, n6, n7, n8⟩ = (tmM p ⟨m0, m1, m2, m3, m4, m5, m6, m7, m8⟩ ⟨n0, n1, n2, n3, n4, n5, n6, n7, n8⟩, 0)) := by show _ = _; unfold muR; rw [hk]; rfl
    obtain ⟨tm, hok0⟩ := mp1 hok; obtain ⟨sm0, sm1, sm2, sm3, sm4, sm5, sm6, sm7, sm8⟩ := isMap_sm tm
    obtain ⟨tn, hok1⟩ := mp1 hok0; obtain ⟨sn0, sn1, sn2, sn3, sn4, sn5, sn6, sn7, sn8⟩ := isMap_sm tn
    replace sm0 : sm m0 := sm0; replace sm1 : sm m1 := sm1; replace sm2 : sm m2 := sm2; replace sm3 : sm m3 := sm3; replace sm4 : sm m4 := sm4; replace sm5 : sm m5 := sm5; replace sm6 : sm m6 := sm6; replace sm7 : sm m7 := sm7; replace sm8 : sm m8 := sm8; replace sn0 : sm n0 := sn0; replace sn1 : sm n1 := sn1; replace sn2 : sm n2 := sn2; replace sn3 : sm n3 := sn3; replace sn4 : sm n4 := sn4; replace sn5 : sm n5 := sn5; replace sn6 : sm n6 := sn6; replace sn7 : sm n7 := sn7; replace sn8 : sm n8 := sn8
    clear hok tm tn hok0 hok1
    have HP := Lib.hid hp; clear hp
    go_enter Try.func15, Try.ntmps15
    go_wp2_with (first | (go_at_call 56; refine (mapsCode_any p _ _ [⟨m0, m1, m2, m3, m4, m5, m6, m7, m8⟩, ⟨n0, n1, n2, n3, n4, n5, n6, n7, n8⟩] _ (rdM9_2 (by go_cell) (by go_cell) (by go_cell) (by go_cell) (by go_cell) (by go_cell) (by go_cell) (by go_cell) (by go_cell) (by go_cell) (by go_cell) (by go_cell) (by go_cell) (by go_cell) (by go_cell) (by go_cell) (by go_cell) (by go_cell)) (by go_size) (by simp)).mono ?_; rintro e w1 ⟨rfl, hb1⟩; obtain ⟨hc1, hf1⟩ := bcell hb1; have hz1 := hb1.size; (try simp only [World.size_alloc, World.size_setCell, World.size_drew] at hz1); (try (have hy1w0 : w.heap.size < w1.heap.size := by omega)); (try (have hy1w1 : w.heap.size + 1 < w1.heap.size := by omega)); (try (have hy1w2 : w.heap.size + 1 + 1 < w1.heap.size := by omega)); (try (have hy1w3 : w.heap.size + 1 + 1 + 1 < w1.heap.size := by omega)); (try (have hy1w4 : w.heap.size + 1 + 1 + 1 + 1 < w1.heap.size := by omega)); have r1_0 := keepC hb1 (b := w.heap.size + 1 + 1) (o := 0) (v := .int .i64 0) (by go_cell); have r1_1 := keepC hb1 (b := w.heap.size + 1 + 1) (o := 1) (v := .int .i64 0) (by go_cell); have r1_2 := keepC hb1 (b := w.heap.size + 1 + 1) (o := 2) (v := .int .i64 0) (by go_cell); have r1_3 := keepC hb1 (b := w.heap.size + 1 + 1) (o := 3) (v := .int .i64 0) (by go_cell); have r1_4 := keepC hb1 (b := w.heap.size + 1 + 1) (o := 4) (v := .int .i64 0) (by go_cell); have r1_5 := keepC hb1 (b := w.heap.size + 1 + 1) (o := 5) (v := .int .i64 0) (by go_cell); have r1_6 := keepC hb1 (b := w.heap.size + 1 + 1) (o := 6) (v := .int .i64 0) (by go_cell); have r1_7 := keepC hb1 (b := w.heap.size + 1 + 1) (o := 7) (v := .int .i64 0) (by go_cell); have r1_8 := keepC hb1 (b := w.heap.size + 1 + 1) (o := 8) (v := .int .i64 0) (by go_cell)) | (go_at_call 57; refine (times_any p m0 m1 m2 m3 m4 m5 m6 m7 m8 n0 n1 n2 n3 n4 n5 n6 n7 n8 _ HP.out sm0 sm1 sm2 sm3 sm4 sm5 sm6 sm7 sm8 sn0 sn1 sn2 sn3 sn4 sn5 sn6 sn7 sn8).mono ?_; rintro e w2 ⟨rfl, hb2⟩; obtain ⟨hc2, hf2⟩ := bcell hb2; have hz2 := hb2.size; (try simp only [World.size_alloc, World.size_setCell, World.size_drew] at hz2); (try (have hy2w0 : w.heap.size < w2.heap.size := by omega)); (try (have hy2w1 : w.heap.size + 1 < w2.heap.size := by omega)); (try (have hy2w2 : w.heap.size + 1 + 1 < w2.heap.size := by omega)); (try (have hy2w3 : w.heap.size + 1 + 1 + 1 < w2.heap.size := by omega)); (try (have hy2w4 : w.heap.size + 1 + 1 + 1 + 1 < w2.heap.size := by omega)); (try (have hy2w10 : w1.heap.size < w2.heap.size := by omega)); (try (have hy2w11 : w1.heap.size + 1 < w2.heap.size := by omega)); (try (have hy2w12 : w1.heap.size + 1 + 1 < w2.heap.size := by omega)); (try (have hy2w13 : w1.heap.size + 1 + 1 + 1 < w2.heap.size := by omega)); (try (have hy2w14 : w1.heap.size + 1 + 1 + 1 + 1 < w2.heap.size := by omega)); have r2_0 := keepC hb2 (b := w.heap.size + 1 + 1) (o := 0) (v := .int .i64 0) (by go_cell); have r2_1 := keepC hb2 (b := w.heap.size + 1 + 1) (o := 1) (v := .int .i64 0) (by go_cell); have r2_2 := keepC hb2 (b := w.heap.size + 1 + 1) (o := 2) (v := .int .i64 0) (by go_cell); have r2_3 := keepC hb2 (b := w.heap.size + 1 + 1) (o := 3) (v := .int .i64 0) (by go_cell); have r2_4 := keepC hb2 (b := w.heap.size + 1 + 1) (o := 4) (v := .int .i64 0) (by go_cell); have r2_5 := keepC hb2 (b := w.heap.size + 1 + 1) (o := 5) (v := .int .i64 0) (by go_cell); have r2_6 := keepC hb2 (b := w.heap.size + 1 + 1) (o := 6) (v := .int .i64 0) (by go_cell); have r2_7 := keepC hb2 (b := w.heap.size + 1 + 1) (o := 7) (v := .int .i64 0) (by go_cell); have r2_8 := keepC hb2 (b := w.heap.size + 1 + 1) (o := 8) (v := .int .i64 0) (by go_cell)))
    (try simp only [Exit.inBlock, Exit.then]); refine bodyPost_ret (by simp [results, Try.results15, go_sem, *]; try rfl) rfl ?_
    exact ⟨by rw [hE.out]; try rfl, by (repeat' (first | (with_reducible exact Below.refl _ _) | (with_reducible assumption) | (with_reducible refine Below.alloc ?_ ?_ _) | (with_reducible refine Below.drew ?_) | (with_reducible refine below_drewN ?_ _) | (with_reducible refine Below.setCell ?_ ?_ _) | (refine Below.step ?_ (by with_reducible assumption) ?_) | go_size))⟩

end Go.Proofs.Ythlmodofgoelbaa
