/- x -/
import Derived.Test.YtemimkbngfbomaaW25
namespace Go.Proofs.Ytemimkbngfbomaa
open Go.RowKit
set_option linter.unusedSimpArgs false
set_option linter.unusedVariables false
set_option maxRecDepth 100000

set_option maxHeartbeats 8000000 in
theorem product_any (p m0 m1 m2 m3 m4 m5 m6 m7 m8 n0 n1 n2 n3 n4 n5 n6 n7 n8 : Int) (w : World) (k1 : 3 ≤ p) (k2 : p ≤ 13) (sm0 : sm m0) (sm1 : sm m1) (sm2 : sm m2) (sm3 : sm m3) (sm4 : sm m4) (sm5 : sm m5) (sm6 : sm m6) (sm7 : sm m7) (sm8 : sm m8) (sn0 : sm n0) (sn1 : sm n1) (sn2 : sm n2) (sn3 : sm n3) (sn4 : sm n4) (sn5 : sm n5) (sn6 : sm n6) (sn7 : sm n7) (sn8 : sm n8) :
    Calls Try.prog 119 #[.int .i64 p, .agg #[.int .i64 m0, .int .i64 m1, .int .i64 m2, .int .i64 m3, .int .i64 m4, .int .i64 m5, .int .i64 m6, .int .i64 m7, .int .i64 m8], .agg #[.int .i64 n0, .int .i64 n1, .int .i64 n2, .int .i64 n3, .int .i64 n4, .int .i64 n5, .int .i64 n6, .int .i64 n7, .int .i64 n8]] w fun e w' => e = .returned (.agg #[.int .i64 (prM p ⟨m0, m1, m2, m3, m4, m5, m6, m7, m8⟩ ⟨n0, n1, n2, n3, n4, n5, n6, n7, n8⟩).m0, .int .i64 (prM p ⟨m0, m1, m2, m3, m4, m5, m6, m7, m8⟩ ⟨n0, n1, n2, n3, n4, n5, n6, n7, n8⟩).m1, .int .i64 (prM p ⟨m0, m1, m2, m3, m4, m5, m6, m7, m8⟩ ⟨n0, n1, n2, n3, n4, n5, n6, n7, n8⟩).m2, .int .i64 (prM p ⟨m0, m1, m2, m3, m4, m5, m6, m7, m8⟩ ⟨n0, n1, n2, n3, n4, n5, n6, n7, n8⟩).m3, .int .i64 (prM p ⟨m0, m1, m2, m3, m4, m5, m6, m7, m8⟩ ⟨n0, n1, n2, n3, n4, n5, n6, n7, n8⟩).m4, .int .i64 (prM p ⟨m0, m1, m2, m3, m4, m5, m6, m7, m8⟩ ⟨n0, n1, n2, n3, n4, n5, n6, n7, n8⟩).m5, .int .i64 (prM p ⟨m0, m1, m2, m3, m4, m5, m6, m7, m8⟩ ⟨n0, n1, n2, n3, n4, n5, n6, n7, n8⟩).m6, .int .i64 (prM p ⟨m0, m1, m2, m3, m4, m5, m6, m7, m8⟩ ⟨n0, n1, n2, n3, n4, n5, n6, n7, n8⟩).m7, .int .i64 (prM p ⟨m0, m1, m2, m3, m4, m5, m6, m7, m8⟩ ⟨n0, n1, n2, n3, n4, n5, n6, n7, n8⟩).m8]) ∧ Below w.heap.size w w' := by
  go_enter Try.func119, Try.ntmps119
  go_wp2_with (go_at_call 120; refine (transposed_any _ _ _ _ _ _ _ _ _ _).mono ?_; rintro e w1 ⟨rfl, hb1⟩; have hz1 := hb1.size; simp only [World.size_alloc] at hz1)
  refine wp_name (fun w' => Box 55 w' (w.heap.size) [m0, m1, m2, m3, m4, m5, m6, m7, m8] ∧ Box 55 w' (w.heap.size + 1) [n0, n1, n2, n3, n4, n5, n6, n7, n8] ∧ Box 55 w' (w.heap.size + 1 + 1) [0, 0, 0, 0, 0, 0, 0, 0, 0] ∧ Box 55 w' (w1.heap.size) [0, 0, 0, 0, 0, 0, 0, 0, 0] ∧ Box 55 w' (w1.heap.size + 1) [n0, n3, n6, n1, n4, n7, n2, n5, n8] ∧ Below w.heap.size w w') ⟨(by ((with_reducible refine Box.alloc ?_ _); (with_reducible refine Box.alloc ?_ _); (with_reducible refine Box.below hb1 ?_); (with_reducible refine Box.alloc ?_ _); (with_reducible refine Box.alloc ?_ _); refine Box.new [m0, m1, m2, m3, m4, m5, m6, m7, m8] ?_; first | with_reducible rfl | simp)), (by ((with_reducible refine Box.alloc ?_ _); (with_reducible refine Box.alloc ?_ _); (with_reducible refine Box.below hb1 ?_); (with_reducible refine Box.alloc ?_ _); refine Box.new [n0, n1, n2, n3, n4, n5, n6, n7, n8] ?_; first | with_reducible rfl | simp)), (by ((with_reducible refine Box.alloc ?_ _); (with_reducible refine Box.alloc ?_ _); (with_reducible refine Box.below hb1 ?_); refine Box.new [0, 0, 0, 0, 0, 0, 0, 0, 0] ?_; first | with_reducible rfl | simp)), (by ((with_reducible refine Box.alloc ?_ _); refine Box.new [0, 0, 0, 0, 0, 0, 0, 0, 0] ?_; first | with_reducible rfl | simp)), (by (refine Box.new [n0, n3, n6, n1, n4, n7, n2, n5, n8] ?_; first | with_reducible rfl | simp)), by (repeat' (first | (with_reducible exact Below.refl _ _) | (with_reducible assumption) | (with_reducible refine Below.alloc ?_ ?_ _) | (with_reducible refine Below.drew ?_) | (with_reducible refine below_drewN ?_ _) | (with_reducible refine Below.setCell ?_ ?_ _) | (refine Below.step ?_ (by with_reducible assumption) ?_) | go_size))⟩ ?_
  rintro wq0 ⟨Bm0, Bn0, Br0, Bo0, Bc0, hB0⟩
  have hz0 := hB0.size
  have ltm0 := Bm0.lt
  have ltn0 := Bn0.lt
  have ltr0 := Br0.lt
  have lto0 := Bo0.lt
  have ltc0 := Bc0.lt
  clear hb1
  refine wp_loop_rounds 4 ?_
  rw [rounds_succ]
  go_wp2_with fail
  refine wp_loop_rounds 4 ?_
  rw [rounds_succ]
  go_wp2_with fail
  have rd0 := Bm0.cell 0 rfl
  have rd1 := Bm0.cell 1 rfl
  have rd2 := Bm0.cell 2 rfl
  have rd3 := Bc0.cell 0 rfl
  have rd4 := Bc0.cell 1 rfl
  have rd5 := Bc0.cell 2 rfl
  have st := Bo0.cell 0 rfl
  have sf := Bo0.frz 0
  go_region_held3 (fun w' => w'.cell? ⟨w.heap.size, 0, none⟩ = some (.int .i64 (m0)) ∧ w'.cell? ⟨w.heap.size, 1, none⟩ = some (.int .i64 (m1)) ∧ w'.cell? ⟨w.heap.size, 2, none⟩ = some (.int .i64 (m2)) ∧ w'.cell? ⟨w1.heap.size + 1, 0, none⟩ = some (.int .i64 (n0)) ∧ w'.cell? ⟨w1.heap.size + 1, 1, none⟩ = some (.int .i64 (n3)) ∧ w'.cell? ⟨w1.heap.size + 1, 2, none⟩ = some (.int .i64 (n6))) ((go_split_ands; (repeat (any_goals (with_reducible apply And.intro))) <;> (first | (with_reducible assumption) | (with_reducible exact keepD (by with_reducible assumption)) | (with_reducible exact keepC (by with_reducible assumption) (by with_reducible assumption)) | ((with_reducible refine keepS2 ?_ (by omega)); (with_reducible assumption))))) ((go_at_call 61; refine (dot_any p m0 m1 m2 n0 n3 n6 _ k1 k2 sm0 sm1 sm2 sn0 sn3 sn6).mono ?_; rintro e w2 ⟨rfl, hb2⟩; have st := (Box.below hb2 (Box.drew Bo0)).cell 0 rfl; have sf := (Box.below hb2 (Box.drew Bo0)).frz 0))
  go_wp2_with fail
  clear rd0 rd1 rd2 rd3 rd4 rd5
  rw [rounds_succ]
  go_wp2_with fail
  refine wp_name (fun w' => Box 55 w' (w.heap.size) [m0, m1, m2, m3, m4, m5, m6, m7, m8] ∧ Box 55 w' (w.heap.size + 1) [n0, n1, n2, n3, n4, n5, n6, n7, n8] ∧ Box 55 w' (w.heap.size + 1 + 1) [0, 0, 0, 0, 0, 0, 0, 0, 0] ∧ Box 55 w' (w1.heap.size) [dot3 p m0 m1 m2 n0 n3 n6, 0, 0, 0, 0, 0, 0, 0, 0] ∧ Box 55 w' (w1.heap.size + 1) [n0, n3, n6, n1, n4, n7, n2, n5, n8] ∧ Below w.heap.size w w') ⟨Box.far (Box.below hb2 (Box.drew Bm0)) (by omega), Box.far (Box.below hb2 (Box.drew Bn0)) (by omega), Box.far (Box.below hb2 (Box.drew Br0)) (by omega), (Box.set (Box.below hb2 (Box.drew Bo0)) 0 (dot3 p m0 m1 m2 n0 n3 n6)).cast rfl, Box.far (Box.below hb2 (Box.drew Bc0)) (by omega), Below.setCell (p := ⟨w1.heap.size, 0, none⟩) (Below.step hB0.drew hb2 (by simp only [World.size_drew]; omega)) (by simp only []; omega) _⟩ ?_
  rintro wq1 ⟨Bm1, Bn1, Br1, Bo1, Bc1, hB1⟩
  clear st sf hb2 Bm0 Bn0 Br0 Bo0 Bc0 hB0 ltm0 ltn0 ltr0 lto0 ltc0 hz0
  have hz1 := hB1.size
  have ltm1 := Bm1.lt
  have ltn1 := Bn1.lt
  have ltr1 := Br1.lt
  have lto1 := Bo1.lt
  have ltc1 := Bc1.lt
  have rd0 := Bm1.cell 0 rfl
  have rd1 := Bm1.cell 1 rfl
  have rd2 := Bm1.cell 2 rfl
  have rd3 := Bc1.cell 3 rfl
  have rd4 := Bc1.cell 4 rfl
  have rd5 := Bc1.cell 5 rfl
  have st := Bo1.cell 1 rfl
  have sf := Bo1.frz 1
  go_region_held3 (fun w' => w'.cell? ⟨w.heap.size, 0, none⟩ = some (.int .i64 (m0)) ∧ w'.cell? ⟨w.heap.size, 1, none⟩ = some (.int .i64 (m1)) ∧ w'.cell? ⟨w.heap.size, 2, none⟩ = some (.int .i64 (m2)) ∧ w'.cell? ⟨w1.heap.size + 1, 3, none⟩ = some (.int .i64 (n1)) ∧ w'.cell? ⟨w1.heap.size + 1, 4, none⟩ = some (.int .i64 (n4)) ∧ w'.cell? ⟨w1.heap.size + 1, 5, none⟩ = some (.int .i64 (n7))) ((go_split_ands; (repeat (any_goals (with_reducible apply And.intro))) <;> (first | (with_reducible assumption) | (with_reducible exact keepD (by with_reducible assumption)) | (with_reducible exact keepC (by with_reducible assumption) (by with_reducible assumption)) | ((with_reducible refine keepS2 ?_ (by omega)); (with_reducible assumption))))) ((go_at_call 61; refine (dot_any p m0 m1 m2 n1 n4 n7 _ k1 k2 sm0 sm1 sm2 sn1 sn4 sn7).mono ?_; rintro e w2 ⟨rfl, hb2⟩; have st := (Box.below hb2 (Box.drew Bo1)).cell 1 rfl; have sf := (Box.below hb2 (Box.drew Bo1)).frz 1))
  go_wp2_with fail
  clear rd0 rd1 rd2 rd3 rd4 rd5
  rw [rounds_succ]
  go_wp2_with fail
  refine wp_name (fun w' => Box 55 w' (w.heap.size) [m0, m1, m2, m3, m4, m5, m6, m7, m8] ∧ Box 55 w' (w.heap.size + 1) [n0, n1, n2, n3, n4, n5, n6, n7, n8] ∧ Box 55 w' (w.heap.size + 1 + 1) [0, 0, 0, 0, 0, 0, 0, 0, 0] ∧ Box 55 w' (w1.heap.size) [dot3 p m0 m1 m2 n0 n3 n6, dot3 p m0 m1 m2 n1 n4 n7, 0, 0, 0, 0, 0, 0, 0] ∧ Box 55 w' (w1.heap.size + 1) [n0, n3, n6, n1, n4, n7, n2, n5, n8] ∧ Below w.heap.size w w') ⟨Box.far (Box.below hb2 (Box.drew Bm1)) (by omega), Box.far (Box.below hb2 (Box.drew Bn1)) (by omega), Box.far (Box.below hb2 (Box.drew Br1)) (by omega), (Box.set (Box.below hb2 (Box.drew Bo1)) 1 (dot3 p m0 m1 m2 n1 n4 n7)).cast rfl, Box.far (Box.below hb2 (Box.drew Bc1)) (by omega), Below.setCell (p := ⟨w1.heap.size, 1, none⟩) (Below.step hB1.drew hb2 (by simp only [World.size_drew]; omega)) (by simp only []; omega) _⟩ ?_
  rintro wq2 ⟨Bm2, Bn2, Br2, Bo2, Bc2, hB2⟩
  clear st sf hb2 Bm1 Bn1 Br1 Bo1 Bc1 hB1 ltm1 ltn1 ltr1 lto1 ltc1 hz1
  have hz2 := hB2.size
  have ltm2 := Bm2.lt
  have ltn2 := Bn2.lt
  have ltr2 := Br2.lt
  have lto2 := Bo2.lt
  have ltc2 := Bc2.lt
  have rd0 := Bm2.cell 0 rfl
  have rd1 := Bm2.cell 1 rfl
  have rd2 := Bm2.cell 2 rfl
  have rd3 := Bc2.cell 6 rfl
  have rd4 := Bc2.cell 7 rfl
  have rd5 := Bc2.cell 8 rfl
  have st := Bo2.cell 2 rfl
  have sf := Bo2.frz 2
  go_region_held3 (fun w' => w'.cell? ⟨w.heap.size, 0, none⟩ = some (.int .i64 (m0)) ∧ w'.cell? ⟨w.heap.size, 1, none⟩ = some (.int .i64 (m1)) ∧ w'.cell? ⟨w.heap.size, 2, none⟩ = some (.int .i64 (m2)) ∧ w'.cell? ⟨w1.heap.size + 1, 6, none⟩ = some (.int .i64 (n2)) ∧ w'.cell? ⟨w1.heap.size + 1, 7, none⟩ = some (.int .i64 (n5)) ∧ w'.cell? ⟨w1.heap.size + 1, 8, none⟩ = some (.int .i64 (n8))) ((go_split_ands; (repeat (any_goals (with_reducible apply And.intro))) <;> (first | (with_reducible assumption) | (with_reducible exact keepD (by with_reducible assumption)) | (with_reducible exact keepC (by with_reducible assumption) (by with_reducible assumption)) | ((with_reducible refine keepS2 ?_ (by omega)); (with_reducible assumption))))) ((go_at_call 61; refine (dot_any p m0 m1 m2 n2 n5 n8 _ k1 k2 sm0 sm1 sm2 sn2 sn5 sn8).mono ?_; rintro e w2 ⟨rfl, hb2⟩; have st := (Box.below hb2 (Box.drew Bo2)).cell 2 rfl; have sf := (Box.below hb2 (Box.drew Bo2)).frz 2))
  go_wp2_with fail
  clear rd0 rd1 rd2 rd3 rd4 rd5
  rw [rounds_succ]
  go_wp2_with fail
  rw [rounds_succ]
  go_wp2_with fail
  refine wp_loop_rounds 4 ?_
  rw [rounds_succ]
  go_wp2_with fail
  refine wp_name (fun w' => Box 55 w' (w.heap.size) [m0, m1, m2, m3, m4, m5, m6, m7, m8] ∧ Box 55 w' (w.heap.size + 1) [n0, n1, n2, n3, n4, n5, n6, n7, n8] ∧ Box 55 w' (w.heap.size + 1 + 1) [0, 0, 0, 0, 0, 0, 0, 0, 0] ∧ Box 55 w' (w1.heap.size) [dot3 p m0 m1 m2 n0 n3 n6, dot3 p m0 m1 m2 n1 n4 n7, dot3 p m0 m1 m2 n2 n5 n8, 0, 0, 0, 0, 0, 0] ∧ Box 55 w' (w1.heap.size + 1) [n0, n3, n6, n1, n4, n7, n2, n5, n8] ∧ Below w.heap.size w w') ⟨Box.far (Box.below hb2 (Box.drew Bm2)) (by omega), Box.far (Box.below hb2 (Box.drew Bn2)) (by omega), Box.far (Box.below hb2 (Box.drew Br2)) (by omega), (Box.set (Box.below hb2 (Box.drew Bo2)) 2 (dot3 p m0 m1 m2 n2 n5 n8)).cast rfl, Box.far (Box.below hb2 (Box.drew Bc2)) (by omega), Below.setCell (p := ⟨w1.heap.size, 2, none⟩) (Below.step hB2.drew hb2 (by simp only [World.size_drew]; omega)) (by simp only []; omega) _⟩ ?_
  rintro wq3 ⟨Bm3, Bn3, Br3, Bo3, Bc3, hB3⟩
  clear st sf hb2 Bm2 Bn2 Br2 Bo2 Bc2 hB2 ltm2 ltn2 ltr2 lto2 ltc2 hz2
  have hz3 := hB3.size
  have ltm3 := Bm3.lt
  have ltn3 := Bn3.lt
  have ltr3 := Br3.lt
  have lto3 := Bo3.lt
  have ltc3 := Bc3.lt
  have rd0 := Bm3.cell 3 rfl
  have rd1 := Bm3.cell 4 rfl
  have rd2 := Bm3.cell 5 rfl
  have rd3 := Bc3.cell 0 rfl
  have rd4 := Bc3.cell 1 rfl
  have rd5 := Bc3.cell 2 rfl
  have st := Bo3.cell 3 rfl
  have sf := Bo3.frz 3
  go_region_held3 (fun w' => w'.cell? ⟨w.heap.size, 3, none⟩ = some (.int .i64 (m3)) ∧ w'.cell? ⟨w.heap.size, 4, none⟩ = some (.int .i64 (m4)) ∧ w'.cell? ⟨w.heap.size, 5, none⟩ = some (.int .i64 (m5)) ∧ w'.cell? ⟨w1.heap.size + 1, 0, none⟩ = some (.int .i64 (n0)) ∧ w'.cell? ⟨w1.heap.size + 1, 1, none⟩ = some (.int .i64 (n3)) ∧ w'.cell? ⟨w1.heap.size + 1, 2, none⟩ = some (.int .i64 (n6))) ((go_split_ands; (repeat (any_goals (with_reducible apply And.intro))) <;> (first | (with_reducible assumption) | (with_reducible exact keepD (by with_reducible assumption)) | (with_reducible exact keepC (by with_reducible assumption) (by with_reducible assumption)) | ((with_reducible refine keepS2 ?_ (by omega)); (with_reducible assumption))))) ((go_at_call 61; refine (dot_any p m3 m4 m5 n0 n3 n6 _ k1 k2 sm3 sm4 sm5 sn0 sn3 sn6).mono ?_; rintro e w2 ⟨rfl, hb2⟩; have st := (Box.below hb2 (Box.drew Bo3)).cell 3 rfl; have sf := (Box.below hb2 (Box.drew Bo3)).frz 3))
  go_wp2_with fail
  clear rd0 rd1 rd2 rd3 rd4 rd5
  rw [rounds_succ]
  go_wp2_with fail
  refine wp_name (fun w' => Box 55 w' (w.heap.size) [m0, m1, m2, m3, m4, m5, m6, m7, m8] ∧ Box 55 w' (w.heap.size + 1) [n0, n1, n2, n3, n4, n5, n6, n7, n8] ∧ Box 55 w' (w.heap.size + 1 + 1) [0, 0, 0, 0, 0, 0, 0, 0, 0] ∧ Box 55 w' (w1.heap.size) [dot3 p m0 m1 m2 n0 n3 n6, dot3 p m0 m1 m2 n1 n4 n7, dot3 p m0 m1 m2 n2 n5 n8, dot3 p m3 m4 m5 n0 n3 n6, 0, 0, 0, 0, 0] ∧ Box 55 w' (w1.heap.size + 1) [n0, n3, n6, n1, n4, n7, n2, n5, n8] ∧ Below w.heap.size w w') ⟨Box.far (Box.below hb2 (Box.drew Bm3)) (by omega), Box.far (Box.below hb2 (Box.drew Bn3)) (by omega), Box.far (Box.below hb2 (Box.drew Br3)) (by omega), (Box.set (Box.below hb2 (Box.drew Bo3)) 3 (dot3 p m3 m4 m5 n0 n3 n6)).cast rfl, Box.far (Box.below hb2 (Box.drew Bc3)) (by omega), Below.setCell (p := ⟨w1.heap.size, 3, none⟩) (Below.step hB3.drew hb2 (by simp only [World.size_drew]; omega)) (by simp only []; omega) _⟩ ?_
  rintro wq4 ⟨Bm4, Bn4, Br4, Bo4, Bc4, hB4⟩
  clear st sf hb2 Bm3 Bn3 Br3 Bo3 Bc3 hB3 ltm3 ltn3 ltr3 lto3 ltc3 hz3
  have hz4 := hB4.size
  have ltm4 := Bm4.lt
  have ltn4 := Bn4.lt
  have ltr4 := Br4.lt
  have lto4 := Bo4.lt
  have ltc4 := Bc4.lt
  have rd0 := Bm4.cell 3 rfl
  have rd1 := Bm4.cell 4 rfl
  have rd2 := Bm4.cell 5 rfl
  have rd3 := Bc4.cell 3 rfl
  have rd4 := Bc4.cell 4 rfl
  have rd5 := Bc4.cell 5 rfl
  have st := Bo4.cell 4 rfl
  have sf := Bo4.frz 4
  go_region_held3 (fun w' => w'.cell? ⟨w.heap.size, 3, none⟩ = some (.int .i64 (m3)) ∧ w'.cell? ⟨w.heap.size, 4, none⟩ = some (.int .i64 (m4)) ∧ w'.cell? ⟨w.heap.size, 5, none⟩ = some (.int .i64 (m5)) ∧ w'.cell? ⟨w1.heap.size + 1, 3, none⟩ = some (.int .i64 (n1)) ∧ w'.cell? ⟨w1.heap.size + 1, 4, none⟩ = some (.int .i64 (n4)) ∧ w'.cell? ⟨w1.heap.size + 1, 5, none⟩ = some (.int .i64 (n7))) ((go_split_ands; (repeat (any_goals (with_reducible apply And.intro))) <;> (first | (with_reducible assumption) | (with_reducible exact keepD (by with_reducible assumption)) | (with_reducible exact keepC (by with_reducible assumption) (by with_reducible assumption)) | ((with_reducible refine keepS2 ?_ (by omega)); (with_reducible assumption))))) ((go_at_call 61; refine (dot_any p m3 m4 m5 n1 n4 n7 _ k1 k2 sm3 sm4 sm5 sn1 sn4 sn7).mono ?_; rintro e w2 ⟨rfl, hb2⟩; have st := (Box.below hb2 (Box.drew Bo4)).cell 4 rfl; have sf := (Box.below hb2 (Box.drew Bo4)).frz 4))
  go_wp2_with fail
  clear rd0 rd1 rd2 rd3 rd4 rd5
  rw [rounds_succ]
  go_wp2_with fail
  refine wp_name (fun w' => Box 55 w' (w.heap.size) [m0, m1, m2, m3, m4, m5, m6, m7, m8] ∧ Box 55 w' (w.heap.size + 1) [n0, n1, n2, n3, n4, n5, n6, n7, n8] ∧ Box 55 w' (w.heap.size + 1 + 1) [0, 0, 0, 0, 0, 0, 0, 0, 0] ∧ Box 55 w' (w1.heap.size) [dot3 p m0 m1 m2 n0 n3 n6, dot3 p m0 m1 m2 n1 n4 n7, dot3 p m0 m1 m2 n2 n5 n8, dot3 p m3 m4 m5 n0 n3 n6, dot3 p m3 m4 m5 n1 n4 n7, 0, 0, 0, 0] ∧ Box 55 w' (w1.heap.size + 1) [n0, n3, n6, n1, n4, n7, n2, n5, n8] ∧ Below w.heap.size w w') ⟨Box.far (Box.below hb2 (Box.drew Bm4)) (by omega), Box.far (Box.below hb2 (Box.drew Bn4)) (by omega), Box.far (Box.below hb2 (Box.drew Br4)) (by omega), (Box.set (Box.below hb2 (Box.drew Bo4)) 4 (dot3 p m3 m4 m5 n1 n4 n7)).cast rfl, Box.far (Box.below hb2 (Box.drew Bc4)) (by omega), Below.setCell (p := ⟨w1.heap.size, 4, none⟩) (Below.step hB4.drew hb2 (by simp only [World.size_drew]; omega)) (by simp only []; omega) _⟩ ?_
  rintro wq5 ⟨Bm5, Bn5, Br5, Bo5, Bc5, hB5⟩
  clear st sf hb2 Bm4 Bn4 Br4 Bo4 Bc4 hB4 ltm4 ltn4 ltr4 lto4 ltc4 hz4
  have hz5 := hB5.size
  have ltm5 := Bm5.lt
  have ltn5 := Bn5.lt
  have ltr5 := Br5.lt
  have lto5 := Bo5.lt
  have ltc5 := Bc5.lt
  have rd0 := Bm5.cell 3 rfl
  have rd1 := Bm5.cell 4 rfl
  have rd2 := Bm5.cell 5 rfl
  have rd3 := Bc5.cell 6 rfl
  have rd4 := Bc5.cell 7 rfl
  have rd5 := Bc5.cell 8 rfl
  have st := Bo5.cell 5 rfl
  have sf := Bo5.frz 5
  go_region_held3 (fun w' => w'.cell? ⟨w.heap.size, 3, none⟩ = some (.int .i64 (m3)) ∧ w'.cell? ⟨w.heap.size, 4, none⟩ = some (.int .i64 (m4)) ∧ w'.cell? ⟨w.heap.size, 5, none⟩ = some (.int .i64 (m5)) ∧ w'.cell? ⟨w1.heap.size + 1, 6, none⟩ = some (.int .i64 (n2)) ∧ w'.cell? ⟨w1.heap.size + 1, 7, none⟩ = some (.int .i64 (n5)) ∧ w'.cell? ⟨w1.heap.size + 1, 8, none⟩ = some (.int .i64 (n8))) ((go_split_ands; (repeat (any_goals (with_reducible apply And.intro))) <;> (first | (with_reducible assumption) | (with_reducible exact keepD (by with_reducible assumption)) | (with_reducible exact keepC (by with_reducible assumption) (by with_reducible assumption)) | ((with_reducible refine keepS2 ?_ (by omega)); (with_reducible assumption))))) ((go_at_call 61; refine (dot_any p m3 m4 m5 n2 n5 n8 _ k1 k2 sm3 sm4 sm5 sn2 sn5 sn8).mono ?_; rintro e w2 ⟨rfl, hb2⟩; have st := (Box.below hb2 (Box.drew Bo5)).cell 5 rfl; have sf := (Box.below hb2 (Box.drew Bo5)).frz 5))
  go_wp2_with fail
  clear rd0 rd1 rd2 rd3 rd4 rd5
  rw [rounds_succ]
  go_wp2_with fail
  rw [rounds_succ]
  go_wp2_with fail
  refine wp_loop_rounds 4 ?_
  rw [rounds_succ]
  go_wp2_with fail
  refine wp_name (fun w' => Box 55 w' (w.heap.size) [m0, m1, m2, m3, m4, m5, m6, m7, m8] ∧ Box 55 w' (w.heap.size + 1) [n0, n1, n2, n3, n4, n5, n6, n7, n8] ∧ Box 55 w' (w.heap.size + 1 + 1) [0, 0, 0, 0, 0, 0, 0, 0, 0] ∧ Box 55 w' (w1.heap.size) [dot3 p m0 m1 m2 n0 n3 n6, dot3 p m0 m1 m2 n1 n4 n7, dot3 p m0 m1 m2 n2 n5 n8, dot3 p m3 m4 m5 n0 n3 n6, dot3 p m3 m4 m5 n1 n4 n7, dot3 p m3 m4 m5 n2 n5 n8, 0, 0, 0] ∧ Box 55 w' (w1.heap.size + 1) [n0, n3, n6, n1, n4, n7, n2, n5, n8] ∧ Below w.heap.size w w') ⟨Box.far (Box.below hb2 (Box.drew Bm5)) (by omega), Box.far (Box.below hb2 (Box.drew Bn5)) (by omega), Box.far (Box.below hb2 (Box.drew Br5)) (by omega), (Box.set (Box.below hb2 (Box.drew Bo5)) 5 (dot3 p m3 m4 m5 n2 n5 n8)).cast rfl, Box.far (Box.below hb2 (Box.drew Bc5)) (by omega), Below.setCell (p := ⟨w1.heap.size, 5, none⟩) (Below.step hB5.drew hb2 (by simp only [World.size_drew]; omega)) (by simp only []; omega) _⟩ ?_
  rintro wq6 ⟨Bm6, Bn6, Br6, Bo6, Bc6, hB6⟩
  clear st sf hb2 Bm5 Bn5 Br5 Bo5 Bc5 hB5 ltm5 ltn5 ltr5 lto5 ltc5 hz5
  have hz6 := hB6.size
  have ltm6 := Bm6.lt
  have ltn6 := Bn6.lt
  have ltr6 := Br6.lt
  have lto6 := Bo6.lt
  have ltc6 := Bc6.lt
  have rd0 := Bm6.cell 6 rfl
  have rd1 := Bm6.cell 7 rfl
  have rd2 := Bm6.cell 8 rfl
  have rd3 := Bc6.cell 0 rfl
  have rd4 := Bc6.cell 1 rfl
  have rd5 := Bc6.cell 2 rfl
  have st := Bo6.cell 6 rfl
  have sf := Bo6.frz 6
  go_region_held3 (fun w' => w'.cell? ⟨w.heap.size, 6, none⟩ = some (.int .i64 (m6)) ∧ w'.cell? ⟨w.heap.size, 7, none⟩ = some (.int .i64 (m7)) ∧ w'.cell? ⟨w.heap.size, 8, none⟩ = some (.int .i64 (m8)) ∧ w'.cell? ⟨w1.heap.size + 1, 0, none⟩ = some (.int .i64 (n0)) ∧ w'.cell? ⟨w1.heap.size + 1, 1, none⟩ = some (.int .i64 (n3)) ∧ w'.cell? ⟨w1.heap.size + 1, 2, none⟩ = some (.int .i64 (n6))) ((go_split_ands; (repeat (any_goals (with_reducible apply And.intro))) <;> (first | (with_reducible assumption) | (with_reducible exact keepD (by with_reducible assumption)) | (with_reducible exact keepC (by with_reducible assumption) (by with_reducible assumption)) | ((with_reducible refine keepS2 ?_ (by omega)); (with_reducible assumption))))) ((go_at_call 61; refine (dot_any p m6 m7 m8 n0 n3 n6 _ k1 k2 sm6 sm7 sm8 sn0 sn3 sn6).mono ?_; rintro e w2 ⟨rfl, hb2⟩; have st := (Box.below hb2 (Box.drew Bo6)).cell 6 rfl; have sf := (Box.below hb2 (Box.drew Bo6)).frz 6))
  go_wp2_with fail
  clear rd0 rd1 rd2 rd3 rd4 rd5
  rw [rounds_succ]
  go_wp2_with fail
  refine wp_name (fun w' => Box 55 w' (w.heap.size) [m0, m1, m2, m3, m4, m5, m6, m7, m8] ∧ Box 55 w' (w.heap.size + 1) [n0, n1, n2, n3, n4, n5, n6, n7, n8] ∧ Box 55 w' (w.heap.size + 1 + 1) [0, 0, 0, 0, 0, 0, 0, 0, 0] ∧ Box 55 w' (w1.heap.size) [dot3 p m0 m1 m2 n0 n3 n6, dot3 p m0 m1 m2 n1 n4 n7, dot3 p m0 m1 m2 n2 n5 n8, dot3 p m3 m4 m5 n0 n3 n6, dot3 p m3 m4 m5 n1 n4 n7, dot3 p m3 m4 m5 n2 n5 n8, dot3 p m6 m7 m8 n0 n3 n6, 0, 0] ∧ Box 55 w' (w1.heap.size + 1) [n0, n3, n6, n1, n4, n7, n2, n5, n8] ∧ Below w.heap.size w w') ⟨Box.far (Box.below hb2 (Box.drew Bm6)) (by omega), Box.far (Box.below hb2 (Box.drew Bn6)) (by omega), Box.far (Box.below hb2 (Box.drew Br6)) (by omega), (Box.set (Box.below hb2 (Box.drew Bo6)) 6 (dot3 p m6 m7 m8 n0 n3 n6)).cast rfl, Box.far (Box.below hb2 (Box.drew Bc6)) (by omega), Below.setCell (p := ⟨w1.heap.size, 6, none⟩) (Below.step hB6.drew hb2 (by simp only [World.size_drew]; omega)) (by simp only []; omega) _⟩ ?_
  rintro wq7 ⟨Bm7, Bn7, Br7, Bo7, Bc7, hB7⟩
  clear st sf hb2 Bm6 Bn6 Br6 Bo6 Bc6 hB6 ltm6 ltn6 ltr6 lto6 ltc6 hz6
  have hz7 := hB7.size
  have ltm7 := Bm7.lt
  have ltn7 := Bn7.lt
  have ltr7 := Br7.lt
  have lto7 := Bo7.lt
  have ltc7 := Bc7.lt
  have rd0 := Bm7.cell 6 rfl
  have rd1 := Bm7.cell 7 rfl
  have rd2 := Bm7.cell 8 rfl
  have rd3 := Bc7.cell 3 rfl
  have rd4 := Bc7.cell 4 rfl
  have rd5 := Bc7.cell 5 rfl
  have st := Bo7.cell 7 rfl
  have sf := Bo7.frz 7
  go_region_held3 (fun w' => w'.cell? ⟨w.heap.size, 6, none⟩ = some (.int .i64 (m6)) ∧ w'.cell? ⟨w.heap.size, 7, none⟩ = some (.int .i64 (m7)) ∧ w'.cell? ⟨w.heap.size, 8, none⟩ = some (.int .i64 (m8)) ∧ w'.cell? ⟨w1.heap.size + 1, 3, none⟩ = some (.int .i64 (n1)) ∧ w'.cell? ⟨w1.heap.size + 1, 4, none⟩ = some (.int .i64 (n4)) ∧ w'.cell? ⟨w1.heap.size + 1, 5, none⟩ = some (.int .i64 (n7))) ((go_split_ands; (repeat (any_goals (with_reducible apply And.intro))) <;> (first | (with_reducible assumption) | (with_reducible exact keepD (by with_reducible assumption)) | (with_reducible exact keepC (by with_reducible assumption) (by with_reducible assumption)) | ((with_reducible refine keepS2 ?_ (by omega)); (with_reducible assumption))))) ((go_at_call 61; refine (dot_any p m6 m7 m8 n1 n4 n7 _ k1 k2 sm6 sm7 sm8 sn1 sn4 sn7).mono ?_; rintro e w2 ⟨rfl, hb2⟩; have st := (Box.below hb2 (Box.drew Bo7)).cell 7 rfl; have sf := (Box.below hb2 (Box.drew Bo7)).frz 7))
  go_wp2_with fail
  clear rd0 rd1 rd2 rd3 rd4 rd5
  rw [rounds_succ]
  go_wp2_with fail
  refine wp_name (fun w' => Box 55 w' (w.heap.size) [m0, m1, m2, m3, m4, m5, m6, m7, m8] ∧ Box 55 w' (w.heap.size + 1) [n0, n1, n2, n3, n4, n5, n6, n7, n8] ∧ Box 55 w' (w.heap.size + 1 + 1) [0, 0, 0, 0, 0, 0, 0, 0, 0] ∧ Box 55 w' (w1.heap.size) [dot3 p m0 m1 m2 n0 n3 n6, dot3 p m0 m1 m2 n1 n4 n7, dot3 p m0 m1 m2 n2 n5 n8, dot3 p m3 m4 m5 n0 n3 n6, dot3 p m3 m4 m5 n1 n4 n7, dot3 p m3 m4 m5 n2 n5 n8, dot3 p m6 m7 m8 n0 n3 n6, dot3 p m6 m7 m8 n1 n4 n7, 0] ∧ Box 55 w' (w1.heap.size + 1) [n0, n3, n6, n1, n4, n7, n2, n5, n8] ∧ Below w.heap.size w w') ⟨Box.far (Box.below hb2 (Box.drew Bm7)) (by omega), Box.far (Box.below hb2 (Box.drew Bn7)) (by omega), Box.far (Box.below hb2 (Box.drew Br7)) (by omega), (Box.set (Box.below hb2 (Box.drew Bo7)) 7 (dot3 p m6 m7 m8 n1 n4 n7)).cast rfl, Box.far (Box.below hb2 (Box.drew Bc7)) (by omega), Below.setCell (p := ⟨w1.heap.size, 7, none⟩) (Below.step hB7.drew hb2 (by simp only [World.size_drew]; omega)) (by simp only []; omega) _⟩ ?_
  rintro wq8 ⟨Bm8, Bn8, Br8, Bo8, Bc8, hB8⟩
  clear st sf hb2 Bm7 Bn7 Br7 Bo7 Bc7 hB7 ltm7 ltn7 ltr7 lto7 ltc7 hz7
  have hz8 := hB8.size
  have ltm8 := Bm8.lt
  have ltn8 := Bn8.lt
  have ltr8 := Br8.lt
  have lto8 := Bo8.lt
  have ltc8 := Bc8.lt
  have rd0 := Bm8.cell 6 rfl
  have rd1 := Bm8.cell 7 rfl
  have rd2 := Bm8.cell 8 rfl
  have rd3 := Bc8.cell 6 rfl
  have rd4 := Bc8.cell 7 rfl
  have rd5 := Bc8.cell 8 rfl
  have st := Bo8.cell 8 rfl
  have sf := Bo8.frz 8
  go_region_held3 (fun w' => w'.cell? ⟨w.heap.size, 6, none⟩ = some (.int .i64 (m6)) ∧ w'.cell? ⟨w.heap.size, 7, none⟩ = some (.int .i64 (m7)) ∧ w'.cell? ⟨w.heap.size, 8, none⟩ = some (.int .i64 (m8)) ∧ w'.cell? ⟨w1.heap.size + 1, 6, none⟩ = some (.int .i64 (n2)) ∧ w'.cell? ⟨w1.heap.size + 1, 7, none⟩ = some (.int .i64 (n5)) ∧ w'.cell? ⟨w1.heap.size + 1, 8, none⟩ = some (.int .i64 (n8))) ((go_split_ands; (repeat (any_goals (with_reducible apply And.intro))) <;> (first | (with_reducible assumption) | (with_reducible exact keepD (by with_reducible assumption)) | (with_reducible exact keepC (by with_reducible assumption) (by with_reducible assumption)) | ((with_reducible refine keepS2 ?_ (by omega)); (with_reducible assumption))))) ((go_at_call 61; refine (dot_any p m6 m7 m8 n2 n5 n8 _ k1 k2 sm6 sm7 sm8 sn2 sn5 sn8).mono ?_; rintro e w2 ⟨rfl, hb2⟩; have st := (Box.below hb2 (Box.drew Bo8)).cell 8 rfl; have sf := (Box.below hb2 (Box.drew Bo8)).frz 8))
  go_wp2_with fail
  clear rd0 rd1 rd2 rd3 rd4 rd5
  rw [rounds_succ]
  go_wp2_with fail
  have rs0 := (Box.below hb2 (Box.drew Br8)).cell 0 rfl
  have rf0 := (Box.below hb2 (Box.drew Br8)).frz 0
  have rd0 := (Box.below hb2 (Box.drew Bo8)).cell 0 rfl
  have rs1 := (Box.below hb2 (Box.drew Br8)).cell 1 rfl
  have rf1 := (Box.below hb2 (Box.drew Br8)).frz 1
  have rd1 := (Box.below hb2 (Box.drew Bo8)).cell 1 rfl
  have rs2 := (Box.below hb2 (Box.drew Br8)).cell 2 rfl
  have rf2 := (Box.below hb2 (Box.drew Br8)).frz 2
  have rd2 := (Box.below hb2 (Box.drew Bo8)).cell 2 rfl
  have rs3 := (Box.below hb2 (Box.drew Br8)).cell 3 rfl
  have rf3 := (Box.below hb2 (Box.drew Br8)).frz 3
  have rd3 := (Box.below hb2 (Box.drew Bo8)).cell 3 rfl
  have rs4 := (Box.below hb2 (Box.drew Br8)).cell 4 rfl
  have rf4 := (Box.below hb2 (Box.drew Br8)).frz 4
  have rd4 := (Box.below hb2 (Box.drew Bo8)).cell 4 rfl
  have rs5 := (Box.below hb2 (Box.drew Br8)).cell 5 rfl
  have rf5 := (Box.below hb2 (Box.drew Br8)).frz 5
  have rd5 := (Box.below hb2 (Box.drew Bo8)).cell 5 rfl
  have rs6 := (Box.below hb2 (Box.drew Br8)).cell 6 rfl
  have rf6 := (Box.below hb2 (Box.drew Br8)).frz 6
  have rd6 := (Box.below hb2 (Box.drew Bo8)).cell 6 rfl
  have rs7 := (Box.below hb2 (Box.drew Br8)).cell 7 rfl
  have rf7 := (Box.below hb2 (Box.drew Br8)).frz 7
  have rd7 := (Box.below hb2 (Box.drew Bo8)).cell 7 rfl
  have rs8 := (Box.below hb2 (Box.drew Br8)).cell 8 rfl
  have rf8 := (Box.below hb2 (Box.drew Br8)).frz 8
  have rd8 := (Box.below hb2 (Box.drew Bo8)).cell 8 rfl
  rw [rounds_succ]
  go_wp2_with fail
  (try simp only [Exit.inBlock, Exit.then]); refine bodyPost_ret (by simp [results, Try.results119, go_sem, *]; try rfl) rfl ?_
  exact ⟨rfl, by (repeat' (first | (with_reducible exact Below.refl _ _) | (with_reducible assumption) | (with_reducible refine Below.alloc ?_ ?_ _) | (with_reducible refine Below.drew ?_) | (with_reducible refine below_drewN ?_ _) | (with_reducible refine Below.setCell ?_ ?_ _) | (refine Below.step ?_ (by with_reducible assumption) ?_) | go_size))⟩
end Go.Proofs.Ytemimkbngfbomaa
