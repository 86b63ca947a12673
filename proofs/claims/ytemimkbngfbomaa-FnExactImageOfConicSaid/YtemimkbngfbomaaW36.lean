/- Adjoints of maps in the program, and what comes back; p is a prime. -/
import Derived.Test.YtemimkbngfbomaaW25
import Derived.Test.YtemimkbngfbomaaP6
import Derived.Deep.DeepCutAuto
import Derived.Deep.RegionHeld3
namespace Go.Proofs.Ytemimkbngfbomaa
open Go.RowKit
set_option linter.unusedSimpArgs false
set_option linter.unusedVariables false
set_option maxRecDepth 100000

set_option maxHeartbeats 16000000 in
theorem adjoint_any (p m0 m1 m2 m3 m4 m5 m6 m7 m8 : Int) (w : World) (k1 : 3 ≤ p) (k2 : p ≤ 13) (sm0 : sm m0) (sm1 : sm m1) (sm2 : sm m2) (sm3 : sm m3) (sm4 : sm m4) (sm5 : sm m5) (sm6 : sm m6) (sm7 : sm m7) (sm8 : sm m8) :
    Calls Try.prog 117 #[.agg #[.int .i64 m0, .int .i64 m1, .int .i64 m2, .int .i64 m3, .int .i64 m4, .int .i64 m5, .int .i64 m6, .int .i64 m7, .int .i64 m8], .int .i64 p] w fun e w' => e = .returned (.agg #[.int .i64 (adM p ⟨m0, m1, m2, m3, m4, m5, m6, m7, m8⟩).m0, .int .i64 (adM p ⟨m0, m1, m2, m3, m4, m5, m6, m7, m8⟩).m1, .int .i64 (adM p ⟨m0, m1, m2, m3, m4, m5, m6, m7, m8⟩).m2, .int .i64 (adM p ⟨m0, m1, m2, m3, m4, m5, m6, m7, m8⟩).m3, .int .i64 (adM p ⟨m0, m1, m2, m3, m4, m5, m6, m7, m8⟩).m4, .int .i64 (adM p ⟨m0, m1, m2, m3, m4, m5, m6, m7, m8⟩).m5, .int .i64 (adM p ⟨m0, m1, m2, m3, m4, m5, m6, m7, m8⟩).m6, .int .i64 (adM p ⟨m0, m1, m2, m3, m4, m5, m6, m7, m8⟩).m7, .int .i64 (adM p ⟨m0, m1, m2, m3, m4, m5, m6, m7, m8⟩).m8]) ∧ Below w.heap.size w w' := by
  have hcm := fun (x : Int) (w' : World) => mod_any x p w' k1 k2
  have HCM := Lib.hid hcm
  clear k1 k2 hcm
  have hl0 : IntKind.i64.wrap 0 = 0 := by decide
  have hl1 : IntKind.i64.wrap 1 = 1 := by decide
  have hl2 : IntKind.i64.wrap 2 = 2 := by decide
  have hl3 : IntKind.i64.wrap 3 = 3 := by decide
  have hl4 : IntKind.i64.wrap 4 = 4 := by decide
  obtain ⟨d0, hd0⟩ : ∃ d : Int, Hid (d = (m4 * m8 - m5 * m7) % p) := ⟨_, rfl⟩
  obtain ⟨d1, hd1⟩ : ∃ d : Int, Hid (d = (m7 * m2 - m8 * m1) % p) := ⟨_, rfl⟩
  obtain ⟨d2, hd2⟩ : ∃ d : Int, Hid (d = (m1 * m5 - m2 * m4) % p) := ⟨_, rfl⟩
  obtain ⟨d3, hd3⟩ : ∃ d : Int, Hid (d = (m5 * m6 - m3 * m8) % p) := ⟨_, rfl⟩
  obtain ⟨d4, hd4⟩ : ∃ d : Int, Hid (d = (m8 * m0 - m6 * m2) % p) := ⟨_, rfl⟩
  obtain ⟨d5, hd5⟩ : ∃ d : Int, Hid (d = (m2 * m3 - m0 * m5) % p) := ⟨_, rfl⟩
  obtain ⟨d6, hd6⟩ : ∃ d : Int, Hid (d = (m3 * m7 - m4 * m6) % p) := ⟨_, rfl⟩
  obtain ⟨d7, hd7⟩ : ∃ d : Int, Hid (d = (m6 * m1 - m7 * m0) % p) := ⟨_, rfl⟩
  obtain ⟨d8, hd8⟩ : ∃ d : Int, Hid (d = (m0 * m4 - m1 * m3) % p) := ⟨_, rfl⟩
  have hE : Hid (adM p ⟨m0, m1, m2, m3, m4, m5, m6, m7, m8⟩ = ⟨d0, d1, d2, d3, d4, d5, d6, d7, d8⟩) := by show _ = _; unfold adM; rw [hd0.out, hd1.out, hd2.out, hd3.out, hd4.out, hd5.out, hd6.out, hd7.out, hd8.out]
  go_enter Try.func117, Try.ntmps117
  go_wp2_with fail
  refine wp_name (fun w' => Box 55 w' (w.heap.size) [m0, m1, m2, m3, m4, m5, m6, m7, m8] ∧ Box 55 w' (w.heap.size + 1) [0, 0, 0, 0, 0, 0, 0, 0, 0] ∧ Box 55 w' (w.heap.size + 1 + 1) [0, 0, 0, 0, 0, 0, 0, 0, 0] ∧ Below w.heap.size w w') ⟨Box.alloc (Box.alloc (Box.new [m0, m1, m2, m3, m4, m5, m6, m7, m8] (by simp)) _) _, Box.alloc (Box.new [0, 0, 0, 0, 0, 0, 0, 0, 0] (by simp)) _, Box.new [0, 0, 0, 0, 0, 0, 0, 0, 0] (by simp), by (repeat' (first | (with_reducible exact Below.refl _ _) | (with_reducible assumption) | (with_reducible refine Below.alloc ?_ ?_ _) | (with_reducible refine Below.drew ?_) | (with_reducible refine below_drewN ?_ _) | (with_reducible refine Below.setCell ?_ ?_ _) | (refine Below.step ?_ (by with_reducible assumption) ?_) | go_size))⟩ ?_
  rintro wq0 ⟨Bm0, Br0, Bo0, hB0⟩
  have hz0 := hB0.size
  have ltm0 := Bm0.lt
  have ltr0 := Br0.lt
  have lto0 := Bo0.lt
  refine wp_loop_rounds 4 ?_
  rw [rounds_succ]
  go_wp2_with fail
  refine wp_loop_rounds 4 ?_
  rw [rounds_succ]
  go_wp2_with fail
  go_cut [8, 9] (fun s8 s9 wx => ∃ ga gb : Nat, s8 = .pointer (some ⟨ga, 0, none⟩) ∧ s9 = .pointer (some ⟨gb, 0, none⟩) ∧ Box 31 wx ga [m3, m4, m5] ∧ Box 31 wx gb [m6, m7, m8] ∧ Box 55 wx (w.heap.size) [m0, m1, m2, m3, m4, m5, m6, m7, m8] ∧ Box 55 wx (w.heap.size + 1) [0, 0, 0, 0, 0, 0, 0, 0, 0] ∧ Box 55 wx (w.heap.size + 1 + 1) [0, 0, 0, 0, 0, 0, 0, 0, 0] ∧ Below w.heap.size w wx)
  have rd0 := Bm0.cell 3 rfl
  have rd1 := Bm0.cell 4 rfl
  have rd2 := Bm0.cell 5 rfl
  have rd3 := Bm0.cell 6 rfl
  have rd4 := Bm0.cell 7 rfl
  have rd5 := Bm0.cell 8 rfl
  case first =>
    go_region_held3 (fun w' => w'.cell? ⟨w.heap.size, 3, none⟩ = some (.int .i64 m3) ∧ w'.cell? ⟨w.heap.size, 4, none⟩ = some (.int .i64 m4) ∧ w'.cell? ⟨w.heap.size, 5, none⟩ = some (.int .i64 m5) ∧ w'.cell? ⟨w.heap.size, 6, none⟩ = some (.int .i64 m6) ∧ w'.cell? ⟨w.heap.size, 7, none⟩ = some (.int .i64 m7) ∧ w'.cell? ⟨w.heap.size, 8, none⟩ = some (.int .i64 m8)) ((go_split_ands; (repeat (any_goals (with_reducible apply And.intro))) <;> ((repeat (first | (with_reducible assumption) | (with_reducible refine keepD ?_) | (with_reducible refine keepA _ ?_) | (with_reducible refine keepS2 ?_ (by (try simp only [World.size_alloc, World.size_drew, World.size_setCell]); omega)))); done))) (fail)
    all_goals (go_wp2_with fail; go_meet; first | exact ⟨_, _, rfl, rfl, Box.drew (Box.alloc (Box.new [m3, m4, m5] rfl) _), Box.drew (Box.new [m6, m7, m8] (by simp only [World.size_alloc])), Box.drew (Box.alloc (Box.alloc Bm0 _) _), Box.drew (Box.alloc (Box.alloc Br0 _) _), Box.drew (Box.alloc (Box.alloc Bo0 _) _), by (repeat' (first | (with_reducible exact Below.refl _ _) | (with_reducible assumption) | (with_reducible refine Below.alloc ?_ ?_ _) | (with_reducible refine Below.drew ?_) | (with_reducible refine below_drewN ?_ _) | (with_reducible refine Below.setCell ?_ ?_ _) | (refine Below.step ?_ (by with_reducible assumption) ?_) | go_size))⟩ | exact ⟨_, _, rfl, rfl, Box.drew (Box.new [m3, m4, m5] (by simp only [World.size_alloc])), Box.drew (Box.alloc (Box.new [m6, m7, m8] rfl) _), Box.drew (Box.alloc (Box.alloc Bm0 _) _), Box.drew (Box.alloc (Box.alloc Br0 _) _), Box.drew (Box.alloc (Box.alloc Bo0 _) _), by (repeat' (first | (with_reducible exact Below.refl _ _) | (with_reducible assumption) | (with_reducible refine Below.alloc ?_ ?_ _) | (with_reducible refine Below.drew ?_) | (with_reducible refine below_drewN ?_ _) | (with_reducible refine Below.setCell ?_ ?_ _) | (refine Below.step ?_ (by with_reducible assumption) ?_) | go_size))⟩)
  clear Bm0 Br0 Bo0 hB0 ltm0 ltr0 lto0 hz0
  case' rest => obtain ⟨ga0, gb0, rfl, rfl, Bac, Bbc, Bmc, Brc, Boc, hBc⟩ := hcut
  go_wp2_with fail
  obtain ⟨hw0, hw1, hw2⟩ := detw sm4 sm8 sm5 sm7
  have hc : Hid (∀ w' : World, Calls Try.prog 72 #[.int .i64 (m4 * m8 - m5 * m7), .int .i64 p] w' fun e w'' => e = .returned (.int .i64 d0) ∧ w'' = w') := fun w' => (HCM.out _ w').mono fun _ _ h => ⟨by rw [hd0.out]; exact h.1, h.2.symm⟩
  refine wp_name (fun w' => Box 55 w' (w.heap.size) [m0, m1, m2, m3, m4, m5, m6, m7, m8] ∧ Box 55 w' (w.heap.size + 1) [0, 0, 0, 0, 0, 0, 0, 0, 0] ∧ Box 55 w' (w.heap.size + 1 + 1) [0, 0, 0, 0, 0, 0, 0, 0, 0] ∧ Box 31 w' (ga0) [m3, m4, m5] ∧ Box 31 w' (gb0) [m6, m7, m8] ∧ Below w.heap.size w w') ⟨Bmc, Brc, Boc, Bac, Bbc, hBc⟩ ?_
  rintro wq1 ⟨Bm1, Br1, Bo1, Ba1, Bb1, hB1⟩
  clear Bmc Brc Boc Bac Bbc hBc
  have hz1 := hB1.size
  have ltm1 := Bm1.lt
  have ltr1 := Br1.lt
  have lto1 := Bo1.lt
  have lta1 := Ba1.lt
  have ltb1 := Bb1.lt
  have rd0 := Ba1.cell 1 rfl
  have rd1 := Bb1.cell 2 rfl
  have rd2 := Ba1.cell 2 rfl
  have rd3 := Bb1.cell 1 rfl
  refine wp_region_still_tail 28 (by kernel_rfl) (by kernel_rfl) ?_
  simp only [List.take_succ_cons, List.take_zero, List.drop_succ_cons, List.drop_zero]
  repeat (first | still_step | still_call (hc.out _))
  try refine wpStill_nil ?_
  change wpList _ _ _ _ _ wq1.drew
  clear rd0 rd1 rd2 rd3
  have st := (Box.drew Bo1).cell 0 rfl
  have sf := (Box.drew Bo1).frz 0
  go_wp2_with fail
  clear hw0 hw1 hw2 hc
  rw [rounds_succ]
  go_wp2_with fail
  refine wp_name (fun w' => Box 55 w' (w.heap.size) [m0, m1, m2, m3, m4, m5, m6, m7, m8] ∧ Box 55 w' (w.heap.size + 1) [0, 0, 0, 0, 0, 0, 0, 0, 0] ∧ Box 55 w' (w.heap.size + 1 + 1) [d0, 0, 0, 0, 0, 0, 0, 0, 0] ∧ Below w.heap.size w w') ⟨Box.far (Box.drew Bm1) (by omega), Box.far (Box.drew Br1) (by omega), (Box.set (Box.drew Bo1) 0 (d0)).cast rfl, Below.setCell (p := ⟨w.heap.size + 1 + 1, 0, none⟩) hB1.drew (by simp only []; omega) _⟩ ?_
  rintro wq2 ⟨Bm2, Br2, Bo2, hB2⟩
  clear st sf Bm1 Br1 Bo1 Ba1 Bb1 hB1 ltm1 ltr1 lto1 lta1 ltb1 hz1
  have hz2 := hB2.size
  have ltm2 := Bm2.lt
  have ltr2 := Br2.lt
  have lto2 := Bo2.lt
  go_cut [8, 9] (fun s8 s9 wx => ∃ ga gb : Nat, s8 = .pointer (some ⟨ga, 0, none⟩) ∧ s9 = .pointer (some ⟨gb, 0, none⟩) ∧ Box 31 wx ga [m3, m4, m5] ∧ Box 31 wx gb [m6, m7, m8] ∧ Box 55 wx (w.heap.size) [m0, m1, m2, m3, m4, m5, m6, m7, m8] ∧ Box 55 wx (w.heap.size + 1) [0, 0, 0, 0, 0, 0, 0, 0, 0] ∧ Box 55 wx (w.heap.size + 1 + 1) [d0, 0, 0, 0, 0, 0, 0, 0, 0] ∧ Below w.heap.size w wx)
  have rd0 := Bm2.cell 3 rfl
  have rd1 := Bm2.cell 4 rfl
  have rd2 := Bm2.cell 5 rfl
  have rd3 := Bm2.cell 6 rfl
  have rd4 := Bm2.cell 7 rfl
  have rd5 := Bm2.cell 8 rfl
  case first =>
    go_region_held3 (fun w' => w'.cell? ⟨w.heap.size, 3, none⟩ = some (.int .i64 m3) ∧ w'.cell? ⟨w.heap.size, 4, none⟩ = some (.int .i64 m4) ∧ w'.cell? ⟨w.heap.size, 5, none⟩ = some (.int .i64 m5) ∧ w'.cell? ⟨w.heap.size, 6, none⟩ = some (.int .i64 m6) ∧ w'.cell? ⟨w.heap.size, 7, none⟩ = some (.int .i64 m7) ∧ w'.cell? ⟨w.heap.size, 8, none⟩ = some (.int .i64 m8)) ((go_split_ands; (repeat (any_goals (with_reducible apply And.intro))) <;> ((repeat (first | (with_reducible assumption) | (with_reducible refine keepD ?_) | (with_reducible refine keepA _ ?_) | (with_reducible refine keepS2 ?_ (by (try simp only [World.size_alloc, World.size_drew, World.size_setCell]); omega)))); done))) (fail)
    all_goals (go_wp2_with fail; go_meet; first | exact ⟨_, _, rfl, rfl, Box.drew (Box.alloc (Box.new [m3, m4, m5] rfl) _), Box.drew (Box.new [m6, m7, m8] (by simp only [World.size_alloc])), Box.drew (Box.alloc (Box.alloc Bm2 _) _), Box.drew (Box.alloc (Box.alloc Br2 _) _), Box.drew (Box.alloc (Box.alloc Bo2 _) _), by (repeat' (first | (with_reducible exact Below.refl _ _) | (with_reducible assumption) | (with_reducible refine Below.alloc ?_ ?_ _) | (with_reducible refine Below.drew ?_) | (with_reducible refine below_drewN ?_ _) | (with_reducible refine Below.setCell ?_ ?_ _) | (refine Below.step ?_ (by with_reducible assumption) ?_) | go_size))⟩ | exact ⟨_, _, rfl, rfl, Box.drew (Box.new [m3, m4, m5] (by simp only [World.size_alloc])), Box.drew (Box.alloc (Box.new [m6, m7, m8] rfl) _), Box.drew (Box.alloc (Box.alloc Bm2 _) _), Box.drew (Box.alloc (Box.alloc Br2 _) _), Box.drew (Box.alloc (Box.alloc Bo2 _) _), by (repeat' (first | (with_reducible exact Below.refl _ _) | (with_reducible assumption) | (with_reducible refine Below.alloc ?_ ?_ _) | (with_reducible refine Below.drew ?_) | (with_reducible refine below_drewN ?_ _) | (with_reducible refine Below.setCell ?_ ?_ _) | (refine Below.step ?_ (by with_reducible assumption) ?_) | go_size))⟩)
  clear Bm2 Br2 Bo2 hB2 ltm2 ltr2 lto2 hz2
  case' rest => obtain ⟨ga2, gb2, rfl, rfl, Bac, Bbc, Bmc, Brc, Boc, hBc⟩ := hcut
  go_wp2_with fail
  obtain ⟨hw0, hw1, hw2⟩ := detw sm5 sm6 sm3 sm8
  have hc : Hid (∀ w' : World, Calls Try.prog 72 #[.int .i64 (m5 * m6 - m3 * m8), .int .i64 p] w' fun e w'' => e = .returned (.int .i64 d3) ∧ w'' = w') := fun w' => (HCM.out _ w').mono fun _ _ h => ⟨by rw [hd3.out]; exact h.1, h.2.symm⟩
  refine wp_name (fun w' => Box 55 w' (w.heap.size) [m0, m1, m2, m3, m4, m5, m6, m7, m8] ∧ Box 55 w' (w.heap.size + 1) [0, 0, 0, 0, 0, 0, 0, 0, 0] ∧ Box 55 w' (w.heap.size + 1 + 1) [d0, 0, 0, 0, 0, 0, 0, 0, 0] ∧ Box 31 w' (ga2) [m3, m4, m5] ∧ Box 31 w' (gb2) [m6, m7, m8] ∧ Below w.heap.size w w') ⟨Bmc, Brc, Boc, Bac, Bbc, hBc⟩ ?_
  rintro wq3 ⟨Bm3, Br3, Bo3, Ba3, Bb3, hB3⟩
  clear Bmc Brc Boc Bac Bbc hBc
  have hz3 := hB3.size
  have ltm3 := Bm3.lt
  have ltr3 := Br3.lt
  have lto3 := Bo3.lt
  have lta3 := Ba3.lt
  have ltb3 := Bb3.lt
  have rd0 := Ba3.cell 2 rfl
  have rd1 := Bb3.cell 0 rfl
  have rd2 := Ba3.cell 0 rfl
  have rd3 := Bb3.cell 2 rfl
  refine wp_region_still_tail 28 (by kernel_rfl) (by kernel_rfl) ?_
  simp only [List.take_succ_cons, List.take_zero, List.drop_succ_cons, List.drop_zero]
  repeat (first | still_step | still_call (hc.out _))
  try refine wpStill_nil ?_
  change wpList _ _ _ _ _ wq3.drew
  clear rd0 rd1 rd2 rd3
  have st := (Box.drew Bo3).cell 3 rfl
  have sf := (Box.drew Bo3).frz 3
  go_wp2_with fail
  clear hw0 hw1 hw2 hc
  rw [rounds_succ]
  go_wp2_with fail
  refine wp_name (fun w' => Box 55 w' (w.heap.size) [m0, m1, m2, m3, m4, m5, m6, m7, m8] ∧ Box 55 w' (w.heap.size + 1) [0, 0, 0, 0, 0, 0, 0, 0, 0] ∧ Box 55 w' (w.heap.size + 1 + 1) [d0, 0, 0, d3, 0, 0, 0, 0, 0] ∧ Below w.heap.size w w') ⟨Box.far (Box.drew Bm3) (by omega), Box.far (Box.drew Br3) (by omega), (Box.set (Box.drew Bo3) 3 (d3)).cast rfl, Below.setCell (p := ⟨w.heap.size + 1 + 1, 3, none⟩) hB3.drew (by simp only []; omega) _⟩ ?_
  rintro wq4 ⟨Bm4, Br4, Bo4, hB4⟩
  clear st sf Bm3 Br3 Bo3 Ba3 Bb3 hB3 ltm3 ltr3 lto3 lta3 ltb3 hz3
  have hz4 := hB4.size
  have ltm4 := Bm4.lt
  have ltr4 := Br4.lt
  have lto4 := Bo4.lt
  go_cut [8, 9] (fun s8 s9 wx => ∃ ga gb : Nat, s8 = .pointer (some ⟨ga, 0, none⟩) ∧ s9 = .pointer (some ⟨gb, 0, none⟩) ∧ Box 31 wx ga [m3, m4, m5] ∧ Box 31 wx gb [m6, m7, m8] ∧ Box 55 wx (w.heap.size) [m0, m1, m2, m3, m4, m5, m6, m7, m8] ∧ Box 55 wx (w.heap.size + 1) [0, 0, 0, 0, 0, 0, 0, 0, 0] ∧ Box 55 wx (w.heap.size + 1 + 1) [d0, 0, 0, d3, 0, 0, 0, 0, 0] ∧ Below w.heap.size w wx)
  have rd0 := Bm4.cell 3 rfl
  have rd1 := Bm4.cell 4 rfl
  have rd2 := Bm4.cell 5 rfl
  have rd3 := Bm4.cell 6 rfl
  have rd4 := Bm4.cell 7 rfl
  have rd5 := Bm4.cell 8 rfl
  case first =>
    go_region_held3 (fun w' => w'.cell? ⟨w.heap.size, 3, none⟩ = some (.int .i64 m3) ∧ w'.cell? ⟨w.heap.size, 4, none⟩ = some (.int .i64 m4) ∧ w'.cell? ⟨w.heap.size, 5, none⟩ = some (.int .i64 m5) ∧ w'.cell? ⟨w.heap.size, 6, none⟩ = some (.int .i64 m6) ∧ w'.cell? ⟨w.heap.size, 7, none⟩ = some (.int .i64 m7) ∧ w'.cell? ⟨w.heap.size, 8, none⟩ = some (.int .i64 m8)) ((go_split_ands; (repeat (any_goals (with_reducible apply And.intro))) <;> ((repeat (first | (with_reducible assumption) | (with_reducible refine keepD ?_) | (with_reducible refine keepA _ ?_) | (with_reducible refine keepS2 ?_ (by (try simp only [World.size_alloc, World.size_drew, World.size_setCell]); omega)))); done))) (fail)
    all_goals (go_wp2_with fail; go_meet; first | exact ⟨_, _, rfl, rfl, Box.drew (Box.alloc (Box.new [m3, m4, m5] rfl) _), Box.drew (Box.new [m6, m7, m8] (by simp only [World.size_alloc])), Box.drew (Box.alloc (Box.alloc Bm4 _) _), Box.drew (Box.alloc (Box.alloc Br4 _) _), Box.drew (Box.alloc (Box.alloc Bo4 _) _), by (repeat' (first | (with_reducible exact Below.refl _ _) | (with_reducible assumption) | (with_reducible refine Below.alloc ?_ ?_ _) | (with_reducible refine Below.drew ?_) | (with_reducible refine below_drewN ?_ _) | (with_reducible refine Below.setCell ?_ ?_ _) | (refine Below.step ?_ (by with_reducible assumption) ?_) | go_size))⟩ | exact ⟨_, _, rfl, rfl, Box.drew (Box.new [m3, m4, m5] (by simp only [World.size_alloc])), Box.drew (Box.alloc (Box.new [m6, m7, m8] rfl) _), Box.drew (Box.alloc (Box.alloc Bm4 _) _), Box.drew (Box.alloc (Box.alloc Br4 _) _), Box.drew (Box.alloc (Box.alloc Bo4 _) _), by (repeat' (first | (with_reducible exact Below.refl _ _) | (with_reducible assumption) | (with_reducible refine Below.alloc ?_ ?_ _) | (with_reducible refine Below.drew ?_) | (with_reducible refine below_drewN ?_ _) | (with_reducible refine Below.setCell ?_ ?_ _) | (refine Below.step ?_ (by with_reducible assumption) ?_) | go_size))⟩)
  clear Bm4 Br4 Bo4 hB4 ltm4 ltr4 lto4 hz4
  case' rest => obtain ⟨ga4, gb4, rfl, rfl, Bac, Bbc, Bmc, Brc, Boc, hBc⟩ := hcut
  go_wp2_with fail
  obtain ⟨hw0, hw1, hw2⟩ := detw sm3 sm7 sm4 sm6
  have hc : Hid (∀ w' : World, Calls Try.prog 72 #[.int .i64 (m3 * m7 - m4 * m6), .int .i64 p] w' fun e w'' => e = .returned (.int .i64 d6) ∧ w'' = w') := fun w' => (HCM.out _ w').mono fun _ _ h => ⟨by rw [hd6.out]; exact h.1, h.2.symm⟩
  refine wp_name (fun w' => Box 55 w' (w.heap.size) [m0, m1, m2, m3, m4, m5, m6, m7, m8] ∧ Box 55 w' (w.heap.size + 1) [0, 0, 0, 0, 0, 0, 0, 0, 0] ∧ Box 55 w' (w.heap.size + 1 + 1) [d0, 0, 0, d3, 0, 0, 0, 0, 0] ∧ Box 31 w' (ga4) [m3, m4, m5] ∧ Box 31 w' (gb4) [m6, m7, m8] ∧ Below w.heap.size w w') ⟨Bmc, Brc, Boc, Bac, Bbc, hBc⟩ ?_
  rintro wq5 ⟨Bm5, Br5, Bo5, Ba5, Bb5, hB5⟩
  clear Bmc Brc Boc Bac Bbc hBc
  have hz5 := hB5.size
  have ltm5 := Bm5.lt
  have ltr5 := Br5.lt
  have lto5 := Bo5.lt
  have lta5 := Ba5.lt
  have ltb5 := Bb5.lt
  have rd0 := Ba5.cell 0 rfl
  have rd1 := Bb5.cell 1 rfl
  have rd2 := Ba5.cell 1 rfl
  have rd3 := Bb5.cell 0 rfl
  refine wp_region_still_tail 28 (by kernel_rfl) (by kernel_rfl) ?_
  simp only [List.take_succ_cons, List.take_zero, List.drop_succ_cons, List.drop_zero]
  repeat (first | still_step | still_call (hc.out _))
  try refine wpStill_nil ?_
  change wpList _ _ _ _ _ wq5.drew
  clear rd0 rd1 rd2 rd3
  have st := (Box.drew Bo5).cell 6 rfl
  have sf := (Box.drew Bo5).frz 6
  go_wp2_with fail
  clear hw0 hw1 hw2 hc
  rw [rounds_succ]
  go_wp2_with fail
  rw [rounds_succ]
  go_wp2_with fail
  refine wp_loop_rounds 4 ?_
  rw [rounds_succ]
  go_wp2_with fail
  refine wp_name (fun w' => Box 55 w' (w.heap.size) [m0, m1, m2, m3, m4, m5, m6, m7, m8] ∧ Box 55 w' (w.heap.size + 1) [0, 0, 0, 0, 0, 0, 0, 0, 0] ∧ Box 55 w' (w.heap.size + 1 + 1) [d0, 0, 0, d3, 0, 0, d6, 0, 0] ∧ Below w.heap.size w w') ⟨Box.far (Box.drew Bm5) (by omega), Box.far (Box.drew Br5) (by omega), (Box.set (Box.drew Bo5) 6 (d6)).cast rfl, Below.setCell (p := ⟨w.heap.size + 1 + 1, 6, none⟩) hB5.drew (by simp only []; omega) _⟩ ?_
  rintro wq6 ⟨Bm6, Br6, Bo6, hB6⟩
  clear st sf Bm5 Br5 Bo5 Ba5 Bb5 hB5 ltm5 ltr5 lto5 lta5 ltb5 hz5
  have hz6 := hB6.size
  have ltm6 := Bm6.lt
  have ltr6 := Br6.lt
  have lto6 := Bo6.lt
  go_cut [8, 9] (fun s8 s9 wx => ∃ ga gb : Nat, s8 = .pointer (some ⟨ga, 0, none⟩) ∧ s9 = .pointer (some ⟨gb, 0, none⟩) ∧ Box 31 wx ga [m6, m7, m8] ∧ Box 31 wx gb [m0, m1, m2] ∧ Box 55 wx (w.heap.size) [m0, m1, m2, m3, m4, m5, m6, m7, m8] ∧ Box 55 wx (w.heap.size + 1) [0, 0, 0, 0, 0, 0, 0, 0, 0] ∧ Box 55 wx (w.heap.size + 1 + 1) [d0, 0, 0, d3, 0, 0, d6, 0, 0] ∧ Below w.heap.size w wx)
  have rd0 := Bm6.cell 6 rfl
  have rd1 := Bm6.cell 7 rfl
  have rd2 := Bm6.cell 8 rfl
  have rd3 := Bm6.cell 0 rfl
  have rd4 := Bm6.cell 1 rfl
  have rd5 := Bm6.cell 2 rfl
  case first =>
    go_region_held3 (fun w' => w'.cell? ⟨w.heap.size, 6, none⟩ = some (.int .i64 m6) ∧ w'.cell? ⟨w.heap.size, 7, none⟩ = some (.int .i64 m7) ∧ w'.cell? ⟨w.heap.size, 8, none⟩ = some (.int .i64 m8) ∧ w'.cell? ⟨w.heap.size, 0, none⟩ = some (.int .i64 m0) ∧ w'.cell? ⟨w.heap.size, 1, none⟩ = some (.int .i64 m1) ∧ w'.cell? ⟨w.heap.size, 2, none⟩ = some (.int .i64 m2)) ((go_split_ands; (repeat (any_goals (with_reducible apply And.intro))) <;> ((repeat (first | (with_reducible assumption) | (with_reducible refine keepD ?_) | (with_reducible refine keepA _ ?_) | (with_reducible refine keepS2 ?_ (by (try simp only [World.size_alloc, World.size_drew, World.size_setCell]); omega)))); done))) (fail)
    all_goals (go_wp2_with fail; go_meet; first | exact ⟨_, _, rfl, rfl, Box.drew (Box.alloc (Box.new [m6, m7, m8] rfl) _), Box.drew (Box.new [m0, m1, m2] (by simp only [World.size_alloc])), Box.drew (Box.alloc (Box.alloc Bm6 _) _), Box.drew (Box.alloc (Box.alloc Br6 _) _), Box.drew (Box.alloc (Box.alloc Bo6 _) _), by (repeat' (first | (with_reducible exact Below.refl _ _) | (with_reducible assumption) | (with_reducible refine Below.alloc ?_ ?_ _) | (with_reducible refine Below.drew ?_) | (with_reducible refine below_drewN ?_ _) | (with_reducible refine Below.setCell ?_ ?_ _) | (refine Below.step ?_ (by with_reducible assumption) ?_) | go_size))⟩ | exact ⟨_, _, rfl, rfl, Box.drew (Box.new [m6, m7, m8] (by simp only [World.size_alloc])), Box.drew (Box.alloc (Box.new [m0, m1, m2] rfl) _), Box.drew (Box.alloc (Box.alloc Bm6 _) _), Box.drew (Box.alloc (Box.alloc Br6 _) _), Box.drew (Box.alloc (Box.alloc Bo6 _) _), by (repeat' (first | (with_reducible exact Below.refl _ _) | (with_reducible assumption) | (with_reducible refine Below.alloc ?_ ?_ _) | (with_reducible refine Below.drew ?_) | (with_reducible refine below_drewN ?_ _) | (with_reducible refine Below.setCell ?_ ?_ _) | (refine Below.step ?_ (by with_reducible assumption) ?_) | go_size))⟩)
  clear Bm6 Br6 Bo6 hB6 ltm6 ltr6 lto6 hz6
  case' rest => obtain ⟨ga6, gb6, rfl, rfl, Bac, Bbc, Bmc, Brc, Boc, hBc⟩ := hcut
  go_wp2_with fail
  obtain ⟨hw0, hw1, hw2⟩ := detw sm7 sm2 sm8 sm1
  have hc : Hid (∀ w' : World, Calls Try.prog 72 #[.int .i64 (m7 * m2 - m8 * m1), .int .i64 p] w' fun e w'' => e = .returned (.int .i64 d1) ∧ w'' = w') := fun w' => (HCM.out _ w').mono fun _ _ h => ⟨by rw [hd1.out]; exact h.1, h.2.symm⟩
  refine wp_name (fun w' => Box 55 w' (w.heap.size) [m0, m1, m2, m3, m4, m5, m6, m7, m8] ∧ Box 55 w' (w.heap.size + 1) [0, 0, 0, 0, 0, 0, 0, 0, 0] ∧ Box 55 w' (w.heap.size + 1 + 1) [d0, 0, 0, d3, 0, 0, d6, 0, 0] ∧ Box 31 w' (ga6) [m6, m7, m8] ∧ Box 31 w' (gb6) [m0, m1, m2] ∧ Below w.heap.size w w') ⟨Bmc, Brc, Boc, Bac, Bbc, hBc⟩ ?_
  rintro wq7 ⟨Bm7, Br7, Bo7, Ba7, Bb7, hB7⟩
  clear Bmc Brc Boc Bac Bbc hBc
  have hz7 := hB7.size
  have ltm7 := Bm7.lt
  have ltr7 := Br7.lt
  have lto7 := Bo7.lt
  have lta7 := Ba7.lt
  have ltb7 := Bb7.lt
  have rd0 := Ba7.cell 1 rfl
  have rd1 := Bb7.cell 2 rfl
  have rd2 := Ba7.cell 2 rfl
  have rd3 := Bb7.cell 1 rfl
  refine wp_region_still_tail 28 (by kernel_rfl) (by kernel_rfl) ?_
  simp only [List.take_succ_cons, List.take_zero, List.drop_succ_cons, List.drop_zero]
  repeat (first | still_step | still_call (hc.out _))
  try refine wpStill_nil ?_
  change wpList _ _ _ _ _ wq7.drew
  clear rd0 rd1 rd2 rd3
  have st := (Box.drew Bo7).cell 1 rfl
  have sf := (Box.drew Bo7).frz 1
  go_wp2_with fail
  clear hw0 hw1 hw2 hc
  rw [rounds_succ]
  go_wp2_with fail
  refine wp_name (fun w' => Box 55 w' (w.heap.size) [m0, m1, m2, m3, m4, m5, m6, m7, m8] ∧ Box 55 w' (w.heap.size + 1) [0, 0, 0, 0, 0, 0, 0, 0, 0] ∧ Box 55 w' (w.heap.size + 1 + 1) [d0, d1, 0, d3, 0, 0, d6, 0, 0] ∧ Below w.heap.size w w') ⟨Box.far (Box.drew Bm7) (by omega), Box.far (Box.drew Br7) (by omega), (Box.set (Box.drew Bo7) 1 (d1)).cast rfl, Below.setCell (p := ⟨w.heap.size + 1 + 1, 1, none⟩) hB7.drew (by simp only []; omega) _⟩ ?_
  rintro wq8 ⟨Bm8, Br8, Bo8, hB8⟩
  clear st sf Bm7 Br7 Bo7 Ba7 Bb7 hB7 ltm7 ltr7 lto7 lta7 ltb7 hz7
  have hz8 := hB8.size
  have ltm8 := Bm8.lt
  have ltr8 := Br8.lt
  have lto8 := Bo8.lt
  go_cut [8, 9] (fun s8 s9 wx => ∃ ga gb : Nat, s8 = .pointer (some ⟨ga, 0, none⟩) ∧ s9 = .pointer (some ⟨gb, 0, none⟩) ∧ Box 31 wx ga [m6, m7, m8] ∧ Box 31 wx gb [m0, m1, m2] ∧ Box 55 wx (w.heap.size) [m0, m1, m2, m3, m4, m5, m6, m7, m8] ∧ Box 55 wx (w.heap.size + 1) [0, 0, 0, 0, 0, 0, 0, 0, 0] ∧ Box 55 wx (w.heap.size + 1 + 1) [d0, d1, 0, d3, 0, 0, d6, 0, 0] ∧ Below w.heap.size w wx)
  have rd0 := Bm8.cell 6 rfl
  have rd1 := Bm8.cell 7 rfl
  have rd2 := Bm8.cell 8 rfl
  have rd3 := Bm8.cell 0 rfl
  have rd4 := Bm8.cell 1 rfl
  have rd5 := Bm8.cell 2 rfl
  case first =>
    go_region_held3 (fun w' => w'.cell? ⟨w.heap.size, 6, none⟩ = some (.int .i64 m6) ∧ w'.cell? ⟨w.heap.size, 7, none⟩ = some (.int .i64 m7) ∧ w'.cell? ⟨w.heap.size, 8, none⟩ = some (.int .i64 m8) ∧ w'.cell? ⟨w.heap.size, 0, none⟩ = some (.int .i64 m0) ∧ w'.cell? ⟨w.heap.size, 1, none⟩ = some (.int .i64 m1) ∧ w'.cell? ⟨w.heap.size, 2, none⟩ = some (.int .i64 m2)) ((go_split_ands; (repeat (any_goals (with_reducible apply And.intro))) <;> ((repeat (first | (with_reducible assumption) | (with_reducible refine keepD ?_) | (with_reducible refine keepA _ ?_) | (with_reducible refine keepS2 ?_ (by (try simp only [World.size_alloc, World.size_drew, World.size_setCell]); omega)))); done))) (fail)
    all_goals (go_wp2_with fail; go_meet; first | exact ⟨_, _, rfl, rfl, Box.drew (Box.alloc (Box.new [m6, m7, m8] rfl) _), Box.drew (Box.new [m0, m1, m2] (by simp only [World.size_alloc])), Box.drew (Box.alloc (Box.alloc Bm8 _) _), Box.drew (Box.alloc (Box.alloc Br8 _) _), Box.drew (Box.alloc (Box.alloc Bo8 _) _), by (repeat' (first | (with_reducible exact Below.refl _ _) | (with_reducible assumption) | (with_reducible refine Below.alloc ?_ ?_ _) | (with_reducible refine Below.drew ?_) | (with_reducible refine below_drewN ?_ _) | (with_reducible refine Below.setCell ?_ ?_ _) | (refine Below.step ?_ (by with_reducible assumption) ?_) | go_size))⟩ | exact ⟨_, _, rfl, rfl, Box.drew (Box.new [m6, m7, m8] (by simp only [World.size_alloc])), Box.drew (Box.alloc (Box.new [m0, m1, m2] rfl) _), Box.drew (Box.alloc (Box.alloc Bm8 _) _), Box.drew (Box.alloc (Box.alloc Br8 _) _), Box.drew (Box.alloc (Box.alloc Bo8 _) _), by (repeat' (first | (with_reducible exact Below.refl _ _) | (with_reducible assumption) | (with_reducible refine Below.alloc ?_ ?_ _) | (with_reducible refine Below.drew ?_) | (with_reducible refine below_drewN ?_ _) | (with_reducible refine Below.setCell ?_ ?_ _) | (refine Below.step ?_ (by with_reducible assumption) ?_) | go_size))⟩)
  clear Bm8 Br8 Bo8 hB8 ltm8 ltr8 lto8 hz8
  case' rest => obtain ⟨ga8, gb8, rfl, rfl, Bac, Bbc, Bmc, Brc, Boc, hBc⟩ := hcut
  go_wp2_with fail
  obtain ⟨hw0, hw1, hw2⟩ := detw sm8 sm0 sm6 sm2
  have hc : Hid (∀ w' : World, Calls Try.prog 72 #[.int .i64 (m8 * m0 - m6 * m2), .int .i64 p] w' fun e w'' => e = .returned (.int .i64 d4) ∧ w'' = w') := fun w' => (HCM.out _ w').mono fun _ _ h => ⟨by rw [hd4.out]; exact h.1, h.2.symm⟩
  refine wp_name (fun w' => Box 55 w' (w.heap.size) [m0, m1, m2, m3, m4, m5, m6, m7, m8] ∧ Box 55 w' (w.heap.size + 1) [0, 0, 0, 0, 0, 0, 0, 0, 0] ∧ Box 55 w' (w.heap.size + 1 + 1) [d0, d1, 0, d3, 0, 0, d6, 0, 0] ∧ Box 31 w' (ga8) [m6, m7, m8] ∧ Box 31 w' (gb8) [m0, m1, m2] ∧ Below w.heap.size w w') ⟨Bmc, Brc, Boc, Bac, Bbc, hBc⟩ ?_
  rintro wq9 ⟨Bm9, Br9, Bo9, Ba9, Bb9, hB9⟩
  clear Bmc Brc Boc Bac Bbc hBc
  have hz9 := hB9.size
  have ltm9 := Bm9.lt
  have ltr9 := Br9.lt
  have lto9 := Bo9.lt
  have lta9 := Ba9.lt
  have ltb9 := Bb9.lt
  have rd0 := Ba9.cell 2 rfl
  have rd1 := Bb9.cell 0 rfl
  have rd2 := Ba9.cell 0 rfl
  have rd3 := Bb9.cell 2 rfl
  refine wp_region_still_tail 28 (by kernel_rfl) (by kernel_rfl) ?_
  simp only [List.take_succ_cons, List.take_zero, List.drop_succ_cons, List.drop_zero]
  repeat (first | still_step | still_call (hc.out _))
  try refine wpStill_nil ?_
  change wpList _ _ _ _ _ wq9.drew
  clear rd0 rd1 rd2 rd3
  have st := (Box.drew Bo9).cell 4 rfl
  have sf := (Box.drew Bo9).frz 4
  go_wp2_with fail
  clear hw0 hw1 hw2 hc
  rw [rounds_succ]
  go_wp2_with fail
  refine wp_name (fun w' => Box 55 w' (w.heap.size) [m0, m1, m2, m3, m4, m5, m6, m7, m8] ∧ Box 55 w' (w.heap.size + 1) [0, 0, 0, 0, 0, 0, 0, 0, 0] ∧ Box 55 w' (w.heap.size + 1 + 1) [d0, d1, 0, d3, d4, 0, d6, 0, 0] ∧ Below w.heap.size w w') ⟨Box.far (Box.drew Bm9) (by omega), Box.far (Box.drew Br9) (by omega), (Box.set (Box.drew Bo9) 4 (d4)).cast rfl, Below.setCell (p := ⟨w.heap.size + 1 + 1, 4, none⟩) hB9.drew (by simp only []; omega) _⟩ ?_
  rintro wq10 ⟨Bm10, Br10, Bo10, hB10⟩
  clear st sf Bm9 Br9 Bo9 Ba9 Bb9 hB9 ltm9 ltr9 lto9 lta9 ltb9 hz9
  have hz10 := hB10.size
  have ltm10 := Bm10.lt
  have ltr10 := Br10.lt
  have lto10 := Bo10.lt
  go_cut [8, 9] (fun s8 s9 wx => ∃ ga gb : Nat, s8 = .pointer (some ⟨ga, 0, none⟩) ∧ s9 = .pointer (some ⟨gb, 0, none⟩) ∧ Box 31 wx ga [m6, m7, m8] ∧ Box 31 wx gb [m0, m1, m2] ∧ Box 55 wx (w.heap.size) [m0, m1, m2, m3, m4, m5, m6, m7, m8] ∧ Box 55 wx (w.heap.size + 1) [0, 0, 0, 0, 0, 0, 0, 0, 0] ∧ Box 55 wx (w.heap.size + 1 + 1) [d0, d1, 0, d3, d4, 0, d6, 0, 0] ∧ Below w.heap.size w wx)
  have rd0 := Bm10.cell 6 rfl
  have rd1 := Bm10.cell 7 rfl
  have rd2 := Bm10.cell 8 rfl
  have rd3 := Bm10.cell 0 rfl
  have rd4 := Bm10.cell 1 rfl
  have rd5 := Bm10.cell 2 rfl
  case first =>
    go_region_held3 (fun w' => w'.cell? ⟨w.heap.size, 6, none⟩ = some (.int .i64 m6) ∧ w'.cell? ⟨w.heap.size, 7, none⟩ = some (.int .i64 m7) ∧ w'.cell? ⟨w.heap.size, 8, none⟩ = some (.int .i64 m8) ∧ w'.cell? ⟨w.heap.size, 0, none⟩ = some (.int .i64 m0) ∧ w'.cell? ⟨w.heap.size, 1, none⟩ = some (.int .i64 m1) ∧ w'.cell? ⟨w.heap.size, 2, none⟩ = some (.int .i64 m2)) ((go_split_ands; (repeat (any_goals (with_reducible apply And.intro))) <;> ((repeat (first | (with_reducible assumption) | (with_reducible refine keepD ?_) | (with_reducible refine keepA _ ?_) | (with_reducible refine keepS2 ?_ (by (try simp only [World.size_alloc, World.size_drew, World.size_setCell]); omega)))); done))) (fail)
    all_goals (go_wp2_with fail; go_meet; first | exact ⟨_, _, rfl, rfl, Box.drew (Box.alloc (Box.new [m6, m7, m8] rfl) _), Box.drew (Box.new [m0, m1, m2] (by simp only [World.size_alloc])), Box.drew (Box.alloc (Box.alloc Bm10 _) _), Box.drew (Box.alloc (Box.alloc Br10 _) _), Box.drew (Box.alloc (Box.alloc Bo10 _) _), by (repeat' (first | (with_reducible exact Below.refl _ _) | (with_reducible assumption) | (with_reducible refine Below.alloc ?_ ?_ _) | (with_reducible refine Below.drew ?_) | (with_reducible refine below_drewN ?_ _) | (with_reducible refine Below.setCell ?_ ?_ _) | (refine Below.step ?_ (by with_reducible assumption) ?_) | go_size))⟩ | exact ⟨_, _, rfl, rfl, Box.drew (Box.new [m6, m7, m8] (by simp only [World.size_alloc])), Box.drew (Box.alloc (Box.new [m0, m1, m2] rfl) _), Box.drew (Box.alloc (Box.alloc Bm10 _) _), Box.drew (Box.alloc (Box.alloc Br10 _) _), Box.drew (Box.alloc (Box.alloc Bo10 _) _), by (repeat' (first | (with_reducible exact Below.refl _ _) | (with_reducible assumption) | (with_reducible refine Below.alloc ?_ ?_ _) | (with_reducible refine Below.drew ?_) | (with_reducible refine below_drewN ?_ _) | (with_reducible refine Below.setCell ?_ ?_ _) | (refine Below.step ?_ (by with_reducible assumption) ?_) | go_size))⟩)
  clear Bm10 Br10 Bo10 hB10 ltm10 ltr10 lto10 hz10
  case' rest => obtain ⟨ga10, gb10, rfl, rfl, Bac, Bbc, Bmc, Brc, Boc, hBc⟩ := hcut
  go_wp2_with fail
  obtain ⟨hw0, hw1, hw2⟩ := detw sm6 sm1 sm7 sm0
  have hc : Hid (∀ w' : World, Calls Try.prog 72 #[.int .i64 (m6 * m1 - m7 * m0), .int .i64 p] w' fun e w'' => e = .returned (.int .i64 d7) ∧ w'' = w') := fun w' => (HCM.out _ w').mono fun _ _ h => ⟨by rw [hd7.out]; exact h.1, h.2.symm⟩
  refine wp_name (fun w' => Box 55 w' (w.heap.size) [m0, m1, m2, m3, m4, m5, m6, m7, m8] ∧ Box 55 w' (w.heap.size + 1) [0, 0, 0, 0, 0, 0, 0, 0, 0] ∧ Box 55 w' (w.heap.size + 1 + 1) [d0, d1, 0, d3, d4, 0, d6, 0, 0] ∧ Box 31 w' (ga10) [m6, m7, m8] ∧ Box 31 w' (gb10) [m0, m1, m2] ∧ Below w.heap.size w w') ⟨Bmc, Brc, Boc, Bac, Bbc, hBc⟩ ?_
  rintro wq11 ⟨Bm11, Br11, Bo11, Ba11, Bb11, hB11⟩
  clear Bmc Brc Boc Bac Bbc hBc
  have hz11 := hB11.size
  have ltm11 := Bm11.lt
  have ltr11 := Br11.lt
  have lto11 := Bo11.lt
  have lta11 := Ba11.lt
  have ltb11 := Bb11.lt
  have rd0 := Ba11.cell 0 rfl
  have rd1 := Bb11.cell 1 rfl
  have rd2 := Ba11.cell 1 rfl
  have rd3 := Bb11.cell 0 rfl
  refine wp_region_still_tail 28 (by kernel_rfl) (by kernel_rfl) ?_
  simp only [List.take_succ_cons, List.take_zero, List.drop_succ_cons, List.drop_zero]
  repeat (first | still_step | still_call (hc.out _))
  try refine wpStill_nil ?_
  change wpList _ _ _ _ _ wq11.drew
  clear rd0 rd1 rd2 rd3
  have st := (Box.drew Bo11).cell 7 rfl
  have sf := (Box.drew Bo11).frz 7
  go_wp2_with fail
  clear hw0 hw1 hw2 hc
  rw [rounds_succ]
  go_wp2_with fail
  rw [rounds_succ]
  go_wp2_with fail
  refine wp_loop_rounds 4 ?_
  rw [rounds_succ]
  go_wp2_with fail
  refine wp_name (fun w' => Box 55 w' (w.heap.size) [m0, m1, m2, m3, m4, m5, m6, m7, m8] ∧ Box 55 w' (w.heap.size + 1) [0, 0, 0, 0, 0, 0, 0, 0, 0] ∧ Box 55 w' (w.heap.size + 1 + 1) [d0, d1, 0, d3, d4, 0, d6, d7, 0] ∧ Below w.heap.size w w') ⟨Box.far (Box.drew Bm11) (by omega), Box.far (Box.drew Br11) (by omega), (Box.set (Box.drew Bo11) 7 (d7)).cast rfl, Below.setCell (p := ⟨w.heap.size + 1 + 1, 7, none⟩) hB11.drew (by simp only []; omega) _⟩ ?_
  rintro wq12 ⟨Bm12, Br12, Bo12, hB12⟩
  clear st sf Bm11 Br11 Bo11 Ba11 Bb11 hB11 ltm11 ltr11 lto11 lta11 ltb11 hz11
  have hz12 := hB12.size
  have ltm12 := Bm12.lt
  have ltr12 := Br12.lt
  have lto12 := Bo12.lt
  go_cut [8, 9] (fun s8 s9 wx => ∃ ga gb : Nat, s8 = .pointer (some ⟨ga, 0, none⟩) ∧ s9 = .pointer (some ⟨gb, 0, none⟩) ∧ Box 31 wx ga [m0, m1, m2] ∧ Box 31 wx gb [m3, m4, m5] ∧ Box 55 wx (w.heap.size) [m0, m1, m2, m3, m4, m5, m6, m7, m8] ∧ Box 55 wx (w.heap.size + 1) [0, 0, 0, 0, 0, 0, 0, 0, 0] ∧ Box 55 wx (w.heap.size + 1 + 1) [d0, d1, 0, d3, d4, 0, d6, d7, 0] ∧ Below w.heap.size w wx)
  have rd0 := Bm12.cell 0 rfl
  have rd1 := Bm12.cell 1 rfl
  have rd2 := Bm12.cell 2 rfl
  have rd3 := Bm12.cell 3 rfl
  have rd4 := Bm12.cell 4 rfl
  have rd5 := Bm12.cell 5 rfl
  case first =>
    go_region_held3 (fun w' => w'.cell? ⟨w.heap.size, 0, none⟩ = some (.int .i64 m0) ∧ w'.cell? ⟨w.heap.size, 1, none⟩ = some (.int .i64 m1) ∧ w'.cell? ⟨w.heap.size, 2, none⟩ = some (.int .i64 m2) ∧ w'.cell? ⟨w.heap.size, 3, none⟩ = some (.int .i64 m3) ∧ w'.cell? ⟨w.heap.size, 4, none⟩ = some (.int .i64 m4) ∧ w'.cell? ⟨w.heap.size, 5, none⟩ = some (.int .i64 m5)) ((go_split_ands; (repeat (any_goals (with_reducible apply And.intro))) <;> ((repeat (first | (with_reducible assumption) | (with_reducible refine keepD ?_) | (with_reducible refine keepA _ ?_) | (with_reducible refine keepS2 ?_ (by (try simp only [World.size_alloc, World.size_drew, World.size_setCell]); omega)))); done))) (fail)
    all_goals (go_wp2_with fail; go_meet; first | exact ⟨_, _, rfl, rfl, Box.drew (Box.alloc (Box.new [m0, m1, m2] rfl) _), Box.drew (Box.new [m3, m4, m5] (by simp only [World.size_alloc])), Box.drew (Box.alloc (Box.alloc Bm12 _) _), Box.drew (Box.alloc (Box.alloc Br12 _) _), Box.drew (Box.alloc (Box.alloc Bo12 _) _), by (repeat' (first | (with_reducible exact Below.refl _ _) | (with_reducible assumption) | (with_reducible refine Below.alloc ?_ ?_ _) | (with_reducible refine Below.drew ?_) | (with_reducible refine below_drewN ?_ _) | (with_reducible refine Below.setCell ?_ ?_ _) | (refine Below.step ?_ (by with_reducible assumption) ?_) | go_size))⟩ | exact ⟨_, _, rfl, rfl, Box.drew (Box.new [m0, m1, m2] (by simp only [World.size_alloc])), Box.drew (Box.alloc (Box.new [m3, m4, m5] rfl) _), Box.drew (Box.alloc (Box.alloc Bm12 _) _), Box.drew (Box.alloc (Box.alloc Br12 _) _), Box.drew (Box.alloc (Box.alloc Bo12 _) _), by (repeat' (first | (with_reducible exact Below.refl _ _) | (with_reducible assumption) | (with_reducible refine Below.alloc ?_ ?_ _) | (with_reducible refine Below.drew ?_) | (with_reducible refine below_drewN ?_ _) | (with_reducible refine Below.setCell ?_ ?_ _) | (refine Below.step ?_ (by with_reducible assumption) ?_) | go_size))⟩)
  clear Bm12 Br12 Bo12 hB12 ltm12 ltr12 lto12 hz12
  case' rest => obtain ⟨ga12, gb12, rfl, rfl, Bac, Bbc, Bmc, Brc, Boc, hBc⟩ := hcut
  go_wp2_with fail
  obtain ⟨hw0, hw1, hw2⟩ := detw sm1 sm5 sm2 sm4
  have hc : Hid (∀ w' : World, Calls Try.prog 72 #[.int .i64 (m1 * m5 - m2 * m4), .int .i64 p] w' fun e w'' => e = .returned (.int .i64 d2) ∧ w'' = w') := fun w' => (HCM.out _ w').mono fun _ _ h => ⟨by rw [hd2.out]; exact h.1, h.2.symm⟩
  refine wp_name (fun w' => Box 55 w' (w.heap.size) [m0, m1, m2, m3, m4, m5, m6, m7, m8] ∧ Box 55 w' (w.heap.size + 1) [0, 0, 0, 0, 0, 0, 0, 0, 0] ∧ Box 55 w' (w.heap.size + 1 + 1) [d0, d1, 0, d3, d4, 0, d6, d7, 0] ∧ Box 31 w' (ga12) [m0, m1, m2] ∧ Box 31 w' (gb12) [m3, m4, m5] ∧ Below w.heap.size w w') ⟨Bmc, Brc, Boc, Bac, Bbc, hBc⟩ ?_
  rintro wq13 ⟨Bm13, Br13, Bo13, Ba13, Bb13, hB13⟩
  clear Bmc Brc Boc Bac Bbc hBc
  have hz13 := hB13.size
  have ltm13 := Bm13.lt
  have ltr13 := Br13.lt
  have lto13 := Bo13.lt
  have lta13 := Ba13.lt
  have ltb13 := Bb13.lt
  have rd0 := Ba13.cell 1 rfl
  have rd1 := Bb13.cell 2 rfl
  have rd2 := Ba13.cell 2 rfl
  have rd3 := Bb13.cell 1 rfl
  refine wp_region_still_tail 28 (by kernel_rfl) (by kernel_rfl) ?_
  simp only [List.take_succ_cons, List.take_zero, List.drop_succ_cons, List.drop_zero]
  repeat (first | still_step | still_call (hc.out _))
  try refine wpStill_nil ?_
  change wpList _ _ _ _ _ wq13.drew
  clear rd0 rd1 rd2 rd3
  have st := (Box.drew Bo13).cell 2 rfl
  have sf := (Box.drew Bo13).frz 2
  go_wp2_with fail
  clear hw0 hw1 hw2 hc
  rw [rounds_succ]
  go_wp2_with fail
  refine wp_name (fun w' => Box 55 w' (w.heap.size) [m0, m1, m2, m3, m4, m5, m6, m7, m8] ∧ Box 55 w' (w.heap.size + 1) [0, 0, 0, 0, 0, 0, 0, 0, 0] ∧ Box 55 w' (w.heap.size + 1 + 1) [d0, d1, d2, d3, d4, 0, d6, d7, 0] ∧ Below w.heap.size w w') ⟨Box.far (Box.drew Bm13) (by omega), Box.far (Box.drew Br13) (by omega), (Box.set (Box.drew Bo13) 2 (d2)).cast rfl, Below.setCell (p := ⟨w.heap.size + 1 + 1, 2, none⟩) hB13.drew (by simp only []; omega) _⟩ ?_
  rintro wq14 ⟨Bm14, Br14, Bo14, hB14⟩
  clear st sf Bm13 Br13 Bo13 Ba13 Bb13 hB13 ltm13 ltr13 lto13 lta13 ltb13 hz13
  have hz14 := hB14.size
  have ltm14 := Bm14.lt
  have ltr14 := Br14.lt
  have lto14 := Bo14.lt
  go_cut [8, 9] (fun s8 s9 wx => ∃ ga gb : Nat, s8 = .pointer (some ⟨ga, 0, none⟩) ∧ s9 = .pointer (some ⟨gb, 0, none⟩) ∧ Box 31 wx ga [m0, m1, m2] ∧ Box 31 wx gb [m3, m4, m5] ∧ Box 55 wx (w.heap.size) [m0, m1, m2, m3, m4, m5, m6, m7, m8] ∧ Box 55 wx (w.heap.size + 1) [0, 0, 0, 0, 0, 0, 0, 0, 0] ∧ Box 55 wx (w.heap.size + 1 + 1) [d0, d1, d2, d3, d4, 0, d6, d7, 0] ∧ Below w.heap.size w wx)
  have rd0 := Bm14.cell 0 rfl
  have rd1 := Bm14.cell 1 rfl
  have rd2 := Bm14.cell 2 rfl
  have rd3 := Bm14.cell 3 rfl
  have rd4 := Bm14.cell 4 rfl
  have rd5 := Bm14.cell 5 rfl
  case first =>
    go_region_held3 (fun w' => w'.cell? ⟨w.heap.size, 0, none⟩ = some (.int .i64 m0) ∧ w'.cell? ⟨w.heap.size, 1, none⟩ = some (.int .i64 m1) ∧ w'.cell? ⟨w.heap.size, 2, none⟩ = some (.int .i64 m2) ∧ w'.cell? ⟨w.heap.size, 3, none⟩ = some (.int .i64 m3) ∧ w'.cell? ⟨w.heap.size, 4, none⟩ = some (.int .i64 m4) ∧ w'.cell? ⟨w.heap.size, 5, none⟩ = some (.int .i64 m5)) ((go_split_ands; (repeat (any_goals (with_reducible apply And.intro))) <;> ((repeat (first | (with_reducible assumption) | (with_reducible refine keepD ?_) | (with_reducible refine keepA _ ?_) | (with_reducible refine keepS2 ?_ (by (try simp only [World.size_alloc, World.size_drew, World.size_setCell]); omega)))); done))) (fail)
    all_goals (go_wp2_with fail; go_meet; first | exact ⟨_, _, rfl, rfl, Box.drew (Box.alloc (Box.new [m0, m1, m2] rfl) _), Box.drew (Box.new [m3, m4, m5] (by simp only [World.size_alloc])), Box.drew (Box.alloc (Box.alloc Bm14 _) _), Box.drew (Box.alloc (Box.alloc Br14 _) _), Box.drew (Box.alloc (Box.alloc Bo14 _) _), by (repeat' (first | (with_reducible exact Below.refl _ _) | (with_reducible assumption) | (with_reducible refine Below.alloc ?_ ?_ _) | (with_reducible refine Below.drew ?_) | (with_reducible refine below_drewN ?_ _) | (with_reducible refine Below.setCell ?_ ?_ _) | (refine Below.step ?_ (by with_reducible assumption) ?_) | go_size))⟩ | exact ⟨_, _, rfl, rfl, Box.drew (Box.new [m0, m1, m2] (by simp only [World.size_alloc])), Box.drew (Box.alloc (Box.new [m3, m4, m5] rfl) _), Box.drew (Box.alloc (Box.alloc Bm14 _) _), Box.drew (Box.alloc (Box.alloc Br14 _) _), Box.drew (Box.alloc (Box.alloc Bo14 _) _), by (repeat' (first | (with_reducible exact Below.refl _ _) | (with_reducible assumption) | (with_reducible refine Below.alloc ?_ ?_ _) | (with_reducible refine Below.drew ?_) | (with_reducible refine below_drewN ?_ _) | (with_reducible refine Below.setCell ?_ ?_ _) | (refine Below.step ?_ (by with_reducible assumption) ?_) | go_size))⟩)
  clear Bm14 Br14 Bo14 hB14 ltm14 ltr14 lto14 hz14
  case' rest => obtain ⟨ga14, gb14, rfl, rfl, Bac, Bbc, Bmc, Brc, Boc, hBc⟩ := hcut
  go_wp2_with fail
  obtain ⟨hw0, hw1, hw2⟩ := detw sm2 sm3 sm0 sm5
  have hc : Hid (∀ w' : World, Calls Try.prog 72 #[.int .i64 (m2 * m3 - m0 * m5), .int .i64 p] w' fun e w'' => e = .returned (.int .i64 d5) ∧ w'' = w') := fun w' => (HCM.out _ w').mono fun _ _ h => ⟨by rw [hd5.out]; exact h.1, h.2.symm⟩
  refine wp_name (fun w' => Box 55 w' (w.heap.size) [m0, m1, m2, m3, m4, m5, m6, m7, m8] ∧ Box 55 w' (w.heap.size + 1) [0, 0, 0, 0, 0, 0, 0, 0, 0] ∧ Box 55 w' (w.heap.size + 1 + 1) [d0, d1, d2, d3, d4, 0, d6, d7, 0] ∧ Box 31 w' (ga14) [m0, m1, m2] ∧ Box 31 w' (gb14) [m3, m4, m5] ∧ Below w.heap.size w w') ⟨Bmc, Brc, Boc, Bac, Bbc, hBc⟩ ?_
  rintro wq15 ⟨Bm15, Br15, Bo15, Ba15, Bb15, hB15⟩
  clear Bmc Brc Boc Bac Bbc hBc
  have hz15 := hB15.size
  have ltm15 := Bm15.lt
  have ltr15 := Br15.lt
  have lto15 := Bo15.lt
  have lta15 := Ba15.lt
  have ltb15 := Bb15.lt
  have rd0 := Ba15.cell 2 rfl
  have rd1 := Bb15.cell 0 rfl
  have rd2 := Ba15.cell 0 rfl
  have rd3 := Bb15.cell 2 rfl
  refine wp_region_still_tail 28 (by kernel_rfl) (by kernel_rfl) ?_
  simp only [List.take_succ_cons, List.take_zero, List.drop_succ_cons, List.drop_zero]
  repeat (first | still_step | still_call (hc.out _))
  try refine wpStill_nil ?_
  change wpList _ _ _ _ _ wq15.drew
  clear rd0 rd1 rd2 rd3
  have st := (Box.drew Bo15).cell 5 rfl
  have sf := (Box.drew Bo15).frz 5
  go_wp2_with fail
  clear hw0 hw1 hw2 hc
  rw [rounds_succ]
  go_wp2_with fail
  refine wp_name (fun w' => Box 55 w' (w.heap.size) [m0, m1, m2, m3, m4, m5, m6, m7, m8] ∧ Box 55 w' (w.heap.size + 1) [0, 0, 0, 0, 0, 0, 0, 0, 0] ∧ Box 55 w' (w.heap.size + 1 + 1) [d0, d1, d2, d3, d4, d5, d6, d7, 0] ∧ Below w.heap.size w w') ⟨Box.far (Box.drew Bm15) (by omega), Box.far (Box.drew Br15) (by omega), (Box.set (Box.drew Bo15) 5 (d5)).cast rfl, Below.setCell (p := ⟨w.heap.size + 1 + 1, 5, none⟩) hB15.drew (by simp only []; omega) _⟩ ?_
  rintro wq16 ⟨Bm16, Br16, Bo16, hB16⟩
  clear st sf Bm15 Br15 Bo15 Ba15 Bb15 hB15 ltm15 ltr15 lto15 lta15 ltb15 hz15
  have hz16 := hB16.size
  have ltm16 := Bm16.lt
  have ltr16 := Br16.lt
  have lto16 := Bo16.lt
  go_cut [8, 9] (fun s8 s9 wx => ∃ ga gb : Nat, s8 = .pointer (some ⟨ga, 0, none⟩) ∧ s9 = .pointer (some ⟨gb, 0, none⟩) ∧ Box 31 wx ga [m0, m1, m2] ∧ Box 31 wx gb [m3, m4, m5] ∧ Box 55 wx (w.heap.size) [m0, m1, m2, m3, m4, m5, m6, m7, m8] ∧ Box 55 wx (w.heap.size + 1) [0, 0, 0, 0, 0, 0, 0, 0, 0] ∧ Box 55 wx (w.heap.size + 1 + 1) [d0, d1, d2, d3, d4, d5, d6, d7, 0] ∧ Below w.heap.size w wx)
  have rd0 := Bm16.cell 0 rfl
  have rd1 := Bm16.cell 1 rfl
  have rd2 := Bm16.cell 2 rfl
  have rd3 := Bm16.cell 3 rfl
  have rd4 := Bm16.cell 4 rfl
  have rd5 := Bm16.cell 5 rfl
  case first =>
    go_region_held3 (fun w' => w'.cell? ⟨w.heap.size, 0, none⟩ = some (.int .i64 m0) ∧ w'.cell? ⟨w.heap.size, 1, none⟩ = some (.int .i64 m1) ∧ w'.cell? ⟨w.heap.size, 2, none⟩ = some (.int .i64 m2) ∧ w'.cell? ⟨w.heap.size, 3, none⟩ = some (.int .i64 m3) ∧ w'.cell? ⟨w.heap.size, 4, none⟩ = some (.int .i64 m4) ∧ w'.cell? ⟨w.heap.size, 5, none⟩ = some (.int .i64 m5)) ((go_split_ands; (repeat (any_goals (with_reducible apply And.intro))) <;> ((repeat (first | (with_reducible assumption) | (with_reducible refine keepD ?_) | (with_reducible refine keepA _ ?_) | (with_reducible refine keepS2 ?_ (by (try simp only [World.size_alloc, World.size_drew, World.size_setCell]); omega)))); done))) (fail)
    all_goals (go_wp2_with fail; go_meet; first | exact ⟨_, _, rfl, rfl, Box.drew (Box.alloc (Box.new [m0, m1, m2] rfl) _), Box.drew (Box.new [m3, m4, m5] (by simp only [World.size_alloc])), Box.drew (Box.alloc (Box.alloc Bm16 _) _), Box.drew (Box.alloc (Box.alloc Br16 _) _), Box.drew (Box.alloc (Box.alloc Bo16 _) _), by (repeat' (first | (with_reducible exact Below.refl _ _) | (with_reducible assumption) | (with_reducible refine Below.alloc ?_ ?_ _) | (with_reducible refine Below.drew ?_) | (with_reducible refine below_drewN ?_ _) | (with_reducible refine Below.setCell ?_ ?_ _) | (refine Below.step ?_ (by with_reducible assumption) ?_) | go_size))⟩ | exact ⟨_, _, rfl, rfl, Box.drew (Box.new [m0, m1, m2] (by simp only [World.size_alloc])), Box.drew (Box.alloc (Box.new [m3, m4, m5] rfl) _), Box.drew (Box.alloc (Box.alloc Bm16 _) _), Box.drew (Box.alloc (Box.alloc Br16 _) _), Box.drew (Box.alloc (Box.alloc Bo16 _) _), by (repeat' (first | (with_reducible exact Below.refl _ _) | (with_reducible assumption) | (with_reducible refine Below.alloc ?_ ?_ _) | (with_reducible refine Below.drew ?_) | (with_reducible refine below_drewN ?_ _) | (with_reducible refine Below.setCell ?_ ?_ _) | (refine Below.step ?_ (by with_reducible assumption) ?_) | go_size))⟩)
  clear Bm16 Br16 Bo16 hB16 ltm16 ltr16 lto16 hz16
  case' rest => obtain ⟨ga16, gb16, rfl, rfl, Bac, Bbc, Bmc, Brc, Boc, hBc⟩ := hcut
  go_wp2_with fail
  obtain ⟨hw0, hw1, hw2⟩ := detw sm0 sm4 sm1 sm3
  have hc : Hid (∀ w' : World, Calls Try.prog 72 #[.int .i64 (m0 * m4 - m1 * m3), .int .i64 p] w' fun e w'' => e = .returned (.int .i64 d8) ∧ w'' = w') := fun w' => (HCM.out _ w').mono fun _ _ h => ⟨by rw [hd8.out]; exact h.1, h.2.symm⟩
  refine wp_name (fun w' => Box 55 w' (w.heap.size) [m0, m1, m2, m3, m4, m5, m6, m7, m8] ∧ Box 55 w' (w.heap.size + 1) [0, 0, 0, 0, 0, 0, 0, 0, 0] ∧ Box 55 w' (w.heap.size + 1 + 1) [d0, d1, d2, d3, d4, d5, d6, d7, 0] ∧ Box 31 w' (ga16) [m0, m1, m2] ∧ Box 31 w' (gb16) [m3, m4, m5] ∧ Below w.heap.size w w') ⟨Bmc, Brc, Boc, Bac, Bbc, hBc⟩ ?_
  rintro wq17 ⟨Bm17, Br17, Bo17, Ba17, Bb17, hB17⟩
  clear Bmc Brc Boc Bac Bbc hBc
  have hz17 := hB17.size
  have ltm17 := Bm17.lt
  have ltr17 := Br17.lt
  have lto17 := Bo17.lt
  have lta17 := Ba17.lt
  have ltb17 := Bb17.lt
  have rd0 := Ba17.cell 0 rfl
  have rd1 := Bb17.cell 1 rfl
  have rd2 := Ba17.cell 1 rfl
  have rd3 := Bb17.cell 0 rfl
  refine wp_region_still_tail 28 (by kernel_rfl) (by kernel_rfl) ?_
  simp only [List.take_succ_cons, List.take_zero, List.drop_succ_cons, List.drop_zero]
  repeat (first | still_step | still_call (hc.out _))
  try refine wpStill_nil ?_
  change wpList _ _ _ _ _ wq17.drew
  clear rd0 rd1 rd2 rd3
  have st := (Box.drew Bo17).cell 8 rfl
  have sf := (Box.drew Bo17).frz 8
  go_wp2_with fail
  clear hw0 hw1 hw2 hc
  rw [rounds_succ]
  go_wp2_with fail
  have rs0 := Br17.cell 0 rfl
  have rf0 := Br17.frz 0
  have rd0 := Bo17.cell 0 rfl
  have rs1 := Br17.cell 1 rfl
  have rf1 := Br17.frz 1
  have rd1 := Bo17.cell 1 rfl
  have rs2 := Br17.cell 2 rfl
  have rf2 := Br17.frz 2
  have rd2 := Bo17.cell 2 rfl
  have rs3 := Br17.cell 3 rfl
  have rf3 := Br17.frz 3
  have rd3 := Bo17.cell 3 rfl
  have rs4 := Br17.cell 4 rfl
  have rf4 := Br17.frz 4
  have rd4 := Bo17.cell 4 rfl
  have rs5 := Br17.cell 5 rfl
  have rf5 := Br17.frz 5
  have rd5 := Bo17.cell 5 rfl
  have rs6 := Br17.cell 6 rfl
  have rf6 := Br17.frz 6
  have rd6 := Bo17.cell 6 rfl
  have rs7 := Br17.cell 7 rfl
  have rf7 := Br17.frz 7
  have rd7 := Bo17.cell 7 rfl
  have rs8 := Br17.cell 8 rfl
  have rf8 := Br17.frz 8
  have rd8 := Bo17.cell 8 rfl
  rw [rounds_succ]
  repeat ((fail_if_success guard_target = (_ : Exit → Act → World → Prop) Exit.ret _ _); (first | go_values | go_skip | go_guarded | go_step | go_upon | go_back))
  (try simp only [Exit.inBlock, Exit.then]); refine bodyPost_ret (by simp [results, Try.results117, go_sem, *]; try rfl) rfl ?_
  exact ⟨by rw [hE.out], by (repeat' (first | (with_reducible exact Below.refl _ _) | (with_reducible assumption) | (with_reducible refine Below.alloc ?_ ?_ _) | (with_reducible refine Below.drew ?_) | (with_reducible refine below_drewN ?_ _) | (with_reducible refine Below.setCell ?_ ?_ _) | (refine Below.step ?_ (by with_reducible assumption) ?_) | go_size))⟩
end Go.Proofs.Ytemimkbngfbomaa
