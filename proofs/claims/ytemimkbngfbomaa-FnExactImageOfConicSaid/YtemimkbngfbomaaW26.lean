/- Maps in the specification: determinant, normal maps, Is; p is a prime. -/
import Derived.Test.YtemimkbngfbomaaW25b
import Derived.Test.YtemimkbngfbomaaA4
import Derived.Deep.AppendLies
namespace Go.Proofs.Ytemimkbngfbomaa
open Go.RowKit
set_option linter.unusedSimpArgs false
set_option linter.unusedVariables false
set_option maxRecDepth 100000

theorem l02Det_any (p m0 m1 m2 m3 m4 m5 m6 m7 m8 : Int) (w : World) (k1 : 3 ≤ p) (k2 : p ≤ 13) (sm0 : sm m0) (sm1 : sm m1) (sm2 : sm m2) (sm3 : sm m3) (sm4 : sm m4) (sm5 : sm m5) (sm6 : sm m6) (sm7 : sm m7) (sm8 : sm m8) :
    Calls Try.prog 92 #[.int .i64 p, .agg #[.int .i64 m0, .int .i64 m1, .int .i64 m2, .int .i64 m3, .int .i64 m4, .int .i64 m5, .int .i64 m6, .int .i64 m7, .int .i64 m8]] w fun e w' => e = .returned (.int .i64 (M9.det p ⟨m0, m1, m2, m3, m4, m5, m6, m7, m8⟩)) ∧ Below w.heap.size w w' := by
  go_enter Try.func92, Try.ntmps92
  go_wp2_with (go_at_call 70; refine (l01Det_any _ _ _ _ _ _ _ _ _ _ _ k1 k2 sm0 sm1 sm2 sm3 sm4 sm5 sm6 sm7 sm8).mono ?_; rintro e w1 ⟨rfl, hb1⟩; obtain ⟨hc1, hf1⟩ := bcell hb1; have hz1 := hb1.size; (try simp only [World.size_alloc, World.size_setCell, World.size_drew] at hz1); (try (have hy1w0 : w.heap.size < w1.heap.size := by omega)); (try (have hy1w1 : w.heap.size + 1 < w1.heap.size := by omega)); (try (have hy1w2 : w.heap.size + 1 + 1 < w1.heap.size := by omega)); (try (have hy1w3 : w.heap.size + 1 + 1 + 1 < w1.heap.size := by omega)); (try (have hy1w4 : w.heap.size + 1 + 1 + 1 + 1 < w1.heap.size := by omega)))
  go_returns
  exact ⟨rfl, by (repeat' (first | (with_reducible exact Below.refl _ _) | (with_reducible assumption) | (with_reducible refine Below.alloc ?_ ?_ _) | (with_reducible refine Below.drew ?_) | (with_reducible refine below_drewN ?_ _) | (with_reducible refine Below.setCell ?_ ?_ _) | (refine Below.step ?_ (by with_reducible assumption) ?_) | go_size))⟩
def Norm9 (p x0 x1 x2 x3 x4 x5 x6 x7 x8 : Int) (w : World) (e : Ending) (w' : World) : Prop :=
  ∃ g cap b, e = .returned (.tuple #[.slice (some ⟨g, 0, none⟩) 9 cap, .bool b]) ∧ w.heap.size ≤ g ∧ g < w'.heap.size ∧ w'.cell? ⟨g, 0, none⟩ = some (.int .i64 (nr p (fac p [x0, x1, x2, x3, x4, x5, x6, x7, x8]) x0)) ∧ w'.cell? ⟨g, 1, none⟩ = some (.int .i64 (nr p (fac p [x0, x1, x2, x3, x4, x5, x6, x7, x8]) x1)) ∧ w'.cell? ⟨g, 2, none⟩ = some (.int .i64 (nr p (fac p [x0, x1, x2, x3, x4, x5, x6, x7, x8]) x2)) ∧ w'.cell? ⟨g, 3, none⟩ = some (.int .i64 (nr p (fac p [x0, x1, x2, x3, x4, x5, x6, x7, x8]) x3)) ∧ w'.cell? ⟨g, 4, none⟩ = some (.int .i64 (nr p (fac p [x0, x1, x2, x3, x4, x5, x6, x7, x8]) x4)) ∧ w'.cell? ⟨g, 5, none⟩ = some (.int .i64 (nr p (fac p [x0, x1, x2, x3, x4, x5, x6, x7, x8]) x5)) ∧ w'.cell? ⟨g, 6, none⟩ = some (.int .i64 (nr p (fac p [x0, x1, x2, x3, x4, x5, x6, x7, x8]) x6)) ∧ w'.cell? ⟨g, 7, none⟩ = some (.int .i64 (nr p (fac p [x0, x1, x2, x3, x4, x5, x6, x7, x8]) x7)) ∧ w'.cell? ⟨g, 8, none⟩ = some (.int .i64 (nr p (fac p [x0, x1, x2, x3, x4, x5, x6, x7, x8]) x8)) ∧ Below w.heap.size w w'
theorem l01Norm9_any (p x0 x1 x2 x3 x4 x5 x6 x7 x8 : Int) (b cap : Nat) (w : World) (hp : isP p = true) (hc : Rd w b 0 [x0, x1, x2, x3, x4, x5, x6, x7, x8]) (hbl : b < w.heap.size) :
    Calls Try.prog 97 #[.int .i64 p, .slice (some ⟨b, 0, none⟩) 9 cap] w (Norm9 p x0 x1 x2 x3 x4 x5 x6 x7 x8 w) :=
  (l01Norm_ne p b 0 cap [x0, x1, x2, x3, x4, x5, x6, x7, x8] w hp hc hbl (by simp) (by simp)).mono fun e w' ⟨g, c, he, h1, h2, hR, _, hb⟩ => by
    refine ⟨g, c, _, he, h1, h2, (by simpa using hR 0 (nr p (fac p [x0, x1, x2, x3, x4, x5, x6, x7, x8]) x0) rfl), (by simpa using hR 1 (nr p (fac p [x0, x1, x2, x3, x4, x5, x6, x7, x8]) x1) rfl), (by simpa using hR 2 (nr p (fac p [x0, x1, x2, x3, x4, x5, x6, x7, x8]) x2) rfl), (by simpa using hR 3 (nr p (fac p [x0, x1, x2, x3, x4, x5, x6, x7, x8]) x3) rfl), (by simpa using hR 4 (nr p (fac p [x0, x1, x2, x3, x4, x5, x6, x7, x8]) x4) rfl), (by simpa using hR 5 (nr p (fac p [x0, x1, x2, x3, x4, x5, x6, x7, x8]) x5) rfl), (by simpa using hR 6 (nr p (fac p [x0, x1, x2, x3, x4, x5, x6, x7, x8]) x6) rfl), (by simpa using hR 7 (nr p (fac p [x0, x1, x2, x3, x4, x5, x6, x7, x8]) x7) rfl), (by simpa using hR 8 (nr p (fac p [x0, x1, x2, x3, x4, x5, x6, x7, x8]) x8) rfl), hb⟩
set_option maxHeartbeats 8000000 in
theorem l02Normal_any (p m0 m1 m2 m3 m4 m5 m6 m7 m8 : Int) (w : World) (hp : isP p = true) :
    Calls Try.prog 93 #[.int .i64 p, .agg #[.int .i64 m0, .int .i64 m1, .int .i64 m2, .int .i64 m3, .int .i64 m4, .int .i64 m5, .int .i64 m6, .int .i64 m7, .int .i64 m8]] w fun e w' => e = .returned (.agg #[.int .i64 (nmM p ⟨m0, m1, m2, m3, m4, m5, m6, m7, m8⟩).m0, .int .i64 (nmM p ⟨m0, m1, m2, m3, m4, m5, m6, m7, m8⟩).m1, .int .i64 (nmM p ⟨m0, m1, m2, m3, m4, m5, m6, m7, m8⟩).m2, .int .i64 (nmM p ⟨m0, m1, m2, m3, m4, m5, m6, m7, m8⟩).m3, .int .i64 (nmM p ⟨m0, m1, m2, m3, m4, m5, m6, m7, m8⟩).m4, .int .i64 (nmM p ⟨m0, m1, m2, m3, m4, m5, m6, m7, m8⟩).m5, .int .i64 (nmM p ⟨m0, m1, m2, m3, m4, m5, m6, m7, m8⟩).m6, .int .i64 (nmM p ⟨m0, m1, m2, m3, m4, m5, m6, m7, m8⟩).m7, .int .i64 (nmM p ⟨m0, m1, m2, m3, m4, m5, m6, m7, m8⟩).m8]) ∧ Below w.heap.size w w' := by
  have HP := Lib.hid hp; clear hp
  go_enter Try.func93, Try.ntmps93
  go_wp2_with fail
  refine wp_name (fun w' => Box 55 w' (w.heap.size) [m0, m1, m2, m3, m4, m5, m6, m7, m8] ∧ Box 55 w' (w.heap.size + 1) [0, 0, 0, 0, 0, 0, 0, 0, 0] ∧ Box 55 w' (w.heap.size + 1 + 1 + 1) [0, 0, 0, 0, 0, 0, 0, 0, 0] ∧ OwnI w' w.heap.size (.slice (some ⟨w.heap.size + 1 + 1, 0, none⟩) 0 0) [] ∧ Below w.heap.size w w') ⟨(by ((with_reducible refine Box.alloc ?_ _); (with_reducible refine Box.alloc ?_ _); (with_reducible refine Box.alloc ?_ _); refine Box.new [m0, m1, m2, m3, m4, m5, m6, m7, m8] ?_; first | with_reducible rfl | simp)), (by ((with_reducible refine Box.alloc ?_ _); (with_reducible refine Box.alloc ?_ _); refine Box.new [0, 0, 0, 0, 0, 0, 0, 0, 0] ?_; first | with_reducible rfl | simp)), (by (refine Box.new [0, 0, 0, 0, 0, 0, 0, 0, 0] ?_; first | with_reducible rfl | simp)), (by refine OwnI.alloc ?_ _; refine OwnI.made0 ?_ ?_ <;> simp <;> omega), by (repeat' (first | (with_reducible exact Below.refl _ _) | (with_reducible assumption) | (with_reducible refine Below.alloc ?_ ?_ _) | (with_reducible refine Below.drew ?_) | (with_reducible refine below_drewN ?_ _) | (with_reducible refine Below.setCell ?_ ?_ _) | (refine Below.step ?_ (by with_reducible assumption) ?_) | go_size))⟩ ?_
  rintro wq0 ⟨Bm0, Br0, Bo0, HO0, hB0⟩
  have hz0 := hB0.size
  have ltm0 := Bm0.lt
  have ltr0 := Br0.lt
  have lto0 := Bo0.lt
  refine wp_loop_rounds 4 ?_
  rw [rounds_succ]
  go_wp2_with fail
  have rd0 := Bm0.cell 0 rfl
  have rd1 := Bm0.cell 1 rfl
  have rd2 := Bm0.cell 2 rfl
  have hOa : OwnI (wq0.alloc (.cells #[.int .i64 m0, .int .i64 m1, .int .i64 m2] 2)).drew w.heap.size (.slice (some ⟨w.heap.size + 1 + 1, 0, none⟩) 0 0) [] := OwnI.alloc HO0 (.cells #[.int .i64 m0, .int .i64 m1, .int .i64 m2] 2)
  have hNa : Box 2 (wq0.alloc (.cells #[.int .i64 m0, .int .i64 m1, .int .i64 m2] 2)).drew wq0.heap.size [m0, m1, m2] := Box.new [m0, m1, m2] rfl
  have hne := Box.ne Bm0 (by decide) HO0
  go_region_held3 (fun w' => w'.cell? ⟨w.heap.size, 0, none⟩ = some (.int .i64 m0) ∧ w'.cell? ⟨w.heap.size, 1, none⟩ = some (.int .i64 m1) ∧ w'.cell? ⟨w.heap.size, 2, none⟩ = some (.int .i64 m2)) ((go_split_ands; (repeat (any_goals (with_reducible apply And.intro))) <;> (first | (with_reducible assumption) | (with_reducible exact keepD (by with_reducible assumption)) | (with_reducible exact keepD (keepA _ (by with_reducible assumption))) | ((refine hgr.cell ?_ ?_); (with_reducible assumption); (exact hne))))) ((refine appI_step rfl _ _ rfl w.heap.size _ [] [m0, m1, m2] rfl hOa rfl hNa rfl (by decide) (by simp) (by go_size) ?_; intro g1 cap1 wq1 HO1 hgr hBk))
  go_wp2_with fail
  have Bm1 := Box.grown (Box.drew (Box.alloc Bm0 _)) (by decide) hOa hgr
  have Br1 := Box.grown (Box.drew (Box.alloc Br0 _)) (by decide) hOa hgr
  have Bo1 := Box.grown (Box.drew (Box.alloc Bo0 _)) (by decide) hOa hgr
  have hB1 := hBk _ _ (Below.drew (Below.alloc hB0 (by omega) _)) (Nat.le_refl _)
  clear hgr hBk hne hOa hNa rd0 rd1 rd2 Bm0 Br0 Bo0 HO0 hB0 ltm0 ltr0 lto0 hz0
  have hz1 := hB1.size
  have ltm1 := Bm1.lt
  have ltr1 := Br1.lt
  have lto1 := Bo1.lt
  rw [rounds_succ]
  go_wp2_with fail
  have rd0 := Bm1.cell 3 rfl
  have rd1 := Bm1.cell 4 rfl
  have rd2 := Bm1.cell 5 rfl
  have hOa : OwnI (wq1.alloc (.cells #[.int .i64 m3, .int .i64 m4, .int .i64 m5] 2)).drew w.heap.size (.slice (some ⟨g1, 0, none⟩) 3 cap1) [m0, m1, m2] := OwnI.alloc HO1 (.cells #[.int .i64 m3, .int .i64 m4, .int .i64 m5] 2)
  have hNa : Box 2 (wq1.alloc (.cells #[.int .i64 m3, .int .i64 m4, .int .i64 m5] 2)).drew wq1.heap.size [m3, m4, m5] := Box.new [m3, m4, m5] rfl
  have hne := Box.ne Bm1 (by decide) HO1
  go_region_held3 (fun w' => w'.cell? ⟨w.heap.size, 3, none⟩ = some (.int .i64 m3) ∧ w'.cell? ⟨w.heap.size, 4, none⟩ = some (.int .i64 m4) ∧ w'.cell? ⟨w.heap.size, 5, none⟩ = some (.int .i64 m5)) ((go_split_ands; (repeat (any_goals (with_reducible apply And.intro))) <;> (first | (with_reducible assumption) | (with_reducible exact keepD (by with_reducible assumption)) | (with_reducible exact keepD (keepA _ (by with_reducible assumption))) | ((refine hgr.cell ?_ ?_); (with_reducible assumption); (exact hne))))) ((refine appI_step rfl _ _ rfl w.heap.size _ [m0, m1, m2] [m3, m4, m5] rfl hOa rfl hNa rfl (by decide) (by simp) (by go_size) ?_; intro g2 cap2 wq2 HO2 hgr hBk))
  go_wp2_with fail
  have Bm2 := Box.grown (Box.drew (Box.alloc Bm1 _)) (by decide) hOa hgr
  have Br2 := Box.grown (Box.drew (Box.alloc Br1 _)) (by decide) hOa hgr
  have Bo2 := Box.grown (Box.drew (Box.alloc Bo1 _)) (by decide) hOa hgr
  have hB2 := hBk _ _ (Below.drew (Below.alloc hB1 (by omega) _)) (Nat.le_refl _)
  clear hgr hBk hne hOa hNa rd0 rd1 rd2 Bm1 Br1 Bo1 HO1 hB1 ltm1 ltr1 lto1 hz1
  have hz2 := hB2.size
  have ltm2 := Bm2.lt
  have ltr2 := Br2.lt
  have lto2 := Bo2.lt
  rw [rounds_succ]
  go_wp2_with fail
  have rd0 := Bm2.cell 6 rfl
  have rd1 := Bm2.cell 7 rfl
  have rd2 := Bm2.cell 8 rfl
  have hOa : OwnI (wq2.alloc (.cells #[.int .i64 m6, .int .i64 m7, .int .i64 m8] 2)).drew w.heap.size (.slice (some ⟨g2, 0, none⟩) 6 cap2) [m0, m1, m2, m3, m4, m5] := OwnI.alloc HO2 (.cells #[.int .i64 m6, .int .i64 m7, .int .i64 m8] 2)
  have hNa : Box 2 (wq2.alloc (.cells #[.int .i64 m6, .int .i64 m7, .int .i64 m8] 2)).drew wq2.heap.size [m6, m7, m8] := Box.new [m6, m7, m8] rfl
  have hne := Box.ne Bm2 (by decide) HO2
  go_region_held3 (fun w' => w'.cell? ⟨w.heap.size, 6, none⟩ = some (.int .i64 m6) ∧ w'.cell? ⟨w.heap.size, 7, none⟩ = some (.int .i64 m7) ∧ w'.cell? ⟨w.heap.size, 8, none⟩ = some (.int .i64 m8)) ((go_split_ands; (repeat (any_goals (with_reducible apply And.intro))) <;> (first | (with_reducible assumption) | (with_reducible exact keepD (by with_reducible assumption)) | (with_reducible exact keepD (keepA _ (by with_reducible assumption))) | ((refine hgr.cell ?_ ?_); (with_reducible assumption); (exact hne))))) ((refine appI_step rfl _ _ rfl w.heap.size _ [m0, m1, m2, m3, m4, m5] [m6, m7, m8] rfl hOa rfl hNa rfl (by decide) (by simp) (by go_size) ?_; intro g3 cap3 wq3 HO3 hgr hBk))
  go_wp2_with fail
  have Bm3 := Box.grown (Box.drew (Box.alloc Bm2 _)) (by decide) hOa hgr
  have Br3 := Box.grown (Box.drew (Box.alloc Br2 _)) (by decide) hOa hgr
  have Bo3 := Box.grown (Box.drew (Box.alloc Bo2 _)) (by decide) hOa hgr
  have hB3 := hBk _ _ (Below.drew (Below.alloc hB2 (by omega) _)) (Nat.le_refl _)
  clear hgr hBk hne hOa hNa rd0 rd1 rd2 Bm2 Br2 Bo2 HO2 hB2 ltm2 ltr2 lto2 hz2
  have hz3 := hB3.size
  have ltm3 := Bm3.lt
  have ltr3 := Br3.lt
  have lto3 := Bo3.lt
  obtain ⟨hR, hgl, hgb, _⟩ := HO3.rd (by simp)
  rw [rounds_succ]
  go_wp2_with (go_at_call 97; refine (l01Norm9_any p m0 m1 m2 m3 m4 m5 m6 m7 m8 g3 cap3 _ HP.out hR hgl).mono ?_; rintro e wq4 ⟨g5, cap5, b5, rfl, hg5, hl5, c0, c1, c2, c3, c4, c5, c6, c7, c8, hb5⟩)
  have Bm4 := Box.below hb5 Bm3
  have Br4 := Box.below hb5 Br3
  have Bo4 := Box.below hb5 Bo3
  have hB4 := Below.step hB3 hb5 (by omega)
  have nem : g5 ≠ w.heap.size := by omega
  have ner : g5 ≠ w.heap.size + 1 := by omega
  have neo : g5 ≠ w.heap.size + 1 + 1 + 1 := by omega
  clear hR hgl hgb HO3 hb5 Bm3 ltm3 Br3 ltr3 Bo3 lto3 hB3 hz3
  have c0_4 := c0
  clear c0
  have c1_4 := c1
  clear c1
  have c2_4 := c2
  clear c2
  have c3_4 := c3
  clear c3
  have c4_4 := c4
  clear c4
  have c5_4 := c5
  clear c5
  have c6_4 := c6
  clear c6
  have c7_4 := c7
  clear c7
  have c8_4 := c8
  clear c8
  have hz4 := hB4.size
  have ltm4 := Bm4.lt
  have ltr4 := Br4.lt
  have lto4 := Bo4.lt
  have hw0 : IntKind.i64.wrap 0 = 0 := by decide
  have hw1 : IntKind.i64.wrap 1 = 1 := by decide
  have hw2 : IntKind.i64.wrap 2 = 2 := by decide
  have hw3 : IntKind.i64.wrap 3 = 3 := by decide
  have hw4 : IntKind.i64.wrap 4 = 4 := by decide
  have hw5 : IntKind.i64.wrap 5 = 5 := by decide
  have hw6 : IntKind.i64.wrap 6 = 6 := by decide
  have hw7 : IntKind.i64.wrap 7 = 7 := by decide
  have hw8 : IntKind.i64.wrap 8 = 8 := by decide
  refine wp_loop_rounds 4 ?_
  rw [rounds_succ]
  go_wp2_with fail
  have rd0 := c0_4
  have rd1 := c1_4
  have rd2 := c2_4
  refine wp_region_still_tail 19 (by kernel_rfl) (by kernel_rfl) ?_
  simp only [List.take_succ_cons, List.take_zero, List.drop_succ_cons, List.drop_zero]
  repeat still_step
  try refine wpStill_nil ?_
  change wpList _ _ _ _ _ wq4.drew
  clear rd0 rd1 rd2
  have st0 := (Box.drew Bo4).cell 0 rfl
  have sf0 := (Box.drew Bo4).frz 0
  have sg0 := Bo4.frz 0
  have su0 := Bo4.cell 0 rfl
  have st1 := (Box.drew Bo4).cell 1 rfl
  have sf1 := (Box.drew Bo4).frz 1
  have sg1 := Bo4.frz 1
  have su1 := Bo4.cell 1 rfl
  have st2 := (Box.drew Bo4).cell 2 rfl
  have sf2 := (Box.drew Bo4).frz 2
  have sg2 := Bo4.frz 2
  have su2 := Bo4.cell 2 rfl
  go_wp2_with fail
  rw [rounds_succ]
  go_wp2_with fail
  refine wp_name (fun w' => Box 55 w' (w.heap.size) [m0, m1, m2, m3, m4, m5, m6, m7, m8] ∧ Box 55 w' (w.heap.size + 1) [0, 0, 0, 0, 0, 0, 0, 0, 0] ∧ Box 55 w' (w.heap.size + 1 + 1 + 1) [nr p (fac p [m0, m1, m2, m3, m4, m5, m6, m7, m8]) m0, nr p (fac p [m0, m1, m2, m3, m4, m5, m6, m7, m8]) m1, nr p (fac p [m0, m1, m2, m3, m4, m5, m6, m7, m8]) m2, 0, 0, 0, 0, 0, 0] ∧ w'.cell? ⟨g5, 0, none⟩ = some (.int .i64 (nr p (fac p [m0, m1, m2, m3, m4, m5, m6, m7, m8]) m0)) ∧ w'.cell? ⟨g5, 1, none⟩ = some (.int .i64 (nr p (fac p [m0, m1, m2, m3, m4, m5, m6, m7, m8]) m1)) ∧ w'.cell? ⟨g5, 2, none⟩ = some (.int .i64 (nr p (fac p [m0, m1, m2, m3, m4, m5, m6, m7, m8]) m2)) ∧ w'.cell? ⟨g5, 3, none⟩ = some (.int .i64 (nr p (fac p [m0, m1, m2, m3, m4, m5, m6, m7, m8]) m3)) ∧ w'.cell? ⟨g5, 4, none⟩ = some (.int .i64 (nr p (fac p [m0, m1, m2, m3, m4, m5, m6, m7, m8]) m4)) ∧ w'.cell? ⟨g5, 5, none⟩ = some (.int .i64 (nr p (fac p [m0, m1, m2, m3, m4, m5, m6, m7, m8]) m5)) ∧ w'.cell? ⟨g5, 6, none⟩ = some (.int .i64 (nr p (fac p [m0, m1, m2, m3, m4, m5, m6, m7, m8]) m6)) ∧ w'.cell? ⟨g5, 7, none⟩ = some (.int .i64 (nr p (fac p [m0, m1, m2, m3, m4, m5, m6, m7, m8]) m7)) ∧ w'.cell? ⟨g5, 8, none⟩ = some (.int .i64 (nr p (fac p [m0, m1, m2, m3, m4, m5, m6, m7, m8]) m8)) ∧ Below w.heap.size w w') ⟨Box.far (Box.far (Box.far (Box.drew Bm4) (by omega)) (by omega)) (by omega), Box.far (Box.far (Box.far (Box.drew Br4) (by omega)) (by omega)) (by omega), (Box.set (Box.set (Box.set (Box.drew Bo4) 0 (nr p (fac p [m0, m1, m2, m3, m4, m5, m6, m7, m8]) m0)) 1 (nr p (fac p [m0, m1, m2, m3, m4, m5, m6, m7, m8]) m1)) 2 (nr p (fac p [m0, m1, m2, m3, m4, m5, m6, m7, m8]) m2)).cast rfl, (by repeat (first | (with_reducible assumption) | (with_reducible refine keepS2 ?_ (by omega)) | (with_reducible refine keepD ?_))), (by repeat (first | (with_reducible assumption) | (with_reducible refine keepS2 ?_ (by omega)) | (with_reducible refine keepD ?_))), (by repeat (first | (with_reducible assumption) | (with_reducible refine keepS2 ?_ (by omega)) | (with_reducible refine keepD ?_))), (by repeat (first | (with_reducible assumption) | (with_reducible refine keepS2 ?_ (by omega)) | (with_reducible refine keepD ?_))), (by repeat (first | (with_reducible assumption) | (with_reducible refine keepS2 ?_ (by omega)) | (with_reducible refine keepD ?_))), (by repeat (first | (with_reducible assumption) | (with_reducible refine keepS2 ?_ (by omega)) | (with_reducible refine keepD ?_))), (by repeat (first | (with_reducible assumption) | (with_reducible refine keepS2 ?_ (by omega)) | (with_reducible refine keepD ?_))), (by repeat (first | (with_reducible assumption) | (with_reducible refine keepS2 ?_ (by omega)) | (with_reducible refine keepD ?_))), (by repeat (first | (with_reducible assumption) | (with_reducible refine keepS2 ?_ (by omega)) | (with_reducible refine keepD ?_))), by (repeat' (first | (with_reducible exact Below.refl _ _) | (with_reducible assumption) | (with_reducible refine Below.alloc ?_ ?_ _) | (with_reducible refine Below.drew ?_) | (with_reducible refine below_drewN ?_ _) | (with_reducible refine Below.setCell ?_ ?_ _) | (refine Below.step ?_ (by with_reducible assumption) ?_) | go_size))⟩ ?_
  rintro wq5 ⟨Bm5, Br5, Bo5, c0_5, c1_5, c2_5, c3_5, c4_5, c5_5, c6_5, c7_5, c8_5, hB5⟩
  clear st0 sf0 sg0 su0 st1 sf1 sg1 su1 st2 sf2 sg2 su2 Bm4 Br4 Bo4 c0_4 c1_4 c2_4 c3_4 c4_4 c5_4 c6_4 c7_4 c8_4 hB4 ltm4 ltr4 lto4 hz4
  have hz5 := hB5.size
  have ltm5 := Bm5.lt
  have ltr5 := Br5.lt
  have lto5 := Bo5.lt
  have rd0 := c3_5
  have rd1 := c4_5
  have rd2 := c5_5
  refine wp_region_still_tail 19 (by kernel_rfl) (by kernel_rfl) ?_
  simp only [List.take_succ_cons, List.take_zero, List.drop_succ_cons, List.drop_zero]
  repeat still_step
  try refine wpStill_nil ?_
  change wpList _ _ _ _ _ wq5.drew
  clear rd0 rd1 rd2
  have st0 := (Box.drew Bo5).cell 3 rfl
  have sf0 := (Box.drew Bo5).frz 3
  have sg0 := Bo5.frz 3
  have su0 := Bo5.cell 3 rfl
  have st1 := (Box.drew Bo5).cell 4 rfl
  have sf1 := (Box.drew Bo5).frz 4
  have sg1 := Bo5.frz 4
  have su1 := Bo5.cell 4 rfl
  have st2 := (Box.drew Bo5).cell 5 rfl
  have sf2 := (Box.drew Bo5).frz 5
  have sg2 := Bo5.frz 5
  have su2 := Bo5.cell 5 rfl
  go_wp2_with fail
  rw [rounds_succ]
  go_wp2_with fail
  refine wp_name (fun w' => Box 55 w' (w.heap.size) [m0, m1, m2, m3, m4, m5, m6, m7, m8] ∧ Box 55 w' (w.heap.size + 1) [0, 0, 0, 0, 0, 0, 0, 0, 0] ∧ Box 55 w' (w.heap.size + 1 + 1 + 1) [nr p (fac p [m0, m1, m2, m3, m4, m5, m6, m7, m8]) m0, nr p (fac p [m0, m1, m2, m3, m4, m5, m6, m7, m8]) m1, nr p (fac p [m0, m1, m2, m3, m4, m5, m6, m7, m8]) m2, nr p (fac p [m0, m1, m2, m3, m4, m5, m6, m7, m8]) m3, nr p (fac p [m0, m1, m2, m3, m4, m5, m6, m7, m8]) m4, nr p (fac p [m0, m1, m2, m3, m4, m5, m6, m7, m8]) m5, 0, 0, 0] ∧ w'.cell? ⟨g5, 0, none⟩ = some (.int .i64 (nr p (fac p [m0, m1, m2, m3, m4, m5, m6, m7, m8]) m0)) ∧ w'.cell? ⟨g5, 1, none⟩ = some (.int .i64 (nr p (fac p [m0, m1, m2, m3, m4, m5, m6, m7, m8]) m1)) ∧ w'.cell? ⟨g5, 2, none⟩ = some (.int .i64 (nr p (fac p [m0, m1, m2, m3, m4, m5, m6, m7, m8]) m2)) ∧ w'.cell? ⟨g5, 3, none⟩ = some (.int .i64 (nr p (fac p [m0, m1, m2, m3, m4, m5, m6, m7, m8]) m3)) ∧ w'.cell? ⟨g5, 4, none⟩ = some (.int .i64 (nr p (fac p [m0, m1, m2, m3, m4, m5, m6, m7, m8]) m4)) ∧ w'.cell? ⟨g5, 5, none⟩ = some (.int .i64 (nr p (fac p [m0, m1, m2, m3, m4, m5, m6, m7, m8]) m5)) ∧ w'.cell? ⟨g5, 6, none⟩ = some (.int .i64 (nr p (fac p [m0, m1, m2, m3, m4, m5, m6, m7, m8]) m6)) ∧ w'.cell? ⟨g5, 7, none⟩ = some (.int .i64 (nr p (fac p [m0, m1, m2, m3, m4, m5, m6, m7, m8]) m7)) ∧ w'.cell? ⟨g5, 8, none⟩ = some (.int .i64 (nr p (fac p [m0, m1, m2, m3, m4, m5, m6, m7, m8]) m8)) ∧ Below w.heap.size w w') ⟨Box.far (Box.far (Box.far (Box.drew Bm5) (by omega)) (by omega)) (by omega), Box.far (Box.far (Box.far (Box.drew Br5) (by omega)) (by omega)) (by omega), (Box.set (Box.set (Box.set (Box.drew Bo5) 3 (nr p (fac p [m0, m1, m2, m3, m4, m5, m6, m7, m8]) m3)) 4 (nr p (fac p [m0, m1, m2, m3, m4, m5, m6, m7, m8]) m4)) 5 (nr p (fac p [m0, m1, m2, m3, m4, m5, m6, m7, m8]) m5)).cast rfl, (by repeat (first | (with_reducible assumption) | (with_reducible refine keepS2 ?_ (by omega)) | (with_reducible refine keepD ?_))), (by repeat (first | (with_reducible assumption) | (with_reducible refine keepS2 ?_ (by omega)) | (with_reducible refine keepD ?_))), (by repeat (first | (with_reducible assumption) | (with_reducible refine keepS2 ?_ (by omega)) | (with_reducible refine keepD ?_))), (by repeat (first | (with_reducible assumption) | (with_reducible refine keepS2 ?_ (by omega)) | (with_reducible refine keepD ?_))), (by repeat (first | (with_reducible assumption) | (with_reducible refine keepS2 ?_ (by omega)) | (with_reducible refine keepD ?_))), (by repeat (first | (with_reducible assumption) | (with_reducible refine keepS2 ?_ (by omega)) | (with_reducible refine keepD ?_))), (by repeat (first | (with_reducible assumption) | (with_reducible refine keepS2 ?_ (by omega)) | (with_reducible refine keepD ?_))), (by repeat (first | (with_reducible assumption) | (with_reducible refine keepS2 ?_ (by omega)) | (with_reducible refine keepD ?_))), (by repeat (first | (with_reducible assumption) | (with_reducible refine keepS2 ?_ (by omega)) | (with_reducible refine keepD ?_))), by (repeat' (first | (with_reducible exact Below.refl _ _) | (with_reducible assumption) | (with_reducible refine Below.alloc ?_ ?_ _) | (with_reducible refine Below.drew ?_) | (with_reducible refine below_drewN ?_ _) | (with_reducible refine Below.setCell ?_ ?_ _) | (refine Below.step ?_ (by with_reducible assumption) ?_) | go_size))⟩ ?_
  rintro wq6 ⟨Bm6, Br6, Bo6, c0_6, c1_6, c2_6, c3_6, c4_6, c5_6, c6_6, c7_6, c8_6, hB6⟩
  clear st0 sf0 sg0 su0 st1 sf1 sg1 su1 st2 sf2 sg2 su2 Bm5 Br5 Bo5 c0_5 c1_5 c2_5 c3_5 c4_5 c5_5 c6_5 c7_5 c8_5 hB5 ltm5 ltr5 lto5 hz5
  have hz6 := hB6.size
  have ltm6 := Bm6.lt
  have ltr6 := Br6.lt
  have lto6 := Bo6.lt
  have rd0 := c6_6
  have rd1 := c7_6
  have rd2 := c8_6
  refine wp_region_still_tail 19 (by kernel_rfl) (by kernel_rfl) ?_
  simp only [List.take_succ_cons, List.take_zero, List.drop_succ_cons, List.drop_zero]
  repeat still_step
  try refine wpStill_nil ?_
  change wpList _ _ _ _ _ wq6.drew
  clear rd0 rd1 rd2
  have st0 := (Box.drew Bo6).cell 6 rfl
  have sf0 := (Box.drew Bo6).frz 6
  have sg0 := Bo6.frz 6
  have su0 := Bo6.cell 6 rfl
  have st1 := (Box.drew Bo6).cell 7 rfl
  have sf1 := (Box.drew Bo6).frz 7
  have sg1 := Bo6.frz 7
  have su1 := Bo6.cell 7 rfl
  have st2 := (Box.drew Bo6).cell 8 rfl
  have sf2 := (Box.drew Bo6).frz 8
  have sg2 := Bo6.frz 8
  have su2 := Bo6.cell 8 rfl
  go_wp2_with fail
  have rs0 := Br6.cell 0 rfl
  have rf0 := Br6.frz 0
  have rd0 := Bo6.cell 0 rfl
  have rs1 := Br6.cell 1 rfl
  have rf1 := Br6.frz 1
  have rd1 := Bo6.cell 1 rfl
  have rs2 := Br6.cell 2 rfl
  have rf2 := Br6.frz 2
  have rd2 := Bo6.cell 2 rfl
  have rs3 := Br6.cell 3 rfl
  have rf3 := Br6.frz 3
  have rd3 := Bo6.cell 3 rfl
  have rs4 := Br6.cell 4 rfl
  have rf4 := Br6.frz 4
  have rd4 := Bo6.cell 4 rfl
  have rs5 := Br6.cell 5 rfl
  have rf5 := Br6.frz 5
  have rd5 := Bo6.cell 5 rfl
  have rs6 := Br6.cell 6 rfl
  have rf6 := Br6.frz 6
  have rd6 := Bo6.cell 6 rfl
  have rs7 := Br6.cell 7 rfl
  have rf7 := Br6.frz 7
  have rd7 := Bo6.cell 7 rfl
  have rs8 := Br6.cell 8 rfl
  have rf8 := Br6.frz 8
  have rd8 := Bo6.cell 8 rfl
  rw [rounds_succ]
  go_wp2_with fail
  (try simp only [Exit.inBlock, Exit.then]); refine bodyPost_ret (by simp [results, Try.results93, go_sem, *]; try rfl) rfl ?_
  exact ⟨rfl, by (repeat' (first | (with_reducible exact Below.refl _ _) | (with_reducible assumption) | (with_reducible refine Below.alloc ?_ ?_ _) | (with_reducible refine Below.drew ?_) | (with_reducible refine below_drewN ?_ _) | (with_reducible refine Below.setCell ?_ ?_ _) | (refine Below.step ?_ (by with_reducible assumption) ?_) | go_size))⟩
end Go.Proofs.Ytemimkbngfbomaa
