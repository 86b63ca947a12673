/- Images of points under maps: the reference's steps; p is a prime where it says so. -/
import Derived.Test.YthlmodofgoelbaaW27
import Derived.Test.YthlmodofgoelbaaP6
namespace Go.Proofs.Ythlmodofgoelbaa
open Go.RowKit
set_option linter.unusedSimpArgs false
set_option linter.unusedVariables false
set_option maxRecDepth 100000

def Norm3 (p x0 x1 x2 : Int) (w : World) (e : Ending) (w' : World) : Prop :=
  ∃ g cap b, e = .returned (.tuple #[.slice (some ⟨g, 0, none⟩) 3 cap, .bool b]) ∧ w.heap.size ≤ g ∧ g < w'.heap.size ∧ w'.cell? ⟨g, 0, none⟩ = some (.int .i64 (nr p (fac p [x0, x1, x2]) x0)) ∧ w'.cell? ⟨g, 1, none⟩ = some (.int .i64 (nr p (fac p [x0, x1, x2]) x1)) ∧ w'.cell? ⟨g, 2, none⟩ = some (.int .i64 (nr p (fac p [x0, x1, x2]) x2)) ∧ Below w.heap.size w w'
theorem l01Norm3_any (p x0 x1 x2 : Int) (b cap : Nat) (w : World) (hp : isP p = true) (hc : Rd w b 0 [x0, x1, x2]) (hbl : b < w.heap.size) :
    Calls Try.prog 123 #[.int .i64 p, .slice (some ⟨b, 0, none⟩) 3 cap] w (Norm3 p x0 x1 x2 w) :=
  (l01Norm_ne p b 0 cap [x0, x1, x2] w hp hc hbl (by simp) (by simp)).mono fun e w' ⟨g, c, he, h1, h2, hR, _, hb⟩ => by
    refine ⟨g, c, _, he, h1, h2, (by simpa using hR 0 (nr p (fac p [x0, x1, x2]) x0) rfl), (by simpa using hR 1 (nr p (fac p [x0, x1, x2]) x1) rfl), (by simpa using hR 2 (nr p (fac p [x0, x1, x2]) x2) rfl), hb⟩
set_option maxHeartbeats 8000000 in
theorem l02Image_any (p m0 m1 m2 m3 m4 m5 m6 m7 m8 a0 a1 a2 : Int) (w : World) (hp : isP p = true) (sm0 : sm m0) (sm1 : sm m1) (sm2 : sm m2) (sm3 : sm m3) (sm4 : sm m4) (sm5 : sm m5) (sm6 : sm m6) (sm7 : sm m7) (sm8 : sm m8) (sa0 : sm a0) (sa1 : sm a1) (sa2 : sm a2) :
    Calls Try.prog 110 #[.int .i64 p, .agg #[.int .i64 m0, .int .i64 m1, .int .i64 m2, .int .i64 m3, .int .i64 m4, .int .i64 m5, .int .i64 m6, .int .i64 m7, .int .i64 m8], .agg #[.int .i64 a0, .int .i64 a1, .int .i64 a2]] w fun e w' => e = .returned (.agg #[.int .i64 (imM p ⟨m0, m1, m2, m3, m4, m5, m6, m7, m8⟩ ⟨a0, a1, a2⟩).x, .int .i64 (imM p ⟨m0, m1, m2, m3, m4, m5, m6, m7, m8⟩ ⟨a0, a1, a2⟩).y, .int .i64 (imM p ⟨m0, m1, m2, m3, m4, m5, m6, m7, m8⟩ ⟨a0, a1, a2⟩).z]) ∧ Below w.heap.size w w' := by
  have HP := Lib.hid hp
  have k1 := isP_lo hp
  have hp0 : ¬ p = 0 := by omega
  clear hp k1
  go_enter Try.func110, Try.ntmps110
  go_wp2_with fail
  refine wp_name (fun w' => Box 24 w' (w.heap.size) [m0, m1, m2, m3, m4, m5, m6, m7, m8] ∧ Box 43 w' (w.heap.size + 1) [a0, a1, a2] ∧ Box 43 w' (w.heap.size + 1 + 1) [0, 0, 0] ∧ OwnI w' w.heap.size (.slice (some ⟨w.heap.size + 1 + 1 + 1, 0, none⟩) 0 0) [] ∧ Below w.heap.size w w') ⟨(by ((with_reducible refine Box.alloc ?_ _); (with_reducible refine Box.alloc ?_ _); (with_reducible refine Box.alloc ?_ _); refine Box.new [m0, m1, m2, m3, m4, m5, m6, m7, m8] ?_; first | with_reducible rfl | simp)), (by ((with_reducible refine Box.alloc ?_ _); (with_reducible refine Box.alloc ?_ _); refine Box.new [a0, a1, a2] ?_; first | with_reducible rfl | simp)), (by ((with_reducible refine Box.alloc ?_ _); refine Box.new [0, 0, 0] ?_; first | with_reducible rfl | simp)), (by refine OwnI.made0 ?_ ?_ <;> simp <;> omega), by (repeat' (first | (with_reducible exact Below.refl _ _) | (with_reducible assumption) | (with_reducible refine Below.alloc ?_ ?_ _) | (with_reducible refine Below.drew ?_) | (with_reducible refine below_drewN ?_ _) | (with_reducible refine Below.setCell ?_ ?_ _) | (refine Below.step ?_ (by with_reducible assumption) ?_) | go_size))⟩ ?_
  rintro wq0 ⟨Bm0, Ba0, Br0, HO0, hB0⟩
  have hz0 := hB0.size
  have ltm0 := Bm0.lt
  have lta0 := Ba0.lt
  have ltr0 := Br0.lt
  refine wp_loop_rounds 4 ?_
  rw [rounds_succ]
  go_wp2_with fail
  obtain ⟨hw0, hw1, hw2, hw3, hw4, htm⟩ := dtw p sm0 sm1 sm2 sa0 sa1 sa2
  have rd0 := Bm0.cell 0 rfl
  have rd1 := Bm0.cell 1 rfl
  have rd2 := Bm0.cell 2 rfl
  have rd3 := Ba0.cell 0 rfl
  have rd4 := Ba0.cell 1 rfl
  have rd5 := Ba0.cell 2 rfl
  have hOa : OwnI (wq0.alloc (.cells #[.int .i64 ((m0 * a0 + m1 * a1 + m2 * a2) % p)] 2)).drew w.heap.size (.slice (some ⟨w.heap.size + 1 + 1 + 1, 0, none⟩) 0 0) [] := OwnI.alloc HO0 (.cells #[.int .i64 ((m0 * a0 + m1 * a1 + m2 * a2) % p)] 2)
  have hNa : Box 2 (wq0.alloc (.cells #[.int .i64 ((m0 * a0 + m1 * a1 + m2 * a2) % p)] 2)).drew wq0.heap.size [(m0 * a0 + m1 * a1 + m2 * a2) % p] := Box.new [(m0 * a0 + m1 * a1 + m2 * a2) % p] rfl
  have hne := Box.ne Bm0 (by decide) HO0
  have hna := Box.ne Ba0 (by decide) HO0
  go_region_held3 (fun w' => w'.cell? ⟨w.heap.size, 0, none⟩ = some (.int .i64 m0) ∧ w'.cell? ⟨w.heap.size, 1, none⟩ = some (.int .i64 m1) ∧ w'.cell? ⟨w.heap.size, 2, none⟩ = some (.int .i64 m2) ∧ w'.cell? ⟨w.heap.size + 1, 0, none⟩ = some (.int .i64 a0) ∧ w'.cell? ⟨w.heap.size + 1, 1, none⟩ = some (.int .i64 a1) ∧ w'.cell? ⟨w.heap.size + 1, 2, none⟩ = some (.int .i64 a2)) ((go_split_ands; (repeat (any_goals (with_reducible apply And.intro))) <;> (first | (with_reducible assumption) | (with_reducible exact keepD (by with_reducible assumption)) | (with_reducible exact keepD (keepA _ (by with_reducible assumption))) | ((refine hgr.cell ?_ ?_); (with_reducible assumption); (exact hne)) | ((refine hgr.cell ?_ ?_); (with_reducible assumption); (exact hna))))) ((refine appI_step rfl _ _ rfl w.heap.size _ [] [(m0 * a0 + m1 * a1 + m2 * a2) % p] rfl hOa rfl hNa rfl (by decide) (by simp) (by go_size) ?_; intro g1 cap1 wq1 HO1 hgr hBk))
  go_wp2_with fail
  have Bm1 := Box.grown (Box.drew (Box.alloc Bm0 _)) (by decide) hOa hgr
  have Ba1 := Box.grown (Box.drew (Box.alloc Ba0 _)) (by decide) hOa hgr
  have Br1 := Box.grown (Box.drew (Box.alloc Br0 _)) (by decide) hOa hgr
  have hB1 := hBk _ _ (Below.drew (Below.alloc hB0 (by omega) _)) (Nat.le_refl _)
  clear hw0 hw1 hw2 hw3 hw4 htm hgr hBk hne hna hOa hNa rd0 rd1 rd2 rd3 rd4 rd5 Bm0 Ba0 Br0 HO0 hB0 ltm0 lta0 ltr0 hz0
  have hz1 := hB1.size
  have ltm1 := Bm1.lt
  have lta1 := Ba1.lt
  have ltr1 := Br1.lt
  rw [rounds_succ]
  go_wp2_with fail
  obtain ⟨hw0, hw1, hw2, hw3, hw4, htm⟩ := dtw p sm3 sm4 sm5 sa0 sa1 sa2
  have rd0 := Bm1.cell 3 rfl
  have rd1 := Bm1.cell 4 rfl
  have rd2 := Bm1.cell 5 rfl
  have rd3 := Ba1.cell 0 rfl
  have rd4 := Ba1.cell 1 rfl
  have rd5 := Ba1.cell 2 rfl
  have hOa : OwnI (wq1.alloc (.cells #[.int .i64 ((m3 * a0 + m4 * a1 + m5 * a2) % p)] 2)).drew w.heap.size (.slice (some ⟨g1, 0, none⟩) 1 cap1) [(m0 * a0 + m1 * a1 + m2 * a2) % p] := OwnI.alloc HO1 (.cells #[.int .i64 ((m3 * a0 + m4 * a1 + m5 * a2) % p)] 2)
  have hNa : Box 2 (wq1.alloc (.cells #[.int .i64 ((m3 * a0 + m4 * a1 + m5 * a2) % p)] 2)).drew wq1.heap.size [(m3 * a0 + m4 * a1 + m5 * a2) % p] := Box.new [(m3 * a0 + m4 * a1 + m5 * a2) % p] rfl
  have hne := Box.ne Bm1 (by decide) HO1
  have hna := Box.ne Ba1 (by decide) HO1
  go_region_held3 (fun w' => w'.cell? ⟨w.heap.size, 3, none⟩ = some (.int .i64 m3) ∧ w'.cell? ⟨w.heap.size, 4, none⟩ = some (.int .i64 m4) ∧ w'.cell? ⟨w.heap.size, 5, none⟩ = some (.int .i64 m5) ∧ w'.cell? ⟨w.heap.size + 1, 0, none⟩ = some (.int .i64 a0) ∧ w'.cell? ⟨w.heap.size + 1, 1, none⟩ = some (.int .i64 a1) ∧ w'.cell? ⟨w.heap.size + 1, 2, none⟩ = some (.int .i64 a2)) ((go_split_ands; (repeat (any_goals (with_reducible apply And.intro))) <;> (first | (with_reducible assumption) | (with_reducible exact keepD (by with_reducible assumption)) | (with_reducible exact keepD (keepA _ (by with_reducible assumption))) | ((refine hgr.cell ?_ ?_); (with_reducible assumption); (exact hne)) | ((refine hgr.cell ?_ ?_); (with_reducible assumption); (exact hna))))) ((refine appI_step rfl _ _ rfl w.heap.size _ [(m0 * a0 + m1 * a1 + m2 * a2) % p] [(m3 * a0 + m4 * a1 + m5 * a2) % p] rfl hOa rfl hNa rfl (by decide) (by simp) (by go_size) ?_; intro g2 cap2 wq2 HO2 hgr hBk))
  go_wp2_with fail
  have Bm2 := Box.grown (Box.drew (Box.alloc Bm1 _)) (by decide) hOa hgr
  have Ba2 := Box.grown (Box.drew (Box.alloc Ba1 _)) (by decide) hOa hgr
  have Br2 := Box.grown (Box.drew (Box.alloc Br1 _)) (by decide) hOa hgr
  have hB2 := hBk _ _ (Below.drew (Below.alloc hB1 (by omega) _)) (Nat.le_refl _)
  clear hw0 hw1 hw2 hw3 hw4 htm hgr hBk hne hna hOa hNa rd0 rd1 rd2 rd3 rd4 rd5 Bm1 Ba1 Br1 HO1 hB1 ltm1 lta1 ltr1 hz1
  have hz2 := hB2.size
  have ltm2 := Bm2.lt
  have lta2 := Ba2.lt
  have ltr2 := Br2.lt
  rw [rounds_succ]
  go_wp2_with fail
  obtain ⟨hw0, hw1, hw2, hw3, hw4, htm⟩ := dtw p sm6 sm7 sm8 sa0 sa1 sa2
  have rd0 := Bm2.cell 6 rfl
  have rd1 := Bm2.cell 7 rfl
  have rd2 := Bm2.cell 8 rfl
  have rd3 := Ba2.cell 0 rfl
  have rd4 := Ba2.cell 1 rfl
  have rd5 := Ba2.cell 2 rfl
  have hOa : OwnI (wq2.alloc (.cells #[.int .i64 ((m6 * a0 + m7 * a1 + m8 * a2) % p)] 2)).drew w.heap.size (.slice (some ⟨g2, 0, none⟩) 2 cap2) [(m0 * a0 + m1 * a1 + m2 * a2) % p, (m3 * a0 + m4 * a1 + m5 * a2) % p] := OwnI.alloc HO2 (.cells #[.int .i64 ((m6 * a0 + m7 * a1 + m8 * a2) % p)] 2)
  have hNa : Box 2 (wq2.alloc (.cells #[.int .i64 ((m6 * a0 + m7 * a1 + m8 * a2) % p)] 2)).drew wq2.heap.size [(m6 * a0 + m7 * a1 + m8 * a2) % p] := Box.new [(m6 * a0 + m7 * a1 + m8 * a2) % p] rfl
  have hne := Box.ne Bm2 (by decide) HO2
  have hna := Box.ne Ba2 (by decide) HO2
  go_region_held3 (fun w' => w'.cell? ⟨w.heap.size, 6, none⟩ = some (.int .i64 m6) ∧ w'.cell? ⟨w.heap.size, 7, none⟩ = some (.int .i64 m7) ∧ w'.cell? ⟨w.heap.size, 8, none⟩ = some (.int .i64 m8) ∧ w'.cell? ⟨w.heap.size + 1, 0, none⟩ = some (.int .i64 a0) ∧ w'.cell? ⟨w.heap.size + 1, 1, none⟩ = some (.int .i64 a1) ∧ w'.cell? ⟨w.heap.size + 1, 2, none⟩ = some (.int .i64 a2)) ((go_split_ands; (repeat (any_goals (with_reducible apply And.intro))) <;> (first | (with_reducible assumption) | (with_reducible exact keepD (by with_reducible assumption)) | (with_reducible exact keepD (keepA _ (by with_reducible assumption))) | ((refine hgr.cell ?_ ?_); (with_reducible assumption); (exact hne)) | ((refine hgr.cell ?_ ?_); (with_reducible assumption); (exact hna))))) ((refine appI_step rfl _ _ rfl w.heap.size _ [(m0 * a0 + m1 * a1 + m2 * a2) % p, (m3 * a0 + m4 * a1 + m5 * a2) % p] [(m6 * a0 + m7 * a1 + m8 * a2) % p] rfl hOa rfl hNa rfl (by decide) (by simp) (by go_size) ?_; intro g3 cap3 wq3 HO3 hgr hBk))
  go_wp2_with fail
  have Bm3 := Box.grown (Box.drew (Box.alloc Bm2 _)) (by decide) hOa hgr
  have Ba3 := Box.grown (Box.drew (Box.alloc Ba2 _)) (by decide) hOa hgr
  have Br3 := Box.grown (Box.drew (Box.alloc Br2 _)) (by decide) hOa hgr
  have hB3 := hBk _ _ (Below.drew (Below.alloc hB2 (by omega) _)) (Nat.le_refl _)
  clear hw0 hw1 hw2 hw3 hw4 htm hgr hBk hne hna hOa hNa rd0 rd1 rd2 rd3 rd4 rd5 Bm2 Ba2 Br2 HO2 hB2 ltm2 lta2 ltr2 hz2
  have hz3 := hB3.size
  have ltm3 := Bm3.lt
  have lta3 := Ba3.lt
  have ltr3 := Br3.lt
  obtain ⟨hR, hgl, hgb, _⟩ := HO3.rd (by simp)
  rw [rounds_succ]
  go_wp2_with (go_at_call 123; refine (l01Norm3_any p ((m0 * a0 + m1 * a1 + m2 * a2) % p) ((m3 * a0 + m4 * a1 + m5 * a2) % p) ((m6 * a0 + m7 * a1 + m8 * a2) % p) g3 cap3 _ HP.out hR hgl).mono ?_; rintro e wq4 ⟨g5, cap5, b5, rfl, hg5, hl5, c0, c1, c2, hb5⟩)
  have Bm4 := Box.below hb5 Bm3
  have Ba4 := Box.below hb5 Ba3
  have Br4 := Box.below hb5 Br3
  have hB4 := Below.step hB3 hb5 (by omega)
  clear hR hgl hgb HO3 hb5 Bm3 ltm3 Ba3 lta3 Br3 ltr3 hB3 hz3
  have hz4 := hB4.size
  have ltm4 := Bm4.lt
  have lta4 := Ba4.lt
  have ltr4 := Br4.lt
  refine wp_region_still_tail 10 (by kernel_rfl) (by kernel_rfl) ?_
  simp only [List.take_succ_cons, List.take_zero, List.drop_succ_cons, List.drop_zero]
  repeat still_step
  try refine wpStill_nil ?_
  change wpList _ _ _ _ _ wq4.drew
  have st0 := (Box.drew Br4).cell 0 rfl
  have sf0 := (Box.drew Br4).frz 0
  have sg0 := Br4.frz 0
  have su0 := Br4.cell 0 rfl
  have st1 := (Box.drew Br4).cell 1 rfl
  have sf1 := (Box.drew Br4).frz 1
  have sg1 := Br4.frz 1
  have su1 := Br4.cell 1 rfl
  have st2 := (Box.drew Br4).cell 2 rfl
  have sf2 := (Box.drew Br4).frz 2
  have sg2 := Br4.frz 2
  have su2 := Br4.cell 2 rfl
  go_wp2_with fail
  (try simp only [Exit.inBlock, Exit.then]); refine bodyPost_ret (by simp [results, Try.results110, go_sem, *]; try rfl) rfl ?_
  exact ⟨rfl, by (repeat' (first | (with_reducible exact Below.refl _ _) | (with_reducible assumption) | (with_reducible refine Below.alloc ?_ ?_ _) | (with_reducible refine Below.drew ?_) | (with_reducible refine below_drewN ?_ _) | (with_reducible refine Below.setCell ?_ ?_ _) | (refine Below.step ?_ (by with_reducible assumption) ?_) | go_size))⟩
end Go.Proofs.Ythlmodofgoelbaa
