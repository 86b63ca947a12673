/- ImageOfConic: what the reference's exported function returns; no condition. -/
import Derived.Test.YtemimkbngfbomaaW77
import Derived.Test.YtemimkbngfbomaaW28
import Derived.Test.YtemimkbngfbomaaW51
namespace Go.Proofs.Ytemimkbngfbomaa
open Go.RowKit
set_option linter.unusedSimpArgs false
set_option linter.unusedVariables false
set_option maxRecDepth 100000

theorem icCodes (p : Int) (m : M9) (c : C6) : (coCode p (isMap p m) [c] = if mpCode p [m] = 0 then coCode p true [c] else mpCode p [m]) ∧ (mpCode p [m] = 2 ∨ mpCode p [m] = 1 ∨ mpCode p [m] = 0) ∧ (mpCode p [m] = 0 → isP p = true ∧ isMap p m = true) ∧ (coCode p true [c] = 2 ∨ coCode p true [c] = 1 ∨ coCode p true [c] = 0) ∧ (coCode p true [c] = 0 → isCo p c = true) := by
  unfold coCode mpCode codeOf
  simp only [List.all_cons, List.all_nil, Bool.and_true, Bool.true_and]
  cases isP p <;> cases isMap p m <;> cases isCo p c <;> simp
set_option maxHeartbeats 8000000 in
theorem ImageOfConic_spec (p m0 m1 m2 m3 m4 m5 m6 m7 m8 c0 c1 c2 c3 c4 c5 : Int) (w : World) :
    Calls Try.prog 35 #[.int .i64 p, .agg #[.int .i64 m0, .int .i64 m1, .int .i64 m2, .int .i64 m3, .int .i64 m4, .int .i64 m5, .int .i64 m6, .int .i64 m7, .int .i64 m8], .agg #[.int .i64 c0, .int .i64 c1, .int .i64 c2, .int .i64 c3, .int .i64 c4, .int .i64 c5]] w fun e w' => e = .returned (.tuple #[.agg #[.int .i64 ((icR p ⟨m0, m1, m2, m3, m4, m5, m6, m7, m8⟩ ⟨c0, c1, c2, c3, c4, c5⟩).1).c0, .int .i64 ((icR p ⟨m0, m1, m2, m3, m4, m5, m6, m7, m8⟩ ⟨c0, c1, c2, c3, c4, c5⟩).1).c1, .int .i64 ((icR p ⟨m0, m1, m2, m3, m4, m5, m6, m7, m8⟩ ⟨c0, c1, c2, c3, c4, c5⟩).1).c2, .int .i64 ((icR p ⟨m0, m1, m2, m3, m4, m5, m6, m7, m8⟩ ⟨c0, c1, c2, c3, c4, c5⟩).1).c3, .int .i64 ((icR p ⟨m0, m1, m2, m3, m4, m5, m6, m7, m8⟩ ⟨c0, c1, c2, c3, c4, c5⟩).1).c4, .int .i64 ((icR p ⟨m0, m1, m2, m3, m4, m5, m6, m7, m8⟩ ⟨c0, c1, c2, c3, c4, c5⟩).1).c5], .int .i64 (icR p ⟨m0, m1, m2, m3, m4, m5, m6, m7, m8⟩ ⟨c0, c1, c2, c3, c4, c5⟩).2]) ∧ Below w.heap.size w w' := by
  obtain ⟨hcd, h3, hmok, h4, hcok⟩ := icCodes p ⟨m0, m1, m2, m3, m4, m5, m6, m7, m8⟩ ⟨c0, c1, c2, c3, c4, c5⟩
  have hR : icR p ⟨m0, m1, m2, m3, m4, m5, m6, m7, m8⟩ ⟨c0, c1, c2, c3, c4, c5⟩ = if coCode p (isMap p ⟨m0, m1, m2, m3, m4, m5, m6, m7, m8⟩) [⟨c0, c1, c2, c3, c4, c5⟩] = 0 then (imC p ⟨m0, m1, m2, m3, m4, m5, m6, m7, m8⟩ ⟨c0, c1, c2, c3, c4, c5⟩, 0) else (⟨0, 0, 0, 0, 0, 0⟩, coCode p (isMap p ⟨m0, m1, m2, m3, m4, m5, m6, m7, m8⟩) [⟨c0, c1, c2, c3, c4, c5⟩]) := rfl
  have HL : Hid (∀ w' : World, Calls Try.prog 56 #[.int .i64 p, .agg #[.int .i64 c0, .int .i64 c1, .int .i64 c2, .int .i64 c3, .int .i64 c4, .int .i64 c5], .slice none 0 0] w' fun e w'' => e = .returned (.int .i64 (coCode p true [⟨c0, c1, c2, c3, c4, c5⟩])) ∧ Below w'.heap.size w' w'') := fun w' => l03Code_nil p c0 c1 c2 c3 c4 c5 w'
  have HI : Hid (mpCode p [⟨m0, m1, m2, m3, m4, m5, m6, m7, m8⟩] = 0 → coCode p true [⟨c0, c1, c2, c3, c4, c5⟩] = 0 → ∀ w' : World, Calls Try.prog 77 #[.int .i64 p, .agg #[.int .i64 m0, .int .i64 m1, .int .i64 m2, .int .i64 m3, .int .i64 m4, .int .i64 m5, .int .i64 m6, .int .i64 m7, .int .i64 m8], .agg #[.int .i64 c0, .int .i64 c1, .int .i64 c2, .int .i64 c3, .int .i64 c4, .int .i64 c5]] w' fun e w'' => e = .returned (.agg #[.int .i64 (imC p ⟨m0, m1, m2, m3, m4, m5, m6, m7, m8⟩ ⟨c0, c1, c2, c3, c4, c5⟩).c0, .int .i64 (imC p ⟨m0, m1, m2, m3, m4, m5, m6, m7, m8⟩ ⟨c0, c1, c2, c3, c4, c5⟩).c1, .int .i64 (imC p ⟨m0, m1, m2, m3, m4, m5, m6, m7, m8⟩ ⟨c0, c1, c2, c3, c4, c5⟩).c2, .int .i64 (imC p ⟨m0, m1, m2, m3, m4, m5, m6, m7, m8⟩ ⟨c0, c1, c2, c3, c4, c5⟩).c3, .int .i64 (imC p ⟨m0, m1, m2, m3, m4, m5, m6, m7, m8⟩ ⟨c0, c1, c2, c3, c4, c5⟩).c4, .int .i64 (imC p ⟨m0, m1, m2, m3, m4, m5, m6, m7, m8⟩ ⟨c0, c1, c2, c3, c4, c5⟩).c5]) ∧ Below w'.heap.size w' w'') := fun h1 h2 w' => l04Image_any p m0 m1 m2 m3 m4 m5 m6 m7 m8 c0 c1 c2 c3 c4 c5 w' (hmok h1).1 (hmok h1).2 (hcok h2)
  clear hmok hcok
  rw [hcd] at hR
  clear hcd
  go_enter Try.func35, Try.ntmps35
  go_upto_region 1 with fail
  refine wp_name (fun w' => Box 55 w' (w.heap.size) [m0, m1, m2, m3, m4, m5, m6, m7, m8] ∧ Box 24 w' (w.heap.size + 1) [c0, c1, c2, c3, c4, c5] ∧ Box 24 w' (w.heap.size + 1 + 1) [0, 0, 0, 0, 0, 0] ∧ Below w.heap.size w w') ⟨Box.alloc (Box.alloc (Box.new [m0, m1, m2, m3, m4, m5, m6, m7, m8] (by simp)) _) _, Box.alloc (Box.new [c0, c1, c2, c3, c4, c5] (by simp)) _, Box.new [0, 0, 0, 0, 0, 0] (by simp), by (repeat' (first | (with_reducible exact Below.refl _ _) | (with_reducible assumption) | (with_reducible refine Below.alloc ?_ ?_ _) | (with_reducible refine Below.drew ?_) | (with_reducible refine below_drewN ?_ _) | (with_reducible refine Below.setCell ?_ ?_ _) | (refine Below.step ?_ (by with_reducible assumption) ?_) | go_size))⟩ ?_
  rintro wq ⟨Bm, Bc, BR, hB⟩
  have hz := hB.size
  have qm0 := Bm.cell 0 rfl
  have qm1 := Bm.cell 1 rfl
  have qm2 := Bm.cell 2 rfl
  have qm3 := Bm.cell 3 rfl
  have qm4 := Bm.cell 4 rfl
  have qm5 := Bm.cell 5 rfl
  have qm6 := Bm.cell 6 rfl
  have qm7 := Bm.cell 7 rfl
  have qm8 := Bm.cell 8 rfl
  have ltm := Bm.lt
  have qc0 := Bc.cell 0 rfl
  have qc1 := Bc.cell 1 rfl
  have qc2 := Bc.cell 2 rfl
  have qc3 := Bc.cell 3 rfl
  have qc4 := Bc.cell 4 rfl
  have qc5 := Bc.cell 5 rfl
  have ltc := Bc.lt
  have ltR := BR.lt
  go_upto_region 2 with (go_at_call 76; refine (l02Code_any p _ _ _ [⟨m0, m1, m2, m3, m4, m5, m6, m7, m8⟩] _ (rdM9_1 (by go_cell) (by go_cell) (by go_cell) (by go_cell) (by go_cell) (by go_cell) (by go_cell) (by go_cell) (by go_cell)) (by go_size) (by simp)).mono ?_; rintro e w1 ⟨rfl, hb1⟩)
  have hz1 := hb1.size
  generalize mpCode p [⟨m0, m1, m2, m3, m4, m5, m6, m7, m8⟩] = mc at *
  refine wp_name (fun w' => Box 55 w' (w.heap.size) [m0, m1, m2, m3, m4, m5, m6, m7, m8] ∧ Box 24 w' (w.heap.size + 1) [c0, c1, c2, c3, c4, c5] ∧ Box 24 w' (w.heap.size + 1 + 1) [0, 0, 0, 0, 0, 0] ∧ Below w.heap.size w w') ⟨Box.below hb1 (Box.alloc Bm _), Box.below hb1 (Box.alloc Bc _), Box.below hb1 (Box.alloc BR _), by (repeat' (first | (with_reducible exact Below.refl _ _) | (with_reducible assumption) | (with_reducible refine Below.alloc ?_ ?_ _) | (with_reducible refine Below.drew ?_) | (with_reducible refine below_drewN ?_ _) | (with_reducible refine Below.setCell ?_ ?_ _) | (refine Below.step ?_ (by with_reducible assumption) ?_) | go_size))⟩ ?_
  clear Bm ltm qm0 qm1 qm2 qm3 qm4 qm5 qm6 qm7 qm8 Bc ltc qc0 qc1 qc2 qc3 qc4 qc5 BR hB hz ltR hb1 hz1
  rintro wc ⟨Bm, Bc, BR, hB⟩
  have hz := hB.size
  have sr0 := BR.cell 0 rfl; have sf0 := BR.frz 0; have sr1 := BR.cell 1 rfl; have sf1 := BR.frz 1; have sr2 := BR.cell 2 rfl; have sf2 := BR.frz 2; have sr3 := BR.cell 3 rfl; have sf3 := BR.frz 3; have sr4 := BR.cell 4 rfl; have sf4 := BR.frz 4; have sr5 := BR.cell 5 rfl; have sf5 := BR.frz 5
  have qm0 := Bm.cell 0 rfl
  have qm1 := Bm.cell 1 rfl
  have qm2 := Bm.cell 2 rfl
  have qm3 := Bm.cell 3 rfl
  have qm4 := Bm.cell 4 rfl
  have qm5 := Bm.cell 5 rfl
  have qm6 := Bm.cell 6 rfl
  have qm7 := Bm.cell 7 rfl
  have qm8 := Bm.cell 8 rfl
  have ltm := Bm.lt
  have qc0 := Bc.cell 0 rfl
  have qc1 := Bc.cell 1 rfl
  have qc2 := Bc.cell 2 rfl
  have qc3 := Bc.cell 3 rfl
  have qc4 := Bc.cell 4 rfl
  have qc5 := Bc.cell 5 rfl
  have ltc := Bc.lt
  rcases h3 with h3 | h3 | h3
  · subst h3
    simp only [show ((2 : Int) = 0) = False by simp, if_false] at hR
    have HE := Lib.hid hR; clear hR
    go_wp2_with fail
    (try simp only [Exit.inBlock, Exit.then]); refine bodyPost_ret (by simp [results, Try.results35, go_sem, cellSet_same, *]; try rfl) rfl ?_
    exact ⟨by rw [HE.out], by (repeat' (first | (with_reducible exact Below.refl _ _) | (with_reducible assumption) | (with_reducible refine Below.alloc ?_ ?_ _) | (with_reducible refine Below.drew ?_) | (with_reducible refine below_drewN ?_ _) | (with_reducible refine Below.setCell ?_ ?_ _) | (refine Below.step ?_ (by with_reducible assumption) ?_) | go_size))⟩
  · subst h3
    simp only [show ((1 : Int) = 0) = False by simp, if_false] at hR
    have HE := Lib.hid hR; clear hR
    go_wp2_with fail
    (try simp only [Exit.inBlock, Exit.then]); refine bodyPost_ret (by simp [results, Try.results35, go_sem, cellSet_same, *]; try rfl) rfl ?_
    exact ⟨by rw [HE.out], by (repeat' (first | (with_reducible exact Below.refl _ _) | (with_reducible assumption) | (with_reducible refine Below.alloc ?_ ?_ _) | (with_reducible refine Below.drew ?_) | (with_reducible refine below_drewN ?_ _) | (with_reducible refine Below.setCell ?_ ?_ _) | (refine Below.step ?_ (by with_reducible assumption) ?_) | go_size))⟩
  · subst h3
    rw [if_pos rfl] at hR
    have HI2 := Lib.hid (HI.out rfl)
    generalize coCode p true [⟨c0, c1, c2, c3, c4, c5⟩] = cc at *
    go_upto_region 4 with (go_at_call 56; refine (HL.out _).mono ?_; rintro e w2 ⟨rfl, hb2⟩)
    have hz2 := hb2.size
    refine wp_name (fun w' => Box 55 w' (w.heap.size) [m0, m1, m2, m3, m4, m5, m6, m7, m8] ∧ Box 24 w' (w.heap.size + 1) [c0, c1, c2, c3, c4, c5] ∧ Box 24 w' (w.heap.size + 1 + 1) [0, 0, 0, 0, 0, 0] ∧ Below w.heap.size w w') ⟨Box.below hb2 Bm, Box.below hb2 Bc, Box.below hb2 BR, by (repeat' (first | (with_reducible exact Below.refl _ _) | (with_reducible assumption) | (with_reducible refine Below.alloc ?_ ?_ _) | (with_reducible refine Below.drew ?_) | (with_reducible refine below_drewN ?_ _) | (with_reducible refine Below.setCell ?_ ?_ _) | (refine Below.step ?_ (by with_reducible assumption) ?_) | go_size))⟩ ?_
    clear Bm ltm qm0 qm1 qm2 qm3 qm4 qm5 qm6 qm7 qm8 Bc ltc qc0 qc1 qc2 qc3 qc4 qc5 BR hB hz hb2 hz2 sr0 sf0 sr1 sf1 sr2 sf2 sr3 sf3 sr4 sf4 sr5 sf5
    rintro wd ⟨Bm, Bc, BR, hB⟩
    have hz := hB.size
    have sr0 := BR.cell 0 rfl; have sf0 := BR.frz 0; have sr1 := BR.cell 1 rfl; have sf1 := BR.frz 1; have sr2 := BR.cell 2 rfl; have sf2 := BR.frz 2; have sr3 := BR.cell 3 rfl; have sf3 := BR.frz 3; have sr4 := BR.cell 4 rfl; have sf4 := BR.frz 4; have sr5 := BR.cell 5 rfl; have sf5 := BR.frz 5
    have qm0 := Bm.cell 0 rfl
    have qm1 := Bm.cell 1 rfl
    have qm2 := Bm.cell 2 rfl
    have qm3 := Bm.cell 3 rfl
    have qm4 := Bm.cell 4 rfl
    have qm5 := Bm.cell 5 rfl
    have qm6 := Bm.cell 6 rfl
    have qm7 := Bm.cell 7 rfl
    have qm8 := Bm.cell 8 rfl
    have ltm := Bm.lt
    have qc0 := Bc.cell 0 rfl
    have qc1 := Bc.cell 1 rfl
    have qc2 := Bc.cell 2 rfl
    have qc3 := Bc.cell 3 rfl
    have qc4 := Bc.cell 4 rfl
    have qc5 := Bc.cell 5 rfl
    have ltc := Bc.lt
    rcases h4 with h4 | h4 | h4
    · subst h4
      simp only [show ((2 : Int) = 0) = False by simp, if_false] at hR
      have HE := Lib.hid hR; clear hR HI HI2
      go_wp2_with fail
      (try simp only [Exit.inBlock, Exit.then]); refine bodyPost_ret (by simp [results, Try.results35, go_sem, cellSet_same, *]; try rfl) rfl ?_
      exact ⟨by rw [HE.out], by (repeat' (first | (with_reducible exact Below.refl _ _) | (with_reducible assumption) | (with_reducible refine Below.alloc ?_ ?_ _) | (with_reducible refine Below.drew ?_) | (with_reducible refine below_drewN ?_ _) | (with_reducible refine Below.setCell ?_ ?_ _) | (refine Below.step ?_ (by with_reducible assumption) ?_) | go_size))⟩
    · subst h4
      simp only [show ((1 : Int) = 0) = False by simp, if_false] at hR
      have HE := Lib.hid hR; clear hR HI HI2
      go_wp2_with fail
      (try simp only [Exit.inBlock, Exit.then]); refine bodyPost_ret (by simp [results, Try.results35, go_sem, cellSet_same, *]; try rfl) rfl ?_
      exact ⟨by rw [HE.out], by (repeat' (first | (with_reducible exact Below.refl _ _) | (with_reducible assumption) | (with_reducible refine Below.alloc ?_ ?_ _) | (with_reducible refine Below.drew ?_) | (with_reducible refine below_drewN ?_ _) | (with_reducible refine Below.setCell ?_ ?_ _) | (refine Below.step ?_ (by with_reducible assumption) ?_) | go_size))⟩
    · subst h4
      rw [if_pos rfl] at hR
      have HE := Lib.hid hR
      have him := HI2.out rfl
      clear hR HI HI2
      generalize imC p ⟨m0, m1, m2, m3, m4, m5, m6, m7, m8⟩ ⟨c0, c1, c2, c3, c4, c5⟩ = g at *
      obtain ⟨g0, g1, g2, g3, g4, g5⟩ := g
      dsimp only at him
      have HI3 := Lib.hid him; clear him
      repeat ((fail_if_success guard_target = (_ : Exit → Act → World → Prop) Exit.ret _ _); (first | (go_big_may; go_at_call 77; refine (HI3.out _).mono ?_; rintro e w3 ⟨rfl, hb3⟩; have hz3 := hb3.size; have BR3 := Box.below hb3 BR; have hlr3 := BR3.lt; have u0 := BR3.cell 0 rfl; have uf0 := BR3.frz 0; have u1 := BR3.cell 1 rfl; have uf1 := BR3.frz 1; have u2 := BR3.cell 2 rfl; have uf2 := BR3.frz 2; have u3 := BR3.cell 3 rfl; have uf3 := BR3.frz 3; have u4 := BR3.cell 4 rfl; have uf4 := BR3.frz 4; have u5 := BR3.cell 5 rfl; have uf5 := BR3.frz 5; dsimp only) | go_values | go_skip | go_guarded | go_step | go_upon | go_back))
      (try simp only [Exit.inBlock, Exit.then]); refine bodyPost_ret (by simp [results, Try.results35, go_sem, cellSet_same, *]; try rfl) rfl ?_
      exact ⟨by rw [HE.out], by (repeat' (first | (with_reducible exact Below.refl _ _) | (with_reducible assumption) | (with_reducible refine Below.alloc ?_ ?_ _) | (with_reducible refine Below.drew ?_) | (with_reducible refine below_drewN ?_ _) | (with_reducible refine Below.setCell ?_ ?_ _) | (refine Below.step ?_ (by with_reducible assumption) ?_) | go_size))⟩
end Go.Proofs.Ytemimkbngfbomaa
