/- ImageOfConic: what the program's function returns; no condition. -/
import Derived.Test.YtemimkbngfbomaaW36
import Derived.Test.YtemimkbngfbomaaW25
import Derived.Test.YtemimkbngfbomaaW25b
import Derived.Test.YtemimkbngfbomaaW54
import Derived.Test.YtemimkbngfbomaaW52
import Derived.Test.YtemimkbngfbomaaH3
import Derived.Deep.RegionWith
import Derived.Deep.RegionHeld3
import Derived.Deep.DeepCutAuto
namespace Go.Proofs.Ytemimkbngfbomaa
open Go.RowKit
set_option linter.unusedSimpArgs false
set_option linter.unusedVariables false
set_option maxRecDepth 100000

theorem mdC_1 (p x0 x1 x2 x3 x4 x5 : Int) : (mdC p x0 x1 x2 x3 x4 x5).1 = nmC p x0 x1 x2 x3 x4 x5 := by
  unfold mdC
  split
  · rename_i h
    unfold nmC
    rw [h]
    simp [nr]
  · rfl
/-- The conic of a matrix. -/
def coOf (p : Int) (m : M9) : C6 := nmC p m.m0 m.m4 m.m8 (2 * m.m1) (2 * m.m2) (2 * m.m5)
def imC (p : Int) (m : M9) (c : C6) : C6 := coOf p (prM p (trM (adM p m)) (prM p (mxC p c) (adM p m)))
def icR (p : Int) (m : M9) (c : C6) : C6 × Int := if coCode p (isMap p m) [c] = 0 then (imC p m c, 0) else (⟨0, 0, 0, 0, 0, 0⟩, coCode p (isMap p m) [c])
set_option maxHeartbeats 4000000 in
theorem conicOf_any (p m0 m1 m2 m3 m4 m5 m6 m7 m8 : Int) (w : World) (hp : isP p = true) (sm0 : sm m0) (sm1 : sm m1) (sm2 : sm m2) (sm3 : sm m3) (sm4 : sm m4) (sm5 : sm m5) (sm6 : sm m6) (sm7 : sm m7) (sm8 : sm m8) :
    Calls Try.prog 118 #[.int .i64 p, .agg #[.int .i64 m0, .int .i64 m1, .int .i64 m2, .int .i64 m3, .int .i64 m4, .int .i64 m5, .int .i64 m6, .int .i64 m7, .int .i64 m8]] w fun e w' => e = .returned (.agg #[.int .i64 (coOf p ⟨m0, m1, m2, m3, m4, m5, m6, m7, m8⟩).c0, .int .i64 (coOf p ⟨m0, m1, m2, m3, m4, m5, m6, m7, m8⟩).c1, .int .i64 (coOf p ⟨m0, m1, m2, m3, m4, m5, m6, m7, m8⟩).c2, .int .i64 (coOf p ⟨m0, m1, m2, m3, m4, m5, m6, m7, m8⟩).c3, .int .i64 (coOf p ⟨m0, m1, m2, m3, m4, m5, m6, m7, m8⟩).c4, .int .i64 (coOf p ⟨m0, m1, m2, m3, m4, m5, m6, m7, m8⟩).c5]) ∧ Below w.heap.size w w' := by
  have ⟨lm0, um0⟩ := sm0; have ⟨lm1, um1⟩ := sm1; have ⟨lm2, um2⟩ := sm2; have ⟨lm3, um3⟩ := sm3; have ⟨lm4, um4⟩ := sm4; have ⟨lm5, um5⟩ := sm5; have ⟨lm6, um6⟩ := sm6; have ⟨lm7, um7⟩ := sm7; have ⟨lm8, um8⟩ := sm8
  have hw1 : IntKind.i64.wrap (2 * m1) = 2 * m1 := by go_arith
  have hw2 : IntKind.i64.wrap (2 * m2) = 2 * m2 := by go_arith
  have hw5 : IntKind.i64.wrap (2 * m5) = 2 * m5 := by go_arith
  obtain ⟨d3, hd3⟩ : ∃ d, Hid (2 * m1 = d) := ⟨_, rfl⟩
  obtain ⟨d4, hd4⟩ : ∃ d, Hid (2 * m2 = d) := ⟨_, rfl⟩
  obtain ⟨d5, hd5⟩ : ∃ d, Hid (2 * m5 = d) := ⟨_, rfl⟩
  rw [hd3.out] at hw1; rw [hd4.out] at hw2; rw [hd5.out] at hw5
  have hw1' : IntKind.i64.wrap (2 * m1) = d3 := by rw [hd3.out, hw1]
  have hw2' : IntKind.i64.wrap (2 * m2) = d4 := by rw [hd4.out, hw2]
  have hw5' : IntKind.i64.wrap (2 * m5) = d5 := by rw [hd5.out, hw5]
  have hE : Hid (coOf p ⟨m0, m1, m2, m3, m4, m5, m6, m7, m8⟩ = nmC p m0 m4 m8 d3 d4 d5) := by show _ = _; unfold coOf; dsimp only; rw [hd3.out, hd4.out, hd5.out]
  clear hw1 hw2 hw5
  have HP := Lib.hid hp; clear hp
  unfold nmC at hE
  obtain ⟨g0, hg0⟩ : ∃ g, Hid (nr p (fac p [m0, m4, m8, d3, d4, d5]) m0 = g) := ⟨_, rfl⟩
  obtain ⟨g1, hg1⟩ : ∃ g, Hid (nr p (fac p [m0, m4, m8, d3, d4, d5]) m4 = g) := ⟨_, rfl⟩
  obtain ⟨g2, hg2⟩ : ∃ g, Hid (nr p (fac p [m0, m4, m8, d3, d4, d5]) m8 = g) := ⟨_, rfl⟩
  obtain ⟨g3, hg3⟩ : ∃ g, Hid (nr p (fac p [m0, m4, m8, d3, d4, d5]) d3 = g) := ⟨_, rfl⟩
  obtain ⟨g4, hg4⟩ : ∃ g, Hid (nr p (fac p [m0, m4, m8, d3, d4, d5]) d4 = g) := ⟨_, rfl⟩
  obtain ⟨g5, hg5⟩ : ∃ g, Hid (nr p (fac p [m0, m4, m8, d3, d4, d5]) d5 = g) := ⟨_, rfl⟩
  have hE2 : Hid (coOf p ⟨m0, m1, m2, m3, m4, m5, m6, m7, m8⟩ = ⟨g0, g1, g2, g3, g4, g5⟩) := by show _ = _; rw [hE.out, hg0.out, hg1.out, hg2.out, hg3.out, hg4.out, hg5.out]
  clear hE
  go_enter Try.func118, Try.ntmps118
  go_wp2_with (go_at_call 55; refine (normal6 p _ _ m0 m4 m8 d3 d4 d5 _ HP.out (by go_cell) (by go_cell) (by go_cell) (by go_cell) (by go_cell) (by go_cell) (by go_cell) (by go_cell) (by go_cell) (by go_cell) (by go_cell) (by go_cell)).mono ?_; rintro e w' ⟨rfl, hw⟩; rw [hg0.out, hg1.out, hg2.out, hg3.out, hg4.out, hg5.out] at hw; subst hw; generalize (!(fac p [m0, m4, m8, d3, d4, d5] == 0)) = bb)
  (try simp only [Exit.inBlock, Exit.then]); refine bodyPost_ret (by simp [results, Try.results118, go_sem, *]; try rfl) rfl ?_
  exact ⟨by rw [hE2.out], by (repeat' (first | (with_reducible exact Below.refl _ _) | (with_reducible assumption) | (with_reducible refine Below.alloc ?_ ?_ _) | (with_reducible refine Below.drew ?_) | (with_reducible refine below_drewN ?_ _) | (with_reducible refine Below.setCell ?_ ?_ _) | (refine Below.step ?_ (by with_reducible assumption) ?_) | go_size))⟩
set_option maxHeartbeats 4000000 in
theorem imageOfConic_any (p m0 m1 m2 m3 m4 m5 m6 m7 m8 c0 c1 c2 c3 c4 c5 : Int) (w : World) (hp : isP p = true) (hm : isMap p ⟨m0, m1, m2, m3, m4, m5, m6, m7, m8⟩ = true) (hc : isCo p ⟨c0, c1, c2, c3, c4, c5⟩ = true) :
    Calls Try.prog 80 #[.int .i64 p, .agg #[.int .i64 m0, .int .i64 m1, .int .i64 m2, .int .i64 m3, .int .i64 m4, .int .i64 m5, .int .i64 m6, .int .i64 m7, .int .i64 m8], .agg #[.int .i64 c0, .int .i64 c1, .int .i64 c2, .int .i64 c3, .int .i64 c4, .int .i64 c5]] w fun e w' => e = .returned (.agg #[.int .i64 (imC p ⟨m0, m1, m2, m3, m4, m5, m6, m7, m8⟩ ⟨c0, c1, c2, c3, c4, c5⟩).c0, .int .i64 (imC p ⟨m0, m1, m2, m3, m4, m5, m6, m7, m8⟩ ⟨c0, c1, c2, c3, c4, c5⟩).c1, .int .i64 (imC p ⟨m0, m1, m2, m3, m4, m5, m6, m7, m8⟩ ⟨c0, c1, c2, c3, c4, c5⟩).c2, .int .i64 (imC p ⟨m0, m1, m2, m3, m4, m5, m6, m7, m8⟩ ⟨c0, c1, c2, c3, c4, c5⟩).c3, .int .i64 (imC p ⟨m0, m1, m2, m3, m4, m5, m6, m7, m8⟩ ⟨c0, c1, c2, c3, c4, c5⟩).c4, .int .i64 (imC p ⟨m0, m1, m2, m3, m4, m5, m6, m7, m8⟩ ⟨c0, c1, c2, c3, c4, c5⟩).c5]) ∧ Below w.heap.size w w' := by
  have k1 := isP_lo hp; have k2 := isP_hi hp
  obtain ⟨s0, s1, s2, s3, s4, s5, s6, s7, s8⟩ := isMap_sm hm
  replace s0 : sm m0 := s0; replace s1 : sm m1 := s1; replace s2 : sm m2 := s2; replace s3 : sm m3 := s3; replace s4 : sm m4 := s4; replace s5 : sm m5 := s5; replace s6 : sm m6 := s6; replace s7 : sm m7 := s7; replace s8 : sm m8 := s8
  have had := fun w' => adjoint_any p m0 m1 m2 m3 m4 m5 m6 m7 m8 w' k1 k2 s0 s1 s2 s3 s4 s5 s6 s7 s8
  have hmx := fun w' => matrix_co p c0 c1 c2 c3 c4 c5 hp hc w'
  have hsk := mxC_sm hp hc
  have hsn := adM_sm hp ⟨m0, m1, m2, m3, m4, m5, m6, m7, m8⟩
  have hE0 : imC p ⟨m0, m1, m2, m3, m4, m5, m6, m7, m8⟩ ⟨c0, c1, c2, c3, c4, c5⟩ = coOf p (prM p (trM (adM p ⟨m0, m1, m2, m3, m4, m5, m6, m7, m8⟩)) (prM p (mxC p ⟨c0, c1, c2, c3, c4, c5⟩) (adM p ⟨m0, m1, m2, m3, m4, m5, m6, m7, m8⟩))) := rfl
  obtain ⟨n0, n1, n2, n3, n4, n5, n6, n7, n8, hN⟩ := M9_parts (adM p ⟨m0, m1, m2, m3, m4, m5, m6, m7, m8⟩)
  obtain ⟨x0, x1, x2, x3, x4, x5, x6, x7, x8, hK⟩ := M9_parts (mxC p ⟨c0, c1, c2, c3, c4, c5⟩)
  rw [hN] at hE0 had hsn; rw [hK] at hE0 hmx hsk
  have htr := fun w' => transposed_any n0 n1 n2 n3 n4 n5 n6 n7 n8 w'
  obtain ⟨un0, un1, un2, un3, un4, un5, un6, un7, un8⟩ := hsn
  obtain ⟨uk0, uk1, uk2, uk3, uk4, uk5, uk6, uk7, uk8⟩ := hsk
  dsimp only at had hmx htr un0 uk0 un1 uk1 un2 uk2 un3 uk3 un4 uk4 un5 uk5 un6 uk6 un7 uk7 un8 uk8
  have hp1 := fun w' => product_any p x0 x1 x2 x3 x4 x5 x6 x7 x8 n0 n1 n2 n3 n4 n5 n6 n7 n8 w' k1 k2 uk0 uk1 uk2 uk3 uk4 uk5 uk6 uk7 uk8 un0 un1 un2 un3 un4 un5 un6 un7 un8
  have hs1 := prM_sm hp ⟨x0, x1, x2, x3, x4, x5, x6, x7, x8⟩ ⟨n0, n1, n2, n3, n4, n5, n6, n7, n8⟩
  obtain ⟨q0, q1, q2, q3, q4, q5, q6, q7, q8, hQ⟩ := M9_parts (prM p ⟨x0, x1, x2, x3, x4, x5, x6, x7, x8⟩ ⟨n0, n1, n2, n3, n4, n5, n6, n7, n8⟩)
  rw [hQ] at hE0 hp1 hs1
  obtain ⟨uq0, uq1, uq2, uq3, uq4, uq5, uq6, uq7, uq8⟩ := hs1
  dsimp only [trM] at hp1 htr hE0 uq0 uq1 uq2 uq3 uq4 uq5 uq6 uq7 uq8
  have hp2 := fun w' => product_any p n0 n3 n6 n1 n4 n7 n2 n5 n8 q0 q1 q2 q3 q4 q5 q6 q7 q8 w' k1 k2 un0 un3 un6 un1 un4 un7 un2 un5 un8 uq0 uq1 uq2 uq3 uq4 uq5 uq6 uq7 uq8
  have hs2 := prM_sm hp ⟨n0, n3, n6, n1, n4, n7, n2, n5, n8⟩ ⟨q0, q1, q2, q3, q4, q5, q6, q7, q8⟩
  obtain ⟨r0, r1, r2, r3, r4, r5, r6, r7, r8, hR⟩ := M9_parts (prM p ⟨n0, n3, n6, n1, n4, n7, n2, n5, n8⟩ ⟨q0, q1, q2, q3, q4, q5, q6, q7, q8⟩)
  rw [hR] at hE0 hp2 hs2
  obtain ⟨ur0, ur1, ur2, ur3, ur4, ur5, ur6, ur7, ur8⟩ := hs2
  dsimp only at hp2 ur0 ur1 ur2 ur3 ur4 ur5 ur6 ur7 ur8
  have hco := fun w' => conicOf_any p r0 r1 r2 r3 r4 r5 r6 r7 r8 w' hp ur0 ur1 ur2 ur3 ur4 ur5 ur6 ur7 ur8
  generalize coOf p ⟨r0, r1, r2, r3, r4, r5, r6, r7, r8⟩ = g at *
  obtain ⟨g0, g1, g2, g3, g4, g5⟩ := g
  dsimp only at hco
  have HAD := Lib.hid had; have HMX := Lib.hid hmx; have HTR := Lib.hid htr; have HP1 := Lib.hid hp1; have HP2 := Lib.hid hp2; have HCO := Lib.hid hco; have HE := Lib.hid hE0
  clear had hmx htr hp1 hp2 hco hE0 hN hK hQ hR un0 uk0 uq0 ur0 s0 un1 uk1 uq1 ur1 s1 un2 uk2 uq2 ur2 s2 un3 uk3 uq3 ur3 s3 un4 uk4 uq4 ur4 s4 un5 uk5 uq5 ur5 s5 un6 uk6 uq6 ur6 s6 un7 uk7 uq7 ur7 s7 un8 uk8 uq8 ur8 s8 hp hm hc k1 k2
  go_enter Try.func80, Try.ntmps80
  go_upto_region 2 with (go_at_call 117; refine (HAD.out _).mono ?_; rintro e w1 ⟨rfl, hb1⟩)
  have hz1 := hb1.size
  simp only [World.size_alloc] at hz1
  have hzw : w.heap.size ≤ w1.heap.size := by omega
  refine wp_name (fun w' => Box 55 w' w1.heap.size [n0, n1, n2, n3, n4, n5, n6, n7, n8] ∧ Box 24 w' (w.heap.size + 1) [c0, c1, c2, c3, c4, c5] ∧ Box 24 w' (w.heap.size + 1 + 1) [0, 0, 0, 0, 0, 0] ∧ Below w.heap.size w w') ⟨Box.new [n0, n1, n2, n3, n4, n5, n6, n7, n8] rfl, Box.alloc (Box.below hb1 (Box.alloc (Box.new [c0, c1, c2, c3, c4, c5] (by simp)) _)) _, Box.alloc (Box.below hb1 (Box.new [0, 0, 0, 0, 0, 0] (by simp))) _, by (repeat' (first | (with_reducible exact Below.refl _ _) | (with_reducible assumption) | (with_reducible refine Below.alloc ?_ ?_ _) | (with_reducible refine Below.drew ?_) | (with_reducible refine below_drewN ?_ _) | (with_reducible refine Below.setCell ?_ ?_ _) | (refine Below.step ?_ (by with_reducible assumption) ?_) | go_size))⟩ ?_
  rintro wa ⟨BN, BC, BR, hB⟩
  refine wp_region_tailS 12 (fun w' => Box 55 w' w1.heap.size [n0, n1, n2, n3, n4, n5, n6, n7, n8] ∧ Box 24 w' (w.heap.size + 1) [c0, c1, c2, c3, c4, c5] ∧ Box 24 w' (w.heap.size + 1 + 1) [0, 0, 0, 0, 0, 0] ∧ Below w.heap.size w w') (by kernel_rfl) (by kernel_rfl) ⟨BN.drew, BC.drew, BR.drew, hB.drew⟩ ?_
  clear BN BC BR hB hb1
  simp only [List.take_succ_cons, List.take_zero, List.drop_succ_cons, List.drop_zero]
  repeat (first
    | (refine stillS_read ?_ (by rfl) (fun w' hS => ?_) ?_; rotate_left; (focus (obtain ⟨hN, hC, -, -⟩ := hS; have y0 := hN.cell 0 rfl; have y1 := hN.cell 1 rfl; have y2 := hN.cell 2 rfl; have y3 := hN.cell 3 rfl; have y4 := hN.cell 4 rfl; have y5 := hN.cell 5 rfl; have y6 := hN.cell 6 rfl; have y7 := hN.cell 7 rfl; have y8 := hN.cell 8 rfl; have z0 := hC.cell 0 rfl; have z1 := hC.cell 1 rfl; have z2 := hC.cell 2 rfl; have z3 := hC.cell 3 rfl; have z4 := hC.cell 4 rfl; have z5 := hC.cell 5 rfl; clear hN hC; go_simp; (try with_reducible rfl); done)); (try simp only [Act.put, List.setIfInBounds_toArray, List.set_cons_zero, List.set_cons_succ]))
    | (refine stillS_call (.agg #[.int .i64 n0, .int .i64 n3, .int .i64 n6, .int .i64 n1, .int .i64 n4, .int .i64 n7, .int .i64 n2, .int .i64 n5, .int .i64 n8]) 120 #[.agg #[.int .i64 n0, .int .i64 n1, .int .i64 n2, .int .i64 n3, .int .i64 n4, .int .i64 n5, .int .i64 n6, .int .i64 n7, .int .i64 n8]] (by rfl) (fun w' => ?_) (fun w' hS => ?_) ?_; (focus (go_simp; (try with_reducible rfl); done)); (focus (obtain ⟨hN, hC, hR, hB⟩ := hS; refine (HTR.out _).mono ?_; rintro e w'' ⟨rfl, hb⟩; exact ⟨rfl, Box.below hb hN, Box.below hb hC, Box.below hb hR, keepB hb hB (Nat.le_refl _)⟩)); (try simp only [Act.put, List.setIfInBounds_toArray, List.set_cons_zero, List.set_cons_succ]))
    | (refine stillS_call (.agg #[.int .i64 x0, .int .i64 x1, .int .i64 x2, .int .i64 x3, .int .i64 x4, .int .i64 x5, .int .i64 x6, .int .i64 x7, .int .i64 x8]) 60 #[.agg #[.int .i64 c0, .int .i64 c1, .int .i64 c2, .int .i64 c3, .int .i64 c4, .int .i64 c5], .int .i64 p] (by rfl) (fun w' => ?_) (fun w' hS => ?_) ?_; (focus (go_simp; (try with_reducible rfl); done)); (focus (obtain ⟨hN, hC, hR, hB⟩ := hS; refine (HMX.out _).mono ?_; rintro e w'' ⟨rfl, hb⟩; exact ⟨rfl, Box.below hb hN, Box.below hb hC, Box.below hb hR, keepB hb hB (Nat.le_refl _)⟩)); (try simp only [Act.put, List.setIfInBounds_toArray, List.set_cons_zero, List.set_cons_succ]))
    | (refine stillS_call (.agg #[.int .i64 q0, .int .i64 q1, .int .i64 q2, .int .i64 q3, .int .i64 q4, .int .i64 q5, .int .i64 q6, .int .i64 q7, .int .i64 q8]) 119 #[.int .i64 p, .agg #[.int .i64 x0, .int .i64 x1, .int .i64 x2, .int .i64 x3, .int .i64 x4, .int .i64 x5, .int .i64 x6, .int .i64 x7, .int .i64 x8], .agg #[.int .i64 n0, .int .i64 n1, .int .i64 n2, .int .i64 n3, .int .i64 n4, .int .i64 n5, .int .i64 n6, .int .i64 n7, .int .i64 n8]] (by rfl) (fun w' => ?_) (fun w' hS => ?_) ?_; (focus (go_simp; (try with_reducible rfl); done)); (focus (obtain ⟨hN, hC, hR, hB⟩ := hS; refine (HP1.out _).mono ?_; rintro e w'' ⟨rfl, hb⟩; exact ⟨rfl, Box.below hb hN, Box.below hb hC, Box.below hb hR, keepB hb hB (Nat.le_refl _)⟩)); (try simp only [Act.put, List.setIfInBounds_toArray, List.set_cons_zero, List.set_cons_succ]))
    | (refine stillS_call (.agg #[.int .i64 r0, .int .i64 r1, .int .i64 r2, .int .i64 r3, .int .i64 r4, .int .i64 r5, .int .i64 r6, .int .i64 r7, .int .i64 r8]) 119 #[.int .i64 p, .agg #[.int .i64 n0, .int .i64 n3, .int .i64 n6, .int .i64 n1, .int .i64 n4, .int .i64 n7, .int .i64 n2, .int .i64 n5, .int .i64 n8], .agg #[.int .i64 q0, .int .i64 q1, .int .i64 q2, .int .i64 q3, .int .i64 q4, .int .i64 q5, .int .i64 q6, .int .i64 q7, .int .i64 q8]] (by rfl) (fun w' => ?_) (fun w' hS => ?_) ?_; (focus (go_simp; (try with_reducible rfl); done)); (focus (obtain ⟨hN, hC, hR, hB⟩ := hS; refine (HP2.out _).mono ?_; rintro e w'' ⟨rfl, hb⟩; exact ⟨rfl, Box.below hb hN, Box.below hb hC, Box.below hb hR, keepB hb hB (Nat.le_refl _)⟩)); (try simp only [Act.put, List.setIfInBounds_toArray, List.set_cons_zero, List.set_cons_succ]))
    | (refine stillS_call (.agg #[.int .i64 g0, .int .i64 g1, .int .i64 g2, .int .i64 g3, .int .i64 g4, .int .i64 g5]) 118 #[.int .i64 p, .agg #[.int .i64 r0, .int .i64 r1, .int .i64 r2, .int .i64 r3, .int .i64 r4, .int .i64 r5, .int .i64 r6, .int .i64 r7, .int .i64 r8]] (by rfl) (fun w' => ?_) (fun w' hS => ?_) ?_; (focus (go_simp; (try with_reducible rfl); done)); (focus (obtain ⟨hN, hC, hR, hB⟩ := hS; refine (HCO.out _).mono ?_; rintro e w'' ⟨rfl, hb⟩; exact ⟨rfl, Box.below hb hN, Box.below hb hC, Box.below hb hR, keepB hb hB (Nat.le_refl _)⟩)); (try simp only [Act.put, List.setIfInBounds_toArray, List.set_cons_zero, List.set_cons_succ])))
  refine stillS_nil ?_
  rintro wz ⟨-, -, BR, hB⟩
  have hlr := BR.lt
  have sr0 := BR.cell 0 rfl; have sf0 := BR.frz 0; have sr1 := BR.cell 1 rfl; have sf1 := BR.frz 1; have sr2 := BR.cell 2 rfl; have sf2 := BR.frz 2; have sr3 := BR.cell 3 rfl; have sf3 := BR.frz 3; have sr4 := BR.cell 4 rfl; have sf4 := BR.frz 4; have sr5 := BR.cell 5 rfl; have sf5 := BR.frz 5
  go_wp2_with fail
  (try simp only [Exit.inBlock, Exit.then]); refine bodyPost_ret (by simp [results, Try.results80, go_sem, cellSet_same, *]; try rfl) rfl ?_
  exact ⟨by rw [HE.out], by (repeat' (first | (with_reducible exact Below.refl _ _) | (with_reducible assumption) | (with_reducible refine Below.alloc ?_ ?_ _) | (with_reducible refine Below.drew ?_) | (with_reducible refine below_drewN ?_ _) | (with_reducible refine Below.setCell ?_ ?_ _) | (refine Below.step ?_ (by with_reducible assumption) ?_) | go_size))⟩
set_option maxHeartbeats 4000000 in
theorem ImageOfConic_any (p m0 m1 m2 m3 m4 m5 m6 m7 m8 c0 c1 c2 c3 c4 c5 : Int) (w : World) :
    Calls Try.prog 37 #[.int .i64 p, .agg #[.int .i64 m0, .int .i64 m1, .int .i64 m2, .int .i64 m3, .int .i64 m4, .int .i64 m5, .int .i64 m6, .int .i64 m7, .int .i64 m8], .agg #[.int .i64 c0, .int .i64 c1, .int .i64 c2, .int .i64 c3, .int .i64 c4, .int .i64 c5]] w fun e w' => e = .returned (.tuple #[.agg #[.int .i64 ((icR p ⟨m0, m1, m2, m3, m4, m5, m6, m7, m8⟩ ⟨c0, c1, c2, c3, c4, c5⟩).1).c0, .int .i64 ((icR p ⟨m0, m1, m2, m3, m4, m5, m6, m7, m8⟩ ⟨c0, c1, c2, c3, c4, c5⟩).1).c1, .int .i64 ((icR p ⟨m0, m1, m2, m3, m4, m5, m6, m7, m8⟩ ⟨c0, c1, c2, c3, c4, c5⟩).1).c2, .int .i64 ((icR p ⟨m0, m1, m2, m3, m4, m5, m6, m7, m8⟩ ⟨c0, c1, c2, c3, c4, c5⟩).1).c3, .int .i64 ((icR p ⟨m0, m1, m2, m3, m4, m5, m6, m7, m8⟩ ⟨c0, c1, c2, c3, c4, c5⟩).1).c4, .int .i64 ((icR p ⟨m0, m1, m2, m3, m4, m5, m6, m7, m8⟩ ⟨c0, c1, c2, c3, c4, c5⟩).1).c5], .int .i64 (icR p ⟨m0, m1, m2, m3, m4, m5, m6, m7, m8⟩ ⟨c0, c1, c2, c3, c4, c5⟩).2]) ∧ Below w.heap.size w w' := by
  go_enter Try.func37, Try.ntmps37
  go_upto_region 1 with fail
  refine wp_name (fun w' => Box 55 w' (w.heap.size) [m0, m1, m2, m3, m4, m5, m6, m7, m8] ∧ Box 24 w' (w.heap.size + 1) [c0, c1, c2, c3, c4, c5] ∧ Box 24 w' (w.heap.size + 1 + 1) [0, 0, 0, 0, 0, 0] ∧ Below w.heap.size w w') ⟨Box.alloc (Box.alloc (Box.new [m0, m1, m2, m3, m4, m5, m6, m7, m8] (by simp)) _) _, Box.alloc (Box.new [c0, c1, c2, c3, c4, c5] (by simp)) _, Box.new [0, 0, 0, 0, 0, 0] (by simp), by (repeat' (first | (with_reducible exact Below.refl _ _) | (with_reducible assumption) | (with_reducible refine Below.alloc ?_ ?_ _) | (with_reducible refine Below.drew ?_) | (with_reducible refine below_drewN ?_ _) | (with_reducible refine Below.setCell ?_ ?_ _) | (refine Below.step ?_ (by with_reducible assumption) ?_) | go_size))⟩ ?_
  rintro wq ⟨Bm, Bc, BR, hB⟩
  have hz := hB.size
  have qm0 := Bm.cell 0 rfl
  have qm1 := Bm.cell 1 rfl
  have qm2 := Bm.cell 2 rfl
  have qm3 := Bm.cell 3 rfl
  have qm4 := Bm.cell 4 rfl
  have qm5 := Bm.cell 5 rfl
  have qm6 := Bm.cell 6 rfl
  have qm7 := Bm.cell 7 rfl
  have qm8 := Bm.cell 8 rfl
  have ltm := Bm.lt
  have qc0 := Bc.cell 0 rfl
  have qc1 := Bc.cell 1 rfl
  have qc2 := Bc.cell 2 rfl
  have qc3 := Bc.cell 3 rfl
  have qc4 := Bc.cell 4 rfl
  have qc5 := Bc.cell 5 rfl
  have ltc := Bc.lt
  have hsz : w.heap.size + 1 + 1 + 1 ≤ wq.heap.size := BR.lt
  go_cut [8] (fun s8 w' => s8 = .int .i64 (coCode p (isMap p ⟨m0, m1, m2, m3, m4, m5, m6, m7, m8⟩) [⟨c0, c1, c2, c3, c4, c5⟩]) ∧ Box 55 w' (w.heap.size) [m0, m1, m2, m3, m4, m5, m6, m7, m8] ∧ Box 24 w' (w.heap.size + 1) [c0, c1, c2, c3, c4, c5] ∧ Box 24 w' (w.heap.size + 1 + 1) [0, 0, 0, 0, 0, 0] ∧ Below w.heap.size w w')
  case first =>
    go_region_held3 (fun w' => w'.cell? ⟨w.heap.size, 0, none⟩ = some (.int .i64 m0) ∧ w'.cell? ⟨w.heap.size, 1, none⟩ = some (.int .i64 m1) ∧ w'.cell? ⟨w.heap.size, 2, none⟩ = some (.int .i64 m2) ∧ w'.cell? ⟨w.heap.size, 3, none⟩ = some (.int .i64 m3) ∧ w'.cell? ⟨w.heap.size, 4, none⟩ = some (.int .i64 m4) ∧ w'.cell? ⟨w.heap.size, 5, none⟩ = some (.int .i64 m5) ∧ w'.cell? ⟨w.heap.size, 6, none⟩ = some (.int .i64 m6) ∧ w'.cell? ⟨w.heap.size, 7, none⟩ = some (.int .i64 m7) ∧ w'.cell? ⟨w.heap.size, 8, none⟩ = some (.int .i64 m8) ∧ w'.cell? ⟨w.heap.size + 1, 0, none⟩ = some (.int .i64 c0) ∧ w'.cell? ⟨w.heap.size + 1, 1, none⟩ = some (.int .i64 c1) ∧ w'.cell? ⟨w.heap.size + 1, 2, none⟩ = some (.int .i64 c2) ∧ w'.cell? ⟨w.heap.size + 1, 3, none⟩ = some (.int .i64 c3) ∧ w'.cell? ⟨w.heap.size + 1, 4, none⟩ = some (.int .i64 c4) ∧ w'.cell? ⟨w.heap.size + 1, 5, none⟩ = some (.int .i64 c5) ∧ Box 55 w' (w.heap.size) [m0, m1, m2, m3, m4, m5, m6, m7, m8] ∧ Box 24 w' (w.heap.size + 1) [c0, c1, c2, c3, c4, c5] ∧ Box 24 w' (w.heap.size + 1 + 1) [0, 0, 0, 0, 0, 0] ∧ Below w.heap.size w w' ∧ w.heap.size + 1 + 1 + 1 ≤ w'.heap.size) ((go_split_ands; (repeat (any_goals (with_reducible apply And.intro))) <;> ((repeat (first | (with_reducible assumption) | (with_reducible exact Below.refl _ _) | (with_reducible refine keepD ?_) | (with_reducible refine Below.drew ?_) | (with_reducible refine Box.drew ?_) | (with_reducible refine sizeD ?_) | (with_reducible exact keepC (by with_reducible assumption) (by with_reducible assumption)) | (with_reducible exact Box.below (by with_reducible assumption) (by with_reducible assumption)) | (with_reducible exact keepB (by with_reducible assumption) (by with_reducible assumption) (Nat.le_refl _)) | (with_reducible exact sizeC (by with_reducible assumption) (by with_reducible assumption)) | (with_reducible refine keepA _ ?_) | (with_reducible refine Box.alloc ?_ _) | (with_reducible refine allocB ?_ (Nat.le_refl _) _) | (with_reducible refine sizeA ?_ _))); done))) ((first | (go_at_call 79; refine (IsMap_any p m0 m1 m2 m3 m4 m5 m6 m7 m8 _).mono ?_; rintro e w1 ⟨rfl, hb1⟩; obtain ⟨hc1, hf1⟩ := bcell hb1; have hz1 := hb1.size; (try simp only [World.size_alloc, World.size_setCell, World.size_drew] at hz1); (try (have hy1w0 : w.heap.size < w1.heap.size := by omega)); (try (have hy1w1 : w.heap.size + 1 < w1.heap.size := by omega)); (try (have hy1w2 : w.heap.size + 1 + 1 < w1.heap.size := by omega)); (try (have hy1w3 : w.heap.size + 1 + 1 + 1 < w1.heap.size := by omega)); (try (have hy1w4 : w.heap.size + 1 + 1 + 1 + 1 < w1.heap.size := by omega)); (try (have hy1wc0 : wc.heap.size < w1.heap.size := by omega)); (try (have hy1wc1 : wc.heap.size + 1 < w1.heap.size := by omega)); (try (have hy1wc2 : wc.heap.size + 1 + 1 < w1.heap.size := by omega)); (try (have hy1wc3 : wc.heap.size + 1 + 1 + 1 < w1.heap.size := by omega)); (try (have hy1wc4 : wc.heap.size + 1 + 1 + 1 + 1 < w1.heap.size := by omega))) | (go_at_call 58; refine (conicsCode_any p _ _ _ [⟨c0, c1, c2, c3, c4, c5⟩] _ (rdC6_1 (by go_cell) (by go_cell) (by go_cell) (by go_cell) (by go_cell) (by go_cell)) (by go_size) (by simp)).mono ?_; rintro e w2 ⟨rfl, hb2⟩; obtain ⟨hc2, hf2⟩ := bcell hb2; have hz2 := hb2.size; (try simp only [World.size_alloc, World.size_setCell, World.size_drew] at hz2); (try (have hy2w0 : w.heap.size < w2.heap.size := by omega)); (try (have hy2w1 : w.heap.size + 1 < w2.heap.size := by omega)); (try (have hy2w2 : w.heap.size + 1 + 1 < w2.heap.size := by omega)); (try (have hy2w3 : w.heap.size + 1 + 1 + 1 < w2.heap.size := by omega)); (try (have hy2w4 : w.heap.size + 1 + 1 + 1 + 1 < w2.heap.size := by omega)); (try (have hy2wc0 : wc.heap.size < w2.heap.size := by omega)); (try (have hy2wc1 : wc.heap.size + 1 < w2.heap.size := by omega)); (try (have hy2wc2 : wc.heap.size + 1 + 1 < w2.heap.size := by omega)); (try (have hy2wc3 : wc.heap.size + 1 + 1 + 1 < w2.heap.size := by omega)); (try (have hy2wc4 : wc.heap.size + 1 + 1 + 1 + 1 < w2.heap.size := by omega)); (try (have hy2w10 : w1.heap.size < w2.heap.size := by omega)); (try (have hy2w11 : w1.heap.size + 1 < w2.heap.size := by omega)); (try (have hy2w12 : w1.heap.size + 1 + 1 < w2.heap.size := by omega)); (try (have hy2w13 : w1.heap.size + 1 + 1 + 1 < w2.heap.size := by omega)); (try (have hy2w14 : w1.heap.size + 1 + 1 + 1 + 1 < w2.heap.size := by omega)))))
    all_goals (go_wp2_with fail; go_meet; refine And.intro rfl ?_; ((go_split_ands; (repeat (any_goals (with_reducible apply And.intro))) <;> ((repeat (first | (with_reducible assumption) | (with_reducible exact Below.refl _ _) | (with_reducible refine keepD ?_) | (with_reducible refine Below.drew ?_) | (with_reducible refine Box.drew ?_) | (with_reducible refine sizeD ?_) | (with_reducible exact keepC (by with_reducible assumption) (by with_reducible assumption)) | (with_reducible exact Box.below (by with_reducible assumption) (by with_reducible assumption)) | (with_reducible exact keepB (by with_reducible assumption) (by with_reducible assumption) (Nat.le_refl _)) | (with_reducible exact sizeC (by with_reducible assumption) (by with_reducible assumption)) | (with_reducible refine keepA _ ?_) | (with_reducible refine Box.alloc ?_ _) | (with_reducible refine allocB ?_ (Nat.le_refl _) _) | (with_reducible refine sizeA ?_ _))); done))))
  clear hB hz Bm ltm qm0 qm1 qm2 qm3 qm4 qm5 qm6 qm7 qm8 Bc ltc qc0 qc1 qc2 qc3 qc4 qc5 hsz BR
  case' rest => obtain ⟨rfl, Bm, Bc, BR, hB⟩ := hcut; have hz := hB.size
  have sr0 := BR.cell 0 rfl; have sf0 := BR.frz 0
  have sr1 := BR.cell 1 rfl; have sf1 := BR.frz 1
  have sr2 := BR.cell 2 rfl; have sf2 := BR.frz 2
  have sr3 := BR.cell 3 rfl; have sf3 := BR.frz 3
  have sr4 := BR.cell 4 rfl; have sf4 := BR.frz 4
  have sr5 := BR.cell 5 rfl; have sf5 := BR.frz 5
  have qm0 := Bm.cell 0 rfl
  have qm1 := Bm.cell 1 rfl
  have qm2 := Bm.cell 2 rfl
  have qm3 := Bm.cell 3 rfl
  have qm4 := Bm.cell 4 rfl
  have qm5 := Bm.cell 5 rfl
  have qm6 := Bm.cell 6 rfl
  have qm7 := Bm.cell 7 rfl
  have qm8 := Bm.cell 8 rfl
  have ltm := Bm.lt
  have qc0 := Bc.cell 0 rfl
  have qc1 := Bc.cell 1 rfl
  have qc2 := Bc.cell 2 rfl
  have qc3 := Bc.cell 3 rfl
  have qc4 := Bc.cell 4 rfl
  have qc5 := Bc.cell 5 rfl
  have ltc := Bc.lt
  rcases coCode3 p (isMap p ⟨m0, m1, m2, m3, m4, m5, m6, m7, m8⟩) [⟨c0, c1, c2, c3, c4, c5⟩] with hk | hk | ⟨hp, hok, hk⟩
  · have hE : Hid (icR p ⟨m0, m1, m2, m3, m4, m5, m6, m7, m8⟩ ⟨c0, c1, c2, c3, c4, c5⟩ = (⟨0, 0, 0, 0, 0, 0⟩, 2)) := by show _ = _; unfold icR; rw [hk]; rfl
    rw [hk]
    go_wp2_with fail
    (try simp only [Exit.inBlock, Exit.then]); refine bodyPost_ret (by simp [results, Try.results37, go_sem, cellSet_same, *]; try rfl) rfl ?_
    exact ⟨by rw [hE.out]; try rfl, by (repeat' (first | (with_reducible exact Below.refl _ _) | (with_reducible assumption) | (with_reducible refine Below.alloc ?_ ?_ _) | (with_reducible refine Below.drew ?_) | (with_reducible refine below_drewN ?_ _) | (with_reducible refine Below.setCell ?_ ?_ _) | (refine Below.step ?_ (by with_reducible assumption) ?_) | go_size))⟩
  · have hE : Hid (icR p ⟨m0, m1, m2, m3, m4, m5, m6, m7, m8⟩ ⟨c0, c1, c2, c3, c4, c5⟩ = (⟨0, 0, 0, 0, 0, 0⟩, 1)) := by show _ = _; unfold icR; rw [hk]; rfl
    rw [hk]
    go_wp2_with fail
    (try simp only [Exit.inBlock, Exit.then]); refine bodyPost_ret (by simp [results, Try.results37, go_sem, cellSet_same, *]; try rfl) rfl ?_
    exact ⟨by rw [hE.out]; try rfl, by (repeat' (first | (with_reducible exact Below.refl _ _) | (with_reducible assumption) | (with_reducible refine Below.alloc ?_ ?_ _) | (with_reducible refine Below.drew ?_) | (with_reducible refine below_drewN ?_ _) | (with_reducible refine Below.setCell ?_ ?_ _) | (refine Below.step ?_ (by with_reducible assumption) ?_) | go_size))⟩
  · rw [Bool.and_eq_true] at hok
    have him := fun w' => imageOfConic_any p m0 m1 m2 m3 m4 m5 m6 m7 m8 c0 c1 c2 c3 c4 c5 w' hp hok.1 (co1 hok.2).1
    have hE : Hid (icR p ⟨m0, m1, m2, m3, m4, m5, m6, m7, m8⟩ ⟨c0, c1, c2, c3, c4, c5⟩ = (imC p ⟨m0, m1, m2, m3, m4, m5, m6, m7, m8⟩ ⟨c0, c1, c2, c3, c4, c5⟩, 0)) := by show _ = _; unfold icR; rw [if_pos hk]
    rw [hk]
    generalize imC p ⟨m0, m1, m2, m3, m4, m5, m6, m7, m8⟩ ⟨c0, c1, c2, c3, c4, c5⟩ = g at *
    obtain ⟨g0, g1, g2, g3, g4, g5⟩ := g
    dsimp only at him
    have HIM := Lib.hid him
    clear him hk hok hp
    go_wp2_with (go_at_call 80; refine (HIM.out _).mono ?_; rintro e w3 ⟨rfl, hb3⟩; have hz3 := hb3.size; have BR3 := Box.below hb3 BR; have ltr3 := BR3.lt; have tr0 := BR3.cell 0 rfl; have tf0 := BR3.frz 0; have tr1 := BR3.cell 1 rfl; have tf1 := BR3.frz 1; have tr2 := BR3.cell 2 rfl; have tf2 := BR3.frz 2; have tr3 := BR3.cell 3 rfl; have tf3 := BR3.frz 3; have tr4 := BR3.cell 4 rfl; have tf4 := BR3.frz 4; have tr5 := BR3.cell 5 rfl; have tf5 := BR3.frz 5)
    (try simp only [Exit.inBlock, Exit.then]); refine bodyPost_ret (by simp [results, Try.results37, go_sem, cellSet_same, *]; try rfl) rfl ?_
    exact ⟨by rw [hE.out], by (repeat' (first | (with_reducible exact Below.refl _ _) | (with_reducible assumption) | (with_reducible refine Below.alloc ?_ ?_ _) | (with_reducible refine Below.drew ?_) | (with_reducible refine below_drewN ?_ _) | (with_reducible refine Below.setCell ?_ ?_ _) | (refine Below.step ?_ (by with_reducible assumption) ?_) | go_size))⟩
end Go.Proofs.Ytemimkbngfbomaa
