/- Maps in the specification: Is and the codes; no condition. -/
import Derived.Test.YtemimkbngfbomaaW26
import Derived.Test.YtemimkbngfbomaaE9
namespace Go.Proofs.Ytemimkbngfbomaa
open Go.RowKit
set_option linter.unusedSimpArgs false
set_option linter.unusedVariables false
set_option maxRecDepth 100000

theorem rngM_no {p x : Int} {e : M9} (hx : x ∈ e.l) (h : inB x 0 (p - 1) = false) : rngM p e = false := by
  unfold rngM
  rw [← Bool.not_eq_true, List.all_eq_true]
  intro h'
  have := h' x hx
  rw [h] at this
  cases this
set_option maxHeartbeats 8000000 in
theorem l02Is_any (p m0 m1 m2 m3 m4 m5 m6 m7 m8 : Int) (w : World) :
    Calls Try.prog 111 #[.int .i64 p, .agg #[.int .i64 m0, .int .i64 m1, .int .i64 m2, .int .i64 m3, .int .i64 m4, .int .i64 m5, .int .i64 m6, .int .i64 m7, .int .i64 m8]] w fun e w' => e = .returned (.bool (isMap p ⟨m0, m1, m2, m3, m4, m5, m6, m7, m8⟩)) ∧ Below w.heap.size w w' := by
  cases hp : isP p
  · have hE : Hid (isMap p ⟨m0, m1, m2, m3, m4, m5, m6, m7, m8⟩ = false) := by show _ = _; unfold isMap; rw [hp]; rfl
    go_enter Try.func111, Try.ntmps111
    go_wp2_with (go_at_call 49; refine (l01Prime_any _ _).mono ?_; rintro e w' ⟨rfl, rfl⟩)
    go_returns
    exact ⟨ret_bool hE.out.symm, by (repeat' (first | (with_reducible exact Below.refl _ _) | (with_reducible assumption) | (with_reducible refine Below.alloc ?_ ?_ _) | (with_reducible refine Below.drew ?_) | (with_reducible refine below_drewN ?_ _) | (with_reducible refine Below.setCell ?_ ?_ _) | (refine Below.step ?_ (by with_reducible assumption) ?_) | go_size))⟩
  · have k1 := isP_lo hp
    have k2 := isP_hi hp
    have HREF := Lib.hid (isMap_ref hp ⟨m0, m1, m2, m3, m4, m5, m6, m7, m8⟩)
    have HP := Lib.hid hp
    go_enter Try.func111, Try.ntmps111
    go_wp2_with (go_at_call 49; refine (l01Prime_any _ _).mono ?_; rintro e w' ⟨rfl, rfl⟩)
    clear hp
    refine wp_loop_rounds 4 ?_
    rw [rounds_succ]
    go_wp2_with fail
    refine wp_loop_rounds 4 ?_
    rw [rounds_succ]
    cases h0 : inB m0 0 (p - 1)
    · have hE : Hid (isMap p ⟨m0, m1, m2, m3, m4, m5, m6, m7, m8⟩ = false) := by show _ = _; rw [HREF.out, rngM_no (x := m0) (by simp [M9.l]) h0]; rfl
      go_wp2_with (go_at_call 50; refine (l01In_any _ _ _ _).mono ?_; rintro e w' ⟨rfl, rfl⟩; rw [h0])
      go_ret
      exact ⟨ret_bool hE.out.symm, by (repeat' (first | (with_reducible exact Below.refl _ _) | (with_reducible assumption) | (with_reducible refine Below.alloc ?_ ?_ _) | (with_reducible refine Below.drew ?_) | (with_reducible refine below_drewN ?_ _) | (with_reducible refine Below.setCell ?_ ?_ _) | (refine Below.step ?_ (by with_reducible assumption) ?_) | go_size))⟩
    go_wp2_with (go_at_call 50; refine (l01In_any _ _ _ _).mono ?_; rintro e w' ⟨rfl, rfl⟩; rw [h0])
    rw [rounds_succ]
    cases h1 : inB m1 0 (p - 1)
    · have hE : Hid (isMap p ⟨m0, m1, m2, m3, m4, m5, m6, m7, m8⟩ = false) := by show _ = _; rw [HREF.out, rngM_no (x := m1) (by simp [M9.l]) h1]; rfl
      go_wp2_with (go_at_call 50; refine (l01In_any _ _ _ _).mono ?_; rintro e w' ⟨rfl, rfl⟩; rw [h1])
      go_ret
      exact ⟨ret_bool hE.out.symm, by (repeat' (first | (with_reducible exact Below.refl _ _) | (with_reducible assumption) | (with_reducible refine Below.alloc ?_ ?_ _) | (with_reducible refine Below.drew ?_) | (with_reducible refine below_drewN ?_ _) | (with_reducible refine Below.setCell ?_ ?_ _) | (refine Below.step ?_ (by with_reducible assumption) ?_) | go_size))⟩
    go_wp2_with (go_at_call 50; refine (l01In_any _ _ _ _).mono ?_; rintro e w' ⟨rfl, rfl⟩; rw [h1])
    rw [rounds_succ]
    cases h2 : inB m2 0 (p - 1)
    · have hE : Hid (isMap p ⟨m0, m1, m2, m3, m4, m5, m6, m7, m8⟩ = false) := by show _ = _; rw [HREF.out, rngM_no (x := m2) (by simp [M9.l]) h2]; rfl
      go_wp2_with (go_at_call 50; refine (l01In_any _ _ _ _).mono ?_; rintro e w' ⟨rfl, rfl⟩; rw [h2])
      go_ret
      exact ⟨ret_bool hE.out.symm, by (repeat' (first | (with_reducible exact Below.refl _ _) | (with_reducible assumption) | (with_reducible refine Below.alloc ?_ ?_ _) | (with_reducible refine Below.drew ?_) | (with_reducible refine below_drewN ?_ _) | (with_reducible refine Below.setCell ?_ ?_ _) | (refine Below.step ?_ (by with_reducible assumption) ?_) | go_size))⟩
    go_wp2_with (go_at_call 50; refine (l01In_any _ _ _ _).mono ?_; rintro e w' ⟨rfl, rfl⟩; rw [h2])
    rw [rounds_succ]
    go_wp2_with fail
    rw [rounds_succ]
    go_wp2_with fail
    refine wp_loop_rounds 4 ?_
    rw [rounds_succ]
    cases h3 : inB m3 0 (p - 1)
    · have hE : Hid (isMap p ⟨m0, m1, m2, m3, m4, m5, m6, m7, m8⟩ = false) := by show _ = _; rw [HREF.out, rngM_no (x := m3) (by simp [M9.l]) h3]; rfl
      go_wp2_with (go_at_call 50; refine (l01In_any _ _ _ _).mono ?_; rintro e w' ⟨rfl, rfl⟩; rw [h3])
      go_ret
      exact ⟨ret_bool hE.out.symm, by (repeat' (first | (with_reducible exact Below.refl _ _) | (with_reducible assumption) | (with_reducible refine Below.alloc ?_ ?_ _) | (with_reducible refine Below.drew ?_) | (with_reducible refine below_drewN ?_ _) | (with_reducible refine Below.setCell ?_ ?_ _) | (refine Below.step ?_ (by with_reducible assumption) ?_) | go_size))⟩
    go_wp2_with (go_at_call 50; refine (l01In_any _ _ _ _).mono ?_; rintro e w' ⟨rfl, rfl⟩; rw [h3])
    rw [rounds_succ]
    cases h4 : inB m4 0 (p - 1)
    · have hE : Hid (isMap p ⟨m0, m1, m2, m3, m4, m5, m6, m7, m8⟩ = false) := by show _ = _; rw [HREF.out, rngM_no (x := m4) (by simp [M9.l]) h4]; rfl
      go_wp2_with (go_at_call 50; refine (l01In_any _ _ _ _).mono ?_; rintro e w' ⟨rfl, rfl⟩; rw [h4])
      go_ret
      exact ⟨ret_bool hE.out.symm, by (repeat' (first | (with_reducible exact Below.refl _ _) | (with_reducible assumption) | (with_reducible refine Below.alloc ?_ ?_ _) | (with_reducible refine Below.drew ?_) | (with_reducible refine below_drewN ?_ _) | (with_reducible refine Below.setCell ?_ ?_ _) | (refine Below.step ?_ (by with_reducible assumption) ?_) | go_size))⟩
    go_wp2_with (go_at_call 50; refine (l01In_any _ _ _ _).mono ?_; rintro e w' ⟨rfl, rfl⟩; rw [h4])
    rw [rounds_succ]
    cases h5 : inB m5 0 (p - 1)
    · have hE : Hid (isMap p ⟨m0, m1, m2, m3, m4, m5, m6, m7, m8⟩ = false) := by show _ = _; rw [HREF.out, rngM_no (x := m5) (by simp [M9.l]) h5]; rfl
      go_wp2_with (go_at_call 50; refine (l01In_any _ _ _ _).mono ?_; rintro e w' ⟨rfl, rfl⟩; rw [h5])
      go_ret
      exact ⟨ret_bool hE.out.symm, by (repeat' (first | (with_reducible exact Below.refl _ _) | (with_reducible assumption) | (with_reducible refine Below.alloc ?_ ?_ _) | (with_reducible refine Below.drew ?_) | (with_reducible refine below_drewN ?_ _) | (with_reducible refine Below.setCell ?_ ?_ _) | (refine Below.step ?_ (by with_reducible assumption) ?_) | go_size))⟩
    go_wp2_with (go_at_call 50; refine (l01In_any _ _ _ _).mono ?_; rintro e w' ⟨rfl, rfl⟩; rw [h5])
    rw [rounds_succ]
    go_wp2_with fail
    rw [rounds_succ]
    go_wp2_with fail
    refine wp_loop_rounds 4 ?_
    rw [rounds_succ]
    cases h6 : inB m6 0 (p - 1)
    · have hE : Hid (isMap p ⟨m0, m1, m2, m3, m4, m5, m6, m7, m8⟩ = false) := by show _ = _; rw [HREF.out, rngM_no (x := m6) (by simp [M9.l]) h6]; rfl
      go_wp2_with (go_at_call 50; refine (l01In_any _ _ _ _).mono ?_; rintro e w' ⟨rfl, rfl⟩; rw [h6])
      go_ret
      exact ⟨ret_bool hE.out.symm, by (repeat' (first | (with_reducible exact Below.refl _ _) | (with_reducible assumption) | (with_reducible refine Below.alloc ?_ ?_ _) | (with_reducible refine Below.drew ?_) | (with_reducible refine below_drewN ?_ _) | (with_reducible refine Below.setCell ?_ ?_ _) | (refine Below.step ?_ (by with_reducible assumption) ?_) | go_size))⟩
    go_wp2_with (go_at_call 50; refine (l01In_any _ _ _ _).mono ?_; rintro e w' ⟨rfl, rfl⟩; rw [h6])
    rw [rounds_succ]
    cases h7 : inB m7 0 (p - 1)
    · have hE : Hid (isMap p ⟨m0, m1, m2, m3, m4, m5, m6, m7, m8⟩ = false) := by show _ = _; rw [HREF.out, rngM_no (x := m7) (by simp [M9.l]) h7]; rfl
      go_wp2_with (go_at_call 50; refine (l01In_any _ _ _ _).mono ?_; rintro e w' ⟨rfl, rfl⟩; rw [h7])
      go_ret
      exact ⟨ret_bool hE.out.symm, by (repeat' (first | (with_reducible exact Below.refl _ _) | (with_reducible assumption) | (with_reducible refine Below.alloc ?_ ?_ _) | (with_reducible refine Below.drew ?_) | (with_reducible refine below_drewN ?_ _) | (with_reducible refine Below.setCell ?_ ?_ _) | (refine Below.step ?_ (by with_reducible assumption) ?_) | go_size))⟩
    go_wp2_with (go_at_call 50; refine (l01In_any _ _ _ _).mono ?_; rintro e w' ⟨rfl, rfl⟩; rw [h7])
    rw [rounds_succ]
    cases h8 : inB m8 0 (p - 1)
    · have hE : Hid (isMap p ⟨m0, m1, m2, m3, m4, m5, m6, m7, m8⟩ = false) := by show _ = _; rw [HREF.out, rngM_no (x := m8) (by simp [M9.l]) h8]; rfl
      go_wp2_with (go_at_call 50; refine (l01In_any _ _ _ _).mono ?_; rintro e w' ⟨rfl, rfl⟩; rw [h8])
      go_ret
      exact ⟨ret_bool hE.out.symm, by (repeat' (first | (with_reducible exact Below.refl _ _) | (with_reducible assumption) | (with_reducible refine Below.alloc ?_ ?_ _) | (with_reducible refine Below.drew ?_) | (with_reducible refine below_drewN ?_ _) | (with_reducible refine Below.setCell ?_ ?_ _) | (refine Below.step ?_ (by with_reducible assumption) ?_) | go_size))⟩
    go_wp2_with (go_at_call 50; refine (l01In_any _ _ _ _).mono ?_; rintro e w' ⟨rfl, rfl⟩; rw [h8])
    rw [rounds_succ]
    go_wp2_with fail
    have hR : Hid (rngM p ⟨m0, m1, m2, m3, m4, m5, m6, m7, m8⟩ = true) := by show _ = _; unfold rngM M9.l; simp only [List.all_cons, List.all_nil, h0, h1, h2, h3, h4, h5, h6, h7, h8, Bool.and_true]
    have ib := fun x (hx : inB x 0 (p - 1) = true) => sm_of k2 (inB_iff.1 hx)
    have sm0 : sm m0 := ib _ h0
    have sm1 : sm m1 := ib _ h1
    have sm2 : sm m2 := ib _ h2
    have sm3 : sm m3 := ib _ h3
    have sm4 : sm m4 := ib _ h4
    have sm5 : sm m5 := ib _ h5
    have sm6 : sm m6 := ib _ h6
    have sm7 : sm m7 := ib _ h7
    have sm8 : sm m8 := ib _ h8
    clear ib h0 h1 h2 h3 h4 h5 h6 h7 h8
    rw [rounds_succ]
    go_wp2_with fail
    refine wp_name (fun w' => w'.cell? ⟨w.heap.size, 0, none⟩ = some (.int .i64 m0) ∧ w'.cell? ⟨w.heap.size, 1, none⟩ = some (.int .i64 m1) ∧ w'.cell? ⟨w.heap.size, 2, none⟩ = some (.int .i64 m2) ∧ w'.cell? ⟨w.heap.size, 3, none⟩ = some (.int .i64 m3) ∧ w'.cell? ⟨w.heap.size, 4, none⟩ = some (.int .i64 m4) ∧ w'.cell? ⟨w.heap.size, 5, none⟩ = some (.int .i64 m5) ∧ w'.cell? ⟨w.heap.size, 6, none⟩ = some (.int .i64 m6) ∧ w'.cell? ⟨w.heap.size, 7, none⟩ = some (.int .i64 m7) ∧ w'.cell? ⟨w.heap.size, 8, none⟩ = some (.int .i64 m8) ∧ Below w.heap.size w w') ⟨by go_cell, by go_cell, by go_cell, by go_cell, by go_cell, by go_cell, by go_cell, by go_cell, by go_cell, by (repeat' (first | (with_reducible exact Below.refl _ _) | (with_reducible assumption) | (with_reducible refine Below.alloc ?_ ?_ _) | (with_reducible refine Below.drew ?_) | (with_reducible refine below_drewN ?_ _) | (with_reducible refine Below.setCell ?_ ?_ _) | (refine Below.step ?_ (by with_reducible assumption) ?_) | go_size))⟩ ?_
    rintro wq ⟨c0, c1, c2, c3, c4, c5, c6, c7, c8, hB⟩
    have hcd := fun w' => l02Det_any p m0 m1 m2 m3 m4 m5 m6 m7 m8 w' k1 k2 sm0 sm1 sm2 sm3 sm4 sm5 sm6 sm7 sm8
    have hcn := fun w' => l02Normal_any p m0 m1 m2 m3 m4 m5 m6 m7 m8 w' HP.out
    have hq : ∀ w', (binOp .eql 55 (.agg #[.int .i64 (nmM p ⟨m0, m1, m2, m3, m4, m5, m6, m7, m8⟩).m0, .int .i64 (nmM p ⟨m0, m1, m2, m3, m4, m5, m6, m7, m8⟩).m1, .int .i64 (nmM p ⟨m0, m1, m2, m3, m4, m5, m6, m7, m8⟩).m2, .int .i64 (nmM p ⟨m0, m1, m2, m3, m4, m5, m6, m7, m8⟩).m3, .int .i64 (nmM p ⟨m0, m1, m2, m3, m4, m5, m6, m7, m8⟩).m4, .int .i64 (nmM p ⟨m0, m1, m2, m3, m4, m5, m6, m7, m8⟩).m5, .int .i64 (nmM p ⟨m0, m1, m2, m3, m4, m5, m6, m7, m8⟩).m6, .int .i64 (nmM p ⟨m0, m1, m2, m3, m4, m5, m6, m7, m8⟩).m7, .int .i64 (nmM p ⟨m0, m1, m2, m3, m4, m5, m6, m7, m8⟩).m8]) (.agg #[.int .i64 m0, .int .i64 m1, .int .i64 m2, .int .i64 m3, .int .i64 m4, .int .i64 m5, .int .i64 m6, .int .i64 m7, .int .i64 m8])).run Try.prog w' = .ok (.bool (decide (nmM p ⟨m0, m1, m2, m3, m4, m5, m6, m7, m8⟩ = ⟨m0, m1, m2, m3, m4, m5, m6, m7, m8⟩))) w' := fun w' => (eqM (nmM p ⟨m0, m1, m2, m3, m4, m5, m6, m7, m8⟩) ⟨m0, m1, m2, m3, m4, m5, m6, m7, m8⟩ w').1
    have hE0 : Hid (isMap p ⟨m0, m1, m2, m3, m4, m5, m6, m7, m8⟩ = (!(M9.det p ⟨m0, m1, m2, m3, m4, m5, m6, m7, m8⟩ == 0) && decide (nmM p ⟨m0, m1, m2, m3, m4, m5, m6, m7, m8⟩ = ⟨m0, m1, m2, m3, m4, m5, m6, m7, m8⟩))) := by show _ = _; rw [HREF.out, hR.out, Bool.true_and]
    clear hR HREF
    generalize M9.det p ⟨m0, m1, m2, m3, m4, m5, m6, m7, m8⟩ = D at *
    generalize nmM p ⟨m0, m1, m2, m3, m4, m5, m6, m7, m8⟩ = NM at *
    obtain ⟨n0, n1, n2, n3, n4, n5, n6, n7, n8⟩ := NM
    have HCD := Lib.hid hcd
    have HCN := Lib.hid hcn
    have hsz : w.heap.size ≤ wq.drew.heap.size := hB.size
    clear hcd hcn
    by_cases hd : D = 0
    · subst hd
      have hE : Hid (isMap p ⟨m0, m1, m2, m3, m4, m5, m6, m7, m8⟩ = false) := by show _ = _; rw [hE0.out]; rfl
      clear hE0
      (first | go_region_with (first | (go_at_call 92; refine (HCD.out _).mono ?_; rintro e w1 ⟨rfl, hb1⟩; have hz1 : w.heap.size ≤ w1.heap.size := Nat.le_trans hsz hb1.size; have d0 := keepC hb1 (keepD c0); have d1 := keepC hb1 (keepD c1); have d2 := keepC hb1 (keepD c2); have d3 := keepC hb1 (keepD c3); have d4 := keepC hb1 (keepD c4); have d5 := keepC hb1 (keepD c5); have d6 := keepC hb1 (keepD c6); have d7 := keepC hb1 (keepD c7); have d8 := keepC hb1 (keepD c8)) | (go_at_call 93; refine (HCN.out _).mono ?_; rintro e w2 ⟨rfl, hb2⟩; have f0 := keepC hb2 d0; have f1 := keepC hb2 d1; have f2 := keepC hb2 d2; have f3 := keepC hb2 d3; have f4 := keepC hb2 d4; have f5 := keepC hb2 d5; have f6 := keepC hb2 d6; have f7 := keepC hb2 d7; have f8 := keepC hb2 d8)) | fail)
      all_goals (go_wp2_with fail; go_returns; exact ⟨ret_bool hE.out.symm, by (repeat' (first | (with_reducible exact Below.refl _ _) | (with_reducible assumption) | (with_reducible refine Below.alloc ?_ ?_ _) | (with_reducible refine Below.drew ?_) | (with_reducible refine below_drewN ?_ _) | (with_reducible refine Below.setCell ?_ ?_ _) | (refine Below.step ?_ (by with_reducible assumption) ?_) | go_size))⟩)
    · have hE : Hid (isMap p ⟨m0, m1, m2, m3, m4, m5, m6, m7, m8⟩ = decide ((⟨n0, n1, n2, n3, n4, n5, n6, n7, n8⟩ : M9) = ⟨m0, m1, m2, m3, m4, m5, m6, m7, m8⟩)) := by show _ = _; rw [hE0.out]; simp [hd]
      have hd1 : (D == 0) = false := by simpa using hd
      have hd2 : decide (D = 0) = false := by simpa using hd
      clear hE0
      (first | go_region_with (first | (go_at_call 92; refine (HCD.out _).mono ?_; rintro e w1 ⟨rfl, hb1⟩; have hz1 : w.heap.size ≤ w1.heap.size := Nat.le_trans hsz hb1.size; have d0 := keepC hb1 (keepD c0); have d1 := keepC hb1 (keepD c1); have d2 := keepC hb1 (keepD c2); have d3 := keepC hb1 (keepD c3); have d4 := keepC hb1 (keepD c4); have d5 := keepC hb1 (keepD c5); have d6 := keepC hb1 (keepD c6); have d7 := keepC hb1 (keepD c7); have d8 := keepC hb1 (keepD c8)) | (go_at_call 93; refine (HCN.out _).mono ?_; rintro e w2 ⟨rfl, hb2⟩; have f0 := keepC hb2 d0; have f1 := keepC hb2 d1; have f2 := keepC hb2 d2; have f3 := keepC hb2 d3; have f4 := keepC hb2 d4; have f5 := keepC hb2 d5; have f6 := keepC hb2 d6; have f7 := keepC hb2 d7; have f8 := keepC hb2 d8)) | fail)
      all_goals (go_wp2_with fail; go_returns; exact ⟨ret_bool (by rw [hE.out, Bool.eq_iff_iff]; simp [hd]), by (repeat' (first | (with_reducible exact Below.refl _ _) | (with_reducible assumption) | (with_reducible refine Below.alloc ?_ ?_ _) | (with_reducible refine Below.drew ?_) | (with_reducible refine below_drewN ?_ _) | (with_reducible refine Below.setCell ?_ ?_ _) | (refine Below.step ?_ (by with_reducible assumption) ?_) | go_size))⟩)