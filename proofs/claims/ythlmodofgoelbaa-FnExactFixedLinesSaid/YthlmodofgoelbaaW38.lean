/- Fixed points and fixed lines of maps: the program's closures and the reference's lists; p is a prime. -/
import Derived.Test.YthlmodofgoelbaaW16
import Derived.Test.YthlmodofgoelbaaW35
import Derived.Deep.RegionWith
import Derived.StillTailTactics
namespace Go.Proofs.Ythlmodofgoelbaa
open Go.RowKit
set_option linter.unusedSimpArgs false
set_option linter.unusedVariables false
set_option maxRecDepth 100000

theorem eqPt {t : Nat} (ht : Try.prog.underlying t = some (.array 3 2)) (a b : P3) (w : World) :
    (binOp .eql t (.agg #[.int .i64 a.x, .int .i64 a.y, .int .i64 a.z]) (.agg #[.int .i64 b.x, .int .i64 b.y, .int .i64 b.z])).run Try.prog w = .ok (.bool (decide (a = b))) w ∧
    (binOp .neq t (.agg #[.int .i64 a.x, .int .i64 a.y, .int .i64 a.z]) (.agg #[.int .i64 b.x, .int .i64 b.y, .int .i64 b.z])).run Try.prog w = .ok (.bool (!decide (a = b))) w := by
  by_cases h : a = b
  · subst h
    have := eq3_yes ht a.x a.y a.z w
    simpa using this
  · have := eq3_no ht (a0 := a.x) (a1 := a.y) (a2 := a.z) (b0 := b.x) (b1 := b.y) (b2 := b.z) (by rintro ⟨h0, h1, h2⟩; apply h; cases a; cases b; simp only at h0 h1 h2; rw [h0, h1, h2]) w
    simpa [h] using this
set_option maxHeartbeats 2000000 in
theorem FixedPoints1 (p m0 m1 m2 m3 m4 m5 m6 m7 m8 a0 a1 a2 : Int) (u v : Nat) (w : World) (hp : isP p = true) (sm0 : sm m0) (sm1 : sm m1) (sm2 : sm m2) (sm3 : sm m3) (sm4 : sm m4) (sm5 : sm m5) (sm6 : sm m6) (sm7 : sm m7) (sm8 : sm m8) (sa0 : sm a0) (sa1 : sm a1) (sa2 : sm a2) (hu : w.cell? ⟨u, 0, none⟩ = some (.int .i64 p)) (hm0 : w.cell? ⟨v, 0, none⟩ = some (.int .i64 m0)) (hm1 : w.cell? ⟨v, 1, none⟩ = some (.int .i64 m1)) (hm2 : w.cell? ⟨v, 2, none⟩ = some (.int .i64 m2)) (hm3 : w.cell? ⟨v, 3, none⟩ = some (.int .i64 m3)) (hm4 : w.cell? ⟨v, 4, none⟩ = some (.int .i64 m4)) (hm5 : w.cell? ⟨v, 5, none⟩ = some (.int .i64 m5)) (hm6 : w.cell? ⟨v, 6, none⟩ = some (.int .i64 m6)) (hm7 : w.cell? ⟨v, 7, none⟩ = some (.int .i64 m7)) (hm8 : w.cell? ⟨v, 8, none⟩ = some (.int .i64 m8)) :
    Calls Try.prog 76 #[.agg #[.int .i64 a0, .int .i64 a1, .int .i64 a2], .pointer (some ⟨u, 0, none⟩), .pointer (some ⟨v, 0, none⟩)] w fun e w' => e = .returned (.bool (decide (imM p ⟨m0, m1, m2, m3, m4, m5, m6, m7, m8⟩ ⟨a0, a1, a2⟩ = ⟨a0, a1, a2⟩))) ∧ Below w.heap.size w w' := by
  have hul : u < w.heap.size := World.block_lt_of_cell? w _ hu
  have hvl : v < w.heap.size := World.block_lt_of_cell? w _ hm0
  have hcl := fun w' => image_any p m0 m1 m2 m3 m4 m5 m6 m7 m8 a0 a1 a2 w' hp sm0 sm1 sm2 sm3 sm4 sm5 sm6 sm7 sm8 sa0 sa1 sa2
  have hq : ∀ w', (binOp .eql 43 (.agg #[.int .i64 (imM p ⟨m0, m1, m2, m3, m4, m5, m6, m7, m8⟩ ⟨a0, a1, a2⟩).x, .int .i64 (imM p ⟨m0, m1, m2, m3, m4, m5, m6, m7, m8⟩ ⟨a0, a1, a2⟩).y, .int .i64 (imM p ⟨m0, m1, m2, m3, m4, m5, m6, m7, m8⟩ ⟨a0, a1, a2⟩).z]) (.agg #[.int .i64 a0, .int .i64 a1, .int .i64 a2])).run Try.prog w' = .ok (.bool (decide (imM p ⟨m0, m1, m2, m3, m4, m5, m6, m7, m8⟩ ⟨a0, a1, a2⟩ = ⟨a0, a1, a2⟩))) w' := fun w' => (eqPt (by kernel_rfl) (imM p ⟨m0, m1, m2, m3, m4, m5, m6, m7, m8⟩ ⟨a0, a1, a2⟩) ⟨a0, a1, a2⟩ w').1
  generalize imM p ⟨m0, m1, m2, m3, m4, m5, m6, m7, m8⟩ ⟨a0, a1, a2⟩ = c at *
  have HCL := Lib.hid hcl
  clear hcl hp sm0 sm1 sm2 sm3 sm4 sm5 sm6 sm7 sm8 sa0 sa1 sa2
  go_enter Try.func76, Try.ntmps76
  go_wp2_with fail
  refine wp_name (fun wq => wq.cell? ⟨u, 0, none⟩ = some (.int .i64 p) ∧ wq.cell? ⟨v, 0, none⟩ = some (.int .i64 m0) ∧ wq.cell? ⟨v, 1, none⟩ = some (.int .i64 m1) ∧ wq.cell? ⟨v, 2, none⟩ = some (.int .i64 m2) ∧ wq.cell? ⟨v, 3, none⟩ = some (.int .i64 m3) ∧ wq.cell? ⟨v, 4, none⟩ = some (.int .i64 m4) ∧ wq.cell? ⟨v, 5, none⟩ = some (.int .i64 m5) ∧ wq.cell? ⟨v, 6, none⟩ = some (.int .i64 m6) ∧ wq.cell? ⟨v, 7, none⟩ = some (.int .i64 m7) ∧ wq.cell? ⟨v, 8, none⟩ = some (.int .i64 m8) ∧ wq.cell? ⟨w.heap.size, 0, none⟩ = some (.int .i64 a0) ∧ wq.cell? ⟨w.heap.size, 1, none⟩ = some (.int .i64 a1) ∧ wq.cell? ⟨w.heap.size, 2, none⟩ = some (.int .i64 a2) ∧ Below w.heap.size w wq) ⟨by go_cell, by go_cell, by go_cell, by go_cell, by go_cell, by go_cell, by go_cell, by go_cell, by go_cell, by go_cell, by go_cell, by go_cell, by go_cell, by (repeat' (first | (with_reducible exact Below.refl _ _) | (with_reducible assumption) | (with_reducible refine Below.alloc ?_ ?_ _) | (with_reducible refine Below.drew ?_) | (with_reducible refine below_drewN ?_ _) | (with_reducible refine Below.setCell ?_ ?_ _) | (refine Below.step ?_ (by with_reducible assumption) ?_) | go_size))⟩ ?_
  rintro wq ⟨cu, c0, c1, c2, c3, c4, c5, c6, c7, c8, ca0, ca1, ca2, hB⟩
  have hsz : w.heap.size ≤ wq.drew.heap.size := hB.size
  clear hu hm0 hm1 hm2 hm3 hm4 hm5 hm6 hm7 hm8
  go_region_with (go_at_call 77; refine (HCL.out _).mono ?_; rintro e w1 ⟨rfl, hb1⟩; have d0 := keepC hb1 (keepD ca0); have d1 := keepC hb1 (keepD ca1); have d2 := keepC hb1 (keepD ca2))
  all_goals (go_wp2_with fail; go_returns; exact ⟨rfl, by (repeat' (first | (with_reducible exact Below.refl _ _) | (with_reducible assumption) | (with_reducible refine Below.alloc ?_ ?_ _) | (with_reducible refine Below.drew ?_) | (with_reducible refine below_drewN ?_ _) | (with_reducible refine Below.setCell ?_ ?_ _) | (refine Below.step ?_ (by with_reducible assumption) ?_) | go_size))⟩)
set_option maxHeartbeats 2000000 in
theorem FixedLines1 (p m0 m1 m2 m3 m4 m5 m6 m7 m8 a0 a1 a2 : Int) (u v : Nat) (w : World) (hp : isP p = true) (sm0 : sm m0) (sm1 : sm m1) (sm2 : sm m2) (sm3 : sm m3) (sm4 : sm m4) (sm5 : sm m5) (sm6 : sm m6) (sm7 : sm m7) (sm8 : sm m8) (sa0 : sm a0) (sa1 : sm a1) (sa2 : sm a2) (hu : w.cell? ⟨u, 0, none⟩ = some (.int .i64 p)) (hm0 : w.cell? ⟨v, 0, none⟩ = some (.int .i64 m0)) (hm1 : w.cell? ⟨v, 1, none⟩ = some (.int .i64 m1)) (hm2 : w.cell? ⟨v, 2, none⟩ = some (.int .i64 m2)) (hm3 : w.cell? ⟨v, 3, none⟩ = some (.int .i64 m3)) (hm4 : w.cell? ⟨v, 4, none⟩ = some (.int .i64 m4)) (hm5 : w.cell? ⟨v, 5, none⟩ = some (.int .i64 m5)) (hm6 : w.cell? ⟨v, 6, none⟩ = some (.int .i64 m6)) (hm7 : w.cell? ⟨v, 7, none⟩ = some (.int .i64 m7)) (hm8 : w.cell? ⟨v, 8, none⟩ = some (.int .i64 m8)) :
    Calls Try.prog 80 #[.agg #[.int .i64 a0, .int .i64 a1, .int .i64 a2], .pointer (some ⟨u, 0, none⟩), .pointer (some ⟨v, 0, none⟩)] w fun e w' => e = .returned (.bool (decide (imL p ⟨m0, m1, m2, m3, m4, m5, m6, m7, m8⟩ ⟨a0, a1, a2⟩ = ⟨a0, a1, a2⟩))) ∧ Below w.heap.size w w' := by
  have hul : u < w.heap.size := World.block_lt_of_cell? w _ hu
  have hvl : v < w.heap.size := World.block_lt_of_cell? w _ hm0
  have hcl := fun w' => imageOfLine_any p m0 m1 m2 m3 m4 m5 m6 m7 m8 a0 a1 a2 w' hp sm0 sm1 sm2 sm3 sm4 sm5 sm6 sm7 sm8 sa0 sa1 sa2
  have hq : ∀ w', (binOp .eql 32 (.agg #[.int .i64 (imL p ⟨m0, m1, m2, m3, m4, m5, m6, m7, m8⟩ ⟨a0, a1, a2⟩).x, .int .i64 (imL p ⟨m0, m1, m2, m3, m4, m5, m6, m7, m8⟩ ⟨a0, a1, a2⟩).y, .int .i64 (imL p ⟨m0, m1, m2, m3, m4, m5, m6, m7, m8⟩ ⟨a0, a1, a2⟩).z]) (.agg #[.int .i64 a0, .int .i64 a1, .int .i64 a2])).run Try.prog w' = .ok (.bool (decide (imL p ⟨m0, m1, m2, m3, m4, m5, m6, m7, m8⟩ ⟨a0, a1, a2⟩ = ⟨a0, a1, a2⟩))) w' := fun w' => (eqPt (by kernel_rfl) (imL p ⟨m0, m1, m2, m3, m4, m5, m6, m7, m8⟩ ⟨a0, a1, a2⟩) ⟨a0, a1, a2⟩ w').1
  generalize imL p ⟨m0, m1, m2, m3, m4, m5, m6, m7, m8⟩ ⟨a0, a1, a2⟩ = c at *
  have HCL := Lib.hid hcl
  clear hcl hp sm0 sm1 sm2 sm3 sm4 sm5 sm6 sm7 sm8 sa0 sa1 sa2
  go_enter Try.func80, Try.ntmps80
  go_wp2_with fail
  refine wp_name (fun wq => wq.cell? ⟨u, 0, none⟩ = some (.int .i64 p) ∧ wq.cell? ⟨v, 0, none⟩ = some (.int .i64 m0) ∧ wq.cell? ⟨v, 1, none⟩ = some (.int .i64 m1) ∧ wq.cell? ⟨v, 2, none⟩ = some (.int .i64 m2) ∧ wq.cell? ⟨v, 3, none⟩ = some (.int .i64 m3) ∧ wq.cell? ⟨v, 4, none⟩ = some (.int .i64 m4) ∧ wq.cell? ⟨v, 5, none⟩ = some (.int .i64 m5) ∧ wq.cell? ⟨v, 6, none⟩ = some (.int .i64 m6) ∧ wq.cell? ⟨v, 7, none⟩ = some (.int .i64 m7) ∧ wq.cell? ⟨v, 8, none⟩ = some (.int .i64 m8) ∧ wq.cell? ⟨w.heap.size, 0, none⟩ = some (.int .i64 a0) ∧ wq.cell? ⟨w.heap.size, 1, none⟩ = some (.int .i64 a1) ∧ wq.cell? ⟨w.heap.size, 2, none⟩ = some (.int .i64 a2) ∧ Below w.heap.size w wq) ⟨by go_cell, by go_cell, by go_cell, by go_cell, by go_cell, by go_cell, by go_cell, by go_cell, by go_cell, by go_cell, by go_cell, by go_cell, by go_cell, by (repeat' (first | (with_reducible exact Below.refl _ _) | (with_reducible assumption) | (with_reducible refine Below.alloc ?_ ?_ _) | (with_reducible refine Below.drew ?_) | (with_reducible refine below_drewN ?_ _) | (with_reducible refine Below.setCell ?_ ?_ _) | (refine Below.step ?_ (by with_reducible assumption) ?_) | go_size))⟩ ?_
  rintro wq ⟨cu, c0, c1, c2, c3, c4, c5, c6, c7, c8, ca0, ca1, ca2, hB⟩
  have hsz : w.heap.size ≤ wq.drew.heap.size := hB.size
  clear hu hm0 hm1 hm2 hm3 hm4 hm5 hm6 hm7 hm8
  go_region_with (go_at_call 67; refine (HCL.out _).mono ?_; rintro e w1 ⟨rfl, hb1⟩; have d0 := keepC hb1 (keepD ca0); have d1 := keepC hb1 (keepD ca1); have d2 := keepC hb1 (keepD ca2))
  all_goals (go_wp2_with fail; go_returns; exact ⟨rfl, by (repeat' (first | (with_reducible exact Below.refl _ _) | (with_reducible assumption) | (with_reducible refine Below.alloc ?_ ?_ _) | (with_reducible refine Below.drew ?_) | (with_reducible refine below_drewN ?_ _) | (with_reducible refine Below.setCell ?_ ?_ _) | (refine Below.step ?_ (by with_reducible assumption) ?_) | go_size))⟩)
set_option maxHeartbeats 4000000 in
theorem l02Fixed_any (p m0 m1 m2 m3 m4 m5 m6 m7 m8 : Int) (w : World) (hp : isP p = true) (sm0 : sm m0) (sm1 : sm m1) (sm2 : sm m2) (sm3 : sm m3) (sm4 : sm m4) (sm5 : sm m5) (sm6 : sm m6) (sm7 : sm m7) (sm8 : sm m8) :
    Calls Try.prog 74 #[.int .i64 p, .agg #[.int .i64 m0, .int .i64 m1, .int .i64 m2, .int .i64 m3, .int .i64 m4, .int .i64 m5, .int .i64 m6, .int .i64 m7, .int .i64 m8]] w (PtsPost 43 ((allP p).filter (fun a => decide (imM p ⟨m0, m1, m2, m3, m4, m5, m6, m7, m8⟩ a = a))) w) := by
  have hlen := Lib.hid (allP_len hp)
  have HIM : Hid (∀ a : P3, a ∈ allP p → ∀ w' : World, Calls Try.prog 110 #[.int .i64 p, .agg #[.int .i64 m0, .int .i64 m1, .int .i64 m2, .int .i64 m3, .int .i64 m4, .int .i64 m5, .int .i64 m6, .int .i64 m7, .int .i64 m8], .agg #[.int .i64 a.x, .int .i64 a.y, .int .i64 a.z]] w' fun e w'' => e = .returned (.agg #[.int .i64 (imM p ⟨m0, m1, m2, m3, m4, m5, m6, m7, m8⟩ a).x, .int .i64 (imM p ⟨m0, m1, m2, m3, m4, m5, m6, m7, m8⟩ a).y, .int .i64 (imM p ⟨m0, m1, m2, m3, m4, m5, m6, m7, m8⟩ a).z]) ∧ Below w'.heap.size w' w'') := fun a ha w' => by
    obtain ⟨s0, s1, s2⟩ := allP_sm hp ha
    exact l02Image_any p m0 m1 m2 m3 m4 m5 m6 m7 m8 a.x a.y a.z w' hp sm0 sm1 sm2 sm3 sm4 sm5 sm6 sm7 sm8 s0 s1 s2
  have HP := Lib.hid hp; clear hp sm0 sm1 sm2 sm3 sm4 sm5 sm6 sm7 sm8
  go_enter Try.func74, Try.ntmps74
  go_wp2_with (fail)
  refine (l01Points_any p _ HP.out).mono ?_
  rintro e w1 ⟨v, rfl, hown, hb1⟩
  obtain ⟨hc1, hf1⟩ := bcell hb1; have hz1 := hb1.size; (try simp only [World.size_alloc, World.size_setCell, World.size_drew] at hz1); (try (have hy1w0 : w.heap.size < w1.heap.size := by omega)); (try (have hy1w1 : w.heap.size + 1 < w1.heap.size := by omega)); (try (have hy1w2 : w.heap.size + 1 + 1 < w1.heap.size := by omega)); (try (have hy1w3 : w.heap.size + 1 + 1 + 1 < w1.heap.size := by omega)); (try (have hy1w4 : w.heap.size + 1 + 1 + 1 + 1 < w1.heap.size := by omega))
  have b0 : w1.cell? ⟨w.heap.size, 0, none⟩ = some (.int .i64 m0) := keepC hb1 (by go_cell)
  have b1 : w1.cell? ⟨w.heap.size, 1, none⟩ = some (.int .i64 m1) := keepC hb1 (by go_cell)
  have b2 : w1.cell? ⟨w.heap.size, 2, none⟩ = some (.int .i64 m2) := keepC hb1 (by go_cell)
  have b3 : w1.cell? ⟨w.heap.size, 3, none⟩ = some (.int .i64 m3) := keepC hb1 (by go_cell)
  have b4 : w1.cell? ⟨w.heap.size, 4, none⟩ = some (.int .i64 m4) := keepC hb1 (by go_cell)
  have b5 : w1.cell? ⟨w.heap.size, 5, none⟩ = some (.int .i64 m5) := keepC hb1 (by go_cell)
  have b6 : w1.cell? ⟨w.heap.size, 6, none⟩ = some (.int .i64 m6) := keepC hb1 (by go_cell)
  have b7 : w1.cell? ⟨w.heap.size, 7, none⟩ = some (.int .i64 m7) := keepC hb1 (by go_cell)
  have b8 : w1.cell? ⟨w.heap.size, 8, none⟩ = some (.int .i64 m8) := keepC hb1 (by go_cell)
  obtain ⟨g, cap, rfl, hbg, hg, hR, hfz, hcap⟩ := hown.shape (by intro h; have := congrArg List.length h; rw [rowsP_len] at this; exact allP_ne p (List.length_eq_zero_iff.1 this))
  simp only [World.size_alloc] at hbg
  have hB1 : Below w.heap.size w w1 := by (repeat' (first | (with_reducible exact Below.refl _ _) | (with_reducible assumption) | (with_reducible refine Below.alloc ?_ ?_ _) | (with_reducible refine Below.drew ?_) | (with_reducible refine below_drewN ?_ _) | (with_reducible refine Below.setCell ?_ ?_ _) | (refine Below.step ?_ (by with_reducible assumption) ?_) | go_size))
  clear hfz hcap hown
  simp only [rowsP_len]
  generalize hgd : (fun a => decide (imM p ⟨m0, m1, m2, m3, m4, m5, m6, m7, m8⟩ a = a)) = gd
  have HGD := Lib.hid hgd; clear hgd
  have hon : Hid ((allP p).filter gd = (allP p).filter gd) := rfl
  generalize hps : allP p = ps at *
  have HPS := Lib.hid hps
  clear hps HP
  generalize hn : ps.length = n at *
  have HN := Lib.hid hn; clear hn
  have hn1 : n ≤ 1000000 := by have := HN.out; have := hlen.out; omega
  go_wp2
  go_loopw [6, 7] (fun v i wr => ∃ k : Nat, k ≤ n ∧ i = .int .i64 k ∧ OwnA 43 3 wr w1.heap.size v (rowsP ((ps.take k).filter gd)) ∧ Below w1.heap.size w1 wr) (fun _ i _ => n - (intOf i).toNat)
  case atStart => exact ⟨0, Nat.zero_le _, rfl, OwnA.made 43 w1 #[] 0 _ (Nat.le_refl _) (by unfold maxLen; omega) rfl, by (repeat' (first | (with_reducible exact Below.refl _ _) | (with_reducible assumption) | (with_reducible refine Below.alloc ?_ ?_ _) | (with_reducible refine Below.drew ?_) | (with_reducible refine below_drewN ?_ _) | (with_reducible refine Below.setCell ?_ ?_ _) | (refine Below.step ?_ (by with_reducible assumption) ?_) | go_size))⟩
  case round =>
    obtain ⟨k, hk, rfl, hown, hC⟩ := hrel
    have hCz := hC.size
    by_cases hlt : k < n
    · have hkp : Hid (k < ps.length) := by show _ < _; rw [HN.out]; exact hlt
      obtain ⟨p0, p1, p2⟩ := (hR.rdp.below hC hg).at_ hkp.out
      have hfs := Lib.hid (filter_snoc (f := gd) (List.getElem?_eq_getElem hkp.out))
      have HCL := Lib.hid (HIM.out (ps[k]'(hkp.out)) (List.getElem_mem _))
      have hlk : Hid ((rowsP ((ps.take k).filter gd)).length ≤ 10000000) := by
        show _ ≤ _
        have h1 := List.length_filter_le gd (ps.take k)
        have h2 := hlen.out
        rw [rowsP_len]
        rw [List.length_take] at h1
        omega
      have c0 : wr.cell? ⟨w.heap.size, 0, none⟩ = some (.int .i64 m0) := keepC hC b0
      have c1 : wr.cell? ⟨w.heap.size, 1, none⟩ = some (.int .i64 m1) := keepC hC b1
      have c2 : wr.cell? ⟨w.heap.size, 2, none⟩ = some (.int .i64 m2) := keepC hC b2
      have c3 : wr.cell? ⟨w.heap.size, 3, none⟩ = some (.int .i64 m3) := keepC hC b3
      have c4 : wr.cell? ⟨w.heap.size, 4, none⟩ = some (.int .i64 m4) := keepC hC b4
      have c5 : wr.cell? ⟨w.heap.size, 5, none⟩ = some (.int .i64 m5) := keepC hC b5
      have c6 : wr.cell? ⟨w.heap.size, 6, none⟩ = some (.int .i64 m6) := keepC hC b6
      have c7 : wr.cell? ⟨w.heap.size, 7, none⟩ = some (.int .i64 m7) := keepC hC b7
      have c8 : wr.cell? ⟨w.heap.size, 8, none⟩ = some (.int .i64 m8) := keepC hC b8
      generalize ps[k]'(hkp.out) = a at *
      simp only [Nat.zero_add] at p0 p1 p2
      have hB : Below w.heap.size w wr := hB1.trans (hC.mono hB1.size)
      have hgv : gd a = decide (imM p ⟨m0, m1, m2, m3, m4, m5, m6, m7, m8⟩ a = a) := by rw [← HGD.out]
      have hq0 : ∀ w', (binOp .eql 43 (.agg #[.int .i64 (imM p ⟨m0, m1, m2, m3, m4, m5, m6, m7, m8⟩ a).x, .int .i64 (imM p ⟨m0, m1, m2, m3, m4, m5, m6, m7, m8⟩ a).y, .int .i64 (imM p ⟨m0, m1, m2, m3, m4, m5, m6, m7, m8⟩ a).z]) (.agg #[.int .i64 a.x, .int .i64 a.y, .int .i64 a.z])).run Try.prog w' = .ok (.bool (gd a)) w' := fun w' => by rw [hgv]; exact (eqPt (by kernel_rfl) (imM p ⟨m0, m1, m2, m3, m4, m5, m6, m7, m8⟩ a) a w').1
      clear hgv
      generalize imM p ⟨m0, m1, m2, m3, m4, m5, m6, m7, m8⟩ a = c at *
      have hsz : w1.heap.size ≤ wr.drew.heap.size := hCz
      have HC : Below w1.heap.size w1 wr.drew := hC.drew
      have HO : OwnA 43 3 wr.drew w1.heap.size u6 (rowsP ((ps.take k).filter gd)) := hown
      have hgd1 : g < wr.drew.heap.size := by omega
      cases hd : gd a
      · have hn' : Hid ((ps.take (k + 1)).filter gd = (ps.take k).filter gd) := by show _ = _; rw [hfs.out, hd]; simp
        have hq : ∀ w', (binOp .eql 43 (.agg #[.int .i64 c.x, .int .i64 c.y, .int .i64 c.z]) (.agg #[.int .i64 a.x, .int .i64 a.y, .int .i64 a.z])).run Try.prog w' = .ok (.bool false) w' := fun w' => by rw [hq0, hd]
        clear hd hfs hq0 b0 b1 b2 b3 b4 b5 b6 b7 b8 hown hC hB
        go_wp2
        go_region_with (go_at_call 110; refine (HCL.out _).mono ?_; rintro e w2 ⟨rfl, hb2⟩; have q0 := keepC hb2 (keepD p0); have q1 := keepC hb2 (keepD p1); have q2 := keepC hb2 (keepD p2); have HO2 := HO.below hb2; have hz2 : w1.heap.size ≤ w2.heap.size := Nat.le_trans hsz hb2.size)
        all_goals (go_wp2_with fail; go_roundw; rotate_left; (simp [intOf]; omega); exact ⟨k + 1, by omega, by go_num, by rw [hn'.out]; exact HO2, by (repeat' (first | (with_reducible exact Below.refl _ _) | (with_reducible assumption) | (with_reducible refine Below.alloc ?_ ?_ _) | (with_reducible refine Below.drew ?_) | (with_reducible refine below_drewN ?_ _) | (with_reducible refine Below.setCell ?_ ?_ _) | (refine Below.step ?_ (by with_reducible assumption) ?_) | go_size))⟩)
      · have hn' : Hid ((ps.take (k + 1)).filter gd = (ps.take k).filter gd ++ [⟨a.x, a.y, a.z⟩]) := by show _ = _; rw [hfs.out, hd]; rfl
        have hq : ∀ w', (binOp .eql 43 (.agg #[.int .i64 c.x, .int .i64 c.y, .int .i64 c.z]) (.agg #[.int .i64 a.x, .int .i64 a.y, .int .i64 a.z])).run Try.prog w' = .ok (.bool true) w' := fun w' => by rw [hq0, hd]
        clear hd hfs hq0 b0 b1 b2 b3 b4 b5 b6 b7 b8 hown hC hB
        go_wp2
        go_region_with (go_at_call 110; refine (HCL.out _).mono ?_; rintro e w2 ⟨rfl, hb2⟩; have q0 := keepC hb2 (keepD p0); have q1 := keepC hb2 (keepD p1); have q2 := keepC hb2 (keepD p2); have HO2 := HO.below hb2; have hz2 : w1.heap.size ≤ w2.heap.size := Nat.le_trans hsz hb2.size)
        all_goals (have hg2 : g < w2.heap.size := by omega)
        all_goals (go_wp2_with (at_builtin; refine append3 Try.underlying40 info_Point w1.heap.size _ _ HO2 rfl _ _ rfl rfl rfl hlk.out (by omega) ?_; intro v' w3 hown3 hB3 hz3))
        all_goals (go_roundw; rotate_left; (simp [intOf]; omega); exact ⟨k + 1, by omega, by go_num, by rw [rowsP_snoc, ← hn'.out] at hown3; exact hown3, hB3 _ _ (by (repeat' (first | (with_reducible exact Below.refl _ _) | (with_reducible assumption) | (with_reducible refine Below.alloc ?_ ?_ _) | (with_reducible refine Below.drew ?_) | (with_reducible refine below_drewN ?_ _) | (with_reducible refine Below.setCell ?_ ?_ _) | (refine Below.step ?_ (by with_reducible assumption) ?_) | go_size))) (Nat.le_refl _)⟩)
    · have hkn : Hid (ps.take k = ps) := List.take_of_length_le (by rw [HN.out]; omega)
      rw [hkn.out, ← HGD.out, ← HPS.out] at hown
      go_wp2
      go_ret
      exact ⟨_, rfl, hown.base_le hB1.size, hB1.trans (hC.mono hB1.size)⟩
end Go.Proofs.Ythlmodofgoelbaa
