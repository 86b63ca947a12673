/- Images of points under maps: the program's steps; p is a prime where it says so. -/
import Derived.Test.YthlmodofgoelbaaW25
import Derived.Test.YthlmodofgoelbaaP6
namespace Go.Proofs.Ythlmodofgoelbaa
open Go.RowKit
set_option linter.unusedSimpArgs false
set_option linter.unusedVariables false
set_option maxRecDepth 100000

def BoxX3 (E : Nat) (w : World) (b : Nat) : Prop := ∃ x0 x1 x2 : Int, Box E w b [x0, x1, x2]
theorem BoxX3.drew {E : Nat} {w : World} {b : Nat} (h : BoxX3 E w b) : BoxX3 E w.drew b := h
theorem BoxX3.below {E : Nat} {w w1 : World} {b : Nat} (hb : Below w.heap.size w w1) (h : BoxX3 E w b) : BoxX3 E w1 b := by
  obtain ⟨x0, x1, x2, h⟩ := h
  exact ⟨x0, x1, x2, Box.below hb h⟩
theorem BoxX3.fill {E : Nat} {w : World} {b : Nat} {x0 x1 x2 : Int} (h : BoxX3 E w b) : BoxX3 E (((w.setCell ⟨b, 0, none⟩ (.int .i64 x0)).setCell ⟨b, 1, none⟩ (.int .i64 x1)).setCell ⟨b, 2, none⟩ (.int .i64 x2)) b := by
  obtain ⟨u0, u1, u2, h⟩ := h
  exact ⟨x0, x1, x2, Box.fill3 h⟩
set_option maxHeartbeats 8000000 in
theorem image_any (p m0 m1 m2 m3 m4 m5 m6 m7 m8 a0 a1 a2 : Int) (w : World) (hp : isP p = true) (sm0 : sm m0) (sm1 : sm m1) (sm2 : sm m2) (sm3 : sm m3) (sm4 : sm m4) (sm5 : sm m5) (sm6 : sm m6) (sm7 : sm m7) (sm8 : sm m8) (sa0 : sm a0) (sa1 : sm a1) (sa2 : sm a2) :
    Calls Try.prog 77 #[.int .i64 p, .agg #[.int .i64 m0, .int .i64 m1, .int .i64 m2, .int .i64 m3, .int .i64 m4, .int .i64 m5, .int .i64 m6, .int .i64 m7, .int .i64 m8], .agg #[.int .i64 a0, .int .i64 a1, .int .i64 a2]] w fun e w' => e = .returned (.agg #[.int .i64 (imM p ⟨m0, m1, m2, m3, m4, m5, m6, m7, m8⟩ ⟨a0, a1, a2⟩).x, .int .i64 (imM p ⟨m0, m1, m2, m3, m4, m5, m6, m7, m8⟩ ⟨a0, a1, a2⟩).y, .int .i64 (imM p ⟨m0, m1, m2, m3, m4, m5, m6, m7, m8⟩ ⟨a0, a1, a2⟩).z]) ∧ Below w.heap.size w w' := by
  have k1 := isP_lo hp
  have k2 := isP_hi hp
  have hd0 := fun w' => dot_any p m0 m1 m2 a0 a1 a2 w' k1 k2 sm0 sm1 sm2 sa0 sa1 sa2
  have hd1 := fun w' => dot_any p m3 m4 m5 a0 a1 a2 w' k1 k2 sm3 sm4 sm5 sa0 sa1 sa2
  have hd2 := fun w' => dot_any p m6 m7 m8 a0 a1 a2 w' k1 k2 sm6 sm7 sm8 sa0 sa1 sa2
  have hpt := fun w' => pointOf_any p (dot3 p m0 m1 m2 a0 a1 a2) (dot3 p m3 m4 m5 a0 a1 a2) (dot3 p m6 m7 m8 a0 a1 a2) w' hp
  have HD0 := Lib.hid hd0
  have HD1 := Lib.hid hd1
  have HD2 := Lib.hid hd2
  have HPT := Lib.hid hpt
  clear hd0 hd1 hd2 hpt hp k1 k2
  go_enter Try.func77, Try.ntmps77
  go_wp2_with fail
  refine wp_name (fun w' => w'.cell? ⟨w.heap.size, 0, none⟩ = some (.int .i64 m0) ∧ w'.cell? ⟨w.heap.size, 1, none⟩ = some (.int .i64 m1) ∧ w'.cell? ⟨w.heap.size, 2, none⟩ = some (.int .i64 m2) ∧ w'.cell? ⟨w.heap.size, 3, none⟩ = some (.int .i64 m3) ∧ w'.cell? ⟨w.heap.size, 4, none⟩ = some (.int .i64 m4) ∧ w'.cell? ⟨w.heap.size, 5, none⟩ = some (.int .i64 m5) ∧ w'.cell? ⟨w.heap.size, 6, none⟩ = some (.int .i64 m6) ∧ w'.cell? ⟨w.heap.size, 7, none⟩ = some (.int .i64 m7) ∧ w'.cell? ⟨w.heap.size, 8, none⟩ = some (.int .i64 m8) ∧ w'.cell? ⟨w.heap.size + 1, 0, none⟩ = some (.int .i64 a0) ∧ w'.cell? ⟨w.heap.size + 1, 1, none⟩ = some (.int .i64 a1) ∧ w'.cell? ⟨w.heap.size + 1, 2, none⟩ = some (.int .i64 a2) ∧ BoxX3 43 w' (w.heap.size + 1 + 1) ∧ Below w.heap.size w w') ⟨by go_cell, by go_cell, by go_cell, by go_cell, by go_cell, by go_cell, by go_cell, by go_cell, by go_cell, by go_cell, by go_cell, by go_cell, ⟨0, 0, 0, Box.new [0, 0, 0] (by simp)⟩, by (repeat' (first | (with_reducible exact Below.refl _ _) | (with_reducible assumption) | (with_reducible refine Below.alloc ?_ ?_ _) | (with_reducible refine Below.drew ?_) | (with_reducible refine below_drewN ?_ _) | (with_reducible refine Below.setCell ?_ ?_ _) | (refine Below.step ?_ (by with_reducible assumption) ?_) | go_size))⟩ ?_
  rintro wq ⟨c0, c1, c2, c3, c4, c5, c6, c7, c8, c9, c10, c11, hx, hB⟩
  go_region_held3 (fun w' => w'.cell? ⟨w.heap.size, 0, none⟩ = some (.int .i64 m0) ∧ w'.cell? ⟨w.heap.size, 1, none⟩ = some (.int .i64 m1) ∧ w'.cell? ⟨w.heap.size, 2, none⟩ = some (.int .i64 m2) ∧ w'.cell? ⟨w.heap.size, 3, none⟩ = some (.int .i64 m3) ∧ w'.cell? ⟨w.heap.size, 4, none⟩ = some (.int .i64 m4) ∧ w'.cell? ⟨w.heap.size, 5, none⟩ = some (.int .i64 m5) ∧ w'.cell? ⟨w.heap.size, 6, none⟩ = some (.int .i64 m6) ∧ w'.cell? ⟨w.heap.size, 7, none⟩ = some (.int .i64 m7) ∧ w'.cell? ⟨w.heap.size, 8, none⟩ = some (.int .i64 m8) ∧ w'.cell? ⟨w.heap.size + 1, 0, none⟩ = some (.int .i64 a0) ∧ w'.cell? ⟨w.heap.size + 1, 1, none⟩ = some (.int .i64 a1) ∧ w'.cell? ⟨w.heap.size + 1, 2, none⟩ = some (.int .i64 a2) ∧ BoxX3 43 w' (w.heap.size + 1 + 1) ∧ Below w.heap.size w w') ((go_split_ands; (repeat (any_goals (with_reducible apply And.intro))) <;> (first | (with_reducible assumption) | (with_reducible exact keepD (by with_reducible assumption)) | (with_reducible exact BoxX3.drew (by with_reducible assumption)) | (with_reducible exact Below.drew (by with_reducible assumption)) | (with_reducible exact keepC (by with_reducible assumption) (by with_reducible assumption)) | (with_reducible exact BoxX3.below (by with_reducible assumption) (by with_reducible assumption)) | (with_reducible exact keepB (by with_reducible assumption) (by with_reducible assumption) (Nat.le_refl _)) | (with_reducible exact BoxX3.fill (by with_reducible assumption)) | ((repeat (first | (with_reducible refine keepS2 ?_ (by omega)) | (with_reducible refine setB2 ?_ (by omega)))); (with_reducible assumption))))) ((first | (go_at_call_of 122 (Value.agg #[.int .i64 m0, .int .i64 m1, .int .i64 m2]); refine (HD0.out _).mono ?_; rintro e w1 ⟨rfl, hb1⟩) | (go_at_call_of 122 (Value.agg #[.int .i64 m3, .int .i64 m4, .int .i64 m5]); refine (HD1.out _).mono ?_; rintro e w2 ⟨rfl, hb2⟩) | (go_at_call_of 122 (Value.agg #[.int .i64 m6, .int .i64 m7, .int .i64 m8]); refine (HD2.out _).mono ?_; rintro e w3 ⟨rfl, hb3⟩) | (go_at_call 121; refine (HPT.out _).mono ?_; rintro e w4 ⟨rfl, hb4⟩; go_split_ands; have hx := BoxX3.below hb4 (by with_reducible assumption); obtain ⟨x0, x1, x2, hx⟩ := hx; have st0 := hx.cell 0 rfl; have st1 := hx.cell 1 rfl; have st2 := hx.cell 2 rfl; have sf0 := hx.frz 0; have sf1 := hx.frz 1; have sf2 := hx.frz 2)))
  all_goals (go_wp2_with fail; go_split_ands; (try simp only [Exit.inBlock, Exit.then]); refine bodyPost_ret (by simp [results, Try.results77, go_sem, *]; try rfl) rfl ?_; exact ⟨rfl, by assumption⟩)
end Go.Proofs.Ythlmodofgoelbaa
