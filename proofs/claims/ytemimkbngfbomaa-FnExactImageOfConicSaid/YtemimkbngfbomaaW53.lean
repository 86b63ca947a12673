/- The matrix of a conic: the program's map and the reference's rows; p is a prime where it says so. -/
import Derived.Test.YtemimkbngfbomaaW51
import Derived.Test.YtemimkbngfbomaaW2
import Derived.Test.YtemimkbngfbomaaP5
import Derived.Test.YtemimkbngfbomaaH2
import Derived.Deep.DeepCutAuto
import Derived.Deep.RegionHeld3
import Derived.BigRegion
import Derived.StillTailTactics
namespace Go.Proofs.Ytemimkbngfbomaa
open Go.RowKit
set_option linter.unusedSimpArgs false
set_option linter.unusedVariables false
set_option maxRecDepth 100000

/-- The matrix of a conic. -/
def mxC (p : Int) (c : C6) : M9 := ⟨2 * c.c0 % p, c.c3, c.c4, c.c3, 2 * c.c1 % p, c.c5, c.c4, c.c5, 2 * c.c2 % p⟩
/-- Three rows of three numbers. -/
def Rows3 (w : World) (v : Value) (x0 x1 x2 x3 x4 x5 x6 x7 x8 : Int) : Prop := ∃ g a b c, v = .slice (some ⟨g, 0, none⟩) 3 3 ∧ w.cell? ⟨g, 0, none⟩ = some (.slice (some ⟨a, 0, none⟩) 3 3) ∧ w.cell? ⟨g, 1, none⟩ = some (.slice (some ⟨b, 0, none⟩) 3 3) ∧ w.cell? ⟨g, 2, none⟩ = some (.slice (some ⟨c, 0, none⟩) 3 3) ∧ w.cell? ⟨a, 0, none⟩ = some (.int .i64 x0) ∧ w.cell? ⟨a, 1, none⟩ = some (.int .i64 x1) ∧ w.cell? ⟨a, 2, none⟩ = some (.int .i64 x2) ∧ w.cell? ⟨b, 0, none⟩ = some (.int .i64 x3) ∧ w.cell? ⟨b, 1, none⟩ = some (.int .i64 x4) ∧ w.cell? ⟨b, 2, none⟩ = some (.int .i64 x5) ∧ w.cell? ⟨c, 0, none⟩ = some (.int .i64 x6) ∧ w.cell? ⟨c, 1, none⟩ = some (.int .i64 x7) ∧ w.cell? ⟨c, 2, none⟩ = some (.int .i64 x8)
theorem Rows3.keep {w w' : World} {v : Value} {x0 x1 x2 x3 x4 x5 x6 x7 x8 : Int} (h : Rows3 w v x0 x1 x2 x3 x4 x5 x6 x7 x8) (hk : ∀ b o u, w.cell? ⟨b, o, none⟩ = some u → w'.cell? ⟨b, o, none⟩ = some u) : Rows3 w' v x0 x1 x2 x3 x4 x5 x6 x7 x8 := by
  obtain ⟨g, a, b, c, hv, h1, h2, h3, q0, q1, q2, q3, q4, q5, q6, q7, q8⟩ := h
  exact ⟨g, a, b, c, hv, hk _ _ _ h1, hk _ _ _ h2, hk _ _ _ h3, hk _ _ _ q0, hk _ _ _ q1, hk _ _ _ q2, hk _ _ _ q3, hk _ _ _ q4, hk _ _ _ q5, hk _ _ _ q6, hk _ _ _ q7, hk _ _ _ q8⟩
/-- The same, and of the four blocks K is true. -/
def Rows3P (K : Nat → Prop) (w : World) (v : Value) (x0 x1 x2 x3 x4 x5 x6 x7 x8 : Int) : Prop := ∃ g a b c, v = .slice (some ⟨g, 0, none⟩) 3 3 ∧ K g ∧ K a ∧ K b ∧ K c ∧ w.cell? ⟨g, 0, none⟩ = some (.slice (some ⟨a, 0, none⟩) 3 3) ∧ w.cell? ⟨g, 1, none⟩ = some (.slice (some ⟨b, 0, none⟩) 3 3) ∧ w.cell? ⟨g, 2, none⟩ = some (.slice (some ⟨c, 0, none⟩) 3 3) ∧ w.cell? ⟨a, 0, none⟩ = some (.int .i64 x0) ∧ w.cell? ⟨a, 1, none⟩ = some (.int .i64 x1) ∧ w.cell? ⟨a, 2, none⟩ = some (.int .i64 x2) ∧ w.cell? ⟨b, 0, none⟩ = some (.int .i64 x3) ∧ w.cell? ⟨b, 1, none⟩ = some (.int .i64 x4) ∧ w.cell? ⟨b, 2, none⟩ = some (.int .i64 x5) ∧ w.cell? ⟨c, 0, none⟩ = some (.int .i64 x6) ∧ w.cell? ⟨c, 1, none⟩ = some (.int .i64 x7) ∧ w.cell? ⟨c, 2, none⟩ = some (.int .i64 x8)
theorem Rows3P.rows {K : Nat → Prop} {w : World} {v : Value} {x0 x1 x2 x3 x4 x5 x6 x7 x8 : Int} (h : Rows3P K w v x0 x1 x2 x3 x4 x5 x6 x7 x8) : Rows3 w v x0 x1 x2 x3 x4 x5 x6 x7 x8 := by
  obtain ⟨g, a, b, c, hv, _, _, _, _, h⟩ := h
  exact ⟨g, a, b, c, hv, h⟩
theorem Rows3P.keep {K K' : Nat → Prop} {w w' : World} {v : Value} {x0 x1 x2 x3 x4 x5 x6 x7 x8 : Int} (h : Rows3P K w v x0 x1 x2 x3 x4 x5 x6 x7 x8) (hK : ∀ b, K b → b < w.heap.size → K' b) (hk : ∀ b o u, K b → w.cell? ⟨b, o, none⟩ = some u → w'.cell? ⟨b, o, none⟩ = some u) : Rows3P K' w' v x0 x1 x2 x3 x4 x5 x6 x7 x8 := by
  obtain ⟨g, a, b, c, hv, kg, ka, kb, kc, h1, h2, h3, q0, q1, q2, q3, q4, q5, q6, q7, q8⟩ := h
  have lt : ∀ b o u, w.cell? ⟨b, o, none⟩ = some u → b < w.heap.size := fun b o u h => World.block_lt_of_cell? w _ h
  exact ⟨g, a, b, c, hv, hK _ kg (lt _ _ _ h1), hK _ ka (lt _ _ _ q0), hK _ kb (lt _ _ _ q3), hK _ kc (lt _ _ _ q6), hk _ _ _ kg h1, hk _ _ _ kg h2, hk _ _ _ kg h3, hk _ _ _ ka q0, hk _ _ _ ka q1, hk _ _ _ ka q2, hk _ _ _ kb q3, hk _ _ _ kb q4, hk _ _ _ kb q5, hk _ _ _ kc q6, hk _ _ _ kc q7, hk _ _ _ kc q8⟩
set_option maxHeartbeats 16000000 in
theorem l03Rows_own (p c0 c1 c2 c3 c4 c5 : Int) (w : World) (k1 : 3 ≤ p) (k2 : p ≤ 13) (sc0 : sm c0) (sc1 : sm c1) (sc2 : sm c2) (sc3 : sm c3) (sc4 : sm c4) (sc5 : sm c5) :
    Calls Try.prog 69 #[.int .i64 p, .agg #[.int .i64 c0, .int .i64 c1, .int .i64 c2, .int .i64 c3, .int .i64 c4, .int .i64 c5]] w fun e w' => ∃ v, e = .returned v ∧ Rows3P (fun b => w.heap.size ≤ b) w' v (2 * c0 % p) c3 c4 c3 (2 * c1 % p) c5 c4 c5 (2 * c2 % p) ∧ Below w.heap.size w w' := by
  have ⟨lc0, uc0⟩ := sc0; have ⟨lc1, uc1⟩ := sc1; have ⟨lc2, uc2⟩ := sc2; have ⟨lc3, uc3⟩ := sc3; have ⟨lc4, uc4⟩ := sc4; have ⟨lc5, uc5⟩ := sc5
  have hp0 : ¬ p = 0 := by omega
  have ht : ∀ c : Int, 0 ≤ c → (2 * c).tmod p = 2 * c % p := fun c hc => Int.tmod_eq_emod_of_nonneg (by omega)
  have ht0 := ht c0 lc0
  have ht1 := ht c1 lc1
  have ht2 := ht c2 lc2
  have hw0 : IntKind.i64.wrap (2 * c0) = 2 * c0 := by go_arith
  have hw1 : IntKind.i64.wrap (2 * c1) = 2 * c1 := by go_arith
  have hw2 : IntKind.i64.wrap (2 * c2) = 2 * c2 := by go_arith
  clear ht
  go_enter Try.func69, Try.ntmps69
  go_wp2_with fail
  have q0 : (w.alloc (.cells #[.int .i64 c0, .int .i64 c1, .int .i64 c2, .int .i64 c3, .int .i64 c4, .int .i64 c5] 24)).cell? ⟨w.heap.size, 0, none⟩ = some (.int .i64 c0) := by go_cell
  have q1 : (w.alloc (.cells #[.int .i64 c0, .int .i64 c1, .int .i64 c2, .int .i64 c3, .int .i64 c4, .int .i64 c5] 24)).cell? ⟨w.heap.size, 1, none⟩ = some (.int .i64 c1) := by go_cell
  have q2 : (w.alloc (.cells #[.int .i64 c0, .int .i64 c1, .int .i64 c2, .int .i64 c3, .int .i64 c4, .int .i64 c5] 24)).cell? ⟨w.heap.size, 2, none⟩ = some (.int .i64 c2) := by go_cell
  have q3 : (w.alloc (.cells #[.int .i64 c0, .int .i64 c1, .int .i64 c2, .int .i64 c3, .int .i64 c4, .int .i64 c5] 24)).cell? ⟨w.heap.size, 3, none⟩ = some (.int .i64 c3) := by go_cell
  have q4 : (w.alloc (.cells #[.int .i64 c0, .int .i64 c1, .int .i64 c2, .int .i64 c3, .int .i64 c4, .int .i64 c5] 24)).cell? ⟨w.heap.size, 4, none⟩ = some (.int .i64 c4) := by go_cell
  have q5 : (w.alloc (.cells #[.int .i64 c0, .int .i64 c1, .int .i64 c2, .int .i64 c3, .int .i64 c4, .int .i64 c5] 24)).cell? ⟨w.heap.size, 5, none⟩ = some (.int .i64 c5) := by go_cell
  go_region_held3 (fun w' => w'.cell? ⟨w.heap.size, 0, none⟩ = some (.int .i64 c0) ∧ w'.cell? ⟨w.heap.size, 1, none⟩ = some (.int .i64 c1) ∧ w'.cell? ⟨w.heap.size, 2, none⟩ = some (.int .i64 c2) ∧ w'.cell? ⟨w.heap.size, 3, none⟩ = some (.int .i64 c3) ∧ w'.cell? ⟨w.heap.size, 4, none⟩ = some (.int .i64 c4) ∧ w'.cell? ⟨w.heap.size, 5, none⟩ = some (.int .i64 c5)) ((go_split_ands; (repeat (any_goals (with_reducible apply And.intro))) <;> ((repeat (first | (with_reducible assumption) | (with_reducible refine keepD ?_) | (with_reducible refine keepA _ ?_))); done))) (fail)
  all_goals (go_wp2_with fail; go_ret; first | ((refine ⟨_, rfl, ⟨_, w.heap.size + 1, w.heap.size + 1 + 1, w.heap.size + 1 + 1 + 1, rfl, ?_, ?_, ?_, ?_, ?_, ?_, ?_, ?_, ?_, ?_, ?_, ?_, ?_, ?_, ?_, ?_⟩, ?_⟩) <;> (first | (dsimp only; omega) | (go_cell; done) | ((repeat' (first | (with_reducible exact Below.refl _ _) | (with_reducible assumption) | (with_reducible refine Below.alloc ?_ ?_ _) | (with_reducible refine Below.drew ?_) | (with_reducible refine below_drewN ?_ _) | (with_reducible refine Below.setCell ?_ ?_ _) | (refine Below.step ?_ (by with_reducible assumption) ?_) | go_size)); done))) | ((refine ⟨_, rfl, ⟨_, w.heap.size + 1, w.heap.size + 1 + 1 + 1, w.heap.size + 1 + 1, rfl, ?_, ?_, ?_, ?_, ?_, ?_, ?_, ?_, ?_, ?_, ?_, ?_, ?_, ?_, ?_, ?_⟩, ?_⟩) <;> (first | (dsimp only; omega) | (go_cell; done) | ((repeat' (first | (with_reducible exact Below.refl _ _) | (with_reducible assumption) | (with_reducible refine Below.alloc ?_ ?_ _) | (with_reducible refine Below.drew ?_) | (with_reducible refine below_drewN ?_ _) | (with_reducible refine Below.setCell ?_ ?_ _) | (refine Below.step ?_ (by with_reducible assumption) ?_) | go_size)); done))) | ((refine ⟨_, rfl, ⟨_, w.heap.size + 1 + 1, w.heap.size + 1, w.heap.size + 1 + 1 + 1, rfl, ?_, ?_, ?_, ?_, ?_, ?_, ?_, ?_, ?_, ?_, ?_, ?_, ?_, ?_, ?_, ?_⟩, ?_⟩) <;> (first | (dsimp only; omega) | (go_cell; done) | ((repeat' (first | (with_reducible exact Below.refl _ _) | (with_reducible assumption) | (with_reducible refine Below.alloc ?_ ?_ _) | (with_reducible refine Below.drew ?_) | (with_reducible refine below_drewN ?_ _) | (with_reducible refine Below.setCell ?_ ?_ _) | (refine Below.step ?_ (by with_reducible assumption) ?_) | go_size)); done))) | ((refine ⟨_, rfl, ⟨_, w.heap.size + 1 + 1, w.heap.size + 1 + 1 + 1, w.heap.size + 1, rfl, ?_, ?_, ?_, ?_, ?_, ?_, ?_, ?_, ?_, ?_, ?_, ?_, ?_, ?_, ?_, ?_⟩, ?_⟩) <;> (first | (dsimp only; omega) | (go_cell; done) | ((repeat' (first | (with_reducible exact Below.refl _ _) | (with_reducible assumption) | (with_reducible refine Below.alloc ?_ ?_ _) | (with_reducible refine Below.drew ?_) | (with_reducible refine below_drewN ?_ _) | (with_reducible refine Below.setCell ?_ ?_ _) | (refine Below.step ?_ (by with_reducible assumption) ?_) | go_size)); done))) | ((refine ⟨_, rfl, ⟨_, w.heap.size + 1 + 1 + 1, w.heap.size + 1, w.heap.size + 1 + 1, rfl, ?_, ?_, ?_, ?_, ?_, ?_, ?_, ?_, ?_, ?_, ?_, ?_, ?_, ?_, ?_, ?_⟩, ?_⟩) <;> (first | (dsimp only; omega) | (go_cell; done) | ((repeat' (first | (with_reducible exact Below.refl _ _) | (with_reducible assumption) | (with_reducible refine Below.alloc ?_ ?_ _) | (with_reducible refine Below.drew ?_) | (with_reducible refine below_drewN ?_ _) | (with_reducible refine Below.setCell ?_ ?_ _) | (refine Below.step ?_ (by with_reducible assumption) ?_) | go_size)); done))) | ((refine ⟨_, rfl, ⟨_, w.heap.size + 1 + 1 + 1, w.heap.size + 1 + 1, w.heap.size + 1, rfl, ?_, ?_, ?_, ?_, ?_, ?_, ?_, ?_, ?_, ?_, ?_, ?_, ?_, ?_, ?_, ?_⟩, ?_⟩) <;> (first | (dsimp only; omega) | (go_cell; done) | ((repeat' (first | (with_reducible exact Below.refl _ _) | (with_reducible assumption) | (with_reducible refine Below.alloc ?_ ?_ _) | (with_reducible refine Below.drew ?_) | (with_reducible refine below_drewN ?_ _) | (with_reducible refine Below.setCell ?_ ?_ _) | (refine Below.step ?_ (by with_reducible assumption) ?_) | go_size)); done))))
theorem l03Rows_any (p c0 c1 c2 c3 c4 c5 : Int) (w : World) (k1 : 3 ≤ p) (k2 : p ≤ 13) (sc0 : sm c0) (sc1 : sm c1) (sc2 : sm c2) (sc3 : sm c3) (sc4 : sm c4) (sc5 : sm c5) :
    Calls Try.prog 69 #[.int .i64 p, .agg #[.int .i64 c0, .int .i64 c1, .int .i64 c2, .int .i64 c3, .int .i64 c4, .int .i64 c5]] w fun e w' => ∃ v, e = .returned v ∧ Rows3 w' v (2 * c0 % p) c3 c4 c3 (2 * c1 % p) c5 c4 c5 (2 * c2 % p) ∧ Below w.heap.size w w' :=
  (l03Rows_own p c0 c1 c2 c3 c4 c5 w k1 k2 sc0 sc1 sc2 sc3 sc4 sc5).mono fun e w' ⟨v, he, hr, hb⟩ => ⟨v, he, hr.rows, hb⟩
set_option maxHeartbeats 8000000 in
theorem matrix_any (p c0 c1 c2 c3 c4 c5 : Int) (w : World) (k1 : 3 ≤ p) (k2 : p ≤ 13) (sc0 : sm c0) (sc1 : sm c1) (sc2 : sm c2) (sc3 : sm c3) (sc4 : sm c4) (sc5 : sm c5) (rc0 : 0 ≤ c0 ∧ c0 ≤ p - 1) (rc1 : 0 ≤ c1 ∧ c1 ≤ p - 1) (rc2 : 0 ≤ c2 ∧ c2 ≤ p - 1) (rc3 : 0 ≤ c3 ∧ c3 ≤ p - 1) (rc4 : 0 ≤ c4 ∧ c4 ≤ p - 1) (rc5 : 0 ≤ c5 ∧ c5 ≤ p - 1) :
    Calls Try.prog 60 #[.agg #[.int .i64 c0, .int .i64 c1, .int .i64 c2, .int .i64 c3, .int .i64 c4, .int .i64 c5], .int .i64 p] w fun e w' => e = .returned (.agg #[.int .i64 (mxC p ⟨c0, c1, c2, c3, c4, c5⟩).m0, .int .i64 (mxC p ⟨c0, c1, c2, c3, c4, c5⟩).m1, .int .i64 (mxC p ⟨c0, c1, c2, c3, c4, c5⟩).m2, .int .i64 (mxC p ⟨c0, c1, c2, c3, c4, c5⟩).m3, .int .i64 (mxC p ⟨c0, c1, c2, c3, c4, c5⟩).m4, .int .i64 (mxC p ⟨c0, c1, c2, c3, c4, c5⟩).m5, .int .i64 (mxC p ⟨c0, c1, c2, c3, c4, c5⟩).m6, .int .i64 (mxC p ⟨c0, c1, c2, c3, c4, c5⟩).m7, .int .i64 (mxC p ⟨c0, c1, c2, c3, c4, c5⟩).m8]) ∧ Below w.heap.size w w' := by
  have ⟨lc0, uc0⟩ := sc0; have ⟨lc1, uc1⟩ := sc1; have ⟨lc2, uc2⟩ := sc2; have ⟨lc3, uc3⟩ := sc3; have ⟨lc4, uc4⟩ := sc4; have ⟨lc5, uc5⟩ := sc5
  have hcm := fun (x : Int) (w' : World) => mod_any x p w' k1 k2
  have HCM := Lib.hid hcm
  clear hcm
  have hl0 : IntKind.i64.wrap 0 = 0 := by decide
  have hl1 : IntKind.i64.wrap 1 = 1 := by decide
  have hl2 : IntKind.i64.wrap 2 = 2 := by decide
  have hl3 : IntKind.i64.wrap 3 = 3 := by decide
  have hw0 : IntKind.i64.wrap (2 * c0) = 2 * c0 := by go_arith
  have hw1 : IntKind.i64.wrap (2 * c1) = 2 * c1 := by go_arith
  have hw2 : IntKind.i64.wrap (2 * c2) = 2 * c2 := by go_arith
  obtain ⟨d0, hd0⟩ : ∃ d : Int, Hid (d = 2 * c0 % p) := ⟨_, rfl⟩
  obtain ⟨d1, hd1⟩ : ∃ d : Int, Hid (d = c3) := ⟨_, rfl⟩
  obtain ⟨d2, hd2⟩ : ∃ d : Int, Hid (d = c4) := ⟨_, rfl⟩
  obtain ⟨d3, hd3⟩ : ∃ d : Int, Hid (d = c3) := ⟨_, rfl⟩
  obtain ⟨d4, hd4⟩ : ∃ d : Int, Hid (d = 2 * c1 % p) := ⟨_, rfl⟩
  obtain ⟨d5, hd5⟩ : ∃ d : Int, Hid (d = c5) := ⟨_, rfl⟩
  obtain ⟨d6, hd6⟩ : ∃ d : Int, Hid (d = c4) := ⟨_, rfl⟩
  obtain ⟨d7, hd7⟩ : ∃ d : Int, Hid (d = c5) := ⟨_, rfl⟩
  obtain ⟨d8, hd8⟩ : ∃ d : Int, Hid (d = 2 * c2 % p) := ⟨_, rfl⟩
  have he0 : Hid ((2 * c0) % p = d0) := by show _ = _; rw [hd0.out]
  have he1 : Hid ((c3) % p = d1) := by show _ = _; rw [hd1.out]; exact Int.emod_eq_of_lt rc3.1 (by omega)
  have he2 : Hid ((c4) % p = d2) := by show _ = _; rw [hd2.out]; exact Int.emod_eq_of_lt rc4.1 (by omega)
  have he3 : Hid ((c3) % p = d3) := by show _ = _; rw [hd3.out]; exact Int.emod_eq_of_lt rc3.1 (by omega)
  have he4 : Hid ((2 * c1) % p = d4) := by show _ = _; rw [hd4.out]
  have he5 : Hid ((c5) % p = d5) := by show _ = _; rw [hd5.out]; exact Int.emod_eq_of_lt rc5.1 (by omega)
  have he6 : Hid ((c4) % p = d6) := by show _ = _; rw [hd6.out]; exact Int.emod_eq_of_lt rc4.1 (by omega)
  have he7 : Hid ((c5) % p = d7) := by show _ = _; rw [hd7.out]; exact Int.emod_eq_of_lt rc5.1 (by omega)
  have he8 : Hid ((2 * c2) % p = d8) := by show _ = _; rw [hd8.out]
  have hE : Hid (mxC p ⟨c0, c1, c2, c3, c4, c5⟩ = ⟨d0, d1, d2, d3, d4, d5, d6, d7, d8⟩) := by show _ = _; unfold mxC; rw [hd0.out, hd1.out, hd2.out, hd3.out, hd4.out, hd5.out, hd6.out, hd7.out, hd8.out]
  clear k1 k2 rc0 sc0 lc0 uc0 rc1 sc1 lc1 uc1 rc2 sc2 lc2 uc2 rc3 sc3 lc3 uc3 rc4 sc4 lc4 uc4 rc5 sc5 lc5 uc5
  go_enter Try.func60, Try.ntmps60
  go_wp2_with fail
  refine wp_name (fun w' => Box 24 w' (w.heap.size) [c0, c1, c2, c3, c4, c5] ∧ Box 55 w' (w.heap.size + 1) [0, 0, 0, 0, 0, 0, 0, 0, 0] ∧ Box 55 w' (w.heap.size + 1 + 1) [2 * c0, c3, c4, c3, 2 * c1, c5, c4, c5, 2 * c2] ∧ Below w.heap.size w w') ⟨Box.alloc (Box.alloc (Box.new [c0, c1, c2, c3, c4, c5] (by simp)) _) _, Box.alloc (Box.new [0, 0, 0, 0, 0, 0, 0, 0, 0] (by simp)) _, Box.new [2 * c0, c3, c4, c3, 2 * c1, c5, c4, c5, 2 * c2] (by simp), by (repeat' (first | (with_reducible exact Below.refl _ _) | (with_reducible assumption) | (with_reducible refine Below.alloc ?_ ?_ _) | (with_reducible refine Below.drew ?_) | (with_reducible refine below_drewN ?_ _) | (with_reducible refine Below.setCell ?_ ?_ _) | (refine Below.step ?_ (by with_reducible assumption) ?_) | go_size))⟩ ?_
  rintro wq0 ⟨Bc0, Br0, Bm0, hB0⟩
  have hz0 := hB0.size
  have ltc0 := Bc0.lt
  have ltr0 := Br0.lt
  have ltm0 := Bm0.lt
  refine wp_loop_rounds 4 ?_
  rw [rounds_succ]
  go_wp2_with fail
  refine wp_loop_rounds 4 ?_
  rw [rounds_succ]
  go_wp2_with fail
  have hc : Hid (∀ w' : World, Calls Try.prog 72 #[.int .i64 (2 * c0), .int .i64 p] w' fun e w'' => e = .returned (.int .i64 d0) ∧ w'' = w') := fun w' => (HCM.out _ w').mono fun _ _ h => ⟨by rw [← he0.out]; exact h.1, h.2.symm⟩
  have rd0 := Bm0.cell 0 rfl
  refine wp_region_still_tail 10 (by kernel_rfl) (by kernel_rfl) ?_
  simp only [List.take_succ_cons, List.take_zero, List.drop_succ_cons, List.drop_zero]
  repeat (first | still_step | still_call (hc.out _))
  try refine wpStill_nil ?_
  change wpList _ _ _ _ _ wq0.drew
  clear rd0
  have st := (Box.drew Bm0).cell 0 rfl
  have sf := (Box.drew Bm0).frz 0
  go_wp2_with fail
  clear hc
  rw [rounds_succ]
  go_wp2_with fail
  have hc : Hid (∀ w' : World, Calls Try.prog 72 #[.int .i64 (c3), .int .i64 p] w' fun e w'' => e = .returned (.int .i64 d1) ∧ w'' = w') := fun w' => (HCM.out _ w').mono fun _ _ h => ⟨by rw [← he1.out]; exact h.1, h.2.symm⟩
  refine wp_name (fun w' => Box 24 w' (w.heap.size) [c0, c1, c2, c3, c4, c5] ∧ Box 55 w' (w.heap.size + 1) [0, 0, 0, 0, 0, 0, 0, 0, 0] ∧ Box 55 w' (w.heap.size + 1 + 1) [d0, c3, c4, c3, 2 * c1, c5, c4, c5, 2 * c2] ∧ Below w.heap.size w w') ⟨Box.far (Box.drew Bc0) (by omega), Box.far (Box.drew Br0) (by omega), (Box.set (Box.drew Bm0) 0 (d0)).cast rfl, Below.setCell (p := ⟨w.heap.size + 1 + 1, 0, none⟩) hB0.drew (by simp only []; omega) _⟩ ?_
  rintro wq1 ⟨Bc1, Br1, Bm1, hB1⟩
  clear st sf Bc0 Br0 Bm0 hB0 ltc0 ltr0 ltm0 hz0
  have hz1 := hB1.size
  have ltc1 := Bc1.lt
  have ltr1 := Br1.lt
  have ltm1 := Bm1.lt
  have rd0 := Bm1.cell 1 rfl
  refine wp_region_still_tail 10 (by kernel_rfl) (by kernel_rfl) ?_
  simp only [List.take_succ_cons, List.take_zero, List.drop_succ_cons, List.drop_zero]
  repeat (first | still_step | still_call (hc.out _))
  try refine wpStill_nil ?_
  change wpList _ _ _ _ _ wq1.drew
  clear rd0
  have st := (Box.drew Bm1).cell 1 rfl
  have sf := (Box.drew Bm1).frz 1
  go_wp2_with fail
  clear hc
  rw [rounds_succ]
  go_wp2_with fail
  have hc : Hid (∀ w' : World, Calls Try.prog 72 #[.int .i64 (c4), .int .i64 p] w' fun e w'' => e = .returned (.int .i64 d2) ∧ w'' = w') := fun w' => (HCM.out _ w').mono fun _ _ h => ⟨by rw [← he2.out]; exact h.1, h.2.symm⟩
  refine wp_name (fun w' => Box 24 w' (w.heap.size) [c0, c1, c2, c3, c4, c5] ∧ Box 55 w' (w.heap.size + 1) [0, 0, 0, 0, 0, 0, 0, 0, 0] ∧ Box 55 w' (w.heap.size + 1 + 1) [d0, d1, c4, c3, 2 * c1, c5, c4, c5, 2 * c2] ∧ Below w.heap.size w w') ⟨Box.far (Box.drew Bc1) (by omega), Box.far (Box.drew Br1) (by omega), (Box.set (Box.drew Bm1) 1 (d1)).cast rfl, Below.setCell (p := ⟨w.heap.size + 1 + 1, 1, none⟩) hB1.drew (by simp only []; omega) _⟩ ?_
  rintro wq2 ⟨Bc2, Br2, Bm2, hB2⟩
  clear st sf Bc1 Br1 Bm1 hB1 ltc1 ltr1 ltm1 hz1
  have hz2 := hB2.size
  have ltc2 := Bc2.lt
  have ltr2 := Br2.lt
  have ltm2 := Bm2.lt
  have rd0 := Bm2.cell 2 rfl
  refine wp_region_still_tail 10 (by kernel_rfl) (by kernel_rfl) ?_
  simp only [List.take_succ_cons, List.take_zero, List.drop_succ_cons, List.drop_zero]
  repeat (first | still_step | still_call (hc.out _))
  try refine wpStill_nil ?_
  change wpList _ _ _ _ _ wq2.drew
  clear rd0
  have st := (Box.drew Bm2).cell 2 rfl
  have sf := (Box.drew Bm2).frz 2
  go_wp2_with fail
  clear hc
  rw [rounds_succ]
  go_wp2_with fail
  rw [rounds_succ]
  go_wp2_with fail
  refine wp_loop_rounds 4 ?_
  rw [rounds_succ]
  go_wp2_with fail
  have hc : Hid (∀ w' : World, Calls Try.prog 72 #[.int .i64 (c3), .int .i64 p] w' fun e w'' => e = .returned (.int .i64 d3) ∧ w'' = w') := fun w' => (HCM.out _ w').mono fun _ _ h => ⟨by rw [← he3.out]; exact h.1, h.2.symm⟩
  refine wp_name (fun w' => Box 24 w' (w.heap.size) [c0, c1, c2, c3, c4, c5] ∧ Box 55 w' (w.heap.size + 1) [0, 0, 0, 0, 0, 0, 0, 0, 0] ∧ Box 55 w' (w.heap.size + 1 + 1) [d0, d1, d2, c3, 2 * c1, c5, c4, c5, 2 * c2] ∧ Below w.heap.size w w') ⟨Box.far (Box.drew Bc2) (by omega), Box.far (Box.drew Br2) (by omega), (Box.set (Box.drew Bm2) 2 (d2)).cast rfl, Below.setCell (p := ⟨w.heap.size + 1 + 1, 2, none⟩) hB2.drew (by simp only []; omega) _⟩ ?_
  rintro wq3 ⟨Bc3, Br3, Bm3, hB3⟩
  clear st sf Bc2 Br2 Bm2 hB2 ltc2 ltr2 ltm2 hz2
  have hz3 := hB3.size
  have ltc3 := Bc3.lt
  have ltr3 := Br3.lt
  have ltm3 := Bm3.lt
  have rd0 := Bm3.cell 3 rfl
  refine wp_region_still_tail 10 (by kernel_rfl) (by kernel_rfl) ?_
  simp only [List.take_succ_cons, List.take_zero, List.drop_succ_cons, List.drop_zero]
  repeat (first | still_step | still_call (hc.out _))
  try refine wpStill_nil ?_
  change wpList _ _ _ _ _ wq3.drew
  clear rd0
  have st := (Box.drew Bm3).cell 3 rfl
  have sf := (Box.drew Bm3).frz 3
  go_wp2_with fail
  clear hc
  rw [rounds_succ]
  go_wp2_with fail
  have hc : Hid (∀ w' : World, Calls Try.prog 72 #[.int .i64 (2 * c1), .int .i64 p] w' fun e w'' => e = .returned (.int .i64 d4) ∧ w'' = w') := fun w' => (HCM.out _ w').mono fun _ _ h => ⟨by rw [← he4.out]; exact h.1, h.2.symm⟩
  refine wp_name (fun w' => Box 24 w' (w.heap.size) [c0, c1, c2, c3, c4, c5] ∧ Box 55 w' (w.heap.size + 1) [0, 0, 0, 0, 0, 0, 0, 0, 0] ∧ Box 55 w' (w.heap.size + 1 + 1) [d0, d1, d2, d3, 2 * c1, c5, c4, c5, 2 * c2] ∧ Below w.heap.size w w') ⟨Box.far (Box.drew Bc3) (by omega), Box.far (Box.drew Br3) (by omega), (Box.set (Box.drew Bm3) 3 (d3)).cast rfl, Below.setCell (p := ⟨w.heap.size + 1 + 1, 3, none⟩) hB3.drew (by simp only []; omega) _⟩ ?_
  rintro wq4 ⟨Bc4, Br4, Bm4, hB4⟩
  clear st sf Bc3 Br3 Bm3 hB3 ltc3 ltr3 ltm3 hz3
  have hz4 := hB4.size
  have ltc4 := Bc4.lt
  have ltr4 := Br4.lt
  have ltm4 := Bm4.lt
  have rd0 := Bm4.cell 4 rfl
  refine wp_region_still_tail 10 (by kernel_rfl) (by kernel_rfl) ?_
  simp only [List.take_succ_cons, List.take_zero, List.drop_succ_cons, List.drop_zero]
  repeat (first | still_step | still_call (hc.out _))
  try refine wpStill_nil ?_
  change wpList _ _ _ _ _ wq4.drew
  clear rd0
  have st := (Box.drew Bm4).cell 4 rfl
  have sf := (Box.drew Bm4).frz 4
  go_wp2_with fail
  clear hc
  rw [rounds_succ]
  go_wp2_with fail
  have hc : Hid (∀ w' : World, Calls Try.prog 72 #[.int .i64 (c5), .int .i64 p] w' fun e w'' => e = .returned (.int .i64 d5) ∧ w'' = w') := fun w' => (HCM.out _ w').mono fun _ _ h => ⟨by rw [← he5.out]; exact h.1, h.2.symm⟩
  refine wp_name (fun w' => Box 24 w' (w.heap.size) [c0, c1, c2, c3, c4, c5] ∧ Box 55 w' (w.heap.size + 1) [0, 0, 0, 0, 0, 0, 0, 0, 0] ∧ Box 55 w' (w.heap.size + 1 + 1) [d0, d1, d2, d3, d4, c5, c4, c5, 2 * c2] ∧ Below w.heap.size w w') ⟨Box.far (Box.drew Bc4) (by omega), Box.far (Box.drew Br4) (by omega), (Box.set (Box.drew Bm4) 4 (d4)).cast rfl, Below.setCell (p := ⟨w.heap.size + 1 + 1, 4, none⟩) hB4.drew (by simp only []; omega) _⟩ ?_
  rintro wq5 ⟨Bc5, Br5, Bm5, hB5⟩
  clear st sf Bc4 Br4 Bm4 hB4 ltc4 ltr4 ltm4 hz4
  have hz5 := hB5.size
  have ltc5 := Bc5.lt
  have ltr5 := Br5.lt
  have ltm5 := Bm5.lt
  have rd0 := Bm5.cell 5 rfl
  refine wp_region_still_tail 10 (by kernel_rfl) (by kernel_rfl) ?_
  simp only [List.take_succ_cons, List.take_zero, List.drop_succ_cons, List.drop_zero]
  repeat (first | still_step | still_call (hc.out _))
  try refine wpStill_nil ?_
  change wpList _ _ _ _ _ wq5.drew
  clear rd0
  have st := (Box.drew Bm5).cell 5 rfl
  have sf := (Box.drew Bm5).frz 5
  go_wp2_with fail
  clear hc
  rw [rounds_succ]
  go_wp2_with fail
  rw [rounds_succ]
  go_wp2_with fail
  refine wp_loop_rounds 4 ?_
  rw [rounds_succ]
  go_wp2_with fail
  have hc : Hid (∀ w' : World, Calls Try.prog 72 #[.int .i64 (c4), .int .i64 p] w' fun e w'' => e = .returned (.int .i64 d6) ∧ w'' = w') := fun w' => (HCM.out _ w').mono fun _ _ h => ⟨by rw [← he6.out]; exact h.1, h.2.symm⟩
  refine wp_name (fun w' => Box 24 w' (w.heap.size) [c0, c1, c2, c3, c4, c5] ∧ Box 55 w' (w.heap.size + 1) [0, 0, 0, 0, 0, 0, 0, 0, 0] ∧ Box 55 w' (w.heap.size + 1 + 1) [d0, d1, d2, d3, d4, d5, c4, c5, 2 * c2] ∧ Below w.heap.size w w') ⟨Box.far (Box.drew Bc5) (by omega), Box.far (Box.drew Br5) (by omega), (Box.set (Box.drew Bm5) 5 (d5)).cast rfl, Below.setCell (p := ⟨w.heap.size + 1 + 1, 5, none⟩) hB5.drew (by simp only []; omega) _⟩ ?_
  rintro wq6 ⟨Bc6, Br6, Bm6, hB6⟩
  clear st sf Bc5 Br5 Bm5 hB5 ltc5 ltr5 ltm5 hz5
  have hz6 := hB6.size
  have ltc6 := Bc6.lt
  have ltr6 := Br6.lt
  have ltm6 := Bm6.lt
  have rd0 := Bm6.cell 6 rfl
  refine wp_region_still_tail 10 (by kernel_rfl) (by kernel_rfl) ?_
  simp only [List.take_succ_cons, List.take_zero, List.drop_succ_cons, List.drop_zero]
  repeat (first | still_step | still_call (hc.out _))
  try refine wpStill_nil ?_
  change wpList _ _ _ _ _ wq6.drew
  clear rd0
  have st := (Box.drew Bm6).cell 6 rfl
  have sf := (Box.drew Bm6).frz 6
  go_wp2_with fail
  clear hc
  rw [rounds_succ]
  go_wp2_with fail
  have hc : Hid (∀ w' : World, Calls Try.prog 72 #[.int .i64 (c5), .int .i64 p] w' fun e w'' => e = .returned (.int .i64 d7) ∧ w'' = w') := fun w' => (HCM.out _ w').mono fun _ _ h => ⟨by rw [← he7.out]; exact h.1, h.2.symm⟩
  refine wp_name (fun w' => Box 24 w' (w.heap.size) [c0, c1, c2, c3, c4, c5] ∧ Box 55 w' (w.heap.size + 1) [0, 0, 0, 0, 0, 0, 0, 0, 0] ∧ Box 55 w' (w.heap.size + 1 + 1) [d0, d1, d2, d3, d4, d5, d6, c5, 2 * c2] ∧ Below w.heap.size w w') ⟨Box.far (Box.drew Bc6) (by omega), Box.far (Box.drew Br6) (by omega), (Box.set (Box.drew Bm6) 6 (d6)).cast rfl, Below.setCell (p := ⟨w.heap.size + 1 + 1, 6, none⟩) hB6.drew (by simp only []; omega) _⟩ ?_
  rintro wq7 ⟨Bc7, Br7, Bm7, hB7⟩
  clear st sf Bc6 Br6 Bm6 hB6 ltc6 ltr6 ltm6 hz6
  have hz7 := hB7.size
  have ltc7 := Bc7.lt
  have ltr7 := Br7.lt
  have ltm7 := Bm7.lt
  have rd0 := Bm7.cell 7 rfl
  refine wp_region_still_tail 10 (by kernel_rfl) (by kernel_rfl) ?_
  simp only [List.take_succ_cons, List.take_zero, List.drop_succ_cons, List.drop_zero]
  repeat (first | still_step | still_call (hc.out _))
  try refine wpStill_nil ?_
  change wpList _ _ _ _ _ wq7.drew
  clear rd0
  have st := (Box.drew Bm7).cell 7 rfl
  have sf := (Box.drew Bm7).frz 7
  go_wp2_with fail
  clear hc
  rw [rounds_succ]
  go_wp2_with fail
  have hc : Hid (∀ w' : World, Calls Try.prog 72 #[.int .i64 (2 * c2), .int .i64 p] w' fun e w'' => e = .returned (.int .i64 d8) ∧ w'' = w') := fun w' => (HCM.out _ w').mono fun _ _ h => ⟨by rw [← he8.out]; exact h.1, h.2.symm⟩
  refine wp_name (fun w' => Box 24 w' (w.heap.size) [c0, c1, c2, c3, c4, c5] ∧ Box 55 w' (w.heap.size + 1) [0, 0, 0, 0, 0, 0, 0, 0, 0] ∧ Box 55 w' (w.heap.size + 1 + 1) [d0, d1, d2, d3, d4, d5, d6, d7, 2 * c2] ∧ Below w.heap.size w w') ⟨Box.far (Box.drew Bc7) (by omega), Box.far (Box.drew Br7) (by omega), (Box.set (Box.drew Bm7) 7 (d7)).cast rfl, Below.setCell (p := ⟨w.heap.size + 1 + 1, 7, none⟩) hB7.drew (by simp only []; omega) _⟩ ?_
  rintro wq8 ⟨Bc8, Br8, Bm8, hB8⟩
  clear st sf Bc7 Br7 Bm7 hB7 ltc7 ltr7 ltm7 hz7
  have hz8 := hB8.size
  have ltc8 := Bc8.lt
  have ltr8 := Br8.lt
  have ltm8 := Bm8.lt
  have rd0 := Bm8.cell 8 rfl
  refine wp_region_still_tail 10 (by kernel_rfl) (by kernel_rfl) ?_
  simp only [List.take_succ_cons, List.take_zero, List.drop_succ_cons, List.drop_zero]
  repeat (first | still_step | still_call (hc.out _))
  try refine wpStill_nil ?_
  change wpList _ _ _ _ _ wq8.drew
  clear rd0
  have st := (Box.drew Bm8).cell 8 rfl
  have sf := (Box.drew Bm8).frz 8
  go_wp2_with fail
  clear hc
  rw [rounds_succ]
  go_wp2_with fail
  have rs0 := Br8.cell 0 rfl
  have rf0 := Br8.frz 0
  have rd0 := Bm8.cell 0 rfl
  have rs1 := Br8.cell 1 rfl
  have rf1 := Br8.frz 1
  have rd1 := Bm8.cell 1 rfl
  have rs2 := Br8.cell 2 rfl
  have rf2 := Br8.frz 2
  have rd2 := Bm8.cell 2 rfl
  have rs3 := Br8.cell 3 rfl
  have rf3 := Br8.frz 3
  have rd3 := Bm8.cell 3 rfl
  have rs4 := Br8.cell 4 rfl
  have rf4 := Br8.frz 4
  have rd4 := Bm8.cell 4 rfl
  have rs5 := Br8.cell 5 rfl
  have rf5 := Br8.frz 5
  have rd5 := Bm8.cell 5 rfl
  have rs6 := Br8.cell 6 rfl
  have rf6 := Br8.frz 6
  have rd6 := Bm8.cell 6 rfl
  have rs7 := Br8.cell 7 rfl
  have rf7 := Br8.frz 7
  have rd7 := Bm8.cell 7 rfl
  have rs8 := Br8.cell 8 rfl
  have rf8 := Br8.frz 8
  have rd8 := Bm8.cell 8 rfl
  rw [rounds_succ]
  repeat ((fail_if_success guard_target = (_ : Exit → Act → World → Prop) Exit.ret _ _); (first | go_values | go_skip | go_guarded | go_step | go_upon | go_back))
  (try simp only [Exit.inBlock, Exit.then]); refine bodyPost_ret (by simp [results, Try.results60, go_sem, *]; try rfl) rfl ?_
  exact ⟨by rw [hE.out], by (repeat' (first | (with_reducible exact Below.refl _ _) | (with_reducible assumption) | (with_reducible refine Below.alloc ?_ ?_ _) | (with_reducible refine Below.drew ?_) | (with_reducible refine below_drewN ?_ _) | (with_reducible refine Below.setCell ?_ ?_ _) | (refine Below.step ?_ (by with_reducible assumption) ?_) | go_size))⟩
end Go.Proofs.Ytemimkbngfbomaa
