/- FnExactPencilCubic: the program's PencilCubic returns what the reference's returns; no condition. -/
import Derived.Test.YtemimkbngfbomaaRows
import Derived.Test.YtemimkbngfbomaaB
import Derived.Test.YtemimkbngfbomaaW2
import Derived.Test.YtemimkbngfbomaaW74
import Derived.WalkSpells
import Derived.WalkLawsBesides
import Derived.Handy
import Derived.Test.YtemimkbngfbomaaH
import Derived.Deep.RegionHeld3
import Derived.Deep.DeepCutAuto
namespace Go.Proofs.Ytemimkbngfbomaa
open Go.ChangeShapes Go.WideShapes Go.ChangeAt Go.RowKit
set_option linter.unusedSimpArgs false
set_option linter.unusedVariables false

set_option maxHeartbeats 4000000 in
theorem walk_FnExactPencilCubic (a0 : Int) (a1_0 a1_1 a1_2 a1_3 a1_4 a1_5 : Int) (a2_0 a2_1 a2_2 a2_3 a2_4 a2_5 : Int) (w : World) (w0 : (Lit.int .i64 a0).wf = true) (w1 : ∀ x ∈ [a1_0, a1_1, a1_2, a1_3, a1_4, a1_5], (Lit.int .i64 x).wf = true) (w2 : ∀ x ∈ [a2_0, a2_1, a2_2, a2_3, a2_4, a2_5], (Lit.int .i64 x).wf = true) :
    Calls Try.prog 7 #[.int .i64 a0, .agg #[.int .i64 a1_0, .int .i64 a1_1, .int .i64 a1_2, .int .i64 a1_3, .int .i64 a1_4, .int .i64 a1_5], .agg #[.int .i64 a2_0, .int .i64 a2_1, .int .i64 a2_2, .int .i64 a2_3, .int .i64 a2_4, .int .i64 a2_5]] w fun e w' => e = .returned (.bool true) ∧ Below w.heap.size w w' := by
  clear w0 w1 w2
  have hlen : Hid (((cuR a0 ⟨a1_0, a1_1, a1_2, a1_3, a1_4, a1_5⟩ ⟨a2_0, a2_1, a2_2, a2_3, a2_4, a2_5⟩).1).length ≤ 1000000) := cuR_len a0 ⟨a1_0, a1_1, a1_2, a1_3, a1_4, a1_5⟩ ⟨a2_0, a2_1, a2_2, a2_3, a2_4, a2_5⟩
  have hlens := Lib.hid (cuR_lens a0 ⟨a1_0, a1_1, a1_2, a1_3, a1_4, a1_5⟩ ⟨a2_0, a2_1, a2_2, a2_3, a2_4, a2_5⟩)
  go_enter Try.func7, Try.ntmps7
  go_upto_region 1 with fail
  go_cut [7, 8] (fun s7 s8 wx => ∃ v : Value, v = s7 ∧ s8 = .int .i64 ((cuR a0 ⟨a1_0, a1_1, a1_2, a1_3, a1_4, a1_5⟩ ⟨a2_0, a2_1, a2_2, a2_3, a2_4, a2_5⟩).2) ∧ OwnA 2 1 wx w.heap.size v ((cuR a0 ⟨a1_0, a1_1, a1_2, a1_3, a1_4, a1_5⟩ ⟨a2_0, a2_1, a2_2, a2_3, a2_4, a2_5⟩).1) ∧ wx.cell? ⟨w.heap.size, 0, none⟩ = some (.int .i64 a1_0) ∧ wx.cell? ⟨w.heap.size, 1, none⟩ = some (.int .i64 a1_1) ∧ wx.cell? ⟨w.heap.size, 2, none⟩ = some (.int .i64 a1_2) ∧ wx.cell? ⟨w.heap.size, 3, none⟩ = some (.int .i64 a1_3) ∧ wx.cell? ⟨w.heap.size, 4, none⟩ = some (.int .i64 a1_4) ∧ wx.cell? ⟨w.heap.size, 5, none⟩ = some (.int .i64 a1_5) ∧ wx.cell? ⟨w.heap.size + 1, 0, none⟩ = some (.int .i64 a2_0) ∧ wx.cell? ⟨w.heap.size + 1, 1, none⟩ = some (.int .i64 a2_1) ∧ wx.cell? ⟨w.heap.size + 1, 2, none⟩ = some (.int .i64 a2_2) ∧ wx.cell? ⟨w.heap.size + 1, 3, none⟩ = some (.int .i64 a2_3) ∧ wx.cell? ⟨w.heap.size + 1, 4, none⟩ = some (.int .i64 a2_4) ∧ wx.cell? ⟨w.heap.size + 1, 5, none⟩ = some (.int .i64 a2_5) ∧ w.heap.size + 1 + 1 ≤ wx.heap.size ∧ Below w.heap.size w wx)
  case first =>
    go_region_held3 (fun w' => w'.cell? ⟨w.heap.size, 0, none⟩ = some (.int .i64 a1_0) ∧ w'.cell? ⟨w.heap.size, 1, none⟩ = some (.int .i64 a1_1) ∧ w'.cell? ⟨w.heap.size, 2, none⟩ = some (.int .i64 a1_2) ∧ w'.cell? ⟨w.heap.size, 3, none⟩ = some (.int .i64 a1_3) ∧ w'.cell? ⟨w.heap.size, 4, none⟩ = some (.int .i64 a1_4) ∧ w'.cell? ⟨w.heap.size, 5, none⟩ = some (.int .i64 a1_5) ∧ w'.cell? ⟨w.heap.size + 1, 0, none⟩ = some (.int .i64 a2_0) ∧ w'.cell? ⟨w.heap.size + 1, 1, none⟩ = some (.int .i64 a2_1) ∧ w'.cell? ⟨w.heap.size + 1, 2, none⟩ = some (.int .i64 a2_2) ∧ w'.cell? ⟨w.heap.size + 1, 3, none⟩ = some (.int .i64 a2_3) ∧ w'.cell? ⟨w.heap.size + 1, 4, none⟩ = some (.int .i64 a2_4) ∧ w'.cell? ⟨w.heap.size + 1, 5, none⟩ = some (.int .i64 a2_5) ∧ w.heap.size + 1 + 1 ≤ w'.heap.size ∧ Below w.heap.size w w')
      ((go_split_ands; (repeat (any_goals (with_reducible apply And.intro))) <;> (first
        | (with_reducible assumption)
        | (with_reducible exact keepC (by with_reducible assumption) (by with_reducible assumption))
        | (with_reducible exact keepA _ (by with_reducible assumption))
        | ((with_reducible apply keepA2); (with_reducible assumption); omega)
        | (with_reducible exact keepB (by with_reducible assumption) (by with_reducible assumption) (Nat.le_refl _))
        | (with_reducible exact allocB (by with_reducible assumption) (Nat.le_refl _) _)
        | ((with_reducible apply allocC (n := 1)); (with_reducible assumption); (with_reducible assumption))
        | ((with_reducible apply allocC3); (with_reducible assumption); (with_reducible assumption))
        | ((with_reducible apply allocC4); (with_reducible assumption); (with_reducible assumption))
        | (with_reducible exact sizeC (by with_reducible assumption) (by with_reducible assumption))
        | (with_reducible exact sizeA (by with_reducible assumption) _)
        | ((with_reducible apply sizeA2); (with_reducible assumption))
        | ((repeat (first | (with_reducible refine keepS2 ?_ (by omega)) | (with_reducible refine setB2 ?_ (by omega)) | (with_reducible refine sizeS ?_ _ _))); (with_reducible assumption))
        | (with_reducible exact keepD (keepA _ (by with_reducible assumption)))
        | (with_reducible exact Below.drew (allocB (by with_reducible assumption) (Nat.le_refl _) _))
        | (with_reducible exact sizeD (sizeA (by with_reducible assumption) _))
        | (go_cell) | (go_grown))))
      (first
        | (go_at_call_of 19 (Value.agg #[Value.int IntKind.i64 a1_0, Value.int IntKind.i64 a1_1, Value.int IntKind.i64 a1_2, Value.int IntKind.i64 a1_3, Value.int IntKind.i64 a1_4, Value.int IntKind.i64 a1_5]); refine (toConic_any _ _ _ _ _ _ _).mono ?_; rintro e wt1 ⟨rfl, hbt1⟩; have hs1 : w.heap.size + 1 + 1 ≤ wt1.heap.size := (by (go_split_ands; have hq := hbt1.size; (try simp only [World.size_alloc, World.size_setCell, World.size_drew] at hq); omega)))
        | (go_at_call_of 19 (Value.agg #[Value.int IntKind.i64 a2_0, Value.int IntKind.i64 a2_1, Value.int IntKind.i64 a2_2, Value.int IntKind.i64 a2_3, Value.int IntKind.i64 a2_4, Value.int IntKind.i64 a2_5]); refine (toConic_any _ _ _ _ _ _ _).mono ?_; rintro e wt2 ⟨rfl, hbt2⟩; have hs2 : w.heap.size + 1 + 1 ≤ wt2.heap.size := (by (go_split_ands; have hq := hbt2.size; (try simp only [World.size_alloc, World.size_setCell, World.size_drew] at hq); omega)))
        | (go_at_call 27; refine (PencilCubic_spec _ _ _ _ _ _ _ _ _ _ _ _ _ _).mono ?_; rintro e wt9 ⟨vt, rfl, howt, hbt9⟩; go_split_ands; have howt := howt.base_le (show w.heap.size ≤ _ from Below.size (by with_reducible assumption : Below w.heap.size w _)); have hs9 : w.heap.size + 1 + 1 ≤ wt9.heap.size := (by have hq := hbt9.size; (try simp only [World.size_alloc, World.size_setCell, World.size_drew] at hq); omega)))
    all_goals (go_wp2_with fail; go_meet; go_split_ands; refine ⟨_, rfl, rfl, howt, ?_⟩; (repeat (any_goals (with_reducible apply And.intro))) <;> (first | (with_reducible assumption) | go_cell))
  case' rest => obtain ⟨v1, rfl, rfl, hown1, hcut⟩ := hcut
  go_upto_region 2 with fail
  refine wp_name (fun wx => OwnA 2 1 wx w.heap.size v1 ((cuR a0 ⟨a1_0, a1_1, a1_2, a1_3, a1_4, a1_5⟩ ⟨a2_0, a2_1, a2_2, a2_3, a2_4, a2_5⟩).1) ∧ wx.cell? ⟨w.heap.size, 0, none⟩ = some (.int .i64 a1_0) ∧ wx.cell? ⟨w.heap.size, 1, none⟩ = some (.int .i64 a1_1) ∧ wx.cell? ⟨w.heap.size, 2, none⟩ = some (.int .i64 a1_2) ∧ wx.cell? ⟨w.heap.size, 3, none⟩ = some (.int .i64 a1_3) ∧ wx.cell? ⟨w.heap.size, 4, none⟩ = some (.int .i64 a1_4) ∧ wx.cell? ⟨w.heap.size, 5, none⟩ = some (.int .i64 a1_5) ∧ wx.cell? ⟨w.heap.size + 1, 0, none⟩ = some (.int .i64 a2_0) ∧ wx.cell? ⟨w.heap.size + 1, 1, none⟩ = some (.int .i64 a2_1) ∧ wx.cell? ⟨w.heap.size + 1, 2, none⟩ = some (.int .i64 a2_2) ∧ wx.cell? ⟨w.heap.size + 1, 3, none⟩ = some (.int .i64 a2_3) ∧ wx.cell? ⟨w.heap.size + 1, 4, none⟩ = some (.int .i64 a2_4) ∧ wx.cell? ⟨w.heap.size + 1, 5, none⟩ = some (.int .i64 a2_5) ∧ w.heap.size + 1 + 1 ≤ wx.heap.size ∧ Below w.heap.size w wx) ⟨hown1, hcut⟩ ?_
  rintro w1 ⟨hown1, hcut⟩
  have hsz1 : w.heap.size + 1 + 1 ≤ w1.heap.size := by go_split_ands; assumption
  have hB1 : Below w.heap.size w w1 := by go_split_ands; assumption
  have c1_0_0 : w1.cell? ⟨w.heap.size, 0, none⟩ = some (.int .i64 a1_0) := by go_split_ands; assumption
  have c1_0_1 : w1.cell? ⟨w.heap.size, 1, none⟩ = some (.int .i64 a1_1) := by go_split_ands; assumption
  have c1_0_2 : w1.cell? ⟨w.heap.size, 2, none⟩ = some (.int .i64 a1_2) := by go_split_ands; assumption
  have c1_0_3 : w1.cell? ⟨w.heap.size, 3, none⟩ = some (.int .i64 a1_3) := by go_split_ands; assumption
  have c1_0_4 : w1.cell? ⟨w.heap.size, 4, none⟩ = some (.int .i64 a1_4) := by go_split_ands; assumption
  have c1_0_5 : w1.cell? ⟨w.heap.size, 5, none⟩ = some (.int .i64 a1_5) := by go_split_ands; assumption
  have c1_1_0 : w1.cell? ⟨w.heap.size + 1, 0, none⟩ = some (.int .i64 a2_0) := by go_split_ands; assumption
  have c1_1_1 : w1.cell? ⟨w.heap.size + 1, 1, none⟩ = some (.int .i64 a2_1) := by go_split_ands; assumption
  have c1_1_2 : w1.cell? ⟨w.heap.size + 1, 2, none⟩ = some (.int .i64 a2_2) := by go_split_ands; assumption
  have c1_1_3 : w1.cell? ⟨w.heap.size + 1, 3, none⟩ = some (.int .i64 a2_3) := by go_split_ands; assumption
  have c1_1_4 : w1.cell? ⟨w.heap.size + 1, 4, none⟩ = some (.int .i64 a2_4) := by go_split_ands; assumption
  have c1_1_5 : w1.cell? ⟨w.heap.size + 1, 5, none⟩ = some (.int .i64 a2_5) := by go_split_ands; assumption
  clear hcut
  go_upto_region 2 with fail
  go_cut [9, 10] (fun s9 s10 wx => ∃ v : Value, v = s9 ∧ s10 = .int .i64 ((cuR a0 ⟨a1_0, a1_1, a1_2, a1_3, a1_4, a1_5⟩ ⟨a2_0, a2_1, a2_2, a2_3, a2_4, a2_5⟩).2) ∧ OwnA 2 1 wx w1.heap.size v ((cuR a0 ⟨a1_0, a1_1, a1_2, a1_3, a1_4, a1_5⟩ ⟨a2_0, a2_1, a2_2, a2_3, a2_4, a2_5⟩).1) ∧ wx.cell? ⟨w.heap.size, 0, none⟩ = some (.int .i64 a1_0) ∧ wx.cell? ⟨w.heap.size, 1, none⟩ = some (.int .i64 a1_1) ∧ wx.cell? ⟨w.heap.size, 2, none⟩ = some (.int .i64 a1_2) ∧ wx.cell? ⟨w.heap.size, 3, none⟩ = some (.int .i64 a1_3) ∧ wx.cell? ⟨w.heap.size, 4, none⟩ = some (.int .i64 a1_4) ∧ wx.cell? ⟨w.heap.size, 5, none⟩ = some (.int .i64 a1_5) ∧ wx.cell? ⟨w.heap.size + 1, 0, none⟩ = some (.int .i64 a2_0) ∧ wx.cell? ⟨w.heap.size + 1, 1, none⟩ = some (.int .i64 a2_1) ∧ wx.cell? ⟨w.heap.size + 1, 2, none⟩ = some (.int .i64 a2_2) ∧ wx.cell? ⟨w.heap.size + 1, 3, none⟩ = some (.int .i64 a2_3) ∧ wx.cell? ⟨w.heap.size + 1, 4, none⟩ = some (.int .i64 a2_4) ∧ wx.cell? ⟨w.heap.size + 1, 5, none⟩ = some (.int .i64 a2_5) ∧ w.heap.size + 1 + 1 ≤ wx.heap.size ∧ Below w.heap.size w wx ∧ Below w1.heap.size w1 wx)
  case first =>
    go_region_held3 (fun w' => w'.cell? ⟨w.heap.size, 0, none⟩ = some (.int .i64 a1_0) ∧ w'.cell? ⟨w.heap.size, 1, none⟩ = some (.int .i64 a1_1) ∧ w'.cell? ⟨w.heap.size, 2, none⟩ = some (.int .i64 a1_2) ∧ w'.cell? ⟨w.heap.size, 3, none⟩ = some (.int .i64 a1_3) ∧ w'.cell? ⟨w.heap.size, 4, none⟩ = some (.int .i64 a1_4) ∧ w'.cell? ⟨w.heap.size, 5, none⟩ = some (.int .i64 a1_5) ∧ w'.cell? ⟨w.heap.size + 1, 0, none⟩ = some (.int .i64 a2_0) ∧ w'.cell? ⟨w.heap.size + 1, 1, none⟩ = some (.int .i64 a2_1) ∧ w'.cell? ⟨w.heap.size + 1, 2, none⟩ = some (.int .i64 a2_2) ∧ w'.cell? ⟨w.heap.size + 1, 3, none⟩ = some (.int .i64 a2_3) ∧ w'.cell? ⟨w.heap.size + 1, 4, none⟩ = some (.int .i64 a2_4) ∧ w'.cell? ⟨w.heap.size + 1, 5, none⟩ = some (.int .i64 a2_5) ∧ w.heap.size + 1 + 1 ≤ w'.heap.size ∧ Below w.heap.size w w' ∧ Below w1.heap.size w1 w')
      ((go_split_ands; (repeat (any_goals (with_reducible apply And.intro))) <;> (first
        | (with_reducible assumption)
        | (with_reducible exact keepC (by with_reducible assumption) (by with_reducible assumption))
        | (with_reducible exact keepA _ (by with_reducible assumption))
        | ((with_reducible apply keepA2); (with_reducible assumption); omega)
        | (with_reducible exact keepB (by with_reducible assumption) (by with_reducible assumption) (Nat.le_refl _))
        | (with_reducible exact allocB (by with_reducible assumption) (Nat.le_refl _) _)
        | ((with_reducible apply allocC (n := 1)); (with_reducible assumption); (with_reducible assumption))
        | ((with_reducible apply allocC3); (with_reducible assumption); (with_reducible assumption))
        | ((with_reducible apply allocC4); (with_reducible assumption); (with_reducible assumption))
        | (with_reducible exact sizeC (by with_reducible assumption) (by with_reducible assumption))
        | (with_reducible exact sizeA (by with_reducible assumption) _)
        | ((with_reducible apply sizeA2); (with_reducible assumption))
        | ((repeat (first | (with_reducible refine keepS2 ?_ (by omega)) | (with_reducible refine setB2 ?_ (by omega)) | (with_reducible refine sizeS ?_ _ _))); (with_reducible assumption))
        | (with_reducible exact keepD (keepA _ (by with_reducible assumption)))
        | (with_reducible exact Below.drew (allocB (by with_reducible assumption) (Nat.le_refl _) _))
        | (with_reducible exact sizeD (sizeA (by with_reducible assumption) _))
        | (go_cell) | (go_grown))))
      (first
        | (go_at_call_of 19 (Value.agg #[Value.int IntKind.i64 a1_0, Value.int IntKind.i64 a1_1, Value.int IntKind.i64 a1_2, Value.int IntKind.i64 a1_3, Value.int IntKind.i64 a1_4, Value.int IntKind.i64 a1_5]); refine (toConic_any _ _ _ _ _ _ _).mono ?_; rintro e wt1 ⟨rfl, hbt1⟩; have hs1 : w.heap.size + 1 + 1 ≤ wt1.heap.size := (by (go_split_ands; have hq := hbt1.size; (try simp only [World.size_alloc, World.size_setCell, World.size_drew] at hq); omega)))
        | (go_at_call_of 19 (Value.agg #[Value.int IntKind.i64 a2_0, Value.int IntKind.i64 a2_1, Value.int IntKind.i64 a2_2, Value.int IntKind.i64 a2_3, Value.int IntKind.i64 a2_4, Value.int IntKind.i64 a2_5]); refine (toConic_any _ _ _ _ _ _ _).mono ?_; rintro e wt2 ⟨rfl, hbt2⟩; have hs2 : w.heap.size + 1 + 1 ≤ wt2.heap.size := (by (go_split_ands; have hq := hbt2.size; (try simp only [World.size_alloc, World.size_setCell, World.size_drew] at hq); omega)))
        | (go_at_call 28; refine (PencilCubic_any _ _ _ _ _ _ _ _ _ _ _ _ _ _).mono ?_; rintro e wt9 ⟨vt, rfl, howt, hbt9⟩; go_split_ands; have howt := howt.base_le (show w1.heap.size ≤ _ from Below.size (by with_reducible assumption : Below w1.heap.size w1 _)); have hs9 : w.heap.size + 1 + 1 ≤ wt9.heap.size := (by have hq := hbt9.size; (try simp only [World.size_alloc, World.size_setCell, World.size_drew] at hq); omega)))
    all_goals (go_wp2_with fail; go_meet; go_split_ands; refine ⟨_, rfl, rfl, howt, ?_⟩; (repeat (any_goals (with_reducible apply And.intro))) <;> (first | (with_reducible assumption) | go_cell))
  case' rest => obtain ⟨v2, rfl, rfl, hown2, hcut⟩ := hcut
  go_upto_region 3 with fail
  refine wp_name (fun wx => OwnA 2 1 wx w1.heap.size v2 ((cuR a0 ⟨a1_0, a1_1, a1_2, a1_3, a1_4, a1_5⟩ ⟨a2_0, a2_1, a2_2, a2_3, a2_4, a2_5⟩).1) ∧ wx.cell? ⟨w.heap.size, 0, none⟩ = some (.int .i64 a1_0) ∧ wx.cell? ⟨w.heap.size, 1, none⟩ = some (.int .i64 a1_1) ∧ wx.cell? ⟨w.heap.size, 2, none⟩ = some (.int .i64 a1_2) ∧ wx.cell? ⟨w.heap.size, 3, none⟩ = some (.int .i64 a1_3) ∧ wx.cell? ⟨w.heap.size, 4, none⟩ = some (.int .i64 a1_4) ∧ wx.cell? ⟨w.heap.size, 5, none⟩ = some (.int .i64 a1_5) ∧ wx.cell? ⟨w.heap.size + 1, 0, none⟩ = some (.int .i64 a2_0) ∧ wx.cell? ⟨w.heap.size + 1, 1, none⟩ = some (.int .i64 a2_1) ∧ wx.cell? ⟨w.heap.size + 1, 2, none⟩ = some (.int .i64 a2_2) ∧ wx.cell? ⟨w.heap.size + 1, 3, none⟩ = some (.int .i64 a2_3) ∧ wx.cell? ⟨w.heap.size + 1, 4, none⟩ = some (.int .i64 a2_4) ∧ wx.cell? ⟨w.heap.size + 1, 5, none⟩ = some (.int .i64 a2_5) ∧ w.heap.size + 1 + 1 ≤ wx.heap.size ∧ Below w.heap.size w wx ∧ Below w1.heap.size w1 wx) ⟨hown2, hcut⟩ ?_
  rintro w2 ⟨hown2, hcut⟩
  have hsz2 : w.heap.size + 1 + 1 ≤ w2.heap.size := by go_split_ands; assumption
  have hB2 : Below w.heap.size w w2 := by go_split_ands; assumption
  have hbp2 : Below w1.heap.size w1 w2 := by go_split_ands; assumption
  have c2_0_0 : w2.cell? ⟨w.heap.size, 0, none⟩ = some (.int .i64 a1_0) := by go_split_ands; assumption
  have c2_0_1 : w2.cell? ⟨w.heap.size, 1, none⟩ = some (.int .i64 a1_1) := by go_split_ands; assumption
  have c2_0_2 : w2.cell? ⟨w.heap.size, 2, none⟩ = some (.int .i64 a1_2) := by go_split_ands; assumption
  have c2_0_3 : w2.cell? ⟨w.heap.size, 3, none⟩ = some (.int .i64 a1_3) := by go_split_ands; assumption
  have c2_0_4 : w2.cell? ⟨w.heap.size, 4, none⟩ = some (.int .i64 a1_4) := by go_split_ands; assumption
  have c2_0_5 : w2.cell? ⟨w.heap.size, 5, none⟩ = some (.int .i64 a1_5) := by go_split_ands; assumption
  have c2_1_0 : w2.cell? ⟨w.heap.size + 1, 0, none⟩ = some (.int .i64 a2_0) := by go_split_ands; assumption
  have c2_1_1 : w2.cell? ⟨w.heap.size + 1, 1, none⟩ = some (.int .i64 a2_1) := by go_split_ands; assumption
  have c2_1_2 : w2.cell? ⟨w.heap.size + 1, 2, none⟩ = some (.int .i64 a2_2) := by go_split_ands; assumption
  have c2_1_3 : w2.cell? ⟨w.heap.size + 1, 3, none⟩ = some (.int .i64 a2_3) := by go_split_ands; assumption
  have c2_1_4 : w2.cell? ⟨w.heap.size + 1, 4, none⟩ = some (.int .i64 a2_4) := by go_split_ands; assumption
  have c2_1_5 : w2.cell? ⟨w.heap.size + 1, 5, none⟩ = some (.int .i64 a2_5) := by go_split_ands; assumption
  clear hcut
  have howna := hown1.below hbp2
  have hap := Lib.hid (hown1.apart2 hown2 (Nat.le_refl _))
  clear c1_0_0 c1_0_1 c1_0_2 c1_0_3 c1_0_4 c1_0_5 c1_1_0 c1_1_1 c1_1_2 c1_1_3 c1_1_4 c1_1_5
  go_wp2_with (go_at_call 29; refine (eqInt64S_same v2 v1 ((cuR a0 ⟨a1_0, a1_1, a1_2, a1_3, a1_4, a1_5⟩ ⟨a2_0, a2_1, a2_2, a2_3, a2_4, a2_5⟩).1) _ hown2.sl howna.sl hlens.out hlen.out).mono ?_; rintro e w5 ⟨rfl, hb5⟩; have hz5 := hb5.size; have d5_0_0 := keepC hb5 c2_0_0; have d5_0_1 := keepC hb5 c2_0_1; have d5_0_2 := keepC hb5 c2_0_2; have d5_0_3 := keepC hb5 c2_0_3; have d5_0_4 := keepC hb5 c2_0_4; have d5_0_5 := keepC hb5 c2_0_5; have d5_1_0 := keepC hb5 c2_1_0; have d5_1_1 := keepC hb5 c2_1_1; have d5_1_2 := keepC hb5 c2_1_2; have d5_1_3 := keepC hb5 c2_1_3; have d5_1_4 := keepC hb5 c2_1_4; have d5_1_5 := keepC hb5 c2_1_5)
  have hB5 : Below w.heap.size w w5 := by (repeat' (first | (with_reducible exact Below.refl _ _) | (with_reducible assumption) | (with_reducible refine Below.alloc ?_ ?_ _) | (with_reducible refine Below.drew ?_) | (with_reducible refine below_drewN ?_ _) | (with_reducible refine Below.setCell ?_ ?_ _) | (refine Below.step ?_ (by with_reducible assumption) ?_) | go_size))
  have hownb := hown2.below hb5
  have hownc := howna.below hb5
  obtain ⟨m, hm⟩ : ∃ m : Int, m = 101 + (((((cuR a0 ⟨a1_0, a1_1, a1_2, a1_3, a1_4, a1_5⟩ ⟨a2_0, a2_1, a2_2, a2_3, a2_4, a2_5⟩).1).length) * 1 : Nat) : Int) := ⟨_, rfl⟩
  have hm0 : 0 ≤ m := by omega
  have HM := Lib.hid hm; clear hm
  go_wp2_with (go_at_call 30; refine (markInt64S_m 2 v2 101 m ((cuR a0 ⟨a1_0, a1_1, a1_2, a1_3, a1_4, a1_5⟩ ⟨a2_0, a2_1, a2_2, a2_3, a2_4, a2_5⟩).1) _ _ hownb hlen.out (by omega) (by omega) HM).mono ?_; rintro e w6 ⟨rows', rfl, hl', hM, hown6, hgr⟩)
  have hl2 : Hid (rows'.length ≤ 1000000) := by show _ ≤ _; rw [hl'.out]; exact hlen.out
  have HM2 : Hid (m = 101 + ((rows'.length * 1 : Nat) : Int)) := by show _ = _; rw [hl'.out]; exact HM.out
  have MK := Lib.hid hM; clear hM
  have hB6 : Below w.heap.size w w6 := hownb.grownB hB5 hgr (by omega) (by omega)
  have hownd := hownc.grown hgr hap.out
  have c6_0_0 := hownb.cellFar hgr d5_0_0 (by omega)
  have c6_0_1 := hownb.cellFar hgr d5_0_1 (by omega)
  have c6_0_2 := hownb.cellFar hgr d5_0_2 (by omega)
  have c6_0_3 := hownb.cellFar hgr d5_0_3 (by omega)
  have c6_0_4 := hownb.cellFar hgr d5_0_4 (by omega)
  have c6_0_5 := hownb.cellFar hgr d5_0_5 (by omega)
  have c6_1_0 := hownb.cellFar hgr d5_1_0 (by omega)
  have c6_1_1 := hownb.cellFar hgr d5_1_1 (by omega)
  have c6_1_2 := hownb.cellFar hgr d5_1_2 (by omega)
  have c6_1_3 := hownb.cellFar hgr d5_1_3 (by omega)
  have c6_1_4 := hownb.cellFar hgr d5_1_4 (by omega)
  have c6_1_5 := hownb.cellFar hgr d5_1_5 (by omega)
  have hz6 : w5.heap.size ≤ w6.heap.size := hgr.size
  have hsz6 : w.heap.size + 1 + 1 ≤ w6.heap.size := by omega
  clear hown1 hown2 howna hownb hownc hap hgr c2_0_0 c2_0_1 c2_0_2 c2_0_3 c2_0_4 c2_0_5 c2_1_0 c2_1_1 c2_1_2 c2_1_3 c2_1_4 c2_1_5 d5_0_0 d5_0_1 d5_0_2 d5_0_3 d5_0_4 d5_0_5 d5_1_0 d5_1_1 d5_1_2 d5_1_3 d5_1_4 d5_1_5
  go_upto_region 13 with (go_at_call 31; refine (heldInt64S_m v2 101 m rows' _ hown6.sl MK.out hl2.out (by omega) (by omega) HM2).mono ?_; rintro e w' ⟨rfl, rfl⟩)
  go_cut [13, 14] (fun s13 s14 wx => ∃ v : Value, v = s13 ∧ s14 = .int .i64 ((cuR a0 ⟨a1_0, a1_1, a1_2, a1_3, a1_4, a1_5⟩ ⟨a2_0, a2_1, a2_2, a2_3, a2_4, a2_5⟩).2) ∧ OwnA 2 1 wx w6.heap.size v ((cuR a0 ⟨a1_0, a1_1, a1_2, a1_3, a1_4, a1_5⟩ ⟨a2_0, a2_1, a2_2, a2_3, a2_4, a2_5⟩).1) ∧ wx.cell? ⟨w.heap.size, 0, none⟩ = some (.int .i64 a1_0) ∧ wx.cell? ⟨w.heap.size, 1, none⟩ = some (.int .i64 a1_1) ∧ wx.cell? ⟨w.heap.size, 2, none⟩ = some (.int .i64 a1_2) ∧ wx.cell? ⟨w.heap.size, 3, none⟩ = some (.int .i64 a1_3) ∧ wx.cell? ⟨w.heap.size, 4, none⟩ = some (.int .i64 a1_4) ∧ wx.cell? ⟨w.heap.size, 5, none⟩ = some (.int .i64 a1_5) ∧ wx.cell? ⟨w.heap.size + 1, 0, none⟩ = some (.int .i64 a2_0) ∧ wx.cell? ⟨w.heap.size + 1, 1, none⟩ = some (.int .i64 a2_1) ∧ wx.cell? ⟨w.heap.size + 1, 2, none⟩ = some (.int .i64 a2_2) ∧ wx.cell? ⟨w.heap.size + 1, 3, none⟩ = some (.int .i64 a2_3) ∧ wx.cell? ⟨w.heap.size + 1, 4, none⟩ = some (.int .i64 a2_4) ∧ wx.cell? ⟨w.heap.size + 1, 5, none⟩ = some (.int .i64 a2_5) ∧ w.heap.size + 1 + 1 ≤ wx.heap.size ∧ Below w.heap.size w wx ∧ Below w6.heap.size w6 wx)
  case first =>
    go_region_held3 (fun w' => w'.cell? ⟨w.heap.size, 0, none⟩ = some (.int .i64 a1_0) ∧ w'.cell? ⟨w.heap.size, 1, none⟩ = some (.int .i64 a1_1) ∧ w'.cell? ⟨w.heap.size, 2, none⟩ = some (.int .i64 a1_2) ∧ w'.cell? ⟨w.heap.size, 3, none⟩ = some (.int .i64 a1_3) ∧ w'.cell? ⟨w.heap.size, 4, none⟩ = some (.int .i64 a1_4) ∧ w'.cell? ⟨w.heap.size, 5, none⟩ = some (.int .i64 a1_5) ∧ w'.cell? ⟨w.heap.size + 1, 0, none⟩ = some (.int .i64 a2_0) ∧ w'.cell? ⟨w.heap.size + 1, 1, none⟩ = some (.int .i64 a2_1) ∧ w'.cell? ⟨w.heap.size + 1, 2, none⟩ = some (.int .i64 a2_2) ∧ w'.cell? ⟨w.heap.size + 1, 3, none⟩ = some (.int .i64 a2_3) ∧ w'.cell? ⟨w.heap.size + 1, 4, none⟩ = some (.int .i64 a2_4) ∧ w'.cell? ⟨w.heap.size + 1, 5, none⟩ = some (.int .i64 a2_5) ∧ w.heap.size + 1 + 1 ≤ w'.heap.size ∧ Below w.heap.size w w' ∧ Below w6.heap.size w6 w')
      ((go_split_ands; (repeat (any_goals (with_reducible apply And.intro))) <;> (first
        | (with_reducible assumption)
        | (with_reducible exact keepC (by with_reducible assumption) (by with_reducible assumption))
        | (with_reducible exact keepA _ (by with_reducible assumption))
        | ((with_reducible apply keepA2); (with_reducible assumption); omega)
        | (with_reducible exact keepB (by with_reducible assumption) (by with_reducible assumption) (Nat.le_refl _))
        | (with_reducible exact allocB (by with_reducible assumption) (Nat.le_refl _) _)
        | ((with_reducible apply allocC (n := 1)); (with_reducible assumption); (with_reducible assumption))
        | ((with_reducible apply allocC3); (with_reducible assumption); (with_reducible assumption))
        | ((with_reducible apply allocC4); (with_reducible assumption); (with_reducible assumption))
        | (with_reducible exact sizeC (by with_reducible assumption) (by with_reducible assumption))
        | (with_reducible exact sizeA (by with_reducible assumption) _)
        | ((with_reducible apply sizeA2); (with_reducible assumption))
        | ((repeat (first | (with_reducible refine keepS2 ?_ (by omega)) | (with_reducible refine setB2 ?_ (by omega)) | (with_reducible refine sizeS ?_ _ _))); (with_reducible assumption))
        | (with_reducible exact keepD (keepA _ (by with_reducible assumption)))
        | (with_reducible exact Below.drew (allocB (by with_reducible assumption) (Nat.le_refl _) _))
        | (with_reducible exact sizeD (sizeA (by with_reducible assumption) _))
        | (go_cell) | (go_grown))))
      (first
        | (go_at_call_of 19 (Value.agg #[Value.int IntKind.i64 a1_0, Value.int IntKind.i64 a1_1, Value.int IntKind.i64 a1_2, Value.int IntKind.i64 a1_3, Value.int IntKind.i64 a1_4, Value.int IntKind.i64 a1_5]); refine (toConic_any _ _ _ _ _ _ _).mono ?_; rintro e wt1 ⟨rfl, hbt1⟩; have hs1 : w.heap.size + 1 + 1 ≤ wt1.heap.size := (by (go_split_ands; have hq := hbt1.size; (try simp only [World.size_alloc, World.size_setCell, World.size_drew] at hq); omega)))
        | (go_at_call_of 19 (Value.agg #[Value.int IntKind.i64 a2_0, Value.int IntKind.i64 a2_1, Value.int IntKind.i64 a2_2, Value.int IntKind.i64 a2_3, Value.int IntKind.i64 a2_4, Value.int IntKind.i64 a2_5]); refine (toConic_any _ _ _ _ _ _ _).mono ?_; rintro e wt2 ⟨rfl, hbt2⟩; have hs2 : w.heap.size + 1 + 1 ≤ wt2.heap.size := (by (go_split_ands; have hq := hbt2.size; (try simp only [World.size_alloc, World.size_setCell, World.size_drew] at hq); omega)))
        | (go_at_call 28; refine (PencilCubic_any _ _ _ _ _ _ _ _ _ _ _ _ _ _).mono ?_; rintro e wt9 ⟨vt, rfl, howt, hbt9⟩; go_split_ands; have howt := howt.base_le (show w6.heap.size ≤ _ from Below.size (by with_reducible assumption : Below w6.heap.size w6 _)); have hs9 : w.heap.size + 1 + 1 ≤ wt9.heap.size := (by have hq := hbt9.size; (try simp only [World.size_alloc, World.size_setCell, World.size_drew] at hq); omega)))
    all_goals (go_wp2_with fail; go_meet; go_split_ands; refine ⟨_, rfl, rfl, howt, ?_⟩; (repeat (any_goals (with_reducible apply And.intro))) <;> (first | (with_reducible assumption) | go_cell))
  case' rest => obtain ⟨v3, rfl, rfl, hown3, hcut⟩ := hcut
  go_upto_region 14 with fail
  refine wp_name (fun wx => OwnA 2 1 wx w6.heap.size v3 ((cuR a0 ⟨a1_0, a1_1, a1_2, a1_3, a1_4, a1_5⟩ ⟨a2_0, a2_1, a2_2, a2_3, a2_4, a2_5⟩).1) ∧ wx.cell? ⟨w.heap.size, 0, none⟩ = some (.int .i64 a1_0) ∧ wx.cell? ⟨w.heap.size, 1, none⟩ = some (.int .i64 a1_1) ∧ wx.cell? ⟨w.heap.size, 2, none⟩ = some (.int .i64 a1_2) ∧ wx.cell? ⟨w.heap.size, 3, none⟩ = some (.int .i64 a1_3) ∧ wx.cell? ⟨w.heap.size, 4, none⟩ = some (.int .i64 a1_4) ∧ wx.cell? ⟨w.heap.size, 5, none⟩ = some (.int .i64 a1_5) ∧ wx.cell? ⟨w.heap.size + 1, 0, none⟩ = some (.int .i64 a2_0) ∧ wx.cell? ⟨w.heap.size + 1, 1, none⟩ = some (.int .i64 a2_1) ∧ wx.cell? ⟨w.heap.size + 1, 2, none⟩ = some (.int .i64 a2_2) ∧ wx.cell? ⟨w.heap.size + 1, 3, none⟩ = some (.int .i64 a2_3) ∧ wx.cell? ⟨w.heap.size + 1, 4, none⟩ = some (.int .i64 a2_4) ∧ wx.cell? ⟨w.heap.size + 1, 5, none⟩ = some (.int .i64 a2_5) ∧ w.heap.size + 1 + 1 ≤ wx.heap.size ∧ Below w.heap.size w wx ∧ Below w6.heap.size w6 wx) ⟨hown3, hcut⟩ ?_
  rintro w3 ⟨hown3, hcut⟩
  have hsz3 : w.heap.size + 1 + 1 ≤ w3.heap.size := by go_split_ands; assumption
  have hB3 : Below w.heap.size w w3 := by go_split_ands; assumption
  have hbp3 : Below w6.heap.size w6 w3 := by go_split_ands; assumption
  have c3_0_0 : w3.cell? ⟨w.heap.size, 0, none⟩ = some (.int .i64 a1_0) := by go_split_ands; assumption
  have c3_0_1 : w3.cell? ⟨w.heap.size, 1, none⟩ = some (.int .i64 a1_1) := by go_split_ands; assumption
  have c3_0_2 : w3.cell? ⟨w.heap.size, 2, none⟩ = some (.int .i64 a1_2) := by go_split_ands; assumption
  have c3_0_3 : w3.cell? ⟨w.heap.size, 3, none⟩ = some (.int .i64 a1_3) := by go_split_ands; assumption
  have c3_0_4 : w3.cell? ⟨w.heap.size, 4, none⟩ = some (.int .i64 a1_4) := by go_split_ands; assumption
  have c3_0_5 : w3.cell? ⟨w.heap.size, 5, none⟩ = some (.int .i64 a1_5) := by go_split_ands; assumption
  have c3_1_0 : w3.cell? ⟨w.heap.size + 1, 0, none⟩ = some (.int .i64 a2_0) := by go_split_ands; assumption
  have c3_1_1 : w3.cell? ⟨w.heap.size + 1, 1, none⟩ = some (.int .i64 a2_1) := by go_split_ands; assumption
  have c3_1_2 : w3.cell? ⟨w.heap.size + 1, 2, none⟩ = some (.int .i64 a2_2) := by go_split_ands; assumption
  have c3_1_3 : w3.cell? ⟨w.heap.size + 1, 3, none⟩ = some (.int .i64 a2_3) := by go_split_ands; assumption
  have c3_1_4 : w3.cell? ⟨w.heap.size + 1, 4, none⟩ = some (.int .i64 a2_4) := by go_split_ands; assumption
  have c3_1_5 : w3.cell? ⟨w.heap.size + 1, 5, none⟩ = some (.int .i64 a2_5) := by go_split_ands; assumption
  clear hcut
  have hownf := hown6.below hbp3
  have howng := hownd.below hbp3
  clear c3_0_0 c3_0_1 c3_0_2 c3_0_3 c3_0_4 c3_0_5 c3_1_0 c3_1_1 c3_1_2 c3_1_3 c3_1_4 c3_1_5 c6_0_0 c6_0_1 c6_0_2 c6_0_3 c6_0_4 c6_0_5 c6_1_0 c6_1_1 c6_1_2 c6_1_3 c6_1_4 c6_1_5
  go_wp2_with (go_at_call 29; refine (eqInt64S_same v3 v1 ((cuR a0 ⟨a1_0, a1_1, a1_2, a1_3, a1_4, a1_5⟩ ⟨a2_0, a2_1, a2_2, a2_3, a2_4, a2_5⟩).1) _ hown3.sl howng.sl hlens.out hlen.out).mono ?_; rintro e w8 ⟨rfl, hb8⟩; have hz8 := hb8.size)
  have hownh := hownf.below hb8
  have hB8 : Below w.heap.size w w8 := by (repeat' (first | (with_reducible exact Below.refl _ _) | (with_reducible assumption) | (with_reducible refine Below.alloc ?_ ?_ _) | (with_reducible refine Below.drew ?_) | (with_reducible refine below_drewN ?_ _) | (with_reducible refine Below.setCell ?_ ?_ _) | (refine Below.step ?_ (by with_reducible assumption) ?_) | go_size))
  go_wp2_with (go_at_call 31; refine (heldInt64S_m v2 101 m rows' _ hownh.sl MK.out hl2.out (by omega) (by omega) HM2).mono ?_; rintro e w' ⟨rfl, rfl⟩)
  go_ret
  exact ⟨rfl, hB8⟩

namespace FnExactPencilCubic
theorem own : ownKnob Try.prog.godebug = none := by kernel_rfl
theorem laidOut : laidOutB Try.prog = true := by kernel_rfl
set_option maxRecDepth 100000 in
set_option linter.unusedVariables false in
theorem lifted (os : Os) (started : os.Started) (H : Type) (enc : TypeId × Value → H) :
    ReturnsInHanded {} Try.checked os 7 .any (Rows.fnExactPencilCubicSpec.pre6 enc Try.prog Try.f7 Rows.fnExactPencilCubicRow.domain false) (Rows.fnExactPencilCubicSpec.post enc Try.prog Try.f7 false true false false) := by
  refine returnsInHanded_of_change (C := Try.checked) own started (by kernel_rfl) Try.func7
    (ChangeSpec.witness6 (enc := enc) (C := Try.checked) false ⟨#[], #[.int .i64 0, .agg #[.int .i64 0, .int .i64 0, .int .i64 0, .int .i64 0, .int .i64 0, .int .i64 0], .agg #[.int .i64 0, .int .i64 0, .int .i64 0, .int .i64 0, .int .i64 0, .int .i64 0]], []⟩ 8 (by kernel_rfl) (by kernel_rfl) (by kernel_rfl) (by kernel_rfl)) ?_
  intro W base args ds gs before hval0 hW hcnd _
  have hval : ∀ (j : Nat) t v, Try.f7.params[j]? = some t → args[j]? = some v → Value.okWide Try.prog W .any base t v := hval0
  have hW' := hW
  obtain ⟨p, q, hA0, hV, rfl, hfz, hnd⟩ := hW
  have hA : DataW.TrodAll enc Try.prog W 0 (fun _ => true) true Try.f7.params.toList args.toList ds p := hA0
  rw [Try.params7] at hA hval
  obtain ⟨v0, vs0, d0, ds0, p0, q0, hargs, rfl, rfl, h0, r0⟩ := trodAll_cons hA
  obtain ⟨v1, vs1, d1, ds1, p1, q1, rfl, rfl, rfl, h1, r1⟩ := trodAll_cons r0
  obtain ⟨v2, vs2, d2, ds2, p2, q2, rfl, rfl, rfl, h2, r2⟩ := trodAll_cons r1
  obtain ⟨rfl, rfl, rfl⟩ := trodAll_nil r2
  obtain rfl : args = #[v0, v1, v2] := by cases args; simp_all
  obtain ⟨rfl, rfl⟩ := trodVars_none hV
  obtain ⟨a0, rfl, rfl, rfl, w0⟩ := open_int Try.underlying2 (hval 0 2 v0 rfl rfl) h0
  have k1 := h1
  have lt1 : ∀ x ∈ p1, x.block < W.heap.size := by obtain ⟨m, hm⟩ := k1; exact DataW.trod_lt m _ _ _ hm
  obtain ⟨xs1, hl1, rfl, w1⟩ := open_iarr Try.underlying23 Try.underlying2 (by kernel_rfl) (by kernel_rfl) (hval 1 23 v1 rfl rfl) h1
  obtain ⟨a1_0, a1_1, a1_2, a1_3, a1_4, a1_5, rfl⟩ : ∃ a1_0 a1_1 a1_2 a1_3 a1_4 a1_5 : Int, xs1 = [a1_0, a1_1, a1_2, a1_3, a1_4, a1_5] := len6 hl1
  have k2 := h2
  have lt2 : ∀ x ∈ p2, x.block < W.heap.size := by obtain ⟨m, hm⟩ := k2; exact DataW.trod_lt m _ _ _ hm
  obtain ⟨xs2, hl2, rfl, w2⟩ := open_iarr Try.underlying23 Try.underlying2 (by kernel_rfl) (by kernel_rfl) (hval 2 23 v2 rfl rfl) h2
  obtain ⟨a2_0, a2_1, a2_2, a2_3, a2_4, a2_5, rfl⟩ : ∃ a2_0 a2_1 a2_2 a2_3 a2_4 a2_5 : Int, xs2 = [a2_0, a2_1, a2_2, a2_3, a2_4, a2_5] := len6 hl2
  clear hA0 hval0
  refine (walk_FnExactPencilCubic a0 a1_0 a1_1 a1_2 a1_3 a1_4 a1_5 a2_0 a2_1 a2_2 a2_3 a2_4 a2_5 W w0 w1 w2).mono fun e W' ⟨he, bel⟩ => ?_
  subst he
  exact ⟨_, rfl, _, _, _, [], _, [], hW', trodAll_mk1 (shut_bool Try.underlying4 _), (trodAll_cons_mk (shut_int Try.underlying2 w0) (trodAll_cons_mk (Below.trod laidOut (by kernel_rfl) (of_decide_eq_true (by kernel_rfl)) k1 bel lt1) (trodAll_cons_mk (Below.trod laidOut (by kernel_rfl) (of_decide_eq_true (by kernel_rfl)) k2 bel lt2) trodAll_mk0))), rfl, bel.frame _, fun h => by cases h⟩
theorem over : Rows.fnExactPencilCubicRow.holds Try.pinned (OpenSpec.ofChange Rows.fnExactPencilCubicSpec) :=
  OpenClaim.holds_of_wide 7 Try.f7 rfl rfl rfl rfl rfl rfl rfl ⟨rfl, rfl, rfl, rfl, rfl⟩ rfl rfl rfl rfl rfl (by kernel_rfl) Try.func7 (by kernel_rfl)
    (of_decide_eq_true (by kernel_rfl)) (by unfold Func.isWrapper; first | (rw [if_pos (by decide +kernel)]; kernel_rfl) | (rw [if_neg (by decide +kernel)]; exact ⟨rfl, rfl⟩))
    (fun os started H enc _ => lifted os started H enc)
end FnExactPencilCubic
theorem FnExactPencilCubic_holds : Rows.FnExactPencilCubicSaid := FnExactPencilCubic.over
#print axioms FnExactPencilCubic_holds
end Go.Proofs.Ytemimkbngfbomaa
