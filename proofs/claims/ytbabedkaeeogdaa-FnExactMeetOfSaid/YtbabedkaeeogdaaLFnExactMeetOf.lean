/- FnExactMeetOf: the program's MeetOf returns what the reference's returns; no condition. -/
import Derived.Test.YtbabedkaeeogdaaRows
import Derived.Test.YtbabedkaeeogdaaB
import Derived.Test.YtbabedkaeeogdaaW2
import Derived.Test.YtbabedkaeeogdaaW8
import Derived.WalkSpells
import Derived.WalkLawsBesides
import Derived.Handy
import Derived.Test.YtbabedkaeeogdaaH
import Derived.Deep.RegionHeld3
import Derived.Deep.DeepCutAuto
namespace Go.Proofs.Ytbabedkaeeogdaa
open Go.ChangeShapes Go.WideShapes Go.ChangeAt Go.RowKit
set_option linter.unusedSimpArgs false
set_option linter.unusedVariables false

set_option maxHeartbeats 2000000 in
theorem walk_FnExactMeetOf (a0 : Int) (a1_0 a1_1 a1_2 : Int) (a2_0 a2_1 a2_2 : Int) (w : World) (w0 : (Lit.int .i64 a0).wf = true) (w1 : ∀ x ∈ [a1_0, a1_1, a1_2], (Lit.int .i64 x).wf = true) (w2 : ∀ x ∈ [a2_0, a2_1, a2_2], (Lit.int .i64 x).wf = true) :
    Calls Try.prog 6 #[.int .i64 a0, .agg #[.int .i64 a1_0, .int .i64 a1_1, .int .i64 a1_2], .agg #[.int .i64 a2_0, .int .i64 a2_1, .int .i64 a2_2]] w fun e w' => e = .returned (.bool true) ∧ Below w.heap.size w w' := by
  clear w0 w1 w2
  go_enter Try.func6, Try.ntmps6
  go_upto_region 1 with fail
  go_cut [7, 8] (fun s7 s8 wx => ∃ ga : Nat, s7 = .pointer (some ⟨ga, 0, none⟩) ∧ s8 = .int .i64 ((joinR a0 ⟨a1_0, a1_1, a1_2⟩ ⟨a2_0, a2_1, a2_2⟩).2) ∧ wx.cell? ⟨ga, 0, none⟩ = some (.int .i64 ((joinR a0 ⟨a1_0, a1_1, a1_2⟩ ⟨a2_0, a2_1, a2_2⟩).1.x)) ∧ wx.cell? ⟨ga, 1, none⟩ = some (.int .i64 ((joinR a0 ⟨a1_0, a1_1, a1_2⟩ ⟨a2_0, a2_1, a2_2⟩).1.y)) ∧ wx.cell? ⟨ga, 2, none⟩ = some (.int .i64 ((joinR a0 ⟨a1_0, a1_1, a1_2⟩ ⟨a2_0, a2_1, a2_2⟩).1.z)) ∧ wx.cell? ⟨w.heap.size, 0, none⟩ = some (.int .i64 a1_0) ∧ wx.cell? ⟨w.heap.size, 1, none⟩ = some (.int .i64 a1_1) ∧ wx.cell? ⟨w.heap.size, 2, none⟩ = some (.int .i64 a1_2) ∧ wx.cell? ⟨w.heap.size + 1, 0, none⟩ = some (.int .i64 a2_0) ∧ wx.cell? ⟨w.heap.size + 1, 1, none⟩ = some (.int .i64 a2_1) ∧ wx.cell? ⟨w.heap.size + 1, 2, none⟩ = some (.int .i64 a2_2) ∧ w.heap.size + 1 + 1 ≤ wx.heap.size ∧ Below w.heap.size w wx)
  case first =>
    go_region_held3 (fun w' => w'.cell? ⟨w.heap.size, 0, none⟩ = some (.int .i64 a1_0) ∧ w'.cell? ⟨w.heap.size, 1, none⟩ = some (.int .i64 a1_1) ∧ w'.cell? ⟨w.heap.size, 2, none⟩ = some (.int .i64 a1_2) ∧ w'.cell? ⟨w.heap.size + 1, 0, none⟩ = some (.int .i64 a2_0) ∧ w'.cell? ⟨w.heap.size + 1, 1, none⟩ = some (.int .i64 a2_1) ∧ w'.cell? ⟨w.heap.size + 1, 2, none⟩ = some (.int .i64 a2_2) ∧ w.heap.size + 1 + 1 ≤ w'.heap.size ∧ Below w.heap.size w w')
      ((go_split_ands; (repeat (any_goals (with_reducible apply And.intro))) <;> (first
        | (with_reducible assumption)
        | (with_reducible exact keepC (by with_reducible assumption) (by with_reducible assumption))
        | (with_reducible exact keepA _ (by with_reducible assumption))
        | ((with_reducible apply keepA2); (with_reducible assumption); omega)
        | (with_reducible exact keepB (by with_reducible assumption) (by with_reducible assumption) (Nat.le_refl _))
        | (with_reducible exact allocB (by with_reducible assumption) (Nat.le_refl _) _)
        | ((with_reducible apply allocC (n := 1)); (with_reducible assumption); (with_reducible assumption))
        | (with_reducible exact sizeC (by with_reducible assumption) (by with_reducible assumption))
        | (with_reducible exact sizeA (by with_reducible assumption) _)
        | ((with_reducible apply sizeA2); (with_reducible assumption))
        | ((repeat (first | (with_reducible refine keepS2 ?_ (by omega)) | (with_reducible refine setB2 ?_ (by omega)) | (with_reducible refine sizeS ?_ _ _))); (with_reducible assumption))
        | (with_reducible exact keepD (keepA _ (by with_reducible assumption)))
        | (with_reducible exact Below.drew (allocB (by with_reducible assumption) (Nat.le_refl _) _))
        | (with_reducible exact sizeD (sizeA (by with_reducible assumption) _))
        | (go_cell) | (go_grown))))
      (first
        | (go_at_call_of 28 (Value.agg #[Value.int IntKind.i64 a1_0, Value.int IntKind.i64 a1_1, Value.int IntKind.i64 a1_2]); refine (toLine_any _ _ _ _).mono ?_; rintro e w1 ⟨rfl, hb1⟩; obtain ⟨hc1, hf1⟩ := bcell hb1; have hz1 := hb1.size; (try simp only [World.size_alloc, World.size_setCell, World.size_drew] at hz1); (try (have hy1w0 : w.heap.size < w1.heap.size := by omega)); (try (have hy1w1 : w.heap.size + 1 < w1.heap.size := by omega)); (try (have hy1w2 : w.heap.size + 1 + 1 < w1.heap.size := by omega)); (try (have hy1w3 : w.heap.size + 1 + 1 + 1 < w1.heap.size := by omega)); (try (have hy1w4 : w.heap.size + 1 + 1 + 1 + 1 < w1.heap.size := by omega)); (try (have hy1wc0 : wc.heap.size < w1.heap.size := by omega)); (try (have hy1wc1 : wc.heap.size + 1 < w1.heap.size := by omega)); (try (have hy1wc2 : wc.heap.size + 1 + 1 < w1.heap.size := by omega)); (try (have hy1wc3 : wc.heap.size + 1 + 1 + 1 < w1.heap.size := by omega)); (try (have hy1wc4 : wc.heap.size + 1 + 1 + 1 + 1 < w1.heap.size := by omega)); have hs1 : w.heap.size + 1 + 1 ≤ w1.heap.size := (by (go_split_ands; omega)))
        | (go_at_call_of 28 (Value.agg #[Value.int IntKind.i64 a2_0, Value.int IntKind.i64 a2_1, Value.int IntKind.i64 a2_2]); refine (toLine_any _ _ _ _).mono ?_; rintro e w2 ⟨rfl, hb2⟩; obtain ⟨hc2, hf2⟩ := bcell hb2; have hz2 := hb2.size; (try simp only [World.size_alloc, World.size_setCell, World.size_drew] at hz2); (try (have hy2w0 : w.heap.size < w2.heap.size := by omega)); (try (have hy2w1 : w.heap.size + 1 < w2.heap.size := by omega)); (try (have hy2w2 : w.heap.size + 1 + 1 < w2.heap.size := by omega)); (try (have hy2w3 : w.heap.size + 1 + 1 + 1 < w2.heap.size := by omega)); (try (have hy2w4 : w.heap.size + 1 + 1 + 1 + 1 < w2.heap.size := by omega)); (try (have hy2wc0 : wc.heap.size < w2.heap.size := by omega)); (try (have hy2wc1 : wc.heap.size + 1 < w2.heap.size := by omega)); (try (have hy2wc2 : wc.heap.size + 1 + 1 < w2.heap.size := by omega)); (try (have hy2wc3 : wc.heap.size + 1 + 1 + 1 < w2.heap.size := by omega)); (try (have hy2wc4 : wc.heap.size + 1 + 1 + 1 + 1 < w2.heap.size := by omega)); (try (have hy2w10 : w1.heap.size < w2.heap.size := by omega)); (try (have hy2w11 : w1.heap.size + 1 < w2.heap.size := by omega)); (try (have hy2w12 : w1.heap.size + 1 + 1 < w2.heap.size := by omega)); (try (have hy2w13 : w1.heap.size + 1 + 1 + 1 < w2.heap.size := by omega)); (try (have hy2w14 : w1.heap.size + 1 + 1 + 1 + 1 < w2.heap.size := by omega)); have hs2 : w.heap.size + 1 + 1 ≤ w2.heap.size := (by (go_split_ands; omega)))
        | (go_at_call 27; refine (MeetOf_spec _ _ _ _ _ _ _ _).mono ?_; rintro e w3 ⟨rfl, hb3⟩; obtain ⟨hc3, hf3⟩ := bcell hb3; have hz3 := hb3.size; (try simp only [World.size_alloc, World.size_setCell, World.size_drew] at hz3); (try (have hy3w0 : w.heap.size < w3.heap.size := by omega)); (try (have hy3w1 : w.heap.size + 1 < w3.heap.size := by omega)); (try (have hy3w2 : w.heap.size + 1 + 1 < w3.heap.size := by omega)); (try (have hy3w3 : w.heap.size + 1 + 1 + 1 < w3.heap.size := by omega)); (try (have hy3w4 : w.heap.size + 1 + 1 + 1 + 1 < w3.heap.size := by omega)); (try (have hy3wc0 : wc.heap.size < w3.heap.size := by omega)); (try (have hy3wc1 : wc.heap.size + 1 < w3.heap.size := by omega)); (try (have hy3wc2 : wc.heap.size + 1 + 1 < w3.heap.size := by omega)); (try (have hy3wc3 : wc.heap.size + 1 + 1 + 1 < w3.heap.size := by omega)); (try (have hy3wc4 : wc.heap.size + 1 + 1 + 1 + 1 < w3.heap.size := by omega)); (try (have hy3w10 : w1.heap.size < w3.heap.size := by omega)); (try (have hy3w11 : w1.heap.size + 1 < w3.heap.size := by omega)); (try (have hy3w12 : w1.heap.size + 1 + 1 < w3.heap.size := by omega)); (try (have hy3w13 : w1.heap.size + 1 + 1 + 1 < w3.heap.size := by omega)); (try (have hy3w14 : w1.heap.size + 1 + 1 + 1 + 1 < w3.heap.size := by omega)); (try (have hy3w20 : w2.heap.size < w3.heap.size := by omega)); (try (have hy3w21 : w2.heap.size + 1 < w3.heap.size := by omega)); (try (have hy3w22 : w2.heap.size + 1 + 1 < w3.heap.size := by omega)); (try (have hy3w23 : w2.heap.size + 1 + 1 + 1 < w3.heap.size := by omega)); (try (have hy3w24 : w2.heap.size + 1 + 1 + 1 + 1 < w3.heap.size := by omega)); have hs3 : w.heap.size + 1 + 1 ≤ w3.heap.size := (by (go_split_ands; omega))))
    all_goals (go_wp2_with fail; go_meet; go_split_ands; refine ⟨_, rfl, rfl, ?_⟩; (repeat (any_goals (with_reducible apply And.intro))) <;> (first | (with_reducible assumption) | go_cell))
  case rest =>
    obtain ⟨ga, rfl, rfl, hg0, hg1, hg2, hcut⟩ := hcut
    have hga := World.block_lt_of_cell? _ _ hg0
    simp only at hga
    go_upto_region 2 with fail
    go_cut [9, 10] (fun s9 s10 wx => ∃ gb : Nat, s9 = .pointer (some ⟨gb, 0, none⟩) ∧ s10 = .int .i64 ((joinR a0 ⟨a1_0, a1_1, a1_2⟩ ⟨a2_0, a2_1, a2_2⟩).2) ∧ wx.cell? ⟨gb, 0, none⟩ = some (.int .i64 ((joinR a0 ⟨a1_0, a1_1, a1_2⟩ ⟨a2_0, a2_1, a2_2⟩).1.x)) ∧ wx.cell? ⟨gb, 1, none⟩ = some (.int .i64 ((joinR a0 ⟨a1_0, a1_1, a1_2⟩ ⟨a2_0, a2_1, a2_2⟩).1.y)) ∧ wx.cell? ⟨gb, 2, none⟩ = some (.int .i64 ((joinR a0 ⟨a1_0, a1_1, a1_2⟩ ⟨a2_0, a2_1, a2_2⟩).1.z)) ∧ wx.cell? ⟨w.heap.size, 0, none⟩ = some (.int .i64 a1_0) ∧ wx.cell? ⟨w.heap.size, 1, none⟩ = some (.int .i64 a1_1) ∧ wx.cell? ⟨w.heap.size, 2, none⟩ = some (.int .i64 a1_2) ∧ wx.cell? ⟨w.heap.size + 1, 0, none⟩ = some (.int .i64 a2_0) ∧ wx.cell? ⟨w.heap.size + 1, 1, none⟩ = some (.int .i64 a2_1) ∧ wx.cell? ⟨w.heap.size + 1, 2, none⟩ = some (.int .i64 a2_2) ∧ wx.cell? ⟨ga, 0, none⟩ = some (.int .i64 ((joinR a0 ⟨a1_0, a1_1, a1_2⟩ ⟨a2_0, a2_1, a2_2⟩).1.x)) ∧ wx.cell? ⟨ga, 1, none⟩ = some (.int .i64 ((joinR a0 ⟨a1_0, a1_1, a1_2⟩ ⟨a2_0, a2_1, a2_2⟩).1.y)) ∧ wx.cell? ⟨ga, 2, none⟩ = some (.int .i64 ((joinR a0 ⟨a1_0, a1_1, a1_2⟩ ⟨a2_0, a2_1, a2_2⟩).1.z)) ∧ w.heap.size + 1 + 1 ≤ wx.heap.size ∧ Below w.heap.size w wx)
    case first =>
      go_region_held3 (fun w' => w'.cell? ⟨w.heap.size, 0, none⟩ = some (.int .i64 a1_0) ∧ w'.cell? ⟨w.heap.size, 1, none⟩ = some (.int .i64 a1_1) ∧ w'.cell? ⟨w.heap.size, 2, none⟩ = some (.int .i64 a1_2) ∧ w'.cell? ⟨w.heap.size + 1, 0, none⟩ = some (.int .i64 a2_0) ∧ w'.cell? ⟨w.heap.size + 1, 1, none⟩ = some (.int .i64 a2_1) ∧ w'.cell? ⟨w.heap.size + 1, 2, none⟩ = some (.int .i64 a2_2) ∧ w'.cell? ⟨ga, 0, none⟩ = some (.int .i64 ((joinR a0 ⟨a1_0, a1_1, a1_2⟩ ⟨a2_0, a2_1, a2_2⟩).1.x)) ∧ w'.cell? ⟨ga, 1, none⟩ = some (.int .i64 ((joinR a0 ⟨a1_0, a1_1, a1_2⟩ ⟨a2_0, a2_1, a2_2⟩).1.y)) ∧ w'.cell? ⟨ga, 2, none⟩ = some (.int .i64 ((joinR a0 ⟨a1_0, a1_1, a1_2⟩ ⟨a2_0, a2_1, a2_2⟩).1.z)) ∧ w.heap.size + 1 + 1 ≤ w'.heap.size ∧ Below w.heap.size w w')
      ((go_split_ands; (repeat (any_goals (with_reducible apply And.intro))) <;> (first
        | (with_reducible assumption)
        | (with_reducible exact keepC (by with_reducible assumption) (by with_reducible assumption))
        | (with_reducible exact keepA _ (by with_reducible assumption))
        | ((with_reducible apply keepA2); (with_reducible assumption); omega)
        | (with_reducible exact keepB (by with_reducible assumption) (by with_reducible assumption) (Nat.le_refl _))
        | (with_reducible exact allocB (by with_reducible assumption) (Nat.le_refl _) _)
        | ((with_reducible apply allocC (n := 1)); (with_reducible assumption); (with_reducible assumption))
        | (with_reducible exact sizeC (by with_reducible assumption) (by with_reducible assumption))
        | (with_reducible exact sizeA (by with_reducible assumption) _)
        | ((with_reducible apply sizeA2); (with_reducible assumption))
        | ((repeat (first | (with_reducible refine keepS2 ?_ (by omega)) | (with_reducible refine setB2 ?_ (by omega)) | (with_reducible refine sizeS ?_ _ _))); (with_reducible assumption))
        | (with_reducible exact keepD (keepA _ (by with_reducible assumption)))
        | (with_reducible exact Below.drew (allocB (by with_reducible assumption) (Nat.le_refl _) _))
        | (with_reducible exact sizeD (sizeA (by with_reducible assumption) _))
        | (go_cell) | (go_grown))))
      (first
        | (go_at_call_of 28 (Value.agg #[Value.int IntKind.i64 a1_0, Value.int IntKind.i64 a1_1, Value.int IntKind.i64 a1_2]); refine (toLine_any _ _ _ _).mono ?_; rintro e w1 ⟨rfl, hb1⟩; obtain ⟨hc1, hf1⟩ := bcell hb1; have hz1 := hb1.size; (try simp only [World.size_alloc, World.size_setCell, World.size_drew] at hz1); (try (have hy1w0 : w.heap.size < w1.heap.size := by omega)); (try (have hy1w1 : w.heap.size + 1 < w1.heap.size := by omega)); (try (have hy1w2 : w.heap.size + 1 + 1 < w1.heap.size := by omega)); (try (have hy1w3 : w.heap.size + 1 + 1 + 1 < w1.heap.size := by omega)); (try (have hy1w4 : w.heap.size + 1 + 1 + 1 + 1 < w1.heap.size := by omega)); (try (have hy1wc0 : wc.heap.size < w1.heap.size := by omega)); (try (have hy1wc1 : wc.heap.size + 1 < w1.heap.size := by omega)); (try (have hy1wc2 : wc.heap.size + 1 + 1 < w1.heap.size := by omega)); (try (have hy1wc3 : wc.heap.size + 1 + 1 + 1 < w1.heap.size := by omega)); (try (have hy1wc4 : wc.heap.size + 1 + 1 + 1 + 1 < w1.heap.size := by omega)); have hs1 : w.heap.size + 1 + 1 ≤ w1.heap.size := (by (go_split_ands; omega)); have hga1 : ga < w1.heap.size := (by omega))
        | (go_at_call_of 28 (Value.agg #[Value.int IntKind.i64 a2_0, Value.int IntKind.i64 a2_1, Value.int IntKind.i64 a2_2]); refine (toLine_any _ _ _ _).mono ?_; rintro e w2 ⟨rfl, hb2⟩; obtain ⟨hc2, hf2⟩ := bcell hb2; have hz2 := hb2.size; (try simp only [World.size_alloc, World.size_setCell, World.size_drew] at hz2); (try (have hy2w0 : w.heap.size < w2.heap.size := by omega)); (try (have hy2w1 : w.heap.size + 1 < w2.heap.size := by omega)); (try (have hy2w2 : w.heap.size + 1 + 1 < w2.heap.size := by omega)); (try (have hy2w3 : w.heap.size + 1 + 1 + 1 < w2.heap.size := by omega)); (try (have hy2w4 : w.heap.size + 1 + 1 + 1 + 1 < w2.heap.size := by omega)); (try (have hy2wc0 : wc.heap.size < w2.heap.size := by omega)); (try (have hy2wc1 : wc.heap.size + 1 < w2.heap.size := by omega)); (try (have hy2wc2 : wc.heap.size + 1 + 1 < w2.heap.size := by omega)); (try (have hy2wc3 : wc.heap.size + 1 + 1 + 1 < w2.heap.size := by omega)); (try (have hy2wc4 : wc.heap.size + 1 + 1 + 1 + 1 < w2.heap.size := by omega)); (try (have hy2w10 : w1.heap.size < w2.heap.size := by omega)); (try (have hy2w11 : w1.heap.size + 1 < w2.heap.size := by omega)); (try (have hy2w12 : w1.heap.size + 1 + 1 < w2.heap.size := by omega)); (try (have hy2w13 : w1.heap.size + 1 + 1 + 1 < w2.heap.size := by omega)); (try (have hy2w14 : w1.heap.size + 1 + 1 + 1 + 1 < w2.heap.size := by omega)); have hs2 : w.heap.size + 1 + 1 ≤ w2.heap.size := (by (go_split_ands; omega)); have hga2 : ga < w2.heap.size := (by omega))
        | (go_at_call 29; refine (MeetOf_any _ _ _ _ _ _ _ _).mono ?_; rintro e w3 ⟨rfl, hb3⟩; obtain ⟨hc3, hf3⟩ := bcell hb3; have hz3 := hb3.size; (try simp only [World.size_alloc, World.size_setCell, World.size_drew] at hz3); (try (have hy3w0 : w.heap.size < w3.heap.size := by omega)); (try (have hy3w1 : w.heap.size + 1 < w3.heap.size := by omega)); (try (have hy3w2 : w.heap.size + 1 + 1 < w3.heap.size := by omega)); (try (have hy3w3 : w.heap.size + 1 + 1 + 1 < w3.heap.size := by omega)); (try (have hy3w4 : w.heap.size + 1 + 1 + 1 + 1 < w3.heap.size := by omega)); (try (have hy3wc0 : wc.heap.size < w3.heap.size := by omega)); (try (have hy3wc1 : wc.heap.size + 1 < w3.heap.size := by omega)); (try (have hy3wc2 : wc.heap.size + 1 + 1 < w3.heap.size := by omega)); (try (have hy3wc3 : wc.heap.size + 1 + 1 + 1 < w3.heap.size := by omega)); (try (have hy3wc4 : wc.heap.size + 1 + 1 + 1 + 1 < w3.heap.size := by omega)); (try (have hy3w10 : w1.heap.size < w3.heap.size := by omega)); (try (have hy3w11 : w1.heap.size + 1 < w3.heap.size := by omega)); (try (have hy3w12 : w1.heap.size + 1 + 1 < w3.heap.size := by omega)); (try (have hy3w13 : w1.heap.size + 1 + 1 + 1 < w3.heap.size := by omega)); (try (have hy3w14 : w1.heap.size + 1 + 1 + 1 + 1 < w3.heap.size := by omega)); (try (have hy3w20 : w2.heap.size < w3.heap.size := by omega)); (try (have hy3w21 : w2.heap.size + 1 < w3.heap.size := by omega)); (try (have hy3w22 : w2.heap.size + 1 + 1 < w3.heap.size := by omega)); (try (have hy3w23 : w2.heap.size + 1 + 1 + 1 < w3.heap.size := by omega)); (try (have hy3w24 : w2.heap.size + 1 + 1 + 1 + 1 < w3.heap.size := by omega)); have hs3 : w.heap.size + 1 + 1 ≤ w3.heap.size := (by (go_split_ands; omega)); have hga3 : ga < w3.heap.size := (by omega)))
      all_goals (go_wp2_with fail; go_meet; go_split_ands; refine ⟨_, rfl, rfl, ?_⟩; (repeat (any_goals (with_reducible apply And.intro))) <;> (first | (with_reducible assumption) | go_cell))
    case rest =>
      obtain ⟨gb, rfl, rfl, hh0, hh1, hh2, hcut⟩ := hcut
      go_split_ands
      go_wp2_with ((go_at_call 30; refine (eqPoint_same _ _ _ _).mono ?_; rintro e w9 ⟨rfl, hb9⟩; obtain ⟨hc9, hf9⟩ := bcell hb9; have hz9 := hb9.size; (try simp only [World.size_alloc, World.size_setCell, World.size_drew] at hz9); (try (have hy9w0 : w.heap.size < w9.heap.size := by omega)); (try (have hy9w1 : w.heap.size + 1 < w9.heap.size := by omega)); (try (have hy9w2 : w.heap.size + 1 + 1 < w9.heap.size := by omega)); (try (have hy9w3 : w.heap.size + 1 + 1 + 1 < w9.heap.size := by omega)); (try (have hy9w4 : w.heap.size + 1 + 1 + 1 + 1 < w9.heap.size := by omega)); (try (have hy9wc0 : wc.heap.size < w9.heap.size := by omega)); (try (have hy9wc1 : wc.heap.size + 1 < w9.heap.size := by omega)); (try (have hy9wc2 : wc.heap.size + 1 + 1 < w9.heap.size := by omega)); (try (have hy9wc3 : wc.heap.size + 1 + 1 + 1 < w9.heap.size := by omega)); (try (have hy9wc4 : wc.heap.size + 1 + 1 + 1 + 1 < w9.heap.size := by omega)); (try (have hy9w10 : w1.heap.size < w9.heap.size := by omega)); (try (have hy9w11 : w1.heap.size + 1 < w9.heap.size := by omega)); (try (have hy9w12 : w1.heap.size + 1 + 1 < w9.heap.size := by omega)); (try (have hy9w13 : w1.heap.size + 1 + 1 + 1 < w9.heap.size := by omega)); (try (have hy9w14 : w1.heap.size + 1 + 1 + 1 + 1 < w9.heap.size := by omega)); (try (have hy9w20 : w2.heap.size < w9.heap.size := by omega)); (try (have hy9w21 : w2.heap.size + 1 < w9.heap.size := by omega)); (try (have hy9w22 : w2.heap.size + 1 + 1 < w9.heap.size := by omega)); (try (have hy9w23 : w2.heap.size + 1 + 1 + 1 < w9.heap.size := by omega)); (try (have hy9w24 : w2.heap.size + 1 + 1 + 1 + 1 < w9.heap.size := by omega)); (try (have hy9w30 : w3.heap.size < w9.heap.size := by omega)); (try (have hy9w31 : w3.heap.size + 1 < w9.heap.size := by omega)); (try (have hy9w32 : w3.heap.size + 1 + 1 < w9.heap.size := by omega)); (try (have hy9w33 : w3.heap.size + 1 + 1 + 1 < w9.heap.size := by omega)); (try (have hy9w34 : w3.heap.size + 1 + 1 + 1 + 1 < w9.heap.size := by omega)); (try (have hy9w40 : w4.heap.size < w9.heap.size := by omega)); (try (have hy9w41 : w4.heap.size + 1 < w9.heap.size := by omega)); (try (have hy9w42 : w4.heap.size + 1 + 1 < w9.heap.size := by omega)); (try (have hy9w43 : w4.heap.size + 1 + 1 + 1 < w9.heap.size := by omega)); (try (have hy9w44 : w4.heap.size + 1 + 1 + 1 + 1 < w9.heap.size := by omega)); (try (have hy9w50 : w5.heap.size < w9.heap.size := by omega)); (try (have hy9w51 : w5.heap.size + 1 < w9.heap.size := by omega)); (try (have hy9w52 : w5.heap.size + 1 + 1 < w9.heap.size := by omega)); (try (have hy9w53 : w5.heap.size + 1 + 1 + 1 < w9.heap.size := by omega)); (try (have hy9w54 : w5.heap.size + 1 + 1 + 1 + 1 < w9.heap.size := by omega)); (try (have hy9w60 : w6.heap.size < w9.heap.size := by omega)); (try (have hy9w61 : w6.heap.size + 1 < w9.heap.size := by omega)); (try (have hy9w62 : w6.heap.size + 1 + 1 < w9.heap.size := by omega)); (try (have hy9w63 : w6.heap.size + 1 + 1 + 1 < w9.heap.size := by omega)); (try (have hy9w64 : w6.heap.size + 1 + 1 + 1 + 1 < w9.heap.size := by omega)); (try (have hy9w70 : w7.heap.size < w9.heap.size := by omega)); (try (have hy9w71 : w7.heap.size + 1 < w9.heap.size := by omega)); (try (have hy9w72 : w7.heap.size + 1 + 1 < w9.heap.size := by omega)); (try (have hy9w73 : w7.heap.size + 1 + 1 + 1 < w9.heap.size := by omega)); (try (have hy9w74 : w7.heap.size + 1 + 1 + 1 + 1 < w9.heap.size := by omega)); (try (have hy9w80 : w8.heap.size < w9.heap.size := by omega)); (try (have hy9w81 : w8.heap.size + 1 < w9.heap.size := by omega)); (try (have hy9w82 : w8.heap.size + 1 + 1 < w9.heap.size := by omega)); (try (have hy9w83 : w8.heap.size + 1 + 1 + 1 < w9.heap.size := by omega)); (try (have hy9w84 : w8.heap.size + 1 + 1 + 1 + 1 < w9.heap.size := by omega))))
      go_ret
      exact ⟨rfl, by (repeat' (first | (with_reducible exact Below.refl _ _) | (with_reducible assumption) | (with_reducible refine Below.alloc ?_ ?_ _) | (with_reducible refine Below.drew ?_) | (with_reducible refine below_drewN ?_ _) | (with_reducible refine Below.setCell ?_ ?_ _) | (refine Below.step ?_ (by with_reducible assumption) ?_) | go_size))⟩

namespace FnExactMeetOf
theorem own : ownKnob Try.prog.godebug = none := by kernel_rfl
theorem laidOut : laidOutB Try.prog = true := by kernel_rfl
set_option maxRecDepth 100000 in
set_option linter.unusedVariables false in
theorem lifted (os : Os) (started : os.Started) (H : Type) (enc : TypeId × Value → H) :
    ReturnsInHanded {} Try.checked os 6 .any (Rows.fnExactMeetOfSpec.pre6 enc Try.prog Try.f6 Rows.fnExactMeetOfRow.domain false) (Rows.fnExactMeetOfSpec.post enc Try.prog Try.f6 false true false false) := by
  refine returnsInHanded_of_change (C := Try.checked) own started (by kernel_rfl) Try.func6
    (ChangeSpec.witness6 (enc := enc) (C := Try.checked) false ⟨#[], #[.int .i64 0, .agg #[.int .i64 0, .int .i64 0, .int .i64 0], .agg #[.int .i64 0, .int .i64 0, .int .i64 0]], []⟩ 8 (by kernel_rfl) (by kernel_rfl) (by kernel_rfl) (by kernel_rfl)) ?_
  intro W base args ds gs before hval0 hW hcnd _
  have hval : ∀ (j : Nat) t v, Try.f6.params[j]? = some t → args[j]? = some v → Value.okWide Try.prog W .any base t v := hval0
  have hW' := hW
  obtain ⟨p, q, hA0, hV, rfl, hfz, hnd⟩ := hW
  have hA : DataW.TrodAll enc Try.prog W 0 (fun _ => true) true Try.f6.params.toList args.toList ds p := hA0
  rw [Try.params6] at hA hval
  obtain ⟨v0, vs0, d0, ds0, p0, q0, hargs, rfl, rfl, h0, r0⟩ := trodAll_cons hA
  obtain ⟨v1, vs1, d1, ds1, p1, q1, rfl, rfl, rfl, h1, r1⟩ := trodAll_cons r0
  obtain ⟨v2, vs2, d2, ds2, p2, q2, rfl, rfl, rfl, h2, r2⟩ := trodAll_cons r1
  obtain ⟨rfl, rfl, rfl⟩ := trodAll_nil r2
  obtain rfl : args = #[v0, v1, v2] := by cases args; simp_all
  obtain ⟨rfl, rfl⟩ := trodVars_none hV
  obtain ⟨a0, rfl, rfl, rfl, w0⟩ := open_int Try.underlying2 (hval 0 2 v0 rfl rfl) h0
  have k1 := h1
  have lt1 : ∀ x ∈ p1, x.block < W.heap.size := by obtain ⟨m, hm⟩ := k1; exact DataW.trod_lt m _ _ _ hm
  obtain ⟨xs1, hl1, rfl, w1⟩ := open_iarr Try.underlying31 Try.underlying2 (by kernel_rfl) (by kernel_rfl) (hval 1 31 v1 rfl rfl) h1
  obtain ⟨a1_0, a1_1, a1_2, rfl⟩ : ∃ a1_0 a1_1 a1_2 : Int, xs1 = [a1_0, a1_1, a1_2] := len3 hl1
  have k2 := h2
  have lt2 : ∀ x ∈ p2, x.block < W.heap.size := by obtain ⟨m, hm⟩ := k2; exact DataW.trod_lt m _ _ _ hm
  obtain ⟨xs2, hl2, rfl, w2⟩ := open_iarr Try.underlying31 Try.underlying2 (by kernel_rfl) (by kernel_rfl) (hval 2 31 v2 rfl rfl) h2
  obtain ⟨a2_0, a2_1, a2_2, rfl⟩ : ∃ a2_0 a2_1 a2_2 : Int, xs2 = [a2_0, a2_1, a2_2] := len3 hl2
  clear hA0 hval0
  refine (walk_FnExactMeetOf a0 a1_0 a1_1 a1_2 a2_0 a2_1 a2_2 W w0 w1 w2).mono fun e W' ⟨he, bel⟩ => ?_
  subst he
  exact ⟨_, rfl, _, _, _, [], _, [], hW', trodAll_mk1 (shut_bool Try.underlying4 _), (trodAll_cons_mk (shut_int Try.underlying2 w0) (trodAll_cons_mk (Below.trod laidOut (by kernel_rfl) (of_decide_eq_true (by kernel_rfl)) k1 bel lt1) (trodAll_cons_mk (Below.trod laidOut (by kernel_rfl) (of_decide_eq_true (by kernel_rfl)) k2 bel lt2) trodAll_mk0))), rfl, bel.frame _, fun h => by cases h⟩
theorem over : Rows.fnExactMeetOfRow.holds Try.pinned (OpenSpec.ofChange Rows.fnExactMeetOfSpec) :=
  OpenClaim.holds_of_wide 6 Try.f6 rfl rfl rfl rfl rfl rfl rfl ⟨rfl, rfl, rfl, rfl, rfl⟩ rfl rfl rfl rfl rfl (by kernel_rfl) Try.func6 (by kernel_rfl)
    (of_decide_eq_true (by kernel_rfl)) (by unfold Func.isWrapper; first | (rw [if_pos (by decide +kernel)]; kernel_rfl) | (rw [if_neg (by decide +kernel)]; exact ⟨rfl, rfl⟩))
    (fun os started H enc _ => lifted os started H enc)
end FnExactMeetOf
theorem FnExactMeetOf_holds : Rows.FnExactMeetOfSaid := FnExactMeetOf.over
#print axioms FnExactMeetOf_holds
end Go.Proofs.Ytbabedkaeeogdaa
