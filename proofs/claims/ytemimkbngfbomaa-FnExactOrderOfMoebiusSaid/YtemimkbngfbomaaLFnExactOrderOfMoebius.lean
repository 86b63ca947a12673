/- FnExactOrderOfMoebius: the program's OrderOfMoebius returns what the reference's returns; no condition. -/
import Derived.Test.YtemimkbngfbomaaRows
import Derived.Test.YtemimkbngfbomaaB
import Derived.Test.YtemimkbngfbomaaW2
import Derived.Test.YtemimkbngfbomaaW61
import Derived.WalkSpells
import Derived.WalkLawsBesides
import Derived.Handy
import Derived.Deep.RegionHeld3
namespace Go.Proofs.Ytemimkbngfbomaa
open Go.ChangeShapes Go.WideShapes Go.ChangeAt Go.RowKit
set_option linter.unusedSimpArgs false
set_option linter.unusedVariables false

set_option maxHeartbeats 400000 in
theorem walk_FnExactOrderOfMoebius (a0 : Int) (a1_0 a1_1 a1_2 a1_3 : Int) (w : World) (w0 : (Lit.int .i64 a0).wf = true) (w1 : ∀ x ∈ [a1_0, a1_1, a1_2, a1_3], (Lit.int .i64 x).wf = true) :
    Calls Try.prog 10 #[.int .i64 a0, .agg #[.int .i64 a1_0, .int .i64 a1_1, .int .i64 a1_2, .int .i64 a1_3]] w fun e w' => e = .returned (.bool true) ∧ Below w.heap.size w w' := by
  obtain ⟨n, hn1, hn⟩ := moOrd_ex a0 ⟨a1_0, a1_1, a1_2, a1_3⟩
  have HN := Lib.hid hn; clear hn
  go_enter Try.func10, Try.ntmps10
  go_wp2_with (first | (go_at_call 39; refine (toMoebius_any _ _ _ _ _).mono ?_; rintro e w1 ⟨rfl, hb1⟩; obtain ⟨hc1, hf1⟩ := bcell hb1; have hz1 := hb1.size; (try simp only [World.size_alloc, World.size_setCell, World.size_drew] at hz1); (try (have hy1w0 : w.heap.size < w1.heap.size := by omega)); (try (have hy1w1 : w.heap.size + 1 < w1.heap.size := by omega)); (try (have hy1w2 : w.heap.size + 1 + 1 < w1.heap.size := by omega)); (try (have hy1w3 : w.heap.size + 1 + 1 + 1 < w1.heap.size := by omega)); (try (have hy1w4 : w.heap.size + 1 + 1 + 1 + 1 < w1.heap.size := by omega))) | (go_at_call 38; refine (OrderOfMoebius_spec _ _ _ _ _ n _ HN.out).mono ?_; rintro e w2 ⟨rfl, hb2⟩; obtain ⟨hc2, hf2⟩ := bcell hb2; have hz2 := hb2.size; (try simp only [World.size_alloc, World.size_setCell, World.size_drew] at hz2); (try (have hy2w0 : w.heap.size < w2.heap.size := by omega)); (try (have hy2w1 : w.heap.size + 1 < w2.heap.size := by omega)); (try (have hy2w2 : w.heap.size + 1 + 1 < w2.heap.size := by omega)); (try (have hy2w3 : w.heap.size + 1 + 1 + 1 < w2.heap.size := by omega)); (try (have hy2w4 : w.heap.size + 1 + 1 + 1 + 1 < w2.heap.size := by omega)); (try (have hy2w10 : w1.heap.size < w2.heap.size := by omega)); (try (have hy2w11 : w1.heap.size + 1 < w2.heap.size := by omega)); (try (have hy2w12 : w1.heap.size + 1 + 1 < w2.heap.size := by omega)); (try (have hy2w13 : w1.heap.size + 1 + 1 + 1 < w2.heap.size := by omega)); (try (have hy2w14 : w1.heap.size + 1 + 1 + 1 + 1 < w2.heap.size := by omega))) | (go_at_call 40; refine (OrderOfMoebius_any _ _ _ _ _ n _ HN.out).mono ?_; rintro e w4 ⟨rfl, hb4⟩; obtain ⟨hc4, hf4⟩ := bcell hb4; have hz4 := hb4.size; (try simp only [World.size_alloc, World.size_setCell, World.size_drew] at hz4); (try (have hy4w0 : w.heap.size < w4.heap.size := by omega)); (try (have hy4w1 : w.heap.size + 1 < w4.heap.size := by omega)); (try (have hy4w2 : w.heap.size + 1 + 1 < w4.heap.size := by omega)); (try (have hy4w3 : w.heap.size + 1 + 1 + 1 < w4.heap.size := by omega)); (try (have hy4w4 : w.heap.size + 1 + 1 + 1 + 1 < w4.heap.size := by omega)); (try (have hy4w10 : w1.heap.size < w4.heap.size := by omega)); (try (have hy4w11 : w1.heap.size + 1 < w4.heap.size := by omega)); (try (have hy4w12 : w1.heap.size + 1 + 1 < w4.heap.size := by omega)); (try (have hy4w13 : w1.heap.size + 1 + 1 + 1 < w4.heap.size := by omega)); (try (have hy4w14 : w1.heap.size + 1 + 1 + 1 + 1 < w4.heap.size := by omega)); (try (have hy4w20 : w2.heap.size < w4.heap.size := by omega)); (try (have hy4w21 : w2.heap.size + 1 < w4.heap.size := by omega)); (try (have hy4w22 : w2.heap.size + 1 + 1 < w4.heap.size := by omega)); (try (have hy4w23 : w2.heap.size + 1 + 1 + 1 < w4.heap.size := by omega)); (try (have hy4w24 : w2.heap.size + 1 + 1 + 1 + 1 < w4.heap.size := by omega)); (try (have hy4w30 : w3.heap.size < w4.heap.size := by omega)); (try (have hy4w31 : w3.heap.size + 1 < w4.heap.size := by omega)); (try (have hy4w32 : w3.heap.size + 1 + 1 < w4.heap.size := by omega)); (try (have hy4w33 : w3.heap.size + 1 + 1 + 1 < w4.heap.size := by omega)); (try (have hy4w34 : w3.heap.size + 1 + 1 + 1 + 1 < w4.heap.size := by omega))))
  go_ret
  exact ⟨rfl, by (repeat' (first | (with_reducible exact Below.refl _ _) | (with_reducible assumption) | (with_reducible refine Below.alloc ?_ ?_ _) | (with_reducible refine Below.drew ?_) | (with_reducible refine below_drewN ?_ _) | (with_reducible refine Below.setCell ?_ ?_ _) | (refine Below.step ?_ (by with_reducible assumption) ?_) | go_size))⟩

namespace FnExactOrderOfMoebius
theorem own : ownKnob Try.prog.godebug = none := by kernel_rfl
theorem laidOut : laidOutB Try.prog = true := by kernel_rfl
set_option maxRecDepth 100000 in
set_option linter.unusedVariables false in
theorem lifted (os : Os) (started : os.Started) (H : Type) (enc : TypeId × Value → H) :
    ReturnsInHanded {} Try.checked os 10 .any (Rows.fnExactOrderOfMoebiusSpec.pre6 enc Try.prog Try.f10 Rows.fnExactOrderOfMoebiusRow.domain false) (Rows.fnExactOrderOfMoebiusSpec.post enc Try.prog Try.f10 false true false false) := by
  refine returnsInHanded_of_change (C := Try.checked) own started (by kernel_rfl) Try.func10
    (ChangeSpec.witness6 (enc := enc) (C := Try.checked) false ⟨#[], #[.int .i64 0, .agg #[.int .i64 0, .int .i64 0, .int .i64 0, .int .i64 0]], []⟩ 8 (by kernel_rfl) (by kernel_rfl) (by kernel_rfl) (by kernel_rfl)) ?_
  intro W base args ds gs before hval0 hW hcnd _
  have hval : ∀ (j : Nat) t v, Try.f10.params[j]? = some t → args[j]? = some v → Value.okWide Try.prog W .any base t v := hval0
  have hW' := hW
  obtain ⟨p, q, hA0, hV, rfl, hfz, hnd⟩ := hW
  have hA : DataW.TrodAll enc Try.prog W 0 (fun _ => true) true Try.f10.params.toList args.toList ds p := hA0
  rw [Try.params10] at hA hval
  obtain ⟨v0, vs0, d0, ds0, p0, q0, hargs, rfl, rfl, h0, r0⟩ := trodAll_cons hA
  obtain ⟨v1, vs1, d1, ds1, p1, q1, rfl, rfl, rfl, h1, r1⟩ := trodAll_cons r0
  obtain ⟨rfl, rfl, rfl⟩ := trodAll_nil r1
  obtain rfl : args = #[v0, v1] := by cases args; simp_all
  obtain ⟨rfl, rfl⟩ := trodVars_none hV
  obtain ⟨a0, rfl, rfl, rfl, w0⟩ := open_int Try.underlying2 (hval 0 2 v0 rfl rfl) h0
  have k1 := h1
  have lt1 : ∀ x ∈ p1, x.block < W.heap.size := by obtain ⟨m, hm⟩ := k1; exact DataW.trod_lt m _ _ _ hm
  obtain ⟨xs1, hl1, rfl, w1⟩ := open_iarr Try.underlying58 Try.underlying2 (by kernel_rfl) (by kernel_rfl) (hval 1 58 v1 rfl rfl) h1
  obtain ⟨a1_0, a1_1, a1_2, a1_3, rfl⟩ : ∃ a1_0 a1_1 a1_2 a1_3 : Int, xs1 = [a1_0, a1_1, a1_2, a1_3] := len4 hl1
  clear hA0 hval0
  refine (walk_FnExactOrderOfMoebius a0 a1_0 a1_1 a1_2 a1_3 W w0 w1).mono fun e W' ⟨he, bel⟩ => ?_
  subst he
  exact ⟨_, rfl, _, _, _, [], _, [], hW', trodAll_mk1 (shut_bool Try.underlying4 _), (trodAll_cons_mk (shut_int Try.underlying2 w0) (trodAll_cons_mk (Below.trod laidOut (by kernel_rfl) (of_decide_eq_true (by kernel_rfl)) k1 bel lt1) trodAll_mk0)), rfl, bel.frame _, fun h => by cases h⟩
theorem over : Rows.fnExactOrderOfMoebiusRow.holds Try.pinned (OpenSpec.ofChange Rows.fnExactOrderOfMoebiusSpec) :=
  OpenClaim.holds_of_wide 10 Try.f10 rfl rfl rfl rfl rfl rfl rfl ⟨rfl, rfl, rfl, rfl, rfl⟩ rfl rfl rfl rfl rfl (by kernel_rfl) Try.func10 (by kernel_rfl)
    (of_decide_eq_true (by kernel_rfl)) (by unfold Func.isWrapper; first | (rw [if_pos (by decide +kernel)]; kernel_rfl) | (rw [if_neg (by decide +kernel)]; exact ⟨rfl, rfl⟩))
    (fun os started H enc _ => lifted os started H enc)
end FnExactOrderOfMoebius
theorem FnExactOrderOfMoebius_holds : Rows.FnExactOrderOfMoebiusSaid := FnExactOrderOfMoebius.over
#print axioms FnExactOrderOfMoebius_holds
end Go.Proofs.Ytemimkbngfbomaa
