/- FnExactLineAtPlace: the program's LineAtPlace returns what the reference's returns; no condition. -/
import Derived.Test.YtjfabhkgmelmgaaRows
import Derived.Test.YtjfabhkgmelmgaaB
import Derived.Test.YtjfabhkgmelmgaaW2
import Derived.Test.YtjfabhkgmelmgaaW8
import Derived.Test.YtjfabhkgmelmgaaW88
import Derived.WalkSpells
import Derived.WalkLawsBesides
import Derived.Handy
import Derived.Test.YtjfabhkgmelmgaaH
import Derived.Deep.RegionHeld3
import Derived.Deep.DeepCutAuto
namespace Go.Proofs.Ytjfabhkgmelmgaa
open Go.ChangeShapes Go.WideShapes Go.ChangeAt Go.RowKit
set_option linter.unusedSimpArgs false
set_option linter.unusedVariables false

set_option maxHeartbeats 2000000 in
theorem walk_FnExactLineAtPlace (a0 : Int) (a1_0 a1_1 a1_2 : Int) (a2 : Int) (w : World) (w0 : (Lit.int .i64 a0).wf = true) (w1 : ∀ x ∈ [a1_0, a1_1, a1_2], (Lit.int .i64 x).wf = true) (w2 : (Lit.int .i64 a2).wf = true) :
    Calls Try.prog 8 #[.int .i64 a0, .agg #[.int .i64 a1_0, .int .i64 a1_1, .int .i64 a1_2], .int .i64 a2] w fun e w' => e = .returned (.bool true) ∧ Below w.heap.size w w' := by
  clear w0 w1 w2
  go_enter Try.func8, Try.ntmps8
  go_wp2_with ((go_at_call 39; refine (toPoint_any _ _ _ _).mono ?_; rintro e w1 ⟨rfl, hb1⟩; obtain ⟨hc1, hf1⟩ := bcell hb1; have hz1 := hb1.size; (try simp only [World.size_alloc, World.size_setCell, World.size_drew] at hz1); (try (have hy1w0 : w.heap.size < w1.heap.size := by omega)); (try (have hy1w1 : w.heap.size + 1 < w1.heap.size := by omega)); (try (have hy1w2 : w.heap.size + 1 + 1 < w1.heap.size := by omega)); (try (have hy1w3 : w.heap.size + 1 + 1 + 1 < w1.heap.size := by omega)); (try (have hy1w4 : w.heap.size + 1 + 1 + 1 + 1 < w1.heap.size := by omega))))
  go_wp2_with ((go_at_call 38; refine (LineAtPlace_spec _ _ _ _ _ _).mono ?_; rintro e w2 ⟨rfl, hb2⟩; obtain ⟨hc2, hf2⟩ := bcell hb2; have hz2 := hb2.size; (try simp only [World.size_alloc, World.size_setCell, World.size_drew] at hz2); (try (have hy2w0 : w.heap.size < w2.heap.size := by omega)); (try (have hy2w1 : w.heap.size + 1 < w2.heap.size := by omega)); (try (have hy2w2 : w.heap.size + 1 + 1 < w2.heap.size := by omega)); (try (have hy2w3 : w.heap.size + 1 + 1 + 1 < w2.heap.size := by omega)); (try (have hy2w4 : w.heap.size + 1 + 1 + 1 + 1 < w2.heap.size := by omega)); (try (have hy2w10 : w1.heap.size < w2.heap.size := by omega)); (try (have hy2w11 : w1.heap.size + 1 < w2.heap.size := by omega)); (try (have hy2w12 : w1.heap.size + 1 + 1 < w2.heap.size := by omega)); (try (have hy2w13 : w1.heap.size + 1 + 1 + 1 < w2.heap.size := by omega)); (try (have hy2w14 : w1.heap.size + 1 + 1 + 1 + 1 < w2.heap.size := by omega))))
  go_wp2_with ((go_at_call 39; refine (toPoint_any _ _ _ _).mono ?_; rintro e w3 ⟨rfl, hb3⟩; obtain ⟨hc3, hf3⟩ := bcell hb3; have hz3 := hb3.size; (try simp only [World.size_alloc, World.size_setCell, World.size_drew] at hz3); (try (have hy3w0 : w.heap.size < w3.heap.size := by omega)); (try (have hy3w1 : w.heap.size + 1 < w3.heap.size := by omega)); (try (have hy3w2 : w.heap.size + 1 + 1 < w3.heap.size := by omega)); (try (have hy3w3 : w.heap.size + 1 + 1 + 1 < w3.heap.size := by omega)); (try (have hy3w4 : w.heap.size + 1 + 1 + 1 + 1 < w3.heap.size := by omega)); (try (have hy3w10 : w1.heap.size < w3.heap.size := by omega)); (try (have hy3w11 : w1.heap.size + 1 < w3.heap.size := by omega)); (try (have hy3w12 : w1.heap.size + 1 + 1 < w3.heap.size := by omega)); (try (have hy3w13 : w1.heap.size + 1 + 1 + 1 < w3.heap.size := by omega)); (try (have hy3w14 : w1.heap.size + 1 + 1 + 1 + 1 < w3.heap.size := by omega)); (try (have hy3w20 : w2.heap.size < w3.heap.size := by omega)); (try (have hy3w21 : w2.heap.size + 1 < w3.heap.size := by omega)); (try (have hy3w22 : w2.heap.size + 1 + 1 < w3.heap.size := by omega)); (try (have hy3w23 : w2.heap.size + 1 + 1 + 1 < w3.heap.size := by omega)); (try (have hy3w24 : w2.heap.size + 1 + 1 + 1 + 1 < w3.heap.size := by omega))))
  go_wp2_with ((go_at_call 40; refine (LineAtPlace_any _ _ _ _ _ _).mono ?_; rintro e w4 ⟨rfl, hb4⟩; obtain ⟨hc4, hf4⟩ := bcell hb4; have hz4 := hb4.size; (try simp only [World.size_alloc, World.size_setCell, World.size_drew] at hz4); (try (have hy4w0 : w.heap.size < w4.heap.size := by omega)); (try (have hy4w1 : w.heap.size + 1 < w4.heap.size := by omega)); (try (have hy4w2 : w.heap.size + 1 + 1 < w4.heap.size := by omega)); (try (have hy4w3 : w.heap.size + 1 + 1 + 1 < w4.heap.size := by omega)); (try (have hy4w4 : w.heap.size + 1 + 1 + 1 + 1 < w4.heap.size := by omega)); (try (have hy4w10 : w1.heap.size < w4.heap.size := by omega)); (try (have hy4w11 : w1.heap.size + 1 < w4.heap.size := by omega)); (try (have hy4w12 : w1.heap.size + 1 + 1 < w4.heap.size := by omega)); (try (have hy4w13 : w1.heap.size + 1 + 1 + 1 < w4.heap.size := by omega)); (try (have hy4w14 : w1.heap.size + 1 + 1 + 1 + 1 < w4.heap.size := by omega)); (try (have hy4w20 : w2.heap.size < w4.heap.size := by omega)); (try (have hy4w21 : w2.heap.size + 1 < w4.heap.size := by omega)); (try (have hy4w22 : w2.heap.size + 1 + 1 < w4.heap.size := by omega)); (try (have hy4w23 : w2.heap.size + 1 + 1 + 1 < w4.heap.size := by omega)); (try (have hy4w24 : w2.heap.size + 1 + 1 + 1 + 1 < w4.heap.size := by omega)); (try (have hy4w30 : w3.heap.size < w4.heap.size := by omega)); (try (have hy4w31 : w3.heap.size + 1 < w4.heap.size := by omega)); (try (have hy4w32 : w3.heap.size + 1 + 1 < w4.heap.size := by omega)); (try (have hy4w33 : w3.heap.size + 1 + 1 + 1 < w4.heap.size := by omega)); (try (have hy4w34 : w3.heap.size + 1 + 1 + 1 + 1 < w4.heap.size := by omega))))
  go_wp2_with ((go_at_call 41; refine (eqLine_same _ _ _ _).mono ?_; rintro e w5 ⟨rfl, hb5⟩; obtain ⟨hc5, hf5⟩ := bcell hb5; have hz5 := hb5.size; (try simp only [World.size_alloc, World.size_setCell, World.size_drew] at hz5); (try (have hy5w0 : w.heap.size < w5.heap.size := by omega)); (try (have hy5w1 : w.heap.size + 1 < w5.heap.size := by omega)); (try (have hy5w2 : w.heap.size + 1 + 1 < w5.heap.size := by omega)); (try (have hy5w3 : w.heap.size + 1 + 1 + 1 < w5.heap.size := by omega)); (try (have hy5w4 : w.heap.size + 1 + 1 + 1 + 1 < w5.heap.size := by omega)); (try (have hy5w10 : w1.heap.size < w5.heap.size := by omega)); (try (have hy5w11 : w1.heap.size + 1 < w5.heap.size := by omega)); (try (have hy5w12 : w1.heap.size + 1 + 1 < w5.heap.size := by omega)); (try (have hy5w13 : w1.heap.size + 1 + 1 + 1 < w5.heap.size := by omega)); (try (have hy5w14 : w1.heap.size + 1 + 1 + 1 + 1 < w5.heap.size := by omega)); (try (have hy5w20 : w2.heap.size < w5.heap.size := by omega)); (try (have hy5w21 : w2.heap.size + 1 < w5.heap.size := by omega)); (try (have hy5w22 : w2.heap.size + 1 + 1 < w5.heap.size := by omega)); (try (have hy5w23 : w2.heap.size + 1 + 1 + 1 < w5.heap.size := by omega)); (try (have hy5w24 : w2.heap.size + 1 + 1 + 1 + 1 < w5.heap.size := by omega)); (try (have hy5w30 : w3.heap.size < w5.heap.size := by omega)); (try (have hy5w31 : w3.heap.size + 1 < w5.heap.size := by omega)); (try (have hy5w32 : w3.heap.size + 1 + 1 < w5.heap.size := by omega)); (try (have hy5w33 : w3.heap.size + 1 + 1 + 1 < w5.heap.size := by omega)); (try (have hy5w34 : w3.heap.size + 1 + 1 + 1 + 1 < w5.heap.size := by omega)); (try (have hy5w40 : w4.heap.size < w5.heap.size := by omega)); (try (have hy5w41 : w4.heap.size + 1 < w5.heap.size := by omega)); (try (have hy5w42 : w4.heap.size + 1 + 1 < w5.heap.size := by omega)); (try (have hy5w43 : w4.heap.size + 1 + 1 + 1 < w5.heap.size := by omega)); (try (have hy5w44 : w4.heap.size + 1 + 1 + 1 + 1 < w5.heap.size := by omega))))
  go_ret
  exact ⟨rfl, by (repeat' (first | (with_reducible exact Below.refl _ _) | (with_reducible assumption) | (with_reducible refine Below.alloc ?_ ?_ _) | (with_reducible refine Below.drew ?_) | (with_reducible refine below_drewN ?_ _) | (with_reducible refine Below.setCell ?_ ?_ _) | (refine Below.step ?_ (by with_reducible assumption) ?_) | go_size))⟩

namespace FnExactLineAtPlace
theorem own : ownKnob Try.prog.godebug = none := by kernel_rfl
theorem laidOut : laidOutB Try.prog = true := by kernel_rfl
set_option maxRecDepth 100000 in
set_option linter.unusedVariables false in
theorem lifted (os : Os) (started : os.Started) (H : Type) (enc : TypeId × Value → H) :
    ReturnsInHanded {} Try.checked os 8 .any (Rows.fnExactLineAtPlaceSpec.pre6 enc Try.prog Try.f8 Rows.fnExactLineAtPlaceRow.domain false) (Rows.fnExactLineAtPlaceSpec.post enc Try.prog Try.f8 false true false false) := by
  refine returnsInHanded_of_change (C := Try.checked) own started (by kernel_rfl) Try.func8
    (ChangeSpec.witness6 (enc := enc) (C := Try.checked) false ⟨#[], #[.int .i64 0, .agg #[.int .i64 0, .int .i64 0, .int .i64 0], .int .i64 0], []⟩ 8 (by kernel_rfl) (by kernel_rfl) (by kernel_rfl) (by kernel_rfl)) ?_
  intro W base args ds gs before hval0 hW hcnd _
  have hval : ∀ (j : Nat) t v, Try.f8.params[j]? = some t → args[j]? = some v → Value.okWide Try.prog W .any base t v := hval0
  have hW' := hW
  obtain ⟨p, q, hA0, hV, rfl, hfz, hnd⟩ := hW
  have hA : DataW.TrodAll enc Try.prog W 0 (fun _ => true) true Try.f8.params.toList args.toList ds p := hA0
  rw [Try.params8] at hA hval
  obtain ⟨v0, vs0, d0, ds0, p0, q0, hargs, rfl, rfl, h0, r0⟩ := trodAll_cons hA
  obtain ⟨v1, vs1, d1, ds1, p1, q1, rfl, rfl, rfl, h1, r1⟩ := trodAll_cons r0
  obtain ⟨v2, vs2, d2, ds2, p2, q2, rfl, rfl, rfl, h2, r2⟩ := trodAll_cons r1
  obtain ⟨rfl, rfl, rfl⟩ := trodAll_nil r2
  obtain rfl : args = #[v0, v1, v2] := by cases args; simp_all
  obtain ⟨rfl, rfl⟩ := trodVars_none hV
  obtain ⟨a0, rfl, rfl, rfl, w0⟩ := open_int Try.underlying2 (hval 0 2 v0 rfl rfl) h0
  have k1 := h1
  have lt1 : ∀ x ∈ p1, x.block < W.heap.size := by obtain ⟨m, hm⟩ := k1; exact DataW.trod_lt m _ _ _ hm
  obtain ⟨xs1, hl1, rfl, w1⟩ := open_iarr Try.underlying29 Try.underlying2 (by kernel_rfl) (by kernel_rfl) (hval 1 29 v1 rfl rfl) h1
  obtain ⟨a1_0, a1_1, a1_2, rfl⟩ : ∃ a1_0 a1_1 a1_2 : Int, xs1 = [a1_0, a1_1, a1_2] := len3 hl1
  obtain ⟨a2, rfl, rfl, rfl, w2⟩ := open_int Try.underlying2 (hval 2 2 v2 rfl rfl) h2
  clear hA0 hval0
  refine (walk_FnExactLineAtPlace a0 a1_0 a1_1 a1_2 a2 W w0 w1 w2).mono fun e W' ⟨he, bel⟩ => ?_
  subst he
  exact ⟨_, rfl, _, _, _, [], _, [], hW', trodAll_mk1 (shut_bool Try.underlying4 _), (trodAll_cons_mk (shut_int Try.underlying2 w0) (trodAll_cons_mk (Below.trod laidOut (by kernel_rfl) (of_decide_eq_true (by kernel_rfl)) k1 bel lt1) (trodAll_cons_mk (shut_int Try.underlying2 w2) trodAll_mk0))), rfl, bel.frame _, fun h => by cases h⟩
theorem over : Rows.fnExactLineAtPlaceRow.holds Try.pinned (OpenSpec.ofChange Rows.fnExactLineAtPlaceSpec) :=
  OpenClaim.holds_of_wide 8 Try.f8 rfl rfl rfl rfl rfl rfl rfl ⟨rfl, rfl, rfl, rfl, rfl⟩ rfl rfl rfl rfl rfl (by kernel_rfl) Try.func8 (by kernel_rfl)
    (of_decide_eq_true (by kernel_rfl)) (by unfold Func.isWrapper; first | (rw [if_pos (by decide +kernel)]; kernel_rfl) | (rw [if_neg (by decide +kernel)]; exact ⟨rfl, rfl⟩))
    (fun os started H enc _ => lifted os started H enc)
end FnExactLineAtPlace
theorem FnExactLineAtPlace_holds : Rows.FnExactLineAtPlaceSaid := FnExactLineAtPlace.over
#print axioms FnExactLineAtPlace_holds
end Go.Proofs.Ytjfabhkgmelmgaa
