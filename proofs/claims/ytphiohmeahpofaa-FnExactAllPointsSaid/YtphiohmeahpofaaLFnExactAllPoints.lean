/- FnExactAllPoints: the program's AllPoints returns what the reference's returns; no condition. -/
import Derived.Test.YtphiohmeahpofaaRows
import Derived.Test.YtphiohmeahpofaaB
import Derived.Test.YtphiohmeahpofaaW2
import Derived.Test.YtphiohmeahpofaaW13
import Derived.Test.YtphiohmeahpofaaW23
import Derived.WalkSpells
import Derived.WalkLawsBesides
import Derived.Handy
import Derived.Test.YtphiohmeahpofaaH
import Derived.Deep.RegionHeld3
import Derived.Deep.DeepCutAuto
namespace Go.Proofs.Ytphiohmeahpofaa
open Go.ChangeShapes Go.WideShapes Go.ChangeAt Go.RowKit
set_option linter.unusedSimpArgs false
set_option linter.unusedVariables false

set_option maxHeartbeats 2000000 in
theorem walk_FnExactAllPoints (a0 : Int) (w : World) (w0 : (Lit.int .i64 a0).wf = true) :
    Calls Try.prog 3 #[.int .i64 a0] w fun e w' => e = .returned (.bool true) ∧ Below w.heap.size w w' := by
  clear w0
  have hlen : Hid ((rowsP (allR a0).1).length ≤ 1000000) := allR_len a0
  have hlens := Lib.hid (rowsP_lens (allR a0).1)
  go_enter Try.func3, Try.ntmps3
  go_wp2_with (go_at_call 15; refine (AllPoints_spec _ _).mono ?_; rintro e w1 ⟨v1, rfl, hown1, hb1⟩; obtain ⟨hc1, hf1⟩ := bcell hb1; have hz1 := hb1.size; (try simp only [World.size_alloc, World.size_setCell, World.size_drew] at hz1); (try (have hy1w0 : w.heap.size < w1.heap.size := by omega)); (try (have hy1w1 : w.heap.size + 1 < w1.heap.size := by omega)); (try (have hy1w2 : w.heap.size + 1 + 1 < w1.heap.size := by omega)); (try (have hy1w3 : w.heap.size + 1 + 1 + 1 < w1.heap.size := by omega)); (try (have hy1w4 : w.heap.size + 1 + 1 + 1 + 1 < w1.heap.size := by omega)))
  have hs1 : w.heap.size ≤ w1.heap.size := by omega
  have hB1 : Below w.heap.size w w1 := by (repeat' (first | (with_reducible exact Below.refl _ _) | (with_reducible assumption) | (with_reducible refine Below.alloc ?_ ?_ _) | (with_reducible refine Below.drew ?_) | (with_reducible refine below_drewN ?_ _) | (with_reducible refine Below.setCell ?_ ?_ _) | (refine Below.step ?_ (by with_reducible assumption) ?_) | go_size))
  go_wp2_with (go_at_call 16; refine (AllPoints_any _ _).mono ?_; rintro e w2 ⟨v2, rfl, hown2, hb2⟩; obtain ⟨hc2, hf2⟩ := bcell hb2; have hz2 := hb2.size; (try simp only [World.size_alloc, World.size_setCell, World.size_drew] at hz2); (try (have hy2w0 : w.heap.size < w2.heap.size := by omega)); (try (have hy2w1 : w.heap.size + 1 < w2.heap.size := by omega)); (try (have hy2w2 : w.heap.size + 1 + 1 < w2.heap.size := by omega)); (try (have hy2w3 : w.heap.size + 1 + 1 + 1 < w2.heap.size := by omega)); (try (have hy2w4 : w.heap.size + 1 + 1 + 1 + 1 < w2.heap.size := by omega)); (try (have hy2w10 : w1.heap.size < w2.heap.size := by omega)); (try (have hy2w11 : w1.heap.size + 1 < w2.heap.size := by omega)); (try (have hy2w12 : w1.heap.size + 1 + 1 < w2.heap.size := by omega)); (try (have hy2w13 : w1.heap.size + 1 + 1 + 1 < w2.heap.size := by omega)); (try (have hy2w14 : w1.heap.size + 1 + 1 + 1 + 1 < w2.heap.size := by omega)))
  have hs2 : w.heap.size ≤ w2.heap.size := by omega
  have hB2 : Below w.heap.size w w2 := by (repeat' (first | (with_reducible exact Below.refl _ _) | (with_reducible assumption) | (with_reducible refine Below.alloc ?_ ?_ _) | (with_reducible refine Below.drew ?_) | (with_reducible refine below_drewN ?_ _) | (with_reducible refine Below.setCell ?_ ?_ _) | (refine Below.step ?_ (by with_reducible assumption) ?_) | go_size))
  have hba : Below w1.heap.size w1 w2 := by clear hB1 hB2; (repeat' (first | (with_reducible exact Below.refl _ _) | (with_reducible assumption) | (with_reducible refine Below.alloc ?_ ?_ _) | (with_reducible refine Below.drew ?_) | (with_reducible refine below_drewN ?_ _) | (with_reducible refine Below.setCell ?_ ?_ _) | (refine Below.step ?_ (by with_reducible assumption) ?_) | go_size))
  have hsa : w1.heap.size ≤ w1.heap.size := by omega
  have howna := hown1.below hba
  have hap := Lib.hid (hown1.apart2 hown2 hsa)
  go_wp2_with (go_at_call 17; refine (eqPointS_same v2 v1 (rowsP (allR a0).1) _ hown2.sl howna.sl hlens.out hlen.out).mono ?_; rintro e w3 ⟨rfl, hb3⟩; obtain ⟨hc3, hf3⟩ := bcell hb3; have hz3 := hb3.size; (try simp only [World.size_alloc, World.size_setCell, World.size_drew] at hz3); (try (have hy3w0 : w.heap.size < w3.heap.size := by omega)); (try (have hy3w1 : w.heap.size + 1 < w3.heap.size := by omega)); (try (have hy3w2 : w.heap.size + 1 + 1 < w3.heap.size := by omega)); (try (have hy3w3 : w.heap.size + 1 + 1 + 1 < w3.heap.size := by omega)); (try (have hy3w4 : w.heap.size + 1 + 1 + 1 + 1 < w3.heap.size := by omega)); (try (have hy3w10 : w1.heap.size < w3.heap.size := by omega)); (try (have hy3w11 : w1.heap.size + 1 < w3.heap.size := by omega)); (try (have hy3w12 : w1.heap.size + 1 + 1 < w3.heap.size := by omega)); (try (have hy3w13 : w1.heap.size + 1 + 1 + 1 < w3.heap.size := by omega)); (try (have hy3w14 : w1.heap.size + 1 + 1 + 1 + 1 < w3.heap.size := by omega)); (try (have hy3w20 : w2.heap.size < w3.heap.size := by omega)); (try (have hy3w21 : w2.heap.size + 1 < w3.heap.size := by omega)); (try (have hy3w22 : w2.heap.size + 1 + 1 < w3.heap.size := by omega)); (try (have hy3w23 : w2.heap.size + 1 + 1 + 1 < w3.heap.size := by omega)); (try (have hy3w24 : w2.heap.size + 1 + 1 + 1 + 1 < w3.heap.size := by omega)))
  have hB3 : Below w.heap.size w w3 := by (repeat' (first | (with_reducible exact Below.refl _ _) | (with_reducible assumption) | (with_reducible refine Below.alloc ?_ ?_ _) | (with_reducible refine Below.drew ?_) | (with_reducible refine below_drewN ?_ _) | (with_reducible refine Below.setCell ?_ ?_ _) | (refine Below.step ?_ (by with_reducible assumption) ?_) | go_size))
  have hownb := hown2.below hb3
  have hownc := howna.below hb3
  obtain ⟨m, hm⟩ : ∃ m : Int, m = 101 + ((((rowsP (allR a0).1).length) * 3 : Nat) : Int) := ⟨_, rfl⟩
  have hm0 : 0 ≤ m := by omega
  have HM := Lib.hid hm; clear hm
  go_wp2_with (go_at_call 18; refine (markPointS_m 30 v2 101 m (rowsP (allR a0).1) _ _ hownb hlen.out (by omega) (by omega) HM).mono ?_; rintro e w4 ⟨rows', rfl, hl', hM, hown4, hgr⟩)
  have hl2 : Hid (rows'.length ≤ 1000000) := by show _ ≤ _; rw [hl'.out]; exact hlen.out
  have HM2 : Hid (m = 101 + ((rows'.length * 3 : Nat) : Int)) := by show _ = _; rw [hl'.out]; exact HM.out
  have MK := Lib.hid hM; clear hM
  have hB4 : Below w.heap.size w w4 := hownb.grownB hB3 hgr (by omega) (by omega)
  have hownd := hownc.grown hgr hap.out
  have hz4 : w3.heap.size ≤ w4.heap.size := hgr.size
  clear hown1 hown2 howna hownb hownc hap hgr
  go_wp2_with (go_at_call 19; refine (heldPointS_m v2 101 m rows' _ hown4.sl MK.out hl2.out (by omega) (by omega) HM2).mono ?_; rintro e w' ⟨rfl, rfl⟩)
  go_wp2_with (go_at_call 16; refine (AllPoints_any _ _).mono ?_; rintro e w5 ⟨v5, rfl, hown5, hb5⟩; obtain ⟨hc5, hf5⟩ := bcell hb5; have hz5 := hb5.size; (try simp only [World.size_alloc, World.size_setCell, World.size_drew] at hz5); (try (have hy5w0 : w.heap.size < w5.heap.size := by omega)); (try (have hy5w1 : w.heap.size + 1 < w5.heap.size := by omega)); (try (have hy5w2 : w.heap.size + 1 + 1 < w5.heap.size := by omega)); (try (have hy5w3 : w.heap.size + 1 + 1 + 1 < w5.heap.size := by omega)); (try (have hy5w4 : w.heap.size + 1 + 1 + 1 + 1 < w5.heap.size := by omega)); (try (have hy5w10 : w1.heap.size < w5.heap.size := by omega)); (try (have hy5w11 : w1.heap.size + 1 < w5.heap.size := by omega)); (try (have hy5w12 : w1.heap.size + 1 + 1 < w5.heap.size := by omega)); (try (have hy5w13 : w1.heap.size + 1 + 1 + 1 < w5.heap.size := by omega)); (try (have hy5w14 : w1.heap.size + 1 + 1 + 1 + 1 < w5.heap.size := by omega)); (try (have hy5w20 : w2.heap.size < w5.heap.size := by omega)); (try (have hy5w21 : w2.heap.size + 1 < w5.heap.size := by omega)); (try (have hy5w22 : w2.heap.size + 1 + 1 < w5.heap.size := by omega)); (try (have hy5w23 : w2.heap.size + 1 + 1 + 1 < w5.heap.size := by omega)); (try (have hy5w24 : w2.heap.size + 1 + 1 + 1 + 1 < w5.heap.size := by omega)); (try (have hy5w30 : w3.heap.size < w5.heap.size := by omega)); (try (have hy5w31 : w3.heap.size + 1 < w5.heap.size := by omega)); (try (have hy5w32 : w3.heap.size + 1 + 1 < w5.heap.size := by omega)); (try (have hy5w33 : w3.heap.size + 1 + 1 + 1 < w5.heap.size := by omega)); (try (have hy5w34 : w3.heap.size + 1 + 1 + 1 + 1 < w5.heap.size := by omega)); (try (have hy5w40 : w4.heap.size < w5.heap.size := by omega)); (try (have hy5w41 : w4.heap.size + 1 < w5.heap.size := by omega)); (try (have hy5w42 : w4.heap.size + 1 + 1 < w5.heap.size := by omega)); (try (have hy5w43 : w4.heap.size + 1 + 1 + 1 < w5.heap.size := by omega)); (try (have hy5w44 : w4.heap.size + 1 + 1 + 1 + 1 < w5.heap.size := by omega)))
  have hs5 : w.heap.size ≤ w5.heap.size := by omega
  have hB5 : Below w.heap.size w w5 := by (repeat' (first | (with_reducible exact Below.refl _ _) | (with_reducible assumption) | (with_reducible refine Below.alloc ?_ ?_ _) | (with_reducible refine Below.drew ?_) | (with_reducible refine below_drewN ?_ _) | (with_reducible refine Below.setCell ?_ ?_ _) | (refine Below.step ?_ (by with_reducible assumption) ?_) | go_size))
  have hbm : Below w4.heap.size w4 w5 := by clear hB4 hB5; (repeat' (first | (with_reducible exact Below.refl _ _) | (with_reducible assumption) | (with_reducible refine Below.alloc ?_ ?_ _) | (with_reducible refine Below.drew ?_) | (with_reducible refine below_drewN ?_ _) | (with_reducible refine Below.setCell ?_ ?_ _) | (refine Below.step ?_ (by with_reducible assumption) ?_) | go_size))
  have hownf := hown4.below hbm
  have howng := hownd.below hbm
  go_wp2_with (go_at_call 17; refine (eqPointS_same v5 v1 (rowsP (allR a0).1) _ hown5.sl howng.sl hlens.out hlen.out).mono ?_; rintro e w6 ⟨rfl, hb6⟩; obtain ⟨hc6, hf6⟩ := bcell hb6; have hz6 := hb6.size; (try simp only [World.size_alloc, World.size_setCell, World.size_drew] at hz6); (try (have hy6w0 : w.heap.size < w6.heap.size := by omega)); (try (have hy6w1 : w.heap.size + 1 < w6.heap.size := by omega)); (try (have hy6w2 : w.heap.size + 1 + 1 < w6.heap.size := by omega)); (try (have hy6w3 : w.heap.size + 1 + 1 + 1 < w6.heap.size := by omega)); (try (have hy6w4 : w.heap.size + 1 + 1 + 1 + 1 < w6.heap.size := by omega)); (try (have hy6w10 : w1.heap.size < w6.heap.size := by omega)); (try (have hy6w11 : w1.heap.size + 1 < w6.heap.size := by omega)); (try (have hy6w12 : w1.heap.size + 1 + 1 < w6.heap.size := by omega)); (try (have hy6w13 : w1.heap.size + 1 + 1 + 1 < w6.heap.size := by omega)); (try (have hy6w14 : w1.heap.size + 1 + 1 + 1 + 1 < w6.heap.size := by omega)); (try (have hy6w20 : w2.heap.size < w6.heap.size := by omega)); (try (have hy6w21 : w2.heap.size + 1 < w6.heap.size := by omega)); (try (have hy6w22 : w2.heap.size + 1 + 1 < w6.heap.size := by omega)); (try (have hy6w23 : w2.heap.size + 1 + 1 + 1 < w6.heap.size := by omega)); (try (have hy6w24 : w2.heap.size + 1 + 1 + 1 + 1 < w6.heap.size := by omega)); (try (have hy6w30 : w3.heap.size < w6.heap.size := by omega)); (try (have hy6w31 : w3.heap.size + 1 < w6.heap.size := by omega)); (try (have hy6w32 : w3.heap.size + 1 + 1 < w6.heap.size := by omega)); (try (have hy6w33 : w3.heap.size + 1 + 1 + 1 < w6.heap.size := by omega)); (try (have hy6w34 : w3.heap.size + 1 + 1 + 1 + 1 < w6.heap.size := by omega)); (try (have hy6w40 : w4.heap.size < w6.heap.size := by omega)); (try (have hy6w41 : w4.heap.size + 1 < w6.heap.size := by omega)); (try (have hy6w42 : w4.heap.size + 1 + 1 < w6.heap.size := by omega)); (try (have hy6w43 : w4.heap.size + 1 + 1 + 1 < w6.heap.size := by omega)); (try (have hy6w44 : w4.heap.size + 1 + 1 + 1 + 1 < w6.heap.size := by omega)); (try (have hy6w50 : w5.heap.size < w6.heap.size := by omega)); (try (have hy6w51 : w5.heap.size + 1 < w6.heap.size := by omega)); (try (have hy6w52 : w5.heap.size + 1 + 1 < w6.heap.size := by omega)); (try (have hy6w53 : w5.heap.size + 1 + 1 + 1 < w6.heap.size := by omega)); (try (have hy6w54 : w5.heap.size + 1 + 1 + 1 + 1 < w6.heap.size := by omega)))
  have hownh := hownf.below hb6
  have hB6 : Below w.heap.size w w6 := by (repeat' (first | (with_reducible exact Below.refl _ _) | (with_reducible assumption) | (with_reducible refine Below.alloc ?_ ?_ _) | (with_reducible refine Below.drew ?_) | (with_reducible refine below_drewN ?_ _) | (with_reducible refine Below.setCell ?_ ?_ _) | (refine Below.step ?_ (by with_reducible assumption) ?_) | go_size))
  go_wp2_with (go_at_call 19; refine (heldPointS_m v2 101 m rows' _ hownh.sl MK.out hl2.out (by omega) (by omega) HM2).mono ?_; rintro e w' ⟨rfl, rfl⟩)
  go_ret
  exact ⟨rfl, hB6⟩

namespace FnExactAllPoints
theorem own : ownKnob Try.prog.godebug = none := by kernel_rfl
theorem laidOut : laidOutB Try.prog = true := by kernel_rfl
set_option maxRecDepth 100000 in
set_option linter.unusedVariables false in
theorem lifted (os : Os) (started : os.Started) (H : Type) (enc : TypeId × Value → H) :
    ReturnsInHanded {} Try.checked os 3 .any (Rows.fnExactAllPointsSpec.pre6 enc Try.prog Try.f3 Rows.fnExactAllPointsRow.domain false) (Rows.fnExactAllPointsSpec.post enc Try.prog Try.f3 false true false false) := by
  refine returnsInHanded_of_change (C := Try.checked) own started (by kernel_rfl) Try.func3
    (ChangeSpec.witness6 (enc := enc) (C := Try.checked) false ⟨#[], #[.int .i64 0], []⟩ 8 (by kernel_rfl) (by kernel_rfl) (by kernel_rfl) (by kernel_rfl)) ?_
  intro W base args ds gs before hval0 hW hcnd _
  have hval : ∀ (j : Nat) t v, Try.f3.params[j]? = some t → args[j]? = some v → Value.okWide Try.prog W .any base t v := hval0
  have hW' := hW
  obtain ⟨p, q, hA0, hV, rfl, hfz, hnd⟩ := hW
  have hA : DataW.TrodAll enc Try.prog W 0 (fun _ => true) true Try.f3.params.toList args.toList ds p := hA0
  rw [Try.params3] at hA hval
  obtain ⟨v0, vs0, d0, ds0, p0, q0, hargs, rfl, rfl, h0, r0⟩ := trodAll_cons hA
  obtain ⟨rfl, rfl, rfl⟩ := trodAll_nil r0
  obtain rfl : args = #[v0] := by cases args; simp_all
  obtain ⟨rfl, rfl⟩ := trodVars_none hV
  obtain ⟨a0, rfl, rfl, rfl, w0⟩ := open_int Try.underlying2 (hval 0 2 v0 rfl rfl) h0
  clear hA0 hval0
  refine (walk_FnExactAllPoints a0 W w0).mono fun e W' ⟨he, bel⟩ => ?_
  subst he
  exact ⟨_, rfl, _, _, _, [], _, [], hW', trodAll_mk1 (shut_bool Try.underlying4 _), (trodAll_cons_mk (shut_int Try.underlying2 w0) trodAll_mk0), rfl, bel.frame _, fun h => by cases h⟩
theorem over : Rows.fnExactAllPointsRow.holds Try.pinned (OpenSpec.ofChange Rows.fnExactAllPointsSpec) :=
  OpenClaim.holds_of_wide 3 Try.f3 rfl rfl rfl rfl rfl rfl rfl ⟨rfl, rfl, rfl, rfl, rfl⟩ rfl rfl rfl rfl rfl (by kernel_rfl) Try.func3 (by kernel_rfl)
    (of_decide_eq_true (by kernel_rfl)) (by unfold Func.isWrapper; first | (rw [if_pos (by decide +kernel)]; kernel_rfl) | (rw [if_neg (by decide +kernel)]; exact ⟨rfl, rfl⟩))
    (fun os started H enc _ => lifted os started H enc)
end FnExactAllPoints
theorem FnExactAllPoints_holds : Rows.FnExactAllPointsSaid := FnExactAllPoints.over
#print axioms FnExactAllPoints_holds
end Go.Proofs.Ytphiohmeahpofaa
