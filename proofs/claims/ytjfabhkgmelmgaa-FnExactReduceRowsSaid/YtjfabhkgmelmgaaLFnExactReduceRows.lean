/- FnExactReduceRows: the program's ReduceRows returns what the reference's returns, leaves its argument as it was, and shares no memory; no condition. -/
import Derived.Test.YtjfabhkgmelmgaaRows
import Derived.Test.YtjfabhkgmelmgaaB
import Derived.Test.YtjfabhkgmelmgaaW2
import Derived.Test.YtjfabhkgmelmgaaB3
import Derived.Test.YtjfabhkgmelmgaaI6
import Derived.Test.YtjfabhkgmelmgaaW84
import Derived.WalkSpells
import Derived.WalkLawsBesides
import Derived.Handy
import Derived.Test.YtjfabhkgmelmgaaH
import Derived.Deep.RegionHeld3
import Derived.Deep.DeepCutAuto
namespace Go.Proofs.Ytjfabhkgmelmgaa
open Go.ChangeShapes Go.WideShapes Go.ChangeAt Go.RowKit
set_option linter.unusedSimpArgs false
set_option linter.unusedVariables false

set_option maxHeartbeats 4000000 in
theorem walk_FnExactReduceRows (a0 : Int) (a1 : Int) (v2 : Value) (z2 : List (List Int)) (w : World) (w0 : (Lit.int .i64 a0).wf = true) (w1 : (Lit.int .i64 a1).wf = true) (w2 : SlSS w v2 z2 ∧ z2.length ≤ maxLen ∧ ∀ r ∈ z2, r.length ≤ maxLen) :
    Calls Try.prog 3 #[.int .i64 a0, .int .i64 a1, v2] w fun e w' => e = .returned (.bool true) ∧ Below w.heap.size w w' := by
  clear w0 w1
  obtain ⟨w1, hl1, hl2⟩ := w2
  have HS := Lib.hid w1
  obtain ⟨a, cap, hshape⟩ : ∃ a cap, v2 = .slice a z2.length cap := let ⟨a, cap, h, _⟩ := w1; ⟨a, cap, h⟩
  clear w1
  have HZ : Hid (∀ w' : World, Below w.heap.size w w' → Calls Try.prog 13 #[v2, .int .i64 1000000] w' fun e w'' => e = .returned (.int .i64 (szSS z2)) ∧ w' = w'') := fun w' hb => szInt64SS_any v2 z2 w' (HS.out.below hb) hl1 hl2
  clear hl1 hl2
  by_cases hm : szSS z2 < 0
  · subst hshape
    generalize szSS z2 = s at *
    clear HS
    go_enter Try.func3, Try.ntmps3
    go_wp2_with (go_at_call 13; refine (HZ.out _ (by (repeat' (first | (with_reducible exact Below.refl _ _) | (with_reducible assumption) | (with_reducible refine Below.alloc ?_ ?_ _) | (with_reducible refine Below.drew ?_) | (with_reducible refine below_drewN ?_ _) | (with_reducible refine Below.setCell ?_ ?_ _) | (refine Below.step ?_ (by with_reducible assumption) ?_) | go_size)))).mono ?_; rintro e w1 ⟨rfl, rfl⟩)
    go_ret
    exact ⟨rfl, by (repeat' (first | (with_reducible exact Below.refl _ _) | (with_reducible assumption) | (with_reducible refine Below.alloc ?_ ?_ _) | (with_reducible refine Below.drew ?_) | (with_reducible refine below_drewN ?_ _) | (with_reducible refine Below.setCell ?_ ?_ _) | (refine Below.step ?_ (by with_reducible assumption) ?_) | go_size))⟩
  · obtain ⟨hok1, hok2⟩ := szSS_ok (show 0 ≤ szSS z2 by omega)
    have HM1 := Lib.hid hok1; have HM2 := Lib.hid hok2
    clear hok1 hok2
    have HTO : Hid (∀ w' : World, Below w.heap.size w w' → Calls Try.prog 15 #[v2, .bool false] w' fun e w'' => ∃ v', e = .returned v' ∧ MadeSS false w'' w'.heap.size v' z2 ∧ Below w'.heap.size w' w'') := fun w' hb => (toInt64SS_row false v2 z2 w' (HS.out.below hb) HM1.out HM2.out).mono fun _ _ ⟨v', he, h1, h2, h3⟩ => ⟨v', he, h1 rfl, h3⟩
    have HTB : Hid (∀ w' : World, Below w.heap.size w w' → Calls Try.prog 15 #[v2, .bool true] w' fun e w'' => ∃ v', e = .returned v' ∧ SlSS w'' v' z2 ∧ Below w'.heap.size w' w'') := fun w' hb => (toInt64SS_row true v2 z2 w' (HS.out.below hb) HM1.out HM2.out).mono fun _ _ ⟨v', he, _, h2, h3⟩ => ⟨v', he, h2, h3⟩
    obtain ⟨hb1000, hb0⟩ := rrL_bd a0 a1 z2
    have HL1 := Lib.hid hb1000; have HL2 := Lib.hid hb0
    clear HS hb1000 hb0
    generalize szSS z2 = s at *
    subst hshape
    have HSP : Hid (∀ w' c, MadeSS false w' w.heap.size c z2 → Calls Try.prog 14 #[.int .i64 a0, .int .i64 a1, c] w' fun e w'' => ∃ v', e = .returned (.tuple #[v', .int .i64 (rrC a0 a1 z2)]) ∧ OwnSS w'' w'.heap.size v' (rrL a0 a1 z2) ∧ Below w'.heap.size w' w'') := fun w' c h => (by
      obtain ⟨g, cp, rfl, hg, hr⟩ := h.rowsP
      exact ReduceRows_spec a0 a1 g 0 cp z2 w' hr hg HM1.out HM2.out)
    have HIM : Hid (∀ w' c, SlSS w' c z2 → Calls Try.prog 16 #[.int .i64 a0, .int .i64 a1, c] w' fun e w'' => ∃ v', e = .returned (.tuple #[v', .int .i64 (rrC a0 a1 z2)]) ∧ RedV w'' w'.heap.size v' (rrL a0 a1 z2) ∧ Below w'.heap.size w' w'') := fun w' c h => ReduceRows_any a0 a1 c z2 w' h HM1.out HM2.out
    have HMK : Hid (∀ w0 w' c base, MadeSS false w0 base c z2 → Below w0.heap.size w0 w' → Calls Try.prog 19 #[c, .int .i64 101] w' fun e w'' => ∃ t : Int, 0 ≤ t ∧ e = .returned (.int .i64 t) ∧ Marked base w0.heap.size w' w'') := fun w0 w' c base h hb => markInt64SS_cp c z2 base w0 w' h hb HM1.out HM2.out
    have HIN : Hid (∀ w' x y bx bY, MadeSS false w' bx x z2 → MadeSS false w' bY y z2 → Calls Try.prog 18 #[x, y] w' fun e w'' => e = .returned (.bool true) ∧ Below w'.heap.size w' w'') := fun w' x y bx bY hx hy => intactInt64SS_same x y bx bY z2 w' hx hy HM1.out HM2.out
    generalize rrL a0 a1 z2 = L at *
    generalize rrC a0 a1 z2 = code at *
    go_enter Try.func3, Try.ntmps3
    go_wp2_with (first | (go_at_call 13; refine (HZ.out _ (by (repeat' (first | (with_reducible exact Below.refl _ _) | (with_reducible assumption) | (with_reducible refine Below.alloc ?_ ?_ _) | (with_reducible refine Below.drew ?_) | (with_reducible refine below_drewN ?_ _) | (with_reducible refine Below.setCell ?_ ?_ _) | (refine Below.step ?_ (by with_reducible assumption) ?_) | go_size)))).mono ?_; rintro e w1 ⟨rfl, rfl⟩) | (go_at_call 15; refine (HTO.out _ (Below.refl _ _)).mono ?_; rintro e w1 ⟨c1, rfl, kc1, hb1⟩))
    go_wp2_with (go_at_call 14; refine (HSP.out _ c1 kc1).mono ?_; rintro e w2 ⟨vs0, rfl, hown, hb2⟩)
    have hB2 : Below w.heap.size w w2 := keepB hb2 hb1 (Nat.le_refl _)
    clear kc1
    go_wp2_with (go_at_call 15; refine (HTO.out _ hB2).mono ?_; rintro e w3 ⟨c3, rfl, kc3, hb3⟩)
    have hB3 : Below w.heap.size w w3 := keepB hb3 hB2 (Nat.le_refl _)
    go_wp2_with (go_at_call 16; refine (HIM.out _ c3 kc3.sl).mono ?_; rintro e w4 ⟨g0, rfl, hred, hb4⟩)
    have hB4 : Below w.heap.size w w4 := keepB hb4 hB3 (Nat.le_refl _)
    have h24 : Below w2.heap.size w2 w4 := keepB hb4 hb3 (Nat.le_refl _)
    go_wp2_with (go_at_call 17; refine (eqInt64SS_red g0 vs0 L _ _ w4 hred (hown.below h24) HL1.out HL2.out).mono ?_; rintro e w5 ⟨rfl, hb5⟩)
    have hB5 : Below w.heap.size w w5 := keepB hb5 hB4 (Nat.le_refl _)
    have h25 : Below w2.heap.size w2 w5 := keepB hb5 h24 (Nat.le_refl _)
    have h35 : Below w3.heap.size w3 w5 := keepB hb5 hb4 (Nat.le_refl _)
    go_wp2_with (go_at_call 15; refine (HTO.out _ hB5).mono ?_; rintro e w6 ⟨c6, rfl, kc6, hb6⟩)
    have hB6 : Below w.heap.size w w6 := keepB hb6 hB5 (Nat.le_refl _)
    have h26 : Below w2.heap.size w2 w6 := keepB hb6 h25 (Nat.le_refl _)
    have h36 : Below w3.heap.size w3 w6 := keepB hb6 h35 (Nat.le_refl _)
    have h46 : Below w4.heap.size w4 w6 := keepB hb6 hb5 (Nat.le_refl _)
    go_wp2_with (go_at_call 18; refine (HIN.out _ c3 c6 _ _ (kc3.below h36) kc6).mono ?_; rintro e w7 ⟨rfl, hb7⟩)
    have hB7 : Below w.heap.size w w7 := keepB hb7 hB6 (Nat.le_refl _)
    have h27 : Below w2.heap.size w2 w7 := keepB hb7 h26 (Nat.le_refl _)
    have h37 : Below w3.heap.size w3 w7 := keepB hb7 h36 (Nat.le_refl _)
    have h47 : Below w4.heap.size w4 w7 := keepB hb7 h46 (Nat.le_refl _)
    go_wp2_with (go_at_call 19; refine (HMK.out w3 w7 c3 _ kc3 h37).mono ?_; rintro e w8 ⟨t8, ht8, rfl, hm8⟩)
    have hB8 : Below w.heap.size w w8 := hm8.1 _ _ hB2.size hB7
    have h28 : Below w2.heap.size w2 w8 := hm8.1 _ _ (Nat.le_refl _) h27
    have hred8 := (hred.below h47).marked hm8 (Nat.le_refl _)
    have ht8' : ¬ t8 < 0 := by omega
    clear hm8
    go_wp2_with (go_at_call 17; refine (eqInt64SS_red g0 vs0 L _ _ w8 hred8 (hown.below h28) HL1.out HL2.out).mono ?_; rintro e w9 ⟨rfl, hb9⟩)
    have hB9 : Below w.heap.size w w9 := keepB hb9 hB8 (Nat.le_refl _)
    have h29 : Below w2.heap.size w2 w9 := keepB hb9 h28 (Nat.le_refl _)
    go_wp2_with (go_at_call 19; refine (markRed g0 L _ w9 (hred8.below hb9) HL1.out HL2.out).mono ?_; rintro e w10 ⟨t, ht, rfl, hhd, hK⟩)
    have hB10 : Below w.heap.size w w10 := hK _ _ hB3.size hB9
    have h210 : Below w2.heap.size w2 w10 := hK _ _ hb3.size h29
    have ht' : ¬ t < 0 := by omega
    clear hK
    go_wp2_with (go_at_call 20; refine (heldRed g0 t _ w10 hhd).mono ?_; rintro e w11 ⟨rfl, rfl⟩)
    go_wp2_with (go_at_call 15; refine (HTB.out _ hB10).mono ?_; rintro e w12 ⟨c12, rfl, kc12, hb12⟩)
    have hB12 : Below w.heap.size w w12 := keepB hb12 hB10 (Nat.le_refl _)
    have h212 : Below w2.heap.size w2 w12 := keepB hb12 h210 (Nat.le_refl _)
    go_wp2_with (go_at_call 16; refine (HIM.out _ c12 kc12).mono ?_; rintro e w13 ⟨h0, rfl, hred13, hb13⟩)
    have hB13 : Below w.heap.size w w13 := keepB hb13 hB12 (Nat.le_refl _)
    have h213 : Below w2.heap.size w2 w13 := keepB hb13 h212 (Nat.le_refl _)
    go_wp2_with (go_at_call 17; refine (eqInt64SS_red h0 vs0 L _ _ w13 hred13 (hown.below h213) HL1.out HL2.out).mono ?_; rintro e w14 ⟨rfl, hb14⟩)
    have hB14 : Below w.heap.size w w14 := keepB hb14 hB13 (Nat.le_refl _)
    have h1014 : Below w10.heap.size w10 w14 := keepB hb14 (keepB hb13 hb12 (Nat.le_refl _)) (Nat.le_refl _)
    go_wp2_with (go_at_call 20; refine (heldRed g0 t _ w14 (hhd.below h1014)).mono ?_; rintro e w15 ⟨rfl, rfl⟩)
    go_ret
    exact ⟨rfl, hB14⟩

namespace FnExactReduceRows
theorem own : ownKnob Try.prog.godebug = none := by kernel_rfl
theorem laidOut : laidOutB Try.prog = true := by kernel_rfl
set_option maxRecDepth 100000 in
set_option linter.unusedVariables false in
theorem lifted (os : Os) (started : os.Started) (H : Type) (enc : TypeId × Value → H) :
    ReturnsInHanded {} Try.checked os 3 .any (Rows.fnExactReduceRowsSpec.pre6 enc Try.prog Try.f3 Rows.fnExactReduceRowsRow.domain false) (Rows.fnExactReduceRowsSpec.post enc Try.prog Try.f3 false true false false) := by
  refine returnsInHanded_of_change (C := Try.checked) own started (by kernel_rfl) Try.func3
    (ChangeSpec.witness6 (enc := enc) (C := Try.checked) false ⟨#[], #[.int .i64 0, .int .i64 0, .slice none 0 0], []⟩ 8 (by kernel_rfl) (by kernel_rfl) (by kernel_rfl) (by kernel_rfl)) ?_
  intro W base args ds gs before hval0 hW hcnd _
  have hval : ∀ (j : Nat) t v, Try.f3.params[j]? = some t → args[j]? = some v → Value.okWide Try.prog W .any base t v := hval0
  have hW' := hW
  obtain ⟨p, q, hA0, hV, rfl, hfz, hnd⟩ := hW
  have hA : DataW.TrodAll enc Try.prog W 0 (fun _ => true) true Try.f3.params.toList args.toList ds p := hA0
  rw [Try.params3] at hA hval
  obtain ⟨v0, vs0, d0, ds0, p0, q0, hargs, rfl, rfl, h0, r0⟩ := trodAll_cons hA
  obtain ⟨v1, vs1, d1, ds1, p1, q1, rfl, rfl, rfl, h1, r1⟩ := trodAll_cons r0
  obtain ⟨v2, vs2, d2, ds2, p2, q2, rfl, rfl, rfl, h2, r2⟩ := trodAll_cons r1
  obtain ⟨rfl, rfl, rfl⟩ := trodAll_nil r2
  obtain rfl : args = #[v0, v1, v2] := by cases args; simp_all
  obtain ⟨rfl, rfl⟩ := trodVars_none hV
  obtain ⟨a0, rfl, rfl, rfl, w0⟩ := open_int Try.underlying2 (hval 0 2 v0 rfl rfl) h0
  obtain ⟨a1, rfl, rfl, rfl, w1⟩ := open_int Try.underlying2 (hval 1 2 v1 rfl rfl) h1
  have k2 := h2
  have lt2 : ∀ x ∈ p2, x.block < W.heap.size := by obtain ⟨m, hm⟩ := k2; exact DataW.trod_lt m _ _ _ hm
  obtain ⟨z2, w2⟩ := open_isslice Try.underlying22 Try.underlying80 Try.underlying2 (by kernel_rfl) (by kernel_rfl) (okWide_slice Try.underlying22 (hval 2 22 v2 rfl rfl)) h2
  clear hA0 hval0
  refine (walk_FnExactReduceRows a0 a1 v2 z2 W w0 w1 w2).mono fun e W' ⟨he, bel⟩ => ?_
  subst he
  exact ⟨_, rfl, _, _, _, [], _, [], hW', trodAll_mk1 (shut_bool Try.underlying4 _), (trodAll_cons_mk (shut_int Try.underlying2 w0) (trodAll_cons_mk (shut_int Try.underlying2 w1) (trodAll_cons_mk (Below.trod laidOut (by kernel_rfl) (of_decide_eq_true (by kernel_rfl)) k2 bel lt2) trodAll_mk0))), rfl, bel.frame _, fun h => by cases h⟩
theorem over : Rows.fnExactReduceRowsRow.holds Try.pinned (OpenSpec.ofChange Rows.fnExactReduceRowsSpec) :=
  OpenClaim.holds_of_wide 3 Try.f3 rfl rfl rfl rfl rfl rfl rfl ⟨rfl, rfl, rfl, rfl, rfl⟩ rfl rfl rfl rfl rfl (by kernel_rfl) Try.func3 (by kernel_rfl)
    (of_decide_eq_true (by kernel_rfl)) (by unfold Func.isWrapper; first | (rw [if_pos (by decide +kernel)]; kernel_rfl) | (rw [if_neg (by decide +kernel)]; exact ⟨rfl, rfl⟩))
    (fun os started H enc _ => lifted os started H enc)
end FnExactReduceRows
theorem FnExactReduceRows_holds : Rows.FnExactReduceRowsSaid := FnExactReduceRows.over
#print axioms FnExactReduceRows_holds
end Go.Proofs.Ytjfabhkgmelmgaa
