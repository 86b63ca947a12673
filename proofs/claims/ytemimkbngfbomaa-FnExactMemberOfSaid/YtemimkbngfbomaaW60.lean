/- MemberOf: what the two functions return; no condition. -/
import Derived.Test.YtemimkbngfbomaaW59
namespace Go.Proofs.Ytemimkbngfbomaa
open Go.RowKit
set_option linter.unusedSimpArgs false
set_option linter.unusedVariables false
set_option maxRecDepth 100000

def mbR (p : Int) (c d : C6) (s t : Int) : C6 × Int :=
  if coCode p true [c, d] = 0 then (if (inB s 0 (p - 1) && inB t 0 (p - 1)) = true then (if c = d ∨ (s = 0 ∧ t = 0) then (⟨0, 0, 0, 0, 0, 0⟩, 5) else (mbV p c d s t, 0)) else (⟨0, 0, 0, 0, 0, 0⟩, 2)) else (⟨0, 0, 0, 0, 0, 0⟩, coCode p true [c, d])
theorem rdI2 {w : World} {b off : Nat} {x0 x1 : Int} (h0 : w.cell? ⟨b, off, none⟩ = some (.int .i64 x0)) (h1 : w.cell? ⟨b, off + 1, none⟩ = some (.int .i64 x1)) : Rd w b off [x0, x1] := by
  intro i x hx
  match i, hx with
  | 0, hx => simp at hx; subst hx; exact h0
  | 1, hx => simp at hx; subst hx; exact h1
  | i + 2, hx => simp at hx
theorem inB_sm {p x : Int} (hp : isP p = true) (h : inB x 0 (p - 1) = true) : sm x := by
  have := isP_hi hp
  have := inB_iff.1 h
  exact ⟨this.1, by omega⟩
set_option maxHeartbeats 4000000 in
theorem MemberOf_any (p c0 c1 c2 c3 c4 c5 d0 d1 d2 d3 d4 d5 s t : Int) (w : World) :
    Calls Try.prog 26 #[.int .i64 p, .agg #[.int .i64 c0, .int .i64 c1, .int .i64 c2, .int .i64 c3, .int .i64 c4, .int .i64 c5], .agg #[.int .i64 d0, .int .i64 d1, .int .i64 d2, .int .i64 d3, .int .i64 d4, .int .i64 d5], .int .i64 s, .int .i64 t] w fun e w' => e = .returned (.tuple #[.agg #[.int .i64 ((mbR p ⟨c0, c1, c2, c3, c4, c5⟩ ⟨d0, d1, d2, d3, d4, d5⟩ s t).1).c0, .int .i64 ((mbR p ⟨c0, c1, c2, c3, c4, c5⟩ ⟨d0, d1, d2, d3, d4, d5⟩ s t).1).c1, .int .i64 ((mbR p ⟨c0, c1, c2, c3, c4, c5⟩ ⟨d0, d1, d2, d3, d4, d5⟩ s t).1).c2, .int .i64 ((mbR p ⟨c0, c1, c2, c3, c4, c5⟩ ⟨d0, d1, d2, d3, d4, d5⟩ s t).1).c3, .int .i64 ((mbR p ⟨c0, c1, c2, c3, c4, c5⟩ ⟨d0, d1, d2, d3, d4, d5⟩ s t).1).c4, .int .i64 ((mbR p ⟨c0, c1, c2, c3, c4, c5⟩ ⟨d0, d1, d2, d3, d4, d5⟩ s t).1).c5], .int .i64 (mbR p ⟨c0, c1, c2, c3, c4, c5⟩ ⟨d0, d1, d2, d3, d4, d5⟩ s t).2]) ∧ Below w.heap.size w w' := by
  go_enter Try.func26, Try.ntmps26
  go_upto_region 1 with fail
  refine wp_name (fun w' => Box 24 w' (w.heap.size) [c0, c1, c2, c3, c4, c5] ∧ Box 24 w' (w.heap.size + 1) [d0, d1, d2, d3, d4, d5] ∧ Box 24 w' (w.heap.size + 1 + 1) [0, 0, 0, 0, 0, 0] ∧ Below w.heap.size w w') ⟨Box.alloc (Box.alloc (Box.new [c0, c1, c2, c3, c4, c5] (by simp)) _) _, Box.alloc (Box.new [d0, d1, d2, d3, d4, d5] (by simp)) _, Box.new [0, 0, 0, 0, 0, 0] (by simp), by (repeat' (first | (with_reducible exact Below.refl _ _) | (with_reducible assumption) | (with_reducible refine Below.alloc ?_ ?_ _) | (with_reducible refine Below.drew ?_) | (with_reducible refine below_drewN ?_ _) | (with_reducible refine Below.setCell ?_ ?_ _) | (refine Below.step ?_ (by with_reducible assumption) ?_) | go_size))⟩ ?_
  rintro wq ⟨Bc, Bd, BR, hB⟩
  have hz := hB.size
  have qc0 := Bc.cell 0 rfl
  have qc1 := Bc.cell 1 rfl
  have qc2 := Bc.cell 2 rfl
  have qc3 := Bc.cell 3 rfl
  have qc4 := Bc.cell 4 rfl
  have qc5 := Bc.cell 5 rfl
  have ltc := Bc.lt
  have qd0 := Bd.cell 0 rfl
  have qd1 := Bd.cell 1 rfl
  have qd2 := Bd.cell 2 rfl
  have qd3 := Bd.cell 3 rfl
  have qd4 := Bd.cell 4 rfl
  have qd5 := Bd.cell 5 rfl
  have ltd := Bd.lt
  have ltR := BR.lt
  go_upto_region 2 with (go_at_call 58; refine (conicsCode_any p _ _ _ [⟨c0, c1, c2, c3, c4, c5⟩, ⟨d0, d1, d2, d3, d4, d5⟩] _ (rdC6_2 (by go_cell) (by go_cell) (by go_cell) (by go_cell) (by go_cell) (by go_cell) (by go_cell) (by go_cell) (by go_cell) (by go_cell) (by go_cell) (by go_cell)) (by go_size) (by simp)).mono ?_; rintro e w1 ⟨rfl, hb1⟩)
  have hz1 := hb1.size
  refine wp_name (fun w' => Box 24 w' w.heap.size [c0, c1, c2, c3, c4, c5] ∧ Box 24 w' (w.heap.size + 1) [d0, d1, d2, d3, d4, d5] ∧ Box 24 w' (w.heap.size + 1 + 1) [0, 0, 0, 0, 0, 0] ∧ Below w.heap.size w w') ⟨Box.below hb1 (Box.alloc Bc _), Box.below hb1 (Box.alloc Bd _), Box.below hb1 (Box.alloc BR _), by (repeat' (first | (with_reducible exact Below.refl _ _) | (with_reducible assumption) | (with_reducible refine Below.alloc ?_ ?_ _) | (with_reducible refine Below.drew ?_) | (with_reducible refine below_drewN ?_ _) | (with_reducible refine Below.setCell ?_ ?_ _) | (refine Below.step ?_ (by with_reducible assumption) ?_) | go_size))⟩ ?_
  clear Bc ltc qc0 qc1 qc2 qc3 qc4 qc5 Bd ltd qd0 qd1 qd2 qd3 qd4 qd5 BR hB hz ltR hb1 hz1
  rintro wc ⟨Bc, Bd, BR, hB⟩
  have hz := hB.size
  have ltR := BR.lt
  have sr0 := BR.cell 0 rfl; have sf0 := BR.frz 0
  have sr1 := BR.cell 1 rfl; have sf1 := BR.frz 1
  have sr2 := BR.cell 2 rfl; have sf2 := BR.frz 2
  have sr3 := BR.cell 3 rfl; have sf3 := BR.frz 3
  have sr4 := BR.cell 4 rfl; have sf4 := BR.frz 4
  have sr5 := BR.cell 5 rfl; have sf5 := BR.frz 5
  have qc0 := Bc.cell 0 rfl
  have qc1 := Bc.cell 1 rfl
  have qc2 := Bc.cell 2 rfl
  have qc3 := Bc.cell 3 rfl
  have qc4 := Bc.cell 4 rfl
  have qc5 := Bc.cell 5 rfl
  have ltc := Bc.lt
  have qd0 := Bd.cell 0 rfl
  have qd1 := Bd.cell 1 rfl
  have qd2 := Bd.cell 2 rfl
  have qd3 := Bd.cell 3 rfl
  have qd4 := Bd.cell 4 rfl
  have qd5 := Bd.cell 5 rfl
  have ltd := Bd.lt
  rcases coCode3 p true [⟨c0, c1, c2, c3, c4, c5⟩, ⟨d0, d1, d2, d3, d4, d5⟩] with hk | hk | ⟨hp, hok, hk⟩
  · have hE : Hid (mbR p ⟨c0, c1, c2, c3, c4, c5⟩ ⟨d0, d1, d2, d3, d4, d5⟩ s t = (⟨0, 0, 0, 0, 0, 0⟩, 2)) := by show _ = _; unfold mbR; rw [hk]; rfl
    rw [hk]
    go_wp2_with fail
    (try simp only [Exit.inBlock, Exit.then]); refine bodyPost_ret (by simp [results, Try.results26, go_sem, *]; try rfl) rfl ?_
    exact ⟨by rw [hE.out]; try rfl, by (repeat' (first | (with_reducible exact Below.refl _ _) | (with_reducible assumption) | (with_reducible refine Below.alloc ?_ ?_ _) | (with_reducible refine Below.drew ?_) | (with_reducible refine below_drewN ?_ _) | (with_reducible refine Below.setCell ?_ ?_ _) | (refine Below.step ?_ (by with_reducible assumption) ?_) | go_size))⟩
  · have hE : Hid (mbR p ⟨c0, c1, c2, c3, c4, c5⟩ ⟨d0, d1, d2, d3, d4, d5⟩ s t = (⟨0, 0, 0, 0, 0, 0⟩, 1)) := by show _ = _; unfold mbR; rw [hk]; rfl
    rw [hk]
    go_wp2_with fail
    (try simp only [Exit.inBlock, Exit.then]); refine bodyPost_ret (by simp [results, Try.results26, go_sem, *]; try rfl) rfl ?_
    exact ⟨by rw [hE.out]; try rfl, by (repeat' (first | (with_reducible exact Below.refl _ _) | (with_reducible assumption) | (with_reducible refine Below.alloc ?_ ?_ _) | (with_reducible refine Below.drew ?_) | (with_reducible refine below_drewN ?_ _) | (with_reducible refine Below.setCell ?_ ?_ _) | (refine Below.step ?_ (by with_reducible assumption) ?_) | go_size))⟩
  · have hR0 : mbR p ⟨c0, c1, c2, c3, c4, c5⟩ ⟨d0, d1, d2, d3, d4, d5⟩ s t = if (inB s 0 (p - 1) && inB t 0 (p - 1)) = true then (if (⟨c0, c1, c2, c3, c4, c5⟩ : C6) = ⟨d0, d1, d2, d3, d4, d5⟩ ∨ (s = 0 ∧ t = 0) then (⟨0, 0, 0, 0, 0, 0⟩, 5) else (mbV p ⟨c0, c1, c2, c3, c4, c5⟩ ⟨d0, d1, d2, d3, d4, d5⟩ s t, 0)) else (⟨0, 0, 0, 0, 0, 0⟩, 2) := by unfold mbR; rw [hk]; rfl
    rw [Bool.true_and] at hok
    have ha := co1 hok
    have hb := (co1 ha.2).1
    obtain ⟨sc0, sc1, sc2, sc3, sc4, sc5⟩ := isCo_sm ha.1
    obtain ⟨sd0, sd1, sd2, sd3, sd4, sd5⟩ := isCo_sm hb
    have k1 := isP_lo hp; have k2 := isP_hi hp
    rw [hk]
    clear hk hok ha hb
    have hq := fun w' => eqC6 (t := 24) Try.underlying24 ⟨c0, c1, c2, c3, c4, c5⟩ ⟨d0, d1, d2, d3, d4, d5⟩ w'
    have hw1 : IntKind.i64.wrap (p - 1) = p - 1 := by go_arith
    obtain ⟨nb, hnb⟩ : ∃ b, numsB p [s, t] = b := ⟨_, rfl⟩
    clear sr0 sf0 qc0 qd0 sr1 sf1 qc1 qd1 sr2 sf2 qc2 qd2 sr3 sf3 qc3 qd3 sr4 sf4 qc4 qd4 sr5 sf5 qc5 qd5
    go_upto_if 22 with (go_at_call 66; refine (areNumbers_any p _ 0 _ [s, t] _ (by omega) (by omega) (rdI2 (by go_cell) (by go_cell)) (by simp)).mono ?_; rintro e w' ⟨rfl, rfl⟩; rw [hnb])
    refine wp_name (fun w' => Box 24 w' w.heap.size [c0, c1, c2, c3, c4, c5] ∧ Box 24 w' (w.heap.size + 1) [d0, d1, d2, d3, d4, d5] ∧ Box 24 w' (w.heap.size + 1 + 1) [0, 0, 0, 0, 0, 0] ∧ Below w.heap.size w w') ⟨Box.alloc Bc _, Box.alloc Bd _, Box.alloc BR _, by (repeat' (first | (with_reducible exact Below.refl _ _) | (with_reducible assumption) | (with_reducible refine Below.alloc ?_ ?_ _) | (with_reducible refine Below.drew ?_) | (with_reducible refine below_drewN ?_ _) | (with_reducible refine Below.setCell ?_ ?_ _) | (refine Below.step ?_ (by with_reducible assumption) ?_) | go_size))⟩ ?_
    clear Bc Bd BR hB hz ltR
    rintro wf ⟨Bc, Bd, BR, hB⟩
    have hz := hB.size
    have ltR := BR.lt
    have sr0 := BR.cell 0 rfl; have sf0 := BR.frz 0
    have sr1 := BR.cell 1 rfl; have sf1 := BR.frz 1
    have sr2 := BR.cell 2 rfl; have sf2 := BR.frz 2
    have sr3 := BR.cell 3 rfl; have sf3 := BR.frz 3
    have sr4 := BR.cell 4 rfl; have sf4 := BR.frz 4
    have sr5 := BR.cell 5 rfl; have sf5 := BR.frz 5
    have qc0 := Bc.cell 0 rfl
    have qc1 := Bc.cell 1 rfl
    have qc2 := Bc.cell 2 rfl
    have qc3 := Bc.cell 3 rfl
    have qc4 := Bc.cell 4 rfl
    have qc5 := Bc.cell 5 rfl
    have ltc := Bc.lt
    have qd0 := Bd.cell 0 rfl
    have qd1 := Bd.cell 1 rfl
    have qd2 := Bd.cell 2 rfl
    have qd3 := Bd.cell 3 rfl
    have qd4 := Bd.cell 4 rfl
    have qd5 := Bd.cell 5 rfl
    have ltd := Bd.lt
    cases h1 : inB s 0 (p - 1)
    · have hE : Hid (mbR p ⟨c0, c1, c2, c3, c4, c5⟩ ⟨d0, d1, d2, d3, d4, d5⟩ s t = (⟨0, 0, 0, 0, 0, 0⟩, 2)) := by show _ = _; rw [hR0, h1]; rfl
      have hnb2 : nb = false := by rw [← hnb]; unfold numsB; simp only [List.all_cons, h1, Bool.false_and]
      subst hnb2; clear hnb
      clear hq hR0
      go_wp2_with (first | fail)
      (try simp only [Exit.inBlock, Exit.then]); refine bodyPost_ret (by simp [results, Try.results26, go_sem, *]; try rfl) rfl ?_
      exact ⟨by rw [hE.out]; try rfl, by (repeat' (first | (with_reducible exact Below.refl _ _) | (with_reducible assumption) | (with_reducible refine Below.alloc ?_ ?_ _) | (with_reducible refine Below.drew ?_) | (with_reducible refine below_drewN ?_ _) | (with_reducible refine Below.setCell ?_ ?_ _) | (refine Below.step ?_ (by with_reducible assumption) ?_) | go_size))⟩
    · cases h2 : inB t 0 (p - 1)
      · have hE : Hid (mbR p ⟨c0, c1, c2, c3, c4, c5⟩ ⟨d0, d1, d2, d3, d4, d5⟩ s t = (⟨0, 0, 0, 0, 0, 0⟩, 2)) := by show _ = _; rw [hR0, h1, h2]; rfl
        have hnb2 : nb = false := by rw [← hnb]; unfold numsB; simp only [List.all_cons, h1, h2, Bool.false_and, Bool.and_false]
        subst hnb2; clear hnb
        clear hq hR0
        go_wp2_with (first | fail)
        (try simp only [Exit.inBlock, Exit.then]); refine bodyPost_ret (by simp [results, Try.results26, go_sem, *]; try rfl) rfl ?_
        exact ⟨by rw [hE.out]; try rfl, by (repeat' (first | (with_reducible exact Below.refl _ _) | (with_reducible assumption) | (with_reducible refine Below.alloc ?_ ?_ _) | (with_reducible refine Below.drew ?_) | (with_reducible refine below_drewN ?_ _) | (with_reducible refine Below.setCell ?_ ?_ _) | (refine Below.step ?_ (by with_reducible assumption) ?_) | go_size))⟩
      · have hs := inB_sm hp h1
        have ht := inB_sm hp h2
        have hnb2 : nb = true := by rw [← hnb]; unfold numsB; simp only [List.all_cons, List.all_nil, h1, h2, Bool.and_self]
        subst hnb2; clear hnb
        by_cases hcd : (⟨c0, c1, c2, c3, c4, c5⟩ : C6) = ⟨d0, d1, d2, d3, d4, d5⟩
        · have hE : Hid (mbR p ⟨c0, c1, c2, c3, c4, c5⟩ ⟨d0, d1, d2, d3, d4, d5⟩ s t = (⟨0, 0, 0, 0, 0, 0⟩, 5)) := by show _ = _; rw [hR0, h1, h2, if_pos (show (true && true) = true from rfl), if_pos (.inl hcd)]
          simp only [hcd, decide_true] at hq
          clear hR0 hcd
          go_wp2_with (first | fail)
          (try simp only [Exit.inBlock, Exit.then]); refine bodyPost_ret (by simp [results, Try.results26, go_sem, *]; try rfl) rfl ?_
          exact ⟨by rw [hE.out]; try rfl, by (repeat' (first | (with_reducible exact Below.refl _ _) | (with_reducible assumption) | (with_reducible refine Below.alloc ?_ ?_ _) | (with_reducible refine Below.drew ?_) | (with_reducible refine below_drewN ?_ _) | (with_reducible refine Below.setCell ?_ ?_ _) | (refine Below.step ?_ (by with_reducible assumption) ?_) | go_size))⟩
        · simp only [hcd, decide_false] at hq
          have hM0 := fun w' => member_any p c0 c1 c2 c3 c4 c5 d0 d1 d2 d3 d4 d5 s t w' hp hs ht sc0 sc1 sc2 sc3 sc4 sc5 sd0 sd1 sd2 sd3 sd4 sd5
          have HM := Lib.hid hM0; clear hM0
          by_cases hs0 : s = 0
          · by_cases ht0 : t = 0
            · have hE : Hid (mbR p ⟨c0, c1, c2, c3, c4, c5⟩ ⟨d0, d1, d2, d3, d4, d5⟩ s t = (⟨0, 0, 0, 0, 0, 0⟩, 5)) := by show _ = _; rw [hR0, h1, h2, if_pos (show (true && true) = true from rfl), if_pos (.inr ⟨hs0, ht0⟩)]
              clear hR0 hcd HM hs ht
              subst hs0 ht0
              go_wp2_with (first | fail)
              (try simp only [Exit.inBlock, Exit.then]); refine bodyPost_ret (by simp [results, Try.results26, go_sem, *]; try rfl) rfl ?_
              exact ⟨by rw [hE.out]; try rfl, by (repeat' (first | (with_reducible exact Below.refl _ _) | (with_reducible assumption) | (with_reducible refine Below.alloc ?_ ?_ _) | (with_reducible refine Below.drew ?_) | (with_reducible refine below_drewN ?_ _) | (with_reducible refine Below.setCell ?_ ?_ _) | (refine Below.step ?_ (by with_reducible assumption) ?_) | go_size))⟩
            · have hE : Hid (mbR p ⟨c0, c1, c2, c3, c4, c5⟩ ⟨d0, d1, d2, d3, d4, d5⟩ s t = (mbV p ⟨c0, c1, c2, c3, c4, c5⟩ ⟨d0, d1, d2, d3, d4, d5⟩ s t, 0)) := by show _ = _; rw [hR0, h1, h2, if_pos (show (true && true) = true from rfl), if_neg (fun h => h.elim hcd (fun h => ht0 h.2))]
              clear hR0 hcd hs ht
              subst hs0
              go_wp2_with (first | fail | (go_at_call 67; refine (HM.out _).mono ?_; rintro e w5 ⟨rfl, hb5⟩; have BX5 := Box.below hb5 BR; have hz5 := hb5.size; have r5_0 := BX5.cell 0 rfl; have t5_0 := BX5.frz 0; have r5_1 := BX5.cell 1 rfl; have t5_1 := BX5.frz 1; have r5_2 := BX5.cell 2 rfl; have t5_2 := BX5.frz 2; have r5_3 := BX5.cell 3 rfl; have t5_3 := BX5.frz 3; have r5_4 := BX5.cell 4 rfl; have t5_4 := BX5.frz 4; have r5_5 := BX5.cell 5 rfl; have t5_5 := BX5.frz 5))
              (try simp only [Exit.inBlock, Exit.then]); refine bodyPost_ret (by simp [results, Try.results26, go_sem, *]; try rfl) rfl ?_
              exact ⟨by rw [hE.out]; try rfl, by (repeat' (first | (with_reducible exact Below.refl _ _) | (with_reducible assumption) | (with_reducible refine Below.alloc ?_ ?_ _) | (with_reducible refine Below.drew ?_) | (with_reducible refine below_drewN ?_ _) | (with_reducible refine Below.setCell ?_ ?_ _) | (refine Below.step ?_ (by with_reducible assumption) ?_) | go_size))⟩
          · have hE : Hid (mbR p ⟨c0, c1, c2, c3, c4, c5⟩ ⟨d0, d1, d2, d3, d4, d5⟩ s t = (mbV p ⟨c0, c1, c2, c3, c4, c5⟩ ⟨d0, d1, d2, d3, d4, d5⟩ s t, 0)) := by show _ = _; rw [hR0, h1, h2, if_pos (show (true && true) = true from rfl), if_neg (fun h => h.elim hcd (fun h => hs0 h.1))]
            clear hR0 hcd hs ht
            skip
            go_wp2_with (first | fail | (go_at_call 67; refine (HM.out _).mono ?_; rintro e w5 ⟨rfl, hb5⟩; have BX5 := Box.below hb5 BR; have hz5 := hb5.size; have r5_0 := BX5.cell 0 rfl; have t5_0 := BX5.frz 0; have r5_1 := BX5.cell 1 rfl; have t5_1 := BX5.frz 1; have r5_2 := BX5.cell 2 rfl; have t5_2 := BX5.frz 2; have r5_3 := BX5.cell 3 rfl; have t5_3 := BX5.frz 3; have r5_4 := BX5.cell 4 rfl; have t5_4 := BX5.frz 4; have r5_5 := BX5.cell 5 rfl; have t5_5 := BX5.frz 5))
            (try simp only [Exit.inBlock, Exit.then]); refine bodyPost_ret (by simp [results, Try.results26, go_sem, *]; try rfl) rfl ?_
            exact ⟨by rw [hE.out]; try rfl, by (repeat' (first | (with_reducible exact Below.refl _ _) | (with_reducible assumption) | (with_reducible refine Below.alloc ?_ ?_ _) | (with_reducible refine Below.drew ?_) | (with_reducible refine below_drewN ?_ _) | (with_reducible refine Below.setCell ?_ ?_ _) | (refine Below.step ?_ (by with_reducible assumption) ?_) | go_size))⟩
set_option maxHeartbeats 4000000 in
theorem MemberOf_spec (p c0 c1 c2 c3 c4 c5 d0 d1 d2 d3 d4 d5 s t : Int) (w : World) :
    Calls Try.prog 25 #[.int .i64 p, .agg #[.int .i64 c0, .int .i64 c1, .int .i64 c2, .int .i64 c3, .int .i64 c4, .int .i64 c5], .agg #[.int .i64 d0, .int .i64 d1, .int .i64 d2, .int .i64 d3, .int .i64 d4, .int .i64 d5], .int .i64 s, .int .i64 t] w fun e w' => e = .returned (.tuple #[.agg #[.int .i64 ((mbR p ⟨c0, c1, c2, c3, c4, c5⟩ ⟨d0, d1, d2, d3, d4, d5⟩ s t).1).c0, .int .i64 ((mbR p ⟨c0, c1, c2, c3, c4, c5⟩ ⟨d0, d1, d2, d3, d4, d5⟩ s t).1).c1, .int .i64 ((mbR p ⟨c0, c1, c2, c3, c4, c5⟩ ⟨d0, d1, d2, d3, d4, d5⟩ s t).1).c2, .int .i64 ((mbR p ⟨c0, c1, c2, c3, c4, c5⟩ ⟨d0, d1, d2, d3, d4, d5⟩ s t).1).c3, .int .i64 ((mbR p ⟨c0, c1, c2, c3, c4, c5⟩ ⟨d0, d1, d2, d3, d4, d5⟩ s t).1).c4, .int .i64 ((mbR p ⟨c0, c1, c2, c3, c4, c5⟩ ⟨d0, d1, d2, d3, d4, d5⟩ s t).1).c5], .int .i64 (mbR p ⟨c0, c1, c2, c3, c4, c5⟩ ⟨d0, d1, d2, d3, d4, d5⟩ s t).2]) ∧ Below w.heap.size w w' := by
  go_enter Try.func25, Try.ntmps25
  go_upto_region 1 with fail
  refine wp_name (fun w' => Box 24 w' (w.heap.size) [c0, c1, c2, c3, c4, c5] ∧ Box 24 w' (w.heap.size + 1) [d0, d1, d2, d3, d4, d5] ∧ Box 24 w' (w.heap.size + 1 + 1) [0, 0, 0, 0, 0, 0] ∧ Below w.heap.size w w') ⟨Box.alloc (Box.alloc (Box.new [c0, c1, c2, c3, c4, c5] (by simp)) _) _, Box.alloc (Box.new [d0, d1, d2, d3, d4, d5] (by simp)) _, Box.new [0, 0, 0, 0, 0, 0] (by simp), by (repeat' (first | (with_reducible exact Below.refl _ _) | (with_reducible assumption) | (with_reducible refine Below.alloc ?_ ?_ _) | (with_reducible refine Below.drew ?_) | (with_reducible refine below_drewN ?_ _) | (with_reducible refine Below.setCell ?_ ?_ _) | (refine Below.step ?_ (by with_reducible assumption) ?_) | go_size))⟩ ?_
  rintro wq ⟨Bc, Bd, BR, hB⟩
  have hz := hB.size
  have qc0 := Bc.cell 0 rfl
  have qc1 := Bc.cell 1 rfl
  have qc2 := Bc.cell 2 rfl
  have qc3 := Bc.cell 3 rfl
  have qc4 := Bc.cell 4 rfl
  have qc5 := Bc.cell 5 rfl
  have ltc := Bc.lt
  have qd0 := Bd.cell 0 rfl
  have qd1 := Bd.cell 1 rfl
  have qd2 := Bd.cell 2 rfl
  have qd3 := Bd.cell 3 rfl
  have qd4 := Bd.cell 4 rfl
  have qd5 := Bd.cell 5 rfl
  have ltd := Bd.lt
  have ltR := BR.lt
  go_upto_region 2 with (go_at_call 64; refine (l04Code_nil p c0 c1 c2 c3 c4 c5 d0 d1 d2 d3 d4 d5 _).mono ?_; rintro e w1 ⟨rfl, hb1⟩)
  have hz1 := hb1.size
  refine wp_name (fun w' => Box 24 w' w.heap.size [c0, c1, c2, c3, c4, c5] ∧ Box 24 w' (w.heap.size + 1) [d0, d1, d2, d3, d4, d5] ∧ Box 24 w' (w.heap.size + 1 + 1) [0, 0, 0, 0, 0, 0] ∧ Below w.heap.size w w') ⟨Box.below hb1 Bc, Box.below hb1 Bd, Box.below hb1 BR, by (repeat' (first | (with_reducible exact Below.refl _ _) | (with_reducible assumption) | (with_reducible refine Below.alloc ?_ ?_ _) | (with_reducible refine Below.drew ?_) | (with_reducible refine below_drewN ?_ _) | (with_reducible refine Below.setCell ?_ ?_ _) | (refine Below.step ?_ (by with_reducible assumption) ?_) | go_size))⟩ ?_
  clear Bc ltc qc0 qc1 qc2 qc3 qc4 qc5 Bd ltd qd0 qd1 qd2 qd3 qd4 qd5 BR hB hz ltR hb1 hz1
  rintro wc ⟨Bc, Bd, BR, hB⟩
  have hz := hB.size
  have ltR := BR.lt
  have sr0 := BR.cell 0 rfl; have sf0 := BR.frz 0
  have sr1 := BR.cell 1 rfl; have sf1 := BR.frz 1
  have sr2 := BR.cell 2 rfl; have sf2 := BR.frz 2
  have sr3 := BR.cell 3 rfl; have sf3 := BR.frz 3
  have sr4 := BR.cell 4 rfl; have sf4 := BR.frz 4
  have sr5 := BR.cell 5 rfl; have sf5 := BR.frz 5
  have qc0 := Bc.cell 0 rfl
  have qc1 := Bc.cell 1 rfl
  have qc2 := Bc.cell 2 rfl
  have qc3 := Bc.cell 3 rfl
  have qc4 := Bc.cell 4 rfl
  have qc5 := Bc.cell 5 rfl
  have ltc := Bc.lt
  have qd0 := Bd.cell 0 rfl
  have qd1 := Bd.cell 1 rfl
  have qd2 := Bd.cell 2 rfl
  have qd3 := Bd.cell 3 rfl
  have qd4 := Bd.cell 4 rfl
  have qd5 := Bd.cell 5 rfl
  have ltd := Bd.lt
  rcases coCode3 p true [⟨c0, c1, c2, c3, c4, c5⟩, ⟨d0, d1, d2, d3, d4, d5⟩] with hk | hk | ⟨hp, hok, hk⟩
  · have hE : Hid (mbR p ⟨c0, c1, c2, c3, c4, c5⟩ ⟨d0, d1, d2, d3, d4, d5⟩ s t = (⟨0, 0, 0, 0, 0, 0⟩, 2)) := by show _ = _; unfold mbR; rw [hk]; rfl
    rw [hk]
    go_wp2_with fail
    (try simp only [Exit.inBlock, Exit.then]); refine bodyPost_ret (by simp [results, Try.results25, go_sem, *]; try rfl) rfl ?_
    exact ⟨by rw [hE.out]; try rfl, by (repeat' (first | (with_reducible exact Below.refl _ _) | (with_reducible assumption) | (with_reducible refine Below.alloc ?_ ?_ _) | (with_reducible refine Below.drew ?_) | (with_reducible refine below_drewN ?_ _) | (with_reducible refine Below.setCell ?_ ?_ _) | (refine Below.step ?_ (by with_reducible assumption) ?_) | go_size))⟩
  · have hE : Hid (mbR p ⟨c0, c1, c2, c3, c4, c5⟩ ⟨d0, d1, d2, d3, d4, d5⟩ s t = (⟨0, 0, 0, 0, 0, 0⟩, 1)) := by show _ = _; unfold mbR; rw [hk]; rfl
    rw [hk]
    go_wp2_with fail
    (try simp only [Exit.inBlock, Exit.then]); refine bodyPost_ret (by simp [results, Try.results25, go_sem, *]; try rfl) rfl ?_
    exact ⟨by rw [hE.out]; try rfl, by (repeat' (first | (with_reducible exact Below.refl _ _) | (with_reducible assumption) | (with_reducible refine Below.alloc ?_ ?_ _) | (with_reducible refine Below.drew ?_) | (with_reducible refine below_drewN ?_ _) | (with_reducible refine Below.setCell ?_ ?_ _) | (refine Below.step ?_ (by with_reducible assumption) ?_) | go_size))⟩
  · have hR0 : mbR p ⟨c0, c1, c2, c3, c4, c5⟩ ⟨d0, d1, d2, d3, d4, d5⟩ s t = if (inB s 0 (p - 1) && inB t 0 (p - 1)) = true then (if (⟨c0, c1, c2, c3, c4, c5⟩ : C6) = ⟨d0, d1, d2, d3, d4, d5⟩ ∨ (s = 0 ∧ t = 0) then (⟨0, 0, 0, 0, 0, 0⟩, 5) else (mbV p ⟨c0, c1, c2, c3, c4, c5⟩ ⟨d0, d1, d2, d3, d4, d5⟩ s t, 0)) else (⟨0, 0, 0, 0, 0, 0⟩, 2) := by unfold mbR; rw [hk]; rfl
    rw [Bool.true_and] at hok
    have ha := co1 hok
    have hb := (co1 ha.2).1
    obtain ⟨sc0, sc1, sc2, sc3, sc4, sc5⟩ := isCo_sm ha.1
    obtain ⟨sd0, sd1, sd2, sd3, sd4, sd5⟩ := isCo_sm hb
    have k1 := isP_lo hp; have k2 := isP_hi hp
    rw [hk]
    clear hk hok ha hb
    have hq := fun w' => eqC6 (t := 24) Try.underlying24 ⟨c0, c1, c2, c3, c4, c5⟩ ⟨d0, d1, d2, d3, d4, d5⟩ w'
    have hw1 : IntKind.i64.wrap (p - 1) = p - 1 := by go_arith
    cases h1 : inB s 0 (p - 1)
    · have hE : Hid (mbR p ⟨c0, c1, c2, c3, c4, c5⟩ ⟨d0, d1, d2, d3, d4, d5⟩ s t = (⟨0, 0, 0, 0, 0, 0⟩, 2)) := by show _ = _; rw [hR0, h1]; rfl
      clear hq hR0
      go_wp2_with (first | (go_at_call 50; refine (l01In_any _ _ _ _).mono ?_; rintro e w' ⟨rfl, rfl⟩; first | rw [h1] | rw [h2]))
      (try simp only [Exit.inBlock, Exit.then]); refine bodyPost_ret (by simp [results, Try.results25, go_sem, *]; try rfl) rfl ?_
      exact ⟨by rw [hE.out]; try rfl, by (repeat' (first | (with_reducible exact Below.refl _ _) | (with_reducible assumption) | (with_reducible refine Below.alloc ?_ ?_ _) | (with_reducible refine Below.drew ?_) | (with_reducible refine below_drewN ?_ _) | (with_reducible refine Below.setCell ?_ ?_ _) | (refine Below.step ?_ (by with_reducible assumption) ?_) | go_size))⟩
    · cases h2 : inB t 0 (p - 1)
      · have hE : Hid (mbR p ⟨c0, c1, c2, c3, c4, c5⟩ ⟨d0, d1, d2, d3, d4, d5⟩ s t = (⟨0, 0, 0, 0, 0, 0⟩, 2)) := by show _ = _; rw [hR0, h1, h2]; rfl
        clear hq hR0
        go_wp2_with (first | (go_at_call 50; refine (l01In_any _ _ _ _).mono ?_; rintro e w' ⟨rfl, rfl⟩; first | rw [h1] | rw [h2]))
        (try simp only [Exit.inBlock, Exit.then]); refine bodyPost_ret (by simp [results, Try.results25, go_sem, *]; try rfl) rfl ?_
        exact ⟨by rw [hE.out]; try rfl, by (repeat' (first | (with_reducible exact Below.refl _ _) | (with_reducible assumption) | (with_reducible refine Below.alloc ?_ ?_ _) | (with_reducible refine Below.drew ?_) | (with_reducible refine below_drewN ?_ _) | (with_reducible refine Below.setCell ?_ ?_ _) | (refine Below.step ?_ (by with_reducible assumption) ?_) | go_size))⟩
      · have hs := inB_sm hp h1
        have ht := inB_sm hp h2
        by_cases hcd : (⟨c0, c1, c2, c3, c4, c5⟩ : C6) = ⟨d0, d1, d2, d3, d4, d5⟩
        · have hE : Hid (mbR p ⟨c0, c1, c2, c3, c4, c5⟩ ⟨d0, d1, d2, d3, d4, d5⟩ s t = (⟨0, 0, 0, 0, 0, 0⟩, 5)) := by show _ = _; rw [hR0, h1, h2, if_pos (show (true && true) = true from rfl), if_pos (.inl hcd)]
          simp only [hcd, decide_true] at hq
          clear hR0 hcd
          go_wp2_with (first | (go_at_call 50; refine (l01In_any _ _ _ _).mono ?_; rintro e w' ⟨rfl, rfl⟩; first | rw [h1] | rw [h2]))
          (try simp only [Exit.inBlock, Exit.then]); refine bodyPost_ret (by simp [results, Try.results25, go_sem, *]; try rfl) rfl ?_
          exact ⟨by rw [hE.out]; try rfl, by (repeat' (first | (with_reducible exact Below.refl _ _) | (with_reducible assumption) | (with_reducible refine Below.alloc ?_ ?_ _) | (with_reducible refine Below.drew ?_) | (with_reducible refine below_drewN ?_ _) | (with_reducible refine Below.setCell ?_ ?_ _) | (refine Below.step ?_ (by with_reducible assumption) ?_) | go_size))⟩
        · simp only [hcd, decide_false] at hq
          have hM0 := fun w' => l04Member_any p c0 c1 c2 c3 c4 c5 d0 d1 d2 d3 d4 d5 s t w' hp hs ht sc0 sc1 sc2 sc3 sc4 sc5 sd0 sd1 sd2 sd3 sd4 sd5
          have HM := Lib.hid hM0; clear hM0
          by_cases hs0 : s = 0
          · by_cases ht0 : t = 0
            · have hE : Hid (mbR p ⟨c0, c1, c2, c3, c4, c5⟩ ⟨d0, d1, d2, d3, d4, d5⟩ s t = (⟨0, 0, 0, 0, 0, 0⟩, 5)) := by show _ = _; rw [hR0, h1, h2, if_pos (show (true && true) = true from rfl), if_pos (.inr ⟨hs0, ht0⟩)]
              clear hR0 hcd HM hs ht
              subst hs0 ht0
              go_wp2_with (first | (go_at_call 50; refine (l01In_any _ _ _ _).mono ?_; rintro e w' ⟨rfl, rfl⟩; first | rw [h1] | rw [h2]))
              (try simp only [Exit.inBlock, Exit.then]); refine bodyPost_ret (by simp [results, Try.results25, go_sem, *]; try rfl) rfl ?_
              exact ⟨by rw [hE.out]; try rfl, by (repeat' (first | (with_reducible exact Below.refl _ _) | (with_reducible assumption) | (with_reducible refine Below.alloc ?_ ?_ _) | (with_reducible refine Below.drew ?_) | (with_reducible refine below_drewN ?_ _) | (with_reducible refine Below.setCell ?_ ?_ _) | (refine Below.step ?_ (by with_reducible assumption) ?_) | go_size))⟩
            · have hE : Hid (mbR p ⟨c0, c1, c2, c3, c4, c5⟩ ⟨d0, d1, d2, d3, d4, d5⟩ s t = (mbV p ⟨c0, c1, c2, c3, c4, c5⟩ ⟨d0, d1, d2, d3, d4, d5⟩ s t, 0)) := by show _ = _; rw [hR0, h1, h2, if_pos (show (true && true) = true from rfl), if_neg (fun h => h.elim hcd (fun h => ht0 h.2))]
              clear hR0 hcd hs ht
              subst hs0
              go_wp2_with (first | (go_at_call 50; refine (l01In_any _ _ _ _).mono ?_; rintro e w' ⟨rfl, rfl⟩; first | rw [h1] | rw [h2]) | (go_at_call 65; refine (HM.out _).mono ?_; rintro e w5 ⟨rfl, hb5⟩; have BX5 := Box.below hb5 BR; have hz5 := hb5.size; have r5_0 := BX5.cell 0 rfl; have t5_0 := BX5.frz 0; have r5_1 := BX5.cell 1 rfl; have t5_1 := BX5.frz 1; have r5_2 := BX5.cell 2 rfl; have t5_2 := BX5.frz 2; have r5_3 := BX5.cell 3 rfl; have t5_3 := BX5.frz 3; have r5_4 := BX5.cell 4 rfl; have t5_4 := BX5.frz 4; have r5_5 := BX5.cell 5 rfl; have t5_5 := BX5.frz 5))
              (try simp only [Exit.inBlock, Exit.then]); refine bodyPost_ret (by simp [results, Try.results25, go_sem, *]; try rfl) rfl ?_
              exact ⟨by rw [hE.out]; try rfl, by (repeat' (first | (with_reducible exact Below.refl _ _) | (with_reducible assumption) | (with_reducible refine Below.alloc ?_ ?_ _) | (with_reducible refine Below.drew ?_) | (with_reducible refine below_drewN ?_ _) | (with_reducible refine Below.setCell ?_ ?_ _) | (refine Below.step ?_ (by with_reducible assumption) ?_) | go_size))⟩
          · have hE : Hid (mbR p ⟨c0, c1, c2, c3, c4, c5⟩ ⟨d0, d1, d2, d3, d4, d5⟩ s t = (mbV p ⟨c0, c1, c2, c3, c4, c5⟩ ⟨d0, d1, d2, d3, d4, d5⟩ s t, 0)) := by show _ = _; rw [hR0, h1, h2, if_pos (show (true && true) = true from rfl), if_neg (fun h => h.elim hcd (fun h => hs0 h.1))]
            clear hR0 hcd hs ht
            skip
            go_wp2_with (first | (go_at_call 50; refine (l01In_any _ _ _ _).mono ?_; rintro e w' ⟨rfl, rfl⟩; first | rw [h1] | rw [h2]) | (go_at_call 65; refine (HM.out _).mono ?_; rintro e w5 ⟨rfl, hb5⟩; have BX5 := Box.below hb5 BR; have hz5 := hb5.size; have r5_0 := BX5.cell 0 rfl; have t5_0 := BX5.frz 0; have r5_1 := BX5.cell 1 rfl; have t5_1 := BX5.frz 1; have r5_2 := BX5.cell 2 rfl; have t5_2 := BX5.frz 2; have r5_3 := BX5.cell 3 rfl; have t5_3 := BX5.frz 3; have r5_4 := BX5.cell 4 rfl; have t5_4 := BX5.frz 4; have r5_5 := BX5.cell 5 rfl; have t5_5 := BX5.frz 5))
            (try simp only [Exit.inBlock, Exit.then]); refine bodyPost_ret (by simp [results, Try.results25, go_sem, *]; try rfl) rfl ?_
            exact ⟨by rw [hE.out]; try rfl, by (repeat' (first | (with_reducible exact Below.refl _ _) | (with_reducible assumption) | (with_reducible refine Below.alloc ?_ ?_ _) | (with_reducible refine Below.drew ?_) | (with_reducible refine below_drewN ?_ _) | (with_reducible refine Below.setCell ?_ ?_ _) | (refine Below.step ?_ (by with_reducible assumption) ?_) | go_size))⟩
end Go.Proofs.Ytemimkbngfbomaa
