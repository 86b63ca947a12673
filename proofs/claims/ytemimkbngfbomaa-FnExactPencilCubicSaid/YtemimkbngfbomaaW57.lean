/- Codes of pencils, both sides; no condition. -/
import Derived.Test.YtemimkbngfbomaaW51
import Derived.Test.YtemimkbngfbomaaW53
import Derived.Test.YtemimkbngfbomaaE1
import Derived.Test.YtemimkbngfbomaaP3
namespace Go.Proofs.Ytemimkbngfbomaa
open Go.RowKit
set_option linter.unusedSimpArgs false
set_option linter.unusedVariables false
set_option maxRecDepth 100000

theorem eqC6 {t : Nat} (ht : Try.prog.underlying t = some (.array 6 2)) (a b : C6) (w : World) :
    (binOp .eql t (.agg #[.int .i64 a.c0, .int .i64 a.c1, .int .i64 a.c2, .int .i64 a.c3, .int .i64 a.c4, .int .i64 a.c5]) (.agg #[.int .i64 b.c0, .int .i64 b.c1, .int .i64 b.c2, .int .i64 b.c3, .int .i64 b.c4, .int .i64 b.c5])).run Try.prog w = .ok (.bool (decide (a = b))) w := by
  by_cases h : a = b
  · subst h
    have := (eq6_yes ht a.c0 a.c1 a.c2 a.c3 a.c4 a.c5 w).1
    simpa using this
  · have := (eq6_no ht (a0 := a.c0) (a1 := a.c1) (a2 := a.c2) (a3 := a.c3) (a4 := a.c4) (a5 := a.c5) (b0 := b.c0) (b1 := b.c1) (b2 := b.c2) (b3 := b.c3) (b4 := b.c4) (b5 := b.c5) (by rintro ⟨h0, h1, h2, h3, h4, h5⟩; apply h; cases a; cases b; simp only at h0 h1 h2 h3 h4 h5; rw [h0, h1, h2, h3, h4, h5]) w).1
    simpa [h] using this
/-- The code of a pencil and of what else has to be valid. -/
def pcCode (p : Int) (ok : Bool) (c d : C6) : Int := if coCode p ok [c, d] = 0 then (if c = d then 5 else 0) else coCode p ok [c, d]
theorem co2 (p : Int) (ok : Bool) (c d : C6) : coCode p ok [c, d] = if coCode p true [c] = 0 then coCode p ok [d] else coCode p true [c] := by
  unfold coCode codeOf
  cases isP p <;> cases ok <;> simp <;> cases isCo p c <;> cases isCo p d <;> simp
set_option maxHeartbeats 1000000 in
theorem pencilCode_any (p c0 c1 c2 c3 c4 c5 d0 d1 d2 d3 d4 d5 : Int) (ok : Bool) (w : World) :
    Calls Try.prog 71 #[.int .i64 p, .bool ok, .agg #[.int .i64 c0, .int .i64 c1, .int .i64 c2, .int .i64 c3, .int .i64 c4, .int .i64 c5], .agg #[.int .i64 d0, .int .i64 d1, .int .i64 d2, .int .i64 d3, .int .i64 d4, .int .i64 d5]] w fun e w' => e = .returned (.int .i64 (pcCode p ok ⟨c0, c1, c2, c3, c4, c5⟩ ⟨d0, d1, d2, d3, d4, d5⟩)) ∧ Below w.heap.size w w' := by
  rcases coCode3 p ok [⟨c0, c1, c2, c3, c4, c5⟩, ⟨d0, d1, d2, d3, d4, d5⟩] with hk | hk | ⟨hp, hok, hk⟩
  · have hE : Hid (pcCode p ok ⟨c0, c1, c2, c3, c4, c5⟩ ⟨d0, d1, d2, d3, d4, d5⟩ = 2) := by show _ = _; unfold pcCode; rw [hk]; rfl
    have HK := Lib.hid hk; clear hk
    go_enter Try.func71, Try.ntmps71
    go_wp2_with (go_at_call 58; refine (conicsCode_any p _ _ _ [⟨c0, c1, c2, c3, c4, c5⟩, ⟨d0, d1, d2, d3, d4, d5⟩] _ (rdC6_2 (by go_cell) (by go_cell) (by go_cell) (by go_cell) (by go_cell) (by go_cell) (by go_cell) (by go_cell) (by go_cell) (by go_cell) (by go_cell) (by go_cell)) (by go_size) (by simp)).mono ?_; rintro e w1 ⟨rfl, hb1⟩; obtain ⟨hc1, hf1⟩ := bcell hb1; have hz1 := hb1.size; (try simp only [World.size_alloc, World.size_setCell, World.size_drew] at hz1); (try (have hy1w0 : w.heap.size < w1.heap.size := by omega)); (try (have hy1w1 : w.heap.size + 1 < w1.heap.size := by omega)); (try (have hy1w2 : w.heap.size + 1 + 1 < w1.heap.size := by omega)); (try (have hy1w3 : w.heap.size + 1 + 1 + 1 < w1.heap.size := by omega)); (try (have hy1w4 : w.heap.size + 1 + 1 + 1 + 1 < w1.heap.size := by omega)); rw [HK.out])
    go_returns
    exact ⟨ret_int hE.out.symm, by (repeat' (first | (with_reducible exact Below.refl _ _) | (with_reducible assumption) | (with_reducible refine Below.alloc ?_ ?_ _) | (with_reducible refine Below.drew ?_) | (with_reducible refine below_drewN ?_ _) | (with_reducible refine Below.setCell ?_ ?_ _) | (refine Below.step ?_ (by with_reducible assumption) ?_) | go_size))⟩
  · have hE : Hid (pcCode p ok ⟨c0, c1, c2, c3, c4, c5⟩ ⟨d0, d1, d2, d3, d4, d5⟩ = 1) := by show _ = _; unfold pcCode; rw [hk]; rfl
    have HK := Lib.hid hk; clear hk
    go_enter Try.func71, Try.ntmps71
    go_wp2_with (go_at_call 58; refine (conicsCode_any p _ _ _ [⟨c0, c1, c2, c3, c4, c5⟩, ⟨d0, d1, d2, d3, d4, d5⟩] _ (rdC6_2 (by go_cell) (by go_cell) (by go_cell) (by go_cell) (by go_cell) (by go_cell) (by go_cell) (by go_cell) (by go_cell) (by go_cell) (by go_cell) (by go_cell)) (by go_size) (by simp)).mono ?_; rintro e w1 ⟨rfl, hb1⟩; obtain ⟨hc1, hf1⟩ := bcell hb1; have hz1 := hb1.size; (try simp only [World.size_alloc, World.size_setCell, World.size_drew] at hz1); (try (have hy1w0 : w.heap.size < w1.heap.size := by omega)); (try (have hy1w1 : w.heap.size + 1 < w1.heap.size := by omega)); (try (have hy1w2 : w.heap.size + 1 + 1 < w1.heap.size := by omega)); (try (have hy1w3 : w.heap.size + 1 + 1 + 1 < w1.heap.size := by omega)); (try (have hy1w4 : w.heap.size + 1 + 1 + 1 + 1 < w1.heap.size := by omega)); rw [HK.out])
    go_returns
    exact ⟨ret_int hE.out.symm, by (repeat' (first | (with_reducible exact Below.refl _ _) | (with_reducible assumption) | (with_reducible refine Below.alloc ?_ ?_ _) | (with_reducible refine Below.drew ?_) | (with_reducible refine below_drewN ?_ _) | (with_reducible refine Below.setCell ?_ ?_ _) | (refine Below.step ?_ (by with_reducible assumption) ?_) | go_size))⟩
  · have hq := fun w' => eqC6 (t := 24) Try.underlying24 ⟨c0, c1, c2, c3, c4, c5⟩ ⟨d0, d1, d2, d3, d4, d5⟩ w'
    have hE0 : pcCode p ok ⟨c0, c1, c2, c3, c4, c5⟩ ⟨d0, d1, d2, d3, d4, d5⟩ = if (⟨c0, c1, c2, c3, c4, c5⟩ : C6) = ⟨d0, d1, d2, d3, d4, d5⟩ then 5 else 0 := by unfold pcCode; rw [hk]; rfl
    by_cases h : (⟨c0, c1, c2, c3, c4, c5⟩ : C6) = ⟨d0, d1, d2, d3, d4, d5⟩
    · rw [if_pos h] at hE0
      have hE := Lib.hid hE0
      simp only [h, decide_true] at hq
      have HK := Lib.hid hk; clear hk hE0 h hp hok
      go_enter Try.func71, Try.ntmps71
      go_wp2_with (go_at_call 58; refine (conicsCode_any p _ _ _ [⟨c0, c1, c2, c3, c4, c5⟩, ⟨d0, d1, d2, d3, d4, d5⟩] _ (rdC6_2 (by go_cell) (by go_cell) (by go_cell) (by go_cell) (by go_cell) (by go_cell) (by go_cell) (by go_cell) (by go_cell) (by go_cell) (by go_cell) (by go_cell)) (by go_size) (by simp)).mono ?_; rintro e w1 ⟨rfl, hb1⟩; obtain ⟨hc1, hf1⟩ := bcell hb1; have hz1 := hb1.size; (try simp only [World.size_alloc, World.size_setCell, World.size_drew] at hz1); (try (have hy1w0 : w.heap.size < w1.heap.size := by omega)); (try (have hy1w1 : w.heap.size + 1 < w1.heap.size := by omega)); (try (have hy1w2 : w.heap.size + 1 + 1 < w1.heap.size := by omega)); (try (have hy1w3 : w.heap.size + 1 + 1 + 1 < w1.heap.size := by omega)); (try (have hy1w4 : w.heap.size + 1 + 1 + 1 + 1 < w1.heap.size := by omega)); rw [HK.out])
      go_returns
      exact ⟨ret_int hE.out.symm, by (repeat' (first | (with_reducible exact Below.refl _ _) | (with_reducible assumption) | (with_reducible refine Below.alloc ?_ ?_ _) | (with_reducible refine Below.drew ?_) | (with_reducible refine below_drewN ?_ _) | (with_reducible refine Below.setCell ?_ ?_ _) | (refine Below.step ?_ (by with_reducible assumption) ?_) | go_size))⟩
    · rw [if_neg h] at hE0
      have hE := Lib.hid hE0
      simp only [h, decide_false] at hq
      have HK := Lib.hid hk; clear hk hE0 h hp hok
      go_enter Try.func71, Try.ntmps71
      go_wp2_with (go_at_call 58; refine (conicsCode_any p _ _ _ [⟨c0, c1, c2, c3, c4, c5⟩, ⟨d0, d1, d2, d3, d4, d5⟩] _ (rdC6_2 (by go_cell) (by go_cell) (by go_cell) (by go_cell) (by go_cell) (by go_cell) (by go_cell) (by go_cell) (by go_cell) (by go_cell) (by go_cell) (by go_cell)) (by go_size) (by simp)).mono ?_; rintro e w1 ⟨rfl, hb1⟩; obtain ⟨hc1, hf1⟩ := bcell hb1; have hz1 := hb1.size; (try simp only [World.size_alloc, World.size_setCell, World.size_drew] at hz1); (try (have hy1w0 : w.heap.size < w1.heap.size := by omega)); (try (have hy1w1 : w.heap.size + 1 < w1.heap.size := by omega)); (try (have hy1w2 : w.heap.size + 1 + 1 < w1.heap.size := by omega)); (try (have hy1w3 : w.heap.size + 1 + 1 + 1 < w1.heap.size := by omega)); (try (have hy1w4 : w.heap.size + 1 + 1 + 1 + 1 < w1.heap.size := by omega)); rw [HK.out])
      go_returns
      exact ⟨ret_int hE.out.symm, by (repeat' (first | (with_reducible exact Below.refl _ _) | (with_reducible assumption) | (with_reducible refine Below.alloc ?_ ?_ _) | (with_reducible refine Below.drew ?_) | (with_reducible refine below_drewN ?_ _) | (with_reducible refine Below.setCell ?_ ?_ _) | (refine Below.step ?_ (by with_reducible assumption) ?_) | go_size))⟩
set_option maxHeartbeats 1000000 in
theorem l04Code_go (p c0 c1 c2 c3 c4 c5 d0 d1 d2 d3 d4 d5 : Int) (ok : Bool) (vp : Value) (w : World) (hvp : ∃ a n cap, vp = .slice a n cap)
    (hcall : ∀ w', Below w.heap.size w w' → Calls Try.prog 56 #[.int .i64 p, .agg #[.int .i64 d0, .int .i64 d1, .int .i64 d2, .int .i64 d3, .int .i64 d4, .int .i64 d5], vp] w' fun e w'' => e = .returned (.int .i64 (coCode p ok [⟨d0, d1, d2, d3, d4, d5⟩])) ∧ Below w'.heap.size w' w'') :
    Calls Try.prog 64 #[.int .i64 p, .agg #[.int .i64 c0, .int .i64 c1, .int .i64 c2, .int .i64 c3, .int .i64 c4, .int .i64 c5], .agg #[.int .i64 d0, .int .i64 d1, .int .i64 d2, .int .i64 d3, .int .i64 d4, .int .i64 d5], vp] w fun e w' => e = .returned (.int .i64 (coCode p ok [⟨c0, c1, c2, c3, c4, c5⟩, ⟨d0, d1, d2, d3, d4, d5⟩])) ∧ Below w.heap.size w w' := by
  have HC := Lib.hid hcall; clear hcall
  obtain ⟨a, n, cap, rfl⟩ := hvp
  have hE0 := co2 p ok ⟨c0, c1, c2, c3, c4, c5⟩ ⟨d0, d1, d2, d3, d4, d5⟩
  rcases coCode3 p true [⟨c0, c1, c2, c3, c4, c5⟩] with hk | hk | ⟨hp, hok, hk⟩
  · rw [hk] at hE0
    have hE : Hid (coCode p ok [⟨c0, c1, c2, c3, c4, c5⟩, ⟨d0, d1, d2, d3, d4, d5⟩] = 2) := hE0
    have HK1 := Lib.hid hk; clear hk hE0
    go_enter Try.func64, Try.ntmps64
    go_wp2_with (go_at_call_of 56 (Value.agg #[.int .i64 c0, .int .i64 c1, .int .i64 c2, .int .i64 c3, .int .i64 c4, .int .i64 c5]); refine (l03Code_nil p c0 c1 c2 c3 c4 c5 _).mono ?_; rintro e w1 ⟨rfl, hb1⟩; obtain ⟨hc1, hf1⟩ := bcell hb1; have hz1 := hb1.size; (try simp only [World.size_alloc, World.size_setCell, World.size_drew] at hz1); (try (have hy1w0 : w.heap.size < w1.heap.size := by omega)); (try (have hy1w1 : w.heap.size + 1 < w1.heap.size := by omega)); (try (have hy1w2 : w.heap.size + 1 + 1 < w1.heap.size := by omega)); (try (have hy1w3 : w.heap.size + 1 + 1 + 1 < w1.heap.size := by omega)); (try (have hy1w4 : w.heap.size + 1 + 1 + 1 + 1 < w1.heap.size := by omega)); rw [HK1.out])
    go_returns
    exact ⟨ret_int hE.out.symm, by (repeat' (first | (with_reducible exact Below.refl _ _) | (with_reducible assumption) | (with_reducible refine Below.alloc ?_ ?_ _) | (with_reducible refine Below.drew ?_) | (with_reducible refine below_drewN ?_ _) | (with_reducible refine Below.setCell ?_ ?_ _) | (refine Below.step ?_ (by with_reducible assumption) ?_) | go_size))⟩
  · rw [hk] at hE0
    have hE : Hid (coCode p ok [⟨c0, c1, c2, c3, c4, c5⟩, ⟨d0, d1, d2, d3, d4, d5⟩] = 1) := hE0
    have HK1 := Lib.hid hk; clear hk hE0
    go_enter Try.func64, Try.ntmps64
    go_wp2_with (go_at_call_of 56 (Value.agg #[.int .i64 c0, .int .i64 c1, .int .i64 c2, .int .i64 c3, .int .i64 c4, .int .i64 c5]); refine (l03Code_nil p c0 c1 c2 c3 c4 c5 _).mono ?_; rintro e w1 ⟨rfl, hb1⟩; obtain ⟨hc1, hf1⟩ := bcell hb1; have hz1 := hb1.size; (try simp only [World.size_alloc, World.size_setCell, World.size_drew] at hz1); (try (have hy1w0 : w.heap.size < w1.heap.size := by omega)); (try (have hy1w1 : w.heap.size + 1 < w1.heap.size := by omega)); (try (have hy1w2 : w.heap.size + 1 + 1 < w1.heap.size := by omega)); (try (have hy1w3 : w.heap.size + 1 + 1 + 1 < w1.heap.size := by omega)); (try (have hy1w4 : w.heap.size + 1 + 1 + 1 + 1 < w1.heap.size := by omega)); rw [HK1.out])
    go_returns
    exact ⟨ret_int hE.out.symm, by (repeat' (first | (with_reducible exact Below.refl _ _) | (with_reducible assumption) | (with_reducible refine Below.alloc ?_ ?_ _) | (with_reducible refine Below.drew ?_) | (with_reducible refine below_drewN ?_ _) | (with_reducible refine Below.setCell ?_ ?_ _) | (refine Below.step ?_ (by with_reducible assumption) ?_) | go_size))⟩
  · rw [hk] at hE0
    have hE : Hid (coCode p ok [⟨c0, c1, c2, c3, c4, c5⟩, ⟨d0, d1, d2, d3, d4, d5⟩] = coCode p ok [⟨d0, d1, d2, d3, d4, d5⟩]) := hE0
    have HK1 := Lib.hid hk; clear hk hE0 hp hok
    generalize coCode p ok [⟨d0, d1, d2, d3, d4, d5⟩] = z at *
    go_enter Try.func64, Try.ntmps64
    go_wp2_with (first | (go_at_call_of 56 (Value.agg #[.int .i64 c0, .int .i64 c1, .int .i64 c2, .int .i64 c3, .int .i64 c4, .int .i64 c5]); refine (l03Code_nil p c0 c1 c2 c3 c4 c5 _).mono ?_; rintro e w1 ⟨rfl, hb1⟩; obtain ⟨hc1, hf1⟩ := bcell hb1; have hz1 := hb1.size; (try simp only [World.size_alloc, World.size_setCell, World.size_drew] at hz1); (try (have hy1w0 : w.heap.size < w1.heap.size := by omega)); (try (have hy1w1 : w.heap.size + 1 < w1.heap.size := by omega)); (try (have hy1w2 : w.heap.size + 1 + 1 < w1.heap.size := by omega)); (try (have hy1w3 : w.heap.size + 1 + 1 + 1 < w1.heap.size := by omega)); (try (have hy1w4 : w.heap.size + 1 + 1 + 1 + 1 < w1.heap.size := by omega)); rw [HK1.out]) | (go_at_call_of 56 (Value.agg #[.int .i64 d0, .int .i64 d1, .int .i64 d2, .int .i64 d3, .int .i64 d4, .int .i64 d5]); refine (HC.out _ (by (repeat' (first | (with_reducible exact Below.refl _ _) | (with_reducible assumption) | (with_reducible refine Below.alloc ?_ ?_ _) | (with_reducible refine Below.drew ?_) | (with_reducible refine below_drewN ?_ _) | (with_reducible refine Below.setCell ?_ ?_ _) | (refine Below.step ?_ (by with_reducible assumption) ?_) | go_size)))).mono ?_; rintro e w2 ⟨rfl, hb2⟩; obtain ⟨hc2, hf2⟩ := bcell hb2; have hz2 := hb2.size; (try simp only [World.size_alloc, World.size_setCell, World.size_drew] at hz2); (try (have hy2w0 : w.heap.size < w2.heap.size := by omega)); (try (have hy2w1 : w.heap.size + 1 < w2.heap.size := by omega)); (try (have hy2w2 : w.heap.size + 1 + 1 < w2.heap.size := by omega)); (try (have hy2w3 : w.heap.size + 1 + 1 + 1 < w2.heap.size := by omega)); (try (have hy2w4 : w.heap.size + 1 + 1 + 1 + 1 < w2.heap.size := by omega)); (try (have hy2w10 : w1.heap.size < w2.heap.size := by omega)); (try (have hy2w11 : w1.heap.size + 1 < w2.heap.size := by omega)); (try (have hy2w12 : w1.heap.size + 1 + 1 < w2.heap.size := by omega)); (try (have hy2w13 : w1.heap.size + 1 + 1 + 1 < w2.heap.size := by omega)); (try (have hy2w14 : w1.heap.size + 1 + 1 + 1 + 1 < w2.heap.size := by omega))))
    go_returns
    exact ⟨ret_int hE.out.symm, by (repeat' (first | (with_reducible exact Below.refl _ _) | (with_reducible assumption) | (with_reducible refine Below.alloc ?_ ?_ _) | (with_reducible refine Below.drew ?_) | (with_reducible refine below_drewN ?_ _) | (with_reducible refine Below.setCell ?_ ?_ _) | (refine Below.step ?_ (by with_reducible assumption) ?_) | go_size))⟩
theorem l04Code_nil (p c0 c1 c2 c3 c4 c5 d0 d1 d2 d3 d4 d5 : Int) (w : World) :
    Calls Try.prog 64 #[.int .i64 p, .agg #[.int .i64 c0, .int .i64 c1, .int .i64 c2, .int .i64 c3, .int .i64 c4, .int .i64 c5], .agg #[.int .i64 d0, .int .i64 d1, .int .i64 d2, .int .i64 d3, .int .i64 d4, .int .i64 d5], .slice none 0 0] w fun e w' => e = .returned (.int .i64 (coCode p true [⟨c0, c1, c2, c3, c4, c5⟩, ⟨d0, d1, d2, d3, d4, d5⟩])) ∧ Below w.heap.size w w' :=
  l04Code_go p c0 c1 c2 c3 c4 c5 d0 d1 d2 d3 d4 d5 true _ w ⟨_, _, _, rfl⟩ (fun w' _ => l03Code_nil p d0 d1 d2 d3 d4 d5 w')
theorem l04Code_any (p c0 c1 c2 c3 c4 c5 d0 d1 d2 d3 d4 d5 : Int) (b cap : Nat) (ps : List P3) (w : World) (hc : RdP w b 0 ps) (hbl : b < w.heap.size) (hm : ps.length ≤ 1000000) :
    Calls Try.prog 64 #[.int .i64 p, .agg #[.int .i64 c0, .int .i64 c1, .int .i64 c2, .int .i64 c3, .int .i64 c4, .int .i64 c5], .agg #[.int .i64 d0, .int .i64 d1, .int .i64 d2, .int .i64 d3, .int .i64 d4, .int .i64 d5], .slice (some ⟨b, 0, none⟩) ps.length cap] w fun e w' => e = .returned (.int .i64 (coCode p (allPt p ps) [⟨c0, c1, c2, c3, c4, c5⟩, ⟨d0, d1, d2, d3, d4, d5⟩])) ∧ Below w.heap.size w w' :=
  l04Code_go p c0 c1 c2 c3 c4 c5 d0 d1 d2 d3 d4 d5 (allPt p ps) _ w ⟨_, _, _, rfl⟩ (fun w' hb => l03Code_any p d0 d1 d2 d3 d4 d5 b cap ps w' (hc.below hb hbl) (Nat.lt_of_lt_of_le hbl hb.size) hm)
set_option maxHeartbeats 1000000 in
theorem l04Pencil_go (p c0 c1 c2 c3 c4 c5 d0 d1 d2 d3 d4 d5 : Int) (ok : Bool) (vp : Value) (w : World) (hvp : ∃ a n cap, vp = .slice a n cap)
    (hcall : ∀ w', Below w.heap.size w w' → Calls Try.prog 64 #[.int .i64 p, .agg #[.int .i64 c0, .int .i64 c1, .int .i64 c2, .int .i64 c3, .int .i64 c4, .int .i64 c5], .agg #[.int .i64 d0, .int .i64 d1, .int .i64 d2, .int .i64 d3, .int .i64 d4, .int .i64 d5], vp] w' fun e w'' => e = .returned (.int .i64 (coCode p ok [⟨c0, c1, c2, c3, c4, c5⟩, ⟨d0, d1, d2, d3, d4, d5⟩])) ∧ Below w'.heap.size w' w'') :
    Calls Try.prog 68 #[.int .i64 p, .agg #[.int .i64 c0, .int .i64 c1, .int .i64 c2, .int .i64 c3, .int .i64 c4, .int .i64 c5], .agg #[.int .i64 d0, .int .i64 d1, .int .i64 d2, .int .i64 d3, .int .i64 d4, .int .i64 d5], vp] w fun e w' => e = .returned (.int .i64 (pcCode p ok ⟨c0, c1, c2, c3, c4, c5⟩ ⟨d0, d1, d2, d3, d4, d5⟩)) ∧ Below w.heap.size w w' := by
  have HC := Lib.hid hcall; clear hcall
  obtain ⟨a, n, cap, rfl⟩ := hvp
  rcases coCode3 p ok [⟨c0, c1, c2, c3, c4, c5⟩, ⟨d0, d1, d2, d3, d4, d5⟩] with hk | hk | ⟨hp, hok, hk⟩
  · have hE : Hid (pcCode p ok ⟨c0, c1, c2, c3, c4, c5⟩ ⟨d0, d1, d2, d3, d4, d5⟩ = 2) := by show _ = _; unfold pcCode; rw [hk]; rfl
    rw [hk] at HC; clear hk
    go_enter Try.func68, Try.ntmps68
    go_wp2_with (go_at_call 64; refine (HC.out _ (by (repeat' (first | (with_reducible exact Below.refl _ _) | (with_reducible assumption) | (with_reducible refine Below.alloc ?_ ?_ _) | (with_reducible refine Below.drew ?_) | (with_reducible refine below_drewN ?_ _) | (with_reducible refine Below.setCell ?_ ?_ _) | (refine Below.step ?_ (by with_reducible assumption) ?_) | go_size)))).mono ?_; rintro e w1 ⟨rfl, hb1⟩; obtain ⟨hc1, hf1⟩ := bcell hb1; have hz1 := hb1.size; (try simp only [World.size_alloc, World.size_setCell, World.size_drew] at hz1); (try (have hy1w0 : w.heap.size < w1.heap.size := by omega)); (try (have hy1w1 : w.heap.size + 1 < w1.heap.size := by omega)); (try (have hy1w2 : w.heap.size + 1 + 1 < w1.heap.size := by omega)); (try (have hy1w3 : w.heap.size + 1 + 1 + 1 < w1.heap.size := by omega)); (try (have hy1w4 : w.heap.size + 1 + 1 + 1 + 1 < w1.heap.size := by omega)))
    go_returns
    exact ⟨ret_int hE.out.symm, by (repeat' (first | (with_reducible exact Below.refl _ _) | (with_reducible assumption) | (with_reducible refine Below.alloc ?_ ?_ _) | (with_reducible refine Below.drew ?_) | (with_reducible refine below_drewN ?_ _) | (with_reducible refine Below.setCell ?_ ?_ _) | (refine Below.step ?_ (by with_reducible assumption) ?_) | go_size))⟩
  · have hE : Hid (pcCode p ok ⟨c0, c1, c2, c3, c4, c5⟩ ⟨d0, d1, d2, d3, d4, d5⟩ = 1) := by show _ = _; unfold pcCode; rw [hk]; rfl
    rw [hk] at HC; clear hk
    go_enter Try.func68, Try.ntmps68
    go_wp2_with (go_at_call 64; refine (HC.out _ (by (repeat' (first | (with_reducible exact Below.refl _ _) | (with_reducible assumption) | (with_reducible refine Below.alloc ?_ ?_ _) | (with_reducible refine Below.drew ?_) | (with_reducible refine below_drewN ?_ _) | (with_reducible refine Below.setCell ?_ ?_ _) | (refine Below.step ?_ (by with_reducible assumption) ?_) | go_size)))).mono ?_; rintro e w1 ⟨rfl, hb1⟩; obtain ⟨hc1, hf1⟩ := bcell hb1; have hz1 := hb1.size; (try simp only [World.size_alloc, World.size_setCell, World.size_drew] at hz1); (try (have hy1w0 : w.heap.size < w1.heap.size := by omega)); (try (have hy1w1 : w.heap.size + 1 < w1.heap.size := by omega)); (try (have hy1w2 : w.heap.size + 1 + 1 < w1.heap.size := by omega)); (try (have hy1w3 : w.heap.size + 1 + 1 + 1 < w1.heap.size := by omega)); (try (have hy1w4 : w.heap.size + 1 + 1 + 1 + 1 < w1.heap.size := by omega)))
    go_returns
    exact ⟨ret_int hE.out.symm, by (repeat' (first | (with_reducible exact Below.refl _ _) | (with_reducible assumption) | (with_reducible refine Below.alloc ?_ ?_ _) | (with_reducible refine Below.drew ?_) | (with_reducible refine below_drewN ?_ _) | (with_reducible refine Below.setCell ?_ ?_ _) | (refine Below.step ?_ (by with_reducible assumption) ?_) | go_size))⟩
  · have hq := fun w' => eqC6 (t := 24) Try.underlying24 ⟨c0, c1, c2, c3, c4, c5⟩ ⟨d0, d1, d2, d3, d4, d5⟩ w'
    have hE0 : pcCode p ok ⟨c0, c1, c2, c3, c4, c5⟩ ⟨d0, d1, d2, d3, d4, d5⟩ = if (⟨c0, c1, c2, c3, c4, c5⟩ : C6) = ⟨d0, d1, d2, d3, d4, d5⟩ then 5 else 0 := by unfold pcCode; rw [hk]; rfl
    rw [hk] at HC; clear hk hp hok
    by_cases h : (⟨c0, c1, c2, c3, c4, c5⟩ : C6) = ⟨d0, d1, d2, d3, d4, d5⟩
    · rw [if_pos h] at hE0
      have hE := Lib.hid hE0
      simp only [h, decide_true] at hq
      clear hE0 h
      go_enter Try.func68, Try.ntmps68
      go_wp2_with (go_at_call 64; refine (HC.out _ (by (repeat' (first | (with_reducible exact Below.refl _ _) | (with_reducible assumption) | (with_reducible refine Below.alloc ?_ ?_ _) | (with_reducible refine Below.drew ?_) | (with_reducible refine below_drewN ?_ _) | (with_reducible refine Below.setCell ?_ ?_ _) | (refine Below.step ?_ (by with_reducible assumption) ?_) | go_size)))).mono ?_; rintro e w1 ⟨rfl, hb1⟩; obtain ⟨hc1, hf1⟩ := bcell hb1; have hz1 := hb1.size; (try simp only [World.size_alloc, World.size_setCell, World.size_drew] at hz1); (try (have hy1w0 : w.heap.size < w1.heap.size := by omega)); (try (have hy1w1 : w.heap.size + 1 < w1.heap.size := by omega)); (try (have hy1w2 : w.heap.size + 1 + 1 < w1.heap.size := by omega)); (try (have hy1w3 : w.heap.size + 1 + 1 + 1 < w1.heap.size := by omega)); (try (have hy1w4 : w.heap.size + 1 + 1 + 1 + 1 < w1.heap.size := by omega)))
      go_returns
      exact ⟨ret_int hE.out.symm, by (repeat' (first | (with_reducible exact Below.refl _ _) | (with_reducible assumption) | (with_reducible refine Below.alloc ?_ ?_ _) | (with_reducible refine Below.drew ?_) | (with_reducible refine below_drewN ?_ _) | (with_reducible refine Below.setCell ?_ ?_ _) | (refine Below.step ?_ (by with_reducible assumption) ?_) | go_size))⟩
    · rw [if_neg h] at hE0
      have hE := Lib.hid hE0
      simp only [h, decide_false] at hq
      clear hE0 h
      go_enter Try.func68, Try.ntmps68
      go_wp2_with (go_at_call 64; refine (HC.out _ (by (repeat' (first | (with_reducible exact Below.refl _ _) | (with_reducible assumption) | (with_reducible refine Below.alloc ?_ ?_ _) | (with_reducible refine Below.drew ?_) | (with_reducible refine below_drewN ?_ _) | (with_reducible refine Below.setCell ?_ ?_ _) | (refine Below.step ?_ (by with_reducible assumption) ?_) | go_size)))).mono ?_; rintro e w1 ⟨rfl, hb1⟩; obtain ⟨hc1, hf1⟩ := bcell hb1; have hz1 := hb1.size; (try simp only [World.size_alloc, World.size_setCell, World.size_drew] at hz1); (try (have hy1w0 : w.heap.size < w1.heap.size := by omega)); (try (have hy1w1 : w.heap.size + 1 < w1.heap.size := by omega)); (try (have hy1w2 : w.heap.size + 1 + 1 < w1.heap.size := by omega)); (try (have hy1w3 : w.heap.size + 1 + 1 + 1 < w1.heap.size := by omega)); (try (have hy1w4 : w.heap.size + 1 + 1 + 1 + 1 < w1.heap.size := by omega)))
      go_returns
      exact ⟨ret_int hE.out.symm, by (repeat' (first | (with_reducible exact Below.refl _ _) | (with_reducible assumption) | (with_reducible refine Below.alloc ?_ ?_ _) | (with_reducible refine Below.drew ?_) | (with_reducible refine below_drewN ?_ _) | (with_reducible refine Below.setCell ?_ ?_ _) | (refine Below.step ?_ (by with_reducible assumption) ?_) | go_size))⟩
theorem l04Pencil_nil (p c0 c1 c2 c3 c4 c5 d0 d1 d2 d3 d4 d5 : Int) (w : World) :
    Calls Try.prog 68 #[.int .i64 p, .agg #[.int .i64 c0, .int .i64 c1, .int .i64 c2, .int .i64 c3, .int .i64 c4, .int .i64 c5], .agg #[.int .i64 d0, .int .i64 d1, .int .i64 d2, .int .i64 d3, .int .i64 d4, .int .i64 d5], .slice none 0 0] w fun e w' => e = .returned (.int .i64 (pcCode p true ⟨c0, c1, c2, c3, c4, c5⟩ ⟨d0, d1, d2, d3, d4, d5⟩)) ∧ Below w.heap.size w w' :=
  l04Pencil_go p c0 c1 c2 c3 c4 c5 d0 d1 d2 d3 d4 d5 true _ w ⟨_, _, _, rfl⟩ (fun w' _ => l04Code_nil p c0 c1 c2 c3 c4 c5 d0 d1 d2 d3 d4 d5 w')
theorem l04Pencil_any (p c0 c1 c2 c3 c4 c5 d0 d1 d2 d3 d4 d5 : Int) (b cap : Nat) (ps : List P3) (w : World) (hc : RdP w b 0 ps) (hbl : b < w.heap.size) (hm : ps.length ≤ 1000000) :
    Calls Try.prog 68 #[.int .i64 p, .agg #[.int .i64 c0, .int .i64 c1, .int .i64 c2, .int .i64 c3, .int .i64 c4, .int .i64 c5], .agg #[.int .i64 d0, .int .i64 d1, .int .i64 d2, .int .i64 d3, .int .i64 d4, .int .i64 d5], .slice (some ⟨b, 0, none⟩) ps.length cap] w fun e w' => e = .returned (.int .i64 (pcCode p (allPt p ps) ⟨c0, c1, c2, c3, c4, c5⟩ ⟨d0, d1, d2, d3, d4, d5⟩)) ∧ Below w.heap.size w w' :=
  l04Pencil_go p c0 c1 c2 c3 c4 c5 d0 d1 d2 d3 d4 d5 (allPt p ps) _ w ⟨_, _, _, rfl⟩ (fun w' hb => l04Code_any p c0 c1 c2 c3 c4 c5 d0 d1 d2 d3 d4 d5 b cap ps w' (hc.below hb hbl) (Nat.lt_of_lt_of_le hbl hb.size) hm)
end Go.Proofs.Ytemimkbngfbomaa
