/- Products and inverses of Moebius maps, in the program and in the reference. -/
import Derived.Test.YtemimkbngfbomaaW10
namespace Go.Proofs.Ytemimkbngfbomaa
open Go.RowKit
set_option linter.unusedSimpArgs false
set_option linter.unusedVariables false
set_option maxRecDepth 100000

/-- The Moebius map with the normal list of four numbers. -/
def nm4 (p a b c d : Int) : M4 := ⟨nr p (fac p [a, b, c, d]) a, nr p (fac p [a, b, c, d]) b, nr p (fac p [a, b, c, d]) c, nr p (fac p [a, b, c, d]) d⟩
/-- The product. -/
def moMul (p : Int) (m n : M4) : M4 := nm4 p (m.a * n.a + m.b * n.c) (m.a * n.b + m.b * n.d) (m.c * n.a + m.d * n.c) (m.c * n.b + m.d * n.d)
def moInv (p : Int) (m : M4) : M4 := nm4 p m.d (-m.b) (-m.c) m.a
def moMulR (p : Int) (m n : M4) : M4 × Int := if moCode p [m, n] = 0 then (moMul p m n, 0) else (⟨0, 0, 0, 0⟩, moCode p [m, n])
def moInvR (p : Int) (m : M4) : M4 × Int := if moCode p [m] = 0 then (moInv p m, 0) else (⟨0, 0, 0, 0⟩, moCode p [m])
theorem moCode3 (p : Int) (es : List M4) : moCode p es = 2 ∨ moCode p es = 1 ∨ (isP p = true ∧ es.all (isMoE p) = true ∧ moCode p es = 0) := code3 p _
set_option maxHeartbeats 600000 in
theorem l05Made_any (p a b c d : Int) (w : World) (hp : isP p = true) :
    Calls Try.prog 140 #[.int .i64 p, .int .i64 a, .int .i64 b, .int .i64 c, .int .i64 d] w fun e w' => e = .returned (.agg #[.int .i64 (nm4 p a b c d).a, .int .i64 (nm4 p a b c d).b, .int .i64 (nm4 p a b c d).c, .int .i64 (nm4 p a b c d).d]) ∧ Below w.heap.size w w' := by
  go_enter Try.func140, Try.ntmps140
  go_wp2_with (fail)
  refine (l01Norm_ne p _ _ _ [a, b, c, d] _ hp (rd4 (by go_cell) (by go_cell) (by go_cell) (by go_cell)) (by go_size) (by simp) (by simp)).mono ?_
  rintro e w1 ⟨g, cap, rfl, hg, hg2, hR, hfr, hb1⟩
  obtain ⟨hc1, hf1⟩ := bcell hb1; have hz1 := hb1.size; (try simp only [World.size_alloc, World.size_setCell, World.size_drew] at hz1); (try (have hy1w0 : w.heap.size < w1.heap.size := by omega)); (try (have hy1w1 : w.heap.size + 1 < w1.heap.size := by omega)); (try (have hy1w2 : w.heap.size + 1 + 1 < w1.heap.size := by omega)); (try (have hy1w3 : w.heap.size + 1 + 1 + 1 < w1.heap.size := by omega)); (try (have hy1w4 : w.heap.size + 1 + 1 + 1 + 1 < w1.heap.size := by omega))
  have r1_0 := keepC hb1 (b := w.heap.size) (o := 0) (v := .int .i64 0) (by go_cell); have r1_1 := keepC hb1 (b := w.heap.size) (o := 1) (v := .int .i64 0) (by go_cell); have r1_2 := keepC hb1 (b := w.heap.size) (o := 2) (v := .int .i64 0) (by go_cell); have r1_3 := keepC hb1 (b := w.heap.size) (o := 3) (v := .int .i64 0) (by go_cell)
  have c0 := hR 0 _ rfl
  have c1 := hR 1 _ rfl
  have c2 := hR 2 _ rfl
  have c3 := hR 3 _ rfl
  clear hR hfr
  simp only [Nat.zero_add] at c0 c1 c2 c3
  go_wp2
  try (go_region; go_wp2)
  (try simp only [Exit.inBlock, Exit.then]); refine bodyPost_ret (by simp [results, Try.results140, go_sem, *]; try rfl) rfl ?_
  exact ⟨rfl, by (repeat' (first | (with_reducible exact Below.refl _ _) | (with_reducible assumption) | (with_reducible refine Below.alloc ?_ ?_ _) | (with_reducible refine Below.drew ?_) | (with_reducible refine below_drewN ?_ _) | (with_reducible refine Below.setCell ?_ ?_ _) | (refine Below.step ?_ (by with_reducible assumption) ?_) | go_size))⟩

set_option maxHeartbeats 600000 in
theorem l05Times_any (p a0 a1 a2 a3 b0 b1 b2 b3 : Int) (w : World) (hp : isP p = true) (sa0 : sm a0) (sa1 : sm a1) (sa2 : sm a2) (sa3 : sm a3) (sb0 : sm b0) (sb1 : sm b1) (sb2 : sm b2) (sb3 : sm b3) :
    Calls Try.prog 122 #[.int .i64 p, .agg #[.int .i64 a0, .int .i64 a1, .int .i64 a2, .int .i64 a3], .agg #[.int .i64 b0, .int .i64 b1, .int .i64 b2, .int .i64 b3]] w fun e w' => e = .returned (.agg #[.int .i64 (moMul p ⟨a0, a1, a2, a3⟩ ⟨b0, b1, b2, b3⟩).a, .int .i64 (moMul p ⟨a0, a1, a2, a3⟩ ⟨b0, b1, b2, b3⟩).b, .int .i64 (moMul p ⟨a0, a1, a2, a3⟩ ⟨b0, b1, b2, b3⟩).c, .int .i64 (moMul p ⟨a0, a1, a2, a3⟩ ⟨b0, b1, b2, b3⟩).d]) ∧ Below w.heap.size w w' := by
  have ⟨la0, ua0⟩ := sa0; have ⟨la1, ua1⟩ := sa1; have ⟨la2, ua2⟩ := sa2; have ⟨la3, ua3⟩ := sa3; have ⟨lb0, ub0⟩ := sb0; have ⟨lb1, ub1⟩ := sb1; have ⟨lb2, ub2⟩ := sb2; have ⟨lb3, ub3⟩ := sb3
  have ⟨ea0b0, fa0b0⟩ := mul_bd (a := a0) (b := b0) (A := 12) (B := 12) (by omega) (by omega) (by omega) (by omega); have ⟨ea1b2, fa1b2⟩ := mul_bd (a := a1) (b := b2) (A := 12) (B := 12) (by omega) (by omega) (by omega) (by omega); have ⟨ea0b1, fa0b1⟩ := mul_bd (a := a0) (b := b1) (A := 12) (B := 12) (by omega) (by omega) (by omega) (by omega); have ⟨ea1b3, fa1b3⟩ := mul_bd (a := a1) (b := b3) (A := 12) (B := 12) (by omega) (by omega) (by omega) (by omega); have ⟨ea2b0, fa2b0⟩ := mul_bd (a := a2) (b := b0) (A := 12) (B := 12) (by omega) (by omega) (by omega) (by omega); have ⟨ea3b2, fa3b2⟩ := mul_bd (a := a3) (b := b2) (A := 12) (B := 12) (by omega) (by omega) (by omega) (by omega); have ⟨ea2b1, fa2b1⟩ := mul_bd (a := a2) (b := b1) (A := 12) (B := 12) (by omega) (by omega) (by omega) (by omega); have ⟨ea3b3, fa3b3⟩ := mul_bd (a := a3) (b := b3) (A := 12) (B := 12) (by omega) (by omega) (by omega) (by omega)
  go_enter Try.func122, Try.ntmps122
  go_wp2_with (go_at_call 140; refine (l05Made_any _ _ _ _ _ _ hp).mono ?_; rintro e w1 ⟨rfl, hb1⟩; obtain ⟨hc1, hf1⟩ := bcell hb1; have hz1 := hb1.size; (try simp only [World.size_alloc, World.size_setCell, World.size_drew] at hz1); (try (have hy1w0 : w.heap.size < w1.heap.size := by omega)); (try (have hy1w1 : w.heap.size + 1 < w1.heap.size := by omega)); (try (have hy1w2 : w.heap.size + 1 + 1 < w1.heap.size := by omega)); (try (have hy1w3 : w.heap.size + 1 + 1 + 1 < w1.heap.size := by omega)); (try (have hy1w4 : w.heap.size + 1 + 1 + 1 + 1 < w1.heap.size := by omega)); have r1_0 := keepC hb1 (b := w.heap.size + 1 + 1) (o := 0) (v := .int .i64 0) (by go_cell); have r1_1 := keepC hb1 (b := w.heap.size + 1 + 1) (o := 1) (v := .int .i64 0) (by go_cell); have r1_2 := keepC hb1 (b := w.heap.size + 1 + 1) (o := 2) (v := .int .i64 0) (by go_cell); have r1_3 := keepC hb1 (b := w.heap.size + 1 + 1) (o := 3) (v := .int .i64 0) (by go_cell))
  (try simp only [Exit.inBlock, Exit.then]); refine bodyPost_ret (by simp [results, Try.results122, go_sem, *]; try rfl) rfl ?_
  exact ⟨rfl, by (repeat' (first | (with_reducible exact Below.refl _ _) | (with_reducible assumption) | (with_reducible refine Below.alloc ?_ ?_ _) | (with_reducible refine Below.drew ?_) | (with_reducible refine below_drewN ?_ _) | (with_reducible refine Below.setCell ?_ ?_ _) | (refine Below.step ?_ (by with_reducible assumption) ?_) | go_size))⟩

set_option maxHeartbeats 600000 in
theorem l05Back_any (p a0 a1 a2 a3 : Int) (w : World) (hp : isP p = true) (sa0 : sm a0) (sa1 : sm a1) (sa2 : sm a2) (sa3 : sm a3) :
    Calls Try.prog 129 #[.int .i64 p, .agg #[.int .i64 a0, .int .i64 a1, .int .i64 a2, .int .i64 a3]] w fun e w' => e = .returned (.agg #[.int .i64 (moInv p ⟨a0, a1, a2, a3⟩).a, .int .i64 (moInv p ⟨a0, a1, a2, a3⟩).b, .int .i64 (moInv p ⟨a0, a1, a2, a3⟩).c, .int .i64 (moInv p ⟨a0, a1, a2, a3⟩).d]) ∧ Below w.heap.size w w' := by
  have ⟨la0, ua0⟩ := sa0; have ⟨la1, ua1⟩ := sa1; have ⟨la2, ua2⟩ := sa2; have ⟨la3, ua3⟩ := sa3
  go_enter Try.func129, Try.ntmps129
  go_wp2_with (go_at_call 140; refine (l05Made_any _ _ _ _ _ _ hp).mono ?_; rintro e w1 ⟨rfl, hb1⟩; obtain ⟨hc1, hf1⟩ := bcell hb1; have hz1 := hb1.size; (try simp only [World.size_alloc, World.size_setCell, World.size_drew] at hz1); (try (have hy1w0 : w.heap.size < w1.heap.size := by omega)); (try (have hy1w1 : w.heap.size + 1 < w1.heap.size := by omega)); (try (have hy1w2 : w.heap.size + 1 + 1 < w1.heap.size := by omega)); (try (have hy1w3 : w.heap.size + 1 + 1 + 1 < w1.heap.size := by omega)); (try (have hy1w4 : w.heap.size + 1 + 1 + 1 + 1 < w1.heap.size := by omega)); have r1_0 := keepC hb1 (b := w.heap.size + 1) (o := 0) (v := .int .i64 0) (by go_cell); have r1_1 := keepC hb1 (b := w.heap.size + 1) (o := 1) (v := .int .i64 0) (by go_cell); have r1_2 := keepC hb1 (b := w.heap.size + 1) (o := 2) (v := .int .i64 0) (by go_cell); have r1_3 := keepC hb1 (b := w.heap.size + 1) (o := 3) (v := .int .i64 0) (by go_cell))
  (try simp only [Exit.inBlock, Exit.then]); refine bodyPost_ret (by simp [results, Try.results129, go_sem, *]; try rfl) rfl ?_
  exact ⟨rfl, by (repeat' (first | (with_reducible exact Below.refl _ _) | (with_reducible assumption) | (with_reducible refine Below.alloc ?_ ?_ _) | (with_reducible refine Below.drew ?_) | (with_reducible refine below_drewN ?_ _) | (with_reducible refine Below.setCell ?_ ?_ _) | (refine Below.step ?_ (by with_reducible assumption) ?_) | go_size))⟩

set_option maxHeartbeats 600000 in
theorem moThen_any (p a0 a1 a2 a3 b0 b1 b2 b3 : Int) (w : World) (hp : isP p = true) (sa0 : sm a0) (sa1 : sm a1) (sa2 : sm a2) (sa3 : sm a3) (sb0 : sm b0) (sb1 : sm b1) (sb2 : sm b2) (sb3 : sm b3) :
    Calls Try.prog 127 #[.agg #[.int .i64 a0, .int .i64 a1, .int .i64 a2, .int .i64 a3], .int .i64 p, .agg #[.int .i64 b0, .int .i64 b1, .int .i64 b2, .int .i64 b3]] w fun e w' => e = .returned (.agg #[.int .i64 (moMul p ⟨a0, a1, a2, a3⟩ ⟨b0, b1, b2, b3⟩).a, .int .i64 (moMul p ⟨a0, a1, a2, a3⟩ ⟨b0, b1, b2, b3⟩).b, .int .i64 (moMul p ⟨a0, a1, a2, a3⟩ ⟨b0, b1, b2, b3⟩).c, .int .i64 (moMul p ⟨a0, a1, a2, a3⟩ ⟨b0, b1, b2, b3⟩).d]) ∧ Below w.heap.size w w' := by
  have ⟨la0, ua0⟩ := sa0; have ⟨la1, ua1⟩ := sa1; have ⟨la2, ua2⟩ := sa2; have ⟨la3, ua3⟩ := sa3; have ⟨lb0, ub0⟩ := sb0; have ⟨lb1, ub1⟩ := sb1; have ⟨lb2, ub2⟩ := sb2; have ⟨lb3, ub3⟩ := sb3
  have ⟨ea0b0, fa0b0⟩ := mul_bd (a := a0) (b := b0) (A := 12) (B := 12) (by omega) (by omega) (by omega) (by omega); have ⟨ea1b2, fa1b2⟩ := mul_bd (a := a1) (b := b2) (A := 12) (B := 12) (by omega) (by omega) (by omega) (by omega); have ⟨ea0b1, fa0b1⟩ := mul_bd (a := a0) (b := b1) (A := 12) (B := 12) (by omega) (by omega) (by omega) (by omega); have ⟨ea1b3, fa1b3⟩ := mul_bd (a := a1) (b := b3) (A := 12) (B := 12) (by omega) (by omega) (by omega) (by omega); have ⟨ea2b0, fa2b0⟩ := mul_bd (a := a2) (b := b0) (A := 12) (B := 12) (by omega) (by omega) (by omega) (by omega); have ⟨ea3b2, fa3b2⟩ := mul_bd (a := a3) (b := b2) (A := 12) (B := 12) (by omega) (by omega) (by omega) (by omega); have ⟨ea2b1, fa2b1⟩ := mul_bd (a := a2) (b := b1) (A := 12) (B := 12) (by omega) (by omega) (by omega) (by omega); have ⟨ea3b3, fa3b3⟩ := mul_bd (a := a3) (b := b3) (A := 12) (B := 12) (by omega) (by omega) (by omega) (by omega)
  go_enter Try.func127, Try.ntmps127
  go_wp2_with (go_at_call 55; refine (normal4 p _ _ (a0 * b0 + a1 * b2) (a0 * b1 + a1 * b3) (a2 * b0 + a3 * b2) (a2 * b1 + a3 * b3) _ hp (by go_cell) (by go_cell) (by go_cell) (by go_cell) (by go_cell) (by go_cell) (by go_cell) (by go_cell)).mono ?_; rintro e w' ⟨rfl, rfl⟩)
  go_returns
  exact ⟨rfl, by (repeat' (first | (with_reducible exact Below.refl _ _) | (with_reducible assumption) | (with_reducible refine Below.alloc ?_ ?_ _) | (with_reducible refine Below.drew ?_) | (with_reducible refine below_drewN ?_ _) | (with_reducible refine Below.setCell ?_ ?_ _) | (refine Below.step ?_ (by with_reducible assumption) ?_) | go_size))⟩
