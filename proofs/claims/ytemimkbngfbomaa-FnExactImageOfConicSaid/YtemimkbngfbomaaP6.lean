/- Sums and differences of products of small numbers: they do not wrap. -/
import Derived.Test.YtemimkbngfbomaaW1
namespace Go.Proofs.Ytemimkbngfbomaa
set_option linter.unusedSimpArgs false
set_option linter.unusedVariables false
theorem wsm0 {x : Int} (h1 : -1000 ≤ x) (h2 : x ≤ 1000) : IntKind.i64.wrap x = x := by go_arith
theorem dtw (p : Int) {a0 a1 a2 b0 b1 b2 : Int} (h0 : sm a0) (h1 : sm a1) (h2 : sm a2) (g0 : sm b0) (g1 : sm b1) (g2 : sm b2) :
    IntKind.i64.wrap (a0 * b0) = a0 * b0 ∧ IntKind.i64.wrap (a1 * b1) = a1 * b1 ∧ IntKind.i64.wrap (a2 * b2) = a2 * b2 ∧ IntKind.i64.wrap (a0 * b0 + a1 * b1) = a0 * b0 + a1 * b1 ∧
    IntKind.i64.wrap (a0 * b0 + a1 * b1 + a2 * b2) = a0 * b0 + a1 * b1 + a2 * b2 ∧ (a0 * b0 + a1 * b1 + a2 * b2).tmod p = (a0 * b0 + a1 * b1 + a2 * b2) % p := by
  obtain ⟨l0, u0⟩ := h0; obtain ⟨l1, u1⟩ := h1; obtain ⟨l2, u2⟩ := h2; obtain ⟨c0, d0⟩ := g0; obtain ⟨c1, d1⟩ := g1; obtain ⟨c2, d2⟩ := g2
  have ⟨e0, f0⟩ := mul_bd (a := a0) (b := b0) (A := 12) (B := 12) (by omega) (by omega) (by omega) (by omega)
  have ⟨e1, f1⟩ := mul_bd (a := a1) (b := b1) (A := 12) (B := 12) (by omega) (by omega) (by omega) (by omega)
  have ⟨e2, f2⟩ := mul_bd (a := a2) (b := b2) (A := 12) (B := 12) (by omega) (by omega) (by omega) (by omega)
  exact ⟨wsm0 (by omega) (by omega), wsm0 (by omega) (by omega), wsm0 (by omega) (by omega), wsm0 (by omega) (by omega), wsm0 (by omega) (by omega), Int.tmod_eq_emod_of_nonneg (by omega)⟩
theorem wsm2 {x : Int} (h1 : -1000 ≤ x) (h2 : x ≤ 1000) : IntKind.i64.wrap x = x := by go_arith
theorem detw {a b c d : Int} (h0 : sm a) (h1 : sm b) (h2 : sm c) (h3 : sm d) : IntKind.i64.wrap (a * b) = a * b ∧ IntKind.i64.wrap (c * d) = c * d ∧ IntKind.i64.wrap (a * b - c * d) = a * b - c * d := by
  obtain ⟨l0, u0⟩ := h0; obtain ⟨l1, u1⟩ := h1; obtain ⟨l2, u2⟩ := h2; obtain ⟨l3, u3⟩ := h3
  have ⟨e0, f0⟩ := mul_bd (a := a) (b := b) (A := 12) (B := 12) (by omega) (by omega) (by omega) (by omega)
  have ⟨e1, f1⟩ := mul_bd (a := c) (b := d) (A := 12) (B := 12) (by omega) (by omega) (by omega) (by omega)
  exact ⟨wsm2 (by omega) (by omega), wsm2 (by omega) (by omega), wsm2 (by omega) (by omega)⟩
end Go.Proofs.Ytemimkbngfbomaa
