/- How points are compared. -/
import Derived.Test.YtemimkbngfbomaaE1
import Derived.Test.YtemimkbngfbomaaP2
namespace Go.Proofs.Ytemimkbngfbomaa
open Go.RowKit
set_option linter.unusedSimpArgs false
set_option linter.unusedVariables false
set_option maxRecDepth 100000

theorem eqP3 {t : Nat} (ht : Try.prog.underlying t = some (.array 3 2)) (a b : P3) (w : World) :
    (binOp .eql t (.agg #[.int .i64 a.x, .int .i64 a.y, .int .i64 a.z]) (.agg #[.int .i64 b.x, .int .i64 b.y, .int .i64 b.z])).run Try.prog w = .ok (.bool (decide (a = b))) w ∧
    (binOp .neq t (.agg #[.int .i64 a.x, .int .i64 a.y, .int .i64 a.z]) (.agg #[.int .i64 b.x, .int .i64 b.y, .int .i64 b.z])).run Try.prog w = .ok (.bool (!decide (a = b))) w := by
  by_cases h : a = b
  · subst h
    have := eq3_yes ht a.x a.y a.z w
    simpa using this
  · have := eq3_no ht (a0 := a.x) (a1 := a.y) (a2 := a.z) (b0 := b.x) (b1 := b.y) (b2 := b.z) (by rintro ⟨h0, h1, h2⟩; apply h; cases a; cases b; simp only at h0 h1 h2; rw [h0, h1, h2]) w
    simpa [h] using this
end Go.Proofs.Ytemimkbngfbomaa
