/- Three points of a line and cross ratios, in the program and in the reference. -/
import Derived.Test.YtjfabhkgmelmgaaW18
import Derived.Test.YtjfabhkgmelmgaaW4
import Derived.Test.YtjfabhkgmelmgaaW8
namespace Go.Proofs.Ytjfabhkgmelmgaa
open Go.RowKit
set_option linter.unusedSimpArgs false
set_option linter.unusedVariables false
set_option maxRecDepth 100000


/-- Three different points of a line. -/
def three (p : Int) (a b c : P3) : Bool := decide (a ≠ b) && (decide (a ≠ c) && (decide (b ≠ c) && (det3 p a.x a.y a.z b.x b.y b.z c.x c.y c.z == 0)))
theorem ne3 {a0 a1 a2 b0 b1 b2 : Int} (h : ¬(a0 = b0 ∧ a1 = b1 ∧ a2 = b2)) : (⟨a0, a1, a2⟩ : P3) ≠ ⟨b0, b1, b2⟩ := by
  intro e; injection e with e0 e1 e2; exact h ⟨e0, e1, e2⟩