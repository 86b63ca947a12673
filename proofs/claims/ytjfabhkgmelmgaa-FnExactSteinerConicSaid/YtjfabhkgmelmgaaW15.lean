/- The points, and the lines, for which something is so: what the program's helpers return when the question is asked by a closure with two captured values. -/
import Derived.Test.YtjfabhkgmelmgaaW14
import Derived.Test.YtjfabhkgmelmgaaW4
namespace Go.Proofs.Ytjfabhkgmelmgaa
open Go.RowKit
set_option linter.unusedSimpArgs false
set_option linter.unusedVariables false
set_option maxRecDepth 100000

/-- What a closure with two captured values answers of each point. -/
def Asks2 (K : Nat) (c1 c2 : Value) (good : P3 → Bool) (ps : List P3) (w : World) : Prop :=
  ∀ a, a ∈ ps → ∀ w', Below w.heap.size w w' → Calls Try.prog K #[.agg #[.int .i64 (P3.x a), .int .i64 a.y, .int .i64 a.z], c1, c2] w' fun e w'' => e = .returned (.bool (good a)) ∧ Below w'.heap.size w' w''