/- The points on a line and the lines through a point, in the program and in the reference. -/
import Derived.Test.YthlmodofgoelbaaW15

import Derived.StillTailTactics
namespace Go.Proofs.Ythlmodofgoelbaa
open Go.RowKit
set_option linter.unusedSimpArgs false
set_option linter.unusedVariables false
set_option maxRecDepth 100000

def PtsPost2 (E : Nat) (R : List P3 × Int) (w : World) (e : Ending) (w' : World) : Prop :=
  ∃ v, e = .returned (.tuple #[v, .int .i64 R.2]) ∧ OwnA E 3 w' w.heap.size v (rowsP R.1) ∧ Below w.heap.size w w'
theorem onR_len (p : Int) (l : P3) : Hid ((rowsP (onR p l).1).length ≤ 1000000) := by
  show _ ≤ _
  rw [rowsP_len]
  unfold onR
  cases hp : isP p
  · simp [codeOf, hp]
  · have := onP_len hp l
    split <;> simp; omega
