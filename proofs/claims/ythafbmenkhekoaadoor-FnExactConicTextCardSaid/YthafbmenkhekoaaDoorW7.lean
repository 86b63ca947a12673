/- Points out of three numbers, what is on both of two lines, joins and meets, in the program and in the reference. -/
import Derived.Test.YthafbmenkhekoaaDoorW6
namespace Go.Proofs.YthafbmenkhekoaaDoor
open Go.RowKit
set_option linter.unusedSimpArgs false
set_option linter.unusedVariables false
set_option maxRecDepth 100000
