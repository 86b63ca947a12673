/- The exported functions JoinOf and MeetOf, in the program and in the reference; no condition. -/
import Derived.Test.YtphiohmeahpofaaW7
import Derived.Test.YtphiohmeahpofaaE1
namespace Go.Proofs.Ytphiohmeahpofaa
open Go.RowKit
set_option linter.unusedSimpArgs false
set_option linter.unusedVariables false
set_option maxRecDepth 100000
