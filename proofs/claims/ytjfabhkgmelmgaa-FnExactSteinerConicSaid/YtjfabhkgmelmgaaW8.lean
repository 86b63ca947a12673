/- The exported functions JoinOf and MeetOf, in the program and in the reference; no condition. -/
import Derived.Test.YtjfabhkgmelmgaaW7
import Derived.Test.YtjfabhkgmelmgaaE1
namespace Go.Proofs.Ytjfabhkgmelmgaa
open Go.RowKit
set_option linter.unusedSimpArgs false
set_option linter.unusedVariables false
set_option maxRecDepth 100000
