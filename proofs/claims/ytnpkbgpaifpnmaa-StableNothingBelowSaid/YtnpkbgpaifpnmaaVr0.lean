/- Two facts on the program. -/
import Derived.Test.YtnpkbgpaifpnmaaRows
import Derived.Test.YtnpkbgpaifpnmaaVl4
set_option linter.unusedVariables false
namespace Go.Proofs.Ytnpkbgpaifpnmaa.Vc
open Go Go.Proofs Go.Proofs.Ytnpkbgpaifpnmaa

theorem Try_own : ownKnob Try.prog.godebug = none := by kernel_rfl
theorem Try_laidOut : laidOutB Try.prog = true := by kernel_rfl
end Go.Proofs.Ytnpkbgpaifpnmaa.Vc
