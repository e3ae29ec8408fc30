/- Two facts on the program. -/
import Derived.Test.YtgkdipfmhjlbhaaRows
import Derived.Test.YtgkdipfmhjlbhaaVl4
set_option linter.unusedVariables false
namespace Go.Proofs.Ytgkdipfmhjlbhaa.Vc
open Go Go.Proofs Go.Proofs.Ytgkdipfmhjlbhaa

theorem Try_own : ownKnob Try.prog.godebug = none := by kernel_rfl
theorem Try_laidOut : laidOutB Try.prog = true := by kernel_rfl
end Go.Proofs.Ytgkdipfmhjlbhaa.Vc
