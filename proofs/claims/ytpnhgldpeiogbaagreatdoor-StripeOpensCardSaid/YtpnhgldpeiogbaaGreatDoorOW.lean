/- The functions, each with its twin, and plain facts about them. -/
import Derived.Test.YtpnhgldpeiogbaaGreatDoorOH3
namespace Go.Proofs.YtpnhgldpeiogbaaGreatDoor
open Go.Tw
set_option linter.unusedSimpArgs false
set_option linter.unusedVariables false
theorem awake8:T8 50000=some true:=by kernel_rfl
end Go.Proofs.YtpnhgldpeiogbaaGreatDoor
