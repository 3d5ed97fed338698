/- The plain law. -/
import Derived.Test.YtiahcmabcbpcpaaGreatDoormJ
set_option linter.unusedSimpArgs false
set_option linter.unusedVariables false
set_option maxRecDepth 100000
namespace Go.Tw
end Go.Tw
