/- Rows of numbers: equal ones compare as equal. -/
import Derived.Test.YtfefkkpcjcnmcaaEqA
namespace Go.Proofs.Ytfefkkpcjcnmcaa
set_option linter.unusedVariables false
set_option linter.unusedSimpArgs false
open Go.RowKit Mem
attribute [local irreducible] Calm.wpLex

end Go.Proofs.Ytfefkkpcjcnmcaa
