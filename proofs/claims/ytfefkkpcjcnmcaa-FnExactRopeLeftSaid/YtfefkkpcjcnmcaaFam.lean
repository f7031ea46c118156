/- The laws' copiers and comparers, together. -/
import Derived.Test.YtfefkkpcjcnmcaaFmP
import Derived.Test.YtfefkkpcjcnmcaaFmK
import Derived.Test.YtfefkkpcjcnmcaaFmG
import Derived.Test.YtfefkkpcjcnmcaaFmH
namespace Go.Proofs.Ytfefkkpcjcnmcaa
end Go.Proofs.Ytfefkkpcjcnmcaa
