/- The contract of the law's Elements. -/
import Derived.Test.YtmnekhliblkibaaCase
import Derived.Test.YtmnekhliblkibaaAllsC
namespace Go.Proofs.Ytmnekhliblkibaa
open Go.RowKit
set_option maxRecDepth 1000000
set_option linter.unusedVariables false
set_option linter.unusedSimpArgs false

end Go.Proofs.Ytmnekhliblkibaa
