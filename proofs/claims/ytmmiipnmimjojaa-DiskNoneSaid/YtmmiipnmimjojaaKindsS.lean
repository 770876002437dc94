/- What the laws' arguments hold, type by type. -/
import Derived.Test.YtmmiipnmimjojaaPSx0
import Derived.Test.YtmmiipnmimjojaaOpen
import Derived.KernelRfl
namespace Go.Proofs.Ytmmiipnmimjojaa.PS
open Go.RowKit Go.Proofs.YtmmiipnmimjojaaW.PrintWords Go.Proofs.Ytmmiipnmimjojaa.OpenK
set_option linter.unusedVariables false

end Go.Proofs.Ytmmiipnmimjojaa.PS
