import Derived.Test.YtmoackfjfklfaaaGt8
import Derived.Test.YtmoackfjfklfaaaSlH
import Derived.KernelRfl
namespace Go.Proofs.Ytmoackfjfklfaaa
open Go Go.RowKit
set_option linter.unusedVariables false
set_option linter.unusedSimpArgs false
end Go.Proofs.Ytmoackfjfklfaaa
