/- Printed: functions as the machine runs them. -/
import Derived.Test.YtobebcfkddimkaaGN2
import Derived.Test.YtobebcfkddimkaaGNT
import Derived.Test.YtobebcfkddimkaaGM
namespace Go.Proofs.Ytobebcfkddimkaa
open Go AM Go.RowKit
set_option linter.unusedVariables false
end Go.Proofs.Ytobebcfkddimkaa

