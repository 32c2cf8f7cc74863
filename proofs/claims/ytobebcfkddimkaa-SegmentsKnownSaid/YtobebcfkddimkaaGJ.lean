/- Printed: functions as the machine runs them. -/
import Derived.Test.YtobebcfkddimkaaGH3
import Derived.Test.YtobebcfkddimkaaGJ0
namespace Go.Proofs.Ytobebcfkddimkaa
open Go AM Go.RowKit
set_option linter.unusedVariables false
end Go.Proofs.Ytobebcfkddimkaa

