/- Printed: functions as the machine runs them. -/
import Derived.Test.YtnlfkllnmobppaaGH0
import Derived.Test.YtnlfkllnmobppaaGJ0
namespace Go.Proofs.Ytnlfkllnmobppaa
open Go AM Go.RowKit
set_option linter.unusedVariables false
end Go.Proofs.Ytnlfkllnmobppaa

