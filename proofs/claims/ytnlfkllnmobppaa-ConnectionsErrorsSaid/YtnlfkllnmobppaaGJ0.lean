/- Printed: functions as the machine runs them. -/
import Derived.Test.YtnlfkllnmobppaaGN4
import Derived.Test.YtnlfkllnmobppaaGM
namespace Go.Proofs.Ytnlfkllnmobppaa
open Go AM Go.RowKit
set_option linter.unusedVariables false
end Go.Proofs.Ytnlfkllnmobppaa

