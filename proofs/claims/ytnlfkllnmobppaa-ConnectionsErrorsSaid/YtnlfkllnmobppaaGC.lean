/- Contracts of functions that are not printed. -/
import Derived.Test.YtnlfkllnmobppaaGT
namespace Go.Proofs.Ytnlfkllnmobppaa
open Go AM Go.RowKit
set_option linter.unusedVariables false
set_option linter.unusedSimpArgs false
noncomputable def baseE : FEnv := []
theorem baseE_good : EnvGood Try.prog baseE := (EnvGood.nil _)
end Go.Proofs.Ytnlfkllnmobppaa

