/- How arguments read. -/
import Derived.Test.YtobebcfkddimkaaSL
namespace Go.Proofs.Ytobebcfkddimkaa
open Go AM Go.RowKit Go.Sort
set_option linter.unusedVariables false
set_option linter.unusedSimpArgs false

end Go.Proofs.Ytobebcfkddimkaa

