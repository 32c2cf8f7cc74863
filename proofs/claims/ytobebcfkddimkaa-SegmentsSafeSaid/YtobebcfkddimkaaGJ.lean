/- Printed: the functions, joined. -/
import Derived.Test.YtobebcfkddimkaaGF0
import Derived.Test.YtobebcfkddimkaaGF1
import Derived.Test.YtobebcfkddimkaaGF2
import Derived.Test.YtobebcfkddimkaaGF3
import Derived.Test.YtobebcfkddimkaaGJ0
import Derived.Test.YtobebcfkddimkaaTK2
import Derived.Test.YtobebcfkddimkaaTS
namespace Go.Proofs.Ytobebcfkddimkaa
open Go AM Go.RowKit
set_option linter.unusedVariables false
noncomputable def g3 : T3 := g3_r g9 g10 g11 g12 g13 g14
theorem g3_lin : Lin3 g3 := g3_r_lin g9_lin g10_lin g11_lin g12_lin g13_lin g14_lin
theorem ok3 : FunOK Try.prog 3 (w3 g3) := g3_ok ok9 ok10 ok11 ok12 ok13 ok14 g9_lin g10_lin g11_lin g12_lin g13_lin g14_lin
end Go.Proofs.Ytobebcfkddimkaa

