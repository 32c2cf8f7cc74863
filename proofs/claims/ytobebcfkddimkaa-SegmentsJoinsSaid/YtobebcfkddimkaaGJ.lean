/- Printed: the functions, joined. -/
import Derived.Test.YtobebcfkddimkaaGF0
import Derived.Test.YtobebcfkddimkaaGF1
import Derived.Test.YtobebcfkddimkaaGF2
import Derived.Test.YtobebcfkddimkaaGF3
import Derived.Test.YtobebcfkddimkaaGJ0
import Derived.Test.YtobebcfkddimkaaTK2
import Derived.Test.YtobebcfkddimkaaTS
namespace Go.Proofs.Ytobebcfkddimkaa
open Go AM Go.RowKit
set_option linter.unusedVariables false
noncomputable def g4 : T4 := g4_r g9 g10 g12 g11 g13 g14
theorem g4_lin : Lin4 g4 := g4_r_lin g9_lin g10_lin g12_lin g11_lin g13_lin g14_lin
theorem ok4 : FunOK Try.prog 4 (w4 g4) := g4_ok ok9 ok10 ok12 ok11 ok13 ok14 g9_lin g10_lin g12_lin g11_lin g13_lin g14_lin
end Go.Proofs.Ytobebcfkddimkaa

