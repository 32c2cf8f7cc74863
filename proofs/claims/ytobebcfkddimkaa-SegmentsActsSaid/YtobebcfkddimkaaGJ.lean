/- Printed: the functions, joined. -/
import Derived.Test.YtobebcfkddimkaaGF0
import Derived.Test.YtobebcfkddimkaaGF1
import Derived.Test.YtobebcfkddimkaaGF2
import Derived.Test.YtobebcfkddimkaaGF3
import Derived.Test.YtobebcfkddimkaaGF4
import Derived.Test.YtobebcfkddimkaaGF5
import Derived.Test.YtobebcfkddimkaaGJ0
import Derived.Test.YtobebcfkddimkaaTK2
import Derived.Test.YtobebcfkddimkaaTS
namespace Go.Proofs.Ytobebcfkddimkaa
open Go AM Go.RowKit
set_option linter.unusedVariables false
noncomputable def g5 : T5 := g5_r g9 g10 g11 g15 g14 g13 g16
theorem g5_lin : Lin5 g5 := g5_r_lin g9_lin g10_lin g11_lin g15_lin g14_lin g13_lin g16_lin
theorem ok5 : FunOK Try.prog 5 (w5 g5) := g5_ok ok9 ok10 ok11 ok15 ok14 ok13 ok16 g9_lin g10_lin g11_lin g15_lin g14_lin g13_lin g16_lin
end Go.Proofs.Ytobebcfkddimkaa

