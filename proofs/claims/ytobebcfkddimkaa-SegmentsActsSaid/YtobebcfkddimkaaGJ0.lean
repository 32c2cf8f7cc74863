/- Printed: the functions, joined. -/
import Derived.Test.YtobebcfkddimkaaGF0
import Derived.Test.YtobebcfkddimkaaGF1
import Derived.Test.YtobebcfkddimkaaGF2
import Derived.Test.YtobebcfkddimkaaGF3
import Derived.Test.YtobebcfkddimkaaGF4
import Derived.Test.YtobebcfkddimkaaGF5
import Derived.Test.YtobebcfkddimkaaGM
namespace Go.Proofs.Ytobebcfkddimkaa
open Go AM Go.RowKit
set_option linter.unusedVariables false
noncomputable def g22 : T22 := g22_r
theorem g22_lin : Lin22 g22 := g22_r_lin
theorem ok22 : FunOK Try.prog 22 (w22 g22) := g22_ok
noncomputable def g23 : T23 := g23_r
theorem g23_lin : Lin23 g23 := g23_r_lin
theorem ok23 : FunOK Try.prog 23 (w23 g23) := g23_ok
noncomputable def g24 : T24 := g24_r
theorem g24_lin : Lin24 g24 := g24_r_lin
theorem ok24 : FunOK Try.prog 24 (w24 g24) := g24_ok
noncomputable def g35 : T35 := g35_r
theorem g35_lin : Lin35 g35 := g35_r_lin
theorem ok35 : FunOK Try.prog 35 (w35 g35) := g35_ok
noncomputable def g28 : T28 := g28_r g35
theorem g28_lin : Lin28 g28 := g28_r_lin g35_lin
theorem ok28 : FunOK Try.prog 28 (w28 g28) := g28_ok ok35 g35_lin
noncomputable def g36 : T36 := g36_r
theorem g36_lin : Lin36 g36 := g36_r_lin
theorem ok36 : FunOK Try.prog 36 (w36 g36) := g36_ok
noncomputable def g29 : T29 := g29_r g36
theorem g29_lin : Lin29 g29 := g29_r_lin g36_lin
theorem ok29 : FunOK Try.prog 29 (w29 g29) := g29_ok ok36 g36_lin
noncomputable def g27 : T27 := g27_r
theorem g27_lin : Lin27 g27 := g27_r_lin
theorem ok27 : FunOK Try.prog 27 (w27 g27) := g27_ok
noncomputable def g26 : T26 := g26_r g28 g29 g27
theorem g26_lin : Lin26 g26 := g26_r_lin g28_lin g29_lin g27_lin
theorem ok26 : FunOK Try.prog 26 (w26 g26) := g26_ok ok28 ok29 ok27 g28_lin g29_lin g27_lin
noncomputable def g32 : T32 := g32_r
theorem g32_lin : Lin32 g32 := g32_r_lin
theorem ok32 : FunOK Try.prog 32 (w32 g32) := g32_ok
noncomputable def g31 : T31 := g31_r
theorem g31_lin : Lin31 g31 := g31_r_lin
theorem ok31 : FunOK Try.prog 31 (w31 g31) := g31_ok
noncomputable def g18 : T18 := g18_r g32 g31
theorem g18_lin : Lin18 g18 := g18_r_lin g32_lin g31_lin
theorem ok18 : FunOK Try.prog 18 (w18 g18) := g18_ok ok32 ok31 g32_lin g31_lin
noncomputable def g12 : T12 := g12_r g18
theorem g12_lin : Lin12 g12 := g12_r_lin g18_lin
theorem ok12 : FunOK Try.prog 12 (w12 g12) := g12_ok ok18 g18_lin
noncomputable def g10 : T10 := g10_r
theorem g10_lin : Lin10 g10 := g10_r_lin
theorem ok10 : FunOK Try.prog 10 (w10 g10) := g10_ok
noncomputable def g15 : T15 := g15_r
theorem g15_lin : Lin15 g15 := g15_r_lin
theorem ok15 : FunOK Try.prog 15 (w15 g15) := g15_ok
noncomputable def g14 : T14 := g14_r g22
theorem g14_lin : Lin14 g14 := g14_r_lin g22_lin
theorem ok14 : FunOK Try.prog 14 (w14 g14) := g14_ok ok22 g22_lin
noncomputable def g30 : T30 := g30_r
theorem g30_lin : Lin30 g30 := g30_r_lin
theorem ok30 : FunOK Try.prog 30 (w30 g30) := g30_ok
noncomputable def g13 : T13 := g13_r g22 g30 g23 g31
theorem g13_lin : Lin13 g13 := g13_r_lin g22_lin g30_lin g23_lin g31_lin
theorem ok13 : FunOK Try.prog 13 (w13 g13) := g13_ok ok22 ok30 ok23 ok31 g22_lin g30_lin g23_lin g31_lin
noncomputable def g16 : T16 := g16_r
theorem g16_lin : Lin16 g16 := g16_r_lin
theorem ok16 : FunOK Try.prog 16 (w16 g16) := g16_ok
end Go.Proofs.Ytobebcfkddimkaa

