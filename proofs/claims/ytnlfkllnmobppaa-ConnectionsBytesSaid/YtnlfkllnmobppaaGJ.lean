/- Printed: the functions, joined. -/
import Derived.Test.YtnlfkllnmobppaaGF0
import Derived.Test.YtnlfkllnmobppaaGF1
import Derived.Test.YtnlfkllnmobppaaGF2
import Derived.Test.YtnlfkllnmobppaaGF3
import Derived.Test.YtnlfkllnmobppaaGF4
import Derived.Test.YtnlfkllnmobppaaGM
namespace Go.Proofs.Ytnlfkllnmobppaa
open Go AM Go.RowKit
set_option linter.unusedVariables false
noncomputable def g15 : T15 := g15_r
theorem g15_lin : Lin15 g15 := g15_r_lin
theorem ok15 : FunOK Try.prog 15 (w15 g15) := g15_ok
noncomputable def g10 : T10 := g10_r g15
theorem g10_lin : Lin10 g10 := g10_r_lin g15_lin
theorem ok10 : FunOK Try.prog 10 (w10 g10) := g10_ok ok15 g15_lin
noncomputable def g12 : T12 := g12_r
theorem g12_lin : Lin12 g12 := g12_r_lin
theorem ok12 : FunOK Try.prog 12 (w12 g12) := g12_ok
noncomputable def g11 : T11 := g11_r g12
theorem g11_lin : Lin11 g11 := g11_r_lin g12_lin
theorem ok11 : FunOK Try.prog 11 (w11 g11) := g11_ok ok12 g12_lin
noncomputable def g55 : T55 := g55_r
theorem g55_lin : Lin55 g55 := g55_r_lin
theorem ok55 : FunOK Try.prog 55 (w55 g55) := g55_ok
noncomputable def g54 : T54 := g54_r
theorem g54_lin : Lin54 g54 := g54_r_lin
theorem ok54 : FunOK Try.prog 54 (w54 g54) := g54_ok
noncomputable def g36 : T36 := g36_r g55 g54
theorem g36_lin : Lin36 g36 := g36_r_lin g55_lin g54_lin
theorem ok36 : FunOK Try.prog 36 (w36 g36) := g36_ok ok55 ok54 g55_lin g54_lin
noncomputable def g13 : T13 := g13_r g36 g12
theorem g13_lin : Lin13 g13 := g13_r_lin g36_lin g12_lin
theorem ok13 : FunOK Try.prog 13 (w13 g13) := g13_ok ok36 ok12 g36_lin g12_lin
noncomputable def g14 : T14 := g14_r
theorem g14_lin : Lin14 g14 := g14_r_lin
theorem ok14 : FunOK Try.prog 14 (w14 g14) := g14_ok
noncomputable def g16 : T16 := g16_r g10
theorem g16_lin : Lin16 g16 := g16_r_lin g10_lin
theorem ok16 : FunOK Try.prog 16 (w16 g16) := g16_ok ok10 g10_lin
noncomputable def g3 : T3 := g3_r g9 g10 g11 g12 g13 g14 g15 g16
theorem g3_lin : Lin3 g3 := g3_r_lin g9_lin g10_lin g11_lin g12_lin g13_lin g14_lin g15_lin g16_lin
theorem ok3 : FunOK Try.prog 3 (w3 g3) := g3_ok ok9 ok10 ok11 ok12 ok13 ok14 ok15 ok16 g9_lin g10_lin g11_lin g12_lin g13_lin g14_lin g15_lin g16_lin
end Go.Proofs.Ytnlfkllnmobppaa

