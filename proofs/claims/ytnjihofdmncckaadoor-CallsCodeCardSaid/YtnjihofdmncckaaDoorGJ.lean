/- Printed: the functions, joined. -/
import Derived.Test.YtnjihofdmncckaaDoorGF0
import Derived.Test.YtnjihofdmncckaaDoorGF1
import Derived.Test.YtnjihofdmncckaaDoorGF2
import Derived.Test.YtnjihofdmncckaaDoorGF3
import Derived.Test.YtnjihofdmncckaaDoorGM
namespace Go.Proofs.YtnjihofdmncckaaDoor
open Go AM Go.RowKit
set_option linter.unusedVariables false
noncomputable def g67 : T67 := g67_r
theorem g67_lin : Lin67 g67 := g67_r_lin
theorem ok67 : FunOK Tryd.prog 67 (w67 g67) := g67_ok
noncomputable def g66 : T66 := g66_r
theorem g66_lin : Lin66 g66 := g66_r_lin
theorem ok66 : FunOK Tryd.prog 66 (w66 g66) := g66_ok
noncomputable def g68 : T68 := g68_r
theorem g68_lin : Lin68 g68 := g68_r_lin
theorem ok68 : FunOK Tryd.prog 68 (w68 g68) := g68_ok
noncomputable def g87 : T87 := g87_r
theorem g87_lin : Lin87 g87 := g87_r_lin
theorem ok87 : FunOK Tryd.prog 87 (w87 g87) := g87_ok
noncomputable def g70 : T70 := g70_r g87
theorem g70_lin : Lin70 g70 := g70_r_lin g87_lin
theorem ok70 : FunOK Tryd.prog 70 (w70 g70) := g70_ok ok87 g87_lin
noncomputable def g69 : T69 := g69_r g87
theorem g69_lin : Lin69 g69 := g69_r_lin g87_lin
theorem ok69 : FunOK Tryd.prog 69 (w69 g69) := g69_ok ok87 g87_lin
noncomputable def g56 : T56 := g56_r g67 g66 g68 g70 g69
theorem g56_lin : Lin56 g56 := g56_r_lin g67_lin g66_lin g68_lin g70_lin g69_lin
theorem ok56 : FunOK Tryd.prog 56 (w56 g56) := g56_ok ok67 ok66 ok68 ok70 ok69 g67_lin g66_lin g68_lin g70_lin g69_lin
noncomputable def g42 : T42 := g42_r g56
theorem g42_lin : Lin42 g42 := g42_r_lin g56_lin
theorem ok42 : FunOK Tryd.prog 42 (w42 g42) := g42_ok ok56 g56_lin
noncomputable def g25 : T25 := g25_r g42
theorem g25_lin : Lin25 g25 := g25_r_lin g42_lin
theorem ok25 : FunOK Tryd.prog 25 (w25 g25) := g25_ok ok42 g42_lin
noncomputable def g19 : T19 := g19_r g25
theorem g19_lin : Lin19 g19 := g19_r_lin g25_lin
theorem ok19 : FunOK Tryd.prog 19 (w19 g19) := g19_ok ok25 g25_lin
noncomputable def g20 : T20 := g20_r
theorem g20_lin : Lin20 g20 := g20_r_lin
theorem ok20 : FunOK Tryd.prog 20 (w20 g20) := g20_ok
noncomputable def g6 : T6 := g6_r g19 g20
theorem g6_lin : Lin6 g6 := g6_r_lin g19_lin g20_lin
theorem ok6 : FunOK Tryd.prog 6 (w6 g6) := g6_ok ok19 ok20 g19_lin g20_lin
noncomputable def g21 : T21 := g21_r
theorem g21_lin : Lin21 g21 := g21_r_lin
theorem ok21 : FunOK Tryd.prog 21 (w21 g21) := g21_ok
noncomputable def g7 : T7 := g7_r g21
theorem g7_lin : Lin7 g7 := g7_r_lin g21_lin
theorem ok7 : FunOK Tryd.prog 7 (w7 g7) := g7_ok ok21 g21_lin
noncomputable def g22 : T22 := g22_r
theorem g22_lin : Lin22 g22 := g22_r_lin
theorem ok22 : FunOK Tryd.prog 22 (w22 g22) := g22_ok
noncomputable def g8 : T8 := g8_r g22 g19
theorem g8_lin : Lin8 g8 := g8_r_lin g22_lin g19_lin
theorem ok8 : FunOK Tryd.prog 8 (w8 g8) := g8_ok ok22 ok19 g22_lin g19_lin
noncomputable def g3 : T3 := g3_r g5 g6 g7 g8
theorem g3_lin : Lin3 g3 := g3_r_lin g5_lin g6_lin g7_lin g8_lin
theorem ok3 : FunOK Tryd.prog 3 (w3 g3) := g3_ok ok5 ok6 ok7 ok8 g5_lin g6_lin g7_lin g8_lin
end Go.Proofs.YtnjihofdmncckaaDoor

