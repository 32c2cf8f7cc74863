/- Printed: the functions, joined. -/
import Derived.Test.YteipplgcdbaokaaDoorGF0
import Derived.Test.YteipplgcdbaokaaDoorGF1
import Derived.Test.YteipplgcdbaokaaDoorGF2
import Derived.Test.YteipplgcdbaokaaDoorGF3
import Derived.Test.YteipplgcdbaokaaDoorGF4
import Derived.Test.YteipplgcdbaokaaDoorGF5
import Derived.Test.YteipplgcdbaokaaDoorGF6
import Derived.Test.YteipplgcdbaokaaDoorGM
namespace Go.Proofs.YteipplgcdbaokaaDoor
open Go AM Go.RowKit
set_option linter.unusedVariables false
noncomputable def g9 : T9 := g9_r
theorem g9_lin : Lin9 g9 := g9_r_lin
theorem ok9 : FunOK Tryd.prog 9 (w9 g9) := g9_ok
noncomputable def g11 : T11 := g11_r
theorem g11_lin : Lin11 g11 := g11_r_lin
theorem ok11 : FunOK Tryd.prog 11 (w11 g11) := g11_ok
noncomputable def g25 : T25 := g25_r
theorem g25_lin : Lin25 g25 := g25_r_lin
theorem ok25 : FunOK Tryd.prog 25 (w25 g25) := g25_ok
noncomputable def g26 : T26 := g26_r
theorem g26_lin : Lin26 g26 := g26_r_lin
theorem ok26 : FunOK Tryd.prog 26 (w26 g26) := g26_ok
noncomputable def g24 : T24 := g24_r
theorem g24_lin : Lin24 g24 := g24_r_lin
theorem ok24 : FunOK Tryd.prog 24 (w24 g24) := g24_ok
noncomputable def g36 : T36 := g36_r
theorem g36_lin : Lin36 g36 := g36_r_lin
theorem ok36 : FunOK Tryd.prog 36 (w36 g36) := g36_ok
noncomputable def g28 : T28 := g28_r g36
theorem g28_lin : Lin28 g28 := g28_r_lin g36_lin
theorem ok28 : FunOK Tryd.prog 28 (w28 g28) := g28_ok ok36 g36_lin
noncomputable def g27 : T27 := g27_r
theorem g27_lin : Lin27 g27 := g27_r_lin
theorem ok27 : FunOK Tryd.prog 27 (w27 g27) := g27_ok
noncomputable def g10 : T10 := g10_r g11 g25 g26 g24 g28 g27
theorem g10_lin : Lin10 g10 := g10_r_lin g11_lin g25_lin g26_lin g24_lin g28_lin g27_lin
theorem ok10 : FunOK Tryd.prog 10 (w10 g10) := g10_ok ok11 ok25 ok26 ok24 ok28 ok27 g11_lin g25_lin g26_lin g24_lin g28_lin g27_lin
noncomputable def g29 : T29 := g29_r g22
theorem g29_lin : Lin29 g29 := g29_r_lin g22_lin
theorem ok29 : FunOK Tryd.prog 29 (w29 g29) := g29_ok ok22 g22_lin
noncomputable def g37 : T37 := g37_r g40
theorem g37_lin : Lin37 g37 := g37_r_lin g40_lin
theorem ok37 : FunOK Tryd.prog 37 (w37 g37) := g37_ok ok40 g40_lin
noncomputable def g38 : T38 := g38_r
theorem g38_lin : Lin38 g38 := g38_r_lin
theorem ok38 : FunOK Tryd.prog 38 (w38 g38) := g38_ok
noncomputable def g30 : T30 := g30_r g37 g38
theorem g30_lin : Lin30 g30 := g30_r_lin g37_lin g38_lin
theorem ok30 : FunOK Tryd.prog 30 (w30 g30) := g30_ok ok37 ok38 g37_lin g38_lin
noncomputable def g12 : T12 := g12_r g11 g29 g22 g30
theorem g12_lin : Lin12 g12 := g12_r_lin g11_lin g29_lin g22_lin g30_lin
theorem ok12 : FunOK Tryd.prog 12 (w12 g12) := g12_ok ok11 ok29 ok22 ok30 g11_lin g29_lin g22_lin g30_lin
noncomputable def g14 : T14 := g14_r
theorem g14_lin : Lin14 g14 := g14_r_lin
theorem ok14 : FunOK Tryd.prog 14 (w14 g14) := g14_ok
noncomputable def g17 : T17 := g17_r
theorem g17_lin : Lin17 g17 := g17_r_lin
theorem ok17 : FunOK Tryd.prog 17 (w17 g17) := g17_ok
noncomputable def g13 : T13 := g13_r g17
theorem g13_lin : Lin13 g13 := g13_r_lin g17_lin
theorem ok13 : FunOK Tryd.prog 13 (w13 g13) := g13_ok ok17 g17_lin
noncomputable def g3 : T3 := g3_r g8 g9 g10 g11 g12 g14 g13
theorem g3_lin : Lin3 g3 := g3_r_lin g8_lin g9_lin g10_lin g11_lin g12_lin g14_lin g13_lin
theorem ok3 : FunOK Tryd.prog 3 (w3 g3) := g3_ok ok8 ok9 ok10 ok11 ok12 ok14 ok13 g8_lin g9_lin g10_lin g11_lin g12_lin g14_lin g13_lin
noncomputable def g31 : T31 := g31_r
theorem g31_lin : Lin31 g31 := g31_r_lin
theorem ok31 : FunOK Tryd.prog 31 (w31 g31) := g31_ok
noncomputable def g32 : T32 := g32_r
theorem g32_lin : Lin32 g32 := g32_r_lin
theorem ok32 : FunOK Tryd.prog 32 (w32 g32) := g32_ok
noncomputable def g15 : T15 := g15_r g26 g31 g32 g27
theorem g15_lin : Lin15 g15 := g15_r_lin g26_lin g31_lin g32_lin g27_lin
theorem ok15 : FunOK Tryd.prog 15 (w15 g15) := g15_ok ok26 ok31 ok32 ok27 g26_lin g31_lin g32_lin g27_lin
noncomputable def g16 : T16 := g16_r g17
theorem g16_lin : Lin16 g16 := g16_r_lin g17_lin
theorem ok16 : FunOK Tryd.prog 16 (w16 g16) := g16_ok ok17 g17_lin
noncomputable def g4 : T4 := g4_r g8 g15 g16 g10 g9 g13 g14 g17
theorem g4_lin : Lin4 g4 := g4_r_lin g8_lin g15_lin g16_lin g10_lin g9_lin g13_lin g14_lin g17_lin
theorem ok4 : FunOK Tryd.prog 4 (w4 g4) := g4_ok ok8 ok15 ok16 ok10 ok9 ok13 ok14 ok17 g8_lin g15_lin g16_lin g10_lin g9_lin g13_lin g14_lin g17_lin
noncomputable def g33 : T33 := g33_r
theorem g33_lin : Lin33 g33 := g33_r_lin
theorem ok33 : FunOK Tryd.prog 33 (w33 g33) := g33_ok
noncomputable def g18 : T18 := g18_r g33
theorem g18_lin : Lin18 g18 := g18_r_lin g33_lin
theorem ok18 : FunOK Tryd.prog 18 (w18 g18) := g18_ok ok33 g33_lin
noncomputable def g5 : T5 := g5_r g8 g18 g16 g9 g12
theorem g5_lin : Lin5 g5 := g5_r_lin g8_lin g18_lin g16_lin g9_lin g12_lin
theorem ok5 : FunOK Tryd.prog 5 (w5 g5) := g5_ok ok8 ok18 ok16 ok9 ok12 g8_lin g18_lin g16_lin g9_lin g12_lin
noncomputable def g19 : T19 := g19_r
theorem g19_lin : Lin19 g19 := g19_r_lin
theorem ok19 : FunOK Tryd.prog 19 (w19 g19) := g19_ok
noncomputable def g20 : T20 := g20_r
theorem g20_lin : Lin20 g20 := g20_r_lin
theorem ok20 : FunOK Tryd.prog 20 (w20 g20) := g20_ok
noncomputable def g6 : T6 := g6_r g19 g20 g8
theorem g6_lin : Lin6 g6 := g6_r_lin g19_lin g20_lin g8_lin
theorem ok6 : FunOK Tryd.prog 6 (w6 g6) := g6_ok ok19 ok20 ok8 g19_lin g20_lin g8_lin
noncomputable def g34 : T34 := g34_r
theorem g34_lin : Lin34 g34 := g34_r_lin
theorem ok34 : FunOK Tryd.prog 34 (w34 g34) := g34_ok
noncomputable def g21 : T21 := g21_r g34
theorem g21_lin : Lin21 g21 := g21_r_lin g34_lin
theorem ok21 : FunOK Tryd.prog 21 (w21 g21) := g21_ok ok34 g34_lin
noncomputable def g23 : T23 := g23_r
theorem g23_lin : Lin23 g23 := g23_r_lin
theorem ok23 : FunOK Tryd.prog 23 (w23 g23) := g23_ok
noncomputable def g7 : T7 := g7_r g21 g22 g23 g12 g8
theorem g7_lin : Lin7 g7 := g7_r_lin g21_lin g22_lin g23_lin g12_lin g8_lin
theorem ok7 : FunOK Tryd.prog 7 (w7 g7) := g7_ok ok21 ok22 ok23 ok12 ok8 g21_lin g22_lin g23_lin g12_lin g8_lin
end Go.Proofs.YteipplgcdbaokaaDoor

