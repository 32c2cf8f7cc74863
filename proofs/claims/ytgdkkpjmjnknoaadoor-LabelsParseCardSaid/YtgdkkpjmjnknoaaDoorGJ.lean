/- Printed: the functions, joined. -/
import Derived.Test.YtgdkkpjmjnknoaaDoorGF0
import Derived.Test.YtgdkkpjmjnknoaaDoorGF1
import Derived.Test.YtgdkkpjmjnknoaaDoorGF2
import Derived.Test.YtgdkkpjmjnknoaaDoorGF3
import Derived.Test.YtgdkkpjmjnknoaaDoorGF4
import Derived.Test.YtgdkkpjmjnknoaaDoorGF5
import Derived.Test.YtgdkkpjmjnknoaaDoorGF6
import Derived.Test.YtgdkkpjmjnknoaaDoorGF7
import Derived.Test.YtgdkkpjmjnknoaaDoorGF8
import Derived.Test.YtgdkkpjmjnknoaaDoorGM
namespace Go.Proofs.YtgdkkpjmjnknoaaDoor
open Go AM Go.RowKit
set_option linter.unusedVariables false
noncomputable def g51 : T51 := g51_r g61
theorem g51_lin : Lin51 g51 := g51_r_lin g61_lin
theorem ok51 : FunOK Tryd.prog 51 (w51 g51) := g51_ok ok61 g61_lin
noncomputable def g39 : T39 := g39_r g50 g51
theorem g39_lin : Lin39 g39 := g39_r_lin g50_lin g51_lin
theorem ok39 : FunOK Tryd.prog 39 (w39 g39) := g39_ok ok50 ok51 g50_lin g51_lin
noncomputable def g40 : T40 := g40_r g50
theorem g40_lin : Lin40 g40 := g40_r_lin g50_lin
theorem ok40 : FunOK Tryd.prog 40 (w40 g40) := g40_ok ok50 g50_lin
noncomputable def g41 : T41 := g41_r
theorem g41_lin : Lin41 g41 := g41_r_lin
theorem ok41 : FunOK Tryd.prog 41 (w41 g41) := g41_ok
noncomputable def g30 : T30 := g30_r g39 g40 g41
theorem g30_lin : Lin30 g30 := g30_r_lin g39_lin g40_lin g41_lin
theorem ok30 : FunOK Tryd.prog 30 (w30 g30) := g30_ok ok39 ok40 ok41 g39_lin g40_lin g41_lin
noncomputable def g11 : T11 := g11_r g29 g30
theorem g11_lin : Lin11 g11 := g11_r_lin g29_lin g30_lin
theorem ok11 : FunOK Tryd.prog 11 (w11 g11) := g11_ok ok29 ok30 g29_lin g30_lin
noncomputable def g31 : T31 := g31_r
theorem g31_lin : Lin31 g31 := g31_r_lin
theorem ok31 : FunOK Tryd.prog 31 (w31 g31) := g31_ok
noncomputable def g13 : T13 := g13_r g15 g31
theorem g13_lin : Lin13 g13 := g13_r_lin g15_lin g31_lin
theorem ok13 : FunOK Tryd.prog 13 (w13 g13) := g13_ok ok15 ok31 g15_lin g31_lin
noncomputable def g14 : T14 := g14_r g29
theorem g14_lin : Lin14 g14 := g14_r_lin g29_lin
theorem ok14 : FunOK Tryd.prog 14 (w14 g14) := g14_ok ok29 g29_lin
noncomputable def g3 : T3 := g3_r g11 g12 g13 g14
theorem g3_lin : Lin3 g3 := g3_r_lin g11_lin g12_lin g13_lin g14_lin
theorem ok3 : FunOK Tryd.prog 3 (w3 g3) := g3_ok ok11 ok12 ok13 ok14 g11_lin g12_lin g13_lin g14_lin
noncomputable def g16 : T16 := g16_r
theorem g16_lin : Lin16 g16 := g16_r_lin
theorem ok16 : FunOK Tryd.prog 16 (w16 g16) := g16_ok
noncomputable def g4 : T4 := g4_r g12 g13 g15 g16 g11
theorem g4_lin : Lin4 g4 := g4_r_lin g12_lin g13_lin g15_lin g16_lin g11_lin
theorem ok4 : FunOK Tryd.prog 4 (w4 g4) := g4_ok ok12 ok13 ok15 ok16 ok11 g12_lin g13_lin g15_lin g16_lin g11_lin
noncomputable def g18 : T18 := g18_r
theorem g18_lin : Lin18 g18 := g18_r_lin
theorem ok18 : FunOK Tryd.prog 18 (w18 g18) := g18_ok
noncomputable def g17 : T17 := g17_r g18
theorem g17_lin : Lin17 g17 := g17_r_lin g18_lin
theorem ok17 : FunOK Tryd.prog 17 (w17 g17) := g17_ok ok18 g18_lin
noncomputable def g5 : T5 := g5_r g12 g17 g18
theorem g5_lin : Lin5 g5 := g5_r_lin g12_lin g17_lin g18_lin
theorem ok5 : FunOK Tryd.prog 5 (w5 g5) := g5_ok ok12 ok17 ok18 g12_lin g17_lin g18_lin
noncomputable def g19 : T19 := g19_r
theorem g19_lin : Lin19 g19 := g19_r_lin
theorem ok19 : FunOK Tryd.prog 19 (w19 g19) := g19_ok
noncomputable def g6 : T6 := g6_r g19 g12
theorem g6_lin : Lin6 g6 := g6_r_lin g19_lin g12_lin
theorem ok6 : FunOK Tryd.prog 6 (w6 g6) := g6_ok ok19 ok12 g19_lin g12_lin
noncomputable def g20 : T20 := g20_r
theorem g20_lin : Lin20 g20 := g20_r_lin
theorem ok20 : FunOK Tryd.prog 20 (w20 g20) := g20_ok
noncomputable def g21 : T21 := g21_r
theorem g21_lin : Lin21 g21 := g21_r_lin
theorem ok21 : FunOK Tryd.prog 21 (w21 g21) := g21_ok
noncomputable def g7 : T7 := g7_r g20 g12 g21
theorem g7_lin : Lin7 g7 := g7_r_lin g20_lin g12_lin g21_lin
theorem ok7 : FunOK Tryd.prog 7 (w7 g7) := g7_ok ok20 ok12 ok21 g20_lin g12_lin g21_lin
noncomputable def g22 : T22 := g22_r
theorem g22_lin : Lin22 g22 := g22_r_lin
theorem ok22 : FunOK Tryd.prog 22 (w22 g22) := g22_ok
noncomputable def g23 : T23 := g23_r
theorem g23_lin : Lin23 g23 := g23_r_lin
theorem ok23 : FunOK Tryd.prog 23 (w23 g23) := g23_ok
noncomputable def g46 : T46 := g46_r
theorem g46_lin : Lin46 g46 := g46_r_lin
theorem ok46 : FunOK Tryd.prog 46 (w46 g46) := g46_ok
noncomputable def g45 : T45 := g45_r
theorem g45_lin : Lin45 g45 := g45_r_lin
theorem ok45 : FunOK Tryd.prog 45 (w45 g45) := g45_ok
noncomputable def g33 : T33 := g33_r g46 g45
theorem g33_lin : Lin33 g33 := g33_r_lin g46_lin g45_lin
theorem ok33 : FunOK Tryd.prog 33 (w33 g33) := g33_ok ok46 ok45 g46_lin g45_lin
noncomputable def g24 : T24 := g24_r g33
theorem g24_lin : Lin24 g24 := g24_r_lin g33_lin
theorem ok24 : FunOK Tryd.prog 24 (w24 g24) := g24_ok ok33 g33_lin
noncomputable def g25 : T25 := g25_r
theorem g25_lin : Lin25 g25 := g25_r_lin
theorem ok25 : FunOK Tryd.prog 25 (w25 g25) := g25_ok
noncomputable def g8 : T8 := g8_r g22 g17 g23 g24 g25 g12
theorem g8_lin : Lin8 g8 := g8_r_lin g22_lin g17_lin g23_lin g24_lin g25_lin g12_lin
theorem ok8 : FunOK Tryd.prog 8 (w8 g8) := g8_ok ok22 ok17 ok23 ok24 ok25 ok12 g22_lin g17_lin g23_lin g24_lin g25_lin g12_lin
noncomputable def g26 : T26 := g26_r g33
theorem g26_lin : Lin26 g26 := g26_r_lin g33_lin
theorem ok26 : FunOK Tryd.prog 26 (w26 g26) := g26_ok ok33 g33_lin
noncomputable def g34 : T34 := g34_r
theorem g34_lin : Lin34 g34 := g34_r_lin
theorem ok34 : FunOK Tryd.prog 34 (w34 g34) := g34_ok
noncomputable def g27 : T27 := g27_r g34
theorem g27_lin : Lin27 g27 := g27_r_lin g34_lin
theorem ok27 : FunOK Tryd.prog 27 (w27 g27) := g27_ok ok34 g34_lin
noncomputable def g9 : T9 := g9_r g12 g26 g25 g27
theorem g9_lin : Lin9 g9 := g9_r_lin g12_lin g26_lin g25_lin g27_lin
theorem ok9 : FunOK Tryd.prog 9 (w9 g9) := g9_ok ok12 ok26 ok25 ok27 g12_lin g26_lin g25_lin g27_lin
noncomputable def g47 : T47 := g47_r
theorem g47_lin : Lin47 g47 := g47_r_lin
theorem ok47 : FunOK Tryd.prog 47 (w47 g47) := g47_ok
noncomputable def g36 : T36 := g36_r g47
theorem g36_lin : Lin36 g36 := g36_r_lin g47_lin
theorem ok36 : FunOK Tryd.prog 36 (w36 g36) := g36_ok ok47 g47_lin
noncomputable def g48 : T48 := g48_r
theorem g48_lin : Lin48 g48 := g48_r_lin
theorem ok48 : FunOK Tryd.prog 48 (w48 g48) := g48_ok
noncomputable def g37 : T37 := g37_r g48
theorem g37_lin : Lin37 g37 := g37_r_lin g48_lin
theorem ok37 : FunOK Tryd.prog 37 (w37 g37) := g37_ok ok48 g48_lin
noncomputable def g35 : T35 := g35_r
theorem g35_lin : Lin35 g35 := g35_r_lin
theorem ok35 : FunOK Tryd.prog 35 (w35 g35) := g35_ok
noncomputable def g28 : T28 := g28_r g36 g37 g35
theorem g28_lin : Lin28 g28 := g28_r_lin g36_lin g37_lin g35_lin
theorem ok28 : FunOK Tryd.prog 28 (w28 g28) := g28_ok ok36 ok37 ok35 g36_lin g37_lin g35_lin
noncomputable def g10 : T10 := g10_r g28 g12
theorem g10_lin : Lin10 g10 := g10_r_lin g28_lin g12_lin
theorem ok10 : FunOK Tryd.prog 10 (w10 g10) := g10_ok ok28 ok12 g28_lin g12_lin
end Go.Proofs.YtgdkkpjmjnknoaaDoor

