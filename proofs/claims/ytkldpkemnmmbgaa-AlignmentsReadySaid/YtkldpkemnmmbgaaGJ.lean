/- Printed: the functions, joined. -/
import Derived.Test.YtkldpkemnmmbgaaGF0
import Derived.Test.YtkldpkemnmmbgaaGF1
import Derived.Test.YtkldpkemnmmbgaaGF2
import Derived.Test.YtkldpkemnmmbgaaGF3
import Derived.Test.YtkldpkemnmmbgaaGF4
import Derived.Test.YtkldpkemnmmbgaaGF5
import Derived.Test.YtkldpkemnmmbgaaGF6
import Derived.Test.YtkldpkemnmmbgaaGF7
import Derived.Test.YtkldpkemnmmbgaaGF8
import Derived.Test.YtkldpkemnmmbgaaGF9
import Derived.Test.YtkldpkemnmmbgaaGF10
import Derived.Test.YtkldpkemnmmbgaaGF11
import Derived.Test.YtkldpkemnmmbgaaGF12
import Derived.Test.YtkldpkemnmmbgaaGM
namespace Go.Proofs.Ytkldpkemnmmbgaa
open Go AM Go.RowKit
set_option linter.unusedVariables false
noncomputable def g25 : T25 := g25_r
theorem g25_lin : Lin25 g25 := g25_r_lin
theorem ok25 : FunOK Try.prog 25 (w25 g25) := g25_ok
noncomputable def g9 : T9 := g9_r g25
theorem g9_lin : Lin9 g9 := g9_r_lin g25_lin
theorem ok9 : FunOK Try.prog 9 (w9 g9) := g9_ok ok25 g25_lin
noncomputable def g26 : T26 := g26_r
theorem g26_lin : Lin26 g26 := g26_r_lin
theorem ok26 : FunOK Try.prog 26 (w26 g26) := g26_ok
noncomputable def g37 : T37 := g37_r g26
theorem g37_lin : Lin37 g37 := g37_r_lin g26_lin
theorem ok37 : FunOK Try.prog 37 (w37 g37) := g37_ok ok26 g26_lin
noncomputable def g27 : T27 := g27_r g37
theorem g27_lin : Lin27 g27 := g27_r_lin g37_lin
theorem ok27 : FunOK Try.prog 27 (w27 g27) := g27_ok ok37 g37_lin
noncomputable def g10 : T10 := g10_r g27
theorem g10_lin : Lin10 g10 := g10_r_lin g27_lin
theorem ok10 : FunOK Try.prog 10 (w10 g10) := g10_ok ok27 g27_lin
noncomputable def g28 : T28 := g28_r
theorem g28_lin : Lin28 g28 := g28_r_lin
theorem ok28 : FunOK Try.prog 28 (w28 g28) := g28_ok
noncomputable def g40 : T40 := g40_r
theorem g40_lin : Lin40 g40 := g40_r_lin
theorem ok40 : FunOK Try.prog 40 (w40 g40) := g40_ok
noncomputable def g37v1 : T37v1 := g37v1_r g40
theorem g37v1_lin : Lin37v1 g37v1 := g37v1_r_lin g40_lin
theorem ok37v1 : FunOK Try.prog 37 (w37v1 g37v1) := g37v1_ok ok40 g40_lin
noncomputable def g27v1 : T27v1 := g27v1_r g37v1
theorem g27v1_lin : Lin27v1 g27v1 := g27v1_r_lin g37v1_lin
theorem ok27v1 : FunOK Try.prog 27 (w27v1 g27v1) := g27v1_ok ok37v1 g37v1_lin
noncomputable def g39 : T39 := g39_r g27v1
theorem g39_lin : Lin39 g39 := g39_r_lin g27v1_lin
theorem ok39 : FunOK Try.prog 39 (w39 g39) := g39_ok ok27v1 g27v1_lin
noncomputable def g38 : T38 := g38_r g39
theorem g38_lin : Lin38 g38 := g38_r_lin g39_lin
theorem ok38 : FunOK Try.prog 38 (w38 g38) := g38_ok ok39 g39_lin
noncomputable def g29 : T29 := g29_r g38
theorem g29_lin : Lin29 g29 := g29_r_lin g38_lin
theorem ok29 : FunOK Try.prog 29 (w29 g29) := g29_ok ok38 g38_lin
noncomputable def g11 : T11 := g11_r g28 g29
theorem g11_lin : Lin11 g11 := g11_r_lin g28_lin g29_lin
theorem ok11 : FunOK Try.prog 11 (w11 g11) := g11_ok ok28 ok29 g28_lin g29_lin
noncomputable def g12 : T12 := g12_r g28 g29
theorem g12_lin : Lin12 g12 := g12_r_lin g28_lin g29_lin
theorem ok12 : FunOK Try.prog 12 (w12 g12) := g12_ok ok28 ok29 g28_lin g29_lin
noncomputable def g13 : T13 := g13_r
theorem g13_lin : Lin13 g13 := g13_r_lin
theorem ok13 : FunOK Try.prog 13 (w13 g13) := g13_ok
noncomputable def g30 : T30 := g30_r g13
theorem g30_lin : Lin30 g30 := g30_r_lin g13_lin
theorem ok30 : FunOK Try.prog 30 (w30 g30) := g30_ok ok13 g13_lin
noncomputable def g32 : T32 := g32_r g29
theorem g32_lin : Lin32 g32 := g32_r_lin g29_lin
theorem ok32 : FunOK Try.prog 32 (w32 g32) := g32_ok ok29 g29_lin
noncomputable def g33 : T33 := g33_r g29
theorem g33_lin : Lin33 g33 := g33_r_lin g29_lin
theorem ok33 : FunOK Try.prog 33 (w33 g33) := g33_ok ok29 g29_lin
noncomputable def g17 : T17 := g17_r g28 g29 g32 g33
theorem g17_lin : Lin17 g17 := g17_r_lin g28_lin g29_lin g32_lin g33_lin
theorem ok17 : FunOK Try.prog 17 (w17 g17) := g17_ok ok28 ok29 ok32 ok33 g28_lin g29_lin g32_lin g33_lin
noncomputable def g14 : T14 := g14_r g30 g17 g12
theorem g14_lin : Lin14 g14 := g14_r_lin g30_lin g17_lin g12_lin
theorem ok14 : FunOK Try.prog 14 (w14 g14) := g14_ok ok30 ok17 ok12 g30_lin g17_lin g12_lin
noncomputable def g15 : T15 := g15_r
theorem g15_lin : Lin15 g15 := g15_r_lin
theorem ok15 : FunOK Try.prog 15 (w15 g15) := g15_ok
noncomputable def g3 : T3 := g3_r g9 g10 g11 g12 g13 g14 g15 g16
theorem g3_lin : Lin3 g3 := g3_r_lin g9_lin g10_lin g11_lin g12_lin g13_lin g14_lin g15_lin g16_lin
theorem ok3 : FunOK Try.prog 3 (w3 g3) := g3_ok ok9 ok10 ok11 ok12 ok13 ok14 ok15 ok16 g9_lin g10_lin g11_lin g12_lin g13_lin g14_lin g15_lin g16_lin
noncomputable def g18 : T18 := g18_r
theorem g18_lin : Lin18 g18 := g18_r_lin
theorem ok18 : FunOK Try.prog 18 (w18 g18) := g18_ok
noncomputable def g61 : T61 := g61_r
theorem g61_lin : Lin61 g61 := g61_r_lin
theorem ok61 : FunOK Try.prog 61 (w61 g61) := g61_ok
noncomputable def g60 : T60 := g60_r g61
theorem g60_lin : Lin60 g60 := g60_r_lin g61_lin
theorem ok60 : FunOK Try.prog 60 (w60 g60) := g60_ok ok61 g61_lin
noncomputable def g56 : T56 := g56_r g60
theorem g56_lin : Lin56 g56 := g56_r_lin g60_lin
theorem ok56 : FunOK Try.prog 56 (w56 g56) := g56_ok ok60 g60_lin
noncomputable def g58 : T58 := g58_r
theorem g58_lin : Lin58 g58 := g58_r_lin
theorem ok58 : FunOK Try.prog 58 (w58 g58) := g58_ok
noncomputable def g19 : T19 := g19_r g28 g56 g58 g29
theorem g19_lin : Lin19 g19 := g19_r_lin g28_lin g56_lin g58_lin g29_lin
theorem ok19 : FunOK Try.prog 19 (w19 g19) := g19_ok ok28 ok56 ok58 ok29 g28_lin g56_lin g58_lin g29_lin
noncomputable def g4 : T4 := g4_r g16 g9 g10 g11 g17 g13 g15 g18 g19 g12
theorem g4_lin : Lin4 g4 := g4_r_lin g16_lin g9_lin g10_lin g11_lin g17_lin g13_lin g15_lin g18_lin g19_lin g12_lin
theorem ok4 : FunOK Try.prog 4 (w4 g4) := g4_ok ok16 ok9 ok10 ok11 ok17 ok13 ok15 ok18 ok19 ok12 g16_lin g9_lin g10_lin g11_lin g17_lin g13_lin g15_lin g18_lin g19_lin g12_lin
noncomputable def g24 : T24 := g24_r g28 g29
theorem g24_lin : Lin24 g24 := g24_r_lin g28_lin g29_lin
theorem ok24 : FunOK Try.prog 24 (w24 g24) := g24_ok ok28 ok29 g28_lin g29_lin
noncomputable def g20 : T20 := g20_r g11 g24 g19 g12 g17
theorem g20_lin : Lin20 g20 := g20_r_lin g11_lin g24_lin g19_lin g12_lin g17_lin
theorem ok20 : FunOK Try.prog 20 (w20 g20) := g20_ok ok11 ok24 ok19 ok12 ok17 g11_lin g24_lin g19_lin g12_lin g17_lin
noncomputable def g34 : T34 := g34_r
theorem g34_lin : Lin34 g34 := g34_r_lin
theorem ok34 : FunOK Try.prog 34 (w34 g34) := g34_ok
noncomputable def g35 : T35 := g35_r
theorem g35_lin : Lin35 g35 := g35_r_lin
theorem ok35 : FunOK Try.prog 35 (w35 g35) := g35_ok
noncomputable def g36 : T36 := g36_r
theorem g36_lin : Lin36 g36 := g36_r_lin
theorem ok36 : FunOK Try.prog 36 (w36 g36) := g36_ok
noncomputable def g21 : T21 := g21_r g34 g35 g36
theorem g21_lin : Lin21 g21 := g21_r_lin g34_lin g35_lin g36_lin
theorem ok21 : FunOK Try.prog 21 (w21 g21) := g21_ok ok34 ok35 ok36 g34_lin g35_lin g36_lin
noncomputable def g22 : T22 := g22_r g30
theorem g22_lin : Lin22 g22 := g22_r_lin g30_lin
theorem ok22 : FunOK Try.prog 22 (w22 g22) := g22_ok ok30 g30_lin
noncomputable def g23 : T23 := g23_r
theorem g23_lin : Lin23 g23 := g23_r_lin
theorem ok23 : FunOK Try.prog 23 (w23 g23) := g23_ok
noncomputable def g5 : T5 := g5_r g16 g9 g10 g20 g21 g13 g18 g15 g22 g23
theorem g5_lin : Lin5 g5 := g5_r_lin g16_lin g9_lin g10_lin g20_lin g21_lin g13_lin g18_lin g15_lin g22_lin g23_lin
theorem ok5 : FunOK Try.prog 5 (w5 g5) := g5_ok ok16 ok9 ok10 ok20 ok21 ok13 ok18 ok15 ok22 ok23 g16_lin g9_lin g10_lin g20_lin g21_lin g13_lin g18_lin g15_lin g22_lin g23_lin
noncomputable def g6 : T6 := g6_r g9 g10 g12 g13 g11 g18 g19 g15 g24 g22 g16
theorem g6_lin : Lin6 g6 := g6_r_lin g9_lin g10_lin g12_lin g13_lin g11_lin g18_lin g19_lin g15_lin g24_lin g22_lin g16_lin
theorem ok6 : FunOK Try.prog 6 (w6 g6) := g6_ok ok9 ok10 ok12 ok13 ok11 ok18 ok19 ok15 ok24 ok22 ok16 g9_lin g10_lin g12_lin g13_lin g11_lin g18_lin g19_lin g15_lin g24_lin g22_lin g16_lin
noncomputable def g7 : T7 := g7_r g16 g9 g10 g20 g13 g15 g18
theorem g7_lin : Lin7 g7 := g7_r_lin g16_lin g9_lin g10_lin g20_lin g13_lin g15_lin g18_lin
theorem ok7 : FunOK Try.prog 7 (w7 g7) := g7_ok ok16 ok9 ok10 ok20 ok13 ok15 ok18 g16_lin g9_lin g10_lin g20_lin g13_lin g15_lin g18_lin
noncomputable def g8 : T8 := g8_r g10 g17 g20 g13 g22 g15 g18 g16
theorem g8_lin : Lin8 g8 := g8_r_lin g10_lin g17_lin g20_lin g13_lin g22_lin g15_lin g18_lin g16_lin
theorem ok8 : FunOK Try.prog 8 (w8 g8) := g8_ok ok10 ok17 ok20 ok13 ok22 ok15 ok18 ok16 g10_lin g17_lin g20_lin g13_lin g22_lin g15_lin g18_lin g16_lin
end Go.Proofs.Ytkldpkemnmmbgaa

