/- Printed: the functions, joined. -/
import Derived.Test.YtbkncpmgpogakaaGF0
import Derived.Test.YtbkncpmgpogakaaGF1
import Derived.Test.YtbkncpmgpogakaaGF2
import Derived.Test.YtbkncpmgpogakaaGF3
import Derived.Test.YtbkncpmgpogakaaGF4
import Derived.Test.YtbkncpmgpogakaaGF5
import Derived.Test.YtbkncpmgpogakaaGF6
import Derived.Test.YtbkncpmgpogakaaGF7
import Derived.Test.YtbkncpmgpogakaaGF8
import Derived.Test.YtbkncpmgpogakaaGM
namespace Go.Proofs.Ytbkncpmgpogakaa
open Go AM Go.RowKit
set_option linter.unusedVariables false
noncomputable def g12 : T12 := g12_r
theorem g12_lin : Lin12 g12 := g12_r_lin
theorem ok12 : FunOK Try.prog 12 (w12 g12) := g12_ok
noncomputable def g21 : T21 := g21_r
theorem g21_lin : Lin21 g21 := g21_r_lin
theorem ok21 : FunOK Try.prog 21 (w21 g21) := g21_ok
noncomputable def g22 : T22 := g22_r g21
theorem g22_lin : Lin22 g22 := g22_r_lin g21_lin
theorem ok22 : FunOK Try.prog 22 (w22 g22) := g22_ok ok21 g21_lin
noncomputable def g20 : T20 := g20_r g22
theorem g20_lin : Lin20 g20 := g20_r_lin g22_lin
theorem ok20 : FunOK Try.prog 20 (w20 g20) := g20_ok ok22 g22_lin
noncomputable def g19 : T19 := g19_r g20
theorem g19_lin : Lin19 g19 := g19_r_lin g20_lin
theorem ok19 : FunOK Try.prog 19 (w19 g19) := g19_ok ok20 g20_lin
noncomputable def g16 : T16 := g16_r g19
theorem g16_lin : Lin16 g16 := g16_r_lin g19_lin
theorem ok16 : FunOK Try.prog 16 (w16 g16) := g16_ok ok19 g19_lin
noncomputable def g15 : T15 := g15_r g19
theorem g15_lin : Lin15 g15 := g15_r_lin g19_lin
theorem ok15 : FunOK Try.prog 15 (w15 g15) := g15_ok ok19 g19_lin
noncomputable def g17 : T17 := g17_r g19
theorem g17_lin : Lin17 g17 := g17_r_lin g19_lin
theorem ok17 : FunOK Try.prog 17 (w17 g17) := g17_ok ok19 g19_lin
noncomputable def g10 : T10 := g10_r g12 g16 g15 g17
theorem g10_lin : Lin10 g10 := g10_r_lin g12_lin g16_lin g15_lin g17_lin
theorem ok10 : FunOK Try.prog 10 (w10 g10) := g10_ok ok12 ok16 ok15 ok17 g12_lin g16_lin g15_lin g17_lin
noncomputable def g39 : T39 := g39_r
theorem g39_lin : Lin39 g39 := g39_r_lin
theorem ok39 : FunOK Try.prog 39 (w39 g39) := g39_ok
noncomputable def g40 : T40 := g40_r
theorem g40_lin : Lin40 g40 := g40_r_lin
theorem ok40 : FunOK Try.prog 40 (w40 g40) := g40_ok
noncomputable def g11 : T11 := g11_r
theorem g11_lin : Lin11 g11 := g11_r_lin
theorem ok11 : FunOK Try.prog 11 (w11 g11) := g11_ok
noncomputable def g43 : T43 := g43_r
theorem g43_lin : Lin43 g43 := g43_r_lin
theorem ok43 : FunOK Try.prog 43 (w43 g43) := g43_ok
noncomputable def g42 : T42 := g42_r g43
theorem g42_lin : Lin42 g42 := g42_r_lin g43_lin
theorem ok42 : FunOK Try.prog 42 (w42 g42) := g42_ok ok43 g43_lin
noncomputable def g38 : T38 := g38_r g42
theorem g38_lin : Lin38 g38 := g38_r_lin g42_lin
theorem ok38 : FunOK Try.prog 38 (w38 g38) := g38_ok ok42 g42_lin
noncomputable def g44 : T44 := g44_r g40 g42
theorem g44_lin : Lin44 g44 := g44_r_lin g40_lin g42_lin
theorem ok44 : FunOK Try.prog 44 (w44 g44) := g44_ok ok40 ok42 g40_lin g42_lin
noncomputable def g46 : T46 := g46_r g40 g42
theorem g46_lin : Lin46 g46 := g46_r_lin g40_lin g42_lin
theorem ok46 : FunOK Try.prog 46 (w46 g46) := g46_ok ok40 ok42 g40_lin g42_lin
noncomputable def g41 : T41 := g41_r
theorem g41_lin : Lin41 g41 := g41_r_lin
theorem ok41 : FunOK Try.prog 41 (w41 g41) := g41_ok
noncomputable def g45 : T45 := g45_r
theorem g45_lin : Lin45 g45 := g45_r_lin
theorem ok45 : FunOK Try.prog 45 (w45 g45) := g45_ok
noncomputable def g47 : T47 := g47_r
theorem g47_lin : Lin47 g47 := g47_r_lin
theorem ok47 : FunOK Try.prog 47 (w47 g47) := g47_ok
noncomputable def g13 : T13 := g13_r g12
theorem g13_lin : Lin13 g13 := g13_r_lin g12_lin
theorem ok13 : FunOK Try.prog 13 (w13 g13) := g13_ok ok12 g12_lin
noncomputable def g3 : T3 := g3_r g9 g10 g39 g40 g11 g38 g44 g46 g41 g45 g47 g12 g13
theorem g3_lin : Lin3 g3 := g3_r_lin g9_lin g10_lin g39_lin g40_lin g11_lin g38_lin g44_lin g46_lin g41_lin g45_lin g47_lin g12_lin g13_lin
theorem ok3 : FunOK Try.prog 3 (w3 g3) := g3_ok ok9 ok10 ok39 ok40 ok11 ok38 ok44 ok46 ok41 ok45 ok47 ok12 ok13 g9_lin g10_lin g39_lin g40_lin g11_lin g38_lin g44_lin g46_lin g41_lin g45_lin g47_lin g12_lin g13_lin
noncomputable def g14 : T14 := g14_r g40 g38 g44 g46
theorem g14_lin : Lin14 g14 := g14_r_lin g40_lin g38_lin g44_lin g46_lin
theorem ok14 : FunOK Try.prog 14 (w14 g14) := g14_ok ok40 ok38 ok44 ok46 g40_lin g38_lin g44_lin g46_lin
noncomputable def g4 : T4 := g4_r g9 g10 g12 g11 g13 g14 g39
theorem g4_lin : Lin4 g4 := g4_r_lin g9_lin g10_lin g12_lin g11_lin g13_lin g14_lin g39_lin
theorem ok4 : FunOK Try.prog 4 (w4 g4) := g4_ok ok9 ok10 ok12 ok11 ok13 ok14 ok39 g9_lin g10_lin g12_lin g11_lin g13_lin g14_lin g39_lin
noncomputable def g5 : T5 := g5_r g9 g10 g11 g38 g44 g46 g39 g40
theorem g5_lin : Lin5 g5 := g5_r_lin g9_lin g10_lin g11_lin g38_lin g44_lin g46_lin g39_lin g40_lin
theorem ok5 : FunOK Try.prog 5 (w5 g5) := g5_ok ok9 ok10 ok11 ok38 ok44 ok46 ok39 ok40 g9_lin g10_lin g11_lin g38_lin g44_lin g46_lin g39_lin g40_lin
noncomputable def g6 : T6 := g6_r g9 g10 g12 g11 g14
theorem g6_lin : Lin6 g6 := g6_r_lin g9_lin g10_lin g12_lin g11_lin g14_lin
theorem ok6 : FunOK Try.prog 6 (w6 g6) := g6_ok ok9 ok10 ok12 ok11 ok14 g9_lin g10_lin g12_lin g11_lin g14_lin
noncomputable def g7 : T7 := g7_r g9 g12 g11 g10 g15 g14 g39 g38 g44 g46 g40
theorem g7_lin : Lin7 g7 := g7_r_lin g9_lin g12_lin g11_lin g10_lin g15_lin g14_lin g39_lin g38_lin g44_lin g46_lin g40_lin
theorem ok7 : FunOK Try.prog 7 (w7 g7) := g7_ok ok9 ok12 ok11 ok10 ok15 ok14 ok39 ok38 ok44 ok46 ok40 g9_lin g12_lin g11_lin g10_lin g15_lin g14_lin g39_lin g38_lin g44_lin g46_lin g40_lin
noncomputable def g8 : T8 := g8_r g16 g15 g17 g9
theorem g8_lin : Lin8 g8 := g8_r_lin g16_lin g15_lin g17_lin g9_lin
theorem ok8 : FunOK Try.prog 8 (w8 g8) := g8_ok ok16 ok15 ok17 ok9 g16_lin g15_lin g17_lin g9_lin
end Go.Proofs.Ytbkncpmgpogakaa
