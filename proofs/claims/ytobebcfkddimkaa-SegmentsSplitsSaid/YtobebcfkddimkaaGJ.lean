/- Printed: the functions, joined. -/
import Derived.Test.YtobebcfkddimkaaGF0
import Derived.Test.YtobebcfkddimkaaGF1
import Derived.Test.YtobebcfkddimkaaGF2
import Derived.Test.YtobebcfkddimkaaGM
namespace Go.Proofs.Ytobebcfkddimkaa
open Go AM Go.RowKit
set_option linter.unusedVariables false
noncomputable def g32 : T32 := g32_r
theorem g32_lin : Lin32 g32 := g32_r_lin
theorem ok32 : FunOK Try.prog 32 (w32 g32) := g32_ok
noncomputable def g31 : T31 := g31_r
theorem g31_lin : Lin31 g31 := g31_r_lin
theorem ok31 : FunOK Try.prog 31 (w31 g31) := g31_ok
noncomputable def g18 : T18 := g18_r g32 g31
theorem g18_lin : Lin18 g18 := g18_r_lin g32_lin g31_lin
theorem ok18 : FunOK Try.prog 18 (w18 g18) := g18_ok ok32 ok31 g32_lin g31_lin
noncomputable def g30 : T30 := g30_r
theorem g30_lin : Lin30 g30 := g30_r_lin
theorem ok30 : FunOK Try.prog 30 (w30 g30) := g30_ok
noncomputable def g19 : T19 := g19_r g30
theorem g19_lin : Lin19 g19 := g19_r_lin g30_lin
theorem ok19 : FunOK Try.prog 19 (w19 g19) := g19_ok ok30 g30_lin
noncomputable def g20 : T20 := g20_r g32 g31
theorem g20_lin : Lin20 g20 := g20_r_lin g32_lin g31_lin
theorem ok20 : FunOK Try.prog 20 (w20 g20) := g20_ok ok32 ok31 g32_lin g31_lin
noncomputable def g21 : T21 := g21_r
theorem g21_lin : Lin21 g21 := g21_r_lin
theorem ok21 : FunOK Try.prog 21 (w21 g21) := g21_ok
noncomputable def g7 : T7 := g7_r g9 g18 g19 g20 g21
theorem g7_lin : Lin7 g7 := g7_r_lin g9_lin g18_lin g19_lin g20_lin g21_lin
theorem ok7 : FunOK Try.prog 7 (w7 g7) := g7_ok ok9 ok18 ok19 ok20 ok21 g9_lin g18_lin g19_lin g20_lin g21_lin
noncomputable def g8 : T8 := g8_r g9 g19 g20
theorem g8_lin : Lin8 g8 := g8_r_lin g9_lin g19_lin g20_lin
theorem ok8 : FunOK Try.prog 8 (w8 g8) := g8_ok ok9 ok19 ok20 g9_lin g19_lin g20_lin
end Go.Proofs.Ytobebcfkddimkaa

