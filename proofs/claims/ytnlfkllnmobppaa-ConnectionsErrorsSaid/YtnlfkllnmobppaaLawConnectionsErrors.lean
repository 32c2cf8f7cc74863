/- ConnectionsErrors holds: for every input the call returns true, and each argument reads as before. -/
import Derived.Test.YtnlfkllnmobppaaRows
import Derived.Test.YtnlfkllnmobppaaCG5
import Derived.Test.YtnlfkllnmobppaaAmC
namespace Go.Proofs.Ytnlfkllnmobppaa.connectionsErrors
open Go AM Go.RowKit
set_option linter.unusedVariables false
theorem own : ownKnob Try.prog.godebug = none := by kernel_rfl
set_option maxRecDepth 100000 in
theorem walk : ∀ (W : World) (H : Heap) (ρ : Env) (us : List V) (args : Array Value), HR W.heap.size W ρ H W → Rels ρ us args.toList → FitsA H [(.agg [(.i .i64), (.i .i64), (.i .i64), (.i .i64)]), (.agg [(.i .u8), (.i .u32), (.i .u32), (.i .u8), (.i .u8), (.i .u8), (.i .u8), (.sl [(.i .u8)])]), (.agg [(.i .u16), (.i .u16), (.i .u16), (.i .u16)])] us →
    Calls Try.prog 7 args W fun e W' => e = .returned (.bool true) ∧ Below W.heap.size W W' := by
  intro W H ρ us args hh hr hf
  obtain ⟨v0, us0, rfl, a0, b0⟩ := FitsA.uncons hf
  obtain ⟨c0, rfl, f0_0⟩ := FitA.unagg a0
  obtain ⟨w0_0, z0_0, rfl, e0_0, f0_1⟩ := Fits.uncons f0_0
  obtain ⟨x1, rfl, k1⟩ := Fit.int e0_0
  obtain ⟨w0_1, z0_1, rfl, e0_1, f0_2⟩ := Fits.uncons f0_1
  obtain ⟨x2, rfl, k2⟩ := Fit.int e0_1
  obtain ⟨w0_2, z0_2, rfl, e0_2, f0_3⟩ := Fits.uncons f0_2
  obtain ⟨x3, rfl, k3⟩ := Fit.int e0_2
  obtain ⟨w0_3, z0_3, rfl, e0_3, f0_4⟩ := Fits.uncons f0_3
  obtain ⟨x4, rfl, k4⟩ := Fit.int e0_3
  obtain rfl := Fits.unnil f0_4
  obtain ⟨v1, us1, rfl, a1, b1⟩ := FitsA.uncons b0
  obtain ⟨c1, rfl, f1_0⟩ := FitA.unagg a1
  obtain ⟨w1_0, z1_0, rfl, e1_0, f1_1⟩ := Fits.uncons f1_0
  obtain ⟨x5, rfl, k5⟩ := Fit.int e1_0
  obtain ⟨w1_1, z1_1, rfl, e1_1, f1_2⟩ := Fits.uncons f1_1
  obtain ⟨x6, rfl, k6⟩ := Fit.int e1_1
  obtain ⟨w1_2, z1_2, rfl, e1_2, f1_3⟩ := Fits.uncons f1_2
  obtain ⟨x7, rfl, k7⟩ := Fit.int e1_2
  obtain ⟨w1_3, z1_3, rfl, e1_3, f1_4⟩ := Fits.uncons f1_3
  obtain ⟨x8, rfl, k8⟩ := Fit.int e1_3
  obtain ⟨w1_4, z1_4, rfl, e1_4, f1_5⟩ := Fits.uncons f1_4
  obtain ⟨x9, rfl, k9⟩ := Fit.int e1_4
  obtain ⟨w1_5, z1_5, rfl, e1_5, f1_6⟩ := Fits.uncons f1_5
  obtain ⟨x10, rfl, k10⟩ := Fit.int e1_5
  obtain ⟨w1_6, z1_6, rfl, e1_6, f1_7⟩ := Fits.uncons f1_6
  obtain ⟨x11, rfl, k11⟩ := Fit.int e1_6
  obtain ⟨w1_7, z1_7, rfl, e1_7, f1_8⟩ := Fits.uncons f1_7
  obtain ⟨x12, rfl, k12⟩ := Fit.slice e1_7
  obtain rfl := Fits.unnil f1_8
  obtain ⟨v2, us2, rfl, a2, b2⟩ := FitsA.uncons b1
  obtain ⟨c2, rfl, f2_0⟩ := FitA.unagg a2
  obtain ⟨w2_0, z2_0, rfl, e2_0, f2_1⟩ := Fits.uncons f2_0
  obtain ⟨x13, rfl, k13⟩ := Fit.int e2_0
  obtain ⟨w2_1, z2_1, rfl, e2_1, f2_2⟩ := Fits.uncons f2_1
  obtain ⟨x14, rfl, k14⟩ := Fit.int e2_1
  obtain ⟨w2_2, z2_2, rfl, e2_2, f2_3⟩ := Fits.uncons f2_2
  obtain ⟨x15, rfl, k15⟩ := Fit.int e2_2
  obtain ⟨w2_3, z2_3, rfl, e2_3, f2_4⟩ := Fits.uncons f2_3
  obtain ⟨x16, rfl, k16⟩ := Fit.int e2_3
  obtain rfl := Fits.unnil f2_4
  obtain rfl := FitsA.unnil b2
  have ht := connectionsErrors_true H hh.wf x1 x2 x3 x4 x5 x6 x7 x8 x9 x10 x11 x12 x13 x14 x15 x16 k1 k2 k3 k4 k5 k6 k7 k8 k9 k10 k11 k12 k13 k14 k15 k16
  have hk := (g7_fn g9 g31 g17 g18 g23 g10 g25 g24 g20 g28 g32 g33 g27 g26 g9_lin g31_lin g17_lin g18_lin g23_lin g10_lin g25_lin g24_lin g20_lin g28_lin g32_lin g33_lin g27_lin g26_lin x1 x2 x3 x4 x5 x6 x7 x8 x9 x10 x11 x12 x13 x14 x15 x16 H (fun v _ => v.asB)).trans ht
  have := law_calls2 (E7_good ok9 ok31 ok17 ok18 ok23 ok10 ok25 ok24 ok20 ok28 ok32 ok33 ok27 ok26 g9_lin g31_lin g17_lin g18_lin g23_lin g10_lin g25_lin g24_lin g20_lin g28_lin g32_lin g33_lin g27_lin g26_lin) mixed lim_ok Try.func7 hk hr hh
  simpa using this
set_option maxRecDepth 100000 in
theorem lifted (os : Os) (started : os.Started) (H : Type) (enc : TypeId × Value → H) :
    ReturnsInHanded {} Try.checked os 7 .any (Rows.connectionsErrorsSpec.pre6 enc Try.prog Try.f7 Rows.connectionsErrorsRow.domain false) (Rows.connectionsErrorsSpec.post enc Try.prog Try.f7 false true false false) :=
  lift_law (C := Try.checked) (n := 30) (das := [(.agg [(.i .i64), (.i .i64), (.i .i64), (.i .i64)]), (.agg [(.i .u8), (.i .u32), (.i .u32), (.i .u8), (.i .u8), (.i .u8), (.i .u8), (.sl [(.i .u8)])]), (.agg [(.i .u16), (.i .u16), (.i .u16), (.i .u16)])]) (bt := 4) started own (by kernel_rfl) Try.func7
    (ChangeSpec.witness6 (enc := enc) (C := Try.checked) false ⟨#[], #[.agg #[.int .i64 0, .int .i64 0, .int .i64 0, .int .i64 0], .agg #[.int .u8 0, .int .u32 0, .int .u32 0, .int .u8 0, .int .u8 0, .int .u8 0, .int .u8 0, .slice none 0 0], .agg #[.int .u16 0, .int .u16 0, .int .u16 0, .int .u16 0]], []⟩ 8 (by kernel_rfl) (by kernel_rfl) (by kernel_rfl) (by kernel_rfl))
    rfl (fun ds h => by obtain ⟨d0, d1, d2, rfl⟩ := ds_len3 ds h; rfl) rfl (by kernel_rfl) (by kernel_rfl) (by kernel_rfl) (by kernel_rfl) (fun _ => ⟨GOkOf.nil _ _, GIntOf.nil _ _⟩) walk
theorem over : Rows.connectionsErrorsRow.holds Try.pinned (OpenSpec.ofChange Rows.connectionsErrorsSpec) :=
  OpenClaim.holds_of_wide 7 Try.f7 rfl rfl rfl rfl rfl rfl rfl ⟨rfl, rfl, rfl, rfl, rfl⟩ rfl rfl rfl rfl rfl (by kernel_rfl) Try.func7 (by kernel_rfl)
    (of_decide_eq_true (by kernel_rfl)) (by unfold Func.isWrapper; first | (rw [if_pos (by decide +kernel)]; kernel_rfl) | (rw [if_neg (by decide +kernel)]; exact ⟨rfl, rfl⟩))
    (fun os started H enc _ => lifted os started H enc)
theorem proved : Rows.ConnectionsErrorsSaid := over
#print axioms proved
end Go.Proofs.Ytnlfkllnmobppaa.connectionsErrors
namespace Go.Proofs.Ytnlfkllnmobppaa
/-- The row, for the claim. -/
theorem connectionsErrors_holds : Rows.ConnectionsErrorsSaid := connectionsErrors.proved
end Go.Proofs.Ytnlfkllnmobppaa

