/- AlignmentsReady holds: for every input the call returns true, and each argument reads as before. -/
import Derived.Test.YtkldpkemnmmbgaaRows
import Derived.Test.YtkldpkemnmmbgaaAS12
import Derived.Test.YtkldpkemnmmbgaaAmC
namespace Go.Proofs.Ytkldpkemnmmbgaa.alignmentsReady
open Go AM Go.RowKit
set_option linter.unusedVariables false
theorem own : ownKnob Try.prog.godebug = none := by kernel_rfl
set_option maxRecDepth 100000 in
theorem walk : ∀ (W : World) (H : Heap) (ρ : Env) (us : List V) (args : Array Value), HR W.heap.size W ρ H W → Rels ρ us args.toList → FitsA H [(.agg [(.i .u8), (.i .u8), (.i .u8), (.i .u8), (.i .u8), (.i .u8), (.i .u8), (.i .u8), (.i .u8), (.i .u8), (.i .u8), (.i .u8), (.i .u8), (.i .u8)]), (.agg [.b, .b]), (.agg [(.i .u8), (.i .u8)])] us →
    Calls Try.prog 3 args W fun e W' => e = .returned (.bool true) ∧ Below W.heap.size W W' := by
  intro W H ρ us args hh hr hf
  obtain ⟨v0, us0, rfl, a0, b0⟩ := FitsA.uncons hf
  obtain ⟨c0, rfl, f0_0⟩ := FitA.unagg a0
  obtain ⟨w0_0, z0_0, rfl, e0_0, f0_1⟩ := Fits.uncons f0_0
  obtain ⟨x1, rfl, k1⟩ := Fit.int e0_0
  obtain ⟨w0_1, z0_1, rfl, e0_1, f0_2⟩ := Fits.uncons f0_1
  obtain ⟨x2, rfl, k2⟩ := Fit.int e0_1
  obtain ⟨w0_2, z0_2, rfl, e0_2, f0_3⟩ := Fits.uncons f0_2
  obtain ⟨x3, rfl, k3⟩ := Fit.int e0_2
  obtain ⟨w0_3, z0_3, rfl, e0_3, f0_4⟩ := Fits.uncons f0_3
  obtain ⟨x4, rfl, k4⟩ := Fit.int e0_3
  obtain ⟨w0_4, z0_4, rfl, e0_4, f0_5⟩ := Fits.uncons f0_4
  obtain ⟨x5, rfl, k5⟩ := Fit.int e0_4
  obtain ⟨w0_5, z0_5, rfl, e0_5, f0_6⟩ := Fits.uncons f0_5
  obtain ⟨x6, rfl, k6⟩ := Fit.int e0_5
  obtain ⟨w0_6, z0_6, rfl, e0_6, f0_7⟩ := Fits.uncons f0_6
  obtain ⟨x7, rfl, k7⟩ := Fit.int e0_6
  obtain ⟨w0_7, z0_7, rfl, e0_7, f0_8⟩ := Fits.uncons f0_7
  obtain ⟨x8, rfl, k8⟩ := Fit.int e0_7
  obtain ⟨w0_8, z0_8, rfl, e0_8, f0_9⟩ := Fits.uncons f0_8
  obtain ⟨x9, rfl, k9⟩ := Fit.int e0_8
  obtain ⟨w0_9, z0_9, rfl, e0_9, f0_10⟩ := Fits.uncons f0_9
  obtain ⟨x10, rfl, k10⟩ := Fit.int e0_9
  obtain ⟨w0_10, z0_10, rfl, e0_10, f0_11⟩ := Fits.uncons f0_10
  obtain ⟨x11, rfl, k11⟩ := Fit.int e0_10
  obtain ⟨w0_11, z0_11, rfl, e0_11, f0_12⟩ := Fits.uncons f0_11
  obtain ⟨x12, rfl, k12⟩ := Fit.int e0_11
  obtain ⟨w0_12, z0_12, rfl, e0_12, f0_13⟩ := Fits.uncons f0_12
  obtain ⟨x13, rfl, k13⟩ := Fit.int e0_12
  obtain ⟨w0_13, z0_13, rfl, e0_13, f0_14⟩ := Fits.uncons f0_13
  obtain ⟨x14, rfl, k14⟩ := Fit.int e0_13
  obtain rfl := Fits.unnil f0_14
  obtain ⟨v1, us1, rfl, a1, b1⟩ := FitsA.uncons b0
  obtain ⟨c1, rfl, f1_0⟩ := FitA.unagg a1
  obtain ⟨w1_0, z1_0, rfl, e1_0, f1_1⟩ := Fits.uncons f1_0
  obtain ⟨x15, rfl⟩ := Fit.bool e1_0
  obtain ⟨w1_1, z1_1, rfl, e1_1, f1_2⟩ := Fits.uncons f1_1
  obtain ⟨x16, rfl⟩ := Fit.bool e1_1
  obtain rfl := Fits.unnil f1_2
  obtain ⟨v2, us2, rfl, a2, b2⟩ := FitsA.uncons b1
  obtain ⟨c2, rfl, f2_0⟩ := FitA.unagg a2
  obtain ⟨w2_0, z2_0, rfl, e2_0, f2_1⟩ := Fits.uncons f2_0
  obtain ⟨x17, rfl, k17⟩ := Fit.int e2_0
  obtain ⟨w2_1, z2_1, rfl, e2_1, f2_2⟩ := Fits.uncons f2_1
  obtain ⟨x18, rfl, k18⟩ := Fit.int e2_1
  obtain rfl := Fits.unnil f2_2
  obtain rfl := FitsA.unnil b2
  have ht := alignmentsReady_true H hh.wf x1 x2 x3 x4 x5 x6 x7 x8 x9 x10 x11 x12 x13 x14 x15 x16 x17 x18 k1 k2 k3 k4 k5 k6 k7 k8 k9 k10 k11 k12 k13 k14 k17 k18
  have hk := (g3_fn g9 g10 g11 g12 g13 g14 g15 g16 g9_lin g10_lin g11_lin g12_lin g13_lin g14_lin g15_lin g16_lin x1 x2 x3 x4 x5 x6 x7 x8 x9 x10 x11 x12 x13 x14 x15 x16 x17 x18 H (fun v _ => v.asB)).trans ht
  have := law_calls (E3_good ok9 ok10 ok11 ok12 ok13 ok14 ok15 ok16 g9_lin g10_lin g11_lin g12_lin g13_lin g14_lin g15_lin g16_lin) mixed lim_ok Try.func3 hk hr hh
  simpa using this
set_option maxRecDepth 100000 in
theorem lifted (os : Os) (started : os.Started) (H : Type) (enc : TypeId × Value → H) :
    ReturnsInHanded {} Try.checked os 3 .any (Rows.alignmentsReadySpec.pre6 enc Try.prog Try.f3 Rows.alignmentsReadyRow.domain false) (Rows.alignmentsReadySpec.post enc Try.prog Try.f3 false true false false) :=
  lift_law (C := Try.checked) (n := 30) (das := [(.agg [(.i .u8), (.i .u8), (.i .u8), (.i .u8), (.i .u8), (.i .u8), (.i .u8), (.i .u8), (.i .u8), (.i .u8), (.i .u8), (.i .u8), (.i .u8), (.i .u8)]), (.agg [.b, .b]), (.agg [(.i .u8), (.i .u8)])]) (bt := 4) started own (by kernel_rfl) Try.func3
    (ChangeSpec.witness6 (enc := enc) (C := Try.checked) false ⟨#[], #[.agg #[.int .u8 0, .int .u8 0, .int .u8 0, .int .u8 0, .int .u8 0, .int .u8 0, .int .u8 0, .int .u8 0, .int .u8 0, .int .u8 0, .int .u8 0, .int .u8 0, .int .u8 0, .int .u8 0], .agg #[.bool false, .bool false], .agg #[.int .u8 0, .int .u8 0]], []⟩ 8 (by kernel_rfl) (by kernel_rfl) (by kernel_rfl) (by kernel_rfl))
    rfl (fun ds h => by obtain ⟨d0, d1, d2, rfl⟩ := ds_len3 ds h; rfl) rfl (by kernel_rfl) (by kernel_rfl) (by kernel_rfl) (by kernel_rfl) (fun _ => ⟨GOkOf.nil _ _, GIntOf.nil _ _⟩) walk
theorem over : Rows.alignmentsReadyRow.holds Try.pinned (OpenSpec.ofChange Rows.alignmentsReadySpec) :=
  OpenClaim.holds_of_wide 3 Try.f3 rfl rfl rfl rfl rfl rfl rfl ⟨rfl, rfl, rfl, rfl, rfl⟩ rfl rfl rfl rfl rfl (by kernel_rfl) Try.func3 (by kernel_rfl)
    (of_decide_eq_true (by kernel_rfl)) (by unfold Func.isWrapper; first | (rw [if_pos (by decide +kernel)]; kernel_rfl) | (rw [if_neg (by decide +kernel)]; exact ⟨rfl, rfl⟩))
    (fun os started H enc _ => lifted os started H enc)
theorem proved : Rows.AlignmentsReadySaid := over
#print axioms proved
end Go.Proofs.Ytkldpkemnmmbgaa.alignmentsReady
namespace Go.Proofs.Ytkldpkemnmmbgaa
/-- The row, for the claim. -/
theorem alignmentsReady_holds : Rows.AlignmentsReadySaid := alignmentsReady.proved
end Go.Proofs.Ytkldpkemnmmbgaa

