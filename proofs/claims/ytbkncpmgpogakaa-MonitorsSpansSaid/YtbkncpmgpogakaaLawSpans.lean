/- MonitorsSpans holds: for every input the call returns true, and each argument reads as before. -/
import Derived.Test.YtbkncpmgpogakaaRows
import Derived.Test.YtbkncpmgpogakaaMS12
import Derived.Test.YtbkncpmgpogakaaAm30
namespace Go.Proofs.Ytbkncpmgpogakaa.monitorsSpans
open Go AM Go.RowKit
set_option linter.unusedVariables false
theorem own : ownKnob Try.prog.godebug = none := by kernel_rfl
set_option maxRecDepth 100000 in
theorem walk : ∀ (W : World) (H : Heap) (ρ : Env) (us : List V) (args : Array Value), HR W.heap.size W ρ H W → Rels ρ us args.toList → FitsA H [(.agg [(.i .u8), (.i .u8), (.i .u8), (.i .u8), (.i .u8)]), (.one .s), (.one (.i .u8))] us →
    Calls Try.prog 7 args W fun e W' => e = .returned (.bool true) ∧ Below W.heap.size W W' := by
  intro W H ρ us args hh hr hf
  obtain ⟨v0, us0, rfl, a0, b0⟩ := FitsA.uncons hf
  obtain ⟨c0, rfl, f0_0⟩ := FitA.unagg a0
  obtain ⟨w0_0, z0_0, rfl, e0_0, f0_1⟩ := Fits.uncons f0_0
  obtain ⟨x1, rfl, k1⟩ := Fit.int e0_0
  obtain ⟨w0_1, z0_1, rfl, e0_1, f0_2⟩ := Fits.uncons f0_1
  obtain ⟨x2, rfl, k2⟩ := Fit.int e0_1
  obtain ⟨w0_2, z0_2, rfl, e0_2, f0_3⟩ := Fits.uncons f0_2
  obtain ⟨x3, rfl, k3⟩ := Fit.int e0_2
  obtain ⟨w0_3, z0_3, rfl, e0_3, f0_4⟩ := Fits.uncons f0_3
  obtain ⟨x4, rfl, k4⟩ := Fit.int e0_3
  obtain ⟨w0_4, z0_4, rfl, e0_4, f0_5⟩ := Fits.uncons f0_4
  obtain ⟨x5, rfl, k5⟩ := Fit.int e0_4
  obtain rfl := Fits.unnil f0_5
  obtain ⟨v1, us1, rfl, a1, b1⟩ := FitsA.uncons b0
  obtain ⟨x6, rfl, k6⟩ := Fit.str (FitA.unone a1)
  obtain ⟨v2, us2, rfl, a2, b2⟩ := FitsA.uncons b1
  obtain ⟨x7, rfl, k7⟩ := Fit.int (FitA.unone a2)
  obtain rfl := FitsA.unnil b2
  have ht := monitorsSpans_true H hh.wf x1 x2 x3 x4 x5 x6 x7 k1 k2 k3 k4 k5 k6 k7
  have hk := (g7_fn g9 g12 g11 g10 g15 g14 g39 g38 g44 g46 g40 g9_lin g12_lin g11_lin g10_lin g15_lin g14_lin g39_lin g38_lin g44_lin g46_lin g40_lin x1 x2 x3 x4 x5 x6 x7 H (fun v _ => v.asB)).trans ht
  have := law_calls (E7_good ok9 ok12 ok11 ok10 ok15 ok14 ok39 ok38 ok44 ok46 ok40 g9_lin g12_lin g11_lin g10_lin g15_lin g14_lin g39_lin g38_lin g44_lin g46_lin g40_lin) mixed lim_ok Try.func7 hk hr hh
  simpa using this
set_option maxRecDepth 100000 in
theorem lifted (os : Os) (started : os.Started) (H : Type) (enc : TypeId × Value → H) :
    ReturnsInHanded {} Try.checked os 7 .any (Rows.monitorsSpansSpec.pre6 enc Try.prog Try.f7 Rows.monitorsSpansRow.domain false) (Rows.monitorsSpansSpec.post enc Try.prog Try.f7 false true false false) :=
  lift_law (C := Try.checked) (n := 30) (das := [(.agg [(.i .u8), (.i .u8), (.i .u8), (.i .u8), (.i .u8)]), (.one .s), (.one (.i .u8))]) (bt := 4) started own (by kernel_rfl) Try.func7
    (ChangeSpec.witness6 (enc := enc) (C := Try.checked) false ⟨#[], #[.agg #[.int .u8 0, .int .u8 0, .int .u8 0, .int .u8 0, .int .u8 0], .string ByteArray.empty, .int .u8 0], []⟩ 8 (by kernel_rfl) (by kernel_rfl) (by kernel_rfl) (by kernel_rfl))
    rfl (fun ds h => by obtain ⟨d0, d1, d2, rfl⟩ := ds_len3 ds h; rfl) rfl (by kernel_rfl) (by kernel_rfl) (by kernel_rfl) (by kernel_rfl) walk
theorem over : Rows.monitorsSpansRow.holds Try.pinned (OpenSpec.ofChange Rows.monitorsSpansSpec) :=
  OpenClaim.holds_of_wide 7 Try.f7 rfl rfl rfl rfl rfl rfl rfl ⟨rfl, rfl, rfl, rfl, rfl⟩ rfl rfl rfl rfl rfl (by kernel_rfl) Try.func7 (by kernel_rfl)
    (of_decide_eq_true (by kernel_rfl)) (by unfold Func.isWrapper; first | (rw [if_pos (by decide +kernel)]; kernel_rfl) | (rw [if_neg (by decide +kernel)]; exact ⟨rfl, rfl⟩))
    (fun os started H enc _ => lifted os started H enc)
theorem proved : Rows.MonitorsSpansSaid := over
#print axioms proved
end Go.Proofs.Ytbkncpmgpogakaa.monitorsSpans
namespace Go.Proofs.Ytbkncpmgpogakaa
/-- The row, for the claim. -/
theorem monitorsSpans_holds : Rows.MonitorsSpansSaid := monitorsSpans.proved
end Go.Proofs.Ytbkncpmgpogakaa
