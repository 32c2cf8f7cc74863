/- SegmentsBytes holds: for every input the call returns true, and each argument reads as before. -/
import Derived.Test.YtobebcfkddimkaaRows
import Derived.Test.YtobebcfkddimkaaSG3
import Derived.Test.YtobebcfkddimkaaAmC
namespace Go.Proofs.Ytobebcfkddimkaa.segmentsBytes
open Go AM Go.RowKit
set_option linter.unusedVariables false
theorem own : ownKnob Try.prog.godebug = none := by kernel_rfl
set_option maxRecDepth 100000 in
theorem walk : ∀ (W : World) (H : Heap) (ρ : Env) (us : List V) (args : Array Value), HR W.heap.size W ρ H W → Rels ρ us args.toList → FitsA H [(.agg [(.i .u32), .b, (.i .u8), (.sl [(.i .u8)])]), (.one (.sl [(.i .u8)]))] us →
    Calls Try.prog 8 args W fun e W' => e = .returned (.bool true) ∧ Below W.heap.size W W' := by
  intro W H ρ us args hh hr hf
  obtain ⟨v0, us0, rfl, a0, b0⟩ := FitsA.uncons hf
  obtain ⟨c0, rfl, f0_0⟩ := FitA.unagg a0
  obtain ⟨w0_0, z0_0, rfl, e0_0, f0_1⟩ := Fits.uncons f0_0
  obtain ⟨x1, rfl, k1⟩ := Fit.int e0_0
  obtain ⟨w0_1, z0_1, rfl, e0_1, f0_2⟩ := Fits.uncons f0_1
  obtain ⟨x2, rfl⟩ := Fit.bool e0_1
  obtain ⟨w0_2, z0_2, rfl, e0_2, f0_3⟩ := Fits.uncons f0_2
  obtain ⟨x3, rfl, k3⟩ := Fit.int e0_2
  obtain ⟨w0_3, z0_3, rfl, e0_3, f0_4⟩ := Fits.uncons f0_3
  obtain ⟨x4, rfl, k4⟩ := Fit.slice e0_3
  obtain rfl := Fits.unnil f0_4
  obtain ⟨v1, us1, rfl, a1, b1⟩ := FitsA.uncons b0
  obtain ⟨x5, rfl, k5⟩ := Fit.slice (FitA.unone a1)
  obtain rfl := FitsA.unnil b1
  have ht := segmentsBytes_true H hh.wf x1 x2 x3 x4 x5 k1 k3 k4 k5
  have hk := (g8_fn g9 g19 g20 g9_lin g19_lin g20_lin x1 x2 x3 x4 x5 H (fun v _ => v.asB)).trans ht
  have := law_calls (E8_good ok9 ok19 ok20 g9_lin g19_lin g20_lin) mixed lim_ok Try.func8 hk hr hh
  simpa using this
set_option maxRecDepth 100000 in
theorem lifted (os : Os) (started : os.Started) (H : Type) (enc : TypeId × Value → H) :
    ReturnsInHanded {} Try.checked os 8 .any (Rows.segmentsBytesSpec.pre6 enc Try.prog Try.f8 Rows.segmentsBytesRow.domain false) (Rows.segmentsBytesSpec.post enc Try.prog Try.f8 false true false false) :=
  lift_law (C := Try.checked) (n := 30) (das := [(.agg [(.i .u32), .b, (.i .u8), (.sl [(.i .u8)])]), (.one (.sl [(.i .u8)]))]) (bt := 4) started own (by kernel_rfl) Try.func8
    (ChangeSpec.witness6 (enc := enc) (C := Try.checked) false ⟨#[], #[.agg #[.int .u32 0, .bool false, .int .u8 0, .slice none 0 0], .slice none 0 0], []⟩ 8 (by kernel_rfl) (by kernel_rfl) (by kernel_rfl) (by kernel_rfl))
    rfl (fun ds h => by obtain ⟨d0, d1, rfl⟩ := ds_len2 ds h; rfl) rfl (by kernel_rfl) (by kernel_rfl) (by kernel_rfl) (by kernel_rfl) (fun _ => GOkOf.nil _ _) walk
theorem over : Rows.segmentsBytesRow.holds Try.pinned (OpenSpec.ofChange Rows.segmentsBytesSpec) :=
  OpenClaim.holds_of_wide 8 Try.f8 rfl rfl rfl rfl rfl rfl rfl ⟨rfl, rfl, rfl, rfl, rfl⟩ rfl rfl rfl rfl rfl (by kernel_rfl) Try.func8 (by kernel_rfl)
    (of_decide_eq_true (by kernel_rfl)) (by unfold Func.isWrapper; first | (rw [if_pos (by decide +kernel)]; kernel_rfl) | (rw [if_neg (by decide +kernel)]; exact ⟨rfl, rfl⟩))
    (fun os started H enc _ => lifted os started H enc)
theorem proved : Rows.SegmentsBytesSaid := over
#print axioms proved
end Go.Proofs.Ytobebcfkddimkaa.segmentsBytes
namespace Go.Proofs.Ytobebcfkddimkaa
/-- The row, for the claim. -/
theorem segmentsBytes_holds : Rows.SegmentsBytesSaid := segmentsBytes.proved
end Go.Proofs.Ytobebcfkddimkaa

