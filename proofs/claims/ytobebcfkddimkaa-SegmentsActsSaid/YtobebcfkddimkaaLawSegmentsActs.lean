/- SegmentsActs holds: for every input the call returns true, and each argument reads as before. -/
import Derived.Test.YtobebcfkddimkaaRows
import Derived.Test.YtobebcfkddimkaaSXA
import Derived.Test.YtobebcfkddimkaaAmC
namespace Go.Proofs.Ytobebcfkddimkaa.segmentsActs
open Go AM Go.RowKit
set_option linter.unusedVariables false
theorem own : ownKnob Try.prog.godebug = none := by kernel_rfl
set_option maxRecDepth 100000 in
theorem walk : ∀ (W : World) (H : Heap) (ρ : Env) (us : List V) (args : Array Value), HR W.heap.size W ρ H W → Rels ρ us args.toList → FitsA H [(.one (.sl [.b, (.i .u16), (.i .u32), .b, (.i .u8), (.sl [(.i .u8)])])), (.one (.i .u8))] us →
    Calls Try.prog 5 args W fun e W' => e = .returned (.bool true) ∧ Below W.heap.size W W' := by
  intro W H ρ us args hh hr hf
  obtain ⟨v0, us0, rfl, a0, b0⟩ := FitsA.uncons hf
  obtain ⟨x1, rfl, k1⟩ := Fit.slice (FitA.unone a0)
  obtain ⟨v1, us1, rfl, a1, b1⟩ := FitsA.uncons b0
  obtain ⟨x2, rfl, k2⟩ := Fit.int (FitA.unone a1)
  obtain rfl := FitsA.unnil b1
  have ht := segmentsActs_true H hh.wf x1 x2 k1 k2
  have hk := (g5_fn g9 g10 g11 g15 g14 g13 g16 g9_lin g10_lin g11_lin g15_lin g14_lin g13_lin g16_lin x1 x2 H (fun v _ => v.asB)).trans ht
  have := law_calls2 (E5_good ok9 ok10 ok11 ok15 ok14 ok13 ok16 g9_lin g10_lin g11_lin g15_lin g14_lin g13_lin g16_lin) mixed lim_ok Try.func5 hk hr hh
  simpa using this
set_option maxRecDepth 100000 in
theorem lifted (os : Os) (started : os.Started) (H : Type) (enc : TypeId × Value → H) :
    ReturnsInHanded {} Try.checked os 5 .any (Rows.segmentsActsSpec.pre6 enc Try.prog Try.f5 Rows.segmentsActsRow.domain false) (Rows.segmentsActsSpec.post enc Try.prog Try.f5 false true false false) :=
  lift_law (C := Try.checked) (n := 30) (das := [(.one (.sl [.b, (.i .u16), (.i .u32), .b, (.i .u8), (.sl [(.i .u8)])])), (.one (.i .u8))]) (bt := 4) started own (by kernel_rfl) Try.func5
    (ChangeSpec.witness6 (enc := enc) (C := Try.checked) false ⟨#[], #[.slice none 0 0, .int .u8 0], []⟩ 8 (by kernel_rfl) (by kernel_rfl) (by kernel_rfl) (by kernel_rfl))
    rfl (fun ds h => by obtain ⟨d0, d1, rfl⟩ := ds_len2 ds h; rfl) rfl (by kernel_rfl) (by kernel_rfl) (by kernel_rfl) (by kernel_rfl) (fun _ => ⟨GOkOf.nil _ _, GIntOf.nil _ _⟩) walk
theorem over : Rows.segmentsActsRow.holds Try.pinned (OpenSpec.ofChange Rows.segmentsActsSpec) :=
  OpenClaim.holds_of_wide 5 Try.f5 rfl rfl rfl rfl rfl rfl rfl ⟨rfl, rfl, rfl, rfl, rfl⟩ rfl rfl rfl rfl rfl (by kernel_rfl) Try.func5 (by kernel_rfl)
    (of_decide_eq_true (by kernel_rfl)) (by unfold Func.isWrapper; first | (rw [if_pos (by decide +kernel)]; kernel_rfl) | (rw [if_neg (by decide +kernel)]; exact ⟨rfl, rfl⟩))
    (fun os started H enc _ => lifted os started H enc)
theorem proved : Rows.SegmentsActsSaid := over
#print axioms proved
end Go.Proofs.Ytobebcfkddimkaa.segmentsActs
namespace Go.Proofs.Ytobebcfkddimkaa
/-- The row, for the claim. -/
theorem segmentsActs_holds : Rows.SegmentsActsSaid := segmentsActs.proved
end Go.Proofs.Ytobebcfkddimkaa

