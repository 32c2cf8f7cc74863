/- SegmentsJoins holds: for every input the call returns true, and each argument reads as before. -/
import Derived.Test.YtobebcfkddimkaaRows
import Derived.Test.YtobebcfkddimkaaSJ
import Derived.Test.YtobebcfkddimkaaAmC
namespace Go.Proofs.Ytobebcfkddimkaa.segmentsJoins
open Go AM Go.RowKit
set_option linter.unusedVariables false
theorem own : ownKnob Try.prog.godebug = none := by kernel_rfl
set_option maxRecDepth 100000 in
theorem walk : ∀ (W : World) (H : Heap) (ρ : Env) (us : List V) (args : Array Value), HR W.heap.size W ρ H W → Rels ρ us args.toList → FitsA H [(.one (.sl [(.i .u8), (.i .u8), (.sl [(.i .u8)]), (.i .u8)])), (.one (.sl [(.i .u8)])), (.one (.i .u8))] us →
    Calls Try.prog 4 args W fun e W' => e = .returned (.bool true) ∧ Below W.heap.size W W' := by
  intro W H ρ us args hh hr hf
  obtain ⟨v0, us0, rfl, a0, b0⟩ := FitsA.uncons hf
  obtain ⟨x1, rfl, k1⟩ := Fit.slice (FitA.unone a0)
  obtain ⟨v1, us1, rfl, a1, b1⟩ := FitsA.uncons b0
  obtain ⟨x2, rfl, k2⟩ := Fit.slice (FitA.unone a1)
  obtain ⟨v2, us2, rfl, a2, b2⟩ := FitsA.uncons b1
  obtain ⟨x3, rfl, k3⟩ := Fit.int (FitA.unone a2)
  obtain rfl := FitsA.unnil b2
  have ht := segmentsJoins_true H hh.wf x1 x2 x3 k1 k2 k3
  have hk := (g4_fn g9 g10 g12 g11 g13 g14 g9_lin g10_lin g12_lin g11_lin g13_lin g14_lin x1 x2 x3 H (fun v _ => v.asB)).trans ht
  have := law_calls2 (E4_good ok9 ok10 ok12 ok11 ok13 ok14 g9_lin g10_lin g12_lin g11_lin g13_lin g14_lin) mixed lim_ok Try.func4 hk hr hh
  simpa using this
set_option maxRecDepth 100000 in
theorem lifted (os : Os) (started : os.Started) (H : Type) (enc : TypeId × Value → H) :
    ReturnsInHanded {} Try.checked os 4 .any (Rows.segmentsJoinsSpec.pre6 enc Try.prog Try.f4 Rows.segmentsJoinsRow.domain false) (Rows.segmentsJoinsSpec.post enc Try.prog Try.f4 false true false false) :=
  lift_law (C := Try.checked) (n := 30) (das := [(.one (.sl [(.i .u8), (.i .u8), (.sl [(.i .u8)]), (.i .u8)])), (.one (.sl [(.i .u8)])), (.one (.i .u8))]) (bt := 4) started own (by kernel_rfl) Try.func4
    (ChangeSpec.witness6 (enc := enc) (C := Try.checked) false ⟨#[], #[.slice none 0 0, .slice none 0 0, .int .u8 0], []⟩ 8 (by kernel_rfl) (by kernel_rfl) (by kernel_rfl) (by kernel_rfl))
    rfl (fun ds h => by obtain ⟨d0, d1, d2, rfl⟩ := ds_len3 ds h; rfl) rfl (by kernel_rfl) (by kernel_rfl) (by kernel_rfl) (by kernel_rfl) (fun _ => ⟨GOkOf.nil _ _, GIntOf.nil _ _⟩) walk
theorem over : Rows.segmentsJoinsRow.holds Try.pinned (OpenSpec.ofChange Rows.segmentsJoinsSpec) :=
  OpenClaim.holds_of_wide 4 Try.f4 rfl rfl rfl rfl rfl rfl rfl ⟨rfl, rfl, rfl, rfl, rfl⟩ rfl rfl rfl rfl rfl (by kernel_rfl) Try.func4 (by kernel_rfl)
    (of_decide_eq_true (by kernel_rfl)) (by unfold Func.isWrapper; first | (rw [if_pos (by decide +kernel)]; kernel_rfl) | (rw [if_neg (by decide +kernel)]; exact ⟨rfl, rfl⟩))
    (fun os started H enc _ => lifted os started H enc)
theorem proved : Rows.SegmentsJoinsSaid := over
#print axioms proved
end Go.Proofs.Ytobebcfkddimkaa.segmentsJoins
namespace Go.Proofs.Ytobebcfkddimkaa
/-- The row, for the claim. -/
theorem segmentsJoins_holds : Rows.SegmentsJoinsSaid := segmentsJoins.proved
end Go.Proofs.Ytobebcfkddimkaa

