/- SegmentsKnown holds: for every input the call returns true, and each argument reads as before. -/
import Derived.Test.YtobebcfkddimkaaRows
import Derived.Test.YtobebcfkddimkaaKNL
import Derived.Test.YtobebcfkddimkaaAmC
namespace Go.Proofs.Ytobebcfkddimkaa.segmentsKnown
open Go AM Go.RowKit
set_option linter.unusedVariables false
theorem own : ownKnob Try.prog.godebug = none := by kernel_rfl
set_option maxRecDepth 100000 in
theorem walk : ∀ (W : World) (H : Heap) (ρ : Env) (us : List V) (args : Array Value), HR W.heap.size W ρ H W → Rels ρ us args.toList → FitsA H [] us →
    Calls Try.prog 6 args W fun e W' => e = .returned (.bool true) ∧ Below W.heap.size W W' := by
  intro W H ρ us args hh hr hf
  obtain rfl := FitsA.unnil hf
  have ht := segmentsKnown_true H hh.wf
  have hk := (g6_fn H (fun v _ => v.asB)).trans ht
  have := law_calls2 (E6_good) mixed lim_ok Try.func6 hk hr hh
  simpa using this
set_option maxRecDepth 100000 in
theorem lifted (os : Os) (started : os.Started) (H : Type) (enc : TypeId × Value → H) :
    ReturnsInHanded {} Try.checked os 6 .any (Rows.segmentsKnownSpec.pre6 enc Try.prog Try.f6 Rows.segmentsKnownRow.domain false) (Rows.segmentsKnownSpec.post enc Try.prog Try.f6 false true false false) :=
  lift_law (C := Try.checked) (n := 30) (das := []) (bt := 4) started own (by kernel_rfl) Try.func6
    (ChangeSpec.witness6 (enc := enc) (C := Try.checked) false ⟨#[], #[], []⟩ 8 (by kernel_rfl) (by kernel_rfl) (by kernel_rfl) (by kernel_rfl))
    rfl (fun ds h => by obtain rfl := ds_len0 ds h; rfl) rfl (by kernel_rfl) (by kernel_rfl) (by kernel_rfl) (by kernel_rfl) (fun _ => ⟨GOkOf.nil _ _, GIntOf.nil _ _⟩) walk
theorem over : Rows.segmentsKnownRow.holds Try.pinned (OpenSpec.ofChange Rows.segmentsKnownSpec) :=
  OpenClaim.holds_of_wide 6 Try.f6 rfl rfl rfl rfl rfl rfl rfl ⟨rfl, rfl, rfl, rfl, rfl⟩ rfl rfl rfl rfl rfl (by kernel_rfl) Try.func6 (by kernel_rfl)
    (of_decide_eq_true (by kernel_rfl)) (by unfold Func.isWrapper; first | (rw [if_pos (by decide +kernel)]; kernel_rfl) | (rw [if_neg (by decide +kernel)]; exact ⟨rfl, rfl⟩))
    (fun os started H enc _ => lifted os started H enc)
theorem proved : Rows.SegmentsKnownSaid := over
#print axioms proved
end Go.Proofs.Ytobebcfkddimkaa.segmentsKnown
namespace Go.Proofs.Ytobebcfkddimkaa
/-- The row, for the claim. -/
theorem segmentsKnown_holds : Rows.SegmentsKnownSaid := segmentsKnown.proved
end Go.Proofs.Ytobebcfkddimkaa

