/- ConnectionsFlows holds: for every input the call returns true, and each argument reads as before. -/
import Derived.Test.YtnlfkllnmobppaaRows
import Derived.Test.YtnlfkllnmobppaaCE8
import Derived.Test.YtnlfkllnmobppaaAmC
namespace Go.Proofs.Ytnlfkllnmobppaa.connectionsFlows
open Go AM Go.RowKit
set_option linter.unusedVariables false
theorem own:ownKnob Try.prog.godebug = none:=by kernel_rfl
set_option maxRecDepth 100000 in
theorem walk : ∀ (W : World) (H : Heap) (ρ : Env) (us : List V) (args : Array Value), HR W.heap.size W ρ H W → Rels ρ us args.toList → FitsA H [(.one (.sl [(.i .u8), (.i .u8), (.i .u8), (.sl [(.i .u8)])])), (.one (.i .u8))] us →
    Calls Try.prog 4 args W fun e W'=>e = .returned (.bool true)∧Below W.heap.size W W':=by
  intro W H ρ us args hh hr hf
  obtain ⟨v0,us0,rfl,a0,b0⟩:=FitsA.uncons hf
  obtain ⟨x1,rfl,k1⟩:=Fit.slice (FitA.unone a0)
  obtain ⟨v1,us1,rfl,a1,b1⟩:=FitsA.uncons b0
  obtain ⟨x2,rfl,k2⟩:=Fit.int (FitA.unone a1)
  obtain rfl:=FitsA.unnil b1
  have ht:=connectionsFlows_true H hh.wf x1 x2 k1 k2
  have hk:=(g4_fn x1 x2 H (fun v _=>v.asB)).trans ht
  have:=law_calls2 (E4_good) mixed lim_ok Try.func4 hk hr hh
  simpa using this
set_option maxRecDepth 100000 in
theorem lifted (os : Os) (started : os.Started) (H : Type) (enc : TypeId × Value → H) :
    ReturnsInHanded {} Try.checked os 4 .any (Rows.connectionsFlowsSpec.pre6 enc Try.prog Try.f4 Rows.connectionsFlowsRow.domain false) (Rows.connectionsFlowsSpec.post enc Try.prog Try.f4 false true false false) :=
  lift_law (C:=Try.checked) (n:=30) (das:=[(.one (.sl [(.i .u8),(.i .u8),(.i .u8),(.sl [(.i .u8)])])),(.one (.i .u8))]) (bt:=4) started own (by kernel_rfl) Try.func4
    (ChangeSpec.witness6 (enc:=enc) (C:=Try.checked) false ⟨#[],#[.slice none 0 0,.int .u8 0],[]⟩ 8 (by kernel_rfl) (by kernel_rfl) (by kernel_rfl) (by kernel_rfl))
    rfl (fun ds h=>by obtain ⟨d0,d1,rfl⟩:=ds_len2 ds h; rfl) rfl (by kernel_rfl) (by kernel_rfl) (by kernel_rfl) (by kernel_rfl) (fun _=>⟨GOkOf.nil _ _,GIntOf.nil _ _⟩) walk
theorem over:Rows.connectionsFlowsRow.holds Try.pinned (OpenSpec.ofChange Rows.connectionsFlowsSpec) :=
  OpenClaim.holds_of_wide 4 Try.f4 rfl rfl rfl rfl rfl rfl rfl ⟨rfl,rfl,rfl,rfl,rfl⟩ rfl rfl rfl rfl rfl (by kernel_rfl) Try.func4 (by kernel_rfl)
    (of_decide_eq_true (by kernel_rfl)) (by unfold Func.isWrapper; first | (rw [if_pos (by decide +kernel)]; kernel_rfl) | (rw [if_neg (by decide +kernel)]; exact ⟨rfl,rfl⟩))
    (fun os started H enc _=>lifted os started H enc)
theorem proved:Rows.ConnectionsFlowsSaid:=over
#print axioms proved
end Go.Proofs.Ytnlfkllnmobppaa.connectionsFlows
namespace Go.Proofs.Ytnlfkllnmobppaa
/-- The row, for the claim. -/
theorem connectionsFlows_holds:Rows.ConnectionsFlowsSaid:=connectionsFlows.proved
end Go.Proofs.Ytnlfkllnmobppaa

