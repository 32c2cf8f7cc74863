/- ConnectionsBytes holds: for every input the call returns true, and each argument reads as before. -/
import Derived.Test.YtnlfkllnmobppaaRows
import Derived.Test.YtnlfkllnmobppaaCB5
import Derived.Test.YtnlfkllnmobppaaAmC
namespace Go.Proofs.Ytnlfkllnmobppaa.connectionsBytes
open Go AM Go.RowKit
set_option linter.unusedVariables false
theorem own : ownKnob Try.prog.godebug = none := by kernel_rfl
set_option maxRecDepth 100000 in
theorem walk : ∀ (W : World) (H : Heap) (ρ : Env) (us : List V) (args : Array Value), HR W.heap.size W ρ H W → Rels ρ us args.toList → FitsA H [(.agg [(.i .u8), (.i .u32), (.i .u32), (.i .u8), (.i .u8), (.i .u8), (.i .u8), (.sl [(.i .u8)])]), (.one (.sl [(.i .u8)]))] us →
    Calls Try.prog 3 args W fun e W' => e = .returned (.bool true) ∧ Below W.heap.size W W' := by
  intro W H ρ us args hh hr hf
  obtain ⟨v0, us0, rfl, a0, b0⟩ := FitsA.uncons hf
  obtain ⟨c0, rfl, f0_0⟩ := FitA.unagg a0
  obtain ⟨w0_0, z0_0, rfl, e0_0, f0_1⟩ := Fits.uncons f0_0
  obtain ⟨x1, rfl, k1⟩ := Fit.int e0_0
  obtain ⟨w0_1, z0_1, rfl, e0_1, f0_2⟩ := Fits.uncons f0_1
  obtain ⟨x2, rfl, k2⟩ := Fit.int e0_1
  obtain ⟨w0_2, z0_2, rfl, e0_2, f0_3⟩ := Fits.uncons f0_2
  obtain ⟨x3, rfl, k3⟩ := Fit.int e0_2
  obtain ⟨w0_3, z0_3, rfl, e0_3, f0_4⟩ := Fits.uncons f0_3
  obtain ⟨x4, rfl, k4⟩ := Fit.int e0_3
  obtain ⟨w0_4, z0_4, rfl, e0_4, f0_5⟩ := Fits.uncons f0_4
  obtain ⟨x5, rfl, k5⟩ := Fit.int e0_4
  obtain ⟨w0_5, z0_5, rfl, e0_5, f0_6⟩ := Fits.uncons f0_5
  obtain ⟨x6, rfl, k6⟩ := Fit.int e0_5
  obtain ⟨w0_6, z0_6, rfl, e0_6, f0_7⟩ := Fits.uncons f0_6
  obtain ⟨x7, rfl, k7⟩ := Fit.int e0_6
  obtain ⟨w0_7, z0_7, rfl, e0_7, f0_8⟩ := Fits.uncons f0_7
  obtain ⟨x8, rfl, k8⟩ := Fit.slice e0_7
  obtain rfl := Fits.unnil f0_8
  obtain ⟨v1, us1, rfl, a1, b1⟩ := FitsA.uncons b0
  obtain ⟨x9, rfl, k9⟩ := Fit.slice (FitA.unone a1)
  obtain rfl := FitsA.unnil b1
  have ht := connectionsBytes_true H hh.wf x1 x2 x3 x4 x5 x6 x7 x8 x9 k1 k2 k3 k4 k5 k6 k7 k8 k9
  have hk := (g3_fn g9 g10 g11 g12 g13 g14 g15 g16 g9_lin g10_lin g11_lin g12_lin g13_lin g14_lin g15_lin g16_lin x1 x2 x3 x4 x5 x6 x7 x8 x9 H (fun v _ => v.asB)).trans ht
  have := law_calls (E3_good ok9 ok10 ok11 ok12 ok13 ok14 ok15 ok16 g9_lin g10_lin g11_lin g12_lin g13_lin g14_lin g15_lin g16_lin) mixed lim_ok Try.func3 hk hr hh
  simpa using this
set_option maxRecDepth 100000 in
theorem lifted (os : Os) (started : os.Started) (H : Type) (enc : TypeId × Value → H) :
    ReturnsInHanded {} Try.checked os 3 .any (Rows.connectionsBytesSpec.pre6 enc Try.prog Try.f3 Rows.connectionsBytesRow.domain false) (Rows.connectionsBytesSpec.post enc Try.prog Try.f3 false true false false) :=
  lift_law (C := Try.checked) (n := 30) (das := [(.agg [(.i .u8), (.i .u32), (.i .u32), (.i .u8), (.i .u8), (.i .u8), (.i .u8), (.sl [(.i .u8)])]), (.one (.sl [(.i .u8)]))]) (bt := 4) started own (by kernel_rfl) Try.func3
    (ChangeSpec.witness6 (enc := enc) (C := Try.checked) false ⟨#[], #[.agg #[.int .u8 0, .int .u32 0, .int .u32 0, .int .u8 0, .int .u8 0, .int .u8 0, .int .u8 0, .slice none 0 0], .slice none 0 0], []⟩ 8 (by kernel_rfl) (by kernel_rfl) (by kernel_rfl) (by kernel_rfl))
    rfl (fun ds h => by obtain ⟨d0, d1, rfl⟩ := ds_len2 ds h; rfl) rfl (by kernel_rfl) (by kernel_rfl) (by kernel_rfl) (by kernel_rfl) (fun _ => ⟨GOkOf.nil _ _, GIntOf.nil _ _⟩) walk
theorem over : Rows.connectionsBytesRow.holds Try.pinned (OpenSpec.ofChange Rows.connectionsBytesSpec) :=
  OpenClaim.holds_of_wide 3 Try.f3 rfl rfl rfl rfl rfl rfl rfl ⟨rfl, rfl, rfl, rfl, rfl⟩ rfl rfl rfl rfl rfl (by kernel_rfl) Try.func3 (by kernel_rfl)
    (of_decide_eq_true (by kernel_rfl)) (by unfold Func.isWrapper; first | (rw [if_pos (by decide +kernel)]; kernel_rfl) | (rw [if_neg (by decide +kernel)]; exact ⟨rfl, rfl⟩))
    (fun os started H enc _ => lifted os started H enc)
theorem proved : Rows.ConnectionsBytesSaid := over
#print axioms proved
end Go.Proofs.Ytnlfkllnmobppaa.connectionsBytes
namespace Go.Proofs.Ytnlfkllnmobppaa
/-- The row, for the claim. -/
theorem connectionsBytes_holds : Rows.ConnectionsBytesSaid := connectionsBytes.proved
end Go.Proofs.Ytnlfkllnmobppaa

