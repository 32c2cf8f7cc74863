/- CallsCode holds: for every input the call returns true, and each argument reads as before. -/
import Derived.Test.YtnjihofdmncckaaDoorCards
import Derived.Test.YtnjihofdmncckaaDoorTie
import Derived.Test.YtnjihofdmncckaaDoorAmC
import Derived.Test.YtnjihofdmncckaaDoorGC
import Derived.ProofKit
import Derived.LaidMore
import Derived.Lay
import Derived.OpenShut
import Derived.Stop.Joined
import Derived.MakeChecks
import Derived.Stop.LaidErr
import Derived.SevenTiedAt
import Derived.Test.YtnjihofdmncckaaDoorRows
import Derived.Test.YtnjihofdmncckaaDoorCC5
namespace Go.Proofs.YtnjihofdmncckaaDoor.callsCode
open Go AM Go.RowKit
set_option linter.unusedVariables false
theorem own : ownKnob Tryd.prog.godebug = none := by kernel_rfl
set_option maxRecDepth 100000 in
theorem walk : ∀ (W : World) (H : Heap) (ρ : Env) (us : List V) (args : Array Value), HR W.heap.size W ρ H W → Rels ρ us args.toList → FitsA H [(.agg [(.i .u8), (.i .i64), .s, .s, (.i .u8)]), (.one (.sl [(.i .u8)]))] us →
    Calls Tryd.prog 3 args W fun e W' => e = .returned (.bool true) ∧ Below W.heap.size W W' := by
  intro W H ρ us args hh hr hf
  obtain ⟨v0, us0, rfl, a0, b0⟩ := FitsA.uncons hf
  obtain ⟨c0, rfl, f0_0⟩ := FitA.unagg a0
  obtain ⟨w0_0, z0_0, rfl, e0_0, f0_1⟩ := Fits.uncons f0_0
  obtain ⟨x1, rfl, k1⟩ := Fit.int e0_0
  obtain ⟨w0_1, z0_1, rfl, e0_1, f0_2⟩ := Fits.uncons f0_1
  obtain ⟨x2, rfl, k2⟩ := Fit.int e0_1
  obtain ⟨w0_2, z0_2, rfl, e0_2, f0_3⟩ := Fits.uncons f0_2
  obtain ⟨x3, rfl, k3⟩ := Fit.str e0_2
  obtain ⟨w0_3, z0_3, rfl, e0_3, f0_4⟩ := Fits.uncons f0_3
  obtain ⟨x4, rfl, k4⟩ := Fit.str e0_3
  obtain ⟨w0_4, z0_4, rfl, e0_4, f0_5⟩ := Fits.uncons f0_4
  obtain ⟨x5, rfl, k5⟩ := Fit.int e0_4
  obtain rfl := Fits.unnil f0_5
  obtain ⟨v1, us1, rfl, a1, b1⟩ := FitsA.uncons b0
  obtain ⟨x6, rfl, k6⟩ := Fit.slice (FitA.unone a1)
  obtain rfl := FitsA.unnil b1
  have ht := callsCode_true H hh.wf x1 x2 x3 x4 x5 x6 k1 k2 k3 k4 k5 k6
  have hk := (g3_fn g5 g6 g7 g8 g5_lin g6_lin g7_lin g8_lin x1 x2 x3 x4 x5 x6 H (fun v _ => v.asB)).trans ht
  have := law_calls (E3_good ok5 ok6 ok7 ok8 g5_lin g6_lin g7_lin g8_lin) mixed lim_ok Tryd.func3 hk hr hh
  simpa using this
def laidL : List (String × DataW Unit) := Rows.callsCodeRow.laid
theorem door_met (os : Os) (args : Array Value) : laidMetH Tryd.prog laidL ((World.laidAll Tryd.prog os laidL).forCall (fun _ _ => 0) ⟨#[], args, []⟩).memory := by
  rw [MakeChecks.laidMetH_plain _ _ _ (by kernel_rfl)]
  exact laidMet_laidAll _ (by kernel_rfl) (by kernel_rfl)
theorem gl (W : World) (h : laidMetH Tryd.prog laidL W) (hSh : W.ShapedOpen Tryd.prog) : GOk W.heap.size W := ⟨GOkOf.nil _ _, GIntOf.nil _ _⟩
set_option maxRecDepth 100000 in
theorem lifted (os : Os) (started : os.Started) (H : Type) (enc : TypeId × Value → H) :
    ReturnsInHanded {} Tryd.checked os 3 .any (fun w args => (Rows.callsCodeSpec.pre enc Tryd.prog Tryd.f3 [] false w args ∧ laidMetH Tryd.prog laidL w) ∧ sizedMet enc Tryd.prog Tryd.f3 (OpenSpec.ofChange Rows.callsCodeSpec) false w args) (Rows.callsCodeSpec.post enc Tryd.prog Tryd.f3 false true false false) :=
  lift_law_laid (C := Tryd.checked) (n := 30) (das := [(.agg [(.i .u8), (.i .i64), .s, .s, (.i .u8)]), (.one (.sl [(.i .u8)]))]) (bt := 4) (laid := laidL) started own (by kernel_rfl) Tryd.func3
    (ChangeSpec.witness_shaped (enc := enc) (C := Tryd.checked) (os := os) (X := fun w _ => laidMetH Tryd.prog laidL w) false (World.laidAll Tryd.prog os laidL) #[.agg #[.int .u8 0, .int .i64 0, .string ByteArray.empty, .string ByteArray.empty, .int .u8 0], .slice none 0 0] 8 (World.laidAll_os _ _ _) (World.shaped_of_ZipB (by kernel_rfl) (by kernel_rfl)) (by kernel_rfl) (by kernel_rfl) (by kernel_rfl) (door_met os _))
    rfl (fun ds h => by obtain ⟨d0, d1, rfl⟩ := ds_len2 ds h; rfl) rfl (by kernel_rfl) (by kernel_rfl) (by kernel_rfl) (by kernel_rfl) gl walk
theorem over : Rows.callsCodeRow.holds Tryd.pinned (OpenSpec.ofChange Rows.callsCodeSpec) :=
  OpenClaim.holds_of_wide 3 Tryd.f3 rfl rfl rfl rfl rfl rfl rfl ⟨rfl, rfl, rfl, rfl, rfl⟩ rfl rfl rfl rfl rfl (by kernel_rfl) Tryd.func3 (by kernel_rfl)
    (of_decide_eq_true (by kernel_rfl)) (by unfold Func.isWrapper; first | (rw [if_pos (by decide +kernel)]; kernel_rfl) | (rw [if_neg (by decide +kernel)]; exact ⟨rfl, rfl⟩))
    (fun os started H enc _ => lifted os started H enc)
theorem proved : Rows.CallsCodeCardSaid :=
  Claim7.holds_tied_plain_at .later [] [.data, .pinned] true _ false
    over (fun _ h => by cases h) (by kernel_rfl) (fun _ h => by cases h) callsCode_row_tie rfl ⟨rfl, rfl⟩ (by kernel_rfl) rfl
    (fun f fn hf hfn => by
      obtain rfl : f = 3 := Option.some.inj ((show Tryd.prog.funcNamed Rows.callsCodeRow.func = some 3 by kernel_rfl).symm.trans hf) |>.symm
      obtain rfl : fn = Tryd.f3 := (Option.some.inj (Tryd.func3.symm.trans hfn)).symm
      exact ⟨by kernel_rfl, fun j t ht => by
        rw [Tryd.params3] at ht
        have hm : t ∈ [24, 25] := by simpa using Array.mem_of_getElem? ht
        have hall : ([24, 25].all fun u => !Tryd.prog.wantsStandIn u) = true := by kernel_rfl
        exact (show Tryd.prog.wantsStandIn t = false by simpa using List.all_eq_true.1 hall t hm)⟩)
    (by kernel_rfl)
#print axioms proved
end Go.Proofs.YtnjihofdmncckaaDoor.callsCode
namespace Go.Proofs.YtnjihofdmncckaaDoor
/-- The card, for the claim. -/
theorem callsCode_holds : Rows.CallsCodeCardSaid := callsCode.proved
end Go.Proofs.YtnjihofdmncckaaDoor

