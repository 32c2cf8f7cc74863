/- UnitsDecode holds: for every input the call returns true, and each argument reads as before. -/
import Derived.Test.YteipplgcdbaokaaDoorCards
import Derived.Test.YteipplgcdbaokaaDoorTie
import Derived.Test.YteipplgcdbaokaaDoorAmC
import Derived.Test.YteipplgcdbaokaaDoorGC
import Derived.ProofKit
import Derived.LaidMore
import Derived.OpenShut
import Derived.Stop.Joined
import Derived.MakeChecks
import Derived.Stop.LaidErr
import Derived.SevenTiedAt
import Derived.Test.YteipplgcdbaokaaDoorRows
import Derived.Test.YteipplgcdbaokaaDoorUS10
namespace Go.Proofs.YteipplgcdbaokaaDoor.unitsDecode
open Go AM Go.RowKit
set_option linter.unusedVariables false
theorem own : ownKnob Tryd.prog.godebug = none := by kernel_rfl
set_option maxRecDepth 100000 in
theorem walk : ∀ (W : World) (H : Heap) (ρ : Env) (us : List V) (args : Array Value), HR W.heap.size W ρ H W → Rels ρ us args.toList → FitsA H [(.one (.sl [(.i .u8)]))] us →
    Calls Tryd.prog 4 args W fun e W' => e = .returned (.bool true) ∧ Below W.heap.size W W' := by
  intro W H ρ us args hh hr hf
  obtain ⟨v0, us0, rfl, a0, b0⟩ := FitsA.uncons hf
  obtain ⟨x1, rfl, k1⟩ := Fit.slice (FitA.unone a0)
  obtain rfl := FitsA.unnil b0
  have ht := unitsDecode_true H hh.wf x1 k1
  have hk := (g4_fn g8 g15 g16 g10 g9 g13 g14 g17 g8_lin g15_lin g16_lin g10_lin g9_lin g13_lin g14_lin g17_lin x1 H (fun v _ => v.asB)).trans ht
  have := law_calls (E4_good ok8 ok15 ok16 ok10 ok9 ok13 ok14 ok17 g8_lin g15_lin g16_lin g10_lin g9_lin g13_lin g14_lin g17_lin) mixed lim_ok Tryd.func4 hk hr hh
  simpa using this
def laidL : List (String × DataW Unit) := Rows.unitsDecodeRow.laid
theorem door_met (os : Os) (args : Array Value) : laidMetH Tryd.prog laidL ((World.doorLaid Tryd.prog 400 os).forCall (fun _ _ => 0) ⟨#[], args, []⟩).memory :=
  laidMetH_of_parts3 (fuel := 8) (laidMet_of_run' 8 (by kernel_rfl) (by kernel_rfl)) (by kernel_rfl) (by kernel_rfl)
theorem gl (W : World) (h : laidMetH Tryd.prog laidL W) : GOk W.heap.size W := by
  rw [MakeChecks.laidMetH_plain _ _ _ (by kernel_rfl)] at h
  have h2 : laidMet Tryd.prog [("math/bits.deBruijn32tab", Rows.laid_math_bits_deBruijn32tab), ("math/bits.deBruijn64tab", Rows.laid_math_bits_deBruijn64tab), ("internal/strconv.uint64pow10", Rows.laid_internal_strconv_uint64pow10)] W := h
  have ht : Lib.TabIs Tryd.prog W "internal/strconv.uint64pow10" .u64 Lib.pow10Tab := Lib.tabIs_of_head (g := 0) (t := 84) (e := 75) (n := 20) (by kernel_rfl) (by kernel_rfl) (by kernel_rfl) (by kernel_rfl) (by kernel_rfl) (by kernel_rfl) (show laidMet Tryd.prog (("internal/strconv.uint64pow10", Lib.tabData .u64 Lib.pow10Tab) :: _) W from (laidMet.tail (laidMet.tail h2)))
  obtain ⟨h1, h3⟩ := glob_of_tab uint64pow10_named ht
  intro p hp
  rw [show globs = [(0, Lib.pow10Tab.map fun z => Value.int .u64 z)] by kernel_rfl, List.mem_singleton] at hp
  subst hp
  exact ⟨h1, h3⟩
set_option maxRecDepth 100000 in
theorem lifted (os : Os) (started : os.Started) (H : Type) (enc : TypeId × Value → H) :
    ReturnsInHanded {} Tryd.checked os 4 .any (fun w args => (Rows.unitsDecodeSpec.pre enc Tryd.prog Tryd.f4 [] false w args ∧ laidMetH Tryd.prog laidL w) ∧ sizedMet enc Tryd.prog Tryd.f4 (OpenSpec.ofChange Rows.unitsDecodeSpec) false w args) (Rows.unitsDecodeSpec.post enc Tryd.prog Tryd.f4 false true false false) :=
  lift_law_laid (C := Tryd.checked) (n := 30) (das := [(.one (.sl [(.i .u8)]))]) (bt := 4) (laid := laidL) started own (by kernel_rfl) Tryd.func4
    (ChangeSpec.witness_shaped (enc := enc) (C := Tryd.checked) (os := os) (X := fun w _ => laidMetH Tryd.prog laidL w) false (World.doorLaid Tryd.prog 400 os) #[.slice none 0 0] 8 rfl (World.shaped_of_RefB (by kernel_rfl) (by kernel_rfl)) (by kernel_rfl) (by kernel_rfl) (by kernel_rfl) (door_met os _))
    rfl (fun ds h => by obtain ⟨d0, rfl⟩ := ds_len1 ds h; rfl) rfl (by kernel_rfl) (by kernel_rfl) (by kernel_rfl) (by kernel_rfl) gl walk
theorem over : Rows.unitsDecodeRow.holds Tryd.pinned (OpenSpec.ofChange Rows.unitsDecodeSpec) :=
  OpenClaim.holds_of_wide 4 Tryd.f4 rfl rfl rfl rfl rfl rfl rfl ⟨rfl, rfl, rfl, rfl, rfl⟩ rfl rfl rfl rfl rfl (by kernel_rfl) Tryd.func4 (by kernel_rfl)
    (of_decide_eq_true (by kernel_rfl)) (by unfold Func.isWrapper; first | (rw [if_pos (by decide +kernel)]; kernel_rfl) | (rw [if_neg (by decide +kernel)]; exact ⟨rfl, rfl⟩))
    (fun os started H enc _ => lifted os started H enc)
theorem proved : Rows.UnitsDecodeCardSaid :=
  Claim7.holds_tied_plain_at .later [] [.data, .data, .data] true _ false
    over (fun _ h => by cases h) (by kernel_rfl) (fun _ h => by cases h) unitsDecode_row_tie rfl ⟨rfl, rfl⟩ (by kernel_rfl) rfl
    (fun f fn hf hfn => by
      obtain rfl : f = 4 := Option.some.inj ((show Tryd.prog.funcNamed Rows.unitsDecodeRow.func = some 4 by kernel_rfl).symm.trans hf) |>.symm
      obtain rfl : fn = Tryd.f4 := (Option.some.inj (Tryd.func4.symm.trans hfn)).symm
      exact ⟨by kernel_rfl, fun j t ht => by
        rw [Tryd.params4] at ht
        have hm : t ∈ [23] := by simpa using Array.mem_of_getElem? ht
        have hall : ([23].all fun u => !Tryd.prog.wantsStandIn u) = true := by kernel_rfl
        exact (show Tryd.prog.wantsStandIn t = false by simpa using List.all_eq_true.1 hall t hm)⟩)
    (by kernel_rfl)
#print axioms proved
end Go.Proofs.YteipplgcdbaokaaDoor.unitsDecode
namespace Go.Proofs.YteipplgcdbaokaaDoor
/-- The card, for the claim. -/
theorem unitsDecode_holds : Rows.UnitsDecodeCardSaid := unitsDecode.proved
end Go.Proofs.YteipplgcdbaokaaDoor

