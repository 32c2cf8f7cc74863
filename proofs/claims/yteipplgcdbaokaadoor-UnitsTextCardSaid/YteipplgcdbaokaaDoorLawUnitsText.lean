/- UnitsText holds: for every input the call returns true, and each argument reads as before. -/
import Derived.Test.YteipplgcdbaokaaDoorCards
import Derived.Test.YteipplgcdbaokaaDoorTie
import Derived.Test.YteipplgcdbaokaaDoorAmC
import Derived.Test.YteipplgcdbaokaaDoorGC
import Derived.ProofKit
import Derived.LaidMore
import Derived.OpenShut
import Derived.Stop.Joined
import Derived.MakeChecks
import Derived.Stop.LaidErr
import Derived.SevenTiedAt
import Derived.Test.YteipplgcdbaokaaDoorRows
import Derived.Test.YteipplgcdbaokaaDoorUS12
namespace Go.Proofs.YteipplgcdbaokaaDoor.unitsText
open Go AM Go.RowKit
set_option linter.unusedVariables false
theorem own : ownKnob Tryd.prog.godebug = none := by kernel_rfl
set_option maxRecDepth 100000 in
theorem walk : ∀ (W : World) (H : Heap) (ρ : Env) (us : List V) (args : Array Value), HR W.heap.size W ρ H W → Rels ρ us args.toList → FitsA H [(.agg [(.i .u8), (.i .u8), (.i .u8), (.i .u8), (.i .u16), (.sl [(.i .u8)])])] us →
    Calls Tryd.prog 7 args W fun e W' => e = .returned (.bool true) ∧ Below W.heap.size W W' := by
  intro W H ρ us args hh hr hf
  obtain ⟨v0, us0, rfl, a0, b0⟩ := FitsA.uncons hf
  obtain ⟨c0, rfl, f0_0⟩ := FitA.unagg a0
  obtain ⟨w0_0, z0_0, rfl, e0_0, f0_1⟩ := Fits.uncons f0_0
  obtain ⟨x1, rfl, k1⟩ := Fit.int e0_0
  obtain ⟨w0_1, z0_1, rfl, e0_1, f0_2⟩ := Fits.uncons f0_1
  obtain ⟨x2, rfl, k2⟩ := Fit.int e0_1
  obtain ⟨w0_2, z0_2, rfl, e0_2, f0_3⟩ := Fits.uncons f0_2
  obtain ⟨x3, rfl, k3⟩ := Fit.int e0_2
  obtain ⟨w0_3, z0_3, rfl, e0_3, f0_4⟩ := Fits.uncons f0_3
  obtain ⟨x4, rfl, k4⟩ := Fit.int e0_3
  obtain ⟨w0_4, z0_4, rfl, e0_4, f0_5⟩ := Fits.uncons f0_4
  obtain ⟨x5, rfl, k5⟩ := Fit.int e0_4
  obtain ⟨w0_5, z0_5, rfl, e0_5, f0_6⟩ := Fits.uncons f0_5
  obtain ⟨x6, rfl, k6⟩ := Fit.slice e0_5
  obtain rfl := Fits.unnil f0_6
  obtain rfl := FitsA.unnil b0
  have ht := unitsText_true H hh.wf x1 x2 x3 x4 x5 x6 k1 k2 k3 k4 k5 k6
  have hk := (g7_fn g21 g22 g23 g12 g8 g21_lin g22_lin g23_lin g12_lin g8_lin x1 x2 x3 x4 x5 x6 H (fun v _ => v.asB)).trans ht
  have := law_calls (E7_good ok21 ok22 ok23 ok12 ok8 g21_lin g22_lin g23_lin g12_lin g8_lin) mixed lim_ok Tryd.func7 hk hr hh
  simpa using this
def laidL : List (String × DataW Unit) := Rows.unitsTextRow.laid
theorem door_met (os : Os) (args : Array Value) : laidMetH Tryd.prog laidL ((World.doorLaid Tryd.prog 400 os).forCall (fun _ _ => 0) ⟨#[], args, []⟩).memory :=
  laidMetH_of_parts3 (fuel := 8) (laidMet_of_run' 8 (by kernel_rfl) (by kernel_rfl)) (by kernel_rfl) (by kernel_rfl)
theorem gl (W : World) (h : laidMetH Tryd.prog laidL W) : GOk W.heap.size W := by
  rw [MakeChecks.laidMetH_plain _ _ _ (by kernel_rfl)] at h
  have h2 : laidMet Tryd.prog [("math/bits.deBruijn32tab", Rows.laid_math_bits_deBruijn32tab), ("math/bits.deBruijn64tab", Rows.laid_math_bits_deBruijn64tab), ("internal/strconv.uint64pow10", Rows.laid_internal_strconv_uint64pow10)] W := h
  have ht : Lib.TabIs Tryd.prog W "internal/strconv.uint64pow10" .u64 Lib.pow10Tab := Lib.tabIs_of_head (g := 0) (t := 84) (e := 75) (n := 20) (by kernel_rfl) (by kernel_rfl) (by kernel_rfl) (by kernel_rfl) (by kernel_rfl) (by kernel_rfl) (show laidMet Tryd.prog (("internal/strconv.uint64pow10", Lib.tabData .u64 Lib.pow10Tab) :: _) W from (laidMet.tail (laidMet.tail h2)))
  obtain ⟨h1, h3⟩ := glob_of_tab uint64pow10_named ht
  intro p hp
  rw [show globs = [(0, Lib.pow10Tab.map fun z => Value.int .u64 z)] by kernel_rfl, List.mem_singleton] at hp
  subst hp
  exact ⟨h1, h3⟩
set_option maxRecDepth 100000 in
theorem lifted (os : Os) (started : os.Started) (H : Type) (enc : TypeId × Value → H) :
    ReturnsInHanded {} Tryd.checked os 7 .any (fun w args => (Rows.unitsTextSpec.pre enc Tryd.prog Tryd.f7 [] false w args ∧ laidMetH Tryd.prog laidL w) ∧ sizedMet enc Tryd.prog Tryd.f7 (OpenSpec.ofChange Rows.unitsTextSpec) false w args) (Rows.unitsTextSpec.post enc Tryd.prog Tryd.f7 false true false false) :=
  lift_law_laid (C := Tryd.checked) (n := 30) (das := [(.agg [(.i .u8), (.i .u8), (.i .u8), (.i .u8), (.i .u16), (.sl [(.i .u8)])])]) (bt := 4) (laid := laidL) started own (by kernel_rfl) Tryd.func7
    (ChangeSpec.witness_shaped (enc := enc) (C := Tryd.checked) (os := os) (X := fun w _ => laidMetH Tryd.prog laidL w) false (World.doorLaid Tryd.prog 400 os) #[.agg #[.int .u8 0, .int .u8 0, .int .u8 0, .int .u8 0, .int .u16 0, .slice none 0 0]] 8 rfl (World.shaped_of_RefB (by kernel_rfl) (by kernel_rfl)) (by kernel_rfl) (by kernel_rfl) (by kernel_rfl) (door_met os _))
    rfl (fun ds h => by obtain ⟨d0, rfl⟩ := ds_len1 ds h; rfl) rfl (by kernel_rfl) (by kernel_rfl) (by kernel_rfl) (by kernel_rfl) gl walk
theorem over : Rows.unitsTextRow.holds Tryd.pinned (OpenSpec.ofChange Rows.unitsTextSpec) :=
  OpenClaim.holds_of_wide 7 Tryd.f7 rfl rfl rfl rfl rfl rfl rfl ⟨rfl, rfl, rfl, rfl, rfl⟩ rfl rfl rfl rfl rfl (by kernel_rfl) Tryd.func7 (by kernel_rfl)
    (of_decide_eq_true (by kernel_rfl)) (by unfold Func.isWrapper; first | (rw [if_pos (by decide +kernel)]; kernel_rfl) | (rw [if_neg (by decide +kernel)]; exact ⟨rfl, rfl⟩))
    (fun os started H enc _ => lifted os started H enc)
theorem proved : Rows.UnitsTextCardSaid :=
  Claim7.holds_tied_plain_at .later [] [.data, .data, .data] true _ false
    over (fun _ h => by cases h) (by kernel_rfl) (fun _ h => by cases h) unitsText_row_tie rfl ⟨rfl, rfl⟩ (by kernel_rfl) rfl
    (fun f fn hf hfn => by
      obtain rfl : f = 7 := Option.some.inj ((show Tryd.prog.funcNamed Rows.unitsTextRow.func = some 7 by kernel_rfl).symm.trans hf) |>.symm
      obtain rfl : fn = Tryd.f7 := (Option.some.inj (Tryd.func7.symm.trans hfn)).symm
      exact ⟨by kernel_rfl, fun j t ht => by
        rw [Tryd.params7] at ht
        have hm : t ∈ [46] := by simpa using Array.mem_of_getElem? ht
        have hall : ([46].all fun u => !Tryd.prog.wantsStandIn u) = true := by kernel_rfl
        exact (show Tryd.prog.wantsStandIn t = false by simpa using List.all_eq_true.1 hall t hm)⟩)
    (by kernel_rfl)
#print axioms proved
end Go.Proofs.YteipplgcdbaokaaDoor.unitsText
namespace Go.Proofs.YteipplgcdbaokaaDoor
/-- The card, for the claim. -/
theorem unitsText_holds : Rows.UnitsTextCardSaid := unitsText.proved
end Go.Proofs.YteipplgcdbaokaaDoor

