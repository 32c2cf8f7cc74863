/- LabelsParse holds: for every input the call returns true, and each argument reads as before. -/
import Derived.Test.YtgdkkpjmjnknoaaDoorCards
import Derived.Test.YtgdkkpjmjnknoaaDoorTie
import Derived.Test.YtgdkkpjmjnknoaaDoorAmC
import Derived.Test.YtgdkkpjmjnknoaaDoorGC
import Derived.ProofKit
import Derived.LaidMore
import Derived.Lay
import Derived.OpenShut
import Derived.Stop.Joined
import Derived.MakeChecks
import Derived.Stop.LaidErr
import Derived.SevenTiedAt
import Derived.Test.YtgdkkpjmjnknoaaDoorRows
import Derived.Test.YtgdkkpjmjnknoaaDoorLB12
namespace Go.Proofs.YtgdkkpjmjnknoaaDoor.labelsParse
open Go AM Go.RowKit
set_option linter.unusedVariables false
theorem own : ownKnob Tryd.prog.godebug = none := by kernel_rfl
set_option maxRecDepth 100000 in
theorem walk : ∀ (W : World) (H : Heap) (ρ : Env) (us : List V) (args : Array Value), HR W.heap.size W ρ H W → Rels ρ us args.toList → FitsA H [(.one .s)] us →
    Calls Tryd.prog 4 args W fun e W' => e = .returned (.bool true) ∧ Below W.heap.size W W' := by
  intro W H ρ us args hh hr hf
  obtain ⟨v0, us0, rfl, a0, b0⟩ := FitsA.uncons hf
  obtain ⟨x1, rfl, k1⟩ := Fit.str (FitA.unone a0)
  obtain rfl := FitsA.unnil b0
  have ht := labelsParse_true H hh.wf x1 (Nat.le_trans k1 (by decide))
  have hk := (g4_fn g12 g13 g15 g16 g11 g12_lin g13_lin g15_lin g16_lin g11_lin x1 H (fun v _ => v.asB)).trans ht
  have := law_calls (E4_good ok12 ok13 ok15 ok16 ok11 g12_lin g13_lin g15_lin g16_lin g11_lin) mixed lim_ok Tryd.func4 hk hr hh
  simpa using this
def laidL : List (String × DataW Unit) := Rows.labelsParseRow.laid
theorem door_met (os : Os) (args : Array Value) : laidMetH Tryd.prog laidL ((World.laidAll Tryd.prog os laidL).forCall (fun _ _ => 0) ⟨#[], args, []⟩).memory := by
  rw [MakeChecks.laidMetH_plain _ _ _ (by kernel_rfl)]
  exact laidMet_laidAll _ (by kernel_rfl) (by kernel_rfl)
theorem gl (W : World) (h : laidMetH Tryd.prog laidL W) (hSh : W.ShapedOpen Tryd.prog) : GOk W.heap.size W := by
  rw [MakeChecks.laidMetH_plain _ _ _ (by kernel_rfl)] at h
  have h2 : laidMet Tryd.prog [("math/bits.deBruijn32tab", Rows.laid_math_bits_deBruijn32tab), ("math/bits.deBruijn64tab", Rows.laid_math_bits_deBruijn64tab), ("internal/strconv.uint64pow10", Rows.laid_internal_strconv_uint64pow10), ("unicode/utf8.acceptRanges", Rows.laid_unicode_utf8_acceptRanges), ("unicode/utf8.first", Rows.laid_unicode_utf8_first)] W := h
  have ht : Lib.TabIs Tryd.prog W "internal/strconv.uint64pow10" .u64 Lib.pow10Tab := Lib.tabIs_of_head (g := 1) (t := 107) (e := 74) (n := 20) (by kernel_rfl) (by kernel_rfl) (by kernel_rfl) (by kernel_rfl) (by kernel_rfl) (by kernel_rfl) (show laidMet Tryd.prog (("internal/strconv.uint64pow10", Lib.tabData .u64 Lib.pow10Tab) :: _) W from (laidMet.tail (laidMet.tail h2)))
  obtain ⟨h1, h3⟩ := glob_of_tab uint64pow10_named ht
  refine ⟨fun p hp => ?_, ?_⟩
  · rw [show globs = [(1, Lib.pow10Tab.map fun z => Value.int .u64 z)] by kernel_rfl, List.mem_singleton] at hp
    subst hp
    exact ⟨h1, h3⟩
  · intro g hg
    rw [show ints = [0] by kernel_rfl, List.mem_singleton] at hg
    subst hg
    obtain ⟨m, hm⟩ := Tryd.laysM146.s1_3 W hSh
    exact gint_of_cell (show W.cell? ⟨0, 0, none⟩ = some (.int .i64 m) from hm)
set_option maxRecDepth 100000 in
theorem lifted (os : Os) (started : os.Started) (H : Type) (enc : TypeId × Value → H) :
    ReturnsInHanded {} Tryd.checked os 4 .any (fun w args => (Rows.labelsParseSpec.pre enc Tryd.prog Tryd.f4 [] false w args ∧ laidMetH Tryd.prog laidL w) ∧ sizedMet enc Tryd.prog Tryd.f4 (OpenSpec.ofChange Rows.labelsParseSpec) false w args) (Rows.labelsParseSpec.post enc Tryd.prog Tryd.f4 false true false false) :=
  lift_law_laid (C := Tryd.checked) (n := 30) (das := [(.one .s)]) (bt := 4) (laid := laidL) started own (by kernel_rfl) Tryd.func4
    (ChangeSpec.witness_shaped (enc := enc) (C := Tryd.checked) (os := os) (X := fun w _ => laidMetH Tryd.prog laidL w) false (World.laidAll Tryd.prog os laidL) #[.string ByteArray.empty] 8 (World.laidAll_os _ _ _) (World.shaped_of_ZipB (by kernel_rfl) (by kernel_rfl)) (by kernel_rfl) (by kernel_rfl) (by kernel_rfl) (door_met os _))
    rfl (fun ds h => by obtain ⟨d0, rfl⟩ := ds_len1 ds h; rfl) rfl (by kernel_rfl) (by kernel_rfl) (by kernel_rfl) (by kernel_rfl) gl walk
theorem over : Rows.labelsParseRow.holds Tryd.pinned (OpenSpec.ofChange Rows.labelsParseSpec) :=
  OpenClaim.holds_of_wide 4 Tryd.f4 rfl rfl rfl rfl rfl rfl rfl ⟨rfl, rfl, rfl, rfl, rfl⟩ rfl rfl rfl rfl rfl (by kernel_rfl) Tryd.func4 (by kernel_rfl)
    (of_decide_eq_true (by kernel_rfl)) (by unfold Func.isWrapper; first | (rw [if_pos (by decide +kernel)]; kernel_rfl) | (rw [if_neg (by decide +kernel)]; exact ⟨rfl, rfl⟩))
    (fun os started H enc _ => lifted os started H enc)
theorem proved : Rows.LabelsParseCardSaid :=
  Claim7.holds_tied_plain_at .later [] [.data, .data, .data, .data, .pinned] true _ false
    over (fun _ h => by cases h) (by kernel_rfl) (fun _ h => by cases h) labelsParse_row_tie rfl ⟨rfl, rfl⟩ (by kernel_rfl) rfl
    (fun f fn hf hfn => by
      obtain rfl : f = 4 := Option.some.inj ((show Tryd.prog.funcNamed Rows.labelsParseRow.func = some 4 by kernel_rfl).symm.trans hf) |>.symm
      obtain rfl : fn = Tryd.f4 := (Option.some.inj (Tryd.func4.symm.trans hfn)).symm
      exact ⟨by kernel_rfl, fun j t ht => by
        rw [Tryd.params4] at ht
        have hm : t ∈ [9] := by simpa using Array.mem_of_getElem? ht
        have hall : ([9].all fun u => !Tryd.prog.wantsStandIn u) = true := by kernel_rfl
        exact (show Tryd.prog.wantsStandIn t = false by simpa using List.all_eq_true.1 hall t hm)⟩)
    (by kernel_rfl)
#print axioms proved
end Go.Proofs.YtgdkkpjmjnknoaaDoor.labelsParse
namespace Go.Proofs.YtgdkkpjmjnknoaaDoor
/-- The card, for the claim. -/
theorem labelsParse_holds : Rows.LabelsParseCardSaid := labelsParse.proved
end Go.Proofs.YtgdkkpjmjnknoaaDoor

