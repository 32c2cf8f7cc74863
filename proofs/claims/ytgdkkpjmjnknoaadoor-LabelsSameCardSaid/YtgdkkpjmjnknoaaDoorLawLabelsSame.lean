/- LabelsSame holds: for every input the call returns true, and each argument reads as before. -/
import Derived.Test.YtgdkkpjmjnknoaaDoorCards
import Derived.Test.YtgdkkpjmjnknoaaDoorTie
import Derived.Test.YtgdkkpjmjnknoaaDoorAmC
import Derived.Test.YtgdkkpjmjnknoaaDoorGC
import Derived.ProofKit
import Derived.LaidMore
import Derived.Lay
import Derived.OpenShut
import Derived.Stop.Joined
import Derived.MakeChecks
import Derived.Stop.LaidErr
import Derived.SevenTiedAt
import Derived.Test.YtgdkkpjmjnknoaaDoorRows
import Derived.Test.YtgdkkpjmjnknoaaDoorLB9
namespace Go.Proofs.YtgdkkpjmjnknoaaDoor.labelsSame
open Go AM Go.RowKit
set_option linter.unusedVariables false
theorem own : ownKnob Tryd.prog.godebug = none := by kernel_rfl
set_option maxRecDepth 100000 in
theorem walk : ∀ (W : World) (H : Heap) (ρ : Env) (us : List V) (args : Array Value), HR W.heap.size W ρ H W → Rels ρ us args.toList → FitsA H [(.agg [(.i .u8), (.i .u8), (.i .u8), (.i .u16), (.i .u16), (.i .u8), (.sl [(.i .u8)])]), (.agg [(.i .u8), (.i .u8), (.i .u8), (.i .u16), (.i .u16), (.i .u8), (.sl [(.i .u8)])]), (.one (.i .u16))] us →
    Calls Tryd.prog 9 args W fun e W' => e = .returned (.bool true) ∧ Below W.heap.size W W' := by
  intro W H ρ us args hh hr hf
  obtain ⟨v0, us0, rfl, a0, b0⟩ := FitsA.uncons hf
  obtain ⟨c0, rfl, f0_0⟩ := FitA.unagg a0
  obtain ⟨w0_0, z0_0, rfl, e0_0, f0_1⟩ := Fits.uncons f0_0
  obtain ⟨x1, rfl, k1⟩ := Fit.int e0_0
  obtain ⟨w0_1, z0_1, rfl, e0_1, f0_2⟩ := Fits.uncons f0_1
  obtain ⟨x2, rfl, k2⟩ := Fit.int e0_1
  obtain ⟨w0_2, z0_2, rfl, e0_2, f0_3⟩ := Fits.uncons f0_2
  obtain ⟨x3, rfl, k3⟩ := Fit.int e0_2
  obtain ⟨w0_3, z0_3, rfl, e0_3, f0_4⟩ := Fits.uncons f0_3
  obtain ⟨x4, rfl, k4⟩ := Fit.int e0_3
  obtain ⟨w0_4, z0_4, rfl, e0_4, f0_5⟩ := Fits.uncons f0_4
  obtain ⟨x5, rfl, k5⟩ := Fit.int e0_4
  obtain ⟨w0_5, z0_5, rfl, e0_5, f0_6⟩ := Fits.uncons f0_5
  obtain ⟨x6, rfl, k6⟩ := Fit.int e0_5
  obtain ⟨w0_6, z0_6, rfl, e0_6, f0_7⟩ := Fits.uncons f0_6
  obtain ⟨x7, rfl, k7⟩ := Fit.slice e0_6
  obtain rfl := Fits.unnil f0_7
  obtain ⟨v1, us1, rfl, a1, b1⟩ := FitsA.uncons b0
  obtain ⟨c1, rfl, f1_0⟩ := FitA.unagg a1
  obtain ⟨w1_0, z1_0, rfl, e1_0, f1_1⟩ := Fits.uncons f1_0
  obtain ⟨x8, rfl, k8⟩ := Fit.int e1_0
  obtain ⟨w1_1, z1_1, rfl, e1_1, f1_2⟩ := Fits.uncons f1_1
  obtain ⟨x9, rfl, k9⟩ := Fit.int e1_1
  obtain ⟨w1_2, z1_2, rfl, e1_2, f1_3⟩ := Fits.uncons f1_2
  obtain ⟨x10, rfl, k10⟩ := Fit.int e1_2
  obtain ⟨w1_3, z1_3, rfl, e1_3, f1_4⟩ := Fits.uncons f1_3
  obtain ⟨x11, rfl, k11⟩ := Fit.int e1_3
  obtain ⟨w1_4, z1_4, rfl, e1_4, f1_5⟩ := Fits.uncons f1_4
  obtain ⟨x12, rfl, k12⟩ := Fit.int e1_4
  obtain ⟨w1_5, z1_5, rfl, e1_5, f1_6⟩ := Fits.uncons f1_5
  obtain ⟨x13, rfl, k13⟩ := Fit.int e1_5
  obtain ⟨w1_6, z1_6, rfl, e1_6, f1_7⟩ := Fits.uncons f1_6
  obtain ⟨x14, rfl, k14⟩ := Fit.slice e1_6
  obtain rfl := Fits.unnil f1_7
  obtain ⟨v2, us2, rfl, a2, b2⟩ := FitsA.uncons b1
  obtain ⟨x15, rfl, k15⟩ := Fit.int (FitA.unone a2)
  obtain rfl := FitsA.unnil b2
  have ht := labelsSame_true H hh.wf x1 x2 x3 x4 x5 x6 x7 x8 x9 x10 x11 x12 x13 x14 x15 k1 k2 k3 k4 k5 k6 k7 k8 k9 k10 k11 k12 k13 k14 k15
  have hk := (g9_fn g12 g26 g25 g27 g12_lin g26_lin g25_lin g27_lin x1 x2 x3 x4 x5 x6 x7 x8 x9 x10 x11 x12 x13 x14 x15 H (fun v _ => v.asB)).trans ht
  have := law_calls (E9_good ok12 ok26 ok25 ok27 g12_lin g26_lin g25_lin g27_lin) mixed lim_ok Tryd.func9 hk hr hh
  simpa using this
def laidL : List (String × DataW Unit) := Rows.labelsSameRow.laid
theorem door_met (os : Os) (args : Array Value) : laidMetH Tryd.prog laidL ((World.laidAll Tryd.prog os laidL).forCall (fun _ _ => 0) ⟨#[], args, []⟩).memory := by
  rw [MakeChecks.laidMetH_plain _ _ _ (by kernel_rfl)]
  exact laidMet_laidAll _ (by kernel_rfl) (by kernel_rfl)
theorem gl (W : World) (h : laidMetH Tryd.prog laidL W) (hSh : W.ShapedOpen Tryd.prog) : GOk W.heap.size W := by
  rw [MakeChecks.laidMetH_plain _ _ _ (by kernel_rfl)] at h
  have h2 : laidMet Tryd.prog [("math/bits.deBruijn32tab", Rows.laid_math_bits_deBruijn32tab), ("math/bits.deBruijn64tab", Rows.laid_math_bits_deBruijn64tab), ("internal/strconv.uint64pow10", Rows.laid_internal_strconv_uint64pow10), ("unicode/utf8.acceptRanges", Rows.laid_unicode_utf8_acceptRanges), ("unicode/utf8.first", Rows.laid_unicode_utf8_first)] W := h
  have ht : Lib.TabIs Tryd.prog W "internal/strconv.uint64pow10" .u64 Lib.pow10Tab := Lib.tabIs_of_head (g := 1) (t := 107) (e := 74) (n := 20) (by kernel_rfl) (by kernel_rfl) (by kernel_rfl) (by kernel_rfl) (by kernel_rfl) (by kernel_rfl) (show laidMet Tryd.prog (("internal/strconv.uint64pow10", Lib.tabData .u64 Lib.pow10Tab) :: _) W from (laidMet.tail (laidMet.tail h2)))
  obtain ⟨h1, h3⟩ := glob_of_tab uint64pow10_named ht
  refine ⟨fun p hp => ?_, ?_⟩
  · rw [show globs = [(1, Lib.pow10Tab.map fun z => Value.int .u64 z)] by kernel_rfl, List.mem_singleton] at hp
    subst hp
    exact ⟨h1, h3⟩
  · intro g hg
    rw [show ints = [0] by kernel_rfl, List.mem_singleton] at hg
    subst hg
    obtain ⟨m, hm⟩ := Tryd.laysM146.s1_3 W hSh
    exact gint_of_cell (show W.cell? ⟨0, 0, none⟩ = some (.int .i64 m) from hm)
set_option maxRecDepth 100000 in
theorem lifted (os : Os) (started : os.Started) (H : Type) (enc : TypeId × Value → H) :
    ReturnsInHanded {} Tryd.checked os 9 .any (fun w args => (Rows.labelsSameSpec.pre enc Tryd.prog Tryd.f9 [] false w args ∧ laidMetH Tryd.prog laidL w) ∧ sizedMet enc Tryd.prog Tryd.f9 (OpenSpec.ofChange Rows.labelsSameSpec) false w args) (Rows.labelsSameSpec.post enc Tryd.prog Tryd.f9 false true false false) :=
  lift_law_laid (C := Tryd.checked) (n := 30) (das := [(.agg [(.i .u8), (.i .u8), (.i .u8), (.i .u16), (.i .u16), (.i .u8), (.sl [(.i .u8)])]), (.agg [(.i .u8), (.i .u8), (.i .u8), (.i .u16), (.i .u16), (.i .u8), (.sl [(.i .u8)])]), (.one (.i .u16))]) (bt := 4) (laid := laidL) started own (by kernel_rfl) Tryd.func9
    (ChangeSpec.witness_shaped (enc := enc) (C := Tryd.checked) (os := os) (X := fun w _ => laidMetH Tryd.prog laidL w) false (World.laidAll Tryd.prog os laidL) #[.agg #[.int .u8 0, .int .u8 0, .int .u8 0, .int .u16 0, .int .u16 0, .int .u8 0, .slice none 0 0], .agg #[.int .u8 0, .int .u8 0, .int .u8 0, .int .u16 0, .int .u16 0, .int .u8 0, .slice none 0 0], .int .u16 0] 8 (World.laidAll_os _ _ _) (World.shaped_of_ZipB (by kernel_rfl) (by kernel_rfl)) (by kernel_rfl) (by kernel_rfl) (by kernel_rfl) (door_met os _))
    rfl (fun ds h => by obtain ⟨d0, d1, d2, rfl⟩ := ds_len3 ds h; rfl) rfl (by kernel_rfl) (by kernel_rfl) (by kernel_rfl) (by kernel_rfl) gl walk
theorem over : Rows.labelsSameRow.holds Tryd.pinned (OpenSpec.ofChange Rows.labelsSameSpec) :=
  OpenClaim.holds_of_wide 9 Tryd.f9 rfl rfl rfl rfl rfl rfl rfl ⟨rfl, rfl, rfl, rfl, rfl⟩ rfl rfl rfl rfl rfl (by kernel_rfl) Tryd.func9 (by kernel_rfl)
    (of_decide_eq_true (by kernel_rfl)) (by unfold Func.isWrapper; first | (rw [if_pos (by decide +kernel)]; kernel_rfl) | (rw [if_neg (by decide +kernel)]; exact ⟨rfl, rfl⟩))
    (fun os started H enc _ => lifted os started H enc)
theorem proved : Rows.LabelsSameCardSaid :=
  Claim7.holds_tied_plain_at .later [] [.data, .data, .data, .data, .pinned] true _ false
    over (fun _ h => by cases h) (by kernel_rfl) (fun _ h => by cases h) labelsSame_row_tie rfl ⟨rfl, rfl⟩ (by kernel_rfl) rfl
    (fun f fn hf hfn => by
      obtain rfl : f = 9 := Option.some.inj ((show Tryd.prog.funcNamed Rows.labelsSameRow.func = some 9 by kernel_rfl).symm.trans hf) |>.symm
      obtain rfl : fn = Tryd.f9 := (Option.some.inj (Tryd.func9.symm.trans hfn)).symm
      exact ⟨by kernel_rfl, fun j t ht => by
        rw [Tryd.params9] at ht
        have hm : t ∈ [38, 38, 22] := by simpa using Array.mem_of_getElem? ht
        have hall : ([38, 38, 22].all fun u => !Tryd.prog.wantsStandIn u) = true := by kernel_rfl
        exact (show Tryd.prog.wantsStandIn t = false by simpa using List.all_eq_true.1 hall t hm)⟩)
    (by kernel_rfl)
#print axioms proved
end Go.Proofs.YtgdkkpjmjnknoaaDoor.labelsSame
namespace Go.Proofs.YtgdkkpjmjnknoaaDoor
/-- The card, for the claim. -/
theorem labelsSame_holds : Rows.LabelsSameCardSaid := labelsSame.proved
end Go.Proofs.YtgdkkpjmjnknoaaDoor

