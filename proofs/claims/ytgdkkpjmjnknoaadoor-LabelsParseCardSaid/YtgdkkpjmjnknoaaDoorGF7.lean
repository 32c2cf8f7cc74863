/- Printed: functions as the machine runs them. -/
import Derived.Test.YtgdkkpjmjnknoaaDoorGT
namespace Go.Proofs.YtgdkkpjmjnknoaaDoor
open Go AM Go.RowKit
set_option linter.unusedVariables false
def kp9 : Nat → Option (List Nat) := kpOf [(0, [2, 3, 4]), (1, [2, 3, 4, 20]), (2, [6]), (3, [2, 3, 4, 7]), (4, [2, 3, 7, 51]), (5, [6]), (6, [2, 3, 7, 55]), (7, [3, 7, 8]), (8, [3, 7]), (9, [3, 79]), (10, [6]), (11, [3, 9]), (12, [3, 9]), (13, [3, 9, 10]), (14, [3, 9, 10]), (15, [6]), (300000, [6]), (400020, [2, 3, 4]), (400051, [2, 3, 7]), (400055, [3]), (400079, [3])]
def E9 (a12 : T12) (a26 : T26) (a25 : T25) (a27 : T27) : FEnv := [(12, w12 a12), (26, w26 a26), (25, w25 a25), (27, w27 a27)]
theorem E9_good {a12 : T12} {a26 : T26} {a25 : T25} {a27 : T27} (oa12 : FunOK Tryd.prog 12 (w12 a12)) (oa26 : FunOK Tryd.prog 26 (w26 a26)) (oa25 : FunOK Tryd.prog 25 (w25 a25)) (oa27 : FunOK Tryd.prog 27 (w27 a27)) (la12 : Lin12 a12) (la26 : Lin26 a26) (la25 : Lin25 a25) (la27 : Lin27 a27) : EnvGood Tryd.prog (E9 a12 a26 a25 a27) := (((((EnvGood.nil _).cons oa27 (w27_lin la27)).cons oa25 (w25_lin la25)).cons oa26 (w26_lin la26)).cons oa12 (w12_lin la12))
theorem E9_lin {a12 : T12} {a26 : T26} {a25 : T25} {a27 : T27} (la12 : Lin12 a12) (la26 : Lin26 a26) (la25 : Lin25 a25) (la27 : Lin27 a27) : EnvLin (E9 a12 a26 a25 a27) := by
  intro g F h
  simp only [E9, List.mem_cons, List.not_mem_nil, or_false] at h
  rcases h with h | h | h | h
  · cases h; exact w12_lin la12
  · cases h; exact w26_lin la26
  · cases h; exact w25_lin la25
  · cases h; exact w27_lin la27
noncomputable def b9 : Code := Tryd.f9.body.getD .skip
noncomputable def c9_0 : Code := (.seq (codeAt [1, 1, 1, 1, 1, 0] b9) (.seq (codeAt [1, 1, 1, 1, 1, 1, 0] b9) (.seq (codeAt [1, 1, 1, 1, 1, 1, 1, 0] b9) (.seq (codeAt [1, 1, 1, 1, 1, 1, 1, 1, 0] b9) (.seq (codeAt [1, 1, 1, 1, 1, 1, 1, 1, 1, 0] b9) .ret)))))
noncomputable def c9_1 : Code := (.seq (.cond (.tmp 51) (.seq (codeAt [1, 1, 1, 0, 1, 0, 0] b9) .ret) .skip) (.seq (codeAt [1, 1, 1, 1, 0, 0] b9) (.seq (.cond (.tmp 55) (.seq (codeAt [1, 1, 1, 1, 0, 1, 0, 0] b9) (.seq (codeAt [1, 1, 1, 1, 0, 1, 0, 1, 0] b9) (.seq (codeAt [1, 1, 1, 1, 0, 1, 0, 1, 1, 0] b9) (.cond (.tmp 79) (.seq (codeAt [1, 1, 1, 1, 0, 1, 0, 1, 1, 1, 0, 0] b9) .ret) .skip)))) .skip) c9_0)))
noncomputable def c9_2 : Code := (.seq (codeAt [1, 1, 1, 0, 0] b9) c9_1)
noncomputable def c9_3 : Code := (.seq (codeAt [0] b9) (.seq (codeAt [1, 0, 0] b9) (.seq (.cond (.tmp 20) (.seq (codeAt [1, 0, 1, 0, 0] b9) .ret) .skip) (.seq (codeAt [1, 1, 0] b9) c9_2))))
noncomputable def g9_p0 (a12 : T12) (a26 : T26) (a25 : T25) (a27 : T27) (R : Type) (t0_0 : Int) (t0_1 : Int) (t0_2 : Int) (t0_3 : Int) (t0_4 : Int) (t0_5 : Int) (t0_6 : Sl) (t1_0 : Int) (t1_1 : Int) (t1_2 : Int) (t1_3 : Int) (t1_4 : Int) (t1_5 : Int) (t1_6 : Sl) (t2 : Int) (H : Heap) (kN : Int → Nat → Nat → Nat → Nat → Nat → Nat → Heap → Option R) (kR : Bool → Heap → Option R) : Option R :=
  alo H (.cells [(V.i .u8 t0_0), (V.i .u8 t0_1), (V.i .u8 t0_2), (V.i .u16 t0_3), (V.i .u16 t0_4), (V.i .u8 t0_5), (V.sl t0_6)] 38 false) fun i291 h292 =>
  alo h292 (.cells [(V.i .u8 t1_0), (V.i .u8 t1_1), (V.i .u8 t1_2), (V.i .u16 t1_3), (V.i .u16 t1_4), (V.i .u8 t1_5), (V.sl t1_6)] 38 false) fun i293 h294 =>
  ((h294).ldSl i291 (0 + 6)).bind fun x295 =>
  sel (decide (((x295.len : Nat) : Int) > (600 : Int))) (
    a12 R h294 fun x296 h297 =>
    kR x296 h297) (
    ((h294).ldSl i293 (0 + 6)).bind fun x298 =>
    sel (decide (((x298.len : Nat) : Int) > (600 : Int))) (
      a12 R h294 fun x299 h300 =>
      kR x299 h300) (
      ((h294).ldI .u8 i291 (0 + 0)).bind fun x301 =>
      ((h294).ldI .u8 i291 (0 + 1)).bind fun x302 =>
      ((h294).ldI .u8 i291 (0 + 2)).bind fun x303 =>
      ((h294).ldI .u16 i291 (0 + 3)).bind fun x304 =>
      ((h294).ldI .u16 i291 (0 + 4)).bind fun x305 =>
      ((h294).ldI .u8 i291 (0 + 5)).bind fun x306 =>
      ((h294).ldSl i291 (0 + 6)).bind fun x307 =>
      a26 R x301 x302 x303 x304 x305 x306 x307 h294 fun x308 x309 x310 x311 x312 x313 x314 h315 =>
      alo h315 (.cells [(V.i .u8 (0 : Int)), (V.i .u8 (0 : Int)), (V.i .u8 (0 : Int)), (V.i .u16 (0 : Int)), (V.i .u16 (0 : Int)), (V.i .u8 (0 : Int)), (V.sl (Sl.mk none 0 (.ex 0)))] 38 false) fun i316 h317 =>
      ((h317).sts i316 0 [(V.i .u8 x308), (V.i .u8 x309), (V.i .u8 x310), (V.i .u16 x311), (V.i .u16 x312), (V.i .u8 x313), (V.sl x314)]).bind fun h318 =>
      kN t2 i291 0 i293 0 i316 0 h318))
theorem g9_p0_eq (a12 : T12) (a26 : T26) (a25 : T25) (a27 : T27) {R : Type} (c2 : Code) (t0_0 : Int) (t0_1 : Int) (t0_2 : Int) (t0_3 : Int) (t0_4 : Int) (t0_5 : Int) (t0_6 : Sl) (t1_0 : Int) (t1_1 : Int) (t1_2 : Int) (t1_3 : Int) (t1_4 : Int) (t1_5 : Int) (t1_6 : Sl) (t2 : Int) (H : Heap) (K : Ex → Fr → Heap → Option R) : ev Tryd.prog (E9 a12 a26 a25 a27) loopLim Tryd.f9.ntmps kp9 (.seq (codeAt [0] b9) (.seq (codeAt [1, 0, 0] b9) (.seq (.cond (.tmp 20) (.seq (codeAt [1, 0, 1, 0, 0] b9) .ret) .skip) (.seq (codeAt [1, 1, 0] b9) c2)))) [(0, (V.agg [(V.i .u8 t0_0), (V.i .u8 t0_1), (V.i .u8 t0_2), (V.i .u16 t0_3), (V.i .u16 t0_4), (V.i .u8 t0_5), (V.sl t0_6)])), (1, (V.agg [(V.i .u8 t1_0), (V.i .u8 t1_1), (V.i .u8 t1_2), (V.i .u16 t1_3), (V.i .u16 t1_4), (V.i .u8 t1_5), (V.sl t1_6)])), (2, (V.i .u16 t2))] H K = g9_p0 a12 a26 a25 a27 R t0_0 t0_1 t0_2 t0_3 t0_4 t0_5 t0_6 t1_0 t1_1 t1_2 t1_3 t1_4 t1_5 t1_6 t2 H (fun t2 t3_0 t3_1 t4_0 t4_1 t7_0 t7_1 H => ev Tryd.prog (E9 a12 a26 a25 a27) loopLim Tryd.f9.ntmps kp9 c2 [(2, (V.i .u16 t2)), (3, (V.p (some (t3_0, t3_1)))), (4, (V.p (some (t4_0, t4_1)))), (7, (V.p (some (t7_0, t7_1))))] H K) (fun t6 H => K .ret [(6, (V.b t6))] H) := by kernel_rfl
theorem g9_p0_lin {a12 : T12} {a26 : T26} {a25 : T25} {a27 : T27} (la12 : Lin12 a12) (la26 : Lin26 a26) (la25 : Lin25 a25) (la27 : Lin27 a27) {R S : Type} {k : S → Option R} {t0_0 : Int} {t0_1 : Int} {t0_2 : Int} {t0_3 : Int} {t0_4 : Int} {t0_5 : Int} {t0_6 : Sl} {t1_0 : Int} {t1_1 : Int} {t1_2 : Int} {t1_3 : Int} {t1_4 : Int} {t1_5 : Int} {t1_6 : Sl} {t2 : Int} {H : Heap} {fkN : Int → Nat → Nat → Nat → Nat → Nat → Nat → Heap → Option R} {gkN : Int → Nat → Nat → Nat → Nat → Nat → Nat → Heap → Option S} {fkR : Bool → Heap → Option R} {gkR : Bool → Heap → Option S} (hkN : ∀ t2 t3_0 t3_1 t4_0 t4_1 t7_0 t7_1 H, fkN t2 t3_0 t3_1 t4_0 t4_1 t7_0 t7_1 H = (gkN t2 t3_0 t3_1 t4_0 t4_1 t7_0 t7_1 H).bind k) (hkR : ∀ t6 H, fkR t6 H = (gkR t6 H).bind k) : g9_p0 a12 a26 a25 a27 R t0_0 t0_1 t0_2 t0_3 t0_4 t0_5 t0_6 t1_0 t1_1 t1_2 t1_3 t1_4 t1_5 t1_6 t2 H fkN fkR = (g9_p0 a12 a26 a25 a27 S t0_0 t0_1 t0_2 t0_3 t0_4 t0_5 t0_6 t1_0 t1_1 t1_2 t1_3 t1_4 t1_5 t1_6 t2 H gkN gkR).bind k := by
  delta g9_p0; exact (
    alo_lin fun i291 h292 =>
    alo_lin fun i293 h294 =>
    bl fun x295 =>
    sl_lin (
      la12.l fun x296 h297 =>
      hkR _ _) (
      bl fun x298 =>
      sl_lin (
        la12.l fun x299 h300 =>
        hkR _ _) (
        bl fun x301 =>
        bl fun x302 =>
        bl fun x303 =>
        bl fun x304 =>
        bl fun x305 =>
        bl fun x306 =>
        bl fun x307 =>
        la26.l fun x308 x309 x310 x311 x312 x313 x314 h315 =>
        alo_lin fun i316 h317 =>
        bl fun h318 =>
        hkN _ _ _ _ _ _ _ _)))
noncomputable def g9_p1 (a12 : T12) (a26 : T26) (a25 : T25) (a27 : T27) (R : Type) (t2 : Int) (t3_0 : Nat) (t3_1 : Nat) (t4_0 : Nat) (t4_1 : Nat) (t7_0 : Nat) (t7_1 : Nat) (H : Heap) (kN : Int → Nat → Nat → Nat → Nat → Bool → Heap → Option R) : Option R :=
  ((H).ldI .u8 t3_0 (t3_1 + 0)).bind fun x670 =>
  ((H).ldI .u8 t3_0 (t3_1 + 1)).bind fun x671 =>
  ((H).ldI .u8 t3_0 (t3_1 + 2)).bind fun x672 =>
  ((H).ldI .u16 t3_0 (t3_1 + 3)).bind fun x673 =>
  ((H).ldI .u16 t3_0 (t3_1 + 4)).bind fun x674 =>
  ((H).ldI .u8 t3_0 (t3_1 + 5)).bind fun x675 =>
  ((H).ldSl t3_0 (t3_1 + 6)).bind fun x676 =>
  ((H).ldI .u8 t7_0 (t7_1 + 0)).bind fun x677 =>
  ((H).ldI .u8 t7_0 (t7_1 + 1)).bind fun x678 =>
  ((H).ldI .u8 t7_0 (t7_1 + 2)).bind fun x679 =>
  ((H).ldI .u16 t7_0 (t7_1 + 3)).bind fun x680 =>
  ((H).ldI .u16 t7_0 (t7_1 + 4)).bind fun x681 =>
  ((H).ldI .u8 t7_0 (t7_1 + 5)).bind fun x682 =>
  ((H).ldSl t7_0 (t7_1 + 6)).bind fun x683 =>
  a25 R x670 x671 x672 x673 x674 x675 x676 x677 x678 x679 x680 x681 x682 x683 H fun x684 h685 =>
  sel (!x684) (
    kN t2 t3_0 t3_1 t7_0 t7_1 true h685) (
    ((h685).ldI .u8 t3_0 (t3_1 + 0)).bind fun x686 =>
    ((h685).ldI .u8 t3_0 (t3_1 + 1)).bind fun x687 =>
    ((h685).ldI .u8 t3_0 (t3_1 + 2)).bind fun x688 =>
    ((h685).ldI .u16 t3_0 (t3_1 + 3)).bind fun x689 =>
    ((h685).ldI .u16 t3_0 (t3_1 + 4)).bind fun x690 =>
    ((h685).ldI .u8 t3_0 (t3_1 + 5)).bind fun x691 =>
    ((h685).ldSl t3_0 (t3_1 + 6)).bind fun x692 =>
    ((h685).ldI .u8 t7_0 (t7_1 + 0)).bind fun x693 =>
    ((h685).ldI .u8 t7_0 (t7_1 + 1)).bind fun x694 =>
    ((h685).ldI .u8 t7_0 (t7_1 + 2)).bind fun x695 =>
    ((h685).ldI .u16 t7_0 (t7_1 + 3)).bind fun x696 =>
    ((h685).ldI .u16 t7_0 (t7_1 + 4)).bind fun x697 =>
    ((h685).ldI .u8 t7_0 (t7_1 + 5)).bind fun x698 =>
    ((h685).ldSl t7_0 (t7_1 + 6)).bind fun x699 =>
    a27 R x686 x687 x688 x689 x690 x691 x692 x693 x694 x695 x696 x697 x698 x699 h685 fun x700 h701 =>
    sel (!x700) (
      kN t2 t3_0 t3_1 t7_0 t7_1 true h701) (
      ((h701).ldI .u8 t3_0 (t3_1 + 0)).bind fun x702 =>
      ((h701).ldI .u8 t3_0 (t3_1 + 1)).bind fun x703 =>
      ((h701).ldI .u8 t3_0 (t3_1 + 2)).bind fun x704 =>
      ((h701).ldI .u16 t3_0 (t3_1 + 3)).bind fun x705 =>
      ((h701).ldI .u16 t3_0 (t3_1 + 4)).bind fun x706 =>
      ((h701).ldI .u8 t3_0 (t3_1 + 5)).bind fun x707 =>
      ((h701).ldSl t3_0 (t3_1 + 6)).bind fun x708 =>
      ((h701).ldI .u8 t4_0 (t4_1 + 0)).bind fun x709 =>
      ((h701).ldI .u8 t4_0 (t4_1 + 1)).bind fun x710 =>
      ((h701).ldI .u8 t4_0 (t4_1 + 2)).bind fun x711 =>
      ((h701).ldI .u16 t4_0 (t4_1 + 3)).bind fun x712 =>
      ((h701).ldI .u16 t4_0 (t4_1 + 4)).bind fun x713 =>
      ((h701).ldI .u8 t4_0 (t4_1 + 5)).bind fun x714 =>
      ((h701).ldSl t4_0 (t4_1 + 6)).bind fun x715 =>
      a27 R x702 x703 x704 x705 x706 x707 x708 x709 x710 x711 x712 x713 x714 x715 h701 fun x716 h717 =>
      ((h717).ldI .u8 t3_0 (t3_1 + 0)).bind fun x718 =>
      ((h717).ldI .u8 t3_0 (t3_1 + 1)).bind fun x719 =>
      ((h717).ldI .u8 t3_0 (t3_1 + 2)).bind fun x720 =>
      ((h717).ldI .u16 t3_0 (t3_1 + 3)).bind fun x721 =>
      ((h717).ldI .u16 t3_0 (t3_1 + 4)).bind fun x722 =>
      ((h717).ldI .u8 t3_0 (t3_1 + 5)).bind fun x723 =>
      ((h717).ldSl t3_0 (t3_1 + 6)).bind fun x724 =>
      ((h701).ldI .u8 t3_0 (t3_1 + 0)).bind fun x725 =>
      ((h701).ldI .u8 t3_0 (t3_1 + 1)).bind fun x726 =>
      ((h701).ldI .u8 t3_0 (t3_1 + 2)).bind fun x727 =>
      ((h701).ldI .u16 t3_0 (t3_1 + 3)).bind fun x728 =>
      ((h701).ldI .u16 t3_0 (t3_1 + 4)).bind fun x729 =>
      ((h701).ldI .u8 t3_0 (t3_1 + 5)).bind fun x730 =>
      ((h701).ldSl t3_0 (t3_1 + 6)).bind fun x731 =>
      if V.same (V.agg [(V.i .u8 x718), (V.i .u8 x719), (V.i .u8 x720), (V.i .u16 x721), (V.i .u16 x722), (V.i .u8 x723), (V.sl x724)]) (V.agg [(V.i .u8 x725), (V.i .u8 x726), (V.i .u8 x727), (V.i .u16 x728), (V.i .u16 x729), (V.i .u8 x730), (V.sl x731)]) = true then (
        ((h717).ldI .u8 t4_0 (t4_1 + 0)).bind fun x732 =>
        ((h717).ldI .u8 t4_0 (t4_1 + 1)).bind fun x733 =>
        ((h717).ldI .u8 t4_0 (t4_1 + 2)).bind fun x734 =>
        ((h717).ldI .u16 t4_0 (t4_1 + 3)).bind fun x735 =>
        ((h717).ldI .u16 t4_0 (t4_1 + 4)).bind fun x736 =>
        ((h717).ldI .u8 t4_0 (t4_1 + 5)).bind fun x737 =>
        ((h717).ldSl t4_0 (t4_1 + 6)).bind fun x738 =>
        ((h701).ldI .u8 t4_0 (t4_1 + 0)).bind fun x739 =>
        ((h701).ldI .u8 t4_0 (t4_1 + 1)).bind fun x740 =>
        ((h701).ldI .u8 t4_0 (t4_1 + 2)).bind fun x741 =>
        ((h701).ldI .u16 t4_0 (t4_1 + 3)).bind fun x742 =>
        ((h701).ldI .u16 t4_0 (t4_1 + 4)).bind fun x743 =>
        ((h701).ldI .u8 t4_0 (t4_1 + 5)).bind fun x744 =>
        ((h701).ldSl t4_0 (t4_1 + 6)).bind fun x745 =>
        if V.same (V.agg [(V.i .u8 x732), (V.i .u8 x733), (V.i .u8 x734), (V.i .u16 x735), (V.i .u16 x736), (V.i .u8 x737), (V.sl x738)]) (V.agg [(V.i .u8 x739), (V.i .u8 x740), (V.i .u8 x741), (V.i .u16 x742), (V.i .u16 x743), (V.i .u8 x744), (V.sl x745)]) = true then (
          a25 R x718 x719 x720 x721 x722 x723 x724 x732 x733 x734 x735 x736 x737 x738 h717 fun x746 h747 =>
          sel (!(x716 == x746)) (
            kN t2 t3_0 t3_1 t7_0 t7_1 true h747) (
            ((h747).ldSl t7_0 (t7_1 + 6)).bind fun x748 =>
            capK x748.cap fun c749 =>
            ((h747).ldSl t7_0 (t7_1 + 6)).bind fun x750 =>
            kN t2 t3_0 t3_1 t7_0 t7_1 (((c749 : Nat) : Int) != ((x750.len : Nat) : Int)) h747))
        else (
          none))
      else (
        none)))
theorem g9_p1_eq (a12 : T12) (a26 : T26) (a25 : T25) (a27 : T27) {R : Type} (c2 : Code) (t2 : Int) (t3_0 : Nat) (t3_1 : Nat) (t4_0 : Nat) (t4_1 : Nat) (t7_0 : Nat) (t7_1 : Nat) (H : Heap) (K : Ex → Fr → Heap → Option R) : ev Tryd.prog (E9 a12 a26 a25 a27) loopLim Tryd.f9.ntmps kp9 (.seq (codeAt [1, 1, 1, 0, 0] b9) c2) [(2, (V.i .u16 t2)), (3, (V.p (some (t3_0, t3_1)))), (4, (V.p (some (t4_0, t4_1)))), (7, (V.p (some (t7_0, t7_1))))] H K = g9_p1 a12 a26 a25 a27 R t2 t3_0 t3_1 t4_0 t4_1 t7_0 t7_1 H (fun t2 t3_0 t3_1 t7_0 t7_1 t51 H => ev Tryd.prog (E9 a12 a26 a25 a27) loopLim Tryd.f9.ntmps kp9 c2 [(2, (V.i .u16 t2)), (3, (V.p (some (t3_0, t3_1)))), (7, (V.p (some (t7_0, t7_1)))), (51, (V.b t51))] H K) := by kernel_rfl
theorem g9_p1_lin {a12 : T12} {a26 : T26} {a25 : T25} {a27 : T27} (la12 : Lin12 a12) (la26 : Lin26 a26) (la25 : Lin25 a25) (la27 : Lin27 a27) {R S : Type} {k : S → Option R} {t2 : Int} {t3_0 : Nat} {t3_1 : Nat} {t4_0 : Nat} {t4_1 : Nat} {t7_0 : Nat} {t7_1 : Nat} {H : Heap} {fkN : Int → Nat → Nat → Nat → Nat → Bool → Heap → Option R} {gkN : Int → Nat → Nat → Nat → Nat → Bool → Heap → Option S} (hkN : ∀ t2 t3_0 t3_1 t7_0 t7_1 t51 H, fkN t2 t3_0 t3_1 t7_0 t7_1 t51 H = (gkN t2 t3_0 t3_1 t7_0 t7_1 t51 H).bind k) : g9_p1 a12 a26 a25 a27 R t2 t3_0 t3_1 t4_0 t4_1 t7_0 t7_1 H fkN = (g9_p1 a12 a26 a25 a27 S t2 t3_0 t3_1 t4_0 t4_1 t7_0 t7_1 H gkN).bind k := by
  delta g9_p1; exact (
    bl fun x670 =>
    bl fun x671 =>
    bl fun x672 =>
    bl fun x673 =>
    bl fun x674 =>
    bl fun x675 =>
    bl fun x676 =>
    bl fun x677 =>
    bl fun x678 =>
    bl fun x679 =>
    bl fun x680 =>
    bl fun x681 =>
    bl fun x682 =>
    bl fun x683 =>
    la25.l fun x684 h685 =>
    sl_lin (
      hkN _ _ _ _ _ _ _) (
      bl fun x686 =>
      bl fun x687 =>
      bl fun x688 =>
      bl fun x689 =>
      bl fun x690 =>
      bl fun x691 =>
      bl fun x692 =>
      bl fun x693 =>
      bl fun x694 =>
      bl fun x695 =>
      bl fun x696 =>
      bl fun x697 =>
      bl fun x698 =>
      bl fun x699 =>
      la27.l fun x700 h701 =>
      sl_lin (
        hkN _ _ _ _ _ _ _) (
        bl fun x702 =>
        bl fun x703 =>
        bl fun x704 =>
        bl fun x705 =>
        bl fun x706 =>
        bl fun x707 =>
        bl fun x708 =>
        bl fun x709 =>
        bl fun x710 =>
        bl fun x711 =>
        bl fun x712 =>
        bl fun x713 =>
        bl fun x714 =>
        bl fun x715 =>
        la27.l fun x716 h717 =>
        bl fun x718 =>
        bl fun x719 =>
        bl fun x720 =>
        bl fun x721 =>
        bl fun x722 =>
        bl fun x723 =>
        bl fun x724 =>
        bl fun x725 =>
        bl fun x726 =>
        bl fun x727 =>
        bl fun x728 =>
        bl fun x729 =>
        bl fun x730 =>
        bl fun x731 =>
        il (
          bl fun x732 =>
          bl fun x733 =>
          bl fun x734 =>
          bl fun x735 =>
          bl fun x736 =>
          bl fun x737 =>
          bl fun x738 =>
          bl fun x739 =>
          bl fun x740 =>
          bl fun x741 =>
          bl fun x742 =>
          bl fun x743 =>
          bl fun x744 =>
          bl fun x745 =>
          il (
            la25.l fun x746 h747 =>
            sl_lin (
              hkN _ _ _ _ _ _ _) (
              bl fun x748 =>
              capK_lin fun c749 =>
              bl fun x750 =>
              hkN _ _ _ _ _ _ _)) (
            rfl)) (
          rfl))))
noncomputable def g9_p2 (a12 : T12) (a26 : T26) (a25 : T25) (a27 : T27) (R : Type) (t2 : Int) (t3_0 : Nat) (t3_1 : Nat) (t7_0 : Nat) (t7_1 : Nat) (t51 : Bool) (H : Heap) (kN : Nat → Nat → Heap → Option R) (kR : Bool → Heap → Option R) : Option R :=
  sel t51 (
    kR false H) (
    ((H).ldSl t7_0 (t7_1 + 6)).bind fun x913 =>
    sel (decide (((x913.len : Nat) : Int) > (0 : Int))) (
      ((H).ldSl t7_0 (t7_1 + 6)).bind fun x914 =>
      if ((x914.len : Nat) : Int) = 0 then (
        none)
      else (
        ((H).ldSl t7_0 (t7_1 + 6)).bind fun x915 =>
        ((H).ldSl t7_0 (t7_1 + 6)).bind fun x916 =>
        if 0 ≤ (Int.tmod (IntKind.wrap .i64 t2) ((x914.len : Nat) : Int)) ∧ (Int.tmod (IntKind.wrap .i64 t2) ((x914.len : Nat) : Int)) < ((x916.len : Nat) : Int) then (
          (x916.a).bind fun q917 =>
          ((H).ldI .u8 q917.1 (q917.2 + Int.toNat (Int.tmod (IntKind.wrap .i64 t2) ((x914.len : Nat) : Int)) * 1)).bind fun x918 =>
          if 0 ≤ (Int.tmod (IntKind.wrap .i64 t2) ((x914.len : Nat) : Int)) ∧ (Int.tmod (IntKind.wrap .i64 t2) ((x914.len : Nat) : Int)) < ((x915.len : Nat) : Int) then (
            (x915.a).bind fun q919 =>
            ((H).st q919.1 (q919.2 + Int.toNat (Int.tmod (IntKind.wrap .i64 t2) ((x914.len : Nat) : Int)) * 1) (V.i .u8 (IntKind.wrap .u8 (x918 + (1 : Int))))).bind fun h921 =>
            ((h921).ldI .u8 t3_0 (t3_1 + 0)).bind fun x922 =>
            ((h921).ldI .u8 t3_0 (t3_1 + 1)).bind fun x923 =>
            ((h921).ldI .u8 t3_0 (t3_1 + 2)).bind fun x924 =>
            ((h921).ldI .u16 t3_0 (t3_1 + 3)).bind fun x925 =>
            ((h921).ldI .u16 t3_0 (t3_1 + 4)).bind fun x926 =>
            ((h921).ldI .u8 t3_0 (t3_1 + 5)).bind fun x927 =>
            ((h921).ldSl t3_0 (t3_1 + 6)).bind fun x928 =>
            ((h921).ldI .u8 t7_0 (t7_1 + 0)).bind fun x929 =>
            ((h921).ldI .u8 t7_0 (t7_1 + 1)).bind fun x930 =>
            ((h921).ldI .u8 t7_0 (t7_1 + 2)).bind fun x931 =>
            ((h921).ldI .u16 t7_0 (t7_1 + 3)).bind fun x932 =>
            ((h921).ldI .u16 t7_0 (t7_1 + 4)).bind fun x933 =>
            ((h921).ldI .u8 t7_0 (t7_1 + 5)).bind fun x934 =>
            ((h921).ldSl t7_0 (t7_1 + 6)).bind fun x935 =>
            a27 R x922 x923 x924 x925 x926 x927 x928 x929 x930 x931 x932 x933 x934 x935 h921 fun x936 h937 =>
            sel x936 (
              kR false h937) (
              ((h937).ldI .u8 t3_0 (t3_1 + 0)).bind fun x938 =>
              ((h937).ldI .u8 t3_0 (t3_1 + 1)).bind fun x939 =>
              ((h937).ldI .u8 t3_0 (t3_1 + 2)).bind fun x940 =>
              ((h937).ldI .u16 t3_0 (t3_1 + 3)).bind fun x941 =>
              ((h937).ldI .u16 t3_0 (t3_1 + 4)).bind fun x942 =>
              ((h937).ldI .u8 t3_0 (t3_1 + 5)).bind fun x943 =>
              ((h937).ldSl t3_0 (t3_1 + 6)).bind fun x944 =>
              ((h937).ldI .u8 t7_0 (t7_1 + 0)).bind fun x945 =>
              ((h937).ldI .u8 t7_0 (t7_1 + 1)).bind fun x946 =>
              ((h937).ldI .u8 t7_0 (t7_1 + 2)).bind fun x947 =>
              ((h937).ldI .u16 t7_0 (t7_1 + 3)).bind fun x948 =>
              ((h937).ldI .u16 t7_0 (t7_1 + 4)).bind fun x949 =>
              ((h937).ldI .u8 t7_0 (t7_1 + 5)).bind fun x950 =>
              ((h937).ldSl t7_0 (t7_1 + 6)).bind fun x951 =>
              a25 R x938 x939 x940 x941 x942 x943 x944 x945 x946 x947 x948 x949 x950 x951 h937 fun x952 h953 =>
              sel x952 (
                kR false h953) (
                kN t3_0 t3_1 h953)))
          else (
            none))
        else (
          none))) (
      kN t3_0 t3_1 H))
theorem g9_p2_eq (a12 : T12) (a26 : T26) (a25 : T25) (a27 : T27) {R : Type} (c2 : Code) (t2 : Int) (t3_0 : Nat) (t3_1 : Nat) (t7_0 : Nat) (t7_1 : Nat) (t51 : Bool) (H : Heap) (K : Ex → Fr → Heap → Option R) : ev Tryd.prog (E9 a12 a26 a25 a27) loopLim Tryd.f9.ntmps kp9 (.seq (.cond (.tmp 51) (.seq (codeAt [1, 1, 1, 0, 1, 0, 0] b9) .ret) .skip) (.seq (codeAt [1, 1, 1, 1, 0, 0] b9) (.seq (.cond (.tmp 55) (.seq (codeAt [1, 1, 1, 1, 0, 1, 0, 0] b9) (.seq (codeAt [1, 1, 1, 1, 0, 1, 0, 1, 0] b9) (.seq (codeAt [1, 1, 1, 1, 0, 1, 0, 1, 1, 0] b9) (.cond (.tmp 79) (.seq (codeAt [1, 1, 1, 1, 0, 1, 0, 1, 1, 1, 0, 0] b9) .ret) .skip)))) .skip) c2))) [(2, (V.i .u16 t2)), (3, (V.p (some (t3_0, t3_1)))), (7, (V.p (some (t7_0, t7_1)))), (51, (V.b t51))] H K = g9_p2 a12 a26 a25 a27 R t2 t3_0 t3_1 t7_0 t7_1 t51 H (fun t3_0 t3_1 H => ev Tryd.prog (E9 a12 a26 a25 a27) loopLim Tryd.f9.ntmps kp9 c2 [(3, (V.p (some (t3_0, t3_1))))] H K) (fun t6 H => K .ret [(6, (V.b t6))] H) := by kernel_rfl
theorem g9_p2_lin {a12 : T12} {a26 : T26} {a25 : T25} {a27 : T27} (la12 : Lin12 a12) (la26 : Lin26 a26) (la25 : Lin25 a25) (la27 : Lin27 a27) {R S : Type} {k : S → Option R} {t2 : Int} {t3_0 : Nat} {t3_1 : Nat} {t7_0 : Nat} {t7_1 : Nat} {t51 : Bool} {H : Heap} {fkN : Nat → Nat → Heap → Option R} {gkN : Nat → Nat → Heap → Option S} {fkR : Bool → Heap → Option R} {gkR : Bool → Heap → Option S} (hkN : ∀ t3_0 t3_1 H, fkN t3_0 t3_1 H = (gkN t3_0 t3_1 H).bind k) (hkR : ∀ t6 H, fkR t6 H = (gkR t6 H).bind k) : g9_p2 a12 a26 a25 a27 R t2 t3_0 t3_1 t7_0 t7_1 t51 H fkN fkR = (g9_p2 a12 a26 a25 a27 S t2 t3_0 t3_1 t7_0 t7_1 t51 H gkN gkR).bind k := by
  delta g9_p2; exact (
    sl_lin (
      hkR _ _) (
      bl fun x913 =>
      sl_lin (
        bl fun x914 =>
        il (
          rfl) (
          bl fun x915 =>
          bl fun x916 =>
          il (
            bl fun q917 =>
            bl fun x918 =>
            il (
              bl fun q919 =>
              bl fun h921 =>
              bl fun x922 =>
              bl fun x923 =>
              bl fun x924 =>
              bl fun x925 =>
              bl fun x926 =>
              bl fun x927 =>
              bl fun x928 =>
              bl fun x929 =>
              bl fun x930 =>
              bl fun x931 =>
              bl fun x932 =>
              bl fun x933 =>
              bl fun x934 =>
              bl fun x935 =>
              la27.l fun x936 h937 =>
              sl_lin (
                hkR _ _) (
                bl fun x938 =>
                bl fun x939 =>
                bl fun x940 =>
                bl fun x941 =>
                bl fun x942 =>
                bl fun x943 =>
                bl fun x944 =>
                bl fun x945 =>
                bl fun x946 =>
                bl fun x947 =>
                bl fun x948 =>
                bl fun x949 =>
                bl fun x950 =>
                bl fun x951 =>
                la25.l fun x952 h953 =>
                sl_lin (
                  hkR _ _) (
                  hkN _ _ _))) (
              rfl)) (
            rfl))) (
        hkN _ _ _)))
noncomputable def g9_p3 (a12 : T12) (a26 : T26) (a25 : T25) (a27 : T27) (R : Type) (t3_0 : Nat) (t3_1 : Nat) (H : Heap) (kR : Bool → Heap → Option R) : Option R :=
  ((H).ldI .u8 t3_0 (t3_1 + 0)).bind fun x954 =>
  ((H).ldI .u8 t3_0 (t3_1 + 1)).bind fun x955 =>
  ((H).ldI .u8 t3_0 (t3_1 + 2)).bind fun x956 =>
  ((H).ldI .u16 t3_0 (t3_1 + 3)).bind fun x957 =>
  ((H).ldI .u16 t3_0 (t3_1 + 4)).bind fun x958 =>
  ((H).ldI .u8 t3_0 (t3_1 + 5)).bind fun x959 =>
  ((H).ldSl t3_0 (t3_1 + 6)).bind fun x960 =>
  alo H (.cells [(V.i .u8 (0 : Int)), (V.i .u8 (0 : Int)), (V.i .u8 (0 : Int)), (V.i .u16 (0 : Int)), (V.i .u16 (0 : Int)), (V.i .u8 (0 : Int)), (V.sl (Sl.mk none 0 (.ex 0)))] 38 false) fun i961 h962 =>
  ((h962).sts i961 0 [(V.i .u8 x954), (V.i .u8 x955), (V.i .u8 x956), (V.i .u16 x957), (V.i .u16 x958), (V.i .u8 x959), (V.sl x960)]).bind fun h963 =>
  ((h963).ldI .u8 i961 ((0 + 3) + 2)).bind fun x964 =>
  ((h963).st i961 ((0 + 3) + 2) (V.i .u8 (IntKind.wrap .u8 (x964 + (1 : Int))))).bind fun h966 =>
  ((h966).ldI .u8 t3_0 (t3_1 + 0)).bind fun x967 =>
  ((h966).ldI .u8 t3_0 (t3_1 + 1)).bind fun x968 =>
  ((h966).ldI .u8 t3_0 (t3_1 + 2)).bind fun x969 =>
  ((h966).ldI .u16 t3_0 (t3_1 + 3)).bind fun x970 =>
  ((h966).ldI .u16 t3_0 (t3_1 + 4)).bind fun x971 =>
  ((h966).ldI .u8 t3_0 (t3_1 + 5)).bind fun x972 =>
  ((h966).ldSl t3_0 (t3_1 + 6)).bind fun x973 =>
  alo h966 (.cells [(V.i .u8 (0 : Int)), (V.i .u8 (0 : Int)), (V.i .u8 (0 : Int)), (V.i .u16 (0 : Int)), (V.i .u16 (0 : Int)), (V.i .u8 (0 : Int)), (V.sl (Sl.mk none 0 (.ex 0)))] 38 false) fun i974 h975 =>
  ((h975).sts i974 0 [(V.i .u8 x967), (V.i .u8 x968), (V.i .u8 x969), (V.i .u16 x970), (V.i .u16 x971), (V.i .u8 x972), (V.sl x973)]).bind fun h976 =>
  ((h976).ldI .u8 i974 (0 + 2)).bind fun x977 =>
  ((h976).st i974 (0 + 2) (V.i .u8 (IntKind.wrap .u8 (x977 + (1 : Int))))).bind fun h979 =>
  ((h979).ldI .u8 t3_0 (t3_1 + 0)).bind fun x980 =>
  ((h979).ldI .u8 t3_0 (t3_1 + 1)).bind fun x981 =>
  ((h979).ldI .u8 t3_0 (t3_1 + 2)).bind fun x982 =>
  ((h979).ldI .u16 t3_0 (t3_1 + 3)).bind fun x983 =>
  ((h979).ldI .u16 t3_0 (t3_1 + 4)).bind fun x984 =>
  ((h979).ldI .u8 t3_0 (t3_1 + 5)).bind fun x985 =>
  ((h979).ldSl t3_0 (t3_1 + 6)).bind fun x986 =>
  ((h979).ldI .u8 i961 (0 + 0)).bind fun x987 =>
  ((h979).ldI .u8 i961 (0 + 1)).bind fun x988 =>
  ((h979).ldI .u8 i961 (0 + 2)).bind fun x989 =>
  ((h979).ldI .u16 i961 (0 + 3)).bind fun x990 =>
  ((h979).ldI .u16 i961 (0 + 4)).bind fun x991 =>
  ((h979).ldI .u8 i961 (0 + 5)).bind fun x992 =>
  ((h979).ldSl i961 (0 + 6)).bind fun x993 =>
  a27 R x980 x981 x982 x983 x984 x985 x986 x987 x988 x989 x990 x991 x992 x993 h979 fun x994 h995 =>
  sel (!x994) (
    ((h995).ldI .u8 t3_0 (t3_1 + 0)).bind fun x996 =>
    ((h995).ldI .u8 t3_0 (t3_1 + 1)).bind fun x997 =>
    ((h995).ldI .u8 t3_0 (t3_1 + 2)).bind fun x998 =>
    ((h995).ldI .u16 t3_0 (t3_1 + 3)).bind fun x999 =>
    ((h995).ldI .u16 t3_0 (t3_1 + 4)).bind fun x1000 =>
    ((h995).ldI .u8 t3_0 (t3_1 + 5)).bind fun x1001 =>
    ((h995).ldSl t3_0 (t3_1 + 6)).bind fun x1002 =>
    ((h995).ldI .u8 i974 (0 + 0)).bind fun x1003 =>
    ((h995).ldI .u8 i974 (0 + 1)).bind fun x1004 =>
    ((h995).ldI .u8 i974 (0 + 2)).bind fun x1005 =>
    ((h995).ldI .u16 i974 (0 + 3)).bind fun x1006 =>
    ((h995).ldI .u16 i974 (0 + 4)).bind fun x1007 =>
    ((h995).ldI .u8 i974 (0 + 5)).bind fun x1008 =>
    ((h995).ldSl i974 (0 + 6)).bind fun x1009 =>
    a27 R x996 x997 x998 x999 x1000 x1001 x1002 x1003 x1004 x1005 x1006 x1007 x1008 x1009 h995 fun x1010 h1011 =>
    sel (!x1010) (
      a12 R h1011 fun x1012 h1013 =>
      kR x1012 h1013) (
      kR false h1011)) (
    kR false h995)
theorem g9_p3_eq (a12 : T12) (a26 : T26) (a25 : T25) (a27 : T27) (la12 : Lin12 a12) (la26 : Lin26 a26) (la25 : Lin25 a25) (la27 : Lin27 a27) {R : Type} (t3_0 : Nat) (t3_1 : Nat) (H : Heap) (K : Ex → Fr → Heap → Option R) : ev Tryd.prog (E9 a12 a26 a25 a27) loopLim Tryd.f9.ntmps kp9 c9_0 [(3, (V.p (some (t3_0, t3_1))))] H K = g9_p3 a12 a26 a25 a27 R t3_0 t3_1 H (fun t6 H => K .ret [(6, (V.b t6))] H) := by kernel_rfl
theorem g9_p3_lin {a12 : T12} {a26 : T26} {a25 : T25} {a27 : T27} (la12 : Lin12 a12) (la26 : Lin26 a26) (la25 : Lin25 a25) (la27 : Lin27 a27) {R S : Type} {k : S → Option R} {t3_0 : Nat} {t3_1 : Nat} {H : Heap} {fkR : Bool → Heap → Option R} {gkR : Bool → Heap → Option S} (hkR : ∀ t6 H, fkR t6 H = (gkR t6 H).bind k) : g9_p3 a12 a26 a25 a27 R t3_0 t3_1 H fkR = (g9_p3 a12 a26 a25 a27 S t3_0 t3_1 H gkR).bind k := by
  delta g9_p3; exact (
    bl fun x954 =>
    bl fun x955 =>
    bl fun x956 =>
    bl fun x957 =>
    bl fun x958 =>
    bl fun x959 =>
    bl fun x960 =>
    alo_lin fun i961 h962 =>
    bl fun h963 =>
    bl fun x964 =>
    bl fun h966 =>
    bl fun x967 =>
    bl fun x968 =>
    bl fun x969 =>
    bl fun x970 =>
    bl fun x971 =>
    bl fun x972 =>
    bl fun x973 =>
    alo_lin fun i974 h975 =>
    bl fun h976 =>
    bl fun x977 =>
    bl fun h979 =>
    bl fun x980 =>
    bl fun x981 =>
    bl fun x982 =>
    bl fun x983 =>
    bl fun x984 =>
    bl fun x985 =>
    bl fun x986 =>
    bl fun x987 =>
    bl fun x988 =>
    bl fun x989 =>
    bl fun x990 =>
    bl fun x991 =>
    bl fun x992 =>
    bl fun x993 =>
    la27.l fun x994 h995 =>
    sl_lin (
      bl fun x996 =>
      bl fun x997 =>
      bl fun x998 =>
      bl fun x999 =>
      bl fun x1000 =>
      bl fun x1001 =>
      bl fun x1002 =>
      bl fun x1003 =>
      bl fun x1004 =>
      bl fun x1005 =>
      bl fun x1006 =>
      bl fun x1007 =>
      bl fun x1008 =>
      bl fun x1009 =>
      la27.l fun x1010 h1011 =>
      sl_lin (
        la12.l fun x1012 h1013 =>
        hkR _ _) (
        hkR _ _)) (
      hkR _ _))
noncomputable def g9_p4 (a12 : T12) (a26 : T26) (a25 : T25) (a27 : T27) (R : Type) (t2 : Int) (t3_0 : Nat) (t3_1 : Nat) (t7_0 : Nat) (t7_1 : Nat) (t51 : Bool) (H : Heap) (kR : Bool → Heap → Option R) : Option R :=
  g9_p2 a12 a26 a25 a27 R t2 t3_0 t3_1 t7_0 t7_1 t51 H (fun t3_0 t3_1 H => g9_p3 a12 a26 a25 a27 R t3_0 t3_1 H (fun t6 H => kR t6 H)) (fun t6 H => kR t6 H)
theorem g9_p4_lin {a12 : T12} {a26 : T26} {a25 : T25} {a27 : T27} (la12 : Lin12 a12) (la26 : Lin26 a26) (la25 : Lin25 a25) (la27 : Lin27 a27) {R S : Type} {k : S → Option R} {t2 : Int} {t3_0 : Nat} {t3_1 : Nat} {t7_0 : Nat} {t7_1 : Nat} {t51 : Bool} {H : Heap} {fkR : Bool → Heap → Option R} {gkR : Bool → Heap → Option S} (hkR : ∀ t6 H, fkR t6 H = (gkR t6 H).bind k) : g9_p4 a12 a26 a25 a27 R t2 t3_0 t3_1 t7_0 t7_1 t51 H fkR = (g9_p4 a12 a26 a25 a27 S t2 t3_0 t3_1 t7_0 t7_1 t51 H gkR).bind k := by
  exact g9_p2_lin la12 la26 la25 la27 (fun _ _ _ => g9_p3_lin la12 la26 la25 la27 (fun _ _ => hkR _ _)) (fun _ _ => hkR _ _)
theorem g9_p4_eq (a12 : T12) (a26 : T26) (a25 : T25) (a27 : T27) (la12 : Lin12 a12) (la26 : Lin26 a26) (la25 : Lin25 a25) (la27 : Lin27 a27) {R : Type} (t2 : Int) (t3_0 : Nat) (t3_1 : Nat) (t7_0 : Nat) (t7_1 : Nat) (t51 : Bool) (H : Heap) (K : Ex → Fr → Heap → Option R) : ev Tryd.prog (E9 a12 a26 a25 a27) loopLim Tryd.f9.ntmps kp9 c9_1 [(2, (V.i .u16 t2)), (3, (V.p (some (t3_0, t3_1)))), (7, (V.p (some (t7_0, t7_1)))), (51, (V.b t51))] H K = g9_p4 a12 a26 a25 a27 R t2 t3_0 t3_1 t7_0 t7_1 t51 H (fun t6 H => K .ret [(6, (V.b t6))] H) := by
  show ev Tryd.prog (E9 a12 a26 a25 a27) loopLim Tryd.f9.ntmps kp9 (.seq (.cond (.tmp 51) (.seq (codeAt [1, 1, 1, 0, 1, 0, 0] b9) .ret) .skip) (.seq (codeAt [1, 1, 1, 1, 0, 0] b9) (.seq (.cond (.tmp 55) (.seq (codeAt [1, 1, 1, 1, 0, 1, 0, 0] b9) (.seq (codeAt [1, 1, 1, 1, 0, 1, 0, 1, 0] b9) (.seq (codeAt [1, 1, 1, 1, 0, 1, 0, 1, 1, 0] b9) (.cond (.tmp 79) (.seq (codeAt [1, 1, 1, 1, 0, 1, 0, 1, 1, 1, 0, 0] b9) .ret) .skip)))) .skip) c9_0))) [(2, (V.i .u16 t2)), (3, (V.p (some (t3_0, t3_1)))), (7, (V.p (some (t7_0, t7_1)))), (51, (V.b t51))] H K = _
  delta g9_p4
  exact (g9_p2_eq a12 a26 a25 a27 _ t2 t3_0 t3_1 t7_0 t7_1 t51 H K).trans (congr (congrArg (g9_p2 a12 a26 a25 a27 R t2 t3_0 t3_1 t7_0 t7_1 t51 H) (funext fun t3_0 => funext fun t3_1 => funext fun H => g9_p3_eq a12 a26 a25 a27 la12 la26 la25 la27 t3_0 t3_1 H K)) rfl)
noncomputable def g9_p5 (a12 : T12) (a26 : T26) (a25 : T25) (a27 : T27) (R : Type) (t2 : Int) (t3_0 : Nat) (t3_1 : Nat) (t4_0 : Nat) (t4_1 : Nat) (t7_0 : Nat) (t7_1 : Nat) (H : Heap) (kR : Bool → Heap → Option R) : Option R :=
  g9_p1 a12 a26 a25 a27 R t2 t3_0 t3_1 t4_0 t4_1 t7_0 t7_1 H (fun t2 t3_0 t3_1 t7_0 t7_1 t51 H => g9_p4 a12 a26 a25 a27 R t2 t3_0 t3_1 t7_0 t7_1 t51 H (fun t6 H => kR t6 H))
theorem g9_p5_lin {a12 : T12} {a26 : T26} {a25 : T25} {a27 : T27} (la12 : Lin12 a12) (la26 : Lin26 a26) (la25 : Lin25 a25) (la27 : Lin27 a27) {R S : Type} {k : S → Option R} {t2 : Int} {t3_0 : Nat} {t3_1 : Nat} {t4_0 : Nat} {t4_1 : Nat} {t7_0 : Nat} {t7_1 : Nat} {H : Heap} {fkR : Bool → Heap → Option R} {gkR : Bool → Heap → Option S} (hkR : ∀ t6 H, fkR t6 H = (gkR t6 H).bind k) : g9_p5 a12 a26 a25 a27 R t2 t3_0 t3_1 t4_0 t4_1 t7_0 t7_1 H fkR = (g9_p5 a12 a26 a25 a27 S t2 t3_0 t3_1 t4_0 t4_1 t7_0 t7_1 H gkR).bind k := by
  exact g9_p1_lin la12 la26 la25 la27 (fun _ _ _ _ _ _ _ => g9_p4_lin la12 la26 la25 la27 (fun _ _ => hkR _ _))
theorem g9_p5_eq (a12 : T12) (a26 : T26) (a25 : T25) (a27 : T27) (la12 : Lin12 a12) (la26 : Lin26 a26) (la25 : Lin25 a25) (la27 : Lin27 a27) {R : Type} (t2 : Int) (t3_0 : Nat) (t3_1 : Nat) (t4_0 : Nat) (t4_1 : Nat) (t7_0 : Nat) (t7_1 : Nat) (H : Heap) (K : Ex → Fr → Heap → Option R) : ev Tryd.prog (E9 a12 a26 a25 a27) loopLim Tryd.f9.ntmps kp9 c9_2 [(2, (V.i .u16 t2)), (3, (V.p (some (t3_0, t3_1)))), (4, (V.p (some (t4_0, t4_1)))), (7, (V.p (some (t7_0, t7_1))))] H K = g9_p5 a12 a26 a25 a27 R t2 t3_0 t3_1 t4_0 t4_1 t7_0 t7_1 H (fun t6 H => K .ret [(6, (V.b t6))] H) := by
  show ev Tryd.prog (E9 a12 a26 a25 a27) loopLim Tryd.f9.ntmps kp9 (.seq (codeAt [1, 1, 1, 0, 0] b9) c9_1) [(2, (V.i .u16 t2)), (3, (V.p (some (t3_0, t3_1)))), (4, (V.p (some (t4_0, t4_1)))), (7, (V.p (some (t7_0, t7_1))))] H K = _
  delta g9_p5
  exact (g9_p1_eq a12 a26 a25 a27 _ t2 t3_0 t3_1 t4_0 t4_1 t7_0 t7_1 H K).trans (congrArg (g9_p1 a12 a26 a25 a27 R t2 t3_0 t3_1 t4_0 t4_1 t7_0 t7_1 H) (funext fun t2 => funext fun t3_0 => funext fun t3_1 => funext fun t7_0 => funext fun t7_1 => funext fun t51 => funext fun H => g9_p4_eq a12 a26 a25 a27 la12 la26 la25 la27 t2 t3_0 t3_1 t7_0 t7_1 t51 H K))
noncomputable def g9_p6 (a12 : T12) (a26 : T26) (a25 : T25) (a27 : T27) (R : Type) (t0_0 : Int) (t0_1 : Int) (t0_2 : Int) (t0_3 : Int) (t0_4 : Int) (t0_5 : Int) (t0_6 : Sl) (t1_0 : Int) (t1_1 : Int) (t1_2 : Int) (t1_3 : Int) (t1_4 : Int) (t1_5 : Int) (t1_6 : Sl) (t2 : Int) (H : Heap) (kR : Bool → Heap → Option R) : Option R :=
  g9_p0 a12 a26 a25 a27 R t0_0 t0_1 t0_2 t0_3 t0_4 t0_5 t0_6 t1_0 t1_1 t1_2 t1_3 t1_4 t1_5 t1_6 t2 H (fun t2 t3_0 t3_1 t4_0 t4_1 t7_0 t7_1 H => g9_p5 a12 a26 a25 a27 R t2 t3_0 t3_1 t4_0 t4_1 t7_0 t7_1 H (fun t6 H => kR t6 H)) (fun t6 H => kR t6 H)
theorem g9_p6_lin {a12 : T12} {a26 : T26} {a25 : T25} {a27 : T27} (la12 : Lin12 a12) (la26 : Lin26 a26) (la25 : Lin25 a25) (la27 : Lin27 a27) {R S : Type} {k : S → Option R} {t0_0 : Int} {t0_1 : Int} {t0_2 : Int} {t0_3 : Int} {t0_4 : Int} {t0_5 : Int} {t0_6 : Sl} {t1_0 : Int} {t1_1 : Int} {t1_2 : Int} {t1_3 : Int} {t1_4 : Int} {t1_5 : Int} {t1_6 : Sl} {t2 : Int} {H : Heap} {fkR : Bool → Heap → Option R} {gkR : Bool → Heap → Option S} (hkR : ∀ t6 H, fkR t6 H = (gkR t6 H).bind k) : g9_p6 a12 a26 a25 a27 R t0_0 t0_1 t0_2 t0_3 t0_4 t0_5 t0_6 t1_0 t1_1 t1_2 t1_3 t1_4 t1_5 t1_6 t2 H fkR = (g9_p6 a12 a26 a25 a27 S t0_0 t0_1 t0_2 t0_3 t0_4 t0_5 t0_6 t1_0 t1_1 t1_2 t1_3 t1_4 t1_5 t1_6 t2 H gkR).bind k := by
  exact g9_p0_lin la12 la26 la25 la27 (fun _ _ _ _ _ _ _ _ => g9_p5_lin la12 la26 la25 la27 (fun _ _ => hkR _ _)) (fun _ _ => hkR _ _)
theorem g9_p6_eq (a12 : T12) (a26 : T26) (a25 : T25) (a27 : T27) (la12 : Lin12 a12) (la26 : Lin26 a26) (la25 : Lin25 a25) (la27 : Lin27 a27) {R : Type} (t0_0 : Int) (t0_1 : Int) (t0_2 : Int) (t0_3 : Int) (t0_4 : Int) (t0_5 : Int) (t0_6 : Sl) (t1_0 : Int) (t1_1 : Int) (t1_2 : Int) (t1_3 : Int) (t1_4 : Int) (t1_5 : Int) (t1_6 : Sl) (t2 : Int) (H : Heap) (K : Ex → Fr → Heap → Option R) : ev Tryd.prog (E9 a12 a26 a25 a27) loopLim Tryd.f9.ntmps kp9 c9_3 [(0, (V.agg [(V.i .u8 t0_0), (V.i .u8 t0_1), (V.i .u8 t0_2), (V.i .u16 t0_3), (V.i .u16 t0_4), (V.i .u8 t0_5), (V.sl t0_6)])), (1, (V.agg [(V.i .u8 t1_0), (V.i .u8 t1_1), (V.i .u8 t1_2), (V.i .u16 t1_3), (V.i .u16 t1_4), (V.i .u8 t1_5), (V.sl t1_6)])), (2, (V.i .u16 t2))] H K = g9_p6 a12 a26 a25 a27 R t0_0 t0_1 t0_2 t0_3 t0_4 t0_5 t0_6 t1_0 t1_1 t1_2 t1_3 t1_4 t1_5 t1_6 t2 H (fun t6 H => K .ret [(6, (V.b t6))] H) := by
  show ev Tryd.prog (E9 a12 a26 a25 a27) loopLim Tryd.f9.ntmps kp9 (.seq (codeAt [0] b9) (.seq (codeAt [1, 0, 0] b9) (.seq (.cond (.tmp 20) (.seq (codeAt [1, 0, 1, 0, 0] b9) .ret) .skip) (.seq (codeAt [1, 1, 0] b9) c9_2)))) [(0, (V.agg [(V.i .u8 t0_0), (V.i .u8 t0_1), (V.i .u8 t0_2), (V.i .u16 t0_3), (V.i .u16 t0_4), (V.i .u8 t0_5), (V.sl t0_6)])), (1, (V.agg [(V.i .u8 t1_0), (V.i .u8 t1_1), (V.i .u8 t1_2), (V.i .u16 t1_3), (V.i .u16 t1_4), (V.i .u8 t1_5), (V.sl t1_6)])), (2, (V.i .u16 t2))] H K = _
  delta g9_p6
  exact (g9_p0_eq a12 a26 a25 a27 _ t0_0 t0_1 t0_2 t0_3 t0_4 t0_5 t0_6 t1_0 t1_1 t1_2 t1_3 t1_4 t1_5 t1_6 t2 H K).trans (congr (congrArg (g9_p0 a12 a26 a25 a27 R t0_0 t0_1 t0_2 t0_3 t0_4 t0_5 t0_6 t1_0 t1_1 t1_2 t1_3 t1_4 t1_5 t1_6 t2 H) (funext fun t2 => funext fun t3_0 => funext fun t3_1 => funext fun t4_0 => funext fun t4_1 => funext fun t7_0 => funext fun t7_1 => funext fun H => g9_p5_eq a12 a26 a25 a27 la12 la26 la25 la27 t2 t3_0 t3_1 t4_0 t4_1 t7_0 t7_1 H K)) rfl)
noncomputable def g9_r (a12 : T12) (a26 : T26) (a25 : T25) (a27 : T27) : T9 := fun R t0_0 t0_1 t0_2 t0_3 t0_4 t0_5 t0_6 t1_0 t1_1 t1_2 t1_3 t1_4 t1_5 t1_6 t2 H K =>
  g9_p6 a12 a26 a25 a27 R t0_0 t0_1 t0_2 t0_3 t0_4 t0_5 t0_6 t1_0 t1_1 t1_2 t1_3 t1_4 t1_5 t1_6 t2 H (fun t6 H =>
    K t6 H)
theorem g9_r_lin {a12 : T12} {a26 : T26} {a25 : T25} {a27 : T27} (la12 : Lin12 a12) (la26 : Lin26 a26) (la25 : Lin25 a25) (la27 : Lin27 a27) : Lin9 (g9_r a12 a26 a25 a27) := by
  constructor
  intro R S k t0_0 t0_1 t0_2 t0_3 t0_4 t0_5 t0_6 t1_0 t1_1 t1_2 t1_3 t1_4 t1_5 t1_6 t2 H f g h
  exact g9_p6_lin la12 la26 la25 la27 (fun t6 H =>
    h _ _)
theorem g9_fn (a12 : T12) (a26 : T26) (a25 : T25) (a27 : T27) (la12 : Lin12 a12) (la26 : Lin26 a26) (la25 : Lin25 a25) (la27 : Lin27 a27) {R : Type} (t0_0 : Int) (t0_1 : Int) (t0_2 : Int) (t0_3 : Int) (t0_4 : Int) (t0_5 : Int) (t0_6 : Sl) (t1_0 : Int) (t1_1 : Int) (t1_2 : Int) (t1_3 : Int) (t1_4 : Int) (t1_5 : Int) (t1_6 : Sl) (t2 : Int) (H : Heap) (K : V → Heap → Option R) : evFn Tryd.prog (E9 a12 a26 a25 a27) loopLim Tryd.f9 kp9 [(V.agg [(V.i .u8 t0_0), (V.i .u8 t0_1), (V.i .u8 t0_2), (V.i .u16 t0_3), (V.i .u16 t0_4), (V.i .u8 t0_5), (V.sl t0_6)]), (V.agg [(V.i .u8 t1_0), (V.i .u8 t1_1), (V.i .u8 t1_2), (V.i .u16 t1_3), (V.i .u16 t1_4), (V.i .u8 t1_5), (V.sl t1_6)]), (V.i .u16 t2)] H K = g9_r a12 a26 a25 a27 R t0_0 t0_1 t0_2 t0_3 t0_4 t0_5 t0_6 t1_0 t1_1 t1_2 t1_3 t1_4 t1_5 t1_6 t2 H (fun r0 H => K (V.b r0) H) := by
  have h0 : ∀ (t6 : Bool) (H : Heap), kFn Tryd.prog Tryd.f9.results.toList K .ret [(6, (V.b t6))] H =
      K (V.b t6) H := by intros; kernel_rfl
  have e0 := evFn_code2 (P := Tryd.prog) (c := c9_3) (E := (E9 a12 a26 a25 a27)) (lr := loopLim) (kp := kp9) (fn := Tryd.f9) (args := [(V.agg [(V.i .u8 t0_0), (V.i .u8 t0_1), (V.i .u8 t0_2), (V.i .u16 t0_3), (V.i .u16 t0_4), (V.i .u8 t0_5), (V.sl t0_6)]), (V.agg [(V.i .u8 t1_0), (V.i .u8 t1_1), (V.i .u8 t1_2), (V.i .u16 t1_3), (V.i .u16 t1_4), (V.i .u8 t1_5), (V.sl t1_6)]), (V.i .u16 t2)]) H K (by kernel_rfl) (Nat.le_of_ble_eq_true (by kernel_rfl)) (by kernel_rfl)
  have e1 : ev Tryd.prog (E9 a12 a26 a25 a27) loopLim Tryd.f9.ntmps kp9 c9_3 (argFr 0 [(V.agg [(V.i .u8 t0_0), (V.i .u8 t0_1), (V.i .u8 t0_2), (V.i .u16 t0_3), (V.i .u16 t0_4), (V.i .u8 t0_5), (V.sl t0_6)]), (V.agg [(V.i .u8 t1_0), (V.i .u8 t1_1), (V.i .u8 t1_2), (V.i .u16 t1_3), (V.i .u16 t1_4), (V.i .u8 t1_5), (V.sl t1_6)]), (V.i .u16 t2)]) H (kFn Tryd.prog Tryd.f9.results.toList K) = ev Tryd.prog (E9 a12 a26 a25 a27) loopLim Tryd.f9.ntmps kp9 c9_3 [(0, (V.agg [(V.i .u8 t0_0), (V.i .u8 t0_1), (V.i .u8 t0_2), (V.i .u16 t0_3), (V.i .u16 t0_4), (V.i .u8 t0_5), (V.sl t0_6)])), (1, (V.agg [(V.i .u8 t1_0), (V.i .u8 t1_1), (V.i .u8 t1_2), (V.i .u16 t1_3), (V.i .u16 t1_4), (V.i .u8 t1_5), (V.sl t1_6)])), (2, (V.i .u16 t2))] H (kFn Tryd.prog Tryd.f9.results.toList K) := by kernel_rfl
  refine (e0.trans e1).trans ?_
  delta g9_r
  exact (g9_p6_eq a12 a26 a25 a27 la12 la26 la25 la27 t0_0 t0_1 t0_2 t0_3 t0_4 t0_5 t0_6 t1_0 t1_1 t1_2 t1_3 t1_4 t1_5 t1_6 t2 H (kFn Tryd.prog Tryd.f9.results.toList K)).trans (congrArg (g9_p6 a12 a26 a25 a27 R t0_0 t0_1 t0_2 t0_3 t0_4 t0_5 t0_6 t1_0 t1_1 t1_2 t1_3 t1_4 t1_5 t1_6 t2 H) (funext fun t6 => funext fun H => h0 t6 H))
theorem g9_ok {a12 : T12} {a26 : T26} {a25 : T25} {a27 : T27} (oa12 : FunOK Tryd.prog 12 (w12 a12)) (oa26 : FunOK Tryd.prog 26 (w26 a26)) (oa25 : FunOK Tryd.prog 25 (w25 a25)) (oa27 : FunOK Tryd.prog 27 (w27 a27)) (la12 : Lin12 a12) (la26 : Lin26 a26) (la25 : Lin25 a25) (la27 : Lin27 a27) : FunOK Tryd.prog 9 (w9 (g9_r a12 a26 a25 a27)) := by
  refine (runF_ok (E9_good oa12 oa26 oa25 oa27 la12 la26 la25 la27) mixed lim_ok Tryd.func9 (by kernel_rfl) kp9).of_le fun R args H K r hk => ?_
  unfold w9 at hk
  split at hk
  · exact (g9_fn a12 a26 a25 a27 la12 la26 la25 la27 _ _ _ _ _ _ _ _ _ _ _ _ _ _ _ H K).trans hk
  · cases hk
def kp47 : Nat → Option (List Nat) := kpOf [(0, [0]), (1, [2]), (300000, [2])]
def E47 : FEnv := []
theorem E47_good : EnvGood Tryd.prog E47 := (EnvGood.nil _)
theorem E47_lin : EnvLin E47 := fun g F h => by cases h
noncomputable def b47 : Code := Tryd.f47.body.getD .skip
noncomputable def c47_0 : Code := (.seq (codeAt [0] b47) (.seq (codeAt [1, 0] b47) .ret))
noncomputable def g47_p0 (R : Type) (t0 : Int) (H : Heap) (kR : Bool → Heap → Option R) : Option R :=
  kR (t0 != t0) H
theorem g47_p0_eq {R : Type} (t0 : Int) (H : Heap) (K : Ex → Fr → Heap → Option R) : ev Tryd.prog E47 loopLim Tryd.f47.ntmps kp47 c47_0 [(0, (V.i .u16 t0))] H K = g47_p0 R t0 H (fun t2 H => K .ret [(2, (V.b t2))] H) := by kernel_rfl
theorem g47_p0_lin {R S : Type} {k : S → Option R} {t0 : Int} {H : Heap} {fkR : Bool → Heap → Option R} {gkR : Bool → Heap → Option S} (hkR : ∀ t2 H, fkR t2 H = (gkR t2 H).bind k) : g47_p0 R t0 H fkR = (g47_p0 S t0 H gkR).bind k := by
  delta g47_p0; exact (
    hkR _ _)
noncomputable def g47_r : T47 := fun R t0 H K =>
  g47_p0 R t0 H (fun t2 H =>
    K t2 H)
theorem g47_r_lin : Lin47 (g47_r) := by
  constructor
  intro R S k t0 H f g h
  exact g47_p0_lin (fun t2 H =>
    h _ _)
theorem g47_fn {R : Type} (t0 : Int) (H : Heap) (K : V → Heap → Option R) : evFn Tryd.prog E47 loopLim Tryd.f47 kp47 [(V.i .u16 t0)] H K = g47_r R t0 H (fun r0 H => K (V.b r0) H) := by
  have h0 : ∀ (t2 : Bool) (H : Heap), kFn Tryd.prog Tryd.f47.results.toList K .ret [(2, (V.b t2))] H =
      K (V.b t2) H := by intros; kernel_rfl
  have e0 := evFn_code2 (P := Tryd.prog) (c := c47_0) (E := E47) (lr := loopLim) (kp := kp47) (fn := Tryd.f47) (args := [(V.i .u16 t0)]) H K (by kernel_rfl) (Nat.le_of_ble_eq_true (by kernel_rfl)) (by kernel_rfl)
  have e1 : ev Tryd.prog E47 loopLim Tryd.f47.ntmps kp47 c47_0 (argFr 0 [(V.i .u16 t0)]) H (kFn Tryd.prog Tryd.f47.results.toList K) = ev Tryd.prog E47 loopLim Tryd.f47.ntmps kp47 c47_0 [(0, (V.i .u16 t0))] H (kFn Tryd.prog Tryd.f47.results.toList K) := by kernel_rfl
  refine (e0.trans e1).trans ?_
  delta g47_r
  exact (g47_p0_eq t0 H (kFn Tryd.prog Tryd.f47.results.toList K)).trans (congrArg (g47_p0 R t0 H) (funext fun t2 => funext fun H => h0 t2 H))
theorem g47_ok : FunOK Tryd.prog 47 (w47 (g47_r)) := by
  refine (runF_ok (E47_good) mixed lim_ok Tryd.func47 (by kernel_rfl) kp47).of_le fun R args H K r hk => ?_
  unfold w47 at hk
  split at hk
  · exact (g47_fn _ H K).trans hk
  · cases hk
def kp36 : Nat → Option (List Nat) := kpOf [(0, [0, 1]), (1, [0, 1, 5]), (2, [0, 1, 5, 6]), (3, [0, 1, 6, 11]), (4, [12]), (5, [4]), (6, [4]), (7, [0, 1, 13]), (8, [4]), (9, [0, 1, 16]), (10, [4]), (11, [19]), (12, [4]), (13, [4]), (300000, [4]), (400011, [0, 1, 6]), (400012, []), (400013, [0, 1]), (400016, [0, 1]), (400019, [])]
def E36 (a47 : T47) : FEnv := [(47, w47 a47)]
theorem E36_good {a47 : T47} (oa47 : FunOK Tryd.prog 47 (w47 a47)) (la47 : Lin47 a47) : EnvGood Tryd.prog (E36 a47) := ((EnvGood.nil _).cons oa47 (w47_lin la47))
theorem E36_lin {a47 : T47} (la47 : Lin47 a47) : EnvLin (E36 a47) := by
  intro g F h
  simp only [E36, List.mem_cons, List.not_mem_nil, or_false] at h
  rcases h with h
  · cases h; exact w47_lin la47
noncomputable def b36 : Code := Tryd.f36.body.getD .skip
noncomputable def c36_0 : Code := (.seq (codeAt [0] b36) (.seq (codeAt [1, 0] b36) (.seq (codeAt [1, 1, 0] b36) (.seq (codeAt [1, 1, 1, 0, 0] b36) (.seq (.cond (.tmp 11) (.seq (codeAt [1, 1, 1, 0, 1, 0, 0, 0] b36) (.seq (.cond (.tmp 12) (.seq (codeAt [1, 1, 1, 0, 1, 0, 0, 1, 0, 0] b36) .ret) .skip) (.seq (codeAt [1, 1, 1, 0, 1, 0, 1, 0] b36) .ret))) .skip) (.seq (codeAt [1, 1, 1, 1, 0, 0] b36) (.seq (.cond (.tmp 13) (.seq (codeAt [1, 1, 1, 1, 0, 1, 0, 0] b36) .ret) .skip) (.seq (codeAt [1, 1, 1, 1, 1, 0, 0] b36) (.seq (.cond (.tmp 16) (.seq (codeAt [1, 1, 1, 1, 1, 0, 1, 0, 0] b36) .ret) .skip) (.seq (codeAt [1, 1, 1, 1, 1, 1, 0, 0] b36) (.seq (.cond (.tmp 19) (.seq (codeAt [1, 1, 1, 1, 1, 1, 0, 1, 0, 0] b36) .ret) .skip) (.seq (codeAt [1, 1, 1, 1, 1, 1, 1, 0] b36) .ret))))))))))))
noncomputable def g36_p0 (a47 : T47) (R : Type) (t0 : Int) (t1 : Int) (H : Heap) (kR : Int → Heap → Option R) : Option R :=
  a47 R t0 H fun x1 h2 =>
  a47 R t1 h2 fun x3 h4 =>
  sel x1 (
    sel x3 (
      kR (0 : Int) h4) (
      kR (-1 : Int) h4)) (
    sel x3 (
      kR (1 : Int) h4) (
      sel (decide (t0 < t1)) (
        kR (-1 : Int) h4) (
        sel (decide (t0 > t1)) (
          kR (1 : Int) h4) (
          kR (0 : Int) h4))))
theorem g36_p0_eq (a47 : T47) (la47 : Lin47 a47) {R : Type} (t0 : Int) (t1 : Int) (H : Heap) (K : Ex → Fr → Heap → Option R) : ev Tryd.prog (E36 a47) loopLim Tryd.f36.ntmps kp36 c36_0 [(0, (V.i .u16 t0)), (1, (V.i .u16 t1))] H K = g36_p0 a47 R t0 t1 H (fun t4 H => K .ret [(4, (V.i .i64 t4))] H) := by kernel_rfl
theorem g36_p0_lin {a47 : T47} (la47 : Lin47 a47) {R S : Type} {k : S → Option R} {t0 : Int} {t1 : Int} {H : Heap} {fkR : Int → Heap → Option R} {gkR : Int → Heap → Option S} (hkR : ∀ t4 H, fkR t4 H = (gkR t4 H).bind k) : g36_p0 a47 R t0 t1 H fkR = (g36_p0 a47 S t0 t1 H gkR).bind k := by
  delta g36_p0; exact (
    la47.l fun x1 h2 =>
    la47.l fun x3 h4 =>
    sl_lin (
      sl_lin (
        hkR _ _) (
        hkR _ _)) (
      sl_lin (
        hkR _ _) (
        sl_lin (
          hkR _ _) (
          sl_lin (
            hkR _ _) (
            hkR _ _)))))
noncomputable def g36_r (a47 : T47) : T36 := fun R t0 t1 H K =>
  g36_p0 a47 R t0 t1 H (fun t4 H =>
    K t4 H)
theorem g36_r_lin {a47 : T47} (la47 : Lin47 a47) : Lin36 (g36_r a47) := by
  constructor
  intro R S k t0 t1 H f g h
  exact g36_p0_lin la47 (fun t4 H =>
    h _ _)
theorem g36_fn (a47 : T47) (la47 : Lin47 a47) {R : Type} (t0 : Int) (t1 : Int) (H : Heap) (K : V → Heap → Option R) : evFn Tryd.prog (E36 a47) loopLim Tryd.f36 kp36 [(V.i .u16 t0), (V.i .u16 t1)] H K = g36_r a47 R t0 t1 H (fun r0 H => K (V.i .i64 r0) H) := by
  have h0 : ∀ (t4 : Int) (H : Heap), kFn Tryd.prog Tryd.f36.results.toList K .ret [(4, (V.i .i64 t4))] H =
      K (V.i .i64 t4) H := by intros; kernel_rfl
  have e0 := evFn_code2 (P := Tryd.prog) (c := c36_0) (E := (E36 a47)) (lr := loopLim) (kp := kp36) (fn := Tryd.f36) (args := [(V.i .u16 t0), (V.i .u16 t1)]) H K (by kernel_rfl) (Nat.le_of_ble_eq_true (by kernel_rfl)) (by kernel_rfl)
  have e1 : ev Tryd.prog (E36 a47) loopLim Tryd.f36.ntmps kp36 c36_0 (argFr 0 [(V.i .u16 t0), (V.i .u16 t1)]) H (kFn Tryd.prog Tryd.f36.results.toList K) = ev Tryd.prog (E36 a47) loopLim Tryd.f36.ntmps kp36 c36_0 [(0, (V.i .u16 t0)), (1, (V.i .u16 t1))] H (kFn Tryd.prog Tryd.f36.results.toList K) := by kernel_rfl
  refine (e0.trans e1).trans ?_
  delta g36_r
  exact (g36_p0_eq a47 la47 t0 t1 H (kFn Tryd.prog Tryd.f36.results.toList K)).trans (congrArg (g36_p0 a47 R t0 t1 H) (funext fun t4 => funext fun H => h0 t4 H))
theorem g36_ok {a47 : T47} (oa47 : FunOK Tryd.prog 47 (w47 a47)) (la47 : Lin47 a47) : FunOK Tryd.prog 36 (w36 (g36_r a47)) := by
  refine (runF_ok (E36_good oa47 la47) mixed lim_ok Tryd.func36 (by kernel_rfl) kp36).of_le fun R args H K r hk => ?_
  unfold w36 at hk
  split at hk
  · exact (g36_fn a47 la47 _ _ H K).trans hk
  · cases hk
def kp48 : Nat → Option (List Nat) := kpOf [(0, [0]), (1, [2]), (300000, [2])]
def E48 : FEnv := []
theorem E48_good : EnvGood Tryd.prog E48 := (EnvGood.nil _)
theorem E48_lin : EnvLin E48 := fun g F h => by cases h
noncomputable def b48 : Code := Tryd.f48.body.getD .skip
noncomputable def c48_0 : Code := (.seq (codeAt [0] b48) (.seq (codeAt [1, 0] b48) .ret))
noncomputable def g48_p0 (R : Type) (t0 : Int) (H : Heap) (kR : Bool → Heap → Option R) : Option R :=
  kR (t0 != t0) H
theorem g48_p0_eq {R : Type} (t0 : Int) (H : Heap) (K : Ex → Fr → Heap → Option R) : ev Tryd.prog E48 loopLim Tryd.f48.ntmps kp48 c48_0 [(0, (V.i .u8 t0))] H K = g48_p0 R t0 H (fun t2 H => K .ret [(2, (V.b t2))] H) := by kernel_rfl
theorem g48_p0_lin {R S : Type} {k : S → Option R} {t0 : Int} {H : Heap} {fkR : Bool → Heap → Option R} {gkR : Bool → Heap → Option S} (hkR : ∀ t2 H, fkR t2 H = (gkR t2 H).bind k) : g48_p0 R t0 H fkR = (g48_p0 S t0 H gkR).bind k := by
  delta g48_p0; exact (
    hkR _ _)
noncomputable def g48_r : T48 := fun R t0 H K =>
  g48_p0 R t0 H (fun t2 H =>
    K t2 H)
theorem g48_r_lin : Lin48 (g48_r) := by
  constructor
  intro R S k t0 H f g h
  exact g48_p0_lin (fun t2 H =>
    h _ _)
theorem g48_fn {R : Type} (t0 : Int) (H : Heap) (K : V → Heap → Option R) : evFn Tryd.prog E48 loopLim Tryd.f48 kp48 [(V.i .u8 t0)] H K = g48_r R t0 H (fun r0 H => K (V.b r0) H) := by
  have h0 : ∀ (t2 : Bool) (H : Heap), kFn Tryd.prog Tryd.f48.results.toList K .ret [(2, (V.b t2))] H =
      K (V.b t2) H := by intros; kernel_rfl
  have e0 := evFn_code2 (P := Tryd.prog) (c := c48_0) (E := E48) (lr := loopLim) (kp := kp48) (fn := Tryd.f48) (args := [(V.i .u8 t0)]) H K (by kernel_rfl) (Nat.le_of_ble_eq_true (by kernel_rfl)) (by kernel_rfl)
  have e1 : ev Tryd.prog E48 loopLim Tryd.f48.ntmps kp48 c48_0 (argFr 0 [(V.i .u8 t0)]) H (kFn Tryd.prog Tryd.f48.results.toList K) = ev Tryd.prog E48 loopLim Tryd.f48.ntmps kp48 c48_0 [(0, (V.i .u8 t0))] H (kFn Tryd.prog Tryd.f48.results.toList K) := by kernel_rfl
  refine (e0.trans e1).trans ?_
  delta g48_r
  exact (g48_p0_eq t0 H (kFn Tryd.prog Tryd.f48.results.toList K)).trans (congrArg (g48_p0 R t0 H) (funext fun t2 => funext fun H => h0 t2 H))
theorem g48_ok : FunOK Tryd.prog 48 (w48 (g48_r)) := by
  refine (runF_ok (E48_good) mixed lim_ok Tryd.func48 (by kernel_rfl) kp48).of_le fun R args H K r hk => ?_
  unfold w48 at hk
  split at hk
  · exact (g48_fn _ H K).trans hk
  · cases hk
def kp37 : Nat → Option (List Nat) := kpOf [(0, [0, 1]), (1, [0, 1, 5]), (2, [0, 1, 5, 6]), (3, [0, 1, 6, 11]), (4, [12]), (5, [4]), (6, [4]), (7, [0, 1, 13]), (8, [4]), (9, [0, 1, 16]), (10, [4]), (11, [19]), (12, [4]), (13, [4]), (300000, [4]), (400011, [0, 1, 6]), (400012, []), (400013, [0, 1]), (400016, [0, 1]), (400019, [])]
def E37 (a48 : T48) : FEnv := [(48, w48 a48)]
theorem E37_good {a48 : T48} (oa48 : FunOK Tryd.prog 48 (w48 a48)) (la48 : Lin48 a48) : EnvGood Tryd.prog (E37 a48) := ((EnvGood.nil _).cons oa48 (w48_lin la48))
theorem E37_lin {a48 : T48} (la48 : Lin48 a48) : EnvLin (E37 a48) := by
  intro g F h
  simp only [E37, List.mem_cons, List.not_mem_nil, or_false] at h
  rcases h with h
  · cases h; exact w48_lin la48
noncomputable def b37 : Code := Tryd.f37.body.getD .skip
noncomputable def c37_0 : Code := (.seq (codeAt [0] b37) (.seq (codeAt [1, 0] b37) (.seq (codeAt [1, 1, 0] b37) (.seq (codeAt [1, 1, 1, 0, 0] b37) (.seq (.cond (.tmp 11) (.seq (codeAt [1, 1, 1, 0, 1, 0, 0, 0] b37) (.seq (.cond (.tmp 12) (.seq (codeAt [1, 1, 1, 0, 1, 0, 0, 1, 0, 0] b37) .ret) .skip) (.seq (codeAt [1, 1, 1, 0, 1, 0, 1, 0] b37) .ret))) .skip) (.seq (codeAt [1, 1, 1, 1, 0, 0] b37) (.seq (.cond (.tmp 13) (.seq (codeAt [1, 1, 1, 1, 0, 1, 0, 0] b37) .ret) .skip) (.seq (codeAt [1, 1, 1, 1, 1, 0, 0] b37) (.seq (.cond (.tmp 16) (.seq (codeAt [1, 1, 1, 1, 1, 0, 1, 0, 0] b37) .ret) .skip) (.seq (codeAt [1, 1, 1, 1, 1, 1, 0, 0] b37) (.seq (.cond (.tmp 19) (.seq (codeAt [1, 1, 1, 1, 1, 1, 0, 1, 0, 0] b37) .ret) .skip) (.seq (codeAt [1, 1, 1, 1, 1, 1, 1, 0] b37) .ret))))))))))))
noncomputable def g37_p0 (a48 : T48) (R : Type) (t0 : Int) (t1 : Int) (H : Heap) (kR : Int → Heap → Option R) : Option R :=
  a48 R t0 H fun x1 h2 =>
  a48 R t1 h2 fun x3 h4 =>
  sel x1 (
    sel x3 (
      kR (0 : Int) h4) (
      kR (-1 : Int) h4)) (
    sel x3 (
      kR (1 : Int) h4) (
      sel (decide (t0 < t1)) (
        kR (-1 : Int) h4) (
        sel (decide (t0 > t1)) (
          kR (1 : Int) h4) (
          kR (0 : Int) h4))))
theorem g37_p0_eq (a48 : T48) (la48 : Lin48 a48) {R : Type} (t0 : Int) (t1 : Int) (H : Heap) (K : Ex → Fr → Heap → Option R) : ev Tryd.prog (E37 a48) loopLim Tryd.f37.ntmps kp37 c37_0 [(0, (V.i .u8 t0)), (1, (V.i .u8 t1))] H K = g37_p0 a48 R t0 t1 H (fun t4 H => K .ret [(4, (V.i .i64 t4))] H) := by kernel_rfl
theorem g37_p0_lin {a48 : T48} (la48 : Lin48 a48) {R S : Type} {k : S → Option R} {t0 : Int} {t1 : Int} {H : Heap} {fkR : Int → Heap → Option R} {gkR : Int → Heap → Option S} (hkR : ∀ t4 H, fkR t4 H = (gkR t4 H).bind k) : g37_p0 a48 R t0 t1 H fkR = (g37_p0 a48 S t0 t1 H gkR).bind k := by
  delta g37_p0; exact (
    la48.l fun x1 h2 =>
    la48.l fun x3 h4 =>
    sl_lin (
      sl_lin (
        hkR _ _) (
        hkR _ _)) (
      sl_lin (
        hkR _ _) (
        sl_lin (
          hkR _ _) (
          sl_lin (
            hkR _ _) (
            hkR _ _)))))
noncomputable def g37_r (a48 : T48) : T37 := fun R t0 t1 H K =>
  g37_p0 a48 R t0 t1 H (fun t4 H =>
    K t4 H)
theorem g37_r_lin {a48 : T48} (la48 : Lin48 a48) : Lin37 (g37_r a48) := by
  constructor
  intro R S k t0 t1 H f g h
  exact g37_p0_lin la48 (fun t4 H =>
    h _ _)
theorem g37_fn (a48 : T48) (la48 : Lin48 a48) {R : Type} (t0 : Int) (t1 : Int) (H : Heap) (K : V → Heap → Option R) : evFn Tryd.prog (E37 a48) loopLim Tryd.f37 kp37 [(V.i .u8 t0), (V.i .u8 t1)] H K = g37_r a48 R t0 t1 H (fun r0 H => K (V.i .i64 r0) H) := by
  have h0 : ∀ (t4 : Int) (H : Heap), kFn Tryd.prog Tryd.f37.results.toList K .ret [(4, (V.i .i64 t4))] H =
      K (V.i .i64 t4) H := by intros; kernel_rfl
  have e0 := evFn_code2 (P := Tryd.prog) (c := c37_0) (E := (E37 a48)) (lr := loopLim) (kp := kp37) (fn := Tryd.f37) (args := [(V.i .u8 t0), (V.i .u8 t1)]) H K (by kernel_rfl) (Nat.le_of_ble_eq_true (by kernel_rfl)) (by kernel_rfl)
  have e1 : ev Tryd.prog (E37 a48) loopLim Tryd.f37.ntmps kp37 c37_0 (argFr 0 [(V.i .u8 t0), (V.i .u8 t1)]) H (kFn Tryd.prog Tryd.f37.results.toList K) = ev Tryd.prog (E37 a48) loopLim Tryd.f37.ntmps kp37 c37_0 [(0, (V.i .u8 t0)), (1, (V.i .u8 t1))] H (kFn Tryd.prog Tryd.f37.results.toList K) := by kernel_rfl
  refine (e0.trans e1).trans ?_
  delta g37_r
  exact (g37_p0_eq a48 la48 t0 t1 H (kFn Tryd.prog Tryd.f37.results.toList K)).trans (congrArg (g37_p0 a48 R t0 t1 H) (funext fun t4 => funext fun H => h0 t4 H))
theorem g37_ok {a48 : T48} (oa48 : FunOK Tryd.prog 48 (w48 a48)) (la48 : Lin48 a48) : FunOK Tryd.prog 37 (w37 (g37_r a48)) := by
  refine (runF_ok (E37_good oa48 la48) mixed lim_ok Tryd.func37 (by kernel_rfl) kp37).of_le fun R args H K r hk => ?_
  unfold w37 at hk
  split at hk
  · exact (g37_fn a48 la48 _ _ H K).trans hk
  · cases hk
end Go.Proofs.YtgdkkpjmjnknoaaDoor

