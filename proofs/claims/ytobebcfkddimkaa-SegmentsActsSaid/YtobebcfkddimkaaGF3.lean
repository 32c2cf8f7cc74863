/- Printed: functions as the machine runs them. -/
import Derived.Test.YtobebcfkddimkaaGT
namespace Go.Proofs.Ytobebcfkddimkaa
open Go AM Go.RowKit
set_option linter.unusedVariables false
def kp13 : Nat → Option (List Nat) := kpOf [(0, [0, 1, 5, 500005, 1000005]), (1, [0, 1, 5, 14, 500005, 1000005]), (2, [6, 7, 8]), (3, [0, 1, 5, 16, 500005, 1000005]), (4, [6, 7, 8]), (5, [0, 1, 5, 9, 500005, 1000005]), (6, [0, 1, 5, 9, 20, 500005, 1000005]), (7, [6, 7, 8]), (8, [0, 5, 10, 500005, 500010, 1000005, 1000010]), (9, [0, 5, 10, 11, 500005, 500010, 1000005, 1000010]), (10, [0, 5, 10, 11, 32, 500005, 500010, 1000005, 1000010]), (11, [6, 7, 8]), (12, [0, 5, 10, 11, 52, 500005, 500010, 1000005, 1000010]), (13, [0, 5, 10, 500005, 500010, 1000005, 1000010]), (14, [0, 5, 10, 11, 500005, 500010, 1000005, 1000010]), (15, [0, 5, 10, 11, 500005, 500010, 1000005, 1000010]), (16, [0, 5, 10, 11, 68, 500005, 500010, 1000005, 1000010]), (17, []), (18, [6, 7, 8]), (19, [0, 5, 10, 11, 500005, 500010, 1000005, 1000010]), (20, [0, 5, 10, 11, 500005, 500010, 1000005, 1000010]), (21, [0, 5, 10, 11, 500005, 500010, 1000005, 1000010]), (22, [0, 10, 11, 109, 500010, 1000010]), (23, [6, 7, 8]), (24, [11]), (25, [6, 7, 8]), (100000, [0, 5, 10, 11, 500005, 500010, 1000005, 1000010]), (200000, [0, 5, 10, 11, 500005, 500010, 1000005, 1000010]), (300000, [6, 7, 8]), (400014, [0, 1, 5, 500005, 1000005]), (400016, [0, 1, 5, 500005, 1000005]), (400020, [0, 1, 5, 500005, 1000005]), (400032, [0, 5, 10, 11, 500005, 500010, 1000005, 1000010]), (400052, [0, 5, 10, 11, 500005, 500010, 1000005, 1000010]), (400068, [0, 5, 10, 11, 500005, 500010, 1000005, 1000010]), (400109, [0, 10, 11, 500010, 1000010])]
def E13 (a22 : T22) (a30 : T30) (a23 : T23) (a31 : T31) : FEnv := [(22, w22 a22), (30, w30 a30), (23, w23 a23), (31, w31 a31)]
theorem E13_good {a22 : T22} {a30 : T30} {a23 : T23} {a31 : T31} (oa22 : FunOK Try.prog 22 (w22 a22)) (oa30 : FunOK Try.prog 30 (w30 a30)) (oa23 : FunOK Try.prog 23 (w23 a23)) (oa31 : FunOK Try.prog 31 (w31 a31)) (la22 : Lin22 a22) (la30 : Lin30 a30) (la23 : Lin23 a23) (la31 : Lin31 a31) : EnvGood Try.prog (E13 a22 a30 a23 a31) := (((((EnvGood.nil _).cons oa31 (w31_lin la31)).cons oa23 (w23_lin la23)).cons oa30 (w30_lin la30)).cons oa22 (w22_lin la22))
theorem E13_lin {a22 : T22} {a30 : T30} {a23 : T23} {a31 : T31} (la22 : Lin22 a22) (la30 : Lin30 a30) (la23 : Lin23 a23) (la31 : Lin31 a31) : EnvLin (E13 a22 a30 a23 a31) := by
  intro g F h
  simp only [E13, List.mem_cons, List.not_mem_nil, or_false] at h
  rcases h with h | h | h | h
  · cases h; exact w22_lin la22
  · cases h; exact w30_lin la30
  · cases h; exact w23_lin la23
  · cases h; exact w31_lin la31
def lv13 : Nat → Bool := lvOf [5, 10]
noncomputable def b13 : Code := Try.f13.body.getD .skip
noncomputable def c13_0 : Code := (.seq (codeAt [1, 1, 1, 1, 1, 1, 1, 0] b13) (.seq (codeAt [1, 1, 1, 1, 1, 1, 1, 1, 0] b13) (.seq (codeAt [1, 1, 1, 1, 1, 1, 1, 1, 1, 0] b13) (.seq (codeAt [1, 1, 1, 1, 1, 1, 1, 1, 1, 1, 0, 0] b13) (.seq (.cond (.tmp 109) (.seq (codeAt [1, 1, 1, 1, 1, 1, 1, 1, 1, 1, 0, 1, 0, 0] b13) .ret) .skip) (.seq (codeAt [1, 1, 1, 1, 1, 1, 1, 1, 1, 1, 1, 0] b13) (.seq (codeAt [1, 1, 1, 1, 1, 1, 1, 1, 1, 1, 1, 1, 0] b13) .ret)))))))
noncomputable def c13_1 : Code := (.seq (.block 0 (.seq (codeAt [1, 1, 1, 1, 1, 1, 0, 0, 0] b13) (.cond (.tmp 32) (.seq (codeAt [1, 1, 1, 1, 1, 1, 0, 0, 1, 0, 0] b13) .ret) (.seq (codeAt [1, 1, 1, 1, 1, 1, 0, 0, 1, 1, 0] b13) (.cond (.tmp 52) (.seq (codeAt [1, 1, 1, 1, 1, 1, 0, 0, 1, 1, 1, 0, 0] b13) (.seq (codeAt [1, 1, 1, 1, 1, 1, 0, 0, 1, 1, 1, 0, 1, 0] b13) (codeAt [1, 1, 1, 1, 1, 1, 0, 0, 1, 1, 1, 0, 1, 1] b13))) (.seq (codeAt [1, 1, 1, 1, 1, 1, 0, 0, 1, 1, 1, 1, 0] b13) (.cond (.tmp 68) (.seq (codeAt [1, 1, 1, 1, 1, 1, 0, 0, 1, 1, 1, 1, 1, 0, 0] b13) (.seq (codeAt [1, 1, 1, 1, 1, 1, 0, 0, 1, 1, 1, 1, 1, 0, 1, 0] b13) .ret)) .skip))))))) c13_0)
noncomputable def c13_2 : Code := (.seq (codeAt [0] b13) (.seq (codeAt [1, 0, 0] b13) (.seq (.cond (.tmp 14) (.seq (codeAt [1, 0, 1, 0, 0] b13) .ret) .skip) (.seq (codeAt [1, 1, 0, 0] b13) (.seq (.cond (.tmp 16) (.seq (codeAt [1, 1, 0, 1, 0, 0] b13) .ret) .skip) (.seq (codeAt [1, 1, 1, 0, 0] b13) (.seq (codeAt [1, 1, 1, 0, 1, 0] b13) (.seq (.cond (.tmp 20) (.seq (codeAt [1, 1, 1, 0, 1, 1, 0, 0] b13) .ret) .skip) (.seq (codeAt [1, 1, 1, 1, 0] b13) (.seq (codeAt [1, 1, 1, 1, 1, 0] b13) c13_1))))))))))
noncomputable def g13_p0 (a22 : T22) (a30 : T30) (a23 : T23) (a31 : T31) (R : Type) (t0 : Option (Nat × Nat)) (t1 : Int) (t2_0 : Int) (t2_1 : Bool) (t2_2 : Int) (t2_3 : Sl) (H : Heap) (kN : Option (Nat × Nat) → Option (Nat × Nat) → Int → Bool → Int → Sl → Int → Int → Heap → Option R) (kR : Sl → Bool → Int → Heap → Option R) : Option R :=
  a22 R t0 H fun x354 h355 =>
  sel (!x354) (
    kR (Sl.mk none 0 (.ex 0)) false (2 : Int) h355) (
    sel (decide (t1 > (16383 : Int))) (
      kR (Sl.mk none 0 (.ex 0)) false (1 : Int) h355) (
      a30 R t2_0 t2_1 t2_2 t2_3 h355 fun x356 h357 =>
      sel (x356 != (0 : Int)) (
        kR (Sl.mk none 0 (.ex 0)) false x356 h357) (
        (t0).bind fun q358 =>
        ((h357).ldM q358.1 (q358.2 + 1)).bind fun x359 =>
        ((getMap h357 x359)).bind fun m360 =>
        ((findE Try.prog 57 (V.agg [(V.i .u16 t1), (V.i .u32 t2_0)]) m360.1 0)).bind fun q361 =>
        fnd q361 (fun j362 x363 =>
          ((V.asP x363)).bind fun x364 =>
          kN t0 x364 t2_0 t2_1 t2_2 t2_3 t1 t2_0 h357) (
          kN t0 none t2_0 t2_1 t2_2 t2_3 t1 t2_0 h357))))
theorem g13_p0_eq (a22 : T22) (a30 : T30) (a23 : T23) (a31 : T31) {R : Type} (c2 : Code) (t0 : Option (Nat × Nat)) (t1 : Int) (t2_0 : Int) (t2_1 : Bool) (t2_2 : Int) (t2_3 : Sl) (H : Heap) (K : Ex → Fr → Heap → Option R) : ev2 Try.prog (E13 a22 a30 a23 a31) loopLim lv13 Try.f13.ntmps kp13 (.seq (codeAt [0] b13) (.seq (codeAt [1, 0, 0] b13) (.seq (.cond (.tmp 14) (.seq (codeAt [1, 0, 1, 0, 0] b13) .ret) .skip) (.seq (codeAt [1, 1, 0, 0] b13) (.seq (.cond (.tmp 16) (.seq (codeAt [1, 1, 0, 1, 0, 0] b13) .ret) .skip) (.seq (codeAt [1, 1, 1, 0, 0] b13) (.seq (codeAt [1, 1, 1, 0, 1, 0] b13) (.seq (.cond (.tmp 20) (.seq (codeAt [1, 1, 1, 0, 1, 1, 0, 0] b13) .ret) .skip) (.seq (codeAt [1, 1, 1, 1, 0] b13) (.seq (codeAt [1, 1, 1, 1, 1, 0] b13) c2)))))))))) [(0, (V.p t0)), (1, (V.i .u16 t1)), (2, (V.agg [(V.i .u32 t2_0), (V.b t2_1), (V.i .u8 t2_2), (V.sl t2_3)]))] H K = g13_p0 a22 a30 a23 a31 R t0 t1 t2_0 t2_1 t2_2 t2_3 H (fun t0 t11 t500005_0 t500005_1 t500005_2 t500005_3 t500010_0 t500010_1 H => ev2 Try.prog (E13 a22 a30 a23 a31) loopLim lv13 Try.f13.ntmps kp13 c2 [(0, (V.p t0)), (11, (V.p t11)), (500005, (V.agg [(V.i .u32 t500005_0), (V.b t500005_1), (V.i .u8 t500005_2), (V.sl t500005_3)])), (500010, (V.agg [(V.i .u16 t500010_0), (V.i .u32 t500010_1)])), (1000005, (V.p (some (5, 0)))), (1000010, (V.p (some (10, 0))))] H K) (fun t6 t7 t8 H => K .ret [(6, (V.sl t6)), (7, (V.b t7)), (8, (V.i .i64 t8))] H) := by kernel_rfl
theorem g13_p0_lin {a22 : T22} {a30 : T30} {a23 : T23} {a31 : T31} (la22 : Lin22 a22) (la30 : Lin30 a30) (la23 : Lin23 a23) (la31 : Lin31 a31) {R S : Type} {k : S → Option R} {t0 : Option (Nat × Nat)} {t1 : Int} {t2_0 : Int} {t2_1 : Bool} {t2_2 : Int} {t2_3 : Sl} {H : Heap} {fkN : Option (Nat × Nat) → Option (Nat × Nat) → Int → Bool → Int → Sl → Int → Int → Heap → Option R} {gkN : Option (Nat × Nat) → Option (Nat × Nat) → Int → Bool → Int → Sl → Int → Int → Heap → Option S} {fkR : Sl → Bool → Int → Heap → Option R} {gkR : Sl → Bool → Int → Heap → Option S} (hkN : ∀ t0 t11 t500005_0 t500005_1 t500005_2 t500005_3 t500010_0 t500010_1 H, fkN t0 t11 t500005_0 t500005_1 t500005_2 t500005_3 t500010_0 t500010_1 H = (gkN t0 t11 t500005_0 t500005_1 t500005_2 t500005_3 t500010_0 t500010_1 H).bind k) (hkR : ∀ t6 t7 t8 H, fkR t6 t7 t8 H = (gkR t6 t7 t8 H).bind k) : g13_p0 a22 a30 a23 a31 R t0 t1 t2_0 t2_1 t2_2 t2_3 H fkN fkR = (g13_p0 a22 a30 a23 a31 S t0 t1 t2_0 t2_1 t2_2 t2_3 H gkN gkR).bind k := by
  delta g13_p0; exact (
    la22.l fun x354 h355 =>
    sl_lin (
      hkR _ _ _ _) (
      sl_lin (
        hkR _ _ _ _) (
        la30.l fun x356 h357 =>
        sl_lin (
          hkR _ _ _ _) (
          bl fun q358 =>
          bl fun x359 =>
          bl fun m360 =>
          bl fun q361 =>
          fnd_lin (fun j362 x363 =>
            bl fun x364 =>
            hkN _ _ _ _ _ _ _ _ _) (
            hkN _ _ _ _ _ _ _ _ _)))))
noncomputable def g13_p1 (a22 : T22) (a30 : T30) (a23 : T23) (a31 : T31) (R : Type) (t0 : Option (Nat × Nat)) (t11 : Option (Nat × Nat)) (t500005_0 : Int) (t500005_1 : Bool) (t500005_2 : Int) (t500005_3 : Sl) (t500010_0 : Int) (t500010_1 : Int) (H : Heap) (kN : Option (Nat × Nat) → Option (Nat × Nat) → Int → Bool → Int → Sl → Int → Int → Heap → Option R) (kR : Sl → Bool → Int → Heap → Option R) : Option R :=
  sel t500005_1 (
    sel (Option.isNone t11) (
      sel (decide (t500005_2 > (0 : Int))) (
        (t0).bind fun q681 =>
        ((H).ldM q681.1 (q681.2 + 1)).bind fun x682 =>
        ((getMap H x682)).bind fun m683 =>
        sel (decide (((m683.1.length : Nat) : Int) ≥ (4096 : Int))) (
          kR (Sl.mk none 0 (.ex 0)) false (9 : Int) H) (
          sel t500005_1 (
            a23 R t0 t500010_0 t500010_1 H fun h684 =>
            alo h684 (.cells [(V.sl (Sl.mk none 0 (.ex 0))), (V.i .u8 t500005_2), (V.i .i64 (0 : Int))] 76 false) fun i685 h686 =>
            (t0).bind fun q687 =>
            ((h686).ldM q687.1 (q687.2 + 1)).bind fun x688 =>
            mapSet Try.prog h686 62 (V.m x688) (V.agg [(V.i .u16 t500010_0), (V.i .u32 t500010_1)]) (V.p (some (i685, 0))) fun u690 h689 =>
            kN t0 (some (i685, 0)) t500005_0 t500005_1 t500005_2 t500005_3 t500010_0 t500010_1 h689) (
            sel (Option.isNone t11) (
              a23 R t0 t500010_0 t500010_1 H fun h691 =>
              kR (Sl.mk none 0 (.ex 0)) false (6 : Int) h691) (
              (t11).bind fun q692 =>
              ((H).ldI .u8 q692.1 (q692.2 + 1)).bind fun x693 =>
              sel (x693 != t500005_2) (
                a23 R t0 t500010_0 t500010_1 H fun h694 =>
                kR (Sl.mk none 0 (.ex 0)) false (6 : Int) h694) (
                kN t0 t11 t500005_0 t500005_1 t500005_2 t500005_3 t500010_0 t500010_1 H))))) (
        sel t500005_1 (
          a23 R t0 t500010_0 t500010_1 H fun h695 =>
          alo h695 (.cells [(V.sl (Sl.mk none 0 (.ex 0))), (V.i .u8 t500005_2), (V.i .i64 (0 : Int))] 76 false) fun i696 h697 =>
          (t0).bind fun q698 =>
          ((h697).ldM q698.1 (q698.2 + 1)).bind fun x699 =>
          mapSet Try.prog h697 62 (V.m x699) (V.agg [(V.i .u16 t500010_0), (V.i .u32 t500010_1)]) (V.p (some (i696, 0))) fun u701 h700 =>
          kN t0 (some (i696, 0)) t500005_0 t500005_1 t500005_2 t500005_3 t500010_0 t500010_1 h700) (
          sel (Option.isNone t11) (
            a23 R t0 t500010_0 t500010_1 H fun h702 =>
            kR (Sl.mk none 0 (.ex 0)) false (6 : Int) h702) (
            (t11).bind fun q703 =>
            ((H).ldI .u8 q703.1 (q703.2 + 1)).bind fun x704 =>
            sel (x704 != t500005_2) (
              a23 R t0 t500010_0 t500010_1 H fun h705 =>
              kR (Sl.mk none 0 (.ex 0)) false (6 : Int) h705) (
              kN t0 t11 t500005_0 t500005_1 t500005_2 t500005_3 t500010_0 t500010_1 H))))) (
      sel t500005_1 (
        a23 R t0 t500010_0 t500010_1 H fun h706 =>
        alo h706 (.cells [(V.sl (Sl.mk none 0 (.ex 0))), (V.i .u8 t500005_2), (V.i .i64 (0 : Int))] 76 false) fun i707 h708 =>
        (t0).bind fun q709 =>
        ((h708).ldM q709.1 (q709.2 + 1)).bind fun x710 =>
        mapSet Try.prog h708 62 (V.m x710) (V.agg [(V.i .u16 t500010_0), (V.i .u32 t500010_1)]) (V.p (some (i707, 0))) fun u712 h711 =>
        kN t0 (some (i707, 0)) t500005_0 t500005_1 t500005_2 t500005_3 t500010_0 t500010_1 h711) (
        sel (Option.isNone t11) (
          a23 R t0 t500010_0 t500010_1 H fun h713 =>
          kR (Sl.mk none 0 (.ex 0)) false (6 : Int) h713) (
          (t11).bind fun q714 =>
          ((H).ldI .u8 q714.1 (q714.2 + 1)).bind fun x715 =>
          sel (x715 != t500005_2) (
            a23 R t0 t500010_0 t500010_1 H fun h716 =>
            kR (Sl.mk none 0 (.ex 0)) false (6 : Int) h716) (
            kN t0 t11 t500005_0 t500005_1 t500005_2 t500005_3 t500010_0 t500010_1 H))))) (
    sel t500005_1 (
      a23 R t0 t500010_0 t500010_1 H fun h717 =>
      alo h717 (.cells [(V.sl (Sl.mk none 0 (.ex 0))), (V.i .u8 t500005_2), (V.i .i64 (0 : Int))] 76 false) fun i718 h719 =>
      (t0).bind fun q720 =>
      ((h719).ldM q720.1 (q720.2 + 1)).bind fun x721 =>
      mapSet Try.prog h719 62 (V.m x721) (V.agg [(V.i .u16 t500010_0), (V.i .u32 t500010_1)]) (V.p (some (i718, 0))) fun u723 h722 =>
      kN t0 (some (i718, 0)) t500005_0 t500005_1 t500005_2 t500005_3 t500010_0 t500010_1 h722) (
      sel (Option.isNone t11) (
        a23 R t0 t500010_0 t500010_1 H fun h724 =>
        kR (Sl.mk none 0 (.ex 0)) false (6 : Int) h724) (
        (t11).bind fun q725 =>
        ((H).ldI .u8 q725.1 (q725.2 + 1)).bind fun x726 =>
        sel (x726 != t500005_2) (
          a23 R t0 t500010_0 t500010_1 H fun h727 =>
          kR (Sl.mk none 0 (.ex 0)) false (6 : Int) h727) (
          kN t0 t11 t500005_0 t500005_1 t500005_2 t500005_3 t500010_0 t500010_1 H))))
theorem g13_p1_eq (a22 : T22) (a30 : T30) (a23 : T23) (a31 : T31) {R : Type} (c2 : Code) (t0 : Option (Nat × Nat)) (t11 : Option (Nat × Nat)) (t500005_0 : Int) (t500005_1 : Bool) (t500005_2 : Int) (t500005_3 : Sl) (t500010_0 : Int) (t500010_1 : Int) (H : Heap) (K : Ex → Fr → Heap → Option R) : ev2 Try.prog (E13 a22 a30 a23 a31) loopLim lv13 Try.f13.ntmps kp13 (.seq (.block 0 (.seq (codeAt [1, 1, 1, 1, 1, 1, 0, 0, 0] b13) (.cond (.tmp 32) (.seq (codeAt [1, 1, 1, 1, 1, 1, 0, 0, 1, 0, 0] b13) .ret) (.seq (codeAt [1, 1, 1, 1, 1, 1, 0, 0, 1, 1, 0] b13) (.cond (.tmp 52) (.seq (codeAt [1, 1, 1, 1, 1, 1, 0, 0, 1, 1, 1, 0, 0] b13) (.seq (codeAt [1, 1, 1, 1, 1, 1, 0, 0, 1, 1, 1, 0, 1, 0] b13) (codeAt [1, 1, 1, 1, 1, 1, 0, 0, 1, 1, 1, 0, 1, 1] b13))) (.seq (codeAt [1, 1, 1, 1, 1, 1, 0, 0, 1, 1, 1, 1, 0] b13) (.cond (.tmp 68) (.seq (codeAt [1, 1, 1, 1, 1, 1, 0, 0, 1, 1, 1, 1, 1, 0, 0] b13) (.seq (codeAt [1, 1, 1, 1, 1, 1, 0, 0, 1, 1, 1, 1, 1, 0, 1, 0] b13) .ret)) .skip))))))) c2) [(0, (V.p t0)), (11, (V.p t11)), (500005, (V.agg [(V.i .u32 t500005_0), (V.b t500005_1), (V.i .u8 t500005_2), (V.sl t500005_3)])), (500010, (V.agg [(V.i .u16 t500010_0), (V.i .u32 t500010_1)])), (1000005, (V.p (some (5, 0)))), (1000010, (V.p (some (10, 0))))] H K = g13_p1 a22 a30 a23 a31 R t0 t11 t500005_0 t500005_1 t500005_2 t500005_3 t500010_0 t500010_1 H (fun t0 t11 t500005_0 t500005_1 t500005_2 t500005_3 t500010_0 t500010_1 H => ev2 Try.prog (E13 a22 a30 a23 a31) loopLim lv13 Try.f13.ntmps kp13 c2 [(0, (V.p t0)), (11, (V.p t11)), (500005, (V.agg [(V.i .u32 t500005_0), (V.b t500005_1), (V.i .u8 t500005_2), (V.sl t500005_3)])), (500010, (V.agg [(V.i .u16 t500010_0), (V.i .u32 t500010_1)])), (1000005, (V.p (some (5, 0)))), (1000010, (V.p (some (10, 0))))] H K) (fun t6 t7 t8 H => K .ret [(6, (V.sl t6)), (7, (V.b t7)), (8, (V.i .i64 t8))] H) := by kernel_rfl
theorem g13_p1_lin {a22 : T22} {a30 : T30} {a23 : T23} {a31 : T31} (la22 : Lin22 a22) (la30 : Lin30 a30) (la23 : Lin23 a23) (la31 : Lin31 a31) {R S : Type} {k : S → Option R} {t0 : Option (Nat × Nat)} {t11 : Option (Nat × Nat)} {t500005_0 : Int} {t500005_1 : Bool} {t500005_2 : Int} {t500005_3 : Sl} {t500010_0 : Int} {t500010_1 : Int} {H : Heap} {fkN : Option (Nat × Nat) → Option (Nat × Nat) → Int → Bool → Int → Sl → Int → Int → Heap → Option R} {gkN : Option (Nat × Nat) → Option (Nat × Nat) → Int → Bool → Int → Sl → Int → Int → Heap → Option S} {fkR : Sl → Bool → Int → Heap → Option R} {gkR : Sl → Bool → Int → Heap → Option S} (hkN : ∀ t0 t11 t500005_0 t500005_1 t500005_2 t500005_3 t500010_0 t500010_1 H, fkN t0 t11 t500005_0 t500005_1 t500005_2 t500005_3 t500010_0 t500010_1 H = (gkN t0 t11 t500005_0 t500005_1 t500005_2 t500005_3 t500010_0 t500010_1 H).bind k) (hkR : ∀ t6 t7 t8 H, fkR t6 t7 t8 H = (gkR t6 t7 t8 H).bind k) : g13_p1 a22 a30 a23 a31 R t0 t11 t500005_0 t500005_1 t500005_2 t500005_3 t500010_0 t500010_1 H fkN fkR = (g13_p1 a22 a30 a23 a31 S t0 t11 t500005_0 t500005_1 t500005_2 t500005_3 t500010_0 t500010_1 H gkN gkR).bind k := by
  delta g13_p1; exact (
    sl_lin (
      sl_lin (
        sl_lin (
          bl fun q681 =>
          bl fun x682 =>
          bl fun m683 =>
          sl_lin (
            hkR _ _ _ _) (
            sl_lin (
              la23.l fun h684 =>
              alo_lin fun i685 h686 =>
              bl fun q687 =>
              bl fun x688 =>
              mapSet_lin fun u690 h689 =>
              hkN _ _ _ _ _ _ _ _ _) (
              sl_lin (
                la23.l fun h691 =>
                hkR _ _ _ _) (
                bl fun q692 =>
                bl fun x693 =>
                sl_lin (
                  la23.l fun h694 =>
                  hkR _ _ _ _) (
                  hkN _ _ _ _ _ _ _ _ _))))) (
          sl_lin (
            la23.l fun h695 =>
            alo_lin fun i696 h697 =>
            bl fun q698 =>
            bl fun x699 =>
            mapSet_lin fun u701 h700 =>
            hkN _ _ _ _ _ _ _ _ _) (
            sl_lin (
              la23.l fun h702 =>
              hkR _ _ _ _) (
              bl fun q703 =>
              bl fun x704 =>
              sl_lin (
                la23.l fun h705 =>
                hkR _ _ _ _) (
                hkN _ _ _ _ _ _ _ _ _))))) (
        sl_lin (
          la23.l fun h706 =>
          alo_lin fun i707 h708 =>
          bl fun q709 =>
          bl fun x710 =>
          mapSet_lin fun u712 h711 =>
          hkN _ _ _ _ _ _ _ _ _) (
          sl_lin (
            la23.l fun h713 =>
            hkR _ _ _ _) (
            bl fun q714 =>
            bl fun x715 =>
            sl_lin (
              la23.l fun h716 =>
              hkR _ _ _ _) (
              hkN _ _ _ _ _ _ _ _ _))))) (
      sl_lin (
        la23.l fun h717 =>
        alo_lin fun i718 h719 =>
        bl fun q720 =>
        bl fun x721 =>
        mapSet_lin fun u723 h722 =>
        hkN _ _ _ _ _ _ _ _ _) (
        sl_lin (
          la23.l fun h724 =>
          hkR _ _ _ _) (
          bl fun q725 =>
          bl fun x726 =>
          sl_lin (
            la23.l fun h727 =>
            hkR _ _ _ _) (
            hkN _ _ _ _ _ _ _ _ _)))))
noncomputable def g13_p2 (a22 : T22) (a30 : T30) (a23 : T23) (a31 : T31) (R : Type) (t0 : Option (Nat × Nat)) (t11 : Option (Nat × Nat)) (t500005_0 : Int) (t500005_1 : Bool) (t500005_2 : Int) (t500005_3 : Sl) (t500010_0 : Int) (t500010_1 : Int) (H : Heap) (kR : Sl → Bool → Int → Heap → Option R) : Option R :=
  (t11).bind fun q728 =>
  ((H).ldSl q728.1 (q728.2 + 0)).bind fun x729 =>
  ((slCells H 1 t500005_3)).bind fun vs732 =>
  appendV H 5 1 1 x729 t500005_3.len vs732 fun s730 h731 =>
  (t11).bind fun q733 =>
  ((h731).st q733.1 (q733.2 + 0) (V.sl s730)).bind fun h735 =>
  (t11).bind fun q736 =>
  ((h735).ldI .u8 q736.1 (q736.2 + 1)).bind fun x737 =>
  (t11).bind fun q738 =>
  ((h735).st q738.1 (q738.2 + 1) (V.i .u8 (IntKind.wrap .u8 (x737 - (1 : Int))))).bind fun h740 =>
  (t0).bind fun q741 =>
  ((h740).ldI .i64 q741.1 (q741.2 + 0)).bind fun x742 =>
  (t11).bind fun q743 =>
  ((h740).st q743.1 (q743.2 + 2) (V.i .i64 x742)).bind fun h745 =>
  sel (decide (t500005_2 > (0 : Int))) (
    kR (Sl.mk none 0 (.ex 0)) false (0 : Int) h745) (
    (t0).bind fun q746 =>
    ((h745).ldM q746.1 (q746.2 + 1)).bind fun x747 =>
    evBuiltin Try.prog h745 .delete [62, 57] [(V.m x747), (V.agg [(V.i .u16 t500010_0), (V.i .u32 t500010_1)])] fun u748 h749 =>
    (t11).bind fun q750 =>
    ((h749).ldSl q750.1 (q750.2 + 0)).bind fun x751 =>
    a31 R x751 h749 fun x752 h753 =>
    kR x752 true (0 : Int) h753)
theorem g13_p2_eq (a22 : T22) (a30 : T30) (a23 : T23) (a31 : T31) (la22 : Lin22 a22) (la30 : Lin30 a30) (la23 : Lin23 a23) (la31 : Lin31 a31) {R : Type} (t0 : Option (Nat × Nat)) (t11 : Option (Nat × Nat)) (t500005_0 : Int) (t500005_1 : Bool) (t500005_2 : Int) (t500005_3 : Sl) (t500010_0 : Int) (t500010_1 : Int) (H : Heap) (K : Ex → Fr → Heap → Option R) : ev2 Try.prog (E13 a22 a30 a23 a31) loopLim lv13 Try.f13.ntmps kp13 c13_0 [(0, (V.p t0)), (11, (V.p t11)), (500005, (V.agg [(V.i .u32 t500005_0), (V.b t500005_1), (V.i .u8 t500005_2), (V.sl t500005_3)])), (500010, (V.agg [(V.i .u16 t500010_0), (V.i .u32 t500010_1)])), (1000005, (V.p (some (5, 0)))), (1000010, (V.p (some (10, 0))))] H K = g13_p2 a22 a30 a23 a31 R t0 t11 t500005_0 t500005_1 t500005_2 t500005_3 t500010_0 t500010_1 H (fun t6 t7 t8 H => K .ret [(6, (V.sl t6)), (7, (V.b t7)), (8, (V.i .i64 t8))] H) := by kernel_rfl
theorem g13_p2_lin {a22 : T22} {a30 : T30} {a23 : T23} {a31 : T31} (la22 : Lin22 a22) (la30 : Lin30 a30) (la23 : Lin23 a23) (la31 : Lin31 a31) {R S : Type} {k : S → Option R} {t0 : Option (Nat × Nat)} {t11 : Option (Nat × Nat)} {t500005_0 : Int} {t500005_1 : Bool} {t500005_2 : Int} {t500005_3 : Sl} {t500010_0 : Int} {t500010_1 : Int} {H : Heap} {fkR : Sl → Bool → Int → Heap → Option R} {gkR : Sl → Bool → Int → Heap → Option S} (hkR : ∀ t6 t7 t8 H, fkR t6 t7 t8 H = (gkR t6 t7 t8 H).bind k) : g13_p2 a22 a30 a23 a31 R t0 t11 t500005_0 t500005_1 t500005_2 t500005_3 t500010_0 t500010_1 H fkR = (g13_p2 a22 a30 a23 a31 S t0 t11 t500005_0 t500005_1 t500005_2 t500005_3 t500010_0 t500010_1 H gkR).bind k := by
  delta g13_p2; exact (
    bl fun q728 =>
    bl fun x729 =>
    bl fun vs732 =>
    appendV_lin fun s730 h731 =>
    bl fun q733 =>
    bl fun h735 =>
    bl fun q736 =>
    bl fun x737 =>
    bl fun q738 =>
    bl fun h740 =>
    bl fun q741 =>
    bl fun x742 =>
    bl fun q743 =>
    bl fun h745 =>
    sl_lin (
      hkR _ _ _ _) (
      bl fun q746 =>
      bl fun x747 =>
      evBuiltin_lin fun u748 h749 =>
      bl fun q750 =>
      bl fun x751 =>
      la31.l fun x752 h753 =>
      hkR _ _ _ _))
noncomputable def g13_p3 (a22 : T22) (a30 : T30) (a23 : T23) (a31 : T31) (R : Type) (t0 : Option (Nat × Nat)) (t11 : Option (Nat × Nat)) (t500005_0 : Int) (t500005_1 : Bool) (t500005_2 : Int) (t500005_3 : Sl) (t500010_0 : Int) (t500010_1 : Int) (H : Heap) (kR : Sl → Bool → Int → Heap → Option R) : Option R :=
  g13_p1 a22 a30 a23 a31 R t0 t11 t500005_0 t500005_1 t500005_2 t500005_3 t500010_0 t500010_1 H (fun t0 t11 t500005_0 t500005_1 t500005_2 t500005_3 t500010_0 t500010_1 H => g13_p2 a22 a30 a23 a31 R t0 t11 t500005_0 t500005_1 t500005_2 t500005_3 t500010_0 t500010_1 H (fun t6 t7 t8 H => kR t6 t7 t8 H)) (fun t6 t7 t8 H => kR t6 t7 t8 H)
theorem g13_p3_lin {a22 : T22} {a30 : T30} {a23 : T23} {a31 : T31} (la22 : Lin22 a22) (la30 : Lin30 a30) (la23 : Lin23 a23) (la31 : Lin31 a31) {R S : Type} {k : S → Option R} {t0 : Option (Nat × Nat)} {t11 : Option (Nat × Nat)} {t500005_0 : Int} {t500005_1 : Bool} {t500005_2 : Int} {t500005_3 : Sl} {t500010_0 : Int} {t500010_1 : Int} {H : Heap} {fkR : Sl → Bool → Int → Heap → Option R} {gkR : Sl → Bool → Int → Heap → Option S} (hkR : ∀ t6 t7 t8 H, fkR t6 t7 t8 H = (gkR t6 t7 t8 H).bind k) : g13_p3 a22 a30 a23 a31 R t0 t11 t500005_0 t500005_1 t500005_2 t500005_3 t500010_0 t500010_1 H fkR = (g13_p3 a22 a30 a23 a31 S t0 t11 t500005_0 t500005_1 t500005_2 t500005_3 t500010_0 t500010_1 H gkR).bind k := by
  exact g13_p1_lin la22 la30 la23 la31 (fun _ _ _ _ _ _ _ _ _ => g13_p2_lin la22 la30 la23 la31 (fun _ _ _ _ => hkR _ _ _ _)) (fun _ _ _ _ => hkR _ _ _ _)
theorem g13_p3_eq (a22 : T22) (a30 : T30) (a23 : T23) (a31 : T31) (la22 : Lin22 a22) (la30 : Lin30 a30) (la23 : Lin23 a23) (la31 : Lin31 a31) {R : Type} (t0 : Option (Nat × Nat)) (t11 : Option (Nat × Nat)) (t500005_0 : Int) (t500005_1 : Bool) (t500005_2 : Int) (t500005_3 : Sl) (t500010_0 : Int) (t500010_1 : Int) (H : Heap) (K : Ex → Fr → Heap → Option R) : ev2 Try.prog (E13 a22 a30 a23 a31) loopLim lv13 Try.f13.ntmps kp13 c13_1 [(0, (V.p t0)), (11, (V.p t11)), (500005, (V.agg [(V.i .u32 t500005_0), (V.b t500005_1), (V.i .u8 t500005_2), (V.sl t500005_3)])), (500010, (V.agg [(V.i .u16 t500010_0), (V.i .u32 t500010_1)])), (1000005, (V.p (some (5, 0)))), (1000010, (V.p (some (10, 0))))] H K = g13_p3 a22 a30 a23 a31 R t0 t11 t500005_0 t500005_1 t500005_2 t500005_3 t500010_0 t500010_1 H (fun t6 t7 t8 H => K .ret [(6, (V.sl t6)), (7, (V.b t7)), (8, (V.i .i64 t8))] H) := by
  show ev2 Try.prog (E13 a22 a30 a23 a31) loopLim lv13 Try.f13.ntmps kp13 (.seq (.block 0 (.seq (codeAt [1, 1, 1, 1, 1, 1, 0, 0, 0] b13) (.cond (.tmp 32) (.seq (codeAt [1, 1, 1, 1, 1, 1, 0, 0, 1, 0, 0] b13) .ret) (.seq (codeAt [1, 1, 1, 1, 1, 1, 0, 0, 1, 1, 0] b13) (.cond (.tmp 52) (.seq (codeAt [1, 1, 1, 1, 1, 1, 0, 0, 1, 1, 1, 0, 0] b13) (.seq (codeAt [1, 1, 1, 1, 1, 1, 0, 0, 1, 1, 1, 0, 1, 0] b13) (codeAt [1, 1, 1, 1, 1, 1, 0, 0, 1, 1, 1, 0, 1, 1] b13))) (.seq (codeAt [1, 1, 1, 1, 1, 1, 0, 0, 1, 1, 1, 1, 0] b13) (.cond (.tmp 68) (.seq (codeAt [1, 1, 1, 1, 1, 1, 0, 0, 1, 1, 1, 1, 1, 0, 0] b13) (.seq (codeAt [1, 1, 1, 1, 1, 1, 0, 0, 1, 1, 1, 1, 1, 0, 1, 0] b13) .ret)) .skip))))))) c13_0) [(0, (V.p t0)), (11, (V.p t11)), (500005, (V.agg [(V.i .u32 t500005_0), (V.b t500005_1), (V.i .u8 t500005_2), (V.sl t500005_3)])), (500010, (V.agg [(V.i .u16 t500010_0), (V.i .u32 t500010_1)])), (1000005, (V.p (some (5, 0)))), (1000010, (V.p (some (10, 0))))] H K = _
  delta g13_p3
  exact (g13_p1_eq a22 a30 a23 a31 _ t0 t11 t500005_0 t500005_1 t500005_2 t500005_3 t500010_0 t500010_1 H K).trans (congr (congrArg (g13_p1 a22 a30 a23 a31 R t0 t11 t500005_0 t500005_1 t500005_2 t500005_3 t500010_0 t500010_1 H) (funext fun t0 => funext fun t11 => funext fun t500005_0 => funext fun t500005_1 => funext fun t500005_2 => funext fun t500005_3 => funext fun t500010_0 => funext fun t500010_1 => funext fun H => g13_p2_eq a22 a30 a23 a31 la22 la30 la23 la31 t0 t11 t500005_0 t500005_1 t500005_2 t500005_3 t500010_0 t500010_1 H K)) rfl)
noncomputable def g13_p4 (a22 : T22) (a30 : T30) (a23 : T23) (a31 : T31) (R : Type) (t0 : Option (Nat × Nat)) (t1 : Int) (t2_0 : Int) (t2_1 : Bool) (t2_2 : Int) (t2_3 : Sl) (H : Heap) (kR : Sl → Bool → Int → Heap → Option R) : Option R :=
  g13_p0 a22 a30 a23 a31 R t0 t1 t2_0 t2_1 t2_2 t2_3 H (fun t0 t11 t500005_0 t500005_1 t500005_2 t500005_3 t500010_0 t500010_1 H => g13_p3 a22 a30 a23 a31 R t0 t11 t500005_0 t500005_1 t500005_2 t500005_3 t500010_0 t500010_1 H (fun t6 t7 t8 H => kR t6 t7 t8 H)) (fun t6 t7 t8 H => kR t6 t7 t8 H)
theorem g13_p4_lin {a22 : T22} {a30 : T30} {a23 : T23} {a31 : T31} (la22 : Lin22 a22) (la30 : Lin30 a30) (la23 : Lin23 a23) (la31 : Lin31 a31) {R S : Type} {k : S → Option R} {t0 : Option (Nat × Nat)} {t1 : Int} {t2_0 : Int} {t2_1 : Bool} {t2_2 : Int} {t2_3 : Sl} {H : Heap} {fkR : Sl → Bool → Int → Heap → Option R} {gkR : Sl → Bool → Int → Heap → Option S} (hkR : ∀ t6 t7 t8 H, fkR t6 t7 t8 H = (gkR t6 t7 t8 H).bind k) : g13_p4 a22 a30 a23 a31 R t0 t1 t2_0 t2_1 t2_2 t2_3 H fkR = (g13_p4 a22 a30 a23 a31 S t0 t1 t2_0 t2_1 t2_2 t2_3 H gkR).bind k := by
  exact g13_p0_lin la22 la30 la23 la31 (fun _ _ _ _ _ _ _ _ _ => g13_p3_lin la22 la30 la23 la31 (fun _ _ _ _ => hkR _ _ _ _)) (fun _ _ _ _ => hkR _ _ _ _)
theorem g13_p4_eq (a22 : T22) (a30 : T30) (a23 : T23) (a31 : T31) (la22 : Lin22 a22) (la30 : Lin30 a30) (la23 : Lin23 a23) (la31 : Lin31 a31) {R : Type} (t0 : Option (Nat × Nat)) (t1 : Int) (t2_0 : Int) (t2_1 : Bool) (t2_2 : Int) (t2_3 : Sl) (H : Heap) (K : Ex → Fr → Heap → Option R) : ev2 Try.prog (E13 a22 a30 a23 a31) loopLim lv13 Try.f13.ntmps kp13 c13_2 [(0, (V.p t0)), (1, (V.i .u16 t1)), (2, (V.agg [(V.i .u32 t2_0), (V.b t2_1), (V.i .u8 t2_2), (V.sl t2_3)]))] H K = g13_p4 a22 a30 a23 a31 R t0 t1 t2_0 t2_1 t2_2 t2_3 H (fun t6 t7 t8 H => K .ret [(6, (V.sl t6)), (7, (V.b t7)), (8, (V.i .i64 t8))] H) := by
  show ev2 Try.prog (E13 a22 a30 a23 a31) loopLim lv13 Try.f13.ntmps kp13 (.seq (codeAt [0] b13) (.seq (codeAt [1, 0, 0] b13) (.seq (.cond (.tmp 14) (.seq (codeAt [1, 0, 1, 0, 0] b13) .ret) .skip) (.seq (codeAt [1, 1, 0, 0] b13) (.seq (.cond (.tmp 16) (.seq (codeAt [1, 1, 0, 1, 0, 0] b13) .ret) .skip) (.seq (codeAt [1, 1, 1, 0, 0] b13) (.seq (codeAt [1, 1, 1, 0, 1, 0] b13) (.seq (.cond (.tmp 20) (.seq (codeAt [1, 1, 1, 0, 1, 1, 0, 0] b13) .ret) .skip) (.seq (codeAt [1, 1, 1, 1, 0] b13) (.seq (codeAt [1, 1, 1, 1, 1, 0] b13) c13_1)))))))))) [(0, (V.p t0)), (1, (V.i .u16 t1)), (2, (V.agg [(V.i .u32 t2_0), (V.b t2_1), (V.i .u8 t2_2), (V.sl t2_3)]))] H K = _
  delta g13_p4
  exact (g13_p0_eq a22 a30 a23 a31 _ t0 t1 t2_0 t2_1 t2_2 t2_3 H K).trans (congr (congrArg (g13_p0 a22 a30 a23 a31 R t0 t1 t2_0 t2_1 t2_2 t2_3 H) (funext fun t0 => funext fun t11 => funext fun t500005_0 => funext fun t500005_1 => funext fun t500005_2 => funext fun t500005_3 => funext fun t500010_0 => funext fun t500010_1 => funext fun H => g13_p3_eq a22 a30 a23 a31 la22 la30 la23 la31 t0 t11 t500005_0 t500005_1 t500005_2 t500005_3 t500010_0 t500010_1 H K)) rfl)
noncomputable def g13_r (a22 : T22) (a30 : T30) (a23 : T23) (a31 : T31) : T13 := fun R t0 t1 t2_0 t2_1 t2_2 t2_3 H K =>
  g13_p4 a22 a30 a23 a31 R t0 t1 t2_0 t2_1 t2_2 t2_3 H (fun t6 t7 t8 H =>
    K t6 t7 t8 H)
theorem g13_r_lin {a22 : T22} {a30 : T30} {a23 : T23} {a31 : T31} (la22 : Lin22 a22) (la30 : Lin30 a30) (la23 : Lin23 a23) (la31 : Lin31 a31) : Lin13 (g13_r a22 a30 a23 a31) := by
  constructor
  intro R S k t0 t1 t2_0 t2_1 t2_2 t2_3 H f g h
  exact g13_p4_lin la22 la30 la23 la31 (fun t6 t7 t8 H =>
    h _ _ _ _)
theorem g13_fn (a22 : T22) (a30 : T30) (a23 : T23) (a31 : T31) (la22 : Lin22 a22) (la30 : Lin30 a30) (la23 : Lin23 a23) (la31 : Lin31 a31) {R : Type} (t0 : Option (Nat × Nat)) (t1 : Int) (t2_0 : Int) (t2_1 : Bool) (t2_2 : Int) (t2_3 : Sl) (H : Heap) (K : V → Heap → Option R) : evFn2 Try.prog (E13 a22 a30 a23 a31) loopLim lv13 Try.f13 kp13 [(V.p t0), (V.i .u16 t1), (V.agg [(V.i .u32 t2_0), (V.b t2_1), (V.i .u8 t2_2), (V.sl t2_3)])] H K = g13_r a22 a30 a23 a31 R t0 t1 t2_0 t2_1 t2_2 t2_3 H (fun r0 r1 r2 H => K (V.tup [(V.sl r0), (V.b r1), (V.i .i64 r2)]) H) := by
  have h0 : ∀ (t6 : Sl) (t7 : Bool) (t8 : Int) (H : Heap), kFn2 Try.prog Try.f13.results.toList K .ret [(6, (V.sl t6)), (7, (V.b t7)), (8, (V.i .i64 t8))] H =
      K (V.tup [(V.sl t6), (V.b t7), (V.i .i64 t8)]) H := by intros; kernel_rfl
  have e0 := evFn2_code2 (P := Try.prog) (c := c13_2) (E := (E13 a22 a30 a23 a31)) (lr := loopLim) (lv := lv13) (kp := kp13) (fn := Try.f13) (args := [(V.p t0), (V.i .u16 t1), (V.agg [(V.i .u32 t2_0), (V.b t2_1), (V.i .u8 t2_2), (V.sl t2_3)])]) H K (by kernel_rfl) (Nat.le_of_ble_eq_true (by kernel_rfl)) (by kernel_rfl) (by kernel_rfl)
  have e1 : ev2 Try.prog (E13 a22 a30 a23 a31) loopLim lv13 Try.f13.ntmps kp13 c13_2 (argFr 0 [(V.p t0), (V.i .u16 t1), (V.agg [(V.i .u32 t2_0), (V.b t2_1), (V.i .u8 t2_2), (V.sl t2_3)])]) H (kFn2 Try.prog Try.f13.results.toList K) = ev2 Try.prog (E13 a22 a30 a23 a31) loopLim lv13 Try.f13.ntmps kp13 c13_2 [(0, (V.p t0)), (1, (V.i .u16 t1)), (2, (V.agg [(V.i .u32 t2_0), (V.b t2_1), (V.i .u8 t2_2), (V.sl t2_3)]))] H (kFn2 Try.prog Try.f13.results.toList K) := by kernel_rfl
  refine (e0.trans e1).trans ?_
  delta g13_r
  exact (g13_p4_eq a22 a30 a23 a31 la22 la30 la23 la31 t0 t1 t2_0 t2_1 t2_2 t2_3 H (kFn2 Try.prog Try.f13.results.toList K)).trans (congrArg (g13_p4 a22 a30 a23 a31 R t0 t1 t2_0 t2_1 t2_2 t2_3 H) (funext fun t6 => funext fun t7 => funext fun t8 => funext fun H => h0 t6 t7 t8 H))
theorem g13_ok {a22 : T22} {a30 : T30} {a23 : T23} {a31 : T31} (oa22 : FunOK Try.prog 22 (w22 a22)) (oa30 : FunOK Try.prog 30 (w30 a30)) (oa23 : FunOK Try.prog 23 (w23 a23)) (oa31 : FunOK Try.prog 31 (w31 a31)) (la22 : Lin22 a22) (la30 : Lin30 a30) (la23 : Lin23 a23) (la31 : Lin31 a31) : FunOK Try.prog 13 (w13 (g13_r a22 a30 a23 a31)) := by
  refine (runF2_ok (E13_good oa22 oa30 oa23 oa31 la22 la30 la23 la31) mixed lim_ok Try.func13 (by kernel_rfl) lv13 kp13).of_le fun R args H K r hk => ?_
  unfold w13 at hk
  split at hk
  · exact (g13_fn a22 a30 a23 a31 la22 la30 la23 la31 _ _ _ _ _ _ H K).trans hk
  · cases hk
end Go.Proofs.Ytobebcfkddimkaa

