/- Printed: functions as the machine runs them. -/
import Derived.Test.YtobebcfkddimkaaGT
namespace Go.Proofs.Ytobebcfkddimkaa
open Go AM Go.RowKit
set_option linter.unusedVariables false
def kp8 : Nat → Option (List Nat) := kpOf [(0, [1, 2]), (1, [1, 2, 20]), (2, [4]), (3, [1, 2, 5, 6]), (4, [1, 2, 5, 6, 7]), (5, [1, 2, 5, 6, 7, 27]), (6, [1, 2, 5, 6, 7]), (7, [1, 2, 5, 6, 7, 31]), (8, [1, 2, 5, 6, 7]), (9, [1, 2, 5, 6, 47]), (10, [4]), (11, [1, 2, 5, 49]), (12, [1, 110]), (13, [4]), (14, [1, 8, 9]), (15, [1, 8, 9, 116]), (16, [4]), (17, [1, 8, 9, 137]), (18, [4]), (19, [1, 9, 10, 11]), (20, [4]), (100000, [1, 2, 5, 6, 7]), (100001, [1, 8, 9]), (200000, [1, 2, 5, 6, 7]), (200001, [1, 8, 9]), (300000, [4]), (400020, [1, 2]), (400027, [1, 2, 5, 6, 7]), (400031, [1, 2, 5, 6, 7]), (400047, [1, 2, 5, 6]), (400049, [1]), (400110, [1]), (400116, [1, 8, 9]), (400137, [1, 8, 9])]
def E8 (a9 : T9) (a19 : T19) (a20 : T20) : FEnv := [(9, w9 a9), (19, w19 a19), (20, w20 a20)]
theorem E8_good {a9 : T9} {a19 : T19} {a20 : T20} (oa9 : FunOK Try.prog 9 (w9 a9)) (oa19 : FunOK Try.prog 19 (w19 a19)) (oa20 : FunOK Try.prog 20 (w20 a20)) (la9 : Lin9 a9) (la19 : Lin19 a19) (la20 : Lin20 a20) : EnvGood Try.prog (E8 a9 a19 a20) := ((((EnvGood.nil _).cons oa20 (w20_lin la20)).cons oa19 (w19_lin la19)).cons oa9 (w9_lin la9))
theorem E8_lin {a9 : T9} {a19 : T19} {a20 : T20} (la9 : Lin9 a9) (la19 : Lin19 a19) (la20 : Lin20 a20) : EnvLin (E8 a9 a19 a20) := by
  intro g F h
  simp only [E8, List.mem_cons, List.not_mem_nil, or_false] at h
  rcases h with h | h | h
  · cases h; exact w9_lin la9
  · cases h; exact w19_lin la19
  · cases h; exact w20_lin la20
noncomputable def b8 : Code := Try.f8.body.getD .skip
noncomputable def c8_0 : Code := (.seq (codeAt [1, 1, 1, 1, 1, 1, 1, 0] b8) (.seq (.block 1 (.seq (codeAt [1, 1, 1, 1, 1, 1, 1, 1, 0, 0, 0] b8) (.cond (.tmp 116) (.seq (codeAt [1, 1, 1, 1, 1, 1, 1, 1, 0, 0, 1, 0, 0] b8) .ret) (.seq (codeAt [1, 1, 1, 1, 1, 1, 1, 1, 0, 0, 1, 1, 0] b8) (.cond (.tmp 137) (.seq (codeAt [1, 1, 1, 1, 1, 1, 1, 1, 0, 0, 1, 1, 1, 0, 0] b8) .ret) .skip))))) (.seq (codeAt [1, 1, 1, 1, 1, 1, 1, 1, 1, 0] b8) (.seq (codeAt [1, 1, 1, 1, 1, 1, 1, 1, 1, 1, 0] b8) .ret))))
noncomputable def c8_1 : Code := (.seq (.cond (.tmp 47) (.seq (codeAt [1, 1, 1, 1, 1, 0, 1, 0, 0] b8) .ret) .skip) (.seq (codeAt [1, 1, 1, 1, 1, 1, 0, 0] b8) (.seq (.cond (.tmp 49) (.seq (codeAt [1, 1, 1, 1, 1, 1, 0, 1, 0, 0] b8) (.cond (.tmp 110) (.seq (codeAt [1, 1, 1, 1, 1, 1, 0, 1, 0, 1, 0, 0] b8) .ret) .skip)) .skip) c8_0)))
noncomputable def c8_2 : Code := (.seq (codeAt [0] b8) (.seq (codeAt [1, 0, 0] b8) (.seq (.cond (.tmp 20) (.seq (codeAt [1, 0, 1, 0, 0] b8) .ret) .skip) (.seq (codeAt [1, 1, 0] b8) (.seq (codeAt [1, 1, 1, 0] b8) (.seq (.block 0 (.seq (codeAt [1, 1, 1, 1, 0, 0, 0] b8) (.cond (.tmp 27) (codeAt [1, 1, 1, 1, 0, 0, 1, 0] b8) (.seq (codeAt [1, 1, 1, 1, 0, 0, 1, 1, 0] b8) (.cond (.tmp 31) (codeAt [1, 1, 1, 1, 0, 0, 1, 1, 1, 0] b8) .skip))))) (.seq (codeAt [1, 1, 1, 1, 1, 0, 0] b8) c8_1)))))))
noncomputable def g8_p0 (a9 : T9) (a19 : T19) (a20 : T20) (R : Type) (t0_0 : Int) (t0_1 : Bool) (t0_2 : Int) (t0_3 : Sl) (t1 : Sl) (H : Heap) (kN : Sl → Nat → Nat → Sl → Int → Bool → Heap → Option R) (kR : Bool → Heap → Option R) : Option R :=
  alo H (.cells [(V.i .u32 t0_0), (V.b t0_1), (V.i .u8 t0_2), (V.sl t0_3)] 45 false) fun i565 h566 =>
  ((h566).ldSl i565 (0 + 3)).bind fun x567 =>
  sel (decide (((x567.len : Nat) : Int) > (300 : Int))) (
    a9 R h566 fun x568 h569 =>
    kR x568 h569) (
    sel (decide (((t1.len : Nat) : Int) > (300 : Int))) (
      a9 R h566 fun x570 h571 =>
      kR x570 h571) (
      ((h566).ldI .u32 i565 (0 + 0)).bind fun x572 =>
      ((h566).ldB i565 (0 + 1)).bind fun x573 =>
      ((h566).ldI .u8 i565 (0 + 2)).bind fun x574 =>
      ((h566).ldSl i565 (0 + 3)).bind fun x575 =>
      a19 R x572 x573 x574 x575 h566 fun x576 x577 h578 =>
      ((h578).ldI .u8 i565 (0 + 2)).bind fun x579 =>
      sel (decide (x579 > (15 : Int))) (
        sel (x577 != (1 : Int)) (
          kN t1 i565 0 x576 x577 true h578) (
          sel (x577 != (0 : Int)) (
            kN t1 i565 0 x576 x577 (decide (((x576.len : Nat) : Int) > (0 : Int))) h578) (
            kN t1 i565 0 x576 x577 false h578))) (
        ((h578).ldSl i565 (0 + 3)).bind fun x580 =>
        sel (decide (((x580.len : Nat) : Int) > (256 : Int))) (
          sel (x577 != (3 : Int)) (
            kN t1 i565 0 x576 x577 true h578) (
            sel (x577 != (0 : Int)) (
              kN t1 i565 0 x576 x577 (decide (((x576.len : Nat) : Int) > (0 : Int))) h578) (
              kN t1 i565 0 x576 x577 false h578))) (
          sel (x577 != (0 : Int)) (
            kN t1 i565 0 x576 x577 true h578) (
            sel (x577 != (0 : Int)) (
              kN t1 i565 0 x576 x577 (decide (((x576.len : Nat) : Int) > (0 : Int))) h578) (
              kN t1 i565 0 x576 x577 false h578))))))
theorem g8_p0_eq (a9 : T9) (a19 : T19) (a20 : T20) {R : Type} (c2 : Code) (t0_0 : Int) (t0_1 : Bool) (t0_2 : Int) (t0_3 : Sl) (t1 : Sl) (H : Heap) (K : Ex → Fr → Heap → Option R) : ev Try.prog (E8 a9 a19 a20) loopLim Try.f8.ntmps kp8 (.seq (codeAt [0] b8) (.seq (codeAt [1, 0, 0] b8) (.seq (.cond (.tmp 20) (.seq (codeAt [1, 0, 1, 0, 0] b8) .ret) .skip) (.seq (codeAt [1, 1, 0] b8) (.seq (codeAt [1, 1, 1, 0] b8) (.seq (.block 0 (.seq (codeAt [1, 1, 1, 1, 0, 0, 0] b8) (.cond (.tmp 27) (codeAt [1, 1, 1, 1, 0, 0, 1, 0] b8) (.seq (codeAt [1, 1, 1, 1, 0, 0, 1, 1, 0] b8) (.cond (.tmp 31) (codeAt [1, 1, 1, 1, 0, 0, 1, 1, 1, 0] b8) .skip))))) (.seq (codeAt [1, 1, 1, 1, 1, 0, 0] b8) c2))))))) [(0, (V.agg [(V.i .u32 t0_0), (V.b t0_1), (V.i .u8 t0_2), (V.sl t0_3)])), (1, (V.sl t1))] H K = g8_p0 a9 a19 a20 R t0_0 t0_1 t0_2 t0_3 t1 H (fun t1 t2_0 t2_1 t5 t6 t47 H => ev Try.prog (E8 a9 a19 a20) loopLim Try.f8.ntmps kp8 c2 [(1, (V.sl t1)), (2, (V.p (some (t2_0, t2_1)))), (5, (V.sl t5)), (6, (V.i .i64 t6)), (47, (V.b t47))] H K) (fun t4 H => K .ret [(4, (V.b t4))] H) := by kernel_rfl
theorem g8_p0_lin {a9 : T9} {a19 : T19} {a20 : T20} (la9 : Lin9 a9) (la19 : Lin19 a19) (la20 : Lin20 a20) {R S : Type} {k : S → Option R} {t0_0 : Int} {t0_1 : Bool} {t0_2 : Int} {t0_3 : Sl} {t1 : Sl} {H : Heap} {fkN : Sl → Nat → Nat → Sl → Int → Bool → Heap → Option R} {gkN : Sl → Nat → Nat → Sl → Int → Bool → Heap → Option S} {fkR : Bool → Heap → Option R} {gkR : Bool → Heap → Option S} (hkN : ∀ t1 t2_0 t2_1 t5 t6 t47 H, fkN t1 t2_0 t2_1 t5 t6 t47 H = (gkN t1 t2_0 t2_1 t5 t6 t47 H).bind k) (hkR : ∀ t4 H, fkR t4 H = (gkR t4 H).bind k) : g8_p0 a9 a19 a20 R t0_0 t0_1 t0_2 t0_3 t1 H fkN fkR = (g8_p0 a9 a19 a20 S t0_0 t0_1 t0_2 t0_3 t1 H gkN gkR).bind k := by
  delta g8_p0; exact (
    alo_lin fun i565 h566 =>
    bl fun x567 =>
    sl_lin (
      la9.l fun x568 h569 =>
      hkR _ _) (
      sl_lin (
        la9.l fun x570 h571 =>
        hkR _ _) (
        bl fun x572 =>
        bl fun x573 =>
        bl fun x574 =>
        bl fun x575 =>
        la19.l fun x576 x577 h578 =>
        bl fun x579 =>
        sl_lin (
          sl_lin (
            hkN _ _ _ _ _ _ _) (
            sl_lin (
              hkN _ _ _ _ _ _ _) (
              hkN _ _ _ _ _ _ _))) (
          bl fun x580 =>
          sl_lin (
            sl_lin (
              hkN _ _ _ _ _ _ _) (
              sl_lin (
                hkN _ _ _ _ _ _ _) (
                hkN _ _ _ _ _ _ _))) (
            sl_lin (
              hkN _ _ _ _ _ _ _) (
              sl_lin (
                hkN _ _ _ _ _ _ _) (
                hkN _ _ _ _ _ _ _)))))))
noncomputable def g8_p1 (a9 : T9) (a19 : T19) (a20 : T20) (R : Type) (t1 : Sl) (t2_0 : Nat) (t2_1 : Nat) (t5 : Sl) (t6 : Int) (t47 : Bool) (H : Heap) (kN : Sl → Heap → Option R) (kR : Bool → Heap → Option R) : Option R :=
  sel t47 (
    kR false H) (
    sel (t6 == (0 : Int)) (
      ((H).ldSl t2_0 (t2_1 + 3)).bind fun x663 =>
      sel (((t5.len : Nat) : Int) != (IntKind.wrap .i64 ((5 : Int) + ((x663.len : Nat) : Int)))) (
        kR false H) (
        if 0 ≤ (0 : Int) ∧ (0 : Int) < ((t5.len : Nat) : Int) then (
          (t5.a).bind fun q664 =>
          ((H).ldI .u8 q664.1 (q664.2 + Int.toNat (0 : Int) * 1)).bind fun x665 =>
          if 0 ≤ (1 : Int) ∧ (1 : Int) < ((t5.len : Nat) : Int) then (
            (t5.a).bind fun q666 =>
            ((H).ldI .u8 q666.1 (q666.2 + Int.toNat (1 : Int) * 1)).bind fun x667 =>
            if 0 ≤ (2 : Int) ∧ (2 : Int) < ((t5.len : Nat) : Int) then (
              (t5.a).bind fun q668 =>
              ((H).ldI .u8 q668.1 (q668.2 + Int.toNat (2 : Int) * 1)).bind fun x669 =>
              if 0 ≤ (3 : Int) ∧ (3 : Int) < ((t5.len : Nat) : Int) then (
                (t5.a).bind fun q670 =>
                ((H).ldI .u8 q670.1 (q670.2 + Int.toNat (3 : Int) * 1)).bind fun x671 =>
                ((H).ldI .u32 t2_0 (t2_1 + 0)).bind fun x672 =>
                sel ((IntKind.wrap .u32 ((IntKind.wrap .u32 ((IntKind.wrap .u32 ((IntKind.wrap .u32 x665) + (IntKind.wrap .u32 ((256 : Int) * (IntKind.wrap .u32 x667))))) + (IntKind.wrap .u32 ((65536 : Int) * (IntKind.wrap .u32 x669))))) + (IntKind.wrap .u32 ((16777216 : Int) * (IntKind.wrap .u32 x671))))) != x672) (
                  kR false H) (
                  if 0 ≤ (4 : Int) ∧ (4 : Int) < ((t5.len : Nat) : Int) then (
                    (t5.a).bind fun q673 =>
                    ((H).ldI .u8 q673.1 (q673.2 + Int.toNat (4 : Int) * 1)).bind fun x674 =>
                    ((H).ldI .u8 t2_0 (t2_1 + 2)).bind fun x675 =>
                    sel ((Int.tmod x674 (128 : Int)) != x675) (
                      kR false H) (
                      if 0 ≤ (4 : Int) ∧ (4 : Int) < ((t5.len : Nat) : Int) then (
                        (t5.a).bind fun q676 =>
                        ((H).ldI .u8 q676.1 (q676.2 + Int.toNat (4 : Int) * 1)).bind fun x677 =>
                        ((H).ldB t2_0 (t2_1 + 1)).bind fun x678 =>
                        sel (!((decide (x677 ≥ (128 : Int))) == x678)) (
                          kR false H) (
                          slOf 1 t5 (some (5 : Int)) none none fun s679 =>
                          ((slBytes H s679)).bind fun x680 =>
                          ((H).ldSl t2_0 (t2_1 + 3)).bind fun x681 =>
                          ((slBytes H x681)).bind fun x682 =>
                          sel (!strEq x680 x682) (
                            kR false H) (
                            kN t1 H)))
                      else (
                        none)))
                  else (
                    none)))
              else (
                none))
            else (
              none))
          else (
            none))
        else (
          none))) (
      kN t1 H))
theorem g8_p1_eq (a9 : T9) (a19 : T19) (a20 : T20) {R : Type} (c2 : Code) (t1 : Sl) (t2_0 : Nat) (t2_1 : Nat) (t5 : Sl) (t6 : Int) (t47 : Bool) (H : Heap) (K : Ex → Fr → Heap → Option R) : ev Try.prog (E8 a9 a19 a20) loopLim Try.f8.ntmps kp8 (.seq (.cond (.tmp 47) (.seq (codeAt [1, 1, 1, 1, 1, 0, 1, 0, 0] b8) .ret) .skip) (.seq (codeAt [1, 1, 1, 1, 1, 1, 0, 0] b8) (.seq (.cond (.tmp 49) (.seq (codeAt [1, 1, 1, 1, 1, 1, 0, 1, 0, 0] b8) (.cond (.tmp 110) (.seq (codeAt [1, 1, 1, 1, 1, 1, 0, 1, 0, 1, 0, 0] b8) .ret) .skip)) .skip) c2))) [(1, (V.sl t1)), (2, (V.p (some (t2_0, t2_1)))), (5, (V.sl t5)), (6, (V.i .i64 t6)), (47, (V.b t47))] H K = g8_p1 a9 a19 a20 R t1 t2_0 t2_1 t5 t6 t47 H (fun t1 H => ev Try.prog (E8 a9 a19 a20) loopLim Try.f8.ntmps kp8 c2 [(1, (V.sl t1))] H K) (fun t4 H => K .ret [(4, (V.b t4))] H) := by kernel_rfl
theorem g8_p1_lin {a9 : T9} {a19 : T19} {a20 : T20} (la9 : Lin9 a9) (la19 : Lin19 a19) (la20 : Lin20 a20) {R S : Type} {k : S → Option R} {t1 : Sl} {t2_0 : Nat} {t2_1 : Nat} {t5 : Sl} {t6 : Int} {t47 : Bool} {H : Heap} {fkN : Sl → Heap → Option R} {gkN : Sl → Heap → Option S} {fkR : Bool → Heap → Option R} {gkR : Bool → Heap → Option S} (hkN : ∀ t1 H, fkN t1 H = (gkN t1 H).bind k) (hkR : ∀ t4 H, fkR t4 H = (gkR t4 H).bind k) : g8_p1 a9 a19 a20 R t1 t2_0 t2_1 t5 t6 t47 H fkN fkR = (g8_p1 a9 a19 a20 S t1 t2_0 t2_1 t5 t6 t47 H gkN gkR).bind k := by
  delta g8_p1; exact (
    sl_lin (
      hkR _ _) (
      sl_lin (
        bl fun x663 =>
        sl_lin (
          hkR _ _) (
          il (
            bl fun q664 =>
            bl fun x665 =>
            il (
              bl fun q666 =>
              bl fun x667 =>
              il (
                bl fun q668 =>
                bl fun x669 =>
                il (
                  bl fun q670 =>
                  bl fun x671 =>
                  bl fun x672 =>
                  sl_lin (
                    hkR _ _) (
                    il (
                      bl fun q673 =>
                      bl fun x674 =>
                      bl fun x675 =>
                      sl_lin (
                        hkR _ _) (
                        il (
                          bl fun q676 =>
                          bl fun x677 =>
                          bl fun x678 =>
                          sl_lin (
                            hkR _ _) (
                            slOf_lin fun s679 =>
                            bl fun x680 =>
                            bl fun x681 =>
                            bl fun x682 =>
                            sl_lin (
                              hkR _ _) (
                              hkN _ _))) (
                          rfl))) (
                      rfl))) (
                  rfl)) (
                rfl)) (
              rfl)) (
            rfl))) (
        hkN _ _)))
noncomputable def g8_p2 (a9 : T9) (a19 : T19) (a20 : T20) (R : Type) (t1 : Sl) (H : Heap) (kR : Bool → Heap → Option R) : Option R :=
  a20 R t1 H fun x683 x684 x685 x686 x687 h688 =>
  alo h688 (.cells [(V.i .u32 (0 : Int)), (V.b false), (V.i .u8 (0 : Int)), (V.sl (Sl.mk none 0 (.ex 0)))] 45 false) fun i689 h690 =>
  ((h690).sts i689 0 [(V.i .u32 x683), (V.b x684), (V.i .u8 x685), (V.sl x686)]).bind fun h691 =>
  sel (decide (((t1.len : Nat) : Int) < (5 : Int))) (
    sel (x687 == (4 : Int)) (
      ((h691).ldI .u32 i689 (0 + 0)).bind fun x692 =>
      sel (x692 == (0 : Int)) (
        a9 R h691 fun x693 h694 =>
        kR x693 h694) (
        kR false h691)) (
      kR false h691)) (
    if 0 ≤ (4 : Int) ∧ (4 : Int) < ((t1.len : Nat) : Int) then (
      (t1.a).bind fun q695 =>
      ((h691).ldI .u8 q695.1 (q695.2 + Int.toNat (4 : Int) * 1)).bind fun x696 =>
      sel (decide ((Int.tmod x696 (128 : Int)) > (15 : Int))) (
        sel (x687 == (4 : Int)) (
          ((h691).ldI .u32 i689 (0 + 0)).bind fun x697 =>
          sel (x697 == (0 : Int)) (
            a9 R h691 fun x698 h699 =>
            kR x698 h699) (
            kR false h691)) (
          kR false h691)) (
        sel (decide (((t1.len : Nat) : Int) > (261 : Int))) (
          sel (x687 == (3 : Int)) (
            ((h691).ldI .u32 i689 (0 + 0)).bind fun x700 =>
            sel (x700 == (0 : Int)) (
              a9 R h691 fun x701 h702 =>
              kR x701 h702) (
              kR false h691)) (
            kR false h691)) (
          ((h691).ldI .u32 i689 (0 + 0)).bind fun x703 =>
          ((h691).ldB i689 (0 + 1)).bind fun x704 =>
          ((h691).ldI .u8 i689 (0 + 2)).bind fun x705 =>
          ((h691).ldSl i689 (0 + 3)).bind fun x706 =>
          a19 R x703 x704 x705 x706 h691 fun x707 x708 h709 =>
          sel (x687 == (0 : Int)) (
            sel (x708 == (0 : Int)) (
              ((slBytes h709 x707)).bind fun x710 =>
              ((slBytes h709 t1)).bind fun x711 =>
              sel (strEq x710 x711) (
                a9 R h709 fun x712 h713 =>
                kR x712 h713) (
                kR false h709)) (
              kR false h709)) (
            kR false h709))))
    else (
      none))
theorem g8_p2_eq (a9 : T9) (a19 : T19) (a20 : T20) (la9 : Lin9 a9) (la19 : Lin19 a19) (la20 : Lin20 a20) {R : Type} (t1 : Sl) (H : Heap) (K : Ex → Fr → Heap → Option R) : ev Try.prog (E8 a9 a19 a20) loopLim Try.f8.ntmps kp8 c8_0 [(1, (V.sl t1))] H K = g8_p2 a9 a19 a20 R t1 H (fun t4 H => K .ret [(4, (V.b t4))] H) := by kernel_rfl
theorem g8_p2_lin {a9 : T9} {a19 : T19} {a20 : T20} (la9 : Lin9 a9) (la19 : Lin19 a19) (la20 : Lin20 a20) {R S : Type} {k : S → Option R} {t1 : Sl} {H : Heap} {fkR : Bool → Heap → Option R} {gkR : Bool → Heap → Option S} (hkR : ∀ t4 H, fkR t4 H = (gkR t4 H).bind k) : g8_p2 a9 a19 a20 R t1 H fkR = (g8_p2 a9 a19 a20 S t1 H gkR).bind k := by
  delta g8_p2; exact (
    la20.l fun x683 x684 x685 x686 x687 h688 =>
    alo_lin fun i689 h690 =>
    bl fun h691 =>
    sl_lin (
      sl_lin (
        bl fun x692 =>
        sl_lin (
          la9.l fun x693 h694 =>
          hkR _ _) (
          hkR _ _)) (
        hkR _ _)) (
      il (
        bl fun q695 =>
        bl fun x696 =>
        sl_lin (
          sl_lin (
            bl fun x697 =>
            sl_lin (
              la9.l fun x698 h699 =>
              hkR _ _) (
              hkR _ _)) (
            hkR _ _)) (
          sl_lin (
            sl_lin (
              bl fun x700 =>
              sl_lin (
                la9.l fun x701 h702 =>
                hkR _ _) (
                hkR _ _)) (
              hkR _ _)) (
            bl fun x703 =>
            bl fun x704 =>
            bl fun x705 =>
            bl fun x706 =>
            la19.l fun x707 x708 h709 =>
            sl_lin (
              sl_lin (
                bl fun x710 =>
                bl fun x711 =>
                sl_lin (
                  la9.l fun x712 h713 =>
                  hkR _ _) (
                  hkR _ _)) (
                hkR _ _)) (
              hkR _ _)))) (
        rfl)))
noncomputable def g8_p3 (a9 : T9) (a19 : T19) (a20 : T20) (R : Type) (t1 : Sl) (t2_0 : Nat) (t2_1 : Nat) (t5 : Sl) (t6 : Int) (t47 : Bool) (H : Heap) (kR : Bool → Heap → Option R) : Option R :=
  g8_p1 a9 a19 a20 R t1 t2_0 t2_1 t5 t6 t47 H (fun t1 H => g8_p2 a9 a19 a20 R t1 H (fun t4 H => kR t4 H)) (fun t4 H => kR t4 H)
theorem g8_p3_lin {a9 : T9} {a19 : T19} {a20 : T20} (la9 : Lin9 a9) (la19 : Lin19 a19) (la20 : Lin20 a20) {R S : Type} {k : S → Option R} {t1 : Sl} {t2_0 : Nat} {t2_1 : Nat} {t5 : Sl} {t6 : Int} {t47 : Bool} {H : Heap} {fkR : Bool → Heap → Option R} {gkR : Bool → Heap → Option S} (hkR : ∀ t4 H, fkR t4 H = (gkR t4 H).bind k) : g8_p3 a9 a19 a20 R t1 t2_0 t2_1 t5 t6 t47 H fkR = (g8_p3 a9 a19 a20 S t1 t2_0 t2_1 t5 t6 t47 H gkR).bind k := by
  exact g8_p1_lin la9 la19 la20 (fun _ _ => g8_p2_lin la9 la19 la20 (fun _ _ => hkR _ _)) (fun _ _ => hkR _ _)
theorem g8_p3_eq (a9 : T9) (a19 : T19) (a20 : T20) (la9 : Lin9 a9) (la19 : Lin19 a19) (la20 : Lin20 a20) {R : Type} (t1 : Sl) (t2_0 : Nat) (t2_1 : Nat) (t5 : Sl) (t6 : Int) (t47 : Bool) (H : Heap) (K : Ex → Fr → Heap → Option R) : ev Try.prog (E8 a9 a19 a20) loopLim Try.f8.ntmps kp8 c8_1 [(1, (V.sl t1)), (2, (V.p (some (t2_0, t2_1)))), (5, (V.sl t5)), (6, (V.i .i64 t6)), (47, (V.b t47))] H K = g8_p3 a9 a19 a20 R t1 t2_0 t2_1 t5 t6 t47 H (fun t4 H => K .ret [(4, (V.b t4))] H) := by
  show ev Try.prog (E8 a9 a19 a20) loopLim Try.f8.ntmps kp8 (.seq (.cond (.tmp 47) (.seq (codeAt [1, 1, 1, 1, 1, 0, 1, 0, 0] b8) .ret) .skip) (.seq (codeAt [1, 1, 1, 1, 1, 1, 0, 0] b8) (.seq (.cond (.tmp 49) (.seq (codeAt [1, 1, 1, 1, 1, 1, 0, 1, 0, 0] b8) (.cond (.tmp 110) (.seq (codeAt [1, 1, 1, 1, 1, 1, 0, 1, 0, 1, 0, 0] b8) .ret) .skip)) .skip) c8_0))) [(1, (V.sl t1)), (2, (V.p (some (t2_0, t2_1)))), (5, (V.sl t5)), (6, (V.i .i64 t6)), (47, (V.b t47))] H K = _
  delta g8_p3
  exact (g8_p1_eq a9 a19 a20 _ t1 t2_0 t2_1 t5 t6 t47 H K).trans (congr (congrArg (g8_p1 a9 a19 a20 R t1 t2_0 t2_1 t5 t6 t47 H) (funext fun t1 => funext fun H => g8_p2_eq a9 a19 a20 la9 la19 la20 t1 H K)) rfl)
noncomputable def g8_p4 (a9 : T9) (a19 : T19) (a20 : T20) (R : Type) (t0_0 : Int) (t0_1 : Bool) (t0_2 : Int) (t0_3 : Sl) (t1 : Sl) (H : Heap) (kR : Bool → Heap → Option R) : Option R :=
  g8_p0 a9 a19 a20 R t0_0 t0_1 t0_2 t0_3 t1 H (fun t1 t2_0 t2_1 t5 t6 t47 H => g8_p3 a9 a19 a20 R t1 t2_0 t2_1 t5 t6 t47 H (fun t4 H => kR t4 H)) (fun t4 H => kR t4 H)
theorem g8_p4_lin {a9 : T9} {a19 : T19} {a20 : T20} (la9 : Lin9 a9) (la19 : Lin19 a19) (la20 : Lin20 a20) {R S : Type} {k : S → Option R} {t0_0 : Int} {t0_1 : Bool} {t0_2 : Int} {t0_3 : Sl} {t1 : Sl} {H : Heap} {fkR : Bool → Heap → Option R} {gkR : Bool → Heap → Option S} (hkR : ∀ t4 H, fkR t4 H = (gkR t4 H).bind k) : g8_p4 a9 a19 a20 R t0_0 t0_1 t0_2 t0_3 t1 H fkR = (g8_p4 a9 a19 a20 S t0_0 t0_1 t0_2 t0_3 t1 H gkR).bind k := by
  exact g8_p0_lin la9 la19 la20 (fun _ _ _ _ _ _ _ => g8_p3_lin la9 la19 la20 (fun _ _ => hkR _ _)) (fun _ _ => hkR _ _)
theorem g8_p4_eq (a9 : T9) (a19 : T19) (a20 : T20) (la9 : Lin9 a9) (la19 : Lin19 a19) (la20 : Lin20 a20) {R : Type} (t0_0 : Int) (t0_1 : Bool) (t0_2 : Int) (t0_3 : Sl) (t1 : Sl) (H : Heap) (K : Ex → Fr → Heap → Option R) : ev Try.prog (E8 a9 a19 a20) loopLim Try.f8.ntmps kp8 c8_2 [(0, (V.agg [(V.i .u32 t0_0), (V.b t0_1), (V.i .u8 t0_2), (V.sl t0_3)])), (1, (V.sl t1))] H K = g8_p4 a9 a19 a20 R t0_0 t0_1 t0_2 t0_3 t1 H (fun t4 H => K .ret [(4, (V.b t4))] H) := by
  show ev Try.prog (E8 a9 a19 a20) loopLim Try.f8.ntmps kp8 (.seq (codeAt [0] b8) (.seq (codeAt [1, 0, 0] b8) (.seq (.cond (.tmp 20) (.seq (codeAt [1, 0, 1, 0, 0] b8) .ret) .skip) (.seq (codeAt [1, 1, 0] b8) (.seq (codeAt [1, 1, 1, 0] b8) (.seq (.block 0 (.seq (codeAt [1, 1, 1, 1, 0, 0, 0] b8) (.cond (.tmp 27) (codeAt [1, 1, 1, 1, 0, 0, 1, 0] b8) (.seq (codeAt [1, 1, 1, 1, 0, 0, 1, 1, 0] b8) (.cond (.tmp 31) (codeAt [1, 1, 1, 1, 0, 0, 1, 1, 1, 0] b8) .skip))))) (.seq (codeAt [1, 1, 1, 1, 1, 0, 0] b8) c8_1))))))) [(0, (V.agg [(V.i .u32 t0_0), (V.b t0_1), (V.i .u8 t0_2), (V.sl t0_3)])), (1, (V.sl t1))] H K = _
  delta g8_p4
  exact (g8_p0_eq a9 a19 a20 _ t0_0 t0_1 t0_2 t0_3 t1 H K).trans (congr (congrArg (g8_p0 a9 a19 a20 R t0_0 t0_1 t0_2 t0_3 t1 H) (funext fun t1 => funext fun t2_0 => funext fun t2_1 => funext fun t5 => funext fun t6 => funext fun t47 => funext fun H => g8_p3_eq a9 a19 a20 la9 la19 la20 t1 t2_0 t2_1 t5 t6 t47 H K)) rfl)
noncomputable def g8_r (a9 : T9) (a19 : T19) (a20 : T20) : T8 := fun R t0_0 t0_1 t0_2 t0_3 t1 H K =>
  g8_p4 a9 a19 a20 R t0_0 t0_1 t0_2 t0_3 t1 H (fun t4 H =>
    K t4 H)
theorem g8_r_lin {a9 : T9} {a19 : T19} {a20 : T20} (la9 : Lin9 a9) (la19 : Lin19 a19) (la20 : Lin20 a20) : Lin8 (g8_r a9 a19 a20) := by
  constructor
  intro R S k t0_0 t0_1 t0_2 t0_3 t1 H f g h
  exact g8_p4_lin la9 la19 la20 (fun t4 H =>
    h _ _)
theorem g8_fn (a9 : T9) (a19 : T19) (a20 : T20) (la9 : Lin9 a9) (la19 : Lin19 a19) (la20 : Lin20 a20) {R : Type} (t0_0 : Int) (t0_1 : Bool) (t0_2 : Int) (t0_3 : Sl) (t1 : Sl) (H : Heap) (K : V → Heap → Option R) : evFn Try.prog (E8 a9 a19 a20) loopLim Try.f8 kp8 [(V.agg [(V.i .u32 t0_0), (V.b t0_1), (V.i .u8 t0_2), (V.sl t0_3)]), (V.sl t1)] H K = g8_r a9 a19 a20 R t0_0 t0_1 t0_2 t0_3 t1 H (fun r0 H => K (V.b r0) H) := by
  have h0 : ∀ (t4 : Bool) (H : Heap), kFn Try.prog Try.f8.results.toList K .ret [(4, (V.b t4))] H =
      K (V.b t4) H := by intros; kernel_rfl
  have e0 := evFn_code2 (P := Try.prog) (c := c8_2) (E := (E8 a9 a19 a20)) (lr := loopLim) (kp := kp8) (fn := Try.f8) (args := [(V.agg [(V.i .u32 t0_0), (V.b t0_1), (V.i .u8 t0_2), (V.sl t0_3)]), (V.sl t1)]) H K (by kernel_rfl) (Nat.le_of_ble_eq_true (by kernel_rfl)) (by kernel_rfl)
  have e1 : ev Try.prog (E8 a9 a19 a20) loopLim Try.f8.ntmps kp8 c8_2 (argFr 0 [(V.agg [(V.i .u32 t0_0), (V.b t0_1), (V.i .u8 t0_2), (V.sl t0_3)]), (V.sl t1)]) H (kFn Try.prog Try.f8.results.toList K) = ev Try.prog (E8 a9 a19 a20) loopLim Try.f8.ntmps kp8 c8_2 [(0, (V.agg [(V.i .u32 t0_0), (V.b t0_1), (V.i .u8 t0_2), (V.sl t0_3)])), (1, (V.sl t1))] H (kFn Try.prog Try.f8.results.toList K) := by kernel_rfl
  refine (e0.trans e1).trans ?_
  delta g8_r
  exact (g8_p4_eq a9 a19 a20 la9 la19 la20 t0_0 t0_1 t0_2 t0_3 t1 H (kFn Try.prog Try.f8.results.toList K)).trans (congrArg (g8_p4 a9 a19 a20 R t0_0 t0_1 t0_2 t0_3 t1 H) (funext fun t4 => funext fun H => h0 t4 H))
theorem g8_ok {a9 : T9} {a19 : T19} {a20 : T20} (oa9 : FunOK Try.prog 9 (w9 a9)) (oa19 : FunOK Try.prog 19 (w19 a19)) (oa20 : FunOK Try.prog 20 (w20 a20)) (la9 : Lin9 a9) (la19 : Lin19 a19) (la20 : Lin20 a20) : FunOK Try.prog 8 (w8 (g8_r a9 a19 a20)) := by
  refine (runF_ok (E8_good oa9 oa19 oa20 la9 la19 la20) mixed lim_ok Try.func8 (by kernel_rfl) kp8).of_le fun R args H K r hk => ?_
  unfold w8 at hk
  split at hk
  · exact (g8_fn a9 a19 a20 la9 la19 la20 _ _ _ _ _ H K).trans hk
  · cases hk
end Go.Proofs.Ytobebcfkddimkaa

