/- Printed: functions as the machine runs them. -/
import Derived.Test.YtnlfkllnmobppaaGT
namespace Go.Proofs.Ytnlfkllnmobppaa
open Go AM Go.RowKit
set_option linter.unusedVariables false
def kp12 : Nat → Option (List Nat) := kpOf [(0, [1]), (1, [1, 10]), (2, [2]), (3, [1, 38]), (4, [2]), (5, [1, 3, 4]), (6, [1, 3, 4, 5]), (7, [1, 3, 4, 5, 50]), (8, [1, 3, 4, 5]), (9, [1, 3, 4, 6]), (10, [6]), (11, [135]), (12, [2]), (13, [2]), (300000, [2]), (400010, [1]), (400038, [1]), (400050, [1, 3, 4, 5]), (400135, [])]
def E12 : FEnv := []
theorem E12_good : EnvGood Try.prog E12 := (EnvGood.nil _)
theorem E12_lin : EnvLin E12 := fun g F h => by cases h
noncomputable def b12 : Code := Try.f12.body.getD .skip
noncomputable def c12_0 : Code := (codeAt [1, 1, 1, 1, 1, 1, 1, 0] b12)
noncomputable def c12_1 : Code := (.seq (codeAt [1, 1, 1, 1, 1, 1, 1, 1, 0, 0] b12) (.seq (.cond (.tmp 135) (.seq (codeAt [1, 1, 1, 1, 1, 1, 1, 1, 0, 1, 0, 0] b12) .ret) .skip) (.seq (codeAt [1, 1, 1, 1, 1, 1, 1, 1, 1, 0] b12) .ret)))
noncomputable def c12_2 : Code := (.seq c12_0 c12_1)
noncomputable def c12_3 : Code := (.seq (.cond (.tmp 38) (.seq (codeAt [1, 1, 0, 1, 0, 0] b12) .ret) .skip) (.seq (codeAt [1, 1, 1, 0] b12) (.seq (codeAt [1, 1, 1, 1, 0] b12) (.seq (codeAt [1, 1, 1, 1, 1, 0, 0] b12) (.seq (.cond (.tmp 50) (codeAt [1, 1, 1, 1, 1, 0, 1, 0] b12) .skip) (.seq (codeAt [1, 1, 1, 1, 1, 1, 0] b12) c12_2))))))
noncomputable def c12_4 : Code := (.seq (codeAt [0] b12) (.seq (codeAt [1, 0, 0] b12) (.seq (.cond (.tmp 10) (.seq (codeAt [1, 0, 1, 0, 0] b12) .ret) .skip) (.seq (codeAt [1, 1, 0, 0] b12) c12_3))))
noncomputable def g12_p0 (R : Type) (t0_0 : Int) (t0_1 : Int) (t0_2 : Int) (t0_3 : Int) (t0_4 : Int) (t0_5 : Int) (t0_6 : Int) (t0_7 : Sl) (H : Heap) (kN : Nat → Nat → Bool → Heap → Option R) (kR : Int → Heap → Option R) : Option R :=
  alo H (.cells [(V.i .u8 t0_0), (V.i .u32 t0_1), (V.i .u32 t0_2), (V.i .u8 t0_3), (V.i .u8 t0_4), (V.i .u8 t0_5), (V.i .u8 t0_6), (V.sl t0_7)] 26 false) fun i231 h232 =>
  ((h232).ldSl i231 (0 + 7)).bind fun x233 =>
  sel (decide (((x233.len : Nat) : Int) > (200 : Int))) (
    kR (3 : Int) h232) (
    ((h232).ldI .u8 i231 (0 + 0)).bind fun x234 =>
    sel (decide (x234 < (1 : Int))) (
      kN i231 0 true h232) (
      ((h232).ldI .u8 i231 (0 + 0)).bind fun x235 =>
      sel (decide (x235 > (8 : Int))) (
        kN i231 0 true h232) (
        ((h232).ldI .u32 i231 (0 + 1)).bind fun x236 =>
        sel (decide (x236 > (8191 : Int))) (
          kN i231 0 true h232) (
          ((h232).ldI .u32 i231 (0 + 2)).bind fun x237 =>
          sel (decide (x237 > (8191 : Int))) (
            kN i231 0 true h232) (
            ((h232).ldI .u8 i231 (0 + 4)).bind fun x238 =>
            sel (decide (x238 ≥ (128 : Int))) (
              kN i231 0 true h232) (
              ((h232).ldI .u8 i231 (0 + 5)).bind fun x239 =>
              kN i231 0 (decide (x239 ≥ (128 : Int))) h232))))))
theorem g12_p0_eq {R : Type} (c2 : Code) (t0_0 : Int) (t0_1 : Int) (t0_2 : Int) (t0_3 : Int) (t0_4 : Int) (t0_5 : Int) (t0_6 : Int) (t0_7 : Sl) (H : Heap) (K : Ex → Fr → Heap → Option R) : ev Try.prog E12 loopLim Try.f12.ntmps kp12 (.seq (codeAt [0] b12) (.seq (codeAt [1, 0, 0] b12) (.seq (.cond (.tmp 10) (.seq (codeAt [1, 0, 1, 0, 0] b12) .ret) .skip) (.seq (codeAt [1, 1, 0, 0] b12) c2)))) [(0, (V.agg [(V.i .u8 t0_0), (V.i .u32 t0_1), (V.i .u32 t0_2), (V.i .u8 t0_3), (V.i .u8 t0_4), (V.i .u8 t0_5), (V.i .u8 t0_6), (V.sl t0_7)]))] H K = g12_p0 R t0_0 t0_1 t0_2 t0_3 t0_4 t0_5 t0_6 t0_7 H (fun t1_0 t1_1 t38 H => ev Try.prog E12 loopLim Try.f12.ntmps kp12 c2 [(1, (V.p (some (t1_0, t1_1)))), (38, (V.b t38))] H K) (fun t2 H => K .ret [(2, (V.i .i64 t2))] H) := by kernel_rfl
theorem g12_p0_lin {R S : Type} {k : S → Option R} {t0_0 : Int} {t0_1 : Int} {t0_2 : Int} {t0_3 : Int} {t0_4 : Int} {t0_5 : Int} {t0_6 : Int} {t0_7 : Sl} {H : Heap} {fkN : Nat → Nat → Bool → Heap → Option R} {gkN : Nat → Nat → Bool → Heap → Option S} {fkR : Int → Heap → Option R} {gkR : Int → Heap → Option S} (hkN : ∀ t1_0 t1_1 t38 H, fkN t1_0 t1_1 t38 H = (gkN t1_0 t1_1 t38 H).bind k) (hkR : ∀ t2 H, fkR t2 H = (gkR t2 H).bind k) : g12_p0 R t0_0 t0_1 t0_2 t0_3 t0_4 t0_5 t0_6 t0_7 H fkN fkR = (g12_p0 S t0_0 t0_1 t0_2 t0_3 t0_4 t0_5 t0_6 t0_7 H gkN gkR).bind k := by
  delta g12_p0; exact (
    alo_lin fun i231 h232 =>
    bl fun x233 =>
    sl_lin (
      hkR _ _) (
      bl fun x234 =>
      sl_lin (
        hkN _ _ _ _) (
        bl fun x235 =>
        sl_lin (
          hkN _ _ _ _) (
          bl fun x236 =>
          sl_lin (
            hkN _ _ _ _) (
            bl fun x237 =>
            sl_lin (
              hkN _ _ _ _) (
              bl fun x238 =>
              sl_lin (
                hkN _ _ _ _) (
                bl fun x239 =>
                hkN _ _ _ _)))))))
noncomputable def g12_p1 (R : Type) (t1_0 : Nat) (t1_1 : Nat) (t38 : Bool) (H : Heap) (kN : Nat → Nat → Bool → Bool → Bool → Heap → Option R) (kR : Int → Heap → Option R) : Option R :=
  sel t38 (
    kR (1 : Int) H) (
    ((H).ldI .u8 t1_0 (t1_1 + 0)).bind fun x468 =>
    ((H).ldI .u8 t1_0 (t1_1 + 0)).bind fun x469 =>
    ((H).ldI .u8 t1_0 (t1_1 + 3)).bind fun x470 =>
    ((H).ldI .u8 t1_0 (t1_1 + 0)).bind fun x471 =>
    sel (x471 == (1 : Int)) (
      ((H).ldI .u8 t1_0 (t1_1 + 3)).bind fun x472 =>
      sel (x472 == (2 : Int)) (
        ((H).ldI .u32 t1_0 (t1_1 + 1)).bind fun x473 =>
        ((H).ldI .u8 t1_0 (t1_1 + 0)).bind fun x474 =>
        sel ((decide (x473 > (0 : Int))) == (x474 != (3 : Int))) (
          ((H).ldI .u32 t1_0 (t1_1 + 2)).bind fun x475 =>
          ((H).ldI .u8 t1_0 (t1_1 + 0)).bind fun x476 =>
          sel ((decide (x475 > (0 : Int))) == (x476 != (1 : Int))) (
            ((H).ldI .u8 t1_0 (t1_1 + 6)).bind fun x477 =>
            ((H).ldI .u8 t1_0 (t1_1 + 0)).bind fun x478 =>
            sel (x478 == (3 : Int)) (
              kN t1_0 t1_1 (x468 == (4 : Int)) (x469 == (6 : Int)) ((decide (x477 > (0 : Int))) == true) H) (
              ((H).ldI .u8 t1_0 (t1_1 + 0)).bind fun x479 =>
              kN t1_0 t1_1 (x468 == (4 : Int)) (x469 == (6 : Int)) ((decide (x477 > (0 : Int))) == (x479 == (7 : Int))) H)) (
            kN t1_0 t1_1 (x468 == (4 : Int)) (x469 == (6 : Int)) false H)) (
          kN t1_0 t1_1 (x468 == (4 : Int)) (x469 == (6 : Int)) false H)) (
        ((H).ldI .u8 t1_0 (t1_1 + 3)).bind fun x480 =>
        sel (x480 == (3 : Int)) (
          ((H).ldI .u32 t1_0 (t1_1 + 1)).bind fun x481 =>
          ((H).ldI .u8 t1_0 (t1_1 + 0)).bind fun x482 =>
          sel ((decide (x481 > (0 : Int))) == (x482 != (3 : Int))) (
            ((H).ldI .u32 t1_0 (t1_1 + 2)).bind fun x483 =>
            ((H).ldI .u8 t1_0 (t1_1 + 0)).bind fun x484 =>
            sel ((decide (x483 > (0 : Int))) == (x484 != (1 : Int))) (
              ((H).ldI .u8 t1_0 (t1_1 + 6)).bind fun x485 =>
              ((H).ldI .u8 t1_0 (t1_1 + 0)).bind fun x486 =>
              sel (x486 == (3 : Int)) (
                kN t1_0 t1_1 (x468 == (4 : Int)) (x469 == (6 : Int)) ((decide (x485 > (0 : Int))) == true) H) (
                ((H).ldI .u8 t1_0 (t1_1 + 0)).bind fun x487 =>
                kN t1_0 t1_1 (x468 == (4 : Int)) (x469 == (6 : Int)) ((decide (x485 > (0 : Int))) == (x487 == (7 : Int))) H)) (
              kN t1_0 t1_1 (x468 == (4 : Int)) (x469 == (6 : Int)) false H)) (
            kN t1_0 t1_1 (x468 == (4 : Int)) (x469 == (6 : Int)) false H)) (
          kN t1_0 t1_1 (x468 == (4 : Int)) (x469 == (6 : Int)) false H))) (
      sel (x470 == (0 : Int)) (
        ((H).ldI .u32 t1_0 (t1_1 + 1)).bind fun x488 =>
        ((H).ldI .u8 t1_0 (t1_1 + 0)).bind fun x489 =>
        sel ((decide (x488 > (0 : Int))) == (x489 != (3 : Int))) (
          ((H).ldI .u32 t1_0 (t1_1 + 2)).bind fun x490 =>
          ((H).ldI .u8 t1_0 (t1_1 + 0)).bind fun x491 =>
          sel ((decide (x490 > (0 : Int))) == (x491 != (1 : Int))) (
            ((H).ldI .u8 t1_0 (t1_1 + 6)).bind fun x492 =>
            ((H).ldI .u8 t1_0 (t1_1 + 0)).bind fun x493 =>
            sel (x493 == (3 : Int)) (
              kN t1_0 t1_1 (x468 == (4 : Int)) (x469 == (6 : Int)) ((decide (x492 > (0 : Int))) == true) H) (
              ((H).ldI .u8 t1_0 (t1_1 + 0)).bind fun x494 =>
              kN t1_0 t1_1 (x468 == (4 : Int)) (x469 == (6 : Int)) ((decide (x492 > (0 : Int))) == (x494 == (7 : Int))) H)) (
            kN t1_0 t1_1 (x468 == (4 : Int)) (x469 == (6 : Int)) false H)) (
          kN t1_0 t1_1 (x468 == (4 : Int)) (x469 == (6 : Int)) false H)) (
        kN t1_0 t1_1 (x468 == (4 : Int)) (x469 == (6 : Int)) false H)))
theorem g12_p1_eq {R : Type} (c2 : Code) (t1_0 : Nat) (t1_1 : Nat) (t38 : Bool) (H : Heap) (K : Ex → Fr → Heap → Option R) : ev Try.prog E12 loopLim Try.f12.ntmps kp12 (.seq (.cond (.tmp 38) (.seq (codeAt [1, 1, 0, 1, 0, 0] b12) .ret) .skip) (.seq (codeAt [1, 1, 1, 0] b12) (.seq (codeAt [1, 1, 1, 1, 0] b12) (.seq (codeAt [1, 1, 1, 1, 1, 0, 0] b12) (.seq (.cond (.tmp 50) (codeAt [1, 1, 1, 1, 1, 0, 1, 0] b12) .skip) (.seq (codeAt [1, 1, 1, 1, 1, 1, 0] b12) c2)))))) [(1, (V.p (some (t1_0, t1_1)))), (38, (V.b t38))] H K = g12_p1 R t1_0 t1_1 t38 H (fun t1_0 t1_1 t3 t4 t6 H => ev Try.prog E12 loopLim Try.f12.ntmps kp12 c2 [(1, (V.p (some (t1_0, t1_1)))), (3, (V.b t3)), (4, (V.b t4)), (6, (V.b t6))] H K) (fun t2 H => K .ret [(2, (V.i .i64 t2))] H) := by kernel_rfl
theorem g12_p1_lin {R S : Type} {k : S → Option R} {t1_0 : Nat} {t1_1 : Nat} {t38 : Bool} {H : Heap} {fkN : Nat → Nat → Bool → Bool → Bool → Heap → Option R} {gkN : Nat → Nat → Bool → Bool → Bool → Heap → Option S} {fkR : Int → Heap → Option R} {gkR : Int → Heap → Option S} (hkN : ∀ t1_0 t1_1 t3 t4 t6 H, fkN t1_0 t1_1 t3 t4 t6 H = (gkN t1_0 t1_1 t3 t4 t6 H).bind k) (hkR : ∀ t2 H, fkR t2 H = (gkR t2 H).bind k) : g12_p1 R t1_0 t1_1 t38 H fkN fkR = (g12_p1 S t1_0 t1_1 t38 H gkN gkR).bind k := by
  delta g12_p1; exact (
    sl_lin (
      hkR _ _) (
      bl fun x468 =>
      bl fun x469 =>
      bl fun x470 =>
      bl fun x471 =>
      sl_lin (
        bl fun x472 =>
        sl_lin (
          bl fun x473 =>
          bl fun x474 =>
          sl_lin (
            bl fun x475 =>
            bl fun x476 =>
            sl_lin (
              bl fun x477 =>
              bl fun x478 =>
              sl_lin (
                hkN _ _ _ _ _ _) (
                bl fun x479 =>
                hkN _ _ _ _ _ _)) (
              hkN _ _ _ _ _ _)) (
            hkN _ _ _ _ _ _)) (
          bl fun x480 =>
          sl_lin (
            bl fun x481 =>
            bl fun x482 =>
            sl_lin (
              bl fun x483 =>
              bl fun x484 =>
              sl_lin (
                bl fun x485 =>
                bl fun x486 =>
                sl_lin (
                  hkN _ _ _ _ _ _) (
                  bl fun x487 =>
                  hkN _ _ _ _ _ _)) (
                hkN _ _ _ _ _ _)) (
              hkN _ _ _ _ _ _)) (
            hkN _ _ _ _ _ _))) (
        sl_lin (
          bl fun x488 =>
          bl fun x489 =>
          sl_lin (
            bl fun x490 =>
            bl fun x491 =>
            sl_lin (
              bl fun x492 =>
              bl fun x493 =>
              sl_lin (
                hkN _ _ _ _ _ _) (
                bl fun x494 =>
                hkN _ _ _ _ _ _)) (
              hkN _ _ _ _ _ _)) (
            hkN _ _ _ _ _ _)) (
          hkN _ _ _ _ _ _))))
noncomputable def g12_p2 (R : Type) (t1_0 : Nat) (t1_1 : Nat) (t3 : Bool) (t4 : Bool) (t6 : Bool) (H : Heap) (kN : Bool → Heap → Option R) : Option R :=
  sel t6 (
    sel t3 (
      sel t3 (
        sel t3 (
          kN true H) (
          ((H).ldI .u8 t1_0 (t1_1 + 0)).bind fun x557 =>
          sel (x557 == (1 : Int)) (
            kN true H) (
            ((H).ldSl t1_0 (t1_1 + 7)).bind fun x558 =>
            kN (((x558.len : Nat) : Int) == (0 : Int)) H))) (
        sel t4 (
          sel t3 (
            kN true H) (
            ((H).ldI .u8 t1_0 (t1_1 + 0)).bind fun x559 =>
            sel (x559 == (1 : Int)) (
              kN true H) (
              ((H).ldSl t1_0 (t1_1 + 7)).bind fun x560 =>
              kN (((x560.len : Nat) : Int) == (0 : Int)) H))) (
          ((H).ldI .u8 t1_0 (t1_1 + 0)).bind fun x561 =>
          sel (x561 == (5 : Int)) (
            sel t3 (
              kN true H) (
              ((H).ldI .u8 t1_0 (t1_1 + 0)).bind fun x562 =>
              sel (x562 == (1 : Int)) (
                kN true H) (
                ((H).ldSl t1_0 (t1_1 + 7)).bind fun x563 =>
                kN (((x563.len : Nat) : Int) == (0 : Int)) H))) (
            ((H).ldI .u8 t1_0 (t1_1 + 5)).bind fun x564 =>
            sel (x564 == (0 : Int)) (
              sel t3 (
                kN true H) (
                ((H).ldI .u8 t1_0 (t1_1 + 0)).bind fun x565 =>
                sel (x565 == (1 : Int)) (
                  kN true H) (
                  ((H).ldSl t1_0 (t1_1 + 7)).bind fun x566 =>
                  kN (((x566.len : Nat) : Int) == (0 : Int)) H))) (
              kN false H))))) (
      sel t4 (
        sel t3 (
          sel t3 (
            kN true H) (
            ((H).ldI .u8 t1_0 (t1_1 + 0)).bind fun x567 =>
            sel (x567 == (1 : Int)) (
              kN true H) (
              ((H).ldSl t1_0 (t1_1 + 7)).bind fun x568 =>
              kN (((x568.len : Nat) : Int) == (0 : Int)) H))) (
          sel t4 (
            sel t3 (
              kN true H) (
              ((H).ldI .u8 t1_0 (t1_1 + 0)).bind fun x569 =>
              sel (x569 == (1 : Int)) (
                kN true H) (
                ((H).ldSl t1_0 (t1_1 + 7)).bind fun x570 =>
                kN (((x570.len : Nat) : Int) == (0 : Int)) H))) (
            ((H).ldI .u8 t1_0 (t1_1 + 0)).bind fun x571 =>
            sel (x571 == (5 : Int)) (
              sel t3 (
                kN true H) (
                ((H).ldI .u8 t1_0 (t1_1 + 0)).bind fun x572 =>
                sel (x572 == (1 : Int)) (
                  kN true H) (
                  ((H).ldSl t1_0 (t1_1 + 7)).bind fun x573 =>
                  kN (((x573.len : Nat) : Int) == (0 : Int)) H))) (
              ((H).ldI .u8 t1_0 (t1_1 + 5)).bind fun x574 =>
              sel (x574 == (0 : Int)) (
                sel t3 (
                  kN true H) (
                  ((H).ldI .u8 t1_0 (t1_1 + 0)).bind fun x575 =>
                  sel (x575 == (1 : Int)) (
                    kN true H) (
                    ((H).ldSl t1_0 (t1_1 + 7)).bind fun x576 =>
                    kN (((x576.len : Nat) : Int) == (0 : Int)) H))) (
                kN false H))))) (
        ((H).ldI .u8 t1_0 (t1_1 + 4)).bind fun x577 =>
        sel (x577 == (0 : Int)) (
          sel t3 (
            sel t3 (
              kN true H) (
              ((H).ldI .u8 t1_0 (t1_1 + 0)).bind fun x578 =>
              sel (x578 == (1 : Int)) (
                kN true H) (
                ((H).ldSl t1_0 (t1_1 + 7)).bind fun x579 =>
                kN (((x579.len : Nat) : Int) == (0 : Int)) H))) (
            sel t4 (
              sel t3 (
                kN true H) (
                ((H).ldI .u8 t1_0 (t1_1 + 0)).bind fun x580 =>
                sel (x580 == (1 : Int)) (
                  kN true H) (
                  ((H).ldSl t1_0 (t1_1 + 7)).bind fun x581 =>
                  kN (((x581.len : Nat) : Int) == (0 : Int)) H))) (
              ((H).ldI .u8 t1_0 (t1_1 + 0)).bind fun x582 =>
              sel (x582 == (5 : Int)) (
                sel t3 (
                  kN true H) (
                  ((H).ldI .u8 t1_0 (t1_1 + 0)).bind fun x583 =>
                  sel (x583 == (1 : Int)) (
                    kN true H) (
                    ((H).ldSl t1_0 (t1_1 + 7)).bind fun x584 =>
                    kN (((x584.len : Nat) : Int) == (0 : Int)) H))) (
                ((H).ldI .u8 t1_0 (t1_1 + 5)).bind fun x585 =>
                sel (x585 == (0 : Int)) (
                  sel t3 (
                    kN true H) (
                    ((H).ldI .u8 t1_0 (t1_1 + 0)).bind fun x586 =>
                    sel (x586 == (1 : Int)) (
                      kN true H) (
                      ((H).ldSl t1_0 (t1_1 + 7)).bind fun x587 =>
                      kN (((x587.len : Nat) : Int) == (0 : Int)) H))) (
                  kN false H))))) (
          kN false H)))) (
    kN false H)
theorem g12_p2_eq {R : Type} (t1_0 : Nat) (t1_1 : Nat) (t3 : Bool) (t4 : Bool) (t6 : Bool) (H : Heap) (K : Ex → Fr → Heap → Option R) : ev Try.prog E12 loopLim Try.f12.ntmps kp12 c12_0 [(1, (V.p (some (t1_0, t1_1)))), (3, (V.b t3)), (4, (V.b t4)), (6, (V.b t6))] H K = g12_p2 R t1_0 t1_1 t3 t4 t6 H (fun t6 H => K .normal [(6, (V.b t6))] H) := by kernel_rfl
theorem g12_p2_lin {R S : Type} {k : S → Option R} {t1_0 : Nat} {t1_1 : Nat} {t3 : Bool} {t4 : Bool} {t6 : Bool} {H : Heap} {fkN : Bool → Heap → Option R} {gkN : Bool → Heap → Option S} (hkN : ∀ t6 H, fkN t6 H = (gkN t6 H).bind k) : g12_p2 R t1_0 t1_1 t3 t4 t6 H fkN = (g12_p2 S t1_0 t1_1 t3 t4 t6 H gkN).bind k := by
  delta g12_p2; exact (
    sl_lin (
      sl_lin (
        sl_lin (
          sl_lin (
            hkN _ _) (
            bl fun x557 =>
            sl_lin (
              hkN _ _) (
              bl fun x558 =>
              hkN _ _))) (
          sl_lin (
            sl_lin (
              hkN _ _) (
              bl fun x559 =>
              sl_lin (
                hkN _ _) (
                bl fun x560 =>
                hkN _ _))) (
            bl fun x561 =>
            sl_lin (
              sl_lin (
                hkN _ _) (
                bl fun x562 =>
                sl_lin (
                  hkN _ _) (
                  bl fun x563 =>
                  hkN _ _))) (
              bl fun x564 =>
              sl_lin (
                sl_lin (
                  hkN _ _) (
                  bl fun x565 =>
                  sl_lin (
                    hkN _ _) (
                    bl fun x566 =>
                    hkN _ _))) (
                hkN _ _))))) (
        sl_lin (
          sl_lin (
            sl_lin (
              hkN _ _) (
              bl fun x567 =>
              sl_lin (
                hkN _ _) (
                bl fun x568 =>
                hkN _ _))) (
            sl_lin (
              sl_lin (
                hkN _ _) (
                bl fun x569 =>
                sl_lin (
                  hkN _ _) (
                  bl fun x570 =>
                  hkN _ _))) (
              bl fun x571 =>
              sl_lin (
                sl_lin (
                  hkN _ _) (
                  bl fun x572 =>
                  sl_lin (
                    hkN _ _) (
                    bl fun x573 =>
                    hkN _ _))) (
                bl fun x574 =>
                sl_lin (
                  sl_lin (
                    hkN _ _) (
                    bl fun x575 =>
                    sl_lin (
                      hkN _ _) (
                      bl fun x576 =>
                      hkN _ _))) (
                  hkN _ _))))) (
          bl fun x577 =>
          sl_lin (
            sl_lin (
              sl_lin (
                hkN _ _) (
                bl fun x578 =>
                sl_lin (
                  hkN _ _) (
                  bl fun x579 =>
                  hkN _ _))) (
              sl_lin (
                sl_lin (
                  hkN _ _) (
                  bl fun x580 =>
                  sl_lin (
                    hkN _ _) (
                    bl fun x581 =>
                    hkN _ _))) (
                bl fun x582 =>
                sl_lin (
                  sl_lin (
                    hkN _ _) (
                    bl fun x583 =>
                    sl_lin (
                      hkN _ _) (
                      bl fun x584 =>
                      hkN _ _))) (
                  bl fun x585 =>
                  sl_lin (
                    sl_lin (
                      hkN _ _) (
                      bl fun x586 =>
                      sl_lin (
                        hkN _ _) (
                        bl fun x587 =>
                        hkN _ _))) (
                    hkN _ _))))) (
            hkN _ _)))) (
      hkN _ _))
noncomputable def g12_p3 (R : Type) (t6 : Bool) (H : Heap) (kR : Int → Heap → Option R) : Option R :=
  sel (!t6) (
    kR (1 : Int) H) (
    kR (0 : Int) H)
theorem g12_p3_eq {R : Type} (t6 : Bool) (H : Heap) (K : Ex → Fr → Heap → Option R) : ev Try.prog E12 loopLim Try.f12.ntmps kp12 c12_1 [(6, (V.b t6))] H K = g12_p3 R t6 H (fun t2 H => K .ret [(2, (V.i .i64 t2))] H) := by kernel_rfl
theorem g12_p3_lin {R S : Type} {k : S → Option R} {t6 : Bool} {H : Heap} {fkR : Int → Heap → Option R} {gkR : Int → Heap → Option S} (hkR : ∀ t2 H, fkR t2 H = (gkR t2 H).bind k) : g12_p3 R t6 H fkR = (g12_p3 S t6 H gkR).bind k := by
  delta g12_p3; exact (
    sl_lin (
      hkR _ _) (
      hkR _ _))
noncomputable def g12_p4 (R : Type) (t1_0 : Nat) (t1_1 : Nat) (t3 : Bool) (t4 : Bool) (t6 : Bool) (H : Heap) (kR : Int → Heap → Option R) : Option R :=
  g12_p2 R t1_0 t1_1 t3 t4 t6 H (fun t6 H => g12_p3 R t6 H (fun t2 H => kR t2 H))
theorem g12_p4_lin {R S : Type} {k : S → Option R} {t1_0 : Nat} {t1_1 : Nat} {t3 : Bool} {t4 : Bool} {t6 : Bool} {H : Heap} {fkR : Int → Heap → Option R} {gkR : Int → Heap → Option S} (hkR : ∀ t2 H, fkR t2 H = (gkR t2 H).bind k) : g12_p4 R t1_0 t1_1 t3 t4 t6 H fkR = (g12_p4 S t1_0 t1_1 t3 t4 t6 H gkR).bind k := by
  exact g12_p2_lin (fun _ _ => g12_p3_lin (fun _ _ => hkR _ _))
theorem g12_p4_eq {R : Type} (t1_0 : Nat) (t1_1 : Nat) (t3 : Bool) (t4 : Bool) (t6 : Bool) (H : Heap) (K : Ex → Fr → Heap → Option R) : ev Try.prog E12 loopLim Try.f12.ntmps kp12 c12_2 [(1, (V.p (some (t1_0, t1_1)))), (3, (V.b t3)), (4, (V.b t4)), (6, (V.b t6))] H K = g12_p4 R t1_0 t1_1 t3 t4 t6 H (fun t2 H => K .ret [(2, (V.i .i64 t2))] H) := by
  show ev Try.prog E12 loopLim Try.f12.ntmps kp12 (.seq c12_0 c12_1) [(1, (V.p (some (t1_0, t1_1)))), (3, (V.b t3)), (4, (V.b t4)), (6, (V.b t6))] H K = _
  rw [ev_seq]
  delta g12_p4
  exact (g12_p2_eq t1_0 t1_1 t3 t4 t6 H (kSeq (fun fr H => ev Try.prog E12 loopLim Try.f12.ntmps kp12 c12_1 fr H K) K)).trans (congrArg (g12_p2 R t1_0 t1_1 t3 t4 t6 H) (funext fun t6 => funext fun H => (kSeq_n _ _ _ _).trans (g12_p3_eq t6 H K)))
noncomputable def g12_p5 (R : Type) (t1_0 : Nat) (t1_1 : Nat) (t38 : Bool) (H : Heap) (kR : Int → Heap → Option R) : Option R :=
  g12_p1 R t1_0 t1_1 t38 H (fun t1_0 t1_1 t3 t4 t6 H => g12_p4 R t1_0 t1_1 t3 t4 t6 H (fun t2 H => kR t2 H)) (fun t2 H => kR t2 H)
theorem g12_p5_lin {R S : Type} {k : S → Option R} {t1_0 : Nat} {t1_1 : Nat} {t38 : Bool} {H : Heap} {fkR : Int → Heap → Option R} {gkR : Int → Heap → Option S} (hkR : ∀ t2 H, fkR t2 H = (gkR t2 H).bind k) : g12_p5 R t1_0 t1_1 t38 H fkR = (g12_p5 S t1_0 t1_1 t38 H gkR).bind k := by
  exact g12_p1_lin (fun _ _ _ _ _ _ => g12_p4_lin (fun _ _ => hkR _ _)) (fun _ _ => hkR _ _)
theorem g12_p5_eq {R : Type} (t1_0 : Nat) (t1_1 : Nat) (t38 : Bool) (H : Heap) (K : Ex → Fr → Heap → Option R) : ev Try.prog E12 loopLim Try.f12.ntmps kp12 c12_3 [(1, (V.p (some (t1_0, t1_1)))), (38, (V.b t38))] H K = g12_p5 R t1_0 t1_1 t38 H (fun t2 H => K .ret [(2, (V.i .i64 t2))] H) := by
  show ev Try.prog E12 loopLim Try.f12.ntmps kp12 (.seq (.cond (.tmp 38) (.seq (codeAt [1, 1, 0, 1, 0, 0] b12) .ret) .skip) (.seq (codeAt [1, 1, 1, 0] b12) (.seq (codeAt [1, 1, 1, 1, 0] b12) (.seq (codeAt [1, 1, 1, 1, 1, 0, 0] b12) (.seq (.cond (.tmp 50) (codeAt [1, 1, 1, 1, 1, 0, 1, 0] b12) .skip) (.seq (codeAt [1, 1, 1, 1, 1, 1, 0] b12) c12_2)))))) [(1, (V.p (some (t1_0, t1_1)))), (38, (V.b t38))] H K = _
  delta g12_p5
  exact (g12_p1_eq _ t1_0 t1_1 t38 H K).trans (congr (congrArg (g12_p1 R t1_0 t1_1 t38 H) (funext fun t1_0 => funext fun t1_1 => funext fun t3 => funext fun t4 => funext fun t6 => funext fun H => g12_p4_eq t1_0 t1_1 t3 t4 t6 H K)) rfl)
noncomputable def g12_p6 (R : Type) (t0_0 : Int) (t0_1 : Int) (t0_2 : Int) (t0_3 : Int) (t0_4 : Int) (t0_5 : Int) (t0_6 : Int) (t0_7 : Sl) (H : Heap) (kR : Int → Heap → Option R) : Option R :=
  g12_p0 R t0_0 t0_1 t0_2 t0_3 t0_4 t0_5 t0_6 t0_7 H (fun t1_0 t1_1 t38 H => g12_p5 R t1_0 t1_1 t38 H (fun t2 H => kR t2 H)) (fun t2 H => kR t2 H)
theorem g12_p6_lin {R S : Type} {k : S → Option R} {t0_0 : Int} {t0_1 : Int} {t0_2 : Int} {t0_3 : Int} {t0_4 : Int} {t0_5 : Int} {t0_6 : Int} {t0_7 : Sl} {H : Heap} {fkR : Int → Heap → Option R} {gkR : Int → Heap → Option S} (hkR : ∀ t2 H, fkR t2 H = (gkR t2 H).bind k) : g12_p6 R t0_0 t0_1 t0_2 t0_3 t0_4 t0_5 t0_6 t0_7 H fkR = (g12_p6 S t0_0 t0_1 t0_2 t0_3 t0_4 t0_5 t0_6 t0_7 H gkR).bind k := by
  exact g12_p0_lin (fun _ _ _ _ => g12_p5_lin (fun _ _ => hkR _ _)) (fun _ _ => hkR _ _)
theorem g12_p6_eq {R : Type} (t0_0 : Int) (t0_1 : Int) (t0_2 : Int) (t0_3 : Int) (t0_4 : Int) (t0_5 : Int) (t0_6 : Int) (t0_7 : Sl) (H : Heap) (K : Ex → Fr → Heap → Option R) : ev Try.prog E12 loopLim Try.f12.ntmps kp12 c12_4 [(0, (V.agg [(V.i .u8 t0_0), (V.i .u32 t0_1), (V.i .u32 t0_2), (V.i .u8 t0_3), (V.i .u8 t0_4), (V.i .u8 t0_5), (V.i .u8 t0_6), (V.sl t0_7)]))] H K = g12_p6 R t0_0 t0_1 t0_2 t0_3 t0_4 t0_5 t0_6 t0_7 H (fun t2 H => K .ret [(2, (V.i .i64 t2))] H) := by
  show ev Try.prog E12 loopLim Try.f12.ntmps kp12 (.seq (codeAt [0] b12) (.seq (codeAt [1, 0, 0] b12) (.seq (.cond (.tmp 10) (.seq (codeAt [1, 0, 1, 0, 0] b12) .ret) .skip) (.seq (codeAt [1, 1, 0, 0] b12) c12_3)))) [(0, (V.agg [(V.i .u8 t0_0), (V.i .u32 t0_1), (V.i .u32 t0_2), (V.i .u8 t0_3), (V.i .u8 t0_4), (V.i .u8 t0_5), (V.i .u8 t0_6), (V.sl t0_7)]))] H K = _
  delta g12_p6
  exact (g12_p0_eq _ t0_0 t0_1 t0_2 t0_3 t0_4 t0_5 t0_6 t0_7 H K).trans (congr (congrArg (g12_p0 R t0_0 t0_1 t0_2 t0_3 t0_4 t0_5 t0_6 t0_7 H) (funext fun t1_0 => funext fun t1_1 => funext fun t38 => funext fun H => g12_p5_eq t1_0 t1_1 t38 H K)) rfl)
noncomputable def g12_r : T12 := fun R t0_0 t0_1 t0_2 t0_3 t0_4 t0_5 t0_6 t0_7 H K =>
  g12_p6 R t0_0 t0_1 t0_2 t0_3 t0_4 t0_5 t0_6 t0_7 H (fun t2 H =>
    K t2 H)
theorem g12_r_lin : Lin12 (g12_r) := by
  constructor
  intro R S k t0_0 t0_1 t0_2 t0_3 t0_4 t0_5 t0_6 t0_7 H f g h
  exact g12_p6_lin (fun t2 H =>
    h _ _)
theorem g12_fn {R : Type} (t0_0 : Int) (t0_1 : Int) (t0_2 : Int) (t0_3 : Int) (t0_4 : Int) (t0_5 : Int) (t0_6 : Int) (t0_7 : Sl) (H : Heap) (K : V → Heap → Option R) : evFn Try.prog E12 loopLim Try.f12 kp12 [(V.agg [(V.i .u8 t0_0), (V.i .u32 t0_1), (V.i .u32 t0_2), (V.i .u8 t0_3), (V.i .u8 t0_4), (V.i .u8 t0_5), (V.i .u8 t0_6), (V.sl t0_7)])] H K = g12_r R t0_0 t0_1 t0_2 t0_3 t0_4 t0_5 t0_6 t0_7 H (fun r0 H => K (V.i .i64 r0) H) := by
  have h0 : ∀ (t2 : Int) (H : Heap), kFn Try.prog Try.f12.results.toList K .ret [(2, (V.i .i64 t2))] H =
      K (V.i .i64 t2) H := by intros; kernel_rfl
  have e0 := evFn_code2 (P := Try.prog) (c := c12_4) (E := E12) (lr := loopLim) (kp := kp12) (fn := Try.f12) (args := [(V.agg [(V.i .u8 t0_0), (V.i .u32 t0_1), (V.i .u32 t0_2), (V.i .u8 t0_3), (V.i .u8 t0_4), (V.i .u8 t0_5), (V.i .u8 t0_6), (V.sl t0_7)])]) H K (by kernel_rfl) (Nat.le_of_ble_eq_true (by kernel_rfl)) (by kernel_rfl)
  have e1 : ev Try.prog E12 loopLim Try.f12.ntmps kp12 c12_4 (argFr 0 [(V.agg [(V.i .u8 t0_0), (V.i .u32 t0_1), (V.i .u32 t0_2), (V.i .u8 t0_3), (V.i .u8 t0_4), (V.i .u8 t0_5), (V.i .u8 t0_6), (V.sl t0_7)])]) H (kFn Try.prog Try.f12.results.toList K) = ev Try.prog E12 loopLim Try.f12.ntmps kp12 c12_4 [(0, (V.agg [(V.i .u8 t0_0), (V.i .u32 t0_1), (V.i .u32 t0_2), (V.i .u8 t0_3), (V.i .u8 t0_4), (V.i .u8 t0_5), (V.i .u8 t0_6), (V.sl t0_7)]))] H (kFn Try.prog Try.f12.results.toList K) := by kernel_rfl
  refine (e0.trans e1).trans ?_
  delta g12_r
  exact (g12_p6_eq t0_0 t0_1 t0_2 t0_3 t0_4 t0_5 t0_6 t0_7 H (kFn Try.prog Try.f12.results.toList K)).trans (congrArg (g12_p6 R t0_0 t0_1 t0_2 t0_3 t0_4 t0_5 t0_6 t0_7 H) (funext fun t2 => funext fun H => h0 t2 H))
theorem g12_ok : FunOK Try.prog 12 (w12 (g12_r)) := by
  refine (runF_ok (E12_good) mixed lim_ok Try.func12 (by kernel_rfl) kp12).of_le fun R args H K r hk => ?_
  unfold w12 at hk
  split at hk
  · exact (g12_fn _ _ _ _ _ _ _ _ H K).trans hk
  · cases hk
def kp11 : Nat → Option (List Nat) := kpOf [(0, [1]), (1, [1, 4]), (2, [1, 4, 9]), (3, [2, 3]), (4, [1, 5]), (5, [1, 5]), (6, [2, 3]), (300000, [2, 3]), (400009, [1])]
def E11 (a12 : T12) : FEnv := [(12, w12 a12)]
theorem E11_good {a12 : T12} (oa12 : FunOK Try.prog 12 (w12 a12)) (la12 : Lin12 a12) : EnvGood Try.prog (E11 a12) := ((EnvGood.nil _).cons oa12 (w12_lin la12))
theorem E11_lin {a12 : T12} (la12 : Lin12 a12) : EnvLin (E11 a12) := by
  intro g F h
  simp only [E11, List.mem_cons, List.not_mem_nil, or_false] at h
  rcases h with h
  · cases h; exact w12_lin la12
noncomputable def b11 : Code := Try.f11.body.getD .skip
noncomputable def c11_0 : Code := (.seq (codeAt [0] b11) (.seq (codeAt [1, 0, 0] b11) (.seq (codeAt [1, 0, 1, 0] b11) (.seq (.cond (.tmp 9) (.seq (codeAt [1, 0, 1, 1, 0, 0] b11) .ret) .skip) (.seq (codeAt [1, 1, 0] b11) (.seq (codeAt [1, 1, 1, 0] b11) (.seq (codeAt [1, 1, 1, 1, 0] b11) .ret)))))))
noncomputable def g11_p0 (a12 : T12) (R : Type) (t0_0 : Int) (t0_1 : Int) (t0_2 : Int) (t0_3 : Int) (t0_4 : Int) (t0_5 : Int) (t0_6 : Int) (t0_7 : Sl) (H : Heap) (kR : Sl → Int → Heap → Option R) : Option R :=
  alo H (.cells [(V.i .u8 t0_0), (V.i .u32 t0_1), (V.i .u32 t0_2), (V.i .u8 t0_3), (V.i .u8 t0_4), (V.i .u8 t0_5), (V.i .u8 t0_6), (V.sl t0_7)] 26 false) fun i1 h2 =>
  ((h2).ldI .u8 i1 (0 + 0)).bind fun x3 =>
  ((h2).ldI .u32 i1 (0 + 1)).bind fun x4 =>
  ((h2).ldI .u32 i1 (0 + 2)).bind fun x5 =>
  ((h2).ldI .u8 i1 (0 + 3)).bind fun x6 =>
  ((h2).ldI .u8 i1 (0 + 4)).bind fun x7 =>
  ((h2).ldI .u8 i1 (0 + 5)).bind fun x8 =>
  ((h2).ldI .u8 i1 (0 + 6)).bind fun x9 =>
  ((h2).ldSl i1 (0 + 7)).bind fun x10 =>
  a12 R x3 x4 x5 x6 x7 x8 x9 x10 h2 fun x11 h12 =>
  sel (x11 != (0 : Int)) (
    kR (Sl.mk none 0 (.ex 0)) x11 h12) (
    ((h12).ldSl i1 (0 + 7)).bind fun x13 =>
    if 0 ≤ (9 : Int) ∧ (9 : Int) ≤ (IntKind.wrap .i64 ((9 : Int) + ((x13.len : Nat) : Int))) ∧ (IntKind.wrap .i64 ((9 : Int) + ((x13.len : Nat) : Int))) ≤ 9223372036854775807 ∧ (IntKind.wrap .i64 ((9 : Int) + ((x13.len : Nat) : Int))) * ((1 : Nat) : Int) ≤ 281474976710656 then (
      ((zeroCellsV Try.prog 5 (Int.toNat (IntKind.wrap .i64 ((9 : Int) + ((x13.len : Nat) : Int)))))).bind fun vs14 =>
      alo h12 (.cells vs14 5 false) fun i15 h16 =>
      ((h16).ldI .u8 i1 (0 + 0)).bind fun x17 =>
      ((h16).ldI .u8 i1 (0 + 3)).bind fun x18 =>
      ((h16).ldI .u8 i1 (0 + 4)).bind fun x19 =>
      ((h16).ldI .u8 i1 (0 + 5)).bind fun x20 =>
      ((h16).ldI .u8 i1 (0 + 6)).bind fun x21 =>
      ((h16).ldI .u32 i1 (0 + 1)).bind fun x22 =>
      ((h16).ldI .u32 i1 (0 + 1)).bind fun x23 =>
      ((h16).ldI .u32 i1 (0 + 2)).bind fun x24 =>
      ((h16).ldI .u32 i1 (0 + 2)).bind fun x25 =>
      alo h16 (.cells [(V.i .u8 x17), (V.i .u8 x18), (V.i .u8 x19), (V.i .u8 x20), (V.i .u8 x21), (V.i .u8 (IntKind.wrap .u8 x22)), (V.i .u8 (IntKind.wrap .u8 (shrI .u32 x23 (8 : Int)))), (V.i .u8 (IntKind.wrap .u8 x24)), (V.i .u8 (IntKind.wrap .u8 (shrI .u32 x25 (8 : Int))))] 5 false) fun i26 h27 =>
      evBuiltin Try.prog h27 .copy [24, 24] [(V.sl (Sl.mk (some (i15, 0)) (Int.toNat (9 : Int)) (.ex (Int.toNat (IntKind.wrap .i64 ((9 : Int) + ((x13.len : Nat) : Int))))))), (V.sl (Sl.mk (some (i26, 0)) 9 (.ex 9)))] fun u28 h29 =>
      ((h29).ldSl i1 (0 + 7)).bind fun x30 =>
      ((slCells h29 1 x30)).bind fun vs33 =>
      appendV h29 5 1 1 (Sl.mk (some (i15, 0)) (Int.toNat (9 : Int)) (.ex (Int.toNat (IntKind.wrap .i64 ((9 : Int) + ((x13.len : Nat) : Int)))))) x30.len vs33 fun s31 h32 =>
      kR s31 (0 : Int) h32)
    else (
      none))
theorem g11_p0_eq (a12 : T12) (la12 : Lin12 a12) {R : Type} (t0_0 : Int) (t0_1 : Int) (t0_2 : Int) (t0_3 : Int) (t0_4 : Int) (t0_5 : Int) (t0_6 : Int) (t0_7 : Sl) (H : Heap) (K : Ex → Fr → Heap → Option R) : ev Try.prog (E11 a12) loopLim Try.f11.ntmps kp11 c11_0 [(0, (V.agg [(V.i .u8 t0_0), (V.i .u32 t0_1), (V.i .u32 t0_2), (V.i .u8 t0_3), (V.i .u8 t0_4), (V.i .u8 t0_5), (V.i .u8 t0_6), (V.sl t0_7)]))] H K = g11_p0 a12 R t0_0 t0_1 t0_2 t0_3 t0_4 t0_5 t0_6 t0_7 H (fun t2 t3 H => K .ret [(2, (V.sl t2)), (3, (V.i .i64 t3))] H) := by kernel_rfl
theorem g11_p0_lin {a12 : T12} (la12 : Lin12 a12) {R S : Type} {k : S → Option R} {t0_0 : Int} {t0_1 : Int} {t0_2 : Int} {t0_3 : Int} {t0_4 : Int} {t0_5 : Int} {t0_6 : Int} {t0_7 : Sl} {H : Heap} {fkR : Sl → Int → Heap → Option R} {gkR : Sl → Int → Heap → Option S} (hkR : ∀ t2 t3 H, fkR t2 t3 H = (gkR t2 t3 H).bind k) : g11_p0 a12 R t0_0 t0_1 t0_2 t0_3 t0_4 t0_5 t0_6 t0_7 H fkR = (g11_p0 a12 S t0_0 t0_1 t0_2 t0_3 t0_4 t0_5 t0_6 t0_7 H gkR).bind k := by
  delta g11_p0; exact (
    alo_lin fun i1 h2 =>
    bl fun x3 =>
    bl fun x4 =>
    bl fun x5 =>
    bl fun x6 =>
    bl fun x7 =>
    bl fun x8 =>
    bl fun x9 =>
    bl fun x10 =>
    la12.l fun x11 h12 =>
    sl_lin (
      hkR _ _ _) (
      bl fun x13 =>
      il (
        bl fun vs14 =>
        alo_lin fun i15 h16 =>
        bl fun x17 =>
        bl fun x18 =>
        bl fun x19 =>
        bl fun x20 =>
        bl fun x21 =>
        bl fun x22 =>
        bl fun x23 =>
        bl fun x24 =>
        bl fun x25 =>
        alo_lin fun i26 h27 =>
        evBuiltin_lin fun u28 h29 =>
        bl fun x30 =>
        bl fun vs33 =>
        appendV_lin fun s31 h32 =>
        hkR _ _ _) (
        rfl)))
noncomputable def g11_r (a12 : T12) : T11 := fun R t0_0 t0_1 t0_2 t0_3 t0_4 t0_5 t0_6 t0_7 H K =>
  g11_p0 a12 R t0_0 t0_1 t0_2 t0_3 t0_4 t0_5 t0_6 t0_7 H (fun t2 t3 H =>
    K t2 t3 H)
theorem g11_r_lin {a12 : T12} (la12 : Lin12 a12) : Lin11 (g11_r a12) := by
  constructor
  intro R S k t0_0 t0_1 t0_2 t0_3 t0_4 t0_5 t0_6 t0_7 H f g h
  exact g11_p0_lin la12 (fun t2 t3 H =>
    h _ _ _)
theorem g11_fn (a12 : T12) (la12 : Lin12 a12) {R : Type} (t0_0 : Int) (t0_1 : Int) (t0_2 : Int) (t0_3 : Int) (t0_4 : Int) (t0_5 : Int) (t0_6 : Int) (t0_7 : Sl) (H : Heap) (K : V → Heap → Option R) : evFn Try.prog (E11 a12) loopLim Try.f11 kp11 [(V.agg [(V.i .u8 t0_0), (V.i .u32 t0_1), (V.i .u32 t0_2), (V.i .u8 t0_3), (V.i .u8 t0_4), (V.i .u8 t0_5), (V.i .u8 t0_6), (V.sl t0_7)])] H K = g11_r a12 R t0_0 t0_1 t0_2 t0_3 t0_4 t0_5 t0_6 t0_7 H (fun r0 r1 H => K (V.tup [(V.sl r0), (V.i .i64 r1)]) H) := by
  have h0 : ∀ (t2 : Sl) (t3 : Int) (H : Heap), kFn Try.prog Try.f11.results.toList K .ret [(2, (V.sl t2)), (3, (V.i .i64 t3))] H =
      K (V.tup [(V.sl t2), (V.i .i64 t3)]) H := by intros; kernel_rfl
  have e0 := evFn_code2 (P := Try.prog) (c := c11_0) (E := (E11 a12)) (lr := loopLim) (kp := kp11) (fn := Try.f11) (args := [(V.agg [(V.i .u8 t0_0), (V.i .u32 t0_1), (V.i .u32 t0_2), (V.i .u8 t0_3), (V.i .u8 t0_4), (V.i .u8 t0_5), (V.i .u8 t0_6), (V.sl t0_7)])]) H K (by kernel_rfl) (Nat.le_of_ble_eq_true (by kernel_rfl)) (by kernel_rfl)
  have e1 : ev Try.prog (E11 a12) loopLim Try.f11.ntmps kp11 c11_0 (argFr 0 [(V.agg [(V.i .u8 t0_0), (V.i .u32 t0_1), (V.i .u32 t0_2), (V.i .u8 t0_3), (V.i .u8 t0_4), (V.i .u8 t0_5), (V.i .u8 t0_6), (V.sl t0_7)])]) H (kFn Try.prog Try.f11.results.toList K) = ev Try.prog (E11 a12) loopLim Try.f11.ntmps kp11 c11_0 [(0, (V.agg [(V.i .u8 t0_0), (V.i .u32 t0_1), (V.i .u32 t0_2), (V.i .u8 t0_3), (V.i .u8 t0_4), (V.i .u8 t0_5), (V.i .u8 t0_6), (V.sl t0_7)]))] H (kFn Try.prog Try.f11.results.toList K) := by kernel_rfl
  refine (e0.trans e1).trans ?_
  delta g11_r
  exact (g11_p0_eq a12 la12 t0_0 t0_1 t0_2 t0_3 t0_4 t0_5 t0_6 t0_7 H (kFn Try.prog Try.f11.results.toList K)).trans (congrArg (g11_p0 a12 R t0_0 t0_1 t0_2 t0_3 t0_4 t0_5 t0_6 t0_7 H) (funext fun t2 => funext fun t3 => funext fun H => h0 t2 t3 H))
theorem g11_ok {a12 : T12} (oa12 : FunOK Try.prog 12 (w12 a12)) (la12 : Lin12 a12) : FunOK Try.prog 11 (w11 (g11_r a12)) := by
  refine (runF_ok (E11_good oa12 la12) mixed lim_ok Try.func11 (by kernel_rfl) kp11).of_le fun R args H K r hk => ?_
  unfold w11 at hk
  split at hk
  · exact (g11_fn a12 la12 _ _ _ _ _ _ _ _ H K).trans hk
  · cases hk
def kp55 : Nat → Option (List Nat) := kpOf [(0, [0]), (1, [0, 4]), (2, [2]), (3, [2]), (300000, [2]), (400004, [0])]
def E55 : FEnv := []
theorem E55_good : EnvGood Try.prog E55 := (EnvGood.nil _)
theorem E55_lin : EnvLin E55 := fun g F h => by cases h
noncomputable def b55 : Code := Try.f55.body.getD .skip
noncomputable def c55_0 : Code := (.seq (codeAt [0] b55) (.seq (codeAt [1, 0, 0] b55) (.seq (.cond (.tmp 4) (.seq (codeAt [1, 0, 1, 0, 0] b55) .ret) .skip) (.seq (codeAt [1, 1, 0] b55) .ret))))
noncomputable def g55_p0 (R : Type) (t0 : Sl) (H : Heap) (kR : Sl → Heap → Option R) : Option R :=
  sel (Option.isNone t0.a) (
    kR (Sl.mk none 0 (.ex 0)) H) (
    alo H (.cells [] 5 false) fun i1 h2 =>
    ((slCells h2 1 t0)).bind fun vs5 =>
    appendV h2 5 1 1 (Sl.mk (some (i1, 0)) 0 (.ex 0)) t0.len vs5 fun s3 h4 =>
    kR s3 h4)
theorem g55_p0_eq {R : Type} (t0 : Sl) (H : Heap) (K : Ex → Fr → Heap → Option R) : ev Try.prog E55 loopLim Try.f55.ntmps kp55 c55_0 [(0, (V.sl t0))] H K = g55_p0 R t0 H (fun t2 H => K .ret [(2, (V.sl t2))] H) := by kernel_rfl
theorem g55_p0_lin {R S : Type} {k : S → Option R} {t0 : Sl} {H : Heap} {fkR : Sl → Heap → Option R} {gkR : Sl → Heap → Option S} (hkR : ∀ t2 H, fkR t2 H = (gkR t2 H).bind k) : g55_p0 R t0 H fkR = (g55_p0 S t0 H gkR).bind k := by
  delta g55_p0; exact (
    sl_lin (
      hkR _ _) (
      alo_lin fun i1 h2 =>
      bl fun vs5 =>
      appendV_lin fun s3 h4 =>
      hkR _ _))
noncomputable def g55_r : T55 := fun R t0 H K =>
  g55_p0 R t0 H (fun t2 H =>
    K t2 H)
theorem g55_r_lin : Lin55 (g55_r) := by
  constructor
  intro R S k t0 H f g h
  exact g55_p0_lin (fun t2 H =>
    h _ _)
theorem g55_fn {R : Type} (t0 : Sl) (H : Heap) (K : V → Heap → Option R) : evFn Try.prog E55 loopLim Try.f55 kp55 [(V.sl t0)] H K = g55_r R t0 H (fun r0 H => K (V.sl r0) H) := by
  have h0 : ∀ (t2 : Sl) (H : Heap), kFn Try.prog Try.f55.results.toList K .ret [(2, (V.sl t2))] H =
      K (V.sl t2) H := by intros; kernel_rfl
  have e0 := evFn_code2 (P := Try.prog) (c := c55_0) (E := E55) (lr := loopLim) (kp := kp55) (fn := Try.f55) (args := [(V.sl t0)]) H K (by kernel_rfl) (Nat.le_of_ble_eq_true (by kernel_rfl)) (by kernel_rfl)
  have e1 : ev Try.prog E55 loopLim Try.f55.ntmps kp55 c55_0 (argFr 0 [(V.sl t0)]) H (kFn Try.prog Try.f55.results.toList K) = ev Try.prog E55 loopLim Try.f55.ntmps kp55 c55_0 [(0, (V.sl t0))] H (kFn Try.prog Try.f55.results.toList K) := by kernel_rfl
  refine (e0.trans e1).trans ?_
  delta g55_r
  exact (g55_p0_eq t0 H (kFn Try.prog Try.f55.results.toList K)).trans (congrArg (g55_p0 R t0 H) (funext fun t2 => funext fun H => h0 t2 H))
theorem g55_ok : FunOK Try.prog 55 (w55 (g55_r)) := by
  refine (runF_ok (E55_good) mixed lim_ok Try.func55 (by kernel_rfl) kp55).of_le fun R args H K r hk => ?_
  unfold w55 at hk
  split at hk
  · exact (g55_fn _ H K).trans hk
  · cases hk
def kp54 : Nat → Option (List Nat) := kpOf [(0, [0]), (1, [2]), (300000, [2])]
def E54 : FEnv := []
theorem E54_good : EnvGood Try.prog E54 := (EnvGood.nil _)
theorem E54_lin : EnvLin E54 := fun g F h => by cases h
noncomputable def b54 : Code := Try.f54.body.getD .skip
noncomputable def c54_0 : Code := (.seq (codeAt [0] b54) (.seq (codeAt [1, 0] b54) .ret))
noncomputable def g54_p0 (R : Type) (t0 : Sl) (H : Heap) (kR : Sl → Heap → Option R) : Option R :=
  slOf 1 t0 none (some ((t0.len : Nat) : Int)) (some ((t0.len : Nat) : Int)) fun s1 =>
  kR s1 H
theorem g54_p0_eq {R : Type} (t0 : Sl) (H : Heap) (K : Ex → Fr → Heap → Option R) : ev Try.prog E54 loopLim Try.f54.ntmps kp54 c54_0 [(0, (V.sl t0))] H K = g54_p0 R t0 H (fun t2 H => K .ret [(2, (V.sl t2))] H) := by kernel_rfl
theorem g54_p0_lin {R S : Type} {k : S → Option R} {t0 : Sl} {H : Heap} {fkR : Sl → Heap → Option R} {gkR : Sl → Heap → Option S} (hkR : ∀ t2 H, fkR t2 H = (gkR t2 H).bind k) : g54_p0 R t0 H fkR = (g54_p0 S t0 H gkR).bind k := by
  delta g54_p0; exact (
    slOf_lin fun s1 =>
    hkR _ _)
noncomputable def g54_r : T54 := fun R t0 H K =>
  g54_p0 R t0 H (fun t2 H =>
    K t2 H)
theorem g54_r_lin : Lin54 (g54_r) := by
  constructor
  intro R S k t0 H f g h
  exact g54_p0_lin (fun t2 H =>
    h _ _)
theorem g54_fn {R : Type} (t0 : Sl) (H : Heap) (K : V → Heap → Option R) : evFn Try.prog E54 loopLim Try.f54 kp54 [(V.sl t0)] H K = g54_r R t0 H (fun r0 H => K (V.sl r0) H) := by
  have h0 : ∀ (t2 : Sl) (H : Heap), kFn Try.prog Try.f54.results.toList K .ret [(2, (V.sl t2))] H =
      K (V.sl t2) H := by intros; kernel_rfl
  have e0 := evFn_code2 (P := Try.prog) (c := c54_0) (E := E54) (lr := loopLim) (kp := kp54) (fn := Try.f54) (args := [(V.sl t0)]) H K (by kernel_rfl) (Nat.le_of_ble_eq_true (by kernel_rfl)) (by kernel_rfl)
  have e1 : ev Try.prog E54 loopLim Try.f54.ntmps kp54 c54_0 (argFr 0 [(V.sl t0)]) H (kFn Try.prog Try.f54.results.toList K) = ev Try.prog E54 loopLim Try.f54.ntmps kp54 c54_0 [(0, (V.sl t0))] H (kFn Try.prog Try.f54.results.toList K) := by kernel_rfl
  refine (e0.trans e1).trans ?_
  delta g54_r
  exact (g54_p0_eq t0 H (kFn Try.prog Try.f54.results.toList K)).trans (congrArg (g54_p0 R t0 H) (funext fun t2 => funext fun H => h0 t2 H))
theorem g54_ok : FunOK Try.prog 54 (w54 (g54_r)) := by
  refine (runF_ok (E54_good) mixed lim_ok Try.func54 (by kernel_rfl) kp54).of_le fun R args H K r hk => ?_
  unfold w54 at hk
  split at hk
  · exact (g54_fn _ H K).trans hk
  · cases hk
def kp36 : Nat → Option (List Nat) := kpOf [(0, [0]), (1, [2]), (300000, [2])]
def E36 (a55 : T55) (a54 : T54) : FEnv := [(55, w55 a55), (54, w54 a54)]
theorem E36_good {a55 : T55} {a54 : T54} (oa55 : FunOK Try.prog 55 (w55 a55)) (oa54 : FunOK Try.prog 54 (w54 a54)) (la55 : Lin55 a55) (la54 : Lin54 a54) : EnvGood Try.prog (E36 a55 a54) := (((EnvGood.nil _).cons oa54 (w54_lin la54)).cons oa55 (w55_lin la55))
theorem E36_lin {a55 : T55} {a54 : T54} (la55 : Lin55 a55) (la54 : Lin54 a54) : EnvLin (E36 a55 a54) := by
  intro g F h
  simp only [E36, List.mem_cons, List.not_mem_nil, or_false] at h
  rcases h with h | h
  · cases h; exact w55_lin la55
  · cases h; exact w54_lin la54
noncomputable def b36 : Code := Try.f36.body.getD .skip
noncomputable def c36_0 : Code := (.seq (codeAt [0] b36) (.seq (codeAt [1, 0] b36) .ret))
noncomputable def g36_p0 (a55 : T55) (a54 : T54) (R : Type) (t0 : Sl) (H : Heap) (kR : Sl → Heap → Option R) : Option R :=
  a55 R t0 H fun x1 h2 =>
  a54 R x1 h2 fun x3 h4 =>
  kR x3 h4
theorem g36_p0_eq (a55 : T55) (a54 : T54) (la55 : Lin55 a55) (la54 : Lin54 a54) {R : Type} (t0 : Sl) (H : Heap) (K : Ex → Fr → Heap → Option R) : ev Try.prog (E36 a55 a54) loopLim Try.f36.ntmps kp36 c36_0 [(0, (V.sl t0))] H K = g36_p0 a55 a54 R t0 H (fun t2 H => K .ret [(2, (V.sl t2))] H) := by kernel_rfl
theorem g36_p0_lin {a55 : T55} {a54 : T54} (la55 : Lin55 a55) (la54 : Lin54 a54) {R S : Type} {k : S → Option R} {t0 : Sl} {H : Heap} {fkR : Sl → Heap → Option R} {gkR : Sl → Heap → Option S} (hkR : ∀ t2 H, fkR t2 H = (gkR t2 H).bind k) : g36_p0 a55 a54 R t0 H fkR = (g36_p0 a55 a54 S t0 H gkR).bind k := by
  delta g36_p0; exact (
    la55.l fun x1 h2 =>
    la54.l fun x3 h4 =>
    hkR _ _)
noncomputable def g36_r (a55 : T55) (a54 : T54) : T36 := fun R t0 H K =>
  g36_p0 a55 a54 R t0 H (fun t2 H =>
    K t2 H)
theorem g36_r_lin {a55 : T55} {a54 : T54} (la55 : Lin55 a55) (la54 : Lin54 a54) : Lin36 (g36_r a55 a54) := by
  constructor
  intro R S k t0 H f g h
  exact g36_p0_lin la55 la54 (fun t2 H =>
    h _ _)
theorem g36_fn (a55 : T55) (a54 : T54) (la55 : Lin55 a55) (la54 : Lin54 a54) {R : Type} (t0 : Sl) (H : Heap) (K : V → Heap → Option R) : evFn Try.prog (E36 a55 a54) loopLim Try.f36 kp36 [(V.sl t0)] H K = g36_r a55 a54 R t0 H (fun r0 H => K (V.sl r0) H) := by
  have h0 : ∀ (t2 : Sl) (H : Heap), kFn Try.prog Try.f36.results.toList K .ret [(2, (V.sl t2))] H =
      K (V.sl t2) H := by intros; kernel_rfl
  have e0 := evFn_code2 (P := Try.prog) (c := c36_0) (E := (E36 a55 a54)) (lr := loopLim) (kp := kp36) (fn := Try.f36) (args := [(V.sl t0)]) H K (by kernel_rfl) (Nat.le_of_ble_eq_true (by kernel_rfl)) (by kernel_rfl)
  have e1 : ev Try.prog (E36 a55 a54) loopLim Try.f36.ntmps kp36 c36_0 (argFr 0 [(V.sl t0)]) H (kFn Try.prog Try.f36.results.toList K) = ev Try.prog (E36 a55 a54) loopLim Try.f36.ntmps kp36 c36_0 [(0, (V.sl t0))] H (kFn Try.prog Try.f36.results.toList K) := by kernel_rfl
  refine (e0.trans e1).trans ?_
  delta g36_r
  exact (g36_p0_eq a55 a54 la55 la54 t0 H (kFn Try.prog Try.f36.results.toList K)).trans (congrArg (g36_p0 a55 a54 R t0 H) (funext fun t2 => funext fun H => h0 t2 H))
theorem g36_ok {a55 : T55} {a54 : T54} (oa55 : FunOK Try.prog 55 (w55 a55)) (oa54 : FunOK Try.prog 54 (w54 a54)) (la55 : Lin55 a55) (la54 : Lin54 a54) : FunOK Try.prog 36 (w36 (g36_r a55 a54)) := by
  refine (runF_ok (E36_good oa55 oa54 la55 la54) mixed lim_ok Try.func36 (by kernel_rfl) kp36).of_le fun R args H K r hk => ?_
  unfold w36 at hk
  split at hk
  · exact (g36_fn a55 a54 la55 la54 _ H K).trans hk
  · cases hk
end Go.Proofs.Ytnlfkllnmobppaa

