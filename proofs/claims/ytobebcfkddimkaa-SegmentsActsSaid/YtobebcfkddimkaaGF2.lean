/- Printed: functions as the machine runs them. -/
import Derived.Test.YtobebcfkddimkaaGT
namespace Go.Proofs.Ytobebcfkddimkaa
open Go AM Go.RowKit
set_option linter.unusedVariables false
def kp15 : Nat → Option (List Nat) := kpOf [(0, [0, 1]), (1, [0, 1, 19]), (2, [4]), (3, [0, 1, 5]), (4, [0, 1, 5, 23]), (5, [0, 1, 5]), (6, [0, 1, 5, 69]), (7, [4]), (8, [0, 1, 5, 6]), (9, [0, 1, 5, 6, 7]), (10, [0, 1, 5, 6, 7, 73]), (11, [0, 1, 5, 6, 7]), (12, [0, 1, 5, 6, 7, 84]), (13, [0, 1, 5, 6, 7]), (14, [0, 1, 5, 6, 7, 95]), (15, [0, 1, 5, 6, 7]), (16, [0, 1, 5, 99]), (17, [4]), (18, [4]), (100000, []), (100001, [0, 1, 5]), (100002, [0, 1, 5, 6]), (100003, [0, 1, 5, 6, 7]), (200000, [0, 1, 5]), (200001, [0, 1, 5]), (200002, [0, 1, 5, 6, 7]), (200003, [0, 1, 5, 6, 7]), (300000, [4]), (400019, [0, 1]), (400023, [0, 1, 5]), (400069, [0, 1, 5]), (400073, [0, 1, 5, 6, 7]), (400084, [0, 1, 5, 6, 7]), (400095, [0, 1, 5, 6, 7]), (400099, [0, 1, 5])]
def E15 : FEnv := []
theorem E15_good : EnvGood Try.prog E15 := (EnvGood.nil _)
theorem E15_lin : EnvLin E15 := fun g F h => by cases h
def lv15 : Nat → Bool := lvOf []
noncomputable def b15 : Code := Try.f15.body.getD .skip
noncomputable def c15_0 : Code := (.seq (codeAt [1, 1, 0, 1, 0, 0, 1, 0, 0, 1, 1, 0, 1, 0, 0, 0, 0] b15) (.seq (.cond (.tmp 73) .skip (.exit 2)) (.seq (.block 3 (.seq (codeAt [1, 1, 0, 1, 0, 0, 1, 0, 0, 1, 1, 0, 1, 0, 0, 1, 0, 0, 0, 0] b15) (.seq (.cond (.tmp 84) (codeAt [1, 1, 0, 1, 0, 0, 1, 0, 0, 1, 1, 0, 1, 0, 0, 1, 0, 0, 0, 1, 0] b15) .skip) (.seq (codeAt [1, 1, 0, 1, 0, 0, 1, 0, 0, 1, 1, 0, 1, 0, 0, 1, 0, 0, 1, 0] b15) (.cond (.tmp 95) (codeAt [1, 1, 0, 1, 0, 0, 1, 0, 0, 1, 1, 0, 1, 0, 0, 1, 0, 0, 1, 1, 0] b15) .skip))))) (codeAt [1, 1, 0, 1, 0, 0, 1, 0, 0, 1, 1, 0, 1, 0, 0, 1, 1] b15))))
noncomputable def c15_1 : Code := (.loop c15_0)
noncomputable def c15_2 : Code := (.block 2 c15_1)
noncomputable def c15_3 : Code := (.seq (codeAt [1, 1, 0, 1, 0, 0, 1, 0, 0, 1, 1, 1, 0] b15) (.cond (.tmp 99) (.seq (codeAt [1, 1, 0, 1, 0, 0, 1, 0, 0, 1, 1, 1, 1, 0, 0] b15) .ret) .skip))
noncomputable def c15_4 : Code := (.seq c15_2 c15_3)
noncomputable def c15_5 : Code := (.seq (.cond (.tmp 69) (.seq (codeAt [1, 1, 0, 1, 0, 0, 1, 0, 0, 0, 1, 0, 0] b15) .ret) .skip) (.seq (codeAt [1, 1, 0, 1, 0, 0, 1, 0, 0, 1, 0] b15) (.seq (codeAt [1, 1, 0, 1, 0, 0, 1, 0, 0, 1, 1, 0, 0] b15) c15_4)))
noncomputable def c15_6 : Code := (.seq (codeAt [1, 1, 0, 1, 0, 0, 1, 0, 0, 0, 0] b15) c15_5)
noncomputable def c15_7 : Code := (.block 1 c15_6)
noncomputable def c15_8 : Code := (codeAt [1, 1, 0, 1, 0, 0, 1, 1] b15)
noncomputable def c15_9 : Code := (.seq c15_7 c15_8)
noncomputable def c15_10 : Code := (.seq (codeAt [1, 1, 0, 1, 0, 0, 0, 0] b15) (.seq (.cond (.tmp 23) .skip (.exit 0)) c15_9))
noncomputable def c15_11 : Code := (.loop c15_10)
noncomputable def c15_12 : Code := (.block 0 c15_11)
noncomputable def c15_13 : Code := (.seq (codeAt [1, 1, 1, 0] b15) .ret)
noncomputable def c15_14 : Code := (.seq c15_12 c15_13)
noncomputable def c15_15 : Code := (.seq (codeAt [0] b15) (.seq (codeAt [1, 0, 0] b15) (.seq (.cond (.tmp 19) (.seq (codeAt [1, 0, 1, 0, 0] b15) .ret) .skip) (.seq (codeAt [1, 1, 0, 0] b15) c15_14))))
noncomputable def g15_p0 (R : Type) (t0 : Sl) (t1 : Sl) (H : Heap) (kN : Sl → Sl → Int → Heap → Option R) (kR : Bool → Heap → Option R) : Option R :=
  sel (((t0.len : Nat) : Int) != ((t1.len : Nat) : Int)) (
    kR false H) (
    capK t0.cap fun c3 =>
    sel (((c3 : Nat) : Int) != ((t0.len : Nat) : Int)) (
      kR false H) (
      kN t0 t1 (0 : Int) H))
theorem g15_p0_eq {R : Type} (c2 : Code) (t0 : Sl) (t1 : Sl) (H : Heap) (K : Ex → Fr → Heap → Option R) : ev2 Try.prog E15 loopLim lv15 Try.f15.ntmps kp15 (.seq (codeAt [0] b15) (.seq (codeAt [1, 0, 0] b15) (.seq (.cond (.tmp 19) (.seq (codeAt [1, 0, 1, 0, 0] b15) .ret) .skip) (.seq (codeAt [1, 1, 0, 0] b15) c2)))) [(0, (V.sl t0)), (1, (V.sl t1))] H K = g15_p0 R t0 t1 H (fun t0 t1 t5 H => ev2 Try.prog E15 loopLim lv15 Try.f15.ntmps kp15 c2 [(0, (V.sl t0)), (1, (V.sl t1)), (5, (V.i .i64 t5))] H K) (fun t4 H => K .ret [(4, (V.b t4))] H) := by kernel_rfl
theorem g15_p0_lin {R S : Type} {k : S → Option R} {t0 : Sl} {t1 : Sl} {H : Heap} {fkN : Sl → Sl → Int → Heap → Option R} {gkN : Sl → Sl → Int → Heap → Option S} {fkR : Bool → Heap → Option R} {gkR : Bool → Heap → Option S} (hkN : ∀ t0 t1 t5 H, fkN t0 t1 t5 H = (gkN t0 t1 t5 H).bind k) (hkR : ∀ t4 H, fkR t4 H = (gkR t4 H).bind k) : g15_p0 R t0 t1 H fkN fkR = (g15_p0 S t0 t1 H gkN gkR).bind k := by
  delta g15_p0; exact (
    sl_lin (
      hkR _ _) (
      capK_lin fun c3 =>
      sl_lin (
        hkR _ _) (
        hkN _ _ _ _)))
noncomputable def g15_p1 (R : Type) (t0 : Sl) (t1 : Sl) (t5 : Int) (H : Heap) (kN : Sl → Sl → Int → Heap → Option R) (kE0 : Heap → Option R) : Option R :=
  sel (decide (t5 < ((t0.len : Nat) : Int))) (
    kN t0 t1 t5 H) (
    kE0 H)
theorem g15_p1_eq {R : Type} (c2 : Code) (t0 : Sl) (t1 : Sl) (t5 : Int) (H : Heap) (K : Ex → Fr → Heap → Option R) : ev2 Try.prog E15 loopLim lv15 Try.f15.ntmps kp15 (.seq (codeAt [1, 1, 0, 1, 0, 0, 0, 0] b15) (.seq (.cond (.tmp 23) .skip (.exit 0)) c2)) [(0, (V.sl t0)), (1, (V.sl t1)), (5, (V.i .i64 t5))] H K = g15_p1 R t0 t1 t5 H (fun t0 t1 t5 H => ev2 Try.prog E15 loopLim lv15 Try.f15.ntmps kp15 c2 [(0, (V.sl t0)), (1, (V.sl t1)), (5, (V.i .i64 t5))] H K) (fun H => K (.exit 0) [] H) := by kernel_rfl
theorem g15_p1_lin {R S : Type} {k : S → Option R} {t0 : Sl} {t1 : Sl} {t5 : Int} {H : Heap} {fkN : Sl → Sl → Int → Heap → Option R} {gkN : Sl → Sl → Int → Heap → Option S} {fkE0 : Heap → Option R} {gkE0 : Heap → Option S} (hkN : ∀ t0 t1 t5 H, fkN t0 t1 t5 H = (gkN t0 t1 t5 H).bind k) (hkE0 : ∀ H, fkE0 H = (gkE0 H).bind k) : g15_p1 R t0 t1 t5 H fkN fkE0 = (g15_p1 S t0 t1 t5 H gkN gkE0).bind k := by
  delta g15_p1; exact (
    sl_lin (
      hkN _ _ _ _) (
      hkE0 _))
noncomputable def g15_p2 (R : Type) (t0 : Sl) (t1 : Sl) (t5 : Int) (H : Heap) (kN : Sl → Sl → Int → Bool → Heap → Option R) : Option R :=
  sel (decide (t5 > (0 : Int))) (
    if 0 ≤ t5 ∧ t5 < ((t0.len : Nat) : Int) then (
      (t0.a).bind fun q4 =>
      ((H).ldI .u16 q4.1 ((q4.2 + Int.toNat t5 * 2) + 0)).bind fun x5 =>
      if 0 ≤ (IntKind.wrap .i64 (t5 - (1 : Int))) ∧ (IntKind.wrap .i64 (t5 - (1 : Int))) < ((t0.len : Nat) : Int) then (
        (t0.a).bind fun q6 =>
        ((H).ldI .u16 q6.1 ((q6.2 + Int.toNat (IntKind.wrap .i64 (t5 - (1 : Int))) * 2) + 0)).bind fun x7 =>
        sel (decide (x5 < x7)) (
          kN t0 t1 t5 true H) (
          if 0 ≤ t5 ∧ t5 < ((t0.len : Nat) : Int) then (
            (t0.a).bind fun q8 =>
            ((H).ldI .u16 q8.1 ((q8.2 + Int.toNat t5 * 2) + 0)).bind fun x9 =>
            if 0 ≤ (IntKind.wrap .i64 (t5 - (1 : Int))) ∧ (IntKind.wrap .i64 (t5 - (1 : Int))) < ((t0.len : Nat) : Int) then (
              (t0.a).bind fun q10 =>
              ((H).ldI .u16 q10.1 ((q10.2 + Int.toNat (IntKind.wrap .i64 (t5 - (1 : Int))) * 2) + 0)).bind fun x11 =>
              sel (x9 == x11) (
                if 0 ≤ t5 ∧ t5 < ((t0.len : Nat) : Int) then (
                  (t0.a).bind fun q12 =>
                  ((H).ldI .u32 q12.1 ((q12.2 + Int.toNat t5 * 2) + 1)).bind fun x13 =>
                  if 0 ≤ (IntKind.wrap .i64 (t5 - (1 : Int))) ∧ (IntKind.wrap .i64 (t5 - (1 : Int))) < ((t0.len : Nat) : Int) then (
                    (t0.a).bind fun q14 =>
                    ((H).ldI .u32 q14.1 ((q14.2 + Int.toNat (IntKind.wrap .i64 (t5 - (1 : Int))) * 2) + 1)).bind fun x15 =>
                    kN t0 t1 t5 (decide (x13 < x15)) H)
                  else (
                    none))
                else (
                  none)) (
                kN t0 t1 t5 false H))
            else (
              none))
          else (
            none)))
      else (
        none))
    else (
      none)) (
    kN t0 t1 t5 false H)
theorem g15_p2_eq {R : Type} (c2 : Code) (t0 : Sl) (t1 : Sl) (t5 : Int) (H : Heap) (K : Ex → Fr → Heap → Option R) : ev2 Try.prog E15 loopLim lv15 Try.f15.ntmps kp15 (.seq (codeAt [1, 1, 0, 1, 0, 0, 1, 0, 0, 0, 0] b15) c2) [(0, (V.sl t0)), (1, (V.sl t1)), (5, (V.i .i64 t5))] H K = g15_p2 R t0 t1 t5 H (fun t0 t1 t5 t69 H => ev2 Try.prog E15 loopLim lv15 Try.f15.ntmps kp15 c2 [(0, (V.sl t0)), (1, (V.sl t1)), (5, (V.i .i64 t5)), (69, (V.b t69))] H K) := by kernel_rfl
theorem g15_p2_lin {R S : Type} {k : S → Option R} {t0 : Sl} {t1 : Sl} {t5 : Int} {H : Heap} {fkN : Sl → Sl → Int → Bool → Heap → Option R} {gkN : Sl → Sl → Int → Bool → Heap → Option S} (hkN : ∀ t0 t1 t5 t69 H, fkN t0 t1 t5 t69 H = (gkN t0 t1 t5 t69 H).bind k) : g15_p2 R t0 t1 t5 H fkN = (g15_p2 S t0 t1 t5 H gkN).bind k := by
  delta g15_p2; exact (
    sl_lin (
      il (
        bl fun q4 =>
        bl fun x5 =>
        il (
          bl fun q6 =>
          bl fun x7 =>
          sl_lin (
            hkN _ _ _ _ _) (
            il (
              bl fun q8 =>
              bl fun x9 =>
              il (
                bl fun q10 =>
                bl fun x11 =>
                sl_lin (
                  il (
                    bl fun q12 =>
                    bl fun x13 =>
                    il (
                      bl fun q14 =>
                      bl fun x15 =>
                      hkN _ _ _ _ _) (
                      rfl)) (
                    rfl)) (
                  hkN _ _ _ _ _)) (
                rfl)) (
              rfl))) (
          rfl)) (
        rfl)) (
      hkN _ _ _ _ _))
noncomputable def g15_p3 (R : Type) (t0 : Sl) (t1 : Sl) (t5 : Int) (t69 : Bool) (H : Heap) (kN : Sl → Sl → Int → Int → Int → Heap → Option R) (kR : Bool → Heap → Option R) : Option R :=
  sel t69 (
    kR false H) (
    kN t0 t1 t5 (0 : Int) (0 : Int) H)
theorem g15_p3_eq {R : Type} (c2 : Code) (t0 : Sl) (t1 : Sl) (t5 : Int) (t69 : Bool) (H : Heap) (K : Ex → Fr → Heap → Option R) : ev2 Try.prog E15 loopLim lv15 Try.f15.ntmps kp15 (.seq (.cond (.tmp 69) (.seq (codeAt [1, 1, 0, 1, 0, 0, 1, 0, 0, 0, 1, 0, 0] b15) .ret) .skip) (.seq (codeAt [1, 1, 0, 1, 0, 0, 1, 0, 0, 1, 0] b15) (.seq (codeAt [1, 1, 0, 1, 0, 0, 1, 0, 0, 1, 1, 0, 0] b15) c2))) [(0, (V.sl t0)), (1, (V.sl t1)), (5, (V.i .i64 t5)), (69, (V.b t69))] H K = g15_p3 R t0 t1 t5 t69 H (fun t0 t1 t5 t6 t7 H => ev2 Try.prog E15 loopLim lv15 Try.f15.ntmps kp15 c2 [(0, (V.sl t0)), (1, (V.sl t1)), (5, (V.i .i64 t5)), (6, (V.i .i64 t6)), (7, (V.i .i64 t7))] H K) (fun t4 H => K .ret [(4, (V.b t4))] H) := by kernel_rfl
theorem g15_p3_lin {R S : Type} {k : S → Option R} {t0 : Sl} {t1 : Sl} {t5 : Int} {t69 : Bool} {H : Heap} {fkN : Sl → Sl → Int → Int → Int → Heap → Option R} {gkN : Sl → Sl → Int → Int → Int → Heap → Option S} {fkR : Bool → Heap → Option R} {gkR : Bool → Heap → Option S} (hkN : ∀ t0 t1 t5 t6 t7 H, fkN t0 t1 t5 t6 t7 H = (gkN t0 t1 t5 t6 t7 H).bind k) (hkR : ∀ t4 H, fkR t4 H = (gkR t4 H).bind k) : g15_p3 R t0 t1 t5 t69 H fkN fkR = (g15_p3 S t0 t1 t5 t69 H gkN gkR).bind k := by
  delta g15_p3; exact (
    sl_lin (
      hkR _ _) (
      hkN _ _ _ _ _ _))
noncomputable def g15_p4 (R : Type) (t0 : Sl) (t1 : Sl) (t5 : Int) (t6 : Int) (t7 : Int) (H : Heap) (kN : Sl → Sl → Int → Int → Int → Heap → Option R) (kE2 : Sl → Sl → Int → Int → Heap → Option R) : Option R :=
  sel (decide (t7 < ((t0.len : Nat) : Int))) (
    if 0 ≤ t7 ∧ t7 < ((t0.len : Nat) : Int) then (
      (t0.a).bind fun q16 =>
      ((H).ldI .u16 q16.1 ((q16.2 + Int.toNat t7 * 2) + 0)).bind fun x17 =>
      ((H).ldI .u32 q16.1 ((q16.2 + Int.toNat t7 * 2) + 1)).bind fun x18 =>
      if 0 ≤ t5 ∧ t5 < ((t0.len : Nat) : Int) then (
        (t0.a).bind fun q19 =>
        ((H).ldI .u16 q19.1 ((q19.2 + Int.toNat t5 * 2) + 0)).bind fun x20 =>
        ((H).ldI .u32 q19.1 ((q19.2 + Int.toNat t5 * 2) + 1)).bind fun x21 =>
        sel ((x17 == x20) && ((x18 == x21) && true)) (
          if 0 ≤ t7 ∧ t7 < ((t1.len : Nat) : Int) then (
            (t1.a).bind fun q22 =>
            ((H).ldI .u16 q22.1 ((q22.2 + Int.toNat t7 * 2) + 0)).bind fun x23 =>
            ((H).ldI .u32 q22.1 ((q22.2 + Int.toNat t7 * 2) + 1)).bind fun x24 =>
            if 0 ≤ t5 ∧ t5 < ((t0.len : Nat) : Int) then (
              (t0.a).bind fun q25 =>
              ((H).ldI .u16 q25.1 ((q25.2 + Int.toNat t5 * 2) + 0)).bind fun x26 =>
              ((H).ldI .u32 q25.1 ((q25.2 + Int.toNat t5 * 2) + 1)).bind fun x27 =>
              sel ((x23 == x26) && ((x24 == x27) && true)) (
                kN t0 t1 t5 (IntKind.wrap .i64 ((IntKind.wrap .i64 (t6 + (1 : Int))) - (1 : Int))) (IntKind.wrap .i64 (t7 + (1 : Int))) H) (
                kN t0 t1 t5 (IntKind.wrap .i64 (t6 + (1 : Int))) (IntKind.wrap .i64 (t7 + (1 : Int))) H))
            else (
              none))
          else (
            none)) (
          if 0 ≤ t7 ∧ t7 < ((t1.len : Nat) : Int) then (
            (t1.a).bind fun q28 =>
            ((H).ldI .u16 q28.1 ((q28.2 + Int.toNat t7 * 2) + 0)).bind fun x29 =>
            ((H).ldI .u32 q28.1 ((q28.2 + Int.toNat t7 * 2) + 1)).bind fun x30 =>
            if 0 ≤ t5 ∧ t5 < ((t0.len : Nat) : Int) then (
              (t0.a).bind fun q31 =>
              ((H).ldI .u16 q31.1 ((q31.2 + Int.toNat t5 * 2) + 0)).bind fun x32 =>
              ((H).ldI .u32 q31.1 ((q31.2 + Int.toNat t5 * 2) + 1)).bind fun x33 =>
              sel ((x29 == x32) && ((x30 == x33) && true)) (
                kN t0 t1 t5 (IntKind.wrap .i64 (t6 - (1 : Int))) (IntKind.wrap .i64 (t7 + (1 : Int))) H) (
                kN t0 t1 t5 t6 (IntKind.wrap .i64 (t7 + (1 : Int))) H))
            else (
              none))
          else (
            none)))
      else (
        none))
    else (
      none)) (
    kE2 t0 t1 t5 t6 H)
theorem g15_p4_eq {R : Type} (t0 : Sl) (t1 : Sl) (t5 : Int) (t6 : Int) (t7 : Int) (H : Heap) (K : Ex → Fr → Heap → Option R) : ev2 Try.prog E15 loopLim lv15 Try.f15.ntmps kp15 c15_0 [(0, (V.sl t0)), (1, (V.sl t1)), (5, (V.i .i64 t5)), (6, (V.i .i64 t6)), (7, (V.i .i64 t7))] H K = g15_p4 R t0 t1 t5 t6 t7 H (fun t0 t1 t5 t6 t7 H => K .normal [(0, (V.sl t0)), (1, (V.sl t1)), (5, (V.i .i64 t5)), (6, (V.i .i64 t6)), (7, (V.i .i64 t7))] H) (fun t0 t1 t5 t6 H => K (.exit 2) [(0, (V.sl t0)), (1, (V.sl t1)), (5, (V.i .i64 t5)), (6, (V.i .i64 t6))] H) := by kernel_rfl
theorem g15_p4_lin {R S : Type} {k : S → Option R} {t0 : Sl} {t1 : Sl} {t5 : Int} {t6 : Int} {t7 : Int} {H : Heap} {fkN : Sl → Sl → Int → Int → Int → Heap → Option R} {gkN : Sl → Sl → Int → Int → Int → Heap → Option S} {fkE2 : Sl → Sl → Int → Int → Heap → Option R} {gkE2 : Sl → Sl → Int → Int → Heap → Option S} (hkN : ∀ t0 t1 t5 t6 t7 H, fkN t0 t1 t5 t6 t7 H = (gkN t0 t1 t5 t6 t7 H).bind k) (hkE2 : ∀ t0 t1 t5 t6 H, fkE2 t0 t1 t5 t6 H = (gkE2 t0 t1 t5 t6 H).bind k) : g15_p4 R t0 t1 t5 t6 t7 H fkN fkE2 = (g15_p4 S t0 t1 t5 t6 t7 H gkN gkE2).bind k := by
  delta g15_p4; exact (
    sl_lin (
      il (
        bl fun q16 =>
        bl fun x17 =>
        bl fun x18 =>
        il (
          bl fun q19 =>
          bl fun x20 =>
          bl fun x21 =>
          sl_lin (
            il (
              bl fun q22 =>
              bl fun x23 =>
              bl fun x24 =>
              il (
                bl fun q25 =>
                bl fun x26 =>
                bl fun x27 =>
                sl_lin (
                  hkN _ _ _ _ _ _) (
                  hkN _ _ _ _ _ _)) (
                rfl)) (
              rfl)) (
            il (
              bl fun q28 =>
              bl fun x29 =>
              bl fun x30 =>
              il (
                bl fun q31 =>
                bl fun x32 =>
                bl fun x33 =>
                sl_lin (
                  hkN _ _ _ _ _ _) (
                  hkN _ _ _ _ _ _)) (
                rfl)) (
              rfl))) (
          rfl)) (
        rfl)) (
      hkE2 _ _ _ _ _))
abbrev g15_p5_S := Sl × Sl × Int × Int × Int
abbrev g15_p5_O := Sl × Sl × Int × Int
def g15_p5_es (s : g15_p5_S) : Fr := [(0, (V.sl s.1)), (1, (V.sl s.2.1)), (5, (V.i .i64 s.2.2.1)), (6, (V.i .i64 s.2.2.2.1)), (7, (V.i .i64 s.2.2.2.2))]
def g15_p5_er (r : g15_p5_O) : Ex × Fr := ((.exit 2), [(0, (V.sl r.1)), (1, (V.sl r.2.1)), (5, (V.i .i64 r.2.2.1)), (6, (V.i .i64 r.2.2.2))])
noncomputable def g15_p5_b (s : g15_p5_S) (H : Heap) : Option (Rd g15_p5_S g15_p5_O × Heap) :=
  g15_p4 _ s.1 s.2.1 s.2.2.1 s.2.2.2.1 s.2.2.2.2 H (fun t0 t1 t5 t6 t7 H => some (.go (t0, t1, t5, t6, t7), H)) (fun t0 t1 t5 t6 H => some (.up (t0, t1, t5, t6), H))
noncomputable def g15_p5 (R : Type) (t0 : Sl) (t1 : Sl) (t5 : Int) (t6 : Int) (t7 : Int) (H : Heap) (kE2 : Sl → Sl → Int → Int → Heap → Option R) : Option R :=
  (tlim (g15_p5_b) (t0, t1, t5, t6, t7) H).bind fun p => kE2 p.1.1 p.1.2.1 p.1.2.2.1 p.1.2.2.2 p.2
theorem g15_p5_lin {R S : Type} {k : S → Option R} {t0 : Sl} {t1 : Sl} {t5 : Int} {t6 : Int} {t7 : Int} {H : Heap} {fkE2 : Sl → Sl → Int → Int → Heap → Option R} {gkE2 : Sl → Sl → Int → Int → Heap → Option S} (hkE2 : ∀ t0 t1 t5 t6 H, fkE2 t0 t1 t5 t6 H = (gkE2 t0 t1 t5 t6 H).bind k) : g15_p5 R t0 t1 t5 t6 t7 H fkE2 = (g15_p5 S t0 t1 t5 t6 t7 H gkE2).bind k := by
  exact bl fun p => hkE2 _ _ _ _ _
theorem g15_p5_eq {R : Type} (t0 : Sl) (t1 : Sl) (t5 : Int) (t6 : Int) (t7 : Int) (H : Heap) (K : Ex → Fr → Heap → Option R) : ev2 Try.prog E15 loopLim lv15 Try.f15.ntmps kp15 c15_1 [(0, (V.sl t0)), (1, (V.sl t1)), (5, (V.i .i64 t5)), (6, (V.i .i64 t6)), (7, (V.i .i64 t7))] H K = g15_p5 R t0 t1 t5 t6 t7 H (fun t0 t1 t5 t6 H => K (.exit 2) [(0, (V.sl t0)), (1, (V.sl t1)), (5, (V.i .i64 t5)), (6, (V.i .i64 t6))] H) := by
  show ev2 Try.prog E15 loopLim lv15 Try.f15.ntmps kp15 (.loop c15_0) [(0, (V.sl t0)), (1, (V.sl t1)), (5, (V.i .i64 t5)), (6, (V.i .i64 t6)), (7, (V.i .i64 t7))] H K = _
  delta g15_p5
  refine (ev2_tlim (b := g15_p5_b) (es := g15_p5_es) (er := g15_p5_er) (by intro r; exact nofun) (fun s H => ?_) (t0, t1, t5, t6, t7) H K).trans (bc fun p => rfl)
  exact (g15_p4_eq s.1 s.2.1 s.2.2.1 s.2.2.2.1 s.2.2.2.2 H ret3).trans (g15_p4_lin (fun _ _ _ _ _ _ => rfl) (fun _ _ _ _ _ => rfl))
noncomputable def g15_p6 (R : Type) (t0 : Sl) (t1 : Sl) (t5 : Int) (t6 : Int) (t7 : Int) (H : Heap) (kN : Sl → Sl → Int → Int → Heap → Option R) : Option R :=
  g15_p5 R t0 t1 t5 t6 t7 H (fun t0 t1 t5 t6 H => kN t0 t1 t5 t6 H)
theorem g15_p6_lin {R S : Type} {k : S → Option R} {t0 : Sl} {t1 : Sl} {t5 : Int} {t6 : Int} {t7 : Int} {H : Heap} {fkN : Sl → Sl → Int → Int → Heap → Option R} {gkN : Sl → Sl → Int → Int → Heap → Option S} (hkN : ∀ t0 t1 t5 t6 H, fkN t0 t1 t5 t6 H = (gkN t0 t1 t5 t6 H).bind k) : g15_p6 R t0 t1 t5 t6 t7 H fkN = (g15_p6 S t0 t1 t5 t6 t7 H gkN).bind k := by
  exact g15_p5_lin (fun _ _ _ _ _ => hkN _ _ _ _ _)
theorem g15_p6_eq {R : Type} (t0 : Sl) (t1 : Sl) (t5 : Int) (t6 : Int) (t7 : Int) (H : Heap) (K : Ex → Fr → Heap → Option R) : ev2 Try.prog E15 loopLim lv15 Try.f15.ntmps kp15 c15_2 [(0, (V.sl t0)), (1, (V.sl t1)), (5, (V.i .i64 t5)), (6, (V.i .i64 t6)), (7, (V.i .i64 t7))] H K = g15_p6 R t0 t1 t5 t6 t7 H (fun t0 t1 t5 t6 H => K .normal [(0, (V.sl t0)), (1, (V.sl t1)), (5, (V.i .i64 t5)), (6, (V.i .i64 t6))] H) := by
  show ev2 Try.prog E15 loopLim lv15 Try.f15.ntmps kp15 (.block 2 c15_1) [(0, (V.sl t0)), (1, (V.sl t1)), (5, (V.i .i64 t5)), (6, (V.i .i64 t6)), (7, (V.i .i64 t7))] H K = _
  rw [ev2_block]
  delta g15_p6
  exact (g15_p5_eq t0 t1 t5 t6 t7 H (kBlock kp15 2 K))
noncomputable def g15_p7 (R : Type) (t0 : Sl) (t1 : Sl) (t5 : Int) (t6 : Int) (H : Heap) (kN : Sl → Sl → Int → Heap → Option R) (kR : Bool → Heap → Option R) : Option R :=
  sel (t6 != (0 : Int)) (
    kR false H) (
    kN t0 t1 t5 H)
theorem g15_p7_eq {R : Type} (t0 : Sl) (t1 : Sl) (t5 : Int) (t6 : Int) (H : Heap) (K : Ex → Fr → Heap → Option R) : ev2 Try.prog E15 loopLim lv15 Try.f15.ntmps kp15 c15_3 [(0, (V.sl t0)), (1, (V.sl t1)), (5, (V.i .i64 t5)), (6, (V.i .i64 t6))] H K = g15_p7 R t0 t1 t5 t6 H (fun t0 t1 t5 H => K .normal [(0, (V.sl t0)), (1, (V.sl t1)), (5, (V.i .i64 t5))] H) (fun t4 H => K .ret [(4, (V.b t4))] H) := by kernel_rfl
theorem g15_p7_lin {R S : Type} {k : S → Option R} {t0 : Sl} {t1 : Sl} {t5 : Int} {t6 : Int} {H : Heap} {fkN : Sl → Sl → Int → Heap → Option R} {gkN : Sl → Sl → Int → Heap → Option S} {fkR : Bool → Heap → Option R} {gkR : Bool → Heap → Option S} (hkN : ∀ t0 t1 t5 H, fkN t0 t1 t5 H = (gkN t0 t1 t5 H).bind k) (hkR : ∀ t4 H, fkR t4 H = (gkR t4 H).bind k) : g15_p7 R t0 t1 t5 t6 H fkN fkR = (g15_p7 S t0 t1 t5 t6 H gkN gkR).bind k := by
  delta g15_p7; exact (
    sl_lin (
      hkR _ _) (
      hkN _ _ _ _))
noncomputable def g15_p8 (R : Type) (t0 : Sl) (t1 : Sl) (t5 : Int) (t6 : Int) (t7 : Int) (H : Heap) (kN : Sl → Sl → Int → Heap → Option R) (kR : Bool → Heap → Option R) : Option R :=
  g15_p6 R t0 t1 t5 t6 t7 H (fun t0 t1 t5 t6 H => g15_p7 R t0 t1 t5 t6 H (fun t0 t1 t5 H => kN t0 t1 t5 H) (fun t4 H => kR t4 H))
theorem g15_p8_lin {R S : Type} {k : S → Option R} {t0 : Sl} {t1 : Sl} {t5 : Int} {t6 : Int} {t7 : Int} {H : Heap} {fkN : Sl → Sl → Int → Heap → Option R} {gkN : Sl → Sl → Int → Heap → Option S} {fkR : Bool → Heap → Option R} {gkR : Bool → Heap → Option S} (hkN : ∀ t0 t1 t5 H, fkN t0 t1 t5 H = (gkN t0 t1 t5 H).bind k) (hkR : ∀ t4 H, fkR t4 H = (gkR t4 H).bind k) : g15_p8 R t0 t1 t5 t6 t7 H fkN fkR = (g15_p8 S t0 t1 t5 t6 t7 H gkN gkR).bind k := by
  exact g15_p6_lin (fun _ _ _ _ _ => g15_p7_lin (fun _ _ _ _ => hkN _ _ _ _) (fun _ _ => hkR _ _))
theorem g15_p8_eq {R : Type} (t0 : Sl) (t1 : Sl) (t5 : Int) (t6 : Int) (t7 : Int) (H : Heap) (K : Ex → Fr → Heap → Option R) : ev2 Try.prog E15 loopLim lv15 Try.f15.ntmps kp15 c15_4 [(0, (V.sl t0)), (1, (V.sl t1)), (5, (V.i .i64 t5)), (6, (V.i .i64 t6)), (7, (V.i .i64 t7))] H K = g15_p8 R t0 t1 t5 t6 t7 H (fun t0 t1 t5 H => K .normal [(0, (V.sl t0)), (1, (V.sl t1)), (5, (V.i .i64 t5))] H) (fun t4 H => K .ret [(4, (V.b t4))] H) := by
  show ev2 Try.prog E15 loopLim lv15 Try.f15.ntmps kp15 (.seq c15_2 c15_3) [(0, (V.sl t0)), (1, (V.sl t1)), (5, (V.i .i64 t5)), (6, (V.i .i64 t6)), (7, (V.i .i64 t7))] H K = _
  rw [ev2_seq]
  delta g15_p8
  exact (g15_p6_eq t0 t1 t5 t6 t7 H (kSeq (fun fr H => ev2 Try.prog E15 loopLim lv15 Try.f15.ntmps kp15 c15_3 fr H K) K)).trans (congrArg (g15_p6 R t0 t1 t5 t6 t7 H) (funext fun t0 => funext fun t1 => funext fun t5 => funext fun t6 => funext fun H => (kSeq_n _ _ _ _).trans (g15_p7_eq t0 t1 t5 t6 H K)))
noncomputable def g15_p9 (R : Type) (t0 : Sl) (t1 : Sl) (t5 : Int) (t69 : Bool) (H : Heap) (kN : Sl → Sl → Int → Heap → Option R) (kR : Bool → Heap → Option R) : Option R :=
  g15_p3 R t0 t1 t5 t69 H (fun t0 t1 t5 t6 t7 H => g15_p8 R t0 t1 t5 t6 t7 H (fun t0 t1 t5 H => kN t0 t1 t5 H) (fun t4 H => kR t4 H)) (fun t4 H => kR t4 H)
theorem g15_p9_lin {R S : Type} {k : S → Option R} {t0 : Sl} {t1 : Sl} {t5 : Int} {t69 : Bool} {H : Heap} {fkN : Sl → Sl → Int → Heap → Option R} {gkN : Sl → Sl → Int → Heap → Option S} {fkR : Bool → Heap → Option R} {gkR : Bool → Heap → Option S} (hkN : ∀ t0 t1 t5 H, fkN t0 t1 t5 H = (gkN t0 t1 t5 H).bind k) (hkR : ∀ t4 H, fkR t4 H = (gkR t4 H).bind k) : g15_p9 R t0 t1 t5 t69 H fkN fkR = (g15_p9 S t0 t1 t5 t69 H gkN gkR).bind k := by
  exact g15_p3_lin (fun _ _ _ _ _ _ => g15_p8_lin (fun _ _ _ _ => hkN _ _ _ _) (fun _ _ => hkR _ _)) (fun _ _ => hkR _ _)
theorem g15_p9_eq {R : Type} (t0 : Sl) (t1 : Sl) (t5 : Int) (t69 : Bool) (H : Heap) (K : Ex → Fr → Heap → Option R) : ev2 Try.prog E15 loopLim lv15 Try.f15.ntmps kp15 c15_5 [(0, (V.sl t0)), (1, (V.sl t1)), (5, (V.i .i64 t5)), (69, (V.b t69))] H K = g15_p9 R t0 t1 t5 t69 H (fun t0 t1 t5 H => K .normal [(0, (V.sl t0)), (1, (V.sl t1)), (5, (V.i .i64 t5))] H) (fun t4 H => K .ret [(4, (V.b t4))] H) := by
  show ev2 Try.prog E15 loopLim lv15 Try.f15.ntmps kp15 (.seq (.cond (.tmp 69) (.seq (codeAt [1, 1, 0, 1, 0, 0, 1, 0, 0, 0, 1, 0, 0] b15) .ret) .skip) (.seq (codeAt [1, 1, 0, 1, 0, 0, 1, 0, 0, 1, 0] b15) (.seq (codeAt [1, 1, 0, 1, 0, 0, 1, 0, 0, 1, 1, 0, 0] b15) c15_4))) [(0, (V.sl t0)), (1, (V.sl t1)), (5, (V.i .i64 t5)), (69, (V.b t69))] H K = _
  delta g15_p9
  exact (g15_p3_eq _ t0 t1 t5 t69 H K).trans (congr (congrArg (g15_p3 R t0 t1 t5 t69 H) (funext fun t0 => funext fun t1 => funext fun t5 => funext fun t6 => funext fun t7 => funext fun H => g15_p8_eq t0 t1 t5 t6 t7 H K)) rfl)
noncomputable def g15_p10 (R : Type) (t0 : Sl) (t1 : Sl) (t5 : Int) (H : Heap) (kN : Sl → Sl → Int → Heap → Option R) (kR : Bool → Heap → Option R) : Option R :=
  g15_p2 R t0 t1 t5 H (fun t0 t1 t5 t69 H => g15_p9 R t0 t1 t5 t69 H (fun t0 t1 t5 H => kN t0 t1 t5 H) (fun t4 H => kR t4 H))
theorem g15_p10_lin {R S : Type} {k : S → Option R} {t0 : Sl} {t1 : Sl} {t5 : Int} {H : Heap} {fkN : Sl → Sl → Int → Heap → Option R} {gkN : Sl → Sl → Int → Heap → Option S} {fkR : Bool → Heap → Option R} {gkR : Bool → Heap → Option S} (hkN : ∀ t0 t1 t5 H, fkN t0 t1 t5 H = (gkN t0 t1 t5 H).bind k) (hkR : ∀ t4 H, fkR t4 H = (gkR t4 H).bind k) : g15_p10 R t0 t1 t5 H fkN fkR = (g15_p10 S t0 t1 t5 H gkN gkR).bind k := by
  exact g15_p2_lin (fun _ _ _ _ _ => g15_p9_lin (fun _ _ _ _ => hkN _ _ _ _) (fun _ _ => hkR _ _))
theorem g15_p10_eq {R : Type} (t0 : Sl) (t1 : Sl) (t5 : Int) (H : Heap) (K : Ex → Fr → Heap → Option R) : ev2 Try.prog E15 loopLim lv15 Try.f15.ntmps kp15 c15_6 [(0, (V.sl t0)), (1, (V.sl t1)), (5, (V.i .i64 t5))] H K = g15_p10 R t0 t1 t5 H (fun t0 t1 t5 H => K .normal [(0, (V.sl t0)), (1, (V.sl t1)), (5, (V.i .i64 t5))] H) (fun t4 H => K .ret [(4, (V.b t4))] H) := by
  show ev2 Try.prog E15 loopLim lv15 Try.f15.ntmps kp15 (.seq (codeAt [1, 1, 0, 1, 0, 0, 1, 0, 0, 0, 0] b15) c15_5) [(0, (V.sl t0)), (1, (V.sl t1)), (5, (V.i .i64 t5))] H K = _
  delta g15_p10
  exact (g15_p2_eq _ t0 t1 t5 H K).trans (congrArg (g15_p2 R t0 t1 t5 H) (funext fun t0 => funext fun t1 => funext fun t5 => funext fun t69 => funext fun H => g15_p9_eq t0 t1 t5 t69 H K))
noncomputable def g15_p11 (R : Type) (t0 : Sl) (t1 : Sl) (t5 : Int) (H : Heap) (kN : Sl → Sl → Int → Heap → Option R) (kR : Bool → Heap → Option R) : Option R :=
  g15_p10 R t0 t1 t5 H (fun t0 t1 t5 H => kN t0 t1 t5 H) (fun t4 H => kR t4 H)
theorem g15_p11_lin {R S : Type} {k : S → Option R} {t0 : Sl} {t1 : Sl} {t5 : Int} {H : Heap} {fkN : Sl → Sl → Int → Heap → Option R} {gkN : Sl → Sl → Int → Heap → Option S} {fkR : Bool → Heap → Option R} {gkR : Bool → Heap → Option S} (hkN : ∀ t0 t1 t5 H, fkN t0 t1 t5 H = (gkN t0 t1 t5 H).bind k) (hkR : ∀ t4 H, fkR t4 H = (gkR t4 H).bind k) : g15_p11 R t0 t1 t5 H fkN fkR = (g15_p11 S t0 t1 t5 H gkN gkR).bind k := by
  exact g15_p10_lin (fun _ _ _ _ => hkN _ _ _ _) (fun _ _ => hkR _ _)
theorem g15_p11_eq {R : Type} (t0 : Sl) (t1 : Sl) (t5 : Int) (H : Heap) (K : Ex → Fr → Heap → Option R) : ev2 Try.prog E15 loopLim lv15 Try.f15.ntmps kp15 c15_7 [(0, (V.sl t0)), (1, (V.sl t1)), (5, (V.i .i64 t5))] H K = g15_p11 R t0 t1 t5 H (fun t0 t1 t5 H => K .normal [(0, (V.sl t0)), (1, (V.sl t1)), (5, (V.i .i64 t5))] H) (fun t4 H => K .ret [(4, (V.b t4))] H) := by
  show ev2 Try.prog E15 loopLim lv15 Try.f15.ntmps kp15 (.block 1 c15_6) [(0, (V.sl t0)), (1, (V.sl t1)), (5, (V.i .i64 t5))] H K = _
  rw [ev2_block]
  delta g15_p11
  exact (g15_p10_eq t0 t1 t5 H (kBlock kp15 1 K))
noncomputable def g15_p12 (R : Type) (t0 : Sl) (t1 : Sl) (t5 : Int) (H : Heap) (kN : Sl → Sl → Int → Heap → Option R) : Option R :=
  kN t0 t1 (IntKind.wrap .i64 (t5 + (1 : Int))) H
theorem g15_p12_eq {R : Type} (t0 : Sl) (t1 : Sl) (t5 : Int) (H : Heap) (K : Ex → Fr → Heap → Option R) : ev2 Try.prog E15 loopLim lv15 Try.f15.ntmps kp15 c15_8 [(0, (V.sl t0)), (1, (V.sl t1)), (5, (V.i .i64 t5))] H K = g15_p12 R t0 t1 t5 H (fun t0 t1 t5 H => K .normal [(0, (V.sl t0)), (1, (V.sl t1)), (5, (V.i .i64 t5))] H) := by kernel_rfl
theorem g15_p12_lin {R S : Type} {k : S → Option R} {t0 : Sl} {t1 : Sl} {t5 : Int} {H : Heap} {fkN : Sl → Sl → Int → Heap → Option R} {gkN : Sl → Sl → Int → Heap → Option S} (hkN : ∀ t0 t1 t5 H, fkN t0 t1 t5 H = (gkN t0 t1 t5 H).bind k) : g15_p12 R t0 t1 t5 H fkN = (g15_p12 S t0 t1 t5 H gkN).bind k := by
  delta g15_p12; exact (
    hkN _ _ _ _)
noncomputable def g15_p13 (R : Type) (t0 : Sl) (t1 : Sl) (t5 : Int) (H : Heap) (kN : Sl → Sl → Int → Heap → Option R) (kR : Bool → Heap → Option R) : Option R :=
  g15_p11 R t0 t1 t5 H (fun t0 t1 t5 H => g15_p12 R t0 t1 t5 H (fun t0 t1 t5 H => kN t0 t1 t5 H)) (fun t4 H => kR t4 H)
theorem g15_p13_lin {R S : Type} {k : S → Option R} {t0 : Sl} {t1 : Sl} {t5 : Int} {H : Heap} {fkN : Sl → Sl → Int → Heap → Option R} {gkN : Sl → Sl → Int → Heap → Option S} {fkR : Bool → Heap → Option R} {gkR : Bool → Heap → Option S} (hkN : ∀ t0 t1 t5 H, fkN t0 t1 t5 H = (gkN t0 t1 t5 H).bind k) (hkR : ∀ t4 H, fkR t4 H = (gkR t4 H).bind k) : g15_p13 R t0 t1 t5 H fkN fkR = (g15_p13 S t0 t1 t5 H gkN gkR).bind k := by
  exact g15_p11_lin (fun _ _ _ _ => g15_p12_lin (fun _ _ _ _ => hkN _ _ _ _)) (fun _ _ => hkR _ _)
theorem g15_p13_eq {R : Type} (t0 : Sl) (t1 : Sl) (t5 : Int) (H : Heap) (K : Ex → Fr → Heap → Option R) : ev2 Try.prog E15 loopLim lv15 Try.f15.ntmps kp15 c15_9 [(0, (V.sl t0)), (1, (V.sl t1)), (5, (V.i .i64 t5))] H K = g15_p13 R t0 t1 t5 H (fun t0 t1 t5 H => K .normal [(0, (V.sl t0)), (1, (V.sl t1)), (5, (V.i .i64 t5))] H) (fun t4 H => K .ret [(4, (V.b t4))] H) := by
  show ev2 Try.prog E15 loopLim lv15 Try.f15.ntmps kp15 (.seq c15_7 c15_8) [(0, (V.sl t0)), (1, (V.sl t1)), (5, (V.i .i64 t5))] H K = _
  rw [ev2_seq]
  delta g15_p13
  exact (g15_p11_eq t0 t1 t5 H (kSeq (fun fr H => ev2 Try.prog E15 loopLim lv15 Try.f15.ntmps kp15 c15_8 fr H K) K)).trans (congr (congrArg (g15_p11 R t0 t1 t5 H) (funext fun t0 => funext fun t1 => funext fun t5 => funext fun H => (kSeq_n _ _ _ _).trans (g15_p12_eq t0 t1 t5 H K))) rfl)
noncomputable def g15_p14 (R : Type) (t0 : Sl) (t1 : Sl) (t5 : Int) (H : Heap) (kN : Sl → Sl → Int → Heap → Option R) (kE0 : Heap → Option R) (kR : Bool → Heap → Option R) : Option R :=
  g15_p1 R t0 t1 t5 H (fun t0 t1 t5 H => g15_p13 R t0 t1 t5 H (fun t0 t1 t5 H => kN t0 t1 t5 H) (fun t4 H => kR t4 H)) (fun H => kE0  H)
theorem g15_p14_lin {R S : Type} {k : S → Option R} {t0 : Sl} {t1 : Sl} {t5 : Int} {H : Heap} {fkN : Sl → Sl → Int → Heap → Option R} {gkN : Sl → Sl → Int → Heap → Option S} {fkE0 : Heap → Option R} {gkE0 : Heap → Option S} {fkR : Bool → Heap → Option R} {gkR : Bool → Heap → Option S} (hkN : ∀ t0 t1 t5 H, fkN t0 t1 t5 H = (gkN t0 t1 t5 H).bind k) (hkE0 : ∀ H, fkE0 H = (gkE0 H).bind k) (hkR : ∀ t4 H, fkR t4 H = (gkR t4 H).bind k) : g15_p14 R t0 t1 t5 H fkN fkE0 fkR = (g15_p14 S t0 t1 t5 H gkN gkE0 gkR).bind k := by
  exact g15_p1_lin (fun _ _ _ _ => g15_p13_lin (fun _ _ _ _ => hkN _ _ _ _) (fun _ _ => hkR _ _)) (fun _ => hkE0 _)
theorem g15_p14_eq {R : Type} (t0 : Sl) (t1 : Sl) (t5 : Int) (H : Heap) (K : Ex → Fr → Heap → Option R) : ev2 Try.prog E15 loopLim lv15 Try.f15.ntmps kp15 c15_10 [(0, (V.sl t0)), (1, (V.sl t1)), (5, (V.i .i64 t5))] H K = g15_p14 R t0 t1 t5 H (fun t0 t1 t5 H => K .normal [(0, (V.sl t0)), (1, (V.sl t1)), (5, (V.i .i64 t5))] H) (fun H => K (.exit 0) [] H) (fun t4 H => K .ret [(4, (V.b t4))] H) := by
  show ev2 Try.prog E15 loopLim lv15 Try.f15.ntmps kp15 (.seq (codeAt [1, 1, 0, 1, 0, 0, 0, 0] b15) (.seq (.cond (.tmp 23) .skip (.exit 0)) c15_9)) [(0, (V.sl t0)), (1, (V.sl t1)), (5, (V.i .i64 t5))] H K = _
  delta g15_p14
  exact (g15_p1_eq _ t0 t1 t5 H K).trans (congr (congrArg (g15_p1 R t0 t1 t5 H) (funext fun t0 => funext fun t1 => funext fun t5 => funext fun H => g15_p13_eq t0 t1 t5 H K)) rfl)
abbrev g15_p15_S := Sl × Sl × Int
abbrev g15_p15_O := Sum (Unit) (Bool)
def g15_p15_es (s : g15_p15_S) : Fr := [(0, (V.sl s.1)), (1, (V.sl s.2.1)), (5, (V.i .i64 s.2.2))]
def g15_p15_er : g15_p15_O → Ex × Fr
  | (.inl r) => ((.exit 0), [])
  | (.inr r) => (.ret, [(4, (V.b r))])
noncomputable def g15_p15_b (s : g15_p15_S) (H : Heap) : Option (Rd g15_p15_S g15_p15_O × Heap) :=
  g15_p14 _ s.1 s.2.1 s.2.2 H (fun t0 t1 t5 H => some (.go (t0, t1, t5), H)) (fun H => some (.up (.inl ()), H)) (fun t4 H => some (.up (.inr t4), H))
noncomputable def g15_p15 (R : Type) (t0 : Sl) (t1 : Sl) (t5 : Int) (H : Heap) (kE0 : Heap → Option R) (kR : Bool → Heap → Option R) : Option R :=
  (tlim (g15_p15_b) (t0, t1, t5) H).bind fun p => cas p.1 (fun r => kE0  p.2) (fun r0 => kR r0 p.2)
theorem g15_p15_lin {R S : Type} {k : S → Option R} {t0 : Sl} {t1 : Sl} {t5 : Int} {H : Heap} {fkE0 : Heap → Option R} {gkE0 : Heap → Option S} {fkR : Bool → Heap → Option R} {gkR : Bool → Heap → Option S} (hkE0 : ∀ H, fkE0 H = (gkE0 H).bind k) (hkR : ∀ t4 H, fkR t4 H = (gkR t4 H).bind k) : g15_p15 R t0 t1 t5 H fkE0 fkR = (g15_p15 S t0 t1 t5 H gkE0 gkR).bind k := by
  exact bl fun p => cas_lin (fun _ => hkE0 _) (fun _ => hkR _ _)
theorem g15_p15_eq {R : Type} (t0 : Sl) (t1 : Sl) (t5 : Int) (H : Heap) (K : Ex → Fr → Heap → Option R) : ev2 Try.prog E15 loopLim lv15 Try.f15.ntmps kp15 c15_11 [(0, (V.sl t0)), (1, (V.sl t1)), (5, (V.i .i64 t5))] H K = g15_p15 R t0 t1 t5 H (fun H => K (.exit 0) [] H) (fun t4 H => K .ret [(4, (V.b t4))] H) := by
  show ev2 Try.prog E15 loopLim lv15 Try.f15.ntmps kp15 (.loop c15_10) [(0, (V.sl t0)), (1, (V.sl t1)), (5, (V.i .i64 t5))] H K = _
  delta g15_p15
  refine (ev2_tlim (b := g15_p15_b) (es := g15_p15_es) (er := g15_p15_er) (by rintro (r | r) <;> exact nofun) (fun s H => ?_) (t0, t1, t5) H K).trans (bc fun p => by rcases p with ⟨(r | r), H⟩ <;> rfl)
  exact (g15_p14_eq s.1 s.2.1 s.2.2 H ret3).trans (g15_p14_lin (fun _ _ _ _ => rfl) (fun _ => rfl) (fun _ _ => rfl))
noncomputable def g15_p16 (R : Type) (t0 : Sl) (t1 : Sl) (t5 : Int) (H : Heap) (kN : Heap → Option R) (kR : Bool → Heap → Option R) : Option R :=
  g15_p15 R t0 t1 t5 H (fun H => kN  H) (fun t4 H => kR t4 H)
theorem g15_p16_lin {R S : Type} {k : S → Option R} {t0 : Sl} {t1 : Sl} {t5 : Int} {H : Heap} {fkN : Heap → Option R} {gkN : Heap → Option S} {fkR : Bool → Heap → Option R} {gkR : Bool → Heap → Option S} (hkN : ∀ H, fkN H = (gkN H).bind k) (hkR : ∀ t4 H, fkR t4 H = (gkR t4 H).bind k) : g15_p16 R t0 t1 t5 H fkN fkR = (g15_p16 S t0 t1 t5 H gkN gkR).bind k := by
  exact g15_p15_lin (fun _ => hkN _) (fun _ _ => hkR _ _)
theorem g15_p16_eq {R : Type} (t0 : Sl) (t1 : Sl) (t5 : Int) (H : Heap) (K : Ex → Fr → Heap → Option R) : ev2 Try.prog E15 loopLim lv15 Try.f15.ntmps kp15 c15_12 [(0, (V.sl t0)), (1, (V.sl t1)), (5, (V.i .i64 t5))] H K = g15_p16 R t0 t1 t5 H (fun H => K .normal [] H) (fun t4 H => K .ret [(4, (V.b t4))] H) := by
  show ev2 Try.prog E15 loopLim lv15 Try.f15.ntmps kp15 (.block 0 c15_11) [(0, (V.sl t0)), (1, (V.sl t1)), (5, (V.i .i64 t5))] H K = _
  rw [ev2_block]
  delta g15_p16
  exact (g15_p15_eq t0 t1 t5 H (kBlock kp15 0 K))
noncomputable def g15_p17 (R : Type) (H : Heap) (kR : Bool → Heap → Option R) : Option R :=
  kR true H
theorem g15_p17_eq {R : Type} (H : Heap) (K : Ex → Fr → Heap → Option R) : ev2 Try.prog E15 loopLim lv15 Try.f15.ntmps kp15 c15_13 [] H K = g15_p17 R H (fun t4 H => K .ret [(4, (V.b t4))] H) := by kernel_rfl
theorem g15_p17_lin {R S : Type} {k : S → Option R} {H : Heap} {fkR : Bool → Heap → Option R} {gkR : Bool → Heap → Option S} (hkR : ∀ t4 H, fkR t4 H = (gkR t4 H).bind k) : g15_p17 R H fkR = (g15_p17 S H gkR).bind k := by
  delta g15_p17; exact (
    hkR _ _)
noncomputable def g15_p18 (R : Type) (t0 : Sl) (t1 : Sl) (t5 : Int) (H : Heap) (kR : Bool → Heap → Option R) : Option R :=
  g15_p16 R t0 t1 t5 H (fun H => g15_p17 R H (fun t4 H => kR t4 H)) (fun t4 H => kR t4 H)
theorem g15_p18_lin {R S : Type} {k : S → Option R} {t0 : Sl} {t1 : Sl} {t5 : Int} {H : Heap} {fkR : Bool → Heap → Option R} {gkR : Bool → Heap → Option S} (hkR : ∀ t4 H, fkR t4 H = (gkR t4 H).bind k) : g15_p18 R t0 t1 t5 H fkR = (g15_p18 S t0 t1 t5 H gkR).bind k := by
  exact g15_p16_lin (fun _ => g15_p17_lin (fun _ _ => hkR _ _)) (fun _ _ => hkR _ _)
theorem g15_p18_eq {R : Type} (t0 : Sl) (t1 : Sl) (t5 : Int) (H : Heap) (K : Ex → Fr → Heap → Option R) : ev2 Try.prog E15 loopLim lv15 Try.f15.ntmps kp15 c15_14 [(0, (V.sl t0)), (1, (V.sl t1)), (5, (V.i .i64 t5))] H K = g15_p18 R t0 t1 t5 H (fun t4 H => K .ret [(4, (V.b t4))] H) := by
  show ev2 Try.prog E15 loopLim lv15 Try.f15.ntmps kp15 (.seq c15_12 c15_13) [(0, (V.sl t0)), (1, (V.sl t1)), (5, (V.i .i64 t5))] H K = _
  rw [ev2_seq]
  delta g15_p18
  exact (g15_p16_eq t0 t1 t5 H (kSeq (fun fr H => ev2 Try.prog E15 loopLim lv15 Try.f15.ntmps kp15 c15_13 fr H K) K)).trans (congr (congrArg (g15_p16 R t0 t1 t5 H) (funext fun H => (kSeq_n _ _ _ _).trans (g15_p17_eq H K))) rfl)
noncomputable def g15_p19 (R : Type) (t0 : Sl) (t1 : Sl) (H : Heap) (kR : Bool → Heap → Option R) : Option R :=
  g15_p0 R t0 t1 H (fun t0 t1 t5 H => g15_p18 R t0 t1 t5 H (fun t4 H => kR t4 H)) (fun t4 H => kR t4 H)
theorem g15_p19_lin {R S : Type} {k : S → Option R} {t0 : Sl} {t1 : Sl} {H : Heap} {fkR : Bool → Heap → Option R} {gkR : Bool → Heap → Option S} (hkR : ∀ t4 H, fkR t4 H = (gkR t4 H).bind k) : g15_p19 R t0 t1 H fkR = (g15_p19 S t0 t1 H gkR).bind k := by
  exact g15_p0_lin (fun _ _ _ _ => g15_p18_lin (fun _ _ => hkR _ _)) (fun _ _ => hkR _ _)
theorem g15_p19_eq {R : Type} (t0 : Sl) (t1 : Sl) (H : Heap) (K : Ex → Fr → Heap → Option R) : ev2 Try.prog E15 loopLim lv15 Try.f15.ntmps kp15 c15_15 [(0, (V.sl t0)), (1, (V.sl t1))] H K = g15_p19 R t0 t1 H (fun t4 H => K .ret [(4, (V.b t4))] H) := by
  show ev2 Try.prog E15 loopLim lv15 Try.f15.ntmps kp15 (.seq (codeAt [0] b15) (.seq (codeAt [1, 0, 0] b15) (.seq (.cond (.tmp 19) (.seq (codeAt [1, 0, 1, 0, 0] b15) .ret) .skip) (.seq (codeAt [1, 1, 0, 0] b15) c15_14)))) [(0, (V.sl t0)), (1, (V.sl t1))] H K = _
  delta g15_p19
  exact (g15_p0_eq _ t0 t1 H K).trans (congr (congrArg (g15_p0 R t0 t1 H) (funext fun t0 => funext fun t1 => funext fun t5 => funext fun H => g15_p18_eq t0 t1 t5 H K)) rfl)
noncomputable def g15_r : T15 := fun R t0 t1 H K =>
  g15_p19 R t0 t1 H (fun t4 H =>
    K t4 H)
theorem g15_r_lin : Lin15 (g15_r) := by
  constructor
  intro R S k t0 t1 H f g h
  exact g15_p19_lin (fun t4 H =>
    h _ _)
theorem g15_fn {R : Type} (t0 : Sl) (t1 : Sl) (H : Heap) (K : V → Heap → Option R) : evFn2 Try.prog E15 loopLim lv15 Try.f15 kp15 [(V.sl t0), (V.sl t1)] H K = g15_r R t0 t1 H (fun r0 H => K (V.b r0) H) := by
  have h0 : ∀ (t4 : Bool) (H : Heap), kFn2 Try.prog Try.f15.results.toList K .ret [(4, (V.b t4))] H =
      K (V.b t4) H := by intros; kernel_rfl
  have e0 := evFn2_code2 (P := Try.prog) (c := c15_15) (E := E15) (lr := loopLim) (lv := lv15) (kp := kp15) (fn := Try.f15) (args := [(V.sl t0), (V.sl t1)]) H K (by kernel_rfl) (Nat.le_of_ble_eq_true (by kernel_rfl)) (by kernel_rfl) (by kernel_rfl)
  have e1 : ev2 Try.prog E15 loopLim lv15 Try.f15.ntmps kp15 c15_15 (argFr 0 [(V.sl t0), (V.sl t1)]) H (kFn2 Try.prog Try.f15.results.toList K) = ev2 Try.prog E15 loopLim lv15 Try.f15.ntmps kp15 c15_15 [(0, (V.sl t0)), (1, (V.sl t1))] H (kFn2 Try.prog Try.f15.results.toList K) := by kernel_rfl
  refine (e0.trans e1).trans ?_
  delta g15_r
  exact (g15_p19_eq t0 t1 H (kFn2 Try.prog Try.f15.results.toList K)).trans (congrArg (g15_p19 R t0 t1 H) (funext fun t4 => funext fun H => h0 t4 H))
theorem g15_ok : FunOK Try.prog 15 (w15 (g15_r)) := by
  refine (runF2_ok (E15_good) mixed lim_ok Try.func15 (by kernel_rfl) lv15 kp15).of_le fun R args H K r hk => ?_
  unfold w15 at hk
  split at hk
  · exact (g15_fn _ _ H K).trans hk
  · cases hk
def kp14 : Nat → Option (List Nat) := kpOf [(0, [0]), (1, [0, 5]), (2, [2]), (3, [2]), (300000, [2]), (400005, [0])]
def E14 (a22 : T22) : FEnv := [(22, w22 a22)]
theorem E14_good {a22 : T22} (oa22 : FunOK Try.prog 22 (w22 a22)) (la22 : Lin22 a22) : EnvGood Try.prog (E14 a22) := ((EnvGood.nil _).cons oa22 (w22_lin la22))
theorem E14_lin {a22 : T22} (la22 : Lin22 a22) : EnvLin (E14 a22) := by
  intro g F h
  simp only [E14, List.mem_cons, List.not_mem_nil, or_false] at h
  rcases h with h
  · cases h; exact w22_lin la22
def lv14 : Nat → Bool := lvOf []
noncomputable def b14 : Code := Try.f14.body.getD .skip
noncomputable def c14_0 : Code := (.seq (codeAt [0] b14) (.seq (codeAt [1, 0, 0] b14) (.seq (.cond (.tmp 5) (.seq (codeAt [1, 0, 1, 0, 0] b14) .ret) .skip) (.seq (codeAt [1, 1, 0] b14) .ret))))
noncomputable def g14_p0 (a22 : T22) (R : Type) (t0 : Option (Nat × Nat)) (H : Heap) (kR : Int → Heap → Option R) : Option R :=
  a22 R t0 H fun x1 h2 =>
  sel (!x1) (
    kR (0 : Int) h2) (
    (t0).bind fun q3 =>
    ((h2).ldM q3.1 (q3.2 + 1)).bind fun x4 =>
    ((getMap h2 x4)).bind fun m5 =>
    kR ((m5.1.length : Nat) : Int) h2)
theorem g14_p0_eq (a22 : T22) (la22 : Lin22 a22) {R : Type} (t0 : Option (Nat × Nat)) (H : Heap) (K : Ex → Fr → Heap → Option R) : ev2 Try.prog (E14 a22) loopLim lv14 Try.f14.ntmps kp14 c14_0 [(0, (V.p t0))] H K = g14_p0 a22 R t0 H (fun t2 H => K .ret [(2, (V.i .i64 t2))] H) := by kernel_rfl
theorem g14_p0_lin {a22 : T22} (la22 : Lin22 a22) {R S : Type} {k : S → Option R} {t0 : Option (Nat × Nat)} {H : Heap} {fkR : Int → Heap → Option R} {gkR : Int → Heap → Option S} (hkR : ∀ t2 H, fkR t2 H = (gkR t2 H).bind k) : g14_p0 a22 R t0 H fkR = (g14_p0 a22 S t0 H gkR).bind k := by
  delta g14_p0; exact (
    la22.l fun x1 h2 =>
    sl_lin (
      hkR _ _) (
      bl fun q3 =>
      bl fun x4 =>
      bl fun m5 =>
      hkR _ _))
noncomputable def g14_r (a22 : T22) : T14 := fun R t0 H K =>
  g14_p0 a22 R t0 H (fun t2 H =>
    K t2 H)
theorem g14_r_lin {a22 : T22} (la22 : Lin22 a22) : Lin14 (g14_r a22) := by
  constructor
  intro R S k t0 H f g h
  exact g14_p0_lin la22 (fun t2 H =>
    h _ _)
theorem g14_fn (a22 : T22) (la22 : Lin22 a22) {R : Type} (t0 : Option (Nat × Nat)) (H : Heap) (K : V → Heap → Option R) : evFn2 Try.prog (E14 a22) loopLim lv14 Try.f14 kp14 [(V.p t0)] H K = g14_r a22 R t0 H (fun r0 H => K (V.i .i64 r0) H) := by
  have h0 : ∀ (t2 : Int) (H : Heap), kFn2 Try.prog Try.f14.results.toList K .ret [(2, (V.i .i64 t2))] H =
      K (V.i .i64 t2) H := by intros; kernel_rfl
  have e0 := evFn2_code2 (P := Try.prog) (c := c14_0) (E := (E14 a22)) (lr := loopLim) (lv := lv14) (kp := kp14) (fn := Try.f14) (args := [(V.p t0)]) H K (by kernel_rfl) (Nat.le_of_ble_eq_true (by kernel_rfl)) (by kernel_rfl) (by kernel_rfl)
  have e1 : ev2 Try.prog (E14 a22) loopLim lv14 Try.f14.ntmps kp14 c14_0 (argFr 0 [(V.p t0)]) H (kFn2 Try.prog Try.f14.results.toList K) = ev2 Try.prog (E14 a22) loopLim lv14 Try.f14.ntmps kp14 c14_0 [(0, (V.p t0))] H (kFn2 Try.prog Try.f14.results.toList K) := by kernel_rfl
  refine (e0.trans e1).trans ?_
  delta g14_r
  exact (g14_p0_eq a22 la22 t0 H (kFn2 Try.prog Try.f14.results.toList K)).trans (congrArg (g14_p0 a22 R t0 H) (funext fun t2 => funext fun H => h0 t2 H))
theorem g14_ok {a22 : T22} (oa22 : FunOK Try.prog 22 (w22 a22)) (la22 : Lin22 a22) : FunOK Try.prog 14 (w14 (g14_r a22)) := by
  refine (runF2_ok (E14_good oa22 la22) mixed lim_ok Try.func14 (by kernel_rfl) lv14 kp14).of_le fun R args H K r hk => ?_
  unfold w14 at hk
  split at hk
  · exact (g14_fn a22 la22 _ H K).trans hk
  · cases hk
def kp30 : Nat → Option (List Nat) := kpOf [(0, [1, 500001, 1000001]), (1, [1, 3, 500001, 1000001]), (2, [2]), (3, [7]), (4, [2]), (5, [2]), (100000, []), (200000, [1, 500001, 1000001]), (300000, [2]), (400003, []), (400007, [])]
def E30 : FEnv := []
theorem E30_good : EnvGood Try.prog E30 := (EnvGood.nil _)
theorem E30_lin : EnvLin E30 := fun g F h => by cases h
def lv30 : Nat → Bool := lvOf [1]
noncomputable def b30 : Code := Try.f30.body.getD .skip
noncomputable def c30_0 : Code := (.seq (codeAt [0] b30) (.seq (.block 0 (.seq (codeAt [1, 0, 0, 0] b30) (.cond (.tmp 3) (.seq (codeAt [1, 0, 0, 1, 0, 0] b30) .ret) (.seq (codeAt [1, 0, 0, 1, 1, 0] b30) (.cond (.tmp 7) (.seq (codeAt [1, 0, 0, 1, 1, 1, 0, 0] b30) .ret) .skip))))) (.seq (codeAt [1, 1, 0] b30) .ret)))
noncomputable def g30_p0 (R : Type) (t0_0 : Int) (t0_1 : Bool) (t0_2 : Int) (t0_3 : Sl) (H : Heap) (kR : Int → Heap → Option R) : Option R :=
  sel (decide (t0_2 ≥ (16 : Int))) (
    kR (1 : Int) H) (
    sel (decide (((t0_3.len : Nat) : Int) > (256 : Int))) (
      kR (3 : Int) H) (
      kR (0 : Int) H))
theorem g30_p0_eq {R : Type} (t0_0 : Int) (t0_1 : Bool) (t0_2 : Int) (t0_3 : Sl) (H : Heap) (K : Ex → Fr → Heap → Option R) : ev2 Try.prog E30 loopLim lv30 Try.f30.ntmps kp30 c30_0 [(0, (V.agg [(V.i .u32 t0_0), (V.b t0_1), (V.i .u8 t0_2), (V.sl t0_3)]))] H K = g30_p0 R t0_0 t0_1 t0_2 t0_3 H (fun t2 H => K .ret [(2, (V.i .i64 t2))] H) := by kernel_rfl
theorem g30_p0_lin {R S : Type} {k : S → Option R} {t0_0 : Int} {t0_1 : Bool} {t0_2 : Int} {t0_3 : Sl} {H : Heap} {fkR : Int → Heap → Option R} {gkR : Int → Heap → Option S} (hkR : ∀ t2 H, fkR t2 H = (gkR t2 H).bind k) : g30_p0 R t0_0 t0_1 t0_2 t0_3 H fkR = (g30_p0 S t0_0 t0_1 t0_2 t0_3 H gkR).bind k := by
  delta g30_p0; exact (
    sl_lin (
      hkR _ _) (
      sl_lin (
        hkR _ _) (
        hkR _ _)))
noncomputable def g30_r : T30 := fun R t0_0 t0_1 t0_2 t0_3 H K =>
  g30_p0 R t0_0 t0_1 t0_2 t0_3 H (fun t2 H =>
    K t2 H)
theorem g30_r_lin : Lin30 (g30_r) := by
  constructor
  intro R S k t0_0 t0_1 t0_2 t0_3 H f g h
  exact g30_p0_lin (fun t2 H =>
    h _ _)
theorem g30_fn {R : Type} (t0_0 : Int) (t0_1 : Bool) (t0_2 : Int) (t0_3 : Sl) (H : Heap) (K : V → Heap → Option R) : evFn2 Try.prog E30 loopLim lv30 Try.f30 kp30 [(V.agg [(V.i .u32 t0_0), (V.b t0_1), (V.i .u8 t0_2), (V.sl t0_3)])] H K = g30_r R t0_0 t0_1 t0_2 t0_3 H (fun r0 H => K (V.i .i64 r0) H) := by
  have h0 : ∀ (t2 : Int) (H : Heap), kFn2 Try.prog Try.f30.results.toList K .ret [(2, (V.i .i64 t2))] H =
      K (V.i .i64 t2) H := by intros; kernel_rfl
  have e0 := evFn2_code2 (P := Try.prog) (c := c30_0) (E := E30) (lr := loopLim) (lv := lv30) (kp := kp30) (fn := Try.f30) (args := [(V.agg [(V.i .u32 t0_0), (V.b t0_1), (V.i .u8 t0_2), (V.sl t0_3)])]) H K (by kernel_rfl) (Nat.le_of_ble_eq_true (by kernel_rfl)) (by kernel_rfl) (by kernel_rfl)
  have e1 : ev2 Try.prog E30 loopLim lv30 Try.f30.ntmps kp30 c30_0 (argFr 0 [(V.agg [(V.i .u32 t0_0), (V.b t0_1), (V.i .u8 t0_2), (V.sl t0_3)])]) H (kFn2 Try.prog Try.f30.results.toList K) = ev2 Try.prog E30 loopLim lv30 Try.f30.ntmps kp30 c30_0 [(0, (V.agg [(V.i .u32 t0_0), (V.b t0_1), (V.i .u8 t0_2), (V.sl t0_3)]))] H (kFn2 Try.prog Try.f30.results.toList K) := by kernel_rfl
  refine (e0.trans e1).trans ?_
  delta g30_r
  exact (g30_p0_eq t0_0 t0_1 t0_2 t0_3 H (kFn2 Try.prog Try.f30.results.toList K)).trans (congrArg (g30_p0 R t0_0 t0_1 t0_2 t0_3 H) (funext fun t2 => funext fun H => h0 t2 H))
theorem g30_ok : FunOK Try.prog 30 (w30 (g30_r)) := by
  refine (runF2_ok (E30_good) mixed lim_ok Try.func30 (by kernel_rfl) lv30 kp30).of_le fun R args H K r hk => ?_
  unfold w30 at hk
  split at hk
  · exact (g30_fn _ _ _ _ H K).trans hk
  · cases hk
end Go.Proofs.Ytobebcfkddimkaa

