/- Printed: functions as the machine runs them. -/
import Derived.Test.YtnlfkllnmobppaaGN1
namespace Go.Proofs.Ytnlfkllnmobppaa
open Go AM Go.RowKit
set_option linter.unusedVariables false
def kp12 : Nat → Option (List Nat) := kpOf [(0, [1, 500001, 1000001]), (1, [1, 10, 500001, 1000001]), (2, [2]), (3, [1, 38, 500001, 1000001]), (4, [2]), (5, [1, 3, 4, 500001, 1000001]), (6, [1, 3, 4, 5, 500001, 1000001]), (7, [1, 3, 4, 5, 50, 500001, 1000001]), (8, [1, 3, 4, 5, 500001, 1000001]), (9, [1, 3, 4, 6, 500001, 1000001]), (10, [6]), (11, [135]), (12, [2]), (13, [2]), (300000, [2]), (400010, [1, 500001, 1000001]), (400038, [1, 500001, 1000001]), (400050, [1, 3, 4, 5, 500001, 1000001]), (400135, [])]
def E12 : FEnv := []
theorem E12_good : EnvGood Try.prog E12 := (EnvGood.nil _)
theorem E12_lin : EnvLin E12 := fun g F h => by cases h
def lv12 : Nat → Bool := lvOf [1]
noncomputable def b12 : Code := Try.f12.body.getD .skip
noncomputable def c12_0 : Code := (.seq (codeAt [1, 1, 1, 1, 1, 1, 1, 1, 0, 0] b12) (.seq (.cond (.tmp 135) (.seq (codeAt [1, 1, 1, 1, 1, 1, 1, 1, 0, 1, 0, 0] b12) .ret) .skip) (.seq (codeAt [1, 1, 1, 1, 1, 1, 1, 1, 1, 0] b12) .ret)))
noncomputable def c12_1 : Code := (.seq (codeAt [1, 1, 1, 1, 1, 1, 1, 0] b12) c12_0)
noncomputable def c12_2 : Code := (.seq (.cond (.tmp 38) (.seq (codeAt [1, 1, 0, 1, 0, 0] b12) .ret) .skip) (.seq (codeAt [1, 1, 1, 0] b12) (.seq (codeAt [1, 1, 1, 1, 0] b12) (.seq (codeAt [1, 1, 1, 1, 1, 0, 0] b12) (.seq (.cond (.tmp 50) (codeAt [1, 1, 1, 1, 1, 0, 1, 0] b12) .skip) (.seq (codeAt [1, 1, 1, 1, 1, 1, 0] b12) c12_1))))))
noncomputable def c12_3 : Code := (.seq (codeAt [0] b12) (.seq (codeAt [1, 0, 0] b12) (.seq (.cond (.tmp 10) (.seq (codeAt [1, 0, 1, 0, 0] b12) .ret) .skip) (.seq (codeAt [1, 1, 0, 0] b12) c12_2))))
noncomputable def g12_p0 (R : Type) (t0_0 : Int) (t0_1 : Int) (t0_2 : Int) (t0_3 : Int) (t0_4 : Int) (t0_5 : Int) (t0_6 : Int) (t0_7 : Sl) (H : Heap) (kN : Bool → Int → Int → Int → Int → Int → Int → Int → Sl → Heap → Option R) (kR : Int → Heap → Option R) : Option R :=
  sel (decide (((t0_7.len : Nat) : Int) > (200 : Int))) (
    kR (3 : Int) H) (
    sel (decide (t0_0 < (1 : Int))) (
      kN true t0_0 t0_1 t0_2 t0_3 t0_4 t0_5 t0_6 t0_7 H) (
      sel (decide (t0_0 > (8 : Int))) (
        kN true t0_0 t0_1 t0_2 t0_3 t0_4 t0_5 t0_6 t0_7 H) (
        sel (decide (t0_1 > (8191 : Int))) (
          kN true t0_0 t0_1 t0_2 t0_3 t0_4 t0_5 t0_6 t0_7 H) (
          sel (decide (t0_2 > (8191 : Int))) (
            kN true t0_0 t0_1 t0_2 t0_3 t0_4 t0_5 t0_6 t0_7 H) (
            sel (decide (t0_4 ≥ (128 : Int))) (
              kN true t0_0 t0_1 t0_2 t0_3 t0_4 t0_5 t0_6 t0_7 H) (
              kN (decide (t0_5 ≥ (128 : Int))) t0_0 t0_1 t0_2 t0_3 t0_4 t0_5 t0_6 t0_7 H))))))
theorem g12_p0_eq {R : Type} (c2 : Code) (t0_0 : Int) (t0_1 : Int) (t0_2 : Int) (t0_3 : Int) (t0_4 : Int) (t0_5 : Int) (t0_6 : Int) (t0_7 : Sl) (H : Heap) (K : Ex → Fr → Heap → Option R) : ev2 Try.prog E12 loopLim lv12 Try.f12.ntmps kp12 (.seq (codeAt [0] b12) (.seq (codeAt [1, 0, 0] b12) (.seq (.cond (.tmp 10) (.seq (codeAt [1, 0, 1, 0, 0] b12) .ret) .skip) (.seq (codeAt [1, 1, 0, 0] b12) c2)))) [(0, (V.agg [(V.i .u8 t0_0), (V.i .u32 t0_1), (V.i .u32 t0_2), (V.i .u8 t0_3), (V.i .u8 t0_4), (V.i .u8 t0_5), (V.i .u8 t0_6), (V.sl t0_7)]))] H K = g12_p0 R t0_0 t0_1 t0_2 t0_3 t0_4 t0_5 t0_6 t0_7 H (fun t38 t500001_0 t500001_1 t500001_2 t500001_3 t500001_4 t500001_5 t500001_6 t500001_7 H => ev2 Try.prog E12 loopLim lv12 Try.f12.ntmps kp12 c2 [(38, (V.b t38)), (500001, (V.agg [(V.i .u8 t500001_0), (V.i .u32 t500001_1), (V.i .u32 t500001_2), (V.i .u8 t500001_3), (V.i .u8 t500001_4), (V.i .u8 t500001_5), (V.i .u8 t500001_6), (V.sl t500001_7)])), (1000001, (V.p (some (1, 0))))] H K) (fun t2 H => K .ret [(2, (V.i .i64 t2))] H) := by kernel_rfl
theorem g12_p0_lin {R S : Type} {k : S → Option R} {t0_0 : Int} {t0_1 : Int} {t0_2 : Int} {t0_3 : Int} {t0_4 : Int} {t0_5 : Int} {t0_6 : Int} {t0_7 : Sl} {H : Heap} {fkN : Bool → Int → Int → Int → Int → Int → Int → Int → Sl → Heap → Option R} {gkN : Bool → Int → Int → Int → Int → Int → Int → Int → Sl → Heap → Option S} {fkR : Int → Heap → Option R} {gkR : Int → Heap → Option S} (hkN : ∀ t38 t500001_0 t500001_1 t500001_2 t500001_3 t500001_4 t500001_5 t500001_6 t500001_7 H, fkN t38 t500001_0 t500001_1 t500001_2 t500001_3 t500001_4 t500001_5 t500001_6 t500001_7 H = (gkN t38 t500001_0 t500001_1 t500001_2 t500001_3 t500001_4 t500001_5 t500001_6 t500001_7 H).bind k) (hkR : ∀ t2 H, fkR t2 H = (gkR t2 H).bind k) : g12_p0 R t0_0 t0_1 t0_2 t0_3 t0_4 t0_5 t0_6 t0_7 H fkN fkR = (g12_p0 S t0_0 t0_1 t0_2 t0_3 t0_4 t0_5 t0_6 t0_7 H gkN gkR).bind k := by
  delta g12_p0; exact (
    sl_lin (
      hkR _ _) (
      sl_lin (
        hkN _ _ _ _ _ _ _ _ _ _) (
        sl_lin (
          hkN _ _ _ _ _ _ _ _ _ _) (
          sl_lin (
            hkN _ _ _ _ _ _ _ _ _ _) (
            sl_lin (
              hkN _ _ _ _ _ _ _ _ _ _) (
              sl_lin (
                hkN _ _ _ _ _ _ _ _ _ _) (
                hkN _ _ _ _ _ _ _ _ _ _)))))))
noncomputable def g12_p1 (R : Type) (t38 : Bool) (t500001_0 : Int) (t500001_1 : Int) (t500001_2 : Int) (t500001_3 : Int) (t500001_4 : Int) (t500001_5 : Int) (t500001_6 : Int) (t500001_7 : Sl) (H : Heap) (kN : Bool → Bool → Bool → Int → Int → Int → Int → Int → Int → Int → Sl → Heap → Option R) (kR : Int → Heap → Option R) : Option R :=
  sel t38 (
    kR (1 : Int) H) (
    sel (t500001_0 == (1 : Int)) (
      sel (t500001_3 == (2 : Int)) (
        sel ((decide (t500001_1 > (0 : Int))) == (t500001_0 != (3 : Int))) (
          sel ((decide (t500001_2 > (0 : Int))) == (t500001_0 != (1 : Int))) (
            sel (t500001_0 == (3 : Int)) (
              kN (t500001_0 == (4 : Int)) (t500001_0 == (6 : Int)) ((decide (t500001_6 > (0 : Int))) == true) t500001_0 t500001_1 t500001_2 t500001_3 t500001_4 t500001_5 t500001_6 t500001_7 H) (
              kN (t500001_0 == (4 : Int)) (t500001_0 == (6 : Int)) ((decide (t500001_6 > (0 : Int))) == (t500001_0 == (7 : Int))) t500001_0 t500001_1 t500001_2 t500001_3 t500001_4 t500001_5 t500001_6 t500001_7 H)) (
            kN (t500001_0 == (4 : Int)) (t500001_0 == (6 : Int)) false t500001_0 t500001_1 t500001_2 t500001_3 t500001_4 t500001_5 t500001_6 t500001_7 H)) (
          kN (t500001_0 == (4 : Int)) (t500001_0 == (6 : Int)) false t500001_0 t500001_1 t500001_2 t500001_3 t500001_4 t500001_5 t500001_6 t500001_7 H)) (
        sel (t500001_3 == (3 : Int)) (
          sel ((decide (t500001_1 > (0 : Int))) == (t500001_0 != (3 : Int))) (
            sel ((decide (t500001_2 > (0 : Int))) == (t500001_0 != (1 : Int))) (
              sel (t500001_0 == (3 : Int)) (
                kN (t500001_0 == (4 : Int)) (t500001_0 == (6 : Int)) ((decide (t500001_6 > (0 : Int))) == true) t500001_0 t500001_1 t500001_2 t500001_3 t500001_4 t500001_5 t500001_6 t500001_7 H) (
                kN (t500001_0 == (4 : Int)) (t500001_0 == (6 : Int)) ((decide (t500001_6 > (0 : Int))) == (t500001_0 == (7 : Int))) t500001_0 t500001_1 t500001_2 t500001_3 t500001_4 t500001_5 t500001_6 t500001_7 H)) (
              kN (t500001_0 == (4 : Int)) (t500001_0 == (6 : Int)) false t500001_0 t500001_1 t500001_2 t500001_3 t500001_4 t500001_5 t500001_6 t500001_7 H)) (
            kN (t500001_0 == (4 : Int)) (t500001_0 == (6 : Int)) false t500001_0 t500001_1 t500001_2 t500001_3 t500001_4 t500001_5 t500001_6 t500001_7 H)) (
          kN (t500001_0 == (4 : Int)) (t500001_0 == (6 : Int)) false t500001_0 t500001_1 t500001_2 t500001_3 t500001_4 t500001_5 t500001_6 t500001_7 H))) (
      sel (t500001_3 == (0 : Int)) (
        sel ((decide (t500001_1 > (0 : Int))) == (t500001_0 != (3 : Int))) (
          sel ((decide (t500001_2 > (0 : Int))) == (t500001_0 != (1 : Int))) (
            sel (t500001_0 == (3 : Int)) (
              kN (t500001_0 == (4 : Int)) (t500001_0 == (6 : Int)) ((decide (t500001_6 > (0 : Int))) == true) t500001_0 t500001_1 t500001_2 t500001_3 t500001_4 t500001_5 t500001_6 t500001_7 H) (
              kN (t500001_0 == (4 : Int)) (t500001_0 == (6 : Int)) ((decide (t500001_6 > (0 : Int))) == (t500001_0 == (7 : Int))) t500001_0 t500001_1 t500001_2 t500001_3 t500001_4 t500001_5 t500001_6 t500001_7 H)) (
            kN (t500001_0 == (4 : Int)) (t500001_0 == (6 : Int)) false t500001_0 t500001_1 t500001_2 t500001_3 t500001_4 t500001_5 t500001_6 t500001_7 H)) (
          kN (t500001_0 == (4 : Int)) (t500001_0 == (6 : Int)) false t500001_0 t500001_1 t500001_2 t500001_3 t500001_4 t500001_5 t500001_6 t500001_7 H)) (
        kN (t500001_0 == (4 : Int)) (t500001_0 == (6 : Int)) false t500001_0 t500001_1 t500001_2 t500001_3 t500001_4 t500001_5 t500001_6 t500001_7 H)))
theorem g12_p1_eq {R : Type} (c2 : Code) (t38 : Bool) (t500001_0 : Int) (t500001_1 : Int) (t500001_2 : Int) (t500001_3 : Int) (t500001_4 : Int) (t500001_5 : Int) (t500001_6 : Int) (t500001_7 : Sl) (H : Heap) (K : Ex → Fr → Heap → Option R) : ev2 Try.prog E12 loopLim lv12 Try.f12.ntmps kp12 (.seq (.cond (.tmp 38) (.seq (codeAt [1, 1, 0, 1, 0, 0] b12) .ret) .skip) (.seq (codeAt [1, 1, 1, 0] b12) (.seq (codeAt [1, 1, 1, 1, 0] b12) (.seq (codeAt [1, 1, 1, 1, 1, 0, 0] b12) (.seq (.cond (.tmp 50) (codeAt [1, 1, 1, 1, 1, 0, 1, 0] b12) .skip) (.seq (codeAt [1, 1, 1, 1, 1, 1, 0] b12) c2)))))) [(38, (V.b t38)), (500001, (V.agg [(V.i .u8 t500001_0), (V.i .u32 t500001_1), (V.i .u32 t500001_2), (V.i .u8 t500001_3), (V.i .u8 t500001_4), (V.i .u8 t500001_5), (V.i .u8 t500001_6), (V.sl t500001_7)])), (1000001, (V.p (some (1, 0))))] H K = g12_p1 R t38 t500001_0 t500001_1 t500001_2 t500001_3 t500001_4 t500001_5 t500001_6 t500001_7 H (fun t3 t4 t6 t500001_0 t500001_1 t500001_2 t500001_3 t500001_4 t500001_5 t500001_6 t500001_7 H => ev2 Try.prog E12 loopLim lv12 Try.f12.ntmps kp12 c2 [(3, (V.b t3)), (4, (V.b t4)), (6, (V.b t6)), (500001, (V.agg [(V.i .u8 t500001_0), (V.i .u32 t500001_1), (V.i .u32 t500001_2), (V.i .u8 t500001_3), (V.i .u8 t500001_4), (V.i .u8 t500001_5), (V.i .u8 t500001_6), (V.sl t500001_7)])), (1000001, (V.p (some (1, 0))))] H K) (fun t2 H => K .ret [(2, (V.i .i64 t2))] H) := by kernel_rfl
theorem g12_p1_lin {R S : Type} {k : S → Option R} {t38 : Bool} {t500001_0 : Int} {t500001_1 : Int} {t500001_2 : Int} {t500001_3 : Int} {t500001_4 : Int} {t500001_5 : Int} {t500001_6 : Int} {t500001_7 : Sl} {H : Heap} {fkN : Bool → Bool → Bool → Int → Int → Int → Int → Int → Int → Int → Sl → Heap → Option R} {gkN : Bool → Bool → Bool → Int → Int → Int → Int → Int → Int → Int → Sl → Heap → Option S} {fkR : Int → Heap → Option R} {gkR : Int → Heap → Option S} (hkN : ∀ t3 t4 t6 t500001_0 t500001_1 t500001_2 t500001_3 t500001_4 t500001_5 t500001_6 t500001_7 H, fkN t3 t4 t6 t500001_0 t500001_1 t500001_2 t500001_3 t500001_4 t500001_5 t500001_6 t500001_7 H = (gkN t3 t4 t6 t500001_0 t500001_1 t500001_2 t500001_3 t500001_4 t500001_5 t500001_6 t500001_7 H).bind k) (hkR : ∀ t2 H, fkR t2 H = (gkR t2 H).bind k) : g12_p1 R t38 t500001_0 t500001_1 t500001_2 t500001_3 t500001_4 t500001_5 t500001_6 t500001_7 H fkN fkR = (g12_p1 S t38 t500001_0 t500001_1 t500001_2 t500001_3 t500001_4 t500001_5 t500001_6 t500001_7 H gkN gkR).bind k := by
  delta g12_p1
  repeat' (first | with_reducible (first | exact hkR _ _ | exact hkN _ _ _ _ _ _ _ _ _ _ _ _ | refine sl_lin ?_ ?_) | exact (rfl : (none : Option R) = (none : Option S).bind k))
noncomputable def g12_p2 (R : Type) (t3 : Bool) (t4 : Bool) (t6 : Bool) (t500001_0 : Int) (t500001_1 : Int) (t500001_2 : Int) (t500001_3 : Int) (t500001_4 : Int) (t500001_5 : Int) (t500001_6 : Int) (t500001_7 : Sl) (H : Heap) (kN : Bool → Heap → Option R) : Option R :=
  sel t6 (
    sel t3 (
      sel t3 (
        sel t3 (
          kN true H) (
          sel (t500001_0 == (1 : Int)) (
            kN true H) (
            kN (((t500001_7.len : Nat) : Int) == (0 : Int)) H))) (
        sel t4 (
          sel t3 (
            kN true H) (
            sel (t500001_0 == (1 : Int)) (
              kN true H) (
              kN (((t500001_7.len : Nat) : Int) == (0 : Int)) H))) (
          sel (t500001_0 == (5 : Int)) (
            sel t3 (
              kN true H) (
              sel (t500001_0 == (1 : Int)) (
                kN true H) (
                kN (((t500001_7.len : Nat) : Int) == (0 : Int)) H))) (
            sel (t500001_5 == (0 : Int)) (
              sel t3 (
                kN true H) (
                sel (t500001_0 == (1 : Int)) (
                  kN true H) (
                  kN (((t500001_7.len : Nat) : Int) == (0 : Int)) H))) (
              kN false H))))) (
      sel t4 (
        sel t3 (
          sel t3 (
            kN true H) (
            sel (t500001_0 == (1 : Int)) (
              kN true H) (
              kN (((t500001_7.len : Nat) : Int) == (0 : Int)) H))) (
          sel t4 (
            sel t3 (
              kN true H) (
              sel (t500001_0 == (1 : Int)) (
                kN true H) (
                kN (((t500001_7.len : Nat) : Int) == (0 : Int)) H))) (
            sel (t500001_0 == (5 : Int)) (
              sel t3 (
                kN true H) (
                sel (t500001_0 == (1 : Int)) (
                  kN true H) (
                  kN (((t500001_7.len : Nat) : Int) == (0 : Int)) H))) (
              sel (t500001_5 == (0 : Int)) (
                sel t3 (
                  kN true H) (
                  sel (t500001_0 == (1 : Int)) (
                    kN true H) (
                    kN (((t500001_7.len : Nat) : Int) == (0 : Int)) H))) (
                kN false H))))) (
        sel (t500001_4 == (0 : Int)) (
          sel t3 (
            sel t3 (
              kN true H) (
              sel (t500001_0 == (1 : Int)) (
                kN true H) (
                kN (((t500001_7.len : Nat) : Int) == (0 : Int)) H))) (
            sel t4 (
              sel t3 (
                kN true H) (
                sel (t500001_0 == (1 : Int)) (
                  kN true H) (
                  kN (((t500001_7.len : Nat) : Int) == (0 : Int)) H))) (
              sel (t500001_0 == (5 : Int)) (
                sel t3 (
                  kN true H) (
                  sel (t500001_0 == (1 : Int)) (
                    kN true H) (
                    kN (((t500001_7.len : Nat) : Int) == (0 : Int)) H))) (
                sel (t500001_5 == (0 : Int)) (
                  sel t3 (
                    kN true H) (
                    sel (t500001_0 == (1 : Int)) (
                      kN true H) (
                      kN (((t500001_7.len : Nat) : Int) == (0 : Int)) H))) (
                  kN false H))))) (
          kN false H)))) (
    kN false H)
theorem g12_p2_eq {R : Type} (c2 : Code) (t3 : Bool) (t4 : Bool) (t6 : Bool) (t500001_0 : Int) (t500001_1 : Int) (t500001_2 : Int) (t500001_3 : Int) (t500001_4 : Int) (t500001_5 : Int) (t500001_6 : Int) (t500001_7 : Sl) (H : Heap) (K : Ex → Fr → Heap → Option R) : ev2 Try.prog E12 loopLim lv12 Try.f12.ntmps kp12 (.seq (codeAt [1, 1, 1, 1, 1, 1, 1, 0] b12) c2) [(3, (V.b t3)), (4, (V.b t4)), (6, (V.b t6)), (500001, (V.agg [(V.i .u8 t500001_0), (V.i .u32 t500001_1), (V.i .u32 t500001_2), (V.i .u8 t500001_3), (V.i .u8 t500001_4), (V.i .u8 t500001_5), (V.i .u8 t500001_6), (V.sl t500001_7)])), (1000001, (V.p (some (1, 0))))] H K = g12_p2 R t3 t4 t6 t500001_0 t500001_1 t500001_2 t500001_3 t500001_4 t500001_5 t500001_6 t500001_7 H (fun t6 H => ev2 Try.prog E12 loopLim lv12 Try.f12.ntmps kp12 c2 [(6, (V.b t6))] H K) := by kernel_rfl
theorem g12_p2_lin {R S : Type} {k : S → Option R} {t3 : Bool} {t4 : Bool} {t6 : Bool} {t500001_0 : Int} {t500001_1 : Int} {t500001_2 : Int} {t500001_3 : Int} {t500001_4 : Int} {t500001_5 : Int} {t500001_6 : Int} {t500001_7 : Sl} {H : Heap} {fkN : Bool → Heap → Option R} {gkN : Bool → Heap → Option S} (hkN : ∀ t6 H, fkN t6 H = (gkN t6 H).bind k) : g12_p2 R t3 t4 t6 t500001_0 t500001_1 t500001_2 t500001_3 t500001_4 t500001_5 t500001_6 t500001_7 H fkN = (g12_p2 S t3 t4 t6 t500001_0 t500001_1 t500001_2 t500001_3 t500001_4 t500001_5 t500001_6 t500001_7 H gkN).bind k := by
  delta g12_p2
  repeat' (first | with_reducible (first | exact hkN _ _ | refine sl_lin ?_ ?_) | exact (rfl : (none : Option R) = (none : Option S).bind k))
noncomputable def g12_p3 (R : Type) (t6 : Bool) (H : Heap) (kR : Int → Heap → Option R) : Option R :=
  sel (!t6) (
    kR (1 : Int) H) (
    kR (0 : Int) H)
theorem g12_p3_eq {R : Type} (t6 : Bool) (H : Heap) (K : Ex → Fr → Heap → Option R) : ev2 Try.prog E12 loopLim lv12 Try.f12.ntmps kp12 c12_0 [(6, (V.b t6))] H K = g12_p3 R t6 H (fun t2 H => K .ret [(2, (V.i .i64 t2))] H) := by kernel_rfl
theorem g12_p3_lin {R S : Type} {k : S → Option R} {t6 : Bool} {H : Heap} {fkR : Int → Heap → Option R} {gkR : Int → Heap → Option S} (hkR : ∀ t2 H, fkR t2 H = (gkR t2 H).bind k) : g12_p3 R t6 H fkR = (g12_p3 S t6 H gkR).bind k := by
  delta g12_p3; exact (
    sl_lin (
      hkR _ _) (
      hkR _ _))
noncomputable def g12_p4 (R : Type) (t3 : Bool) (t4 : Bool) (t6 : Bool) (t500001_0 : Int) (t500001_1 : Int) (t500001_2 : Int) (t500001_3 : Int) (t500001_4 : Int) (t500001_5 : Int) (t500001_6 : Int) (t500001_7 : Sl) (H : Heap) (kR : Int → Heap → Option R) : Option R :=
  g12_p2 R t3 t4 t6 t500001_0 t500001_1 t500001_2 t500001_3 t500001_4 t500001_5 t500001_6 t500001_7 H (fun t6 H => g12_p3 R t6 H (fun t2 H => kR t2 H))
theorem g12_p4_lin {R S : Type} {k : S → Option R} {t3 : Bool} {t4 : Bool} {t6 : Bool} {t500001_0 : Int} {t500001_1 : Int} {t500001_2 : Int} {t500001_3 : Int} {t500001_4 : Int} {t500001_5 : Int} {t500001_6 : Int} {t500001_7 : Sl} {H : Heap} {fkR : Int → Heap → Option R} {gkR : Int → Heap → Option S} (hkR : ∀ t2 H, fkR t2 H = (gkR t2 H).bind k) : g12_p4 R t3 t4 t6 t500001_0 t500001_1 t500001_2 t500001_3 t500001_4 t500001_5 t500001_6 t500001_7 H fkR = (g12_p4 S t3 t4 t6 t500001_0 t500001_1 t500001_2 t500001_3 t500001_4 t500001_5 t500001_6 t500001_7 H gkR).bind k := by
  exact g12_p2_lin (fun _ _ => g12_p3_lin (fun _ _ => hkR _ _))
theorem g12_p4_eq {R : Type} (t3 : Bool) (t4 : Bool) (t6 : Bool) (t500001_0 : Int) (t500001_1 : Int) (t500001_2 : Int) (t500001_3 : Int) (t500001_4 : Int) (t500001_5 : Int) (t500001_6 : Int) (t500001_7 : Sl) (H : Heap) (K : Ex → Fr → Heap → Option R) : ev2 Try.prog E12 loopLim lv12 Try.f12.ntmps kp12 c12_1 [(3, (V.b t3)), (4, (V.b t4)), (6, (V.b t6)), (500001, (V.agg [(V.i .u8 t500001_0), (V.i .u32 t500001_1), (V.i .u32 t500001_2), (V.i .u8 t500001_3), (V.i .u8 t500001_4), (V.i .u8 t500001_5), (V.i .u8 t500001_6), (V.sl t500001_7)])), (1000001, (V.p (some (1, 0))))] H K = g12_p4 R t3 t4 t6 t500001_0 t500001_1 t500001_2 t500001_3 t500001_4 t500001_5 t500001_6 t500001_7 H (fun t2 H => K .ret [(2, (V.i .i64 t2))] H) := by
  delta c12_1
  delta g12_p4
  exact (g12_p2_eq _ t3 t4 t6 t500001_0 t500001_1 t500001_2 t500001_3 t500001_4 t500001_5 t500001_6 t500001_7 H K).trans (congrArg (g12_p2 R t3 t4 t6 t500001_0 t500001_1 t500001_2 t500001_3 t500001_4 t500001_5 t500001_6 t500001_7 H) (funext fun t6 => funext fun H => g12_p3_eq t6 H K))
noncomputable def g12_p5 (R : Type) (t38 : Bool) (t500001_0 : Int) (t500001_1 : Int) (t500001_2 : Int) (t500001_3 : Int) (t500001_4 : Int) (t500001_5 : Int) (t500001_6 : Int) (t500001_7 : Sl) (H : Heap) (kR : Int → Heap → Option R) : Option R :=
  g12_p1 R t38 t500001_0 t500001_1 t500001_2 t500001_3 t500001_4 t500001_5 t500001_6 t500001_7 H (fun t3 t4 t6 t500001_0 t500001_1 t500001_2 t500001_3 t500001_4 t500001_5 t500001_6 t500001_7 H => g12_p4 R t3 t4 t6 t500001_0 t500001_1 t500001_2 t500001_3 t500001_4 t500001_5 t500001_6 t500001_7 H (fun t2 H => kR t2 H)) (fun t2 H => kR t2 H)
theorem g12_p5_lin {R S : Type} {k : S → Option R} {t38 : Bool} {t500001_0 : Int} {t500001_1 : Int} {t500001_2 : Int} {t500001_3 : Int} {t500001_4 : Int} {t500001_5 : Int} {t500001_6 : Int} {t500001_7 : Sl} {H : Heap} {fkR : Int → Heap → Option R} {gkR : Int → Heap → Option S} (hkR : ∀ t2 H, fkR t2 H = (gkR t2 H).bind k) : g12_p5 R t38 t500001_0 t500001_1 t500001_2 t500001_3 t500001_4 t500001_5 t500001_6 t500001_7 H fkR = (g12_p5 S t38 t500001_0 t500001_1 t500001_2 t500001_3 t500001_4 t500001_5 t500001_6 t500001_7 H gkR).bind k := by
  exact g12_p1_lin (fun _ _ _ _ _ _ _ _ _ _ _ _ => g12_p4_lin (fun _ _ => hkR _ _)) (fun _ _ => hkR _ _)
theorem g12_p5_eq {R : Type} (t38 : Bool) (t500001_0 : Int) (t500001_1 : Int) (t500001_2 : Int) (t500001_3 : Int) (t500001_4 : Int) (t500001_5 : Int) (t500001_6 : Int) (t500001_7 : Sl) (H : Heap) (K : Ex → Fr → Heap → Option R) : ev2 Try.prog E12 loopLim lv12 Try.f12.ntmps kp12 c12_2 [(38, (V.b t38)), (500001, (V.agg [(V.i .u8 t500001_0), (V.i .u32 t500001_1), (V.i .u32 t500001_2), (V.i .u8 t500001_3), (V.i .u8 t500001_4), (V.i .u8 t500001_5), (V.i .u8 t500001_6), (V.sl t500001_7)])), (1000001, (V.p (some (1, 0))))] H K = g12_p5 R t38 t500001_0 t500001_1 t500001_2 t500001_3 t500001_4 t500001_5 t500001_6 t500001_7 H (fun t2 H => K .ret [(2, (V.i .i64 t2))] H) := by
  delta c12_2
  delta g12_p5
  exact (g12_p1_eq _ t38 t500001_0 t500001_1 t500001_2 t500001_3 t500001_4 t500001_5 t500001_6 t500001_7 H K).trans (congr (congrArg (g12_p1 R t38 t500001_0 t500001_1 t500001_2 t500001_3 t500001_4 t500001_5 t500001_6 t500001_7 H) (funext fun t3 => funext fun t4 => funext fun t6 => funext fun t500001_0 => funext fun t500001_1 => funext fun t500001_2 => funext fun t500001_3 => funext fun t500001_4 => funext fun t500001_5 => funext fun t500001_6 => funext fun t500001_7 => funext fun H => g12_p4_eq t3 t4 t6 t500001_0 t500001_1 t500001_2 t500001_3 t500001_4 t500001_5 t500001_6 t500001_7 H K)) rfl)
noncomputable def g12_p6 (R : Type) (t0_0 : Int) (t0_1 : Int) (t0_2 : Int) (t0_3 : Int) (t0_4 : Int) (t0_5 : Int) (t0_6 : Int) (t0_7 : Sl) (H : Heap) (kR : Int → Heap → Option R) : Option R :=
  g12_p0 R t0_0 t0_1 t0_2 t0_3 t0_4 t0_5 t0_6 t0_7 H (fun t38 t500001_0 t500001_1 t500001_2 t500001_3 t500001_4 t500001_5 t500001_6 t500001_7 H => g12_p5 R t38 t500001_0 t500001_1 t500001_2 t500001_3 t500001_4 t500001_5 t500001_6 t500001_7 H (fun t2 H => kR t2 H)) (fun t2 H => kR t2 H)
theorem g12_p6_lin {R S : Type} {k : S → Option R} {t0_0 : Int} {t0_1 : Int} {t0_2 : Int} {t0_3 : Int} {t0_4 : Int} {t0_5 : Int} {t0_6 : Int} {t0_7 : Sl} {H : Heap} {fkR : Int → Heap → Option R} {gkR : Int → Heap → Option S} (hkR : ∀ t2 H, fkR t2 H = (gkR t2 H).bind k) : g12_p6 R t0_0 t0_1 t0_2 t0_3 t0_4 t0_5 t0_6 t0_7 H fkR = (g12_p6 S t0_0 t0_1 t0_2 t0_3 t0_4 t0_5 t0_6 t0_7 H gkR).bind k := by
  exact g12_p0_lin (fun _ _ _ _ _ _ _ _ _ _ => g12_p5_lin (fun _ _ => hkR _ _)) (fun _ _ => hkR _ _)
theorem g12_p6_eq {R : Type} (t0_0 : Int) (t0_1 : Int) (t0_2 : Int) (t0_3 : Int) (t0_4 : Int) (t0_5 : Int) (t0_6 : Int) (t0_7 : Sl) (H : Heap) (K : Ex → Fr → Heap → Option R) : ev2 Try.prog E12 loopLim lv12 Try.f12.ntmps kp12 c12_3 [(0, (V.agg [(V.i .u8 t0_0), (V.i .u32 t0_1), (V.i .u32 t0_2), (V.i .u8 t0_3), (V.i .u8 t0_4), (V.i .u8 t0_5), (V.i .u8 t0_6), (V.sl t0_7)]))] H K = g12_p6 R t0_0 t0_1 t0_2 t0_3 t0_4 t0_5 t0_6 t0_7 H (fun t2 H => K .ret [(2, (V.i .i64 t2))] H) := by
  delta c12_3
  delta g12_p6
  exact (g12_p0_eq _ t0_0 t0_1 t0_2 t0_3 t0_4 t0_5 t0_6 t0_7 H K).trans (congr (congrArg (g12_p0 R t0_0 t0_1 t0_2 t0_3 t0_4 t0_5 t0_6 t0_7 H) (funext fun t38 => funext fun t500001_0 => funext fun t500001_1 => funext fun t500001_2 => funext fun t500001_3 => funext fun t500001_4 => funext fun t500001_5 => funext fun t500001_6 => funext fun t500001_7 => funext fun H => g12_p5_eq t38 t500001_0 t500001_1 t500001_2 t500001_3 t500001_4 t500001_5 t500001_6 t500001_7 H K)) rfl)
noncomputable def g12_r : T12 := fun R t0_0 t0_1 t0_2 t0_3 t0_4 t0_5 t0_6 t0_7 H K =>
  g12_p6 R t0_0 t0_1 t0_2 t0_3 t0_4 t0_5 t0_6 t0_7 H (fun t2 H =>
    K t2 H)
theorem g12_r_lin : Lin12 (g12_r) := by
  constructor
  intro R S k t0_0 t0_1 t0_2 t0_3 t0_4 t0_5 t0_6 t0_7 H f g h
  exact g12_p6_lin (fun t2 H =>
    h _ _)
theorem g12_fn {R : Type} (t0_0 : Int) (t0_1 : Int) (t0_2 : Int) (t0_3 : Int) (t0_4 : Int) (t0_5 : Int) (t0_6 : Int) (t0_7 : Sl) (H : Heap) (K : V → Heap → Option R) : evFn2 Try.prog E12 loopLim lv12 Try.f12 kp12 [(V.agg [(V.i .u8 t0_0), (V.i .u32 t0_1), (V.i .u32 t0_2), (V.i .u8 t0_3), (V.i .u8 t0_4), (V.i .u8 t0_5), (V.i .u8 t0_6), (V.sl t0_7)])] H K = g12_r R t0_0 t0_1 t0_2 t0_3 t0_4 t0_5 t0_6 t0_7 H (fun r0 H => K (V.i .i64 r0) H) := by
  have h0 : ∀ (t2 : Int) (H : Heap), kFn2 Try.prog Try.f12.results.toList K .ret [(2, (V.i .i64 t2))] H =
      K (V.i .i64 t2) H := by intros; kernel_rfl
  have e0 := evFn2_code2 (P := Try.prog) (c := c12_3) (E := E12) (lr := loopLim) (lv := lv12) (kp := kp12) (fn := Try.f12) (args := [(V.agg [(V.i .u8 t0_0), (V.i .u32 t0_1), (V.i .u32 t0_2), (V.i .u8 t0_3), (V.i .u8 t0_4), (V.i .u8 t0_5), (V.i .u8 t0_6), (V.sl t0_7)])]) H K (by kernel_rfl) (Nat.le_of_ble_eq_true (by kernel_rfl)) (by kernel_rfl) (by kernel_rfl)
  have e1 : ev2 Try.prog E12 loopLim lv12 Try.f12.ntmps kp12 c12_3 (argFr 0 [(V.agg [(V.i .u8 t0_0), (V.i .u32 t0_1), (V.i .u32 t0_2), (V.i .u8 t0_3), (V.i .u8 t0_4), (V.i .u8 t0_5), (V.i .u8 t0_6), (V.sl t0_7)])]) H (kFn2 Try.prog Try.f12.results.toList K) = ev2 Try.prog E12 loopLim lv12 Try.f12.ntmps kp12 c12_3 [(0, (V.agg [(V.i .u8 t0_0), (V.i .u32 t0_1), (V.i .u32 t0_2), (V.i .u8 t0_3), (V.i .u8 t0_4), (V.i .u8 t0_5), (V.i .u8 t0_6), (V.sl t0_7)]))] H (kFn2 Try.prog Try.f12.results.toList K) := by kernel_rfl
  refine (e0.trans e1).trans ?_
  delta g12_r
  exact (g12_p6_eq t0_0 t0_1 t0_2 t0_3 t0_4 t0_5 t0_6 t0_7 H (kFn2 Try.prog Try.f12.results.toList K)).trans (congrArg (g12_p6 R t0_0 t0_1 t0_2 t0_3 t0_4 t0_5 t0_6 t0_7 H) (funext fun t2 => funext fun H => h0 t2 H))
theorem g12_ok : FunOK Try.prog 12 (w12 (g12_r)) := by
  refine (runF2_ok (E12_good) mixed lim_ok Try.func12 (by kernel_rfl) lv12 kp12).of_le fun R args H K r hk => ?_
  unfold w12 at hk
  split at hk
  · exact (g12_fn _ _ _ _ _ _ _ _ H K).trans hk
  · cases hk
noncomputable def g12 : T12 := g12_r
theorem g12_lin : Lin12 g12 := g12_r_lin
theorem ok12 : FunOK Try.prog 12 (w12 g12) := g12_ok
def kp56 : Nat → Option (List Nat) := kpOf [(0, [0, 1, 5]), (1, [0, 5]), (2, []), (300000, [])]
def E56 : FEnv := []
theorem E56_good : EnvGood Try.prog E56 := (EnvGood.nil _)
theorem E56_lin : EnvLin E56 := fun g F h => by cases h
def lv56 : Nat → Bool := lvOf []
noncomputable def b56 : Code := Try.f56.body.getD .skip
noncomputable def c56_0 : Code := (.seq (codeAt [0] b56) (.seq (codeAt [1, 0] b56) (codeAt [1, 1] b56)))
noncomputable def g56_p0 (R : Type) (t0 : Option (Nat × Nat)) (t1 : Option (Nat × Nat)) (t2_0 : Int) (t2_1 : Int) (t2_2 : Int) (t2_3 : Int) (t2_4 : Int) (t2_5 : Sl) (H : Heap) (kN : Heap → Option R) : Option R :=
  alo H (.cells [(V.i .u32 t2_0), (V.i .u8 t2_1), (V.i .u16 t2_2), (V.i .u8 t2_3), (V.i .u8 t2_4), (V.sl t2_5)] 60 false) fun i1 h2 =>
  (t1).bind fun q3 =>
  ((h2).ldI .u32 q3.1 (q3.2 + 0)).bind fun x4 =>
  (t1).bind fun q5 =>
  ((h2).ldI .u16 q5.1 (q5.2 + 1)).bind fun x6 =>
  ((h2).st i1 (0 + 0) (V.i .u32 x4)).bind fun h8 =>
  ((h8).ldI .u16 q5.1 (q5.2 + 1)).bind fun x9 =>
  if V.same (V.i .u16 x6) (V.i .u16 x9) = true then (
    ((h8).st i1 (0 + 2) (V.i .u16 x6)).bind fun h11 =>
    (t0).bind fun q12 =>
    ((h11).ldSl q12.1 (q12.2 + 8)).bind fun x13 =>
    ((h11).ldI .u32 i1 (0 + 0)).bind fun x14 =>
    ((h11).ldI .u8 i1 (0 + 1)).bind fun x15 =>
    ((h11).ldI .u16 i1 (0 + 2)).bind fun x16 =>
    ((h11).ldI .u8 i1 (0 + 3)).bind fun x17 =>
    ((h11).ldI .u8 i1 (0 + 4)).bind fun x18 =>
    ((h11).ldSl i1 (0 + 5)).bind fun x19 =>
    alo h11 (.cells [(V.i .u32 x14), (V.i .u8 x15), (V.i .u16 x16), (V.i .u8 x17), (V.i .u8 x18), (V.sl x19)] 60 false) fun i20 h21 =>
    ((h21).ldSl q12.1 (q12.2 + 8)).bind fun x22 =>
    if V.same (V.sl x13) (V.sl x22) = true then (
      ((slCells h21 6 (Sl.mk (some (i20, 0)) 1 (.ex 1)))).bind fun vs25 =>
      appendV h21 60 6 40 x13 (Sl.mk (some (i20, 0)) 1 (.ex 1)).len vs25 fun s23 h24 =>
      (t0).bind fun q26 =>
      ((h24).st q26.1 (q26.2 + 8) (V.sl s23)).bind fun h28 =>
      kN h28)
    else (
      none))
  else (
    none)
theorem g56_p0_eq {R : Type} (t0 : Option (Nat × Nat)) (t1 : Option (Nat × Nat)) (t2_0 : Int) (t2_1 : Int) (t2_2 : Int) (t2_3 : Int) (t2_4 : Int) (t2_5 : Sl) (H : Heap) (K : Ex → Fr → Heap → Option R) : ev2 Try.prog E56 loopLim lv56 Try.f56.ntmps kp56 c56_0 [(0, (V.p t0)), (1, (V.p t1)), (2, (V.agg [(V.i .u32 t2_0), (V.i .u8 t2_1), (V.i .u16 t2_2), (V.i .u8 t2_3), (V.i .u8 t2_4), (V.sl t2_5)]))] H K = g56_p0 R t0 t1 t2_0 t2_1 t2_2 t2_3 t2_4 t2_5 H (fun H => K .normal [] H) := by kernel_rfl
theorem g56_p0_lin {R S : Type} {k : S → Option R} {t0 : Option (Nat × Nat)} {t1 : Option (Nat × Nat)} {t2_0 : Int} {t2_1 : Int} {t2_2 : Int} {t2_3 : Int} {t2_4 : Int} {t2_5 : Sl} {H : Heap} {fkN : Heap → Option R} {gkN : Heap → Option S} (hkN : ∀ H, fkN H = (gkN H).bind k) : g56_p0 R t0 t1 t2_0 t2_1 t2_2 t2_3 t2_4 t2_5 H fkN = (g56_p0 S t0 t1 t2_0 t2_1 t2_2 t2_3 t2_4 t2_5 H gkN).bind k := by
  delta g56_p0
  repeat' (first | with_reducible (first | exact hkN _ | refine alo_lin fun _ _ => ?_ | refine il ?_ ?_ | refine appendV_lin fun _ _ => ?_ | refine bl fun _ => ?_) | exact (rfl : (none : Option R) = (none : Option S).bind k))
noncomputable def g56_r : T56 := fun R t0 t1 t2_0 t2_1 t2_2 t2_3 t2_4 t2_5 H K =>
  g56_p0 R t0 t1 t2_0 t2_1 t2_2 t2_3 t2_4 t2_5 H (fun H =>
    K  H)
theorem g56_r_lin : Lin56 (g56_r) := by
  constructor
  intro R S k t0 t1 t2_0 t2_1 t2_2 t2_3 t2_4 t2_5 H f g h
  exact g56_p0_lin (fun H =>
    h _)
theorem g56_fn {R : Type} (t0 : Option (Nat × Nat)) (t1 : Option (Nat × Nat)) (t2_0 : Int) (t2_1 : Int) (t2_2 : Int) (t2_3 : Int) (t2_4 : Int) (t2_5 : Sl) (H : Heap) (K : V → Heap → Option R) : evFn2 Try.prog E56 loopLim lv56 Try.f56 kp56 [(V.p t0), (V.p t1), (V.agg [(V.i .u32 t2_0), (V.i .u8 t2_1), (V.i .u16 t2_2), (V.i .u8 t2_3), (V.i .u8 t2_4), (V.sl t2_5)])] H K = g56_r R t0 t1 t2_0 t2_1 t2_2 t2_3 t2_4 t2_5 H (fun H => K (V.tup []) H) := by
  have h0 : ∀ (H : Heap), kFn2 Try.prog Try.f56.results.toList K .normal [] H =
      K (V.tup []) H := by intros; kernel_rfl
  have e0 := evFn2_code2 (P := Try.prog) (c := c56_0) (E := E56) (lr := loopLim) (lv := lv56) (kp := kp56) (fn := Try.f56) (args := [(V.p t0), (V.p t1), (V.agg [(V.i .u32 t2_0), (V.i .u8 t2_1), (V.i .u16 t2_2), (V.i .u8 t2_3), (V.i .u8 t2_4), (V.sl t2_5)])]) H K (by kernel_rfl) (Nat.le_of_ble_eq_true (by kernel_rfl)) (by kernel_rfl) (by kernel_rfl)
  have e1 : ev2 Try.prog E56 loopLim lv56 Try.f56.ntmps kp56 c56_0 (argFr 0 [(V.p t0), (V.p t1), (V.agg [(V.i .u32 t2_0), (V.i .u8 t2_1), (V.i .u16 t2_2), (V.i .u8 t2_3), (V.i .u8 t2_4), (V.sl t2_5)])]) H (kFn2 Try.prog Try.f56.results.toList K) = ev2 Try.prog E56 loopLim lv56 Try.f56.ntmps kp56 c56_0 [(0, (V.p t0)), (1, (V.p t1)), (2, (V.agg [(V.i .u32 t2_0), (V.i .u8 t2_1), (V.i .u16 t2_2), (V.i .u8 t2_3), (V.i .u8 t2_4), (V.sl t2_5)]))] H (kFn2 Try.prog Try.f56.results.toList K) := by kernel_rfl
  refine (e0.trans e1).trans ?_
  delta g56_r
  exact (g56_p0_eq t0 t1 t2_0 t2_1 t2_2 t2_3 t2_4 t2_5 H (kFn2 Try.prog Try.f56.results.toList K)).trans (congrArg (g56_p0 R t0 t1 t2_0 t2_1 t2_2 t2_3 t2_4 t2_5 H) (funext fun H => h0 H))
theorem g56_ok : FunOK Try.prog 56 (w56 (g56_r)) := by
  refine (runF2_ok (E56_good) mixed lim_ok Try.func56 (by kernel_rfl) lv56 kp56).of_le fun R args H K r hk => ?_
  unfold w56 at hk
  split at hk
  · exact (g56_fn _ _ _ _ _ _ _ _ H K).trans hk
  · cases hk
noncomputable def g56 : T56 := g56_r
theorem g56_lin : Lin56 g56 := g56_r_lin
theorem ok56 : FunOK Try.prog 56 (w56 g56) := g56_ok
def kp42 : Nat → Option (List Nat) := kpOf [(0, [0, 1, 5, 500005, 1000005]), (1, [0, 1, 5, 6, 500005, 1000005]), (2, [0, 1, 5, 6, 15, 500005, 1000005]), (3, []), (4, []), (300000, []), (400015, [0, 5, 6, 500005, 1000005])]
noncomputable def E42 : FEnv := [(38, w38 g38), (36, w36 g36), (56, w56 g56)]
theorem E42_good : EnvGood Try.prog (E42) := ((((EnvGood.nil _).cons ok56 (w56_lin g56_lin)).cons ok36 (w36_lin g36_lin)).cons ok38 (w38_lin g38_lin))
theorem E42_lin : EnvLin (E42) := by
  intro g F h
  simp only [E42, List.mem_cons, List.not_mem_nil, or_false] at h
  rcases h with h | h | h
  · cases h; exact w38_lin g38_lin
  · cases h; exact w36_lin g36_lin
  · cases h; exact w56_lin g56_lin
def lv42 : Nat → Bool := lvOf [5]
noncomputable def b42 : Code := Try.f42.body.getD .skip
noncomputable def c42_0 : Code := (.seq (codeAt [0] b42) (.seq (codeAt [1, 0] b42) (.seq (codeAt [1, 1, 0, 0] b42) (.seq (.cond (.tmp 15) (.seq (codeAt [1, 1, 0, 1, 0, 0] b42) .ret) .skip) (codeAt [1, 1, 1] b42)))))
noncomputable def g42_p0 (R : Type) (t0 : Option (Nat × Nat)) (t1 : Int) (t2_0 : Int) (t2_1 : Int) (t2_2 : Int) (t2_3 : Int) (t2_4 : Int) (t2_5 : Int) (t2_6 : Int) (t2_7 : Sl) (H : Heap) (kN : Heap → Option R) (kR : Heap → Option R) : Option R :=
  g38 R t0 t1 t2_1 t2_3 (2 : Int) H fun x1 h2 =>
  sel (Option.isNone x1) (
    (t0).bind fun q3 =>
    ((h2).ldSl q3.1 (q3.2 + 7)).bind fun x4 =>
    alo h2 (.cells [(V.i .u16 t1), (V.i .u8 (3 : Int)), (V.i .u32 (0 : Int)), (V.i .u32 t2_1), (V.i .u8 (0 : Int)), (V.i .u8 (0 : Int)), (V.i .u8 (0 : Int)), (V.i .u8 (3 : Int)), (V.sl (Sl.mk none 0 (.ex 0)))] 71 false) fun i5 h6 =>
    ((h6).ldSl q3.1 (q3.2 + 7)).bind fun x7 =>
    if V.same (V.sl x4) (V.sl x7) = true then (
      ((slCells h6 9 (Sl.mk (some (i5, 0)) 1 (.ex 1)))).bind fun vs10 =>
      appendV h6 71 9 48 x4 (Sl.mk (some (i5, 0)) 1 (.ex 1)).len vs10 fun s8 h9 =>
      (t0).bind fun q11 =>
      ((h9).st q11.1 (q11.2 + 7) (V.sl s8)).bind fun h13 =>
      kR h13)
    else (
      none)) (
    g36 R t2_7 h2 fun x14 h15 =>
    g56 R t0 x1 (0 : Int) (1 : Int) (0 : Int) t2_3 (0 : Int) x14 h15 fun h16 =>
    kN h16)
theorem g42_p0_eq {R : Type} (t0 : Option (Nat × Nat)) (t1 : Int) (t2_0 : Int) (t2_1 : Int) (t2_2 : Int) (t2_3 : Int) (t2_4 : Int) (t2_5 : Int) (t2_6 : Int) (t2_7 : Sl) (H : Heap) (K : Ex → Fr → Heap → Option R) : ev2 Try.prog (E42) loopLim lv42 Try.f42.ntmps kp42 c42_0 [(0, (V.p t0)), (1, (V.i .u16 t1)), (2, (V.agg [(V.i .u8 t2_0), (V.i .u32 t2_1), (V.i .u32 t2_2), (V.i .u8 t2_3), (V.i .u8 t2_4), (V.i .u8 t2_5), (V.i .u8 t2_6), (V.sl t2_7)]))] H K = g42_p0 R t0 t1 t2_0 t2_1 t2_2 t2_3 t2_4 t2_5 t2_6 t2_7 H (fun H => K .normal [] H) (fun H => K .ret [] H) := by kernel_rfl
theorem g42_p0_lin {R S : Type} {k : S → Option R} {t0 : Option (Nat × Nat)} {t1 : Int} {t2_0 : Int} {t2_1 : Int} {t2_2 : Int} {t2_3 : Int} {t2_4 : Int} {t2_5 : Int} {t2_6 : Int} {t2_7 : Sl} {H : Heap} {fkN : Heap → Option R} {gkN : Heap → Option S} {fkR : Heap → Option R} {gkR : Heap → Option S} (hkN : ∀ H, fkN H = (gkN H).bind k) (hkR : ∀ H, fkR H = (gkR H).bind k) : g42_p0 R t0 t1 t2_0 t2_1 t2_2 t2_3 t2_4 t2_5 t2_6 t2_7 H fkN fkR = (g42_p0 S t0 t1 t2_0 t2_1 t2_2 t2_3 t2_4 t2_5 t2_6 t2_7 H gkN gkR).bind k := by
  delta g42_p0; exact (
    g38_lin.l fun x1 h2 =>
    sl_lin (
      bl fun q3 =>
      bl fun x4 =>
      alo_lin fun i5 h6 =>
      bl fun x7 =>
      il (
        bl fun vs10 =>
        appendV_lin fun s8 h9 =>
        bl fun q11 =>
        bl fun h13 =>
        hkR _) (
        rfl)) (
      g36_lin.l fun x14 h15 =>
      g56_lin.l fun h16 =>
      hkN _))
noncomputable def g42_r : T42 := fun R t0 t1 t2_0 t2_1 t2_2 t2_3 t2_4 t2_5 t2_6 t2_7 H K =>
  g42_p0 R t0 t1 t2_0 t2_1 t2_2 t2_3 t2_4 t2_5 t2_6 t2_7 H (fun H =>
    K  H) (fun H =>
    K  H)
theorem g42_r_lin : Lin42 (g42_r) := by
  constructor
  intro R S k t0 t1 t2_0 t2_1 t2_2 t2_3 t2_4 t2_5 t2_6 t2_7 H f g h
  exact g42_p0_lin (fun H =>
    h _) (fun H =>
    h _)
theorem g42_fn {R : Type} (t0 : Option (Nat × Nat)) (t1 : Int) (t2_0 : Int) (t2_1 : Int) (t2_2 : Int) (t2_3 : Int) (t2_4 : Int) (t2_5 : Int) (t2_6 : Int) (t2_7 : Sl) (H : Heap) (K : V → Heap → Option R) : evFn2 Try.prog (E42) loopLim lv42 Try.f42 kp42 [(V.p t0), (V.i .u16 t1), (V.agg [(V.i .u8 t2_0), (V.i .u32 t2_1), (V.i .u32 t2_2), (V.i .u8 t2_3), (V.i .u8 t2_4), (V.i .u8 t2_5), (V.i .u8 t2_6), (V.sl t2_7)])] H K = g42_r R t0 t1 t2_0 t2_1 t2_2 t2_3 t2_4 t2_5 t2_6 t2_7 H (fun H => K (V.tup []) H) := by
  have h0 : ∀ (H : Heap), kFn2 Try.prog Try.f42.results.toList K .normal [] H =
      K (V.tup []) H := by intros; kernel_rfl
  have h1 : ∀ (H : Heap), kFn2 Try.prog Try.f42.results.toList K .ret [] H =
      K (V.tup []) H := by intros; kernel_rfl
  have e0 := evFn2_code2 (P := Try.prog) (c := c42_0) (E := (E42)) (lr := loopLim) (lv := lv42) (kp := kp42) (fn := Try.f42) (args := [(V.p t0), (V.i .u16 t1), (V.agg [(V.i .u8 t2_0), (V.i .u32 t2_1), (V.i .u32 t2_2), (V.i .u8 t2_3), (V.i .u8 t2_4), (V.i .u8 t2_5), (V.i .u8 t2_6), (V.sl t2_7)])]) H K (by kernel_rfl) (Nat.le_of_ble_eq_true (by kernel_rfl)) (by kernel_rfl) (by kernel_rfl)
  have e1 : ev2 Try.prog (E42) loopLim lv42 Try.f42.ntmps kp42 c42_0 (argFr 0 [(V.p t0), (V.i .u16 t1), (V.agg [(V.i .u8 t2_0), (V.i .u32 t2_1), (V.i .u32 t2_2), (V.i .u8 t2_3), (V.i .u8 t2_4), (V.i .u8 t2_5), (V.i .u8 t2_6), (V.sl t2_7)])]) H (kFn2 Try.prog Try.f42.results.toList K) = ev2 Try.prog (E42) loopLim lv42 Try.f42.ntmps kp42 c42_0 [(0, (V.p t0)), (1, (V.i .u16 t1)), (2, (V.agg [(V.i .u8 t2_0), (V.i .u32 t2_1), (V.i .u32 t2_2), (V.i .u8 t2_3), (V.i .u8 t2_4), (V.i .u8 t2_5), (V.i .u8 t2_6), (V.sl t2_7)]))] H (kFn2 Try.prog Try.f42.results.toList K) := by kernel_rfl
  refine (e0.trans e1).trans ?_
  delta g42_r
  exact (g42_p0_eq t0 t1 t2_0 t2_1 t2_2 t2_3 t2_4 t2_5 t2_6 t2_7 H (kFn2 Try.prog Try.f42.results.toList K)).trans (congr (congrArg (g42_p0 R t0 t1 t2_0 t2_1 t2_2 t2_3 t2_4 t2_5 t2_6 t2_7 H) (funext fun H => h0 H)) (funext fun H => h1 H))
theorem g42_ok : FunOK Try.prog 42 (w42 (g42_r)) := by
  refine (runF2_ok (E42_good) mixed lim_ok Try.func42 (by kernel_rfl) lv42 kp42).of_le fun R args H K r hk => ?_
  unfold w42 at hk
  split at hk
  · exact (g42_fn _ _ _ _ _ _ _ _ _ _ H K).trans hk
  · cases hk
noncomputable def g42 : T42 := g42_r
theorem g42_lin : Lin42 g42 := g42_r_lin
theorem ok42 : FunOK Try.prog 42 (w42 g42) := g42_ok
def kp43 : Nat → Option (List Nat) := kpOf [(0, [0, 1, 5, 500005, 1000005]), (1, [1, 5, 7, 500005, 1000005]), (2, [5, 7, 25, 500005, 1000005]), (3, [6]), (4, [5, 7, 8, 500005, 1000005]), (5, [5, 7, 8, 31, 500005, 1000005]), (6, [5, 7, 8, 31, 500005, 1000005]), (7, [6]), (8, [7, 45]), (9, [6]), (10, [6]), (100000, [7]), (200000, [5, 7, 8, 500005, 1000005]), (300000, [6]), (400025, [5, 7, 500005, 1000005]), (400031, [5, 7, 8, 31, 500005, 1000005]), (400045, [7])]
def E43 : FEnv := []
theorem E43_good : EnvGood Try.prog E43 := (EnvGood.nil _)
theorem E43_lin : EnvLin E43 := fun g F h => by cases h
def lv43 : Nat → Bool := lvOf [5]
noncomputable def b43 : Code := Try.f43.body.getD .skip
noncomputable def c43_0 : Code := (.seq (codeAt [0] b43) (.seq (codeAt [1, 0] b43) (.seq (codeAt [1, 1, 0, 0] b43) (.seq (.cond (.tmp 25) (.seq (codeAt [1, 1, 0, 1, 0, 0] b43) .ret) .skip) (.seq (codeAt [1, 1, 1, 0] b43) (.seq (.block 0 (.seq (codeAt [1, 1, 1, 1, 0, 0, 0, 0] b43) (.seq (.cond (.tmp 31) .skip (codeAt [1, 1, 1, 1, 0, 0, 0, 1, 1] b43)) (.cond (.tmp 31) (.seq (codeAt [1, 1, 1, 1, 0, 0, 1, 0, 0] b43) .ret) (.seq (codeAt [1, 1, 1, 1, 0, 0, 1, 1, 0] b43) (.cond (.tmp 45) (.seq (codeAt [1, 1, 1, 1, 0, 0, 1, 1, 1, 0, 0] b43) .ret) .skip)))))) (.seq (codeAt [1, 1, 1, 1, 1, 0] b43) .ret)))))))
noncomputable def g43_p0 (R : Type) (t0 : Option (Nat × Nat)) (t1 : Int) (t2_0 : Int) (t2_1 : Int) (t2_2 : Int) (t2_3 : Int) (t2_4 : Int) (t2_5 : Int) (t2_6 : Int) (t2_7 : Sl) (H : Heap) (kR : Option (Nat × Nat) → Heap → Option R) : Option R :=
  (t0).bind fun q1 =>
  ((H).ldM q1.1 (q1.2 + 5)).bind fun x2 =>
  ((getMap H x2)).bind fun m3 =>
  ((findE Try.prog 23 (V.i .u32 t2_2) m3.1 0)).bind fun q4 =>
  fnd q4 (fun j5 x6 =>
    ((V.asP x6)).bind fun x7 =>
    sel (Option.isNone x7) (
      kR none H) (
      (x7).bind fun q8 =>
      ((H).ldI .u16 q8.1 (q8.2 + 1)).bind fun x9 =>
      sel (x9 != t1) (
        kR none H) (
        (x7).bind fun q10 =>
        ((H).ldI .u8 q10.1 (q10.2 + 4)).bind fun x11 =>
        sel (t2_0 == (3 : Int)) (
          sel (x11 == (1 : Int)) (
            sel (x11 == (1 : Int)) (
              kR x7 H) (
              sel (t2_0 == (3 : Int)) (
                kR none H) (
                sel (x11 == (1 : Int)) (
                  kR none H) (
                  (x7).bind fun q12 =>
                  ((H).ldI .u32 q12.1 (q12.2 + 2)).bind fun x13 =>
                  sel (x13 != t2_1) (
                    kR none H) (
                    kR x7 H))))) (
            sel (t2_0 == (2 : Int)) (
              sel (x11 == (1 : Int)) (
                kR x7 H) (
                sel (t2_0 == (3 : Int)) (
                  kR none H) (
                  sel (x11 == (1 : Int)) (
                    kR none H) (
                    (x7).bind fun q14 =>
                    ((H).ldI .u32 q14.1 (q14.2 + 2)).bind fun x15 =>
                    sel (x15 != t2_1) (
                      kR none H) (
                      kR x7 H))))) (
              sel (t2_0 == (3 : Int)) (
                kR none H) (
                sel (x11 == (1 : Int)) (
                  kR none H) (
                  (x7).bind fun q16 =>
                  ((H).ldI .u32 q16.1 (q16.2 + 2)).bind fun x17 =>
                  sel (x17 != t2_1) (
                    kR none H) (
                    kR x7 H)))))) (
          sel (t2_0 == (2 : Int)) (
            sel (x11 == (1 : Int)) (
              kR x7 H) (
              sel (t2_0 == (3 : Int)) (
                kR none H) (
                sel (x11 == (1 : Int)) (
                  kR none H) (
                  (x7).bind fun q18 =>
                  ((H).ldI .u32 q18.1 (q18.2 + 2)).bind fun x19 =>
                  sel (x19 != t2_1) (
                    kR none H) (
                    kR x7 H))))) (
            sel (t2_0 == (3 : Int)) (
              kR none H) (
              sel (x11 == (1 : Int)) (
                kR none H) (
                (x7).bind fun q20 =>
                ((H).ldI .u32 q20.1 (q20.2 + 2)).bind fun x21 =>
                sel (x21 != t2_1) (
                  kR none H) (
                  kR x7 H)))))))) (
    kR none H)
theorem g43_p0_eq {R : Type} (t0 : Option (Nat × Nat)) (t1 : Int) (t2_0 : Int) (t2_1 : Int) (t2_2 : Int) (t2_3 : Int) (t2_4 : Int) (t2_5 : Int) (t2_6 : Int) (t2_7 : Sl) (H : Heap) (K : Ex → Fr → Heap → Option R) : ev2 Try.prog E43 loopLim lv43 Try.f43.ntmps kp43 c43_0 [(0, (V.p t0)), (1, (V.i .u16 t1)), (2, (V.agg [(V.i .u8 t2_0), (V.i .u32 t2_1), (V.i .u32 t2_2), (V.i .u8 t2_3), (V.i .u8 t2_4), (V.i .u8 t2_5), (V.i .u8 t2_6), (V.sl t2_7)]))] H K = g43_p0 R t0 t1 t2_0 t2_1 t2_2 t2_3 t2_4 t2_5 t2_6 t2_7 H (fun t6 H => K .ret [(6, (V.p t6))] H) := by kernel_rfl
theorem g43_p0_lin {R S : Type} {k : S → Option R} {t0 : Option (Nat × Nat)} {t1 : Int} {t2_0 : Int} {t2_1 : Int} {t2_2 : Int} {t2_3 : Int} {t2_4 : Int} {t2_5 : Int} {t2_6 : Int} {t2_7 : Sl} {H : Heap} {fkR : Option (Nat × Nat) → Heap → Option R} {gkR : Option (Nat × Nat) → Heap → Option S} (hkR : ∀ t6 H, fkR t6 H = (gkR t6 H).bind k) : g43_p0 R t0 t1 t2_0 t2_1 t2_2 t2_3 t2_4 t2_5 t2_6 t2_7 H fkR = (g43_p0 S t0 t1 t2_0 t2_1 t2_2 t2_3 t2_4 t2_5 t2_6 t2_7 H gkR).bind k := by
  delta g43_p0
  repeat' (first | with_reducible (first | exact hkR _ _ | refine fnd_lin (fun _ _ => ?_) ?_ | refine sl_lin ?_ ?_ | refine bl fun _ => ?_) | exact (rfl : (none : Option R) = (none : Option S).bind k))
noncomputable def g43_r : T43 := fun R t0 t1 t2_0 t2_1 t2_2 t2_3 t2_4 t2_5 t2_6 t2_7 H K =>
  g43_p0 R t0 t1 t2_0 t2_1 t2_2 t2_3 t2_4 t2_5 t2_6 t2_7 H (fun t6 H =>
    K t6 H)
theorem g43_r_lin : Lin43 (g43_r) := by
  constructor
  intro R S k t0 t1 t2_0 t2_1 t2_2 t2_3 t2_4 t2_5 t2_6 t2_7 H f g h
  exact g43_p0_lin (fun t6 H =>
    h _ _)
theorem g43_fn {R : Type} (t0 : Option (Nat × Nat)) (t1 : Int) (t2_0 : Int) (t2_1 : Int) (t2_2 : Int) (t2_3 : Int) (t2_4 : Int) (t2_5 : Int) (t2_6 : Int) (t2_7 : Sl) (H : Heap) (K : V → Heap → Option R) : evFn2 Try.prog E43 loopLim lv43 Try.f43 kp43 [(V.p t0), (V.i .u16 t1), (V.agg [(V.i .u8 t2_0), (V.i .u32 t2_1), (V.i .u32 t2_2), (V.i .u8 t2_3), (V.i .u8 t2_4), (V.i .u8 t2_5), (V.i .u8 t2_6), (V.sl t2_7)])] H K = g43_r R t0 t1 t2_0 t2_1 t2_2 t2_3 t2_4 t2_5 t2_6 t2_7 H (fun r0 H => K (V.p r0) H) := by
  have h0 : ∀ (t6 : Option (Nat × Nat)) (H : Heap), kFn2 Try.prog Try.f43.results.toList K .ret [(6, (V.p t6))] H =
      K (V.p t6) H := by intros; kernel_rfl
  have e0 := evFn2_code2 (P := Try.prog) (c := c43_0) (E := E43) (lr := loopLim) (lv := lv43) (kp := kp43) (fn := Try.f43) (args := [(V.p t0), (V.i .u16 t1), (V.agg [(V.i .u8 t2_0), (V.i .u32 t2_1), (V.i .u32 t2_2), (V.i .u8 t2_3), (V.i .u8 t2_4), (V.i .u8 t2_5), (V.i .u8 t2_6), (V.sl t2_7)])]) H K (by kernel_rfl) (Nat.le_of_ble_eq_true (by kernel_rfl)) (by kernel_rfl) (by kernel_rfl)
  have e1 : ev2 Try.prog E43 loopLim lv43 Try.f43.ntmps kp43 c43_0 (argFr 0 [(V.p t0), (V.i .u16 t1), (V.agg [(V.i .u8 t2_0), (V.i .u32 t2_1), (V.i .u32 t2_2), (V.i .u8 t2_3), (V.i .u8 t2_4), (V.i .u8 t2_5), (V.i .u8 t2_6), (V.sl t2_7)])]) H (kFn2 Try.prog Try.f43.results.toList K) = ev2 Try.prog E43 loopLim lv43 Try.f43.ntmps kp43 c43_0 [(0, (V.p t0)), (1, (V.i .u16 t1)), (2, (V.agg [(V.i .u8 t2_0), (V.i .u32 t2_1), (V.i .u32 t2_2), (V.i .u8 t2_3), (V.i .u8 t2_4), (V.i .u8 t2_5), (V.i .u8 t2_6), (V.sl t2_7)]))] H (kFn2 Try.prog Try.f43.results.toList K) := by kernel_rfl
  refine (e0.trans e1).trans ?_
  delta g43_r
  exact (g43_p0_eq t0 t1 t2_0 t2_1 t2_2 t2_3 t2_4 t2_5 t2_6 t2_7 H (kFn2 Try.prog Try.f43.results.toList K)).trans (congrArg (g43_p0 R t0 t1 t2_0 t2_1 t2_2 t2_3 t2_4 t2_5 t2_6 t2_7 H) (funext fun t6 => funext fun H => h0 t6 H))
theorem g43_ok : FunOK Try.prog 43 (w43 (g43_r)) := by
  refine (runF2_ok (E43_good) mixed lim_ok Try.func43 (by kernel_rfl) lv43 kp43).of_le fun R args H K r hk => ?_
  unfold w43 at hk
  split at hk
  · exact (g43_fn _ _ _ _ _ _ _ _ _ _ H K).trans hk
  · cases hk
noncomputable def g43 : T43 := g43_r
theorem g43_lin : Lin43 g43 := g43_r_lin
theorem ok43 : FunOK Try.prog 43 (w43 g43) := g43_ok
def kp44 : Nat → Option (List Nat) := kpOf [(0, []), (1, [0]), (300000, [0])]
def E44 : FEnv := []
theorem E44_good : EnvGood Try.prog E44 := (EnvGood.nil _)
theorem E44_lin : EnvLin E44 := fun g F h => by cases h
def lv44 : Nat → Bool := lvOf []
noncomputable def b44 : Code := Try.f44.body.getD .skip
noncomputable def c44_0 : Code := (.seq (codeAt [0] b44) (.seq (codeAt [1, 0] b44) .ret))
noncomputable def g44_p0 (R : Type) (H : Heap) (kR : Option Nat → Heap → Option R) : Option R :=
  alo H (.map [] 0) fun i1 h2 =>
  mapSet Try.prog h2 106 (V.m (some i1)) (V.i .u8 (2 : Int)) (V.fn (.func 57) [] []) fun u4 h3 =>
  mapSet Try.prog h3 106 (V.m (some i1)) (V.i .u8 (3 : Int)) (V.fn (.func 58) [] []) fun u6 h5 =>
  mapSet Try.prog h5 106 (V.m (some i1)) (V.i .u8 (4 : Int)) (V.fn (.func 59) [] []) fun u8 h7 =>
  mapSet Try.prog h7 106 (V.m (some i1)) (V.i .u8 (5 : Int)) (V.fn (.func 60) [] []) fun u10 h9 =>
  mapSet Try.prog h9 106 (V.m (some i1)) (V.i .u8 (6 : Int)) (V.fn (.func 60) [] []) fun u12 h11 =>
  mapSet Try.prog h11 106 (V.m (some i1)) (V.i .u8 (7 : Int)) (V.fn (.func 61) [] []) fun u14 h13 =>
  mapSet Try.prog h13 106 (V.m (some i1)) (V.i .u8 (8 : Int)) (V.fn (.func 62) [] []) fun u16 h15 =>
  kR (some i1) h15
theorem g44_p0_eq {R : Type} (H : Heap) (K : Ex → Fr → Heap → Option R) : ev2 Try.prog E44 loopLim lv44 Try.f44.ntmps kp44 c44_0 [] H K = g44_p0 R H (fun t0 H => K .ret [(0, (V.m t0))] H) := by kernel_rfl
theorem g44_p0_lin {R S : Type} {k : S → Option R} {H : Heap} {fkR : Option Nat → Heap → Option R} {gkR : Option Nat → Heap → Option S} (hkR : ∀ t0 H, fkR t0 H = (gkR t0 H).bind k) : g44_p0 R H fkR = (g44_p0 S H gkR).bind k := by
  delta g44_p0; exact (
    alo_lin fun i1 h2 =>
    mapSet_lin fun u4 h3 =>
    mapSet_lin fun u6 h5 =>
    mapSet_lin fun u8 h7 =>
    mapSet_lin fun u10 h9 =>
    mapSet_lin fun u12 h11 =>
    mapSet_lin fun u14 h13 =>
    mapSet_lin fun u16 h15 =>
    hkR _ _)
noncomputable def g44_r : T44 := fun R H K =>
  g44_p0 R H (fun t0 H =>
    K t0 H)
theorem g44_r_lin : Lin44 (g44_r) := by
  constructor
  intro R S k H f g h
  exact g44_p0_lin (fun t0 H =>
    h _ _)
theorem g44_fn {R : Type} (H : Heap) (K : V → Heap → Option R) : evFn2 Try.prog E44 loopLim lv44 Try.f44 kp44 [] H K = g44_r R H (fun r0 H => K (V.m r0) H) := by
  have h0 : ∀ (t0 : Option Nat) (H : Heap), kFn2 Try.prog Try.f44.results.toList K .ret [(0, (V.m t0))] H =
      K (V.m t0) H := by intros; kernel_rfl
  have e0 := evFn2_code2 (P := Try.prog) (c := c44_0) (E := E44) (lr := loopLim) (lv := lv44) (kp := kp44) (fn := Try.f44) (args := []) H K (by kernel_rfl) (Nat.le_of_ble_eq_true (by kernel_rfl)) (by kernel_rfl) (by kernel_rfl)
  have e1 : ev2 Try.prog E44 loopLim lv44 Try.f44.ntmps kp44 c44_0 (argFr 0 []) H (kFn2 Try.prog Try.f44.results.toList K) = ev2 Try.prog E44 loopLim lv44 Try.f44.ntmps kp44 c44_0 [] H (kFn2 Try.prog Try.f44.results.toList K) := by kernel_rfl
  refine (e0.trans e1).trans ?_
  delta g44_r
  exact (g44_p0_eq H (kFn2 Try.prog Try.f44.results.toList K)).trans (congrArg (g44_p0 R H) (funext fun t0 => funext fun H => h0 t0 H))
theorem g44_ok : FunOK Try.prog 44 (w44 (g44_r)) := by
  refine (runF2_ok (E44_good) mixed lim_ok Try.func44 (by kernel_rfl) lv44 kp44).of_le fun R args H K r hk => ?_
  unfold w44 at hk
  split at hk
  · exact (g44_fn H K).trans hk
  · cases hk
noncomputable def g44 : T44 := g44_r
theorem g44_lin : Lin44 g44 := g44_r_lin
theorem ok44 : FunOK Try.prog 44 (w44 g44) := g44_ok
def kp51 : Nat → Option (List Nat) := kpOf [(0, []), (300000, [])]
def E51 : FEnv := []
theorem E51_good : EnvGood Try.prog E51 := (EnvGood.nil _)
theorem E51_lin : EnvLin E51 := fun g F h => by cases h
def lv51 : Nat → Bool := lvOf []
noncomputable def b51 : Code := Try.f51.body.getD .skip
noncomputable def c51_0 : Code := (codeAt [] b51)
noncomputable def g51_p0 (R : Type) (t0 : Option (Nat × Nat)) (t1 : Int) (H : Heap) (kN : Heap → Option R) : Option R :=
  (t0).bind fun q1 =>
  ((H).st q1.1 (q1.2 + 4) (V.i .u8 t1)).bind fun h3 =>
  (t0).bind fun q4 =>
  ((h3).sts q4.1 (q4.2 + 5) [(V.i .i64 (0 : Int)), (V.i .i64 (0 : Int)), (V.i .i64 (0 : Int))]).bind fun h5 =>
  kN h5
theorem g51_p0_eq {R : Type} (t0 : Option (Nat × Nat)) (t1 : Int) (H : Heap) (K : Ex → Fr → Heap → Option R) : ev2 Try.prog E51 loopLim lv51 Try.f51.ntmps kp51 c51_0 [(0, (V.p t0)), (1, (V.i .u8 t1))] H K = g51_p0 R t0 t1 H (fun H => K .normal [] H) := by kernel_rfl
theorem g51_p0_lin {R S : Type} {k : S → Option R} {t0 : Option (Nat × Nat)} {t1 : Int} {H : Heap} {fkN : Heap → Option R} {gkN : Heap → Option S} (hkN : ∀ H, fkN H = (gkN H).bind k) : g51_p0 R t0 t1 H fkN = (g51_p0 S t0 t1 H gkN).bind k := by
  delta g51_p0; exact (
    bl fun q1 =>
    bl fun h3 =>
    bl fun q4 =>
    bl fun h5 =>
    hkN _)
noncomputable def g51_r : T51 := fun R t0 t1 H K =>
  g51_p0 R t0 t1 H (fun H =>
    K  H)
theorem g51_r_lin : Lin51 (g51_r) := by
  constructor
  intro R S k t0 t1 H f g h
  exact g51_p0_lin (fun H =>
    h _)
theorem g51_fn {R : Type} (t0 : Option (Nat × Nat)) (t1 : Int) (H : Heap) (K : V → Heap → Option R) : evFn2 Try.prog E51 loopLim lv51 Try.f51 kp51 [(V.p t0), (V.i .u8 t1)] H K = g51_r R t0 t1 H (fun H => K (V.tup []) H) := by
  have h0 : ∀ (H : Heap), kFn2 Try.prog Try.f51.results.toList K .normal [] H =
      K (V.tup []) H := by intros; kernel_rfl
  have e0 := evFn2_code2 (P := Try.prog) (c := c51_0) (E := E51) (lr := loopLim) (lv := lv51) (kp := kp51) (fn := Try.f51) (args := [(V.p t0), (V.i .u8 t1)]) H K (by kernel_rfl) (Nat.le_of_ble_eq_true (by kernel_rfl)) (by kernel_rfl) (by kernel_rfl)
  have e1 : ev2 Try.prog E51 loopLim lv51 Try.f51.ntmps kp51 c51_0 (argFr 0 [(V.p t0), (V.i .u8 t1)]) H (kFn2 Try.prog Try.f51.results.toList K) = ev2 Try.prog E51 loopLim lv51 Try.f51.ntmps kp51 c51_0 [(0, (V.p t0)), (1, (V.i .u8 t1))] H (kFn2 Try.prog Try.f51.results.toList K) := by kernel_rfl
  refine (e0.trans e1).trans ?_
  delta g51_r
  exact (g51_p0_eq t0 t1 H (kFn2 Try.prog Try.f51.results.toList K)).trans (congrArg (g51_p0 R t0 t1 H) (funext fun H => h0 H))
theorem g51_ok : FunOK Try.prog 51 (w51 (g51_r)) := by
  refine (runF2_ok (E51_good) mixed lim_ok Try.func51 (by kernel_rfl) lv51 kp51).of_le fun R args H K r hk => ?_
  unfold w51 at hk
  split at hk
  · exact (g51_fn _ _ H K).trans hk
  · cases hk
noncomputable def g51 : T51 := g51_r
theorem g51_lin : Lin51 g51 := g51_r_lin
theorem ok51 : FunOK Try.prog 51 (w51 g51) := g51_ok
def kp57 : Nat → Option (List Nat) := kpOf [(0, [0, 1, 5, 500005, 1000005]), (1, [0, 1, 5, 10, 500005, 1000005]), (2, [0, 1]), (3, [0, 1]), (4, []), (300000, []), (400010, [])]
noncomputable def E57 : FEnv := [(51, w51 g51), (56, w56 g56)]
theorem E57_good : EnvGood Try.prog (E57) := (((EnvGood.nil _).cons ok56 (w56_lin g56_lin)).cons ok51 (w51_lin g51_lin))
theorem E57_lin : EnvLin (E57) := by
  intro g F h
  simp only [E57, List.mem_cons, List.not_mem_nil, or_false] at h
  rcases h with h | h
  · cases h; exact w51_lin g51_lin
  · cases h; exact w56_lin g56_lin
def lv57 : Nat → Bool := lvOf [5]
noncomputable def b57 : Code := Try.f57.body.getD .skip
noncomputable def c57_0 : Code := (.seq (codeAt [0] b57) (.seq (codeAt [1, 0] b57) (.cond (.tmp 10) (.seq (codeAt [1, 1, 0, 0] b57) (.seq (codeAt [1, 1, 0, 1, 0] b57) (codeAt [1, 1, 0, 1, 1] b57))) .skip)))
noncomputable def g57_p0 (R : Type) (t0 : Option (Nat × Nat)) (t1 : Option (Nat × Nat)) (t2_0 : Int) (t2_1 : Int) (t2_2 : Int) (t2_3 : Int) (t2_4 : Int) (t2_5 : Int) (t2_6 : Int) (t2_7 : Sl) (H : Heap) (kN : Heap → Option R) : Option R :=
  (t1).bind fun q1 =>
  ((H).ldI .u8 q1.1 (q1.2 + 4)).bind fun x2 =>
  sel (x2 == (1 : Int)) (
    (t1).bind fun q3 =>
    ((H).st q3.1 (q3.2 + 2) (V.i .u32 t2_1)).bind fun h5 =>
    g51 R t1 (3 : Int) h5 fun h6 =>
    g56 R t0 t1 (0 : Int) (2 : Int) (0 : Int) (0 : Int) (0 : Int) (Sl.mk none 0 (.ex 0)) h6 fun h7 =>
    kN h7) (
    kN H)
theorem g57_p0_eq {R : Type} (t0 : Option (Nat × Nat)) (t1 : Option (Nat × Nat)) (t2_0 : Int) (t2_1 : Int) (t2_2 : Int) (t2_3 : Int) (t2_4 : Int) (t2_5 : Int) (t2_6 : Int) (t2_7 : Sl) (H : Heap) (K : Ex → Fr → Heap → Option R) : ev2 Try.prog (E57) loopLim lv57 Try.f57.ntmps kp57 c57_0 [(0, (V.p t0)), (1, (V.p t1)), (2, (V.agg [(V.i .u8 t2_0), (V.i .u32 t2_1), (V.i .u32 t2_2), (V.i .u8 t2_3), (V.i .u8 t2_4), (V.i .u8 t2_5), (V.i .u8 t2_6), (V.sl t2_7)]))] H K = g57_p0 R t0 t1 t2_0 t2_1 t2_2 t2_3 t2_4 t2_5 t2_6 t2_7 H (fun H => K .normal [] H) := by kernel_rfl
theorem g57_p0_lin {R S : Type} {k : S → Option R} {t0 : Option (Nat × Nat)} {t1 : Option (Nat × Nat)} {t2_0 : Int} {t2_1 : Int} {t2_2 : Int} {t2_3 : Int} {t2_4 : Int} {t2_5 : Int} {t2_6 : Int} {t2_7 : Sl} {H : Heap} {fkN : Heap → Option R} {gkN : Heap → Option S} (hkN : ∀ H, fkN H = (gkN H).bind k) : g57_p0 R t0 t1 t2_0 t2_1 t2_2 t2_3 t2_4 t2_5 t2_6 t2_7 H fkN = (g57_p0 S t0 t1 t2_0 t2_1 t2_2 t2_3 t2_4 t2_5 t2_6 t2_7 H gkN).bind k := by
  delta g57_p0; exact (
    bl fun q1 =>
    bl fun x2 =>
    sl_lin (
      bl fun q3 =>
      bl fun h5 =>
      g51_lin.l fun h6 =>
      g56_lin.l fun h7 =>
      hkN _) (
      hkN _))
noncomputable def g57_r : T57 := fun R t0 t1 t2_0 t2_1 t2_2 t2_3 t2_4 t2_5 t2_6 t2_7 H K =>
  g57_p0 R t0 t1 t2_0 t2_1 t2_2 t2_3 t2_4 t2_5 t2_6 t2_7 H (fun H =>
    K  H)
theorem g57_r_lin : Lin57 (g57_r) := by
  constructor
  intro R S k t0 t1 t2_0 t2_1 t2_2 t2_3 t2_4 t2_5 t2_6 t2_7 H f g h
  exact g57_p0_lin (fun H =>
    h _)
theorem g57_fn {R : Type} (t0 : Option (Nat × Nat)) (t1 : Option (Nat × Nat)) (t2_0 : Int) (t2_1 : Int) (t2_2 : Int) (t2_3 : Int) (t2_4 : Int) (t2_5 : Int) (t2_6 : Int) (t2_7 : Sl) (H : Heap) (K : V → Heap → Option R) : evFn2 Try.prog (E57) loopLim lv57 Try.f57 kp57 [(V.p t0), (V.p t1), (V.agg [(V.i .u8 t2_0), (V.i .u32 t2_1), (V.i .u32 t2_2), (V.i .u8 t2_3), (V.i .u8 t2_4), (V.i .u8 t2_5), (V.i .u8 t2_6), (V.sl t2_7)])] H K = g57_r R t0 t1 t2_0 t2_1 t2_2 t2_3 t2_4 t2_5 t2_6 t2_7 H (fun H => K (V.tup []) H) := by
  have h0 : ∀ (H : Heap), kFn2 Try.prog Try.f57.results.toList K .normal [] H =
      K (V.tup []) H := by intros; kernel_rfl
  have e0 := evFn2_code2 (P := Try.prog) (c := c57_0) (E := (E57)) (lr := loopLim) (lv := lv57) (kp := kp57) (fn := Try.f57) (args := [(V.p t0), (V.p t1), (V.agg [(V.i .u8 t2_0), (V.i .u32 t2_1), (V.i .u32 t2_2), (V.i .u8 t2_3), (V.i .u8 t2_4), (V.i .u8 t2_5), (V.i .u8 t2_6), (V.sl t2_7)])]) H K (by kernel_rfl) (Nat.le_of_ble_eq_true (by kernel_rfl)) (by kernel_rfl) (by kernel_rfl)
  have e1 : ev2 Try.prog (E57) loopLim lv57 Try.f57.ntmps kp57 c57_0 (argFr 0 [(V.p t0), (V.p t1), (V.agg [(V.i .u8 t2_0), (V.i .u32 t2_1), (V.i .u32 t2_2), (V.i .u8 t2_3), (V.i .u8 t2_4), (V.i .u8 t2_5), (V.i .u8 t2_6), (V.sl t2_7)])]) H (kFn2 Try.prog Try.f57.results.toList K) = ev2 Try.prog (E57) loopLim lv57 Try.f57.ntmps kp57 c57_0 [(0, (V.p t0)), (1, (V.p t1)), (2, (V.agg [(V.i .u8 t2_0), (V.i .u32 t2_1), (V.i .u32 t2_2), (V.i .u8 t2_3), (V.i .u8 t2_4), (V.i .u8 t2_5), (V.i .u8 t2_6), (V.sl t2_7)]))] H (kFn2 Try.prog Try.f57.results.toList K) := by kernel_rfl
  refine (e0.trans e1).trans ?_
  delta g57_r
  exact (g57_p0_eq t0 t1 t2_0 t2_1 t2_2 t2_3 t2_4 t2_5 t2_6 t2_7 H (kFn2 Try.prog Try.f57.results.toList K)).trans (congrArg (g57_p0 R t0 t1 t2_0 t2_1 t2_2 t2_3 t2_4 t2_5 t2_6 t2_7 H) (funext fun H => h0 H))
theorem g57_ok : FunOK Try.prog 57 (w57 (g57_r)) := by
  refine (runF2_ok (E57_good) mixed lim_ok Try.func57 (by kernel_rfl) lv57 kp57).of_le fun R args H K r hk => ?_
  unfold w57 at hk
  split at hk
  · exact (g57_fn _ _ _ _ _ _ _ _ _ _ H K).trans hk
  · cases hk
noncomputable def g57 : T57 := g57_r
theorem g57_lin : Lin57 g57 := g57_r_lin
theorem ok57 : FunOK Try.prog 57 (w57 g57) := g57_ok
def kp53 : Nat → Option (List Nat) := kpOf [(0, [0, 1]), (1, []), (300000, [])]
def E53 : FEnv := []
theorem E53_good : EnvGood Try.prog E53 := (EnvGood.nil _)
theorem E53_lin : EnvLin E53 := fun g F h => by cases h
def lv53 : Nat → Bool := lvOf []
noncomputable def b53 : Code := Try.f53.body.getD .skip
noncomputable def c53_0 : Code := (.seq (codeAt [0] b53) (codeAt [1] b53))
noncomputable def g53_p0 (R : Type) (t0 : Option (Nat × Nat)) (t1 : Option (Nat × Nat)) (H : Heap) (kN : Heap → Option R) : Option R :=
  (t0).bind fun q1 =>
  ((H).ldM q1.1 (q1.2 + 5)).bind fun x2 =>
  (t1).bind fun q3 =>
  ((H).ldI .u32 q3.1 (q3.2 + 0)).bind fun x4 =>
  evBuiltin Try.prog H .delete [87, 23] [(V.m x2), (V.i .u32 x4)] fun u5 h6 =>
  (t0).bind fun q7 =>
  ((h6).ldM q7.1 (q7.2 + 6)).bind fun x8 =>
  (t1).bind fun q9 =>
  ((h6).ldI .u32 q9.1 (q9.2 + 0)).bind fun x10 =>
  (t0).bind fun q11 =>
  ((h6).ldI .i64 q11.1 ((q11.2 + 0) + 3)).bind fun x12 =>
  mapSet Try.prog h6 88 (V.m x8) (V.i .u32 x10) (V.i .i64 x12) fun u14 h13 =>
  kN h13
theorem g53_p0_eq {R : Type} (t0 : Option (Nat × Nat)) (t1 : Option (Nat × Nat)) (H : Heap) (K : Ex → Fr → Heap → Option R) : ev2 Try.prog E53 loopLim lv53 Try.f53.ntmps kp53 c53_0 [(0, (V.p t0)), (1, (V.p t1))] H K = g53_p0 R t0 t1 H (fun H => K .normal [] H) := by kernel_rfl
theorem g53_p0_lin {R S : Type} {k : S → Option R} {t0 : Option (Nat × Nat)} {t1 : Option (Nat × Nat)} {H : Heap} {fkN : Heap → Option R} {gkN : Heap → Option S} (hkN : ∀ H, fkN H = (gkN H).bind k) : g53_p0 R t0 t1 H fkN = (g53_p0 S t0 t1 H gkN).bind k := by
  delta g53_p0; exact (
    bl fun q1 =>
    bl fun x2 =>
    bl fun q3 =>
    bl fun x4 =>
    evBuiltin_lin fun u5 h6 =>
    bl fun q7 =>
    bl fun x8 =>
    bl fun q9 =>
    bl fun x10 =>
    bl fun q11 =>
    bl fun x12 =>
    mapSet_lin fun u14 h13 =>
    hkN _)
noncomputable def g53_r : T53 := fun R t0 t1 H K =>
  g53_p0 R t0 t1 H (fun H =>
    K  H)
theorem g53_r_lin : Lin53 (g53_r) := by
  constructor
  intro R S k t0 t1 H f g h
  exact g53_p0_lin (fun H =>
    h _)
theorem g53_fn {R : Type} (t0 : Option (Nat × Nat)) (t1 : Option (Nat × Nat)) (H : Heap) (K : V → Heap → Option R) : evFn2 Try.prog E53 loopLim lv53 Try.f53 kp53 [(V.p t0), (V.p t1)] H K = g53_r R t0 t1 H (fun H => K (V.tup []) H) := by
  have h0 : ∀ (H : Heap), kFn2 Try.prog Try.f53.results.toList K .normal [] H =
      K (V.tup []) H := by intros; kernel_rfl
  have e0 := evFn2_code2 (P := Try.prog) (c := c53_0) (E := E53) (lr := loopLim) (lv := lv53) (kp := kp53) (fn := Try.f53) (args := [(V.p t0), (V.p t1)]) H K (by kernel_rfl) (Nat.le_of_ble_eq_true (by kernel_rfl)) (by kernel_rfl) (by kernel_rfl)
  have e1 : ev2 Try.prog E53 loopLim lv53 Try.f53.ntmps kp53 c53_0 (argFr 0 [(V.p t0), (V.p t1)]) H (kFn2 Try.prog Try.f53.results.toList K) = ev2 Try.prog E53 loopLim lv53 Try.f53.ntmps kp53 c53_0 [(0, (V.p t0)), (1, (V.p t1))] H (kFn2 Try.prog Try.f53.results.toList K) := by kernel_rfl
  refine (e0.trans e1).trans ?_
  delta g53_r
  exact (g53_p0_eq t0 t1 H (kFn2 Try.prog Try.f53.results.toList K)).trans (congrArg (g53_p0 R t0 t1 H) (funext fun H => h0 H))
theorem g53_ok : FunOK Try.prog 53 (w53 (g53_r)) := by
  refine (runF2_ok (E53_good) mixed lim_ok Try.func53 (by kernel_rfl) lv53 kp53).of_le fun R args H K r hk => ?_
  unfold w53 at hk
  split at hk
  · exact (g53_fn _ _ H K).trans hk
  · cases hk
noncomputable def g53 : T53 := g53_r
theorem g53_lin : Lin53 g53 := g53_r_lin
theorem ok53 : FunOK Try.prog 53 (w53 g53) := g53_ok
def kp58 : Nat → Option (List Nat) := kpOf [(0, [0, 1, 5, 500005, 1000005]), (1, [0, 1]), (2, []), (300000, [])]
noncomputable def E58 : FEnv := [(56, w56 g56), (53, w53 g53)]
theorem E58_good : EnvGood Try.prog (E58) := (((EnvGood.nil _).cons ok53 (w53_lin g53_lin)).cons ok56 (w56_lin g56_lin))
theorem E58_lin : EnvLin (E58) := by
  intro g F h
  simp only [E58, List.mem_cons, List.not_mem_nil, or_false] at h
  rcases h with h | h
  · cases h; exact w56_lin g56_lin
  · cases h; exact w53_lin g53_lin
def lv58 : Nat → Bool := lvOf [5]
noncomputable def b58 : Code := Try.f58.body.getD .skip
noncomputable def c58_0 : Code := (.seq (codeAt [0] b58) (.seq (codeAt [1, 0] b58) (codeAt [1, 1] b58)))
noncomputable def g58_p0 (R : Type) (t0 : Option (Nat × Nat)) (t1 : Option (Nat × Nat)) (t2_0 : Int) (t2_1 : Int) (t2_2 : Int) (t2_3 : Int) (t2_4 : Int) (t2_5 : Int) (t2_6 : Int) (t2_7 : Sl) (H : Heap) (kN : Heap → Option R) : Option R :=
  g56 R t0 t1 (0 : Int) (3 : Int) (0 : Int) (0 : Int) t2_6 (Sl.mk none 0 (.ex 0)) H fun h1 =>
  g53 R t0 t1 h1 fun h2 =>
  kN h2
theorem g58_p0_eq {R : Type} (t0 : Option (Nat × Nat)) (t1 : Option (Nat × Nat)) (t2_0 : Int) (t2_1 : Int) (t2_2 : Int) (t2_3 : Int) (t2_4 : Int) (t2_5 : Int) (t2_6 : Int) (t2_7 : Sl) (H : Heap) (K : Ex → Fr → Heap → Option R) : ev2 Try.prog (E58) loopLim lv58 Try.f58.ntmps kp58 c58_0 [(0, (V.p t0)), (1, (V.p t1)), (2, (V.agg [(V.i .u8 t2_0), (V.i .u32 t2_1), (V.i .u32 t2_2), (V.i .u8 t2_3), (V.i .u8 t2_4), (V.i .u8 t2_5), (V.i .u8 t2_6), (V.sl t2_7)]))] H K = g58_p0 R t0 t1 t2_0 t2_1 t2_2 t2_3 t2_4 t2_5 t2_6 t2_7 H (fun H => K .normal [] H) := by kernel_rfl
theorem g58_p0_lin {R S : Type} {k : S → Option R} {t0 : Option (Nat × Nat)} {t1 : Option (Nat × Nat)} {t2_0 : Int} {t2_1 : Int} {t2_2 : Int} {t2_3 : Int} {t2_4 : Int} {t2_5 : Int} {t2_6 : Int} {t2_7 : Sl} {H : Heap} {fkN : Heap → Option R} {gkN : Heap → Option S} (hkN : ∀ H, fkN H = (gkN H).bind k) : g58_p0 R t0 t1 t2_0 t2_1 t2_2 t2_3 t2_4 t2_5 t2_6 t2_7 H fkN = (g58_p0 S t0 t1 t2_0 t2_1 t2_2 t2_3 t2_4 t2_5 t2_6 t2_7 H gkN).bind k := by
  delta g58_p0; exact (
    g56_lin.l fun h1 =>
    g53_lin.l fun h2 =>
    hkN _)
noncomputable def g58_r : T58 := fun R t0 t1 t2_0 t2_1 t2_2 t2_3 t2_4 t2_5 t2_6 t2_7 H K =>
  g58_p0 R t0 t1 t2_0 t2_1 t2_2 t2_3 t2_4 t2_5 t2_6 t2_7 H (fun H =>
    K  H)
theorem g58_r_lin : Lin58 (g58_r) := by
  constructor
  intro R S k t0 t1 t2_0 t2_1 t2_2 t2_3 t2_4 t2_5 t2_6 t2_7 H f g h
  exact g58_p0_lin (fun H =>
    h _)
theorem g58_fn {R : Type} (t0 : Option (Nat × Nat)) (t1 : Option (Nat × Nat)) (t2_0 : Int) (t2_1 : Int) (t2_2 : Int) (t2_3 : Int) (t2_4 : Int) (t2_5 : Int) (t2_6 : Int) (t2_7 : Sl) (H : Heap) (K : V → Heap → Option R) : evFn2 Try.prog (E58) loopLim lv58 Try.f58 kp58 [(V.p t0), (V.p t1), (V.agg [(V.i .u8 t2_0), (V.i .u32 t2_1), (V.i .u32 t2_2), (V.i .u8 t2_3), (V.i .u8 t2_4), (V.i .u8 t2_5), (V.i .u8 t2_6), (V.sl t2_7)])] H K = g58_r R t0 t1 t2_0 t2_1 t2_2 t2_3 t2_4 t2_5 t2_6 t2_7 H (fun H => K (V.tup []) H) := by
  have h0 : ∀ (H : Heap), kFn2 Try.prog Try.f58.results.toList K .normal [] H =
      K (V.tup []) H := by intros; kernel_rfl
  have e0 := evFn2_code2 (P := Try.prog) (c := c58_0) (E := (E58)) (lr := loopLim) (lv := lv58) (kp := kp58) (fn := Try.f58) (args := [(V.p t0), (V.p t1), (V.agg [(V.i .u8 t2_0), (V.i .u32 t2_1), (V.i .u32 t2_2), (V.i .u8 t2_3), (V.i .u8 t2_4), (V.i .u8 t2_5), (V.i .u8 t2_6), (V.sl t2_7)])]) H K (by kernel_rfl) (Nat.le_of_ble_eq_true (by kernel_rfl)) (by kernel_rfl) (by kernel_rfl)
  have e1 : ev2 Try.prog (E58) loopLim lv58 Try.f58.ntmps kp58 c58_0 (argFr 0 [(V.p t0), (V.p t1), (V.agg [(V.i .u8 t2_0), (V.i .u32 t2_1), (V.i .u32 t2_2), (V.i .u8 t2_3), (V.i .u8 t2_4), (V.i .u8 t2_5), (V.i .u8 t2_6), (V.sl t2_7)])]) H (kFn2 Try.prog Try.f58.results.toList K) = ev2 Try.prog (E58) loopLim lv58 Try.f58.ntmps kp58 c58_0 [(0, (V.p t0)), (1, (V.p t1)), (2, (V.agg [(V.i .u8 t2_0), (V.i .u32 t2_1), (V.i .u32 t2_2), (V.i .u8 t2_3), (V.i .u8 t2_4), (V.i .u8 t2_5), (V.i .u8 t2_6), (V.sl t2_7)]))] H (kFn2 Try.prog Try.f58.results.toList K) := by kernel_rfl
  refine (e0.trans e1).trans ?_
  delta g58_r
  exact (g58_p0_eq t0 t1 t2_0 t2_1 t2_2 t2_3 t2_4 t2_5 t2_6 t2_7 H (kFn2 Try.prog Try.f58.results.toList K)).trans (congrArg (g58_p0 R t0 t1 t2_0 t2_1 t2_2 t2_3 t2_4 t2_5 t2_6 t2_7 H) (funext fun H => h0 H))
theorem g58_ok : FunOK Try.prog 58 (w58 (g58_r)) := by
  refine (runF2_ok (E58_good) mixed lim_ok Try.func58 (by kernel_rfl) lv58 kp58).of_le fun R args H K r hk => ?_
  unfold w58 at hk
  split at hk
  · exact (g58_fn _ _ _ _ _ _ _ _ _ _ H K).trans hk
  · cases hk
noncomputable def g58 : T58 := g58_r
theorem g58_lin : Lin58 g58 := g58_r_lin
theorem ok58 : FunOK Try.prog 58 (w58 g58) := g58_ok
def kp66 : Nat → Option (List Nat) := kpOf [(0, [0, 1, 2]), (1, [1]), (2, []), (300000, [])]
noncomputable def E66 : FEnv := [(56, w56 g56), (39, w39 g39), (51, w51 g51)]
theorem E66_good : EnvGood Try.prog (E66) := ((((EnvGood.nil _).cons ok51 (w51_lin g51_lin)).cons ok39 (w39_lin g39_lin)).cons ok56 (w56_lin g56_lin))
theorem E66_lin : EnvLin (E66) := by
  intro g F h
  simp only [E66, List.mem_cons, List.not_mem_nil, or_false] at h
  rcases h with h | h | h
  · cases h; exact w56_lin g56_lin
  · cases h; exact w39_lin g39_lin
  · cases h; exact w51_lin g51_lin
def lv66 : Nat → Bool := lvOf []
noncomputable def b66 : Code := Try.f66.body.getD .skip
noncomputable def c66_0 : Code := (.seq (codeAt [0] b66) (.seq (codeAt [1, 0] b66) (codeAt [1, 1] b66)))
noncomputable def g66_p0 (R : Type) (t0 : Option (Nat × Nat)) (t1 : Option (Nat × Nat)) (t2 : Int) (H : Heap) (kN : Heap → Option R) : Option R :=
  g56 R t0 t1 (0 : Int) (5 : Int) (0 : Int) (0 : Int) t2 (Sl.mk none 0 (.ex 0)) H fun h1 =>
  g39 R t0 t1 (7 : Int) (0 : Int) (0 : Int) (0 : Int) (0 : Int) (0 : Int) t2 (Sl.mk none 0 (.ex 0)) h1 fun h2 =>
  g51 R t1 (4 : Int) h2 fun h3 =>
  kN h3
theorem g66_p0_eq {R : Type} (t0 : Option (Nat × Nat)) (t1 : Option (Nat × Nat)) (t2 : Int) (H : Heap) (K : Ex → Fr → Heap → Option R) : ev2 Try.prog (E66) loopLim lv66 Try.f66.ntmps kp66 c66_0 [(0, (V.p t0)), (1, (V.p t1)), (2, (V.i .u8 t2))] H K = g66_p0 R t0 t1 t2 H (fun H => K .normal [] H) := by kernel_rfl
theorem g66_p0_lin {R S : Type} {k : S → Option R} {t0 : Option (Nat × Nat)} {t1 : Option (Nat × Nat)} {t2 : Int} {H : Heap} {fkN : Heap → Option R} {gkN : Heap → Option S} (hkN : ∀ H, fkN H = (gkN H).bind k) : g66_p0 R t0 t1 t2 H fkN = (g66_p0 S t0 t1 t2 H gkN).bind k := by
  delta g66_p0; exact (
    g56_lin.l fun h1 =>
    g39_lin.l fun h2 =>
    g51_lin.l fun h3 =>
    hkN _)
noncomputable def g66_r : T66 := fun R t0 t1 t2 H K =>
  g66_p0 R t0 t1 t2 H (fun H =>
    K  H)
theorem g66_r_lin : Lin66 (g66_r) := by
  constructor
  intro R S k t0 t1 t2 H f g h
  exact g66_p0_lin (fun H =>
    h _)
theorem g66_fn {R : Type} (t0 : Option (Nat × Nat)) (t1 : Option (Nat × Nat)) (t2 : Int) (H : Heap) (K : V → Heap → Option R) : evFn2 Try.prog (E66) loopLim lv66 Try.f66 kp66 [(V.p t0), (V.p t1), (V.i .u8 t2)] H K = g66_r R t0 t1 t2 H (fun H => K (V.tup []) H) := by
  have h0 : ∀ (H : Heap), kFn2 Try.prog Try.f66.results.toList K .normal [] H =
      K (V.tup []) H := by intros; kernel_rfl
  have e0 := evFn2_code2 (P := Try.prog) (c := c66_0) (E := (E66)) (lr := loopLim) (lv := lv66) (kp := kp66) (fn := Try.f66) (args := [(V.p t0), (V.p t1), (V.i .u8 t2)]) H K (by kernel_rfl) (Nat.le_of_ble_eq_true (by kernel_rfl)) (by kernel_rfl) (by kernel_rfl)
  have e1 : ev2 Try.prog (E66) loopLim lv66 Try.f66.ntmps kp66 c66_0 (argFr 0 [(V.p t0), (V.p t1), (V.i .u8 t2)]) H (kFn2 Try.prog Try.f66.results.toList K) = ev2 Try.prog (E66) loopLim lv66 Try.f66.ntmps kp66 c66_0 [(0, (V.p t0)), (1, (V.p t1)), (2, (V.i .u8 t2))] H (kFn2 Try.prog Try.f66.results.toList K) := by kernel_rfl
  refine (e0.trans e1).trans ?_
  delta g66_r
  exact (g66_p0_eq t0 t1 t2 H (kFn2 Try.prog Try.f66.results.toList K)).trans (congrArg (g66_p0 R t0 t1 t2 H) (funext fun H => h0 H))
theorem g66_ok : FunOK Try.prog 66 (w66 (g66_r)) := by
  refine (runF2_ok (E66_good) mixed lim_ok Try.func66 (by kernel_rfl) lv66 kp66).of_le fun R args H K r hk => ?_
  unfold w66 at hk
  split at hk
  · exact (g66_fn _ _ _ H K).trans hk
  · cases hk
noncomputable def g66 : T66 := g66_r
theorem g66_lin : Lin66 g66 := g66_r_lin
theorem ok66 : FunOK Try.prog 66 (w66 g66) := g66_ok
def kp68 : Nat → Option (List Nat) := kpOf [(0, [0, 1, 21]), (1, []), (300000, []), (400021, [])]
def E68 : FEnv := []
theorem E68_good : EnvGood Try.prog E68 := (EnvGood.nil _)
theorem E68_lin : EnvLin E68 := fun g F h => by cases h
def lv68 : Nat → Bool := lvOf []
noncomputable def b68 : Code := Try.f68.body.getD .skip
noncomputable def c68_0 : Code := (.seq (codeAt [0] b68) (.cond (.tmp 21) (codeAt [1, 0] b68) .skip))
noncomputable def g68_p0 (R : Type) (t0 : Option (Nat × Nat)) (t1 : Int) (H : Heap) (kN : Heap → Option R) : Option R :=
  (t0).bind fun q1 =>
  ((H).ldI .u8 q1.1 (q1.2 + 9)).bind fun x2 =>
  (t0).bind fun q3 =>
  ((H).ldI .u8 q3.1 (q3.2 + 8)).bind fun x4 =>
  (t0).bind fun q5 =>
  ((H).ldI .u8 q5.1 (q5.2 + 9)).bind fun x6 =>
  sel (decide ((Int.tmod (IntKind.wrap .u8 (t1 - x2)) (128 : Int)) ≤ (Int.tmod (IntKind.wrap .u8 (x4 - x6)) (128 : Int)))) (
    (t0).bind fun q7 =>
    ((H).st q7.1 (q7.2 + 9) (V.i .u8 t1)).bind fun h9 =>
    kN h9) (
    kN H)
theorem g68_p0_eq {R : Type} (t0 : Option (Nat × Nat)) (t1 : Int) (H : Heap) (K : Ex → Fr → Heap → Option R) : ev2 Try.prog E68 loopLim lv68 Try.f68.ntmps kp68 c68_0 [(0, (V.p t0)), (1, (V.i .u8 t1))] H K = g68_p0 R t0 t1 H (fun H => K .normal [] H) := by kernel_rfl
theorem g68_p0_lin {R S : Type} {k : S → Option R} {t0 : Option (Nat × Nat)} {t1 : Int} {H : Heap} {fkN : Heap → Option R} {gkN : Heap → Option S} (hkN : ∀ H, fkN H = (gkN H).bind k) : g68_p0 R t0 t1 H fkN = (g68_p0 S t0 t1 H gkN).bind k := by
  delta g68_p0; exact (
    bl fun q1 =>
    bl fun x2 =>
    bl fun q3 =>
    bl fun x4 =>
    bl fun q5 =>
    bl fun x6 =>
    sl_lin (
      bl fun q7 =>
      bl fun h9 =>
      hkN _) (
      hkN _))
noncomputable def g68_r : T68 := fun R t0 t1 H K =>
  g68_p0 R t0 t1 H (fun H =>
    K  H)
theorem g68_r_lin : Lin68 (g68_r) := by
  constructor
  intro R S k t0 t1 H f g h
  exact g68_p0_lin (fun H =>
    h _)
theorem g68_fn {R : Type} (t0 : Option (Nat × Nat)) (t1 : Int) (H : Heap) (K : V → Heap → Option R) : evFn2 Try.prog E68 loopLim lv68 Try.f68 kp68 [(V.p t0), (V.i .u8 t1)] H K = g68_r R t0 t1 H (fun H => K (V.tup []) H) := by
  have h0 : ∀ (H : Heap), kFn2 Try.prog Try.f68.results.toList K .normal [] H =
      K (V.tup []) H := by intros; kernel_rfl
  have e0 := evFn2_code2 (P := Try.prog) (c := c68_0) (E := E68) (lr := loopLim) (lv := lv68) (kp := kp68) (fn := Try.f68) (args := [(V.p t0), (V.i .u8 t1)]) H K (by kernel_rfl) (Nat.le_of_ble_eq_true (by kernel_rfl)) (by kernel_rfl) (by kernel_rfl)
  have e1 : ev2 Try.prog E68 loopLim lv68 Try.f68.ntmps kp68 c68_0 (argFr 0 [(V.p t0), (V.i .u8 t1)]) H (kFn2 Try.prog Try.f68.results.toList K) = ev2 Try.prog E68 loopLim lv68 Try.f68.ntmps kp68 c68_0 [(0, (V.p t0)), (1, (V.i .u8 t1))] H (kFn2 Try.prog Try.f68.results.toList K) := by kernel_rfl
  refine (e0.trans e1).trans ?_
  delta g68_r
  exact (g68_p0_eq t0 t1 H (kFn2 Try.prog Try.f68.results.toList K)).trans (congrArg (g68_p0 R t0 t1 H) (funext fun H => h0 H))
theorem g68_ok : FunOK Try.prog 68 (w68 (g68_r)) := by
  refine (runF2_ok (E68_good) mixed lim_ok Try.func68 (by kernel_rfl) lv68 kp68).of_le fun R args H K r hk => ?_
  unfold w68 at hk
  split at hk
  · exact (g68_fn _ _ H K).trans hk
  · cases hk
noncomputable def g68 : T68 := g68_r
theorem g68_lin : Lin68 g68 := g68_r_lin
theorem ok68 : FunOK Try.prog 68 (w68 g68) := g68_ok
def kp59 : Nat → Option (List Nat) := kpOf [(0, [0, 1, 5, 500005, 1000005]), (1, [0, 1, 5, 500005, 1000005]), (2, [0, 1, 5, 500005, 1000005]), (3, [0, 1]), (4, []), (5, [0, 1, 5, 34, 500005, 1000005]), (6, [0, 1, 5, 40, 500005, 1000005]), (7, []), (8, [0, 1, 5, 53, 500005, 1000005]), (9, []), (100000, []), (200000, [0, 1, 5, 500005, 1000005]), (300000, []), (400034, []), (400040, []), (400053, [])]
noncomputable def E59 : FEnv := [(36, w36 g36), (56, w56 g56), (66, w66 g66), (68, w68 g68), (39, w39 g39)]
theorem E59_good : EnvGood Try.prog (E59) := ((((((EnvGood.nil _).cons ok39 (w39_lin g39_lin)).cons ok68 (w68_lin g68_lin)).cons ok66 (w66_lin g66_lin)).cons ok56 (w56_lin g56_lin)).cons ok36 (w36_lin g36_lin))
theorem E59_lin : EnvLin (E59) := by
  intro g F h
  simp only [E59, List.mem_cons, List.not_mem_nil, or_false] at h
  rcases h with h | h | h | h | h
  · cases h; exact w36_lin g36_lin
  · cases h; exact w56_lin g56_lin
  · cases h; exact w66_lin g66_lin
  · cases h; exact w68_lin g68_lin
  · cases h; exact w39_lin g39_lin
def lv59 : Nat → Bool := lvOf [5]
noncomputable def b59 : Code := Try.f59.body.getD .skip
noncomputable def c59_0 : Code := (.seq (codeAt [0] b59) (.block 0 (.seq (codeAt [1, 0, 0] b59) (.cond (.tmp 34) .skip (.seq (codeAt [1, 0, 1, 1, 0] b59) (.cond (.tmp 40) (codeAt [1, 0, 1, 1, 1, 0] b59) (.seq (codeAt [1, 0, 1, 1, 1, 1, 0] b59) (.cond (.tmp 53) (codeAt [1, 0, 1, 1, 1, 1, 1, 0] b59) (.seq (codeAt [1, 0, 1, 1, 1, 1, 1, 1, 0] b59) (.seq (codeAt [1, 0, 1, 1, 1, 1, 1, 1, 1, 0] b59) (.seq (codeAt [1, 0, 1, 1, 1, 1, 1, 1, 1, 1, 0] b59) (codeAt [1, 0, 1, 1, 1, 1, 1, 1, 1, 1, 1] b59))))))))))))
noncomputable def g59_p0 (R : Type) (t0 : Option (Nat × Nat)) (t1 : Option (Nat × Nat)) (t2_0 : Int) (t2_1 : Int) (t2_2 : Int) (t2_3 : Int) (t2_4 : Int) (t2_5 : Int) (t2_6 : Int) (t2_7 : Sl) (H : Heap) (kN : Heap → Option R) : Option R :=
  (t1).bind fun q1 =>
  ((H).ldI .u8 q1.1 (q1.2 + 4)).bind fun x2 =>
  sel (x2 != (3 : Int)) (
    kN H) (
    (t1).bind fun q3 =>
    ((H).ldI .u8 q3.1 (q3.2 + 3)).bind fun x4 =>
    sel (x4 == (2 : Int)) (
      g36 R t2_7 H fun x5 h6 =>
      g56 R t0 t1 (0 : Int) (4 : Int) (0 : Int) (0 : Int) (0 : Int) x5 h6 fun h7 =>
      kN h7) (
      (t1).bind fun q8 =>
      ((H).ldI .u8 q8.1 (q8.2 + 10)).bind fun x9 =>
      sel (t2_4 != x9) (
        g66 R t0 t1 (5 : Int) H fun h10 =>
        kN h10) (
        g68 R t1 t2_5 H fun h11 =>
        (t1).bind fun q12 =>
        ((h11).ldI .u8 q12.1 (q12.2 + 10)).bind fun x13 =>
        (t1).bind fun q14 =>
        ((h11).st q14.1 (q14.2 + 10) (V.i .u8 (Int.tmod (IntKind.wrap .u8 (x13 + (1 : Int))) (128 : Int)))).bind fun h16 =>
        g36 R t2_7 h16 fun x17 h18 =>
        g56 R t0 t1 (0 : Int) (4 : Int) (0 : Int) (0 : Int) (0 : Int) x17 h18 fun h19 =>
        (t1).bind fun q20 =>
        ((h19).ldI .u8 q20.1 (q20.2 + 10)).bind fun x21 =>
        g39 R t0 t1 (5 : Int) (0 : Int) (0 : Int) (0 : Int) (0 : Int) x21 (0 : Int) (Sl.mk none 0 (.ex 0)) h19 fun h22 =>
        kN h22)))
theorem g59_p0_eq {R : Type} (t0 : Option (Nat × Nat)) (t1 : Option (Nat × Nat)) (t2_0 : Int) (t2_1 : Int) (t2_2 : Int) (t2_3 : Int) (t2_4 : Int) (t2_5 : Int) (t2_6 : Int) (t2_7 : Sl) (H : Heap) (K : Ex → Fr → Heap → Option R) : ev2 Try.prog (E59) loopLim lv59 Try.f59.ntmps kp59 c59_0 [(0, (V.p t0)), (1, (V.p t1)), (2, (V.agg [(V.i .u8 t2_0), (V.i .u32 t2_1), (V.i .u32 t2_2), (V.i .u8 t2_3), (V.i .u8 t2_4), (V.i .u8 t2_5), (V.i .u8 t2_6), (V.sl t2_7)]))] H K = g59_p0 R t0 t1 t2_0 t2_1 t2_2 t2_3 t2_4 t2_5 t2_6 t2_7 H (fun H => K .normal [] H) := by kernel_rfl
theorem g59_p0_lin {R S : Type} {k : S → Option R} {t0 : Option (Nat × Nat)} {t1 : Option (Nat × Nat)} {t2_0 : Int} {t2_1 : Int} {t2_2 : Int} {t2_3 : Int} {t2_4 : Int} {t2_5 : Int} {t2_6 : Int} {t2_7 : Sl} {H : Heap} {fkN : Heap → Option R} {gkN : Heap → Option S} (hkN : ∀ H, fkN H = (gkN H).bind k) : g59_p0 R t0 t1 t2_0 t2_1 t2_2 t2_3 t2_4 t2_5 t2_6 t2_7 H fkN = (g59_p0 S t0 t1 t2_0 t2_1 t2_2 t2_3 t2_4 t2_5 t2_6 t2_7 H gkN).bind k := by
  delta g59_p0
  repeat' (first | with_reducible (first | exact hkN _ | refine sl_lin ?_ ?_ | refine g36_lin.l fun _ _ => ?_ | refine g56_lin.l fun _ => ?_ | refine g66_lin.l fun _ => ?_ | refine g68_lin.l fun _ => ?_ | refine g39_lin.l fun _ => ?_ | refine bl fun _ => ?_) | exact (rfl : (none : Option R) = (none : Option S).bind k))
noncomputable def g59_r : T59 := fun R t0 t1 t2_0 t2_1 t2_2 t2_3 t2_4 t2_5 t2_6 t2_7 H K =>
  g59_p0 R t0 t1 t2_0 t2_1 t2_2 t2_3 t2_4 t2_5 t2_6 t2_7 H (fun H =>
    K  H)
theorem g59_r_lin : Lin59 (g59_r) := by
  constructor
  intro R S k t0 t1 t2_0 t2_1 t2_2 t2_3 t2_4 t2_5 t2_6 t2_7 H f g h
  exact g59_p0_lin (fun H =>
    h _)
theorem g59_fn {R : Type} (t0 : Option (Nat × Nat)) (t1 : Option (Nat × Nat)) (t2_0 : Int) (t2_1 : Int) (t2_2 : Int) (t2_3 : Int) (t2_4 : Int) (t2_5 : Int) (t2_6 : Int) (t2_7 : Sl) (H : Heap) (K : V → Heap → Option R) : evFn2 Try.prog (E59) loopLim lv59 Try.f59 kp59 [(V.p t0), (V.p t1), (V.agg [(V.i .u8 t2_0), (V.i .u32 t2_1), (V.i .u32 t2_2), (V.i .u8 t2_3), (V.i .u8 t2_4), (V.i .u8 t2_5), (V.i .u8 t2_6), (V.sl t2_7)])] H K = g59_r R t0 t1 t2_0 t2_1 t2_2 t2_3 t2_4 t2_5 t2_6 t2_7 H (fun H => K (V.tup []) H) := by
  have h0 : ∀ (H : Heap), kFn2 Try.prog Try.f59.results.toList K .normal [] H =
      K (V.tup []) H := by intros; kernel_rfl
  have e0 := evFn2_code2 (P := Try.prog) (c := c59_0) (E := (E59)) (lr := loopLim) (lv := lv59) (kp := kp59) (fn := Try.f59) (args := [(V.p t0), (V.p t1), (V.agg [(V.i .u8 t2_0), (V.i .u32 t2_1), (V.i .u32 t2_2), (V.i .u8 t2_3), (V.i .u8 t2_4), (V.i .u8 t2_5), (V.i .u8 t2_6), (V.sl t2_7)])]) H K (by kernel_rfl) (Nat.le_of_ble_eq_true (by kernel_rfl)) (by kernel_rfl) (by kernel_rfl)
  have e1 : ev2 Try.prog (E59) loopLim lv59 Try.f59.ntmps kp59 c59_0 (argFr 0 [(V.p t0), (V.p t1), (V.agg [(V.i .u8 t2_0), (V.i .u32 t2_1), (V.i .u32 t2_2), (V.i .u8 t2_3), (V.i .u8 t2_4), (V.i .u8 t2_5), (V.i .u8 t2_6), (V.sl t2_7)])]) H (kFn2 Try.prog Try.f59.results.toList K) = ev2 Try.prog (E59) loopLim lv59 Try.f59.ntmps kp59 c59_0 [(0, (V.p t0)), (1, (V.p t1)), (2, (V.agg [(V.i .u8 t2_0), (V.i .u32 t2_1), (V.i .u32 t2_2), (V.i .u8 t2_3), (V.i .u8 t2_4), (V.i .u8 t2_5), (V.i .u8 t2_6), (V.sl t2_7)]))] H (kFn2 Try.prog Try.f59.results.toList K) := by kernel_rfl
  refine (e0.trans e1).trans ?_
  delta g59_r
  exact (g59_p0_eq t0 t1 t2_0 t2_1 t2_2 t2_3 t2_4 t2_5 t2_6 t2_7 H (kFn2 Try.prog Try.f59.results.toList K)).trans (congrArg (g59_p0 R t0 t1 t2_0 t2_1 t2_2 t2_3 t2_4 t2_5 t2_6 t2_7 H) (funext fun H => h0 H))
theorem g59_ok : FunOK Try.prog 59 (w59 (g59_r)) := by
  refine (runF2_ok (E59_good) mixed lim_ok Try.func59 (by kernel_rfl) lv59 kp59).of_le fun R args H K r hk => ?_
  unfold w59 at hk
  split at hk
  · exact (g59_fn _ _ _ _ _ _ _ _ _ _ H K).trans hk
  · cases hk
noncomputable def g59 : T59 := g59_r
theorem g59_lin : Lin59 g59 := g59_r_lin
theorem ok59 : FunOK Try.prog 59 (w59 g59) := g59_ok
def kp60 : Nat → Option (List Nat) := kpOf [(0, [0, 1, 5, 500005, 1000005]), (1, []), (2, [0, 1, 5, 10, 500005, 1000005]), (3, [0, 1, 5, 23, 500005, 1000005]), (4, []), (100000, []), (200000, [0, 1, 5, 500005, 1000005]), (300000, []), (400010, []), (400023, [])]
noncomputable def E60 : FEnv := [(66, w66 g66), (68, w68 g68)]
theorem E60_good : EnvGood Try.prog (E60) := (((EnvGood.nil _).cons ok68 (w68_lin g68_lin)).cons ok66 (w66_lin g66_lin))
theorem E60_lin : EnvLin (E60) := by
  intro g F h
  simp only [E60, List.mem_cons, List.not_mem_nil, or_false] at h
  rcases h with h | h
  · cases h; exact w66_lin g66_lin
  · cases h; exact w68_lin g68_lin
def lv60 : Nat → Bool := lvOf [5]
noncomputable def b60 : Code := Try.f60.body.getD .skip
noncomputable def c60_0 : Code := (.seq (codeAt [0] b60) (.block 0 (.seq (codeAt [1, 0, 0] b60) (.cond (.tmp 10) .skip (.seq (codeAt [1, 0, 1, 1, 0] b60) (.cond (.tmp 23) (codeAt [1, 0, 1, 1, 1, 0] b60) (codeAt [1, 0, 1, 1, 1, 1] b60)))))))
noncomputable def g60_p0 (R : Type) (t0 : Option (Nat × Nat)) (t1 : Option (Nat × Nat)) (t2_0 : Int) (t2_1 : Int) (t2_2 : Int) (t2_3 : Int) (t2_4 : Int) (t2_5 : Int) (t2_6 : Int) (t2_7 : Sl) (H : Heap) (kN : Heap → Option R) : Option R :=
  (t1).bind fun q1 =>
  ((H).ldI .u8 q1.1 (q1.2 + 4)).bind fun x2 =>
  sel (x2 != (3 : Int)) (
    kN H) (
    (t1).bind fun q3 =>
    ((H).ldI .u8 q3.1 (q3.2 + 3)).bind fun x4 =>
    sel (x4 == (2 : Int)) (
      kN H) (
      sel (t2_0 == (6 : Int)) (
        (t1).bind fun q5 =>
        ((H).ldI .u8 q5.1 (q5.2 + 10)).bind fun x6 =>
        sel (t2_4 != x6) (
          g66 R t0 t1 (5 : Int) H fun h7 =>
          kN h7) (
          g68 R t1 t2_5 H fun h8 =>
          kN h8)) (
        g68 R t1 t2_5 H fun h9 =>
        kN h9)))
theorem g60_p0_eq {R : Type} (t0 : Option (Nat × Nat)) (t1 : Option (Nat × Nat)) (t2_0 : Int) (t2_1 : Int) (t2_2 : Int) (t2_3 : Int) (t2_4 : Int) (t2_5 : Int) (t2_6 : Int) (t2_7 : Sl) (H : Heap) (K : Ex → Fr → Heap → Option R) : ev2 Try.prog (E60) loopLim lv60 Try.f60.ntmps kp60 c60_0 [(0, (V.p t0)), (1, (V.p t1)), (2, (V.agg [(V.i .u8 t2_0), (V.i .u32 t2_1), (V.i .u32 t2_2), (V.i .u8 t2_3), (V.i .u8 t2_4), (V.i .u8 t2_5), (V.i .u8 t2_6), (V.sl t2_7)]))] H K = g60_p0 R t0 t1 t2_0 t2_1 t2_2 t2_3 t2_4 t2_5 t2_6 t2_7 H (fun H => K .normal [] H) := by kernel_rfl
theorem g60_p0_lin {R S : Type} {k : S → Option R} {t0 : Option (Nat × Nat)} {t1 : Option (Nat × Nat)} {t2_0 : Int} {t2_1 : Int} {t2_2 : Int} {t2_3 : Int} {t2_4 : Int} {t2_5 : Int} {t2_6 : Int} {t2_7 : Sl} {H : Heap} {fkN : Heap → Option R} {gkN : Heap → Option S} (hkN : ∀ H, fkN H = (gkN H).bind k) : g60_p0 R t0 t1 t2_0 t2_1 t2_2 t2_3 t2_4 t2_5 t2_6 t2_7 H fkN = (g60_p0 S t0 t1 t2_0 t2_1 t2_2 t2_3 t2_4 t2_5 t2_6 t2_7 H gkN).bind k := by
  delta g60_p0; exact (
    bl fun q1 =>
    bl fun x2 =>
    sl_lin (
      hkN _) (
      bl fun q3 =>
      bl fun x4 =>
      sl_lin (
        hkN _) (
        sl_lin (
          bl fun q5 =>
          bl fun x6 =>
          sl_lin (
            g66_lin.l fun h7 =>
            hkN _) (
            g68_lin.l fun h8 =>
            hkN _)) (
          g68_lin.l fun h9 =>
          hkN _))))
noncomputable def g60_r : T60 := fun R t0 t1 t2_0 t2_1 t2_2 t2_3 t2_4 t2_5 t2_6 t2_7 H K =>
  g60_p0 R t0 t1 t2_0 t2_1 t2_2 t2_3 t2_4 t2_5 t2_6 t2_7 H (fun H =>
    K  H)
theorem g60_r_lin : Lin60 (g60_r) := by
  constructor
  intro R S k t0 t1 t2_0 t2_1 t2_2 t2_3 t2_4 t2_5 t2_6 t2_7 H f g h
  exact g60_p0_lin (fun H =>
    h _)
theorem g60_fn {R : Type} (t0 : Option (Nat × Nat)) (t1 : Option (Nat × Nat)) (t2_0 : Int) (t2_1 : Int) (t2_2 : Int) (t2_3 : Int) (t2_4 : Int) (t2_5 : Int) (t2_6 : Int) (t2_7 : Sl) (H : Heap) (K : V → Heap → Option R) : evFn2 Try.prog (E60) loopLim lv60 Try.f60 kp60 [(V.p t0), (V.p t1), (V.agg [(V.i .u8 t2_0), (V.i .u32 t2_1), (V.i .u32 t2_2), (V.i .u8 t2_3), (V.i .u8 t2_4), (V.i .u8 t2_5), (V.i .u8 t2_6), (V.sl t2_7)])] H K = g60_r R t0 t1 t2_0 t2_1 t2_2 t2_3 t2_4 t2_5 t2_6 t2_7 H (fun H => K (V.tup []) H) := by
  have h0 : ∀ (H : Heap), kFn2 Try.prog Try.f60.results.toList K .normal [] H =
      K (V.tup []) H := by intros; kernel_rfl
  have e0 := evFn2_code2 (P := Try.prog) (c := c60_0) (E := (E60)) (lr := loopLim) (lv := lv60) (kp := kp60) (fn := Try.f60) (args := [(V.p t0), (V.p t1), (V.agg [(V.i .u8 t2_0), (V.i .u32 t2_1), (V.i .u32 t2_2), (V.i .u8 t2_3), (V.i .u8 t2_4), (V.i .u8 t2_5), (V.i .u8 t2_6), (V.sl t2_7)])]) H K (by kernel_rfl) (Nat.le_of_ble_eq_true (by kernel_rfl)) (by kernel_rfl) (by kernel_rfl)
  have e1 : ev2 Try.prog (E60) loopLim lv60 Try.f60.ntmps kp60 c60_0 (argFr 0 [(V.p t0), (V.p t1), (V.agg [(V.i .u8 t2_0), (V.i .u32 t2_1), (V.i .u32 t2_2), (V.i .u8 t2_3), (V.i .u8 t2_4), (V.i .u8 t2_5), (V.i .u8 t2_6), (V.sl t2_7)])]) H (kFn2 Try.prog Try.f60.results.toList K) = ev2 Try.prog (E60) loopLim lv60 Try.f60.ntmps kp60 c60_0 [(0, (V.p t0)), (1, (V.p t1)), (2, (V.agg [(V.i .u8 t2_0), (V.i .u32 t2_1), (V.i .u32 t2_2), (V.i .u8 t2_3), (V.i .u8 t2_4), (V.i .u8 t2_5), (V.i .u8 t2_6), (V.sl t2_7)]))] H (kFn2 Try.prog Try.f60.results.toList K) := by kernel_rfl
  refine (e0.trans e1).trans ?_
  delta g60_r
  exact (g60_p0_eq t0 t1 t2_0 t2_1 t2_2 t2_3 t2_4 t2_5 t2_6 t2_7 H (kFn2 Try.prog Try.f60.results.toList K)).trans (congrArg (g60_p0 R t0 t1 t2_0 t2_1 t2_2 t2_3 t2_4 t2_5 t2_6 t2_7 H) (funext fun H => h0 H))
theorem g60_ok : FunOK Try.prog 60 (w60 (g60_r)) := by
  refine (runF2_ok (E60_good) mixed lim_ok Try.func60 (by kernel_rfl) lv60 kp60).of_le fun R args H K r hk => ?_
  unfold w60 at hk
  split at hk
  · exact (g60_fn _ _ _ _ _ _ _ _ _ _ H K).trans hk
  · cases hk
noncomputable def g60 : T60 := g60_r
theorem g60_lin : Lin60 g60 := g60_r_lin
theorem ok60 : FunOK Try.prog 60 (w60 g60) := g60_ok
end Go.Proofs.Ytnlfkllnmobppaa

