/- Printed: functions as the machine runs them. -/
import Derived.Test.YtnlfkllnmobppaaGT
namespace Go.Proofs.Ytnlfkllnmobppaa
open Go AM Go.RowKit
set_option linter.unusedVariables false
def kp10 : Nat → Option (List Nat) := kpOf [(0, [1]), (1, [1, 12]), (2, [2]), (3, [1, 3]), (4, [1, 3]), (5, [1, 3]), (6, [1, 3, 17]), (7, [2]), (8, [1, 3, 17, 18]), (9, [1, 3]), (10, [1, 3, 28]), (11, [1, 3]), (12, [1, 3, 17, 30]), (13, [1, 3]), (14, [1, 3]), (15, [1, 3, 17, 34]), (16, [1, 3, 17, 34]), (17, [1, 3, 17, 34]), (18, [1, 3, 17, 34]), (19, [1, 3, 17, 34]), (20, [1, 3, 34]), (21, [1, 3]), (22, [1, 3]), (23, [1, 3, 45]), (24, [1, 3]), (25, [1, 3, 54]), (26, [1, 3]), (27, [1, 3, 68]), (28, [1, 3]), (29, [1, 4]), (30, [1, 4, 5]), (31, [1, 4, 5, 6]), (32, [1, 4, 5, 6, 7]), (33, [4, 5, 6, 7, 8]), (34, [168]), (35, [2]), (36, [2]), (100000, [1, 3]), (200000, [1, 3, 17]), (300000, [2]), (400012, [1]), (400018, [1, 3]), (400028, [1, 3]), (400030, [1, 3]), (400034, [1, 3, 34]), (400045, [1, 3]), (400054, [1, 3]), (400068, [1, 3]), (400168, [])]
def E10 (a15 : T15) : FEnv := [(15, w15 a15)]
theorem E10_good {a15 : T15} (oa15 : FunOK Try.prog 15 (w15 a15)) (la15 : Lin15 a15) : EnvGood Try.prog (E10 a15) := ((EnvGood.nil _).cons oa15 (w15_lin la15))
theorem E10_lin {a15 : T15} (la15 : Lin15 a15) : EnvLin (E10 a15) := by
  intro g F h
  simp only [E10, List.mem_cons, List.not_mem_nil, or_false] at h
  rcases h with h
  · cases h; exact w15_lin la15
noncomputable def b10 : Code := Try.f10.body.getD .skip
noncomputable def c10_0 : Code := (.seq (codeAt [1, 1, 1, 1, 1, 0, 1, 0, 1, 0, 0] b10) (.seq (codeAt [1, 1, 1, 1, 1, 0, 1, 0, 1, 0, 1, 0] b10) (.cond (.tmp 28) (codeAt [1, 1, 1, 1, 1, 0, 1, 0, 1, 0, 1, 1, 0] b10) .skip)))
noncomputable def c10_1 : Code := (.seq (codeAt [1, 1, 1, 1, 1, 0, 1, 0, 1, 1, 1, 0, 0] b10) (codeAt [1, 1, 1, 1, 1, 0, 1, 0, 1, 1, 1, 0, 1] b10))
noncomputable def c10_2 : Code := (.seq (.cond (.tmp 54) (codeAt [1, 1, 1, 1, 1, 0, 1, 0, 1, 1, 1, 1, 1, 0, 1, 1, 1, 0, 1, 0] b10) .skip) (.seq (codeAt [1, 1, 1, 1, 1, 0, 1, 0, 1, 1, 1, 1, 1, 0, 1, 1, 1, 1, 0] b10) (.cond (.tmp 68) (codeAt [1, 1, 1, 1, 1, 0, 1, 0, 1, 1, 1, 1, 1, 0, 1, 1, 1, 1, 1, 0] b10) .skip)))
noncomputable def c10_3 : Code := (.seq (codeAt [1, 1, 1, 1, 1, 0, 1, 0, 1, 1, 1, 1, 1, 0, 0] b10) (.seq (codeAt [1, 1, 1, 1, 1, 0, 1, 0, 1, 1, 1, 1, 1, 0, 1, 0] b10) (.seq (codeAt [1, 1, 1, 1, 1, 0, 1, 0, 1, 1, 1, 1, 1, 0, 1, 1, 0, 0] b10) (.seq (.cond (.tmp 45) (codeAt [1, 1, 1, 1, 1, 0, 1, 0, 1, 1, 1, 1, 1, 0, 1, 1, 0, 1, 0] b10) .skip) (.seq (codeAt [1, 1, 1, 1, 1, 0, 1, 0, 1, 1, 1, 1, 1, 0, 1, 1, 1, 0, 0] b10) c10_2)))))
noncomputable def c10_4 : Code := (.seq (codeAt [1, 1, 1, 1, 1, 0, 1, 0, 1, 1, 1, 1, 1, 1, 0] b10) .ret)
noncomputable def c10_5 : Code := (.cond (.tmp 34) c10_3 c10_4)
noncomputable def c10_6 : Code := (.seq (codeAt [1, 1, 1, 1, 1, 0, 1, 0, 1, 1, 1, 1, 0, 0] b10) (.seq (.cond (.tmp 34) .skip (.seq (codeAt [1, 1, 1, 1, 1, 0, 1, 0, 1, 1, 1, 1, 0, 1, 1, 0] b10) (.cond (.tmp 34) .skip (.seq (codeAt [1, 1, 1, 1, 1, 0, 1, 0, 1, 1, 1, 1, 0, 1, 1, 1, 1, 0] b10) (.cond (.tmp 34) .skip (.seq (codeAt [1, 1, 1, 1, 1, 0, 1, 0, 1, 1, 1, 1, 0, 1, 1, 1, 1, 1, 1, 0] b10) (.cond (.tmp 34) .skip (.seq (codeAt [1, 1, 1, 1, 1, 0, 1, 0, 1, 1, 1, 1, 0, 1, 1, 1, 1, 1, 1, 1, 1, 0] b10) (.cond (.tmp 34) .skip (codeAt [1, 1, 1, 1, 1, 0, 1, 0, 1, 1, 1, 1, 0, 1, 1, 1, 1, 1, 1, 1, 1, 1, 1] b10)))))))))) c10_5))
noncomputable def c10_7 : Code := (.cond (.tmp 30) c10_1 c10_6)
noncomputable def c10_8 : Code := (.seq (codeAt [1, 1, 1, 1, 1, 0, 1, 0, 1, 1, 0] b10) c10_7)
noncomputable def c10_9 : Code := (.cond (.tmp 18) c10_0 c10_8)
noncomputable def c10_10 : Code := (.seq (codeAt [1, 1, 1, 1, 1, 0, 1, 0, 0] b10) c10_9)
noncomputable def c10_11 : Code := (.block 0 c10_10)
noncomputable def c10_12 : Code := (.seq (codeAt [1, 1, 1, 1, 1, 1, 1, 1, 1, 1, 1, 0, 0] b10) (.seq (.cond (.tmp 168) (.seq (codeAt [1, 1, 1, 1, 1, 1, 1, 1, 1, 1, 1, 0, 1, 0, 0] b10) .ret) .skip) (.seq (codeAt [1, 1, 1, 1, 1, 1, 1, 1, 1, 1, 1, 1, 0] b10) .ret)))
noncomputable def c10_13 : Code := (.seq (codeAt [1, 1, 1, 1, 1, 1, 1, 1, 1, 0] b10) (.seq (codeAt [1, 1, 1, 1, 1, 1, 1, 1, 1, 1, 0] b10) c10_12))
noncomputable def c10_14 : Code := (.seq (codeAt [1, 1, 1, 1, 1, 1, 1, 0] b10) (.seq (codeAt [1, 1, 1, 1, 1, 1, 1, 1, 0] b10) c10_13))
noncomputable def c10_15 : Code := (.seq (codeAt [1, 1, 1, 1, 1, 1, 0] b10) c10_14)
noncomputable def c10_16 : Code := (.seq c10_11 c10_15)
noncomputable def c10_17 : Code := (.seq (codeAt [0] b10) (.seq (codeAt [1, 0, 0] b10) (.seq (.cond (.tmp 12) (.seq (codeAt [1, 0, 1, 0, 0] b10) .ret) .skip) (.seq (codeAt [1, 1, 0] b10) (.seq (codeAt [1, 1, 1, 0] b10) (.seq (codeAt [1, 1, 1, 1, 0] b10) (.seq (codeAt [1, 1, 1, 1, 1, 0, 0] b10) c10_16)))))))
noncomputable def g10_p0 (a15 : T15) (R : Type) (t0_0 : Int) (t0_1 : Int) (t0_2 : Int) (t0_3 : Int) (t0_4 : Int) (t0_5 : Int) (t0_6 : Int) (t0_7 : Sl) (H : Heap) (kN : Nat → Nat → Nat → Nat → Int → Heap → Option R) (kR : Int → Heap → Option R) : Option R :=
  alo H (.cells [(V.i .u8 t0_0), (V.i .u32 t0_1), (V.i .u32 t0_2), (V.i .u8 t0_3), (V.i .u8 t0_4), (V.i .u8 t0_5), (V.i .u8 t0_6), (V.sl t0_7)] 26 false) fun i156074 h156075 =>
  ((h156075).ldSl i156074 (0 + 7)).bind fun x156076 =>
  sel (decide (((x156076.len : Nat) : Int) > (200 : Int))) (
    kR (3 : Int) h156075) (
    ((h156075).ldI .u8 i156074 (0 + 0)).bind fun x156077 =>
    ((h156075).ldI .u32 i156074 (0 + 1)).bind fun x156078 =>
    ((h156075).ldI .u32 i156074 (0 + 2)).bind fun x156079 =>
    ((h156075).ldI .u8 i156074 (0 + 3)).bind fun x156080 =>
    ((h156075).ldI .u8 i156074 (0 + 4)).bind fun x156081 =>
    ((h156075).ldI .u8 i156074 (0 + 5)).bind fun x156082 =>
    ((h156075).ldI .u8 i156074 (0 + 6)).bind fun x156083 =>
    ((h156075).ldSl i156074 (0 + 7)).bind fun x156084 =>
    alo h156075 (.cells [(V.i .u8 (0 : Int)), (V.i .u32 (0 : Int)), (V.i .u32 (0 : Int)), (V.i .u8 (0 : Int)), (V.i .u8 (0 : Int)), (V.i .u8 (0 : Int)), (V.i .u8 (0 : Int)), (V.sl (Sl.mk none 0 (.ex 0)))] 26 false) fun i156085 h156086 =>
    ((h156086).sts i156085 0 [(V.i .u8 x156077), (V.i .u32 x156078), (V.i .u32 x156079), (V.i .u8 x156080), (V.i .u8 x156081), (V.i .u8 x156082), (V.i .u8 x156083), (V.sl x156084)]).bind fun h156087 =>
    ((h156087).st i156085 (0 + 0) (V.i .u8 (0 : Int))).bind fun h156089 =>
    ((h156089).st i156085 (0 + 7) (V.sl (Sl.mk none 0 (.ex 0)))).bind fun h156091 =>
    ((h156091).ldI .u8 i156074 (0 + 0)).bind fun x156092 =>
    kN i156074 0 i156085 0 x156092 h156091)
theorem g10_p0_eq (a15 : T15) {R : Type} (c2 : Code) (t0_0 : Int) (t0_1 : Int) (t0_2 : Int) (t0_3 : Int) (t0_4 : Int) (t0_5 : Int) (t0_6 : Int) (t0_7 : Sl) (H : Heap) (K : Ex → Fr → Heap → Option R) : ev Try.prog (E10 a15) loopLim Try.f10.ntmps kp10 (.seq (codeAt [0] b10) (.seq (codeAt [1, 0, 0] b10) (.seq (.cond (.tmp 12) (.seq (codeAt [1, 0, 1, 0, 0] b10) .ret) .skip) (.seq (codeAt [1, 1, 0] b10) (.seq (codeAt [1, 1, 1, 0] b10) (.seq (codeAt [1, 1, 1, 1, 0] b10) (.seq (codeAt [1, 1, 1, 1, 1, 0, 0] b10) c2))))))) [(0, (V.agg [(V.i .u8 t0_0), (V.i .u32 t0_1), (V.i .u32 t0_2), (V.i .u8 t0_3), (V.i .u8 t0_4), (V.i .u8 t0_5), (V.i .u8 t0_6), (V.sl t0_7)]))] H K = g10_p0 a15 R t0_0 t0_1 t0_2 t0_3 t0_4 t0_5 t0_6 t0_7 H (fun t1_0 t1_1 t3_0 t3_1 t17 H => ev Try.prog (E10 a15) loopLim Try.f10.ntmps kp10 c2 [(1, (V.p (some (t1_0, t1_1)))), (3, (V.p (some (t3_0, t3_1)))), (17, (V.i .u8 t17))] H K) (fun t2 H => K .ret [(2, (V.i .i64 t2))] H) := by kernel_rfl
theorem g10_p0_lin {a15 : T15} (la15 : Lin15 a15) {R S : Type} {k : S → Option R} {t0_0 : Int} {t0_1 : Int} {t0_2 : Int} {t0_3 : Int} {t0_4 : Int} {t0_5 : Int} {t0_6 : Int} {t0_7 : Sl} {H : Heap} {fkN : Nat → Nat → Nat → Nat → Int → Heap → Option R} {gkN : Nat → Nat → Nat → Nat → Int → Heap → Option S} {fkR : Int → Heap → Option R} {gkR : Int → Heap → Option S} (hkN : ∀ t1_0 t1_1 t3_0 t3_1 t17 H, fkN t1_0 t1_1 t3_0 t3_1 t17 H = (gkN t1_0 t1_1 t3_0 t3_1 t17 H).bind k) (hkR : ∀ t2 H, fkR t2 H = (gkR t2 H).bind k) : g10_p0 a15 R t0_0 t0_1 t0_2 t0_3 t0_4 t0_5 t0_6 t0_7 H fkN fkR = (g10_p0 a15 S t0_0 t0_1 t0_2 t0_3 t0_4 t0_5 t0_6 t0_7 H gkN gkR).bind k := by
  delta g10_p0; exact (
    alo_lin fun i156074 h156075 =>
    bl fun x156076 =>
    sl_lin (
      hkR _ _) (
      bl fun x156077 =>
      bl fun x156078 =>
      bl fun x156079 =>
      bl fun x156080 =>
      bl fun x156081 =>
      bl fun x156082 =>
      bl fun x156083 =>
      bl fun x156084 =>
      alo_lin fun i156085 h156086 =>
      bl fun h156087 =>
      bl fun h156089 =>
      bl fun h156091 =>
      bl fun x156092 =>
      hkN _ _ _ _ _ _))
noncomputable def g10_p1 (a15 : T15) (R : Type) (t1_0 : Nat) (t1_1 : Nat) (t3_0 : Nat) (t3_1 : Nat) (t17 : Int) (H : Heap) (kN : Nat → Nat → Nat → Nat → Int → Bool → Heap → Option R) : Option R :=
  kN t1_0 t1_1 t3_0 t3_1 t17 (t17 == (1 : Int)) H
theorem g10_p1_eq (a15 : T15) {R : Type} (c2 : Code) (t1_0 : Nat) (t1_1 : Nat) (t3_0 : Nat) (t3_1 : Nat) (t17 : Int) (H : Heap) (K : Ex → Fr → Heap → Option R) : ev Try.prog (E10 a15) loopLim Try.f10.ntmps kp10 (.seq (codeAt [1, 1, 1, 1, 1, 0, 1, 0, 0] b10) c2) [(1, (V.p (some (t1_0, t1_1)))), (3, (V.p (some (t3_0, t3_1)))), (17, (V.i .u8 t17))] H K = g10_p1 a15 R t1_0 t1_1 t3_0 t3_1 t17 H (fun t1_0 t1_1 t3_0 t3_1 t17 t18 H => ev Try.prog (E10 a15) loopLim Try.f10.ntmps kp10 c2 [(1, (V.p (some (t1_0, t1_1)))), (3, (V.p (some (t3_0, t3_1)))), (17, (V.i .u8 t17)), (18, (V.b t18))] H K) := by kernel_rfl
theorem g10_p1_lin {a15 : T15} (la15 : Lin15 a15) {R S : Type} {k : S → Option R} {t1_0 : Nat} {t1_1 : Nat} {t3_0 : Nat} {t3_1 : Nat} {t17 : Int} {H : Heap} {fkN : Nat → Nat → Nat → Nat → Int → Bool → Heap → Option R} {gkN : Nat → Nat → Nat → Nat → Int → Bool → Heap → Option S} (hkN : ∀ t1_0 t1_1 t3_0 t3_1 t17 t18 H, fkN t1_0 t1_1 t3_0 t3_1 t17 t18 H = (gkN t1_0 t1_1 t3_0 t3_1 t17 t18 H).bind k) : g10_p1 a15 R t1_0 t1_1 t3_0 t3_1 t17 H fkN = (g10_p1 a15 S t1_0 t1_1 t3_0 t3_1 t17 H gkN).bind k := by
  delta g10_p1; exact (
    hkN _ _ _ _ _ _ _)
noncomputable def g10_p2 (a15 : T15) (R : Type) (t1_0 : Nat) (t1_1 : Nat) (t3_0 : Nat) (t3_1 : Nat) (t17 : Int) (t18 : Bool) (H : Heap) (kN : Nat → Nat → Nat → Nat → Heap → Option R) : Option R :=
  ((H).st t3_0 (t3_1 + 1) (V.i .u32 (0 : Int))).bind fun h314361 =>
  ((h314361).ldI .u8 t3_0 (t3_1 + 3)).bind fun x314362 =>
  sel (x314362 == (2 : Int)) (
    ((h314361).st t3_0 (t3_1 + 3) (V.i .u8 (0 : Int))).bind fun h314364 =>
    kN t1_0 t1_1 t3_0 t3_1 h314364) (
    ((h314361).ldI .u8 t3_0 (t3_1 + 3)).bind fun x314365 =>
    sel (x314365 == (3 : Int)) (
      ((h314361).st t3_0 (t3_1 + 3) (V.i .u8 (0 : Int))).bind fun h314367 =>
      kN t1_0 t1_1 t3_0 t3_1 h314367) (
      kN t1_0 t1_1 t3_0 t3_1 h314361))
theorem g10_p2_eq (a15 : T15) (la15 : Lin15 a15) {R : Type} (t1_0 : Nat) (t1_1 : Nat) (t3_0 : Nat) (t3_1 : Nat) (t17 : Int) (t18 : Bool) (H : Heap) (K : Ex → Fr → Heap → Option R) : ev Try.prog (E10 a15) loopLim Try.f10.ntmps kp10 c10_0 [(1, (V.p (some (t1_0, t1_1)))), (3, (V.p (some (t3_0, t3_1)))), (17, (V.i .u8 t17)), (18, (V.b t18))] H K = g10_p2 a15 R t1_0 t1_1 t3_0 t3_1 t17 t18 H (fun t1_0 t1_1 t3_0 t3_1 H => K .normal [(1, (V.p (some (t1_0, t1_1)))), (3, (V.p (some (t3_0, t3_1))))] H) := by kernel_rfl
theorem g10_p2_lin {a15 : T15} (la15 : Lin15 a15) {R S : Type} {k : S → Option R} {t1_0 : Nat} {t1_1 : Nat} {t3_0 : Nat} {t3_1 : Nat} {t17 : Int} {t18 : Bool} {H : Heap} {fkN : Nat → Nat → Nat → Nat → Heap → Option R} {gkN : Nat → Nat → Nat → Nat → Heap → Option S} (hkN : ∀ t1_0 t1_1 t3_0 t3_1 H, fkN t1_0 t1_1 t3_0 t3_1 H = (gkN t1_0 t1_1 t3_0 t3_1 H).bind k) : g10_p2 a15 R t1_0 t1_1 t3_0 t3_1 t17 t18 H fkN = (g10_p2 a15 S t1_0 t1_1 t3_0 t3_1 t17 t18 H gkN).bind k := by
  delta g10_p2; exact (
    bl fun h314361 =>
    bl fun x314362 =>
    sl_lin (
      bl fun h314364 =>
      hkN _ _ _ _ _) (
      bl fun x314365 =>
      sl_lin (
        bl fun h314367 =>
        hkN _ _ _ _ _) (
        hkN _ _ _ _ _)))
noncomputable def g10_p3 (a15 : T15) (R : Type) (t1_0 : Nat) (t1_1 : Nat) (t3_0 : Nat) (t3_1 : Nat) (t17 : Int) (t18 : Bool) (H : Heap) (kN : Nat → Nat → Nat → Nat → Int → Bool → Heap → Option R) : Option R :=
  kN t1_0 t1_1 t3_0 t3_1 t17 (t17 == (3 : Int)) H
theorem g10_p3_eq (a15 : T15) {R : Type} (c2 : Code) (t1_0 : Nat) (t1_1 : Nat) (t3_0 : Nat) (t3_1 : Nat) (t17 : Int) (t18 : Bool) (H : Heap) (K : Ex → Fr → Heap → Option R) : ev Try.prog (E10 a15) loopLim Try.f10.ntmps kp10 (.seq (codeAt [1, 1, 1, 1, 1, 0, 1, 0, 1, 1, 0] b10) c2) [(1, (V.p (some (t1_0, t1_1)))), (3, (V.p (some (t3_0, t3_1)))), (17, (V.i .u8 t17)), (18, (V.b t18))] H K = g10_p3 a15 R t1_0 t1_1 t3_0 t3_1 t17 t18 H (fun t1_0 t1_1 t3_0 t3_1 t17 t30 H => ev Try.prog (E10 a15) loopLim Try.f10.ntmps kp10 c2 [(1, (V.p (some (t1_0, t1_1)))), (3, (V.p (some (t3_0, t3_1)))), (17, (V.i .u8 t17)), (30, (V.b t30))] H K) := by kernel_rfl
theorem g10_p3_lin {a15 : T15} (la15 : Lin15 a15) {R S : Type} {k : S → Option R} {t1_0 : Nat} {t1_1 : Nat} {t3_0 : Nat} {t3_1 : Nat} {t17 : Int} {t18 : Bool} {H : Heap} {fkN : Nat → Nat → Nat → Nat → Int → Bool → Heap → Option R} {gkN : Nat → Nat → Nat → Nat → Int → Bool → Heap → Option S} (hkN : ∀ t1_0 t1_1 t3_0 t3_1 t17 t30 H, fkN t1_0 t1_1 t3_0 t3_1 t17 t30 H = (gkN t1_0 t1_1 t3_0 t3_1 t17 t30 H).bind k) : g10_p3 a15 R t1_0 t1_1 t3_0 t3_1 t17 t18 H fkN = (g10_p3 a15 S t1_0 t1_1 t3_0 t3_1 t17 t18 H gkN).bind k := by
  delta g10_p3; exact (
    hkN _ _ _ _ _ _ _)
noncomputable def g10_p4 (a15 : T15) (R : Type) (t1_0 : Nat) (t1_1 : Nat) (t3_0 : Nat) (t3_1 : Nat) (t17 : Int) (t30 : Bool) (H : Heap) (kN : Nat → Nat → Nat → Nat → Heap → Option R) : Option R :=
  ((H).st t3_0 (t3_1 + 2) (V.i .u32 (0 : Int))).bind fun h315253 =>
  ((h315253).st t3_0 (t3_1 + 6) (V.i .u8 (0 : Int))).bind fun h315255 =>
  kN t1_0 t1_1 t3_0 t3_1 h315255
theorem g10_p4_eq (a15 : T15) (la15 : Lin15 a15) {R : Type} (t1_0 : Nat) (t1_1 : Nat) (t3_0 : Nat) (t3_1 : Nat) (t17 : Int) (t30 : Bool) (H : Heap) (K : Ex → Fr → Heap → Option R) : ev Try.prog (E10 a15) loopLim Try.f10.ntmps kp10 c10_1 [(1, (V.p (some (t1_0, t1_1)))), (3, (V.p (some (t3_0, t3_1)))), (17, (V.i .u8 t17)), (30, (V.b t30))] H K = g10_p4 a15 R t1_0 t1_1 t3_0 t3_1 t17 t30 H (fun t1_0 t1_1 t3_0 t3_1 H => K .normal [(1, (V.p (some (t1_0, t1_1)))), (3, (V.p (some (t3_0, t3_1))))] H) := by kernel_rfl
theorem g10_p4_lin {a15 : T15} (la15 : Lin15 a15) {R S : Type} {k : S → Option R} {t1_0 : Nat} {t1_1 : Nat} {t3_0 : Nat} {t3_1 : Nat} {t17 : Int} {t30 : Bool} {H : Heap} {fkN : Nat → Nat → Nat → Nat → Heap → Option R} {gkN : Nat → Nat → Nat → Nat → Heap → Option S} (hkN : ∀ t1_0 t1_1 t3_0 t3_1 H, fkN t1_0 t1_1 t3_0 t3_1 H = (gkN t1_0 t1_1 t3_0 t3_1 H).bind k) : g10_p4 a15 R t1_0 t1_1 t3_0 t3_1 t17 t30 H fkN = (g10_p4 a15 S t1_0 t1_1 t3_0 t3_1 t17 t30 H gkN).bind k := by
  delta g10_p4; exact (
    bl fun h315253 =>
    bl fun h315255 =>
    hkN _ _ _ _ _)
noncomputable def g10_p5 (a15 : T15) (R : Type) (t1_0 : Nat) (t1_1 : Nat) (t3_0 : Nat) (t3_1 : Nat) (t17 : Int) (t30 : Bool) (H : Heap) (kN : Nat → Nat → Nat → Nat → Bool → Heap → Option R) : Option R :=
  sel (t17 == (2 : Int)) (
    kN t1_0 t1_1 t3_0 t3_1 (t17 == (2 : Int)) H) (
    sel (t17 == (8 : Int)) (
      kN t1_0 t1_1 t3_0 t3_1 (t17 == (8 : Int)) H) (
      sel (t17 == (4 : Int)) (
        kN t1_0 t1_1 t3_0 t3_1 (t17 == (4 : Int)) H) (
        sel (t17 == (5 : Int)) (
          kN t1_0 t1_1 t3_0 t3_1 (t17 == (5 : Int)) H) (
          sel (t17 == (6 : Int)) (
            kN t1_0 t1_1 t3_0 t3_1 (t17 == (6 : Int)) H) (
            kN t1_0 t1_1 t3_0 t3_1 (t17 == (7 : Int)) H)))))
theorem g10_p5_eq (a15 : T15) {R : Type} (c2 : Code) (t1_0 : Nat) (t1_1 : Nat) (t3_0 : Nat) (t3_1 : Nat) (t17 : Int) (t30 : Bool) (H : Heap) (K : Ex → Fr → Heap → Option R) : ev Try.prog (E10 a15) loopLim Try.f10.ntmps kp10 (.seq (codeAt [1, 1, 1, 1, 1, 0, 1, 0, 1, 1, 1, 1, 0, 0] b10) (.seq (.cond (.tmp 34) .skip (.seq (codeAt [1, 1, 1, 1, 1, 0, 1, 0, 1, 1, 1, 1, 0, 1, 1, 0] b10) (.cond (.tmp 34) .skip (.seq (codeAt [1, 1, 1, 1, 1, 0, 1, 0, 1, 1, 1, 1, 0, 1, 1, 1, 1, 0] b10) (.cond (.tmp 34) .skip (.seq (codeAt [1, 1, 1, 1, 1, 0, 1, 0, 1, 1, 1, 1, 0, 1, 1, 1, 1, 1, 1, 0] b10) (.cond (.tmp 34) .skip (.seq (codeAt [1, 1, 1, 1, 1, 0, 1, 0, 1, 1, 1, 1, 0, 1, 1, 1, 1, 1, 1, 1, 1, 0] b10) (.cond (.tmp 34) .skip (codeAt [1, 1, 1, 1, 1, 0, 1, 0, 1, 1, 1, 1, 0, 1, 1, 1, 1, 1, 1, 1, 1, 1, 1] b10)))))))))) c2)) [(1, (V.p (some (t1_0, t1_1)))), (3, (V.p (some (t3_0, t3_1)))), (17, (V.i .u8 t17)), (30, (V.b t30))] H K = g10_p5 a15 R t1_0 t1_1 t3_0 t3_1 t17 t30 H (fun t1_0 t1_1 t3_0 t3_1 t34 H => ev Try.prog (E10 a15) loopLim Try.f10.ntmps kp10 c2 [(1, (V.p (some (t1_0, t1_1)))), (3, (V.p (some (t3_0, t3_1)))), (34, (V.b t34))] H K) := by kernel_rfl
theorem g10_p5_lin {a15 : T15} (la15 : Lin15 a15) {R S : Type} {k : S → Option R} {t1_0 : Nat} {t1_1 : Nat} {t3_0 : Nat} {t3_1 : Nat} {t17 : Int} {t30 : Bool} {H : Heap} {fkN : Nat → Nat → Nat → Nat → Bool → Heap → Option R} {gkN : Nat → Nat → Nat → Nat → Bool → Heap → Option S} (hkN : ∀ t1_0 t1_1 t3_0 t3_1 t34 H, fkN t1_0 t1_1 t3_0 t3_1 t34 H = (gkN t1_0 t1_1 t3_0 t3_1 t34 H).bind k) : g10_p5 a15 R t1_0 t1_1 t3_0 t3_1 t17 t30 H fkN = (g10_p5 a15 S t1_0 t1_1 t3_0 t3_1 t17 t30 H gkN).bind k := by
  delta g10_p5; exact (
    sl_lin (
      hkN _ _ _ _ _ _) (
      sl_lin (
        hkN _ _ _ _ _ _) (
        sl_lin (
          hkN _ _ _ _ _ _) (
          sl_lin (
            hkN _ _ _ _ _ _) (
            sl_lin (
              hkN _ _ _ _ _ _) (
              hkN _ _ _ _ _ _))))))
noncomputable def g10_p6 (a15 : T15) (R : Type) (t1_0 : Nat) (t1_1 : Nat) (t3_0 : Nat) (t3_1 : Nat) (t34 : Bool) (H : Heap) (kN : Nat → Nat → Nat → Nat → Bool → Heap → Option R) : Option R :=
  ((H).st t3_0 (t3_1 + 1) (V.i .u32 (0 : Int))).bind fun h315859 =>
  ((h315859).st t3_0 (t3_1 + 2) (V.i .u32 (0 : Int))).bind fun h315861 =>
  ((h315861).ldI .u8 t1_0 (t1_1 + 0)).bind fun x315862 =>
  sel (x315862 == (7 : Int)) (
    ((h315861).st t3_0 (t3_1 + 6) (V.i .u8 (0 : Int))).bind fun h315864 =>
    ((h315864).ldI .u8 t1_0 (t1_1 + 0)).bind fun x315865 =>
    sel (x315865 == (4 : Int)) (
      kN t1_0 t1_1 t3_0 t3_1 true h315864) (
      ((h315864).ldI .u8 t1_0 (t1_1 + 0)).bind fun x315866 =>
      kN t1_0 t1_1 t3_0 t3_1 (x315866 == (6 : Int)) h315864)) (
    ((h315861).ldI .u8 t1_0 (t1_1 + 0)).bind fun x315867 =>
    sel (x315867 == (4 : Int)) (
      kN t1_0 t1_1 t3_0 t3_1 true h315861) (
      ((h315861).ldI .u8 t1_0 (t1_1 + 0)).bind fun x315868 =>
      kN t1_0 t1_1 t3_0 t3_1 (x315868 == (6 : Int)) h315861))
theorem g10_p6_eq (a15 : T15) {R : Type} (c2 : Code) (t1_0 : Nat) (t1_1 : Nat) (t3_0 : Nat) (t3_1 : Nat) (t34 : Bool) (H : Heap) (K : Ex → Fr → Heap → Option R) : ev Try.prog (E10 a15) loopLim Try.f10.ntmps kp10 (.seq (codeAt [1, 1, 1, 1, 1, 0, 1, 0, 1, 1, 1, 1, 1, 0, 0] b10) (.seq (codeAt [1, 1, 1, 1, 1, 0, 1, 0, 1, 1, 1, 1, 1, 0, 1, 0] b10) (.seq (codeAt [1, 1, 1, 1, 1, 0, 1, 0, 1, 1, 1, 1, 1, 0, 1, 1, 0, 0] b10) (.seq (.cond (.tmp 45) (codeAt [1, 1, 1, 1, 1, 0, 1, 0, 1, 1, 1, 1, 1, 0, 1, 1, 0, 1, 0] b10) .skip) (.seq (codeAt [1, 1, 1, 1, 1, 0, 1, 0, 1, 1, 1, 1, 1, 0, 1, 1, 1, 0, 0] b10) c2))))) [(1, (V.p (some (t1_0, t1_1)))), (3, (V.p (some (t3_0, t3_1)))), (34, (V.b t34))] H K = g10_p6 a15 R t1_0 t1_1 t3_0 t3_1 t34 H (fun t1_0 t1_1 t3_0 t3_1 t54 H => ev Try.prog (E10 a15) loopLim Try.f10.ntmps kp10 c2 [(1, (V.p (some (t1_0, t1_1)))), (3, (V.p (some (t3_0, t3_1)))), (54, (V.b t54))] H K) := by kernel_rfl
theorem g10_p6_lin {a15 : T15} (la15 : Lin15 a15) {R S : Type} {k : S → Option R} {t1_0 : Nat} {t1_1 : Nat} {t3_0 : Nat} {t3_1 : Nat} {t34 : Bool} {H : Heap} {fkN : Nat → Nat → Nat → Nat → Bool → Heap → Option R} {gkN : Nat → Nat → Nat → Nat → Bool → Heap → Option S} (hkN : ∀ t1_0 t1_1 t3_0 t3_1 t54 H, fkN t1_0 t1_1 t3_0 t3_1 t54 H = (gkN t1_0 t1_1 t3_0 t3_1 t54 H).bind k) : g10_p6 a15 R t1_0 t1_1 t3_0 t3_1 t34 H fkN = (g10_p6 a15 S t1_0 t1_1 t3_0 t3_1 t34 H gkN).bind k := by
  delta g10_p6; exact (
    bl fun h315859 =>
    bl fun h315861 =>
    bl fun x315862 =>
    sl_lin (
      bl fun h315864 =>
      bl fun x315865 =>
      sl_lin (
        hkN _ _ _ _ _ _) (
        bl fun x315866 =>
        hkN _ _ _ _ _ _)) (
      bl fun x315867 =>
      sl_lin (
        hkN _ _ _ _ _ _) (
        bl fun x315868 =>
        hkN _ _ _ _ _ _)))
noncomputable def g10_p7 (a15 : T15) (R : Type) (t1_0 : Nat) (t1_1 : Nat) (t3_0 : Nat) (t3_1 : Nat) (t54 : Bool) (H : Heap) (kN : Nat → Nat → Nat → Nat → Heap → Option R) : Option R :=
  sel t54 (
    ((H).st t3_0 (t3_1 + 4) (V.i .u8 (0 : Int))).bind fun h315870 =>
    ((h315870).ldI .u8 t1_0 (t1_1 + 0)).bind fun x315871 =>
    sel (x315871 == (4 : Int)) (
      ((h315870).st t3_0 (t3_1 + 5) (V.i .u8 (0 : Int))).bind fun h315873 =>
      kN t1_0 t1_1 t3_0 t3_1 h315873) (
      ((h315870).ldI .u8 t1_0 (t1_1 + 0)).bind fun x315874 =>
      sel (x315874 == (5 : Int)) (
        ((h315870).st t3_0 (t3_1 + 5) (V.i .u8 (0 : Int))).bind fun h315876 =>
        kN t1_0 t1_1 t3_0 t3_1 h315876) (
        ((h315870).ldI .u8 t1_0 (t1_1 + 0)).bind fun x315877 =>
        sel (x315877 == (6 : Int)) (
          ((h315870).st t3_0 (t3_1 + 5) (V.i .u8 (0 : Int))).bind fun h315879 =>
          kN t1_0 t1_1 t3_0 t3_1 h315879) (
          kN t1_0 t1_1 t3_0 t3_1 h315870)))) (
    ((H).ldI .u8 t1_0 (t1_1 + 0)).bind fun x315880 =>
    sel (x315880 == (4 : Int)) (
      ((H).st t3_0 (t3_1 + 5) (V.i .u8 (0 : Int))).bind fun h315882 =>
      kN t1_0 t1_1 t3_0 t3_1 h315882) (
      ((H).ldI .u8 t1_0 (t1_1 + 0)).bind fun x315883 =>
      sel (x315883 == (5 : Int)) (
        ((H).st t3_0 (t3_1 + 5) (V.i .u8 (0 : Int))).bind fun h315885 =>
        kN t1_0 t1_1 t3_0 t3_1 h315885) (
        ((H).ldI .u8 t1_0 (t1_1 + 0)).bind fun x315886 =>
        sel (x315886 == (6 : Int)) (
          ((H).st t3_0 (t3_1 + 5) (V.i .u8 (0 : Int))).bind fun h315888 =>
          kN t1_0 t1_1 t3_0 t3_1 h315888) (
          kN t1_0 t1_1 t3_0 t3_1 H))))
theorem g10_p7_eq (a15 : T15) (la15 : Lin15 a15) {R : Type} (t1_0 : Nat) (t1_1 : Nat) (t3_0 : Nat) (t3_1 : Nat) (t54 : Bool) (H : Heap) (K : Ex → Fr → Heap → Option R) : ev Try.prog (E10 a15) loopLim Try.f10.ntmps kp10 c10_2 [(1, (V.p (some (t1_0, t1_1)))), (3, (V.p (some (t3_0, t3_1)))), (54, (V.b t54))] H K = g10_p7 a15 R t1_0 t1_1 t3_0 t3_1 t54 H (fun t1_0 t1_1 t3_0 t3_1 H => K .normal [(1, (V.p (some (t1_0, t1_1)))), (3, (V.p (some (t3_0, t3_1))))] H) := by kernel_rfl
theorem g10_p7_lin {a15 : T15} (la15 : Lin15 a15) {R S : Type} {k : S → Option R} {t1_0 : Nat} {t1_1 : Nat} {t3_0 : Nat} {t3_1 : Nat} {t54 : Bool} {H : Heap} {fkN : Nat → Nat → Nat → Nat → Heap → Option R} {gkN : Nat → Nat → Nat → Nat → Heap → Option S} (hkN : ∀ t1_0 t1_1 t3_0 t3_1 H, fkN t1_0 t1_1 t3_0 t3_1 H = (gkN t1_0 t1_1 t3_0 t3_1 H).bind k) : g10_p7 a15 R t1_0 t1_1 t3_0 t3_1 t54 H fkN = (g10_p7 a15 S t1_0 t1_1 t3_0 t3_1 t54 H gkN).bind k := by
  delta g10_p7; exact (
    sl_lin (
      bl fun h315870 =>
      bl fun x315871 =>
      sl_lin (
        bl fun h315873 =>
        hkN _ _ _ _ _) (
        bl fun x315874 =>
        sl_lin (
          bl fun h315876 =>
          hkN _ _ _ _ _) (
          bl fun x315877 =>
          sl_lin (
            bl fun h315879 =>
            hkN _ _ _ _ _) (
            hkN _ _ _ _ _)))) (
      bl fun x315880 =>
      sl_lin (
        bl fun h315882 =>
        hkN _ _ _ _ _) (
        bl fun x315883 =>
        sl_lin (
          bl fun h315885 =>
          hkN _ _ _ _ _) (
          bl fun x315886 =>
          sl_lin (
            bl fun h315888 =>
            hkN _ _ _ _ _) (
            hkN _ _ _ _ _)))))
noncomputable def g10_p8 (a15 : T15) (R : Type) (t1_0 : Nat) (t1_1 : Nat) (t3_0 : Nat) (t3_1 : Nat) (t34 : Bool) (H : Heap) (kN : Nat → Nat → Nat → Nat → Heap → Option R) : Option R :=
  g10_p6 a15 R t1_0 t1_1 t3_0 t3_1 t34 H (fun t1_0 t1_1 t3_0 t3_1 t54 H => g10_p7 a15 R t1_0 t1_1 t3_0 t3_1 t54 H (fun t1_0 t1_1 t3_0 t3_1 H => kN t1_0 t1_1 t3_0 t3_1 H))
theorem g10_p8_lin {a15 : T15} (la15 : Lin15 a15) {R S : Type} {k : S → Option R} {t1_0 : Nat} {t1_1 : Nat} {t3_0 : Nat} {t3_1 : Nat} {t34 : Bool} {H : Heap} {fkN : Nat → Nat → Nat → Nat → Heap → Option R} {gkN : Nat → Nat → Nat → Nat → Heap → Option S} (hkN : ∀ t1_0 t1_1 t3_0 t3_1 H, fkN t1_0 t1_1 t3_0 t3_1 H = (gkN t1_0 t1_1 t3_0 t3_1 H).bind k) : g10_p8 a15 R t1_0 t1_1 t3_0 t3_1 t34 H fkN = (g10_p8 a15 S t1_0 t1_1 t3_0 t3_1 t34 H gkN).bind k := by
  exact g10_p6_lin la15 (fun _ _ _ _ _ _ => g10_p7_lin la15 (fun _ _ _ _ _ => hkN _ _ _ _ _))
theorem g10_p8_eq (a15 : T15) (la15 : Lin15 a15) {R : Type} (t1_0 : Nat) (t1_1 : Nat) (t3_0 : Nat) (t3_1 : Nat) (t34 : Bool) (H : Heap) (K : Ex → Fr → Heap → Option R) : ev Try.prog (E10 a15) loopLim Try.f10.ntmps kp10 c10_3 [(1, (V.p (some (t1_0, t1_1)))), (3, (V.p (some (t3_0, t3_1)))), (34, (V.b t34))] H K = g10_p8 a15 R t1_0 t1_1 t3_0 t3_1 t34 H (fun t1_0 t1_1 t3_0 t3_1 H => K .normal [(1, (V.p (some (t1_0, t1_1)))), (3, (V.p (some (t3_0, t3_1))))] H) := by
  show ev Try.prog (E10 a15) loopLim Try.f10.ntmps kp10 (.seq (codeAt [1, 1, 1, 1, 1, 0, 1, 0, 1, 1, 1, 1, 1, 0, 0] b10) (.seq (codeAt [1, 1, 1, 1, 1, 0, 1, 0, 1, 1, 1, 1, 1, 0, 1, 0] b10) (.seq (codeAt [1, 1, 1, 1, 1, 0, 1, 0, 1, 1, 1, 1, 1, 0, 1, 1, 0, 0] b10) (.seq (.cond (.tmp 45) (codeAt [1, 1, 1, 1, 1, 0, 1, 0, 1, 1, 1, 1, 1, 0, 1, 1, 0, 1, 0] b10) .skip) (.seq (codeAt [1, 1, 1, 1, 1, 0, 1, 0, 1, 1, 1, 1, 1, 0, 1, 1, 1, 0, 0] b10) c10_2))))) [(1, (V.p (some (t1_0, t1_1)))), (3, (V.p (some (t3_0, t3_1)))), (34, (V.b t34))] H K = _
  delta g10_p8
  exact (g10_p6_eq a15 _ t1_0 t1_1 t3_0 t3_1 t34 H K).trans (congrArg (g10_p6 a15 R t1_0 t1_1 t3_0 t3_1 t34 H) (funext fun t1_0 => funext fun t1_1 => funext fun t3_0 => funext fun t3_1 => funext fun t54 => funext fun H => g10_p7_eq a15 la15 t1_0 t1_1 t3_0 t3_1 t54 H K))
noncomputable def g10_p9 (a15 : T15) (R : Type) (t1_0 : Nat) (t1_1 : Nat) (t3_0 : Nat) (t3_1 : Nat) (t34 : Bool) (H : Heap) (kR : Int → Heap → Option R) : Option R :=
  kR (1 : Int) H
theorem g10_p9_eq (a15 : T15) (la15 : Lin15 a15) {R : Type} (t1_0 : Nat) (t1_1 : Nat) (t3_0 : Nat) (t3_1 : Nat) (t34 : Bool) (H : Heap) (K : Ex → Fr → Heap → Option R) : ev Try.prog (E10 a15) loopLim Try.f10.ntmps kp10 c10_4 [(1, (V.p (some (t1_0, t1_1)))), (3, (V.p (some (t3_0, t3_1)))), (34, (V.b t34))] H K = g10_p9 a15 R t1_0 t1_1 t3_0 t3_1 t34 H (fun t2 H => K .ret [(2, (V.i .i64 t2))] H) := by kernel_rfl
theorem g10_p9_lin {a15 : T15} (la15 : Lin15 a15) {R S : Type} {k : S → Option R} {t1_0 : Nat} {t1_1 : Nat} {t3_0 : Nat} {t3_1 : Nat} {t34 : Bool} {H : Heap} {fkR : Int → Heap → Option R} {gkR : Int → Heap → Option S} (hkR : ∀ t2 H, fkR t2 H = (gkR t2 H).bind k) : g10_p9 a15 R t1_0 t1_1 t3_0 t3_1 t34 H fkR = (g10_p9 a15 S t1_0 t1_1 t3_0 t3_1 t34 H gkR).bind k := by
  delta g10_p9; exact (
    hkR _ _)
noncomputable def g10_p10 (a15 : T15) (R : Type) (t1_0 : Nat) (t1_1 : Nat) (t3_0 : Nat) (t3_1 : Nat) (t34 : Bool) (H : Heap) (kN : Nat → Nat → Nat → Nat → Heap → Option R) (kR : Int → Heap → Option R) : Option R :=
  sel t34 (g10_p8 a15 R t1_0 t1_1 t3_0 t3_1 t34 H (fun t1_0 t1_1 t3_0 t3_1 H => kN t1_0 t1_1 t3_0 t3_1 H)) (g10_p9 a15 R t1_0 t1_1 t3_0 t3_1 t34 H (fun t2 H => kR t2 H))
theorem g10_p10_lin {a15 : T15} (la15 : Lin15 a15) {R S : Type} {k : S → Option R} {t1_0 : Nat} {t1_1 : Nat} {t3_0 : Nat} {t3_1 : Nat} {t34 : Bool} {H : Heap} {fkN : Nat → Nat → Nat → Nat → Heap → Option R} {gkN : Nat → Nat → Nat → Nat → Heap → Option S} {fkR : Int → Heap → Option R} {gkR : Int → Heap → Option S} (hkN : ∀ t1_0 t1_1 t3_0 t3_1 H, fkN t1_0 t1_1 t3_0 t3_1 H = (gkN t1_0 t1_1 t3_0 t3_1 H).bind k) (hkR : ∀ t2 H, fkR t2 H = (gkR t2 H).bind k) : g10_p10 a15 R t1_0 t1_1 t3_0 t3_1 t34 H fkN fkR = (g10_p10 a15 S t1_0 t1_1 t3_0 t3_1 t34 H gkN gkR).bind k := by
  exact sl_lin (g10_p8_lin la15 (fun _ _ _ _ _ => hkN _ _ _ _ _)) (g10_p9_lin la15 (fun _ _ => hkR _ _))
theorem g10_p10_eq (a15 : T15) (la15 : Lin15 a15) {R : Type} (t1_0 : Nat) (t1_1 : Nat) (t3_0 : Nat) (t3_1 : Nat) (t34 : Bool) (H : Heap) (K : Ex → Fr → Heap → Option R) : ev Try.prog (E10 a15) loopLim Try.f10.ntmps kp10 c10_5 [(1, (V.p (some (t1_0, t1_1)))), (3, (V.p (some (t3_0, t3_1)))), (34, (V.b t34))] H K = g10_p10 a15 R t1_0 t1_1 t3_0 t3_1 t34 H (fun t1_0 t1_1 t3_0 t3_1 H => K .normal [(1, (V.p (some (t1_0, t1_1)))), (3, (V.p (some (t3_0, t3_1))))] H) (fun t2 H => K .ret [(2, (V.i .i64 t2))] H) := by
  show ev Try.prog (E10 a15) loopLim Try.f10.ntmps kp10 (.cond (.tmp 34) c10_3 c10_4) [(1, (V.p (some (t1_0, t1_1)))), (3, (V.p (some (t3_0, t3_1)))), (34, (V.b t34))] H K = _
  rw [ev_cond _ _ _ _ _ _ t34 rfl]
  delta g10_p10
  exact sc (g10_p8_eq a15 la15 t1_0 t1_1 t3_0 t3_1 t34 H (kEnd kp10 (condId (.tmp 34)) K)) (g10_p9_eq a15 la15 t1_0 t1_1 t3_0 t3_1 t34 H (kEnd kp10 (condId (.tmp 34)) K))
noncomputable def g10_p11 (a15 : T15) (R : Type) (t1_0 : Nat) (t1_1 : Nat) (t3_0 : Nat) (t3_1 : Nat) (t17 : Int) (t30 : Bool) (H : Heap) (kN : Nat → Nat → Nat → Nat → Heap → Option R) (kR : Int → Heap → Option R) : Option R :=
  g10_p5 a15 R t1_0 t1_1 t3_0 t3_1 t17 t30 H (fun t1_0 t1_1 t3_0 t3_1 t34 H => g10_p10 a15 R t1_0 t1_1 t3_0 t3_1 t34 H (fun t1_0 t1_1 t3_0 t3_1 H => kN t1_0 t1_1 t3_0 t3_1 H) (fun t2 H => kR t2 H))
theorem g10_p11_lin {a15 : T15} (la15 : Lin15 a15) {R S : Type} {k : S → Option R} {t1_0 : Nat} {t1_1 : Nat} {t3_0 : Nat} {t3_1 : Nat} {t17 : Int} {t30 : Bool} {H : Heap} {fkN : Nat → Nat → Nat → Nat → Heap → Option R} {gkN : Nat → Nat → Nat → Nat → Heap → Option S} {fkR : Int → Heap → Option R} {gkR : Int → Heap → Option S} (hkN : ∀ t1_0 t1_1 t3_0 t3_1 H, fkN t1_0 t1_1 t3_0 t3_1 H = (gkN t1_0 t1_1 t3_0 t3_1 H).bind k) (hkR : ∀ t2 H, fkR t2 H = (gkR t2 H).bind k) : g10_p11 a15 R t1_0 t1_1 t3_0 t3_1 t17 t30 H fkN fkR = (g10_p11 a15 S t1_0 t1_1 t3_0 t3_1 t17 t30 H gkN gkR).bind k := by
  exact g10_p5_lin la15 (fun _ _ _ _ _ _ => g10_p10_lin la15 (fun _ _ _ _ _ => hkN _ _ _ _ _) (fun _ _ => hkR _ _))
theorem g10_p11_eq (a15 : T15) (la15 : Lin15 a15) {R : Type} (t1_0 : Nat) (t1_1 : Nat) (t3_0 : Nat) (t3_1 : Nat) (t17 : Int) (t30 : Bool) (H : Heap) (K : Ex → Fr → Heap → Option R) : ev Try.prog (E10 a15) loopLim Try.f10.ntmps kp10 c10_6 [(1, (V.p (some (t1_0, t1_1)))), (3, (V.p (some (t3_0, t3_1)))), (17, (V.i .u8 t17)), (30, (V.b t30))] H K = g10_p11 a15 R t1_0 t1_1 t3_0 t3_1 t17 t30 H (fun t1_0 t1_1 t3_0 t3_1 H => K .normal [(1, (V.p (some (t1_0, t1_1)))), (3, (V.p (some (t3_0, t3_1))))] H) (fun t2 H => K .ret [(2, (V.i .i64 t2))] H) := by
  show ev Try.prog (E10 a15) loopLim Try.f10.ntmps kp10 (.seq (codeAt [1, 1, 1, 1, 1, 0, 1, 0, 1, 1, 1, 1, 0, 0] b10) (.seq (.cond (.tmp 34) .skip (.seq (codeAt [1, 1, 1, 1, 1, 0, 1, 0, 1, 1, 1, 1, 0, 1, 1, 0] b10) (.cond (.tmp 34) .skip (.seq (codeAt [1, 1, 1, 1, 1, 0, 1, 0, 1, 1, 1, 1, 0, 1, 1, 1, 1, 0] b10) (.cond (.tmp 34) .skip (.seq (codeAt [1, 1, 1, 1, 1, 0, 1, 0, 1, 1, 1, 1, 0, 1, 1, 1, 1, 1, 1, 0] b10) (.cond (.tmp 34) .skip (.seq (codeAt [1, 1, 1, 1, 1, 0, 1, 0, 1, 1, 1, 1, 0, 1, 1, 1, 1, 1, 1, 1, 1, 0] b10) (.cond (.tmp 34) .skip (codeAt [1, 1, 1, 1, 1, 0, 1, 0, 1, 1, 1, 1, 0, 1, 1, 1, 1, 1, 1, 1, 1, 1, 1] b10)))))))))) c10_5)) [(1, (V.p (some (t1_0, t1_1)))), (3, (V.p (some (t3_0, t3_1)))), (17, (V.i .u8 t17)), (30, (V.b t30))] H K = _
  delta g10_p11
  exact (g10_p5_eq a15 _ t1_0 t1_1 t3_0 t3_1 t17 t30 H K).trans (congrArg (g10_p5 a15 R t1_0 t1_1 t3_0 t3_1 t17 t30 H) (funext fun t1_0 => funext fun t1_1 => funext fun t3_0 => funext fun t3_1 => funext fun t34 => funext fun H => g10_p10_eq a15 la15 t1_0 t1_1 t3_0 t3_1 t34 H K))
noncomputable def g10_p12 (a15 : T15) (R : Type) (t1_0 : Nat) (t1_1 : Nat) (t3_0 : Nat) (t3_1 : Nat) (t17 : Int) (t30 : Bool) (H : Heap) (kN : Nat → Nat → Nat → Nat → Heap → Option R) (kR : Int → Heap → Option R) : Option R :=
  sel t30 (g10_p4 a15 R t1_0 t1_1 t3_0 t3_1 t17 t30 H (fun t1_0 t1_1 t3_0 t3_1 H => kN t1_0 t1_1 t3_0 t3_1 H)) (g10_p11 a15 R t1_0 t1_1 t3_0 t3_1 t17 t30 H (fun t1_0 t1_1 t3_0 t3_1 H => kN t1_0 t1_1 t3_0 t3_1 H) (fun t2 H => kR t2 H))
theorem g10_p12_lin {a15 : T15} (la15 : Lin15 a15) {R S : Type} {k : S → Option R} {t1_0 : Nat} {t1_1 : Nat} {t3_0 : Nat} {t3_1 : Nat} {t17 : Int} {t30 : Bool} {H : Heap} {fkN : Nat → Nat → Nat → Nat → Heap → Option R} {gkN : Nat → Nat → Nat → Nat → Heap → Option S} {fkR : Int → Heap → Option R} {gkR : Int → Heap → Option S} (hkN : ∀ t1_0 t1_1 t3_0 t3_1 H, fkN t1_0 t1_1 t3_0 t3_1 H = (gkN t1_0 t1_1 t3_0 t3_1 H).bind k) (hkR : ∀ t2 H, fkR t2 H = (gkR t2 H).bind k) : g10_p12 a15 R t1_0 t1_1 t3_0 t3_1 t17 t30 H fkN fkR = (g10_p12 a15 S t1_0 t1_1 t3_0 t3_1 t17 t30 H gkN gkR).bind k := by
  exact sl_lin (g10_p4_lin la15 (fun _ _ _ _ _ => hkN _ _ _ _ _)) (g10_p11_lin la15 (fun _ _ _ _ _ => hkN _ _ _ _ _) (fun _ _ => hkR _ _))
theorem g10_p12_eq (a15 : T15) (la15 : Lin15 a15) {R : Type} (t1_0 : Nat) (t1_1 : Nat) (t3_0 : Nat) (t3_1 : Nat) (t17 : Int) (t30 : Bool) (H : Heap) (K : Ex → Fr → Heap → Option R) : ev Try.prog (E10 a15) loopLim Try.f10.ntmps kp10 c10_7 [(1, (V.p (some (t1_0, t1_1)))), (3, (V.p (some (t3_0, t3_1)))), (17, (V.i .u8 t17)), (30, (V.b t30))] H K = g10_p12 a15 R t1_0 t1_1 t3_0 t3_1 t17 t30 H (fun t1_0 t1_1 t3_0 t3_1 H => K .normal [(1, (V.p (some (t1_0, t1_1)))), (3, (V.p (some (t3_0, t3_1))))] H) (fun t2 H => K .ret [(2, (V.i .i64 t2))] H) := by
  show ev Try.prog (E10 a15) loopLim Try.f10.ntmps kp10 (.cond (.tmp 30) c10_1 c10_6) [(1, (V.p (some (t1_0, t1_1)))), (3, (V.p (some (t3_0, t3_1)))), (17, (V.i .u8 t17)), (30, (V.b t30))] H K = _
  rw [ev_cond _ _ _ _ _ _ t30 rfl]
  delta g10_p12
  exact sc (g10_p4_eq a15 la15 t1_0 t1_1 t3_0 t3_1 t17 t30 H (kEnd kp10 (condId (.tmp 30)) K)) (g10_p11_eq a15 la15 t1_0 t1_1 t3_0 t3_1 t17 t30 H (kEnd kp10 (condId (.tmp 30)) K))
noncomputable def g10_p13 (a15 : T15) (R : Type) (t1_0 : Nat) (t1_1 : Nat) (t3_0 : Nat) (t3_1 : Nat) (t17 : Int) (t18 : Bool) (H : Heap) (kN : Nat → Nat → Nat → Nat → Heap → Option R) (kR : Int → Heap → Option R) : Option R :=
  g10_p3 a15 R t1_0 t1_1 t3_0 t3_1 t17 t18 H (fun t1_0 t1_1 t3_0 t3_1 t17 t30 H => g10_p12 a15 R t1_0 t1_1 t3_0 t3_1 t17 t30 H (fun t1_0 t1_1 t3_0 t3_1 H => kN t1_0 t1_1 t3_0 t3_1 H) (fun t2 H => kR t2 H))
theorem g10_p13_lin {a15 : T15} (la15 : Lin15 a15) {R S : Type} {k : S → Option R} {t1_0 : Nat} {t1_1 : Nat} {t3_0 : Nat} {t3_1 : Nat} {t17 : Int} {t18 : Bool} {H : Heap} {fkN : Nat → Nat → Nat → Nat → Heap → Option R} {gkN : Nat → Nat → Nat → Nat → Heap → Option S} {fkR : Int → Heap → Option R} {gkR : Int → Heap → Option S} (hkN : ∀ t1_0 t1_1 t3_0 t3_1 H, fkN t1_0 t1_1 t3_0 t3_1 H = (gkN t1_0 t1_1 t3_0 t3_1 H).bind k) (hkR : ∀ t2 H, fkR t2 H = (gkR t2 H).bind k) : g10_p13 a15 R t1_0 t1_1 t3_0 t3_1 t17 t18 H fkN fkR = (g10_p13 a15 S t1_0 t1_1 t3_0 t3_1 t17 t18 H gkN gkR).bind k := by
  exact g10_p3_lin la15 (fun _ _ _ _ _ _ _ => g10_p12_lin la15 (fun _ _ _ _ _ => hkN _ _ _ _ _) (fun _ _ => hkR _ _))
theorem g10_p13_eq (a15 : T15) (la15 : Lin15 a15) {R : Type} (t1_0 : Nat) (t1_1 : Nat) (t3_0 : Nat) (t3_1 : Nat) (t17 : Int) (t18 : Bool) (H : Heap) (K : Ex → Fr → Heap → Option R) : ev Try.prog (E10 a15) loopLim Try.f10.ntmps kp10 c10_8 [(1, (V.p (some (t1_0, t1_1)))), (3, (V.p (some (t3_0, t3_1)))), (17, (V.i .u8 t17)), (18, (V.b t18))] H K = g10_p13 a15 R t1_0 t1_1 t3_0 t3_1 t17 t18 H (fun t1_0 t1_1 t3_0 t3_1 H => K .normal [(1, (V.p (some (t1_0, t1_1)))), (3, (V.p (some (t3_0, t3_1))))] H) (fun t2 H => K .ret [(2, (V.i .i64 t2))] H) := by
  show ev Try.prog (E10 a15) loopLim Try.f10.ntmps kp10 (.seq (codeAt [1, 1, 1, 1, 1, 0, 1, 0, 1, 1, 0] b10) c10_7) [(1, (V.p (some (t1_0, t1_1)))), (3, (V.p (some (t3_0, t3_1)))), (17, (V.i .u8 t17)), (18, (V.b t18))] H K = _
  delta g10_p13
  exact (g10_p3_eq a15 _ t1_0 t1_1 t3_0 t3_1 t17 t18 H K).trans (congrArg (g10_p3 a15 R t1_0 t1_1 t3_0 t3_1 t17 t18 H) (funext fun t1_0 => funext fun t1_1 => funext fun t3_0 => funext fun t3_1 => funext fun t17 => funext fun t30 => funext fun H => g10_p12_eq a15 la15 t1_0 t1_1 t3_0 t3_1 t17 t30 H K))
noncomputable def g10_p14 (a15 : T15) (R : Type) (t1_0 : Nat) (t1_1 : Nat) (t3_0 : Nat) (t3_1 : Nat) (t17 : Int) (t18 : Bool) (H : Heap) (kN : Nat → Nat → Nat → Nat → Heap → Option R) (kR : Int → Heap → Option R) : Option R :=
  sel t18 (g10_p2 a15 R t1_0 t1_1 t3_0 t3_1 t17 t18 H (fun t1_0 t1_1 t3_0 t3_1 H => kN t1_0 t1_1 t3_0 t3_1 H)) (g10_p13 a15 R t1_0 t1_1 t3_0 t3_1 t17 t18 H (fun t1_0 t1_1 t3_0 t3_1 H => kN t1_0 t1_1 t3_0 t3_1 H) (fun t2 H => kR t2 H))
theorem g10_p14_lin {a15 : T15} (la15 : Lin15 a15) {R S : Type} {k : S → Option R} {t1_0 : Nat} {t1_1 : Nat} {t3_0 : Nat} {t3_1 : Nat} {t17 : Int} {t18 : Bool} {H : Heap} {fkN : Nat → Nat → Nat → Nat → Heap → Option R} {gkN : Nat → Nat → Nat → Nat → Heap → Option S} {fkR : Int → Heap → Option R} {gkR : Int → Heap → Option S} (hkN : ∀ t1_0 t1_1 t3_0 t3_1 H, fkN t1_0 t1_1 t3_0 t3_1 H = (gkN t1_0 t1_1 t3_0 t3_1 H).bind k) (hkR : ∀ t2 H, fkR t2 H = (gkR t2 H).bind k) : g10_p14 a15 R t1_0 t1_1 t3_0 t3_1 t17 t18 H fkN fkR = (g10_p14 a15 S t1_0 t1_1 t3_0 t3_1 t17 t18 H gkN gkR).bind k := by
  exact sl_lin (g10_p2_lin la15 (fun _ _ _ _ _ => hkN _ _ _ _ _)) (g10_p13_lin la15 (fun _ _ _ _ _ => hkN _ _ _ _ _) (fun _ _ => hkR _ _))
theorem g10_p14_eq (a15 : T15) (la15 : Lin15 a15) {R : Type} (t1_0 : Nat) (t1_1 : Nat) (t3_0 : Nat) (t3_1 : Nat) (t17 : Int) (t18 : Bool) (H : Heap) (K : Ex → Fr → Heap → Option R) : ev Try.prog (E10 a15) loopLim Try.f10.ntmps kp10 c10_9 [(1, (V.p (some (t1_0, t1_1)))), (3, (V.p (some (t3_0, t3_1)))), (17, (V.i .u8 t17)), (18, (V.b t18))] H K = g10_p14 a15 R t1_0 t1_1 t3_0 t3_1 t17 t18 H (fun t1_0 t1_1 t3_0 t3_1 H => K .normal [(1, (V.p (some (t1_0, t1_1)))), (3, (V.p (some (t3_0, t3_1))))] H) (fun t2 H => K .ret [(2, (V.i .i64 t2))] H) := by
  show ev Try.prog (E10 a15) loopLim Try.f10.ntmps kp10 (.cond (.tmp 18) c10_0 c10_8) [(1, (V.p (some (t1_0, t1_1)))), (3, (V.p (some (t3_0, t3_1)))), (17, (V.i .u8 t17)), (18, (V.b t18))] H K = _
  rw [ev_cond _ _ _ _ _ _ t18 rfl]
  delta g10_p14
  exact sc (g10_p2_eq a15 la15 t1_0 t1_1 t3_0 t3_1 t17 t18 H (kEnd kp10 (condId (.tmp 18)) K)) (g10_p13_eq a15 la15 t1_0 t1_1 t3_0 t3_1 t17 t18 H (kEnd kp10 (condId (.tmp 18)) K))
noncomputable def g10_p15 (a15 : T15) (R : Type) (t1_0 : Nat) (t1_1 : Nat) (t3_0 : Nat) (t3_1 : Nat) (t17 : Int) (H : Heap) (kN : Nat → Nat → Nat → Nat → Heap → Option R) (kR : Int → Heap → Option R) : Option R :=
  g10_p1 a15 R t1_0 t1_1 t3_0 t3_1 t17 H (fun t1_0 t1_1 t3_0 t3_1 t17 t18 H => g10_p14 a15 R t1_0 t1_1 t3_0 t3_1 t17 t18 H (fun t1_0 t1_1 t3_0 t3_1 H => kN t1_0 t1_1 t3_0 t3_1 H) (fun t2 H => kR t2 H))
theorem g10_p15_lin {a15 : T15} (la15 : Lin15 a15) {R S : Type} {k : S → Option R} {t1_0 : Nat} {t1_1 : Nat} {t3_0 : Nat} {t3_1 : Nat} {t17 : Int} {H : Heap} {fkN : Nat → Nat → Nat → Nat → Heap → Option R} {gkN : Nat → Nat → Nat → Nat → Heap → Option S} {fkR : Int → Heap → Option R} {gkR : Int → Heap → Option S} (hkN : ∀ t1_0 t1_1 t3_0 t3_1 H, fkN t1_0 t1_1 t3_0 t3_1 H = (gkN t1_0 t1_1 t3_0 t3_1 H).bind k) (hkR : ∀ t2 H, fkR t2 H = (gkR t2 H).bind k) : g10_p15 a15 R t1_0 t1_1 t3_0 t3_1 t17 H fkN fkR = (g10_p15 a15 S t1_0 t1_1 t3_0 t3_1 t17 H gkN gkR).bind k := by
  exact g10_p1_lin la15 (fun _ _ _ _ _ _ _ => g10_p14_lin la15 (fun _ _ _ _ _ => hkN _ _ _ _ _) (fun _ _ => hkR _ _))
theorem g10_p15_eq (a15 : T15) (la15 : Lin15 a15) {R : Type} (t1_0 : Nat) (t1_1 : Nat) (t3_0 : Nat) (t3_1 : Nat) (t17 : Int) (H : Heap) (K : Ex → Fr → Heap → Option R) : ev Try.prog (E10 a15) loopLim Try.f10.ntmps kp10 c10_10 [(1, (V.p (some (t1_0, t1_1)))), (3, (V.p (some (t3_0, t3_1)))), (17, (V.i .u8 t17))] H K = g10_p15 a15 R t1_0 t1_1 t3_0 t3_1 t17 H (fun t1_0 t1_1 t3_0 t3_1 H => K .normal [(1, (V.p (some (t1_0, t1_1)))), (3, (V.p (some (t3_0, t3_1))))] H) (fun t2 H => K .ret [(2, (V.i .i64 t2))] H) := by
  show ev Try.prog (E10 a15) loopLim Try.f10.ntmps kp10 (.seq (codeAt [1, 1, 1, 1, 1, 0, 1, 0, 0] b10) c10_9) [(1, (V.p (some (t1_0, t1_1)))), (3, (V.p (some (t3_0, t3_1)))), (17, (V.i .u8 t17))] H K = _
  delta g10_p15
  exact (g10_p1_eq a15 _ t1_0 t1_1 t3_0 t3_1 t17 H K).trans (congrArg (g10_p1 a15 R t1_0 t1_1 t3_0 t3_1 t17 H) (funext fun t1_0 => funext fun t1_1 => funext fun t3_0 => funext fun t3_1 => funext fun t17 => funext fun t18 => funext fun H => g10_p14_eq a15 la15 t1_0 t1_1 t3_0 t3_1 t17 t18 H K))
noncomputable def g10_p16 (a15 : T15) (R : Type) (t1_0 : Nat) (t1_1 : Nat) (t3_0 : Nat) (t3_1 : Nat) (t17 : Int) (H : Heap) (kN : Nat → Nat → Nat → Nat → Heap → Option R) (kR : Int → Heap → Option R) : Option R :=
  g10_p15 a15 R t1_0 t1_1 t3_0 t3_1 t17 H (fun t1_0 t1_1 t3_0 t3_1 H => kN t1_0 t1_1 t3_0 t3_1 H) (fun t2 H => kR t2 H)
theorem g10_p16_lin {a15 : T15} (la15 : Lin15 a15) {R S : Type} {k : S → Option R} {t1_0 : Nat} {t1_1 : Nat} {t3_0 : Nat} {t3_1 : Nat} {t17 : Int} {H : Heap} {fkN : Nat → Nat → Nat → Nat → Heap → Option R} {gkN : Nat → Nat → Nat → Nat → Heap → Option S} {fkR : Int → Heap → Option R} {gkR : Int → Heap → Option S} (hkN : ∀ t1_0 t1_1 t3_0 t3_1 H, fkN t1_0 t1_1 t3_0 t3_1 H = (gkN t1_0 t1_1 t3_0 t3_1 H).bind k) (hkR : ∀ t2 H, fkR t2 H = (gkR t2 H).bind k) : g10_p16 a15 R t1_0 t1_1 t3_0 t3_1 t17 H fkN fkR = (g10_p16 a15 S t1_0 t1_1 t3_0 t3_1 t17 H gkN gkR).bind k := by
  exact g10_p15_lin la15 (fun _ _ _ _ _ => hkN _ _ _ _ _) (fun _ _ => hkR _ _)
theorem g10_p16_eq (a15 : T15) (la15 : Lin15 a15) {R : Type} (t1_0 : Nat) (t1_1 : Nat) (t3_0 : Nat) (t3_1 : Nat) (t17 : Int) (H : Heap) (K : Ex → Fr → Heap → Option R) : ev Try.prog (E10 a15) loopLim Try.f10.ntmps kp10 c10_11 [(1, (V.p (some (t1_0, t1_1)))), (3, (V.p (some (t3_0, t3_1)))), (17, (V.i .u8 t17))] H K = g10_p16 a15 R t1_0 t1_1 t3_0 t3_1 t17 H (fun t1_0 t1_1 t3_0 t3_1 H => K .normal [(1, (V.p (some (t1_0, t1_1)))), (3, (V.p (some (t3_0, t3_1))))] H) (fun t2 H => K .ret [(2, (V.i .i64 t2))] H) := by
  show ev Try.prog (E10 a15) loopLim Try.f10.ntmps kp10 (.block 0 c10_10) [(1, (V.p (some (t1_0, t1_1)))), (3, (V.p (some (t3_0, t3_1)))), (17, (V.i .u8 t17))] H K = _
  rw [ev_block]
  delta g10_p16
  exact (g10_p15_eq a15 la15 t1_0 t1_1 t3_0 t3_1 t17 H (kBlock kp10 0 K))
noncomputable def g10_p17 (a15 : T15) (R : Type) (t1_0 : Nat) (t1_1 : Nat) (t3_0 : Nat) (t3_1 : Nat) (H : Heap) (kN : Nat → Nat → Bool → Heap → Option R) : Option R :=
  ((H).ldI .u8 t3_0 (t3_1 + 0)).bind fun x316940 =>
  ((H).ldI .u32 t3_0 (t3_1 + 1)).bind fun x316941 =>
  ((H).ldI .u32 t3_0 (t3_1 + 2)).bind fun x316942 =>
  ((H).ldI .u8 t3_0 (t3_1 + 3)).bind fun x316943 =>
  ((H).ldI .u8 t3_0 (t3_1 + 4)).bind fun x316944 =>
  ((H).ldI .u8 t3_0 (t3_1 + 5)).bind fun x316945 =>
  ((H).ldI .u8 t3_0 (t3_1 + 6)).bind fun x316946 =>
  ((H).ldSl t3_0 (t3_1 + 7)).bind fun x316947 =>
  a15 R x316940 x316941 x316942 x316943 x316944 x316945 x316946 x316947 (0 : Int) (0 : Int) (0 : Int) (0 : Int) (0 : Int) (0 : Int) (0 : Int) (Sl.mk none 0 (.ex 0)) H fun x316948 h316949 =>
  sel x316948 (
    ((h316949).ldSl t1_0 (t1_1 + 7)).bind fun x316950 =>
    sel (((x316950.len : Nat) : Int) == (0 : Int)) (
      ((h316949).ldI .u8 t1_0 (t1_1 + 4)).bind fun x316951 =>
      sel (decide (x316951 < (128 : Int))) (
        ((h316949).ldI .u8 t1_0 (t1_1 + 5)).bind fun x316952 =>
        kN t1_0 t1_1 (decide (x316952 < (128 : Int))) h316949) (
        kN t1_0 t1_1 false h316949)) (
      ((h316949).ldI .u8 t1_0 (t1_1 + 0)).bind fun x316953 =>
      sel (x316953 == (4 : Int)) (
        ((h316949).ldI .u8 t1_0 (t1_1 + 4)).bind fun x316954 =>
        sel (decide (x316954 < (128 : Int))) (
          ((h316949).ldI .u8 t1_0 (t1_1 + 5)).bind fun x316955 =>
          kN t1_0 t1_1 (decide (x316955 < (128 : Int))) h316949) (
          kN t1_0 t1_1 false h316949)) (
        ((h316949).ldI .u8 t1_0 (t1_1 + 0)).bind fun x316956 =>
        sel (x316956 == (1 : Int)) (
          ((h316949).ldI .u8 t1_0 (t1_1 + 4)).bind fun x316957 =>
          sel (decide (x316957 < (128 : Int))) (
            ((h316949).ldI .u8 t1_0 (t1_1 + 5)).bind fun x316958 =>
            kN t1_0 t1_1 (decide (x316958 < (128 : Int))) h316949) (
            kN t1_0 t1_1 false h316949)) (
          kN t1_0 t1_1 false h316949)))) (
    kN t1_0 t1_1 false h316949)
theorem g10_p17_eq (a15 : T15) {R : Type} (c2 : Code) (t1_0 : Nat) (t1_1 : Nat) (t3_0 : Nat) (t3_1 : Nat) (H : Heap) (K : Ex → Fr → Heap → Option R) : ev Try.prog (E10 a15) loopLim Try.f10.ntmps kp10 (.seq (codeAt [1, 1, 1, 1, 1, 1, 0] b10) c2) [(1, (V.p (some (t1_0, t1_1)))), (3, (V.p (some (t3_0, t3_1))))] H K = g10_p17 a15 R t1_0 t1_1 t3_0 t3_1 H (fun t1_0 t1_1 t4 H => ev Try.prog (E10 a15) loopLim Try.f10.ntmps kp10 c2 [(1, (V.p (some (t1_0, t1_1)))), (4, (V.b t4))] H K) := by kernel_rfl
theorem g10_p17_lin {a15 : T15} (la15 : Lin15 a15) {R S : Type} {k : S → Option R} {t1_0 : Nat} {t1_1 : Nat} {t3_0 : Nat} {t3_1 : Nat} {H : Heap} {fkN : Nat → Nat → Bool → Heap → Option R} {gkN : Nat → Nat → Bool → Heap → Option S} (hkN : ∀ t1_0 t1_1 t4 H, fkN t1_0 t1_1 t4 H = (gkN t1_0 t1_1 t4 H).bind k) : g10_p17 a15 R t1_0 t1_1 t3_0 t3_1 H fkN = (g10_p17 a15 S t1_0 t1_1 t3_0 t3_1 H gkN).bind k := by
  delta g10_p17; exact (
    bl fun x316940 =>
    bl fun x316941 =>
    bl fun x316942 =>
    bl fun x316943 =>
    bl fun x316944 =>
    bl fun x316945 =>
    bl fun x316946 =>
    bl fun x316947 =>
    la15.l fun x316948 h316949 =>
    sl_lin (
      bl fun x316950 =>
      sl_lin (
        bl fun x316951 =>
        sl_lin (
          bl fun x316952 =>
          hkN _ _ _ _) (
          hkN _ _ _ _)) (
        bl fun x316953 =>
        sl_lin (
          bl fun x316954 =>
          sl_lin (
            bl fun x316955 =>
            hkN _ _ _ _) (
            hkN _ _ _ _)) (
          bl fun x316956 =>
          sl_lin (
            bl fun x316957 =>
            sl_lin (
              bl fun x316958 =>
              hkN _ _ _ _) (
              hkN _ _ _ _)) (
            hkN _ _ _ _)))) (
      hkN _ _ _ _))
noncomputable def g10_p18 (a15 : T15) (R : Type) (t1_0 : Nat) (t1_1 : Nat) (t4 : Bool) (H : Heap) (kN : Nat → Nat → Bool → Bool → Bool → Heap → Option R) : Option R :=
  ((H).ldI .u8 t1_0 (t1_1 + 0)).bind fun x317091 =>
  sel (x317091 == (3 : Int)) (
    ((H).ldI .u8 t1_0 (t1_1 + 0)).bind fun x317092 =>
    sel (x317092 == (1 : Int)) (
      kN t1_0 t1_1 t4 true true H) (
      ((H).ldI .u32 t1_0 (t1_1 + 2)).bind fun x317093 =>
      sel (decide (x317093 > (0 : Int))) (
        ((H).ldI .u32 t1_0 (t1_1 + 2)).bind fun x317094 =>
        kN t1_0 t1_1 t4 true (decide (x317094 ≤ (8191 : Int))) H) (
        kN t1_0 t1_1 t4 true false H))) (
    ((H).ldI .u32 t1_0 (t1_1 + 1)).bind fun x317095 =>
    sel (decide (x317095 > (0 : Int))) (
      ((H).ldI .u32 t1_0 (t1_1 + 1)).bind fun x317096 =>
      ((H).ldI .u8 t1_0 (t1_1 + 0)).bind fun x317097 =>
      sel (x317097 == (1 : Int)) (
        kN t1_0 t1_1 t4 (decide (x317096 ≤ (8191 : Int))) true H) (
        ((H).ldI .u32 t1_0 (t1_1 + 2)).bind fun x317098 =>
        sel (decide (x317098 > (0 : Int))) (
          ((H).ldI .u32 t1_0 (t1_1 + 2)).bind fun x317099 =>
          kN t1_0 t1_1 t4 (decide (x317096 ≤ (8191 : Int))) (decide (x317099 ≤ (8191 : Int))) H) (
          kN t1_0 t1_1 t4 (decide (x317096 ≤ (8191 : Int))) false H))) (
      ((H).ldI .u8 t1_0 (t1_1 + 0)).bind fun x317100 =>
      sel (x317100 == (1 : Int)) (
        kN t1_0 t1_1 t4 false true H) (
        ((H).ldI .u32 t1_0 (t1_1 + 2)).bind fun x317101 =>
        sel (decide (x317101 > (0 : Int))) (
          ((H).ldI .u32 t1_0 (t1_1 + 2)).bind fun x317102 =>
          kN t1_0 t1_1 t4 false (decide (x317102 ≤ (8191 : Int))) H) (
          kN t1_0 t1_1 t4 false false H))))
theorem g10_p18_eq (a15 : T15) {R : Type} (c2 : Code) (t1_0 : Nat) (t1_1 : Nat) (t4 : Bool) (H : Heap) (K : Ex → Fr → Heap → Option R) : ev Try.prog (E10 a15) loopLim Try.f10.ntmps kp10 (.seq (codeAt [1, 1, 1, 1, 1, 1, 1, 0] b10) (.seq (codeAt [1, 1, 1, 1, 1, 1, 1, 1, 0] b10) c2)) [(1, (V.p (some (t1_0, t1_1)))), (4, (V.b t4))] H K = g10_p18 a15 R t1_0 t1_1 t4 H (fun t1_0 t1_1 t4 t5 t6 H => ev Try.prog (E10 a15) loopLim Try.f10.ntmps kp10 c2 [(1, (V.p (some (t1_0, t1_1)))), (4, (V.b t4)), (5, (V.b t5)), (6, (V.b t6))] H K) := by kernel_rfl
theorem g10_p18_lin {a15 : T15} (la15 : Lin15 a15) {R S : Type} {k : S → Option R} {t1_0 : Nat} {t1_1 : Nat} {t4 : Bool} {H : Heap} {fkN : Nat → Nat → Bool → Bool → Bool → Heap → Option R} {gkN : Nat → Nat → Bool → Bool → Bool → Heap → Option S} (hkN : ∀ t1_0 t1_1 t4 t5 t6 H, fkN t1_0 t1_1 t4 t5 t6 H = (gkN t1_0 t1_1 t4 t5 t6 H).bind k) : g10_p18 a15 R t1_0 t1_1 t4 H fkN = (g10_p18 a15 S t1_0 t1_1 t4 H gkN).bind k := by
  delta g10_p18; exact (
    bl fun x317091 =>
    sl_lin (
      bl fun x317092 =>
      sl_lin (
        hkN _ _ _ _ _ _) (
        bl fun x317093 =>
        sl_lin (
          bl fun x317094 =>
          hkN _ _ _ _ _ _) (
          hkN _ _ _ _ _ _))) (
      bl fun x317095 =>
      sl_lin (
        bl fun x317096 =>
        bl fun x317097 =>
        sl_lin (
          hkN _ _ _ _ _ _) (
          bl fun x317098 =>
          sl_lin (
            bl fun x317099 =>
            hkN _ _ _ _ _ _) (
            hkN _ _ _ _ _ _))) (
        bl fun x317100 =>
        sl_lin (
          hkN _ _ _ _ _ _) (
          bl fun x317101 =>
          sl_lin (
            bl fun x317102 =>
            hkN _ _ _ _ _ _) (
            hkN _ _ _ _ _ _)))))
noncomputable def g10_p19 (a15 : T15) (R : Type) (t1_0 : Nat) (t1_1 : Nat) (t4 : Bool) (t5 : Bool) (t6 : Bool) (H : Heap) (kN : Bool → Bool → Bool → Bool → Bool → Heap → Option R) : Option R :=
  ((H).ldI .u8 t1_0 (t1_1 + 0)).bind fun x317120 =>
  sel (x317120 != (3 : Int)) (
    ((H).ldI .u8 t1_0 (t1_1 + 0)).bind fun x317121 =>
    sel (x317121 != (7 : Int)) (
      ((H).ldI .u8 t1_0 (t1_1 + 0)).bind fun x317122 =>
      sel (x317122 != (1 : Int)) (
        kN t4 t5 t6 true true H) (
        ((H).ldI .u8 t1_0 (t1_1 + 3)).bind fun x317123 =>
        sel (x317123 == (2 : Int)) (
          kN t4 t5 t6 true true H) (
          ((H).ldI .u8 t1_0 (t1_1 + 3)).bind fun x317124 =>
          kN t4 t5 t6 true (x317124 == (3 : Int)) H))) (
      ((H).ldI .u8 t1_0 (t1_1 + 6)).bind fun x317125 =>
      ((H).ldI .u8 t1_0 (t1_1 + 0)).bind fun x317126 =>
      sel (x317126 != (1 : Int)) (
        kN t4 t5 t6 (decide (x317125 > (0 : Int))) true H) (
        ((H).ldI .u8 t1_0 (t1_1 + 3)).bind fun x317127 =>
        sel (x317127 == (2 : Int)) (
          kN t4 t5 t6 (decide (x317125 > (0 : Int))) true H) (
          ((H).ldI .u8 t1_0 (t1_1 + 3)).bind fun x317128 =>
          kN t4 t5 t6 (decide (x317125 > (0 : Int))) (x317128 == (3 : Int)) H)))) (
    ((H).ldI .u8 t1_0 (t1_1 + 6)).bind fun x317129 =>
    ((H).ldI .u8 t1_0 (t1_1 + 0)).bind fun x317130 =>
    sel (x317130 != (1 : Int)) (
      kN t4 t5 t6 (decide (x317129 > (0 : Int))) true H) (
      ((H).ldI .u8 t1_0 (t1_1 + 3)).bind fun x317131 =>
      sel (x317131 == (2 : Int)) (
        kN t4 t5 t6 (decide (x317129 > (0 : Int))) true H) (
        ((H).ldI .u8 t1_0 (t1_1 + 3)).bind fun x317132 =>
        kN t4 t5 t6 (decide (x317129 > (0 : Int))) (x317132 == (3 : Int)) H)))
theorem g10_p19_eq (a15 : T15) {R : Type} (c2 : Code) (t1_0 : Nat) (t1_1 : Nat) (t4 : Bool) (t5 : Bool) (t6 : Bool) (H : Heap) (K : Ex → Fr → Heap → Option R) : ev Try.prog (E10 a15) loopLim Try.f10.ntmps kp10 (.seq (codeAt [1, 1, 1, 1, 1, 1, 1, 1, 1, 0] b10) (.seq (codeAt [1, 1, 1, 1, 1, 1, 1, 1, 1, 1, 0] b10) c2)) [(1, (V.p (some (t1_0, t1_1)))), (4, (V.b t4)), (5, (V.b t5)), (6, (V.b t6))] H K = g10_p19 a15 R t1_0 t1_1 t4 t5 t6 H (fun t4 t5 t6 t7 t8 H => ev Try.prog (E10 a15) loopLim Try.f10.ntmps kp10 c2 [(4, (V.b t4)), (5, (V.b t5)), (6, (V.b t6)), (7, (V.b t7)), (8, (V.b t8))] H K) := by kernel_rfl
theorem g10_p19_lin {a15 : T15} (la15 : Lin15 a15) {R S : Type} {k : S → Option R} {t1_0 : Nat} {t1_1 : Nat} {t4 : Bool} {t5 : Bool} {t6 : Bool} {H : Heap} {fkN : Bool → Bool → Bool → Bool → Bool → Heap → Option R} {gkN : Bool → Bool → Bool → Bool → Bool → Heap → Option S} (hkN : ∀ t4 t5 t6 t7 t8 H, fkN t4 t5 t6 t7 t8 H = (gkN t4 t5 t6 t7 t8 H).bind k) : g10_p19 a15 R t1_0 t1_1 t4 t5 t6 H fkN = (g10_p19 a15 S t1_0 t1_1 t4 t5 t6 H gkN).bind k := by
  delta g10_p19; exact (
    bl fun x317120 =>
    sl_lin (
      bl fun x317121 =>
      sl_lin (
        bl fun x317122 =>
        sl_lin (
          hkN _ _ _ _ _ _) (
          bl fun x317123 =>
          sl_lin (
            hkN _ _ _ _ _ _) (
            bl fun x317124 =>
            hkN _ _ _ _ _ _))) (
        bl fun x317125 =>
        bl fun x317126 =>
        sl_lin (
          hkN _ _ _ _ _ _) (
          bl fun x317127 =>
          sl_lin (
            hkN _ _ _ _ _ _) (
            bl fun x317128 =>
            hkN _ _ _ _ _ _)))) (
      bl fun x317129 =>
      bl fun x317130 =>
      sl_lin (
        hkN _ _ _ _ _ _) (
        bl fun x317131 =>
        sl_lin (
          hkN _ _ _ _ _ _) (
          bl fun x317132 =>
          hkN _ _ _ _ _ _))))
noncomputable def g10_p20 (a15 : T15) (R : Type) (t4 : Bool) (t5 : Bool) (t6 : Bool) (t7 : Bool) (t8 : Bool) (H : Heap) (kR : Int → Heap → Option R) : Option R :=
  sel (!t4) (
    kR (1 : Int) H) (
    sel (!t5) (
      kR (1 : Int) H) (
      sel (!t6) (
        kR (1 : Int) H) (
        sel (!t7) (
          kR (1 : Int) H) (
          sel (!t8) (
            kR (1 : Int) H) (
            kR (0 : Int) H)))))
theorem g10_p20_eq (a15 : T15) (la15 : Lin15 a15) {R : Type} (t4 : Bool) (t5 : Bool) (t6 : Bool) (t7 : Bool) (t8 : Bool) (H : Heap) (K : Ex → Fr → Heap → Option R) : ev Try.prog (E10 a15) loopLim Try.f10.ntmps kp10 c10_12 [(4, (V.b t4)), (5, (V.b t5)), (6, (V.b t6)), (7, (V.b t7)), (8, (V.b t8))] H K = g10_p20 a15 R t4 t5 t6 t7 t8 H (fun t2 H => K .ret [(2, (V.i .i64 t2))] H) := by kernel_rfl
theorem g10_p20_lin {a15 : T15} (la15 : Lin15 a15) {R S : Type} {k : S → Option R} {t4 : Bool} {t5 : Bool} {t6 : Bool} {t7 : Bool} {t8 : Bool} {H : Heap} {fkR : Int → Heap → Option R} {gkR : Int → Heap → Option S} (hkR : ∀ t2 H, fkR t2 H = (gkR t2 H).bind k) : g10_p20 a15 R t4 t5 t6 t7 t8 H fkR = (g10_p20 a15 S t4 t5 t6 t7 t8 H gkR).bind k := by
  delta g10_p20; exact (
    sl_lin (
      hkR _ _) (
      sl_lin (
        hkR _ _) (
        sl_lin (
          hkR _ _) (
          sl_lin (
            hkR _ _) (
            sl_lin (
              hkR _ _) (
              hkR _ _))))))
noncomputable def g10_p21 (a15 : T15) (R : Type) (t1_0 : Nat) (t1_1 : Nat) (t4 : Bool) (t5 : Bool) (t6 : Bool) (H : Heap) (kR : Int → Heap → Option R) : Option R :=
  g10_p19 a15 R t1_0 t1_1 t4 t5 t6 H (fun t4 t5 t6 t7 t8 H => g10_p20 a15 R t4 t5 t6 t7 t8 H (fun t2 H => kR t2 H))
theorem g10_p21_lin {a15 : T15} (la15 : Lin15 a15) {R S : Type} {k : S → Option R} {t1_0 : Nat} {t1_1 : Nat} {t4 : Bool} {t5 : Bool} {t6 : Bool} {H : Heap} {fkR : Int → Heap → Option R} {gkR : Int → Heap → Option S} (hkR : ∀ t2 H, fkR t2 H = (gkR t2 H).bind k) : g10_p21 a15 R t1_0 t1_1 t4 t5 t6 H fkR = (g10_p21 a15 S t1_0 t1_1 t4 t5 t6 H gkR).bind k := by
  exact g10_p19_lin la15 (fun _ _ _ _ _ _ => g10_p20_lin la15 (fun _ _ => hkR _ _))
theorem g10_p21_eq (a15 : T15) (la15 : Lin15 a15) {R : Type} (t1_0 : Nat) (t1_1 : Nat) (t4 : Bool) (t5 : Bool) (t6 : Bool) (H : Heap) (K : Ex → Fr → Heap → Option R) : ev Try.prog (E10 a15) loopLim Try.f10.ntmps kp10 c10_13 [(1, (V.p (some (t1_0, t1_1)))), (4, (V.b t4)), (5, (V.b t5)), (6, (V.b t6))] H K = g10_p21 a15 R t1_0 t1_1 t4 t5 t6 H (fun t2 H => K .ret [(2, (V.i .i64 t2))] H) := by
  show ev Try.prog (E10 a15) loopLim Try.f10.ntmps kp10 (.seq (codeAt [1, 1, 1, 1, 1, 1, 1, 1, 1, 0] b10) (.seq (codeAt [1, 1, 1, 1, 1, 1, 1, 1, 1, 1, 0] b10) c10_12)) [(1, (V.p (some (t1_0, t1_1)))), (4, (V.b t4)), (5, (V.b t5)), (6, (V.b t6))] H K = _
  delta g10_p21
  exact (g10_p19_eq a15 _ t1_0 t1_1 t4 t5 t6 H K).trans (congrArg (g10_p19 a15 R t1_0 t1_1 t4 t5 t6 H) (funext fun t4 => funext fun t5 => funext fun t6 => funext fun t7 => funext fun t8 => funext fun H => g10_p20_eq a15 la15 t4 t5 t6 t7 t8 H K))
noncomputable def g10_p22 (a15 : T15) (R : Type) (t1_0 : Nat) (t1_1 : Nat) (t4 : Bool) (H : Heap) (kR : Int → Heap → Option R) : Option R :=
  g10_p18 a15 R t1_0 t1_1 t4 H (fun t1_0 t1_1 t4 t5 t6 H => g10_p21 a15 R t1_0 t1_1 t4 t5 t6 H (fun t2 H => kR t2 H))
theorem g10_p22_lin {a15 : T15} (la15 : Lin15 a15) {R S : Type} {k : S → Option R} {t1_0 : Nat} {t1_1 : Nat} {t4 : Bool} {H : Heap} {fkR : Int → Heap → Option R} {gkR : Int → Heap → Option S} (hkR : ∀ t2 H, fkR t2 H = (gkR t2 H).bind k) : g10_p22 a15 R t1_0 t1_1 t4 H fkR = (g10_p22 a15 S t1_0 t1_1 t4 H gkR).bind k := by
  exact g10_p18_lin la15 (fun _ _ _ _ _ _ => g10_p21_lin la15 (fun _ _ => hkR _ _))
theorem g10_p22_eq (a15 : T15) (la15 : Lin15 a15) {R : Type} (t1_0 : Nat) (t1_1 : Nat) (t4 : Bool) (H : Heap) (K : Ex → Fr → Heap → Option R) : ev Try.prog (E10 a15) loopLim Try.f10.ntmps kp10 c10_14 [(1, (V.p (some (t1_0, t1_1)))), (4, (V.b t4))] H K = g10_p22 a15 R t1_0 t1_1 t4 H (fun t2 H => K .ret [(2, (V.i .i64 t2))] H) := by
  show ev Try.prog (E10 a15) loopLim Try.f10.ntmps kp10 (.seq (codeAt [1, 1, 1, 1, 1, 1, 1, 0] b10) (.seq (codeAt [1, 1, 1, 1, 1, 1, 1, 1, 0] b10) c10_13)) [(1, (V.p (some (t1_0, t1_1)))), (4, (V.b t4))] H K = _
  delta g10_p22
  exact (g10_p18_eq a15 _ t1_0 t1_1 t4 H K).trans (congrArg (g10_p18 a15 R t1_0 t1_1 t4 H) (funext fun t1_0 => funext fun t1_1 => funext fun t4 => funext fun t5 => funext fun t6 => funext fun H => g10_p21_eq a15 la15 t1_0 t1_1 t4 t5 t6 H K))
noncomputable def g10_p23 (a15 : T15) (R : Type) (t1_0 : Nat) (t1_1 : Nat) (t3_0 : Nat) (t3_1 : Nat) (H : Heap) (kR : Int → Heap → Option R) : Option R :=
  g10_p17 a15 R t1_0 t1_1 t3_0 t3_1 H (fun t1_0 t1_1 t4 H => g10_p22 a15 R t1_0 t1_1 t4 H (fun t2 H => kR t2 H))
theorem g10_p23_lin {a15 : T15} (la15 : Lin15 a15) {R S : Type} {k : S → Option R} {t1_0 : Nat} {t1_1 : Nat} {t3_0 : Nat} {t3_1 : Nat} {H : Heap} {fkR : Int → Heap → Option R} {gkR : Int → Heap → Option S} (hkR : ∀ t2 H, fkR t2 H = (gkR t2 H).bind k) : g10_p23 a15 R t1_0 t1_1 t3_0 t3_1 H fkR = (g10_p23 a15 S t1_0 t1_1 t3_0 t3_1 H gkR).bind k := by
  exact g10_p17_lin la15 (fun _ _ _ _ => g10_p22_lin la15 (fun _ _ => hkR _ _))
theorem g10_p23_eq (a15 : T15) (la15 : Lin15 a15) {R : Type} (t1_0 : Nat) (t1_1 : Nat) (t3_0 : Nat) (t3_1 : Nat) (H : Heap) (K : Ex → Fr → Heap → Option R) : ev Try.prog (E10 a15) loopLim Try.f10.ntmps kp10 c10_15 [(1, (V.p (some (t1_0, t1_1)))), (3, (V.p (some (t3_0, t3_1))))] H K = g10_p23 a15 R t1_0 t1_1 t3_0 t3_1 H (fun t2 H => K .ret [(2, (V.i .i64 t2))] H) := by
  show ev Try.prog (E10 a15) loopLim Try.f10.ntmps kp10 (.seq (codeAt [1, 1, 1, 1, 1, 1, 0] b10) c10_14) [(1, (V.p (some (t1_0, t1_1)))), (3, (V.p (some (t3_0, t3_1))))] H K = _
  delta g10_p23
  exact (g10_p17_eq a15 _ t1_0 t1_1 t3_0 t3_1 H K).trans (congrArg (g10_p17 a15 R t1_0 t1_1 t3_0 t3_1 H) (funext fun t1_0 => funext fun t1_1 => funext fun t4 => funext fun H => g10_p22_eq a15 la15 t1_0 t1_1 t4 H K))
noncomputable def g10_p24 (a15 : T15) (R : Type) (t1_0 : Nat) (t1_1 : Nat) (t3_0 : Nat) (t3_1 : Nat) (t17 : Int) (H : Heap) (kR : Int → Heap → Option R) : Option R :=
  g10_p16 a15 R t1_0 t1_1 t3_0 t3_1 t17 H (fun t1_0 t1_1 t3_0 t3_1 H => g10_p23 a15 R t1_0 t1_1 t3_0 t3_1 H (fun t2 H => kR t2 H)) (fun t2 H => kR t2 H)
theorem g10_p24_lin {a15 : T15} (la15 : Lin15 a15) {R S : Type} {k : S → Option R} {t1_0 : Nat} {t1_1 : Nat} {t3_0 : Nat} {t3_1 : Nat} {t17 : Int} {H : Heap} {fkR : Int → Heap → Option R} {gkR : Int → Heap → Option S} (hkR : ∀ t2 H, fkR t2 H = (gkR t2 H).bind k) : g10_p24 a15 R t1_0 t1_1 t3_0 t3_1 t17 H fkR = (g10_p24 a15 S t1_0 t1_1 t3_0 t3_1 t17 H gkR).bind k := by
  exact g10_p16_lin la15 (fun _ _ _ _ _ => g10_p23_lin la15 (fun _ _ => hkR _ _)) (fun _ _ => hkR _ _)
theorem g10_p24_eq (a15 : T15) (la15 : Lin15 a15) {R : Type} (t1_0 : Nat) (t1_1 : Nat) (t3_0 : Nat) (t3_1 : Nat) (t17 : Int) (H : Heap) (K : Ex → Fr → Heap → Option R) : ev Try.prog (E10 a15) loopLim Try.f10.ntmps kp10 c10_16 [(1, (V.p (some (t1_0, t1_1)))), (3, (V.p (some (t3_0, t3_1)))), (17, (V.i .u8 t17))] H K = g10_p24 a15 R t1_0 t1_1 t3_0 t3_1 t17 H (fun t2 H => K .ret [(2, (V.i .i64 t2))] H) := by
  show ev Try.prog (E10 a15) loopLim Try.f10.ntmps kp10 (.seq c10_11 c10_15) [(1, (V.p (some (t1_0, t1_1)))), (3, (V.p (some (t3_0, t3_1)))), (17, (V.i .u8 t17))] H K = _
  rw [ev_seq]
  delta g10_p24
  exact (g10_p16_eq a15 la15 t1_0 t1_1 t3_0 t3_1 t17 H (kSeq (fun fr H => ev Try.prog (E10 a15) loopLim Try.f10.ntmps kp10 c10_15 fr H K) K)).trans (congr (congrArg (g10_p16 a15 R t1_0 t1_1 t3_0 t3_1 t17 H) (funext fun t1_0 => funext fun t1_1 => funext fun t3_0 => funext fun t3_1 => funext fun H => (kSeq_n _ _ _ _).trans (g10_p23_eq a15 la15 t1_0 t1_1 t3_0 t3_1 H K))) rfl)
noncomputable def g10_p25 (a15 : T15) (R : Type) (t0_0 : Int) (t0_1 : Int) (t0_2 : Int) (t0_3 : Int) (t0_4 : Int) (t0_5 : Int) (t0_6 : Int) (t0_7 : Sl) (H : Heap) (kR : Int → Heap → Option R) : Option R :=
  g10_p0 a15 R t0_0 t0_1 t0_2 t0_3 t0_4 t0_5 t0_6 t0_7 H (fun t1_0 t1_1 t3_0 t3_1 t17 H => g10_p24 a15 R t1_0 t1_1 t3_0 t3_1 t17 H (fun t2 H => kR t2 H)) (fun t2 H => kR t2 H)
theorem g10_p25_lin {a15 : T15} (la15 : Lin15 a15) {R S : Type} {k : S → Option R} {t0_0 : Int} {t0_1 : Int} {t0_2 : Int} {t0_3 : Int} {t0_4 : Int} {t0_5 : Int} {t0_6 : Int} {t0_7 : Sl} {H : Heap} {fkR : Int → Heap → Option R} {gkR : Int → Heap → Option S} (hkR : ∀ t2 H, fkR t2 H = (gkR t2 H).bind k) : g10_p25 a15 R t0_0 t0_1 t0_2 t0_3 t0_4 t0_5 t0_6 t0_7 H fkR = (g10_p25 a15 S t0_0 t0_1 t0_2 t0_3 t0_4 t0_5 t0_6 t0_7 H gkR).bind k := by
  exact g10_p0_lin la15 (fun _ _ _ _ _ _ => g10_p24_lin la15 (fun _ _ => hkR _ _)) (fun _ _ => hkR _ _)
theorem g10_p25_eq (a15 : T15) (la15 : Lin15 a15) {R : Type} (t0_0 : Int) (t0_1 : Int) (t0_2 : Int) (t0_3 : Int) (t0_4 : Int) (t0_5 : Int) (t0_6 : Int) (t0_7 : Sl) (H : Heap) (K : Ex → Fr → Heap → Option R) : ev Try.prog (E10 a15) loopLim Try.f10.ntmps kp10 c10_17 [(0, (V.agg [(V.i .u8 t0_0), (V.i .u32 t0_1), (V.i .u32 t0_2), (V.i .u8 t0_3), (V.i .u8 t0_4), (V.i .u8 t0_5), (V.i .u8 t0_6), (V.sl t0_7)]))] H K = g10_p25 a15 R t0_0 t0_1 t0_2 t0_3 t0_4 t0_5 t0_6 t0_7 H (fun t2 H => K .ret [(2, (V.i .i64 t2))] H) := by
  show ev Try.prog (E10 a15) loopLim Try.f10.ntmps kp10 (.seq (codeAt [0] b10) (.seq (codeAt [1, 0, 0] b10) (.seq (.cond (.tmp 12) (.seq (codeAt [1, 0, 1, 0, 0] b10) .ret) .skip) (.seq (codeAt [1, 1, 0] b10) (.seq (codeAt [1, 1, 1, 0] b10) (.seq (codeAt [1, 1, 1, 1, 0] b10) (.seq (codeAt [1, 1, 1, 1, 1, 0, 0] b10) c10_16))))))) [(0, (V.agg [(V.i .u8 t0_0), (V.i .u32 t0_1), (V.i .u32 t0_2), (V.i .u8 t0_3), (V.i .u8 t0_4), (V.i .u8 t0_5), (V.i .u8 t0_6), (V.sl t0_7)]))] H K = _
  delta g10_p25
  exact (g10_p0_eq a15 _ t0_0 t0_1 t0_2 t0_3 t0_4 t0_5 t0_6 t0_7 H K).trans (congr (congrArg (g10_p0 a15 R t0_0 t0_1 t0_2 t0_3 t0_4 t0_5 t0_6 t0_7 H) (funext fun t1_0 => funext fun t1_1 => funext fun t3_0 => funext fun t3_1 => funext fun t17 => funext fun H => g10_p24_eq a15 la15 t1_0 t1_1 t3_0 t3_1 t17 H K)) rfl)
noncomputable def g10_r (a15 : T15) : T10 := fun R t0_0 t0_1 t0_2 t0_3 t0_4 t0_5 t0_6 t0_7 H K =>
  g10_p25 a15 R t0_0 t0_1 t0_2 t0_3 t0_4 t0_5 t0_6 t0_7 H (fun t2 H =>
    K t2 H)
theorem g10_r_lin {a15 : T15} (la15 : Lin15 a15) : Lin10 (g10_r a15) := by
  constructor
  intro R S k t0_0 t0_1 t0_2 t0_3 t0_4 t0_5 t0_6 t0_7 H f g h
  exact g10_p25_lin la15 (fun t2 H =>
    h _ _)
theorem g10_fn (a15 : T15) (la15 : Lin15 a15) {R : Type} (t0_0 : Int) (t0_1 : Int) (t0_2 : Int) (t0_3 : Int) (t0_4 : Int) (t0_5 : Int) (t0_6 : Int) (t0_7 : Sl) (H : Heap) (K : V → Heap → Option R) : evFn Try.prog (E10 a15) loopLim Try.f10 kp10 [(V.agg [(V.i .u8 t0_0), (V.i .u32 t0_1), (V.i .u32 t0_2), (V.i .u8 t0_3), (V.i .u8 t0_4), (V.i .u8 t0_5), (V.i .u8 t0_6), (V.sl t0_7)])] H K = g10_r a15 R t0_0 t0_1 t0_2 t0_3 t0_4 t0_5 t0_6 t0_7 H (fun r0 H => K (V.i .i64 r0) H) := by
  have h0 : ∀ (t2 : Int) (H : Heap), kFn Try.prog Try.f10.results.toList K .ret [(2, (V.i .i64 t2))] H =
      K (V.i .i64 t2) H := by intros; kernel_rfl
  have e0 := evFn_code2 (P := Try.prog) (c := c10_17) (E := (E10 a15)) (lr := loopLim) (kp := kp10) (fn := Try.f10) (args := [(V.agg [(V.i .u8 t0_0), (V.i .u32 t0_1), (V.i .u32 t0_2), (V.i .u8 t0_3), (V.i .u8 t0_4), (V.i .u8 t0_5), (V.i .u8 t0_6), (V.sl t0_7)])]) H K (by kernel_rfl) (Nat.le_of_ble_eq_true (by kernel_rfl)) (by kernel_rfl)
  have e1 : ev Try.prog (E10 a15) loopLim Try.f10.ntmps kp10 c10_17 (argFr 0 [(V.agg [(V.i .u8 t0_0), (V.i .u32 t0_1), (V.i .u32 t0_2), (V.i .u8 t0_3), (V.i .u8 t0_4), (V.i .u8 t0_5), (V.i .u8 t0_6), (V.sl t0_7)])]) H (kFn Try.prog Try.f10.results.toList K) = ev Try.prog (E10 a15) loopLim Try.f10.ntmps kp10 c10_17 [(0, (V.agg [(V.i .u8 t0_0), (V.i .u32 t0_1), (V.i .u32 t0_2), (V.i .u8 t0_3), (V.i .u8 t0_4), (V.i .u8 t0_5), (V.i .u8 t0_6), (V.sl t0_7)]))] H (kFn Try.prog Try.f10.results.toList K) := by kernel_rfl
  refine (e0.trans e1).trans ?_
  delta g10_r
  exact (g10_p25_eq a15 la15 t0_0 t0_1 t0_2 t0_3 t0_4 t0_5 t0_6 t0_7 H (kFn Try.prog Try.f10.results.toList K)).trans (congrArg (g10_p25 a15 R t0_0 t0_1 t0_2 t0_3 t0_4 t0_5 t0_6 t0_7 H) (funext fun t2 => funext fun H => h0 t2 H))
theorem g10_ok {a15 : T15} (oa15 : FunOK Try.prog 15 (w15 a15)) (la15 : Lin15 a15) : FunOK Try.prog 10 (w10 (g10_r a15)) := by
  refine (runF_ok (E10_good oa15 la15) mixed lim_ok Try.func10 (by kernel_rfl) kp10).of_le fun R args H K r hk => ?_
  unfold w10 at hk
  split at hk
  · exact (g10_fn a15 la15 _ _ _ _ _ _ _ _ H K).trans hk
  · cases hk
end Go.Proofs.Ytnlfkllnmobppaa

