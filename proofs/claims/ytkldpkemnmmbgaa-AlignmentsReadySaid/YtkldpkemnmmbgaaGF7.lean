/- Printed: functions as the machine runs them. -/
import Derived.Test.YtkldpkemnmmbgaaGT
namespace Go.Proofs.Ytkldpkemnmmbgaa
open Go AM Go.RowKit
set_option linter.unusedVariables false
def kp21 : Nat → Option (List Nat) := kpOf [(0, [0, 1]), (1, [0, 1, 5]), (2, [0, 1, 5, 6]), (3, [0, 1, 5, 6, 7]), (4, [0, 1, 5, 6, 7, 22]), (5, [0, 1, 30]), (6, [4]), (7, [0]), (8, [0]), (9, [0]), (10, [0]), (11, []), (12, [0, 1, 5, 6, 7, 57]), (13, []), (14, [0, 1, 5, 6, 7, 62]), (15, [0]), (16, [0, 110]), (17, [0, 120]), (18, []), (19, []), (20, [0, 1, 5, 6, 7, 125]), (21, [0, 6]), (22, [0, 150]), (23, []), (24, [0, 157]), (25, []), (26, [0, 5, 6, 7, 160]), (27, [0, 5, 6, 7, 163]), (28, [4]), (29, [0, 5, 6, 7, 166]), (30, [0]), (31, []), (32, [0, 5, 6, 7, 179]), (33, []), (34, [0, 5, 6, 7, 192]), (35, [0]), (36, []), (37, [0, 5, 6, 205]), (38, []), (39, [0, 214]), (40, [0]), (41, []), (42, [4]), (100000, []), (200000, [0, 1, 5, 6, 7]), (300000, [4]), (400022, []), (400030, [0, 1]), (400057, []), (400062, []), (400110, []), (400120, []), (400125, []), (400150, []), (400157, []), (400160, []), (400163, []), (400166, []), (400179, []), (400192, []), (400205, []), (400214, [])]
def E21 (a34 : T34) (a35 : T35) (a36 : T36) : FEnv := [(34, w34 a34), (35, w35 a35), (36, w36 a36)]
theorem E21_good {a34 : T34} {a35 : T35} {a36 : T36} (oa34 : FunOK Try.prog 34 (w34 a34)) (oa35 : FunOK Try.prog 35 (w35 a35)) (oa36 : FunOK Try.prog 36 (w36 a36)) (la34 : Lin34 a34) (la35 : Lin35 a35) (la36 : Lin36 a36) : EnvGood Try.prog (E21 a34 a35 a36) := ((((EnvGood.nil _).cons oa36 (w36_lin la36)).cons oa35 (w35_lin la35)).cons oa34 (w34_lin la34))
theorem E21_lin {a34 : T34} {a35 : T35} {a36 : T36} (la34 : Lin34 a34) (la35 : Lin35 a35) (la36 : Lin36 a36) : EnvLin (E21 a34 a35 a36) := by
  intro g F h
  simp only [E21, List.mem_cons, List.not_mem_nil, or_false] at h
  rcases h with h | h | h
  · cases h; exact w34_lin la34
  · cases h; exact w35_lin la35
  · cases h; exact w36_lin la36
noncomputable def b21 : Code := Try.f21.body.getD .skip
noncomputable def c21_0 : Code := (.seq (codeAt [1, 1, 1, 1, 0, 0, 1, 0, 0, 0] b21) (.seq (.cond (.tmp 30) (.seq (codeAt [1, 1, 1, 1, 0, 0, 1, 0, 0, 1, 0, 0] b21) .ret) .skip) (.seq (codeAt [1, 1, 1, 1, 0, 0, 1, 0, 1, 0] b21) (.seq (codeAt [1, 1, 1, 1, 0, 0, 1, 0, 1, 1, 0] b21) (.seq (codeAt [1, 1, 1, 1, 0, 0, 1, 0, 1, 1, 1, 0] b21) (.seq (codeAt [1, 1, 1, 1, 0, 0, 1, 0, 1, 1, 1, 1, 0] b21) (codeAt [1, 1, 1, 1, 0, 0, 1, 0, 1, 1, 1, 1, 1] b21)))))))
noncomputable def c21_1 : Code := (codeAt [1, 1, 1, 1, 0, 0, 1, 1, 1, 0] b21)
noncomputable def c21_2 : Code := (.seq (codeAt [1, 1, 1, 1, 0, 0, 1, 1, 1, 1, 1, 0, 0] b21) (.seq (codeAt [1, 1, 1, 1, 0, 0, 1, 1, 1, 1, 1, 0, 1, 0] b21) (.cond (.tmp 110) (.seq (codeAt [1, 1, 1, 1, 0, 0, 1, 1, 1, 1, 1, 0, 1, 1, 0, 0] b21) (.cond (.tmp 120) (codeAt [1, 1, 1, 1, 0, 0, 1, 1, 1, 1, 1, 0, 1, 1, 0, 1, 0] b21) (codeAt [1, 1, 1, 1, 0, 0, 1, 1, 1, 1, 1, 0, 1, 1, 0, 1, 1] b21))) .skip)))
noncomputable def c21_3 : Code := (.seq (codeAt [1, 1, 1, 1, 0, 0, 1, 1, 1, 1, 1, 1, 1, 0, 0] b21) (.seq (codeAt [1, 1, 1, 1, 0, 0, 1, 1, 1, 1, 1, 1, 1, 0, 1, 0] b21) (.cond (.tmp 150) (codeAt [1, 1, 1, 1, 0, 0, 1, 1, 1, 1, 1, 1, 1, 0, 1, 1, 0] b21) (.seq (codeAt [1, 1, 1, 1, 0, 0, 1, 1, 1, 1, 1, 1, 1, 0, 1, 1, 1, 0] b21) (.cond (.tmp 157) (codeAt [1, 1, 1, 1, 0, 0, 1, 1, 1, 1, 1, 1, 1, 0, 1, 1, 1, 1, 0] b21) .skip)))))
noncomputable def c21_4 : Code := .skip
noncomputable def c21_5 : Code := (.seq (codeAt [1, 1, 1, 1, 0, 0, 1, 1, 1, 1, 1, 1, 1, 1, 1, 1, 1, 0, 0] b21) .ret)
noncomputable def c21_6 : Code := (.seq (codeAt [1, 1, 1, 1, 0, 0, 1, 1, 1, 1, 1, 1, 1, 1, 1, 1, 1, 1, 1, 0, 0] b21) (codeAt [1, 1, 1, 1, 0, 0, 1, 1, 1, 1, 1, 1, 1, 1, 1, 1, 1, 1, 1, 0, 1] b21))
noncomputable def c21_7 : Code := (.cond (.tmp 179) (codeAt [1, 1, 1, 1, 0, 0, 1, 1, 1, 1, 1, 1, 1, 1, 1, 1, 1, 1, 1, 1, 1, 0] b21) (.seq (codeAt [1, 1, 1, 1, 0, 0, 1, 1, 1, 1, 1, 1, 1, 1, 1, 1, 1, 1, 1, 1, 1, 1, 0] b21) (.cond (.tmp 192) (.seq (codeAt [1, 1, 1, 1, 0, 0, 1, 1, 1, 1, 1, 1, 1, 1, 1, 1, 1, 1, 1, 1, 1, 1, 1, 0, 0] b21) (codeAt [1, 1, 1, 1, 0, 0, 1, 1, 1, 1, 1, 1, 1, 1, 1, 1, 1, 1, 1, 1, 1, 1, 1, 0, 1] b21)) (.seq (codeAt [1, 1, 1, 1, 0, 0, 1, 1, 1, 1, 1, 1, 1, 1, 1, 1, 1, 1, 1, 1, 1, 1, 1, 1, 0] b21) (.cond (.tmp 205) (codeAt [1, 1, 1, 1, 0, 0, 1, 1, 1, 1, 1, 1, 1, 1, 1, 1, 1, 1, 1, 1, 1, 1, 1, 1, 1, 0] b21) (.seq (codeAt [1, 1, 1, 1, 0, 0, 1, 1, 1, 1, 1, 1, 1, 1, 1, 1, 1, 1, 1, 1, 1, 1, 1, 1, 1, 1, 0] b21) (.cond (.tmp 214) (.seq (codeAt [1, 1, 1, 1, 0, 0, 1, 1, 1, 1, 1, 1, 1, 1, 1, 1, 1, 1, 1, 1, 1, 1, 1, 1, 1, 1, 1, 0, 0] b21) (codeAt [1, 1, 1, 1, 0, 0, 1, 1, 1, 1, 1, 1, 1, 1, 1, 1, 1, 1, 1, 1, 1, 1, 1, 1, 1, 1, 1, 0, 1] b21)) .skip)))))))
noncomputable def c21_8 : Code := (.seq (codeAt [1, 1, 1, 1, 0, 0, 1, 1, 1, 1, 1, 1, 1, 1, 1, 1, 1, 1, 1, 1, 0] b21) c21_7)
noncomputable def c21_9 : Code := (.cond (.tmp 166) c21_6 c21_8)
noncomputable def c21_10 : Code := (.seq (codeAt [1, 1, 1, 1, 0, 0, 1, 1, 1, 1, 1, 1, 1, 1, 1, 1, 1, 1, 0] b21) c21_9)
noncomputable def c21_11 : Code := (.cond (.tmp 163) c21_5 c21_10)
noncomputable def c21_12 : Code := (.seq (codeAt [1, 1, 1, 1, 0, 0, 1, 1, 1, 1, 1, 1, 1, 1, 1, 1, 0] b21) c21_11)
noncomputable def c21_13 : Code := (.cond (.tmp 160) c21_4 c21_12)
noncomputable def c21_14 : Code := (.seq (codeAt [1, 1, 1, 1, 0, 0, 1, 1, 1, 1, 1, 1, 1, 1, 0] b21) c21_13)
noncomputable def c21_15 : Code := (.cond (.tmp 125) c21_3 c21_14)
noncomputable def c21_16 : Code := (.seq (codeAt [1, 1, 1, 1, 0, 0, 1, 1, 1, 1, 1, 1, 0] b21) c21_15)
noncomputable def c21_17 : Code := (.cond (.tmp 62) c21_2 c21_16)
noncomputable def c21_18 : Code := (.seq (codeAt [1, 1, 1, 1, 0, 0, 1, 1, 1, 1, 0] b21) c21_17)
noncomputable def c21_19 : Code := (.cond (.tmp 57) c21_1 c21_18)
noncomputable def c21_20 : Code := (.seq (codeAt [1, 1, 1, 1, 0, 0, 1, 1, 0] b21) c21_19)
noncomputable def c21_21 : Code := (.cond (.tmp 22) c21_0 c21_20)
noncomputable def c21_22 : Code := (.seq (codeAt [1, 1, 1, 1, 0, 0, 0] b21) c21_21)
noncomputable def c21_23 : Code := (.block 0 c21_22)
noncomputable def c21_24 : Code := (.seq (codeAt [1, 1, 1, 1, 1, 0] b21) .ret)
noncomputable def c21_25 : Code := (.seq c21_23 c21_24)
noncomputable def c21_26 : Code := (.seq (codeAt [0] b21) (.seq (codeAt [1, 0] b21) (.seq (codeAt [1, 1, 0] b21) (.seq (codeAt [1, 1, 1, 0] b21) c21_25))))
noncomputable def g21_p0 (a34 : T34) (a35 : T35) (a36 : T36) (R : Type) (t0 : Option (Nat × Nat)) (t1 : Int) (H : Heap) (kN : Option (Nat × Nat) → Int → Int → Int → Bool → Heap → Option R) : Option R :=
  (t0).bind fun q1735 =>
  ((H).ldI .u8 q1735.1 (q1735.2 + 7)).bind fun x1736 =>
  (t0).bind fun q1737 =>
  ((H).ldB q1737.1 (q1737.2 + 10)).bind fun x1738 =>
  sel x1738 (
    kN t0 t1 (IntKind.wrap .u8 (t1 - (8 : Int))) x1736 true H) (
    kN t0 t1 (IntKind.wrap .u8 (t1 - (8 : Int))) x1736 ((IntKind.wrap .u8 (t1 - (8 : Int))) == (2 : Int)) H)
theorem g21_p0_eq (a34 : T34) (a35 : T35) (a36 : T36) {R : Type} (c2 : Code) (t0 : Option (Nat × Nat)) (t1 : Int) (H : Heap) (K : Ex → Fr → Heap → Option R) : ev Try.prog (E21 a34 a35 a36) loopLim Try.f21.ntmps kp21 (.seq (codeAt [0] b21) (.seq (codeAt [1, 0] b21) (.seq (codeAt [1, 1, 0] b21) (.seq (codeAt [1, 1, 1, 0] b21) c2)))) [(0, (V.p t0)), (1, (V.i .u8 t1))] H K = g21_p0 a34 a35 a36 R t0 t1 H (fun t0 t1 t5 t6 t7 H => ev Try.prog (E21 a34 a35 a36) loopLim Try.f21.ntmps kp21 c2 [(0, (V.p t0)), (1, (V.i .u8 t1)), (5, (V.i .u8 t5)), (6, (V.i .u8 t6)), (7, (V.b t7))] H K) := by kernel_rfl
theorem g21_p0_lin {a34 : T34} {a35 : T35} {a36 : T36} (la34 : Lin34 a34) (la35 : Lin35 a35) (la36 : Lin36 a36) {R S : Type} {k : S → Option R} {t0 : Option (Nat × Nat)} {t1 : Int} {H : Heap} {fkN : Option (Nat × Nat) → Int → Int → Int → Bool → Heap → Option R} {gkN : Option (Nat × Nat) → Int → Int → Int → Bool → Heap → Option S} (hkN : ∀ t0 t1 t5 t6 t7 H, fkN t0 t1 t5 t6 t7 H = (gkN t0 t1 t5 t6 t7 H).bind k) : g21_p0 a34 a35 a36 R t0 t1 H fkN = (g21_p0 a34 a35 a36 S t0 t1 H gkN).bind k := by
  delta g21_p0; exact (
    bl fun q1735 =>
    bl fun x1736 =>
    bl fun q1737 =>
    bl fun x1738 =>
    sl_lin (
      hkN _ _ _ _ _ _) (
      hkN _ _ _ _ _ _))
noncomputable def g21_p1 (a34 : T34) (a35 : T35) (a36 : T36) (R : Type) (t0 : Option (Nat × Nat)) (t1 : Int) (t5 : Int) (t6 : Int) (t7 : Bool) (H : Heap) (kN : Option (Nat × Nat) → Int → Int → Int → Bool → Bool → Heap → Option R) : Option R :=
  kN t0 t1 t5 t6 t7 (decide (t1 < (2 : Int))) H
theorem g21_p1_eq (a34 : T34) (a35 : T35) (a36 : T36) {R : Type} (c2 : Code) (t0 : Option (Nat × Nat)) (t1 : Int) (t5 : Int) (t6 : Int) (t7 : Bool) (H : Heap) (K : Ex → Fr → Heap → Option R) : ev Try.prog (E21 a34 a35 a36) loopLim Try.f21.ntmps kp21 (.seq (codeAt [1, 1, 1, 1, 0, 0, 0] b21) c2) [(0, (V.p t0)), (1, (V.i .u8 t1)), (5, (V.i .u8 t5)), (6, (V.i .u8 t6)), (7, (V.b t7))] H K = g21_p1 a34 a35 a36 R t0 t1 t5 t6 t7 H (fun t0 t1 t5 t6 t7 t22 H => ev Try.prog (E21 a34 a35 a36) loopLim Try.f21.ntmps kp21 c2 [(0, (V.p t0)), (1, (V.i .u8 t1)), (5, (V.i .u8 t5)), (6, (V.i .u8 t6)), (7, (V.b t7)), (22, (V.b t22))] H K) := by kernel_rfl
theorem g21_p1_lin {a34 : T34} {a35 : T35} {a36 : T36} (la34 : Lin34 a34) (la35 : Lin35 a35) (la36 : Lin36 a36) {R S : Type} {k : S → Option R} {t0 : Option (Nat × Nat)} {t1 : Int} {t5 : Int} {t6 : Int} {t7 : Bool} {H : Heap} {fkN : Option (Nat × Nat) → Int → Int → Int → Bool → Bool → Heap → Option R} {gkN : Option (Nat × Nat) → Int → Int → Int → Bool → Bool → Heap → Option S} (hkN : ∀ t0 t1 t5 t6 t7 t22 H, fkN t0 t1 t5 t6 t7 t22 H = (gkN t0 t1 t5 t6 t7 t22 H).bind k) : g21_p1 a34 a35 a36 R t0 t1 t5 t6 t7 H fkN = (g21_p1 a34 a35 a36 S t0 t1 t5 t6 t7 H gkN).bind k := by
  delta g21_p1; exact (
    hkN _ _ _ _ _ _ _)
noncomputable def g21_p2 (a34 : T34) (a35 : T35) (a36 : T36) (R : Type) (t0 : Option (Nat × Nat)) (t1 : Int) (t5 : Int) (t6 : Int) (t7 : Bool) (t22 : Bool) (H : Heap) (kN : Heap → Option R) (kR : Int → Heap → Option R) : Option R :=
  sel (t6 != (0 : Int)) (
    sel (t6 != (5 : Int)) (
      kR (6 : Int) H) (
      (t0).bind fun q7791 =>
      ((H).st q7791.1 (q7791.2 + 9) (V.b (t1 == (1 : Int)))).bind fun h7793 =>
      (t0).bind fun q7794 =>
      ((h7793).ldB q7794.1 (q7794.2 + 9)).bind fun x7795 =>
      (t0).bind fun q7796 =>
      ((h7793).st q7796.1 (q7796.2 + 10) (V.b x7795)).bind fun h7798 =>
      (t0).bind fun q7799 =>
      ((h7798).st q7799.1 (q7799.2 + 11) (V.i .i64 (0 : Int))).bind fun h7801 =>
      (t0).bind fun q7802 =>
      ((h7801).st q7802.1 (q7802.2 + 7) (V.i .u8 (1 : Int))).bind fun h7804 =>
      (t0).bind fun q7805 =>
      ((h7804).ldI .i64 q7805.1 ((q7805.2 + 0) + 0)).bind fun x7806 =>
      (t0).bind fun q7807 =>
      ((h7804).st q7807.1 (q7807.2 + 8) (V.i .i64 x7806)).bind fun h7809 =>
      kN h7809)) (
    (t0).bind fun q7810 =>
    ((H).st q7810.1 (q7810.2 + 9) (V.b (t1 == (1 : Int)))).bind fun h7812 =>
    (t0).bind fun q7813 =>
    ((h7812).ldB q7813.1 (q7813.2 + 9)).bind fun x7814 =>
    (t0).bind fun q7815 =>
    ((h7812).st q7815.1 (q7815.2 + 10) (V.b x7814)).bind fun h7817 =>
    (t0).bind fun q7818 =>
    ((h7817).st q7818.1 (q7818.2 + 11) (V.i .i64 (0 : Int))).bind fun h7820 =>
    (t0).bind fun q7821 =>
    ((h7820).st q7821.1 (q7821.2 + 7) (V.i .u8 (1 : Int))).bind fun h7823 =>
    (t0).bind fun q7824 =>
    ((h7823).ldI .i64 q7824.1 ((q7824.2 + 0) + 0)).bind fun x7825 =>
    (t0).bind fun q7826 =>
    ((h7823).st q7826.1 (q7826.2 + 8) (V.i .i64 x7825)).bind fun h7828 =>
    kN h7828)
theorem g21_p2_eq (a34 : T34) (a35 : T35) (a36 : T36) (la34 : Lin34 a34) (la35 : Lin35 a35) (la36 : Lin36 a36) {R : Type} (t0 : Option (Nat × Nat)) (t1 : Int) (t5 : Int) (t6 : Int) (t7 : Bool) (t22 : Bool) (H : Heap) (K : Ex → Fr → Heap → Option R) : ev Try.prog (E21 a34 a35 a36) loopLim Try.f21.ntmps kp21 c21_0 [(0, (V.p t0)), (1, (V.i .u8 t1)), (5, (V.i .u8 t5)), (6, (V.i .u8 t6)), (7, (V.b t7)), (22, (V.b t22))] H K = g21_p2 a34 a35 a36 R t0 t1 t5 t6 t7 t22 H (fun H => K .normal [] H) (fun t4 H => K .ret [(4, (V.i .i64 t4))] H) := by kernel_rfl
theorem g21_p2_lin {a34 : T34} {a35 : T35} {a36 : T36} (la34 : Lin34 a34) (la35 : Lin35 a35) (la36 : Lin36 a36) {R S : Type} {k : S → Option R} {t0 : Option (Nat × Nat)} {t1 : Int} {t5 : Int} {t6 : Int} {t7 : Bool} {t22 : Bool} {H : Heap} {fkN : Heap → Option R} {gkN : Heap → Option S} {fkR : Int → Heap → Option R} {gkR : Int → Heap → Option S} (hkN : ∀ H, fkN H = (gkN H).bind k) (hkR : ∀ t4 H, fkR t4 H = (gkR t4 H).bind k) : g21_p2 a34 a35 a36 R t0 t1 t5 t6 t7 t22 H fkN fkR = (g21_p2 a34 a35 a36 S t0 t1 t5 t6 t7 t22 H gkN gkR).bind k := by
  delta g21_p2; exact (
    sl_lin (
      sl_lin (
        hkR _ _) (
        bl fun q7791 =>
        bl fun h7793 =>
        bl fun q7794 =>
        bl fun x7795 =>
        bl fun q7796 =>
        bl fun h7798 =>
        bl fun q7799 =>
        bl fun h7801 =>
        bl fun q7802 =>
        bl fun h7804 =>
        bl fun q7805 =>
        bl fun x7806 =>
        bl fun q7807 =>
        bl fun h7809 =>
        hkN _)) (
      bl fun q7810 =>
      bl fun h7812 =>
      bl fun q7813 =>
      bl fun x7814 =>
      bl fun q7815 =>
      bl fun h7817 =>
      bl fun q7818 =>
      bl fun h7820 =>
      bl fun q7821 =>
      bl fun h7823 =>
      bl fun q7824 =>
      bl fun x7825 =>
      bl fun q7826 =>
      bl fun h7828 =>
      hkN _))
noncomputable def g21_p3 (a34 : T34) (a35 : T35) (a36 : T36) (R : Type) (t0 : Option (Nat × Nat)) (t1 : Int) (t5 : Int) (t6 : Int) (t7 : Bool) (t22 : Bool) (H : Heap) (kN : Option (Nat × Nat) → Int → Int → Int → Bool → Bool → Heap → Option R) : Option R :=
  kN t0 t1 t5 t6 t7 (t1 == (2 : Int)) H
theorem g21_p3_eq (a34 : T34) (a35 : T35) (a36 : T36) {R : Type} (c2 : Code) (t0 : Option (Nat × Nat)) (t1 : Int) (t5 : Int) (t6 : Int) (t7 : Bool) (t22 : Bool) (H : Heap) (K : Ex → Fr → Heap → Option R) : ev Try.prog (E21 a34 a35 a36) loopLim Try.f21.ntmps kp21 (.seq (codeAt [1, 1, 1, 1, 0, 0, 1, 1, 0] b21) c2) [(0, (V.p t0)), (1, (V.i .u8 t1)), (5, (V.i .u8 t5)), (6, (V.i .u8 t6)), (7, (V.b t7)), (22, (V.b t22))] H K = g21_p3 a34 a35 a36 R t0 t1 t5 t6 t7 t22 H (fun t0 t1 t5 t6 t7 t57 H => ev Try.prog (E21 a34 a35 a36) loopLim Try.f21.ntmps kp21 c2 [(0, (V.p t0)), (1, (V.i .u8 t1)), (5, (V.i .u8 t5)), (6, (V.i .u8 t6)), (7, (V.b t7)), (57, (V.b t57))] H K) := by kernel_rfl
theorem g21_p3_lin {a34 : T34} {a35 : T35} {a36 : T36} (la34 : Lin34 a34) (la35 : Lin35 a35) (la36 : Lin36 a36) {R S : Type} {k : S → Option R} {t0 : Option (Nat × Nat)} {t1 : Int} {t5 : Int} {t6 : Int} {t7 : Bool} {t22 : Bool} {H : Heap} {fkN : Option (Nat × Nat) → Int → Int → Int → Bool → Bool → Heap → Option R} {gkN : Option (Nat × Nat) → Int → Int → Int → Bool → Bool → Heap → Option S} (hkN : ∀ t0 t1 t5 t6 t7 t57 H, fkN t0 t1 t5 t6 t7 t57 H = (gkN t0 t1 t5 t6 t7 t57 H).bind k) : g21_p3 a34 a35 a36 R t0 t1 t5 t6 t7 t22 H fkN = (g21_p3 a34 a35 a36 S t0 t1 t5 t6 t7 t22 H gkN).bind k := by
  delta g21_p3; exact (
    hkN _ _ _ _ _ _ _)
noncomputable def g21_p4 (a34 : T34) (a35 : T35) (a36 : T36) (R : Type) (t0 : Option (Nat × Nat)) (t1 : Int) (t5 : Int) (t6 : Int) (t7 : Bool) (t57 : Bool) (H : Heap) (kN : Heap → Option R) : Option R :=
  a34 R t0 (0 : Int) H fun h9481 =>
  kN h9481
theorem g21_p4_eq (a34 : T34) (a35 : T35) (a36 : T36) (la34 : Lin34 a34) (la35 : Lin35 a35) (la36 : Lin36 a36) {R : Type} (t0 : Option (Nat × Nat)) (t1 : Int) (t5 : Int) (t6 : Int) (t7 : Bool) (t57 : Bool) (H : Heap) (K : Ex → Fr → Heap → Option R) : ev Try.prog (E21 a34 a35 a36) loopLim Try.f21.ntmps kp21 c21_1 [(0, (V.p t0)), (1, (V.i .u8 t1)), (5, (V.i .u8 t5)), (6, (V.i .u8 t6)), (7, (V.b t7)), (57, (V.b t57))] H K = g21_p4 a34 a35 a36 R t0 t1 t5 t6 t7 t57 H (fun H => K .normal [] H) := by kernel_rfl
theorem g21_p4_lin {a34 : T34} {a35 : T35} {a36 : T36} (la34 : Lin34 a34) (la35 : Lin35 a35) (la36 : Lin36 a36) {R S : Type} {k : S → Option R} {t0 : Option (Nat × Nat)} {t1 : Int} {t5 : Int} {t6 : Int} {t7 : Bool} {t57 : Bool} {H : Heap} {fkN : Heap → Option R} {gkN : Heap → Option S} (hkN : ∀ H, fkN H = (gkN H).bind k) : g21_p4 a34 a35 a36 R t0 t1 t5 t6 t7 t57 H fkN = (g21_p4 a34 a35 a36 S t0 t1 t5 t6 t7 t57 H gkN).bind k := by
  delta g21_p4; exact (
    la34.l fun h9481 =>
    hkN _)
noncomputable def g21_p5 (a34 : T34) (a35 : T35) (a36 : T36) (R : Type) (t0 : Option (Nat × Nat)) (t1 : Int) (t5 : Int) (t6 : Int) (t7 : Bool) (t57 : Bool) (H : Heap) (kN : Option (Nat × Nat) → Int → Int → Int → Bool → Bool → Heap → Option R) : Option R :=
  sel (t1 == (3 : Int)) (
    kN t0 t1 t5 t6 t7 (t6 == (3 : Int)) H) (
    kN t0 t1 t5 t6 t7 false H)
theorem g21_p5_eq (a34 : T34) (a35 : T35) (a36 : T36) {R : Type} (c2 : Code) (t0 : Option (Nat × Nat)) (t1 : Int) (t5 : Int) (t6 : Int) (t7 : Bool) (t57 : Bool) (H : Heap) (K : Ex → Fr → Heap → Option R) : ev Try.prog (E21 a34 a35 a36) loopLim Try.f21.ntmps kp21 (.seq (codeAt [1, 1, 1, 1, 0, 0, 1, 1, 1, 1, 0] b21) c2) [(0, (V.p t0)), (1, (V.i .u8 t1)), (5, (V.i .u8 t5)), (6, (V.i .u8 t6)), (7, (V.b t7)), (57, (V.b t57))] H K = g21_p5 a34 a35 a36 R t0 t1 t5 t6 t7 t57 H (fun t0 t1 t5 t6 t7 t62 H => ev Try.prog (E21 a34 a35 a36) loopLim Try.f21.ntmps kp21 c2 [(0, (V.p t0)), (1, (V.i .u8 t1)), (5, (V.i .u8 t5)), (6, (V.i .u8 t6)), (7, (V.b t7)), (62, (V.b t62))] H K) := by kernel_rfl
theorem g21_p5_lin {a34 : T34} {a35 : T35} {a36 : T36} (la34 : Lin34 a34) (la35 : Lin35 a35) (la36 : Lin36 a36) {R S : Type} {k : S → Option R} {t0 : Option (Nat × Nat)} {t1 : Int} {t5 : Int} {t6 : Int} {t7 : Bool} {t57 : Bool} {H : Heap} {fkN : Option (Nat × Nat) → Int → Int → Int → Bool → Bool → Heap → Option R} {gkN : Option (Nat × Nat) → Int → Int → Int → Bool → Bool → Heap → Option S} (hkN : ∀ t0 t1 t5 t6 t7 t62 H, fkN t0 t1 t5 t6 t7 t62 H = (gkN t0 t1 t5 t6 t7 t62 H).bind k) : g21_p5 a34 a35 a36 R t0 t1 t5 t6 t7 t57 H fkN = (g21_p5 a34 a35 a36 S t0 t1 t5 t6 t7 t57 H gkN).bind k := by
  delta g21_p5; exact (
    sl_lin (
      hkN _ _ _ _ _ _ _) (
      hkN _ _ _ _ _ _ _))
noncomputable def g21_p6 (a34 : T34) (a35 : T35) (a36 : T36) (R : Type) (t0 : Option (Nat × Nat)) (t1 : Int) (t5 : Int) (t6 : Int) (t7 : Bool) (t62 : Bool) (H : Heap) (kN : Heap → Option R) : Option R :=
  (t0).bind fun q10740 =>
  ((H).ldI .i64 q10740.1 (q10740.2 + 12)).bind fun x10741 =>
  (t0).bind fun q10742 =>
  ((H).st q10742.1 (q10742.2 + 12) (V.i .i64 (IntKind.wrap .i64 (x10741 + (1 : Int))))).bind fun h10744 =>
  (t0).bind fun q10745 =>
  ((h10744).ldB q10745.1 (q10745.2 + 10)).bind fun x10746 =>
  sel x10746 (
    (t0).bind fun q10747 =>
    ((h10744).ldI .i64 q10747.1 (q10747.2 + 12)).bind fun x10748 =>
    (t0).bind fun q10749 =>
    ((h10744).ldI .i64 q10749.1 ((q10749.2 + 0) + 5)).bind fun x10750 =>
    sel (x10748 == x10750) (
      (t0).bind fun q10751 =>
      ((h10744).ldI .i64 q10751.1 (q10751.2 + 11)).bind fun x10752 =>
      (t0).bind fun q10753 =>
      ((h10744).ldI .i64 q10753.1 ((q10753.2 + 0) + 6)).bind fun x10754 =>
      sel (decide (x10752 < x10754)) (
        a35 R t0 h10744 fun h10755 =>
        kN h10755) (
        a34 R t0 (5 : Int) h10744 fun h10756 =>
        kN h10756)) (
      (t0).bind fun q10757 =>
      ((h10744).ldB q10757.1 (q10757.2 + 10)).bind fun x10758 =>
      sel (!x10758) (
        (t0).bind fun q10759 =>
        ((h10744).ldI .i64 q10759.1 (q10759.2 + 12)).bind fun x10760 =>
        (t0).bind fun q10761 =>
        ((h10744).ldI .i64 q10761.1 ((q10761.2 + 0) + 4)).bind fun x10762 =>
        sel (x10760 == x10762) (
          (t0).bind fun q10763 =>
          ((h10744).ldI .i64 q10763.1 (q10763.2 + 11)).bind fun x10764 =>
          (t0).bind fun q10765 =>
          ((h10744).ldI .i64 q10765.1 ((q10765.2 + 0) + 6)).bind fun x10766 =>
          sel (decide (x10764 < x10766)) (
            a35 R t0 h10744 fun h10767 =>
            kN h10767) (
            a34 R t0 (5 : Int) h10744 fun h10768 =>
            kN h10768)) (
          kN h10744)) (
        kN h10744))) (
    (t0).bind fun q10769 =>
    ((h10744).ldB q10769.1 (q10769.2 + 10)).bind fun x10770 =>
    sel (!x10770) (
      (t0).bind fun q10771 =>
      ((h10744).ldI .i64 q10771.1 (q10771.2 + 12)).bind fun x10772 =>
      (t0).bind fun q10773 =>
      ((h10744).ldI .i64 q10773.1 ((q10773.2 + 0) + 4)).bind fun x10774 =>
      sel (x10772 == x10774) (
        (t0).bind fun q10775 =>
        ((h10744).ldI .i64 q10775.1 (q10775.2 + 11)).bind fun x10776 =>
        (t0).bind fun q10777 =>
        ((h10744).ldI .i64 q10777.1 ((q10777.2 + 0) + 6)).bind fun x10778 =>
        sel (decide (x10776 < x10778)) (
          a35 R t0 h10744 fun h10779 =>
          kN h10779) (
          a34 R t0 (5 : Int) h10744 fun h10780 =>
          kN h10780)) (
        kN h10744)) (
      kN h10744))
theorem g21_p6_eq (a34 : T34) (a35 : T35) (a36 : T36) (la34 : Lin34 a34) (la35 : Lin35 a35) (la36 : Lin36 a36) {R : Type} (t0 : Option (Nat × Nat)) (t1 : Int) (t5 : Int) (t6 : Int) (t7 : Bool) (t62 : Bool) (H : Heap) (K : Ex → Fr → Heap → Option R) : ev Try.prog (E21 a34 a35 a36) loopLim Try.f21.ntmps kp21 c21_2 [(0, (V.p t0)), (1, (V.i .u8 t1)), (5, (V.i .u8 t5)), (6, (V.i .u8 t6)), (7, (V.b t7)), (62, (V.b t62))] H K = g21_p6 a34 a35 a36 R t0 t1 t5 t6 t7 t62 H (fun H => K .normal [] H) := by kernel_rfl
theorem g21_p6_lin {a34 : T34} {a35 : T35} {a36 : T36} (la34 : Lin34 a34) (la35 : Lin35 a35) (la36 : Lin36 a36) {R S : Type} {k : S → Option R} {t0 : Option (Nat × Nat)} {t1 : Int} {t5 : Int} {t6 : Int} {t7 : Bool} {t62 : Bool} {H : Heap} {fkN : Heap → Option R} {gkN : Heap → Option S} (hkN : ∀ H, fkN H = (gkN H).bind k) : g21_p6 a34 a35 a36 R t0 t1 t5 t6 t7 t62 H fkN = (g21_p6 a34 a35 a36 S t0 t1 t5 t6 t7 t62 H gkN).bind k := by
  delta g21_p6; exact (
    bl fun q10740 =>
    bl fun x10741 =>
    bl fun q10742 =>
    bl fun h10744 =>
    bl fun q10745 =>
    bl fun x10746 =>
    sl_lin (
      bl fun q10747 =>
      bl fun x10748 =>
      bl fun q10749 =>
      bl fun x10750 =>
      sl_lin (
        bl fun q10751 =>
        bl fun x10752 =>
        bl fun q10753 =>
        bl fun x10754 =>
        sl_lin (
          la35.l fun h10755 =>
          hkN _) (
          la34.l fun h10756 =>
          hkN _)) (
        bl fun q10757 =>
        bl fun x10758 =>
        sl_lin (
          bl fun q10759 =>
          bl fun x10760 =>
          bl fun q10761 =>
          bl fun x10762 =>
          sl_lin (
            bl fun q10763 =>
            bl fun x10764 =>
            bl fun q10765 =>
            bl fun x10766 =>
            sl_lin (
              la35.l fun h10767 =>
              hkN _) (
              la34.l fun h10768 =>
              hkN _)) (
            hkN _)) (
          hkN _))) (
      bl fun q10769 =>
      bl fun x10770 =>
      sl_lin (
        bl fun q10771 =>
        bl fun x10772 =>
        bl fun q10773 =>
        bl fun x10774 =>
        sl_lin (
          bl fun q10775 =>
          bl fun x10776 =>
          bl fun q10777 =>
          bl fun x10778 =>
          sl_lin (
            la35.l fun h10779 =>
            hkN _) (
            la34.l fun h10780 =>
            hkN _)) (
          hkN _)) (
        hkN _)))
noncomputable def g21_p7 (a34 : T34) (a35 : T35) (a36 : T36) (R : Type) (t0 : Option (Nat × Nat)) (t1 : Int) (t5 : Int) (t6 : Int) (t7 : Bool) (t62 : Bool) (H : Heap) (kN : Option (Nat × Nat) → Int → Int → Int → Bool → Bool → Heap → Option R) : Option R :=
  sel (t1 == (4 : Int)) (
    (t0).bind fun q11173 =>
    ((H).ldI .i64 q11173.1 (q11173.2 + 8)).bind fun x11174 =>
    kN t0 t1 t5 t6 t7 (decide (x11174 > (0 : Int))) H) (
    kN t0 t1 t5 t6 t7 false H)
theorem g21_p7_eq (a34 : T34) (a35 : T35) (a36 : T36) {R : Type} (c2 : Code) (t0 : Option (Nat × Nat)) (t1 : Int) (t5 : Int) (t6 : Int) (t7 : Bool) (t62 : Bool) (H : Heap) (K : Ex → Fr → Heap → Option R) : ev Try.prog (E21 a34 a35 a36) loopLim Try.f21.ntmps kp21 (.seq (codeAt [1, 1, 1, 1, 0, 0, 1, 1, 1, 1, 1, 1, 0] b21) c2) [(0, (V.p t0)), (1, (V.i .u8 t1)), (5, (V.i .u8 t5)), (6, (V.i .u8 t6)), (7, (V.b t7)), (62, (V.b t62))] H K = g21_p7 a34 a35 a36 R t0 t1 t5 t6 t7 t62 H (fun t0 t1 t5 t6 t7 t125 H => ev Try.prog (E21 a34 a35 a36) loopLim Try.f21.ntmps kp21 c2 [(0, (V.p t0)), (1, (V.i .u8 t1)), (5, (V.i .u8 t5)), (6, (V.i .u8 t6)), (7, (V.b t7)), (125, (V.b t125))] H K) := by kernel_rfl
theorem g21_p7_lin {a34 : T34} {a35 : T35} {a36 : T36} (la34 : Lin34 a34) (la35 : Lin35 a35) (la36 : Lin36 a36) {R S : Type} {k : S → Option R} {t0 : Option (Nat × Nat)} {t1 : Int} {t5 : Int} {t6 : Int} {t7 : Bool} {t62 : Bool} {H : Heap} {fkN : Option (Nat × Nat) → Int → Int → Int → Bool → Bool → Heap → Option R} {gkN : Option (Nat × Nat) → Int → Int → Int → Bool → Bool → Heap → Option S} (hkN : ∀ t0 t1 t5 t6 t7 t125 H, fkN t0 t1 t5 t6 t7 t125 H = (gkN t0 t1 t5 t6 t7 t125 H).bind k) : g21_p7 a34 a35 a36 R t0 t1 t5 t6 t7 t62 H fkN = (g21_p7 a34 a35 a36 S t0 t1 t5 t6 t7 t62 H gkN).bind k := by
  delta g21_p7; exact (
    sl_lin (
      bl fun q11173 =>
      bl fun x11174 =>
      hkN _ _ _ _ _ _ _) (
      hkN _ _ _ _ _ _ _))
noncomputable def g21_p8 (a34 : T34) (a35 : T35) (a36 : T36) (R : Type) (t0 : Option (Nat × Nat)) (t1 : Int) (t5 : Int) (t6 : Int) (t7 : Bool) (t125 : Bool) (H : Heap) (kN : Heap → Option R) : Option R :=
  (t0).bind fun q11377 =>
  ((H).ldI .i64 q11377.1 (q11377.2 + 8)).bind fun x11378 =>
  (t0).bind fun q11379 =>
  ((H).st q11379.1 (q11379.2 + 8) (V.i .i64 (IntKind.wrap .i64 (x11378 - (1 : Int))))).bind fun h11381 =>
  (t0).bind fun q11382 =>
  ((h11381).ldI .i64 q11382.1 (q11382.2 + 8)).bind fun x11383 =>
  sel (x11383 == (0 : Int)) (
    sel (t6 == (3 : Int)) (
      a34 R t0 (4 : Int) h11381 fun h11384 =>
      kN h11384) (
      (t0).bind fun q11385 =>
      ((h11381).ldI .i64 q11385.1 (q11385.2 + 8)).bind fun x11386 =>
      sel (x11386 == (0 : Int)) (
        a34 R t0 (5 : Int) h11381 fun h11387 =>
        kN h11387) (
        kN h11381))) (
    (t0).bind fun q11388 =>
    ((h11381).ldI .i64 q11388.1 (q11388.2 + 8)).bind fun x11389 =>
    sel (x11389 == (0 : Int)) (
      a34 R t0 (5 : Int) h11381 fun h11390 =>
      kN h11390) (
      kN h11381))
theorem g21_p8_eq (a34 : T34) (a35 : T35) (a36 : T36) (la34 : Lin34 a34) (la35 : Lin35 a35) (la36 : Lin36 a36) {R : Type} (t0 : Option (Nat × Nat)) (t1 : Int) (t5 : Int) (t6 : Int) (t7 : Bool) (t125 : Bool) (H : Heap) (K : Ex → Fr → Heap → Option R) : ev Try.prog (E21 a34 a35 a36) loopLim Try.f21.ntmps kp21 c21_3 [(0, (V.p t0)), (1, (V.i .u8 t1)), (5, (V.i .u8 t5)), (6, (V.i .u8 t6)), (7, (V.b t7)), (125, (V.b t125))] H K = g21_p8 a34 a35 a36 R t0 t1 t5 t6 t7 t125 H (fun H => K .normal [] H) := by kernel_rfl
theorem g21_p8_lin {a34 : T34} {a35 : T35} {a36 : T36} (la34 : Lin34 a34) (la35 : Lin35 a35) (la36 : Lin36 a36) {R S : Type} {k : S → Option R} {t0 : Option (Nat × Nat)} {t1 : Int} {t5 : Int} {t6 : Int} {t7 : Bool} {t125 : Bool} {H : Heap} {fkN : Heap → Option R} {gkN : Heap → Option S} (hkN : ∀ H, fkN H = (gkN H).bind k) : g21_p8 a34 a35 a36 R t0 t1 t5 t6 t7 t125 H fkN = (g21_p8 a34 a35 a36 S t0 t1 t5 t6 t7 t125 H gkN).bind k := by
  delta g21_p8; exact (
    bl fun q11377 =>
    bl fun x11378 =>
    bl fun q11379 =>
    bl fun h11381 =>
    bl fun q11382 =>
    bl fun x11383 =>
    sl_lin (
      sl_lin (
        la34.l fun h11384 =>
        hkN _) (
        bl fun q11385 =>
        bl fun x11386 =>
        sl_lin (
          la34.l fun h11387 =>
          hkN _) (
          hkN _))) (
      bl fun q11388 =>
      bl fun x11389 =>
      sl_lin (
        la34.l fun h11390 =>
        hkN _) (
        hkN _)))
noncomputable def g21_p9 (a34 : T34) (a35 : T35) (a36 : T36) (R : Type) (t0 : Option (Nat × Nat)) (t1 : Int) (t5 : Int) (t6 : Int) (t7 : Bool) (t125 : Bool) (H : Heap) (kN : Option (Nat × Nat) → Int → Int → Bool → Bool → Heap → Option R) : Option R :=
  kN t0 t5 t6 t7 (decide (t1 < (8 : Int))) H
theorem g21_p9_eq (a34 : T34) (a35 : T35) (a36 : T36) {R : Type} (c2 : Code) (t0 : Option (Nat × Nat)) (t1 : Int) (t5 : Int) (t6 : Int) (t7 : Bool) (t125 : Bool) (H : Heap) (K : Ex → Fr → Heap → Option R) : ev Try.prog (E21 a34 a35 a36) loopLim Try.f21.ntmps kp21 (.seq (codeAt [1, 1, 1, 1, 0, 0, 1, 1, 1, 1, 1, 1, 1, 1, 0] b21) c2) [(0, (V.p t0)), (1, (V.i .u8 t1)), (5, (V.i .u8 t5)), (6, (V.i .u8 t6)), (7, (V.b t7)), (125, (V.b t125))] H K = g21_p9 a34 a35 a36 R t0 t1 t5 t6 t7 t125 H (fun t0 t5 t6 t7 t160 H => ev Try.prog (E21 a34 a35 a36) loopLim Try.f21.ntmps kp21 c2 [(0, (V.p t0)), (5, (V.i .u8 t5)), (6, (V.i .u8 t6)), (7, (V.b t7)), (160, (V.b t160))] H K) := by kernel_rfl
theorem g21_p9_lin {a34 : T34} {a35 : T35} {a36 : T36} (la34 : Lin34 a34) (la35 : Lin35 a35) (la36 : Lin36 a36) {R S : Type} {k : S → Option R} {t0 : Option (Nat × Nat)} {t1 : Int} {t5 : Int} {t6 : Int} {t7 : Bool} {t125 : Bool} {H : Heap} {fkN : Option (Nat × Nat) → Int → Int → Bool → Bool → Heap → Option R} {gkN : Option (Nat × Nat) → Int → Int → Bool → Bool → Heap → Option S} (hkN : ∀ t0 t5 t6 t7 t160 H, fkN t0 t5 t6 t7 t160 H = (gkN t0 t5 t6 t7 t160 H).bind k) : g21_p9 a34 a35 a36 R t0 t1 t5 t6 t7 t125 H fkN = (g21_p9 a34 a35 a36 S t0 t1 t5 t6 t7 t125 H gkN).bind k := by
  delta g21_p9; exact (
    hkN _ _ _ _ _ _)
noncomputable def g21_p10 (a34 : T34) (a35 : T35) (a36 : T36) (R : Type) (t0 : Option (Nat × Nat)) (t5 : Int) (t6 : Int) (t7 : Bool) (t160 : Bool) (H : Heap) (kN : Option (Nat × Nat) → Int → Int → Bool → Bool → Heap → Option R) : Option R :=
  kN t0 t5 t6 t7 t160 H
theorem g21_p10_eq (a34 : T34) (a35 : T35) (a36 : T36) (la34 : Lin34 a34) (la35 : Lin35 a35) (la36 : Lin36 a36) {R : Type} (t0 : Option (Nat × Nat)) (t5 : Int) (t6 : Int) (t7 : Bool) (t160 : Bool) (H : Heap) (K : Ex → Fr → Heap → Option R) : ev Try.prog (E21 a34 a35 a36) loopLim Try.f21.ntmps kp21 c21_4 [(0, (V.p t0)), (5, (V.i .u8 t5)), (6, (V.i .u8 t6)), (7, (V.b t7)), (160, (V.b t160))] H K = g21_p10 a34 a35 a36 R t0 t5 t6 t7 t160 H (fun t0 t5 t6 t7 t160 H => K .normal [(0, (V.p t0)), (5, (V.i .u8 t5)), (6, (V.i .u8 t6)), (7, (V.b t7)), (160, (V.b t160))] H) := by kernel_rfl
theorem g21_p10_lin {a34 : T34} {a35 : T35} {a36 : T36} (la34 : Lin34 a34) (la35 : Lin35 a35) (la36 : Lin36 a36) {R S : Type} {k : S → Option R} {t0 : Option (Nat × Nat)} {t5 : Int} {t6 : Int} {t7 : Bool} {t160 : Bool} {H : Heap} {fkN : Option (Nat × Nat) → Int → Int → Bool → Bool → Heap → Option R} {gkN : Option (Nat × Nat) → Int → Int → Bool → Bool → Heap → Option S} (hkN : ∀ t0 t5 t6 t7 t160 H, fkN t0 t5 t6 t7 t160 H = (gkN t0 t5 t6 t7 t160 H).bind k) : g21_p10 a34 a35 a36 R t0 t5 t6 t7 t160 H fkN = (g21_p10 a34 a35 a36 S t0 t5 t6 t7 t160 H gkN).bind k := by
  delta g21_p10; exact (
    hkN _ _ _ _ _ _)
noncomputable def g21_p11 (a34 : T34) (a35 : T35) (a36 : T36) (R : Type) (t0 : Option (Nat × Nat)) (t5 : Int) (t6 : Int) (t7 : Bool) (t160 : Bool) (H : Heap) (kN : Option (Nat × Nat) → Int → Int → Bool → Bool → Heap → Option R) : Option R :=
  kN t0 t5 t6 t7 (decide (t5 > (5 : Int))) H
theorem g21_p11_eq (a34 : T34) (a35 : T35) (a36 : T36) {R : Type} (c2 : Code) (t0 : Option (Nat × Nat)) (t5 : Int) (t6 : Int) (t7 : Bool) (t160 : Bool) (H : Heap) (K : Ex → Fr → Heap → Option R) : ev Try.prog (E21 a34 a35 a36) loopLim Try.f21.ntmps kp21 (.seq (codeAt [1, 1, 1, 1, 0, 0, 1, 1, 1, 1, 1, 1, 1, 1, 1, 1, 0] b21) c2) [(0, (V.p t0)), (5, (V.i .u8 t5)), (6, (V.i .u8 t6)), (7, (V.b t7)), (160, (V.b t160))] H K = g21_p11 a34 a35 a36 R t0 t5 t6 t7 t160 H (fun t0 t5 t6 t7 t163 H => ev Try.prog (E21 a34 a35 a36) loopLim Try.f21.ntmps kp21 c2 [(0, (V.p t0)), (5, (V.i .u8 t5)), (6, (V.i .u8 t6)), (7, (V.b t7)), (163, (V.b t163))] H K) := by kernel_rfl
theorem g21_p11_lin {a34 : T34} {a35 : T35} {a36 : T36} (la34 : Lin34 a34) (la35 : Lin35 a35) (la36 : Lin36 a36) {R S : Type} {k : S → Option R} {t0 : Option (Nat × Nat)} {t5 : Int} {t6 : Int} {t7 : Bool} {t160 : Bool} {H : Heap} {fkN : Option (Nat × Nat) → Int → Int → Bool → Bool → Heap → Option R} {gkN : Option (Nat × Nat) → Int → Int → Bool → Bool → Heap → Option S} (hkN : ∀ t0 t5 t6 t7 t163 H, fkN t0 t5 t6 t7 t163 H = (gkN t0 t5 t6 t7 t163 H).bind k) : g21_p11 a34 a35 a36 R t0 t5 t6 t7 t160 H fkN = (g21_p11 a34 a35 a36 S t0 t5 t6 t7 t160 H gkN).bind k := by
  delta g21_p11; exact (
    hkN _ _ _ _ _ _)
noncomputable def g21_p12 (a34 : T34) (a35 : T35) (a36 : T36) (R : Type) (t0 : Option (Nat × Nat)) (t5 : Int) (t6 : Int) (t7 : Bool) (t163 : Bool) (H : Heap) (kR : Int → Heap → Option R) : Option R :=
  kR (1 : Int) H
theorem g21_p12_eq (a34 : T34) (a35 : T35) (a36 : T36) (la34 : Lin34 a34) (la35 : Lin35 a35) (la36 : Lin36 a36) {R : Type} (t0 : Option (Nat × Nat)) (t5 : Int) (t6 : Int) (t7 : Bool) (t163 : Bool) (H : Heap) (K : Ex → Fr → Heap → Option R) : ev Try.prog (E21 a34 a35 a36) loopLim Try.f21.ntmps kp21 c21_5 [(0, (V.p t0)), (5, (V.i .u8 t5)), (6, (V.i .u8 t6)), (7, (V.b t7)), (163, (V.b t163))] H K = g21_p12 a34 a35 a36 R t0 t5 t6 t7 t163 H (fun t4 H => K .ret [(4, (V.i .i64 t4))] H) := by kernel_rfl
theorem g21_p12_lin {a34 : T34} {a35 : T35} {a36 : T36} (la34 : Lin34 a34) (la35 : Lin35 a35) (la36 : Lin36 a36) {R S : Type} {k : S → Option R} {t0 : Option (Nat × Nat)} {t5 : Int} {t6 : Int} {t7 : Bool} {t163 : Bool} {H : Heap} {fkR : Int → Heap → Option R} {gkR : Int → Heap → Option S} (hkR : ∀ t4 H, fkR t4 H = (gkR t4 H).bind k) : g21_p12 a34 a35 a36 R t0 t5 t6 t7 t163 H fkR = (g21_p12 a34 a35 a36 S t0 t5 t6 t7 t163 H gkR).bind k := by
  delta g21_p12; exact (
    hkR _ _)
noncomputable def g21_p13 (a34 : T34) (a35 : T35) (a36 : T36) (R : Type) (t0 : Option (Nat × Nat)) (t5 : Int) (t6 : Int) (t7 : Bool) (t163 : Bool) (H : Heap) (kN : Option (Nat × Nat) → Int → Int → Bool → Bool → Heap → Option R) : Option R :=
  sel (t6 == (1 : Int)) (
    kN t0 t5 t6 t7 (decide (t5 ≤ (2 : Int))) H) (
    kN t0 t5 t6 t7 false H)
theorem g21_p13_eq (a34 : T34) (a35 : T35) (a36 : T36) {R : Type} (c2 : Code) (t0 : Option (Nat × Nat)) (t5 : Int) (t6 : Int) (t7 : Bool) (t163 : Bool) (H : Heap) (K : Ex → Fr → Heap → Option R) : ev Try.prog (E21 a34 a35 a36) loopLim Try.f21.ntmps kp21 (.seq (codeAt [1, 1, 1, 1, 0, 0, 1, 1, 1, 1, 1, 1, 1, 1, 1, 1, 1, 1, 0] b21) c2) [(0, (V.p t0)), (5, (V.i .u8 t5)), (6, (V.i .u8 t6)), (7, (V.b t7)), (163, (V.b t163))] H K = g21_p13 a34 a35 a36 R t0 t5 t6 t7 t163 H (fun t0 t5 t6 t7 t166 H => ev Try.prog (E21 a34 a35 a36) loopLim Try.f21.ntmps kp21 c2 [(0, (V.p t0)), (5, (V.i .u8 t5)), (6, (V.i .u8 t6)), (7, (V.b t7)), (166, (V.b t166))] H K) := by kernel_rfl
theorem g21_p13_lin {a34 : T34} {a35 : T35} {a36 : T36} (la34 : Lin34 a34) (la35 : Lin35 a35) (la36 : Lin36 a36) {R S : Type} {k : S → Option R} {t0 : Option (Nat × Nat)} {t5 : Int} {t6 : Int} {t7 : Bool} {t163 : Bool} {H : Heap} {fkN : Option (Nat × Nat) → Int → Int → Bool → Bool → Heap → Option R} {gkN : Option (Nat × Nat) → Int → Int → Bool → Bool → Heap → Option S} (hkN : ∀ t0 t5 t6 t7 t166 H, fkN t0 t5 t6 t7 t166 H = (gkN t0 t5 t6 t7 t166 H).bind k) : g21_p13 a34 a35 a36 R t0 t5 t6 t7 t163 H fkN = (g21_p13 a34 a35 a36 S t0 t5 t6 t7 t163 H gkN).bind k := by
  delta g21_p13; exact (
    sl_lin (
      hkN _ _ _ _ _ _) (
      hkN _ _ _ _ _ _))
noncomputable def g21_p14 (a34 : T34) (a35 : T35) (a36 : T36) (R : Type) (t0 : Option (Nat × Nat)) (t5 : Int) (t6 : Int) (t7 : Bool) (t166 : Bool) (H : Heap) (kN : Heap → Option R) : Option R :=
  (t0).bind fun q12427 =>
  ((H).st q12427.1 (q12427.2 + 10) (V.b t7)).bind fun h12429 =>
  a36 R t0 h12429 fun h12430 =>
  kN h12430
theorem g21_p14_eq (a34 : T34) (a35 : T35) (a36 : T36) (la34 : Lin34 a34) (la35 : Lin35 a35) (la36 : Lin36 a36) {R : Type} (t0 : Option (Nat × Nat)) (t5 : Int) (t6 : Int) (t7 : Bool) (t166 : Bool) (H : Heap) (K : Ex → Fr → Heap → Option R) : ev Try.prog (E21 a34 a35 a36) loopLim Try.f21.ntmps kp21 c21_6 [(0, (V.p t0)), (5, (V.i .u8 t5)), (6, (V.i .u8 t6)), (7, (V.b t7)), (166, (V.b t166))] H K = g21_p14 a34 a35 a36 R t0 t5 t6 t7 t166 H (fun H => K .normal [] H) := by kernel_rfl
theorem g21_p14_lin {a34 : T34} {a35 : T35} {a36 : T36} (la34 : Lin34 a34) (la35 : Lin35 a35) (la36 : Lin36 a36) {R S : Type} {k : S → Option R} {t0 : Option (Nat × Nat)} {t5 : Int} {t6 : Int} {t7 : Bool} {t166 : Bool} {H : Heap} {fkN : Heap → Option R} {gkN : Heap → Option S} (hkN : ∀ H, fkN H = (gkN H).bind k) : g21_p14 a34 a35 a36 R t0 t5 t6 t7 t166 H fkN = (g21_p14 a34 a35 a36 S t0 t5 t6 t7 t166 H gkN).bind k := by
  delta g21_p14; exact (
    bl fun q12427 =>
    bl fun h12429 =>
    la36.l fun h12430 =>
    hkN _)
noncomputable def g21_p15 (a34 : T34) (a35 : T35) (a36 : T36) (R : Type) (t0 : Option (Nat × Nat)) (t5 : Int) (t6 : Int) (t7 : Bool) (t166 : Bool) (H : Heap) (kN : Option (Nat × Nat) → Int → Int → Bool → Bool → Heap → Option R) : Option R :=
  sel (t6 == (2 : Int)) (
    kN t0 t5 t6 t7 (t5 == (3 : Int)) H) (
    sel (t6 == (3 : Int)) (
      kN t0 t5 t6 t7 (t5 == (3 : Int)) H) (
      kN t0 t5 t6 t7 false H))
theorem g21_p15_eq (a34 : T34) (a35 : T35) (a36 : T36) {R : Type} (c2 : Code) (t0 : Option (Nat × Nat)) (t5 : Int) (t6 : Int) (t7 : Bool) (t166 : Bool) (H : Heap) (K : Ex → Fr → Heap → Option R) : ev Try.prog (E21 a34 a35 a36) loopLim Try.f21.ntmps kp21 (.seq (codeAt [1, 1, 1, 1, 0, 0, 1, 1, 1, 1, 1, 1, 1, 1, 1, 1, 1, 1, 1, 1, 0] b21) c2) [(0, (V.p t0)), (5, (V.i .u8 t5)), (6, (V.i .u8 t6)), (7, (V.b t7)), (166, (V.b t166))] H K = g21_p15 a34 a35 a36 R t0 t5 t6 t7 t166 H (fun t0 t5 t6 t7 t179 H => ev Try.prog (E21 a34 a35 a36) loopLim Try.f21.ntmps kp21 c2 [(0, (V.p t0)), (5, (V.i .u8 t5)), (6, (V.i .u8 t6)), (7, (V.b t7)), (179, (V.b t179))] H K) := by kernel_rfl
theorem g21_p15_lin {a34 : T34} {a35 : T35} {a36 : T36} (la34 : Lin34 a34) (la35 : Lin35 a35) (la36 : Lin36 a36) {R S : Type} {k : S → Option R} {t0 : Option (Nat × Nat)} {t5 : Int} {t6 : Int} {t7 : Bool} {t166 : Bool} {H : Heap} {fkN : Option (Nat × Nat) → Int → Int → Bool → Bool → Heap → Option R} {gkN : Option (Nat × Nat) → Int → Int → Bool → Bool → Heap → Option S} (hkN : ∀ t0 t5 t6 t7 t179 H, fkN t0 t5 t6 t7 t179 H = (gkN t0 t5 t6 t7 t179 H).bind k) : g21_p15 a34 a35 a36 R t0 t5 t6 t7 t166 H fkN = (g21_p15 a34 a35 a36 S t0 t5 t6 t7 t166 H gkN).bind k := by
  delta g21_p15; exact (
    sl_lin (
      hkN _ _ _ _ _ _) (
      sl_lin (
        hkN _ _ _ _ _ _) (
        hkN _ _ _ _ _ _)))
noncomputable def g21_p16 (a34 : T34) (a35 : T35) (a36 : T36) (R : Type) (t0 : Option (Nat × Nat)) (t5 : Int) (t6 : Int) (t7 : Bool) (t179 : Bool) (H : Heap) (kN : Heap → Option R) : Option R :=
  sel t179 (
    a34 R t0 (5 : Int) H fun h12523 =>
    kN h12523) (
    sel (t6 == (2 : Int)) (
      sel (t5 != (0 : Int)) (
        (t0).bind fun q12524 =>
        ((H).st q12524.1 (q12524.2 + 10) (V.b t7)).bind fun h12526 =>
        a35 R t0 h12526 fun h12527 =>
        kN h12527) (
        sel (t6 == (3 : Int)) (
          sel (t5 == (0 : Int)) (
            a36 R t0 H fun h12528 =>
            kN h12528) (
            sel (t6 == (3 : Int)) (
              sel (t5 == (2 : Int)) (
                (t0).bind fun q12529 =>
                ((H).ldB q12529.1 (q12529.2 + 10)).bind fun x12530 =>
                sel (!x12530) (
                  (t0).bind fun q12531 =>
                  ((H).st q12531.1 (q12531.2 + 10) (V.b true)).bind fun h12533 =>
                  a35 R t0 h12533 fun h12534 =>
                  kN h12534) (
                  kN H)) (
                kN H)) (
              kN H))) (
          sel (t6 == (3 : Int)) (
            sel (t5 == (2 : Int)) (
              (t0).bind fun q12535 =>
              ((H).ldB q12535.1 (q12535.2 + 10)).bind fun x12536 =>
              sel (!x12536) (
                (t0).bind fun q12537 =>
                ((H).st q12537.1 (q12537.2 + 10) (V.b true)).bind fun h12539 =>
                a35 R t0 h12539 fun h12540 =>
                kN h12540) (
                kN H)) (
              kN H)) (
            kN H)))) (
      sel (t6 == (3 : Int)) (
        sel (t5 == (0 : Int)) (
          a36 R t0 H fun h12541 =>
          kN h12541) (
          sel (t6 == (3 : Int)) (
            sel (t5 == (2 : Int)) (
              (t0).bind fun q12542 =>
              ((H).ldB q12542.1 (q12542.2 + 10)).bind fun x12543 =>
              sel (!x12543) (
                (t0).bind fun q12544 =>
                ((H).st q12544.1 (q12544.2 + 10) (V.b true)).bind fun h12546 =>
                a35 R t0 h12546 fun h12547 =>
                kN h12547) (
                kN H)) (
              kN H)) (
            kN H))) (
        sel (t6 == (3 : Int)) (
          sel (t5 == (2 : Int)) (
            (t0).bind fun q12548 =>
            ((H).ldB q12548.1 (q12548.2 + 10)).bind fun x12549 =>
            sel (!x12549) (
              (t0).bind fun q12550 =>
              ((H).st q12550.1 (q12550.2 + 10) (V.b true)).bind fun h12552 =>
              a35 R t0 h12552 fun h12553 =>
              kN h12553) (
              kN H)) (
            kN H)) (
          kN H))))
theorem g21_p16_eq (a34 : T34) (a35 : T35) (a36 : T36) (la34 : Lin34 a34) (la35 : Lin35 a35) (la36 : Lin36 a36) {R : Type} (t0 : Option (Nat × Nat)) (t5 : Int) (t6 : Int) (t7 : Bool) (t179 : Bool) (H : Heap) (K : Ex → Fr → Heap → Option R) : ev Try.prog (E21 a34 a35 a36) loopLim Try.f21.ntmps kp21 c21_7 [(0, (V.p t0)), (5, (V.i .u8 t5)), (6, (V.i .u8 t6)), (7, (V.b t7)), (179, (V.b t179))] H K = g21_p16 a34 a35 a36 R t0 t5 t6 t7 t179 H (fun H => K .normal [] H) := by kernel_rfl
theorem g21_p16_lin {a34 : T34} {a35 : T35} {a36 : T36} (la34 : Lin34 a34) (la35 : Lin35 a35) (la36 : Lin36 a36) {R S : Type} {k : S → Option R} {t0 : Option (Nat × Nat)} {t5 : Int} {t6 : Int} {t7 : Bool} {t179 : Bool} {H : Heap} {fkN : Heap → Option R} {gkN : Heap → Option S} (hkN : ∀ H, fkN H = (gkN H).bind k) : g21_p16 a34 a35 a36 R t0 t5 t6 t7 t179 H fkN = (g21_p16 a34 a35 a36 S t0 t5 t6 t7 t179 H gkN).bind k := by
  delta g21_p16; exact (
    sl_lin (
      la34.l fun h12523 =>
      hkN _) (
      sl_lin (
        sl_lin (
          bl fun q12524 =>
          bl fun h12526 =>
          la35.l fun h12527 =>
          hkN _) (
          sl_lin (
            sl_lin (
              la36.l fun h12528 =>
              hkN _) (
              sl_lin (
                sl_lin (
                  bl fun q12529 =>
                  bl fun x12530 =>
                  sl_lin (
                    bl fun q12531 =>
                    bl fun h12533 =>
                    la35.l fun h12534 =>
                    hkN _) (
                    hkN _)) (
                  hkN _)) (
                hkN _))) (
            sl_lin (
              sl_lin (
                bl fun q12535 =>
                bl fun x12536 =>
                sl_lin (
                  bl fun q12537 =>
                  bl fun h12539 =>
                  la35.l fun h12540 =>
                  hkN _) (
                  hkN _)) (
                hkN _)) (
              hkN _)))) (
        sl_lin (
          sl_lin (
            la36.l fun h12541 =>
            hkN _) (
            sl_lin (
              sl_lin (
                bl fun q12542 =>
                bl fun x12543 =>
                sl_lin (
                  bl fun q12544 =>
                  bl fun h12546 =>
                  la35.l fun h12547 =>
                  hkN _) (
                  hkN _)) (
                hkN _)) (
              hkN _))) (
          sl_lin (
            sl_lin (
              bl fun q12548 =>
              bl fun x12549 =>
              sl_lin (
                bl fun q12550 =>
                bl fun h12552 =>
                la35.l fun h12553 =>
                hkN _) (
                hkN _)) (
              hkN _)) (
            hkN _)))))
noncomputable def g21_p17 (a34 : T34) (a35 : T35) (a36 : T36) (R : Type) (t0 : Option (Nat × Nat)) (t5 : Int) (t6 : Int) (t7 : Bool) (t166 : Bool) (H : Heap) (kN : Heap → Option R) : Option R :=
  g21_p15 a34 a35 a36 R t0 t5 t6 t7 t166 H (fun t0 t5 t6 t7 t179 H => g21_p16 a34 a35 a36 R t0 t5 t6 t7 t179 H (fun H => kN  H))
theorem g21_p17_lin {a34 : T34} {a35 : T35} {a36 : T36} (la34 : Lin34 a34) (la35 : Lin35 a35) (la36 : Lin36 a36) {R S : Type} {k : S → Option R} {t0 : Option (Nat × Nat)} {t5 : Int} {t6 : Int} {t7 : Bool} {t166 : Bool} {H : Heap} {fkN : Heap → Option R} {gkN : Heap → Option S} (hkN : ∀ H, fkN H = (gkN H).bind k) : g21_p17 a34 a35 a36 R t0 t5 t6 t7 t166 H fkN = (g21_p17 a34 a35 a36 S t0 t5 t6 t7 t166 H gkN).bind k := by
  exact g21_p15_lin la34 la35 la36 (fun _ _ _ _ _ _ => g21_p16_lin la34 la35 la36 (fun _ => hkN _))
theorem g21_p17_eq (a34 : T34) (a35 : T35) (a36 : T36) (la34 : Lin34 a34) (la35 : Lin35 a35) (la36 : Lin36 a36) {R : Type} (t0 : Option (Nat × Nat)) (t5 : Int) (t6 : Int) (t7 : Bool) (t166 : Bool) (H : Heap) (K : Ex → Fr → Heap → Option R) : ev Try.prog (E21 a34 a35 a36) loopLim Try.f21.ntmps kp21 c21_8 [(0, (V.p t0)), (5, (V.i .u8 t5)), (6, (V.i .u8 t6)), (7, (V.b t7)), (166, (V.b t166))] H K = g21_p17 a34 a35 a36 R t0 t5 t6 t7 t166 H (fun H => K .normal [] H) := by
  show ev Try.prog (E21 a34 a35 a36) loopLim Try.f21.ntmps kp21 (.seq (codeAt [1, 1, 1, 1, 0, 0, 1, 1, 1, 1, 1, 1, 1, 1, 1, 1, 1, 1, 1, 1, 0] b21) c21_7) [(0, (V.p t0)), (5, (V.i .u8 t5)), (6, (V.i .u8 t6)), (7, (V.b t7)), (166, (V.b t166))] H K = _
  delta g21_p17
  exact (g21_p15_eq a34 a35 a36 _ t0 t5 t6 t7 t166 H K).trans (congrArg (g21_p15 a34 a35 a36 R t0 t5 t6 t7 t166 H) (funext fun t0 => funext fun t5 => funext fun t6 => funext fun t7 => funext fun t179 => funext fun H => g21_p16_eq a34 a35 a36 la34 la35 la36 t0 t5 t6 t7 t179 H K))
noncomputable def g21_p18 (a34 : T34) (a35 : T35) (a36 : T36) (R : Type) (t0 : Option (Nat × Nat)) (t5 : Int) (t6 : Int) (t7 : Bool) (t166 : Bool) (H : Heap) (kN : Heap → Option R) : Option R :=
  sel t166 (g21_p14 a34 a35 a36 R t0 t5 t6 t7 t166 H (fun H => kN  H)) (g21_p17 a34 a35 a36 R t0 t5 t6 t7 t166 H (fun H => kN  H))
theorem g21_p18_lin {a34 : T34} {a35 : T35} {a36 : T36} (la34 : Lin34 a34) (la35 : Lin35 a35) (la36 : Lin36 a36) {R S : Type} {k : S → Option R} {t0 : Option (Nat × Nat)} {t5 : Int} {t6 : Int} {t7 : Bool} {t166 : Bool} {H : Heap} {fkN : Heap → Option R} {gkN : Heap → Option S} (hkN : ∀ H, fkN H = (gkN H).bind k) : g21_p18 a34 a35 a36 R t0 t5 t6 t7 t166 H fkN = (g21_p18 a34 a35 a36 S t0 t5 t6 t7 t166 H gkN).bind k := by
  exact sl_lin (g21_p14_lin la34 la35 la36 (fun _ => hkN _)) (g21_p17_lin la34 la35 la36 (fun _ => hkN _))
theorem g21_p18_eq (a34 : T34) (a35 : T35) (a36 : T36) (la34 : Lin34 a34) (la35 : Lin35 a35) (la36 : Lin36 a36) {R : Type} (t0 : Option (Nat × Nat)) (t5 : Int) (t6 : Int) (t7 : Bool) (t166 : Bool) (H : Heap) (K : Ex → Fr → Heap → Option R) : ev Try.prog (E21 a34 a35 a36) loopLim Try.f21.ntmps kp21 c21_9 [(0, (V.p t0)), (5, (V.i .u8 t5)), (6, (V.i .u8 t6)), (7, (V.b t7)), (166, (V.b t166))] H K = g21_p18 a34 a35 a36 R t0 t5 t6 t7 t166 H (fun H => K .normal [] H) := by
  show ev Try.prog (E21 a34 a35 a36) loopLim Try.f21.ntmps kp21 (.cond (.tmp 166) c21_6 c21_8) [(0, (V.p t0)), (5, (V.i .u8 t5)), (6, (V.i .u8 t6)), (7, (V.b t7)), (166, (V.b t166))] H K = _
  rw [ev_cond _ _ _ _ _ _ t166 rfl]
  delta g21_p18
  exact sc (g21_p14_eq a34 a35 a36 la34 la35 la36 t0 t5 t6 t7 t166 H (kEnd kp21 (condId (.tmp 166)) K)) (g21_p17_eq a34 a35 a36 la34 la35 la36 t0 t5 t6 t7 t166 H (kEnd kp21 (condId (.tmp 166)) K))
noncomputable def g21_p19 (a34 : T34) (a35 : T35) (a36 : T36) (R : Type) (t0 : Option (Nat × Nat)) (t5 : Int) (t6 : Int) (t7 : Bool) (t163 : Bool) (H : Heap) (kN : Heap → Option R) : Option R :=
  g21_p13 a34 a35 a36 R t0 t5 t6 t7 t163 H (fun t0 t5 t6 t7 t166 H => g21_p18 a34 a35 a36 R t0 t5 t6 t7 t166 H (fun H => kN  H))
theorem g21_p19_lin {a34 : T34} {a35 : T35} {a36 : T36} (la34 : Lin34 a34) (la35 : Lin35 a35) (la36 : Lin36 a36) {R S : Type} {k : S → Option R} {t0 : Option (Nat × Nat)} {t5 : Int} {t6 : Int} {t7 : Bool} {t163 : Bool} {H : Heap} {fkN : Heap → Option R} {gkN : Heap → Option S} (hkN : ∀ H, fkN H = (gkN H).bind k) : g21_p19 a34 a35 a36 R t0 t5 t6 t7 t163 H fkN = (g21_p19 a34 a35 a36 S t0 t5 t6 t7 t163 H gkN).bind k := by
  exact g21_p13_lin la34 la35 la36 (fun _ _ _ _ _ _ => g21_p18_lin la34 la35 la36 (fun _ => hkN _))
theorem g21_p19_eq (a34 : T34) (a35 : T35) (a36 : T36) (la34 : Lin34 a34) (la35 : Lin35 a35) (la36 : Lin36 a36) {R : Type} (t0 : Option (Nat × Nat)) (t5 : Int) (t6 : Int) (t7 : Bool) (t163 : Bool) (H : Heap) (K : Ex → Fr → Heap → Option R) : ev Try.prog (E21 a34 a35 a36) loopLim Try.f21.ntmps kp21 c21_10 [(0, (V.p t0)), (5, (V.i .u8 t5)), (6, (V.i .u8 t6)), (7, (V.b t7)), (163, (V.b t163))] H K = g21_p19 a34 a35 a36 R t0 t5 t6 t7 t163 H (fun H => K .normal [] H) := by
  show ev Try.prog (E21 a34 a35 a36) loopLim Try.f21.ntmps kp21 (.seq (codeAt [1, 1, 1, 1, 0, 0, 1, 1, 1, 1, 1, 1, 1, 1, 1, 1, 1, 1, 0] b21) c21_9) [(0, (V.p t0)), (5, (V.i .u8 t5)), (6, (V.i .u8 t6)), (7, (V.b t7)), (163, (V.b t163))] H K = _
  delta g21_p19
  exact (g21_p13_eq a34 a35 a36 _ t0 t5 t6 t7 t163 H K).trans (congrArg (g21_p13 a34 a35 a36 R t0 t5 t6 t7 t163 H) (funext fun t0 => funext fun t5 => funext fun t6 => funext fun t7 => funext fun t166 => funext fun H => g21_p18_eq a34 a35 a36 la34 la35 la36 t0 t5 t6 t7 t166 H K))
noncomputable def g21_p20 (a34 : T34) (a35 : T35) (a36 : T36) (R : Type) (t0 : Option (Nat × Nat)) (t5 : Int) (t6 : Int) (t7 : Bool) (t163 : Bool) (H : Heap) (kN : Heap → Option R) (kR : Int → Heap → Option R) : Option R :=
  sel t163 (g21_p12 a34 a35 a36 R t0 t5 t6 t7 t163 H (fun t4 H => kR t4 H)) (g21_p19 a34 a35 a36 R t0 t5 t6 t7 t163 H (fun H => kN  H))
theorem g21_p20_lin {a34 : T34} {a35 : T35} {a36 : T36} (la34 : Lin34 a34) (la35 : Lin35 a35) (la36 : Lin36 a36) {R S : Type} {k : S → Option R} {t0 : Option (Nat × Nat)} {t5 : Int} {t6 : Int} {t7 : Bool} {t163 : Bool} {H : Heap} {fkN : Heap → Option R} {gkN : Heap → Option S} {fkR : Int → Heap → Option R} {gkR : Int → Heap → Option S} (hkN : ∀ H, fkN H = (gkN H).bind k) (hkR : ∀ t4 H, fkR t4 H = (gkR t4 H).bind k) : g21_p20 a34 a35 a36 R t0 t5 t6 t7 t163 H fkN fkR = (g21_p20 a34 a35 a36 S t0 t5 t6 t7 t163 H gkN gkR).bind k := by
  exact sl_lin (g21_p12_lin la34 la35 la36 (fun _ _ => hkR _ _)) (g21_p19_lin la34 la35 la36 (fun _ => hkN _))
theorem g21_p20_eq (a34 : T34) (a35 : T35) (a36 : T36) (la34 : Lin34 a34) (la35 : Lin35 a35) (la36 : Lin36 a36) {R : Type} (t0 : Option (Nat × Nat)) (t5 : Int) (t6 : Int) (t7 : Bool) (t163 : Bool) (H : Heap) (K : Ex → Fr → Heap → Option R) : ev Try.prog (E21 a34 a35 a36) loopLim Try.f21.ntmps kp21 c21_11 [(0, (V.p t0)), (5, (V.i .u8 t5)), (6, (V.i .u8 t6)), (7, (V.b t7)), (163, (V.b t163))] H K = g21_p20 a34 a35 a36 R t0 t5 t6 t7 t163 H (fun H => K .normal [] H) (fun t4 H => K .ret [(4, (V.i .i64 t4))] H) := by
  show ev Try.prog (E21 a34 a35 a36) loopLim Try.f21.ntmps kp21 (.cond (.tmp 163) c21_5 c21_10) [(0, (V.p t0)), (5, (V.i .u8 t5)), (6, (V.i .u8 t6)), (7, (V.b t7)), (163, (V.b t163))] H K = _
  rw [ev_cond _ _ _ _ _ _ t163 rfl]
  delta g21_p20
  exact sc (g21_p12_eq a34 a35 a36 la34 la35 la36 t0 t5 t6 t7 t163 H (kEnd kp21 (condId (.tmp 163)) K)) (g21_p19_eq a34 a35 a36 la34 la35 la36 t0 t5 t6 t7 t163 H (kEnd kp21 (condId (.tmp 163)) K))
noncomputable def g21_p21 (a34 : T34) (a35 : T35) (a36 : T36) (R : Type) (t0 : Option (Nat × Nat)) (t5 : Int) (t6 : Int) (t7 : Bool) (t160 : Bool) (H : Heap) (kN : Heap → Option R) (kR : Int → Heap → Option R) : Option R :=
  g21_p11 a34 a35 a36 R t0 t5 t6 t7 t160 H (fun t0 t5 t6 t7 t163 H => g21_p20 a34 a35 a36 R t0 t5 t6 t7 t163 H (fun H => kN  H) (fun t4 H => kR t4 H))
theorem g21_p21_lin {a34 : T34} {a35 : T35} {a36 : T36} (la34 : Lin34 a34) (la35 : Lin35 a35) (la36 : Lin36 a36) {R S : Type} {k : S → Option R} {t0 : Option (Nat × Nat)} {t5 : Int} {t6 : Int} {t7 : Bool} {t160 : Bool} {H : Heap} {fkN : Heap → Option R} {gkN : Heap → Option S} {fkR : Int → Heap → Option R} {gkR : Int → Heap → Option S} (hkN : ∀ H, fkN H = (gkN H).bind k) (hkR : ∀ t4 H, fkR t4 H = (gkR t4 H).bind k) : g21_p21 a34 a35 a36 R t0 t5 t6 t7 t160 H fkN fkR = (g21_p21 a34 a35 a36 S t0 t5 t6 t7 t160 H gkN gkR).bind k := by
  exact g21_p11_lin la34 la35 la36 (fun _ _ _ _ _ _ => g21_p20_lin la34 la35 la36 (fun _ => hkN _) (fun _ _ => hkR _ _))
theorem g21_p21_eq (a34 : T34) (a35 : T35) (a36 : T36) (la34 : Lin34 a34) (la35 : Lin35 a35) (la36 : Lin36 a36) {R : Type} (t0 : Option (Nat × Nat)) (t5 : Int) (t6 : Int) (t7 : Bool) (t160 : Bool) (H : Heap) (K : Ex → Fr → Heap → Option R) : ev Try.prog (E21 a34 a35 a36) loopLim Try.f21.ntmps kp21 c21_12 [(0, (V.p t0)), (5, (V.i .u8 t5)), (6, (V.i .u8 t6)), (7, (V.b t7)), (160, (V.b t160))] H K = g21_p21 a34 a35 a36 R t0 t5 t6 t7 t160 H (fun H => K .normal [] H) (fun t4 H => K .ret [(4, (V.i .i64 t4))] H) := by
  show ev Try.prog (E21 a34 a35 a36) loopLim Try.f21.ntmps kp21 (.seq (codeAt [1, 1, 1, 1, 0, 0, 1, 1, 1, 1, 1, 1, 1, 1, 1, 1, 0] b21) c21_11) [(0, (V.p t0)), (5, (V.i .u8 t5)), (6, (V.i .u8 t6)), (7, (V.b t7)), (160, (V.b t160))] H K = _
  delta g21_p21
  exact (g21_p11_eq a34 a35 a36 _ t0 t5 t6 t7 t160 H K).trans (congrArg (g21_p11 a34 a35 a36 R t0 t5 t6 t7 t160 H) (funext fun t0 => funext fun t5 => funext fun t6 => funext fun t7 => funext fun t163 => funext fun H => g21_p20_eq a34 a35 a36 la34 la35 la36 t0 t5 t6 t7 t163 H K))
noncomputable def g21_p22 (a34 : T34) (a35 : T35) (a36 : T36) (R : Type) (t0 : Option (Nat × Nat)) (t5 : Int) (t6 : Int) (t7 : Bool) (t160 : Bool) (H : Heap) (kN : Heap → Option R) (kR : Int → Heap → Option R) : Option R :=
  sel t160 (g21_p10 a34 a35 a36 R t0 t5 t6 t7 t160 H (fun t0 t5 t6 t7 t160 H => kN  H)) (g21_p21 a34 a35 a36 R t0 t5 t6 t7 t160 H (fun H => kN  H) (fun t4 H => kR t4 H))
theorem g21_p22_lin {a34 : T34} {a35 : T35} {a36 : T36} (la34 : Lin34 a34) (la35 : Lin35 a35) (la36 : Lin36 a36) {R S : Type} {k : S → Option R} {t0 : Option (Nat × Nat)} {t5 : Int} {t6 : Int} {t7 : Bool} {t160 : Bool} {H : Heap} {fkN : Heap → Option R} {gkN : Heap → Option S} {fkR : Int → Heap → Option R} {gkR : Int → Heap → Option S} (hkN : ∀ H, fkN H = (gkN H).bind k) (hkR : ∀ t4 H, fkR t4 H = (gkR t4 H).bind k) : g21_p22 a34 a35 a36 R t0 t5 t6 t7 t160 H fkN fkR = (g21_p22 a34 a35 a36 S t0 t5 t6 t7 t160 H gkN gkR).bind k := by
  exact sl_lin (g21_p10_lin la34 la35 la36 (fun _ _ _ _ _ _ => hkN _)) (g21_p21_lin la34 la35 la36 (fun _ => hkN _) (fun _ _ => hkR _ _))
theorem g21_p22_eq (a34 : T34) (a35 : T35) (a36 : T36) (la34 : Lin34 a34) (la35 : Lin35 a35) (la36 : Lin36 a36) {R : Type} (t0 : Option (Nat × Nat)) (t5 : Int) (t6 : Int) (t7 : Bool) (t160 : Bool) (H : Heap) (K : Ex → Fr → Heap → Option R) : ev Try.prog (E21 a34 a35 a36) loopLim Try.f21.ntmps kp21 c21_13 [(0, (V.p t0)), (5, (V.i .u8 t5)), (6, (V.i .u8 t6)), (7, (V.b t7)), (160, (V.b t160))] H K = g21_p22 a34 a35 a36 R t0 t5 t6 t7 t160 H (fun H => K .normal [] H) (fun t4 H => K .ret [(4, (V.i .i64 t4))] H) := by
  show ev Try.prog (E21 a34 a35 a36) loopLim Try.f21.ntmps kp21 (.cond (.tmp 160) c21_4 c21_12) [(0, (V.p t0)), (5, (V.i .u8 t5)), (6, (V.i .u8 t6)), (7, (V.b t7)), (160, (V.b t160))] H K = _
  rw [ev_cond _ _ _ _ _ _ t160 rfl]
  delta g21_p22
  exact sc (g21_p10_eq a34 a35 a36 la34 la35 la36 t0 t5 t6 t7 t160 H (kEnd kp21 (condId (.tmp 160)) K)) (g21_p21_eq a34 a35 a36 la34 la35 la36 t0 t5 t6 t7 t160 H (kEnd kp21 (condId (.tmp 160)) K))
noncomputable def g21_p23 (a34 : T34) (a35 : T35) (a36 : T36) (R : Type) (t0 : Option (Nat × Nat)) (t1 : Int) (t5 : Int) (t6 : Int) (t7 : Bool) (t125 : Bool) (H : Heap) (kN : Heap → Option R) (kR : Int → Heap → Option R) : Option R :=
  g21_p9 a34 a35 a36 R t0 t1 t5 t6 t7 t125 H (fun t0 t5 t6 t7 t160 H => g21_p22 a34 a35 a36 R t0 t5 t6 t7 t160 H (fun H => kN  H) (fun t4 H => kR t4 H))
theorem g21_p23_lin {a34 : T34} {a35 : T35} {a36 : T36} (la34 : Lin34 a34) (la35 : Lin35 a35) (la36 : Lin36 a36) {R S : Type} {k : S → Option R} {t0 : Option (Nat × Nat)} {t1 : Int} {t5 : Int} {t6 : Int} {t7 : Bool} {t125 : Bool} {H : Heap} {fkN : Heap → Option R} {gkN : Heap → Option S} {fkR : Int → Heap → Option R} {gkR : Int → Heap → Option S} (hkN : ∀ H, fkN H = (gkN H).bind k) (hkR : ∀ t4 H, fkR t4 H = (gkR t4 H).bind k) : g21_p23 a34 a35 a36 R t0 t1 t5 t6 t7 t125 H fkN fkR = (g21_p23 a34 a35 a36 S t0 t1 t5 t6 t7 t125 H gkN gkR).bind k := by
  exact g21_p9_lin la34 la35 la36 (fun _ _ _ _ _ _ => g21_p22_lin la34 la35 la36 (fun _ => hkN _) (fun _ _ => hkR _ _))
theorem g21_p23_eq (a34 : T34) (a35 : T35) (a36 : T36) (la34 : Lin34 a34) (la35 : Lin35 a35) (la36 : Lin36 a36) {R : Type} (t0 : Option (Nat × Nat)) (t1 : Int) (t5 : Int) (t6 : Int) (t7 : Bool) (t125 : Bool) (H : Heap) (K : Ex → Fr → Heap → Option R) : ev Try.prog (E21 a34 a35 a36) loopLim Try.f21.ntmps kp21 c21_14 [(0, (V.p t0)), (1, (V.i .u8 t1)), (5, (V.i .u8 t5)), (6, (V.i .u8 t6)), (7, (V.b t7)), (125, (V.b t125))] H K = g21_p23 a34 a35 a36 R t0 t1 t5 t6 t7 t125 H (fun H => K .normal [] H) (fun t4 H => K .ret [(4, (V.i .i64 t4))] H) := by
  show ev Try.prog (E21 a34 a35 a36) loopLim Try.f21.ntmps kp21 (.seq (codeAt [1, 1, 1, 1, 0, 0, 1, 1, 1, 1, 1, 1, 1, 1, 0] b21) c21_13) [(0, (V.p t0)), (1, (V.i .u8 t1)), (5, (V.i .u8 t5)), (6, (V.i .u8 t6)), (7, (V.b t7)), (125, (V.b t125))] H K = _
  delta g21_p23
  exact (g21_p9_eq a34 a35 a36 _ t0 t1 t5 t6 t7 t125 H K).trans (congrArg (g21_p9 a34 a35 a36 R t0 t1 t5 t6 t7 t125 H) (funext fun t0 => funext fun t5 => funext fun t6 => funext fun t7 => funext fun t160 => funext fun H => g21_p22_eq a34 a35 a36 la34 la35 la36 t0 t5 t6 t7 t160 H K))
noncomputable def g21_p24 (a34 : T34) (a35 : T35) (a36 : T36) (R : Type) (t0 : Option (Nat × Nat)) (t1 : Int) (t5 : Int) (t6 : Int) (t7 : Bool) (t125 : Bool) (H : Heap) (kN : Heap → Option R) (kR : Int → Heap → Option R) : Option R :=
  sel t125 (g21_p8 a34 a35 a36 R t0 t1 t5 t6 t7 t125 H (fun H => kN  H)) (g21_p23 a34 a35 a36 R t0 t1 t5 t6 t7 t125 H (fun H => kN  H) (fun t4 H => kR t4 H))
theorem g21_p24_lin {a34 : T34} {a35 : T35} {a36 : T36} (la34 : Lin34 a34) (la35 : Lin35 a35) (la36 : Lin36 a36) {R S : Type} {k : S → Option R} {t0 : Option (Nat × Nat)} {t1 : Int} {t5 : Int} {t6 : Int} {t7 : Bool} {t125 : Bool} {H : Heap} {fkN : Heap → Option R} {gkN : Heap → Option S} {fkR : Int → Heap → Option R} {gkR : Int → Heap → Option S} (hkN : ∀ H, fkN H = (gkN H).bind k) (hkR : ∀ t4 H, fkR t4 H = (gkR t4 H).bind k) : g21_p24 a34 a35 a36 R t0 t1 t5 t6 t7 t125 H fkN fkR = (g21_p24 a34 a35 a36 S t0 t1 t5 t6 t7 t125 H gkN gkR).bind k := by
  exact sl_lin (g21_p8_lin la34 la35 la36 (fun _ => hkN _)) (g21_p23_lin la34 la35 la36 (fun _ => hkN _) (fun _ _ => hkR _ _))
theorem g21_p24_eq (a34 : T34) (a35 : T35) (a36 : T36) (la34 : Lin34 a34) (la35 : Lin35 a35) (la36 : Lin36 a36) {R : Type} (t0 : Option (Nat × Nat)) (t1 : Int) (t5 : Int) (t6 : Int) (t7 : Bool) (t125 : Bool) (H : Heap) (K : Ex → Fr → Heap → Option R) : ev Try.prog (E21 a34 a35 a36) loopLim Try.f21.ntmps kp21 c21_15 [(0, (V.p t0)), (1, (V.i .u8 t1)), (5, (V.i .u8 t5)), (6, (V.i .u8 t6)), (7, (V.b t7)), (125, (V.b t125))] H K = g21_p24 a34 a35 a36 R t0 t1 t5 t6 t7 t125 H (fun H => K .normal [] H) (fun t4 H => K .ret [(4, (V.i .i64 t4))] H) := by
  show ev Try.prog (E21 a34 a35 a36) loopLim Try.f21.ntmps kp21 (.cond (.tmp 125) c21_3 c21_14) [(0, (V.p t0)), (1, (V.i .u8 t1)), (5, (V.i .u8 t5)), (6, (V.i .u8 t6)), (7, (V.b t7)), (125, (V.b t125))] H K = _
  rw [ev_cond _ _ _ _ _ _ t125 rfl]
  delta g21_p24
  exact sc (g21_p8_eq a34 a35 a36 la34 la35 la36 t0 t1 t5 t6 t7 t125 H (kEnd kp21 (condId (.tmp 125)) K)) (g21_p23_eq a34 a35 a36 la34 la35 la36 t0 t1 t5 t6 t7 t125 H (kEnd kp21 (condId (.tmp 125)) K))
noncomputable def g21_p25 (a34 : T34) (a35 : T35) (a36 : T36) (R : Type) (t0 : Option (Nat × Nat)) (t1 : Int) (t5 : Int) (t6 : Int) (t7 : Bool) (t62 : Bool) (H : Heap) (kN : Heap → Option R) (kR : Int → Heap → Option R) : Option R :=
  g21_p7 a34 a35 a36 R t0 t1 t5 t6 t7 t62 H (fun t0 t1 t5 t6 t7 t125 H => g21_p24 a34 a35 a36 R t0 t1 t5 t6 t7 t125 H (fun H => kN  H) (fun t4 H => kR t4 H))
theorem g21_p25_lin {a34 : T34} {a35 : T35} {a36 : T36} (la34 : Lin34 a34) (la35 : Lin35 a35) (la36 : Lin36 a36) {R S : Type} {k : S → Option R} {t0 : Option (Nat × Nat)} {t1 : Int} {t5 : Int} {t6 : Int} {t7 : Bool} {t62 : Bool} {H : Heap} {fkN : Heap → Option R} {gkN : Heap → Option S} {fkR : Int → Heap → Option R} {gkR : Int → Heap → Option S} (hkN : ∀ H, fkN H = (gkN H).bind k) (hkR : ∀ t4 H, fkR t4 H = (gkR t4 H).bind k) : g21_p25 a34 a35 a36 R t0 t1 t5 t6 t7 t62 H fkN fkR = (g21_p25 a34 a35 a36 S t0 t1 t5 t6 t7 t62 H gkN gkR).bind k := by
  exact g21_p7_lin la34 la35 la36 (fun _ _ _ _ _ _ _ => g21_p24_lin la34 la35 la36 (fun _ => hkN _) (fun _ _ => hkR _ _))
theorem g21_p25_eq (a34 : T34) (a35 : T35) (a36 : T36) (la34 : Lin34 a34) (la35 : Lin35 a35) (la36 : Lin36 a36) {R : Type} (t0 : Option (Nat × Nat)) (t1 : Int) (t5 : Int) (t6 : Int) (t7 : Bool) (t62 : Bool) (H : Heap) (K : Ex → Fr → Heap → Option R) : ev Try.prog (E21 a34 a35 a36) loopLim Try.f21.ntmps kp21 c21_16 [(0, (V.p t0)), (1, (V.i .u8 t1)), (5, (V.i .u8 t5)), (6, (V.i .u8 t6)), (7, (V.b t7)), (62, (V.b t62))] H K = g21_p25 a34 a35 a36 R t0 t1 t5 t6 t7 t62 H (fun H => K .normal [] H) (fun t4 H => K .ret [(4, (V.i .i64 t4))] H) := by
  show ev Try.prog (E21 a34 a35 a36) loopLim Try.f21.ntmps kp21 (.seq (codeAt [1, 1, 1, 1, 0, 0, 1, 1, 1, 1, 1, 1, 0] b21) c21_15) [(0, (V.p t0)), (1, (V.i .u8 t1)), (5, (V.i .u8 t5)), (6, (V.i .u8 t6)), (7, (V.b t7)), (62, (V.b t62))] H K = _
  delta g21_p25
  exact (g21_p7_eq a34 a35 a36 _ t0 t1 t5 t6 t7 t62 H K).trans (congrArg (g21_p7 a34 a35 a36 R t0 t1 t5 t6 t7 t62 H) (funext fun t0 => funext fun t1 => funext fun t5 => funext fun t6 => funext fun t7 => funext fun t125 => funext fun H => g21_p24_eq a34 a35 a36 la34 la35 la36 t0 t1 t5 t6 t7 t125 H K))
noncomputable def g21_p26 (a34 : T34) (a35 : T35) (a36 : T36) (R : Type) (t0 : Option (Nat × Nat)) (t1 : Int) (t5 : Int) (t6 : Int) (t7 : Bool) (t62 : Bool) (H : Heap) (kN : Heap → Option R) (kR : Int → Heap → Option R) : Option R :=
  sel t62 (g21_p6 a34 a35 a36 R t0 t1 t5 t6 t7 t62 H (fun H => kN  H)) (g21_p25 a34 a35 a36 R t0 t1 t5 t6 t7 t62 H (fun H => kN  H) (fun t4 H => kR t4 H))
theorem g21_p26_lin {a34 : T34} {a35 : T35} {a36 : T36} (la34 : Lin34 a34) (la35 : Lin35 a35) (la36 : Lin36 a36) {R S : Type} {k : S → Option R} {t0 : Option (Nat × Nat)} {t1 : Int} {t5 : Int} {t6 : Int} {t7 : Bool} {t62 : Bool} {H : Heap} {fkN : Heap → Option R} {gkN : Heap → Option S} {fkR : Int → Heap → Option R} {gkR : Int → Heap → Option S} (hkN : ∀ H, fkN H = (gkN H).bind k) (hkR : ∀ t4 H, fkR t4 H = (gkR t4 H).bind k) : g21_p26 a34 a35 a36 R t0 t1 t5 t6 t7 t62 H fkN fkR = (g21_p26 a34 a35 a36 S t0 t1 t5 t6 t7 t62 H gkN gkR).bind k := by
  exact sl_lin (g21_p6_lin la34 la35 la36 (fun _ => hkN _)) (g21_p25_lin la34 la35 la36 (fun _ => hkN _) (fun _ _ => hkR _ _))
theorem g21_p26_eq (a34 : T34) (a35 : T35) (a36 : T36) (la34 : Lin34 a34) (la35 : Lin35 a35) (la36 : Lin36 a36) {R : Type} (t0 : Option (Nat × Nat)) (t1 : Int) (t5 : Int) (t6 : Int) (t7 : Bool) (t62 : Bool) (H : Heap) (K : Ex → Fr → Heap → Option R) : ev Try.prog (E21 a34 a35 a36) loopLim Try.f21.ntmps kp21 c21_17 [(0, (V.p t0)), (1, (V.i .u8 t1)), (5, (V.i .u8 t5)), (6, (V.i .u8 t6)), (7, (V.b t7)), (62, (V.b t62))] H K = g21_p26 a34 a35 a36 R t0 t1 t5 t6 t7 t62 H (fun H => K .normal [] H) (fun t4 H => K .ret [(4, (V.i .i64 t4))] H) := by
  show ev Try.prog (E21 a34 a35 a36) loopLim Try.f21.ntmps kp21 (.cond (.tmp 62) c21_2 c21_16) [(0, (V.p t0)), (1, (V.i .u8 t1)), (5, (V.i .u8 t5)), (6, (V.i .u8 t6)), (7, (V.b t7)), (62, (V.b t62))] H K = _
  rw [ev_cond _ _ _ _ _ _ t62 rfl]
  delta g21_p26
  exact sc (g21_p6_eq a34 a35 a36 la34 la35 la36 t0 t1 t5 t6 t7 t62 H (kEnd kp21 (condId (.tmp 62)) K)) (g21_p25_eq a34 a35 a36 la34 la35 la36 t0 t1 t5 t6 t7 t62 H (kEnd kp21 (condId (.tmp 62)) K))
noncomputable def g21_p27 (a34 : T34) (a35 : T35) (a36 : T36) (R : Type) (t0 : Option (Nat × Nat)) (t1 : Int) (t5 : Int) (t6 : Int) (t7 : Bool) (t57 : Bool) (H : Heap) (kN : Heap → Option R) (kR : Int → Heap → Option R) : Option R :=
  g21_p5 a34 a35 a36 R t0 t1 t5 t6 t7 t57 H (fun t0 t1 t5 t6 t7 t62 H => g21_p26 a34 a35 a36 R t0 t1 t5 t6 t7 t62 H (fun H => kN  H) (fun t4 H => kR t4 H))
theorem g21_p27_lin {a34 : T34} {a35 : T35} {a36 : T36} (la34 : Lin34 a34) (la35 : Lin35 a35) (la36 : Lin36 a36) {R S : Type} {k : S → Option R} {t0 : Option (Nat × Nat)} {t1 : Int} {t5 : Int} {t6 : Int} {t7 : Bool} {t57 : Bool} {H : Heap} {fkN : Heap → Option R} {gkN : Heap → Option S} {fkR : Int → Heap → Option R} {gkR : Int → Heap → Option S} (hkN : ∀ H, fkN H = (gkN H).bind k) (hkR : ∀ t4 H, fkR t4 H = (gkR t4 H).bind k) : g21_p27 a34 a35 a36 R t0 t1 t5 t6 t7 t57 H fkN fkR = (g21_p27 a34 a35 a36 S t0 t1 t5 t6 t7 t57 H gkN gkR).bind k := by
  exact g21_p5_lin la34 la35 la36 (fun _ _ _ _ _ _ _ => g21_p26_lin la34 la35 la36 (fun _ => hkN _) (fun _ _ => hkR _ _))
theorem g21_p27_eq (a34 : T34) (a35 : T35) (a36 : T36) (la34 : Lin34 a34) (la35 : Lin35 a35) (la36 : Lin36 a36) {R : Type} (t0 : Option (Nat × Nat)) (t1 : Int) (t5 : Int) (t6 : Int) (t7 : Bool) (t57 : Bool) (H : Heap) (K : Ex → Fr → Heap → Option R) : ev Try.prog (E21 a34 a35 a36) loopLim Try.f21.ntmps kp21 c21_18 [(0, (V.p t0)), (1, (V.i .u8 t1)), (5, (V.i .u8 t5)), (6, (V.i .u8 t6)), (7, (V.b t7)), (57, (V.b t57))] H K = g21_p27 a34 a35 a36 R t0 t1 t5 t6 t7 t57 H (fun H => K .normal [] H) (fun t4 H => K .ret [(4, (V.i .i64 t4))] H) := by
  show ev Try.prog (E21 a34 a35 a36) loopLim Try.f21.ntmps kp21 (.seq (codeAt [1, 1, 1, 1, 0, 0, 1, 1, 1, 1, 0] b21) c21_17) [(0, (V.p t0)), (1, (V.i .u8 t1)), (5, (V.i .u8 t5)), (6, (V.i .u8 t6)), (7, (V.b t7)), (57, (V.b t57))] H K = _
  delta g21_p27
  exact (g21_p5_eq a34 a35 a36 _ t0 t1 t5 t6 t7 t57 H K).trans (congrArg (g21_p5 a34 a35 a36 R t0 t1 t5 t6 t7 t57 H) (funext fun t0 => funext fun t1 => funext fun t5 => funext fun t6 => funext fun t7 => funext fun t62 => funext fun H => g21_p26_eq a34 a35 a36 la34 la35 la36 t0 t1 t5 t6 t7 t62 H K))
noncomputable def g21_p28 (a34 : T34) (a35 : T35) (a36 : T36) (R : Type) (t0 : Option (Nat × Nat)) (t1 : Int) (t5 : Int) (t6 : Int) (t7 : Bool) (t57 : Bool) (H : Heap) (kN : Heap → Option R) (kR : Int → Heap → Option R) : Option R :=
  sel t57 (g21_p4 a34 a35 a36 R t0 t1 t5 t6 t7 t57 H (fun H => kN  H)) (g21_p27 a34 a35 a36 R t0 t1 t5 t6 t7 t57 H (fun H => kN  H) (fun t4 H => kR t4 H))
theorem g21_p28_lin {a34 : T34} {a35 : T35} {a36 : T36} (la34 : Lin34 a34) (la35 : Lin35 a35) (la36 : Lin36 a36) {R S : Type} {k : S → Option R} {t0 : Option (Nat × Nat)} {t1 : Int} {t5 : Int} {t6 : Int} {t7 : Bool} {t57 : Bool} {H : Heap} {fkN : Heap → Option R} {gkN : Heap → Option S} {fkR : Int → Heap → Option R} {gkR : Int → Heap → Option S} (hkN : ∀ H, fkN H = (gkN H).bind k) (hkR : ∀ t4 H, fkR t4 H = (gkR t4 H).bind k) : g21_p28 a34 a35 a36 R t0 t1 t5 t6 t7 t57 H fkN fkR = (g21_p28 a34 a35 a36 S t0 t1 t5 t6 t7 t57 H gkN gkR).bind k := by
  exact sl_lin (g21_p4_lin la34 la35 la36 (fun _ => hkN _)) (g21_p27_lin la34 la35 la36 (fun _ => hkN _) (fun _ _ => hkR _ _))
theorem g21_p28_eq (a34 : T34) (a35 : T35) (a36 : T36) (la34 : Lin34 a34) (la35 : Lin35 a35) (la36 : Lin36 a36) {R : Type} (t0 : Option (Nat × Nat)) (t1 : Int) (t5 : Int) (t6 : Int) (t7 : Bool) (t57 : Bool) (H : Heap) (K : Ex → Fr → Heap → Option R) : ev Try.prog (E21 a34 a35 a36) loopLim Try.f21.ntmps kp21 c21_19 [(0, (V.p t0)), (1, (V.i .u8 t1)), (5, (V.i .u8 t5)), (6, (V.i .u8 t6)), (7, (V.b t7)), (57, (V.b t57))] H K = g21_p28 a34 a35 a36 R t0 t1 t5 t6 t7 t57 H (fun H => K .normal [] H) (fun t4 H => K .ret [(4, (V.i .i64 t4))] H) := by
  show ev Try.prog (E21 a34 a35 a36) loopLim Try.f21.ntmps kp21 (.cond (.tmp 57) c21_1 c21_18) [(0, (V.p t0)), (1, (V.i .u8 t1)), (5, (V.i .u8 t5)), (6, (V.i .u8 t6)), (7, (V.b t7)), (57, (V.b t57))] H K = _
  rw [ev_cond _ _ _ _ _ _ t57 rfl]
  delta g21_p28
  exact sc (g21_p4_eq a34 a35 a36 la34 la35 la36 t0 t1 t5 t6 t7 t57 H (kEnd kp21 (condId (.tmp 57)) K)) (g21_p27_eq a34 a35 a36 la34 la35 la36 t0 t1 t5 t6 t7 t57 H (kEnd kp21 (condId (.tmp 57)) K))
noncomputable def g21_p29 (a34 : T34) (a35 : T35) (a36 : T36) (R : Type) (t0 : Option (Nat × Nat)) (t1 : Int) (t5 : Int) (t6 : Int) (t7 : Bool) (t22 : Bool) (H : Heap) (kN : Heap → Option R) (kR : Int → Heap → Option R) : Option R :=
  g21_p3 a34 a35 a36 R t0 t1 t5 t6 t7 t22 H (fun t0 t1 t5 t6 t7 t57 H => g21_p28 a34 a35 a36 R t0 t1 t5 t6 t7 t57 H (fun H => kN  H) (fun t4 H => kR t4 H))
theorem g21_p29_lin {a34 : T34} {a35 : T35} {a36 : T36} (la34 : Lin34 a34) (la35 : Lin35 a35) (la36 : Lin36 a36) {R S : Type} {k : S → Option R} {t0 : Option (Nat × Nat)} {t1 : Int} {t5 : Int} {t6 : Int} {t7 : Bool} {t22 : Bool} {H : Heap} {fkN : Heap → Option R} {gkN : Heap → Option S} {fkR : Int → Heap → Option R} {gkR : Int → Heap → Option S} (hkN : ∀ H, fkN H = (gkN H).bind k) (hkR : ∀ t4 H, fkR t4 H = (gkR t4 H).bind k) : g21_p29 a34 a35 a36 R t0 t1 t5 t6 t7 t22 H fkN fkR = (g21_p29 a34 a35 a36 S t0 t1 t5 t6 t7 t22 H gkN gkR).bind k := by
  exact g21_p3_lin la34 la35 la36 (fun _ _ _ _ _ _ _ => g21_p28_lin la34 la35 la36 (fun _ => hkN _) (fun _ _ => hkR _ _))
theorem g21_p29_eq (a34 : T34) (a35 : T35) (a36 : T36) (la34 : Lin34 a34) (la35 : Lin35 a35) (la36 : Lin36 a36) {R : Type} (t0 : Option (Nat × Nat)) (t1 : Int) (t5 : Int) (t6 : Int) (t7 : Bool) (t22 : Bool) (H : Heap) (K : Ex → Fr → Heap → Option R) : ev Try.prog (E21 a34 a35 a36) loopLim Try.f21.ntmps kp21 c21_20 [(0, (V.p t0)), (1, (V.i .u8 t1)), (5, (V.i .u8 t5)), (6, (V.i .u8 t6)), (7, (V.b t7)), (22, (V.b t22))] H K = g21_p29 a34 a35 a36 R t0 t1 t5 t6 t7 t22 H (fun H => K .normal [] H) (fun t4 H => K .ret [(4, (V.i .i64 t4))] H) := by
  show ev Try.prog (E21 a34 a35 a36) loopLim Try.f21.ntmps kp21 (.seq (codeAt [1, 1, 1, 1, 0, 0, 1, 1, 0] b21) c21_19) [(0, (V.p t0)), (1, (V.i .u8 t1)), (5, (V.i .u8 t5)), (6, (V.i .u8 t6)), (7, (V.b t7)), (22, (V.b t22))] H K = _
  delta g21_p29
  exact (g21_p3_eq a34 a35 a36 _ t0 t1 t5 t6 t7 t22 H K).trans (congrArg (g21_p3 a34 a35 a36 R t0 t1 t5 t6 t7 t22 H) (funext fun t0 => funext fun t1 => funext fun t5 => funext fun t6 => funext fun t7 => funext fun t57 => funext fun H => g21_p28_eq a34 a35 a36 la34 la35 la36 t0 t1 t5 t6 t7 t57 H K))
noncomputable def g21_p30 (a34 : T34) (a35 : T35) (a36 : T36) (R : Type) (t0 : Option (Nat × Nat)) (t1 : Int) (t5 : Int) (t6 : Int) (t7 : Bool) (t22 : Bool) (H : Heap) (kN : Heap → Option R) (kR : Int → Heap → Option R) : Option R :=
  sel t22 (g21_p2 a34 a35 a36 R t0 t1 t5 t6 t7 t22 H (fun H => kN  H) (fun t4 H => kR t4 H)) (g21_p29 a34 a35 a36 R t0 t1 t5 t6 t7 t22 H (fun H => kN  H) (fun t4 H => kR t4 H))
theorem g21_p30_lin {a34 : T34} {a35 : T35} {a36 : T36} (la34 : Lin34 a34) (la35 : Lin35 a35) (la36 : Lin36 a36) {R S : Type} {k : S → Option R} {t0 : Option (Nat × Nat)} {t1 : Int} {t5 : Int} {t6 : Int} {t7 : Bool} {t22 : Bool} {H : Heap} {fkN : Heap → Option R} {gkN : Heap → Option S} {fkR : Int → Heap → Option R} {gkR : Int → Heap → Option S} (hkN : ∀ H, fkN H = (gkN H).bind k) (hkR : ∀ t4 H, fkR t4 H = (gkR t4 H).bind k) : g21_p30 a34 a35 a36 R t0 t1 t5 t6 t7 t22 H fkN fkR = (g21_p30 a34 a35 a36 S t0 t1 t5 t6 t7 t22 H gkN gkR).bind k := by
  exact sl_lin (g21_p2_lin la34 la35 la36 (fun _ => hkN _) (fun _ _ => hkR _ _)) (g21_p29_lin la34 la35 la36 (fun _ => hkN _) (fun _ _ => hkR _ _))
theorem g21_p30_eq (a34 : T34) (a35 : T35) (a36 : T36) (la34 : Lin34 a34) (la35 : Lin35 a35) (la36 : Lin36 a36) {R : Type} (t0 : Option (Nat × Nat)) (t1 : Int) (t5 : Int) (t6 : Int) (t7 : Bool) (t22 : Bool) (H : Heap) (K : Ex → Fr → Heap → Option R) : ev Try.prog (E21 a34 a35 a36) loopLim Try.f21.ntmps kp21 c21_21 [(0, (V.p t0)), (1, (V.i .u8 t1)), (5, (V.i .u8 t5)), (6, (V.i .u8 t6)), (7, (V.b t7)), (22, (V.b t22))] H K = g21_p30 a34 a35 a36 R t0 t1 t5 t6 t7 t22 H (fun H => K .normal [] H) (fun t4 H => K .ret [(4, (V.i .i64 t4))] H) := by
  show ev Try.prog (E21 a34 a35 a36) loopLim Try.f21.ntmps kp21 (.cond (.tmp 22) c21_0 c21_20) [(0, (V.p t0)), (1, (V.i .u8 t1)), (5, (V.i .u8 t5)), (6, (V.i .u8 t6)), (7, (V.b t7)), (22, (V.b t22))] H K = _
  rw [ev_cond _ _ _ _ _ _ t22 rfl]
  delta g21_p30
  exact sc (g21_p2_eq a34 a35 a36 la34 la35 la36 t0 t1 t5 t6 t7 t22 H (kEnd kp21 (condId (.tmp 22)) K)) (g21_p29_eq a34 a35 a36 la34 la35 la36 t0 t1 t5 t6 t7 t22 H (kEnd kp21 (condId (.tmp 22)) K))
noncomputable def g21_p31 (a34 : T34) (a35 : T35) (a36 : T36) (R : Type) (t0 : Option (Nat × Nat)) (t1 : Int) (t5 : Int) (t6 : Int) (t7 : Bool) (H : Heap) (kN : Heap → Option R) (kR : Int → Heap → Option R) : Option R :=
  g21_p1 a34 a35 a36 R t0 t1 t5 t6 t7 H (fun t0 t1 t5 t6 t7 t22 H => g21_p30 a34 a35 a36 R t0 t1 t5 t6 t7 t22 H (fun H => kN  H) (fun t4 H => kR t4 H))
theorem g21_p31_lin {a34 : T34} {a35 : T35} {a36 : T36} (la34 : Lin34 a34) (la35 : Lin35 a35) (la36 : Lin36 a36) {R S : Type} {k : S → Option R} {t0 : Option (Nat × Nat)} {t1 : Int} {t5 : Int} {t6 : Int} {t7 : Bool} {H : Heap} {fkN : Heap → Option R} {gkN : Heap → Option S} {fkR : Int → Heap → Option R} {gkR : Int → Heap → Option S} (hkN : ∀ H, fkN H = (gkN H).bind k) (hkR : ∀ t4 H, fkR t4 H = (gkR t4 H).bind k) : g21_p31 a34 a35 a36 R t0 t1 t5 t6 t7 H fkN fkR = (g21_p31 a34 a35 a36 S t0 t1 t5 t6 t7 H gkN gkR).bind k := by
  exact g21_p1_lin la34 la35 la36 (fun _ _ _ _ _ _ _ => g21_p30_lin la34 la35 la36 (fun _ => hkN _) (fun _ _ => hkR _ _))
theorem g21_p31_eq (a34 : T34) (a35 : T35) (a36 : T36) (la34 : Lin34 a34) (la35 : Lin35 a35) (la36 : Lin36 a36) {R : Type} (t0 : Option (Nat × Nat)) (t1 : Int) (t5 : Int) (t6 : Int) (t7 : Bool) (H : Heap) (K : Ex → Fr → Heap → Option R) : ev Try.prog (E21 a34 a35 a36) loopLim Try.f21.ntmps kp21 c21_22 [(0, (V.p t0)), (1, (V.i .u8 t1)), (5, (V.i .u8 t5)), (6, (V.i .u8 t6)), (7, (V.b t7))] H K = g21_p31 a34 a35 a36 R t0 t1 t5 t6 t7 H (fun H => K .normal [] H) (fun t4 H => K .ret [(4, (V.i .i64 t4))] H) := by
  show ev Try.prog (E21 a34 a35 a36) loopLim Try.f21.ntmps kp21 (.seq (codeAt [1, 1, 1, 1, 0, 0, 0] b21) c21_21) [(0, (V.p t0)), (1, (V.i .u8 t1)), (5, (V.i .u8 t5)), (6, (V.i .u8 t6)), (7, (V.b t7))] H K = _
  delta g21_p31
  exact (g21_p1_eq a34 a35 a36 _ t0 t1 t5 t6 t7 H K).trans (congrArg (g21_p1 a34 a35 a36 R t0 t1 t5 t6 t7 H) (funext fun t0 => funext fun t1 => funext fun t5 => funext fun t6 => funext fun t7 => funext fun t22 => funext fun H => g21_p30_eq a34 a35 a36 la34 la35 la36 t0 t1 t5 t6 t7 t22 H K))
noncomputable def g21_p32 (a34 : T34) (a35 : T35) (a36 : T36) (R : Type) (t0 : Option (Nat × Nat)) (t1 : Int) (t5 : Int) (t6 : Int) (t7 : Bool) (H : Heap) (kN : Heap → Option R) (kR : Int → Heap → Option R) : Option R :=
  g21_p31 a34 a35 a36 R t0 t1 t5 t6 t7 H (fun H => kN  H) (fun t4 H => kR t4 H)
theorem g21_p32_lin {a34 : T34} {a35 : T35} {a36 : T36} (la34 : Lin34 a34) (la35 : Lin35 a35) (la36 : Lin36 a36) {R S : Type} {k : S → Option R} {t0 : Option (Nat × Nat)} {t1 : Int} {t5 : Int} {t6 : Int} {t7 : Bool} {H : Heap} {fkN : Heap → Option R} {gkN : Heap → Option S} {fkR : Int → Heap → Option R} {gkR : Int → Heap → Option S} (hkN : ∀ H, fkN H = (gkN H).bind k) (hkR : ∀ t4 H, fkR t4 H = (gkR t4 H).bind k) : g21_p32 a34 a35 a36 R t0 t1 t5 t6 t7 H fkN fkR = (g21_p32 a34 a35 a36 S t0 t1 t5 t6 t7 H gkN gkR).bind k := by
  exact g21_p31_lin la34 la35 la36 (fun _ => hkN _) (fun _ _ => hkR _ _)
theorem g21_p32_eq (a34 : T34) (a35 : T35) (a36 : T36) (la34 : Lin34 a34) (la35 : Lin35 a35) (la36 : Lin36 a36) {R : Type} (t0 : Option (Nat × Nat)) (t1 : Int) (t5 : Int) (t6 : Int) (t7 : Bool) (H : Heap) (K : Ex → Fr → Heap → Option R) : ev Try.prog (E21 a34 a35 a36) loopLim Try.f21.ntmps kp21 c21_23 [(0, (V.p t0)), (1, (V.i .u8 t1)), (5, (V.i .u8 t5)), (6, (V.i .u8 t6)), (7, (V.b t7))] H K = g21_p32 a34 a35 a36 R t0 t1 t5 t6 t7 H (fun H => K .normal [] H) (fun t4 H => K .ret [(4, (V.i .i64 t4))] H) := by
  show ev Try.prog (E21 a34 a35 a36) loopLim Try.f21.ntmps kp21 (.block 0 c21_22) [(0, (V.p t0)), (1, (V.i .u8 t1)), (5, (V.i .u8 t5)), (6, (V.i .u8 t6)), (7, (V.b t7))] H K = _
  rw [ev_block]
  delta g21_p32
  exact (g21_p31_eq a34 a35 a36 la34 la35 la36 t0 t1 t5 t6 t7 H (kBlock kp21 0 K))
noncomputable def g21_p33 (a34 : T34) (a35 : T35) (a36 : T36) (R : Type) (H : Heap) (kR : Int → Heap → Option R) : Option R :=
  kR (0 : Int) H
theorem g21_p33_eq (a34 : T34) (a35 : T35) (a36 : T36) (la34 : Lin34 a34) (la35 : Lin35 a35) (la36 : Lin36 a36) {R : Type} (H : Heap) (K : Ex → Fr → Heap → Option R) : ev Try.prog (E21 a34 a35 a36) loopLim Try.f21.ntmps kp21 c21_24 [] H K = g21_p33 a34 a35 a36 R H (fun t4 H => K .ret [(4, (V.i .i64 t4))] H) := by kernel_rfl
theorem g21_p33_lin {a34 : T34} {a35 : T35} {a36 : T36} (la34 : Lin34 a34) (la35 : Lin35 a35) (la36 : Lin36 a36) {R S : Type} {k : S → Option R} {H : Heap} {fkR : Int → Heap → Option R} {gkR : Int → Heap → Option S} (hkR : ∀ t4 H, fkR t4 H = (gkR t4 H).bind k) : g21_p33 a34 a35 a36 R H fkR = (g21_p33 a34 a35 a36 S H gkR).bind k := by
  delta g21_p33; exact (
    hkR _ _)
noncomputable def g21_p34 (a34 : T34) (a35 : T35) (a36 : T36) (R : Type) (t0 : Option (Nat × Nat)) (t1 : Int) (t5 : Int) (t6 : Int) (t7 : Bool) (H : Heap) (kR : Int → Heap → Option R) : Option R :=
  g21_p32 a34 a35 a36 R t0 t1 t5 t6 t7 H (fun H => g21_p33 a34 a35 a36 R H (fun t4 H => kR t4 H)) (fun t4 H => kR t4 H)
theorem g21_p34_lin {a34 : T34} {a35 : T35} {a36 : T36} (la34 : Lin34 a34) (la35 : Lin35 a35) (la36 : Lin36 a36) {R S : Type} {k : S → Option R} {t0 : Option (Nat × Nat)} {t1 : Int} {t5 : Int} {t6 : Int} {t7 : Bool} {H : Heap} {fkR : Int → Heap → Option R} {gkR : Int → Heap → Option S} (hkR : ∀ t4 H, fkR t4 H = (gkR t4 H).bind k) : g21_p34 a34 a35 a36 R t0 t1 t5 t6 t7 H fkR = (g21_p34 a34 a35 a36 S t0 t1 t5 t6 t7 H gkR).bind k := by
  exact g21_p32_lin la34 la35 la36 (fun _ => g21_p33_lin la34 la35 la36 (fun _ _ => hkR _ _)) (fun _ _ => hkR _ _)
theorem g21_p34_eq (a34 : T34) (a35 : T35) (a36 : T36) (la34 : Lin34 a34) (la35 : Lin35 a35) (la36 : Lin36 a36) {R : Type} (t0 : Option (Nat × Nat)) (t1 : Int) (t5 : Int) (t6 : Int) (t7 : Bool) (H : Heap) (K : Ex → Fr → Heap → Option R) : ev Try.prog (E21 a34 a35 a36) loopLim Try.f21.ntmps kp21 c21_25 [(0, (V.p t0)), (1, (V.i .u8 t1)), (5, (V.i .u8 t5)), (6, (V.i .u8 t6)), (7, (V.b t7))] H K = g21_p34 a34 a35 a36 R t0 t1 t5 t6 t7 H (fun t4 H => K .ret [(4, (V.i .i64 t4))] H) := by
  show ev Try.prog (E21 a34 a35 a36) loopLim Try.f21.ntmps kp21 (.seq c21_23 c21_24) [(0, (V.p t0)), (1, (V.i .u8 t1)), (5, (V.i .u8 t5)), (6, (V.i .u8 t6)), (7, (V.b t7))] H K = _
  rw [ev_seq]
  delta g21_p34
  exact (g21_p32_eq a34 a35 a36 la34 la35 la36 t0 t1 t5 t6 t7 H (kSeq (fun fr H => ev Try.prog (E21 a34 a35 a36) loopLim Try.f21.ntmps kp21 c21_24 fr H K) K)).trans (congr (congrArg (g21_p32 a34 a35 a36 R t0 t1 t5 t6 t7 H) (funext fun H => (kSeq_n _ _ _ _).trans (g21_p33_eq a34 a35 a36 la34 la35 la36 H K))) rfl)
noncomputable def g21_p35 (a34 : T34) (a35 : T35) (a36 : T36) (R : Type) (t0 : Option (Nat × Nat)) (t1 : Int) (H : Heap) (kR : Int → Heap → Option R) : Option R :=
  g21_p0 a34 a35 a36 R t0 t1 H (fun t0 t1 t5 t6 t7 H => g21_p34 a34 a35 a36 R t0 t1 t5 t6 t7 H (fun t4 H => kR t4 H))
theorem g21_p35_lin {a34 : T34} {a35 : T35} {a36 : T36} (la34 : Lin34 a34) (la35 : Lin35 a35) (la36 : Lin36 a36) {R S : Type} {k : S → Option R} {t0 : Option (Nat × Nat)} {t1 : Int} {H : Heap} {fkR : Int → Heap → Option R} {gkR : Int → Heap → Option S} (hkR : ∀ t4 H, fkR t4 H = (gkR t4 H).bind k) : g21_p35 a34 a35 a36 R t0 t1 H fkR = (g21_p35 a34 a35 a36 S t0 t1 H gkR).bind k := by
  exact g21_p0_lin la34 la35 la36 (fun _ _ _ _ _ _ => g21_p34_lin la34 la35 la36 (fun _ _ => hkR _ _))
theorem g21_p35_eq (a34 : T34) (a35 : T35) (a36 : T36) (la34 : Lin34 a34) (la35 : Lin35 a35) (la36 : Lin36 a36) {R : Type} (t0 : Option (Nat × Nat)) (t1 : Int) (H : Heap) (K : Ex → Fr → Heap → Option R) : ev Try.prog (E21 a34 a35 a36) loopLim Try.f21.ntmps kp21 c21_26 [(0, (V.p t0)), (1, (V.i .u8 t1))] H K = g21_p35 a34 a35 a36 R t0 t1 H (fun t4 H => K .ret [(4, (V.i .i64 t4))] H) := by
  show ev Try.prog (E21 a34 a35 a36) loopLim Try.f21.ntmps kp21 (.seq (codeAt [0] b21) (.seq (codeAt [1, 0] b21) (.seq (codeAt [1, 1, 0] b21) (.seq (codeAt [1, 1, 1, 0] b21) c21_25)))) [(0, (V.p t0)), (1, (V.i .u8 t1))] H K = _
  delta g21_p35
  exact (g21_p0_eq a34 a35 a36 _ t0 t1 H K).trans (congrArg (g21_p0 a34 a35 a36 R t0 t1 H) (funext fun t0 => funext fun t1 => funext fun t5 => funext fun t6 => funext fun t7 => funext fun H => g21_p34_eq a34 a35 a36 la34 la35 la36 t0 t1 t5 t6 t7 H K))
noncomputable def g21_r (a34 : T34) (a35 : T35) (a36 : T36) : T21 := fun R t0 t1 H K =>
  g21_p35 a34 a35 a36 R t0 t1 H (fun t4 H =>
    K t4 H)
theorem g21_r_lin {a34 : T34} {a35 : T35} {a36 : T36} (la34 : Lin34 a34) (la35 : Lin35 a35) (la36 : Lin36 a36) : Lin21 (g21_r a34 a35 a36) := by
  constructor
  intro R S k t0 t1 H f g h
  exact g21_p35_lin la34 la35 la36 (fun t4 H =>
    h _ _)
theorem g21_fn (a34 : T34) (a35 : T35) (a36 : T36) (la34 : Lin34 a34) (la35 : Lin35 a35) (la36 : Lin36 a36) {R : Type} (t0 : Option (Nat × Nat)) (t1 : Int) (H : Heap) (K : V → Heap → Option R) : evFn Try.prog (E21 a34 a35 a36) loopLim Try.f21 kp21 [(V.p t0), (V.i .u8 t1)] H K = g21_r a34 a35 a36 R t0 t1 H (fun r0 H => K (V.i .i64 r0) H) := by
  have h0 : ∀ (t4 : Int) (H : Heap), kFn Try.prog Try.f21.results.toList K .ret [(4, (V.i .i64 t4))] H =
      K (V.i .i64 t4) H := by intros; kernel_rfl
  have e0 := evFn_code2 (P := Try.prog) (c := c21_26) (E := (E21 a34 a35 a36)) (lr := loopLim) (kp := kp21) (fn := Try.f21) (args := [(V.p t0), (V.i .u8 t1)]) H K (by kernel_rfl) (Nat.le_of_ble_eq_true (by kernel_rfl)) (by kernel_rfl)
  have e1 : ev Try.prog (E21 a34 a35 a36) loopLim Try.f21.ntmps kp21 c21_26 (argFr 0 [(V.p t0), (V.i .u8 t1)]) H (kFn Try.prog Try.f21.results.toList K) = ev Try.prog (E21 a34 a35 a36) loopLim Try.f21.ntmps kp21 c21_26 [(0, (V.p t0)), (1, (V.i .u8 t1))] H (kFn Try.prog Try.f21.results.toList K) := by kernel_rfl
  refine (e0.trans e1).trans ?_
  delta g21_r
  exact (g21_p35_eq a34 a35 a36 la34 la35 la36 t0 t1 H (kFn Try.prog Try.f21.results.toList K)).trans (congrArg (g21_p35 a34 a35 a36 R t0 t1 H) (funext fun t4 => funext fun H => h0 t4 H))
theorem g21_ok {a34 : T34} {a35 : T35} {a36 : T36} (oa34 : FunOK Try.prog 34 (w34 a34)) (oa35 : FunOK Try.prog 35 (w35 a35)) (oa36 : FunOK Try.prog 36 (w36 a36)) (la34 : Lin34 a34) (la35 : Lin35 a35) (la36 : Lin36 a36) : FunOK Try.prog 21 (w21 (g21_r a34 a35 a36)) := by
  refine (runF_ok (E21_good oa34 oa35 oa36 la34 la35 la36) mixed lim_ok Try.func21 (by kernel_rfl) kp21).of_le fun R args H K r hk => ?_
  unfold w21 at hk
  split at hk
  · exact (g21_fn a34 a35 a36 la34 la35 la36 _ _ H K).trans hk
  · cases hk
end Go.Proofs.Ytkldpkemnmmbgaa

