/- Printed: functions as the machine runs them. -/
import Derived.Test.YtobebcfkddimkaaGT
namespace Go.Proofs.Ytobebcfkddimkaa
open Go AM Go.RowKit
set_option linter.unusedVariables false
def kp5 : Nat → Option (List Nat) := kpOf [(0, [0, 1]), (1, [0, 1, 22]), (2, [4]), (3, [0, 5]), (4, [0, 5, 6, 7]), (5, [0, 5, 6, 34]), (6, [4]), (7, [0, 5, 6, 8]), (8, [0, 5, 6, 8, 9]), (9, [0, 5, 6, 8, 9, 10]), (10, [0, 5, 6, 8, 9, 10, 38]), (11, [0, 5, 6, 8, 9, 10]), (12, [0, 5, 6, 8, 9, 10, 11, 500011, 1000011]), (13, [0, 5, 6, 8, 9, 10, 11, 49, 500011, 1000011]), (14, [4]), (15, [0, 5, 6, 8, 9, 10, 11, 52, 500011, 1000011]), (16, [0, 5, 6, 8, 9, 10, 12]), (17, [0, 5, 6, 8, 9, 10, 12, 13]), (18, [0, 5, 6, 8, 9, 10, 12, 13, 56]), (19, [0, 5, 6, 8, 9, 10, 12, 13]), (20, [0, 5, 6, 8, 9, 10, 12, 13]), (21, [0, 5, 6, 8, 9, 10, 12, 13, 72]), (22, [0, 5, 6, 8, 9, 10, 12, 13]), (23, [0, 5, 6, 8, 9, 10, 12, 13]), (24, [0, 5, 6, 8, 9, 10]), (25, [0, 5, 6, 8, 10, 106]), (26, [4]), (27, [0, 5, 6, 8, 9, 10]), (28, [0, 5, 6, 8, 9, 10, 11, 14, 15, 16, 500011, 1000011]), (29, [0, 5, 6, 8, 9, 10, 11, 14, 15, 16, 500011, 1000011]), (30, [0, 5, 6, 8, 9, 10, 11, 14, 15, 16, 500011, 1000011]), (31, [0, 5, 6, 8, 9, 10, 11, 14, 15, 16, 500011, 1000011]), (32, [0, 5, 6, 8, 9, 10, 14, 15, 16, 17, 18, 19]), (33, [0, 5, 6, 8, 9, 10, 151]), (34, [4]), (35, [4]), (100000, []), (100001, [0, 5, 6, 8, 9, 10]), (100002, [0, 5, 6, 9, 10, 12]), (100003, [0, 5, 6, 8, 9, 10, 12, 13]), (200000, [0, 5, 6, 8, 9, 10]), (200001, [0, 5, 6, 8, 9, 10]), (200002, [0, 5, 6, 8, 9, 10, 12, 13]), (200003, [0, 5, 6, 8, 9, 10, 12, 13]), (300000, [4]), (400022, [0, 1]), (400034, [0, 5, 6]), (400038, [0, 5, 6, 8, 9, 10]), (400049, [0, 5, 6, 8, 9, 10, 11, 500011, 1000011]), (400052, [0, 5, 6, 8, 9, 10, 11, 500011, 1000011]), (400056, [0, 5, 6, 8, 9, 10, 12, 13]), (400072, [0, 5, 6, 8, 9, 10, 12, 13]), (400106, [0, 5, 6, 8, 10]), (400151, [0, 5, 6, 8, 9, 10])]
def E5 (a9 : T9) (a10 : T10) (a11 : T11) (a15 : T15) (a14 : T14) (a13 : T13) (a16 : T16) : FEnv := [(9, w9 a9), (10, w10 a10), (11, w11 a11), (15, w15 a15), (14, w14 a14), (13, w13 a13), (16, w16 a16)]
theorem E5_good {a9 : T9} {a10 : T10} {a11 : T11} {a15 : T15} {a14 : T14} {a13 : T13} {a16 : T16} (oa9 : FunOK Try.prog 9 (w9 a9)) (oa10 : FunOK Try.prog 10 (w10 a10)) (oa11 : FunOK Try.prog 11 (w11 a11)) (oa15 : FunOK Try.prog 15 (w15 a15)) (oa14 : FunOK Try.prog 14 (w14 a14)) (oa13 : FunOK Try.prog 13 (w13 a13)) (oa16 : FunOK Try.prog 16 (w16 a16)) (la9 : Lin9 a9) (la10 : Lin10 a10) (la11 : Lin11 a11) (la15 : Lin15 a15) (la14 : Lin14 a14) (la13 : Lin13 a13) (la16 : Lin16 a16) : EnvGood Try.prog (E5 a9 a10 a11 a15 a14 a13 a16) := ((((((((EnvGood.nil _).cons oa16 (w16_lin la16)).cons oa13 (w13_lin la13)).cons oa14 (w14_lin la14)).cons oa15 (w15_lin la15)).cons oa11 (w11_lin la11)).cons oa10 (w10_lin la10)).cons oa9 (w9_lin la9))
theorem E5_lin {a9 : T9} {a10 : T10} {a11 : T11} {a15 : T15} {a14 : T14} {a13 : T13} {a16 : T16} (la9 : Lin9 a9) (la10 : Lin10 a10) (la11 : Lin11 a11) (la15 : Lin15 a15) (la14 : Lin14 a14) (la13 : Lin13 a13) (la16 : Lin16 a16) : EnvLin (E5 a9 a10 a11 a15 a14 a13 a16) := by
  intro g F h
  simp only [E5, List.mem_cons, List.not_mem_nil, or_false] at h
  rcases h with h | h | h | h | h | h | h
  · cases h; exact w9_lin la9
  · cases h; exact w10_lin la10
  · cases h; exact w11_lin la11
  · cases h; exact w15_lin la15
  · cases h; exact w14_lin la14
  · cases h; exact w13_lin la13
  · cases h; exact w16_lin la16
def lv5 : Nat → Bool := lvOf [11]
noncomputable def b5 : Code := Try.f5.body.getD .skip
noncomputable def c5_0 : Code := (.seq (codeAt [1, 1, 1, 1, 1, 1, 1, 0, 1, 0, 0, 1, 0, 0, 1, 1, 0, 1, 0, 1, 0, 1, 0, 0, 0, 0] b5) (.seq (.cond (.tmp 56) .skip (.exit 2)) (.seq (.block 3 (.seq (codeAt [1, 1, 1, 1, 1, 1, 1, 0, 1, 0, 0, 1, 0, 0, 1, 1, 0, 1, 0, 1, 0, 1, 0, 0, 1, 0, 0, 0] b5) (.seq (codeAt [1, 1, 1, 1, 1, 1, 1, 0, 1, 0, 0, 1, 0, 0, 1, 1, 0, 1, 0, 1, 0, 1, 0, 0, 1, 0, 0, 1, 0] b5) (.cond (.tmp 72) (codeAt [1, 1, 1, 1, 1, 1, 1, 0, 1, 0, 0, 1, 0, 0, 1, 1, 0, 1, 0, 1, 0, 1, 0, 0, 1, 0, 0, 1, 1, 0] b5) (codeAt [1, 1, 1, 1, 1, 1, 1, 0, 1, 0, 0, 1, 0, 0, 1, 1, 0, 1, 0, 1, 0, 1, 0, 0, 1, 0, 0, 1, 1, 1] b5))))) (codeAt [1, 1, 1, 1, 1, 1, 1, 0, 1, 0, 0, 1, 0, 0, 1, 1, 0, 1, 0, 1, 0, 1, 0, 0, 1, 1] b5))))
noncomputable def c5_1 : Code := (.loop c5_0)
noncomputable def c5_2 : Code := (.block 2 c5_1)
noncomputable def c5_3 : Code := (.seq (codeAt [1, 1, 1, 1, 1, 1, 1, 0, 1, 0, 0, 1, 0, 0, 1, 1, 0, 1, 0, 1, 1, 0] b5) (.seq (codeAt [1, 1, 1, 1, 1, 1, 1, 0, 1, 0, 0, 1, 0, 0, 1, 1, 0, 1, 0, 1, 1, 1, 0, 0] b5) (.seq (.cond (.tmp 106) (.seq (codeAt [1, 1, 1, 1, 1, 1, 1, 0, 1, 0, 0, 1, 0, 0, 1, 1, 0, 1, 0, 1, 1, 1, 0, 1, 0, 0] b5) .ret) .skip) (.seq (codeAt [1, 1, 1, 1, 1, 1, 1, 0, 1, 0, 0, 1, 0, 0, 1, 1, 0, 1, 0, 1, 1, 1, 1, 0] b5) (.exit 1)))))
noncomputable def c5_4 : Code := (.seq c5_2 c5_3)
noncomputable def c5_5 : Code := (.seq (codeAt [1, 1, 1, 1, 1, 1, 1, 0, 1, 0, 0, 1, 0, 0, 1, 1, 0, 1, 0, 0] b5) (.seq (codeAt [1, 1, 1, 1, 1, 1, 1, 0, 1, 0, 0, 1, 0, 0, 1, 1, 0, 1, 0, 1, 0, 0] b5) c5_4))
noncomputable def c5_6 : Code := .skip
noncomputable def c5_7 : Code := (.cond (.tmp 52) c5_5 c5_6)
noncomputable def c5_8 : Code := (.seq (codeAt [1, 1, 1, 1, 1, 1, 1, 0, 1, 0, 0, 1, 0, 0, 1, 1, 1, 0] b5) (.seq (codeAt [1, 1, 1, 1, 1, 1, 1, 0, 1, 0, 0, 1, 0, 0, 1, 1, 1, 1, 0] b5) (.seq (codeAt [1, 1, 1, 1, 1, 1, 1, 0, 1, 0, 0, 1, 0, 0, 1, 1, 1, 1, 1, 0] b5) (.seq (codeAt [1, 1, 1, 1, 1, 1, 1, 0, 1, 0, 0, 1, 0, 0, 1, 1, 1, 1, 1, 1, 0] b5) (.seq (codeAt [1, 1, 1, 1, 1, 1, 1, 0, 1, 0, 0, 1, 0, 0, 1, 1, 1, 1, 1, 1, 1, 0] b5) (.seq (codeAt [1, 1, 1, 1, 1, 1, 1, 0, 1, 0, 0, 1, 0, 0, 1, 1, 1, 1, 1, 1, 1, 1, 0] b5) (.cond (.tmp 151) (.seq (codeAt [1, 1, 1, 1, 1, 1, 1, 0, 1, 0, 0, 1, 0, 0, 1, 1, 1, 1, 1, 1, 1, 1, 1, 0, 0] b5) .ret) .skip)))))))
noncomputable def c5_9 : Code := (.seq c5_7 c5_8)
noncomputable def c5_10 : Code := (.seq (codeAt [1, 1, 1, 1, 1, 1, 1, 0, 1, 0, 0, 1, 0, 0, 0] b5) (.seq (codeAt [1, 1, 1, 1, 1, 1, 1, 0, 1, 0, 0, 1, 0, 0, 1, 0, 0] b5) (.seq (.cond (.tmp 49) (.seq (codeAt [1, 1, 1, 1, 1, 1, 1, 0, 1, 0, 0, 1, 0, 0, 1, 0, 1, 0, 0] b5) .ret) .skip) (.seq (codeAt [1, 1, 1, 1, 1, 1, 1, 0, 1, 0, 0, 1, 0, 0, 1, 1, 0, 0] b5) c5_9))))
noncomputable def c5_11 : Code := (.block 1 c5_10)
noncomputable def c5_12 : Code := (codeAt [1, 1, 1, 1, 1, 1, 1, 0, 1, 0, 0, 1, 1] b5)
noncomputable def c5_13 : Code := (.seq c5_11 c5_12)
noncomputable def c5_14 : Code := (.seq (codeAt [1, 1, 1, 1, 1, 1, 1, 0, 1, 0, 0, 0, 0] b5) (.seq (.cond (.tmp 38) .skip (.exit 0)) c5_13))
noncomputable def c5_15 : Code := (.loop c5_14)
noncomputable def c5_16 : Code := (.block 0 c5_15)
noncomputable def c5_17 : Code := (.seq (codeAt [1, 1, 1, 1, 1, 1, 1, 1, 0] b5) .ret)
noncomputable def c5_18 : Code := (.seq c5_16 c5_17)
noncomputable def c5_19 : Code := (.seq (codeAt [0] b5) (.seq (codeAt [1, 0, 0] b5) (.seq (.cond (.tmp 22) (.seq (codeAt [1, 0, 1, 0, 0] b5) .ret) .skip) (.seq (codeAt [1, 1, 0] b5) (.seq (codeAt [1, 1, 1, 0] b5) (.seq (codeAt [1, 1, 1, 1, 0, 0] b5) (.seq (.cond (.tmp 34) (.seq (codeAt [1, 1, 1, 1, 0, 1, 0, 0] b5) .ret) .skip) (.seq (codeAt [1, 1, 1, 1, 1, 0] b5) (.seq (codeAt [1, 1, 1, 1, 1, 1, 0] b5) (.seq (codeAt [1, 1, 1, 1, 1, 1, 1, 0, 0] b5) c5_18))))))))))
noncomputable def g5_p0 (a9 : T9) (a10 : T10) (a11 : T11) (a15 : T15) (a14 : T14) (a13 : T13) (a16 : T16) (R : Type) (t0 : Sl) (t1 : Int) (H : Heap) (kN : Sl → Int → Option (Nat × Nat) → Sl → Sl → Int → Heap → Option R) (kR : Bool → Heap → Option R) : Option R :=
  sel (decide (((t0.len : Nat) : Int) > (60 : Int))) (
    a9 R H fun x30 h31 =>
    kR x30 h31) (
    a10 R (IntKind.wrap .i64 ((1 : Int) + (IntKind.wrap .i64 (Int.tmod t1 (5 : Int))))) H fun x32 x33 h34 =>
    sel (x33 != (0 : Int)) (
      kR false h34) (
      kN t0 (IntKind.wrap .i64 ((1 : Int) + (IntKind.wrap .i64 (Int.tmod t1 (5 : Int))))) x32 (Sl.mk none 0 (.ex 0)) (Sl.mk none 0 (.ex 0)) (0 : Int) h34))
theorem g5_p0_eq (a9 : T9) (a10 : T10) (a11 : T11) (a15 : T15) (a14 : T14) (a13 : T13) (a16 : T16) {R : Type} (c2 : Code) (t0 : Sl) (t1 : Int) (H : Heap) (K : Ex → Fr → Heap → Option R) : ev2 Try.prog (E5 a9 a10 a11 a15 a14 a13 a16) loopLim lv5 Try.f5.ntmps kp5 (.seq (codeAt [0] b5) (.seq (codeAt [1, 0, 0] b5) (.seq (.cond (.tmp 22) (.seq (codeAt [1, 0, 1, 0, 0] b5) .ret) .skip) (.seq (codeAt [1, 1, 0] b5) (.seq (codeAt [1, 1, 1, 0] b5) (.seq (codeAt [1, 1, 1, 1, 0, 0] b5) (.seq (.cond (.tmp 34) (.seq (codeAt [1, 1, 1, 1, 0, 1, 0, 0] b5) .ret) .skip) (.seq (codeAt [1, 1, 1, 1, 1, 0] b5) (.seq (codeAt [1, 1, 1, 1, 1, 1, 0] b5) (.seq (codeAt [1, 1, 1, 1, 1, 1, 1, 0, 0] b5) c2)))))))))) [(0, (V.sl t0)), (1, (V.i .u8 t1))] H K = g5_p0 a9 a10 a11 a15 a14 a13 a16 R t0 t1 H (fun t0 t5 t6 t8 t9 t10 H => ev2 Try.prog (E5 a9 a10 a11 a15 a14 a13 a16) loopLim lv5 Try.f5.ntmps kp5 c2 [(0, (V.sl t0)), (5, (V.i .i64 t5)), (6, (V.p t6)), (8, (V.sl t8)), (9, (V.sl t9)), (10, (V.i .i64 t10))] H K) (fun t4 H => K .ret [(4, (V.b t4))] H) := by kernel_rfl
theorem g5_p0_lin {a9 : T9} {a10 : T10} {a11 : T11} {a15 : T15} {a14 : T14} {a13 : T13} {a16 : T16} (la9 : Lin9 a9) (la10 : Lin10 a10) (la11 : Lin11 a11) (la15 : Lin15 a15) (la14 : Lin14 a14) (la13 : Lin13 a13) (la16 : Lin16 a16) {R S : Type} {k : S → Option R} {t0 : Sl} {t1 : Int} {H : Heap} {fkN : Sl → Int → Option (Nat × Nat) → Sl → Sl → Int → Heap → Option R} {gkN : Sl → Int → Option (Nat × Nat) → Sl → Sl → Int → Heap → Option S} {fkR : Bool → Heap → Option R} {gkR : Bool → Heap → Option S} (hkN : ∀ t0 t5 t6 t8 t9 t10 H, fkN t0 t5 t6 t8 t9 t10 H = (gkN t0 t5 t6 t8 t9 t10 H).bind k) (hkR : ∀ t4 H, fkR t4 H = (gkR t4 H).bind k) : g5_p0 a9 a10 a11 a15 a14 a13 a16 R t0 t1 H fkN fkR = (g5_p0 a9 a10 a11 a15 a14 a13 a16 S t0 t1 H gkN gkR).bind k := by
  delta g5_p0; exact (
    sl_lin (
      la9.l fun x30 h31 =>
      hkR _ _) (
      la10.l fun x32 x33 h34 =>
      sl_lin (
        hkR _ _) (
        hkN _ _ _ _ _ _ _)))
noncomputable def g5_p1 (a9 : T9) (a10 : T10) (a11 : T11) (a15 : T15) (a14 : T14) (a13 : T13) (a16 : T16) (R : Type) (t0 : Sl) (t5 : Int) (t6 : Option (Nat × Nat)) (t8 : Sl) (t9 : Sl) (t10 : Int) (H : Heap) (kN : Sl → Int → Option (Nat × Nat) → Sl → Sl → Int → Heap → Option R) (kE0 : Heap → Option R) : Option R :=
  sel (decide (t10 < ((t0.len : Nat) : Int))) (
    kN t0 t5 t6 t8 t9 t10 H) (
    kE0 H)
theorem g5_p1_eq (a9 : T9) (a10 : T10) (a11 : T11) (a15 : T15) (a14 : T14) (a13 : T13) (a16 : T16) {R : Type} (c2 : Code) (t0 : Sl) (t5 : Int) (t6 : Option (Nat × Nat)) (t8 : Sl) (t9 : Sl) (t10 : Int) (H : Heap) (K : Ex → Fr → Heap → Option R) : ev2 Try.prog (E5 a9 a10 a11 a15 a14 a13 a16) loopLim lv5 Try.f5.ntmps kp5 (.seq (codeAt [1, 1, 1, 1, 1, 1, 1, 0, 1, 0, 0, 0, 0] b5) (.seq (.cond (.tmp 38) .skip (.exit 0)) c2)) [(0, (V.sl t0)), (5, (V.i .i64 t5)), (6, (V.p t6)), (8, (V.sl t8)), (9, (V.sl t9)), (10, (V.i .i64 t10))] H K = g5_p1 a9 a10 a11 a15 a14 a13 a16 R t0 t5 t6 t8 t9 t10 H (fun t0 t5 t6 t8 t9 t10 H => ev2 Try.prog (E5 a9 a10 a11 a15 a14 a13 a16) loopLim lv5 Try.f5.ntmps kp5 c2 [(0, (V.sl t0)), (5, (V.i .i64 t5)), (6, (V.p t6)), (8, (V.sl t8)), (9, (V.sl t9)), (10, (V.i .i64 t10))] H K) (fun H => K (.exit 0) [] H) := by kernel_rfl
theorem g5_p1_lin {a9 : T9} {a10 : T10} {a11 : T11} {a15 : T15} {a14 : T14} {a13 : T13} {a16 : T16} (la9 : Lin9 a9) (la10 : Lin10 a10) (la11 : Lin11 a11) (la15 : Lin15 a15) (la14 : Lin14 a14) (la13 : Lin13 a13) (la16 : Lin16 a16) {R S : Type} {k : S → Option R} {t0 : Sl} {t5 : Int} {t6 : Option (Nat × Nat)} {t8 : Sl} {t9 : Sl} {t10 : Int} {H : Heap} {fkN : Sl → Int → Option (Nat × Nat) → Sl → Sl → Int → Heap → Option R} {gkN : Sl → Int → Option (Nat × Nat) → Sl → Sl → Int → Heap → Option S} {fkE0 : Heap → Option R} {gkE0 : Heap → Option S} (hkN : ∀ t0 t5 t6 t8 t9 t10 H, fkN t0 t5 t6 t8 t9 t10 H = (gkN t0 t5 t6 t8 t9 t10 H).bind k) (hkE0 : ∀ H, fkE0 H = (gkE0 H).bind k) : g5_p1 a9 a10 a11 a15 a14 a13 a16 R t0 t5 t6 t8 t9 t10 H fkN fkE0 = (g5_p1 a9 a10 a11 a15 a14 a13 a16 S t0 t5 t6 t8 t9 t10 H gkN gkE0).bind k := by
  delta g5_p1; exact (
    sl_lin (
      hkN _ _ _ _ _ _ _) (
      hkE0 _))
noncomputable def g5_p2 (a9 : T9) (a10 : T10) (a11 : T11) (a15 : T15) (a14 : T14) (a13 : T13) (a16 : T16) (R : Type) (t0 : Sl) (t5 : Int) (t6 : Option (Nat × Nat)) (t8 : Sl) (t9 : Sl) (t10 : Int) (H : Heap) (kN : Sl → Int → Option (Nat × Nat) → Sl → Sl → Int → Bool → Bool → Int → Int → Bool → Int → Sl → Heap → Option R) (kR : Bool → Heap → Option R) : Option R :=
  if 0 ≤ t10 ∧ t10 < ((t0.len : Nat) : Int) then (
    (t0.a).bind fun q58 =>
    ((H).ldB q58.1 ((q58.2 + Int.toNat t10 * 6) + 0)).bind fun x59 =>
    ((H).ldI .u16 q58.1 ((q58.2 + Int.toNat t10 * 6) + 1)).bind fun x60 =>
    ((H).ldI .u32 q58.1 ((q58.2 + Int.toNat t10 * 6) + 2)).bind fun x61 =>
    ((H).ldB q58.1 ((q58.2 + Int.toNat t10 * 6) + 3)).bind fun x62 =>
    ((H).ldI .u8 q58.1 ((q58.2 + Int.toNat t10 * 6) + 4)).bind fun x63 =>
    ((H).ldSl q58.1 ((q58.2 + Int.toNat t10 * 6) + 5)).bind fun x64 =>
    sel (decide (((x64.len : Nat) : Int) > (300 : Int))) (
      a9 R H fun x65 h66 =>
      kR x65 h66) (
      kN t0 t5 t6 t8 t9 t10 x59 x59 x60 x61 x62 x63 x64 H))
  else (
    none)
theorem g5_p2_eq (a9 : T9) (a10 : T10) (a11 : T11) (a15 : T15) (a14 : T14) (a13 : T13) (a16 : T16) {R : Type} (c2 : Code) (t0 : Sl) (t5 : Int) (t6 : Option (Nat × Nat)) (t8 : Sl) (t9 : Sl) (t10 : Int) (H : Heap) (K : Ex → Fr → Heap → Option R) : ev2 Try.prog (E5 a9 a10 a11 a15 a14 a13 a16) loopLim lv5 Try.f5.ntmps kp5 (.seq (codeAt [1, 1, 1, 1, 1, 1, 1, 0, 1, 0, 0, 1, 0, 0, 0] b5) (.seq (codeAt [1, 1, 1, 1, 1, 1, 1, 0, 1, 0, 0, 1, 0, 0, 1, 0, 0] b5) (.seq (.cond (.tmp 49) (.seq (codeAt [1, 1, 1, 1, 1, 1, 1, 0, 1, 0, 0, 1, 0, 0, 1, 0, 1, 0, 0] b5) .ret) .skip) (.seq (codeAt [1, 1, 1, 1, 1, 1, 1, 0, 1, 0, 0, 1, 0, 0, 1, 1, 0, 0] b5) c2)))) [(0, (V.sl t0)), (5, (V.i .i64 t5)), (6, (V.p t6)), (8, (V.sl t8)), (9, (V.sl t9)), (10, (V.i .i64 t10))] H K = g5_p2 a9 a10 a11 a15 a14 a13 a16 R t0 t5 t6 t8 t9 t10 H (fun t0 t5 t6 t8 t9 t10 t52 t500011_0 t500011_1 t500011_2 t500011_3 t500011_4 t500011_5 H => ev2 Try.prog (E5 a9 a10 a11 a15 a14 a13 a16) loopLim lv5 Try.f5.ntmps kp5 c2 [(0, (V.sl t0)), (5, (V.i .i64 t5)), (6, (V.p t6)), (8, (V.sl t8)), (9, (V.sl t9)), (10, (V.i .i64 t10)), (52, (V.b t52)), (500011, (V.agg [(V.b t500011_0), (V.i .u16 t500011_1), (V.i .u32 t500011_2), (V.b t500011_3), (V.i .u8 t500011_4), (V.sl t500011_5)])), (1000011, (V.p (some (11, 0))))] H K) (fun t4 H => K .ret [(4, (V.b t4))] H) := by kernel_rfl
theorem g5_p2_lin {a9 : T9} {a10 : T10} {a11 : T11} {a15 : T15} {a14 : T14} {a13 : T13} {a16 : T16} (la9 : Lin9 a9) (la10 : Lin10 a10) (la11 : Lin11 a11) (la15 : Lin15 a15) (la14 : Lin14 a14) (la13 : Lin13 a13) (la16 : Lin16 a16) {R S : Type} {k : S → Option R} {t0 : Sl} {t5 : Int} {t6 : Option (Nat × Nat)} {t8 : Sl} {t9 : Sl} {t10 : Int} {H : Heap} {fkN : Sl → Int → Option (Nat × Nat) → Sl → Sl → Int → Bool → Bool → Int → Int → Bool → Int → Sl → Heap → Option R} {gkN : Sl → Int → Option (Nat × Nat) → Sl → Sl → Int → Bool → Bool → Int → Int → Bool → Int → Sl → Heap → Option S} {fkR : Bool → Heap → Option R} {gkR : Bool → Heap → Option S} (hkN : ∀ t0 t5 t6 t8 t9 t10 t52 t500011_0 t500011_1 t500011_2 t500011_3 t500011_4 t500011_5 H, fkN t0 t5 t6 t8 t9 t10 t52 t500011_0 t500011_1 t500011_2 t500011_3 t500011_4 t500011_5 H = (gkN t0 t5 t6 t8 t9 t10 t52 t500011_0 t500011_1 t500011_2 t500011_3 t500011_4 t500011_5 H).bind k) (hkR : ∀ t4 H, fkR t4 H = (gkR t4 H).bind k) : g5_p2 a9 a10 a11 a15 a14 a13 a16 R t0 t5 t6 t8 t9 t10 H fkN fkR = (g5_p2 a9 a10 a11 a15 a14 a13 a16 S t0 t5 t6 t8 t9 t10 H gkN gkR).bind k := by
  delta g5_p2; exact (
    il (
      bl fun q58 =>
      bl fun x59 =>
      bl fun x60 =>
      bl fun x61 =>
      bl fun x62 =>
      bl fun x63 =>
      bl fun x64 =>
      sl_lin (
        la9.l fun x65 h66 =>
        hkR _ _) (
        hkN _ _ _ _ _ _ _ _ _ _ _ _ _ _)) (
      rfl))
noncomputable def g5_p3 (a9 : T9) (a10 : T10) (a11 : T11) (a15 : T15) (a14 : T14) (a13 : T13) (a16 : T16) (R : Type) (t0 : Sl) (t5 : Int) (t6 : Option (Nat × Nat)) (t8 : Sl) (t9 : Sl) (t10 : Int) (t52 : Bool) (t500011_0 : Bool) (t500011_1 : Int) (t500011_2 : Int) (t500011_3 : Bool) (t500011_4 : Int) (t500011_5 : Sl) (H : Heap) (kN : Sl → Int → Option (Nat × Nat) → Sl → Sl → Int → Sl → Int → Heap → Option R) : Option R :=
  kN t0 t5 t6 t8 t9 t10 (Sl.mk none 0 (.ex 0)) (0 : Int) H
theorem g5_p3_eq (a9 : T9) (a10 : T10) (a11 : T11) (a15 : T15) (a14 : T14) (a13 : T13) (a16 : T16) {R : Type} (c2 : Code) (t0 : Sl) (t5 : Int) (t6 : Option (Nat × Nat)) (t8 : Sl) (t9 : Sl) (t10 : Int) (t52 : Bool) (t500011_0 : Bool) (t500011_1 : Int) (t500011_2 : Int) (t500011_3 : Bool) (t500011_4 : Int) (t500011_5 : Sl) (H : Heap) (K : Ex → Fr → Heap → Option R) : ev2 Try.prog (E5 a9 a10 a11 a15 a14 a13 a16) loopLim lv5 Try.f5.ntmps kp5 (.seq (codeAt [1, 1, 1, 1, 1, 1, 1, 0, 1, 0, 0, 1, 0, 0, 1, 1, 0, 1, 0, 0] b5) (.seq (codeAt [1, 1, 1, 1, 1, 1, 1, 0, 1, 0, 0, 1, 0, 0, 1, 1, 0, 1, 0, 1, 0, 0] b5) c2)) [(0, (V.sl t0)), (5, (V.i .i64 t5)), (6, (V.p t6)), (8, (V.sl t8)), (9, (V.sl t9)), (10, (V.i .i64 t10)), (52, (V.b t52)), (500011, (V.agg [(V.b t500011_0), (V.i .u16 t500011_1), (V.i .u32 t500011_2), (V.b t500011_3), (V.i .u8 t500011_4), (V.sl t500011_5)])), (1000011, (V.p (some (11, 0))))] H K = g5_p3 a9 a10 a11 a15 a14 a13 a16 R t0 t5 t6 t8 t9 t10 t52 t500011_0 t500011_1 t500011_2 t500011_3 t500011_4 t500011_5 H (fun t0 t5 t6 t8 t9 t10 t12 t13 H => ev2 Try.prog (E5 a9 a10 a11 a15 a14 a13 a16) loopLim lv5 Try.f5.ntmps kp5 c2 [(0, (V.sl t0)), (5, (V.i .i64 t5)), (6, (V.p t6)), (8, (V.sl t8)), (9, (V.sl t9)), (10, (V.i .i64 t10)), (12, (V.sl t12)), (13, (V.i .i64 t13))] H K) := by kernel_rfl
theorem g5_p3_lin {a9 : T9} {a10 : T10} {a11 : T11} {a15 : T15} {a14 : T14} {a13 : T13} {a16 : T16} (la9 : Lin9 a9) (la10 : Lin10 a10) (la11 : Lin11 a11) (la15 : Lin15 a15) (la14 : Lin14 a14) (la13 : Lin13 a13) (la16 : Lin16 a16) {R S : Type} {k : S → Option R} {t0 : Sl} {t5 : Int} {t6 : Option (Nat × Nat)} {t8 : Sl} {t9 : Sl} {t10 : Int} {t52 : Bool} {t500011_0 : Bool} {t500011_1 : Int} {t500011_2 : Int} {t500011_3 : Bool} {t500011_4 : Int} {t500011_5 : Sl} {H : Heap} {fkN : Sl → Int → Option (Nat × Nat) → Sl → Sl → Int → Sl → Int → Heap → Option R} {gkN : Sl → Int → Option (Nat × Nat) → Sl → Sl → Int → Sl → Int → Heap → Option S} (hkN : ∀ t0 t5 t6 t8 t9 t10 t12 t13 H, fkN t0 t5 t6 t8 t9 t10 t12 t13 H = (gkN t0 t5 t6 t8 t9 t10 t12 t13 H).bind k) : g5_p3 a9 a10 a11 a15 a14 a13 a16 R t0 t5 t6 t8 t9 t10 t52 t500011_0 t500011_1 t500011_2 t500011_3 t500011_4 t500011_5 H fkN = (g5_p3 a9 a10 a11 a15 a14 a13 a16 S t0 t5 t6 t8 t9 t10 t52 t500011_0 t500011_1 t500011_2 t500011_3 t500011_4 t500011_5 H gkN).bind k := by
  delta g5_p3; exact (
    hkN _ _ _ _ _ _ _ _ _)
noncomputable def g5_p4 (a9 : T9) (a10 : T10) (a11 : T11) (a15 : T15) (a14 : T14) (a13 : T13) (a16 : T16) (R : Type) (t0 : Sl) (t5 : Int) (t6 : Option (Nat × Nat)) (t8 : Sl) (t9 : Sl) (t10 : Int) (t12 : Sl) (t13 : Int) (H : Heap) (kN : Sl → Int → Option (Nat × Nat) → Sl → Sl → Int → Sl → Int → Heap → Option R) (kE2 : Sl → Int → Option (Nat × Nat) → Sl → Int → Sl → Heap → Option R) : Option R :=
  sel (decide (t13 < ((t8.len : Nat) : Int))) (
    if 0 ≤ t13 ∧ t13 < ((t8.len : Nat) : Int) then (
      (t8.a).bind fun q67 =>
      ((H).ldI .i64 q67.1 ((q67.2 + Int.toNat t13 * 5) + 4)).bind fun x68 =>
      if 0 ≤ t13 ∧ t13 < ((t8.len : Nat) : Int) then (
        (t8.a).bind fun q69 =>
        ((H).st q69.1 ((q69.2 + Int.toNat t13 * 5) + 4) (V.i .i64 (IntKind.wrap .i64 (x68 - (1 : Int))))).bind fun h71 =>
        if 0 ≤ t13 ∧ t13 < ((t8.len : Nat) : Int) then (
          (t8.a).bind fun q72 =>
          ((h71).ldI .i64 q72.1 ((q72.2 + Int.toNat t13 * 5) + 4)).bind fun x73 =>
          sel (decide (x73 > (0 : Int))) (
            if 0 ≤ t13 ∧ t13 < ((t8.len : Nat) : Int) then (
              (t8.a).bind fun q74 =>
              ((h71).ldI .u16 q74.1 ((q74.2 + Int.toNat t13 * 5) + 0)).bind fun x75 =>
              ((h71).ldI .u32 q74.1 ((q74.2 + Int.toNat t13 * 5) + 1)).bind fun x76 =>
              ((h71).ldS q74.1 ((q74.2 + Int.toNat t13 * 5) + 2)).bind fun x77 =>
              ((h71).ldI .i64 q74.1 ((q74.2 + Int.toNat t13 * 5) + 3)).bind fun x78 =>
              ((h71).ldI .i64 q74.1 ((q74.2 + Int.toNat t13 * 5) + 4)).bind fun x79 =>
              alo h71 (.cells [(V.i .u16 x75), (V.i .u32 x76), (V.s x77), (V.i .i64 x78), (V.i .i64 x79)] 55 false) fun i80 h81 =>
              ((slCells h81 5 (Sl.mk (some (i80, 0)) 1 (.ex 1)))).bind fun vs84 =>
              appendV h81 55 5 40 t12 (Sl.mk (some (i80, 0)) 1 (.ex 1)).len vs84 fun s82 h83 =>
              kN t0 t5 t6 t8 t9 t10 s82 (IntKind.wrap .i64 (t13 + (1 : Int))) h83)
            else (
              none)) (
            if 0 ≤ t13 ∧ t13 < ((t8.len : Nat) : Int) then (
              (t8.a).bind fun q85 =>
              ((h71).ldI .u16 q85.1 ((q85.2 + Int.toNat t13 * 5) + 0)).bind fun x86 =>
              if 0 ≤ t13 ∧ t13 < ((t8.len : Nat) : Int) then (
                (t8.a).bind fun q87 =>
                ((h71).ldI .u32 q87.1 ((q87.2 + Int.toNat t13 * 5) + 1)).bind fun x88 =>
                alo h71 (.cells [(V.i .u16 x86), (V.i .u32 x88)] 57 false) fun i89 h90 =>
                ((slCells h90 2 (Sl.mk (some (i89, 0)) 1 (.ex 1)))).bind fun vs93 =>
                appendV h90 57 2 8 t9 (Sl.mk (some (i89, 0)) 1 (.ex 1)).len vs93 fun s91 h92 =>
                kN t0 t5 t6 t8 s91 t10 t12 (IntKind.wrap .i64 (t13 + (1 : Int))) h92)
              else (
                none))
            else (
              none)))
        else (
          none))
      else (
        none))
    else (
      none)) (
    kE2 t0 t5 t6 t9 t10 t12 H)
theorem g5_p4_eq (a9 : T9) (a10 : T10) (a11 : T11) (a15 : T15) (a14 : T14) (a13 : T13) (a16 : T16) (la9 : Lin9 a9) (la10 : Lin10 a10) (la11 : Lin11 a11) (la15 : Lin15 a15) (la14 : Lin14 a14) (la13 : Lin13 a13) (la16 : Lin16 a16) {R : Type} (t0 : Sl) (t5 : Int) (t6 : Option (Nat × Nat)) (t8 : Sl) (t9 : Sl) (t10 : Int) (t12 : Sl) (t13 : Int) (H : Heap) (K : Ex → Fr → Heap → Option R) : ev2 Try.prog (E5 a9 a10 a11 a15 a14 a13 a16) loopLim lv5 Try.f5.ntmps kp5 c5_0 [(0, (V.sl t0)), (5, (V.i .i64 t5)), (6, (V.p t6)), (8, (V.sl t8)), (9, (V.sl t9)), (10, (V.i .i64 t10)), (12, (V.sl t12)), (13, (V.i .i64 t13))] H K = g5_p4 a9 a10 a11 a15 a14 a13 a16 R t0 t5 t6 t8 t9 t10 t12 t13 H (fun t0 t5 t6 t8 t9 t10 t12 t13 H => K .normal [(0, (V.sl t0)), (5, (V.i .i64 t5)), (6, (V.p t6)), (8, (V.sl t8)), (9, (V.sl t9)), (10, (V.i .i64 t10)), (12, (V.sl t12)), (13, (V.i .i64 t13))] H) (fun t0 t5 t6 t9 t10 t12 H => K (.exit 2) [(0, (V.sl t0)), (5, (V.i .i64 t5)), (6, (V.p t6)), (9, (V.sl t9)), (10, (V.i .i64 t10)), (12, (V.sl t12))] H) := by kernel_rfl
theorem g5_p4_lin {a9 : T9} {a10 : T10} {a11 : T11} {a15 : T15} {a14 : T14} {a13 : T13} {a16 : T16} (la9 : Lin9 a9) (la10 : Lin10 a10) (la11 : Lin11 a11) (la15 : Lin15 a15) (la14 : Lin14 a14) (la13 : Lin13 a13) (la16 : Lin16 a16) {R S : Type} {k : S → Option R} {t0 : Sl} {t5 : Int} {t6 : Option (Nat × Nat)} {t8 : Sl} {t9 : Sl} {t10 : Int} {t12 : Sl} {t13 : Int} {H : Heap} {fkN : Sl → Int → Option (Nat × Nat) → Sl → Sl → Int → Sl → Int → Heap → Option R} {gkN : Sl → Int → Option (Nat × Nat) → Sl → Sl → Int → Sl → Int → Heap → Option S} {fkE2 : Sl → Int → Option (Nat × Nat) → Sl → Int → Sl → Heap → Option R} {gkE2 : Sl → Int → Option (Nat × Nat) → Sl → Int → Sl → Heap → Option S} (hkN : ∀ t0 t5 t6 t8 t9 t10 t12 t13 H, fkN t0 t5 t6 t8 t9 t10 t12 t13 H = (gkN t0 t5 t6 t8 t9 t10 t12 t13 H).bind k) (hkE2 : ∀ t0 t5 t6 t9 t10 t12 H, fkE2 t0 t5 t6 t9 t10 t12 H = (gkE2 t0 t5 t6 t9 t10 t12 H).bind k) : g5_p4 a9 a10 a11 a15 a14 a13 a16 R t0 t5 t6 t8 t9 t10 t12 t13 H fkN fkE2 = (g5_p4 a9 a10 a11 a15 a14 a13 a16 S t0 t5 t6 t8 t9 t10 t12 t13 H gkN gkE2).bind k := by
  delta g5_p4; exact (
    sl_lin (
      il (
        bl fun q67 =>
        bl fun x68 =>
        il (
          bl fun q69 =>
          bl fun h71 =>
          il (
            bl fun q72 =>
            bl fun x73 =>
            sl_lin (
              il (
                bl fun q74 =>
                bl fun x75 =>
                bl fun x76 =>
                bl fun x77 =>
                bl fun x78 =>
                bl fun x79 =>
                alo_lin fun i80 h81 =>
                bl fun vs84 =>
                appendV_lin fun s82 h83 =>
                hkN _ _ _ _ _ _ _ _ _) (
                rfl)) (
              il (
                bl fun q85 =>
                bl fun x86 =>
                il (
                  bl fun q87 =>
                  bl fun x88 =>
                  alo_lin fun i89 h90 =>
                  bl fun vs93 =>
                  appendV_lin fun s91 h92 =>
                  hkN _ _ _ _ _ _ _ _ _) (
                  rfl)) (
                rfl))) (
            rfl)) (
          rfl)) (
        rfl)) (
      hkE2 _ _ _ _ _ _ _))
abbrev g5_p5_S := Sl × Int × (Option (Nat × Nat)) × Sl × Sl × Int × Sl × Int
abbrev g5_p5_O := Sl × Int × (Option (Nat × Nat)) × Sl × Int × Sl
def g5_p5_es (s : g5_p5_S) : Fr := [(0, (V.sl s.1)), (5, (V.i .i64 s.2.1)), (6, (V.p s.2.2.1)), (8, (V.sl s.2.2.2.1)), (9, (V.sl s.2.2.2.2.1)), (10, (V.i .i64 s.2.2.2.2.2.1)), (12, (V.sl s.2.2.2.2.2.2.1)), (13, (V.i .i64 s.2.2.2.2.2.2.2))]
def g5_p5_er (r : g5_p5_O) : Ex × Fr := ((.exit 2), [(0, (V.sl r.1)), (5, (V.i .i64 r.2.1)), (6, (V.p r.2.2.1)), (9, (V.sl r.2.2.2.1)), (10, (V.i .i64 r.2.2.2.2.1)), (12, (V.sl r.2.2.2.2.2))])
noncomputable def g5_p5_b (a9 : T9) (a10 : T10) (a11 : T11) (a15 : T15) (a14 : T14) (a13 : T13) (a16 : T16) (s : g5_p5_S) (H : Heap) : Option (Rd g5_p5_S g5_p5_O × Heap) :=
  g5_p4 a9 a10 a11 a15 a14 a13 a16 _ s.1 s.2.1 s.2.2.1 s.2.2.2.1 s.2.2.2.2.1 s.2.2.2.2.2.1 s.2.2.2.2.2.2.1 s.2.2.2.2.2.2.2 H (fun t0 t5 t6 t8 t9 t10 t12 t13 H => some (.go (t0, t5, t6, t8, t9, t10, t12, t13), H)) (fun t0 t5 t6 t9 t10 t12 H => some (.up (t0, t5, t6, t9, t10, t12), H))
noncomputable def g5_p5 (a9 : T9) (a10 : T10) (a11 : T11) (a15 : T15) (a14 : T14) (a13 : T13) (a16 : T16) (R : Type) (t0 : Sl) (t5 : Int) (t6 : Option (Nat × Nat)) (t8 : Sl) (t9 : Sl) (t10 : Int) (t12 : Sl) (t13 : Int) (H : Heap) (kE2 : Sl → Int → Option (Nat × Nat) → Sl → Int → Sl → Heap → Option R) : Option R :=
  (tlim (g5_p5_b a9 a10 a11 a15 a14 a13 a16) (t0, t5, t6, t8, t9, t10, t12, t13) H).bind fun p => kE2 p.1.1 p.1.2.1 p.1.2.2.1 p.1.2.2.2.1 p.1.2.2.2.2.1 p.1.2.2.2.2.2 p.2
theorem g5_p5_lin {a9 : T9} {a10 : T10} {a11 : T11} {a15 : T15} {a14 : T14} {a13 : T13} {a16 : T16} (la9 : Lin9 a9) (la10 : Lin10 a10) (la11 : Lin11 a11) (la15 : Lin15 a15) (la14 : Lin14 a14) (la13 : Lin13 a13) (la16 : Lin16 a16) {R S : Type} {k : S → Option R} {t0 : Sl} {t5 : Int} {t6 : Option (Nat × Nat)} {t8 : Sl} {t9 : Sl} {t10 : Int} {t12 : Sl} {t13 : Int} {H : Heap} {fkE2 : Sl → Int → Option (Nat × Nat) → Sl → Int → Sl → Heap → Option R} {gkE2 : Sl → Int → Option (Nat × Nat) → Sl → Int → Sl → Heap → Option S} (hkE2 : ∀ t0 t5 t6 t9 t10 t12 H, fkE2 t0 t5 t6 t9 t10 t12 H = (gkE2 t0 t5 t6 t9 t10 t12 H).bind k) : g5_p5 a9 a10 a11 a15 a14 a13 a16 R t0 t5 t6 t8 t9 t10 t12 t13 H fkE2 = (g5_p5 a9 a10 a11 a15 a14 a13 a16 S t0 t5 t6 t8 t9 t10 t12 t13 H gkE2).bind k := by
  exact bl fun p => hkE2 _ _ _ _ _ _ _
theorem g5_p5_eq (a9 : T9) (a10 : T10) (a11 : T11) (a15 : T15) (a14 : T14) (a13 : T13) (a16 : T16) (la9 : Lin9 a9) (la10 : Lin10 a10) (la11 : Lin11 a11) (la15 : Lin15 a15) (la14 : Lin14 a14) (la13 : Lin13 a13) (la16 : Lin16 a16) {R : Type} (t0 : Sl) (t5 : Int) (t6 : Option (Nat × Nat)) (t8 : Sl) (t9 : Sl) (t10 : Int) (t12 : Sl) (t13 : Int) (H : Heap) (K : Ex → Fr → Heap → Option R) : ev2 Try.prog (E5 a9 a10 a11 a15 a14 a13 a16) loopLim lv5 Try.f5.ntmps kp5 c5_1 [(0, (V.sl t0)), (5, (V.i .i64 t5)), (6, (V.p t6)), (8, (V.sl t8)), (9, (V.sl t9)), (10, (V.i .i64 t10)), (12, (V.sl t12)), (13, (V.i .i64 t13))] H K = g5_p5 a9 a10 a11 a15 a14 a13 a16 R t0 t5 t6 t8 t9 t10 t12 t13 H (fun t0 t5 t6 t9 t10 t12 H => K (.exit 2) [(0, (V.sl t0)), (5, (V.i .i64 t5)), (6, (V.p t6)), (9, (V.sl t9)), (10, (V.i .i64 t10)), (12, (V.sl t12))] H) := by
  show ev2 Try.prog (E5 a9 a10 a11 a15 a14 a13 a16) loopLim lv5 Try.f5.ntmps kp5 (.loop c5_0) [(0, (V.sl t0)), (5, (V.i .i64 t5)), (6, (V.p t6)), (8, (V.sl t8)), (9, (V.sl t9)), (10, (V.i .i64 t10)), (12, (V.sl t12)), (13, (V.i .i64 t13))] H K = _
  delta g5_p5
  refine (ev2_tlim (b := g5_p5_b a9 a10 a11 a15 a14 a13 a16) (es := g5_p5_es) (er := g5_p5_er) (by intro r; exact nofun) (fun s H => ?_) (t0, t5, t6, t8, t9, t10, t12, t13) H K).trans (bc fun p => rfl)
  exact (g5_p4_eq a9 a10 a11 a15 a14 a13 a16 la9 la10 la11 la15 la14 la13 la16 s.1 s.2.1 s.2.2.1 s.2.2.2.1 s.2.2.2.2.1 s.2.2.2.2.2.1 s.2.2.2.2.2.2.1 s.2.2.2.2.2.2.2 H ret3).trans (g5_p4_lin la9 la10 la11 la15 la14 la13 la16 (fun _ _ _ _ _ _ _ _ _ => rfl) (fun _ _ _ _ _ _ _ => rfl))
noncomputable def g5_p6 (a9 : T9) (a10 : T10) (a11 : T11) (a15 : T15) (a14 : T14) (a13 : T13) (a16 : T16) (R : Type) (t0 : Sl) (t5 : Int) (t6 : Option (Nat × Nat)) (t8 : Sl) (t9 : Sl) (t10 : Int) (t12 : Sl) (t13 : Int) (H : Heap) (kN : Sl → Int → Option (Nat × Nat) → Sl → Int → Sl → Heap → Option R) : Option R :=
  g5_p5 a9 a10 a11 a15 a14 a13 a16 R t0 t5 t6 t8 t9 t10 t12 t13 H (fun t0 t5 t6 t9 t10 t12 H => kN t0 t5 t6 t9 t10 t12 H)
theorem g5_p6_lin {a9 : T9} {a10 : T10} {a11 : T11} {a15 : T15} {a14 : T14} {a13 : T13} {a16 : T16} (la9 : Lin9 a9) (la10 : Lin10 a10) (la11 : Lin11 a11) (la15 : Lin15 a15) (la14 : Lin14 a14) (la13 : Lin13 a13) (la16 : Lin16 a16) {R S : Type} {k : S → Option R} {t0 : Sl} {t5 : Int} {t6 : Option (Nat × Nat)} {t8 : Sl} {t9 : Sl} {t10 : Int} {t12 : Sl} {t13 : Int} {H : Heap} {fkN : Sl → Int → Option (Nat × Nat) → Sl → Int → Sl → Heap → Option R} {gkN : Sl → Int → Option (Nat × Nat) → Sl → Int → Sl → Heap → Option S} (hkN : ∀ t0 t5 t6 t9 t10 t12 H, fkN t0 t5 t6 t9 t10 t12 H = (gkN t0 t5 t6 t9 t10 t12 H).bind k) : g5_p6 a9 a10 a11 a15 a14 a13 a16 R t0 t5 t6 t8 t9 t10 t12 t13 H fkN = (g5_p6 a9 a10 a11 a15 a14 a13 a16 S t0 t5 t6 t8 t9 t10 t12 t13 H gkN).bind k := by
  exact g5_p5_lin la9 la10 la11 la15 la14 la13 la16 (fun _ _ _ _ _ _ _ => hkN _ _ _ _ _ _ _)
theorem g5_p6_eq (a9 : T9) (a10 : T10) (a11 : T11) (a15 : T15) (a14 : T14) (a13 : T13) (a16 : T16) (la9 : Lin9 a9) (la10 : Lin10 a10) (la11 : Lin11 a11) (la15 : Lin15 a15) (la14 : Lin14 a14) (la13 : Lin13 a13) (la16 : Lin16 a16) {R : Type} (t0 : Sl) (t5 : Int) (t6 : Option (Nat × Nat)) (t8 : Sl) (t9 : Sl) (t10 : Int) (t12 : Sl) (t13 : Int) (H : Heap) (K : Ex → Fr → Heap → Option R) : ev2 Try.prog (E5 a9 a10 a11 a15 a14 a13 a16) loopLim lv5 Try.f5.ntmps kp5 c5_2 [(0, (V.sl t0)), (5, (V.i .i64 t5)), (6, (V.p t6)), (8, (V.sl t8)), (9, (V.sl t9)), (10, (V.i .i64 t10)), (12, (V.sl t12)), (13, (V.i .i64 t13))] H K = g5_p6 a9 a10 a11 a15 a14 a13 a16 R t0 t5 t6 t8 t9 t10 t12 t13 H (fun t0 t5 t6 t9 t10 t12 H => K .normal [(0, (V.sl t0)), (5, (V.i .i64 t5)), (6, (V.p t6)), (9, (V.sl t9)), (10, (V.i .i64 t10)), (12, (V.sl t12))] H) := by
  show ev2 Try.prog (E5 a9 a10 a11 a15 a14 a13 a16) loopLim lv5 Try.f5.ntmps kp5 (.block 2 c5_1) [(0, (V.sl t0)), (5, (V.i .i64 t5)), (6, (V.p t6)), (8, (V.sl t8)), (9, (V.sl t9)), (10, (V.i .i64 t10)), (12, (V.sl t12)), (13, (V.i .i64 t13))] H K = _
  rw [ev2_block]
  delta g5_p6
  exact (g5_p5_eq a9 a10 a11 a15 a14 a13 a16 la9 la10 la11 la15 la14 la13 la16 t0 t5 t6 t8 t9 t10 t12 t13 H (kBlock kp5 2 K))
noncomputable def g5_p7 (a9 : T9) (a10 : T10) (a11 : T11) (a15 : T15) (a14 : T14) (a13 : T13) (a16 : T16) (R : Type) (t0 : Sl) (t5 : Int) (t6 : Option (Nat × Nat)) (t9 : Sl) (t10 : Int) (t12 : Sl) (H : Heap) (kE1 : Sl → Int → Option (Nat × Nat) → Sl → Sl → Int → Heap → Option R) (kR : Bool → Heap → Option R) : Option R :=
  a11 R t6 H fun x94 h95 =>
  a15 R x94 t9 h95 fun x96 h97 =>
  sel (!x96) (
    kR false h97) (
    a14 R t6 h97 fun x98 h99 =>
    sel (x98 != ((t12.len : Nat) : Int)) (
      kR false h99) (
      kE1 t0 t5 t6 t12 (Sl.mk none 0 (.ex 0)) t10 h99))
theorem g5_p7_eq (a9 : T9) (a10 : T10) (a11 : T11) (a15 : T15) (a14 : T14) (a13 : T13) (a16 : T16) (la9 : Lin9 a9) (la10 : Lin10 a10) (la11 : Lin11 a11) (la15 : Lin15 a15) (la14 : Lin14 a14) (la13 : Lin13 a13) (la16 : Lin16 a16) {R : Type} (t0 : Sl) (t5 : Int) (t6 : Option (Nat × Nat)) (t9 : Sl) (t10 : Int) (t12 : Sl) (H : Heap) (K : Ex → Fr → Heap → Option R) : ev2 Try.prog (E5 a9 a10 a11 a15 a14 a13 a16) loopLim lv5 Try.f5.ntmps kp5 c5_3 [(0, (V.sl t0)), (5, (V.i .i64 t5)), (6, (V.p t6)), (9, (V.sl t9)), (10, (V.i .i64 t10)), (12, (V.sl t12))] H K = g5_p7 a9 a10 a11 a15 a14 a13 a16 R t0 t5 t6 t9 t10 t12 H (fun t0 t5 t6 t8 t9 t10 H => K (.exit 1) [(0, (V.sl t0)), (5, (V.i .i64 t5)), (6, (V.p t6)), (8, (V.sl t8)), (9, (V.sl t9)), (10, (V.i .i64 t10))] H) (fun t4 H => K .ret [(4, (V.b t4))] H) := by kernel_rfl
theorem g5_p7_lin {a9 : T9} {a10 : T10} {a11 : T11} {a15 : T15} {a14 : T14} {a13 : T13} {a16 : T16} (la9 : Lin9 a9) (la10 : Lin10 a10) (la11 : Lin11 a11) (la15 : Lin15 a15) (la14 : Lin14 a14) (la13 : Lin13 a13) (la16 : Lin16 a16) {R S : Type} {k : S → Option R} {t0 : Sl} {t5 : Int} {t6 : Option (Nat × Nat)} {t9 : Sl} {t10 : Int} {t12 : Sl} {H : Heap} {fkE1 : Sl → Int → Option (Nat × Nat) → Sl → Sl → Int → Heap → Option R} {gkE1 : Sl → Int → Option (Nat × Nat) → Sl → Sl → Int → Heap → Option S} {fkR : Bool → Heap → Option R} {gkR : Bool → Heap → Option S} (hkE1 : ∀ t0 t5 t6 t8 t9 t10 H, fkE1 t0 t5 t6 t8 t9 t10 H = (gkE1 t0 t5 t6 t8 t9 t10 H).bind k) (hkR : ∀ t4 H, fkR t4 H = (gkR t4 H).bind k) : g5_p7 a9 a10 a11 a15 a14 a13 a16 R t0 t5 t6 t9 t10 t12 H fkE1 fkR = (g5_p7 a9 a10 a11 a15 a14 a13 a16 S t0 t5 t6 t9 t10 t12 H gkE1 gkR).bind k := by
  delta g5_p7; exact (
    la11.l fun x94 h95 =>
    la15.l fun x96 h97 =>
    sl_lin (
      hkR _ _) (
      la14.l fun x98 h99 =>
      sl_lin (
        hkR _ _) (
        hkE1 _ _ _ _ _ _ _)))
noncomputable def g5_p8 (a9 : T9) (a10 : T10) (a11 : T11) (a15 : T15) (a14 : T14) (a13 : T13) (a16 : T16) (R : Type) (t0 : Sl) (t5 : Int) (t6 : Option (Nat × Nat)) (t8 : Sl) (t9 : Sl) (t10 : Int) (t12 : Sl) (t13 : Int) (H : Heap) (kE1 : Sl → Int → Option (Nat × Nat) → Sl → Sl → Int → Heap → Option R) (kR : Bool → Heap → Option R) : Option R :=
  g5_p6 a9 a10 a11 a15 a14 a13 a16 R t0 t5 t6 t8 t9 t10 t12 t13 H (fun t0 t5 t6 t9 t10 t12 H => g5_p7 a9 a10 a11 a15 a14 a13 a16 R t0 t5 t6 t9 t10 t12 H (fun t0 t5 t6 t8 t9 t10 H => kE1 t0 t5 t6 t8 t9 t10 H) (fun t4 H => kR t4 H))
theorem g5_p8_lin {a9 : T9} {a10 : T10} {a11 : T11} {a15 : T15} {a14 : T14} {a13 : T13} {a16 : T16} (la9 : Lin9 a9) (la10 : Lin10 a10) (la11 : Lin11 a11) (la15 : Lin15 a15) (la14 : Lin14 a14) (la13 : Lin13 a13) (la16 : Lin16 a16) {R S : Type} {k : S → Option R} {t0 : Sl} {t5 : Int} {t6 : Option (Nat × Nat)} {t8 : Sl} {t9 : Sl} {t10 : Int} {t12 : Sl} {t13 : Int} {H : Heap} {fkE1 : Sl → Int → Option (Nat × Nat) → Sl → Sl → Int → Heap → Option R} {gkE1 : Sl → Int → Option (Nat × Nat) → Sl → Sl → Int → Heap → Option S} {fkR : Bool → Heap → Option R} {gkR : Bool → Heap → Option S} (hkE1 : ∀ t0 t5 t6 t8 t9 t10 H, fkE1 t0 t5 t6 t8 t9 t10 H = (gkE1 t0 t5 t6 t8 t9 t10 H).bind k) (hkR : ∀ t4 H, fkR t4 H = (gkR t4 H).bind k) : g5_p8 a9 a10 a11 a15 a14 a13 a16 R t0 t5 t6 t8 t9 t10 t12 t13 H fkE1 fkR = (g5_p8 a9 a10 a11 a15 a14 a13 a16 S t0 t5 t6 t8 t9 t10 t12 t13 H gkE1 gkR).bind k := by
  exact g5_p6_lin la9 la10 la11 la15 la14 la13 la16 (fun _ _ _ _ _ _ _ => g5_p7_lin la9 la10 la11 la15 la14 la13 la16 (fun _ _ _ _ _ _ _ => hkE1 _ _ _ _ _ _ _) (fun _ _ => hkR _ _))
theorem g5_p8_eq (a9 : T9) (a10 : T10) (a11 : T11) (a15 : T15) (a14 : T14) (a13 : T13) (a16 : T16) (la9 : Lin9 a9) (la10 : Lin10 a10) (la11 : Lin11 a11) (la15 : Lin15 a15) (la14 : Lin14 a14) (la13 : Lin13 a13) (la16 : Lin16 a16) {R : Type} (t0 : Sl) (t5 : Int) (t6 : Option (Nat × Nat)) (t8 : Sl) (t9 : Sl) (t10 : Int) (t12 : Sl) (t13 : Int) (H : Heap) (K : Ex → Fr → Heap → Option R) : ev2 Try.prog (E5 a9 a10 a11 a15 a14 a13 a16) loopLim lv5 Try.f5.ntmps kp5 c5_4 [(0, (V.sl t0)), (5, (V.i .i64 t5)), (6, (V.p t6)), (8, (V.sl t8)), (9, (V.sl t9)), (10, (V.i .i64 t10)), (12, (V.sl t12)), (13, (V.i .i64 t13))] H K = g5_p8 a9 a10 a11 a15 a14 a13 a16 R t0 t5 t6 t8 t9 t10 t12 t13 H (fun t0 t5 t6 t8 t9 t10 H => K (.exit 1) [(0, (V.sl t0)), (5, (V.i .i64 t5)), (6, (V.p t6)), (8, (V.sl t8)), (9, (V.sl t9)), (10, (V.i .i64 t10))] H) (fun t4 H => K .ret [(4, (V.b t4))] H) := by
  show ev2 Try.prog (E5 a9 a10 a11 a15 a14 a13 a16) loopLim lv5 Try.f5.ntmps kp5 (.seq c5_2 c5_3) [(0, (V.sl t0)), (5, (V.i .i64 t5)), (6, (V.p t6)), (8, (V.sl t8)), (9, (V.sl t9)), (10, (V.i .i64 t10)), (12, (V.sl t12)), (13, (V.i .i64 t13))] H K = _
  rw [ev2_seq]
  delta g5_p8
  exact (g5_p6_eq a9 a10 a11 a15 a14 a13 a16 la9 la10 la11 la15 la14 la13 la16 t0 t5 t6 t8 t9 t10 t12 t13 H (kSeq (fun fr H => ev2 Try.prog (E5 a9 a10 a11 a15 a14 a13 a16) loopLim lv5 Try.f5.ntmps kp5 c5_3 fr H K) K)).trans (congrArg (g5_p6 a9 a10 a11 a15 a14 a13 a16 R t0 t5 t6 t8 t9 t10 t12 t13 H) (funext fun t0 => funext fun t5 => funext fun t6 => funext fun t9 => funext fun t10 => funext fun t12 => funext fun H => (kSeq_n _ _ _ _).trans (g5_p7_eq a9 a10 a11 a15 a14 a13 a16 la9 la10 la11 la15 la14 la13 la16 t0 t5 t6 t9 t10 t12 H K)))
noncomputable def g5_p9 (a9 : T9) (a10 : T10) (a11 : T11) (a15 : T15) (a14 : T14) (a13 : T13) (a16 : T16) (R : Type) (t0 : Sl) (t5 : Int) (t6 : Option (Nat × Nat)) (t8 : Sl) (t9 : Sl) (t10 : Int) (t52 : Bool) (t500011_0 : Bool) (t500011_1 : Int) (t500011_2 : Int) (t500011_3 : Bool) (t500011_4 : Int) (t500011_5 : Sl) (H : Heap) (kE1 : Sl → Int → Option (Nat × Nat) → Sl → Sl → Int → Heap → Option R) (kR : Bool → Heap → Option R) : Option R :=
  g5_p3 a9 a10 a11 a15 a14 a13 a16 R t0 t5 t6 t8 t9 t10 t52 t500011_0 t500011_1 t500011_2 t500011_3 t500011_4 t500011_5 H (fun t0 t5 t6 t8 t9 t10 t12 t13 H => g5_p8 a9 a10 a11 a15 a14 a13 a16 R t0 t5 t6 t8 t9 t10 t12 t13 H (fun t0 t5 t6 t8 t9 t10 H => kE1 t0 t5 t6 t8 t9 t10 H) (fun t4 H => kR t4 H))
theorem g5_p9_lin {a9 : T9} {a10 : T10} {a11 : T11} {a15 : T15} {a14 : T14} {a13 : T13} {a16 : T16} (la9 : Lin9 a9) (la10 : Lin10 a10) (la11 : Lin11 a11) (la15 : Lin15 a15) (la14 : Lin14 a14) (la13 : Lin13 a13) (la16 : Lin16 a16) {R S : Type} {k : S → Option R} {t0 : Sl} {t5 : Int} {t6 : Option (Nat × Nat)} {t8 : Sl} {t9 : Sl} {t10 : Int} {t52 : Bool} {t500011_0 : Bool} {t500011_1 : Int} {t500011_2 : Int} {t500011_3 : Bool} {t500011_4 : Int} {t500011_5 : Sl} {H : Heap} {fkE1 : Sl → Int → Option (Nat × Nat) → Sl → Sl → Int → Heap → Option R} {gkE1 : Sl → Int → Option (Nat × Nat) → Sl → Sl → Int → Heap → Option S} {fkR : Bool → Heap → Option R} {gkR : Bool → Heap → Option S} (hkE1 : ∀ t0 t5 t6 t8 t9 t10 H, fkE1 t0 t5 t6 t8 t9 t10 H = (gkE1 t0 t5 t6 t8 t9 t10 H).bind k) (hkR : ∀ t4 H, fkR t4 H = (gkR t4 H).bind k) : g5_p9 a9 a10 a11 a15 a14 a13 a16 R t0 t5 t6 t8 t9 t10 t52 t500011_0 t500011_1 t500011_2 t500011_3 t500011_4 t500011_5 H fkE1 fkR = (g5_p9 a9 a10 a11 a15 a14 a13 a16 S t0 t5 t6 t8 t9 t10 t52 t500011_0 t500011_1 t500011_2 t500011_3 t500011_4 t500011_5 H gkE1 gkR).bind k := by
  exact g5_p3_lin la9 la10 la11 la15 la14 la13 la16 (fun _ _ _ _ _ _ _ _ _ => g5_p8_lin la9 la10 la11 la15 la14 la13 la16 (fun _ _ _ _ _ _ _ => hkE1 _ _ _ _ _ _ _) (fun _ _ => hkR _ _))
theorem g5_p9_eq (a9 : T9) (a10 : T10) (a11 : T11) (a15 : T15) (a14 : T14) (a13 : T13) (a16 : T16) (la9 : Lin9 a9) (la10 : Lin10 a10) (la11 : Lin11 a11) (la15 : Lin15 a15) (la14 : Lin14 a14) (la13 : Lin13 a13) (la16 : Lin16 a16) {R : Type} (t0 : Sl) (t5 : Int) (t6 : Option (Nat × Nat)) (t8 : Sl) (t9 : Sl) (t10 : Int) (t52 : Bool) (t500011_0 : Bool) (t500011_1 : Int) (t500011_2 : Int) (t500011_3 : Bool) (t500011_4 : Int) (t500011_5 : Sl) (H : Heap) (K : Ex → Fr → Heap → Option R) : ev2 Try.prog (E5 a9 a10 a11 a15 a14 a13 a16) loopLim lv5 Try.f5.ntmps kp5 c5_5 [(0, (V.sl t0)), (5, (V.i .i64 t5)), (6, (V.p t6)), (8, (V.sl t8)), (9, (V.sl t9)), (10, (V.i .i64 t10)), (52, (V.b t52)), (500011, (V.agg [(V.b t500011_0), (V.i .u16 t500011_1), (V.i .u32 t500011_2), (V.b t500011_3), (V.i .u8 t500011_4), (V.sl t500011_5)])), (1000011, (V.p (some (11, 0))))] H K = g5_p9 a9 a10 a11 a15 a14 a13 a16 R t0 t5 t6 t8 t9 t10 t52 t500011_0 t500011_1 t500011_2 t500011_3 t500011_4 t500011_5 H (fun t0 t5 t6 t8 t9 t10 H => K (.exit 1) [(0, (V.sl t0)), (5, (V.i .i64 t5)), (6, (V.p t6)), (8, (V.sl t8)), (9, (V.sl t9)), (10, (V.i .i64 t10))] H) (fun t4 H => K .ret [(4, (V.b t4))] H) := by
  show ev2 Try.prog (E5 a9 a10 a11 a15 a14 a13 a16) loopLim lv5 Try.f5.ntmps kp5 (.seq (codeAt [1, 1, 1, 1, 1, 1, 1, 0, 1, 0, 0, 1, 0, 0, 1, 1, 0, 1, 0, 0] b5) (.seq (codeAt [1, 1, 1, 1, 1, 1, 1, 0, 1, 0, 0, 1, 0, 0, 1, 1, 0, 1, 0, 1, 0, 0] b5) c5_4)) [(0, (V.sl t0)), (5, (V.i .i64 t5)), (6, (V.p t6)), (8, (V.sl t8)), (9, (V.sl t9)), (10, (V.i .i64 t10)), (52, (V.b t52)), (500011, (V.agg [(V.b t500011_0), (V.i .u16 t500011_1), (V.i .u32 t500011_2), (V.b t500011_3), (V.i .u8 t500011_4), (V.sl t500011_5)])), (1000011, (V.p (some (11, 0))))] H K = _
  delta g5_p9
  exact (g5_p3_eq a9 a10 a11 a15 a14 a13 a16 _ t0 t5 t6 t8 t9 t10 t52 t500011_0 t500011_1 t500011_2 t500011_3 t500011_4 t500011_5 H K).trans (congrArg (g5_p3 a9 a10 a11 a15 a14 a13 a16 R t0 t5 t6 t8 t9 t10 t52 t500011_0 t500011_1 t500011_2 t500011_3 t500011_4 t500011_5 H) (funext fun t0 => funext fun t5 => funext fun t6 => funext fun t8 => funext fun t9 => funext fun t10 => funext fun t12 => funext fun t13 => funext fun H => g5_p8_eq a9 a10 a11 a15 a14 a13 a16 la9 la10 la11 la15 la14 la13 la16 t0 t5 t6 t8 t9 t10 t12 t13 H K))
noncomputable def g5_p10 (a9 : T9) (a10 : T10) (a11 : T11) (a15 : T15) (a14 : T14) (a13 : T13) (a16 : T16) (R : Type) (t0 : Sl) (t5 : Int) (t6 : Option (Nat × Nat)) (t8 : Sl) (t9 : Sl) (t10 : Int) (t52 : Bool) (t500011_0 : Bool) (t500011_1 : Int) (t500011_2 : Int) (t500011_3 : Bool) (t500011_4 : Int) (t500011_5 : Sl) (H : Heap) (kN : Sl → Int → Option (Nat × Nat) → Sl → Sl → Int → Bool → Bool → Int → Int → Bool → Int → Sl → Heap → Option R) : Option R :=
  kN t0 t5 t6 t8 t9 t10 t52 t500011_0 t500011_1 t500011_2 t500011_3 t500011_4 t500011_5 H
theorem g5_p10_eq (a9 : T9) (a10 : T10) (a11 : T11) (a15 : T15) (a14 : T14) (a13 : T13) (a16 : T16) (la9 : Lin9 a9) (la10 : Lin10 a10) (la11 : Lin11 a11) (la15 : Lin15 a15) (la14 : Lin14 a14) (la13 : Lin13 a13) (la16 : Lin16 a16) {R : Type} (t0 : Sl) (t5 : Int) (t6 : Option (Nat × Nat)) (t8 : Sl) (t9 : Sl) (t10 : Int) (t52 : Bool) (t500011_0 : Bool) (t500011_1 : Int) (t500011_2 : Int) (t500011_3 : Bool) (t500011_4 : Int) (t500011_5 : Sl) (H : Heap) (K : Ex → Fr → Heap → Option R) : ev2 Try.prog (E5 a9 a10 a11 a15 a14 a13 a16) loopLim lv5 Try.f5.ntmps kp5 c5_6 [(0, (V.sl t0)), (5, (V.i .i64 t5)), (6, (V.p t6)), (8, (V.sl t8)), (9, (V.sl t9)), (10, (V.i .i64 t10)), (52, (V.b t52)), (500011, (V.agg [(V.b t500011_0), (V.i .u16 t500011_1), (V.i .u32 t500011_2), (V.b t500011_3), (V.i .u8 t500011_4), (V.sl t500011_5)])), (1000011, (V.p (some (11, 0))))] H K = g5_p10 a9 a10 a11 a15 a14 a13 a16 R t0 t5 t6 t8 t9 t10 t52 t500011_0 t500011_1 t500011_2 t500011_3 t500011_4 t500011_5 H (fun t0 t5 t6 t8 t9 t10 t52 t500011_0 t500011_1 t500011_2 t500011_3 t500011_4 t500011_5 H => K .normal [(0, (V.sl t0)), (5, (V.i .i64 t5)), (6, (V.p t6)), (8, (V.sl t8)), (9, (V.sl t9)), (10, (V.i .i64 t10)), (52, (V.b t52)), (500011, (V.agg [(V.b t500011_0), (V.i .u16 t500011_1), (V.i .u32 t500011_2), (V.b t500011_3), (V.i .u8 t500011_4), (V.sl t500011_5)])), (1000011, (V.p (some (11, 0))))] H) := by kernel_rfl
theorem g5_p10_lin {a9 : T9} {a10 : T10} {a11 : T11} {a15 : T15} {a14 : T14} {a13 : T13} {a16 : T16} (la9 : Lin9 a9) (la10 : Lin10 a10) (la11 : Lin11 a11) (la15 : Lin15 a15) (la14 : Lin14 a14) (la13 : Lin13 a13) (la16 : Lin16 a16) {R S : Type} {k : S → Option R} {t0 : Sl} {t5 : Int} {t6 : Option (Nat × Nat)} {t8 : Sl} {t9 : Sl} {t10 : Int} {t52 : Bool} {t500011_0 : Bool} {t500011_1 : Int} {t500011_2 : Int} {t500011_3 : Bool} {t500011_4 : Int} {t500011_5 : Sl} {H : Heap} {fkN : Sl → Int → Option (Nat × Nat) → Sl → Sl → Int → Bool → Bool → Int → Int → Bool → Int → Sl → Heap → Option R} {gkN : Sl → Int → Option (Nat × Nat) → Sl → Sl → Int → Bool → Bool → Int → Int → Bool → Int → Sl → Heap → Option S} (hkN : ∀ t0 t5 t6 t8 t9 t10 t52 t500011_0 t500011_1 t500011_2 t500011_3 t500011_4 t500011_5 H, fkN t0 t5 t6 t8 t9 t10 t52 t500011_0 t500011_1 t500011_2 t500011_3 t500011_4 t500011_5 H = (gkN t0 t5 t6 t8 t9 t10 t52 t500011_0 t500011_1 t500011_2 t500011_3 t500011_4 t500011_5 H).bind k) : g5_p10 a9 a10 a11 a15 a14 a13 a16 R t0 t5 t6 t8 t9 t10 t52 t500011_0 t500011_1 t500011_2 t500011_3 t500011_4 t500011_5 H fkN = (g5_p10 a9 a10 a11 a15 a14 a13 a16 S t0 t5 t6 t8 t9 t10 t52 t500011_0 t500011_1 t500011_2 t500011_3 t500011_4 t500011_5 H gkN).bind k := by
  delta g5_p10; exact (
    hkN _ _ _ _ _ _ _ _ _ _ _ _ _ _)
noncomputable def g5_p11 (a9 : T9) (a10 : T10) (a11 : T11) (a15 : T15) (a14 : T14) (a13 : T13) (a16 : T16) (R : Type) (t0 : Sl) (t5 : Int) (t6 : Option (Nat × Nat)) (t8 : Sl) (t9 : Sl) (t10 : Int) (t52 : Bool) (t500011_0 : Bool) (t500011_1 : Int) (t500011_2 : Int) (t500011_3 : Bool) (t500011_4 : Int) (t500011_5 : Sl) (H : Heap) (kN : Sl → Int → Option (Nat × Nat) → Sl → Sl → Int → Bool → Int → Int → Bool → Int → Sl → Heap → Option R) (kE1 : Sl → Int → Option (Nat × Nat) → Sl → Sl → Int → Heap → Option R) (kR : Bool → Heap → Option R) : Option R :=
  sel t52 (g5_p9 a9 a10 a11 a15 a14 a13 a16 R t0 t5 t6 t8 t9 t10 t52 t500011_0 t500011_1 t500011_2 t500011_3 t500011_4 t500011_5 H (fun t0 t5 t6 t8 t9 t10 H => kE1 t0 t5 t6 t8 t9 t10 H) (fun t4 H => kR t4 H)) (g5_p10 a9 a10 a11 a15 a14 a13 a16 R t0 t5 t6 t8 t9 t10 t52 t500011_0 t500011_1 t500011_2 t500011_3 t500011_4 t500011_5 H (fun t0 t5 t6 t8 t9 t10 t52 t500011_0 t500011_1 t500011_2 t500011_3 t500011_4 t500011_5 H => kN t0 t5 t6 t8 t9 t10 t500011_0 t500011_1 t500011_2 t500011_3 t500011_4 t500011_5 H))
theorem g5_p11_lin {a9 : T9} {a10 : T10} {a11 : T11} {a15 : T15} {a14 : T14} {a13 : T13} {a16 : T16} (la9 : Lin9 a9) (la10 : Lin10 a10) (la11 : Lin11 a11) (la15 : Lin15 a15) (la14 : Lin14 a14) (la13 : Lin13 a13) (la16 : Lin16 a16) {R S : Type} {k : S → Option R} {t0 : Sl} {t5 : Int} {t6 : Option (Nat × Nat)} {t8 : Sl} {t9 : Sl} {t10 : Int} {t52 : Bool} {t500011_0 : Bool} {t500011_1 : Int} {t500011_2 : Int} {t500011_3 : Bool} {t500011_4 : Int} {t500011_5 : Sl} {H : Heap} {fkN : Sl → Int → Option (Nat × Nat) → Sl → Sl → Int → Bool → Int → Int → Bool → Int → Sl → Heap → Option R} {gkN : Sl → Int → Option (Nat × Nat) → Sl → Sl → Int → Bool → Int → Int → Bool → Int → Sl → Heap → Option S} {fkE1 : Sl → Int → Option (Nat × Nat) → Sl → Sl → Int → Heap → Option R} {gkE1 : Sl → Int → Option (Nat × Nat) → Sl → Sl → Int → Heap → Option S} {fkR : Bool → Heap → Option R} {gkR : Bool → Heap → Option S} (hkN : ∀ t0 t5 t6 t8 t9 t10 t500011_0 t500011_1 t500011_2 t500011_3 t500011_4 t500011_5 H, fkN t0 t5 t6 t8 t9 t10 t500011_0 t500011_1 t500011_2 t500011_3 t500011_4 t500011_5 H = (gkN t0 t5 t6 t8 t9 t10 t500011_0 t500011_1 t500011_2 t500011_3 t500011_4 t500011_5 H).bind k) (hkE1 : ∀ t0 t5 t6 t8 t9 t10 H, fkE1 t0 t5 t6 t8 t9 t10 H = (gkE1 t0 t5 t6 t8 t9 t10 H).bind k) (hkR : ∀ t4 H, fkR t4 H = (gkR t4 H).bind k) : g5_p11 a9 a10 a11 a15 a14 a13 a16 R t0 t5 t6 t8 t9 t10 t52 t500011_0 t500011_1 t500011_2 t500011_3 t500011_4 t500011_5 H fkN fkE1 fkR = (g5_p11 a9 a10 a11 a15 a14 a13 a16 S t0 t5 t6 t8 t9 t10 t52 t500011_0 t500011_1 t500011_2 t500011_3 t500011_4 t500011_5 H gkN gkE1 gkR).bind k := by
  exact sl_lin (g5_p9_lin la9 la10 la11 la15 la14 la13 la16 (fun _ _ _ _ _ _ _ => hkE1 _ _ _ _ _ _ _) (fun _ _ => hkR _ _)) (g5_p10_lin la9 la10 la11 la15 la14 la13 la16 (fun _ _ _ _ _ _ _ _ _ _ _ _ _ _ => hkN _ _ _ _ _ _ _ _ _ _ _ _ _))
theorem g5_p11_eq (a9 : T9) (a10 : T10) (a11 : T11) (a15 : T15) (a14 : T14) (a13 : T13) (a16 : T16) (la9 : Lin9 a9) (la10 : Lin10 a10) (la11 : Lin11 a11) (la15 : Lin15 a15) (la14 : Lin14 a14) (la13 : Lin13 a13) (la16 : Lin16 a16) {R : Type} (t0 : Sl) (t5 : Int) (t6 : Option (Nat × Nat)) (t8 : Sl) (t9 : Sl) (t10 : Int) (t52 : Bool) (t500011_0 : Bool) (t500011_1 : Int) (t500011_2 : Int) (t500011_3 : Bool) (t500011_4 : Int) (t500011_5 : Sl) (H : Heap) (K : Ex → Fr → Heap → Option R) : ev2 Try.prog (E5 a9 a10 a11 a15 a14 a13 a16) loopLim lv5 Try.f5.ntmps kp5 c5_7 [(0, (V.sl t0)), (5, (V.i .i64 t5)), (6, (V.p t6)), (8, (V.sl t8)), (9, (V.sl t9)), (10, (V.i .i64 t10)), (52, (V.b t52)), (500011, (V.agg [(V.b t500011_0), (V.i .u16 t500011_1), (V.i .u32 t500011_2), (V.b t500011_3), (V.i .u8 t500011_4), (V.sl t500011_5)])), (1000011, (V.p (some (11, 0))))] H K = g5_p11 a9 a10 a11 a15 a14 a13 a16 R t0 t5 t6 t8 t9 t10 t52 t500011_0 t500011_1 t500011_2 t500011_3 t500011_4 t500011_5 H (fun t0 t5 t6 t8 t9 t10 t500011_0 t500011_1 t500011_2 t500011_3 t500011_4 t500011_5 H => K .normal [(0, (V.sl t0)), (5, (V.i .i64 t5)), (6, (V.p t6)), (8, (V.sl t8)), (9, (V.sl t9)), (10, (V.i .i64 t10)), (500011, (V.agg [(V.b t500011_0), (V.i .u16 t500011_1), (V.i .u32 t500011_2), (V.b t500011_3), (V.i .u8 t500011_4), (V.sl t500011_5)])), (1000011, (V.p (some (11, 0))))] H) (fun t0 t5 t6 t8 t9 t10 H => K (.exit 1) [(0, (V.sl t0)), (5, (V.i .i64 t5)), (6, (V.p t6)), (8, (V.sl t8)), (9, (V.sl t9)), (10, (V.i .i64 t10))] H) (fun t4 H => K .ret [(4, (V.b t4))] H) := by
  show ev2 Try.prog (E5 a9 a10 a11 a15 a14 a13 a16) loopLim lv5 Try.f5.ntmps kp5 (.cond (.tmp 52) c5_5 c5_6) [(0, (V.sl t0)), (5, (V.i .i64 t5)), (6, (V.p t6)), (8, (V.sl t8)), (9, (V.sl t9)), (10, (V.i .i64 t10)), (52, (V.b t52)), (500011, (V.agg [(V.b t500011_0), (V.i .u16 t500011_1), (V.i .u32 t500011_2), (V.b t500011_3), (V.i .u8 t500011_4), (V.sl t500011_5)])), (1000011, (V.p (some (11, 0))))] H K = _
  rw [ev2_cond _ _ _ _ _ _ t52 rfl]
  delta g5_p11
  exact sc (g5_p9_eq a9 a10 a11 a15 a14 a13 a16 la9 la10 la11 la15 la14 la13 la16 t0 t5 t6 t8 t9 t10 t52 t500011_0 t500011_1 t500011_2 t500011_3 t500011_4 t500011_5 H (kEnd kp5 (condId (.tmp 52)) K)) (g5_p10_eq a9 a10 a11 a15 a14 a13 a16 la9 la10 la11 la15 la14 la13 la16 t0 t5 t6 t8 t9 t10 t52 t500011_0 t500011_1 t500011_2 t500011_3 t500011_4 t500011_5 H (kEnd kp5 (condId (.tmp 52)) K))
noncomputable def g5_p12 (a9 : T9) (a10 : T10) (a11 : T11) (a15 : T15) (a14 : T14) (a13 : T13) (a16 : T16) (R : Type) (t0 : Sl) (t5 : Int) (t6 : Option (Nat × Nat)) (t8 : Sl) (t9 : Sl) (t10 : Int) (t500011_0 : Bool) (t500011_1 : Int) (t500011_2 : Int) (t500011_3 : Bool) (t500011_4 : Int) (t500011_5 : Sl) (H : Heap) (kN : Sl → Int → Option (Nat × Nat) → Sl → Sl → Int → Heap → Option R) (kR : Bool → Heap → Option R) : Option R :=
  a13 R t6 t500011_1 t500011_2 t500011_3 t500011_4 t500011_5 H fun x100 x101 x102 h103 =>
  a16 R t8 t9 t500011_1 t500011_2 t500011_3 t500011_4 t500011_5 t5 h103 fun x104 x105 x106 x107 x108 h109 =>
  sel (x102 != x108) (
    kR false h109) (
    sel (!(x101 == x107)) (
      kR false h109) (
      ((slBytes h109 x100)).bind fun x110 =>
      sel (!strEq x110 x106) (
        kR false h109) (
        a14 R t6 h109 fun x111 h112 =>
        sel (x111 != ((x104.len : Nat) : Int)) (
          kR false h112) (
          kN t0 t5 t6 x104 x105 t10 h112))))
theorem g5_p12_eq (a9 : T9) (a10 : T10) (a11 : T11) (a15 : T15) (a14 : T14) (a13 : T13) (a16 : T16) (la9 : Lin9 a9) (la10 : Lin10 a10) (la11 : Lin11 a11) (la15 : Lin15 a15) (la14 : Lin14 a14) (la13 : Lin13 a13) (la16 : Lin16 a16) {R : Type} (t0 : Sl) (t5 : Int) (t6 : Option (Nat × Nat)) (t8 : Sl) (t9 : Sl) (t10 : Int) (t500011_0 : Bool) (t500011_1 : Int) (t500011_2 : Int) (t500011_3 : Bool) (t500011_4 : Int) (t500011_5 : Sl) (H : Heap) (K : Ex → Fr → Heap → Option R) : ev2 Try.prog (E5 a9 a10 a11 a15 a14 a13 a16) loopLim lv5 Try.f5.ntmps kp5 c5_8 [(0, (V.sl t0)), (5, (V.i .i64 t5)), (6, (V.p t6)), (8, (V.sl t8)), (9, (V.sl t9)), (10, (V.i .i64 t10)), (500011, (V.agg [(V.b t500011_0), (V.i .u16 t500011_1), (V.i .u32 t500011_2), (V.b t500011_3), (V.i .u8 t500011_4), (V.sl t500011_5)])), (1000011, (V.p (some (11, 0))))] H K = g5_p12 a9 a10 a11 a15 a14 a13 a16 R t0 t5 t6 t8 t9 t10 t500011_0 t500011_1 t500011_2 t500011_3 t500011_4 t500011_5 H (fun t0 t5 t6 t8 t9 t10 H => K .normal [(0, (V.sl t0)), (5, (V.i .i64 t5)), (6, (V.p t6)), (8, (V.sl t8)), (9, (V.sl t9)), (10, (V.i .i64 t10))] H) (fun t4 H => K .ret [(4, (V.b t4))] H) := by kernel_rfl
theorem g5_p12_lin {a9 : T9} {a10 : T10} {a11 : T11} {a15 : T15} {a14 : T14} {a13 : T13} {a16 : T16} (la9 : Lin9 a9) (la10 : Lin10 a10) (la11 : Lin11 a11) (la15 : Lin15 a15) (la14 : Lin14 a14) (la13 : Lin13 a13) (la16 : Lin16 a16) {R S : Type} {k : S → Option R} {t0 : Sl} {t5 : Int} {t6 : Option (Nat × Nat)} {t8 : Sl} {t9 : Sl} {t10 : Int} {t500011_0 : Bool} {t500011_1 : Int} {t500011_2 : Int} {t500011_3 : Bool} {t500011_4 : Int} {t500011_5 : Sl} {H : Heap} {fkN : Sl → Int → Option (Nat × Nat) → Sl → Sl → Int → Heap → Option R} {gkN : Sl → Int → Option (Nat × Nat) → Sl → Sl → Int → Heap → Option S} {fkR : Bool → Heap → Option R} {gkR : Bool → Heap → Option S} (hkN : ∀ t0 t5 t6 t8 t9 t10 H, fkN t0 t5 t6 t8 t9 t10 H = (gkN t0 t5 t6 t8 t9 t10 H).bind k) (hkR : ∀ t4 H, fkR t4 H = (gkR t4 H).bind k) : g5_p12 a9 a10 a11 a15 a14 a13 a16 R t0 t5 t6 t8 t9 t10 t500011_0 t500011_1 t500011_2 t500011_3 t500011_4 t500011_5 H fkN fkR = (g5_p12 a9 a10 a11 a15 a14 a13 a16 S t0 t5 t6 t8 t9 t10 t500011_0 t500011_1 t500011_2 t500011_3 t500011_4 t500011_5 H gkN gkR).bind k := by
  delta g5_p12; exact (
    la13.l fun x100 x101 x102 h103 =>
    la16.l fun x104 x105 x106 x107 x108 h109 =>
    sl_lin (
      hkR _ _) (
      sl_lin (
        hkR _ _) (
        bl fun x110 =>
        sl_lin (
          hkR _ _) (
          la14.l fun x111 h112 =>
          sl_lin (
            hkR _ _) (
            hkN _ _ _ _ _ _ _)))))
noncomputable def g5_p13 (a9 : T9) (a10 : T10) (a11 : T11) (a15 : T15) (a14 : T14) (a13 : T13) (a16 : T16) (R : Type) (t0 : Sl) (t5 : Int) (t6 : Option (Nat × Nat)) (t8 : Sl) (t9 : Sl) (t10 : Int) (t52 : Bool) (t500011_0 : Bool) (t500011_1 : Int) (t500011_2 : Int) (t500011_3 : Bool) (t500011_4 : Int) (t500011_5 : Sl) (H : Heap) (kN : Sl → Int → Option (Nat × Nat) → Sl → Sl → Int → Heap → Option R) (kE1 : Sl → Int → Option (Nat × Nat) → Sl → Sl → Int → Heap → Option R) (kR : Bool → Heap → Option R) : Option R :=
  g5_p11 a9 a10 a11 a15 a14 a13 a16 R t0 t5 t6 t8 t9 t10 t52 t500011_0 t500011_1 t500011_2 t500011_3 t500011_4 t500011_5 H (fun t0 t5 t6 t8 t9 t10 t500011_0 t500011_1 t500011_2 t500011_3 t500011_4 t500011_5 H => g5_p12 a9 a10 a11 a15 a14 a13 a16 R t0 t5 t6 t8 t9 t10 t500011_0 t500011_1 t500011_2 t500011_3 t500011_4 t500011_5 H (fun t0 t5 t6 t8 t9 t10 H => kN t0 t5 t6 t8 t9 t10 H) (fun t4 H => kR t4 H)) (fun t0 t5 t6 t8 t9 t10 H => kE1 t0 t5 t6 t8 t9 t10 H) (fun t4 H => kR t4 H)
theorem g5_p13_lin {a9 : T9} {a10 : T10} {a11 : T11} {a15 : T15} {a14 : T14} {a13 : T13} {a16 : T16} (la9 : Lin9 a9) (la10 : Lin10 a10) (la11 : Lin11 a11) (la15 : Lin15 a15) (la14 : Lin14 a14) (la13 : Lin13 a13) (la16 : Lin16 a16) {R S : Type} {k : S → Option R} {t0 : Sl} {t5 : Int} {t6 : Option (Nat × Nat)} {t8 : Sl} {t9 : Sl} {t10 : Int} {t52 : Bool} {t500011_0 : Bool} {t500011_1 : Int} {t500011_2 : Int} {t500011_3 : Bool} {t500011_4 : Int} {t500011_5 : Sl} {H : Heap} {fkN : Sl → Int → Option (Nat × Nat) → Sl → Sl → Int → Heap → Option R} {gkN : Sl → Int → Option (Nat × Nat) → Sl → Sl → Int → Heap → Option S} {fkE1 : Sl → Int → Option (Nat × Nat) → Sl → Sl → Int → Heap → Option R} {gkE1 : Sl → Int → Option (Nat × Nat) → Sl → Sl → Int → Heap → Option S} {fkR : Bool → Heap → Option R} {gkR : Bool → Heap → Option S} (hkN : ∀ t0 t5 t6 t8 t9 t10 H, fkN t0 t5 t6 t8 t9 t10 H = (gkN t0 t5 t6 t8 t9 t10 H).bind k) (hkE1 : ∀ t0 t5 t6 t8 t9 t10 H, fkE1 t0 t5 t6 t8 t9 t10 H = (gkE1 t0 t5 t6 t8 t9 t10 H).bind k) (hkR : ∀ t4 H, fkR t4 H = (gkR t4 H).bind k) : g5_p13 a9 a10 a11 a15 a14 a13 a16 R t0 t5 t6 t8 t9 t10 t52 t500011_0 t500011_1 t500011_2 t500011_3 t500011_4 t500011_5 H fkN fkE1 fkR = (g5_p13 a9 a10 a11 a15 a14 a13 a16 S t0 t5 t6 t8 t9 t10 t52 t500011_0 t500011_1 t500011_2 t500011_3 t500011_4 t500011_5 H gkN gkE1 gkR).bind k := by
  exact g5_p11_lin la9 la10 la11 la15 la14 la13 la16 (fun _ _ _ _ _ _ _ _ _ _ _ _ _ => g5_p12_lin la9 la10 la11 la15 la14 la13 la16 (fun _ _ _ _ _ _ _ => hkN _ _ _ _ _ _ _) (fun _ _ => hkR _ _)) (fun _ _ _ _ _ _ _ => hkE1 _ _ _ _ _ _ _) (fun _ _ => hkR _ _)
theorem g5_p13_eq (a9 : T9) (a10 : T10) (a11 : T11) (a15 : T15) (a14 : T14) (a13 : T13) (a16 : T16) (la9 : Lin9 a9) (la10 : Lin10 a10) (la11 : Lin11 a11) (la15 : Lin15 a15) (la14 : Lin14 a14) (la13 : Lin13 a13) (la16 : Lin16 a16) {R : Type} (t0 : Sl) (t5 : Int) (t6 : Option (Nat × Nat)) (t8 : Sl) (t9 : Sl) (t10 : Int) (t52 : Bool) (t500011_0 : Bool) (t500011_1 : Int) (t500011_2 : Int) (t500011_3 : Bool) (t500011_4 : Int) (t500011_5 : Sl) (H : Heap) (K : Ex → Fr → Heap → Option R) : ev2 Try.prog (E5 a9 a10 a11 a15 a14 a13 a16) loopLim lv5 Try.f5.ntmps kp5 c5_9 [(0, (V.sl t0)), (5, (V.i .i64 t5)), (6, (V.p t6)), (8, (V.sl t8)), (9, (V.sl t9)), (10, (V.i .i64 t10)), (52, (V.b t52)), (500011, (V.agg [(V.b t500011_0), (V.i .u16 t500011_1), (V.i .u32 t500011_2), (V.b t500011_3), (V.i .u8 t500011_4), (V.sl t500011_5)])), (1000011, (V.p (some (11, 0))))] H K = g5_p13 a9 a10 a11 a15 a14 a13 a16 R t0 t5 t6 t8 t9 t10 t52 t500011_0 t500011_1 t500011_2 t500011_3 t500011_4 t500011_5 H (fun t0 t5 t6 t8 t9 t10 H => K .normal [(0, (V.sl t0)), (5, (V.i .i64 t5)), (6, (V.p t6)), (8, (V.sl t8)), (9, (V.sl t9)), (10, (V.i .i64 t10))] H) (fun t0 t5 t6 t8 t9 t10 H => K (.exit 1) [(0, (V.sl t0)), (5, (V.i .i64 t5)), (6, (V.p t6)), (8, (V.sl t8)), (9, (V.sl t9)), (10, (V.i .i64 t10))] H) (fun t4 H => K .ret [(4, (V.b t4))] H) := by
  show ev2 Try.prog (E5 a9 a10 a11 a15 a14 a13 a16) loopLim lv5 Try.f5.ntmps kp5 (.seq c5_7 c5_8) [(0, (V.sl t0)), (5, (V.i .i64 t5)), (6, (V.p t6)), (8, (V.sl t8)), (9, (V.sl t9)), (10, (V.i .i64 t10)), (52, (V.b t52)), (500011, (V.agg [(V.b t500011_0), (V.i .u16 t500011_1), (V.i .u32 t500011_2), (V.b t500011_3), (V.i .u8 t500011_4), (V.sl t500011_5)])), (1000011, (V.p (some (11, 0))))] H K = _
  rw [ev2_seq]
  delta g5_p13
  exact (g5_p11_eq a9 a10 a11 a15 a14 a13 a16 la9 la10 la11 la15 la14 la13 la16 t0 t5 t6 t8 t9 t10 t52 t500011_0 t500011_1 t500011_2 t500011_3 t500011_4 t500011_5 H (kSeq (fun fr H => ev2 Try.prog (E5 a9 a10 a11 a15 a14 a13 a16) loopLim lv5 Try.f5.ntmps kp5 c5_8 fr H K) K)).trans (congr (congr (congrArg (g5_p11 a9 a10 a11 a15 a14 a13 a16 R t0 t5 t6 t8 t9 t10 t52 t500011_0 t500011_1 t500011_2 t500011_3 t500011_4 t500011_5 H) (funext fun t0 => funext fun t5 => funext fun t6 => funext fun t8 => funext fun t9 => funext fun t10 => funext fun t500011_0 => funext fun t500011_1 => funext fun t500011_2 => funext fun t500011_3 => funext fun t500011_4 => funext fun t500011_5 => funext fun H => (kSeq_n _ _ _ _).trans (g5_p12_eq a9 a10 a11 a15 a14 a13 a16 la9 la10 la11 la15 la14 la13 la16 t0 t5 t6 t8 t9 t10 t500011_0 t500011_1 t500011_2 t500011_3 t500011_4 t500011_5 H K))) rfl) rfl)
noncomputable def g5_p14 (a9 : T9) (a10 : T10) (a11 : T11) (a15 : T15) (a14 : T14) (a13 : T13) (a16 : T16) (R : Type) (t0 : Sl) (t5 : Int) (t6 : Option (Nat × Nat)) (t8 : Sl) (t9 : Sl) (t10 : Int) (H : Heap) (kN : Sl → Int → Option (Nat × Nat) → Sl → Sl → Int → Heap → Option R) (kE1 : Sl → Int → Option (Nat × Nat) → Sl → Sl → Int → Heap → Option R) (kR : Bool → Heap → Option R) : Option R :=
  g5_p2 a9 a10 a11 a15 a14 a13 a16 R t0 t5 t6 t8 t9 t10 H (fun t0 t5 t6 t8 t9 t10 t52 t500011_0 t500011_1 t500011_2 t500011_3 t500011_4 t500011_5 H => g5_p13 a9 a10 a11 a15 a14 a13 a16 R t0 t5 t6 t8 t9 t10 t52 t500011_0 t500011_1 t500011_2 t500011_3 t500011_4 t500011_5 H (fun t0 t5 t6 t8 t9 t10 H => kN t0 t5 t6 t8 t9 t10 H) (fun t0 t5 t6 t8 t9 t10 H => kE1 t0 t5 t6 t8 t9 t10 H) (fun t4 H => kR t4 H)) (fun t4 H => kR t4 H)
theorem g5_p14_lin {a9 : T9} {a10 : T10} {a11 : T11} {a15 : T15} {a14 : T14} {a13 : T13} {a16 : T16} (la9 : Lin9 a9) (la10 : Lin10 a10) (la11 : Lin11 a11) (la15 : Lin15 a15) (la14 : Lin14 a14) (la13 : Lin13 a13) (la16 : Lin16 a16) {R S : Type} {k : S → Option R} {t0 : Sl} {t5 : Int} {t6 : Option (Nat × Nat)} {t8 : Sl} {t9 : Sl} {t10 : Int} {H : Heap} {fkN : Sl → Int → Option (Nat × Nat) → Sl → Sl → Int → Heap → Option R} {gkN : Sl → Int → Option (Nat × Nat) → Sl → Sl → Int → Heap → Option S} {fkE1 : Sl → Int → Option (Nat × Nat) → Sl → Sl → Int → Heap → Option R} {gkE1 : Sl → Int → Option (Nat × Nat) → Sl → Sl → Int → Heap → Option S} {fkR : Bool → Heap → Option R} {gkR : Bool → Heap → Option S} (hkN : ∀ t0 t5 t6 t8 t9 t10 H, fkN t0 t5 t6 t8 t9 t10 H = (gkN t0 t5 t6 t8 t9 t10 H).bind k) (hkE1 : ∀ t0 t5 t6 t8 t9 t10 H, fkE1 t0 t5 t6 t8 t9 t10 H = (gkE1 t0 t5 t6 t8 t9 t10 H).bind k) (hkR : ∀ t4 H, fkR t4 H = (gkR t4 H).bind k) : g5_p14 a9 a10 a11 a15 a14 a13 a16 R t0 t5 t6 t8 t9 t10 H fkN fkE1 fkR = (g5_p14 a9 a10 a11 a15 a14 a13 a16 S t0 t5 t6 t8 t9 t10 H gkN gkE1 gkR).bind k := by
  exact g5_p2_lin la9 la10 la11 la15 la14 la13 la16 (fun _ _ _ _ _ _ _ _ _ _ _ _ _ _ => g5_p13_lin la9 la10 la11 la15 la14 la13 la16 (fun _ _ _ _ _ _ _ => hkN _ _ _ _ _ _ _) (fun _ _ _ _ _ _ _ => hkE1 _ _ _ _ _ _ _) (fun _ _ => hkR _ _)) (fun _ _ => hkR _ _)
theorem g5_p14_eq (a9 : T9) (a10 : T10) (a11 : T11) (a15 : T15) (a14 : T14) (a13 : T13) (a16 : T16) (la9 : Lin9 a9) (la10 : Lin10 a10) (la11 : Lin11 a11) (la15 : Lin15 a15) (la14 : Lin14 a14) (la13 : Lin13 a13) (la16 : Lin16 a16) {R : Type} (t0 : Sl) (t5 : Int) (t6 : Option (Nat × Nat)) (t8 : Sl) (t9 : Sl) (t10 : Int) (H : Heap) (K : Ex → Fr → Heap → Option R) : ev2 Try.prog (E5 a9 a10 a11 a15 a14 a13 a16) loopLim lv5 Try.f5.ntmps kp5 c5_10 [(0, (V.sl t0)), (5, (V.i .i64 t5)), (6, (V.p t6)), (8, (V.sl t8)), (9, (V.sl t9)), (10, (V.i .i64 t10))] H K = g5_p14 a9 a10 a11 a15 a14 a13 a16 R t0 t5 t6 t8 t9 t10 H (fun t0 t5 t6 t8 t9 t10 H => K .normal [(0, (V.sl t0)), (5, (V.i .i64 t5)), (6, (V.p t6)), (8, (V.sl t8)), (9, (V.sl t9)), (10, (V.i .i64 t10))] H) (fun t0 t5 t6 t8 t9 t10 H => K (.exit 1) [(0, (V.sl t0)), (5, (V.i .i64 t5)), (6, (V.p t6)), (8, (V.sl t8)), (9, (V.sl t9)), (10, (V.i .i64 t10))] H) (fun t4 H => K .ret [(4, (V.b t4))] H) := by
  show ev2 Try.prog (E5 a9 a10 a11 a15 a14 a13 a16) loopLim lv5 Try.f5.ntmps kp5 (.seq (codeAt [1, 1, 1, 1, 1, 1, 1, 0, 1, 0, 0, 1, 0, 0, 0] b5) (.seq (codeAt [1, 1, 1, 1, 1, 1, 1, 0, 1, 0, 0, 1, 0, 0, 1, 0, 0] b5) (.seq (.cond (.tmp 49) (.seq (codeAt [1, 1, 1, 1, 1, 1, 1, 0, 1, 0, 0, 1, 0, 0, 1, 0, 1, 0, 0] b5) .ret) .skip) (.seq (codeAt [1, 1, 1, 1, 1, 1, 1, 0, 1, 0, 0, 1, 0, 0, 1, 1, 0, 0] b5) c5_9)))) [(0, (V.sl t0)), (5, (V.i .i64 t5)), (6, (V.p t6)), (8, (V.sl t8)), (9, (V.sl t9)), (10, (V.i .i64 t10))] H K = _
  delta g5_p14
  exact (g5_p2_eq a9 a10 a11 a15 a14 a13 a16 _ t0 t5 t6 t8 t9 t10 H K).trans (congr (congrArg (g5_p2 a9 a10 a11 a15 a14 a13 a16 R t0 t5 t6 t8 t9 t10 H) (funext fun t0 => funext fun t5 => funext fun t6 => funext fun t8 => funext fun t9 => funext fun t10 => funext fun t52 => funext fun t500011_0 => funext fun t500011_1 => funext fun t500011_2 => funext fun t500011_3 => funext fun t500011_4 => funext fun t500011_5 => funext fun H => g5_p13_eq a9 a10 a11 a15 a14 a13 a16 la9 la10 la11 la15 la14 la13 la16 t0 t5 t6 t8 t9 t10 t52 t500011_0 t500011_1 t500011_2 t500011_3 t500011_4 t500011_5 H K)) rfl)
noncomputable def g5_p15 (a9 : T9) (a10 : T10) (a11 : T11) (a15 : T15) (a14 : T14) (a13 : T13) (a16 : T16) (R : Type) (t0 : Sl) (t5 : Int) (t6 : Option (Nat × Nat)) (t8 : Sl) (t9 : Sl) (t10 : Int) (H : Heap) (kN : Sl → Int → Option (Nat × Nat) → Sl → Sl → Int → Heap → Option R) (kR : Bool → Heap → Option R) : Option R :=
  g5_p14 a9 a10 a11 a15 a14 a13 a16 R t0 t5 t6 t8 t9 t10 H (fun t0 t5 t6 t8 t9 t10 H => kN t0 t5 t6 t8 t9 t10 H) (fun t0 t5 t6 t8 t9 t10 H => kN t0 t5 t6 t8 t9 t10 H) (fun t4 H => kR t4 H)
theorem g5_p15_lin {a9 : T9} {a10 : T10} {a11 : T11} {a15 : T15} {a14 : T14} {a13 : T13} {a16 : T16} (la9 : Lin9 a9) (la10 : Lin10 a10) (la11 : Lin11 a11) (la15 : Lin15 a15) (la14 : Lin14 a14) (la13 : Lin13 a13) (la16 : Lin16 a16) {R S : Type} {k : S → Option R} {t0 : Sl} {t5 : Int} {t6 : Option (Nat × Nat)} {t8 : Sl} {t9 : Sl} {t10 : Int} {H : Heap} {fkN : Sl → Int → Option (Nat × Nat) → Sl → Sl → Int → Heap → Option R} {gkN : Sl → Int → Option (Nat × Nat) → Sl → Sl → Int → Heap → Option S} {fkR : Bool → Heap → Option R} {gkR : Bool → Heap → Option S} (hkN : ∀ t0 t5 t6 t8 t9 t10 H, fkN t0 t5 t6 t8 t9 t10 H = (gkN t0 t5 t6 t8 t9 t10 H).bind k) (hkR : ∀ t4 H, fkR t4 H = (gkR t4 H).bind k) : g5_p15 a9 a10 a11 a15 a14 a13 a16 R t0 t5 t6 t8 t9 t10 H fkN fkR = (g5_p15 a9 a10 a11 a15 a14 a13 a16 S t0 t5 t6 t8 t9 t10 H gkN gkR).bind k := by
  exact g5_p14_lin la9 la10 la11 la15 la14 la13 la16 (fun _ _ _ _ _ _ _ => hkN _ _ _ _ _ _ _) (fun _ _ _ _ _ _ _ => hkN _ _ _ _ _ _ _) (fun _ _ => hkR _ _)
theorem g5_p15_eq (a9 : T9) (a10 : T10) (a11 : T11) (a15 : T15) (a14 : T14) (a13 : T13) (a16 : T16) (la9 : Lin9 a9) (la10 : Lin10 a10) (la11 : Lin11 a11) (la15 : Lin15 a15) (la14 : Lin14 a14) (la13 : Lin13 a13) (la16 : Lin16 a16) {R : Type} (t0 : Sl) (t5 : Int) (t6 : Option (Nat × Nat)) (t8 : Sl) (t9 : Sl) (t10 : Int) (H : Heap) (K : Ex → Fr → Heap → Option R) : ev2 Try.prog (E5 a9 a10 a11 a15 a14 a13 a16) loopLim lv5 Try.f5.ntmps kp5 c5_11 [(0, (V.sl t0)), (5, (V.i .i64 t5)), (6, (V.p t6)), (8, (V.sl t8)), (9, (V.sl t9)), (10, (V.i .i64 t10))] H K = g5_p15 a9 a10 a11 a15 a14 a13 a16 R t0 t5 t6 t8 t9 t10 H (fun t0 t5 t6 t8 t9 t10 H => K .normal [(0, (V.sl t0)), (5, (V.i .i64 t5)), (6, (V.p t6)), (8, (V.sl t8)), (9, (V.sl t9)), (10, (V.i .i64 t10))] H) (fun t4 H => K .ret [(4, (V.b t4))] H) := by
  show ev2 Try.prog (E5 a9 a10 a11 a15 a14 a13 a16) loopLim lv5 Try.f5.ntmps kp5 (.block 1 c5_10) [(0, (V.sl t0)), (5, (V.i .i64 t5)), (6, (V.p t6)), (8, (V.sl t8)), (9, (V.sl t9)), (10, (V.i .i64 t10))] H K = _
  rw [ev2_block]
  delta g5_p15
  exact (g5_p14_eq a9 a10 a11 a15 a14 a13 a16 la9 la10 la11 la15 la14 la13 la16 t0 t5 t6 t8 t9 t10 H (kBlock kp5 1 K))
noncomputable def g5_p16 (a9 : T9) (a10 : T10) (a11 : T11) (a15 : T15) (a14 : T14) (a13 : T13) (a16 : T16) (R : Type) (t0 : Sl) (t5 : Int) (t6 : Option (Nat × Nat)) (t8 : Sl) (t9 : Sl) (t10 : Int) (H : Heap) (kN : Sl → Int → Option (Nat × Nat) → Sl → Sl → Int → Heap → Option R) : Option R :=
  kN t0 t5 t6 t8 t9 (IntKind.wrap .i64 (t10 + (1 : Int))) H
theorem g5_p16_eq (a9 : T9) (a10 : T10) (a11 : T11) (a15 : T15) (a14 : T14) (a13 : T13) (a16 : T16) (la9 : Lin9 a9) (la10 : Lin10 a10) (la11 : Lin11 a11) (la15 : Lin15 a15) (la14 : Lin14 a14) (la13 : Lin13 a13) (la16 : Lin16 a16) {R : Type} (t0 : Sl) (t5 : Int) (t6 : Option (Nat × Nat)) (t8 : Sl) (t9 : Sl) (t10 : Int) (H : Heap) (K : Ex → Fr → Heap → Option R) : ev2 Try.prog (E5 a9 a10 a11 a15 a14 a13 a16) loopLim lv5 Try.f5.ntmps kp5 c5_12 [(0, (V.sl t0)), (5, (V.i .i64 t5)), (6, (V.p t6)), (8, (V.sl t8)), (9, (V.sl t9)), (10, (V.i .i64 t10))] H K = g5_p16 a9 a10 a11 a15 a14 a13 a16 R t0 t5 t6 t8 t9 t10 H (fun t0 t5 t6 t8 t9 t10 H => K .normal [(0, (V.sl t0)), (5, (V.i .i64 t5)), (6, (V.p t6)), (8, (V.sl t8)), (9, (V.sl t9)), (10, (V.i .i64 t10))] H) := by kernel_rfl
theorem g5_p16_lin {a9 : T9} {a10 : T10} {a11 : T11} {a15 : T15} {a14 : T14} {a13 : T13} {a16 : T16} (la9 : Lin9 a9) (la10 : Lin10 a10) (la11 : Lin11 a11) (la15 : Lin15 a15) (la14 : Lin14 a14) (la13 : Lin13 a13) (la16 : Lin16 a16) {R S : Type} {k : S → Option R} {t0 : Sl} {t5 : Int} {t6 : Option (Nat × Nat)} {t8 : Sl} {t9 : Sl} {t10 : Int} {H : Heap} {fkN : Sl → Int → Option (Nat × Nat) → Sl → Sl → Int → Heap → Option R} {gkN : Sl → Int → Option (Nat × Nat) → Sl → Sl → Int → Heap → Option S} (hkN : ∀ t0 t5 t6 t8 t9 t10 H, fkN t0 t5 t6 t8 t9 t10 H = (gkN t0 t5 t6 t8 t9 t10 H).bind k) : g5_p16 a9 a10 a11 a15 a14 a13 a16 R t0 t5 t6 t8 t9 t10 H fkN = (g5_p16 a9 a10 a11 a15 a14 a13 a16 S t0 t5 t6 t8 t9 t10 H gkN).bind k := by
  delta g5_p16; exact (
    hkN _ _ _ _ _ _ _)
noncomputable def g5_p17 (a9 : T9) (a10 : T10) (a11 : T11) (a15 : T15) (a14 : T14) (a13 : T13) (a16 : T16) (R : Type) (t0 : Sl) (t5 : Int) (t6 : Option (Nat × Nat)) (t8 : Sl) (t9 : Sl) (t10 : Int) (H : Heap) (kN : Sl → Int → Option (Nat × Nat) → Sl → Sl → Int → Heap → Option R) (kR : Bool → Heap → Option R) : Option R :=
  g5_p15 a9 a10 a11 a15 a14 a13 a16 R t0 t5 t6 t8 t9 t10 H (fun t0 t5 t6 t8 t9 t10 H => g5_p16 a9 a10 a11 a15 a14 a13 a16 R t0 t5 t6 t8 t9 t10 H (fun t0 t5 t6 t8 t9 t10 H => kN t0 t5 t6 t8 t9 t10 H)) (fun t4 H => kR t4 H)
theorem g5_p17_lin {a9 : T9} {a10 : T10} {a11 : T11} {a15 : T15} {a14 : T14} {a13 : T13} {a16 : T16} (la9 : Lin9 a9) (la10 : Lin10 a10) (la11 : Lin11 a11) (la15 : Lin15 a15) (la14 : Lin14 a14) (la13 : Lin13 a13) (la16 : Lin16 a16) {R S : Type} {k : S → Option R} {t0 : Sl} {t5 : Int} {t6 : Option (Nat × Nat)} {t8 : Sl} {t9 : Sl} {t10 : Int} {H : Heap} {fkN : Sl → Int → Option (Nat × Nat) → Sl → Sl → Int → Heap → Option R} {gkN : Sl → Int → Option (Nat × Nat) → Sl → Sl → Int → Heap → Option S} {fkR : Bool → Heap → Option R} {gkR : Bool → Heap → Option S} (hkN : ∀ t0 t5 t6 t8 t9 t10 H, fkN t0 t5 t6 t8 t9 t10 H = (gkN t0 t5 t6 t8 t9 t10 H).bind k) (hkR : ∀ t4 H, fkR t4 H = (gkR t4 H).bind k) : g5_p17 a9 a10 a11 a15 a14 a13 a16 R t0 t5 t6 t8 t9 t10 H fkN fkR = (g5_p17 a9 a10 a11 a15 a14 a13 a16 S t0 t5 t6 t8 t9 t10 H gkN gkR).bind k := by
  exact g5_p15_lin la9 la10 la11 la15 la14 la13 la16 (fun _ _ _ _ _ _ _ => g5_p16_lin la9 la10 la11 la15 la14 la13 la16 (fun _ _ _ _ _ _ _ => hkN _ _ _ _ _ _ _)) (fun _ _ => hkR _ _)
theorem g5_p17_eq (a9 : T9) (a10 : T10) (a11 : T11) (a15 : T15) (a14 : T14) (a13 : T13) (a16 : T16) (la9 : Lin9 a9) (la10 : Lin10 a10) (la11 : Lin11 a11) (la15 : Lin15 a15) (la14 : Lin14 a14) (la13 : Lin13 a13) (la16 : Lin16 a16) {R : Type} (t0 : Sl) (t5 : Int) (t6 : Option (Nat × Nat)) (t8 : Sl) (t9 : Sl) (t10 : Int) (H : Heap) (K : Ex → Fr → Heap → Option R) : ev2 Try.prog (E5 a9 a10 a11 a15 a14 a13 a16) loopLim lv5 Try.f5.ntmps kp5 c5_13 [(0, (V.sl t0)), (5, (V.i .i64 t5)), (6, (V.p t6)), (8, (V.sl t8)), (9, (V.sl t9)), (10, (V.i .i64 t10))] H K = g5_p17 a9 a10 a11 a15 a14 a13 a16 R t0 t5 t6 t8 t9 t10 H (fun t0 t5 t6 t8 t9 t10 H => K .normal [(0, (V.sl t0)), (5, (V.i .i64 t5)), (6, (V.p t6)), (8, (V.sl t8)), (9, (V.sl t9)), (10, (V.i .i64 t10))] H) (fun t4 H => K .ret [(4, (V.b t4))] H) := by
  show ev2 Try.prog (E5 a9 a10 a11 a15 a14 a13 a16) loopLim lv5 Try.f5.ntmps kp5 (.seq c5_11 c5_12) [(0, (V.sl t0)), (5, (V.i .i64 t5)), (6, (V.p t6)), (8, (V.sl t8)), (9, (V.sl t9)), (10, (V.i .i64 t10))] H K = _
  rw [ev2_seq]
  delta g5_p17
  exact (g5_p15_eq a9 a10 a11 a15 a14 a13 a16 la9 la10 la11 la15 la14 la13 la16 t0 t5 t6 t8 t9 t10 H (kSeq (fun fr H => ev2 Try.prog (E5 a9 a10 a11 a15 a14 a13 a16) loopLim lv5 Try.f5.ntmps kp5 c5_12 fr H K) K)).trans (congr (congrArg (g5_p15 a9 a10 a11 a15 a14 a13 a16 R t0 t5 t6 t8 t9 t10 H) (funext fun t0 => funext fun t5 => funext fun t6 => funext fun t8 => funext fun t9 => funext fun t10 => funext fun H => (kSeq_n _ _ _ _).trans (g5_p16_eq a9 a10 a11 a15 a14 a13 a16 la9 la10 la11 la15 la14 la13 la16 t0 t5 t6 t8 t9 t10 H K))) rfl)
noncomputable def g5_p18 (a9 : T9) (a10 : T10) (a11 : T11) (a15 : T15) (a14 : T14) (a13 : T13) (a16 : T16) (R : Type) (t0 : Sl) (t5 : Int) (t6 : Option (Nat × Nat)) (t8 : Sl) (t9 : Sl) (t10 : Int) (H : Heap) (kN : Sl → Int → Option (Nat × Nat) → Sl → Sl → Int → Heap → Option R) (kE0 : Heap → Option R) (kR : Bool → Heap → Option R) : Option R :=
  g5_p1 a9 a10 a11 a15 a14 a13 a16 R t0 t5 t6 t8 t9 t10 H (fun t0 t5 t6 t8 t9 t10 H => g5_p17 a9 a10 a11 a15 a14 a13 a16 R t0 t5 t6 t8 t9 t10 H (fun t0 t5 t6 t8 t9 t10 H => kN t0 t5 t6 t8 t9 t10 H) (fun t4 H => kR t4 H)) (fun H => kE0  H)
theorem g5_p18_lin {a9 : T9} {a10 : T10} {a11 : T11} {a15 : T15} {a14 : T14} {a13 : T13} {a16 : T16} (la9 : Lin9 a9) (la10 : Lin10 a10) (la11 : Lin11 a11) (la15 : Lin15 a15) (la14 : Lin14 a14) (la13 : Lin13 a13) (la16 : Lin16 a16) {R S : Type} {k : S → Option R} {t0 : Sl} {t5 : Int} {t6 : Option (Nat × Nat)} {t8 : Sl} {t9 : Sl} {t10 : Int} {H : Heap} {fkN : Sl → Int → Option (Nat × Nat) → Sl → Sl → Int → Heap → Option R} {gkN : Sl → Int → Option (Nat × Nat) → Sl → Sl → Int → Heap → Option S} {fkE0 : Heap → Option R} {gkE0 : Heap → Option S} {fkR : Bool → Heap → Option R} {gkR : Bool → Heap → Option S} (hkN : ∀ t0 t5 t6 t8 t9 t10 H, fkN t0 t5 t6 t8 t9 t10 H = (gkN t0 t5 t6 t8 t9 t10 H).bind k) (hkE0 : ∀ H, fkE0 H = (gkE0 H).bind k) (hkR : ∀ t4 H, fkR t4 H = (gkR t4 H).bind k) : g5_p18 a9 a10 a11 a15 a14 a13 a16 R t0 t5 t6 t8 t9 t10 H fkN fkE0 fkR = (g5_p18 a9 a10 a11 a15 a14 a13 a16 S t0 t5 t6 t8 t9 t10 H gkN gkE0 gkR).bind k := by
  exact g5_p1_lin la9 la10 la11 la15 la14 la13 la16 (fun _ _ _ _ _ _ _ => g5_p17_lin la9 la10 la11 la15 la14 la13 la16 (fun _ _ _ _ _ _ _ => hkN _ _ _ _ _ _ _) (fun _ _ => hkR _ _)) (fun _ => hkE0 _)
theorem g5_p18_eq (a9 : T9) (a10 : T10) (a11 : T11) (a15 : T15) (a14 : T14) (a13 : T13) (a16 : T16) (la9 : Lin9 a9) (la10 : Lin10 a10) (la11 : Lin11 a11) (la15 : Lin15 a15) (la14 : Lin14 a14) (la13 : Lin13 a13) (la16 : Lin16 a16) {R : Type} (t0 : Sl) (t5 : Int) (t6 : Option (Nat × Nat)) (t8 : Sl) (t9 : Sl) (t10 : Int) (H : Heap) (K : Ex → Fr → Heap → Option R) : ev2 Try.prog (E5 a9 a10 a11 a15 a14 a13 a16) loopLim lv5 Try.f5.ntmps kp5 c5_14 [(0, (V.sl t0)), (5, (V.i .i64 t5)), (6, (V.p t6)), (8, (V.sl t8)), (9, (V.sl t9)), (10, (V.i .i64 t10))] H K = g5_p18 a9 a10 a11 a15 a14 a13 a16 R t0 t5 t6 t8 t9 t10 H (fun t0 t5 t6 t8 t9 t10 H => K .normal [(0, (V.sl t0)), (5, (V.i .i64 t5)), (6, (V.p t6)), (8, (V.sl t8)), (9, (V.sl t9)), (10, (V.i .i64 t10))] H) (fun H => K (.exit 0) [] H) (fun t4 H => K .ret [(4, (V.b t4))] H) := by
  show ev2 Try.prog (E5 a9 a10 a11 a15 a14 a13 a16) loopLim lv5 Try.f5.ntmps kp5 (.seq (codeAt [1, 1, 1, 1, 1, 1, 1, 0, 1, 0, 0, 0, 0] b5) (.seq (.cond (.tmp 38) .skip (.exit 0)) c5_13)) [(0, (V.sl t0)), (5, (V.i .i64 t5)), (6, (V.p t6)), (8, (V.sl t8)), (9, (V.sl t9)), (10, (V.i .i64 t10))] H K = _
  delta g5_p18
  exact (g5_p1_eq a9 a10 a11 a15 a14 a13 a16 _ t0 t5 t6 t8 t9 t10 H K).trans (congr (congrArg (g5_p1 a9 a10 a11 a15 a14 a13 a16 R t0 t5 t6 t8 t9 t10 H) (funext fun t0 => funext fun t5 => funext fun t6 => funext fun t8 => funext fun t9 => funext fun t10 => funext fun H => g5_p17_eq a9 a10 a11 a15 a14 a13 a16 la9 la10 la11 la15 la14 la13 la16 t0 t5 t6 t8 t9 t10 H K)) rfl)
abbrev g5_p19_S := Sl × Int × (Option (Nat × Nat)) × Sl × Sl × Int
abbrev g5_p19_O := Sum (Unit) (Bool)
def g5_p19_es (s : g5_p19_S) : Fr := [(0, (V.sl s.1)), (5, (V.i .i64 s.2.1)), (6, (V.p s.2.2.1)), (8, (V.sl s.2.2.2.1)), (9, (V.sl s.2.2.2.2.1)), (10, (V.i .i64 s.2.2.2.2.2))]
def g5_p19_er : g5_p19_O → Ex × Fr
  | (.inl r) => ((.exit 0), [])
  | (.inr r) => (.ret, [(4, (V.b r))])
noncomputable def g5_p19_b (a9 : T9) (a10 : T10) (a11 : T11) (a15 : T15) (a14 : T14) (a13 : T13) (a16 : T16) (s : g5_p19_S) (H : Heap) : Option (Rd g5_p19_S g5_p19_O × Heap) :=
  g5_p18 a9 a10 a11 a15 a14 a13 a16 _ s.1 s.2.1 s.2.2.1 s.2.2.2.1 s.2.2.2.2.1 s.2.2.2.2.2 H (fun t0 t5 t6 t8 t9 t10 H => some (.go (t0, t5, t6, t8, t9, t10), H)) (fun H => some (.up (.inl ()), H)) (fun t4 H => some (.up (.inr t4), H))
noncomputable def g5_p19 (a9 : T9) (a10 : T10) (a11 : T11) (a15 : T15) (a14 : T14) (a13 : T13) (a16 : T16) (R : Type) (t0 : Sl) (t5 : Int) (t6 : Option (Nat × Nat)) (t8 : Sl) (t9 : Sl) (t10 : Int) (H : Heap) (kE0 : Heap → Option R) (kR : Bool → Heap → Option R) : Option R :=
  (tlim (g5_p19_b a9 a10 a11 a15 a14 a13 a16) (t0, t5, t6, t8, t9, t10) H).bind fun p => cas p.1 (fun r => kE0  p.2) (fun r0 => kR r0 p.2)
theorem g5_p19_lin {a9 : T9} {a10 : T10} {a11 : T11} {a15 : T15} {a14 : T14} {a13 : T13} {a16 : T16} (la9 : Lin9 a9) (la10 : Lin10 a10) (la11 : Lin11 a11) (la15 : Lin15 a15) (la14 : Lin14 a14) (la13 : Lin13 a13) (la16 : Lin16 a16) {R S : Type} {k : S → Option R} {t0 : Sl} {t5 : Int} {t6 : Option (Nat × Nat)} {t8 : Sl} {t9 : Sl} {t10 : Int} {H : Heap} {fkE0 : Heap → Option R} {gkE0 : Heap → Option S} {fkR : Bool → Heap → Option R} {gkR : Bool → Heap → Option S} (hkE0 : ∀ H, fkE0 H = (gkE0 H).bind k) (hkR : ∀ t4 H, fkR t4 H = (gkR t4 H).bind k) : g5_p19 a9 a10 a11 a15 a14 a13 a16 R t0 t5 t6 t8 t9 t10 H fkE0 fkR = (g5_p19 a9 a10 a11 a15 a14 a13 a16 S t0 t5 t6 t8 t9 t10 H gkE0 gkR).bind k := by
  exact bl fun p => cas_lin (fun _ => hkE0 _) (fun _ => hkR _ _)
theorem g5_p19_eq (a9 : T9) (a10 : T10) (a11 : T11) (a15 : T15) (a14 : T14) (a13 : T13) (a16 : T16) (la9 : Lin9 a9) (la10 : Lin10 a10) (la11 : Lin11 a11) (la15 : Lin15 a15) (la14 : Lin14 a14) (la13 : Lin13 a13) (la16 : Lin16 a16) {R : Type} (t0 : Sl) (t5 : Int) (t6 : Option (Nat × Nat)) (t8 : Sl) (t9 : Sl) (t10 : Int) (H : Heap) (K : Ex → Fr → Heap → Option R) : ev2 Try.prog (E5 a9 a10 a11 a15 a14 a13 a16) loopLim lv5 Try.f5.ntmps kp5 c5_15 [(0, (V.sl t0)), (5, (V.i .i64 t5)), (6, (V.p t6)), (8, (V.sl t8)), (9, (V.sl t9)), (10, (V.i .i64 t10))] H K = g5_p19 a9 a10 a11 a15 a14 a13 a16 R t0 t5 t6 t8 t9 t10 H (fun H => K (.exit 0) [] H) (fun t4 H => K .ret [(4, (V.b t4))] H) := by
  show ev2 Try.prog (E5 a9 a10 a11 a15 a14 a13 a16) loopLim lv5 Try.f5.ntmps kp5 (.loop c5_14) [(0, (V.sl t0)), (5, (V.i .i64 t5)), (6, (V.p t6)), (8, (V.sl t8)), (9, (V.sl t9)), (10, (V.i .i64 t10))] H K = _
  delta g5_p19
  refine (ev2_tlim (b := g5_p19_b a9 a10 a11 a15 a14 a13 a16) (es := g5_p19_es) (er := g5_p19_er) (by rintro (r | r) <;> exact nofun) (fun s H => ?_) (t0, t5, t6, t8, t9, t10) H K).trans (bc fun p => by rcases p with ⟨(r | r), H⟩ <;> rfl)
  exact (g5_p18_eq a9 a10 a11 a15 a14 a13 a16 la9 la10 la11 la15 la14 la13 la16 s.1 s.2.1 s.2.2.1 s.2.2.2.1 s.2.2.2.2.1 s.2.2.2.2.2 H ret3).trans (g5_p18_lin la9 la10 la11 la15 la14 la13 la16 (fun _ _ _ _ _ _ _ => rfl) (fun _ => rfl) (fun _ _ => rfl))
noncomputable def g5_p20 (a9 : T9) (a10 : T10) (a11 : T11) (a15 : T15) (a14 : T14) (a13 : T13) (a16 : T16) (R : Type) (t0 : Sl) (t5 : Int) (t6 : Option (Nat × Nat)) (t8 : Sl) (t9 : Sl) (t10 : Int) (H : Heap) (kN : Heap → Option R) (kR : Bool → Heap → Option R) : Option R :=
  g5_p19 a9 a10 a11 a15 a14 a13 a16 R t0 t5 t6 t8 t9 t10 H (fun H => kN  H) (fun t4 H => kR t4 H)
theorem g5_p20_lin {a9 : T9} {a10 : T10} {a11 : T11} {a15 : T15} {a14 : T14} {a13 : T13} {a16 : T16} (la9 : Lin9 a9) (la10 : Lin10 a10) (la11 : Lin11 a11) (la15 : Lin15 a15) (la14 : Lin14 a14) (la13 : Lin13 a13) (la16 : Lin16 a16) {R S : Type} {k : S → Option R} {t0 : Sl} {t5 : Int} {t6 : Option (Nat × Nat)} {t8 : Sl} {t9 : Sl} {t10 : Int} {H : Heap} {fkN : Heap → Option R} {gkN : Heap → Option S} {fkR : Bool → Heap → Option R} {gkR : Bool → Heap → Option S} (hkN : ∀ H, fkN H = (gkN H).bind k) (hkR : ∀ t4 H, fkR t4 H = (gkR t4 H).bind k) : g5_p20 a9 a10 a11 a15 a14 a13 a16 R t0 t5 t6 t8 t9 t10 H fkN fkR = (g5_p20 a9 a10 a11 a15 a14 a13 a16 S t0 t5 t6 t8 t9 t10 H gkN gkR).bind k := by
  exact g5_p19_lin la9 la10 la11 la15 la14 la13 la16 (fun _ => hkN _) (fun _ _ => hkR _ _)
theorem g5_p20_eq (a9 : T9) (a10 : T10) (a11 : T11) (a15 : T15) (a14 : T14) (a13 : T13) (a16 : T16) (la9 : Lin9 a9) (la10 : Lin10 a10) (la11 : Lin11 a11) (la15 : Lin15 a15) (la14 : Lin14 a14) (la13 : Lin13 a13) (la16 : Lin16 a16) {R : Type} (t0 : Sl) (t5 : Int) (t6 : Option (Nat × Nat)) (t8 : Sl) (t9 : Sl) (t10 : Int) (H : Heap) (K : Ex → Fr → Heap → Option R) : ev2 Try.prog (E5 a9 a10 a11 a15 a14 a13 a16) loopLim lv5 Try.f5.ntmps kp5 c5_16 [(0, (V.sl t0)), (5, (V.i .i64 t5)), (6, (V.p t6)), (8, (V.sl t8)), (9, (V.sl t9)), (10, (V.i .i64 t10))] H K = g5_p20 a9 a10 a11 a15 a14 a13 a16 R t0 t5 t6 t8 t9 t10 H (fun H => K .normal [] H) (fun t4 H => K .ret [(4, (V.b t4))] H) := by
  show ev2 Try.prog (E5 a9 a10 a11 a15 a14 a13 a16) loopLim lv5 Try.f5.ntmps kp5 (.block 0 c5_15) [(0, (V.sl t0)), (5, (V.i .i64 t5)), (6, (V.p t6)), (8, (V.sl t8)), (9, (V.sl t9)), (10, (V.i .i64 t10))] H K = _
  rw [ev2_block]
  delta g5_p20
  exact (g5_p19_eq a9 a10 a11 a15 a14 a13 a16 la9 la10 la11 la15 la14 la13 la16 t0 t5 t6 t8 t9 t10 H (kBlock kp5 0 K))
noncomputable def g5_p21 (a9 : T9) (a10 : T10) (a11 : T11) (a15 : T15) (a14 : T14) (a13 : T13) (a16 : T16) (R : Type) (H : Heap) (kR : Bool → Heap → Option R) : Option R :=
  a9 R H fun x113 h114 =>
  kR x113 h114
theorem g5_p21_eq (a9 : T9) (a10 : T10) (a11 : T11) (a15 : T15) (a14 : T14) (a13 : T13) (a16 : T16) (la9 : Lin9 a9) (la10 : Lin10 a10) (la11 : Lin11 a11) (la15 : Lin15 a15) (la14 : Lin14 a14) (la13 : Lin13 a13) (la16 : Lin16 a16) {R : Type} (H : Heap) (K : Ex → Fr → Heap → Option R) : ev2 Try.prog (E5 a9 a10 a11 a15 a14 a13 a16) loopLim lv5 Try.f5.ntmps kp5 c5_17 [] H K = g5_p21 a9 a10 a11 a15 a14 a13 a16 R H (fun t4 H => K .ret [(4, (V.b t4))] H) := by kernel_rfl
theorem g5_p21_lin {a9 : T9} {a10 : T10} {a11 : T11} {a15 : T15} {a14 : T14} {a13 : T13} {a16 : T16} (la9 : Lin9 a9) (la10 : Lin10 a10) (la11 : Lin11 a11) (la15 : Lin15 a15) (la14 : Lin14 a14) (la13 : Lin13 a13) (la16 : Lin16 a16) {R S : Type} {k : S → Option R} {H : Heap} {fkR : Bool → Heap → Option R} {gkR : Bool → Heap → Option S} (hkR : ∀ t4 H, fkR t4 H = (gkR t4 H).bind k) : g5_p21 a9 a10 a11 a15 a14 a13 a16 R H fkR = (g5_p21 a9 a10 a11 a15 a14 a13 a16 S H gkR).bind k := by
  delta g5_p21; exact (
    la9.l fun x113 h114 =>
    hkR _ _)
noncomputable def g5_p22 (a9 : T9) (a10 : T10) (a11 : T11) (a15 : T15) (a14 : T14) (a13 : T13) (a16 : T16) (R : Type) (t0 : Sl) (t5 : Int) (t6 : Option (Nat × Nat)) (t8 : Sl) (t9 : Sl) (t10 : Int) (H : Heap) (kR : Bool → Heap → Option R) : Option R :=
  g5_p20 a9 a10 a11 a15 a14 a13 a16 R t0 t5 t6 t8 t9 t10 H (fun H => g5_p21 a9 a10 a11 a15 a14 a13 a16 R H (fun t4 H => kR t4 H)) (fun t4 H => kR t4 H)
theorem g5_p22_lin {a9 : T9} {a10 : T10} {a11 : T11} {a15 : T15} {a14 : T14} {a13 : T13} {a16 : T16} (la9 : Lin9 a9) (la10 : Lin10 a10) (la11 : Lin11 a11) (la15 : Lin15 a15) (la14 : Lin14 a14) (la13 : Lin13 a13) (la16 : Lin16 a16) {R S : Type} {k : S → Option R} {t0 : Sl} {t5 : Int} {t6 : Option (Nat × Nat)} {t8 : Sl} {t9 : Sl} {t10 : Int} {H : Heap} {fkR : Bool → Heap → Option R} {gkR : Bool → Heap → Option S} (hkR : ∀ t4 H, fkR t4 H = (gkR t4 H).bind k) : g5_p22 a9 a10 a11 a15 a14 a13 a16 R t0 t5 t6 t8 t9 t10 H fkR = (g5_p22 a9 a10 a11 a15 a14 a13 a16 S t0 t5 t6 t8 t9 t10 H gkR).bind k := by
  exact g5_p20_lin la9 la10 la11 la15 la14 la13 la16 (fun _ => g5_p21_lin la9 la10 la11 la15 la14 la13 la16 (fun _ _ => hkR _ _)) (fun _ _ => hkR _ _)
theorem g5_p22_eq (a9 : T9) (a10 : T10) (a11 : T11) (a15 : T15) (a14 : T14) (a13 : T13) (a16 : T16) (la9 : Lin9 a9) (la10 : Lin10 a10) (la11 : Lin11 a11) (la15 : Lin15 a15) (la14 : Lin14 a14) (la13 : Lin13 a13) (la16 : Lin16 a16) {R : Type} (t0 : Sl) (t5 : Int) (t6 : Option (Nat × Nat)) (t8 : Sl) (t9 : Sl) (t10 : Int) (H : Heap) (K : Ex → Fr → Heap → Option R) : ev2 Try.prog (E5 a9 a10 a11 a15 a14 a13 a16) loopLim lv5 Try.f5.ntmps kp5 c5_18 [(0, (V.sl t0)), (5, (V.i .i64 t5)), (6, (V.p t6)), (8, (V.sl t8)), (9, (V.sl t9)), (10, (V.i .i64 t10))] H K = g5_p22 a9 a10 a11 a15 a14 a13 a16 R t0 t5 t6 t8 t9 t10 H (fun t4 H => K .ret [(4, (V.b t4))] H) := by
  show ev2 Try.prog (E5 a9 a10 a11 a15 a14 a13 a16) loopLim lv5 Try.f5.ntmps kp5 (.seq c5_16 c5_17) [(0, (V.sl t0)), (5, (V.i .i64 t5)), (6, (V.p t6)), (8, (V.sl t8)), (9, (V.sl t9)), (10, (V.i .i64 t10))] H K = _
  rw [ev2_seq]
  delta g5_p22
  exact (g5_p20_eq a9 a10 a11 a15 a14 a13 a16 la9 la10 la11 la15 la14 la13 la16 t0 t5 t6 t8 t9 t10 H (kSeq (fun fr H => ev2 Try.prog (E5 a9 a10 a11 a15 a14 a13 a16) loopLim lv5 Try.f5.ntmps kp5 c5_17 fr H K) K)).trans (congr (congrArg (g5_p20 a9 a10 a11 a15 a14 a13 a16 R t0 t5 t6 t8 t9 t10 H) (funext fun H => (kSeq_n _ _ _ _).trans (g5_p21_eq a9 a10 a11 a15 a14 a13 a16 la9 la10 la11 la15 la14 la13 la16 H K))) rfl)
noncomputable def g5_p23 (a9 : T9) (a10 : T10) (a11 : T11) (a15 : T15) (a14 : T14) (a13 : T13) (a16 : T16) (R : Type) (t0 : Sl) (t1 : Int) (H : Heap) (kR : Bool → Heap → Option R) : Option R :=
  g5_p0 a9 a10 a11 a15 a14 a13 a16 R t0 t1 H (fun t0 t5 t6 t8 t9 t10 H => g5_p22 a9 a10 a11 a15 a14 a13 a16 R t0 t5 t6 t8 t9 t10 H (fun t4 H => kR t4 H)) (fun t4 H => kR t4 H)
theorem g5_p23_lin {a9 : T9} {a10 : T10} {a11 : T11} {a15 : T15} {a14 : T14} {a13 : T13} {a16 : T16} (la9 : Lin9 a9) (la10 : Lin10 a10) (la11 : Lin11 a11) (la15 : Lin15 a15) (la14 : Lin14 a14) (la13 : Lin13 a13) (la16 : Lin16 a16) {R S : Type} {k : S → Option R} {t0 : Sl} {t1 : Int} {H : Heap} {fkR : Bool → Heap → Option R} {gkR : Bool → Heap → Option S} (hkR : ∀ t4 H, fkR t4 H = (gkR t4 H).bind k) : g5_p23 a9 a10 a11 a15 a14 a13 a16 R t0 t1 H fkR = (g5_p23 a9 a10 a11 a15 a14 a13 a16 S t0 t1 H gkR).bind k := by
  exact g5_p0_lin la9 la10 la11 la15 la14 la13 la16 (fun _ _ _ _ _ _ _ => g5_p22_lin la9 la10 la11 la15 la14 la13 la16 (fun _ _ => hkR _ _)) (fun _ _ => hkR _ _)
theorem g5_p23_eq (a9 : T9) (a10 : T10) (a11 : T11) (a15 : T15) (a14 : T14) (a13 : T13) (a16 : T16) (la9 : Lin9 a9) (la10 : Lin10 a10) (la11 : Lin11 a11) (la15 : Lin15 a15) (la14 : Lin14 a14) (la13 : Lin13 a13) (la16 : Lin16 a16) {R : Type} (t0 : Sl) (t1 : Int) (H : Heap) (K : Ex → Fr → Heap → Option R) : ev2 Try.prog (E5 a9 a10 a11 a15 a14 a13 a16) loopLim lv5 Try.f5.ntmps kp5 c5_19 [(0, (V.sl t0)), (1, (V.i .u8 t1))] H K = g5_p23 a9 a10 a11 a15 a14 a13 a16 R t0 t1 H (fun t4 H => K .ret [(4, (V.b t4))] H) := by
  show ev2 Try.prog (E5 a9 a10 a11 a15 a14 a13 a16) loopLim lv5 Try.f5.ntmps kp5 (.seq (codeAt [0] b5) (.seq (codeAt [1, 0, 0] b5) (.seq (.cond (.tmp 22) (.seq (codeAt [1, 0, 1, 0, 0] b5) .ret) .skip) (.seq (codeAt [1, 1, 0] b5) (.seq (codeAt [1, 1, 1, 0] b5) (.seq (codeAt [1, 1, 1, 1, 0, 0] b5) (.seq (.cond (.tmp 34) (.seq (codeAt [1, 1, 1, 1, 0, 1, 0, 0] b5) .ret) .skip) (.seq (codeAt [1, 1, 1, 1, 1, 0] b5) (.seq (codeAt [1, 1, 1, 1, 1, 1, 0] b5) (.seq (codeAt [1, 1, 1, 1, 1, 1, 1, 0, 0] b5) c5_18)))))))))) [(0, (V.sl t0)), (1, (V.i .u8 t1))] H K = _
  delta g5_p23
  exact (g5_p0_eq a9 a10 a11 a15 a14 a13 a16 _ t0 t1 H K).trans (congr (congrArg (g5_p0 a9 a10 a11 a15 a14 a13 a16 R t0 t1 H) (funext fun t0 => funext fun t5 => funext fun t6 => funext fun t8 => funext fun t9 => funext fun t10 => funext fun H => g5_p22_eq a9 a10 a11 a15 a14 a13 a16 la9 la10 la11 la15 la14 la13 la16 t0 t5 t6 t8 t9 t10 H K)) rfl)
noncomputable def g5_r (a9 : T9) (a10 : T10) (a11 : T11) (a15 : T15) (a14 : T14) (a13 : T13) (a16 : T16) : T5 := fun R t0 t1 H K =>
  g5_p23 a9 a10 a11 a15 a14 a13 a16 R t0 t1 H (fun t4 H =>
    K t4 H)
theorem g5_r_lin {a9 : T9} {a10 : T10} {a11 : T11} {a15 : T15} {a14 : T14} {a13 : T13} {a16 : T16} (la9 : Lin9 a9) (la10 : Lin10 a10) (la11 : Lin11 a11) (la15 : Lin15 a15) (la14 : Lin14 a14) (la13 : Lin13 a13) (la16 : Lin16 a16) : Lin5 (g5_r a9 a10 a11 a15 a14 a13 a16) := by
  constructor
  intro R S k t0 t1 H f g h
  exact g5_p23_lin la9 la10 la11 la15 la14 la13 la16 (fun t4 H =>
    h _ _)
theorem g5_fn (a9 : T9) (a10 : T10) (a11 : T11) (a15 : T15) (a14 : T14) (a13 : T13) (a16 : T16) (la9 : Lin9 a9) (la10 : Lin10 a10) (la11 : Lin11 a11) (la15 : Lin15 a15) (la14 : Lin14 a14) (la13 : Lin13 a13) (la16 : Lin16 a16) {R : Type} (t0 : Sl) (t1 : Int) (H : Heap) (K : V → Heap → Option R) : evFn2 Try.prog (E5 a9 a10 a11 a15 a14 a13 a16) loopLim lv5 Try.f5 kp5 [(V.sl t0), (V.i .u8 t1)] H K = g5_r a9 a10 a11 a15 a14 a13 a16 R t0 t1 H (fun r0 H => K (V.b r0) H) := by
  have h0 : ∀ (t4 : Bool) (H : Heap), kFn2 Try.prog Try.f5.results.toList K .ret [(4, (V.b t4))] H =
      K (V.b t4) H := by intros; kernel_rfl
  have e0 := evFn2_code2 (P := Try.prog) (c := c5_19) (E := (E5 a9 a10 a11 a15 a14 a13 a16)) (lr := loopLim) (lv := lv5) (kp := kp5) (fn := Try.f5) (args := [(V.sl t0), (V.i .u8 t1)]) H K (by kernel_rfl) (Nat.le_of_ble_eq_true (by kernel_rfl)) (by kernel_rfl) (by kernel_rfl)
  have e1 : ev2 Try.prog (E5 a9 a10 a11 a15 a14 a13 a16) loopLim lv5 Try.f5.ntmps kp5 c5_19 (argFr 0 [(V.sl t0), (V.i .u8 t1)]) H (kFn2 Try.prog Try.f5.results.toList K) = ev2 Try.prog (E5 a9 a10 a11 a15 a14 a13 a16) loopLim lv5 Try.f5.ntmps kp5 c5_19 [(0, (V.sl t0)), (1, (V.i .u8 t1))] H (kFn2 Try.prog Try.f5.results.toList K) := by kernel_rfl
  refine (e0.trans e1).trans ?_
  delta g5_r
  exact (g5_p23_eq a9 a10 a11 a15 a14 a13 a16 la9 la10 la11 la15 la14 la13 la16 t0 t1 H (kFn2 Try.prog Try.f5.results.toList K)).trans (congrArg (g5_p23 a9 a10 a11 a15 a14 a13 a16 R t0 t1 H) (funext fun t4 => funext fun H => h0 t4 H))
theorem g5_ok {a9 : T9} {a10 : T10} {a11 : T11} {a15 : T15} {a14 : T14} {a13 : T13} {a16 : T16} (oa9 : FunOK Try.prog 9 (w9 a9)) (oa10 : FunOK Try.prog 10 (w10 a10)) (oa11 : FunOK Try.prog 11 (w11 a11)) (oa15 : FunOK Try.prog 15 (w15 a15)) (oa14 : FunOK Try.prog 14 (w14 a14)) (oa13 : FunOK Try.prog 13 (w13 a13)) (oa16 : FunOK Try.prog 16 (w16 a16)) (la9 : Lin9 a9) (la10 : Lin10 a10) (la11 : Lin11 a11) (la15 : Lin15 a15) (la14 : Lin14 a14) (la13 : Lin13 a13) (la16 : Lin16 a16) : FunOK Try.prog 5 (w5 (g5_r a9 a10 a11 a15 a14 a13 a16)) := by
  refine (runF2_ok (E5_good oa9 oa10 oa11 oa15 oa14 oa13 oa16 la9 la10 la11 la15 la14 la13 la16) mixed lim_ok Try.func5 (by kernel_rfl) lv5 kp5).of_le fun R args H K r hk => ?_
  unfold w5 at hk
  split at hk
  · exact (g5_fn a9 a10 a11 a15 a14 a13 a16 la9 la10 la11 la15 la14 la13 la16 _ _ H K).trans hk
  · cases hk
def kp11 : Nat → Option (List Nat) := kpOf [(0, [0]), (1, [0, 11]), (2, [2]), (3, [0, 3]), (4, [0, 3, 16]), (5, [0, 3, 16, 18]), (6, [0, 3, 4, 5, 16, 500004, 1000004]), (7, [0, 3, 4, 5, 16, 500004, 1000004]), (8, [0, 3, 4, 16, 33, 500004, 1000004]), (9, [0, 3, 16]), (10, [0, 38, 39, 40]), (11, [0, 38, 39, 40, 41]), (12, [0, 7, 38, 39, 40, 500007, 1000007]), (13, [0, 38, 39, 40]), (14, [0, 38, 39, 40]), (15, [0, 8]), (16, [8]), (17, [8]), (18, [2]), (100000, [0, 3]), (100001, [0, 3, 16]), (100002, [0]), (100003, [0, 38, 39, 40]), (200000, [0, 3, 16]), (200001, [0, 3, 16]), (200002, [0, 38, 39, 40]), (200003, [0, 38, 39, 40]), (300000, [2]), (400011, [0]), (400018, [0, 3, 16]), (400033, [0, 3, 16]), (400041, [0, 38, 39, 40])]
def E11 (a23 : T23) (a24 : T24) (a25 : T25) : FEnv := [(23, w23 a23), (24, w24 a24), (25, w25 a25)]
theorem E11_good {a23 : T23} {a24 : T24} {a25 : T25} (oa23 : FunOK Try.prog 23 (w23 a23)) (oa24 : FunOK Try.prog 24 (w24 a24)) (oa25 : FunOK Try.prog 25 (w25 a25)) (la23 : Lin23 a23) (la24 : Lin24 a24) (la25 : Lin25 a25) : EnvGood Try.prog (E11 a23 a24 a25) := ((((EnvGood.nil _).cons oa25 (w25_lin la25)).cons oa24 (w24_lin la24)).cons oa23 (w23_lin la23))
theorem E11_lin {a23 : T23} {a24 : T24} {a25 : T25} (la23 : Lin23 a23) (la24 : Lin24 a24) (la25 : Lin25 a25) : EnvLin (E11 a23 a24 a25) := by
  intro g F h
  simp only [E11, List.mem_cons, List.not_mem_nil, or_false] at h
  rcases h with h | h | h
  · cases h; exact w23_lin la23
  · cases h; exact w24_lin la24
  · cases h; exact w25_lin la25
def lv11 : Nat → Bool := lvOf [4, 7]
noncomputable def b11 : Code := Try.f11.body.getD .skip
noncomputable def c11_0 : Code := (.seq (codeAt [1, 1, 1, 1, 0, 1, 0, 0, 0] b11) (.seq (.cond (.tmp 41) .skip (.exit 2)) (.seq (.block 3 (.seq (codeAt [1, 1, 1, 1, 0, 1, 0, 0, 1, 1, 0, 0, 0] b11) (codeAt [1, 1, 1, 1, 0, 1, 0, 0, 1, 1, 0, 0, 1] b11))) (codeAt [1, 1, 1, 1, 0, 1, 0, 0, 1, 1, 1] b11))))
noncomputable def c11_1 : Code := (.loop c11_0)
noncomputable def c11_2 : Code := (.block 2 c11_1)
noncomputable def c11_3 : Code := (.seq (codeAt [1, 1, 1, 1, 1, 0] b11) (.seq (codeAt [1, 1, 1, 1, 1, 1, 0] b11) (.seq (codeAt [1, 1, 1, 1, 1, 1, 1, 0] b11) (.seq (codeAt [1, 1, 1, 1, 1, 1, 1, 1, 0] b11) .ret))))
noncomputable def c11_4 : Code := (.seq c11_2 c11_3)
noncomputable def c11_5 : Code := (.seq (codeAt [1, 1, 1, 1, 0, 0] b11) c11_4)
noncomputable def g11_p0 (a23 : T23) (a24 : T24) (a25 : T25) (R : Type) (t0 : Option (Nat × Nat)) (t3 : Sl) (H : Heap) (kN : Option (Nat × Nat) → Sl → Int → Int → Heap → Option R) : Option R :=
  kN t0 t3 ((t3.len : Nat) : Int) (0 : Int) H
theorem g11_p0_eq (a23 : T23) (a24 : T24) (a25 : T25) {R : Type} (c2 : Code) (t0 : Option (Nat × Nat)) (t3 : Sl) (H : Heap) (K : Ex → Fr → Heap → Option R) : ev2 Try.prog (E11 a23 a24 a25) loopLim lv11 Try.f11.ntmps kp11 (.seq (codeAt [1, 1, 1, 1, 0, 0] b11) c2) [(0, (V.p t0)), (3, (V.sl t3))] H K = g11_p0 a23 a24 a25 R t0 t3 H (fun t0 t38 t39 t40 H => ev2 Try.prog (E11 a23 a24 a25) loopLim lv11 Try.f11.ntmps kp11 c2 [(0, (V.p t0)), (38, (V.sl t38)), (39, (V.i .i64 t39)), (40, (V.i .i64 t40))] H K) := by kernel_rfl
theorem g11_p0_lin {a23 : T23} {a24 : T24} {a25 : T25} (la23 : Lin23 a23) (la24 : Lin24 a24) (la25 : Lin25 a25) {R S : Type} {k : S → Option R} {t0 : Option (Nat × Nat)} {t3 : Sl} {H : Heap} {fkN : Option (Nat × Nat) → Sl → Int → Int → Heap → Option R} {gkN : Option (Nat × Nat) → Sl → Int → Int → Heap → Option S} (hkN : ∀ t0 t38 t39 t40 H, fkN t0 t38 t39 t40 H = (gkN t0 t38 t39 t40 H).bind k) : g11_p0 a23 a24 a25 R t0 t3 H fkN = (g11_p0 a23 a24 a25 S t0 t3 H gkN).bind k := by
  delta g11_p0; exact (
    hkN _ _ _ _ _)
noncomputable def g11_p1 (a23 : T23) (a24 : T24) (a25 : T25) (R : Type) (t0 : Option (Nat × Nat)) (t38 : Sl) (t39 : Int) (t40 : Int) (H : Heap) (kN : Option (Nat × Nat) → Sl → Int → Int → Heap → Option R) (kE2 : Option (Nat × Nat) → Heap → Option R) : Option R :=
  sel (decide (t40 < t39)) (
    if 0 ≤ t40 ∧ t40 < ((t38.len : Nat) : Int) then (
      (t38.a).bind fun q1 =>
      ((H).ldI .u16 q1.1 ((q1.2 + Int.toNat t40 * 2) + 0)).bind fun x2 =>
      ((H).ldI .u32 q1.1 ((q1.2 + Int.toNat t40 * 2) + 1)).bind fun x3 =>
      a23 R t0 x2 x3 H fun h4 =>
      kN t0 t38 t39 (IntKind.wrap .i64 (t40 + (1 : Int))) h4)
    else (
      none)) (
    kE2 t0 H)
theorem g11_p1_eq (a23 : T23) (a24 : T24) (a25 : T25) (la23 : Lin23 a23) (la24 : Lin24 a24) (la25 : Lin25 a25) {R : Type} (t0 : Option (Nat × Nat)) (t38 : Sl) (t39 : Int) (t40 : Int) (H : Heap) (K : Ex → Fr → Heap → Option R) : ev2 Try.prog (E11 a23 a24 a25) loopLim lv11 Try.f11.ntmps kp11 c11_0 [(0, (V.p t0)), (38, (V.sl t38)), (39, (V.i .i64 t39)), (40, (V.i .i64 t40))] H K = g11_p1 a23 a24 a25 R t0 t38 t39 t40 H (fun t0 t38 t39 t40 H => K .normal [(0, (V.p t0)), (38, (V.sl t38)), (39, (V.i .i64 t39)), (40, (V.i .i64 t40))] H) (fun t0 H => K (.exit 2) [(0, (V.p t0))] H) := by kernel_rfl
theorem g11_p1_lin {a23 : T23} {a24 : T24} {a25 : T25} (la23 : Lin23 a23) (la24 : Lin24 a24) (la25 : Lin25 a25) {R S : Type} {k : S → Option R} {t0 : Option (Nat × Nat)} {t38 : Sl} {t39 : Int} {t40 : Int} {H : Heap} {fkN : Option (Nat × Nat) → Sl → Int → Int → Heap → Option R} {gkN : Option (Nat × Nat) → Sl → Int → Int → Heap → Option S} {fkE2 : Option (Nat × Nat) → Heap → Option R} {gkE2 : Option (Nat × Nat) → Heap → Option S} (hkN : ∀ t0 t38 t39 t40 H, fkN t0 t38 t39 t40 H = (gkN t0 t38 t39 t40 H).bind k) (hkE2 : ∀ t0 H, fkE2 t0 H = (gkE2 t0 H).bind k) : g11_p1 a23 a24 a25 R t0 t38 t39 t40 H fkN fkE2 = (g11_p1 a23 a24 a25 S t0 t38 t39 t40 H gkN gkE2).bind k := by
  delta g11_p1; exact (
    sl_lin (
      il (
        bl fun q1 =>
        bl fun x2 =>
        bl fun x3 =>
        la23.l fun h4 =>
        hkN _ _ _ _ _) (
        rfl)) (
      hkE2 _ _))
abbrev g11_p2_S := (Option (Nat × Nat)) × Sl × Int × Int
abbrev g11_p2_O := (Option (Nat × Nat))
def g11_p2_es (s : g11_p2_S) : Fr := [(0, (V.p s.1)), (38, (V.sl s.2.1)), (39, (V.i .i64 s.2.2.1)), (40, (V.i .i64 s.2.2.2))]
def g11_p2_er (r : g11_p2_O) : Ex × Fr := ((.exit 2), [(0, (V.p r))])
noncomputable def g11_p2_b (a23 : T23) (a24 : T24) (a25 : T25) (s : g11_p2_S) (H : Heap) : Option (Rd g11_p2_S g11_p2_O × Heap) :=
  g11_p1 a23 a24 a25 _ s.1 s.2.1 s.2.2.1 s.2.2.2 H (fun t0 t38 t39 t40 H => some (.go (t0, t38, t39, t40), H)) (fun t0 H => some (.up t0, H))
noncomputable def g11_p2 (a23 : T23) (a24 : T24) (a25 : T25) (R : Type) (t0 : Option (Nat × Nat)) (t38 : Sl) (t39 : Int) (t40 : Int) (H : Heap) (kE2 : Option (Nat × Nat) → Heap → Option R) : Option R :=
  (tlim (g11_p2_b a23 a24 a25) (t0, t38, t39, t40) H).bind fun p => kE2 p.1 p.2
theorem g11_p2_lin {a23 : T23} {a24 : T24} {a25 : T25} (la23 : Lin23 a23) (la24 : Lin24 a24) (la25 : Lin25 a25) {R S : Type} {k : S → Option R} {t0 : Option (Nat × Nat)} {t38 : Sl} {t39 : Int} {t40 : Int} {H : Heap} {fkE2 : Option (Nat × Nat) → Heap → Option R} {gkE2 : Option (Nat × Nat) → Heap → Option S} (hkE2 : ∀ t0 H, fkE2 t0 H = (gkE2 t0 H).bind k) : g11_p2 a23 a24 a25 R t0 t38 t39 t40 H fkE2 = (g11_p2 a23 a24 a25 S t0 t38 t39 t40 H gkE2).bind k := by
  exact bl fun p => hkE2 _ _
theorem g11_p2_eq (a23 : T23) (a24 : T24) (a25 : T25) (la23 : Lin23 a23) (la24 : Lin24 a24) (la25 : Lin25 a25) {R : Type} (t0 : Option (Nat × Nat)) (t38 : Sl) (t39 : Int) (t40 : Int) (H : Heap) (K : Ex → Fr → Heap → Option R) : ev2 Try.prog (E11 a23 a24 a25) loopLim lv11 Try.f11.ntmps kp11 c11_1 [(0, (V.p t0)), (38, (V.sl t38)), (39, (V.i .i64 t39)), (40, (V.i .i64 t40))] H K = g11_p2 a23 a24 a25 R t0 t38 t39 t40 H (fun t0 H => K (.exit 2) [(0, (V.p t0))] H) := by
  show ev2 Try.prog (E11 a23 a24 a25) loopLim lv11 Try.f11.ntmps kp11 (.loop c11_0) [(0, (V.p t0)), (38, (V.sl t38)), (39, (V.i .i64 t39)), (40, (V.i .i64 t40))] H K = _
  delta g11_p2
  refine (ev2_tlim (b := g11_p2_b a23 a24 a25) (es := g11_p2_es) (er := g11_p2_er) (by intro r; exact nofun) (fun s H => ?_) (t0, t38, t39, t40) H K).trans (bc fun p => rfl)
  exact (g11_p1_eq a23 a24 a25 la23 la24 la25 s.1 s.2.1 s.2.2.1 s.2.2.2 H ret3).trans (g11_p1_lin la23 la24 la25 (fun _ _ _ _ _ => rfl) (fun _ _ => rfl))
noncomputable def g11_p3 (a23 : T23) (a24 : T24) (a25 : T25) (R : Type) (t0 : Option (Nat × Nat)) (t38 : Sl) (t39 : Int) (t40 : Int) (H : Heap) (kN : Option (Nat × Nat) → Heap → Option R) : Option R :=
  g11_p2 a23 a24 a25 R t0 t38 t39 t40 H (fun t0 H => kN t0 H)
theorem g11_p3_lin {a23 : T23} {a24 : T24} {a25 : T25} (la23 : Lin23 a23) (la24 : Lin24 a24) (la25 : Lin25 a25) {R S : Type} {k : S → Option R} {t0 : Option (Nat × Nat)} {t38 : Sl} {t39 : Int} {t40 : Int} {H : Heap} {fkN : Option (Nat × Nat) → Heap → Option R} {gkN : Option (Nat × Nat) → Heap → Option S} (hkN : ∀ t0 H, fkN t0 H = (gkN t0 H).bind k) : g11_p3 a23 a24 a25 R t0 t38 t39 t40 H fkN = (g11_p3 a23 a24 a25 S t0 t38 t39 t40 H gkN).bind k := by
  exact g11_p2_lin la23 la24 la25 (fun _ _ => hkN _ _)
theorem g11_p3_eq (a23 : T23) (a24 : T24) (a25 : T25) (la23 : Lin23 a23) (la24 : Lin24 a24) (la25 : Lin25 a25) {R : Type} (t0 : Option (Nat × Nat)) (t38 : Sl) (t39 : Int) (t40 : Int) (H : Heap) (K : Ex → Fr → Heap → Option R) : ev2 Try.prog (E11 a23 a24 a25) loopLim lv11 Try.f11.ntmps kp11 c11_2 [(0, (V.p t0)), (38, (V.sl t38)), (39, (V.i .i64 t39)), (40, (V.i .i64 t40))] H K = g11_p3 a23 a24 a25 R t0 t38 t39 t40 H (fun t0 H => K .normal [(0, (V.p t0))] H) := by
  show ev2 Try.prog (E11 a23 a24 a25) loopLim lv11 Try.f11.ntmps kp11 (.block 2 c11_1) [(0, (V.p t0)), (38, (V.sl t38)), (39, (V.i .i64 t39)), (40, (V.i .i64 t40))] H K = _
  rw [ev2_block]
  delta g11_p3
  exact (g11_p2_eq a23 a24 a25 la23 la24 la25 t0 t38 t39 t40 H (kBlock kp11 2 K))
noncomputable def g11_p4 (a23 : T23) (a24 : T24) (a25 : T25) (R : Type) (t0 : Option (Nat × Nat)) (H : Heap) (kR : Sl → Heap → Option R) : Option R :=
  (t0).bind fun q5 =>
  ((H).ldSl q5.1 (q5.2 + 2)).bind fun x6 =>
  a24 R x6 H fun x7 h8 =>
  (t0).bind fun q9 =>
  ((h8).st q9.1 (q9.2 + 2) (V.sl (Sl.mk none 0 (.ex 0)))).bind fun h11 =>
  a25 R x7 h11 fun h12 =>
  kR x7 h12
theorem g11_p4_eq (a23 : T23) (a24 : T24) (a25 : T25) (la23 : Lin23 a23) (la24 : Lin24 a24) (la25 : Lin25 a25) {R : Type} (t0 : Option (Nat × Nat)) (H : Heap) (K : Ex → Fr → Heap → Option R) : ev2 Try.prog (E11 a23 a24 a25) loopLim lv11 Try.f11.ntmps kp11 c11_3 [(0, (V.p t0))] H K = g11_p4 a23 a24 a25 R t0 H (fun t2 H => K .ret [(2, (V.sl t2))] H) := by kernel_rfl
theorem g11_p4_lin {a23 : T23} {a24 : T24} {a25 : T25} (la23 : Lin23 a23) (la24 : Lin24 a24) (la25 : Lin25 a25) {R S : Type} {k : S → Option R} {t0 : Option (Nat × Nat)} {H : Heap} {fkR : Sl → Heap → Option R} {gkR : Sl → Heap → Option S} (hkR : ∀ t2 H, fkR t2 H = (gkR t2 H).bind k) : g11_p4 a23 a24 a25 R t0 H fkR = (g11_p4 a23 a24 a25 S t0 H gkR).bind k := by
  delta g11_p4; exact (
    bl fun q5 =>
    bl fun x6 =>
    la24.l fun x7 h8 =>
    bl fun q9 =>
    bl fun h11 =>
    la25.l fun h12 =>
    hkR _ _)
noncomputable def g11_p5 (a23 : T23) (a24 : T24) (a25 : T25) (R : Type) (t0 : Option (Nat × Nat)) (t38 : Sl) (t39 : Int) (t40 : Int) (H : Heap) (kR : Sl → Heap → Option R) : Option R :=
  g11_p3 a23 a24 a25 R t0 t38 t39 t40 H (fun t0 H => g11_p4 a23 a24 a25 R t0 H (fun t2 H => kR t2 H))
theorem g11_p5_lin {a23 : T23} {a24 : T24} {a25 : T25} (la23 : Lin23 a23) (la24 : Lin24 a24) (la25 : Lin25 a25) {R S : Type} {k : S → Option R} {t0 : Option (Nat × Nat)} {t38 : Sl} {t39 : Int} {t40 : Int} {H : Heap} {fkR : Sl → Heap → Option R} {gkR : Sl → Heap → Option S} (hkR : ∀ t2 H, fkR t2 H = (gkR t2 H).bind k) : g11_p5 a23 a24 a25 R t0 t38 t39 t40 H fkR = (g11_p5 a23 a24 a25 S t0 t38 t39 t40 H gkR).bind k := by
  exact g11_p3_lin la23 la24 la25 (fun _ _ => g11_p4_lin la23 la24 la25 (fun _ _ => hkR _ _))
theorem g11_p5_eq (a23 : T23) (a24 : T24) (a25 : T25) (la23 : Lin23 a23) (la24 : Lin24 a24) (la25 : Lin25 a25) {R : Type} (t0 : Option (Nat × Nat)) (t38 : Sl) (t39 : Int) (t40 : Int) (H : Heap) (K : Ex → Fr → Heap → Option R) : ev2 Try.prog (E11 a23 a24 a25) loopLim lv11 Try.f11.ntmps kp11 c11_4 [(0, (V.p t0)), (38, (V.sl t38)), (39, (V.i .i64 t39)), (40, (V.i .i64 t40))] H K = g11_p5 a23 a24 a25 R t0 t38 t39 t40 H (fun t2 H => K .ret [(2, (V.sl t2))] H) := by
  show ev2 Try.prog (E11 a23 a24 a25) loopLim lv11 Try.f11.ntmps kp11 (.seq c11_2 c11_3) [(0, (V.p t0)), (38, (V.sl t38)), (39, (V.i .i64 t39)), (40, (V.i .i64 t40))] H K = _
  rw [ev2_seq]
  delta g11_p5
  exact (g11_p3_eq a23 a24 a25 la23 la24 la25 t0 t38 t39 t40 H (kSeq (fun fr H => ev2 Try.prog (E11 a23 a24 a25) loopLim lv11 Try.f11.ntmps kp11 c11_3 fr H K) K)).trans (congrArg (g11_p3 a23 a24 a25 R t0 t38 t39 t40 H) (funext fun t0 => funext fun H => (kSeq_n _ _ _ _).trans (g11_p4_eq a23 a24 a25 la23 la24 la25 t0 H K)))
noncomputable def g11_p6 (a23 : T23) (a24 : T24) (a25 : T25) (R : Type) (t0 : Option (Nat × Nat)) (t3 : Sl) (H : Heap) (kR : Sl → Heap → Option R) : Option R :=
  g11_p0 a23 a24 a25 R t0 t3 H (fun t0 t38 t39 t40 H => g11_p5 a23 a24 a25 R t0 t38 t39 t40 H (fun t2 H => kR t2 H))
theorem g11_p6_lin {a23 : T23} {a24 : T24} {a25 : T25} (la23 : Lin23 a23) (la24 : Lin24 a24) (la25 : Lin25 a25) {R S : Type} {k : S → Option R} {t0 : Option (Nat × Nat)} {t3 : Sl} {H : Heap} {fkR : Sl → Heap → Option R} {gkR : Sl → Heap → Option S} (hkR : ∀ t2 H, fkR t2 H = (gkR t2 H).bind k) : g11_p6 a23 a24 a25 R t0 t3 H fkR = (g11_p6 a23 a24 a25 S t0 t3 H gkR).bind k := by
  exact g11_p0_lin la23 la24 la25 (fun _ _ _ _ _ => g11_p5_lin la23 la24 la25 (fun _ _ => hkR _ _))
theorem g11_p6_eq (a23 : T23) (a24 : T24) (a25 : T25) (la23 : Lin23 a23) (la24 : Lin24 a24) (la25 : Lin25 a25) {R : Type} (t0 : Option (Nat × Nat)) (t3 : Sl) (H : Heap) (K : Ex → Fr → Heap → Option R) : ev2 Try.prog (E11 a23 a24 a25) loopLim lv11 Try.f11.ntmps kp11 c11_5 [(0, (V.p t0)), (3, (V.sl t3))] H K = g11_p6 a23 a24 a25 R t0 t3 H (fun t2 H => K .ret [(2, (V.sl t2))] H) := by
  show ev2 Try.prog (E11 a23 a24 a25) loopLim lv11 Try.f11.ntmps kp11 (.seq (codeAt [1, 1, 1, 1, 0, 0] b11) c11_4) [(0, (V.p t0)), (3, (V.sl t3))] H K = _
  delta g11_p6
  exact (g11_p0_eq a23 a24 a25 _ t0 t3 H K).trans (congrArg (g11_p0 a23 a24 a25 R t0 t3 H) (funext fun t0 => funext fun t38 => funext fun t39 => funext fun t40 => funext fun H => g11_p5_eq a23 a24 a25 la23 la24 la25 t0 t38 t39 t40 H K))
end Go.Proofs.Ytobebcfkddimkaa

