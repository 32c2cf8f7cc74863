/- Printed: functions as the machine runs them. -/
import Derived.Test.YtobebcfkddimkaaGT
namespace Go.Proofs.Ytobebcfkddimkaa
open Go AM Go.RowKit
set_option linter.unusedVariables false
def kp4 : Nat → Option (List Nat) := kpOf [(0, [0, 1, 2]), (1, [0, 1, 2, 27]), (2, [6]), (3, [0, 1, 2, 7, 8]), (4, [0, 1, 2, 7, 34]), (5, [6]), (6, [0, 1, 2, 7, 9]), (7, [0, 1, 2, 7, 9, 10]), (8, [0, 1, 2, 7, 9, 10, 11]), (9, [0, 1, 2, 7, 9, 10, 11, 47]), (10, [0, 1, 2, 7, 9, 10, 11]), (11, [0, 1, 2, 7, 9, 10, 11, 12]), (12, [0, 1, 2, 7, 9, 10, 11, 12, 57]), (13, [0, 1, 2, 7, 9, 10, 11, 12]), (14, [0, 1, 2, 7, 9, 10, 11, 12, 13]), (15, [0, 1, 2, 7, 9, 10, 11, 12, 13, 68]), (16, [0, 1, 2, 7, 9, 10, 11, 12, 13]), (17, [0, 1, 2, 7, 9, 10, 11, 12, 13, 98]), (18, [0, 1, 2, 7, 9, 10, 11, 12, 13]), (19, [0, 1, 2, 7, 9, 10, 11, 12, 14, 15, 16]), (20, [0, 1, 2, 7, 9, 10, 11, 12, 14, 15, 16, 115]), (21, [0, 1, 2, 7, 9, 10, 11, 12, 14, 15, 16, 125]), (22, [0, 1, 2, 7, 9, 10, 11, 12, 14, 15, 16]), (23, [0, 1, 2, 7, 9, 10, 11, 12, 14, 15, 16, 131]), (24, [6]), (25, [0, 1, 2, 7, 9, 10, 11, 12, 15, 16, 17, 18, 19]), (26, [0, 1, 2, 7, 9, 10, 11, 12, 15, 16, 17, 18, 19]), (27, [0, 1, 2, 7, 9, 10, 11, 192]), (28, [6]), (29, [6]), (100000, [7]), (100001, [0, 1, 2, 7, 9, 10, 11]), (100002, [0, 1, 2, 7, 9, 10, 11, 12]), (100003, [0, 1, 2, 7, 9, 10, 11, 12, 13]), (200000, [0, 1, 2, 7, 9, 10, 11]), (200001, [0, 1, 2, 7, 9, 10, 11]), (200002, [0, 1, 2, 7, 9, 10, 11, 12, 13]), (200003, [0, 1, 2, 7, 9, 10, 11, 12, 13]), (300000, [6]), (400027, [0, 1, 2]), (400034, [0, 1, 2, 7]), (400047, [0, 1, 2, 7, 9, 10, 11]), (400057, [0, 1, 2, 7, 9, 10, 11, 12]), (400068, [0, 1, 2, 7, 9, 10, 11, 12, 13]), (400098, [0, 1, 2, 7, 9, 10, 11, 12, 13]), (400115, [0, 1, 2, 7, 9, 10, 11, 12, 14, 15, 16]), (400125, [0, 1, 2, 7, 9, 10, 11, 12, 14, 15, 16]), (400131, [0, 1, 2, 7, 9, 10, 11, 12, 14, 15, 16]), (400192, [0, 1, 2, 7, 9, 10, 11])]
def E4 (a9 : T9) (a10 : T10) (a12 : T12) (a11 : T11) (a13 : T13) (a14 : T14) : FEnv := [(9, w9 a9), (10, w10 a10), (12, w12 a12), (11, w11 a11), (13, w13 a13), (14, w14 a14)]
theorem E4_good {a9 : T9} {a10 : T10} {a12 : T12} {a11 : T11} {a13 : T13} {a14 : T14} (oa9 : FunOK Try.prog 9 (w9 a9)) (oa10 : FunOK Try.prog 10 (w10 a10)) (oa12 : FunOK Try.prog 12 (w12 a12)) (oa11 : FunOK Try.prog 11 (w11 a11)) (oa13 : FunOK Try.prog 13 (w13 a13)) (oa14 : FunOK Try.prog 14 (w14 a14)) (la9 : Lin9 a9) (la10 : Lin10 a10) (la12 : Lin12 a12) (la11 : Lin11 a11) (la13 : Lin13 a13) (la14 : Lin14 a14) : EnvGood Try.prog (E4 a9 a10 a12 a11 a13 a14) := (((((((EnvGood.nil _).cons oa14 (w14_lin la14)).cons oa13 (w13_lin la13)).cons oa11 (w11_lin la11)).cons oa12 (w12_lin la12)).cons oa10 (w10_lin la10)).cons oa9 (w9_lin la9))
theorem E4_lin {a9 : T9} {a10 : T10} {a12 : T12} {a11 : T11} {a13 : T13} {a14 : T14} (la9 : Lin9 a9) (la10 : Lin10 a10) (la12 : Lin12 a12) (la11 : Lin11 a11) (la13 : Lin13 a13) (la14 : Lin14 a14) : EnvLin (E4 a9 a10 a12 a11 a13 a14) := by
  intro g F h
  simp only [E4, List.mem_cons, List.not_mem_nil, or_false] at h
  rcases h with h | h | h | h | h | h
  · cases h; exact w9_lin la9
  · cases h; exact w10_lin la10
  · cases h; exact w12_lin la12
  · cases h; exact w11_lin la11
  · cases h; exact w13_lin la13
  · cases h; exact w14_lin la14
def lv4 : Nat → Bool := lvOf []
noncomputable def b4 : Code := Try.f4.body.getD .skip
noncomputable def c4_0 : Code := (.seq (codeAt [1, 1, 1, 1, 1, 1, 0, 1, 0, 0, 1, 0, 0, 1, 1, 0, 1, 0, 0, 0, 0] b4) (.seq (.cond (.tmp 68) .skip (.exit 2)) (.seq (.block 3 (.seq (codeAt [1, 1, 1, 1, 1, 1, 0, 1, 0, 0, 1, 0, 0, 1, 1, 0, 1, 0, 0, 1, 0, 0, 0] b4) (.cond (.tmp 98) (codeAt [1, 1, 1, 1, 1, 1, 0, 1, 0, 0, 1, 0, 0, 1, 1, 0, 1, 0, 0, 1, 0, 0, 1, 0] b4) .skip))) (codeAt [1, 1, 1, 1, 1, 1, 0, 1, 0, 0, 1, 0, 0, 1, 1, 0, 1, 0, 0, 1, 1] b4))))
noncomputable def c4_1 : Code := (.loop c4_0)
noncomputable def c4_2 : Code := (.block 2 c4_1)
noncomputable def c4_3 : Code := (.seq (codeAt [1, 1, 1, 1, 1, 1, 0, 1, 0, 0, 1, 0, 0, 1, 1, 1, 1, 1, 1, 1, 0] b4) (.seq (codeAt [1, 1, 1, 1, 1, 1, 0, 1, 0, 0, 1, 0, 0, 1, 1, 1, 1, 1, 1, 1, 1, 0] b4) (.cond (.tmp 192) (.seq (codeAt [1, 1, 1, 1, 1, 1, 0, 1, 0, 0, 1, 0, 0, 1, 1, 1, 1, 1, 1, 1, 1, 1, 0, 0] b4) .ret) .skip)))
noncomputable def c4_4 : Code := (.seq (codeAt [1, 1, 1, 1, 1, 1, 0, 1, 0, 0, 1, 0, 0, 1, 1, 1, 0] b4) (.seq (codeAt [1, 1, 1, 1, 1, 1, 0, 1, 0, 0, 1, 0, 0, 1, 1, 1, 1, 0, 0] b4) (.seq (.cond (.tmp 115) (.exit 1) .skip) (.seq (codeAt [1, 1, 1, 1, 1, 1, 0, 1, 0, 0, 1, 0, 0, 1, 1, 1, 1, 1, 0, 0] b4) (.seq (.cond (.tmp 125) (.seq (codeAt [1, 1, 1, 1, 1, 1, 0, 1, 0, 0, 1, 0, 0, 1, 1, 1, 1, 1, 0, 1, 0, 0] b4) (.seq (codeAt [1, 1, 1, 1, 1, 1, 0, 1, 0, 0, 1, 0, 0, 1, 1, 1, 1, 1, 0, 1, 0, 1, 0] b4) (.cond (.tmp 131) (.seq (codeAt [1, 1, 1, 1, 1, 1, 0, 1, 0, 0, 1, 0, 0, 1, 1, 1, 1, 1, 0, 1, 0, 1, 1, 0, 0] b4) .ret) .skip))) .skip) (.seq (codeAt [1, 1, 1, 1, 1, 1, 0, 1, 0, 0, 1, 0, 0, 1, 1, 1, 1, 1, 1, 0] b4) c4_3))))))
noncomputable def c4_5 : Code := (.seq c4_2 c4_4)
noncomputable def c4_6 : Code := (.seq (codeAt [1, 1, 1, 1, 1, 1, 0, 1, 0, 0, 1, 0, 0, 0] b4) (.seq (codeAt [1, 1, 1, 1, 1, 1, 0, 1, 0, 0, 1, 0, 0, 1, 0, 0] b4) (.seq (.cond (.tmp 57) (codeAt [1, 1, 1, 1, 1, 1, 0, 1, 0, 0, 1, 0, 0, 1, 0, 1, 0] b4) .skip) (.seq (codeAt [1, 1, 1, 1, 1, 1, 0, 1, 0, 0, 1, 0, 0, 1, 1, 0, 0] b4) c4_5))))
noncomputable def c4_7 : Code := (.block 1 c4_6)
noncomputable def c4_8 : Code := (codeAt [1, 1, 1, 1, 1, 1, 0, 1, 0, 0, 1, 1] b4)
noncomputable def c4_9 : Code := (.seq c4_7 c4_8)
noncomputable def c4_10 : Code := (.seq (codeAt [1, 1, 1, 1, 1, 1, 0, 1, 0, 0, 0, 0] b4) (.seq (.cond (.tmp 47) .skip (.exit 0)) c4_9))
noncomputable def c4_11 : Code := (.loop c4_10)
noncomputable def c4_12 : Code := (.block 0 c4_11)
noncomputable def c4_13 : Code := (.seq (codeAt [1, 1, 1, 1, 1, 1, 1, 0] b4) .ret)
noncomputable def c4_14 : Code := (.seq c4_12 c4_13)
noncomputable def c4_15 : Code := (.seq (codeAt [0] b4) (.seq (codeAt [1, 0, 0] b4) (.seq (.cond (.tmp 27) (.seq (codeAt [1, 0, 1, 0, 0] b4) .ret) .skip) (.seq (codeAt [1, 1, 0] b4) (.seq (codeAt [1, 1, 1, 0, 0] b4) (.seq (.cond (.tmp 34) (.seq (codeAt [1, 1, 1, 0, 1, 0, 0] b4) .ret) .skip) (.seq (codeAt [1, 1, 1, 1, 0] b4) (.seq (codeAt [1, 1, 1, 1, 1, 0] b4) (.seq (codeAt [1, 1, 1, 1, 1, 1, 0, 0] b4) c4_14)))))))))
noncomputable def g4_p0 (a9 : T9) (a10 : T10) (a12 : T12) (a11 : T11) (a13 : T13) (a14 : T14) (R : Type) (t0 : Sl) (t1 : Sl) (t2 : Int) (H : Heap) (kN : Sl → Sl → Int → Option (Nat × Nat) → Sl → Int → Int → Heap → Option R) (kR : Bool → Heap → Option R) : Option R :=
  sel (decide (((t0.len : Nat) : Int) > (8 : Int))) (
    a9 R H fun x46 h47 =>
    kR x46 h47) (
    sel (decide (((t1.len : Nat) : Int) > (200 : Int))) (
      a9 R H fun x48 h49 =>
      kR x48 h49) (
      a10 R (100 : Int) H fun x50 x51 h52 =>
      sel (x51 != (0 : Int)) (
        kR false h52) (
        if 0 ≤ ((t0.len : Nat) : Int) ∧ ((t0.len : Nat) : Int) ≤ ((t0.len : Nat) : Int) ∧ ((t0.len : Nat) : Int) ≤ 9223372036854775807 ∧ ((t0.len : Nat) : Int) * ((8 : Nat) : Int) ≤ 281474976710656 then (
          ((zeroCellsV Try.prog 3 (Int.toNat ((t0.len : Nat) : Int)))).bind fun vs53 =>
          alo h52 (.cells vs53 3 false) fun i54 h55 =>
          kN t0 t1 t2 x50 (Sl.mk (some (i54, 0)) (Int.toNat ((t0.len : Nat) : Int)) (.ex (Int.toNat ((t0.len : Nat) : Int)))) (0 : Int) (0 : Int) h55)
        else (
          none))))
theorem g4_p0_eq (a9 : T9) (a10 : T10) (a12 : T12) (a11 : T11) (a13 : T13) (a14 : T14) {R : Type} (c2 : Code) (t0 : Sl) (t1 : Sl) (t2 : Int) (H : Heap) (K : Ex → Fr → Heap → Option R) : ev2 Try.prog (E4 a9 a10 a12 a11 a13 a14) loopLim lv4 Try.f4.ntmps kp4 (.seq (codeAt [0] b4) (.seq (codeAt [1, 0, 0] b4) (.seq (.cond (.tmp 27) (.seq (codeAt [1, 0, 1, 0, 0] b4) .ret) .skip) (.seq (codeAt [1, 1, 0] b4) (.seq (codeAt [1, 1, 1, 0, 0] b4) (.seq (.cond (.tmp 34) (.seq (codeAt [1, 1, 1, 0, 1, 0, 0] b4) .ret) .skip) (.seq (codeAt [1, 1, 1, 1, 0] b4) (.seq (codeAt [1, 1, 1, 1, 1, 0] b4) (.seq (codeAt [1, 1, 1, 1, 1, 1, 0, 0] b4) c2))))))))) [(0, (V.sl t0)), (1, (V.sl t1)), (2, (V.i .u8 t2))] H K = g4_p0 a9 a10 a12 a11 a13 a14 R t0 t1 t2 H (fun t0 t1 t2 t7 t9 t10 t11 H => ev2 Try.prog (E4 a9 a10 a12 a11 a13 a14) loopLim lv4 Try.f4.ntmps kp4 c2 [(0, (V.sl t0)), (1, (V.sl t1)), (2, (V.i .u8 t2)), (7, (V.p t7)), (9, (V.sl t9)), (10, (V.i .i64 t10)), (11, (V.i .i64 t11))] H K) (fun t6 H => K .ret [(6, (V.b t6))] H) := by kernel_rfl
theorem g4_p0_lin {a9 : T9} {a10 : T10} {a12 : T12} {a11 : T11} {a13 : T13} {a14 : T14} (la9 : Lin9 a9) (la10 : Lin10 a10) (la12 : Lin12 a12) (la11 : Lin11 a11) (la13 : Lin13 a13) (la14 : Lin14 a14) {R S : Type} {k : S → Option R} {t0 : Sl} {t1 : Sl} {t2 : Int} {H : Heap} {fkN : Sl → Sl → Int → Option (Nat × Nat) → Sl → Int → Int → Heap → Option R} {gkN : Sl → Sl → Int → Option (Nat × Nat) → Sl → Int → Int → Heap → Option S} {fkR : Bool → Heap → Option R} {gkR : Bool → Heap → Option S} (hkN : ∀ t0 t1 t2 t7 t9 t10 t11 H, fkN t0 t1 t2 t7 t9 t10 t11 H = (gkN t0 t1 t2 t7 t9 t10 t11 H).bind k) (hkR : ∀ t6 H, fkR t6 H = (gkR t6 H).bind k) : g4_p0 a9 a10 a12 a11 a13 a14 R t0 t1 t2 H fkN fkR = (g4_p0 a9 a10 a12 a11 a13 a14 S t0 t1 t2 H gkN gkR).bind k := by
  delta g4_p0; exact (
    sl_lin (
      la9.l fun x46 h47 =>
      hkR _ _) (
      sl_lin (
        la9.l fun x48 h49 =>
        hkR _ _) (
        la10.l fun x50 x51 h52 =>
        sl_lin (
          hkR _ _) (
          il (
            bl fun vs53 =>
            alo_lin fun i54 h55 =>
            hkN _ _ _ _ _ _ _ _) (
            rfl)))))
noncomputable def g4_p1 (a9 : T9) (a10 : T10) (a12 : T12) (a11 : T11) (a13 : T13) (a14 : T14) (R : Type) (t0 : Sl) (t1 : Sl) (t2 : Int) (t7 : Option (Nat × Nat)) (t9 : Sl) (t10 : Int) (t11 : Int) (H : Heap) (kN : Sl → Sl → Int → Option (Nat × Nat) → Sl → Int → Int → Heap → Option R) (kE0 : Option (Nat × Nat) → Heap → Option R) : Option R :=
  sel (decide (((t0.len : Nat) : Int) > (0 : Int))) (
    sel (decide (t11 < (IntKind.wrap .i64 (((t1.len : Nat) : Int) + (200 : Int))))) (
      kN t0 t1 t2 t7 t9 t10 t11 H) (
      kE0 t7 H)) (
    kE0 t7 H)
theorem g4_p1_eq (a9 : T9) (a10 : T10) (a12 : T12) (a11 : T11) (a13 : T13) (a14 : T14) {R : Type} (c2 : Code) (t0 : Sl) (t1 : Sl) (t2 : Int) (t7 : Option (Nat × Nat)) (t9 : Sl) (t10 : Int) (t11 : Int) (H : Heap) (K : Ex → Fr → Heap → Option R) : ev2 Try.prog (E4 a9 a10 a12 a11 a13 a14) loopLim lv4 Try.f4.ntmps kp4 (.seq (codeAt [1, 1, 1, 1, 1, 1, 0, 1, 0, 0, 0, 0] b4) (.seq (.cond (.tmp 47) .skip (.exit 0)) c2)) [(0, (V.sl t0)), (1, (V.sl t1)), (2, (V.i .u8 t2)), (7, (V.p t7)), (9, (V.sl t9)), (10, (V.i .i64 t10)), (11, (V.i .i64 t11))] H K = g4_p1 a9 a10 a12 a11 a13 a14 R t0 t1 t2 t7 t9 t10 t11 H (fun t0 t1 t2 t7 t9 t10 t11 H => ev2 Try.prog (E4 a9 a10 a12 a11 a13 a14) loopLim lv4 Try.f4.ntmps kp4 c2 [(0, (V.sl t0)), (1, (V.sl t1)), (2, (V.i .u8 t2)), (7, (V.p t7)), (9, (V.sl t9)), (10, (V.i .i64 t10)), (11, (V.i .i64 t11))] H K) (fun t7 H => K (.exit 0) [(7, (V.p t7))] H) := by kernel_rfl
theorem g4_p1_lin {a9 : T9} {a10 : T10} {a12 : T12} {a11 : T11} {a13 : T13} {a14 : T14} (la9 : Lin9 a9) (la10 : Lin10 a10) (la12 : Lin12 a12) (la11 : Lin11 a11) (la13 : Lin13 a13) (la14 : Lin14 a14) {R S : Type} {k : S → Option R} {t0 : Sl} {t1 : Sl} {t2 : Int} {t7 : Option (Nat × Nat)} {t9 : Sl} {t10 : Int} {t11 : Int} {H : Heap} {fkN : Sl → Sl → Int → Option (Nat × Nat) → Sl → Int → Int → Heap → Option R} {gkN : Sl → Sl → Int → Option (Nat × Nat) → Sl → Int → Int → Heap → Option S} {fkE0 : Option (Nat × Nat) → Heap → Option R} {gkE0 : Option (Nat × Nat) → Heap → Option S} (hkN : ∀ t0 t1 t2 t7 t9 t10 t11 H, fkN t0 t1 t2 t7 t9 t10 t11 H = (gkN t0 t1 t2 t7 t9 t10 t11 H).bind k) (hkE0 : ∀ t7 H, fkE0 t7 H = (gkE0 t7 H).bind k) : g4_p1 a9 a10 a12 a11 a13 a14 R t0 t1 t2 t7 t9 t10 t11 H fkN fkE0 = (g4_p1 a9 a10 a12 a11 a13 a14 S t0 t1 t2 t7 t9 t10 t11 H gkN gkE0).bind k := by
  delta g4_p1; exact (
    sl_lin (
      sl_lin (
        hkN _ _ _ _ _ _ _ _) (
        hkE0 _ _)) (
      hkE0 _ _))
noncomputable def g4_p2 (a9 : T9) (a10 : T10) (a12 : T12) (a11 : T11) (a13 : T13) (a14 : T14) (R : Type) (t0 : Sl) (t1 : Sl) (t2 : Int) (t7 : Option (Nat × Nat)) (t9 : Sl) (t10 : Int) (t11 : Int) (H : Heap) (kN : Sl → Sl → Int → Option (Nat × Nat) → Sl → Int → Int → Int → Int → Heap → Option R) : Option R :=
  if ((t0.len : Nat) : Int) = 0 then (
    none)
  else (
    sel (decide (t11 < ((t1.len : Nat) : Int))) (
      if 0 ≤ t11 ∧ t11 < ((t1.len : Nat) : Int) then (
        (t1.a).bind fun q58 =>
        ((H).ldI .u8 q58.1 (q58.2 + Int.toNat t11 * 1)).bind fun x59 =>
        if ((t0.len : Nat) : Int) = 0 then (
          none)
        else (
          kN t0 t1 t2 t7 t9 t10 t11 (Int.tmod (IntKind.wrap .i64 x59) ((t0.len : Nat) : Int)) (0 : Int) H))
      else (
        none)) (
      kN t0 t1 t2 t7 t9 t10 t11 (Int.tmod t11 ((t0.len : Nat) : Int)) (0 : Int) H))
theorem g4_p2_eq (a9 : T9) (a10 : T10) (a12 : T12) (a11 : T11) (a13 : T13) (a14 : T14) {R : Type} (c2 : Code) (t0 : Sl) (t1 : Sl) (t2 : Int) (t7 : Option (Nat × Nat)) (t9 : Sl) (t10 : Int) (t11 : Int) (H : Heap) (K : Ex → Fr → Heap → Option R) : ev2 Try.prog (E4 a9 a10 a12 a11 a13 a14) loopLim lv4 Try.f4.ntmps kp4 (.seq (codeAt [1, 1, 1, 1, 1, 1, 0, 1, 0, 0, 1, 0, 0, 0] b4) (.seq (codeAt [1, 1, 1, 1, 1, 1, 0, 1, 0, 0, 1, 0, 0, 1, 0, 0] b4) (.seq (.cond (.tmp 57) (codeAt [1, 1, 1, 1, 1, 1, 0, 1, 0, 0, 1, 0, 0, 1, 0, 1, 0] b4) .skip) (.seq (codeAt [1, 1, 1, 1, 1, 1, 0, 1, 0, 0, 1, 0, 0, 1, 1, 0, 0] b4) c2)))) [(0, (V.sl t0)), (1, (V.sl t1)), (2, (V.i .u8 t2)), (7, (V.p t7)), (9, (V.sl t9)), (10, (V.i .i64 t10)), (11, (V.i .i64 t11))] H K = g4_p2 a9 a10 a12 a11 a13 a14 R t0 t1 t2 t7 t9 t10 t11 H (fun t0 t1 t2 t7 t9 t10 t11 t12 t13 H => ev2 Try.prog (E4 a9 a10 a12 a11 a13 a14) loopLim lv4 Try.f4.ntmps kp4 c2 [(0, (V.sl t0)), (1, (V.sl t1)), (2, (V.i .u8 t2)), (7, (V.p t7)), (9, (V.sl t9)), (10, (V.i .i64 t10)), (11, (V.i .i64 t11)), (12, (V.i .i64 t12)), (13, (V.i .i64 t13))] H K) := by kernel_rfl
theorem g4_p2_lin {a9 : T9} {a10 : T10} {a12 : T12} {a11 : T11} {a13 : T13} {a14 : T14} (la9 : Lin9 a9) (la10 : Lin10 a10) (la12 : Lin12 a12) (la11 : Lin11 a11) (la13 : Lin13 a13) (la14 : Lin14 a14) {R S : Type} {k : S → Option R} {t0 : Sl} {t1 : Sl} {t2 : Int} {t7 : Option (Nat × Nat)} {t9 : Sl} {t10 : Int} {t11 : Int} {H : Heap} {fkN : Sl → Sl → Int → Option (Nat × Nat) → Sl → Int → Int → Int → Int → Heap → Option R} {gkN : Sl → Sl → Int → Option (Nat × Nat) → Sl → Int → Int → Int → Int → Heap → Option S} (hkN : ∀ t0 t1 t2 t7 t9 t10 t11 t12 t13 H, fkN t0 t1 t2 t7 t9 t10 t11 t12 t13 H = (gkN t0 t1 t2 t7 t9 t10 t11 t12 t13 H).bind k) : g4_p2 a9 a10 a12 a11 a13 a14 R t0 t1 t2 t7 t9 t10 t11 H fkN = (g4_p2 a9 a10 a12 a11 a13 a14 S t0 t1 t2 t7 t9 t10 t11 H gkN).bind k := by
  delta g4_p2; exact (
    il (
      rfl) (
      sl_lin (
        il (
          bl fun q58 =>
          bl fun x59 =>
          il (
            rfl) (
            hkN _ _ _ _ _ _ _ _ _ _)) (
          rfl)) (
        hkN _ _ _ _ _ _ _ _ _ _)))
noncomputable def g4_p3 (a9 : T9) (a10 : T10) (a12 : T12) (a11 : T11) (a13 : T13) (a14 : T14) (R : Type) (t0 : Sl) (t1 : Sl) (t2 : Int) (t7 : Option (Nat × Nat)) (t9 : Sl) (t10 : Int) (t11 : Int) (t12 : Int) (t13 : Int) (H : Heap) (kN : Sl → Sl → Int → Option (Nat × Nat) → Sl → Int → Int → Int → Int → Heap → Option R) (kE2 : Sl → Sl → Int → Option (Nat × Nat) → Sl → Int → Int → Int → Heap → Option R) : Option R :=
  sel (decide (t13 < t12)) (
    if 0 ≤ t13 ∧ t13 < ((t0.len : Nat) : Int) then (
      (t0.a).bind fun q60 =>
      ((H).ldI .u8 q60.1 ((q60.2 + Int.toNat t13 * 4) + 0)).bind fun x61 =>
      if 0 ≤ t12 ∧ t12 < ((t0.len : Nat) : Int) then (
        (t0.a).bind fun q62 =>
        ((H).ldI .u8 q62.1 ((q62.2 + Int.toNat t12 * 4) + 0)).bind fun x63 =>
        sel ((Int.tmod x61 (4 : Int)) == (Int.tmod x63 (4 : Int))) (
          if 0 ≤ t13 ∧ t13 < ((t0.len : Nat) : Int) then (
            (t0.a).bind fun q64 =>
            ((H).ldI .u8 q64.1 ((q64.2 + Int.toNat t13 * 4) + 1)).bind fun x65 =>
            if 0 ≤ t12 ∧ t12 < ((t0.len : Nat) : Int) then (
              (t0.a).bind fun q66 =>
              ((H).ldI .u8 q66.1 ((q66.2 + Int.toNat t12 * 4) + 1)).bind fun x67 =>
              sel ((Int.tmod x65 (8 : Int)) == (Int.tmod x67 (8 : Int))) (
                kN t0 t1 t2 t7 t9 t10 t11 t13 (IntKind.wrap .i64 (t13 + (1 : Int))) H) (
                kN t0 t1 t2 t7 t9 t10 t11 t12 (IntKind.wrap .i64 (t13 + (1 : Int))) H))
            else (
              none))
          else (
            none)) (
          kN t0 t1 t2 t7 t9 t10 t11 t12 (IntKind.wrap .i64 (t13 + (1 : Int))) H))
      else (
        none))
    else (
      none)) (
    kE2 t0 t1 t2 t7 t9 t10 t11 t12 H)
theorem g4_p3_eq (a9 : T9) (a10 : T10) (a12 : T12) (a11 : T11) (a13 : T13) (a14 : T14) (la9 : Lin9 a9) (la10 : Lin10 a10) (la12 : Lin12 a12) (la11 : Lin11 a11) (la13 : Lin13 a13) (la14 : Lin14 a14) {R : Type} (t0 : Sl) (t1 : Sl) (t2 : Int) (t7 : Option (Nat × Nat)) (t9 : Sl) (t10 : Int) (t11 : Int) (t12 : Int) (t13 : Int) (H : Heap) (K : Ex → Fr → Heap → Option R) : ev2 Try.prog (E4 a9 a10 a12 a11 a13 a14) loopLim lv4 Try.f4.ntmps kp4 c4_0 [(0, (V.sl t0)), (1, (V.sl t1)), (2, (V.i .u8 t2)), (7, (V.p t7)), (9, (V.sl t9)), (10, (V.i .i64 t10)), (11, (V.i .i64 t11)), (12, (V.i .i64 t12)), (13, (V.i .i64 t13))] H K = g4_p3 a9 a10 a12 a11 a13 a14 R t0 t1 t2 t7 t9 t10 t11 t12 t13 H (fun t0 t1 t2 t7 t9 t10 t11 t12 t13 H => K .normal [(0, (V.sl t0)), (1, (V.sl t1)), (2, (V.i .u8 t2)), (7, (V.p t7)), (9, (V.sl t9)), (10, (V.i .i64 t10)), (11, (V.i .i64 t11)), (12, (V.i .i64 t12)), (13, (V.i .i64 t13))] H) (fun t0 t1 t2 t7 t9 t10 t11 t12 H => K (.exit 2) [(0, (V.sl t0)), (1, (V.sl t1)), (2, (V.i .u8 t2)), (7, (V.p t7)), (9, (V.sl t9)), (10, (V.i .i64 t10)), (11, (V.i .i64 t11)), (12, (V.i .i64 t12))] H) := by kernel_rfl
theorem g4_p3_lin {a9 : T9} {a10 : T10} {a12 : T12} {a11 : T11} {a13 : T13} {a14 : T14} (la9 : Lin9 a9) (la10 : Lin10 a10) (la12 : Lin12 a12) (la11 : Lin11 a11) (la13 : Lin13 a13) (la14 : Lin14 a14) {R S : Type} {k : S → Option R} {t0 : Sl} {t1 : Sl} {t2 : Int} {t7 : Option (Nat × Nat)} {t9 : Sl} {t10 : Int} {t11 : Int} {t12 : Int} {t13 : Int} {H : Heap} {fkN : Sl → Sl → Int → Option (Nat × Nat) → Sl → Int → Int → Int → Int → Heap → Option R} {gkN : Sl → Sl → Int → Option (Nat × Nat) → Sl → Int → Int → Int → Int → Heap → Option S} {fkE2 : Sl → Sl → Int → Option (Nat × Nat) → Sl → Int → Int → Int → Heap → Option R} {gkE2 : Sl → Sl → Int → Option (Nat × Nat) → Sl → Int → Int → Int → Heap → Option S} (hkN : ∀ t0 t1 t2 t7 t9 t10 t11 t12 t13 H, fkN t0 t1 t2 t7 t9 t10 t11 t12 t13 H = (gkN t0 t1 t2 t7 t9 t10 t11 t12 t13 H).bind k) (hkE2 : ∀ t0 t1 t2 t7 t9 t10 t11 t12 H, fkE2 t0 t1 t2 t7 t9 t10 t11 t12 H = (gkE2 t0 t1 t2 t7 t9 t10 t11 t12 H).bind k) : g4_p3 a9 a10 a12 a11 a13 a14 R t0 t1 t2 t7 t9 t10 t11 t12 t13 H fkN fkE2 = (g4_p3 a9 a10 a12 a11 a13 a14 S t0 t1 t2 t7 t9 t10 t11 t12 t13 H gkN gkE2).bind k := by
  delta g4_p3; exact (
    sl_lin (
      il (
        bl fun q60 =>
        bl fun x61 =>
        il (
          bl fun q62 =>
          bl fun x63 =>
          sl_lin (
            il (
              bl fun q64 =>
              bl fun x65 =>
              il (
                bl fun q66 =>
                bl fun x67 =>
                sl_lin (
                  hkN _ _ _ _ _ _ _ _ _ _) (
                  hkN _ _ _ _ _ _ _ _ _ _)) (
                rfl)) (
              rfl)) (
            hkN _ _ _ _ _ _ _ _ _ _)) (
          rfl)) (
        rfl)) (
      hkE2 _ _ _ _ _ _ _ _ _))
abbrev g4_p4_S := Sl × Sl × Int × (Option (Nat × Nat)) × Sl × Int × Int × Int × Int
abbrev g4_p4_O := Sl × Sl × Int × (Option (Nat × Nat)) × Sl × Int × Int × Int
def g4_p4_es (s : g4_p4_S) : Fr := [(0, (V.sl s.1)), (1, (V.sl s.2.1)), (2, (V.i .u8 s.2.2.1)), (7, (V.p s.2.2.2.1)), (9, (V.sl s.2.2.2.2.1)), (10, (V.i .i64 s.2.2.2.2.2.1)), (11, (V.i .i64 s.2.2.2.2.2.2.1)), (12, (V.i .i64 s.2.2.2.2.2.2.2.1)), (13, (V.i .i64 s.2.2.2.2.2.2.2.2))]
def g4_p4_er (r : g4_p4_O) : Ex × Fr := ((.exit 2), [(0, (V.sl r.1)), (1, (V.sl r.2.1)), (2, (V.i .u8 r.2.2.1)), (7, (V.p r.2.2.2.1)), (9, (V.sl r.2.2.2.2.1)), (10, (V.i .i64 r.2.2.2.2.2.1)), (11, (V.i .i64 r.2.2.2.2.2.2.1)), (12, (V.i .i64 r.2.2.2.2.2.2.2))])
noncomputable def g4_p4_b (a9 : T9) (a10 : T10) (a12 : T12) (a11 : T11) (a13 : T13) (a14 : T14) (s : g4_p4_S) (H : Heap) : Option (Rd g4_p4_S g4_p4_O × Heap) :=
  g4_p3 a9 a10 a12 a11 a13 a14 _ s.1 s.2.1 s.2.2.1 s.2.2.2.1 s.2.2.2.2.1 s.2.2.2.2.2.1 s.2.2.2.2.2.2.1 s.2.2.2.2.2.2.2.1 s.2.2.2.2.2.2.2.2 H (fun t0 t1 t2 t7 t9 t10 t11 t12 t13 H => some (.go (t0, t1, t2, t7, t9, t10, t11, t12, t13), H)) (fun t0 t1 t2 t7 t9 t10 t11 t12 H => some (.up (t0, t1, t2, t7, t9, t10, t11, t12), H))
noncomputable def g4_p4 (a9 : T9) (a10 : T10) (a12 : T12) (a11 : T11) (a13 : T13) (a14 : T14) (R : Type) (t0 : Sl) (t1 : Sl) (t2 : Int) (t7 : Option (Nat × Nat)) (t9 : Sl) (t10 : Int) (t11 : Int) (t12 : Int) (t13 : Int) (H : Heap) (kE2 : Sl → Sl → Int → Option (Nat × Nat) → Sl → Int → Int → Int → Heap → Option R) : Option R :=
  (tlim (g4_p4_b a9 a10 a12 a11 a13 a14) (t0, t1, t2, t7, t9, t10, t11, t12, t13) H).bind fun p => kE2 p.1.1 p.1.2.1 p.1.2.2.1 p.1.2.2.2.1 p.1.2.2.2.2.1 p.1.2.2.2.2.2.1 p.1.2.2.2.2.2.2.1 p.1.2.2.2.2.2.2.2 p.2
theorem g4_p4_lin {a9 : T9} {a10 : T10} {a12 : T12} {a11 : T11} {a13 : T13} {a14 : T14} (la9 : Lin9 a9) (la10 : Lin10 a10) (la12 : Lin12 a12) (la11 : Lin11 a11) (la13 : Lin13 a13) (la14 : Lin14 a14) {R S : Type} {k : S → Option R} {t0 : Sl} {t1 : Sl} {t2 : Int} {t7 : Option (Nat × Nat)} {t9 : Sl} {t10 : Int} {t11 : Int} {t12 : Int} {t13 : Int} {H : Heap} {fkE2 : Sl → Sl → Int → Option (Nat × Nat) → Sl → Int → Int → Int → Heap → Option R} {gkE2 : Sl → Sl → Int → Option (Nat × Nat) → Sl → Int → Int → Int → Heap → Option S} (hkE2 : ∀ t0 t1 t2 t7 t9 t10 t11 t12 H, fkE2 t0 t1 t2 t7 t9 t10 t11 t12 H = (gkE2 t0 t1 t2 t7 t9 t10 t11 t12 H).bind k) : g4_p4 a9 a10 a12 a11 a13 a14 R t0 t1 t2 t7 t9 t10 t11 t12 t13 H fkE2 = (g4_p4 a9 a10 a12 a11 a13 a14 S t0 t1 t2 t7 t9 t10 t11 t12 t13 H gkE2).bind k := by
  exact bl fun p => hkE2 _ _ _ _ _ _ _ _ _
theorem g4_p4_eq (a9 : T9) (a10 : T10) (a12 : T12) (a11 : T11) (a13 : T13) (a14 : T14) (la9 : Lin9 a9) (la10 : Lin10 a10) (la12 : Lin12 a12) (la11 : Lin11 a11) (la13 : Lin13 a13) (la14 : Lin14 a14) {R : Type} (t0 : Sl) (t1 : Sl) (t2 : Int) (t7 : Option (Nat × Nat)) (t9 : Sl) (t10 : Int) (t11 : Int) (t12 : Int) (t13 : Int) (H : Heap) (K : Ex → Fr → Heap → Option R) : ev2 Try.prog (E4 a9 a10 a12 a11 a13 a14) loopLim lv4 Try.f4.ntmps kp4 c4_1 [(0, (V.sl t0)), (1, (V.sl t1)), (2, (V.i .u8 t2)), (7, (V.p t7)), (9, (V.sl t9)), (10, (V.i .i64 t10)), (11, (V.i .i64 t11)), (12, (V.i .i64 t12)), (13, (V.i .i64 t13))] H K = g4_p4 a9 a10 a12 a11 a13 a14 R t0 t1 t2 t7 t9 t10 t11 t12 t13 H (fun t0 t1 t2 t7 t9 t10 t11 t12 H => K (.exit 2) [(0, (V.sl t0)), (1, (V.sl t1)), (2, (V.i .u8 t2)), (7, (V.p t7)), (9, (V.sl t9)), (10, (V.i .i64 t10)), (11, (V.i .i64 t11)), (12, (V.i .i64 t12))] H) := by
  show ev2 Try.prog (E4 a9 a10 a12 a11 a13 a14) loopLim lv4 Try.f4.ntmps kp4 (.loop c4_0) [(0, (V.sl t0)), (1, (V.sl t1)), (2, (V.i .u8 t2)), (7, (V.p t7)), (9, (V.sl t9)), (10, (V.i .i64 t10)), (11, (V.i .i64 t11)), (12, (V.i .i64 t12)), (13, (V.i .i64 t13))] H K = _
  delta g4_p4
  refine (ev2_tlim (b := g4_p4_b a9 a10 a12 a11 a13 a14) (es := g4_p4_es) (er := g4_p4_er) (by intro r; exact nofun) (fun s H => ?_) (t0, t1, t2, t7, t9, t10, t11, t12, t13) H K).trans (bc fun p => rfl)
  exact (g4_p3_eq a9 a10 a12 a11 a13 a14 la9 la10 la12 la11 la13 la14 s.1 s.2.1 s.2.2.1 s.2.2.2.1 s.2.2.2.2.1 s.2.2.2.2.2.1 s.2.2.2.2.2.2.1 s.2.2.2.2.2.2.2.1 s.2.2.2.2.2.2.2.2 H ret3).trans (g4_p3_lin la9 la10 la12 la11 la13 la14 (fun _ _ _ _ _ _ _ _ _ _ => rfl) (fun _ _ _ _ _ _ _ _ _ => rfl))
noncomputable def g4_p5 (a9 : T9) (a10 : T10) (a12 : T12) (a11 : T11) (a13 : T13) (a14 : T14) (R : Type) (t0 : Sl) (t1 : Sl) (t2 : Int) (t7 : Option (Nat × Nat)) (t9 : Sl) (t10 : Int) (t11 : Int) (t12 : Int) (t13 : Int) (H : Heap) (kN : Sl → Sl → Int → Option (Nat × Nat) → Sl → Int → Int → Int → Heap → Option R) : Option R :=
  g4_p4 a9 a10 a12 a11 a13 a14 R t0 t1 t2 t7 t9 t10 t11 t12 t13 H (fun t0 t1 t2 t7 t9 t10 t11 t12 H => kN t0 t1 t2 t7 t9 t10 t11 t12 H)
theorem g4_p5_lin {a9 : T9} {a10 : T10} {a12 : T12} {a11 : T11} {a13 : T13} {a14 : T14} (la9 : Lin9 a9) (la10 : Lin10 a10) (la12 : Lin12 a12) (la11 : Lin11 a11) (la13 : Lin13 a13) (la14 : Lin14 a14) {R S : Type} {k : S → Option R} {t0 : Sl} {t1 : Sl} {t2 : Int} {t7 : Option (Nat × Nat)} {t9 : Sl} {t10 : Int} {t11 : Int} {t12 : Int} {t13 : Int} {H : Heap} {fkN : Sl → Sl → Int → Option (Nat × Nat) → Sl → Int → Int → Int → Heap → Option R} {gkN : Sl → Sl → Int → Option (Nat × Nat) → Sl → Int → Int → Int → Heap → Option S} (hkN : ∀ t0 t1 t2 t7 t9 t10 t11 t12 H, fkN t0 t1 t2 t7 t9 t10 t11 t12 H = (gkN t0 t1 t2 t7 t9 t10 t11 t12 H).bind k) : g4_p5 a9 a10 a12 a11 a13 a14 R t0 t1 t2 t7 t9 t10 t11 t12 t13 H fkN = (g4_p5 a9 a10 a12 a11 a13 a14 S t0 t1 t2 t7 t9 t10 t11 t12 t13 H gkN).bind k := by
  exact g4_p4_lin la9 la10 la12 la11 la13 la14 (fun _ _ _ _ _ _ _ _ _ => hkN _ _ _ _ _ _ _ _ _)
theorem g4_p5_eq (a9 : T9) (a10 : T10) (a12 : T12) (a11 : T11) (a13 : T13) (a14 : T14) (la9 : Lin9 a9) (la10 : Lin10 a10) (la12 : Lin12 a12) (la11 : Lin11 a11) (la13 : Lin13 a13) (la14 : Lin14 a14) {R : Type} (t0 : Sl) (t1 : Sl) (t2 : Int) (t7 : Option (Nat × Nat)) (t9 : Sl) (t10 : Int) (t11 : Int) (t12 : Int) (t13 : Int) (H : Heap) (K : Ex → Fr → Heap → Option R) : ev2 Try.prog (E4 a9 a10 a12 a11 a13 a14) loopLim lv4 Try.f4.ntmps kp4 c4_2 [(0, (V.sl t0)), (1, (V.sl t1)), (2, (V.i .u8 t2)), (7, (V.p t7)), (9, (V.sl t9)), (10, (V.i .i64 t10)), (11, (V.i .i64 t11)), (12, (V.i .i64 t12)), (13, (V.i .i64 t13))] H K = g4_p5 a9 a10 a12 a11 a13 a14 R t0 t1 t2 t7 t9 t10 t11 t12 t13 H (fun t0 t1 t2 t7 t9 t10 t11 t12 H => K .normal [(0, (V.sl t0)), (1, (V.sl t1)), (2, (V.i .u8 t2)), (7, (V.p t7)), (9, (V.sl t9)), (10, (V.i .i64 t10)), (11, (V.i .i64 t11)), (12, (V.i .i64 t12))] H) := by
  show ev2 Try.prog (E4 a9 a10 a12 a11 a13 a14) loopLim lv4 Try.f4.ntmps kp4 (.block 2 c4_1) [(0, (V.sl t0)), (1, (V.sl t1)), (2, (V.i .u8 t2)), (7, (V.p t7)), (9, (V.sl t9)), (10, (V.i .i64 t10)), (11, (V.i .i64 t11)), (12, (V.i .i64 t12)), (13, (V.i .i64 t13))] H K = _
  rw [ev2_block]
  delta g4_p5
  exact (g4_p4_eq a9 a10 a12 a11 a13 a14 la9 la10 la12 la11 la13 la14 t0 t1 t2 t7 t9 t10 t11 t12 t13 H (kBlock kp4 2 K))
noncomputable def g4_p6 (a9 : T9) (a10 : T10) (a12 : T12) (a11 : T11) (a13 : T13) (a14 : T14) (R : Type) (t0 : Sl) (t1 : Sl) (t2 : Int) (t7 : Option (Nat × Nat)) (t9 : Sl) (t10 : Int) (t11 : Int) (t12 : Int) (H : Heap) (kN : Sl → Sl → Int → Option (Nat × Nat) → Sl → Int → Int → Int → Sl → ByteArray → Sl → Bool → Int → Heap → Option R) (kE1 : Sl → Sl → Int → Option (Nat × Nat) → Sl → Int → Int → Heap → Option R) (kR : Bool → Heap → Option R) : Option R :=
  if 0 ≤ t12 ∧ t12 < ((t0.len : Nat) : Int) then (
    (t0.a).bind fun q205 =>
    ((H).ldI .u8 q205.1 ((q205.2 + Int.toNat t12 * 4) + 0)).bind fun x206 =>
    ((H).ldI .u8 q205.1 ((q205.2 + Int.toNat t12 * 4) + 1)).bind fun x207 =>
    ((H).ldSl q205.1 ((q205.2 + Int.toNat t12 * 4) + 2)).bind fun x208 =>
    ((H).ldI .u8 q205.1 ((q205.2 + Int.toNat t12 * 4) + 3)).bind fun x209 =>
    a12 R x206 x207 x208 x209 H fun x210 x211 x212 h213 =>
    if 0 ≤ t12 ∧ t12 < ((t9.len : Nat) : Int) then (
      (t9.a).bind fun q214 =>
      ((h213).ldI .i64 q214.1 (q214.2 + Int.toNat t12 * 1)).bind fun x215 =>
      sel (decide (x215 ≥ ((x211.len : Nat) : Int))) (
        kE1 t0 t1 t2 t7 t9 t10 t11 h213) (
        sel ((Int.tmod (IntKind.wrap .i64 (t11 + (IntKind.wrap .i64 t2))) (5 : Int)) == (0 : Int)) (
          sel (decide (t10 < (99 : Int))) (
            a11 R t7 h213 fun x216 h217 =>
            sel (decide (((x216.len : Nat) : Int) > (0 : Int))) (
              kR false h217) (
              if 0 ≤ t12 ∧ t12 < ((t9.len : Nat) : Int) then (
                (t9.a).bind fun q218 =>
                ((h217).ldI .i64 q218.1 (q218.2 + Int.toNat t12 * 1)).bind fun x219 =>
                if 0 ≤ x219 ∧ x219 < ((x211.len : Nat) : Int) then (
                  (x211.a).bind fun q220 =>
                  ((h217).ldI .u32 q220.1 ((q220.2 + Int.toNat x219 * 4) + 0)).bind fun x221 =>
                  ((h217).ldB q220.1 ((q220.2 + Int.toNat x219 * 4) + 1)).bind fun x222 =>
                  ((h217).ldI .u8 q220.1 ((q220.2 + Int.toNat x219 * 4) + 2)).bind fun x223 =>
                  ((h217).ldSl q220.1 ((q220.2 + Int.toNat x219 * 4) + 3)).bind fun x224 =>
                  a13 R t7 x210 x221 x222 x223 x224 h217 fun x225 x226 x227 h228 =>
                  kN t0 t1 t2 t7 t9 (IntKind.wrap .i64 (t10 + (1 : Int))) t11 t12 x211 x212 x225 x226 x227 h228)
                else (
                  none))
              else (
                none))) (
            if 0 ≤ t12 ∧ t12 < ((t9.len : Nat) : Int) then (
              (t9.a).bind fun q229 =>
              ((h213).ldI .i64 q229.1 (q229.2 + Int.toNat t12 * 1)).bind fun x230 =>
              if 0 ≤ x230 ∧ x230 < ((x211.len : Nat) : Int) then (
                (x211.a).bind fun q231 =>
                ((h213).ldI .u32 q231.1 ((q231.2 + Int.toNat x230 * 4) + 0)).bind fun x232 =>
                ((h213).ldB q231.1 ((q231.2 + Int.toNat x230 * 4) + 1)).bind fun x233 =>
                ((h213).ldI .u8 q231.1 ((q231.2 + Int.toNat x230 * 4) + 2)).bind fun x234 =>
                ((h213).ldSl q231.1 ((q231.2 + Int.toNat x230 * 4) + 3)).bind fun x235 =>
                a13 R t7 x210 x232 x233 x234 x235 h213 fun x236 x237 x238 h239 =>
                kN t0 t1 t2 t7 t9 t10 t11 t12 x211 x212 x236 x237 x238 h239)
              else (
                none))
            else (
              none))) (
          if 0 ≤ t12 ∧ t12 < ((t9.len : Nat) : Int) then (
            (t9.a).bind fun q240 =>
            ((h213).ldI .i64 q240.1 (q240.2 + Int.toNat t12 * 1)).bind fun x241 =>
            if 0 ≤ x241 ∧ x241 < ((x211.len : Nat) : Int) then (
              (x211.a).bind fun q242 =>
              ((h213).ldI .u32 q242.1 ((q242.2 + Int.toNat x241 * 4) + 0)).bind fun x243 =>
              ((h213).ldB q242.1 ((q242.2 + Int.toNat x241 * 4) + 1)).bind fun x244 =>
              ((h213).ldI .u8 q242.1 ((q242.2 + Int.toNat x241 * 4) + 2)).bind fun x245 =>
              ((h213).ldSl q242.1 ((q242.2 + Int.toNat x241 * 4) + 3)).bind fun x246 =>
              a13 R t7 x210 x243 x244 x245 x246 h213 fun x247 x248 x249 h250 =>
              kN t0 t1 t2 t7 t9 t10 t11 t12 x211 x212 x247 x248 x249 h250)
            else (
              none))
          else (
            none))))
    else (
      none))
  else (
    none)
theorem g4_p6_eq (a9 : T9) (a10 : T10) (a12 : T12) (a11 : T11) (a13 : T13) (a14 : T14) {R : Type} (c2 : Code) (t0 : Sl) (t1 : Sl) (t2 : Int) (t7 : Option (Nat × Nat)) (t9 : Sl) (t10 : Int) (t11 : Int) (t12 : Int) (H : Heap) (K : Ex → Fr → Heap → Option R) : ev2 Try.prog (E4 a9 a10 a12 a11 a13 a14) loopLim lv4 Try.f4.ntmps kp4 (.seq (codeAt [1, 1, 1, 1, 1, 1, 0, 1, 0, 0, 1, 0, 0, 1, 1, 1, 0] b4) (.seq (codeAt [1, 1, 1, 1, 1, 1, 0, 1, 0, 0, 1, 0, 0, 1, 1, 1, 1, 0, 0] b4) (.seq (.cond (.tmp 115) (.exit 1) .skip) (.seq (codeAt [1, 1, 1, 1, 1, 1, 0, 1, 0, 0, 1, 0, 0, 1, 1, 1, 1, 1, 0, 0] b4) (.seq (.cond (.tmp 125) (.seq (codeAt [1, 1, 1, 1, 1, 1, 0, 1, 0, 0, 1, 0, 0, 1, 1, 1, 1, 1, 0, 1, 0, 0] b4) (.seq (codeAt [1, 1, 1, 1, 1, 1, 0, 1, 0, 0, 1, 0, 0, 1, 1, 1, 1, 1, 0, 1, 0, 1, 0] b4) (.cond (.tmp 131) (.seq (codeAt [1, 1, 1, 1, 1, 1, 0, 1, 0, 0, 1, 0, 0, 1, 1, 1, 1, 1, 0, 1, 0, 1, 1, 0, 0] b4) .ret) .skip))) .skip) (.seq (codeAt [1, 1, 1, 1, 1, 1, 0, 1, 0, 0, 1, 0, 0, 1, 1, 1, 1, 1, 1, 0] b4) c2)))))) [(0, (V.sl t0)), (1, (V.sl t1)), (2, (V.i .u8 t2)), (7, (V.p t7)), (9, (V.sl t9)), (10, (V.i .i64 t10)), (11, (V.i .i64 t11)), (12, (V.i .i64 t12))] H K = g4_p6 a9 a10 a12 a11 a13 a14 R t0 t1 t2 t7 t9 t10 t11 t12 H (fun t0 t1 t2 t7 t9 t10 t11 t12 t15 t16 t17 t18 t19 H => ev2 Try.prog (E4 a9 a10 a12 a11 a13 a14) loopLim lv4 Try.f4.ntmps kp4 c2 [(0, (V.sl t0)), (1, (V.sl t1)), (2, (V.i .u8 t2)), (7, (V.p t7)), (9, (V.sl t9)), (10, (V.i .i64 t10)), (11, (V.i .i64 t11)), (12, (V.i .i64 t12)), (15, (V.sl t15)), (16, (V.s t16)), (17, (V.sl t17)), (18, (V.b t18)), (19, (V.i .i64 t19))] H K) (fun t0 t1 t2 t7 t9 t10 t11 H => K (.exit 1) [(0, (V.sl t0)), (1, (V.sl t1)), (2, (V.i .u8 t2)), (7, (V.p t7)), (9, (V.sl t9)), (10, (V.i .i64 t10)), (11, (V.i .i64 t11))] H) (fun t6 H => K .ret [(6, (V.b t6))] H) := by kernel_rfl
theorem g4_p6_lin {a9 : T9} {a10 : T10} {a12 : T12} {a11 : T11} {a13 : T13} {a14 : T14} (la9 : Lin9 a9) (la10 : Lin10 a10) (la12 : Lin12 a12) (la11 : Lin11 a11) (la13 : Lin13 a13) (la14 : Lin14 a14) {R S : Type} {k : S → Option R} {t0 : Sl} {t1 : Sl} {t2 : Int} {t7 : Option (Nat × Nat)} {t9 : Sl} {t10 : Int} {t11 : Int} {t12 : Int} {H : Heap} {fkN : Sl → Sl → Int → Option (Nat × Nat) → Sl → Int → Int → Int → Sl → ByteArray → Sl → Bool → Int → Heap → Option R} {gkN : Sl → Sl → Int → Option (Nat × Nat) → Sl → Int → Int → Int → Sl → ByteArray → Sl → Bool → Int → Heap → Option S} {fkE1 : Sl → Sl → Int → Option (Nat × Nat) → Sl → Int → Int → Heap → Option R} {gkE1 : Sl → Sl → Int → Option (Nat × Nat) → Sl → Int → Int → Heap → Option S} {fkR : Bool → Heap → Option R} {gkR : Bool → Heap → Option S} (hkN : ∀ t0 t1 t2 t7 t9 t10 t11 t12 t15 t16 t17 t18 t19 H, fkN t0 t1 t2 t7 t9 t10 t11 t12 t15 t16 t17 t18 t19 H = (gkN t0 t1 t2 t7 t9 t10 t11 t12 t15 t16 t17 t18 t19 H).bind k) (hkE1 : ∀ t0 t1 t2 t7 t9 t10 t11 H, fkE1 t0 t1 t2 t7 t9 t10 t11 H = (gkE1 t0 t1 t2 t7 t9 t10 t11 H).bind k) (hkR : ∀ t6 H, fkR t6 H = (gkR t6 H).bind k) : g4_p6 a9 a10 a12 a11 a13 a14 R t0 t1 t2 t7 t9 t10 t11 t12 H fkN fkE1 fkR = (g4_p6 a9 a10 a12 a11 a13 a14 S t0 t1 t2 t7 t9 t10 t11 t12 H gkN gkE1 gkR).bind k := by
  delta g4_p6; exact (
    il (
      bl fun q205 =>
      bl fun x206 =>
      bl fun x207 =>
      bl fun x208 =>
      bl fun x209 =>
      la12.l fun x210 x211 x212 h213 =>
      il (
        bl fun q214 =>
        bl fun x215 =>
        sl_lin (
          hkE1 _ _ _ _ _ _ _ _) (
          sl_lin (
            sl_lin (
              la11.l fun x216 h217 =>
              sl_lin (
                hkR _ _) (
                il (
                  bl fun q218 =>
                  bl fun x219 =>
                  il (
                    bl fun q220 =>
                    bl fun x221 =>
                    bl fun x222 =>
                    bl fun x223 =>
                    bl fun x224 =>
                    la13.l fun x225 x226 x227 h228 =>
                    hkN _ _ _ _ _ _ _ _ _ _ _ _ _ _) (
                    rfl)) (
                  rfl))) (
              il (
                bl fun q229 =>
                bl fun x230 =>
                il (
                  bl fun q231 =>
                  bl fun x232 =>
                  bl fun x233 =>
                  bl fun x234 =>
                  bl fun x235 =>
                  la13.l fun x236 x237 x238 h239 =>
                  hkN _ _ _ _ _ _ _ _ _ _ _ _ _ _) (
                  rfl)) (
                rfl))) (
            il (
              bl fun q240 =>
              bl fun x241 =>
              il (
                bl fun q242 =>
                bl fun x243 =>
                bl fun x244 =>
                bl fun x245 =>
                bl fun x246 =>
                la13.l fun x247 x248 x249 h250 =>
                hkN _ _ _ _ _ _ _ _ _ _ _ _ _ _) (
                rfl)) (
              rfl)))) (
        rfl)) (
      rfl))
noncomputable def g4_p7 (a9 : T9) (a10 : T10) (a12 : T12) (a11 : T11) (a13 : T13) (a14 : T14) (R : Type) (t0 : Sl) (t1 : Sl) (t2 : Int) (t7 : Option (Nat × Nat)) (t9 : Sl) (t10 : Int) (t11 : Int) (t12 : Int) (t15 : Sl) (t16 : ByteArray) (t17 : Sl) (t18 : Bool) (t19 : Int) (H : Heap) (kN : Sl → Sl → Int → Option (Nat × Nat) → Sl → Int → Int → Heap → Option R) (kR : Bool → Heap → Option R) : Option R :=
  if 0 ≤ t12 ∧ t12 < ((t9.len : Nat) : Int) then (
    (t9.a).bind fun q251 =>
    ((H).ldI .i64 q251.1 (q251.2 + Int.toNat t12 * 1)).bind fun x252 =>
    if 0 ≤ t12 ∧ t12 < ((t9.len : Nat) : Int) then (
      (t9.a).bind fun q253 =>
      ((H).st q253.1 (q253.2 + Int.toNat t12 * 1) (V.i .i64 (IntKind.wrap .i64 (x252 + (1 : Int))))).bind fun h255 =>
      sel (t19 != (0 : Int)) (
        kR false h255) (
        if 0 ≤ t12 ∧ t12 < ((t9.len : Nat) : Int) then (
          (t9.a).bind fun q256 =>
          ((h255).ldI .i64 q256.1 (q256.2 + Int.toNat t12 * 1)).bind fun x257 =>
          sel (!(t18 == (x257 == ((t15.len : Nat) : Int)))) (
            kR false h255) (
            sel t18 (
              ((slBytes h255 t17)).bind fun x258 =>
              sel (!strEq x258 t16) (
                kR false h255) (
                sel (!t18) (
                  sel (decide (((t17.len : Nat) : Int) > (0 : Int))) (
                    kR false h255) (
                    sel t18 (
                      capK t17.cap fun c259 =>
                      sel (((c259 : Nat) : Int) != ((t17.len : Nat) : Int)) (
                        kR false h255) (
                        kN t0 t1 t2 t7 t9 t10 t11 h255)) (
                      kN t0 t1 t2 t7 t9 t10 t11 h255))) (
                  sel t18 (
                    capK t17.cap fun c260 =>
                    sel (((c260 : Nat) : Int) != ((t17.len : Nat) : Int)) (
                      kR false h255) (
                      kN t0 t1 t2 t7 t9 t10 t11 h255)) (
                    kN t0 t1 t2 t7 t9 t10 t11 h255)))) (
              sel (!t18) (
                sel (decide (((t17.len : Nat) : Int) > (0 : Int))) (
                  kR false h255) (
                  sel t18 (
                    capK t17.cap fun c261 =>
                    sel (((c261 : Nat) : Int) != ((t17.len : Nat) : Int)) (
                      kR false h255) (
                      kN t0 t1 t2 t7 t9 t10 t11 h255)) (
                    kN t0 t1 t2 t7 t9 t10 t11 h255))) (
                sel t18 (
                  capK t17.cap fun c262 =>
                  sel (((c262 : Nat) : Int) != ((t17.len : Nat) : Int)) (
                    kR false h255) (
                    kN t0 t1 t2 t7 t9 t10 t11 h255)) (
                  kN t0 t1 t2 t7 t9 t10 t11 h255)))))
        else (
          none)))
    else (
      none))
  else (
    none)
theorem g4_p7_eq (a9 : T9) (a10 : T10) (a12 : T12) (a11 : T11) (a13 : T13) (a14 : T14) (la9 : Lin9 a9) (la10 : Lin10 a10) (la12 : Lin12 a12) (la11 : Lin11 a11) (la13 : Lin13 a13) (la14 : Lin14 a14) {R : Type} (t0 : Sl) (t1 : Sl) (t2 : Int) (t7 : Option (Nat × Nat)) (t9 : Sl) (t10 : Int) (t11 : Int) (t12 : Int) (t15 : Sl) (t16 : ByteArray) (t17 : Sl) (t18 : Bool) (t19 : Int) (H : Heap) (K : Ex → Fr → Heap → Option R) : ev2 Try.prog (E4 a9 a10 a12 a11 a13 a14) loopLim lv4 Try.f4.ntmps kp4 c4_3 [(0, (V.sl t0)), (1, (V.sl t1)), (2, (V.i .u8 t2)), (7, (V.p t7)), (9, (V.sl t9)), (10, (V.i .i64 t10)), (11, (V.i .i64 t11)), (12, (V.i .i64 t12)), (15, (V.sl t15)), (16, (V.s t16)), (17, (V.sl t17)), (18, (V.b t18)), (19, (V.i .i64 t19))] H K = g4_p7 a9 a10 a12 a11 a13 a14 R t0 t1 t2 t7 t9 t10 t11 t12 t15 t16 t17 t18 t19 H (fun t0 t1 t2 t7 t9 t10 t11 H => K .normal [(0, (V.sl t0)), (1, (V.sl t1)), (2, (V.i .u8 t2)), (7, (V.p t7)), (9, (V.sl t9)), (10, (V.i .i64 t10)), (11, (V.i .i64 t11))] H) (fun t6 H => K .ret [(6, (V.b t6))] H) := by kernel_rfl
theorem g4_p7_lin {a9 : T9} {a10 : T10} {a12 : T12} {a11 : T11} {a13 : T13} {a14 : T14} (la9 : Lin9 a9) (la10 : Lin10 a10) (la12 : Lin12 a12) (la11 : Lin11 a11) (la13 : Lin13 a13) (la14 : Lin14 a14) {R S : Type} {k : S → Option R} {t0 : Sl} {t1 : Sl} {t2 : Int} {t7 : Option (Nat × Nat)} {t9 : Sl} {t10 : Int} {t11 : Int} {t12 : Int} {t15 : Sl} {t16 : ByteArray} {t17 : Sl} {t18 : Bool} {t19 : Int} {H : Heap} {fkN : Sl → Sl → Int → Option (Nat × Nat) → Sl → Int → Int → Heap → Option R} {gkN : Sl → Sl → Int → Option (Nat × Nat) → Sl → Int → Int → Heap → Option S} {fkR : Bool → Heap → Option R} {gkR : Bool → Heap → Option S} (hkN : ∀ t0 t1 t2 t7 t9 t10 t11 H, fkN t0 t1 t2 t7 t9 t10 t11 H = (gkN t0 t1 t2 t7 t9 t10 t11 H).bind k) (hkR : ∀ t6 H, fkR t6 H = (gkR t6 H).bind k) : g4_p7 a9 a10 a12 a11 a13 a14 R t0 t1 t2 t7 t9 t10 t11 t12 t15 t16 t17 t18 t19 H fkN fkR = (g4_p7 a9 a10 a12 a11 a13 a14 S t0 t1 t2 t7 t9 t10 t11 t12 t15 t16 t17 t18 t19 H gkN gkR).bind k := by
  delta g4_p7; exact (
    il (
      bl fun q251 =>
      bl fun x252 =>
      il (
        bl fun q253 =>
        bl fun h255 =>
        sl_lin (
          hkR _ _) (
          il (
            bl fun q256 =>
            bl fun x257 =>
            sl_lin (
              hkR _ _) (
              sl_lin (
                bl fun x258 =>
                sl_lin (
                  hkR _ _) (
                  sl_lin (
                    sl_lin (
                      hkR _ _) (
                      sl_lin (
                        capK_lin fun c259 =>
                        sl_lin (
                          hkR _ _) (
                          hkN _ _ _ _ _ _ _ _)) (
                        hkN _ _ _ _ _ _ _ _))) (
                    sl_lin (
                      capK_lin fun c260 =>
                      sl_lin (
                        hkR _ _) (
                        hkN _ _ _ _ _ _ _ _)) (
                      hkN _ _ _ _ _ _ _ _)))) (
                sl_lin (
                  sl_lin (
                    hkR _ _) (
                    sl_lin (
                      capK_lin fun c261 =>
                      sl_lin (
                        hkR _ _) (
                        hkN _ _ _ _ _ _ _ _)) (
                      hkN _ _ _ _ _ _ _ _))) (
                  sl_lin (
                    capK_lin fun c262 =>
                    sl_lin (
                      hkR _ _) (
                      hkN _ _ _ _ _ _ _ _)) (
                    hkN _ _ _ _ _ _ _ _))))) (
            rfl))) (
        rfl)) (
      rfl))
noncomputable def g4_p8 (a9 : T9) (a10 : T10) (a12 : T12) (a11 : T11) (a13 : T13) (a14 : T14) (R : Type) (t0 : Sl) (t1 : Sl) (t2 : Int) (t7 : Option (Nat × Nat)) (t9 : Sl) (t10 : Int) (t11 : Int) (t12 : Int) (H : Heap) (kN : Sl → Sl → Int → Option (Nat × Nat) → Sl → Int → Int → Heap → Option R) (kE1 : Sl → Sl → Int → Option (Nat × Nat) → Sl → Int → Int → Heap → Option R) (kR : Bool → Heap → Option R) : Option R :=
  g4_p6 a9 a10 a12 a11 a13 a14 R t0 t1 t2 t7 t9 t10 t11 t12 H (fun t0 t1 t2 t7 t9 t10 t11 t12 t15 t16 t17 t18 t19 H => g4_p7 a9 a10 a12 a11 a13 a14 R t0 t1 t2 t7 t9 t10 t11 t12 t15 t16 t17 t18 t19 H (fun t0 t1 t2 t7 t9 t10 t11 H => kN t0 t1 t2 t7 t9 t10 t11 H) (fun t6 H => kR t6 H)) (fun t0 t1 t2 t7 t9 t10 t11 H => kE1 t0 t1 t2 t7 t9 t10 t11 H) (fun t6 H => kR t6 H)
theorem g4_p8_lin {a9 : T9} {a10 : T10} {a12 : T12} {a11 : T11} {a13 : T13} {a14 : T14} (la9 : Lin9 a9) (la10 : Lin10 a10) (la12 : Lin12 a12) (la11 : Lin11 a11) (la13 : Lin13 a13) (la14 : Lin14 a14) {R S : Type} {k : S → Option R} {t0 : Sl} {t1 : Sl} {t2 : Int} {t7 : Option (Nat × Nat)} {t9 : Sl} {t10 : Int} {t11 : Int} {t12 : Int} {H : Heap} {fkN : Sl → Sl → Int → Option (Nat × Nat) → Sl → Int → Int → Heap → Option R} {gkN : Sl → Sl → Int → Option (Nat × Nat) → Sl → Int → Int → Heap → Option S} {fkE1 : Sl → Sl → Int → Option (Nat × Nat) → Sl → Int → Int → Heap → Option R} {gkE1 : Sl → Sl → Int → Option (Nat × Nat) → Sl → Int → Int → Heap → Option S} {fkR : Bool → Heap → Option R} {gkR : Bool → Heap → Option S} (hkN : ∀ t0 t1 t2 t7 t9 t10 t11 H, fkN t0 t1 t2 t7 t9 t10 t11 H = (gkN t0 t1 t2 t7 t9 t10 t11 H).bind k) (hkE1 : ∀ t0 t1 t2 t7 t9 t10 t11 H, fkE1 t0 t1 t2 t7 t9 t10 t11 H = (gkE1 t0 t1 t2 t7 t9 t10 t11 H).bind k) (hkR : ∀ t6 H, fkR t6 H = (gkR t6 H).bind k) : g4_p8 a9 a10 a12 a11 a13 a14 R t0 t1 t2 t7 t9 t10 t11 t12 H fkN fkE1 fkR = (g4_p8 a9 a10 a12 a11 a13 a14 S t0 t1 t2 t7 t9 t10 t11 t12 H gkN gkE1 gkR).bind k := by
  exact g4_p6_lin la9 la10 la12 la11 la13 la14 (fun _ _ _ _ _ _ _ _ _ _ _ _ _ _ => g4_p7_lin la9 la10 la12 la11 la13 la14 (fun _ _ _ _ _ _ _ _ => hkN _ _ _ _ _ _ _ _) (fun _ _ => hkR _ _)) (fun _ _ _ _ _ _ _ _ => hkE1 _ _ _ _ _ _ _ _) (fun _ _ => hkR _ _)
theorem g4_p8_eq (a9 : T9) (a10 : T10) (a12 : T12) (a11 : T11) (a13 : T13) (a14 : T14) (la9 : Lin9 a9) (la10 : Lin10 a10) (la12 : Lin12 a12) (la11 : Lin11 a11) (la13 : Lin13 a13) (la14 : Lin14 a14) {R : Type} (t0 : Sl) (t1 : Sl) (t2 : Int) (t7 : Option (Nat × Nat)) (t9 : Sl) (t10 : Int) (t11 : Int) (t12 : Int) (H : Heap) (K : Ex → Fr → Heap → Option R) : ev2 Try.prog (E4 a9 a10 a12 a11 a13 a14) loopLim lv4 Try.f4.ntmps kp4 c4_4 [(0, (V.sl t0)), (1, (V.sl t1)), (2, (V.i .u8 t2)), (7, (V.p t7)), (9, (V.sl t9)), (10, (V.i .i64 t10)), (11, (V.i .i64 t11)), (12, (V.i .i64 t12))] H K = g4_p8 a9 a10 a12 a11 a13 a14 R t0 t1 t2 t7 t9 t10 t11 t12 H (fun t0 t1 t2 t7 t9 t10 t11 H => K .normal [(0, (V.sl t0)), (1, (V.sl t1)), (2, (V.i .u8 t2)), (7, (V.p t7)), (9, (V.sl t9)), (10, (V.i .i64 t10)), (11, (V.i .i64 t11))] H) (fun t0 t1 t2 t7 t9 t10 t11 H => K (.exit 1) [(0, (V.sl t0)), (1, (V.sl t1)), (2, (V.i .u8 t2)), (7, (V.p t7)), (9, (V.sl t9)), (10, (V.i .i64 t10)), (11, (V.i .i64 t11))] H) (fun t6 H => K .ret [(6, (V.b t6))] H) := by
  show ev2 Try.prog (E4 a9 a10 a12 a11 a13 a14) loopLim lv4 Try.f4.ntmps kp4 (.seq (codeAt [1, 1, 1, 1, 1, 1, 0, 1, 0, 0, 1, 0, 0, 1, 1, 1, 0] b4) (.seq (codeAt [1, 1, 1, 1, 1, 1, 0, 1, 0, 0, 1, 0, 0, 1, 1, 1, 1, 0, 0] b4) (.seq (.cond (.tmp 115) (.exit 1) .skip) (.seq (codeAt [1, 1, 1, 1, 1, 1, 0, 1, 0, 0, 1, 0, 0, 1, 1, 1, 1, 1, 0, 0] b4) (.seq (.cond (.tmp 125) (.seq (codeAt [1, 1, 1, 1, 1, 1, 0, 1, 0, 0, 1, 0, 0, 1, 1, 1, 1, 1, 0, 1, 0, 0] b4) (.seq (codeAt [1, 1, 1, 1, 1, 1, 0, 1, 0, 0, 1, 0, 0, 1, 1, 1, 1, 1, 0, 1, 0, 1, 0] b4) (.cond (.tmp 131) (.seq (codeAt [1, 1, 1, 1, 1, 1, 0, 1, 0, 0, 1, 0, 0, 1, 1, 1, 1, 1, 0, 1, 0, 1, 1, 0, 0] b4) .ret) .skip))) .skip) (.seq (codeAt [1, 1, 1, 1, 1, 1, 0, 1, 0, 0, 1, 0, 0, 1, 1, 1, 1, 1, 1, 0] b4) c4_3)))))) [(0, (V.sl t0)), (1, (V.sl t1)), (2, (V.i .u8 t2)), (7, (V.p t7)), (9, (V.sl t9)), (10, (V.i .i64 t10)), (11, (V.i .i64 t11)), (12, (V.i .i64 t12))] H K = _
  delta g4_p8
  exact (g4_p6_eq a9 a10 a12 a11 a13 a14 _ t0 t1 t2 t7 t9 t10 t11 t12 H K).trans (congr (congr (congrArg (g4_p6 a9 a10 a12 a11 a13 a14 R t0 t1 t2 t7 t9 t10 t11 t12 H) (funext fun t0 => funext fun t1 => funext fun t2 => funext fun t7 => funext fun t9 => funext fun t10 => funext fun t11 => funext fun t12 => funext fun t15 => funext fun t16 => funext fun t17 => funext fun t18 => funext fun t19 => funext fun H => g4_p7_eq a9 a10 a12 a11 a13 a14 la9 la10 la12 la11 la13 la14 t0 t1 t2 t7 t9 t10 t11 t12 t15 t16 t17 t18 t19 H K)) rfl) rfl)
noncomputable def g4_p9 (a9 : T9) (a10 : T10) (a12 : T12) (a11 : T11) (a13 : T13) (a14 : T14) (R : Type) (t0 : Sl) (t1 : Sl) (t2 : Int) (t7 : Option (Nat × Nat)) (t9 : Sl) (t10 : Int) (t11 : Int) (t12 : Int) (t13 : Int) (H : Heap) (kN : Sl → Sl → Int → Option (Nat × Nat) → Sl → Int → Int → Heap → Option R) (kE1 : Sl → Sl → Int → Option (Nat × Nat) → Sl → Int → Int → Heap → Option R) (kR : Bool → Heap → Option R) : Option R :=
  g4_p5 a9 a10 a12 a11 a13 a14 R t0 t1 t2 t7 t9 t10 t11 t12 t13 H (fun t0 t1 t2 t7 t9 t10 t11 t12 H => g4_p8 a9 a10 a12 a11 a13 a14 R t0 t1 t2 t7 t9 t10 t11 t12 H (fun t0 t1 t2 t7 t9 t10 t11 H => kN t0 t1 t2 t7 t9 t10 t11 H) (fun t0 t1 t2 t7 t9 t10 t11 H => kE1 t0 t1 t2 t7 t9 t10 t11 H) (fun t6 H => kR t6 H))
theorem g4_p9_lin {a9 : T9} {a10 : T10} {a12 : T12} {a11 : T11} {a13 : T13} {a14 : T14} (la9 : Lin9 a9) (la10 : Lin10 a10) (la12 : Lin12 a12) (la11 : Lin11 a11) (la13 : Lin13 a13) (la14 : Lin14 a14) {R S : Type} {k : S → Option R} {t0 : Sl} {t1 : Sl} {t2 : Int} {t7 : Option (Nat × Nat)} {t9 : Sl} {t10 : Int} {t11 : Int} {t12 : Int} {t13 : Int} {H : Heap} {fkN : Sl → Sl → Int → Option (Nat × Nat) → Sl → Int → Int → Heap → Option R} {gkN : Sl → Sl → Int → Option (Nat × Nat) → Sl → Int → Int → Heap → Option S} {fkE1 : Sl → Sl → Int → Option (Nat × Nat) → Sl → Int → Int → Heap → Option R} {gkE1 : Sl → Sl → Int → Option (Nat × Nat) → Sl → Int → Int → Heap → Option S} {fkR : Bool → Heap → Option R} {gkR : Bool → Heap → Option S} (hkN : ∀ t0 t1 t2 t7 t9 t10 t11 H, fkN t0 t1 t2 t7 t9 t10 t11 H = (gkN t0 t1 t2 t7 t9 t10 t11 H).bind k) (hkE1 : ∀ t0 t1 t2 t7 t9 t10 t11 H, fkE1 t0 t1 t2 t7 t9 t10 t11 H = (gkE1 t0 t1 t2 t7 t9 t10 t11 H).bind k) (hkR : ∀ t6 H, fkR t6 H = (gkR t6 H).bind k) : g4_p9 a9 a10 a12 a11 a13 a14 R t0 t1 t2 t7 t9 t10 t11 t12 t13 H fkN fkE1 fkR = (g4_p9 a9 a10 a12 a11 a13 a14 S t0 t1 t2 t7 t9 t10 t11 t12 t13 H gkN gkE1 gkR).bind k := by
  exact g4_p5_lin la9 la10 la12 la11 la13 la14 (fun _ _ _ _ _ _ _ _ _ => g4_p8_lin la9 la10 la12 la11 la13 la14 (fun _ _ _ _ _ _ _ _ => hkN _ _ _ _ _ _ _ _) (fun _ _ _ _ _ _ _ _ => hkE1 _ _ _ _ _ _ _ _) (fun _ _ => hkR _ _))
theorem g4_p9_eq (a9 : T9) (a10 : T10) (a12 : T12) (a11 : T11) (a13 : T13) (a14 : T14) (la9 : Lin9 a9) (la10 : Lin10 a10) (la12 : Lin12 a12) (la11 : Lin11 a11) (la13 : Lin13 a13) (la14 : Lin14 a14) {R : Type} (t0 : Sl) (t1 : Sl) (t2 : Int) (t7 : Option (Nat × Nat)) (t9 : Sl) (t10 : Int) (t11 : Int) (t12 : Int) (t13 : Int) (H : Heap) (K : Ex → Fr → Heap → Option R) : ev2 Try.prog (E4 a9 a10 a12 a11 a13 a14) loopLim lv4 Try.f4.ntmps kp4 c4_5 [(0, (V.sl t0)), (1, (V.sl t1)), (2, (V.i .u8 t2)), (7, (V.p t7)), (9, (V.sl t9)), (10, (V.i .i64 t10)), (11, (V.i .i64 t11)), (12, (V.i .i64 t12)), (13, (V.i .i64 t13))] H K = g4_p9 a9 a10 a12 a11 a13 a14 R t0 t1 t2 t7 t9 t10 t11 t12 t13 H (fun t0 t1 t2 t7 t9 t10 t11 H => K .normal [(0, (V.sl t0)), (1, (V.sl t1)), (2, (V.i .u8 t2)), (7, (V.p t7)), (9, (V.sl t9)), (10, (V.i .i64 t10)), (11, (V.i .i64 t11))] H) (fun t0 t1 t2 t7 t9 t10 t11 H => K (.exit 1) [(0, (V.sl t0)), (1, (V.sl t1)), (2, (V.i .u8 t2)), (7, (V.p t7)), (9, (V.sl t9)), (10, (V.i .i64 t10)), (11, (V.i .i64 t11))] H) (fun t6 H => K .ret [(6, (V.b t6))] H) := by
  show ev2 Try.prog (E4 a9 a10 a12 a11 a13 a14) loopLim lv4 Try.f4.ntmps kp4 (.seq c4_2 c4_4) [(0, (V.sl t0)), (1, (V.sl t1)), (2, (V.i .u8 t2)), (7, (V.p t7)), (9, (V.sl t9)), (10, (V.i .i64 t10)), (11, (V.i .i64 t11)), (12, (V.i .i64 t12)), (13, (V.i .i64 t13))] H K = _
  rw [ev2_seq]
  delta g4_p9
  exact (g4_p5_eq a9 a10 a12 a11 a13 a14 la9 la10 la12 la11 la13 la14 t0 t1 t2 t7 t9 t10 t11 t12 t13 H (kSeq (fun fr H => ev2 Try.prog (E4 a9 a10 a12 a11 a13 a14) loopLim lv4 Try.f4.ntmps kp4 c4_4 fr H K) K)).trans (congrArg (g4_p5 a9 a10 a12 a11 a13 a14 R t0 t1 t2 t7 t9 t10 t11 t12 t13 H) (funext fun t0 => funext fun t1 => funext fun t2 => funext fun t7 => funext fun t9 => funext fun t10 => funext fun t11 => funext fun t12 => funext fun H => (kSeq_n _ _ _ _).trans (g4_p8_eq a9 a10 a12 a11 a13 a14 la9 la10 la12 la11 la13 la14 t0 t1 t2 t7 t9 t10 t11 t12 H K)))
noncomputable def g4_p10 (a9 : T9) (a10 : T10) (a12 : T12) (a11 : T11) (a13 : T13) (a14 : T14) (R : Type) (t0 : Sl) (t1 : Sl) (t2 : Int) (t7 : Option (Nat × Nat)) (t9 : Sl) (t10 : Int) (t11 : Int) (H : Heap) (kN : Sl → Sl → Int → Option (Nat × Nat) → Sl → Int → Int → Heap → Option R) (kE1 : Sl → Sl → Int → Option (Nat × Nat) → Sl → Int → Int → Heap → Option R) (kR : Bool → Heap → Option R) : Option R :=
  g4_p2 a9 a10 a12 a11 a13 a14 R t0 t1 t2 t7 t9 t10 t11 H (fun t0 t1 t2 t7 t9 t10 t11 t12 t13 H => g4_p9 a9 a10 a12 a11 a13 a14 R t0 t1 t2 t7 t9 t10 t11 t12 t13 H (fun t0 t1 t2 t7 t9 t10 t11 H => kN t0 t1 t2 t7 t9 t10 t11 H) (fun t0 t1 t2 t7 t9 t10 t11 H => kE1 t0 t1 t2 t7 t9 t10 t11 H) (fun t6 H => kR t6 H))
theorem g4_p10_lin {a9 : T9} {a10 : T10} {a12 : T12} {a11 : T11} {a13 : T13} {a14 : T14} (la9 : Lin9 a9) (la10 : Lin10 a10) (la12 : Lin12 a12) (la11 : Lin11 a11) (la13 : Lin13 a13) (la14 : Lin14 a14) {R S : Type} {k : S → Option R} {t0 : Sl} {t1 : Sl} {t2 : Int} {t7 : Option (Nat × Nat)} {t9 : Sl} {t10 : Int} {t11 : Int} {H : Heap} {fkN : Sl → Sl → Int → Option (Nat × Nat) → Sl → Int → Int → Heap → Option R} {gkN : Sl → Sl → Int → Option (Nat × Nat) → Sl → Int → Int → Heap → Option S} {fkE1 : Sl → Sl → Int → Option (Nat × Nat) → Sl → Int → Int → Heap → Option R} {gkE1 : Sl → Sl → Int → Option (Nat × Nat) → Sl → Int → Int → Heap → Option S} {fkR : Bool → Heap → Option R} {gkR : Bool → Heap → Option S} (hkN : ∀ t0 t1 t2 t7 t9 t10 t11 H, fkN t0 t1 t2 t7 t9 t10 t11 H = (gkN t0 t1 t2 t7 t9 t10 t11 H).bind k) (hkE1 : ∀ t0 t1 t2 t7 t9 t10 t11 H, fkE1 t0 t1 t2 t7 t9 t10 t11 H = (gkE1 t0 t1 t2 t7 t9 t10 t11 H).bind k) (hkR : ∀ t6 H, fkR t6 H = (gkR t6 H).bind k) : g4_p10 a9 a10 a12 a11 a13 a14 R t0 t1 t2 t7 t9 t10 t11 H fkN fkE1 fkR = (g4_p10 a9 a10 a12 a11 a13 a14 S t0 t1 t2 t7 t9 t10 t11 H gkN gkE1 gkR).bind k := by
  exact g4_p2_lin la9 la10 la12 la11 la13 la14 (fun _ _ _ _ _ _ _ _ _ _ => g4_p9_lin la9 la10 la12 la11 la13 la14 (fun _ _ _ _ _ _ _ _ => hkN _ _ _ _ _ _ _ _) (fun _ _ _ _ _ _ _ _ => hkE1 _ _ _ _ _ _ _ _) (fun _ _ => hkR _ _))
theorem g4_p10_eq (a9 : T9) (a10 : T10) (a12 : T12) (a11 : T11) (a13 : T13) (a14 : T14) (la9 : Lin9 a9) (la10 : Lin10 a10) (la12 : Lin12 a12) (la11 : Lin11 a11) (la13 : Lin13 a13) (la14 : Lin14 a14) {R : Type} (t0 : Sl) (t1 : Sl) (t2 : Int) (t7 : Option (Nat × Nat)) (t9 : Sl) (t10 : Int) (t11 : Int) (H : Heap) (K : Ex → Fr → Heap → Option R) : ev2 Try.prog (E4 a9 a10 a12 a11 a13 a14) loopLim lv4 Try.f4.ntmps kp4 c4_6 [(0, (V.sl t0)), (1, (V.sl t1)), (2, (V.i .u8 t2)), (7, (V.p t7)), (9, (V.sl t9)), (10, (V.i .i64 t10)), (11, (V.i .i64 t11))] H K = g4_p10 a9 a10 a12 a11 a13 a14 R t0 t1 t2 t7 t9 t10 t11 H (fun t0 t1 t2 t7 t9 t10 t11 H => K .normal [(0, (V.sl t0)), (1, (V.sl t1)), (2, (V.i .u8 t2)), (7, (V.p t7)), (9, (V.sl t9)), (10, (V.i .i64 t10)), (11, (V.i .i64 t11))] H) (fun t0 t1 t2 t7 t9 t10 t11 H => K (.exit 1) [(0, (V.sl t0)), (1, (V.sl t1)), (2, (V.i .u8 t2)), (7, (V.p t7)), (9, (V.sl t9)), (10, (V.i .i64 t10)), (11, (V.i .i64 t11))] H) (fun t6 H => K .ret [(6, (V.b t6))] H) := by
  show ev2 Try.prog (E4 a9 a10 a12 a11 a13 a14) loopLim lv4 Try.f4.ntmps kp4 (.seq (codeAt [1, 1, 1, 1, 1, 1, 0, 1, 0, 0, 1, 0, 0, 0] b4) (.seq (codeAt [1, 1, 1, 1, 1, 1, 0, 1, 0, 0, 1, 0, 0, 1, 0, 0] b4) (.seq (.cond (.tmp 57) (codeAt [1, 1, 1, 1, 1, 1, 0, 1, 0, 0, 1, 0, 0, 1, 0, 1, 0] b4) .skip) (.seq (codeAt [1, 1, 1, 1, 1, 1, 0, 1, 0, 0, 1, 0, 0, 1, 1, 0, 0] b4) c4_5)))) [(0, (V.sl t0)), (1, (V.sl t1)), (2, (V.i .u8 t2)), (7, (V.p t7)), (9, (V.sl t9)), (10, (V.i .i64 t10)), (11, (V.i .i64 t11))] H K = _
  delta g4_p10
  exact (g4_p2_eq a9 a10 a12 a11 a13 a14 _ t0 t1 t2 t7 t9 t10 t11 H K).trans (congrArg (g4_p2 a9 a10 a12 a11 a13 a14 R t0 t1 t2 t7 t9 t10 t11 H) (funext fun t0 => funext fun t1 => funext fun t2 => funext fun t7 => funext fun t9 => funext fun t10 => funext fun t11 => funext fun t12 => funext fun t13 => funext fun H => g4_p9_eq a9 a10 a12 a11 a13 a14 la9 la10 la12 la11 la13 la14 t0 t1 t2 t7 t9 t10 t11 t12 t13 H K))
noncomputable def g4_p11 (a9 : T9) (a10 : T10) (a12 : T12) (a11 : T11) (a13 : T13) (a14 : T14) (R : Type) (t0 : Sl) (t1 : Sl) (t2 : Int) (t7 : Option (Nat × Nat)) (t9 : Sl) (t10 : Int) (t11 : Int) (H : Heap) (kN : Sl → Sl → Int → Option (Nat × Nat) → Sl → Int → Int → Heap → Option R) (kR : Bool → Heap → Option R) : Option R :=
  g4_p10 a9 a10 a12 a11 a13 a14 R t0 t1 t2 t7 t9 t10 t11 H (fun t0 t1 t2 t7 t9 t10 t11 H => kN t0 t1 t2 t7 t9 t10 t11 H) (fun t0 t1 t2 t7 t9 t10 t11 H => kN t0 t1 t2 t7 t9 t10 t11 H) (fun t6 H => kR t6 H)
theorem g4_p11_lin {a9 : T9} {a10 : T10} {a12 : T12} {a11 : T11} {a13 : T13} {a14 : T14} (la9 : Lin9 a9) (la10 : Lin10 a10) (la12 : Lin12 a12) (la11 : Lin11 a11) (la13 : Lin13 a13) (la14 : Lin14 a14) {R S : Type} {k : S → Option R} {t0 : Sl} {t1 : Sl} {t2 : Int} {t7 : Option (Nat × Nat)} {t9 : Sl} {t10 : Int} {t11 : Int} {H : Heap} {fkN : Sl → Sl → Int → Option (Nat × Nat) → Sl → Int → Int → Heap → Option R} {gkN : Sl → Sl → Int → Option (Nat × Nat) → Sl → Int → Int → Heap → Option S} {fkR : Bool → Heap → Option R} {gkR : Bool → Heap → Option S} (hkN : ∀ t0 t1 t2 t7 t9 t10 t11 H, fkN t0 t1 t2 t7 t9 t10 t11 H = (gkN t0 t1 t2 t7 t9 t10 t11 H).bind k) (hkR : ∀ t6 H, fkR t6 H = (gkR t6 H).bind k) : g4_p11 a9 a10 a12 a11 a13 a14 R t0 t1 t2 t7 t9 t10 t11 H fkN fkR = (g4_p11 a9 a10 a12 a11 a13 a14 S t0 t1 t2 t7 t9 t10 t11 H gkN gkR).bind k := by
  exact g4_p10_lin la9 la10 la12 la11 la13 la14 (fun _ _ _ _ _ _ _ _ => hkN _ _ _ _ _ _ _ _) (fun _ _ _ _ _ _ _ _ => hkN _ _ _ _ _ _ _ _) (fun _ _ => hkR _ _)
theorem g4_p11_eq (a9 : T9) (a10 : T10) (a12 : T12) (a11 : T11) (a13 : T13) (a14 : T14) (la9 : Lin9 a9) (la10 : Lin10 a10) (la12 : Lin12 a12) (la11 : Lin11 a11) (la13 : Lin13 a13) (la14 : Lin14 a14) {R : Type} (t0 : Sl) (t1 : Sl) (t2 : Int) (t7 : Option (Nat × Nat)) (t9 : Sl) (t10 : Int) (t11 : Int) (H : Heap) (K : Ex → Fr → Heap → Option R) : ev2 Try.prog (E4 a9 a10 a12 a11 a13 a14) loopLim lv4 Try.f4.ntmps kp4 c4_7 [(0, (V.sl t0)), (1, (V.sl t1)), (2, (V.i .u8 t2)), (7, (V.p t7)), (9, (V.sl t9)), (10, (V.i .i64 t10)), (11, (V.i .i64 t11))] H K = g4_p11 a9 a10 a12 a11 a13 a14 R t0 t1 t2 t7 t9 t10 t11 H (fun t0 t1 t2 t7 t9 t10 t11 H => K .normal [(0, (V.sl t0)), (1, (V.sl t1)), (2, (V.i .u8 t2)), (7, (V.p t7)), (9, (V.sl t9)), (10, (V.i .i64 t10)), (11, (V.i .i64 t11))] H) (fun t6 H => K .ret [(6, (V.b t6))] H) := by
  show ev2 Try.prog (E4 a9 a10 a12 a11 a13 a14) loopLim lv4 Try.f4.ntmps kp4 (.block 1 c4_6) [(0, (V.sl t0)), (1, (V.sl t1)), (2, (V.i .u8 t2)), (7, (V.p t7)), (9, (V.sl t9)), (10, (V.i .i64 t10)), (11, (V.i .i64 t11))] H K = _
  rw [ev2_block]
  delta g4_p11
  exact (g4_p10_eq a9 a10 a12 a11 a13 a14 la9 la10 la12 la11 la13 la14 t0 t1 t2 t7 t9 t10 t11 H (kBlock kp4 1 K))
noncomputable def g4_p12 (a9 : T9) (a10 : T10) (a12 : T12) (a11 : T11) (a13 : T13) (a14 : T14) (R : Type) (t0 : Sl) (t1 : Sl) (t2 : Int) (t7 : Option (Nat × Nat)) (t9 : Sl) (t10 : Int) (t11 : Int) (H : Heap) (kN : Sl → Sl → Int → Option (Nat × Nat) → Sl → Int → Int → Heap → Option R) : Option R :=
  kN t0 t1 t2 t7 t9 t10 (IntKind.wrap .i64 (t11 + (1 : Int))) H
theorem g4_p12_eq (a9 : T9) (a10 : T10) (a12 : T12) (a11 : T11) (a13 : T13) (a14 : T14) (la9 : Lin9 a9) (la10 : Lin10 a10) (la12 : Lin12 a12) (la11 : Lin11 a11) (la13 : Lin13 a13) (la14 : Lin14 a14) {R : Type} (t0 : Sl) (t1 : Sl) (t2 : Int) (t7 : Option (Nat × Nat)) (t9 : Sl) (t10 : Int) (t11 : Int) (H : Heap) (K : Ex → Fr → Heap → Option R) : ev2 Try.prog (E4 a9 a10 a12 a11 a13 a14) loopLim lv4 Try.f4.ntmps kp4 c4_8 [(0, (V.sl t0)), (1, (V.sl t1)), (2, (V.i .u8 t2)), (7, (V.p t7)), (9, (V.sl t9)), (10, (V.i .i64 t10)), (11, (V.i .i64 t11))] H K = g4_p12 a9 a10 a12 a11 a13 a14 R t0 t1 t2 t7 t9 t10 t11 H (fun t0 t1 t2 t7 t9 t10 t11 H => K .normal [(0, (V.sl t0)), (1, (V.sl t1)), (2, (V.i .u8 t2)), (7, (V.p t7)), (9, (V.sl t9)), (10, (V.i .i64 t10)), (11, (V.i .i64 t11))] H) := by kernel_rfl
theorem g4_p12_lin {a9 : T9} {a10 : T10} {a12 : T12} {a11 : T11} {a13 : T13} {a14 : T14} (la9 : Lin9 a9) (la10 : Lin10 a10) (la12 : Lin12 a12) (la11 : Lin11 a11) (la13 : Lin13 a13) (la14 : Lin14 a14) {R S : Type} {k : S → Option R} {t0 : Sl} {t1 : Sl} {t2 : Int} {t7 : Option (Nat × Nat)} {t9 : Sl} {t10 : Int} {t11 : Int} {H : Heap} {fkN : Sl → Sl → Int → Option (Nat × Nat) → Sl → Int → Int → Heap → Option R} {gkN : Sl → Sl → Int → Option (Nat × Nat) → Sl → Int → Int → Heap → Option S} (hkN : ∀ t0 t1 t2 t7 t9 t10 t11 H, fkN t0 t1 t2 t7 t9 t10 t11 H = (gkN t0 t1 t2 t7 t9 t10 t11 H).bind k) : g4_p12 a9 a10 a12 a11 a13 a14 R t0 t1 t2 t7 t9 t10 t11 H fkN = (g4_p12 a9 a10 a12 a11 a13 a14 S t0 t1 t2 t7 t9 t10 t11 H gkN).bind k := by
  delta g4_p12; exact (
    hkN _ _ _ _ _ _ _ _)
noncomputable def g4_p13 (a9 : T9) (a10 : T10) (a12 : T12) (a11 : T11) (a13 : T13) (a14 : T14) (R : Type) (t0 : Sl) (t1 : Sl) (t2 : Int) (t7 : Option (Nat × Nat)) (t9 : Sl) (t10 : Int) (t11 : Int) (H : Heap) (kN : Sl → Sl → Int → Option (Nat × Nat) → Sl → Int → Int → Heap → Option R) (kR : Bool → Heap → Option R) : Option R :=
  g4_p11 a9 a10 a12 a11 a13 a14 R t0 t1 t2 t7 t9 t10 t11 H (fun t0 t1 t2 t7 t9 t10 t11 H => g4_p12 a9 a10 a12 a11 a13 a14 R t0 t1 t2 t7 t9 t10 t11 H (fun t0 t1 t2 t7 t9 t10 t11 H => kN t0 t1 t2 t7 t9 t10 t11 H)) (fun t6 H => kR t6 H)
theorem g4_p13_lin {a9 : T9} {a10 : T10} {a12 : T12} {a11 : T11} {a13 : T13} {a14 : T14} (la9 : Lin9 a9) (la10 : Lin10 a10) (la12 : Lin12 a12) (la11 : Lin11 a11) (la13 : Lin13 a13) (la14 : Lin14 a14) {R S : Type} {k : S → Option R} {t0 : Sl} {t1 : Sl} {t2 : Int} {t7 : Option (Nat × Nat)} {t9 : Sl} {t10 : Int} {t11 : Int} {H : Heap} {fkN : Sl → Sl → Int → Option (Nat × Nat) → Sl → Int → Int → Heap → Option R} {gkN : Sl → Sl → Int → Option (Nat × Nat) → Sl → Int → Int → Heap → Option S} {fkR : Bool → Heap → Option R} {gkR : Bool → Heap → Option S} (hkN : ∀ t0 t1 t2 t7 t9 t10 t11 H, fkN t0 t1 t2 t7 t9 t10 t11 H = (gkN t0 t1 t2 t7 t9 t10 t11 H).bind k) (hkR : ∀ t6 H, fkR t6 H = (gkR t6 H).bind k) : g4_p13 a9 a10 a12 a11 a13 a14 R t0 t1 t2 t7 t9 t10 t11 H fkN fkR = (g4_p13 a9 a10 a12 a11 a13 a14 S t0 t1 t2 t7 t9 t10 t11 H gkN gkR).bind k := by
  exact g4_p11_lin la9 la10 la12 la11 la13 la14 (fun _ _ _ _ _ _ _ _ => g4_p12_lin la9 la10 la12 la11 la13 la14 (fun _ _ _ _ _ _ _ _ => hkN _ _ _ _ _ _ _ _)) (fun _ _ => hkR _ _)
theorem g4_p13_eq (a9 : T9) (a10 : T10) (a12 : T12) (a11 : T11) (a13 : T13) (a14 : T14) (la9 : Lin9 a9) (la10 : Lin10 a10) (la12 : Lin12 a12) (la11 : Lin11 a11) (la13 : Lin13 a13) (la14 : Lin14 a14) {R : Type} (t0 : Sl) (t1 : Sl) (t2 : Int) (t7 : Option (Nat × Nat)) (t9 : Sl) (t10 : Int) (t11 : Int) (H : Heap) (K : Ex → Fr → Heap → Option R) : ev2 Try.prog (E4 a9 a10 a12 a11 a13 a14) loopLim lv4 Try.f4.ntmps kp4 c4_9 [(0, (V.sl t0)), (1, (V.sl t1)), (2, (V.i .u8 t2)), (7, (V.p t7)), (9, (V.sl t9)), (10, (V.i .i64 t10)), (11, (V.i .i64 t11))] H K = g4_p13 a9 a10 a12 a11 a13 a14 R t0 t1 t2 t7 t9 t10 t11 H (fun t0 t1 t2 t7 t9 t10 t11 H => K .normal [(0, (V.sl t0)), (1, (V.sl t1)), (2, (V.i .u8 t2)), (7, (V.p t7)), (9, (V.sl t9)), (10, (V.i .i64 t10)), (11, (V.i .i64 t11))] H) (fun t6 H => K .ret [(6, (V.b t6))] H) := by
  show ev2 Try.prog (E4 a9 a10 a12 a11 a13 a14) loopLim lv4 Try.f4.ntmps kp4 (.seq c4_7 c4_8) [(0, (V.sl t0)), (1, (V.sl t1)), (2, (V.i .u8 t2)), (7, (V.p t7)), (9, (V.sl t9)), (10, (V.i .i64 t10)), (11, (V.i .i64 t11))] H K = _
  rw [ev2_seq]
  delta g4_p13
  exact (g4_p11_eq a9 a10 a12 a11 a13 a14 la9 la10 la12 la11 la13 la14 t0 t1 t2 t7 t9 t10 t11 H (kSeq (fun fr H => ev2 Try.prog (E4 a9 a10 a12 a11 a13 a14) loopLim lv4 Try.f4.ntmps kp4 c4_8 fr H K) K)).trans (congr (congrArg (g4_p11 a9 a10 a12 a11 a13 a14 R t0 t1 t2 t7 t9 t10 t11 H) (funext fun t0 => funext fun t1 => funext fun t2 => funext fun t7 => funext fun t9 => funext fun t10 => funext fun t11 => funext fun H => (kSeq_n _ _ _ _).trans (g4_p12_eq a9 a10 a12 a11 a13 a14 la9 la10 la12 la11 la13 la14 t0 t1 t2 t7 t9 t10 t11 H K))) rfl)
noncomputable def g4_p14 (a9 : T9) (a10 : T10) (a12 : T12) (a11 : T11) (a13 : T13) (a14 : T14) (R : Type) (t0 : Sl) (t1 : Sl) (t2 : Int) (t7 : Option (Nat × Nat)) (t9 : Sl) (t10 : Int) (t11 : Int) (H : Heap) (kN : Sl → Sl → Int → Option (Nat × Nat) → Sl → Int → Int → Heap → Option R) (kE0 : Option (Nat × Nat) → Heap → Option R) (kR : Bool → Heap → Option R) : Option R :=
  g4_p1 a9 a10 a12 a11 a13 a14 R t0 t1 t2 t7 t9 t10 t11 H (fun t0 t1 t2 t7 t9 t10 t11 H => g4_p13 a9 a10 a12 a11 a13 a14 R t0 t1 t2 t7 t9 t10 t11 H (fun t0 t1 t2 t7 t9 t10 t11 H => kN t0 t1 t2 t7 t9 t10 t11 H) (fun t6 H => kR t6 H)) (fun t7 H => kE0 t7 H)
theorem g4_p14_lin {a9 : T9} {a10 : T10} {a12 : T12} {a11 : T11} {a13 : T13} {a14 : T14} (la9 : Lin9 a9) (la10 : Lin10 a10) (la12 : Lin12 a12) (la11 : Lin11 a11) (la13 : Lin13 a13) (la14 : Lin14 a14) {R S : Type} {k : S → Option R} {t0 : Sl} {t1 : Sl} {t2 : Int} {t7 : Option (Nat × Nat)} {t9 : Sl} {t10 : Int} {t11 : Int} {H : Heap} {fkN : Sl → Sl → Int → Option (Nat × Nat) → Sl → Int → Int → Heap → Option R} {gkN : Sl → Sl → Int → Option (Nat × Nat) → Sl → Int → Int → Heap → Option S} {fkE0 : Option (Nat × Nat) → Heap → Option R} {gkE0 : Option (Nat × Nat) → Heap → Option S} {fkR : Bool → Heap → Option R} {gkR : Bool → Heap → Option S} (hkN : ∀ t0 t1 t2 t7 t9 t10 t11 H, fkN t0 t1 t2 t7 t9 t10 t11 H = (gkN t0 t1 t2 t7 t9 t10 t11 H).bind k) (hkE0 : ∀ t7 H, fkE0 t7 H = (gkE0 t7 H).bind k) (hkR : ∀ t6 H, fkR t6 H = (gkR t6 H).bind k) : g4_p14 a9 a10 a12 a11 a13 a14 R t0 t1 t2 t7 t9 t10 t11 H fkN fkE0 fkR = (g4_p14 a9 a10 a12 a11 a13 a14 S t0 t1 t2 t7 t9 t10 t11 H gkN gkE0 gkR).bind k := by
  exact g4_p1_lin la9 la10 la12 la11 la13 la14 (fun _ _ _ _ _ _ _ _ => g4_p13_lin la9 la10 la12 la11 la13 la14 (fun _ _ _ _ _ _ _ _ => hkN _ _ _ _ _ _ _ _) (fun _ _ => hkR _ _)) (fun _ _ => hkE0 _ _)
theorem g4_p14_eq (a9 : T9) (a10 : T10) (a12 : T12) (a11 : T11) (a13 : T13) (a14 : T14) (la9 : Lin9 a9) (la10 : Lin10 a10) (la12 : Lin12 a12) (la11 : Lin11 a11) (la13 : Lin13 a13) (la14 : Lin14 a14) {R : Type} (t0 : Sl) (t1 : Sl) (t2 : Int) (t7 : Option (Nat × Nat)) (t9 : Sl) (t10 : Int) (t11 : Int) (H : Heap) (K : Ex → Fr → Heap → Option R) : ev2 Try.prog (E4 a9 a10 a12 a11 a13 a14) loopLim lv4 Try.f4.ntmps kp4 c4_10 [(0, (V.sl t0)), (1, (V.sl t1)), (2, (V.i .u8 t2)), (7, (V.p t7)), (9, (V.sl t9)), (10, (V.i .i64 t10)), (11, (V.i .i64 t11))] H K = g4_p14 a9 a10 a12 a11 a13 a14 R t0 t1 t2 t7 t9 t10 t11 H (fun t0 t1 t2 t7 t9 t10 t11 H => K .normal [(0, (V.sl t0)), (1, (V.sl t1)), (2, (V.i .u8 t2)), (7, (V.p t7)), (9, (V.sl t9)), (10, (V.i .i64 t10)), (11, (V.i .i64 t11))] H) (fun t7 H => K (.exit 0) [(7, (V.p t7))] H) (fun t6 H => K .ret [(6, (V.b t6))] H) := by
  show ev2 Try.prog (E4 a9 a10 a12 a11 a13 a14) loopLim lv4 Try.f4.ntmps kp4 (.seq (codeAt [1, 1, 1, 1, 1, 1, 0, 1, 0, 0, 0, 0] b4) (.seq (.cond (.tmp 47) .skip (.exit 0)) c4_9)) [(0, (V.sl t0)), (1, (V.sl t1)), (2, (V.i .u8 t2)), (7, (V.p t7)), (9, (V.sl t9)), (10, (V.i .i64 t10)), (11, (V.i .i64 t11))] H K = _
  delta g4_p14
  exact (g4_p1_eq a9 a10 a12 a11 a13 a14 _ t0 t1 t2 t7 t9 t10 t11 H K).trans (congr (congrArg (g4_p1 a9 a10 a12 a11 a13 a14 R t0 t1 t2 t7 t9 t10 t11 H) (funext fun t0 => funext fun t1 => funext fun t2 => funext fun t7 => funext fun t9 => funext fun t10 => funext fun t11 => funext fun H => g4_p13_eq a9 a10 a12 a11 a13 a14 la9 la10 la12 la11 la13 la14 t0 t1 t2 t7 t9 t10 t11 H K)) rfl)
abbrev g4_p15_S := Sl × Sl × Int × (Option (Nat × Nat)) × Sl × Int × Int
abbrev g4_p15_O := Sum ((Option (Nat × Nat))) (Bool)
def g4_p15_es (s : g4_p15_S) : Fr := [(0, (V.sl s.1)), (1, (V.sl s.2.1)), (2, (V.i .u8 s.2.2.1)), (7, (V.p s.2.2.2.1)), (9, (V.sl s.2.2.2.2.1)), (10, (V.i .i64 s.2.2.2.2.2.1)), (11, (V.i .i64 s.2.2.2.2.2.2))]
def g4_p15_er : g4_p15_O → Ex × Fr
  | (.inl r) => ((.exit 0), [(7, (V.p r))])
  | (.inr r) => (.ret, [(6, (V.b r))])
noncomputable def g4_p15_b (a9 : T9) (a10 : T10) (a12 : T12) (a11 : T11) (a13 : T13) (a14 : T14) (s : g4_p15_S) (H : Heap) : Option (Rd g4_p15_S g4_p15_O × Heap) :=
  g4_p14 a9 a10 a12 a11 a13 a14 _ s.1 s.2.1 s.2.2.1 s.2.2.2.1 s.2.2.2.2.1 s.2.2.2.2.2.1 s.2.2.2.2.2.2 H (fun t0 t1 t2 t7 t9 t10 t11 H => some (.go (t0, t1, t2, t7, t9, t10, t11), H)) (fun t7 H => some (.up (.inl t7), H)) (fun t6 H => some (.up (.inr t6), H))
noncomputable def g4_p15 (a9 : T9) (a10 : T10) (a12 : T12) (a11 : T11) (a13 : T13) (a14 : T14) (R : Type) (t0 : Sl) (t1 : Sl) (t2 : Int) (t7 : Option (Nat × Nat)) (t9 : Sl) (t10 : Int) (t11 : Int) (H : Heap) (kE0 : Option (Nat × Nat) → Heap → Option R) (kR : Bool → Heap → Option R) : Option R :=
  (tlim (g4_p15_b a9 a10 a12 a11 a13 a14) (t0, t1, t2, t7, t9, t10, t11) H).bind fun p => cas p.1 (fun r => kE0 r p.2) (fun r0 => kR r0 p.2)
theorem g4_p15_lin {a9 : T9} {a10 : T10} {a12 : T12} {a11 : T11} {a13 : T13} {a14 : T14} (la9 : Lin9 a9) (la10 : Lin10 a10) (la12 : Lin12 a12) (la11 : Lin11 a11) (la13 : Lin13 a13) (la14 : Lin14 a14) {R S : Type} {k : S → Option R} {t0 : Sl} {t1 : Sl} {t2 : Int} {t7 : Option (Nat × Nat)} {t9 : Sl} {t10 : Int} {t11 : Int} {H : Heap} {fkE0 : Option (Nat × Nat) → Heap → Option R} {gkE0 : Option (Nat × Nat) → Heap → Option S} {fkR : Bool → Heap → Option R} {gkR : Bool → Heap → Option S} (hkE0 : ∀ t7 H, fkE0 t7 H = (gkE0 t7 H).bind k) (hkR : ∀ t6 H, fkR t6 H = (gkR t6 H).bind k) : g4_p15 a9 a10 a12 a11 a13 a14 R t0 t1 t2 t7 t9 t10 t11 H fkE0 fkR = (g4_p15 a9 a10 a12 a11 a13 a14 S t0 t1 t2 t7 t9 t10 t11 H gkE0 gkR).bind k := by
  exact bl fun p => cas_lin (fun _ => hkE0 _ _) (fun _ => hkR _ _)
theorem g4_p15_eq (a9 : T9) (a10 : T10) (a12 : T12) (a11 : T11) (a13 : T13) (a14 : T14) (la9 : Lin9 a9) (la10 : Lin10 a10) (la12 : Lin12 a12) (la11 : Lin11 a11) (la13 : Lin13 a13) (la14 : Lin14 a14) {R : Type} (t0 : Sl) (t1 : Sl) (t2 : Int) (t7 : Option (Nat × Nat)) (t9 : Sl) (t10 : Int) (t11 : Int) (H : Heap) (K : Ex → Fr → Heap → Option R) : ev2 Try.prog (E4 a9 a10 a12 a11 a13 a14) loopLim lv4 Try.f4.ntmps kp4 c4_11 [(0, (V.sl t0)), (1, (V.sl t1)), (2, (V.i .u8 t2)), (7, (V.p t7)), (9, (V.sl t9)), (10, (V.i .i64 t10)), (11, (V.i .i64 t11))] H K = g4_p15 a9 a10 a12 a11 a13 a14 R t0 t1 t2 t7 t9 t10 t11 H (fun t7 H => K (.exit 0) [(7, (V.p t7))] H) (fun t6 H => K .ret [(6, (V.b t6))] H) := by
  show ev2 Try.prog (E4 a9 a10 a12 a11 a13 a14) loopLim lv4 Try.f4.ntmps kp4 (.loop c4_10) [(0, (V.sl t0)), (1, (V.sl t1)), (2, (V.i .u8 t2)), (7, (V.p t7)), (9, (V.sl t9)), (10, (V.i .i64 t10)), (11, (V.i .i64 t11))] H K = _
  delta g4_p15
  refine (ev2_tlim (b := g4_p15_b a9 a10 a12 a11 a13 a14) (es := g4_p15_es) (er := g4_p15_er) (by rintro (r | r) <;> exact nofun) (fun s H => ?_) (t0, t1, t2, t7, t9, t10, t11) H K).trans (bc fun p => by rcases p with ⟨(r | r), H⟩ <;> rfl)
  exact (g4_p14_eq a9 a10 a12 a11 a13 a14 la9 la10 la12 la11 la13 la14 s.1 s.2.1 s.2.2.1 s.2.2.2.1 s.2.2.2.2.1 s.2.2.2.2.2.1 s.2.2.2.2.2.2 H ret3).trans (g4_p14_lin la9 la10 la12 la11 la13 la14 (fun _ _ _ _ _ _ _ _ => rfl) (fun _ _ => rfl) (fun _ _ => rfl))
noncomputable def g4_p16 (a9 : T9) (a10 : T10) (a12 : T12) (a11 : T11) (a13 : T13) (a14 : T14) (R : Type) (t0 : Sl) (t1 : Sl) (t2 : Int) (t7 : Option (Nat × Nat)) (t9 : Sl) (t10 : Int) (t11 : Int) (H : Heap) (kN : Option (Nat × Nat) → Heap → Option R) (kR : Bool → Heap → Option R) : Option R :=
  g4_p15 a9 a10 a12 a11 a13 a14 R t0 t1 t2 t7 t9 t10 t11 H (fun t7 H => kN t7 H) (fun t6 H => kR t6 H)
theorem g4_p16_lin {a9 : T9} {a10 : T10} {a12 : T12} {a11 : T11} {a13 : T13} {a14 : T14} (la9 : Lin9 a9) (la10 : Lin10 a10) (la12 : Lin12 a12) (la11 : Lin11 a11) (la13 : Lin13 a13) (la14 : Lin14 a14) {R S : Type} {k : S → Option R} {t0 : Sl} {t1 : Sl} {t2 : Int} {t7 : Option (Nat × Nat)} {t9 : Sl} {t10 : Int} {t11 : Int} {H : Heap} {fkN : Option (Nat × Nat) → Heap → Option R} {gkN : Option (Nat × Nat) → Heap → Option S} {fkR : Bool → Heap → Option R} {gkR : Bool → Heap → Option S} (hkN : ∀ t7 H, fkN t7 H = (gkN t7 H).bind k) (hkR : ∀ t6 H, fkR t6 H = (gkR t6 H).bind k) : g4_p16 a9 a10 a12 a11 a13 a14 R t0 t1 t2 t7 t9 t10 t11 H fkN fkR = (g4_p16 a9 a10 a12 a11 a13 a14 S t0 t1 t2 t7 t9 t10 t11 H gkN gkR).bind k := by
  exact g4_p15_lin la9 la10 la12 la11 la13 la14 (fun _ _ => hkN _ _) (fun _ _ => hkR _ _)
theorem g4_p16_eq (a9 : T9) (a10 : T10) (a12 : T12) (a11 : T11) (a13 : T13) (a14 : T14) (la9 : Lin9 a9) (la10 : Lin10 a10) (la12 : Lin12 a12) (la11 : Lin11 a11) (la13 : Lin13 a13) (la14 : Lin14 a14) {R : Type} (t0 : Sl) (t1 : Sl) (t2 : Int) (t7 : Option (Nat × Nat)) (t9 : Sl) (t10 : Int) (t11 : Int) (H : Heap) (K : Ex → Fr → Heap → Option R) : ev2 Try.prog (E4 a9 a10 a12 a11 a13 a14) loopLim lv4 Try.f4.ntmps kp4 c4_12 [(0, (V.sl t0)), (1, (V.sl t1)), (2, (V.i .u8 t2)), (7, (V.p t7)), (9, (V.sl t9)), (10, (V.i .i64 t10)), (11, (V.i .i64 t11))] H K = g4_p16 a9 a10 a12 a11 a13 a14 R t0 t1 t2 t7 t9 t10 t11 H (fun t7 H => K .normal [(7, (V.p t7))] H) (fun t6 H => K .ret [(6, (V.b t6))] H) := by
  show ev2 Try.prog (E4 a9 a10 a12 a11 a13 a14) loopLim lv4 Try.f4.ntmps kp4 (.block 0 c4_11) [(0, (V.sl t0)), (1, (V.sl t1)), (2, (V.i .u8 t2)), (7, (V.p t7)), (9, (V.sl t9)), (10, (V.i .i64 t10)), (11, (V.i .i64 t11))] H K = _
  rw [ev2_block]
  delta g4_p16
  exact (g4_p15_eq a9 a10 a12 a11 a13 a14 la9 la10 la12 la11 la13 la14 t0 t1 t2 t7 t9 t10 t11 H (kBlock kp4 0 K))
noncomputable def g4_p17 (a9 : T9) (a10 : T10) (a12 : T12) (a11 : T11) (a13 : T13) (a14 : T14) (R : Type) (t7 : Option (Nat × Nat)) (H : Heap) (kR : Bool → Heap → Option R) : Option R :=
  a14 R t7 H fun x263 h264 =>
  sel (x263 == (0 : Int)) (
    a9 R h264 fun x265 h266 =>
    kR x265 h266) (
    kR false h264)
theorem g4_p17_eq (a9 : T9) (a10 : T10) (a12 : T12) (a11 : T11) (a13 : T13) (a14 : T14) (la9 : Lin9 a9) (la10 : Lin10 a10) (la12 : Lin12 a12) (la11 : Lin11 a11) (la13 : Lin13 a13) (la14 : Lin14 a14) {R : Type} (t7 : Option (Nat × Nat)) (H : Heap) (K : Ex → Fr → Heap → Option R) : ev2 Try.prog (E4 a9 a10 a12 a11 a13 a14) loopLim lv4 Try.f4.ntmps kp4 c4_13 [(7, (V.p t7))] H K = g4_p17 a9 a10 a12 a11 a13 a14 R t7 H (fun t6 H => K .ret [(6, (V.b t6))] H) := by kernel_rfl
theorem g4_p17_lin {a9 : T9} {a10 : T10} {a12 : T12} {a11 : T11} {a13 : T13} {a14 : T14} (la9 : Lin9 a9) (la10 : Lin10 a10) (la12 : Lin12 a12) (la11 : Lin11 a11) (la13 : Lin13 a13) (la14 : Lin14 a14) {R S : Type} {k : S → Option R} {t7 : Option (Nat × Nat)} {H : Heap} {fkR : Bool → Heap → Option R} {gkR : Bool → Heap → Option S} (hkR : ∀ t6 H, fkR t6 H = (gkR t6 H).bind k) : g4_p17 a9 a10 a12 a11 a13 a14 R t7 H fkR = (g4_p17 a9 a10 a12 a11 a13 a14 S t7 H gkR).bind k := by
  delta g4_p17; exact (
    la14.l fun x263 h264 =>
    sl_lin (
      la9.l fun x265 h266 =>
      hkR _ _) (
      hkR _ _))
noncomputable def g4_p18 (a9 : T9) (a10 : T10) (a12 : T12) (a11 : T11) (a13 : T13) (a14 : T14) (R : Type) (t0 : Sl) (t1 : Sl) (t2 : Int) (t7 : Option (Nat × Nat)) (t9 : Sl) (t10 : Int) (t11 : Int) (H : Heap) (kR : Bool → Heap → Option R) : Option R :=
  g4_p16 a9 a10 a12 a11 a13 a14 R t0 t1 t2 t7 t9 t10 t11 H (fun t7 H => g4_p17 a9 a10 a12 a11 a13 a14 R t7 H (fun t6 H => kR t6 H)) (fun t6 H => kR t6 H)
theorem g4_p18_lin {a9 : T9} {a10 : T10} {a12 : T12} {a11 : T11} {a13 : T13} {a14 : T14} (la9 : Lin9 a9) (la10 : Lin10 a10) (la12 : Lin12 a12) (la11 : Lin11 a11) (la13 : Lin13 a13) (la14 : Lin14 a14) {R S : Type} {k : S → Option R} {t0 : Sl} {t1 : Sl} {t2 : Int} {t7 : Option (Nat × Nat)} {t9 : Sl} {t10 : Int} {t11 : Int} {H : Heap} {fkR : Bool → Heap → Option R} {gkR : Bool → Heap → Option S} (hkR : ∀ t6 H, fkR t6 H = (gkR t6 H).bind k) : g4_p18 a9 a10 a12 a11 a13 a14 R t0 t1 t2 t7 t9 t10 t11 H fkR = (g4_p18 a9 a10 a12 a11 a13 a14 S t0 t1 t2 t7 t9 t10 t11 H gkR).bind k := by
  exact g4_p16_lin la9 la10 la12 la11 la13 la14 (fun _ _ => g4_p17_lin la9 la10 la12 la11 la13 la14 (fun _ _ => hkR _ _)) (fun _ _ => hkR _ _)
theorem g4_p18_eq (a9 : T9) (a10 : T10) (a12 : T12) (a11 : T11) (a13 : T13) (a14 : T14) (la9 : Lin9 a9) (la10 : Lin10 a10) (la12 : Lin12 a12) (la11 : Lin11 a11) (la13 : Lin13 a13) (la14 : Lin14 a14) {R : Type} (t0 : Sl) (t1 : Sl) (t2 : Int) (t7 : Option (Nat × Nat)) (t9 : Sl) (t10 : Int) (t11 : Int) (H : Heap) (K : Ex → Fr → Heap → Option R) : ev2 Try.prog (E4 a9 a10 a12 a11 a13 a14) loopLim lv4 Try.f4.ntmps kp4 c4_14 [(0, (V.sl t0)), (1, (V.sl t1)), (2, (V.i .u8 t2)), (7, (V.p t7)), (9, (V.sl t9)), (10, (V.i .i64 t10)), (11, (V.i .i64 t11))] H K = g4_p18 a9 a10 a12 a11 a13 a14 R t0 t1 t2 t7 t9 t10 t11 H (fun t6 H => K .ret [(6, (V.b t6))] H) := by
  show ev2 Try.prog (E4 a9 a10 a12 a11 a13 a14) loopLim lv4 Try.f4.ntmps kp4 (.seq c4_12 c4_13) [(0, (V.sl t0)), (1, (V.sl t1)), (2, (V.i .u8 t2)), (7, (V.p t7)), (9, (V.sl t9)), (10, (V.i .i64 t10)), (11, (V.i .i64 t11))] H K = _
  rw [ev2_seq]
  delta g4_p18
  exact (g4_p16_eq a9 a10 a12 a11 a13 a14 la9 la10 la12 la11 la13 la14 t0 t1 t2 t7 t9 t10 t11 H (kSeq (fun fr H => ev2 Try.prog (E4 a9 a10 a12 a11 a13 a14) loopLim lv4 Try.f4.ntmps kp4 c4_13 fr H K) K)).trans (congr (congrArg (g4_p16 a9 a10 a12 a11 a13 a14 R t0 t1 t2 t7 t9 t10 t11 H) (funext fun t7 => funext fun H => (kSeq_n _ _ _ _).trans (g4_p17_eq a9 a10 a12 a11 a13 a14 la9 la10 la12 la11 la13 la14 t7 H K))) rfl)
noncomputable def g4_p19 (a9 : T9) (a10 : T10) (a12 : T12) (a11 : T11) (a13 : T13) (a14 : T14) (R : Type) (t0 : Sl) (t1 : Sl) (t2 : Int) (H : Heap) (kR : Bool → Heap → Option R) : Option R :=
  g4_p0 a9 a10 a12 a11 a13 a14 R t0 t1 t2 H (fun t0 t1 t2 t7 t9 t10 t11 H => g4_p18 a9 a10 a12 a11 a13 a14 R t0 t1 t2 t7 t9 t10 t11 H (fun t6 H => kR t6 H)) (fun t6 H => kR t6 H)
theorem g4_p19_lin {a9 : T9} {a10 : T10} {a12 : T12} {a11 : T11} {a13 : T13} {a14 : T14} (la9 : Lin9 a9) (la10 : Lin10 a10) (la12 : Lin12 a12) (la11 : Lin11 a11) (la13 : Lin13 a13) (la14 : Lin14 a14) {R S : Type} {k : S → Option R} {t0 : Sl} {t1 : Sl} {t2 : Int} {H : Heap} {fkR : Bool → Heap → Option R} {gkR : Bool → Heap → Option S} (hkR : ∀ t6 H, fkR t6 H = (gkR t6 H).bind k) : g4_p19 a9 a10 a12 a11 a13 a14 R t0 t1 t2 H fkR = (g4_p19 a9 a10 a12 a11 a13 a14 S t0 t1 t2 H gkR).bind k := by
  exact g4_p0_lin la9 la10 la12 la11 la13 la14 (fun _ _ _ _ _ _ _ _ => g4_p18_lin la9 la10 la12 la11 la13 la14 (fun _ _ => hkR _ _)) (fun _ _ => hkR _ _)
theorem g4_p19_eq (a9 : T9) (a10 : T10) (a12 : T12) (a11 : T11) (a13 : T13) (a14 : T14) (la9 : Lin9 a9) (la10 : Lin10 a10) (la12 : Lin12 a12) (la11 : Lin11 a11) (la13 : Lin13 a13) (la14 : Lin14 a14) {R : Type} (t0 : Sl) (t1 : Sl) (t2 : Int) (H : Heap) (K : Ex → Fr → Heap → Option R) : ev2 Try.prog (E4 a9 a10 a12 a11 a13 a14) loopLim lv4 Try.f4.ntmps kp4 c4_15 [(0, (V.sl t0)), (1, (V.sl t1)), (2, (V.i .u8 t2))] H K = g4_p19 a9 a10 a12 a11 a13 a14 R t0 t1 t2 H (fun t6 H => K .ret [(6, (V.b t6))] H) := by
  show ev2 Try.prog (E4 a9 a10 a12 a11 a13 a14) loopLim lv4 Try.f4.ntmps kp4 (.seq (codeAt [0] b4) (.seq (codeAt [1, 0, 0] b4) (.seq (.cond (.tmp 27) (.seq (codeAt [1, 0, 1, 0, 0] b4) .ret) .skip) (.seq (codeAt [1, 1, 0] b4) (.seq (codeAt [1, 1, 1, 0, 0] b4) (.seq (.cond (.tmp 34) (.seq (codeAt [1, 1, 1, 0, 1, 0, 0] b4) .ret) .skip) (.seq (codeAt [1, 1, 1, 1, 0] b4) (.seq (codeAt [1, 1, 1, 1, 1, 0] b4) (.seq (codeAt [1, 1, 1, 1, 1, 1, 0, 0] b4) c4_14))))))))) [(0, (V.sl t0)), (1, (V.sl t1)), (2, (V.i .u8 t2))] H K = _
  delta g4_p19
  exact (g4_p0_eq a9 a10 a12 a11 a13 a14 _ t0 t1 t2 H K).trans (congr (congrArg (g4_p0 a9 a10 a12 a11 a13 a14 R t0 t1 t2 H) (funext fun t0 => funext fun t1 => funext fun t2 => funext fun t7 => funext fun t9 => funext fun t10 => funext fun t11 => funext fun H => g4_p18_eq a9 a10 a12 a11 a13 a14 la9 la10 la12 la11 la13 la14 t0 t1 t2 t7 t9 t10 t11 H K)) rfl)
noncomputable def g4_r (a9 : T9) (a10 : T10) (a12 : T12) (a11 : T11) (a13 : T13) (a14 : T14) : T4 := fun R t0 t1 t2 H K =>
  g4_p19 a9 a10 a12 a11 a13 a14 R t0 t1 t2 H (fun t6 H =>
    K t6 H)
theorem g4_r_lin {a9 : T9} {a10 : T10} {a12 : T12} {a11 : T11} {a13 : T13} {a14 : T14} (la9 : Lin9 a9) (la10 : Lin10 a10) (la12 : Lin12 a12) (la11 : Lin11 a11) (la13 : Lin13 a13) (la14 : Lin14 a14) : Lin4 (g4_r a9 a10 a12 a11 a13 a14) := by
  constructor
  intro R S k t0 t1 t2 H f g h
  exact g4_p19_lin la9 la10 la12 la11 la13 la14 (fun t6 H =>
    h _ _)
theorem g4_fn (a9 : T9) (a10 : T10) (a12 : T12) (a11 : T11) (a13 : T13) (a14 : T14) (la9 : Lin9 a9) (la10 : Lin10 a10) (la12 : Lin12 a12) (la11 : Lin11 a11) (la13 : Lin13 a13) (la14 : Lin14 a14) {R : Type} (t0 : Sl) (t1 : Sl) (t2 : Int) (H : Heap) (K : V → Heap → Option R) : evFn2 Try.prog (E4 a9 a10 a12 a11 a13 a14) loopLim lv4 Try.f4 kp4 [(V.sl t0), (V.sl t1), (V.i .u8 t2)] H K = g4_r a9 a10 a12 a11 a13 a14 R t0 t1 t2 H (fun r0 H => K (V.b r0) H) := by
  have h0 : ∀ (t6 : Bool) (H : Heap), kFn2 Try.prog Try.f4.results.toList K .ret [(6, (V.b t6))] H =
      K (V.b t6) H := by intros; kernel_rfl
  have e0 := evFn2_code2 (P := Try.prog) (c := c4_15) (E := (E4 a9 a10 a12 a11 a13 a14)) (lr := loopLim) (lv := lv4) (kp := kp4) (fn := Try.f4) (args := [(V.sl t0), (V.sl t1), (V.i .u8 t2)]) H K (by kernel_rfl) (Nat.le_of_ble_eq_true (by kernel_rfl)) (by kernel_rfl) (by kernel_rfl)
  have e1 : ev2 Try.prog (E4 a9 a10 a12 a11 a13 a14) loopLim lv4 Try.f4.ntmps kp4 c4_15 (argFr 0 [(V.sl t0), (V.sl t1), (V.i .u8 t2)]) H (kFn2 Try.prog Try.f4.results.toList K) = ev2 Try.prog (E4 a9 a10 a12 a11 a13 a14) loopLim lv4 Try.f4.ntmps kp4 c4_15 [(0, (V.sl t0)), (1, (V.sl t1)), (2, (V.i .u8 t2))] H (kFn2 Try.prog Try.f4.results.toList K) := by kernel_rfl
  refine (e0.trans e1).trans ?_
  delta g4_r
  exact (g4_p19_eq a9 a10 a12 a11 a13 a14 la9 la10 la12 la11 la13 la14 t0 t1 t2 H (kFn2 Try.prog Try.f4.results.toList K)).trans (congrArg (g4_p19 a9 a10 a12 a11 a13 a14 R t0 t1 t2 H) (funext fun t6 => funext fun H => h0 t6 H))
theorem g4_ok {a9 : T9} {a10 : T10} {a12 : T12} {a11 : T11} {a13 : T13} {a14 : T14} (oa9 : FunOK Try.prog 9 (w9 a9)) (oa10 : FunOK Try.prog 10 (w10 a10)) (oa12 : FunOK Try.prog 12 (w12 a12)) (oa11 : FunOK Try.prog 11 (w11 a11)) (oa13 : FunOK Try.prog 13 (w13 a13)) (oa14 : FunOK Try.prog 14 (w14 a14)) (la9 : Lin9 a9) (la10 : Lin10 a10) (la12 : Lin12 a12) (la11 : Lin11 a11) (la13 : Lin13 a13) (la14 : Lin14 a14) : FunOK Try.prog 4 (w4 (g4_r a9 a10 a12 a11 a13 a14)) := by
  refine (runF2_ok (E4_good oa9 oa10 oa12 oa11 oa13 oa14 la9 la10 la12 la11 la13 la14) mixed lim_ok Try.func4 (by kernel_rfl) lv4 kp4).of_le fun R args H K r hk => ?_
  unfold w4 at hk
  split at hk
  · exact (g4_fn a9 a10 a12 a11 a13 a14 la9 la10 la12 la11 la13 la14 _ _ _ H K).trans hk
  · cases hk
def kp11 : Nat → Option (List Nat) := kpOf [(0, [0]), (1, [0, 11]), (2, [2]), (3, [0, 3]), (4, [0, 3, 16]), (5, [0, 3, 16, 18]), (6, [0, 3, 4, 5, 16, 500004, 1000004]), (7, [0, 3, 4, 5, 16, 500004, 1000004]), (8, [0, 3, 4, 16, 33, 500004, 1000004]), (9, [0, 3, 16]), (10, [0, 38, 39, 40]), (11, [0, 38, 39, 40, 41]), (12, [0, 7, 38, 39, 40, 500007, 1000007]), (13, [0, 38, 39, 40]), (14, [0, 38, 39, 40]), (15, [0, 8]), (16, [8]), (17, [8]), (18, [2]), (100000, [0, 3]), (100001, [0, 3, 16]), (100002, [0]), (100003, [0, 38, 39, 40]), (200000, [0, 3, 16]), (200001, [0, 3, 16]), (200002, [0, 38, 39, 40]), (200003, [0, 38, 39, 40]), (300000, [2]), (400011, [0]), (400018, [0, 3, 16]), (400033, [0, 3, 16]), (400041, [0, 38, 39, 40])]
def E11 (a23 : T23) (a24 : T24) (a25 : T25) : FEnv := [(23, w23 a23), (24, w24 a24), (25, w25 a25)]
theorem E11_good {a23 : T23} {a24 : T24} {a25 : T25} (oa23 : FunOK Try.prog 23 (w23 a23)) (oa24 : FunOK Try.prog 24 (w24 a24)) (oa25 : FunOK Try.prog 25 (w25 a25)) (la23 : Lin23 a23) (la24 : Lin24 a24) (la25 : Lin25 a25) : EnvGood Try.prog (E11 a23 a24 a25) := ((((EnvGood.nil _).cons oa25 (w25_lin la25)).cons oa24 (w24_lin la24)).cons oa23 (w23_lin la23))
theorem E11_lin {a23 : T23} {a24 : T24} {a25 : T25} (la23 : Lin23 a23) (la24 : Lin24 a24) (la25 : Lin25 a25) : EnvLin (E11 a23 a24 a25) := by
  intro g F h
  simp only [E11, List.mem_cons, List.not_mem_nil, or_false] at h
  rcases h with h | h | h
  · cases h; exact w23_lin la23
  · cases h; exact w24_lin la24
  · cases h; exact w25_lin la25
def lv11 : Nat → Bool := lvOf [4, 7]
noncomputable def b11 : Code := Try.f11.body.getD .skip
noncomputable def c11_0 : Code := (.seq (codeAt [1, 1, 1, 1, 0, 1, 0, 0, 0] b11) (.seq (.cond (.tmp 41) .skip (.exit 2)) (.seq (.block 3 (.seq (codeAt [1, 1, 1, 1, 0, 1, 0, 0, 1, 1, 0, 0, 0] b11) (codeAt [1, 1, 1, 1, 0, 1, 0, 0, 1, 1, 0, 0, 1] b11))) (codeAt [1, 1, 1, 1, 0, 1, 0, 0, 1, 1, 1] b11))))
noncomputable def c11_1 : Code := (.loop c11_0)
noncomputable def c11_2 : Code := (.block 2 c11_1)
noncomputable def c11_3 : Code := (.seq (codeAt [1, 1, 1, 1, 1, 0] b11) (.seq (codeAt [1, 1, 1, 1, 1, 1, 0] b11) (.seq (codeAt [1, 1, 1, 1, 1, 1, 1, 0] b11) (.seq (codeAt [1, 1, 1, 1, 1, 1, 1, 1, 0] b11) .ret))))
noncomputable def c11_4 : Code := (.seq c11_2 c11_3)
noncomputable def c11_5 : Code := (.seq (codeAt [1, 1, 1, 1, 0, 0] b11) c11_4)
noncomputable def g11_p0 (a23 : T23) (a24 : T24) (a25 : T25) (R : Type) (t0 : Option (Nat × Nat)) (t3 : Sl) (H : Heap) (kN : Option (Nat × Nat) → Sl → Int → Int → Heap → Option R) : Option R :=
  kN t0 t3 ((t3.len : Nat) : Int) (0 : Int) H
theorem g11_p0_eq (a23 : T23) (a24 : T24) (a25 : T25) {R : Type} (c2 : Code) (t0 : Option (Nat × Nat)) (t3 : Sl) (H : Heap) (K : Ex → Fr → Heap → Option R) : ev2 Try.prog (E11 a23 a24 a25) loopLim lv11 Try.f11.ntmps kp11 (.seq (codeAt [1, 1, 1, 1, 0, 0] b11) c2) [(0, (V.p t0)), (3, (V.sl t3))] H K = g11_p0 a23 a24 a25 R t0 t3 H (fun t0 t38 t39 t40 H => ev2 Try.prog (E11 a23 a24 a25) loopLim lv11 Try.f11.ntmps kp11 c2 [(0, (V.p t0)), (38, (V.sl t38)), (39, (V.i .i64 t39)), (40, (V.i .i64 t40))] H K) := by kernel_rfl
theorem g11_p0_lin {a23 : T23} {a24 : T24} {a25 : T25} (la23 : Lin23 a23) (la24 : Lin24 a24) (la25 : Lin25 a25) {R S : Type} {k : S → Option R} {t0 : Option (Nat × Nat)} {t3 : Sl} {H : Heap} {fkN : Option (Nat × Nat) → Sl → Int → Int → Heap → Option R} {gkN : Option (Nat × Nat) → Sl → Int → Int → Heap → Option S} (hkN : ∀ t0 t38 t39 t40 H, fkN t0 t38 t39 t40 H = (gkN t0 t38 t39 t40 H).bind k) : g11_p0 a23 a24 a25 R t0 t3 H fkN = (g11_p0 a23 a24 a25 S t0 t3 H gkN).bind k := by
  delta g11_p0; exact (
    hkN _ _ _ _ _)
noncomputable def g11_p1 (a23 : T23) (a24 : T24) (a25 : T25) (R : Type) (t0 : Option (Nat × Nat)) (t38 : Sl) (t39 : Int) (t40 : Int) (H : Heap) (kN : Option (Nat × Nat) → Sl → Int → Int → Heap → Option R) (kE2 : Option (Nat × Nat) → Heap → Option R) : Option R :=
  sel (decide (t40 < t39)) (
    if 0 ≤ t40 ∧ t40 < ((t38.len : Nat) : Int) then (
      (t38.a).bind fun q1 =>
      ((H).ldI .u16 q1.1 ((q1.2 + Int.toNat t40 * 2) + 0)).bind fun x2 =>
      ((H).ldI .u32 q1.1 ((q1.2 + Int.toNat t40 * 2) + 1)).bind fun x3 =>
      a23 R t0 x2 x3 H fun h4 =>
      kN t0 t38 t39 (IntKind.wrap .i64 (t40 + (1 : Int))) h4)
    else (
      none)) (
    kE2 t0 H)
theorem g11_p1_eq (a23 : T23) (a24 : T24) (a25 : T25) (la23 : Lin23 a23) (la24 : Lin24 a24) (la25 : Lin25 a25) {R : Type} (t0 : Option (Nat × Nat)) (t38 : Sl) (t39 : Int) (t40 : Int) (H : Heap) (K : Ex → Fr → Heap → Option R) : ev2 Try.prog (E11 a23 a24 a25) loopLim lv11 Try.f11.ntmps kp11 c11_0 [(0, (V.p t0)), (38, (V.sl t38)), (39, (V.i .i64 t39)), (40, (V.i .i64 t40))] H K = g11_p1 a23 a24 a25 R t0 t38 t39 t40 H (fun t0 t38 t39 t40 H => K .normal [(0, (V.p t0)), (38, (V.sl t38)), (39, (V.i .i64 t39)), (40, (V.i .i64 t40))] H) (fun t0 H => K (.exit 2) [(0, (V.p t0))] H) := by kernel_rfl
theorem g11_p1_lin {a23 : T23} {a24 : T24} {a25 : T25} (la23 : Lin23 a23) (la24 : Lin24 a24) (la25 : Lin25 a25) {R S : Type} {k : S → Option R} {t0 : Option (Nat × Nat)} {t38 : Sl} {t39 : Int} {t40 : Int} {H : Heap} {fkN : Option (Nat × Nat) → Sl → Int → Int → Heap → Option R} {gkN : Option (Nat × Nat) → Sl → Int → Int → Heap → Option S} {fkE2 : Option (Nat × Nat) → Heap → Option R} {gkE2 : Option (Nat × Nat) → Heap → Option S} (hkN : ∀ t0 t38 t39 t40 H, fkN t0 t38 t39 t40 H = (gkN t0 t38 t39 t40 H).bind k) (hkE2 : ∀ t0 H, fkE2 t0 H = (gkE2 t0 H).bind k) : g11_p1 a23 a24 a25 R t0 t38 t39 t40 H fkN fkE2 = (g11_p1 a23 a24 a25 S t0 t38 t39 t40 H gkN gkE2).bind k := by
  delta g11_p1; exact (
    sl_lin (
      il (
        bl fun q1 =>
        bl fun x2 =>
        bl fun x3 =>
        la23.l fun h4 =>
        hkN _ _ _ _ _) (
        rfl)) (
      hkE2 _ _))
abbrev g11_p2_S := (Option (Nat × Nat)) × Sl × Int × Int
abbrev g11_p2_O := (Option (Nat × Nat))
def g11_p2_es (s : g11_p2_S) : Fr := [(0, (V.p s.1)), (38, (V.sl s.2.1)), (39, (V.i .i64 s.2.2.1)), (40, (V.i .i64 s.2.2.2))]
def g11_p2_er (r : g11_p2_O) : Ex × Fr := ((.exit 2), [(0, (V.p r))])
noncomputable def g11_p2_b (a23 : T23) (a24 : T24) (a25 : T25) (s : g11_p2_S) (H : Heap) : Option (Rd g11_p2_S g11_p2_O × Heap) :=
  g11_p1 a23 a24 a25 _ s.1 s.2.1 s.2.2.1 s.2.2.2 H (fun t0 t38 t39 t40 H => some (.go (t0, t38, t39, t40), H)) (fun t0 H => some (.up t0, H))
noncomputable def g11_p2 (a23 : T23) (a24 : T24) (a25 : T25) (R : Type) (t0 : Option (Nat × Nat)) (t38 : Sl) (t39 : Int) (t40 : Int) (H : Heap) (kE2 : Option (Nat × Nat) → Heap → Option R) : Option R :=
  (tlim (g11_p2_b a23 a24 a25) (t0, t38, t39, t40) H).bind fun p => kE2 p.1 p.2
theorem g11_p2_lin {a23 : T23} {a24 : T24} {a25 : T25} (la23 : Lin23 a23) (la24 : Lin24 a24) (la25 : Lin25 a25) {R S : Type} {k : S → Option R} {t0 : Option (Nat × Nat)} {t38 : Sl} {t39 : Int} {t40 : Int} {H : Heap} {fkE2 : Option (Nat × Nat) → Heap → Option R} {gkE2 : Option (Nat × Nat) → Heap → Option S} (hkE2 : ∀ t0 H, fkE2 t0 H = (gkE2 t0 H).bind k) : g11_p2 a23 a24 a25 R t0 t38 t39 t40 H fkE2 = (g11_p2 a23 a24 a25 S t0 t38 t39 t40 H gkE2).bind k := by
  exact bl fun p => hkE2 _ _
theorem g11_p2_eq (a23 : T23) (a24 : T24) (a25 : T25) (la23 : Lin23 a23) (la24 : Lin24 a24) (la25 : Lin25 a25) {R : Type} (t0 : Option (Nat × Nat)) (t38 : Sl) (t39 : Int) (t40 : Int) (H : Heap) (K : Ex → Fr → Heap → Option R) : ev2 Try.prog (E11 a23 a24 a25) loopLim lv11 Try.f11.ntmps kp11 c11_1 [(0, (V.p t0)), (38, (V.sl t38)), (39, (V.i .i64 t39)), (40, (V.i .i64 t40))] H K = g11_p2 a23 a24 a25 R t0 t38 t39 t40 H (fun t0 H => K (.exit 2) [(0, (V.p t0))] H) := by
  show ev2 Try.prog (E11 a23 a24 a25) loopLim lv11 Try.f11.ntmps kp11 (.loop c11_0) [(0, (V.p t0)), (38, (V.sl t38)), (39, (V.i .i64 t39)), (40, (V.i .i64 t40))] H K = _
  delta g11_p2
  refine (ev2_tlim (b := g11_p2_b a23 a24 a25) (es := g11_p2_es) (er := g11_p2_er) (by intro r; exact nofun) (fun s H => ?_) (t0, t38, t39, t40) H K).trans (bc fun p => rfl)
  exact (g11_p1_eq a23 a24 a25 la23 la24 la25 s.1 s.2.1 s.2.2.1 s.2.2.2 H ret3).trans (g11_p1_lin la23 la24 la25 (fun _ _ _ _ _ => rfl) (fun _ _ => rfl))
noncomputable def g11_p3 (a23 : T23) (a24 : T24) (a25 : T25) (R : Type) (t0 : Option (Nat × Nat)) (t38 : Sl) (t39 : Int) (t40 : Int) (H : Heap) (kN : Option (Nat × Nat) → Heap → Option R) : Option R :=
  g11_p2 a23 a24 a25 R t0 t38 t39 t40 H (fun t0 H => kN t0 H)
theorem g11_p3_lin {a23 : T23} {a24 : T24} {a25 : T25} (la23 : Lin23 a23) (la24 : Lin24 a24) (la25 : Lin25 a25) {R S : Type} {k : S → Option R} {t0 : Option (Nat × Nat)} {t38 : Sl} {t39 : Int} {t40 : Int} {H : Heap} {fkN : Option (Nat × Nat) → Heap → Option R} {gkN : Option (Nat × Nat) → Heap → Option S} (hkN : ∀ t0 H, fkN t0 H = (gkN t0 H).bind k) : g11_p3 a23 a24 a25 R t0 t38 t39 t40 H fkN = (g11_p3 a23 a24 a25 S t0 t38 t39 t40 H gkN).bind k := by
  exact g11_p2_lin la23 la24 la25 (fun _ _ => hkN _ _)
theorem g11_p3_eq (a23 : T23) (a24 : T24) (a25 : T25) (la23 : Lin23 a23) (la24 : Lin24 a24) (la25 : Lin25 a25) {R : Type} (t0 : Option (Nat × Nat)) (t38 : Sl) (t39 : Int) (t40 : Int) (H : Heap) (K : Ex → Fr → Heap → Option R) : ev2 Try.prog (E11 a23 a24 a25) loopLim lv11 Try.f11.ntmps kp11 c11_2 [(0, (V.p t0)), (38, (V.sl t38)), (39, (V.i .i64 t39)), (40, (V.i .i64 t40))] H K = g11_p3 a23 a24 a25 R t0 t38 t39 t40 H (fun t0 H => K .normal [(0, (V.p t0))] H) := by
  show ev2 Try.prog (E11 a23 a24 a25) loopLim lv11 Try.f11.ntmps kp11 (.block 2 c11_1) [(0, (V.p t0)), (38, (V.sl t38)), (39, (V.i .i64 t39)), (40, (V.i .i64 t40))] H K = _
  rw [ev2_block]
  delta g11_p3
  exact (g11_p2_eq a23 a24 a25 la23 la24 la25 t0 t38 t39 t40 H (kBlock kp11 2 K))
noncomputable def g11_p4 (a23 : T23) (a24 : T24) (a25 : T25) (R : Type) (t0 : Option (Nat × Nat)) (H : Heap) (kR : Sl → Heap → Option R) : Option R :=
  (t0).bind fun q5 =>
  ((H).ldSl q5.1 (q5.2 + 2)).bind fun x6 =>
  a24 R x6 H fun x7 h8 =>
  (t0).bind fun q9 =>
  ((h8).st q9.1 (q9.2 + 2) (V.sl (Sl.mk none 0 (.ex 0)))).bind fun h11 =>
  a25 R x7 h11 fun h12 =>
  kR x7 h12
theorem g11_p4_eq (a23 : T23) (a24 : T24) (a25 : T25) (la23 : Lin23 a23) (la24 : Lin24 a24) (la25 : Lin25 a25) {R : Type} (t0 : Option (Nat × Nat)) (H : Heap) (K : Ex → Fr → Heap → Option R) : ev2 Try.prog (E11 a23 a24 a25) loopLim lv11 Try.f11.ntmps kp11 c11_3 [(0, (V.p t0))] H K = g11_p4 a23 a24 a25 R t0 H (fun t2 H => K .ret [(2, (V.sl t2))] H) := by kernel_rfl
theorem g11_p4_lin {a23 : T23} {a24 : T24} {a25 : T25} (la23 : Lin23 a23) (la24 : Lin24 a24) (la25 : Lin25 a25) {R S : Type} {k : S → Option R} {t0 : Option (Nat × Nat)} {H : Heap} {fkR : Sl → Heap → Option R} {gkR : Sl → Heap → Option S} (hkR : ∀ t2 H, fkR t2 H = (gkR t2 H).bind k) : g11_p4 a23 a24 a25 R t0 H fkR = (g11_p4 a23 a24 a25 S t0 H gkR).bind k := by
  delta g11_p4; exact (
    bl fun q5 =>
    bl fun x6 =>
    la24.l fun x7 h8 =>
    bl fun q9 =>
    bl fun h11 =>
    la25.l fun h12 =>
    hkR _ _)
noncomputable def g11_p5 (a23 : T23) (a24 : T24) (a25 : T25) (R : Type) (t0 : Option (Nat × Nat)) (t38 : Sl) (t39 : Int) (t40 : Int) (H : Heap) (kR : Sl → Heap → Option R) : Option R :=
  g11_p3 a23 a24 a25 R t0 t38 t39 t40 H (fun t0 H => g11_p4 a23 a24 a25 R t0 H (fun t2 H => kR t2 H))
theorem g11_p5_lin {a23 : T23} {a24 : T24} {a25 : T25} (la23 : Lin23 a23) (la24 : Lin24 a24) (la25 : Lin25 a25) {R S : Type} {k : S → Option R} {t0 : Option (Nat × Nat)} {t38 : Sl} {t39 : Int} {t40 : Int} {H : Heap} {fkR : Sl → Heap → Option R} {gkR : Sl → Heap → Option S} (hkR : ∀ t2 H, fkR t2 H = (gkR t2 H).bind k) : g11_p5 a23 a24 a25 R t0 t38 t39 t40 H fkR = (g11_p5 a23 a24 a25 S t0 t38 t39 t40 H gkR).bind k := by
  exact g11_p3_lin la23 la24 la25 (fun _ _ => g11_p4_lin la23 la24 la25 (fun _ _ => hkR _ _))
theorem g11_p5_eq (a23 : T23) (a24 : T24) (a25 : T25) (la23 : Lin23 a23) (la24 : Lin24 a24) (la25 : Lin25 a25) {R : Type} (t0 : Option (Nat × Nat)) (t38 : Sl) (t39 : Int) (t40 : Int) (H : Heap) (K : Ex → Fr → Heap → Option R) : ev2 Try.prog (E11 a23 a24 a25) loopLim lv11 Try.f11.ntmps kp11 c11_4 [(0, (V.p t0)), (38, (V.sl t38)), (39, (V.i .i64 t39)), (40, (V.i .i64 t40))] H K = g11_p5 a23 a24 a25 R t0 t38 t39 t40 H (fun t2 H => K .ret [(2, (V.sl t2))] H) := by
  show ev2 Try.prog (E11 a23 a24 a25) loopLim lv11 Try.f11.ntmps kp11 (.seq c11_2 c11_3) [(0, (V.p t0)), (38, (V.sl t38)), (39, (V.i .i64 t39)), (40, (V.i .i64 t40))] H K = _
  rw [ev2_seq]
  delta g11_p5
  exact (g11_p3_eq a23 a24 a25 la23 la24 la25 t0 t38 t39 t40 H (kSeq (fun fr H => ev2 Try.prog (E11 a23 a24 a25) loopLim lv11 Try.f11.ntmps kp11 c11_3 fr H K) K)).trans (congrArg (g11_p3 a23 a24 a25 R t0 t38 t39 t40 H) (funext fun t0 => funext fun H => (kSeq_n _ _ _ _).trans (g11_p4_eq a23 a24 a25 la23 la24 la25 t0 H K)))
noncomputable def g11_p6 (a23 : T23) (a24 : T24) (a25 : T25) (R : Type) (t0 : Option (Nat × Nat)) (t3 : Sl) (H : Heap) (kR : Sl → Heap → Option R) : Option R :=
  g11_p0 a23 a24 a25 R t0 t3 H (fun t0 t38 t39 t40 H => g11_p5 a23 a24 a25 R t0 t38 t39 t40 H (fun t2 H => kR t2 H))
theorem g11_p6_lin {a23 : T23} {a24 : T24} {a25 : T25} (la23 : Lin23 a23) (la24 : Lin24 a24) (la25 : Lin25 a25) {R S : Type} {k : S → Option R} {t0 : Option (Nat × Nat)} {t3 : Sl} {H : Heap} {fkR : Sl → Heap → Option R} {gkR : Sl → Heap → Option S} (hkR : ∀ t2 H, fkR t2 H = (gkR t2 H).bind k) : g11_p6 a23 a24 a25 R t0 t3 H fkR = (g11_p6 a23 a24 a25 S t0 t3 H gkR).bind k := by
  exact g11_p0_lin la23 la24 la25 (fun _ _ _ _ _ => g11_p5_lin la23 la24 la25 (fun _ _ => hkR _ _))
theorem g11_p6_eq (a23 : T23) (a24 : T24) (a25 : T25) (la23 : Lin23 a23) (la24 : Lin24 a24) (la25 : Lin25 a25) {R : Type} (t0 : Option (Nat × Nat)) (t3 : Sl) (H : Heap) (K : Ex → Fr → Heap → Option R) : ev2 Try.prog (E11 a23 a24 a25) loopLim lv11 Try.f11.ntmps kp11 c11_5 [(0, (V.p t0)), (3, (V.sl t3))] H K = g11_p6 a23 a24 a25 R t0 t3 H (fun t2 H => K .ret [(2, (V.sl t2))] H) := by
  show ev2 Try.prog (E11 a23 a24 a25) loopLim lv11 Try.f11.ntmps kp11 (.seq (codeAt [1, 1, 1, 1, 0, 0] b11) c11_4) [(0, (V.p t0)), (3, (V.sl t3))] H K = _
  delta g11_p6
  exact (g11_p0_eq a23 a24 a25 _ t0 t3 H K).trans (congrArg (g11_p0 a23 a24 a25 R t0 t3 H) (funext fun t0 => funext fun t38 => funext fun t39 => funext fun t40 => funext fun H => g11_p5_eq a23 a24 a25 la23 la24 la25 t0 t38 t39 t40 H K))
end Go.Proofs.Ytobebcfkddimkaa

