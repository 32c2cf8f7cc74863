/- Printed: functions as the machine runs them. -/
import Derived.Test.YtbkncpmgpogakaaGT
namespace Go.Proofs.Ytbkncpmgpogakaa
open Go AM Go.RowKit
set_option linter.unusedVariables false
def kp7 : Nat → Option (List Nat) := kpOf [(0, [1, 2, 3]), (1, [1, 2, 3, 26]), (2, [6]), (3, [1, 2, 3]), (4, [1, 2, 3, 7, 8]), (5, [2, 3, 7, 8, 11]), (6, [2, 3, 7, 8, 11, 12]), (7, [2, 3, 7, 8, 11, 12, 13]), (8, [2, 3, 7, 8, 11, 12, 13, 44]), (9, [2, 3, 7, 8, 11, 12, 13]), (10, [2, 3, 7, 8, 11, 12, 13, 14]), (11, [2, 3, 7, 8, 11, 12, 13, 14, 15]), (12, [2, 3, 7, 8, 11, 12, 13]), (13, [3, 7, 11, 12, 16, 17]), (14, [7, 11, 12, 16, 17, 18, 19]), (15, [7, 11, 12, 16, 17, 18, 19, 20, 21]), (16, [7, 11, 20, 126]), (17, [6]), (18, [7, 11, 20, 22]), (19, [7, 11, 20, 22, 23]), (20, [7, 11, 20, 22, 23, 130]), (21, [7, 11, 20, 22, 23]), (22, [7, 11, 20, 22, 23]), (23, [7, 11, 20, 22, 23, 146]), (24, [7, 11, 20, 22, 23]), (25, [7, 11, 20, 22, 23, 154]), (26, [6]), (27, [6]), (100000, [3, 7, 11, 12]), (100001, [2, 3, 7, 8, 11, 12, 13]), (100002, []), (100003, [7, 11, 20, 22, 23]), (200000, [2, 3, 7, 8, 11, 12, 13]), (200001, [2, 3, 7, 8, 11, 12, 13]), (200002, [7, 11, 20, 22, 23]), (200003, [7, 11, 20, 22, 23]), (300000, [6]), (400026, [1, 2, 3]), (400044, [2, 3, 7, 8, 11, 12, 13]), (400126, [7, 11, 20]), (400130, [7, 11, 20, 22, 23]), (400146, [7, 11, 20, 22, 23]), (400154, [7, 11, 20, 22, 23])]
def E7 (a9 : T9) (a12 : T12) (a11 : T11) (a10 : T10) (a15 : T15) (a14 : T14) (a39 : T39) (a38 : T38) (a44 : T44) (a46 : T46) (a40 : T40) : FEnv := [(9, w9 a9), (12, w12 a12), (11, w11 a11), (10, w10 a10), (15, w15 a15), (14, w14 a14), (39, w39 a39), (38, w38 a38), (44, w44 a44), (46, w46 a46), (40, w40 a40)]
theorem E7_good {a9 : T9} {a12 : T12} {a11 : T11} {a10 : T10} {a15 : T15} {a14 : T14} {a39 : T39} {a38 : T38} {a44 : T44} {a46 : T46} {a40 : T40} (oa9 : FunOK Try.prog 9 (w9 a9)) (oa12 : FunOK Try.prog 12 (w12 a12)) (oa11 : FunOK Try.prog 11 (w11 a11)) (oa10 : FunOK Try.prog 10 (w10 a10)) (oa15 : FunOK Try.prog 15 (w15 a15)) (oa14 : FunOK Try.prog 14 (w14 a14)) (oa39 : FunOK Try.prog 39 (w39 a39)) (oa38 : FunOK Try.prog 38 (w38 a38)) (oa44 : FunOK Try.prog 44 (w44 a44)) (oa46 : FunOK Try.prog 46 (w46 a46)) (oa40 : FunOK Try.prog 40 (w40 a40)) (la9 : Lin9 a9) (la12 : Lin12 a12) (la11 : Lin11 a11) (la10 : Lin10 a10) (la15 : Lin15 a15) (la14 : Lin14 a14) (la39 : Lin39 a39) (la38 : Lin38 a38) (la44 : Lin44 a44) (la46 : Lin46 a46) (la40 : Lin40 a40) : EnvGood Try.prog (E7 a9 a12 a11 a10 a15 a14 a39 a38 a44 a46 a40) := ((((((((((((EnvGood.nil _).cons oa40 (w40_lin la40)).cons oa46 (w46_lin la46)).cons oa44 (w44_lin la44)).cons oa38 (w38_lin la38)).cons oa39 (w39_lin la39)).cons oa14 (w14_lin la14)).cons oa15 (w15_lin la15)).cons oa10 (w10_lin la10)).cons oa11 (w11_lin la11)).cons oa12 (w12_lin la12)).cons oa9 (w9_lin la9))
theorem E7_lin {a9 : T9} {a12 : T12} {a11 : T11} {a10 : T10} {a15 : T15} {a14 : T14} {a39 : T39} {a38 : T38} {a44 : T44} {a46 : T46} {a40 : T40} (la9 : Lin9 a9) (la12 : Lin12 a12) (la11 : Lin11 a11) (la10 : Lin10 a10) (la15 : Lin15 a15) (la14 : Lin14 a14) (la39 : Lin39 a39) (la38 : Lin38 a38) (la44 : Lin44 a44) (la46 : Lin46 a46) (la40 : Lin40 a40) : EnvLin (E7 a9 a12 a11 a10 a15 a14 a39 a38 a44 a46 a40) := by
  intro g F h
  simp only [E7, List.mem_cons, List.not_mem_nil, or_false] at h
  rcases h with h | h | h | h | h | h | h | h | h | h | h
  · cases h; exact w9_lin la9
  · cases h; exact w12_lin la12
  · cases h; exact w11_lin la11
  · cases h; exact w10_lin la10
  · cases h; exact w15_lin la15
  · cases h; exact w14_lin la14
  · cases h; exact w39_lin la39
  · cases h; exact w38_lin la38
  · cases h; exact w44_lin la44
  · cases h; exact w46_lin la46
  · cases h; exact w40_lin la40
noncomputable def b7 : Code := Try.f7.body.getD .skip
noncomputable def c7_0 : Code := (.seq (codeAt [1, 1, 1, 1, 1, 1, 0, 1, 0, 0, 0, 0] b7) (.seq (.cond (.tmp 44) .skip (.exit 0)) (.seq (.block 1 (.seq (codeAt [1, 1, 1, 1, 1, 1, 0, 1, 0, 0, 1, 0, 0, 0] b7) (.seq (codeAt [1, 1, 1, 1, 1, 1, 0, 1, 0, 0, 1, 0, 0, 1, 0] b7) (codeAt [1, 1, 1, 1, 1, 1, 0, 1, 0, 0, 1, 0, 0, 1, 1] b7)))) (codeAt [1, 1, 1, 1, 1, 1, 0, 1, 0, 0, 1, 1] b7))))
noncomputable def c7_1 : Code := (.loop c7_0)
noncomputable def c7_2 : Code := (.block 0 c7_1)
noncomputable def c7_3 : Code := (.seq (codeAt [1, 1, 1, 1, 1, 1, 1, 1, 1, 1, 1, 1, 0, 1, 0, 0, 0, 0] b7) (.seq (.cond (.tmp 130) .skip (.exit 2)) (.seq (.block 3 (.seq (codeAt [1, 1, 1, 1, 1, 1, 1, 1, 1, 1, 1, 1, 0, 1, 0, 0, 1, 0, 0, 0] b7) (.seq (codeAt [1, 1, 1, 1, 1, 1, 1, 1, 1, 1, 1, 1, 0, 1, 0, 0, 1, 0, 0, 1, 0, 0] b7) (.seq (.cond (.tmp 146) (codeAt [1, 1, 1, 1, 1, 1, 1, 1, 1, 1, 1, 1, 0, 1, 0, 0, 1, 0, 0, 1, 0, 1, 0] b7) .skip) (.seq (codeAt [1, 1, 1, 1, 1, 1, 1, 1, 1, 1, 1, 1, 0, 1, 0, 0, 1, 0, 0, 1, 1, 0] b7) (.cond (.tmp 154) (.seq (codeAt [1, 1, 1, 1, 1, 1, 1, 1, 1, 1, 1, 1, 0, 1, 0, 0, 1, 0, 0, 1, 1, 1, 0, 0] b7) .ret) .skip)))))) (codeAt [1, 1, 1, 1, 1, 1, 1, 1, 1, 1, 1, 1, 0, 1, 0, 0, 1, 1] b7))))
noncomputable def c7_4 : Code := (.loop c7_3)
noncomputable def c7_5 : Code := (.block 2 c7_4)
noncomputable def c7_6 : Code := (.seq (codeAt [1, 1, 1, 1, 1, 1, 1, 1, 1, 1, 1, 1, 1, 0] b7) .ret)
noncomputable def c7_7 : Code := (.seq c7_5 c7_6)
noncomputable def c7_8 : Code := (.seq (.cond (.tmp 126) (.seq (codeAt [1, 1, 1, 1, 1, 1, 1, 1, 1, 1, 0, 1, 0, 0] b7) .ret) .skip) (.seq (codeAt [1, 1, 1, 1, 1, 1, 1, 1, 1, 1, 1, 0] b7) (.seq (codeAt [1, 1, 1, 1, 1, 1, 1, 1, 1, 1, 1, 1, 0, 0] b7) c7_7)))
noncomputable def c7_9 : Code := (.seq (codeAt [1, 1, 1, 1, 1, 1, 1, 0] b7) (.seq (codeAt [1, 1, 1, 1, 1, 1, 1, 1, 0] b7) (.seq (codeAt [1, 1, 1, 1, 1, 1, 1, 1, 1, 0] b7) (.seq (codeAt [1, 1, 1, 1, 1, 1, 1, 1, 1, 1, 0, 0] b7) c7_8))))
noncomputable def c7_10 : Code := (.seq c7_2 c7_9)
noncomputable def c7_11 : Code := (.seq (codeAt [0] b7) (.seq (codeAt [1, 0, 0] b7) (.seq (.cond (.tmp 26) (.seq (codeAt [1, 0, 1, 0, 0] b7) .ret) .skip) (.seq (codeAt [1, 1, 0] b7) (.seq (codeAt [1, 1, 1, 0] b7) (.seq (codeAt [1, 1, 1, 1, 0] b7) (.seq (codeAt [1, 1, 1, 1, 1, 0] b7) (.seq (codeAt [1, 1, 1, 1, 1, 1, 0, 0] b7) c7_10))))))))
noncomputable def g7_p0 (a9 : T9) (a12 : T12) (a11 : T11) (a10 : T10) (a15 : T15) (a14 : T14) (a39 : T39) (a38 : T38) (a44 : T44) (a46 : T46) (a40 : T40) (R : Type) (t0_0 : Int) (t0_1 : Int) (t0_2 : Int) (t0_3 : Int) (t0_4 : Int) (t1 : ByteArray) (t2 : Int) (H : Heap) (kN : Int → Nat → Nat → Int → Int → Sl → Sl → Int → Heap → Option R) (kR : Bool → Heap → Option R) : Option R :=
  alo H (.cells [(V.i .u8 t0_0), (V.i .u8 t0_1), (V.i .u8 t0_2), (V.i .u8 t0_3), (V.i .u8 t0_4)] 23 false) fun i70 h71 =>
  sel (decide (((t1.size : Nat) : Int) > (300 : Int))) (
    a9 R h71 fun x72 h73 =>
    kR x72 h73) (
    ((h71).st i70 (0 + 0) (V.i .u8 (2 : Int))).bind fun h75 =>
    ((h75).ldI .u8 i70 (0 + 0)).bind fun x76 =>
    ((h75).ldI .u8 i70 (0 + 1)).bind fun x77 =>
    ((h75).ldI .u8 i70 (0 + 2)).bind fun x78 =>
    ((h75).ldI .u8 i70 (0 + 3)).bind fun x79 =>
    ((h75).ldI .u8 i70 (0 + 4)).bind fun x80 =>
    a12 R x76 x77 x78 x79 x80 h75 fun x81 x82 x83 x84 h85 =>
    a11 R t1 h85 fun x86 h87 =>
    if 0 ≤ ((x86.len : Nat) : Int) ∧ ((x86.len : Nat) : Int) ≤ ((x86.len : Nat) : Int) ∧ ((x86.len : Nat) : Int) ≤ 9223372036854775807 ∧ ((x86.len : Nat) : Int) * ((1 : Nat) : Int) ≤ 281474976710656 then (
      ((zeroCellsV Try.prog 4 (Int.toNat ((x86.len : Nat) : Int)))).bind fun vs88 =>
      alo h87 (.cells vs88 4 false) fun i89 h90 =>
      kN t2 i70 0 x81 x82 x86 (Sl.mk (some (i89, 0)) (Int.toNat ((x86.len : Nat) : Int)) (.ex (Int.toNat ((x86.len : Nat) : Int)))) (0 : Int) h90)
    else (
      none))
theorem g7_p0_eq (a9 : T9) (a12 : T12) (a11 : T11) (a10 : T10) (a15 : T15) (a14 : T14) (a39 : T39) (a38 : T38) (a44 : T44) (a46 : T46) (a40 : T40) {R : Type} (c2 : Code) (t0_0 : Int) (t0_1 : Int) (t0_2 : Int) (t0_3 : Int) (t0_4 : Int) (t1 : ByteArray) (t2 : Int) (H : Heap) (K : Ex → Fr → Heap → Option R) : ev Try.prog (E7 a9 a12 a11 a10 a15 a14 a39 a38 a44 a46 a40) loopLim Try.f7.ntmps kp7 (.seq (codeAt [0] b7) (.seq (codeAt [1, 0, 0] b7) (.seq (.cond (.tmp 26) (.seq (codeAt [1, 0, 1, 0, 0] b7) .ret) .skip) (.seq (codeAt [1, 1, 0] b7) (.seq (codeAt [1, 1, 1, 0] b7) (.seq (codeAt [1, 1, 1, 1, 0] b7) (.seq (codeAt [1, 1, 1, 1, 1, 0] b7) (.seq (codeAt [1, 1, 1, 1, 1, 1, 0, 0] b7) c2)))))))) [(0, (V.agg [(V.i .u8 t0_0), (V.i .u8 t0_1), (V.i .u8 t0_2), (V.i .u8 t0_3), (V.i .u8 t0_4)])), (1, (V.s t1)), (2, (V.i .u8 t2))] H K = g7_p0 a9 a12 a11 a10 a15 a14 a39 a38 a44 a46 a40 R t0_0 t0_1 t0_2 t0_3 t0_4 t1 t2 H (fun t2 t3_0 t3_1 t7 t8 t11 t12 t13 H => ev Try.prog (E7 a9 a12 a11 a10 a15 a14 a39 a38 a44 a46 a40) loopLim Try.f7.ntmps kp7 c2 [(2, (V.i .u8 t2)), (3, (V.p (some (t3_0, t3_1)))), (7, (V.i .i64 t7)), (8, (V.i .i64 t8)), (11, (V.sl t11)), (12, (V.sl t12)), (13, (V.i .i64 t13))] H K) (fun t6 H => K .ret [(6, (V.b t6))] H) := by kernel_rfl
theorem g7_p0_lin {a9 : T9} {a12 : T12} {a11 : T11} {a10 : T10} {a15 : T15} {a14 : T14} {a39 : T39} {a38 : T38} {a44 : T44} {a46 : T46} {a40 : T40} (la9 : Lin9 a9) (la12 : Lin12 a12) (la11 : Lin11 a11) (la10 : Lin10 a10) (la15 : Lin15 a15) (la14 : Lin14 a14) (la39 : Lin39 a39) (la38 : Lin38 a38) (la44 : Lin44 a44) (la46 : Lin46 a46) (la40 : Lin40 a40) {R S : Type} {k : S → Option R} {t0_0 : Int} {t0_1 : Int} {t0_2 : Int} {t0_3 : Int} {t0_4 : Int} {t1 : ByteArray} {t2 : Int} {H : Heap} {fkN : Int → Nat → Nat → Int → Int → Sl → Sl → Int → Heap → Option R} {gkN : Int → Nat → Nat → Int → Int → Sl → Sl → Int → Heap → Option S} {fkR : Bool → Heap → Option R} {gkR : Bool → Heap → Option S} (hkN : ∀ t2 t3_0 t3_1 t7 t8 t11 t12 t13 H, fkN t2 t3_0 t3_1 t7 t8 t11 t12 t13 H = (gkN t2 t3_0 t3_1 t7 t8 t11 t12 t13 H).bind k) (hkR : ∀ t6 H, fkR t6 H = (gkR t6 H).bind k) : g7_p0 a9 a12 a11 a10 a15 a14 a39 a38 a44 a46 a40 R t0_0 t0_1 t0_2 t0_3 t0_4 t1 t2 H fkN fkR = (g7_p0 a9 a12 a11 a10 a15 a14 a39 a38 a44 a46 a40 S t0_0 t0_1 t0_2 t0_3 t0_4 t1 t2 H gkN gkR).bind k := by
  delta g7_p0; exact (
    alo_lin fun i70 h71 =>
    sl_lin (
      la9.l fun x72 h73 =>
      hkR _ _) (
      bl fun h75 =>
      bl fun x76 =>
      bl fun x77 =>
      bl fun x78 =>
      bl fun x79 =>
      bl fun x80 =>
      la12.l fun x81 x82 x83 x84 h85 =>
      la11.l fun x86 h87 =>
      il (
        bl fun vs88 =>
        alo_lin fun i89 h90 =>
        hkN _ _ _ _ _ _ _ _ _) (
        rfl)))
noncomputable def g7_p1 (a9 : T9) (a12 : T12) (a11 : T11) (a10 : T10) (a15 : T15) (a14 : T14) (a39 : T39) (a38 : T38) (a44 : T44) (a46 : T46) (a40 : T40) (R : Type) (t2 : Int) (t3_0 : Nat) (t3_1 : Nat) (t7 : Int) (t8 : Int) (t11 : Sl) (t12 : Sl) (t13 : Int) (H : Heap) (kN : Int → Nat → Nat → Int → Int → Sl → Sl → Int → Heap → Option R) (kE0 : Nat → Nat → Int → Sl → Sl → Heap → Option R) : Option R :=
  sel (decide (t13 < ((t11.len : Nat) : Int))) (
    if t8 = 0 then (
      none)
    else (
      if (if (IntKind.wrap .i64 (((t11.len : Nat) : Int) - (IntKind.wrap .i64 ((IntKind.wrap .i64 (Int.tdiv t13 t8)) * t8)))) < t8 then (IntKind.wrap .i64 (((t11.len : Nat) : Int) - (IntKind.wrap .i64 ((IntKind.wrap .i64 (Int.tdiv t13 t8)) * t8)))) else t8) = 0 then (
        none)
      else (
        if 0 ≤ (IntKind.wrap .i64 ((IntKind.wrap .i64 ((IntKind.wrap .i64 (Int.tdiv t13 t8)) * t8)) + (Int.tmod (IntKind.wrap .i64 ((IntKind.wrap .i64 (t13 - (IntKind.wrap .i64 ((IntKind.wrap .i64 (Int.tdiv t13 t8)) * t8)))) + (IntKind.wrap .i64 t2))) (if (IntKind.wrap .i64 (((t11.len : Nat) : Int) - (IntKind.wrap .i64 ((IntKind.wrap .i64 (Int.tdiv t13 t8)) * t8)))) < t8 then (IntKind.wrap .i64 (((t11.len : Nat) : Int) - (IntKind.wrap .i64 ((IntKind.wrap .i64 (Int.tdiv t13 t8)) * t8)))) else t8)))) ∧ (IntKind.wrap .i64 ((IntKind.wrap .i64 ((IntKind.wrap .i64 (Int.tdiv t13 t8)) * t8)) + (Int.tmod (IntKind.wrap .i64 ((IntKind.wrap .i64 (t13 - (IntKind.wrap .i64 ((IntKind.wrap .i64 (Int.tdiv t13 t8)) * t8)))) + (IntKind.wrap .i64 t2))) (if (IntKind.wrap .i64 (((t11.len : Nat) : Int) - (IntKind.wrap .i64 ((IntKind.wrap .i64 (Int.tdiv t13 t8)) * t8)))) < t8 then (IntKind.wrap .i64 (((t11.len : Nat) : Int) - (IntKind.wrap .i64 ((IntKind.wrap .i64 (Int.tdiv t13 t8)) * t8)))) else t8)))) < ((t11.len : Nat) : Int) then (
          (t11.a).bind fun q91 =>
          ((H).ldB q91.1 (q91.2 + Int.toNat (IntKind.wrap .i64 ((IntKind.wrap .i64 ((IntKind.wrap .i64 (Int.tdiv t13 t8)) * t8)) + (Int.tmod (IntKind.wrap .i64 ((IntKind.wrap .i64 (t13 - (IntKind.wrap .i64 ((IntKind.wrap .i64 (Int.tdiv t13 t8)) * t8)))) + (IntKind.wrap .i64 t2))) (if (IntKind.wrap .i64 (((t11.len : Nat) : Int) - (IntKind.wrap .i64 ((IntKind.wrap .i64 (Int.tdiv t13 t8)) * t8)))) < t8 then (IntKind.wrap .i64 (((t11.len : Nat) : Int) - (IntKind.wrap .i64 ((IntKind.wrap .i64 (Int.tdiv t13 t8)) * t8)))) else t8)))) * 1)).bind fun x92 =>
          if 0 ≤ t13 ∧ t13 < ((t12.len : Nat) : Int) then (
            (t12.a).bind fun q93 =>
            ((H).st q93.1 (q93.2 + Int.toNat t13 * 1) (V.b x92)).bind fun h95 =>
            kN t2 t3_0 t3_1 t7 t8 t11 t12 (IntKind.wrap .i64 (t13 + (1 : Int))) h95)
          else (
            none))
        else (
          none)))) (
    kE0 t3_0 t3_1 t7 t11 t12 H)
theorem g7_p1_eq (a9 : T9) (a12 : T12) (a11 : T11) (a10 : T10) (a15 : T15) (a14 : T14) (a39 : T39) (a38 : T38) (a44 : T44) (a46 : T46) (a40 : T40) (la9 : Lin9 a9) (la12 : Lin12 a12) (la11 : Lin11 a11) (la10 : Lin10 a10) (la15 : Lin15 a15) (la14 : Lin14 a14) (la39 : Lin39 a39) (la38 : Lin38 a38) (la44 : Lin44 a44) (la46 : Lin46 a46) (la40 : Lin40 a40) {R : Type} (t2 : Int) (t3_0 : Nat) (t3_1 : Nat) (t7 : Int) (t8 : Int) (t11 : Sl) (t12 : Sl) (t13 : Int) (H : Heap) (K : Ex → Fr → Heap → Option R) : ev Try.prog (E7 a9 a12 a11 a10 a15 a14 a39 a38 a44 a46 a40) loopLim Try.f7.ntmps kp7 c7_0 [(2, (V.i .u8 t2)), (3, (V.p (some (t3_0, t3_1)))), (7, (V.i .i64 t7)), (8, (V.i .i64 t8)), (11, (V.sl t11)), (12, (V.sl t12)), (13, (V.i .i64 t13))] H K = g7_p1 a9 a12 a11 a10 a15 a14 a39 a38 a44 a46 a40 R t2 t3_0 t3_1 t7 t8 t11 t12 t13 H (fun t2 t3_0 t3_1 t7 t8 t11 t12 t13 H => K .normal [(2, (V.i .u8 t2)), (3, (V.p (some (t3_0, t3_1)))), (7, (V.i .i64 t7)), (8, (V.i .i64 t8)), (11, (V.sl t11)), (12, (V.sl t12)), (13, (V.i .i64 t13))] H) (fun t3_0 t3_1 t7 t11 t12 H => K (.exit 0) [(3, (V.p (some (t3_0, t3_1)))), (7, (V.i .i64 t7)), (11, (V.sl t11)), (12, (V.sl t12))] H) := by kernel_rfl
theorem g7_p1_lin {a9 : T9} {a12 : T12} {a11 : T11} {a10 : T10} {a15 : T15} {a14 : T14} {a39 : T39} {a38 : T38} {a44 : T44} {a46 : T46} {a40 : T40} (la9 : Lin9 a9) (la12 : Lin12 a12) (la11 : Lin11 a11) (la10 : Lin10 a10) (la15 : Lin15 a15) (la14 : Lin14 a14) (la39 : Lin39 a39) (la38 : Lin38 a38) (la44 : Lin44 a44) (la46 : Lin46 a46) (la40 : Lin40 a40) {R S : Type} {k : S → Option R} {t2 : Int} {t3_0 : Nat} {t3_1 : Nat} {t7 : Int} {t8 : Int} {t11 : Sl} {t12 : Sl} {t13 : Int} {H : Heap} {fkN : Int → Nat → Nat → Int → Int → Sl → Sl → Int → Heap → Option R} {gkN : Int → Nat → Nat → Int → Int → Sl → Sl → Int → Heap → Option S} {fkE0 : Nat → Nat → Int → Sl → Sl → Heap → Option R} {gkE0 : Nat → Nat → Int → Sl → Sl → Heap → Option S} (hkN : ∀ t2 t3_0 t3_1 t7 t8 t11 t12 t13 H, fkN t2 t3_0 t3_1 t7 t8 t11 t12 t13 H = (gkN t2 t3_0 t3_1 t7 t8 t11 t12 t13 H).bind k) (hkE0 : ∀ t3_0 t3_1 t7 t11 t12 H, fkE0 t3_0 t3_1 t7 t11 t12 H = (gkE0 t3_0 t3_1 t7 t11 t12 H).bind k) : g7_p1 a9 a12 a11 a10 a15 a14 a39 a38 a44 a46 a40 R t2 t3_0 t3_1 t7 t8 t11 t12 t13 H fkN fkE0 = (g7_p1 a9 a12 a11 a10 a15 a14 a39 a38 a44 a46 a40 S t2 t3_0 t3_1 t7 t8 t11 t12 t13 H gkN gkE0).bind k := by
  delta g7_p1; exact (
    sl_lin (
      il (
        rfl) (
        il (
          rfl) (
          il (
            bl fun q91 =>
            bl fun x92 =>
            il (
              bl fun q93 =>
              bl fun h95 =>
              hkN _ _ _ _ _ _ _ _ _) (
              rfl)) (
            rfl)))) (
      hkE0 _ _ _ _ _ _))
abbrev g7_p2_S := Int × Nat × Nat × Int × Int × Sl × Sl × Int
abbrev g7_p2_O := Nat × Nat × Int × Sl × Sl
def g7_p2_es (s : g7_p2_S) : Fr := [(2, (V.i .u8 s.1)), (3, (V.p (some (s.2.1, s.2.2.1)))), (7, (V.i .i64 s.2.2.2.1)), (8, (V.i .i64 s.2.2.2.2.1)), (11, (V.sl s.2.2.2.2.2.1)), (12, (V.sl s.2.2.2.2.2.2.1)), (13, (V.i .i64 s.2.2.2.2.2.2.2))]
def g7_p2_er (r : g7_p2_O) : Ex × Fr := ((.exit 0), [(3, (V.p (some (r.1, r.2.1)))), (7, (V.i .i64 r.2.2.1)), (11, (V.sl r.2.2.2.1)), (12, (V.sl r.2.2.2.2))])
noncomputable def g7_p2_b (a9 : T9) (a12 : T12) (a11 : T11) (a10 : T10) (a15 : T15) (a14 : T14) (a39 : T39) (a38 : T38) (a44 : T44) (a46 : T46) (a40 : T40) (s : g7_p2_S) (H : Heap) : Option (Rd g7_p2_S g7_p2_O × Heap) :=
  g7_p1 a9 a12 a11 a10 a15 a14 a39 a38 a44 a46 a40 _ s.1 s.2.1 s.2.2.1 s.2.2.2.1 s.2.2.2.2.1 s.2.2.2.2.2.1 s.2.2.2.2.2.2.1 s.2.2.2.2.2.2.2 H (fun t2 t3_0 t3_1 t7 t8 t11 t12 t13 H => some (.go (t2, t3_0, t3_1, t7, t8, t11, t12, t13), H)) (fun t3_0 t3_1 t7 t11 t12 H => some (.up (t3_0, t3_1, t7, t11, t12), H))
noncomputable def g7_p2 (a9 : T9) (a12 : T12) (a11 : T11) (a10 : T10) (a15 : T15) (a14 : T14) (a39 : T39) (a38 : T38) (a44 : T44) (a46 : T46) (a40 : T40) (R : Type) (t2 : Int) (t3_0 : Nat) (t3_1 : Nat) (t7 : Int) (t8 : Int) (t11 : Sl) (t12 : Sl) (t13 : Int) (H : Heap) (kE0 : Nat → Nat → Int → Sl → Sl → Heap → Option R) : Option R :=
  (tlim (g7_p2_b a9 a12 a11 a10 a15 a14 a39 a38 a44 a46 a40) (t2, t3_0, t3_1, t7, t8, t11, t12, t13) H).bind fun p => kE0 p.1.1 p.1.2.1 p.1.2.2.1 p.1.2.2.2.1 p.1.2.2.2.2 p.2
theorem g7_p2_lin {a9 : T9} {a12 : T12} {a11 : T11} {a10 : T10} {a15 : T15} {a14 : T14} {a39 : T39} {a38 : T38} {a44 : T44} {a46 : T46} {a40 : T40} (la9 : Lin9 a9) (la12 : Lin12 a12) (la11 : Lin11 a11) (la10 : Lin10 a10) (la15 : Lin15 a15) (la14 : Lin14 a14) (la39 : Lin39 a39) (la38 : Lin38 a38) (la44 : Lin44 a44) (la46 : Lin46 a46) (la40 : Lin40 a40) {R S : Type} {k : S → Option R} {t2 : Int} {t3_0 : Nat} {t3_1 : Nat} {t7 : Int} {t8 : Int} {t11 : Sl} {t12 : Sl} {t13 : Int} {H : Heap} {fkE0 : Nat → Nat → Int → Sl → Sl → Heap → Option R} {gkE0 : Nat → Nat → Int → Sl → Sl → Heap → Option S} (hkE0 : ∀ t3_0 t3_1 t7 t11 t12 H, fkE0 t3_0 t3_1 t7 t11 t12 H = (gkE0 t3_0 t3_1 t7 t11 t12 H).bind k) : g7_p2 a9 a12 a11 a10 a15 a14 a39 a38 a44 a46 a40 R t2 t3_0 t3_1 t7 t8 t11 t12 t13 H fkE0 = (g7_p2 a9 a12 a11 a10 a15 a14 a39 a38 a44 a46 a40 S t2 t3_0 t3_1 t7 t8 t11 t12 t13 H gkE0).bind k := by
  exact bl fun p => hkE0 _ _ _ _ _ _
theorem g7_p2_eq (a9 : T9) (a12 : T12) (a11 : T11) (a10 : T10) (a15 : T15) (a14 : T14) (a39 : T39) (a38 : T38) (a44 : T44) (a46 : T46) (a40 : T40) (la9 : Lin9 a9) (la12 : Lin12 a12) (la11 : Lin11 a11) (la10 : Lin10 a10) (la15 : Lin15 a15) (la14 : Lin14 a14) (la39 : Lin39 a39) (la38 : Lin38 a38) (la44 : Lin44 a44) (la46 : Lin46 a46) (la40 : Lin40 a40) {R : Type} (t2 : Int) (t3_0 : Nat) (t3_1 : Nat) (t7 : Int) (t8 : Int) (t11 : Sl) (t12 : Sl) (t13 : Int) (H : Heap) (K : Ex → Fr → Heap → Option R) : ev Try.prog (E7 a9 a12 a11 a10 a15 a14 a39 a38 a44 a46 a40) loopLim Try.f7.ntmps kp7 c7_1 [(2, (V.i .u8 t2)), (3, (V.p (some (t3_0, t3_1)))), (7, (V.i .i64 t7)), (8, (V.i .i64 t8)), (11, (V.sl t11)), (12, (V.sl t12)), (13, (V.i .i64 t13))] H K = g7_p2 a9 a12 a11 a10 a15 a14 a39 a38 a44 a46 a40 R t2 t3_0 t3_1 t7 t8 t11 t12 t13 H (fun t3_0 t3_1 t7 t11 t12 H => K (.exit 0) [(3, (V.p (some (t3_0, t3_1)))), (7, (V.i .i64 t7)), (11, (V.sl t11)), (12, (V.sl t12))] H) := by
  show ev Try.prog (E7 a9 a12 a11 a10 a15 a14 a39 a38 a44 a46 a40) loopLim Try.f7.ntmps kp7 (.loop c7_0) [(2, (V.i .u8 t2)), (3, (V.p (some (t3_0, t3_1)))), (7, (V.i .i64 t7)), (8, (V.i .i64 t8)), (11, (V.sl t11)), (12, (V.sl t12)), (13, (V.i .i64 t13))] H K = _
  delta g7_p2
  refine (ev_tlim (b := g7_p2_b a9 a12 a11 a10 a15 a14 a39 a38 a44 a46 a40) (es := g7_p2_es) (er := g7_p2_er) (by intro r; exact nofun) (fun s H => ?_) (t2, t3_0, t3_1, t7, t8, t11, t12, t13) H K).trans (bc fun p => rfl)
  exact (g7_p1_eq a9 a12 a11 a10 a15 a14 a39 a38 a44 a46 a40 la9 la12 la11 la10 la15 la14 la39 la38 la44 la46 la40 s.1 s.2.1 s.2.2.1 s.2.2.2.1 s.2.2.2.2.1 s.2.2.2.2.2.1 s.2.2.2.2.2.2.1 s.2.2.2.2.2.2.2 H ret3).trans (g7_p1_lin la9 la12 la11 la10 la15 la14 la39 la38 la44 la46 la40 (fun _ _ _ _ _ _ _ _ _ => rfl) (fun _ _ _ _ _ _ => rfl))
noncomputable def g7_p3 (a9 : T9) (a12 : T12) (a11 : T11) (a10 : T10) (a15 : T15) (a14 : T14) (a39 : T39) (a38 : T38) (a44 : T44) (a46 : T46) (a40 : T40) (R : Type) (t2 : Int) (t3_0 : Nat) (t3_1 : Nat) (t7 : Int) (t8 : Int) (t11 : Sl) (t12 : Sl) (t13 : Int) (H : Heap) (kN : Nat → Nat → Int → Sl → Sl → Heap → Option R) : Option R :=
  g7_p2 a9 a12 a11 a10 a15 a14 a39 a38 a44 a46 a40 R t2 t3_0 t3_1 t7 t8 t11 t12 t13 H (fun t3_0 t3_1 t7 t11 t12 H => kN t3_0 t3_1 t7 t11 t12 H)
theorem g7_p3_lin {a9 : T9} {a12 : T12} {a11 : T11} {a10 : T10} {a15 : T15} {a14 : T14} {a39 : T39} {a38 : T38} {a44 : T44} {a46 : T46} {a40 : T40} (la9 : Lin9 a9) (la12 : Lin12 a12) (la11 : Lin11 a11) (la10 : Lin10 a10) (la15 : Lin15 a15) (la14 : Lin14 a14) (la39 : Lin39 a39) (la38 : Lin38 a38) (la44 : Lin44 a44) (la46 : Lin46 a46) (la40 : Lin40 a40) {R S : Type} {k : S → Option R} {t2 : Int} {t3_0 : Nat} {t3_1 : Nat} {t7 : Int} {t8 : Int} {t11 : Sl} {t12 : Sl} {t13 : Int} {H : Heap} {fkN : Nat → Nat → Int → Sl → Sl → Heap → Option R} {gkN : Nat → Nat → Int → Sl → Sl → Heap → Option S} (hkN : ∀ t3_0 t3_1 t7 t11 t12 H, fkN t3_0 t3_1 t7 t11 t12 H = (gkN t3_0 t3_1 t7 t11 t12 H).bind k) : g7_p3 a9 a12 a11 a10 a15 a14 a39 a38 a44 a46 a40 R t2 t3_0 t3_1 t7 t8 t11 t12 t13 H fkN = (g7_p3 a9 a12 a11 a10 a15 a14 a39 a38 a44 a46 a40 S t2 t3_0 t3_1 t7 t8 t11 t12 t13 H gkN).bind k := by
  exact g7_p2_lin la9 la12 la11 la10 la15 la14 la39 la38 la44 la46 la40 (fun _ _ _ _ _ _ => hkN _ _ _ _ _ _)
theorem g7_p3_eq (a9 : T9) (a12 : T12) (a11 : T11) (a10 : T10) (a15 : T15) (a14 : T14) (a39 : T39) (a38 : T38) (a44 : T44) (a46 : T46) (a40 : T40) (la9 : Lin9 a9) (la12 : Lin12 a12) (la11 : Lin11 a11) (la10 : Lin10 a10) (la15 : Lin15 a15) (la14 : Lin14 a14) (la39 : Lin39 a39) (la38 : Lin38 a38) (la44 : Lin44 a44) (la46 : Lin46 a46) (la40 : Lin40 a40) {R : Type} (t2 : Int) (t3_0 : Nat) (t3_1 : Nat) (t7 : Int) (t8 : Int) (t11 : Sl) (t12 : Sl) (t13 : Int) (H : Heap) (K : Ex → Fr → Heap → Option R) : ev Try.prog (E7 a9 a12 a11 a10 a15 a14 a39 a38 a44 a46 a40) loopLim Try.f7.ntmps kp7 c7_2 [(2, (V.i .u8 t2)), (3, (V.p (some (t3_0, t3_1)))), (7, (V.i .i64 t7)), (8, (V.i .i64 t8)), (11, (V.sl t11)), (12, (V.sl t12)), (13, (V.i .i64 t13))] H K = g7_p3 a9 a12 a11 a10 a15 a14 a39 a38 a44 a46 a40 R t2 t3_0 t3_1 t7 t8 t11 t12 t13 H (fun t3_0 t3_1 t7 t11 t12 H => K .normal [(3, (V.p (some (t3_0, t3_1)))), (7, (V.i .i64 t7)), (11, (V.sl t11)), (12, (V.sl t12))] H) := by
  show ev Try.prog (E7 a9 a12 a11 a10 a15 a14 a39 a38 a44 a46 a40) loopLim Try.f7.ntmps kp7 (.block 0 c7_1) [(2, (V.i .u8 t2)), (3, (V.p (some (t3_0, t3_1)))), (7, (V.i .i64 t7)), (8, (V.i .i64 t8)), (11, (V.sl t11)), (12, (V.sl t12)), (13, (V.i .i64 t13))] H K = _
  rw [ev_block]
  delta g7_p3
  exact (g7_p2_eq a9 a12 a11 a10 a15 a14 a39 a38 a44 a46 a40 la9 la12 la11 la10 la15 la14 la39 la38 la44 la46 la40 t2 t3_0 t3_1 t7 t8 t11 t12 t13 H (kBlock kp7 0 K))
noncomputable def g7_p4 (a9 : T9) (a12 : T12) (a11 : T11) (a10 : T10) (a15 : T15) (a14 : T14) (a39 : T39) (a38 : T38) (a44 : T44) (a46 : T46) (a40 : T40) (R : Type) (t3_0 : Nat) (t3_1 : Nat) (t7 : Int) (t11 : Sl) (t12 : Sl) (H : Heap) (kN : Int → Sl → V → Bool → Heap → Option R) : Option R :=
  ((H).ldI .u8 t3_0 (t3_1 + 0)).bind fun x139 =>
  ((H).ldI .u8 t3_0 (t3_1 + 1)).bind fun x140 =>
  ((H).ldI .u8 t3_0 (t3_1 + 2)).bind fun x141 =>
  ((H).ldI .u8 t3_0 (t3_1 + 3)).bind fun x142 =>
  ((H).ldI .u8 t3_0 (t3_1 + 4)).bind fun x143 =>
  a10 R x139 x140 x141 x142 x143 H fun x144 x145 h146 =>
  if (V.one x144) = true then (
    ((h146).ldI .u8 t3_0 (t3_1 + 0)).bind fun x147 =>
    ((h146).ldI .u8 t3_0 (t3_1 + 1)).bind fun x148 =>
    ((h146).ldI .u8 t3_0 (t3_1 + 2)).bind fun x149 =>
    ((h146).ldI .u8 t3_0 (t3_1 + 3)).bind fun x150 =>
    ((h146).ldI .u8 t3_0 (t3_1 + 4)).bind fun x151 =>
    a10 R x147 x148 x149 x150 x151 h146 fun x152 x153 h154 =>
    if (V.one x152) = true then (
      a15 R t7 h154 fun x155 x156 h157 =>
      if (V.one x155) = true then (
        sel (x145 != (0 : Int)) (
          kN t7 t11 x155 true h157) (
          sel (x153 != (0 : Int)) (
            kN t7 t11 x155 true h157) (
            sel (x156 != (0 : Int)) (
              kN t7 t11 x155 true h157) (
              ((ifNil x144)).bind fun x158 =>
              sel x158 (
                kN t7 t11 x155 true h157) (
                ((ifNil x152)).bind fun x159 =>
                sel x159 (
                  kN t7 t11 x155 true h157) (
                  ((ifNil x155)).bind fun x160 =>
                  sel x160 (
                    kN t7 t11 x155 true h157) (
                    a14 R x144 t11 h157 fun x161 h162 =>
                    a14 R x152 t12 h162 fun x163 h164 =>
                    sel (x161 != x163) (
                      kN t7 t11 x155 true h164) (
                      invk Try.prog (E7 a9 a12 a11 a10 a15 a14 a39 a38 a44 a46 a40) x144 "Level" [] h164 fun x165 h166 =>
                      ((V.asI .i64 x165)).bind fun x167 =>
                      invk Try.prog (E7 a9 a12 a11 a10 a15 a14 a39 a38 a44 a46 a40) x152 "Level" [] h166 fun x168 h169 =>
                      ((V.asI .i64 x168)).bind fun x170 =>
                      kN t7 t11 x155 (x167 != x170) h169))))))))
      else (
        none))
    else (
      none))
  else (
    none)
theorem g7_p4_eq (a9 : T9) (a12 : T12) (a11 : T11) (a10 : T10) (a15 : T15) (a14 : T14) (a39 : T39) (a38 : T38) (a44 : T44) (a46 : T46) (a40 : T40) {R : Type} (c2 : Code) (t3_0 : Nat) (t3_1 : Nat) (t7 : Int) (t11 : Sl) (t12 : Sl) (H : Heap) (K : Ex → Fr → Heap → Option R) : ev Try.prog (E7 a9 a12 a11 a10 a15 a14 a39 a38 a44 a46 a40) loopLim Try.f7.ntmps kp7 (.seq (codeAt [1, 1, 1, 1, 1, 1, 1, 0] b7) (.seq (codeAt [1, 1, 1, 1, 1, 1, 1, 1, 0] b7) (.seq (codeAt [1, 1, 1, 1, 1, 1, 1, 1, 1, 0] b7) (.seq (codeAt [1, 1, 1, 1, 1, 1, 1, 1, 1, 1, 0, 0] b7) c2)))) [(3, (V.p (some (t3_0, t3_1)))), (7, (V.i .i64 t7)), (11, (V.sl t11)), (12, (V.sl t12))] H K = g7_p4 a9 a12 a11 a10 a15 a14 a39 a38 a44 a46 a40 R t3_0 t3_1 t7 t11 t12 H (fun t7 t11 t20 t126 H => ev Try.prog (E7 a9 a12 a11 a10 a15 a14 a39 a38 a44 a46 a40) loopLim Try.f7.ntmps kp7 c2 [(7, (V.i .i64 t7)), (11, (V.sl t11)), (20, t20), (126, (V.b t126))] H K) := by kernel_rfl
theorem g7_p4_lin {a9 : T9} {a12 : T12} {a11 : T11} {a10 : T10} {a15 : T15} {a14 : T14} {a39 : T39} {a38 : T38} {a44 : T44} {a46 : T46} {a40 : T40} (la9 : Lin9 a9) (la12 : Lin12 a12) (la11 : Lin11 a11) (la10 : Lin10 a10) (la15 : Lin15 a15) (la14 : Lin14 a14) (la39 : Lin39 a39) (la38 : Lin38 a38) (la44 : Lin44 a44) (la46 : Lin46 a46) (la40 : Lin40 a40) {R S : Type} {k : S → Option R} {t3_0 : Nat} {t3_1 : Nat} {t7 : Int} {t11 : Sl} {t12 : Sl} {H : Heap} {fkN : Int → Sl → V → Bool → Heap → Option R} {gkN : Int → Sl → V → Bool → Heap → Option S} (hkN : ∀ t7 t11 t20 t126 H, fkN t7 t11 t20 t126 H = (gkN t7 t11 t20 t126 H).bind k) : g7_p4 a9 a12 a11 a10 a15 a14 a39 a38 a44 a46 a40 R t3_0 t3_1 t7 t11 t12 H fkN = (g7_p4 a9 a12 a11 a10 a15 a14 a39 a38 a44 a46 a40 S t3_0 t3_1 t7 t11 t12 H gkN).bind k := by
  delta g7_p4; exact (
    bl fun x139 =>
    bl fun x140 =>
    bl fun x141 =>
    bl fun x142 =>
    bl fun x143 =>
    la10.l fun x144 x145 h146 =>
    il (
      bl fun x147 =>
      bl fun x148 =>
      bl fun x149 =>
      bl fun x150 =>
      bl fun x151 =>
      la10.l fun x152 x153 h154 =>
      il (
        la15.l fun x155 x156 h157 =>
        il (
          sl_lin (
            hkN _ _ _ _ _) (
            sl_lin (
              hkN _ _ _ _ _) (
              sl_lin (
                hkN _ _ _ _ _) (
                bl fun x158 =>
                sl_lin (
                  hkN _ _ _ _ _) (
                  bl fun x159 =>
                  sl_lin (
                    hkN _ _ _ _ _) (
                    bl fun x160 =>
                    sl_lin (
                      hkN _ _ _ _ _) (
                      la14.l fun x161 h162 =>
                      la14.l fun x163 h164 =>
                      sl_lin (
                        hkN _ _ _ _ _) (
                        invk_lin (E7_lin la9 la12 la11 la10 la15 la14 la39 la38 la44 la46 la40) fun x165 h166 =>
                        bl fun x167 =>
                        invk_lin (E7_lin la9 la12 la11 la10 la15 la14 la39 la38 la44 la46 la40) fun x168 h169 =>
                        bl fun x170 =>
                        hkN _ _ _ _ _)))))))) (
          rfl)) (
        rfl)) (
      rfl))
noncomputable def g7_p5 (a9 : T9) (a12 : T12) (a11 : T11) (a10 : T10) (a15 : T15) (a14 : T14) (a39 : T39) (a38 : T38) (a44 : T44) (a46 : T46) (a40 : T40) (R : Type) (t7 : Int) (t11 : Sl) (t20 : V) (t126 : Bool) (H : Heap) (kN : Int → Sl → V → Int → Int → Heap → Option R) (kR : Bool → Heap → Option R) : Option R :=
  sel t126 (
    kR false H) (
    kN t7 t11 t20 (0 : Int) (0 : Int) H)
theorem g7_p5_eq (a9 : T9) (a12 : T12) (a11 : T11) (a10 : T10) (a15 : T15) (a14 : T14) (a39 : T39) (a38 : T38) (a44 : T44) (a46 : T46) (a40 : T40) {R : Type} (c2 : Code) (t7 : Int) (t11 : Sl) (t20 : V) (t126 : Bool) (H : Heap) (K : Ex → Fr → Heap → Option R) : ev Try.prog (E7 a9 a12 a11 a10 a15 a14 a39 a38 a44 a46 a40) loopLim Try.f7.ntmps kp7 (.seq (.cond (.tmp 126) (.seq (codeAt [1, 1, 1, 1, 1, 1, 1, 1, 1, 1, 0, 1, 0, 0] b7) .ret) .skip) (.seq (codeAt [1, 1, 1, 1, 1, 1, 1, 1, 1, 1, 1, 0] b7) (.seq (codeAt [1, 1, 1, 1, 1, 1, 1, 1, 1, 1, 1, 1, 0, 0] b7) c2))) [(7, (V.i .i64 t7)), (11, (V.sl t11)), (20, t20), (126, (V.b t126))] H K = g7_p5 a9 a12 a11 a10 a15 a14 a39 a38 a44 a46 a40 R t7 t11 t20 t126 H (fun t7 t11 t20 t22 t23 H => ev Try.prog (E7 a9 a12 a11 a10 a15 a14 a39 a38 a44 a46 a40) loopLim Try.f7.ntmps kp7 c2 [(7, (V.i .i64 t7)), (11, (V.sl t11)), (20, t20), (22, (V.i .i64 t22)), (23, (V.i .i64 t23))] H K) (fun t6 H => K .ret [(6, (V.b t6))] H) := by kernel_rfl
theorem g7_p5_lin {a9 : T9} {a12 : T12} {a11 : T11} {a10 : T10} {a15 : T15} {a14 : T14} {a39 : T39} {a38 : T38} {a44 : T44} {a46 : T46} {a40 : T40} (la9 : Lin9 a9) (la12 : Lin12 a12) (la11 : Lin11 a11) (la10 : Lin10 a10) (la15 : Lin15 a15) (la14 : Lin14 a14) (la39 : Lin39 a39) (la38 : Lin38 a38) (la44 : Lin44 a44) (la46 : Lin46 a46) (la40 : Lin40 a40) {R S : Type} {k : S → Option R} {t7 : Int} {t11 : Sl} {t20 : V} {t126 : Bool} {H : Heap} {fkN : Int → Sl → V → Int → Int → Heap → Option R} {gkN : Int → Sl → V → Int → Int → Heap → Option S} {fkR : Bool → Heap → Option R} {gkR : Bool → Heap → Option S} (hkN : ∀ t7 t11 t20 t22 t23 H, fkN t7 t11 t20 t22 t23 H = (gkN t7 t11 t20 t22 t23 H).bind k) (hkR : ∀ t6 H, fkR t6 H = (gkR t6 H).bind k) : g7_p5 a9 a12 a11 a10 a15 a14 a39 a38 a44 a46 a40 R t7 t11 t20 t126 H fkN fkR = (g7_p5 a9 a12 a11 a10 a15 a14 a39 a38 a44 a46 a40 S t7 t11 t20 t126 H gkN gkR).bind k := by
  delta g7_p5; exact (
    sl_lin (
      hkR _ _) (
      hkN _ _ _ _ _ _))
noncomputable def g7_p6 (a9 : T9) (a12 : T12) (a11 : T11) (a10 : T10) (a15 : T15) (a14 : T14) (a39 : T39) (a38 : T38) (a44 : T44) (a46 : T46) (a40 : T40) (R : Type) (t7 : Int) (t11 : Sl) (t20 : V) (t22 : Int) (t23 : Int) (H : Heap) (kN : Int → Sl → V → Int → Int → Heap → Option R) (kE2 : Heap → Option R) (kR : Bool → Heap → Option R) : Option R :=
  sel (decide (t23 < ((t11.len : Nat) : Int))) (
    if 0 ≤ t23 ∧ t23 < ((t11.len : Nat) : Int) then (
      (t11.a).bind fun q171 =>
      ((H).ldB q171.1 (q171.2 + Int.toNat t23 * 1)).bind fun x172 =>
      if methNotNil Try.prog t20 "Count" = true then (
        invk Try.prog (E7 a9 a12 a11 a10 a15 a14 a39 a38 a44 a46 a40) t20 "Count" [(V.b x172)] H fun x173 h174 =>
        exR Try.prog 0 x173 fun x175 =>
        if 0 ≤ t23 ∧ t23 < ((t11.len : Nat) : Int) then (
          (t11.a).bind fun q176 =>
          ((h174).ldB q176.1 (q176.2 + Int.toNat t23 * 1)).bind fun x177 =>
          sel (!x177) (
            invk Try.prog (E7 a9 a12 a11 a10 a15 a14 a39 a38 a44 a46 a40) t20 "Over" [] h174 fun x178 h179 =>
            ((V.asB x178)).bind fun x180 =>
            sel (!(x180 == (decide ((IntKind.wrap .i64 (t22 + (1 : Int))) ≥ t7)))) (
              kR false h179) (
              kN t7 t11 t20 (IntKind.wrap .i64 (t22 + (1 : Int))) (IntKind.wrap .i64 (t23 + (1 : Int))) h179)) (
            invk Try.prog (E7 a9 a12 a11 a10 a15 a14 a39 a38 a44 a46 a40) t20 "Over" [] h174 fun x181 h182 =>
            ((V.asB x181)).bind fun x183 =>
            sel (!(x183 == (decide (t22 ≥ t7)))) (
              kR false h182) (
              kN t7 t11 t20 t22 (IntKind.wrap .i64 (t23 + (1 : Int))) h182)))
        else (
          none))
      else (
        none))
    else (
      none)) (
    kE2 H)
theorem g7_p6_eq (a9 : T9) (a12 : T12) (a11 : T11) (a10 : T10) (a15 : T15) (a14 : T14) (a39 : T39) (a38 : T38) (a44 : T44) (a46 : T46) (a40 : T40) (la9 : Lin9 a9) (la12 : Lin12 a12) (la11 : Lin11 a11) (la10 : Lin10 a10) (la15 : Lin15 a15) (la14 : Lin14 a14) (la39 : Lin39 a39) (la38 : Lin38 a38) (la44 : Lin44 a44) (la46 : Lin46 a46) (la40 : Lin40 a40) {R : Type} (t7 : Int) (t11 : Sl) (t20 : V) (t22 : Int) (t23 : Int) (H : Heap) (K : Ex → Fr → Heap → Option R) : ev Try.prog (E7 a9 a12 a11 a10 a15 a14 a39 a38 a44 a46 a40) loopLim Try.f7.ntmps kp7 c7_3 [(7, (V.i .i64 t7)), (11, (V.sl t11)), (20, t20), (22, (V.i .i64 t22)), (23, (V.i .i64 t23))] H K = g7_p6 a9 a12 a11 a10 a15 a14 a39 a38 a44 a46 a40 R t7 t11 t20 t22 t23 H (fun t7 t11 t20 t22 t23 H => K .normal [(7, (V.i .i64 t7)), (11, (V.sl t11)), (20, t20), (22, (V.i .i64 t22)), (23, (V.i .i64 t23))] H) (fun H => K (.exit 2) [] H) (fun t6 H => K .ret [(6, (V.b t6))] H) := by kernel_rfl
theorem g7_p6_lin {a9 : T9} {a12 : T12} {a11 : T11} {a10 : T10} {a15 : T15} {a14 : T14} {a39 : T39} {a38 : T38} {a44 : T44} {a46 : T46} {a40 : T40} (la9 : Lin9 a9) (la12 : Lin12 a12) (la11 : Lin11 a11) (la10 : Lin10 a10) (la15 : Lin15 a15) (la14 : Lin14 a14) (la39 : Lin39 a39) (la38 : Lin38 a38) (la44 : Lin44 a44) (la46 : Lin46 a46) (la40 : Lin40 a40) {R S : Type} {k : S → Option R} {t7 : Int} {t11 : Sl} {t20 : V} {t22 : Int} {t23 : Int} {H : Heap} {fkN : Int → Sl → V → Int → Int → Heap → Option R} {gkN : Int → Sl → V → Int → Int → Heap → Option S} {fkE2 : Heap → Option R} {gkE2 : Heap → Option S} {fkR : Bool → Heap → Option R} {gkR : Bool → Heap → Option S} (hkN : ∀ t7 t11 t20 t22 t23 H, fkN t7 t11 t20 t22 t23 H = (gkN t7 t11 t20 t22 t23 H).bind k) (hkE2 : ∀ H, fkE2 H = (gkE2 H).bind k) (hkR : ∀ t6 H, fkR t6 H = (gkR t6 H).bind k) : g7_p6 a9 a12 a11 a10 a15 a14 a39 a38 a44 a46 a40 R t7 t11 t20 t22 t23 H fkN fkE2 fkR = (g7_p6 a9 a12 a11 a10 a15 a14 a39 a38 a44 a46 a40 S t7 t11 t20 t22 t23 H gkN gkE2 gkR).bind k := by
  delta g7_p6; exact (
    sl_lin (
      il (
        bl fun q171 =>
        bl fun x172 =>
        il (
          invk_lin (E7_lin la9 la12 la11 la10 la15 la14 la39 la38 la44 la46 la40) fun x173 h174 =>
          exR_lin fun x175 =>
          il (
            bl fun q176 =>
            bl fun x177 =>
            sl_lin (
              invk_lin (E7_lin la9 la12 la11 la10 la15 la14 la39 la38 la44 la46 la40) fun x178 h179 =>
              bl fun x180 =>
              sl_lin (
                hkR _ _) (
                hkN _ _ _ _ _ _)) (
              invk_lin (E7_lin la9 la12 la11 la10 la15 la14 la39 la38 la44 la46 la40) fun x181 h182 =>
              bl fun x183 =>
              sl_lin (
                hkR _ _) (
                hkN _ _ _ _ _ _))) (
            rfl)) (
          rfl)) (
        rfl)) (
      hkE2 _))
abbrev g7_p7_S := Int × Sl × V × Int × Int
abbrev g7_p7_O := Sum (Unit) (Bool)
def g7_p7_es (s : g7_p7_S) : Fr := [(7, (V.i .i64 s.1)), (11, (V.sl s.2.1)), (20, s.2.2.1), (22, (V.i .i64 s.2.2.2.1)), (23, (V.i .i64 s.2.2.2.2))]
def g7_p7_er : g7_p7_O → Ex × Fr
  | (.inl r) => ((.exit 2), [])
  | (.inr r) => (.ret, [(6, (V.b r))])
noncomputable def g7_p7_b (a9 : T9) (a12 : T12) (a11 : T11) (a10 : T10) (a15 : T15) (a14 : T14) (a39 : T39) (a38 : T38) (a44 : T44) (a46 : T46) (a40 : T40) (s : g7_p7_S) (H : Heap) : Option (Rd g7_p7_S g7_p7_O × Heap) :=
  g7_p6 a9 a12 a11 a10 a15 a14 a39 a38 a44 a46 a40 _ s.1 s.2.1 s.2.2.1 s.2.2.2.1 s.2.2.2.2 H (fun t7 t11 t20 t22 t23 H => some (.go (t7, t11, t20, t22, t23), H)) (fun H => some (.up (.inl ()), H)) (fun t6 H => some (.up (.inr t6), H))
noncomputable def g7_p7 (a9 : T9) (a12 : T12) (a11 : T11) (a10 : T10) (a15 : T15) (a14 : T14) (a39 : T39) (a38 : T38) (a44 : T44) (a46 : T46) (a40 : T40) (R : Type) (t7 : Int) (t11 : Sl) (t20 : V) (t22 : Int) (t23 : Int) (H : Heap) (kE2 : Heap → Option R) (kR : Bool → Heap → Option R) : Option R :=
  (tlim (g7_p7_b a9 a12 a11 a10 a15 a14 a39 a38 a44 a46 a40) (t7, t11, t20, t22, t23) H).bind fun p => cas p.1 (fun r => kE2  p.2) (fun r0 => kR r0 p.2)
theorem g7_p7_lin {a9 : T9} {a12 : T12} {a11 : T11} {a10 : T10} {a15 : T15} {a14 : T14} {a39 : T39} {a38 : T38} {a44 : T44} {a46 : T46} {a40 : T40} (la9 : Lin9 a9) (la12 : Lin12 a12) (la11 : Lin11 a11) (la10 : Lin10 a10) (la15 : Lin15 a15) (la14 : Lin14 a14) (la39 : Lin39 a39) (la38 : Lin38 a38) (la44 : Lin44 a44) (la46 : Lin46 a46) (la40 : Lin40 a40) {R S : Type} {k : S → Option R} {t7 : Int} {t11 : Sl} {t20 : V} {t22 : Int} {t23 : Int} {H : Heap} {fkE2 : Heap → Option R} {gkE2 : Heap → Option S} {fkR : Bool → Heap → Option R} {gkR : Bool → Heap → Option S} (hkE2 : ∀ H, fkE2 H = (gkE2 H).bind k) (hkR : ∀ t6 H, fkR t6 H = (gkR t6 H).bind k) : g7_p7 a9 a12 a11 a10 a15 a14 a39 a38 a44 a46 a40 R t7 t11 t20 t22 t23 H fkE2 fkR = (g7_p7 a9 a12 a11 a10 a15 a14 a39 a38 a44 a46 a40 S t7 t11 t20 t22 t23 H gkE2 gkR).bind k := by
  exact bl fun p => cas_lin (fun _ => hkE2 _) (fun _ => hkR _ _)
theorem g7_p7_eq (a9 : T9) (a12 : T12) (a11 : T11) (a10 : T10) (a15 : T15) (a14 : T14) (a39 : T39) (a38 : T38) (a44 : T44) (a46 : T46) (a40 : T40) (la9 : Lin9 a9) (la12 : Lin12 a12) (la11 : Lin11 a11) (la10 : Lin10 a10) (la15 : Lin15 a15) (la14 : Lin14 a14) (la39 : Lin39 a39) (la38 : Lin38 a38) (la44 : Lin44 a44) (la46 : Lin46 a46) (la40 : Lin40 a40) {R : Type} (t7 : Int) (t11 : Sl) (t20 : V) (t22 : Int) (t23 : Int) (H : Heap) (K : Ex → Fr → Heap → Option R) : ev Try.prog (E7 a9 a12 a11 a10 a15 a14 a39 a38 a44 a46 a40) loopLim Try.f7.ntmps kp7 c7_4 [(7, (V.i .i64 t7)), (11, (V.sl t11)), (20, t20), (22, (V.i .i64 t22)), (23, (V.i .i64 t23))] H K = g7_p7 a9 a12 a11 a10 a15 a14 a39 a38 a44 a46 a40 R t7 t11 t20 t22 t23 H (fun H => K (.exit 2) [] H) (fun t6 H => K .ret [(6, (V.b t6))] H) := by
  show ev Try.prog (E7 a9 a12 a11 a10 a15 a14 a39 a38 a44 a46 a40) loopLim Try.f7.ntmps kp7 (.loop c7_3) [(7, (V.i .i64 t7)), (11, (V.sl t11)), (20, t20), (22, (V.i .i64 t22)), (23, (V.i .i64 t23))] H K = _
  delta g7_p7
  refine (ev_tlim (b := g7_p7_b a9 a12 a11 a10 a15 a14 a39 a38 a44 a46 a40) (es := g7_p7_es) (er := g7_p7_er) (by rintro (r | r) <;> exact nofun) (fun s H => ?_) (t7, t11, t20, t22, t23) H K).trans (bc fun p => by rcases p with ⟨(r | r), H⟩ <;> rfl)
  exact (g7_p6_eq a9 a12 a11 a10 a15 a14 a39 a38 a44 a46 a40 la9 la12 la11 la10 la15 la14 la39 la38 la44 la46 la40 s.1 s.2.1 s.2.2.1 s.2.2.2.1 s.2.2.2.2 H ret3).trans (g7_p6_lin la9 la12 la11 la10 la15 la14 la39 la38 la44 la46 la40 (fun _ _ _ _ _ _ => rfl) (fun _ => rfl) (fun _ _ => rfl))
noncomputable def g7_p8 (a9 : T9) (a12 : T12) (a11 : T11) (a10 : T10) (a15 : T15) (a14 : T14) (a39 : T39) (a38 : T38) (a44 : T44) (a46 : T46) (a40 : T40) (R : Type) (t7 : Int) (t11 : Sl) (t20 : V) (t22 : Int) (t23 : Int) (H : Heap) (kN : Heap → Option R) (kR : Bool → Heap → Option R) : Option R :=
  g7_p7 a9 a12 a11 a10 a15 a14 a39 a38 a44 a46 a40 R t7 t11 t20 t22 t23 H (fun H => kN  H) (fun t6 H => kR t6 H)
theorem g7_p8_lin {a9 : T9} {a12 : T12} {a11 : T11} {a10 : T10} {a15 : T15} {a14 : T14} {a39 : T39} {a38 : T38} {a44 : T44} {a46 : T46} {a40 : T40} (la9 : Lin9 a9) (la12 : Lin12 a12) (la11 : Lin11 a11) (la10 : Lin10 a10) (la15 : Lin15 a15) (la14 : Lin14 a14) (la39 : Lin39 a39) (la38 : Lin38 a38) (la44 : Lin44 a44) (la46 : Lin46 a46) (la40 : Lin40 a40) {R S : Type} {k : S → Option R} {t7 : Int} {t11 : Sl} {t20 : V} {t22 : Int} {t23 : Int} {H : Heap} {fkN : Heap → Option R} {gkN : Heap → Option S} {fkR : Bool → Heap → Option R} {gkR : Bool → Heap → Option S} (hkN : ∀ H, fkN H = (gkN H).bind k) (hkR : ∀ t6 H, fkR t6 H = (gkR t6 H).bind k) : g7_p8 a9 a12 a11 a10 a15 a14 a39 a38 a44 a46 a40 R t7 t11 t20 t22 t23 H fkN fkR = (g7_p8 a9 a12 a11 a10 a15 a14 a39 a38 a44 a46 a40 S t7 t11 t20 t22 t23 H gkN gkR).bind k := by
  exact g7_p7_lin la9 la12 la11 la10 la15 la14 la39 la38 la44 la46 la40 (fun _ => hkN _) (fun _ _ => hkR _ _)
theorem g7_p8_eq (a9 : T9) (a12 : T12) (a11 : T11) (a10 : T10) (a15 : T15) (a14 : T14) (a39 : T39) (a38 : T38) (a44 : T44) (a46 : T46) (a40 : T40) (la9 : Lin9 a9) (la12 : Lin12 a12) (la11 : Lin11 a11) (la10 : Lin10 a10) (la15 : Lin15 a15) (la14 : Lin14 a14) (la39 : Lin39 a39) (la38 : Lin38 a38) (la44 : Lin44 a44) (la46 : Lin46 a46) (la40 : Lin40 a40) {R : Type} (t7 : Int) (t11 : Sl) (t20 : V) (t22 : Int) (t23 : Int) (H : Heap) (K : Ex → Fr → Heap → Option R) : ev Try.prog (E7 a9 a12 a11 a10 a15 a14 a39 a38 a44 a46 a40) loopLim Try.f7.ntmps kp7 c7_5 [(7, (V.i .i64 t7)), (11, (V.sl t11)), (20, t20), (22, (V.i .i64 t22)), (23, (V.i .i64 t23))] H K = g7_p8 a9 a12 a11 a10 a15 a14 a39 a38 a44 a46 a40 R t7 t11 t20 t22 t23 H (fun H => K .normal [] H) (fun t6 H => K .ret [(6, (V.b t6))] H) := by
  show ev Try.prog (E7 a9 a12 a11 a10 a15 a14 a39 a38 a44 a46 a40) loopLim Try.f7.ntmps kp7 (.block 2 c7_4) [(7, (V.i .i64 t7)), (11, (V.sl t11)), (20, t20), (22, (V.i .i64 t22)), (23, (V.i .i64 t23))] H K = _
  rw [ev_block]
  delta g7_p8
  exact (g7_p7_eq a9 a12 a11 a10 a15 a14 a39 a38 a44 a46 a40 la9 la12 la11 la10 la15 la14 la39 la38 la44 la46 la40 t7 t11 t20 t22 t23 H (kBlock kp7 2 K))
noncomputable def g7_p9 (a9 : T9) (a12 : T12) (a11 : T11) (a10 : T10) (a15 : T15) (a14 : T14) (a39 : T39) (a38 : T38) (a44 : T44) (a46 : T46) (a40 : T40) (R : Type) (H : Heap) (kR : Bool → Heap → Option R) : Option R :=
  a9 R H fun x184 h185 =>
  kR x184 h185
theorem g7_p9_eq (a9 : T9) (a12 : T12) (a11 : T11) (a10 : T10) (a15 : T15) (a14 : T14) (a39 : T39) (a38 : T38) (a44 : T44) (a46 : T46) (a40 : T40) (la9 : Lin9 a9) (la12 : Lin12 a12) (la11 : Lin11 a11) (la10 : Lin10 a10) (la15 : Lin15 a15) (la14 : Lin14 a14) (la39 : Lin39 a39) (la38 : Lin38 a38) (la44 : Lin44 a44) (la46 : Lin46 a46) (la40 : Lin40 a40) {R : Type} (H : Heap) (K : Ex → Fr → Heap → Option R) : ev Try.prog (E7 a9 a12 a11 a10 a15 a14 a39 a38 a44 a46 a40) loopLim Try.f7.ntmps kp7 c7_6 [] H K = g7_p9 a9 a12 a11 a10 a15 a14 a39 a38 a44 a46 a40 R H (fun t6 H => K .ret [(6, (V.b t6))] H) := by kernel_rfl
theorem g7_p9_lin {a9 : T9} {a12 : T12} {a11 : T11} {a10 : T10} {a15 : T15} {a14 : T14} {a39 : T39} {a38 : T38} {a44 : T44} {a46 : T46} {a40 : T40} (la9 : Lin9 a9) (la12 : Lin12 a12) (la11 : Lin11 a11) (la10 : Lin10 a10) (la15 : Lin15 a15) (la14 : Lin14 a14) (la39 : Lin39 a39) (la38 : Lin38 a38) (la44 : Lin44 a44) (la46 : Lin46 a46) (la40 : Lin40 a40) {R S : Type} {k : S → Option R} {H : Heap} {fkR : Bool → Heap → Option R} {gkR : Bool → Heap → Option S} (hkR : ∀ t6 H, fkR t6 H = (gkR t6 H).bind k) : g7_p9 a9 a12 a11 a10 a15 a14 a39 a38 a44 a46 a40 R H fkR = (g7_p9 a9 a12 a11 a10 a15 a14 a39 a38 a44 a46 a40 S H gkR).bind k := by
  delta g7_p9; exact (
    la9.l fun x184 h185 =>
    hkR _ _)
noncomputable def g7_p10 (a9 : T9) (a12 : T12) (a11 : T11) (a10 : T10) (a15 : T15) (a14 : T14) (a39 : T39) (a38 : T38) (a44 : T44) (a46 : T46) (a40 : T40) (R : Type) (t7 : Int) (t11 : Sl) (t20 : V) (t22 : Int) (t23 : Int) (H : Heap) (kR : Bool → Heap → Option R) : Option R :=
  g7_p8 a9 a12 a11 a10 a15 a14 a39 a38 a44 a46 a40 R t7 t11 t20 t22 t23 H (fun H => g7_p9 a9 a12 a11 a10 a15 a14 a39 a38 a44 a46 a40 R H (fun t6 H => kR t6 H)) (fun t6 H => kR t6 H)
theorem g7_p10_lin {a9 : T9} {a12 : T12} {a11 : T11} {a10 : T10} {a15 : T15} {a14 : T14} {a39 : T39} {a38 : T38} {a44 : T44} {a46 : T46} {a40 : T40} (la9 : Lin9 a9) (la12 : Lin12 a12) (la11 : Lin11 a11) (la10 : Lin10 a10) (la15 : Lin15 a15) (la14 : Lin14 a14) (la39 : Lin39 a39) (la38 : Lin38 a38) (la44 : Lin44 a44) (la46 : Lin46 a46) (la40 : Lin40 a40) {R S : Type} {k : S → Option R} {t7 : Int} {t11 : Sl} {t20 : V} {t22 : Int} {t23 : Int} {H : Heap} {fkR : Bool → Heap → Option R} {gkR : Bool → Heap → Option S} (hkR : ∀ t6 H, fkR t6 H = (gkR t6 H).bind k) : g7_p10 a9 a12 a11 a10 a15 a14 a39 a38 a44 a46 a40 R t7 t11 t20 t22 t23 H fkR = (g7_p10 a9 a12 a11 a10 a15 a14 a39 a38 a44 a46 a40 S t7 t11 t20 t22 t23 H gkR).bind k := by
  exact g7_p8_lin la9 la12 la11 la10 la15 la14 la39 la38 la44 la46 la40 (fun _ => g7_p9_lin la9 la12 la11 la10 la15 la14 la39 la38 la44 la46 la40 (fun _ _ => hkR _ _)) (fun _ _ => hkR _ _)
theorem g7_p10_eq (a9 : T9) (a12 : T12) (a11 : T11) (a10 : T10) (a15 : T15) (a14 : T14) (a39 : T39) (a38 : T38) (a44 : T44) (a46 : T46) (a40 : T40) (la9 : Lin9 a9) (la12 : Lin12 a12) (la11 : Lin11 a11) (la10 : Lin10 a10) (la15 : Lin15 a15) (la14 : Lin14 a14) (la39 : Lin39 a39) (la38 : Lin38 a38) (la44 : Lin44 a44) (la46 : Lin46 a46) (la40 : Lin40 a40) {R : Type} (t7 : Int) (t11 : Sl) (t20 : V) (t22 : Int) (t23 : Int) (H : Heap) (K : Ex → Fr → Heap → Option R) : ev Try.prog (E7 a9 a12 a11 a10 a15 a14 a39 a38 a44 a46 a40) loopLim Try.f7.ntmps kp7 c7_7 [(7, (V.i .i64 t7)), (11, (V.sl t11)), (20, t20), (22, (V.i .i64 t22)), (23, (V.i .i64 t23))] H K = g7_p10 a9 a12 a11 a10 a15 a14 a39 a38 a44 a46 a40 R t7 t11 t20 t22 t23 H (fun t6 H => K .ret [(6, (V.b t6))] H) := by
  show ev Try.prog (E7 a9 a12 a11 a10 a15 a14 a39 a38 a44 a46 a40) loopLim Try.f7.ntmps kp7 (.seq c7_5 c7_6) [(7, (V.i .i64 t7)), (11, (V.sl t11)), (20, t20), (22, (V.i .i64 t22)), (23, (V.i .i64 t23))] H K = _
  rw [ev_seq]
  delta g7_p10
  exact (g7_p8_eq a9 a12 a11 a10 a15 a14 a39 a38 a44 a46 a40 la9 la12 la11 la10 la15 la14 la39 la38 la44 la46 la40 t7 t11 t20 t22 t23 H (kSeq (fun fr H => ev Try.prog (E7 a9 a12 a11 a10 a15 a14 a39 a38 a44 a46 a40) loopLim Try.f7.ntmps kp7 c7_6 fr H K) K)).trans (congr (congrArg (g7_p8 a9 a12 a11 a10 a15 a14 a39 a38 a44 a46 a40 R t7 t11 t20 t22 t23 H) (funext fun H => (kSeq_n _ _ _ _).trans (g7_p9_eq a9 a12 a11 a10 a15 a14 a39 a38 a44 a46 a40 la9 la12 la11 la10 la15 la14 la39 la38 la44 la46 la40 H K))) rfl)
noncomputable def g7_p11 (a9 : T9) (a12 : T12) (a11 : T11) (a10 : T10) (a15 : T15) (a14 : T14) (a39 : T39) (a38 : T38) (a44 : T44) (a46 : T46) (a40 : T40) (R : Type) (t7 : Int) (t11 : Sl) (t20 : V) (t126 : Bool) (H : Heap) (kR : Bool → Heap → Option R) : Option R :=
  g7_p5 a9 a12 a11 a10 a15 a14 a39 a38 a44 a46 a40 R t7 t11 t20 t126 H (fun t7 t11 t20 t22 t23 H => g7_p10 a9 a12 a11 a10 a15 a14 a39 a38 a44 a46 a40 R t7 t11 t20 t22 t23 H (fun t6 H => kR t6 H)) (fun t6 H => kR t6 H)
theorem g7_p11_lin {a9 : T9} {a12 : T12} {a11 : T11} {a10 : T10} {a15 : T15} {a14 : T14} {a39 : T39} {a38 : T38} {a44 : T44} {a46 : T46} {a40 : T40} (la9 : Lin9 a9) (la12 : Lin12 a12) (la11 : Lin11 a11) (la10 : Lin10 a10) (la15 : Lin15 a15) (la14 : Lin14 a14) (la39 : Lin39 a39) (la38 : Lin38 a38) (la44 : Lin44 a44) (la46 : Lin46 a46) (la40 : Lin40 a40) {R S : Type} {k : S → Option R} {t7 : Int} {t11 : Sl} {t20 : V} {t126 : Bool} {H : Heap} {fkR : Bool → Heap → Option R} {gkR : Bool → Heap → Option S} (hkR : ∀ t6 H, fkR t6 H = (gkR t6 H).bind k) : g7_p11 a9 a12 a11 a10 a15 a14 a39 a38 a44 a46 a40 R t7 t11 t20 t126 H fkR = (g7_p11 a9 a12 a11 a10 a15 a14 a39 a38 a44 a46 a40 S t7 t11 t20 t126 H gkR).bind k := by
  exact g7_p5_lin la9 la12 la11 la10 la15 la14 la39 la38 la44 la46 la40 (fun _ _ _ _ _ _ => g7_p10_lin la9 la12 la11 la10 la15 la14 la39 la38 la44 la46 la40 (fun _ _ => hkR _ _)) (fun _ _ => hkR _ _)
theorem g7_p11_eq (a9 : T9) (a12 : T12) (a11 : T11) (a10 : T10) (a15 : T15) (a14 : T14) (a39 : T39) (a38 : T38) (a44 : T44) (a46 : T46) (a40 : T40) (la9 : Lin9 a9) (la12 : Lin12 a12) (la11 : Lin11 a11) (la10 : Lin10 a10) (la15 : Lin15 a15) (la14 : Lin14 a14) (la39 : Lin39 a39) (la38 : Lin38 a38) (la44 : Lin44 a44) (la46 : Lin46 a46) (la40 : Lin40 a40) {R : Type} (t7 : Int) (t11 : Sl) (t20 : V) (t126 : Bool) (H : Heap) (K : Ex → Fr → Heap → Option R) : ev Try.prog (E7 a9 a12 a11 a10 a15 a14 a39 a38 a44 a46 a40) loopLim Try.f7.ntmps kp7 c7_8 [(7, (V.i .i64 t7)), (11, (V.sl t11)), (20, t20), (126, (V.b t126))] H K = g7_p11 a9 a12 a11 a10 a15 a14 a39 a38 a44 a46 a40 R t7 t11 t20 t126 H (fun t6 H => K .ret [(6, (V.b t6))] H) := by
  show ev Try.prog (E7 a9 a12 a11 a10 a15 a14 a39 a38 a44 a46 a40) loopLim Try.f7.ntmps kp7 (.seq (.cond (.tmp 126) (.seq (codeAt [1, 1, 1, 1, 1, 1, 1, 1, 1, 1, 0, 1, 0, 0] b7) .ret) .skip) (.seq (codeAt [1, 1, 1, 1, 1, 1, 1, 1, 1, 1, 1, 0] b7) (.seq (codeAt [1, 1, 1, 1, 1, 1, 1, 1, 1, 1, 1, 1, 0, 0] b7) c7_7))) [(7, (V.i .i64 t7)), (11, (V.sl t11)), (20, t20), (126, (V.b t126))] H K = _
  delta g7_p11
  exact (g7_p5_eq a9 a12 a11 a10 a15 a14 a39 a38 a44 a46 a40 _ t7 t11 t20 t126 H K).trans (congr (congrArg (g7_p5 a9 a12 a11 a10 a15 a14 a39 a38 a44 a46 a40 R t7 t11 t20 t126 H) (funext fun t7 => funext fun t11 => funext fun t20 => funext fun t22 => funext fun t23 => funext fun H => g7_p10_eq a9 a12 a11 a10 a15 a14 a39 a38 a44 a46 a40 la9 la12 la11 la10 la15 la14 la39 la38 la44 la46 la40 t7 t11 t20 t22 t23 H K)) rfl)
noncomputable def g7_p12 (a9 : T9) (a12 : T12) (a11 : T11) (a10 : T10) (a15 : T15) (a14 : T14) (a39 : T39) (a38 : T38) (a44 : T44) (a46 : T46) (a40 : T40) (R : Type) (t3_0 : Nat) (t3_1 : Nat) (t7 : Int) (t11 : Sl) (t12 : Sl) (H : Heap) (kR : Bool → Heap → Option R) : Option R :=
  g7_p4 a9 a12 a11 a10 a15 a14 a39 a38 a44 a46 a40 R t3_0 t3_1 t7 t11 t12 H (fun t7 t11 t20 t126 H => g7_p11 a9 a12 a11 a10 a15 a14 a39 a38 a44 a46 a40 R t7 t11 t20 t126 H (fun t6 H => kR t6 H))
theorem g7_p12_lin {a9 : T9} {a12 : T12} {a11 : T11} {a10 : T10} {a15 : T15} {a14 : T14} {a39 : T39} {a38 : T38} {a44 : T44} {a46 : T46} {a40 : T40} (la9 : Lin9 a9) (la12 : Lin12 a12) (la11 : Lin11 a11) (la10 : Lin10 a10) (la15 : Lin15 a15) (la14 : Lin14 a14) (la39 : Lin39 a39) (la38 : Lin38 a38) (la44 : Lin44 a44) (la46 : Lin46 a46) (la40 : Lin40 a40) {R S : Type} {k : S → Option R} {t3_0 : Nat} {t3_1 : Nat} {t7 : Int} {t11 : Sl} {t12 : Sl} {H : Heap} {fkR : Bool → Heap → Option R} {gkR : Bool → Heap → Option S} (hkR : ∀ t6 H, fkR t6 H = (gkR t6 H).bind k) : g7_p12 a9 a12 a11 a10 a15 a14 a39 a38 a44 a46 a40 R t3_0 t3_1 t7 t11 t12 H fkR = (g7_p12 a9 a12 a11 a10 a15 a14 a39 a38 a44 a46 a40 S t3_0 t3_1 t7 t11 t12 H gkR).bind k := by
  exact g7_p4_lin la9 la12 la11 la10 la15 la14 la39 la38 la44 la46 la40 (fun _ _ _ _ _ => g7_p11_lin la9 la12 la11 la10 la15 la14 la39 la38 la44 la46 la40 (fun _ _ => hkR _ _))
theorem g7_p12_eq (a9 : T9) (a12 : T12) (a11 : T11) (a10 : T10) (a15 : T15) (a14 : T14) (a39 : T39) (a38 : T38) (a44 : T44) (a46 : T46) (a40 : T40) (la9 : Lin9 a9) (la12 : Lin12 a12) (la11 : Lin11 a11) (la10 : Lin10 a10) (la15 : Lin15 a15) (la14 : Lin14 a14) (la39 : Lin39 a39) (la38 : Lin38 a38) (la44 : Lin44 a44) (la46 : Lin46 a46) (la40 : Lin40 a40) {R : Type} (t3_0 : Nat) (t3_1 : Nat) (t7 : Int) (t11 : Sl) (t12 : Sl) (H : Heap) (K : Ex → Fr → Heap → Option R) : ev Try.prog (E7 a9 a12 a11 a10 a15 a14 a39 a38 a44 a46 a40) loopLim Try.f7.ntmps kp7 c7_9 [(3, (V.p (some (t3_0, t3_1)))), (7, (V.i .i64 t7)), (11, (V.sl t11)), (12, (V.sl t12))] H K = g7_p12 a9 a12 a11 a10 a15 a14 a39 a38 a44 a46 a40 R t3_0 t3_1 t7 t11 t12 H (fun t6 H => K .ret [(6, (V.b t6))] H) := by
  show ev Try.prog (E7 a9 a12 a11 a10 a15 a14 a39 a38 a44 a46 a40) loopLim Try.f7.ntmps kp7 (.seq (codeAt [1, 1, 1, 1, 1, 1, 1, 0] b7) (.seq (codeAt [1, 1, 1, 1, 1, 1, 1, 1, 0] b7) (.seq (codeAt [1, 1, 1, 1, 1, 1, 1, 1, 1, 0] b7) (.seq (codeAt [1, 1, 1, 1, 1, 1, 1, 1, 1, 1, 0, 0] b7) c7_8)))) [(3, (V.p (some (t3_0, t3_1)))), (7, (V.i .i64 t7)), (11, (V.sl t11)), (12, (V.sl t12))] H K = _
  delta g7_p12
  exact (g7_p4_eq a9 a12 a11 a10 a15 a14 a39 a38 a44 a46 a40 _ t3_0 t3_1 t7 t11 t12 H K).trans (congrArg (g7_p4 a9 a12 a11 a10 a15 a14 a39 a38 a44 a46 a40 R t3_0 t3_1 t7 t11 t12 H) (funext fun t7 => funext fun t11 => funext fun t20 => funext fun t126 => funext fun H => g7_p11_eq a9 a12 a11 a10 a15 a14 a39 a38 a44 a46 a40 la9 la12 la11 la10 la15 la14 la39 la38 la44 la46 la40 t7 t11 t20 t126 H K))
noncomputable def g7_p13 (a9 : T9) (a12 : T12) (a11 : T11) (a10 : T10) (a15 : T15) (a14 : T14) (a39 : T39) (a38 : T38) (a44 : T44) (a46 : T46) (a40 : T40) (R : Type) (t2 : Int) (t3_0 : Nat) (t3_1 : Nat) (t7 : Int) (t8 : Int) (t11 : Sl) (t12 : Sl) (t13 : Int) (H : Heap) (kR : Bool → Heap → Option R) : Option R :=
  g7_p3 a9 a12 a11 a10 a15 a14 a39 a38 a44 a46 a40 R t2 t3_0 t3_1 t7 t8 t11 t12 t13 H (fun t3_0 t3_1 t7 t11 t12 H => g7_p12 a9 a12 a11 a10 a15 a14 a39 a38 a44 a46 a40 R t3_0 t3_1 t7 t11 t12 H (fun t6 H => kR t6 H))
theorem g7_p13_lin {a9 : T9} {a12 : T12} {a11 : T11} {a10 : T10} {a15 : T15} {a14 : T14} {a39 : T39} {a38 : T38} {a44 : T44} {a46 : T46} {a40 : T40} (la9 : Lin9 a9) (la12 : Lin12 a12) (la11 : Lin11 a11) (la10 : Lin10 a10) (la15 : Lin15 a15) (la14 : Lin14 a14) (la39 : Lin39 a39) (la38 : Lin38 a38) (la44 : Lin44 a44) (la46 : Lin46 a46) (la40 : Lin40 a40) {R S : Type} {k : S → Option R} {t2 : Int} {t3_0 : Nat} {t3_1 : Nat} {t7 : Int} {t8 : Int} {t11 : Sl} {t12 : Sl} {t13 : Int} {H : Heap} {fkR : Bool → Heap → Option R} {gkR : Bool → Heap → Option S} (hkR : ∀ t6 H, fkR t6 H = (gkR t6 H).bind k) : g7_p13 a9 a12 a11 a10 a15 a14 a39 a38 a44 a46 a40 R t2 t3_0 t3_1 t7 t8 t11 t12 t13 H fkR = (g7_p13 a9 a12 a11 a10 a15 a14 a39 a38 a44 a46 a40 S t2 t3_0 t3_1 t7 t8 t11 t12 t13 H gkR).bind k := by
  exact g7_p3_lin la9 la12 la11 la10 la15 la14 la39 la38 la44 la46 la40 (fun _ _ _ _ _ _ => g7_p12_lin la9 la12 la11 la10 la15 la14 la39 la38 la44 la46 la40 (fun _ _ => hkR _ _))
theorem g7_p13_eq (a9 : T9) (a12 : T12) (a11 : T11) (a10 : T10) (a15 : T15) (a14 : T14) (a39 : T39) (a38 : T38) (a44 : T44) (a46 : T46) (a40 : T40) (la9 : Lin9 a9) (la12 : Lin12 a12) (la11 : Lin11 a11) (la10 : Lin10 a10) (la15 : Lin15 a15) (la14 : Lin14 a14) (la39 : Lin39 a39) (la38 : Lin38 a38) (la44 : Lin44 a44) (la46 : Lin46 a46) (la40 : Lin40 a40) {R : Type} (t2 : Int) (t3_0 : Nat) (t3_1 : Nat) (t7 : Int) (t8 : Int) (t11 : Sl) (t12 : Sl) (t13 : Int) (H : Heap) (K : Ex → Fr → Heap → Option R) : ev Try.prog (E7 a9 a12 a11 a10 a15 a14 a39 a38 a44 a46 a40) loopLim Try.f7.ntmps kp7 c7_10 [(2, (V.i .u8 t2)), (3, (V.p (some (t3_0, t3_1)))), (7, (V.i .i64 t7)), (8, (V.i .i64 t8)), (11, (V.sl t11)), (12, (V.sl t12)), (13, (V.i .i64 t13))] H K = g7_p13 a9 a12 a11 a10 a15 a14 a39 a38 a44 a46 a40 R t2 t3_0 t3_1 t7 t8 t11 t12 t13 H (fun t6 H => K .ret [(6, (V.b t6))] H) := by
  show ev Try.prog (E7 a9 a12 a11 a10 a15 a14 a39 a38 a44 a46 a40) loopLim Try.f7.ntmps kp7 (.seq c7_2 c7_9) [(2, (V.i .u8 t2)), (3, (V.p (some (t3_0, t3_1)))), (7, (V.i .i64 t7)), (8, (V.i .i64 t8)), (11, (V.sl t11)), (12, (V.sl t12)), (13, (V.i .i64 t13))] H K = _
  rw [ev_seq]
  delta g7_p13
  exact (g7_p3_eq a9 a12 a11 a10 a15 a14 a39 a38 a44 a46 a40 la9 la12 la11 la10 la15 la14 la39 la38 la44 la46 la40 t2 t3_0 t3_1 t7 t8 t11 t12 t13 H (kSeq (fun fr H => ev Try.prog (E7 a9 a12 a11 a10 a15 a14 a39 a38 a44 a46 a40) loopLim Try.f7.ntmps kp7 c7_9 fr H K) K)).trans (congrArg (g7_p3 a9 a12 a11 a10 a15 a14 a39 a38 a44 a46 a40 R t2 t3_0 t3_1 t7 t8 t11 t12 t13 H) (funext fun t3_0 => funext fun t3_1 => funext fun t7 => funext fun t11 => funext fun t12 => funext fun H => (kSeq_n _ _ _ _).trans (g7_p12_eq a9 a12 a11 a10 a15 a14 a39 a38 a44 a46 a40 la9 la12 la11 la10 la15 la14 la39 la38 la44 la46 la40 t3_0 t3_1 t7 t11 t12 H K)))
noncomputable def g7_p14 (a9 : T9) (a12 : T12) (a11 : T11) (a10 : T10) (a15 : T15) (a14 : T14) (a39 : T39) (a38 : T38) (a44 : T44) (a46 : T46) (a40 : T40) (R : Type) (t0_0 : Int) (t0_1 : Int) (t0_2 : Int) (t0_3 : Int) (t0_4 : Int) (t1 : ByteArray) (t2 : Int) (H : Heap) (kR : Bool → Heap → Option R) : Option R :=
  g7_p0 a9 a12 a11 a10 a15 a14 a39 a38 a44 a46 a40 R t0_0 t0_1 t0_2 t0_3 t0_4 t1 t2 H (fun t2 t3_0 t3_1 t7 t8 t11 t12 t13 H => g7_p13 a9 a12 a11 a10 a15 a14 a39 a38 a44 a46 a40 R t2 t3_0 t3_1 t7 t8 t11 t12 t13 H (fun t6 H => kR t6 H)) (fun t6 H => kR t6 H)
theorem g7_p14_lin {a9 : T9} {a12 : T12} {a11 : T11} {a10 : T10} {a15 : T15} {a14 : T14} {a39 : T39} {a38 : T38} {a44 : T44} {a46 : T46} {a40 : T40} (la9 : Lin9 a9) (la12 : Lin12 a12) (la11 : Lin11 a11) (la10 : Lin10 a10) (la15 : Lin15 a15) (la14 : Lin14 a14) (la39 : Lin39 a39) (la38 : Lin38 a38) (la44 : Lin44 a44) (la46 : Lin46 a46) (la40 : Lin40 a40) {R S : Type} {k : S → Option R} {t0_0 : Int} {t0_1 : Int} {t0_2 : Int} {t0_3 : Int} {t0_4 : Int} {t1 : ByteArray} {t2 : Int} {H : Heap} {fkR : Bool → Heap → Option R} {gkR : Bool → Heap → Option S} (hkR : ∀ t6 H, fkR t6 H = (gkR t6 H).bind k) : g7_p14 a9 a12 a11 a10 a15 a14 a39 a38 a44 a46 a40 R t0_0 t0_1 t0_2 t0_3 t0_4 t1 t2 H fkR = (g7_p14 a9 a12 a11 a10 a15 a14 a39 a38 a44 a46 a40 S t0_0 t0_1 t0_2 t0_3 t0_4 t1 t2 H gkR).bind k := by
  exact g7_p0_lin la9 la12 la11 la10 la15 la14 la39 la38 la44 la46 la40 (fun _ _ _ _ _ _ _ _ _ => g7_p13_lin la9 la12 la11 la10 la15 la14 la39 la38 la44 la46 la40 (fun _ _ => hkR _ _)) (fun _ _ => hkR _ _)
theorem g7_p14_eq (a9 : T9) (a12 : T12) (a11 : T11) (a10 : T10) (a15 : T15) (a14 : T14) (a39 : T39) (a38 : T38) (a44 : T44) (a46 : T46) (a40 : T40) (la9 : Lin9 a9) (la12 : Lin12 a12) (la11 : Lin11 a11) (la10 : Lin10 a10) (la15 : Lin15 a15) (la14 : Lin14 a14) (la39 : Lin39 a39) (la38 : Lin38 a38) (la44 : Lin44 a44) (la46 : Lin46 a46) (la40 : Lin40 a40) {R : Type} (t0_0 : Int) (t0_1 : Int) (t0_2 : Int) (t0_3 : Int) (t0_4 : Int) (t1 : ByteArray) (t2 : Int) (H : Heap) (K : Ex → Fr → Heap → Option R) : ev Try.prog (E7 a9 a12 a11 a10 a15 a14 a39 a38 a44 a46 a40) loopLim Try.f7.ntmps kp7 c7_11 [(0, (V.agg [(V.i .u8 t0_0), (V.i .u8 t0_1), (V.i .u8 t0_2), (V.i .u8 t0_3), (V.i .u8 t0_4)])), (1, (V.s t1)), (2, (V.i .u8 t2))] H K = g7_p14 a9 a12 a11 a10 a15 a14 a39 a38 a44 a46 a40 R t0_0 t0_1 t0_2 t0_3 t0_4 t1 t2 H (fun t6 H => K .ret [(6, (V.b t6))] H) := by
  show ev Try.prog (E7 a9 a12 a11 a10 a15 a14 a39 a38 a44 a46 a40) loopLim Try.f7.ntmps kp7 (.seq (codeAt [0] b7) (.seq (codeAt [1, 0, 0] b7) (.seq (.cond (.tmp 26) (.seq (codeAt [1, 0, 1, 0, 0] b7) .ret) .skip) (.seq (codeAt [1, 1, 0] b7) (.seq (codeAt [1, 1, 1, 0] b7) (.seq (codeAt [1, 1, 1, 1, 0] b7) (.seq (codeAt [1, 1, 1, 1, 1, 0] b7) (.seq (codeAt [1, 1, 1, 1, 1, 1, 0, 0] b7) c7_10)))))))) [(0, (V.agg [(V.i .u8 t0_0), (V.i .u8 t0_1), (V.i .u8 t0_2), (V.i .u8 t0_3), (V.i .u8 t0_4)])), (1, (V.s t1)), (2, (V.i .u8 t2))] H K = _
  delta g7_p14
  exact (g7_p0_eq a9 a12 a11 a10 a15 a14 a39 a38 a44 a46 a40 _ t0_0 t0_1 t0_2 t0_3 t0_4 t1 t2 H K).trans (congr (congrArg (g7_p0 a9 a12 a11 a10 a15 a14 a39 a38 a44 a46 a40 R t0_0 t0_1 t0_2 t0_3 t0_4 t1 t2 H) (funext fun t2 => funext fun t3_0 => funext fun t3_1 => funext fun t7 => funext fun t8 => funext fun t11 => funext fun t12 => funext fun t13 => funext fun H => g7_p13_eq a9 a12 a11 a10 a15 a14 a39 a38 a44 a46 a40 la9 la12 la11 la10 la15 la14 la39 la38 la44 la46 la40 t2 t3_0 t3_1 t7 t8 t11 t12 t13 H K)) rfl)
noncomputable def g7_r (a9 : T9) (a12 : T12) (a11 : T11) (a10 : T10) (a15 : T15) (a14 : T14) (a39 : T39) (a38 : T38) (a44 : T44) (a46 : T46) (a40 : T40) : T7 := fun R t0_0 t0_1 t0_2 t0_3 t0_4 t1 t2 H K =>
  g7_p14 a9 a12 a11 a10 a15 a14 a39 a38 a44 a46 a40 R t0_0 t0_1 t0_2 t0_3 t0_4 t1 t2 H (fun t6 H =>
    K t6 H)
theorem g7_r_lin {a9 : T9} {a12 : T12} {a11 : T11} {a10 : T10} {a15 : T15} {a14 : T14} {a39 : T39} {a38 : T38} {a44 : T44} {a46 : T46} {a40 : T40} (la9 : Lin9 a9) (la12 : Lin12 a12) (la11 : Lin11 a11) (la10 : Lin10 a10) (la15 : Lin15 a15) (la14 : Lin14 a14) (la39 : Lin39 a39) (la38 : Lin38 a38) (la44 : Lin44 a44) (la46 : Lin46 a46) (la40 : Lin40 a40) : Lin7 (g7_r a9 a12 a11 a10 a15 a14 a39 a38 a44 a46 a40) := by
  constructor
  intro R S k t0_0 t0_1 t0_2 t0_3 t0_4 t1 t2 H f g h
  exact g7_p14_lin la9 la12 la11 la10 la15 la14 la39 la38 la44 la46 la40 (fun t6 H =>
    h _ _)
theorem g7_fn (a9 : T9) (a12 : T12) (a11 : T11) (a10 : T10) (a15 : T15) (a14 : T14) (a39 : T39) (a38 : T38) (a44 : T44) (a46 : T46) (a40 : T40) (la9 : Lin9 a9) (la12 : Lin12 a12) (la11 : Lin11 a11) (la10 : Lin10 a10) (la15 : Lin15 a15) (la14 : Lin14 a14) (la39 : Lin39 a39) (la38 : Lin38 a38) (la44 : Lin44 a44) (la46 : Lin46 a46) (la40 : Lin40 a40) {R : Type} (t0_0 : Int) (t0_1 : Int) (t0_2 : Int) (t0_3 : Int) (t0_4 : Int) (t1 : ByteArray) (t2 : Int) (H : Heap) (K : V → Heap → Option R) : evFn Try.prog (E7 a9 a12 a11 a10 a15 a14 a39 a38 a44 a46 a40) loopLim Try.f7 kp7 [(V.agg [(V.i .u8 t0_0), (V.i .u8 t0_1), (V.i .u8 t0_2), (V.i .u8 t0_3), (V.i .u8 t0_4)]), (V.s t1), (V.i .u8 t2)] H K = g7_r a9 a12 a11 a10 a15 a14 a39 a38 a44 a46 a40 R t0_0 t0_1 t0_2 t0_3 t0_4 t1 t2 H (fun r0 H => K (V.b r0) H) := by
  have h0 : ∀ (t6 : Bool) (H : Heap), kFn Try.prog Try.f7.results.toList K .ret [(6, (V.b t6))] H =
      K (V.b t6) H := by intros; kernel_rfl
  have e0 := evFn_code2 (P := Try.prog) (c := c7_11) (E := (E7 a9 a12 a11 a10 a15 a14 a39 a38 a44 a46 a40)) (lr := loopLim) (kp := kp7) (fn := Try.f7) (args := [(V.agg [(V.i .u8 t0_0), (V.i .u8 t0_1), (V.i .u8 t0_2), (V.i .u8 t0_3), (V.i .u8 t0_4)]), (V.s t1), (V.i .u8 t2)]) H K (by kernel_rfl) (Nat.le_of_ble_eq_true (by kernel_rfl)) (by kernel_rfl)
  have e1 : ev Try.prog (E7 a9 a12 a11 a10 a15 a14 a39 a38 a44 a46 a40) loopLim Try.f7.ntmps kp7 c7_11 (argFr 0 [(V.agg [(V.i .u8 t0_0), (V.i .u8 t0_1), (V.i .u8 t0_2), (V.i .u8 t0_3), (V.i .u8 t0_4)]), (V.s t1), (V.i .u8 t2)]) H (kFn Try.prog Try.f7.results.toList K) = ev Try.prog (E7 a9 a12 a11 a10 a15 a14 a39 a38 a44 a46 a40) loopLim Try.f7.ntmps kp7 c7_11 [(0, (V.agg [(V.i .u8 t0_0), (V.i .u8 t0_1), (V.i .u8 t0_2), (V.i .u8 t0_3), (V.i .u8 t0_4)])), (1, (V.s t1)), (2, (V.i .u8 t2))] H (kFn Try.prog Try.f7.results.toList K) := by kernel_rfl
  refine (e0.trans e1).trans ?_
  delta g7_r
  exact (g7_p14_eq a9 a12 a11 a10 a15 a14 a39 a38 a44 a46 a40 la9 la12 la11 la10 la15 la14 la39 la38 la44 la46 la40 t0_0 t0_1 t0_2 t0_3 t0_4 t1 t2 H (kFn Try.prog Try.f7.results.toList K)).trans (congrArg (g7_p14 a9 a12 a11 a10 a15 a14 a39 a38 a44 a46 a40 R t0_0 t0_1 t0_2 t0_3 t0_4 t1 t2 H) (funext fun t6 => funext fun H => h0 t6 H))
theorem g7_ok {a9 : T9} {a12 : T12} {a11 : T11} {a10 : T10} {a15 : T15} {a14 : T14} {a39 : T39} {a38 : T38} {a44 : T44} {a46 : T46} {a40 : T40} (oa9 : FunOK Try.prog 9 (w9 a9)) (oa12 : FunOK Try.prog 12 (w12 a12)) (oa11 : FunOK Try.prog 11 (w11 a11)) (oa10 : FunOK Try.prog 10 (w10 a10)) (oa15 : FunOK Try.prog 15 (w15 a15)) (oa14 : FunOK Try.prog 14 (w14 a14)) (oa39 : FunOK Try.prog 39 (w39 a39)) (oa38 : FunOK Try.prog 38 (w38 a38)) (oa44 : FunOK Try.prog 44 (w44 a44)) (oa46 : FunOK Try.prog 46 (w46 a46)) (oa40 : FunOK Try.prog 40 (w40 a40)) (la9 : Lin9 a9) (la12 : Lin12 a12) (la11 : Lin11 a11) (la10 : Lin10 a10) (la15 : Lin15 a15) (la14 : Lin14 a14) (la39 : Lin39 a39) (la38 : Lin38 a38) (la44 : Lin44 a44) (la46 : Lin46 a46) (la40 : Lin40 a40) : FunOK Try.prog 7 (w7 (g7_r a9 a12 a11 a10 a15 a14 a39 a38 a44 a46 a40)) := by
  refine (runF_ok (E7_good oa9 oa12 oa11 oa10 oa15 oa14 oa39 oa38 oa44 oa46 oa40 la9 la12 la11 la10 la15 la14 la39 la38 la44 la46 la40) mixed lim_ok Try.func7 (by kernel_rfl) kp7).of_le fun R args H K r hk => ?_
  unfold w7 at hk
  split at hk
  · exact (g7_fn a9 a12 a11 a10 a15 a14 a39 a38 a44 a46 a40 la9 la12 la11 la10 la15 la14 la39 la38 la44 la46 la40 _ _ _ _ _ _ _ H K).trans hk
  · cases hk
end Go.Proofs.Ytbkncpmgpogakaa
