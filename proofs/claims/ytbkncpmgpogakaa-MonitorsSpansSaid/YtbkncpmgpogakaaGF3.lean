/- Printed: functions as the machine runs them. -/
import Derived.Test.YtbkncpmgpogakaaGT
namespace Go.Proofs.Ytbkncpmgpogakaa
open Go AM Go.RowKit
set_option linter.unusedVariables false
def kp3 : Nat → Option (List Nat) := kpOf [(0, [1, 2, 3]), (1, [1, 2, 3, 19]), (2, [6]), (3, [1, 2, 3, 7, 8]), (4, [1, 2, 3, 7, 40]), (5, [6]), (6, [2, 3, 7, 9]), (7, [2, 3, 7, 9, 10]), (8, [2, 3, 7, 9, 10, 52]), (9, [2, 3, 7, 9, 10]), (10, [2, 3, 7, 9, 10]), (11, [3, 7, 9]), (12, [3, 7, 9, 11]), (13, [3, 7, 9, 11, 15]), (14, [3, 7, 9, 11, 15, 76]), (15, [3, 7, 9, 11, 15]), (16, [3, 7, 9, 11, 15]), (17, [3, 7, 9, 11, 15, 16]), (18, [3, 7, 9, 11, 15, 114]), (19, [6]), (20, [6]), (100000, [3, 7, 9]), (100001, [2, 3, 7, 9, 10]), (100002, []), (100003, [3, 7, 9, 11, 15]), (200000, [2, 3, 7, 9, 10]), (200001, [2, 3, 7, 9, 10]), (200002, [3, 7, 9, 11, 15]), (200003, [3, 7, 9, 11, 15]), (300000, [6]), (400019, [1, 2, 3]), (400040, [1, 2, 3, 7]), (400052, [2, 3, 7, 9, 10]), (400076, [3, 7, 9, 11, 15]), (400114, [3, 7, 9, 11, 15])]
def E3 (a9 : T9) (a10 : T10) (a39 : T39) (a40 : T40) (a11 : T11) (a38 : T38) (a44 : T44) (a46 : T46) (a41 : T41) (a45 : T45) (a47 : T47) (a12 : T12) (a13 : T13) : FEnv := [(9, w9 a9), (10, w10 a10), (39, w39 a39), (40, w40 a40), (11, w11 a11), (38, w38 a38), (44, w44 a44), (46, w46 a46), (41, w41 a41), (45, w45 a45), (47, w47 a47), (12, w12 a12), (13, w13 a13)]
theorem E3_good {a9 : T9} {a10 : T10} {a39 : T39} {a40 : T40} {a11 : T11} {a38 : T38} {a44 : T44} {a46 : T46} {a41 : T41} {a45 : T45} {a47 : T47} {a12 : T12} {a13 : T13} (oa9 : FunOK Try.prog 9 (w9 a9)) (oa10 : FunOK Try.prog 10 (w10 a10)) (oa39 : FunOK Try.prog 39 (w39 a39)) (oa40 : FunOK Try.prog 40 (w40 a40)) (oa11 : FunOK Try.prog 11 (w11 a11)) (oa38 : FunOK Try.prog 38 (w38 a38)) (oa44 : FunOK Try.prog 44 (w44 a44)) (oa46 : FunOK Try.prog 46 (w46 a46)) (oa41 : FunOK Try.prog 41 (w41 a41)) (oa45 : FunOK Try.prog 45 (w45 a45)) (oa47 : FunOK Try.prog 47 (w47 a47)) (oa12 : FunOK Try.prog 12 (w12 a12)) (oa13 : FunOK Try.prog 13 (w13 a13)) (la9 : Lin9 a9) (la10 : Lin10 a10) (la39 : Lin39 a39) (la40 : Lin40 a40) (la11 : Lin11 a11) (la38 : Lin38 a38) (la44 : Lin44 a44) (la46 : Lin46 a46) (la41 : Lin41 a41) (la45 : Lin45 a45) (la47 : Lin47 a47) (la12 : Lin12 a12) (la13 : Lin13 a13) : EnvGood Try.prog (E3 a9 a10 a39 a40 a11 a38 a44 a46 a41 a45 a47 a12 a13) := ((((((((((((((EnvGood.nil _).cons oa13 (w13_lin la13)).cons oa12 (w12_lin la12)).cons oa47 (w47_lin la47)).cons oa45 (w45_lin la45)).cons oa41 (w41_lin la41)).cons oa46 (w46_lin la46)).cons oa44 (w44_lin la44)).cons oa38 (w38_lin la38)).cons oa11 (w11_lin la11)).cons oa40 (w40_lin la40)).cons oa39 (w39_lin la39)).cons oa10 (w10_lin la10)).cons oa9 (w9_lin la9))
theorem E3_lin {a9 : T9} {a10 : T10} {a39 : T39} {a40 : T40} {a11 : T11} {a38 : T38} {a44 : T44} {a46 : T46} {a41 : T41} {a45 : T45} {a47 : T47} {a12 : T12} {a13 : T13} (la9 : Lin9 a9) (la10 : Lin10 a10) (la39 : Lin39 a39) (la40 : Lin40 a40) (la11 : Lin11 a11) (la38 : Lin38 a38) (la44 : Lin44 a44) (la46 : Lin46 a46) (la41 : Lin41 a41) (la45 : Lin45 a45) (la47 : Lin47 a47) (la12 : Lin12 a12) (la13 : Lin13 a13) : EnvLin (E3 a9 a10 a39 a40 a11 a38 a44 a46 a41 a45 a47 a12 a13) := by
  intro g F h
  simp only [E3, List.mem_cons, List.not_mem_nil, or_false] at h
  rcases h with h | h | h | h | h | h | h | h | h | h | h | h | h
  · cases h; exact w9_lin la9
  · cases h; exact w10_lin la10
  · cases h; exact w39_lin la39
  · cases h; exact w40_lin la40
  · cases h; exact w11_lin la11
  · cases h; exact w38_lin la38
  · cases h; exact w44_lin la44
  · cases h; exact w46_lin la46
  · cases h; exact w41_lin la41
  · cases h; exact w45_lin la45
  · cases h; exact w47_lin la47
  · cases h; exact w12_lin la12
  · cases h; exact w13_lin la13
noncomputable def b3 : Code := Try.f3.body.getD .skip
noncomputable def c3_0 : Code := (.seq (codeAt [1, 1, 1, 1, 1, 0, 1, 0, 0, 0, 0] b3) (.seq (.cond (.tmp 52) .skip (.exit 0)) (.seq (.block 1 (codeAt [1, 1, 1, 1, 1, 0, 1, 0, 0, 1, 0, 0] b3)) (codeAt [1, 1, 1, 1, 1, 0, 1, 0, 0, 1, 1] b3))))
noncomputable def c3_1 : Code := (.loop c3_0)
noncomputable def c3_2 : Code := (.block 0 c3_1)
noncomputable def c3_3 : Code := (.seq (codeAt [1, 1, 1, 1, 1, 1, 1, 1, 0, 1, 0, 0, 0, 0] b3) (.seq (.cond (.tmp 76) .skip (.exit 2)) (.seq (.block 3 (.seq (codeAt [1, 1, 1, 1, 1, 1, 1, 1, 0, 1, 0, 0, 1, 0, 0, 0] b3) (.seq (codeAt [1, 1, 1, 1, 1, 1, 1, 1, 0, 1, 0, 0, 1, 0, 0, 1, 0] b3) (.seq (codeAt [1, 1, 1, 1, 1, 1, 1, 1, 0, 1, 0, 0, 1, 0, 0, 1, 1, 0] b3) (.cond (.tmp 114) (.seq (codeAt [1, 1, 1, 1, 1, 1, 1, 1, 0, 1, 0, 0, 1, 0, 0, 1, 1, 1, 0, 0] b3) .ret) .skip))))) (codeAt [1, 1, 1, 1, 1, 1, 1, 1, 0, 1, 0, 0, 1, 1] b3))))
noncomputable def c3_4 : Code := (.loop c3_3)
noncomputable def c3_5 : Code := (.block 2 c3_4)
noncomputable def c3_6 : Code := (.seq (codeAt [1, 1, 1, 1, 1, 1, 1, 1, 1, 0] b3) .ret)
noncomputable def c3_7 : Code := (.seq c3_5 c3_6)
noncomputable def c3_8 : Code := (.seq (codeAt [1, 1, 1, 1, 1, 1, 0] b3) (.seq (codeAt [1, 1, 1, 1, 1, 1, 1, 0] b3) (.seq (codeAt [1, 1, 1, 1, 1, 1, 1, 1, 0, 0] b3) c3_7)))
noncomputable def c3_9 : Code := (.seq c3_2 c3_8)
noncomputable def c3_10 : Code := (.seq (.cond (.tmp 40) (.seq (codeAt [1, 1, 1, 0, 1, 0, 0] b3) .ret) .skip) (.seq (codeAt [1, 1, 1, 1, 0] b3) (.seq (codeAt [1, 1, 1, 1, 1, 0, 0] b3) c3_9)))
noncomputable def c3_11 : Code := (.seq (codeAt [0] b3) (.seq (codeAt [1, 0, 0] b3) (.seq (.cond (.tmp 19) (.seq (codeAt [1, 0, 1, 0, 0] b3) .ret) .skip) (.seq (codeAt [1, 1, 0] b3) (.seq (codeAt [1, 1, 1, 0, 0] b3) c3_10)))))
noncomputable def g3_p0 (a9 : T9) (a10 : T10) (a39 : T39) (a40 : T40) (a11 : T11) (a38 : T38) (a44 : T44) (a46 : T46) (a41 : T41) (a45 : T45) (a47 : T47) (a12 : T12) (a13 : T13) (R : Type) (t0_0 : Int) (t0_1 : Int) (t0_2 : Int) (t0_3 : Int) (t0_4 : Int) (t1 : ByteArray) (t2 : Int) (H : Heap) (kN : ByteArray → Int → Nat → Nat → V → Bool → Heap → Option R) (kR : Bool → Heap → Option R) : Option R :=
  alo H (.cells [(V.i .u8 t0_0), (V.i .u8 t0_1), (V.i .u8 t0_2), (V.i .u8 t0_3), (V.i .u8 t0_4)] 23 false) fun i21 h22 =>
  sel (decide (((t1.size : Nat) : Int) > (300 : Int))) (
    a9 R h22 fun x23 h24 =>
    kR x23 h24) (
    ((h22).ldI .u8 i21 (0 + 0)).bind fun x25 =>
    ((h22).ldI .u8 i21 (0 + 1)).bind fun x26 =>
    ((h22).ldI .u8 i21 (0 + 2)).bind fun x27 =>
    ((h22).ldI .u8 i21 (0 + 3)).bind fun x28 =>
    ((h22).ldI .u8 i21 (0 + 4)).bind fun x29 =>
    a10 R x25 x26 x27 x28 x29 h22 fun x30 x31 h32 =>
    if (V.one x30) = true then (
      sel (x31 != (0 : Int)) (
        kN t1 t2 i21 0 x30 true h32) (
        ((ifNil x30)).bind fun x33 =>
        sel x33 (
          kN t1 t2 i21 0 x30 true h32) (
          invk Try.prog (E3 a9 a10 a39 a40 a11 a38 a44 a46 a41 a45 a47 a12 a13) x30 "Level" [] h32 fun x34 h35 =>
          ((V.asI .i64 x34)).bind fun x36 =>
          sel (x36 != (0 : Int)) (
            kN t1 t2 i21 0 x30 true h35) (
            invk Try.prog (E3 a9 a10 a39 a40 a11 a38 a44 a46 a41 a45 a47 a12 a13) x30 "Over" [] h35 fun x37 h38 =>
            ((V.asB x37)).bind fun x39 =>
            kN t1 t2 i21 0 x30 x39 h38))))
    else (
      none))
theorem g3_p0_eq (a9 : T9) (a10 : T10) (a39 : T39) (a40 : T40) (a11 : T11) (a38 : T38) (a44 : T44) (a46 : T46) (a41 : T41) (a45 : T45) (a47 : T47) (a12 : T12) (a13 : T13) {R : Type} (c2 : Code) (t0_0 : Int) (t0_1 : Int) (t0_2 : Int) (t0_3 : Int) (t0_4 : Int) (t1 : ByteArray) (t2 : Int) (H : Heap) (K : Ex → Fr → Heap → Option R) : ev Try.prog (E3 a9 a10 a39 a40 a11 a38 a44 a46 a41 a45 a47 a12 a13) loopLim Try.f3.ntmps kp3 (.seq (codeAt [0] b3) (.seq (codeAt [1, 0, 0] b3) (.seq (.cond (.tmp 19) (.seq (codeAt [1, 0, 1, 0, 0] b3) .ret) .skip) (.seq (codeAt [1, 1, 0] b3) (.seq (codeAt [1, 1, 1, 0, 0] b3) c2))))) [(0, (V.agg [(V.i .u8 t0_0), (V.i .u8 t0_1), (V.i .u8 t0_2), (V.i .u8 t0_3), (V.i .u8 t0_4)])), (1, (V.s t1)), (2, (V.i .u8 t2))] H K = g3_p0 a9 a10 a39 a40 a11 a38 a44 a46 a41 a45 a47 a12 a13 R t0_0 t0_1 t0_2 t0_3 t0_4 t1 t2 H (fun t1 t2 t3_0 t3_1 t7 t40 H => ev Try.prog (E3 a9 a10 a39 a40 a11 a38 a44 a46 a41 a45 a47 a12 a13) loopLim Try.f3.ntmps kp3 c2 [(1, (V.s t1)), (2, (V.i .u8 t2)), (3, (V.p (some (t3_0, t3_1)))), (7, t7), (40, (V.b t40))] H K) (fun t6 H => K .ret [(6, (V.b t6))] H) := by kernel_rfl
theorem g3_p0_lin {a9 : T9} {a10 : T10} {a39 : T39} {a40 : T40} {a11 : T11} {a38 : T38} {a44 : T44} {a46 : T46} {a41 : T41} {a45 : T45} {a47 : T47} {a12 : T12} {a13 : T13} (la9 : Lin9 a9) (la10 : Lin10 a10) (la39 : Lin39 a39) (la40 : Lin40 a40) (la11 : Lin11 a11) (la38 : Lin38 a38) (la44 : Lin44 a44) (la46 : Lin46 a46) (la41 : Lin41 a41) (la45 : Lin45 a45) (la47 : Lin47 a47) (la12 : Lin12 a12) (la13 : Lin13 a13) {R S : Type} {k : S → Option R} {t0_0 : Int} {t0_1 : Int} {t0_2 : Int} {t0_3 : Int} {t0_4 : Int} {t1 : ByteArray} {t2 : Int} {H : Heap} {fkN : ByteArray → Int → Nat → Nat → V → Bool → Heap → Option R} {gkN : ByteArray → Int → Nat → Nat → V → Bool → Heap → Option S} {fkR : Bool → Heap → Option R} {gkR : Bool → Heap → Option S} (hkN : ∀ t1 t2 t3_0 t3_1 t7 t40 H, fkN t1 t2 t3_0 t3_1 t7 t40 H = (gkN t1 t2 t3_0 t3_1 t7 t40 H).bind k) (hkR : ∀ t6 H, fkR t6 H = (gkR t6 H).bind k) : g3_p0 a9 a10 a39 a40 a11 a38 a44 a46 a41 a45 a47 a12 a13 R t0_0 t0_1 t0_2 t0_3 t0_4 t1 t2 H fkN fkR = (g3_p0 a9 a10 a39 a40 a11 a38 a44 a46 a41 a45 a47 a12 a13 S t0_0 t0_1 t0_2 t0_3 t0_4 t1 t2 H gkN gkR).bind k := by
  delta g3_p0; exact (
    alo_lin fun i21 h22 =>
    sl_lin (
      la9.l fun x23 h24 =>
      hkR _ _) (
      bl fun x25 =>
      bl fun x26 =>
      bl fun x27 =>
      bl fun x28 =>
      bl fun x29 =>
      la10.l fun x30 x31 h32 =>
      il (
        sl_lin (
          hkN _ _ _ _ _ _ _) (
          bl fun x33 =>
          sl_lin (
            hkN _ _ _ _ _ _ _) (
            invk_lin (E3_lin la9 la10 la39 la40 la11 la38 la44 la46 la41 la45 la47 la12 la13) fun x34 h35 =>
            bl fun x36 =>
            sl_lin (
              hkN _ _ _ _ _ _ _) (
              invk_lin (E3_lin la9 la10 la39 la40 la11 la38 la44 la46 la41 la45 la47 la12 la13) fun x37 h38 =>
              bl fun x39 =>
              hkN _ _ _ _ _ _ _)))) (
        rfl)))
noncomputable def g3_p1 (a9 : T9) (a10 : T10) (a39 : T39) (a40 : T40) (a11 : T11) (a38 : T38) (a44 : T44) (a46 : T46) (a41 : T41) (a45 : T45) (a47 : T47) (a12 : T12) (a13 : T13) (R : Type) (t1 : ByteArray) (t2 : Int) (t3_0 : Nat) (t3_1 : Nat) (t7 : V) (t40 : Bool) (H : Heap) (kN : Int → Nat → Nat → V → Sl → Int → Heap → Option R) (kR : Bool → Heap → Option R) : Option R :=
  sel t40 (
    kR false H) (
    a11 R t1 H fun x42 h43 =>
    kN t2 t3_0 t3_1 t7 x42 (0 : Int) h43)
theorem g3_p1_eq (a9 : T9) (a10 : T10) (a39 : T39) (a40 : T40) (a11 : T11) (a38 : T38) (a44 : T44) (a46 : T46) (a41 : T41) (a45 : T45) (a47 : T47) (a12 : T12) (a13 : T13) {R : Type} (c2 : Code) (t1 : ByteArray) (t2 : Int) (t3_0 : Nat) (t3_1 : Nat) (t7 : V) (t40 : Bool) (H : Heap) (K : Ex → Fr → Heap → Option R) : ev Try.prog (E3 a9 a10 a39 a40 a11 a38 a44 a46 a41 a45 a47 a12 a13) loopLim Try.f3.ntmps kp3 (.seq (.cond (.tmp 40) (.seq (codeAt [1, 1, 1, 0, 1, 0, 0] b3) .ret) .skip) (.seq (codeAt [1, 1, 1, 1, 0] b3) (.seq (codeAt [1, 1, 1, 1, 1, 0, 0] b3) c2))) [(1, (V.s t1)), (2, (V.i .u8 t2)), (3, (V.p (some (t3_0, t3_1)))), (7, t7), (40, (V.b t40))] H K = g3_p1 a9 a10 a39 a40 a11 a38 a44 a46 a41 a45 a47 a12 a13 R t1 t2 t3_0 t3_1 t7 t40 H (fun t2 t3_0 t3_1 t7 t9 t10 H => ev Try.prog (E3 a9 a10 a39 a40 a11 a38 a44 a46 a41 a45 a47 a12 a13) loopLim Try.f3.ntmps kp3 c2 [(2, (V.i .u8 t2)), (3, (V.p (some (t3_0, t3_1)))), (7, t7), (9, (V.sl t9)), (10, (V.i .i64 t10))] H K) (fun t6 H => K .ret [(6, (V.b t6))] H) := by kernel_rfl
theorem g3_p1_lin {a9 : T9} {a10 : T10} {a39 : T39} {a40 : T40} {a11 : T11} {a38 : T38} {a44 : T44} {a46 : T46} {a41 : T41} {a45 : T45} {a47 : T47} {a12 : T12} {a13 : T13} (la9 : Lin9 a9) (la10 : Lin10 a10) (la39 : Lin39 a39) (la40 : Lin40 a40) (la11 : Lin11 a11) (la38 : Lin38 a38) (la44 : Lin44 a44) (la46 : Lin46 a46) (la41 : Lin41 a41) (la45 : Lin45 a45) (la47 : Lin47 a47) (la12 : Lin12 a12) (la13 : Lin13 a13) {R S : Type} {k : S → Option R} {t1 : ByteArray} {t2 : Int} {t3_0 : Nat} {t3_1 : Nat} {t7 : V} {t40 : Bool} {H : Heap} {fkN : Int → Nat → Nat → V → Sl → Int → Heap → Option R} {gkN : Int → Nat → Nat → V → Sl → Int → Heap → Option S} {fkR : Bool → Heap → Option R} {gkR : Bool → Heap → Option S} (hkN : ∀ t2 t3_0 t3_1 t7 t9 t10 H, fkN t2 t3_0 t3_1 t7 t9 t10 H = (gkN t2 t3_0 t3_1 t7 t9 t10 H).bind k) (hkR : ∀ t6 H, fkR t6 H = (gkR t6 H).bind k) : g3_p1 a9 a10 a39 a40 a11 a38 a44 a46 a41 a45 a47 a12 a13 R t1 t2 t3_0 t3_1 t7 t40 H fkN fkR = (g3_p1 a9 a10 a39 a40 a11 a38 a44 a46 a41 a45 a47 a12 a13 S t1 t2 t3_0 t3_1 t7 t40 H gkN gkR).bind k := by
  delta g3_p1; exact (
    sl_lin (
      hkR _ _) (
      la11.l fun x42 h43 =>
      hkN _ _ _ _ _ _ _))
noncomputable def g3_p2 (a9 : T9) (a10 : T10) (a39 : T39) (a40 : T40) (a11 : T11) (a38 : T38) (a44 : T44) (a46 : T46) (a41 : T41) (a45 : T45) (a47 : T47) (a12 : T12) (a13 : T13) (R : Type) (t2 : Int) (t3_0 : Nat) (t3_1 : Nat) (t7 : V) (t9 : Sl) (t10 : Int) (H : Heap) (kN : Int → Nat → Nat → V → Sl → Int → Heap → Option R) (kE0 : Nat → Nat → V → Sl → Heap → Option R) : Option R :=
  sel (decide (t10 < ((t9.len : Nat) : Int))) (
    sel (decide (t10 < (IntKind.wrap .i64 t2))) (
      if 0 ≤ t10 ∧ t10 < ((t9.len : Nat) : Int) then (
        (t9.a).bind fun q44 =>
        ((H).ldB q44.1 (q44.2 + Int.toNat t10 * 1)).bind fun x45 =>
        if methNotNil Try.prog t7 "Count" = true then (
          invk Try.prog (E3 a9 a10 a39 a40 a11 a38 a44 a46 a41 a45 a47 a12 a13) t7 "Count" [(V.b x45)] H fun x46 h47 =>
          exR Try.prog 0 x46 fun x48 =>
          kN t2 t3_0 t3_1 t7 t9 (IntKind.wrap .i64 (t10 + (1 : Int))) h47)
        else (
          none))
      else (
        none)) (
      kE0 t3_0 t3_1 t7 t9 H)) (
    kE0 t3_0 t3_1 t7 t9 H)
theorem g3_p2_eq (a9 : T9) (a10 : T10) (a39 : T39) (a40 : T40) (a11 : T11) (a38 : T38) (a44 : T44) (a46 : T46) (a41 : T41) (a45 : T45) (a47 : T47) (a12 : T12) (a13 : T13) (la9 : Lin9 a9) (la10 : Lin10 a10) (la39 : Lin39 a39) (la40 : Lin40 a40) (la11 : Lin11 a11) (la38 : Lin38 a38) (la44 : Lin44 a44) (la46 : Lin46 a46) (la41 : Lin41 a41) (la45 : Lin45 a45) (la47 : Lin47 a47) (la12 : Lin12 a12) (la13 : Lin13 a13) {R : Type} (t2 : Int) (t3_0 : Nat) (t3_1 : Nat) (t7 : V) (t9 : Sl) (t10 : Int) (H : Heap) (K : Ex → Fr → Heap → Option R) : ev Try.prog (E3 a9 a10 a39 a40 a11 a38 a44 a46 a41 a45 a47 a12 a13) loopLim Try.f3.ntmps kp3 c3_0 [(2, (V.i .u8 t2)), (3, (V.p (some (t3_0, t3_1)))), (7, t7), (9, (V.sl t9)), (10, (V.i .i64 t10))] H K = g3_p2 a9 a10 a39 a40 a11 a38 a44 a46 a41 a45 a47 a12 a13 R t2 t3_0 t3_1 t7 t9 t10 H (fun t2 t3_0 t3_1 t7 t9 t10 H => K .normal [(2, (V.i .u8 t2)), (3, (V.p (some (t3_0, t3_1)))), (7, t7), (9, (V.sl t9)), (10, (V.i .i64 t10))] H) (fun t3_0 t3_1 t7 t9 H => K (.exit 0) [(3, (V.p (some (t3_0, t3_1)))), (7, t7), (9, (V.sl t9))] H) := by kernel_rfl
theorem g3_p2_lin {a9 : T9} {a10 : T10} {a39 : T39} {a40 : T40} {a11 : T11} {a38 : T38} {a44 : T44} {a46 : T46} {a41 : T41} {a45 : T45} {a47 : T47} {a12 : T12} {a13 : T13} (la9 : Lin9 a9) (la10 : Lin10 a10) (la39 : Lin39 a39) (la40 : Lin40 a40) (la11 : Lin11 a11) (la38 : Lin38 a38) (la44 : Lin44 a44) (la46 : Lin46 a46) (la41 : Lin41 a41) (la45 : Lin45 a45) (la47 : Lin47 a47) (la12 : Lin12 a12) (la13 : Lin13 a13) {R S : Type} {k : S → Option R} {t2 : Int} {t3_0 : Nat} {t3_1 : Nat} {t7 : V} {t9 : Sl} {t10 : Int} {H : Heap} {fkN : Int → Nat → Nat → V → Sl → Int → Heap → Option R} {gkN : Int → Nat → Nat → V → Sl → Int → Heap → Option S} {fkE0 : Nat → Nat → V → Sl → Heap → Option R} {gkE0 : Nat → Nat → V → Sl → Heap → Option S} (hkN : ∀ t2 t3_0 t3_1 t7 t9 t10 H, fkN t2 t3_0 t3_1 t7 t9 t10 H = (gkN t2 t3_0 t3_1 t7 t9 t10 H).bind k) (hkE0 : ∀ t3_0 t3_1 t7 t9 H, fkE0 t3_0 t3_1 t7 t9 H = (gkE0 t3_0 t3_1 t7 t9 H).bind k) : g3_p2 a9 a10 a39 a40 a11 a38 a44 a46 a41 a45 a47 a12 a13 R t2 t3_0 t3_1 t7 t9 t10 H fkN fkE0 = (g3_p2 a9 a10 a39 a40 a11 a38 a44 a46 a41 a45 a47 a12 a13 S t2 t3_0 t3_1 t7 t9 t10 H gkN gkE0).bind k := by
  delta g3_p2; exact (
    sl_lin (
      sl_lin (
        il (
          bl fun q44 =>
          bl fun x45 =>
          il (
            invk_lin (E3_lin la9 la10 la39 la40 la11 la38 la44 la46 la41 la45 la47 la12 la13) fun x46 h47 =>
            exR_lin fun x48 =>
            hkN _ _ _ _ _ _ _) (
            rfl)) (
          rfl)) (
        hkE0 _ _ _ _ _)) (
      hkE0 _ _ _ _ _))
abbrev g3_p3_S := Int × Nat × Nat × V × Sl × Int
abbrev g3_p3_O := Nat × Nat × V × Sl
def g3_p3_es (s : g3_p3_S) : Fr := [(2, (V.i .u8 s.1)), (3, (V.p (some (s.2.1, s.2.2.1)))), (7, s.2.2.2.1), (9, (V.sl s.2.2.2.2.1)), (10, (V.i .i64 s.2.2.2.2.2))]
def g3_p3_er (r : g3_p3_O) : Ex × Fr := ((.exit 0), [(3, (V.p (some (r.1, r.2.1)))), (7, r.2.2.1), (9, (V.sl r.2.2.2))])
noncomputable def g3_p3_b (a9 : T9) (a10 : T10) (a39 : T39) (a40 : T40) (a11 : T11) (a38 : T38) (a44 : T44) (a46 : T46) (a41 : T41) (a45 : T45) (a47 : T47) (a12 : T12) (a13 : T13) (s : g3_p3_S) (H : Heap) : Option (Rd g3_p3_S g3_p3_O × Heap) :=
  g3_p2 a9 a10 a39 a40 a11 a38 a44 a46 a41 a45 a47 a12 a13 _ s.1 s.2.1 s.2.2.1 s.2.2.2.1 s.2.2.2.2.1 s.2.2.2.2.2 H (fun t2 t3_0 t3_1 t7 t9 t10 H => some (.go (t2, t3_0, t3_1, t7, t9, t10), H)) (fun t3_0 t3_1 t7 t9 H => some (.up (t3_0, t3_1, t7, t9), H))
noncomputable def g3_p3 (a9 : T9) (a10 : T10) (a39 : T39) (a40 : T40) (a11 : T11) (a38 : T38) (a44 : T44) (a46 : T46) (a41 : T41) (a45 : T45) (a47 : T47) (a12 : T12) (a13 : T13) (R : Type) (t2 : Int) (t3_0 : Nat) (t3_1 : Nat) (t7 : V) (t9 : Sl) (t10 : Int) (H : Heap) (kE0 : Nat → Nat → V → Sl → Heap → Option R) : Option R :=
  (tlim (g3_p3_b a9 a10 a39 a40 a11 a38 a44 a46 a41 a45 a47 a12 a13) (t2, t3_0, t3_1, t7, t9, t10) H).bind fun p => kE0 p.1.1 p.1.2.1 p.1.2.2.1 p.1.2.2.2 p.2
theorem g3_p3_lin {a9 : T9} {a10 : T10} {a39 : T39} {a40 : T40} {a11 : T11} {a38 : T38} {a44 : T44} {a46 : T46} {a41 : T41} {a45 : T45} {a47 : T47} {a12 : T12} {a13 : T13} (la9 : Lin9 a9) (la10 : Lin10 a10) (la39 : Lin39 a39) (la40 : Lin40 a40) (la11 : Lin11 a11) (la38 : Lin38 a38) (la44 : Lin44 a44) (la46 : Lin46 a46) (la41 : Lin41 a41) (la45 : Lin45 a45) (la47 : Lin47 a47) (la12 : Lin12 a12) (la13 : Lin13 a13) {R S : Type} {k : S → Option R} {t2 : Int} {t3_0 : Nat} {t3_1 : Nat} {t7 : V} {t9 : Sl} {t10 : Int} {H : Heap} {fkE0 : Nat → Nat → V → Sl → Heap → Option R} {gkE0 : Nat → Nat → V → Sl → Heap → Option S} (hkE0 : ∀ t3_0 t3_1 t7 t9 H, fkE0 t3_0 t3_1 t7 t9 H = (gkE0 t3_0 t3_1 t7 t9 H).bind k) : g3_p3 a9 a10 a39 a40 a11 a38 a44 a46 a41 a45 a47 a12 a13 R t2 t3_0 t3_1 t7 t9 t10 H fkE0 = (g3_p3 a9 a10 a39 a40 a11 a38 a44 a46 a41 a45 a47 a12 a13 S t2 t3_0 t3_1 t7 t9 t10 H gkE0).bind k := by
  exact bl fun p => hkE0 _ _ _ _ _
theorem g3_p3_eq (a9 : T9) (a10 : T10) (a39 : T39) (a40 : T40) (a11 : T11) (a38 : T38) (a44 : T44) (a46 : T46) (a41 : T41) (a45 : T45) (a47 : T47) (a12 : T12) (a13 : T13) (la9 : Lin9 a9) (la10 : Lin10 a10) (la39 : Lin39 a39) (la40 : Lin40 a40) (la11 : Lin11 a11) (la38 : Lin38 a38) (la44 : Lin44 a44) (la46 : Lin46 a46) (la41 : Lin41 a41) (la45 : Lin45 a45) (la47 : Lin47 a47) (la12 : Lin12 a12) (la13 : Lin13 a13) {R : Type} (t2 : Int) (t3_0 : Nat) (t3_1 : Nat) (t7 : V) (t9 : Sl) (t10 : Int) (H : Heap) (K : Ex → Fr → Heap → Option R) : ev Try.prog (E3 a9 a10 a39 a40 a11 a38 a44 a46 a41 a45 a47 a12 a13) loopLim Try.f3.ntmps kp3 c3_1 [(2, (V.i .u8 t2)), (3, (V.p (some (t3_0, t3_1)))), (7, t7), (9, (V.sl t9)), (10, (V.i .i64 t10))] H K = g3_p3 a9 a10 a39 a40 a11 a38 a44 a46 a41 a45 a47 a12 a13 R t2 t3_0 t3_1 t7 t9 t10 H (fun t3_0 t3_1 t7 t9 H => K (.exit 0) [(3, (V.p (some (t3_0, t3_1)))), (7, t7), (9, (V.sl t9))] H) := by
  show ev Try.prog (E3 a9 a10 a39 a40 a11 a38 a44 a46 a41 a45 a47 a12 a13) loopLim Try.f3.ntmps kp3 (.loop c3_0) [(2, (V.i .u8 t2)), (3, (V.p (some (t3_0, t3_1)))), (7, t7), (9, (V.sl t9)), (10, (V.i .i64 t10))] H K = _
  delta g3_p3
  refine (ev_tlim (b := g3_p3_b a9 a10 a39 a40 a11 a38 a44 a46 a41 a45 a47 a12 a13) (es := g3_p3_es) (er := g3_p3_er) (by intro r; exact nofun) (fun s H => ?_) (t2, t3_0, t3_1, t7, t9, t10) H K).trans (bc fun p => rfl)
  exact (g3_p2_eq a9 a10 a39 a40 a11 a38 a44 a46 a41 a45 a47 a12 a13 la9 la10 la39 la40 la11 la38 la44 la46 la41 la45 la47 la12 la13 s.1 s.2.1 s.2.2.1 s.2.2.2.1 s.2.2.2.2.1 s.2.2.2.2.2 H ret3).trans (g3_p2_lin la9 la10 la39 la40 la11 la38 la44 la46 la41 la45 la47 la12 la13 (fun _ _ _ _ _ _ _ => rfl) (fun _ _ _ _ _ => rfl))
noncomputable def g3_p4 (a9 : T9) (a10 : T10) (a39 : T39) (a40 : T40) (a11 : T11) (a38 : T38) (a44 : T44) (a46 : T46) (a41 : T41) (a45 : T45) (a47 : T47) (a12 : T12) (a13 : T13) (R : Type) (t2 : Int) (t3_0 : Nat) (t3_1 : Nat) (t7 : V) (t9 : Sl) (t10 : Int) (H : Heap) (kN : Nat → Nat → V → Sl → Heap → Option R) : Option R :=
  g3_p3 a9 a10 a39 a40 a11 a38 a44 a46 a41 a45 a47 a12 a13 R t2 t3_0 t3_1 t7 t9 t10 H (fun t3_0 t3_1 t7 t9 H => kN t3_0 t3_1 t7 t9 H)
theorem g3_p4_lin {a9 : T9} {a10 : T10} {a39 : T39} {a40 : T40} {a11 : T11} {a38 : T38} {a44 : T44} {a46 : T46} {a41 : T41} {a45 : T45} {a47 : T47} {a12 : T12} {a13 : T13} (la9 : Lin9 a9) (la10 : Lin10 a10) (la39 : Lin39 a39) (la40 : Lin40 a40) (la11 : Lin11 a11) (la38 : Lin38 a38) (la44 : Lin44 a44) (la46 : Lin46 a46) (la41 : Lin41 a41) (la45 : Lin45 a45) (la47 : Lin47 a47) (la12 : Lin12 a12) (la13 : Lin13 a13) {R S : Type} {k : S → Option R} {t2 : Int} {t3_0 : Nat} {t3_1 : Nat} {t7 : V} {t9 : Sl} {t10 : Int} {H : Heap} {fkN : Nat → Nat → V → Sl → Heap → Option R} {gkN : Nat → Nat → V → Sl → Heap → Option S} (hkN : ∀ t3_0 t3_1 t7 t9 H, fkN t3_0 t3_1 t7 t9 H = (gkN t3_0 t3_1 t7 t9 H).bind k) : g3_p4 a9 a10 a39 a40 a11 a38 a44 a46 a41 a45 a47 a12 a13 R t2 t3_0 t3_1 t7 t9 t10 H fkN = (g3_p4 a9 a10 a39 a40 a11 a38 a44 a46 a41 a45 a47 a12 a13 S t2 t3_0 t3_1 t7 t9 t10 H gkN).bind k := by
  exact g3_p3_lin la9 la10 la39 la40 la11 la38 la44 la46 la41 la45 la47 la12 la13 (fun _ _ _ _ _ => hkN _ _ _ _ _)
theorem g3_p4_eq (a9 : T9) (a10 : T10) (a39 : T39) (a40 : T40) (a11 : T11) (a38 : T38) (a44 : T44) (a46 : T46) (a41 : T41) (a45 : T45) (a47 : T47) (a12 : T12) (a13 : T13) (la9 : Lin9 a9) (la10 : Lin10 a10) (la39 : Lin39 a39) (la40 : Lin40 a40) (la11 : Lin11 a11) (la38 : Lin38 a38) (la44 : Lin44 a44) (la46 : Lin46 a46) (la41 : Lin41 a41) (la45 : Lin45 a45) (la47 : Lin47 a47) (la12 : Lin12 a12) (la13 : Lin13 a13) {R : Type} (t2 : Int) (t3_0 : Nat) (t3_1 : Nat) (t7 : V) (t9 : Sl) (t10 : Int) (H : Heap) (K : Ex → Fr → Heap → Option R) : ev Try.prog (E3 a9 a10 a39 a40 a11 a38 a44 a46 a41 a45 a47 a12 a13) loopLim Try.f3.ntmps kp3 c3_2 [(2, (V.i .u8 t2)), (3, (V.p (some (t3_0, t3_1)))), (7, t7), (9, (V.sl t9)), (10, (V.i .i64 t10))] H K = g3_p4 a9 a10 a39 a40 a11 a38 a44 a46 a41 a45 a47 a12 a13 R t2 t3_0 t3_1 t7 t9 t10 H (fun t3_0 t3_1 t7 t9 H => K .normal [(3, (V.p (some (t3_0, t3_1)))), (7, t7), (9, (V.sl t9))] H) := by
  show ev Try.prog (E3 a9 a10 a39 a40 a11 a38 a44 a46 a41 a45 a47 a12 a13) loopLim Try.f3.ntmps kp3 (.block 0 c3_1) [(2, (V.i .u8 t2)), (3, (V.p (some (t3_0, t3_1)))), (7, t7), (9, (V.sl t9)), (10, (V.i .i64 t10))] H K = _
  rw [ev_block]
  delta g3_p4
  exact (g3_p3_eq a9 a10 a39 a40 a11 a38 a44 a46 a41 a45 a47 a12 a13 la9 la10 la39 la40 la11 la38 la44 la46 la41 la45 la47 la12 la13 t2 t3_0 t3_1 t7 t9 t10 H (kBlock kp3 0 K))
noncomputable def g3_p5 (a9 : T9) (a10 : T10) (a39 : T39) (a40 : T40) (a11 : T11) (a38 : T38) (a44 : T44) (a46 : T46) (a41 : T41) (a45 : T45) (a47 : T47) (a12 : T12) (a13 : T13) (R : Type) (t3_0 : Nat) (t3_1 : Nat) (t7 : V) (t9 : Sl) (H : Heap) (kN : Nat → Nat → V → Sl → Int → Int → Heap → Option R) : Option R :=
  invk Try.prog (E3 a9 a10 a39 a40 a11 a38 a44 a46 a41 a45 a47 a12 a13) t7 "Reset" [] H fun x65 h66 =>
  exR Try.prog 0 x65 fun x67 =>
  ((h66).ldI .u8 t3_0 (t3_1 + 0)).bind fun x68 =>
  ((h66).ldI .u8 t3_0 (t3_1 + 1)).bind fun x69 =>
  ((h66).ldI .u8 t3_0 (t3_1 + 2)).bind fun x70 =>
  ((h66).ldI .u8 t3_0 (t3_1 + 3)).bind fun x71 =>
  ((h66).ldI .u8 t3_0 (t3_1 + 4)).bind fun x72 =>
  a12 R x68 x69 x70 x71 x72 h66 fun x73 x74 x75 x76 h77 =>
  kN t3_0 t3_1 t7 t9 x73 (0 : Int) h77
theorem g3_p5_eq (a9 : T9) (a10 : T10) (a39 : T39) (a40 : T40) (a11 : T11) (a38 : T38) (a44 : T44) (a46 : T46) (a41 : T41) (a45 : T45) (a47 : T47) (a12 : T12) (a13 : T13) {R : Type} (c2 : Code) (t3_0 : Nat) (t3_1 : Nat) (t7 : V) (t9 : Sl) (H : Heap) (K : Ex → Fr → Heap → Option R) : ev Try.prog (E3 a9 a10 a39 a40 a11 a38 a44 a46 a41 a45 a47 a12 a13) loopLim Try.f3.ntmps kp3 (.seq (codeAt [1, 1, 1, 1, 1, 1, 0] b3) (.seq (codeAt [1, 1, 1, 1, 1, 1, 1, 0] b3) (.seq (codeAt [1, 1, 1, 1, 1, 1, 1, 1, 0, 0] b3) c2))) [(3, (V.p (some (t3_0, t3_1)))), (7, t7), (9, (V.sl t9))] H K = g3_p5 a9 a10 a39 a40 a11 a38 a44 a46 a41 a45 a47 a12 a13 R t3_0 t3_1 t7 t9 H (fun t3_0 t3_1 t7 t9 t11 t15 H => ev Try.prog (E3 a9 a10 a39 a40 a11 a38 a44 a46 a41 a45 a47 a12 a13) loopLim Try.f3.ntmps kp3 c2 [(3, (V.p (some (t3_0, t3_1)))), (7, t7), (9, (V.sl t9)), (11, (V.i .i64 t11)), (15, (V.i .i64 t15))] H K) := by kernel_rfl
theorem g3_p5_lin {a9 : T9} {a10 : T10} {a39 : T39} {a40 : T40} {a11 : T11} {a38 : T38} {a44 : T44} {a46 : T46} {a41 : T41} {a45 : T45} {a47 : T47} {a12 : T12} {a13 : T13} (la9 : Lin9 a9) (la10 : Lin10 a10) (la39 : Lin39 a39) (la40 : Lin40 a40) (la11 : Lin11 a11) (la38 : Lin38 a38) (la44 : Lin44 a44) (la46 : Lin46 a46) (la41 : Lin41 a41) (la45 : Lin45 a45) (la47 : Lin47 a47) (la12 : Lin12 a12) (la13 : Lin13 a13) {R S : Type} {k : S → Option R} {t3_0 : Nat} {t3_1 : Nat} {t7 : V} {t9 : Sl} {H : Heap} {fkN : Nat → Nat → V → Sl → Int → Int → Heap → Option R} {gkN : Nat → Nat → V → Sl → Int → Int → Heap → Option S} (hkN : ∀ t3_0 t3_1 t7 t9 t11 t15 H, fkN t3_0 t3_1 t7 t9 t11 t15 H = (gkN t3_0 t3_1 t7 t9 t11 t15 H).bind k) : g3_p5 a9 a10 a39 a40 a11 a38 a44 a46 a41 a45 a47 a12 a13 R t3_0 t3_1 t7 t9 H fkN = (g3_p5 a9 a10 a39 a40 a11 a38 a44 a46 a41 a45 a47 a12 a13 S t3_0 t3_1 t7 t9 H gkN).bind k := by
  delta g3_p5; exact (
    invk_lin (E3_lin la9 la10 la39 la40 la11 la38 la44 la46 la41 la45 la47 la12 la13) fun x65 h66 =>
    exR_lin fun x67 =>
    bl fun x68 =>
    bl fun x69 =>
    bl fun x70 =>
    bl fun x71 =>
    bl fun x72 =>
    la12.l fun x73 x74 x75 x76 h77 =>
    hkN _ _ _ _ _ _ _)
noncomputable def g3_p6 (a9 : T9) (a10 : T10) (a39 : T39) (a40 : T40) (a11 : T11) (a38 : T38) (a44 : T44) (a46 : T46) (a41 : T41) (a45 : T45) (a47 : T47) (a12 : T12) (a13 : T13) (R : Type) (t3_0 : Nat) (t3_1 : Nat) (t7 : V) (t9 : Sl) (t11 : Int) (t15 : Int) (H : Heap) (kN : Nat → Nat → V → Sl → Int → Int → Heap → Option R) (kE2 : Heap → Option R) (kR : Bool → Heap → Option R) : Option R :=
  sel (decide (t15 < ((t9.len : Nat) : Int))) (
    if 0 ≤ t15 ∧ t15 < ((t9.len : Nat) : Int) then (
      (t9.a).bind fun q78 =>
      ((H).ldB q78.1 (q78.2 + Int.toNat t15 * 1)).bind fun x79 =>
      if methNotNil Try.prog t7 "Count" = true then (
        invk Try.prog (E3 a9 a10 a39 a40 a11 a38 a44 a46 a41 a45 a47 a12 a13) t7 "Count" [(V.b x79)] H fun x80 h81 =>
        exR Try.prog 0 x80 fun x82 =>
        ((h81).ldI .u8 t3_0 (t3_1 + 0)).bind fun x83 =>
        ((h81).ldI .u8 t3_0 (t3_1 + 1)).bind fun x84 =>
        ((h81).ldI .u8 t3_0 (t3_1 + 2)).bind fun x85 =>
        ((h81).ldI .u8 t3_0 (t3_1 + 3)).bind fun x86 =>
        ((h81).ldI .u8 t3_0 (t3_1 + 4)).bind fun x87 =>
        slOf 1 t9 none (some (IntKind.wrap .i64 (t15 + (1 : Int)))) none fun s88 =>
        a13 R x83 x84 x85 x86 x87 s88 h81 fun x89 h90 =>
        invk Try.prog (E3 a9 a10 a39 a40 a11 a38 a44 a46 a41 a45 a47 a12 a13) t7 "Level" [] h90 fun x91 h92 =>
        ((V.asI .i64 x91)).bind fun x93 =>
        sel (x93 != x89) (
          kR false h92) (
          invk Try.prog (E3 a9 a10 a39 a40 a11 a38 a44 a46 a41 a45 a47 a12 a13) t7 "Over" [] h92 fun x94 h95 =>
          ((V.asB x94)).bind fun x96 =>
          sel (!(x96 == (x89 == t11))) (
            kR false h95) (
            sel (decide (x89 < (0 : Int))) (
              kR false h95) (
              sel (decide (x89 > t11)) (
                kR false h95) (
                kN t3_0 t3_1 t7 t9 t11 (IntKind.wrap .i64 (t15 + (1 : Int))) h95)))))
      else (
        none))
    else (
      none)) (
    kE2 H)
theorem g3_p6_eq (a9 : T9) (a10 : T10) (a39 : T39) (a40 : T40) (a11 : T11) (a38 : T38) (a44 : T44) (a46 : T46) (a41 : T41) (a45 : T45) (a47 : T47) (a12 : T12) (a13 : T13) (la9 : Lin9 a9) (la10 : Lin10 a10) (la39 : Lin39 a39) (la40 : Lin40 a40) (la11 : Lin11 a11) (la38 : Lin38 a38) (la44 : Lin44 a44) (la46 : Lin46 a46) (la41 : Lin41 a41) (la45 : Lin45 a45) (la47 : Lin47 a47) (la12 : Lin12 a12) (la13 : Lin13 a13) {R : Type} (t3_0 : Nat) (t3_1 : Nat) (t7 : V) (t9 : Sl) (t11 : Int) (t15 : Int) (H : Heap) (K : Ex → Fr → Heap → Option R) : ev Try.prog (E3 a9 a10 a39 a40 a11 a38 a44 a46 a41 a45 a47 a12 a13) loopLim Try.f3.ntmps kp3 c3_3 [(3, (V.p (some (t3_0, t3_1)))), (7, t7), (9, (V.sl t9)), (11, (V.i .i64 t11)), (15, (V.i .i64 t15))] H K = g3_p6 a9 a10 a39 a40 a11 a38 a44 a46 a41 a45 a47 a12 a13 R t3_0 t3_1 t7 t9 t11 t15 H (fun t3_0 t3_1 t7 t9 t11 t15 H => K .normal [(3, (V.p (some (t3_0, t3_1)))), (7, t7), (9, (V.sl t9)), (11, (V.i .i64 t11)), (15, (V.i .i64 t15))] H) (fun H => K (.exit 2) [] H) (fun t6 H => K .ret [(6, (V.b t6))] H) := by kernel_rfl
theorem g3_p6_lin {a9 : T9} {a10 : T10} {a39 : T39} {a40 : T40} {a11 : T11} {a38 : T38} {a44 : T44} {a46 : T46} {a41 : T41} {a45 : T45} {a47 : T47} {a12 : T12} {a13 : T13} (la9 : Lin9 a9) (la10 : Lin10 a10) (la39 : Lin39 a39) (la40 : Lin40 a40) (la11 : Lin11 a11) (la38 : Lin38 a38) (la44 : Lin44 a44) (la46 : Lin46 a46) (la41 : Lin41 a41) (la45 : Lin45 a45) (la47 : Lin47 a47) (la12 : Lin12 a12) (la13 : Lin13 a13) {R S : Type} {k : S → Option R} {t3_0 : Nat} {t3_1 : Nat} {t7 : V} {t9 : Sl} {t11 : Int} {t15 : Int} {H : Heap} {fkN : Nat → Nat → V → Sl → Int → Int → Heap → Option R} {gkN : Nat → Nat → V → Sl → Int → Int → Heap → Option S} {fkE2 : Heap → Option R} {gkE2 : Heap → Option S} {fkR : Bool → Heap → Option R} {gkR : Bool → Heap → Option S} (hkN : ∀ t3_0 t3_1 t7 t9 t11 t15 H, fkN t3_0 t3_1 t7 t9 t11 t15 H = (gkN t3_0 t3_1 t7 t9 t11 t15 H).bind k) (hkE2 : ∀ H, fkE2 H = (gkE2 H).bind k) (hkR : ∀ t6 H, fkR t6 H = (gkR t6 H).bind k) : g3_p6 a9 a10 a39 a40 a11 a38 a44 a46 a41 a45 a47 a12 a13 R t3_0 t3_1 t7 t9 t11 t15 H fkN fkE2 fkR = (g3_p6 a9 a10 a39 a40 a11 a38 a44 a46 a41 a45 a47 a12 a13 S t3_0 t3_1 t7 t9 t11 t15 H gkN gkE2 gkR).bind k := by
  delta g3_p6; exact (
    sl_lin (
      il (
        bl fun q78 =>
        bl fun x79 =>
        il (
          invk_lin (E3_lin la9 la10 la39 la40 la11 la38 la44 la46 la41 la45 la47 la12 la13) fun x80 h81 =>
          exR_lin fun x82 =>
          bl fun x83 =>
          bl fun x84 =>
          bl fun x85 =>
          bl fun x86 =>
          bl fun x87 =>
          slOf_lin fun s88 =>
          la13.l fun x89 h90 =>
          invk_lin (E3_lin la9 la10 la39 la40 la11 la38 la44 la46 la41 la45 la47 la12 la13) fun x91 h92 =>
          bl fun x93 =>
          sl_lin (
            hkR _ _) (
            invk_lin (E3_lin la9 la10 la39 la40 la11 la38 la44 la46 la41 la45 la47 la12 la13) fun x94 h95 =>
            bl fun x96 =>
            sl_lin (
              hkR _ _) (
              sl_lin (
                hkR _ _) (
                sl_lin (
                  hkR _ _) (
                  hkN _ _ _ _ _ _ _))))) (
          rfl)) (
        rfl)) (
      hkE2 _))
abbrev g3_p7_S := Nat × Nat × V × Sl × Int × Int
abbrev g3_p7_O := Sum (Unit) (Bool)
def g3_p7_es (s : g3_p7_S) : Fr := [(3, (V.p (some (s.1, s.2.1)))), (7, s.2.2.1), (9, (V.sl s.2.2.2.1)), (11, (V.i .i64 s.2.2.2.2.1)), (15, (V.i .i64 s.2.2.2.2.2))]
def g3_p7_er : g3_p7_O → Ex × Fr
  | (.inl r) => ((.exit 2), [])
  | (.inr r) => (.ret, [(6, (V.b r))])
noncomputable def g3_p7_b (a9 : T9) (a10 : T10) (a39 : T39) (a40 : T40) (a11 : T11) (a38 : T38) (a44 : T44) (a46 : T46) (a41 : T41) (a45 : T45) (a47 : T47) (a12 : T12) (a13 : T13) (s : g3_p7_S) (H : Heap) : Option (Rd g3_p7_S g3_p7_O × Heap) :=
  g3_p6 a9 a10 a39 a40 a11 a38 a44 a46 a41 a45 a47 a12 a13 _ s.1 s.2.1 s.2.2.1 s.2.2.2.1 s.2.2.2.2.1 s.2.2.2.2.2 H (fun t3_0 t3_1 t7 t9 t11 t15 H => some (.go (t3_0, t3_1, t7, t9, t11, t15), H)) (fun H => some (.up (.inl ()), H)) (fun t6 H => some (.up (.inr t6), H))
noncomputable def g3_p7 (a9 : T9) (a10 : T10) (a39 : T39) (a40 : T40) (a11 : T11) (a38 : T38) (a44 : T44) (a46 : T46) (a41 : T41) (a45 : T45) (a47 : T47) (a12 : T12) (a13 : T13) (R : Type) (t3_0 : Nat) (t3_1 : Nat) (t7 : V) (t9 : Sl) (t11 : Int) (t15 : Int) (H : Heap) (kE2 : Heap → Option R) (kR : Bool → Heap → Option R) : Option R :=
  (tlim (g3_p7_b a9 a10 a39 a40 a11 a38 a44 a46 a41 a45 a47 a12 a13) (t3_0, t3_1, t7, t9, t11, t15) H).bind fun p => cas p.1 (fun r => kE2  p.2) (fun r0 => kR r0 p.2)
theorem g3_p7_lin {a9 : T9} {a10 : T10} {a39 : T39} {a40 : T40} {a11 : T11} {a38 : T38} {a44 : T44} {a46 : T46} {a41 : T41} {a45 : T45} {a47 : T47} {a12 : T12} {a13 : T13} (la9 : Lin9 a9) (la10 : Lin10 a10) (la39 : Lin39 a39) (la40 : Lin40 a40) (la11 : Lin11 a11) (la38 : Lin38 a38) (la44 : Lin44 a44) (la46 : Lin46 a46) (la41 : Lin41 a41) (la45 : Lin45 a45) (la47 : Lin47 a47) (la12 : Lin12 a12) (la13 : Lin13 a13) {R S : Type} {k : S → Option R} {t3_0 : Nat} {t3_1 : Nat} {t7 : V} {t9 : Sl} {t11 : Int} {t15 : Int} {H : Heap} {fkE2 : Heap → Option R} {gkE2 : Heap → Option S} {fkR : Bool → Heap → Option R} {gkR : Bool → Heap → Option S} (hkE2 : ∀ H, fkE2 H = (gkE2 H).bind k) (hkR : ∀ t6 H, fkR t6 H = (gkR t6 H).bind k) : g3_p7 a9 a10 a39 a40 a11 a38 a44 a46 a41 a45 a47 a12 a13 R t3_0 t3_1 t7 t9 t11 t15 H fkE2 fkR = (g3_p7 a9 a10 a39 a40 a11 a38 a44 a46 a41 a45 a47 a12 a13 S t3_0 t3_1 t7 t9 t11 t15 H gkE2 gkR).bind k := by
  exact bl fun p => cas_lin (fun _ => hkE2 _) (fun _ => hkR _ _)
theorem g3_p7_eq (a9 : T9) (a10 : T10) (a39 : T39) (a40 : T40) (a11 : T11) (a38 : T38) (a44 : T44) (a46 : T46) (a41 : T41) (a45 : T45) (a47 : T47) (a12 : T12) (a13 : T13) (la9 : Lin9 a9) (la10 : Lin10 a10) (la39 : Lin39 a39) (la40 : Lin40 a40) (la11 : Lin11 a11) (la38 : Lin38 a38) (la44 : Lin44 a44) (la46 : Lin46 a46) (la41 : Lin41 a41) (la45 : Lin45 a45) (la47 : Lin47 a47) (la12 : Lin12 a12) (la13 : Lin13 a13) {R : Type} (t3_0 : Nat) (t3_1 : Nat) (t7 : V) (t9 : Sl) (t11 : Int) (t15 : Int) (H : Heap) (K : Ex → Fr → Heap → Option R) : ev Try.prog (E3 a9 a10 a39 a40 a11 a38 a44 a46 a41 a45 a47 a12 a13) loopLim Try.f3.ntmps kp3 c3_4 [(3, (V.p (some (t3_0, t3_1)))), (7, t7), (9, (V.sl t9)), (11, (V.i .i64 t11)), (15, (V.i .i64 t15))] H K = g3_p7 a9 a10 a39 a40 a11 a38 a44 a46 a41 a45 a47 a12 a13 R t3_0 t3_1 t7 t9 t11 t15 H (fun H => K (.exit 2) [] H) (fun t6 H => K .ret [(6, (V.b t6))] H) := by
  show ev Try.prog (E3 a9 a10 a39 a40 a11 a38 a44 a46 a41 a45 a47 a12 a13) loopLim Try.f3.ntmps kp3 (.loop c3_3) [(3, (V.p (some (t3_0, t3_1)))), (7, t7), (9, (V.sl t9)), (11, (V.i .i64 t11)), (15, (V.i .i64 t15))] H K = _
  delta g3_p7
  refine (ev_tlim (b := g3_p7_b a9 a10 a39 a40 a11 a38 a44 a46 a41 a45 a47 a12 a13) (es := g3_p7_es) (er := g3_p7_er) (by rintro (r | r) <;> exact nofun) (fun s H => ?_) (t3_0, t3_1, t7, t9, t11, t15) H K).trans (bc fun p => by rcases p with ⟨(r | r), H⟩ <;> rfl)
  exact (g3_p6_eq a9 a10 a39 a40 a11 a38 a44 a46 a41 a45 a47 a12 a13 la9 la10 la39 la40 la11 la38 la44 la46 la41 la45 la47 la12 la13 s.1 s.2.1 s.2.2.1 s.2.2.2.1 s.2.2.2.2.1 s.2.2.2.2.2 H ret3).trans (g3_p6_lin la9 la10 la39 la40 la11 la38 la44 la46 la41 la45 la47 la12 la13 (fun _ _ _ _ _ _ _ => rfl) (fun _ => rfl) (fun _ _ => rfl))
noncomputable def g3_p8 (a9 : T9) (a10 : T10) (a39 : T39) (a40 : T40) (a11 : T11) (a38 : T38) (a44 : T44) (a46 : T46) (a41 : T41) (a45 : T45) (a47 : T47) (a12 : T12) (a13 : T13) (R : Type) (t3_0 : Nat) (t3_1 : Nat) (t7 : V) (t9 : Sl) (t11 : Int) (t15 : Int) (H : Heap) (kN : Heap → Option R) (kR : Bool → Heap → Option R) : Option R :=
  g3_p7 a9 a10 a39 a40 a11 a38 a44 a46 a41 a45 a47 a12 a13 R t3_0 t3_1 t7 t9 t11 t15 H (fun H => kN  H) (fun t6 H => kR t6 H)
theorem g3_p8_lin {a9 : T9} {a10 : T10} {a39 : T39} {a40 : T40} {a11 : T11} {a38 : T38} {a44 : T44} {a46 : T46} {a41 : T41} {a45 : T45} {a47 : T47} {a12 : T12} {a13 : T13} (la9 : Lin9 a9) (la10 : Lin10 a10) (la39 : Lin39 a39) (la40 : Lin40 a40) (la11 : Lin11 a11) (la38 : Lin38 a38) (la44 : Lin44 a44) (la46 : Lin46 a46) (la41 : Lin41 a41) (la45 : Lin45 a45) (la47 : Lin47 a47) (la12 : Lin12 a12) (la13 : Lin13 a13) {R S : Type} {k : S → Option R} {t3_0 : Nat} {t3_1 : Nat} {t7 : V} {t9 : Sl} {t11 : Int} {t15 : Int} {H : Heap} {fkN : Heap → Option R} {gkN : Heap → Option S} {fkR : Bool → Heap → Option R} {gkR : Bool → Heap → Option S} (hkN : ∀ H, fkN H = (gkN H).bind k) (hkR : ∀ t6 H, fkR t6 H = (gkR t6 H).bind k) : g3_p8 a9 a10 a39 a40 a11 a38 a44 a46 a41 a45 a47 a12 a13 R t3_0 t3_1 t7 t9 t11 t15 H fkN fkR = (g3_p8 a9 a10 a39 a40 a11 a38 a44 a46 a41 a45 a47 a12 a13 S t3_0 t3_1 t7 t9 t11 t15 H gkN gkR).bind k := by
  exact g3_p7_lin la9 la10 la39 la40 la11 la38 la44 la46 la41 la45 la47 la12 la13 (fun _ => hkN _) (fun _ _ => hkR _ _)
theorem g3_p8_eq (a9 : T9) (a10 : T10) (a39 : T39) (a40 : T40) (a11 : T11) (a38 : T38) (a44 : T44) (a46 : T46) (a41 : T41) (a45 : T45) (a47 : T47) (a12 : T12) (a13 : T13) (la9 : Lin9 a9) (la10 : Lin10 a10) (la39 : Lin39 a39) (la40 : Lin40 a40) (la11 : Lin11 a11) (la38 : Lin38 a38) (la44 : Lin44 a44) (la46 : Lin46 a46) (la41 : Lin41 a41) (la45 : Lin45 a45) (la47 : Lin47 a47) (la12 : Lin12 a12) (la13 : Lin13 a13) {R : Type} (t3_0 : Nat) (t3_1 : Nat) (t7 : V) (t9 : Sl) (t11 : Int) (t15 : Int) (H : Heap) (K : Ex → Fr → Heap → Option R) : ev Try.prog (E3 a9 a10 a39 a40 a11 a38 a44 a46 a41 a45 a47 a12 a13) loopLim Try.f3.ntmps kp3 c3_5 [(3, (V.p (some (t3_0, t3_1)))), (7, t7), (9, (V.sl t9)), (11, (V.i .i64 t11)), (15, (V.i .i64 t15))] H K = g3_p8 a9 a10 a39 a40 a11 a38 a44 a46 a41 a45 a47 a12 a13 R t3_0 t3_1 t7 t9 t11 t15 H (fun H => K .normal [] H) (fun t6 H => K .ret [(6, (V.b t6))] H) := by
  show ev Try.prog (E3 a9 a10 a39 a40 a11 a38 a44 a46 a41 a45 a47 a12 a13) loopLim Try.f3.ntmps kp3 (.block 2 c3_4) [(3, (V.p (some (t3_0, t3_1)))), (7, t7), (9, (V.sl t9)), (11, (V.i .i64 t11)), (15, (V.i .i64 t15))] H K = _
  rw [ev_block]
  delta g3_p8
  exact (g3_p7_eq a9 a10 a39 a40 a11 a38 a44 a46 a41 a45 a47 a12 a13 la9 la10 la39 la40 la11 la38 la44 la46 la41 la45 la47 la12 la13 t3_0 t3_1 t7 t9 t11 t15 H (kBlock kp3 2 K))
noncomputable def g3_p9 (a9 : T9) (a10 : T10) (a39 : T39) (a40 : T40) (a11 : T11) (a38 : T38) (a44 : T44) (a46 : T46) (a41 : T41) (a45 : T45) (a47 : T47) (a12 : T12) (a13 : T13) (R : Type) (H : Heap) (kR : Bool → Heap → Option R) : Option R :=
  a9 R H fun x97 h98 =>
  kR x97 h98
theorem g3_p9_eq (a9 : T9) (a10 : T10) (a39 : T39) (a40 : T40) (a11 : T11) (a38 : T38) (a44 : T44) (a46 : T46) (a41 : T41) (a45 : T45) (a47 : T47) (a12 : T12) (a13 : T13) (la9 : Lin9 a9) (la10 : Lin10 a10) (la39 : Lin39 a39) (la40 : Lin40 a40) (la11 : Lin11 a11) (la38 : Lin38 a38) (la44 : Lin44 a44) (la46 : Lin46 a46) (la41 : Lin41 a41) (la45 : Lin45 a45) (la47 : Lin47 a47) (la12 : Lin12 a12) (la13 : Lin13 a13) {R : Type} (H : Heap) (K : Ex → Fr → Heap → Option R) : ev Try.prog (E3 a9 a10 a39 a40 a11 a38 a44 a46 a41 a45 a47 a12 a13) loopLim Try.f3.ntmps kp3 c3_6 [] H K = g3_p9 a9 a10 a39 a40 a11 a38 a44 a46 a41 a45 a47 a12 a13 R H (fun t6 H => K .ret [(6, (V.b t6))] H) := by kernel_rfl
theorem g3_p9_lin {a9 : T9} {a10 : T10} {a39 : T39} {a40 : T40} {a11 : T11} {a38 : T38} {a44 : T44} {a46 : T46} {a41 : T41} {a45 : T45} {a47 : T47} {a12 : T12} {a13 : T13} (la9 : Lin9 a9) (la10 : Lin10 a10) (la39 : Lin39 a39) (la40 : Lin40 a40) (la11 : Lin11 a11) (la38 : Lin38 a38) (la44 : Lin44 a44) (la46 : Lin46 a46) (la41 : Lin41 a41) (la45 : Lin45 a45) (la47 : Lin47 a47) (la12 : Lin12 a12) (la13 : Lin13 a13) {R S : Type} {k : S → Option R} {H : Heap} {fkR : Bool → Heap → Option R} {gkR : Bool → Heap → Option S} (hkR : ∀ t6 H, fkR t6 H = (gkR t6 H).bind k) : g3_p9 a9 a10 a39 a40 a11 a38 a44 a46 a41 a45 a47 a12 a13 R H fkR = (g3_p9 a9 a10 a39 a40 a11 a38 a44 a46 a41 a45 a47 a12 a13 S H gkR).bind k := by
  delta g3_p9; exact (
    la9.l fun x97 h98 =>
    hkR _ _)
noncomputable def g3_p10 (a9 : T9) (a10 : T10) (a39 : T39) (a40 : T40) (a11 : T11) (a38 : T38) (a44 : T44) (a46 : T46) (a41 : T41) (a45 : T45) (a47 : T47) (a12 : T12) (a13 : T13) (R : Type) (t3_0 : Nat) (t3_1 : Nat) (t7 : V) (t9 : Sl) (t11 : Int) (t15 : Int) (H : Heap) (kR : Bool → Heap → Option R) : Option R :=
  g3_p8 a9 a10 a39 a40 a11 a38 a44 a46 a41 a45 a47 a12 a13 R t3_0 t3_1 t7 t9 t11 t15 H (fun H => g3_p9 a9 a10 a39 a40 a11 a38 a44 a46 a41 a45 a47 a12 a13 R H (fun t6 H => kR t6 H)) (fun t6 H => kR t6 H)
theorem g3_p10_lin {a9 : T9} {a10 : T10} {a39 : T39} {a40 : T40} {a11 : T11} {a38 : T38} {a44 : T44} {a46 : T46} {a41 : T41} {a45 : T45} {a47 : T47} {a12 : T12} {a13 : T13} (la9 : Lin9 a9) (la10 : Lin10 a10) (la39 : Lin39 a39) (la40 : Lin40 a40) (la11 : Lin11 a11) (la38 : Lin38 a38) (la44 : Lin44 a44) (la46 : Lin46 a46) (la41 : Lin41 a41) (la45 : Lin45 a45) (la47 : Lin47 a47) (la12 : Lin12 a12) (la13 : Lin13 a13) {R S : Type} {k : S → Option R} {t3_0 : Nat} {t3_1 : Nat} {t7 : V} {t9 : Sl} {t11 : Int} {t15 : Int} {H : Heap} {fkR : Bool → Heap → Option R} {gkR : Bool → Heap → Option S} (hkR : ∀ t6 H, fkR t6 H = (gkR t6 H).bind k) : g3_p10 a9 a10 a39 a40 a11 a38 a44 a46 a41 a45 a47 a12 a13 R t3_0 t3_1 t7 t9 t11 t15 H fkR = (g3_p10 a9 a10 a39 a40 a11 a38 a44 a46 a41 a45 a47 a12 a13 S t3_0 t3_1 t7 t9 t11 t15 H gkR).bind k := by
  exact g3_p8_lin la9 la10 la39 la40 la11 la38 la44 la46 la41 la45 la47 la12 la13 (fun _ => g3_p9_lin la9 la10 la39 la40 la11 la38 la44 la46 la41 la45 la47 la12 la13 (fun _ _ => hkR _ _)) (fun _ _ => hkR _ _)
theorem g3_p10_eq (a9 : T9) (a10 : T10) (a39 : T39) (a40 : T40) (a11 : T11) (a38 : T38) (a44 : T44) (a46 : T46) (a41 : T41) (a45 : T45) (a47 : T47) (a12 : T12) (a13 : T13) (la9 : Lin9 a9) (la10 : Lin10 a10) (la39 : Lin39 a39) (la40 : Lin40 a40) (la11 : Lin11 a11) (la38 : Lin38 a38) (la44 : Lin44 a44) (la46 : Lin46 a46) (la41 : Lin41 a41) (la45 : Lin45 a45) (la47 : Lin47 a47) (la12 : Lin12 a12) (la13 : Lin13 a13) {R : Type} (t3_0 : Nat) (t3_1 : Nat) (t7 : V) (t9 : Sl) (t11 : Int) (t15 : Int) (H : Heap) (K : Ex → Fr → Heap → Option R) : ev Try.prog (E3 a9 a10 a39 a40 a11 a38 a44 a46 a41 a45 a47 a12 a13) loopLim Try.f3.ntmps kp3 c3_7 [(3, (V.p (some (t3_0, t3_1)))), (7, t7), (9, (V.sl t9)), (11, (V.i .i64 t11)), (15, (V.i .i64 t15))] H K = g3_p10 a9 a10 a39 a40 a11 a38 a44 a46 a41 a45 a47 a12 a13 R t3_0 t3_1 t7 t9 t11 t15 H (fun t6 H => K .ret [(6, (V.b t6))] H) := by
  show ev Try.prog (E3 a9 a10 a39 a40 a11 a38 a44 a46 a41 a45 a47 a12 a13) loopLim Try.f3.ntmps kp3 (.seq c3_5 c3_6) [(3, (V.p (some (t3_0, t3_1)))), (7, t7), (9, (V.sl t9)), (11, (V.i .i64 t11)), (15, (V.i .i64 t15))] H K = _
  rw [ev_seq]
  delta g3_p10
  exact (g3_p8_eq a9 a10 a39 a40 a11 a38 a44 a46 a41 a45 a47 a12 a13 la9 la10 la39 la40 la11 la38 la44 la46 la41 la45 la47 la12 la13 t3_0 t3_1 t7 t9 t11 t15 H (kSeq (fun fr H => ev Try.prog (E3 a9 a10 a39 a40 a11 a38 a44 a46 a41 a45 a47 a12 a13) loopLim Try.f3.ntmps kp3 c3_6 fr H K) K)).trans (congr (congrArg (g3_p8 a9 a10 a39 a40 a11 a38 a44 a46 a41 a45 a47 a12 a13 R t3_0 t3_1 t7 t9 t11 t15 H) (funext fun H => (kSeq_n _ _ _ _).trans (g3_p9_eq a9 a10 a39 a40 a11 a38 a44 a46 a41 a45 a47 a12 a13 la9 la10 la39 la40 la11 la38 la44 la46 la41 la45 la47 la12 la13 H K))) rfl)
noncomputable def g3_p11 (a9 : T9) (a10 : T10) (a39 : T39) (a40 : T40) (a11 : T11) (a38 : T38) (a44 : T44) (a46 : T46) (a41 : T41) (a45 : T45) (a47 : T47) (a12 : T12) (a13 : T13) (R : Type) (t3_0 : Nat) (t3_1 : Nat) (t7 : V) (t9 : Sl) (H : Heap) (kR : Bool → Heap → Option R) : Option R :=
  g3_p5 a9 a10 a39 a40 a11 a38 a44 a46 a41 a45 a47 a12 a13 R t3_0 t3_1 t7 t9 H (fun t3_0 t3_1 t7 t9 t11 t15 H => g3_p10 a9 a10 a39 a40 a11 a38 a44 a46 a41 a45 a47 a12 a13 R t3_0 t3_1 t7 t9 t11 t15 H (fun t6 H => kR t6 H))
theorem g3_p11_lin {a9 : T9} {a10 : T10} {a39 : T39} {a40 : T40} {a11 : T11} {a38 : T38} {a44 : T44} {a46 : T46} {a41 : T41} {a45 : T45} {a47 : T47} {a12 : T12} {a13 : T13} (la9 : Lin9 a9) (la10 : Lin10 a10) (la39 : Lin39 a39) (la40 : Lin40 a40) (la11 : Lin11 a11) (la38 : Lin38 a38) (la44 : Lin44 a44) (la46 : Lin46 a46) (la41 : Lin41 a41) (la45 : Lin45 a45) (la47 : Lin47 a47) (la12 : Lin12 a12) (la13 : Lin13 a13) {R S : Type} {k : S → Option R} {t3_0 : Nat} {t3_1 : Nat} {t7 : V} {t9 : Sl} {H : Heap} {fkR : Bool → Heap → Option R} {gkR : Bool → Heap → Option S} (hkR : ∀ t6 H, fkR t6 H = (gkR t6 H).bind k) : g3_p11 a9 a10 a39 a40 a11 a38 a44 a46 a41 a45 a47 a12 a13 R t3_0 t3_1 t7 t9 H fkR = (g3_p11 a9 a10 a39 a40 a11 a38 a44 a46 a41 a45 a47 a12 a13 S t3_0 t3_1 t7 t9 H gkR).bind k := by
  exact g3_p5_lin la9 la10 la39 la40 la11 la38 la44 la46 la41 la45 la47 la12 la13 (fun _ _ _ _ _ _ _ => g3_p10_lin la9 la10 la39 la40 la11 la38 la44 la46 la41 la45 la47 la12 la13 (fun _ _ => hkR _ _))
theorem g3_p11_eq (a9 : T9) (a10 : T10) (a39 : T39) (a40 : T40) (a11 : T11) (a38 : T38) (a44 : T44) (a46 : T46) (a41 : T41) (a45 : T45) (a47 : T47) (a12 : T12) (a13 : T13) (la9 : Lin9 a9) (la10 : Lin10 a10) (la39 : Lin39 a39) (la40 : Lin40 a40) (la11 : Lin11 a11) (la38 : Lin38 a38) (la44 : Lin44 a44) (la46 : Lin46 a46) (la41 : Lin41 a41) (la45 : Lin45 a45) (la47 : Lin47 a47) (la12 : Lin12 a12) (la13 : Lin13 a13) {R : Type} (t3_0 : Nat) (t3_1 : Nat) (t7 : V) (t9 : Sl) (H : Heap) (K : Ex → Fr → Heap → Option R) : ev Try.prog (E3 a9 a10 a39 a40 a11 a38 a44 a46 a41 a45 a47 a12 a13) loopLim Try.f3.ntmps kp3 c3_8 [(3, (V.p (some (t3_0, t3_1)))), (7, t7), (9, (V.sl t9))] H K = g3_p11 a9 a10 a39 a40 a11 a38 a44 a46 a41 a45 a47 a12 a13 R t3_0 t3_1 t7 t9 H (fun t6 H => K .ret [(6, (V.b t6))] H) := by
  show ev Try.prog (E3 a9 a10 a39 a40 a11 a38 a44 a46 a41 a45 a47 a12 a13) loopLim Try.f3.ntmps kp3 (.seq (codeAt [1, 1, 1, 1, 1, 1, 0] b3) (.seq (codeAt [1, 1, 1, 1, 1, 1, 1, 0] b3) (.seq (codeAt [1, 1, 1, 1, 1, 1, 1, 1, 0, 0] b3) c3_7))) [(3, (V.p (some (t3_0, t3_1)))), (7, t7), (9, (V.sl t9))] H K = _
  delta g3_p11
  exact (g3_p5_eq a9 a10 a39 a40 a11 a38 a44 a46 a41 a45 a47 a12 a13 _ t3_0 t3_1 t7 t9 H K).trans (congrArg (g3_p5 a9 a10 a39 a40 a11 a38 a44 a46 a41 a45 a47 a12 a13 R t3_0 t3_1 t7 t9 H) (funext fun t3_0 => funext fun t3_1 => funext fun t7 => funext fun t9 => funext fun t11 => funext fun t15 => funext fun H => g3_p10_eq a9 a10 a39 a40 a11 a38 a44 a46 a41 a45 a47 a12 a13 la9 la10 la39 la40 la11 la38 la44 la46 la41 la45 la47 la12 la13 t3_0 t3_1 t7 t9 t11 t15 H K))
noncomputable def g3_p12 (a9 : T9) (a10 : T10) (a39 : T39) (a40 : T40) (a11 : T11) (a38 : T38) (a44 : T44) (a46 : T46) (a41 : T41) (a45 : T45) (a47 : T47) (a12 : T12) (a13 : T13) (R : Type) (t2 : Int) (t3_0 : Nat) (t3_1 : Nat) (t7 : V) (t9 : Sl) (t10 : Int) (H : Heap) (kR : Bool → Heap → Option R) : Option R :=
  g3_p4 a9 a10 a39 a40 a11 a38 a44 a46 a41 a45 a47 a12 a13 R t2 t3_0 t3_1 t7 t9 t10 H (fun t3_0 t3_1 t7 t9 H => g3_p11 a9 a10 a39 a40 a11 a38 a44 a46 a41 a45 a47 a12 a13 R t3_0 t3_1 t7 t9 H (fun t6 H => kR t6 H))
theorem g3_p12_lin {a9 : T9} {a10 : T10} {a39 : T39} {a40 : T40} {a11 : T11} {a38 : T38} {a44 : T44} {a46 : T46} {a41 : T41} {a45 : T45} {a47 : T47} {a12 : T12} {a13 : T13} (la9 : Lin9 a9) (la10 : Lin10 a10) (la39 : Lin39 a39) (la40 : Lin40 a40) (la11 : Lin11 a11) (la38 : Lin38 a38) (la44 : Lin44 a44) (la46 : Lin46 a46) (la41 : Lin41 a41) (la45 : Lin45 a45) (la47 : Lin47 a47) (la12 : Lin12 a12) (la13 : Lin13 a13) {R S : Type} {k : S → Option R} {t2 : Int} {t3_0 : Nat} {t3_1 : Nat} {t7 : V} {t9 : Sl} {t10 : Int} {H : Heap} {fkR : Bool → Heap → Option R} {gkR : Bool → Heap → Option S} (hkR : ∀ t6 H, fkR t6 H = (gkR t6 H).bind k) : g3_p12 a9 a10 a39 a40 a11 a38 a44 a46 a41 a45 a47 a12 a13 R t2 t3_0 t3_1 t7 t9 t10 H fkR = (g3_p12 a9 a10 a39 a40 a11 a38 a44 a46 a41 a45 a47 a12 a13 S t2 t3_0 t3_1 t7 t9 t10 H gkR).bind k := by
  exact g3_p4_lin la9 la10 la39 la40 la11 la38 la44 la46 la41 la45 la47 la12 la13 (fun _ _ _ _ _ => g3_p11_lin la9 la10 la39 la40 la11 la38 la44 la46 la41 la45 la47 la12 la13 (fun _ _ => hkR _ _))
theorem g3_p12_eq (a9 : T9) (a10 : T10) (a39 : T39) (a40 : T40) (a11 : T11) (a38 : T38) (a44 : T44) (a46 : T46) (a41 : T41) (a45 : T45) (a47 : T47) (a12 : T12) (a13 : T13) (la9 : Lin9 a9) (la10 : Lin10 a10) (la39 : Lin39 a39) (la40 : Lin40 a40) (la11 : Lin11 a11) (la38 : Lin38 a38) (la44 : Lin44 a44) (la46 : Lin46 a46) (la41 : Lin41 a41) (la45 : Lin45 a45) (la47 : Lin47 a47) (la12 : Lin12 a12) (la13 : Lin13 a13) {R : Type} (t2 : Int) (t3_0 : Nat) (t3_1 : Nat) (t7 : V) (t9 : Sl) (t10 : Int) (H : Heap) (K : Ex → Fr → Heap → Option R) : ev Try.prog (E3 a9 a10 a39 a40 a11 a38 a44 a46 a41 a45 a47 a12 a13) loopLim Try.f3.ntmps kp3 c3_9 [(2, (V.i .u8 t2)), (3, (V.p (some (t3_0, t3_1)))), (7, t7), (9, (V.sl t9)), (10, (V.i .i64 t10))] H K = g3_p12 a9 a10 a39 a40 a11 a38 a44 a46 a41 a45 a47 a12 a13 R t2 t3_0 t3_1 t7 t9 t10 H (fun t6 H => K .ret [(6, (V.b t6))] H) := by
  show ev Try.prog (E3 a9 a10 a39 a40 a11 a38 a44 a46 a41 a45 a47 a12 a13) loopLim Try.f3.ntmps kp3 (.seq c3_2 c3_8) [(2, (V.i .u8 t2)), (3, (V.p (some (t3_0, t3_1)))), (7, t7), (9, (V.sl t9)), (10, (V.i .i64 t10))] H K = _
  rw [ev_seq]
  delta g3_p12
  exact (g3_p4_eq a9 a10 a39 a40 a11 a38 a44 a46 a41 a45 a47 a12 a13 la9 la10 la39 la40 la11 la38 la44 la46 la41 la45 la47 la12 la13 t2 t3_0 t3_1 t7 t9 t10 H (kSeq (fun fr H => ev Try.prog (E3 a9 a10 a39 a40 a11 a38 a44 a46 a41 a45 a47 a12 a13) loopLim Try.f3.ntmps kp3 c3_8 fr H K) K)).trans (congrArg (g3_p4 a9 a10 a39 a40 a11 a38 a44 a46 a41 a45 a47 a12 a13 R t2 t3_0 t3_1 t7 t9 t10 H) (funext fun t3_0 => funext fun t3_1 => funext fun t7 => funext fun t9 => funext fun H => (kSeq_n _ _ _ _).trans (g3_p11_eq a9 a10 a39 a40 a11 a38 a44 a46 a41 a45 a47 a12 a13 la9 la10 la39 la40 la11 la38 la44 la46 la41 la45 la47 la12 la13 t3_0 t3_1 t7 t9 H K)))
noncomputable def g3_p13 (a9 : T9) (a10 : T10) (a39 : T39) (a40 : T40) (a11 : T11) (a38 : T38) (a44 : T44) (a46 : T46) (a41 : T41) (a45 : T45) (a47 : T47) (a12 : T12) (a13 : T13) (R : Type) (t1 : ByteArray) (t2 : Int) (t3_0 : Nat) (t3_1 : Nat) (t7 : V) (t40 : Bool) (H : Heap) (kR : Bool → Heap → Option R) : Option R :=
  g3_p1 a9 a10 a39 a40 a11 a38 a44 a46 a41 a45 a47 a12 a13 R t1 t2 t3_0 t3_1 t7 t40 H (fun t2 t3_0 t3_1 t7 t9 t10 H => g3_p12 a9 a10 a39 a40 a11 a38 a44 a46 a41 a45 a47 a12 a13 R t2 t3_0 t3_1 t7 t9 t10 H (fun t6 H => kR t6 H)) (fun t6 H => kR t6 H)
theorem g3_p13_lin {a9 : T9} {a10 : T10} {a39 : T39} {a40 : T40} {a11 : T11} {a38 : T38} {a44 : T44} {a46 : T46} {a41 : T41} {a45 : T45} {a47 : T47} {a12 : T12} {a13 : T13} (la9 : Lin9 a9) (la10 : Lin10 a10) (la39 : Lin39 a39) (la40 : Lin40 a40) (la11 : Lin11 a11) (la38 : Lin38 a38) (la44 : Lin44 a44) (la46 : Lin46 a46) (la41 : Lin41 a41) (la45 : Lin45 a45) (la47 : Lin47 a47) (la12 : Lin12 a12) (la13 : Lin13 a13) {R S : Type} {k : S → Option R} {t1 : ByteArray} {t2 : Int} {t3_0 : Nat} {t3_1 : Nat} {t7 : V} {t40 : Bool} {H : Heap} {fkR : Bool → Heap → Option R} {gkR : Bool → Heap → Option S} (hkR : ∀ t6 H, fkR t6 H = (gkR t6 H).bind k) : g3_p13 a9 a10 a39 a40 a11 a38 a44 a46 a41 a45 a47 a12 a13 R t1 t2 t3_0 t3_1 t7 t40 H fkR = (g3_p13 a9 a10 a39 a40 a11 a38 a44 a46 a41 a45 a47 a12 a13 S t1 t2 t3_0 t3_1 t7 t40 H gkR).bind k := by
  exact g3_p1_lin la9 la10 la39 la40 la11 la38 la44 la46 la41 la45 la47 la12 la13 (fun _ _ _ _ _ _ _ => g3_p12_lin la9 la10 la39 la40 la11 la38 la44 la46 la41 la45 la47 la12 la13 (fun _ _ => hkR _ _)) (fun _ _ => hkR _ _)
theorem g3_p13_eq (a9 : T9) (a10 : T10) (a39 : T39) (a40 : T40) (a11 : T11) (a38 : T38) (a44 : T44) (a46 : T46) (a41 : T41) (a45 : T45) (a47 : T47) (a12 : T12) (a13 : T13) (la9 : Lin9 a9) (la10 : Lin10 a10) (la39 : Lin39 a39) (la40 : Lin40 a40) (la11 : Lin11 a11) (la38 : Lin38 a38) (la44 : Lin44 a44) (la46 : Lin46 a46) (la41 : Lin41 a41) (la45 : Lin45 a45) (la47 : Lin47 a47) (la12 : Lin12 a12) (la13 : Lin13 a13) {R : Type} (t1 : ByteArray) (t2 : Int) (t3_0 : Nat) (t3_1 : Nat) (t7 : V) (t40 : Bool) (H : Heap) (K : Ex → Fr → Heap → Option R) : ev Try.prog (E3 a9 a10 a39 a40 a11 a38 a44 a46 a41 a45 a47 a12 a13) loopLim Try.f3.ntmps kp3 c3_10 [(1, (V.s t1)), (2, (V.i .u8 t2)), (3, (V.p (some (t3_0, t3_1)))), (7, t7), (40, (V.b t40))] H K = g3_p13 a9 a10 a39 a40 a11 a38 a44 a46 a41 a45 a47 a12 a13 R t1 t2 t3_0 t3_1 t7 t40 H (fun t6 H => K .ret [(6, (V.b t6))] H) := by
  show ev Try.prog (E3 a9 a10 a39 a40 a11 a38 a44 a46 a41 a45 a47 a12 a13) loopLim Try.f3.ntmps kp3 (.seq (.cond (.tmp 40) (.seq (codeAt [1, 1, 1, 0, 1, 0, 0] b3) .ret) .skip) (.seq (codeAt [1, 1, 1, 1, 0] b3) (.seq (codeAt [1, 1, 1, 1, 1, 0, 0] b3) c3_9))) [(1, (V.s t1)), (2, (V.i .u8 t2)), (3, (V.p (some (t3_0, t3_1)))), (7, t7), (40, (V.b t40))] H K = _
  delta g3_p13
  exact (g3_p1_eq a9 a10 a39 a40 a11 a38 a44 a46 a41 a45 a47 a12 a13 _ t1 t2 t3_0 t3_1 t7 t40 H K).trans (congr (congrArg (g3_p1 a9 a10 a39 a40 a11 a38 a44 a46 a41 a45 a47 a12 a13 R t1 t2 t3_0 t3_1 t7 t40 H) (funext fun t2 => funext fun t3_0 => funext fun t3_1 => funext fun t7 => funext fun t9 => funext fun t10 => funext fun H => g3_p12_eq a9 a10 a39 a40 a11 a38 a44 a46 a41 a45 a47 a12 a13 la9 la10 la39 la40 la11 la38 la44 la46 la41 la45 la47 la12 la13 t2 t3_0 t3_1 t7 t9 t10 H K)) rfl)
noncomputable def g3_p14 (a9 : T9) (a10 : T10) (a39 : T39) (a40 : T40) (a11 : T11) (a38 : T38) (a44 : T44) (a46 : T46) (a41 : T41) (a45 : T45) (a47 : T47) (a12 : T12) (a13 : T13) (R : Type) (t0_0 : Int) (t0_1 : Int) (t0_2 : Int) (t0_3 : Int) (t0_4 : Int) (t1 : ByteArray) (t2 : Int) (H : Heap) (kR : Bool → Heap → Option R) : Option R :=
  g3_p0 a9 a10 a39 a40 a11 a38 a44 a46 a41 a45 a47 a12 a13 R t0_0 t0_1 t0_2 t0_3 t0_4 t1 t2 H (fun t1 t2 t3_0 t3_1 t7 t40 H => g3_p13 a9 a10 a39 a40 a11 a38 a44 a46 a41 a45 a47 a12 a13 R t1 t2 t3_0 t3_1 t7 t40 H (fun t6 H => kR t6 H)) (fun t6 H => kR t6 H)
theorem g3_p14_lin {a9 : T9} {a10 : T10} {a39 : T39} {a40 : T40} {a11 : T11} {a38 : T38} {a44 : T44} {a46 : T46} {a41 : T41} {a45 : T45} {a47 : T47} {a12 : T12} {a13 : T13} (la9 : Lin9 a9) (la10 : Lin10 a10) (la39 : Lin39 a39) (la40 : Lin40 a40) (la11 : Lin11 a11) (la38 : Lin38 a38) (la44 : Lin44 a44) (la46 : Lin46 a46) (la41 : Lin41 a41) (la45 : Lin45 a45) (la47 : Lin47 a47) (la12 : Lin12 a12) (la13 : Lin13 a13) {R S : Type} {k : S → Option R} {t0_0 : Int} {t0_1 : Int} {t0_2 : Int} {t0_3 : Int} {t0_4 : Int} {t1 : ByteArray} {t2 : Int} {H : Heap} {fkR : Bool → Heap → Option R} {gkR : Bool → Heap → Option S} (hkR : ∀ t6 H, fkR t6 H = (gkR t6 H).bind k) : g3_p14 a9 a10 a39 a40 a11 a38 a44 a46 a41 a45 a47 a12 a13 R t0_0 t0_1 t0_2 t0_3 t0_4 t1 t2 H fkR = (g3_p14 a9 a10 a39 a40 a11 a38 a44 a46 a41 a45 a47 a12 a13 S t0_0 t0_1 t0_2 t0_3 t0_4 t1 t2 H gkR).bind k := by
  exact g3_p0_lin la9 la10 la39 la40 la11 la38 la44 la46 la41 la45 la47 la12 la13 (fun _ _ _ _ _ _ _ => g3_p13_lin la9 la10 la39 la40 la11 la38 la44 la46 la41 la45 la47 la12 la13 (fun _ _ => hkR _ _)) (fun _ _ => hkR _ _)
theorem g3_p14_eq (a9 : T9) (a10 : T10) (a39 : T39) (a40 : T40) (a11 : T11) (a38 : T38) (a44 : T44) (a46 : T46) (a41 : T41) (a45 : T45) (a47 : T47) (a12 : T12) (a13 : T13) (la9 : Lin9 a9) (la10 : Lin10 a10) (la39 : Lin39 a39) (la40 : Lin40 a40) (la11 : Lin11 a11) (la38 : Lin38 a38) (la44 : Lin44 a44) (la46 : Lin46 a46) (la41 : Lin41 a41) (la45 : Lin45 a45) (la47 : Lin47 a47) (la12 : Lin12 a12) (la13 : Lin13 a13) {R : Type} (t0_0 : Int) (t0_1 : Int) (t0_2 : Int) (t0_3 : Int) (t0_4 : Int) (t1 : ByteArray) (t2 : Int) (H : Heap) (K : Ex → Fr → Heap → Option R) : ev Try.prog (E3 a9 a10 a39 a40 a11 a38 a44 a46 a41 a45 a47 a12 a13) loopLim Try.f3.ntmps kp3 c3_11 [(0, (V.agg [(V.i .u8 t0_0), (V.i .u8 t0_1), (V.i .u8 t0_2), (V.i .u8 t0_3), (V.i .u8 t0_4)])), (1, (V.s t1)), (2, (V.i .u8 t2))] H K = g3_p14 a9 a10 a39 a40 a11 a38 a44 a46 a41 a45 a47 a12 a13 R t0_0 t0_1 t0_2 t0_3 t0_4 t1 t2 H (fun t6 H => K .ret [(6, (V.b t6))] H) := by
  show ev Try.prog (E3 a9 a10 a39 a40 a11 a38 a44 a46 a41 a45 a47 a12 a13) loopLim Try.f3.ntmps kp3 (.seq (codeAt [0] b3) (.seq (codeAt [1, 0, 0] b3) (.seq (.cond (.tmp 19) (.seq (codeAt [1, 0, 1, 0, 0] b3) .ret) .skip) (.seq (codeAt [1, 1, 0] b3) (.seq (codeAt [1, 1, 1, 0, 0] b3) c3_10))))) [(0, (V.agg [(V.i .u8 t0_0), (V.i .u8 t0_1), (V.i .u8 t0_2), (V.i .u8 t0_3), (V.i .u8 t0_4)])), (1, (V.s t1)), (2, (V.i .u8 t2))] H K = _
  delta g3_p14
  exact (g3_p0_eq a9 a10 a39 a40 a11 a38 a44 a46 a41 a45 a47 a12 a13 _ t0_0 t0_1 t0_2 t0_3 t0_4 t1 t2 H K).trans (congr (congrArg (g3_p0 a9 a10 a39 a40 a11 a38 a44 a46 a41 a45 a47 a12 a13 R t0_0 t0_1 t0_2 t0_3 t0_4 t1 t2 H) (funext fun t1 => funext fun t2 => funext fun t3_0 => funext fun t3_1 => funext fun t7 => funext fun t40 => funext fun H => g3_p13_eq a9 a10 a39 a40 a11 a38 a44 a46 a41 a45 a47 a12 a13 la9 la10 la39 la40 la11 la38 la44 la46 la41 la45 la47 la12 la13 t1 t2 t3_0 t3_1 t7 t40 H K)) rfl)
noncomputable def g3_r (a9 : T9) (a10 : T10) (a39 : T39) (a40 : T40) (a11 : T11) (a38 : T38) (a44 : T44) (a46 : T46) (a41 : T41) (a45 : T45) (a47 : T47) (a12 : T12) (a13 : T13) : T3 := fun R t0_0 t0_1 t0_2 t0_3 t0_4 t1 t2 H K =>
  g3_p14 a9 a10 a39 a40 a11 a38 a44 a46 a41 a45 a47 a12 a13 R t0_0 t0_1 t0_2 t0_3 t0_4 t1 t2 H (fun t6 H =>
    K t6 H)
theorem g3_r_lin {a9 : T9} {a10 : T10} {a39 : T39} {a40 : T40} {a11 : T11} {a38 : T38} {a44 : T44} {a46 : T46} {a41 : T41} {a45 : T45} {a47 : T47} {a12 : T12} {a13 : T13} (la9 : Lin9 a9) (la10 : Lin10 a10) (la39 : Lin39 a39) (la40 : Lin40 a40) (la11 : Lin11 a11) (la38 : Lin38 a38) (la44 : Lin44 a44) (la46 : Lin46 a46) (la41 : Lin41 a41) (la45 : Lin45 a45) (la47 : Lin47 a47) (la12 : Lin12 a12) (la13 : Lin13 a13) : Lin3 (g3_r a9 a10 a39 a40 a11 a38 a44 a46 a41 a45 a47 a12 a13) := by
  constructor
  intro R S k t0_0 t0_1 t0_2 t0_3 t0_4 t1 t2 H f g h
  exact g3_p14_lin la9 la10 la39 la40 la11 la38 la44 la46 la41 la45 la47 la12 la13 (fun t6 H =>
    h _ _)
theorem g3_fn (a9 : T9) (a10 : T10) (a39 : T39) (a40 : T40) (a11 : T11) (a38 : T38) (a44 : T44) (a46 : T46) (a41 : T41) (a45 : T45) (a47 : T47) (a12 : T12) (a13 : T13) (la9 : Lin9 a9) (la10 : Lin10 a10) (la39 : Lin39 a39) (la40 : Lin40 a40) (la11 : Lin11 a11) (la38 : Lin38 a38) (la44 : Lin44 a44) (la46 : Lin46 a46) (la41 : Lin41 a41) (la45 : Lin45 a45) (la47 : Lin47 a47) (la12 : Lin12 a12) (la13 : Lin13 a13) {R : Type} (t0_0 : Int) (t0_1 : Int) (t0_2 : Int) (t0_3 : Int) (t0_4 : Int) (t1 : ByteArray) (t2 : Int) (H : Heap) (K : V → Heap → Option R) : evFn Try.prog (E3 a9 a10 a39 a40 a11 a38 a44 a46 a41 a45 a47 a12 a13) loopLim Try.f3 kp3 [(V.agg [(V.i .u8 t0_0), (V.i .u8 t0_1), (V.i .u8 t0_2), (V.i .u8 t0_3), (V.i .u8 t0_4)]), (V.s t1), (V.i .u8 t2)] H K = g3_r a9 a10 a39 a40 a11 a38 a44 a46 a41 a45 a47 a12 a13 R t0_0 t0_1 t0_2 t0_3 t0_4 t1 t2 H (fun r0 H => K (V.b r0) H) := by
  have h0 : ∀ (t6 : Bool) (H : Heap), kFn Try.prog Try.f3.results.toList K .ret [(6, (V.b t6))] H =
      K (V.b t6) H := by intros; kernel_rfl
  have e0 := evFn_code2 (P := Try.prog) (c := c3_11) (E := (E3 a9 a10 a39 a40 a11 a38 a44 a46 a41 a45 a47 a12 a13)) (lr := loopLim) (kp := kp3) (fn := Try.f3) (args := [(V.agg [(V.i .u8 t0_0), (V.i .u8 t0_1), (V.i .u8 t0_2), (V.i .u8 t0_3), (V.i .u8 t0_4)]), (V.s t1), (V.i .u8 t2)]) H K (by kernel_rfl) (Nat.le_of_ble_eq_true (by kernel_rfl)) (by kernel_rfl)
  have e1 : ev Try.prog (E3 a9 a10 a39 a40 a11 a38 a44 a46 a41 a45 a47 a12 a13) loopLim Try.f3.ntmps kp3 c3_11 (argFr 0 [(V.agg [(V.i .u8 t0_0), (V.i .u8 t0_1), (V.i .u8 t0_2), (V.i .u8 t0_3), (V.i .u8 t0_4)]), (V.s t1), (V.i .u8 t2)]) H (kFn Try.prog Try.f3.results.toList K) = ev Try.prog (E3 a9 a10 a39 a40 a11 a38 a44 a46 a41 a45 a47 a12 a13) loopLim Try.f3.ntmps kp3 c3_11 [(0, (V.agg [(V.i .u8 t0_0), (V.i .u8 t0_1), (V.i .u8 t0_2), (V.i .u8 t0_3), (V.i .u8 t0_4)])), (1, (V.s t1)), (2, (V.i .u8 t2))] H (kFn Try.prog Try.f3.results.toList K) := by kernel_rfl
  refine (e0.trans e1).trans ?_
  delta g3_r
  exact (g3_p14_eq a9 a10 a39 a40 a11 a38 a44 a46 a41 a45 a47 a12 a13 la9 la10 la39 la40 la11 la38 la44 la46 la41 la45 la47 la12 la13 t0_0 t0_1 t0_2 t0_3 t0_4 t1 t2 H (kFn Try.prog Try.f3.results.toList K)).trans (congrArg (g3_p14 a9 a10 a39 a40 a11 a38 a44 a46 a41 a45 a47 a12 a13 R t0_0 t0_1 t0_2 t0_3 t0_4 t1 t2 H) (funext fun t6 => funext fun H => h0 t6 H))
theorem g3_ok {a9 : T9} {a10 : T10} {a39 : T39} {a40 : T40} {a11 : T11} {a38 : T38} {a44 : T44} {a46 : T46} {a41 : T41} {a45 : T45} {a47 : T47} {a12 : T12} {a13 : T13} (oa9 : FunOK Try.prog 9 (w9 a9)) (oa10 : FunOK Try.prog 10 (w10 a10)) (oa39 : FunOK Try.prog 39 (w39 a39)) (oa40 : FunOK Try.prog 40 (w40 a40)) (oa11 : FunOK Try.prog 11 (w11 a11)) (oa38 : FunOK Try.prog 38 (w38 a38)) (oa44 : FunOK Try.prog 44 (w44 a44)) (oa46 : FunOK Try.prog 46 (w46 a46)) (oa41 : FunOK Try.prog 41 (w41 a41)) (oa45 : FunOK Try.prog 45 (w45 a45)) (oa47 : FunOK Try.prog 47 (w47 a47)) (oa12 : FunOK Try.prog 12 (w12 a12)) (oa13 : FunOK Try.prog 13 (w13 a13)) (la9 : Lin9 a9) (la10 : Lin10 a10) (la39 : Lin39 a39) (la40 : Lin40 a40) (la11 : Lin11 a11) (la38 : Lin38 a38) (la44 : Lin44 a44) (la46 : Lin46 a46) (la41 : Lin41 a41) (la45 : Lin45 a45) (la47 : Lin47 a47) (la12 : Lin12 a12) (la13 : Lin13 a13) : FunOK Try.prog 3 (w3 (g3_r a9 a10 a39 a40 a11 a38 a44 a46 a41 a45 a47 a12 a13)) := by
  refine (runF_ok (E3_good oa9 oa10 oa39 oa40 oa11 oa38 oa44 oa46 oa41 oa45 oa47 oa12 oa13 la9 la10 la39 la40 la11 la38 la44 la46 la41 la45 la47 la12 la13) mixed lim_ok Try.func3 (by kernel_rfl) kp3).of_le fun R args H K r hk => ?_
  unfold w3 at hk
  split at hk
  · exact (g3_fn a9 a10 a39 a40 a11 a38 a44 a46 a41 a45 a47 a12 a13 la9 la10 la39 la40 la11 la38 la44 la46 la41 la45 la47 la12 la13 _ _ _ _ _ _ _ H K).trans hk
  · cases hk
end Go.Proofs.Ytbkncpmgpogakaa
