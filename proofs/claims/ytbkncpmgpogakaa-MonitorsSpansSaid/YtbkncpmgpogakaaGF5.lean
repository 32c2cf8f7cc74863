/- Printed: functions as the machine runs them. -/
import Derived.Test.YtbkncpmgpogakaaGT
namespace Go.Proofs.Ytbkncpmgpogakaa
open Go AM Go.RowKit
set_option linter.unusedVariables false
def kp5 : Nat → Option (List Nat) := kpOf [(0, [1, 2, 3]), (1, [1, 2, 3, 15]), (2, [6]), (3, [1, 2, 3, 7, 8]), (4, [1, 2, 7, 8, 9, 10]), (5, [1, 2, 7, 9, 40]), (6, [6]), (7, [2, 7, 9, 11]), (8, [2, 7, 9, 11, 12]), (9, [2, 7, 9, 11, 12, 46]), (10, [2, 7, 9, 11, 12]), (11, [2, 7, 9, 11, 12]), (12, [2, 7, 9, 11, 12]), (13, [2, 7, 9, 11, 12, 94]), (14, [6]), (15, [6]), (100000, []), (100001, [2, 7, 9, 11, 12]), (200000, [2, 7, 9, 11, 12]), (200001, [2, 7, 9, 11, 12]), (300000, [6]), (400015, [1, 2, 3]), (400040, [1, 2, 7, 9]), (400046, [2, 7, 9, 11, 12]), (400094, [2, 7, 9, 11, 12])]
def E5 (a9 : T9) (a10 : T10) (a11 : T11) (a38 : T38) (a44 : T44) (a46 : T46) (a39 : T39) (a40 : T40) : FEnv := [(9, w9 a9), (10, w10 a10), (11, w11 a11), (38, w38 a38), (44, w44 a44), (46, w46 a46), (39, w39 a39), (40, w40 a40)]
theorem E5_good {a9 : T9} {a10 : T10} {a11 : T11} {a38 : T38} {a44 : T44} {a46 : T46} {a39 : T39} {a40 : T40} (oa9 : FunOK Try.prog 9 (w9 a9)) (oa10 : FunOK Try.prog 10 (w10 a10)) (oa11 : FunOK Try.prog 11 (w11 a11)) (oa38 : FunOK Try.prog 38 (w38 a38)) (oa44 : FunOK Try.prog 44 (w44 a44)) (oa46 : FunOK Try.prog 46 (w46 a46)) (oa39 : FunOK Try.prog 39 (w39 a39)) (oa40 : FunOK Try.prog 40 (w40 a40)) (la9 : Lin9 a9) (la10 : Lin10 a10) (la11 : Lin11 a11) (la38 : Lin38 a38) (la44 : Lin44 a44) (la46 : Lin46 a46) (la39 : Lin39 a39) (la40 : Lin40 a40) : EnvGood Try.prog (E5 a9 a10 a11 a38 a44 a46 a39 a40) := (((((((((EnvGood.nil _).cons oa40 (w40_lin la40)).cons oa39 (w39_lin la39)).cons oa46 (w46_lin la46)).cons oa44 (w44_lin la44)).cons oa38 (w38_lin la38)).cons oa11 (w11_lin la11)).cons oa10 (w10_lin la10)).cons oa9 (w9_lin la9))
theorem E5_lin {a9 : T9} {a10 : T10} {a11 : T11} {a38 : T38} {a44 : T44} {a46 : T46} {a39 : T39} {a40 : T40} (la9 : Lin9 a9) (la10 : Lin10 a10) (la11 : Lin11 a11) (la38 : Lin38 a38) (la44 : Lin44 a44) (la46 : Lin46 a46) (la39 : Lin39 a39) (la40 : Lin40 a40) : EnvLin (E5 a9 a10 a11 a38 a44 a46 a39 a40) := by
  intro g F h
  simp only [E5, List.mem_cons, List.not_mem_nil, or_false] at h
  rcases h with h | h | h | h | h | h | h | h
  · cases h; exact w9_lin la9
  · cases h; exact w10_lin la10
  · cases h; exact w11_lin la11
  · cases h; exact w38_lin la38
  · cases h; exact w44_lin la44
  · cases h; exact w46_lin la46
  · cases h; exact w39_lin la39
  · cases h; exact w40_lin la40
noncomputable def b5 : Code := Try.f5.body.getD .skip
noncomputable def c5_0 : Code := (.seq (codeAt [1, 1, 1, 1, 1, 1, 0, 1, 0, 0, 0, 0] b5) (.seq (.cond (.tmp 46) .skip (.exit 0)) (.seq (.block 1 (.seq (codeAt [1, 1, 1, 1, 1, 1, 0, 1, 0, 0, 1, 0, 0, 0] b5) (.seq (codeAt [1, 1, 1, 1, 1, 1, 0, 1, 0, 0, 1, 0, 0, 1, 0] b5) (.seq (codeAt [1, 1, 1, 1, 1, 1, 0, 1, 0, 0, 1, 0, 0, 1, 1, 0] b5) (.cond (.tmp 94) (.seq (codeAt [1, 1, 1, 1, 1, 1, 0, 1, 0, 0, 1, 0, 0, 1, 1, 1, 0, 0] b5) .ret) .skip))))) (codeAt [1, 1, 1, 1, 1, 1, 0, 1, 0, 0, 1, 1] b5))))
noncomputable def c5_1 : Code := (.loop c5_0)
noncomputable def c5_2 : Code := (.block 0 c5_1)
noncomputable def c5_3 : Code := (.seq (codeAt [1, 1, 1, 1, 1, 1, 1, 0] b5) .ret)
noncomputable def c5_4 : Code := (.seq c5_2 c5_3)
noncomputable def c5_5 : Code := (.seq (.cond (.tmp 40) (.seq (codeAt [1, 1, 1, 1, 0, 1, 0, 0] b5) .ret) .skip) (.seq (codeAt [1, 1, 1, 1, 1, 0] b5) (.seq (codeAt [1, 1, 1, 1, 1, 1, 0, 0] b5) c5_4)))
noncomputable def c5_6 : Code := (.seq (codeAt [0] b5) (.seq (codeAt [1, 0, 0] b5) (.seq (.cond (.tmp 15) (.seq (codeAt [1, 0, 1, 0, 0] b5) .ret) .skip) (.seq (codeAt [1, 1, 0] b5) (.seq (codeAt [1, 1, 1, 0] b5) (.seq (codeAt [1, 1, 1, 1, 0, 0] b5) c5_5))))))
noncomputable def g5_p0 (a9 : T9) (a10 : T10) (a11 : T11) (a38 : T38) (a44 : T44) (a46 : T46) (a39 : T39) (a40 : T40) (R : Type) (t0_0 : Int) (t0_1 : Int) (t0_2 : Int) (t0_3 : Int) (t0_4 : Int) (t1 : ByteArray) (t2 : ByteArray) (H : Heap) (kN : ByteArray → ByteArray → V → V → Bool → Heap → Option R) (kR : Bool → Heap → Option R) : Option R :=
  alo H (.cells [(V.i .u8 t0_0), (V.i .u8 t0_1), (V.i .u8 t0_2), (V.i .u8 t0_3), (V.i .u8 t0_4)] 23 false) fun i41 h42 =>
  sel (decide (((t1.size : Nat) : Int) > (300 : Int))) (
    a9 R h42 fun x43 h44 =>
    kR x43 h44) (
    ((h42).ldI .u8 i41 (0 + 0)).bind fun x45 =>
    ((h42).ldI .u8 i41 (0 + 1)).bind fun x46 =>
    ((h42).ldI .u8 i41 (0 + 2)).bind fun x47 =>
    ((h42).ldI .u8 i41 (0 + 3)).bind fun x48 =>
    ((h42).ldI .u8 i41 (0 + 4)).bind fun x49 =>
    a10 R x45 x46 x47 x48 x49 h42 fun x50 x51 h52 =>
    if (V.one x50) = true then (
      ((h52).ldI .u8 i41 (0 + 0)).bind fun x53 =>
      ((h52).ldI .u8 i41 (0 + 1)).bind fun x54 =>
      ((h52).ldI .u8 i41 (0 + 2)).bind fun x55 =>
      ((h52).ldI .u8 i41 (0 + 3)).bind fun x56 =>
      ((h52).ldI .u8 i41 (0 + 4)).bind fun x57 =>
      a10 R x53 x54 x55 x56 x57 h52 fun x58 x59 h60 =>
      if (V.one x58) = true then (
        sel (x51 != (0 : Int)) (
          kN t1 t2 x50 x58 true h60) (
          sel (x59 != (0 : Int)) (
            kN t1 t2 x50 x58 true h60) (
            ((ifNil x50)).bind fun x61 =>
            sel x61 (
              kN t1 t2 x50 x58 true h60) (
              ((ifNil x58)).bind fun x62 =>
              kN t1 t2 x50 x58 x62 h60))))
      else (
        none))
    else (
      none))
theorem g5_p0_eq (a9 : T9) (a10 : T10) (a11 : T11) (a38 : T38) (a44 : T44) (a46 : T46) (a39 : T39) (a40 : T40) {R : Type} (c2 : Code) (t0_0 : Int) (t0_1 : Int) (t0_2 : Int) (t0_3 : Int) (t0_4 : Int) (t1 : ByteArray) (t2 : ByteArray) (H : Heap) (K : Ex → Fr → Heap → Option R) : ev Try.prog (E5 a9 a10 a11 a38 a44 a46 a39 a40) loopLim Try.f5.ntmps kp5 (.seq (codeAt [0] b5) (.seq (codeAt [1, 0, 0] b5) (.seq (.cond (.tmp 15) (.seq (codeAt [1, 0, 1, 0, 0] b5) .ret) .skip) (.seq (codeAt [1, 1, 0] b5) (.seq (codeAt [1, 1, 1, 0] b5) (.seq (codeAt [1, 1, 1, 1, 0, 0] b5) c2)))))) [(0, (V.agg [(V.i .u8 t0_0), (V.i .u8 t0_1), (V.i .u8 t0_2), (V.i .u8 t0_3), (V.i .u8 t0_4)])), (1, (V.s t1)), (2, (V.s t2))] H K = g5_p0 a9 a10 a11 a38 a44 a46 a39 a40 R t0_0 t0_1 t0_2 t0_3 t0_4 t1 t2 H (fun t1 t2 t7 t9 t40 H => ev Try.prog (E5 a9 a10 a11 a38 a44 a46 a39 a40) loopLim Try.f5.ntmps kp5 c2 [(1, (V.s t1)), (2, (V.s t2)), (7, t7), (9, t9), (40, (V.b t40))] H K) (fun t6 H => K .ret [(6, (V.b t6))] H) := by kernel_rfl
theorem g5_p0_lin {a9 : T9} {a10 : T10} {a11 : T11} {a38 : T38} {a44 : T44} {a46 : T46} {a39 : T39} {a40 : T40} (la9 : Lin9 a9) (la10 : Lin10 a10) (la11 : Lin11 a11) (la38 : Lin38 a38) (la44 : Lin44 a44) (la46 : Lin46 a46) (la39 : Lin39 a39) (la40 : Lin40 a40) {R S : Type} {k : S → Option R} {t0_0 : Int} {t0_1 : Int} {t0_2 : Int} {t0_3 : Int} {t0_4 : Int} {t1 : ByteArray} {t2 : ByteArray} {H : Heap} {fkN : ByteArray → ByteArray → V → V → Bool → Heap → Option R} {gkN : ByteArray → ByteArray → V → V → Bool → Heap → Option S} {fkR : Bool → Heap → Option R} {gkR : Bool → Heap → Option S} (hkN : ∀ t1 t2 t7 t9 t40 H, fkN t1 t2 t7 t9 t40 H = (gkN t1 t2 t7 t9 t40 H).bind k) (hkR : ∀ t6 H, fkR t6 H = (gkR t6 H).bind k) : g5_p0 a9 a10 a11 a38 a44 a46 a39 a40 R t0_0 t0_1 t0_2 t0_3 t0_4 t1 t2 H fkN fkR = (g5_p0 a9 a10 a11 a38 a44 a46 a39 a40 S t0_0 t0_1 t0_2 t0_3 t0_4 t1 t2 H gkN gkR).bind k := by
  delta g5_p0; exact (
    alo_lin fun i41 h42 =>
    sl_lin (
      la9.l fun x43 h44 =>
      hkR _ _) (
      bl fun x45 =>
      bl fun x46 =>
      bl fun x47 =>
      bl fun x48 =>
      bl fun x49 =>
      la10.l fun x50 x51 h52 =>
      il (
        bl fun x53 =>
        bl fun x54 =>
        bl fun x55 =>
        bl fun x56 =>
        bl fun x57 =>
        la10.l fun x58 x59 h60 =>
        il (
          sl_lin (
            hkN _ _ _ _ _ _) (
            sl_lin (
              hkN _ _ _ _ _ _) (
              bl fun x61 =>
              sl_lin (
                hkN _ _ _ _ _ _) (
                bl fun x62 =>
                hkN _ _ _ _ _ _)))) (
          rfl)) (
        rfl)))
noncomputable def g5_p1 (a9 : T9) (a10 : T10) (a11 : T11) (a38 : T38) (a44 : T44) (a46 : T46) (a39 : T39) (a40 : T40) (R : Type) (t1 : ByteArray) (t2 : ByteArray) (t7 : V) (t9 : V) (t40 : Bool) (H : Heap) (kN : ByteArray → V → V → Sl → Int → Heap → Option R) (kR : Bool → Heap → Option R) : Option R :=
  sel t40 (
    kR false H) (
    a11 R t1 H fun x65 h66 =>
    kN t2 t7 t9 x65 (0 : Int) h66)
theorem g5_p1_eq (a9 : T9) (a10 : T10) (a11 : T11) (a38 : T38) (a44 : T44) (a46 : T46) (a39 : T39) (a40 : T40) {R : Type} (c2 : Code) (t1 : ByteArray) (t2 : ByteArray) (t7 : V) (t9 : V) (t40 : Bool) (H : Heap) (K : Ex → Fr → Heap → Option R) : ev Try.prog (E5 a9 a10 a11 a38 a44 a46 a39 a40) loopLim Try.f5.ntmps kp5 (.seq (.cond (.tmp 40) (.seq (codeAt [1, 1, 1, 1, 0, 1, 0, 0] b5) .ret) .skip) (.seq (codeAt [1, 1, 1, 1, 1, 0] b5) (.seq (codeAt [1, 1, 1, 1, 1, 1, 0, 0] b5) c2))) [(1, (V.s t1)), (2, (V.s t2)), (7, t7), (9, t9), (40, (V.b t40))] H K = g5_p1 a9 a10 a11 a38 a44 a46 a39 a40 R t1 t2 t7 t9 t40 H (fun t2 t7 t9 t11 t12 H => ev Try.prog (E5 a9 a10 a11 a38 a44 a46 a39 a40) loopLim Try.f5.ntmps kp5 c2 [(2, (V.s t2)), (7, t7), (9, t9), (11, (V.sl t11)), (12, (V.i .i64 t12))] H K) (fun t6 H => K .ret [(6, (V.b t6))] H) := by kernel_rfl
theorem g5_p1_lin {a9 : T9} {a10 : T10} {a11 : T11} {a38 : T38} {a44 : T44} {a46 : T46} {a39 : T39} {a40 : T40} (la9 : Lin9 a9) (la10 : Lin10 a10) (la11 : Lin11 a11) (la38 : Lin38 a38) (la44 : Lin44 a44) (la46 : Lin46 a46) (la39 : Lin39 a39) (la40 : Lin40 a40) {R S : Type} {k : S → Option R} {t1 : ByteArray} {t2 : ByteArray} {t7 : V} {t9 : V} {t40 : Bool} {H : Heap} {fkN : ByteArray → V → V → Sl → Int → Heap → Option R} {gkN : ByteArray → V → V → Sl → Int → Heap → Option S} {fkR : Bool → Heap → Option R} {gkR : Bool → Heap → Option S} (hkN : ∀ t2 t7 t9 t11 t12 H, fkN t2 t7 t9 t11 t12 H = (gkN t2 t7 t9 t11 t12 H).bind k) (hkR : ∀ t6 H, fkR t6 H = (gkR t6 H).bind k) : g5_p1 a9 a10 a11 a38 a44 a46 a39 a40 R t1 t2 t7 t9 t40 H fkN fkR = (g5_p1 a9 a10 a11 a38 a44 a46 a39 a40 S t1 t2 t7 t9 t40 H gkN gkR).bind k := by
  delta g5_p1; exact (
    sl_lin (
      hkR _ _) (
      la11.l fun x65 h66 =>
      hkN _ _ _ _ _ _))
noncomputable def g5_p2 (a9 : T9) (a10 : T10) (a11 : T11) (a38 : T38) (a44 : T44) (a46 : T46) (a39 : T39) (a40 : T40) (R : Type) (t2 : ByteArray) (t7 : V) (t9 : V) (t11 : Sl) (t12 : Int) (H : Heap) (kN : ByteArray → V → V → Sl → Int → Heap → Option R) (kE0 : Heap → Option R) (kR : Bool → Heap → Option R) : Option R :=
  sel (decide (t12 < ((t11.len : Nat) : Int))) (
    if 0 ≤ t12 ∧ t12 < ((t11.len : Nat) : Int) then (
      (t11.a).bind fun q67 =>
      ((H).ldB q67.1 (q67.2 + Int.toNat t12 * 1)).bind fun x68 =>
      if methNotNil Try.prog t7 "Count" = true then (
        invk Try.prog (E5 a9 a10 a11 a38 a44 a46 a39 a40) t7 "Count" [(V.b x68)] H fun x69 h70 =>
        exR Try.prog 0 x69 fun x71 =>
        if 0 ≤ t12 ∧ t12 < ((t11.len : Nat) : Int) then (
          (t11.a).bind fun q72 =>
          ((h70).ldB q72.1 (q72.2 + Int.toNat t12 * 1)).bind fun x73 =>
          sel x73 (
            sel (((t2.size : Nat) : Int) == (0 : Int)) (
              if methNotNil Try.prog t9 "Count" = true then (
                invk Try.prog (E5 a9 a10 a11 a38 a44 a46 a39 a40) t9 "Count" [(V.b true)] h70 fun x74 h75 =>
                exR Try.prog 0 x74 fun x76 =>
                invk Try.prog (E5 a9 a10 a11 a38 a44 a46 a39 a40) t9 "Level" [] h75 fun x77 h78 =>
                ((V.asI .i64 x77)).bind fun x79 =>
                invk Try.prog (E5 a9 a10 a11 a38 a44 a46 a39 a40) t7 "Level" [] h78 fun x80 h81 =>
                ((V.asI .i64 x80)).bind fun x82 =>
                sel (decide (x79 < x82)) (
                  kR false h81) (
                  invk Try.prog (E5 a9 a10 a11 a38 a44 a46 a39 a40) t7 "Over" [] h81 fun x83 h84 =>
                  ((V.asB x83)).bind fun x85 =>
                  sel x85 (
                    invk Try.prog (E5 a9 a10 a11 a38 a44 a46 a39 a40) t9 "Over" [] h84 fun x86 h87 =>
                    ((V.asB x86)).bind fun x88 =>
                    sel (!x88) (
                      kR false h87) (
                      kN t2 t7 t9 t11 (IntKind.wrap .i64 (t12 + (1 : Int))) h87)) (
                    kN t2 t7 t9 t11 (IntKind.wrap .i64 (t12 + (1 : Int))) h84)))
              else (
                none)) (
              if ((t2.size : Nat) : Int) = 0 then (
                none)
              else (
                if 0 ≤ (Int.tmod t12 ((t2.size : Nat) : Int)) ∧ (Int.tmod t12 ((t2.size : Nat) : Int)) < ((t2.size : Nat) : Int) then (
                  if methNotNil Try.prog t9 "Count" = true then (
                    invk Try.prog (E5 a9 a10 a11 a38 a44 a46 a39 a40) t9 "Count" [(V.b ((btAt t2 (Int.tmod t12 ((t2.size : Nat) : Int))) != (120 : Int)))] h70 fun x89 h90 =>
                    exR Try.prog 0 x89 fun x91 =>
                    invk Try.prog (E5 a9 a10 a11 a38 a44 a46 a39 a40) t9 "Level" [] h90 fun x92 h93 =>
                    ((V.asI .i64 x92)).bind fun x94 =>
                    invk Try.prog (E5 a9 a10 a11 a38 a44 a46 a39 a40) t7 "Level" [] h93 fun x95 h96 =>
                    ((V.asI .i64 x95)).bind fun x97 =>
                    sel (decide (x94 < x97)) (
                      kR false h96) (
                      invk Try.prog (E5 a9 a10 a11 a38 a44 a46 a39 a40) t7 "Over" [] h96 fun x98 h99 =>
                      ((V.asB x98)).bind fun x100 =>
                      sel x100 (
                        invk Try.prog (E5 a9 a10 a11 a38 a44 a46 a39 a40) t9 "Over" [] h99 fun x101 h102 =>
                        ((V.asB x101)).bind fun x103 =>
                        sel (!x103) (
                          kR false h102) (
                          kN t2 t7 t9 t11 (IntKind.wrap .i64 (t12 + (1 : Int))) h102)) (
                        kN t2 t7 t9 t11 (IntKind.wrap .i64 (t12 + (1 : Int))) h99)))
                  else (
                    none))
                else (
                  none)))) (
            if methNotNil Try.prog t9 "Count" = true then (
              invk Try.prog (E5 a9 a10 a11 a38 a44 a46 a39 a40) t9 "Count" [(V.b false)] h70 fun x104 h105 =>
              exR Try.prog 0 x104 fun x106 =>
              invk Try.prog (E5 a9 a10 a11 a38 a44 a46 a39 a40) t9 "Level" [] h105 fun x107 h108 =>
              ((V.asI .i64 x107)).bind fun x109 =>
              invk Try.prog (E5 a9 a10 a11 a38 a44 a46 a39 a40) t7 "Level" [] h108 fun x110 h111 =>
              ((V.asI .i64 x110)).bind fun x112 =>
              sel (decide (x109 < x112)) (
                kR false h111) (
                invk Try.prog (E5 a9 a10 a11 a38 a44 a46 a39 a40) t7 "Over" [] h111 fun x113 h114 =>
                ((V.asB x113)).bind fun x115 =>
                sel x115 (
                  invk Try.prog (E5 a9 a10 a11 a38 a44 a46 a39 a40) t9 "Over" [] h114 fun x116 h117 =>
                  ((V.asB x116)).bind fun x118 =>
                  sel (!x118) (
                    kR false h117) (
                    kN t2 t7 t9 t11 (IntKind.wrap .i64 (t12 + (1 : Int))) h117)) (
                  kN t2 t7 t9 t11 (IntKind.wrap .i64 (t12 + (1 : Int))) h114)))
            else (
              none)))
        else (
          none))
      else (
        none))
    else (
      none)) (
    kE0 H)
theorem g5_p2_eq (a9 : T9) (a10 : T10) (a11 : T11) (a38 : T38) (a44 : T44) (a46 : T46) (a39 : T39) (a40 : T40) (la9 : Lin9 a9) (la10 : Lin10 a10) (la11 : Lin11 a11) (la38 : Lin38 a38) (la44 : Lin44 a44) (la46 : Lin46 a46) (la39 : Lin39 a39) (la40 : Lin40 a40) {R : Type} (t2 : ByteArray) (t7 : V) (t9 : V) (t11 : Sl) (t12 : Int) (H : Heap) (K : Ex → Fr → Heap → Option R) : ev Try.prog (E5 a9 a10 a11 a38 a44 a46 a39 a40) loopLim Try.f5.ntmps kp5 c5_0 [(2, (V.s t2)), (7, t7), (9, t9), (11, (V.sl t11)), (12, (V.i .i64 t12))] H K = g5_p2 a9 a10 a11 a38 a44 a46 a39 a40 R t2 t7 t9 t11 t12 H (fun t2 t7 t9 t11 t12 H => K .normal [(2, (V.s t2)), (7, t7), (9, t9), (11, (V.sl t11)), (12, (V.i .i64 t12))] H) (fun H => K (.exit 0) [] H) (fun t6 H => K .ret [(6, (V.b t6))] H) := by kernel_rfl
theorem g5_p2_lin {a9 : T9} {a10 : T10} {a11 : T11} {a38 : T38} {a44 : T44} {a46 : T46} {a39 : T39} {a40 : T40} (la9 : Lin9 a9) (la10 : Lin10 a10) (la11 : Lin11 a11) (la38 : Lin38 a38) (la44 : Lin44 a44) (la46 : Lin46 a46) (la39 : Lin39 a39) (la40 : Lin40 a40) {R S : Type} {k : S → Option R} {t2 : ByteArray} {t7 : V} {t9 : V} {t11 : Sl} {t12 : Int} {H : Heap} {fkN : ByteArray → V → V → Sl → Int → Heap → Option R} {gkN : ByteArray → V → V → Sl → Int → Heap → Option S} {fkE0 : Heap → Option R} {gkE0 : Heap → Option S} {fkR : Bool → Heap → Option R} {gkR : Bool → Heap → Option S} (hkN : ∀ t2 t7 t9 t11 t12 H, fkN t2 t7 t9 t11 t12 H = (gkN t2 t7 t9 t11 t12 H).bind k) (hkE0 : ∀ H, fkE0 H = (gkE0 H).bind k) (hkR : ∀ t6 H, fkR t6 H = (gkR t6 H).bind k) : g5_p2 a9 a10 a11 a38 a44 a46 a39 a40 R t2 t7 t9 t11 t12 H fkN fkE0 fkR = (g5_p2 a9 a10 a11 a38 a44 a46 a39 a40 S t2 t7 t9 t11 t12 H gkN gkE0 gkR).bind k := by
  delta g5_p2; exact (
    sl_lin (
      il (
        bl fun q67 =>
        bl fun x68 =>
        il (
          invk_lin (E5_lin la9 la10 la11 la38 la44 la46 la39 la40) fun x69 h70 =>
          exR_lin fun x71 =>
          il (
            bl fun q72 =>
            bl fun x73 =>
            sl_lin (
              sl_lin (
                il (
                  invk_lin (E5_lin la9 la10 la11 la38 la44 la46 la39 la40) fun x74 h75 =>
                  exR_lin fun x76 =>
                  invk_lin (E5_lin la9 la10 la11 la38 la44 la46 la39 la40) fun x77 h78 =>
                  bl fun x79 =>
                  invk_lin (E5_lin la9 la10 la11 la38 la44 la46 la39 la40) fun x80 h81 =>
                  bl fun x82 =>
                  sl_lin (
                    hkR _ _) (
                    invk_lin (E5_lin la9 la10 la11 la38 la44 la46 la39 la40) fun x83 h84 =>
                    bl fun x85 =>
                    sl_lin (
                      invk_lin (E5_lin la9 la10 la11 la38 la44 la46 la39 la40) fun x86 h87 =>
                      bl fun x88 =>
                      sl_lin (
                        hkR _ _) (
                        hkN _ _ _ _ _ _)) (
                      hkN _ _ _ _ _ _))) (
                  rfl)) (
                il (
                  rfl) (
                  il (
                    il (
                      invk_lin (E5_lin la9 la10 la11 la38 la44 la46 la39 la40) fun x89 h90 =>
                      exR_lin fun x91 =>
                      invk_lin (E5_lin la9 la10 la11 la38 la44 la46 la39 la40) fun x92 h93 =>
                      bl fun x94 =>
                      invk_lin (E5_lin la9 la10 la11 la38 la44 la46 la39 la40) fun x95 h96 =>
                      bl fun x97 =>
                      sl_lin (
                        hkR _ _) (
                        invk_lin (E5_lin la9 la10 la11 la38 la44 la46 la39 la40) fun x98 h99 =>
                        bl fun x100 =>
                        sl_lin (
                          invk_lin (E5_lin la9 la10 la11 la38 la44 la46 la39 la40) fun x101 h102 =>
                          bl fun x103 =>
                          sl_lin (
                            hkR _ _) (
                            hkN _ _ _ _ _ _)) (
                          hkN _ _ _ _ _ _))) (
                      rfl)) (
                    rfl)))) (
              il (
                invk_lin (E5_lin la9 la10 la11 la38 la44 la46 la39 la40) fun x104 h105 =>
                exR_lin fun x106 =>
                invk_lin (E5_lin la9 la10 la11 la38 la44 la46 la39 la40) fun x107 h108 =>
                bl fun x109 =>
                invk_lin (E5_lin la9 la10 la11 la38 la44 la46 la39 la40) fun x110 h111 =>
                bl fun x112 =>
                sl_lin (
                  hkR _ _) (
                  invk_lin (E5_lin la9 la10 la11 la38 la44 la46 la39 la40) fun x113 h114 =>
                  bl fun x115 =>
                  sl_lin (
                    invk_lin (E5_lin la9 la10 la11 la38 la44 la46 la39 la40) fun x116 h117 =>
                    bl fun x118 =>
                    sl_lin (
                      hkR _ _) (
                      hkN _ _ _ _ _ _)) (
                    hkN _ _ _ _ _ _))) (
                rfl))) (
            rfl)) (
          rfl)) (
        rfl)) (
      hkE0 _))
abbrev g5_p3_S := ByteArray × V × V × Sl × Int
abbrev g5_p3_O := Sum (Unit) (Bool)
def g5_p3_es (s : g5_p3_S) : Fr := [(2, (V.s s.1)), (7, s.2.1), (9, s.2.2.1), (11, (V.sl s.2.2.2.1)), (12, (V.i .i64 s.2.2.2.2))]
def g5_p3_er : g5_p3_O → Ex × Fr
  | (.inl r) => ((.exit 0), [])
  | (.inr r) => (.ret, [(6, (V.b r))])
noncomputable def g5_p3_b (a9 : T9) (a10 : T10) (a11 : T11) (a38 : T38) (a44 : T44) (a46 : T46) (a39 : T39) (a40 : T40) (s : g5_p3_S) (H : Heap) : Option (Rd g5_p3_S g5_p3_O × Heap) :=
  g5_p2 a9 a10 a11 a38 a44 a46 a39 a40 _ s.1 s.2.1 s.2.2.1 s.2.2.2.1 s.2.2.2.2 H (fun t2 t7 t9 t11 t12 H => some (.go (t2, t7, t9, t11, t12), H)) (fun H => some (.up (.inl ()), H)) (fun t6 H => some (.up (.inr t6), H))
noncomputable def g5_p3 (a9 : T9) (a10 : T10) (a11 : T11) (a38 : T38) (a44 : T44) (a46 : T46) (a39 : T39) (a40 : T40) (R : Type) (t2 : ByteArray) (t7 : V) (t9 : V) (t11 : Sl) (t12 : Int) (H : Heap) (kE0 : Heap → Option R) (kR : Bool → Heap → Option R) : Option R :=
  (tlim (g5_p3_b a9 a10 a11 a38 a44 a46 a39 a40) (t2, t7, t9, t11, t12) H).bind fun p => cas p.1 (fun r => kE0  p.2) (fun r0 => kR r0 p.2)
theorem g5_p3_lin {a9 : T9} {a10 : T10} {a11 : T11} {a38 : T38} {a44 : T44} {a46 : T46} {a39 : T39} {a40 : T40} (la9 : Lin9 a9) (la10 : Lin10 a10) (la11 : Lin11 a11) (la38 : Lin38 a38) (la44 : Lin44 a44) (la46 : Lin46 a46) (la39 : Lin39 a39) (la40 : Lin40 a40) {R S : Type} {k : S → Option R} {t2 : ByteArray} {t7 : V} {t9 : V} {t11 : Sl} {t12 : Int} {H : Heap} {fkE0 : Heap → Option R} {gkE0 : Heap → Option S} {fkR : Bool → Heap → Option R} {gkR : Bool → Heap → Option S} (hkE0 : ∀ H, fkE0 H = (gkE0 H).bind k) (hkR : ∀ t6 H, fkR t6 H = (gkR t6 H).bind k) : g5_p3 a9 a10 a11 a38 a44 a46 a39 a40 R t2 t7 t9 t11 t12 H fkE0 fkR = (g5_p3 a9 a10 a11 a38 a44 a46 a39 a40 S t2 t7 t9 t11 t12 H gkE0 gkR).bind k := by
  exact bl fun p => cas_lin (fun _ => hkE0 _) (fun _ => hkR _ _)
theorem g5_p3_eq (a9 : T9) (a10 : T10) (a11 : T11) (a38 : T38) (a44 : T44) (a46 : T46) (a39 : T39) (a40 : T40) (la9 : Lin9 a9) (la10 : Lin10 a10) (la11 : Lin11 a11) (la38 : Lin38 a38) (la44 : Lin44 a44) (la46 : Lin46 a46) (la39 : Lin39 a39) (la40 : Lin40 a40) {R : Type} (t2 : ByteArray) (t7 : V) (t9 : V) (t11 : Sl) (t12 : Int) (H : Heap) (K : Ex → Fr → Heap → Option R) : ev Try.prog (E5 a9 a10 a11 a38 a44 a46 a39 a40) loopLim Try.f5.ntmps kp5 c5_1 [(2, (V.s t2)), (7, t7), (9, t9), (11, (V.sl t11)), (12, (V.i .i64 t12))] H K = g5_p3 a9 a10 a11 a38 a44 a46 a39 a40 R t2 t7 t9 t11 t12 H (fun H => K (.exit 0) [] H) (fun t6 H => K .ret [(6, (V.b t6))] H) := by
  show ev Try.prog (E5 a9 a10 a11 a38 a44 a46 a39 a40) loopLim Try.f5.ntmps kp5 (.loop c5_0) [(2, (V.s t2)), (7, t7), (9, t9), (11, (V.sl t11)), (12, (V.i .i64 t12))] H K = _
  delta g5_p3
  refine (ev_tlim (b := g5_p3_b a9 a10 a11 a38 a44 a46 a39 a40) (es := g5_p3_es) (er := g5_p3_er) (by rintro (r | r) <;> exact nofun) (fun s H => ?_) (t2, t7, t9, t11, t12) H K).trans (bc fun p => by rcases p with ⟨(r | r), H⟩ <;> rfl)
  exact (g5_p2_eq a9 a10 a11 a38 a44 a46 a39 a40 la9 la10 la11 la38 la44 la46 la39 la40 s.1 s.2.1 s.2.2.1 s.2.2.2.1 s.2.2.2.2 H ret3).trans (g5_p2_lin la9 la10 la11 la38 la44 la46 la39 la40 (fun _ _ _ _ _ _ => rfl) (fun _ => rfl) (fun _ _ => rfl))
noncomputable def g5_p4 (a9 : T9) (a10 : T10) (a11 : T11) (a38 : T38) (a44 : T44) (a46 : T46) (a39 : T39) (a40 : T40) (R : Type) (t2 : ByteArray) (t7 : V) (t9 : V) (t11 : Sl) (t12 : Int) (H : Heap) (kN : Heap → Option R) (kR : Bool → Heap → Option R) : Option R :=
  g5_p3 a9 a10 a11 a38 a44 a46 a39 a40 R t2 t7 t9 t11 t12 H (fun H => kN  H) (fun t6 H => kR t6 H)
theorem g5_p4_lin {a9 : T9} {a10 : T10} {a11 : T11} {a38 : T38} {a44 : T44} {a46 : T46} {a39 : T39} {a40 : T40} (la9 : Lin9 a9) (la10 : Lin10 a10) (la11 : Lin11 a11) (la38 : Lin38 a38) (la44 : Lin44 a44) (la46 : Lin46 a46) (la39 : Lin39 a39) (la40 : Lin40 a40) {R S : Type} {k : S → Option R} {t2 : ByteArray} {t7 : V} {t9 : V} {t11 : Sl} {t12 : Int} {H : Heap} {fkN : Heap → Option R} {gkN : Heap → Option S} {fkR : Bool → Heap → Option R} {gkR : Bool → Heap → Option S} (hkN : ∀ H, fkN H = (gkN H).bind k) (hkR : ∀ t6 H, fkR t6 H = (gkR t6 H).bind k) : g5_p4 a9 a10 a11 a38 a44 a46 a39 a40 R t2 t7 t9 t11 t12 H fkN fkR = (g5_p4 a9 a10 a11 a38 a44 a46 a39 a40 S t2 t7 t9 t11 t12 H gkN gkR).bind k := by
  exact g5_p3_lin la9 la10 la11 la38 la44 la46 la39 la40 (fun _ => hkN _) (fun _ _ => hkR _ _)
theorem g5_p4_eq (a9 : T9) (a10 : T10) (a11 : T11) (a38 : T38) (a44 : T44) (a46 : T46) (a39 : T39) (a40 : T40) (la9 : Lin9 a9) (la10 : Lin10 a10) (la11 : Lin11 a11) (la38 : Lin38 a38) (la44 : Lin44 a44) (la46 : Lin46 a46) (la39 : Lin39 a39) (la40 : Lin40 a40) {R : Type} (t2 : ByteArray) (t7 : V) (t9 : V) (t11 : Sl) (t12 : Int) (H : Heap) (K : Ex → Fr → Heap → Option R) : ev Try.prog (E5 a9 a10 a11 a38 a44 a46 a39 a40) loopLim Try.f5.ntmps kp5 c5_2 [(2, (V.s t2)), (7, t7), (9, t9), (11, (V.sl t11)), (12, (V.i .i64 t12))] H K = g5_p4 a9 a10 a11 a38 a44 a46 a39 a40 R t2 t7 t9 t11 t12 H (fun H => K .normal [] H) (fun t6 H => K .ret [(6, (V.b t6))] H) := by
  show ev Try.prog (E5 a9 a10 a11 a38 a44 a46 a39 a40) loopLim Try.f5.ntmps kp5 (.block 0 c5_1) [(2, (V.s t2)), (7, t7), (9, t9), (11, (V.sl t11)), (12, (V.i .i64 t12))] H K = _
  rw [ev_block]
  delta g5_p4
  exact (g5_p3_eq a9 a10 a11 a38 a44 a46 a39 a40 la9 la10 la11 la38 la44 la46 la39 la40 t2 t7 t9 t11 t12 H (kBlock kp5 0 K))
noncomputable def g5_p5 (a9 : T9) (a10 : T10) (a11 : T11) (a38 : T38) (a44 : T44) (a46 : T46) (a39 : T39) (a40 : T40) (R : Type) (H : Heap) (kR : Bool → Heap → Option R) : Option R :=
  a9 R H fun x119 h120 =>
  kR x119 h120
theorem g5_p5_eq (a9 : T9) (a10 : T10) (a11 : T11) (a38 : T38) (a44 : T44) (a46 : T46) (a39 : T39) (a40 : T40) (la9 : Lin9 a9) (la10 : Lin10 a10) (la11 : Lin11 a11) (la38 : Lin38 a38) (la44 : Lin44 a44) (la46 : Lin46 a46) (la39 : Lin39 a39) (la40 : Lin40 a40) {R : Type} (H : Heap) (K : Ex → Fr → Heap → Option R) : ev Try.prog (E5 a9 a10 a11 a38 a44 a46 a39 a40) loopLim Try.f5.ntmps kp5 c5_3 [] H K = g5_p5 a9 a10 a11 a38 a44 a46 a39 a40 R H (fun t6 H => K .ret [(6, (V.b t6))] H) := by kernel_rfl
theorem g5_p5_lin {a9 : T9} {a10 : T10} {a11 : T11} {a38 : T38} {a44 : T44} {a46 : T46} {a39 : T39} {a40 : T40} (la9 : Lin9 a9) (la10 : Lin10 a10) (la11 : Lin11 a11) (la38 : Lin38 a38) (la44 : Lin44 a44) (la46 : Lin46 a46) (la39 : Lin39 a39) (la40 : Lin40 a40) {R S : Type} {k : S → Option R} {H : Heap} {fkR : Bool → Heap → Option R} {gkR : Bool → Heap → Option S} (hkR : ∀ t6 H, fkR t6 H = (gkR t6 H).bind k) : g5_p5 a9 a10 a11 a38 a44 a46 a39 a40 R H fkR = (g5_p5 a9 a10 a11 a38 a44 a46 a39 a40 S H gkR).bind k := by
  delta g5_p5; exact (
    la9.l fun x119 h120 =>
    hkR _ _)
noncomputable def g5_p6 (a9 : T9) (a10 : T10) (a11 : T11) (a38 : T38) (a44 : T44) (a46 : T46) (a39 : T39) (a40 : T40) (R : Type) (t2 : ByteArray) (t7 : V) (t9 : V) (t11 : Sl) (t12 : Int) (H : Heap) (kR : Bool → Heap → Option R) : Option R :=
  g5_p4 a9 a10 a11 a38 a44 a46 a39 a40 R t2 t7 t9 t11 t12 H (fun H => g5_p5 a9 a10 a11 a38 a44 a46 a39 a40 R H (fun t6 H => kR t6 H)) (fun t6 H => kR t6 H)
theorem g5_p6_lin {a9 : T9} {a10 : T10} {a11 : T11} {a38 : T38} {a44 : T44} {a46 : T46} {a39 : T39} {a40 : T40} (la9 : Lin9 a9) (la10 : Lin10 a10) (la11 : Lin11 a11) (la38 : Lin38 a38) (la44 : Lin44 a44) (la46 : Lin46 a46) (la39 : Lin39 a39) (la40 : Lin40 a40) {R S : Type} {k : S → Option R} {t2 : ByteArray} {t7 : V} {t9 : V} {t11 : Sl} {t12 : Int} {H : Heap} {fkR : Bool → Heap → Option R} {gkR : Bool → Heap → Option S} (hkR : ∀ t6 H, fkR t6 H = (gkR t6 H).bind k) : g5_p6 a9 a10 a11 a38 a44 a46 a39 a40 R t2 t7 t9 t11 t12 H fkR = (g5_p6 a9 a10 a11 a38 a44 a46 a39 a40 S t2 t7 t9 t11 t12 H gkR).bind k := by
  exact g5_p4_lin la9 la10 la11 la38 la44 la46 la39 la40 (fun _ => g5_p5_lin la9 la10 la11 la38 la44 la46 la39 la40 (fun _ _ => hkR _ _)) (fun _ _ => hkR _ _)
theorem g5_p6_eq (a9 : T9) (a10 : T10) (a11 : T11) (a38 : T38) (a44 : T44) (a46 : T46) (a39 : T39) (a40 : T40) (la9 : Lin9 a9) (la10 : Lin10 a10) (la11 : Lin11 a11) (la38 : Lin38 a38) (la44 : Lin44 a44) (la46 : Lin46 a46) (la39 : Lin39 a39) (la40 : Lin40 a40) {R : Type} (t2 : ByteArray) (t7 : V) (t9 : V) (t11 : Sl) (t12 : Int) (H : Heap) (K : Ex → Fr → Heap → Option R) : ev Try.prog (E5 a9 a10 a11 a38 a44 a46 a39 a40) loopLim Try.f5.ntmps kp5 c5_4 [(2, (V.s t2)), (7, t7), (9, t9), (11, (V.sl t11)), (12, (V.i .i64 t12))] H K = g5_p6 a9 a10 a11 a38 a44 a46 a39 a40 R t2 t7 t9 t11 t12 H (fun t6 H => K .ret [(6, (V.b t6))] H) := by
  show ev Try.prog (E5 a9 a10 a11 a38 a44 a46 a39 a40) loopLim Try.f5.ntmps kp5 (.seq c5_2 c5_3) [(2, (V.s t2)), (7, t7), (9, t9), (11, (V.sl t11)), (12, (V.i .i64 t12))] H K = _
  rw [ev_seq]
  delta g5_p6
  exact (g5_p4_eq a9 a10 a11 a38 a44 a46 a39 a40 la9 la10 la11 la38 la44 la46 la39 la40 t2 t7 t9 t11 t12 H (kSeq (fun fr H => ev Try.prog (E5 a9 a10 a11 a38 a44 a46 a39 a40) loopLim Try.f5.ntmps kp5 c5_3 fr H K) K)).trans (congr (congrArg (g5_p4 a9 a10 a11 a38 a44 a46 a39 a40 R t2 t7 t9 t11 t12 H) (funext fun H => (kSeq_n _ _ _ _).trans (g5_p5_eq a9 a10 a11 a38 a44 a46 a39 a40 la9 la10 la11 la38 la44 la46 la39 la40 H K))) rfl)
noncomputable def g5_p7 (a9 : T9) (a10 : T10) (a11 : T11) (a38 : T38) (a44 : T44) (a46 : T46) (a39 : T39) (a40 : T40) (R : Type) (t1 : ByteArray) (t2 : ByteArray) (t7 : V) (t9 : V) (t40 : Bool) (H : Heap) (kR : Bool → Heap → Option R) : Option R :=
  g5_p1 a9 a10 a11 a38 a44 a46 a39 a40 R t1 t2 t7 t9 t40 H (fun t2 t7 t9 t11 t12 H => g5_p6 a9 a10 a11 a38 a44 a46 a39 a40 R t2 t7 t9 t11 t12 H (fun t6 H => kR t6 H)) (fun t6 H => kR t6 H)
theorem g5_p7_lin {a9 : T9} {a10 : T10} {a11 : T11} {a38 : T38} {a44 : T44} {a46 : T46} {a39 : T39} {a40 : T40} (la9 : Lin9 a9) (la10 : Lin10 a10) (la11 : Lin11 a11) (la38 : Lin38 a38) (la44 : Lin44 a44) (la46 : Lin46 a46) (la39 : Lin39 a39) (la40 : Lin40 a40) {R S : Type} {k : S → Option R} {t1 : ByteArray} {t2 : ByteArray} {t7 : V} {t9 : V} {t40 : Bool} {H : Heap} {fkR : Bool → Heap → Option R} {gkR : Bool → Heap → Option S} (hkR : ∀ t6 H, fkR t6 H = (gkR t6 H).bind k) : g5_p7 a9 a10 a11 a38 a44 a46 a39 a40 R t1 t2 t7 t9 t40 H fkR = (g5_p7 a9 a10 a11 a38 a44 a46 a39 a40 S t1 t2 t7 t9 t40 H gkR).bind k := by
  exact g5_p1_lin la9 la10 la11 la38 la44 la46 la39 la40 (fun _ _ _ _ _ _ => g5_p6_lin la9 la10 la11 la38 la44 la46 la39 la40 (fun _ _ => hkR _ _)) (fun _ _ => hkR _ _)
theorem g5_p7_eq (a9 : T9) (a10 : T10) (a11 : T11) (a38 : T38) (a44 : T44) (a46 : T46) (a39 : T39) (a40 : T40) (la9 : Lin9 a9) (la10 : Lin10 a10) (la11 : Lin11 a11) (la38 : Lin38 a38) (la44 : Lin44 a44) (la46 : Lin46 a46) (la39 : Lin39 a39) (la40 : Lin40 a40) {R : Type} (t1 : ByteArray) (t2 : ByteArray) (t7 : V) (t9 : V) (t40 : Bool) (H : Heap) (K : Ex → Fr → Heap → Option R) : ev Try.prog (E5 a9 a10 a11 a38 a44 a46 a39 a40) loopLim Try.f5.ntmps kp5 c5_5 [(1, (V.s t1)), (2, (V.s t2)), (7, t7), (9, t9), (40, (V.b t40))] H K = g5_p7 a9 a10 a11 a38 a44 a46 a39 a40 R t1 t2 t7 t9 t40 H (fun t6 H => K .ret [(6, (V.b t6))] H) := by
  show ev Try.prog (E5 a9 a10 a11 a38 a44 a46 a39 a40) loopLim Try.f5.ntmps kp5 (.seq (.cond (.tmp 40) (.seq (codeAt [1, 1, 1, 1, 0, 1, 0, 0] b5) .ret) .skip) (.seq (codeAt [1, 1, 1, 1, 1, 0] b5) (.seq (codeAt [1, 1, 1, 1, 1, 1, 0, 0] b5) c5_4))) [(1, (V.s t1)), (2, (V.s t2)), (7, t7), (9, t9), (40, (V.b t40))] H K = _
  delta g5_p7
  exact (g5_p1_eq a9 a10 a11 a38 a44 a46 a39 a40 _ t1 t2 t7 t9 t40 H K).trans (congr (congrArg (g5_p1 a9 a10 a11 a38 a44 a46 a39 a40 R t1 t2 t7 t9 t40 H) (funext fun t2 => funext fun t7 => funext fun t9 => funext fun t11 => funext fun t12 => funext fun H => g5_p6_eq a9 a10 a11 a38 a44 a46 a39 a40 la9 la10 la11 la38 la44 la46 la39 la40 t2 t7 t9 t11 t12 H K)) rfl)
noncomputable def g5_p8 (a9 : T9) (a10 : T10) (a11 : T11) (a38 : T38) (a44 : T44) (a46 : T46) (a39 : T39) (a40 : T40) (R : Type) (t0_0 : Int) (t0_1 : Int) (t0_2 : Int) (t0_3 : Int) (t0_4 : Int) (t1 : ByteArray) (t2 : ByteArray) (H : Heap) (kR : Bool → Heap → Option R) : Option R :=
  g5_p0 a9 a10 a11 a38 a44 a46 a39 a40 R t0_0 t0_1 t0_2 t0_3 t0_4 t1 t2 H (fun t1 t2 t7 t9 t40 H => g5_p7 a9 a10 a11 a38 a44 a46 a39 a40 R t1 t2 t7 t9 t40 H (fun t6 H => kR t6 H)) (fun t6 H => kR t6 H)
theorem g5_p8_lin {a9 : T9} {a10 : T10} {a11 : T11} {a38 : T38} {a44 : T44} {a46 : T46} {a39 : T39} {a40 : T40} (la9 : Lin9 a9) (la10 : Lin10 a10) (la11 : Lin11 a11) (la38 : Lin38 a38) (la44 : Lin44 a44) (la46 : Lin46 a46) (la39 : Lin39 a39) (la40 : Lin40 a40) {R S : Type} {k : S → Option R} {t0_0 : Int} {t0_1 : Int} {t0_2 : Int} {t0_3 : Int} {t0_4 : Int} {t1 : ByteArray} {t2 : ByteArray} {H : Heap} {fkR : Bool → Heap → Option R} {gkR : Bool → Heap → Option S} (hkR : ∀ t6 H, fkR t6 H = (gkR t6 H).bind k) : g5_p8 a9 a10 a11 a38 a44 a46 a39 a40 R t0_0 t0_1 t0_2 t0_3 t0_4 t1 t2 H fkR = (g5_p8 a9 a10 a11 a38 a44 a46 a39 a40 S t0_0 t0_1 t0_2 t0_3 t0_4 t1 t2 H gkR).bind k := by
  exact g5_p0_lin la9 la10 la11 la38 la44 la46 la39 la40 (fun _ _ _ _ _ _ => g5_p7_lin la9 la10 la11 la38 la44 la46 la39 la40 (fun _ _ => hkR _ _)) (fun _ _ => hkR _ _)
theorem g5_p8_eq (a9 : T9) (a10 : T10) (a11 : T11) (a38 : T38) (a44 : T44) (a46 : T46) (a39 : T39) (a40 : T40) (la9 : Lin9 a9) (la10 : Lin10 a10) (la11 : Lin11 a11) (la38 : Lin38 a38) (la44 : Lin44 a44) (la46 : Lin46 a46) (la39 : Lin39 a39) (la40 : Lin40 a40) {R : Type} (t0_0 : Int) (t0_1 : Int) (t0_2 : Int) (t0_3 : Int) (t0_4 : Int) (t1 : ByteArray) (t2 : ByteArray) (H : Heap) (K : Ex → Fr → Heap → Option R) : ev Try.prog (E5 a9 a10 a11 a38 a44 a46 a39 a40) loopLim Try.f5.ntmps kp5 c5_6 [(0, (V.agg [(V.i .u8 t0_0), (V.i .u8 t0_1), (V.i .u8 t0_2), (V.i .u8 t0_3), (V.i .u8 t0_4)])), (1, (V.s t1)), (2, (V.s t2))] H K = g5_p8 a9 a10 a11 a38 a44 a46 a39 a40 R t0_0 t0_1 t0_2 t0_3 t0_4 t1 t2 H (fun t6 H => K .ret [(6, (V.b t6))] H) := by
  show ev Try.prog (E5 a9 a10 a11 a38 a44 a46 a39 a40) loopLim Try.f5.ntmps kp5 (.seq (codeAt [0] b5) (.seq (codeAt [1, 0, 0] b5) (.seq (.cond (.tmp 15) (.seq (codeAt [1, 0, 1, 0, 0] b5) .ret) .skip) (.seq (codeAt [1, 1, 0] b5) (.seq (codeAt [1, 1, 1, 0] b5) (.seq (codeAt [1, 1, 1, 1, 0, 0] b5) c5_5)))))) [(0, (V.agg [(V.i .u8 t0_0), (V.i .u8 t0_1), (V.i .u8 t0_2), (V.i .u8 t0_3), (V.i .u8 t0_4)])), (1, (V.s t1)), (2, (V.s t2))] H K = _
  delta g5_p8
  exact (g5_p0_eq a9 a10 a11 a38 a44 a46 a39 a40 _ t0_0 t0_1 t0_2 t0_3 t0_4 t1 t2 H K).trans (congr (congrArg (g5_p0 a9 a10 a11 a38 a44 a46 a39 a40 R t0_0 t0_1 t0_2 t0_3 t0_4 t1 t2 H) (funext fun t1 => funext fun t2 => funext fun t7 => funext fun t9 => funext fun t40 => funext fun H => g5_p7_eq a9 a10 a11 a38 a44 a46 a39 a40 la9 la10 la11 la38 la44 la46 la39 la40 t1 t2 t7 t9 t40 H K)) rfl)
noncomputable def g5_r (a9 : T9) (a10 : T10) (a11 : T11) (a38 : T38) (a44 : T44) (a46 : T46) (a39 : T39) (a40 : T40) : T5 := fun R t0_0 t0_1 t0_2 t0_3 t0_4 t1 t2 H K =>
  g5_p8 a9 a10 a11 a38 a44 a46 a39 a40 R t0_0 t0_1 t0_2 t0_3 t0_4 t1 t2 H (fun t6 H =>
    K t6 H)
theorem g5_r_lin {a9 : T9} {a10 : T10} {a11 : T11} {a38 : T38} {a44 : T44} {a46 : T46} {a39 : T39} {a40 : T40} (la9 : Lin9 a9) (la10 : Lin10 a10) (la11 : Lin11 a11) (la38 : Lin38 a38) (la44 : Lin44 a44) (la46 : Lin46 a46) (la39 : Lin39 a39) (la40 : Lin40 a40) : Lin5 (g5_r a9 a10 a11 a38 a44 a46 a39 a40) := by
  constructor
  intro R S k t0_0 t0_1 t0_2 t0_3 t0_4 t1 t2 H f g h
  exact g5_p8_lin la9 la10 la11 la38 la44 la46 la39 la40 (fun t6 H =>
    h _ _)
theorem g5_fn (a9 : T9) (a10 : T10) (a11 : T11) (a38 : T38) (a44 : T44) (a46 : T46) (a39 : T39) (a40 : T40) (la9 : Lin9 a9) (la10 : Lin10 a10) (la11 : Lin11 a11) (la38 : Lin38 a38) (la44 : Lin44 a44) (la46 : Lin46 a46) (la39 : Lin39 a39) (la40 : Lin40 a40) {R : Type} (t0_0 : Int) (t0_1 : Int) (t0_2 : Int) (t0_3 : Int) (t0_4 : Int) (t1 : ByteArray) (t2 : ByteArray) (H : Heap) (K : V → Heap → Option R) : evFn Try.prog (E5 a9 a10 a11 a38 a44 a46 a39 a40) loopLim Try.f5 kp5 [(V.agg [(V.i .u8 t0_0), (V.i .u8 t0_1), (V.i .u8 t0_2), (V.i .u8 t0_3), (V.i .u8 t0_4)]), (V.s t1), (V.s t2)] H K = g5_r a9 a10 a11 a38 a44 a46 a39 a40 R t0_0 t0_1 t0_2 t0_3 t0_4 t1 t2 H (fun r0 H => K (V.b r0) H) := by
  have h0 : ∀ (t6 : Bool) (H : Heap), kFn Try.prog Try.f5.results.toList K .ret [(6, (V.b t6))] H =
      K (V.b t6) H := by intros; kernel_rfl
  have e0 := evFn_code2 (P := Try.prog) (c := c5_6) (E := (E5 a9 a10 a11 a38 a44 a46 a39 a40)) (lr := loopLim) (kp := kp5) (fn := Try.f5) (args := [(V.agg [(V.i .u8 t0_0), (V.i .u8 t0_1), (V.i .u8 t0_2), (V.i .u8 t0_3), (V.i .u8 t0_4)]), (V.s t1), (V.s t2)]) H K (by kernel_rfl) (Nat.le_of_ble_eq_true (by kernel_rfl)) (by kernel_rfl)
  have e1 : ev Try.prog (E5 a9 a10 a11 a38 a44 a46 a39 a40) loopLim Try.f5.ntmps kp5 c5_6 (argFr 0 [(V.agg [(V.i .u8 t0_0), (V.i .u8 t0_1), (V.i .u8 t0_2), (V.i .u8 t0_3), (V.i .u8 t0_4)]), (V.s t1), (V.s t2)]) H (kFn Try.prog Try.f5.results.toList K) = ev Try.prog (E5 a9 a10 a11 a38 a44 a46 a39 a40) loopLim Try.f5.ntmps kp5 c5_6 [(0, (V.agg [(V.i .u8 t0_0), (V.i .u8 t0_1), (V.i .u8 t0_2), (V.i .u8 t0_3), (V.i .u8 t0_4)])), (1, (V.s t1)), (2, (V.s t2))] H (kFn Try.prog Try.f5.results.toList K) := by kernel_rfl
  refine (e0.trans e1).trans ?_
  delta g5_r
  exact (g5_p8_eq a9 a10 a11 a38 a44 a46 a39 a40 la9 la10 la11 la38 la44 la46 la39 la40 t0_0 t0_1 t0_2 t0_3 t0_4 t1 t2 H (kFn Try.prog Try.f5.results.toList K)).trans (congrArg (g5_p8 a9 a10 a11 a38 a44 a46 a39 a40 R t0_0 t0_1 t0_2 t0_3 t0_4 t1 t2 H) (funext fun t6 => funext fun H => h0 t6 H))
theorem g5_ok {a9 : T9} {a10 : T10} {a11 : T11} {a38 : T38} {a44 : T44} {a46 : T46} {a39 : T39} {a40 : T40} (oa9 : FunOK Try.prog 9 (w9 a9)) (oa10 : FunOK Try.prog 10 (w10 a10)) (oa11 : FunOK Try.prog 11 (w11 a11)) (oa38 : FunOK Try.prog 38 (w38 a38)) (oa44 : FunOK Try.prog 44 (w44 a44)) (oa46 : FunOK Try.prog 46 (w46 a46)) (oa39 : FunOK Try.prog 39 (w39 a39)) (oa40 : FunOK Try.prog 40 (w40 a40)) (la9 : Lin9 a9) (la10 : Lin10 a10) (la11 : Lin11 a11) (la38 : Lin38 a38) (la44 : Lin44 a44) (la46 : Lin46 a46) (la39 : Lin39 a39) (la40 : Lin40 a40) : FunOK Try.prog 5 (w5 (g5_r a9 a10 a11 a38 a44 a46 a39 a40)) := by
  refine (runF_ok (E5_good oa9 oa10 oa11 oa38 oa44 oa46 oa39 oa40 la9 la10 la11 la38 la44 la46 la39 la40) mixed lim_ok Try.func5 (by kernel_rfl) kp5).of_le fun R args H K r hk => ?_
  unfold w5 at hk
  split at hk
  · exact (g5_fn a9 a10 a11 a38 a44 a46 a39 a40 la9 la10 la11 la38 la44 la46 la39 la40 _ _ _ _ _ _ _ H K).trans hk
  · cases hk
end Go.Proofs.Ytbkncpmgpogakaa
