/- Printed: functions as the machine runs them. -/
import Derived.Test.YtkldpkemnmmbgaaGT
namespace Go.Proofs.Ytkldpkemnmmbgaa
open Go AM Go.RowKit
set_option linter.unusedVariables false
def kp5 : Nat → Option (List Nat) := kpOf [(0, [1, 2]), (1, [1, 2, 12]), (2, [4]), (3, [1, 2, 5, 6]), (4, [1, 2, 5, 25]), (5, [4]), (6, [1, 5, 7]), (7, [1, 5, 7, 8]), (8, [1, 5, 7, 8, 32]), (9, [1, 5, 7, 8]), (10, [1, 5, 7, 8, 9]), (11, [1, 5, 7, 8, 9, 44]), (12, [1, 5, 7, 8, 9]), (13, [1, 5, 7, 8, 77]), (14, [4]), (15, [4]), (100000, []), (100001, [1, 5, 7, 8]), (200000, [1, 5, 7, 8]), (200001, [1, 5, 7, 8]), (300000, [4]), (400012, [1, 2]), (400025, [1, 2, 5]), (400032, [1, 5, 7, 8]), (400044, [1, 5, 7, 8, 9]), (400077, [1, 5, 7, 8])]
def E5 (a16 : T16) (a9 : T9) (a10 : T10) (a20 : T20) (a21 : T21) (a13 : T13) (a18 : T18) (a15 : T15) (a22 : T22) (a23 : T23) : FEnv := [(16, w16 a16), (9, w9 a9), (10, w10 a10), (20, w20 a20), (21, w21 a21), (13, w13 a13), (18, w18 a18), (15, w15 a15), (22, w22 a22), (23, w23 a23)]
theorem E5_good {a16 : T16} {a9 : T9} {a10 : T10} {a20 : T20} {a21 : T21} {a13 : T13} {a18 : T18} {a15 : T15} {a22 : T22} {a23 : T23} (oa16 : FunOK Try.prog 16 (w16 a16)) (oa9 : FunOK Try.prog 9 (w9 a9)) (oa10 : FunOK Try.prog 10 (w10 a10)) (oa20 : FunOK Try.prog 20 (w20 a20)) (oa21 : FunOK Try.prog 21 (w21 a21)) (oa13 : FunOK Try.prog 13 (w13 a13)) (oa18 : FunOK Try.prog 18 (w18 a18)) (oa15 : FunOK Try.prog 15 (w15 a15)) (oa22 : FunOK Try.prog 22 (w22 a22)) (oa23 : FunOK Try.prog 23 (w23 a23)) (la16 : Lin16 a16) (la9 : Lin9 a9) (la10 : Lin10 a10) (la20 : Lin20 a20) (la21 : Lin21 a21) (la13 : Lin13 a13) (la18 : Lin18 a18) (la15 : Lin15 a15) (la22 : Lin22 a22) (la23 : Lin23 a23) : EnvGood Try.prog (E5 a16 a9 a10 a20 a21 a13 a18 a15 a22 a23) := (((((((((((EnvGood.nil _).cons oa23 (w23_lin la23)).cons oa22 (w22_lin la22)).cons oa15 (w15_lin la15)).cons oa18 (w18_lin la18)).cons oa13 (w13_lin la13)).cons oa21 (w21_lin la21)).cons oa20 (w20_lin la20)).cons oa10 (w10_lin la10)).cons oa9 (w9_lin la9)).cons oa16 (w16_lin la16))
theorem E5_lin {a16 : T16} {a9 : T9} {a10 : T10} {a20 : T20} {a21 : T21} {a13 : T13} {a18 : T18} {a15 : T15} {a22 : T22} {a23 : T23} (la16 : Lin16 a16) (la9 : Lin9 a9) (la10 : Lin10 a10) (la20 : Lin20 a20) (la21 : Lin21 a21) (la13 : Lin13 a13) (la18 : Lin18 a18) (la15 : Lin15 a15) (la22 : Lin22 a22) (la23 : Lin23 a23) : EnvLin (E5 a16 a9 a10 a20 a21 a13 a18 a15 a22 a23) := by
  intro g F h
  simp only [E5, List.mem_cons, List.not_mem_nil, or_false] at h
  rcases h with h | h | h | h | h | h | h | h | h | h
  · cases h; exact w16_lin la16
  · cases h; exact w9_lin la9
  · cases h; exact w10_lin la10
  · cases h; exact w20_lin la20
  · cases h; exact w21_lin la21
  · cases h; exact w13_lin la13
  · cases h; exact w18_lin la18
  · cases h; exact w15_lin la15
  · cases h; exact w22_lin la22
  · cases h; exact w23_lin la23
noncomputable def b5 : Code := Try.f5.body.getD .skip
noncomputable def c5_0 : Code := (.cond (.tmp 77) (.seq (codeAt [1, 1, 1, 1, 1, 0, 1, 0, 0, 1, 0, 0, 1, 1, 1, 0, 0] b5) .ret) .skip)
noncomputable def c5_1 : Code := (.seq (codeAt [1, 1, 1, 1, 1, 0, 1, 0, 0, 1, 0, 0, 0] b5) (.seq (codeAt [1, 1, 1, 1, 1, 0, 1, 0, 0, 1, 0, 0, 1, 0, 0] b5) (.seq (.cond (.tmp 44) (codeAt [1, 1, 1, 1, 1, 0, 1, 0, 0, 1, 0, 0, 1, 0, 1, 0] b5) .skip) (.seq (codeAt [1, 1, 1, 1, 1, 0, 1, 0, 0, 1, 0, 0, 1, 1, 0] b5) c5_0))))
noncomputable def c5_2 : Code := (.block 1 c5_1)
noncomputable def c5_3 : Code := (codeAt [1, 1, 1, 1, 1, 0, 1, 0, 0, 1, 1] b5)
noncomputable def c5_4 : Code := (.seq c5_2 c5_3)
noncomputable def c5_5 : Code := (.seq (codeAt [1, 1, 1, 1, 1, 0, 1, 0, 0, 0, 0] b5) (.seq (.cond (.tmp 32) .skip (.exit 0)) c5_4))
noncomputable def c5_6 : Code := (.loop c5_5)
noncomputable def c5_7 : Code := (.block 0 c5_6)
noncomputable def c5_8 : Code := (.seq (codeAt [1, 1, 1, 1, 1, 1, 0] b5) .ret)
noncomputable def c5_9 : Code := (.seq c5_7 c5_8)
noncomputable def c5_10 : Code := (.seq (codeAt [0] b5) (.seq (codeAt [1, 0, 0] b5) (.seq (.cond (.tmp 12) (.seq (codeAt [1, 0, 1, 0, 0] b5) .ret) .skip) (.seq (codeAt [1, 1, 0] b5) (.seq (codeAt [1, 1, 1, 0, 0] b5) (.seq (.cond (.tmp 25) (.seq (codeAt [1, 1, 1, 0, 1, 0, 0] b5) .ret) .skip) (.seq (codeAt [1, 1, 1, 1, 0] b5) (.seq (codeAt [1, 1, 1, 1, 1, 0, 0] b5) c5_9))))))))
noncomputable def g5_p0 (a16 : T16) (a9 : T9) (a10 : T10) (a20 : T20) (a21 : T21) (a13 : T13) (a18 : T18) (a15 : T15) (a22 : T22) (a23 : T23) (R : Type) (t0_0 : Int) (t0_1 : Int) (t0_2 : Int) (t0_3 : Int) (t0_4 : Int) (t0_5 : Int) (t0_6 : Int) (t1 : Sl) (H : Heap) (kN : Sl → Option (Nat × Nat) → Nat → Nat → Int → Heap → Option R) (kR : Bool → Heap → Option R) : Option R :=
  alo H (.cells [(V.i .u8 t0_0), (V.i .u8 t0_1), (V.i .u8 t0_2), (V.i .u8 t0_3), (V.i .u8 t0_4), (V.i .u8 t0_5), (V.i .u8 t0_6)] 23 false) fun i115 h116 =>
  sel (decide (((t1.len : Nat) : Int) > (200 : Int))) (
    a16 R h116 fun x117 h118 =>
    kR x117 h118) (
    ((h116).ldI .u8 i115 (0 + 0)).bind fun x119 =>
    ((h116).ldI .u8 i115 (0 + 1)).bind fun x120 =>
    ((h116).ldI .u8 i115 (0 + 2)).bind fun x121 =>
    ((h116).ldI .u8 i115 (0 + 3)).bind fun x122 =>
    ((h116).ldI .u8 i115 (0 + 4)).bind fun x123 =>
    ((h116).ldI .u8 i115 (0 + 5)).bind fun x124 =>
    ((h116).ldI .u8 i115 (0 + 6)).bind fun x125 =>
    a9 R x119 x120 x121 x122 x123 x124 x125 h116 fun x126 x127 x128 x129 x130 x131 x132 h133 =>
    a10 R x126 x127 x128 x129 x130 x131 x132 h133 fun x134 x135 h136 =>
    sel (x135 != (0 : Int)) (
      kR false h136) (
      sel (Option.isNone x134) (
        kR false h136) (
        ((h136).ldI .u8 i115 (0 + 0)).bind fun x137 =>
        ((h136).ldI .u8 i115 (0 + 1)).bind fun x138 =>
        ((h136).ldI .u8 i115 (0 + 2)).bind fun x139 =>
        ((h136).ldI .u8 i115 (0 + 3)).bind fun x140 =>
        ((h136).ldI .u8 i115 (0 + 4)).bind fun x141 =>
        ((h136).ldI .u8 i115 (0 + 5)).bind fun x142 =>
        ((h136).ldI .u8 i115 (0 + 6)).bind fun x143 =>
        a9 R x137 x138 x139 x140 x141 x142 x143 h136 fun x144 x145 x146 x147 x148 x149 x150 h151 =>
        alo h151 (.cells [(V.i .i64 (0 : Int)), (V.i .i64 (0 : Int)), (V.i .i64 (0 : Int)), (V.i .i64 (0 : Int)), (V.i .i64 (0 : Int)), (V.i .i64 (0 : Int)), (V.i .i64 (0 : Int)), (V.i .u8 (0 : Int)), (V.i .i64 (0 : Int)), (V.b false), (V.b false), (V.i .i64 (0 : Int)), (V.i .i64 (0 : Int))] 46 false) fun i152 h153 =>
        ((h153).sts i152 0 [(V.i .i64 x144), (V.i .i64 x145), (V.i .i64 x146), (V.i .i64 x147), (V.i .i64 x148), (V.i .i64 x149), (V.i .i64 x150), (V.i .u8 (0 : Int)), (V.i .i64 (0 : Int)), (V.b false), (V.b false), (V.i .i64 (0 : Int)), (V.i .i64 (0 : Int))]).bind fun h154 =>
        kN t1 x134 i152 0 (0 : Int) h154)))
theorem g5_p0_eq (a16 : T16) (a9 : T9) (a10 : T10) (a20 : T20) (a21 : T21) (a13 : T13) (a18 : T18) (a15 : T15) (a22 : T22) (a23 : T23) {R : Type} (c2 : Code) (t0_0 : Int) (t0_1 : Int) (t0_2 : Int) (t0_3 : Int) (t0_4 : Int) (t0_5 : Int) (t0_6 : Int) (t1 : Sl) (H : Heap) (K : Ex → Fr → Heap → Option R) : ev Try.prog (E5 a16 a9 a10 a20 a21 a13 a18 a15 a22 a23) loopLim Try.f5.ntmps kp5 (.seq (codeAt [0] b5) (.seq (codeAt [1, 0, 0] b5) (.seq (.cond (.tmp 12) (.seq (codeAt [1, 0, 1, 0, 0] b5) .ret) .skip) (.seq (codeAt [1, 1, 0] b5) (.seq (codeAt [1, 1, 1, 0, 0] b5) (.seq (.cond (.tmp 25) (.seq (codeAt [1, 1, 1, 0, 1, 0, 0] b5) .ret) .skip) (.seq (codeAt [1, 1, 1, 1, 0] b5) (.seq (codeAt [1, 1, 1, 1, 1, 0, 0] b5) c2)))))))) [(0, (V.agg [(V.i .u8 t0_0), (V.i .u8 t0_1), (V.i .u8 t0_2), (V.i .u8 t0_3), (V.i .u8 t0_4), (V.i .u8 t0_5), (V.i .u8 t0_6)])), (1, (V.sl t1))] H K = g5_p0 a16 a9 a10 a20 a21 a13 a18 a15 a22 a23 R t0_0 t0_1 t0_2 t0_3 t0_4 t0_5 t0_6 t1 H (fun t1 t5 t7_0 t7_1 t8 H => ev Try.prog (E5 a16 a9 a10 a20 a21 a13 a18 a15 a22 a23) loopLim Try.f5.ntmps kp5 c2 [(1, (V.sl t1)), (5, (V.p t5)), (7, (V.p (some (t7_0, t7_1)))), (8, (V.i .i64 t8))] H K) (fun t4 H => K .ret [(4, (V.b t4))] H) := by kernel_rfl
theorem g5_p0_lin {a16 : T16} {a9 : T9} {a10 : T10} {a20 : T20} {a21 : T21} {a13 : T13} {a18 : T18} {a15 : T15} {a22 : T22} {a23 : T23} (la16 : Lin16 a16) (la9 : Lin9 a9) (la10 : Lin10 a10) (la20 : Lin20 a20) (la21 : Lin21 a21) (la13 : Lin13 a13) (la18 : Lin18 a18) (la15 : Lin15 a15) (la22 : Lin22 a22) (la23 : Lin23 a23) {R S : Type} {k : S → Option R} {t0_0 : Int} {t0_1 : Int} {t0_2 : Int} {t0_3 : Int} {t0_4 : Int} {t0_5 : Int} {t0_6 : Int} {t1 : Sl} {H : Heap} {fkN : Sl → Option (Nat × Nat) → Nat → Nat → Int → Heap → Option R} {gkN : Sl → Option (Nat × Nat) → Nat → Nat → Int → Heap → Option S} {fkR : Bool → Heap → Option R} {gkR : Bool → Heap → Option S} (hkN : ∀ t1 t5 t7_0 t7_1 t8 H, fkN t1 t5 t7_0 t7_1 t8 H = (gkN t1 t5 t7_0 t7_1 t8 H).bind k) (hkR : ∀ t4 H, fkR t4 H = (gkR t4 H).bind k) : g5_p0 a16 a9 a10 a20 a21 a13 a18 a15 a22 a23 R t0_0 t0_1 t0_2 t0_3 t0_4 t0_5 t0_6 t1 H fkN fkR = (g5_p0 a16 a9 a10 a20 a21 a13 a18 a15 a22 a23 S t0_0 t0_1 t0_2 t0_3 t0_4 t0_5 t0_6 t1 H gkN gkR).bind k := by
  delta g5_p0; exact (
    alo_lin fun i115 h116 =>
    sl_lin (
      la16.l fun x117 h118 =>
      hkR _ _) (
      bl fun x119 =>
      bl fun x120 =>
      bl fun x121 =>
      bl fun x122 =>
      bl fun x123 =>
      bl fun x124 =>
      bl fun x125 =>
      la9.l fun x126 x127 x128 x129 x130 x131 x132 h133 =>
      la10.l fun x134 x135 h136 =>
      sl_lin (
        hkR _ _) (
        sl_lin (
          hkR _ _) (
          bl fun x137 =>
          bl fun x138 =>
          bl fun x139 =>
          bl fun x140 =>
          bl fun x141 =>
          bl fun x142 =>
          bl fun x143 =>
          la9.l fun x144 x145 x146 x147 x148 x149 x150 h151 =>
          alo_lin fun i152 h153 =>
          bl fun h154 =>
          hkN _ _ _ _ _ _))))
noncomputable def g5_p1 (a16 : T16) (a9 : T9) (a10 : T10) (a20 : T20) (a21 : T21) (a13 : T13) (a18 : T18) (a15 : T15) (a22 : T22) (a23 : T23) (R : Type) (t1 : Sl) (t5 : Option (Nat × Nat)) (t7_0 : Nat) (t7_1 : Nat) (t8 : Int) (H : Heap) (kN : Sl → Option (Nat × Nat) → Nat → Nat → Int → Heap → Option R) (kE0 : Heap → Option R) : Option R :=
  sel (decide (t8 < ((t1.len : Nat) : Int))) (
    kN t1 t5 t7_0 t7_1 t8 H) (
    kE0 H)
theorem g5_p1_eq (a16 : T16) (a9 : T9) (a10 : T10) (a20 : T20) (a21 : T21) (a13 : T13) (a18 : T18) (a15 : T15) (a22 : T22) (a23 : T23) {R : Type} (c2 : Code) (t1 : Sl) (t5 : Option (Nat × Nat)) (t7_0 : Nat) (t7_1 : Nat) (t8 : Int) (H : Heap) (K : Ex → Fr → Heap → Option R) : ev Try.prog (E5 a16 a9 a10 a20 a21 a13 a18 a15 a22 a23) loopLim Try.f5.ntmps kp5 (.seq (codeAt [1, 1, 1, 1, 1, 0, 1, 0, 0, 0, 0] b5) (.seq (.cond (.tmp 32) .skip (.exit 0)) c2)) [(1, (V.sl t1)), (5, (V.p t5)), (7, (V.p (some (t7_0, t7_1)))), (8, (V.i .i64 t8))] H K = g5_p1 a16 a9 a10 a20 a21 a13 a18 a15 a22 a23 R t1 t5 t7_0 t7_1 t8 H (fun t1 t5 t7_0 t7_1 t8 H => ev Try.prog (E5 a16 a9 a10 a20 a21 a13 a18 a15 a22 a23) loopLim Try.f5.ntmps kp5 c2 [(1, (V.sl t1)), (5, (V.p t5)), (7, (V.p (some (t7_0, t7_1)))), (8, (V.i .i64 t8))] H K) (fun H => K (.exit 0) [] H) := by kernel_rfl
theorem g5_p1_lin {a16 : T16} {a9 : T9} {a10 : T10} {a20 : T20} {a21 : T21} {a13 : T13} {a18 : T18} {a15 : T15} {a22 : T22} {a23 : T23} (la16 : Lin16 a16) (la9 : Lin9 a9) (la10 : Lin10 a10) (la20 : Lin20 a20) (la21 : Lin21 a21) (la13 : Lin13 a13) (la18 : Lin18 a18) (la15 : Lin15 a15) (la22 : Lin22 a22) (la23 : Lin23 a23) {R S : Type} {k : S → Option R} {t1 : Sl} {t5 : Option (Nat × Nat)} {t7_0 : Nat} {t7_1 : Nat} {t8 : Int} {H : Heap} {fkN : Sl → Option (Nat × Nat) → Nat → Nat → Int → Heap → Option R} {gkN : Sl → Option (Nat × Nat) → Nat → Nat → Int → Heap → Option S} {fkE0 : Heap → Option R} {gkE0 : Heap → Option S} (hkN : ∀ t1 t5 t7_0 t7_1 t8 H, fkN t1 t5 t7_0 t7_1 t8 H = (gkN t1 t5 t7_0 t7_1 t8 H).bind k) (hkE0 : ∀ H, fkE0 H = (gkE0 H).bind k) : g5_p1 a16 a9 a10 a20 a21 a13 a18 a15 a22 a23 R t1 t5 t7_0 t7_1 t8 H fkN fkE0 = (g5_p1 a16 a9 a10 a20 a21 a13 a18 a15 a22 a23 S t1 t5 t7_0 t7_1 t8 H gkN gkE0).bind k := by
  delta g5_p1; exact (
    sl_lin (
      hkN _ _ _ _ _ _) (
      hkE0 _))
noncomputable def g5_p2 (a16 : T16) (a9 : T9) (a10 : T10) (a20 : T20) (a21 : T21) (a13 : T13) (a18 : T18) (a15 : T15) (a22 : T22) (a23 : T23) (R : Type) (t1 : Sl) (t5 : Option (Nat × Nat)) (t7_0 : Nat) (t7_1 : Nat) (t8 : Int) (H : Heap) (kN : Sl → Option (Nat × Nat) → Nat → Nat → Int → Bool → Heap → Option R) : Option R :=
  if 0 ≤ t8 ∧ t8 < ((t1.len : Nat) : Int) then (
    (t1.a).bind fun q533 =>
    ((H).ldI .u8 q533.1 (q533.2 + Int.toNat t8 * 1)).bind fun x534 =>
    sel (decide (x534 > (4 : Int))) (
      sel (decide (x534 < (8 : Int))) (
        a20 R t5 (4 : Int) H fun x535 h536 =>
        a21 R (some (t7_0, t7_1)) (4 : Int) h536 fun x537 h538 =>
        sel (x535 != x537) (
          kN t1 t5 t7_0 t7_1 t8 true h538) (
          a13 R t5 h538 fun x539 h540 =>
          ((h540).ldI .u8 t7_0 (t7_1 + 7)).bind fun x541 =>
          ((h538).ldI .u8 t7_0 (t7_1 + 7)).bind fun x542 =>
          if V.same (V.i .u8 x541) (V.i .u8 x542) = true then (
            sel (x539 != x541) (
              kN t1 t5 t7_0 t7_1 t8 true h540) (
              a18 R t5 h540 fun x543 h544 =>
              ((h544).ldI .i64 t7_0 (t7_1 + 8)).bind fun x545 =>
              ((h540).ldI .i64 t7_0 (t7_1 + 8)).bind fun x546 =>
              if V.same (V.i .i64 x545) (V.i .i64 x546) = true then (
                sel (x543 != x545) (
                  kN t1 t5 t7_0 t7_1 t8 true h544) (
                  a15 R t5 h544 fun x547 h548 =>
                  ((h548).ldI .i64 t7_0 (t7_1 + 11)).bind fun x549 =>
                  ((h544).ldI .i64 t7_0 (t7_1 + 11)).bind fun x550 =>
                  if V.same (V.i .i64 x549) (V.i .i64 x550) = true then (
                    sel (x547 != x549) (
                      kN t1 t5 t7_0 t7_1 t8 true h548) (
                      a22 R t5 h548 fun x551 h552 =>
                      a23 R (some (t7_0, t7_1)) h552 fun x553 h554 =>
                      kN t1 t5 t7_0 t7_1 t8 (x551 != x553) h554))
                  else (
                    none)))
              else (
                none)))
          else (
            none))) (
        a20 R t5 x534 H fun x555 h556 =>
        a21 R (some (t7_0, t7_1)) x534 h556 fun x557 h558 =>
        sel (x555 != x557) (
          kN t1 t5 t7_0 t7_1 t8 true h558) (
          a13 R t5 h558 fun x559 h560 =>
          ((h560).ldI .u8 t7_0 (t7_1 + 7)).bind fun x561 =>
          ((h558).ldI .u8 t7_0 (t7_1 + 7)).bind fun x562 =>
          if V.same (V.i .u8 x561) (V.i .u8 x562) = true then (
            sel (x559 != x561) (
              kN t1 t5 t7_0 t7_1 t8 true h560) (
              a18 R t5 h560 fun x563 h564 =>
              ((h564).ldI .i64 t7_0 (t7_1 + 8)).bind fun x565 =>
              ((h560).ldI .i64 t7_0 (t7_1 + 8)).bind fun x566 =>
              if V.same (V.i .i64 x565) (V.i .i64 x566) = true then (
                sel (x563 != x565) (
                  kN t1 t5 t7_0 t7_1 t8 true h564) (
                  a15 R t5 h564 fun x567 h568 =>
                  ((h568).ldI .i64 t7_0 (t7_1 + 11)).bind fun x569 =>
                  ((h564).ldI .i64 t7_0 (t7_1 + 11)).bind fun x570 =>
                  if V.same (V.i .i64 x569) (V.i .i64 x570) = true then (
                    sel (x567 != x569) (
                      kN t1 t5 t7_0 t7_1 t8 true h568) (
                      a22 R t5 h568 fun x571 h572 =>
                      a23 R (some (t7_0, t7_1)) h572 fun x573 h574 =>
                      kN t1 t5 t7_0 t7_1 t8 (x571 != x573) h574))
                  else (
                    none)))
              else (
                none)))
          else (
            none)))) (
      a20 R t5 x534 H fun x575 h576 =>
      a21 R (some (t7_0, t7_1)) x534 h576 fun x577 h578 =>
      sel (x575 != x577) (
        kN t1 t5 t7_0 t7_1 t8 true h578) (
        a13 R t5 h578 fun x579 h580 =>
        ((h580).ldI .u8 t7_0 (t7_1 + 7)).bind fun x581 =>
        ((h578).ldI .u8 t7_0 (t7_1 + 7)).bind fun x582 =>
        if V.same (V.i .u8 x581) (V.i .u8 x582) = true then (
          sel (x579 != x581) (
            kN t1 t5 t7_0 t7_1 t8 true h580) (
            a18 R t5 h580 fun x583 h584 =>
            ((h584).ldI .i64 t7_0 (t7_1 + 8)).bind fun x585 =>
            ((h580).ldI .i64 t7_0 (t7_1 + 8)).bind fun x586 =>
            if V.same (V.i .i64 x585) (V.i .i64 x586) = true then (
              sel (x583 != x585) (
                kN t1 t5 t7_0 t7_1 t8 true h584) (
                a15 R t5 h584 fun x587 h588 =>
                ((h588).ldI .i64 t7_0 (t7_1 + 11)).bind fun x589 =>
                ((h584).ldI .i64 t7_0 (t7_1 + 11)).bind fun x590 =>
                if V.same (V.i .i64 x589) (V.i .i64 x590) = true then (
                  sel (x587 != x589) (
                    kN t1 t5 t7_0 t7_1 t8 true h588) (
                    a22 R t5 h588 fun x591 h592 =>
                    a23 R (some (t7_0, t7_1)) h592 fun x593 h594 =>
                    kN t1 t5 t7_0 t7_1 t8 (x591 != x593) h594))
                else (
                  none)))
            else (
              none)))
        else (
          none))))
  else (
    none)
theorem g5_p2_eq (a16 : T16) (a9 : T9) (a10 : T10) (a20 : T20) (a21 : T21) (a13 : T13) (a18 : T18) (a15 : T15) (a22 : T22) (a23 : T23) {R : Type} (c2 : Code) (t1 : Sl) (t5 : Option (Nat × Nat)) (t7_0 : Nat) (t7_1 : Nat) (t8 : Int) (H : Heap) (K : Ex → Fr → Heap → Option R) : ev Try.prog (E5 a16 a9 a10 a20 a21 a13 a18 a15 a22 a23) loopLim Try.f5.ntmps kp5 (.seq (codeAt [1, 1, 1, 1, 1, 0, 1, 0, 0, 1, 0, 0, 0] b5) (.seq (codeAt [1, 1, 1, 1, 1, 0, 1, 0, 0, 1, 0, 0, 1, 0, 0] b5) (.seq (.cond (.tmp 44) (codeAt [1, 1, 1, 1, 1, 0, 1, 0, 0, 1, 0, 0, 1, 0, 1, 0] b5) .skip) (.seq (codeAt [1, 1, 1, 1, 1, 0, 1, 0, 0, 1, 0, 0, 1, 1, 0] b5) c2)))) [(1, (V.sl t1)), (5, (V.p t5)), (7, (V.p (some (t7_0, t7_1)))), (8, (V.i .i64 t8))] H K = g5_p2 a16 a9 a10 a20 a21 a13 a18 a15 a22 a23 R t1 t5 t7_0 t7_1 t8 H (fun t1 t5 t7_0 t7_1 t8 t77 H => ev Try.prog (E5 a16 a9 a10 a20 a21 a13 a18 a15 a22 a23) loopLim Try.f5.ntmps kp5 c2 [(1, (V.sl t1)), (5, (V.p t5)), (7, (V.p (some (t7_0, t7_1)))), (8, (V.i .i64 t8)), (77, (V.b t77))] H K) := by kernel_rfl
theorem g5_p2_lin {a16 : T16} {a9 : T9} {a10 : T10} {a20 : T20} {a21 : T21} {a13 : T13} {a18 : T18} {a15 : T15} {a22 : T22} {a23 : T23} (la16 : Lin16 a16) (la9 : Lin9 a9) (la10 : Lin10 a10) (la20 : Lin20 a20) (la21 : Lin21 a21) (la13 : Lin13 a13) (la18 : Lin18 a18) (la15 : Lin15 a15) (la22 : Lin22 a22) (la23 : Lin23 a23) {R S : Type} {k : S → Option R} {t1 : Sl} {t5 : Option (Nat × Nat)} {t7_0 : Nat} {t7_1 : Nat} {t8 : Int} {H : Heap} {fkN : Sl → Option (Nat × Nat) → Nat → Nat → Int → Bool → Heap → Option R} {gkN : Sl → Option (Nat × Nat) → Nat → Nat → Int → Bool → Heap → Option S} (hkN : ∀ t1 t5 t7_0 t7_1 t8 t77 H, fkN t1 t5 t7_0 t7_1 t8 t77 H = (gkN t1 t5 t7_0 t7_1 t8 t77 H).bind k) : g5_p2 a16 a9 a10 a20 a21 a13 a18 a15 a22 a23 R t1 t5 t7_0 t7_1 t8 H fkN = (g5_p2 a16 a9 a10 a20 a21 a13 a18 a15 a22 a23 S t1 t5 t7_0 t7_1 t8 H gkN).bind k := by
  delta g5_p2; exact (
    il (
      bl fun q533 =>
      bl fun x534 =>
      sl_lin (
        sl_lin (
          la20.l fun x535 h536 =>
          la21.l fun x537 h538 =>
          sl_lin (
            hkN _ _ _ _ _ _ _) (
            la13.l fun x539 h540 =>
            bl fun x541 =>
            bl fun x542 =>
            il (
              sl_lin (
                hkN _ _ _ _ _ _ _) (
                la18.l fun x543 h544 =>
                bl fun x545 =>
                bl fun x546 =>
                il (
                  sl_lin (
                    hkN _ _ _ _ _ _ _) (
                    la15.l fun x547 h548 =>
                    bl fun x549 =>
                    bl fun x550 =>
                    il (
                      sl_lin (
                        hkN _ _ _ _ _ _ _) (
                        la22.l fun x551 h552 =>
                        la23.l fun x553 h554 =>
                        hkN _ _ _ _ _ _ _)) (
                      rfl))) (
                  rfl))) (
              rfl))) (
          la20.l fun x555 h556 =>
          la21.l fun x557 h558 =>
          sl_lin (
            hkN _ _ _ _ _ _ _) (
            la13.l fun x559 h560 =>
            bl fun x561 =>
            bl fun x562 =>
            il (
              sl_lin (
                hkN _ _ _ _ _ _ _) (
                la18.l fun x563 h564 =>
                bl fun x565 =>
                bl fun x566 =>
                il (
                  sl_lin (
                    hkN _ _ _ _ _ _ _) (
                    la15.l fun x567 h568 =>
                    bl fun x569 =>
                    bl fun x570 =>
                    il (
                      sl_lin (
                        hkN _ _ _ _ _ _ _) (
                        la22.l fun x571 h572 =>
                        la23.l fun x573 h574 =>
                        hkN _ _ _ _ _ _ _)) (
                      rfl))) (
                  rfl))) (
              rfl)))) (
        la20.l fun x575 h576 =>
        la21.l fun x577 h578 =>
        sl_lin (
          hkN _ _ _ _ _ _ _) (
          la13.l fun x579 h580 =>
          bl fun x581 =>
          bl fun x582 =>
          il (
            sl_lin (
              hkN _ _ _ _ _ _ _) (
              la18.l fun x583 h584 =>
              bl fun x585 =>
              bl fun x586 =>
              il (
                sl_lin (
                  hkN _ _ _ _ _ _ _) (
                  la15.l fun x587 h588 =>
                  bl fun x589 =>
                  bl fun x590 =>
                  il (
                    sl_lin (
                      hkN _ _ _ _ _ _ _) (
                      la22.l fun x591 h592 =>
                      la23.l fun x593 h594 =>
                      hkN _ _ _ _ _ _ _)) (
                    rfl))) (
                rfl))) (
            rfl)))) (
      rfl))
noncomputable def g5_p3 (a16 : T16) (a9 : T9) (a10 : T10) (a20 : T20) (a21 : T21) (a13 : T13) (a18 : T18) (a15 : T15) (a22 : T22) (a23 : T23) (R : Type) (t1 : Sl) (t5 : Option (Nat × Nat)) (t7_0 : Nat) (t7_1 : Nat) (t8 : Int) (t77 : Bool) (H : Heap) (kN : Sl → Option (Nat × Nat) → Nat → Nat → Int → Heap → Option R) (kR : Bool → Heap → Option R) : Option R :=
  sel t77 (
    kR false H) (
    kN t1 t5 t7_0 t7_1 t8 H)
theorem g5_p3_eq (a16 : T16) (a9 : T9) (a10 : T10) (a20 : T20) (a21 : T21) (a13 : T13) (a18 : T18) (a15 : T15) (a22 : T22) (a23 : T23) (la16 : Lin16 a16) (la9 : Lin9 a9) (la10 : Lin10 a10) (la20 : Lin20 a20) (la21 : Lin21 a21) (la13 : Lin13 a13) (la18 : Lin18 a18) (la15 : Lin15 a15) (la22 : Lin22 a22) (la23 : Lin23 a23) {R : Type} (t1 : Sl) (t5 : Option (Nat × Nat)) (t7_0 : Nat) (t7_1 : Nat) (t8 : Int) (t77 : Bool) (H : Heap) (K : Ex → Fr → Heap → Option R) : ev Try.prog (E5 a16 a9 a10 a20 a21 a13 a18 a15 a22 a23) loopLim Try.f5.ntmps kp5 c5_0 [(1, (V.sl t1)), (5, (V.p t5)), (7, (V.p (some (t7_0, t7_1)))), (8, (V.i .i64 t8)), (77, (V.b t77))] H K = g5_p3 a16 a9 a10 a20 a21 a13 a18 a15 a22 a23 R t1 t5 t7_0 t7_1 t8 t77 H (fun t1 t5 t7_0 t7_1 t8 H => K .normal [(1, (V.sl t1)), (5, (V.p t5)), (7, (V.p (some (t7_0, t7_1)))), (8, (V.i .i64 t8))] H) (fun t4 H => K .ret [(4, (V.b t4))] H) := by kernel_rfl
theorem g5_p3_lin {a16 : T16} {a9 : T9} {a10 : T10} {a20 : T20} {a21 : T21} {a13 : T13} {a18 : T18} {a15 : T15} {a22 : T22} {a23 : T23} (la16 : Lin16 a16) (la9 : Lin9 a9) (la10 : Lin10 a10) (la20 : Lin20 a20) (la21 : Lin21 a21) (la13 : Lin13 a13) (la18 : Lin18 a18) (la15 : Lin15 a15) (la22 : Lin22 a22) (la23 : Lin23 a23) {R S : Type} {k : S → Option R} {t1 : Sl} {t5 : Option (Nat × Nat)} {t7_0 : Nat} {t7_1 : Nat} {t8 : Int} {t77 : Bool} {H : Heap} {fkN : Sl → Option (Nat × Nat) → Nat → Nat → Int → Heap → Option R} {gkN : Sl → Option (Nat × Nat) → Nat → Nat → Int → Heap → Option S} {fkR : Bool → Heap → Option R} {gkR : Bool → Heap → Option S} (hkN : ∀ t1 t5 t7_0 t7_1 t8 H, fkN t1 t5 t7_0 t7_1 t8 H = (gkN t1 t5 t7_0 t7_1 t8 H).bind k) (hkR : ∀ t4 H, fkR t4 H = (gkR t4 H).bind k) : g5_p3 a16 a9 a10 a20 a21 a13 a18 a15 a22 a23 R t1 t5 t7_0 t7_1 t8 t77 H fkN fkR = (g5_p3 a16 a9 a10 a20 a21 a13 a18 a15 a22 a23 S t1 t5 t7_0 t7_1 t8 t77 H gkN gkR).bind k := by
  delta g5_p3; exact (
    sl_lin (
      hkR _ _) (
      hkN _ _ _ _ _ _))
noncomputable def g5_p4 (a16 : T16) (a9 : T9) (a10 : T10) (a20 : T20) (a21 : T21) (a13 : T13) (a18 : T18) (a15 : T15) (a22 : T22) (a23 : T23) (R : Type) (t1 : Sl) (t5 : Option (Nat × Nat)) (t7_0 : Nat) (t7_1 : Nat) (t8 : Int) (H : Heap) (kN : Sl → Option (Nat × Nat) → Nat → Nat → Int → Heap → Option R) (kR : Bool → Heap → Option R) : Option R :=
  g5_p2 a16 a9 a10 a20 a21 a13 a18 a15 a22 a23 R t1 t5 t7_0 t7_1 t8 H (fun t1 t5 t7_0 t7_1 t8 t77 H => g5_p3 a16 a9 a10 a20 a21 a13 a18 a15 a22 a23 R t1 t5 t7_0 t7_1 t8 t77 H (fun t1 t5 t7_0 t7_1 t8 H => kN t1 t5 t7_0 t7_1 t8 H) (fun t4 H => kR t4 H))
theorem g5_p4_lin {a16 : T16} {a9 : T9} {a10 : T10} {a20 : T20} {a21 : T21} {a13 : T13} {a18 : T18} {a15 : T15} {a22 : T22} {a23 : T23} (la16 : Lin16 a16) (la9 : Lin9 a9) (la10 : Lin10 a10) (la20 : Lin20 a20) (la21 : Lin21 a21) (la13 : Lin13 a13) (la18 : Lin18 a18) (la15 : Lin15 a15) (la22 : Lin22 a22) (la23 : Lin23 a23) {R S : Type} {k : S → Option R} {t1 : Sl} {t5 : Option (Nat × Nat)} {t7_0 : Nat} {t7_1 : Nat} {t8 : Int} {H : Heap} {fkN : Sl → Option (Nat × Nat) → Nat → Nat → Int → Heap → Option R} {gkN : Sl → Option (Nat × Nat) → Nat → Nat → Int → Heap → Option S} {fkR : Bool → Heap → Option R} {gkR : Bool → Heap → Option S} (hkN : ∀ t1 t5 t7_0 t7_1 t8 H, fkN t1 t5 t7_0 t7_1 t8 H = (gkN t1 t5 t7_0 t7_1 t8 H).bind k) (hkR : ∀ t4 H, fkR t4 H = (gkR t4 H).bind k) : g5_p4 a16 a9 a10 a20 a21 a13 a18 a15 a22 a23 R t1 t5 t7_0 t7_1 t8 H fkN fkR = (g5_p4 a16 a9 a10 a20 a21 a13 a18 a15 a22 a23 S t1 t5 t7_0 t7_1 t8 H gkN gkR).bind k := by
  exact g5_p2_lin la16 la9 la10 la20 la21 la13 la18 la15 la22 la23 (fun _ _ _ _ _ _ _ => g5_p3_lin la16 la9 la10 la20 la21 la13 la18 la15 la22 la23 (fun _ _ _ _ _ _ => hkN _ _ _ _ _ _) (fun _ _ => hkR _ _))
theorem g5_p4_eq (a16 : T16) (a9 : T9) (a10 : T10) (a20 : T20) (a21 : T21) (a13 : T13) (a18 : T18) (a15 : T15) (a22 : T22) (a23 : T23) (la16 : Lin16 a16) (la9 : Lin9 a9) (la10 : Lin10 a10) (la20 : Lin20 a20) (la21 : Lin21 a21) (la13 : Lin13 a13) (la18 : Lin18 a18) (la15 : Lin15 a15) (la22 : Lin22 a22) (la23 : Lin23 a23) {R : Type} (t1 : Sl) (t5 : Option (Nat × Nat)) (t7_0 : Nat) (t7_1 : Nat) (t8 : Int) (H : Heap) (K : Ex → Fr → Heap → Option R) : ev Try.prog (E5 a16 a9 a10 a20 a21 a13 a18 a15 a22 a23) loopLim Try.f5.ntmps kp5 c5_1 [(1, (V.sl t1)), (5, (V.p t5)), (7, (V.p (some (t7_0, t7_1)))), (8, (V.i .i64 t8))] H K = g5_p4 a16 a9 a10 a20 a21 a13 a18 a15 a22 a23 R t1 t5 t7_0 t7_1 t8 H (fun t1 t5 t7_0 t7_1 t8 H => K .normal [(1, (V.sl t1)), (5, (V.p t5)), (7, (V.p (some (t7_0, t7_1)))), (8, (V.i .i64 t8))] H) (fun t4 H => K .ret [(4, (V.b t4))] H) := by
  show ev Try.prog (E5 a16 a9 a10 a20 a21 a13 a18 a15 a22 a23) loopLim Try.f5.ntmps kp5 (.seq (codeAt [1, 1, 1, 1, 1, 0, 1, 0, 0, 1, 0, 0, 0] b5) (.seq (codeAt [1, 1, 1, 1, 1, 0, 1, 0, 0, 1, 0, 0, 1, 0, 0] b5) (.seq (.cond (.tmp 44) (codeAt [1, 1, 1, 1, 1, 0, 1, 0, 0, 1, 0, 0, 1, 0, 1, 0] b5) .skip) (.seq (codeAt [1, 1, 1, 1, 1, 0, 1, 0, 0, 1, 0, 0, 1, 1, 0] b5) c5_0)))) [(1, (V.sl t1)), (5, (V.p t5)), (7, (V.p (some (t7_0, t7_1)))), (8, (V.i .i64 t8))] H K = _
  delta g5_p4
  exact (g5_p2_eq a16 a9 a10 a20 a21 a13 a18 a15 a22 a23 _ t1 t5 t7_0 t7_1 t8 H K).trans (congrArg (g5_p2 a16 a9 a10 a20 a21 a13 a18 a15 a22 a23 R t1 t5 t7_0 t7_1 t8 H) (funext fun t1 => funext fun t5 => funext fun t7_0 => funext fun t7_1 => funext fun t8 => funext fun t77 => funext fun H => g5_p3_eq a16 a9 a10 a20 a21 a13 a18 a15 a22 a23 la16 la9 la10 la20 la21 la13 la18 la15 la22 la23 t1 t5 t7_0 t7_1 t8 t77 H K))
noncomputable def g5_p5 (a16 : T16) (a9 : T9) (a10 : T10) (a20 : T20) (a21 : T21) (a13 : T13) (a18 : T18) (a15 : T15) (a22 : T22) (a23 : T23) (R : Type) (t1 : Sl) (t5 : Option (Nat × Nat)) (t7_0 : Nat) (t7_1 : Nat) (t8 : Int) (H : Heap) (kN : Sl → Option (Nat × Nat) → Nat → Nat → Int → Heap → Option R) (kR : Bool → Heap → Option R) : Option R :=
  g5_p4 a16 a9 a10 a20 a21 a13 a18 a15 a22 a23 R t1 t5 t7_0 t7_1 t8 H (fun t1 t5 t7_0 t7_1 t8 H => kN t1 t5 t7_0 t7_1 t8 H) (fun t4 H => kR t4 H)
theorem g5_p5_lin {a16 : T16} {a9 : T9} {a10 : T10} {a20 : T20} {a21 : T21} {a13 : T13} {a18 : T18} {a15 : T15} {a22 : T22} {a23 : T23} (la16 : Lin16 a16) (la9 : Lin9 a9) (la10 : Lin10 a10) (la20 : Lin20 a20) (la21 : Lin21 a21) (la13 : Lin13 a13) (la18 : Lin18 a18) (la15 : Lin15 a15) (la22 : Lin22 a22) (la23 : Lin23 a23) {R S : Type} {k : S → Option R} {t1 : Sl} {t5 : Option (Nat × Nat)} {t7_0 : Nat} {t7_1 : Nat} {t8 : Int} {H : Heap} {fkN : Sl → Option (Nat × Nat) → Nat → Nat → Int → Heap → Option R} {gkN : Sl → Option (Nat × Nat) → Nat → Nat → Int → Heap → Option S} {fkR : Bool → Heap → Option R} {gkR : Bool → Heap → Option S} (hkN : ∀ t1 t5 t7_0 t7_1 t8 H, fkN t1 t5 t7_0 t7_1 t8 H = (gkN t1 t5 t7_0 t7_1 t8 H).bind k) (hkR : ∀ t4 H, fkR t4 H = (gkR t4 H).bind k) : g5_p5 a16 a9 a10 a20 a21 a13 a18 a15 a22 a23 R t1 t5 t7_0 t7_1 t8 H fkN fkR = (g5_p5 a16 a9 a10 a20 a21 a13 a18 a15 a22 a23 S t1 t5 t7_0 t7_1 t8 H gkN gkR).bind k := by
  exact g5_p4_lin la16 la9 la10 la20 la21 la13 la18 la15 la22 la23 (fun _ _ _ _ _ _ => hkN _ _ _ _ _ _) (fun _ _ => hkR _ _)
theorem g5_p5_eq (a16 : T16) (a9 : T9) (a10 : T10) (a20 : T20) (a21 : T21) (a13 : T13) (a18 : T18) (a15 : T15) (a22 : T22) (a23 : T23) (la16 : Lin16 a16) (la9 : Lin9 a9) (la10 : Lin10 a10) (la20 : Lin20 a20) (la21 : Lin21 a21) (la13 : Lin13 a13) (la18 : Lin18 a18) (la15 : Lin15 a15) (la22 : Lin22 a22) (la23 : Lin23 a23) {R : Type} (t1 : Sl) (t5 : Option (Nat × Nat)) (t7_0 : Nat) (t7_1 : Nat) (t8 : Int) (H : Heap) (K : Ex → Fr → Heap → Option R) : ev Try.prog (E5 a16 a9 a10 a20 a21 a13 a18 a15 a22 a23) loopLim Try.f5.ntmps kp5 c5_2 [(1, (V.sl t1)), (5, (V.p t5)), (7, (V.p (some (t7_0, t7_1)))), (8, (V.i .i64 t8))] H K = g5_p5 a16 a9 a10 a20 a21 a13 a18 a15 a22 a23 R t1 t5 t7_0 t7_1 t8 H (fun t1 t5 t7_0 t7_1 t8 H => K .normal [(1, (V.sl t1)), (5, (V.p t5)), (7, (V.p (some (t7_0, t7_1)))), (8, (V.i .i64 t8))] H) (fun t4 H => K .ret [(4, (V.b t4))] H) := by
  show ev Try.prog (E5 a16 a9 a10 a20 a21 a13 a18 a15 a22 a23) loopLim Try.f5.ntmps kp5 (.block 1 c5_1) [(1, (V.sl t1)), (5, (V.p t5)), (7, (V.p (some (t7_0, t7_1)))), (8, (V.i .i64 t8))] H K = _
  rw [ev_block]
  delta g5_p5
  exact (g5_p4_eq a16 a9 a10 a20 a21 a13 a18 a15 a22 a23 la16 la9 la10 la20 la21 la13 la18 la15 la22 la23 t1 t5 t7_0 t7_1 t8 H (kBlock kp5 1 K))
noncomputable def g5_p6 (a16 : T16) (a9 : T9) (a10 : T10) (a20 : T20) (a21 : T21) (a13 : T13) (a18 : T18) (a15 : T15) (a22 : T22) (a23 : T23) (R : Type) (t1 : Sl) (t5 : Option (Nat × Nat)) (t7_0 : Nat) (t7_1 : Nat) (t8 : Int) (H : Heap) (kN : Sl → Option (Nat × Nat) → Nat → Nat → Int → Heap → Option R) : Option R :=
  kN t1 t5 t7_0 t7_1 (IntKind.wrap .i64 (t8 + (1 : Int))) H
theorem g5_p6_eq (a16 : T16) (a9 : T9) (a10 : T10) (a20 : T20) (a21 : T21) (a13 : T13) (a18 : T18) (a15 : T15) (a22 : T22) (a23 : T23) (la16 : Lin16 a16) (la9 : Lin9 a9) (la10 : Lin10 a10) (la20 : Lin20 a20) (la21 : Lin21 a21) (la13 : Lin13 a13) (la18 : Lin18 a18) (la15 : Lin15 a15) (la22 : Lin22 a22) (la23 : Lin23 a23) {R : Type} (t1 : Sl) (t5 : Option (Nat × Nat)) (t7_0 : Nat) (t7_1 : Nat) (t8 : Int) (H : Heap) (K : Ex → Fr → Heap → Option R) : ev Try.prog (E5 a16 a9 a10 a20 a21 a13 a18 a15 a22 a23) loopLim Try.f5.ntmps kp5 c5_3 [(1, (V.sl t1)), (5, (V.p t5)), (7, (V.p (some (t7_0, t7_1)))), (8, (V.i .i64 t8))] H K = g5_p6 a16 a9 a10 a20 a21 a13 a18 a15 a22 a23 R t1 t5 t7_0 t7_1 t8 H (fun t1 t5 t7_0 t7_1 t8 H => K .normal [(1, (V.sl t1)), (5, (V.p t5)), (7, (V.p (some (t7_0, t7_1)))), (8, (V.i .i64 t8))] H) := by kernel_rfl
theorem g5_p6_lin {a16 : T16} {a9 : T9} {a10 : T10} {a20 : T20} {a21 : T21} {a13 : T13} {a18 : T18} {a15 : T15} {a22 : T22} {a23 : T23} (la16 : Lin16 a16) (la9 : Lin9 a9) (la10 : Lin10 a10) (la20 : Lin20 a20) (la21 : Lin21 a21) (la13 : Lin13 a13) (la18 : Lin18 a18) (la15 : Lin15 a15) (la22 : Lin22 a22) (la23 : Lin23 a23) {R S : Type} {k : S → Option R} {t1 : Sl} {t5 : Option (Nat × Nat)} {t7_0 : Nat} {t7_1 : Nat} {t8 : Int} {H : Heap} {fkN : Sl → Option (Nat × Nat) → Nat → Nat → Int → Heap → Option R} {gkN : Sl → Option (Nat × Nat) → Nat → Nat → Int → Heap → Option S} (hkN : ∀ t1 t5 t7_0 t7_1 t8 H, fkN t1 t5 t7_0 t7_1 t8 H = (gkN t1 t5 t7_0 t7_1 t8 H).bind k) : g5_p6 a16 a9 a10 a20 a21 a13 a18 a15 a22 a23 R t1 t5 t7_0 t7_1 t8 H fkN = (g5_p6 a16 a9 a10 a20 a21 a13 a18 a15 a22 a23 S t1 t5 t7_0 t7_1 t8 H gkN).bind k := by
  delta g5_p6; exact (
    hkN _ _ _ _ _ _)
noncomputable def g5_p7 (a16 : T16) (a9 : T9) (a10 : T10) (a20 : T20) (a21 : T21) (a13 : T13) (a18 : T18) (a15 : T15) (a22 : T22) (a23 : T23) (R : Type) (t1 : Sl) (t5 : Option (Nat × Nat)) (t7_0 : Nat) (t7_1 : Nat) (t8 : Int) (H : Heap) (kN : Sl → Option (Nat × Nat) → Nat → Nat → Int → Heap → Option R) (kR : Bool → Heap → Option R) : Option R :=
  g5_p5 a16 a9 a10 a20 a21 a13 a18 a15 a22 a23 R t1 t5 t7_0 t7_1 t8 H (fun t1 t5 t7_0 t7_1 t8 H => g5_p6 a16 a9 a10 a20 a21 a13 a18 a15 a22 a23 R t1 t5 t7_0 t7_1 t8 H (fun t1 t5 t7_0 t7_1 t8 H => kN t1 t5 t7_0 t7_1 t8 H)) (fun t4 H => kR t4 H)
theorem g5_p7_lin {a16 : T16} {a9 : T9} {a10 : T10} {a20 : T20} {a21 : T21} {a13 : T13} {a18 : T18} {a15 : T15} {a22 : T22} {a23 : T23} (la16 : Lin16 a16) (la9 : Lin9 a9) (la10 : Lin10 a10) (la20 : Lin20 a20) (la21 : Lin21 a21) (la13 : Lin13 a13) (la18 : Lin18 a18) (la15 : Lin15 a15) (la22 : Lin22 a22) (la23 : Lin23 a23) {R S : Type} {k : S → Option R} {t1 : Sl} {t5 : Option (Nat × Nat)} {t7_0 : Nat} {t7_1 : Nat} {t8 : Int} {H : Heap} {fkN : Sl → Option (Nat × Nat) → Nat → Nat → Int → Heap → Option R} {gkN : Sl → Option (Nat × Nat) → Nat → Nat → Int → Heap → Option S} {fkR : Bool → Heap → Option R} {gkR : Bool → Heap → Option S} (hkN : ∀ t1 t5 t7_0 t7_1 t8 H, fkN t1 t5 t7_0 t7_1 t8 H = (gkN t1 t5 t7_0 t7_1 t8 H).bind k) (hkR : ∀ t4 H, fkR t4 H = (gkR t4 H).bind k) : g5_p7 a16 a9 a10 a20 a21 a13 a18 a15 a22 a23 R t1 t5 t7_0 t7_1 t8 H fkN fkR = (g5_p7 a16 a9 a10 a20 a21 a13 a18 a15 a22 a23 S t1 t5 t7_0 t7_1 t8 H gkN gkR).bind k := by
  exact g5_p5_lin la16 la9 la10 la20 la21 la13 la18 la15 la22 la23 (fun _ _ _ _ _ _ => g5_p6_lin la16 la9 la10 la20 la21 la13 la18 la15 la22 la23 (fun _ _ _ _ _ _ => hkN _ _ _ _ _ _)) (fun _ _ => hkR _ _)
theorem g5_p7_eq (a16 : T16) (a9 : T9) (a10 : T10) (a20 : T20) (a21 : T21) (a13 : T13) (a18 : T18) (a15 : T15) (a22 : T22) (a23 : T23) (la16 : Lin16 a16) (la9 : Lin9 a9) (la10 : Lin10 a10) (la20 : Lin20 a20) (la21 : Lin21 a21) (la13 : Lin13 a13) (la18 : Lin18 a18) (la15 : Lin15 a15) (la22 : Lin22 a22) (la23 : Lin23 a23) {R : Type} (t1 : Sl) (t5 : Option (Nat × Nat)) (t7_0 : Nat) (t7_1 : Nat) (t8 : Int) (H : Heap) (K : Ex → Fr → Heap → Option R) : ev Try.prog (E5 a16 a9 a10 a20 a21 a13 a18 a15 a22 a23) loopLim Try.f5.ntmps kp5 c5_4 [(1, (V.sl t1)), (5, (V.p t5)), (7, (V.p (some (t7_0, t7_1)))), (8, (V.i .i64 t8))] H K = g5_p7 a16 a9 a10 a20 a21 a13 a18 a15 a22 a23 R t1 t5 t7_0 t7_1 t8 H (fun t1 t5 t7_0 t7_1 t8 H => K .normal [(1, (V.sl t1)), (5, (V.p t5)), (7, (V.p (some (t7_0, t7_1)))), (8, (V.i .i64 t8))] H) (fun t4 H => K .ret [(4, (V.b t4))] H) := by
  show ev Try.prog (E5 a16 a9 a10 a20 a21 a13 a18 a15 a22 a23) loopLim Try.f5.ntmps kp5 (.seq c5_2 c5_3) [(1, (V.sl t1)), (5, (V.p t5)), (7, (V.p (some (t7_0, t7_1)))), (8, (V.i .i64 t8))] H K = _
  rw [ev_seq]
  delta g5_p7
  exact (g5_p5_eq a16 a9 a10 a20 a21 a13 a18 a15 a22 a23 la16 la9 la10 la20 la21 la13 la18 la15 la22 la23 t1 t5 t7_0 t7_1 t8 H (kSeq (fun fr H => ev Try.prog (E5 a16 a9 a10 a20 a21 a13 a18 a15 a22 a23) loopLim Try.f5.ntmps kp5 c5_3 fr H K) K)).trans (congr (congrArg (g5_p5 a16 a9 a10 a20 a21 a13 a18 a15 a22 a23 R t1 t5 t7_0 t7_1 t8 H) (funext fun t1 => funext fun t5 => funext fun t7_0 => funext fun t7_1 => funext fun t8 => funext fun H => (kSeq_n _ _ _ _).trans (g5_p6_eq a16 a9 a10 a20 a21 a13 a18 a15 a22 a23 la16 la9 la10 la20 la21 la13 la18 la15 la22 la23 t1 t5 t7_0 t7_1 t8 H K))) rfl)
noncomputable def g5_p8 (a16 : T16) (a9 : T9) (a10 : T10) (a20 : T20) (a21 : T21) (a13 : T13) (a18 : T18) (a15 : T15) (a22 : T22) (a23 : T23) (R : Type) (t1 : Sl) (t5 : Option (Nat × Nat)) (t7_0 : Nat) (t7_1 : Nat) (t8 : Int) (H : Heap) (kN : Sl → Option (Nat × Nat) → Nat → Nat → Int → Heap → Option R) (kE0 : Heap → Option R) (kR : Bool → Heap → Option R) : Option R :=
  g5_p1 a16 a9 a10 a20 a21 a13 a18 a15 a22 a23 R t1 t5 t7_0 t7_1 t8 H (fun t1 t5 t7_0 t7_1 t8 H => g5_p7 a16 a9 a10 a20 a21 a13 a18 a15 a22 a23 R t1 t5 t7_0 t7_1 t8 H (fun t1 t5 t7_0 t7_1 t8 H => kN t1 t5 t7_0 t7_1 t8 H) (fun t4 H => kR t4 H)) (fun H => kE0  H)
theorem g5_p8_lin {a16 : T16} {a9 : T9} {a10 : T10} {a20 : T20} {a21 : T21} {a13 : T13} {a18 : T18} {a15 : T15} {a22 : T22} {a23 : T23} (la16 : Lin16 a16) (la9 : Lin9 a9) (la10 : Lin10 a10) (la20 : Lin20 a20) (la21 : Lin21 a21) (la13 : Lin13 a13) (la18 : Lin18 a18) (la15 : Lin15 a15) (la22 : Lin22 a22) (la23 : Lin23 a23) {R S : Type} {k : S → Option R} {t1 : Sl} {t5 : Option (Nat × Nat)} {t7_0 : Nat} {t7_1 : Nat} {t8 : Int} {H : Heap} {fkN : Sl → Option (Nat × Nat) → Nat → Nat → Int → Heap → Option R} {gkN : Sl → Option (Nat × Nat) → Nat → Nat → Int → Heap → Option S} {fkE0 : Heap → Option R} {gkE0 : Heap → Option S} {fkR : Bool → Heap → Option R} {gkR : Bool → Heap → Option S} (hkN : ∀ t1 t5 t7_0 t7_1 t8 H, fkN t1 t5 t7_0 t7_1 t8 H = (gkN t1 t5 t7_0 t7_1 t8 H).bind k) (hkE0 : ∀ H, fkE0 H = (gkE0 H).bind k) (hkR : ∀ t4 H, fkR t4 H = (gkR t4 H).bind k) : g5_p8 a16 a9 a10 a20 a21 a13 a18 a15 a22 a23 R t1 t5 t7_0 t7_1 t8 H fkN fkE0 fkR = (g5_p8 a16 a9 a10 a20 a21 a13 a18 a15 a22 a23 S t1 t5 t7_0 t7_1 t8 H gkN gkE0 gkR).bind k := by
  exact g5_p1_lin la16 la9 la10 la20 la21 la13 la18 la15 la22 la23 (fun _ _ _ _ _ _ => g5_p7_lin la16 la9 la10 la20 la21 la13 la18 la15 la22 la23 (fun _ _ _ _ _ _ => hkN _ _ _ _ _ _) (fun _ _ => hkR _ _)) (fun _ => hkE0 _)
theorem g5_p8_eq (a16 : T16) (a9 : T9) (a10 : T10) (a20 : T20) (a21 : T21) (a13 : T13) (a18 : T18) (a15 : T15) (a22 : T22) (a23 : T23) (la16 : Lin16 a16) (la9 : Lin9 a9) (la10 : Lin10 a10) (la20 : Lin20 a20) (la21 : Lin21 a21) (la13 : Lin13 a13) (la18 : Lin18 a18) (la15 : Lin15 a15) (la22 : Lin22 a22) (la23 : Lin23 a23) {R : Type} (t1 : Sl) (t5 : Option (Nat × Nat)) (t7_0 : Nat) (t7_1 : Nat) (t8 : Int) (H : Heap) (K : Ex → Fr → Heap → Option R) : ev Try.prog (E5 a16 a9 a10 a20 a21 a13 a18 a15 a22 a23) loopLim Try.f5.ntmps kp5 c5_5 [(1, (V.sl t1)), (5, (V.p t5)), (7, (V.p (some (t7_0, t7_1)))), (8, (V.i .i64 t8))] H K = g5_p8 a16 a9 a10 a20 a21 a13 a18 a15 a22 a23 R t1 t5 t7_0 t7_1 t8 H (fun t1 t5 t7_0 t7_1 t8 H => K .normal [(1, (V.sl t1)), (5, (V.p t5)), (7, (V.p (some (t7_0, t7_1)))), (8, (V.i .i64 t8))] H) (fun H => K (.exit 0) [] H) (fun t4 H => K .ret [(4, (V.b t4))] H) := by
  show ev Try.prog (E5 a16 a9 a10 a20 a21 a13 a18 a15 a22 a23) loopLim Try.f5.ntmps kp5 (.seq (codeAt [1, 1, 1, 1, 1, 0, 1, 0, 0, 0, 0] b5) (.seq (.cond (.tmp 32) .skip (.exit 0)) c5_4)) [(1, (V.sl t1)), (5, (V.p t5)), (7, (V.p (some (t7_0, t7_1)))), (8, (V.i .i64 t8))] H K = _
  delta g5_p8
  exact (g5_p1_eq a16 a9 a10 a20 a21 a13 a18 a15 a22 a23 _ t1 t5 t7_0 t7_1 t8 H K).trans (congr (congrArg (g5_p1 a16 a9 a10 a20 a21 a13 a18 a15 a22 a23 R t1 t5 t7_0 t7_1 t8 H) (funext fun t1 => funext fun t5 => funext fun t7_0 => funext fun t7_1 => funext fun t8 => funext fun H => g5_p7_eq a16 a9 a10 a20 a21 a13 a18 a15 a22 a23 la16 la9 la10 la20 la21 la13 la18 la15 la22 la23 t1 t5 t7_0 t7_1 t8 H K)) rfl)
abbrev g5_p9_S := Sl × (Option (Nat × Nat)) × Nat × Nat × Int
abbrev g5_p9_O := Sum (Unit) (Bool)
def g5_p9_es (s : g5_p9_S) : Fr := [(1, (V.sl s.1)), (5, (V.p s.2.1)), (7, (V.p (some (s.2.2.1, s.2.2.2.1)))), (8, (V.i .i64 s.2.2.2.2))]
def g5_p9_er : g5_p9_O → Ex × Fr
  | (.inl r) => ((.exit 0), [])
  | (.inr r) => (.ret, [(4, (V.b r))])
noncomputable def g5_p9_b (a16 : T16) (a9 : T9) (a10 : T10) (a20 : T20) (a21 : T21) (a13 : T13) (a18 : T18) (a15 : T15) (a22 : T22) (a23 : T23) (s : g5_p9_S) (H : Heap) : Option (Rd g5_p9_S g5_p9_O × Heap) :=
  g5_p8 a16 a9 a10 a20 a21 a13 a18 a15 a22 a23 _ s.1 s.2.1 s.2.2.1 s.2.2.2.1 s.2.2.2.2 H (fun t1 t5 t7_0 t7_1 t8 H => some (.go (t1, t5, t7_0, t7_1, t8), H)) (fun H => some (.up (.inl ()), H)) (fun t4 H => some (.up (.inr t4), H))
noncomputable def g5_p9 (a16 : T16) (a9 : T9) (a10 : T10) (a20 : T20) (a21 : T21) (a13 : T13) (a18 : T18) (a15 : T15) (a22 : T22) (a23 : T23) (R : Type) (t1 : Sl) (t5 : Option (Nat × Nat)) (t7_0 : Nat) (t7_1 : Nat) (t8 : Int) (H : Heap) (kE0 : Heap → Option R) (kR : Bool → Heap → Option R) : Option R :=
  (tlim (g5_p9_b a16 a9 a10 a20 a21 a13 a18 a15 a22 a23) (t1, t5, t7_0, t7_1, t8) H).bind fun p => cas p.1 (fun r => kE0  p.2) (fun r0 => kR r0 p.2)
theorem g5_p9_lin {a16 : T16} {a9 : T9} {a10 : T10} {a20 : T20} {a21 : T21} {a13 : T13} {a18 : T18} {a15 : T15} {a22 : T22} {a23 : T23} (la16 : Lin16 a16) (la9 : Lin9 a9) (la10 : Lin10 a10) (la20 : Lin20 a20) (la21 : Lin21 a21) (la13 : Lin13 a13) (la18 : Lin18 a18) (la15 : Lin15 a15) (la22 : Lin22 a22) (la23 : Lin23 a23) {R S : Type} {k : S → Option R} {t1 : Sl} {t5 : Option (Nat × Nat)} {t7_0 : Nat} {t7_1 : Nat} {t8 : Int} {H : Heap} {fkE0 : Heap → Option R} {gkE0 : Heap → Option S} {fkR : Bool → Heap → Option R} {gkR : Bool → Heap → Option S} (hkE0 : ∀ H, fkE0 H = (gkE0 H).bind k) (hkR : ∀ t4 H, fkR t4 H = (gkR t4 H).bind k) : g5_p9 a16 a9 a10 a20 a21 a13 a18 a15 a22 a23 R t1 t5 t7_0 t7_1 t8 H fkE0 fkR = (g5_p9 a16 a9 a10 a20 a21 a13 a18 a15 a22 a23 S t1 t5 t7_0 t7_1 t8 H gkE0 gkR).bind k := by
  exact bl fun p => cas_lin (fun _ => hkE0 _) (fun _ => hkR _ _)
theorem g5_p9_eq (a16 : T16) (a9 : T9) (a10 : T10) (a20 : T20) (a21 : T21) (a13 : T13) (a18 : T18) (a15 : T15) (a22 : T22) (a23 : T23) (la16 : Lin16 a16) (la9 : Lin9 a9) (la10 : Lin10 a10) (la20 : Lin20 a20) (la21 : Lin21 a21) (la13 : Lin13 a13) (la18 : Lin18 a18) (la15 : Lin15 a15) (la22 : Lin22 a22) (la23 : Lin23 a23) {R : Type} (t1 : Sl) (t5 : Option (Nat × Nat)) (t7_0 : Nat) (t7_1 : Nat) (t8 : Int) (H : Heap) (K : Ex → Fr → Heap → Option R) : ev Try.prog (E5 a16 a9 a10 a20 a21 a13 a18 a15 a22 a23) loopLim Try.f5.ntmps kp5 c5_6 [(1, (V.sl t1)), (5, (V.p t5)), (7, (V.p (some (t7_0, t7_1)))), (8, (V.i .i64 t8))] H K = g5_p9 a16 a9 a10 a20 a21 a13 a18 a15 a22 a23 R t1 t5 t7_0 t7_1 t8 H (fun H => K (.exit 0) [] H) (fun t4 H => K .ret [(4, (V.b t4))] H) := by
  show ev Try.prog (E5 a16 a9 a10 a20 a21 a13 a18 a15 a22 a23) loopLim Try.f5.ntmps kp5 (.loop c5_5) [(1, (V.sl t1)), (5, (V.p t5)), (7, (V.p (some (t7_0, t7_1)))), (8, (V.i .i64 t8))] H K = _
  delta g5_p9
  refine (ev_tlim (b := g5_p9_b a16 a9 a10 a20 a21 a13 a18 a15 a22 a23) (es := g5_p9_es) (er := g5_p9_er) (by rintro (r | r) <;> exact nofun) (fun s H => ?_) (t1, t5, t7_0, t7_1, t8) H K).trans (bc fun p => by rcases p with ⟨(r | r), H⟩ <;> rfl)
  exact (g5_p8_eq a16 a9 a10 a20 a21 a13 a18 a15 a22 a23 la16 la9 la10 la20 la21 la13 la18 la15 la22 la23 s.1 s.2.1 s.2.2.1 s.2.2.2.1 s.2.2.2.2 H ret3).trans (g5_p8_lin la16 la9 la10 la20 la21 la13 la18 la15 la22 la23 (fun _ _ _ _ _ _ => rfl) (fun _ => rfl) (fun _ _ => rfl))
noncomputable def g5_p10 (a16 : T16) (a9 : T9) (a10 : T10) (a20 : T20) (a21 : T21) (a13 : T13) (a18 : T18) (a15 : T15) (a22 : T22) (a23 : T23) (R : Type) (t1 : Sl) (t5 : Option (Nat × Nat)) (t7_0 : Nat) (t7_1 : Nat) (t8 : Int) (H : Heap) (kN : Heap → Option R) (kR : Bool → Heap → Option R) : Option R :=
  g5_p9 a16 a9 a10 a20 a21 a13 a18 a15 a22 a23 R t1 t5 t7_0 t7_1 t8 H (fun H => kN  H) (fun t4 H => kR t4 H)
theorem g5_p10_lin {a16 : T16} {a9 : T9} {a10 : T10} {a20 : T20} {a21 : T21} {a13 : T13} {a18 : T18} {a15 : T15} {a22 : T22} {a23 : T23} (la16 : Lin16 a16) (la9 : Lin9 a9) (la10 : Lin10 a10) (la20 : Lin20 a20) (la21 : Lin21 a21) (la13 : Lin13 a13) (la18 : Lin18 a18) (la15 : Lin15 a15) (la22 : Lin22 a22) (la23 : Lin23 a23) {R S : Type} {k : S → Option R} {t1 : Sl} {t5 : Option (Nat × Nat)} {t7_0 : Nat} {t7_1 : Nat} {t8 : Int} {H : Heap} {fkN : Heap → Option R} {gkN : Heap → Option S} {fkR : Bool → Heap → Option R} {gkR : Bool → Heap → Option S} (hkN : ∀ H, fkN H = (gkN H).bind k) (hkR : ∀ t4 H, fkR t4 H = (gkR t4 H).bind k) : g5_p10 a16 a9 a10 a20 a21 a13 a18 a15 a22 a23 R t1 t5 t7_0 t7_1 t8 H fkN fkR = (g5_p10 a16 a9 a10 a20 a21 a13 a18 a15 a22 a23 S t1 t5 t7_0 t7_1 t8 H gkN gkR).bind k := by
  exact g5_p9_lin la16 la9 la10 la20 la21 la13 la18 la15 la22 la23 (fun _ => hkN _) (fun _ _ => hkR _ _)
theorem g5_p10_eq (a16 : T16) (a9 : T9) (a10 : T10) (a20 : T20) (a21 : T21) (a13 : T13) (a18 : T18) (a15 : T15) (a22 : T22) (a23 : T23) (la16 : Lin16 a16) (la9 : Lin9 a9) (la10 : Lin10 a10) (la20 : Lin20 a20) (la21 : Lin21 a21) (la13 : Lin13 a13) (la18 : Lin18 a18) (la15 : Lin15 a15) (la22 : Lin22 a22) (la23 : Lin23 a23) {R : Type} (t1 : Sl) (t5 : Option (Nat × Nat)) (t7_0 : Nat) (t7_1 : Nat) (t8 : Int) (H : Heap) (K : Ex → Fr → Heap → Option R) : ev Try.prog (E5 a16 a9 a10 a20 a21 a13 a18 a15 a22 a23) loopLim Try.f5.ntmps kp5 c5_7 [(1, (V.sl t1)), (5, (V.p t5)), (7, (V.p (some (t7_0, t7_1)))), (8, (V.i .i64 t8))] H K = g5_p10 a16 a9 a10 a20 a21 a13 a18 a15 a22 a23 R t1 t5 t7_0 t7_1 t8 H (fun H => K .normal [] H) (fun t4 H => K .ret [(4, (V.b t4))] H) := by
  show ev Try.prog (E5 a16 a9 a10 a20 a21 a13 a18 a15 a22 a23) loopLim Try.f5.ntmps kp5 (.block 0 c5_6) [(1, (V.sl t1)), (5, (V.p t5)), (7, (V.p (some (t7_0, t7_1)))), (8, (V.i .i64 t8))] H K = _
  rw [ev_block]
  delta g5_p10
  exact (g5_p9_eq a16 a9 a10 a20 a21 a13 a18 a15 a22 a23 la16 la9 la10 la20 la21 la13 la18 la15 la22 la23 t1 t5 t7_0 t7_1 t8 H (kBlock kp5 0 K))
noncomputable def g5_p11 (a16 : T16) (a9 : T9) (a10 : T10) (a20 : T20) (a21 : T21) (a13 : T13) (a18 : T18) (a15 : T15) (a22 : T22) (a23 : T23) (R : Type) (H : Heap) (kR : Bool → Heap → Option R) : Option R :=
  a16 R H fun x595 h596 =>
  kR x595 h596
theorem g5_p11_eq (a16 : T16) (a9 : T9) (a10 : T10) (a20 : T20) (a21 : T21) (a13 : T13) (a18 : T18) (a15 : T15) (a22 : T22) (a23 : T23) (la16 : Lin16 a16) (la9 : Lin9 a9) (la10 : Lin10 a10) (la20 : Lin20 a20) (la21 : Lin21 a21) (la13 : Lin13 a13) (la18 : Lin18 a18) (la15 : Lin15 a15) (la22 : Lin22 a22) (la23 : Lin23 a23) {R : Type} (H : Heap) (K : Ex → Fr → Heap → Option R) : ev Try.prog (E5 a16 a9 a10 a20 a21 a13 a18 a15 a22 a23) loopLim Try.f5.ntmps kp5 c5_8 [] H K = g5_p11 a16 a9 a10 a20 a21 a13 a18 a15 a22 a23 R H (fun t4 H => K .ret [(4, (V.b t4))] H) := by kernel_rfl
theorem g5_p11_lin {a16 : T16} {a9 : T9} {a10 : T10} {a20 : T20} {a21 : T21} {a13 : T13} {a18 : T18} {a15 : T15} {a22 : T22} {a23 : T23} (la16 : Lin16 a16) (la9 : Lin9 a9) (la10 : Lin10 a10) (la20 : Lin20 a20) (la21 : Lin21 a21) (la13 : Lin13 a13) (la18 : Lin18 a18) (la15 : Lin15 a15) (la22 : Lin22 a22) (la23 : Lin23 a23) {R S : Type} {k : S → Option R} {H : Heap} {fkR : Bool → Heap → Option R} {gkR : Bool → Heap → Option S} (hkR : ∀ t4 H, fkR t4 H = (gkR t4 H).bind k) : g5_p11 a16 a9 a10 a20 a21 a13 a18 a15 a22 a23 R H fkR = (g5_p11 a16 a9 a10 a20 a21 a13 a18 a15 a22 a23 S H gkR).bind k := by
  delta g5_p11; exact (
    la16.l fun x595 h596 =>
    hkR _ _)
noncomputable def g5_p12 (a16 : T16) (a9 : T9) (a10 : T10) (a20 : T20) (a21 : T21) (a13 : T13) (a18 : T18) (a15 : T15) (a22 : T22) (a23 : T23) (R : Type) (t1 : Sl) (t5 : Option (Nat × Nat)) (t7_0 : Nat) (t7_1 : Nat) (t8 : Int) (H : Heap) (kR : Bool → Heap → Option R) : Option R :=
  g5_p10 a16 a9 a10 a20 a21 a13 a18 a15 a22 a23 R t1 t5 t7_0 t7_1 t8 H (fun H => g5_p11 a16 a9 a10 a20 a21 a13 a18 a15 a22 a23 R H (fun t4 H => kR t4 H)) (fun t4 H => kR t4 H)
theorem g5_p12_lin {a16 : T16} {a9 : T9} {a10 : T10} {a20 : T20} {a21 : T21} {a13 : T13} {a18 : T18} {a15 : T15} {a22 : T22} {a23 : T23} (la16 : Lin16 a16) (la9 : Lin9 a9) (la10 : Lin10 a10) (la20 : Lin20 a20) (la21 : Lin21 a21) (la13 : Lin13 a13) (la18 : Lin18 a18) (la15 : Lin15 a15) (la22 : Lin22 a22) (la23 : Lin23 a23) {R S : Type} {k : S → Option R} {t1 : Sl} {t5 : Option (Nat × Nat)} {t7_0 : Nat} {t7_1 : Nat} {t8 : Int} {H : Heap} {fkR : Bool → Heap → Option R} {gkR : Bool → Heap → Option S} (hkR : ∀ t4 H, fkR t4 H = (gkR t4 H).bind k) : g5_p12 a16 a9 a10 a20 a21 a13 a18 a15 a22 a23 R t1 t5 t7_0 t7_1 t8 H fkR = (g5_p12 a16 a9 a10 a20 a21 a13 a18 a15 a22 a23 S t1 t5 t7_0 t7_1 t8 H gkR).bind k := by
  exact g5_p10_lin la16 la9 la10 la20 la21 la13 la18 la15 la22 la23 (fun _ => g5_p11_lin la16 la9 la10 la20 la21 la13 la18 la15 la22 la23 (fun _ _ => hkR _ _)) (fun _ _ => hkR _ _)
theorem g5_p12_eq (a16 : T16) (a9 : T9) (a10 : T10) (a20 : T20) (a21 : T21) (a13 : T13) (a18 : T18) (a15 : T15) (a22 : T22) (a23 : T23) (la16 : Lin16 a16) (la9 : Lin9 a9) (la10 : Lin10 a10) (la20 : Lin20 a20) (la21 : Lin21 a21) (la13 : Lin13 a13) (la18 : Lin18 a18) (la15 : Lin15 a15) (la22 : Lin22 a22) (la23 : Lin23 a23) {R : Type} (t1 : Sl) (t5 : Option (Nat × Nat)) (t7_0 : Nat) (t7_1 : Nat) (t8 : Int) (H : Heap) (K : Ex → Fr → Heap → Option R) : ev Try.prog (E5 a16 a9 a10 a20 a21 a13 a18 a15 a22 a23) loopLim Try.f5.ntmps kp5 c5_9 [(1, (V.sl t1)), (5, (V.p t5)), (7, (V.p (some (t7_0, t7_1)))), (8, (V.i .i64 t8))] H K = g5_p12 a16 a9 a10 a20 a21 a13 a18 a15 a22 a23 R t1 t5 t7_0 t7_1 t8 H (fun t4 H => K .ret [(4, (V.b t4))] H) := by
  show ev Try.prog (E5 a16 a9 a10 a20 a21 a13 a18 a15 a22 a23) loopLim Try.f5.ntmps kp5 (.seq c5_7 c5_8) [(1, (V.sl t1)), (5, (V.p t5)), (7, (V.p (some (t7_0, t7_1)))), (8, (V.i .i64 t8))] H K = _
  rw [ev_seq]
  delta g5_p12
  exact (g5_p10_eq a16 a9 a10 a20 a21 a13 a18 a15 a22 a23 la16 la9 la10 la20 la21 la13 la18 la15 la22 la23 t1 t5 t7_0 t7_1 t8 H (kSeq (fun fr H => ev Try.prog (E5 a16 a9 a10 a20 a21 a13 a18 a15 a22 a23) loopLim Try.f5.ntmps kp5 c5_8 fr H K) K)).trans (congr (congrArg (g5_p10 a16 a9 a10 a20 a21 a13 a18 a15 a22 a23 R t1 t5 t7_0 t7_1 t8 H) (funext fun H => (kSeq_n _ _ _ _).trans (g5_p11_eq a16 a9 a10 a20 a21 a13 a18 a15 a22 a23 la16 la9 la10 la20 la21 la13 la18 la15 la22 la23 H K))) rfl)
noncomputable def g5_p13 (a16 : T16) (a9 : T9) (a10 : T10) (a20 : T20) (a21 : T21) (a13 : T13) (a18 : T18) (a15 : T15) (a22 : T22) (a23 : T23) (R : Type) (t0_0 : Int) (t0_1 : Int) (t0_2 : Int) (t0_3 : Int) (t0_4 : Int) (t0_5 : Int) (t0_6 : Int) (t1 : Sl) (H : Heap) (kR : Bool → Heap → Option R) : Option R :=
  g5_p0 a16 a9 a10 a20 a21 a13 a18 a15 a22 a23 R t0_0 t0_1 t0_2 t0_3 t0_4 t0_5 t0_6 t1 H (fun t1 t5 t7_0 t7_1 t8 H => g5_p12 a16 a9 a10 a20 a21 a13 a18 a15 a22 a23 R t1 t5 t7_0 t7_1 t8 H (fun t4 H => kR t4 H)) (fun t4 H => kR t4 H)
theorem g5_p13_lin {a16 : T16} {a9 : T9} {a10 : T10} {a20 : T20} {a21 : T21} {a13 : T13} {a18 : T18} {a15 : T15} {a22 : T22} {a23 : T23} (la16 : Lin16 a16) (la9 : Lin9 a9) (la10 : Lin10 a10) (la20 : Lin20 a20) (la21 : Lin21 a21) (la13 : Lin13 a13) (la18 : Lin18 a18) (la15 : Lin15 a15) (la22 : Lin22 a22) (la23 : Lin23 a23) {R S : Type} {k : S → Option R} {t0_0 : Int} {t0_1 : Int} {t0_2 : Int} {t0_3 : Int} {t0_4 : Int} {t0_5 : Int} {t0_6 : Int} {t1 : Sl} {H : Heap} {fkR : Bool → Heap → Option R} {gkR : Bool → Heap → Option S} (hkR : ∀ t4 H, fkR t4 H = (gkR t4 H).bind k) : g5_p13 a16 a9 a10 a20 a21 a13 a18 a15 a22 a23 R t0_0 t0_1 t0_2 t0_3 t0_4 t0_5 t0_6 t1 H fkR = (g5_p13 a16 a9 a10 a20 a21 a13 a18 a15 a22 a23 S t0_0 t0_1 t0_2 t0_3 t0_4 t0_5 t0_6 t1 H gkR).bind k := by
  exact g5_p0_lin la16 la9 la10 la20 la21 la13 la18 la15 la22 la23 (fun _ _ _ _ _ _ => g5_p12_lin la16 la9 la10 la20 la21 la13 la18 la15 la22 la23 (fun _ _ => hkR _ _)) (fun _ _ => hkR _ _)
theorem g5_p13_eq (a16 : T16) (a9 : T9) (a10 : T10) (a20 : T20) (a21 : T21) (a13 : T13) (a18 : T18) (a15 : T15) (a22 : T22) (a23 : T23) (la16 : Lin16 a16) (la9 : Lin9 a9) (la10 : Lin10 a10) (la20 : Lin20 a20) (la21 : Lin21 a21) (la13 : Lin13 a13) (la18 : Lin18 a18) (la15 : Lin15 a15) (la22 : Lin22 a22) (la23 : Lin23 a23) {R : Type} (t0_0 : Int) (t0_1 : Int) (t0_2 : Int) (t0_3 : Int) (t0_4 : Int) (t0_5 : Int) (t0_6 : Int) (t1 : Sl) (H : Heap) (K : Ex → Fr → Heap → Option R) : ev Try.prog (E5 a16 a9 a10 a20 a21 a13 a18 a15 a22 a23) loopLim Try.f5.ntmps kp5 c5_10 [(0, (V.agg [(V.i .u8 t0_0), (V.i .u8 t0_1), (V.i .u8 t0_2), (V.i .u8 t0_3), (V.i .u8 t0_4), (V.i .u8 t0_5), (V.i .u8 t0_6)])), (1, (V.sl t1))] H K = g5_p13 a16 a9 a10 a20 a21 a13 a18 a15 a22 a23 R t0_0 t0_1 t0_2 t0_3 t0_4 t0_5 t0_6 t1 H (fun t4 H => K .ret [(4, (V.b t4))] H) := by
  show ev Try.prog (E5 a16 a9 a10 a20 a21 a13 a18 a15 a22 a23) loopLim Try.f5.ntmps kp5 (.seq (codeAt [0] b5) (.seq (codeAt [1, 0, 0] b5) (.seq (.cond (.tmp 12) (.seq (codeAt [1, 0, 1, 0, 0] b5) .ret) .skip) (.seq (codeAt [1, 1, 0] b5) (.seq (codeAt [1, 1, 1, 0, 0] b5) (.seq (.cond (.tmp 25) (.seq (codeAt [1, 1, 1, 0, 1, 0, 0] b5) .ret) .skip) (.seq (codeAt [1, 1, 1, 1, 0] b5) (.seq (codeAt [1, 1, 1, 1, 1, 0, 0] b5) c5_9)))))))) [(0, (V.agg [(V.i .u8 t0_0), (V.i .u8 t0_1), (V.i .u8 t0_2), (V.i .u8 t0_3), (V.i .u8 t0_4), (V.i .u8 t0_5), (V.i .u8 t0_6)])), (1, (V.sl t1))] H K = _
  delta g5_p13
  exact (g5_p0_eq a16 a9 a10 a20 a21 a13 a18 a15 a22 a23 _ t0_0 t0_1 t0_2 t0_3 t0_4 t0_5 t0_6 t1 H K).trans (congr (congrArg (g5_p0 a16 a9 a10 a20 a21 a13 a18 a15 a22 a23 R t0_0 t0_1 t0_2 t0_3 t0_4 t0_5 t0_6 t1 H) (funext fun t1 => funext fun t5 => funext fun t7_0 => funext fun t7_1 => funext fun t8 => funext fun H => g5_p12_eq a16 a9 a10 a20 a21 a13 a18 a15 a22 a23 la16 la9 la10 la20 la21 la13 la18 la15 la22 la23 t1 t5 t7_0 t7_1 t8 H K)) rfl)
noncomputable def g5_r (a16 : T16) (a9 : T9) (a10 : T10) (a20 : T20) (a21 : T21) (a13 : T13) (a18 : T18) (a15 : T15) (a22 : T22) (a23 : T23) : T5 := fun R t0_0 t0_1 t0_2 t0_3 t0_4 t0_5 t0_6 t1 H K =>
  g5_p13 a16 a9 a10 a20 a21 a13 a18 a15 a22 a23 R t0_0 t0_1 t0_2 t0_3 t0_4 t0_5 t0_6 t1 H (fun t4 H =>
    K t4 H)
theorem g5_r_lin {a16 : T16} {a9 : T9} {a10 : T10} {a20 : T20} {a21 : T21} {a13 : T13} {a18 : T18} {a15 : T15} {a22 : T22} {a23 : T23} (la16 : Lin16 a16) (la9 : Lin9 a9) (la10 : Lin10 a10) (la20 : Lin20 a20) (la21 : Lin21 a21) (la13 : Lin13 a13) (la18 : Lin18 a18) (la15 : Lin15 a15) (la22 : Lin22 a22) (la23 : Lin23 a23) : Lin5 (g5_r a16 a9 a10 a20 a21 a13 a18 a15 a22 a23) := by
  constructor
  intro R S k t0_0 t0_1 t0_2 t0_3 t0_4 t0_5 t0_6 t1 H f g h
  exact g5_p13_lin la16 la9 la10 la20 la21 la13 la18 la15 la22 la23 (fun t4 H =>
    h _ _)
theorem g5_fn (a16 : T16) (a9 : T9) (a10 : T10) (a20 : T20) (a21 : T21) (a13 : T13) (a18 : T18) (a15 : T15) (a22 : T22) (a23 : T23) (la16 : Lin16 a16) (la9 : Lin9 a9) (la10 : Lin10 a10) (la20 : Lin20 a20) (la21 : Lin21 a21) (la13 : Lin13 a13) (la18 : Lin18 a18) (la15 : Lin15 a15) (la22 : Lin22 a22) (la23 : Lin23 a23) {R : Type} (t0_0 : Int) (t0_1 : Int) (t0_2 : Int) (t0_3 : Int) (t0_4 : Int) (t0_5 : Int) (t0_6 : Int) (t1 : Sl) (H : Heap) (K : V → Heap → Option R) : evFn Try.prog (E5 a16 a9 a10 a20 a21 a13 a18 a15 a22 a23) loopLim Try.f5 kp5 [(V.agg [(V.i .u8 t0_0), (V.i .u8 t0_1), (V.i .u8 t0_2), (V.i .u8 t0_3), (V.i .u8 t0_4), (V.i .u8 t0_5), (V.i .u8 t0_6)]), (V.sl t1)] H K = g5_r a16 a9 a10 a20 a21 a13 a18 a15 a22 a23 R t0_0 t0_1 t0_2 t0_3 t0_4 t0_5 t0_6 t1 H (fun r0 H => K (V.b r0) H) := by
  have h0 : ∀ (t4 : Bool) (H : Heap), kFn Try.prog Try.f5.results.toList K .ret [(4, (V.b t4))] H =
      K (V.b t4) H := by intros; kernel_rfl
  have e0 := evFn_code2 (P := Try.prog) (c := c5_10) (E := (E5 a16 a9 a10 a20 a21 a13 a18 a15 a22 a23)) (lr := loopLim) (kp := kp5) (fn := Try.f5) (args := [(V.agg [(V.i .u8 t0_0), (V.i .u8 t0_1), (V.i .u8 t0_2), (V.i .u8 t0_3), (V.i .u8 t0_4), (V.i .u8 t0_5), (V.i .u8 t0_6)]), (V.sl t1)]) H K (by kernel_rfl) (Nat.le_of_ble_eq_true (by kernel_rfl)) (by kernel_rfl)
  have e1 : ev Try.prog (E5 a16 a9 a10 a20 a21 a13 a18 a15 a22 a23) loopLim Try.f5.ntmps kp5 c5_10 (argFr 0 [(V.agg [(V.i .u8 t0_0), (V.i .u8 t0_1), (V.i .u8 t0_2), (V.i .u8 t0_3), (V.i .u8 t0_4), (V.i .u8 t0_5), (V.i .u8 t0_6)]), (V.sl t1)]) H (kFn Try.prog Try.f5.results.toList K) = ev Try.prog (E5 a16 a9 a10 a20 a21 a13 a18 a15 a22 a23) loopLim Try.f5.ntmps kp5 c5_10 [(0, (V.agg [(V.i .u8 t0_0), (V.i .u8 t0_1), (V.i .u8 t0_2), (V.i .u8 t0_3), (V.i .u8 t0_4), (V.i .u8 t0_5), (V.i .u8 t0_6)])), (1, (V.sl t1))] H (kFn Try.prog Try.f5.results.toList K) := by kernel_rfl
  refine (e0.trans e1).trans ?_
  delta g5_r
  exact (g5_p13_eq a16 a9 a10 a20 a21 a13 a18 a15 a22 a23 la16 la9 la10 la20 la21 la13 la18 la15 la22 la23 t0_0 t0_1 t0_2 t0_3 t0_4 t0_5 t0_6 t1 H (kFn Try.prog Try.f5.results.toList K)).trans (congrArg (g5_p13 a16 a9 a10 a20 a21 a13 a18 a15 a22 a23 R t0_0 t0_1 t0_2 t0_3 t0_4 t0_5 t0_6 t1 H) (funext fun t4 => funext fun H => h0 t4 H))
theorem g5_ok {a16 : T16} {a9 : T9} {a10 : T10} {a20 : T20} {a21 : T21} {a13 : T13} {a18 : T18} {a15 : T15} {a22 : T22} {a23 : T23} (oa16 : FunOK Try.prog 16 (w16 a16)) (oa9 : FunOK Try.prog 9 (w9 a9)) (oa10 : FunOK Try.prog 10 (w10 a10)) (oa20 : FunOK Try.prog 20 (w20 a20)) (oa21 : FunOK Try.prog 21 (w21 a21)) (oa13 : FunOK Try.prog 13 (w13 a13)) (oa18 : FunOK Try.prog 18 (w18 a18)) (oa15 : FunOK Try.prog 15 (w15 a15)) (oa22 : FunOK Try.prog 22 (w22 a22)) (oa23 : FunOK Try.prog 23 (w23 a23)) (la16 : Lin16 a16) (la9 : Lin9 a9) (la10 : Lin10 a10) (la20 : Lin20 a20) (la21 : Lin21 a21) (la13 : Lin13 a13) (la18 : Lin18 a18) (la15 : Lin15 a15) (la22 : Lin22 a22) (la23 : Lin23 a23) : FunOK Try.prog 5 (w5 (g5_r a16 a9 a10 a20 a21 a13 a18 a15 a22 a23)) := by
  refine (runF_ok (E5_good oa16 oa9 oa10 oa20 oa21 oa13 oa18 oa15 oa22 oa23 la16 la9 la10 la20 la21 la13 la18 la15 la22 la23) mixed lim_ok Try.func5 (by kernel_rfl) kp5).of_le fun R args H K r hk => ?_
  unfold w5 at hk
  split at hk
  · exact (g5_fn a16 a9 a10 a20 a21 a13 a18 a15 a22 a23 la16 la9 la10 la20 la21 la13 la18 la15 la22 la23 _ _ _ _ _ _ _ _ H K).trans hk
  · cases hk
end Go.Proofs.Ytkldpkemnmmbgaa

