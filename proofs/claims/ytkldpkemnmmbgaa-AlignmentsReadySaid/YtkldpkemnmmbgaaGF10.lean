/- Printed: functions as the machine runs them. -/
import Derived.Test.YtkldpkemnmmbgaaGT
namespace Go.Proofs.Ytkldpkemnmmbgaa
open Go AM Go.RowKit
set_option linter.unusedVariables false
def kp6 : Nat → Option (List Nat) := kpOf [(0, [1, 2]), (1, [1, 5]), (2, [1, 5, 6, 7]), (3, [1, 5, 6, 32]), (4, [4]), (5, [1, 5, 6, 8]), (6, [1, 5, 6, 8, 34]), (7, [1, 5, 6, 8]), (8, [1, 5, 6, 8, 44]), (9, [4]), (10, [1, 5, 6, 8, 9]), (11, [1, 5, 6, 8, 9, 48]), (12, [1, 5, 6, 8, 9]), (13, [1, 5, 6, 8, 9, 62]), (14, [4]), (15, [1, 5, 6, 8, 9, 72]), (16, [1, 5, 6, 8, 9]), (17, [1, 5, 6, 8, 9]), (18, [1, 5, 6, 8, 89]), (19, [4]), (20, [6]), (21, [4]), (100000, [6]), (100001, [1, 5, 6, 8]), (100002, [1, 5, 6, 8]), (100003, [1, 5, 6, 8, 9]), (200000, [1, 5, 6, 8]), (200001, [1, 5, 6, 8]), (200002, [1, 5, 6, 8, 9]), (200003, [1, 5, 6, 8, 9]), (300000, [4]), (400032, [1, 5, 6]), (400034, [1, 5, 6, 8]), (400044, [1, 5, 6, 8]), (400048, [1, 5, 6, 8, 9]), (400062, [1, 5, 6, 8, 9]), (400072, [1, 5, 6, 8, 9]), (400089, [1, 5, 6, 8])]
def E6 (a9 : T9) (a10 : T10) (a12 : T12) (a13 : T13) (a11 : T11) (a18 : T18) (a19 : T19) (a15 : T15) (a24 : T24) (a22 : T22) (a16 : T16) : FEnv := [(9, w9 a9), (10, w10 a10), (12, w12 a12), (13, w13 a13), (11, w11 a11), (18, w18 a18), (19, w19 a19), (15, w15 a15), (24, w24 a24), (22, w22 a22), (16, w16 a16)]
theorem E6_good {a9 : T9} {a10 : T10} {a12 : T12} {a13 : T13} {a11 : T11} {a18 : T18} {a19 : T19} {a15 : T15} {a24 : T24} {a22 : T22} {a16 : T16} (oa9 : FunOK Try.prog 9 (w9 a9)) (oa10 : FunOK Try.prog 10 (w10 a10)) (oa12 : FunOK Try.prog 12 (w12 a12)) (oa13 : FunOK Try.prog 13 (w13 a13)) (oa11 : FunOK Try.prog 11 (w11 a11)) (oa18 : FunOK Try.prog 18 (w18 a18)) (oa19 : FunOK Try.prog 19 (w19 a19)) (oa15 : FunOK Try.prog 15 (w15 a15)) (oa24 : FunOK Try.prog 24 (w24 a24)) (oa22 : FunOK Try.prog 22 (w22 a22)) (oa16 : FunOK Try.prog 16 (w16 a16)) (la9 : Lin9 a9) (la10 : Lin10 a10) (la12 : Lin12 a12) (la13 : Lin13 a13) (la11 : Lin11 a11) (la18 : Lin18 a18) (la19 : Lin19 a19) (la15 : Lin15 a15) (la24 : Lin24 a24) (la22 : Lin22 a22) (la16 : Lin16 a16) : EnvGood Try.prog (E6 a9 a10 a12 a13 a11 a18 a19 a15 a24 a22 a16) := ((((((((((((EnvGood.nil _).cons oa16 (w16_lin la16)).cons oa22 (w22_lin la22)).cons oa24 (w24_lin la24)).cons oa15 (w15_lin la15)).cons oa19 (w19_lin la19)).cons oa18 (w18_lin la18)).cons oa11 (w11_lin la11)).cons oa13 (w13_lin la13)).cons oa12 (w12_lin la12)).cons oa10 (w10_lin la10)).cons oa9 (w9_lin la9))
theorem E6_lin {a9 : T9} {a10 : T10} {a12 : T12} {a13 : T13} {a11 : T11} {a18 : T18} {a19 : T19} {a15 : T15} {a24 : T24} {a22 : T22} {a16 : T16} (la9 : Lin9 a9) (la10 : Lin10 a10) (la12 : Lin12 a12) (la13 : Lin13 a13) (la11 : Lin11 a11) (la18 : Lin18 a18) (la19 : Lin19 a19) (la15 : Lin15 a15) (la24 : Lin24 a24) (la22 : Lin22 a22) (la16 : Lin16 a16) : EnvLin (E6 a9 a10 a12 a13 a11 a18 a19 a15 a24 a22 a16) := by
  intro g F h
  simp only [E6, List.mem_cons, List.not_mem_nil, or_false] at h
  rcases h with h | h | h | h | h | h | h | h | h | h | h
  · cases h; exact w9_lin la9
  · cases h; exact w10_lin la10
  · cases h; exact w12_lin la12
  · cases h; exact w13_lin la13
  · cases h; exact w11_lin la11
  · cases h; exact w18_lin la18
  · cases h; exact w19_lin la19
  · cases h; exact w15_lin la15
  · cases h; exact w24_lin la24
  · cases h; exact w22_lin la22
  · cases h; exact w16_lin la16
noncomputable def b6 : Code := Try.f6.body.getD .skip
noncomputable def c6_0 : Code := (.seq (codeAt [1, 1, 1, 1, 0, 1, 0, 0, 1, 0, 0, 1, 0, 1, 0, 0, 0, 0] b6) (.seq (.cond (.tmp 48) .skip (.exit 2)) (.seq (.block 3 (.seq (codeAt [1, 1, 1, 1, 0, 1, 0, 0, 1, 0, 0, 1, 0, 1, 0, 0, 1, 0, 0, 0, 0] b6) (.seq (.cond (.tmp 62) (.seq (codeAt [1, 1, 1, 1, 0, 1, 0, 0, 1, 0, 0, 1, 0, 1, 0, 0, 1, 0, 0, 0, 1, 0, 0] b6) .ret) .skip) (.seq (codeAt [1, 1, 1, 1, 0, 1, 0, 0, 1, 0, 0, 1, 0, 1, 0, 0, 1, 0, 0, 1, 0, 0] b6) (.seq (.cond (.tmp 72) (codeAt [1, 1, 1, 1, 0, 1, 0, 0, 1, 0, 0, 1, 0, 1, 0, 0, 1, 0, 0, 1, 0, 1, 0] b6) .skip) (codeAt [1, 1, 1, 1, 0, 1, 0, 0, 1, 0, 0, 1, 0, 1, 0, 0, 1, 0, 0, 1, 1] b6)))))) (codeAt [1, 1, 1, 1, 0, 1, 0, 0, 1, 0, 0, 1, 0, 1, 0, 0, 1, 1] b6))))
noncomputable def c6_1 : Code := (.loop c6_0)
noncomputable def c6_2 : Code := (.block 2 c6_1)
noncomputable def c6_3 : Code := (.seq (codeAt [1, 1, 1, 1, 0, 1, 0, 0, 1, 0, 0, 1, 1, 0] b6) (.cond (.tmp 89) (.seq (codeAt [1, 1, 1, 1, 0, 1, 0, 0, 1, 0, 0, 1, 1, 1, 0, 0] b6) .ret) .skip))
noncomputable def c6_4 : Code := (.seq c6_2 c6_3)
noncomputable def c6_5 : Code := (.seq (codeAt [1, 1, 1, 1, 0, 1, 0, 0, 1, 0, 0, 0, 0] b6) (.seq (.cond (.tmp 44) (.seq (codeAt [1, 1, 1, 1, 0, 1, 0, 0, 1, 0, 0, 0, 1, 0, 0] b6) .ret) .skip) (.seq (codeAt [1, 1, 1, 1, 0, 1, 0, 0, 1, 0, 0, 1, 0, 0] b6) c6_4)))
noncomputable def c6_6 : Code := (.block 1 c6_5)
noncomputable def c6_7 : Code := (codeAt [1, 1, 1, 1, 0, 1, 0, 0, 1, 1] b6)
noncomputable def c6_8 : Code := (.seq c6_6 c6_7)
noncomputable def c6_9 : Code := (.seq (codeAt [1, 1, 1, 1, 0, 1, 0, 0, 0, 0] b6) (.seq (.cond (.tmp 34) .skip (.exit 0)) c6_8))
noncomputable def c6_10 : Code := (.loop c6_9)
noncomputable def c6_11 : Code := (.block 0 c6_10)
noncomputable def c6_12 : Code := (.seq (codeAt [1, 1, 1, 1, 1, 0] b6) (.seq (codeAt [1, 1, 1, 1, 1, 1, 0] b6) .ret))
noncomputable def c6_13 : Code := (.seq c6_11 c6_12)
noncomputable def c6_14 : Code := (.seq (.cond (.tmp 32) (.seq (codeAt [1, 1, 1, 0, 1, 0, 0] b6) .ret) .skip) (.seq (codeAt [1, 1, 1, 1, 0, 0] b6) c6_13))
noncomputable def c6_15 : Code := (.seq (codeAt [0] b6) (.seq (codeAt [1, 0] b6) (.seq (codeAt [1, 1, 0] b6) (.seq (codeAt [1, 1, 1, 0, 0] b6) c6_14))))
noncomputable def g6_p0 (a9 : T9) (a10 : T10) (a12 : T12) (a13 : T13) (a11 : T11) (a18 : T18) (a19 : T19) (a15 : T15) (a24 : T24) (a22 : T22) (a16 : T16) (R : Type) (t0_0 : Int) (t0_1 : Int) (t0_2 : Int) (t0_3 : Int) (t0_4 : Int) (t0_5 : Int) (t0_6 : Int) (t1 : Sl) (H : Heap) (kN : Sl → Nat → Nat → Option (Nat × Nat) → Bool → Heap → Option R) : Option R :=
  alo H (.cells [(V.i .u8 t0_0), (V.i .u8 t0_1), (V.i .u8 t0_2), (V.i .u8 t0_3), (V.i .u8 t0_4), (V.i .u8 t0_5), (V.i .u8 t0_6)] 23 false) fun i53 h54 =>
  ((h54).ldI .u8 i53 (0 + 0)).bind fun x55 =>
  ((h54).ldI .u8 i53 (0 + 1)).bind fun x56 =>
  ((h54).ldI .u8 i53 (0 + 2)).bind fun x57 =>
  ((h54).ldI .u8 i53 (0 + 3)).bind fun x58 =>
  ((h54).ldI .u8 i53 (0 + 4)).bind fun x59 =>
  ((h54).ldI .u8 i53 (0 + 5)).bind fun x60 =>
  ((h54).ldI .u8 i53 (0 + 6)).bind fun x61 =>
  a9 R x55 x56 x57 x58 x59 x60 x61 h54 fun x62 x63 x64 x65 x66 x67 x68 h69 =>
  alo h69 (.cells [(V.i .i64 (0 : Int)), (V.i .i64 (0 : Int)), (V.i .i64 (0 : Int)), (V.i .i64 (0 : Int)), (V.i .i64 (0 : Int)), (V.i .i64 (0 : Int)), (V.i .i64 (0 : Int))] 28 false) fun i70 h71 =>
  ((h71).sts i70 0 [(V.i .i64 x62), (V.i .i64 x63), (V.i .i64 x64), (V.i .i64 x65), (V.i .i64 x66), (V.i .i64 x67), (V.i .i64 x68)]).bind fun h72 =>
  ((h72).ldI .i64 i70 (0 + 0)).bind fun x73 =>
  ((h72).ldI .i64 i70 (0 + 1)).bind fun x74 =>
  ((h72).ldI .i64 i70 (0 + 2)).bind fun x75 =>
  ((h72).ldI .i64 i70 (0 + 3)).bind fun x76 =>
  ((h72).ldI .i64 i70 (0 + 4)).bind fun x77 =>
  ((h72).ldI .i64 i70 (0 + 5)).bind fun x78 =>
  ((h72).ldI .i64 i70 (0 + 6)).bind fun x79 =>
  a10 R x73 x74 x75 x76 x77 x78 x79 h72 fun x80 x81 h82 =>
  sel (x81 != (0 : Int)) (
    kN t1 i70 0 x80 true h82) (
    sel (Option.isNone x80) (
      kN t1 i70 0 x80 true h82) (
      a12 R x80 h82 fun x83 h84 =>
      sel (x83 != (0 : Int)) (
        kN t1 i70 0 x80 true h84) (
        a13 R x80 h84 fun x85 h86 =>
        kN t1 i70 0 x80 (x85 != (0 : Int)) h86)))
theorem g6_p0_eq (a9 : T9) (a10 : T10) (a12 : T12) (a13 : T13) (a11 : T11) (a18 : T18) (a19 : T19) (a15 : T15) (a24 : T24) (a22 : T22) (a16 : T16) {R : Type} (c2 : Code) (t0_0 : Int) (t0_1 : Int) (t0_2 : Int) (t0_3 : Int) (t0_4 : Int) (t0_5 : Int) (t0_6 : Int) (t1 : Sl) (H : Heap) (K : Ex → Fr → Heap → Option R) : ev Try.prog (E6 a9 a10 a12 a13 a11 a18 a19 a15 a24 a22 a16) loopLim Try.f6.ntmps kp6 (.seq (codeAt [0] b6) (.seq (codeAt [1, 0] b6) (.seq (codeAt [1, 1, 0] b6) (.seq (codeAt [1, 1, 1, 0, 0] b6) c2)))) [(0, (V.agg [(V.i .u8 t0_0), (V.i .u8 t0_1), (V.i .u8 t0_2), (V.i .u8 t0_3), (V.i .u8 t0_4), (V.i .u8 t0_5), (V.i .u8 t0_6)])), (1, (V.sl t1))] H K = g6_p0 a9 a10 a12 a13 a11 a18 a19 a15 a24 a22 a16 R t0_0 t0_1 t0_2 t0_3 t0_4 t0_5 t0_6 t1 H (fun t1 t5_0 t5_1 t6 t32 H => ev Try.prog (E6 a9 a10 a12 a13 a11 a18 a19 a15 a24 a22 a16) loopLim Try.f6.ntmps kp6 c2 [(1, (V.sl t1)), (5, (V.p (some (t5_0, t5_1)))), (6, (V.p t6)), (32, (V.b t32))] H K) := by kernel_rfl
theorem g6_p0_lin {a9 : T9} {a10 : T10} {a12 : T12} {a13 : T13} {a11 : T11} {a18 : T18} {a19 : T19} {a15 : T15} {a24 : T24} {a22 : T22} {a16 : T16} (la9 : Lin9 a9) (la10 : Lin10 a10) (la12 : Lin12 a12) (la13 : Lin13 a13) (la11 : Lin11 a11) (la18 : Lin18 a18) (la19 : Lin19 a19) (la15 : Lin15 a15) (la24 : Lin24 a24) (la22 : Lin22 a22) (la16 : Lin16 a16) {R S : Type} {k : S → Option R} {t0_0 : Int} {t0_1 : Int} {t0_2 : Int} {t0_3 : Int} {t0_4 : Int} {t0_5 : Int} {t0_6 : Int} {t1 : Sl} {H : Heap} {fkN : Sl → Nat → Nat → Option (Nat × Nat) → Bool → Heap → Option R} {gkN : Sl → Nat → Nat → Option (Nat × Nat) → Bool → Heap → Option S} (hkN : ∀ t1 t5_0 t5_1 t6 t32 H, fkN t1 t5_0 t5_1 t6 t32 H = (gkN t1 t5_0 t5_1 t6 t32 H).bind k) : g6_p0 a9 a10 a12 a13 a11 a18 a19 a15 a24 a22 a16 R t0_0 t0_1 t0_2 t0_3 t0_4 t0_5 t0_6 t1 H fkN = (g6_p0 a9 a10 a12 a13 a11 a18 a19 a15 a24 a22 a16 S t0_0 t0_1 t0_2 t0_3 t0_4 t0_5 t0_6 t1 H gkN).bind k := by
  delta g6_p0; exact (
    alo_lin fun i53 h54 =>
    bl fun x55 =>
    bl fun x56 =>
    bl fun x57 =>
    bl fun x58 =>
    bl fun x59 =>
    bl fun x60 =>
    bl fun x61 =>
    la9.l fun x62 x63 x64 x65 x66 x67 x68 h69 =>
    alo_lin fun i70 h71 =>
    bl fun h72 =>
    bl fun x73 =>
    bl fun x74 =>
    bl fun x75 =>
    bl fun x76 =>
    bl fun x77 =>
    bl fun x78 =>
    bl fun x79 =>
    la10.l fun x80 x81 h82 =>
    sl_lin (
      hkN _ _ _ _ _ _) (
      sl_lin (
        hkN _ _ _ _ _ _) (
        la12.l fun x83 h84 =>
        sl_lin (
          hkN _ _ _ _ _ _) (
          la13.l fun x85 h86 =>
          hkN _ _ _ _ _ _))))
noncomputable def g6_p1 (a9 : T9) (a10 : T10) (a12 : T12) (a13 : T13) (a11 : T11) (a18 : T18) (a19 : T19) (a15 : T15) (a24 : T24) (a22 : T22) (a16 : T16) (R : Type) (t1 : Sl) (t5_0 : Nat) (t5_1 : Nat) (t6 : Option (Nat × Nat)) (t32 : Bool) (H : Heap) (kN : Sl → Nat → Nat → Option (Nat × Nat) → Int → Heap → Option R) (kR : Bool → Heap → Option R) : Option R :=
  sel t32 (
    kR false H) (
    kN t1 t5_0 t5_1 t6 (0 : Int) H)
theorem g6_p1_eq (a9 : T9) (a10 : T10) (a12 : T12) (a13 : T13) (a11 : T11) (a18 : T18) (a19 : T19) (a15 : T15) (a24 : T24) (a22 : T22) (a16 : T16) {R : Type} (c2 : Code) (t1 : Sl) (t5_0 : Nat) (t5_1 : Nat) (t6 : Option (Nat × Nat)) (t32 : Bool) (H : Heap) (K : Ex → Fr → Heap → Option R) : ev Try.prog (E6 a9 a10 a12 a13 a11 a18 a19 a15 a24 a22 a16) loopLim Try.f6.ntmps kp6 (.seq (.cond (.tmp 32) (.seq (codeAt [1, 1, 1, 0, 1, 0, 0] b6) .ret) .skip) (.seq (codeAt [1, 1, 1, 1, 0, 0] b6) c2)) [(1, (V.sl t1)), (5, (V.p (some (t5_0, t5_1)))), (6, (V.p t6)), (32, (V.b t32))] H K = g6_p1 a9 a10 a12 a13 a11 a18 a19 a15 a24 a22 a16 R t1 t5_0 t5_1 t6 t32 H (fun t1 t5_0 t5_1 t6 t8 H => ev Try.prog (E6 a9 a10 a12 a13 a11 a18 a19 a15 a24 a22 a16) loopLim Try.f6.ntmps kp6 c2 [(1, (V.sl t1)), (5, (V.p (some (t5_0, t5_1)))), (6, (V.p t6)), (8, (V.i .i64 t8))] H K) (fun t4 H => K .ret [(4, (V.b t4))] H) := by kernel_rfl
theorem g6_p1_lin {a9 : T9} {a10 : T10} {a12 : T12} {a13 : T13} {a11 : T11} {a18 : T18} {a19 : T19} {a15 : T15} {a24 : T24} {a22 : T22} {a16 : T16} (la9 : Lin9 a9) (la10 : Lin10 a10) (la12 : Lin12 a12) (la13 : Lin13 a13) (la11 : Lin11 a11) (la18 : Lin18 a18) (la19 : Lin19 a19) (la15 : Lin15 a15) (la24 : Lin24 a24) (la22 : Lin22 a22) (la16 : Lin16 a16) {R S : Type} {k : S → Option R} {t1 : Sl} {t5_0 : Nat} {t5_1 : Nat} {t6 : Option (Nat × Nat)} {t32 : Bool} {H : Heap} {fkN : Sl → Nat → Nat → Option (Nat × Nat) → Int → Heap → Option R} {gkN : Sl → Nat → Nat → Option (Nat × Nat) → Int → Heap → Option S} {fkR : Bool → Heap → Option R} {gkR : Bool → Heap → Option S} (hkN : ∀ t1 t5_0 t5_1 t6 t8 H, fkN t1 t5_0 t5_1 t6 t8 H = (gkN t1 t5_0 t5_1 t6 t8 H).bind k) (hkR : ∀ t4 H, fkR t4 H = (gkR t4 H).bind k) : g6_p1 a9 a10 a12 a13 a11 a18 a19 a15 a24 a22 a16 R t1 t5_0 t5_1 t6 t32 H fkN fkR = (g6_p1 a9 a10 a12 a13 a11 a18 a19 a15 a24 a22 a16 S t1 t5_0 t5_1 t6 t32 H gkN gkR).bind k := by
  delta g6_p1; exact (
    sl_lin (
      hkR _ _) (
      hkN _ _ _ _ _ _))
noncomputable def g6_p2 (a9 : T9) (a10 : T10) (a12 : T12) (a13 : T13) (a11 : T11) (a18 : T18) (a19 : T19) (a15 : T15) (a24 : T24) (a22 : T22) (a16 : T16) (R : Type) (t1 : Sl) (t5_0 : Nat) (t5_1 : Nat) (t6 : Option (Nat × Nat)) (t8 : Int) (H : Heap) (kN : Sl → Nat → Nat → Option (Nat × Nat) → Int → Heap → Option R) (kE0 : Option (Nat × Nat) → Heap → Option R) : Option R :=
  sel (decide (t8 < (2 : Int))) (
    kN t1 t5_0 t5_1 t6 t8 H) (
    kE0 t6 H)
theorem g6_p2_eq (a9 : T9) (a10 : T10) (a12 : T12) (a13 : T13) (a11 : T11) (a18 : T18) (a19 : T19) (a15 : T15) (a24 : T24) (a22 : T22) (a16 : T16) {R : Type} (c2 : Code) (t1 : Sl) (t5_0 : Nat) (t5_1 : Nat) (t6 : Option (Nat × Nat)) (t8 : Int) (H : Heap) (K : Ex → Fr → Heap → Option R) : ev Try.prog (E6 a9 a10 a12 a13 a11 a18 a19 a15 a24 a22 a16) loopLim Try.f6.ntmps kp6 (.seq (codeAt [1, 1, 1, 1, 0, 1, 0, 0, 0, 0] b6) (.seq (.cond (.tmp 34) .skip (.exit 0)) c2)) [(1, (V.sl t1)), (5, (V.p (some (t5_0, t5_1)))), (6, (V.p t6)), (8, (V.i .i64 t8))] H K = g6_p2 a9 a10 a12 a13 a11 a18 a19 a15 a24 a22 a16 R t1 t5_0 t5_1 t6 t8 H (fun t1 t5_0 t5_1 t6 t8 H => ev Try.prog (E6 a9 a10 a12 a13 a11 a18 a19 a15 a24 a22 a16) loopLim Try.f6.ntmps kp6 c2 [(1, (V.sl t1)), (5, (V.p (some (t5_0, t5_1)))), (6, (V.p t6)), (8, (V.i .i64 t8))] H K) (fun t6 H => K (.exit 0) [(6, (V.p t6))] H) := by kernel_rfl
theorem g6_p2_lin {a9 : T9} {a10 : T10} {a12 : T12} {a13 : T13} {a11 : T11} {a18 : T18} {a19 : T19} {a15 : T15} {a24 : T24} {a22 : T22} {a16 : T16} (la9 : Lin9 a9) (la10 : Lin10 a10) (la12 : Lin12 a12) (la13 : Lin13 a13) (la11 : Lin11 a11) (la18 : Lin18 a18) (la19 : Lin19 a19) (la15 : Lin15 a15) (la24 : Lin24 a24) (la22 : Lin22 a22) (la16 : Lin16 a16) {R S : Type} {k : S → Option R} {t1 : Sl} {t5_0 : Nat} {t5_1 : Nat} {t6 : Option (Nat × Nat)} {t8 : Int} {H : Heap} {fkN : Sl → Nat → Nat → Option (Nat × Nat) → Int → Heap → Option R} {gkN : Sl → Nat → Nat → Option (Nat × Nat) → Int → Heap → Option S} {fkE0 : Option (Nat × Nat) → Heap → Option R} {gkE0 : Option (Nat × Nat) → Heap → Option S} (hkN : ∀ t1 t5_0 t5_1 t6 t8 H, fkN t1 t5_0 t5_1 t6 t8 H = (gkN t1 t5_0 t5_1 t6 t8 H).bind k) (hkE0 : ∀ t6 H, fkE0 t6 H = (gkE0 t6 H).bind k) : g6_p2 a9 a10 a12 a13 a11 a18 a19 a15 a24 a22 a16 R t1 t5_0 t5_1 t6 t8 H fkN fkE0 = (g6_p2 a9 a10 a12 a13 a11 a18 a19 a15 a24 a22 a16 S t1 t5_0 t5_1 t6 t8 H gkN gkE0).bind k := by
  delta g6_p2; exact (
    sl_lin (
      hkN _ _ _ _ _ _) (
      hkE0 _ _))
noncomputable def g6_p3 (a9 : T9) (a10 : T10) (a12 : T12) (a13 : T13) (a11 : T11) (a18 : T18) (a19 : T19) (a15 : T15) (a24 : T24) (a22 : T22) (a16 : T16) (R : Type) (t1 : Sl) (t5_0 : Nat) (t5_1 : Nat) (t6 : Option (Nat × Nat)) (t8 : Int) (H : Heap) (kN : Sl → Nat → Nat → Option (Nat × Nat) → Int → Int → Heap → Option R) (kR : Bool → Heap → Option R) : Option R :=
  a11 R t6 false H fun x95 h96 =>
  sel (x95 != (0 : Int)) (
    kR false h96) (
    a11 R t6 false h96 fun x97 h98 =>
    sel (x97 != (6 : Int)) (
      kR false h98) (
      kN t1 t5_0 t5_1 t6 t8 (0 : Int) h98))
theorem g6_p3_eq (a9 : T9) (a10 : T10) (a12 : T12) (a13 : T13) (a11 : T11) (a18 : T18) (a19 : T19) (a15 : T15) (a24 : T24) (a22 : T22) (a16 : T16) {R : Type} (c2 : Code) (t1 : Sl) (t5_0 : Nat) (t5_1 : Nat) (t6 : Option (Nat × Nat)) (t8 : Int) (H : Heap) (K : Ex → Fr → Heap → Option R) : ev Try.prog (E6 a9 a10 a12 a13 a11 a18 a19 a15 a24 a22 a16) loopLim Try.f6.ntmps kp6 (.seq (codeAt [1, 1, 1, 1, 0, 1, 0, 0, 1, 0, 0, 0, 0] b6) (.seq (.cond (.tmp 44) (.seq (codeAt [1, 1, 1, 1, 0, 1, 0, 0, 1, 0, 0, 0, 1, 0, 0] b6) .ret) .skip) (.seq (codeAt [1, 1, 1, 1, 0, 1, 0, 0, 1, 0, 0, 1, 0, 0] b6) c2))) [(1, (V.sl t1)), (5, (V.p (some (t5_0, t5_1)))), (6, (V.p t6)), (8, (V.i .i64 t8))] H K = g6_p3 a9 a10 a12 a13 a11 a18 a19 a15 a24 a22 a16 R t1 t5_0 t5_1 t6 t8 H (fun t1 t5_0 t5_1 t6 t8 t9 H => ev Try.prog (E6 a9 a10 a12 a13 a11 a18 a19 a15 a24 a22 a16) loopLim Try.f6.ntmps kp6 c2 [(1, (V.sl t1)), (5, (V.p (some (t5_0, t5_1)))), (6, (V.p t6)), (8, (V.i .i64 t8)), (9, (V.i .i64 t9))] H K) (fun t4 H => K .ret [(4, (V.b t4))] H) := by kernel_rfl
theorem g6_p3_lin {a9 : T9} {a10 : T10} {a12 : T12} {a13 : T13} {a11 : T11} {a18 : T18} {a19 : T19} {a15 : T15} {a24 : T24} {a22 : T22} {a16 : T16} (la9 : Lin9 a9) (la10 : Lin10 a10) (la12 : Lin12 a12) (la13 : Lin13 a13) (la11 : Lin11 a11) (la18 : Lin18 a18) (la19 : Lin19 a19) (la15 : Lin15 a15) (la24 : Lin24 a24) (la22 : Lin22 a22) (la16 : Lin16 a16) {R S : Type} {k : S → Option R} {t1 : Sl} {t5_0 : Nat} {t5_1 : Nat} {t6 : Option (Nat × Nat)} {t8 : Int} {H : Heap} {fkN : Sl → Nat → Nat → Option (Nat × Nat) → Int → Int → Heap → Option R} {gkN : Sl → Nat → Nat → Option (Nat × Nat) → Int → Int → Heap → Option S} {fkR : Bool → Heap → Option R} {gkR : Bool → Heap → Option S} (hkN : ∀ t1 t5_0 t5_1 t6 t8 t9 H, fkN t1 t5_0 t5_1 t6 t8 t9 H = (gkN t1 t5_0 t5_1 t6 t8 t9 H).bind k) (hkR : ∀ t4 H, fkR t4 H = (gkR t4 H).bind k) : g6_p3 a9 a10 a12 a13 a11 a18 a19 a15 a24 a22 a16 R t1 t5_0 t5_1 t6 t8 H fkN fkR = (g6_p3 a9 a10 a12 a13 a11 a18 a19 a15 a24 a22 a16 S t1 t5_0 t5_1 t6 t8 H gkN gkR).bind k := by
  delta g6_p3; exact (
    la11.l fun x95 h96 =>
    sl_lin (
      hkR _ _) (
      la11.l fun x97 h98 =>
      sl_lin (
        hkR _ _) (
        hkN _ _ _ _ _ _ _)))
noncomputable def g6_p4 (a9 : T9) (a10 : T10) (a12 : T12) (a13 : T13) (a11 : T11) (a18 : T18) (a19 : T19) (a15 : T15) (a24 : T24) (a22 : T22) (a16 : T16) (R : Type) (t1 : Sl) (t5_0 : Nat) (t5_1 : Nat) (t6 : Option (Nat × Nat)) (t8 : Int) (t9 : Int) (H : Heap) (kN : Sl → Nat → Nat → Option (Nat × Nat) → Int → Int → Heap → Option R) (kE2 : Sl → Nat → Nat → Option (Nat × Nat) → Int → Heap → Option R) (kR : Bool → Heap → Option R) : Option R :=
  ((H).ldI .i64 t5_0 (t5_1 + 0)).bind fun x99 =>
  sel (decide (t9 < x99)) (
    a13 R t6 H fun x100 h101 =>
    sel (x100 != (1 : Int)) (
      kR false h101) (
      a18 R t6 h101 fun x102 h103 =>
      ((h103).ldI .i64 t5_0 (t5_1 + 0)).bind fun x104 =>
      ((h101).ldI .i64 t5_0 (t5_1 + 0)).bind fun x105 =>
      if V.same (V.i .i64 x104) (V.i .i64 x105) = true then (
        sel (x102 != (IntKind.wrap .i64 (x104 - t9))) (
          kR false h103) (
          sel (decide (t9 < ((t1.len : Nat) : Int))) (
            if 0 ≤ t9 ∧ t9 < ((t1.len : Nat) : Int) then (
              (t1.a).bind fun q106 =>
              ((h103).ldB q106.1 (q106.2 + Int.toNat t9 * 1)).bind fun x107 =>
              sel x107 (
                a19 R t6 h103 fun x108 h109 =>
                a12 R t6 h109 fun x110 h111 =>
                kN t1 t5_0 t5_1 t6 t8 (IntKind.wrap .i64 (t9 + (1 : Int))) h111) (
                a12 R t6 h103 fun x112 h113 =>
                kN t1 t5_0 t5_1 t6 t8 (IntKind.wrap .i64 (t9 + (1 : Int))) h113))
            else (
              none)) (
            a12 R t6 h103 fun x114 h115 =>
            kN t1 t5_0 t5_1 t6 t8 (IntKind.wrap .i64 (t9 + (1 : Int))) h115)))
      else (
        none))) (
    kE2 t1 t5_0 t5_1 t6 t8 H)
theorem g6_p4_eq (a9 : T9) (a10 : T10) (a12 : T12) (a13 : T13) (a11 : T11) (a18 : T18) (a19 : T19) (a15 : T15) (a24 : T24) (a22 : T22) (a16 : T16) (la9 : Lin9 a9) (la10 : Lin10 a10) (la12 : Lin12 a12) (la13 : Lin13 a13) (la11 : Lin11 a11) (la18 : Lin18 a18) (la19 : Lin19 a19) (la15 : Lin15 a15) (la24 : Lin24 a24) (la22 : Lin22 a22) (la16 : Lin16 a16) {R : Type} (t1 : Sl) (t5_0 : Nat) (t5_1 : Nat) (t6 : Option (Nat × Nat)) (t8 : Int) (t9 : Int) (H : Heap) (K : Ex → Fr → Heap → Option R) : ev Try.prog (E6 a9 a10 a12 a13 a11 a18 a19 a15 a24 a22 a16) loopLim Try.f6.ntmps kp6 c6_0 [(1, (V.sl t1)), (5, (V.p (some (t5_0, t5_1)))), (6, (V.p t6)), (8, (V.i .i64 t8)), (9, (V.i .i64 t9))] H K = g6_p4 a9 a10 a12 a13 a11 a18 a19 a15 a24 a22 a16 R t1 t5_0 t5_1 t6 t8 t9 H (fun t1 t5_0 t5_1 t6 t8 t9 H => K .normal [(1, (V.sl t1)), (5, (V.p (some (t5_0, t5_1)))), (6, (V.p t6)), (8, (V.i .i64 t8)), (9, (V.i .i64 t9))] H) (fun t1 t5_0 t5_1 t6 t8 H => K (.exit 2) [(1, (V.sl t1)), (5, (V.p (some (t5_0, t5_1)))), (6, (V.p t6)), (8, (V.i .i64 t8))] H) (fun t4 H => K .ret [(4, (V.b t4))] H) := by kernel_rfl
theorem g6_p4_lin {a9 : T9} {a10 : T10} {a12 : T12} {a13 : T13} {a11 : T11} {a18 : T18} {a19 : T19} {a15 : T15} {a24 : T24} {a22 : T22} {a16 : T16} (la9 : Lin9 a9) (la10 : Lin10 a10) (la12 : Lin12 a12) (la13 : Lin13 a13) (la11 : Lin11 a11) (la18 : Lin18 a18) (la19 : Lin19 a19) (la15 : Lin15 a15) (la24 : Lin24 a24) (la22 : Lin22 a22) (la16 : Lin16 a16) {R S : Type} {k : S → Option R} {t1 : Sl} {t5_0 : Nat} {t5_1 : Nat} {t6 : Option (Nat × Nat)} {t8 : Int} {t9 : Int} {H : Heap} {fkN : Sl → Nat → Nat → Option (Nat × Nat) → Int → Int → Heap → Option R} {gkN : Sl → Nat → Nat → Option (Nat × Nat) → Int → Int → Heap → Option S} {fkE2 : Sl → Nat → Nat → Option (Nat × Nat) → Int → Heap → Option R} {gkE2 : Sl → Nat → Nat → Option (Nat × Nat) → Int → Heap → Option S} {fkR : Bool → Heap → Option R} {gkR : Bool → Heap → Option S} (hkN : ∀ t1 t5_0 t5_1 t6 t8 t9 H, fkN t1 t5_0 t5_1 t6 t8 t9 H = (gkN t1 t5_0 t5_1 t6 t8 t9 H).bind k) (hkE2 : ∀ t1 t5_0 t5_1 t6 t8 H, fkE2 t1 t5_0 t5_1 t6 t8 H = (gkE2 t1 t5_0 t5_1 t6 t8 H).bind k) (hkR : ∀ t4 H, fkR t4 H = (gkR t4 H).bind k) : g6_p4 a9 a10 a12 a13 a11 a18 a19 a15 a24 a22 a16 R t1 t5_0 t5_1 t6 t8 t9 H fkN fkE2 fkR = (g6_p4 a9 a10 a12 a13 a11 a18 a19 a15 a24 a22 a16 S t1 t5_0 t5_1 t6 t8 t9 H gkN gkE2 gkR).bind k := by
  delta g6_p4; exact (
    bl fun x99 =>
    sl_lin (
      la13.l fun x100 h101 =>
      sl_lin (
        hkR _ _) (
        la18.l fun x102 h103 =>
        bl fun x104 =>
        bl fun x105 =>
        il (
          sl_lin (
            hkR _ _) (
            sl_lin (
              il (
                bl fun q106 =>
                bl fun x107 =>
                sl_lin (
                  la19.l fun x108 h109 =>
                  la12.l fun x110 h111 =>
                  hkN _ _ _ _ _ _ _) (
                  la12.l fun x112 h113 =>
                  hkN _ _ _ _ _ _ _)) (
                rfl)) (
              la12.l fun x114 h115 =>
              hkN _ _ _ _ _ _ _))) (
          rfl))) (
      hkE2 _ _ _ _ _ _))
abbrev g6_p5_S := Sl × Nat × Nat × (Option (Nat × Nat)) × Int × Int
abbrev g6_p5_O := Sum (Sl × Nat × Nat × (Option (Nat × Nat)) × Int) (Bool)
def g6_p5_es (s : g6_p5_S) : Fr := [(1, (V.sl s.1)), (5, (V.p (some (s.2.1, s.2.2.1)))), (6, (V.p s.2.2.2.1)), (8, (V.i .i64 s.2.2.2.2.1)), (9, (V.i .i64 s.2.2.2.2.2))]
def g6_p5_er : g6_p5_O → Ex × Fr
  | (.inl r) => ((.exit 2), [(1, (V.sl r.1)), (5, (V.p (some (r.2.1, r.2.2.1)))), (6, (V.p r.2.2.2.1)), (8, (V.i .i64 r.2.2.2.2))])
  | (.inr r) => (.ret, [(4, (V.b r))])
noncomputable def g6_p5_b (a9 : T9) (a10 : T10) (a12 : T12) (a13 : T13) (a11 : T11) (a18 : T18) (a19 : T19) (a15 : T15) (a24 : T24) (a22 : T22) (a16 : T16) (s : g6_p5_S) (H : Heap) : Option (Rd g6_p5_S g6_p5_O × Heap) :=
  g6_p4 a9 a10 a12 a13 a11 a18 a19 a15 a24 a22 a16 _ s.1 s.2.1 s.2.2.1 s.2.2.2.1 s.2.2.2.2.1 s.2.2.2.2.2 H (fun t1 t5_0 t5_1 t6 t8 t9 H => some (.go (t1, t5_0, t5_1, t6, t8, t9), H)) (fun t1 t5_0 t5_1 t6 t8 H => some (.up (.inl (t1, t5_0, t5_1, t6, t8)), H)) (fun t4 H => some (.up (.inr t4), H))
noncomputable def g6_p5 (a9 : T9) (a10 : T10) (a12 : T12) (a13 : T13) (a11 : T11) (a18 : T18) (a19 : T19) (a15 : T15) (a24 : T24) (a22 : T22) (a16 : T16) (R : Type) (t1 : Sl) (t5_0 : Nat) (t5_1 : Nat) (t6 : Option (Nat × Nat)) (t8 : Int) (t9 : Int) (H : Heap) (kE2 : Sl → Nat → Nat → Option (Nat × Nat) → Int → Heap → Option R) (kR : Bool → Heap → Option R) : Option R :=
  (tlim (g6_p5_b a9 a10 a12 a13 a11 a18 a19 a15 a24 a22 a16) (t1, t5_0, t5_1, t6, t8, t9) H).bind fun p => cas p.1 (fun r => kE2 r.1 r.2.1 r.2.2.1 r.2.2.2.1 r.2.2.2.2 p.2) (fun r0 => kR r0 p.2)
theorem g6_p5_lin {a9 : T9} {a10 : T10} {a12 : T12} {a13 : T13} {a11 : T11} {a18 : T18} {a19 : T19} {a15 : T15} {a24 : T24} {a22 : T22} {a16 : T16} (la9 : Lin9 a9) (la10 : Lin10 a10) (la12 : Lin12 a12) (la13 : Lin13 a13) (la11 : Lin11 a11) (la18 : Lin18 a18) (la19 : Lin19 a19) (la15 : Lin15 a15) (la24 : Lin24 a24) (la22 : Lin22 a22) (la16 : Lin16 a16) {R S : Type} {k : S → Option R} {t1 : Sl} {t5_0 : Nat} {t5_1 : Nat} {t6 : Option (Nat × Nat)} {t8 : Int} {t9 : Int} {H : Heap} {fkE2 : Sl → Nat → Nat → Option (Nat × Nat) → Int → Heap → Option R} {gkE2 : Sl → Nat → Nat → Option (Nat × Nat) → Int → Heap → Option S} {fkR : Bool → Heap → Option R} {gkR : Bool → Heap → Option S} (hkE2 : ∀ t1 t5_0 t5_1 t6 t8 H, fkE2 t1 t5_0 t5_1 t6 t8 H = (gkE2 t1 t5_0 t5_1 t6 t8 H).bind k) (hkR : ∀ t4 H, fkR t4 H = (gkR t4 H).bind k) : g6_p5 a9 a10 a12 a13 a11 a18 a19 a15 a24 a22 a16 R t1 t5_0 t5_1 t6 t8 t9 H fkE2 fkR = (g6_p5 a9 a10 a12 a13 a11 a18 a19 a15 a24 a22 a16 S t1 t5_0 t5_1 t6 t8 t9 H gkE2 gkR).bind k := by
  exact bl fun p => cas_lin (fun _ => hkE2 _ _ _ _ _ _) (fun _ => hkR _ _)
theorem g6_p5_eq (a9 : T9) (a10 : T10) (a12 : T12) (a13 : T13) (a11 : T11) (a18 : T18) (a19 : T19) (a15 : T15) (a24 : T24) (a22 : T22) (a16 : T16) (la9 : Lin9 a9) (la10 : Lin10 a10) (la12 : Lin12 a12) (la13 : Lin13 a13) (la11 : Lin11 a11) (la18 : Lin18 a18) (la19 : Lin19 a19) (la15 : Lin15 a15) (la24 : Lin24 a24) (la22 : Lin22 a22) (la16 : Lin16 a16) {R : Type} (t1 : Sl) (t5_0 : Nat) (t5_1 : Nat) (t6 : Option (Nat × Nat)) (t8 : Int) (t9 : Int) (H : Heap) (K : Ex → Fr → Heap → Option R) : ev Try.prog (E6 a9 a10 a12 a13 a11 a18 a19 a15 a24 a22 a16) loopLim Try.f6.ntmps kp6 c6_1 [(1, (V.sl t1)), (5, (V.p (some (t5_0, t5_1)))), (6, (V.p t6)), (8, (V.i .i64 t8)), (9, (V.i .i64 t9))] H K = g6_p5 a9 a10 a12 a13 a11 a18 a19 a15 a24 a22 a16 R t1 t5_0 t5_1 t6 t8 t9 H (fun t1 t5_0 t5_1 t6 t8 H => K (.exit 2) [(1, (V.sl t1)), (5, (V.p (some (t5_0, t5_1)))), (6, (V.p t6)), (8, (V.i .i64 t8))] H) (fun t4 H => K .ret [(4, (V.b t4))] H) := by
  show ev Try.prog (E6 a9 a10 a12 a13 a11 a18 a19 a15 a24 a22 a16) loopLim Try.f6.ntmps kp6 (.loop c6_0) [(1, (V.sl t1)), (5, (V.p (some (t5_0, t5_1)))), (6, (V.p t6)), (8, (V.i .i64 t8)), (9, (V.i .i64 t9))] H K = _
  delta g6_p5
  refine (ev_tlim (b := g6_p5_b a9 a10 a12 a13 a11 a18 a19 a15 a24 a22 a16) (es := g6_p5_es) (er := g6_p5_er) (by rintro (r | r) <;> exact nofun) (fun s H => ?_) (t1, t5_0, t5_1, t6, t8, t9) H K).trans (bc fun p => by rcases p with ⟨(r | r), H⟩ <;> rfl)
  exact (g6_p4_eq a9 a10 a12 a13 a11 a18 a19 a15 a24 a22 a16 la9 la10 la12 la13 la11 la18 la19 la15 la24 la22 la16 s.1 s.2.1 s.2.2.1 s.2.2.2.1 s.2.2.2.2.1 s.2.2.2.2.2 H ret3).trans (g6_p4_lin la9 la10 la12 la13 la11 la18 la19 la15 la24 la22 la16 (fun _ _ _ _ _ _ _ => rfl) (fun _ _ _ _ _ _ => rfl) (fun _ _ => rfl))
noncomputable def g6_p6 (a9 : T9) (a10 : T10) (a12 : T12) (a13 : T13) (a11 : T11) (a18 : T18) (a19 : T19) (a15 : T15) (a24 : T24) (a22 : T22) (a16 : T16) (R : Type) (t1 : Sl) (t5_0 : Nat) (t5_1 : Nat) (t6 : Option (Nat × Nat)) (t8 : Int) (t9 : Int) (H : Heap) (kN : Sl → Nat → Nat → Option (Nat × Nat) → Int → Heap → Option R) (kR : Bool → Heap → Option R) : Option R :=
  g6_p5 a9 a10 a12 a13 a11 a18 a19 a15 a24 a22 a16 R t1 t5_0 t5_1 t6 t8 t9 H (fun t1 t5_0 t5_1 t6 t8 H => kN t1 t5_0 t5_1 t6 t8 H) (fun t4 H => kR t4 H)
theorem g6_p6_lin {a9 : T9} {a10 : T10} {a12 : T12} {a13 : T13} {a11 : T11} {a18 : T18} {a19 : T19} {a15 : T15} {a24 : T24} {a22 : T22} {a16 : T16} (la9 : Lin9 a9) (la10 : Lin10 a10) (la12 : Lin12 a12) (la13 : Lin13 a13) (la11 : Lin11 a11) (la18 : Lin18 a18) (la19 : Lin19 a19) (la15 : Lin15 a15) (la24 : Lin24 a24) (la22 : Lin22 a22) (la16 : Lin16 a16) {R S : Type} {k : S → Option R} {t1 : Sl} {t5_0 : Nat} {t5_1 : Nat} {t6 : Option (Nat × Nat)} {t8 : Int} {t9 : Int} {H : Heap} {fkN : Sl → Nat → Nat → Option (Nat × Nat) → Int → Heap → Option R} {gkN : Sl → Nat → Nat → Option (Nat × Nat) → Int → Heap → Option S} {fkR : Bool → Heap → Option R} {gkR : Bool → Heap → Option S} (hkN : ∀ t1 t5_0 t5_1 t6 t8 H, fkN t1 t5_0 t5_1 t6 t8 H = (gkN t1 t5_0 t5_1 t6 t8 H).bind k) (hkR : ∀ t4 H, fkR t4 H = (gkR t4 H).bind k) : g6_p6 a9 a10 a12 a13 a11 a18 a19 a15 a24 a22 a16 R t1 t5_0 t5_1 t6 t8 t9 H fkN fkR = (g6_p6 a9 a10 a12 a13 a11 a18 a19 a15 a24 a22 a16 S t1 t5_0 t5_1 t6 t8 t9 H gkN gkR).bind k := by
  exact g6_p5_lin la9 la10 la12 la13 la11 la18 la19 la15 la24 la22 la16 (fun _ _ _ _ _ _ => hkN _ _ _ _ _ _) (fun _ _ => hkR _ _)
theorem g6_p6_eq (a9 : T9) (a10 : T10) (a12 : T12) (a13 : T13) (a11 : T11) (a18 : T18) (a19 : T19) (a15 : T15) (a24 : T24) (a22 : T22) (a16 : T16) (la9 : Lin9 a9) (la10 : Lin10 a10) (la12 : Lin12 a12) (la13 : Lin13 a13) (la11 : Lin11 a11) (la18 : Lin18 a18) (la19 : Lin19 a19) (la15 : Lin15 a15) (la24 : Lin24 a24) (la22 : Lin22 a22) (la16 : Lin16 a16) {R : Type} (t1 : Sl) (t5_0 : Nat) (t5_1 : Nat) (t6 : Option (Nat × Nat)) (t8 : Int) (t9 : Int) (H : Heap) (K : Ex → Fr → Heap → Option R) : ev Try.prog (E6 a9 a10 a12 a13 a11 a18 a19 a15 a24 a22 a16) loopLim Try.f6.ntmps kp6 c6_2 [(1, (V.sl t1)), (5, (V.p (some (t5_0, t5_1)))), (6, (V.p t6)), (8, (V.i .i64 t8)), (9, (V.i .i64 t9))] H K = g6_p6 a9 a10 a12 a13 a11 a18 a19 a15 a24 a22 a16 R t1 t5_0 t5_1 t6 t8 t9 H (fun t1 t5_0 t5_1 t6 t8 H => K .normal [(1, (V.sl t1)), (5, (V.p (some (t5_0, t5_1)))), (6, (V.p t6)), (8, (V.i .i64 t8))] H) (fun t4 H => K .ret [(4, (V.b t4))] H) := by
  show ev Try.prog (E6 a9 a10 a12 a13 a11 a18 a19 a15 a24 a22 a16) loopLim Try.f6.ntmps kp6 (.block 2 c6_1) [(1, (V.sl t1)), (5, (V.p (some (t5_0, t5_1)))), (6, (V.p t6)), (8, (V.i .i64 t8)), (9, (V.i .i64 t9))] H K = _
  rw [ev_block]
  delta g6_p6
  exact (g6_p5_eq a9 a10 a12 a13 a11 a18 a19 a15 a24 a22 a16 la9 la10 la12 la13 la11 la18 la19 la15 la24 la22 la16 t1 t5_0 t5_1 t6 t8 t9 H (kBlock kp6 2 K))
noncomputable def g6_p7 (a9 : T9) (a10 : T10) (a12 : T12) (a13 : T13) (a11 : T11) (a18 : T18) (a19 : T19) (a15 : T15) (a24 : T24) (a22 : T22) (a16 : T16) (R : Type) (t1 : Sl) (t5_0 : Nat) (t5_1 : Nat) (t6 : Option (Nat × Nat)) (t8 : Int) (H : Heap) (kN : Sl → Nat → Nat → Option (Nat × Nat) → Int → Heap → Option R) (kR : Bool → Heap → Option R) : Option R :=
  a13 R t6 H fun x116 h117 =>
  sel (x116 != (5 : Int)) (
    kR false h117) (
    a18 R t6 h117 fun x118 h119 =>
    sel (x118 != (0 : Int)) (
      kR false h119) (
      a15 R t6 h119 fun x120 h121 =>
      sel (x120 != (0 : Int)) (
        kR false h121) (
        kN t1 t5_0 t5_1 t6 t8 h121)))
theorem g6_p7_eq (a9 : T9) (a10 : T10) (a12 : T12) (a13 : T13) (a11 : T11) (a18 : T18) (a19 : T19) (a15 : T15) (a24 : T24) (a22 : T22) (a16 : T16) (la9 : Lin9 a9) (la10 : Lin10 a10) (la12 : Lin12 a12) (la13 : Lin13 a13) (la11 : Lin11 a11) (la18 : Lin18 a18) (la19 : Lin19 a19) (la15 : Lin15 a15) (la24 : Lin24 a24) (la22 : Lin22 a22) (la16 : Lin16 a16) {R : Type} (t1 : Sl) (t5_0 : Nat) (t5_1 : Nat) (t6 : Option (Nat × Nat)) (t8 : Int) (H : Heap) (K : Ex → Fr → Heap → Option R) : ev Try.prog (E6 a9 a10 a12 a13 a11 a18 a19 a15 a24 a22 a16) loopLim Try.f6.ntmps kp6 c6_3 [(1, (V.sl t1)), (5, (V.p (some (t5_0, t5_1)))), (6, (V.p t6)), (8, (V.i .i64 t8))] H K = g6_p7 a9 a10 a12 a13 a11 a18 a19 a15 a24 a22 a16 R t1 t5_0 t5_1 t6 t8 H (fun t1 t5_0 t5_1 t6 t8 H => K .normal [(1, (V.sl t1)), (5, (V.p (some (t5_0, t5_1)))), (6, (V.p t6)), (8, (V.i .i64 t8))] H) (fun t4 H => K .ret [(4, (V.b t4))] H) := by kernel_rfl
theorem g6_p7_lin {a9 : T9} {a10 : T10} {a12 : T12} {a13 : T13} {a11 : T11} {a18 : T18} {a19 : T19} {a15 : T15} {a24 : T24} {a22 : T22} {a16 : T16} (la9 : Lin9 a9) (la10 : Lin10 a10) (la12 : Lin12 a12) (la13 : Lin13 a13) (la11 : Lin11 a11) (la18 : Lin18 a18) (la19 : Lin19 a19) (la15 : Lin15 a15) (la24 : Lin24 a24) (la22 : Lin22 a22) (la16 : Lin16 a16) {R S : Type} {k : S → Option R} {t1 : Sl} {t5_0 : Nat} {t5_1 : Nat} {t6 : Option (Nat × Nat)} {t8 : Int} {H : Heap} {fkN : Sl → Nat → Nat → Option (Nat × Nat) → Int → Heap → Option R} {gkN : Sl → Nat → Nat → Option (Nat × Nat) → Int → Heap → Option S} {fkR : Bool → Heap → Option R} {gkR : Bool → Heap → Option S} (hkN : ∀ t1 t5_0 t5_1 t6 t8 H, fkN t1 t5_0 t5_1 t6 t8 H = (gkN t1 t5_0 t5_1 t6 t8 H).bind k) (hkR : ∀ t4 H, fkR t4 H = (gkR t4 H).bind k) : g6_p7 a9 a10 a12 a13 a11 a18 a19 a15 a24 a22 a16 R t1 t5_0 t5_1 t6 t8 H fkN fkR = (g6_p7 a9 a10 a12 a13 a11 a18 a19 a15 a24 a22 a16 S t1 t5_0 t5_1 t6 t8 H gkN gkR).bind k := by
  delta g6_p7; exact (
    la13.l fun x116 h117 =>
    sl_lin (
      hkR _ _) (
      la18.l fun x118 h119 =>
      sl_lin (
        hkR _ _) (
        la15.l fun x120 h121 =>
        sl_lin (
          hkR _ _) (
          hkN _ _ _ _ _ _))))
noncomputable def g6_p8 (a9 : T9) (a10 : T10) (a12 : T12) (a13 : T13) (a11 : T11) (a18 : T18) (a19 : T19) (a15 : T15) (a24 : T24) (a22 : T22) (a16 : T16) (R : Type) (t1 : Sl) (t5_0 : Nat) (t5_1 : Nat) (t6 : Option (Nat × Nat)) (t8 : Int) (t9 : Int) (H : Heap) (kN : Sl → Nat → Nat → Option (Nat × Nat) → Int → Heap → Option R) (kR : Bool → Heap → Option R) : Option R :=
  g6_p6 a9 a10 a12 a13 a11 a18 a19 a15 a24 a22 a16 R t1 t5_0 t5_1 t6 t8 t9 H (fun t1 t5_0 t5_1 t6 t8 H => g6_p7 a9 a10 a12 a13 a11 a18 a19 a15 a24 a22 a16 R t1 t5_0 t5_1 t6 t8 H (fun t1 t5_0 t5_1 t6 t8 H => kN t1 t5_0 t5_1 t6 t8 H) (fun t4 H => kR t4 H)) (fun t4 H => kR t4 H)
theorem g6_p8_lin {a9 : T9} {a10 : T10} {a12 : T12} {a13 : T13} {a11 : T11} {a18 : T18} {a19 : T19} {a15 : T15} {a24 : T24} {a22 : T22} {a16 : T16} (la9 : Lin9 a9) (la10 : Lin10 a10) (la12 : Lin12 a12) (la13 : Lin13 a13) (la11 : Lin11 a11) (la18 : Lin18 a18) (la19 : Lin19 a19) (la15 : Lin15 a15) (la24 : Lin24 a24) (la22 : Lin22 a22) (la16 : Lin16 a16) {R S : Type} {k : S → Option R} {t1 : Sl} {t5_0 : Nat} {t5_1 : Nat} {t6 : Option (Nat × Nat)} {t8 : Int} {t9 : Int} {H : Heap} {fkN : Sl → Nat → Nat → Option (Nat × Nat) → Int → Heap → Option R} {gkN : Sl → Nat → Nat → Option (Nat × Nat) → Int → Heap → Option S} {fkR : Bool → Heap → Option R} {gkR : Bool → Heap → Option S} (hkN : ∀ t1 t5_0 t5_1 t6 t8 H, fkN t1 t5_0 t5_1 t6 t8 H = (gkN t1 t5_0 t5_1 t6 t8 H).bind k) (hkR : ∀ t4 H, fkR t4 H = (gkR t4 H).bind k) : g6_p8 a9 a10 a12 a13 a11 a18 a19 a15 a24 a22 a16 R t1 t5_0 t5_1 t6 t8 t9 H fkN fkR = (g6_p8 a9 a10 a12 a13 a11 a18 a19 a15 a24 a22 a16 S t1 t5_0 t5_1 t6 t8 t9 H gkN gkR).bind k := by
  exact g6_p6_lin la9 la10 la12 la13 la11 la18 la19 la15 la24 la22 la16 (fun _ _ _ _ _ _ => g6_p7_lin la9 la10 la12 la13 la11 la18 la19 la15 la24 la22 la16 (fun _ _ _ _ _ _ => hkN _ _ _ _ _ _) (fun _ _ => hkR _ _)) (fun _ _ => hkR _ _)
theorem g6_p8_eq (a9 : T9) (a10 : T10) (a12 : T12) (a13 : T13) (a11 : T11) (a18 : T18) (a19 : T19) (a15 : T15) (a24 : T24) (a22 : T22) (a16 : T16) (la9 : Lin9 a9) (la10 : Lin10 a10) (la12 : Lin12 a12) (la13 : Lin13 a13) (la11 : Lin11 a11) (la18 : Lin18 a18) (la19 : Lin19 a19) (la15 : Lin15 a15) (la24 : Lin24 a24) (la22 : Lin22 a22) (la16 : Lin16 a16) {R : Type} (t1 : Sl) (t5_0 : Nat) (t5_1 : Nat) (t6 : Option (Nat × Nat)) (t8 : Int) (t9 : Int) (H : Heap) (K : Ex → Fr → Heap → Option R) : ev Try.prog (E6 a9 a10 a12 a13 a11 a18 a19 a15 a24 a22 a16) loopLim Try.f6.ntmps kp6 c6_4 [(1, (V.sl t1)), (5, (V.p (some (t5_0, t5_1)))), (6, (V.p t6)), (8, (V.i .i64 t8)), (9, (V.i .i64 t9))] H K = g6_p8 a9 a10 a12 a13 a11 a18 a19 a15 a24 a22 a16 R t1 t5_0 t5_1 t6 t8 t9 H (fun t1 t5_0 t5_1 t6 t8 H => K .normal [(1, (V.sl t1)), (5, (V.p (some (t5_0, t5_1)))), (6, (V.p t6)), (8, (V.i .i64 t8))] H) (fun t4 H => K .ret [(4, (V.b t4))] H) := by
  show ev Try.prog (E6 a9 a10 a12 a13 a11 a18 a19 a15 a24 a22 a16) loopLim Try.f6.ntmps kp6 (.seq c6_2 c6_3) [(1, (V.sl t1)), (5, (V.p (some (t5_0, t5_1)))), (6, (V.p t6)), (8, (V.i .i64 t8)), (9, (V.i .i64 t9))] H K = _
  rw [ev_seq]
  delta g6_p8
  exact (g6_p6_eq a9 a10 a12 a13 a11 a18 a19 a15 a24 a22 a16 la9 la10 la12 la13 la11 la18 la19 la15 la24 la22 la16 t1 t5_0 t5_1 t6 t8 t9 H (kSeq (fun fr H => ev Try.prog (E6 a9 a10 a12 a13 a11 a18 a19 a15 a24 a22 a16) loopLim Try.f6.ntmps kp6 c6_3 fr H K) K)).trans (congr (congrArg (g6_p6 a9 a10 a12 a13 a11 a18 a19 a15 a24 a22 a16 R t1 t5_0 t5_1 t6 t8 t9 H) (funext fun t1 => funext fun t5_0 => funext fun t5_1 => funext fun t6 => funext fun t8 => funext fun H => (kSeq_n _ _ _ _).trans (g6_p7_eq a9 a10 a12 a13 a11 a18 a19 a15 a24 a22 a16 la9 la10 la12 la13 la11 la18 la19 la15 la24 la22 la16 t1 t5_0 t5_1 t6 t8 H K))) rfl)
noncomputable def g6_p9 (a9 : T9) (a10 : T10) (a12 : T12) (a13 : T13) (a11 : T11) (a18 : T18) (a19 : T19) (a15 : T15) (a24 : T24) (a22 : T22) (a16 : T16) (R : Type) (t1 : Sl) (t5_0 : Nat) (t5_1 : Nat) (t6 : Option (Nat × Nat)) (t8 : Int) (H : Heap) (kN : Sl → Nat → Nat → Option (Nat × Nat) → Int → Heap → Option R) (kR : Bool → Heap → Option R) : Option R :=
  g6_p3 a9 a10 a12 a13 a11 a18 a19 a15 a24 a22 a16 R t1 t5_0 t5_1 t6 t8 H (fun t1 t5_0 t5_1 t6 t8 t9 H => g6_p8 a9 a10 a12 a13 a11 a18 a19 a15 a24 a22 a16 R t1 t5_0 t5_1 t6 t8 t9 H (fun t1 t5_0 t5_1 t6 t8 H => kN t1 t5_0 t5_1 t6 t8 H) (fun t4 H => kR t4 H)) (fun t4 H => kR t4 H)
theorem g6_p9_lin {a9 : T9} {a10 : T10} {a12 : T12} {a13 : T13} {a11 : T11} {a18 : T18} {a19 : T19} {a15 : T15} {a24 : T24} {a22 : T22} {a16 : T16} (la9 : Lin9 a9) (la10 : Lin10 a10) (la12 : Lin12 a12) (la13 : Lin13 a13) (la11 : Lin11 a11) (la18 : Lin18 a18) (la19 : Lin19 a19) (la15 : Lin15 a15) (la24 : Lin24 a24) (la22 : Lin22 a22) (la16 : Lin16 a16) {R S : Type} {k : S → Option R} {t1 : Sl} {t5_0 : Nat} {t5_1 : Nat} {t6 : Option (Nat × Nat)} {t8 : Int} {H : Heap} {fkN : Sl → Nat → Nat → Option (Nat × Nat) → Int → Heap → Option R} {gkN : Sl → Nat → Nat → Option (Nat × Nat) → Int → Heap → Option S} {fkR : Bool → Heap → Option R} {gkR : Bool → Heap → Option S} (hkN : ∀ t1 t5_0 t5_1 t6 t8 H, fkN t1 t5_0 t5_1 t6 t8 H = (gkN t1 t5_0 t5_1 t6 t8 H).bind k) (hkR : ∀ t4 H, fkR t4 H = (gkR t4 H).bind k) : g6_p9 a9 a10 a12 a13 a11 a18 a19 a15 a24 a22 a16 R t1 t5_0 t5_1 t6 t8 H fkN fkR = (g6_p9 a9 a10 a12 a13 a11 a18 a19 a15 a24 a22 a16 S t1 t5_0 t5_1 t6 t8 H gkN gkR).bind k := by
  exact g6_p3_lin la9 la10 la12 la13 la11 la18 la19 la15 la24 la22 la16 (fun _ _ _ _ _ _ _ => g6_p8_lin la9 la10 la12 la13 la11 la18 la19 la15 la24 la22 la16 (fun _ _ _ _ _ _ => hkN _ _ _ _ _ _) (fun _ _ => hkR _ _)) (fun _ _ => hkR _ _)
theorem g6_p9_eq (a9 : T9) (a10 : T10) (a12 : T12) (a13 : T13) (a11 : T11) (a18 : T18) (a19 : T19) (a15 : T15) (a24 : T24) (a22 : T22) (a16 : T16) (la9 : Lin9 a9) (la10 : Lin10 a10) (la12 : Lin12 a12) (la13 : Lin13 a13) (la11 : Lin11 a11) (la18 : Lin18 a18) (la19 : Lin19 a19) (la15 : Lin15 a15) (la24 : Lin24 a24) (la22 : Lin22 a22) (la16 : Lin16 a16) {R : Type} (t1 : Sl) (t5_0 : Nat) (t5_1 : Nat) (t6 : Option (Nat × Nat)) (t8 : Int) (H : Heap) (K : Ex → Fr → Heap → Option R) : ev Try.prog (E6 a9 a10 a12 a13 a11 a18 a19 a15 a24 a22 a16) loopLim Try.f6.ntmps kp6 c6_5 [(1, (V.sl t1)), (5, (V.p (some (t5_0, t5_1)))), (6, (V.p t6)), (8, (V.i .i64 t8))] H K = g6_p9 a9 a10 a12 a13 a11 a18 a19 a15 a24 a22 a16 R t1 t5_0 t5_1 t6 t8 H (fun t1 t5_0 t5_1 t6 t8 H => K .normal [(1, (V.sl t1)), (5, (V.p (some (t5_0, t5_1)))), (6, (V.p t6)), (8, (V.i .i64 t8))] H) (fun t4 H => K .ret [(4, (V.b t4))] H) := by
  show ev Try.prog (E6 a9 a10 a12 a13 a11 a18 a19 a15 a24 a22 a16) loopLim Try.f6.ntmps kp6 (.seq (codeAt [1, 1, 1, 1, 0, 1, 0, 0, 1, 0, 0, 0, 0] b6) (.seq (.cond (.tmp 44) (.seq (codeAt [1, 1, 1, 1, 0, 1, 0, 0, 1, 0, 0, 0, 1, 0, 0] b6) .ret) .skip) (.seq (codeAt [1, 1, 1, 1, 0, 1, 0, 0, 1, 0, 0, 1, 0, 0] b6) c6_4))) [(1, (V.sl t1)), (5, (V.p (some (t5_0, t5_1)))), (6, (V.p t6)), (8, (V.i .i64 t8))] H K = _
  delta g6_p9
  exact (g6_p3_eq a9 a10 a12 a13 a11 a18 a19 a15 a24 a22 a16 _ t1 t5_0 t5_1 t6 t8 H K).trans (congr (congrArg (g6_p3 a9 a10 a12 a13 a11 a18 a19 a15 a24 a22 a16 R t1 t5_0 t5_1 t6 t8 H) (funext fun t1 => funext fun t5_0 => funext fun t5_1 => funext fun t6 => funext fun t8 => funext fun t9 => funext fun H => g6_p8_eq a9 a10 a12 a13 a11 a18 a19 a15 a24 a22 a16 la9 la10 la12 la13 la11 la18 la19 la15 la24 la22 la16 t1 t5_0 t5_1 t6 t8 t9 H K)) rfl)
noncomputable def g6_p10 (a9 : T9) (a10 : T10) (a12 : T12) (a13 : T13) (a11 : T11) (a18 : T18) (a19 : T19) (a15 : T15) (a24 : T24) (a22 : T22) (a16 : T16) (R : Type) (t1 : Sl) (t5_0 : Nat) (t5_1 : Nat) (t6 : Option (Nat × Nat)) (t8 : Int) (H : Heap) (kN : Sl → Nat → Nat → Option (Nat × Nat) → Int → Heap → Option R) (kR : Bool → Heap → Option R) : Option R :=
  g6_p9 a9 a10 a12 a13 a11 a18 a19 a15 a24 a22 a16 R t1 t5_0 t5_1 t6 t8 H (fun t1 t5_0 t5_1 t6 t8 H => kN t1 t5_0 t5_1 t6 t8 H) (fun t4 H => kR t4 H)
theorem g6_p10_lin {a9 : T9} {a10 : T10} {a12 : T12} {a13 : T13} {a11 : T11} {a18 : T18} {a19 : T19} {a15 : T15} {a24 : T24} {a22 : T22} {a16 : T16} (la9 : Lin9 a9) (la10 : Lin10 a10) (la12 : Lin12 a12) (la13 : Lin13 a13) (la11 : Lin11 a11) (la18 : Lin18 a18) (la19 : Lin19 a19) (la15 : Lin15 a15) (la24 : Lin24 a24) (la22 : Lin22 a22) (la16 : Lin16 a16) {R S : Type} {k : S → Option R} {t1 : Sl} {t5_0 : Nat} {t5_1 : Nat} {t6 : Option (Nat × Nat)} {t8 : Int} {H : Heap} {fkN : Sl → Nat → Nat → Option (Nat × Nat) → Int → Heap → Option R} {gkN : Sl → Nat → Nat → Option (Nat × Nat) → Int → Heap → Option S} {fkR : Bool → Heap → Option R} {gkR : Bool → Heap → Option S} (hkN : ∀ t1 t5_0 t5_1 t6 t8 H, fkN t1 t5_0 t5_1 t6 t8 H = (gkN t1 t5_0 t5_1 t6 t8 H).bind k) (hkR : ∀ t4 H, fkR t4 H = (gkR t4 H).bind k) : g6_p10 a9 a10 a12 a13 a11 a18 a19 a15 a24 a22 a16 R t1 t5_0 t5_1 t6 t8 H fkN fkR = (g6_p10 a9 a10 a12 a13 a11 a18 a19 a15 a24 a22 a16 S t1 t5_0 t5_1 t6 t8 H gkN gkR).bind k := by
  exact g6_p9_lin la9 la10 la12 la13 la11 la18 la19 la15 la24 la22 la16 (fun _ _ _ _ _ _ => hkN _ _ _ _ _ _) (fun _ _ => hkR _ _)
theorem g6_p10_eq (a9 : T9) (a10 : T10) (a12 : T12) (a13 : T13) (a11 : T11) (a18 : T18) (a19 : T19) (a15 : T15) (a24 : T24) (a22 : T22) (a16 : T16) (la9 : Lin9 a9) (la10 : Lin10 a10) (la12 : Lin12 a12) (la13 : Lin13 a13) (la11 : Lin11 a11) (la18 : Lin18 a18) (la19 : Lin19 a19) (la15 : Lin15 a15) (la24 : Lin24 a24) (la22 : Lin22 a22) (la16 : Lin16 a16) {R : Type} (t1 : Sl) (t5_0 : Nat) (t5_1 : Nat) (t6 : Option (Nat × Nat)) (t8 : Int) (H : Heap) (K : Ex → Fr → Heap → Option R) : ev Try.prog (E6 a9 a10 a12 a13 a11 a18 a19 a15 a24 a22 a16) loopLim Try.f6.ntmps kp6 c6_6 [(1, (V.sl t1)), (5, (V.p (some (t5_0, t5_1)))), (6, (V.p t6)), (8, (V.i .i64 t8))] H K = g6_p10 a9 a10 a12 a13 a11 a18 a19 a15 a24 a22 a16 R t1 t5_0 t5_1 t6 t8 H (fun t1 t5_0 t5_1 t6 t8 H => K .normal [(1, (V.sl t1)), (5, (V.p (some (t5_0, t5_1)))), (6, (V.p t6)), (8, (V.i .i64 t8))] H) (fun t4 H => K .ret [(4, (V.b t4))] H) := by
  show ev Try.prog (E6 a9 a10 a12 a13 a11 a18 a19 a15 a24 a22 a16) loopLim Try.f6.ntmps kp6 (.block 1 c6_5) [(1, (V.sl t1)), (5, (V.p (some (t5_0, t5_1)))), (6, (V.p t6)), (8, (V.i .i64 t8))] H K = _
  rw [ev_block]
  delta g6_p10
  exact (g6_p9_eq a9 a10 a12 a13 a11 a18 a19 a15 a24 a22 a16 la9 la10 la12 la13 la11 la18 la19 la15 la24 la22 la16 t1 t5_0 t5_1 t6 t8 H (kBlock kp6 1 K))
noncomputable def g6_p11 (a9 : T9) (a10 : T10) (a12 : T12) (a13 : T13) (a11 : T11) (a18 : T18) (a19 : T19) (a15 : T15) (a24 : T24) (a22 : T22) (a16 : T16) (R : Type) (t1 : Sl) (t5_0 : Nat) (t5_1 : Nat) (t6 : Option (Nat × Nat)) (t8 : Int) (H : Heap) (kN : Sl → Nat → Nat → Option (Nat × Nat) → Int → Heap → Option R) : Option R :=
  kN t1 t5_0 t5_1 t6 (IntKind.wrap .i64 (t8 + (1 : Int))) H
theorem g6_p11_eq (a9 : T9) (a10 : T10) (a12 : T12) (a13 : T13) (a11 : T11) (a18 : T18) (a19 : T19) (a15 : T15) (a24 : T24) (a22 : T22) (a16 : T16) (la9 : Lin9 a9) (la10 : Lin10 a10) (la12 : Lin12 a12) (la13 : Lin13 a13) (la11 : Lin11 a11) (la18 : Lin18 a18) (la19 : Lin19 a19) (la15 : Lin15 a15) (la24 : Lin24 a24) (la22 : Lin22 a22) (la16 : Lin16 a16) {R : Type} (t1 : Sl) (t5_0 : Nat) (t5_1 : Nat) (t6 : Option (Nat × Nat)) (t8 : Int) (H : Heap) (K : Ex → Fr → Heap → Option R) : ev Try.prog (E6 a9 a10 a12 a13 a11 a18 a19 a15 a24 a22 a16) loopLim Try.f6.ntmps kp6 c6_7 [(1, (V.sl t1)), (5, (V.p (some (t5_0, t5_1)))), (6, (V.p t6)), (8, (V.i .i64 t8))] H K = g6_p11 a9 a10 a12 a13 a11 a18 a19 a15 a24 a22 a16 R t1 t5_0 t5_1 t6 t8 H (fun t1 t5_0 t5_1 t6 t8 H => K .normal [(1, (V.sl t1)), (5, (V.p (some (t5_0, t5_1)))), (6, (V.p t6)), (8, (V.i .i64 t8))] H) := by kernel_rfl
theorem g6_p11_lin {a9 : T9} {a10 : T10} {a12 : T12} {a13 : T13} {a11 : T11} {a18 : T18} {a19 : T19} {a15 : T15} {a24 : T24} {a22 : T22} {a16 : T16} (la9 : Lin9 a9) (la10 : Lin10 a10) (la12 : Lin12 a12) (la13 : Lin13 a13) (la11 : Lin11 a11) (la18 : Lin18 a18) (la19 : Lin19 a19) (la15 : Lin15 a15) (la24 : Lin24 a24) (la22 : Lin22 a22) (la16 : Lin16 a16) {R S : Type} {k : S → Option R} {t1 : Sl} {t5_0 : Nat} {t5_1 : Nat} {t6 : Option (Nat × Nat)} {t8 : Int} {H : Heap} {fkN : Sl → Nat → Nat → Option (Nat × Nat) → Int → Heap → Option R} {gkN : Sl → Nat → Nat → Option (Nat × Nat) → Int → Heap → Option S} (hkN : ∀ t1 t5_0 t5_1 t6 t8 H, fkN t1 t5_0 t5_1 t6 t8 H = (gkN t1 t5_0 t5_1 t6 t8 H).bind k) : g6_p11 a9 a10 a12 a13 a11 a18 a19 a15 a24 a22 a16 R t1 t5_0 t5_1 t6 t8 H fkN = (g6_p11 a9 a10 a12 a13 a11 a18 a19 a15 a24 a22 a16 S t1 t5_0 t5_1 t6 t8 H gkN).bind k := by
  delta g6_p11; exact (
    hkN _ _ _ _ _ _)
noncomputable def g6_p12 (a9 : T9) (a10 : T10) (a12 : T12) (a13 : T13) (a11 : T11) (a18 : T18) (a19 : T19) (a15 : T15) (a24 : T24) (a22 : T22) (a16 : T16) (R : Type) (t1 : Sl) (t5_0 : Nat) (t5_1 : Nat) (t6 : Option (Nat × Nat)) (t8 : Int) (H : Heap) (kN : Sl → Nat → Nat → Option (Nat × Nat) → Int → Heap → Option R) (kR : Bool → Heap → Option R) : Option R :=
  g6_p10 a9 a10 a12 a13 a11 a18 a19 a15 a24 a22 a16 R t1 t5_0 t5_1 t6 t8 H (fun t1 t5_0 t5_1 t6 t8 H => g6_p11 a9 a10 a12 a13 a11 a18 a19 a15 a24 a22 a16 R t1 t5_0 t5_1 t6 t8 H (fun t1 t5_0 t5_1 t6 t8 H => kN t1 t5_0 t5_1 t6 t8 H)) (fun t4 H => kR t4 H)
theorem g6_p12_lin {a9 : T9} {a10 : T10} {a12 : T12} {a13 : T13} {a11 : T11} {a18 : T18} {a19 : T19} {a15 : T15} {a24 : T24} {a22 : T22} {a16 : T16} (la9 : Lin9 a9) (la10 : Lin10 a10) (la12 : Lin12 a12) (la13 : Lin13 a13) (la11 : Lin11 a11) (la18 : Lin18 a18) (la19 : Lin19 a19) (la15 : Lin15 a15) (la24 : Lin24 a24) (la22 : Lin22 a22) (la16 : Lin16 a16) {R S : Type} {k : S → Option R} {t1 : Sl} {t5_0 : Nat} {t5_1 : Nat} {t6 : Option (Nat × Nat)} {t8 : Int} {H : Heap} {fkN : Sl → Nat → Nat → Option (Nat × Nat) → Int → Heap → Option R} {gkN : Sl → Nat → Nat → Option (Nat × Nat) → Int → Heap → Option S} {fkR : Bool → Heap → Option R} {gkR : Bool → Heap → Option S} (hkN : ∀ t1 t5_0 t5_1 t6 t8 H, fkN t1 t5_0 t5_1 t6 t8 H = (gkN t1 t5_0 t5_1 t6 t8 H).bind k) (hkR : ∀ t4 H, fkR t4 H = (gkR t4 H).bind k) : g6_p12 a9 a10 a12 a13 a11 a18 a19 a15 a24 a22 a16 R t1 t5_0 t5_1 t6 t8 H fkN fkR = (g6_p12 a9 a10 a12 a13 a11 a18 a19 a15 a24 a22 a16 S t1 t5_0 t5_1 t6 t8 H gkN gkR).bind k := by
  exact g6_p10_lin la9 la10 la12 la13 la11 la18 la19 la15 la24 la22 la16 (fun _ _ _ _ _ _ => g6_p11_lin la9 la10 la12 la13 la11 la18 la19 la15 la24 la22 la16 (fun _ _ _ _ _ _ => hkN _ _ _ _ _ _)) (fun _ _ => hkR _ _)
theorem g6_p12_eq (a9 : T9) (a10 : T10) (a12 : T12) (a13 : T13) (a11 : T11) (a18 : T18) (a19 : T19) (a15 : T15) (a24 : T24) (a22 : T22) (a16 : T16) (la9 : Lin9 a9) (la10 : Lin10 a10) (la12 : Lin12 a12) (la13 : Lin13 a13) (la11 : Lin11 a11) (la18 : Lin18 a18) (la19 : Lin19 a19) (la15 : Lin15 a15) (la24 : Lin24 a24) (la22 : Lin22 a22) (la16 : Lin16 a16) {R : Type} (t1 : Sl) (t5_0 : Nat) (t5_1 : Nat) (t6 : Option (Nat × Nat)) (t8 : Int) (H : Heap) (K : Ex → Fr → Heap → Option R) : ev Try.prog (E6 a9 a10 a12 a13 a11 a18 a19 a15 a24 a22 a16) loopLim Try.f6.ntmps kp6 c6_8 [(1, (V.sl t1)), (5, (V.p (some (t5_0, t5_1)))), (6, (V.p t6)), (8, (V.i .i64 t8))] H K = g6_p12 a9 a10 a12 a13 a11 a18 a19 a15 a24 a22 a16 R t1 t5_0 t5_1 t6 t8 H (fun t1 t5_0 t5_1 t6 t8 H => K .normal [(1, (V.sl t1)), (5, (V.p (some (t5_0, t5_1)))), (6, (V.p t6)), (8, (V.i .i64 t8))] H) (fun t4 H => K .ret [(4, (V.b t4))] H) := by
  show ev Try.prog (E6 a9 a10 a12 a13 a11 a18 a19 a15 a24 a22 a16) loopLim Try.f6.ntmps kp6 (.seq c6_6 c6_7) [(1, (V.sl t1)), (5, (V.p (some (t5_0, t5_1)))), (6, (V.p t6)), (8, (V.i .i64 t8))] H K = _
  rw [ev_seq]
  delta g6_p12
  exact (g6_p10_eq a9 a10 a12 a13 a11 a18 a19 a15 a24 a22 a16 la9 la10 la12 la13 la11 la18 la19 la15 la24 la22 la16 t1 t5_0 t5_1 t6 t8 H (kSeq (fun fr H => ev Try.prog (E6 a9 a10 a12 a13 a11 a18 a19 a15 a24 a22 a16) loopLim Try.f6.ntmps kp6 c6_7 fr H K) K)).trans (congr (congrArg (g6_p10 a9 a10 a12 a13 a11 a18 a19 a15 a24 a22 a16 R t1 t5_0 t5_1 t6 t8 H) (funext fun t1 => funext fun t5_0 => funext fun t5_1 => funext fun t6 => funext fun t8 => funext fun H => (kSeq_n _ _ _ _).trans (g6_p11_eq a9 a10 a12 a13 a11 a18 a19 a15 a24 a22 a16 la9 la10 la12 la13 la11 la18 la19 la15 la24 la22 la16 t1 t5_0 t5_1 t6 t8 H K))) rfl)
noncomputable def g6_p13 (a9 : T9) (a10 : T10) (a12 : T12) (a13 : T13) (a11 : T11) (a18 : T18) (a19 : T19) (a15 : T15) (a24 : T24) (a22 : T22) (a16 : T16) (R : Type) (t1 : Sl) (t5_0 : Nat) (t5_1 : Nat) (t6 : Option (Nat × Nat)) (t8 : Int) (H : Heap) (kN : Sl → Nat → Nat → Option (Nat × Nat) → Int → Heap → Option R) (kE0 : Option (Nat × Nat) → Heap → Option R) (kR : Bool → Heap → Option R) : Option R :=
  g6_p2 a9 a10 a12 a13 a11 a18 a19 a15 a24 a22 a16 R t1 t5_0 t5_1 t6 t8 H (fun t1 t5_0 t5_1 t6 t8 H => g6_p12 a9 a10 a12 a13 a11 a18 a19 a15 a24 a22 a16 R t1 t5_0 t5_1 t6 t8 H (fun t1 t5_0 t5_1 t6 t8 H => kN t1 t5_0 t5_1 t6 t8 H) (fun t4 H => kR t4 H)) (fun t6 H => kE0 t6 H)
theorem g6_p13_lin {a9 : T9} {a10 : T10} {a12 : T12} {a13 : T13} {a11 : T11} {a18 : T18} {a19 : T19} {a15 : T15} {a24 : T24} {a22 : T22} {a16 : T16} (la9 : Lin9 a9) (la10 : Lin10 a10) (la12 : Lin12 a12) (la13 : Lin13 a13) (la11 : Lin11 a11) (la18 : Lin18 a18) (la19 : Lin19 a19) (la15 : Lin15 a15) (la24 : Lin24 a24) (la22 : Lin22 a22) (la16 : Lin16 a16) {R S : Type} {k : S → Option R} {t1 : Sl} {t5_0 : Nat} {t5_1 : Nat} {t6 : Option (Nat × Nat)} {t8 : Int} {H : Heap} {fkN : Sl → Nat → Nat → Option (Nat × Nat) → Int → Heap → Option R} {gkN : Sl → Nat → Nat → Option (Nat × Nat) → Int → Heap → Option S} {fkE0 : Option (Nat × Nat) → Heap → Option R} {gkE0 : Option (Nat × Nat) → Heap → Option S} {fkR : Bool → Heap → Option R} {gkR : Bool → Heap → Option S} (hkN : ∀ t1 t5_0 t5_1 t6 t8 H, fkN t1 t5_0 t5_1 t6 t8 H = (gkN t1 t5_0 t5_1 t6 t8 H).bind k) (hkE0 : ∀ t6 H, fkE0 t6 H = (gkE0 t6 H).bind k) (hkR : ∀ t4 H, fkR t4 H = (gkR t4 H).bind k) : g6_p13 a9 a10 a12 a13 a11 a18 a19 a15 a24 a22 a16 R t1 t5_0 t5_1 t6 t8 H fkN fkE0 fkR = (g6_p13 a9 a10 a12 a13 a11 a18 a19 a15 a24 a22 a16 S t1 t5_0 t5_1 t6 t8 H gkN gkE0 gkR).bind k := by
  exact g6_p2_lin la9 la10 la12 la13 la11 la18 la19 la15 la24 la22 la16 (fun _ _ _ _ _ _ => g6_p12_lin la9 la10 la12 la13 la11 la18 la19 la15 la24 la22 la16 (fun _ _ _ _ _ _ => hkN _ _ _ _ _ _) (fun _ _ => hkR _ _)) (fun _ _ => hkE0 _ _)
theorem g6_p13_eq (a9 : T9) (a10 : T10) (a12 : T12) (a13 : T13) (a11 : T11) (a18 : T18) (a19 : T19) (a15 : T15) (a24 : T24) (a22 : T22) (a16 : T16) (la9 : Lin9 a9) (la10 : Lin10 a10) (la12 : Lin12 a12) (la13 : Lin13 a13) (la11 : Lin11 a11) (la18 : Lin18 a18) (la19 : Lin19 a19) (la15 : Lin15 a15) (la24 : Lin24 a24) (la22 : Lin22 a22) (la16 : Lin16 a16) {R : Type} (t1 : Sl) (t5_0 : Nat) (t5_1 : Nat) (t6 : Option (Nat × Nat)) (t8 : Int) (H : Heap) (K : Ex → Fr → Heap → Option R) : ev Try.prog (E6 a9 a10 a12 a13 a11 a18 a19 a15 a24 a22 a16) loopLim Try.f6.ntmps kp6 c6_9 [(1, (V.sl t1)), (5, (V.p (some (t5_0, t5_1)))), (6, (V.p t6)), (8, (V.i .i64 t8))] H K = g6_p13 a9 a10 a12 a13 a11 a18 a19 a15 a24 a22 a16 R t1 t5_0 t5_1 t6 t8 H (fun t1 t5_0 t5_1 t6 t8 H => K .normal [(1, (V.sl t1)), (5, (V.p (some (t5_0, t5_1)))), (6, (V.p t6)), (8, (V.i .i64 t8))] H) (fun t6 H => K (.exit 0) [(6, (V.p t6))] H) (fun t4 H => K .ret [(4, (V.b t4))] H) := by
  show ev Try.prog (E6 a9 a10 a12 a13 a11 a18 a19 a15 a24 a22 a16) loopLim Try.f6.ntmps kp6 (.seq (codeAt [1, 1, 1, 1, 0, 1, 0, 0, 0, 0] b6) (.seq (.cond (.tmp 34) .skip (.exit 0)) c6_8)) [(1, (V.sl t1)), (5, (V.p (some (t5_0, t5_1)))), (6, (V.p t6)), (8, (V.i .i64 t8))] H K = _
  delta g6_p13
  exact (g6_p2_eq a9 a10 a12 a13 a11 a18 a19 a15 a24 a22 a16 _ t1 t5_0 t5_1 t6 t8 H K).trans (congr (congrArg (g6_p2 a9 a10 a12 a13 a11 a18 a19 a15 a24 a22 a16 R t1 t5_0 t5_1 t6 t8 H) (funext fun t1 => funext fun t5_0 => funext fun t5_1 => funext fun t6 => funext fun t8 => funext fun H => g6_p12_eq a9 a10 a12 a13 a11 a18 a19 a15 a24 a22 a16 la9 la10 la12 la13 la11 la18 la19 la15 la24 la22 la16 t1 t5_0 t5_1 t6 t8 H K)) rfl)
abbrev g6_p14_S := Sl × Nat × Nat × (Option (Nat × Nat)) × Int
abbrev g6_p14_O := Sum ((Option (Nat × Nat))) (Bool)
def g6_p14_es (s : g6_p14_S) : Fr := [(1, (V.sl s.1)), (5, (V.p (some (s.2.1, s.2.2.1)))), (6, (V.p s.2.2.2.1)), (8, (V.i .i64 s.2.2.2.2))]
def g6_p14_er : g6_p14_O → Ex × Fr
  | (.inl r) => ((.exit 0), [(6, (V.p r))])
  | (.inr r) => (.ret, [(4, (V.b r))])
noncomputable def g6_p14_b (a9 : T9) (a10 : T10) (a12 : T12) (a13 : T13) (a11 : T11) (a18 : T18) (a19 : T19) (a15 : T15) (a24 : T24) (a22 : T22) (a16 : T16) (s : g6_p14_S) (H : Heap) : Option (Rd g6_p14_S g6_p14_O × Heap) :=
  g6_p13 a9 a10 a12 a13 a11 a18 a19 a15 a24 a22 a16 _ s.1 s.2.1 s.2.2.1 s.2.2.2.1 s.2.2.2.2 H (fun t1 t5_0 t5_1 t6 t8 H => some (.go (t1, t5_0, t5_1, t6, t8), H)) (fun t6 H => some (.up (.inl t6), H)) (fun t4 H => some (.up (.inr t4), H))
noncomputable def g6_p14 (a9 : T9) (a10 : T10) (a12 : T12) (a13 : T13) (a11 : T11) (a18 : T18) (a19 : T19) (a15 : T15) (a24 : T24) (a22 : T22) (a16 : T16) (R : Type) (t1 : Sl) (t5_0 : Nat) (t5_1 : Nat) (t6 : Option (Nat × Nat)) (t8 : Int) (H : Heap) (kE0 : Option (Nat × Nat) → Heap → Option R) (kR : Bool → Heap → Option R) : Option R :=
  (tlim (g6_p14_b a9 a10 a12 a13 a11 a18 a19 a15 a24 a22 a16) (t1, t5_0, t5_1, t6, t8) H).bind fun p => cas p.1 (fun r => kE0 r p.2) (fun r0 => kR r0 p.2)
theorem g6_p14_lin {a9 : T9} {a10 : T10} {a12 : T12} {a13 : T13} {a11 : T11} {a18 : T18} {a19 : T19} {a15 : T15} {a24 : T24} {a22 : T22} {a16 : T16} (la9 : Lin9 a9) (la10 : Lin10 a10) (la12 : Lin12 a12) (la13 : Lin13 a13) (la11 : Lin11 a11) (la18 : Lin18 a18) (la19 : Lin19 a19) (la15 : Lin15 a15) (la24 : Lin24 a24) (la22 : Lin22 a22) (la16 : Lin16 a16) {R S : Type} {k : S → Option R} {t1 : Sl} {t5_0 : Nat} {t5_1 : Nat} {t6 : Option (Nat × Nat)} {t8 : Int} {H : Heap} {fkE0 : Option (Nat × Nat) → Heap → Option R} {gkE0 : Option (Nat × Nat) → Heap → Option S} {fkR : Bool → Heap → Option R} {gkR : Bool → Heap → Option S} (hkE0 : ∀ t6 H, fkE0 t6 H = (gkE0 t6 H).bind k) (hkR : ∀ t4 H, fkR t4 H = (gkR t4 H).bind k) : g6_p14 a9 a10 a12 a13 a11 a18 a19 a15 a24 a22 a16 R t1 t5_0 t5_1 t6 t8 H fkE0 fkR = (g6_p14 a9 a10 a12 a13 a11 a18 a19 a15 a24 a22 a16 S t1 t5_0 t5_1 t6 t8 H gkE0 gkR).bind k := by
  exact bl fun p => cas_lin (fun _ => hkE0 _ _) (fun _ => hkR _ _)
theorem g6_p14_eq (a9 : T9) (a10 : T10) (a12 : T12) (a13 : T13) (a11 : T11) (a18 : T18) (a19 : T19) (a15 : T15) (a24 : T24) (a22 : T22) (a16 : T16) (la9 : Lin9 a9) (la10 : Lin10 a10) (la12 : Lin12 a12) (la13 : Lin13 a13) (la11 : Lin11 a11) (la18 : Lin18 a18) (la19 : Lin19 a19) (la15 : Lin15 a15) (la24 : Lin24 a24) (la22 : Lin22 a22) (la16 : Lin16 a16) {R : Type} (t1 : Sl) (t5_0 : Nat) (t5_1 : Nat) (t6 : Option (Nat × Nat)) (t8 : Int) (H : Heap) (K : Ex → Fr → Heap → Option R) : ev Try.prog (E6 a9 a10 a12 a13 a11 a18 a19 a15 a24 a22 a16) loopLim Try.f6.ntmps kp6 c6_10 [(1, (V.sl t1)), (5, (V.p (some (t5_0, t5_1)))), (6, (V.p t6)), (8, (V.i .i64 t8))] H K = g6_p14 a9 a10 a12 a13 a11 a18 a19 a15 a24 a22 a16 R t1 t5_0 t5_1 t6 t8 H (fun t6 H => K (.exit 0) [(6, (V.p t6))] H) (fun t4 H => K .ret [(4, (V.b t4))] H) := by
  show ev Try.prog (E6 a9 a10 a12 a13 a11 a18 a19 a15 a24 a22 a16) loopLim Try.f6.ntmps kp6 (.loop c6_9) [(1, (V.sl t1)), (5, (V.p (some (t5_0, t5_1)))), (6, (V.p t6)), (8, (V.i .i64 t8))] H K = _
  delta g6_p14
  refine (ev_tlim (b := g6_p14_b a9 a10 a12 a13 a11 a18 a19 a15 a24 a22 a16) (es := g6_p14_es) (er := g6_p14_er) (by rintro (r | r) <;> exact nofun) (fun s H => ?_) (t1, t5_0, t5_1, t6, t8) H K).trans (bc fun p => by rcases p with ⟨(r | r), H⟩ <;> rfl)
  exact (g6_p13_eq a9 a10 a12 a13 a11 a18 a19 a15 a24 a22 a16 la9 la10 la12 la13 la11 la18 la19 la15 la24 la22 la16 s.1 s.2.1 s.2.2.1 s.2.2.2.1 s.2.2.2.2 H ret3).trans (g6_p13_lin la9 la10 la12 la13 la11 la18 la19 la15 la24 la22 la16 (fun _ _ _ _ _ _ => rfl) (fun _ _ => rfl) (fun _ _ => rfl))
noncomputable def g6_p15 (a9 : T9) (a10 : T10) (a12 : T12) (a13 : T13) (a11 : T11) (a18 : T18) (a19 : T19) (a15 : T15) (a24 : T24) (a22 : T22) (a16 : T16) (R : Type) (t1 : Sl) (t5_0 : Nat) (t5_1 : Nat) (t6 : Option (Nat × Nat)) (t8 : Int) (H : Heap) (kN : Option (Nat × Nat) → Heap → Option R) (kR : Bool → Heap → Option R) : Option R :=
  g6_p14 a9 a10 a12 a13 a11 a18 a19 a15 a24 a22 a16 R t1 t5_0 t5_1 t6 t8 H (fun t6 H => kN t6 H) (fun t4 H => kR t4 H)
theorem g6_p15_lin {a9 : T9} {a10 : T10} {a12 : T12} {a13 : T13} {a11 : T11} {a18 : T18} {a19 : T19} {a15 : T15} {a24 : T24} {a22 : T22} {a16 : T16} (la9 : Lin9 a9) (la10 : Lin10 a10) (la12 : Lin12 a12) (la13 : Lin13 a13) (la11 : Lin11 a11) (la18 : Lin18 a18) (la19 : Lin19 a19) (la15 : Lin15 a15) (la24 : Lin24 a24) (la22 : Lin22 a22) (la16 : Lin16 a16) {R S : Type} {k : S → Option R} {t1 : Sl} {t5_0 : Nat} {t5_1 : Nat} {t6 : Option (Nat × Nat)} {t8 : Int} {H : Heap} {fkN : Option (Nat × Nat) → Heap → Option R} {gkN : Option (Nat × Nat) → Heap → Option S} {fkR : Bool → Heap → Option R} {gkR : Bool → Heap → Option S} (hkN : ∀ t6 H, fkN t6 H = (gkN t6 H).bind k) (hkR : ∀ t4 H, fkR t4 H = (gkR t4 H).bind k) : g6_p15 a9 a10 a12 a13 a11 a18 a19 a15 a24 a22 a16 R t1 t5_0 t5_1 t6 t8 H fkN fkR = (g6_p15 a9 a10 a12 a13 a11 a18 a19 a15 a24 a22 a16 S t1 t5_0 t5_1 t6 t8 H gkN gkR).bind k := by
  exact g6_p14_lin la9 la10 la12 la13 la11 la18 la19 la15 la24 la22 la16 (fun _ _ => hkN _ _) (fun _ _ => hkR _ _)
theorem g6_p15_eq (a9 : T9) (a10 : T10) (a12 : T12) (a13 : T13) (a11 : T11) (a18 : T18) (a19 : T19) (a15 : T15) (a24 : T24) (a22 : T22) (a16 : T16) (la9 : Lin9 a9) (la10 : Lin10 a10) (la12 : Lin12 a12) (la13 : Lin13 a13) (la11 : Lin11 a11) (la18 : Lin18 a18) (la19 : Lin19 a19) (la15 : Lin15 a15) (la24 : Lin24 a24) (la22 : Lin22 a22) (la16 : Lin16 a16) {R : Type} (t1 : Sl) (t5_0 : Nat) (t5_1 : Nat) (t6 : Option (Nat × Nat)) (t8 : Int) (H : Heap) (K : Ex → Fr → Heap → Option R) : ev Try.prog (E6 a9 a10 a12 a13 a11 a18 a19 a15 a24 a22 a16) loopLim Try.f6.ntmps kp6 c6_11 [(1, (V.sl t1)), (5, (V.p (some (t5_0, t5_1)))), (6, (V.p t6)), (8, (V.i .i64 t8))] H K = g6_p15 a9 a10 a12 a13 a11 a18 a19 a15 a24 a22 a16 R t1 t5_0 t5_1 t6 t8 H (fun t6 H => K .normal [(6, (V.p t6))] H) (fun t4 H => K .ret [(4, (V.b t4))] H) := by
  show ev Try.prog (E6 a9 a10 a12 a13 a11 a18 a19 a15 a24 a22 a16) loopLim Try.f6.ntmps kp6 (.block 0 c6_10) [(1, (V.sl t1)), (5, (V.p (some (t5_0, t5_1)))), (6, (V.p t6)), (8, (V.i .i64 t8))] H K = _
  rw [ev_block]
  delta g6_p15
  exact (g6_p14_eq a9 a10 a12 a13 a11 a18 a19 a15 a24 a22 a16 la9 la10 la12 la13 la11 la18 la19 la15 la24 la22 la16 t1 t5_0 t5_1 t6 t8 H (kBlock kp6 0 K))
noncomputable def g6_p16 (a9 : T9) (a10 : T10) (a12 : T12) (a13 : T13) (a11 : T11) (a18 : T18) (a19 : T19) (a15 : T15) (a24 : T24) (a22 : T22) (a16 : T16) (R : Type) (t6 : Option (Nat × Nat)) (H : Heap) (kR : Bool → Heap → Option R) : Option R :=
  a24 R t6 H fun x122 h123 =>
  a13 R t6 h123 fun x124 h125 =>
  sel (x124 == (0 : Int)) (
    a22 R t6 h125 fun x126 h127 =>
    sel (x126 == (9 : Int)) (
      a16 R h127 fun x128 h129 =>
      kR x128 h129) (
      kR false h127)) (
    kR false h125)
theorem g6_p16_eq (a9 : T9) (a10 : T10) (a12 : T12) (a13 : T13) (a11 : T11) (a18 : T18) (a19 : T19) (a15 : T15) (a24 : T24) (a22 : T22) (a16 : T16) (la9 : Lin9 a9) (la10 : Lin10 a10) (la12 : Lin12 a12) (la13 : Lin13 a13) (la11 : Lin11 a11) (la18 : Lin18 a18) (la19 : Lin19 a19) (la15 : Lin15 a15) (la24 : Lin24 a24) (la22 : Lin22 a22) (la16 : Lin16 a16) {R : Type} (t6 : Option (Nat × Nat)) (H : Heap) (K : Ex → Fr → Heap → Option R) : ev Try.prog (E6 a9 a10 a12 a13 a11 a18 a19 a15 a24 a22 a16) loopLim Try.f6.ntmps kp6 c6_12 [(6, (V.p t6))] H K = g6_p16 a9 a10 a12 a13 a11 a18 a19 a15 a24 a22 a16 R t6 H (fun t4 H => K .ret [(4, (V.b t4))] H) := by kernel_rfl
theorem g6_p16_lin {a9 : T9} {a10 : T10} {a12 : T12} {a13 : T13} {a11 : T11} {a18 : T18} {a19 : T19} {a15 : T15} {a24 : T24} {a22 : T22} {a16 : T16} (la9 : Lin9 a9) (la10 : Lin10 a10) (la12 : Lin12 a12) (la13 : Lin13 a13) (la11 : Lin11 a11) (la18 : Lin18 a18) (la19 : Lin19 a19) (la15 : Lin15 a15) (la24 : Lin24 a24) (la22 : Lin22 a22) (la16 : Lin16 a16) {R S : Type} {k : S → Option R} {t6 : Option (Nat × Nat)} {H : Heap} {fkR : Bool → Heap → Option R} {gkR : Bool → Heap → Option S} (hkR : ∀ t4 H, fkR t4 H = (gkR t4 H).bind k) : g6_p16 a9 a10 a12 a13 a11 a18 a19 a15 a24 a22 a16 R t6 H fkR = (g6_p16 a9 a10 a12 a13 a11 a18 a19 a15 a24 a22 a16 S t6 H gkR).bind k := by
  delta g6_p16; exact (
    la24.l fun x122 h123 =>
    la13.l fun x124 h125 =>
    sl_lin (
      la22.l fun x126 h127 =>
      sl_lin (
        la16.l fun x128 h129 =>
        hkR _ _) (
        hkR _ _)) (
      hkR _ _))
noncomputable def g6_p17 (a9 : T9) (a10 : T10) (a12 : T12) (a13 : T13) (a11 : T11) (a18 : T18) (a19 : T19) (a15 : T15) (a24 : T24) (a22 : T22) (a16 : T16) (R : Type) (t1 : Sl) (t5_0 : Nat) (t5_1 : Nat) (t6 : Option (Nat × Nat)) (t8 : Int) (H : Heap) (kR : Bool → Heap → Option R) : Option R :=
  g6_p15 a9 a10 a12 a13 a11 a18 a19 a15 a24 a22 a16 R t1 t5_0 t5_1 t6 t8 H (fun t6 H => g6_p16 a9 a10 a12 a13 a11 a18 a19 a15 a24 a22 a16 R t6 H (fun t4 H => kR t4 H)) (fun t4 H => kR t4 H)
theorem g6_p17_lin {a9 : T9} {a10 : T10} {a12 : T12} {a13 : T13} {a11 : T11} {a18 : T18} {a19 : T19} {a15 : T15} {a24 : T24} {a22 : T22} {a16 : T16} (la9 : Lin9 a9) (la10 : Lin10 a10) (la12 : Lin12 a12) (la13 : Lin13 a13) (la11 : Lin11 a11) (la18 : Lin18 a18) (la19 : Lin19 a19) (la15 : Lin15 a15) (la24 : Lin24 a24) (la22 : Lin22 a22) (la16 : Lin16 a16) {R S : Type} {k : S → Option R} {t1 : Sl} {t5_0 : Nat} {t5_1 : Nat} {t6 : Option (Nat × Nat)} {t8 : Int} {H : Heap} {fkR : Bool → Heap → Option R} {gkR : Bool → Heap → Option S} (hkR : ∀ t4 H, fkR t4 H = (gkR t4 H).bind k) : g6_p17 a9 a10 a12 a13 a11 a18 a19 a15 a24 a22 a16 R t1 t5_0 t5_1 t6 t8 H fkR = (g6_p17 a9 a10 a12 a13 a11 a18 a19 a15 a24 a22 a16 S t1 t5_0 t5_1 t6 t8 H gkR).bind k := by
  exact g6_p15_lin la9 la10 la12 la13 la11 la18 la19 la15 la24 la22 la16 (fun _ _ => g6_p16_lin la9 la10 la12 la13 la11 la18 la19 la15 la24 la22 la16 (fun _ _ => hkR _ _)) (fun _ _ => hkR _ _)
theorem g6_p17_eq (a9 : T9) (a10 : T10) (a12 : T12) (a13 : T13) (a11 : T11) (a18 : T18) (a19 : T19) (a15 : T15) (a24 : T24) (a22 : T22) (a16 : T16) (la9 : Lin9 a9) (la10 : Lin10 a10) (la12 : Lin12 a12) (la13 : Lin13 a13) (la11 : Lin11 a11) (la18 : Lin18 a18) (la19 : Lin19 a19) (la15 : Lin15 a15) (la24 : Lin24 a24) (la22 : Lin22 a22) (la16 : Lin16 a16) {R : Type} (t1 : Sl) (t5_0 : Nat) (t5_1 : Nat) (t6 : Option (Nat × Nat)) (t8 : Int) (H : Heap) (K : Ex → Fr → Heap → Option R) : ev Try.prog (E6 a9 a10 a12 a13 a11 a18 a19 a15 a24 a22 a16) loopLim Try.f6.ntmps kp6 c6_13 [(1, (V.sl t1)), (5, (V.p (some (t5_0, t5_1)))), (6, (V.p t6)), (8, (V.i .i64 t8))] H K = g6_p17 a9 a10 a12 a13 a11 a18 a19 a15 a24 a22 a16 R t1 t5_0 t5_1 t6 t8 H (fun t4 H => K .ret [(4, (V.b t4))] H) := by
  show ev Try.prog (E6 a9 a10 a12 a13 a11 a18 a19 a15 a24 a22 a16) loopLim Try.f6.ntmps kp6 (.seq c6_11 c6_12) [(1, (V.sl t1)), (5, (V.p (some (t5_0, t5_1)))), (6, (V.p t6)), (8, (V.i .i64 t8))] H K = _
  rw [ev_seq]
  delta g6_p17
  exact (g6_p15_eq a9 a10 a12 a13 a11 a18 a19 a15 a24 a22 a16 la9 la10 la12 la13 la11 la18 la19 la15 la24 la22 la16 t1 t5_0 t5_1 t6 t8 H (kSeq (fun fr H => ev Try.prog (E6 a9 a10 a12 a13 a11 a18 a19 a15 a24 a22 a16) loopLim Try.f6.ntmps kp6 c6_12 fr H K) K)).trans (congr (congrArg (g6_p15 a9 a10 a12 a13 a11 a18 a19 a15 a24 a22 a16 R t1 t5_0 t5_1 t6 t8 H) (funext fun t6 => funext fun H => (kSeq_n _ _ _ _).trans (g6_p16_eq a9 a10 a12 a13 a11 a18 a19 a15 a24 a22 a16 la9 la10 la12 la13 la11 la18 la19 la15 la24 la22 la16 t6 H K))) rfl)
noncomputable def g6_p18 (a9 : T9) (a10 : T10) (a12 : T12) (a13 : T13) (a11 : T11) (a18 : T18) (a19 : T19) (a15 : T15) (a24 : T24) (a22 : T22) (a16 : T16) (R : Type) (t1 : Sl) (t5_0 : Nat) (t5_1 : Nat) (t6 : Option (Nat × Nat)) (t32 : Bool) (H : Heap) (kR : Bool → Heap → Option R) : Option R :=
  g6_p1 a9 a10 a12 a13 a11 a18 a19 a15 a24 a22 a16 R t1 t5_0 t5_1 t6 t32 H (fun t1 t5_0 t5_1 t6 t8 H => g6_p17 a9 a10 a12 a13 a11 a18 a19 a15 a24 a22 a16 R t1 t5_0 t5_1 t6 t8 H (fun t4 H => kR t4 H)) (fun t4 H => kR t4 H)
theorem g6_p18_lin {a9 : T9} {a10 : T10} {a12 : T12} {a13 : T13} {a11 : T11} {a18 : T18} {a19 : T19} {a15 : T15} {a24 : T24} {a22 : T22} {a16 : T16} (la9 : Lin9 a9) (la10 : Lin10 a10) (la12 : Lin12 a12) (la13 : Lin13 a13) (la11 : Lin11 a11) (la18 : Lin18 a18) (la19 : Lin19 a19) (la15 : Lin15 a15) (la24 : Lin24 a24) (la22 : Lin22 a22) (la16 : Lin16 a16) {R S : Type} {k : S → Option R} {t1 : Sl} {t5_0 : Nat} {t5_1 : Nat} {t6 : Option (Nat × Nat)} {t32 : Bool} {H : Heap} {fkR : Bool → Heap → Option R} {gkR : Bool → Heap → Option S} (hkR : ∀ t4 H, fkR t4 H = (gkR t4 H).bind k) : g6_p18 a9 a10 a12 a13 a11 a18 a19 a15 a24 a22 a16 R t1 t5_0 t5_1 t6 t32 H fkR = (g6_p18 a9 a10 a12 a13 a11 a18 a19 a15 a24 a22 a16 S t1 t5_0 t5_1 t6 t32 H gkR).bind k := by
  exact g6_p1_lin la9 la10 la12 la13 la11 la18 la19 la15 la24 la22 la16 (fun _ _ _ _ _ _ => g6_p17_lin la9 la10 la12 la13 la11 la18 la19 la15 la24 la22 la16 (fun _ _ => hkR _ _)) (fun _ _ => hkR _ _)
theorem g6_p18_eq (a9 : T9) (a10 : T10) (a12 : T12) (a13 : T13) (a11 : T11) (a18 : T18) (a19 : T19) (a15 : T15) (a24 : T24) (a22 : T22) (a16 : T16) (la9 : Lin9 a9) (la10 : Lin10 a10) (la12 : Lin12 a12) (la13 : Lin13 a13) (la11 : Lin11 a11) (la18 : Lin18 a18) (la19 : Lin19 a19) (la15 : Lin15 a15) (la24 : Lin24 a24) (la22 : Lin22 a22) (la16 : Lin16 a16) {R : Type} (t1 : Sl) (t5_0 : Nat) (t5_1 : Nat) (t6 : Option (Nat × Nat)) (t32 : Bool) (H : Heap) (K : Ex → Fr → Heap → Option R) : ev Try.prog (E6 a9 a10 a12 a13 a11 a18 a19 a15 a24 a22 a16) loopLim Try.f6.ntmps kp6 c6_14 [(1, (V.sl t1)), (5, (V.p (some (t5_0, t5_1)))), (6, (V.p t6)), (32, (V.b t32))] H K = g6_p18 a9 a10 a12 a13 a11 a18 a19 a15 a24 a22 a16 R t1 t5_0 t5_1 t6 t32 H (fun t4 H => K .ret [(4, (V.b t4))] H) := by
  show ev Try.prog (E6 a9 a10 a12 a13 a11 a18 a19 a15 a24 a22 a16) loopLim Try.f6.ntmps kp6 (.seq (.cond (.tmp 32) (.seq (codeAt [1, 1, 1, 0, 1, 0, 0] b6) .ret) .skip) (.seq (codeAt [1, 1, 1, 1, 0, 0] b6) c6_13)) [(1, (V.sl t1)), (5, (V.p (some (t5_0, t5_1)))), (6, (V.p t6)), (32, (V.b t32))] H K = _
  delta g6_p18
  exact (g6_p1_eq a9 a10 a12 a13 a11 a18 a19 a15 a24 a22 a16 _ t1 t5_0 t5_1 t6 t32 H K).trans (congr (congrArg (g6_p1 a9 a10 a12 a13 a11 a18 a19 a15 a24 a22 a16 R t1 t5_0 t5_1 t6 t32 H) (funext fun t1 => funext fun t5_0 => funext fun t5_1 => funext fun t6 => funext fun t8 => funext fun H => g6_p17_eq a9 a10 a12 a13 a11 a18 a19 a15 a24 a22 a16 la9 la10 la12 la13 la11 la18 la19 la15 la24 la22 la16 t1 t5_0 t5_1 t6 t8 H K)) rfl)
noncomputable def g6_p19 (a9 : T9) (a10 : T10) (a12 : T12) (a13 : T13) (a11 : T11) (a18 : T18) (a19 : T19) (a15 : T15) (a24 : T24) (a22 : T22) (a16 : T16) (R : Type) (t0_0 : Int) (t0_1 : Int) (t0_2 : Int) (t0_3 : Int) (t0_4 : Int) (t0_5 : Int) (t0_6 : Int) (t1 : Sl) (H : Heap) (kR : Bool → Heap → Option R) : Option R :=
  g6_p0 a9 a10 a12 a13 a11 a18 a19 a15 a24 a22 a16 R t0_0 t0_1 t0_2 t0_3 t0_4 t0_5 t0_6 t1 H (fun t1 t5_0 t5_1 t6 t32 H => g6_p18 a9 a10 a12 a13 a11 a18 a19 a15 a24 a22 a16 R t1 t5_0 t5_1 t6 t32 H (fun t4 H => kR t4 H))
theorem g6_p19_lin {a9 : T9} {a10 : T10} {a12 : T12} {a13 : T13} {a11 : T11} {a18 : T18} {a19 : T19} {a15 : T15} {a24 : T24} {a22 : T22} {a16 : T16} (la9 : Lin9 a9) (la10 : Lin10 a10) (la12 : Lin12 a12) (la13 : Lin13 a13) (la11 : Lin11 a11) (la18 : Lin18 a18) (la19 : Lin19 a19) (la15 : Lin15 a15) (la24 : Lin24 a24) (la22 : Lin22 a22) (la16 : Lin16 a16) {R S : Type} {k : S → Option R} {t0_0 : Int} {t0_1 : Int} {t0_2 : Int} {t0_3 : Int} {t0_4 : Int} {t0_5 : Int} {t0_6 : Int} {t1 : Sl} {H : Heap} {fkR : Bool → Heap → Option R} {gkR : Bool → Heap → Option S} (hkR : ∀ t4 H, fkR t4 H = (gkR t4 H).bind k) : g6_p19 a9 a10 a12 a13 a11 a18 a19 a15 a24 a22 a16 R t0_0 t0_1 t0_2 t0_3 t0_4 t0_5 t0_6 t1 H fkR = (g6_p19 a9 a10 a12 a13 a11 a18 a19 a15 a24 a22 a16 S t0_0 t0_1 t0_2 t0_3 t0_4 t0_5 t0_6 t1 H gkR).bind k := by
  exact g6_p0_lin la9 la10 la12 la13 la11 la18 la19 la15 la24 la22 la16 (fun _ _ _ _ _ _ => g6_p18_lin la9 la10 la12 la13 la11 la18 la19 la15 la24 la22 la16 (fun _ _ => hkR _ _))
theorem g6_p19_eq (a9 : T9) (a10 : T10) (a12 : T12) (a13 : T13) (a11 : T11) (a18 : T18) (a19 : T19) (a15 : T15) (a24 : T24) (a22 : T22) (a16 : T16) (la9 : Lin9 a9) (la10 : Lin10 a10) (la12 : Lin12 a12) (la13 : Lin13 a13) (la11 : Lin11 a11) (la18 : Lin18 a18) (la19 : Lin19 a19) (la15 : Lin15 a15) (la24 : Lin24 a24) (la22 : Lin22 a22) (la16 : Lin16 a16) {R : Type} (t0_0 : Int) (t0_1 : Int) (t0_2 : Int) (t0_3 : Int) (t0_4 : Int) (t0_5 : Int) (t0_6 : Int) (t1 : Sl) (H : Heap) (K : Ex → Fr → Heap → Option R) : ev Try.prog (E6 a9 a10 a12 a13 a11 a18 a19 a15 a24 a22 a16) loopLim Try.f6.ntmps kp6 c6_15 [(0, (V.agg [(V.i .u8 t0_0), (V.i .u8 t0_1), (V.i .u8 t0_2), (V.i .u8 t0_3), (V.i .u8 t0_4), (V.i .u8 t0_5), (V.i .u8 t0_6)])), (1, (V.sl t1))] H K = g6_p19 a9 a10 a12 a13 a11 a18 a19 a15 a24 a22 a16 R t0_0 t0_1 t0_2 t0_3 t0_4 t0_5 t0_6 t1 H (fun t4 H => K .ret [(4, (V.b t4))] H) := by
  show ev Try.prog (E6 a9 a10 a12 a13 a11 a18 a19 a15 a24 a22 a16) loopLim Try.f6.ntmps kp6 (.seq (codeAt [0] b6) (.seq (codeAt [1, 0] b6) (.seq (codeAt [1, 1, 0] b6) (.seq (codeAt [1, 1, 1, 0, 0] b6) c6_14)))) [(0, (V.agg [(V.i .u8 t0_0), (V.i .u8 t0_1), (V.i .u8 t0_2), (V.i .u8 t0_3), (V.i .u8 t0_4), (V.i .u8 t0_5), (V.i .u8 t0_6)])), (1, (V.sl t1))] H K = _
  delta g6_p19
  exact (g6_p0_eq a9 a10 a12 a13 a11 a18 a19 a15 a24 a22 a16 _ t0_0 t0_1 t0_2 t0_3 t0_4 t0_5 t0_6 t1 H K).trans (congrArg (g6_p0 a9 a10 a12 a13 a11 a18 a19 a15 a24 a22 a16 R t0_0 t0_1 t0_2 t0_3 t0_4 t0_5 t0_6 t1 H) (funext fun t1 => funext fun t5_0 => funext fun t5_1 => funext fun t6 => funext fun t32 => funext fun H => g6_p18_eq a9 a10 a12 a13 a11 a18 a19 a15 a24 a22 a16 la9 la10 la12 la13 la11 la18 la19 la15 la24 la22 la16 t1 t5_0 t5_1 t6 t32 H K))
noncomputable def g6_r (a9 : T9) (a10 : T10) (a12 : T12) (a13 : T13) (a11 : T11) (a18 : T18) (a19 : T19) (a15 : T15) (a24 : T24) (a22 : T22) (a16 : T16) : T6 := fun R t0_0 t0_1 t0_2 t0_3 t0_4 t0_5 t0_6 t1 H K =>
  g6_p19 a9 a10 a12 a13 a11 a18 a19 a15 a24 a22 a16 R t0_0 t0_1 t0_2 t0_3 t0_4 t0_5 t0_6 t1 H (fun t4 H =>
    K t4 H)
theorem g6_r_lin {a9 : T9} {a10 : T10} {a12 : T12} {a13 : T13} {a11 : T11} {a18 : T18} {a19 : T19} {a15 : T15} {a24 : T24} {a22 : T22} {a16 : T16} (la9 : Lin9 a9) (la10 : Lin10 a10) (la12 : Lin12 a12) (la13 : Lin13 a13) (la11 : Lin11 a11) (la18 : Lin18 a18) (la19 : Lin19 a19) (la15 : Lin15 a15) (la24 : Lin24 a24) (la22 : Lin22 a22) (la16 : Lin16 a16) : Lin6 (g6_r a9 a10 a12 a13 a11 a18 a19 a15 a24 a22 a16) := by
  constructor
  intro R S k t0_0 t0_1 t0_2 t0_3 t0_4 t0_5 t0_6 t1 H f g h
  exact g6_p19_lin la9 la10 la12 la13 la11 la18 la19 la15 la24 la22 la16 (fun t4 H =>
    h _ _)
theorem g6_fn (a9 : T9) (a10 : T10) (a12 : T12) (a13 : T13) (a11 : T11) (a18 : T18) (a19 : T19) (a15 : T15) (a24 : T24) (a22 : T22) (a16 : T16) (la9 : Lin9 a9) (la10 : Lin10 a10) (la12 : Lin12 a12) (la13 : Lin13 a13) (la11 : Lin11 a11) (la18 : Lin18 a18) (la19 : Lin19 a19) (la15 : Lin15 a15) (la24 : Lin24 a24) (la22 : Lin22 a22) (la16 : Lin16 a16) {R : Type} (t0_0 : Int) (t0_1 : Int) (t0_2 : Int) (t0_3 : Int) (t0_4 : Int) (t0_5 : Int) (t0_6 : Int) (t1 : Sl) (H : Heap) (K : V → Heap → Option R) : evFn Try.prog (E6 a9 a10 a12 a13 a11 a18 a19 a15 a24 a22 a16) loopLim Try.f6 kp6 [(V.agg [(V.i .u8 t0_0), (V.i .u8 t0_1), (V.i .u8 t0_2), (V.i .u8 t0_3), (V.i .u8 t0_4), (V.i .u8 t0_5), (V.i .u8 t0_6)]), (V.sl t1)] H K = g6_r a9 a10 a12 a13 a11 a18 a19 a15 a24 a22 a16 R t0_0 t0_1 t0_2 t0_3 t0_4 t0_5 t0_6 t1 H (fun r0 H => K (V.b r0) H) := by
  have h0 : ∀ (t4 : Bool) (H : Heap), kFn Try.prog Try.f6.results.toList K .ret [(4, (V.b t4))] H =
      K (V.b t4) H := by intros; kernel_rfl
  have e0 := evFn_code2 (P := Try.prog) (c := c6_15) (E := (E6 a9 a10 a12 a13 a11 a18 a19 a15 a24 a22 a16)) (lr := loopLim) (kp := kp6) (fn := Try.f6) (args := [(V.agg [(V.i .u8 t0_0), (V.i .u8 t0_1), (V.i .u8 t0_2), (V.i .u8 t0_3), (V.i .u8 t0_4), (V.i .u8 t0_5), (V.i .u8 t0_6)]), (V.sl t1)]) H K (by kernel_rfl) (Nat.le_of_ble_eq_true (by kernel_rfl)) (by kernel_rfl)
  have e1 : ev Try.prog (E6 a9 a10 a12 a13 a11 a18 a19 a15 a24 a22 a16) loopLim Try.f6.ntmps kp6 c6_15 (argFr 0 [(V.agg [(V.i .u8 t0_0), (V.i .u8 t0_1), (V.i .u8 t0_2), (V.i .u8 t0_3), (V.i .u8 t0_4), (V.i .u8 t0_5), (V.i .u8 t0_6)]), (V.sl t1)]) H (kFn Try.prog Try.f6.results.toList K) = ev Try.prog (E6 a9 a10 a12 a13 a11 a18 a19 a15 a24 a22 a16) loopLim Try.f6.ntmps kp6 c6_15 [(0, (V.agg [(V.i .u8 t0_0), (V.i .u8 t0_1), (V.i .u8 t0_2), (V.i .u8 t0_3), (V.i .u8 t0_4), (V.i .u8 t0_5), (V.i .u8 t0_6)])), (1, (V.sl t1))] H (kFn Try.prog Try.f6.results.toList K) := by kernel_rfl
  refine (e0.trans e1).trans ?_
  delta g6_r
  exact (g6_p19_eq a9 a10 a12 a13 a11 a18 a19 a15 a24 a22 a16 la9 la10 la12 la13 la11 la18 la19 la15 la24 la22 la16 t0_0 t0_1 t0_2 t0_3 t0_4 t0_5 t0_6 t1 H (kFn Try.prog Try.f6.results.toList K)).trans (congrArg (g6_p19 a9 a10 a12 a13 a11 a18 a19 a15 a24 a22 a16 R t0_0 t0_1 t0_2 t0_3 t0_4 t0_5 t0_6 t1 H) (funext fun t4 => funext fun H => h0 t4 H))
theorem g6_ok {a9 : T9} {a10 : T10} {a12 : T12} {a13 : T13} {a11 : T11} {a18 : T18} {a19 : T19} {a15 : T15} {a24 : T24} {a22 : T22} {a16 : T16} (oa9 : FunOK Try.prog 9 (w9 a9)) (oa10 : FunOK Try.prog 10 (w10 a10)) (oa12 : FunOK Try.prog 12 (w12 a12)) (oa13 : FunOK Try.prog 13 (w13 a13)) (oa11 : FunOK Try.prog 11 (w11 a11)) (oa18 : FunOK Try.prog 18 (w18 a18)) (oa19 : FunOK Try.prog 19 (w19 a19)) (oa15 : FunOK Try.prog 15 (w15 a15)) (oa24 : FunOK Try.prog 24 (w24 a24)) (oa22 : FunOK Try.prog 22 (w22 a22)) (oa16 : FunOK Try.prog 16 (w16 a16)) (la9 : Lin9 a9) (la10 : Lin10 a10) (la12 : Lin12 a12) (la13 : Lin13 a13) (la11 : Lin11 a11) (la18 : Lin18 a18) (la19 : Lin19 a19) (la15 : Lin15 a15) (la24 : Lin24 a24) (la22 : Lin22 a22) (la16 : Lin16 a16) : FunOK Try.prog 6 (w6 (g6_r a9 a10 a12 a13 a11 a18 a19 a15 a24 a22 a16)) := by
  refine (runF_ok (E6_good oa9 oa10 oa12 oa13 oa11 oa18 oa19 oa15 oa24 oa22 oa16 la9 la10 la12 la13 la11 la18 la19 la15 la24 la22 la16) mixed lim_ok Try.func6 (by kernel_rfl) kp6).of_le fun R args H K r hk => ?_
  unfold w6 at hk
  split at hk
  · exact (g6_fn a9 a10 a12 a13 a11 a18 a19 a15 a24 a22 a16 la9 la10 la12 la13 la11 la18 la19 la15 la24 la22 la16 _ _ _ _ _ _ _ _ H K).trans hk
  · cases hk
end Go.Proofs.Ytkldpkemnmmbgaa

