/- Printed: functions as the machine runs them. -/
import Derived.Test.YteipplgcdbaokaaDoorGT
namespace Go.Proofs.YteipplgcdbaokaaDoor
open Go AM Go.RowKit
set_option linter.unusedVariables false
def kp7 : Nat → Option (List Nat) := kpOf [(0, [1]), (1, [3]), (2, [3, 4]), (3, [3, 4, 29]), (4, [3, 4, 5]), (5, [3, 4, 5, 6]), (6, [3, 4, 5, 6, 34]), (7, [3, 4, 5, 6]), (8, [3, 4, 5, 6]), (9, [3, 4]), (10, [3, 4, 29, 72]), (11, [3, 4]), (12, [3, 4, 76]), (13, [3, 4]), (14, [2]), (100000, [3, 4]), (100001, [3, 4, 5]), (100002, [3, 4, 5, 6]), (200000, [3, 4, 29]), (200001, [3, 4, 5, 6]), (200002, [3, 4, 5, 6]), (300000, [2]), (400034, [3, 4, 5, 6]), (400072, [3, 4]), (400076, [3, 4])]
def E7 (a21 : T21) (a22 : T22) (a23 : T23) (a12 : T12) (a8 : T8) : FEnv := [(21, w21 a21), (22, w22 a22), (23, w23 a23), (12, w12 a12), (8, w8 a8)]
theorem E7_good {a21 : T21} {a22 : T22} {a23 : T23} {a12 : T12} {a8 : T8} (oa21 : FunOK Tryd.prog 21 (w21 a21)) (oa22 : FunOK Tryd.prog 22 (w22 a22)) (oa23 : FunOK Tryd.prog 23 (w23 a23)) (oa12 : FunOK Tryd.prog 12 (w12 a12)) (oa8 : FunOK Tryd.prog 8 (w8 a8)) (la21 : Lin21 a21) (la22 : Lin22 a22) (la23 : Lin23 a23) (la12 : Lin12 a12) (la8 : Lin8 a8) : EnvGood Tryd.prog (E7 a21 a22 a23 a12 a8) := ((((((EnvGood.nil _).cons oa8 (w8_lin la8)).cons oa12 (w12_lin la12)).cons oa23 (w23_lin la23)).cons oa22 (w22_lin la22)).cons oa21 (w21_lin la21))
theorem E7_lin {a21 : T21} {a22 : T22} {a23 : T23} {a12 : T12} {a8 : T8} (la21 : Lin21 a21) (la22 : Lin22 a22) (la23 : Lin23 a23) (la12 : Lin12 a12) (la8 : Lin8 a8) : EnvLin (E7 a21 a22 a23 a12 a8) := by
  intro g F h
  simp only [E7, List.mem_cons, List.not_mem_nil, or_false] at h
  rcases h with h | h | h | h | h
  · cases h; exact w21_lin la21
  · cases h; exact w22_lin la22
  · cases h; exact w23_lin la23
  · cases h; exact w12_lin la12
  · cases h; exact w8_lin la8
noncomputable def b7 : Code := Tryd.f7.body.getD .skip
noncomputable def c7_0 : Code := (codeAt [1, 1, 1, 0, 1, 0, 1, 0] b7)
noncomputable def c7_1 : Code := (codeAt [1, 1, 1, 0, 1, 0, 1, 1, 1, 0] b7)
noncomputable def c7_2 : Code := (.seq (codeAt [1, 1, 1, 0, 1, 0, 1, 1, 1, 1, 1, 0, 1, 0, 0, 0, 0] b7) (.seq (.cond (.tmp 34) .skip (.exit 1)) (.seq (.block 2 (codeAt [1, 1, 1, 0, 1, 0, 1, 1, 1, 1, 1, 0, 1, 0, 0, 1, 0, 0] b7)) (codeAt [1, 1, 1, 0, 1, 0, 1, 1, 1, 1, 1, 0, 1, 0, 0, 1, 1] b7))))
noncomputable def c7_3 : Code := (.loop c7_2)
noncomputable def c7_4 : Code := (.block 1 c7_3)
noncomputable def c7_5 : Code := (codeAt [1, 1, 1, 0, 1, 0, 1, 1, 1, 1, 1, 1] b7)
noncomputable def c7_6 : Code := (.seq c7_4 c7_5)
noncomputable def c7_7 : Code := (.seq (codeAt [1, 1, 1, 0, 1, 0, 1, 1, 1, 1, 0] b7) (.seq (codeAt [1, 1, 1, 0, 1, 0, 1, 1, 1, 1, 1, 0, 0] b7) c7_6))
noncomputable def c7_8 : Code := (.cond (.tmp 76) c7_1 c7_7)
noncomputable def c7_9 : Code := (.seq (codeAt [1, 1, 1, 0, 1, 0, 1, 1, 0] b7) c7_8)
noncomputable def c7_10 : Code := (.cond (.tmp 72) c7_0 c7_9)
noncomputable def c7_11 : Code := (.seq (codeAt [1, 1, 1, 0, 1, 0, 0] b7) c7_10)
noncomputable def c7_12 : Code := (.block 0 c7_11)
noncomputable def c7_13 : Code := (.seq (codeAt [1, 1, 1, 1, 0] b7) .ret)
noncomputable def c7_14 : Code := (.seq c7_12 c7_13)
noncomputable def c7_15 : Code := (.seq (codeAt [0] b7) (.seq (codeAt [1, 0] b7) (.seq (codeAt [1, 1, 0] b7) (.seq (codeAt [1, 1, 1, 0, 0] b7) c7_14))))
noncomputable def g7_p0 (a21 : T21) (a22 : T22) (a23 : T23) (a12 : T12) (a8 : T8) (R : Type) (t0_0 : Int) (t0_1 : Int) (t0_2 : Int) (t0_3 : Int) (t0_4 : Int) (t0_5 : Sl) (H : Heap) (kN : Nat → Nat → ByteArray → Int → Heap → Option R) : Option R :=
  alo H (.cells [(V.i .u8 t0_0), (V.i .u8 t0_1), (V.i .u8 t0_2), (V.i .u8 t0_3), (V.i .u16 t0_4), (V.sl t0_5)] 46 false) fun i64 h65 =>
  ((h65).ldI .u8 i64 (0 + 0)).bind fun x66 =>
  ((h65).ldI .u8 i64 (0 + 1)).bind fun x67 =>
  ((h65).ldI .u8 i64 (0 + 2)).bind fun x68 =>
  ((h65).ldI .u8 i64 (0 + 3)).bind fun x69 =>
  ((h65).ldI .u16 i64 (0 + 4)).bind fun x70 =>
  ((h65).ldSl i64 (0 + 5)).bind fun x71 =>
  a21 R x66 x67 x68 x69 x70 x71 h65 fun x72 x73 x74 x75 x76 x77 x78 h79 =>
  alo h79 (.cells [(V.i .u8 (0 : Int)), (V.b false), (V.i .u8 (0 : Int)), (V.b false), (V.i .u8 (0 : Int)), (V.i .u8 (0 : Int)), (V.sl (Sl.mk none 0 (.ex 0)))] 25 false) fun i80 h81 =>
  ((h81).sts i80 0 [(V.i .u8 x72), (V.b x73), (V.i .u8 x74), (V.b x75), (V.i .u8 x76), (V.i .u8 x77), (V.sl x78)]).bind fun h82 =>
  ((h82).ldI .u8 i80 (0 + 0)).bind fun x83 =>
  a22 R (IntKind.wrap .i64 x83) h82 fun x84 h85 =>
  catS str5 x84 fun z86 =>
  ((h85).ldB i80 (0 + 1)).bind fun x87 =>
  ((h82).ldB i80 (0 + 1)).bind fun x88 =>
  if V.same (V.b x87) (V.b x88) = true then (
    a23 R x87 h85 fun x89 h90 =>
    catS z86 x89 fun z91 =>
    catS z91 str6 fun z92 =>
    ((h90).ldI .u8 i80 (0 + 2)).bind fun x93 =>
    ((h82).ldI .u8 i80 (0 + 2)).bind fun x94 =>
    if V.same (V.i .u8 x93) (V.i .u8 x94) = true then (
      ((h85).ldI .u8 i80 (0 + 2)).bind fun x95 =>
      if V.same (V.i .u8 x93) (V.i .u8 x95) = true then (
        a22 R (IntKind.wrap .i64 x93) h90 fun x96 h97 =>
        catS z92 x96 fun z98 =>
        ((h97).ldB i80 (0 + 3)).bind fun x99 =>
        ((h82).ldB i80 (0 + 3)).bind fun x100 =>
        if V.same (V.b x99) (V.b x100) = true then (
          ((h85).ldB i80 (0 + 3)).bind fun x101 =>
          if V.same (V.b x99) (V.b x101) = true then (
            ((h90).ldB i80 (0 + 3)).bind fun x102 =>
            if V.same (V.b x99) (V.b x102) = true then (
              a23 R x99 h97 fun x103 h104 =>
              catS z98 x103 fun z105 =>
              ((h104).ldI .u8 i80 (0 + 4)).bind fun x106 =>
              kN i80 0 z105 x106 h104)
            else (
              none))
          else (
            none))
        else (
          none))
      else (
        none))
    else (
      none))
  else (
    none)
theorem g7_p0_eq (a21 : T21) (a22 : T22) (a23 : T23) (a12 : T12) (a8 : T8) {R : Type} (c2 : Code) (t0_0 : Int) (t0_1 : Int) (t0_2 : Int) (t0_3 : Int) (t0_4 : Int) (t0_5 : Sl) (H : Heap) (K : Ex → Fr → Heap → Option R) : ev Tryd.prog (E7 a21 a22 a23 a12 a8) loopLim Tryd.f7.ntmps kp7 (.seq (codeAt [0] b7) (.seq (codeAt [1, 0] b7) (.seq (codeAt [1, 1, 0] b7) (.seq (codeAt [1, 1, 1, 0, 0] b7) c2)))) [(0, (V.agg [(V.i .u8 t0_0), (V.i .u8 t0_1), (V.i .u8 t0_2), (V.i .u8 t0_3), (V.i .u16 t0_4), (V.sl t0_5)]))] H K = g7_p0 a21 a22 a23 a12 a8 R t0_0 t0_1 t0_2 t0_3 t0_4 t0_5 H (fun t3_0 t3_1 t4 t29 H => ev Tryd.prog (E7 a21 a22 a23 a12 a8) loopLim Tryd.f7.ntmps kp7 c2 [(3, (V.p (some (t3_0, t3_1)))), (4, (V.s t4)), (29, (V.i .u8 t29))] H K) := by kernel_rfl
theorem g7_p0_lin {a21 : T21} {a22 : T22} {a23 : T23} {a12 : T12} {a8 : T8} (la21 : Lin21 a21) (la22 : Lin22 a22) (la23 : Lin23 a23) (la12 : Lin12 a12) (la8 : Lin8 a8) {R S : Type} {k : S → Option R} {t0_0 : Int} {t0_1 : Int} {t0_2 : Int} {t0_3 : Int} {t0_4 : Int} {t0_5 : Sl} {H : Heap} {fkN : Nat → Nat → ByteArray → Int → Heap → Option R} {gkN : Nat → Nat → ByteArray → Int → Heap → Option S} (hkN : ∀ t3_0 t3_1 t4 t29 H, fkN t3_0 t3_1 t4 t29 H = (gkN t3_0 t3_1 t4 t29 H).bind k) : g7_p0 a21 a22 a23 a12 a8 R t0_0 t0_1 t0_2 t0_3 t0_4 t0_5 H fkN = (g7_p0 a21 a22 a23 a12 a8 S t0_0 t0_1 t0_2 t0_3 t0_4 t0_5 H gkN).bind k := by
  delta g7_p0; exact (
    alo_lin fun i64 h65 =>
    bl fun x66 =>
    bl fun x67 =>
    bl fun x68 =>
    bl fun x69 =>
    bl fun x70 =>
    bl fun x71 =>
    la21.l fun x72 x73 x74 x75 x76 x77 x78 h79 =>
    alo_lin fun i80 h81 =>
    bl fun h82 =>
    bl fun x83 =>
    la22.l fun x84 h85 =>
    catS_lin fun z86 =>
    bl fun x87 =>
    bl fun x88 =>
    il (
      la23.l fun x89 h90 =>
      catS_lin fun z91 =>
      catS_lin fun z92 =>
      bl fun x93 =>
      bl fun x94 =>
      il (
        bl fun x95 =>
        il (
          la22.l fun x96 h97 =>
          catS_lin fun z98 =>
          bl fun x99 =>
          bl fun x100 =>
          il (
            bl fun x101 =>
            il (
              bl fun x102 =>
              il (
                la23.l fun x103 h104 =>
                catS_lin fun z105 =>
                bl fun x106 =>
                hkN _ _ _ _ _) (
                rfl)) (
              rfl)) (
            rfl)) (
          rfl)) (
        rfl)) (
      rfl))
noncomputable def g7_p1 (a21 : T21) (a22 : T22) (a23 : T23) (a12 : T12) (a8 : T8) (R : Type) (t3_0 : Nat) (t3_1 : Nat) (t4 : ByteArray) (t29 : Int) (H : Heap) (kN : Nat → Nat → ByteArray → Int → Bool → Heap → Option R) : Option R :=
  kN t3_0 t3_1 t4 t29 (t29 == (0 : Int)) H
theorem g7_p1_eq (a21 : T21) (a22 : T22) (a23 : T23) (a12 : T12) (a8 : T8) {R : Type} (c2 : Code) (t3_0 : Nat) (t3_1 : Nat) (t4 : ByteArray) (t29 : Int) (H : Heap) (K : Ex → Fr → Heap → Option R) : ev Tryd.prog (E7 a21 a22 a23 a12 a8) loopLim Tryd.f7.ntmps kp7 (.seq (codeAt [1, 1, 1, 0, 1, 0, 0] b7) c2) [(3, (V.p (some (t3_0, t3_1)))), (4, (V.s t4)), (29, (V.i .u8 t29))] H K = g7_p1 a21 a22 a23 a12 a8 R t3_0 t3_1 t4 t29 H (fun t3_0 t3_1 t4 t29 t72 H => ev Tryd.prog (E7 a21 a22 a23 a12 a8) loopLim Tryd.f7.ntmps kp7 c2 [(3, (V.p (some (t3_0, t3_1)))), (4, (V.s t4)), (29, (V.i .u8 t29)), (72, (V.b t72))] H K) := by kernel_rfl
theorem g7_p1_lin {a21 : T21} {a22 : T22} {a23 : T23} {a12 : T12} {a8 : T8} (la21 : Lin21 a21) (la22 : Lin22 a22) (la23 : Lin23 a23) (la12 : Lin12 a12) (la8 : Lin8 a8) {R S : Type} {k : S → Option R} {t3_0 : Nat} {t3_1 : Nat} {t4 : ByteArray} {t29 : Int} {H : Heap} {fkN : Nat → Nat → ByteArray → Int → Bool → Heap → Option R} {gkN : Nat → Nat → ByteArray → Int → Bool → Heap → Option S} (hkN : ∀ t3_0 t3_1 t4 t29 t72 H, fkN t3_0 t3_1 t4 t29 t72 H = (gkN t3_0 t3_1 t4 t29 t72 H).bind k) : g7_p1 a21 a22 a23 a12 a8 R t3_0 t3_1 t4 t29 H fkN = (g7_p1 a21 a22 a23 a12 a8 S t3_0 t3_1 t4 t29 H gkN).bind k := by
  delta g7_p1; exact (
    hkN _ _ _ _ _ _)
noncomputable def g7_p2 (a21 : T21) (a22 : T22) (a23 : T23) (a12 : T12) (a8 : T8) (R : Type) (t3_0 : Nat) (t3_1 : Nat) (t4 : ByteArray) (t29 : Int) (t72 : Bool) (H : Heap) (kN : Nat → Nat → ByteArray → Heap → Option R) : Option R :=
  catS t4 str10 fun z107 =>
  kN t3_0 t3_1 z107 H
theorem g7_p2_eq (a21 : T21) (a22 : T22) (a23 : T23) (a12 : T12) (a8 : T8) (la21 : Lin21 a21) (la22 : Lin22 a22) (la23 : Lin23 a23) (la12 : Lin12 a12) (la8 : Lin8 a8) {R : Type} (t3_0 : Nat) (t3_1 : Nat) (t4 : ByteArray) (t29 : Int) (t72 : Bool) (H : Heap) (K : Ex → Fr → Heap → Option R) : ev Tryd.prog (E7 a21 a22 a23 a12 a8) loopLim Tryd.f7.ntmps kp7 c7_0 [(3, (V.p (some (t3_0, t3_1)))), (4, (V.s t4)), (29, (V.i .u8 t29)), (72, (V.b t72))] H K = g7_p2 a21 a22 a23 a12 a8 R t3_0 t3_1 t4 t29 t72 H (fun t3_0 t3_1 t4 H => K .normal [(3, (V.p (some (t3_0, t3_1)))), (4, (V.s t4))] H) := by kernel_rfl
theorem g7_p2_lin {a21 : T21} {a22 : T22} {a23 : T23} {a12 : T12} {a8 : T8} (la21 : Lin21 a21) (la22 : Lin22 a22) (la23 : Lin23 a23) (la12 : Lin12 a12) (la8 : Lin8 a8) {R S : Type} {k : S → Option R} {t3_0 : Nat} {t3_1 : Nat} {t4 : ByteArray} {t29 : Int} {t72 : Bool} {H : Heap} {fkN : Nat → Nat → ByteArray → Heap → Option R} {gkN : Nat → Nat → ByteArray → Heap → Option S} (hkN : ∀ t3_0 t3_1 t4 H, fkN t3_0 t3_1 t4 H = (gkN t3_0 t3_1 t4 H).bind k) : g7_p2 a21 a22 a23 a12 a8 R t3_0 t3_1 t4 t29 t72 H fkN = (g7_p2 a21 a22 a23 a12 a8 S t3_0 t3_1 t4 t29 t72 H gkN).bind k := by
  delta g7_p2; exact (
    catS_lin fun z107 =>
    hkN _ _ _ _)
noncomputable def g7_p3 (a21 : T21) (a22 : T22) (a23 : T23) (a12 : T12) (a8 : T8) (R : Type) (t3_0 : Nat) (t3_1 : Nat) (t4 : ByteArray) (t29 : Int) (t72 : Bool) (H : Heap) (kN : Nat → Nat → ByteArray → Bool → Heap → Option R) : Option R :=
  kN t3_0 t3_1 t4 (t29 == (1 : Int)) H
theorem g7_p3_eq (a21 : T21) (a22 : T22) (a23 : T23) (a12 : T12) (a8 : T8) {R : Type} (c2 : Code) (t3_0 : Nat) (t3_1 : Nat) (t4 : ByteArray) (t29 : Int) (t72 : Bool) (H : Heap) (K : Ex → Fr → Heap → Option R) : ev Tryd.prog (E7 a21 a22 a23 a12 a8) loopLim Tryd.f7.ntmps kp7 (.seq (codeAt [1, 1, 1, 0, 1, 0, 1, 1, 0] b7) c2) [(3, (V.p (some (t3_0, t3_1)))), (4, (V.s t4)), (29, (V.i .u8 t29)), (72, (V.b t72))] H K = g7_p3 a21 a22 a23 a12 a8 R t3_0 t3_1 t4 t29 t72 H (fun t3_0 t3_1 t4 t76 H => ev Tryd.prog (E7 a21 a22 a23 a12 a8) loopLim Tryd.f7.ntmps kp7 c2 [(3, (V.p (some (t3_0, t3_1)))), (4, (V.s t4)), (76, (V.b t76))] H K) := by kernel_rfl
theorem g7_p3_lin {a21 : T21} {a22 : T22} {a23 : T23} {a12 : T12} {a8 : T8} (la21 : Lin21 a21) (la22 : Lin22 a22) (la23 : Lin23 a23) (la12 : Lin12 a12) (la8 : Lin8 a8) {R S : Type} {k : S → Option R} {t3_0 : Nat} {t3_1 : Nat} {t4 : ByteArray} {t29 : Int} {t72 : Bool} {H : Heap} {fkN : Nat → Nat → ByteArray → Bool → Heap → Option R} {gkN : Nat → Nat → ByteArray → Bool → Heap → Option S} (hkN : ∀ t3_0 t3_1 t4 t76 H, fkN t3_0 t3_1 t4 t76 H = (gkN t3_0 t3_1 t4 t76 H).bind k) : g7_p3 a21 a22 a23 a12 a8 R t3_0 t3_1 t4 t29 t72 H fkN = (g7_p3 a21 a22 a23 a12 a8 S t3_0 t3_1 t4 t29 t72 H gkN).bind k := by
  delta g7_p3; exact (
    hkN _ _ _ _ _)
noncomputable def g7_p4 (a21 : T21) (a22 : T22) (a23 : T23) (a12 : T12) (a8 : T8) (R : Type) (t3_0 : Nat) (t3_1 : Nat) (t4 : ByteArray) (t76 : Bool) (H : Heap) (kN : Nat → Nat → ByteArray → Heap → Option R) : Option R :=
  catS t4 str7 fun z108 =>
  ((H).ldI .u8 t3_0 (t3_1 + 5)).bind fun x109 =>
  a22 R (IntKind.wrap .i64 x109) H fun x110 h111 =>
  catS z108 x110 fun z112 =>
  kN t3_0 t3_1 z112 h111
theorem g7_p4_eq (a21 : T21) (a22 : T22) (a23 : T23) (a12 : T12) (a8 : T8) (la21 : Lin21 a21) (la22 : Lin22 a22) (la23 : Lin23 a23) (la12 : Lin12 a12) (la8 : Lin8 a8) {R : Type} (t3_0 : Nat) (t3_1 : Nat) (t4 : ByteArray) (t76 : Bool) (H : Heap) (K : Ex → Fr → Heap → Option R) : ev Tryd.prog (E7 a21 a22 a23 a12 a8) loopLim Tryd.f7.ntmps kp7 c7_1 [(3, (V.p (some (t3_0, t3_1)))), (4, (V.s t4)), (76, (V.b t76))] H K = g7_p4 a21 a22 a23 a12 a8 R t3_0 t3_1 t4 t76 H (fun t3_0 t3_1 t4 H => K .normal [(3, (V.p (some (t3_0, t3_1)))), (4, (V.s t4))] H) := by kernel_rfl
theorem g7_p4_lin {a21 : T21} {a22 : T22} {a23 : T23} {a12 : T12} {a8 : T8} (la21 : Lin21 a21) (la22 : Lin22 a22) (la23 : Lin23 a23) (la12 : Lin12 a12) (la8 : Lin8 a8) {R S : Type} {k : S → Option R} {t3_0 : Nat} {t3_1 : Nat} {t4 : ByteArray} {t76 : Bool} {H : Heap} {fkN : Nat → Nat → ByteArray → Heap → Option R} {gkN : Nat → Nat → ByteArray → Heap → Option S} (hkN : ∀ t3_0 t3_1 t4 H, fkN t3_0 t3_1 t4 H = (gkN t3_0 t3_1 t4 H).bind k) : g7_p4 a21 a22 a23 a12 a8 R t3_0 t3_1 t4 t76 H fkN = (g7_p4 a21 a22 a23 a12 a8 S t3_0 t3_1 t4 t76 H gkN).bind k := by
  delta g7_p4; exact (
    catS_lin fun z108 =>
    bl fun x109 =>
    la22.l fun x110 h111 =>
    catS_lin fun z112 =>
    hkN _ _ _ _)
noncomputable def g7_p5 (a21 : T21) (a22 : T22) (a23 : T23) (a12 : T12) (a8 : T8) (R : Type) (t3_0 : Nat) (t3_1 : Nat) (t4 : ByteArray) (t76 : Bool) (H : Heap) (kN : Nat → Nat → ByteArray → ByteArray → Int → Heap → Option R) : Option R :=
  kN t3_0 t3_1 t4 str2 (0 : Int) H
theorem g7_p5_eq (a21 : T21) (a22 : T22) (a23 : T23) (a12 : T12) (a8 : T8) {R : Type} (c2 : Code) (t3_0 : Nat) (t3_1 : Nat) (t4 : ByteArray) (t76 : Bool) (H : Heap) (K : Ex → Fr → Heap → Option R) : ev Tryd.prog (E7 a21 a22 a23 a12 a8) loopLim Tryd.f7.ntmps kp7 (.seq (codeAt [1, 1, 1, 0, 1, 0, 1, 1, 1, 1, 0] b7) (.seq (codeAt [1, 1, 1, 0, 1, 0, 1, 1, 1, 1, 1, 0, 0] b7) c2)) [(3, (V.p (some (t3_0, t3_1)))), (4, (V.s t4)), (76, (V.b t76))] H K = g7_p5 a21 a22 a23 a12 a8 R t3_0 t3_1 t4 t76 H (fun t3_0 t3_1 t4 t5 t6 H => ev Tryd.prog (E7 a21 a22 a23 a12 a8) loopLim Tryd.f7.ntmps kp7 c2 [(3, (V.p (some (t3_0, t3_1)))), (4, (V.s t4)), (5, (V.s t5)), (6, (V.i .i64 t6))] H K) := by kernel_rfl
theorem g7_p5_lin {a21 : T21} {a22 : T22} {a23 : T23} {a12 : T12} {a8 : T8} (la21 : Lin21 a21) (la22 : Lin22 a22) (la23 : Lin23 a23) (la12 : Lin12 a12) (la8 : Lin8 a8) {R S : Type} {k : S → Option R} {t3_0 : Nat} {t3_1 : Nat} {t4 : ByteArray} {t76 : Bool} {H : Heap} {fkN : Nat → Nat → ByteArray → ByteArray → Int → Heap → Option R} {gkN : Nat → Nat → ByteArray → ByteArray → Int → Heap → Option S} (hkN : ∀ t3_0 t3_1 t4 t5 t6 H, fkN t3_0 t3_1 t4 t5 t6 H = (gkN t3_0 t3_1 t4 t5 t6 H).bind k) : g7_p5 a21 a22 a23 a12 a8 R t3_0 t3_1 t4 t76 H fkN = (g7_p5 a21 a22 a23 a12 a8 S t3_0 t3_1 t4 t76 H gkN).bind k := by
  delta g7_p5; exact (
    hkN _ _ _ _ _ _)
noncomputable def g7_p6 (a21 : T21) (a22 : T22) (a23 : T23) (a12 : T12) (a8 : T8) (R : Type) (t3_0 : Nat) (t3_1 : Nat) (t4 : ByteArray) (t5 : ByteArray) (t6 : Int) (H : Heap) (kN : Nat → Nat → ByteArray → ByteArray → Int → Heap → Option R) (kE1 : Nat → Nat → ByteArray → ByteArray → Heap → Option R) : Option R :=
  ((H).ldSl t3_0 (t3_1 + 6)).bind fun x113 =>
  sel (decide (t6 < ((x113.len : Nat) : Int))) (
    ((H).ldSl t3_0 (t3_1 + 6)).bind fun x114 =>
    if 0 ≤ t6 ∧ t6 < ((x114.len : Nat) : Int) then (
      (x114.a).bind fun q115 =>
      ((H).ldI .u8 q115.1 (q115.2 + Int.toNat t6 * 1)).bind fun x116 =>
      ((H).ldSl t3_0 (t3_1 + 6)).bind fun x117 =>
      if 0 ≤ t6 ∧ t6 < ((x117.len : Nat) : Int) then (
        (x117.a).bind fun q118 =>
        ((H).ldI .u8 q118.1 (q118.2 + Int.toNat t6 * 1)).bind fun x119 =>
        if 0 ≤ (IntKind.wrap .u8 (Int.tdiv x116 (16 : Int))) ∧ (IntKind.wrap .u8 (Int.tdiv x116 (16 : Int))) ≤ (IntKind.wrap .u8 ((IntKind.wrap .u8 (Int.tdiv x119 (16 : Int))) + (1 : Int))) ∧ (IntKind.wrap .u8 ((IntKind.wrap .u8 (Int.tdiv x119 (16 : Int))) + (1 : Int))) ≤ ((str9.size : Nat) : Int) then (
          catS t5 (subS str9 (IntKind.wrap .u8 (Int.tdiv x116 (16 : Int))) (IntKind.wrap .u8 ((IntKind.wrap .u8 (Int.tdiv x119 (16 : Int))) + (1 : Int)))) fun z120 =>
          ((H).ldSl t3_0 (t3_1 + 6)).bind fun x121 =>
          if 0 ≤ t6 ∧ t6 < ((x121.len : Nat) : Int) then (
            (x121.a).bind fun q122 =>
            ((H).ldI .u8 q122.1 (q122.2 + Int.toNat t6 * 1)).bind fun x123 =>
            ((H).ldSl t3_0 (t3_1 + 6)).bind fun x124 =>
            if 0 ≤ t6 ∧ t6 < ((x124.len : Nat) : Int) then (
              (x124.a).bind fun q125 =>
              ((H).ldI .u8 q125.1 (q125.2 + Int.toNat t6 * 1)).bind fun x126 =>
              if 0 ≤ (Int.tmod x123 (16 : Int)) ∧ (Int.tmod x123 (16 : Int)) ≤ (IntKind.wrap .u8 ((Int.tmod x126 (16 : Int)) + (1 : Int))) ∧ (IntKind.wrap .u8 ((Int.tmod x126 (16 : Int)) + (1 : Int))) ≤ ((str9.size : Nat) : Int) then (
                catS z120 (subS str9 (Int.tmod x123 (16 : Int)) (IntKind.wrap .u8 ((Int.tmod x126 (16 : Int)) + (1 : Int)))) fun z127 =>
                kN t3_0 t3_1 t4 z127 (IntKind.wrap .i64 (t6 + (1 : Int))) H)
              else (
                none))
            else (
              none))
          else (
            none))
        else (
          none))
      else (
        none))
    else (
      none)) (
    kE1 t3_0 t3_1 t4 t5 H)
theorem g7_p6_eq (a21 : T21) (a22 : T22) (a23 : T23) (a12 : T12) (a8 : T8) (la21 : Lin21 a21) (la22 : Lin22 a22) (la23 : Lin23 a23) (la12 : Lin12 a12) (la8 : Lin8 a8) {R : Type} (t3_0 : Nat) (t3_1 : Nat) (t4 : ByteArray) (t5 : ByteArray) (t6 : Int) (H : Heap) (K : Ex → Fr → Heap → Option R) : ev Tryd.prog (E7 a21 a22 a23 a12 a8) loopLim Tryd.f7.ntmps kp7 c7_2 [(3, (V.p (some (t3_0, t3_1)))), (4, (V.s t4)), (5, (V.s t5)), (6, (V.i .i64 t6))] H K = g7_p6 a21 a22 a23 a12 a8 R t3_0 t3_1 t4 t5 t6 H (fun t3_0 t3_1 t4 t5 t6 H => K .normal [(3, (V.p (some (t3_0, t3_1)))), (4, (V.s t4)), (5, (V.s t5)), (6, (V.i .i64 t6))] H) (fun t3_0 t3_1 t4 t5 H => K (.exit 1) [(3, (V.p (some (t3_0, t3_1)))), (4, (V.s t4)), (5, (V.s t5))] H) := by kernel_rfl
theorem g7_p6_lin {a21 : T21} {a22 : T22} {a23 : T23} {a12 : T12} {a8 : T8} (la21 : Lin21 a21) (la22 : Lin22 a22) (la23 : Lin23 a23) (la12 : Lin12 a12) (la8 : Lin8 a8) {R S : Type} {k : S → Option R} {t3_0 : Nat} {t3_1 : Nat} {t4 : ByteArray} {t5 : ByteArray} {t6 : Int} {H : Heap} {fkN : Nat → Nat → ByteArray → ByteArray → Int → Heap → Option R} {gkN : Nat → Nat → ByteArray → ByteArray → Int → Heap → Option S} {fkE1 : Nat → Nat → ByteArray → ByteArray → Heap → Option R} {gkE1 : Nat → Nat → ByteArray → ByteArray → Heap → Option S} (hkN : ∀ t3_0 t3_1 t4 t5 t6 H, fkN t3_0 t3_1 t4 t5 t6 H = (gkN t3_0 t3_1 t4 t5 t6 H).bind k) (hkE1 : ∀ t3_0 t3_1 t4 t5 H, fkE1 t3_0 t3_1 t4 t5 H = (gkE1 t3_0 t3_1 t4 t5 H).bind k) : g7_p6 a21 a22 a23 a12 a8 R t3_0 t3_1 t4 t5 t6 H fkN fkE1 = (g7_p6 a21 a22 a23 a12 a8 S t3_0 t3_1 t4 t5 t6 H gkN gkE1).bind k := by
  delta g7_p6; exact (
    bl fun x113 =>
    sl_lin (
      bl fun x114 =>
      il (
        bl fun q115 =>
        bl fun x116 =>
        bl fun x117 =>
        il (
          bl fun q118 =>
          bl fun x119 =>
          il (
            catS_lin fun z120 =>
            bl fun x121 =>
            il (
              bl fun q122 =>
              bl fun x123 =>
              bl fun x124 =>
              il (
                bl fun q125 =>
                bl fun x126 =>
                il (
                  catS_lin fun z127 =>
                  hkN _ _ _ _ _ _) (
                  rfl)) (
                rfl)) (
              rfl)) (
            rfl)) (
          rfl)) (
        rfl)) (
      hkE1 _ _ _ _ _))
abbrev g7_p7_S := Nat × Nat × ByteArray × ByteArray × Int
abbrev g7_p7_O := Nat × Nat × ByteArray × ByteArray
def g7_p7_es (s : g7_p7_S) : Fr := [(3, (V.p (some (s.1, s.2.1)))), (4, (V.s s.2.2.1)), (5, (V.s s.2.2.2.1)), (6, (V.i .i64 s.2.2.2.2))]
def g7_p7_er (r : g7_p7_O) : Ex × Fr := ((.exit 1), [(3, (V.p (some (r.1, r.2.1)))), (4, (V.s r.2.2.1)), (5, (V.s r.2.2.2))])
noncomputable def g7_p7_b (a21 : T21) (a22 : T22) (a23 : T23) (a12 : T12) (a8 : T8) (s : g7_p7_S) (H : Heap) : Option (Rd g7_p7_S g7_p7_O × Heap) :=
  g7_p6 a21 a22 a23 a12 a8 _ s.1 s.2.1 s.2.2.1 s.2.2.2.1 s.2.2.2.2 H (fun t3_0 t3_1 t4 t5 t6 H => some (.go (t3_0, t3_1, t4, t5, t6), H)) (fun t3_0 t3_1 t4 t5 H => some (.up (t3_0, t3_1, t4, t5), H))
noncomputable def g7_p7 (a21 : T21) (a22 : T22) (a23 : T23) (a12 : T12) (a8 : T8) (R : Type) (t3_0 : Nat) (t3_1 : Nat) (t4 : ByteArray) (t5 : ByteArray) (t6 : Int) (H : Heap) (kE1 : Nat → Nat → ByteArray → ByteArray → Heap → Option R) : Option R :=
  (tlim (g7_p7_b a21 a22 a23 a12 a8) (t3_0, t3_1, t4, t5, t6) H).bind fun p => kE1 p.1.1 p.1.2.1 p.1.2.2.1 p.1.2.2.2 p.2
theorem g7_p7_lin {a21 : T21} {a22 : T22} {a23 : T23} {a12 : T12} {a8 : T8} (la21 : Lin21 a21) (la22 : Lin22 a22) (la23 : Lin23 a23) (la12 : Lin12 a12) (la8 : Lin8 a8) {R S : Type} {k : S → Option R} {t3_0 : Nat} {t3_1 : Nat} {t4 : ByteArray} {t5 : ByteArray} {t6 : Int} {H : Heap} {fkE1 : Nat → Nat → ByteArray → ByteArray → Heap → Option R} {gkE1 : Nat → Nat → ByteArray → ByteArray → Heap → Option S} (hkE1 : ∀ t3_0 t3_1 t4 t5 H, fkE1 t3_0 t3_1 t4 t5 H = (gkE1 t3_0 t3_1 t4 t5 H).bind k) : g7_p7 a21 a22 a23 a12 a8 R t3_0 t3_1 t4 t5 t6 H fkE1 = (g7_p7 a21 a22 a23 a12 a8 S t3_0 t3_1 t4 t5 t6 H gkE1).bind k := by
  exact bl fun p => hkE1 _ _ _ _ _
theorem g7_p7_eq (a21 : T21) (a22 : T22) (a23 : T23) (a12 : T12) (a8 : T8) (la21 : Lin21 a21) (la22 : Lin22 a22) (la23 : Lin23 a23) (la12 : Lin12 a12) (la8 : Lin8 a8) {R : Type} (t3_0 : Nat) (t3_1 : Nat) (t4 : ByteArray) (t5 : ByteArray) (t6 : Int) (H : Heap) (K : Ex → Fr → Heap → Option R) : ev Tryd.prog (E7 a21 a22 a23 a12 a8) loopLim Tryd.f7.ntmps kp7 c7_3 [(3, (V.p (some (t3_0, t3_1)))), (4, (V.s t4)), (5, (V.s t5)), (6, (V.i .i64 t6))] H K = g7_p7 a21 a22 a23 a12 a8 R t3_0 t3_1 t4 t5 t6 H (fun t3_0 t3_1 t4 t5 H => K (.exit 1) [(3, (V.p (some (t3_0, t3_1)))), (4, (V.s t4)), (5, (V.s t5))] H) := by
  show ev Tryd.prog (E7 a21 a22 a23 a12 a8) loopLim Tryd.f7.ntmps kp7 (.loop c7_2) [(3, (V.p (some (t3_0, t3_1)))), (4, (V.s t4)), (5, (V.s t5)), (6, (V.i .i64 t6))] H K = _
  delta g7_p7
  refine (ev_tlim (b := g7_p7_b a21 a22 a23 a12 a8) (es := g7_p7_es) (er := g7_p7_er) (by intro r; exact nofun) (fun s H => ?_) (t3_0, t3_1, t4, t5, t6) H K).trans (bc fun p => rfl)
  exact (g7_p6_eq a21 a22 a23 a12 a8 la21 la22 la23 la12 la8 s.1 s.2.1 s.2.2.1 s.2.2.2.1 s.2.2.2.2 H ret3).trans (g7_p6_lin la21 la22 la23 la12 la8 (fun _ _ _ _ _ _ => rfl) (fun _ _ _ _ _ => rfl))
noncomputable def g7_p8 (a21 : T21) (a22 : T22) (a23 : T23) (a12 : T12) (a8 : T8) (R : Type) (t3_0 : Nat) (t3_1 : Nat) (t4 : ByteArray) (t5 : ByteArray) (t6 : Int) (H : Heap) (kN : Nat → Nat → ByteArray → ByteArray → Heap → Option R) : Option R :=
  g7_p7 a21 a22 a23 a12 a8 R t3_0 t3_1 t4 t5 t6 H (fun t3_0 t3_1 t4 t5 H => kN t3_0 t3_1 t4 t5 H)
theorem g7_p8_lin {a21 : T21} {a22 : T22} {a23 : T23} {a12 : T12} {a8 : T8} (la21 : Lin21 a21) (la22 : Lin22 a22) (la23 : Lin23 a23) (la12 : Lin12 a12) (la8 : Lin8 a8) {R S : Type} {k : S → Option R} {t3_0 : Nat} {t3_1 : Nat} {t4 : ByteArray} {t5 : ByteArray} {t6 : Int} {H : Heap} {fkN : Nat → Nat → ByteArray → ByteArray → Heap → Option R} {gkN : Nat → Nat → ByteArray → ByteArray → Heap → Option S} (hkN : ∀ t3_0 t3_1 t4 t5 H, fkN t3_0 t3_1 t4 t5 H = (gkN t3_0 t3_1 t4 t5 H).bind k) : g7_p8 a21 a22 a23 a12 a8 R t3_0 t3_1 t4 t5 t6 H fkN = (g7_p8 a21 a22 a23 a12 a8 S t3_0 t3_1 t4 t5 t6 H gkN).bind k := by
  exact g7_p7_lin la21 la22 la23 la12 la8 (fun _ _ _ _ _ => hkN _ _ _ _ _)
theorem g7_p8_eq (a21 : T21) (a22 : T22) (a23 : T23) (a12 : T12) (a8 : T8) (la21 : Lin21 a21) (la22 : Lin22 a22) (la23 : Lin23 a23) (la12 : Lin12 a12) (la8 : Lin8 a8) {R : Type} (t3_0 : Nat) (t3_1 : Nat) (t4 : ByteArray) (t5 : ByteArray) (t6 : Int) (H : Heap) (K : Ex → Fr → Heap → Option R) : ev Tryd.prog (E7 a21 a22 a23 a12 a8) loopLim Tryd.f7.ntmps kp7 c7_4 [(3, (V.p (some (t3_0, t3_1)))), (4, (V.s t4)), (5, (V.s t5)), (6, (V.i .i64 t6))] H K = g7_p8 a21 a22 a23 a12 a8 R t3_0 t3_1 t4 t5 t6 H (fun t3_0 t3_1 t4 t5 H => K .normal [(3, (V.p (some (t3_0, t3_1)))), (4, (V.s t4)), (5, (V.s t5))] H) := by
  show ev Tryd.prog (E7 a21 a22 a23 a12 a8) loopLim Tryd.f7.ntmps kp7 (.block 1 c7_3) [(3, (V.p (some (t3_0, t3_1)))), (4, (V.s t4)), (5, (V.s t5)), (6, (V.i .i64 t6))] H K = _
  rw [ev_block]
  delta g7_p8
  exact (g7_p7_eq a21 a22 a23 a12 a8 la21 la22 la23 la12 la8 t3_0 t3_1 t4 t5 t6 H (kBlock kp7 1 K))
noncomputable def g7_p9 (a21 : T21) (a22 : T22) (a23 : T23) (a12 : T12) (a8 : T8) (R : Type) (t3_0 : Nat) (t3_1 : Nat) (t4 : ByteArray) (t5 : ByteArray) (H : Heap) (kN : Nat → Nat → ByteArray → Heap → Option R) : Option R :=
  catS t4 str8 fun z128 =>
  catS z128 t5 fun z129 =>
  kN t3_0 t3_1 z129 H
theorem g7_p9_eq (a21 : T21) (a22 : T22) (a23 : T23) (a12 : T12) (a8 : T8) (la21 : Lin21 a21) (la22 : Lin22 a22) (la23 : Lin23 a23) (la12 : Lin12 a12) (la8 : Lin8 a8) {R : Type} (t3_0 : Nat) (t3_1 : Nat) (t4 : ByteArray) (t5 : ByteArray) (H : Heap) (K : Ex → Fr → Heap → Option R) : ev Tryd.prog (E7 a21 a22 a23 a12 a8) loopLim Tryd.f7.ntmps kp7 c7_5 [(3, (V.p (some (t3_0, t3_1)))), (4, (V.s t4)), (5, (V.s t5))] H K = g7_p9 a21 a22 a23 a12 a8 R t3_0 t3_1 t4 t5 H (fun t3_0 t3_1 t4 H => K .normal [(3, (V.p (some (t3_0, t3_1)))), (4, (V.s t4))] H) := by kernel_rfl
theorem g7_p9_lin {a21 : T21} {a22 : T22} {a23 : T23} {a12 : T12} {a8 : T8} (la21 : Lin21 a21) (la22 : Lin22 a22) (la23 : Lin23 a23) (la12 : Lin12 a12) (la8 : Lin8 a8) {R S : Type} {k : S → Option R} {t3_0 : Nat} {t3_1 : Nat} {t4 : ByteArray} {t5 : ByteArray} {H : Heap} {fkN : Nat → Nat → ByteArray → Heap → Option R} {gkN : Nat → Nat → ByteArray → Heap → Option S} (hkN : ∀ t3_0 t3_1 t4 H, fkN t3_0 t3_1 t4 H = (gkN t3_0 t3_1 t4 H).bind k) : g7_p9 a21 a22 a23 a12 a8 R t3_0 t3_1 t4 t5 H fkN = (g7_p9 a21 a22 a23 a12 a8 S t3_0 t3_1 t4 t5 H gkN).bind k := by
  delta g7_p9; exact (
    catS_lin fun z128 =>
    catS_lin fun z129 =>
    hkN _ _ _ _)
noncomputable def g7_p10 (a21 : T21) (a22 : T22) (a23 : T23) (a12 : T12) (a8 : T8) (R : Type) (t3_0 : Nat) (t3_1 : Nat) (t4 : ByteArray) (t5 : ByteArray) (t6 : Int) (H : Heap) (kN : Nat → Nat → ByteArray → Heap → Option R) : Option R :=
  g7_p8 a21 a22 a23 a12 a8 R t3_0 t3_1 t4 t5 t6 H (fun t3_0 t3_1 t4 t5 H => g7_p9 a21 a22 a23 a12 a8 R t3_0 t3_1 t4 t5 H (fun t3_0 t3_1 t4 H => kN t3_0 t3_1 t4 H))
theorem g7_p10_lin {a21 : T21} {a22 : T22} {a23 : T23} {a12 : T12} {a8 : T8} (la21 : Lin21 a21) (la22 : Lin22 a22) (la23 : Lin23 a23) (la12 : Lin12 a12) (la8 : Lin8 a8) {R S : Type} {k : S → Option R} {t3_0 : Nat} {t3_1 : Nat} {t4 : ByteArray} {t5 : ByteArray} {t6 : Int} {H : Heap} {fkN : Nat → Nat → ByteArray → Heap → Option R} {gkN : Nat → Nat → ByteArray → Heap → Option S} (hkN : ∀ t3_0 t3_1 t4 H, fkN t3_0 t3_1 t4 H = (gkN t3_0 t3_1 t4 H).bind k) : g7_p10 a21 a22 a23 a12 a8 R t3_0 t3_1 t4 t5 t6 H fkN = (g7_p10 a21 a22 a23 a12 a8 S t3_0 t3_1 t4 t5 t6 H gkN).bind k := by
  exact g7_p8_lin la21 la22 la23 la12 la8 (fun _ _ _ _ _ => g7_p9_lin la21 la22 la23 la12 la8 (fun _ _ _ _ => hkN _ _ _ _))
theorem g7_p10_eq (a21 : T21) (a22 : T22) (a23 : T23) (a12 : T12) (a8 : T8) (la21 : Lin21 a21) (la22 : Lin22 a22) (la23 : Lin23 a23) (la12 : Lin12 a12) (la8 : Lin8 a8) {R : Type} (t3_0 : Nat) (t3_1 : Nat) (t4 : ByteArray) (t5 : ByteArray) (t6 : Int) (H : Heap) (K : Ex → Fr → Heap → Option R) : ev Tryd.prog (E7 a21 a22 a23 a12 a8) loopLim Tryd.f7.ntmps kp7 c7_6 [(3, (V.p (some (t3_0, t3_1)))), (4, (V.s t4)), (5, (V.s t5)), (6, (V.i .i64 t6))] H K = g7_p10 a21 a22 a23 a12 a8 R t3_0 t3_1 t4 t5 t6 H (fun t3_0 t3_1 t4 H => K .normal [(3, (V.p (some (t3_0, t3_1)))), (4, (V.s t4))] H) := by
  show ev Tryd.prog (E7 a21 a22 a23 a12 a8) loopLim Tryd.f7.ntmps kp7 (.seq c7_4 c7_5) [(3, (V.p (some (t3_0, t3_1)))), (4, (V.s t4)), (5, (V.s t5)), (6, (V.i .i64 t6))] H K = _
  rw [ev_seq]
  delta g7_p10
  exact (g7_p8_eq a21 a22 a23 a12 a8 la21 la22 la23 la12 la8 t3_0 t3_1 t4 t5 t6 H (kSeq (fun fr H => ev Tryd.prog (E7 a21 a22 a23 a12 a8) loopLim Tryd.f7.ntmps kp7 c7_5 fr H K) K)).trans (congrArg (g7_p8 a21 a22 a23 a12 a8 R t3_0 t3_1 t4 t5 t6 H) (funext fun t3_0 => funext fun t3_1 => funext fun t4 => funext fun t5 => funext fun H => (kSeq_n _ _ _ _).trans (g7_p9_eq a21 a22 a23 a12 a8 la21 la22 la23 la12 la8 t3_0 t3_1 t4 t5 H K)))
noncomputable def g7_p11 (a21 : T21) (a22 : T22) (a23 : T23) (a12 : T12) (a8 : T8) (R : Type) (t3_0 : Nat) (t3_1 : Nat) (t4 : ByteArray) (t76 : Bool) (H : Heap) (kN : Nat → Nat → ByteArray → Heap → Option R) : Option R :=
  g7_p5 a21 a22 a23 a12 a8 R t3_0 t3_1 t4 t76 H (fun t3_0 t3_1 t4 t5 t6 H => g7_p10 a21 a22 a23 a12 a8 R t3_0 t3_1 t4 t5 t6 H (fun t3_0 t3_1 t4 H => kN t3_0 t3_1 t4 H))
theorem g7_p11_lin {a21 : T21} {a22 : T22} {a23 : T23} {a12 : T12} {a8 : T8} (la21 : Lin21 a21) (la22 : Lin22 a22) (la23 : Lin23 a23) (la12 : Lin12 a12) (la8 : Lin8 a8) {R S : Type} {k : S → Option R} {t3_0 : Nat} {t3_1 : Nat} {t4 : ByteArray} {t76 : Bool} {H : Heap} {fkN : Nat → Nat → ByteArray → Heap → Option R} {gkN : Nat → Nat → ByteArray → Heap → Option S} (hkN : ∀ t3_0 t3_1 t4 H, fkN t3_0 t3_1 t4 H = (gkN t3_0 t3_1 t4 H).bind k) : g7_p11 a21 a22 a23 a12 a8 R t3_0 t3_1 t4 t76 H fkN = (g7_p11 a21 a22 a23 a12 a8 S t3_0 t3_1 t4 t76 H gkN).bind k := by
  exact g7_p5_lin la21 la22 la23 la12 la8 (fun _ _ _ _ _ _ => g7_p10_lin la21 la22 la23 la12 la8 (fun _ _ _ _ => hkN _ _ _ _))
theorem g7_p11_eq (a21 : T21) (a22 : T22) (a23 : T23) (a12 : T12) (a8 : T8) (la21 : Lin21 a21) (la22 : Lin22 a22) (la23 : Lin23 a23) (la12 : Lin12 a12) (la8 : Lin8 a8) {R : Type} (t3_0 : Nat) (t3_1 : Nat) (t4 : ByteArray) (t76 : Bool) (H : Heap) (K : Ex → Fr → Heap → Option R) : ev Tryd.prog (E7 a21 a22 a23 a12 a8) loopLim Tryd.f7.ntmps kp7 c7_7 [(3, (V.p (some (t3_0, t3_1)))), (4, (V.s t4)), (76, (V.b t76))] H K = g7_p11 a21 a22 a23 a12 a8 R t3_0 t3_1 t4 t76 H (fun t3_0 t3_1 t4 H => K .normal [(3, (V.p (some (t3_0, t3_1)))), (4, (V.s t4))] H) := by
  show ev Tryd.prog (E7 a21 a22 a23 a12 a8) loopLim Tryd.f7.ntmps kp7 (.seq (codeAt [1, 1, 1, 0, 1, 0, 1, 1, 1, 1, 0] b7) (.seq (codeAt [1, 1, 1, 0, 1, 0, 1, 1, 1, 1, 1, 0, 0] b7) c7_6)) [(3, (V.p (some (t3_0, t3_1)))), (4, (V.s t4)), (76, (V.b t76))] H K = _
  delta g7_p11
  exact (g7_p5_eq a21 a22 a23 a12 a8 _ t3_0 t3_1 t4 t76 H K).trans (congrArg (g7_p5 a21 a22 a23 a12 a8 R t3_0 t3_1 t4 t76 H) (funext fun t3_0 => funext fun t3_1 => funext fun t4 => funext fun t5 => funext fun t6 => funext fun H => g7_p10_eq a21 a22 a23 a12 a8 la21 la22 la23 la12 la8 t3_0 t3_1 t4 t5 t6 H K))
noncomputable def g7_p12 (a21 : T21) (a22 : T22) (a23 : T23) (a12 : T12) (a8 : T8) (R : Type) (t3_0 : Nat) (t3_1 : Nat) (t4 : ByteArray) (t76 : Bool) (H : Heap) (kN : Nat → Nat → ByteArray → Heap → Option R) : Option R :=
  sel t76 (g7_p4 a21 a22 a23 a12 a8 R t3_0 t3_1 t4 t76 H (fun t3_0 t3_1 t4 H => kN t3_0 t3_1 t4 H)) (g7_p11 a21 a22 a23 a12 a8 R t3_0 t3_1 t4 t76 H (fun t3_0 t3_1 t4 H => kN t3_0 t3_1 t4 H))
theorem g7_p12_lin {a21 : T21} {a22 : T22} {a23 : T23} {a12 : T12} {a8 : T8} (la21 : Lin21 a21) (la22 : Lin22 a22) (la23 : Lin23 a23) (la12 : Lin12 a12) (la8 : Lin8 a8) {R S : Type} {k : S → Option R} {t3_0 : Nat} {t3_1 : Nat} {t4 : ByteArray} {t76 : Bool} {H : Heap} {fkN : Nat → Nat → ByteArray → Heap → Option R} {gkN : Nat → Nat → ByteArray → Heap → Option S} (hkN : ∀ t3_0 t3_1 t4 H, fkN t3_0 t3_1 t4 H = (gkN t3_0 t3_1 t4 H).bind k) : g7_p12 a21 a22 a23 a12 a8 R t3_0 t3_1 t4 t76 H fkN = (g7_p12 a21 a22 a23 a12 a8 S t3_0 t3_1 t4 t76 H gkN).bind k := by
  exact sl_lin (g7_p4_lin la21 la22 la23 la12 la8 (fun _ _ _ _ => hkN _ _ _ _)) (g7_p11_lin la21 la22 la23 la12 la8 (fun _ _ _ _ => hkN _ _ _ _))
theorem g7_p12_eq (a21 : T21) (a22 : T22) (a23 : T23) (a12 : T12) (a8 : T8) (la21 : Lin21 a21) (la22 : Lin22 a22) (la23 : Lin23 a23) (la12 : Lin12 a12) (la8 : Lin8 a8) {R : Type} (t3_0 : Nat) (t3_1 : Nat) (t4 : ByteArray) (t76 : Bool) (H : Heap) (K : Ex → Fr → Heap → Option R) : ev Tryd.prog (E7 a21 a22 a23 a12 a8) loopLim Tryd.f7.ntmps kp7 c7_8 [(3, (V.p (some (t3_0, t3_1)))), (4, (V.s t4)), (76, (V.b t76))] H K = g7_p12 a21 a22 a23 a12 a8 R t3_0 t3_1 t4 t76 H (fun t3_0 t3_1 t4 H => K .normal [(3, (V.p (some (t3_0, t3_1)))), (4, (V.s t4))] H) := by
  show ev Tryd.prog (E7 a21 a22 a23 a12 a8) loopLim Tryd.f7.ntmps kp7 (.cond (.tmp 76) c7_1 c7_7) [(3, (V.p (some (t3_0, t3_1)))), (4, (V.s t4)), (76, (V.b t76))] H K = _
  rw [ev_cond _ _ _ _ _ _ t76 rfl]
  delta g7_p12
  exact sc (g7_p4_eq a21 a22 a23 a12 a8 la21 la22 la23 la12 la8 t3_0 t3_1 t4 t76 H (kEnd kp7 (condId (.tmp 76)) K)) (g7_p11_eq a21 a22 a23 a12 a8 la21 la22 la23 la12 la8 t3_0 t3_1 t4 t76 H (kEnd kp7 (condId (.tmp 76)) K))
noncomputable def g7_p13 (a21 : T21) (a22 : T22) (a23 : T23) (a12 : T12) (a8 : T8) (R : Type) (t3_0 : Nat) (t3_1 : Nat) (t4 : ByteArray) (t29 : Int) (t72 : Bool) (H : Heap) (kN : Nat → Nat → ByteArray → Heap → Option R) : Option R :=
  g7_p3 a21 a22 a23 a12 a8 R t3_0 t3_1 t4 t29 t72 H (fun t3_0 t3_1 t4 t76 H => g7_p12 a21 a22 a23 a12 a8 R t3_0 t3_1 t4 t76 H (fun t3_0 t3_1 t4 H => kN t3_0 t3_1 t4 H))
theorem g7_p13_lin {a21 : T21} {a22 : T22} {a23 : T23} {a12 : T12} {a8 : T8} (la21 : Lin21 a21) (la22 : Lin22 a22) (la23 : Lin23 a23) (la12 : Lin12 a12) (la8 : Lin8 a8) {R S : Type} {k : S → Option R} {t3_0 : Nat} {t3_1 : Nat} {t4 : ByteArray} {t29 : Int} {t72 : Bool} {H : Heap} {fkN : Nat → Nat → ByteArray → Heap → Option R} {gkN : Nat → Nat → ByteArray → Heap → Option S} (hkN : ∀ t3_0 t3_1 t4 H, fkN t3_0 t3_1 t4 H = (gkN t3_0 t3_1 t4 H).bind k) : g7_p13 a21 a22 a23 a12 a8 R t3_0 t3_1 t4 t29 t72 H fkN = (g7_p13 a21 a22 a23 a12 a8 S t3_0 t3_1 t4 t29 t72 H gkN).bind k := by
  exact g7_p3_lin la21 la22 la23 la12 la8 (fun _ _ _ _ _ => g7_p12_lin la21 la22 la23 la12 la8 (fun _ _ _ _ => hkN _ _ _ _))
theorem g7_p13_eq (a21 : T21) (a22 : T22) (a23 : T23) (a12 : T12) (a8 : T8) (la21 : Lin21 a21) (la22 : Lin22 a22) (la23 : Lin23 a23) (la12 : Lin12 a12) (la8 : Lin8 a8) {R : Type} (t3_0 : Nat) (t3_1 : Nat) (t4 : ByteArray) (t29 : Int) (t72 : Bool) (H : Heap) (K : Ex → Fr → Heap → Option R) : ev Tryd.prog (E7 a21 a22 a23 a12 a8) loopLim Tryd.f7.ntmps kp7 c7_9 [(3, (V.p (some (t3_0, t3_1)))), (4, (V.s t4)), (29, (V.i .u8 t29)), (72, (V.b t72))] H K = g7_p13 a21 a22 a23 a12 a8 R t3_0 t3_1 t4 t29 t72 H (fun t3_0 t3_1 t4 H => K .normal [(3, (V.p (some (t3_0, t3_1)))), (4, (V.s t4))] H) := by
  show ev Tryd.prog (E7 a21 a22 a23 a12 a8) loopLim Tryd.f7.ntmps kp7 (.seq (codeAt [1, 1, 1, 0, 1, 0, 1, 1, 0] b7) c7_8) [(3, (V.p (some (t3_0, t3_1)))), (4, (V.s t4)), (29, (V.i .u8 t29)), (72, (V.b t72))] H K = _
  delta g7_p13
  exact (g7_p3_eq a21 a22 a23 a12 a8 _ t3_0 t3_1 t4 t29 t72 H K).trans (congrArg (g7_p3 a21 a22 a23 a12 a8 R t3_0 t3_1 t4 t29 t72 H) (funext fun t3_0 => funext fun t3_1 => funext fun t4 => funext fun t76 => funext fun H => g7_p12_eq a21 a22 a23 a12 a8 la21 la22 la23 la12 la8 t3_0 t3_1 t4 t76 H K))
noncomputable def g7_p14 (a21 : T21) (a22 : T22) (a23 : T23) (a12 : T12) (a8 : T8) (R : Type) (t3_0 : Nat) (t3_1 : Nat) (t4 : ByteArray) (t29 : Int) (t72 : Bool) (H : Heap) (kN : Nat → Nat → ByteArray → Heap → Option R) : Option R :=
  sel t72 (g7_p2 a21 a22 a23 a12 a8 R t3_0 t3_1 t4 t29 t72 H (fun t3_0 t3_1 t4 H => kN t3_0 t3_1 t4 H)) (g7_p13 a21 a22 a23 a12 a8 R t3_0 t3_1 t4 t29 t72 H (fun t3_0 t3_1 t4 H => kN t3_0 t3_1 t4 H))
theorem g7_p14_lin {a21 : T21} {a22 : T22} {a23 : T23} {a12 : T12} {a8 : T8} (la21 : Lin21 a21) (la22 : Lin22 a22) (la23 : Lin23 a23) (la12 : Lin12 a12) (la8 : Lin8 a8) {R S : Type} {k : S → Option R} {t3_0 : Nat} {t3_1 : Nat} {t4 : ByteArray} {t29 : Int} {t72 : Bool} {H : Heap} {fkN : Nat → Nat → ByteArray → Heap → Option R} {gkN : Nat → Nat → ByteArray → Heap → Option S} (hkN : ∀ t3_0 t3_1 t4 H, fkN t3_0 t3_1 t4 H = (gkN t3_0 t3_1 t4 H).bind k) : g7_p14 a21 a22 a23 a12 a8 R t3_0 t3_1 t4 t29 t72 H fkN = (g7_p14 a21 a22 a23 a12 a8 S t3_0 t3_1 t4 t29 t72 H gkN).bind k := by
  exact sl_lin (g7_p2_lin la21 la22 la23 la12 la8 (fun _ _ _ _ => hkN _ _ _ _)) (g7_p13_lin la21 la22 la23 la12 la8 (fun _ _ _ _ => hkN _ _ _ _))
theorem g7_p14_eq (a21 : T21) (a22 : T22) (a23 : T23) (a12 : T12) (a8 : T8) (la21 : Lin21 a21) (la22 : Lin22 a22) (la23 : Lin23 a23) (la12 : Lin12 a12) (la8 : Lin8 a8) {R : Type} (t3_0 : Nat) (t3_1 : Nat) (t4 : ByteArray) (t29 : Int) (t72 : Bool) (H : Heap) (K : Ex → Fr → Heap → Option R) : ev Tryd.prog (E7 a21 a22 a23 a12 a8) loopLim Tryd.f7.ntmps kp7 c7_10 [(3, (V.p (some (t3_0, t3_1)))), (4, (V.s t4)), (29, (V.i .u8 t29)), (72, (V.b t72))] H K = g7_p14 a21 a22 a23 a12 a8 R t3_0 t3_1 t4 t29 t72 H (fun t3_0 t3_1 t4 H => K .normal [(3, (V.p (some (t3_0, t3_1)))), (4, (V.s t4))] H) := by
  show ev Tryd.prog (E7 a21 a22 a23 a12 a8) loopLim Tryd.f7.ntmps kp7 (.cond (.tmp 72) c7_0 c7_9) [(3, (V.p (some (t3_0, t3_1)))), (4, (V.s t4)), (29, (V.i .u8 t29)), (72, (V.b t72))] H K = _
  rw [ev_cond _ _ _ _ _ _ t72 rfl]
  delta g7_p14
  exact sc (g7_p2_eq a21 a22 a23 a12 a8 la21 la22 la23 la12 la8 t3_0 t3_1 t4 t29 t72 H (kEnd kp7 (condId (.tmp 72)) K)) (g7_p13_eq a21 a22 a23 a12 a8 la21 la22 la23 la12 la8 t3_0 t3_1 t4 t29 t72 H (kEnd kp7 (condId (.tmp 72)) K))
noncomputable def g7_p15 (a21 : T21) (a22 : T22) (a23 : T23) (a12 : T12) (a8 : T8) (R : Type) (t3_0 : Nat) (t3_1 : Nat) (t4 : ByteArray) (t29 : Int) (H : Heap) (kN : Nat → Nat → ByteArray → Heap → Option R) : Option R :=
  g7_p1 a21 a22 a23 a12 a8 R t3_0 t3_1 t4 t29 H (fun t3_0 t3_1 t4 t29 t72 H => g7_p14 a21 a22 a23 a12 a8 R t3_0 t3_1 t4 t29 t72 H (fun t3_0 t3_1 t4 H => kN t3_0 t3_1 t4 H))
theorem g7_p15_lin {a21 : T21} {a22 : T22} {a23 : T23} {a12 : T12} {a8 : T8} (la21 : Lin21 a21) (la22 : Lin22 a22) (la23 : Lin23 a23) (la12 : Lin12 a12) (la8 : Lin8 a8) {R S : Type} {k : S → Option R} {t3_0 : Nat} {t3_1 : Nat} {t4 : ByteArray} {t29 : Int} {H : Heap} {fkN : Nat → Nat → ByteArray → Heap → Option R} {gkN : Nat → Nat → ByteArray → Heap → Option S} (hkN : ∀ t3_0 t3_1 t4 H, fkN t3_0 t3_1 t4 H = (gkN t3_0 t3_1 t4 H).bind k) : g7_p15 a21 a22 a23 a12 a8 R t3_0 t3_1 t4 t29 H fkN = (g7_p15 a21 a22 a23 a12 a8 S t3_0 t3_1 t4 t29 H gkN).bind k := by
  exact g7_p1_lin la21 la22 la23 la12 la8 (fun _ _ _ _ _ _ => g7_p14_lin la21 la22 la23 la12 la8 (fun _ _ _ _ => hkN _ _ _ _))
theorem g7_p15_eq (a21 : T21) (a22 : T22) (a23 : T23) (a12 : T12) (a8 : T8) (la21 : Lin21 a21) (la22 : Lin22 a22) (la23 : Lin23 a23) (la12 : Lin12 a12) (la8 : Lin8 a8) {R : Type} (t3_0 : Nat) (t3_1 : Nat) (t4 : ByteArray) (t29 : Int) (H : Heap) (K : Ex → Fr → Heap → Option R) : ev Tryd.prog (E7 a21 a22 a23 a12 a8) loopLim Tryd.f7.ntmps kp7 c7_11 [(3, (V.p (some (t3_0, t3_1)))), (4, (V.s t4)), (29, (V.i .u8 t29))] H K = g7_p15 a21 a22 a23 a12 a8 R t3_0 t3_1 t4 t29 H (fun t3_0 t3_1 t4 H => K .normal [(3, (V.p (some (t3_0, t3_1)))), (4, (V.s t4))] H) := by
  show ev Tryd.prog (E7 a21 a22 a23 a12 a8) loopLim Tryd.f7.ntmps kp7 (.seq (codeAt [1, 1, 1, 0, 1, 0, 0] b7) c7_10) [(3, (V.p (some (t3_0, t3_1)))), (4, (V.s t4)), (29, (V.i .u8 t29))] H K = _
  delta g7_p15
  exact (g7_p1_eq a21 a22 a23 a12 a8 _ t3_0 t3_1 t4 t29 H K).trans (congrArg (g7_p1 a21 a22 a23 a12 a8 R t3_0 t3_1 t4 t29 H) (funext fun t3_0 => funext fun t3_1 => funext fun t4 => funext fun t29 => funext fun t72 => funext fun H => g7_p14_eq a21 a22 a23 a12 a8 la21 la22 la23 la12 la8 t3_0 t3_1 t4 t29 t72 H K))
noncomputable def g7_p16 (a21 : T21) (a22 : T22) (a23 : T23) (a12 : T12) (a8 : T8) (R : Type) (t3_0 : Nat) (t3_1 : Nat) (t4 : ByteArray) (t29 : Int) (H : Heap) (kN : Nat → Nat → ByteArray → Heap → Option R) : Option R :=
  g7_p15 a21 a22 a23 a12 a8 R t3_0 t3_1 t4 t29 H (fun t3_0 t3_1 t4 H => kN t3_0 t3_1 t4 H)
theorem g7_p16_lin {a21 : T21} {a22 : T22} {a23 : T23} {a12 : T12} {a8 : T8} (la21 : Lin21 a21) (la22 : Lin22 a22) (la23 : Lin23 a23) (la12 : Lin12 a12) (la8 : Lin8 a8) {R S : Type} {k : S → Option R} {t3_0 : Nat} {t3_1 : Nat} {t4 : ByteArray} {t29 : Int} {H : Heap} {fkN : Nat → Nat → ByteArray → Heap → Option R} {gkN : Nat → Nat → ByteArray → Heap → Option S} (hkN : ∀ t3_0 t3_1 t4 H, fkN t3_0 t3_1 t4 H = (gkN t3_0 t3_1 t4 H).bind k) : g7_p16 a21 a22 a23 a12 a8 R t3_0 t3_1 t4 t29 H fkN = (g7_p16 a21 a22 a23 a12 a8 S t3_0 t3_1 t4 t29 H gkN).bind k := by
  exact g7_p15_lin la21 la22 la23 la12 la8 (fun _ _ _ _ => hkN _ _ _ _)
theorem g7_p16_eq (a21 : T21) (a22 : T22) (a23 : T23) (a12 : T12) (a8 : T8) (la21 : Lin21 a21) (la22 : Lin22 a22) (la23 : Lin23 a23) (la12 : Lin12 a12) (la8 : Lin8 a8) {R : Type} (t3_0 : Nat) (t3_1 : Nat) (t4 : ByteArray) (t29 : Int) (H : Heap) (K : Ex → Fr → Heap → Option R) : ev Tryd.prog (E7 a21 a22 a23 a12 a8) loopLim Tryd.f7.ntmps kp7 c7_12 [(3, (V.p (some (t3_0, t3_1)))), (4, (V.s t4)), (29, (V.i .u8 t29))] H K = g7_p16 a21 a22 a23 a12 a8 R t3_0 t3_1 t4 t29 H (fun t3_0 t3_1 t4 H => K .normal [(3, (V.p (some (t3_0, t3_1)))), (4, (V.s t4))] H) := by
  show ev Tryd.prog (E7 a21 a22 a23 a12 a8) loopLim Tryd.f7.ntmps kp7 (.block 0 c7_11) [(3, (V.p (some (t3_0, t3_1)))), (4, (V.s t4)), (29, (V.i .u8 t29))] H K = _
  rw [ev_block]
  delta g7_p16
  exact (g7_p15_eq a21 a22 a23 a12 a8 la21 la22 la23 la12 la8 t3_0 t3_1 t4 t29 H (kBlock kp7 0 K))
noncomputable def g7_p17 (a21 : T21) (a22 : T22) (a23 : T23) (a12 : T12) (a8 : T8) (R : Type) (t3_0 : Nat) (t3_1 : Nat) (t4 : ByteArray) (H : Heap) (kR : Bool → Heap → Option R) : Option R :=
  ((H).ldI .u8 t3_0 (t3_1 + 0)).bind fun x130 =>
  ((H).ldB t3_0 (t3_1 + 1)).bind fun x131 =>
  ((H).ldI .u8 t3_0 (t3_1 + 2)).bind fun x132 =>
  ((H).ldB t3_0 (t3_1 + 3)).bind fun x133 =>
  ((H).ldI .u8 t3_0 (t3_1 + 4)).bind fun x134 =>
  ((H).ldI .u8 t3_0 (t3_1 + 5)).bind fun x135 =>
  ((H).ldSl t3_0 (t3_1 + 6)).bind fun x136 =>
  a12 R x130 x131 x132 x133 x134 x135 x136 H fun x137 h138 =>
  sel (strEq x137 t4) (
    a8 R h138 fun x139 h140 =>
    kR x139 h140) (
    kR false h138)
theorem g7_p17_eq (a21 : T21) (a22 : T22) (a23 : T23) (a12 : T12) (a8 : T8) (la21 : Lin21 a21) (la22 : Lin22 a22) (la23 : Lin23 a23) (la12 : Lin12 a12) (la8 : Lin8 a8) {R : Type} (t3_0 : Nat) (t3_1 : Nat) (t4 : ByteArray) (H : Heap) (K : Ex → Fr → Heap → Option R) : ev Tryd.prog (E7 a21 a22 a23 a12 a8) loopLim Tryd.f7.ntmps kp7 c7_13 [(3, (V.p (some (t3_0, t3_1)))), (4, (V.s t4))] H K = g7_p17 a21 a22 a23 a12 a8 R t3_0 t3_1 t4 H (fun t2 H => K .ret [(2, (V.b t2))] H) := by kernel_rfl
theorem g7_p17_lin {a21 : T21} {a22 : T22} {a23 : T23} {a12 : T12} {a8 : T8} (la21 : Lin21 a21) (la22 : Lin22 a22) (la23 : Lin23 a23) (la12 : Lin12 a12) (la8 : Lin8 a8) {R S : Type} {k : S → Option R} {t3_0 : Nat} {t3_1 : Nat} {t4 : ByteArray} {H : Heap} {fkR : Bool → Heap → Option R} {gkR : Bool → Heap → Option S} (hkR : ∀ t2 H, fkR t2 H = (gkR t2 H).bind k) : g7_p17 a21 a22 a23 a12 a8 R t3_0 t3_1 t4 H fkR = (g7_p17 a21 a22 a23 a12 a8 S t3_0 t3_1 t4 H gkR).bind k := by
  delta g7_p17; exact (
    bl fun x130 =>
    bl fun x131 =>
    bl fun x132 =>
    bl fun x133 =>
    bl fun x134 =>
    bl fun x135 =>
    bl fun x136 =>
    la12.l fun x137 h138 =>
    sl_lin (
      la8.l fun x139 h140 =>
      hkR _ _) (
      hkR _ _))
noncomputable def g7_p18 (a21 : T21) (a22 : T22) (a23 : T23) (a12 : T12) (a8 : T8) (R : Type) (t3_0 : Nat) (t3_1 : Nat) (t4 : ByteArray) (t29 : Int) (H : Heap) (kR : Bool → Heap → Option R) : Option R :=
  g7_p16 a21 a22 a23 a12 a8 R t3_0 t3_1 t4 t29 H (fun t3_0 t3_1 t4 H => g7_p17 a21 a22 a23 a12 a8 R t3_0 t3_1 t4 H (fun t2 H => kR t2 H))
theorem g7_p18_lin {a21 : T21} {a22 : T22} {a23 : T23} {a12 : T12} {a8 : T8} (la21 : Lin21 a21) (la22 : Lin22 a22) (la23 : Lin23 a23) (la12 : Lin12 a12) (la8 : Lin8 a8) {R S : Type} {k : S → Option R} {t3_0 : Nat} {t3_1 : Nat} {t4 : ByteArray} {t29 : Int} {H : Heap} {fkR : Bool → Heap → Option R} {gkR : Bool → Heap → Option S} (hkR : ∀ t2 H, fkR t2 H = (gkR t2 H).bind k) : g7_p18 a21 a22 a23 a12 a8 R t3_0 t3_1 t4 t29 H fkR = (g7_p18 a21 a22 a23 a12 a8 S t3_0 t3_1 t4 t29 H gkR).bind k := by
  exact g7_p16_lin la21 la22 la23 la12 la8 (fun _ _ _ _ => g7_p17_lin la21 la22 la23 la12 la8 (fun _ _ => hkR _ _))
theorem g7_p18_eq (a21 : T21) (a22 : T22) (a23 : T23) (a12 : T12) (a8 : T8) (la21 : Lin21 a21) (la22 : Lin22 a22) (la23 : Lin23 a23) (la12 : Lin12 a12) (la8 : Lin8 a8) {R : Type} (t3_0 : Nat) (t3_1 : Nat) (t4 : ByteArray) (t29 : Int) (H : Heap) (K : Ex → Fr → Heap → Option R) : ev Tryd.prog (E7 a21 a22 a23 a12 a8) loopLim Tryd.f7.ntmps kp7 c7_14 [(3, (V.p (some (t3_0, t3_1)))), (4, (V.s t4)), (29, (V.i .u8 t29))] H K = g7_p18 a21 a22 a23 a12 a8 R t3_0 t3_1 t4 t29 H (fun t2 H => K .ret [(2, (V.b t2))] H) := by
  show ev Tryd.prog (E7 a21 a22 a23 a12 a8) loopLim Tryd.f7.ntmps kp7 (.seq c7_12 c7_13) [(3, (V.p (some (t3_0, t3_1)))), (4, (V.s t4)), (29, (V.i .u8 t29))] H K = _
  rw [ev_seq]
  delta g7_p18
  exact (g7_p16_eq a21 a22 a23 a12 a8 la21 la22 la23 la12 la8 t3_0 t3_1 t4 t29 H (kSeq (fun fr H => ev Tryd.prog (E7 a21 a22 a23 a12 a8) loopLim Tryd.f7.ntmps kp7 c7_13 fr H K) K)).trans (congrArg (g7_p16 a21 a22 a23 a12 a8 R t3_0 t3_1 t4 t29 H) (funext fun t3_0 => funext fun t3_1 => funext fun t4 => funext fun H => (kSeq_n _ _ _ _).trans (g7_p17_eq a21 a22 a23 a12 a8 la21 la22 la23 la12 la8 t3_0 t3_1 t4 H K)))
noncomputable def g7_p19 (a21 : T21) (a22 : T22) (a23 : T23) (a12 : T12) (a8 : T8) (R : Type) (t0_0 : Int) (t0_1 : Int) (t0_2 : Int) (t0_3 : Int) (t0_4 : Int) (t0_5 : Sl) (H : Heap) (kR : Bool → Heap → Option R) : Option R :=
  g7_p0 a21 a22 a23 a12 a8 R t0_0 t0_1 t0_2 t0_3 t0_4 t0_5 H (fun t3_0 t3_1 t4 t29 H => g7_p18 a21 a22 a23 a12 a8 R t3_0 t3_1 t4 t29 H (fun t2 H => kR t2 H))
theorem g7_p19_lin {a21 : T21} {a22 : T22} {a23 : T23} {a12 : T12} {a8 : T8} (la21 : Lin21 a21) (la22 : Lin22 a22) (la23 : Lin23 a23) (la12 : Lin12 a12) (la8 : Lin8 a8) {R S : Type} {k : S → Option R} {t0_0 : Int} {t0_1 : Int} {t0_2 : Int} {t0_3 : Int} {t0_4 : Int} {t0_5 : Sl} {H : Heap} {fkR : Bool → Heap → Option R} {gkR : Bool → Heap → Option S} (hkR : ∀ t2 H, fkR t2 H = (gkR t2 H).bind k) : g7_p19 a21 a22 a23 a12 a8 R t0_0 t0_1 t0_2 t0_3 t0_4 t0_5 H fkR = (g7_p19 a21 a22 a23 a12 a8 S t0_0 t0_1 t0_2 t0_3 t0_4 t0_5 H gkR).bind k := by
  exact g7_p0_lin la21 la22 la23 la12 la8 (fun _ _ _ _ _ => g7_p18_lin la21 la22 la23 la12 la8 (fun _ _ => hkR _ _))
theorem g7_p19_eq (a21 : T21) (a22 : T22) (a23 : T23) (a12 : T12) (a8 : T8) (la21 : Lin21 a21) (la22 : Lin22 a22) (la23 : Lin23 a23) (la12 : Lin12 a12) (la8 : Lin8 a8) {R : Type} (t0_0 : Int) (t0_1 : Int) (t0_2 : Int) (t0_3 : Int) (t0_4 : Int) (t0_5 : Sl) (H : Heap) (K : Ex → Fr → Heap → Option R) : ev Tryd.prog (E7 a21 a22 a23 a12 a8) loopLim Tryd.f7.ntmps kp7 c7_15 [(0, (V.agg [(V.i .u8 t0_0), (V.i .u8 t0_1), (V.i .u8 t0_2), (V.i .u8 t0_3), (V.i .u16 t0_4), (V.sl t0_5)]))] H K = g7_p19 a21 a22 a23 a12 a8 R t0_0 t0_1 t0_2 t0_3 t0_4 t0_5 H (fun t2 H => K .ret [(2, (V.b t2))] H) := by
  show ev Tryd.prog (E7 a21 a22 a23 a12 a8) loopLim Tryd.f7.ntmps kp7 (.seq (codeAt [0] b7) (.seq (codeAt [1, 0] b7) (.seq (codeAt [1, 1, 0] b7) (.seq (codeAt [1, 1, 1, 0, 0] b7) c7_14)))) [(0, (V.agg [(V.i .u8 t0_0), (V.i .u8 t0_1), (V.i .u8 t0_2), (V.i .u8 t0_3), (V.i .u16 t0_4), (V.sl t0_5)]))] H K = _
  delta g7_p19
  exact (g7_p0_eq a21 a22 a23 a12 a8 _ t0_0 t0_1 t0_2 t0_3 t0_4 t0_5 H K).trans (congrArg (g7_p0 a21 a22 a23 a12 a8 R t0_0 t0_1 t0_2 t0_3 t0_4 t0_5 H) (funext fun t3_0 => funext fun t3_1 => funext fun t4 => funext fun t29 => funext fun H => g7_p18_eq a21 a22 a23 a12 a8 la21 la22 la23 la12 la8 t3_0 t3_1 t4 t29 H K))
noncomputable def g7_r (a21 : T21) (a22 : T22) (a23 : T23) (a12 : T12) (a8 : T8) : T7 := fun R t0_0 t0_1 t0_2 t0_3 t0_4 t0_5 H K =>
  g7_p19 a21 a22 a23 a12 a8 R t0_0 t0_1 t0_2 t0_3 t0_4 t0_5 H (fun t2 H =>
    K t2 H)
theorem g7_r_lin {a21 : T21} {a22 : T22} {a23 : T23} {a12 : T12} {a8 : T8} (la21 : Lin21 a21) (la22 : Lin22 a22) (la23 : Lin23 a23) (la12 : Lin12 a12) (la8 : Lin8 a8) : Lin7 (g7_r a21 a22 a23 a12 a8) := by
  constructor
  intro R S k t0_0 t0_1 t0_2 t0_3 t0_4 t0_5 H f g h
  exact g7_p19_lin la21 la22 la23 la12 la8 (fun t2 H =>
    h _ _)
theorem g7_fn (a21 : T21) (a22 : T22) (a23 : T23) (a12 : T12) (a8 : T8) (la21 : Lin21 a21) (la22 : Lin22 a22) (la23 : Lin23 a23) (la12 : Lin12 a12) (la8 : Lin8 a8) {R : Type} (t0_0 : Int) (t0_1 : Int) (t0_2 : Int) (t0_3 : Int) (t0_4 : Int) (t0_5 : Sl) (H : Heap) (K : V → Heap → Option R) : evFn Tryd.prog (E7 a21 a22 a23 a12 a8) loopLim Tryd.f7 kp7 [(V.agg [(V.i .u8 t0_0), (V.i .u8 t0_1), (V.i .u8 t0_2), (V.i .u8 t0_3), (V.i .u16 t0_4), (V.sl t0_5)])] H K = g7_r a21 a22 a23 a12 a8 R t0_0 t0_1 t0_2 t0_3 t0_4 t0_5 H (fun r0 H => K (V.b r0) H) := by
  have h0 : ∀ (t2 : Bool) (H : Heap), kFn Tryd.prog Tryd.f7.results.toList K .ret [(2, (V.b t2))] H =
      K (V.b t2) H := by intros; kernel_rfl
  have e0 := evFn_code2 (P := Tryd.prog) (c := c7_15) (E := (E7 a21 a22 a23 a12 a8)) (lr := loopLim) (kp := kp7) (fn := Tryd.f7) (args := [(V.agg [(V.i .u8 t0_0), (V.i .u8 t0_1), (V.i .u8 t0_2), (V.i .u8 t0_3), (V.i .u16 t0_4), (V.sl t0_5)])]) H K (by kernel_rfl) (Nat.le_of_ble_eq_true (by kernel_rfl)) (by kernel_rfl)
  have e1 : ev Tryd.prog (E7 a21 a22 a23 a12 a8) loopLim Tryd.f7.ntmps kp7 c7_15 (argFr 0 [(V.agg [(V.i .u8 t0_0), (V.i .u8 t0_1), (V.i .u8 t0_2), (V.i .u8 t0_3), (V.i .u16 t0_4), (V.sl t0_5)])]) H (kFn Tryd.prog Tryd.f7.results.toList K) = ev Tryd.prog (E7 a21 a22 a23 a12 a8) loopLim Tryd.f7.ntmps kp7 c7_15 [(0, (V.agg [(V.i .u8 t0_0), (V.i .u8 t0_1), (V.i .u8 t0_2), (V.i .u8 t0_3), (V.i .u16 t0_4), (V.sl t0_5)]))] H (kFn Tryd.prog Tryd.f7.results.toList K) := by kernel_rfl
  refine (e0.trans e1).trans ?_
  delta g7_r
  exact (g7_p19_eq a21 a22 a23 a12 a8 la21 la22 la23 la12 la8 t0_0 t0_1 t0_2 t0_3 t0_4 t0_5 H (kFn Tryd.prog Tryd.f7.results.toList K)).trans (congrArg (g7_p19 a21 a22 a23 a12 a8 R t0_0 t0_1 t0_2 t0_3 t0_4 t0_5 H) (funext fun t2 => funext fun H => h0 t2 H))
theorem g7_ok {a21 : T21} {a22 : T22} {a23 : T23} {a12 : T12} {a8 : T8} (oa21 : FunOK Tryd.prog 21 (w21 a21)) (oa22 : FunOK Tryd.prog 22 (w22 a22)) (oa23 : FunOK Tryd.prog 23 (w23 a23)) (oa12 : FunOK Tryd.prog 12 (w12 a12)) (oa8 : FunOK Tryd.prog 8 (w8 a8)) (la21 : Lin21 a21) (la22 : Lin22 a22) (la23 : Lin23 a23) (la12 : Lin12 a12) (la8 : Lin8 a8) : FunOK Tryd.prog 7 (w7 (g7_r a21 a22 a23 a12 a8)) := by
  refine (runF_ok (E7_good oa21 oa22 oa23 oa12 oa8 la21 la22 la23 la12 la8) mixed lim_ok Tryd.func7 (by kernel_rfl) kp7).of_le fun R args H K r hk => ?_
  unfold w7 at hk
  split at hk
  · exact (g7_fn a21 a22 a23 a12 a8 la21 la22 la23 la12 la8 _ _ _ _ _ _ H K).trans hk
  · cases hk
end Go.Proofs.YteipplgcdbaokaaDoor

