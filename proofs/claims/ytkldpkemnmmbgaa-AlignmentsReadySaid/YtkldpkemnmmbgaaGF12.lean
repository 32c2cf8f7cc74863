/- Printed: functions as the machine runs them. -/
import Derived.Test.YtkldpkemnmmbgaaGT
namespace Go.Proofs.Ytkldpkemnmmbgaa
open Go AM Go.RowKit
set_option linter.unusedVariables false
def kp8 : Nat → Option (List Nat) := kpOf [(0, [1, 2]), (1, [1, 2, 5]), (2, [1, 2, 5, 6]), (3, [1, 2, 5, 6, 7]), (4, [1, 2, 5, 6, 7, 32]), (5, [1, 2, 5, 6, 7]), (6, [1, 2, 5, 6, 7, 46]), (7, [1, 2, 5, 6, 7]), (8, [1, 6, 8, 9]), (9, [1, 8, 61]), (10, [4]), (11, [1, 8, 10]), (12, [1, 8, 10, 63]), (13, [1, 8, 10]), (14, [72]), (15, [4]), (16, [11]), (17, [11, 12]), (18, [11, 12, 13]), (19, [11, 12, 13, 74]), (20, [11, 12, 13]), (21, [11, 12, 13, 85]), (22, [4]), (23, [4]), (100000, [1, 2, 6]), (100001, [1, 2, 5, 6, 7]), (100002, [11, 12]), (100003, [11, 12, 13]), (200000, [1, 2, 5, 6, 7]), (200001, [1, 2, 5, 6, 7]), (200002, [11, 12, 13]), (200003, [11, 12, 13]), (300000, [4]), (400032, [1, 2, 5, 6, 7]), (400046, [1, 2, 5, 6, 7]), (400061, [1, 8]), (400063, [1, 8, 10]), (400072, []), (400074, [11, 12, 13]), (400085, [11, 12, 13])]
def E8 (a10 : T10) (a17 : T17) (a20 : T20) (a13 : T13) (a22 : T22) (a15 : T15) (a18 : T18) (a16 : T16) : FEnv := [(10, w10 a10), (17, w17 a17), (20, w20 a20), (13, w13 a13), (22, w22 a22), (15, w15 a15), (18, w18 a18), (16, w16 a16)]
theorem E8_good {a10 : T10} {a17 : T17} {a20 : T20} {a13 : T13} {a22 : T22} {a15 : T15} {a18 : T18} {a16 : T16} (oa10 : FunOK Try.prog 10 (w10 a10)) (oa17 : FunOK Try.prog 17 (w17 a17)) (oa20 : FunOK Try.prog 20 (w20 a20)) (oa13 : FunOK Try.prog 13 (w13 a13)) (oa22 : FunOK Try.prog 22 (w22 a22)) (oa15 : FunOK Try.prog 15 (w15 a15)) (oa18 : FunOK Try.prog 18 (w18 a18)) (oa16 : FunOK Try.prog 16 (w16 a16)) (la10 : Lin10 a10) (la17 : Lin17 a17) (la20 : Lin20 a20) (la13 : Lin13 a13) (la22 : Lin22 a22) (la15 : Lin15 a15) (la18 : Lin18 a18) (la16 : Lin16 a16) : EnvGood Try.prog (E8 a10 a17 a20 a13 a22 a15 a18 a16) := (((((((((EnvGood.nil _).cons oa16 (w16_lin la16)).cons oa18 (w18_lin la18)).cons oa15 (w15_lin la15)).cons oa22 (w22_lin la22)).cons oa13 (w13_lin la13)).cons oa20 (w20_lin la20)).cons oa17 (w17_lin la17)).cons oa10 (w10_lin la10))
theorem E8_lin {a10 : T10} {a17 : T17} {a20 : T20} {a13 : T13} {a22 : T22} {a15 : T15} {a18 : T18} {a16 : T16} (la10 : Lin10 a10) (la17 : Lin17 a17) (la20 : Lin20 a20) (la13 : Lin13 a13) (la22 : Lin22 a22) (la15 : Lin15 a15) (la18 : Lin18 a18) (la16 : Lin16 a16) : EnvLin (E8 a10 a17 a20 a13 a22 a15 a18 a16) := by
  intro g F h
  simp only [E8, List.mem_cons, List.not_mem_nil, or_false] at h
  rcases h with h | h | h | h | h | h | h | h
  · cases h; exact w10_lin la10
  · cases h; exact w17_lin la17
  · cases h; exact w20_lin la20
  · cases h; exact w13_lin la13
  · cases h; exact w22_lin la22
  · cases h; exact w15_lin la15
  · cases h; exact w18_lin la18
  · cases h; exact w16_lin la16
noncomputable def b8 : Code := Try.f8.body.getD .skip
noncomputable def c8_0 : Code := (.seq (codeAt [1, 1, 1, 0, 1, 0, 0, 0, 0] b8) (.seq (.cond (.tmp 32) .skip (.exit 0)) (.seq (.block 1 (.seq (codeAt [1, 1, 1, 0, 1, 0, 0, 1, 0, 0, 0] b8) (.cond (.tmp 46) (codeAt [1, 1, 1, 0, 1, 0, 0, 1, 0, 0, 1, 0] b8) .skip))) (codeAt [1, 1, 1, 0, 1, 0, 0, 1, 1] b8))))
noncomputable def c8_1 : Code := (.loop c8_0)
noncomputable def c8_2 : Code := (.block 0 c8_1)
noncomputable def c8_3 : Code := (.seq (codeAt [1, 1, 1, 1, 1, 1, 1, 1, 1, 1, 1, 0, 1, 0, 0, 0, 0] b8) (.seq (.cond (.tmp 74) .skip (.exit 2)) (.seq (.block 3 (.seq (codeAt [1, 1, 1, 1, 1, 1, 1, 1, 1, 1, 1, 0, 1, 0, 0, 1, 0, 0, 0] b8) (.cond (.tmp 85) (.seq (codeAt [1, 1, 1, 1, 1, 1, 1, 1, 1, 1, 1, 0, 1, 0, 0, 1, 0, 0, 1, 0, 0] b8) .ret) .skip))) (codeAt [1, 1, 1, 1, 1, 1, 1, 1, 1, 1, 1, 0, 1, 0, 0, 1, 1] b8))))
noncomputable def c8_4 : Code := (.loop c8_3)
noncomputable def c8_5 : Code := (.block 2 c8_4)
noncomputable def c8_6 : Code := (.seq (codeAt [1, 1, 1, 1, 1, 1, 1, 1, 1, 1, 1, 1, 0] b8) .ret)
noncomputable def c8_7 : Code := (.seq c8_5 c8_6)
noncomputable def c8_8 : Code := (.seq (.cond (.tmp 72) (.seq (codeAt [1, 1, 1, 1, 1, 1, 1, 1, 0, 1, 0, 0] b8) .ret) .skip) (.seq (codeAt [1, 1, 1, 1, 1, 1, 1, 1, 1, 0] b8) (.seq (codeAt [1, 1, 1, 1, 1, 1, 1, 1, 1, 1, 0] b8) (.seq (codeAt [1, 1, 1, 1, 1, 1, 1, 1, 1, 1, 1, 0, 0] b8) c8_7))))
noncomputable def c8_9 : Code := (.seq (codeAt [1, 1, 1, 1, 0] b8) (.seq (codeAt [1, 1, 1, 1, 1, 0, 0] b8) (.seq (.cond (.tmp 61) (.seq (codeAt [1, 1, 1, 1, 1, 0, 1, 0, 0] b8) .ret) .skip) (.seq (codeAt [1, 1, 1, 1, 1, 1, 0] b8) (.seq (codeAt [1, 1, 1, 1, 1, 1, 1, 0, 0] b8) (.seq (.cond (.tmp 63) (codeAt [1, 1, 1, 1, 1, 1, 1, 0, 1, 0] b8) .skip) (.seq (codeAt [1, 1, 1, 1, 1, 1, 1, 1, 0, 0] b8) c8_8)))))))
noncomputable def c8_10 : Code := (.seq c8_2 c8_9)
noncomputable def c8_11 : Code := (.seq (codeAt [0] b8) (.seq (codeAt [1, 0] b8) (.seq (codeAt [1, 1, 0] b8) (.seq (codeAt [1, 1, 1, 0, 0] b8) c8_10))))
noncomputable def g8_p0 (a10 : T10) (a17 : T17) (a20 : T20) (a13 : T13) (a22 : T22) (a15 : T15) (a18 : T18) (a16 : T16) (R : Type) (t0_0 : Int) (t0_1 : Int) (t0_2 : Int) (t0_3 : Int) (t0_4 : Int) (t0_5 : Int) (t0_6 : Int) (t1 : Int) (H : Heap) (kN : Int → Nat → Nat → Sl → Int → Int → Heap → Option R) : Option R :=
  alo H (.cells [(V.i .i64 t0_0), (V.i .i64 t0_1), (V.i .i64 t0_2), (V.i .i64 t0_3), (V.i .i64 t0_4), (V.i .i64 t0_5), (V.i .i64 t0_6)] 28 false) fun i25 h26 =>
  ((h26).ldI .i64 i25 (0 + 0)).bind fun x27 =>
  ((h26).ldI .i64 i25 (0 + 1)).bind fun x28 =>
  ((h26).ldI .i64 i25 (0 + 2)).bind fun x29 =>
  ((h26).ldI .i64 i25 (0 + 3)).bind fun x30 =>
  ((h26).ldI .i64 i25 (0 + 4)).bind fun x31 =>
  ((h26).ldI .i64 i25 (0 + 5)).bind fun x32 =>
  ((h26).ldI .i64 i25 (0 + 6)).bind fun x33 =>
  alo h26 (.cells [(V.i .i64 x27), (V.i .i64 x28), (V.i .i64 x29), (V.i .i64 x30), (V.i .i64 x31), (V.i .i64 x32), (V.i .i64 x33)] 3 false) fun i34 h35 =>
  kN t1 i25 0 (Sl.mk (some (i34, 0)) 7 (.ex 7)) (0 : Int) (0 : Int) h35
theorem g8_p0_eq (a10 : T10) (a17 : T17) (a20 : T20) (a13 : T13) (a22 : T22) (a15 : T15) (a18 : T18) (a16 : T16) {R : Type} (c2 : Code) (t0_0 : Int) (t0_1 : Int) (t0_2 : Int) (t0_3 : Int) (t0_4 : Int) (t0_5 : Int) (t0_6 : Int) (t1 : Int) (H : Heap) (K : Ex → Fr → Heap → Option R) : ev Try.prog (E8 a10 a17 a20 a13 a22 a15 a18 a16) loopLim Try.f8.ntmps kp8 (.seq (codeAt [0] b8) (.seq (codeAt [1, 0] b8) (.seq (codeAt [1, 1, 0] b8) (.seq (codeAt [1, 1, 1, 0, 0] b8) c2)))) [(0, (V.agg [(V.i .i64 t0_0), (V.i .i64 t0_1), (V.i .i64 t0_2), (V.i .i64 t0_3), (V.i .i64 t0_4), (V.i .i64 t0_5), (V.i .i64 t0_6)])), (1, (V.i .u8 t1))] H K = g8_p0 a10 a17 a20 a13 a22 a15 a18 a16 R t0_0 t0_1 t0_2 t0_3 t0_4 t0_5 t0_6 t1 H (fun t1 t2_0 t2_1 t5 t6 t7 H => ev Try.prog (E8 a10 a17 a20 a13 a22 a15 a18 a16) loopLim Try.f8.ntmps kp8 c2 [(1, (V.i .u8 t1)), (2, (V.p (some (t2_0, t2_1)))), (5, (V.sl t5)), (6, (V.i .i64 t6)), (7, (V.i .i64 t7))] H K) := by kernel_rfl
theorem g8_p0_lin {a10 : T10} {a17 : T17} {a20 : T20} {a13 : T13} {a22 : T22} {a15 : T15} {a18 : T18} {a16 : T16} (la10 : Lin10 a10) (la17 : Lin17 a17) (la20 : Lin20 a20) (la13 : Lin13 a13) (la22 : Lin22 a22) (la15 : Lin15 a15) (la18 : Lin18 a18) (la16 : Lin16 a16) {R S : Type} {k : S → Option R} {t0_0 : Int} {t0_1 : Int} {t0_2 : Int} {t0_3 : Int} {t0_4 : Int} {t0_5 : Int} {t0_6 : Int} {t1 : Int} {H : Heap} {fkN : Int → Nat → Nat → Sl → Int → Int → Heap → Option R} {gkN : Int → Nat → Nat → Sl → Int → Int → Heap → Option S} (hkN : ∀ t1 t2_0 t2_1 t5 t6 t7 H, fkN t1 t2_0 t2_1 t5 t6 t7 H = (gkN t1 t2_0 t2_1 t5 t6 t7 H).bind k) : g8_p0 a10 a17 a20 a13 a22 a15 a18 a16 R t0_0 t0_1 t0_2 t0_3 t0_4 t0_5 t0_6 t1 H fkN = (g8_p0 a10 a17 a20 a13 a22 a15 a18 a16 S t0_0 t0_1 t0_2 t0_3 t0_4 t0_5 t0_6 t1 H gkN).bind k := by
  delta g8_p0; exact (
    alo_lin fun i25 h26 =>
    bl fun x27 =>
    bl fun x28 =>
    bl fun x29 =>
    bl fun x30 =>
    bl fun x31 =>
    bl fun x32 =>
    bl fun x33 =>
    alo_lin fun i34 h35 =>
    hkN _ _ _ _ _ _ _)
noncomputable def g8_p1 (a10 : T10) (a17 : T17) (a20 : T20) (a13 : T13) (a22 : T22) (a15 : T15) (a18 : T18) (a16 : T16) (R : Type) (t1 : Int) (t2_0 : Nat) (t2_1 : Nat) (t5 : Sl) (t6 : Int) (t7 : Int) (H : Heap) (kN : Int → Nat → Nat → Sl → Int → Int → Heap → Option R) (kE0 : Int → Nat → Nat → Int → Heap → Option R) : Option R :=
  sel (decide (t7 < ((t5.len : Nat) : Int))) (
    if 0 ≤ t7 ∧ t7 < ((t5.len : Nat) : Int) then (
      (t5.a).bind fun q36 =>
      ((H).ldI .i64 q36.1 (q36.2 + Int.toNat t7 * 1)).bind fun x37 =>
      sel (decide (x37 < (1 : Int))) (
        kN t1 t2_0 t2_1 t5 (1 : Int) (IntKind.wrap .i64 (t7 + (1 : Int))) H) (
        if 0 ≤ t7 ∧ t7 < ((t5.len : Nat) : Int) then (
          (t5.a).bind fun q38 =>
          ((H).ldI .i64 q38.1 (q38.2 + Int.toNat t7 * 1)).bind fun x39 =>
          sel (decide (x39 > (1048576 : Int))) (
            kN t1 t2_0 t2_1 t5 (1 : Int) (IntKind.wrap .i64 (t7 + (1 : Int))) H) (
            kN t1 t2_0 t2_1 t5 t6 (IntKind.wrap .i64 (t7 + (1 : Int))) H))
        else (
          none)))
    else (
      none)) (
    kE0 t1 t2_0 t2_1 t6 H)
theorem g8_p1_eq (a10 : T10) (a17 : T17) (a20 : T20) (a13 : T13) (a22 : T22) (a15 : T15) (a18 : T18) (a16 : T16) (la10 : Lin10 a10) (la17 : Lin17 a17) (la20 : Lin20 a20) (la13 : Lin13 a13) (la22 : Lin22 a22) (la15 : Lin15 a15) (la18 : Lin18 a18) (la16 : Lin16 a16) {R : Type} (t1 : Int) (t2_0 : Nat) (t2_1 : Nat) (t5 : Sl) (t6 : Int) (t7 : Int) (H : Heap) (K : Ex → Fr → Heap → Option R) : ev Try.prog (E8 a10 a17 a20 a13 a22 a15 a18 a16) loopLim Try.f8.ntmps kp8 c8_0 [(1, (V.i .u8 t1)), (2, (V.p (some (t2_0, t2_1)))), (5, (V.sl t5)), (6, (V.i .i64 t6)), (7, (V.i .i64 t7))] H K = g8_p1 a10 a17 a20 a13 a22 a15 a18 a16 R t1 t2_0 t2_1 t5 t6 t7 H (fun t1 t2_0 t2_1 t5 t6 t7 H => K .normal [(1, (V.i .u8 t1)), (2, (V.p (some (t2_0, t2_1)))), (5, (V.sl t5)), (6, (V.i .i64 t6)), (7, (V.i .i64 t7))] H) (fun t1 t2_0 t2_1 t6 H => K (.exit 0) [(1, (V.i .u8 t1)), (2, (V.p (some (t2_0, t2_1)))), (6, (V.i .i64 t6))] H) := by kernel_rfl
theorem g8_p1_lin {a10 : T10} {a17 : T17} {a20 : T20} {a13 : T13} {a22 : T22} {a15 : T15} {a18 : T18} {a16 : T16} (la10 : Lin10 a10) (la17 : Lin17 a17) (la20 : Lin20 a20) (la13 : Lin13 a13) (la22 : Lin22 a22) (la15 : Lin15 a15) (la18 : Lin18 a18) (la16 : Lin16 a16) {R S : Type} {k : S → Option R} {t1 : Int} {t2_0 : Nat} {t2_1 : Nat} {t5 : Sl} {t6 : Int} {t7 : Int} {H : Heap} {fkN : Int → Nat → Nat → Sl → Int → Int → Heap → Option R} {gkN : Int → Nat → Nat → Sl → Int → Int → Heap → Option S} {fkE0 : Int → Nat → Nat → Int → Heap → Option R} {gkE0 : Int → Nat → Nat → Int → Heap → Option S} (hkN : ∀ t1 t2_0 t2_1 t5 t6 t7 H, fkN t1 t2_0 t2_1 t5 t6 t7 H = (gkN t1 t2_0 t2_1 t5 t6 t7 H).bind k) (hkE0 : ∀ t1 t2_0 t2_1 t6 H, fkE0 t1 t2_0 t2_1 t6 H = (gkE0 t1 t2_0 t2_1 t6 H).bind k) : g8_p1 a10 a17 a20 a13 a22 a15 a18 a16 R t1 t2_0 t2_1 t5 t6 t7 H fkN fkE0 = (g8_p1 a10 a17 a20 a13 a22 a15 a18 a16 S t1 t2_0 t2_1 t5 t6 t7 H gkN gkE0).bind k := by
  delta g8_p1; exact (
    sl_lin (
      il (
        bl fun q36 =>
        bl fun x37 =>
        sl_lin (
          hkN _ _ _ _ _ _ _) (
          il (
            bl fun q38 =>
            bl fun x39 =>
            sl_lin (
              hkN _ _ _ _ _ _ _) (
              hkN _ _ _ _ _ _ _)) (
            rfl))) (
        rfl)) (
      hkE0 _ _ _ _ _))
abbrev g8_p2_S := Int × Nat × Nat × Sl × Int × Int
abbrev g8_p2_O := Int × Nat × Nat × Int
def g8_p2_es (s : g8_p2_S) : Fr := [(1, (V.i .u8 s.1)), (2, (V.p (some (s.2.1, s.2.2.1)))), (5, (V.sl s.2.2.2.1)), (6, (V.i .i64 s.2.2.2.2.1)), (7, (V.i .i64 s.2.2.2.2.2))]
def g8_p2_er (r : g8_p2_O) : Ex × Fr := ((.exit 0), [(1, (V.i .u8 r.1)), (2, (V.p (some (r.2.1, r.2.2.1)))), (6, (V.i .i64 r.2.2.2))])
noncomputable def g8_p2_b (a10 : T10) (a17 : T17) (a20 : T20) (a13 : T13) (a22 : T22) (a15 : T15) (a18 : T18) (a16 : T16) (s : g8_p2_S) (H : Heap) : Option (Rd g8_p2_S g8_p2_O × Heap) :=
  g8_p1 a10 a17 a20 a13 a22 a15 a18 a16 _ s.1 s.2.1 s.2.2.1 s.2.2.2.1 s.2.2.2.2.1 s.2.2.2.2.2 H (fun t1 t2_0 t2_1 t5 t6 t7 H => some (.go (t1, t2_0, t2_1, t5, t6, t7), H)) (fun t1 t2_0 t2_1 t6 H => some (.up (t1, t2_0, t2_1, t6), H))
noncomputable def g8_p2 (a10 : T10) (a17 : T17) (a20 : T20) (a13 : T13) (a22 : T22) (a15 : T15) (a18 : T18) (a16 : T16) (R : Type) (t1 : Int) (t2_0 : Nat) (t2_1 : Nat) (t5 : Sl) (t6 : Int) (t7 : Int) (H : Heap) (kE0 : Int → Nat → Nat → Int → Heap → Option R) : Option R :=
  (tlim (g8_p2_b a10 a17 a20 a13 a22 a15 a18 a16) (t1, t2_0, t2_1, t5, t6, t7) H).bind fun p => kE0 p.1.1 p.1.2.1 p.1.2.2.1 p.1.2.2.2 p.2
theorem g8_p2_lin {a10 : T10} {a17 : T17} {a20 : T20} {a13 : T13} {a22 : T22} {a15 : T15} {a18 : T18} {a16 : T16} (la10 : Lin10 a10) (la17 : Lin17 a17) (la20 : Lin20 a20) (la13 : Lin13 a13) (la22 : Lin22 a22) (la15 : Lin15 a15) (la18 : Lin18 a18) (la16 : Lin16 a16) {R S : Type} {k : S → Option R} {t1 : Int} {t2_0 : Nat} {t2_1 : Nat} {t5 : Sl} {t6 : Int} {t7 : Int} {H : Heap} {fkE0 : Int → Nat → Nat → Int → Heap → Option R} {gkE0 : Int → Nat → Nat → Int → Heap → Option S} (hkE0 : ∀ t1 t2_0 t2_1 t6 H, fkE0 t1 t2_0 t2_1 t6 H = (gkE0 t1 t2_0 t2_1 t6 H).bind k) : g8_p2 a10 a17 a20 a13 a22 a15 a18 a16 R t1 t2_0 t2_1 t5 t6 t7 H fkE0 = (g8_p2 a10 a17 a20 a13 a22 a15 a18 a16 S t1 t2_0 t2_1 t5 t6 t7 H gkE0).bind k := by
  exact bl fun p => hkE0 _ _ _ _ _
theorem g8_p2_eq (a10 : T10) (a17 : T17) (a20 : T20) (a13 : T13) (a22 : T22) (a15 : T15) (a18 : T18) (a16 : T16) (la10 : Lin10 a10) (la17 : Lin17 a17) (la20 : Lin20 a20) (la13 : Lin13 a13) (la22 : Lin22 a22) (la15 : Lin15 a15) (la18 : Lin18 a18) (la16 : Lin16 a16) {R : Type} (t1 : Int) (t2_0 : Nat) (t2_1 : Nat) (t5 : Sl) (t6 : Int) (t7 : Int) (H : Heap) (K : Ex → Fr → Heap → Option R) : ev Try.prog (E8 a10 a17 a20 a13 a22 a15 a18 a16) loopLim Try.f8.ntmps kp8 c8_1 [(1, (V.i .u8 t1)), (2, (V.p (some (t2_0, t2_1)))), (5, (V.sl t5)), (6, (V.i .i64 t6)), (7, (V.i .i64 t7))] H K = g8_p2 a10 a17 a20 a13 a22 a15 a18 a16 R t1 t2_0 t2_1 t5 t6 t7 H (fun t1 t2_0 t2_1 t6 H => K (.exit 0) [(1, (V.i .u8 t1)), (2, (V.p (some (t2_0, t2_1)))), (6, (V.i .i64 t6))] H) := by
  show ev Try.prog (E8 a10 a17 a20 a13 a22 a15 a18 a16) loopLim Try.f8.ntmps kp8 (.loop c8_0) [(1, (V.i .u8 t1)), (2, (V.p (some (t2_0, t2_1)))), (5, (V.sl t5)), (6, (V.i .i64 t6)), (7, (V.i .i64 t7))] H K = _
  delta g8_p2
  refine (ev_tlim (b := g8_p2_b a10 a17 a20 a13 a22 a15 a18 a16) (es := g8_p2_es) (er := g8_p2_er) (by intro r; exact nofun) (fun s H => ?_) (t1, t2_0, t2_1, t5, t6, t7) H K).trans (bc fun p => rfl)
  exact (g8_p1_eq a10 a17 a20 a13 a22 a15 a18 a16 la10 la17 la20 la13 la22 la15 la18 la16 s.1 s.2.1 s.2.2.1 s.2.2.2.1 s.2.2.2.2.1 s.2.2.2.2.2 H ret3).trans (g8_p1_lin la10 la17 la20 la13 la22 la15 la18 la16 (fun _ _ _ _ _ _ _ => rfl) (fun _ _ _ _ _ => rfl))
noncomputable def g8_p3 (a10 : T10) (a17 : T17) (a20 : T20) (a13 : T13) (a22 : T22) (a15 : T15) (a18 : T18) (a16 : T16) (R : Type) (t1 : Int) (t2_0 : Nat) (t2_1 : Nat) (t5 : Sl) (t6 : Int) (t7 : Int) (H : Heap) (kN : Int → Nat → Nat → Int → Heap → Option R) : Option R :=
  g8_p2 a10 a17 a20 a13 a22 a15 a18 a16 R t1 t2_0 t2_1 t5 t6 t7 H (fun t1 t2_0 t2_1 t6 H => kN t1 t2_0 t2_1 t6 H)
theorem g8_p3_lin {a10 : T10} {a17 : T17} {a20 : T20} {a13 : T13} {a22 : T22} {a15 : T15} {a18 : T18} {a16 : T16} (la10 : Lin10 a10) (la17 : Lin17 a17) (la20 : Lin20 a20) (la13 : Lin13 a13) (la22 : Lin22 a22) (la15 : Lin15 a15) (la18 : Lin18 a18) (la16 : Lin16 a16) {R S : Type} {k : S → Option R} {t1 : Int} {t2_0 : Nat} {t2_1 : Nat} {t5 : Sl} {t6 : Int} {t7 : Int} {H : Heap} {fkN : Int → Nat → Nat → Int → Heap → Option R} {gkN : Int → Nat → Nat → Int → Heap → Option S} (hkN : ∀ t1 t2_0 t2_1 t6 H, fkN t1 t2_0 t2_1 t6 H = (gkN t1 t2_0 t2_1 t6 H).bind k) : g8_p3 a10 a17 a20 a13 a22 a15 a18 a16 R t1 t2_0 t2_1 t5 t6 t7 H fkN = (g8_p3 a10 a17 a20 a13 a22 a15 a18 a16 S t1 t2_0 t2_1 t5 t6 t7 H gkN).bind k := by
  exact g8_p2_lin la10 la17 la20 la13 la22 la15 la18 la16 (fun _ _ _ _ _ => hkN _ _ _ _ _)
theorem g8_p3_eq (a10 : T10) (a17 : T17) (a20 : T20) (a13 : T13) (a22 : T22) (a15 : T15) (a18 : T18) (a16 : T16) (la10 : Lin10 a10) (la17 : Lin17 a17) (la20 : Lin20 a20) (la13 : Lin13 a13) (la22 : Lin22 a22) (la15 : Lin15 a15) (la18 : Lin18 a18) (la16 : Lin16 a16) {R : Type} (t1 : Int) (t2_0 : Nat) (t2_1 : Nat) (t5 : Sl) (t6 : Int) (t7 : Int) (H : Heap) (K : Ex → Fr → Heap → Option R) : ev Try.prog (E8 a10 a17 a20 a13 a22 a15 a18 a16) loopLim Try.f8.ntmps kp8 c8_2 [(1, (V.i .u8 t1)), (2, (V.p (some (t2_0, t2_1)))), (5, (V.sl t5)), (6, (V.i .i64 t6)), (7, (V.i .i64 t7))] H K = g8_p3 a10 a17 a20 a13 a22 a15 a18 a16 R t1 t2_0 t2_1 t5 t6 t7 H (fun t1 t2_0 t2_1 t6 H => K .normal [(1, (V.i .u8 t1)), (2, (V.p (some (t2_0, t2_1)))), (6, (V.i .i64 t6))] H) := by
  show ev Try.prog (E8 a10 a17 a20 a13 a22 a15 a18 a16) loopLim Try.f8.ntmps kp8 (.block 0 c8_1) [(1, (V.i .u8 t1)), (2, (V.p (some (t2_0, t2_1)))), (5, (V.sl t5)), (6, (V.i .i64 t6)), (7, (V.i .i64 t7))] H K = _
  rw [ev_block]
  delta g8_p3
  exact (g8_p2_eq a10 a17 a20 a13 a22 a15 a18 a16 la10 la17 la20 la13 la22 la15 la18 la16 t1 t2_0 t2_1 t5 t6 t7 H (kBlock kp8 0 K))
noncomputable def g8_p4 (a10 : T10) (a17 : T17) (a20 : T20) (a13 : T13) (a22 : T22) (a15 : T15) (a18 : T18) (a16 : T16) (R : Type) (t1 : Int) (t2_0 : Nat) (t2_1 : Nat) (t6 : Int) (H : Heap) (kN : Bool → Heap → Option R) (kR : Bool → Heap → Option R) : Option R :=
  ((H).ldI .i64 t2_0 (t2_1 + 0)).bind fun x100 =>
  ((H).ldI .i64 t2_0 (t2_1 + 1)).bind fun x101 =>
  ((H).ldI .i64 t2_0 (t2_1 + 2)).bind fun x102 =>
  ((H).ldI .i64 t2_0 (t2_1 + 3)).bind fun x103 =>
  ((H).ldI .i64 t2_0 (t2_1 + 4)).bind fun x104 =>
  ((H).ldI .i64 t2_0 (t2_1 + 5)).bind fun x105 =>
  ((H).ldI .i64 t2_0 (t2_1 + 6)).bind fun x106 =>
  a10 R x100 x101 x102 x103 x104 x105 x106 H fun x107 x108 h109 =>
  sel (x108 != t6) (
    kR false h109) (
    sel (!((!(Option.isNone x107)) == (x108 == (0 : Int)))) (
      kR false h109) (
      sel (decide (t1 > (5 : Int))) (
        sel (!(Option.isNone x107)) (
          a17 R x107 t1 h109 fun x110 h111 =>
          kN (x110 != (1 : Int)) h111) (
          kN false h109)) (
        sel (!(Option.isNone x107)) (
          a17 R x107 t1 h109 fun x112 h113 =>
          kN (x112 != (0 : Int)) h113) (
          kN false h109))))
theorem g8_p4_eq (a10 : T10) (a17 : T17) (a20 : T20) (a13 : T13) (a22 : T22) (a15 : T15) (a18 : T18) (a16 : T16) {R : Type} (c2 : Code) (t1 : Int) (t2_0 : Nat) (t2_1 : Nat) (t6 : Int) (H : Heap) (K : Ex → Fr → Heap → Option R) : ev Try.prog (E8 a10 a17 a20 a13 a22 a15 a18 a16) loopLim Try.f8.ntmps kp8 (.seq (codeAt [1, 1, 1, 1, 0] b8) (.seq (codeAt [1, 1, 1, 1, 1, 0, 0] b8) (.seq (.cond (.tmp 61) (.seq (codeAt [1, 1, 1, 1, 1, 0, 1, 0, 0] b8) .ret) .skip) (.seq (codeAt [1, 1, 1, 1, 1, 1, 0] b8) (.seq (codeAt [1, 1, 1, 1, 1, 1, 1, 0, 0] b8) (.seq (.cond (.tmp 63) (codeAt [1, 1, 1, 1, 1, 1, 1, 0, 1, 0] b8) .skip) (.seq (codeAt [1, 1, 1, 1, 1, 1, 1, 1, 0, 0] b8) c2))))))) [(1, (V.i .u8 t1)), (2, (V.p (some (t2_0, t2_1)))), (6, (V.i .i64 t6))] H K = g8_p4 a10 a17 a20 a13 a22 a15 a18 a16 R t1 t2_0 t2_1 t6 H (fun t72 H => ev Try.prog (E8 a10 a17 a20 a13 a22 a15 a18 a16) loopLim Try.f8.ntmps kp8 c2 [(72, (V.b t72))] H K) (fun t4 H => K .ret [(4, (V.b t4))] H) := by kernel_rfl
theorem g8_p4_lin {a10 : T10} {a17 : T17} {a20 : T20} {a13 : T13} {a22 : T22} {a15 : T15} {a18 : T18} {a16 : T16} (la10 : Lin10 a10) (la17 : Lin17 a17) (la20 : Lin20 a20) (la13 : Lin13 a13) (la22 : Lin22 a22) (la15 : Lin15 a15) (la18 : Lin18 a18) (la16 : Lin16 a16) {R S : Type} {k : S → Option R} {t1 : Int} {t2_0 : Nat} {t2_1 : Nat} {t6 : Int} {H : Heap} {fkN : Bool → Heap → Option R} {gkN : Bool → Heap → Option S} {fkR : Bool → Heap → Option R} {gkR : Bool → Heap → Option S} (hkN : ∀ t72 H, fkN t72 H = (gkN t72 H).bind k) (hkR : ∀ t4 H, fkR t4 H = (gkR t4 H).bind k) : g8_p4 a10 a17 a20 a13 a22 a15 a18 a16 R t1 t2_0 t2_1 t6 H fkN fkR = (g8_p4 a10 a17 a20 a13 a22 a15 a18 a16 S t1 t2_0 t2_1 t6 H gkN gkR).bind k := by
  delta g8_p4; exact (
    bl fun x100 =>
    bl fun x101 =>
    bl fun x102 =>
    bl fun x103 =>
    bl fun x104 =>
    bl fun x105 =>
    bl fun x106 =>
    la10.l fun x107 x108 h109 =>
    sl_lin (
      hkR _ _) (
      sl_lin (
        hkR _ _) (
        sl_lin (
          sl_lin (
            la17.l fun x110 h111 =>
            hkN _ _) (
            hkN _ _)) (
          sl_lin (
            la17.l fun x112 h113 =>
            hkN _ _) (
            hkN _ _)))))
noncomputable def g8_p5 (a10 : T10) (a17 : T17) (a20 : T20) (a13 : T13) (a22 : T22) (a15 : T15) (a18 : T18) (a16 : T16) (R : Type) (t72 : Bool) (H : Heap) (kN : Option (Nat × Nat) → Nat → Nat → Int → Heap → Option R) (kR : Bool → Heap → Option R) : Option R :=
  sel t72 (
    kR false H) (
    alo H (.cells [(V.i .i64 (0 : Int)), (V.i .i64 (0 : Int)), (V.i .i64 (0 : Int)), (V.i .i64 (0 : Int)), (V.i .i64 (0 : Int)), (V.i .i64 (0 : Int)), (V.i .i64 (0 : Int)), (V.i .u8 (0 : Int)), (V.i .i64 (0 : Int)), (V.b false), (V.b false), (V.i .i64 (0 : Int)), V.nilI] 58 false) fun i116 h117 =>
    kN none i116 0 (0 : Int) h117)
theorem g8_p5_eq (a10 : T10) (a17 : T17) (a20 : T20) (a13 : T13) (a22 : T22) (a15 : T15) (a18 : T18) (a16 : T16) {R : Type} (c2 : Code) (t72 : Bool) (H : Heap) (K : Ex → Fr → Heap → Option R) : ev Try.prog (E8 a10 a17 a20 a13 a22 a15 a18 a16) loopLim Try.f8.ntmps kp8 (.seq (.cond (.tmp 72) (.seq (codeAt [1, 1, 1, 1, 1, 1, 1, 1, 0, 1, 0, 0] b8) .ret) .skip) (.seq (codeAt [1, 1, 1, 1, 1, 1, 1, 1, 1, 0] b8) (.seq (codeAt [1, 1, 1, 1, 1, 1, 1, 1, 1, 1, 0] b8) (.seq (codeAt [1, 1, 1, 1, 1, 1, 1, 1, 1, 1, 1, 0, 0] b8) c2)))) [(72, (V.b t72))] H K = g8_p5 a10 a17 a20 a13 a22 a15 a18 a16 R t72 H (fun t11 t12_0 t12_1 t13 H => ev Try.prog (E8 a10 a17 a20 a13 a22 a15 a18 a16) loopLim Try.f8.ntmps kp8 c2 [(11, (V.p t11)), (12, (V.p (some (t12_0, t12_1)))), (13, (V.i .u8 t13))] H K) (fun t4 H => K .ret [(4, (V.b t4))] H) := by kernel_rfl
theorem g8_p5_lin {a10 : T10} {a17 : T17} {a20 : T20} {a13 : T13} {a22 : T22} {a15 : T15} {a18 : T18} {a16 : T16} (la10 : Lin10 a10) (la17 : Lin17 a17) (la20 : Lin20 a20) (la13 : Lin13 a13) (la22 : Lin22 a22) (la15 : Lin15 a15) (la18 : Lin18 a18) (la16 : Lin16 a16) {R S : Type} {k : S → Option R} {t72 : Bool} {H : Heap} {fkN : Option (Nat × Nat) → Nat → Nat → Int → Heap → Option R} {gkN : Option (Nat × Nat) → Nat → Nat → Int → Heap → Option S} {fkR : Bool → Heap → Option R} {gkR : Bool → Heap → Option S} (hkN : ∀ t11 t12_0 t12_1 t13 H, fkN t11 t12_0 t12_1 t13 H = (gkN t11 t12_0 t12_1 t13 H).bind k) (hkR : ∀ t4 H, fkR t4 H = (gkR t4 H).bind k) : g8_p5 a10 a17 a20 a13 a22 a15 a18 a16 R t72 H fkN fkR = (g8_p5 a10 a17 a20 a13 a22 a15 a18 a16 S t72 H gkN gkR).bind k := by
  delta g8_p5; exact (
    sl_lin (
      hkR _ _) (
      alo_lin fun i116 h117 =>
      hkN _ _ _ _ _))
noncomputable def g8_p6 (a10 : T10) (a17 : T17) (a20 : T20) (a13 : T13) (a22 : T22) (a15 : T15) (a18 : T18) (a16 : T16) (R : Type) (t11 : Option (Nat × Nat)) (t12_0 : Nat) (t12_1 : Nat) (t13 : Int) (H : Heap) (kN : Option (Nat × Nat) → Nat → Nat → Int → Heap → Option R) (kE2 : Option (Nat × Nat) → Nat → Nat → Heap → Option R) (kR : Bool → Heap → Option R) : Option R :=
  sel (decide (t13 < (12 : Int))) (
    a20 R t11 t13 H fun x118 h119 =>
    sel (x118 != (2 : Int)) (
      kR false h119) (
      a20 R (some (t12_0, t12_1)) t13 h119 fun x120 h121 =>
      sel (x120 != (2 : Int)) (
        kR false h121) (
        kN t11 t12_0 t12_1 (IntKind.wrap .u8 (t13 + (1 : Int))) h121))) (
    kE2 t11 t12_0 t12_1 H)
theorem g8_p6_eq (a10 : T10) (a17 : T17) (a20 : T20) (a13 : T13) (a22 : T22) (a15 : T15) (a18 : T18) (a16 : T16) (la10 : Lin10 a10) (la17 : Lin17 a17) (la20 : Lin20 a20) (la13 : Lin13 a13) (la22 : Lin22 a22) (la15 : Lin15 a15) (la18 : Lin18 a18) (la16 : Lin16 a16) {R : Type} (t11 : Option (Nat × Nat)) (t12_0 : Nat) (t12_1 : Nat) (t13 : Int) (H : Heap) (K : Ex → Fr → Heap → Option R) : ev Try.prog (E8 a10 a17 a20 a13 a22 a15 a18 a16) loopLim Try.f8.ntmps kp8 c8_3 [(11, (V.p t11)), (12, (V.p (some (t12_0, t12_1)))), (13, (V.i .u8 t13))] H K = g8_p6 a10 a17 a20 a13 a22 a15 a18 a16 R t11 t12_0 t12_1 t13 H (fun t11 t12_0 t12_1 t13 H => K .normal [(11, (V.p t11)), (12, (V.p (some (t12_0, t12_1)))), (13, (V.i .u8 t13))] H) (fun t11 t12_0 t12_1 H => K (.exit 2) [(11, (V.p t11)), (12, (V.p (some (t12_0, t12_1))))] H) (fun t4 H => K .ret [(4, (V.b t4))] H) := by kernel_rfl
theorem g8_p6_lin {a10 : T10} {a17 : T17} {a20 : T20} {a13 : T13} {a22 : T22} {a15 : T15} {a18 : T18} {a16 : T16} (la10 : Lin10 a10) (la17 : Lin17 a17) (la20 : Lin20 a20) (la13 : Lin13 a13) (la22 : Lin22 a22) (la15 : Lin15 a15) (la18 : Lin18 a18) (la16 : Lin16 a16) {R S : Type} {k : S → Option R} {t11 : Option (Nat × Nat)} {t12_0 : Nat} {t12_1 : Nat} {t13 : Int} {H : Heap} {fkN : Option (Nat × Nat) → Nat → Nat → Int → Heap → Option R} {gkN : Option (Nat × Nat) → Nat → Nat → Int → Heap → Option S} {fkE2 : Option (Nat × Nat) → Nat → Nat → Heap → Option R} {gkE2 : Option (Nat × Nat) → Nat → Nat → Heap → Option S} {fkR : Bool → Heap → Option R} {gkR : Bool → Heap → Option S} (hkN : ∀ t11 t12_0 t12_1 t13 H, fkN t11 t12_0 t12_1 t13 H = (gkN t11 t12_0 t12_1 t13 H).bind k) (hkE2 : ∀ t11 t12_0 t12_1 H, fkE2 t11 t12_0 t12_1 H = (gkE2 t11 t12_0 t12_1 H).bind k) (hkR : ∀ t4 H, fkR t4 H = (gkR t4 H).bind k) : g8_p6 a10 a17 a20 a13 a22 a15 a18 a16 R t11 t12_0 t12_1 t13 H fkN fkE2 fkR = (g8_p6 a10 a17 a20 a13 a22 a15 a18 a16 S t11 t12_0 t12_1 t13 H gkN gkE2 gkR).bind k := by
  delta g8_p6; exact (
    sl_lin (
      la20.l fun x118 h119 =>
      sl_lin (
        hkR _ _) (
        la20.l fun x120 h121 =>
        sl_lin (
          hkR _ _) (
          hkN _ _ _ _ _))) (
      hkE2 _ _ _ _))
abbrev g8_p7_S := (Option (Nat × Nat)) × Nat × Nat × Int
abbrev g8_p7_O := Sum ((Option (Nat × Nat)) × Nat × Nat) (Bool)
def g8_p7_es (s : g8_p7_S) : Fr := [(11, (V.p s.1)), (12, (V.p (some (s.2.1, s.2.2.1)))), (13, (V.i .u8 s.2.2.2))]
def g8_p7_er : g8_p7_O → Ex × Fr
  | (.inl r) => ((.exit 2), [(11, (V.p r.1)), (12, (V.p (some (r.2.1, r.2.2))))])
  | (.inr r) => (.ret, [(4, (V.b r))])
noncomputable def g8_p7_b (a10 : T10) (a17 : T17) (a20 : T20) (a13 : T13) (a22 : T22) (a15 : T15) (a18 : T18) (a16 : T16) (s : g8_p7_S) (H : Heap) : Option (Rd g8_p7_S g8_p7_O × Heap) :=
  g8_p6 a10 a17 a20 a13 a22 a15 a18 a16 _ s.1 s.2.1 s.2.2.1 s.2.2.2 H (fun t11 t12_0 t12_1 t13 H => some (.go (t11, t12_0, t12_1, t13), H)) (fun t11 t12_0 t12_1 H => some (.up (.inl (t11, t12_0, t12_1)), H)) (fun t4 H => some (.up (.inr t4), H))
noncomputable def g8_p7 (a10 : T10) (a17 : T17) (a20 : T20) (a13 : T13) (a22 : T22) (a15 : T15) (a18 : T18) (a16 : T16) (R : Type) (t11 : Option (Nat × Nat)) (t12_0 : Nat) (t12_1 : Nat) (t13 : Int) (H : Heap) (kE2 : Option (Nat × Nat) → Nat → Nat → Heap → Option R) (kR : Bool → Heap → Option R) : Option R :=
  (tlim (g8_p7_b a10 a17 a20 a13 a22 a15 a18 a16) (t11, t12_0, t12_1, t13) H).bind fun p => cas p.1 (fun r => kE2 r.1 r.2.1 r.2.2 p.2) (fun r0 => kR r0 p.2)
theorem g8_p7_lin {a10 : T10} {a17 : T17} {a20 : T20} {a13 : T13} {a22 : T22} {a15 : T15} {a18 : T18} {a16 : T16} (la10 : Lin10 a10) (la17 : Lin17 a17) (la20 : Lin20 a20) (la13 : Lin13 a13) (la22 : Lin22 a22) (la15 : Lin15 a15) (la18 : Lin18 a18) (la16 : Lin16 a16) {R S : Type} {k : S → Option R} {t11 : Option (Nat × Nat)} {t12_0 : Nat} {t12_1 : Nat} {t13 : Int} {H : Heap} {fkE2 : Option (Nat × Nat) → Nat → Nat → Heap → Option R} {gkE2 : Option (Nat × Nat) → Nat → Nat → Heap → Option S} {fkR : Bool → Heap → Option R} {gkR : Bool → Heap → Option S} (hkE2 : ∀ t11 t12_0 t12_1 H, fkE2 t11 t12_0 t12_1 H = (gkE2 t11 t12_0 t12_1 H).bind k) (hkR : ∀ t4 H, fkR t4 H = (gkR t4 H).bind k) : g8_p7 a10 a17 a20 a13 a22 a15 a18 a16 R t11 t12_0 t12_1 t13 H fkE2 fkR = (g8_p7 a10 a17 a20 a13 a22 a15 a18 a16 S t11 t12_0 t12_1 t13 H gkE2 gkR).bind k := by
  exact bl fun p => cas_lin (fun _ => hkE2 _ _ _ _) (fun _ => hkR _ _)
theorem g8_p7_eq (a10 : T10) (a17 : T17) (a20 : T20) (a13 : T13) (a22 : T22) (a15 : T15) (a18 : T18) (a16 : T16) (la10 : Lin10 a10) (la17 : Lin17 a17) (la20 : Lin20 a20) (la13 : Lin13 a13) (la22 : Lin22 a22) (la15 : Lin15 a15) (la18 : Lin18 a18) (la16 : Lin16 a16) {R : Type} (t11 : Option (Nat × Nat)) (t12_0 : Nat) (t12_1 : Nat) (t13 : Int) (H : Heap) (K : Ex → Fr → Heap → Option R) : ev Try.prog (E8 a10 a17 a20 a13 a22 a15 a18 a16) loopLim Try.f8.ntmps kp8 c8_4 [(11, (V.p t11)), (12, (V.p (some (t12_0, t12_1)))), (13, (V.i .u8 t13))] H K = g8_p7 a10 a17 a20 a13 a22 a15 a18 a16 R t11 t12_0 t12_1 t13 H (fun t11 t12_0 t12_1 H => K (.exit 2) [(11, (V.p t11)), (12, (V.p (some (t12_0, t12_1))))] H) (fun t4 H => K .ret [(4, (V.b t4))] H) := by
  show ev Try.prog (E8 a10 a17 a20 a13 a22 a15 a18 a16) loopLim Try.f8.ntmps kp8 (.loop c8_3) [(11, (V.p t11)), (12, (V.p (some (t12_0, t12_1)))), (13, (V.i .u8 t13))] H K = _
  delta g8_p7
  refine (ev_tlim (b := g8_p7_b a10 a17 a20 a13 a22 a15 a18 a16) (es := g8_p7_es) (er := g8_p7_er) (by rintro (r | r) <;> exact nofun) (fun s H => ?_) (t11, t12_0, t12_1, t13) H K).trans (bc fun p => by rcases p with ⟨(r | r), H⟩ <;> rfl)
  exact (g8_p6_eq a10 a17 a20 a13 a22 a15 a18 a16 la10 la17 la20 la13 la22 la15 la18 la16 s.1 s.2.1 s.2.2.1 s.2.2.2 H ret3).trans (g8_p6_lin la10 la17 la20 la13 la22 la15 la18 la16 (fun _ _ _ _ _ => rfl) (fun _ _ _ _ => rfl) (fun _ _ => rfl))
noncomputable def g8_p8 (a10 : T10) (a17 : T17) (a20 : T20) (a13 : T13) (a22 : T22) (a15 : T15) (a18 : T18) (a16 : T16) (R : Type) (t11 : Option (Nat × Nat)) (t12_0 : Nat) (t12_1 : Nat) (t13 : Int) (H : Heap) (kN : Option (Nat × Nat) → Nat → Nat → Heap → Option R) (kR : Bool → Heap → Option R) : Option R :=
  g8_p7 a10 a17 a20 a13 a22 a15 a18 a16 R t11 t12_0 t12_1 t13 H (fun t11 t12_0 t12_1 H => kN t11 t12_0 t12_1 H) (fun t4 H => kR t4 H)
theorem g8_p8_lin {a10 : T10} {a17 : T17} {a20 : T20} {a13 : T13} {a22 : T22} {a15 : T15} {a18 : T18} {a16 : T16} (la10 : Lin10 a10) (la17 : Lin17 a17) (la20 : Lin20 a20) (la13 : Lin13 a13) (la22 : Lin22 a22) (la15 : Lin15 a15) (la18 : Lin18 a18) (la16 : Lin16 a16) {R S : Type} {k : S → Option R} {t11 : Option (Nat × Nat)} {t12_0 : Nat} {t12_1 : Nat} {t13 : Int} {H : Heap} {fkN : Option (Nat × Nat) → Nat → Nat → Heap → Option R} {gkN : Option (Nat × Nat) → Nat → Nat → Heap → Option S} {fkR : Bool → Heap → Option R} {gkR : Bool → Heap → Option S} (hkN : ∀ t11 t12_0 t12_1 H, fkN t11 t12_0 t12_1 H = (gkN t11 t12_0 t12_1 H).bind k) (hkR : ∀ t4 H, fkR t4 H = (gkR t4 H).bind k) : g8_p8 a10 a17 a20 a13 a22 a15 a18 a16 R t11 t12_0 t12_1 t13 H fkN fkR = (g8_p8 a10 a17 a20 a13 a22 a15 a18 a16 S t11 t12_0 t12_1 t13 H gkN gkR).bind k := by
  exact g8_p7_lin la10 la17 la20 la13 la22 la15 la18 la16 (fun _ _ _ _ => hkN _ _ _ _) (fun _ _ => hkR _ _)
theorem g8_p8_eq (a10 : T10) (a17 : T17) (a20 : T20) (a13 : T13) (a22 : T22) (a15 : T15) (a18 : T18) (a16 : T16) (la10 : Lin10 a10) (la17 : Lin17 a17) (la20 : Lin20 a20) (la13 : Lin13 a13) (la22 : Lin22 a22) (la15 : Lin15 a15) (la18 : Lin18 a18) (la16 : Lin16 a16) {R : Type} (t11 : Option (Nat × Nat)) (t12_0 : Nat) (t12_1 : Nat) (t13 : Int) (H : Heap) (K : Ex → Fr → Heap → Option R) : ev Try.prog (E8 a10 a17 a20 a13 a22 a15 a18 a16) loopLim Try.f8.ntmps kp8 c8_5 [(11, (V.p t11)), (12, (V.p (some (t12_0, t12_1)))), (13, (V.i .u8 t13))] H K = g8_p8 a10 a17 a20 a13 a22 a15 a18 a16 R t11 t12_0 t12_1 t13 H (fun t11 t12_0 t12_1 H => K .normal [(11, (V.p t11)), (12, (V.p (some (t12_0, t12_1))))] H) (fun t4 H => K .ret [(4, (V.b t4))] H) := by
  show ev Try.prog (E8 a10 a17 a20 a13 a22 a15 a18 a16) loopLim Try.f8.ntmps kp8 (.block 2 c8_4) [(11, (V.p t11)), (12, (V.p (some (t12_0, t12_1)))), (13, (V.i .u8 t13))] H K = _
  rw [ev_block]
  delta g8_p8
  exact (g8_p7_eq a10 a17 a20 a13 a22 a15 a18 a16 la10 la17 la20 la13 la22 la15 la18 la16 t11 t12_0 t12_1 t13 H (kBlock kp8 2 K))
noncomputable def g8_p9 (a10 : T10) (a17 : T17) (a20 : T20) (a13 : T13) (a22 : T22) (a15 : T15) (a18 : T18) (a16 : T16) (R : Type) (t11 : Option (Nat × Nat)) (t12_0 : Nat) (t12_1 : Nat) (H : Heap) (kR : Bool → Heap → Option R) : Option R :=
  a13 R t11 H fun x122 h123 =>
  a13 R (some (t12_0, t12_1)) h123 fun x124 h125 =>
  sel ((IntKind.wrap .u8 (x122 + x124)) == (0 : Int)) (
    a22 R t11 h125 fun x126 h127 =>
    sel (x126 == (9 : Int)) (
      a22 R (some (t12_0, t12_1)) h127 fun x128 h129 =>
      sel (x128 == (9 : Int)) (
        a15 R t11 h129 fun x130 h131 =>
        a15 R (some (t12_0, t12_1)) h131 fun x132 h133 =>
        a18 R t11 h133 fun x134 h135 =>
        a18 R (some (t12_0, t12_1)) h135 fun x136 h137 =>
        sel ((IntKind.wrap .i64 ((IntKind.wrap .i64 ((IntKind.wrap .i64 (x130 + x132)) + x134)) + x136)) == (0 : Int)) (
          a16 R h137 fun x138 h139 =>
          kR x138 h139) (
          kR false h137)) (
        kR false h129)) (
      kR false h127)) (
    kR false h125)
theorem g8_p9_eq (a10 : T10) (a17 : T17) (a20 : T20) (a13 : T13) (a22 : T22) (a15 : T15) (a18 : T18) (a16 : T16) (la10 : Lin10 a10) (la17 : Lin17 a17) (la20 : Lin20 a20) (la13 : Lin13 a13) (la22 : Lin22 a22) (la15 : Lin15 a15) (la18 : Lin18 a18) (la16 : Lin16 a16) {R : Type} (t11 : Option (Nat × Nat)) (t12_0 : Nat) (t12_1 : Nat) (H : Heap) (K : Ex → Fr → Heap → Option R) : ev Try.prog (E8 a10 a17 a20 a13 a22 a15 a18 a16) loopLim Try.f8.ntmps kp8 c8_6 [(11, (V.p t11)), (12, (V.p (some (t12_0, t12_1))))] H K = g8_p9 a10 a17 a20 a13 a22 a15 a18 a16 R t11 t12_0 t12_1 H (fun t4 H => K .ret [(4, (V.b t4))] H) := by kernel_rfl
theorem g8_p9_lin {a10 : T10} {a17 : T17} {a20 : T20} {a13 : T13} {a22 : T22} {a15 : T15} {a18 : T18} {a16 : T16} (la10 : Lin10 a10) (la17 : Lin17 a17) (la20 : Lin20 a20) (la13 : Lin13 a13) (la22 : Lin22 a22) (la15 : Lin15 a15) (la18 : Lin18 a18) (la16 : Lin16 a16) {R S : Type} {k : S → Option R} {t11 : Option (Nat × Nat)} {t12_0 : Nat} {t12_1 : Nat} {H : Heap} {fkR : Bool → Heap → Option R} {gkR : Bool → Heap → Option S} (hkR : ∀ t4 H, fkR t4 H = (gkR t4 H).bind k) : g8_p9 a10 a17 a20 a13 a22 a15 a18 a16 R t11 t12_0 t12_1 H fkR = (g8_p9 a10 a17 a20 a13 a22 a15 a18 a16 S t11 t12_0 t12_1 H gkR).bind k := by
  delta g8_p9; exact (
    la13.l fun x122 h123 =>
    la13.l fun x124 h125 =>
    sl_lin (
      la22.l fun x126 h127 =>
      sl_lin (
        la22.l fun x128 h129 =>
        sl_lin (
          la15.l fun x130 h131 =>
          la15.l fun x132 h133 =>
          la18.l fun x134 h135 =>
          la18.l fun x136 h137 =>
          sl_lin (
            la16.l fun x138 h139 =>
            hkR _ _) (
            hkR _ _)) (
          hkR _ _)) (
        hkR _ _)) (
      hkR _ _))
noncomputable def g8_p10 (a10 : T10) (a17 : T17) (a20 : T20) (a13 : T13) (a22 : T22) (a15 : T15) (a18 : T18) (a16 : T16) (R : Type) (t11 : Option (Nat × Nat)) (t12_0 : Nat) (t12_1 : Nat) (t13 : Int) (H : Heap) (kR : Bool → Heap → Option R) : Option R :=
  g8_p8 a10 a17 a20 a13 a22 a15 a18 a16 R t11 t12_0 t12_1 t13 H (fun t11 t12_0 t12_1 H => g8_p9 a10 a17 a20 a13 a22 a15 a18 a16 R t11 t12_0 t12_1 H (fun t4 H => kR t4 H)) (fun t4 H => kR t4 H)
theorem g8_p10_lin {a10 : T10} {a17 : T17} {a20 : T20} {a13 : T13} {a22 : T22} {a15 : T15} {a18 : T18} {a16 : T16} (la10 : Lin10 a10) (la17 : Lin17 a17) (la20 : Lin20 a20) (la13 : Lin13 a13) (la22 : Lin22 a22) (la15 : Lin15 a15) (la18 : Lin18 a18) (la16 : Lin16 a16) {R S : Type} {k : S → Option R} {t11 : Option (Nat × Nat)} {t12_0 : Nat} {t12_1 : Nat} {t13 : Int} {H : Heap} {fkR : Bool → Heap → Option R} {gkR : Bool → Heap → Option S} (hkR : ∀ t4 H, fkR t4 H = (gkR t4 H).bind k) : g8_p10 a10 a17 a20 a13 a22 a15 a18 a16 R t11 t12_0 t12_1 t13 H fkR = (g8_p10 a10 a17 a20 a13 a22 a15 a18 a16 S t11 t12_0 t12_1 t13 H gkR).bind k := by
  exact g8_p8_lin la10 la17 la20 la13 la22 la15 la18 la16 (fun _ _ _ _ => g8_p9_lin la10 la17 la20 la13 la22 la15 la18 la16 (fun _ _ => hkR _ _)) (fun _ _ => hkR _ _)
theorem g8_p10_eq (a10 : T10) (a17 : T17) (a20 : T20) (a13 : T13) (a22 : T22) (a15 : T15) (a18 : T18) (a16 : T16) (la10 : Lin10 a10) (la17 : Lin17 a17) (la20 : Lin20 a20) (la13 : Lin13 a13) (la22 : Lin22 a22) (la15 : Lin15 a15) (la18 : Lin18 a18) (la16 : Lin16 a16) {R : Type} (t11 : Option (Nat × Nat)) (t12_0 : Nat) (t12_1 : Nat) (t13 : Int) (H : Heap) (K : Ex → Fr → Heap → Option R) : ev Try.prog (E8 a10 a17 a20 a13 a22 a15 a18 a16) loopLim Try.f8.ntmps kp8 c8_7 [(11, (V.p t11)), (12, (V.p (some (t12_0, t12_1)))), (13, (V.i .u8 t13))] H K = g8_p10 a10 a17 a20 a13 a22 a15 a18 a16 R t11 t12_0 t12_1 t13 H (fun t4 H => K .ret [(4, (V.b t4))] H) := by
  show ev Try.prog (E8 a10 a17 a20 a13 a22 a15 a18 a16) loopLim Try.f8.ntmps kp8 (.seq c8_5 c8_6) [(11, (V.p t11)), (12, (V.p (some (t12_0, t12_1)))), (13, (V.i .u8 t13))] H K = _
  rw [ev_seq]
  delta g8_p10
  exact (g8_p8_eq a10 a17 a20 a13 a22 a15 a18 a16 la10 la17 la20 la13 la22 la15 la18 la16 t11 t12_0 t12_1 t13 H (kSeq (fun fr H => ev Try.prog (E8 a10 a17 a20 a13 a22 a15 a18 a16) loopLim Try.f8.ntmps kp8 c8_6 fr H K) K)).trans (congr (congrArg (g8_p8 a10 a17 a20 a13 a22 a15 a18 a16 R t11 t12_0 t12_1 t13 H) (funext fun t11 => funext fun t12_0 => funext fun t12_1 => funext fun H => (kSeq_n _ _ _ _).trans (g8_p9_eq a10 a17 a20 a13 a22 a15 a18 a16 la10 la17 la20 la13 la22 la15 la18 la16 t11 t12_0 t12_1 H K))) rfl)
noncomputable def g8_p11 (a10 : T10) (a17 : T17) (a20 : T20) (a13 : T13) (a22 : T22) (a15 : T15) (a18 : T18) (a16 : T16) (R : Type) (t72 : Bool) (H : Heap) (kR : Bool → Heap → Option R) : Option R :=
  g8_p5 a10 a17 a20 a13 a22 a15 a18 a16 R t72 H (fun t11 t12_0 t12_1 t13 H => g8_p10 a10 a17 a20 a13 a22 a15 a18 a16 R t11 t12_0 t12_1 t13 H (fun t4 H => kR t4 H)) (fun t4 H => kR t4 H)
theorem g8_p11_lin {a10 : T10} {a17 : T17} {a20 : T20} {a13 : T13} {a22 : T22} {a15 : T15} {a18 : T18} {a16 : T16} (la10 : Lin10 a10) (la17 : Lin17 a17) (la20 : Lin20 a20) (la13 : Lin13 a13) (la22 : Lin22 a22) (la15 : Lin15 a15) (la18 : Lin18 a18) (la16 : Lin16 a16) {R S : Type} {k : S → Option R} {t72 : Bool} {H : Heap} {fkR : Bool → Heap → Option R} {gkR : Bool → Heap → Option S} (hkR : ∀ t4 H, fkR t4 H = (gkR t4 H).bind k) : g8_p11 a10 a17 a20 a13 a22 a15 a18 a16 R t72 H fkR = (g8_p11 a10 a17 a20 a13 a22 a15 a18 a16 S t72 H gkR).bind k := by
  exact g8_p5_lin la10 la17 la20 la13 la22 la15 la18 la16 (fun _ _ _ _ _ => g8_p10_lin la10 la17 la20 la13 la22 la15 la18 la16 (fun _ _ => hkR _ _)) (fun _ _ => hkR _ _)
theorem g8_p11_eq (a10 : T10) (a17 : T17) (a20 : T20) (a13 : T13) (a22 : T22) (a15 : T15) (a18 : T18) (a16 : T16) (la10 : Lin10 a10) (la17 : Lin17 a17) (la20 : Lin20 a20) (la13 : Lin13 a13) (la22 : Lin22 a22) (la15 : Lin15 a15) (la18 : Lin18 a18) (la16 : Lin16 a16) {R : Type} (t72 : Bool) (H : Heap) (K : Ex → Fr → Heap → Option R) : ev Try.prog (E8 a10 a17 a20 a13 a22 a15 a18 a16) loopLim Try.f8.ntmps kp8 c8_8 [(72, (V.b t72))] H K = g8_p11 a10 a17 a20 a13 a22 a15 a18 a16 R t72 H (fun t4 H => K .ret [(4, (V.b t4))] H) := by
  show ev Try.prog (E8 a10 a17 a20 a13 a22 a15 a18 a16) loopLim Try.f8.ntmps kp8 (.seq (.cond (.tmp 72) (.seq (codeAt [1, 1, 1, 1, 1, 1, 1, 1, 0, 1, 0, 0] b8) .ret) .skip) (.seq (codeAt [1, 1, 1, 1, 1, 1, 1, 1, 1, 0] b8) (.seq (codeAt [1, 1, 1, 1, 1, 1, 1, 1, 1, 1, 0] b8) (.seq (codeAt [1, 1, 1, 1, 1, 1, 1, 1, 1, 1, 1, 0, 0] b8) c8_7)))) [(72, (V.b t72))] H K = _
  delta g8_p11
  exact (g8_p5_eq a10 a17 a20 a13 a22 a15 a18 a16 _ t72 H K).trans (congr (congrArg (g8_p5 a10 a17 a20 a13 a22 a15 a18 a16 R t72 H) (funext fun t11 => funext fun t12_0 => funext fun t12_1 => funext fun t13 => funext fun H => g8_p10_eq a10 a17 a20 a13 a22 a15 a18 a16 la10 la17 la20 la13 la22 la15 la18 la16 t11 t12_0 t12_1 t13 H K)) rfl)
noncomputable def g8_p12 (a10 : T10) (a17 : T17) (a20 : T20) (a13 : T13) (a22 : T22) (a15 : T15) (a18 : T18) (a16 : T16) (R : Type) (t1 : Int) (t2_0 : Nat) (t2_1 : Nat) (t6 : Int) (H : Heap) (kR : Bool → Heap → Option R) : Option R :=
  g8_p4 a10 a17 a20 a13 a22 a15 a18 a16 R t1 t2_0 t2_1 t6 H (fun t72 H => g8_p11 a10 a17 a20 a13 a22 a15 a18 a16 R t72 H (fun t4 H => kR t4 H)) (fun t4 H => kR t4 H)
theorem g8_p12_lin {a10 : T10} {a17 : T17} {a20 : T20} {a13 : T13} {a22 : T22} {a15 : T15} {a18 : T18} {a16 : T16} (la10 : Lin10 a10) (la17 : Lin17 a17) (la20 : Lin20 a20) (la13 : Lin13 a13) (la22 : Lin22 a22) (la15 : Lin15 a15) (la18 : Lin18 a18) (la16 : Lin16 a16) {R S : Type} {k : S → Option R} {t1 : Int} {t2_0 : Nat} {t2_1 : Nat} {t6 : Int} {H : Heap} {fkR : Bool → Heap → Option R} {gkR : Bool → Heap → Option S} (hkR : ∀ t4 H, fkR t4 H = (gkR t4 H).bind k) : g8_p12 a10 a17 a20 a13 a22 a15 a18 a16 R t1 t2_0 t2_1 t6 H fkR = (g8_p12 a10 a17 a20 a13 a22 a15 a18 a16 S t1 t2_0 t2_1 t6 H gkR).bind k := by
  exact g8_p4_lin la10 la17 la20 la13 la22 la15 la18 la16 (fun _ _ => g8_p11_lin la10 la17 la20 la13 la22 la15 la18 la16 (fun _ _ => hkR _ _)) (fun _ _ => hkR _ _)
theorem g8_p12_eq (a10 : T10) (a17 : T17) (a20 : T20) (a13 : T13) (a22 : T22) (a15 : T15) (a18 : T18) (a16 : T16) (la10 : Lin10 a10) (la17 : Lin17 a17) (la20 : Lin20 a20) (la13 : Lin13 a13) (la22 : Lin22 a22) (la15 : Lin15 a15) (la18 : Lin18 a18) (la16 : Lin16 a16) {R : Type} (t1 : Int) (t2_0 : Nat) (t2_1 : Nat) (t6 : Int) (H : Heap) (K : Ex → Fr → Heap → Option R) : ev Try.prog (E8 a10 a17 a20 a13 a22 a15 a18 a16) loopLim Try.f8.ntmps kp8 c8_9 [(1, (V.i .u8 t1)), (2, (V.p (some (t2_0, t2_1)))), (6, (V.i .i64 t6))] H K = g8_p12 a10 a17 a20 a13 a22 a15 a18 a16 R t1 t2_0 t2_1 t6 H (fun t4 H => K .ret [(4, (V.b t4))] H) := by
  show ev Try.prog (E8 a10 a17 a20 a13 a22 a15 a18 a16) loopLim Try.f8.ntmps kp8 (.seq (codeAt [1, 1, 1, 1, 0] b8) (.seq (codeAt [1, 1, 1, 1, 1, 0, 0] b8) (.seq (.cond (.tmp 61) (.seq (codeAt [1, 1, 1, 1, 1, 0, 1, 0, 0] b8) .ret) .skip) (.seq (codeAt [1, 1, 1, 1, 1, 1, 0] b8) (.seq (codeAt [1, 1, 1, 1, 1, 1, 1, 0, 0] b8) (.seq (.cond (.tmp 63) (codeAt [1, 1, 1, 1, 1, 1, 1, 0, 1, 0] b8) .skip) (.seq (codeAt [1, 1, 1, 1, 1, 1, 1, 1, 0, 0] b8) c8_8))))))) [(1, (V.i .u8 t1)), (2, (V.p (some (t2_0, t2_1)))), (6, (V.i .i64 t6))] H K = _
  delta g8_p12
  exact (g8_p4_eq a10 a17 a20 a13 a22 a15 a18 a16 _ t1 t2_0 t2_1 t6 H K).trans (congr (congrArg (g8_p4 a10 a17 a20 a13 a22 a15 a18 a16 R t1 t2_0 t2_1 t6 H) (funext fun t72 => funext fun H => g8_p11_eq a10 a17 a20 a13 a22 a15 a18 a16 la10 la17 la20 la13 la22 la15 la18 la16 t72 H K)) rfl)
noncomputable def g8_p13 (a10 : T10) (a17 : T17) (a20 : T20) (a13 : T13) (a22 : T22) (a15 : T15) (a18 : T18) (a16 : T16) (R : Type) (t1 : Int) (t2_0 : Nat) (t2_1 : Nat) (t5 : Sl) (t6 : Int) (t7 : Int) (H : Heap) (kR : Bool → Heap → Option R) : Option R :=
  g8_p3 a10 a17 a20 a13 a22 a15 a18 a16 R t1 t2_0 t2_1 t5 t6 t7 H (fun t1 t2_0 t2_1 t6 H => g8_p12 a10 a17 a20 a13 a22 a15 a18 a16 R t1 t2_0 t2_1 t6 H (fun t4 H => kR t4 H))
theorem g8_p13_lin {a10 : T10} {a17 : T17} {a20 : T20} {a13 : T13} {a22 : T22} {a15 : T15} {a18 : T18} {a16 : T16} (la10 : Lin10 a10) (la17 : Lin17 a17) (la20 : Lin20 a20) (la13 : Lin13 a13) (la22 : Lin22 a22) (la15 : Lin15 a15) (la18 : Lin18 a18) (la16 : Lin16 a16) {R S : Type} {k : S → Option R} {t1 : Int} {t2_0 : Nat} {t2_1 : Nat} {t5 : Sl} {t6 : Int} {t7 : Int} {H : Heap} {fkR : Bool → Heap → Option R} {gkR : Bool → Heap → Option S} (hkR : ∀ t4 H, fkR t4 H = (gkR t4 H).bind k) : g8_p13 a10 a17 a20 a13 a22 a15 a18 a16 R t1 t2_0 t2_1 t5 t6 t7 H fkR = (g8_p13 a10 a17 a20 a13 a22 a15 a18 a16 S t1 t2_0 t2_1 t5 t6 t7 H gkR).bind k := by
  exact g8_p3_lin la10 la17 la20 la13 la22 la15 la18 la16 (fun _ _ _ _ _ => g8_p12_lin la10 la17 la20 la13 la22 la15 la18 la16 (fun _ _ => hkR _ _))
theorem g8_p13_eq (a10 : T10) (a17 : T17) (a20 : T20) (a13 : T13) (a22 : T22) (a15 : T15) (a18 : T18) (a16 : T16) (la10 : Lin10 a10) (la17 : Lin17 a17) (la20 : Lin20 a20) (la13 : Lin13 a13) (la22 : Lin22 a22) (la15 : Lin15 a15) (la18 : Lin18 a18) (la16 : Lin16 a16) {R : Type} (t1 : Int) (t2_0 : Nat) (t2_1 : Nat) (t5 : Sl) (t6 : Int) (t7 : Int) (H : Heap) (K : Ex → Fr → Heap → Option R) : ev Try.prog (E8 a10 a17 a20 a13 a22 a15 a18 a16) loopLim Try.f8.ntmps kp8 c8_10 [(1, (V.i .u8 t1)), (2, (V.p (some (t2_0, t2_1)))), (5, (V.sl t5)), (6, (V.i .i64 t6)), (7, (V.i .i64 t7))] H K = g8_p13 a10 a17 a20 a13 a22 a15 a18 a16 R t1 t2_0 t2_1 t5 t6 t7 H (fun t4 H => K .ret [(4, (V.b t4))] H) := by
  show ev Try.prog (E8 a10 a17 a20 a13 a22 a15 a18 a16) loopLim Try.f8.ntmps kp8 (.seq c8_2 c8_9) [(1, (V.i .u8 t1)), (2, (V.p (some (t2_0, t2_1)))), (5, (V.sl t5)), (6, (V.i .i64 t6)), (7, (V.i .i64 t7))] H K = _
  rw [ev_seq]
  delta g8_p13
  exact (g8_p3_eq a10 a17 a20 a13 a22 a15 a18 a16 la10 la17 la20 la13 la22 la15 la18 la16 t1 t2_0 t2_1 t5 t6 t7 H (kSeq (fun fr H => ev Try.prog (E8 a10 a17 a20 a13 a22 a15 a18 a16) loopLim Try.f8.ntmps kp8 c8_9 fr H K) K)).trans (congrArg (g8_p3 a10 a17 a20 a13 a22 a15 a18 a16 R t1 t2_0 t2_1 t5 t6 t7 H) (funext fun t1 => funext fun t2_0 => funext fun t2_1 => funext fun t6 => funext fun H => (kSeq_n _ _ _ _).trans (g8_p12_eq a10 a17 a20 a13 a22 a15 a18 a16 la10 la17 la20 la13 la22 la15 la18 la16 t1 t2_0 t2_1 t6 H K)))
noncomputable def g8_p14 (a10 : T10) (a17 : T17) (a20 : T20) (a13 : T13) (a22 : T22) (a15 : T15) (a18 : T18) (a16 : T16) (R : Type) (t0_0 : Int) (t0_1 : Int) (t0_2 : Int) (t0_3 : Int) (t0_4 : Int) (t0_5 : Int) (t0_6 : Int) (t1 : Int) (H : Heap) (kR : Bool → Heap → Option R) : Option R :=
  g8_p0 a10 a17 a20 a13 a22 a15 a18 a16 R t0_0 t0_1 t0_2 t0_3 t0_4 t0_5 t0_6 t1 H (fun t1 t2_0 t2_1 t5 t6 t7 H => g8_p13 a10 a17 a20 a13 a22 a15 a18 a16 R t1 t2_0 t2_1 t5 t6 t7 H (fun t4 H => kR t4 H))
theorem g8_p14_lin {a10 : T10} {a17 : T17} {a20 : T20} {a13 : T13} {a22 : T22} {a15 : T15} {a18 : T18} {a16 : T16} (la10 : Lin10 a10) (la17 : Lin17 a17) (la20 : Lin20 a20) (la13 : Lin13 a13) (la22 : Lin22 a22) (la15 : Lin15 a15) (la18 : Lin18 a18) (la16 : Lin16 a16) {R S : Type} {k : S → Option R} {t0_0 : Int} {t0_1 : Int} {t0_2 : Int} {t0_3 : Int} {t0_4 : Int} {t0_5 : Int} {t0_6 : Int} {t1 : Int} {H : Heap} {fkR : Bool → Heap → Option R} {gkR : Bool → Heap → Option S} (hkR : ∀ t4 H, fkR t4 H = (gkR t4 H).bind k) : g8_p14 a10 a17 a20 a13 a22 a15 a18 a16 R t0_0 t0_1 t0_2 t0_3 t0_4 t0_5 t0_6 t1 H fkR = (g8_p14 a10 a17 a20 a13 a22 a15 a18 a16 S t0_0 t0_1 t0_2 t0_3 t0_4 t0_5 t0_6 t1 H gkR).bind k := by
  exact g8_p0_lin la10 la17 la20 la13 la22 la15 la18 la16 (fun _ _ _ _ _ _ _ => g8_p13_lin la10 la17 la20 la13 la22 la15 la18 la16 (fun _ _ => hkR _ _))
theorem g8_p14_eq (a10 : T10) (a17 : T17) (a20 : T20) (a13 : T13) (a22 : T22) (a15 : T15) (a18 : T18) (a16 : T16) (la10 : Lin10 a10) (la17 : Lin17 a17) (la20 : Lin20 a20) (la13 : Lin13 a13) (la22 : Lin22 a22) (la15 : Lin15 a15) (la18 : Lin18 a18) (la16 : Lin16 a16) {R : Type} (t0_0 : Int) (t0_1 : Int) (t0_2 : Int) (t0_3 : Int) (t0_4 : Int) (t0_5 : Int) (t0_6 : Int) (t1 : Int) (H : Heap) (K : Ex → Fr → Heap → Option R) : ev Try.prog (E8 a10 a17 a20 a13 a22 a15 a18 a16) loopLim Try.f8.ntmps kp8 c8_11 [(0, (V.agg [(V.i .i64 t0_0), (V.i .i64 t0_1), (V.i .i64 t0_2), (V.i .i64 t0_3), (V.i .i64 t0_4), (V.i .i64 t0_5), (V.i .i64 t0_6)])), (1, (V.i .u8 t1))] H K = g8_p14 a10 a17 a20 a13 a22 a15 a18 a16 R t0_0 t0_1 t0_2 t0_3 t0_4 t0_5 t0_6 t1 H (fun t4 H => K .ret [(4, (V.b t4))] H) := by
  show ev Try.prog (E8 a10 a17 a20 a13 a22 a15 a18 a16) loopLim Try.f8.ntmps kp8 (.seq (codeAt [0] b8) (.seq (codeAt [1, 0] b8) (.seq (codeAt [1, 1, 0] b8) (.seq (codeAt [1, 1, 1, 0, 0] b8) c8_10)))) [(0, (V.agg [(V.i .i64 t0_0), (V.i .i64 t0_1), (V.i .i64 t0_2), (V.i .i64 t0_3), (V.i .i64 t0_4), (V.i .i64 t0_5), (V.i .i64 t0_6)])), (1, (V.i .u8 t1))] H K = _
  delta g8_p14
  exact (g8_p0_eq a10 a17 a20 a13 a22 a15 a18 a16 _ t0_0 t0_1 t0_2 t0_3 t0_4 t0_5 t0_6 t1 H K).trans (congrArg (g8_p0 a10 a17 a20 a13 a22 a15 a18 a16 R t0_0 t0_1 t0_2 t0_3 t0_4 t0_5 t0_6 t1 H) (funext fun t1 => funext fun t2_0 => funext fun t2_1 => funext fun t5 => funext fun t6 => funext fun t7 => funext fun H => g8_p13_eq a10 a17 a20 a13 a22 a15 a18 a16 la10 la17 la20 la13 la22 la15 la18 la16 t1 t2_0 t2_1 t5 t6 t7 H K))
noncomputable def g8_r (a10 : T10) (a17 : T17) (a20 : T20) (a13 : T13) (a22 : T22) (a15 : T15) (a18 : T18) (a16 : T16) : T8 := fun R t0_0 t0_1 t0_2 t0_3 t0_4 t0_5 t0_6 t1 H K =>
  g8_p14 a10 a17 a20 a13 a22 a15 a18 a16 R t0_0 t0_1 t0_2 t0_3 t0_4 t0_5 t0_6 t1 H (fun t4 H =>
    K t4 H)
theorem g8_r_lin {a10 : T10} {a17 : T17} {a20 : T20} {a13 : T13} {a22 : T22} {a15 : T15} {a18 : T18} {a16 : T16} (la10 : Lin10 a10) (la17 : Lin17 a17) (la20 : Lin20 a20) (la13 : Lin13 a13) (la22 : Lin22 a22) (la15 : Lin15 a15) (la18 : Lin18 a18) (la16 : Lin16 a16) : Lin8 (g8_r a10 a17 a20 a13 a22 a15 a18 a16) := by
  constructor
  intro R S k t0_0 t0_1 t0_2 t0_3 t0_4 t0_5 t0_6 t1 H f g h
  exact g8_p14_lin la10 la17 la20 la13 la22 la15 la18 la16 (fun t4 H =>
    h _ _)
theorem g8_fn (a10 : T10) (a17 : T17) (a20 : T20) (a13 : T13) (a22 : T22) (a15 : T15) (a18 : T18) (a16 : T16) (la10 : Lin10 a10) (la17 : Lin17 a17) (la20 : Lin20 a20) (la13 : Lin13 a13) (la22 : Lin22 a22) (la15 : Lin15 a15) (la18 : Lin18 a18) (la16 : Lin16 a16) {R : Type} (t0_0 : Int) (t0_1 : Int) (t0_2 : Int) (t0_3 : Int) (t0_4 : Int) (t0_5 : Int) (t0_6 : Int) (t1 : Int) (H : Heap) (K : V → Heap → Option R) : evFn Try.prog (E8 a10 a17 a20 a13 a22 a15 a18 a16) loopLim Try.f8 kp8 [(V.agg [(V.i .i64 t0_0), (V.i .i64 t0_1), (V.i .i64 t0_2), (V.i .i64 t0_3), (V.i .i64 t0_4), (V.i .i64 t0_5), (V.i .i64 t0_6)]), (V.i .u8 t1)] H K = g8_r a10 a17 a20 a13 a22 a15 a18 a16 R t0_0 t0_1 t0_2 t0_3 t0_4 t0_5 t0_6 t1 H (fun r0 H => K (V.b r0) H) := by
  have h0 : ∀ (t4 : Bool) (H : Heap), kFn Try.prog Try.f8.results.toList K .ret [(4, (V.b t4))] H =
      K (V.b t4) H := by intros; kernel_rfl
  have e0 := evFn_code2 (P := Try.prog) (c := c8_11) (E := (E8 a10 a17 a20 a13 a22 a15 a18 a16)) (lr := loopLim) (kp := kp8) (fn := Try.f8) (args := [(V.agg [(V.i .i64 t0_0), (V.i .i64 t0_1), (V.i .i64 t0_2), (V.i .i64 t0_3), (V.i .i64 t0_4), (V.i .i64 t0_5), (V.i .i64 t0_6)]), (V.i .u8 t1)]) H K (by kernel_rfl) (Nat.le_of_ble_eq_true (by kernel_rfl)) (by kernel_rfl)
  have e1 : ev Try.prog (E8 a10 a17 a20 a13 a22 a15 a18 a16) loopLim Try.f8.ntmps kp8 c8_11 (argFr 0 [(V.agg [(V.i .i64 t0_0), (V.i .i64 t0_1), (V.i .i64 t0_2), (V.i .i64 t0_3), (V.i .i64 t0_4), (V.i .i64 t0_5), (V.i .i64 t0_6)]), (V.i .u8 t1)]) H (kFn Try.prog Try.f8.results.toList K) = ev Try.prog (E8 a10 a17 a20 a13 a22 a15 a18 a16) loopLim Try.f8.ntmps kp8 c8_11 [(0, (V.agg [(V.i .i64 t0_0), (V.i .i64 t0_1), (V.i .i64 t0_2), (V.i .i64 t0_3), (V.i .i64 t0_4), (V.i .i64 t0_5), (V.i .i64 t0_6)])), (1, (V.i .u8 t1))] H (kFn Try.prog Try.f8.results.toList K) := by kernel_rfl
  refine (e0.trans e1).trans ?_
  delta g8_r
  exact (g8_p14_eq a10 a17 a20 a13 a22 a15 a18 a16 la10 la17 la20 la13 la22 la15 la18 la16 t0_0 t0_1 t0_2 t0_3 t0_4 t0_5 t0_6 t1 H (kFn Try.prog Try.f8.results.toList K)).trans (congrArg (g8_p14 a10 a17 a20 a13 a22 a15 a18 a16 R t0_0 t0_1 t0_2 t0_3 t0_4 t0_5 t0_6 t1 H) (funext fun t4 => funext fun H => h0 t4 H))
theorem g8_ok {a10 : T10} {a17 : T17} {a20 : T20} {a13 : T13} {a22 : T22} {a15 : T15} {a18 : T18} {a16 : T16} (oa10 : FunOK Try.prog 10 (w10 a10)) (oa17 : FunOK Try.prog 17 (w17 a17)) (oa20 : FunOK Try.prog 20 (w20 a20)) (oa13 : FunOK Try.prog 13 (w13 a13)) (oa22 : FunOK Try.prog 22 (w22 a22)) (oa15 : FunOK Try.prog 15 (w15 a15)) (oa18 : FunOK Try.prog 18 (w18 a18)) (oa16 : FunOK Try.prog 16 (w16 a16)) (la10 : Lin10 a10) (la17 : Lin17 a17) (la20 : Lin20 a20) (la13 : Lin13 a13) (la22 : Lin22 a22) (la15 : Lin15 a15) (la18 : Lin18 a18) (la16 : Lin16 a16) : FunOK Try.prog 8 (w8 (g8_r a10 a17 a20 a13 a22 a15 a18 a16)) := by
  refine (runF_ok (E8_good oa10 oa17 oa20 oa13 oa22 oa15 oa18 oa16 la10 la17 la20 la13 la22 la15 la18 la16) mixed lim_ok Try.func8 (by kernel_rfl) kp8).of_le fun R args H K r hk => ?_
  unfold w8 at hk
  split at hk
  · exact (g8_fn a10 a17 a20 a13 a22 a15 a18 a16 la10 la17 la20 la13 la22 la15 la18 la16 _ _ _ _ _ _ _ _ H K).trans hk
  · cases hk
end Go.Proofs.Ytkldpkemnmmbgaa

