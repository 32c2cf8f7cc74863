/- Printed: functions as the machine runs them. -/
import Derived.Test.YtobebcfkddimkaaGT
namespace Go.Proofs.Ytobebcfkddimkaa
open Go AM Go.RowKit
set_option linter.unusedVariables false
def kp3 : Nat → Option (List Nat) := kpOf [(0, [0, 1, 2]), (1, [0, 1, 2, 31]), (2, [6]), (3, [0, 1, 7, 8]), (4, [0, 1, 7, 42]), (5, [6]), (6, [0, 1, 7, 9]), (7, [0, 1, 7, 9, 46]), (8, [0, 1, 7, 9]), (9, [0, 1, 7, 9, 53]), (10, [0, 1, 7, 9]), (11, [0, 1, 7, 9, 10]), (12, [0, 1, 7, 9, 10, 11]), (13, [0, 1, 7, 9, 10, 11, 67]), (14, [0, 1, 7, 9, 10, 11]), (15, [0, 1, 7, 9, 10, 11, 97]), (16, [0, 1, 7, 9, 10, 11]), (17, [0, 1, 7, 9, 12, 13, 14]), (18, [0, 1, 7, 9, 12, 13, 14, 110]), (19, [6]), (20, [0, 1, 7, 9, 14, 15, 16, 17]), (21, [0, 1, 7, 9, 171]), (22, [6]), (23, [7, 18]), (24, [7, 18, 173]), (25, [7, 18]), (26, [7, 18]), (27, [6]), (100000, [7]), (100001, [0, 1, 7, 9]), (100002, [0, 1, 7, 9, 10]), (100003, [0, 1, 7, 9, 10, 11]), (100004, [7]), (100005, [7, 18]), (200000, [0, 1, 7, 9]), (200001, [0, 1, 7, 9]), (200002, [0, 1, 7, 9, 10, 11]), (200003, [0, 1, 7, 9, 10, 11]), (200004, [7, 18]), (200005, [7, 18]), (300000, [6]), (400031, [0, 1, 2]), (400042, [0, 1, 7]), (400046, [0, 1, 7, 9]), (400053, [0, 1, 7, 9]), (400067, [0, 1, 7, 9, 10, 11]), (400097, [0, 1, 7, 9, 10, 11]), (400110, [0, 1, 7, 9, 12, 13, 14]), (400171, [0, 1, 7, 9]), (400173, [7, 18])]
def E3 (a9 : T9) (a10 : T10) (a11 : T11) (a12 : T12) (a13 : T13) (a14 : T14) : FEnv := [(9, w9 a9), (10, w10 a10), (11, w11 a11), (12, w12 a12), (13, w13 a13), (14, w14 a14)]
theorem E3_good {a9 : T9} {a10 : T10} {a11 : T11} {a12 : T12} {a13 : T13} {a14 : T14} (oa9 : FunOK Try.prog 9 (w9 a9)) (oa10 : FunOK Try.prog 10 (w10 a10)) (oa11 : FunOK Try.prog 11 (w11 a11)) (oa12 : FunOK Try.prog 12 (w12 a12)) (oa13 : FunOK Try.prog 13 (w13 a13)) (oa14 : FunOK Try.prog 14 (w14 a14)) (la9 : Lin9 a9) (la10 : Lin10 a10) (la11 : Lin11 a11) (la12 : Lin12 a12) (la13 : Lin13 a13) (la14 : Lin14 a14) : EnvGood Try.prog (E3 a9 a10 a11 a12 a13 a14) := (((((((EnvGood.nil _).cons oa14 (w14_lin la14)).cons oa13 (w13_lin la13)).cons oa12 (w12_lin la12)).cons oa11 (w11_lin la11)).cons oa10 (w10_lin la10)).cons oa9 (w9_lin la9))
theorem E3_lin {a9 : T9} {a10 : T10} {a11 : T11} {a12 : T12} {a13 : T13} {a14 : T14} (la9 : Lin9 a9) (la10 : Lin10 a10) (la11 : Lin11 a11) (la12 : Lin12 a12) (la13 : Lin13 a13) (la14 : Lin14 a14) : EnvLin (E3 a9 a10 a11 a12 a13 a14) := by
  intro g F h
  simp only [E3, List.mem_cons, List.not_mem_nil, or_false] at h
  rcases h with h | h | h | h | h | h
  · cases h; exact w9_lin la9
  · cases h; exact w10_lin la10
  · cases h; exact w11_lin la11
  · cases h; exact w12_lin la12
  · cases h; exact w13_lin la13
  · cases h; exact w14_lin la14
def lv3 : Nat → Bool := lvOf []
noncomputable def b3 : Code := Try.f3.body.getD .skip
noncomputable def c3_0 : Code := (.seq (codeAt [1, 1, 1, 1, 0, 1, 0, 0, 1, 0, 0, 1, 1, 0, 1, 0, 0, 0, 0] b3) (.seq (.cond (.tmp 67) .skip (.exit 2)) (.seq (.block 3 (.seq (codeAt [1, 1, 1, 1, 0, 1, 0, 0, 1, 0, 0, 1, 1, 0, 1, 0, 0, 1, 0, 0, 0] b3) (.cond (.tmp 97) (codeAt [1, 1, 1, 1, 0, 1, 0, 0, 1, 0, 0, 1, 1, 0, 1, 0, 0, 1, 0, 0, 1, 0] b3) .skip))) (codeAt [1, 1, 1, 1, 0, 1, 0, 0, 1, 0, 0, 1, 1, 0, 1, 0, 0, 1, 1] b3))))
noncomputable def c3_1 : Code := (.loop c3_0)
noncomputable def c3_2 : Code := (.block 2 c3_1)
noncomputable def c3_3 : Code := (.cond (.tmp 171) (.seq (codeAt [1, 1, 1, 1, 0, 1, 0, 0, 1, 0, 0, 1, 1, 1, 1, 1, 1, 1, 0, 0] b3) .ret) .skip)
noncomputable def c3_4 : Code := (.seq (codeAt [1, 1, 1, 1, 0, 1, 0, 0, 1, 0, 0, 1, 1, 1, 0] b3) (.seq (codeAt [1, 1, 1, 1, 0, 1, 0, 0, 1, 0, 0, 1, 1, 1, 1, 0, 0] b3) (.seq (.cond (.tmp 110) (.seq (codeAt [1, 1, 1, 1, 0, 1, 0, 0, 1, 0, 0, 1, 1, 1, 1, 0, 1, 0, 0] b3) .ret) .skip) (.seq (codeAt [1, 1, 1, 1, 0, 1, 0, 0, 1, 0, 0, 1, 1, 1, 1, 1, 0] b3) (.seq (codeAt [1, 1, 1, 1, 0, 1, 0, 0, 1, 0, 0, 1, 1, 1, 1, 1, 1, 0] b3) c3_3)))))
noncomputable def c3_5 : Code := (.seq c3_2 c3_4)
noncomputable def c3_6 : Code := (.seq (codeAt [1, 1, 1, 1, 0, 1, 0, 0, 1, 0, 0, 0, 0] b3) (.seq (.cond (.tmp 53) (.seq (codeAt [1, 1, 1, 1, 0, 1, 0, 0, 1, 0, 0, 0, 1, 0, 0] b3) (.exit 1)) .skip) (.seq (codeAt [1, 1, 1, 1, 0, 1, 0, 0, 1, 0, 0, 1, 0] b3) (.seq (codeAt [1, 1, 1, 1, 0, 1, 0, 0, 1, 0, 0, 1, 1, 0, 0] b3) c3_5))))
noncomputable def c3_7 : Code := (.block 1 c3_6)
noncomputable def c3_8 : Code := (codeAt [1, 1, 1, 1, 0, 1, 0, 0, 1, 1] b3)
noncomputable def c3_9 : Code := (.seq c3_7 c3_8)
noncomputable def c3_10 : Code := (.seq (codeAt [1, 1, 1, 1, 0, 1, 0, 0, 0, 0] b3) (.seq (.cond (.tmp 46) .skip (.exit 0)) c3_9))
noncomputable def c3_11 : Code := (.loop c3_10)
noncomputable def c3_12 : Code := (.block 0 c3_11)
noncomputable def c3_13 : Code := (.seq (codeAt [1, 1, 1, 1, 1, 0, 1, 0, 0, 0, 0] b3) (.seq (.cond (.tmp 173) .skip (.exit 4)) (.seq (.block 5 (codeAt [1, 1, 1, 1, 1, 0, 1, 0, 0, 1, 0, 0] b3)) (codeAt [1, 1, 1, 1, 1, 0, 1, 0, 0, 1, 1] b3))))
noncomputable def c3_14 : Code := (.loop c3_13)
noncomputable def c3_15 : Code := (.block 4 c3_14)
noncomputable def c3_16 : Code := (.seq (codeAt [1, 1, 1, 1, 1, 1, 0] b3) .ret)
noncomputable def c3_17 : Code := (.seq c3_15 c3_16)
noncomputable def c3_18 : Code := (.seq (codeAt [1, 1, 1, 1, 1, 0, 0] b3) c3_17)
noncomputable def c3_19 : Code := (.seq c3_12 c3_18)
noncomputable def c3_20 : Code := (.seq (codeAt [0] b3) (.seq (codeAt [1, 0, 0] b3) (.seq (.cond (.tmp 31) (.seq (codeAt [1, 0, 1, 0, 0] b3) .ret) .skip) (.seq (codeAt [1, 1, 0] b3) (.seq (codeAt [1, 1, 1, 0, 0] b3) (.seq (.cond (.tmp 42) (.seq (codeAt [1, 1, 1, 0, 1, 0, 0] b3) .ret) .skip) (.seq (codeAt [1, 1, 1, 1, 0, 0] b3) c3_19)))))))
noncomputable def g3_p0 (a9 : T9) (a10 : T10) (a11 : T11) (a12 : T12) (a13 : T13) (a14 : T14) (R : Type) (t0 : Sl) (t1 : Sl) (t2 : Int) (H : Heap) (kN : Sl → Sl → Option (Nat × Nat) → Int → Heap → Option R) (kR : Bool → Heap → Option R) : Option R :=
  sel (decide (((t0.len : Nat) : Int) > (8 : Int))) (
    a9 R H fun x34 h35 =>
    kR x34 h35) (
    sel (decide (((t1.len : Nat) : Int) > (80 : Int))) (
      a9 R H fun x36 h37 =>
      kR x36 h37) (
      sel (((t0.len : Nat) : Int) == (0 : Int)) (
        a9 R H fun x38 h39 =>
        kR x38 h39) (
        a10 R (IntKind.wrap .i64 ((1 : Int) + (IntKind.wrap .i64 (Int.tmod t2 (6 : Int))))) H fun x40 x41 h42 =>
        sel (x41 != (0 : Int)) (
          kR false h42) (
          kN t0 t1 x40 (0 : Int) h42))))
theorem g3_p0_eq (a9 : T9) (a10 : T10) (a11 : T11) (a12 : T12) (a13 : T13) (a14 : T14) {R : Type} (c2 : Code) (t0 : Sl) (t1 : Sl) (t2 : Int) (H : Heap) (K : Ex → Fr → Heap → Option R) : ev2 Try.prog (E3 a9 a10 a11 a12 a13 a14) loopLim lv3 Try.f3.ntmps kp3 (.seq (codeAt [0] b3) (.seq (codeAt [1, 0, 0] b3) (.seq (.cond (.tmp 31) (.seq (codeAt [1, 0, 1, 0, 0] b3) .ret) .skip) (.seq (codeAt [1, 1, 0] b3) (.seq (codeAt [1, 1, 1, 0, 0] b3) (.seq (.cond (.tmp 42) (.seq (codeAt [1, 1, 1, 0, 1, 0, 0] b3) .ret) .skip) (.seq (codeAt [1, 1, 1, 1, 0, 0] b3) c2))))))) [(0, (V.sl t0)), (1, (V.sl t1)), (2, (V.i .u8 t2))] H K = g3_p0 a9 a10 a11 a12 a13 a14 R t0 t1 t2 H (fun t0 t1 t7 t9 H => ev2 Try.prog (E3 a9 a10 a11 a12 a13 a14) loopLim lv3 Try.f3.ntmps kp3 c2 [(0, (V.sl t0)), (1, (V.sl t1)), (7, (V.p t7)), (9, (V.i .i64 t9))] H K) (fun t6 H => K .ret [(6, (V.b t6))] H) := by kernel_rfl
theorem g3_p0_lin {a9 : T9} {a10 : T10} {a11 : T11} {a12 : T12} {a13 : T13} {a14 : T14} (la9 : Lin9 a9) (la10 : Lin10 a10) (la11 : Lin11 a11) (la12 : Lin12 a12) (la13 : Lin13 a13) (la14 : Lin14 a14) {R S : Type} {k : S → Option R} {t0 : Sl} {t1 : Sl} {t2 : Int} {H : Heap} {fkN : Sl → Sl → Option (Nat × Nat) → Int → Heap → Option R} {gkN : Sl → Sl → Option (Nat × Nat) → Int → Heap → Option S} {fkR : Bool → Heap → Option R} {gkR : Bool → Heap → Option S} (hkN : ∀ t0 t1 t7 t9 H, fkN t0 t1 t7 t9 H = (gkN t0 t1 t7 t9 H).bind k) (hkR : ∀ t6 H, fkR t6 H = (gkR t6 H).bind k) : g3_p0 a9 a10 a11 a12 a13 a14 R t0 t1 t2 H fkN fkR = (g3_p0 a9 a10 a11 a12 a13 a14 S t0 t1 t2 H gkN gkR).bind k := by
  delta g3_p0; exact (
    sl_lin (
      la9.l fun x34 h35 =>
      hkR _ _) (
      sl_lin (
        la9.l fun x36 h37 =>
        hkR _ _) (
        sl_lin (
          la9.l fun x38 h39 =>
          hkR _ _) (
          la10.l fun x40 x41 h42 =>
          sl_lin (
            hkR _ _) (
            hkN _ _ _ _ _)))))
noncomputable def g3_p1 (a9 : T9) (a10 : T10) (a11 : T11) (a12 : T12) (a13 : T13) (a14 : T14) (R : Type) (t0 : Sl) (t1 : Sl) (t7 : Option (Nat × Nat)) (t9 : Int) (H : Heap) (kN : Sl → Sl → Option (Nat × Nat) → Int → Heap → Option R) (kE0 : Option (Nat × Nat) → Heap → Option R) : Option R :=
  sel (decide (t9 < ((t1.len : Nat) : Int))) (
    kN t0 t1 t7 t9 H) (
    kE0 t7 H)
theorem g3_p1_eq (a9 : T9) (a10 : T10) (a11 : T11) (a12 : T12) (a13 : T13) (a14 : T14) {R : Type} (c2 : Code) (t0 : Sl) (t1 : Sl) (t7 : Option (Nat × Nat)) (t9 : Int) (H : Heap) (K : Ex → Fr → Heap → Option R) : ev2 Try.prog (E3 a9 a10 a11 a12 a13 a14) loopLim lv3 Try.f3.ntmps kp3 (.seq (codeAt [1, 1, 1, 1, 0, 1, 0, 0, 0, 0] b3) (.seq (.cond (.tmp 46) .skip (.exit 0)) c2)) [(0, (V.sl t0)), (1, (V.sl t1)), (7, (V.p t7)), (9, (V.i .i64 t9))] H K = g3_p1 a9 a10 a11 a12 a13 a14 R t0 t1 t7 t9 H (fun t0 t1 t7 t9 H => ev2 Try.prog (E3 a9 a10 a11 a12 a13 a14) loopLim lv3 Try.f3.ntmps kp3 c2 [(0, (V.sl t0)), (1, (V.sl t1)), (7, (V.p t7)), (9, (V.i .i64 t9))] H K) (fun t7 H => K (.exit 0) [(7, (V.p t7))] H) := by kernel_rfl
theorem g3_p1_lin {a9 : T9} {a10 : T10} {a11 : T11} {a12 : T12} {a13 : T13} {a14 : T14} (la9 : Lin9 a9) (la10 : Lin10 a10) (la11 : Lin11 a11) (la12 : Lin12 a12) (la13 : Lin13 a13) (la14 : Lin14 a14) {R S : Type} {k : S → Option R} {t0 : Sl} {t1 : Sl} {t7 : Option (Nat × Nat)} {t9 : Int} {H : Heap} {fkN : Sl → Sl → Option (Nat × Nat) → Int → Heap → Option R} {gkN : Sl → Sl → Option (Nat × Nat) → Int → Heap → Option S} {fkE0 : Option (Nat × Nat) → Heap → Option R} {gkE0 : Option (Nat × Nat) → Heap → Option S} (hkN : ∀ t0 t1 t7 t9 H, fkN t0 t1 t7 t9 H = (gkN t0 t1 t7 t9 H).bind k) (hkE0 : ∀ t7 H, fkE0 t7 H = (gkE0 t7 H).bind k) : g3_p1 a9 a10 a11 a12 a13 a14 R t0 t1 t7 t9 H fkN fkE0 = (g3_p1 a9 a10 a11 a12 a13 a14 S t0 t1 t7 t9 H gkN gkE0).bind k := by
  delta g3_p1; exact (
    sl_lin (
      hkN _ _ _ _ _) (
      hkE0 _ _))
noncomputable def g3_p2 (a9 : T9) (a10 : T10) (a11 : T11) (a12 : T12) (a13 : T13) (a14 : T14) (R : Type) (t0 : Sl) (t1 : Sl) (t7 : Option (Nat × Nat)) (t9 : Int) (H : Heap) (kN : Sl → Sl → Option (Nat × Nat) → Int → Int → Int → Heap → Option R) (kE1 : Sl → Sl → Option (Nat × Nat) → Int → Heap → Option R) : Option R :=
  if 0 ≤ t9 ∧ t9 < ((t1.len : Nat) : Int) then (
    (t1.a).bind fun q55 =>
    ((H).ldB q55.1 ((q55.2 + Int.toNat t9 * 3) + 0)).bind fun x56 =>
    sel x56 (
      a11 R t7 H fun x57 h58 =>
      kE1 t0 t1 t7 t9 h58) (
      if 0 ≤ t9 ∧ t9 < ((t1.len : Nat) : Int) then (
        (t1.a).bind fun q59 =>
        ((H).ldI .u8 q59.1 ((q59.2 + Int.toNat t9 * 3) + 1)).bind fun x60 =>
        if ((t0.len : Nat) : Int) = 0 then (
          none)
        else (
          kN t0 t1 t7 t9 (Int.tmod (IntKind.wrap .i64 x60) ((t0.len : Nat) : Int)) (0 : Int) H))
      else (
        none)))
  else (
    none)
theorem g3_p2_eq (a9 : T9) (a10 : T10) (a11 : T11) (a12 : T12) (a13 : T13) (a14 : T14) {R : Type} (c2 : Code) (t0 : Sl) (t1 : Sl) (t7 : Option (Nat × Nat)) (t9 : Int) (H : Heap) (K : Ex → Fr → Heap → Option R) : ev2 Try.prog (E3 a9 a10 a11 a12 a13 a14) loopLim lv3 Try.f3.ntmps kp3 (.seq (codeAt [1, 1, 1, 1, 0, 1, 0, 0, 1, 0, 0, 0, 0] b3) (.seq (.cond (.tmp 53) (.seq (codeAt [1, 1, 1, 1, 0, 1, 0, 0, 1, 0, 0, 0, 1, 0, 0] b3) (.exit 1)) .skip) (.seq (codeAt [1, 1, 1, 1, 0, 1, 0, 0, 1, 0, 0, 1, 0] b3) (.seq (codeAt [1, 1, 1, 1, 0, 1, 0, 0, 1, 0, 0, 1, 1, 0, 0] b3) c2)))) [(0, (V.sl t0)), (1, (V.sl t1)), (7, (V.p t7)), (9, (V.i .i64 t9))] H K = g3_p2 a9 a10 a11 a12 a13 a14 R t0 t1 t7 t9 H (fun t0 t1 t7 t9 t10 t11 H => ev2 Try.prog (E3 a9 a10 a11 a12 a13 a14) loopLim lv3 Try.f3.ntmps kp3 c2 [(0, (V.sl t0)), (1, (V.sl t1)), (7, (V.p t7)), (9, (V.i .i64 t9)), (10, (V.i .i64 t10)), (11, (V.i .i64 t11))] H K) (fun t0 t1 t7 t9 H => K (.exit 1) [(0, (V.sl t0)), (1, (V.sl t1)), (7, (V.p t7)), (9, (V.i .i64 t9))] H) := by kernel_rfl
theorem g3_p2_lin {a9 : T9} {a10 : T10} {a11 : T11} {a12 : T12} {a13 : T13} {a14 : T14} (la9 : Lin9 a9) (la10 : Lin10 a10) (la11 : Lin11 a11) (la12 : Lin12 a12) (la13 : Lin13 a13) (la14 : Lin14 a14) {R S : Type} {k : S → Option R} {t0 : Sl} {t1 : Sl} {t7 : Option (Nat × Nat)} {t9 : Int} {H : Heap} {fkN : Sl → Sl → Option (Nat × Nat) → Int → Int → Int → Heap → Option R} {gkN : Sl → Sl → Option (Nat × Nat) → Int → Int → Int → Heap → Option S} {fkE1 : Sl → Sl → Option (Nat × Nat) → Int → Heap → Option R} {gkE1 : Sl → Sl → Option (Nat × Nat) → Int → Heap → Option S} (hkN : ∀ t0 t1 t7 t9 t10 t11 H, fkN t0 t1 t7 t9 t10 t11 H = (gkN t0 t1 t7 t9 t10 t11 H).bind k) (hkE1 : ∀ t0 t1 t7 t9 H, fkE1 t0 t1 t7 t9 H = (gkE1 t0 t1 t7 t9 H).bind k) : g3_p2 a9 a10 a11 a12 a13 a14 R t0 t1 t7 t9 H fkN fkE1 = (g3_p2 a9 a10 a11 a12 a13 a14 S t0 t1 t7 t9 H gkN gkE1).bind k := by
  delta g3_p2; exact (
    il (
      bl fun q55 =>
      bl fun x56 =>
      sl_lin (
        la11.l fun x57 h58 =>
        hkE1 _ _ _ _ _) (
        il (
          bl fun q59 =>
          bl fun x60 =>
          il (
            rfl) (
            hkN _ _ _ _ _ _ _)) (
          rfl))) (
      rfl))
noncomputable def g3_p3 (a9 : T9) (a10 : T10) (a11 : T11) (a12 : T12) (a13 : T13) (a14 : T14) (R : Type) (t0 : Sl) (t1 : Sl) (t7 : Option (Nat × Nat)) (t9 : Int) (t10 : Int) (t11 : Int) (H : Heap) (kN : Sl → Sl → Option (Nat × Nat) → Int → Int → Int → Heap → Option R) (kE2 : Sl → Sl → Option (Nat × Nat) → Int → Int → Heap → Option R) : Option R :=
  sel (decide (t11 < t10)) (
    if 0 ≤ t11 ∧ t11 < ((t0.len : Nat) : Int) then (
      (t0.a).bind fun q61 =>
      ((H).ldI .u8 q61.1 ((q61.2 + Int.toNat t11 * 4) + 0)).bind fun x62 =>
      if 0 ≤ t10 ∧ t10 < ((t0.len : Nat) : Int) then (
        (t0.a).bind fun q63 =>
        ((H).ldI .u8 q63.1 ((q63.2 + Int.toNat t10 * 4) + 0)).bind fun x64 =>
        sel ((Int.tmod x62 (4 : Int)) == (Int.tmod x64 (4 : Int))) (
          if 0 ≤ t11 ∧ t11 < ((t0.len : Nat) : Int) then (
            (t0.a).bind fun q65 =>
            ((H).ldI .u8 q65.1 ((q65.2 + Int.toNat t11 * 4) + 1)).bind fun x66 =>
            if 0 ≤ t10 ∧ t10 < ((t0.len : Nat) : Int) then (
              (t0.a).bind fun q67 =>
              ((H).ldI .u8 q67.1 ((q67.2 + Int.toNat t10 * 4) + 1)).bind fun x68 =>
              sel ((Int.tmod x66 (8 : Int)) == (Int.tmod x68 (8 : Int))) (
                kN t0 t1 t7 t9 t11 (IntKind.wrap .i64 (t11 + (1 : Int))) H) (
                kN t0 t1 t7 t9 t10 (IntKind.wrap .i64 (t11 + (1 : Int))) H))
            else (
              none))
          else (
            none)) (
          kN t0 t1 t7 t9 t10 (IntKind.wrap .i64 (t11 + (1 : Int))) H))
      else (
        none))
    else (
      none)) (
    kE2 t0 t1 t7 t9 t10 H)
theorem g3_p3_eq (a9 : T9) (a10 : T10) (a11 : T11) (a12 : T12) (a13 : T13) (a14 : T14) (la9 : Lin9 a9) (la10 : Lin10 a10) (la11 : Lin11 a11) (la12 : Lin12 a12) (la13 : Lin13 a13) (la14 : Lin14 a14) {R : Type} (t0 : Sl) (t1 : Sl) (t7 : Option (Nat × Nat)) (t9 : Int) (t10 : Int) (t11 : Int) (H : Heap) (K : Ex → Fr → Heap → Option R) : ev2 Try.prog (E3 a9 a10 a11 a12 a13 a14) loopLim lv3 Try.f3.ntmps kp3 c3_0 [(0, (V.sl t0)), (1, (V.sl t1)), (7, (V.p t7)), (9, (V.i .i64 t9)), (10, (V.i .i64 t10)), (11, (V.i .i64 t11))] H K = g3_p3 a9 a10 a11 a12 a13 a14 R t0 t1 t7 t9 t10 t11 H (fun t0 t1 t7 t9 t10 t11 H => K .normal [(0, (V.sl t0)), (1, (V.sl t1)), (7, (V.p t7)), (9, (V.i .i64 t9)), (10, (V.i .i64 t10)), (11, (V.i .i64 t11))] H) (fun t0 t1 t7 t9 t10 H => K (.exit 2) [(0, (V.sl t0)), (1, (V.sl t1)), (7, (V.p t7)), (9, (V.i .i64 t9)), (10, (V.i .i64 t10))] H) := by kernel_rfl
theorem g3_p3_lin {a9 : T9} {a10 : T10} {a11 : T11} {a12 : T12} {a13 : T13} {a14 : T14} (la9 : Lin9 a9) (la10 : Lin10 a10) (la11 : Lin11 a11) (la12 : Lin12 a12) (la13 : Lin13 a13) (la14 : Lin14 a14) {R S : Type} {k : S → Option R} {t0 : Sl} {t1 : Sl} {t7 : Option (Nat × Nat)} {t9 : Int} {t10 : Int} {t11 : Int} {H : Heap} {fkN : Sl → Sl → Option (Nat × Nat) → Int → Int → Int → Heap → Option R} {gkN : Sl → Sl → Option (Nat × Nat) → Int → Int → Int → Heap → Option S} {fkE2 : Sl → Sl → Option (Nat × Nat) → Int → Int → Heap → Option R} {gkE2 : Sl → Sl → Option (Nat × Nat) → Int → Int → Heap → Option S} (hkN : ∀ t0 t1 t7 t9 t10 t11 H, fkN t0 t1 t7 t9 t10 t11 H = (gkN t0 t1 t7 t9 t10 t11 H).bind k) (hkE2 : ∀ t0 t1 t7 t9 t10 H, fkE2 t0 t1 t7 t9 t10 H = (gkE2 t0 t1 t7 t9 t10 H).bind k) : g3_p3 a9 a10 a11 a12 a13 a14 R t0 t1 t7 t9 t10 t11 H fkN fkE2 = (g3_p3 a9 a10 a11 a12 a13 a14 S t0 t1 t7 t9 t10 t11 H gkN gkE2).bind k := by
  delta g3_p3; exact (
    sl_lin (
      il (
        bl fun q61 =>
        bl fun x62 =>
        il (
          bl fun q63 =>
          bl fun x64 =>
          sl_lin (
            il (
              bl fun q65 =>
              bl fun x66 =>
              il (
                bl fun q67 =>
                bl fun x68 =>
                sl_lin (
                  hkN _ _ _ _ _ _ _) (
                  hkN _ _ _ _ _ _ _)) (
                rfl)) (
              rfl)) (
            hkN _ _ _ _ _ _ _)) (
          rfl)) (
        rfl)) (
      hkE2 _ _ _ _ _ _))
abbrev g3_p4_S := Sl × Sl × (Option (Nat × Nat)) × Int × Int × Int
abbrev g3_p4_O := Sl × Sl × (Option (Nat × Nat)) × Int × Int
def g3_p4_es (s : g3_p4_S) : Fr := [(0, (V.sl s.1)), (1, (V.sl s.2.1)), (7, (V.p s.2.2.1)), (9, (V.i .i64 s.2.2.2.1)), (10, (V.i .i64 s.2.2.2.2.1)), (11, (V.i .i64 s.2.2.2.2.2))]
def g3_p4_er (r : g3_p4_O) : Ex × Fr := ((.exit 2), [(0, (V.sl r.1)), (1, (V.sl r.2.1)), (7, (V.p r.2.2.1)), (9, (V.i .i64 r.2.2.2.1)), (10, (V.i .i64 r.2.2.2.2))])
noncomputable def g3_p4_b (a9 : T9) (a10 : T10) (a11 : T11) (a12 : T12) (a13 : T13) (a14 : T14) (s : g3_p4_S) (H : Heap) : Option (Rd g3_p4_S g3_p4_O × Heap) :=
  g3_p3 a9 a10 a11 a12 a13 a14 _ s.1 s.2.1 s.2.2.1 s.2.2.2.1 s.2.2.2.2.1 s.2.2.2.2.2 H (fun t0 t1 t7 t9 t10 t11 H => some (.go (t0, t1, t7, t9, t10, t11), H)) (fun t0 t1 t7 t9 t10 H => some (.up (t0, t1, t7, t9, t10), H))
noncomputable def g3_p4 (a9 : T9) (a10 : T10) (a11 : T11) (a12 : T12) (a13 : T13) (a14 : T14) (R : Type) (t0 : Sl) (t1 : Sl) (t7 : Option (Nat × Nat)) (t9 : Int) (t10 : Int) (t11 : Int) (H : Heap) (kE2 : Sl → Sl → Option (Nat × Nat) → Int → Int → Heap → Option R) : Option R :=
  (tlim (g3_p4_b a9 a10 a11 a12 a13 a14) (t0, t1, t7, t9, t10, t11) H).bind fun p => kE2 p.1.1 p.1.2.1 p.1.2.2.1 p.1.2.2.2.1 p.1.2.2.2.2 p.2
theorem g3_p4_lin {a9 : T9} {a10 : T10} {a11 : T11} {a12 : T12} {a13 : T13} {a14 : T14} (la9 : Lin9 a9) (la10 : Lin10 a10) (la11 : Lin11 a11) (la12 : Lin12 a12) (la13 : Lin13 a13) (la14 : Lin14 a14) {R S : Type} {k : S → Option R} {t0 : Sl} {t1 : Sl} {t7 : Option (Nat × Nat)} {t9 : Int} {t10 : Int} {t11 : Int} {H : Heap} {fkE2 : Sl → Sl → Option (Nat × Nat) → Int → Int → Heap → Option R} {gkE2 : Sl → Sl → Option (Nat × Nat) → Int → Int → Heap → Option S} (hkE2 : ∀ t0 t1 t7 t9 t10 H, fkE2 t0 t1 t7 t9 t10 H = (gkE2 t0 t1 t7 t9 t10 H).bind k) : g3_p4 a9 a10 a11 a12 a13 a14 R t0 t1 t7 t9 t10 t11 H fkE2 = (g3_p4 a9 a10 a11 a12 a13 a14 S t0 t1 t7 t9 t10 t11 H gkE2).bind k := by
  exact bl fun p => hkE2 _ _ _ _ _ _
theorem g3_p4_eq (a9 : T9) (a10 : T10) (a11 : T11) (a12 : T12) (a13 : T13) (a14 : T14) (la9 : Lin9 a9) (la10 : Lin10 a10) (la11 : Lin11 a11) (la12 : Lin12 a12) (la13 : Lin13 a13) (la14 : Lin14 a14) {R : Type} (t0 : Sl) (t1 : Sl) (t7 : Option (Nat × Nat)) (t9 : Int) (t10 : Int) (t11 : Int) (H : Heap) (K : Ex → Fr → Heap → Option R) : ev2 Try.prog (E3 a9 a10 a11 a12 a13 a14) loopLim lv3 Try.f3.ntmps kp3 c3_1 [(0, (V.sl t0)), (1, (V.sl t1)), (7, (V.p t7)), (9, (V.i .i64 t9)), (10, (V.i .i64 t10)), (11, (V.i .i64 t11))] H K = g3_p4 a9 a10 a11 a12 a13 a14 R t0 t1 t7 t9 t10 t11 H (fun t0 t1 t7 t9 t10 H => K (.exit 2) [(0, (V.sl t0)), (1, (V.sl t1)), (7, (V.p t7)), (9, (V.i .i64 t9)), (10, (V.i .i64 t10))] H) := by
  show ev2 Try.prog (E3 a9 a10 a11 a12 a13 a14) loopLim lv3 Try.f3.ntmps kp3 (.loop c3_0) [(0, (V.sl t0)), (1, (V.sl t1)), (7, (V.p t7)), (9, (V.i .i64 t9)), (10, (V.i .i64 t10)), (11, (V.i .i64 t11))] H K = _
  delta g3_p4
  refine (ev2_tlim (b := g3_p4_b a9 a10 a11 a12 a13 a14) (es := g3_p4_es) (er := g3_p4_er) (by intro r; exact nofun) (fun s H => ?_) (t0, t1, t7, t9, t10, t11) H K).trans (bc fun p => rfl)
  exact (g3_p3_eq a9 a10 a11 a12 a13 a14 la9 la10 la11 la12 la13 la14 s.1 s.2.1 s.2.2.1 s.2.2.2.1 s.2.2.2.2.1 s.2.2.2.2.2 H ret3).trans (g3_p3_lin la9 la10 la11 la12 la13 la14 (fun _ _ _ _ _ _ _ => rfl) (fun _ _ _ _ _ _ => rfl))
noncomputable def g3_p5 (a9 : T9) (a10 : T10) (a11 : T11) (a12 : T12) (a13 : T13) (a14 : T14) (R : Type) (t0 : Sl) (t1 : Sl) (t7 : Option (Nat × Nat)) (t9 : Int) (t10 : Int) (t11 : Int) (H : Heap) (kN : Sl → Sl → Option (Nat × Nat) → Int → Int → Heap → Option R) : Option R :=
  g3_p4 a9 a10 a11 a12 a13 a14 R t0 t1 t7 t9 t10 t11 H (fun t0 t1 t7 t9 t10 H => kN t0 t1 t7 t9 t10 H)
theorem g3_p5_lin {a9 : T9} {a10 : T10} {a11 : T11} {a12 : T12} {a13 : T13} {a14 : T14} (la9 : Lin9 a9) (la10 : Lin10 a10) (la11 : Lin11 a11) (la12 : Lin12 a12) (la13 : Lin13 a13) (la14 : Lin14 a14) {R S : Type} {k : S → Option R} {t0 : Sl} {t1 : Sl} {t7 : Option (Nat × Nat)} {t9 : Int} {t10 : Int} {t11 : Int} {H : Heap} {fkN : Sl → Sl → Option (Nat × Nat) → Int → Int → Heap → Option R} {gkN : Sl → Sl → Option (Nat × Nat) → Int → Int → Heap → Option S} (hkN : ∀ t0 t1 t7 t9 t10 H, fkN t0 t1 t7 t9 t10 H = (gkN t0 t1 t7 t9 t10 H).bind k) : g3_p5 a9 a10 a11 a12 a13 a14 R t0 t1 t7 t9 t10 t11 H fkN = (g3_p5 a9 a10 a11 a12 a13 a14 S t0 t1 t7 t9 t10 t11 H gkN).bind k := by
  exact g3_p4_lin la9 la10 la11 la12 la13 la14 (fun _ _ _ _ _ _ => hkN _ _ _ _ _ _)
theorem g3_p5_eq (a9 : T9) (a10 : T10) (a11 : T11) (a12 : T12) (a13 : T13) (a14 : T14) (la9 : Lin9 a9) (la10 : Lin10 a10) (la11 : Lin11 a11) (la12 : Lin12 a12) (la13 : Lin13 a13) (la14 : Lin14 a14) {R : Type} (t0 : Sl) (t1 : Sl) (t7 : Option (Nat × Nat)) (t9 : Int) (t10 : Int) (t11 : Int) (H : Heap) (K : Ex → Fr → Heap → Option R) : ev2 Try.prog (E3 a9 a10 a11 a12 a13 a14) loopLim lv3 Try.f3.ntmps kp3 c3_2 [(0, (V.sl t0)), (1, (V.sl t1)), (7, (V.p t7)), (9, (V.i .i64 t9)), (10, (V.i .i64 t10)), (11, (V.i .i64 t11))] H K = g3_p5 a9 a10 a11 a12 a13 a14 R t0 t1 t7 t9 t10 t11 H (fun t0 t1 t7 t9 t10 H => K .normal [(0, (V.sl t0)), (1, (V.sl t1)), (7, (V.p t7)), (9, (V.i .i64 t9)), (10, (V.i .i64 t10))] H) := by
  show ev2 Try.prog (E3 a9 a10 a11 a12 a13 a14) loopLim lv3 Try.f3.ntmps kp3 (.block 2 c3_1) [(0, (V.sl t0)), (1, (V.sl t1)), (7, (V.p t7)), (9, (V.i .i64 t9)), (10, (V.i .i64 t10)), (11, (V.i .i64 t11))] H K = _
  rw [ev2_block]
  delta g3_p5
  exact (g3_p4_eq a9 a10 a11 a12 a13 a14 la9 la10 la11 la12 la13 la14 t0 t1 t7 t9 t10 t11 H (kBlock kp3 2 K))
noncomputable def g3_p6 (a9 : T9) (a10 : T10) (a11 : T11) (a12 : T12) (a13 : T13) (a14 : T14) (R : Type) (t0 : Sl) (t1 : Sl) (t7 : Option (Nat × Nat)) (t9 : Int) (t10 : Int) (H : Heap) (kN : Sl → Sl → Option (Nat × Nat) → Int → Bool → Heap → Option R) (kR : Bool → Heap → Option R) : Option R :=
  if 0 ≤ t10 ∧ t10 < ((t0.len : Nat) : Int) then (
    (t0.a).bind fun q138 =>
    ((H).ldI .u8 q138.1 ((q138.2 + Int.toNat t10 * 4) + 0)).bind fun x139 =>
    ((H).ldI .u8 q138.1 ((q138.2 + Int.toNat t10 * 4) + 1)).bind fun x140 =>
    ((H).ldSl q138.1 ((q138.2 + Int.toNat t10 * 4) + 2)).bind fun x141 =>
    ((H).ldI .u8 q138.1 ((q138.2 + Int.toNat t10 * 4) + 3)).bind fun x142 =>
    a12 R x139 x140 x141 x142 H fun x143 x144 x145 h146 =>
    sel (((x144.len : Nat) : Int) == (0 : Int)) (
      kR false h146) (
      if 0 ≤ t9 ∧ t9 < ((t1.len : Nat) : Int) then (
        (t1.a).bind fun q147 =>
        ((h146).ldI .u8 q147.1 ((q147.2 + Int.toNat t9 * 3) + 2)).bind fun x148 =>
        if ((x144.len : Nat) : Int) = 0 then (
          none)
        else (
          if 0 ≤ (Int.tmod (IntKind.wrap .i64 x148) ((x144.len : Nat) : Int)) ∧ (Int.tmod (IntKind.wrap .i64 x148) ((x144.len : Nat) : Int)) < ((x144.len : Nat) : Int) then (
            (x144.a).bind fun q149 =>
            ((h146).ldI .u32 q149.1 ((q149.2 + Int.toNat (Int.tmod (IntKind.wrap .i64 x148) ((x144.len : Nat) : Int)) * 4) + 0)).bind fun x150 =>
            ((h146).ldB q149.1 ((q149.2 + Int.toNat (Int.tmod (IntKind.wrap .i64 x148) ((x144.len : Nat) : Int)) * 4) + 1)).bind fun x151 =>
            ((h146).ldI .u8 q149.1 ((q149.2 + Int.toNat (Int.tmod (IntKind.wrap .i64 x148) ((x144.len : Nat) : Int)) * 4) + 2)).bind fun x152 =>
            ((h146).ldSl q149.1 ((q149.2 + Int.toNat (Int.tmod (IntKind.wrap .i64 x148) ((x144.len : Nat) : Int)) * 4) + 3)).bind fun x153 =>
            a13 R t7 x143 x150 x151 x152 x153 h146 fun x154 x155 x156 h157 =>
            sel (x156 != (0 : Int)) (
              sel (x156 != (6 : Int)) (
                kN t0 t1 t7 t9 true h157) (
                sel (x156 == (0 : Int)) (
                  sel (((x154.len : Nat) : Int) == ((x145.size : Nat) : Int)) (
                    ((slBytes h157 x154)).bind fun x158 =>
                    sel (strEq x158 x145) (
                      sel (decide (((x145.size : Nat) : Int) > (0 : Int))) (
                        sel (!(x155 == true)) (
                          kN t0 t1 t7 t9 true h157) (
                          sel (!x155) (
                            kN t0 t1 t7 t9 (decide (((x154.len : Nat) : Int) > (0 : Int))) h157) (
                            kN t0 t1 t7 t9 false h157))) (
                        sel (!(x155 == x155)) (
                          kN t0 t1 t7 t9 true h157) (
                          sel (!x155) (
                            kN t0 t1 t7 t9 (decide (((x154.len : Nat) : Int) > (0 : Int))) h157) (
                            kN t0 t1 t7 t9 false h157)))) (
                      sel (!(x155 == false)) (
                        kN t0 t1 t7 t9 true h157) (
                        sel (!x155) (
                          kN t0 t1 t7 t9 (decide (((x154.len : Nat) : Int) > (0 : Int))) h157) (
                          kN t0 t1 t7 t9 false h157)))) (
                    sel (!(x155 == false)) (
                      kN t0 t1 t7 t9 true h157) (
                      sel (!x155) (
                        kN t0 t1 t7 t9 (decide (((x154.len : Nat) : Int) > (0 : Int))) h157) (
                        kN t0 t1 t7 t9 false h157)))) (
                  sel (!(x155 == false)) (
                    kN t0 t1 t7 t9 true h157) (
                    sel (!x155) (
                      kN t0 t1 t7 t9 (decide (((x154.len : Nat) : Int) > (0 : Int))) h157) (
                      kN t0 t1 t7 t9 false h157))))) (
              sel (x156 == (0 : Int)) (
                sel (((x154.len : Nat) : Int) == ((x145.size : Nat) : Int)) (
                  ((slBytes h157 x154)).bind fun x159 =>
                  sel (strEq x159 x145) (
                    sel (decide (((x145.size : Nat) : Int) > (0 : Int))) (
                      sel (!(x155 == true)) (
                        kN t0 t1 t7 t9 true h157) (
                        sel (!x155) (
                          kN t0 t1 t7 t9 (decide (((x154.len : Nat) : Int) > (0 : Int))) h157) (
                          kN t0 t1 t7 t9 false h157))) (
                      sel (!(x155 == x155)) (
                        kN t0 t1 t7 t9 true h157) (
                        sel (!x155) (
                          kN t0 t1 t7 t9 (decide (((x154.len : Nat) : Int) > (0 : Int))) h157) (
                          kN t0 t1 t7 t9 false h157)))) (
                    sel (!(x155 == false)) (
                      kN t0 t1 t7 t9 true h157) (
                      sel (!x155) (
                        kN t0 t1 t7 t9 (decide (((x154.len : Nat) : Int) > (0 : Int))) h157) (
                        kN t0 t1 t7 t9 false h157)))) (
                  sel (!(x155 == false)) (
                    kN t0 t1 t7 t9 true h157) (
                    sel (!x155) (
                      kN t0 t1 t7 t9 (decide (((x154.len : Nat) : Int) > (0 : Int))) h157) (
                      kN t0 t1 t7 t9 false h157)))) (
                sel (!(x155 == false)) (
                  kN t0 t1 t7 t9 true h157) (
                  sel (!x155) (
                    kN t0 t1 t7 t9 (decide (((x154.len : Nat) : Int) > (0 : Int))) h157) (
                    kN t0 t1 t7 t9 false h157)))))
          else (
            none)))
      else (
        none)))
  else (
    none)
theorem g3_p6_eq (a9 : T9) (a10 : T10) (a11 : T11) (a12 : T12) (a13 : T13) (a14 : T14) {R : Type} (c2 : Code) (t0 : Sl) (t1 : Sl) (t7 : Option (Nat × Nat)) (t9 : Int) (t10 : Int) (H : Heap) (K : Ex → Fr → Heap → Option R) : ev2 Try.prog (E3 a9 a10 a11 a12 a13 a14) loopLim lv3 Try.f3.ntmps kp3 (.seq (codeAt [1, 1, 1, 1, 0, 1, 0, 0, 1, 0, 0, 1, 1, 1, 0] b3) (.seq (codeAt [1, 1, 1, 1, 0, 1, 0, 0, 1, 0, 0, 1, 1, 1, 1, 0, 0] b3) (.seq (.cond (.tmp 110) (.seq (codeAt [1, 1, 1, 1, 0, 1, 0, 0, 1, 0, 0, 1, 1, 1, 1, 0, 1, 0, 0] b3) .ret) .skip) (.seq (codeAt [1, 1, 1, 1, 0, 1, 0, 0, 1, 0, 0, 1, 1, 1, 1, 1, 0] b3) (.seq (codeAt [1, 1, 1, 1, 0, 1, 0, 0, 1, 0, 0, 1, 1, 1, 1, 1, 1, 0] b3) c2))))) [(0, (V.sl t0)), (1, (V.sl t1)), (7, (V.p t7)), (9, (V.i .i64 t9)), (10, (V.i .i64 t10))] H K = g3_p6 a9 a10 a11 a12 a13 a14 R t0 t1 t7 t9 t10 H (fun t0 t1 t7 t9 t171 H => ev2 Try.prog (E3 a9 a10 a11 a12 a13 a14) loopLim lv3 Try.f3.ntmps kp3 c2 [(0, (V.sl t0)), (1, (V.sl t1)), (7, (V.p t7)), (9, (V.i .i64 t9)), (171, (V.b t171))] H K) (fun t6 H => K .ret [(6, (V.b t6))] H) := by kernel_rfl
theorem g3_p6_lin {a9 : T9} {a10 : T10} {a11 : T11} {a12 : T12} {a13 : T13} {a14 : T14} (la9 : Lin9 a9) (la10 : Lin10 a10) (la11 : Lin11 a11) (la12 : Lin12 a12) (la13 : Lin13 a13) (la14 : Lin14 a14) {R S : Type} {k : S → Option R} {t0 : Sl} {t1 : Sl} {t7 : Option (Nat × Nat)} {t9 : Int} {t10 : Int} {H : Heap} {fkN : Sl → Sl → Option (Nat × Nat) → Int → Bool → Heap → Option R} {gkN : Sl → Sl → Option (Nat × Nat) → Int → Bool → Heap → Option S} {fkR : Bool → Heap → Option R} {gkR : Bool → Heap → Option S} (hkN : ∀ t0 t1 t7 t9 t171 H, fkN t0 t1 t7 t9 t171 H = (gkN t0 t1 t7 t9 t171 H).bind k) (hkR : ∀ t6 H, fkR t6 H = (gkR t6 H).bind k) : g3_p6 a9 a10 a11 a12 a13 a14 R t0 t1 t7 t9 t10 H fkN fkR = (g3_p6 a9 a10 a11 a12 a13 a14 S t0 t1 t7 t9 t10 H gkN gkR).bind k := by
  delta g3_p6; exact (
    il (
      bl fun q138 =>
      bl fun x139 =>
      bl fun x140 =>
      bl fun x141 =>
      bl fun x142 =>
      la12.l fun x143 x144 x145 h146 =>
      sl_lin (
        hkR _ _) (
        il (
          bl fun q147 =>
          bl fun x148 =>
          il (
            rfl) (
            il (
              bl fun q149 =>
              bl fun x150 =>
              bl fun x151 =>
              bl fun x152 =>
              bl fun x153 =>
              la13.l fun x154 x155 x156 h157 =>
              sl_lin (
                sl_lin (
                  hkN _ _ _ _ _ _) (
                  sl_lin (
                    sl_lin (
                      bl fun x158 =>
                      sl_lin (
                        sl_lin (
                          sl_lin (
                            hkN _ _ _ _ _ _) (
                            sl_lin (
                              hkN _ _ _ _ _ _) (
                              hkN _ _ _ _ _ _))) (
                          sl_lin (
                            hkN _ _ _ _ _ _) (
                            sl_lin (
                              hkN _ _ _ _ _ _) (
                              hkN _ _ _ _ _ _)))) (
                        sl_lin (
                          hkN _ _ _ _ _ _) (
                          sl_lin (
                            hkN _ _ _ _ _ _) (
                            hkN _ _ _ _ _ _)))) (
                      sl_lin (
                        hkN _ _ _ _ _ _) (
                        sl_lin (
                          hkN _ _ _ _ _ _) (
                          hkN _ _ _ _ _ _)))) (
                    sl_lin (
                      hkN _ _ _ _ _ _) (
                      sl_lin (
                        hkN _ _ _ _ _ _) (
                        hkN _ _ _ _ _ _))))) (
                sl_lin (
                  sl_lin (
                    bl fun x159 =>
                    sl_lin (
                      sl_lin (
                        sl_lin (
                          hkN _ _ _ _ _ _) (
                          sl_lin (
                            hkN _ _ _ _ _ _) (
                            hkN _ _ _ _ _ _))) (
                        sl_lin (
                          hkN _ _ _ _ _ _) (
                          sl_lin (
                            hkN _ _ _ _ _ _) (
                            hkN _ _ _ _ _ _)))) (
                      sl_lin (
                        hkN _ _ _ _ _ _) (
                        sl_lin (
                          hkN _ _ _ _ _ _) (
                          hkN _ _ _ _ _ _)))) (
                    sl_lin (
                      hkN _ _ _ _ _ _) (
                      sl_lin (
                        hkN _ _ _ _ _ _) (
                        hkN _ _ _ _ _ _)))) (
                  sl_lin (
                    hkN _ _ _ _ _ _) (
                    sl_lin (
                      hkN _ _ _ _ _ _) (
                      hkN _ _ _ _ _ _))))) (
              rfl))) (
          rfl))) (
      rfl))
noncomputable def g3_p7 (a9 : T9) (a10 : T10) (a11 : T11) (a12 : T12) (a13 : T13) (a14 : T14) (R : Type) (t0 : Sl) (t1 : Sl) (t7 : Option (Nat × Nat)) (t9 : Int) (t171 : Bool) (H : Heap) (kN : Sl → Sl → Option (Nat × Nat) → Int → Heap → Option R) (kR : Bool → Heap → Option R) : Option R :=
  sel t171 (
    kR false H) (
    kN t0 t1 t7 t9 H)
theorem g3_p7_eq (a9 : T9) (a10 : T10) (a11 : T11) (a12 : T12) (a13 : T13) (a14 : T14) (la9 : Lin9 a9) (la10 : Lin10 a10) (la11 : Lin11 a11) (la12 : Lin12 a12) (la13 : Lin13 a13) (la14 : Lin14 a14) {R : Type} (t0 : Sl) (t1 : Sl) (t7 : Option (Nat × Nat)) (t9 : Int) (t171 : Bool) (H : Heap) (K : Ex → Fr → Heap → Option R) : ev2 Try.prog (E3 a9 a10 a11 a12 a13 a14) loopLim lv3 Try.f3.ntmps kp3 c3_3 [(0, (V.sl t0)), (1, (V.sl t1)), (7, (V.p t7)), (9, (V.i .i64 t9)), (171, (V.b t171))] H K = g3_p7 a9 a10 a11 a12 a13 a14 R t0 t1 t7 t9 t171 H (fun t0 t1 t7 t9 H => K .normal [(0, (V.sl t0)), (1, (V.sl t1)), (7, (V.p t7)), (9, (V.i .i64 t9))] H) (fun t6 H => K .ret [(6, (V.b t6))] H) := by kernel_rfl
theorem g3_p7_lin {a9 : T9} {a10 : T10} {a11 : T11} {a12 : T12} {a13 : T13} {a14 : T14} (la9 : Lin9 a9) (la10 : Lin10 a10) (la11 : Lin11 a11) (la12 : Lin12 a12) (la13 : Lin13 a13) (la14 : Lin14 a14) {R S : Type} {k : S → Option R} {t0 : Sl} {t1 : Sl} {t7 : Option (Nat × Nat)} {t9 : Int} {t171 : Bool} {H : Heap} {fkN : Sl → Sl → Option (Nat × Nat) → Int → Heap → Option R} {gkN : Sl → Sl → Option (Nat × Nat) → Int → Heap → Option S} {fkR : Bool → Heap → Option R} {gkR : Bool → Heap → Option S} (hkN : ∀ t0 t1 t7 t9 H, fkN t0 t1 t7 t9 H = (gkN t0 t1 t7 t9 H).bind k) (hkR : ∀ t6 H, fkR t6 H = (gkR t6 H).bind k) : g3_p7 a9 a10 a11 a12 a13 a14 R t0 t1 t7 t9 t171 H fkN fkR = (g3_p7 a9 a10 a11 a12 a13 a14 S t0 t1 t7 t9 t171 H gkN gkR).bind k := by
  delta g3_p7; exact (
    sl_lin (
      hkR _ _) (
      hkN _ _ _ _ _))
noncomputable def g3_p8 (a9 : T9) (a10 : T10) (a11 : T11) (a12 : T12) (a13 : T13) (a14 : T14) (R : Type) (t0 : Sl) (t1 : Sl) (t7 : Option (Nat × Nat)) (t9 : Int) (t10 : Int) (H : Heap) (kN : Sl → Sl → Option (Nat × Nat) → Int → Heap → Option R) (kR : Bool → Heap → Option R) : Option R :=
  g3_p6 a9 a10 a11 a12 a13 a14 R t0 t1 t7 t9 t10 H (fun t0 t1 t7 t9 t171 H => g3_p7 a9 a10 a11 a12 a13 a14 R t0 t1 t7 t9 t171 H (fun t0 t1 t7 t9 H => kN t0 t1 t7 t9 H) (fun t6 H => kR t6 H)) (fun t6 H => kR t6 H)
theorem g3_p8_lin {a9 : T9} {a10 : T10} {a11 : T11} {a12 : T12} {a13 : T13} {a14 : T14} (la9 : Lin9 a9) (la10 : Lin10 a10) (la11 : Lin11 a11) (la12 : Lin12 a12) (la13 : Lin13 a13) (la14 : Lin14 a14) {R S : Type} {k : S → Option R} {t0 : Sl} {t1 : Sl} {t7 : Option (Nat × Nat)} {t9 : Int} {t10 : Int} {H : Heap} {fkN : Sl → Sl → Option (Nat × Nat) → Int → Heap → Option R} {gkN : Sl → Sl → Option (Nat × Nat) → Int → Heap → Option S} {fkR : Bool → Heap → Option R} {gkR : Bool → Heap → Option S} (hkN : ∀ t0 t1 t7 t9 H, fkN t0 t1 t7 t9 H = (gkN t0 t1 t7 t9 H).bind k) (hkR : ∀ t6 H, fkR t6 H = (gkR t6 H).bind k) : g3_p8 a9 a10 a11 a12 a13 a14 R t0 t1 t7 t9 t10 H fkN fkR = (g3_p8 a9 a10 a11 a12 a13 a14 S t0 t1 t7 t9 t10 H gkN gkR).bind k := by
  exact g3_p6_lin la9 la10 la11 la12 la13 la14 (fun _ _ _ _ _ _ => g3_p7_lin la9 la10 la11 la12 la13 la14 (fun _ _ _ _ _ => hkN _ _ _ _ _) (fun _ _ => hkR _ _)) (fun _ _ => hkR _ _)
theorem g3_p8_eq (a9 : T9) (a10 : T10) (a11 : T11) (a12 : T12) (a13 : T13) (a14 : T14) (la9 : Lin9 a9) (la10 : Lin10 a10) (la11 : Lin11 a11) (la12 : Lin12 a12) (la13 : Lin13 a13) (la14 : Lin14 a14) {R : Type} (t0 : Sl) (t1 : Sl) (t7 : Option (Nat × Nat)) (t9 : Int) (t10 : Int) (H : Heap) (K : Ex → Fr → Heap → Option R) : ev2 Try.prog (E3 a9 a10 a11 a12 a13 a14) loopLim lv3 Try.f3.ntmps kp3 c3_4 [(0, (V.sl t0)), (1, (V.sl t1)), (7, (V.p t7)), (9, (V.i .i64 t9)), (10, (V.i .i64 t10))] H K = g3_p8 a9 a10 a11 a12 a13 a14 R t0 t1 t7 t9 t10 H (fun t0 t1 t7 t9 H => K .normal [(0, (V.sl t0)), (1, (V.sl t1)), (7, (V.p t7)), (9, (V.i .i64 t9))] H) (fun t6 H => K .ret [(6, (V.b t6))] H) := by
  show ev2 Try.prog (E3 a9 a10 a11 a12 a13 a14) loopLim lv3 Try.f3.ntmps kp3 (.seq (codeAt [1, 1, 1, 1, 0, 1, 0, 0, 1, 0, 0, 1, 1, 1, 0] b3) (.seq (codeAt [1, 1, 1, 1, 0, 1, 0, 0, 1, 0, 0, 1, 1, 1, 1, 0, 0] b3) (.seq (.cond (.tmp 110) (.seq (codeAt [1, 1, 1, 1, 0, 1, 0, 0, 1, 0, 0, 1, 1, 1, 1, 0, 1, 0, 0] b3) .ret) .skip) (.seq (codeAt [1, 1, 1, 1, 0, 1, 0, 0, 1, 0, 0, 1, 1, 1, 1, 1, 0] b3) (.seq (codeAt [1, 1, 1, 1, 0, 1, 0, 0, 1, 0, 0, 1, 1, 1, 1, 1, 1, 0] b3) c3_3))))) [(0, (V.sl t0)), (1, (V.sl t1)), (7, (V.p t7)), (9, (V.i .i64 t9)), (10, (V.i .i64 t10))] H K = _
  delta g3_p8
  exact (g3_p6_eq a9 a10 a11 a12 a13 a14 _ t0 t1 t7 t9 t10 H K).trans (congr (congrArg (g3_p6 a9 a10 a11 a12 a13 a14 R t0 t1 t7 t9 t10 H) (funext fun t0 => funext fun t1 => funext fun t7 => funext fun t9 => funext fun t171 => funext fun H => g3_p7_eq a9 a10 a11 a12 a13 a14 la9 la10 la11 la12 la13 la14 t0 t1 t7 t9 t171 H K)) rfl)
noncomputable def g3_p9 (a9 : T9) (a10 : T10) (a11 : T11) (a12 : T12) (a13 : T13) (a14 : T14) (R : Type) (t0 : Sl) (t1 : Sl) (t7 : Option (Nat × Nat)) (t9 : Int) (t10 : Int) (t11 : Int) (H : Heap) (kN : Sl → Sl → Option (Nat × Nat) → Int → Heap → Option R) (kR : Bool → Heap → Option R) : Option R :=
  g3_p5 a9 a10 a11 a12 a13 a14 R t0 t1 t7 t9 t10 t11 H (fun t0 t1 t7 t9 t10 H => g3_p8 a9 a10 a11 a12 a13 a14 R t0 t1 t7 t9 t10 H (fun t0 t1 t7 t9 H => kN t0 t1 t7 t9 H) (fun t6 H => kR t6 H))
theorem g3_p9_lin {a9 : T9} {a10 : T10} {a11 : T11} {a12 : T12} {a13 : T13} {a14 : T14} (la9 : Lin9 a9) (la10 : Lin10 a10) (la11 : Lin11 a11) (la12 : Lin12 a12) (la13 : Lin13 a13) (la14 : Lin14 a14) {R S : Type} {k : S → Option R} {t0 : Sl} {t1 : Sl} {t7 : Option (Nat × Nat)} {t9 : Int} {t10 : Int} {t11 : Int} {H : Heap} {fkN : Sl → Sl → Option (Nat × Nat) → Int → Heap → Option R} {gkN : Sl → Sl → Option (Nat × Nat) → Int → Heap → Option S} {fkR : Bool → Heap → Option R} {gkR : Bool → Heap → Option S} (hkN : ∀ t0 t1 t7 t9 H, fkN t0 t1 t7 t9 H = (gkN t0 t1 t7 t9 H).bind k) (hkR : ∀ t6 H, fkR t6 H = (gkR t6 H).bind k) : g3_p9 a9 a10 a11 a12 a13 a14 R t0 t1 t7 t9 t10 t11 H fkN fkR = (g3_p9 a9 a10 a11 a12 a13 a14 S t0 t1 t7 t9 t10 t11 H gkN gkR).bind k := by
  exact g3_p5_lin la9 la10 la11 la12 la13 la14 (fun _ _ _ _ _ _ => g3_p8_lin la9 la10 la11 la12 la13 la14 (fun _ _ _ _ _ => hkN _ _ _ _ _) (fun _ _ => hkR _ _))
theorem g3_p9_eq (a9 : T9) (a10 : T10) (a11 : T11) (a12 : T12) (a13 : T13) (a14 : T14) (la9 : Lin9 a9) (la10 : Lin10 a10) (la11 : Lin11 a11) (la12 : Lin12 a12) (la13 : Lin13 a13) (la14 : Lin14 a14) {R : Type} (t0 : Sl) (t1 : Sl) (t7 : Option (Nat × Nat)) (t9 : Int) (t10 : Int) (t11 : Int) (H : Heap) (K : Ex → Fr → Heap → Option R) : ev2 Try.prog (E3 a9 a10 a11 a12 a13 a14) loopLim lv3 Try.f3.ntmps kp3 c3_5 [(0, (V.sl t0)), (1, (V.sl t1)), (7, (V.p t7)), (9, (V.i .i64 t9)), (10, (V.i .i64 t10)), (11, (V.i .i64 t11))] H K = g3_p9 a9 a10 a11 a12 a13 a14 R t0 t1 t7 t9 t10 t11 H (fun t0 t1 t7 t9 H => K .normal [(0, (V.sl t0)), (1, (V.sl t1)), (7, (V.p t7)), (9, (V.i .i64 t9))] H) (fun t6 H => K .ret [(6, (V.b t6))] H) := by
  show ev2 Try.prog (E3 a9 a10 a11 a12 a13 a14) loopLim lv3 Try.f3.ntmps kp3 (.seq c3_2 c3_4) [(0, (V.sl t0)), (1, (V.sl t1)), (7, (V.p t7)), (9, (V.i .i64 t9)), (10, (V.i .i64 t10)), (11, (V.i .i64 t11))] H K = _
  rw [ev2_seq]
  delta g3_p9
  exact (g3_p5_eq a9 a10 a11 a12 a13 a14 la9 la10 la11 la12 la13 la14 t0 t1 t7 t9 t10 t11 H (kSeq (fun fr H => ev2 Try.prog (E3 a9 a10 a11 a12 a13 a14) loopLim lv3 Try.f3.ntmps kp3 c3_4 fr H K) K)).trans (congrArg (g3_p5 a9 a10 a11 a12 a13 a14 R t0 t1 t7 t9 t10 t11 H) (funext fun t0 => funext fun t1 => funext fun t7 => funext fun t9 => funext fun t10 => funext fun H => (kSeq_n _ _ _ _).trans (g3_p8_eq a9 a10 a11 a12 a13 a14 la9 la10 la11 la12 la13 la14 t0 t1 t7 t9 t10 H K)))
noncomputable def g3_p10 (a9 : T9) (a10 : T10) (a11 : T11) (a12 : T12) (a13 : T13) (a14 : T14) (R : Type) (t0 : Sl) (t1 : Sl) (t7 : Option (Nat × Nat)) (t9 : Int) (H : Heap) (kN : Sl → Sl → Option (Nat × Nat) → Int → Heap → Option R) (kE1 : Sl → Sl → Option (Nat × Nat) → Int → Heap → Option R) (kR : Bool → Heap → Option R) : Option R :=
  g3_p2 a9 a10 a11 a12 a13 a14 R t0 t1 t7 t9 H (fun t0 t1 t7 t9 t10 t11 H => g3_p9 a9 a10 a11 a12 a13 a14 R t0 t1 t7 t9 t10 t11 H (fun t0 t1 t7 t9 H => kN t0 t1 t7 t9 H) (fun t6 H => kR t6 H)) (fun t0 t1 t7 t9 H => kE1 t0 t1 t7 t9 H)
theorem g3_p10_lin {a9 : T9} {a10 : T10} {a11 : T11} {a12 : T12} {a13 : T13} {a14 : T14} (la9 : Lin9 a9) (la10 : Lin10 a10) (la11 : Lin11 a11) (la12 : Lin12 a12) (la13 : Lin13 a13) (la14 : Lin14 a14) {R S : Type} {k : S → Option R} {t0 : Sl} {t1 : Sl} {t7 : Option (Nat × Nat)} {t9 : Int} {H : Heap} {fkN : Sl → Sl → Option (Nat × Nat) → Int → Heap → Option R} {gkN : Sl → Sl → Option (Nat × Nat) → Int → Heap → Option S} {fkE1 : Sl → Sl → Option (Nat × Nat) → Int → Heap → Option R} {gkE1 : Sl → Sl → Option (Nat × Nat) → Int → Heap → Option S} {fkR : Bool → Heap → Option R} {gkR : Bool → Heap → Option S} (hkN : ∀ t0 t1 t7 t9 H, fkN t0 t1 t7 t9 H = (gkN t0 t1 t7 t9 H).bind k) (hkE1 : ∀ t0 t1 t7 t9 H, fkE1 t0 t1 t7 t9 H = (gkE1 t0 t1 t7 t9 H).bind k) (hkR : ∀ t6 H, fkR t6 H = (gkR t6 H).bind k) : g3_p10 a9 a10 a11 a12 a13 a14 R t0 t1 t7 t9 H fkN fkE1 fkR = (g3_p10 a9 a10 a11 a12 a13 a14 S t0 t1 t7 t9 H gkN gkE1 gkR).bind k := by
  exact g3_p2_lin la9 la10 la11 la12 la13 la14 (fun _ _ _ _ _ _ _ => g3_p9_lin la9 la10 la11 la12 la13 la14 (fun _ _ _ _ _ => hkN _ _ _ _ _) (fun _ _ => hkR _ _)) (fun _ _ _ _ _ => hkE1 _ _ _ _ _)
theorem g3_p10_eq (a9 : T9) (a10 : T10) (a11 : T11) (a12 : T12) (a13 : T13) (a14 : T14) (la9 : Lin9 a9) (la10 : Lin10 a10) (la11 : Lin11 a11) (la12 : Lin12 a12) (la13 : Lin13 a13) (la14 : Lin14 a14) {R : Type} (t0 : Sl) (t1 : Sl) (t7 : Option (Nat × Nat)) (t9 : Int) (H : Heap) (K : Ex → Fr → Heap → Option R) : ev2 Try.prog (E3 a9 a10 a11 a12 a13 a14) loopLim lv3 Try.f3.ntmps kp3 c3_6 [(0, (V.sl t0)), (1, (V.sl t1)), (7, (V.p t7)), (9, (V.i .i64 t9))] H K = g3_p10 a9 a10 a11 a12 a13 a14 R t0 t1 t7 t9 H (fun t0 t1 t7 t9 H => K .normal [(0, (V.sl t0)), (1, (V.sl t1)), (7, (V.p t7)), (9, (V.i .i64 t9))] H) (fun t0 t1 t7 t9 H => K (.exit 1) [(0, (V.sl t0)), (1, (V.sl t1)), (7, (V.p t7)), (9, (V.i .i64 t9))] H) (fun t6 H => K .ret [(6, (V.b t6))] H) := by
  show ev2 Try.prog (E3 a9 a10 a11 a12 a13 a14) loopLim lv3 Try.f3.ntmps kp3 (.seq (codeAt [1, 1, 1, 1, 0, 1, 0, 0, 1, 0, 0, 0, 0] b3) (.seq (.cond (.tmp 53) (.seq (codeAt [1, 1, 1, 1, 0, 1, 0, 0, 1, 0, 0, 0, 1, 0, 0] b3) (.exit 1)) .skip) (.seq (codeAt [1, 1, 1, 1, 0, 1, 0, 0, 1, 0, 0, 1, 0] b3) (.seq (codeAt [1, 1, 1, 1, 0, 1, 0, 0, 1, 0, 0, 1, 1, 0, 0] b3) c3_5)))) [(0, (V.sl t0)), (1, (V.sl t1)), (7, (V.p t7)), (9, (V.i .i64 t9))] H K = _
  delta g3_p10
  exact (g3_p2_eq a9 a10 a11 a12 a13 a14 _ t0 t1 t7 t9 H K).trans (congr (congrArg (g3_p2 a9 a10 a11 a12 a13 a14 R t0 t1 t7 t9 H) (funext fun t0 => funext fun t1 => funext fun t7 => funext fun t9 => funext fun t10 => funext fun t11 => funext fun H => g3_p9_eq a9 a10 a11 a12 a13 a14 la9 la10 la11 la12 la13 la14 t0 t1 t7 t9 t10 t11 H K)) rfl)
noncomputable def g3_p11 (a9 : T9) (a10 : T10) (a11 : T11) (a12 : T12) (a13 : T13) (a14 : T14) (R : Type) (t0 : Sl) (t1 : Sl) (t7 : Option (Nat × Nat)) (t9 : Int) (H : Heap) (kN : Sl → Sl → Option (Nat × Nat) → Int → Heap → Option R) (kR : Bool → Heap → Option R) : Option R :=
  g3_p10 a9 a10 a11 a12 a13 a14 R t0 t1 t7 t9 H (fun t0 t1 t7 t9 H => kN t0 t1 t7 t9 H) (fun t0 t1 t7 t9 H => kN t0 t1 t7 t9 H) (fun t6 H => kR t6 H)
theorem g3_p11_lin {a9 : T9} {a10 : T10} {a11 : T11} {a12 : T12} {a13 : T13} {a14 : T14} (la9 : Lin9 a9) (la10 : Lin10 a10) (la11 : Lin11 a11) (la12 : Lin12 a12) (la13 : Lin13 a13) (la14 : Lin14 a14) {R S : Type} {k : S → Option R} {t0 : Sl} {t1 : Sl} {t7 : Option (Nat × Nat)} {t9 : Int} {H : Heap} {fkN : Sl → Sl → Option (Nat × Nat) → Int → Heap → Option R} {gkN : Sl → Sl → Option (Nat × Nat) → Int → Heap → Option S} {fkR : Bool → Heap → Option R} {gkR : Bool → Heap → Option S} (hkN : ∀ t0 t1 t7 t9 H, fkN t0 t1 t7 t9 H = (gkN t0 t1 t7 t9 H).bind k) (hkR : ∀ t6 H, fkR t6 H = (gkR t6 H).bind k) : g3_p11 a9 a10 a11 a12 a13 a14 R t0 t1 t7 t9 H fkN fkR = (g3_p11 a9 a10 a11 a12 a13 a14 S t0 t1 t7 t9 H gkN gkR).bind k := by
  exact g3_p10_lin la9 la10 la11 la12 la13 la14 (fun _ _ _ _ _ => hkN _ _ _ _ _) (fun _ _ _ _ _ => hkN _ _ _ _ _) (fun _ _ => hkR _ _)
theorem g3_p11_eq (a9 : T9) (a10 : T10) (a11 : T11) (a12 : T12) (a13 : T13) (a14 : T14) (la9 : Lin9 a9) (la10 : Lin10 a10) (la11 : Lin11 a11) (la12 : Lin12 a12) (la13 : Lin13 a13) (la14 : Lin14 a14) {R : Type} (t0 : Sl) (t1 : Sl) (t7 : Option (Nat × Nat)) (t9 : Int) (H : Heap) (K : Ex → Fr → Heap → Option R) : ev2 Try.prog (E3 a9 a10 a11 a12 a13 a14) loopLim lv3 Try.f3.ntmps kp3 c3_7 [(0, (V.sl t0)), (1, (V.sl t1)), (7, (V.p t7)), (9, (V.i .i64 t9))] H K = g3_p11 a9 a10 a11 a12 a13 a14 R t0 t1 t7 t9 H (fun t0 t1 t7 t9 H => K .normal [(0, (V.sl t0)), (1, (V.sl t1)), (7, (V.p t7)), (9, (V.i .i64 t9))] H) (fun t6 H => K .ret [(6, (V.b t6))] H) := by
  show ev2 Try.prog (E3 a9 a10 a11 a12 a13 a14) loopLim lv3 Try.f3.ntmps kp3 (.block 1 c3_6) [(0, (V.sl t0)), (1, (V.sl t1)), (7, (V.p t7)), (9, (V.i .i64 t9))] H K = _
  rw [ev2_block]
  delta g3_p11
  exact (g3_p10_eq a9 a10 a11 a12 a13 a14 la9 la10 la11 la12 la13 la14 t0 t1 t7 t9 H (kBlock kp3 1 K))
noncomputable def g3_p12 (a9 : T9) (a10 : T10) (a11 : T11) (a12 : T12) (a13 : T13) (a14 : T14) (R : Type) (t0 : Sl) (t1 : Sl) (t7 : Option (Nat × Nat)) (t9 : Int) (H : Heap) (kN : Sl → Sl → Option (Nat × Nat) → Int → Heap → Option R) : Option R :=
  kN t0 t1 t7 (IntKind.wrap .i64 (t9 + (1 : Int))) H
theorem g3_p12_eq (a9 : T9) (a10 : T10) (a11 : T11) (a12 : T12) (a13 : T13) (a14 : T14) (la9 : Lin9 a9) (la10 : Lin10 a10) (la11 : Lin11 a11) (la12 : Lin12 a12) (la13 : Lin13 a13) (la14 : Lin14 a14) {R : Type} (t0 : Sl) (t1 : Sl) (t7 : Option (Nat × Nat)) (t9 : Int) (H : Heap) (K : Ex → Fr → Heap → Option R) : ev2 Try.prog (E3 a9 a10 a11 a12 a13 a14) loopLim lv3 Try.f3.ntmps kp3 c3_8 [(0, (V.sl t0)), (1, (V.sl t1)), (7, (V.p t7)), (9, (V.i .i64 t9))] H K = g3_p12 a9 a10 a11 a12 a13 a14 R t0 t1 t7 t9 H (fun t0 t1 t7 t9 H => K .normal [(0, (V.sl t0)), (1, (V.sl t1)), (7, (V.p t7)), (9, (V.i .i64 t9))] H) := by kernel_rfl
theorem g3_p12_lin {a9 : T9} {a10 : T10} {a11 : T11} {a12 : T12} {a13 : T13} {a14 : T14} (la9 : Lin9 a9) (la10 : Lin10 a10) (la11 : Lin11 a11) (la12 : Lin12 a12) (la13 : Lin13 a13) (la14 : Lin14 a14) {R S : Type} {k : S → Option R} {t0 : Sl} {t1 : Sl} {t7 : Option (Nat × Nat)} {t9 : Int} {H : Heap} {fkN : Sl → Sl → Option (Nat × Nat) → Int → Heap → Option R} {gkN : Sl → Sl → Option (Nat × Nat) → Int → Heap → Option S} (hkN : ∀ t0 t1 t7 t9 H, fkN t0 t1 t7 t9 H = (gkN t0 t1 t7 t9 H).bind k) : g3_p12 a9 a10 a11 a12 a13 a14 R t0 t1 t7 t9 H fkN = (g3_p12 a9 a10 a11 a12 a13 a14 S t0 t1 t7 t9 H gkN).bind k := by
  delta g3_p12; exact (
    hkN _ _ _ _ _)
noncomputable def g3_p13 (a9 : T9) (a10 : T10) (a11 : T11) (a12 : T12) (a13 : T13) (a14 : T14) (R : Type) (t0 : Sl) (t1 : Sl) (t7 : Option (Nat × Nat)) (t9 : Int) (H : Heap) (kN : Sl → Sl → Option (Nat × Nat) → Int → Heap → Option R) (kR : Bool → Heap → Option R) : Option R :=
  g3_p11 a9 a10 a11 a12 a13 a14 R t0 t1 t7 t9 H (fun t0 t1 t7 t9 H => g3_p12 a9 a10 a11 a12 a13 a14 R t0 t1 t7 t9 H (fun t0 t1 t7 t9 H => kN t0 t1 t7 t9 H)) (fun t6 H => kR t6 H)
theorem g3_p13_lin {a9 : T9} {a10 : T10} {a11 : T11} {a12 : T12} {a13 : T13} {a14 : T14} (la9 : Lin9 a9) (la10 : Lin10 a10) (la11 : Lin11 a11) (la12 : Lin12 a12) (la13 : Lin13 a13) (la14 : Lin14 a14) {R S : Type} {k : S → Option R} {t0 : Sl} {t1 : Sl} {t7 : Option (Nat × Nat)} {t9 : Int} {H : Heap} {fkN : Sl → Sl → Option (Nat × Nat) → Int → Heap → Option R} {gkN : Sl → Sl → Option (Nat × Nat) → Int → Heap → Option S} {fkR : Bool → Heap → Option R} {gkR : Bool → Heap → Option S} (hkN : ∀ t0 t1 t7 t9 H, fkN t0 t1 t7 t9 H = (gkN t0 t1 t7 t9 H).bind k) (hkR : ∀ t6 H, fkR t6 H = (gkR t6 H).bind k) : g3_p13 a9 a10 a11 a12 a13 a14 R t0 t1 t7 t9 H fkN fkR = (g3_p13 a9 a10 a11 a12 a13 a14 S t0 t1 t7 t9 H gkN gkR).bind k := by
  exact g3_p11_lin la9 la10 la11 la12 la13 la14 (fun _ _ _ _ _ => g3_p12_lin la9 la10 la11 la12 la13 la14 (fun _ _ _ _ _ => hkN _ _ _ _ _)) (fun _ _ => hkR _ _)
theorem g3_p13_eq (a9 : T9) (a10 : T10) (a11 : T11) (a12 : T12) (a13 : T13) (a14 : T14) (la9 : Lin9 a9) (la10 : Lin10 a10) (la11 : Lin11 a11) (la12 : Lin12 a12) (la13 : Lin13 a13) (la14 : Lin14 a14) {R : Type} (t0 : Sl) (t1 : Sl) (t7 : Option (Nat × Nat)) (t9 : Int) (H : Heap) (K : Ex → Fr → Heap → Option R) : ev2 Try.prog (E3 a9 a10 a11 a12 a13 a14) loopLim lv3 Try.f3.ntmps kp3 c3_9 [(0, (V.sl t0)), (1, (V.sl t1)), (7, (V.p t7)), (9, (V.i .i64 t9))] H K = g3_p13 a9 a10 a11 a12 a13 a14 R t0 t1 t7 t9 H (fun t0 t1 t7 t9 H => K .normal [(0, (V.sl t0)), (1, (V.sl t1)), (7, (V.p t7)), (9, (V.i .i64 t9))] H) (fun t6 H => K .ret [(6, (V.b t6))] H) := by
  show ev2 Try.prog (E3 a9 a10 a11 a12 a13 a14) loopLim lv3 Try.f3.ntmps kp3 (.seq c3_7 c3_8) [(0, (V.sl t0)), (1, (V.sl t1)), (7, (V.p t7)), (9, (V.i .i64 t9))] H K = _
  rw [ev2_seq]
  delta g3_p13
  exact (g3_p11_eq a9 a10 a11 a12 a13 a14 la9 la10 la11 la12 la13 la14 t0 t1 t7 t9 H (kSeq (fun fr H => ev2 Try.prog (E3 a9 a10 a11 a12 a13 a14) loopLim lv3 Try.f3.ntmps kp3 c3_8 fr H K) K)).trans (congr (congrArg (g3_p11 a9 a10 a11 a12 a13 a14 R t0 t1 t7 t9 H) (funext fun t0 => funext fun t1 => funext fun t7 => funext fun t9 => funext fun H => (kSeq_n _ _ _ _).trans (g3_p12_eq a9 a10 a11 a12 a13 a14 la9 la10 la11 la12 la13 la14 t0 t1 t7 t9 H K))) rfl)
noncomputable def g3_p14 (a9 : T9) (a10 : T10) (a11 : T11) (a12 : T12) (a13 : T13) (a14 : T14) (R : Type) (t0 : Sl) (t1 : Sl) (t7 : Option (Nat × Nat)) (t9 : Int) (H : Heap) (kN : Sl → Sl → Option (Nat × Nat) → Int → Heap → Option R) (kE0 : Option (Nat × Nat) → Heap → Option R) (kR : Bool → Heap → Option R) : Option R :=
  g3_p1 a9 a10 a11 a12 a13 a14 R t0 t1 t7 t9 H (fun t0 t1 t7 t9 H => g3_p13 a9 a10 a11 a12 a13 a14 R t0 t1 t7 t9 H (fun t0 t1 t7 t9 H => kN t0 t1 t7 t9 H) (fun t6 H => kR t6 H)) (fun t7 H => kE0 t7 H)
theorem g3_p14_lin {a9 : T9} {a10 : T10} {a11 : T11} {a12 : T12} {a13 : T13} {a14 : T14} (la9 : Lin9 a9) (la10 : Lin10 a10) (la11 : Lin11 a11) (la12 : Lin12 a12) (la13 : Lin13 a13) (la14 : Lin14 a14) {R S : Type} {k : S → Option R} {t0 : Sl} {t1 : Sl} {t7 : Option (Nat × Nat)} {t9 : Int} {H : Heap} {fkN : Sl → Sl → Option (Nat × Nat) → Int → Heap → Option R} {gkN : Sl → Sl → Option (Nat × Nat) → Int → Heap → Option S} {fkE0 : Option (Nat × Nat) → Heap → Option R} {gkE0 : Option (Nat × Nat) → Heap → Option S} {fkR : Bool → Heap → Option R} {gkR : Bool → Heap → Option S} (hkN : ∀ t0 t1 t7 t9 H, fkN t0 t1 t7 t9 H = (gkN t0 t1 t7 t9 H).bind k) (hkE0 : ∀ t7 H, fkE0 t7 H = (gkE0 t7 H).bind k) (hkR : ∀ t6 H, fkR t6 H = (gkR t6 H).bind k) : g3_p14 a9 a10 a11 a12 a13 a14 R t0 t1 t7 t9 H fkN fkE0 fkR = (g3_p14 a9 a10 a11 a12 a13 a14 S t0 t1 t7 t9 H gkN gkE0 gkR).bind k := by
  exact g3_p1_lin la9 la10 la11 la12 la13 la14 (fun _ _ _ _ _ => g3_p13_lin la9 la10 la11 la12 la13 la14 (fun _ _ _ _ _ => hkN _ _ _ _ _) (fun _ _ => hkR _ _)) (fun _ _ => hkE0 _ _)
theorem g3_p14_eq (a9 : T9) (a10 : T10) (a11 : T11) (a12 : T12) (a13 : T13) (a14 : T14) (la9 : Lin9 a9) (la10 : Lin10 a10) (la11 : Lin11 a11) (la12 : Lin12 a12) (la13 : Lin13 a13) (la14 : Lin14 a14) {R : Type} (t0 : Sl) (t1 : Sl) (t7 : Option (Nat × Nat)) (t9 : Int) (H : Heap) (K : Ex → Fr → Heap → Option R) : ev2 Try.prog (E3 a9 a10 a11 a12 a13 a14) loopLim lv3 Try.f3.ntmps kp3 c3_10 [(0, (V.sl t0)), (1, (V.sl t1)), (7, (V.p t7)), (9, (V.i .i64 t9))] H K = g3_p14 a9 a10 a11 a12 a13 a14 R t0 t1 t7 t9 H (fun t0 t1 t7 t9 H => K .normal [(0, (V.sl t0)), (1, (V.sl t1)), (7, (V.p t7)), (9, (V.i .i64 t9))] H) (fun t7 H => K (.exit 0) [(7, (V.p t7))] H) (fun t6 H => K .ret [(6, (V.b t6))] H) := by
  show ev2 Try.prog (E3 a9 a10 a11 a12 a13 a14) loopLim lv3 Try.f3.ntmps kp3 (.seq (codeAt [1, 1, 1, 1, 0, 1, 0, 0, 0, 0] b3) (.seq (.cond (.tmp 46) .skip (.exit 0)) c3_9)) [(0, (V.sl t0)), (1, (V.sl t1)), (7, (V.p t7)), (9, (V.i .i64 t9))] H K = _
  delta g3_p14
  exact (g3_p1_eq a9 a10 a11 a12 a13 a14 _ t0 t1 t7 t9 H K).trans (congr (congrArg (g3_p1 a9 a10 a11 a12 a13 a14 R t0 t1 t7 t9 H) (funext fun t0 => funext fun t1 => funext fun t7 => funext fun t9 => funext fun H => g3_p13_eq a9 a10 a11 a12 a13 a14 la9 la10 la11 la12 la13 la14 t0 t1 t7 t9 H K)) rfl)
abbrev g3_p15_S := Sl × Sl × (Option (Nat × Nat)) × Int
abbrev g3_p15_O := Sum ((Option (Nat × Nat))) (Bool)
def g3_p15_es (s : g3_p15_S) : Fr := [(0, (V.sl s.1)), (1, (V.sl s.2.1)), (7, (V.p s.2.2.1)), (9, (V.i .i64 s.2.2.2))]
def g3_p15_er : g3_p15_O → Ex × Fr
  | (.inl r) => ((.exit 0), [(7, (V.p r))])
  | (.inr r) => (.ret, [(6, (V.b r))])
noncomputable def g3_p15_b (a9 : T9) (a10 : T10) (a11 : T11) (a12 : T12) (a13 : T13) (a14 : T14) (s : g3_p15_S) (H : Heap) : Option (Rd g3_p15_S g3_p15_O × Heap) :=
  g3_p14 a9 a10 a11 a12 a13 a14 _ s.1 s.2.1 s.2.2.1 s.2.2.2 H (fun t0 t1 t7 t9 H => some (.go (t0, t1, t7, t9), H)) (fun t7 H => some (.up (.inl t7), H)) (fun t6 H => some (.up (.inr t6), H))
noncomputable def g3_p15 (a9 : T9) (a10 : T10) (a11 : T11) (a12 : T12) (a13 : T13) (a14 : T14) (R : Type) (t0 : Sl) (t1 : Sl) (t7 : Option (Nat × Nat)) (t9 : Int) (H : Heap) (kE0 : Option (Nat × Nat) → Heap → Option R) (kR : Bool → Heap → Option R) : Option R :=
  (tlim (g3_p15_b a9 a10 a11 a12 a13 a14) (t0, t1, t7, t9) H).bind fun p => cas p.1 (fun r => kE0 r p.2) (fun r0 => kR r0 p.2)
theorem g3_p15_lin {a9 : T9} {a10 : T10} {a11 : T11} {a12 : T12} {a13 : T13} {a14 : T14} (la9 : Lin9 a9) (la10 : Lin10 a10) (la11 : Lin11 a11) (la12 : Lin12 a12) (la13 : Lin13 a13) (la14 : Lin14 a14) {R S : Type} {k : S → Option R} {t0 : Sl} {t1 : Sl} {t7 : Option (Nat × Nat)} {t9 : Int} {H : Heap} {fkE0 : Option (Nat × Nat) → Heap → Option R} {gkE0 : Option (Nat × Nat) → Heap → Option S} {fkR : Bool → Heap → Option R} {gkR : Bool → Heap → Option S} (hkE0 : ∀ t7 H, fkE0 t7 H = (gkE0 t7 H).bind k) (hkR : ∀ t6 H, fkR t6 H = (gkR t6 H).bind k) : g3_p15 a9 a10 a11 a12 a13 a14 R t0 t1 t7 t9 H fkE0 fkR = (g3_p15 a9 a10 a11 a12 a13 a14 S t0 t1 t7 t9 H gkE0 gkR).bind k := by
  exact bl fun p => cas_lin (fun _ => hkE0 _ _) (fun _ => hkR _ _)
theorem g3_p15_eq (a9 : T9) (a10 : T10) (a11 : T11) (a12 : T12) (a13 : T13) (a14 : T14) (la9 : Lin9 a9) (la10 : Lin10 a10) (la11 : Lin11 a11) (la12 : Lin12 a12) (la13 : Lin13 a13) (la14 : Lin14 a14) {R : Type} (t0 : Sl) (t1 : Sl) (t7 : Option (Nat × Nat)) (t9 : Int) (H : Heap) (K : Ex → Fr → Heap → Option R) : ev2 Try.prog (E3 a9 a10 a11 a12 a13 a14) loopLim lv3 Try.f3.ntmps kp3 c3_11 [(0, (V.sl t0)), (1, (V.sl t1)), (7, (V.p t7)), (9, (V.i .i64 t9))] H K = g3_p15 a9 a10 a11 a12 a13 a14 R t0 t1 t7 t9 H (fun t7 H => K (.exit 0) [(7, (V.p t7))] H) (fun t6 H => K .ret [(6, (V.b t6))] H) := by
  show ev2 Try.prog (E3 a9 a10 a11 a12 a13 a14) loopLim lv3 Try.f3.ntmps kp3 (.loop c3_10) [(0, (V.sl t0)), (1, (V.sl t1)), (7, (V.p t7)), (9, (V.i .i64 t9))] H K = _
  delta g3_p15
  refine (ev2_tlim (b := g3_p15_b a9 a10 a11 a12 a13 a14) (es := g3_p15_es) (er := g3_p15_er) (by rintro (r | r) <;> exact nofun) (fun s H => ?_) (t0, t1, t7, t9) H K).trans (bc fun p => by rcases p with ⟨(r | r), H⟩ <;> rfl)
  exact (g3_p14_eq a9 a10 a11 a12 a13 a14 la9 la10 la11 la12 la13 la14 s.1 s.2.1 s.2.2.1 s.2.2.2 H ret3).trans (g3_p14_lin la9 la10 la11 la12 la13 la14 (fun _ _ _ _ _ => rfl) (fun _ _ => rfl) (fun _ _ => rfl))
noncomputable def g3_p16 (a9 : T9) (a10 : T10) (a11 : T11) (a12 : T12) (a13 : T13) (a14 : T14) (R : Type) (t0 : Sl) (t1 : Sl) (t7 : Option (Nat × Nat)) (t9 : Int) (H : Heap) (kN : Option (Nat × Nat) → Heap → Option R) (kR : Bool → Heap → Option R) : Option R :=
  g3_p15 a9 a10 a11 a12 a13 a14 R t0 t1 t7 t9 H (fun t7 H => kN t7 H) (fun t6 H => kR t6 H)
theorem g3_p16_lin {a9 : T9} {a10 : T10} {a11 : T11} {a12 : T12} {a13 : T13} {a14 : T14} (la9 : Lin9 a9) (la10 : Lin10 a10) (la11 : Lin11 a11) (la12 : Lin12 a12) (la13 : Lin13 a13) (la14 : Lin14 a14) {R S : Type} {k : S → Option R} {t0 : Sl} {t1 : Sl} {t7 : Option (Nat × Nat)} {t9 : Int} {H : Heap} {fkN : Option (Nat × Nat) → Heap → Option R} {gkN : Option (Nat × Nat) → Heap → Option S} {fkR : Bool → Heap → Option R} {gkR : Bool → Heap → Option S} (hkN : ∀ t7 H, fkN t7 H = (gkN t7 H).bind k) (hkR : ∀ t6 H, fkR t6 H = (gkR t6 H).bind k) : g3_p16 a9 a10 a11 a12 a13 a14 R t0 t1 t7 t9 H fkN fkR = (g3_p16 a9 a10 a11 a12 a13 a14 S t0 t1 t7 t9 H gkN gkR).bind k := by
  exact g3_p15_lin la9 la10 la11 la12 la13 la14 (fun _ _ => hkN _ _) (fun _ _ => hkR _ _)
theorem g3_p16_eq (a9 : T9) (a10 : T10) (a11 : T11) (a12 : T12) (a13 : T13) (a14 : T14) (la9 : Lin9 a9) (la10 : Lin10 a10) (la11 : Lin11 a11) (la12 : Lin12 a12) (la13 : Lin13 a13) (la14 : Lin14 a14) {R : Type} (t0 : Sl) (t1 : Sl) (t7 : Option (Nat × Nat)) (t9 : Int) (H : Heap) (K : Ex → Fr → Heap → Option R) : ev2 Try.prog (E3 a9 a10 a11 a12 a13 a14) loopLim lv3 Try.f3.ntmps kp3 c3_12 [(0, (V.sl t0)), (1, (V.sl t1)), (7, (V.p t7)), (9, (V.i .i64 t9))] H K = g3_p16 a9 a10 a11 a12 a13 a14 R t0 t1 t7 t9 H (fun t7 H => K .normal [(7, (V.p t7))] H) (fun t6 H => K .ret [(6, (V.b t6))] H) := by
  show ev2 Try.prog (E3 a9 a10 a11 a12 a13 a14) loopLim lv3 Try.f3.ntmps kp3 (.block 0 c3_11) [(0, (V.sl t0)), (1, (V.sl t1)), (7, (V.p t7)), (9, (V.i .i64 t9))] H K = _
  rw [ev2_block]
  delta g3_p16
  exact (g3_p15_eq a9 a10 a11 a12 a13 a14 la9 la10 la11 la12 la13 la14 t0 t1 t7 t9 H (kBlock kp3 0 K))
noncomputable def g3_p17 (a9 : T9) (a10 : T10) (a11 : T11) (a12 : T12) (a13 : T13) (a14 : T14) (R : Type) (t7 : Option (Nat × Nat)) (H : Heap) (kN : Option (Nat × Nat) → Int → Heap → Option R) : Option R :=
  kN t7 (0 : Int) H
theorem g3_p17_eq (a9 : T9) (a10 : T10) (a11 : T11) (a12 : T12) (a13 : T13) (a14 : T14) {R : Type} (c2 : Code) (t7 : Option (Nat × Nat)) (H : Heap) (K : Ex → Fr → Heap → Option R) : ev2 Try.prog (E3 a9 a10 a11 a12 a13 a14) loopLim lv3 Try.f3.ntmps kp3 (.seq (codeAt [1, 1, 1, 1, 1, 0, 0] b3) c2) [(7, (V.p t7))] H K = g3_p17 a9 a10 a11 a12 a13 a14 R t7 H (fun t7 t18 H => ev2 Try.prog (E3 a9 a10 a11 a12 a13 a14) loopLim lv3 Try.f3.ntmps kp3 c2 [(7, (V.p t7)), (18, (V.i .i64 t18))] H K) := by kernel_rfl
theorem g3_p17_lin {a9 : T9} {a10 : T10} {a11 : T11} {a12 : T12} {a13 : T13} {a14 : T14} (la9 : Lin9 a9) (la10 : Lin10 a10) (la11 : Lin11 a11) (la12 : Lin12 a12) (la13 : Lin13 a13) (la14 : Lin14 a14) {R S : Type} {k : S → Option R} {t7 : Option (Nat × Nat)} {H : Heap} {fkN : Option (Nat × Nat) → Int → Heap → Option R} {gkN : Option (Nat × Nat) → Int → Heap → Option S} (hkN : ∀ t7 t18 H, fkN t7 t18 H = (gkN t7 t18 H).bind k) : g3_p17 a9 a10 a11 a12 a13 a14 R t7 H fkN = (g3_p17 a9 a10 a11 a12 a13 a14 S t7 H gkN).bind k := by
  delta g3_p17; exact (
    hkN _ _ _)
noncomputable def g3_p18 (a9 : T9) (a10 : T10) (a11 : T11) (a12 : T12) (a13 : T13) (a14 : T14) (R : Type) (t7 : Option (Nat × Nat)) (t18 : Int) (H : Heap) (kN : Option (Nat × Nat) → Int → Heap → Option R) (kE4 : Option (Nat × Nat) → Heap → Option R) : Option R :=
  sel (decide (t18 < (6 : Int))) (
    a11 R t7 H fun x160 h161 =>
    kN t7 (IntKind.wrap .i64 (t18 + (1 : Int))) h161) (
    kE4 t7 H)
theorem g3_p18_eq (a9 : T9) (a10 : T10) (a11 : T11) (a12 : T12) (a13 : T13) (a14 : T14) (la9 : Lin9 a9) (la10 : Lin10 a10) (la11 : Lin11 a11) (la12 : Lin12 a12) (la13 : Lin13 a13) (la14 : Lin14 a14) {R : Type} (t7 : Option (Nat × Nat)) (t18 : Int) (H : Heap) (K : Ex → Fr → Heap → Option R) : ev2 Try.prog (E3 a9 a10 a11 a12 a13 a14) loopLim lv3 Try.f3.ntmps kp3 c3_13 [(7, (V.p t7)), (18, (V.i .i64 t18))] H K = g3_p18 a9 a10 a11 a12 a13 a14 R t7 t18 H (fun t7 t18 H => K .normal [(7, (V.p t7)), (18, (V.i .i64 t18))] H) (fun t7 H => K (.exit 4) [(7, (V.p t7))] H) := by kernel_rfl
theorem g3_p18_lin {a9 : T9} {a10 : T10} {a11 : T11} {a12 : T12} {a13 : T13} {a14 : T14} (la9 : Lin9 a9) (la10 : Lin10 a10) (la11 : Lin11 a11) (la12 : Lin12 a12) (la13 : Lin13 a13) (la14 : Lin14 a14) {R S : Type} {k : S → Option R} {t7 : Option (Nat × Nat)} {t18 : Int} {H : Heap} {fkN : Option (Nat × Nat) → Int → Heap → Option R} {gkN : Option (Nat × Nat) → Int → Heap → Option S} {fkE4 : Option (Nat × Nat) → Heap → Option R} {gkE4 : Option (Nat × Nat) → Heap → Option S} (hkN : ∀ t7 t18 H, fkN t7 t18 H = (gkN t7 t18 H).bind k) (hkE4 : ∀ t7 H, fkE4 t7 H = (gkE4 t7 H).bind k) : g3_p18 a9 a10 a11 a12 a13 a14 R t7 t18 H fkN fkE4 = (g3_p18 a9 a10 a11 a12 a13 a14 S t7 t18 H gkN gkE4).bind k := by
  delta g3_p18; exact (
    sl_lin (
      la11.l fun x160 h161 =>
      hkN _ _ _) (
      hkE4 _ _))
abbrev g3_p19_S := (Option (Nat × Nat)) × Int
abbrev g3_p19_O := (Option (Nat × Nat))
def g3_p19_es (s : g3_p19_S) : Fr := [(7, (V.p s.1)), (18, (V.i .i64 s.2))]
def g3_p19_er (r : g3_p19_O) : Ex × Fr := ((.exit 4), [(7, (V.p r))])
noncomputable def g3_p19_b (a9 : T9) (a10 : T10) (a11 : T11) (a12 : T12) (a13 : T13) (a14 : T14) (s : g3_p19_S) (H : Heap) : Option (Rd g3_p19_S g3_p19_O × Heap) :=
  g3_p18 a9 a10 a11 a12 a13 a14 _ s.1 s.2 H (fun t7 t18 H => some (.go (t7, t18), H)) (fun t7 H => some (.up t7, H))
noncomputable def g3_p19 (a9 : T9) (a10 : T10) (a11 : T11) (a12 : T12) (a13 : T13) (a14 : T14) (R : Type) (t7 : Option (Nat × Nat)) (t18 : Int) (H : Heap) (kE4 : Option (Nat × Nat) → Heap → Option R) : Option R :=
  (tlim (g3_p19_b a9 a10 a11 a12 a13 a14) (t7, t18) H).bind fun p => kE4 p.1 p.2
theorem g3_p19_lin {a9 : T9} {a10 : T10} {a11 : T11} {a12 : T12} {a13 : T13} {a14 : T14} (la9 : Lin9 a9) (la10 : Lin10 a10) (la11 : Lin11 a11) (la12 : Lin12 a12) (la13 : Lin13 a13) (la14 : Lin14 a14) {R S : Type} {k : S → Option R} {t7 : Option (Nat × Nat)} {t18 : Int} {H : Heap} {fkE4 : Option (Nat × Nat) → Heap → Option R} {gkE4 : Option (Nat × Nat) → Heap → Option S} (hkE4 : ∀ t7 H, fkE4 t7 H = (gkE4 t7 H).bind k) : g3_p19 a9 a10 a11 a12 a13 a14 R t7 t18 H fkE4 = (g3_p19 a9 a10 a11 a12 a13 a14 S t7 t18 H gkE4).bind k := by
  exact bl fun p => hkE4 _ _
theorem g3_p19_eq (a9 : T9) (a10 : T10) (a11 : T11) (a12 : T12) (a13 : T13) (a14 : T14) (la9 : Lin9 a9) (la10 : Lin10 a10) (la11 : Lin11 a11) (la12 : Lin12 a12) (la13 : Lin13 a13) (la14 : Lin14 a14) {R : Type} (t7 : Option (Nat × Nat)) (t18 : Int) (H : Heap) (K : Ex → Fr → Heap → Option R) : ev2 Try.prog (E3 a9 a10 a11 a12 a13 a14) loopLim lv3 Try.f3.ntmps kp3 c3_14 [(7, (V.p t7)), (18, (V.i .i64 t18))] H K = g3_p19 a9 a10 a11 a12 a13 a14 R t7 t18 H (fun t7 H => K (.exit 4) [(7, (V.p t7))] H) := by
  show ev2 Try.prog (E3 a9 a10 a11 a12 a13 a14) loopLim lv3 Try.f3.ntmps kp3 (.loop c3_13) [(7, (V.p t7)), (18, (V.i .i64 t18))] H K = _
  delta g3_p19
  refine (ev2_tlim (b := g3_p19_b a9 a10 a11 a12 a13 a14) (es := g3_p19_es) (er := g3_p19_er) (by intro r; exact nofun) (fun s H => ?_) (t7, t18) H K).trans (bc fun p => rfl)
  exact (g3_p18_eq a9 a10 a11 a12 a13 a14 la9 la10 la11 la12 la13 la14 s.1 s.2 H ret3).trans (g3_p18_lin la9 la10 la11 la12 la13 la14 (fun _ _ _ => rfl) (fun _ _ => rfl))
noncomputable def g3_p20 (a9 : T9) (a10 : T10) (a11 : T11) (a12 : T12) (a13 : T13) (a14 : T14) (R : Type) (t7 : Option (Nat × Nat)) (t18 : Int) (H : Heap) (kN : Option (Nat × Nat) → Heap → Option R) : Option R :=
  g3_p19 a9 a10 a11 a12 a13 a14 R t7 t18 H (fun t7 H => kN t7 H)
theorem g3_p20_lin {a9 : T9} {a10 : T10} {a11 : T11} {a12 : T12} {a13 : T13} {a14 : T14} (la9 : Lin9 a9) (la10 : Lin10 a10) (la11 : Lin11 a11) (la12 : Lin12 a12) (la13 : Lin13 a13) (la14 : Lin14 a14) {R S : Type} {k : S → Option R} {t7 : Option (Nat × Nat)} {t18 : Int} {H : Heap} {fkN : Option (Nat × Nat) → Heap → Option R} {gkN : Option (Nat × Nat) → Heap → Option S} (hkN : ∀ t7 H, fkN t7 H = (gkN t7 H).bind k) : g3_p20 a9 a10 a11 a12 a13 a14 R t7 t18 H fkN = (g3_p20 a9 a10 a11 a12 a13 a14 S t7 t18 H gkN).bind k := by
  exact g3_p19_lin la9 la10 la11 la12 la13 la14 (fun _ _ => hkN _ _)
theorem g3_p20_eq (a9 : T9) (a10 : T10) (a11 : T11) (a12 : T12) (a13 : T13) (a14 : T14) (la9 : Lin9 a9) (la10 : Lin10 a10) (la11 : Lin11 a11) (la12 : Lin12 a12) (la13 : Lin13 a13) (la14 : Lin14 a14) {R : Type} (t7 : Option (Nat × Nat)) (t18 : Int) (H : Heap) (K : Ex → Fr → Heap → Option R) : ev2 Try.prog (E3 a9 a10 a11 a12 a13 a14) loopLim lv3 Try.f3.ntmps kp3 c3_15 [(7, (V.p t7)), (18, (V.i .i64 t18))] H K = g3_p20 a9 a10 a11 a12 a13 a14 R t7 t18 H (fun t7 H => K .normal [(7, (V.p t7))] H) := by
  show ev2 Try.prog (E3 a9 a10 a11 a12 a13 a14) loopLim lv3 Try.f3.ntmps kp3 (.block 4 c3_14) [(7, (V.p t7)), (18, (V.i .i64 t18))] H K = _
  rw [ev2_block]
  delta g3_p20
  exact (g3_p19_eq a9 a10 a11 a12 a13 a14 la9 la10 la11 la12 la13 la14 t7 t18 H (kBlock kp3 4 K))
noncomputable def g3_p21 (a9 : T9) (a10 : T10) (a11 : T11) (a12 : T12) (a13 : T13) (a14 : T14) (R : Type) (t7 : Option (Nat × Nat)) (H : Heap) (kR : Bool → Heap → Option R) : Option R :=
  a14 R t7 H fun x162 h163 =>
  sel (x162 == (0 : Int)) (
    a11 R t7 h163 fun x164 h165 =>
    sel (((x164.len : Nat) : Int) == (0 : Int)) (
      a9 R h165 fun x166 h167 =>
      kR x166 h167) (
      kR false h165)) (
    kR false h163)
theorem g3_p21_eq (a9 : T9) (a10 : T10) (a11 : T11) (a12 : T12) (a13 : T13) (a14 : T14) (la9 : Lin9 a9) (la10 : Lin10 a10) (la11 : Lin11 a11) (la12 : Lin12 a12) (la13 : Lin13 a13) (la14 : Lin14 a14) {R : Type} (t7 : Option (Nat × Nat)) (H : Heap) (K : Ex → Fr → Heap → Option R) : ev2 Try.prog (E3 a9 a10 a11 a12 a13 a14) loopLim lv3 Try.f3.ntmps kp3 c3_16 [(7, (V.p t7))] H K = g3_p21 a9 a10 a11 a12 a13 a14 R t7 H (fun t6 H => K .ret [(6, (V.b t6))] H) := by kernel_rfl
theorem g3_p21_lin {a9 : T9} {a10 : T10} {a11 : T11} {a12 : T12} {a13 : T13} {a14 : T14} (la9 : Lin9 a9) (la10 : Lin10 a10) (la11 : Lin11 a11) (la12 : Lin12 a12) (la13 : Lin13 a13) (la14 : Lin14 a14) {R S : Type} {k : S → Option R} {t7 : Option (Nat × Nat)} {H : Heap} {fkR : Bool → Heap → Option R} {gkR : Bool → Heap → Option S} (hkR : ∀ t6 H, fkR t6 H = (gkR t6 H).bind k) : g3_p21 a9 a10 a11 a12 a13 a14 R t7 H fkR = (g3_p21 a9 a10 a11 a12 a13 a14 S t7 H gkR).bind k := by
  delta g3_p21; exact (
    la14.l fun x162 h163 =>
    sl_lin (
      la11.l fun x164 h165 =>
      sl_lin (
        la9.l fun x166 h167 =>
        hkR _ _) (
        hkR _ _)) (
      hkR _ _))
noncomputable def g3_p22 (a9 : T9) (a10 : T10) (a11 : T11) (a12 : T12) (a13 : T13) (a14 : T14) (R : Type) (t7 : Option (Nat × Nat)) (t18 : Int) (H : Heap) (kR : Bool → Heap → Option R) : Option R :=
  g3_p20 a9 a10 a11 a12 a13 a14 R t7 t18 H (fun t7 H => g3_p21 a9 a10 a11 a12 a13 a14 R t7 H (fun t6 H => kR t6 H))
theorem g3_p22_lin {a9 : T9} {a10 : T10} {a11 : T11} {a12 : T12} {a13 : T13} {a14 : T14} (la9 : Lin9 a9) (la10 : Lin10 a10) (la11 : Lin11 a11) (la12 : Lin12 a12) (la13 : Lin13 a13) (la14 : Lin14 a14) {R S : Type} {k : S → Option R} {t7 : Option (Nat × Nat)} {t18 : Int} {H : Heap} {fkR : Bool → Heap → Option R} {gkR : Bool → Heap → Option S} (hkR : ∀ t6 H, fkR t6 H = (gkR t6 H).bind k) : g3_p22 a9 a10 a11 a12 a13 a14 R t7 t18 H fkR = (g3_p22 a9 a10 a11 a12 a13 a14 S t7 t18 H gkR).bind k := by
  exact g3_p20_lin la9 la10 la11 la12 la13 la14 (fun _ _ => g3_p21_lin la9 la10 la11 la12 la13 la14 (fun _ _ => hkR _ _))
theorem g3_p22_eq (a9 : T9) (a10 : T10) (a11 : T11) (a12 : T12) (a13 : T13) (a14 : T14) (la9 : Lin9 a9) (la10 : Lin10 a10) (la11 : Lin11 a11) (la12 : Lin12 a12) (la13 : Lin13 a13) (la14 : Lin14 a14) {R : Type} (t7 : Option (Nat × Nat)) (t18 : Int) (H : Heap) (K : Ex → Fr → Heap → Option R) : ev2 Try.prog (E3 a9 a10 a11 a12 a13 a14) loopLim lv3 Try.f3.ntmps kp3 c3_17 [(7, (V.p t7)), (18, (V.i .i64 t18))] H K = g3_p22 a9 a10 a11 a12 a13 a14 R t7 t18 H (fun t6 H => K .ret [(6, (V.b t6))] H) := by
  show ev2 Try.prog (E3 a9 a10 a11 a12 a13 a14) loopLim lv3 Try.f3.ntmps kp3 (.seq c3_15 c3_16) [(7, (V.p t7)), (18, (V.i .i64 t18))] H K = _
  rw [ev2_seq]
  delta g3_p22
  exact (g3_p20_eq a9 a10 a11 a12 a13 a14 la9 la10 la11 la12 la13 la14 t7 t18 H (kSeq (fun fr H => ev2 Try.prog (E3 a9 a10 a11 a12 a13 a14) loopLim lv3 Try.f3.ntmps kp3 c3_16 fr H K) K)).trans (congrArg (g3_p20 a9 a10 a11 a12 a13 a14 R t7 t18 H) (funext fun t7 => funext fun H => (kSeq_n _ _ _ _).trans (g3_p21_eq a9 a10 a11 a12 a13 a14 la9 la10 la11 la12 la13 la14 t7 H K)))
noncomputable def g3_p23 (a9 : T9) (a10 : T10) (a11 : T11) (a12 : T12) (a13 : T13) (a14 : T14) (R : Type) (t7 : Option (Nat × Nat)) (H : Heap) (kR : Bool → Heap → Option R) : Option R :=
  g3_p17 a9 a10 a11 a12 a13 a14 R t7 H (fun t7 t18 H => g3_p22 a9 a10 a11 a12 a13 a14 R t7 t18 H (fun t6 H => kR t6 H))
theorem g3_p23_lin {a9 : T9} {a10 : T10} {a11 : T11} {a12 : T12} {a13 : T13} {a14 : T14} (la9 : Lin9 a9) (la10 : Lin10 a10) (la11 : Lin11 a11) (la12 : Lin12 a12) (la13 : Lin13 a13) (la14 : Lin14 a14) {R S : Type} {k : S → Option R} {t7 : Option (Nat × Nat)} {H : Heap} {fkR : Bool → Heap → Option R} {gkR : Bool → Heap → Option S} (hkR : ∀ t6 H, fkR t6 H = (gkR t6 H).bind k) : g3_p23 a9 a10 a11 a12 a13 a14 R t7 H fkR = (g3_p23 a9 a10 a11 a12 a13 a14 S t7 H gkR).bind k := by
  exact g3_p17_lin la9 la10 la11 la12 la13 la14 (fun _ _ _ => g3_p22_lin la9 la10 la11 la12 la13 la14 (fun _ _ => hkR _ _))
theorem g3_p23_eq (a9 : T9) (a10 : T10) (a11 : T11) (a12 : T12) (a13 : T13) (a14 : T14) (la9 : Lin9 a9) (la10 : Lin10 a10) (la11 : Lin11 a11) (la12 : Lin12 a12) (la13 : Lin13 a13) (la14 : Lin14 a14) {R : Type} (t7 : Option (Nat × Nat)) (H : Heap) (K : Ex → Fr → Heap → Option R) : ev2 Try.prog (E3 a9 a10 a11 a12 a13 a14) loopLim lv3 Try.f3.ntmps kp3 c3_18 [(7, (V.p t7))] H K = g3_p23 a9 a10 a11 a12 a13 a14 R t7 H (fun t6 H => K .ret [(6, (V.b t6))] H) := by
  show ev2 Try.prog (E3 a9 a10 a11 a12 a13 a14) loopLim lv3 Try.f3.ntmps kp3 (.seq (codeAt [1, 1, 1, 1, 1, 0, 0] b3) c3_17) [(7, (V.p t7))] H K = _
  delta g3_p23
  exact (g3_p17_eq a9 a10 a11 a12 a13 a14 _ t7 H K).trans (congrArg (g3_p17 a9 a10 a11 a12 a13 a14 R t7 H) (funext fun t7 => funext fun t18 => funext fun H => g3_p22_eq a9 a10 a11 a12 a13 a14 la9 la10 la11 la12 la13 la14 t7 t18 H K))
noncomputable def g3_p24 (a9 : T9) (a10 : T10) (a11 : T11) (a12 : T12) (a13 : T13) (a14 : T14) (R : Type) (t0 : Sl) (t1 : Sl) (t7 : Option (Nat × Nat)) (t9 : Int) (H : Heap) (kR : Bool → Heap → Option R) : Option R :=
  g3_p16 a9 a10 a11 a12 a13 a14 R t0 t1 t7 t9 H (fun t7 H => g3_p23 a9 a10 a11 a12 a13 a14 R t7 H (fun t6 H => kR t6 H)) (fun t6 H => kR t6 H)
theorem g3_p24_lin {a9 : T9} {a10 : T10} {a11 : T11} {a12 : T12} {a13 : T13} {a14 : T14} (la9 : Lin9 a9) (la10 : Lin10 a10) (la11 : Lin11 a11) (la12 : Lin12 a12) (la13 : Lin13 a13) (la14 : Lin14 a14) {R S : Type} {k : S → Option R} {t0 : Sl} {t1 : Sl} {t7 : Option (Nat × Nat)} {t9 : Int} {H : Heap} {fkR : Bool → Heap → Option R} {gkR : Bool → Heap → Option S} (hkR : ∀ t6 H, fkR t6 H = (gkR t6 H).bind k) : g3_p24 a9 a10 a11 a12 a13 a14 R t0 t1 t7 t9 H fkR = (g3_p24 a9 a10 a11 a12 a13 a14 S t0 t1 t7 t9 H gkR).bind k := by
  exact g3_p16_lin la9 la10 la11 la12 la13 la14 (fun _ _ => g3_p23_lin la9 la10 la11 la12 la13 la14 (fun _ _ => hkR _ _)) (fun _ _ => hkR _ _)
theorem g3_p24_eq (a9 : T9) (a10 : T10) (a11 : T11) (a12 : T12) (a13 : T13) (a14 : T14) (la9 : Lin9 a9) (la10 : Lin10 a10) (la11 : Lin11 a11) (la12 : Lin12 a12) (la13 : Lin13 a13) (la14 : Lin14 a14) {R : Type} (t0 : Sl) (t1 : Sl) (t7 : Option (Nat × Nat)) (t9 : Int) (H : Heap) (K : Ex → Fr → Heap → Option R) : ev2 Try.prog (E3 a9 a10 a11 a12 a13 a14) loopLim lv3 Try.f3.ntmps kp3 c3_19 [(0, (V.sl t0)), (1, (V.sl t1)), (7, (V.p t7)), (9, (V.i .i64 t9))] H K = g3_p24 a9 a10 a11 a12 a13 a14 R t0 t1 t7 t9 H (fun t6 H => K .ret [(6, (V.b t6))] H) := by
  show ev2 Try.prog (E3 a9 a10 a11 a12 a13 a14) loopLim lv3 Try.f3.ntmps kp3 (.seq c3_12 c3_18) [(0, (V.sl t0)), (1, (V.sl t1)), (7, (V.p t7)), (9, (V.i .i64 t9))] H K = _
  rw [ev2_seq]
  delta g3_p24
  exact (g3_p16_eq a9 a10 a11 a12 a13 a14 la9 la10 la11 la12 la13 la14 t0 t1 t7 t9 H (kSeq (fun fr H => ev2 Try.prog (E3 a9 a10 a11 a12 a13 a14) loopLim lv3 Try.f3.ntmps kp3 c3_18 fr H K) K)).trans (congr (congrArg (g3_p16 a9 a10 a11 a12 a13 a14 R t0 t1 t7 t9 H) (funext fun t7 => funext fun H => (kSeq_n _ _ _ _).trans (g3_p23_eq a9 a10 a11 a12 a13 a14 la9 la10 la11 la12 la13 la14 t7 H K))) rfl)
noncomputable def g3_p25 (a9 : T9) (a10 : T10) (a11 : T11) (a12 : T12) (a13 : T13) (a14 : T14) (R : Type) (t0 : Sl) (t1 : Sl) (t2 : Int) (H : Heap) (kR : Bool → Heap → Option R) : Option R :=
  g3_p0 a9 a10 a11 a12 a13 a14 R t0 t1 t2 H (fun t0 t1 t7 t9 H => g3_p24 a9 a10 a11 a12 a13 a14 R t0 t1 t7 t9 H (fun t6 H => kR t6 H)) (fun t6 H => kR t6 H)
theorem g3_p25_lin {a9 : T9} {a10 : T10} {a11 : T11} {a12 : T12} {a13 : T13} {a14 : T14} (la9 : Lin9 a9) (la10 : Lin10 a10) (la11 : Lin11 a11) (la12 : Lin12 a12) (la13 : Lin13 a13) (la14 : Lin14 a14) {R S : Type} {k : S → Option R} {t0 : Sl} {t1 : Sl} {t2 : Int} {H : Heap} {fkR : Bool → Heap → Option R} {gkR : Bool → Heap → Option S} (hkR : ∀ t6 H, fkR t6 H = (gkR t6 H).bind k) : g3_p25 a9 a10 a11 a12 a13 a14 R t0 t1 t2 H fkR = (g3_p25 a9 a10 a11 a12 a13 a14 S t0 t1 t2 H gkR).bind k := by
  exact g3_p0_lin la9 la10 la11 la12 la13 la14 (fun _ _ _ _ _ => g3_p24_lin la9 la10 la11 la12 la13 la14 (fun _ _ => hkR _ _)) (fun _ _ => hkR _ _)
theorem g3_p25_eq (a9 : T9) (a10 : T10) (a11 : T11) (a12 : T12) (a13 : T13) (a14 : T14) (la9 : Lin9 a9) (la10 : Lin10 a10) (la11 : Lin11 a11) (la12 : Lin12 a12) (la13 : Lin13 a13) (la14 : Lin14 a14) {R : Type} (t0 : Sl) (t1 : Sl) (t2 : Int) (H : Heap) (K : Ex → Fr → Heap → Option R) : ev2 Try.prog (E3 a9 a10 a11 a12 a13 a14) loopLim lv3 Try.f3.ntmps kp3 c3_20 [(0, (V.sl t0)), (1, (V.sl t1)), (2, (V.i .u8 t2))] H K = g3_p25 a9 a10 a11 a12 a13 a14 R t0 t1 t2 H (fun t6 H => K .ret [(6, (V.b t6))] H) := by
  show ev2 Try.prog (E3 a9 a10 a11 a12 a13 a14) loopLim lv3 Try.f3.ntmps kp3 (.seq (codeAt [0] b3) (.seq (codeAt [1, 0, 0] b3) (.seq (.cond (.tmp 31) (.seq (codeAt [1, 0, 1, 0, 0] b3) .ret) .skip) (.seq (codeAt [1, 1, 0] b3) (.seq (codeAt [1, 1, 1, 0, 0] b3) (.seq (.cond (.tmp 42) (.seq (codeAt [1, 1, 1, 0, 1, 0, 0] b3) .ret) .skip) (.seq (codeAt [1, 1, 1, 1, 0, 0] b3) c3_19))))))) [(0, (V.sl t0)), (1, (V.sl t1)), (2, (V.i .u8 t2))] H K = _
  delta g3_p25
  exact (g3_p0_eq a9 a10 a11 a12 a13 a14 _ t0 t1 t2 H K).trans (congr (congrArg (g3_p0 a9 a10 a11 a12 a13 a14 R t0 t1 t2 H) (funext fun t0 => funext fun t1 => funext fun t7 => funext fun t9 => funext fun H => g3_p24_eq a9 a10 a11 a12 a13 a14 la9 la10 la11 la12 la13 la14 t0 t1 t7 t9 H K)) rfl)
noncomputable def g3_r (a9 : T9) (a10 : T10) (a11 : T11) (a12 : T12) (a13 : T13) (a14 : T14) : T3 := fun R t0 t1 t2 H K =>
  g3_p25 a9 a10 a11 a12 a13 a14 R t0 t1 t2 H (fun t6 H =>
    K t6 H)
theorem g3_r_lin {a9 : T9} {a10 : T10} {a11 : T11} {a12 : T12} {a13 : T13} {a14 : T14} (la9 : Lin9 a9) (la10 : Lin10 a10) (la11 : Lin11 a11) (la12 : Lin12 a12) (la13 : Lin13 a13) (la14 : Lin14 a14) : Lin3 (g3_r a9 a10 a11 a12 a13 a14) := by
  constructor
  intro R S k t0 t1 t2 H f g h
  exact g3_p25_lin la9 la10 la11 la12 la13 la14 (fun t6 H =>
    h _ _)
theorem g3_fn (a9 : T9) (a10 : T10) (a11 : T11) (a12 : T12) (a13 : T13) (a14 : T14) (la9 : Lin9 a9) (la10 : Lin10 a10) (la11 : Lin11 a11) (la12 : Lin12 a12) (la13 : Lin13 a13) (la14 : Lin14 a14) {R : Type} (t0 : Sl) (t1 : Sl) (t2 : Int) (H : Heap) (K : V → Heap → Option R) : evFn2 Try.prog (E3 a9 a10 a11 a12 a13 a14) loopLim lv3 Try.f3 kp3 [(V.sl t0), (V.sl t1), (V.i .u8 t2)] H K = g3_r a9 a10 a11 a12 a13 a14 R t0 t1 t2 H (fun r0 H => K (V.b r0) H) := by
  have h0 : ∀ (t6 : Bool) (H : Heap), kFn2 Try.prog Try.f3.results.toList K .ret [(6, (V.b t6))] H =
      K (V.b t6) H := by intros; kernel_rfl
  have e0 := evFn2_code2 (P := Try.prog) (c := c3_20) (E := (E3 a9 a10 a11 a12 a13 a14)) (lr := loopLim) (lv := lv3) (kp := kp3) (fn := Try.f3) (args := [(V.sl t0), (V.sl t1), (V.i .u8 t2)]) H K (by kernel_rfl) (Nat.le_of_ble_eq_true (by kernel_rfl)) (by kernel_rfl) (by kernel_rfl)
  have e1 : ev2 Try.prog (E3 a9 a10 a11 a12 a13 a14) loopLim lv3 Try.f3.ntmps kp3 c3_20 (argFr 0 [(V.sl t0), (V.sl t1), (V.i .u8 t2)]) H (kFn2 Try.prog Try.f3.results.toList K) = ev2 Try.prog (E3 a9 a10 a11 a12 a13 a14) loopLim lv3 Try.f3.ntmps kp3 c3_20 [(0, (V.sl t0)), (1, (V.sl t1)), (2, (V.i .u8 t2))] H (kFn2 Try.prog Try.f3.results.toList K) := by kernel_rfl
  refine (e0.trans e1).trans ?_
  delta g3_r
  exact (g3_p25_eq a9 a10 a11 a12 a13 a14 la9 la10 la11 la12 la13 la14 t0 t1 t2 H (kFn2 Try.prog Try.f3.results.toList K)).trans (congrArg (g3_p25 a9 a10 a11 a12 a13 a14 R t0 t1 t2 H) (funext fun t6 => funext fun H => h0 t6 H))
theorem g3_ok {a9 : T9} {a10 : T10} {a11 : T11} {a12 : T12} {a13 : T13} {a14 : T14} (oa9 : FunOK Try.prog 9 (w9 a9)) (oa10 : FunOK Try.prog 10 (w10 a10)) (oa11 : FunOK Try.prog 11 (w11 a11)) (oa12 : FunOK Try.prog 12 (w12 a12)) (oa13 : FunOK Try.prog 13 (w13 a13)) (oa14 : FunOK Try.prog 14 (w14 a14)) (la9 : Lin9 a9) (la10 : Lin10 a10) (la11 : Lin11 a11) (la12 : Lin12 a12) (la13 : Lin13 a13) (la14 : Lin14 a14) : FunOK Try.prog 3 (w3 (g3_r a9 a10 a11 a12 a13 a14)) := by
  refine (runF2_ok (E3_good oa9 oa10 oa11 oa12 oa13 oa14 la9 la10 la11 la12 la13 la14) mixed lim_ok Try.func3 (by kernel_rfl) lv3 kp3).of_le fun R args H K r hk => ?_
  unfold w3 at hk
  split at hk
  · exact (g3_fn a9 a10 a11 a12 a13 a14 la9 la10 la11 la12 la13 la14 _ _ _ H K).trans hk
  · cases hk
def kp11 : Nat → Option (List Nat) := kpOf [(0, [0]), (1, [0, 11]), (2, [2]), (3, [0, 3]), (4, [0, 3, 16]), (5, [0, 3, 16, 18]), (6, [0, 3, 4, 5, 16, 500004, 1000004]), (7, [0, 3, 4, 5, 16, 500004, 1000004]), (8, [0, 3, 4, 16, 33, 500004, 1000004]), (9, [0, 3, 16]), (10, [0, 38, 39, 40]), (11, [0, 38, 39, 40, 41]), (12, [0, 7, 38, 39, 40, 500007, 1000007]), (13, [0, 38, 39, 40]), (14, [0, 38, 39, 40]), (15, [0, 8]), (16, [8]), (17, [8]), (18, [2]), (100000, [0, 3]), (100001, [0, 3, 16]), (100002, [0]), (100003, [0, 38, 39, 40]), (200000, [0, 3, 16]), (200001, [0, 3, 16]), (200002, [0, 38, 39, 40]), (200003, [0, 38, 39, 40]), (300000, [2]), (400011, [0]), (400018, [0, 3, 16]), (400033, [0, 3, 16]), (400041, [0, 38, 39, 40])]
def E11 (a23 : T23) (a24 : T24) (a25 : T25) : FEnv := [(23, w23 a23), (24, w24 a24), (25, w25 a25)]
theorem E11_good {a23 : T23} {a24 : T24} {a25 : T25} (oa23 : FunOK Try.prog 23 (w23 a23)) (oa24 : FunOK Try.prog 24 (w24 a24)) (oa25 : FunOK Try.prog 25 (w25 a25)) (la23 : Lin23 a23) (la24 : Lin24 a24) (la25 : Lin25 a25) : EnvGood Try.prog (E11 a23 a24 a25) := ((((EnvGood.nil _).cons oa25 (w25_lin la25)).cons oa24 (w24_lin la24)).cons oa23 (w23_lin la23))
theorem E11_lin {a23 : T23} {a24 : T24} {a25 : T25} (la23 : Lin23 a23) (la24 : Lin24 a24) (la25 : Lin25 a25) : EnvLin (E11 a23 a24 a25) := by
  intro g F h
  simp only [E11, List.mem_cons, List.not_mem_nil, or_false] at h
  rcases h with h | h | h
  · cases h; exact w23_lin la23
  · cases h; exact w24_lin la24
  · cases h; exact w25_lin la25
def lv11 : Nat → Bool := lvOf [4, 7]
noncomputable def b11 : Code := Try.f11.body.getD .skip
noncomputable def c11_0 : Code := (.seq (codeAt [1, 1, 1, 1, 0, 1, 0, 0, 0] b11) (.seq (.cond (.tmp 41) .skip (.exit 2)) (.seq (.block 3 (.seq (codeAt [1, 1, 1, 1, 0, 1, 0, 0, 1, 1, 0, 0, 0] b11) (codeAt [1, 1, 1, 1, 0, 1, 0, 0, 1, 1, 0, 0, 1] b11))) (codeAt [1, 1, 1, 1, 0, 1, 0, 0, 1, 1, 1] b11))))
noncomputable def c11_1 : Code := (.loop c11_0)
noncomputable def c11_2 : Code := (.block 2 c11_1)
noncomputable def c11_3 : Code := (.seq (codeAt [1, 1, 1, 1, 1, 0] b11) (.seq (codeAt [1, 1, 1, 1, 1, 1, 0] b11) (.seq (codeAt [1, 1, 1, 1, 1, 1, 1, 0] b11) (.seq (codeAt [1, 1, 1, 1, 1, 1, 1, 1, 0] b11) .ret))))
noncomputable def c11_4 : Code := (.seq c11_2 c11_3)
noncomputable def c11_5 : Code := (.seq (codeAt [1, 1, 1, 1, 0, 0] b11) c11_4)
noncomputable def g11_p0 (a23 : T23) (a24 : T24) (a25 : T25) (R : Type) (t0 : Option (Nat × Nat)) (t3 : Sl) (H : Heap) (kN : Option (Nat × Nat) → Sl → Int → Int → Heap → Option R) : Option R :=
  kN t0 t3 ((t3.len : Nat) : Int) (0 : Int) H
theorem g11_p0_eq (a23 : T23) (a24 : T24) (a25 : T25) {R : Type} (c2 : Code) (t0 : Option (Nat × Nat)) (t3 : Sl) (H : Heap) (K : Ex → Fr → Heap → Option R) : ev2 Try.prog (E11 a23 a24 a25) loopLim lv11 Try.f11.ntmps kp11 (.seq (codeAt [1, 1, 1, 1, 0, 0] b11) c2) [(0, (V.p t0)), (3, (V.sl t3))] H K = g11_p0 a23 a24 a25 R t0 t3 H (fun t0 t38 t39 t40 H => ev2 Try.prog (E11 a23 a24 a25) loopLim lv11 Try.f11.ntmps kp11 c2 [(0, (V.p t0)), (38, (V.sl t38)), (39, (V.i .i64 t39)), (40, (V.i .i64 t40))] H K) := by kernel_rfl
theorem g11_p0_lin {a23 : T23} {a24 : T24} {a25 : T25} (la23 : Lin23 a23) (la24 : Lin24 a24) (la25 : Lin25 a25) {R S : Type} {k : S → Option R} {t0 : Option (Nat × Nat)} {t3 : Sl} {H : Heap} {fkN : Option (Nat × Nat) → Sl → Int → Int → Heap → Option R} {gkN : Option (Nat × Nat) → Sl → Int → Int → Heap → Option S} (hkN : ∀ t0 t38 t39 t40 H, fkN t0 t38 t39 t40 H = (gkN t0 t38 t39 t40 H).bind k) : g11_p0 a23 a24 a25 R t0 t3 H fkN = (g11_p0 a23 a24 a25 S t0 t3 H gkN).bind k := by
  delta g11_p0; exact (
    hkN _ _ _ _ _)
noncomputable def g11_p1 (a23 : T23) (a24 : T24) (a25 : T25) (R : Type) (t0 : Option (Nat × Nat)) (t38 : Sl) (t39 : Int) (t40 : Int) (H : Heap) (kN : Option (Nat × Nat) → Sl → Int → Int → Heap → Option R) (kE2 : Option (Nat × Nat) → Heap → Option R) : Option R :=
  sel (decide (t40 < t39)) (
    if 0 ≤ t40 ∧ t40 < ((t38.len : Nat) : Int) then (
      (t38.a).bind fun q1 =>
      ((H).ldI .u16 q1.1 ((q1.2 + Int.toNat t40 * 2) + 0)).bind fun x2 =>
      ((H).ldI .u32 q1.1 ((q1.2 + Int.toNat t40 * 2) + 1)).bind fun x3 =>
      a23 R t0 x2 x3 H fun h4 =>
      kN t0 t38 t39 (IntKind.wrap .i64 (t40 + (1 : Int))) h4)
    else (
      none)) (
    kE2 t0 H)
theorem g11_p1_eq (a23 : T23) (a24 : T24) (a25 : T25) (la23 : Lin23 a23) (la24 : Lin24 a24) (la25 : Lin25 a25) {R : Type} (t0 : Option (Nat × Nat)) (t38 : Sl) (t39 : Int) (t40 : Int) (H : Heap) (K : Ex → Fr → Heap → Option R) : ev2 Try.prog (E11 a23 a24 a25) loopLim lv11 Try.f11.ntmps kp11 c11_0 [(0, (V.p t0)), (38, (V.sl t38)), (39, (V.i .i64 t39)), (40, (V.i .i64 t40))] H K = g11_p1 a23 a24 a25 R t0 t38 t39 t40 H (fun t0 t38 t39 t40 H => K .normal [(0, (V.p t0)), (38, (V.sl t38)), (39, (V.i .i64 t39)), (40, (V.i .i64 t40))] H) (fun t0 H => K (.exit 2) [(0, (V.p t0))] H) := by kernel_rfl
theorem g11_p1_lin {a23 : T23} {a24 : T24} {a25 : T25} (la23 : Lin23 a23) (la24 : Lin24 a24) (la25 : Lin25 a25) {R S : Type} {k : S → Option R} {t0 : Option (Nat × Nat)} {t38 : Sl} {t39 : Int} {t40 : Int} {H : Heap} {fkN : Option (Nat × Nat) → Sl → Int → Int → Heap → Option R} {gkN : Option (Nat × Nat) → Sl → Int → Int → Heap → Option S} {fkE2 : Option (Nat × Nat) → Heap → Option R} {gkE2 : Option (Nat × Nat) → Heap → Option S} (hkN : ∀ t0 t38 t39 t40 H, fkN t0 t38 t39 t40 H = (gkN t0 t38 t39 t40 H).bind k) (hkE2 : ∀ t0 H, fkE2 t0 H = (gkE2 t0 H).bind k) : g11_p1 a23 a24 a25 R t0 t38 t39 t40 H fkN fkE2 = (g11_p1 a23 a24 a25 S t0 t38 t39 t40 H gkN gkE2).bind k := by
  delta g11_p1; exact (
    sl_lin (
      il (
        bl fun q1 =>
        bl fun x2 =>
        bl fun x3 =>
        la23.l fun h4 =>
        hkN _ _ _ _ _) (
        rfl)) (
      hkE2 _ _))
abbrev g11_p2_S := (Option (Nat × Nat)) × Sl × Int × Int
abbrev g11_p2_O := (Option (Nat × Nat))
def g11_p2_es (s : g11_p2_S) : Fr := [(0, (V.p s.1)), (38, (V.sl s.2.1)), (39, (V.i .i64 s.2.2.1)), (40, (V.i .i64 s.2.2.2))]
def g11_p2_er (r : g11_p2_O) : Ex × Fr := ((.exit 2), [(0, (V.p r))])
noncomputable def g11_p2_b (a23 : T23) (a24 : T24) (a25 : T25) (s : g11_p2_S) (H : Heap) : Option (Rd g11_p2_S g11_p2_O × Heap) :=
  g11_p1 a23 a24 a25 _ s.1 s.2.1 s.2.2.1 s.2.2.2 H (fun t0 t38 t39 t40 H => some (.go (t0, t38, t39, t40), H)) (fun t0 H => some (.up t0, H))
noncomputable def g11_p2 (a23 : T23) (a24 : T24) (a25 : T25) (R : Type) (t0 : Option (Nat × Nat)) (t38 : Sl) (t39 : Int) (t40 : Int) (H : Heap) (kE2 : Option (Nat × Nat) → Heap → Option R) : Option R :=
  (tlim (g11_p2_b a23 a24 a25) (t0, t38, t39, t40) H).bind fun p => kE2 p.1 p.2
theorem g11_p2_lin {a23 : T23} {a24 : T24} {a25 : T25} (la23 : Lin23 a23) (la24 : Lin24 a24) (la25 : Lin25 a25) {R S : Type} {k : S → Option R} {t0 : Option (Nat × Nat)} {t38 : Sl} {t39 : Int} {t40 : Int} {H : Heap} {fkE2 : Option (Nat × Nat) → Heap → Option R} {gkE2 : Option (Nat × Nat) → Heap → Option S} (hkE2 : ∀ t0 H, fkE2 t0 H = (gkE2 t0 H).bind k) : g11_p2 a23 a24 a25 R t0 t38 t39 t40 H fkE2 = (g11_p2 a23 a24 a25 S t0 t38 t39 t40 H gkE2).bind k := by
  exact bl fun p => hkE2 _ _
theorem g11_p2_eq (a23 : T23) (a24 : T24) (a25 : T25) (la23 : Lin23 a23) (la24 : Lin24 a24) (la25 : Lin25 a25) {R : Type} (t0 : Option (Nat × Nat)) (t38 : Sl) (t39 : Int) (t40 : Int) (H : Heap) (K : Ex → Fr → Heap → Option R) : ev2 Try.prog (E11 a23 a24 a25) loopLim lv11 Try.f11.ntmps kp11 c11_1 [(0, (V.p t0)), (38, (V.sl t38)), (39, (V.i .i64 t39)), (40, (V.i .i64 t40))] H K = g11_p2 a23 a24 a25 R t0 t38 t39 t40 H (fun t0 H => K (.exit 2) [(0, (V.p t0))] H) := by
  show ev2 Try.prog (E11 a23 a24 a25) loopLim lv11 Try.f11.ntmps kp11 (.loop c11_0) [(0, (V.p t0)), (38, (V.sl t38)), (39, (V.i .i64 t39)), (40, (V.i .i64 t40))] H K = _
  delta g11_p2
  refine (ev2_tlim (b := g11_p2_b a23 a24 a25) (es := g11_p2_es) (er := g11_p2_er) (by intro r; exact nofun) (fun s H => ?_) (t0, t38, t39, t40) H K).trans (bc fun p => rfl)
  exact (g11_p1_eq a23 a24 a25 la23 la24 la25 s.1 s.2.1 s.2.2.1 s.2.2.2 H ret3).trans (g11_p1_lin la23 la24 la25 (fun _ _ _ _ _ => rfl) (fun _ _ => rfl))
noncomputable def g11_p3 (a23 : T23) (a24 : T24) (a25 : T25) (R : Type) (t0 : Option (Nat × Nat)) (t38 : Sl) (t39 : Int) (t40 : Int) (H : Heap) (kN : Option (Nat × Nat) → Heap → Option R) : Option R :=
  g11_p2 a23 a24 a25 R t0 t38 t39 t40 H (fun t0 H => kN t0 H)
theorem g11_p3_lin {a23 : T23} {a24 : T24} {a25 : T25} (la23 : Lin23 a23) (la24 : Lin24 a24) (la25 : Lin25 a25) {R S : Type} {k : S → Option R} {t0 : Option (Nat × Nat)} {t38 : Sl} {t39 : Int} {t40 : Int} {H : Heap} {fkN : Option (Nat × Nat) → Heap → Option R} {gkN : Option (Nat × Nat) → Heap → Option S} (hkN : ∀ t0 H, fkN t0 H = (gkN t0 H).bind k) : g11_p3 a23 a24 a25 R t0 t38 t39 t40 H fkN = (g11_p3 a23 a24 a25 S t0 t38 t39 t40 H gkN).bind k := by
  exact g11_p2_lin la23 la24 la25 (fun _ _ => hkN _ _)
theorem g11_p3_eq (a23 : T23) (a24 : T24) (a25 : T25) (la23 : Lin23 a23) (la24 : Lin24 a24) (la25 : Lin25 a25) {R : Type} (t0 : Option (Nat × Nat)) (t38 : Sl) (t39 : Int) (t40 : Int) (H : Heap) (K : Ex → Fr → Heap → Option R) : ev2 Try.prog (E11 a23 a24 a25) loopLim lv11 Try.f11.ntmps kp11 c11_2 [(0, (V.p t0)), (38, (V.sl t38)), (39, (V.i .i64 t39)), (40, (V.i .i64 t40))] H K = g11_p3 a23 a24 a25 R t0 t38 t39 t40 H (fun t0 H => K .normal [(0, (V.p t0))] H) := by
  show ev2 Try.prog (E11 a23 a24 a25) loopLim lv11 Try.f11.ntmps kp11 (.block 2 c11_1) [(0, (V.p t0)), (38, (V.sl t38)), (39, (V.i .i64 t39)), (40, (V.i .i64 t40))] H K = _
  rw [ev2_block]
  delta g11_p3
  exact (g11_p2_eq a23 a24 a25 la23 la24 la25 t0 t38 t39 t40 H (kBlock kp11 2 K))
noncomputable def g11_p4 (a23 : T23) (a24 : T24) (a25 : T25) (R : Type) (t0 : Option (Nat × Nat)) (H : Heap) (kR : Sl → Heap → Option R) : Option R :=
  (t0).bind fun q5 =>
  ((H).ldSl q5.1 (q5.2 + 2)).bind fun x6 =>
  a24 R x6 H fun x7 h8 =>
  (t0).bind fun q9 =>
  ((h8).st q9.1 (q9.2 + 2) (V.sl (Sl.mk none 0 (.ex 0)))).bind fun h11 =>
  a25 R x7 h11 fun h12 =>
  kR x7 h12
theorem g11_p4_eq (a23 : T23) (a24 : T24) (a25 : T25) (la23 : Lin23 a23) (la24 : Lin24 a24) (la25 : Lin25 a25) {R : Type} (t0 : Option (Nat × Nat)) (H : Heap) (K : Ex → Fr → Heap → Option R) : ev2 Try.prog (E11 a23 a24 a25) loopLim lv11 Try.f11.ntmps kp11 c11_3 [(0, (V.p t0))] H K = g11_p4 a23 a24 a25 R t0 H (fun t2 H => K .ret [(2, (V.sl t2))] H) := by kernel_rfl
theorem g11_p4_lin {a23 : T23} {a24 : T24} {a25 : T25} (la23 : Lin23 a23) (la24 : Lin24 a24) (la25 : Lin25 a25) {R S : Type} {k : S → Option R} {t0 : Option (Nat × Nat)} {H : Heap} {fkR : Sl → Heap → Option R} {gkR : Sl → Heap → Option S} (hkR : ∀ t2 H, fkR t2 H = (gkR t2 H).bind k) : g11_p4 a23 a24 a25 R t0 H fkR = (g11_p4 a23 a24 a25 S t0 H gkR).bind k := by
  delta g11_p4; exact (
    bl fun q5 =>
    bl fun x6 =>
    la24.l fun x7 h8 =>
    bl fun q9 =>
    bl fun h11 =>
    la25.l fun h12 =>
    hkR _ _)
noncomputable def g11_p5 (a23 : T23) (a24 : T24) (a25 : T25) (R : Type) (t0 : Option (Nat × Nat)) (t38 : Sl) (t39 : Int) (t40 : Int) (H : Heap) (kR : Sl → Heap → Option R) : Option R :=
  g11_p3 a23 a24 a25 R t0 t38 t39 t40 H (fun t0 H => g11_p4 a23 a24 a25 R t0 H (fun t2 H => kR t2 H))
theorem g11_p5_lin {a23 : T23} {a24 : T24} {a25 : T25} (la23 : Lin23 a23) (la24 : Lin24 a24) (la25 : Lin25 a25) {R S : Type} {k : S → Option R} {t0 : Option (Nat × Nat)} {t38 : Sl} {t39 : Int} {t40 : Int} {H : Heap} {fkR : Sl → Heap → Option R} {gkR : Sl → Heap → Option S} (hkR : ∀ t2 H, fkR t2 H = (gkR t2 H).bind k) : g11_p5 a23 a24 a25 R t0 t38 t39 t40 H fkR = (g11_p5 a23 a24 a25 S t0 t38 t39 t40 H gkR).bind k := by
  exact g11_p3_lin la23 la24 la25 (fun _ _ => g11_p4_lin la23 la24 la25 (fun _ _ => hkR _ _))
theorem g11_p5_eq (a23 : T23) (a24 : T24) (a25 : T25) (la23 : Lin23 a23) (la24 : Lin24 a24) (la25 : Lin25 a25) {R : Type} (t0 : Option (Nat × Nat)) (t38 : Sl) (t39 : Int) (t40 : Int) (H : Heap) (K : Ex → Fr → Heap → Option R) : ev2 Try.prog (E11 a23 a24 a25) loopLim lv11 Try.f11.ntmps kp11 c11_4 [(0, (V.p t0)), (38, (V.sl t38)), (39, (V.i .i64 t39)), (40, (V.i .i64 t40))] H K = g11_p5 a23 a24 a25 R t0 t38 t39 t40 H (fun t2 H => K .ret [(2, (V.sl t2))] H) := by
  show ev2 Try.prog (E11 a23 a24 a25) loopLim lv11 Try.f11.ntmps kp11 (.seq c11_2 c11_3) [(0, (V.p t0)), (38, (V.sl t38)), (39, (V.i .i64 t39)), (40, (V.i .i64 t40))] H K = _
  rw [ev2_seq]
  delta g11_p5
  exact (g11_p3_eq a23 a24 a25 la23 la24 la25 t0 t38 t39 t40 H (kSeq (fun fr H => ev2 Try.prog (E11 a23 a24 a25) loopLim lv11 Try.f11.ntmps kp11 c11_3 fr H K) K)).trans (congrArg (g11_p3 a23 a24 a25 R t0 t38 t39 t40 H) (funext fun t0 => funext fun H => (kSeq_n _ _ _ _).trans (g11_p4_eq a23 a24 a25 la23 la24 la25 t0 H K)))
noncomputable def g11_p6 (a23 : T23) (a24 : T24) (a25 : T25) (R : Type) (t0 : Option (Nat × Nat)) (t3 : Sl) (H : Heap) (kR : Sl → Heap → Option R) : Option R :=
  g11_p0 a23 a24 a25 R t0 t3 H (fun t0 t38 t39 t40 H => g11_p5 a23 a24 a25 R t0 t38 t39 t40 H (fun t2 H => kR t2 H))
theorem g11_p6_lin {a23 : T23} {a24 : T24} {a25 : T25} (la23 : Lin23 a23) (la24 : Lin24 a24) (la25 : Lin25 a25) {R S : Type} {k : S → Option R} {t0 : Option (Nat × Nat)} {t3 : Sl} {H : Heap} {fkR : Sl → Heap → Option R} {gkR : Sl → Heap → Option S} (hkR : ∀ t2 H, fkR t2 H = (gkR t2 H).bind k) : g11_p6 a23 a24 a25 R t0 t3 H fkR = (g11_p6 a23 a24 a25 S t0 t3 H gkR).bind k := by
  exact g11_p0_lin la23 la24 la25 (fun _ _ _ _ _ => g11_p5_lin la23 la24 la25 (fun _ _ => hkR _ _))
theorem g11_p6_eq (a23 : T23) (a24 : T24) (a25 : T25) (la23 : Lin23 a23) (la24 : Lin24 a24) (la25 : Lin25 a25) {R : Type} (t0 : Option (Nat × Nat)) (t3 : Sl) (H : Heap) (K : Ex → Fr → Heap → Option R) : ev2 Try.prog (E11 a23 a24 a25) loopLim lv11 Try.f11.ntmps kp11 c11_5 [(0, (V.p t0)), (3, (V.sl t3))] H K = g11_p6 a23 a24 a25 R t0 t3 H (fun t2 H => K .ret [(2, (V.sl t2))] H) := by
  show ev2 Try.prog (E11 a23 a24 a25) loopLim lv11 Try.f11.ntmps kp11 (.seq (codeAt [1, 1, 1, 1, 0, 0] b11) c11_4) [(0, (V.p t0)), (3, (V.sl t3))] H K = _
  delta g11_p6
  exact (g11_p0_eq a23 a24 a25 _ t0 t3 H K).trans (congrArg (g11_p0 a23 a24 a25 R t0 t3 H) (funext fun t0 => funext fun t38 => funext fun t39 => funext fun t40 => funext fun H => g11_p5_eq a23 a24 a25 la23 la24 la25 t0 t38 t39 t40 H K))
end Go.Proofs.Ytobebcfkddimkaa

