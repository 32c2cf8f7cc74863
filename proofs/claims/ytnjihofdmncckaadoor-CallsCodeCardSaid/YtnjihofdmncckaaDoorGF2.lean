/- Printed: functions as the machine runs them. -/
import Derived.Test.YtnjihofdmncckaaDoorGT
namespace Go.Proofs.YtnjihofdmncckaaDoor
open Go AM Go.RowKit
set_option linter.unusedVariables false
def kp6 : Nat → Option (List Nat) := kpOf [(0, [1]), (1, [1, 9]), (2, [2, 3]), (3, [1, 4]), (4, [1, 4, 21]), (5, [1, 4, 21, 22]), (6, [4, 28, 29, 30]), (7, [4, 28, 29, 30, 31]), (8, [4, 6, 28, 29, 30]), (9, [4, 28, 29, 30]), (10, [4, 28, 29, 30]), (11, [1, 4, 43]), (12, [4]), (13, [2, 3]), (100000, [4]), (100001, [4]), (100002, [4, 28, 29, 30]), (200000, [1, 4, 21]), (200001, [4, 28, 29, 30]), (200002, [4, 28, 29, 30]), (300000, [2, 3]), (400009, [1]), (400022, [4]), (400031, [4, 28, 29, 30]), (400043, [4])]
def E6 (a19 : T19) (a20 : T20) : FEnv := [(19, w19 a19), (20, w20 a20)]
theorem E6_good {a19 : T19} {a20 : T20} (oa19 : FunOK Tryd.prog 19 (w19 a19)) (oa20 : FunOK Tryd.prog 20 (w20 a20)) (la19 : Lin19 a19) (la20 : Lin20 a20) : EnvGood Tryd.prog (E6 a19 a20) := (((EnvGood.nil _).cons oa20 (w20_lin la20)).cons oa19 (w19_lin la19))
theorem E6_lin {a19 : T19} {a20 : T20} (la19 : Lin19 a19) (la20 : Lin20 a20) : EnvLin (E6 a19 a20) := by
  intro g F h
  simp only [E6, List.mem_cons, List.not_mem_nil, or_false] at h
  rcases h with h | h
  · cases h; exact w19_lin la19
  · cases h; exact w20_lin la20
noncomputable def b6 : Code := Tryd.f6.body.getD .skip
noncomputable def c6_0 : Code := (.seq (codeAt [1, 1, 1, 0, 1, 0, 1, 0, 1, 0, 0, 0] b6) (.seq (.cond (.tmp 31) .skip (.exit 1)) (.seq (.block 2 (.seq (codeAt [1, 1, 1, 0, 1, 0, 1, 0, 1, 0, 0, 1, 1, 0, 0, 0] b6) (codeAt [1, 1, 1, 0, 1, 0, 1, 0, 1, 0, 0, 1, 1, 0, 0, 1] b6))) (codeAt [1, 1, 1, 0, 1, 0, 1, 0, 1, 0, 0, 1, 1, 1] b6))))
noncomputable def c6_1 : Code := (.loop c6_0)
noncomputable def c6_2 : Code := (.block 1 c6_1)
noncomputable def c6_3 : Code := (.seq (codeAt [1, 1, 1, 0, 1, 0, 1, 0, 0] b6) c6_2)
noncomputable def c6_4 : Code := (.seq (codeAt [1, 1, 1, 0, 1, 0, 1, 1, 0] b6) (.cond (.tmp 43) (codeAt [1, 1, 1, 0, 1, 0, 1, 1, 1, 0] b6) .skip))
noncomputable def c6_5 : Code := (.cond (.tmp 22) c6_3 c6_4)
noncomputable def c6_6 : Code := (.seq (codeAt [1, 1, 1, 0, 1, 0, 0] b6) c6_5)
noncomputable def c6_7 : Code := (.block 0 c6_6)
noncomputable def c6_8 : Code := (.seq (codeAt [1, 1, 1, 1, 0] b6) .ret)
noncomputable def c6_9 : Code := (.seq c6_7 c6_8)
noncomputable def c6_10 : Code := (.seq (codeAt [0] b6) (.seq (codeAt [1, 0, 0] b6) (.seq (.cond (.tmp 9) (.seq (codeAt [1, 0, 1, 0, 0] b6) .ret) .skip) (.seq (codeAt [1, 1, 0] b6) (.seq (codeAt [1, 1, 1, 0, 0] b6) c6_9)))))
noncomputable def g6_p0 (a19 : T19) (a20 : T20) (R : Type) (t0_0 : Int) (t0_1 : Int) (t0_2 : ByteArray) (t0_3 : ByteArray) (t0_4 : Int) (H : Heap) (kN : Nat → Nat → Sl → Int → Heap → Option R) (kR : Sl → Int → Heap → Option R) : Option R :=
  alo H (.cells [(V.i .u8 t0_0), (V.i .i64 t0_1), (V.s t0_2), (V.s t0_3), (V.i .u8 t0_4)] 24 false) fun i35 h36 =>
  ((h36).ldI .u8 i35 (0 + 0)).bind fun x37 =>
  ((h36).ldI .i64 i35 (0 + 1)).bind fun x38 =>
  ((h36).ldS i35 (0 + 2)).bind fun x39 =>
  ((h36).ldS i35 (0 + 3)).bind fun x40 =>
  ((h36).ldI .u8 i35 (0 + 4)).bind fun x41 =>
  a19 R x37 x38 x39 x40 x41 h36 fun x42 h43 =>
  sel (!x42) (
    kR (Sl.mk none 0 (.ex 0)) (1 : Int) h43) (
    ((h43).ldI .u8 i35 (0 + 0)).bind fun x44 =>
    ((h43).ldI .i64 i35 (0 + 1)).bind fun x45 =>
    ((h43).ldI .i64 i35 (0 + 1)).bind fun x46 =>
    alo h43 (.cells [(V.i .u8 x44), (V.i .u8 (IntKind.wrap .u8 x45)), (V.i .u8 (IntKind.wrap .u8 (shrI .i64 x46 (8 : Int))))] 5 false) fun i47 h48 =>
    ((h48).ldI .u8 i35 (0 + 0)).bind fun x49 =>
    kN i35 0 (Sl.mk (some (i47, 0)) 3 (.ex 3)) x49 h48)
theorem g6_p0_eq (a19 : T19) (a20 : T20) {R : Type} (c2 : Code) (t0_0 : Int) (t0_1 : Int) (t0_2 : ByteArray) (t0_3 : ByteArray) (t0_4 : Int) (H : Heap) (K : Ex → Fr → Heap → Option R) : ev Tryd.prog (E6 a19 a20) loopLim Tryd.f6.ntmps kp6 (.seq (codeAt [0] b6) (.seq (codeAt [1, 0, 0] b6) (.seq (.cond (.tmp 9) (.seq (codeAt [1, 0, 1, 0, 0] b6) .ret) .skip) (.seq (codeAt [1, 1, 0] b6) (.seq (codeAt [1, 1, 1, 0, 0] b6) c2))))) [(0, (V.agg [(V.i .u8 t0_0), (V.i .i64 t0_1), (V.s t0_2), (V.s t0_3), (V.i .u8 t0_4)]))] H K = g6_p0 a19 a20 R t0_0 t0_1 t0_2 t0_3 t0_4 H (fun t1_0 t1_1 t4 t21 H => ev Tryd.prog (E6 a19 a20) loopLim Tryd.f6.ntmps kp6 c2 [(1, (V.p (some (t1_0, t1_1)))), (4, (V.sl t4)), (21, (V.i .u8 t21))] H K) (fun t2 t3 H => K .ret [(2, (V.sl t2)), (3, (V.i .i64 t3))] H) := by kernel_rfl
theorem g6_p0_lin {a19 : T19} {a20 : T20} (la19 : Lin19 a19) (la20 : Lin20 a20) {R S : Type} {k : S → Option R} {t0_0 : Int} {t0_1 : Int} {t0_2 : ByteArray} {t0_3 : ByteArray} {t0_4 : Int} {H : Heap} {fkN : Nat → Nat → Sl → Int → Heap → Option R} {gkN : Nat → Nat → Sl → Int → Heap → Option S} {fkR : Sl → Int → Heap → Option R} {gkR : Sl → Int → Heap → Option S} (hkN : ∀ t1_0 t1_1 t4 t21 H, fkN t1_0 t1_1 t4 t21 H = (gkN t1_0 t1_1 t4 t21 H).bind k) (hkR : ∀ t2 t3 H, fkR t2 t3 H = (gkR t2 t3 H).bind k) : g6_p0 a19 a20 R t0_0 t0_1 t0_2 t0_3 t0_4 H fkN fkR = (g6_p0 a19 a20 S t0_0 t0_1 t0_2 t0_3 t0_4 H gkN gkR).bind k := by
  delta g6_p0; exact (
    alo_lin fun i35 h36 =>
    bl fun x37 =>
    bl fun x38 =>
    bl fun x39 =>
    bl fun x40 =>
    bl fun x41 =>
    la19.l fun x42 h43 =>
    sl_lin (
      hkR _ _ _) (
      bl fun x44 =>
      bl fun x45 =>
      bl fun x46 =>
      alo_lin fun i47 h48 =>
      bl fun x49 =>
      hkN _ _ _ _ _))
noncomputable def g6_p1 (a19 : T19) (a20 : T20) (R : Type) (t1_0 : Nat) (t1_1 : Nat) (t4 : Sl) (t21 : Int) (H : Heap) (kN : Nat → Nat → Sl → Int → Bool → Heap → Option R) : Option R :=
  kN t1_0 t1_1 t4 t21 (t21 == (1 : Int)) H
theorem g6_p1_eq (a19 : T19) (a20 : T20) {R : Type} (c2 : Code) (t1_0 : Nat) (t1_1 : Nat) (t4 : Sl) (t21 : Int) (H : Heap) (K : Ex → Fr → Heap → Option R) : ev Tryd.prog (E6 a19 a20) loopLim Tryd.f6.ntmps kp6 (.seq (codeAt [1, 1, 1, 0, 1, 0, 0] b6) c2) [(1, (V.p (some (t1_0, t1_1)))), (4, (V.sl t4)), (21, (V.i .u8 t21))] H K = g6_p1 a19 a20 R t1_0 t1_1 t4 t21 H (fun t1_0 t1_1 t4 t21 t22 H => ev Tryd.prog (E6 a19 a20) loopLim Tryd.f6.ntmps kp6 c2 [(1, (V.p (some (t1_0, t1_1)))), (4, (V.sl t4)), (21, (V.i .u8 t21)), (22, (V.b t22))] H K) := by kernel_rfl
theorem g6_p1_lin {a19 : T19} {a20 : T20} (la19 : Lin19 a19) (la20 : Lin20 a20) {R S : Type} {k : S → Option R} {t1_0 : Nat} {t1_1 : Nat} {t4 : Sl} {t21 : Int} {H : Heap} {fkN : Nat → Nat → Sl → Int → Bool → Heap → Option R} {gkN : Nat → Nat → Sl → Int → Bool → Heap → Option S} (hkN : ∀ t1_0 t1_1 t4 t21 t22 H, fkN t1_0 t1_1 t4 t21 t22 H = (gkN t1_0 t1_1 t4 t21 t22 H).bind k) : g6_p1 a19 a20 R t1_0 t1_1 t4 t21 H fkN = (g6_p1 a19 a20 S t1_0 t1_1 t4 t21 H gkN).bind k := by
  delta g6_p1; exact (
    hkN _ _ _ _ _ _)
noncomputable def g6_p2 (a19 : T19) (a20 : T20) (R : Type) (t1_0 : Nat) (t1_1 : Nat) (t4 : Sl) (t21 : Int) (t22 : Bool) (H : Heap) (kN : Sl → Sl → Int → Int → Heap → Option R) : Option R :=
  ((H).ldS t1_0 (t1_1 + 2)).bind fun x50 =>
  ((H).ldS t1_0 (t1_1 + 3)).bind fun x51 =>
  alo H (.cells [(V.s x50), (V.s x51)] 9 false) fun i52 h53 =>
  kN t4 (Sl.mk (some (i52, 0)) 2 (.ex 2)) (((Sl.mk (some (i52, 0)) 2 (.ex 2)).len : Nat) : Int) (0 : Int) h53
theorem g6_p2_eq (a19 : T19) (a20 : T20) {R : Type} (c2 : Code) (t1_0 : Nat) (t1_1 : Nat) (t4 : Sl) (t21 : Int) (t22 : Bool) (H : Heap) (K : Ex → Fr → Heap → Option R) : ev Tryd.prog (E6 a19 a20) loopLim Tryd.f6.ntmps kp6 (.seq (codeAt [1, 1, 1, 0, 1, 0, 1, 0, 0] b6) c2) [(1, (V.p (some (t1_0, t1_1)))), (4, (V.sl t4)), (21, (V.i .u8 t21)), (22, (V.b t22))] H K = g6_p2 a19 a20 R t1_0 t1_1 t4 t21 t22 H (fun t4 t28 t29 t30 H => ev Tryd.prog (E6 a19 a20) loopLim Tryd.f6.ntmps kp6 c2 [(4, (V.sl t4)), (28, (V.sl t28)), (29, (V.i .i64 t29)), (30, (V.i .i64 t30))] H K) := by kernel_rfl
theorem g6_p2_lin {a19 : T19} {a20 : T20} (la19 : Lin19 a19) (la20 : Lin20 a20) {R S : Type} {k : S → Option R} {t1_0 : Nat} {t1_1 : Nat} {t4 : Sl} {t21 : Int} {t22 : Bool} {H : Heap} {fkN : Sl → Sl → Int → Int → Heap → Option R} {gkN : Sl → Sl → Int → Int → Heap → Option S} (hkN : ∀ t4 t28 t29 t30 H, fkN t4 t28 t29 t30 H = (gkN t4 t28 t29 t30 H).bind k) : g6_p2 a19 a20 R t1_0 t1_1 t4 t21 t22 H fkN = (g6_p2 a19 a20 S t1_0 t1_1 t4 t21 t22 H gkN).bind k := by
  delta g6_p2; exact (
    bl fun x50 =>
    bl fun x51 =>
    alo_lin fun i52 h53 =>
    hkN _ _ _ _ _)
noncomputable def g6_p3 (a19 : T19) (a20 : T20) (R : Type) (t4 : Sl) (t28 : Sl) (t29 : Int) (t30 : Int) (H : Heap) (kN : Sl → Sl → Int → Int → Heap → Option R) (kE1 : Sl → Heap → Option R) : Option R :=
  sel (decide (t30 < t29)) (
    if 0 ≤ t30 ∧ t30 < ((t28.len : Nat) : Int) then (
      (t28.a).bind fun q54 =>
      ((H).ldS q54.1 (q54.2 + Int.toNat t30 * 1)).bind fun x55 =>
      alo H (.cells [(V.i .u8 (IntKind.wrap .u8 ((x55.size : Nat) : Int)))] 5 false) fun i56 h57 =>
      ((slCells h57 1 (Sl.mk (some (i56, 0)) 1 (.ex 1)))).bind fun vs60 =>
      appendV h57 5 1 1 t4 (Sl.mk (some (i56, 0)) 1 (.ex 1)).len vs60 fun s58 h59 =>
      appendV h59 5 1 1 s58 x55.size (cellsOfBytes x55) fun s61 h62 =>
      kN s61 t28 t29 (IntKind.wrap .i64 (t30 + (1 : Int))) h62)
    else (
      none)) (
    kE1 t4 H)
theorem g6_p3_eq (a19 : T19) (a20 : T20) (la19 : Lin19 a19) (la20 : Lin20 a20) {R : Type} (t4 : Sl) (t28 : Sl) (t29 : Int) (t30 : Int) (H : Heap) (K : Ex → Fr → Heap → Option R) : ev Tryd.prog (E6 a19 a20) loopLim Tryd.f6.ntmps kp6 c6_0 [(4, (V.sl t4)), (28, (V.sl t28)), (29, (V.i .i64 t29)), (30, (V.i .i64 t30))] H K = g6_p3 a19 a20 R t4 t28 t29 t30 H (fun t4 t28 t29 t30 H => K .normal [(4, (V.sl t4)), (28, (V.sl t28)), (29, (V.i .i64 t29)), (30, (V.i .i64 t30))] H) (fun t4 H => K (.exit 1) [(4, (V.sl t4))] H) := by kernel_rfl
theorem g6_p3_lin {a19 : T19} {a20 : T20} (la19 : Lin19 a19) (la20 : Lin20 a20) {R S : Type} {k : S → Option R} {t4 : Sl} {t28 : Sl} {t29 : Int} {t30 : Int} {H : Heap} {fkN : Sl → Sl → Int → Int → Heap → Option R} {gkN : Sl → Sl → Int → Int → Heap → Option S} {fkE1 : Sl → Heap → Option R} {gkE1 : Sl → Heap → Option S} (hkN : ∀ t4 t28 t29 t30 H, fkN t4 t28 t29 t30 H = (gkN t4 t28 t29 t30 H).bind k) (hkE1 : ∀ t4 H, fkE1 t4 H = (gkE1 t4 H).bind k) : g6_p3 a19 a20 R t4 t28 t29 t30 H fkN fkE1 = (g6_p3 a19 a20 S t4 t28 t29 t30 H gkN gkE1).bind k := by
  delta g6_p3; exact (
    sl_lin (
      il (
        bl fun q54 =>
        bl fun x55 =>
        alo_lin fun i56 h57 =>
        bl fun vs60 =>
        appendV_lin fun s58 h59 =>
        appendV_lin fun s61 h62 =>
        hkN _ _ _ _ _) (
        rfl)) (
      hkE1 _ _))
abbrev g6_p4_S := Sl × Sl × Int × Int
abbrev g6_p4_O := Sl
def g6_p4_es (s : g6_p4_S) : Fr := [(4, (V.sl s.1)), (28, (V.sl s.2.1)), (29, (V.i .i64 s.2.2.1)), (30, (V.i .i64 s.2.2.2))]
def g6_p4_er (r : g6_p4_O) : Ex × Fr := ((.exit 1), [(4, (V.sl r))])
noncomputable def g6_p4_b (a19 : T19) (a20 : T20) (s : g6_p4_S) (H : Heap) : Option (Rd g6_p4_S g6_p4_O × Heap) :=
  g6_p3 a19 a20 _ s.1 s.2.1 s.2.2.1 s.2.2.2 H (fun t4 t28 t29 t30 H => some (.go (t4, t28, t29, t30), H)) (fun t4 H => some (.up t4, H))
noncomputable def g6_p4 (a19 : T19) (a20 : T20) (R : Type) (t4 : Sl) (t28 : Sl) (t29 : Int) (t30 : Int) (H : Heap) (kE1 : Sl → Heap → Option R) : Option R :=
  (tlim (g6_p4_b a19 a20) (t4, t28, t29, t30) H).bind fun p => kE1 p.1 p.2
theorem g6_p4_lin {a19 : T19} {a20 : T20} (la19 : Lin19 a19) (la20 : Lin20 a20) {R S : Type} {k : S → Option R} {t4 : Sl} {t28 : Sl} {t29 : Int} {t30 : Int} {H : Heap} {fkE1 : Sl → Heap → Option R} {gkE1 : Sl → Heap → Option S} (hkE1 : ∀ t4 H, fkE1 t4 H = (gkE1 t4 H).bind k) : g6_p4 a19 a20 R t4 t28 t29 t30 H fkE1 = (g6_p4 a19 a20 S t4 t28 t29 t30 H gkE1).bind k := by
  exact bl fun p => hkE1 _ _
theorem g6_p4_eq (a19 : T19) (a20 : T20) (la19 : Lin19 a19) (la20 : Lin20 a20) {R : Type} (t4 : Sl) (t28 : Sl) (t29 : Int) (t30 : Int) (H : Heap) (K : Ex → Fr → Heap → Option R) : ev Tryd.prog (E6 a19 a20) loopLim Tryd.f6.ntmps kp6 c6_1 [(4, (V.sl t4)), (28, (V.sl t28)), (29, (V.i .i64 t29)), (30, (V.i .i64 t30))] H K = g6_p4 a19 a20 R t4 t28 t29 t30 H (fun t4 H => K (.exit 1) [(4, (V.sl t4))] H) := by
  show ev Tryd.prog (E6 a19 a20) loopLim Tryd.f6.ntmps kp6 (.loop c6_0) [(4, (V.sl t4)), (28, (V.sl t28)), (29, (V.i .i64 t29)), (30, (V.i .i64 t30))] H K = _
  delta g6_p4
  refine (ev_tlim (b := g6_p4_b a19 a20) (es := g6_p4_es) (er := g6_p4_er) (by intro r; exact nofun) (fun s H => ?_) (t4, t28, t29, t30) H K).trans (bc fun p => rfl)
  exact (g6_p3_eq a19 a20 la19 la20 s.1 s.2.1 s.2.2.1 s.2.2.2 H ret3).trans (g6_p3_lin la19 la20 (fun _ _ _ _ _ => rfl) (fun _ _ => rfl))
noncomputable def g6_p5 (a19 : T19) (a20 : T20) (R : Type) (t4 : Sl) (t28 : Sl) (t29 : Int) (t30 : Int) (H : Heap) (kN : Sl → Heap → Option R) : Option R :=
  g6_p4 a19 a20 R t4 t28 t29 t30 H (fun t4 H => kN t4 H)
theorem g6_p5_lin {a19 : T19} {a20 : T20} (la19 : Lin19 a19) (la20 : Lin20 a20) {R S : Type} {k : S → Option R} {t4 : Sl} {t28 : Sl} {t29 : Int} {t30 : Int} {H : Heap} {fkN : Sl → Heap → Option R} {gkN : Sl → Heap → Option S} (hkN : ∀ t4 H, fkN t4 H = (gkN t4 H).bind k) : g6_p5 a19 a20 R t4 t28 t29 t30 H fkN = (g6_p5 a19 a20 S t4 t28 t29 t30 H gkN).bind k := by
  exact g6_p4_lin la19 la20 (fun _ _ => hkN _ _)
theorem g6_p5_eq (a19 : T19) (a20 : T20) (la19 : Lin19 a19) (la20 : Lin20 a20) {R : Type} (t4 : Sl) (t28 : Sl) (t29 : Int) (t30 : Int) (H : Heap) (K : Ex → Fr → Heap → Option R) : ev Tryd.prog (E6 a19 a20) loopLim Tryd.f6.ntmps kp6 c6_2 [(4, (V.sl t4)), (28, (V.sl t28)), (29, (V.i .i64 t29)), (30, (V.i .i64 t30))] H K = g6_p5 a19 a20 R t4 t28 t29 t30 H (fun t4 H => K .normal [(4, (V.sl t4))] H) := by
  show ev Tryd.prog (E6 a19 a20) loopLim Tryd.f6.ntmps kp6 (.block 1 c6_1) [(4, (V.sl t4)), (28, (V.sl t28)), (29, (V.i .i64 t29)), (30, (V.i .i64 t30))] H K = _
  rw [ev_block]
  delta g6_p5
  exact (g6_p4_eq a19 a20 la19 la20 t4 t28 t29 t30 H (kBlock kp6 1 K))
noncomputable def g6_p6 (a19 : T19) (a20 : T20) (R : Type) (t1_0 : Nat) (t1_1 : Nat) (t4 : Sl) (t21 : Int) (t22 : Bool) (H : Heap) (kN : Sl → Heap → Option R) : Option R :=
  g6_p2 a19 a20 R t1_0 t1_1 t4 t21 t22 H (fun t4 t28 t29 t30 H => g6_p5 a19 a20 R t4 t28 t29 t30 H (fun t4 H => kN t4 H))
theorem g6_p6_lin {a19 : T19} {a20 : T20} (la19 : Lin19 a19) (la20 : Lin20 a20) {R S : Type} {k : S → Option R} {t1_0 : Nat} {t1_1 : Nat} {t4 : Sl} {t21 : Int} {t22 : Bool} {H : Heap} {fkN : Sl → Heap → Option R} {gkN : Sl → Heap → Option S} (hkN : ∀ t4 H, fkN t4 H = (gkN t4 H).bind k) : g6_p6 a19 a20 R t1_0 t1_1 t4 t21 t22 H fkN = (g6_p6 a19 a20 S t1_0 t1_1 t4 t21 t22 H gkN).bind k := by
  exact g6_p2_lin la19 la20 (fun _ _ _ _ _ => g6_p5_lin la19 la20 (fun _ _ => hkN _ _))
theorem g6_p6_eq (a19 : T19) (a20 : T20) (la19 : Lin19 a19) (la20 : Lin20 a20) {R : Type} (t1_0 : Nat) (t1_1 : Nat) (t4 : Sl) (t21 : Int) (t22 : Bool) (H : Heap) (K : Ex → Fr → Heap → Option R) : ev Tryd.prog (E6 a19 a20) loopLim Tryd.f6.ntmps kp6 c6_3 [(1, (V.p (some (t1_0, t1_1)))), (4, (V.sl t4)), (21, (V.i .u8 t21)), (22, (V.b t22))] H K = g6_p6 a19 a20 R t1_0 t1_1 t4 t21 t22 H (fun t4 H => K .normal [(4, (V.sl t4))] H) := by
  show ev Tryd.prog (E6 a19 a20) loopLim Tryd.f6.ntmps kp6 (.seq (codeAt [1, 1, 1, 0, 1, 0, 1, 0, 0] b6) c6_2) [(1, (V.p (some (t1_0, t1_1)))), (4, (V.sl t4)), (21, (V.i .u8 t21)), (22, (V.b t22))] H K = _
  delta g6_p6
  exact (g6_p2_eq a19 a20 _ t1_0 t1_1 t4 t21 t22 H K).trans (congrArg (g6_p2 a19 a20 R t1_0 t1_1 t4 t21 t22 H) (funext fun t4 => funext fun t28 => funext fun t29 => funext fun t30 => funext fun H => g6_p5_eq a19 a20 la19 la20 t4 t28 t29 t30 H K))
noncomputable def g6_p7 (a19 : T19) (a20 : T20) (R : Type) (t1_0 : Nat) (t1_1 : Nat) (t4 : Sl) (t21 : Int) (t22 : Bool) (H : Heap) (kN : Sl → Heap → Option R) : Option R :=
  sel (t21 == (4 : Int)) (
    ((H).ldI .u8 t1_0 (t1_1 + 4)).bind fun x63 =>
    alo H (.cells [(V.i .u8 x63)] 5 false) fun i64 h65 =>
    ((slCells h65 1 (Sl.mk (some (i64, 0)) 1 (.ex 1)))).bind fun vs68 =>
    appendV h65 5 1 1 t4 (Sl.mk (some (i64, 0)) 1 (.ex 1)).len vs68 fun s66 h67 =>
    kN s66 h67) (
    kN t4 H)
theorem g6_p7_eq (a19 : T19) (a20 : T20) (la19 : Lin19 a19) (la20 : Lin20 a20) {R : Type} (t1_0 : Nat) (t1_1 : Nat) (t4 : Sl) (t21 : Int) (t22 : Bool) (H : Heap) (K : Ex → Fr → Heap → Option R) : ev Tryd.prog (E6 a19 a20) loopLim Tryd.f6.ntmps kp6 c6_4 [(1, (V.p (some (t1_0, t1_1)))), (4, (V.sl t4)), (21, (V.i .u8 t21)), (22, (V.b t22))] H K = g6_p7 a19 a20 R t1_0 t1_1 t4 t21 t22 H (fun t4 H => K .normal [(4, (V.sl t4))] H) := by kernel_rfl
theorem g6_p7_lin {a19 : T19} {a20 : T20} (la19 : Lin19 a19) (la20 : Lin20 a20) {R S : Type} {k : S → Option R} {t1_0 : Nat} {t1_1 : Nat} {t4 : Sl} {t21 : Int} {t22 : Bool} {H : Heap} {fkN : Sl → Heap → Option R} {gkN : Sl → Heap → Option S} (hkN : ∀ t4 H, fkN t4 H = (gkN t4 H).bind k) : g6_p7 a19 a20 R t1_0 t1_1 t4 t21 t22 H fkN = (g6_p7 a19 a20 S t1_0 t1_1 t4 t21 t22 H gkN).bind k := by
  delta g6_p7; exact (
    sl_lin (
      bl fun x63 =>
      alo_lin fun i64 h65 =>
      bl fun vs68 =>
      appendV_lin fun s66 h67 =>
      hkN _ _) (
      hkN _ _))
noncomputable def g6_p8 (a19 : T19) (a20 : T20) (R : Type) (t1_0 : Nat) (t1_1 : Nat) (t4 : Sl) (t21 : Int) (t22 : Bool) (H : Heap) (kN : Sl → Heap → Option R) : Option R :=
  sel t22 (g6_p6 a19 a20 R t1_0 t1_1 t4 t21 t22 H (fun t4 H => kN t4 H)) (g6_p7 a19 a20 R t1_0 t1_1 t4 t21 t22 H (fun t4 H => kN t4 H))
theorem g6_p8_lin {a19 : T19} {a20 : T20} (la19 : Lin19 a19) (la20 : Lin20 a20) {R S : Type} {k : S → Option R} {t1_0 : Nat} {t1_1 : Nat} {t4 : Sl} {t21 : Int} {t22 : Bool} {H : Heap} {fkN : Sl → Heap → Option R} {gkN : Sl → Heap → Option S} (hkN : ∀ t4 H, fkN t4 H = (gkN t4 H).bind k) : g6_p8 a19 a20 R t1_0 t1_1 t4 t21 t22 H fkN = (g6_p8 a19 a20 S t1_0 t1_1 t4 t21 t22 H gkN).bind k := by
  exact sl_lin (g6_p6_lin la19 la20 (fun _ _ => hkN _ _)) (g6_p7_lin la19 la20 (fun _ _ => hkN _ _))
theorem g6_p8_eq (a19 : T19) (a20 : T20) (la19 : Lin19 a19) (la20 : Lin20 a20) {R : Type} (t1_0 : Nat) (t1_1 : Nat) (t4 : Sl) (t21 : Int) (t22 : Bool) (H : Heap) (K : Ex → Fr → Heap → Option R) : ev Tryd.prog (E6 a19 a20) loopLim Tryd.f6.ntmps kp6 c6_5 [(1, (V.p (some (t1_0, t1_1)))), (4, (V.sl t4)), (21, (V.i .u8 t21)), (22, (V.b t22))] H K = g6_p8 a19 a20 R t1_0 t1_1 t4 t21 t22 H (fun t4 H => K .normal [(4, (V.sl t4))] H) := by
  show ev Tryd.prog (E6 a19 a20) loopLim Tryd.f6.ntmps kp6 (.cond (.tmp 22) c6_3 c6_4) [(1, (V.p (some (t1_0, t1_1)))), (4, (V.sl t4)), (21, (V.i .u8 t21)), (22, (V.b t22))] H K = _
  rw [ev_cond _ _ _ _ _ _ t22 rfl]
  delta g6_p8
  exact sc (g6_p6_eq a19 a20 la19 la20 t1_0 t1_1 t4 t21 t22 H (kEnd kp6 (condId (.tmp 22)) K)) (g6_p7_eq a19 a20 la19 la20 t1_0 t1_1 t4 t21 t22 H (kEnd kp6 (condId (.tmp 22)) K))
noncomputable def g6_p9 (a19 : T19) (a20 : T20) (R : Type) (t1_0 : Nat) (t1_1 : Nat) (t4 : Sl) (t21 : Int) (H : Heap) (kN : Sl → Heap → Option R) : Option R :=
  g6_p1 a19 a20 R t1_0 t1_1 t4 t21 H (fun t1_0 t1_1 t4 t21 t22 H => g6_p8 a19 a20 R t1_0 t1_1 t4 t21 t22 H (fun t4 H => kN t4 H))
theorem g6_p9_lin {a19 : T19} {a20 : T20} (la19 : Lin19 a19) (la20 : Lin20 a20) {R S : Type} {k : S → Option R} {t1_0 : Nat} {t1_1 : Nat} {t4 : Sl} {t21 : Int} {H : Heap} {fkN : Sl → Heap → Option R} {gkN : Sl → Heap → Option S} (hkN : ∀ t4 H, fkN t4 H = (gkN t4 H).bind k) : g6_p9 a19 a20 R t1_0 t1_1 t4 t21 H fkN = (g6_p9 a19 a20 S t1_0 t1_1 t4 t21 H gkN).bind k := by
  exact g6_p1_lin la19 la20 (fun _ _ _ _ _ _ => g6_p8_lin la19 la20 (fun _ _ => hkN _ _))
theorem g6_p9_eq (a19 : T19) (a20 : T20) (la19 : Lin19 a19) (la20 : Lin20 a20) {R : Type} (t1_0 : Nat) (t1_1 : Nat) (t4 : Sl) (t21 : Int) (H : Heap) (K : Ex → Fr → Heap → Option R) : ev Tryd.prog (E6 a19 a20) loopLim Tryd.f6.ntmps kp6 c6_6 [(1, (V.p (some (t1_0, t1_1)))), (4, (V.sl t4)), (21, (V.i .u8 t21))] H K = g6_p9 a19 a20 R t1_0 t1_1 t4 t21 H (fun t4 H => K .normal [(4, (V.sl t4))] H) := by
  show ev Tryd.prog (E6 a19 a20) loopLim Tryd.f6.ntmps kp6 (.seq (codeAt [1, 1, 1, 0, 1, 0, 0] b6) c6_5) [(1, (V.p (some (t1_0, t1_1)))), (4, (V.sl t4)), (21, (V.i .u8 t21))] H K = _
  delta g6_p9
  exact (g6_p1_eq a19 a20 _ t1_0 t1_1 t4 t21 H K).trans (congrArg (g6_p1 a19 a20 R t1_0 t1_1 t4 t21 H) (funext fun t1_0 => funext fun t1_1 => funext fun t4 => funext fun t21 => funext fun t22 => funext fun H => g6_p8_eq a19 a20 la19 la20 t1_0 t1_1 t4 t21 t22 H K))
noncomputable def g6_p10 (a19 : T19) (a20 : T20) (R : Type) (t1_0 : Nat) (t1_1 : Nat) (t4 : Sl) (t21 : Int) (H : Heap) (kN : Sl → Heap → Option R) : Option R :=
  g6_p9 a19 a20 R t1_0 t1_1 t4 t21 H (fun t4 H => kN t4 H)
theorem g6_p10_lin {a19 : T19} {a20 : T20} (la19 : Lin19 a19) (la20 : Lin20 a20) {R S : Type} {k : S → Option R} {t1_0 : Nat} {t1_1 : Nat} {t4 : Sl} {t21 : Int} {H : Heap} {fkN : Sl → Heap → Option R} {gkN : Sl → Heap → Option S} (hkN : ∀ t4 H, fkN t4 H = (gkN t4 H).bind k) : g6_p10 a19 a20 R t1_0 t1_1 t4 t21 H fkN = (g6_p10 a19 a20 S t1_0 t1_1 t4 t21 H gkN).bind k := by
  exact g6_p9_lin la19 la20 (fun _ _ => hkN _ _)
theorem g6_p10_eq (a19 : T19) (a20 : T20) (la19 : Lin19 a19) (la20 : Lin20 a20) {R : Type} (t1_0 : Nat) (t1_1 : Nat) (t4 : Sl) (t21 : Int) (H : Heap) (K : Ex → Fr → Heap → Option R) : ev Tryd.prog (E6 a19 a20) loopLim Tryd.f6.ntmps kp6 c6_7 [(1, (V.p (some (t1_0, t1_1)))), (4, (V.sl t4)), (21, (V.i .u8 t21))] H K = g6_p10 a19 a20 R t1_0 t1_1 t4 t21 H (fun t4 H => K .normal [(4, (V.sl t4))] H) := by
  show ev Tryd.prog (E6 a19 a20) loopLim Tryd.f6.ntmps kp6 (.block 0 c6_6) [(1, (V.p (some (t1_0, t1_1)))), (4, (V.sl t4)), (21, (V.i .u8 t21))] H K = _
  rw [ev_block]
  delta g6_p10
  exact (g6_p9_eq a19 a20 la19 la20 t1_0 t1_1 t4 t21 H (kBlock kp6 0 K))
noncomputable def g6_p11 (a19 : T19) (a20 : T20) (R : Type) (t4 : Sl) (H : Heap) (kR : Sl → Int → Heap → Option R) : Option R :=
  a20 R t4 H fun x69 h70 =>
  kR x69 (0 : Int) h70
theorem g6_p11_eq (a19 : T19) (a20 : T20) (la19 : Lin19 a19) (la20 : Lin20 a20) {R : Type} (t4 : Sl) (H : Heap) (K : Ex → Fr → Heap → Option R) : ev Tryd.prog (E6 a19 a20) loopLim Tryd.f6.ntmps kp6 c6_8 [(4, (V.sl t4))] H K = g6_p11 a19 a20 R t4 H (fun t2 t3 H => K .ret [(2, (V.sl t2)), (3, (V.i .i64 t3))] H) := by kernel_rfl
theorem g6_p11_lin {a19 : T19} {a20 : T20} (la19 : Lin19 a19) (la20 : Lin20 a20) {R S : Type} {k : S → Option R} {t4 : Sl} {H : Heap} {fkR : Sl → Int → Heap → Option R} {gkR : Sl → Int → Heap → Option S} (hkR : ∀ t2 t3 H, fkR t2 t3 H = (gkR t2 t3 H).bind k) : g6_p11 a19 a20 R t4 H fkR = (g6_p11 a19 a20 S t4 H gkR).bind k := by
  delta g6_p11; exact (
    la20.l fun x69 h70 =>
    hkR _ _ _)
noncomputable def g6_p12 (a19 : T19) (a20 : T20) (R : Type) (t1_0 : Nat) (t1_1 : Nat) (t4 : Sl) (t21 : Int) (H : Heap) (kR : Sl → Int → Heap → Option R) : Option R :=
  g6_p10 a19 a20 R t1_0 t1_1 t4 t21 H (fun t4 H => g6_p11 a19 a20 R t4 H (fun t2 t3 H => kR t2 t3 H))
theorem g6_p12_lin {a19 : T19} {a20 : T20} (la19 : Lin19 a19) (la20 : Lin20 a20) {R S : Type} {k : S → Option R} {t1_0 : Nat} {t1_1 : Nat} {t4 : Sl} {t21 : Int} {H : Heap} {fkR : Sl → Int → Heap → Option R} {gkR : Sl → Int → Heap → Option S} (hkR : ∀ t2 t3 H, fkR t2 t3 H = (gkR t2 t3 H).bind k) : g6_p12 a19 a20 R t1_0 t1_1 t4 t21 H fkR = (g6_p12 a19 a20 S t1_0 t1_1 t4 t21 H gkR).bind k := by
  exact g6_p10_lin la19 la20 (fun _ _ => g6_p11_lin la19 la20 (fun _ _ _ => hkR _ _ _))
theorem g6_p12_eq (a19 : T19) (a20 : T20) (la19 : Lin19 a19) (la20 : Lin20 a20) {R : Type} (t1_0 : Nat) (t1_1 : Nat) (t4 : Sl) (t21 : Int) (H : Heap) (K : Ex → Fr → Heap → Option R) : ev Tryd.prog (E6 a19 a20) loopLim Tryd.f6.ntmps kp6 c6_9 [(1, (V.p (some (t1_0, t1_1)))), (4, (V.sl t4)), (21, (V.i .u8 t21))] H K = g6_p12 a19 a20 R t1_0 t1_1 t4 t21 H (fun t2 t3 H => K .ret [(2, (V.sl t2)), (3, (V.i .i64 t3))] H) := by
  show ev Tryd.prog (E6 a19 a20) loopLim Tryd.f6.ntmps kp6 (.seq c6_7 c6_8) [(1, (V.p (some (t1_0, t1_1)))), (4, (V.sl t4)), (21, (V.i .u8 t21))] H K = _
  rw [ev_seq]
  delta g6_p12
  exact (g6_p10_eq a19 a20 la19 la20 t1_0 t1_1 t4 t21 H (kSeq (fun fr H => ev Tryd.prog (E6 a19 a20) loopLim Tryd.f6.ntmps kp6 c6_8 fr H K) K)).trans (congrArg (g6_p10 a19 a20 R t1_0 t1_1 t4 t21 H) (funext fun t4 => funext fun H => (kSeq_n _ _ _ _).trans (g6_p11_eq a19 a20 la19 la20 t4 H K)))
noncomputable def g6_p13 (a19 : T19) (a20 : T20) (R : Type) (t0_0 : Int) (t0_1 : Int) (t0_2 : ByteArray) (t0_3 : ByteArray) (t0_4 : Int) (H : Heap) (kR : Sl → Int → Heap → Option R) : Option R :=
  g6_p0 a19 a20 R t0_0 t0_1 t0_2 t0_3 t0_4 H (fun t1_0 t1_1 t4 t21 H => g6_p12 a19 a20 R t1_0 t1_1 t4 t21 H (fun t2 t3 H => kR t2 t3 H)) (fun t2 t3 H => kR t2 t3 H)
theorem g6_p13_lin {a19 : T19} {a20 : T20} (la19 : Lin19 a19) (la20 : Lin20 a20) {R S : Type} {k : S → Option R} {t0_0 : Int} {t0_1 : Int} {t0_2 : ByteArray} {t0_3 : ByteArray} {t0_4 : Int} {H : Heap} {fkR : Sl → Int → Heap → Option R} {gkR : Sl → Int → Heap → Option S} (hkR : ∀ t2 t3 H, fkR t2 t3 H = (gkR t2 t3 H).bind k) : g6_p13 a19 a20 R t0_0 t0_1 t0_2 t0_3 t0_4 H fkR = (g6_p13 a19 a20 S t0_0 t0_1 t0_2 t0_3 t0_4 H gkR).bind k := by
  exact g6_p0_lin la19 la20 (fun _ _ _ _ _ => g6_p12_lin la19 la20 (fun _ _ _ => hkR _ _ _)) (fun _ _ _ => hkR _ _ _)
theorem g6_p13_eq (a19 : T19) (a20 : T20) (la19 : Lin19 a19) (la20 : Lin20 a20) {R : Type} (t0_0 : Int) (t0_1 : Int) (t0_2 : ByteArray) (t0_3 : ByteArray) (t0_4 : Int) (H : Heap) (K : Ex → Fr → Heap → Option R) : ev Tryd.prog (E6 a19 a20) loopLim Tryd.f6.ntmps kp6 c6_10 [(0, (V.agg [(V.i .u8 t0_0), (V.i .i64 t0_1), (V.s t0_2), (V.s t0_3), (V.i .u8 t0_4)]))] H K = g6_p13 a19 a20 R t0_0 t0_1 t0_2 t0_3 t0_4 H (fun t2 t3 H => K .ret [(2, (V.sl t2)), (3, (V.i .i64 t3))] H) := by
  show ev Tryd.prog (E6 a19 a20) loopLim Tryd.f6.ntmps kp6 (.seq (codeAt [0] b6) (.seq (codeAt [1, 0, 0] b6) (.seq (.cond (.tmp 9) (.seq (codeAt [1, 0, 1, 0, 0] b6) .ret) .skip) (.seq (codeAt [1, 1, 0] b6) (.seq (codeAt [1, 1, 1, 0, 0] b6) c6_9))))) [(0, (V.agg [(V.i .u8 t0_0), (V.i .i64 t0_1), (V.s t0_2), (V.s t0_3), (V.i .u8 t0_4)]))] H K = _
  delta g6_p13
  exact (g6_p0_eq a19 a20 _ t0_0 t0_1 t0_2 t0_3 t0_4 H K).trans (congr (congrArg (g6_p0 a19 a20 R t0_0 t0_1 t0_2 t0_3 t0_4 H) (funext fun t1_0 => funext fun t1_1 => funext fun t4 => funext fun t21 => funext fun H => g6_p12_eq a19 a20 la19 la20 t1_0 t1_1 t4 t21 H K)) rfl)
noncomputable def g6_r (a19 : T19) (a20 : T20) : T6 := fun R t0_0 t0_1 t0_2 t0_3 t0_4 H K =>
  g6_p13 a19 a20 R t0_0 t0_1 t0_2 t0_3 t0_4 H (fun t2 t3 H =>
    K t2 t3 H)
theorem g6_r_lin {a19 : T19} {a20 : T20} (la19 : Lin19 a19) (la20 : Lin20 a20) : Lin6 (g6_r a19 a20) := by
  constructor
  intro R S k t0_0 t0_1 t0_2 t0_3 t0_4 H f g h
  exact g6_p13_lin la19 la20 (fun t2 t3 H =>
    h _ _ _)
theorem g6_fn (a19 : T19) (a20 : T20) (la19 : Lin19 a19) (la20 : Lin20 a20) {R : Type} (t0_0 : Int) (t0_1 : Int) (t0_2 : ByteArray) (t0_3 : ByteArray) (t0_4 : Int) (H : Heap) (K : V → Heap → Option R) : evFn Tryd.prog (E6 a19 a20) loopLim Tryd.f6 kp6 [(V.agg [(V.i .u8 t0_0), (V.i .i64 t0_1), (V.s t0_2), (V.s t0_3), (V.i .u8 t0_4)])] H K = g6_r a19 a20 R t0_0 t0_1 t0_2 t0_3 t0_4 H (fun r0 r1 H => K (V.tup [(V.sl r0), (V.i .i64 r1)]) H) := by
  have h0 : ∀ (t2 : Sl) (t3 : Int) (H : Heap), kFn Tryd.prog Tryd.f6.results.toList K .ret [(2, (V.sl t2)), (3, (V.i .i64 t3))] H =
      K (V.tup [(V.sl t2), (V.i .i64 t3)]) H := by intros; kernel_rfl
  have e0 := evFn_code2 (P := Tryd.prog) (c := c6_10) (E := (E6 a19 a20)) (lr := loopLim) (kp := kp6) (fn := Tryd.f6) (args := [(V.agg [(V.i .u8 t0_0), (V.i .i64 t0_1), (V.s t0_2), (V.s t0_3), (V.i .u8 t0_4)])]) H K (by kernel_rfl) (Nat.le_of_ble_eq_true (by kernel_rfl)) (by kernel_rfl)
  have e1 : ev Tryd.prog (E6 a19 a20) loopLim Tryd.f6.ntmps kp6 c6_10 (argFr 0 [(V.agg [(V.i .u8 t0_0), (V.i .i64 t0_1), (V.s t0_2), (V.s t0_3), (V.i .u8 t0_4)])]) H (kFn Tryd.prog Tryd.f6.results.toList K) = ev Tryd.prog (E6 a19 a20) loopLim Tryd.f6.ntmps kp6 c6_10 [(0, (V.agg [(V.i .u8 t0_0), (V.i .i64 t0_1), (V.s t0_2), (V.s t0_3), (V.i .u8 t0_4)]))] H (kFn Tryd.prog Tryd.f6.results.toList K) := by kernel_rfl
  refine (e0.trans e1).trans ?_
  delta g6_r
  exact (g6_p13_eq a19 a20 la19 la20 t0_0 t0_1 t0_2 t0_3 t0_4 H (kFn Tryd.prog Tryd.f6.results.toList K)).trans (congrArg (g6_p13 a19 a20 R t0_0 t0_1 t0_2 t0_3 t0_4 H) (funext fun t2 => funext fun t3 => funext fun H => h0 t2 t3 H))
theorem g6_ok {a19 : T19} {a20 : T20} (oa19 : FunOK Tryd.prog 19 (w19 a19)) (oa20 : FunOK Tryd.prog 20 (w20 a20)) (la19 : Lin19 a19) (la20 : Lin20 a20) : FunOK Tryd.prog 6 (w6 (g6_r a19 a20)) := by
  refine (runF_ok (E6_good oa19 oa20 la19 la20) mixed lim_ok Tryd.func6 (by kernel_rfl) kp6).of_le fun R args H K r hk => ?_
  unfold w6 at hk
  split at hk
  · exact (g6_fn a19 a20 la19 la20 _ _ _ _ _ H K).trans hk
  · cases hk
def kp21 : Nat → Option (List Nat) := kpOf [(0, [0]), (1, [0, 11]), (2, [2]), (3, [0, 3]), (4, [0, 3, 15]), (5, [0, 3]), (6, [0, 3, 27]), (7, [2]), (8, [2]), (100000, []), (100001, [0, 3]), (200000, [0, 3]), (200001, [0, 3]), (300000, [2]), (400011, [0]), (400015, [0, 3]), (400027, [0, 3])]
def E21 : FEnv := []
theorem E21_good : EnvGood Tryd.prog E21 := (EnvGood.nil _)
theorem E21_lin : EnvLin E21 := fun g F h => by cases h
noncomputable def b21 : Code := Tryd.f21.body.getD .skip
noncomputable def c21_0 : Code := (.seq (codeAt [1, 1, 0, 1, 0, 0, 0, 0] b21) (.seq (.cond (.tmp 15) .skip (.exit 0)) (.seq (.block 1 (.seq (codeAt [1, 1, 0, 1, 0, 0, 1, 0, 0, 0] b21) (.cond (.tmp 27) (.seq (codeAt [1, 1, 0, 1, 0, 0, 1, 0, 0, 1, 0, 0] b21) .ret) .skip))) (codeAt [1, 1, 0, 1, 0, 0, 1, 1] b21))))
noncomputable def c21_1 : Code := (.loop c21_0)
noncomputable def c21_2 : Code := (.block 0 c21_1)
noncomputable def c21_3 : Code := (.seq (codeAt [1, 1, 1, 0] b21) .ret)
noncomputable def c21_4 : Code := (.seq c21_2 c21_3)
noncomputable def c21_5 : Code := (.seq (codeAt [0] b21) (.seq (codeAt [1, 0, 0] b21) (.seq (.cond (.tmp 11) (.seq (codeAt [1, 0, 1, 0, 0] b21) .ret) .skip) (.seq (codeAt [1, 1, 0, 0] b21) c21_4))))
noncomputable def g21_p0 (R : Type) (t0 : ByteArray) (H : Heap) (kN : ByteArray → Int → Heap → Option R) (kR : Bool → Heap → Option R) : Option R :=
  sel (decide (((t0.size : Nat) : Int) < (1 : Int))) (
    kR false H) (
    sel (decide (((t0.size : Nat) : Int) > (15 : Int))) (
      kR false H) (
      kN t0 (0 : Int) H))
theorem g21_p0_eq {R : Type} (c2 : Code) (t0 : ByteArray) (H : Heap) (K : Ex → Fr → Heap → Option R) : ev Tryd.prog E21 loopLim Tryd.f21.ntmps kp21 (.seq (codeAt [0] b21) (.seq (codeAt [1, 0, 0] b21) (.seq (.cond (.tmp 11) (.seq (codeAt [1, 0, 1, 0, 0] b21) .ret) .skip) (.seq (codeAt [1, 1, 0, 0] b21) c2)))) [(0, (V.s t0))] H K = g21_p0 R t0 H (fun t0 t3 H => ev Tryd.prog E21 loopLim Tryd.f21.ntmps kp21 c2 [(0, (V.s t0)), (3, (V.i .i64 t3))] H K) (fun t2 H => K .ret [(2, (V.b t2))] H) := by kernel_rfl
theorem g21_p0_lin {R S : Type} {k : S → Option R} {t0 : ByteArray} {H : Heap} {fkN : ByteArray → Int → Heap → Option R} {gkN : ByteArray → Int → Heap → Option S} {fkR : Bool → Heap → Option R} {gkR : Bool → Heap → Option S} (hkN : ∀ t0 t3 H, fkN t0 t3 H = (gkN t0 t3 H).bind k) (hkR : ∀ t2 H, fkR t2 H = (gkR t2 H).bind k) : g21_p0 R t0 H fkN fkR = (g21_p0 S t0 H gkN gkR).bind k := by
  delta g21_p0; exact (
    sl_lin (
      hkR _ _) (
      sl_lin (
        hkR _ _) (
        hkN _ _ _)))
noncomputable def g21_p1 (R : Type) (t0 : ByteArray) (t3 : Int) (H : Heap) (kN : ByteArray → Int → Heap → Option R) (kE0 : Heap → Option R) (kR : Bool → Heap → Option R) : Option R :=
  sel (decide (t3 < ((t0.size : Nat) : Int))) (
    if 0 ≤ t3 ∧ t3 < ((t0.size : Nat) : Int) then (
      sel (decide ((btAt t0 t3) < (48 : Int))) (
        kR false H) (
        if 0 ≤ t3 ∧ t3 < ((t0.size : Nat) : Int) then (
          sel (decide ((btAt t0 t3) > (57 : Int))) (
            kR false H) (
            kN t0 (IntKind.wrap .i64 (t3 + (1 : Int))) H))
        else (
          none)))
    else (
      none)) (
    kE0 H)
theorem g21_p1_eq {R : Type} (t0 : ByteArray) (t3 : Int) (H : Heap) (K : Ex → Fr → Heap → Option R) : ev Tryd.prog E21 loopLim Tryd.f21.ntmps kp21 c21_0 [(0, (V.s t0)), (3, (V.i .i64 t3))] H K = g21_p1 R t0 t3 H (fun t0 t3 H => K .normal [(0, (V.s t0)), (3, (V.i .i64 t3))] H) (fun H => K (.exit 0) [] H) (fun t2 H => K .ret [(2, (V.b t2))] H) := by kernel_rfl
theorem g21_p1_lin {R S : Type} {k : S → Option R} {t0 : ByteArray} {t3 : Int} {H : Heap} {fkN : ByteArray → Int → Heap → Option R} {gkN : ByteArray → Int → Heap → Option S} {fkE0 : Heap → Option R} {gkE0 : Heap → Option S} {fkR : Bool → Heap → Option R} {gkR : Bool → Heap → Option S} (hkN : ∀ t0 t3 H, fkN t0 t3 H = (gkN t0 t3 H).bind k) (hkE0 : ∀ H, fkE0 H = (gkE0 H).bind k) (hkR : ∀ t2 H, fkR t2 H = (gkR t2 H).bind k) : g21_p1 R t0 t3 H fkN fkE0 fkR = (g21_p1 S t0 t3 H gkN gkE0 gkR).bind k := by
  delta g21_p1; exact (
    sl_lin (
      il (
        sl_lin (
          hkR _ _) (
          il (
            sl_lin (
              hkR _ _) (
              hkN _ _ _)) (
            rfl))) (
        rfl)) (
      hkE0 _))
abbrev g21_p2_S := ByteArray × Int
abbrev g21_p2_O := Sum (Unit) (Bool)
def g21_p2_es (s : g21_p2_S) : Fr := [(0, (V.s s.1)), (3, (V.i .i64 s.2))]
def g21_p2_er : g21_p2_O → Ex × Fr
  | (.inl r) => ((.exit 0), [])
  | (.inr r) => (.ret, [(2, (V.b r))])
noncomputable def g21_p2_b (s : g21_p2_S) (H : Heap) : Option (Rd g21_p2_S g21_p2_O × Heap) :=
  g21_p1 _ s.1 s.2 H (fun t0 t3 H => some (.go (t0, t3), H)) (fun H => some (.up (.inl ()), H)) (fun t2 H => some (.up (.inr t2), H))
noncomputable def g21_p2 (R : Type) (t0 : ByteArray) (t3 : Int) (H : Heap) (kE0 : Heap → Option R) (kR : Bool → Heap → Option R) : Option R :=
  (tlim (g21_p2_b) (t0, t3) H).bind fun p => cas p.1 (fun r => kE0  p.2) (fun r0 => kR r0 p.2)
theorem g21_p2_lin {R S : Type} {k : S → Option R} {t0 : ByteArray} {t3 : Int} {H : Heap} {fkE0 : Heap → Option R} {gkE0 : Heap → Option S} {fkR : Bool → Heap → Option R} {gkR : Bool → Heap → Option S} (hkE0 : ∀ H, fkE0 H = (gkE0 H).bind k) (hkR : ∀ t2 H, fkR t2 H = (gkR t2 H).bind k) : g21_p2 R t0 t3 H fkE0 fkR = (g21_p2 S t0 t3 H gkE0 gkR).bind k := by
  exact bl fun p => cas_lin (fun _ => hkE0 _) (fun _ => hkR _ _)
theorem g21_p2_eq {R : Type} (t0 : ByteArray) (t3 : Int) (H : Heap) (K : Ex → Fr → Heap → Option R) : ev Tryd.prog E21 loopLim Tryd.f21.ntmps kp21 c21_1 [(0, (V.s t0)), (3, (V.i .i64 t3))] H K = g21_p2 R t0 t3 H (fun H => K (.exit 0) [] H) (fun t2 H => K .ret [(2, (V.b t2))] H) := by
  show ev Tryd.prog E21 loopLim Tryd.f21.ntmps kp21 (.loop c21_0) [(0, (V.s t0)), (3, (V.i .i64 t3))] H K = _
  delta g21_p2
  refine (ev_tlim (b := g21_p2_b) (es := g21_p2_es) (er := g21_p2_er) (by rintro (r | r) <;> exact nofun) (fun s H => ?_) (t0, t3) H K).trans (bc fun p => by rcases p with ⟨(r | r), H⟩ <;> rfl)
  exact (g21_p1_eq s.1 s.2 H ret3).trans (g21_p1_lin (fun _ _ _ => rfl) (fun _ => rfl) (fun _ _ => rfl))
noncomputable def g21_p3 (R : Type) (t0 : ByteArray) (t3 : Int) (H : Heap) (kN : Heap → Option R) (kR : Bool → Heap → Option R) : Option R :=
  g21_p2 R t0 t3 H (fun H => kN  H) (fun t2 H => kR t2 H)
theorem g21_p3_lin {R S : Type} {k : S → Option R} {t0 : ByteArray} {t3 : Int} {H : Heap} {fkN : Heap → Option R} {gkN : Heap → Option S} {fkR : Bool → Heap → Option R} {gkR : Bool → Heap → Option S} (hkN : ∀ H, fkN H = (gkN H).bind k) (hkR : ∀ t2 H, fkR t2 H = (gkR t2 H).bind k) : g21_p3 R t0 t3 H fkN fkR = (g21_p3 S t0 t3 H gkN gkR).bind k := by
  exact g21_p2_lin (fun _ => hkN _) (fun _ _ => hkR _ _)
theorem g21_p3_eq {R : Type} (t0 : ByteArray) (t3 : Int) (H : Heap) (K : Ex → Fr → Heap → Option R) : ev Tryd.prog E21 loopLim Tryd.f21.ntmps kp21 c21_2 [(0, (V.s t0)), (3, (V.i .i64 t3))] H K = g21_p3 R t0 t3 H (fun H => K .normal [] H) (fun t2 H => K .ret [(2, (V.b t2))] H) := by
  show ev Tryd.prog E21 loopLim Tryd.f21.ntmps kp21 (.block 0 c21_1) [(0, (V.s t0)), (3, (V.i .i64 t3))] H K = _
  rw [ev_block]
  delta g21_p3
  exact (g21_p2_eq t0 t3 H (kBlock kp21 0 K))
noncomputable def g21_p4 (R : Type) (H : Heap) (kR : Bool → Heap → Option R) : Option R :=
  kR true H
theorem g21_p4_eq {R : Type} (H : Heap) (K : Ex → Fr → Heap → Option R) : ev Tryd.prog E21 loopLim Tryd.f21.ntmps kp21 c21_3 [] H K = g21_p4 R H (fun t2 H => K .ret [(2, (V.b t2))] H) := by kernel_rfl
theorem g21_p4_lin {R S : Type} {k : S → Option R} {H : Heap} {fkR : Bool → Heap → Option R} {gkR : Bool → Heap → Option S} (hkR : ∀ t2 H, fkR t2 H = (gkR t2 H).bind k) : g21_p4 R H fkR = (g21_p4 S H gkR).bind k := by
  delta g21_p4; exact (
    hkR _ _)
noncomputable def g21_p5 (R : Type) (t0 : ByteArray) (t3 : Int) (H : Heap) (kR : Bool → Heap → Option R) : Option R :=
  g21_p3 R t0 t3 H (fun H => g21_p4 R H (fun t2 H => kR t2 H)) (fun t2 H => kR t2 H)
theorem g21_p5_lin {R S : Type} {k : S → Option R} {t0 : ByteArray} {t3 : Int} {H : Heap} {fkR : Bool → Heap → Option R} {gkR : Bool → Heap → Option S} (hkR : ∀ t2 H, fkR t2 H = (gkR t2 H).bind k) : g21_p5 R t0 t3 H fkR = (g21_p5 S t0 t3 H gkR).bind k := by
  exact g21_p3_lin (fun _ => g21_p4_lin (fun _ _ => hkR _ _)) (fun _ _ => hkR _ _)
theorem g21_p5_eq {R : Type} (t0 : ByteArray) (t3 : Int) (H : Heap) (K : Ex → Fr → Heap → Option R) : ev Tryd.prog E21 loopLim Tryd.f21.ntmps kp21 c21_4 [(0, (V.s t0)), (3, (V.i .i64 t3))] H K = g21_p5 R t0 t3 H (fun t2 H => K .ret [(2, (V.b t2))] H) := by
  show ev Tryd.prog E21 loopLim Tryd.f21.ntmps kp21 (.seq c21_2 c21_3) [(0, (V.s t0)), (3, (V.i .i64 t3))] H K = _
  rw [ev_seq]
  delta g21_p5
  exact (g21_p3_eq t0 t3 H (kSeq (fun fr H => ev Tryd.prog E21 loopLim Tryd.f21.ntmps kp21 c21_3 fr H K) K)).trans (congr (congrArg (g21_p3 R t0 t3 H) (funext fun H => (kSeq_n _ _ _ _).trans (g21_p4_eq H K))) rfl)
noncomputable def g21_p6 (R : Type) (t0 : ByteArray) (H : Heap) (kR : Bool → Heap → Option R) : Option R :=
  g21_p0 R t0 H (fun t0 t3 H => g21_p5 R t0 t3 H (fun t2 H => kR t2 H)) (fun t2 H => kR t2 H)
theorem g21_p6_lin {R S : Type} {k : S → Option R} {t0 : ByteArray} {H : Heap} {fkR : Bool → Heap → Option R} {gkR : Bool → Heap → Option S} (hkR : ∀ t2 H, fkR t2 H = (gkR t2 H).bind k) : g21_p6 R t0 H fkR = (g21_p6 S t0 H gkR).bind k := by
  exact g21_p0_lin (fun _ _ _ => g21_p5_lin (fun _ _ => hkR _ _)) (fun _ _ => hkR _ _)
theorem g21_p6_eq {R : Type} (t0 : ByteArray) (H : Heap) (K : Ex → Fr → Heap → Option R) : ev Tryd.prog E21 loopLim Tryd.f21.ntmps kp21 c21_5 [(0, (V.s t0))] H K = g21_p6 R t0 H (fun t2 H => K .ret [(2, (V.b t2))] H) := by
  show ev Tryd.prog E21 loopLim Tryd.f21.ntmps kp21 (.seq (codeAt [0] b21) (.seq (codeAt [1, 0, 0] b21) (.seq (.cond (.tmp 11) (.seq (codeAt [1, 0, 1, 0, 0] b21) .ret) .skip) (.seq (codeAt [1, 1, 0, 0] b21) c21_4)))) [(0, (V.s t0))] H K = _
  delta g21_p6
  exact (g21_p0_eq _ t0 H K).trans (congr (congrArg (g21_p0 R t0 H) (funext fun t0 => funext fun t3 => funext fun H => g21_p5_eq t0 t3 H K)) rfl)
noncomputable def g21_r : T21 := fun R t0 H K =>
  g21_p6 R t0 H (fun t2 H =>
    K t2 H)
theorem g21_r_lin : Lin21 (g21_r) := by
  constructor
  intro R S k t0 H f g h
  exact g21_p6_lin (fun t2 H =>
    h _ _)
theorem g21_fn {R : Type} (t0 : ByteArray) (H : Heap) (K : V → Heap → Option R) : evFn Tryd.prog E21 loopLim Tryd.f21 kp21 [(V.s t0)] H K = g21_r R t0 H (fun r0 H => K (V.b r0) H) := by
  have h0 : ∀ (t2 : Bool) (H : Heap), kFn Tryd.prog Tryd.f21.results.toList K .ret [(2, (V.b t2))] H =
      K (V.b t2) H := by intros; kernel_rfl
  have e0 := evFn_code2 (P := Tryd.prog) (c := c21_5) (E := E21) (lr := loopLim) (kp := kp21) (fn := Tryd.f21) (args := [(V.s t0)]) H K (by kernel_rfl) (Nat.le_of_ble_eq_true (by kernel_rfl)) (by kernel_rfl)
  have e1 : ev Tryd.prog E21 loopLim Tryd.f21.ntmps kp21 c21_5 (argFr 0 [(V.s t0)]) H (kFn Tryd.prog Tryd.f21.results.toList K) = ev Tryd.prog E21 loopLim Tryd.f21.ntmps kp21 c21_5 [(0, (V.s t0))] H (kFn Tryd.prog Tryd.f21.results.toList K) := by kernel_rfl
  refine (e0.trans e1).trans ?_
  delta g21_r
  exact (g21_p6_eq t0 H (kFn Tryd.prog Tryd.f21.results.toList K)).trans (congrArg (g21_p6 R t0 H) (funext fun t2 => funext fun H => h0 t2 H))
theorem g21_ok : FunOK Tryd.prog 21 (w21 (g21_r)) := by
  refine (runF_ok (E21_good) mixed lim_ok Tryd.func21 (by kernel_rfl) kp21).of_le fun R args H K r hk => ?_
  unfold w21 at hk
  split at hk
  · exact (g21_fn _ H K).trans hk
  · cases hk
def kp7 : Nat → Option (List Nat) := kpOf [(0, [1]), (1, [1, 20]), (2, [2]), (3, [1, 23]), (4, [2]), (5, [2]), (300000, [2]), (400020, [1]), (400023, [1])]
def E7 (a21 : T21) : FEnv := [(21, w21 a21)]
theorem E7_good {a21 : T21} (oa21 : FunOK Tryd.prog 21 (w21 a21)) (la21 : Lin21 a21) : EnvGood Tryd.prog (E7 a21) := ((EnvGood.nil _).cons oa21 (w21_lin la21))
theorem E7_lin {a21 : T21} (la21 : Lin21 a21) : EnvLin (E7 a21) := by
  intro g F h
  simp only [E7, List.mem_cons, List.not_mem_nil, or_false] at h
  rcases h with h
  · cases h; exact w21_lin la21
noncomputable def b7 : Code := Tryd.f7.body.getD .skip
noncomputable def c7_0 : Code := (.seq (codeAt [0] b7) (.seq (codeAt [1, 0, 0] b7) (.seq (.cond (.tmp 20) (.seq (codeAt [1, 0, 1, 0, 0] b7) .ret) .skip) (.seq (codeAt [1, 1, 0, 0] b7) (.seq (.cond (.tmp 23) (.seq (codeAt [1, 1, 0, 1, 0, 0] b7) .ret) .skip) (.seq (codeAt [1, 1, 1, 0] b7) .ret))))))
noncomputable def g7_p0 (a21 : T21) (R : Type) (t0_0 : Int) (t0_1 : Int) (t0_2 : ByteArray) (t0_3 : ByteArray) (t0_4 : Int) (H : Heap) (kR : Bool → Heap → Option R) : Option R :=
  alo H (.cells [(V.i .u8 t0_0), (V.i .i64 t0_1), (V.s t0_2), (V.s t0_3), (V.i .u8 t0_4)] 24 false) fun i1 h2 =>
  ((h2).ldI .u8 i1 (0 + 0)).bind fun x3 =>
  sel (decide (x3 < (1 : Int))) (
    kR false h2) (
    ((h2).ldI .u8 i1 (0 + 0)).bind fun x4 =>
    sel (decide (x4 > (5 : Int))) (
      kR false h2) (
      ((h2).ldI .i64 i1 (0 + 1)).bind fun x5 =>
      sel (decide (x5 < (0 : Int))) (
        kR false h2) (
        ((h2).ldI .i64 i1 (0 + 1)).bind fun x6 =>
        sel (decide (x6 > (255 : Int))) (
          kR false h2) (
          ((h2).ldI .u8 i1 (0 + 0)).bind fun x7 =>
          sel (x7 == (1 : Int)) (
            ((h2).ldS i1 (0 + 2)).bind fun x8 =>
            a21 R x8 h2 fun x9 h10 =>
            sel x9 (
              ((h10).ldS i1 (0 + 3)).bind fun x11 =>
              a21 R x11 h10 fun x12 h13 =>
              sel x12 (
                ((h13).ldI .u8 i1 (0 + 4)).bind fun x14 =>
                kR (x14 == (0 : Int)) h13) (
                kR false h13)) (
              kR false h10)) (
            ((h2).ldS i1 (0 + 2)).bind fun x15 =>
            sel (strEq x15 str0) (
              ((h2).ldS i1 (0 + 3)).bind fun x16 =>
              sel (strEq x16 str0) (
                ((h2).ldI .u8 i1 (0 + 0)).bind fun x17 =>
                sel (x17 == (4 : Int)) (
                  kR true h2) (
                  ((h2).ldI .u8 i1 (0 + 4)).bind fun x18 =>
                  kR (x18 == (0 : Int)) h2)) (
                kR false h2)) (
              kR false h2))))))
theorem g7_p0_eq (a21 : T21) (la21 : Lin21 a21) {R : Type} (t0_0 : Int) (t0_1 : Int) (t0_2 : ByteArray) (t0_3 : ByteArray) (t0_4 : Int) (H : Heap) (K : Ex → Fr → Heap → Option R) : ev Tryd.prog (E7 a21) loopLim Tryd.f7.ntmps kp7 c7_0 [(0, (V.agg [(V.i .u8 t0_0), (V.i .i64 t0_1), (V.s t0_2), (V.s t0_3), (V.i .u8 t0_4)]))] H K = g7_p0 a21 R t0_0 t0_1 t0_2 t0_3 t0_4 H (fun t2 H => K .ret [(2, (V.b t2))] H) := by kernel_rfl
theorem g7_p0_lin {a21 : T21} (la21 : Lin21 a21) {R S : Type} {k : S → Option R} {t0_0 : Int} {t0_1 : Int} {t0_2 : ByteArray} {t0_3 : ByteArray} {t0_4 : Int} {H : Heap} {fkR : Bool → Heap → Option R} {gkR : Bool → Heap → Option S} (hkR : ∀ t2 H, fkR t2 H = (gkR t2 H).bind k) : g7_p0 a21 R t0_0 t0_1 t0_2 t0_3 t0_4 H fkR = (g7_p0 a21 S t0_0 t0_1 t0_2 t0_3 t0_4 H gkR).bind k := by
  delta g7_p0; exact (
    alo_lin fun i1 h2 =>
    bl fun x3 =>
    sl_lin (
      hkR _ _) (
      bl fun x4 =>
      sl_lin (
        hkR _ _) (
        bl fun x5 =>
        sl_lin (
          hkR _ _) (
          bl fun x6 =>
          sl_lin (
            hkR _ _) (
            bl fun x7 =>
            sl_lin (
              bl fun x8 =>
              la21.l fun x9 h10 =>
              sl_lin (
                bl fun x11 =>
                la21.l fun x12 h13 =>
                sl_lin (
                  bl fun x14 =>
                  hkR _ _) (
                  hkR _ _)) (
                hkR _ _)) (
              bl fun x15 =>
              sl_lin (
                bl fun x16 =>
                sl_lin (
                  bl fun x17 =>
                  sl_lin (
                    hkR _ _) (
                    bl fun x18 =>
                    hkR _ _)) (
                  hkR _ _)) (
                hkR _ _)))))))
noncomputable def g7_r (a21 : T21) : T7 := fun R t0_0 t0_1 t0_2 t0_3 t0_4 H K =>
  g7_p0 a21 R t0_0 t0_1 t0_2 t0_3 t0_4 H (fun t2 H =>
    K t2 H)
theorem g7_r_lin {a21 : T21} (la21 : Lin21 a21) : Lin7 (g7_r a21) := by
  constructor
  intro R S k t0_0 t0_1 t0_2 t0_3 t0_4 H f g h
  exact g7_p0_lin la21 (fun t2 H =>
    h _ _)
theorem g7_fn (a21 : T21) (la21 : Lin21 a21) {R : Type} (t0_0 : Int) (t0_1 : Int) (t0_2 : ByteArray) (t0_3 : ByteArray) (t0_4 : Int) (H : Heap) (K : V → Heap → Option R) : evFn Tryd.prog (E7 a21) loopLim Tryd.f7 kp7 [(V.agg [(V.i .u8 t0_0), (V.i .i64 t0_1), (V.s t0_2), (V.s t0_3), (V.i .u8 t0_4)])] H K = g7_r a21 R t0_0 t0_1 t0_2 t0_3 t0_4 H (fun r0 H => K (V.b r0) H) := by
  have h0 : ∀ (t2 : Bool) (H : Heap), kFn Tryd.prog Tryd.f7.results.toList K .ret [(2, (V.b t2))] H =
      K (V.b t2) H := by intros; kernel_rfl
  have e0 := evFn_code2 (P := Tryd.prog) (c := c7_0) (E := (E7 a21)) (lr := loopLim) (kp := kp7) (fn := Tryd.f7) (args := [(V.agg [(V.i .u8 t0_0), (V.i .i64 t0_1), (V.s t0_2), (V.s t0_3), (V.i .u8 t0_4)])]) H K (by kernel_rfl) (Nat.le_of_ble_eq_true (by kernel_rfl)) (by kernel_rfl)
  have e1 : ev Tryd.prog (E7 a21) loopLim Tryd.f7.ntmps kp7 c7_0 (argFr 0 [(V.agg [(V.i .u8 t0_0), (V.i .i64 t0_1), (V.s t0_2), (V.s t0_3), (V.i .u8 t0_4)])]) H (kFn Tryd.prog Tryd.f7.results.toList K) = ev Tryd.prog (E7 a21) loopLim Tryd.f7.ntmps kp7 c7_0 [(0, (V.agg [(V.i .u8 t0_0), (V.i .i64 t0_1), (V.s t0_2), (V.s t0_3), (V.i .u8 t0_4)]))] H (kFn Tryd.prog Tryd.f7.results.toList K) := by kernel_rfl
  refine (e0.trans e1).trans ?_
  delta g7_r
  exact (g7_p0_eq a21 la21 t0_0 t0_1 t0_2 t0_3 t0_4 H (kFn Tryd.prog Tryd.f7.results.toList K)).trans (congrArg (g7_p0 a21 R t0_0 t0_1 t0_2 t0_3 t0_4 H) (funext fun t2 => funext fun H => h0 t2 H))
theorem g7_ok {a21 : T21} (oa21 : FunOK Tryd.prog 21 (w21 a21)) (la21 : Lin21 a21) : FunOK Tryd.prog 7 (w7 (g7_r a21)) := by
  refine (runF_ok (E7_good oa21 la21) mixed lim_ok Tryd.func7 (by kernel_rfl) kp7).of_le fun R args H K r hk => ?_
  unfold w7 at hk
  split at hk
  · exact (g7_fn a21 la21 _ _ _ _ _ H K).trans hk
  · cases hk
def kp22 : Nat → Option (List Nat) := kpOf [(0, [0]), (1, [0, 17]), (2, [2, 3, 4]), (3, [0, 5]), (4, [2, 3, 4]), (300000, [2, 3, 4]), (400017, [0])]
def E22 : FEnv := []
theorem E22_good : EnvGood Tryd.prog E22 := (EnvGood.nil _)
theorem E22_lin : EnvLin E22 := fun g F h => by cases h
noncomputable def b22 : Code := Tryd.f22.body.getD .skip
noncomputable def c22_0 : Code := (.seq (codeAt [0] b22) (.seq (codeAt [1, 0, 0] b22) (.seq (.cond (.tmp 17) (.seq (codeAt [1, 0, 1, 0, 0] b22) .ret) .skip) (.seq (codeAt [1, 1, 0] b22) (.seq (codeAt [1, 1, 1, 0] b22) .ret)))))
noncomputable def g22_p0 (R : Type) (t0 : Sl) (H : Heap) (kR : ByteArray → Sl → Bool → Heap → Option R) : Option R :=
  sel (((t0.len : Nat) : Int) == (0 : Int)) (
    kR str0 (Sl.mk none 0 (.ex 0)) false H) (
    if 0 ≤ (0 : Int) ∧ (0 : Int) < ((t0.len : Nat) : Int) then (
      (t0.a).bind fun q1 =>
      ((H).ldI .u8 q1.1 (q1.2 + Int.toNat (0 : Int) * 1)).bind fun x2 =>
      sel (decide ((IntKind.wrap .i64 x2) ≥ ((t0.len : Nat) : Int))) (
        kR str0 (Sl.mk none 0 (.ex 0)) false H) (
        if 0 ≤ (0 : Int) ∧ (0 : Int) < ((t0.len : Nat) : Int) then (
          (t0.a).bind fun q3 =>
          ((H).ldI .u8 q3.1 (q3.2 + Int.toNat (0 : Int) * 1)).bind fun x4 =>
          slOf 1 t0 (some (1 : Int)) (some (IntKind.wrap .i64 ((1 : Int) + (IntKind.wrap .i64 x4)))) none fun s5 =>
          ((slBytes H s5)).bind fun x6 =>
          slOf 1 t0 (some (IntKind.wrap .i64 ((1 : Int) + (IntKind.wrap .i64 x4)))) none none fun s7 =>
          kR x6 s7 true H)
        else (
          none)))
    else (
      none))
theorem g22_p0_eq {R : Type} (t0 : Sl) (H : Heap) (K : Ex → Fr → Heap → Option R) : ev Tryd.prog E22 loopLim Tryd.f22.ntmps kp22 c22_0 [(0, (V.sl t0))] H K = g22_p0 R t0 H (fun t2 t3 t4 H => K .ret [(2, (V.s t2)), (3, (V.sl t3)), (4, (V.b t4))] H) := by kernel_rfl
theorem g22_p0_lin {R S : Type} {k : S → Option R} {t0 : Sl} {H : Heap} {fkR : ByteArray → Sl → Bool → Heap → Option R} {gkR : ByteArray → Sl → Bool → Heap → Option S} (hkR : ∀ t2 t3 t4 H, fkR t2 t3 t4 H = (gkR t2 t3 t4 H).bind k) : g22_p0 R t0 H fkR = (g22_p0 S t0 H gkR).bind k := by
  delta g22_p0; exact (
    sl_lin (
      hkR _ _ _ _) (
      il (
        bl fun q1 =>
        bl fun x2 =>
        sl_lin (
          hkR _ _ _ _) (
          il (
            bl fun q3 =>
            bl fun x4 =>
            slOf_lin fun s5 =>
            bl fun x6 =>
            slOf_lin fun s7 =>
            hkR _ _ _ _) (
            rfl))) (
        rfl)))
noncomputable def g22_r : T22 := fun R t0 H K =>
  g22_p0 R t0 H (fun t2 t3 t4 H =>
    K t2 t3 t4 H)
theorem g22_r_lin : Lin22 (g22_r) := by
  constructor
  intro R S k t0 H f g h
  exact g22_p0_lin (fun t2 t3 t4 H =>
    h _ _ _ _)
theorem g22_fn {R : Type} (t0 : Sl) (H : Heap) (K : V → Heap → Option R) : evFn Tryd.prog E22 loopLim Tryd.f22 kp22 [(V.sl t0)] H K = g22_r R t0 H (fun r0 r1 r2 H => K (V.tup [(V.s r0), (V.sl r1), (V.b r2)]) H) := by
  have h0 : ∀ (t2 : ByteArray) (t3 : Sl) (t4 : Bool) (H : Heap), kFn Tryd.prog Tryd.f22.results.toList K .ret [(2, (V.s t2)), (3, (V.sl t3)), (4, (V.b t4))] H =
      K (V.tup [(V.s t2), (V.sl t3), (V.b t4)]) H := by intros; kernel_rfl
  have e0 := evFn_code2 (P := Tryd.prog) (c := c22_0) (E := E22) (lr := loopLim) (kp := kp22) (fn := Tryd.f22) (args := [(V.sl t0)]) H K (by kernel_rfl) (Nat.le_of_ble_eq_true (by kernel_rfl)) (by kernel_rfl)
  have e1 : ev Tryd.prog E22 loopLim Tryd.f22.ntmps kp22 c22_0 (argFr 0 [(V.sl t0)]) H (kFn Tryd.prog Tryd.f22.results.toList K) = ev Tryd.prog E22 loopLim Tryd.f22.ntmps kp22 c22_0 [(0, (V.sl t0))] H (kFn Tryd.prog Tryd.f22.results.toList K) := by kernel_rfl
  refine (e0.trans e1).trans ?_
  delta g22_r
  exact (g22_p0_eq t0 H (kFn Tryd.prog Tryd.f22.results.toList K)).trans (congrArg (g22_p0 R t0 H) (funext fun t2 => funext fun t3 => funext fun t4 => funext fun H => h0 t2 t3 t4 H))
theorem g22_ok : FunOK Tryd.prog 22 (w22 (g22_r)) := by
  refine (runF_ok (E22_good) mixed lim_ok Tryd.func22 (by kernel_rfl) kp22).of_le fun R args H K r hk => ?_
  unfold w22 at hk
  split at hk
  · exact (g22_fn _ H K).trans hk
  · cases hk
end Go.Proofs.YtnjihofdmncckaaDoor

