/- Printed: functions as the machine runs them. -/
import Derived.Test.YtgdkkpjmjnknoaaDoorGT
namespace Go.Proofs.YtgdkkpjmjnknoaaDoor
open Go AM Go.RowKit
set_option linter.unusedVariables false
def kp17 : Nat → Option (List Nat) := kpOf [(0, [1]), (1, [1, 4]), (2, [1, 4, 11]), (3, [2, 3]), (4, [1, 5]), (5, [1, 5]), (6, [1, 5, 6]), (7, [1, 5, 6, 7]), (8, [1, 5, 6, 7, 48]), (9, [1, 5, 6, 7]), (10, [1, 5, 6, 7]), (11, [2, 3]), (100000, [1, 5]), (100001, [1, 5, 6, 7]), (200000, [1, 5, 6, 7]), (200001, [1, 5, 6, 7]), (300000, [2, 3]), (400011, [1]), (400048, [1, 5, 6, 7])]
def E17 (a18 : T18) : FEnv := [(18, w18 a18)]
theorem E17_good {a18 : T18} (oa18 : FunOK Tryd.prog 18 (w18 a18)) (la18 : Lin18 a18) : EnvGood Tryd.prog (E17 a18) := ((EnvGood.nil _).cons oa18 (w18_lin la18))
theorem E17_lin {a18 : T18} (la18 : Lin18 a18) : EnvLin (E17 a18) := by
  intro g F h
  simp only [E17, List.mem_cons, List.not_mem_nil, or_false] at h
  rcases h with h
  · cases h; exact w18_lin la18
noncomputable def b17 : Code := Tryd.f17.body.getD .skip
noncomputable def c17_0 : Code := (.seq (codeAt [1, 1, 1, 1, 1, 0, 1, 0, 0, 0, 0] b17) (.seq (.cond (.tmp 48) .skip (.exit 0)) (.seq (.block 1 (codeAt [1, 1, 1, 1, 1, 0, 1, 0, 0, 1, 0, 0] b17)) (codeAt [1, 1, 1, 1, 1, 0, 1, 0, 0, 1, 1] b17))))
noncomputable def c17_1 : Code := (.loop c17_0)
noncomputable def c17_2 : Code := (.block 0 c17_1)
noncomputable def c17_3 : Code := (.seq (codeAt [1, 1, 1, 1, 1, 1, 0] b17) .ret)
noncomputable def c17_4 : Code := (.seq c17_2 c17_3)
noncomputable def c17_5 : Code := (.seq (codeAt [0] b17) (.seq (codeAt [1, 0, 0] b17) (.seq (codeAt [1, 0, 1, 0] b17) (.seq (.cond (.tmp 11) (.seq (codeAt [1, 0, 1, 1, 0, 0] b17) .ret) .skip) (.seq (codeAt [1, 1, 0] b17) (.seq (codeAt [1, 1, 1, 0] b17) (.seq (codeAt [1, 1, 1, 1, 0] b17) (.seq (codeAt [1, 1, 1, 1, 1, 0, 0] b17) c17_4))))))))
noncomputable def g17_p0 (a18 : T18) (R : Type) (t0_0 : Int) (t0_1 : Int) (t0_2 : Int) (t0_3 : Int) (t0_4 : Int) (t0_5 : Int) (t0_6 : Sl) (H : Heap) (kN : Nat → Nat → Sl → Int → Int → Heap → Option R) (kR : Sl → Int → Heap → Option R) : Option R :=
  alo H (.cells [(V.i .u8 t0_0), (V.i .u8 t0_1), (V.i .u8 t0_2), (V.i .u16 t0_3), (V.i .u16 t0_4), (V.i .u8 t0_5), (V.sl t0_6)] 38 false) fun i100 h101 =>
  ((h101).ldI .u8 i100 (0 + 0)).bind fun x102 =>
  ((h101).ldI .u8 i100 (0 + 1)).bind fun x103 =>
  ((h101).ldI .u8 i100 (0 + 2)).bind fun x104 =>
  ((h101).ldI .u16 i100 (0 + 3)).bind fun x105 =>
  ((h101).ldI .u16 i100 (0 + 4)).bind fun x106 =>
  ((h101).ldI .u8 i100 (0 + 5)).bind fun x107 =>
  ((h101).ldSl i100 (0 + 6)).bind fun x108 =>
  a18 R x102 x103 x104 x105 x106 x107 x108 h101 fun x109 h110 =>
  sel (x109 != (0 : Int)) (
    kR (Sl.mk none 0 (.ex 0)) x109 h110) (
    ((h110).ldSl i100 (0 + 6)).bind fun x111 =>
    if 0 ≤ (0 : Int) ∧ (0 : Int) ≤ (IntKind.wrap .i64 ((5 : Int) + ((x111.len : Nat) : Int))) ∧ (IntKind.wrap .i64 ((5 : Int) + ((x111.len : Nat) : Int))) ≤ 9223372036854775807 ∧ (IntKind.wrap .i64 ((5 : Int) + ((x111.len : Nat) : Int))) * ((1 : Nat) : Int) ≤ 281474976710656 then (
      ((zeroCellsV Tryd.prog 5 (Int.toNat (IntKind.wrap .i64 ((5 : Int) + ((x111.len : Nat) : Int)))))).bind fun vs112 =>
      alo h110 (.cells vs112 5 false) fun i113 h114 =>
      ((h114).ldI .u8 i100 (0 + 0)).bind fun x115 =>
      ((h114).ldI .u8 i100 (0 + 2)).bind fun x116 =>
      ((h114).ldI .u8 i100 (0 + 1)).bind fun x117 =>
      alo h114 (.cells [(V.i .u8 (bvOr .u8 (bvOr .u8 x115 (shlI .u8 x116 (4 : Int))) (shlI .u8 x117 (6 : Int))))] 5 false) fun i118 h119 =>
      ((slCells h119 1 (Sl.mk (some (i118, 0)) 1 (.ex 1)))).bind fun vs122 =>
      appendV h119 5 1 1 (Sl.mk (some (i113, 0)) (Int.toNat (0 : Int)) (.ex (Int.toNat (IntKind.wrap .i64 ((5 : Int) + ((x111.len : Nat) : Int)))))) (Sl.mk (some (i118, 0)) 1 (.ex 1)).len vs122 fun s120 h121 =>
      ((h121).ldI .u16 i100 ((0 + 3) + 0)).bind fun x123 =>
      ((h121).ldI .u16 i100 ((0 + 3) + 1)).bind fun x124 =>
      ((h121).ldI .u8 i100 ((0 + 3) + 2)).bind fun x125 =>
      kN i100 0 s120 (bvOr .u32 (bvOr .u32 (IntKind.wrap .u32 x123) (shlI .u32 (IntKind.wrap .u32 x124) (14 : Int))) (shlI .u32 (IntKind.wrap .u32 x125) (28 : Int))) (0 : Int) h121)
    else (
      none))
theorem g17_p0_eq (a18 : T18) {R : Type} (c2 : Code) (t0_0 : Int) (t0_1 : Int) (t0_2 : Int) (t0_3 : Int) (t0_4 : Int) (t0_5 : Int) (t0_6 : Sl) (H : Heap) (K : Ex → Fr → Heap → Option R) : ev Tryd.prog (E17 a18) loopLim Tryd.f17.ntmps kp17 (.seq (codeAt [0] b17) (.seq (codeAt [1, 0, 0] b17) (.seq (codeAt [1, 0, 1, 0] b17) (.seq (.cond (.tmp 11) (.seq (codeAt [1, 0, 1, 1, 0, 0] b17) .ret) .skip) (.seq (codeAt [1, 1, 0] b17) (.seq (codeAt [1, 1, 1, 0] b17) (.seq (codeAt [1, 1, 1, 1, 0] b17) (.seq (codeAt [1, 1, 1, 1, 1, 0, 0] b17) c2)))))))) [(0, (V.agg [(V.i .u8 t0_0), (V.i .u8 t0_1), (V.i .u8 t0_2), (V.i .u16 t0_3), (V.i .u16 t0_4), (V.i .u8 t0_5), (V.sl t0_6)]))] H K = g17_p0 a18 R t0_0 t0_1 t0_2 t0_3 t0_4 t0_5 t0_6 H (fun t1_0 t1_1 t5 t6 t7 H => ev Tryd.prog (E17 a18) loopLim Tryd.f17.ntmps kp17 c2 [(1, (V.p (some (t1_0, t1_1)))), (5, (V.sl t5)), (6, (V.i .u32 t6)), (7, (V.i .i64 t7))] H K) (fun t2 t3 H => K .ret [(2, (V.sl t2)), (3, (V.i .i64 t3))] H) := by kernel_rfl
theorem g17_p0_lin {a18 : T18} (la18 : Lin18 a18) {R S : Type} {k : S → Option R} {t0_0 : Int} {t0_1 : Int} {t0_2 : Int} {t0_3 : Int} {t0_4 : Int} {t0_5 : Int} {t0_6 : Sl} {H : Heap} {fkN : Nat → Nat → Sl → Int → Int → Heap → Option R} {gkN : Nat → Nat → Sl → Int → Int → Heap → Option S} {fkR : Sl → Int → Heap → Option R} {gkR : Sl → Int → Heap → Option S} (hkN : ∀ t1_0 t1_1 t5 t6 t7 H, fkN t1_0 t1_1 t5 t6 t7 H = (gkN t1_0 t1_1 t5 t6 t7 H).bind k) (hkR : ∀ t2 t3 H, fkR t2 t3 H = (gkR t2 t3 H).bind k) : g17_p0 a18 R t0_0 t0_1 t0_2 t0_3 t0_4 t0_5 t0_6 H fkN fkR = (g17_p0 a18 S t0_0 t0_1 t0_2 t0_3 t0_4 t0_5 t0_6 H gkN gkR).bind k := by
  delta g17_p0; exact (
    alo_lin fun i100 h101 =>
    bl fun x102 =>
    bl fun x103 =>
    bl fun x104 =>
    bl fun x105 =>
    bl fun x106 =>
    bl fun x107 =>
    bl fun x108 =>
    la18.l fun x109 h110 =>
    sl_lin (
      hkR _ _ _) (
      bl fun x111 =>
      il (
        bl fun vs112 =>
        alo_lin fun i113 h114 =>
        bl fun x115 =>
        bl fun x116 =>
        bl fun x117 =>
        alo_lin fun i118 h119 =>
        bl fun vs122 =>
        appendV_lin fun s120 h121 =>
        bl fun x123 =>
        bl fun x124 =>
        bl fun x125 =>
        hkN _ _ _ _ _ _) (
        rfl)))
noncomputable def g17_p1 (a18 : T18) (R : Type) (t1_0 : Nat) (t1_1 : Nat) (t5 : Sl) (t6 : Int) (t7 : Int) (H : Heap) (kN : Nat → Nat → Sl → Int → Int → Heap → Option R) (kE0 : Nat → Nat → Sl → Heap → Option R) : Option R :=
  sel (decide (t7 < (32 : Int))) (
    if t7 < 0 then (
      none)
    else (
      alo H (.cells [(V.i .u8 (IntKind.wrap .u8 (shrI .u32 t6 t7)))] 5 false) fun i126 h127 =>
      ((slCells h127 1 (Sl.mk (some (i126, 0)) 1 (.ex 1)))).bind fun vs130 =>
      appendV h127 5 1 1 t5 (Sl.mk (some (i126, 0)) 1 (.ex 1)).len vs130 fun s128 h129 =>
      kN t1_0 t1_1 s128 t6 (IntKind.wrap .i64 (t7 + (8 : Int))) h129)) (
    kE0 t1_0 t1_1 t5 H)
theorem g17_p1_eq (a18 : T18) (la18 : Lin18 a18) {R : Type} (t1_0 : Nat) (t1_1 : Nat) (t5 : Sl) (t6 : Int) (t7 : Int) (H : Heap) (K : Ex → Fr → Heap → Option R) : ev Tryd.prog (E17 a18) loopLim Tryd.f17.ntmps kp17 c17_0 [(1, (V.p (some (t1_0, t1_1)))), (5, (V.sl t5)), (6, (V.i .u32 t6)), (7, (V.i .i64 t7))] H K = g17_p1 a18 R t1_0 t1_1 t5 t6 t7 H (fun t1_0 t1_1 t5 t6 t7 H => K .normal [(1, (V.p (some (t1_0, t1_1)))), (5, (V.sl t5)), (6, (V.i .u32 t6)), (7, (V.i .i64 t7))] H) (fun t1_0 t1_1 t5 H => K (.exit 0) [(1, (V.p (some (t1_0, t1_1)))), (5, (V.sl t5))] H) := by kernel_rfl
theorem g17_p1_lin {a18 : T18} (la18 : Lin18 a18) {R S : Type} {k : S → Option R} {t1_0 : Nat} {t1_1 : Nat} {t5 : Sl} {t6 : Int} {t7 : Int} {H : Heap} {fkN : Nat → Nat → Sl → Int → Int → Heap → Option R} {gkN : Nat → Nat → Sl → Int → Int → Heap → Option S} {fkE0 : Nat → Nat → Sl → Heap → Option R} {gkE0 : Nat → Nat → Sl → Heap → Option S} (hkN : ∀ t1_0 t1_1 t5 t6 t7 H, fkN t1_0 t1_1 t5 t6 t7 H = (gkN t1_0 t1_1 t5 t6 t7 H).bind k) (hkE0 : ∀ t1_0 t1_1 t5 H, fkE0 t1_0 t1_1 t5 H = (gkE0 t1_0 t1_1 t5 H).bind k) : g17_p1 a18 R t1_0 t1_1 t5 t6 t7 H fkN fkE0 = (g17_p1 a18 S t1_0 t1_1 t5 t6 t7 H gkN gkE0).bind k := by
  delta g17_p1; exact (
    sl_lin (
      il (
        rfl) (
        alo_lin fun i126 h127 =>
        bl fun vs130 =>
        appendV_lin fun s128 h129 =>
        hkN _ _ _ _ _ _)) (
      hkE0 _ _ _ _))
abbrev g17_p2_S := Nat × Nat × Sl × Int × Int
abbrev g17_p2_O := Nat × Nat × Sl
def g17_p2_es (s : g17_p2_S) : Fr := [(1, (V.p (some (s.1, s.2.1)))), (5, (V.sl s.2.2.1)), (6, (V.i .u32 s.2.2.2.1)), (7, (V.i .i64 s.2.2.2.2))]
def g17_p2_er (r : g17_p2_O) : Ex × Fr := ((.exit 0), [(1, (V.p (some (r.1, r.2.1)))), (5, (V.sl r.2.2))])
noncomputable def g17_p2_b (a18 : T18) (s : g17_p2_S) (H : Heap) : Option (Rd g17_p2_S g17_p2_O × Heap) :=
  g17_p1 a18 _ s.1 s.2.1 s.2.2.1 s.2.2.2.1 s.2.2.2.2 H (fun t1_0 t1_1 t5 t6 t7 H => some (.go (t1_0, t1_1, t5, t6, t7), H)) (fun t1_0 t1_1 t5 H => some (.up (t1_0, t1_1, t5), H))
noncomputable def g17_p2 (a18 : T18) (R : Type) (t1_0 : Nat) (t1_1 : Nat) (t5 : Sl) (t6 : Int) (t7 : Int) (H : Heap) (kE0 : Nat → Nat → Sl → Heap → Option R) : Option R :=
  (tlim (g17_p2_b a18) (t1_0, t1_1, t5, t6, t7) H).bind fun p => kE0 p.1.1 p.1.2.1 p.1.2.2 p.2
theorem g17_p2_lin {a18 : T18} (la18 : Lin18 a18) {R S : Type} {k : S → Option R} {t1_0 : Nat} {t1_1 : Nat} {t5 : Sl} {t6 : Int} {t7 : Int} {H : Heap} {fkE0 : Nat → Nat → Sl → Heap → Option R} {gkE0 : Nat → Nat → Sl → Heap → Option S} (hkE0 : ∀ t1_0 t1_1 t5 H, fkE0 t1_0 t1_1 t5 H = (gkE0 t1_0 t1_1 t5 H).bind k) : g17_p2 a18 R t1_0 t1_1 t5 t6 t7 H fkE0 = (g17_p2 a18 S t1_0 t1_1 t5 t6 t7 H gkE0).bind k := by
  exact bl fun p => hkE0 _ _ _ _
theorem g17_p2_eq (a18 : T18) (la18 : Lin18 a18) {R : Type} (t1_0 : Nat) (t1_1 : Nat) (t5 : Sl) (t6 : Int) (t7 : Int) (H : Heap) (K : Ex → Fr → Heap → Option R) : ev Tryd.prog (E17 a18) loopLim Tryd.f17.ntmps kp17 c17_1 [(1, (V.p (some (t1_0, t1_1)))), (5, (V.sl t5)), (6, (V.i .u32 t6)), (7, (V.i .i64 t7))] H K = g17_p2 a18 R t1_0 t1_1 t5 t6 t7 H (fun t1_0 t1_1 t5 H => K (.exit 0) [(1, (V.p (some (t1_0, t1_1)))), (5, (V.sl t5))] H) := by
  show ev Tryd.prog (E17 a18) loopLim Tryd.f17.ntmps kp17 (.loop c17_0) [(1, (V.p (some (t1_0, t1_1)))), (5, (V.sl t5)), (6, (V.i .u32 t6)), (7, (V.i .i64 t7))] H K = _
  delta g17_p2
  refine (ev_tlim (b := g17_p2_b a18) (es := g17_p2_es) (er := g17_p2_er) (by intro r; exact nofun) (fun s H => ?_) (t1_0, t1_1, t5, t6, t7) H K).trans (bc fun p => rfl)
  exact (g17_p1_eq a18 la18 s.1 s.2.1 s.2.2.1 s.2.2.2.1 s.2.2.2.2 H ret3).trans (g17_p1_lin la18 (fun _ _ _ _ _ _ => rfl) (fun _ _ _ _ => rfl))
noncomputable def g17_p3 (a18 : T18) (R : Type) (t1_0 : Nat) (t1_1 : Nat) (t5 : Sl) (t6 : Int) (t7 : Int) (H : Heap) (kN : Nat → Nat → Sl → Heap → Option R) : Option R :=
  g17_p2 a18 R t1_0 t1_1 t5 t6 t7 H (fun t1_0 t1_1 t5 H => kN t1_0 t1_1 t5 H)
theorem g17_p3_lin {a18 : T18} (la18 : Lin18 a18) {R S : Type} {k : S → Option R} {t1_0 : Nat} {t1_1 : Nat} {t5 : Sl} {t6 : Int} {t7 : Int} {H : Heap} {fkN : Nat → Nat → Sl → Heap → Option R} {gkN : Nat → Nat → Sl → Heap → Option S} (hkN : ∀ t1_0 t1_1 t5 H, fkN t1_0 t1_1 t5 H = (gkN t1_0 t1_1 t5 H).bind k) : g17_p3 a18 R t1_0 t1_1 t5 t6 t7 H fkN = (g17_p3 a18 S t1_0 t1_1 t5 t6 t7 H gkN).bind k := by
  exact g17_p2_lin la18 (fun _ _ _ _ => hkN _ _ _ _)
theorem g17_p3_eq (a18 : T18) (la18 : Lin18 a18) {R : Type} (t1_0 : Nat) (t1_1 : Nat) (t5 : Sl) (t6 : Int) (t7 : Int) (H : Heap) (K : Ex → Fr → Heap → Option R) : ev Tryd.prog (E17 a18) loopLim Tryd.f17.ntmps kp17 c17_2 [(1, (V.p (some (t1_0, t1_1)))), (5, (V.sl t5)), (6, (V.i .u32 t6)), (7, (V.i .i64 t7))] H K = g17_p3 a18 R t1_0 t1_1 t5 t6 t7 H (fun t1_0 t1_1 t5 H => K .normal [(1, (V.p (some (t1_0, t1_1)))), (5, (V.sl t5))] H) := by
  show ev Tryd.prog (E17 a18) loopLim Tryd.f17.ntmps kp17 (.block 0 c17_1) [(1, (V.p (some (t1_0, t1_1)))), (5, (V.sl t5)), (6, (V.i .u32 t6)), (7, (V.i .i64 t7))] H K = _
  rw [ev_block]
  delta g17_p3
  exact (g17_p2_eq a18 la18 t1_0 t1_1 t5 t6 t7 H (kBlock kp17 0 K))
noncomputable def g17_p4 (a18 : T18) (R : Type) (t1_0 : Nat) (t1_1 : Nat) (t5 : Sl) (H : Heap) (kR : Sl → Int → Heap → Option R) : Option R :=
  ((H).ldSl t1_0 (t1_1 + 6)).bind fun x131 =>
  ((slCells H 1 x131)).bind fun vs134 =>
  appendV H 5 1 1 t5 x131.len vs134 fun s132 h133 =>
  kR s132 (0 : Int) h133
theorem g17_p4_eq (a18 : T18) (la18 : Lin18 a18) {R : Type} (t1_0 : Nat) (t1_1 : Nat) (t5 : Sl) (H : Heap) (K : Ex → Fr → Heap → Option R) : ev Tryd.prog (E17 a18) loopLim Tryd.f17.ntmps kp17 c17_3 [(1, (V.p (some (t1_0, t1_1)))), (5, (V.sl t5))] H K = g17_p4 a18 R t1_0 t1_1 t5 H (fun t2 t3 H => K .ret [(2, (V.sl t2)), (3, (V.i .i64 t3))] H) := by kernel_rfl
theorem g17_p4_lin {a18 : T18} (la18 : Lin18 a18) {R S : Type} {k : S → Option R} {t1_0 : Nat} {t1_1 : Nat} {t5 : Sl} {H : Heap} {fkR : Sl → Int → Heap → Option R} {gkR : Sl → Int → Heap → Option S} (hkR : ∀ t2 t3 H, fkR t2 t3 H = (gkR t2 t3 H).bind k) : g17_p4 a18 R t1_0 t1_1 t5 H fkR = (g17_p4 a18 S t1_0 t1_1 t5 H gkR).bind k := by
  delta g17_p4; exact (
    bl fun x131 =>
    bl fun vs134 =>
    appendV_lin fun s132 h133 =>
    hkR _ _ _)
noncomputable def g17_p5 (a18 : T18) (R : Type) (t1_0 : Nat) (t1_1 : Nat) (t5 : Sl) (t6 : Int) (t7 : Int) (H : Heap) (kR : Sl → Int → Heap → Option R) : Option R :=
  g17_p3 a18 R t1_0 t1_1 t5 t6 t7 H (fun t1_0 t1_1 t5 H => g17_p4 a18 R t1_0 t1_1 t5 H (fun t2 t3 H => kR t2 t3 H))
theorem g17_p5_lin {a18 : T18} (la18 : Lin18 a18) {R S : Type} {k : S → Option R} {t1_0 : Nat} {t1_1 : Nat} {t5 : Sl} {t6 : Int} {t7 : Int} {H : Heap} {fkR : Sl → Int → Heap → Option R} {gkR : Sl → Int → Heap → Option S} (hkR : ∀ t2 t3 H, fkR t2 t3 H = (gkR t2 t3 H).bind k) : g17_p5 a18 R t1_0 t1_1 t5 t6 t7 H fkR = (g17_p5 a18 S t1_0 t1_1 t5 t6 t7 H gkR).bind k := by
  exact g17_p3_lin la18 (fun _ _ _ _ => g17_p4_lin la18 (fun _ _ _ => hkR _ _ _))
theorem g17_p5_eq (a18 : T18) (la18 : Lin18 a18) {R : Type} (t1_0 : Nat) (t1_1 : Nat) (t5 : Sl) (t6 : Int) (t7 : Int) (H : Heap) (K : Ex → Fr → Heap → Option R) : ev Tryd.prog (E17 a18) loopLim Tryd.f17.ntmps kp17 c17_4 [(1, (V.p (some (t1_0, t1_1)))), (5, (V.sl t5)), (6, (V.i .u32 t6)), (7, (V.i .i64 t7))] H K = g17_p5 a18 R t1_0 t1_1 t5 t6 t7 H (fun t2 t3 H => K .ret [(2, (V.sl t2)), (3, (V.i .i64 t3))] H) := by
  show ev Tryd.prog (E17 a18) loopLim Tryd.f17.ntmps kp17 (.seq c17_2 c17_3) [(1, (V.p (some (t1_0, t1_1)))), (5, (V.sl t5)), (6, (V.i .u32 t6)), (7, (V.i .i64 t7))] H K = _
  rw [ev_seq]
  delta g17_p5
  exact (g17_p3_eq a18 la18 t1_0 t1_1 t5 t6 t7 H (kSeq (fun fr H => ev Tryd.prog (E17 a18) loopLim Tryd.f17.ntmps kp17 c17_3 fr H K) K)).trans (congrArg (g17_p3 a18 R t1_0 t1_1 t5 t6 t7 H) (funext fun t1_0 => funext fun t1_1 => funext fun t5 => funext fun H => (kSeq_n _ _ _ _).trans (g17_p4_eq a18 la18 t1_0 t1_1 t5 H K)))
noncomputable def g17_p6 (a18 : T18) (R : Type) (t0_0 : Int) (t0_1 : Int) (t0_2 : Int) (t0_3 : Int) (t0_4 : Int) (t0_5 : Int) (t0_6 : Sl) (H : Heap) (kR : Sl → Int → Heap → Option R) : Option R :=
  g17_p0 a18 R t0_0 t0_1 t0_2 t0_3 t0_4 t0_5 t0_6 H (fun t1_0 t1_1 t5 t6 t7 H => g17_p5 a18 R t1_0 t1_1 t5 t6 t7 H (fun t2 t3 H => kR t2 t3 H)) (fun t2 t3 H => kR t2 t3 H)
theorem g17_p6_lin {a18 : T18} (la18 : Lin18 a18) {R S : Type} {k : S → Option R} {t0_0 : Int} {t0_1 : Int} {t0_2 : Int} {t0_3 : Int} {t0_4 : Int} {t0_5 : Int} {t0_6 : Sl} {H : Heap} {fkR : Sl → Int → Heap → Option R} {gkR : Sl → Int → Heap → Option S} (hkR : ∀ t2 t3 H, fkR t2 t3 H = (gkR t2 t3 H).bind k) : g17_p6 a18 R t0_0 t0_1 t0_2 t0_3 t0_4 t0_5 t0_6 H fkR = (g17_p6 a18 S t0_0 t0_1 t0_2 t0_3 t0_4 t0_5 t0_6 H gkR).bind k := by
  exact g17_p0_lin la18 (fun _ _ _ _ _ _ => g17_p5_lin la18 (fun _ _ _ => hkR _ _ _)) (fun _ _ _ => hkR _ _ _)
theorem g17_p6_eq (a18 : T18) (la18 : Lin18 a18) {R : Type} (t0_0 : Int) (t0_1 : Int) (t0_2 : Int) (t0_3 : Int) (t0_4 : Int) (t0_5 : Int) (t0_6 : Sl) (H : Heap) (K : Ex → Fr → Heap → Option R) : ev Tryd.prog (E17 a18) loopLim Tryd.f17.ntmps kp17 c17_5 [(0, (V.agg [(V.i .u8 t0_0), (V.i .u8 t0_1), (V.i .u8 t0_2), (V.i .u16 t0_3), (V.i .u16 t0_4), (V.i .u8 t0_5), (V.sl t0_6)]))] H K = g17_p6 a18 R t0_0 t0_1 t0_2 t0_3 t0_4 t0_5 t0_6 H (fun t2 t3 H => K .ret [(2, (V.sl t2)), (3, (V.i .i64 t3))] H) := by
  show ev Tryd.prog (E17 a18) loopLim Tryd.f17.ntmps kp17 (.seq (codeAt [0] b17) (.seq (codeAt [1, 0, 0] b17) (.seq (codeAt [1, 0, 1, 0] b17) (.seq (.cond (.tmp 11) (.seq (codeAt [1, 0, 1, 1, 0, 0] b17) .ret) .skip) (.seq (codeAt [1, 1, 0] b17) (.seq (codeAt [1, 1, 1, 0] b17) (.seq (codeAt [1, 1, 1, 1, 0] b17) (.seq (codeAt [1, 1, 1, 1, 1, 0, 0] b17) c17_4)))))))) [(0, (V.agg [(V.i .u8 t0_0), (V.i .u8 t0_1), (V.i .u8 t0_2), (V.i .u16 t0_3), (V.i .u16 t0_4), (V.i .u8 t0_5), (V.sl t0_6)]))] H K = _
  delta g17_p6
  exact (g17_p0_eq a18 _ t0_0 t0_1 t0_2 t0_3 t0_4 t0_5 t0_6 H K).trans (congr (congrArg (g17_p0 a18 R t0_0 t0_1 t0_2 t0_3 t0_4 t0_5 t0_6 H) (funext fun t1_0 => funext fun t1_1 => funext fun t5 => funext fun t6 => funext fun t7 => funext fun H => g17_p5_eq a18 la18 t1_0 t1_1 t5 t6 t7 H K)) rfl)
noncomputable def g17_r (a18 : T18) : T17 := fun R t0_0 t0_1 t0_2 t0_3 t0_4 t0_5 t0_6 H K =>
  g17_p6 a18 R t0_0 t0_1 t0_2 t0_3 t0_4 t0_5 t0_6 H (fun t2 t3 H =>
    K t2 t3 H)
theorem g17_r_lin {a18 : T18} (la18 : Lin18 a18) : Lin17 (g17_r a18) := by
  constructor
  intro R S k t0_0 t0_1 t0_2 t0_3 t0_4 t0_5 t0_6 H f g h
  exact g17_p6_lin la18 (fun t2 t3 H =>
    h _ _ _)
theorem g17_fn (a18 : T18) (la18 : Lin18 a18) {R : Type} (t0_0 : Int) (t0_1 : Int) (t0_2 : Int) (t0_3 : Int) (t0_4 : Int) (t0_5 : Int) (t0_6 : Sl) (H : Heap) (K : V → Heap → Option R) : evFn Tryd.prog (E17 a18) loopLim Tryd.f17 kp17 [(V.agg [(V.i .u8 t0_0), (V.i .u8 t0_1), (V.i .u8 t0_2), (V.i .u16 t0_3), (V.i .u16 t0_4), (V.i .u8 t0_5), (V.sl t0_6)])] H K = g17_r a18 R t0_0 t0_1 t0_2 t0_3 t0_4 t0_5 t0_6 H (fun r0 r1 H => K (V.tup [(V.sl r0), (V.i .i64 r1)]) H) := by
  have h0 : ∀ (t2 : Sl) (t3 : Int) (H : Heap), kFn Tryd.prog Tryd.f17.results.toList K .ret [(2, (V.sl t2)), (3, (V.i .i64 t3))] H =
      K (V.tup [(V.sl t2), (V.i .i64 t3)]) H := by intros; kernel_rfl
  have e0 := evFn_code2 (P := Tryd.prog) (c := c17_5) (E := (E17 a18)) (lr := loopLim) (kp := kp17) (fn := Tryd.f17) (args := [(V.agg [(V.i .u8 t0_0), (V.i .u8 t0_1), (V.i .u8 t0_2), (V.i .u16 t0_3), (V.i .u16 t0_4), (V.i .u8 t0_5), (V.sl t0_6)])]) H K (by kernel_rfl) (Nat.le_of_ble_eq_true (by kernel_rfl)) (by kernel_rfl)
  have e1 : ev Tryd.prog (E17 a18) loopLim Tryd.f17.ntmps kp17 c17_5 (argFr 0 [(V.agg [(V.i .u8 t0_0), (V.i .u8 t0_1), (V.i .u8 t0_2), (V.i .u16 t0_3), (V.i .u16 t0_4), (V.i .u8 t0_5), (V.sl t0_6)])]) H (kFn Tryd.prog Tryd.f17.results.toList K) = ev Tryd.prog (E17 a18) loopLim Tryd.f17.ntmps kp17 c17_5 [(0, (V.agg [(V.i .u8 t0_0), (V.i .u8 t0_1), (V.i .u8 t0_2), (V.i .u16 t0_3), (V.i .u16 t0_4), (V.i .u8 t0_5), (V.sl t0_6)]))] H (kFn Tryd.prog Tryd.f17.results.toList K) := by kernel_rfl
  refine (e0.trans e1).trans ?_
  delta g17_r
  exact (g17_p6_eq a18 la18 t0_0 t0_1 t0_2 t0_3 t0_4 t0_5 t0_6 H (kFn Tryd.prog Tryd.f17.results.toList K)).trans (congrArg (g17_p6 a18 R t0_0 t0_1 t0_2 t0_3 t0_4 t0_5 t0_6 H) (funext fun t2 => funext fun t3 => funext fun H => h0 t2 t3 H))
theorem g17_ok {a18 : T18} (oa18 : FunOK Tryd.prog 18 (w18 a18)) (la18 : Lin18 a18) : FunOK Tryd.prog 17 (w17 (g17_r a18)) := by
  refine (runF_ok (E17_good oa18 la18) mixed lim_ok Tryd.func17 (by kernel_rfl) kp17).of_le fun R args H K r hk => ?_
  unfold w17 at hk
  split at hk
  · exact (g17_fn a18 la18 _ _ _ _ _ _ _ H K).trans hk
  · cases hk
def kp5 : Nat → Option (List Nat) := kpOf [(0, [1, 2]), (1, [1, 2, 11]), (2, [4]), (3, [2]), (4, [2, 5]), (5, [2, 5, 51]), (6, [2, 5]), (7, [2, 5, 55]), (8, [2, 5]), (9, [2, 5, 6, 7]), (10, [4]), (300000, [4]), (400011, [1, 2]), (400051, [2, 5]), (400055, [2, 5])]
def E5 (a12 : T12) (a17 : T17) (a18 : T18) : FEnv := [(12, w12 a12), (17, w17 a17), (18, w18 a18)]
theorem E5_good {a12 : T12} {a17 : T17} {a18 : T18} (oa12 : FunOK Tryd.prog 12 (w12 a12)) (oa17 : FunOK Tryd.prog 17 (w17 a17)) (oa18 : FunOK Tryd.prog 18 (w18 a18)) (la12 : Lin12 a12) (la17 : Lin17 a17) (la18 : Lin18 a18) : EnvGood Tryd.prog (E5 a12 a17 a18) := ((((EnvGood.nil _).cons oa18 (w18_lin la18)).cons oa17 (w17_lin la17)).cons oa12 (w12_lin la12))
theorem E5_lin {a12 : T12} {a17 : T17} {a18 : T18} (la12 : Lin12 a12) (la17 : Lin17 a17) (la18 : Lin18 a18) : EnvLin (E5 a12 a17 a18) := by
  intro g F h
  simp only [E5, List.mem_cons, List.not_mem_nil, or_false] at h
  rcases h with h | h | h
  · cases h; exact w12_lin la12
  · cases h; exact w17_lin la17
  · cases h; exact w18_lin la18
noncomputable def b5 : Code := Tryd.f5.body.getD .skip
noncomputable def c5_0 : Code := (.seq (codeAt [1, 1, 1, 1, 1, 1, 0] b5) .ret)
noncomputable def c5_1 : Code := (.seq (.cond (.tmp 51) (codeAt [1, 1, 1, 1, 0, 1, 0] b5) (.seq (codeAt [1, 1, 1, 1, 0, 1, 1, 0] b5) (.cond (.tmp 55) (codeAt [1, 1, 1, 1, 0, 1, 1, 1, 0] b5) .skip))) (.seq (codeAt [1, 1, 1, 1, 1, 0] b5) c5_0))
noncomputable def c5_2 : Code := (.seq (codeAt [0] b5) (.seq (codeAt [1, 0, 0] b5) (.seq (.cond (.tmp 11) (.seq (codeAt [1, 0, 1, 0, 0] b5) .ret) .skip) (.seq (codeAt [1, 1, 0] b5) (.seq (codeAt [1, 1, 1, 0] b5) (.seq (codeAt [1, 1, 1, 1, 0, 0] b5) c5_1))))))
noncomputable def g5_p0 (a12 : T12) (a17 : T17) (a18 : T18) (R : Type) (t0_0 : Int) (t0_1 : Int) (t0_2 : Int) (t0_3 : Int) (t0_4 : Int) (t0_5 : Int) (t0_6 : Sl) (t1 : Int) (H : Heap) (kN : Nat → Nat → Int → Bool → Heap → Option R) (kR : Bool → Heap → Option R) : Option R :=
  alo H (.cells [(V.i .u8 t0_0), (V.i .u8 t0_1), (V.i .u8 t0_2), (V.i .u16 t0_3), (V.i .u16 t0_4), (V.i .u8 t0_5), (V.sl t0_6)] 38 false) fun i268 h269 =>
  ((h269).ldSl i268 (0 + 6)).bind fun x270 =>
  sel (decide (((x270.len : Nat) : Int) > (600 : Int))) (
    a12 R h269 fun x271 h272 =>
    kR x271 h272) (
    ((h269).ldSl i268 (0 + 6)).bind fun x273 =>
    ((slCells h269 1 x273)).bind fun vs276 =>
    appendV h269 5 1 1 (Sl.mk none 0 (.ex 0)) x273.len vs276 fun s274 h275 =>
    if 0 ≤ (IntKind.wrap .i64 (Int.tmod t1 (300 : Int))) ∧ (IntKind.wrap .i64 (Int.tmod t1 (300 : Int))) ≤ 9223372036854775807 ∧ (IntKind.wrap .i64 (Int.tmod t1 (300 : Int))) * ((1 : Nat) : Int) ≤ 281474976710656 then (
      ((zeroCellsV Tryd.prog 5 (Int.toNat (IntKind.wrap .i64 (Int.tmod t1 (300 : Int)))))).bind fun vs279 =>
      appendV h275 5 1 1 s274 (Int.toNat (IntKind.wrap .i64 (Int.tmod t1 (300 : Int)))) vs279 fun s277 h278 =>
      ((h278).st i268 (0 + 6) (V.sl s277)).bind fun h281 =>
      ((h281).ldI .u8 i268 (0 + 0)).bind fun x282 =>
      sel (decide (x282 > (15 : Int))) (
        kN i268 0 (0 : Int) true h281) (
        ((h281).ldI .u8 i268 (0 + 1)).bind fun x283 =>
        sel (decide (x283 > (3 : Int))) (
          kN i268 0 (0 : Int) true h281) (
          ((h281).ldI .u8 i268 (0 + 2)).bind fun x284 =>
          sel (decide (x284 > (3 : Int))) (
            kN i268 0 (0 : Int) true h281) (
            ((h281).ldI .u16 i268 ((0 + 3) + 0)).bind fun x285 =>
            sel (decide (x285 > (16383 : Int))) (
              kN i268 0 (0 : Int) true h281) (
              ((h281).ldI .u16 i268 ((0 + 3) + 1)).bind fun x286 =>
              sel (decide (x286 > (16383 : Int))) (
                kN i268 0 (0 : Int) true h281) (
                ((h281).ldI .u8 i268 ((0 + 3) + 2)).bind fun x287 =>
                kN i268 0 (0 : Int) (decide (x287 > (15 : Int))) h281))))))
    else (
      none))
theorem g5_p0_eq (a12 : T12) (a17 : T17) (a18 : T18) {R : Type} (c2 : Code) (t0_0 : Int) (t0_1 : Int) (t0_2 : Int) (t0_3 : Int) (t0_4 : Int) (t0_5 : Int) (t0_6 : Sl) (t1 : Int) (H : Heap) (K : Ex → Fr → Heap → Option R) : ev Tryd.prog (E5 a12 a17 a18) loopLim Tryd.f5.ntmps kp5 (.seq (codeAt [0] b5) (.seq (codeAt [1, 0, 0] b5) (.seq (.cond (.tmp 11) (.seq (codeAt [1, 0, 1, 0, 0] b5) .ret) .skip) (.seq (codeAt [1, 1, 0] b5) (.seq (codeAt [1, 1, 1, 0] b5) (.seq (codeAt [1, 1, 1, 1, 0, 0] b5) c2)))))) [(0, (V.agg [(V.i .u8 t0_0), (V.i .u8 t0_1), (V.i .u8 t0_2), (V.i .u16 t0_3), (V.i .u16 t0_4), (V.i .u8 t0_5), (V.sl t0_6)])), (1, (V.i .u16 t1))] H K = g5_p0 a12 a17 a18 R t0_0 t0_1 t0_2 t0_3 t0_4 t0_5 t0_6 t1 H (fun t2_0 t2_1 t5 t51 H => ev Tryd.prog (E5 a12 a17 a18) loopLim Tryd.f5.ntmps kp5 c2 [(2, (V.p (some (t2_0, t2_1)))), (5, (V.i .i64 t5)), (51, (V.b t51))] H K) (fun t4 H => K .ret [(4, (V.b t4))] H) := by kernel_rfl
theorem g5_p0_lin {a12 : T12} {a17 : T17} {a18 : T18} (la12 : Lin12 a12) (la17 : Lin17 a17) (la18 : Lin18 a18) {R S : Type} {k : S → Option R} {t0_0 : Int} {t0_1 : Int} {t0_2 : Int} {t0_3 : Int} {t0_4 : Int} {t0_5 : Int} {t0_6 : Sl} {t1 : Int} {H : Heap} {fkN : Nat → Nat → Int → Bool → Heap → Option R} {gkN : Nat → Nat → Int → Bool → Heap → Option S} {fkR : Bool → Heap → Option R} {gkR : Bool → Heap → Option S} (hkN : ∀ t2_0 t2_1 t5 t51 H, fkN t2_0 t2_1 t5 t51 H = (gkN t2_0 t2_1 t5 t51 H).bind k) (hkR : ∀ t4 H, fkR t4 H = (gkR t4 H).bind k) : g5_p0 a12 a17 a18 R t0_0 t0_1 t0_2 t0_3 t0_4 t0_5 t0_6 t1 H fkN fkR = (g5_p0 a12 a17 a18 S t0_0 t0_1 t0_2 t0_3 t0_4 t0_5 t0_6 t1 H gkN gkR).bind k := by
  delta g5_p0; exact (
    alo_lin fun i268 h269 =>
    bl fun x270 =>
    sl_lin (
      la12.l fun x271 h272 =>
      hkR _ _) (
      bl fun x273 =>
      bl fun vs276 =>
      appendV_lin fun s274 h275 =>
      il (
        bl fun vs279 =>
        appendV_lin fun s277 h278 =>
        bl fun h281 =>
        bl fun x282 =>
        sl_lin (
          hkN _ _ _ _ _) (
          bl fun x283 =>
          sl_lin (
            hkN _ _ _ _ _) (
            bl fun x284 =>
            sl_lin (
              hkN _ _ _ _ _) (
              bl fun x285 =>
              sl_lin (
                hkN _ _ _ _ _) (
                bl fun x286 =>
                sl_lin (
                  hkN _ _ _ _ _) (
                  bl fun x287 =>
                  hkN _ _ _ _ _)))))) (
        rfl)))
noncomputable def g5_p1 (a12 : T12) (a17 : T17) (a18 : T18) (R : Type) (t2_0 : Nat) (t2_1 : Nat) (t5 : Int) (t51 : Bool) (H : Heap) (kN : Nat → Nat → Int → Sl → Int → Heap → Option R) : Option R :=
  sel t51 (
    ((H).ldI .u8 t2_0 (t2_1 + 0)).bind fun x368 =>
    ((H).ldI .u8 t2_0 (t2_1 + 1)).bind fun x369 =>
    ((H).ldI .u8 t2_0 (t2_1 + 2)).bind fun x370 =>
    ((H).ldI .u16 t2_0 (t2_1 + 3)).bind fun x371 =>
    ((H).ldI .u16 t2_0 (t2_1 + 4)).bind fun x372 =>
    ((H).ldI .u8 t2_0 (t2_1 + 5)).bind fun x373 =>
    ((H).ldSl t2_0 (t2_1 + 6)).bind fun x374 =>
    a17 R x368 x369 x370 x371 x372 x373 x374 H fun x375 x376 h377 =>
    kN t2_0 t2_1 (1 : Int) x375 x376 h377) (
    ((H).ldSl t2_0 (t2_1 + 6)).bind fun x378 =>
    sel (decide (((x378.len : Nat) : Int) > (268 : Int))) (
      ((H).ldI .u8 t2_0 (t2_1 + 0)).bind fun x379 =>
      ((H).ldI .u8 t2_0 (t2_1 + 1)).bind fun x380 =>
      ((H).ldI .u8 t2_0 (t2_1 + 2)).bind fun x381 =>
      ((H).ldI .u16 t2_0 (t2_1 + 3)).bind fun x382 =>
      ((H).ldI .u16 t2_0 (t2_1 + 4)).bind fun x383 =>
      ((H).ldI .u8 t2_0 (t2_1 + 5)).bind fun x384 =>
      ((H).ldSl t2_0 (t2_1 + 6)).bind fun x385 =>
      a17 R x379 x380 x381 x382 x383 x384 x385 H fun x386 x387 h388 =>
      kN t2_0 t2_1 (3 : Int) x386 x387 h388) (
      ((H).ldI .u8 t2_0 (t2_1 + 0)).bind fun x389 =>
      ((H).ldI .u8 t2_0 (t2_1 + 1)).bind fun x390 =>
      ((H).ldI .u8 t2_0 (t2_1 + 2)).bind fun x391 =>
      ((H).ldI .u16 t2_0 (t2_1 + 3)).bind fun x392 =>
      ((H).ldI .u16 t2_0 (t2_1 + 4)).bind fun x393 =>
      ((H).ldI .u8 t2_0 (t2_1 + 5)).bind fun x394 =>
      ((H).ldSl t2_0 (t2_1 + 6)).bind fun x395 =>
      a17 R x389 x390 x391 x392 x393 x394 x395 H fun x396 x397 h398 =>
      kN t2_0 t2_1 t5 x396 x397 h398))
theorem g5_p1_eq (a12 : T12) (a17 : T17) (a18 : T18) {R : Type} (c2 : Code) (t2_0 : Nat) (t2_1 : Nat) (t5 : Int) (t51 : Bool) (H : Heap) (K : Ex → Fr → Heap → Option R) : ev Tryd.prog (E5 a12 a17 a18) loopLim Tryd.f5.ntmps kp5 (.seq (.cond (.tmp 51) (codeAt [1, 1, 1, 1, 0, 1, 0] b5) (.seq (codeAt [1, 1, 1, 1, 0, 1, 1, 0] b5) (.cond (.tmp 55) (codeAt [1, 1, 1, 1, 0, 1, 1, 1, 0] b5) .skip))) (.seq (codeAt [1, 1, 1, 1, 1, 0] b5) c2)) [(2, (V.p (some (t2_0, t2_1)))), (5, (V.i .i64 t5)), (51, (V.b t51))] H K = g5_p1 a12 a17 a18 R t2_0 t2_1 t5 t51 H (fun t2_0 t2_1 t5 t6 t7 H => ev Tryd.prog (E5 a12 a17 a18) loopLim Tryd.f5.ntmps kp5 c2 [(2, (V.p (some (t2_0, t2_1)))), (5, (V.i .i64 t5)), (6, (V.sl t6)), (7, (V.i .i64 t7))] H K) := by kernel_rfl
theorem g5_p1_lin {a12 : T12} {a17 : T17} {a18 : T18} (la12 : Lin12 a12) (la17 : Lin17 a17) (la18 : Lin18 a18) {R S : Type} {k : S → Option R} {t2_0 : Nat} {t2_1 : Nat} {t5 : Int} {t51 : Bool} {H : Heap} {fkN : Nat → Nat → Int → Sl → Int → Heap → Option R} {gkN : Nat → Nat → Int → Sl → Int → Heap → Option S} (hkN : ∀ t2_0 t2_1 t5 t6 t7 H, fkN t2_0 t2_1 t5 t6 t7 H = (gkN t2_0 t2_1 t5 t6 t7 H).bind k) : g5_p1 a12 a17 a18 R t2_0 t2_1 t5 t51 H fkN = (g5_p1 a12 a17 a18 S t2_0 t2_1 t5 t51 H gkN).bind k := by
  delta g5_p1; exact (
    sl_lin (
      bl fun x368 =>
      bl fun x369 =>
      bl fun x370 =>
      bl fun x371 =>
      bl fun x372 =>
      bl fun x373 =>
      bl fun x374 =>
      la17.l fun x375 x376 h377 =>
      hkN _ _ _ _ _ _) (
      bl fun x378 =>
      sl_lin (
        bl fun x379 =>
        bl fun x380 =>
        bl fun x381 =>
        bl fun x382 =>
        bl fun x383 =>
        bl fun x384 =>
        bl fun x385 =>
        la17.l fun x386 x387 h388 =>
        hkN _ _ _ _ _ _) (
        bl fun x389 =>
        bl fun x390 =>
        bl fun x391 =>
        bl fun x392 =>
        bl fun x393 =>
        bl fun x394 =>
        bl fun x395 =>
        la17.l fun x396 x397 h398 =>
        hkN _ _ _ _ _ _)))
noncomputable def g5_p2 (a12 : T12) (a17 : T17) (a18 : T18) (R : Type) (t2_0 : Nat) (t2_1 : Nat) (t5 : Int) (t6 : Sl) (t7 : Int) (H : Heap) (kR : Bool → Heap → Option R) : Option R :=
  ((H).ldI .u8 t2_0 (t2_1 + 0)).bind fun x478 =>
  ((H).ldI .u8 t2_0 (t2_1 + 1)).bind fun x479 =>
  ((H).ldI .u8 t2_0 (t2_1 + 2)).bind fun x480 =>
  ((H).ldI .u16 t2_0 (t2_1 + 3)).bind fun x481 =>
  ((H).ldI .u16 t2_0 (t2_1 + 4)).bind fun x482 =>
  ((H).ldI .u8 t2_0 (t2_1 + 5)).bind fun x483 =>
  ((H).ldSl t2_0 (t2_1 + 6)).bind fun x484 =>
  a18 R x478 x479 x480 x481 x482 x483 x484 H fun x485 h486 =>
  sel (x485 == t5) (
    sel (t7 == t5) (
      sel (t7 == (0 : Int)) (
        ((h486).ldSl t2_0 (t2_1 + 6)).bind fun x487 =>
        sel (((t6.len : Nat) : Int) == (IntKind.wrap .i64 ((5 : Int) + ((x487.len : Nat) : Int)))) (
          a12 R h486 fun x488 h489 =>
          kR x488 h489) (
          sel (t7 != (0 : Int)) (
            sel (((t6.len : Nat) : Int) == (0 : Int)) (
              a12 R h486 fun x490 h491 =>
              kR x490 h491) (
              kR false h486)) (
            kR false h486))) (
        sel (t7 != (0 : Int)) (
          sel (((t6.len : Nat) : Int) == (0 : Int)) (
            a12 R h486 fun x492 h493 =>
            kR x492 h493) (
            kR false h486)) (
          kR false h486))) (
      kR false h486)) (
    kR false h486)
theorem g5_p2_eq (a12 : T12) (a17 : T17) (a18 : T18) (la12 : Lin12 a12) (la17 : Lin17 a17) (la18 : Lin18 a18) {R : Type} (t2_0 : Nat) (t2_1 : Nat) (t5 : Int) (t6 : Sl) (t7 : Int) (H : Heap) (K : Ex → Fr → Heap → Option R) : ev Tryd.prog (E5 a12 a17 a18) loopLim Tryd.f5.ntmps kp5 c5_0 [(2, (V.p (some (t2_0, t2_1)))), (5, (V.i .i64 t5)), (6, (V.sl t6)), (7, (V.i .i64 t7))] H K = g5_p2 a12 a17 a18 R t2_0 t2_1 t5 t6 t7 H (fun t4 H => K .ret [(4, (V.b t4))] H) := by kernel_rfl
theorem g5_p2_lin {a12 : T12} {a17 : T17} {a18 : T18} (la12 : Lin12 a12) (la17 : Lin17 a17) (la18 : Lin18 a18) {R S : Type} {k : S → Option R} {t2_0 : Nat} {t2_1 : Nat} {t5 : Int} {t6 : Sl} {t7 : Int} {H : Heap} {fkR : Bool → Heap → Option R} {gkR : Bool → Heap → Option S} (hkR : ∀ t4 H, fkR t4 H = (gkR t4 H).bind k) : g5_p2 a12 a17 a18 R t2_0 t2_1 t5 t6 t7 H fkR = (g5_p2 a12 a17 a18 S t2_0 t2_1 t5 t6 t7 H gkR).bind k := by
  delta g5_p2; exact (
    bl fun x478 =>
    bl fun x479 =>
    bl fun x480 =>
    bl fun x481 =>
    bl fun x482 =>
    bl fun x483 =>
    bl fun x484 =>
    la18.l fun x485 h486 =>
    sl_lin (
      sl_lin (
        sl_lin (
          bl fun x487 =>
          sl_lin (
            la12.l fun x488 h489 =>
            hkR _ _) (
            sl_lin (
              sl_lin (
                la12.l fun x490 h491 =>
                hkR _ _) (
                hkR _ _)) (
              hkR _ _))) (
          sl_lin (
            sl_lin (
              la12.l fun x492 h493 =>
              hkR _ _) (
              hkR _ _)) (
            hkR _ _))) (
        hkR _ _)) (
      hkR _ _))
noncomputable def g5_p3 (a12 : T12) (a17 : T17) (a18 : T18) (R : Type) (t2_0 : Nat) (t2_1 : Nat) (t5 : Int) (t51 : Bool) (H : Heap) (kR : Bool → Heap → Option R) : Option R :=
  g5_p1 a12 a17 a18 R t2_0 t2_1 t5 t51 H (fun t2_0 t2_1 t5 t6 t7 H => g5_p2 a12 a17 a18 R t2_0 t2_1 t5 t6 t7 H (fun t4 H => kR t4 H))
theorem g5_p3_lin {a12 : T12} {a17 : T17} {a18 : T18} (la12 : Lin12 a12) (la17 : Lin17 a17) (la18 : Lin18 a18) {R S : Type} {k : S → Option R} {t2_0 : Nat} {t2_1 : Nat} {t5 : Int} {t51 : Bool} {H : Heap} {fkR : Bool → Heap → Option R} {gkR : Bool → Heap → Option S} (hkR : ∀ t4 H, fkR t4 H = (gkR t4 H).bind k) : g5_p3 a12 a17 a18 R t2_0 t2_1 t5 t51 H fkR = (g5_p3 a12 a17 a18 S t2_0 t2_1 t5 t51 H gkR).bind k := by
  exact g5_p1_lin la12 la17 la18 (fun _ _ _ _ _ _ => g5_p2_lin la12 la17 la18 (fun _ _ => hkR _ _))
theorem g5_p3_eq (a12 : T12) (a17 : T17) (a18 : T18) (la12 : Lin12 a12) (la17 : Lin17 a17) (la18 : Lin18 a18) {R : Type} (t2_0 : Nat) (t2_1 : Nat) (t5 : Int) (t51 : Bool) (H : Heap) (K : Ex → Fr → Heap → Option R) : ev Tryd.prog (E5 a12 a17 a18) loopLim Tryd.f5.ntmps kp5 c5_1 [(2, (V.p (some (t2_0, t2_1)))), (5, (V.i .i64 t5)), (51, (V.b t51))] H K = g5_p3 a12 a17 a18 R t2_0 t2_1 t5 t51 H (fun t4 H => K .ret [(4, (V.b t4))] H) := by
  show ev Tryd.prog (E5 a12 a17 a18) loopLim Tryd.f5.ntmps kp5 (.seq (.cond (.tmp 51) (codeAt [1, 1, 1, 1, 0, 1, 0] b5) (.seq (codeAt [1, 1, 1, 1, 0, 1, 1, 0] b5) (.cond (.tmp 55) (codeAt [1, 1, 1, 1, 0, 1, 1, 1, 0] b5) .skip))) (.seq (codeAt [1, 1, 1, 1, 1, 0] b5) c5_0)) [(2, (V.p (some (t2_0, t2_1)))), (5, (V.i .i64 t5)), (51, (V.b t51))] H K = _
  delta g5_p3
  exact (g5_p1_eq a12 a17 a18 _ t2_0 t2_1 t5 t51 H K).trans (congrArg (g5_p1 a12 a17 a18 R t2_0 t2_1 t5 t51 H) (funext fun t2_0 => funext fun t2_1 => funext fun t5 => funext fun t6 => funext fun t7 => funext fun H => g5_p2_eq a12 a17 a18 la12 la17 la18 t2_0 t2_1 t5 t6 t7 H K))
noncomputable def g5_p4 (a12 : T12) (a17 : T17) (a18 : T18) (R : Type) (t0_0 : Int) (t0_1 : Int) (t0_2 : Int) (t0_3 : Int) (t0_4 : Int) (t0_5 : Int) (t0_6 : Sl) (t1 : Int) (H : Heap) (kR : Bool → Heap → Option R) : Option R :=
  g5_p0 a12 a17 a18 R t0_0 t0_1 t0_2 t0_3 t0_4 t0_5 t0_6 t1 H (fun t2_0 t2_1 t5 t51 H => g5_p3 a12 a17 a18 R t2_0 t2_1 t5 t51 H (fun t4 H => kR t4 H)) (fun t4 H => kR t4 H)
theorem g5_p4_lin {a12 : T12} {a17 : T17} {a18 : T18} (la12 : Lin12 a12) (la17 : Lin17 a17) (la18 : Lin18 a18) {R S : Type} {k : S → Option R} {t0_0 : Int} {t0_1 : Int} {t0_2 : Int} {t0_3 : Int} {t0_4 : Int} {t0_5 : Int} {t0_6 : Sl} {t1 : Int} {H : Heap} {fkR : Bool → Heap → Option R} {gkR : Bool → Heap → Option S} (hkR : ∀ t4 H, fkR t4 H = (gkR t4 H).bind k) : g5_p4 a12 a17 a18 R t0_0 t0_1 t0_2 t0_3 t0_4 t0_5 t0_6 t1 H fkR = (g5_p4 a12 a17 a18 S t0_0 t0_1 t0_2 t0_3 t0_4 t0_5 t0_6 t1 H gkR).bind k := by
  exact g5_p0_lin la12 la17 la18 (fun _ _ _ _ _ => g5_p3_lin la12 la17 la18 (fun _ _ => hkR _ _)) (fun _ _ => hkR _ _)
theorem g5_p4_eq (a12 : T12) (a17 : T17) (a18 : T18) (la12 : Lin12 a12) (la17 : Lin17 a17) (la18 : Lin18 a18) {R : Type} (t0_0 : Int) (t0_1 : Int) (t0_2 : Int) (t0_3 : Int) (t0_4 : Int) (t0_5 : Int) (t0_6 : Sl) (t1 : Int) (H : Heap) (K : Ex → Fr → Heap → Option R) : ev Tryd.prog (E5 a12 a17 a18) loopLim Tryd.f5.ntmps kp5 c5_2 [(0, (V.agg [(V.i .u8 t0_0), (V.i .u8 t0_1), (V.i .u8 t0_2), (V.i .u16 t0_3), (V.i .u16 t0_4), (V.i .u8 t0_5), (V.sl t0_6)])), (1, (V.i .u16 t1))] H K = g5_p4 a12 a17 a18 R t0_0 t0_1 t0_2 t0_3 t0_4 t0_5 t0_6 t1 H (fun t4 H => K .ret [(4, (V.b t4))] H) := by
  show ev Tryd.prog (E5 a12 a17 a18) loopLim Tryd.f5.ntmps kp5 (.seq (codeAt [0] b5) (.seq (codeAt [1, 0, 0] b5) (.seq (.cond (.tmp 11) (.seq (codeAt [1, 0, 1, 0, 0] b5) .ret) .skip) (.seq (codeAt [1, 1, 0] b5) (.seq (codeAt [1, 1, 1, 0] b5) (.seq (codeAt [1, 1, 1, 1, 0, 0] b5) c5_1)))))) [(0, (V.agg [(V.i .u8 t0_0), (V.i .u8 t0_1), (V.i .u8 t0_2), (V.i .u16 t0_3), (V.i .u16 t0_4), (V.i .u8 t0_5), (V.sl t0_6)])), (1, (V.i .u16 t1))] H K = _
  delta g5_p4
  exact (g5_p0_eq a12 a17 a18 _ t0_0 t0_1 t0_2 t0_3 t0_4 t0_5 t0_6 t1 H K).trans (congr (congrArg (g5_p0 a12 a17 a18 R t0_0 t0_1 t0_2 t0_3 t0_4 t0_5 t0_6 t1 H) (funext fun t2_0 => funext fun t2_1 => funext fun t5 => funext fun t51 => funext fun H => g5_p3_eq a12 a17 a18 la12 la17 la18 t2_0 t2_1 t5 t51 H K)) rfl)
noncomputable def g5_r (a12 : T12) (a17 : T17) (a18 : T18) : T5 := fun R t0_0 t0_1 t0_2 t0_3 t0_4 t0_5 t0_6 t1 H K =>
  g5_p4 a12 a17 a18 R t0_0 t0_1 t0_2 t0_3 t0_4 t0_5 t0_6 t1 H (fun t4 H =>
    K t4 H)
theorem g5_r_lin {a12 : T12} {a17 : T17} {a18 : T18} (la12 : Lin12 a12) (la17 : Lin17 a17) (la18 : Lin18 a18) : Lin5 (g5_r a12 a17 a18) := by
  constructor
  intro R S k t0_0 t0_1 t0_2 t0_3 t0_4 t0_5 t0_6 t1 H f g h
  exact g5_p4_lin la12 la17 la18 (fun t4 H =>
    h _ _)
theorem g5_fn (a12 : T12) (a17 : T17) (a18 : T18) (la12 : Lin12 a12) (la17 : Lin17 a17) (la18 : Lin18 a18) {R : Type} (t0_0 : Int) (t0_1 : Int) (t0_2 : Int) (t0_3 : Int) (t0_4 : Int) (t0_5 : Int) (t0_6 : Sl) (t1 : Int) (H : Heap) (K : V → Heap → Option R) : evFn Tryd.prog (E5 a12 a17 a18) loopLim Tryd.f5 kp5 [(V.agg [(V.i .u8 t0_0), (V.i .u8 t0_1), (V.i .u8 t0_2), (V.i .u16 t0_3), (V.i .u16 t0_4), (V.i .u8 t0_5), (V.sl t0_6)]), (V.i .u16 t1)] H K = g5_r a12 a17 a18 R t0_0 t0_1 t0_2 t0_3 t0_4 t0_5 t0_6 t1 H (fun r0 H => K (V.b r0) H) := by
  have h0 : ∀ (t4 : Bool) (H : Heap), kFn Tryd.prog Tryd.f5.results.toList K .ret [(4, (V.b t4))] H =
      K (V.b t4) H := by intros; kernel_rfl
  have e0 := evFn_code2 (P := Tryd.prog) (c := c5_2) (E := (E5 a12 a17 a18)) (lr := loopLim) (kp := kp5) (fn := Tryd.f5) (args := [(V.agg [(V.i .u8 t0_0), (V.i .u8 t0_1), (V.i .u8 t0_2), (V.i .u16 t0_3), (V.i .u16 t0_4), (V.i .u8 t0_5), (V.sl t0_6)]), (V.i .u16 t1)]) H K (by kernel_rfl) (Nat.le_of_ble_eq_true (by kernel_rfl)) (by kernel_rfl)
  have e1 : ev Tryd.prog (E5 a12 a17 a18) loopLim Tryd.f5.ntmps kp5 c5_2 (argFr 0 [(V.agg [(V.i .u8 t0_0), (V.i .u8 t0_1), (V.i .u8 t0_2), (V.i .u16 t0_3), (V.i .u16 t0_4), (V.i .u8 t0_5), (V.sl t0_6)]), (V.i .u16 t1)]) H (kFn Tryd.prog Tryd.f5.results.toList K) = ev Tryd.prog (E5 a12 a17 a18) loopLim Tryd.f5.ntmps kp5 c5_2 [(0, (V.agg [(V.i .u8 t0_0), (V.i .u8 t0_1), (V.i .u8 t0_2), (V.i .u16 t0_3), (V.i .u16 t0_4), (V.i .u8 t0_5), (V.sl t0_6)])), (1, (V.i .u16 t1))] H (kFn Tryd.prog Tryd.f5.results.toList K) := by kernel_rfl
  refine (e0.trans e1).trans ?_
  delta g5_r
  exact (g5_p4_eq a12 a17 a18 la12 la17 la18 t0_0 t0_1 t0_2 t0_3 t0_4 t0_5 t0_6 t1 H (kFn Tryd.prog Tryd.f5.results.toList K)).trans (congrArg (g5_p4 a12 a17 a18 R t0_0 t0_1 t0_2 t0_3 t0_4 t0_5 t0_6 t1 H) (funext fun t4 => funext fun H => h0 t4 H))
theorem g5_ok {a12 : T12} {a17 : T17} {a18 : T18} (oa12 : FunOK Tryd.prog 12 (w12 a12)) (oa17 : FunOK Tryd.prog 17 (w17 a17)) (oa18 : FunOK Tryd.prog 18 (w18 a18)) (la12 : Lin12 a12) (la17 : Lin17 a17) (la18 : Lin18 a18) : FunOK Tryd.prog 5 (w5 (g5_r a12 a17 a18)) := by
  refine (runF_ok (E5_good oa12 oa17 oa18 la12 la17 la18) mixed lim_ok Tryd.func5 (by kernel_rfl) kp5).of_le fun R args H K r hk => ?_
  unfold w5 at hk
  split at hk
  · exact (g5_fn a12 a17 a18 la12 la17 la18 _ _ _ _ _ _ _ _ H K).trans hk
  · cases hk
def kp19 : Nat → Option (List Nat) := kpOf [(0, [0]), (1, [2]), (300000, [2])]
def E19 : FEnv := []
theorem E19_good : EnvGood Tryd.prog E19 := (EnvGood.nil _)
theorem E19_lin : EnvLin E19 := fun g F h => by cases h
noncomputable def b19 : Code := Tryd.f19.body.getD .skip
noncomputable def c19_0 : Code := (.seq (codeAt [0] b19) (.seq (codeAt [1, 0] b19) .ret))
noncomputable def g19_p0 (R : Type) (t0 : Int) (H : Heap) (kR : Int → Heap → Option R) : Option R :=
  kR (bvOr .u8 (bvAnd .u8 (shlI .u8 t0 (2 : Int)) (15 : Int)) (bvAnd .u8 (shrI .u8 t0 (2 : Int)) (3 : Int))) H
theorem g19_p0_eq {R : Type} (t0 : Int) (H : Heap) (K : Ex → Fr → Heap → Option R) : ev Tryd.prog E19 loopLim Tryd.f19.ntmps kp19 c19_0 [(0, (V.i .u8 t0))] H K = g19_p0 R t0 H (fun t2 H => K .ret [(2, (V.i .u8 t2))] H) := by kernel_rfl
theorem g19_p0_lin {R S : Type} {k : S → Option R} {t0 : Int} {H : Heap} {fkR : Int → Heap → Option R} {gkR : Int → Heap → Option S} (hkR : ∀ t2 H, fkR t2 H = (gkR t2 H).bind k) : g19_p0 R t0 H fkR = (g19_p0 S t0 H gkR).bind k := by
  delta g19_p0; exact (
    hkR _ _)
noncomputable def g19_r : T19 := fun R t0 H K =>
  g19_p0 R t0 H (fun t2 H =>
    K t2 H)
theorem g19_r_lin : Lin19 (g19_r) := by
  constructor
  intro R S k t0 H f g h
  exact g19_p0_lin (fun t2 H =>
    h _ _)
theorem g19_fn {R : Type} (t0 : Int) (H : Heap) (K : V → Heap → Option R) : evFn Tryd.prog E19 loopLim Tryd.f19 kp19 [(V.i .u8 t0)] H K = g19_r R t0 H (fun r0 H => K (V.i .u8 r0) H) := by
  have h0 : ∀ (t2 : Int) (H : Heap), kFn Tryd.prog Tryd.f19.results.toList K .ret [(2, (V.i .u8 t2))] H =
      K (V.i .u8 t2) H := by intros; kernel_rfl
  have e0 := evFn_code2 (P := Tryd.prog) (c := c19_0) (E := E19) (lr := loopLim) (kp := kp19) (fn := Tryd.f19) (args := [(V.i .u8 t0)]) H K (by kernel_rfl) (Nat.le_of_ble_eq_true (by kernel_rfl)) (by kernel_rfl)
  have e1 : ev Tryd.prog E19 loopLim Tryd.f19.ntmps kp19 c19_0 (argFr 0 [(V.i .u8 t0)]) H (kFn Tryd.prog Tryd.f19.results.toList K) = ev Tryd.prog E19 loopLim Tryd.f19.ntmps kp19 c19_0 [(0, (V.i .u8 t0))] H (kFn Tryd.prog Tryd.f19.results.toList K) := by kernel_rfl
  refine (e0.trans e1).trans ?_
  delta g19_r
  exact (g19_p0_eq t0 H (kFn Tryd.prog Tryd.f19.results.toList K)).trans (congrArg (g19_p0 R t0 H) (funext fun t2 => funext fun H => h0 t2 H))
theorem g19_ok : FunOK Tryd.prog 19 (w19 (g19_r)) := by
  refine (runF_ok (E19_good) mixed lim_ok Tryd.func19 (by kernel_rfl) kp19).of_le fun R args H K r hk => ?_
  unfold w19 at hk
  split at hk
  · exact (g19_fn _ H K).trans hk
  · cases hk
def kp6 : Nat → Option (List Nat) := kpOf [(0, [0]), (1, [0, 3]), (2, [2]), (300000, [2])]
def E6 (a19 : T19) (a12 : T12) : FEnv := [(19, w19 a19), (12, w12 a12)]
theorem E6_good {a19 : T19} {a12 : T12} (oa19 : FunOK Tryd.prog 19 (w19 a19)) (oa12 : FunOK Tryd.prog 12 (w12 a12)) (la19 : Lin19 a19) (la12 : Lin12 a12) : EnvGood Tryd.prog (E6 a19 a12) := (((EnvGood.nil _).cons oa12 (w12_lin la12)).cons oa19 (w19_lin la19))
theorem E6_lin {a19 : T19} {a12 : T12} (la19 : Lin19 a19) (la12 : Lin12 a12) : EnvLin (E6 a19 a12) := by
  intro g F h
  simp only [E6, List.mem_cons, List.not_mem_nil, or_false] at h
  rcases h with h | h
  · cases h; exact w19_lin la19
  · cases h; exact w12_lin la12
noncomputable def b6 : Code := Tryd.f6.body.getD .skip
noncomputable def c6_0 : Code := (.seq (codeAt [0] b6) (.seq (codeAt [1, 0] b6) (.seq (codeAt [1, 1, 0] b6) .ret)))
noncomputable def g6_p0 (a19 : T19) (a12 : T12) (R : Type) (t0 : Int) (H : Heap) (kR : Bool → Heap → Option R) : Option R :=
  a19 R t0 H fun x1 h2 =>
  sel (x1 == (IntKind.wrap .u8 ((IntKind.wrap .u8 ((4 : Int) * (Int.tmod t0 (4 : Int)))) + (Int.tmod (IntKind.wrap .u8 (Int.tdiv t0 (4 : Int))) (4 : Int))))) (
    a19 R x1 h2 fun x3 h4 =>
    sel (x3 == (Int.tmod t0 (16 : Int))) (
      a12 R h4 fun x5 h6 =>
      kR x5 h6) (
      kR false h4)) (
    kR false h2)
theorem g6_p0_eq (a19 : T19) (a12 : T12) (la19 : Lin19 a19) (la12 : Lin12 a12) {R : Type} (t0 : Int) (H : Heap) (K : Ex → Fr → Heap → Option R) : ev Tryd.prog (E6 a19 a12) loopLim Tryd.f6.ntmps kp6 c6_0 [(0, (V.i .u8 t0))] H K = g6_p0 a19 a12 R t0 H (fun t2 H => K .ret [(2, (V.b t2))] H) := by kernel_rfl
theorem g6_p0_lin {a19 : T19} {a12 : T12} (la19 : Lin19 a19) (la12 : Lin12 a12) {R S : Type} {k : S → Option R} {t0 : Int} {H : Heap} {fkR : Bool → Heap → Option R} {gkR : Bool → Heap → Option S} (hkR : ∀ t2 H, fkR t2 H = (gkR t2 H).bind k) : g6_p0 a19 a12 R t0 H fkR = (g6_p0 a19 a12 S t0 H gkR).bind k := by
  delta g6_p0; exact (
    la19.l fun x1 h2 =>
    sl_lin (
      la19.l fun x3 h4 =>
      sl_lin (
        la12.l fun x5 h6 =>
        hkR _ _) (
        hkR _ _)) (
      hkR _ _))
noncomputable def g6_r (a19 : T19) (a12 : T12) : T6 := fun R t0 H K =>
  g6_p0 a19 a12 R t0 H (fun t2 H =>
    K t2 H)
theorem g6_r_lin {a19 : T19} {a12 : T12} (la19 : Lin19 a19) (la12 : Lin12 a12) : Lin6 (g6_r a19 a12) := by
  constructor
  intro R S k t0 H f g h
  exact g6_p0_lin la19 la12 (fun t2 H =>
    h _ _)
theorem g6_fn (a19 : T19) (a12 : T12) (la19 : Lin19 a19) (la12 : Lin12 a12) {R : Type} (t0 : Int) (H : Heap) (K : V → Heap → Option R) : evFn Tryd.prog (E6 a19 a12) loopLim Tryd.f6 kp6 [(V.i .u8 t0)] H K = g6_r a19 a12 R t0 H (fun r0 H => K (V.b r0) H) := by
  have h0 : ∀ (t2 : Bool) (H : Heap), kFn Tryd.prog Tryd.f6.results.toList K .ret [(2, (V.b t2))] H =
      K (V.b t2) H := by intros; kernel_rfl
  have e0 := evFn_code2 (P := Tryd.prog) (c := c6_0) (E := (E6 a19 a12)) (lr := loopLim) (kp := kp6) (fn := Tryd.f6) (args := [(V.i .u8 t0)]) H K (by kernel_rfl) (Nat.le_of_ble_eq_true (by kernel_rfl)) (by kernel_rfl)
  have e1 : ev Tryd.prog (E6 a19 a12) loopLim Tryd.f6.ntmps kp6 c6_0 (argFr 0 [(V.i .u8 t0)]) H (kFn Tryd.prog Tryd.f6.results.toList K) = ev Tryd.prog (E6 a19 a12) loopLim Tryd.f6.ntmps kp6 c6_0 [(0, (V.i .u8 t0))] H (kFn Tryd.prog Tryd.f6.results.toList K) := by kernel_rfl
  refine (e0.trans e1).trans ?_
  delta g6_r
  exact (g6_p0_eq a19 a12 la19 la12 t0 H (kFn Tryd.prog Tryd.f6.results.toList K)).trans (congrArg (g6_p0 a19 a12 R t0 H) (funext fun t2 => funext fun H => h0 t2 H))
theorem g6_ok {a19 : T19} {a12 : T12} (oa19 : FunOK Tryd.prog 19 (w19 a19)) (oa12 : FunOK Tryd.prog 12 (w12 a12)) (la19 : Lin19 a19) (la12 : Lin12 a12) : FunOK Tryd.prog 6 (w6 (g6_r a19 a12)) := by
  refine (runF_ok (E6_good oa19 oa12 la19 la12) mixed lim_ok Tryd.func6 (by kernel_rfl) kp6).of_le fun R args H K r hk => ?_
  unfold w6 at hk
  split at hk
  · exact (g6_fn a19 a12 la19 la12 _ H K).trans hk
  · cases hk
def kp20 : Nat → Option (List Nat) := kpOf [(0, [0, 1, 2, 6]), (1, [0, 1, 2, 6, 20]), (2, [6, 7]), (3, [6, 7]), (300000, [6, 7]), (400020, [0, 1, 2, 6])]
def E20 : FEnv := []
theorem E20_good : EnvGood Tryd.prog E20 := (EnvGood.nil _)
theorem E20_lin : EnvLin E20 := fun g F h => by cases h
noncomputable def b20 : Code := Tryd.f20.body.getD .skip
noncomputable def c20_0 : Code := (.seq (codeAt [0] b20) (.seq (codeAt [1, 0, 0] b20) (.seq (.cond (.tmp 20) (.seq (codeAt [1, 0, 1, 0, 0] b20) .ret) .skip) (.seq (codeAt [1, 1, 0] b20) .ret))))
noncomputable def g20_p0 (R : Type) (t0 : Int) (t1 : Int) (t2 : Int) (H : Heap) (kR : Nat → Nat → Int → Heap → Option R) : Option R :=
  alo H (.cells [(V.i .u16 (0 : Int)), (V.i .u16 (0 : Int)), (V.i .u8 (0 : Int))] 46 false) fun i1 h2 =>
  sel (t0 == t1) (
    ((h2).sts i1 0 [(V.i .u16 (0 : Int)), (V.i .u16 (0 : Int)), (V.i .u8 (0 : Int))]).bind fun h3 =>
    kR i1 0 (1 : Int) h3) (
    sel (decide ((if t1 > t0 then t1 else t0) > (16383 : Int))) (
      ((h2).sts i1 0 [(V.i .u16 (0 : Int)), (V.i .u16 (0 : Int)), (V.i .u8 (0 : Int))]).bind fun h4 =>
      kR i1 0 (1 : Int) h4) (
      sel (decide (t2 > (15 : Int))) (
        ((h2).sts i1 0 [(V.i .u16 (0 : Int)), (V.i .u16 (0 : Int)), (V.i .u8 (0 : Int))]).bind fun h5 =>
        kR i1 0 (1 : Int) h5) (
        ((h2).sts i1 0 [(V.i .u16 (if t1 < t0 then t1 else t0)), (V.i .u16 (if t1 > t0 then t1 else t0)), (V.i .u8 t2)]).bind fun h6 =>
        kR i1 0 (0 : Int) h6)))
theorem g20_p0_eq {R : Type} (t0 : Int) (t1 : Int) (t2 : Int) (H : Heap) (K : Ex → Fr → Heap → Option R) : ev Tryd.prog E20 loopLim Tryd.f20.ntmps kp20 c20_0 [(0, (V.i .u16 t0)), (1, (V.i .u16 t1)), (2, (V.i .u8 t2))] H K = g20_p0 R t0 t1 t2 H (fun t6_0 t6_1 t7 H => K .ret [(6, (V.p (some (t6_0, t6_1)))), (7, (V.i .i64 t7))] H) := by kernel_rfl
theorem g20_p0_lin {R S : Type} {k : S → Option R} {t0 : Int} {t1 : Int} {t2 : Int} {H : Heap} {fkR : Nat → Nat → Int → Heap → Option R} {gkR : Nat → Nat → Int → Heap → Option S} (hkR : ∀ t6_0 t6_1 t7 H, fkR t6_0 t6_1 t7 H = (gkR t6_0 t6_1 t7 H).bind k) : g20_p0 R t0 t1 t2 H fkR = (g20_p0 S t0 t1 t2 H gkR).bind k := by
  delta g20_p0; exact (
    alo_lin fun i1 h2 =>
    sl_lin (
      bl fun h3 =>
      hkR _ _ _ _) (
      sl_lin (
        bl fun h4 =>
        hkR _ _ _ _) (
        sl_lin (
          bl fun h5 =>
          hkR _ _ _ _) (
          bl fun h6 =>
          hkR _ _ _ _))))
noncomputable def g20_r : T20 := fun R t0 t1 t2 H K =>
  g20_p0 R t0 t1 t2 H (fun t6_0 t6_1 t7 H =>
    ((H).ldI .u16 t6_0 (t6_1 + 0)).bind fun x7 =>
    ((H).ldI .u16 t6_0 (t6_1 + 1)).bind fun x8 =>
    ((H).ldI .u8 t6_0 (t6_1 + 2)).bind fun x9 =>
    K x7 x8 x9 t7 H)
theorem g20_r_lin : Lin20 (g20_r) := by
  constructor
  intro R S k t0 t1 t2 H f g h
  exact g20_p0_lin (fun t6_0 t6_1 t7 H =>
    bl fun x7 =>
    bl fun x8 =>
    bl fun x9 =>
    h _ _ _ _ _)
theorem g20_fn {R : Type} (t0 : Int) (t1 : Int) (t2 : Int) (H : Heap) (K : V → Heap → Option R) : evFn Tryd.prog E20 loopLim Tryd.f20 kp20 [(V.i .u16 t0), (V.i .u16 t1), (V.i .u8 t2)] H K = g20_r R t0 t1 t2 H (fun r0_0 r0_1 r0_2 r1 H => K (V.tup [(V.agg [(V.i .u16 r0_0), (V.i .u16 r0_1), (V.i .u8 r0_2)]), (V.i .i64 r1)]) H) := by
  have h0 : ∀ (t6_0 : Nat) (t6_1 : Nat) (t7 : Int) (H : Heap), kFn Tryd.prog Tryd.f20.results.toList K .ret [(6, (V.p (some (t6_0, t6_1)))), (7, (V.i .i64 t7))] H =
      ((H).ldI .u16 t6_0 (t6_1 + 0)).bind fun x7 =>
      ((H).ldI .u16 t6_0 (t6_1 + 1)).bind fun x8 =>
      ((H).ldI .u8 t6_0 (t6_1 + 2)).bind fun x9 =>
      K (V.tup [(V.agg [(V.i .u16 x7), (V.i .u16 x8), (V.i .u8 x9)]), (V.i .i64 t7)]) H := by intros; kernel_rfl
  have e0 := evFn_code2 (P := Tryd.prog) (c := c20_0) (E := E20) (lr := loopLim) (kp := kp20) (fn := Tryd.f20) (args := [(V.i .u16 t0), (V.i .u16 t1), (V.i .u8 t2)]) H K (by kernel_rfl) (Nat.le_of_ble_eq_true (by kernel_rfl)) (by kernel_rfl)
  have e1 : ev Tryd.prog E20 loopLim Tryd.f20.ntmps kp20 c20_0 (argFr 0 [(V.i .u16 t0), (V.i .u16 t1), (V.i .u8 t2)]) H (kFn Tryd.prog Tryd.f20.results.toList K) = ev Tryd.prog E20 loopLim Tryd.f20.ntmps kp20 c20_0 [(0, (V.i .u16 t0)), (1, (V.i .u16 t1)), (2, (V.i .u8 t2))] H (kFn Tryd.prog Tryd.f20.results.toList K) := by kernel_rfl
  refine (e0.trans e1).trans ?_
  delta g20_r
  exact (g20_p0_eq t0 t1 t2 H (kFn Tryd.prog Tryd.f20.results.toList K)).trans (congrArg (g20_p0 R t0 t1 t2 H) (funext fun t6_0 => funext fun t6_1 => funext fun t7 => funext fun H => h0 t6_0 t6_1 t7 H))
theorem g20_ok : FunOK Tryd.prog 20 (w20 (g20_r)) := by
  refine (runF_ok (E20_good) mixed lim_ok Tryd.func20 (by kernel_rfl) kp20).of_le fun R args H K r hk => ?_
  unfold w20 at hk
  split at hk
  · exact (g20_fn _ _ _ H K).trans hk
  · cases hk
def kp21 : Nat → Option (List Nat) := kpOf [(0, [1, 2]), (1, [1, 2, 6]), (2, [4, 5]), (3, [1, 2, 12]), (4, [4, 5]), (5, [2, 19]), (6, [4, 5]), (7, [4, 5]), (100000, []), (200000, [1, 2]), (300000, [4, 5]), (400006, []), (400012, []), (400019, [])]
def E21 : FEnv := []
theorem E21_good : EnvGood Tryd.prog E21 := (EnvGood.nil _)
theorem E21_lin : EnvLin E21 := fun g F h => by cases h
noncomputable def b21 : Code := Tryd.f21.body.getD .skip
noncomputable def c21_0 : Code := (.seq (codeAt [0] b21) (.seq (.block 0 (.seq (codeAt [1, 0, 0, 0] b21) (.cond (.tmp 6) (.seq (codeAt [1, 0, 0, 1, 0, 0] b21) .ret) (.seq (codeAt [1, 0, 0, 1, 1, 0] b21) (.cond (.tmp 12) (.seq (codeAt [1, 0, 0, 1, 1, 1, 0, 0] b21) .ret) (.seq (codeAt [1, 0, 0, 1, 1, 1, 1, 0] b21) (.cond (.tmp 19) (.seq (codeAt [1, 0, 0, 1, 1, 1, 1, 1, 0, 0] b21) .ret) .skip))))))) (.seq (codeAt [1, 1, 0] b21) .ret)))
noncomputable def g21_p0 (R : Type) (t0_0 : Int) (t0_1 : Int) (t0_2 : Int) (t1 : Int) (H : Heap) (kR : Int → Bool → Heap → Option R) : Option R :=
  alo H (.cells [(V.i .u16 t0_0), (V.i .u16 t0_1), (V.i .u8 t0_2)] 46 false) fun i1 h2 =>
  ((h2).ldI .u16 i1 (0 + 0)).bind fun x3 =>
  ((h2).ldI .u16 i1 (0 + 1)).bind fun x4 =>
  sel (x3 == x4) (
    kR (0 : Int) false h2) (
    ((h2).ldI .u16 i1 (0 + 0)).bind fun x5 =>
    sel (x5 == t1) (
      ((h2).ldI .u16 i1 (0 + 1)).bind fun x6 =>
      kR x6 true h2) (
      ((h2).ldI .u16 i1 (0 + 1)).bind fun x7 =>
      sel (x7 == t1) (
        ((h2).ldI .u16 i1 (0 + 0)).bind fun x8 =>
        kR x8 true h2) (
        kR (0 : Int) false h2)))
theorem g21_p0_eq {R : Type} (t0_0 : Int) (t0_1 : Int) (t0_2 : Int) (t1 : Int) (H : Heap) (K : Ex → Fr → Heap → Option R) : ev Tryd.prog E21 loopLim Tryd.f21.ntmps kp21 c21_0 [(0, (V.agg [(V.i .u16 t0_0), (V.i .u16 t0_1), (V.i .u8 t0_2)])), (1, (V.i .u16 t1))] H K = g21_p0 R t0_0 t0_1 t0_2 t1 H (fun t4 t5 H => K .ret [(4, (V.i .u16 t4)), (5, (V.b t5))] H) := by kernel_rfl
theorem g21_p0_lin {R S : Type} {k : S → Option R} {t0_0 : Int} {t0_1 : Int} {t0_2 : Int} {t1 : Int} {H : Heap} {fkR : Int → Bool → Heap → Option R} {gkR : Int → Bool → Heap → Option S} (hkR : ∀ t4 t5 H, fkR t4 t5 H = (gkR t4 t5 H).bind k) : g21_p0 R t0_0 t0_1 t0_2 t1 H fkR = (g21_p0 S t0_0 t0_1 t0_2 t1 H gkR).bind k := by
  delta g21_p0; exact (
    alo_lin fun i1 h2 =>
    bl fun x3 =>
    bl fun x4 =>
    sl_lin (
      hkR _ _ _) (
      bl fun x5 =>
      sl_lin (
        bl fun x6 =>
        hkR _ _ _) (
        bl fun x7 =>
        sl_lin (
          bl fun x8 =>
          hkR _ _ _) (
          hkR _ _ _))))
noncomputable def g21_r : T21 := fun R t0_0 t0_1 t0_2 t1 H K =>
  g21_p0 R t0_0 t0_1 t0_2 t1 H (fun t4 t5 H =>
    K t4 t5 H)
theorem g21_r_lin : Lin21 (g21_r) := by
  constructor
  intro R S k t0_0 t0_1 t0_2 t1 H f g h
  exact g21_p0_lin (fun t4 t5 H =>
    h _ _ _)
theorem g21_fn {R : Type} (t0_0 : Int) (t0_1 : Int) (t0_2 : Int) (t1 : Int) (H : Heap) (K : V → Heap → Option R) : evFn Tryd.prog E21 loopLim Tryd.f21 kp21 [(V.agg [(V.i .u16 t0_0), (V.i .u16 t0_1), (V.i .u8 t0_2)]), (V.i .u16 t1)] H K = g21_r R t0_0 t0_1 t0_2 t1 H (fun r0 r1 H => K (V.tup [(V.i .u16 r0), (V.b r1)]) H) := by
  have h0 : ∀ (t4 : Int) (t5 : Bool) (H : Heap), kFn Tryd.prog Tryd.f21.results.toList K .ret [(4, (V.i .u16 t4)), (5, (V.b t5))] H =
      K (V.tup [(V.i .u16 t4), (V.b t5)]) H := by intros; kernel_rfl
  have e0 := evFn_code2 (P := Tryd.prog) (c := c21_0) (E := E21) (lr := loopLim) (kp := kp21) (fn := Tryd.f21) (args := [(V.agg [(V.i .u16 t0_0), (V.i .u16 t0_1), (V.i .u8 t0_2)]), (V.i .u16 t1)]) H K (by kernel_rfl) (Nat.le_of_ble_eq_true (by kernel_rfl)) (by kernel_rfl)
  have e1 : ev Tryd.prog E21 loopLim Tryd.f21.ntmps kp21 c21_0 (argFr 0 [(V.agg [(V.i .u16 t0_0), (V.i .u16 t0_1), (V.i .u8 t0_2)]), (V.i .u16 t1)]) H (kFn Tryd.prog Tryd.f21.results.toList K) = ev Tryd.prog E21 loopLim Tryd.f21.ntmps kp21 c21_0 [(0, (V.agg [(V.i .u16 t0_0), (V.i .u16 t0_1), (V.i .u8 t0_2)])), (1, (V.i .u16 t1))] H (kFn Tryd.prog Tryd.f21.results.toList K) := by kernel_rfl
  refine (e0.trans e1).trans ?_
  delta g21_r
  exact (g21_p0_eq t0_0 t0_1 t0_2 t1 H (kFn Tryd.prog Tryd.f21.results.toList K)).trans (congrArg (g21_p0 R t0_0 t0_1 t0_2 t1 H) (funext fun t4 => funext fun t5 => funext fun H => h0 t4 t5 H))
theorem g21_ok : FunOK Tryd.prog 21 (w21 (g21_r)) := by
  refine (runF_ok (E21_good) mixed lim_ok Tryd.func21 (by kernel_rfl) kp21).of_le fun R args H K r hk => ?_
  unfold w21 at hk
  split at hk
  · exact (g21_fn _ _ _ _ H K).trans hk
  · cases hk
end Go.Proofs.YtgdkkpjmjnknoaaDoor

