/- Printed: functions as the machine runs them. -/
import Derived.Test.YtgdkkpjmjnknoaaDoorGT
namespace Go.Proofs.YtgdkkpjmjnknoaaDoor
open Go AM Go.RowKit
set_option linter.unusedVariables false
def kp11 : Nat → Option (List Nat) := kpOf [(0, [0]), (1, [0, 8]), (2, [2]), (3, [3]), (4, [3, 4]), (5, [4, 20, 21]), (6, [4, 20, 21, 22]), (7, [4, 6, 20, 21]), (8, [4, 20, 21]), (9, [4, 20, 21]), (10, [2]), (100000, [4]), (100001, [4, 20, 21]), (200000, [4, 20, 21]), (200001, [4, 20, 21]), (300000, [2]), (400008, [0]), (400022, [4, 20, 21])]
def E11 (a29 : T29) (a30 : T30) : FEnv := [(29, w29 a29), (30, w30 a30)]
theorem E11_good {a29 : T29} {a30 : T30} (oa29 : FunOK Tryd.prog 29 (w29 a29)) (oa30 : FunOK Tryd.prog 30 (w30 a30)) (la29 : Lin29 a29) (la30 : Lin30 a30) : EnvGood Tryd.prog (E11 a29 a30) := (((EnvGood.nil _).cons oa30 (w30_lin la30)).cons oa29 (w29_lin la29))
theorem E11_lin {a29 : T29} {a30 : T30} (la29 : Lin29 a29) (la30 : Lin30 a30) : EnvLin (E11 a29 a30) := by
  intro g F h
  simp only [E11, List.mem_cons, List.not_mem_nil, or_false] at h
  rcases h with h | h
  · cases h; exact w29_lin la29
  · cases h; exact w30_lin la30
noncomputable def b11 : Code := Tryd.f11.body.getD .skip
noncomputable def c11_0 : Code := (.seq (codeAt [1, 1, 1, 1, 0, 1, 0, 0, 0] b11) (.seq (.cond (.tmp 22) .skip (.exit 0)) (.seq (.block 1 (.seq (codeAt [1, 1, 1, 1, 0, 1, 0, 0, 1, 1, 0, 0, 0] b11) (codeAt [1, 1, 1, 1, 0, 1, 0, 0, 1, 1, 0, 0, 1] b11))) (codeAt [1, 1, 1, 1, 0, 1, 0, 0, 1, 1, 1] b11))))
noncomputable def c11_1 : Code := (.loop c11_0)
noncomputable def c11_2 : Code := (.block 0 c11_1)
noncomputable def c11_3 : Code := (.seq (codeAt [1, 1, 1, 1, 1, 0] b11) .ret)
noncomputable def c11_4 : Code := (.seq c11_2 c11_3)
noncomputable def c11_5 : Code := (.seq (codeAt [0] b11) (.seq (codeAt [1, 0, 0] b11) (.seq (.cond (.tmp 8) (.seq (codeAt [1, 0, 1, 0, 0] b11) .ret) .skip) (.seq (codeAt [1, 1, 0] b11) (.seq (codeAt [1, 1, 1, 0] b11) (.seq (codeAt [1, 1, 1, 1, 0, 0] b11) c11_4))))))
noncomputable def g11_p0 (a29 : T29) (a30 : T30) (R : Type) (t0 : Int) (H : Heap) (kN : Sl → Int → Int → Int → Int → Heap → Option R) (kR : ByteArray → Heap → Option R) : Option R :=
  sel (decide (t0 > (16383 : Int))) (
    kR str0 H) (
    alo H (.cells [(V.i .i64 (0 : Int)), (V.i .i64 (0 : Int)), (V.i .i64 (0 : Int))] 67 false) fun i7 h8 =>
    ((h8).sts i7 0 [(V.i .i64 (IntKind.wrap .i64 (shrI .u16 t0 (11 : Int)))), (V.i .i64 (IntKind.wrap .i64 (bvAnd .u16 (shrI .u16 t0 (3 : Int)) (255 : Int)))), (V.i .i64 (IntKind.wrap .i64 (bvAnd .u16 t0 (7 : Int))))]).bind fun h9 =>
    ((h9).ldI .i64 i7 (0 + 0)).bind fun x10 =>
    ((h9).ldI .i64 i7 (0 + 1)).bind fun x11 =>
    ((h9).ldI .i64 i7 (0 + 2)).bind fun x12 =>
    kN (Sl.mk none 0 (.ex 0)) x10 x11 x12 (0 : Int) h9)
theorem g11_p0_eq (a29 : T29) (a30 : T30) {R : Type} (c2 : Code) (t0 : Int) (H : Heap) (K : Ex → Fr → Heap → Option R) : ev Tryd.prog (E11 a29 a30) loopLim Tryd.f11.ntmps kp11 (.seq (codeAt [0] b11) (.seq (codeAt [1, 0, 0] b11) (.seq (.cond (.tmp 8) (.seq (codeAt [1, 0, 1, 0, 0] b11) .ret) .skip) (.seq (codeAt [1, 1, 0] b11) (.seq (codeAt [1, 1, 1, 0] b11) (.seq (codeAt [1, 1, 1, 1, 0, 0] b11) c2)))))) [(0, (V.i .u16 t0))] H K = g11_p0 a29 a30 R t0 H (fun t4 t20_0 t20_1 t20_2 t21 H => ev Tryd.prog (E11 a29 a30) loopLim Tryd.f11.ntmps kp11 c2 [(4, (V.sl t4)), (20, (V.agg [(V.i .i64 t20_0), (V.i .i64 t20_1), (V.i .i64 t20_2)])), (21, (V.i .i64 t21))] H K) (fun t2 H => K .ret [(2, (V.s t2))] H) := by kernel_rfl
theorem g11_p0_lin {a29 : T29} {a30 : T30} (la29 : Lin29 a29) (la30 : Lin30 a30) {R S : Type} {k : S → Option R} {t0 : Int} {H : Heap} {fkN : Sl → Int → Int → Int → Int → Heap → Option R} {gkN : Sl → Int → Int → Int → Int → Heap → Option S} {fkR : ByteArray → Heap → Option R} {gkR : ByteArray → Heap → Option S} (hkN : ∀ t4 t20_0 t20_1 t20_2 t21 H, fkN t4 t20_0 t20_1 t20_2 t21 H = (gkN t4 t20_0 t20_1 t20_2 t21 H).bind k) (hkR : ∀ t2 H, fkR t2 H = (gkR t2 H).bind k) : g11_p0 a29 a30 R t0 H fkN fkR = (g11_p0 a29 a30 S t0 H gkN gkR).bind k := by
  delta g11_p0; exact (
    sl_lin (
      hkR _ _) (
      alo_lin fun i7 h8 =>
      bl fun h9 =>
      bl fun x10 =>
      bl fun x11 =>
      bl fun x12 =>
      hkN _ _ _ _ _ _))
noncomputable def g11_p1 (a29 : T29) (a30 : T30) (R : Type) (t4 : Sl) (t20_0 : Int) (t20_1 : Int) (t20_2 : Int) (t21 : Int) (H : Heap) (kN : Sl → Int → Int → Int → Int → Heap → Option R) (kE0 : Sl → Heap → Option R) : Option R :=
  sel (decide (t21 < (3 : Int))) (
    if 0 ≤ t21 ∧ t21 < ((3 : Nat) : Int) then (
      partV Tryd.prog 3 [(V.i .i64 t20_0), (V.i .i64 t20_1), (V.i .i64 t20_2)] (Int.toNat t21 * 1) fun x13 =>
      ((V.asI .i64 x13)).bind fun x14 =>
      a29 R x14 H fun x15 h16 =>
      alo h16 (.cells [(V.s x15)] 9 false) fun i17 h18 =>
      ((slCells h18 1 (Sl.mk (some (i17, 0)) 1 (.ex 1)))).bind fun vs21 =>
      appendV h18 9 1 16 t4 (Sl.mk (some (i17, 0)) 1 (.ex 1)).len vs21 fun s19 h20 =>
      kN s19 t20_0 t20_1 t20_2 (IntKind.wrap .i64 (t21 + (1 : Int))) h20)
    else (
      none)) (
    kE0 t4 H)
theorem g11_p1_eq (a29 : T29) (a30 : T30) (la29 : Lin29 a29) (la30 : Lin30 a30) {R : Type} (t4 : Sl) (t20_0 : Int) (t20_1 : Int) (t20_2 : Int) (t21 : Int) (H : Heap) (K : Ex → Fr → Heap → Option R) : ev Tryd.prog (E11 a29 a30) loopLim Tryd.f11.ntmps kp11 c11_0 [(4, (V.sl t4)), (20, (V.agg [(V.i .i64 t20_0), (V.i .i64 t20_1), (V.i .i64 t20_2)])), (21, (V.i .i64 t21))] H K = g11_p1 a29 a30 R t4 t20_0 t20_1 t20_2 t21 H (fun t4 t20_0 t20_1 t20_2 t21 H => K .normal [(4, (V.sl t4)), (20, (V.agg [(V.i .i64 t20_0), (V.i .i64 t20_1), (V.i .i64 t20_2)])), (21, (V.i .i64 t21))] H) (fun t4 H => K (.exit 0) [(4, (V.sl t4))] H) := by kernel_rfl
theorem g11_p1_lin {a29 : T29} {a30 : T30} (la29 : Lin29 a29) (la30 : Lin30 a30) {R S : Type} {k : S → Option R} {t4 : Sl} {t20_0 : Int} {t20_1 : Int} {t20_2 : Int} {t21 : Int} {H : Heap} {fkN : Sl → Int → Int → Int → Int → Heap → Option R} {gkN : Sl → Int → Int → Int → Int → Heap → Option S} {fkE0 : Sl → Heap → Option R} {gkE0 : Sl → Heap → Option S} (hkN : ∀ t4 t20_0 t20_1 t20_2 t21 H, fkN t4 t20_0 t20_1 t20_2 t21 H = (gkN t4 t20_0 t20_1 t20_2 t21 H).bind k) (hkE0 : ∀ t4 H, fkE0 t4 H = (gkE0 t4 H).bind k) : g11_p1 a29 a30 R t4 t20_0 t20_1 t20_2 t21 H fkN fkE0 = (g11_p1 a29 a30 S t4 t20_0 t20_1 t20_2 t21 H gkN gkE0).bind k := by
  delta g11_p1; exact (
    sl_lin (
      il (
        partV_lin fun x13 =>
        bl fun x14 =>
        la29.l fun x15 h16 =>
        alo_lin fun i17 h18 =>
        bl fun vs21 =>
        appendV_lin fun s19 h20 =>
        hkN _ _ _ _ _ _) (
        rfl)) (
      hkE0 _ _))
abbrev g11_p2_S := Sl × Int × Int × Int × Int
abbrev g11_p2_O := Sl
def g11_p2_es (s : g11_p2_S) : Fr := [(4, (V.sl s.1)), (20, (V.agg [(V.i .i64 s.2.1), (V.i .i64 s.2.2.1), (V.i .i64 s.2.2.2.1)])), (21, (V.i .i64 s.2.2.2.2))]
def g11_p2_er (r : g11_p2_O) : Ex × Fr := ((.exit 0), [(4, (V.sl r))])
noncomputable def g11_p2_b (a29 : T29) (a30 : T30) (s : g11_p2_S) (H : Heap) : Option (Rd g11_p2_S g11_p2_O × Heap) :=
  g11_p1 a29 a30 _ s.1 s.2.1 s.2.2.1 s.2.2.2.1 s.2.2.2.2 H (fun t4 t20_0 t20_1 t20_2 t21 H => some (.go (t4, t20_0, t20_1, t20_2, t21), H)) (fun t4 H => some (.up t4, H))
noncomputable def g11_p2 (a29 : T29) (a30 : T30) (R : Type) (t4 : Sl) (t20_0 : Int) (t20_1 : Int) (t20_2 : Int) (t21 : Int) (H : Heap) (kE0 : Sl → Heap → Option R) : Option R :=
  (tlim (g11_p2_b a29 a30) (t4, t20_0, t20_1, t20_2, t21) H).bind fun p => kE0 p.1 p.2
theorem g11_p2_lin {a29 : T29} {a30 : T30} (la29 : Lin29 a29) (la30 : Lin30 a30) {R S : Type} {k : S → Option R} {t4 : Sl} {t20_0 : Int} {t20_1 : Int} {t20_2 : Int} {t21 : Int} {H : Heap} {fkE0 : Sl → Heap → Option R} {gkE0 : Sl → Heap → Option S} (hkE0 : ∀ t4 H, fkE0 t4 H = (gkE0 t4 H).bind k) : g11_p2 a29 a30 R t4 t20_0 t20_1 t20_2 t21 H fkE0 = (g11_p2 a29 a30 S t4 t20_0 t20_1 t20_2 t21 H gkE0).bind k := by
  exact bl fun p => hkE0 _ _
theorem g11_p2_eq (a29 : T29) (a30 : T30) (la29 : Lin29 a29) (la30 : Lin30 a30) {R : Type} (t4 : Sl) (t20_0 : Int) (t20_1 : Int) (t20_2 : Int) (t21 : Int) (H : Heap) (K : Ex → Fr → Heap → Option R) : ev Tryd.prog (E11 a29 a30) loopLim Tryd.f11.ntmps kp11 c11_1 [(4, (V.sl t4)), (20, (V.agg [(V.i .i64 t20_0), (V.i .i64 t20_1), (V.i .i64 t20_2)])), (21, (V.i .i64 t21))] H K = g11_p2 a29 a30 R t4 t20_0 t20_1 t20_2 t21 H (fun t4 H => K (.exit 0) [(4, (V.sl t4))] H) := by
  show ev Tryd.prog (E11 a29 a30) loopLim Tryd.f11.ntmps kp11 (.loop c11_0) [(4, (V.sl t4)), (20, (V.agg [(V.i .i64 t20_0), (V.i .i64 t20_1), (V.i .i64 t20_2)])), (21, (V.i .i64 t21))] H K = _
  delta g11_p2
  refine (ev_tlim (b := g11_p2_b a29 a30) (es := g11_p2_es) (er := g11_p2_er) (by intro r; exact nofun) (fun s H => ?_) (t4, t20_0, t20_1, t20_2, t21) H K).trans (bc fun p => rfl)
  exact (g11_p1_eq a29 a30 la29 la30 s.1 s.2.1 s.2.2.1 s.2.2.2.1 s.2.2.2.2 H ret3).trans (g11_p1_lin la29 la30 (fun _ _ _ _ _ _ => rfl) (fun _ _ => rfl))
noncomputable def g11_p3 (a29 : T29) (a30 : T30) (R : Type) (t4 : Sl) (t20_0 : Int) (t20_1 : Int) (t20_2 : Int) (t21 : Int) (H : Heap) (kN : Sl → Heap → Option R) : Option R :=
  g11_p2 a29 a30 R t4 t20_0 t20_1 t20_2 t21 H (fun t4 H => kN t4 H)
theorem g11_p3_lin {a29 : T29} {a30 : T30} (la29 : Lin29 a29) (la30 : Lin30 a30) {R S : Type} {k : S → Option R} {t4 : Sl} {t20_0 : Int} {t20_1 : Int} {t20_2 : Int} {t21 : Int} {H : Heap} {fkN : Sl → Heap → Option R} {gkN : Sl → Heap → Option S} (hkN : ∀ t4 H, fkN t4 H = (gkN t4 H).bind k) : g11_p3 a29 a30 R t4 t20_0 t20_1 t20_2 t21 H fkN = (g11_p3 a29 a30 S t4 t20_0 t20_1 t20_2 t21 H gkN).bind k := by
  exact g11_p2_lin la29 la30 (fun _ _ => hkN _ _)
theorem g11_p3_eq (a29 : T29) (a30 : T30) (la29 : Lin29 a29) (la30 : Lin30 a30) {R : Type} (t4 : Sl) (t20_0 : Int) (t20_1 : Int) (t20_2 : Int) (t21 : Int) (H : Heap) (K : Ex → Fr → Heap → Option R) : ev Tryd.prog (E11 a29 a30) loopLim Tryd.f11.ntmps kp11 c11_2 [(4, (V.sl t4)), (20, (V.agg [(V.i .i64 t20_0), (V.i .i64 t20_1), (V.i .i64 t20_2)])), (21, (V.i .i64 t21))] H K = g11_p3 a29 a30 R t4 t20_0 t20_1 t20_2 t21 H (fun t4 H => K .normal [(4, (V.sl t4))] H) := by
  show ev Tryd.prog (E11 a29 a30) loopLim Tryd.f11.ntmps kp11 (.block 0 c11_1) [(4, (V.sl t4)), (20, (V.agg [(V.i .i64 t20_0), (V.i .i64 t20_1), (V.i .i64 t20_2)])), (21, (V.i .i64 t21))] H K = _
  rw [ev_block]
  delta g11_p3
  exact (g11_p2_eq a29 a30 la29 la30 t4 t20_0 t20_1 t20_2 t21 H (kBlock kp11 0 K))
noncomputable def g11_p4 (a29 : T29) (a30 : T30) (R : Type) (t4 : Sl) (H : Heap) (kR : ByteArray → Heap → Option R) : Option R :=
  a30 R t4 str1 H fun x22 h23 =>
  kR x22 h23
theorem g11_p4_eq (a29 : T29) (a30 : T30) (la29 : Lin29 a29) (la30 : Lin30 a30) {R : Type} (t4 : Sl) (H : Heap) (K : Ex → Fr → Heap → Option R) : ev Tryd.prog (E11 a29 a30) loopLim Tryd.f11.ntmps kp11 c11_3 [(4, (V.sl t4))] H K = g11_p4 a29 a30 R t4 H (fun t2 H => K .ret [(2, (V.s t2))] H) := by kernel_rfl
theorem g11_p4_lin {a29 : T29} {a30 : T30} (la29 : Lin29 a29) (la30 : Lin30 a30) {R S : Type} {k : S → Option R} {t4 : Sl} {H : Heap} {fkR : ByteArray → Heap → Option R} {gkR : ByteArray → Heap → Option S} (hkR : ∀ t2 H, fkR t2 H = (gkR t2 H).bind k) : g11_p4 a29 a30 R t4 H fkR = (g11_p4 a29 a30 S t4 H gkR).bind k := by
  delta g11_p4; exact (
    la30.l fun x22 h23 =>
    hkR _ _)
noncomputable def g11_p5 (a29 : T29) (a30 : T30) (R : Type) (t4 : Sl) (t20_0 : Int) (t20_1 : Int) (t20_2 : Int) (t21 : Int) (H : Heap) (kR : ByteArray → Heap → Option R) : Option R :=
  g11_p3 a29 a30 R t4 t20_0 t20_1 t20_2 t21 H (fun t4 H => g11_p4 a29 a30 R t4 H (fun t2 H => kR t2 H))
theorem g11_p5_lin {a29 : T29} {a30 : T30} (la29 : Lin29 a29) (la30 : Lin30 a30) {R S : Type} {k : S → Option R} {t4 : Sl} {t20_0 : Int} {t20_1 : Int} {t20_2 : Int} {t21 : Int} {H : Heap} {fkR : ByteArray → Heap → Option R} {gkR : ByteArray → Heap → Option S} (hkR : ∀ t2 H, fkR t2 H = (gkR t2 H).bind k) : g11_p5 a29 a30 R t4 t20_0 t20_1 t20_2 t21 H fkR = (g11_p5 a29 a30 S t4 t20_0 t20_1 t20_2 t21 H gkR).bind k := by
  exact g11_p3_lin la29 la30 (fun _ _ => g11_p4_lin la29 la30 (fun _ _ => hkR _ _))
theorem g11_p5_eq (a29 : T29) (a30 : T30) (la29 : Lin29 a29) (la30 : Lin30 a30) {R : Type} (t4 : Sl) (t20_0 : Int) (t20_1 : Int) (t20_2 : Int) (t21 : Int) (H : Heap) (K : Ex → Fr → Heap → Option R) : ev Tryd.prog (E11 a29 a30) loopLim Tryd.f11.ntmps kp11 c11_4 [(4, (V.sl t4)), (20, (V.agg [(V.i .i64 t20_0), (V.i .i64 t20_1), (V.i .i64 t20_2)])), (21, (V.i .i64 t21))] H K = g11_p5 a29 a30 R t4 t20_0 t20_1 t20_2 t21 H (fun t2 H => K .ret [(2, (V.s t2))] H) := by
  show ev Tryd.prog (E11 a29 a30) loopLim Tryd.f11.ntmps kp11 (.seq c11_2 c11_3) [(4, (V.sl t4)), (20, (V.agg [(V.i .i64 t20_0), (V.i .i64 t20_1), (V.i .i64 t20_2)])), (21, (V.i .i64 t21))] H K = _
  rw [ev_seq]
  delta g11_p5
  exact (g11_p3_eq a29 a30 la29 la30 t4 t20_0 t20_1 t20_2 t21 H (kSeq (fun fr H => ev Tryd.prog (E11 a29 a30) loopLim Tryd.f11.ntmps kp11 c11_3 fr H K) K)).trans (congrArg (g11_p3 a29 a30 R t4 t20_0 t20_1 t20_2 t21 H) (funext fun t4 => funext fun H => (kSeq_n _ _ _ _).trans (g11_p4_eq a29 a30 la29 la30 t4 H K)))
noncomputable def g11_p6 (a29 : T29) (a30 : T30) (R : Type) (t0 : Int) (H : Heap) (kR : ByteArray → Heap → Option R) : Option R :=
  g11_p0 a29 a30 R t0 H (fun t4 t20_0 t20_1 t20_2 t21 H => g11_p5 a29 a30 R t4 t20_0 t20_1 t20_2 t21 H (fun t2 H => kR t2 H)) (fun t2 H => kR t2 H)
theorem g11_p6_lin {a29 : T29} {a30 : T30} (la29 : Lin29 a29) (la30 : Lin30 a30) {R S : Type} {k : S → Option R} {t0 : Int} {H : Heap} {fkR : ByteArray → Heap → Option R} {gkR : ByteArray → Heap → Option S} (hkR : ∀ t2 H, fkR t2 H = (gkR t2 H).bind k) : g11_p6 a29 a30 R t0 H fkR = (g11_p6 a29 a30 S t0 H gkR).bind k := by
  exact g11_p0_lin la29 la30 (fun _ _ _ _ _ _ => g11_p5_lin la29 la30 (fun _ _ => hkR _ _)) (fun _ _ => hkR _ _)
theorem g11_p6_eq (a29 : T29) (a30 : T30) (la29 : Lin29 a29) (la30 : Lin30 a30) {R : Type} (t0 : Int) (H : Heap) (K : Ex → Fr → Heap → Option R) : ev Tryd.prog (E11 a29 a30) loopLim Tryd.f11.ntmps kp11 c11_5 [(0, (V.i .u16 t0))] H K = g11_p6 a29 a30 R t0 H (fun t2 H => K .ret [(2, (V.s t2))] H) := by
  show ev Tryd.prog (E11 a29 a30) loopLim Tryd.f11.ntmps kp11 (.seq (codeAt [0] b11) (.seq (codeAt [1, 0, 0] b11) (.seq (.cond (.tmp 8) (.seq (codeAt [1, 0, 1, 0, 0] b11) .ret) .skip) (.seq (codeAt [1, 1, 0] b11) (.seq (codeAt [1, 1, 1, 0] b11) (.seq (codeAt [1, 1, 1, 1, 0, 0] b11) c11_4)))))) [(0, (V.i .u16 t0))] H K = _
  delta g11_p6
  exact (g11_p0_eq a29 a30 _ t0 H K).trans (congr (congrArg (g11_p0 a29 a30 R t0 H) (funext fun t4 => funext fun t20_0 => funext fun t20_1 => funext fun t20_2 => funext fun t21 => funext fun H => g11_p5_eq a29 a30 la29 la30 t4 t20_0 t20_1 t20_2 t21 H K)) rfl)
noncomputable def g11_r (a29 : T29) (a30 : T30) : T11 := fun R t0 H K =>
  g11_p6 a29 a30 R t0 H (fun t2 H =>
    K t2 H)
theorem g11_r_lin {a29 : T29} {a30 : T30} (la29 : Lin29 a29) (la30 : Lin30 a30) : Lin11 (g11_r a29 a30) := by
  constructor
  intro R S k t0 H f g h
  exact g11_p6_lin la29 la30 (fun t2 H =>
    h _ _)
theorem g11_fn (a29 : T29) (a30 : T30) (la29 : Lin29 a29) (la30 : Lin30 a30) {R : Type} (t0 : Int) (H : Heap) (K : V → Heap → Option R) : evFn Tryd.prog (E11 a29 a30) loopLim Tryd.f11 kp11 [(V.i .u16 t0)] H K = g11_r a29 a30 R t0 H (fun r0 H => K (V.s r0) H) := by
  have h0 : ∀ (t2 : ByteArray) (H : Heap), kFn Tryd.prog Tryd.f11.results.toList K .ret [(2, (V.s t2))] H =
      K (V.s t2) H := by intros; kernel_rfl
  have e0 := evFn_code2 (P := Tryd.prog) (c := c11_5) (E := (E11 a29 a30)) (lr := loopLim) (kp := kp11) (fn := Tryd.f11) (args := [(V.i .u16 t0)]) H K (by kernel_rfl) (Nat.le_of_ble_eq_true (by kernel_rfl)) (by kernel_rfl)
  have e1 : ev Tryd.prog (E11 a29 a30) loopLim Tryd.f11.ntmps kp11 c11_5 (argFr 0 [(V.i .u16 t0)]) H (kFn Tryd.prog Tryd.f11.results.toList K) = ev Tryd.prog (E11 a29 a30) loopLim Tryd.f11.ntmps kp11 c11_5 [(0, (V.i .u16 t0))] H (kFn Tryd.prog Tryd.f11.results.toList K) := by kernel_rfl
  refine (e0.trans e1).trans ?_
  delta g11_r
  exact (g11_p6_eq a29 a30 la29 la30 t0 H (kFn Tryd.prog Tryd.f11.results.toList K)).trans (congrArg (g11_p6 a29 a30 R t0 H) (funext fun t2 => funext fun H => h0 t2 H))
theorem g11_ok {a29 : T29} {a30 : T30} (oa29 : FunOK Tryd.prog 29 (w29 a29)) (oa30 : FunOK Tryd.prog 30 (w30 a30)) (la29 : Lin29 a29) (la30 : Lin30 a30) : FunOK Tryd.prog 11 (w11 (g11_r a29 a30)) := by
  refine (runF_ok (E11_good oa29 oa30 la29 la30) mixed lim_ok Tryd.func11 (by kernel_rfl) kp11).of_le fun R args H K r hk => ?_
  unfold w11 at hk
  split at hk
  · exact (g11_fn a29 a30 la29 la30 _ H K).trans hk
  · cases hk
def kp31 : Nat → Option (List Nat) := kpOf [(0, [0]), (1, [0, 22]), (2, [2, 3]), (3, [0, 4]), (4, [0, 4, 24, 25]), (5, [0, 4, 24, 25, 26]), (6, [0, 4, 5, 24, 25]), (7, [0, 4, 5, 24, 25, 37]), (8, [2, 3]), (9, [0, 4, 24, 25]), (10, [0, 4, 24, 25]), (11, [2, 3]), (100000, [4]), (100001, [0, 4, 24, 25]), (200000, [0, 4, 24, 25]), (200001, [0, 4, 24, 25]), (300000, [2, 3]), (400022, [0]), (400026, [0, 4, 24, 25]), (400037, [0, 4, 5, 24, 25])]
def E31 : FEnv := []
theorem E31_good : EnvGood Tryd.prog E31 := (EnvGood.nil _)
theorem E31_lin : EnvLin E31 := fun g F h => by cases h
noncomputable def b31 : Code := Tryd.f31.body.getD .skip
noncomputable def c31_0 : Code := (.seq (codeAt [1, 1, 1, 0, 1, 0, 0, 0] b31) (.seq (.cond (.tmp 26) .skip (.exit 0)) (.seq (.block 1 (.seq (codeAt [1, 1, 1, 0, 1, 0, 0, 1, 1, 0, 0, 0] b31) (.seq (codeAt [1, 1, 1, 0, 1, 0, 0, 1, 1, 0, 0, 1, 0, 0] b31) (.seq (.cond (.tmp 37) (.seq (codeAt [1, 1, 1, 0, 1, 0, 0, 1, 1, 0, 0, 1, 0, 1, 0, 0] b31) .ret) .skip) (codeAt [1, 1, 1, 0, 1, 0, 0, 1, 1, 0, 0, 1, 1] b31))))) (codeAt [1, 1, 1, 0, 1, 0, 0, 1, 1, 1] b31))))
noncomputable def c31_1 : Code := (.loop c31_0)
noncomputable def c31_2 : Code := (.block 0 c31_1)
noncomputable def c31_3 : Code := (.seq (codeAt [1, 1, 1, 1, 0] b31) .ret)
noncomputable def c31_4 : Code := (.seq c31_2 c31_3)
noncomputable def c31_5 : Code := (.seq (.cond (.tmp 22) (.seq (codeAt [1, 0, 1, 0, 0] b31) .ret) .skip) (.seq (codeAt [1, 1, 0] b31) (.seq (codeAt [1, 1, 1, 0, 0] b31) c31_4)))
noncomputable def c31_6 : Code := (.seq (codeAt [0] b31) (.seq (codeAt [1, 0, 0] b31) c31_5))
noncomputable def g31_p0 (R : Type) (t0 : ByteArray) (H : Heap) (kN : ByteArray → Bool → Heap → Option R) : Option R :=
  sel (strEq t0 str0) (
    kN t0 true H) (
    sel (decide (((t0.size : Nat) : Int) > (3 : Int))) (
      kN t0 true H) (
      sel (decide (((t0.size : Nat) : Int) > (1 : Int))) (
        if 0 ≤ (0 : Int) ∧ (0 : Int) < ((t0.size : Nat) : Int) then (
          kN t0 ((btAt t0 (0 : Int)) == (48 : Int)) H)
        else (
          none)) (
        kN t0 false H)))
theorem g31_p0_eq {R : Type} (c2 : Code) (t0 : ByteArray) (H : Heap) (K : Ex → Fr → Heap → Option R) : ev Tryd.prog E31 loopLim Tryd.f31.ntmps kp31 (.seq (codeAt [0] b31) (.seq (codeAt [1, 0, 0] b31) c2)) [(0, (V.s t0))] H K = g31_p0 R t0 H (fun t0 t22 H => ev Tryd.prog E31 loopLim Tryd.f31.ntmps kp31 c2 [(0, (V.s t0)), (22, (V.b t22))] H K) := by kernel_rfl
theorem g31_p0_lin {R S : Type} {k : S → Option R} {t0 : ByteArray} {H : Heap} {fkN : ByteArray → Bool → Heap → Option R} {gkN : ByteArray → Bool → Heap → Option S} (hkN : ∀ t0 t22 H, fkN t0 t22 H = (gkN t0 t22 H).bind k) : g31_p0 R t0 H fkN = (g31_p0 S t0 H gkN).bind k := by
  delta g31_p0; exact (
    sl_lin (
      hkN _ _ _) (
      sl_lin (
        hkN _ _ _) (
        sl_lin (
          il (
            hkN _ _ _) (
            rfl)) (
          hkN _ _ _))))
noncomputable def g31_p1 (R : Type) (t0 : ByteArray) (t22 : Bool) (H : Heap) (kN : ByteArray → Int → Int → Int → Heap → Option R) (kR : Int → Bool → Heap → Option R) : Option R :=
  sel t22 (
    kR (0 : Int) false H) (
    kN t0 (0 : Int) ((t0.size : Nat) : Int) (0 : Int) H)
theorem g31_p1_eq {R : Type} (c2 : Code) (t0 : ByteArray) (t22 : Bool) (H : Heap) (K : Ex → Fr → Heap → Option R) : ev Tryd.prog E31 loopLim Tryd.f31.ntmps kp31 (.seq (.cond (.tmp 22) (.seq (codeAt [1, 0, 1, 0, 0] b31) .ret) .skip) (.seq (codeAt [1, 1, 0] b31) (.seq (codeAt [1, 1, 1, 0, 0] b31) c2))) [(0, (V.s t0)), (22, (V.b t22))] H K = g31_p1 R t0 t22 H (fun t0 t4 t24 t25 H => ev Tryd.prog E31 loopLim Tryd.f31.ntmps kp31 c2 [(0, (V.s t0)), (4, (V.i .i64 t4)), (24, (V.i .i64 t24)), (25, (V.i .i64 t25))] H K) (fun t2 t3 H => K .ret [(2, (V.i .i64 t2)), (3, (V.b t3))] H) := by kernel_rfl
theorem g31_p1_lin {R S : Type} {k : S → Option R} {t0 : ByteArray} {t22 : Bool} {H : Heap} {fkN : ByteArray → Int → Int → Int → Heap → Option R} {gkN : ByteArray → Int → Int → Int → Heap → Option S} {fkR : Int → Bool → Heap → Option R} {gkR : Int → Bool → Heap → Option S} (hkN : ∀ t0 t4 t24 t25 H, fkN t0 t4 t24 t25 H = (gkN t0 t4 t24 t25 H).bind k) (hkR : ∀ t2 t3 H, fkR t2 t3 H = (gkR t2 t3 H).bind k) : g31_p1 R t0 t22 H fkN fkR = (g31_p1 S t0 t22 H gkN gkR).bind k := by
  delta g31_p1; exact (
    sl_lin (
      hkR _ _ _) (
      hkN _ _ _ _ _))
noncomputable def g31_p2 (R : Type) (t0 : ByteArray) (t4 : Int) (t24 : Int) (t25 : Int) (H : Heap) (kN : ByteArray → Int → Int → Int → Heap → Option R) (kE0 : Int → Heap → Option R) (kR : Int → Bool → Heap → Option R) : Option R :=
  sel (decide (t25 < t24)) (
    if 0 ≤ t25 ∧ t25 < ((t0.size : Nat) : Int) then (
      sel (decide ((btAt t0 t25) < (48 : Int))) (
        kR (0 : Int) false H) (
        if 0 ≤ t25 ∧ t25 < ((t0.size : Nat) : Int) then (
          sel (decide ((btAt t0 t25) > (57 : Int))) (
            kR (0 : Int) false H) (
            if 0 ≤ t25 ∧ t25 < ((t0.size : Nat) : Int) then (
              kN t0 (IntKind.wrap .i64 ((IntKind.wrap .i64 ((10 : Int) * t4)) + (IntKind.wrap .i64 (IntKind.wrap .u8 ((btAt t0 t25) - (48 : Int)))))) t24 (IntKind.wrap .i64 (t25 + (1 : Int))) H)
            else (
              none)))
        else (
          none)))
    else (
      none)) (
    kE0 t4 H)
theorem g31_p2_eq {R : Type} (t0 : ByteArray) (t4 : Int) (t24 : Int) (t25 : Int) (H : Heap) (K : Ex → Fr → Heap → Option R) : ev Tryd.prog E31 loopLim Tryd.f31.ntmps kp31 c31_0 [(0, (V.s t0)), (4, (V.i .i64 t4)), (24, (V.i .i64 t24)), (25, (V.i .i64 t25))] H K = g31_p2 R t0 t4 t24 t25 H (fun t0 t4 t24 t25 H => K .normal [(0, (V.s t0)), (4, (V.i .i64 t4)), (24, (V.i .i64 t24)), (25, (V.i .i64 t25))] H) (fun t4 H => K (.exit 0) [(4, (V.i .i64 t4))] H) (fun t2 t3 H => K .ret [(2, (V.i .i64 t2)), (3, (V.b t3))] H) := by kernel_rfl
theorem g31_p2_lin {R S : Type} {k : S → Option R} {t0 : ByteArray} {t4 : Int} {t24 : Int} {t25 : Int} {H : Heap} {fkN : ByteArray → Int → Int → Int → Heap → Option R} {gkN : ByteArray → Int → Int → Int → Heap → Option S} {fkE0 : Int → Heap → Option R} {gkE0 : Int → Heap → Option S} {fkR : Int → Bool → Heap → Option R} {gkR : Int → Bool → Heap → Option S} (hkN : ∀ t0 t4 t24 t25 H, fkN t0 t4 t24 t25 H = (gkN t0 t4 t24 t25 H).bind k) (hkE0 : ∀ t4 H, fkE0 t4 H = (gkE0 t4 H).bind k) (hkR : ∀ t2 t3 H, fkR t2 t3 H = (gkR t2 t3 H).bind k) : g31_p2 R t0 t4 t24 t25 H fkN fkE0 fkR = (g31_p2 S t0 t4 t24 t25 H gkN gkE0 gkR).bind k := by
  delta g31_p2; exact (
    sl_lin (
      il (
        sl_lin (
          hkR _ _ _) (
          il (
            sl_lin (
              hkR _ _ _) (
              il (
                hkN _ _ _ _ _) (
                rfl))) (
            rfl))) (
        rfl)) (
      hkE0 _ _))
abbrev g31_p3_S := ByteArray × Int × Int × Int
abbrev g31_p3_O := Sum (Int) (Int × Bool)
def g31_p3_es (s : g31_p3_S) : Fr := [(0, (V.s s.1)), (4, (V.i .i64 s.2.1)), (24, (V.i .i64 s.2.2.1)), (25, (V.i .i64 s.2.2.2))]
def g31_p3_er : g31_p3_O → Ex × Fr
  | (.inl r) => ((.exit 0), [(4, (V.i .i64 r))])
  | (.inr r) => (.ret, [(2, (V.i .i64 r.1)), (3, (V.b r.2))])
noncomputable def g31_p3_b (s : g31_p3_S) (H : Heap) : Option (Rd g31_p3_S g31_p3_O × Heap) :=
  g31_p2 _ s.1 s.2.1 s.2.2.1 s.2.2.2 H (fun t0 t4 t24 t25 H => some (.go (t0, t4, t24, t25), H)) (fun t4 H => some (.up (.inl t4), H)) (fun t2 t3 H => some (.up (.inr (t2, t3)), H))
noncomputable def g31_p3 (R : Type) (t0 : ByteArray) (t4 : Int) (t24 : Int) (t25 : Int) (H : Heap) (kE0 : Int → Heap → Option R) (kR : Int → Bool → Heap → Option R) : Option R :=
  (tlim (g31_p3_b) (t0, t4, t24, t25) H).bind fun p => cas p.1 (fun r => kE0 r p.2) (fun r0 => kR r0.1 r0.2 p.2)
theorem g31_p3_lin {R S : Type} {k : S → Option R} {t0 : ByteArray} {t4 : Int} {t24 : Int} {t25 : Int} {H : Heap} {fkE0 : Int → Heap → Option R} {gkE0 : Int → Heap → Option S} {fkR : Int → Bool → Heap → Option R} {gkR : Int → Bool → Heap → Option S} (hkE0 : ∀ t4 H, fkE0 t4 H = (gkE0 t4 H).bind k) (hkR : ∀ t2 t3 H, fkR t2 t3 H = (gkR t2 t3 H).bind k) : g31_p3 R t0 t4 t24 t25 H fkE0 fkR = (g31_p3 S t0 t4 t24 t25 H gkE0 gkR).bind k := by
  exact bl fun p => cas_lin (fun _ => hkE0 _ _) (fun _ => hkR _ _ _)
theorem g31_p3_eq {R : Type} (t0 : ByteArray) (t4 : Int) (t24 : Int) (t25 : Int) (H : Heap) (K : Ex → Fr → Heap → Option R) : ev Tryd.prog E31 loopLim Tryd.f31.ntmps kp31 c31_1 [(0, (V.s t0)), (4, (V.i .i64 t4)), (24, (V.i .i64 t24)), (25, (V.i .i64 t25))] H K = g31_p3 R t0 t4 t24 t25 H (fun t4 H => K (.exit 0) [(4, (V.i .i64 t4))] H) (fun t2 t3 H => K .ret [(2, (V.i .i64 t2)), (3, (V.b t3))] H) := by
  show ev Tryd.prog E31 loopLim Tryd.f31.ntmps kp31 (.loop c31_0) [(0, (V.s t0)), (4, (V.i .i64 t4)), (24, (V.i .i64 t24)), (25, (V.i .i64 t25))] H K = _
  delta g31_p3
  refine (ev_tlim (b := g31_p3_b) (es := g31_p3_es) (er := g31_p3_er) (by rintro (r | r) <;> exact nofun) (fun s H => ?_) (t0, t4, t24, t25) H K).trans (bc fun p => by rcases p with ⟨(r | r), H⟩ <;> rfl)
  exact (g31_p2_eq s.1 s.2.1 s.2.2.1 s.2.2.2 H ret3).trans (g31_p2_lin (fun _ _ _ _ _ => rfl) (fun _ _ => rfl) (fun _ _ _ => rfl))
noncomputable def g31_p4 (R : Type) (t0 : ByteArray) (t4 : Int) (t24 : Int) (t25 : Int) (H : Heap) (kN : Int → Heap → Option R) (kR : Int → Bool → Heap → Option R) : Option R :=
  g31_p3 R t0 t4 t24 t25 H (fun t4 H => kN t4 H) (fun t2 t3 H => kR t2 t3 H)
theorem g31_p4_lin {R S : Type} {k : S → Option R} {t0 : ByteArray} {t4 : Int} {t24 : Int} {t25 : Int} {H : Heap} {fkN : Int → Heap → Option R} {gkN : Int → Heap → Option S} {fkR : Int → Bool → Heap → Option R} {gkR : Int → Bool → Heap → Option S} (hkN : ∀ t4 H, fkN t4 H = (gkN t4 H).bind k) (hkR : ∀ t2 t3 H, fkR t2 t3 H = (gkR t2 t3 H).bind k) : g31_p4 R t0 t4 t24 t25 H fkN fkR = (g31_p4 S t0 t4 t24 t25 H gkN gkR).bind k := by
  exact g31_p3_lin (fun _ _ => hkN _ _) (fun _ _ _ => hkR _ _ _)
theorem g31_p4_eq {R : Type} (t0 : ByteArray) (t4 : Int) (t24 : Int) (t25 : Int) (H : Heap) (K : Ex → Fr → Heap → Option R) : ev Tryd.prog E31 loopLim Tryd.f31.ntmps kp31 c31_2 [(0, (V.s t0)), (4, (V.i .i64 t4)), (24, (V.i .i64 t24)), (25, (V.i .i64 t25))] H K = g31_p4 R t0 t4 t24 t25 H (fun t4 H => K .normal [(4, (V.i .i64 t4))] H) (fun t2 t3 H => K .ret [(2, (V.i .i64 t2)), (3, (V.b t3))] H) := by
  show ev Tryd.prog E31 loopLim Tryd.f31.ntmps kp31 (.block 0 c31_1) [(0, (V.s t0)), (4, (V.i .i64 t4)), (24, (V.i .i64 t24)), (25, (V.i .i64 t25))] H K = _
  rw [ev_block]
  delta g31_p4
  exact (g31_p3_eq t0 t4 t24 t25 H (kBlock kp31 0 K))
noncomputable def g31_p5 (R : Type) (t4 : Int) (H : Heap) (kR : Int → Bool → Heap → Option R) : Option R :=
  kR t4 true H
theorem g31_p5_eq {R : Type} (t4 : Int) (H : Heap) (K : Ex → Fr → Heap → Option R) : ev Tryd.prog E31 loopLim Tryd.f31.ntmps kp31 c31_3 [(4, (V.i .i64 t4))] H K = g31_p5 R t4 H (fun t2 t3 H => K .ret [(2, (V.i .i64 t2)), (3, (V.b t3))] H) := by kernel_rfl
theorem g31_p5_lin {R S : Type} {k : S → Option R} {t4 : Int} {H : Heap} {fkR : Int → Bool → Heap → Option R} {gkR : Int → Bool → Heap → Option S} (hkR : ∀ t2 t3 H, fkR t2 t3 H = (gkR t2 t3 H).bind k) : g31_p5 R t4 H fkR = (g31_p5 S t4 H gkR).bind k := by
  delta g31_p5; exact (
    hkR _ _ _)
noncomputable def g31_p6 (R : Type) (t0 : ByteArray) (t4 : Int) (t24 : Int) (t25 : Int) (H : Heap) (kR : Int → Bool → Heap → Option R) : Option R :=
  g31_p4 R t0 t4 t24 t25 H (fun t4 H => g31_p5 R t4 H (fun t2 t3 H => kR t2 t3 H)) (fun t2 t3 H => kR t2 t3 H)
theorem g31_p6_lin {R S : Type} {k : S → Option R} {t0 : ByteArray} {t4 : Int} {t24 : Int} {t25 : Int} {H : Heap} {fkR : Int → Bool → Heap → Option R} {gkR : Int → Bool → Heap → Option S} (hkR : ∀ t2 t3 H, fkR t2 t3 H = (gkR t2 t3 H).bind k) : g31_p6 R t0 t4 t24 t25 H fkR = (g31_p6 S t0 t4 t24 t25 H gkR).bind k := by
  exact g31_p4_lin (fun _ _ => g31_p5_lin (fun _ _ _ => hkR _ _ _)) (fun _ _ _ => hkR _ _ _)
theorem g31_p6_eq {R : Type} (t0 : ByteArray) (t4 : Int) (t24 : Int) (t25 : Int) (H : Heap) (K : Ex → Fr → Heap → Option R) : ev Tryd.prog E31 loopLim Tryd.f31.ntmps kp31 c31_4 [(0, (V.s t0)), (4, (V.i .i64 t4)), (24, (V.i .i64 t24)), (25, (V.i .i64 t25))] H K = g31_p6 R t0 t4 t24 t25 H (fun t2 t3 H => K .ret [(2, (V.i .i64 t2)), (3, (V.b t3))] H) := by
  show ev Tryd.prog E31 loopLim Tryd.f31.ntmps kp31 (.seq c31_2 c31_3) [(0, (V.s t0)), (4, (V.i .i64 t4)), (24, (V.i .i64 t24)), (25, (V.i .i64 t25))] H K = _
  rw [ev_seq]
  delta g31_p6
  exact (g31_p4_eq t0 t4 t24 t25 H (kSeq (fun fr H => ev Tryd.prog E31 loopLim Tryd.f31.ntmps kp31 c31_3 fr H K) K)).trans (congr (congrArg (g31_p4 R t0 t4 t24 t25 H) (funext fun t4 => funext fun H => (kSeq_n _ _ _ _).trans (g31_p5_eq t4 H K))) rfl)
noncomputable def g31_p7 (R : Type) (t0 : ByteArray) (t22 : Bool) (H : Heap) (kR : Int → Bool → Heap → Option R) : Option R :=
  g31_p1 R t0 t22 H (fun t0 t4 t24 t25 H => g31_p6 R t0 t4 t24 t25 H (fun t2 t3 H => kR t2 t3 H)) (fun t2 t3 H => kR t2 t3 H)
theorem g31_p7_lin {R S : Type} {k : S → Option R} {t0 : ByteArray} {t22 : Bool} {H : Heap} {fkR : Int → Bool → Heap → Option R} {gkR : Int → Bool → Heap → Option S} (hkR : ∀ t2 t3 H, fkR t2 t3 H = (gkR t2 t3 H).bind k) : g31_p7 R t0 t22 H fkR = (g31_p7 S t0 t22 H gkR).bind k := by
  exact g31_p1_lin (fun _ _ _ _ _ => g31_p6_lin (fun _ _ _ => hkR _ _ _)) (fun _ _ _ => hkR _ _ _)
theorem g31_p7_eq {R : Type} (t0 : ByteArray) (t22 : Bool) (H : Heap) (K : Ex → Fr → Heap → Option R) : ev Tryd.prog E31 loopLim Tryd.f31.ntmps kp31 c31_5 [(0, (V.s t0)), (22, (V.b t22))] H K = g31_p7 R t0 t22 H (fun t2 t3 H => K .ret [(2, (V.i .i64 t2)), (3, (V.b t3))] H) := by
  show ev Tryd.prog E31 loopLim Tryd.f31.ntmps kp31 (.seq (.cond (.tmp 22) (.seq (codeAt [1, 0, 1, 0, 0] b31) .ret) .skip) (.seq (codeAt [1, 1, 0] b31) (.seq (codeAt [1, 1, 1, 0, 0] b31) c31_4))) [(0, (V.s t0)), (22, (V.b t22))] H K = _
  delta g31_p7
  exact (g31_p1_eq _ t0 t22 H K).trans (congr (congrArg (g31_p1 R t0 t22 H) (funext fun t0 => funext fun t4 => funext fun t24 => funext fun t25 => funext fun H => g31_p6_eq t0 t4 t24 t25 H K)) rfl)
noncomputable def g31_p8 (R : Type) (t0 : ByteArray) (H : Heap) (kR : Int → Bool → Heap → Option R) : Option R :=
  g31_p0 R t0 H (fun t0 t22 H => g31_p7 R t0 t22 H (fun t2 t3 H => kR t2 t3 H))
theorem g31_p8_lin {R S : Type} {k : S → Option R} {t0 : ByteArray} {H : Heap} {fkR : Int → Bool → Heap → Option R} {gkR : Int → Bool → Heap → Option S} (hkR : ∀ t2 t3 H, fkR t2 t3 H = (gkR t2 t3 H).bind k) : g31_p8 R t0 H fkR = (g31_p8 S t0 H gkR).bind k := by
  exact g31_p0_lin (fun _ _ _ => g31_p7_lin (fun _ _ _ => hkR _ _ _))
theorem g31_p8_eq {R : Type} (t0 : ByteArray) (H : Heap) (K : Ex → Fr → Heap → Option R) : ev Tryd.prog E31 loopLim Tryd.f31.ntmps kp31 c31_6 [(0, (V.s t0))] H K = g31_p8 R t0 H (fun t2 t3 H => K .ret [(2, (V.i .i64 t2)), (3, (V.b t3))] H) := by
  show ev Tryd.prog E31 loopLim Tryd.f31.ntmps kp31 (.seq (codeAt [0] b31) (.seq (codeAt [1, 0, 0] b31) c31_5)) [(0, (V.s t0))] H K = _
  delta g31_p8
  exact (g31_p0_eq _ t0 H K).trans (congrArg (g31_p0 R t0 H) (funext fun t0 => funext fun t22 => funext fun H => g31_p7_eq t0 t22 H K))
noncomputable def g31_r : T31 := fun R t0 H K =>
  g31_p8 R t0 H (fun t2 t3 H =>
    K t2 t3 H)
theorem g31_r_lin : Lin31 (g31_r) := by
  constructor
  intro R S k t0 H f g h
  exact g31_p8_lin (fun t2 t3 H =>
    h _ _ _)
theorem g31_fn {R : Type} (t0 : ByteArray) (H : Heap) (K : V → Heap → Option R) : evFn Tryd.prog E31 loopLim Tryd.f31 kp31 [(V.s t0)] H K = g31_r R t0 H (fun r0 r1 H => K (V.tup [(V.i .i64 r0), (V.b r1)]) H) := by
  have h0 : ∀ (t2 : Int) (t3 : Bool) (H : Heap), kFn Tryd.prog Tryd.f31.results.toList K .ret [(2, (V.i .i64 t2)), (3, (V.b t3))] H =
      K (V.tup [(V.i .i64 t2), (V.b t3)]) H := by intros; kernel_rfl
  have e0 := evFn_code2 (P := Tryd.prog) (c := c31_6) (E := E31) (lr := loopLim) (kp := kp31) (fn := Tryd.f31) (args := [(V.s t0)]) H K (by kernel_rfl) (Nat.le_of_ble_eq_true (by kernel_rfl)) (by kernel_rfl)
  have e1 : ev Tryd.prog E31 loopLim Tryd.f31.ntmps kp31 c31_6 (argFr 0 [(V.s t0)]) H (kFn Tryd.prog Tryd.f31.results.toList K) = ev Tryd.prog E31 loopLim Tryd.f31.ntmps kp31 c31_6 [(0, (V.s t0))] H (kFn Tryd.prog Tryd.f31.results.toList K) := by kernel_rfl
  refine (e0.trans e1).trans ?_
  delta g31_r
  exact (g31_p8_eq t0 H (kFn Tryd.prog Tryd.f31.results.toList K)).trans (congrArg (g31_p8 R t0 H) (funext fun t2 => funext fun t3 => funext fun H => h0 t2 t3 H))
theorem g31_ok : FunOK Tryd.prog 31 (w31 (g31_r)) := by
  refine (runF_ok (E31_good) mixed lim_ok Tryd.func31 (by kernel_rfl) kp31).of_le fun R args H K r hk => ?_
  unfold w31 at hk
  split at hk
  · exact (g31_fn _ H K).trans hk
  · cases hk
def kp13 : Nat → Option (List Nat) := kpOf [(0, [0]), (1, [4]), (2, [4, 14]), (3, [2, 3]), (4, [4, 5]), (5, [5, 15, 16, 17]), (6, [5, 15, 16, 17, 18]), (7, [5, 6, 7, 15, 16, 17]), (8, [5, 6, 8, 9, 15, 16, 17]), (9, [5, 6, 8, 15, 16, 17, 28]), (10, [2, 3]), (11, [5, 15, 16, 17]), (12, [5, 15, 16, 17]), (13, [5, 45]), (14, [2, 3]), (15, [2, 3]), (100000, [5]), (100001, [5, 15, 16, 17]), (200000, [5, 15, 16, 17]), (200001, [5, 15, 16, 17]), (300000, [2, 3]), (400014, [4]), (400018, [5, 15, 16, 17]), (400028, [5, 6, 8, 15, 16, 17]), (400045, [5])]
def E13 (a15 : T15) (a31 : T31) : FEnv := [(15, w15 a15), (31, w31 a31)]
theorem E13_good {a15 : T15} {a31 : T31} (oa15 : FunOK Tryd.prog 15 (w15 a15)) (oa31 : FunOK Tryd.prog 31 (w31 a31)) (la15 : Lin15 a15) (la31 : Lin31 a31) : EnvGood Tryd.prog (E13 a15 a31) := (((EnvGood.nil _).cons oa31 (w31_lin la31)).cons oa15 (w15_lin la15))
theorem E13_lin {a15 : T15} {a31 : T31} (la15 : Lin15 a15) (la31 : Lin31 a31) : EnvLin (E13 a15 a31) := by
  intro g F h
  simp only [E13, List.mem_cons, List.not_mem_nil, or_false] at h
  rcases h with h | h
  · cases h; exact w15_lin la15
  · cases h; exact w31_lin la31
noncomputable def b13 : Code := Tryd.f13.body.getD .skip
noncomputable def c13_0 : Code := (.seq (codeAt [1, 1, 1, 1, 0, 1, 0, 0, 0] b13) (.seq (.cond (.tmp 18) .skip (.exit 0)) (.seq (.block 1 (.seq (codeAt [1, 1, 1, 1, 0, 1, 0, 0, 1, 1, 0, 0, 0] b13) (.seq (codeAt [1, 1, 1, 1, 0, 1, 0, 0, 1, 1, 0, 0, 1, 0] b13) (.seq (codeAt [1, 1, 1, 1, 0, 1, 0, 0, 1, 1, 0, 0, 1, 1, 0, 0] b13) (.seq (.cond (.tmp 28) (.seq (codeAt [1, 1, 1, 1, 0, 1, 0, 0, 1, 1, 0, 0, 1, 1, 0, 1, 0, 0] b13) .ret) .skip) (codeAt [1, 1, 1, 1, 0, 1, 0, 0, 1, 1, 0, 0, 1, 1, 1] b13)))))) (codeAt [1, 1, 1, 1, 0, 1, 0, 0, 1, 1, 1] b13))))
noncomputable def c13_1 : Code := (.loop c13_0)
noncomputable def c13_2 : Code := (.block 0 c13_1)
noncomputable def c13_3 : Code := (.seq (codeAt [1, 1, 1, 1, 1, 0, 0] b13) (.seq (.cond (.tmp 45) (.seq (codeAt [1, 1, 1, 1, 1, 0, 1, 0, 0] b13) .ret) .skip) (.seq (codeAt [1, 1, 1, 1, 1, 1, 0] b13) .ret)))
noncomputable def c13_4 : Code := (.seq c13_2 c13_3)
noncomputable def c13_5 : Code := (.seq (codeAt [0] b13) (.seq (codeAt [1, 0] b13) (.seq (codeAt [1, 1, 0, 0] b13) (.seq (.cond (.tmp 14) (.seq (codeAt [1, 1, 0, 1, 0, 0] b13) .ret) .skip) (.seq (codeAt [1, 1, 1, 0] b13) (.seq (codeAt [1, 1, 1, 1, 0, 0] b13) c13_4))))))
noncomputable def g13_p0 (a15 : T15) (a31 : T31) (R : Type) (t0 : ByteArray) (H : Heap) (kN : Nat → Nat → Sl → Int → Int → Heap → Option R) (kR : Int → Int → Heap → Option R) : Option R :=
  a15 R t0 str1 H fun x11 h12 =>
  sel (((x11.len : Nat) : Int) != (3 : Int)) (
    kR (0 : Int) (4 : Int) h12) (
    alo h12 (.cells [(V.i .i64 (0 : Int)), (V.i .i64 (0 : Int)), (V.i .i64 (0 : Int))] 67 false) fun i13 h14 =>
    kN i13 0 x11 ((x11.len : Nat) : Int) (0 : Int) h14)
theorem g13_p0_eq (a15 : T15) (a31 : T31) {R : Type} (c2 : Code) (t0 : ByteArray) (H : Heap) (K : Ex → Fr → Heap → Option R) : ev Tryd.prog (E13 a15 a31) loopLim Tryd.f13.ntmps kp13 (.seq (codeAt [0] b13) (.seq (codeAt [1, 0] b13) (.seq (codeAt [1, 1, 0, 0] b13) (.seq (.cond (.tmp 14) (.seq (codeAt [1, 1, 0, 1, 0, 0] b13) .ret) .skip) (.seq (codeAt [1, 1, 1, 0] b13) (.seq (codeAt [1, 1, 1, 1, 0, 0] b13) c2)))))) [(0, (V.s t0))] H K = g13_p0 a15 a31 R t0 H (fun t5_0 t5_1 t15 t16 t17 H => ev Tryd.prog (E13 a15 a31) loopLim Tryd.f13.ntmps kp13 c2 [(5, (V.p (some (t5_0, t5_1)))), (15, (V.sl t15)), (16, (V.i .i64 t16)), (17, (V.i .i64 t17))] H K) (fun t2 t3 H => K .ret [(2, (V.i .u16 t2)), (3, (V.i .i64 t3))] H) := by kernel_rfl
theorem g13_p0_lin {a15 : T15} {a31 : T31} (la15 : Lin15 a15) (la31 : Lin31 a31) {R S : Type} {k : S → Option R} {t0 : ByteArray} {H : Heap} {fkN : Nat → Nat → Sl → Int → Int → Heap → Option R} {gkN : Nat → Nat → Sl → Int → Int → Heap → Option S} {fkR : Int → Int → Heap → Option R} {gkR : Int → Int → Heap → Option S} (hkN : ∀ t5_0 t5_1 t15 t16 t17 H, fkN t5_0 t5_1 t15 t16 t17 H = (gkN t5_0 t5_1 t15 t16 t17 H).bind k) (hkR : ∀ t2 t3 H, fkR t2 t3 H = (gkR t2 t3 H).bind k) : g13_p0 a15 a31 R t0 H fkN fkR = (g13_p0 a15 a31 S t0 H gkN gkR).bind k := by
  delta g13_p0; exact (
    la15.l fun x11 h12 =>
    sl_lin (
      hkR _ _ _) (
      alo_lin fun i13 h14 =>
      hkN _ _ _ _ _ _))
noncomputable def g13_p1 (a15 : T15) (a31 : T31) (R : Type) (t5_0 : Nat) (t5_1 : Nat) (t15 : Sl) (t16 : Int) (t17 : Int) (H : Heap) (kN : Nat → Nat → Sl → Int → Int → Heap → Option R) (kE0 : Nat → Nat → Heap → Option R) (kR : Int → Int → Heap → Option R) : Option R :=
  sel (decide (t17 < t16)) (
    if 0 ≤ t17 ∧ t17 < ((t15.len : Nat) : Int) then (
      (t15.a).bind fun q15 =>
      ((H).ldS q15.1 (q15.2 + Int.toNat t17 * 1)).bind fun x16 =>
      a31 R x16 H fun x17 x18 h19 =>
      sel (!x18) (
        kR (0 : Int) (4 : Int) h19) (
        if 0 ≤ t17 ∧ t17 < ((3 : Nat) : Int) then (
          ((h19).st t5_0 (t5_1 + Int.toNat t17 * 1) (V.i .i64 x17)).bind fun h21 =>
          kN t5_0 t5_1 t15 t16 (IntKind.wrap .i64 (t17 + (1 : Int))) h21)
        else (
          none)))
    else (
      none)) (
    kE0 t5_0 t5_1 H)
theorem g13_p1_eq (a15 : T15) (a31 : T31) (la15 : Lin15 a15) (la31 : Lin31 a31) {R : Type} (t5_0 : Nat) (t5_1 : Nat) (t15 : Sl) (t16 : Int) (t17 : Int) (H : Heap) (K : Ex → Fr → Heap → Option R) : ev Tryd.prog (E13 a15 a31) loopLim Tryd.f13.ntmps kp13 c13_0 [(5, (V.p (some (t5_0, t5_1)))), (15, (V.sl t15)), (16, (V.i .i64 t16)), (17, (V.i .i64 t17))] H K = g13_p1 a15 a31 R t5_0 t5_1 t15 t16 t17 H (fun t5_0 t5_1 t15 t16 t17 H => K .normal [(5, (V.p (some (t5_0, t5_1)))), (15, (V.sl t15)), (16, (V.i .i64 t16)), (17, (V.i .i64 t17))] H) (fun t5_0 t5_1 H => K (.exit 0) [(5, (V.p (some (t5_0, t5_1))))] H) (fun t2 t3 H => K .ret [(2, (V.i .u16 t2)), (3, (V.i .i64 t3))] H) := by kernel_rfl
theorem g13_p1_lin {a15 : T15} {a31 : T31} (la15 : Lin15 a15) (la31 : Lin31 a31) {R S : Type} {k : S → Option R} {t5_0 : Nat} {t5_1 : Nat} {t15 : Sl} {t16 : Int} {t17 : Int} {H : Heap} {fkN : Nat → Nat → Sl → Int → Int → Heap → Option R} {gkN : Nat → Nat → Sl → Int → Int → Heap → Option S} {fkE0 : Nat → Nat → Heap → Option R} {gkE0 : Nat → Nat → Heap → Option S} {fkR : Int → Int → Heap → Option R} {gkR : Int → Int → Heap → Option S} (hkN : ∀ t5_0 t5_1 t15 t16 t17 H, fkN t5_0 t5_1 t15 t16 t17 H = (gkN t5_0 t5_1 t15 t16 t17 H).bind k) (hkE0 : ∀ t5_0 t5_1 H, fkE0 t5_0 t5_1 H = (gkE0 t5_0 t5_1 H).bind k) (hkR : ∀ t2 t3 H, fkR t2 t3 H = (gkR t2 t3 H).bind k) : g13_p1 a15 a31 R t5_0 t5_1 t15 t16 t17 H fkN fkE0 fkR = (g13_p1 a15 a31 S t5_0 t5_1 t15 t16 t17 H gkN gkE0 gkR).bind k := by
  delta g13_p1; exact (
    sl_lin (
      il (
        bl fun q15 =>
        bl fun x16 =>
        la31.l fun x17 x18 h19 =>
        sl_lin (
          hkR _ _ _) (
          il (
            bl fun h21 =>
            hkN _ _ _ _ _ _) (
            rfl))) (
        rfl)) (
      hkE0 _ _ _))
abbrev g13_p2_S := Nat × Nat × Sl × Int × Int
abbrev g13_p2_O := Sum (Nat × Nat) (Int × Int)
def g13_p2_es (s : g13_p2_S) : Fr := [(5, (V.p (some (s.1, s.2.1)))), (15, (V.sl s.2.2.1)), (16, (V.i .i64 s.2.2.2.1)), (17, (V.i .i64 s.2.2.2.2))]
def g13_p2_er : g13_p2_O → Ex × Fr
  | (.inl r) => ((.exit 0), [(5, (V.p (some (r.1, r.2))))])
  | (.inr r) => (.ret, [(2, (V.i .u16 r.1)), (3, (V.i .i64 r.2))])
noncomputable def g13_p2_b (a15 : T15) (a31 : T31) (s : g13_p2_S) (H : Heap) : Option (Rd g13_p2_S g13_p2_O × Heap) :=
  g13_p1 a15 a31 _ s.1 s.2.1 s.2.2.1 s.2.2.2.1 s.2.2.2.2 H (fun t5_0 t5_1 t15 t16 t17 H => some (.go (t5_0, t5_1, t15, t16, t17), H)) (fun t5_0 t5_1 H => some (.up (.inl (t5_0, t5_1)), H)) (fun t2 t3 H => some (.up (.inr (t2, t3)), H))
noncomputable def g13_p2 (a15 : T15) (a31 : T31) (R : Type) (t5_0 : Nat) (t5_1 : Nat) (t15 : Sl) (t16 : Int) (t17 : Int) (H : Heap) (kE0 : Nat → Nat → Heap → Option R) (kR : Int → Int → Heap → Option R) : Option R :=
  (tlim (g13_p2_b a15 a31) (t5_0, t5_1, t15, t16, t17) H).bind fun p => cas p.1 (fun r => kE0 r.1 r.2 p.2) (fun r0 => kR r0.1 r0.2 p.2)
theorem g13_p2_lin {a15 : T15} {a31 : T31} (la15 : Lin15 a15) (la31 : Lin31 a31) {R S : Type} {k : S → Option R} {t5_0 : Nat} {t5_1 : Nat} {t15 : Sl} {t16 : Int} {t17 : Int} {H : Heap} {fkE0 : Nat → Nat → Heap → Option R} {gkE0 : Nat → Nat → Heap → Option S} {fkR : Int → Int → Heap → Option R} {gkR : Int → Int → Heap → Option S} (hkE0 : ∀ t5_0 t5_1 H, fkE0 t5_0 t5_1 H = (gkE0 t5_0 t5_1 H).bind k) (hkR : ∀ t2 t3 H, fkR t2 t3 H = (gkR t2 t3 H).bind k) : g13_p2 a15 a31 R t5_0 t5_1 t15 t16 t17 H fkE0 fkR = (g13_p2 a15 a31 S t5_0 t5_1 t15 t16 t17 H gkE0 gkR).bind k := by
  exact bl fun p => cas_lin (fun _ => hkE0 _ _ _) (fun _ => hkR _ _ _)
theorem g13_p2_eq (a15 : T15) (a31 : T31) (la15 : Lin15 a15) (la31 : Lin31 a31) {R : Type} (t5_0 : Nat) (t5_1 : Nat) (t15 : Sl) (t16 : Int) (t17 : Int) (H : Heap) (K : Ex → Fr → Heap → Option R) : ev Tryd.prog (E13 a15 a31) loopLim Tryd.f13.ntmps kp13 c13_1 [(5, (V.p (some (t5_0, t5_1)))), (15, (V.sl t15)), (16, (V.i .i64 t16)), (17, (V.i .i64 t17))] H K = g13_p2 a15 a31 R t5_0 t5_1 t15 t16 t17 H (fun t5_0 t5_1 H => K (.exit 0) [(5, (V.p (some (t5_0, t5_1))))] H) (fun t2 t3 H => K .ret [(2, (V.i .u16 t2)), (3, (V.i .i64 t3))] H) := by
  show ev Tryd.prog (E13 a15 a31) loopLim Tryd.f13.ntmps kp13 (.loop c13_0) [(5, (V.p (some (t5_0, t5_1)))), (15, (V.sl t15)), (16, (V.i .i64 t16)), (17, (V.i .i64 t17))] H K = _
  delta g13_p2
  refine (ev_tlim (b := g13_p2_b a15 a31) (es := g13_p2_es) (er := g13_p2_er) (by rintro (r | r) <;> exact nofun) (fun s H => ?_) (t5_0, t5_1, t15, t16, t17) H K).trans (bc fun p => by rcases p with ⟨(r | r), H⟩ <;> rfl)
  exact (g13_p1_eq a15 a31 la15 la31 s.1 s.2.1 s.2.2.1 s.2.2.2.1 s.2.2.2.2 H ret3).trans (g13_p1_lin la15 la31 (fun _ _ _ _ _ _ => rfl) (fun _ _ _ => rfl) (fun _ _ _ => rfl))
noncomputable def g13_p3 (a15 : T15) (a31 : T31) (R : Type) (t5_0 : Nat) (t5_1 : Nat) (t15 : Sl) (t16 : Int) (t17 : Int) (H : Heap) (kN : Nat → Nat → Heap → Option R) (kR : Int → Int → Heap → Option R) : Option R :=
  g13_p2 a15 a31 R t5_0 t5_1 t15 t16 t17 H (fun t5_0 t5_1 H => kN t5_0 t5_1 H) (fun t2 t3 H => kR t2 t3 H)
theorem g13_p3_lin {a15 : T15} {a31 : T31} (la15 : Lin15 a15) (la31 : Lin31 a31) {R S : Type} {k : S → Option R} {t5_0 : Nat} {t5_1 : Nat} {t15 : Sl} {t16 : Int} {t17 : Int} {H : Heap} {fkN : Nat → Nat → Heap → Option R} {gkN : Nat → Nat → Heap → Option S} {fkR : Int → Int → Heap → Option R} {gkR : Int → Int → Heap → Option S} (hkN : ∀ t5_0 t5_1 H, fkN t5_0 t5_1 H = (gkN t5_0 t5_1 H).bind k) (hkR : ∀ t2 t3 H, fkR t2 t3 H = (gkR t2 t3 H).bind k) : g13_p3 a15 a31 R t5_0 t5_1 t15 t16 t17 H fkN fkR = (g13_p3 a15 a31 S t5_0 t5_1 t15 t16 t17 H gkN gkR).bind k := by
  exact g13_p2_lin la15 la31 (fun _ _ _ => hkN _ _ _) (fun _ _ _ => hkR _ _ _)
theorem g13_p3_eq (a15 : T15) (a31 : T31) (la15 : Lin15 a15) (la31 : Lin31 a31) {R : Type} (t5_0 : Nat) (t5_1 : Nat) (t15 : Sl) (t16 : Int) (t17 : Int) (H : Heap) (K : Ex → Fr → Heap → Option R) : ev Tryd.prog (E13 a15 a31) loopLim Tryd.f13.ntmps kp13 c13_2 [(5, (V.p (some (t5_0, t5_1)))), (15, (V.sl t15)), (16, (V.i .i64 t16)), (17, (V.i .i64 t17))] H K = g13_p3 a15 a31 R t5_0 t5_1 t15 t16 t17 H (fun t5_0 t5_1 H => K .normal [(5, (V.p (some (t5_0, t5_1))))] H) (fun t2 t3 H => K .ret [(2, (V.i .u16 t2)), (3, (V.i .i64 t3))] H) := by
  show ev Tryd.prog (E13 a15 a31) loopLim Tryd.f13.ntmps kp13 (.block 0 c13_1) [(5, (V.p (some (t5_0, t5_1)))), (15, (V.sl t15)), (16, (V.i .i64 t16)), (17, (V.i .i64 t17))] H K = _
  rw [ev_block]
  delta g13_p3
  exact (g13_p2_eq a15 a31 la15 la31 t5_0 t5_1 t15 t16 t17 H (kBlock kp13 0 K))
noncomputable def g13_p4 (a15 : T15) (a31 : T31) (R : Type) (t5_0 : Nat) (t5_1 : Nat) (H : Heap) (kR : Int → Int → Heap → Option R) : Option R :=
  ((H).ldI .i64 t5_0 (t5_1 + 0)).bind fun x22 =>
  sel (decide (x22 > (7 : Int))) (
    kR (0 : Int) (1 : Int) H) (
    ((H).ldI .i64 t5_0 (t5_1 + 1)).bind fun x23 =>
    sel (decide (x23 > (255 : Int))) (
      kR (0 : Int) (1 : Int) H) (
      ((H).ldI .i64 t5_0 (t5_1 + 2)).bind fun x24 =>
      sel (decide (x24 > (7 : Int))) (
        kR (0 : Int) (1 : Int) H) (
        ((H).ldI .i64 t5_0 (t5_1 + 0)).bind fun x25 =>
        ((H).ldI .i64 t5_0 (t5_1 + 1)).bind fun x26 =>
        ((H).ldI .i64 t5_0 (t5_1 + 2)).bind fun x27 =>
        kR (IntKind.wrap .u16 (bvOr .i64 (bvOr .i64 (shlI .i64 x25 (11 : Int)) (shlI .i64 x26 (3 : Int))) x27)) (0 : Int) H)))
theorem g13_p4_eq (a15 : T15) (a31 : T31) (la15 : Lin15 a15) (la31 : Lin31 a31) {R : Type} (t5_0 : Nat) (t5_1 : Nat) (H : Heap) (K : Ex → Fr → Heap → Option R) : ev Tryd.prog (E13 a15 a31) loopLim Tryd.f13.ntmps kp13 c13_3 [(5, (V.p (some (t5_0, t5_1))))] H K = g13_p4 a15 a31 R t5_0 t5_1 H (fun t2 t3 H => K .ret [(2, (V.i .u16 t2)), (3, (V.i .i64 t3))] H) := by kernel_rfl
theorem g13_p4_lin {a15 : T15} {a31 : T31} (la15 : Lin15 a15) (la31 : Lin31 a31) {R S : Type} {k : S → Option R} {t5_0 : Nat} {t5_1 : Nat} {H : Heap} {fkR : Int → Int → Heap → Option R} {gkR : Int → Int → Heap → Option S} (hkR : ∀ t2 t3 H, fkR t2 t3 H = (gkR t2 t3 H).bind k) : g13_p4 a15 a31 R t5_0 t5_1 H fkR = (g13_p4 a15 a31 S t5_0 t5_1 H gkR).bind k := by
  delta g13_p4; exact (
    bl fun x22 =>
    sl_lin (
      hkR _ _ _) (
      bl fun x23 =>
      sl_lin (
        hkR _ _ _) (
        bl fun x24 =>
        sl_lin (
          hkR _ _ _) (
          bl fun x25 =>
          bl fun x26 =>
          bl fun x27 =>
          hkR _ _ _))))
noncomputable def g13_p5 (a15 : T15) (a31 : T31) (R : Type) (t5_0 : Nat) (t5_1 : Nat) (t15 : Sl) (t16 : Int) (t17 : Int) (H : Heap) (kR : Int → Int → Heap → Option R) : Option R :=
  g13_p3 a15 a31 R t5_0 t5_1 t15 t16 t17 H (fun t5_0 t5_1 H => g13_p4 a15 a31 R t5_0 t5_1 H (fun t2 t3 H => kR t2 t3 H)) (fun t2 t3 H => kR t2 t3 H)
theorem g13_p5_lin {a15 : T15} {a31 : T31} (la15 : Lin15 a15) (la31 : Lin31 a31) {R S : Type} {k : S → Option R} {t5_0 : Nat} {t5_1 : Nat} {t15 : Sl} {t16 : Int} {t17 : Int} {H : Heap} {fkR : Int → Int → Heap → Option R} {gkR : Int → Int → Heap → Option S} (hkR : ∀ t2 t3 H, fkR t2 t3 H = (gkR t2 t3 H).bind k) : g13_p5 a15 a31 R t5_0 t5_1 t15 t16 t17 H fkR = (g13_p5 a15 a31 S t5_0 t5_1 t15 t16 t17 H gkR).bind k := by
  exact g13_p3_lin la15 la31 (fun _ _ _ => g13_p4_lin la15 la31 (fun _ _ _ => hkR _ _ _)) (fun _ _ _ => hkR _ _ _)
theorem g13_p5_eq (a15 : T15) (a31 : T31) (la15 : Lin15 a15) (la31 : Lin31 a31) {R : Type} (t5_0 : Nat) (t5_1 : Nat) (t15 : Sl) (t16 : Int) (t17 : Int) (H : Heap) (K : Ex → Fr → Heap → Option R) : ev Tryd.prog (E13 a15 a31) loopLim Tryd.f13.ntmps kp13 c13_4 [(5, (V.p (some (t5_0, t5_1)))), (15, (V.sl t15)), (16, (V.i .i64 t16)), (17, (V.i .i64 t17))] H K = g13_p5 a15 a31 R t5_0 t5_1 t15 t16 t17 H (fun t2 t3 H => K .ret [(2, (V.i .u16 t2)), (3, (V.i .i64 t3))] H) := by
  show ev Tryd.prog (E13 a15 a31) loopLim Tryd.f13.ntmps kp13 (.seq c13_2 c13_3) [(5, (V.p (some (t5_0, t5_1)))), (15, (V.sl t15)), (16, (V.i .i64 t16)), (17, (V.i .i64 t17))] H K = _
  rw [ev_seq]
  delta g13_p5
  exact (g13_p3_eq a15 a31 la15 la31 t5_0 t5_1 t15 t16 t17 H (kSeq (fun fr H => ev Tryd.prog (E13 a15 a31) loopLim Tryd.f13.ntmps kp13 c13_3 fr H K) K)).trans (congr (congrArg (g13_p3 a15 a31 R t5_0 t5_1 t15 t16 t17 H) (funext fun t5_0 => funext fun t5_1 => funext fun H => (kSeq_n _ _ _ _).trans (g13_p4_eq a15 a31 la15 la31 t5_0 t5_1 H K))) rfl)
noncomputable def g13_p6 (a15 : T15) (a31 : T31) (R : Type) (t0 : ByteArray) (H : Heap) (kR : Int → Int → Heap → Option R) : Option R :=
  g13_p0 a15 a31 R t0 H (fun t5_0 t5_1 t15 t16 t17 H => g13_p5 a15 a31 R t5_0 t5_1 t15 t16 t17 H (fun t2 t3 H => kR t2 t3 H)) (fun t2 t3 H => kR t2 t3 H)
theorem g13_p6_lin {a15 : T15} {a31 : T31} (la15 : Lin15 a15) (la31 : Lin31 a31) {R S : Type} {k : S → Option R} {t0 : ByteArray} {H : Heap} {fkR : Int → Int → Heap → Option R} {gkR : Int → Int → Heap → Option S} (hkR : ∀ t2 t3 H, fkR t2 t3 H = (gkR t2 t3 H).bind k) : g13_p6 a15 a31 R t0 H fkR = (g13_p6 a15 a31 S t0 H gkR).bind k := by
  exact g13_p0_lin la15 la31 (fun _ _ _ _ _ _ => g13_p5_lin la15 la31 (fun _ _ _ => hkR _ _ _)) (fun _ _ _ => hkR _ _ _)
theorem g13_p6_eq (a15 : T15) (a31 : T31) (la15 : Lin15 a15) (la31 : Lin31 a31) {R : Type} (t0 : ByteArray) (H : Heap) (K : Ex → Fr → Heap → Option R) : ev Tryd.prog (E13 a15 a31) loopLim Tryd.f13.ntmps kp13 c13_5 [(0, (V.s t0))] H K = g13_p6 a15 a31 R t0 H (fun t2 t3 H => K .ret [(2, (V.i .u16 t2)), (3, (V.i .i64 t3))] H) := by
  show ev Tryd.prog (E13 a15 a31) loopLim Tryd.f13.ntmps kp13 (.seq (codeAt [0] b13) (.seq (codeAt [1, 0] b13) (.seq (codeAt [1, 1, 0, 0] b13) (.seq (.cond (.tmp 14) (.seq (codeAt [1, 1, 0, 1, 0, 0] b13) .ret) .skip) (.seq (codeAt [1, 1, 1, 0] b13) (.seq (codeAt [1, 1, 1, 1, 0, 0] b13) c13_4)))))) [(0, (V.s t0))] H K = _
  delta g13_p6
  exact (g13_p0_eq a15 a31 _ t0 H K).trans (congr (congrArg (g13_p0 a15 a31 R t0 H) (funext fun t5_0 => funext fun t5_1 => funext fun t15 => funext fun t16 => funext fun t17 => funext fun H => g13_p5_eq a15 a31 la15 la31 t5_0 t5_1 t15 t16 t17 H K)) rfl)
noncomputable def g13_r (a15 : T15) (a31 : T31) : T13 := fun R t0 H K =>
  g13_p6 a15 a31 R t0 H (fun t2 t3 H =>
    K t2 t3 H)
theorem g13_r_lin {a15 : T15} {a31 : T31} (la15 : Lin15 a15) (la31 : Lin31 a31) : Lin13 (g13_r a15 a31) := by
  constructor
  intro R S k t0 H f g h
  exact g13_p6_lin la15 la31 (fun t2 t3 H =>
    h _ _ _)
theorem g13_fn (a15 : T15) (a31 : T31) (la15 : Lin15 a15) (la31 : Lin31 a31) {R : Type} (t0 : ByteArray) (H : Heap) (K : V → Heap → Option R) : evFn Tryd.prog (E13 a15 a31) loopLim Tryd.f13 kp13 [(V.s t0)] H K = g13_r a15 a31 R t0 H (fun r0 r1 H => K (V.tup [(V.i .u16 r0), (V.i .i64 r1)]) H) := by
  have h0 : ∀ (t2 : Int) (t3 : Int) (H : Heap), kFn Tryd.prog Tryd.f13.results.toList K .ret [(2, (V.i .u16 t2)), (3, (V.i .i64 t3))] H =
      K (V.tup [(V.i .u16 t2), (V.i .i64 t3)]) H := by intros; kernel_rfl
  have e0 := evFn_code2 (P := Tryd.prog) (c := c13_5) (E := (E13 a15 a31)) (lr := loopLim) (kp := kp13) (fn := Tryd.f13) (args := [(V.s t0)]) H K (by kernel_rfl) (Nat.le_of_ble_eq_true (by kernel_rfl)) (by kernel_rfl)
  have e1 : ev Tryd.prog (E13 a15 a31) loopLim Tryd.f13.ntmps kp13 c13_5 (argFr 0 [(V.s t0)]) H (kFn Tryd.prog Tryd.f13.results.toList K) = ev Tryd.prog (E13 a15 a31) loopLim Tryd.f13.ntmps kp13 c13_5 [(0, (V.s t0))] H (kFn Tryd.prog Tryd.f13.results.toList K) := by kernel_rfl
  refine (e0.trans e1).trans ?_
  delta g13_r
  exact (g13_p6_eq a15 a31 la15 la31 t0 H (kFn Tryd.prog Tryd.f13.results.toList K)).trans (congrArg (g13_p6 a15 a31 R t0 H) (funext fun t2 => funext fun t3 => funext fun H => h0 t2 t3 H))
theorem g13_ok {a15 : T15} {a31 : T31} (oa15 : FunOK Tryd.prog 15 (w15 a15)) (oa31 : FunOK Tryd.prog 31 (w31 a31)) (la15 : Lin15 a15) (la31 : Lin31 a31) : FunOK Tryd.prog 13 (w13 (g13_r a15 a31)) := by
  refine (runF_ok (E13_good oa15 oa31 la15 la31) mixed lim_ok Tryd.func13 (by kernel_rfl) kp13).of_le fun R args H K r hk => ?_
  unfold w13 at hk
  split at hk
  · exact (g13_fn a15 a31 la15 la31 _ H K).trans hk
  · cases hk
def kp14 : Nat → Option (List Nat) := kpOf [(0, [0]), (1, [3]), (2, [2]), (300000, [2])]
def E14 (a29 : T29) : FEnv := [(29, w29 a29)]
theorem E14_good {a29 : T29} (oa29 : FunOK Tryd.prog 29 (w29 a29)) (la29 : Lin29 a29) : EnvGood Tryd.prog (E14 a29) := ((EnvGood.nil _).cons oa29 (w29_lin la29))
theorem E14_lin {a29 : T29} (la29 : Lin29 a29) : EnvLin (E14 a29) := by
  intro g F h
  simp only [E14, List.mem_cons, List.not_mem_nil, or_false] at h
  rcases h with h
  · cases h; exact w29_lin la29
noncomputable def b14 : Code := Tryd.f14.body.getD .skip
noncomputable def c14_0 : Code := (.seq (codeAt [0] b14) (.seq (codeAt [1, 0] b14) (.seq (codeAt [1, 1, 0] b14) .ret)))
noncomputable def g14_p0 (a29 : T29) (R : Type) (t0 : Int) (H : Heap) (kR : ByteArray → Heap → Option R) : Option R :=
  a29 R (IntKind.wrap .i64 (Int.tdiv (IntKind.wrap .i64 t0) (2048 : Int))) H fun x1 h2 =>
  catS x1 str1 fun z3 =>
  a29 R (Int.tmod (IntKind.wrap .i64 (Int.tdiv (IntKind.wrap .i64 t0) (8 : Int))) (256 : Int)) h2 fun x4 h5 =>
  catS z3 x4 fun z6 =>
  catS z6 str1 fun z7 =>
  a29 R (Int.tmod (IntKind.wrap .i64 t0) (8 : Int)) h5 fun x8 h9 =>
  catS z7 x8 fun z10 =>
  kR z10 h9
theorem g14_p0_eq (a29 : T29) (la29 : Lin29 a29) {R : Type} (t0 : Int) (H : Heap) (K : Ex → Fr → Heap → Option R) : ev Tryd.prog (E14 a29) loopLim Tryd.f14.ntmps kp14 c14_0 [(0, (V.i .u16 t0))] H K = g14_p0 a29 R t0 H (fun t2 H => K .ret [(2, (V.s t2))] H) := by kernel_rfl
theorem g14_p0_lin {a29 : T29} (la29 : Lin29 a29) {R S : Type} {k : S → Option R} {t0 : Int} {H : Heap} {fkR : ByteArray → Heap → Option R} {gkR : ByteArray → Heap → Option S} (hkR : ∀ t2 H, fkR t2 H = (gkR t2 H).bind k) : g14_p0 a29 R t0 H fkR = (g14_p0 a29 S t0 H gkR).bind k := by
  delta g14_p0; exact (
    la29.l fun x1 h2 =>
    catS_lin fun z3 =>
    la29.l fun x4 h5 =>
    catS_lin fun z6 =>
    catS_lin fun z7 =>
    la29.l fun x8 h9 =>
    catS_lin fun z10 =>
    hkR _ _)
noncomputable def g14_r (a29 : T29) : T14 := fun R t0 H K =>
  g14_p0 a29 R t0 H (fun t2 H =>
    K t2 H)
theorem g14_r_lin {a29 : T29} (la29 : Lin29 a29) : Lin14 (g14_r a29) := by
  constructor
  intro R S k t0 H f g h
  exact g14_p0_lin la29 (fun t2 H =>
    h _ _)
theorem g14_fn (a29 : T29) (la29 : Lin29 a29) {R : Type} (t0 : Int) (H : Heap) (K : V → Heap → Option R) : evFn Tryd.prog (E14 a29) loopLim Tryd.f14 kp14 [(V.i .u16 t0)] H K = g14_r a29 R t0 H (fun r0 H => K (V.s r0) H) := by
  have h0 : ∀ (t2 : ByteArray) (H : Heap), kFn Tryd.prog Tryd.f14.results.toList K .ret [(2, (V.s t2))] H =
      K (V.s t2) H := by intros; kernel_rfl
  have e0 := evFn_code2 (P := Tryd.prog) (c := c14_0) (E := (E14 a29)) (lr := loopLim) (kp := kp14) (fn := Tryd.f14) (args := [(V.i .u16 t0)]) H K (by kernel_rfl) (Nat.le_of_ble_eq_true (by kernel_rfl)) (by kernel_rfl)
  have e1 : ev Tryd.prog (E14 a29) loopLim Tryd.f14.ntmps kp14 c14_0 (argFr 0 [(V.i .u16 t0)]) H (kFn Tryd.prog Tryd.f14.results.toList K) = ev Tryd.prog (E14 a29) loopLim Tryd.f14.ntmps kp14 c14_0 [(0, (V.i .u16 t0))] H (kFn Tryd.prog Tryd.f14.results.toList K) := by kernel_rfl
  refine (e0.trans e1).trans ?_
  delta g14_r
  exact (g14_p0_eq a29 la29 t0 H (kFn Tryd.prog Tryd.f14.results.toList K)).trans (congrArg (g14_p0 a29 R t0 H) (funext fun t2 => funext fun H => h0 t2 H))
theorem g14_ok {a29 : T29} (oa29 : FunOK Tryd.prog 29 (w29 a29)) (la29 : Lin29 a29) : FunOK Tryd.prog 14 (w14 (g14_r a29)) := by
  refine (runF_ok (E14_good oa29 la29) mixed lim_ok Tryd.func14 (by kernel_rfl) kp14).of_le fun R args H K r hk => ?_
  unfold w14 at hk
  split at hk
  · exact (g14_fn a29 la29 _ H K).trans hk
  · cases hk
end Go.Proofs.YtgdkkpjmjnknoaaDoor

