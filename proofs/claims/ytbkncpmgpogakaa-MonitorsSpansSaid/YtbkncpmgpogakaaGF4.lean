/- Printed: functions as the machine runs them. -/
import Derived.Test.YtbkncpmgpogakaaGT
namespace Go.Proofs.Ytbkncpmgpogakaa
open Go AM Go.RowKit
set_option linter.unusedVariables false
def kp14 : Nat → Option (List Nat) := kpOf [(0, [0, 1]), (1, [0, 1, 8]), (2, [4]), (3, [0, 1, 10]), (4, [4]), (5, [0, 11, 12, 13]), (6, [0, 11, 12, 13, 14]), (7, [0, 5, 6, 11, 12, 13]), (8, [0, 5, 11, 12, 13]), (9, [0, 5, 11, 12, 13, 22]), (10, [4]), (11, [0, 11, 12, 13]), (12, [4]), (100000, []), (100001, [0, 11, 12, 13]), (200000, [0, 11, 12, 13]), (200001, [0, 11, 12, 13]), (300000, [4]), (400008, [0, 1]), (400010, [0, 1]), (400014, [0, 11, 12, 13]), (400022, [0, 11, 12, 13])]
def E14 (a40 : T40) (a38 : T38) (a44 : T44) (a46 : T46) : FEnv := [(40, w40 a40), (38, w38 a38), (44, w44 a44), (46, w46 a46)]
theorem E14_good {a40 : T40} {a38 : T38} {a44 : T44} {a46 : T46} (oa40 : FunOK Try.prog 40 (w40 a40)) (oa38 : FunOK Try.prog 38 (w38 a38)) (oa44 : FunOK Try.prog 44 (w44 a44)) (oa46 : FunOK Try.prog 46 (w46 a46)) (la40 : Lin40 a40) (la38 : Lin38 a38) (la44 : Lin44 a44) (la46 : Lin46 a46) : EnvGood Try.prog (E14 a40 a38 a44 a46) := (((((EnvGood.nil _).cons oa46 (w46_lin la46)).cons oa44 (w44_lin la44)).cons oa38 (w38_lin la38)).cons oa40 (w40_lin la40))
theorem E14_lin {a40 : T40} {a38 : T38} {a44 : T44} {a46 : T46} (la40 : Lin40 a40) (la38 : Lin38 a38) (la44 : Lin44 a44) (la46 : Lin46 a46) : EnvLin (E14 a40 a38 a44 a46) := by
  intro g F h
  simp only [E14, List.mem_cons, List.not_mem_nil, or_false] at h
  rcases h with h | h | h | h
  · cases h; exact w40_lin la40
  · cases h; exact w38_lin la38
  · cases h; exact w44_lin la44
  · cases h; exact w46_lin la46
noncomputable def b14 : Code := Try.f14.body.getD .skip
noncomputable def c14_0 : Code := (.seq (codeAt [1, 1, 1, 0, 1, 0, 0, 0] b14) (.seq (.cond (.tmp 14) .skip (.exit 0)) (.seq (.block 1 (.seq (codeAt [1, 1, 1, 0, 1, 0, 0, 1, 1, 0, 0, 0] b14) (.seq (codeAt [1, 1, 1, 0, 1, 0, 0, 1, 1, 0, 0, 1, 0] b14) (.seq (codeAt [1, 1, 1, 0, 1, 0, 0, 1, 1, 0, 0, 1, 1, 0] b14) (.cond (.tmp 22) (.seq (codeAt [1, 1, 1, 0, 1, 0, 0, 1, 1, 0, 0, 1, 1, 1, 0, 0] b14) .ret) .skip))))) (codeAt [1, 1, 1, 0, 1, 0, 0, 1, 1, 1] b14))))
noncomputable def c14_1 : Code := (.loop c14_0)
noncomputable def c14_2 : Code := (.block 0 c14_1)
noncomputable def c14_3 : Code := (.seq (codeAt [1, 1, 1, 1, 0] b14) .ret)
noncomputable def c14_4 : Code := (.seq c14_2 c14_3)
noncomputable def c14_5 : Code := (.seq (codeAt [0] b14) (.seq (codeAt [1, 0, 0] b14) (.seq (.cond (.tmp 8) (.seq (codeAt [1, 0, 1, 0, 0] b14) .ret) .skip) (.seq (codeAt [1, 1, 0, 0] b14) (.seq (.cond (.tmp 10) (.seq (codeAt [1, 1, 0, 1, 0, 0] b14) .ret) .skip) (.seq (codeAt [1, 1, 1, 0, 0] b14) c14_4))))))
noncomputable def g14_p0 (a40 : T40) (a38 : T38) (a44 : T44) (a46 : T46) (R : Type) (t0 : V) (t1 : Sl) (H : Heap) (kN : V → Sl → Int → Int → Heap → Option R) (kR : Int → Heap → Option R) : Option R :=
  ((ifNil t0)).bind fun x11 =>
  sel x11 (
    kR (-1 : Int) H) (
    invk Try.prog (E14 a40 a38 a44 a46) t0 "Over" [] H fun x12 h13 =>
    ((V.asB x12)).bind fun x14 =>
    sel x14 (
      kR (0 : Int) h13) (
      kN t0 t1 ((t1.len : Nat) : Int) (0 : Int) h13))
theorem g14_p0_eq (a40 : T40) (a38 : T38) (a44 : T44) (a46 : T46) {R : Type} (c2 : Code) (t0 : V) (t1 : Sl) (H : Heap) (K : Ex → Fr → Heap → Option R) : ev Try.prog (E14 a40 a38 a44 a46) loopLim Try.f14.ntmps kp14 (.seq (codeAt [0] b14) (.seq (codeAt [1, 0, 0] b14) (.seq (.cond (.tmp 8) (.seq (codeAt [1, 0, 1, 0, 0] b14) .ret) .skip) (.seq (codeAt [1, 1, 0, 0] b14) (.seq (.cond (.tmp 10) (.seq (codeAt [1, 1, 0, 1, 0, 0] b14) .ret) .skip) (.seq (codeAt [1, 1, 1, 0, 0] b14) c2)))))) [(0, t0), (1, (V.sl t1))] H K = g14_p0 a40 a38 a44 a46 R t0 t1 H (fun t0 t11 t12 t13 H => ev Try.prog (E14 a40 a38 a44 a46) loopLim Try.f14.ntmps kp14 c2 [(0, t0), (11, (V.sl t11)), (12, (V.i .i64 t12)), (13, (V.i .i64 t13))] H K) (fun t4 H => K .ret [(4, (V.i .i64 t4))] H) := by kernel_rfl
theorem g14_p0_lin {a40 : T40} {a38 : T38} {a44 : T44} {a46 : T46} (la40 : Lin40 a40) (la38 : Lin38 a38) (la44 : Lin44 a44) (la46 : Lin46 a46) {R S : Type} {k : S → Option R} {t0 : V} {t1 : Sl} {H : Heap} {fkN : V → Sl → Int → Int → Heap → Option R} {gkN : V → Sl → Int → Int → Heap → Option S} {fkR : Int → Heap → Option R} {gkR : Int → Heap → Option S} (hkN : ∀ t0 t11 t12 t13 H, fkN t0 t11 t12 t13 H = (gkN t0 t11 t12 t13 H).bind k) (hkR : ∀ t4 H, fkR t4 H = (gkR t4 H).bind k) : g14_p0 a40 a38 a44 a46 R t0 t1 H fkN fkR = (g14_p0 a40 a38 a44 a46 S t0 t1 H gkN gkR).bind k := by
  delta g14_p0; exact (
    bl fun x11 =>
    sl_lin (
      hkR _ _) (
      invk_lin (E14_lin la40 la38 la44 la46) fun x12 h13 =>
      bl fun x14 =>
      sl_lin (
        hkR _ _) (
        hkN _ _ _ _ _)))
noncomputable def g14_p1 (a40 : T40) (a38 : T38) (a44 : T44) (a46 : T46) (R : Type) (t0 : V) (t11 : Sl) (t12 : Int) (t13 : Int) (H : Heap) (kN : V → Sl → Int → Int → Heap → Option R) (kE0 : Heap → Option R) (kR : Int → Heap → Option R) : Option R :=
  sel (decide (t13 < t12)) (
    if 0 ≤ t13 ∧ t13 < ((t11.len : Nat) : Int) then (
      (t11.a).bind fun q15 =>
      ((H).ldB q15.1 (q15.2 + Int.toNat t13 * 1)).bind fun x16 =>
      invk Try.prog (E14 a40 a38 a44 a46) t0 "Count" [(V.b x16)] H fun x17 h18 =>
      exR Try.prog 0 x17 fun x19 =>
      invk Try.prog (E14 a40 a38 a44 a46) t0 "Over" [] h18 fun x20 h21 =>
      ((V.asB x20)).bind fun x22 =>
      sel x22 (
        kR (IntKind.wrap .i64 (t13 + (1 : Int))) h21) (
        kN t0 t11 t12 (IntKind.wrap .i64 (t13 + (1 : Int))) h21))
    else (
      none)) (
    kE0 H)
theorem g14_p1_eq (a40 : T40) (a38 : T38) (a44 : T44) (a46 : T46) (la40 : Lin40 a40) (la38 : Lin38 a38) (la44 : Lin44 a44) (la46 : Lin46 a46) {R : Type} (t0 : V) (t11 : Sl) (t12 : Int) (t13 : Int) (H : Heap) (K : Ex → Fr → Heap → Option R) : ev Try.prog (E14 a40 a38 a44 a46) loopLim Try.f14.ntmps kp14 c14_0 [(0, t0), (11, (V.sl t11)), (12, (V.i .i64 t12)), (13, (V.i .i64 t13))] H K = g14_p1 a40 a38 a44 a46 R t0 t11 t12 t13 H (fun t0 t11 t12 t13 H => K .normal [(0, t0), (11, (V.sl t11)), (12, (V.i .i64 t12)), (13, (V.i .i64 t13))] H) (fun H => K (.exit 0) [] H) (fun t4 H => K .ret [(4, (V.i .i64 t4))] H) := by kernel_rfl
theorem g14_p1_lin {a40 : T40} {a38 : T38} {a44 : T44} {a46 : T46} (la40 : Lin40 a40) (la38 : Lin38 a38) (la44 : Lin44 a44) (la46 : Lin46 a46) {R S : Type} {k : S → Option R} {t0 : V} {t11 : Sl} {t12 : Int} {t13 : Int} {H : Heap} {fkN : V → Sl → Int → Int → Heap → Option R} {gkN : V → Sl → Int → Int → Heap → Option S} {fkE0 : Heap → Option R} {gkE0 : Heap → Option S} {fkR : Int → Heap → Option R} {gkR : Int → Heap → Option S} (hkN : ∀ t0 t11 t12 t13 H, fkN t0 t11 t12 t13 H = (gkN t0 t11 t12 t13 H).bind k) (hkE0 : ∀ H, fkE0 H = (gkE0 H).bind k) (hkR : ∀ t4 H, fkR t4 H = (gkR t4 H).bind k) : g14_p1 a40 a38 a44 a46 R t0 t11 t12 t13 H fkN fkE0 fkR = (g14_p1 a40 a38 a44 a46 S t0 t11 t12 t13 H gkN gkE0 gkR).bind k := by
  delta g14_p1; exact (
    sl_lin (
      il (
        bl fun q15 =>
        bl fun x16 =>
        invk_lin (E14_lin la40 la38 la44 la46) fun x17 h18 =>
        exR_lin fun x19 =>
        invk_lin (E14_lin la40 la38 la44 la46) fun x20 h21 =>
        bl fun x22 =>
        sl_lin (
          hkR _ _) (
          hkN _ _ _ _ _)) (
        rfl)) (
      hkE0 _))
abbrev g14_p2_S := V × Sl × Int × Int
abbrev g14_p2_O := Sum (Unit) (Int)
def g14_p2_es (s : g14_p2_S) : Fr := [(0, s.1), (11, (V.sl s.2.1)), (12, (V.i .i64 s.2.2.1)), (13, (V.i .i64 s.2.2.2))]
def g14_p2_er : g14_p2_O → Ex × Fr
  | (.inl r) => ((.exit 0), [])
  | (.inr r) => (.ret, [(4, (V.i .i64 r))])
noncomputable def g14_p2_b (a40 : T40) (a38 : T38) (a44 : T44) (a46 : T46) (s : g14_p2_S) (H : Heap) : Option (Rd g14_p2_S g14_p2_O × Heap) :=
  g14_p1 a40 a38 a44 a46 _ s.1 s.2.1 s.2.2.1 s.2.2.2 H (fun t0 t11 t12 t13 H => some (.go (t0, t11, t12, t13), H)) (fun H => some (.up (.inl ()), H)) (fun t4 H => some (.up (.inr t4), H))
noncomputable def g14_p2 (a40 : T40) (a38 : T38) (a44 : T44) (a46 : T46) (R : Type) (t0 : V) (t11 : Sl) (t12 : Int) (t13 : Int) (H : Heap) (kE0 : Heap → Option R) (kR : Int → Heap → Option R) : Option R :=
  (tlim (g14_p2_b a40 a38 a44 a46) (t0, t11, t12, t13) H).bind fun p => cas p.1 (fun r => kE0  p.2) (fun r0 => kR r0 p.2)
theorem g14_p2_lin {a40 : T40} {a38 : T38} {a44 : T44} {a46 : T46} (la40 : Lin40 a40) (la38 : Lin38 a38) (la44 : Lin44 a44) (la46 : Lin46 a46) {R S : Type} {k : S → Option R} {t0 : V} {t11 : Sl} {t12 : Int} {t13 : Int} {H : Heap} {fkE0 : Heap → Option R} {gkE0 : Heap → Option S} {fkR : Int → Heap → Option R} {gkR : Int → Heap → Option S} (hkE0 : ∀ H, fkE0 H = (gkE0 H).bind k) (hkR : ∀ t4 H, fkR t4 H = (gkR t4 H).bind k) : g14_p2 a40 a38 a44 a46 R t0 t11 t12 t13 H fkE0 fkR = (g14_p2 a40 a38 a44 a46 S t0 t11 t12 t13 H gkE0 gkR).bind k := by
  exact bl fun p => cas_lin (fun _ => hkE0 _) (fun _ => hkR _ _)
theorem g14_p2_eq (a40 : T40) (a38 : T38) (a44 : T44) (a46 : T46) (la40 : Lin40 a40) (la38 : Lin38 a38) (la44 : Lin44 a44) (la46 : Lin46 a46) {R : Type} (t0 : V) (t11 : Sl) (t12 : Int) (t13 : Int) (H : Heap) (K : Ex → Fr → Heap → Option R) : ev Try.prog (E14 a40 a38 a44 a46) loopLim Try.f14.ntmps kp14 c14_1 [(0, t0), (11, (V.sl t11)), (12, (V.i .i64 t12)), (13, (V.i .i64 t13))] H K = g14_p2 a40 a38 a44 a46 R t0 t11 t12 t13 H (fun H => K (.exit 0) [] H) (fun t4 H => K .ret [(4, (V.i .i64 t4))] H) := by
  show ev Try.prog (E14 a40 a38 a44 a46) loopLim Try.f14.ntmps kp14 (.loop c14_0) [(0, t0), (11, (V.sl t11)), (12, (V.i .i64 t12)), (13, (V.i .i64 t13))] H K = _
  delta g14_p2
  refine (ev_tlim (b := g14_p2_b a40 a38 a44 a46) (es := g14_p2_es) (er := g14_p2_er) (by rintro (r | r) <;> exact nofun) (fun s H => ?_) (t0, t11, t12, t13) H K).trans (bc fun p => by rcases p with ⟨(r | r), H⟩ <;> rfl)
  exact (g14_p1_eq a40 a38 a44 a46 la40 la38 la44 la46 s.1 s.2.1 s.2.2.1 s.2.2.2 H ret3).trans (g14_p1_lin la40 la38 la44 la46 (fun _ _ _ _ _ => rfl) (fun _ => rfl) (fun _ _ => rfl))
noncomputable def g14_p3 (a40 : T40) (a38 : T38) (a44 : T44) (a46 : T46) (R : Type) (t0 : V) (t11 : Sl) (t12 : Int) (t13 : Int) (H : Heap) (kN : Heap → Option R) (kR : Int → Heap → Option R) : Option R :=
  g14_p2 a40 a38 a44 a46 R t0 t11 t12 t13 H (fun H => kN  H) (fun t4 H => kR t4 H)
theorem g14_p3_lin {a40 : T40} {a38 : T38} {a44 : T44} {a46 : T46} (la40 : Lin40 a40) (la38 : Lin38 a38) (la44 : Lin44 a44) (la46 : Lin46 a46) {R S : Type} {k : S → Option R} {t0 : V} {t11 : Sl} {t12 : Int} {t13 : Int} {H : Heap} {fkN : Heap → Option R} {gkN : Heap → Option S} {fkR : Int → Heap → Option R} {gkR : Int → Heap → Option S} (hkN : ∀ H, fkN H = (gkN H).bind k) (hkR : ∀ t4 H, fkR t4 H = (gkR t4 H).bind k) : g14_p3 a40 a38 a44 a46 R t0 t11 t12 t13 H fkN fkR = (g14_p3 a40 a38 a44 a46 S t0 t11 t12 t13 H gkN gkR).bind k := by
  exact g14_p2_lin la40 la38 la44 la46 (fun _ => hkN _) (fun _ _ => hkR _ _)
theorem g14_p3_eq (a40 : T40) (a38 : T38) (a44 : T44) (a46 : T46) (la40 : Lin40 a40) (la38 : Lin38 a38) (la44 : Lin44 a44) (la46 : Lin46 a46) {R : Type} (t0 : V) (t11 : Sl) (t12 : Int) (t13 : Int) (H : Heap) (K : Ex → Fr → Heap → Option R) : ev Try.prog (E14 a40 a38 a44 a46) loopLim Try.f14.ntmps kp14 c14_2 [(0, t0), (11, (V.sl t11)), (12, (V.i .i64 t12)), (13, (V.i .i64 t13))] H K = g14_p3 a40 a38 a44 a46 R t0 t11 t12 t13 H (fun H => K .normal [] H) (fun t4 H => K .ret [(4, (V.i .i64 t4))] H) := by
  show ev Try.prog (E14 a40 a38 a44 a46) loopLim Try.f14.ntmps kp14 (.block 0 c14_1) [(0, t0), (11, (V.sl t11)), (12, (V.i .i64 t12)), (13, (V.i .i64 t13))] H K = _
  rw [ev_block]
  delta g14_p3
  exact (g14_p2_eq a40 a38 a44 a46 la40 la38 la44 la46 t0 t11 t12 t13 H (kBlock kp14 0 K))
noncomputable def g14_p4 (a40 : T40) (a38 : T38) (a44 : T44) (a46 : T46) (R : Type) (H : Heap) (kR : Int → Heap → Option R) : Option R :=
  kR (-1 : Int) H
theorem g14_p4_eq (a40 : T40) (a38 : T38) (a44 : T44) (a46 : T46) (la40 : Lin40 a40) (la38 : Lin38 a38) (la44 : Lin44 a44) (la46 : Lin46 a46) {R : Type} (H : Heap) (K : Ex → Fr → Heap → Option R) : ev Try.prog (E14 a40 a38 a44 a46) loopLim Try.f14.ntmps kp14 c14_3 [] H K = g14_p4 a40 a38 a44 a46 R H (fun t4 H => K .ret [(4, (V.i .i64 t4))] H) := by kernel_rfl
theorem g14_p4_lin {a40 : T40} {a38 : T38} {a44 : T44} {a46 : T46} (la40 : Lin40 a40) (la38 : Lin38 a38) (la44 : Lin44 a44) (la46 : Lin46 a46) {R S : Type} {k : S → Option R} {H : Heap} {fkR : Int → Heap → Option R} {gkR : Int → Heap → Option S} (hkR : ∀ t4 H, fkR t4 H = (gkR t4 H).bind k) : g14_p4 a40 a38 a44 a46 R H fkR = (g14_p4 a40 a38 a44 a46 S H gkR).bind k := by
  delta g14_p4; exact (
    hkR _ _)
noncomputable def g14_p5 (a40 : T40) (a38 : T38) (a44 : T44) (a46 : T46) (R : Type) (t0 : V) (t11 : Sl) (t12 : Int) (t13 : Int) (H : Heap) (kR : Int → Heap → Option R) : Option R :=
  g14_p3 a40 a38 a44 a46 R t0 t11 t12 t13 H (fun H => g14_p4 a40 a38 a44 a46 R H (fun t4 H => kR t4 H)) (fun t4 H => kR t4 H)
theorem g14_p5_lin {a40 : T40} {a38 : T38} {a44 : T44} {a46 : T46} (la40 : Lin40 a40) (la38 : Lin38 a38) (la44 : Lin44 a44) (la46 : Lin46 a46) {R S : Type} {k : S → Option R} {t0 : V} {t11 : Sl} {t12 : Int} {t13 : Int} {H : Heap} {fkR : Int → Heap → Option R} {gkR : Int → Heap → Option S} (hkR : ∀ t4 H, fkR t4 H = (gkR t4 H).bind k) : g14_p5 a40 a38 a44 a46 R t0 t11 t12 t13 H fkR = (g14_p5 a40 a38 a44 a46 S t0 t11 t12 t13 H gkR).bind k := by
  exact g14_p3_lin la40 la38 la44 la46 (fun _ => g14_p4_lin la40 la38 la44 la46 (fun _ _ => hkR _ _)) (fun _ _ => hkR _ _)
theorem g14_p5_eq (a40 : T40) (a38 : T38) (a44 : T44) (a46 : T46) (la40 : Lin40 a40) (la38 : Lin38 a38) (la44 : Lin44 a44) (la46 : Lin46 a46) {R : Type} (t0 : V) (t11 : Sl) (t12 : Int) (t13 : Int) (H : Heap) (K : Ex → Fr → Heap → Option R) : ev Try.prog (E14 a40 a38 a44 a46) loopLim Try.f14.ntmps kp14 c14_4 [(0, t0), (11, (V.sl t11)), (12, (V.i .i64 t12)), (13, (V.i .i64 t13))] H K = g14_p5 a40 a38 a44 a46 R t0 t11 t12 t13 H (fun t4 H => K .ret [(4, (V.i .i64 t4))] H) := by
  show ev Try.prog (E14 a40 a38 a44 a46) loopLim Try.f14.ntmps kp14 (.seq c14_2 c14_3) [(0, t0), (11, (V.sl t11)), (12, (V.i .i64 t12)), (13, (V.i .i64 t13))] H K = _
  rw [ev_seq]
  delta g14_p5
  exact (g14_p3_eq a40 a38 a44 a46 la40 la38 la44 la46 t0 t11 t12 t13 H (kSeq (fun fr H => ev Try.prog (E14 a40 a38 a44 a46) loopLim Try.f14.ntmps kp14 c14_3 fr H K) K)).trans (congr (congrArg (g14_p3 a40 a38 a44 a46 R t0 t11 t12 t13 H) (funext fun H => (kSeq_n _ _ _ _).trans (g14_p4_eq a40 a38 a44 a46 la40 la38 la44 la46 H K))) rfl)
noncomputable def g14_p6 (a40 : T40) (a38 : T38) (a44 : T44) (a46 : T46) (R : Type) (t0 : V) (t1 : Sl) (H : Heap) (kR : Int → Heap → Option R) : Option R :=
  g14_p0 a40 a38 a44 a46 R t0 t1 H (fun t0 t11 t12 t13 H => g14_p5 a40 a38 a44 a46 R t0 t11 t12 t13 H (fun t4 H => kR t4 H)) (fun t4 H => kR t4 H)
theorem g14_p6_lin {a40 : T40} {a38 : T38} {a44 : T44} {a46 : T46} (la40 : Lin40 a40) (la38 : Lin38 a38) (la44 : Lin44 a44) (la46 : Lin46 a46) {R S : Type} {k : S → Option R} {t0 : V} {t1 : Sl} {H : Heap} {fkR : Int → Heap → Option R} {gkR : Int → Heap → Option S} (hkR : ∀ t4 H, fkR t4 H = (gkR t4 H).bind k) : g14_p6 a40 a38 a44 a46 R t0 t1 H fkR = (g14_p6 a40 a38 a44 a46 S t0 t1 H gkR).bind k := by
  exact g14_p0_lin la40 la38 la44 la46 (fun _ _ _ _ _ => g14_p5_lin la40 la38 la44 la46 (fun _ _ => hkR _ _)) (fun _ _ => hkR _ _)
theorem g14_p6_eq (a40 : T40) (a38 : T38) (a44 : T44) (a46 : T46) (la40 : Lin40 a40) (la38 : Lin38 a38) (la44 : Lin44 a44) (la46 : Lin46 a46) {R : Type} (t0 : V) (t1 : Sl) (H : Heap) (K : Ex → Fr → Heap → Option R) : ev Try.prog (E14 a40 a38 a44 a46) loopLim Try.f14.ntmps kp14 c14_5 [(0, t0), (1, (V.sl t1))] H K = g14_p6 a40 a38 a44 a46 R t0 t1 H (fun t4 H => K .ret [(4, (V.i .i64 t4))] H) := by
  show ev Try.prog (E14 a40 a38 a44 a46) loopLim Try.f14.ntmps kp14 (.seq (codeAt [0] b14) (.seq (codeAt [1, 0, 0] b14) (.seq (.cond (.tmp 8) (.seq (codeAt [1, 0, 1, 0, 0] b14) .ret) .skip) (.seq (codeAt [1, 1, 0, 0] b14) (.seq (.cond (.tmp 10) (.seq (codeAt [1, 1, 0, 1, 0, 0] b14) .ret) .skip) (.seq (codeAt [1, 1, 1, 0, 0] b14) c14_4)))))) [(0, t0), (1, (V.sl t1))] H K = _
  delta g14_p6
  exact (g14_p0_eq a40 a38 a44 a46 _ t0 t1 H K).trans (congr (congrArg (g14_p0 a40 a38 a44 a46 R t0 t1 H) (funext fun t0 => funext fun t11 => funext fun t12 => funext fun t13 => funext fun H => g14_p5_eq a40 a38 a44 a46 la40 la38 la44 la46 t0 t11 t12 t13 H K)) rfl)
noncomputable def g14_r (a40 : T40) (a38 : T38) (a44 : T44) (a46 : T46) : T14 := fun R t0 t1 H K =>
  g14_p6 a40 a38 a44 a46 R t0 t1 H (fun t4 H =>
    K t4 H)
theorem g14_r_lin {a40 : T40} {a38 : T38} {a44 : T44} {a46 : T46} (la40 : Lin40 a40) (la38 : Lin38 a38) (la44 : Lin44 a44) (la46 : Lin46 a46) : Lin14 (g14_r a40 a38 a44 a46) := by
  constructor
  intro R S k t0 t1 H f g h
  exact g14_p6_lin la40 la38 la44 la46 (fun t4 H =>
    h _ _)
theorem g14_fn (a40 : T40) (a38 : T38) (a44 : T44) (a46 : T46) (la40 : Lin40 a40) (la38 : Lin38 a38) (la44 : Lin44 a44) (la46 : Lin46 a46) {R : Type} (t0 : V) (t1 : Sl) (H : Heap) (K : V → Heap → Option R) : evFn Try.prog (E14 a40 a38 a44 a46) loopLim Try.f14 kp14 [t0, (V.sl t1)] H K = g14_r a40 a38 a44 a46 R t0 t1 H (fun r0 H => K (V.i .i64 r0) H) := by
  have h0 : ∀ (t4 : Int) (H : Heap), kFn Try.prog Try.f14.results.toList K .ret [(4, (V.i .i64 t4))] H =
      K (V.i .i64 t4) H := by intros; kernel_rfl
  have e0 := evFn_code2 (P := Try.prog) (c := c14_5) (E := (E14 a40 a38 a44 a46)) (lr := loopLim) (kp := kp14) (fn := Try.f14) (args := [t0, (V.sl t1)]) H K (by kernel_rfl) (Nat.le_of_ble_eq_true (by kernel_rfl)) (by kernel_rfl)
  have e1 : ev Try.prog (E14 a40 a38 a44 a46) loopLim Try.f14.ntmps kp14 c14_5 (argFr 0 [t0, (V.sl t1)]) H (kFn Try.prog Try.f14.results.toList K) = ev Try.prog (E14 a40 a38 a44 a46) loopLim Try.f14.ntmps kp14 c14_5 [(0, t0), (1, (V.sl t1))] H (kFn Try.prog Try.f14.results.toList K) := by kernel_rfl
  refine (e0.trans e1).trans ?_
  delta g14_r
  exact (g14_p6_eq a40 a38 a44 a46 la40 la38 la44 la46 t0 t1 H (kFn Try.prog Try.f14.results.toList K)).trans (congrArg (g14_p6 a40 a38 a44 a46 R t0 t1 H) (funext fun t4 => funext fun H => h0 t4 H))
theorem g14_ok {a40 : T40} {a38 : T38} {a44 : T44} {a46 : T46} (oa40 : FunOK Try.prog 40 (w40 a40)) (oa38 : FunOK Try.prog 38 (w38 a38)) (oa44 : FunOK Try.prog 44 (w44 a44)) (oa46 : FunOK Try.prog 46 (w46 a46)) (la40 : Lin40 a40) (la38 : Lin38 a38) (la44 : Lin44 a44) (la46 : Lin46 a46) : FunOK Try.prog 14 (w14 (g14_r a40 a38 a44 a46)) := by
  refine (runF_ok (E14_good oa40 oa38 oa44 oa46 la40 la38 la44 la46) mixed lim_ok Try.func14 (by kernel_rfl) kp14).of_le fun R args H K r hk => ?_
  unfold w14 at hk
  split at hk
  · exact (g14_fn a40 a38 a44 a46 la40 la38 la44 la46 _ _ H K).trans hk
  · cases hk
def kp4 : Nat → Option (List Nat) := kpOf [(0, [1, 2]), (1, [1, 2, 17]), (2, [4]), (3, [1, 2, 5, 6]), (4, [1, 2, 5, 29]), (5, [4]), (6, [1, 2, 5, 7]), (7, [2, 5, 7, 11]), (8, [2, 5, 7, 11, 12]), (9, [2, 5, 7, 11, 12, 13]), (10, [2, 5, 7, 11, 12, 13, 42]), (11, [2, 5, 7, 11, 12, 13]), (12, [2, 5, 7, 11, 12, 13, 51]), (13, [2, 5, 7, 11, 12, 13]), (14, [2, 5, 11, 12, 14]), (15, [5, 11, 12, 66]), (16, [4]), (17, [4]), (100000, [2, 5, 11, 12]), (100001, [2, 5, 7, 11, 12, 13]), (200000, [2, 5, 7, 11, 12, 13]), (200001, [2, 5, 7, 11, 12, 13]), (300000, [4]), (400017, [1, 2]), (400029, [1, 2, 5]), (400042, [2, 5, 7, 11, 12, 13]), (400051, [2, 5, 7, 11, 12, 13]), (400066, [5, 11, 12])]
def E4 (a9 : T9) (a10 : T10) (a12 : T12) (a11 : T11) (a13 : T13) (a14 : T14) (a39 : T39) : FEnv := [(9, w9 a9), (10, w10 a10), (12, w12 a12), (11, w11 a11), (13, w13 a13), (14, w14 a14), (39, w39 a39)]
theorem E4_good {a9 : T9} {a10 : T10} {a12 : T12} {a11 : T11} {a13 : T13} {a14 : T14} {a39 : T39} (oa9 : FunOK Try.prog 9 (w9 a9)) (oa10 : FunOK Try.prog 10 (w10 a10)) (oa12 : FunOK Try.prog 12 (w12 a12)) (oa11 : FunOK Try.prog 11 (w11 a11)) (oa13 : FunOK Try.prog 13 (w13 a13)) (oa14 : FunOK Try.prog 14 (w14 a14)) (oa39 : FunOK Try.prog 39 (w39 a39)) (la9 : Lin9 a9) (la10 : Lin10 a10) (la12 : Lin12 a12) (la11 : Lin11 a11) (la13 : Lin13 a13) (la14 : Lin14 a14) (la39 : Lin39 a39) : EnvGood Try.prog (E4 a9 a10 a12 a11 a13 a14 a39) := ((((((((EnvGood.nil _).cons oa39 (w39_lin la39)).cons oa14 (w14_lin la14)).cons oa13 (w13_lin la13)).cons oa11 (w11_lin la11)).cons oa12 (w12_lin la12)).cons oa10 (w10_lin la10)).cons oa9 (w9_lin la9))
theorem E4_lin {a9 : T9} {a10 : T10} {a12 : T12} {a11 : T11} {a13 : T13} {a14 : T14} {a39 : T39} (la9 : Lin9 a9) (la10 : Lin10 a10) (la12 : Lin12 a12) (la11 : Lin11 a11) (la13 : Lin13 a13) (la14 : Lin14 a14) (la39 : Lin39 a39) : EnvLin (E4 a9 a10 a12 a11 a13 a14 a39) := by
  intro g F h
  simp only [E4, List.mem_cons, List.not_mem_nil, or_false] at h
  rcases h with h | h | h | h | h | h | h
  · cases h; exact w9_lin la9
  · cases h; exact w10_lin la10
  · cases h; exact w12_lin la12
  · cases h; exact w11_lin la11
  · cases h; exact w13_lin la13
  · cases h; exact w14_lin la14
  · cases h; exact w39_lin la39
noncomputable def b4 : Code := Try.f4.body.getD .skip
noncomputable def c4_0 : Code := (.seq (codeAt [1, 1, 1, 1, 1, 1, 1, 0, 1, 0, 0, 0, 0] b4) (.seq (.cond (.tmp 42) .skip (.exit 0)) (.seq (.block 1 (.seq (codeAt [1, 1, 1, 1, 1, 1, 1, 0, 1, 0, 0, 1, 0, 0, 0] b4) (.cond (.tmp 51) (codeAt [1, 1, 1, 1, 1, 1, 1, 0, 1, 0, 0, 1, 0, 0, 1, 0] b4) .skip))) (codeAt [1, 1, 1, 1, 1, 1, 1, 0, 1, 0, 0, 1, 1] b4))))
noncomputable def c4_1 : Code := (.loop c4_0)
noncomputable def c4_2 : Code := (.block 0 c4_1)
noncomputable def c4_3 : Code := (.seq (codeAt [1, 1, 1, 1, 1, 1, 1, 1, 0] b4) (.seq (codeAt [1, 1, 1, 1, 1, 1, 1, 1, 1, 0, 0] b4) (.seq (.cond (.tmp 66) (.seq (codeAt [1, 1, 1, 1, 1, 1, 1, 1, 1, 0, 1, 0, 0] b4) .ret) .skip) (.seq (codeAt [1, 1, 1, 1, 1, 1, 1, 1, 1, 1, 0] b4) .ret))))
noncomputable def c4_4 : Code := (.seq c4_2 c4_3)
noncomputable def c4_5 : Code := (.seq (codeAt [0] b4) (.seq (codeAt [1, 0, 0] b4) (.seq (.cond (.tmp 17) (.seq (codeAt [1, 0, 1, 0, 0] b4) .ret) .skip) (.seq (codeAt [1, 1, 0] b4) (.seq (codeAt [1, 1, 1, 0, 0] b4) (.seq (.cond (.tmp 29) (.seq (codeAt [1, 1, 1, 0, 1, 0, 0] b4) .ret) .skip) (.seq (codeAt [1, 1, 1, 1, 0] b4) (.seq (codeAt [1, 1, 1, 1, 1, 0] b4) (.seq (codeAt [1, 1, 1, 1, 1, 1, 0] b4) (.seq (codeAt [1, 1, 1, 1, 1, 1, 1, 0, 0] b4) c4_4))))))))))
noncomputable def g4_p0 (a9 : T9) (a10 : T10) (a12 : T12) (a11 : T11) (a13 : T13) (a14 : T14) (a39 : T39) (R : Type) (t0_0 : Int) (t0_1 : Int) (t0_2 : Int) (t0_3 : Int) (t0_4 : Int) (t1 : ByteArray) (H : Heap) (kN : Nat → Nat → V → Int → Sl → Int → Int → Heap → Option R) (kR : Bool → Heap → Option R) : Option R :=
  alo H (.cells [(V.i .u8 t0_0), (V.i .u8 t0_1), (V.i .u8 t0_2), (V.i .u8 t0_3), (V.i .u8 t0_4)] 23 false) fun i120 h121 =>
  sel (decide (((t1.size : Nat) : Int) > (300 : Int))) (
    a9 R h121 fun x122 h123 =>
    kR x122 h123) (
    ((h121).ldI .u8 i120 (0 + 0)).bind fun x124 =>
    ((h121).ldI .u8 i120 (0 + 1)).bind fun x125 =>
    ((h121).ldI .u8 i120 (0 + 2)).bind fun x126 =>
    ((h121).ldI .u8 i120 (0 + 3)).bind fun x127 =>
    ((h121).ldI .u8 i120 (0 + 4)).bind fun x128 =>
    a10 R x124 x125 x126 x127 x128 h121 fun x129 x130 h131 =>
    if (V.one x129) = true then (
      sel (x130 != (0 : Int)) (
        kR false h131) (
        ((ifNil x129)).bind fun x132 =>
        sel x132 (
          kR false h131) (
          ((h131).ldI .u8 i120 (0 + 0)).bind fun x133 =>
          ((h131).ldI .u8 i120 (0 + 1)).bind fun x134 =>
          ((h131).ldI .u8 i120 (0 + 2)).bind fun x135 =>
          ((h131).ldI .u8 i120 (0 + 3)).bind fun x136 =>
          ((h131).ldI .u8 i120 (0 + 4)).bind fun x137 =>
          a12 R x133 x134 x135 x136 x137 h131 fun x138 x139 x140 x141 h142 =>
          a11 R t1 h142 fun x143 h144 =>
          kN i120 0 x129 x138 x143 (-1 : Int) ((x143.len : Nat) : Int) h144)))
    else (
      none))
theorem g4_p0_eq (a9 : T9) (a10 : T10) (a12 : T12) (a11 : T11) (a13 : T13) (a14 : T14) (a39 : T39) {R : Type} (c2 : Code) (t0_0 : Int) (t0_1 : Int) (t0_2 : Int) (t0_3 : Int) (t0_4 : Int) (t1 : ByteArray) (H : Heap) (K : Ex → Fr → Heap → Option R) : ev Try.prog (E4 a9 a10 a12 a11 a13 a14 a39) loopLim Try.f4.ntmps kp4 (.seq (codeAt [0] b4) (.seq (codeAt [1, 0, 0] b4) (.seq (.cond (.tmp 17) (.seq (codeAt [1, 0, 1, 0, 0] b4) .ret) .skip) (.seq (codeAt [1, 1, 0] b4) (.seq (codeAt [1, 1, 1, 0, 0] b4) (.seq (.cond (.tmp 29) (.seq (codeAt [1, 1, 1, 0, 1, 0, 0] b4) .ret) .skip) (.seq (codeAt [1, 1, 1, 1, 0] b4) (.seq (codeAt [1, 1, 1, 1, 1, 0] b4) (.seq (codeAt [1, 1, 1, 1, 1, 1, 0] b4) (.seq (codeAt [1, 1, 1, 1, 1, 1, 1, 0, 0] b4) c2)))))))))) [(0, (V.agg [(V.i .u8 t0_0), (V.i .u8 t0_1), (V.i .u8 t0_2), (V.i .u8 t0_3), (V.i .u8 t0_4)])), (1, (V.s t1))] H K = g4_p0 a9 a10 a12 a11 a13 a14 a39 R t0_0 t0_1 t0_2 t0_3 t0_4 t1 H (fun t2_0 t2_1 t5 t7 t11 t12 t13 H => ev Try.prog (E4 a9 a10 a12 a11 a13 a14 a39) loopLim Try.f4.ntmps kp4 c2 [(2, (V.p (some (t2_0, t2_1)))), (5, t5), (7, (V.i .i64 t7)), (11, (V.sl t11)), (12, (V.i .i64 t12)), (13, (V.i .i64 t13))] H K) (fun t4 H => K .ret [(4, (V.b t4))] H) := by kernel_rfl
theorem g4_p0_lin {a9 : T9} {a10 : T10} {a12 : T12} {a11 : T11} {a13 : T13} {a14 : T14} {a39 : T39} (la9 : Lin9 a9) (la10 : Lin10 a10) (la12 : Lin12 a12) (la11 : Lin11 a11) (la13 : Lin13 a13) (la14 : Lin14 a14) (la39 : Lin39 a39) {R S : Type} {k : S → Option R} {t0_0 : Int} {t0_1 : Int} {t0_2 : Int} {t0_3 : Int} {t0_4 : Int} {t1 : ByteArray} {H : Heap} {fkN : Nat → Nat → V → Int → Sl → Int → Int → Heap → Option R} {gkN : Nat → Nat → V → Int → Sl → Int → Int → Heap → Option S} {fkR : Bool → Heap → Option R} {gkR : Bool → Heap → Option S} (hkN : ∀ t2_0 t2_1 t5 t7 t11 t12 t13 H, fkN t2_0 t2_1 t5 t7 t11 t12 t13 H = (gkN t2_0 t2_1 t5 t7 t11 t12 t13 H).bind k) (hkR : ∀ t4 H, fkR t4 H = (gkR t4 H).bind k) : g4_p0 a9 a10 a12 a11 a13 a14 a39 R t0_0 t0_1 t0_2 t0_3 t0_4 t1 H fkN fkR = (g4_p0 a9 a10 a12 a11 a13 a14 a39 S t0_0 t0_1 t0_2 t0_3 t0_4 t1 H gkN gkR).bind k := by
  delta g4_p0; exact (
    alo_lin fun i120 h121 =>
    sl_lin (
      la9.l fun x122 h123 =>
      hkR _ _) (
      bl fun x124 =>
      bl fun x125 =>
      bl fun x126 =>
      bl fun x127 =>
      bl fun x128 =>
      la10.l fun x129 x130 h131 =>
      il (
        sl_lin (
          hkR _ _) (
          bl fun x132 =>
          sl_lin (
            hkR _ _) (
            bl fun x133 =>
            bl fun x134 =>
            bl fun x135 =>
            bl fun x136 =>
            bl fun x137 =>
            la12.l fun x138 x139 x140 x141 h142 =>
            la11.l fun x143 h144 =>
            hkN _ _ _ _ _ _ _ _))) (
        rfl)))
noncomputable def g4_p1 (a9 : T9) (a10 : T10) (a12 : T12) (a11 : T11) (a13 : T13) (a14 : T14) (a39 : T39) (R : Type) (t2_0 : Nat) (t2_1 : Nat) (t5 : V) (t7 : Int) (t11 : Sl) (t12 : Int) (t13 : Int) (H : Heap) (kN : Nat → Nat → V → Int → Sl → Int → Int → Heap → Option R) (kE0 : Nat → Nat → V → Sl → Int → Heap → Option R) : Option R :=
  sel (decide (t13 > (0 : Int))) (
    ((H).ldI .u8 t2_0 (t2_1 + 0)).bind fun x145 =>
    ((H).ldI .u8 t2_0 (t2_1 + 1)).bind fun x146 =>
    ((H).ldI .u8 t2_0 (t2_1 + 2)).bind fun x147 =>
    ((H).ldI .u8 t2_0 (t2_1 + 3)).bind fun x148 =>
    ((H).ldI .u8 t2_0 (t2_1 + 4)).bind fun x149 =>
    slOf 1 t11 none (some t13) none fun s150 =>
    a13 R x145 x146 x147 x148 x149 s150 H fun x151 h152 =>
    sel (x151 == t7) (
      kN t2_0 t2_1 t5 t7 t11 t13 (IntKind.wrap .i64 (t13 - (1 : Int))) h152) (
      kN t2_0 t2_1 t5 t7 t11 t12 (IntKind.wrap .i64 (t13 - (1 : Int))) h152)) (
    kE0 t2_0 t2_1 t5 t11 t12 H)
theorem g4_p1_eq (a9 : T9) (a10 : T10) (a12 : T12) (a11 : T11) (a13 : T13) (a14 : T14) (a39 : T39) (la9 : Lin9 a9) (la10 : Lin10 a10) (la12 : Lin12 a12) (la11 : Lin11 a11) (la13 : Lin13 a13) (la14 : Lin14 a14) (la39 : Lin39 a39) {R : Type} (t2_0 : Nat) (t2_1 : Nat) (t5 : V) (t7 : Int) (t11 : Sl) (t12 : Int) (t13 : Int) (H : Heap) (K : Ex → Fr → Heap → Option R) : ev Try.prog (E4 a9 a10 a12 a11 a13 a14 a39) loopLim Try.f4.ntmps kp4 c4_0 [(2, (V.p (some (t2_0, t2_1)))), (5, t5), (7, (V.i .i64 t7)), (11, (V.sl t11)), (12, (V.i .i64 t12)), (13, (V.i .i64 t13))] H K = g4_p1 a9 a10 a12 a11 a13 a14 a39 R t2_0 t2_1 t5 t7 t11 t12 t13 H (fun t2_0 t2_1 t5 t7 t11 t12 t13 H => K .normal [(2, (V.p (some (t2_0, t2_1)))), (5, t5), (7, (V.i .i64 t7)), (11, (V.sl t11)), (12, (V.i .i64 t12)), (13, (V.i .i64 t13))] H) (fun t2_0 t2_1 t5 t11 t12 H => K (.exit 0) [(2, (V.p (some (t2_0, t2_1)))), (5, t5), (11, (V.sl t11)), (12, (V.i .i64 t12))] H) := by kernel_rfl
theorem g4_p1_lin {a9 : T9} {a10 : T10} {a12 : T12} {a11 : T11} {a13 : T13} {a14 : T14} {a39 : T39} (la9 : Lin9 a9) (la10 : Lin10 a10) (la12 : Lin12 a12) (la11 : Lin11 a11) (la13 : Lin13 a13) (la14 : Lin14 a14) (la39 : Lin39 a39) {R S : Type} {k : S → Option R} {t2_0 : Nat} {t2_1 : Nat} {t5 : V} {t7 : Int} {t11 : Sl} {t12 : Int} {t13 : Int} {H : Heap} {fkN : Nat → Nat → V → Int → Sl → Int → Int → Heap → Option R} {gkN : Nat → Nat → V → Int → Sl → Int → Int → Heap → Option S} {fkE0 : Nat → Nat → V → Sl → Int → Heap → Option R} {gkE0 : Nat → Nat → V → Sl → Int → Heap → Option S} (hkN : ∀ t2_0 t2_1 t5 t7 t11 t12 t13 H, fkN t2_0 t2_1 t5 t7 t11 t12 t13 H = (gkN t2_0 t2_1 t5 t7 t11 t12 t13 H).bind k) (hkE0 : ∀ t2_0 t2_1 t5 t11 t12 H, fkE0 t2_0 t2_1 t5 t11 t12 H = (gkE0 t2_0 t2_1 t5 t11 t12 H).bind k) : g4_p1 a9 a10 a12 a11 a13 a14 a39 R t2_0 t2_1 t5 t7 t11 t12 t13 H fkN fkE0 = (g4_p1 a9 a10 a12 a11 a13 a14 a39 S t2_0 t2_1 t5 t7 t11 t12 t13 H gkN gkE0).bind k := by
  delta g4_p1; exact (
    sl_lin (
      bl fun x145 =>
      bl fun x146 =>
      bl fun x147 =>
      bl fun x148 =>
      bl fun x149 =>
      slOf_lin fun s150 =>
      la13.l fun x151 h152 =>
      sl_lin (
        hkN _ _ _ _ _ _ _ _) (
        hkN _ _ _ _ _ _ _ _)) (
      hkE0 _ _ _ _ _ _))
abbrev g4_p2_S := Nat × Nat × V × Int × Sl × Int × Int
abbrev g4_p2_O := Nat × Nat × V × Sl × Int
def g4_p2_es (s : g4_p2_S) : Fr := [(2, (V.p (some (s.1, s.2.1)))), (5, s.2.2.1), (7, (V.i .i64 s.2.2.2.1)), (11, (V.sl s.2.2.2.2.1)), (12, (V.i .i64 s.2.2.2.2.2.1)), (13, (V.i .i64 s.2.2.2.2.2.2))]
def g4_p2_er (r : g4_p2_O) : Ex × Fr := ((.exit 0), [(2, (V.p (some (r.1, r.2.1)))), (5, r.2.2.1), (11, (V.sl r.2.2.2.1)), (12, (V.i .i64 r.2.2.2.2))])
noncomputable def g4_p2_b (a9 : T9) (a10 : T10) (a12 : T12) (a11 : T11) (a13 : T13) (a14 : T14) (a39 : T39) (s : g4_p2_S) (H : Heap) : Option (Rd g4_p2_S g4_p2_O × Heap) :=
  g4_p1 a9 a10 a12 a11 a13 a14 a39 _ s.1 s.2.1 s.2.2.1 s.2.2.2.1 s.2.2.2.2.1 s.2.2.2.2.2.1 s.2.2.2.2.2.2 H (fun t2_0 t2_1 t5 t7 t11 t12 t13 H => some (.go (t2_0, t2_1, t5, t7, t11, t12, t13), H)) (fun t2_0 t2_1 t5 t11 t12 H => some (.up (t2_0, t2_1, t5, t11, t12), H))
noncomputable def g4_p2 (a9 : T9) (a10 : T10) (a12 : T12) (a11 : T11) (a13 : T13) (a14 : T14) (a39 : T39) (R : Type) (t2_0 : Nat) (t2_1 : Nat) (t5 : V) (t7 : Int) (t11 : Sl) (t12 : Int) (t13 : Int) (H : Heap) (kE0 : Nat → Nat → V → Sl → Int → Heap → Option R) : Option R :=
  (tlim (g4_p2_b a9 a10 a12 a11 a13 a14 a39) (t2_0, t2_1, t5, t7, t11, t12, t13) H).bind fun p => kE0 p.1.1 p.1.2.1 p.1.2.2.1 p.1.2.2.2.1 p.1.2.2.2.2 p.2
theorem g4_p2_lin {a9 : T9} {a10 : T10} {a12 : T12} {a11 : T11} {a13 : T13} {a14 : T14} {a39 : T39} (la9 : Lin9 a9) (la10 : Lin10 a10) (la12 : Lin12 a12) (la11 : Lin11 a11) (la13 : Lin13 a13) (la14 : Lin14 a14) (la39 : Lin39 a39) {R S : Type} {k : S → Option R} {t2_0 : Nat} {t2_1 : Nat} {t5 : V} {t7 : Int} {t11 : Sl} {t12 : Int} {t13 : Int} {H : Heap} {fkE0 : Nat → Nat → V → Sl → Int → Heap → Option R} {gkE0 : Nat → Nat → V → Sl → Int → Heap → Option S} (hkE0 : ∀ t2_0 t2_1 t5 t11 t12 H, fkE0 t2_0 t2_1 t5 t11 t12 H = (gkE0 t2_0 t2_1 t5 t11 t12 H).bind k) : g4_p2 a9 a10 a12 a11 a13 a14 a39 R t2_0 t2_1 t5 t7 t11 t12 t13 H fkE0 = (g4_p2 a9 a10 a12 a11 a13 a14 a39 S t2_0 t2_1 t5 t7 t11 t12 t13 H gkE0).bind k := by
  exact bl fun p => hkE0 _ _ _ _ _ _
theorem g4_p2_eq (a9 : T9) (a10 : T10) (a12 : T12) (a11 : T11) (a13 : T13) (a14 : T14) (a39 : T39) (la9 : Lin9 a9) (la10 : Lin10 a10) (la12 : Lin12 a12) (la11 : Lin11 a11) (la13 : Lin13 a13) (la14 : Lin14 a14) (la39 : Lin39 a39) {R : Type} (t2_0 : Nat) (t2_1 : Nat) (t5 : V) (t7 : Int) (t11 : Sl) (t12 : Int) (t13 : Int) (H : Heap) (K : Ex → Fr → Heap → Option R) : ev Try.prog (E4 a9 a10 a12 a11 a13 a14 a39) loopLim Try.f4.ntmps kp4 c4_1 [(2, (V.p (some (t2_0, t2_1)))), (5, t5), (7, (V.i .i64 t7)), (11, (V.sl t11)), (12, (V.i .i64 t12)), (13, (V.i .i64 t13))] H K = g4_p2 a9 a10 a12 a11 a13 a14 a39 R t2_0 t2_1 t5 t7 t11 t12 t13 H (fun t2_0 t2_1 t5 t11 t12 H => K (.exit 0) [(2, (V.p (some (t2_0, t2_1)))), (5, t5), (11, (V.sl t11)), (12, (V.i .i64 t12))] H) := by
  show ev Try.prog (E4 a9 a10 a12 a11 a13 a14 a39) loopLim Try.f4.ntmps kp4 (.loop c4_0) [(2, (V.p (some (t2_0, t2_1)))), (5, t5), (7, (V.i .i64 t7)), (11, (V.sl t11)), (12, (V.i .i64 t12)), (13, (V.i .i64 t13))] H K = _
  delta g4_p2
  refine (ev_tlim (b := g4_p2_b a9 a10 a12 a11 a13 a14 a39) (es := g4_p2_es) (er := g4_p2_er) (by intro r; exact nofun) (fun s H => ?_) (t2_0, t2_1, t5, t7, t11, t12, t13) H K).trans (bc fun p => rfl)
  exact (g4_p1_eq a9 a10 a12 a11 a13 a14 a39 la9 la10 la12 la11 la13 la14 la39 s.1 s.2.1 s.2.2.1 s.2.2.2.1 s.2.2.2.2.1 s.2.2.2.2.2.1 s.2.2.2.2.2.2 H ret3).trans (g4_p1_lin la9 la10 la12 la11 la13 la14 la39 (fun _ _ _ _ _ _ _ _ => rfl) (fun _ _ _ _ _ _ => rfl))
noncomputable def g4_p3 (a9 : T9) (a10 : T10) (a12 : T12) (a11 : T11) (a13 : T13) (a14 : T14) (a39 : T39) (R : Type) (t2_0 : Nat) (t2_1 : Nat) (t5 : V) (t7 : Int) (t11 : Sl) (t12 : Int) (t13 : Int) (H : Heap) (kN : Nat → Nat → V → Sl → Int → Heap → Option R) : Option R :=
  g4_p2 a9 a10 a12 a11 a13 a14 a39 R t2_0 t2_1 t5 t7 t11 t12 t13 H (fun t2_0 t2_1 t5 t11 t12 H => kN t2_0 t2_1 t5 t11 t12 H)
theorem g4_p3_lin {a9 : T9} {a10 : T10} {a12 : T12} {a11 : T11} {a13 : T13} {a14 : T14} {a39 : T39} (la9 : Lin9 a9) (la10 : Lin10 a10) (la12 : Lin12 a12) (la11 : Lin11 a11) (la13 : Lin13 a13) (la14 : Lin14 a14) (la39 : Lin39 a39) {R S : Type} {k : S → Option R} {t2_0 : Nat} {t2_1 : Nat} {t5 : V} {t7 : Int} {t11 : Sl} {t12 : Int} {t13 : Int} {H : Heap} {fkN : Nat → Nat → V → Sl → Int → Heap → Option R} {gkN : Nat → Nat → V → Sl → Int → Heap → Option S} (hkN : ∀ t2_0 t2_1 t5 t11 t12 H, fkN t2_0 t2_1 t5 t11 t12 H = (gkN t2_0 t2_1 t5 t11 t12 H).bind k) : g4_p3 a9 a10 a12 a11 a13 a14 a39 R t2_0 t2_1 t5 t7 t11 t12 t13 H fkN = (g4_p3 a9 a10 a12 a11 a13 a14 a39 S t2_0 t2_1 t5 t7 t11 t12 t13 H gkN).bind k := by
  exact g4_p2_lin la9 la10 la12 la11 la13 la14 la39 (fun _ _ _ _ _ _ => hkN _ _ _ _ _ _)
theorem g4_p3_eq (a9 : T9) (a10 : T10) (a12 : T12) (a11 : T11) (a13 : T13) (a14 : T14) (a39 : T39) (la9 : Lin9 a9) (la10 : Lin10 a10) (la12 : Lin12 a12) (la11 : Lin11 a11) (la13 : Lin13 a13) (la14 : Lin14 a14) (la39 : Lin39 a39) {R : Type} (t2_0 : Nat) (t2_1 : Nat) (t5 : V) (t7 : Int) (t11 : Sl) (t12 : Int) (t13 : Int) (H : Heap) (K : Ex → Fr → Heap → Option R) : ev Try.prog (E4 a9 a10 a12 a11 a13 a14 a39) loopLim Try.f4.ntmps kp4 c4_2 [(2, (V.p (some (t2_0, t2_1)))), (5, t5), (7, (V.i .i64 t7)), (11, (V.sl t11)), (12, (V.i .i64 t12)), (13, (V.i .i64 t13))] H K = g4_p3 a9 a10 a12 a11 a13 a14 a39 R t2_0 t2_1 t5 t7 t11 t12 t13 H (fun t2_0 t2_1 t5 t11 t12 H => K .normal [(2, (V.p (some (t2_0, t2_1)))), (5, t5), (11, (V.sl t11)), (12, (V.i .i64 t12))] H) := by
  show ev Try.prog (E4 a9 a10 a12 a11 a13 a14 a39) loopLim Try.f4.ntmps kp4 (.block 0 c4_1) [(2, (V.p (some (t2_0, t2_1)))), (5, t5), (7, (V.i .i64 t7)), (11, (V.sl t11)), (12, (V.i .i64 t12)), (13, (V.i .i64 t13))] H K = _
  rw [ev_block]
  delta g4_p3
  exact (g4_p2_eq a9 a10 a12 a11 a13 a14 a39 la9 la10 la12 la11 la13 la14 la39 t2_0 t2_1 t5 t7 t11 t12 t13 H (kBlock kp4 0 K))
noncomputable def g4_p4 (a9 : T9) (a10 : T10) (a12 : T12) (a11 : T11) (a13 : T13) (a14 : T14) (a39 : T39) (R : Type) (t2_0 : Nat) (t2_1 : Nat) (t5 : V) (t11 : Sl) (t12 : Int) (H : Heap) (kR : Bool → Heap → Option R) : Option R :=
  a14 R t5 t11 H fun x153 h154 =>
  sel (x153 != t12) (
    kR false h154) (
    invk Try.prog (E4 a9 a10 a12 a11 a13 a14 a39) t5 "Level" [] h154 fun x155 h156 =>
    ((V.asI .i64 x155)).bind fun x157 =>
    ((h156).ldI .u8 t2_0 (t2_1 + 0)).bind fun x158 =>
    ((h156).ldI .u8 t2_0 (t2_1 + 1)).bind fun x159 =>
    ((h156).ldI .u8 t2_0 (t2_1 + 2)).bind fun x160 =>
    ((h156).ldI .u8 t2_0 (t2_1 + 3)).bind fun x161 =>
    ((h156).ldI .u8 t2_0 (t2_1 + 4)).bind fun x162 =>
    ((h154).ldI .u8 t2_0 (t2_1 + 0)).bind fun x163 =>
    ((h154).ldI .u8 t2_0 (t2_1 + 1)).bind fun x164 =>
    ((h154).ldI .u8 t2_0 (t2_1 + 2)).bind fun x165 =>
    ((h154).ldI .u8 t2_0 (t2_1 + 3)).bind fun x166 =>
    ((h154).ldI .u8 t2_0 (t2_1 + 4)).bind fun x167 =>
    if V.same (V.agg [(V.i .u8 x158), (V.i .u8 x159), (V.i .u8 x160), (V.i .u8 x161), (V.i .u8 x162)]) (V.agg [(V.i .u8 x163), (V.i .u8 x164), (V.i .u8 x165), (V.i .u8 x166), (V.i .u8 x167)]) = true then (
      a13 R x158 x159 x160 x161 x162 t11 h156 fun x168 h169 =>
      sel (x157 != x168) (
        kR false h169) (
        sel (decide (t12 < (0 : Int))) (
          a14 R V.nilI t11 h169 fun x170 h171 =>
          sel (x170 == (-1 : Int)) (
            a9 R h171 fun x172 h173 =>
            kR x172 h173) (
            kR false h171)) (
          a14 R t5 t11 h169 fun x174 h175 =>
          sel (x174 == (0 : Int)) (
            a14 R V.nilI t11 h175 fun x176 h177 =>
            sel (x176 == (-1 : Int)) (
              a9 R h177 fun x178 h179 =>
              kR x178 h179) (
              kR false h177)) (
            kR false h175))))
    else (
      none))
theorem g4_p4_eq (a9 : T9) (a10 : T10) (a12 : T12) (a11 : T11) (a13 : T13) (a14 : T14) (a39 : T39) (la9 : Lin9 a9) (la10 : Lin10 a10) (la12 : Lin12 a12) (la11 : Lin11 a11) (la13 : Lin13 a13) (la14 : Lin14 a14) (la39 : Lin39 a39) {R : Type} (t2_0 : Nat) (t2_1 : Nat) (t5 : V) (t11 : Sl) (t12 : Int) (H : Heap) (K : Ex → Fr → Heap → Option R) : ev Try.prog (E4 a9 a10 a12 a11 a13 a14 a39) loopLim Try.f4.ntmps kp4 c4_3 [(2, (V.p (some (t2_0, t2_1)))), (5, t5), (11, (V.sl t11)), (12, (V.i .i64 t12))] H K = g4_p4 a9 a10 a12 a11 a13 a14 a39 R t2_0 t2_1 t5 t11 t12 H (fun t4 H => K .ret [(4, (V.b t4))] H) := by kernel_rfl
theorem g4_p4_lin {a9 : T9} {a10 : T10} {a12 : T12} {a11 : T11} {a13 : T13} {a14 : T14} {a39 : T39} (la9 : Lin9 a9) (la10 : Lin10 a10) (la12 : Lin12 a12) (la11 : Lin11 a11) (la13 : Lin13 a13) (la14 : Lin14 a14) (la39 : Lin39 a39) {R S : Type} {k : S → Option R} {t2_0 : Nat} {t2_1 : Nat} {t5 : V} {t11 : Sl} {t12 : Int} {H : Heap} {fkR : Bool → Heap → Option R} {gkR : Bool → Heap → Option S} (hkR : ∀ t4 H, fkR t4 H = (gkR t4 H).bind k) : g4_p4 a9 a10 a12 a11 a13 a14 a39 R t2_0 t2_1 t5 t11 t12 H fkR = (g4_p4 a9 a10 a12 a11 a13 a14 a39 S t2_0 t2_1 t5 t11 t12 H gkR).bind k := by
  delta g4_p4; exact (
    la14.l fun x153 h154 =>
    sl_lin (
      hkR _ _) (
      invk_lin (E4_lin la9 la10 la12 la11 la13 la14 la39) fun x155 h156 =>
      bl fun x157 =>
      bl fun x158 =>
      bl fun x159 =>
      bl fun x160 =>
      bl fun x161 =>
      bl fun x162 =>
      bl fun x163 =>
      bl fun x164 =>
      bl fun x165 =>
      bl fun x166 =>
      bl fun x167 =>
      il (
        la13.l fun x168 h169 =>
        sl_lin (
          hkR _ _) (
          sl_lin (
            la14.l fun x170 h171 =>
            sl_lin (
              la9.l fun x172 h173 =>
              hkR _ _) (
              hkR _ _)) (
            la14.l fun x174 h175 =>
            sl_lin (
              la14.l fun x176 h177 =>
              sl_lin (
                la9.l fun x178 h179 =>
                hkR _ _) (
                hkR _ _)) (
              hkR _ _)))) (
        rfl)))
noncomputable def g4_p5 (a9 : T9) (a10 : T10) (a12 : T12) (a11 : T11) (a13 : T13) (a14 : T14) (a39 : T39) (R : Type) (t2_0 : Nat) (t2_1 : Nat) (t5 : V) (t7 : Int) (t11 : Sl) (t12 : Int) (t13 : Int) (H : Heap) (kR : Bool → Heap → Option R) : Option R :=
  g4_p3 a9 a10 a12 a11 a13 a14 a39 R t2_0 t2_1 t5 t7 t11 t12 t13 H (fun t2_0 t2_1 t5 t11 t12 H => g4_p4 a9 a10 a12 a11 a13 a14 a39 R t2_0 t2_1 t5 t11 t12 H (fun t4 H => kR t4 H))
theorem g4_p5_lin {a9 : T9} {a10 : T10} {a12 : T12} {a11 : T11} {a13 : T13} {a14 : T14} {a39 : T39} (la9 : Lin9 a9) (la10 : Lin10 a10) (la12 : Lin12 a12) (la11 : Lin11 a11) (la13 : Lin13 a13) (la14 : Lin14 a14) (la39 : Lin39 a39) {R S : Type} {k : S → Option R} {t2_0 : Nat} {t2_1 : Nat} {t5 : V} {t7 : Int} {t11 : Sl} {t12 : Int} {t13 : Int} {H : Heap} {fkR : Bool → Heap → Option R} {gkR : Bool → Heap → Option S} (hkR : ∀ t4 H, fkR t4 H = (gkR t4 H).bind k) : g4_p5 a9 a10 a12 a11 a13 a14 a39 R t2_0 t2_1 t5 t7 t11 t12 t13 H fkR = (g4_p5 a9 a10 a12 a11 a13 a14 a39 S t2_0 t2_1 t5 t7 t11 t12 t13 H gkR).bind k := by
  exact g4_p3_lin la9 la10 la12 la11 la13 la14 la39 (fun _ _ _ _ _ _ => g4_p4_lin la9 la10 la12 la11 la13 la14 la39 (fun _ _ => hkR _ _))
theorem g4_p5_eq (a9 : T9) (a10 : T10) (a12 : T12) (a11 : T11) (a13 : T13) (a14 : T14) (a39 : T39) (la9 : Lin9 a9) (la10 : Lin10 a10) (la12 : Lin12 a12) (la11 : Lin11 a11) (la13 : Lin13 a13) (la14 : Lin14 a14) (la39 : Lin39 a39) {R : Type} (t2_0 : Nat) (t2_1 : Nat) (t5 : V) (t7 : Int) (t11 : Sl) (t12 : Int) (t13 : Int) (H : Heap) (K : Ex → Fr → Heap → Option R) : ev Try.prog (E4 a9 a10 a12 a11 a13 a14 a39) loopLim Try.f4.ntmps kp4 c4_4 [(2, (V.p (some (t2_0, t2_1)))), (5, t5), (7, (V.i .i64 t7)), (11, (V.sl t11)), (12, (V.i .i64 t12)), (13, (V.i .i64 t13))] H K = g4_p5 a9 a10 a12 a11 a13 a14 a39 R t2_0 t2_1 t5 t7 t11 t12 t13 H (fun t4 H => K .ret [(4, (V.b t4))] H) := by
  show ev Try.prog (E4 a9 a10 a12 a11 a13 a14 a39) loopLim Try.f4.ntmps kp4 (.seq c4_2 c4_3) [(2, (V.p (some (t2_0, t2_1)))), (5, t5), (7, (V.i .i64 t7)), (11, (V.sl t11)), (12, (V.i .i64 t12)), (13, (V.i .i64 t13))] H K = _
  rw [ev_seq]
  delta g4_p5
  exact (g4_p3_eq a9 a10 a12 a11 a13 a14 a39 la9 la10 la12 la11 la13 la14 la39 t2_0 t2_1 t5 t7 t11 t12 t13 H (kSeq (fun fr H => ev Try.prog (E4 a9 a10 a12 a11 a13 a14 a39) loopLim Try.f4.ntmps kp4 c4_3 fr H K) K)).trans (congrArg (g4_p3 a9 a10 a12 a11 a13 a14 a39 R t2_0 t2_1 t5 t7 t11 t12 t13 H) (funext fun t2_0 => funext fun t2_1 => funext fun t5 => funext fun t11 => funext fun t12 => funext fun H => (kSeq_n _ _ _ _).trans (g4_p4_eq a9 a10 a12 a11 a13 a14 a39 la9 la10 la12 la11 la13 la14 la39 t2_0 t2_1 t5 t11 t12 H K)))
noncomputable def g4_p6 (a9 : T9) (a10 : T10) (a12 : T12) (a11 : T11) (a13 : T13) (a14 : T14) (a39 : T39) (R : Type) (t0_0 : Int) (t0_1 : Int) (t0_2 : Int) (t0_3 : Int) (t0_4 : Int) (t1 : ByteArray) (H : Heap) (kR : Bool → Heap → Option R) : Option R :=
  g4_p0 a9 a10 a12 a11 a13 a14 a39 R t0_0 t0_1 t0_2 t0_3 t0_4 t1 H (fun t2_0 t2_1 t5 t7 t11 t12 t13 H => g4_p5 a9 a10 a12 a11 a13 a14 a39 R t2_0 t2_1 t5 t7 t11 t12 t13 H (fun t4 H => kR t4 H)) (fun t4 H => kR t4 H)
theorem g4_p6_lin {a9 : T9} {a10 : T10} {a12 : T12} {a11 : T11} {a13 : T13} {a14 : T14} {a39 : T39} (la9 : Lin9 a9) (la10 : Lin10 a10) (la12 : Lin12 a12) (la11 : Lin11 a11) (la13 : Lin13 a13) (la14 : Lin14 a14) (la39 : Lin39 a39) {R S : Type} {k : S → Option R} {t0_0 : Int} {t0_1 : Int} {t0_2 : Int} {t0_3 : Int} {t0_4 : Int} {t1 : ByteArray} {H : Heap} {fkR : Bool → Heap → Option R} {gkR : Bool → Heap → Option S} (hkR : ∀ t4 H, fkR t4 H = (gkR t4 H).bind k) : g4_p6 a9 a10 a12 a11 a13 a14 a39 R t0_0 t0_1 t0_2 t0_3 t0_4 t1 H fkR = (g4_p6 a9 a10 a12 a11 a13 a14 a39 S t0_0 t0_1 t0_2 t0_3 t0_4 t1 H gkR).bind k := by
  exact g4_p0_lin la9 la10 la12 la11 la13 la14 la39 (fun _ _ _ _ _ _ _ _ => g4_p5_lin la9 la10 la12 la11 la13 la14 la39 (fun _ _ => hkR _ _)) (fun _ _ => hkR _ _)
theorem g4_p6_eq (a9 : T9) (a10 : T10) (a12 : T12) (a11 : T11) (a13 : T13) (a14 : T14) (a39 : T39) (la9 : Lin9 a9) (la10 : Lin10 a10) (la12 : Lin12 a12) (la11 : Lin11 a11) (la13 : Lin13 a13) (la14 : Lin14 a14) (la39 : Lin39 a39) {R : Type} (t0_0 : Int) (t0_1 : Int) (t0_2 : Int) (t0_3 : Int) (t0_4 : Int) (t1 : ByteArray) (H : Heap) (K : Ex → Fr → Heap → Option R) : ev Try.prog (E4 a9 a10 a12 a11 a13 a14 a39) loopLim Try.f4.ntmps kp4 c4_5 [(0, (V.agg [(V.i .u8 t0_0), (V.i .u8 t0_1), (V.i .u8 t0_2), (V.i .u8 t0_3), (V.i .u8 t0_4)])), (1, (V.s t1))] H K = g4_p6 a9 a10 a12 a11 a13 a14 a39 R t0_0 t0_1 t0_2 t0_3 t0_4 t1 H (fun t4 H => K .ret [(4, (V.b t4))] H) := by
  show ev Try.prog (E4 a9 a10 a12 a11 a13 a14 a39) loopLim Try.f4.ntmps kp4 (.seq (codeAt [0] b4) (.seq (codeAt [1, 0, 0] b4) (.seq (.cond (.tmp 17) (.seq (codeAt [1, 0, 1, 0, 0] b4) .ret) .skip) (.seq (codeAt [1, 1, 0] b4) (.seq (codeAt [1, 1, 1, 0, 0] b4) (.seq (.cond (.tmp 29) (.seq (codeAt [1, 1, 1, 0, 1, 0, 0] b4) .ret) .skip) (.seq (codeAt [1, 1, 1, 1, 0] b4) (.seq (codeAt [1, 1, 1, 1, 1, 0] b4) (.seq (codeAt [1, 1, 1, 1, 1, 1, 0] b4) (.seq (codeAt [1, 1, 1, 1, 1, 1, 1, 0, 0] b4) c4_4)))))))))) [(0, (V.agg [(V.i .u8 t0_0), (V.i .u8 t0_1), (V.i .u8 t0_2), (V.i .u8 t0_3), (V.i .u8 t0_4)])), (1, (V.s t1))] H K = _
  delta g4_p6
  exact (g4_p0_eq a9 a10 a12 a11 a13 a14 a39 _ t0_0 t0_1 t0_2 t0_3 t0_4 t1 H K).trans (congr (congrArg (g4_p0 a9 a10 a12 a11 a13 a14 a39 R t0_0 t0_1 t0_2 t0_3 t0_4 t1 H) (funext fun t2_0 => funext fun t2_1 => funext fun t5 => funext fun t7 => funext fun t11 => funext fun t12 => funext fun t13 => funext fun H => g4_p5_eq a9 a10 a12 a11 a13 a14 a39 la9 la10 la12 la11 la13 la14 la39 t2_0 t2_1 t5 t7 t11 t12 t13 H K)) rfl)
noncomputable def g4_r (a9 : T9) (a10 : T10) (a12 : T12) (a11 : T11) (a13 : T13) (a14 : T14) (a39 : T39) : T4 := fun R t0_0 t0_1 t0_2 t0_3 t0_4 t1 H K =>
  g4_p6 a9 a10 a12 a11 a13 a14 a39 R t0_0 t0_1 t0_2 t0_3 t0_4 t1 H (fun t4 H =>
    K t4 H)
theorem g4_r_lin {a9 : T9} {a10 : T10} {a12 : T12} {a11 : T11} {a13 : T13} {a14 : T14} {a39 : T39} (la9 : Lin9 a9) (la10 : Lin10 a10) (la12 : Lin12 a12) (la11 : Lin11 a11) (la13 : Lin13 a13) (la14 : Lin14 a14) (la39 : Lin39 a39) : Lin4 (g4_r a9 a10 a12 a11 a13 a14 a39) := by
  constructor
  intro R S k t0_0 t0_1 t0_2 t0_3 t0_4 t1 H f g h
  exact g4_p6_lin la9 la10 la12 la11 la13 la14 la39 (fun t4 H =>
    h _ _)
theorem g4_fn (a9 : T9) (a10 : T10) (a12 : T12) (a11 : T11) (a13 : T13) (a14 : T14) (a39 : T39) (la9 : Lin9 a9) (la10 : Lin10 a10) (la12 : Lin12 a12) (la11 : Lin11 a11) (la13 : Lin13 a13) (la14 : Lin14 a14) (la39 : Lin39 a39) {R : Type} (t0_0 : Int) (t0_1 : Int) (t0_2 : Int) (t0_3 : Int) (t0_4 : Int) (t1 : ByteArray) (H : Heap) (K : V → Heap → Option R) : evFn Try.prog (E4 a9 a10 a12 a11 a13 a14 a39) loopLim Try.f4 kp4 [(V.agg [(V.i .u8 t0_0), (V.i .u8 t0_1), (V.i .u8 t0_2), (V.i .u8 t0_3), (V.i .u8 t0_4)]), (V.s t1)] H K = g4_r a9 a10 a12 a11 a13 a14 a39 R t0_0 t0_1 t0_2 t0_3 t0_4 t1 H (fun r0 H => K (V.b r0) H) := by
  have h0 : ∀ (t4 : Bool) (H : Heap), kFn Try.prog Try.f4.results.toList K .ret [(4, (V.b t4))] H =
      K (V.b t4) H := by intros; kernel_rfl
  have e0 := evFn_code2 (P := Try.prog) (c := c4_5) (E := (E4 a9 a10 a12 a11 a13 a14 a39)) (lr := loopLim) (kp := kp4) (fn := Try.f4) (args := [(V.agg [(V.i .u8 t0_0), (V.i .u8 t0_1), (V.i .u8 t0_2), (V.i .u8 t0_3), (V.i .u8 t0_4)]), (V.s t1)]) H K (by kernel_rfl) (Nat.le_of_ble_eq_true (by kernel_rfl)) (by kernel_rfl)
  have e1 : ev Try.prog (E4 a9 a10 a12 a11 a13 a14 a39) loopLim Try.f4.ntmps kp4 c4_5 (argFr 0 [(V.agg [(V.i .u8 t0_0), (V.i .u8 t0_1), (V.i .u8 t0_2), (V.i .u8 t0_3), (V.i .u8 t0_4)]), (V.s t1)]) H (kFn Try.prog Try.f4.results.toList K) = ev Try.prog (E4 a9 a10 a12 a11 a13 a14 a39) loopLim Try.f4.ntmps kp4 c4_5 [(0, (V.agg [(V.i .u8 t0_0), (V.i .u8 t0_1), (V.i .u8 t0_2), (V.i .u8 t0_3), (V.i .u8 t0_4)])), (1, (V.s t1))] H (kFn Try.prog Try.f4.results.toList K) := by kernel_rfl
  refine (e0.trans e1).trans ?_
  delta g4_r
  exact (g4_p6_eq a9 a10 a12 a11 a13 a14 a39 la9 la10 la12 la11 la13 la14 la39 t0_0 t0_1 t0_2 t0_3 t0_4 t1 H (kFn Try.prog Try.f4.results.toList K)).trans (congrArg (g4_p6 a9 a10 a12 a11 a13 a14 a39 R t0_0 t0_1 t0_2 t0_3 t0_4 t1 H) (funext fun t4 => funext fun H => h0 t4 H))
theorem g4_ok {a9 : T9} {a10 : T10} {a12 : T12} {a11 : T11} {a13 : T13} {a14 : T14} {a39 : T39} (oa9 : FunOK Try.prog 9 (w9 a9)) (oa10 : FunOK Try.prog 10 (w10 a10)) (oa12 : FunOK Try.prog 12 (w12 a12)) (oa11 : FunOK Try.prog 11 (w11 a11)) (oa13 : FunOK Try.prog 13 (w13 a13)) (oa14 : FunOK Try.prog 14 (w14 a14)) (oa39 : FunOK Try.prog 39 (w39 a39)) (la9 : Lin9 a9) (la10 : Lin10 a10) (la12 : Lin12 a12) (la11 : Lin11 a11) (la13 : Lin13 a13) (la14 : Lin14 a14) (la39 : Lin39 a39) : FunOK Try.prog 4 (w4 (g4_r a9 a10 a12 a11 a13 a14 a39)) := by
  refine (runF_ok (E4_good oa9 oa10 oa12 oa11 oa13 oa14 oa39 la9 la10 la12 la11 la13 la14 la39) mixed lim_ok Try.func4 (by kernel_rfl) kp4).of_le fun R args H K r hk => ?_
  unfold w4 at hk
  split at hk
  · exact (g4_fn a9 a10 a12 a11 a13 a14 a39 la9 la10 la12 la11 la13 la14 la39 _ _ _ _ _ _ H K).trans hk
  · cases hk
end Go.Proofs.Ytbkncpmgpogakaa
