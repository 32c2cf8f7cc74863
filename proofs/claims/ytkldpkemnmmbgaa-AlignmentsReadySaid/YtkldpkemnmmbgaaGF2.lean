/- Printed: functions as the machine runs them. -/
import Derived.Test.YtkldpkemnmmbgaaGT
namespace Go.Proofs.Ytkldpkemnmmbgaa
open Go AM Go.RowKit
set_option linter.unusedVariables false
def kp17 : Nat → Option (List Nat) := kpOf [(0, [0, 1]), (1, [0, 1, 6]), (2, [4]), (3, [0, 1, 8]), (4, [4]), (5, [0, 1, 12]), (6, [0, 1, 12, 13]), (7, [0, 1, 16]), (8, [0]), (9, []), (10, [0, 1, 12, 30]), (11, []), (12, [0, 1, 35]), (13, []), (14, [4]), (100000, []), (200000, [0, 1, 12]), (300000, [4]), (400006, [0, 1]), (400008, [0, 1]), (400013, []), (400016, []), (400030, []), (400035, [])]
def E17 (a28 : T28) (a29 : T29) (a32 : T32) (a33 : T33) : FEnv := [(28, w28 a28), (29, w29 a29), (32, w32 a32), (33, w33 a33)]
theorem E17_good {a28 : T28} {a29 : T29} {a32 : T32} {a33 : T33} (oa28 : FunOK Try.prog 28 (w28 a28)) (oa29 : FunOK Try.prog 29 (w29 a29)) (oa32 : FunOK Try.prog 32 (w32 a32)) (oa33 : FunOK Try.prog 33 (w33 a33)) (la28 : Lin28 a28) (la29 : Lin29 a29) (la32 : Lin32 a32) (la33 : Lin33 a33) : EnvGood Try.prog (E17 a28 a29 a32 a33) := (((((EnvGood.nil _).cons oa33 (w33_lin la33)).cons oa32 (w32_lin la32)).cons oa29 (w29_lin la29)).cons oa28 (w28_lin la28))
theorem E17_lin {a28 : T28} {a29 : T29} {a32 : T32} {a33 : T33} (la28 : Lin28 a28) (la29 : Lin29 a29) (la32 : Lin32 a32) (la33 : Lin33 a33) : EnvLin (E17 a28 a29 a32 a33) := by
  intro g F h
  simp only [E17, List.mem_cons, List.not_mem_nil, or_false] at h
  rcases h with h | h | h | h
  · cases h; exact w28_lin la28
  · cases h; exact w29_lin la29
  · cases h; exact w32_lin la32
  · cases h; exact w33_lin la33
noncomputable def b17 : Code := Try.f17.body.getD .skip
noncomputable def c17_0 : Code := (.seq (codeAt [0] b17) (.seq (codeAt [1, 0, 0] b17) (.seq (.cond (.tmp 6) (.seq (codeAt [1, 0, 1, 0, 0] b17) .ret) .skip) (.seq (codeAt [1, 1, 0, 0] b17) (.seq (.cond (.tmp 8) (.seq (codeAt [1, 1, 0, 1, 0, 0] b17) .ret) .skip) (.seq (codeAt [1, 1, 1, 0, 0] b17) (.seq (.block 0 (.seq (codeAt [1, 1, 1, 0, 1, 0, 0] b17) (.cond (.tmp 13) (.seq (codeAt [1, 1, 1, 0, 1, 0, 1, 0, 0] b17) (.cond (.tmp 16) (.seq (codeAt [1, 1, 1, 0, 1, 0, 1, 0, 1, 0, 0] b17) (codeAt [1, 1, 1, 0, 1, 0, 1, 0, 1, 0, 1] b17)) .skip)) (.seq (codeAt [1, 1, 1, 0, 1, 0, 1, 1, 0] b17) (.cond (.tmp 30) (codeAt [1, 1, 1, 0, 1, 0, 1, 1, 1, 0] b17) (.seq (codeAt [1, 1, 1, 0, 1, 0, 1, 1, 1, 1, 0] b17) (.cond (.tmp 35) (codeAt [1, 1, 1, 0, 1, 0, 1, 1, 1, 1, 1, 0] b17) .skip))))))) (.seq (codeAt [1, 1, 1, 1, 0] b17) .ret))))))))
noncomputable def g17_p0 (a28 : T28) (a29 : T29) (a32 : T32) (a33 : T33) (R : Type) (t0 : Option (Nat × Nat)) (t1 : Int) (H : Heap) (kR : Int → Heap → Option R) : Option R :=
  a28 R t0 H fun x1 h2 =>
  sel x1 (
    kR (2 : Int) h2) (
    sel (decide (t1 > (5 : Int))) (
      kR (1 : Int) h2) (
      (t0).bind fun q3 =>
      ((h2).ldI .u8 q3.1 (q3.2 + 7)).bind fun x4 =>
      sel (x4 == (1 : Int)) (
        sel (decide (t1 ≤ (2 : Int))) (
          (t0).bind fun q5 =>
          ((h2).ldB q5.1 (q5.2 + 10)).bind fun x6 =>
          sel x6 (
            (t0).bind fun q7 =>
            ((h2).st q7.1 (q7.2 + 10) (V.b true)).bind fun h9 =>
            a29 R t0 (2 : Int) h9 fun h10 =>
            kR (0 : Int) h10) (
            (t0).bind fun q11 =>
            ((h2).st q11.1 (q11.2 + 10) (V.b (t1 == (2 : Int)))).bind fun h13 =>
            a29 R t0 (2 : Int) h13 fun h14 =>
            kR (0 : Int) h14)) (
          kR (0 : Int) h2)) (
        sel (x4 == (2 : Int)) (
          a32 R t0 t1 h2 fun h15 =>
          kR (0 : Int) h15) (
          sel (x4 == (3 : Int)) (
            a33 R t0 t1 h2 fun h16 =>
            kR (0 : Int) h16) (
            kR (0 : Int) h2)))))
theorem g17_p0_eq (a28 : T28) (a29 : T29) (a32 : T32) (a33 : T33) (la28 : Lin28 a28) (la29 : Lin29 a29) (la32 : Lin32 a32) (la33 : Lin33 a33) {R : Type} (t0 : Option (Nat × Nat)) (t1 : Int) (H : Heap) (K : Ex → Fr → Heap → Option R) : ev Try.prog (E17 a28 a29 a32 a33) loopLim Try.f17.ntmps kp17 c17_0 [(0, (V.p t0)), (1, (V.i .u8 t1))] H K = g17_p0 a28 a29 a32 a33 R t0 t1 H (fun t4 H => K .ret [(4, (V.i .i64 t4))] H) := by kernel_rfl
theorem g17_p0_lin {a28 : T28} {a29 : T29} {a32 : T32} {a33 : T33} (la28 : Lin28 a28) (la29 : Lin29 a29) (la32 : Lin32 a32) (la33 : Lin33 a33) {R S : Type} {k : S → Option R} {t0 : Option (Nat × Nat)} {t1 : Int} {H : Heap} {fkR : Int → Heap → Option R} {gkR : Int → Heap → Option S} (hkR : ∀ t4 H, fkR t4 H = (gkR t4 H).bind k) : g17_p0 a28 a29 a32 a33 R t0 t1 H fkR = (g17_p0 a28 a29 a32 a33 S t0 t1 H gkR).bind k := by
  delta g17_p0; exact (
    la28.l fun x1 h2 =>
    sl_lin (
      hkR _ _) (
      sl_lin (
        hkR _ _) (
        bl fun q3 =>
        bl fun x4 =>
        sl_lin (
          sl_lin (
            bl fun q5 =>
            bl fun x6 =>
            sl_lin (
              bl fun q7 =>
              bl fun h9 =>
              la29.l fun h10 =>
              hkR _ _) (
              bl fun q11 =>
              bl fun h13 =>
              la29.l fun h14 =>
              hkR _ _)) (
            hkR _ _)) (
          sl_lin (
            la32.l fun h15 =>
            hkR _ _) (
            sl_lin (
              la33.l fun h16 =>
              hkR _ _) (
              hkR _ _))))))
noncomputable def g17_r (a28 : T28) (a29 : T29) (a32 : T32) (a33 : T33) : T17 := fun R t0 t1 H K =>
  g17_p0 a28 a29 a32 a33 R t0 t1 H (fun t4 H =>
    K t4 H)
theorem g17_r_lin {a28 : T28} {a29 : T29} {a32 : T32} {a33 : T33} (la28 : Lin28 a28) (la29 : Lin29 a29) (la32 : Lin32 a32) (la33 : Lin33 a33) : Lin17 (g17_r a28 a29 a32 a33) := by
  constructor
  intro R S k t0 t1 H f g h
  exact g17_p0_lin la28 la29 la32 la33 (fun t4 H =>
    h _ _)
theorem g17_fn (a28 : T28) (a29 : T29) (a32 : T32) (a33 : T33) (la28 : Lin28 a28) (la29 : Lin29 a29) (la32 : Lin32 a32) (la33 : Lin33 a33) {R : Type} (t0 : Option (Nat × Nat)) (t1 : Int) (H : Heap) (K : V → Heap → Option R) : evFn Try.prog (E17 a28 a29 a32 a33) loopLim Try.f17 kp17 [(V.p t0), (V.i .u8 t1)] H K = g17_r a28 a29 a32 a33 R t0 t1 H (fun r0 H => K (V.i .i64 r0) H) := by
  have h0 : ∀ (t4 : Int) (H : Heap), kFn Try.prog Try.f17.results.toList K .ret [(4, (V.i .i64 t4))] H =
      K (V.i .i64 t4) H := by intros; kernel_rfl
  have e0 := evFn_code2 (P := Try.prog) (c := c17_0) (E := (E17 a28 a29 a32 a33)) (lr := loopLim) (kp := kp17) (fn := Try.f17) (args := [(V.p t0), (V.i .u8 t1)]) H K (by kernel_rfl) (Nat.le_of_ble_eq_true (by kernel_rfl)) (by kernel_rfl)
  have e1 : ev Try.prog (E17 a28 a29 a32 a33) loopLim Try.f17.ntmps kp17 c17_0 (argFr 0 [(V.p t0), (V.i .u8 t1)]) H (kFn Try.prog Try.f17.results.toList K) = ev Try.prog (E17 a28 a29 a32 a33) loopLim Try.f17.ntmps kp17 c17_0 [(0, (V.p t0)), (1, (V.i .u8 t1))] H (kFn Try.prog Try.f17.results.toList K) := by kernel_rfl
  refine (e0.trans e1).trans ?_
  delta g17_r
  exact (g17_p0_eq a28 a29 a32 a33 la28 la29 la32 la33 t0 t1 H (kFn Try.prog Try.f17.results.toList K)).trans (congrArg (g17_p0 a28 a29 a32 a33 R t0 t1 H) (funext fun t4 => funext fun H => h0 t4 H))
theorem g17_ok {a28 : T28} {a29 : T29} {a32 : T32} {a33 : T33} (oa28 : FunOK Try.prog 28 (w28 a28)) (oa29 : FunOK Try.prog 29 (w29 a29)) (oa32 : FunOK Try.prog 32 (w32 a32)) (oa33 : FunOK Try.prog 33 (w33 a33)) (la28 : Lin28 a28) (la29 : Lin29 a29) (la32 : Lin32 a32) (la33 : Lin33 a33) : FunOK Try.prog 17 (w17 (g17_r a28 a29 a32 a33)) := by
  refine (runF_ok (E17_good oa28 oa29 oa32 oa33 la28 la29 la32 la33) mixed lim_ok Try.func17 (by kernel_rfl) kp17).of_le fun R args H K r hk => ?_
  unfold w17 at hk
  split at hk
  · exact (g17_fn a28 a29 a32 a33 la28 la29 la32 la33 _ _ H K).trans hk
  · cases hk
def kp14 : Nat → Option (List Nat) := kpOf [(0, [0, 1, 4, 5]), (1, [0, 1, 4, 11]), (2, [0, 1]), (3, [0, 1, 4, 5]), (4, [0, 1, 4, 20]), (5, [0, 1]), (6, [1]), (7, []), (300000, []), (400011, [0, 1]), (400020, [0, 1])]
def E14 (a30 : T30) (a17 : T17) (a12 : T12) : FEnv := [(30, w30 a30), (17, w17 a17), (12, w12 a12)]
theorem E14_good {a30 : T30} {a17 : T17} {a12 : T12} (oa30 : FunOK Try.prog 30 (w30 a30)) (oa17 : FunOK Try.prog 17 (w17 a17)) (oa12 : FunOK Try.prog 12 (w12 a12)) (la30 : Lin30 a30) (la17 : Lin17 a17) (la12 : Lin12 a12) : EnvGood Try.prog (E14 a30 a17 a12) := ((((EnvGood.nil _).cons oa12 (w12_lin la12)).cons oa17 (w17_lin la17)).cons oa30 (w30_lin la30))
theorem E14_lin {a30 : T30} {a17 : T17} {a12 : T12} (la30 : Lin30 a30) (la17 : Lin17 a17) (la12 : Lin12 a12) : EnvLin (E14 a30 a17 a12) := by
  intro g F h
  simp only [E14, List.mem_cons, List.not_mem_nil, or_false] at h
  rcases h with h | h | h
  · cases h; exact w30_lin la30
  · cases h; exact w17_lin la17
  · cases h; exact w12_lin la12
noncomputable def b14 : Code := Try.f14.body.getD .skip
noncomputable def c14_0 : Code := (.seq (codeAt [0] b14) (.seq (codeAt [1, 0, 0] b14) (.seq (.cond (.tmp 11) (codeAt [1, 0, 1, 0] b14) .skip) (.seq (codeAt [1, 1, 0] b14) (.seq (codeAt [1, 1, 1, 0, 0] b14) (.seq (.cond (.tmp 20) (codeAt [1, 1, 1, 0, 1, 0] b14) .skip) (.seq (codeAt [1, 1, 1, 1, 0] b14) (codeAt [1, 1, 1, 1, 1] b14))))))))
noncomputable def g14_p0 (a30 : T30) (a17 : T17) (a12 : T12) (R : Type) (t0 : Option (Nat × Nat)) (t1 : Option (Nat × Nat)) (H : Heap) (kN : Heap → Option R) : Option R :=
  a30 R t1 H fun x1 x2 h3 =>
  sel x2 (
    a17 R t0 x1 h3 fun x4 h5 =>
    a30 R t0 h5 fun x6 x7 h8 =>
    sel x7 (
      a17 R t1 x6 h8 fun x9 h10 =>
      a12 R t0 h10 fun x11 h12 =>
      a12 R t1 h12 fun x13 h14 =>
      kN h14) (
      a12 R t0 h8 fun x15 h16 =>
      a12 R t1 h16 fun x17 h18 =>
      kN h18)) (
    a30 R t0 h3 fun x19 x20 h21 =>
    sel x20 (
      a17 R t1 x19 h21 fun x22 h23 =>
      a12 R t0 h23 fun x24 h25 =>
      a12 R t1 h25 fun x26 h27 =>
      kN h27) (
      a12 R t0 h21 fun x28 h29 =>
      a12 R t1 h29 fun x30 h31 =>
      kN h31))
theorem g14_p0_eq (a30 : T30) (a17 : T17) (a12 : T12) (la30 : Lin30 a30) (la17 : Lin17 a17) (la12 : Lin12 a12) {R : Type} (t0 : Option (Nat × Nat)) (t1 : Option (Nat × Nat)) (H : Heap) (K : Ex → Fr → Heap → Option R) : ev Try.prog (E14 a30 a17 a12) loopLim Try.f14.ntmps kp14 c14_0 [(0, (V.p t0)), (1, (V.p t1))] H K = g14_p0 a30 a17 a12 R t0 t1 H (fun H => K .normal [] H) := by kernel_rfl
theorem g14_p0_lin {a30 : T30} {a17 : T17} {a12 : T12} (la30 : Lin30 a30) (la17 : Lin17 a17) (la12 : Lin12 a12) {R S : Type} {k : S → Option R} {t0 : Option (Nat × Nat)} {t1 : Option (Nat × Nat)} {H : Heap} {fkN : Heap → Option R} {gkN : Heap → Option S} (hkN : ∀ H, fkN H = (gkN H).bind k) : g14_p0 a30 a17 a12 R t0 t1 H fkN = (g14_p0 a30 a17 a12 S t0 t1 H gkN).bind k := by
  delta g14_p0; exact (
    la30.l fun x1 x2 h3 =>
    sl_lin (
      la17.l fun x4 h5 =>
      la30.l fun x6 x7 h8 =>
      sl_lin (
        la17.l fun x9 h10 =>
        la12.l fun x11 h12 =>
        la12.l fun x13 h14 =>
        hkN _) (
        la12.l fun x15 h16 =>
        la12.l fun x17 h18 =>
        hkN _)) (
      la30.l fun x19 x20 h21 =>
      sl_lin (
        la17.l fun x22 h23 =>
        la12.l fun x24 h25 =>
        la12.l fun x26 h27 =>
        hkN _) (
        la12.l fun x28 h29 =>
        la12.l fun x30 h31 =>
        hkN _)))
noncomputable def g14_r (a30 : T30) (a17 : T17) (a12 : T12) : T14 := fun R t0 t1 H K =>
  g14_p0 a30 a17 a12 R t0 t1 H (fun H =>
    K  H)
theorem g14_r_lin {a30 : T30} {a17 : T17} {a12 : T12} (la30 : Lin30 a30) (la17 : Lin17 a17) (la12 : Lin12 a12) : Lin14 (g14_r a30 a17 a12) := by
  constructor
  intro R S k t0 t1 H f g h
  exact g14_p0_lin la30 la17 la12 (fun H =>
    h _)
theorem g14_fn (a30 : T30) (a17 : T17) (a12 : T12) (la30 : Lin30 a30) (la17 : Lin17 a17) (la12 : Lin12 a12) {R : Type} (t0 : Option (Nat × Nat)) (t1 : Option (Nat × Nat)) (H : Heap) (K : V → Heap → Option R) : evFn Try.prog (E14 a30 a17 a12) loopLim Try.f14 kp14 [(V.p t0), (V.p t1)] H K = g14_r a30 a17 a12 R t0 t1 H (fun H => K (V.tup []) H) := by
  have h0 : ∀ (H : Heap), kFn Try.prog Try.f14.results.toList K .normal [] H =
      K (V.tup []) H := by intros; kernel_rfl
  have e0 := evFn_code2 (P := Try.prog) (c := c14_0) (E := (E14 a30 a17 a12)) (lr := loopLim) (kp := kp14) (fn := Try.f14) (args := [(V.p t0), (V.p t1)]) H K (by kernel_rfl) (Nat.le_of_ble_eq_true (by kernel_rfl)) (by kernel_rfl)
  have e1 : ev Try.prog (E14 a30 a17 a12) loopLim Try.f14.ntmps kp14 c14_0 (argFr 0 [(V.p t0), (V.p t1)]) H (kFn Try.prog Try.f14.results.toList K) = ev Try.prog (E14 a30 a17 a12) loopLim Try.f14.ntmps kp14 c14_0 [(0, (V.p t0)), (1, (V.p t1))] H (kFn Try.prog Try.f14.results.toList K) := by kernel_rfl
  refine (e0.trans e1).trans ?_
  delta g14_r
  exact (g14_p0_eq a30 a17 a12 la30 la17 la12 t0 t1 H (kFn Try.prog Try.f14.results.toList K)).trans (congrArg (g14_p0 a30 a17 a12 R t0 t1 H) (funext fun H => h0 H))
theorem g14_ok {a30 : T30} {a17 : T17} {a12 : T12} (oa30 : FunOK Try.prog 30 (w30 a30)) (oa17 : FunOK Try.prog 17 (w17 a17)) (oa12 : FunOK Try.prog 12 (w12 a12)) (la30 : Lin30 a30) (la17 : Lin17 a17) (la12 : Lin12 a12) : FunOK Try.prog 14 (w14 (g14_r a30 a17 a12)) := by
  refine (runF_ok (E14_good oa30 oa17 oa12 la30 la17 la12) mixed lim_ok Try.func14 (by kernel_rfl) kp14).of_le fun R args H K r hk => ?_
  unfold w14 at hk
  split at hk
  · exact (g14_fn a30 a17 a12 la30 la17 la12 _ _ H K).trans hk
  · cases hk
def kp15 : Nat → Option (List Nat) := kpOf [(0, [0]), (1, [0, 4]), (2, [2]), (3, [2]), (300000, [2]), (400004, [0])]
def E15 : FEnv := []
theorem E15_good : EnvGood Try.prog E15 := (EnvGood.nil _)
theorem E15_lin : EnvLin E15 := fun g F h => by cases h
noncomputable def b15 : Code := Try.f15.body.getD .skip
noncomputable def c15_0 : Code := (.seq (codeAt [0] b15) (.seq (codeAt [1, 0, 0] b15) (.seq (.cond (.tmp 4) (.seq (codeAt [1, 0, 1, 0, 0] b15) .ret) .skip) (.seq (codeAt [1, 1, 0] b15) .ret))))
noncomputable def g15_p0 (R : Type) (t0 : Option (Nat × Nat)) (H : Heap) (kR : Int → Heap → Option R) : Option R :=
  sel (Option.isNone t0) (
    kR (0 : Int) H) (
    (t0).bind fun q1 =>
    ((H).ldI .i64 q1.1 (q1.2 + 11)).bind fun x2 =>
    kR x2 H)
theorem g15_p0_eq {R : Type} (t0 : Option (Nat × Nat)) (H : Heap) (K : Ex → Fr → Heap → Option R) : ev Try.prog E15 loopLim Try.f15.ntmps kp15 c15_0 [(0, (V.p t0))] H K = g15_p0 R t0 H (fun t2 H => K .ret [(2, (V.i .i64 t2))] H) := by kernel_rfl
theorem g15_p0_lin {R S : Type} {k : S → Option R} {t0 : Option (Nat × Nat)} {H : Heap} {fkR : Int → Heap → Option R} {gkR : Int → Heap → Option S} (hkR : ∀ t2 H, fkR t2 H = (gkR t2 H).bind k) : g15_p0 R t0 H fkR = (g15_p0 S t0 H gkR).bind k := by
  delta g15_p0; exact (
    sl_lin (
      hkR _ _) (
      bl fun q1 =>
      bl fun x2 =>
      hkR _ _))
noncomputable def g15_r : T15 := fun R t0 H K =>
  g15_p0 R t0 H (fun t2 H =>
    K t2 H)
theorem g15_r_lin : Lin15 (g15_r) := by
  constructor
  intro R S k t0 H f g h
  exact g15_p0_lin (fun t2 H =>
    h _ _)
theorem g15_fn {R : Type} (t0 : Option (Nat × Nat)) (H : Heap) (K : V → Heap → Option R) : evFn Try.prog E15 loopLim Try.f15 kp15 [(V.p t0)] H K = g15_r R t0 H (fun r0 H => K (V.i .i64 r0) H) := by
  have h0 : ∀ (t2 : Int) (H : Heap), kFn Try.prog Try.f15.results.toList K .ret [(2, (V.i .i64 t2))] H =
      K (V.i .i64 t2) H := by intros; kernel_rfl
  have e0 := evFn_code2 (P := Try.prog) (c := c15_0) (E := E15) (lr := loopLim) (kp := kp15) (fn := Try.f15) (args := [(V.p t0)]) H K (by kernel_rfl) (Nat.le_of_ble_eq_true (by kernel_rfl)) (by kernel_rfl)
  have e1 : ev Try.prog E15 loopLim Try.f15.ntmps kp15 c15_0 (argFr 0 [(V.p t0)]) H (kFn Try.prog Try.f15.results.toList K) = ev Try.prog E15 loopLim Try.f15.ntmps kp15 c15_0 [(0, (V.p t0))] H (kFn Try.prog Try.f15.results.toList K) := by kernel_rfl
  refine (e0.trans e1).trans ?_
  delta g15_r
  exact (g15_p0_eq t0 H (kFn Try.prog Try.f15.results.toList K)).trans (congrArg (g15_p0 R t0 H) (funext fun t2 => funext fun H => h0 t2 H))
theorem g15_ok : FunOK Try.prog 15 (w15 (g15_r)) := by
  refine (runF_ok (E15_good) mixed lim_ok Try.func15 (by kernel_rfl) kp15).of_le fun R args H K r hk => ?_
  unfold w15 at hk
  split at hk
  · exact (g15_fn _ H K).trans hk
  · cases hk
end Go.Proofs.Ytkldpkemnmmbgaa

