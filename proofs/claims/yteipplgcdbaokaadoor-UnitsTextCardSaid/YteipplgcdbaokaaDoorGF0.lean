/- Printed: functions as the machine runs them. -/
import Derived.Test.YteipplgcdbaokaaDoorGT
namespace Go.Proofs.YteipplgcdbaokaaDoor
open Go AM Go.RowKit
set_option linter.unusedVariables false
def kp9 : Nat → Option (List Nat) := kpOf [(0, [1]), (1, [1, 3]), (2, [2]), (3, [32]), (4, [2]), (5, [2]), (100000, []), (200000, [1]), (300000, [2]), (400003, []), (400032, [])]
def E9 : FEnv := []
theorem E9_good : EnvGood Tryd.prog E9 := (EnvGood.nil _)
theorem E9_lin : EnvLin E9 := fun g F h => by cases h
noncomputable def b9 : Code := Tryd.f9.body.getD .skip
noncomputable def c9_0 : Code := (.seq (codeAt [0] b9) (.seq (.block 0 (.seq (codeAt [1, 0, 0, 0] b9) (.cond (.tmp 3) (.seq (codeAt [1, 0, 0, 1, 0, 0] b9) .ret) (.seq (codeAt [1, 0, 0, 1, 1, 0] b9) (.cond (.tmp 32) (.seq (codeAt [1, 0, 0, 1, 1, 1, 0, 0] b9) .ret) .skip))))) (.seq (codeAt [1, 1, 0] b9) .ret)))
noncomputable def g9_p0 (R : Type) (t0_0 : Int) (t0_1 : Bool) (t0_2 : Int) (t0_3 : Bool) (t0_4 : Int) (t0_5 : Int) (t0_6 : Sl) (H : Heap) (kR : Int → Heap → Option R) : Option R :=
  alo H (.cells [(V.i .u8 t0_0), (V.b t0_1), (V.i .u8 t0_2), (V.b t0_3), (V.i .u8 t0_4), (V.i .u8 t0_5), (V.sl t0_6)] 25 false) fun i1 h2 =>
  ((h2).ldI .u8 i1 (0 + 0)).bind fun x3 =>
  sel (decide (x3 > (127 : Int))) (
    kR (1 : Int) h2) (
    ((h2).ldI .u8 i1 (0 + 2)).bind fun x4 =>
    sel (decide (x4 > (127 : Int))) (
      kR (1 : Int) h2) (
      ((h2).ldI .u8 i1 (0 + 4)).bind fun x5 =>
      sel (decide (x5 > (2 : Int))) (
        kR (1 : Int) h2) (
        ((h2).ldI .u8 i1 (0 + 5)).bind fun x6 =>
        sel (decide (x6 > (5 : Int))) (
          kR (1 : Int) h2) (
          ((h2).ldI .u8 i1 (0 + 5)).bind fun x7 =>
          sel (x7 != (0 : Int)) (
            ((h2).ldI .u8 i1 (0 + 4)).bind fun x8 =>
            sel (x8 != (1 : Int)) (
              kR (1 : Int) h2) (
              ((h2).ldI .u8 i1 (0 + 4)).bind fun x9 =>
              sel (x9 == (2 : Int)) (
                ((h2).ldSl i1 (0 + 6)).bind fun x10 =>
                sel (decide (((x10.len : Nat) : Int) < (2 : Int))) (
                  kR (5 : Int) h2) (
                  ((h2).ldSl i1 (0 + 6)).bind fun x11 =>
                  sel (decide (((x11.len : Nat) : Int) > (273 : Int))) (
                    kR (5 : Int) h2) (
                    ((h2).ldI .u8 i1 (0 + 4)).bind fun x12 =>
                    sel (x12 != (2 : Int)) (
                      ((h2).ldSl i1 (0 + 6)).bind fun x13 =>
                      sel (decide (((x13.len : Nat) : Int) > (0 : Int))) (
                        kR (5 : Int) h2) (
                        kR (0 : Int) h2)) (
                      kR (0 : Int) h2)))) (
                ((h2).ldI .u8 i1 (0 + 4)).bind fun x14 =>
                sel (x14 != (2 : Int)) (
                  ((h2).ldSl i1 (0 + 6)).bind fun x15 =>
                  sel (decide (((x15.len : Nat) : Int) > (0 : Int))) (
                    kR (5 : Int) h2) (
                    kR (0 : Int) h2)) (
                  kR (0 : Int) h2)))) (
            ((h2).ldI .u8 i1 (0 + 4)).bind fun x16 =>
            sel (x16 == (2 : Int)) (
              ((h2).ldSl i1 (0 + 6)).bind fun x17 =>
              sel (decide (((x17.len : Nat) : Int) < (2 : Int))) (
                kR (5 : Int) h2) (
                ((h2).ldSl i1 (0 + 6)).bind fun x18 =>
                sel (decide (((x18.len : Nat) : Int) > (273 : Int))) (
                  kR (5 : Int) h2) (
                  ((h2).ldI .u8 i1 (0 + 4)).bind fun x19 =>
                  sel (x19 != (2 : Int)) (
                    ((h2).ldSl i1 (0 + 6)).bind fun x20 =>
                    sel (decide (((x20.len : Nat) : Int) > (0 : Int))) (
                      kR (5 : Int) h2) (
                      kR (0 : Int) h2)) (
                    kR (0 : Int) h2)))) (
              ((h2).ldI .u8 i1 (0 + 4)).bind fun x21 =>
              sel (x21 != (2 : Int)) (
                ((h2).ldSl i1 (0 + 6)).bind fun x22 =>
                sel (decide (((x22.len : Nat) : Int) > (0 : Int))) (
                  kR (5 : Int) h2) (
                  kR (0 : Int) h2)) (
                kR (0 : Int) h2)))))))
theorem g9_p0_eq {R : Type} (t0_0 : Int) (t0_1 : Bool) (t0_2 : Int) (t0_3 : Bool) (t0_4 : Int) (t0_5 : Int) (t0_6 : Sl) (H : Heap) (K : Ex → Fr → Heap → Option R) : ev Tryd.prog E9 loopLim Tryd.f9.ntmps kp9 c9_0 [(0, (V.agg [(V.i .u8 t0_0), (V.b t0_1), (V.i .u8 t0_2), (V.b t0_3), (V.i .u8 t0_4), (V.i .u8 t0_5), (V.sl t0_6)]))] H K = g9_p0 R t0_0 t0_1 t0_2 t0_3 t0_4 t0_5 t0_6 H (fun t2 H => K .ret [(2, (V.i .i64 t2))] H) := by kernel_rfl
theorem g9_p0_lin {R S : Type} {k : S → Option R} {t0_0 : Int} {t0_1 : Bool} {t0_2 : Int} {t0_3 : Bool} {t0_4 : Int} {t0_5 : Int} {t0_6 : Sl} {H : Heap} {fkR : Int → Heap → Option R} {gkR : Int → Heap → Option S} (hkR : ∀ t2 H, fkR t2 H = (gkR t2 H).bind k) : g9_p0 R t0_0 t0_1 t0_2 t0_3 t0_4 t0_5 t0_6 H fkR = (g9_p0 S t0_0 t0_1 t0_2 t0_3 t0_4 t0_5 t0_6 H gkR).bind k := by
  delta g9_p0; exact (
    alo_lin fun i1 h2 =>
    bl fun x3 =>
    sl_lin (
      hkR _ _) (
      bl fun x4 =>
      sl_lin (
        hkR _ _) (
        bl fun x5 =>
        sl_lin (
          hkR _ _) (
          bl fun x6 =>
          sl_lin (
            hkR _ _) (
            bl fun x7 =>
            sl_lin (
              bl fun x8 =>
              sl_lin (
                hkR _ _) (
                bl fun x9 =>
                sl_lin (
                  bl fun x10 =>
                  sl_lin (
                    hkR _ _) (
                    bl fun x11 =>
                    sl_lin (
                      hkR _ _) (
                      bl fun x12 =>
                      sl_lin (
                        bl fun x13 =>
                        sl_lin (
                          hkR _ _) (
                          hkR _ _)) (
                        hkR _ _)))) (
                  bl fun x14 =>
                  sl_lin (
                    bl fun x15 =>
                    sl_lin (
                      hkR _ _) (
                      hkR _ _)) (
                    hkR _ _)))) (
              bl fun x16 =>
              sl_lin (
                bl fun x17 =>
                sl_lin (
                  hkR _ _) (
                  bl fun x18 =>
                  sl_lin (
                    hkR _ _) (
                    bl fun x19 =>
                    sl_lin (
                      bl fun x20 =>
                      sl_lin (
                        hkR _ _) (
                        hkR _ _)) (
                      hkR _ _)))) (
                bl fun x21 =>
                sl_lin (
                  bl fun x22 =>
                  sl_lin (
                    hkR _ _) (
                    hkR _ _)) (
                  hkR _ _))))))))
noncomputable def g9_r : T9 := fun R t0_0 t0_1 t0_2 t0_3 t0_4 t0_5 t0_6 H K =>
  g9_p0 R t0_0 t0_1 t0_2 t0_3 t0_4 t0_5 t0_6 H (fun t2 H =>
    K t2 H)
theorem g9_r_lin : Lin9 (g9_r) := by
  constructor
  intro R S k t0_0 t0_1 t0_2 t0_3 t0_4 t0_5 t0_6 H f g h
  exact g9_p0_lin (fun t2 H =>
    h _ _)
theorem g9_fn {R : Type} (t0_0 : Int) (t0_1 : Bool) (t0_2 : Int) (t0_3 : Bool) (t0_4 : Int) (t0_5 : Int) (t0_6 : Sl) (H : Heap) (K : V → Heap → Option R) : evFn Tryd.prog E9 loopLim Tryd.f9 kp9 [(V.agg [(V.i .u8 t0_0), (V.b t0_1), (V.i .u8 t0_2), (V.b t0_3), (V.i .u8 t0_4), (V.i .u8 t0_5), (V.sl t0_6)])] H K = g9_r R t0_0 t0_1 t0_2 t0_3 t0_4 t0_5 t0_6 H (fun r0 H => K (V.i .i64 r0) H) := by
  have h0 : ∀ (t2 : Int) (H : Heap), kFn Tryd.prog Tryd.f9.results.toList K .ret [(2, (V.i .i64 t2))] H =
      K (V.i .i64 t2) H := by intros; kernel_rfl
  have e0 := evFn_code2 (P := Tryd.prog) (c := c9_0) (E := E9) (lr := loopLim) (kp := kp9) (fn := Tryd.f9) (args := [(V.agg [(V.i .u8 t0_0), (V.b t0_1), (V.i .u8 t0_2), (V.b t0_3), (V.i .u8 t0_4), (V.i .u8 t0_5), (V.sl t0_6)])]) H K (by kernel_rfl) (Nat.le_of_ble_eq_true (by kernel_rfl)) (by kernel_rfl)
  have e1 : ev Tryd.prog E9 loopLim Tryd.f9.ntmps kp9 c9_0 (argFr 0 [(V.agg [(V.i .u8 t0_0), (V.b t0_1), (V.i .u8 t0_2), (V.b t0_3), (V.i .u8 t0_4), (V.i .u8 t0_5), (V.sl t0_6)])]) H (kFn Tryd.prog Tryd.f9.results.toList K) = ev Tryd.prog E9 loopLim Tryd.f9.ntmps kp9 c9_0 [(0, (V.agg [(V.i .u8 t0_0), (V.b t0_1), (V.i .u8 t0_2), (V.b t0_3), (V.i .u8 t0_4), (V.i .u8 t0_5), (V.sl t0_6)]))] H (kFn Tryd.prog Tryd.f9.results.toList K) := by kernel_rfl
  refine (e0.trans e1).trans ?_
  delta g9_r
  exact (g9_p0_eq t0_0 t0_1 t0_2 t0_3 t0_4 t0_5 t0_6 H (kFn Tryd.prog Tryd.f9.results.toList K)).trans (congrArg (g9_p0 R t0_0 t0_1 t0_2 t0_3 t0_4 t0_5 t0_6 H) (funext fun t2 => funext fun H => h0 t2 H))
theorem g9_ok : FunOK Tryd.prog 9 (w9 (g9_r)) := by
  refine (runF_ok (E9_good) mixed lim_ok Tryd.func9 (by kernel_rfl) kp9).of_le fun R args H K r hk => ?_
  unfold w9 at hk
  split at hk
  · exact (g9_fn _ _ _ _ _ _ _ H K).trans hk
  · cases hk
def kp11 : Nat → Option (List Nat) := kpOf [(0, [1]), (1, [1, 3]), (2, [2]), (3, [32]), (4, [2]), (5, [2]), (100000, []), (200000, [1]), (300000, [2]), (400003, []), (400032, [])]
def E11 : FEnv := []
theorem E11_good : EnvGood Tryd.prog E11 := (EnvGood.nil _)
theorem E11_lin : EnvLin E11 := fun g F h => by cases h
noncomputable def b11 : Code := Tryd.f11.body.getD .skip
noncomputable def c11_0 : Code := (.seq (codeAt [0] b11) (.seq (.block 0 (.seq (codeAt [1, 0, 0, 0] b11) (.cond (.tmp 3) (.seq (codeAt [1, 0, 0, 1, 0, 0] b11) .ret) (.seq (codeAt [1, 0, 0, 1, 1, 0] b11) (.cond (.tmp 32) (.seq (codeAt [1, 0, 0, 1, 1, 1, 0, 0] b11) .ret) .skip))))) (.seq (codeAt [1, 1, 0] b11) .ret)))
noncomputable def g11_p0 (R : Type) (t0_0 : Int) (t0_1 : Bool) (t0_2 : Int) (t0_3 : Bool) (t0_4 : Int) (t0_5 : Int) (t0_6 : Sl) (H : Heap) (kR : Int → Heap → Option R) : Option R :=
  alo H (.cells [(V.i .u8 t0_0), (V.b t0_1), (V.i .u8 t0_2), (V.b t0_3), (V.i .u8 t0_4), (V.i .u8 t0_5), (V.sl t0_6)] 25 false) fun i1 h2 =>
  ((h2).ldI .u8 i1 (0 + 0)).bind fun x3 =>
  sel (decide (x3 ≥ (128 : Int))) (
    kR (1 : Int) h2) (
    ((h2).ldI .u8 i1 (0 + 2)).bind fun x4 =>
    sel (decide (x4 ≥ (128 : Int))) (
      kR (1 : Int) h2) (
      ((h2).ldI .u8 i1 (0 + 4)).bind fun x5 =>
      sel (decide (x5 > (2 : Int))) (
        kR (1 : Int) h2) (
        ((h2).ldI .u8 i1 (0 + 5)).bind fun x6 =>
        sel (decide (x6 > (5 : Int))) (
          kR (1 : Int) h2) (
          ((h2).ldI .u8 i1 (0 + 5)).bind fun x7 =>
          sel (x7 != (0 : Int)) (
            ((h2).ldI .u8 i1 (0 + 4)).bind fun x8 =>
            sel (x8 != (1 : Int)) (
              kR (1 : Int) h2) (
              ((h2).ldI .u8 i1 (0 + 4)).bind fun x9 =>
              sel (x9 == (2 : Int)) (
                ((h2).ldSl i1 (0 + 6)).bind fun x10 =>
                sel (decide (((x10.len : Nat) : Int) < (2 : Int))) (
                  kR (5 : Int) h2) (
                  ((h2).ldSl i1 (0 + 6)).bind fun x11 =>
                  sel (decide (((x11.len : Nat) : Int) > (273 : Int))) (
                    kR (5 : Int) h2) (
                    ((h2).ldI .u8 i1 (0 + 4)).bind fun x12 =>
                    sel (x12 != (2 : Int)) (
                      ((h2).ldSl i1 (0 + 6)).bind fun x13 =>
                      sel (decide (((x13.len : Nat) : Int) > (0 : Int))) (
                        kR (5 : Int) h2) (
                        kR (0 : Int) h2)) (
                      kR (0 : Int) h2)))) (
                ((h2).ldI .u8 i1 (0 + 4)).bind fun x14 =>
                sel (x14 != (2 : Int)) (
                  ((h2).ldSl i1 (0 + 6)).bind fun x15 =>
                  sel (decide (((x15.len : Nat) : Int) > (0 : Int))) (
                    kR (5 : Int) h2) (
                    kR (0 : Int) h2)) (
                  kR (0 : Int) h2)))) (
            ((h2).ldI .u8 i1 (0 + 4)).bind fun x16 =>
            sel (x16 == (2 : Int)) (
              ((h2).ldSl i1 (0 + 6)).bind fun x17 =>
              sel (decide (((x17.len : Nat) : Int) < (2 : Int))) (
                kR (5 : Int) h2) (
                ((h2).ldSl i1 (0 + 6)).bind fun x18 =>
                sel (decide (((x18.len : Nat) : Int) > (273 : Int))) (
                  kR (5 : Int) h2) (
                  ((h2).ldI .u8 i1 (0 + 4)).bind fun x19 =>
                  sel (x19 != (2 : Int)) (
                    ((h2).ldSl i1 (0 + 6)).bind fun x20 =>
                    sel (decide (((x20.len : Nat) : Int) > (0 : Int))) (
                      kR (5 : Int) h2) (
                      kR (0 : Int) h2)) (
                    kR (0 : Int) h2)))) (
              ((h2).ldI .u8 i1 (0 + 4)).bind fun x21 =>
              sel (x21 != (2 : Int)) (
                ((h2).ldSl i1 (0 + 6)).bind fun x22 =>
                sel (decide (((x22.len : Nat) : Int) > (0 : Int))) (
                  kR (5 : Int) h2) (
                  kR (0 : Int) h2)) (
                kR (0 : Int) h2)))))))
theorem g11_p0_eq {R : Type} (t0_0 : Int) (t0_1 : Bool) (t0_2 : Int) (t0_3 : Bool) (t0_4 : Int) (t0_5 : Int) (t0_6 : Sl) (H : Heap) (K : Ex → Fr → Heap → Option R) : ev Tryd.prog E11 loopLim Tryd.f11.ntmps kp11 c11_0 [(0, (V.agg [(V.i .u8 t0_0), (V.b t0_1), (V.i .u8 t0_2), (V.b t0_3), (V.i .u8 t0_4), (V.i .u8 t0_5), (V.sl t0_6)]))] H K = g11_p0 R t0_0 t0_1 t0_2 t0_3 t0_4 t0_5 t0_6 H (fun t2 H => K .ret [(2, (V.i .i64 t2))] H) := by kernel_rfl
theorem g11_p0_lin {R S : Type} {k : S → Option R} {t0_0 : Int} {t0_1 : Bool} {t0_2 : Int} {t0_3 : Bool} {t0_4 : Int} {t0_5 : Int} {t0_6 : Sl} {H : Heap} {fkR : Int → Heap → Option R} {gkR : Int → Heap → Option S} (hkR : ∀ t2 H, fkR t2 H = (gkR t2 H).bind k) : g11_p0 R t0_0 t0_1 t0_2 t0_3 t0_4 t0_5 t0_6 H fkR = (g11_p0 S t0_0 t0_1 t0_2 t0_3 t0_4 t0_5 t0_6 H gkR).bind k := by
  delta g11_p0; exact (
    alo_lin fun i1 h2 =>
    bl fun x3 =>
    sl_lin (
      hkR _ _) (
      bl fun x4 =>
      sl_lin (
        hkR _ _) (
        bl fun x5 =>
        sl_lin (
          hkR _ _) (
          bl fun x6 =>
          sl_lin (
            hkR _ _) (
            bl fun x7 =>
            sl_lin (
              bl fun x8 =>
              sl_lin (
                hkR _ _) (
                bl fun x9 =>
                sl_lin (
                  bl fun x10 =>
                  sl_lin (
                    hkR _ _) (
                    bl fun x11 =>
                    sl_lin (
                      hkR _ _) (
                      bl fun x12 =>
                      sl_lin (
                        bl fun x13 =>
                        sl_lin (
                          hkR _ _) (
                          hkR _ _)) (
                        hkR _ _)))) (
                  bl fun x14 =>
                  sl_lin (
                    bl fun x15 =>
                    sl_lin (
                      hkR _ _) (
                      hkR _ _)) (
                    hkR _ _)))) (
              bl fun x16 =>
              sl_lin (
                bl fun x17 =>
                sl_lin (
                  hkR _ _) (
                  bl fun x18 =>
                  sl_lin (
                    hkR _ _) (
                    bl fun x19 =>
                    sl_lin (
                      bl fun x20 =>
                      sl_lin (
                        hkR _ _) (
                        hkR _ _)) (
                      hkR _ _)))) (
                bl fun x21 =>
                sl_lin (
                  bl fun x22 =>
                  sl_lin (
                    hkR _ _) (
                    hkR _ _)) (
                  hkR _ _))))))))
noncomputable def g11_r : T11 := fun R t0_0 t0_1 t0_2 t0_3 t0_4 t0_5 t0_6 H K =>
  g11_p0 R t0_0 t0_1 t0_2 t0_3 t0_4 t0_5 t0_6 H (fun t2 H =>
    K t2 H)
theorem g11_r_lin : Lin11 (g11_r) := by
  constructor
  intro R S k t0_0 t0_1 t0_2 t0_3 t0_4 t0_5 t0_6 H f g h
  exact g11_p0_lin (fun t2 H =>
    h _ _)
theorem g11_fn {R : Type} (t0_0 : Int) (t0_1 : Bool) (t0_2 : Int) (t0_3 : Bool) (t0_4 : Int) (t0_5 : Int) (t0_6 : Sl) (H : Heap) (K : V → Heap → Option R) : evFn Tryd.prog E11 loopLim Tryd.f11 kp11 [(V.agg [(V.i .u8 t0_0), (V.b t0_1), (V.i .u8 t0_2), (V.b t0_3), (V.i .u8 t0_4), (V.i .u8 t0_5), (V.sl t0_6)])] H K = g11_r R t0_0 t0_1 t0_2 t0_3 t0_4 t0_5 t0_6 H (fun r0 H => K (V.i .i64 r0) H) := by
  have h0 : ∀ (t2 : Int) (H : Heap), kFn Tryd.prog Tryd.f11.results.toList K .ret [(2, (V.i .i64 t2))] H =
      K (V.i .i64 t2) H := by intros; kernel_rfl
  have e0 := evFn_code2 (P := Tryd.prog) (c := c11_0) (E := E11) (lr := loopLim) (kp := kp11) (fn := Tryd.f11) (args := [(V.agg [(V.i .u8 t0_0), (V.b t0_1), (V.i .u8 t0_2), (V.b t0_3), (V.i .u8 t0_4), (V.i .u8 t0_5), (V.sl t0_6)])]) H K (by kernel_rfl) (Nat.le_of_ble_eq_true (by kernel_rfl)) (by kernel_rfl)
  have e1 : ev Tryd.prog E11 loopLim Tryd.f11.ntmps kp11 c11_0 (argFr 0 [(V.agg [(V.i .u8 t0_0), (V.b t0_1), (V.i .u8 t0_2), (V.b t0_3), (V.i .u8 t0_4), (V.i .u8 t0_5), (V.sl t0_6)])]) H (kFn Tryd.prog Tryd.f11.results.toList K) = ev Tryd.prog E11 loopLim Tryd.f11.ntmps kp11 c11_0 [(0, (V.agg [(V.i .u8 t0_0), (V.b t0_1), (V.i .u8 t0_2), (V.b t0_3), (V.i .u8 t0_4), (V.i .u8 t0_5), (V.sl t0_6)]))] H (kFn Tryd.prog Tryd.f11.results.toList K) := by kernel_rfl
  refine (e0.trans e1).trans ?_
  delta g11_r
  exact (g11_p0_eq t0_0 t0_1 t0_2 t0_3 t0_4 t0_5 t0_6 H (kFn Tryd.prog Tryd.f11.results.toList K)).trans (congrArg (g11_p0 R t0_0 t0_1 t0_2 t0_3 t0_4 t0_5 t0_6 H) (funext fun t2 => funext fun H => h0 t2 H))
theorem g11_ok : FunOK Tryd.prog 11 (w11 (g11_r)) := by
  refine (runF_ok (E11_good) mixed lim_ok Tryd.func11 (by kernel_rfl) kp11).of_le fun R args H K r hk => ?_
  unfold w11 at hk
  split at hk
  · exact (g11_fn _ _ _ _ _ _ _ H K).trans hk
  · cases hk
def kp25 : Nat → Option (List Nat) := kpOf [(0, [1]), (1, [1, 5]), (2, [2]), (3, [2]), (300000, [2]), (400005, [1])]
def E25 : FEnv := []
theorem E25_good : EnvGood Tryd.prog E25 := (EnvGood.nil _)
theorem E25_lin : EnvLin E25 := fun g F h => by cases h
noncomputable def b25 : Code := Tryd.f25.body.getD .skip
noncomputable def c25_0 : Code := (.seq (codeAt [0] b25) (.seq (codeAt [1, 0, 0] b25) (.seq (.cond (.tmp 5) (.seq (codeAt [1, 0, 1, 0, 0] b25) .ret) .skip) (.seq (codeAt [1, 1, 0] b25) .ret))))
noncomputable def g25_p0 (R : Type) (t0_0 : Int) (t0_1 : Bool) (t0_2 : Int) (t0_3 : Bool) (t0_4 : Int) (t0_5 : Int) (t0_6 : Sl) (H : Heap) (kR : Sl → Heap → Option R) : Option R :=
  alo H (.cells [(V.i .u8 t0_0), (V.b t0_1), (V.i .u8 t0_2), (V.b t0_3), (V.i .u8 t0_4), (V.i .u8 t0_5), (V.sl t0_6)] 25 false) fun i1 h2 =>
  ((h2).ldI .u8 i1 (0 + 4)).bind fun x3 =>
  sel (x3 == (1 : Int)) (
    ((h2).ldI .u8 i1 (0 + 5)).bind fun x4 =>
    alo h2 (.cells [(V.i .u8 x4)] 5 false) fun i5 h6 =>
    kR (Sl.mk (some (i5, 0)) 1 (.ex 1)) h6) (
    ((h2).ldSl i1 (0 + 6)).bind fun x7 =>
    kR x7 h2)
theorem g25_p0_eq {R : Type} (t0_0 : Int) (t0_1 : Bool) (t0_2 : Int) (t0_3 : Bool) (t0_4 : Int) (t0_5 : Int) (t0_6 : Sl) (H : Heap) (K : Ex → Fr → Heap → Option R) : ev Tryd.prog E25 loopLim Tryd.f25.ntmps kp25 c25_0 [(0, (V.agg [(V.i .u8 t0_0), (V.b t0_1), (V.i .u8 t0_2), (V.b t0_3), (V.i .u8 t0_4), (V.i .u8 t0_5), (V.sl t0_6)]))] H K = g25_p0 R t0_0 t0_1 t0_2 t0_3 t0_4 t0_5 t0_6 H (fun t2 H => K .ret [(2, (V.sl t2))] H) := by kernel_rfl
theorem g25_p0_lin {R S : Type} {k : S → Option R} {t0_0 : Int} {t0_1 : Bool} {t0_2 : Int} {t0_3 : Bool} {t0_4 : Int} {t0_5 : Int} {t0_6 : Sl} {H : Heap} {fkR : Sl → Heap → Option R} {gkR : Sl → Heap → Option S} (hkR : ∀ t2 H, fkR t2 H = (gkR t2 H).bind k) : g25_p0 R t0_0 t0_1 t0_2 t0_3 t0_4 t0_5 t0_6 H fkR = (g25_p0 S t0_0 t0_1 t0_2 t0_3 t0_4 t0_5 t0_6 H gkR).bind k := by
  delta g25_p0; exact (
    alo_lin fun i1 h2 =>
    bl fun x3 =>
    sl_lin (
      bl fun x4 =>
      alo_lin fun i5 h6 =>
      hkR _ _) (
      bl fun x7 =>
      hkR _ _))
noncomputable def g25_r : T25 := fun R t0_0 t0_1 t0_2 t0_3 t0_4 t0_5 t0_6 H K =>
  g25_p0 R t0_0 t0_1 t0_2 t0_3 t0_4 t0_5 t0_6 H (fun t2 H =>
    K t2 H)
theorem g25_r_lin : Lin25 (g25_r) := by
  constructor
  intro R S k t0_0 t0_1 t0_2 t0_3 t0_4 t0_5 t0_6 H f g h
  exact g25_p0_lin (fun t2 H =>
    h _ _)
theorem g25_fn {R : Type} (t0_0 : Int) (t0_1 : Bool) (t0_2 : Int) (t0_3 : Bool) (t0_4 : Int) (t0_5 : Int) (t0_6 : Sl) (H : Heap) (K : V → Heap → Option R) : evFn Tryd.prog E25 loopLim Tryd.f25 kp25 [(V.agg [(V.i .u8 t0_0), (V.b t0_1), (V.i .u8 t0_2), (V.b t0_3), (V.i .u8 t0_4), (V.i .u8 t0_5), (V.sl t0_6)])] H K = g25_r R t0_0 t0_1 t0_2 t0_3 t0_4 t0_5 t0_6 H (fun r0 H => K (V.sl r0) H) := by
  have h0 : ∀ (t2 : Sl) (H : Heap), kFn Tryd.prog Tryd.f25.results.toList K .ret [(2, (V.sl t2))] H =
      K (V.sl t2) H := by intros; kernel_rfl
  have e0 := evFn_code2 (P := Tryd.prog) (c := c25_0) (E := E25) (lr := loopLim) (kp := kp25) (fn := Tryd.f25) (args := [(V.agg [(V.i .u8 t0_0), (V.b t0_1), (V.i .u8 t0_2), (V.b t0_3), (V.i .u8 t0_4), (V.i .u8 t0_5), (V.sl t0_6)])]) H K (by kernel_rfl) (Nat.le_of_ble_eq_true (by kernel_rfl)) (by kernel_rfl)
  have e1 : ev Tryd.prog E25 loopLim Tryd.f25.ntmps kp25 c25_0 (argFr 0 [(V.agg [(V.i .u8 t0_0), (V.b t0_1), (V.i .u8 t0_2), (V.b t0_3), (V.i .u8 t0_4), (V.i .u8 t0_5), (V.sl t0_6)])]) H (kFn Tryd.prog Tryd.f25.results.toList K) = ev Tryd.prog E25 loopLim Tryd.f25.ntmps kp25 c25_0 [(0, (V.agg [(V.i .u8 t0_0), (V.b t0_1), (V.i .u8 t0_2), (V.b t0_3), (V.i .u8 t0_4), (V.i .u8 t0_5), (V.sl t0_6)]))] H (kFn Tryd.prog Tryd.f25.results.toList K) := by kernel_rfl
  refine (e0.trans e1).trans ?_
  delta g25_r
  exact (g25_p0_eq t0_0 t0_1 t0_2 t0_3 t0_4 t0_5 t0_6 H (kFn Tryd.prog Tryd.f25.results.toList K)).trans (congrArg (g25_p0 R t0_0 t0_1 t0_2 t0_3 t0_4 t0_5 t0_6 H) (funext fun t2 => funext fun H => h0 t2 H))
theorem g25_ok : FunOK Tryd.prog 25 (w25 (g25_r)) := by
  refine (runF_ok (E25_good) mixed lim_ok Tryd.func25 (by kernel_rfl) kp25).of_le fun R args H K r hk => ?_
  unfold w25 at hk
  split at hk
  · exact (g25_fn _ _ _ _ _ _ _ H K).trans hk
  · cases hk
def kp26 : Nat → Option (List Nat) := kpOf [(0, [0, 1]), (1, [0, 1, 7]), (2, [4]), (3, [4]), (300000, [4]), (400007, [1])]
def E26 : FEnv := []
theorem E26_good : EnvGood Tryd.prog E26 := (EnvGood.nil _)
theorem E26_lin : EnvLin E26 := fun g F h => by cases h
noncomputable def b26 : Code := Tryd.f26.body.getD .skip
noncomputable def c26_0 : Code := (.seq (codeAt [0] b26) (.seq (codeAt [1, 0, 0] b26) (.seq (.cond (.tmp 7) (.seq (codeAt [1, 0, 1, 0, 0] b26) .ret) .skip) (.seq (codeAt [1, 1, 0] b26) .ret))))
noncomputable def g26_p0 (R : Type) (t0 : Int) (t1 : Int) (H : Heap) (kR : Int → Heap → Option R) : Option R :=
  sel (decide (t0 < t1)) (
    kR t0 H) (
    kR t1 H)
theorem g26_p0_eq {R : Type} (t0 : Int) (t1 : Int) (H : Heap) (K : Ex → Fr → Heap → Option R) : ev Tryd.prog E26 loopLim Tryd.f26.ntmps kp26 c26_0 [(0, (V.i .i64 t0)), (1, (V.i .i64 t1))] H K = g26_p0 R t0 t1 H (fun t4 H => K .ret [(4, (V.i .i64 t4))] H) := by kernel_rfl
theorem g26_p0_lin {R S : Type} {k : S → Option R} {t0 : Int} {t1 : Int} {H : Heap} {fkR : Int → Heap → Option R} {gkR : Int → Heap → Option S} (hkR : ∀ t4 H, fkR t4 H = (gkR t4 H).bind k) : g26_p0 R t0 t1 H fkR = (g26_p0 S t0 t1 H gkR).bind k := by
  delta g26_p0; exact (
    sl_lin (
      hkR _ _) (
      hkR _ _))
noncomputable def g26_r : T26 := fun R t0 t1 H K =>
  g26_p0 R t0 t1 H (fun t4 H =>
    K t4 H)
theorem g26_r_lin : Lin26 (g26_r) := by
  constructor
  intro R S k t0 t1 H f g h
  exact g26_p0_lin (fun t4 H =>
    h _ _)
theorem g26_fn {R : Type} (t0 : Int) (t1 : Int) (H : Heap) (K : V → Heap → Option R) : evFn Tryd.prog E26 loopLim Tryd.f26 kp26 [(V.i .i64 t0), (V.i .i64 t1)] H K = g26_r R t0 t1 H (fun r0 H => K (V.i .i64 r0) H) := by
  have h0 : ∀ (t4 : Int) (H : Heap), kFn Tryd.prog Tryd.f26.results.toList K .ret [(4, (V.i .i64 t4))] H =
      K (V.i .i64 t4) H := by intros; kernel_rfl
  have e0 := evFn_code2 (P := Tryd.prog) (c := c26_0) (E := E26) (lr := loopLim) (kp := kp26) (fn := Tryd.f26) (args := [(V.i .i64 t0), (V.i .i64 t1)]) H K (by kernel_rfl) (Nat.le_of_ble_eq_true (by kernel_rfl)) (by kernel_rfl)
  have e1 : ev Tryd.prog E26 loopLim Tryd.f26.ntmps kp26 c26_0 (argFr 0 [(V.i .i64 t0), (V.i .i64 t1)]) H (kFn Tryd.prog Tryd.f26.results.toList K) = ev Tryd.prog E26 loopLim Tryd.f26.ntmps kp26 c26_0 [(0, (V.i .i64 t0)), (1, (V.i .i64 t1))] H (kFn Tryd.prog Tryd.f26.results.toList K) := by kernel_rfl
  refine (e0.trans e1).trans ?_
  delta g26_r
  exact (g26_p0_eq t0 t1 H (kFn Tryd.prog Tryd.f26.results.toList K)).trans (congrArg (g26_p0 R t0 t1 H) (funext fun t4 => funext fun H => h0 t4 H))
theorem g26_ok : FunOK Tryd.prog 26 (w26 (g26_r)) := by
  refine (runF_ok (E26_good) mixed lim_ok Tryd.func26 (by kernel_rfl) kp26).of_le fun R args H K r hk => ?_
  unfold w26 at hk
  split at hk
  · exact (g26_fn _ _ H K).trans hk
  · cases hk
def kp24 : Nat → Option (List Nat) := kpOf [(0, [0, 1]), (1, [0, 5]), (2, [4]), (3, [4]), (300000, [4]), (400005, [0])]
def E24 : FEnv := []
theorem E24_good : EnvGood Tryd.prog E24 := (EnvGood.nil _)
theorem E24_lin : EnvLin E24 := fun g F h => by cases h
noncomputable def b24 : Code := Tryd.f24.body.getD .skip
noncomputable def c24_0 : Code := (.seq (codeAt [0] b24) (.seq (codeAt [1, 0, 0] b24) (.seq (.cond (.tmp 5) (.seq (codeAt [1, 0, 1, 0, 0] b24) .ret) .skip) (.seq (codeAt [1, 1, 0] b24) .ret))))
noncomputable def g24_p0 (R : Type) (t0 : Int) (t1 : Bool) (H : Heap) (kR : Int → Heap → Option R) : Option R :=
  sel t1 (
    kR (bvOr .u8 t0 (128 : Int)) H) (
    kR t0 H)
theorem g24_p0_eq {R : Type} (t0 : Int) (t1 : Bool) (H : Heap) (K : Ex → Fr → Heap → Option R) : ev Tryd.prog E24 loopLim Tryd.f24.ntmps kp24 c24_0 [(0, (V.i .u8 t0)), (1, (V.b t1))] H K = g24_p0 R t0 t1 H (fun t4 H => K .ret [(4, (V.i .u8 t4))] H) := by kernel_rfl
theorem g24_p0_lin {R S : Type} {k : S → Option R} {t0 : Int} {t1 : Bool} {H : Heap} {fkR : Int → Heap → Option R} {gkR : Int → Heap → Option S} (hkR : ∀ t4 H, fkR t4 H = (gkR t4 H).bind k) : g24_p0 R t0 t1 H fkR = (g24_p0 S t0 t1 H gkR).bind k := by
  delta g24_p0; exact (
    sl_lin (
      hkR _ _) (
      hkR _ _))
noncomputable def g24_r : T24 := fun R t0 t1 H K =>
  g24_p0 R t0 t1 H (fun t4 H =>
    K t4 H)
theorem g24_r_lin : Lin24 (g24_r) := by
  constructor
  intro R S k t0 t1 H f g h
  exact g24_p0_lin (fun t4 H =>
    h _ _)
theorem g24_fn {R : Type} (t0 : Int) (t1 : Bool) (H : Heap) (K : V → Heap → Option R) : evFn Tryd.prog E24 loopLim Tryd.f24 kp24 [(V.i .u8 t0), (V.b t1)] H K = g24_r R t0 t1 H (fun r0 H => K (V.i .u8 r0) H) := by
  have h0 : ∀ (t4 : Int) (H : Heap), kFn Tryd.prog Tryd.f24.results.toList K .ret [(4, (V.i .u8 t4))] H =
      K (V.i .u8 t4) H := by intros; kernel_rfl
  have e0 := evFn_code2 (P := Tryd.prog) (c := c24_0) (E := E24) (lr := loopLim) (kp := kp24) (fn := Tryd.f24) (args := [(V.i .u8 t0), (V.b t1)]) H K (by kernel_rfl) (Nat.le_of_ble_eq_true (by kernel_rfl)) (by kernel_rfl)
  have e1 : ev Tryd.prog E24 loopLim Tryd.f24.ntmps kp24 c24_0 (argFr 0 [(V.i .u8 t0), (V.b t1)]) H (kFn Tryd.prog Tryd.f24.results.toList K) = ev Tryd.prog E24 loopLim Tryd.f24.ntmps kp24 c24_0 [(0, (V.i .u8 t0)), (1, (V.b t1))] H (kFn Tryd.prog Tryd.f24.results.toList K) := by kernel_rfl
  refine (e0.trans e1).trans ?_
  delta g24_r
  exact (g24_p0_eq t0 t1 H (kFn Tryd.prog Tryd.f24.results.toList K)).trans (congrArg (g24_p0 R t0 t1 H) (funext fun t4 => funext fun H => h0 t4 H))
theorem g24_ok : FunOK Tryd.prog 24 (w24 (g24_r)) := by
  refine (runF_ok (E24_good) mixed lim_ok Tryd.func24 (by kernel_rfl) kp24).of_le fun R args H K r hk => ?_
  unfold w24 at hk
  split at hk
  · exact (g24_fn _ _ H K).trans hk
  · cases hk
def kp36 : Nat → Option (List Nat) := kpOf [(0, [0, 1]), (1, [0, 1, 6]), (2, [0, 1]), (3, [0, 1]), (4, [0, 1, 16]), (5, [0]), (6, [4]), (300000, [4]), (400006, [0, 1]), (400016, [0])]
def E36 : FEnv := []
theorem E36_good : EnvGood Tryd.prog E36 := (EnvGood.nil _)
theorem E36_lin : EnvLin E36 := fun g F h => by cases h
noncomputable def b36 : Code := Tryd.f36.body.getD .skip
noncomputable def c36_0 : Code := (.seq (codeAt [0] b36) (.seq (codeAt [1, 0, 0] b36) (.seq (.cond (.tmp 6) (codeAt [1, 0, 1, 0] b36) .skip) (.seq (codeAt [1, 1, 0, 0] b36) (.seq (codeAt [1, 1, 0, 1, 0] b36) (.seq (.cond (.tmp 16) (codeAt [1, 1, 0, 1, 1, 0] b36) .skip) (.seq (codeAt [1, 1, 1, 0] b36) .ret)))))))
noncomputable def g36_p0 (R : Type) (t0 : Sl) (t1 : Int) (H : Heap) (kR : Sl → Heap → Option R) : Option R :=
  sel (decide (t1 < (0 : Int))) (
    none) (
    capK t0.cap fun c1 =>
    sel (decide ((IntKind.wrap .i64 (t1 - (IntKind.wrap .i64 (((c1 : Nat) : Int) - ((t0.len : Nat) : Int))))) > (0 : Int))) (
      capK t0.cap fun c2 =>
      slOf 1 t0 none (some ((c2 : Nat) : Int)) none fun s3 =>
      if 0 ≤ (IntKind.wrap .i64 (t1 - (IntKind.wrap .i64 (((c1 : Nat) : Int) - ((t0.len : Nat) : Int))))) ∧ (IntKind.wrap .i64 (t1 - (IntKind.wrap .i64 (((c1 : Nat) : Int) - ((t0.len : Nat) : Int))))) ≤ 9223372036854775807 ∧ (IntKind.wrap .i64 (t1 - (IntKind.wrap .i64 (((c1 : Nat) : Int) - ((t0.len : Nat) : Int))))) * ((1 : Nat) : Int) ≤ 281474976710656 then (
        ((zeroCellsV Tryd.prog 5 (Int.toNat (IntKind.wrap .i64 (t1 - (IntKind.wrap .i64 (((c1 : Nat) : Int) - ((t0.len : Nat) : Int)))))))).bind fun vs6 =>
        appendV H 5 1 1 s3 (Int.toNat (IntKind.wrap .i64 (t1 - (IntKind.wrap .i64 (((c1 : Nat) : Int) - ((t0.len : Nat) : Int)))))) vs6 fun s4 h5 =>
        slOf 1 s4 none (some ((t0.len : Nat) : Int)) none fun s7 =>
        kR s7 h5)
      else (
        none)) (
      kR t0 H))
theorem g36_p0_eq {R : Type} (t0 : Sl) (t1 : Int) (H : Heap) (K : Ex → Fr → Heap → Option R) : ev Tryd.prog E36 loopLim Tryd.f36.ntmps kp36 c36_0 [(0, (V.sl t0)), (1, (V.i .i64 t1))] H K = g36_p0 R t0 t1 H (fun t4 H => K .ret [(4, (V.sl t4))] H) := by kernel_rfl
theorem g36_p0_lin {R S : Type} {k : S → Option R} {t0 : Sl} {t1 : Int} {H : Heap} {fkR : Sl → Heap → Option R} {gkR : Sl → Heap → Option S} (hkR : ∀ t4 H, fkR t4 H = (gkR t4 H).bind k) : g36_p0 R t0 t1 H fkR = (g36_p0 S t0 t1 H gkR).bind k := by
  delta g36_p0; exact (
    sl_lin (
      rfl) (
      capK_lin fun c1 =>
      sl_lin (
        capK_lin fun c2 =>
        slOf_lin fun s3 =>
        il (
          bl fun vs6 =>
          appendV_lin fun s4 h5 =>
          slOf_lin fun s7 =>
          hkR _ _) (
          rfl)) (
        hkR _ _)))
noncomputable def g36_r : T36 := fun R t0 t1 H K =>
  g36_p0 R t0 t1 H (fun t4 H =>
    K t4 H)
theorem g36_r_lin : Lin36 (g36_r) := by
  constructor
  intro R S k t0 t1 H f g h
  exact g36_p0_lin (fun t4 H =>
    h _ _)
theorem g36_fn {R : Type} (t0 : Sl) (t1 : Int) (H : Heap) (K : V → Heap → Option R) : evFn Tryd.prog E36 loopLim Tryd.f36 kp36 [(V.sl t0), (V.i .i64 t1)] H K = g36_r R t0 t1 H (fun r0 H => K (V.sl r0) H) := by
  have h0 : ∀ (t4 : Sl) (H : Heap), kFn Tryd.prog Tryd.f36.results.toList K .ret [(4, (V.sl t4))] H =
      K (V.sl t4) H := by intros; kernel_rfl
  have e0 := evFn_code2 (P := Tryd.prog) (c := c36_0) (E := E36) (lr := loopLim) (kp := kp36) (fn := Tryd.f36) (args := [(V.sl t0), (V.i .i64 t1)]) H K (by kernel_rfl) (Nat.le_of_ble_eq_true (by kernel_rfl)) (by kernel_rfl)
  have e1 : ev Tryd.prog E36 loopLim Tryd.f36.ntmps kp36 c36_0 (argFr 0 [(V.sl t0), (V.i .i64 t1)]) H (kFn Tryd.prog Tryd.f36.results.toList K) = ev Tryd.prog E36 loopLim Tryd.f36.ntmps kp36 c36_0 [(0, (V.sl t0)), (1, (V.i .i64 t1))] H (kFn Tryd.prog Tryd.f36.results.toList K) := by kernel_rfl
  refine (e0.trans e1).trans ?_
  delta g36_r
  exact (g36_p0_eq t0 t1 H (kFn Tryd.prog Tryd.f36.results.toList K)).trans (congrArg (g36_p0 R t0 t1 H) (funext fun t4 => funext fun H => h0 t4 H))
theorem g36_ok : FunOK Tryd.prog 36 (w36 (g36_r)) := by
  refine (runF_ok (E36_good) mixed lim_ok Tryd.func36 (by kernel_rfl) kp36).of_le fun R args H K r hk => ?_
  unfold w36 at hk
  split at hk
  · exact (g36_fn _ _ H K).trans hk
  · cases hk
def kp28 : Nat → Option (List Nat) := kpOf [(0, [0]), (1, [0, 3]), (2, [0, 3, 9, 10, 11]), (3, [0, 3, 9, 10, 11, 12]), (4, [0, 3, 5, 9, 10, 11]), (5, [0, 3, 9, 10, 11]), (6, [0, 3, 9, 10, 11, 20]), (7, [0, 3, 9, 10, 11]), (8, [0, 3, 9, 10, 11]), (9, [0, 6]), (10, [6, 25, 26, 27]), (11, [6, 25, 26, 27, 28]), (12, [6, 8, 25, 26, 27]), (13, [6, 25, 26, 27]), (14, [6, 25, 26, 27]), (15, [2]), (100000, [0, 3]), (100001, [0, 3, 9, 10, 11]), (100002, [6]), (100003, [6, 25, 26, 27]), (200000, [0, 3, 9, 10, 11]), (200001, [0, 3, 9, 10, 11]), (200002, [6, 25, 26, 27]), (200003, [6, 25, 26, 27]), (300000, [2]), (400012, [0, 3, 9, 10, 11]), (400020, [0, 3, 9, 10, 11]), (400028, [6, 25, 26, 27])]
def E28 (a36 : T36) : FEnv := [(36, w36 a36)]
theorem E28_good {a36 : T36} (oa36 : FunOK Tryd.prog 36 (w36 a36)) (la36 : Lin36 a36) : EnvGood Tryd.prog (E28 a36) := ((EnvGood.nil _).cons oa36 (w36_lin la36))
theorem E28_lin {a36 : T36} (la36 : Lin36 a36) : EnvLin (E28 a36) := by
  intro g F h
  simp only [E28, List.mem_cons, List.not_mem_nil, or_false] at h
  rcases h with h
  · cases h; exact w36_lin la36
noncomputable def b28 : Code := Tryd.f28.body.getD .skip
noncomputable def c28_0 : Code := (.seq (codeAt [1, 1, 0, 1, 0, 0, 0] b28) (.seq (.cond (.tmp 12) .skip (.exit 0)) (.seq (.block 1 (.seq (codeAt [1, 1, 0, 1, 0, 0, 1, 1, 0, 0, 0] b28) (.seq (codeAt [1, 1, 0, 1, 0, 0, 1, 1, 0, 0, 1, 0] b28) (.seq (codeAt [1, 1, 0, 1, 0, 0, 1, 1, 0, 0, 1, 1, 0] b28) (.cond (.tmp 20) (codeAt [1, 1, 0, 1, 0, 0, 1, 1, 0, 0, 1, 1, 1, 0] b28) .skip))))) (codeAt [1, 1, 0, 1, 0, 0, 1, 1, 1] b28))))
noncomputable def c28_1 : Code := (.loop c28_0)
noncomputable def c28_2 : Code := (.block 0 c28_1)
noncomputable def c28_3 : Code := (.seq (codeAt [1, 1, 1, 1, 0, 1, 0, 0, 0] b28) (.seq (.cond (.tmp 28) .skip (.exit 2)) (.seq (.block 3 (.seq (codeAt [1, 1, 1, 1, 0, 1, 0, 0, 1, 1, 0, 0, 0] b28) (codeAt [1, 1, 1, 1, 0, 1, 0, 0, 1, 1, 0, 0, 1] b28))) (codeAt [1, 1, 1, 1, 0, 1, 0, 0, 1, 1, 1] b28))))
noncomputable def c28_4 : Code := (.loop c28_3)
noncomputable def c28_5 : Code := (.block 2 c28_4)
noncomputable def c28_6 : Code := (.seq (codeAt [1, 1, 1, 1, 1, 0] b28) .ret)
noncomputable def c28_7 : Code := (.seq c28_5 c28_6)
noncomputable def c28_8 : Code := (.seq (codeAt [1, 1, 1, 0] b28) (.seq (codeAt [1, 1, 1, 1, 0, 0] b28) c28_7))
noncomputable def c28_9 : Code := (.seq c28_2 c28_8)
noncomputable def c28_10 : Code := (.seq (codeAt [0] b28) (.seq (codeAt [1, 0] b28) (.seq (codeAt [1, 1, 0, 0] b28) c28_9)))
noncomputable def g28_p0 (a36 : T36) (R : Type) (t0 : Sl) (H : Heap) (kN : Sl → Int → Sl → Int → Int → Heap → Option R) : Option R :=
  kN t0 (0 : Int) t0 ((t0.len : Nat) : Int) (0 : Int) H
theorem g28_p0_eq (a36 : T36) {R : Type} (c2 : Code) (t0 : Sl) (H : Heap) (K : Ex → Fr → Heap → Option R) : ev Tryd.prog (E28 a36) loopLim Tryd.f28.ntmps kp28 (.seq (codeAt [0] b28) (.seq (codeAt [1, 0] b28) (.seq (codeAt [1, 1, 0, 0] b28) c2))) [(0, (V.sl t0))] H K = g28_p0 a36 R t0 H (fun t0 t3 t9 t10 t11 H => ev Tryd.prog (E28 a36) loopLim Tryd.f28.ntmps kp28 c2 [(0, (V.sl t0)), (3, (V.i .i64 t3)), (9, (V.sl t9)), (10, (V.i .i64 t10)), (11, (V.i .i64 t11))] H K) := by kernel_rfl
theorem g28_p0_lin {a36 : T36} (la36 : Lin36 a36) {R S : Type} {k : S → Option R} {t0 : Sl} {H : Heap} {fkN : Sl → Int → Sl → Int → Int → Heap → Option R} {gkN : Sl → Int → Sl → Int → Int → Heap → Option S} (hkN : ∀ t0 t3 t9 t10 t11 H, fkN t0 t3 t9 t10 t11 H = (gkN t0 t3 t9 t10 t11 H).bind k) : g28_p0 a36 R t0 H fkN = (g28_p0 a36 S t0 H gkN).bind k := by
  delta g28_p0; exact (
    hkN _ _ _ _ _ _)
noncomputable def g28_p1 (a36 : T36) (R : Type) (t0 : Sl) (t3 : Int) (t9 : Sl) (t10 : Int) (t11 : Int) (H : Heap) (kN : Sl → Int → Sl → Int → Int → Heap → Option R) (kE0 : Sl → Int → Heap → Option R) : Option R :=
  sel (decide (t11 < t10)) (
    if 0 ≤ t11 ∧ t11 < ((t9.len : Nat) : Int) then (
      (t9.a).bind fun q1 =>
      ((H).ldSl q1.1 (q1.2 + Int.toNat t11 * 1)).bind fun x2 =>
      sel (decide ((IntKind.wrap .i64 (t3 + ((x2.len : Nat) : Int))) < (0 : Int))) (
        none) (
        kN t0 (IntKind.wrap .i64 (t3 + ((x2.len : Nat) : Int))) t9 t10 (IntKind.wrap .i64 (t11 + (1 : Int))) H))
    else (
      none)) (
    kE0 t0 t3 H)
theorem g28_p1_eq (a36 : T36) (la36 : Lin36 a36) {R : Type} (t0 : Sl) (t3 : Int) (t9 : Sl) (t10 : Int) (t11 : Int) (H : Heap) (K : Ex → Fr → Heap → Option R) : ev Tryd.prog (E28 a36) loopLim Tryd.f28.ntmps kp28 c28_0 [(0, (V.sl t0)), (3, (V.i .i64 t3)), (9, (V.sl t9)), (10, (V.i .i64 t10)), (11, (V.i .i64 t11))] H K = g28_p1 a36 R t0 t3 t9 t10 t11 H (fun t0 t3 t9 t10 t11 H => K .normal [(0, (V.sl t0)), (3, (V.i .i64 t3)), (9, (V.sl t9)), (10, (V.i .i64 t10)), (11, (V.i .i64 t11))] H) (fun t0 t3 H => K (.exit 0) [(0, (V.sl t0)), (3, (V.i .i64 t3))] H) := by kernel_rfl
theorem g28_p1_lin {a36 : T36} (la36 : Lin36 a36) {R S : Type} {k : S → Option R} {t0 : Sl} {t3 : Int} {t9 : Sl} {t10 : Int} {t11 : Int} {H : Heap} {fkN : Sl → Int → Sl → Int → Int → Heap → Option R} {gkN : Sl → Int → Sl → Int → Int → Heap → Option S} {fkE0 : Sl → Int → Heap → Option R} {gkE0 : Sl → Int → Heap → Option S} (hkN : ∀ t0 t3 t9 t10 t11 H, fkN t0 t3 t9 t10 t11 H = (gkN t0 t3 t9 t10 t11 H).bind k) (hkE0 : ∀ t0 t3 H, fkE0 t0 t3 H = (gkE0 t0 t3 H).bind k) : g28_p1 a36 R t0 t3 t9 t10 t11 H fkN fkE0 = (g28_p1 a36 S t0 t3 t9 t10 t11 H gkN gkE0).bind k := by
  delta g28_p1; exact (
    sl_lin (
      il (
        bl fun q1 =>
        bl fun x2 =>
        sl_lin (
          rfl) (
          hkN _ _ _ _ _ _)) (
        rfl)) (
      hkE0 _ _ _))
abbrev g28_p2_S := Sl × Int × Sl × Int × Int
abbrev g28_p2_O := Sl × Int
def g28_p2_es (s : g28_p2_S) : Fr := [(0, (V.sl s.1)), (3, (V.i .i64 s.2.1)), (9, (V.sl s.2.2.1)), (10, (V.i .i64 s.2.2.2.1)), (11, (V.i .i64 s.2.2.2.2))]
def g28_p2_er (r : g28_p2_O) : Ex × Fr := ((.exit 0), [(0, (V.sl r.1)), (3, (V.i .i64 r.2))])
noncomputable def g28_p2_b (a36 : T36) (s : g28_p2_S) (H : Heap) : Option (Rd g28_p2_S g28_p2_O × Heap) :=
  g28_p1 a36 _ s.1 s.2.1 s.2.2.1 s.2.2.2.1 s.2.2.2.2 H (fun t0 t3 t9 t10 t11 H => some (.go (t0, t3, t9, t10, t11), H)) (fun t0 t3 H => some (.up (t0, t3), H))
noncomputable def g28_p2 (a36 : T36) (R : Type) (t0 : Sl) (t3 : Int) (t9 : Sl) (t10 : Int) (t11 : Int) (H : Heap) (kE0 : Sl → Int → Heap → Option R) : Option R :=
  (tlim (g28_p2_b a36) (t0, t3, t9, t10, t11) H).bind fun p => kE0 p.1.1 p.1.2 p.2
theorem g28_p2_lin {a36 : T36} (la36 : Lin36 a36) {R S : Type} {k : S → Option R} {t0 : Sl} {t3 : Int} {t9 : Sl} {t10 : Int} {t11 : Int} {H : Heap} {fkE0 : Sl → Int → Heap → Option R} {gkE0 : Sl → Int → Heap → Option S} (hkE0 : ∀ t0 t3 H, fkE0 t0 t3 H = (gkE0 t0 t3 H).bind k) : g28_p2 a36 R t0 t3 t9 t10 t11 H fkE0 = (g28_p2 a36 S t0 t3 t9 t10 t11 H gkE0).bind k := by
  exact bl fun p => hkE0 _ _ _
theorem g28_p2_eq (a36 : T36) (la36 : Lin36 a36) {R : Type} (t0 : Sl) (t3 : Int) (t9 : Sl) (t10 : Int) (t11 : Int) (H : Heap) (K : Ex → Fr → Heap → Option R) : ev Tryd.prog (E28 a36) loopLim Tryd.f28.ntmps kp28 c28_1 [(0, (V.sl t0)), (3, (V.i .i64 t3)), (9, (V.sl t9)), (10, (V.i .i64 t10)), (11, (V.i .i64 t11))] H K = g28_p2 a36 R t0 t3 t9 t10 t11 H (fun t0 t3 H => K (.exit 0) [(0, (V.sl t0)), (3, (V.i .i64 t3))] H) := by
  show ev Tryd.prog (E28 a36) loopLim Tryd.f28.ntmps kp28 (.loop c28_0) [(0, (V.sl t0)), (3, (V.i .i64 t3)), (9, (V.sl t9)), (10, (V.i .i64 t10)), (11, (V.i .i64 t11))] H K = _
  delta g28_p2
  refine (ev_tlim (b := g28_p2_b a36) (es := g28_p2_es) (er := g28_p2_er) (by intro r; exact nofun) (fun s H => ?_) (t0, t3, t9, t10, t11) H K).trans (bc fun p => rfl)
  exact (g28_p1_eq a36 la36 s.1 s.2.1 s.2.2.1 s.2.2.2.1 s.2.2.2.2 H ret3).trans (g28_p1_lin la36 (fun _ _ _ _ _ _ => rfl) (fun _ _ _ => rfl))
noncomputable def g28_p3 (a36 : T36) (R : Type) (t0 : Sl) (t3 : Int) (t9 : Sl) (t10 : Int) (t11 : Int) (H : Heap) (kN : Sl → Int → Heap → Option R) : Option R :=
  g28_p2 a36 R t0 t3 t9 t10 t11 H (fun t0 t3 H => kN t0 t3 H)
theorem g28_p3_lin {a36 : T36} (la36 : Lin36 a36) {R S : Type} {k : S → Option R} {t0 : Sl} {t3 : Int} {t9 : Sl} {t10 : Int} {t11 : Int} {H : Heap} {fkN : Sl → Int → Heap → Option R} {gkN : Sl → Int → Heap → Option S} (hkN : ∀ t0 t3 H, fkN t0 t3 H = (gkN t0 t3 H).bind k) : g28_p3 a36 R t0 t3 t9 t10 t11 H fkN = (g28_p3 a36 S t0 t3 t9 t10 t11 H gkN).bind k := by
  exact g28_p2_lin la36 (fun _ _ _ => hkN _ _ _)
theorem g28_p3_eq (a36 : T36) (la36 : Lin36 a36) {R : Type} (t0 : Sl) (t3 : Int) (t9 : Sl) (t10 : Int) (t11 : Int) (H : Heap) (K : Ex → Fr → Heap → Option R) : ev Tryd.prog (E28 a36) loopLim Tryd.f28.ntmps kp28 c28_2 [(0, (V.sl t0)), (3, (V.i .i64 t3)), (9, (V.sl t9)), (10, (V.i .i64 t10)), (11, (V.i .i64 t11))] H K = g28_p3 a36 R t0 t3 t9 t10 t11 H (fun t0 t3 H => K .normal [(0, (V.sl t0)), (3, (V.i .i64 t3))] H) := by
  show ev Tryd.prog (E28 a36) loopLim Tryd.f28.ntmps kp28 (.block 0 c28_1) [(0, (V.sl t0)), (3, (V.i .i64 t3)), (9, (V.sl t9)), (10, (V.i .i64 t10)), (11, (V.i .i64 t11))] H K = _
  rw [ev_block]
  delta g28_p3
  exact (g28_p2_eq a36 la36 t0 t3 t9 t10 t11 H (kBlock kp28 0 K))
noncomputable def g28_p4 (a36 : T36) (R : Type) (t0 : Sl) (t3 : Int) (H : Heap) (kN : Sl → Sl → Int → Int → Heap → Option R) : Option R :=
  a36 R (Sl.mk none 0 (.ex 0)) t3 H fun x5 h6 =>
  kN x5 t0 ((t0.len : Nat) : Int) (0 : Int) h6
theorem g28_p4_eq (a36 : T36) {R : Type} (c2 : Code) (t0 : Sl) (t3 : Int) (H : Heap) (K : Ex → Fr → Heap → Option R) : ev Tryd.prog (E28 a36) loopLim Tryd.f28.ntmps kp28 (.seq (codeAt [1, 1, 1, 0] b28) (.seq (codeAt [1, 1, 1, 1, 0, 0] b28) c2)) [(0, (V.sl t0)), (3, (V.i .i64 t3))] H K = g28_p4 a36 R t0 t3 H (fun t6 t25 t26 t27 H => ev Tryd.prog (E28 a36) loopLim Tryd.f28.ntmps kp28 c2 [(6, (V.sl t6)), (25, (V.sl t25)), (26, (V.i .i64 t26)), (27, (V.i .i64 t27))] H K) := by kernel_rfl
theorem g28_p4_lin {a36 : T36} (la36 : Lin36 a36) {R S : Type} {k : S → Option R} {t0 : Sl} {t3 : Int} {H : Heap} {fkN : Sl → Sl → Int → Int → Heap → Option R} {gkN : Sl → Sl → Int → Int → Heap → Option S} (hkN : ∀ t6 t25 t26 t27 H, fkN t6 t25 t26 t27 H = (gkN t6 t25 t26 t27 H).bind k) : g28_p4 a36 R t0 t3 H fkN = (g28_p4 a36 S t0 t3 H gkN).bind k := by
  delta g28_p4; exact (
    la36.l fun x5 h6 =>
    hkN _ _ _ _ _)
noncomputable def g28_p5 (a36 : T36) (R : Type) (t6 : Sl) (t25 : Sl) (t26 : Int) (t27 : Int) (H : Heap) (kN : Sl → Sl → Int → Int → Heap → Option R) (kE2 : Sl → Heap → Option R) : Option R :=
  sel (decide (t27 < t26)) (
    if 0 ≤ t27 ∧ t27 < ((t25.len : Nat) : Int) then (
      (t25.a).bind fun q7 =>
      ((H).ldSl q7.1 (q7.2 + Int.toNat t27 * 1)).bind fun x8 =>
      ((slCells H 1 x8)).bind fun vs11 =>
      appendV H 5 1 1 t6 x8.len vs11 fun s9 h10 =>
      kN s9 t25 t26 (IntKind.wrap .i64 (t27 + (1 : Int))) h10)
    else (
      none)) (
    kE2 t6 H)
theorem g28_p5_eq (a36 : T36) (la36 : Lin36 a36) {R : Type} (t6 : Sl) (t25 : Sl) (t26 : Int) (t27 : Int) (H : Heap) (K : Ex → Fr → Heap → Option R) : ev Tryd.prog (E28 a36) loopLim Tryd.f28.ntmps kp28 c28_3 [(6, (V.sl t6)), (25, (V.sl t25)), (26, (V.i .i64 t26)), (27, (V.i .i64 t27))] H K = g28_p5 a36 R t6 t25 t26 t27 H (fun t6 t25 t26 t27 H => K .normal [(6, (V.sl t6)), (25, (V.sl t25)), (26, (V.i .i64 t26)), (27, (V.i .i64 t27))] H) (fun t6 H => K (.exit 2) [(6, (V.sl t6))] H) := by kernel_rfl
theorem g28_p5_lin {a36 : T36} (la36 : Lin36 a36) {R S : Type} {k : S → Option R} {t6 : Sl} {t25 : Sl} {t26 : Int} {t27 : Int} {H : Heap} {fkN : Sl → Sl → Int → Int → Heap → Option R} {gkN : Sl → Sl → Int → Int → Heap → Option S} {fkE2 : Sl → Heap → Option R} {gkE2 : Sl → Heap → Option S} (hkN : ∀ t6 t25 t26 t27 H, fkN t6 t25 t26 t27 H = (gkN t6 t25 t26 t27 H).bind k) (hkE2 : ∀ t6 H, fkE2 t6 H = (gkE2 t6 H).bind k) : g28_p5 a36 R t6 t25 t26 t27 H fkN fkE2 = (g28_p5 a36 S t6 t25 t26 t27 H gkN gkE2).bind k := by
  delta g28_p5; exact (
    sl_lin (
      il (
        bl fun q7 =>
        bl fun x8 =>
        bl fun vs11 =>
        appendV_lin fun s9 h10 =>
        hkN _ _ _ _ _) (
        rfl)) (
      hkE2 _ _))
abbrev g28_p6_S := Sl × Sl × Int × Int
abbrev g28_p6_O := Sl
def g28_p6_es (s : g28_p6_S) : Fr := [(6, (V.sl s.1)), (25, (V.sl s.2.1)), (26, (V.i .i64 s.2.2.1)), (27, (V.i .i64 s.2.2.2))]
def g28_p6_er (r : g28_p6_O) : Ex × Fr := ((.exit 2), [(6, (V.sl r))])
noncomputable def g28_p6_b (a36 : T36) (s : g28_p6_S) (H : Heap) : Option (Rd g28_p6_S g28_p6_O × Heap) :=
  g28_p5 a36 _ s.1 s.2.1 s.2.2.1 s.2.2.2 H (fun t6 t25 t26 t27 H => some (.go (t6, t25, t26, t27), H)) (fun t6 H => some (.up t6, H))
noncomputable def g28_p6 (a36 : T36) (R : Type) (t6 : Sl) (t25 : Sl) (t26 : Int) (t27 : Int) (H : Heap) (kE2 : Sl → Heap → Option R) : Option R :=
  (tlim (g28_p6_b a36) (t6, t25, t26, t27) H).bind fun p => kE2 p.1 p.2
theorem g28_p6_lin {a36 : T36} (la36 : Lin36 a36) {R S : Type} {k : S → Option R} {t6 : Sl} {t25 : Sl} {t26 : Int} {t27 : Int} {H : Heap} {fkE2 : Sl → Heap → Option R} {gkE2 : Sl → Heap → Option S} (hkE2 : ∀ t6 H, fkE2 t6 H = (gkE2 t6 H).bind k) : g28_p6 a36 R t6 t25 t26 t27 H fkE2 = (g28_p6 a36 S t6 t25 t26 t27 H gkE2).bind k := by
  exact bl fun p => hkE2 _ _
theorem g28_p6_eq (a36 : T36) (la36 : Lin36 a36) {R : Type} (t6 : Sl) (t25 : Sl) (t26 : Int) (t27 : Int) (H : Heap) (K : Ex → Fr → Heap → Option R) : ev Tryd.prog (E28 a36) loopLim Tryd.f28.ntmps kp28 c28_4 [(6, (V.sl t6)), (25, (V.sl t25)), (26, (V.i .i64 t26)), (27, (V.i .i64 t27))] H K = g28_p6 a36 R t6 t25 t26 t27 H (fun t6 H => K (.exit 2) [(6, (V.sl t6))] H) := by
  show ev Tryd.prog (E28 a36) loopLim Tryd.f28.ntmps kp28 (.loop c28_3) [(6, (V.sl t6)), (25, (V.sl t25)), (26, (V.i .i64 t26)), (27, (V.i .i64 t27))] H K = _
  delta g28_p6
  refine (ev_tlim (b := g28_p6_b a36) (es := g28_p6_es) (er := g28_p6_er) (by intro r; exact nofun) (fun s H => ?_) (t6, t25, t26, t27) H K).trans (bc fun p => rfl)
  exact (g28_p5_eq a36 la36 s.1 s.2.1 s.2.2.1 s.2.2.2 H ret3).trans (g28_p5_lin la36 (fun _ _ _ _ _ => rfl) (fun _ _ => rfl))
noncomputable def g28_p7 (a36 : T36) (R : Type) (t6 : Sl) (t25 : Sl) (t26 : Int) (t27 : Int) (H : Heap) (kN : Sl → Heap → Option R) : Option R :=
  g28_p6 a36 R t6 t25 t26 t27 H (fun t6 H => kN t6 H)
theorem g28_p7_lin {a36 : T36} (la36 : Lin36 a36) {R S : Type} {k : S → Option R} {t6 : Sl} {t25 : Sl} {t26 : Int} {t27 : Int} {H : Heap} {fkN : Sl → Heap → Option R} {gkN : Sl → Heap → Option S} (hkN : ∀ t6 H, fkN t6 H = (gkN t6 H).bind k) : g28_p7 a36 R t6 t25 t26 t27 H fkN = (g28_p7 a36 S t6 t25 t26 t27 H gkN).bind k := by
  exact g28_p6_lin la36 (fun _ _ => hkN _ _)
theorem g28_p7_eq (a36 : T36) (la36 : Lin36 a36) {R : Type} (t6 : Sl) (t25 : Sl) (t26 : Int) (t27 : Int) (H : Heap) (K : Ex → Fr → Heap → Option R) : ev Tryd.prog (E28 a36) loopLim Tryd.f28.ntmps kp28 c28_5 [(6, (V.sl t6)), (25, (V.sl t25)), (26, (V.i .i64 t26)), (27, (V.i .i64 t27))] H K = g28_p7 a36 R t6 t25 t26 t27 H (fun t6 H => K .normal [(6, (V.sl t6))] H) := by
  show ev Tryd.prog (E28 a36) loopLim Tryd.f28.ntmps kp28 (.block 2 c28_4) [(6, (V.sl t6)), (25, (V.sl t25)), (26, (V.i .i64 t26)), (27, (V.i .i64 t27))] H K = _
  rw [ev_block]
  delta g28_p7
  exact (g28_p6_eq a36 la36 t6 t25 t26 t27 H (kBlock kp28 2 K))
noncomputable def g28_p8 (a36 : T36) (R : Type) (t6 : Sl) (H : Heap) (kR : Sl → Heap → Option R) : Option R :=
  kR t6 H
theorem g28_p8_eq (a36 : T36) (la36 : Lin36 a36) {R : Type} (t6 : Sl) (H : Heap) (K : Ex → Fr → Heap → Option R) : ev Tryd.prog (E28 a36) loopLim Tryd.f28.ntmps kp28 c28_6 [(6, (V.sl t6))] H K = g28_p8 a36 R t6 H (fun t2 H => K .ret [(2, (V.sl t2))] H) := by kernel_rfl
theorem g28_p8_lin {a36 : T36} (la36 : Lin36 a36) {R S : Type} {k : S → Option R} {t6 : Sl} {H : Heap} {fkR : Sl → Heap → Option R} {gkR : Sl → Heap → Option S} (hkR : ∀ t2 H, fkR t2 H = (gkR t2 H).bind k) : g28_p8 a36 R t6 H fkR = (g28_p8 a36 S t6 H gkR).bind k := by
  delta g28_p8; exact (
    hkR _ _)
noncomputable def g28_p9 (a36 : T36) (R : Type) (t6 : Sl) (t25 : Sl) (t26 : Int) (t27 : Int) (H : Heap) (kR : Sl → Heap → Option R) : Option R :=
  g28_p7 a36 R t6 t25 t26 t27 H (fun t6 H => g28_p8 a36 R t6 H (fun t2 H => kR t2 H))
theorem g28_p9_lin {a36 : T36} (la36 : Lin36 a36) {R S : Type} {k : S → Option R} {t6 : Sl} {t25 : Sl} {t26 : Int} {t27 : Int} {H : Heap} {fkR : Sl → Heap → Option R} {gkR : Sl → Heap → Option S} (hkR : ∀ t2 H, fkR t2 H = (gkR t2 H).bind k) : g28_p9 a36 R t6 t25 t26 t27 H fkR = (g28_p9 a36 S t6 t25 t26 t27 H gkR).bind k := by
  exact g28_p7_lin la36 (fun _ _ => g28_p8_lin la36 (fun _ _ => hkR _ _))
theorem g28_p9_eq (a36 : T36) (la36 : Lin36 a36) {R : Type} (t6 : Sl) (t25 : Sl) (t26 : Int) (t27 : Int) (H : Heap) (K : Ex → Fr → Heap → Option R) : ev Tryd.prog (E28 a36) loopLim Tryd.f28.ntmps kp28 c28_7 [(6, (V.sl t6)), (25, (V.sl t25)), (26, (V.i .i64 t26)), (27, (V.i .i64 t27))] H K = g28_p9 a36 R t6 t25 t26 t27 H (fun t2 H => K .ret [(2, (V.sl t2))] H) := by
  show ev Tryd.prog (E28 a36) loopLim Tryd.f28.ntmps kp28 (.seq c28_5 c28_6) [(6, (V.sl t6)), (25, (V.sl t25)), (26, (V.i .i64 t26)), (27, (V.i .i64 t27))] H K = _
  rw [ev_seq]
  delta g28_p9
  exact (g28_p7_eq a36 la36 t6 t25 t26 t27 H (kSeq (fun fr H => ev Tryd.prog (E28 a36) loopLim Tryd.f28.ntmps kp28 c28_6 fr H K) K)).trans (congrArg (g28_p7 a36 R t6 t25 t26 t27 H) (funext fun t6 => funext fun H => (kSeq_n _ _ _ _).trans (g28_p8_eq a36 la36 t6 H K)))
noncomputable def g28_p10 (a36 : T36) (R : Type) (t0 : Sl) (t3 : Int) (H : Heap) (kR : Sl → Heap → Option R) : Option R :=
  g28_p4 a36 R t0 t3 H (fun t6 t25 t26 t27 H => g28_p9 a36 R t6 t25 t26 t27 H (fun t2 H => kR t2 H))
theorem g28_p10_lin {a36 : T36} (la36 : Lin36 a36) {R S : Type} {k : S → Option R} {t0 : Sl} {t3 : Int} {H : Heap} {fkR : Sl → Heap → Option R} {gkR : Sl → Heap → Option S} (hkR : ∀ t2 H, fkR t2 H = (gkR t2 H).bind k) : g28_p10 a36 R t0 t3 H fkR = (g28_p10 a36 S t0 t3 H gkR).bind k := by
  exact g28_p4_lin la36 (fun _ _ _ _ _ => g28_p9_lin la36 (fun _ _ => hkR _ _))
theorem g28_p10_eq (a36 : T36) (la36 : Lin36 a36) {R : Type} (t0 : Sl) (t3 : Int) (H : Heap) (K : Ex → Fr → Heap → Option R) : ev Tryd.prog (E28 a36) loopLim Tryd.f28.ntmps kp28 c28_8 [(0, (V.sl t0)), (3, (V.i .i64 t3))] H K = g28_p10 a36 R t0 t3 H (fun t2 H => K .ret [(2, (V.sl t2))] H) := by
  show ev Tryd.prog (E28 a36) loopLim Tryd.f28.ntmps kp28 (.seq (codeAt [1, 1, 1, 0] b28) (.seq (codeAt [1, 1, 1, 1, 0, 0] b28) c28_7)) [(0, (V.sl t0)), (3, (V.i .i64 t3))] H K = _
  delta g28_p10
  exact (g28_p4_eq a36 _ t0 t3 H K).trans (congrArg (g28_p4 a36 R t0 t3 H) (funext fun t6 => funext fun t25 => funext fun t26 => funext fun t27 => funext fun H => g28_p9_eq a36 la36 t6 t25 t26 t27 H K))
noncomputable def g28_p11 (a36 : T36) (R : Type) (t0 : Sl) (t3 : Int) (t9 : Sl) (t10 : Int) (t11 : Int) (H : Heap) (kR : Sl → Heap → Option R) : Option R :=
  g28_p3 a36 R t0 t3 t9 t10 t11 H (fun t0 t3 H => g28_p10 a36 R t0 t3 H (fun t2 H => kR t2 H))
theorem g28_p11_lin {a36 : T36} (la36 : Lin36 a36) {R S : Type} {k : S → Option R} {t0 : Sl} {t3 : Int} {t9 : Sl} {t10 : Int} {t11 : Int} {H : Heap} {fkR : Sl → Heap → Option R} {gkR : Sl → Heap → Option S} (hkR : ∀ t2 H, fkR t2 H = (gkR t2 H).bind k) : g28_p11 a36 R t0 t3 t9 t10 t11 H fkR = (g28_p11 a36 S t0 t3 t9 t10 t11 H gkR).bind k := by
  exact g28_p3_lin la36 (fun _ _ _ => g28_p10_lin la36 (fun _ _ => hkR _ _))
theorem g28_p11_eq (a36 : T36) (la36 : Lin36 a36) {R : Type} (t0 : Sl) (t3 : Int) (t9 : Sl) (t10 : Int) (t11 : Int) (H : Heap) (K : Ex → Fr → Heap → Option R) : ev Tryd.prog (E28 a36) loopLim Tryd.f28.ntmps kp28 c28_9 [(0, (V.sl t0)), (3, (V.i .i64 t3)), (9, (V.sl t9)), (10, (V.i .i64 t10)), (11, (V.i .i64 t11))] H K = g28_p11 a36 R t0 t3 t9 t10 t11 H (fun t2 H => K .ret [(2, (V.sl t2))] H) := by
  show ev Tryd.prog (E28 a36) loopLim Tryd.f28.ntmps kp28 (.seq c28_2 c28_8) [(0, (V.sl t0)), (3, (V.i .i64 t3)), (9, (V.sl t9)), (10, (V.i .i64 t10)), (11, (V.i .i64 t11))] H K = _
  rw [ev_seq]
  delta g28_p11
  exact (g28_p3_eq a36 la36 t0 t3 t9 t10 t11 H (kSeq (fun fr H => ev Tryd.prog (E28 a36) loopLim Tryd.f28.ntmps kp28 c28_8 fr H K) K)).trans (congrArg (g28_p3 a36 R t0 t3 t9 t10 t11 H) (funext fun t0 => funext fun t3 => funext fun H => (kSeq_n _ _ _ _).trans (g28_p10_eq a36 la36 t0 t3 H K)))
noncomputable def g28_p12 (a36 : T36) (R : Type) (t0 : Sl) (H : Heap) (kR : Sl → Heap → Option R) : Option R :=
  g28_p0 a36 R t0 H (fun t0 t3 t9 t10 t11 H => g28_p11 a36 R t0 t3 t9 t10 t11 H (fun t2 H => kR t2 H))
theorem g28_p12_lin {a36 : T36} (la36 : Lin36 a36) {R S : Type} {k : S → Option R} {t0 : Sl} {H : Heap} {fkR : Sl → Heap → Option R} {gkR : Sl → Heap → Option S} (hkR : ∀ t2 H, fkR t2 H = (gkR t2 H).bind k) : g28_p12 a36 R t0 H fkR = (g28_p12 a36 S t0 H gkR).bind k := by
  exact g28_p0_lin la36 (fun _ _ _ _ _ _ => g28_p11_lin la36 (fun _ _ => hkR _ _))
theorem g28_p12_eq (a36 : T36) (la36 : Lin36 a36) {R : Type} (t0 : Sl) (H : Heap) (K : Ex → Fr → Heap → Option R) : ev Tryd.prog (E28 a36) loopLim Tryd.f28.ntmps kp28 c28_10 [(0, (V.sl t0))] H K = g28_p12 a36 R t0 H (fun t2 H => K .ret [(2, (V.sl t2))] H) := by
  show ev Tryd.prog (E28 a36) loopLim Tryd.f28.ntmps kp28 (.seq (codeAt [0] b28) (.seq (codeAt [1, 0] b28) (.seq (codeAt [1, 1, 0, 0] b28) c28_9))) [(0, (V.sl t0))] H K = _
  delta g28_p12
  exact (g28_p0_eq a36 _ t0 H K).trans (congrArg (g28_p0 a36 R t0 H) (funext fun t0 => funext fun t3 => funext fun t9 => funext fun t10 => funext fun t11 => funext fun H => g28_p11_eq a36 la36 t0 t3 t9 t10 t11 H K))
noncomputable def g28_r (a36 : T36) : T28 := fun R t0 H K =>
  g28_p12 a36 R t0 H (fun t2 H =>
    K t2 H)
theorem g28_r_lin {a36 : T36} (la36 : Lin36 a36) : Lin28 (g28_r a36) := by
  constructor
  intro R S k t0 H f g h
  exact g28_p12_lin la36 (fun t2 H =>
    h _ _)
theorem g28_fn (a36 : T36) (la36 : Lin36 a36) {R : Type} (t0 : Sl) (H : Heap) (K : V → Heap → Option R) : evFn Tryd.prog (E28 a36) loopLim Tryd.f28 kp28 [(V.sl t0)] H K = g28_r a36 R t0 H (fun r0 H => K (V.sl r0) H) := by
  have h0 : ∀ (t2 : Sl) (H : Heap), kFn Tryd.prog Tryd.f28.results.toList K .ret [(2, (V.sl t2))] H =
      K (V.sl t2) H := by intros; kernel_rfl
  have e0 := evFn_code2 (P := Tryd.prog) (c := c28_10) (E := (E28 a36)) (lr := loopLim) (kp := kp28) (fn := Tryd.f28) (args := [(V.sl t0)]) H K (by kernel_rfl) (Nat.le_of_ble_eq_true (by kernel_rfl)) (by kernel_rfl)
  have e1 : ev Tryd.prog (E28 a36) loopLim Tryd.f28.ntmps kp28 c28_10 (argFr 0 [(V.sl t0)]) H (kFn Tryd.prog Tryd.f28.results.toList K) = ev Tryd.prog (E28 a36) loopLim Tryd.f28.ntmps kp28 c28_10 [(0, (V.sl t0))] H (kFn Tryd.prog Tryd.f28.results.toList K) := by kernel_rfl
  refine (e0.trans e1).trans ?_
  delta g28_r
  exact (g28_p12_eq a36 la36 t0 H (kFn Tryd.prog Tryd.f28.results.toList K)).trans (congrArg (g28_p12 a36 R t0 H) (funext fun t2 => funext fun H => h0 t2 H))
theorem g28_ok {a36 : T36} (oa36 : FunOK Tryd.prog 36 (w36 a36)) (la36 : Lin36 a36) : FunOK Tryd.prog 28 (w28 (g28_r a36)) := by
  refine (runF_ok (E28_good oa36 la36) mixed lim_ok Tryd.func28 (by kernel_rfl) kp28).of_le fun R args H K r hk => ?_
  unfold w28 at hk
  split at hk
  · exact (g28_fn a36 la36 _ H K).trans hk
  · cases hk
def kp27 : Nat → Option (List Nat) := kpOf [(0, [0]), (1, [2]), (300000, [2])]
def E27 : FEnv := []
theorem E27_good : EnvGood Tryd.prog E27 := (EnvGood.nil _)
theorem E27_lin : EnvLin E27 := fun g F h => by cases h
noncomputable def b27 : Code := Tryd.f27.body.getD .skip
noncomputable def c27_0 : Code := (.seq (codeAt [0] b27) (.seq (codeAt [1, 0] b27) .ret))
noncomputable def g27_p0 (R : Type) (t0 : Sl) (H : Heap) (kR : Sl → Heap → Option R) : Option R :=
  slOf 1 t0 none (some ((t0.len : Nat) : Int)) (some ((t0.len : Nat) : Int)) fun s1 =>
  kR s1 H
theorem g27_p0_eq {R : Type} (t0 : Sl) (H : Heap) (K : Ex → Fr → Heap → Option R) : ev Tryd.prog E27 loopLim Tryd.f27.ntmps kp27 c27_0 [(0, (V.sl t0))] H K = g27_p0 R t0 H (fun t2 H => K .ret [(2, (V.sl t2))] H) := by kernel_rfl
theorem g27_p0_lin {R S : Type} {k : S → Option R} {t0 : Sl} {H : Heap} {fkR : Sl → Heap → Option R} {gkR : Sl → Heap → Option S} (hkR : ∀ t2 H, fkR t2 H = (gkR t2 H).bind k) : g27_p0 R t0 H fkR = (g27_p0 S t0 H gkR).bind k := by
  delta g27_p0; exact (
    slOf_lin fun s1 =>
    hkR _ _)
noncomputable def g27_r : T27 := fun R t0 H K =>
  g27_p0 R t0 H (fun t2 H =>
    K t2 H)
theorem g27_r_lin : Lin27 (g27_r) := by
  constructor
  intro R S k t0 H f g h
  exact g27_p0_lin (fun t2 H =>
    h _ _)
theorem g27_fn {R : Type} (t0 : Sl) (H : Heap) (K : V → Heap → Option R) : evFn Tryd.prog E27 loopLim Tryd.f27 kp27 [(V.sl t0)] H K = g27_r R t0 H (fun r0 H => K (V.sl r0) H) := by
  have h0 : ∀ (t2 : Sl) (H : Heap), kFn Tryd.prog Tryd.f27.results.toList K .ret [(2, (V.sl t2))] H =
      K (V.sl t2) H := by intros; kernel_rfl
  have e0 := evFn_code2 (P := Tryd.prog) (c := c27_0) (E := E27) (lr := loopLim) (kp := kp27) (fn := Tryd.f27) (args := [(V.sl t0)]) H K (by kernel_rfl) (Nat.le_of_ble_eq_true (by kernel_rfl)) (by kernel_rfl)
  have e1 : ev Tryd.prog E27 loopLim Tryd.f27.ntmps kp27 c27_0 (argFr 0 [(V.sl t0)]) H (kFn Tryd.prog Tryd.f27.results.toList K) = ev Tryd.prog E27 loopLim Tryd.f27.ntmps kp27 c27_0 [(0, (V.sl t0))] H (kFn Tryd.prog Tryd.f27.results.toList K) := by kernel_rfl
  refine (e0.trans e1).trans ?_
  delta g27_r
  exact (g27_p0_eq t0 H (kFn Tryd.prog Tryd.f27.results.toList K)).trans (congrArg (g27_p0 R t0 H) (funext fun t2 => funext fun H => h0 t2 H))
theorem g27_ok : FunOK Tryd.prog 27 (w27 (g27_r)) := by
  refine (runF_ok (E27_good) mixed lim_ok Tryd.func27 (by kernel_rfl) kp27).of_le fun R args H K r hk => ?_
  unfold w27 at hk
  split at hk
  · exact (g27_fn _ H K).trans hk
  · cases hk
end Go.Proofs.YteipplgcdbaokaaDoor

