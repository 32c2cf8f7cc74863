/- Printed: functions as the machine runs them. -/
import Derived.Test.YtnlfkllnmobppaaGT
namespace Go.Proofs.Ytnlfkllnmobppaa
open Go AM Go.RowKit
set_option linter.unusedVariables false
def kp15 : Nat → Option (List Nat) := kpOf [(0, [2, 3]), (1, [4]), (300000, [4])]
def E15 : FEnv := []
theorem E15_good : EnvGood Try.prog E15 := (EnvGood.nil _)
theorem E15_lin : EnvLin E15 := fun g F h => by cases h
noncomputable def b15 : Code := Try.f15.body.getD .skip
noncomputable def c15_0 : Code := (.seq (codeAt [0] b15) (.seq (codeAt [1, 0] b15) .ret))
noncomputable def g15_p0 (R : Type) (t0_0 : Int) (t0_1 : Int) (t0_2 : Int) (t0_3 : Int) (t0_4 : Int) (t0_5 : Int) (t0_6 : Int) (t0_7 : Sl) (t1_0 : Int) (t1_1 : Int) (t1_2 : Int) (t1_3 : Int) (t1_4 : Int) (t1_5 : Int) (t1_6 : Int) (t1_7 : Sl) (H : Heap) (kR : Bool → Heap → Option R) : Option R :=
  alo H (.cells [(V.i .u8 t0_0), (V.i .u32 t0_1), (V.i .u32 t0_2), (V.i .u8 t0_3), (V.i .u8 t0_4), (V.i .u8 t0_5), (V.i .u8 t0_6), (V.sl t0_7)] 26 false) fun i1 h2 =>
  alo h2 (.cells [(V.i .u8 t1_0), (V.i .u32 t1_1), (V.i .u32 t1_2), (V.i .u8 t1_3), (V.i .u8 t1_4), (V.i .u8 t1_5), (V.i .u8 t1_6), (V.sl t1_7)] 26 false) fun i3 h4 =>
  ((h4).ldI .u8 i1 (0 + 0)).bind fun x5 =>
  ((h4).ldI .u8 i3 (0 + 0)).bind fun x6 =>
  sel (x5 == x6) (
    ((h4).ldI .u32 i1 (0 + 1)).bind fun x7 =>
    ((h4).ldI .u32 i3 (0 + 1)).bind fun x8 =>
    sel (x7 == x8) (
      ((h4).ldI .u32 i1 (0 + 2)).bind fun x9 =>
      ((h4).ldI .u32 i3 (0 + 2)).bind fun x10 =>
      sel (x9 == x10) (
        ((h4).ldI .u8 i1 (0 + 3)).bind fun x11 =>
        ((h4).ldI .u8 i3 (0 + 3)).bind fun x12 =>
        sel (x11 == x12) (
          ((h4).ldI .u8 i1 (0 + 4)).bind fun x13 =>
          ((h4).ldI .u8 i3 (0 + 4)).bind fun x14 =>
          sel (x13 == x14) (
            ((h4).ldI .u8 i1 (0 + 5)).bind fun x15 =>
            ((h4).ldI .u8 i3 (0 + 5)).bind fun x16 =>
            sel (x15 == x16) (
              ((h4).ldI .u8 i1 (0 + 6)).bind fun x17 =>
              ((h4).ldI .u8 i3 (0 + 6)).bind fun x18 =>
              sel (x17 == x18) (
                ((h4).ldSl i1 (0 + 7)).bind fun x19 =>
                ((slBytes h4 x19)).bind fun x20 =>
                ((h4).ldSl i3 (0 + 7)).bind fun x21 =>
                ((slBytes h4 x21)).bind fun x22 =>
                kR (strEq x20 x22) h4) (
                kR false h4)) (
              kR false h4)) (
            kR false h4)) (
          kR false h4)) (
        kR false h4)) (
      kR false h4)) (
    kR false h4)
theorem g15_p0_eq {R : Type} (t0_0 : Int) (t0_1 : Int) (t0_2 : Int) (t0_3 : Int) (t0_4 : Int) (t0_5 : Int) (t0_6 : Int) (t0_7 : Sl) (t1_0 : Int) (t1_1 : Int) (t1_2 : Int) (t1_3 : Int) (t1_4 : Int) (t1_5 : Int) (t1_6 : Int) (t1_7 : Sl) (H : Heap) (K : Ex → Fr → Heap → Option R) : ev Try.prog E15 loopLim Try.f15.ntmps kp15 c15_0 [(0, (V.agg [(V.i .u8 t0_0), (V.i .u32 t0_1), (V.i .u32 t0_2), (V.i .u8 t0_3), (V.i .u8 t0_4), (V.i .u8 t0_5), (V.i .u8 t0_6), (V.sl t0_7)])), (1, (V.agg [(V.i .u8 t1_0), (V.i .u32 t1_1), (V.i .u32 t1_2), (V.i .u8 t1_3), (V.i .u8 t1_4), (V.i .u8 t1_5), (V.i .u8 t1_6), (V.sl t1_7)]))] H K = g15_p0 R t0_0 t0_1 t0_2 t0_3 t0_4 t0_5 t0_6 t0_7 t1_0 t1_1 t1_2 t1_3 t1_4 t1_5 t1_6 t1_7 H (fun t4 H => K .ret [(4, (V.b t4))] H) := by kernel_rfl
theorem g15_p0_lin {R S : Type} {k : S → Option R} {t0_0 : Int} {t0_1 : Int} {t0_2 : Int} {t0_3 : Int} {t0_4 : Int} {t0_5 : Int} {t0_6 : Int} {t0_7 : Sl} {t1_0 : Int} {t1_1 : Int} {t1_2 : Int} {t1_3 : Int} {t1_4 : Int} {t1_5 : Int} {t1_6 : Int} {t1_7 : Sl} {H : Heap} {fkR : Bool → Heap → Option R} {gkR : Bool → Heap → Option S} (hkR : ∀ t4 H, fkR t4 H = (gkR t4 H).bind k) : g15_p0 R t0_0 t0_1 t0_2 t0_3 t0_4 t0_5 t0_6 t0_7 t1_0 t1_1 t1_2 t1_3 t1_4 t1_5 t1_6 t1_7 H fkR = (g15_p0 S t0_0 t0_1 t0_2 t0_3 t0_4 t0_5 t0_6 t0_7 t1_0 t1_1 t1_2 t1_3 t1_4 t1_5 t1_6 t1_7 H gkR).bind k := by
  delta g15_p0; exact (
    alo_lin fun i1 h2 =>
    alo_lin fun i3 h4 =>
    bl fun x5 =>
    bl fun x6 =>
    sl_lin (
      bl fun x7 =>
      bl fun x8 =>
      sl_lin (
        bl fun x9 =>
        bl fun x10 =>
        sl_lin (
          bl fun x11 =>
          bl fun x12 =>
          sl_lin (
            bl fun x13 =>
            bl fun x14 =>
            sl_lin (
              bl fun x15 =>
              bl fun x16 =>
              sl_lin (
                bl fun x17 =>
                bl fun x18 =>
                sl_lin (
                  bl fun x19 =>
                  bl fun x20 =>
                  bl fun x21 =>
                  bl fun x22 =>
                  hkR _ _) (
                  hkR _ _)) (
                hkR _ _)) (
              hkR _ _)) (
            hkR _ _)) (
          hkR _ _)) (
        hkR _ _)) (
      hkR _ _))
noncomputable def g15_r : T15 := fun R t0_0 t0_1 t0_2 t0_3 t0_4 t0_5 t0_6 t0_7 t1_0 t1_1 t1_2 t1_3 t1_4 t1_5 t1_6 t1_7 H K =>
  g15_p0 R t0_0 t0_1 t0_2 t0_3 t0_4 t0_5 t0_6 t0_7 t1_0 t1_1 t1_2 t1_3 t1_4 t1_5 t1_6 t1_7 H (fun t4 H =>
    K t4 H)
theorem g15_r_lin : Lin15 (g15_r) := by
  constructor
  intro R S k t0_0 t0_1 t0_2 t0_3 t0_4 t0_5 t0_6 t0_7 t1_0 t1_1 t1_2 t1_3 t1_4 t1_5 t1_6 t1_7 H f g h
  exact g15_p0_lin (fun t4 H =>
    h _ _)
theorem g15_fn {R : Type} (t0_0 : Int) (t0_1 : Int) (t0_2 : Int) (t0_3 : Int) (t0_4 : Int) (t0_5 : Int) (t0_6 : Int) (t0_7 : Sl) (t1_0 : Int) (t1_1 : Int) (t1_2 : Int) (t1_3 : Int) (t1_4 : Int) (t1_5 : Int) (t1_6 : Int) (t1_7 : Sl) (H : Heap) (K : V → Heap → Option R) : evFn Try.prog E15 loopLim Try.f15 kp15 [(V.agg [(V.i .u8 t0_0), (V.i .u32 t0_1), (V.i .u32 t0_2), (V.i .u8 t0_3), (V.i .u8 t0_4), (V.i .u8 t0_5), (V.i .u8 t0_6), (V.sl t0_7)]), (V.agg [(V.i .u8 t1_0), (V.i .u32 t1_1), (V.i .u32 t1_2), (V.i .u8 t1_3), (V.i .u8 t1_4), (V.i .u8 t1_5), (V.i .u8 t1_6), (V.sl t1_7)])] H K = g15_r R t0_0 t0_1 t0_2 t0_3 t0_4 t0_5 t0_6 t0_7 t1_0 t1_1 t1_2 t1_3 t1_4 t1_5 t1_6 t1_7 H (fun r0 H => K (V.b r0) H) := by
  have h0 : ∀ (t4 : Bool) (H : Heap), kFn Try.prog Try.f15.results.toList K .ret [(4, (V.b t4))] H =
      K (V.b t4) H := by intros; kernel_rfl
  have e0 := evFn_code2 (P := Try.prog) (c := c15_0) (E := E15) (lr := loopLim) (kp := kp15) (fn := Try.f15) (args := [(V.agg [(V.i .u8 t0_0), (V.i .u32 t0_1), (V.i .u32 t0_2), (V.i .u8 t0_3), (V.i .u8 t0_4), (V.i .u8 t0_5), (V.i .u8 t0_6), (V.sl t0_7)]), (V.agg [(V.i .u8 t1_0), (V.i .u32 t1_1), (V.i .u32 t1_2), (V.i .u8 t1_3), (V.i .u8 t1_4), (V.i .u8 t1_5), (V.i .u8 t1_6), (V.sl t1_7)])]) H K (by kernel_rfl) (Nat.le_of_ble_eq_true (by kernel_rfl)) (by kernel_rfl)
  have e1 : ev Try.prog E15 loopLim Try.f15.ntmps kp15 c15_0 (argFr 0 [(V.agg [(V.i .u8 t0_0), (V.i .u32 t0_1), (V.i .u32 t0_2), (V.i .u8 t0_3), (V.i .u8 t0_4), (V.i .u8 t0_5), (V.i .u8 t0_6), (V.sl t0_7)]), (V.agg [(V.i .u8 t1_0), (V.i .u32 t1_1), (V.i .u32 t1_2), (V.i .u8 t1_3), (V.i .u8 t1_4), (V.i .u8 t1_5), (V.i .u8 t1_6), (V.sl t1_7)])]) H (kFn Try.prog Try.f15.results.toList K) = ev Try.prog E15 loopLim Try.f15.ntmps kp15 c15_0 [(0, (V.agg [(V.i .u8 t0_0), (V.i .u32 t0_1), (V.i .u32 t0_2), (V.i .u8 t0_3), (V.i .u8 t0_4), (V.i .u8 t0_5), (V.i .u8 t0_6), (V.sl t0_7)])), (1, (V.agg [(V.i .u8 t1_0), (V.i .u32 t1_1), (V.i .u32 t1_2), (V.i .u8 t1_3), (V.i .u8 t1_4), (V.i .u8 t1_5), (V.i .u8 t1_6), (V.sl t1_7)]))] H (kFn Try.prog Try.f15.results.toList K) := by kernel_rfl
  refine (e0.trans e1).trans ?_
  delta g15_r
  exact (g15_p0_eq t0_0 t0_1 t0_2 t0_3 t0_4 t0_5 t0_6 t0_7 t1_0 t1_1 t1_2 t1_3 t1_4 t1_5 t1_6 t1_7 H (kFn Try.prog Try.f15.results.toList K)).trans (congrArg (g15_p0 R t0_0 t0_1 t0_2 t0_3 t0_4 t0_5 t0_6 t0_7 t1_0 t1_1 t1_2 t1_3 t1_4 t1_5 t1_6 t1_7 H) (funext fun t4 => funext fun H => h0 t4 H))
theorem g15_ok : FunOK Try.prog 15 (w15 (g15_r)) := by
  refine (runF_ok (E15_good) mixed lim_ok Try.func15 (by kernel_rfl) kp15).of_le fun R args H K r hk => ?_
  unfold w15 at hk
  split at hk
  · exact (g15_fn _ _ _ _ _ _ _ _ _ _ _ _ _ _ _ _ H K).trans hk
  · cases hk
end Go.Proofs.Ytnlfkllnmobppaa

