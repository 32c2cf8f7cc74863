/- Printed: functions as the machine runs them. -/
import Derived.Test.YtkldpkemnmmbgaaGT
namespace Go.Proofs.Ytkldpkemnmmbgaa
open Go AM Go.RowKit
set_option linter.unusedVariables false
def kp22 : Nat → Option (List Nat) := kpOf [(0, [0]), (1, [3, 4]), (2, [3, 4, 15]), (3, [2]), (4, [3, 17]), (5, [2]), (6, [2]), (300000, [2]), (400015, [3, 4]), (400017, [3])]
def E22 (a30 : T30) : FEnv := [(30, w30 a30)]
theorem E22_good {a30 : T30} (oa30 : FunOK Try.prog 30 (w30 a30)) (la30 : Lin30 a30) : EnvGood Try.prog (E22 a30) := ((EnvGood.nil _).cons oa30 (w30_lin la30))
theorem E22_lin {a30 : T30} (la30 : Lin30 a30) : EnvLin (E22 a30) := by
  intro g F h
  simp only [E22, List.mem_cons, List.not_mem_nil, or_false] at h
  rcases h with h
  · cases h; exact w30_lin la30
noncomputable def b22 : Code := Try.f22.body.getD .skip
noncomputable def c22_0 : Code := (.seq (codeAt [0] b22) (.seq (codeAt [1, 0] b22) (.seq (codeAt [1, 1, 0, 0] b22) (.seq (.cond (.tmp 15) (.seq (codeAt [1, 1, 0, 1, 0, 0] b22) .ret) .skip) (.seq (codeAt [1, 1, 1, 0, 0] b22) (.seq (.cond (.tmp 17) (.seq (codeAt [1, 1, 1, 0, 1, 0, 0] b22) .ret) .skip) (.seq (codeAt [1, 1, 1, 1, 0] b22) .ret)))))))
noncomputable def g22_p0 (a30 : T30) (R : Type) (t0 : Option (Nat × Nat)) (H : Heap) (kR : Int → Heap → Option R) : Option R :=
  a30 R t0 H fun x1 x2 h3 =>
  sel (!x2) (
    sel (x1 == (0 : Int)) (
      kR (9 : Int) h3) (
      sel (!x2) (
        kR (10 : Int) h3) (
        kR x1 h3))) (
    sel (!x2) (
      kR (10 : Int) h3) (
      kR x1 h3))
theorem g22_p0_eq (a30 : T30) (la30 : Lin30 a30) {R : Type} (t0 : Option (Nat × Nat)) (H : Heap) (K : Ex → Fr → Heap → Option R) : ev Try.prog (E22 a30) loopLim Try.f22.ntmps kp22 c22_0 [(0, (V.p t0))] H K = g22_p0 a30 R t0 H (fun t2 H => K .ret [(2, (V.i .u8 t2))] H) := by kernel_rfl
theorem g22_p0_lin {a30 : T30} (la30 : Lin30 a30) {R S : Type} {k : S → Option R} {t0 : Option (Nat × Nat)} {H : Heap} {fkR : Int → Heap → Option R} {gkR : Int → Heap → Option S} (hkR : ∀ t2 H, fkR t2 H = (gkR t2 H).bind k) : g22_p0 a30 R t0 H fkR = (g22_p0 a30 S t0 H gkR).bind k := by
  delta g22_p0; exact (
    la30.l fun x1 x2 h3 =>
    sl_lin (
      sl_lin (
        hkR _ _) (
        sl_lin (
          hkR _ _) (
          hkR _ _))) (
      sl_lin (
        hkR _ _) (
        hkR _ _)))
noncomputable def g22_r (a30 : T30) : T22 := fun R t0 H K =>
  g22_p0 a30 R t0 H (fun t2 H =>
    K t2 H)
theorem g22_r_lin {a30 : T30} (la30 : Lin30 a30) : Lin22 (g22_r a30) := by
  constructor
  intro R S k t0 H f g h
  exact g22_p0_lin la30 (fun t2 H =>
    h _ _)
theorem g22_fn (a30 : T30) (la30 : Lin30 a30) {R : Type} (t0 : Option (Nat × Nat)) (H : Heap) (K : V → Heap → Option R) : evFn Try.prog (E22 a30) loopLim Try.f22 kp22 [(V.p t0)] H K = g22_r a30 R t0 H (fun r0 H => K (V.i .u8 r0) H) := by
  have h0 : ∀ (t2 : Int) (H : Heap), kFn Try.prog Try.f22.results.toList K .ret [(2, (V.i .u8 t2))] H =
      K (V.i .u8 t2) H := by intros; kernel_rfl
  have e0 := evFn_code2 (P := Try.prog) (c := c22_0) (E := (E22 a30)) (lr := loopLim) (kp := kp22) (fn := Try.f22) (args := [(V.p t0)]) H K (by kernel_rfl) (Nat.le_of_ble_eq_true (by kernel_rfl)) (by kernel_rfl)
  have e1 : ev Try.prog (E22 a30) loopLim Try.f22.ntmps kp22 c22_0 (argFr 0 [(V.p t0)]) H (kFn Try.prog Try.f22.results.toList K) = ev Try.prog (E22 a30) loopLim Try.f22.ntmps kp22 c22_0 [(0, (V.p t0))] H (kFn Try.prog Try.f22.results.toList K) := by kernel_rfl
  refine (e0.trans e1).trans ?_
  delta g22_r
  exact (g22_p0_eq a30 la30 t0 H (kFn Try.prog Try.f22.results.toList K)).trans (congrArg (g22_p0 a30 R t0 H) (funext fun t2 => funext fun H => h0 t2 H))
theorem g22_ok {a30 : T30} (oa30 : FunOK Try.prog 30 (w30 a30)) (la30 : Lin30 a30) : FunOK Try.prog 22 (w22 (g22_r a30)) := by
  refine (runF_ok (E22_good oa30 la30) mixed lim_ok Try.func22 (by kernel_rfl) kp22).of_le fun R args H K r hk => ?_
  unfold w22 at hk
  split at hk
  · exact (g22_fn a30 la30 _ H K).trans hk
  · cases hk
def kp23 : Nat → Option (List Nat) := kpOf [(0, [0]), (1, [0, 6]), (2, [0, 6, 7]), (3, [2]), (4, [0, 6, 9]), (5, [0, 6, 9]), (6, [15]), (7, [2]), (8, [2]), (9, [16]), (10, [2]), (11, [2]), (100000, []), (200000, [0, 6]), (300000, [2]), (400007, []), (400009, [0, 6, 9]), (400015, []), (400016, [])]
def E23 : FEnv := []
theorem E23_good : EnvGood Try.prog E23 := (EnvGood.nil _)
theorem E23_lin : EnvLin E23 := fun g F h => by cases h
noncomputable def b23 : Code := Try.f23.body.getD .skip
noncomputable def c23_0 : Code := (.seq (codeAt [0] b23) (.seq (codeAt [1, 0, 0] b23) (.seq (.block 0 (.seq (codeAt [1, 0, 1, 0, 0] b23) (.cond (.tmp 7) (.seq (codeAt [1, 0, 1, 0, 1, 0, 0] b23) .ret) (.seq (codeAt [1, 0, 1, 0, 1, 1, 0, 0] b23) (.seq (.cond (.tmp 9) .skip (codeAt [1, 0, 1, 0, 1, 1, 0, 1, 1] b23)) (.cond (.tmp 9) (.seq (codeAt [1, 0, 1, 0, 1, 1, 1, 0, 0, 0] b23) (.seq (.cond (.tmp 15) (.seq (codeAt [1, 0, 1, 0, 1, 1, 1, 0, 0, 1, 0, 0] b23) .ret) .skip) (.seq (codeAt [1, 0, 1, 0, 1, 1, 1, 0, 1, 0] b23) .ret))) (.seq (codeAt [1, 0, 1, 0, 1, 1, 1, 1, 0] b23) (.cond (.tmp 16) (.seq (codeAt [1, 0, 1, 0, 1, 1, 1, 1, 1, 0, 0] b23) .ret) .skip)))))))) (.seq (codeAt [1, 1, 0] b23) .ret))))
noncomputable def g23_p0 (R : Type) (t0 : Option (Nat × Nat)) (H : Heap) (kR : Int → Heap → Option R) : Option R :=
  (t0).bind fun q1 =>
  ((H).ldI .u8 q1.1 (q1.2 + 7)).bind fun x2 =>
  sel (x2 == (1 : Int)) (
    kR (0 : Int) H) (
    sel (x2 == (2 : Int)) (
      sel (x2 == (2 : Int)) (
        (t0).bind fun q3 =>
        ((H).ldB q3.1 (q3.2 + 9)).bind fun x4 =>
        sel x4 (
          kR (2 : Int) H) (
          kR (1 : Int) H)) (
        sel (x2 == (5 : Int)) (
          kR (3 : Int) H) (
          kR (9 : Int) H))) (
      sel (x2 == (3 : Int)) (
        (t0).bind fun q5 =>
        ((H).ldB q5.1 (q5.2 + 9)).bind fun x6 =>
        sel x6 (
          kR (2 : Int) H) (
          kR (1 : Int) H)) (
        sel (x2 == (5 : Int)) (
          kR (3 : Int) H) (
          kR (9 : Int) H))))
theorem g23_p0_eq {R : Type} (t0 : Option (Nat × Nat)) (H : Heap) (K : Ex → Fr → Heap → Option R) : ev Try.prog E23 loopLim Try.f23.ntmps kp23 c23_0 [(0, (V.p t0))] H K = g23_p0 R t0 H (fun t2 H => K .ret [(2, (V.i .u8 t2))] H) := by kernel_rfl
theorem g23_p0_lin {R S : Type} {k : S → Option R} {t0 : Option (Nat × Nat)} {H : Heap} {fkR : Int → Heap → Option R} {gkR : Int → Heap → Option S} (hkR : ∀ t2 H, fkR t2 H = (gkR t2 H).bind k) : g23_p0 R t0 H fkR = (g23_p0 S t0 H gkR).bind k := by
  delta g23_p0; exact (
    bl fun q1 =>
    bl fun x2 =>
    sl_lin (
      hkR _ _) (
      sl_lin (
        sl_lin (
          bl fun q3 =>
          bl fun x4 =>
          sl_lin (
            hkR _ _) (
            hkR _ _)) (
          sl_lin (
            hkR _ _) (
            hkR _ _))) (
        sl_lin (
          bl fun q5 =>
          bl fun x6 =>
          sl_lin (
            hkR _ _) (
            hkR _ _)) (
          sl_lin (
            hkR _ _) (
            hkR _ _)))))
noncomputable def g23_r : T23 := fun R t0 H K =>
  g23_p0 R t0 H (fun t2 H =>
    K t2 H)
theorem g23_r_lin : Lin23 (g23_r) := by
  constructor
  intro R S k t0 H f g h
  exact g23_p0_lin (fun t2 H =>
    h _ _)
theorem g23_fn {R : Type} (t0 : Option (Nat × Nat)) (H : Heap) (K : V → Heap → Option R) : evFn Try.prog E23 loopLim Try.f23 kp23 [(V.p t0)] H K = g23_r R t0 H (fun r0 H => K (V.i .u8 r0) H) := by
  have h0 : ∀ (t2 : Int) (H : Heap), kFn Try.prog Try.f23.results.toList K .ret [(2, (V.i .u8 t2))] H =
      K (V.i .u8 t2) H := by intros; kernel_rfl
  have e0 := evFn_code2 (P := Try.prog) (c := c23_0) (E := E23) (lr := loopLim) (kp := kp23) (fn := Try.f23) (args := [(V.p t0)]) H K (by kernel_rfl) (Nat.le_of_ble_eq_true (by kernel_rfl)) (by kernel_rfl)
  have e1 : ev Try.prog E23 loopLim Try.f23.ntmps kp23 c23_0 (argFr 0 [(V.p t0)]) H (kFn Try.prog Try.f23.results.toList K) = ev Try.prog E23 loopLim Try.f23.ntmps kp23 c23_0 [(0, (V.p t0))] H (kFn Try.prog Try.f23.results.toList K) := by kernel_rfl
  refine (e0.trans e1).trans ?_
  delta g23_r
  exact (g23_p0_eq t0 H (kFn Try.prog Try.f23.results.toList K)).trans (congrArg (g23_p0 R t0 H) (funext fun t2 => funext fun H => h0 t2 H))
theorem g23_ok : FunOK Try.prog 23 (w23 (g23_r)) := by
  refine (runF_ok (E23_good) mixed lim_ok Try.func23 (by kernel_rfl) kp23).of_le fun R args H K r hk => ?_
  unfold w23 at hk
  split at hk
  · exact (g23_fn _ H K).trans hk
  · cases hk
end Go.Proofs.Ytkldpkemnmmbgaa

