/- Printed: functions as the machine runs them. -/
import Derived.Test.YtnlfkllnmobppaaGN3
namespace Go.Proofs.Ytnlfkllnmobppaa
open Go AM Go.RowKit
set_option linter.unusedVariables false
def kp27 : Nat → Option (List Nat) := kpOf [(0, [0, 1]), (1, [0, 5, 6]), (2, [0, 5, 6, 15]), (3, [4]), (4, [0, 5]), (5, []), (6, [4]), (300000, [4]), (400015, [0, 5])]
noncomputable def E27 : FEnv := [(50, w50 g50), (51, w51 g51), (39, w39 g39)]
theorem E27_good : EnvGood Try.prog (E27) := ((((EnvGood.nil _).cons ok39 (w39_lin g39_lin)).cons ok51 (w51_lin g51_lin)).cons ok50 (w50_lin g50_lin))
theorem E27_lin : EnvLin (E27) := by
  intro g F h
  simp only [E27, List.mem_cons, List.not_mem_nil, or_false] at h
  rcases h with h | h | h
  · cases h; exact w50_lin g50_lin
  · cases h; exact w51_lin g51_lin
  · cases h; exact w39_lin g39_lin
def lv27 : Nat → Bool := lvOf []
noncomputable def b27 : Code := Try.f27.body.getD .skip
noncomputable def c27_0 : Code := (.seq (codeAt [0] b27) (.seq (codeAt [1, 0] b27) (.seq (codeAt [1, 1, 0, 0] b27) (.seq (.cond (.tmp 15) (.seq (codeAt [1, 1, 0, 1, 0, 0] b27) .ret) .skip) (.seq (codeAt [1, 1, 1, 0] b27) (.seq (codeAt [1, 1, 1, 1, 0] b27) (.seq (codeAt [1, 1, 1, 1, 1, 0] b27) .ret)))))))
noncomputable def g27_p0 (R : Type) (t0 : Option (Nat × Nat)) (t1 : Int) (H : Heap) (kR : Int → Heap → Option R) : Option R :=
  alo H (.cells [(V.i .u8 (2 : Int))] 96 false) fun i1 h2 =>
  g50 R t0 t1 (Sl.mk (some (i1, 0)) 1 (.ex 1)) h2 fun x3 x4 h5 =>
  sel (x4 != (0 : Int)) (
    kR x4 h5) (
    g51 R x3 (3 : Int) h5 fun h6 =>
    g39 R t0 x3 (2 : Int) (0 : Int) (0 : Int) (0 : Int) (0 : Int) (0 : Int) (0 : Int) (Sl.mk none 0 (.ex 0)) h6 fun h7 =>
    kR (0 : Int) h7)
theorem g27_p0_eq {R : Type} (t0 : Option (Nat × Nat)) (t1 : Int) (H : Heap) (K : Ex → Fr → Heap → Option R) : ev2 Try.prog (E27) loopLim lv27 Try.f27.ntmps kp27 c27_0 [(0, (V.p t0)), (1, (V.i .u32 t1))] H K = g27_p0 R t0 t1 H (fun t4 H => K .ret [(4, (V.i .i64 t4))] H) := by kernel_rfl
theorem g27_p0_lin {R S : Type} {k : S → Option R} {t0 : Option (Nat × Nat)} {t1 : Int} {H : Heap} {fkR : Int → Heap → Option R} {gkR : Int → Heap → Option S} (hkR : ∀ t4 H, fkR t4 H = (gkR t4 H).bind k) : g27_p0 R t0 t1 H fkR = (g27_p0 S t0 t1 H gkR).bind k := by
  delta g27_p0; exact (
    alo_lin fun i1 h2 =>
    g50_lin.l fun x3 x4 h5 =>
    sl_lin (
      hkR _ _) (
      g51_lin.l fun h6 =>
      g39_lin.l fun h7 =>
      hkR _ _))
noncomputable def g27_r : T27 := fun R t0 t1 H K =>
  g27_p0 R t0 t1 H (fun t4 H =>
    K t4 H)
theorem g27_r_lin : Lin27 (g27_r) := by
  constructor
  intro R S k t0 t1 H f g h
  exact g27_p0_lin (fun t4 H =>
    h _ _)
theorem g27_fn {R : Type} (t0 : Option (Nat × Nat)) (t1 : Int) (H : Heap) (K : V → Heap → Option R) : evFn2 Try.prog (E27) loopLim lv27 Try.f27 kp27 [(V.p t0), (V.i .u32 t1)] H K = g27_r R t0 t1 H (fun r0 H => K (V.i .i64 r0) H) := by
  have h0 : ∀ (t4 : Int) (H : Heap), kFn2 Try.prog Try.f27.results.toList K .ret [(4, (V.i .i64 t4))] H =
      K (V.i .i64 t4) H := by intros; kernel_rfl
  have e0 := evFn2_code2 (P := Try.prog) (c := c27_0) (E := (E27)) (lr := loopLim) (lv := lv27) (kp := kp27) (fn := Try.f27) (args := [(V.p t0), (V.i .u32 t1)]) H K (by kernel_rfl) (Nat.le_of_ble_eq_true (by kernel_rfl)) (by kernel_rfl) (by kernel_rfl)
  have e1 : ev2 Try.prog (E27) loopLim lv27 Try.f27.ntmps kp27 c27_0 (argFr 0 [(V.p t0), (V.i .u32 t1)]) H (kFn2 Try.prog Try.f27.results.toList K) = ev2 Try.prog (E27) loopLim lv27 Try.f27.ntmps kp27 c27_0 [(0, (V.p t0)), (1, (V.i .u32 t1))] H (kFn2 Try.prog Try.f27.results.toList K) := by kernel_rfl
  refine (e0.trans e1).trans ?_
  delta g27_r
  exact (g27_p0_eq t0 t1 H (kFn2 Try.prog Try.f27.results.toList K)).trans (congrArg (g27_p0 R t0 t1 H) (funext fun t4 => funext fun H => h0 t4 H))
theorem g27_ok : FunOK Try.prog 27 (w27 (g27_r)) := by
  refine (runF2_ok (E27_good) mixed lim_ok Try.func27 (by kernel_rfl) lv27 kp27).of_le fun R args H K r hk => ?_
  unfold w27 at hk
  split at hk
  · exact (g27_fn _ _ H K).trans hk
  · cases hk
noncomputable def g27 : T27 := g27_r
theorem g27_lin : Lin27 g27 := g27_r_lin
theorem ok27 : FunOK Try.prog 27 (w27 g27) := g27_ok
end Go.Proofs.Ytnlfkllnmobppaa

