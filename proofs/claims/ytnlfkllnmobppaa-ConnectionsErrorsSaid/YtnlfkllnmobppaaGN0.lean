/- Printed: functions as the machine runs them. -/
import Derived.Test.YtnlfkllnmobppaaGT
import Derived.Test.YtnlfkllnmobppaaGM
namespace Go.Proofs.Ytnlfkllnmobppaa
open Go AM Go.RowKit
set_option linter.unusedVariables false
def kp31 : Nat → Option (List Nat) := kpOf [(0, [1, 500001, 1000001]), (1, [1, 4, 500001, 1000001]), (2, [2, 3]), (3, [1, 15, 500001, 1000001]), (4, [2, 3]), (5, [2, 3]), (100000, [1, 500001, 1000001]), (200000, [1, 500001, 1000001]), (300000, [2, 3]), (400004, [1, 500001, 1000001]), (400015, [1, 500001, 1000001])]
def E31 : FEnv := []
theorem E31_good : EnvGood Try.prog E31 := (EnvGood.nil _)
theorem E31_lin : EnvLin E31 := fun g F h => by cases h
def lv31 : Nat → Bool := lvOf [1]
noncomputable def b31 : Code := Try.f31.body.getD .skip
noncomputable def c31_0 : Code := (.seq (codeAt [0] b31) (.seq (.block 0 (.seq (codeAt [1, 0, 0, 0] b31) (.cond (.tmp 4) (.seq (codeAt [1, 0, 0, 1, 0, 0] b31) .ret) (.seq (codeAt [1, 0, 0, 1, 1, 0] b31) (.cond (.tmp 15) (.seq (codeAt [1, 0, 0, 1, 1, 1, 0, 0] b31) .ret) .skip))))) (.seq (codeAt [1, 1, 0] b31) .ret)))
noncomputable def g31_p0 (R : Type) (t0_0 : Int) (t0_1 : Int) (t0_2 : Int) (t0_3 : Int) (H : Heap) (kR : Option (Nat × Nat) → Int → Heap → Option R) : Option R :=
  sel (decide ((if t0_3 < (if t0_2 < (if t0_1 < t0_0 then t0_1 else t0_0) then t0_2 else (if t0_1 < t0_0 then t0_1 else t0_0)) then t0_3 else (if t0_2 < (if t0_1 < t0_0 then t0_1 else t0_0) then t0_2 else (if t0_1 < t0_0 then t0_1 else t0_0))) < (1 : Int))) (
    kR none (1 : Int) H) (
    sel (decide (t0_0 > (63 : Int))) (
      kR none (3 : Int) H) (
      sel (decide ((if t0_3 > (if t0_2 > t0_1 then t0_2 else t0_1) then t0_3 else (if t0_2 > t0_1 then t0_2 else t0_1)) > (1048576 : Int))) (
        kR none (3 : Int) H) (
        alo H (.map [] 0) fun i1 h2 =>
        alo h2 (.map [] 0) fun i3 h4 =>
        alo h4 (.cells [(V.i .i64 t0_0), (V.i .i64 t0_1), (V.i .i64 t0_2), (V.i .i64 t0_3), (V.i .u32 (0 : Int)), (V.m (some i1)), (V.m (some i3)), (V.sl (Sl.mk none 0 (.ex 0))), (V.sl (Sl.mk none 0 (.ex 0)))] 90 false) fun i5 h6 =>
        kR (some (i5, 0)) (0 : Int) h6)))
theorem g31_p0_eq {R : Type} (t0_0 : Int) (t0_1 : Int) (t0_2 : Int) (t0_3 : Int) (H : Heap) (K : Ex → Fr → Heap → Option R) : ev2 Try.prog E31 loopLim lv31 Try.f31.ntmps kp31 c31_0 [(0, (V.agg [(V.i .i64 t0_0), (V.i .i64 t0_1), (V.i .i64 t0_2), (V.i .i64 t0_3)]))] H K = g31_p0 R t0_0 t0_1 t0_2 t0_3 H (fun t2 t3 H => K .ret [(2, (V.p t2)), (3, (V.i .i64 t3))] H) := by kernel_rfl
theorem g31_p0_lin {R S : Type} {k : S → Option R} {t0_0 : Int} {t0_1 : Int} {t0_2 : Int} {t0_3 : Int} {H : Heap} {fkR : Option (Nat × Nat) → Int → Heap → Option R} {gkR : Option (Nat × Nat) → Int → Heap → Option S} (hkR : ∀ t2 t3 H, fkR t2 t3 H = (gkR t2 t3 H).bind k) : g31_p0 R t0_0 t0_1 t0_2 t0_3 H fkR = (g31_p0 S t0_0 t0_1 t0_2 t0_3 H gkR).bind k := by
  delta g31_p0; exact (
    sl_lin (
      hkR _ _ _) (
      sl_lin (
        hkR _ _ _) (
        sl_lin (
          hkR _ _ _) (
          alo_lin fun i1 h2 =>
          alo_lin fun i3 h4 =>
          alo_lin fun i5 h6 =>
          hkR _ _ _))))
noncomputable def g31_r : T31 := fun R t0_0 t0_1 t0_2 t0_3 H K =>
  g31_p0 R t0_0 t0_1 t0_2 t0_3 H (fun t2 t3 H =>
    K t2 t3 H)
theorem g31_r_lin : Lin31 (g31_r) := by
  constructor
  intro R S k t0_0 t0_1 t0_2 t0_3 H f g h
  exact g31_p0_lin (fun t2 t3 H =>
    h _ _ _)
theorem g31_fn {R : Type} (t0_0 : Int) (t0_1 : Int) (t0_2 : Int) (t0_3 : Int) (H : Heap) (K : V → Heap → Option R) : evFn2 Try.prog E31 loopLim lv31 Try.f31 kp31 [(V.agg [(V.i .i64 t0_0), (V.i .i64 t0_1), (V.i .i64 t0_2), (V.i .i64 t0_3)])] H K = g31_r R t0_0 t0_1 t0_2 t0_3 H (fun r0 r1 H => K (V.tup [(V.p r0), (V.i .i64 r1)]) H) := by
  have h0 : ∀ (t2 : Option (Nat × Nat)) (t3 : Int) (H : Heap), kFn2 Try.prog Try.f31.results.toList K .ret [(2, (V.p t2)), (3, (V.i .i64 t3))] H =
      K (V.tup [(V.p t2), (V.i .i64 t3)]) H := by intros; kernel_rfl
  have e0 := evFn2_code2 (P := Try.prog) (c := c31_0) (E := E31) (lr := loopLim) (lv := lv31) (kp := kp31) (fn := Try.f31) (args := [(V.agg [(V.i .i64 t0_0), (V.i .i64 t0_1), (V.i .i64 t0_2), (V.i .i64 t0_3)])]) H K (by kernel_rfl) (Nat.le_of_ble_eq_true (by kernel_rfl)) (by kernel_rfl) (by kernel_rfl)
  have e1 : ev2 Try.prog E31 loopLim lv31 Try.f31.ntmps kp31 c31_0 (argFr 0 [(V.agg [(V.i .i64 t0_0), (V.i .i64 t0_1), (V.i .i64 t0_2), (V.i .i64 t0_3)])]) H (kFn2 Try.prog Try.f31.results.toList K) = ev2 Try.prog E31 loopLim lv31 Try.f31.ntmps kp31 c31_0 [(0, (V.agg [(V.i .i64 t0_0), (V.i .i64 t0_1), (V.i .i64 t0_2), (V.i .i64 t0_3)]))] H (kFn2 Try.prog Try.f31.results.toList K) := by kernel_rfl
  refine (e0.trans e1).trans ?_
  delta g31_r
  exact (g31_p0_eq t0_0 t0_1 t0_2 t0_3 H (kFn2 Try.prog Try.f31.results.toList K)).trans (congrArg (g31_p0 R t0_0 t0_1 t0_2 t0_3 H) (funext fun t2 => funext fun t3 => funext fun H => h0 t2 t3 H))
theorem g31_ok : FunOK Try.prog 31 (w31 (g31_r)) := by
  refine (runF2_ok (E31_good) mixed lim_ok Try.func31 (by kernel_rfl) lv31 kp31).of_le fun R args H K r hk => ?_
  unfold w31 at hk
  split at hk
  · exact (g31_fn _ _ _ _ H K).trans hk
  · cases hk
noncomputable def g31 : T31 := g31_r
theorem g31_lin : Lin31 g31 := g31_r_lin
theorem ok31 : FunOK Try.prog 31 (w31 g31) := g31_ok
def kp17 : Nat → Option (List Nat) := kpOf [(0, [1, 2, 500001, 500002, 1000001, 1000002]), (1, [1, 2, 4, 5, 500001, 500002, 1000001, 1000002]), (2, [2, 4, 5, 6, 7, 500002, 1000002]), (3, [2, 3, 500002, 1000002]), (300000, [2, 3, 500002, 1000002])]
noncomputable def E17 : FEnv := [(31, w31 g31)]
theorem E17_good : EnvGood Try.prog (E17) := ((EnvGood.nil _).cons ok31 (w31_lin g31_lin))
theorem E17_lin : EnvLin (E17) := by
  intro g F h
  simp only [E17, List.mem_cons, List.not_mem_nil, or_false] at h
  rcases h with h
  · cases h; exact w31_lin g31_lin
def lv17 : Nat → Bool := lvOf [1, 2]
noncomputable def b17 : Code := Try.f17.body.getD .skip
noncomputable def c17_0 : Code := (.seq (codeAt [0] b17) (.seq (codeAt [1, 0] b17) (.seq (codeAt [1, 1, 0] b17) (.seq (codeAt [1, 1, 1, 0] b17) .ret))))
noncomputable def g17_p0 (R : Type) (t0_0 : Int) (t0_1 : Int) (t0_2 : Int) (t0_3 : Int) (H : Heap) (kR : Bool → Option (Nat × Nat) → Option (Nat × Nat) → Heap → Option R) : Option R :=
  g31 R t0_0 t0_1 t0_2 t0_3 H fun x1 x2 h3 =>
  g31 R t0_0 t0_1 t0_2 t0_3 h3 fun x4 x5 h6 =>
  sel (x2 == (0 : Int)) (
    kR (x5 == (0 : Int)) x1 x4 h6) (
    kR false x1 x4 h6)
theorem g17_p0_eq {R : Type} (t0_0 : Int) (t0_1 : Int) (t0_2 : Int) (t0_3 : Int) (H : Heap) (K : Ex → Fr → Heap → Option R) : ev2 Try.prog (E17) loopLim lv17 Try.f17.ntmps kp17 c17_0 [(0, (V.agg [(V.i .i64 t0_0), (V.i .i64 t0_1), (V.i .i64 t0_2), (V.i .i64 t0_3)]))] H K = g17_p0 R t0_0 t0_1 t0_2 t0_3 H (fun t3 t500002_0 t500002_1 H => K .ret [(3, (V.b t3)), (500002, (V.agg [(V.p t500002_0), (V.p t500002_1)])), (1000002, (V.p (some (2, 0))))] H) := by kernel_rfl
theorem g17_p0_lin {R S : Type} {k : S → Option R} {t0_0 : Int} {t0_1 : Int} {t0_2 : Int} {t0_3 : Int} {H : Heap} {fkR : Bool → Option (Nat × Nat) → Option (Nat × Nat) → Heap → Option R} {gkR : Bool → Option (Nat × Nat) → Option (Nat × Nat) → Heap → Option S} (hkR : ∀ t3 t500002_0 t500002_1 H, fkR t3 t500002_0 t500002_1 H = (gkR t3 t500002_0 t500002_1 H).bind k) : g17_p0 R t0_0 t0_1 t0_2 t0_3 H fkR = (g17_p0 S t0_0 t0_1 t0_2 t0_3 H gkR).bind k := by
  delta g17_p0; exact (
    g31_lin.l fun x1 x2 h3 =>
    g31_lin.l fun x4 x5 h6 =>
    sl_lin (
      hkR _ _ _ _) (
      hkR _ _ _ _))
noncomputable def g17_r : T17 := fun R t0_0 t0_1 t0_2 t0_3 H K =>
  g17_p0 R t0_0 t0_1 t0_2 t0_3 H (fun t3 t500002_0 t500002_1 H =>
    K t500002_0 t500002_1 t3 H)
theorem g17_r_lin : Lin17 (g17_r) := by
  constructor
  intro R S k t0_0 t0_1 t0_2 t0_3 H f g h
  exact g17_p0_lin (fun t3 t500002_0 t500002_1 H =>
    h _ _ _ _)
theorem g17_fn {R : Type} (t0_0 : Int) (t0_1 : Int) (t0_2 : Int) (t0_3 : Int) (H : Heap) (K : V → Heap → Option R) : evFn2 Try.prog (E17) loopLim lv17 Try.f17 kp17 [(V.agg [(V.i .i64 t0_0), (V.i .i64 t0_1), (V.i .i64 t0_2), (V.i .i64 t0_3)])] H K = g17_r R t0_0 t0_1 t0_2 t0_3 H (fun r0_0 r0_1 r1 H => K (V.tup [(V.agg [(V.p r0_0), (V.p r0_1)]), (V.b r1)]) H) := by
  have h0 : ∀ (t3 : Bool) (t500002_0 : Option (Nat × Nat)) (t500002_1 : Option (Nat × Nat)) (H : Heap), kFn2 Try.prog Try.f17.results.toList K .ret [(3, (V.b t3)), (500002, (V.agg [(V.p t500002_0), (V.p t500002_1)])), (1000002, (V.p (some (2, 0))))] H =
      K (V.tup [(V.agg [(V.p t500002_0), (V.p t500002_1)]), (V.b t3)]) H := by intros; kernel_rfl
  have e0 := evFn2_code2 (P := Try.prog) (c := c17_0) (E := (E17)) (lr := loopLim) (lv := lv17) (kp := kp17) (fn := Try.f17) (args := [(V.agg [(V.i .i64 t0_0), (V.i .i64 t0_1), (V.i .i64 t0_2), (V.i .i64 t0_3)])]) H K (by kernel_rfl) (Nat.le_of_ble_eq_true (by kernel_rfl)) (by kernel_rfl) (by kernel_rfl)
  have e1 : ev2 Try.prog (E17) loopLim lv17 Try.f17.ntmps kp17 c17_0 (argFr 0 [(V.agg [(V.i .i64 t0_0), (V.i .i64 t0_1), (V.i .i64 t0_2), (V.i .i64 t0_3)])]) H (kFn2 Try.prog Try.f17.results.toList K) = ev2 Try.prog (E17) loopLim lv17 Try.f17.ntmps kp17 c17_0 [(0, (V.agg [(V.i .i64 t0_0), (V.i .i64 t0_1), (V.i .i64 t0_2), (V.i .i64 t0_3)]))] H (kFn2 Try.prog Try.f17.results.toList K) := by kernel_rfl
  refine (e0.trans e1).trans ?_
  delta g17_r
  exact (g17_p0_eq t0_0 t0_1 t0_2 t0_3 H (kFn2 Try.prog Try.f17.results.toList K)).trans (congrArg (g17_p0 R t0_0 t0_1 t0_2 t0_3 H) (funext fun t3 => funext fun t500002_0 => funext fun t500002_1 => funext fun H => h0 t3 t500002_0 t500002_1 H))
theorem g17_ok : FunOK Try.prog 17 (w17 (g17_r)) := by
  refine (runF2_ok (E17_good) mixed lim_ok Try.func17 (by kernel_rfl) lv17 kp17).of_le fun R args H K r hk => ?_
  unfold w17 at hk
  split at hk
  · exact (g17_fn _ _ _ _ H K).trans hk
  · cases hk
noncomputable def g17 : T17 := g17_r
theorem g17_lin : Lin17 g17 := g17_r_lin
theorem ok17 : FunOK Try.prog 17 (w17 g17) := g17_ok
def kp37 : Nat → Option (List Nat) := kpOf [(0, [0]), (1, [2]), (300000, [2])]
def E37 : FEnv := []
theorem E37_good : EnvGood Try.prog E37 := (EnvGood.nil _)
theorem E37_lin : EnvLin E37 := fun g F h => by cases h
def lv37 : Nat → Bool := lvOf []
noncomputable def b37 : Code := Try.f37.body.getD .skip
noncomputable def c37_0 : Code := (.seq (codeAt [0] b37) (.seq (codeAt [1, 0] b37) .ret))
noncomputable def g37_p0 (R : Type) (t0 : Option (Nat × Nat)) (H : Heap) (kR : Bool → Heap → Option R) : Option R :=
  sel (!(Option.isNone t0)) (
    (t0).bind fun q1 =>
    ((H).ldI .i64 q1.1 ((q1.2 + 0) + 0)).bind fun x2 =>
    kR (decide (x2 > (0 : Int))) H) (
    kR false H)
theorem g37_p0_eq {R : Type} (t0 : Option (Nat × Nat)) (H : Heap) (K : Ex → Fr → Heap → Option R) : ev2 Try.prog E37 loopLim lv37 Try.f37.ntmps kp37 c37_0 [(0, (V.p t0))] H K = g37_p0 R t0 H (fun t2 H => K .ret [(2, (V.b t2))] H) := by kernel_rfl
theorem g37_p0_lin {R S : Type} {k : S → Option R} {t0 : Option (Nat × Nat)} {H : Heap} {fkR : Bool → Heap → Option R} {gkR : Bool → Heap → Option S} (hkR : ∀ t2 H, fkR t2 H = (gkR t2 H).bind k) : g37_p0 R t0 H fkR = (g37_p0 S t0 H gkR).bind k := by
  delta g37_p0; exact (
    sl_lin (
      bl fun q1 =>
      bl fun x2 =>
      hkR _ _) (
      hkR _ _))
noncomputable def g37_r : T37 := fun R t0 H K =>
  g37_p0 R t0 H (fun t2 H =>
    K t2 H)
theorem g37_r_lin : Lin37 (g37_r) := by
  constructor
  intro R S k t0 H f g h
  exact g37_p0_lin (fun t2 H =>
    h _ _)
theorem g37_fn {R : Type} (t0 : Option (Nat × Nat)) (H : Heap) (K : V → Heap → Option R) : evFn2 Try.prog E37 loopLim lv37 Try.f37 kp37 [(V.p t0)] H K = g37_r R t0 H (fun r0 H => K (V.b r0) H) := by
  have h0 : ∀ (t2 : Bool) (H : Heap), kFn2 Try.prog Try.f37.results.toList K .ret [(2, (V.b t2))] H =
      K (V.b t2) H := by intros; kernel_rfl
  have e0 := evFn2_code2 (P := Try.prog) (c := c37_0) (E := E37) (lr := loopLim) (lv := lv37) (kp := kp37) (fn := Try.f37) (args := [(V.p t0)]) H K (by kernel_rfl) (Nat.le_of_ble_eq_true (by kernel_rfl)) (by kernel_rfl) (by kernel_rfl)
  have e1 : ev2 Try.prog E37 loopLim lv37 Try.f37.ntmps kp37 c37_0 (argFr 0 [(V.p t0)]) H (kFn2 Try.prog Try.f37.results.toList K) = ev2 Try.prog E37 loopLim lv37 Try.f37.ntmps kp37 c37_0 [(0, (V.p t0))] H (kFn2 Try.prog Try.f37.results.toList K) := by kernel_rfl
  refine (e0.trans e1).trans ?_
  delta g37_r
  exact (g37_p0_eq t0 H (kFn2 Try.prog Try.f37.results.toList K)).trans (congrArg (g37_p0 R t0 H) (funext fun t2 => funext fun H => h0 t2 H))
theorem g37_ok : FunOK Try.prog 37 (w37 (g37_r)) := by
  refine (runF2_ok (E37_good) mixed lim_ok Try.func37 (by kernel_rfl) lv37 kp37).of_le fun R args H K r hk => ?_
  unfold w37 at hk
  split at hk
  · exact (g37_fn _ H K).trans hk
  · cases hk
noncomputable def g37 : T37 := g37_r
theorem g37_lin : Lin37 g37 := g37_r_lin
theorem ok37 : FunOK Try.prog 37 (w37 g37) := g37_ok
def kp38 : Nat → Option (List Nat) := kpOf [(0, [0, 1, 2, 3, 4]), (1, [0, 1, 2, 3, 4, 31]), (2, [10]), (3, [0, 1, 2, 3, 4]), (4, [0, 1, 2, 3, 4, 62]), (5, [0, 11]), (6, [11]), (7, [10]), (100000, [0, 1, 2, 3, 4]), (100001, [0, 1, 2, 3, 4]), (200000, [0, 1, 2, 3, 4]), (200001, [0, 1, 2, 3, 4]), (300000, [10]), (400031, [0, 1, 2, 3, 4]), (400062, [0, 1, 2, 3, 4])]
def E38 : FEnv := []
theorem E38_good : EnvGood Try.prog E38 := (EnvGood.nil _)
theorem E38_lin : EnvLin E38 := fun g F h => by cases h
def lv38 : Nat → Bool := lvOf []
noncomputable def b38 : Code := Try.f38.body.getD .skip
noncomputable def c38_0 : Code := (.block 1 (.seq (codeAt [1, 1, 0, 0, 0, 0, 0] b38) (.seq (codeAt [1, 1, 0, 0, 0, 0, 1, 0] b38) (.cond (.tmp 62) (.exit 0) .skip))))
noncomputable def c38_1 : Code := (.loop c38_0)
noncomputable def c38_2 : Code := (.block 0 c38_1)
noncomputable def c38_3 : Code := (.seq (codeAt [1, 1, 1, 0] b38) (.seq (codeAt [1, 1, 1, 1, 0] b38) (.seq (codeAt [1, 1, 1, 1, 1, 0] b38) .ret)))
noncomputable def c38_4 : Code := (.seq c38_2 c38_3)
noncomputable def c38_5 : Code := (.seq (codeAt [0] b38) (.seq (codeAt [1, 0, 0] b38) (.seq (.cond (.tmp 31) (.seq (codeAt [1, 0, 1, 0, 0] b38) .ret) .skip) c38_4)))
noncomputable def g38_p0 (R : Type) (t0 : Option (Nat × Nat)) (t1 : Int) (t2 : Int) (t3 : Int) (t4 : Int) (H : Heap) (kN : Option (Nat × Nat) → Int → Int → Int → Int → Heap → Option R) (kR : Option (Nat × Nat) → Heap → Option R) : Option R :=
  (t0).bind fun q10 =>
  ((H).ldM q10.1 (q10.2 + 5)).bind fun x11 =>
  ((getMap H x11)).bind fun m12 =>
  sel (decide (((m12.1.length : Nat) : Int) ≥ (4096 : Int))) (
    kR none H) (
    (t0).bind fun q13 =>
    ((H).ldM q13.1 (q13.2 + 5)).bind fun x14 =>
    ((getMap H x14)).bind fun m15 =>
    (t0).bind fun q16 =>
    ((H).ldM q16.1 (q16.2 + 6)).bind fun x17 =>
    ((getMap H x17)).bind fun m18 =>
    sel (decide ((IntKind.wrap .i64 (((m15.1.length : Nat) : Int) + ((m18.1.length : Nat) : Int))) ≥ (8191 : Int))) (
      kR none H) (
      kN t0 t1 t2 t3 t4 H))
theorem g38_p0_eq {R : Type} (c2 : Code) (t0 : Option (Nat × Nat)) (t1 : Int) (t2 : Int) (t3 : Int) (t4 : Int) (H : Heap) (K : Ex → Fr → Heap → Option R) : ev2 Try.prog E38 loopLim lv38 Try.f38.ntmps kp38 (.seq (codeAt [0] b38) (.seq (codeAt [1, 0, 0] b38) (.seq (.cond (.tmp 31) (.seq (codeAt [1, 0, 1, 0, 0] b38) .ret) .skip) c2))) [(0, (V.p t0)), (1, (V.i .u16 t1)), (2, (V.i .u32 t2)), (3, (V.i .u8 t3)), (4, (V.i .u8 t4))] H K = g38_p0 R t0 t1 t2 t3 t4 H (fun t0 t1 t2 t3 t4 H => ev2 Try.prog E38 loopLim lv38 Try.f38.ntmps kp38 c2 [(0, (V.p t0)), (1, (V.i .u16 t1)), (2, (V.i .u32 t2)), (3, (V.i .u8 t3)), (4, (V.i .u8 t4))] H K) (fun t10 H => K .ret [(10, (V.p t10))] H) := by kernel_rfl
theorem g38_p0_lin {R S : Type} {k : S → Option R} {t0 : Option (Nat × Nat)} {t1 : Int} {t2 : Int} {t3 : Int} {t4 : Int} {H : Heap} {fkN : Option (Nat × Nat) → Int → Int → Int → Int → Heap → Option R} {gkN : Option (Nat × Nat) → Int → Int → Int → Int → Heap → Option S} {fkR : Option (Nat × Nat) → Heap → Option R} {gkR : Option (Nat × Nat) → Heap → Option S} (hkN : ∀ t0 t1 t2 t3 t4 H, fkN t0 t1 t2 t3 t4 H = (gkN t0 t1 t2 t3 t4 H).bind k) (hkR : ∀ t10 H, fkR t10 H = (gkR t10 H).bind k) : g38_p0 R t0 t1 t2 t3 t4 H fkN fkR = (g38_p0 S t0 t1 t2 t3 t4 H gkN gkR).bind k := by
  delta g38_p0; exact (
    bl fun q10 =>
    bl fun x11 =>
    bl fun m12 =>
    sl_lin (
      hkR _ _) (
      bl fun q13 =>
      bl fun x14 =>
      bl fun m15 =>
      bl fun q16 =>
      bl fun x17 =>
      bl fun m18 =>
      sl_lin (
        hkR _ _) (
        hkN _ _ _ _ _ _)))
noncomputable def g38_p1 (R : Type) (t0 : Option (Nat × Nat)) (t1 : Int) (t2 : Int) (t3 : Int) (t4 : Int) (H : Heap) (kN : Option (Nat × Nat) → Int → Int → Int → Int → Heap → Option R) (kE0 : Option (Nat × Nat) → Int → Int → Int → Int → Heap → Option R) : Option R :=
  (t0).bind fun q19 =>
  ((H).ldI .u32 q19.1 (q19.2 + 4)).bind fun x20 =>
  (t0).bind fun q21 =>
  ((H).st q21.1 (q21.2 + 4) (V.i .u32 (IntKind.wrap .u32 ((Int.tmod x20 (8191 : Int)) + (1 : Int))))).bind fun h23 =>
  (t0).bind fun q24 =>
  ((h23).ldM q24.1 (q24.2 + 5)).bind fun x25 =>
  (t0).bind fun q26 =>
  ((h23).ldI .u32 q26.1 (q26.2 + 4)).bind fun x27 =>
  ((getMap h23 x25)).bind fun m28 =>
  ((findE Try.prog 23 (V.i .u32 x27) m28.1 0)).bind fun q29 =>
  fnd q29 (fun j30 x31 =>
    ((V.asP x31)).bind fun x32 =>
    sel (Option.isNone x32) (
      (t0).bind fun q33 =>
      ((h23).ldM q33.1 (q33.2 + 6)).bind fun x34 =>
      (t0).bind fun q35 =>
      ((h23).ldI .u32 q35.1 (q35.2 + 4)).bind fun x36 =>
      ((getMap h23 x34)).bind fun m37 =>
      ((findE Try.prog 23 (V.i .u32 x36) m37.1 0)).bind fun q38 =>
      fnd q38 (fun j39 x40 =>
        ((V.asI .i64 x40)).bind fun x41 =>
        sel (x41 == (0 : Int)) (
          kE0 t0 t1 t2 t3 t4 h23) (
          kN t0 t1 t2 t3 t4 h23)) (
        kE0 t0 t1 t2 t3 t4 h23)) (
      kN t0 t1 t2 t3 t4 h23)) (
    (t0).bind fun q42 =>
    ((h23).ldM q42.1 (q42.2 + 6)).bind fun x43 =>
    (t0).bind fun q44 =>
    ((h23).ldI .u32 q44.1 (q44.2 + 4)).bind fun x45 =>
    ((getMap h23 x43)).bind fun m46 =>
    ((findE Try.prog 23 (V.i .u32 x45) m46.1 0)).bind fun q47 =>
    fnd q47 (fun j48 x49 =>
      ((V.asI .i64 x49)).bind fun x50 =>
      sel (x50 == (0 : Int)) (
        kE0 t0 t1 t2 t3 t4 h23) (
        kN t0 t1 t2 t3 t4 h23)) (
      kE0 t0 t1 t2 t3 t4 h23))
theorem g38_p1_eq {R : Type} (t0 : Option (Nat × Nat)) (t1 : Int) (t2 : Int) (t3 : Int) (t4 : Int) (H : Heap) (K : Ex → Fr → Heap → Option R) : ev2 Try.prog E38 loopLim lv38 Try.f38.ntmps kp38 c38_0 [(0, (V.p t0)), (1, (V.i .u16 t1)), (2, (V.i .u32 t2)), (3, (V.i .u8 t3)), (4, (V.i .u8 t4))] H K = g38_p1 R t0 t1 t2 t3 t4 H (fun t0 t1 t2 t3 t4 H => K .normal [(0, (V.p t0)), (1, (V.i .u16 t1)), (2, (V.i .u32 t2)), (3, (V.i .u8 t3)), (4, (V.i .u8 t4))] H) (fun t0 t1 t2 t3 t4 H => K (.exit 0) [(0, (V.p t0)), (1, (V.i .u16 t1)), (2, (V.i .u32 t2)), (3, (V.i .u8 t3)), (4, (V.i .u8 t4))] H) := by kernel_rfl
theorem g38_p1_lin {R S : Type} {k : S → Option R} {t0 : Option (Nat × Nat)} {t1 : Int} {t2 : Int} {t3 : Int} {t4 : Int} {H : Heap} {fkN : Option (Nat × Nat) → Int → Int → Int → Int → Heap → Option R} {gkN : Option (Nat × Nat) → Int → Int → Int → Int → Heap → Option S} {fkE0 : Option (Nat × Nat) → Int → Int → Int → Int → Heap → Option R} {gkE0 : Option (Nat × Nat) → Int → Int → Int → Int → Heap → Option S} (hkN : ∀ t0 t1 t2 t3 t4 H, fkN t0 t1 t2 t3 t4 H = (gkN t0 t1 t2 t3 t4 H).bind k) (hkE0 : ∀ t0 t1 t2 t3 t4 H, fkE0 t0 t1 t2 t3 t4 H = (gkE0 t0 t1 t2 t3 t4 H).bind k) : g38_p1 R t0 t1 t2 t3 t4 H fkN fkE0 = (g38_p1 S t0 t1 t2 t3 t4 H gkN gkE0).bind k := by
  delta g38_p1
  repeat' (first | with_reducible (first | exact hkE0 _ _ _ _ _ _ | exact hkN _ _ _ _ _ _ | refine fnd_lin (fun _ _ => ?_) ?_ | refine sl_lin ?_ ?_ | refine bl fun _ => ?_) | exact (rfl : (none : Option R) = (none : Option S).bind k))
abbrev g38_p2_S := (Option (Nat × Nat)) × Int × Int × Int × Int
abbrev g38_p2_O := (Option (Nat × Nat)) × Int × Int × Int × Int
def g38_p2_es (s : g38_p2_S) : Fr := [(0, (V.p s.1)), (1, (V.i .u16 s.2.1)), (2, (V.i .u32 s.2.2.1)), (3, (V.i .u8 s.2.2.2.1)), (4, (V.i .u8 s.2.2.2.2))]
def g38_p2_er (r : g38_p2_O) : Ex × Fr := ((.exit 0), [(0, (V.p r.1)), (1, (V.i .u16 r.2.1)), (2, (V.i .u32 r.2.2.1)), (3, (V.i .u8 r.2.2.2.1)), (4, (V.i .u8 r.2.2.2.2))])
noncomputable def g38_p2_b (s : g38_p2_S) (H : Heap) : Option (Rd g38_p2_S g38_p2_O × Heap) :=
  g38_p1 _ s.1 s.2.1 s.2.2.1 s.2.2.2.1 s.2.2.2.2 H (fun t0 t1 t2 t3 t4 H => some (.go (t0, t1, t2, t3, t4), H)) (fun t0 t1 t2 t3 t4 H => some (.up (t0, t1, t2, t3, t4), H))
noncomputable def g38_p2 (R : Type) (t0 : Option (Nat × Nat)) (t1 : Int) (t2 : Int) (t3 : Int) (t4 : Int) (H : Heap) (kE0 : Option (Nat × Nat) → Int → Int → Int → Int → Heap → Option R) : Option R :=
  (tlim (g38_p2_b) (t0, t1, t2, t3, t4) H).bind fun p => kE0 p.1.1 p.1.2.1 p.1.2.2.1 p.1.2.2.2.1 p.1.2.2.2.2 p.2
theorem g38_p2_lin {R S : Type} {k : S → Option R} {t0 : Option (Nat × Nat)} {t1 : Int} {t2 : Int} {t3 : Int} {t4 : Int} {H : Heap} {fkE0 : Option (Nat × Nat) → Int → Int → Int → Int → Heap → Option R} {gkE0 : Option (Nat × Nat) → Int → Int → Int → Int → Heap → Option S} (hkE0 : ∀ t0 t1 t2 t3 t4 H, fkE0 t0 t1 t2 t3 t4 H = (gkE0 t0 t1 t2 t3 t4 H).bind k) : g38_p2 R t0 t1 t2 t3 t4 H fkE0 = (g38_p2 S t0 t1 t2 t3 t4 H gkE0).bind k := by
  exact bl fun p => hkE0 _ _ _ _ _ _
theorem g38_p2_eq {R : Type} (t0 : Option (Nat × Nat)) (t1 : Int) (t2 : Int) (t3 : Int) (t4 : Int) (H : Heap) (K : Ex → Fr → Heap → Option R) : ev2 Try.prog E38 loopLim lv38 Try.f38.ntmps kp38 c38_1 [(0, (V.p t0)), (1, (V.i .u16 t1)), (2, (V.i .u32 t2)), (3, (V.i .u8 t3)), (4, (V.i .u8 t4))] H K = g38_p2 R t0 t1 t2 t3 t4 H (fun t0 t1 t2 t3 t4 H => K (.exit 0) [(0, (V.p t0)), (1, (V.i .u16 t1)), (2, (V.i .u32 t2)), (3, (V.i .u8 t3)), (4, (V.i .u8 t4))] H) := by
  delta c38_1
  delta g38_p2
  refine (ev2_tlim (b := g38_p2_b) (es := g38_p2_es) (er := g38_p2_er) (by intro r; exact nofun) (fun s H => ?_) (t0, t1, t2, t3, t4) H K).trans (bc fun p => rfl)
  exact (g38_p1_eq s.1 s.2.1 s.2.2.1 s.2.2.2.1 s.2.2.2.2 H ret3).trans (g38_p1_lin (fun _ _ _ _ _ _ => rfl) (fun _ _ _ _ _ _ => rfl))
noncomputable def g38_p3 (R : Type) (t0 : Option (Nat × Nat)) (t1 : Int) (t2 : Int) (t3 : Int) (t4 : Int) (H : Heap) (kN : Option (Nat × Nat) → Int → Int → Int → Int → Heap → Option R) : Option R :=
  g38_p2 R t0 t1 t2 t3 t4 H (fun t0 t1 t2 t3 t4 H => kN t0 t1 t2 t3 t4 H)
theorem g38_p3_lin {R S : Type} {k : S → Option R} {t0 : Option (Nat × Nat)} {t1 : Int} {t2 : Int} {t3 : Int} {t4 : Int} {H : Heap} {fkN : Option (Nat × Nat) → Int → Int → Int → Int → Heap → Option R} {gkN : Option (Nat × Nat) → Int → Int → Int → Int → Heap → Option S} (hkN : ∀ t0 t1 t2 t3 t4 H, fkN t0 t1 t2 t3 t4 H = (gkN t0 t1 t2 t3 t4 H).bind k) : g38_p3 R t0 t1 t2 t3 t4 H fkN = (g38_p3 S t0 t1 t2 t3 t4 H gkN).bind k := by
  exact g38_p2_lin (fun _ _ _ _ _ _ => hkN _ _ _ _ _ _)
theorem g38_p3_eq {R : Type} (t0 : Option (Nat × Nat)) (t1 : Int) (t2 : Int) (t3 : Int) (t4 : Int) (H : Heap) (K : Ex → Fr → Heap → Option R) : ev2 Try.prog E38 loopLim lv38 Try.f38.ntmps kp38 c38_2 [(0, (V.p t0)), (1, (V.i .u16 t1)), (2, (V.i .u32 t2)), (3, (V.i .u8 t3)), (4, (V.i .u8 t4))] H K = g38_p3 R t0 t1 t2 t3 t4 H (fun t0 t1 t2 t3 t4 H => K .normal [(0, (V.p t0)), (1, (V.i .u16 t1)), (2, (V.i .u32 t2)), (3, (V.i .u8 t3)), (4, (V.i .u8 t4))] H) := by
  delta c38_2
  rw [ev2_block]
  delta g38_p3
  exact (g38_p2_eq t0 t1 t2 t3 t4 H (kBlock kp38 0 K))
noncomputable def g38_p4 (R : Type) (t0 : Option (Nat × Nat)) (t1 : Int) (t2 : Int) (t3 : Int) (t4 : Int) (H : Heap) (kR : Nat → Nat → Heap → Option R) : Option R :=
  (t0).bind fun q51 =>
  ((H).ldI .u32 q51.1 (q51.2 + 4)).bind fun x52 =>
  alo H (.cells [(V.i .u32 x52), (V.i .u16 t1), (V.i .u32 t2), (V.i .u8 t3), (V.i .u8 t4), (V.i .i64 (0 : Int)), (V.i .i64 (0 : Int)), (V.i .i64 (0 : Int)), (V.i .u8 (0 : Int)), (V.i .u8 (0 : Int)), (V.i .u8 (0 : Int))] 100 false) fun i53 h54 =>
  (t0).bind fun q55 =>
  ((h54).ldM q55.1 (q55.2 + 5)).bind fun x56 =>
  ((h54).ldI .u32 i53 (0 + 0)).bind fun x57 =>
  mapSet Try.prog h54 87 (V.m x56) (V.i .u32 x57) (V.p (some (i53, 0))) fun u59 h58 =>
  kR i53 0 h58
theorem g38_p4_eq {R : Type} (t0 : Option (Nat × Nat)) (t1 : Int) (t2 : Int) (t3 : Int) (t4 : Int) (H : Heap) (K : Ex → Fr → Heap → Option R) : ev2 Try.prog E38 loopLim lv38 Try.f38.ntmps kp38 c38_3 [(0, (V.p t0)), (1, (V.i .u16 t1)), (2, (V.i .u32 t2)), (3, (V.i .u8 t3)), (4, (V.i .u8 t4))] H K = g38_p4 R t0 t1 t2 t3 t4 H (fun t10_0 t10_1 H => K .ret [(10, (V.p (some (t10_0, t10_1))))] H) := by kernel_rfl
theorem g38_p4_lin {R S : Type} {k : S → Option R} {t0 : Option (Nat × Nat)} {t1 : Int} {t2 : Int} {t3 : Int} {t4 : Int} {H : Heap} {fkR : Nat → Nat → Heap → Option R} {gkR : Nat → Nat → Heap → Option S} (hkR : ∀ t10_0 t10_1 H, fkR t10_0 t10_1 H = (gkR t10_0 t10_1 H).bind k) : g38_p4 R t0 t1 t2 t3 t4 H fkR = (g38_p4 S t0 t1 t2 t3 t4 H gkR).bind k := by
  delta g38_p4; exact (
    bl fun q51 =>
    bl fun x52 =>
    alo_lin fun i53 h54 =>
    bl fun q55 =>
    bl fun x56 =>
    bl fun x57 =>
    mapSet_lin fun u59 h58 =>
    hkR _ _ _)
noncomputable def g38_p5 (R : Type) (t0 : Option (Nat × Nat)) (t1 : Int) (t2 : Int) (t3 : Int) (t4 : Int) (H : Heap) (kR : Nat → Nat → Heap → Option R) : Option R :=
  g38_p3 R t0 t1 t2 t3 t4 H (fun t0 t1 t2 t3 t4 H => g38_p4 R t0 t1 t2 t3 t4 H (fun t10_0 t10_1 H => kR t10_0 t10_1 H))
theorem g38_p5_lin {R S : Type} {k : S → Option R} {t0 : Option (Nat × Nat)} {t1 : Int} {t2 : Int} {t3 : Int} {t4 : Int} {H : Heap} {fkR : Nat → Nat → Heap → Option R} {gkR : Nat → Nat → Heap → Option S} (hkR : ∀ t10_0 t10_1 H, fkR t10_0 t10_1 H = (gkR t10_0 t10_1 H).bind k) : g38_p5 R t0 t1 t2 t3 t4 H fkR = (g38_p5 S t0 t1 t2 t3 t4 H gkR).bind k := by
  exact g38_p3_lin (fun _ _ _ _ _ _ => g38_p4_lin (fun _ _ _ => hkR _ _ _))
theorem g38_p5_eq {R : Type} (t0 : Option (Nat × Nat)) (t1 : Int) (t2 : Int) (t3 : Int) (t4 : Int) (H : Heap) (K : Ex → Fr → Heap → Option R) : ev2 Try.prog E38 loopLim lv38 Try.f38.ntmps kp38 c38_4 [(0, (V.p t0)), (1, (V.i .u16 t1)), (2, (V.i .u32 t2)), (3, (V.i .u8 t3)), (4, (V.i .u8 t4))] H K = g38_p5 R t0 t1 t2 t3 t4 H (fun t10_0 t10_1 H => K .ret [(10, (V.p (some (t10_0, t10_1))))] H) := by
  delta c38_4
  rw [ev2_seq]
  delta g38_p5
  exact (g38_p3_eq t0 t1 t2 t3 t4 H (kSeq (fun fr H => ev2 Try.prog E38 loopLim lv38 Try.f38.ntmps kp38 c38_3 fr H K) K)).trans (congrArg (g38_p3 R t0 t1 t2 t3 t4 H) (funext fun t0 => funext fun t1 => funext fun t2 => funext fun t3 => funext fun t4 => funext fun H => (kSeq_n _ _ _ _).trans (g38_p4_eq t0 t1 t2 t3 t4 H K)))
noncomputable def g38_p6 (R : Type) (t0 : Option (Nat × Nat)) (t1 : Int) (t2 : Int) (t3 : Int) (t4 : Int) (H : Heap) (kR : Option (Nat × Nat) → Heap → Option R) : Option R :=
  g38_p0 R t0 t1 t2 t3 t4 H (fun t0 t1 t2 t3 t4 H => g38_p5 R t0 t1 t2 t3 t4 H (fun t10_0 t10_1 H => kR (some (t10_0, t10_1)) H)) (fun t10 H => kR t10 H)
theorem g38_p6_lin {R S : Type} {k : S → Option R} {t0 : Option (Nat × Nat)} {t1 : Int} {t2 : Int} {t3 : Int} {t4 : Int} {H : Heap} {fkR : Option (Nat × Nat) → Heap → Option R} {gkR : Option (Nat × Nat) → Heap → Option S} (hkR : ∀ t10 H, fkR t10 H = (gkR t10 H).bind k) : g38_p6 R t0 t1 t2 t3 t4 H fkR = (g38_p6 S t0 t1 t2 t3 t4 H gkR).bind k := by
  exact g38_p0_lin (fun _ _ _ _ _ _ => g38_p5_lin (fun _ _ _ => hkR _ _)) (fun _ _ => hkR _ _)
theorem g38_p6_eq {R : Type} (t0 : Option (Nat × Nat)) (t1 : Int) (t2 : Int) (t3 : Int) (t4 : Int) (H : Heap) (K : Ex → Fr → Heap → Option R) : ev2 Try.prog E38 loopLim lv38 Try.f38.ntmps kp38 c38_5 [(0, (V.p t0)), (1, (V.i .u16 t1)), (2, (V.i .u32 t2)), (3, (V.i .u8 t3)), (4, (V.i .u8 t4))] H K = g38_p6 R t0 t1 t2 t3 t4 H (fun t10 H => K .ret [(10, (V.p t10))] H) := by
  delta c38_5
  delta g38_p6
  exact (g38_p0_eq _ t0 t1 t2 t3 t4 H K).trans (congr (congrArg (g38_p0 R t0 t1 t2 t3 t4 H) (funext fun t0 => funext fun t1 => funext fun t2 => funext fun t3 => funext fun t4 => funext fun H => g38_p5_eq t0 t1 t2 t3 t4 H K)) rfl)
noncomputable def g38_r : T38 := fun R t0 t1 t2 t3 t4 H K =>
  g38_p6 R t0 t1 t2 t3 t4 H (fun t10 H =>
    K t10 H)
theorem g38_r_lin : Lin38 (g38_r) := by
  constructor
  intro R S k t0 t1 t2 t3 t4 H f g h
  exact g38_p6_lin (fun t10 H =>
    h _ _)
theorem g38_fn {R : Type} (t0 : Option (Nat × Nat)) (t1 : Int) (t2 : Int) (t3 : Int) (t4 : Int) (H : Heap) (K : V → Heap → Option R) : evFn2 Try.prog E38 loopLim lv38 Try.f38 kp38 [(V.p t0), (V.i .u16 t1), (V.i .u32 t2), (V.i .u8 t3), (V.i .u8 t4)] H K = g38_r R t0 t1 t2 t3 t4 H (fun r0 H => K (V.p r0) H) := by
  have h0 : ∀ (t10 : Option (Nat × Nat)) (H : Heap), kFn2 Try.prog Try.f38.results.toList K .ret [(10, (V.p t10))] H =
      K (V.p t10) H := by intros; kernel_rfl
  have e0 := evFn2_code2 (P := Try.prog) (c := c38_5) (E := E38) (lr := loopLim) (lv := lv38) (kp := kp38) (fn := Try.f38) (args := [(V.p t0), (V.i .u16 t1), (V.i .u32 t2), (V.i .u8 t3), (V.i .u8 t4)]) H K (by kernel_rfl) (Nat.le_of_ble_eq_true (by kernel_rfl)) (by kernel_rfl) (by kernel_rfl)
  have e1 : ev2 Try.prog E38 loopLim lv38 Try.f38.ntmps kp38 c38_5 (argFr 0 [(V.p t0), (V.i .u16 t1), (V.i .u32 t2), (V.i .u8 t3), (V.i .u8 t4)]) H (kFn2 Try.prog Try.f38.results.toList K) = ev2 Try.prog E38 loopLim lv38 Try.f38.ntmps kp38 c38_5 [(0, (V.p t0)), (1, (V.i .u16 t1)), (2, (V.i .u32 t2)), (3, (V.i .u8 t3)), (4, (V.i .u8 t4))] H (kFn2 Try.prog Try.f38.results.toList K) := by kernel_rfl
  refine (e0.trans e1).trans ?_
  delta g38_r
  exact (g38_p6_eq t0 t1 t2 t3 t4 H (kFn2 Try.prog Try.f38.results.toList K)).trans (congrArg (g38_p6 R t0 t1 t2 t3 t4 H) (funext fun t10 => funext fun H => h0 t10 H))
theorem g38_ok : FunOK Try.prog 38 (w38 (g38_r)) := by
  refine (runF2_ok (E38_good) mixed lim_ok Try.func38 (by kernel_rfl) lv38 kp38).of_le fun R args H K r hk => ?_
  unfold w38 at hk
  split at hk
  · exact (g38_fn _ _ _ _ _ H K).trans hk
  · cases hk
noncomputable def g38 : T38 := g38_r
theorem g38_lin : Lin38 g38 := g38_r_lin
theorem ok38 : FunOK Try.prog 38 (w38 g38) := g38_ok
def kp55 : Nat → Option (List Nat) := kpOf [(0, [0]), (1, [0, 4]), (2, [2]), (3, [2]), (300000, [2]), (400004, [0])]
def E55 : FEnv := []
theorem E55_good : EnvGood Try.prog E55 := (EnvGood.nil _)
theorem E55_lin : EnvLin E55 := fun g F h => by cases h
def lv55 : Nat → Bool := lvOf []
noncomputable def b55 : Code := Try.f55.body.getD .skip
noncomputable def c55_0 : Code := (.seq (codeAt [0] b55) (.seq (codeAt [1, 0, 0] b55) (.seq (.cond (.tmp 4) (.seq (codeAt [1, 0, 1, 0, 0] b55) .ret) .skip) (.seq (codeAt [1, 1, 0] b55) .ret))))
noncomputable def g55_p0 (R : Type) (t0 : Sl) (H : Heap) (kR : Sl → Heap → Option R) : Option R :=
  sel (Option.isNone t0.a) (
    kR (Sl.mk none 0 (.ex 0)) H) (
    alo H (.cells [] 5 false) fun i1 h2 =>
    ((slCells h2 1 t0)).bind fun vs5 =>
    appendV h2 5 1 1 (Sl.mk (some (i1, 0)) 0 (.ex 0)) t0.len vs5 fun s3 h4 =>
    kR s3 h4)
theorem g55_p0_eq {R : Type} (t0 : Sl) (H : Heap) (K : Ex → Fr → Heap → Option R) : ev2 Try.prog E55 loopLim lv55 Try.f55.ntmps kp55 c55_0 [(0, (V.sl t0))] H K = g55_p0 R t0 H (fun t2 H => K .ret [(2, (V.sl t2))] H) := by kernel_rfl
theorem g55_p0_lin {R S : Type} {k : S → Option R} {t0 : Sl} {H : Heap} {fkR : Sl → Heap → Option R} {gkR : Sl → Heap → Option S} (hkR : ∀ t2 H, fkR t2 H = (gkR t2 H).bind k) : g55_p0 R t0 H fkR = (g55_p0 S t0 H gkR).bind k := by
  delta g55_p0; exact (
    sl_lin (
      hkR _ _) (
      alo_lin fun i1 h2 =>
      bl fun vs5 =>
      appendV_lin fun s3 h4 =>
      hkR _ _))
noncomputable def g55_r : T55 := fun R t0 H K =>
  g55_p0 R t0 H (fun t2 H =>
    K t2 H)
theorem g55_r_lin : Lin55 (g55_r) := by
  constructor
  intro R S k t0 H f g h
  exact g55_p0_lin (fun t2 H =>
    h _ _)
theorem g55_fn {R : Type} (t0 : Sl) (H : Heap) (K : V → Heap → Option R) : evFn2 Try.prog E55 loopLim lv55 Try.f55 kp55 [(V.sl t0)] H K = g55_r R t0 H (fun r0 H => K (V.sl r0) H) := by
  have h0 : ∀ (t2 : Sl) (H : Heap), kFn2 Try.prog Try.f55.results.toList K .ret [(2, (V.sl t2))] H =
      K (V.sl t2) H := by intros; kernel_rfl
  have e0 := evFn2_code2 (P := Try.prog) (c := c55_0) (E := E55) (lr := loopLim) (lv := lv55) (kp := kp55) (fn := Try.f55) (args := [(V.sl t0)]) H K (by kernel_rfl) (Nat.le_of_ble_eq_true (by kernel_rfl)) (by kernel_rfl) (by kernel_rfl)
  have e1 : ev2 Try.prog E55 loopLim lv55 Try.f55.ntmps kp55 c55_0 (argFr 0 [(V.sl t0)]) H (kFn2 Try.prog Try.f55.results.toList K) = ev2 Try.prog E55 loopLim lv55 Try.f55.ntmps kp55 c55_0 [(0, (V.sl t0))] H (kFn2 Try.prog Try.f55.results.toList K) := by kernel_rfl
  refine (e0.trans e1).trans ?_
  delta g55_r
  exact (g55_p0_eq t0 H (kFn2 Try.prog Try.f55.results.toList K)).trans (congrArg (g55_p0 R t0 H) (funext fun t2 => funext fun H => h0 t2 H))
theorem g55_ok : FunOK Try.prog 55 (w55 (g55_r)) := by
  refine (runF2_ok (E55_good) mixed lim_ok Try.func55 (by kernel_rfl) lv55 kp55).of_le fun R args H K r hk => ?_
  unfold w55 at hk
  split at hk
  · exact (g55_fn _ H K).trans hk
  · cases hk
noncomputable def g55 : T55 := g55_r
theorem g55_lin : Lin55 g55 := g55_r_lin
theorem ok55 : FunOK Try.prog 55 (w55 g55) := g55_ok
def kp54 : Nat → Option (List Nat) := kpOf [(0, [0]), (1, [2]), (300000, [2])]
def E54 : FEnv := []
theorem E54_good : EnvGood Try.prog E54 := (EnvGood.nil _)
theorem E54_lin : EnvLin E54 := fun g F h => by cases h
def lv54 : Nat → Bool := lvOf []
noncomputable def b54 : Code := Try.f54.body.getD .skip
noncomputable def c54_0 : Code := (.seq (codeAt [0] b54) (.seq (codeAt [1, 0] b54) .ret))
noncomputable def g54_p0 (R : Type) (t0 : Sl) (H : Heap) (kR : Sl → Heap → Option R) : Option R :=
  slOf 1 t0 none (some ((t0.len : Nat) : Int)) (some ((t0.len : Nat) : Int)) fun s1 =>
  kR s1 H
theorem g54_p0_eq {R : Type} (t0 : Sl) (H : Heap) (K : Ex → Fr → Heap → Option R) : ev2 Try.prog E54 loopLim lv54 Try.f54.ntmps kp54 c54_0 [(0, (V.sl t0))] H K = g54_p0 R t0 H (fun t2 H => K .ret [(2, (V.sl t2))] H) := by kernel_rfl
theorem g54_p0_lin {R S : Type} {k : S → Option R} {t0 : Sl} {H : Heap} {fkR : Sl → Heap → Option R} {gkR : Sl → Heap → Option S} (hkR : ∀ t2 H, fkR t2 H = (gkR t2 H).bind k) : g54_p0 R t0 H fkR = (g54_p0 S t0 H gkR).bind k := by
  delta g54_p0; exact (
    slOf_lin fun s1 =>
    hkR _ _)
noncomputable def g54_r : T54 := fun R t0 H K =>
  g54_p0 R t0 H (fun t2 H =>
    K t2 H)
theorem g54_r_lin : Lin54 (g54_r) := by
  constructor
  intro R S k t0 H f g h
  exact g54_p0_lin (fun t2 H =>
    h _ _)
theorem g54_fn {R : Type} (t0 : Sl) (H : Heap) (K : V → Heap → Option R) : evFn2 Try.prog E54 loopLim lv54 Try.f54 kp54 [(V.sl t0)] H K = g54_r R t0 H (fun r0 H => K (V.sl r0) H) := by
  have h0 : ∀ (t2 : Sl) (H : Heap), kFn2 Try.prog Try.f54.results.toList K .ret [(2, (V.sl t2))] H =
      K (V.sl t2) H := by intros; kernel_rfl
  have e0 := evFn2_code2 (P := Try.prog) (c := c54_0) (E := E54) (lr := loopLim) (lv := lv54) (kp := kp54) (fn := Try.f54) (args := [(V.sl t0)]) H K (by kernel_rfl) (Nat.le_of_ble_eq_true (by kernel_rfl)) (by kernel_rfl) (by kernel_rfl)
  have e1 : ev2 Try.prog E54 loopLim lv54 Try.f54.ntmps kp54 c54_0 (argFr 0 [(V.sl t0)]) H (kFn2 Try.prog Try.f54.results.toList K) = ev2 Try.prog E54 loopLim lv54 Try.f54.ntmps kp54 c54_0 [(0, (V.sl t0))] H (kFn2 Try.prog Try.f54.results.toList K) := by kernel_rfl
  refine (e0.trans e1).trans ?_
  delta g54_r
  exact (g54_p0_eq t0 H (kFn2 Try.prog Try.f54.results.toList K)).trans (congrArg (g54_p0 R t0 H) (funext fun t2 => funext fun H => h0 t2 H))
theorem g54_ok : FunOK Try.prog 54 (w54 (g54_r)) := by
  refine (runF2_ok (E54_good) mixed lim_ok Try.func54 (by kernel_rfl) lv54 kp54).of_le fun R args H K r hk => ?_
  unfold w54 at hk
  split at hk
  · exact (g54_fn _ H K).trans hk
  · cases hk
noncomputable def g54 : T54 := g54_r
theorem g54_lin : Lin54 g54 := g54_r_lin
theorem ok54 : FunOK Try.prog 54 (w54 g54) := g54_ok
def kp36 : Nat → Option (List Nat) := kpOf [(0, [0]), (1, [2]), (300000, [2])]
noncomputable def E36 : FEnv := [(55, w55 g55), (54, w54 g54)]
theorem E36_good : EnvGood Try.prog (E36) := (((EnvGood.nil _).cons ok54 (w54_lin g54_lin)).cons ok55 (w55_lin g55_lin))
theorem E36_lin : EnvLin (E36) := by
  intro g F h
  simp only [E36, List.mem_cons, List.not_mem_nil, or_false] at h
  rcases h with h | h
  · cases h; exact w55_lin g55_lin
  · cases h; exact w54_lin g54_lin
def lv36 : Nat → Bool := lvOf []
noncomputable def b36 : Code := Try.f36.body.getD .skip
noncomputable def c36_0 : Code := (.seq (codeAt [0] b36) (.seq (codeAt [1, 0] b36) .ret))
noncomputable def g36_p0 (R : Type) (t0 : Sl) (H : Heap) (kR : Sl → Heap → Option R) : Option R :=
  g55 R t0 H fun x1 h2 =>
  g54 R x1 h2 fun x3 h4 =>
  kR x3 h4
theorem g36_p0_eq {R : Type} (t0 : Sl) (H : Heap) (K : Ex → Fr → Heap → Option R) : ev2 Try.prog (E36) loopLim lv36 Try.f36.ntmps kp36 c36_0 [(0, (V.sl t0))] H K = g36_p0 R t0 H (fun t2 H => K .ret [(2, (V.sl t2))] H) := by kernel_rfl
theorem g36_p0_lin {R S : Type} {k : S → Option R} {t0 : Sl} {H : Heap} {fkR : Sl → Heap → Option R} {gkR : Sl → Heap → Option S} (hkR : ∀ t2 H, fkR t2 H = (gkR t2 H).bind k) : g36_p0 R t0 H fkR = (g36_p0 S t0 H gkR).bind k := by
  delta g36_p0; exact (
    g55_lin.l fun x1 h2 =>
    g54_lin.l fun x3 h4 =>
    hkR _ _)
noncomputable def g36_r : T36 := fun R t0 H K =>
  g36_p0 R t0 H (fun t2 H =>
    K t2 H)
theorem g36_r_lin : Lin36 (g36_r) := by
  constructor
  intro R S k t0 H f g h
  exact g36_p0_lin (fun t2 H =>
    h _ _)
theorem g36_fn {R : Type} (t0 : Sl) (H : Heap) (K : V → Heap → Option R) : evFn2 Try.prog (E36) loopLim lv36 Try.f36 kp36 [(V.sl t0)] H K = g36_r R t0 H (fun r0 H => K (V.sl r0) H) := by
  have h0 : ∀ (t2 : Sl) (H : Heap), kFn2 Try.prog Try.f36.results.toList K .ret [(2, (V.sl t2))] H =
      K (V.sl t2) H := by intros; kernel_rfl
  have e0 := evFn2_code2 (P := Try.prog) (c := c36_0) (E := (E36)) (lr := loopLim) (lv := lv36) (kp := kp36) (fn := Try.f36) (args := [(V.sl t0)]) H K (by kernel_rfl) (Nat.le_of_ble_eq_true (by kernel_rfl)) (by kernel_rfl) (by kernel_rfl)
  have e1 : ev2 Try.prog (E36) loopLim lv36 Try.f36.ntmps kp36 c36_0 (argFr 0 [(V.sl t0)]) H (kFn2 Try.prog Try.f36.results.toList K) = ev2 Try.prog (E36) loopLim lv36 Try.f36.ntmps kp36 c36_0 [(0, (V.sl t0))] H (kFn2 Try.prog Try.f36.results.toList K) := by kernel_rfl
  refine (e0.trans e1).trans ?_
  delta g36_r
  exact (g36_p0_eq t0 H (kFn2 Try.prog Try.f36.results.toList K)).trans (congrArg (g36_p0 R t0 H) (funext fun t2 => funext fun H => h0 t2 H))
theorem g36_ok : FunOK Try.prog 36 (w36 (g36_r)) := by
  refine (runF2_ok (E36_good) mixed lim_ok Try.func36 (by kernel_rfl) lv36 kp36).of_le fun R args H K r hk => ?_
  unfold w36 at hk
  split at hk
  · exact (g36_fn _ H K).trans hk
  · cases hk
noncomputable def g36 : T36 := g36_r
theorem g36_lin : Lin36 g36 := g36_r_lin
theorem ok36 : FunOK Try.prog 36 (w36 g36) := g36_ok
def kp39 : Nat → Option (List Nat) := kpOf [(0, [0, 1, 5, 500005, 1000005]), (1, [0, 1, 5, 500005, 1000005]), (2, [0, 1, 5, 13, 500005, 1000005]), (3, [0, 1, 5, 500005, 1000005]), (4, [0, 1, 5, 500005, 1000005]), (5, []), (300000, []), (400013, [0, 1, 5, 500005, 1000005])]
def E39 : FEnv := []
theorem E39_good : EnvGood Try.prog E39 := (EnvGood.nil _)
theorem E39_lin : EnvLin E39 := fun g F h => by cases h
def lv39 : Nat → Bool := lvOf [5]
noncomputable def b39 : Code := Try.f39.body.getD .skip
noncomputable def c39_0 : Code := (.seq (codeAt [0] b39) (.seq (codeAt [1, 0] b39) (.seq (codeAt [1, 1, 0, 0] b39) (.seq (.cond (.tmp 13) (codeAt [1, 1, 0, 1, 0] b39) .skip) (.seq (codeAt [1, 1, 1, 0] b39) (codeAt [1, 1, 1, 1] b39))))))
noncomputable def g39_p0 (R : Type) (t0 : Option (Nat × Nat)) (t1 : Option (Nat × Nat)) (t2_0 : Int) (t2_1 : Int) (t2_2 : Int) (t2_3 : Int) (t2_4 : Int) (t2_5 : Int) (t2_6 : Int) (t2_7 : Sl) (H : Heap) (kN : Heap → Option R) : Option R :=
  (t1).bind fun q1 =>
  ((H).ldI .u32 q1.1 (q1.2 + 2)).bind fun x2 =>
  sel (t2_0 != (3 : Int)) (
    (t1).bind fun q3 =>
    ((H).ldI .u32 q3.1 (q3.2 + 0)).bind fun x4 =>
    (t1).bind fun q5 =>
    ((H).st q5.1 ((q5.2 + 5) + 2) (V.i .i64 (0 : Int))).bind fun h7 =>
    (t0).bind fun q8 =>
    ((h7).ldSl q8.1 (q8.2 + 7)).bind fun x9 =>
    (t1).bind fun q10 =>
    ((h7).ldI .u16 q10.1 (q10.2 + 1)).bind fun x11 =>
    alo h7 (.cells [(V.i .u16 x11), (V.i .u8 t2_0), (V.i .u32 x4), (V.i .u32 x2), (V.i .u8 t2_3), (V.i .u8 t2_4), (V.i .u8 t2_5), (V.i .u8 t2_6), (V.sl t2_7)] 71 false) fun i12 h13 =>
    ((h13).ldSl q8.1 (q8.2 + 7)).bind fun x14 =>
    if V.same (V.sl x9) (V.sl x14) = true then (
      ((slCells h13 9 (Sl.mk (some (i12, 0)) 1 (.ex 1)))).bind fun vs17 =>
      appendV h13 71 9 48 x9 (Sl.mk (some (i12, 0)) 1 (.ex 1)).len vs17 fun s15 h16 =>
      (t0).bind fun q18 =>
      ((h16).st q18.1 (q18.2 + 7) (V.sl s15)).bind fun h20 =>
      kN h20)
    else (
      none)) (
    (t1).bind fun q21 =>
    ((H).st q21.1 ((q21.2 + 5) + 2) (V.i .i64 (0 : Int))).bind fun h23 =>
    (t0).bind fun q24 =>
    ((h23).ldSl q24.1 (q24.2 + 7)).bind fun x25 =>
    (t1).bind fun q26 =>
    ((h23).ldI .u16 q26.1 (q26.2 + 1)).bind fun x27 =>
    alo h23 (.cells [(V.i .u16 x27), (V.i .u8 t2_0), (V.i .u32 t2_1), (V.i .u32 x2), (V.i .u8 t2_3), (V.i .u8 t2_4), (V.i .u8 t2_5), (V.i .u8 t2_6), (V.sl t2_7)] 71 false) fun i28 h29 =>
    ((h29).ldSl q24.1 (q24.2 + 7)).bind fun x30 =>
    if V.same (V.sl x25) (V.sl x30) = true then (
      ((slCells h29 9 (Sl.mk (some (i28, 0)) 1 (.ex 1)))).bind fun vs33 =>
      appendV h29 71 9 48 x25 (Sl.mk (some (i28, 0)) 1 (.ex 1)).len vs33 fun s31 h32 =>
      (t0).bind fun q34 =>
      ((h32).st q34.1 (q34.2 + 7) (V.sl s31)).bind fun h36 =>
      kN h36)
    else (
      none))
theorem g39_p0_eq {R : Type} (t0 : Option (Nat × Nat)) (t1 : Option (Nat × Nat)) (t2_0 : Int) (t2_1 : Int) (t2_2 : Int) (t2_3 : Int) (t2_4 : Int) (t2_5 : Int) (t2_6 : Int) (t2_7 : Sl) (H : Heap) (K : Ex → Fr → Heap → Option R) : ev2 Try.prog E39 loopLim lv39 Try.f39.ntmps kp39 c39_0 [(0, (V.p t0)), (1, (V.p t1)), (2, (V.agg [(V.i .u8 t2_0), (V.i .u32 t2_1), (V.i .u32 t2_2), (V.i .u8 t2_3), (V.i .u8 t2_4), (V.i .u8 t2_5), (V.i .u8 t2_6), (V.sl t2_7)]))] H K = g39_p0 R t0 t1 t2_0 t2_1 t2_2 t2_3 t2_4 t2_5 t2_6 t2_7 H (fun H => K .normal [] H) := by kernel_rfl
theorem g39_p0_lin {R S : Type} {k : S → Option R} {t0 : Option (Nat × Nat)} {t1 : Option (Nat × Nat)} {t2_0 : Int} {t2_1 : Int} {t2_2 : Int} {t2_3 : Int} {t2_4 : Int} {t2_5 : Int} {t2_6 : Int} {t2_7 : Sl} {H : Heap} {fkN : Heap → Option R} {gkN : Heap → Option S} (hkN : ∀ H, fkN H = (gkN H).bind k) : g39_p0 R t0 t1 t2_0 t2_1 t2_2 t2_3 t2_4 t2_5 t2_6 t2_7 H fkN = (g39_p0 S t0 t1 t2_0 t2_1 t2_2 t2_3 t2_4 t2_5 t2_6 t2_7 H gkN).bind k := by
  delta g39_p0
  repeat' (first | with_reducible (first | exact hkN _ | refine sl_lin ?_ ?_ | refine alo_lin fun _ _ => ?_ | refine il ?_ ?_ | refine appendV_lin fun _ _ => ?_ | refine bl fun _ => ?_) | exact (rfl : (none : Option R) = (none : Option S).bind k))
noncomputable def g39_r : T39 := fun R t0 t1 t2_0 t2_1 t2_2 t2_3 t2_4 t2_5 t2_6 t2_7 H K =>
  g39_p0 R t0 t1 t2_0 t2_1 t2_2 t2_3 t2_4 t2_5 t2_6 t2_7 H (fun H =>
    K  H)
theorem g39_r_lin : Lin39 (g39_r) := by
  constructor
  intro R S k t0 t1 t2_0 t2_1 t2_2 t2_3 t2_4 t2_5 t2_6 t2_7 H f g h
  exact g39_p0_lin (fun H =>
    h _)
theorem g39_fn {R : Type} (t0 : Option (Nat × Nat)) (t1 : Option (Nat × Nat)) (t2_0 : Int) (t2_1 : Int) (t2_2 : Int) (t2_3 : Int) (t2_4 : Int) (t2_5 : Int) (t2_6 : Int) (t2_7 : Sl) (H : Heap) (K : V → Heap → Option R) : evFn2 Try.prog E39 loopLim lv39 Try.f39 kp39 [(V.p t0), (V.p t1), (V.agg [(V.i .u8 t2_0), (V.i .u32 t2_1), (V.i .u32 t2_2), (V.i .u8 t2_3), (V.i .u8 t2_4), (V.i .u8 t2_5), (V.i .u8 t2_6), (V.sl t2_7)])] H K = g39_r R t0 t1 t2_0 t2_1 t2_2 t2_3 t2_4 t2_5 t2_6 t2_7 H (fun H => K (V.tup []) H) := by
  have h0 : ∀ (H : Heap), kFn2 Try.prog Try.f39.results.toList K .normal [] H =
      K (V.tup []) H := by intros; kernel_rfl
  have e0 := evFn2_code2 (P := Try.prog) (c := c39_0) (E := E39) (lr := loopLim) (lv := lv39) (kp := kp39) (fn := Try.f39) (args := [(V.p t0), (V.p t1), (V.agg [(V.i .u8 t2_0), (V.i .u32 t2_1), (V.i .u32 t2_2), (V.i .u8 t2_3), (V.i .u8 t2_4), (V.i .u8 t2_5), (V.i .u8 t2_6), (V.sl t2_7)])]) H K (by kernel_rfl) (Nat.le_of_ble_eq_true (by kernel_rfl)) (by kernel_rfl) (by kernel_rfl)
  have e1 : ev2 Try.prog E39 loopLim lv39 Try.f39.ntmps kp39 c39_0 (argFr 0 [(V.p t0), (V.p t1), (V.agg [(V.i .u8 t2_0), (V.i .u32 t2_1), (V.i .u32 t2_2), (V.i .u8 t2_3), (V.i .u8 t2_4), (V.i .u8 t2_5), (V.i .u8 t2_6), (V.sl t2_7)])]) H (kFn2 Try.prog Try.f39.results.toList K) = ev2 Try.prog E39 loopLim lv39 Try.f39.ntmps kp39 c39_0 [(0, (V.p t0)), (1, (V.p t1)), (2, (V.agg [(V.i .u8 t2_0), (V.i .u32 t2_1), (V.i .u32 t2_2), (V.i .u8 t2_3), (V.i .u8 t2_4), (V.i .u8 t2_5), (V.i .u8 t2_6), (V.sl t2_7)]))] H (kFn2 Try.prog Try.f39.results.toList K) := by kernel_rfl
  refine (e0.trans e1).trans ?_
  delta g39_r
  exact (g39_p0_eq t0 t1 t2_0 t2_1 t2_2 t2_3 t2_4 t2_5 t2_6 t2_7 H (kFn2 Try.prog Try.f39.results.toList K)).trans (congrArg (g39_p0 R t0 t1 t2_0 t2_1 t2_2 t2_3 t2_4 t2_5 t2_6 t2_7 H) (funext fun H => h0 H))
theorem g39_ok : FunOK Try.prog 39 (w39 (g39_r)) := by
  refine (runF2_ok (E39_good) mixed lim_ok Try.func39 (by kernel_rfl) lv39 kp39).of_le fun R args H K r hk => ?_
  unfold w39 at hk
  split at hk
  · exact (g39_fn _ _ _ _ _ _ _ _ _ _ H K).trans hk
  · cases hk
noncomputable def g39 : T39 := g39_r
theorem g39_lin : Lin39 g39 := g39_r_lin
theorem ok39 : FunOK Try.prog 39 (w39 g39) := g39_ok
def kp18 : Nat → Option (List Nat) := kpOf [(0, [0, 1, 2, 3]), (1, [0, 1, 2, 3, 11]), (2, [8, 9]), (3, [0, 1, 2, 3, 15]), (4, [8, 9]), (5, [0, 1, 2, 3, 26]), (6, [8, 9]), (7, [0, 2, 3, 10]), (8, [0, 2, 3, 10, 35]), (9, [8, 9]), (10, [10]), (11, [8, 9]), (100000, [0, 1, 2, 3]), (200000, [0, 1, 2, 3]), (300000, [8, 9]), (400011, [0, 1, 2, 3]), (400015, [0, 1, 2, 3]), (400026, [0, 1, 2, 3]), (400035, [0, 2, 3, 10])]
noncomputable def E18 : FEnv := [(37, w37 g37), (38, w38 g38), (36, w36 g36), (39, w39 g39)]
theorem E18_good : EnvGood Try.prog (E18) := (((((EnvGood.nil _).cons ok39 (w39_lin g39_lin)).cons ok36 (w36_lin g36_lin)).cons ok38 (w38_lin g38_lin)).cons ok37 (w37_lin g37_lin))
theorem E18_lin : EnvLin (E18) := by
  intro g F h
  simp only [E18, List.mem_cons, List.not_mem_nil, or_false] at h
  rcases h with h | h | h | h
  · cases h; exact w37_lin g37_lin
  · cases h; exact w38_lin g38_lin
  · cases h; exact w36_lin g36_lin
  · cases h; exact w39_lin g39_lin
def lv18 : Nat → Bool := lvOf []
noncomputable def b18 : Code := Try.f18.body.getD .skip
noncomputable def c18_0 : Code := (.seq (codeAt [0] b18) (.seq (.block 0 (.seq (codeAt [1, 0, 0, 0] b18) (.cond (.tmp 11) (.seq (codeAt [1, 0, 0, 1, 0, 0] b18) .ret) (.seq (codeAt [1, 0, 0, 1, 1, 0] b18) (.cond (.tmp 15) (.seq (codeAt [1, 0, 0, 1, 1, 1, 0, 0] b18) .ret) (.seq (codeAt [1, 0, 0, 1, 1, 1, 1, 0] b18) (.cond (.tmp 26) (.seq (codeAt [1, 0, 0, 1, 1, 1, 1, 1, 0, 0] b18) .ret) .skip))))))) (.seq (codeAt [1, 1, 0] b18) (.seq (codeAt [1, 1, 1, 0, 0] b18) (.seq (.cond (.tmp 35) (.seq (codeAt [1, 1, 1, 0, 1, 0, 0] b18) .ret) .skip) (.seq (codeAt [1, 1, 1, 1, 0] b18) (.seq (codeAt [1, 1, 1, 1, 1, 0] b18) .ret)))))))
noncomputable def g18_p0 (R : Type) (t0 : Option (Nat × Nat)) (t1 : Int) (t2 : Int) (t3 : Sl) (H : Heap) (kR : Int → Int → Heap → Option R) : Option R :=
  g37 R t0 H fun x1 h2 =>
  sel (!x1) (
    kR (0 : Int) (2 : Int) h2) (
    sel (decide (t1 > (16383 : Int))) (
      kR (0 : Int) (1 : Int) h2) (
      sel (t2 != (2 : Int)) (
        sel (t2 != (3 : Int)) (
          kR (0 : Int) (1 : Int) h2) (
          sel (decide (((t3.len : Nat) : Int) > (200 : Int))) (
            kR (0 : Int) (3 : Int) h2) (
            g38 R t0 t1 (0 : Int) t2 (1 : Int) h2 fun x3 h4 =>
            sel (Option.isNone x3) (
              kR (0 : Int) (9 : Int) h4) (
              g36 R t3 h4 fun x5 h6 =>
              g39 R t0 x3 (1 : Int) (0 : Int) (0 : Int) t2 (0 : Int) (0 : Int) (0 : Int) x5 h6 fun h7 =>
              (x3).bind fun q8 =>
              ((h7).ldI .u32 q8.1 (q8.2 + 0)).bind fun x9 =>
              kR x9 (0 : Int) h7)))) (
        sel (decide (((t3.len : Nat) : Int) > (200 : Int))) (
          kR (0 : Int) (3 : Int) h2) (
          g38 R t0 t1 (0 : Int) t2 (1 : Int) h2 fun x10 h11 =>
          sel (Option.isNone x10) (
            kR (0 : Int) (9 : Int) h11) (
            g36 R t3 h11 fun x12 h13 =>
            g39 R t0 x10 (1 : Int) (0 : Int) (0 : Int) t2 (0 : Int) (0 : Int) (0 : Int) x12 h13 fun h14 =>
            (x10).bind fun q15 =>
            ((h14).ldI .u32 q15.1 (q15.2 + 0)).bind fun x16 =>
            kR x16 (0 : Int) h14)))))
theorem g18_p0_eq {R : Type} (t0 : Option (Nat × Nat)) (t1 : Int) (t2 : Int) (t3 : Sl) (H : Heap) (K : Ex → Fr → Heap → Option R) : ev2 Try.prog (E18) loopLim lv18 Try.f18.ntmps kp18 c18_0 [(0, (V.p t0)), (1, (V.i .u16 t1)), (2, (V.i .u8 t2)), (3, (V.sl t3))] H K = g18_p0 R t0 t1 t2 t3 H (fun t8 t9 H => K .ret [(8, (V.i .u32 t8)), (9, (V.i .i64 t9))] H) := by kernel_rfl
theorem g18_p0_lin {R S : Type} {k : S → Option R} {t0 : Option (Nat × Nat)} {t1 : Int} {t2 : Int} {t3 : Sl} {H : Heap} {fkR : Int → Int → Heap → Option R} {gkR : Int → Int → Heap → Option S} (hkR : ∀ t8 t9 H, fkR t8 t9 H = (gkR t8 t9 H).bind k) : g18_p0 R t0 t1 t2 t3 H fkR = (g18_p0 S t0 t1 t2 t3 H gkR).bind k := by
  delta g18_p0
  repeat' (first | with_reducible (first | exact hkR _ _ _ | refine g37_lin.l fun _ _ => ?_ | refine sl_lin ?_ ?_ | refine g38_lin.l fun _ _ => ?_ | refine g36_lin.l fun _ _ => ?_ | refine g39_lin.l fun _ => ?_ | refine bl fun _ => ?_) | exact (rfl : (none : Option R) = (none : Option S).bind k))
noncomputable def g18_r : T18 := fun R t0 t1 t2 t3 H K =>
  g18_p0 R t0 t1 t2 t3 H (fun t8 t9 H =>
    K t8 t9 H)
theorem g18_r_lin : Lin18 (g18_r) := by
  constructor
  intro R S k t0 t1 t2 t3 H f g h
  exact g18_p0_lin (fun t8 t9 H =>
    h _ _ _)
theorem g18_fn {R : Type} (t0 : Option (Nat × Nat)) (t1 : Int) (t2 : Int) (t3 : Sl) (H : Heap) (K : V → Heap → Option R) : evFn2 Try.prog (E18) loopLim lv18 Try.f18 kp18 [(V.p t0), (V.i .u16 t1), (V.i .u8 t2), (V.sl t3)] H K = g18_r R t0 t1 t2 t3 H (fun r0 r1 H => K (V.tup [(V.i .u32 r0), (V.i .i64 r1)]) H) := by
  have h0 : ∀ (t8 : Int) (t9 : Int) (H : Heap), kFn2 Try.prog Try.f18.results.toList K .ret [(8, (V.i .u32 t8)), (9, (V.i .i64 t9))] H =
      K (V.tup [(V.i .u32 t8), (V.i .i64 t9)]) H := by intros; kernel_rfl
  have e0 := evFn2_code2 (P := Try.prog) (c := c18_0) (E := (E18)) (lr := loopLim) (lv := lv18) (kp := kp18) (fn := Try.f18) (args := [(V.p t0), (V.i .u16 t1), (V.i .u8 t2), (V.sl t3)]) H K (by kernel_rfl) (Nat.le_of_ble_eq_true (by kernel_rfl)) (by kernel_rfl) (by kernel_rfl)
  have e1 : ev2 Try.prog (E18) loopLim lv18 Try.f18.ntmps kp18 c18_0 (argFr 0 [(V.p t0), (V.i .u16 t1), (V.i .u8 t2), (V.sl t3)]) H (kFn2 Try.prog Try.f18.results.toList K) = ev2 Try.prog (E18) loopLim lv18 Try.f18.ntmps kp18 c18_0 [(0, (V.p t0)), (1, (V.i .u16 t1)), (2, (V.i .u8 t2)), (3, (V.sl t3))] H (kFn2 Try.prog Try.f18.results.toList K) := by kernel_rfl
  refine (e0.trans e1).trans ?_
  delta g18_r
  exact (g18_p0_eq t0 t1 t2 t3 H (kFn2 Try.prog Try.f18.results.toList K)).trans (congrArg (g18_p0 R t0 t1 t2 t3 H) (funext fun t8 => funext fun t9 => funext fun H => h0 t8 t9 H))
theorem g18_ok : FunOK Try.prog 18 (w18 (g18_r)) := by
  refine (runF2_ok (E18_good) mixed lim_ok Try.func18 (by kernel_rfl) lv18 kp18).of_le fun R args H K r hk => ?_
  unfold w18 at hk
  split at hk
  · exact (g18_fn _ _ _ _ H K).trans hk
  · cases hk
noncomputable def g18 : T18 := g18_r
theorem g18_lin : Lin18 g18 := g18_r_lin
theorem ok18 : FunOK Try.prog 18 (w18 g18) := g18_ok
def kp23 : Nat → Option (List Nat) := kpOf [(0, [0]), (1, [0, 5]), (2, [2]), (3, [2]), (300000, [2]), (400005, [0])]
noncomputable def E23 : FEnv := [(37, w37 g37)]
theorem E23_good : EnvGood Try.prog (E23) := ((EnvGood.nil _).cons ok37 (w37_lin g37_lin))
theorem E23_lin : EnvLin (E23) := by
  intro g F h
  simp only [E23, List.mem_cons, List.not_mem_nil, or_false] at h
  rcases h with h
  · cases h; exact w37_lin g37_lin
def lv23 : Nat → Bool := lvOf []
noncomputable def b23 : Code := Try.f23.body.getD .skip
noncomputable def c23_0 : Code := (.seq (codeAt [0] b23) (.seq (codeAt [1, 0, 0] b23) (.seq (.cond (.tmp 5) (.seq (codeAt [1, 0, 1, 0, 0] b23) .ret) .skip) (.seq (codeAt [1, 1, 0] b23) .ret))))
noncomputable def g23_p0 (R : Type) (t0 : Option (Nat × Nat)) (H : Heap) (kR : Int → Heap → Option R) : Option R :=
  g37 R t0 H fun x1 h2 =>
  sel (!x1) (
    kR (0 : Int) h2) (
    (t0).bind fun q3 =>
    ((h2).ldM q3.1 (q3.2 + 5)).bind fun x4 =>
    ((getMap h2 x4)).bind fun m5 =>
    kR ((m5.1.length : Nat) : Int) h2)
theorem g23_p0_eq {R : Type} (t0 : Option (Nat × Nat)) (H : Heap) (K : Ex → Fr → Heap → Option R) : ev2 Try.prog (E23) loopLim lv23 Try.f23.ntmps kp23 c23_0 [(0, (V.p t0))] H K = g23_p0 R t0 H (fun t2 H => K .ret [(2, (V.i .i64 t2))] H) := by kernel_rfl
theorem g23_p0_lin {R S : Type} {k : S → Option R} {t0 : Option (Nat × Nat)} {H : Heap} {fkR : Int → Heap → Option R} {gkR : Int → Heap → Option S} (hkR : ∀ t2 H, fkR t2 H = (gkR t2 H).bind k) : g23_p0 R t0 H fkR = (g23_p0 S t0 H gkR).bind k := by
  delta g23_p0; exact (
    g37_lin.l fun x1 h2 =>
    sl_lin (
      hkR _ _) (
      bl fun q3 =>
      bl fun x4 =>
      bl fun m5 =>
      hkR _ _))
noncomputable def g23_r : T23 := fun R t0 H K =>
  g23_p0 R t0 H (fun t2 H =>
    K t2 H)
theorem g23_r_lin : Lin23 (g23_r) := by
  constructor
  intro R S k t0 H f g h
  exact g23_p0_lin (fun t2 H =>
    h _ _)
theorem g23_fn {R : Type} (t0 : Option (Nat × Nat)) (H : Heap) (K : V → Heap → Option R) : evFn2 Try.prog (E23) loopLim lv23 Try.f23 kp23 [(V.p t0)] H K = g23_r R t0 H (fun r0 H => K (V.i .i64 r0) H) := by
  have h0 : ∀ (t2 : Int) (H : Heap), kFn2 Try.prog Try.f23.results.toList K .ret [(2, (V.i .i64 t2))] H =
      K (V.i .i64 t2) H := by intros; kernel_rfl
  have e0 := evFn2_code2 (P := Try.prog) (c := c23_0) (E := (E23)) (lr := loopLim) (lv := lv23) (kp := kp23) (fn := Try.f23) (args := [(V.p t0)]) H K (by kernel_rfl) (Nat.le_of_ble_eq_true (by kernel_rfl)) (by kernel_rfl) (by kernel_rfl)
  have e1 : ev2 Try.prog (E23) loopLim lv23 Try.f23.ntmps kp23 c23_0 (argFr 0 [(V.p t0)]) H (kFn2 Try.prog Try.f23.results.toList K) = ev2 Try.prog (E23) loopLim lv23 Try.f23.ntmps kp23 c23_0 [(0, (V.p t0))] H (kFn2 Try.prog Try.f23.results.toList K) := by kernel_rfl
  refine (e0.trans e1).trans ?_
  delta g23_r
  exact (g23_p0_eq t0 H (kFn2 Try.prog Try.f23.results.toList K)).trans (congrArg (g23_p0 R t0 H) (funext fun t2 => funext fun H => h0 t2 H))
theorem g23_ok : FunOK Try.prog 23 (w23 (g23_r)) := by
  refine (runF2_ok (E23_good) mixed lim_ok Try.func23 (by kernel_rfl) lv23 kp23).of_le fun R args H K r hk => ?_
  unfold w23 at hk
  split at hk
  · exact (g23_fn _ H K).trans hk
  · cases hk
noncomputable def g23 : T23 := g23_r
theorem g23_lin : Lin23 g23 := g23_r_lin
theorem ok23 : FunOK Try.prog 23 (w23 g23) := g23_ok
def kp15 : Nat → Option (List Nat) := kpOf [(0, [2, 3, 500002, 500003, 1000002, 1000003]), (1, [4]), (300000, [4])]
def E15 : FEnv := []
theorem E15_good : EnvGood Try.prog E15 := (EnvGood.nil _)
theorem E15_lin : EnvLin E15 := fun g F h => by cases h
def lv15 : Nat → Bool := lvOf [2, 3]
noncomputable def b15 : Code := Try.f15.body.getD .skip
noncomputable def c15_0 : Code := (.seq (codeAt [0] b15) (.seq (codeAt [1, 0] b15) .ret))
noncomputable def g15_p0 (R : Type) (t0_0 : Int) (t0_1 : Int) (t0_2 : Int) (t0_3 : Int) (t0_4 : Int) (t0_5 : Int) (t0_6 : Int) (t0_7 : Sl) (t1_0 : Int) (t1_1 : Int) (t1_2 : Int) (t1_3 : Int) (t1_4 : Int) (t1_5 : Int) (t1_6 : Int) (t1_7 : Sl) (H : Heap) (kR : Bool → Heap → Option R) : Option R :=
  sel (t0_0 == t1_0) (
    sel (t0_1 == t1_1) (
      sel (t0_2 == t1_2) (
        sel (t0_3 == t1_3) (
          sel (t0_4 == t1_4) (
            sel (t0_5 == t1_5) (
              sel (t0_6 == t1_6) (
                ((slBytes H t0_7)).bind fun x1 =>
                ((slBytes H t1_7)).bind fun x2 =>
                kR (strEq x1 x2) H) (
                kR false H)) (
              kR false H)) (
            kR false H)) (
          kR false H)) (
        kR false H)) (
      kR false H)) (
    kR false H)
theorem g15_p0_eq {R : Type} (t0_0 : Int) (t0_1 : Int) (t0_2 : Int) (t0_3 : Int) (t0_4 : Int) (t0_5 : Int) (t0_6 : Int) (t0_7 : Sl) (t1_0 : Int) (t1_1 : Int) (t1_2 : Int) (t1_3 : Int) (t1_4 : Int) (t1_5 : Int) (t1_6 : Int) (t1_7 : Sl) (H : Heap) (K : Ex → Fr → Heap → Option R) : ev2 Try.prog E15 loopLim lv15 Try.f15.ntmps kp15 c15_0 [(0, (V.agg [(V.i .u8 t0_0), (V.i .u32 t0_1), (V.i .u32 t0_2), (V.i .u8 t0_3), (V.i .u8 t0_4), (V.i .u8 t0_5), (V.i .u8 t0_6), (V.sl t0_7)])), (1, (V.agg [(V.i .u8 t1_0), (V.i .u32 t1_1), (V.i .u32 t1_2), (V.i .u8 t1_3), (V.i .u8 t1_4), (V.i .u8 t1_5), (V.i .u8 t1_6), (V.sl t1_7)]))] H K = g15_p0 R t0_0 t0_1 t0_2 t0_3 t0_4 t0_5 t0_6 t0_7 t1_0 t1_1 t1_2 t1_3 t1_4 t1_5 t1_6 t1_7 H (fun t4 H => K .ret [(4, (V.b t4))] H) := by kernel_rfl
theorem g15_p0_lin {R S : Type} {k : S → Option R} {t0_0 : Int} {t0_1 : Int} {t0_2 : Int} {t0_3 : Int} {t0_4 : Int} {t0_5 : Int} {t0_6 : Int} {t0_7 : Sl} {t1_0 : Int} {t1_1 : Int} {t1_2 : Int} {t1_3 : Int} {t1_4 : Int} {t1_5 : Int} {t1_6 : Int} {t1_7 : Sl} {H : Heap} {fkR : Bool → Heap → Option R} {gkR : Bool → Heap → Option S} (hkR : ∀ t4 H, fkR t4 H = (gkR t4 H).bind k) : g15_p0 R t0_0 t0_1 t0_2 t0_3 t0_4 t0_5 t0_6 t0_7 t1_0 t1_1 t1_2 t1_3 t1_4 t1_5 t1_6 t1_7 H fkR = (g15_p0 S t0_0 t0_1 t0_2 t0_3 t0_4 t0_5 t0_6 t0_7 t1_0 t1_1 t1_2 t1_3 t1_4 t1_5 t1_6 t1_7 H gkR).bind k := by
  delta g15_p0; exact (
    sl_lin (
      sl_lin (
        sl_lin (
          sl_lin (
            sl_lin (
              sl_lin (
                sl_lin (
                  bl fun x1 =>
                  bl fun x2 =>
                  hkR _ _) (
                  hkR _ _)) (
                hkR _ _)) (
              hkR _ _)) (
            hkR _ _)) (
          hkR _ _)) (
        hkR _ _)) (
      hkR _ _))
noncomputable def g15_r : T15 := fun R t0_0 t0_1 t0_2 t0_3 t0_4 t0_5 t0_6 t0_7 t1_0 t1_1 t1_2 t1_3 t1_4 t1_5 t1_6 t1_7 H K =>
  g15_p0 R t0_0 t0_1 t0_2 t0_3 t0_4 t0_5 t0_6 t0_7 t1_0 t1_1 t1_2 t1_3 t1_4 t1_5 t1_6 t1_7 H (fun t4 H =>
    K t4 H)
theorem g15_r_lin : Lin15 (g15_r) := by
  constructor
  intro R S k t0_0 t0_1 t0_2 t0_3 t0_4 t0_5 t0_6 t0_7 t1_0 t1_1 t1_2 t1_3 t1_4 t1_5 t1_6 t1_7 H f g h
  exact g15_p0_lin (fun t4 H =>
    h _ _)
theorem g15_fn {R : Type} (t0_0 : Int) (t0_1 : Int) (t0_2 : Int) (t0_3 : Int) (t0_4 : Int) (t0_5 : Int) (t0_6 : Int) (t0_7 : Sl) (t1_0 : Int) (t1_1 : Int) (t1_2 : Int) (t1_3 : Int) (t1_4 : Int) (t1_5 : Int) (t1_6 : Int) (t1_7 : Sl) (H : Heap) (K : V → Heap → Option R) : evFn2 Try.prog E15 loopLim lv15 Try.f15 kp15 [(V.agg [(V.i .u8 t0_0), (V.i .u32 t0_1), (V.i .u32 t0_2), (V.i .u8 t0_3), (V.i .u8 t0_4), (V.i .u8 t0_5), (V.i .u8 t0_6), (V.sl t0_7)]), (V.agg [(V.i .u8 t1_0), (V.i .u32 t1_1), (V.i .u32 t1_2), (V.i .u8 t1_3), (V.i .u8 t1_4), (V.i .u8 t1_5), (V.i .u8 t1_6), (V.sl t1_7)])] H K = g15_r R t0_0 t0_1 t0_2 t0_3 t0_4 t0_5 t0_6 t0_7 t1_0 t1_1 t1_2 t1_3 t1_4 t1_5 t1_6 t1_7 H (fun r0 H => K (V.b r0) H) := by
  have h0 : ∀ (t4 : Bool) (H : Heap), kFn2 Try.prog Try.f15.results.toList K .ret [(4, (V.b t4))] H =
      K (V.b t4) H := by intros; kernel_rfl
  have e0 := evFn2_code2 (P := Try.prog) (c := c15_0) (E := E15) (lr := loopLim) (lv := lv15) (kp := kp15) (fn := Try.f15) (args := [(V.agg [(V.i .u8 t0_0), (V.i .u32 t0_1), (V.i .u32 t0_2), (V.i .u8 t0_3), (V.i .u8 t0_4), (V.i .u8 t0_5), (V.i .u8 t0_6), (V.sl t0_7)]), (V.agg [(V.i .u8 t1_0), (V.i .u32 t1_1), (V.i .u32 t1_2), (V.i .u8 t1_3), (V.i .u8 t1_4), (V.i .u8 t1_5), (V.i .u8 t1_6), (V.sl t1_7)])]) H K (by kernel_rfl) (Nat.le_of_ble_eq_true (by kernel_rfl)) (by kernel_rfl) (by kernel_rfl)
  have e1 : ev2 Try.prog E15 loopLim lv15 Try.f15.ntmps kp15 c15_0 (argFr 0 [(V.agg [(V.i .u8 t0_0), (V.i .u32 t0_1), (V.i .u32 t0_2), (V.i .u8 t0_3), (V.i .u8 t0_4), (V.i .u8 t0_5), (V.i .u8 t0_6), (V.sl t0_7)]), (V.agg [(V.i .u8 t1_0), (V.i .u32 t1_1), (V.i .u32 t1_2), (V.i .u8 t1_3), (V.i .u8 t1_4), (V.i .u8 t1_5), (V.i .u8 t1_6), (V.sl t1_7)])]) H (kFn2 Try.prog Try.f15.results.toList K) = ev2 Try.prog E15 loopLim lv15 Try.f15.ntmps kp15 c15_0 [(0, (V.agg [(V.i .u8 t0_0), (V.i .u32 t0_1), (V.i .u32 t0_2), (V.i .u8 t0_3), (V.i .u8 t0_4), (V.i .u8 t0_5), (V.i .u8 t0_6), (V.sl t0_7)])), (1, (V.agg [(V.i .u8 t1_0), (V.i .u32 t1_1), (V.i .u32 t1_2), (V.i .u8 t1_3), (V.i .u8 t1_4), (V.i .u8 t1_5), (V.i .u8 t1_6), (V.sl t1_7)]))] H (kFn2 Try.prog Try.f15.results.toList K) := by kernel_rfl
  refine (e0.trans e1).trans ?_
  delta g15_r
  exact (g15_p0_eq t0_0 t0_1 t0_2 t0_3 t0_4 t0_5 t0_6 t0_7 t1_0 t1_1 t1_2 t1_3 t1_4 t1_5 t1_6 t1_7 H (kFn2 Try.prog Try.f15.results.toList K)).trans (congrArg (g15_p0 R t0_0 t0_1 t0_2 t0_3 t0_4 t0_5 t0_6 t0_7 t1_0 t1_1 t1_2 t1_3 t1_4 t1_5 t1_6 t1_7 H) (funext fun t4 => funext fun H => h0 t4 H))
theorem g15_ok : FunOK Try.prog 15 (w15 (g15_r)) := by
  refine (runF2_ok (E15_good) mixed lim_ok Try.func15 (by kernel_rfl) lv15 kp15).of_le fun R args H K r hk => ?_
  unfold w15 at hk
  split at hk
  · exact (g15_fn _ _ _ _ _ _ _ _ _ _ _ _ _ _ _ _ H K).trans hk
  · cases hk
noncomputable def g15 : T15 := g15_r
theorem g15_lin : Lin15 g15 := g15_r_lin
theorem ok15 : FunOK Try.prog 15 (w15 g15) := g15_ok
end Go.Proofs.Ytnlfkllnmobppaa

