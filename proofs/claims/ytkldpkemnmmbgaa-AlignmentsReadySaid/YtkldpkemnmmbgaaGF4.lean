/- Printed: functions as the machine runs them. -/
import Derived.Test.YtkldpkemnmmbgaaGT
namespace Go.Proofs.Ytkldpkemnmmbgaa
open Go AM Go.RowKit
set_option linter.unusedVariables false
def kp18 : Nat → Option (List Nat) := kpOf [(0, [0]), (1, [0, 4]), (2, [2]), (3, [2]), (300000, [2]), (400004, [0])]
def E18 : FEnv := []
theorem E18_good : EnvGood Try.prog E18 := (EnvGood.nil _)
theorem E18_lin : EnvLin E18 := fun g F h => by cases h
noncomputable def b18 : Code := Try.f18.body.getD .skip
noncomputable def c18_0 : Code := (.seq (codeAt [0] b18) (.seq (codeAt [1, 0, 0] b18) (.seq (.cond (.tmp 4) (.seq (codeAt [1, 0, 1, 0, 0] b18) .ret) .skip) (.seq (codeAt [1, 1, 0] b18) .ret))))
noncomputable def g18_p0 (R : Type) (t0 : Option (Nat × Nat)) (H : Heap) (kR : Int → Heap → Option R) : Option R :=
  sel (Option.isNone t0) (
    kR (0 : Int) H) (
    (t0).bind fun q1 =>
    ((H).ldI .i64 q1.1 (q1.2 + 8)).bind fun x2 =>
    kR x2 H)
theorem g18_p0_eq {R : Type} (t0 : Option (Nat × Nat)) (H : Heap) (K : Ex → Fr → Heap → Option R) : ev Try.prog E18 loopLim Try.f18.ntmps kp18 c18_0 [(0, (V.p t0))] H K = g18_p0 R t0 H (fun t2 H => K .ret [(2, (V.i .i64 t2))] H) := by kernel_rfl
theorem g18_p0_lin {R S : Type} {k : S → Option R} {t0 : Option (Nat × Nat)} {H : Heap} {fkR : Int → Heap → Option R} {gkR : Int → Heap → Option S} (hkR : ∀ t2 H, fkR t2 H = (gkR t2 H).bind k) : g18_p0 R t0 H fkR = (g18_p0 S t0 H gkR).bind k := by
  delta g18_p0; exact (
    sl_lin (
      hkR _ _) (
      bl fun q1 =>
      bl fun x2 =>
      hkR _ _))
noncomputable def g18_r : T18 := fun R t0 H K =>
  g18_p0 R t0 H (fun t2 H =>
    K t2 H)
theorem g18_r_lin : Lin18 (g18_r) := by
  constructor
  intro R S k t0 H f g h
  exact g18_p0_lin (fun t2 H =>
    h _ _)
theorem g18_fn {R : Type} (t0 : Option (Nat × Nat)) (H : Heap) (K : V → Heap → Option R) : evFn Try.prog E18 loopLim Try.f18 kp18 [(V.p t0)] H K = g18_r R t0 H (fun r0 H => K (V.i .i64 r0) H) := by
  have h0 : ∀ (t2 : Int) (H : Heap), kFn Try.prog Try.f18.results.toList K .ret [(2, (V.i .i64 t2))] H =
      K (V.i .i64 t2) H := by intros; kernel_rfl
  have e0 := evFn_code2 (P := Try.prog) (c := c18_0) (E := E18) (lr := loopLim) (kp := kp18) (fn := Try.f18) (args := [(V.p t0)]) H K (by kernel_rfl) (Nat.le_of_ble_eq_true (by kernel_rfl)) (by kernel_rfl)
  have e1 : ev Try.prog E18 loopLim Try.f18.ntmps kp18 c18_0 (argFr 0 [(V.p t0)]) H (kFn Try.prog Try.f18.results.toList K) = ev Try.prog E18 loopLim Try.f18.ntmps kp18 c18_0 [(0, (V.p t0))] H (kFn Try.prog Try.f18.results.toList K) := by kernel_rfl
  refine (e0.trans e1).trans ?_
  delta g18_r
  exact (g18_p0_eq t0 H (kFn Try.prog Try.f18.results.toList K)).trans (congrArg (g18_p0 R t0 H) (funext fun t2 => funext fun H => h0 t2 H))
theorem g18_ok : FunOK Try.prog 18 (w18 (g18_r)) := by
  refine (runF_ok (E18_good) mixed lim_ok Try.func18 (by kernel_rfl) kp18).of_le fun R args H K r hk => ?_
  unfold w18 at hk
  split at hk
  · exact (g18_fn _ H K).trans hk
  · cases hk
def kp61 : Nat → Option (List Nat) := kpOf [(0, [0, 1, 2]), (1, [6]), (300000, [6])]
def E61 : FEnv := []
theorem E61_good : EnvGood Try.prog E61 := (EnvGood.nil _)
theorem E61_lin : EnvLin E61 := fun g F h => by cases h
noncomputable def b61 : Code := Try.f61.body.getD .skip
noncomputable def c61_0 : Code := (.seq (codeAt [0] b61) (.seq (codeAt [1, 0] b61) .ret))
noncomputable def g61_p0 (R : Type) (t0 : Int) (t1 : Int) (t2 : Int) (H : Heap) (kR : Int → Heap → Option R) : Option R :=
  kR (if (if t2 < t0 then t2 else t0) > t1 then (if t2 < t0 then t2 else t0) else t1) H
theorem g61_p0_eq {R : Type} (t0 : Int) (t1 : Int) (t2 : Int) (H : Heap) (K : Ex → Fr → Heap → Option R) : ev Try.prog E61 loopLim Try.f61.ntmps kp61 c61_0 [(0, (V.i .i64 t0)), (1, (V.i .i64 t1)), (2, (V.i .i64 t2))] H K = g61_p0 R t0 t1 t2 H (fun t6 H => K .ret [(6, (V.i .i64 t6))] H) := by kernel_rfl
theorem g61_p0_lin {R S : Type} {k : S → Option R} {t0 : Int} {t1 : Int} {t2 : Int} {H : Heap} {fkR : Int → Heap → Option R} {gkR : Int → Heap → Option S} (hkR : ∀ t6 H, fkR t6 H = (gkR t6 H).bind k) : g61_p0 R t0 t1 t2 H fkR = (g61_p0 S t0 t1 t2 H gkR).bind k := by
  delta g61_p0; exact (
    hkR _ _)
noncomputable def g61_r : T61 := fun R t0 t1 t2 H K =>
  g61_p0 R t0 t1 t2 H (fun t6 H =>
    K t6 H)
theorem g61_r_lin : Lin61 (g61_r) := by
  constructor
  intro R S k t0 t1 t2 H f g h
  exact g61_p0_lin (fun t6 H =>
    h _ _)
theorem g61_fn {R : Type} (t0 : Int) (t1 : Int) (t2 : Int) (H : Heap) (K : V → Heap → Option R) : evFn Try.prog E61 loopLim Try.f61 kp61 [(V.i .i64 t0), (V.i .i64 t1), (V.i .i64 t2)] H K = g61_r R t0 t1 t2 H (fun r0 H => K (V.i .i64 r0) H) := by
  have h0 : ∀ (t6 : Int) (H : Heap), kFn Try.prog Try.f61.results.toList K .ret [(6, (V.i .i64 t6))] H =
      K (V.i .i64 t6) H := by intros; kernel_rfl
  have e0 := evFn_code2 (P := Try.prog) (c := c61_0) (E := E61) (lr := loopLim) (kp := kp61) (fn := Try.f61) (args := [(V.i .i64 t0), (V.i .i64 t1), (V.i .i64 t2)]) H K (by kernel_rfl) (Nat.le_of_ble_eq_true (by kernel_rfl)) (by kernel_rfl)
  have e1 : ev Try.prog E61 loopLim Try.f61.ntmps kp61 c61_0 (argFr 0 [(V.i .i64 t0), (V.i .i64 t1), (V.i .i64 t2)]) H (kFn Try.prog Try.f61.results.toList K) = ev Try.prog E61 loopLim Try.f61.ntmps kp61 c61_0 [(0, (V.i .i64 t0)), (1, (V.i .i64 t1)), (2, (V.i .i64 t2))] H (kFn Try.prog Try.f61.results.toList K) := by kernel_rfl
  refine (e0.trans e1).trans ?_
  delta g61_r
  exact (g61_p0_eq t0 t1 t2 H (kFn Try.prog Try.f61.results.toList K)).trans (congrArg (g61_p0 R t0 t1 t2 H) (funext fun t6 => funext fun H => h0 t6 H))
theorem g61_ok : FunOK Try.prog 61 (w61 (g61_r)) := by
  refine (runF_ok (E61_good) mixed lim_ok Try.func61 (by kernel_rfl) kp61).of_le fun R args H K r hk => ?_
  unfold w61 at hk
  split at hk
  · exact (g61_fn _ _ _ H K).trans hk
  · cases hk
def kp60 : Nat → Option (List Nat) := kpOf [(0, []), (300000, [])]
def E60 (a61 : T61) : FEnv := [(61, w61 a61)]
theorem E60_good {a61 : T61} (oa61 : FunOK Try.prog 61 (w61 a61)) (la61 : Lin61 a61) : EnvGood Try.prog (E60 a61) := ((EnvGood.nil _).cons oa61 (w61_lin la61))
theorem E60_lin {a61 : T61} (la61 : Lin61 a61) : EnvLin (E60 a61) := by
  intro g F h
  simp only [E60, List.mem_cons, List.not_mem_nil, or_false] at h
  rcases h with h
  · cases h; exact w61_lin la61
noncomputable def b60 : Code := Try.f60.body.getD .skip
noncomputable def c60_0 : Code := (codeAt [] b60)
noncomputable def g60_p0 (a61 : T61) (R : Type) (t0 : Option (Nat × Nat)) (t1 : Int) (H : Heap) (kN : Heap → Option R) : Option R :=
  (t0).bind fun q1 =>
  ((H).ldI .i64 q1.1 (q1.2 + 0)).bind fun x2 =>
  (t0).bind fun q3 =>
  ((H).ldI .i64 q3.1 (q3.2 + 1)).bind fun x4 =>
  a61 R (IntKind.wrap .i64 (x2 + t1)) (0 : Int) x4 H fun x5 h6 =>
  (t0).bind fun q7 =>
  ((h6).st q7.1 (q7.2 + 0) (V.i .i64 x5)).bind fun h9 =>
  kN h9
theorem g60_p0_eq (a61 : T61) (la61 : Lin61 a61) {R : Type} (t0 : Option (Nat × Nat)) (t1 : Int) (H : Heap) (K : Ex → Fr → Heap → Option R) : ev Try.prog (E60 a61) loopLim Try.f60.ntmps kp60 c60_0 [(0, (V.p t0)), (1, (V.i .i64 t1))] H K = g60_p0 a61 R t0 t1 H (fun H => K .normal [] H) := by kernel_rfl
theorem g60_p0_lin {a61 : T61} (la61 : Lin61 a61) {R S : Type} {k : S → Option R} {t0 : Option (Nat × Nat)} {t1 : Int} {H : Heap} {fkN : Heap → Option R} {gkN : Heap → Option S} (hkN : ∀ H, fkN H = (gkN H).bind k) : g60_p0 a61 R t0 t1 H fkN = (g60_p0 a61 S t0 t1 H gkN).bind k := by
  delta g60_p0; exact (
    bl fun q1 =>
    bl fun x2 =>
    bl fun q3 =>
    bl fun x4 =>
    la61.l fun x5 h6 =>
    bl fun q7 =>
    bl fun h9 =>
    hkN _)
noncomputable def g60_r (a61 : T61) : T60 := fun R t0 t1 H K =>
  g60_p0 a61 R t0 t1 H (fun H =>
    K  H)
theorem g60_r_lin {a61 : T61} (la61 : Lin61 a61) : Lin60 (g60_r a61) := by
  constructor
  intro R S k t0 t1 H f g h
  exact g60_p0_lin la61 (fun H =>
    h _)
theorem g60_fn (a61 : T61) (la61 : Lin61 a61) {R : Type} (t0 : Option (Nat × Nat)) (t1 : Int) (H : Heap) (K : V → Heap → Option R) : evFn Try.prog (E60 a61) loopLim Try.f60 kp60 [(V.p t0), (V.i .i64 t1)] H K = g60_r a61 R t0 t1 H (fun H => K (V.tup []) H) := by
  have h0 : ∀ (H : Heap), kFn Try.prog Try.f60.results.toList K .normal [] H =
      K (V.tup []) H := by intros; kernel_rfl
  have e0 := evFn_code2 (P := Try.prog) (c := c60_0) (E := (E60 a61)) (lr := loopLim) (kp := kp60) (fn := Try.f60) (args := [(V.p t0), (V.i .i64 t1)]) H K (by kernel_rfl) (Nat.le_of_ble_eq_true (by kernel_rfl)) (by kernel_rfl)
  have e1 : ev Try.prog (E60 a61) loopLim Try.f60.ntmps kp60 c60_0 (argFr 0 [(V.p t0), (V.i .i64 t1)]) H (kFn Try.prog Try.f60.results.toList K) = ev Try.prog (E60 a61) loopLim Try.f60.ntmps kp60 c60_0 [(0, (V.p t0)), (1, (V.i .i64 t1))] H (kFn Try.prog Try.f60.results.toList K) := by kernel_rfl
  refine (e0.trans e1).trans ?_
  delta g60_r
  exact (g60_p0_eq a61 la61 t0 t1 H (kFn Try.prog Try.f60.results.toList K)).trans (congrArg (g60_p0 a61 R t0 t1 H) (funext fun H => h0 H))
theorem g60_ok {a61 : T61} (oa61 : FunOK Try.prog 61 (w61 a61)) (la61 : Lin61 a61) : FunOK Try.prog 60 (w60 (g60_r a61)) := by
  refine (runF_ok (E60_good oa61 la61) mixed lim_ok Try.func60 (by kernel_rfl) kp60).of_le fun R args H K r hk => ?_
  unfold w60 at hk
  split at hk
  · exact (g60_fn a61 la61 _ _ H K).trans hk
  · cases hk
def kp56 : Nat → Option (List Nat) := kpOf [(0, [0, 5]), (1, []), (300000, []), (400005, [])]
def E56 (a60 : T60) : FEnv := [(60, w60 a60)]
theorem E56_good {a60 : T60} (oa60 : FunOK Try.prog 60 (w60 a60)) (la60 : Lin60 a60) : EnvGood Try.prog (E56 a60) := ((EnvGood.nil _).cons oa60 (w60_lin la60))
theorem E56_lin {a60 : T60} (la60 : Lin60 a60) : EnvLin (E56 a60) := by
  intro g F h
  simp only [E56, List.mem_cons, List.not_mem_nil, or_false] at h
  rcases h with h
  · cases h; exact w60_lin la60
noncomputable def b56 : Code := Try.f56.body.getD .skip
noncomputable def c56_0 : Code := (.seq (codeAt [0] b56) (.cond (.tmp 5) (codeAt [1, 0] b56) .skip))
noncomputable def g56_p0 (a60 : T60) (R : Type) (t0 : Option (Nat × Nat)) (t1 : Bool) (H : Heap) (kN : Heap → Option R) : Option R :=
  sel (!t1) (
    (t0).bind fun q1 =>
    a60 R (some (q1.1, (q1.2 + 0))) (1 : Int) H fun h2 =>
    kN h2) (
    kN H)
theorem g56_p0_eq (a60 : T60) (la60 : Lin60 a60) {R : Type} (t0 : Option (Nat × Nat)) (t1 : Bool) (H : Heap) (K : Ex → Fr → Heap → Option R) : ev Try.prog (E56 a60) loopLim Try.f56.ntmps kp56 c56_0 [(0, (V.p t0)), (1, (V.b t1))] H K = g56_p0 a60 R t0 t1 H (fun H => K .normal [] H) := by kernel_rfl
theorem g56_p0_lin {a60 : T60} (la60 : Lin60 a60) {R S : Type} {k : S → Option R} {t0 : Option (Nat × Nat)} {t1 : Bool} {H : Heap} {fkN : Heap → Option R} {gkN : Heap → Option S} (hkN : ∀ H, fkN H = (gkN H).bind k) : g56_p0 a60 R t0 t1 H fkN = (g56_p0 a60 S t0 t1 H gkN).bind k := by
  delta g56_p0; exact (
    sl_lin (
      bl fun q1 =>
      la60.l fun h2 =>
      hkN _) (
      hkN _))
noncomputable def g56_r (a60 : T60) : T56 := fun R t0 t1 H K =>
  g56_p0 a60 R t0 t1 H (fun H =>
    K  H)
theorem g56_r_lin {a60 : T60} (la60 : Lin60 a60) : Lin56 (g56_r a60) := by
  constructor
  intro R S k t0 t1 H f g h
  exact g56_p0_lin la60 (fun H =>
    h _)
theorem g56_fn (a60 : T60) (la60 : Lin60 a60) {R : Type} (t0 : Option (Nat × Nat)) (t1 : Bool) (H : Heap) (K : V → Heap → Option R) : evFn Try.prog (E56 a60) loopLim Try.f56 kp56 [(V.p t0), (V.b t1)] H K = g56_r a60 R t0 t1 H (fun H => K (V.tup []) H) := by
  have h0 : ∀ (H : Heap), kFn Try.prog Try.f56.results.toList K .normal [] H =
      K (V.tup []) H := by intros; kernel_rfl
  have e0 := evFn_code2 (P := Try.prog) (c := c56_0) (E := (E56 a60)) (lr := loopLim) (kp := kp56) (fn := Try.f56) (args := [(V.p t0), (V.b t1)]) H K (by kernel_rfl) (Nat.le_of_ble_eq_true (by kernel_rfl)) (by kernel_rfl)
  have e1 : ev Try.prog (E56 a60) loopLim Try.f56.ntmps kp56 c56_0 (argFr 0 [(V.p t0), (V.b t1)]) H (kFn Try.prog Try.f56.results.toList K) = ev Try.prog (E56 a60) loopLim Try.f56.ntmps kp56 c56_0 [(0, (V.p t0)), (1, (V.b t1))] H (kFn Try.prog Try.f56.results.toList K) := by kernel_rfl
  refine (e0.trans e1).trans ?_
  delta g56_r
  exact (g56_p0_eq a60 la60 t0 t1 H (kFn Try.prog Try.f56.results.toList K)).trans (congrArg (g56_p0 a60 R t0 t1 H) (funext fun H => h0 H))
theorem g56_ok {a60 : T60} (oa60 : FunOK Try.prog 60 (w60 a60)) (la60 : Lin60 a60) : FunOK Try.prog 56 (w56 (g56_r a60)) := by
  refine (runF_ok (E56_good oa60 la60) mixed lim_ok Try.func56 (by kernel_rfl) kp56).of_le fun R args H K r hk => ?_
  unfold w56 at hk
  split at hk
  · exact (g56_fn a60 la60 _ _ H K).trans hk
  · cases hk
def kp58 : Nat → Option (List Nat) := kpOf [(0, [0]), (1, [2]), (300000, [2])]
def E58 : FEnv := []
theorem E58_good : EnvGood Try.prog E58 := (EnvGood.nil _)
theorem E58_lin : EnvLin E58 := fun g F h => by cases h
noncomputable def b58 : Code := Try.f58.body.getD .skip
noncomputable def c58_0 : Code := (.seq (codeAt [0] b58) (.seq (codeAt [1, 0] b58) .ret))
noncomputable def g58_p0 (R : Type) (t0 : Option (Nat × Nat)) (H : Heap) (kR : Bool → Heap → Option R) : Option R :=
  (t0).bind fun q1 =>
  ((H).ldI .i64 q1.1 (q1.2 + 0)).bind fun x2 =>
  (t0).bind fun q3 =>
  ((H).ldI .i64 q3.1 (q3.2 + 1)).bind fun x4 =>
  kR (x2 == x4) H
theorem g58_p0_eq {R : Type} (t0 : Option (Nat × Nat)) (H : Heap) (K : Ex → Fr → Heap → Option R) : ev Try.prog E58 loopLim Try.f58.ntmps kp58 c58_0 [(0, (V.p t0))] H K = g58_p0 R t0 H (fun t2 H => K .ret [(2, (V.b t2))] H) := by kernel_rfl
theorem g58_p0_lin {R S : Type} {k : S → Option R} {t0 : Option (Nat × Nat)} {H : Heap} {fkR : Bool → Heap → Option R} {gkR : Bool → Heap → Option S} (hkR : ∀ t2 H, fkR t2 H = (gkR t2 H).bind k) : g58_p0 R t0 H fkR = (g58_p0 S t0 H gkR).bind k := by
  delta g58_p0; exact (
    bl fun q1 =>
    bl fun x2 =>
    bl fun q3 =>
    bl fun x4 =>
    hkR _ _)
noncomputable def g58_r : T58 := fun R t0 H K =>
  g58_p0 R t0 H (fun t2 H =>
    K t2 H)
theorem g58_r_lin : Lin58 (g58_r) := by
  constructor
  intro R S k t0 H f g h
  exact g58_p0_lin (fun t2 H =>
    h _ _)
theorem g58_fn {R : Type} (t0 : Option (Nat × Nat)) (H : Heap) (K : V → Heap → Option R) : evFn Try.prog E58 loopLim Try.f58 kp58 [(V.p t0)] H K = g58_r R t0 H (fun r0 H => K (V.b r0) H) := by
  have h0 : ∀ (t2 : Bool) (H : Heap), kFn Try.prog Try.f58.results.toList K .ret [(2, (V.b t2))] H =
      K (V.b t2) H := by intros; kernel_rfl
  have e0 := evFn_code2 (P := Try.prog) (c := c58_0) (E := E58) (lr := loopLim) (kp := kp58) (fn := Try.f58) (args := [(V.p t0)]) H K (by kernel_rfl) (Nat.le_of_ble_eq_true (by kernel_rfl)) (by kernel_rfl)
  have e1 : ev Try.prog E58 loopLim Try.f58.ntmps kp58 c58_0 (argFr 0 [(V.p t0)]) H (kFn Try.prog Try.f58.results.toList K) = ev Try.prog E58 loopLim Try.f58.ntmps kp58 c58_0 [(0, (V.p t0))] H (kFn Try.prog Try.f58.results.toList K) := by kernel_rfl
  refine (e0.trans e1).trans ?_
  delta g58_r
  exact (g58_p0_eq t0 H (kFn Try.prog Try.f58.results.toList K)).trans (congrArg (g58_p0 R t0 H) (funext fun t2 => funext fun H => h0 t2 H))
theorem g58_ok : FunOK Try.prog 58 (w58 (g58_r)) := by
  refine (runF_ok (E58_good) mixed lim_ok Try.func58 (by kernel_rfl) kp58).of_le fun R args H K r hk => ?_
  unfold w58 at hk
  split at hk
  · exact (g58_fn _ H K).trans hk
  · cases hk
def kp19 : Nat → Option (List Nat) := kpOf [(0, [0]), (1, [0, 4]), (2, [2]), (3, [0, 9]), (4, [2]), (5, [0]), (6, []), (7, [0, 17]), (8, [0, 24]), (9, []), (10, [2]), (100000, []), (200000, [0]), (300000, [2]), (400004, [0]), (400009, [0]), (400017, []), (400024, [])]
def E19 (a28 : T28) (a56 : T56) (a58 : T58) (a29 : T29) : FEnv := [(28, w28 a28), (56, w56 a56), (58, w58 a58), (29, w29 a29)]
theorem E19_good {a28 : T28} {a56 : T56} {a58 : T58} {a29 : T29} (oa28 : FunOK Try.prog 28 (w28 a28)) (oa56 : FunOK Try.prog 56 (w56 a56)) (oa58 : FunOK Try.prog 58 (w58 a58)) (oa29 : FunOK Try.prog 29 (w29 a29)) (la28 : Lin28 a28) (la56 : Lin56 a56) (la58 : Lin58 a58) (la29 : Lin29 a29) : EnvGood Try.prog (E19 a28 a56 a58 a29) := (((((EnvGood.nil _).cons oa29 (w29_lin la29)).cons oa58 (w58_lin la58)).cons oa56 (w56_lin la56)).cons oa28 (w28_lin la28))
theorem E19_lin {a28 : T28} {a56 : T56} {a58 : T58} {a29 : T29} (la28 : Lin28 a28) (la56 : Lin56 a56) (la58 : Lin58 a58) (la29 : Lin29 a29) : EnvLin (E19 a28 a56 a58 a29) := by
  intro g F h
  simp only [E19, List.mem_cons, List.not_mem_nil, or_false] at h
  rcases h with h | h | h | h
  · cases h; exact w28_lin la28
  · cases h; exact w56_lin la56
  · cases h; exact w58_lin la58
  · cases h; exact w29_lin la29
noncomputable def b19 : Code := Try.f19.body.getD .skip
noncomputable def c19_0 : Code := (.seq (codeAt [0] b19) (.seq (codeAt [1, 0, 0] b19) (.seq (.cond (.tmp 4) (.seq (codeAt [1, 0, 1, 0, 0] b19) .ret) .skip) (.seq (codeAt [1, 1, 0, 0] b19) (.seq (.cond (.tmp 9) (.seq (codeAt [1, 1, 0, 1, 0, 0] b19) .ret) .skip) (.seq (codeAt [1, 1, 1, 0] b19) (.seq (.block 0 (.seq (codeAt [1, 1, 1, 1, 0, 0, 0] b19) (.cond (.tmp 17) .skip (.seq (codeAt [1, 1, 1, 1, 0, 0, 1, 1, 0] b19) (.cond (.tmp 24) (codeAt [1, 1, 1, 1, 0, 0, 1, 1, 1, 0] b19) (codeAt [1, 1, 1, 1, 0, 0, 1, 1, 1, 1] b19)))))) (.seq (codeAt [1, 1, 1, 1, 1, 0] b19) .ret))))))))
noncomputable def g19_p0 (a28 : T28) (a56 : T56) (a58 : T58) (a29 : T29) (R : Type) (t0 : Option (Nat × Nat)) (H : Heap) (kR : Int → Heap → Option R) : Option R :=
  a28 R t0 H fun x1 h2 =>
  sel x1 (
    kR (2 : Int) h2) (
    (t0).bind fun q3 =>
    ((h2).ldI .u8 q3.1 (q3.2 + 7)).bind fun x4 =>
    sel (x4 != (3 : Int)) (
      kR (0 : Int) h2) (
      (t0).bind fun q5 =>
      ((h2).ld q5.1 (q5.2 + 12)).bind fun x6 =>
      if (V.one x6) = true then (
        invk Try.prog (E19 a28 a56 a58 a29) x6 "Count" [(V.b false)] h2 fun x7 h8 =>
        exR Try.prog 0 x7 fun x9 =>
        (t0).bind fun q10 =>
        ((h8).ld q10.1 (q10.2 + 12)).bind fun x11 =>
        if (V.one x11) = true then (
          invk Try.prog (E19 a28 a56 a58 a29) x11 "Over" [] h8 fun x12 h13 =>
          ((V.asB x12)).bind fun x14 =>
          sel (!x14) (
            kR (0 : Int) h13) (
            (t0).bind fun q15 =>
            ((h13).ldI .i64 q15.1 (q15.2 + 11)).bind fun x16 =>
            (t0).bind fun q17 =>
            ((h13).ldI .i64 q17.1 ((q17.2 + 0) + 6)).bind fun x18 =>
            sel (decide (x16 < x18)) (
              a29 R t0 (3 : Int) h13 fun h19 =>
              kR (0 : Int) h19) (
              a29 R t0 (5 : Int) h13 fun h20 =>
              kR (0 : Int) h20)))
        else (
          none))
      else (
        none)))
theorem g19_p0_eq (a28 : T28) (a56 : T56) (a58 : T58) (a29 : T29) (la28 : Lin28 a28) (la56 : Lin56 a56) (la58 : Lin58 a58) (la29 : Lin29 a29) {R : Type} (t0 : Option (Nat × Nat)) (H : Heap) (K : Ex → Fr → Heap → Option R) : ev Try.prog (E19 a28 a56 a58 a29) loopLim Try.f19.ntmps kp19 c19_0 [(0, (V.p t0))] H K = g19_p0 a28 a56 a58 a29 R t0 H (fun t2 H => K .ret [(2, (V.i .i64 t2))] H) := by kernel_rfl
theorem g19_p0_lin {a28 : T28} {a56 : T56} {a58 : T58} {a29 : T29} (la28 : Lin28 a28) (la56 : Lin56 a56) (la58 : Lin58 a58) (la29 : Lin29 a29) {R S : Type} {k : S → Option R} {t0 : Option (Nat × Nat)} {H : Heap} {fkR : Int → Heap → Option R} {gkR : Int → Heap → Option S} (hkR : ∀ t2 H, fkR t2 H = (gkR t2 H).bind k) : g19_p0 a28 a56 a58 a29 R t0 H fkR = (g19_p0 a28 a56 a58 a29 S t0 H gkR).bind k := by
  delta g19_p0; exact (
    la28.l fun x1 h2 =>
    sl_lin (
      hkR _ _) (
      bl fun q3 =>
      bl fun x4 =>
      sl_lin (
        hkR _ _) (
        bl fun q5 =>
        bl fun x6 =>
        il (
          invk_lin (E19_lin la28 la56 la58 la29) fun x7 h8 =>
          exR_lin fun x9 =>
          bl fun q10 =>
          bl fun x11 =>
          il (
            invk_lin (E19_lin la28 la56 la58 la29) fun x12 h13 =>
            bl fun x14 =>
            sl_lin (
              hkR _ _) (
              bl fun q15 =>
              bl fun x16 =>
              bl fun q17 =>
              bl fun x18 =>
              sl_lin (
                la29.l fun h19 =>
                hkR _ _) (
                la29.l fun h20 =>
                hkR _ _))) (
            rfl)) (
          rfl))))
noncomputable def g19_r (a28 : T28) (a56 : T56) (a58 : T58) (a29 : T29) : T19 := fun R t0 H K =>
  g19_p0 a28 a56 a58 a29 R t0 H (fun t2 H =>
    K t2 H)
theorem g19_r_lin {a28 : T28} {a56 : T56} {a58 : T58} {a29 : T29} (la28 : Lin28 a28) (la56 : Lin56 a56) (la58 : Lin58 a58) (la29 : Lin29 a29) : Lin19 (g19_r a28 a56 a58 a29) := by
  constructor
  intro R S k t0 H f g h
  exact g19_p0_lin la28 la56 la58 la29 (fun t2 H =>
    h _ _)
theorem g19_fn (a28 : T28) (a56 : T56) (a58 : T58) (a29 : T29) (la28 : Lin28 a28) (la56 : Lin56 a56) (la58 : Lin58 a58) (la29 : Lin29 a29) {R : Type} (t0 : Option (Nat × Nat)) (H : Heap) (K : V → Heap → Option R) : evFn Try.prog (E19 a28 a56 a58 a29) loopLim Try.f19 kp19 [(V.p t0)] H K = g19_r a28 a56 a58 a29 R t0 H (fun r0 H => K (V.i .i64 r0) H) := by
  have h0 : ∀ (t2 : Int) (H : Heap), kFn Try.prog Try.f19.results.toList K .ret [(2, (V.i .i64 t2))] H =
      K (V.i .i64 t2) H := by intros; kernel_rfl
  have e0 := evFn_code2 (P := Try.prog) (c := c19_0) (E := (E19 a28 a56 a58 a29)) (lr := loopLim) (kp := kp19) (fn := Try.f19) (args := [(V.p t0)]) H K (by kernel_rfl) (Nat.le_of_ble_eq_true (by kernel_rfl)) (by kernel_rfl)
  have e1 : ev Try.prog (E19 a28 a56 a58 a29) loopLim Try.f19.ntmps kp19 c19_0 (argFr 0 [(V.p t0)]) H (kFn Try.prog Try.f19.results.toList K) = ev Try.prog (E19 a28 a56 a58 a29) loopLim Try.f19.ntmps kp19 c19_0 [(0, (V.p t0))] H (kFn Try.prog Try.f19.results.toList K) := by kernel_rfl
  refine (e0.trans e1).trans ?_
  delta g19_r
  exact (g19_p0_eq a28 a56 a58 a29 la28 la56 la58 la29 t0 H (kFn Try.prog Try.f19.results.toList K)).trans (congrArg (g19_p0 a28 a56 a58 a29 R t0 H) (funext fun t2 => funext fun H => h0 t2 H))
theorem g19_ok {a28 : T28} {a56 : T56} {a58 : T58} {a29 : T29} (oa28 : FunOK Try.prog 28 (w28 a28)) (oa56 : FunOK Try.prog 56 (w56 a56)) (oa58 : FunOK Try.prog 58 (w58 a58)) (oa29 : FunOK Try.prog 29 (w29 a29)) (la28 : Lin28 a28) (la56 : Lin56 a56) (la58 : Lin58 a58) (la29 : Lin29 a29) : FunOK Try.prog 19 (w19 (g19_r a28 a56 a58 a29)) := by
  refine (runF_ok (E19_good oa28 oa56 oa58 oa29 la28 la56 la58 la29) mixed lim_ok Try.func19 (by kernel_rfl) kp19).of_le fun R args H K r hk => ?_
  unfold w19 at hk
  split at hk
  · exact (g19_fn a28 a56 a58 a29 la28 la56 la58 la29 _ H K).trans hk
  · cases hk
end Go.Proofs.Ytkldpkemnmmbgaa

