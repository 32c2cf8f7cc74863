/- Printed: functions as the machine runs them. -/
import Derived.Test.YtobebcfkddimkaaGT
namespace Go.Proofs.Ytobebcfkddimkaa
open Go AM Go.RowKit
set_option linter.unusedVariables false
def kp22 : Nat → Option (List Nat) := kpOf [(0, [0]), (1, [2]), (300000, [2])]
def E22 : FEnv := []
theorem E22_good : EnvGood Try.prog E22 := (EnvGood.nil _)
theorem E22_lin : EnvLin E22 := fun g F h => by cases h
def lv22 : Nat → Bool := lvOf []
noncomputable def b22 : Code := Try.f22.body.getD .skip
noncomputable def c22_0 : Code := (.seq (codeAt [0] b22) (.seq (codeAt [1, 0] b22) .ret))
noncomputable def g22_p0 (R : Type) (t0 : Option (Nat × Nat)) (H : Heap) (kR : Bool → Heap → Option R) : Option R :=
  sel (!(Option.isNone t0)) (
    (t0).bind fun q1 =>
    ((H).ldI .i64 q1.1 (q1.2 + 0)).bind fun x2 =>
    kR (decide (x2 > (0 : Int))) H) (
    kR false H)
theorem g22_p0_eq {R : Type} (t0 : Option (Nat × Nat)) (H : Heap) (K : Ex → Fr → Heap → Option R) : ev2 Try.prog E22 loopLim lv22 Try.f22.ntmps kp22 c22_0 [(0, (V.p t0))] H K = g22_p0 R t0 H (fun t2 H => K .ret [(2, (V.b t2))] H) := by kernel_rfl
theorem g22_p0_lin {R S : Type} {k : S → Option R} {t0 : Option (Nat × Nat)} {H : Heap} {fkR : Bool → Heap → Option R} {gkR : Bool → Heap → Option S} (hkR : ∀ t2 H, fkR t2 H = (gkR t2 H).bind k) : g22_p0 R t0 H fkR = (g22_p0 S t0 H gkR).bind k := by
  delta g22_p0; exact (
    sl_lin (
      bl fun q1 =>
      bl fun x2 =>
      hkR _ _) (
      hkR _ _))
noncomputable def g22_r : T22 := fun R t0 H K =>
  g22_p0 R t0 H (fun t2 H =>
    K t2 H)
theorem g22_r_lin : Lin22 (g22_r) := by
  constructor
  intro R S k t0 H f g h
  exact g22_p0_lin (fun t2 H =>
    h _ _)
theorem g22_fn {R : Type} (t0 : Option (Nat × Nat)) (H : Heap) (K : V → Heap → Option R) : evFn2 Try.prog E22 loopLim lv22 Try.f22 kp22 [(V.p t0)] H K = g22_r R t0 H (fun r0 H => K (V.b r0) H) := by
  have h0 : ∀ (t2 : Bool) (H : Heap), kFn2 Try.prog Try.f22.results.toList K .ret [(2, (V.b t2))] H =
      K (V.b t2) H := by intros; kernel_rfl
  have e0 := evFn2_code2 (P := Try.prog) (c := c22_0) (E := E22) (lr := loopLim) (lv := lv22) (kp := kp22) (fn := Try.f22) (args := [(V.p t0)]) H K (by kernel_rfl) (Nat.le_of_ble_eq_true (by kernel_rfl)) (by kernel_rfl) (by kernel_rfl)
  have e1 : ev2 Try.prog E22 loopLim lv22 Try.f22.ntmps kp22 c22_0 (argFr 0 [(V.p t0)]) H (kFn2 Try.prog Try.f22.results.toList K) = ev2 Try.prog E22 loopLim lv22 Try.f22.ntmps kp22 c22_0 [(0, (V.p t0))] H (kFn2 Try.prog Try.f22.results.toList K) := by kernel_rfl
  refine (e0.trans e1).trans ?_
  delta g22_r
  exact (g22_p0_eq t0 H (kFn2 Try.prog Try.f22.results.toList K)).trans (congrArg (g22_p0 R t0 H) (funext fun t2 => funext fun H => h0 t2 H))
theorem g22_ok : FunOK Try.prog 22 (w22 (g22_r)) := by
  refine (runF2_ok (E22_good) mixed lim_ok Try.func22 (by kernel_rfl) lv22 kp22).of_le fun R args H K r hk => ?_
  unfold w22 at hk
  split at hk
  · exact (g22_fn _ H K).trans hk
  · cases hk
def kp23 : Nat → Option (List Nat) := kpOf [(0, [0, 3, 500003, 1000003]), (1, [0, 3, 10, 500003, 1000003]), (2, [0, 3, 500003, 1000003]), (3, []), (300000, []), (400010, [])]
def E23 : FEnv := []
theorem E23_good : EnvGood Try.prog E23 := (EnvGood.nil _)
theorem E23_lin : EnvLin E23 := fun g F h => by cases h
def lv23 : Nat → Bool := lvOf [3]
noncomputable def b23 : Code := Try.f23.body.getD .skip
noncomputable def c23_0 : Code := (.seq (codeAt [0] b23) (.seq (codeAt [1, 0] b23) (.cond (.tmp 10) (.seq (codeAt [1, 1, 0, 0] b23) (codeAt [1, 1, 0, 1] b23)) .skip)))
noncomputable def g23_p0 (R : Type) (t0 : Option (Nat × Nat)) (t1_0 : Int) (t1_1 : Int) (H : Heap) (kN : Heap → Option R) : Option R :=
  (t0).bind fun q1 =>
  ((H).ldM q1.1 (q1.2 + 1)).bind fun x2 =>
  ((getMap H x2)).bind fun m3 =>
  ((findE Try.prog 57 (V.agg [(V.i .u16 t1_0), (V.i .u32 t1_1)]) m3.1 0)).bind fun q4 =>
  fnd q4 (fun j5 x6 =>
    ((V.asP x6)).bind fun x7 =>
    sel (!(Option.isNone x7)) (
      (t0).bind fun q8 =>
      ((H).ldM q8.1 (q8.2 + 1)).bind fun x9 =>
      evBuiltin Try.prog H .delete [62, 57] [(V.m x9), (V.agg [(V.i .u16 t1_0), (V.i .u32 t1_1)])] fun u10 h11 =>
      (t0).bind fun q12 =>
      ((h11).ldSl q12.1 (q12.2 + 2)).bind fun x13 =>
      alo h11 (.cells [(V.i .u16 t1_0), (V.i .u32 t1_1)] 57 false) fun i14 h15 =>
      ((h15).ldSl q12.1 (q12.2 + 2)).bind fun x16 =>
      if V.same (V.sl x13) (V.sl x16) = true then (
        ((slCells h15 2 (Sl.mk (some (i14, 0)) 1 (.ex 1)))).bind fun vs19 =>
        appendV h15 57 2 8 x13 (Sl.mk (some (i14, 0)) 1 (.ex 1)).len vs19 fun s17 h18 =>
        (t0).bind fun q20 =>
        ((h18).st q20.1 (q20.2 + 2) (V.sl s17)).bind fun h22 =>
        kN h22)
      else (
        none)) (
      kN H)) (
    kN H)
theorem g23_p0_eq {R : Type} (t0 : Option (Nat × Nat)) (t1_0 : Int) (t1_1 : Int) (H : Heap) (K : Ex → Fr → Heap → Option R) : ev2 Try.prog E23 loopLim lv23 Try.f23.ntmps kp23 c23_0 [(0, (V.p t0)), (1, (V.agg [(V.i .u16 t1_0), (V.i .u32 t1_1)]))] H K = g23_p0 R t0 t1_0 t1_1 H (fun H => K .normal [] H) := by kernel_rfl
theorem g23_p0_lin {R S : Type} {k : S → Option R} {t0 : Option (Nat × Nat)} {t1_0 : Int} {t1_1 : Int} {H : Heap} {fkN : Heap → Option R} {gkN : Heap → Option S} (hkN : ∀ H, fkN H = (gkN H).bind k) : g23_p0 R t0 t1_0 t1_1 H fkN = (g23_p0 S t0 t1_0 t1_1 H gkN).bind k := by
  delta g23_p0; exact (
    bl fun q1 =>
    bl fun x2 =>
    bl fun m3 =>
    bl fun q4 =>
    fnd_lin (fun j5 x6 =>
      bl fun x7 =>
      sl_lin (
        bl fun q8 =>
        bl fun x9 =>
        evBuiltin_lin fun u10 h11 =>
        bl fun q12 =>
        bl fun x13 =>
        alo_lin fun i14 h15 =>
        bl fun x16 =>
        il (
          bl fun vs19 =>
          appendV_lin fun s17 h18 =>
          bl fun q20 =>
          bl fun h22 =>
          hkN _) (
          rfl)) (
        hkN _)) (
      hkN _))
noncomputable def g23_r : T23 := fun R t0 t1_0 t1_1 H K =>
  g23_p0 R t0 t1_0 t1_1 H (fun H =>
    K  H)
theorem g23_r_lin : Lin23 (g23_r) := by
  constructor
  intro R S k t0 t1_0 t1_1 H f g h
  exact g23_p0_lin (fun H =>
    h _)
theorem g23_fn {R : Type} (t0 : Option (Nat × Nat)) (t1_0 : Int) (t1_1 : Int) (H : Heap) (K : V → Heap → Option R) : evFn2 Try.prog E23 loopLim lv23 Try.f23 kp23 [(V.p t0), (V.agg [(V.i .u16 t1_0), (V.i .u32 t1_1)])] H K = g23_r R t0 t1_0 t1_1 H (fun H => K (V.tup []) H) := by
  have h0 : ∀ (H : Heap), kFn2 Try.prog Try.f23.results.toList K .normal [] H =
      K (V.tup []) H := by intros; kernel_rfl
  have e0 := evFn2_code2 (P := Try.prog) (c := c23_0) (E := E23) (lr := loopLim) (lv := lv23) (kp := kp23) (fn := Try.f23) (args := [(V.p t0), (V.agg [(V.i .u16 t1_0), (V.i .u32 t1_1)])]) H K (by kernel_rfl) (Nat.le_of_ble_eq_true (by kernel_rfl)) (by kernel_rfl) (by kernel_rfl)
  have e1 : ev2 Try.prog E23 loopLim lv23 Try.f23.ntmps kp23 c23_0 (argFr 0 [(V.p t0), (V.agg [(V.i .u16 t1_0), (V.i .u32 t1_1)])]) H (kFn2 Try.prog Try.f23.results.toList K) = ev2 Try.prog E23 loopLim lv23 Try.f23.ntmps kp23 c23_0 [(0, (V.p t0)), (1, (V.agg [(V.i .u16 t1_0), (V.i .u32 t1_1)]))] H (kFn2 Try.prog Try.f23.results.toList K) := by kernel_rfl
  refine (e0.trans e1).trans ?_
  delta g23_r
  exact (g23_p0_eq t0 t1_0 t1_1 H (kFn2 Try.prog Try.f23.results.toList K)).trans (congrArg (g23_p0 R t0 t1_0 t1_1 H) (funext fun H => h0 H))
theorem g23_ok : FunOK Try.prog 23 (w23 (g23_r)) := by
  refine (runF2_ok (E23_good) mixed lim_ok Try.func23 (by kernel_rfl) lv23 kp23).of_le fun R args H K r hk => ?_
  unfold w23 at hk
  split at hk
  · exact (g23_fn _ _ _ H K).trans hk
  · cases hk
def kp24 : Nat → Option (List Nat) := kpOf [(0, [0]), (1, [2]), (300000, [2])]
def E24 : FEnv := []
theorem E24_good : EnvGood Try.prog E24 := (EnvGood.nil _)
theorem E24_lin : EnvLin E24 := fun g F h => by cases h
def lv24 : Nat → Bool := lvOf []
noncomputable def b24 : Code := Try.f24.body.getD .skip
noncomputable def c24_0 : Code := (.seq (codeAt [0] b24) (.seq (codeAt [1, 0] b24) .ret))
noncomputable def g24_p0 (R : Type) (t0 : Sl) (H : Heap) (kR : Sl → Heap → Option R) : Option R :=
  slOf 2 t0 none (some ((t0.len : Nat) : Int)) (some ((t0.len : Nat) : Int)) fun s1 =>
  kR s1 H
theorem g24_p0_eq {R : Type} (t0 : Sl) (H : Heap) (K : Ex → Fr → Heap → Option R) : ev2 Try.prog E24 loopLim lv24 Try.f24.ntmps kp24 c24_0 [(0, (V.sl t0))] H K = g24_p0 R t0 H (fun t2 H => K .ret [(2, (V.sl t2))] H) := by kernel_rfl
theorem g24_p0_lin {R S : Type} {k : S → Option R} {t0 : Sl} {H : Heap} {fkR : Sl → Heap → Option R} {gkR : Sl → Heap → Option S} (hkR : ∀ t2 H, fkR t2 H = (gkR t2 H).bind k) : g24_p0 R t0 H fkR = (g24_p0 S t0 H gkR).bind k := by
  delta g24_p0; exact (
    slOf_lin fun s1 =>
    hkR _ _)
noncomputable def g24_r : T24 := fun R t0 H K =>
  g24_p0 R t0 H (fun t2 H =>
    K t2 H)
theorem g24_r_lin : Lin24 (g24_r) := by
  constructor
  intro R S k t0 H f g h
  exact g24_p0_lin (fun t2 H =>
    h _ _)
theorem g24_fn {R : Type} (t0 : Sl) (H : Heap) (K : V → Heap → Option R) : evFn2 Try.prog E24 loopLim lv24 Try.f24 kp24 [(V.sl t0)] H K = g24_r R t0 H (fun r0 H => K (V.sl r0) H) := by
  have h0 : ∀ (t2 : Sl) (H : Heap), kFn2 Try.prog Try.f24.results.toList K .ret [(2, (V.sl t2))] H =
      K (V.sl t2) H := by intros; kernel_rfl
  have e0 := evFn2_code2 (P := Try.prog) (c := c24_0) (E := E24) (lr := loopLim) (lv := lv24) (kp := kp24) (fn := Try.f24) (args := [(V.sl t0)]) H K (by kernel_rfl) (Nat.le_of_ble_eq_true (by kernel_rfl)) (by kernel_rfl) (by kernel_rfl)
  have e1 : ev2 Try.prog E24 loopLim lv24 Try.f24.ntmps kp24 c24_0 (argFr 0 [(V.sl t0)]) H (kFn2 Try.prog Try.f24.results.toList K) = ev2 Try.prog E24 loopLim lv24 Try.f24.ntmps kp24 c24_0 [(0, (V.sl t0))] H (kFn2 Try.prog Try.f24.results.toList K) := by kernel_rfl
  refine (e0.trans e1).trans ?_
  delta g24_r
  exact (g24_p0_eq t0 H (kFn2 Try.prog Try.f24.results.toList K)).trans (congrArg (g24_p0 R t0 H) (funext fun t2 => funext fun H => h0 t2 H))
theorem g24_ok : FunOK Try.prog 24 (w24 (g24_r)) := by
  refine (runF2_ok (E24_good) mixed lim_ok Try.func24 (by kernel_rfl) lv24 kp24).of_le fun R args H K r hk => ?_
  unfold w24 at hk
  split at hk
  · exact (g24_fn _ H K).trans hk
  · cases hk
def kp35 : Nat → Option (List Nat) := kpOf [(0, [0]), (1, [2]), (300000, [2])]
def E35 : FEnv := []
theorem E35_good : EnvGood Try.prog E35 := (EnvGood.nil _)
theorem E35_lin : EnvLin E35 := fun g F h => by cases h
def lv35 : Nat → Bool := lvOf []
noncomputable def b35 : Code := Try.f35.body.getD .skip
noncomputable def c35_0 : Code := (.seq (codeAt [0] b35) (.seq (codeAt [1, 0] b35) .ret))
noncomputable def g35_p0 (R : Type) (t0 : Int) (H : Heap) (kR : Bool → Heap → Option R) : Option R :=
  kR (t0 != t0) H
theorem g35_p0_eq {R : Type} (t0 : Int) (H : Heap) (K : Ex → Fr → Heap → Option R) : ev2 Try.prog E35 loopLim lv35 Try.f35.ntmps kp35 c35_0 [(0, (V.i .u16 t0))] H K = g35_p0 R t0 H (fun t2 H => K .ret [(2, (V.b t2))] H) := by kernel_rfl
theorem g35_p0_lin {R S : Type} {k : S → Option R} {t0 : Int} {H : Heap} {fkR : Bool → Heap → Option R} {gkR : Bool → Heap → Option S} (hkR : ∀ t2 H, fkR t2 H = (gkR t2 H).bind k) : g35_p0 R t0 H fkR = (g35_p0 S t0 H gkR).bind k := by
  delta g35_p0; exact (
    hkR _ _)
noncomputable def g35_r : T35 := fun R t0 H K =>
  g35_p0 R t0 H (fun t2 H =>
    K t2 H)
theorem g35_r_lin : Lin35 (g35_r) := by
  constructor
  intro R S k t0 H f g h
  exact g35_p0_lin (fun t2 H =>
    h _ _)
theorem g35_fn {R : Type} (t0 : Int) (H : Heap) (K : V → Heap → Option R) : evFn2 Try.prog E35 loopLim lv35 Try.f35 kp35 [(V.i .u16 t0)] H K = g35_r R t0 H (fun r0 H => K (V.b r0) H) := by
  have h0 : ∀ (t2 : Bool) (H : Heap), kFn2 Try.prog Try.f35.results.toList K .ret [(2, (V.b t2))] H =
      K (V.b t2) H := by intros; kernel_rfl
  have e0 := evFn2_code2 (P := Try.prog) (c := c35_0) (E := E35) (lr := loopLim) (lv := lv35) (kp := kp35) (fn := Try.f35) (args := [(V.i .u16 t0)]) H K (by kernel_rfl) (Nat.le_of_ble_eq_true (by kernel_rfl)) (by kernel_rfl) (by kernel_rfl)
  have e1 : ev2 Try.prog E35 loopLim lv35 Try.f35.ntmps kp35 c35_0 (argFr 0 [(V.i .u16 t0)]) H (kFn2 Try.prog Try.f35.results.toList K) = ev2 Try.prog E35 loopLim lv35 Try.f35.ntmps kp35 c35_0 [(0, (V.i .u16 t0))] H (kFn2 Try.prog Try.f35.results.toList K) := by kernel_rfl
  refine (e0.trans e1).trans ?_
  delta g35_r
  exact (g35_p0_eq t0 H (kFn2 Try.prog Try.f35.results.toList K)).trans (congrArg (g35_p0 R t0 H) (funext fun t2 => funext fun H => h0 t2 H))
theorem g35_ok : FunOK Try.prog 35 (w35 (g35_r)) := by
  refine (runF2_ok (E35_good) mixed lim_ok Try.func35 (by kernel_rfl) lv35 kp35).of_le fun R args H K r hk => ?_
  unfold w35 at hk
  split at hk
  · exact (g35_fn _ H K).trans hk
  · cases hk
def kp28 : Nat → Option (List Nat) := kpOf [(0, [0, 1]), (1, [0, 1, 5]), (2, [0, 1, 5, 6]), (3, [0, 1, 6, 11]), (4, [12]), (5, [4]), (6, [4]), (7, [0, 1, 13]), (8, [4]), (9, [0, 1, 16]), (10, [4]), (11, [19]), (12, [4]), (13, [4]), (300000, [4]), (400011, [0, 1, 6]), (400012, []), (400013, [0, 1]), (400016, [0, 1]), (400019, [])]
def E28 (a35 : T35) : FEnv := [(35, w35 a35)]
theorem E28_good {a35 : T35} (oa35 : FunOK Try.prog 35 (w35 a35)) (la35 : Lin35 a35) : EnvGood Try.prog (E28 a35) := ((EnvGood.nil _).cons oa35 (w35_lin la35))
theorem E28_lin {a35 : T35} (la35 : Lin35 a35) : EnvLin (E28 a35) := by
  intro g F h
  simp only [E28, List.mem_cons, List.not_mem_nil, or_false] at h
  rcases h with h
  · cases h; exact w35_lin la35
def lv28 : Nat → Bool := lvOf []
noncomputable def b28 : Code := Try.f28.body.getD .skip
noncomputable def c28_0 : Code := (.seq (codeAt [0] b28) (.seq (codeAt [1, 0] b28) (.seq (codeAt [1, 1, 0] b28) (.seq (codeAt [1, 1, 1, 0, 0] b28) (.seq (.cond (.tmp 11) (.seq (codeAt [1, 1, 1, 0, 1, 0, 0, 0] b28) (.seq (.cond (.tmp 12) (.seq (codeAt [1, 1, 1, 0, 1, 0, 0, 1, 0, 0] b28) .ret) .skip) (.seq (codeAt [1, 1, 1, 0, 1, 0, 1, 0] b28) .ret))) .skip) (.seq (codeAt [1, 1, 1, 1, 0, 0] b28) (.seq (.cond (.tmp 13) (.seq (codeAt [1, 1, 1, 1, 0, 1, 0, 0] b28) .ret) .skip) (.seq (codeAt [1, 1, 1, 1, 1, 0, 0] b28) (.seq (.cond (.tmp 16) (.seq (codeAt [1, 1, 1, 1, 1, 0, 1, 0, 0] b28) .ret) .skip) (.seq (codeAt [1, 1, 1, 1, 1, 1, 0, 0] b28) (.seq (.cond (.tmp 19) (.seq (codeAt [1, 1, 1, 1, 1, 1, 0, 1, 0, 0] b28) .ret) .skip) (.seq (codeAt [1, 1, 1, 1, 1, 1, 1, 0] b28) .ret))))))))))))
noncomputable def g28_p0 (a35 : T35) (R : Type) (t0 : Int) (t1 : Int) (H : Heap) (kR : Int → Heap → Option R) : Option R :=
  a35 R t0 H fun x1 h2 =>
  a35 R t1 h2 fun x3 h4 =>
  sel x1 (
    sel x3 (
      kR (0 : Int) h4) (
      kR (-1 : Int) h4)) (
    sel x3 (
      kR (1 : Int) h4) (
      sel (decide (t0 < t1)) (
        kR (-1 : Int) h4) (
        sel (decide (t0 > t1)) (
          kR (1 : Int) h4) (
          kR (0 : Int) h4))))
theorem g28_p0_eq (a35 : T35) (la35 : Lin35 a35) {R : Type} (t0 : Int) (t1 : Int) (H : Heap) (K : Ex → Fr → Heap → Option R) : ev2 Try.prog (E28 a35) loopLim lv28 Try.f28.ntmps kp28 c28_0 [(0, (V.i .u16 t0)), (1, (V.i .u16 t1))] H K = g28_p0 a35 R t0 t1 H (fun t4 H => K .ret [(4, (V.i .i64 t4))] H) := by kernel_rfl
theorem g28_p0_lin {a35 : T35} (la35 : Lin35 a35) {R S : Type} {k : S → Option R} {t0 : Int} {t1 : Int} {H : Heap} {fkR : Int → Heap → Option R} {gkR : Int → Heap → Option S} (hkR : ∀ t4 H, fkR t4 H = (gkR t4 H).bind k) : g28_p0 a35 R t0 t1 H fkR = (g28_p0 a35 S t0 t1 H gkR).bind k := by
  delta g28_p0; exact (
    la35.l fun x1 h2 =>
    la35.l fun x3 h4 =>
    sl_lin (
      sl_lin (
        hkR _ _) (
        hkR _ _)) (
      sl_lin (
        hkR _ _) (
        sl_lin (
          hkR _ _) (
          sl_lin (
            hkR _ _) (
            hkR _ _)))))
noncomputable def g28_r (a35 : T35) : T28 := fun R t0 t1 H K =>
  g28_p0 a35 R t0 t1 H (fun t4 H =>
    K t4 H)
theorem g28_r_lin {a35 : T35} (la35 : Lin35 a35) : Lin28 (g28_r a35) := by
  constructor
  intro R S k t0 t1 H f g h
  exact g28_p0_lin la35 (fun t4 H =>
    h _ _)
theorem g28_fn (a35 : T35) (la35 : Lin35 a35) {R : Type} (t0 : Int) (t1 : Int) (H : Heap) (K : V → Heap → Option R) : evFn2 Try.prog (E28 a35) loopLim lv28 Try.f28 kp28 [(V.i .u16 t0), (V.i .u16 t1)] H K = g28_r a35 R t0 t1 H (fun r0 H => K (V.i .i64 r0) H) := by
  have h0 : ∀ (t4 : Int) (H : Heap), kFn2 Try.prog Try.f28.results.toList K .ret [(4, (V.i .i64 t4))] H =
      K (V.i .i64 t4) H := by intros; kernel_rfl
  have e0 := evFn2_code2 (P := Try.prog) (c := c28_0) (E := (E28 a35)) (lr := loopLim) (lv := lv28) (kp := kp28) (fn := Try.f28) (args := [(V.i .u16 t0), (V.i .u16 t1)]) H K (by kernel_rfl) (Nat.le_of_ble_eq_true (by kernel_rfl)) (by kernel_rfl) (by kernel_rfl)
  have e1 : ev2 Try.prog (E28 a35) loopLim lv28 Try.f28.ntmps kp28 c28_0 (argFr 0 [(V.i .u16 t0), (V.i .u16 t1)]) H (kFn2 Try.prog Try.f28.results.toList K) = ev2 Try.prog (E28 a35) loopLim lv28 Try.f28.ntmps kp28 c28_0 [(0, (V.i .u16 t0)), (1, (V.i .u16 t1))] H (kFn2 Try.prog Try.f28.results.toList K) := by kernel_rfl
  refine (e0.trans e1).trans ?_
  delta g28_r
  exact (g28_p0_eq a35 la35 t0 t1 H (kFn2 Try.prog Try.f28.results.toList K)).trans (congrArg (g28_p0 a35 R t0 t1 H) (funext fun t4 => funext fun H => h0 t4 H))
theorem g28_ok {a35 : T35} (oa35 : FunOK Try.prog 35 (w35 a35)) (la35 : Lin35 a35) : FunOK Try.prog 28 (w28 (g28_r a35)) := by
  refine (runF2_ok (E28_good oa35 la35) mixed lim_ok Try.func28 (by kernel_rfl) lv28 kp28).of_le fun R args H K r hk => ?_
  unfold w28 at hk
  split at hk
  · exact (g28_fn a35 la35 _ _ H K).trans hk
  · cases hk
def kp36 : Nat → Option (List Nat) := kpOf [(0, [0]), (1, [2]), (300000, [2])]
def E36 : FEnv := []
theorem E36_good : EnvGood Try.prog E36 := (EnvGood.nil _)
theorem E36_lin : EnvLin E36 := fun g F h => by cases h
def lv36 : Nat → Bool := lvOf []
noncomputable def b36 : Code := Try.f36.body.getD .skip
noncomputable def c36_0 : Code := (.seq (codeAt [0] b36) (.seq (codeAt [1, 0] b36) .ret))
noncomputable def g36_p0 (R : Type) (t0 : Int) (H : Heap) (kR : Bool → Heap → Option R) : Option R :=
  kR (t0 != t0) H
theorem g36_p0_eq {R : Type} (t0 : Int) (H : Heap) (K : Ex → Fr → Heap → Option R) : ev2 Try.prog E36 loopLim lv36 Try.f36.ntmps kp36 c36_0 [(0, (V.i .u32 t0))] H K = g36_p0 R t0 H (fun t2 H => K .ret [(2, (V.b t2))] H) := by kernel_rfl
theorem g36_p0_lin {R S : Type} {k : S → Option R} {t0 : Int} {H : Heap} {fkR : Bool → Heap → Option R} {gkR : Bool → Heap → Option S} (hkR : ∀ t2 H, fkR t2 H = (gkR t2 H).bind k) : g36_p0 R t0 H fkR = (g36_p0 S t0 H gkR).bind k := by
  delta g36_p0; exact (
    hkR _ _)
noncomputable def g36_r : T36 := fun R t0 H K =>
  g36_p0 R t0 H (fun t2 H =>
    K t2 H)
theorem g36_r_lin : Lin36 (g36_r) := by
  constructor
  intro R S k t0 H f g h
  exact g36_p0_lin (fun t2 H =>
    h _ _)
theorem g36_fn {R : Type} (t0 : Int) (H : Heap) (K : V → Heap → Option R) : evFn2 Try.prog E36 loopLim lv36 Try.f36 kp36 [(V.i .u32 t0)] H K = g36_r R t0 H (fun r0 H => K (V.b r0) H) := by
  have h0 : ∀ (t2 : Bool) (H : Heap), kFn2 Try.prog Try.f36.results.toList K .ret [(2, (V.b t2))] H =
      K (V.b t2) H := by intros; kernel_rfl
  have e0 := evFn2_code2 (P := Try.prog) (c := c36_0) (E := E36) (lr := loopLim) (lv := lv36) (kp := kp36) (fn := Try.f36) (args := [(V.i .u32 t0)]) H K (by kernel_rfl) (Nat.le_of_ble_eq_true (by kernel_rfl)) (by kernel_rfl) (by kernel_rfl)
  have e1 : ev2 Try.prog E36 loopLim lv36 Try.f36.ntmps kp36 c36_0 (argFr 0 [(V.i .u32 t0)]) H (kFn2 Try.prog Try.f36.results.toList K) = ev2 Try.prog E36 loopLim lv36 Try.f36.ntmps kp36 c36_0 [(0, (V.i .u32 t0))] H (kFn2 Try.prog Try.f36.results.toList K) := by kernel_rfl
  refine (e0.trans e1).trans ?_
  delta g36_r
  exact (g36_p0_eq t0 H (kFn2 Try.prog Try.f36.results.toList K)).trans (congrArg (g36_p0 R t0 H) (funext fun t2 => funext fun H => h0 t2 H))
theorem g36_ok : FunOK Try.prog 36 (w36 (g36_r)) := by
  refine (runF2_ok (E36_good) mixed lim_ok Try.func36 (by kernel_rfl) lv36 kp36).of_le fun R args H K r hk => ?_
  unfold w36 at hk
  split at hk
  · exact (g36_fn _ H K).trans hk
  · cases hk
def kp29 : Nat → Option (List Nat) := kpOf [(0, [0, 1]), (1, [0, 1, 5]), (2, [0, 1, 5, 6]), (3, [0, 1, 6, 11]), (4, [12]), (5, [4]), (6, [4]), (7, [0, 1, 13]), (8, [4]), (9, [0, 1, 16]), (10, [4]), (11, [19]), (12, [4]), (13, [4]), (300000, [4]), (400011, [0, 1, 6]), (400012, []), (400013, [0, 1]), (400016, [0, 1]), (400019, [])]
def E29 (a36 : T36) : FEnv := [(36, w36 a36)]
theorem E29_good {a36 : T36} (oa36 : FunOK Try.prog 36 (w36 a36)) (la36 : Lin36 a36) : EnvGood Try.prog (E29 a36) := ((EnvGood.nil _).cons oa36 (w36_lin la36))
theorem E29_lin {a36 : T36} (la36 : Lin36 a36) : EnvLin (E29 a36) := by
  intro g F h
  simp only [E29, List.mem_cons, List.not_mem_nil, or_false] at h
  rcases h with h
  · cases h; exact w36_lin la36
def lv29 : Nat → Bool := lvOf []
noncomputable def b29 : Code := Try.f29.body.getD .skip
noncomputable def c29_0 : Code := (.seq (codeAt [0] b29) (.seq (codeAt [1, 0] b29) (.seq (codeAt [1, 1, 0] b29) (.seq (codeAt [1, 1, 1, 0, 0] b29) (.seq (.cond (.tmp 11) (.seq (codeAt [1, 1, 1, 0, 1, 0, 0, 0] b29) (.seq (.cond (.tmp 12) (.seq (codeAt [1, 1, 1, 0, 1, 0, 0, 1, 0, 0] b29) .ret) .skip) (.seq (codeAt [1, 1, 1, 0, 1, 0, 1, 0] b29) .ret))) .skip) (.seq (codeAt [1, 1, 1, 1, 0, 0] b29) (.seq (.cond (.tmp 13) (.seq (codeAt [1, 1, 1, 1, 0, 1, 0, 0] b29) .ret) .skip) (.seq (codeAt [1, 1, 1, 1, 1, 0, 0] b29) (.seq (.cond (.tmp 16) (.seq (codeAt [1, 1, 1, 1, 1, 0, 1, 0, 0] b29) .ret) .skip) (.seq (codeAt [1, 1, 1, 1, 1, 1, 0, 0] b29) (.seq (.cond (.tmp 19) (.seq (codeAt [1, 1, 1, 1, 1, 1, 0, 1, 0, 0] b29) .ret) .skip) (.seq (codeAt [1, 1, 1, 1, 1, 1, 1, 0] b29) .ret))))))))))))
noncomputable def g29_p0 (a36 : T36) (R : Type) (t0 : Int) (t1 : Int) (H : Heap) (kR : Int → Heap → Option R) : Option R :=
  a36 R t0 H fun x1 h2 =>
  a36 R t1 h2 fun x3 h4 =>
  sel x1 (
    sel x3 (
      kR (0 : Int) h4) (
      kR (-1 : Int) h4)) (
    sel x3 (
      kR (1 : Int) h4) (
      sel (decide (t0 < t1)) (
        kR (-1 : Int) h4) (
        sel (decide (t0 > t1)) (
          kR (1 : Int) h4) (
          kR (0 : Int) h4))))
theorem g29_p0_eq (a36 : T36) (la36 : Lin36 a36) {R : Type} (t0 : Int) (t1 : Int) (H : Heap) (K : Ex → Fr → Heap → Option R) : ev2 Try.prog (E29 a36) loopLim lv29 Try.f29.ntmps kp29 c29_0 [(0, (V.i .u32 t0)), (1, (V.i .u32 t1))] H K = g29_p0 a36 R t0 t1 H (fun t4 H => K .ret [(4, (V.i .i64 t4))] H) := by kernel_rfl
theorem g29_p0_lin {a36 : T36} (la36 : Lin36 a36) {R S : Type} {k : S → Option R} {t0 : Int} {t1 : Int} {H : Heap} {fkR : Int → Heap → Option R} {gkR : Int → Heap → Option S} (hkR : ∀ t4 H, fkR t4 H = (gkR t4 H).bind k) : g29_p0 a36 R t0 t1 H fkR = (g29_p0 a36 S t0 t1 H gkR).bind k := by
  delta g29_p0; exact (
    la36.l fun x1 h2 =>
    la36.l fun x3 h4 =>
    sl_lin (
      sl_lin (
        hkR _ _) (
        hkR _ _)) (
      sl_lin (
        hkR _ _) (
        sl_lin (
          hkR _ _) (
          sl_lin (
            hkR _ _) (
            hkR _ _)))))
noncomputable def g29_r (a36 : T36) : T29 := fun R t0 t1 H K =>
  g29_p0 a36 R t0 t1 H (fun t4 H =>
    K t4 H)
theorem g29_r_lin {a36 : T36} (la36 : Lin36 a36) : Lin29 (g29_r a36) := by
  constructor
  intro R S k t0 t1 H f g h
  exact g29_p0_lin la36 (fun t4 H =>
    h _ _)
theorem g29_fn (a36 : T36) (la36 : Lin36 a36) {R : Type} (t0 : Int) (t1 : Int) (H : Heap) (K : V → Heap → Option R) : evFn2 Try.prog (E29 a36) loopLim lv29 Try.f29 kp29 [(V.i .u32 t0), (V.i .u32 t1)] H K = g29_r a36 R t0 t1 H (fun r0 H => K (V.i .i64 r0) H) := by
  have h0 : ∀ (t4 : Int) (H : Heap), kFn2 Try.prog Try.f29.results.toList K .ret [(4, (V.i .i64 t4))] H =
      K (V.i .i64 t4) H := by intros; kernel_rfl
  have e0 := evFn2_code2 (P := Try.prog) (c := c29_0) (E := (E29 a36)) (lr := loopLim) (lv := lv29) (kp := kp29) (fn := Try.f29) (args := [(V.i .u32 t0), (V.i .u32 t1)]) H K (by kernel_rfl) (Nat.le_of_ble_eq_true (by kernel_rfl)) (by kernel_rfl) (by kernel_rfl)
  have e1 : ev2 Try.prog (E29 a36) loopLim lv29 Try.f29.ntmps kp29 c29_0 (argFr 0 [(V.i .u32 t0), (V.i .u32 t1)]) H (kFn2 Try.prog Try.f29.results.toList K) = ev2 Try.prog (E29 a36) loopLim lv29 Try.f29.ntmps kp29 c29_0 [(0, (V.i .u32 t0)), (1, (V.i .u32 t1))] H (kFn2 Try.prog Try.f29.results.toList K) := by kernel_rfl
  refine (e0.trans e1).trans ?_
  delta g29_r
  exact (g29_p0_eq a36 la36 t0 t1 H (kFn2 Try.prog Try.f29.results.toList K)).trans (congrArg (g29_p0 a36 R t0 t1 H) (funext fun t4 => funext fun H => h0 t4 H))
theorem g29_ok {a36 : T36} (oa36 : FunOK Try.prog 36 (w36 a36)) (la36 : Lin36 a36) : FunOK Try.prog 29 (w29 (g29_r a36)) := by
  refine (runF2_ok (E29_good oa36 la36) mixed lim_ok Try.func29 (by kernel_rfl) lv29 kp29).of_le fun R args H K r hk => ?_
  unfold w29 at hk
  split at hk
  · exact (g29_fn a36 la36 _ _ H K).trans hk
  · cases hk
def kp27 : Nat → Option (List Nat) := kpOf [(0, [0]), (1, [0, 3]), (2, [3, 6, 7, 8]), (3, [3, 6, 7, 8, 9]), (4, [3, 5, 6, 7, 8]), (5, [3, 5, 6, 7, 8, 14]), (6, [2]), (7, [3, 6, 7, 8]), (8, [2]), (100000, [3]), (100001, [3, 6, 7, 8]), (200000, [3, 6, 7, 8]), (200001, [3, 6, 7, 8]), (300000, [2]), (400009, [3, 6, 7, 8]), (400014, [3, 6, 7, 8])]
def E27 : FEnv := []
theorem E27_good : EnvGood Try.prog E27 := (EnvGood.nil _)
theorem E27_lin : EnvLin E27 := fun g F h => by cases h
def lv27 : Nat → Bool := lvOf []
noncomputable def b27 : Code := Try.f27.body.getD .skip
noncomputable def c27_0 : Code := (.seq (codeAt [1, 1, 0, 1, 0, 0, 0] b27) (.seq (.cond (.tmp 9) .skip (.exit 0)) (.seq (.block 1 (.seq (codeAt [1, 1, 0, 1, 0, 0, 1, 1, 0, 0, 0] b27) (.seq (codeAt [1, 1, 0, 1, 0, 0, 1, 1, 0, 0, 1, 0] b27) (.cond (.tmp 14) (.seq (codeAt [1, 1, 0, 1, 0, 0, 1, 1, 0, 0, 1, 1, 0, 0] b27) .ret) .skip)))) (codeAt [1, 1, 0, 1, 0, 0, 1, 1, 1] b27))))
noncomputable def c27_1 : Code := (.loop c27_0)
noncomputable def c27_2 : Code := (.block 0 c27_1)
noncomputable def c27_3 : Code := (.seq (codeAt [1, 1, 1, 0] b27) .ret)
noncomputable def c27_4 : Code := (.seq c27_2 c27_3)
noncomputable def c27_5 : Code := (.seq (codeAt [0] b27) (.seq (codeAt [1, 0] b27) (.seq (codeAt [1, 1, 0, 0] b27) c27_4)))
noncomputable def g27_p0 (R : Type) (t0 : Sl) (H : Heap) (kN : Int → Sl → Int → Int → Heap → Option R) : Option R :=
  kN (0 : Int) t0 ((t0.len : Nat) : Int) (0 : Int) H
theorem g27_p0_eq {R : Type} (c2 : Code) (t0 : Sl) (H : Heap) (K : Ex → Fr → Heap → Option R) : ev2 Try.prog E27 loopLim lv27 Try.f27.ntmps kp27 (.seq (codeAt [0] b27) (.seq (codeAt [1, 0] b27) (.seq (codeAt [1, 1, 0, 0] b27) c2))) [(0, (V.sl t0))] H K = g27_p0 R t0 H (fun t3 t6 t7 t8 H => ev2 Try.prog E27 loopLim lv27 Try.f27.ntmps kp27 c2 [(3, (V.i .i64 t3)), (6, (V.sl t6)), (7, (V.i .i64 t7)), (8, (V.i .i64 t8))] H K) := by kernel_rfl
theorem g27_p0_lin {R S : Type} {k : S → Option R} {t0 : Sl} {H : Heap} {fkN : Int → Sl → Int → Int → Heap → Option R} {gkN : Int → Sl → Int → Int → Heap → Option S} (hkN : ∀ t3 t6 t7 t8 H, fkN t3 t6 t7 t8 H = (gkN t3 t6 t7 t8 H).bind k) : g27_p0 R t0 H fkN = (g27_p0 S t0 H gkN).bind k := by
  delta g27_p0; exact (
    hkN _ _ _ _ _)
noncomputable def g27_p1 (R : Type) (t3 : Int) (t6 : Sl) (t7 : Int) (t8 : Int) (H : Heap) (kN : Int → Sl → Int → Int → Heap → Option R) (kE0 : Int → Heap → Option R) (kR : Int → Heap → Option R) : Option R :=
  sel (decide (t8 < t7)) (
    if 0 ≤ t8 ∧ t8 < ((t6.len : Nat) : Int) then (
      (t6.a).bind fun q1 =>
      ((H).ldI .i64 q1.1 (q1.2 + Int.toNat t8 * 1)).bind fun x2 =>
      sel (x2 != t3) (
        kR x2 H) (
        kN t3 t6 t7 (IntKind.wrap .i64 (t8 + (1 : Int))) H))
    else (
      none)) (
    kE0 t3 H)
theorem g27_p1_eq {R : Type} (t3 : Int) (t6 : Sl) (t7 : Int) (t8 : Int) (H : Heap) (K : Ex → Fr → Heap → Option R) : ev2 Try.prog E27 loopLim lv27 Try.f27.ntmps kp27 c27_0 [(3, (V.i .i64 t3)), (6, (V.sl t6)), (7, (V.i .i64 t7)), (8, (V.i .i64 t8))] H K = g27_p1 R t3 t6 t7 t8 H (fun t3 t6 t7 t8 H => K .normal [(3, (V.i .i64 t3)), (6, (V.sl t6)), (7, (V.i .i64 t7)), (8, (V.i .i64 t8))] H) (fun t3 H => K (.exit 0) [(3, (V.i .i64 t3))] H) (fun t2 H => K .ret [(2, (V.i .i64 t2))] H) := by kernel_rfl
theorem g27_p1_lin {R S : Type} {k : S → Option R} {t3 : Int} {t6 : Sl} {t7 : Int} {t8 : Int} {H : Heap} {fkN : Int → Sl → Int → Int → Heap → Option R} {gkN : Int → Sl → Int → Int → Heap → Option S} {fkE0 : Int → Heap → Option R} {gkE0 : Int → Heap → Option S} {fkR : Int → Heap → Option R} {gkR : Int → Heap → Option S} (hkN : ∀ t3 t6 t7 t8 H, fkN t3 t6 t7 t8 H = (gkN t3 t6 t7 t8 H).bind k) (hkE0 : ∀ t3 H, fkE0 t3 H = (gkE0 t3 H).bind k) (hkR : ∀ t2 H, fkR t2 H = (gkR t2 H).bind k) : g27_p1 R t3 t6 t7 t8 H fkN fkE0 fkR = (g27_p1 S t3 t6 t7 t8 H gkN gkE0 gkR).bind k := by
  delta g27_p1; exact (
    sl_lin (
      il (
        bl fun q1 =>
        bl fun x2 =>
        sl_lin (
          hkR _ _) (
          hkN _ _ _ _ _)) (
        rfl)) (
      hkE0 _ _))
abbrev g27_p2_S := Int × Sl × Int × Int
abbrev g27_p2_O := Sum (Int) (Int)
def g27_p2_es (s : g27_p2_S) : Fr := [(3, (V.i .i64 s.1)), (6, (V.sl s.2.1)), (7, (V.i .i64 s.2.2.1)), (8, (V.i .i64 s.2.2.2))]
def g27_p2_er : g27_p2_O → Ex × Fr
  | (.inl r) => ((.exit 0), [(3, (V.i .i64 r))])
  | (.inr r) => (.ret, [(2, (V.i .i64 r))])
noncomputable def g27_p2_b (s : g27_p2_S) (H : Heap) : Option (Rd g27_p2_S g27_p2_O × Heap) :=
  g27_p1 _ s.1 s.2.1 s.2.2.1 s.2.2.2 H (fun t3 t6 t7 t8 H => some (.go (t3, t6, t7, t8), H)) (fun t3 H => some (.up (.inl t3), H)) (fun t2 H => some (.up (.inr t2), H))
noncomputable def g27_p2 (R : Type) (t3 : Int) (t6 : Sl) (t7 : Int) (t8 : Int) (H : Heap) (kE0 : Int → Heap → Option R) (kR : Int → Heap → Option R) : Option R :=
  (tlim (g27_p2_b) (t3, t6, t7, t8) H).bind fun p => cas p.1 (fun r => kE0 r p.2) (fun r0 => kR r0 p.2)
theorem g27_p2_lin {R S : Type} {k : S → Option R} {t3 : Int} {t6 : Sl} {t7 : Int} {t8 : Int} {H : Heap} {fkE0 : Int → Heap → Option R} {gkE0 : Int → Heap → Option S} {fkR : Int → Heap → Option R} {gkR : Int → Heap → Option S} (hkE0 : ∀ t3 H, fkE0 t3 H = (gkE0 t3 H).bind k) (hkR : ∀ t2 H, fkR t2 H = (gkR t2 H).bind k) : g27_p2 R t3 t6 t7 t8 H fkE0 fkR = (g27_p2 S t3 t6 t7 t8 H gkE0 gkR).bind k := by
  exact bl fun p => cas_lin (fun _ => hkE0 _ _) (fun _ => hkR _ _)
theorem g27_p2_eq {R : Type} (t3 : Int) (t6 : Sl) (t7 : Int) (t8 : Int) (H : Heap) (K : Ex → Fr → Heap → Option R) : ev2 Try.prog E27 loopLim lv27 Try.f27.ntmps kp27 c27_1 [(3, (V.i .i64 t3)), (6, (V.sl t6)), (7, (V.i .i64 t7)), (8, (V.i .i64 t8))] H K = g27_p2 R t3 t6 t7 t8 H (fun t3 H => K (.exit 0) [(3, (V.i .i64 t3))] H) (fun t2 H => K .ret [(2, (V.i .i64 t2))] H) := by
  show ev2 Try.prog E27 loopLim lv27 Try.f27.ntmps kp27 (.loop c27_0) [(3, (V.i .i64 t3)), (6, (V.sl t6)), (7, (V.i .i64 t7)), (8, (V.i .i64 t8))] H K = _
  delta g27_p2
  refine (ev2_tlim (b := g27_p2_b) (es := g27_p2_es) (er := g27_p2_er) (by rintro (r | r) <;> exact nofun) (fun s H => ?_) (t3, t6, t7, t8) H K).trans (bc fun p => by rcases p with ⟨(r | r), H⟩ <;> rfl)
  exact (g27_p1_eq s.1 s.2.1 s.2.2.1 s.2.2.2 H ret3).trans (g27_p1_lin (fun _ _ _ _ _ => rfl) (fun _ _ => rfl) (fun _ _ => rfl))
noncomputable def g27_p3 (R : Type) (t3 : Int) (t6 : Sl) (t7 : Int) (t8 : Int) (H : Heap) (kN : Int → Heap → Option R) (kR : Int → Heap → Option R) : Option R :=
  g27_p2 R t3 t6 t7 t8 H (fun t3 H => kN t3 H) (fun t2 H => kR t2 H)
theorem g27_p3_lin {R S : Type} {k : S → Option R} {t3 : Int} {t6 : Sl} {t7 : Int} {t8 : Int} {H : Heap} {fkN : Int → Heap → Option R} {gkN : Int → Heap → Option S} {fkR : Int → Heap → Option R} {gkR : Int → Heap → Option S} (hkN : ∀ t3 H, fkN t3 H = (gkN t3 H).bind k) (hkR : ∀ t2 H, fkR t2 H = (gkR t2 H).bind k) : g27_p3 R t3 t6 t7 t8 H fkN fkR = (g27_p3 S t3 t6 t7 t8 H gkN gkR).bind k := by
  exact g27_p2_lin (fun _ _ => hkN _ _) (fun _ _ => hkR _ _)
theorem g27_p3_eq {R : Type} (t3 : Int) (t6 : Sl) (t7 : Int) (t8 : Int) (H : Heap) (K : Ex → Fr → Heap → Option R) : ev2 Try.prog E27 loopLim lv27 Try.f27.ntmps kp27 c27_2 [(3, (V.i .i64 t3)), (6, (V.sl t6)), (7, (V.i .i64 t7)), (8, (V.i .i64 t8))] H K = g27_p3 R t3 t6 t7 t8 H (fun t3 H => K .normal [(3, (V.i .i64 t3))] H) (fun t2 H => K .ret [(2, (V.i .i64 t2))] H) := by
  show ev2 Try.prog E27 loopLim lv27 Try.f27.ntmps kp27 (.block 0 c27_1) [(3, (V.i .i64 t3)), (6, (V.sl t6)), (7, (V.i .i64 t7)), (8, (V.i .i64 t8))] H K = _
  rw [ev2_block]
  delta g27_p3
  exact (g27_p2_eq t3 t6 t7 t8 H (kBlock kp27 0 K))
noncomputable def g27_p4 (R : Type) (t3 : Int) (H : Heap) (kR : Int → Heap → Option R) : Option R :=
  kR t3 H
theorem g27_p4_eq {R : Type} (t3 : Int) (H : Heap) (K : Ex → Fr → Heap → Option R) : ev2 Try.prog E27 loopLim lv27 Try.f27.ntmps kp27 c27_3 [(3, (V.i .i64 t3))] H K = g27_p4 R t3 H (fun t2 H => K .ret [(2, (V.i .i64 t2))] H) := by kernel_rfl
theorem g27_p4_lin {R S : Type} {k : S → Option R} {t3 : Int} {H : Heap} {fkR : Int → Heap → Option R} {gkR : Int → Heap → Option S} (hkR : ∀ t2 H, fkR t2 H = (gkR t2 H).bind k) : g27_p4 R t3 H fkR = (g27_p4 S t3 H gkR).bind k := by
  delta g27_p4; exact (
    hkR _ _)
noncomputable def g27_p5 (R : Type) (t3 : Int) (t6 : Sl) (t7 : Int) (t8 : Int) (H : Heap) (kR : Int → Heap → Option R) : Option R :=
  g27_p3 R t3 t6 t7 t8 H (fun t3 H => g27_p4 R t3 H (fun t2 H => kR t2 H)) (fun t2 H => kR t2 H)
theorem g27_p5_lin {R S : Type} {k : S → Option R} {t3 : Int} {t6 : Sl} {t7 : Int} {t8 : Int} {H : Heap} {fkR : Int → Heap → Option R} {gkR : Int → Heap → Option S} (hkR : ∀ t2 H, fkR t2 H = (gkR t2 H).bind k) : g27_p5 R t3 t6 t7 t8 H fkR = (g27_p5 S t3 t6 t7 t8 H gkR).bind k := by
  exact g27_p3_lin (fun _ _ => g27_p4_lin (fun _ _ => hkR _ _)) (fun _ _ => hkR _ _)
theorem g27_p5_eq {R : Type} (t3 : Int) (t6 : Sl) (t7 : Int) (t8 : Int) (H : Heap) (K : Ex → Fr → Heap → Option R) : ev2 Try.prog E27 loopLim lv27 Try.f27.ntmps kp27 c27_4 [(3, (V.i .i64 t3)), (6, (V.sl t6)), (7, (V.i .i64 t7)), (8, (V.i .i64 t8))] H K = g27_p5 R t3 t6 t7 t8 H (fun t2 H => K .ret [(2, (V.i .i64 t2))] H) := by
  show ev2 Try.prog E27 loopLim lv27 Try.f27.ntmps kp27 (.seq c27_2 c27_3) [(3, (V.i .i64 t3)), (6, (V.sl t6)), (7, (V.i .i64 t7)), (8, (V.i .i64 t8))] H K = _
  rw [ev2_seq]
  delta g27_p5
  exact (g27_p3_eq t3 t6 t7 t8 H (kSeq (fun fr H => ev2 Try.prog E27 loopLim lv27 Try.f27.ntmps kp27 c27_3 fr H K) K)).trans (congr (congrArg (g27_p3 R t3 t6 t7 t8 H) (funext fun t3 => funext fun H => (kSeq_n _ _ _ _).trans (g27_p4_eq t3 H K))) rfl)
noncomputable def g27_p6 (R : Type) (t0 : Sl) (H : Heap) (kR : Int → Heap → Option R) : Option R :=
  g27_p0 R t0 H (fun t3 t6 t7 t8 H => g27_p5 R t3 t6 t7 t8 H (fun t2 H => kR t2 H))
theorem g27_p6_lin {R S : Type} {k : S → Option R} {t0 : Sl} {H : Heap} {fkR : Int → Heap → Option R} {gkR : Int → Heap → Option S} (hkR : ∀ t2 H, fkR t2 H = (gkR t2 H).bind k) : g27_p6 R t0 H fkR = (g27_p6 S t0 H gkR).bind k := by
  exact g27_p0_lin (fun _ _ _ _ _ => g27_p5_lin (fun _ _ => hkR _ _))
theorem g27_p6_eq {R : Type} (t0 : Sl) (H : Heap) (K : Ex → Fr → Heap → Option R) : ev2 Try.prog E27 loopLim lv27 Try.f27.ntmps kp27 c27_5 [(0, (V.sl t0))] H K = g27_p6 R t0 H (fun t2 H => K .ret [(2, (V.i .i64 t2))] H) := by
  show ev2 Try.prog E27 loopLim lv27 Try.f27.ntmps kp27 (.seq (codeAt [0] b27) (.seq (codeAt [1, 0] b27) (.seq (codeAt [1, 1, 0, 0] b27) c27_4))) [(0, (V.sl t0))] H K = _
  delta g27_p6
  exact (g27_p0_eq _ t0 H K).trans (congrArg (g27_p0 R t0 H) (funext fun t3 => funext fun t6 => funext fun t7 => funext fun t8 => funext fun H => g27_p5_eq t3 t6 t7 t8 H K))
noncomputable def g27_r : T27 := fun R t0 H K =>
  g27_p6 R t0 H (fun t2 H =>
    K t2 H)
theorem g27_r_lin : Lin27 (g27_r) := by
  constructor
  intro R S k t0 H f g h
  exact g27_p6_lin (fun t2 H =>
    h _ _)
theorem g27_fn {R : Type} (t0 : Sl) (H : Heap) (K : V → Heap → Option R) : evFn2 Try.prog E27 loopLim lv27 Try.f27 kp27 [(V.sl t0)] H K = g27_r R t0 H (fun r0 H => K (V.i .i64 r0) H) := by
  have h0 : ∀ (t2 : Int) (H : Heap), kFn2 Try.prog Try.f27.results.toList K .ret [(2, (V.i .i64 t2))] H =
      K (V.i .i64 t2) H := by intros; kernel_rfl
  have e0 := evFn2_code2 (P := Try.prog) (c := c27_5) (E := E27) (lr := loopLim) (lv := lv27) (kp := kp27) (fn := Try.f27) (args := [(V.sl t0)]) H K (by kernel_rfl) (Nat.le_of_ble_eq_true (by kernel_rfl)) (by kernel_rfl) (by kernel_rfl)
  have e1 : ev2 Try.prog E27 loopLim lv27 Try.f27.ntmps kp27 c27_5 (argFr 0 [(V.sl t0)]) H (kFn2 Try.prog Try.f27.results.toList K) = ev2 Try.prog E27 loopLim lv27 Try.f27.ntmps kp27 c27_5 [(0, (V.sl t0))] H (kFn2 Try.prog Try.f27.results.toList K) := by kernel_rfl
  refine (e0.trans e1).trans ?_
  delta g27_r
  exact (g27_p6_eq t0 H (kFn2 Try.prog Try.f27.results.toList K)).trans (congrArg (g27_p6 R t0 H) (funext fun t2 => funext fun H => h0 t2 H))
theorem g27_ok : FunOK Try.prog 27 (w27 (g27_r)) := by
  refine (runF2_ok (E27_good) mixed lim_ok Try.func27 (by kernel_rfl) lv27 kp27).of_le fun R args H K r hk => ?_
  unfold w27 at hk
  split at hk
  · exact (g27_fn _ H K).trans hk
  · cases hk
def kp26 : Nat → Option (List Nat) := kpOf [(0, [2, 3, 500002, 500003, 1000002, 1000003]), (1, [4]), (300000, [4])]
def E26 (a28 : T28) (a29 : T29) (a27 : T27) : FEnv := [(28, w28 a28), (29, w29 a29), (27, w27 a27)]
theorem E26_good {a28 : T28} {a29 : T29} {a27 : T27} (oa28 : FunOK Try.prog 28 (w28 a28)) (oa29 : FunOK Try.prog 29 (w29 a29)) (oa27 : FunOK Try.prog 27 (w27 a27)) (la28 : Lin28 a28) (la29 : Lin29 a29) (la27 : Lin27 a27) : EnvGood Try.prog (E26 a28 a29 a27) := ((((EnvGood.nil _).cons oa27 (w27_lin la27)).cons oa29 (w29_lin la29)).cons oa28 (w28_lin la28))
theorem E26_lin {a28 : T28} {a29 : T29} {a27 : T27} (la28 : Lin28 a28) (la29 : Lin29 a29) (la27 : Lin27 a27) : EnvLin (E26 a28 a29 a27) := by
  intro g F h
  simp only [E26, List.mem_cons, List.not_mem_nil, or_false] at h
  rcases h with h | h | h
  · cases h; exact w28_lin la28
  · cases h; exact w29_lin la29
  · cases h; exact w27_lin la27
def lv26 : Nat → Bool := lvOf [2, 3]
noncomputable def b26 : Code := Try.f26.body.getD .skip
noncomputable def c26_0 : Code := (.seq (codeAt [0] b26) (.seq (codeAt [1, 0] b26) .ret))
noncomputable def g26_p0 (a28 : T28) (a29 : T29) (a27 : T27) (R : Type) (t0_0 : Int) (t0_1 : Int) (t1_0 : Int) (t1_1 : Int) (H : Heap) (kR : Int → Heap → Option R) : Option R :=
  a28 R t0_0 t1_0 H fun x1 h2 =>
  a29 R t0_1 t1_1 h2 fun x3 h4 =>
  alo h4 (.cells [(V.i .i64 x1), (V.i .i64 x3)] 3 false) fun i5 h6 =>
  a27 R (Sl.mk (some (i5, 0)) 2 (.ex 2)) h6 fun x7 h8 =>
  kR x7 h8
theorem g26_p0_eq (a28 : T28) (a29 : T29) (a27 : T27) (la28 : Lin28 a28) (la29 : Lin29 a29) (la27 : Lin27 a27) {R : Type} (t0_0 : Int) (t0_1 : Int) (t1_0 : Int) (t1_1 : Int) (H : Heap) (K : Ex → Fr → Heap → Option R) : ev2 Try.prog (E26 a28 a29 a27) loopLim lv26 Try.f26.ntmps kp26 c26_0 [(0, (V.agg [(V.i .u16 t0_0), (V.i .u32 t0_1)])), (1, (V.agg [(V.i .u16 t1_0), (V.i .u32 t1_1)]))] H K = g26_p0 a28 a29 a27 R t0_0 t0_1 t1_0 t1_1 H (fun t4 H => K .ret [(4, (V.i .i64 t4))] H) := by kernel_rfl
theorem g26_p0_lin {a28 : T28} {a29 : T29} {a27 : T27} (la28 : Lin28 a28) (la29 : Lin29 a29) (la27 : Lin27 a27) {R S : Type} {k : S → Option R} {t0_0 : Int} {t0_1 : Int} {t1_0 : Int} {t1_1 : Int} {H : Heap} {fkR : Int → Heap → Option R} {gkR : Int → Heap → Option S} (hkR : ∀ t4 H, fkR t4 H = (gkR t4 H).bind k) : g26_p0 a28 a29 a27 R t0_0 t0_1 t1_0 t1_1 H fkR = (g26_p0 a28 a29 a27 S t0_0 t0_1 t1_0 t1_1 H gkR).bind k := by
  delta g26_p0; exact (
    la28.l fun x1 h2 =>
    la29.l fun x3 h4 =>
    alo_lin fun i5 h6 =>
    la27.l fun x7 h8 =>
    hkR _ _)
noncomputable def g26_r (a28 : T28) (a29 : T29) (a27 : T27) : T26 := fun R t0_0 t0_1 t1_0 t1_1 H K =>
  g26_p0 a28 a29 a27 R t0_0 t0_1 t1_0 t1_1 H (fun t4 H =>
    K t4 H)
theorem g26_r_lin {a28 : T28} {a29 : T29} {a27 : T27} (la28 : Lin28 a28) (la29 : Lin29 a29) (la27 : Lin27 a27) : Lin26 (g26_r a28 a29 a27) := by
  constructor
  intro R S k t0_0 t0_1 t1_0 t1_1 H f g h
  exact g26_p0_lin la28 la29 la27 (fun t4 H =>
    h _ _)
theorem g26_fn (a28 : T28) (a29 : T29) (a27 : T27) (la28 : Lin28 a28) (la29 : Lin29 a29) (la27 : Lin27 a27) {R : Type} (t0_0 : Int) (t0_1 : Int) (t1_0 : Int) (t1_1 : Int) (H : Heap) (K : V → Heap → Option R) : evFn2 Try.prog (E26 a28 a29 a27) loopLim lv26 Try.f26 kp26 [(V.agg [(V.i .u16 t0_0), (V.i .u32 t0_1)]), (V.agg [(V.i .u16 t1_0), (V.i .u32 t1_1)])] H K = g26_r a28 a29 a27 R t0_0 t0_1 t1_0 t1_1 H (fun r0 H => K (V.i .i64 r0) H) := by
  have h0 : ∀ (t4 : Int) (H : Heap), kFn2 Try.prog Try.f26.results.toList K .ret [(4, (V.i .i64 t4))] H =
      K (V.i .i64 t4) H := by intros; kernel_rfl
  have e0 := evFn2_code2 (P := Try.prog) (c := c26_0) (E := (E26 a28 a29 a27)) (lr := loopLim) (lv := lv26) (kp := kp26) (fn := Try.f26) (args := [(V.agg [(V.i .u16 t0_0), (V.i .u32 t0_1)]), (V.agg [(V.i .u16 t1_0), (V.i .u32 t1_1)])]) H K (by kernel_rfl) (Nat.le_of_ble_eq_true (by kernel_rfl)) (by kernel_rfl) (by kernel_rfl)
  have e1 : ev2 Try.prog (E26 a28 a29 a27) loopLim lv26 Try.f26.ntmps kp26 c26_0 (argFr 0 [(V.agg [(V.i .u16 t0_0), (V.i .u32 t0_1)]), (V.agg [(V.i .u16 t1_0), (V.i .u32 t1_1)])]) H (kFn2 Try.prog Try.f26.results.toList K) = ev2 Try.prog (E26 a28 a29 a27) loopLim lv26 Try.f26.ntmps kp26 c26_0 [(0, (V.agg [(V.i .u16 t0_0), (V.i .u32 t0_1)])), (1, (V.agg [(V.i .u16 t1_0), (V.i .u32 t1_1)]))] H (kFn2 Try.prog Try.f26.results.toList K) := by kernel_rfl
  refine (e0.trans e1).trans ?_
  delta g26_r
  exact (g26_p0_eq a28 a29 a27 la28 la29 la27 t0_0 t0_1 t1_0 t1_1 H (kFn2 Try.prog Try.f26.results.toList K)).trans (congrArg (g26_p0 a28 a29 a27 R t0_0 t0_1 t1_0 t1_1 H) (funext fun t4 => funext fun H => h0 t4 H))
theorem g26_ok {a28 : T28} {a29 : T29} {a27 : T27} (oa28 : FunOK Try.prog 28 (w28 a28)) (oa29 : FunOK Try.prog 29 (w29 a29)) (oa27 : FunOK Try.prog 27 (w27 a27)) (la28 : Lin28 a28) (la29 : Lin29 a29) (la27 : Lin27 a27) : FunOK Try.prog 26 (w26 (g26_r a28 a29 a27)) := by
  refine (runF2_ok (E26_good oa28 oa29 oa27 la28 la29 la27) mixed lim_ok Try.func26 (by kernel_rfl) lv26 kp26).of_le fun R args H K r hk => ?_
  unfold w26 at hk
  split at hk
  · exact (g26_fn a28 a29 a27 la28 la29 la27 _ _ _ _ H K).trans hk
  · cases hk
def kp32 : Nat → Option (List Nat) := kpOf [(0, [0]), (1, [0, 4]), (2, [2]), (3, [2]), (300000, [2]), (400004, [0])]
def E32 : FEnv := []
theorem E32_good : EnvGood Try.prog E32 := (EnvGood.nil _)
theorem E32_lin : EnvLin E32 := fun g F h => by cases h
def lv32 : Nat → Bool := lvOf []
noncomputable def b32 : Code := Try.f32.body.getD .skip
noncomputable def c32_0 : Code := (.seq (codeAt [0] b32) (.seq (codeAt [1, 0, 0] b32) (.seq (.cond (.tmp 4) (.seq (codeAt [1, 0, 1, 0, 0] b32) .ret) .skip) (.seq (codeAt [1, 1, 0] b32) .ret))))
noncomputable def g32_p0 (R : Type) (t0 : Sl) (H : Heap) (kR : Sl → Heap → Option R) : Option R :=
  sel (Option.isNone t0.a) (
    kR (Sl.mk none 0 (.ex 0)) H) (
    alo H (.cells [] 5 false) fun i1 h2 =>
    ((slCells h2 1 t0)).bind fun vs5 =>
    appendV h2 5 1 1 (Sl.mk (some (i1, 0)) 0 (.ex 0)) t0.len vs5 fun s3 h4 =>
    kR s3 h4)
theorem g32_p0_eq {R : Type} (t0 : Sl) (H : Heap) (K : Ex → Fr → Heap → Option R) : ev2 Try.prog E32 loopLim lv32 Try.f32.ntmps kp32 c32_0 [(0, (V.sl t0))] H K = g32_p0 R t0 H (fun t2 H => K .ret [(2, (V.sl t2))] H) := by kernel_rfl
theorem g32_p0_lin {R S : Type} {k : S → Option R} {t0 : Sl} {H : Heap} {fkR : Sl → Heap → Option R} {gkR : Sl → Heap → Option S} (hkR : ∀ t2 H, fkR t2 H = (gkR t2 H).bind k) : g32_p0 R t0 H fkR = (g32_p0 S t0 H gkR).bind k := by
  delta g32_p0; exact (
    sl_lin (
      hkR _ _) (
      alo_lin fun i1 h2 =>
      bl fun vs5 =>
      appendV_lin fun s3 h4 =>
      hkR _ _))
noncomputable def g32_r : T32 := fun R t0 H K =>
  g32_p0 R t0 H (fun t2 H =>
    K t2 H)
theorem g32_r_lin : Lin32 (g32_r) := by
  constructor
  intro R S k t0 H f g h
  exact g32_p0_lin (fun t2 H =>
    h _ _)
theorem g32_fn {R : Type} (t0 : Sl) (H : Heap) (K : V → Heap → Option R) : evFn2 Try.prog E32 loopLim lv32 Try.f32 kp32 [(V.sl t0)] H K = g32_r R t0 H (fun r0 H => K (V.sl r0) H) := by
  have h0 : ∀ (t2 : Sl) (H : Heap), kFn2 Try.prog Try.f32.results.toList K .ret [(2, (V.sl t2))] H =
      K (V.sl t2) H := by intros; kernel_rfl
  have e0 := evFn2_code2 (P := Try.prog) (c := c32_0) (E := E32) (lr := loopLim) (lv := lv32) (kp := kp32) (fn := Try.f32) (args := [(V.sl t0)]) H K (by kernel_rfl) (Nat.le_of_ble_eq_true (by kernel_rfl)) (by kernel_rfl) (by kernel_rfl)
  have e1 : ev2 Try.prog E32 loopLim lv32 Try.f32.ntmps kp32 c32_0 (argFr 0 [(V.sl t0)]) H (kFn2 Try.prog Try.f32.results.toList K) = ev2 Try.prog E32 loopLim lv32 Try.f32.ntmps kp32 c32_0 [(0, (V.sl t0))] H (kFn2 Try.prog Try.f32.results.toList K) := by kernel_rfl
  refine (e0.trans e1).trans ?_
  delta g32_r
  exact (g32_p0_eq t0 H (kFn2 Try.prog Try.f32.results.toList K)).trans (congrArg (g32_p0 R t0 H) (funext fun t2 => funext fun H => h0 t2 H))
theorem g32_ok : FunOK Try.prog 32 (w32 (g32_r)) := by
  refine (runF2_ok (E32_good) mixed lim_ok Try.func32 (by kernel_rfl) lv32 kp32).of_le fun R args H K r hk => ?_
  unfold w32 at hk
  split at hk
  · exact (g32_fn _ H K).trans hk
  · cases hk
def kp31 : Nat → Option (List Nat) := kpOf [(0, [0]), (1, [2]), (300000, [2])]
def E31 : FEnv := []
theorem E31_good : EnvGood Try.prog E31 := (EnvGood.nil _)
theorem E31_lin : EnvLin E31 := fun g F h => by cases h
def lv31 : Nat → Bool := lvOf []
noncomputable def b31 : Code := Try.f31.body.getD .skip
noncomputable def c31_0 : Code := (.seq (codeAt [0] b31) (.seq (codeAt [1, 0] b31) .ret))
noncomputable def g31_p0 (R : Type) (t0 : Sl) (H : Heap) (kR : Sl → Heap → Option R) : Option R :=
  slOf 1 t0 none (some ((t0.len : Nat) : Int)) (some ((t0.len : Nat) : Int)) fun s1 =>
  kR s1 H
theorem g31_p0_eq {R : Type} (t0 : Sl) (H : Heap) (K : Ex → Fr → Heap → Option R) : ev2 Try.prog E31 loopLim lv31 Try.f31.ntmps kp31 c31_0 [(0, (V.sl t0))] H K = g31_p0 R t0 H (fun t2 H => K .ret [(2, (V.sl t2))] H) := by kernel_rfl
theorem g31_p0_lin {R S : Type} {k : S → Option R} {t0 : Sl} {H : Heap} {fkR : Sl → Heap → Option R} {gkR : Sl → Heap → Option S} (hkR : ∀ t2 H, fkR t2 H = (gkR t2 H).bind k) : g31_p0 R t0 H fkR = (g31_p0 S t0 H gkR).bind k := by
  delta g31_p0; exact (
    slOf_lin fun s1 =>
    hkR _ _)
noncomputable def g31_r : T31 := fun R t0 H K =>
  g31_p0 R t0 H (fun t2 H =>
    K t2 H)
theorem g31_r_lin : Lin31 (g31_r) := by
  constructor
  intro R S k t0 H f g h
  exact g31_p0_lin (fun t2 H =>
    h _ _)
theorem g31_fn {R : Type} (t0 : Sl) (H : Heap) (K : V → Heap → Option R) : evFn2 Try.prog E31 loopLim lv31 Try.f31 kp31 [(V.sl t0)] H K = g31_r R t0 H (fun r0 H => K (V.sl r0) H) := by
  have h0 : ∀ (t2 : Sl) (H : Heap), kFn2 Try.prog Try.f31.results.toList K .ret [(2, (V.sl t2))] H =
      K (V.sl t2) H := by intros; kernel_rfl
  have e0 := evFn2_code2 (P := Try.prog) (c := c31_0) (E := E31) (lr := loopLim) (lv := lv31) (kp := kp31) (fn := Try.f31) (args := [(V.sl t0)]) H K (by kernel_rfl) (Nat.le_of_ble_eq_true (by kernel_rfl)) (by kernel_rfl) (by kernel_rfl)
  have e1 : ev2 Try.prog E31 loopLim lv31 Try.f31.ntmps kp31 c31_0 (argFr 0 [(V.sl t0)]) H (kFn2 Try.prog Try.f31.results.toList K) = ev2 Try.prog E31 loopLim lv31 Try.f31.ntmps kp31 c31_0 [(0, (V.sl t0))] H (kFn2 Try.prog Try.f31.results.toList K) := by kernel_rfl
  refine (e0.trans e1).trans ?_
  delta g31_r
  exact (g31_p0_eq t0 H (kFn2 Try.prog Try.f31.results.toList K)).trans (congrArg (g31_p0 R t0 H) (funext fun t2 => funext fun H => h0 t2 H))
theorem g31_ok : FunOK Try.prog 31 (w31 (g31_r)) := by
  refine (runF2_ok (E31_good) mixed lim_ok Try.func31 (by kernel_rfl) lv31 kp31).of_le fun R args H K r hk => ?_
  unfold w31 at hk
  split at hk
  · exact (g31_fn _ H K).trans hk
  · cases hk
end Go.Proofs.Ytobebcfkddimkaa

