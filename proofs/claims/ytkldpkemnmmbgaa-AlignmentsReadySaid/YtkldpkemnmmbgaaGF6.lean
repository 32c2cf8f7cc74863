/- Printed: functions as the machine runs them. -/
import Derived.Test.YtkldpkemnmmbgaaGT
namespace Go.Proofs.Ytkldpkemnmmbgaa
open Go AM Go.RowKit
set_option linter.unusedVariables false
def kp24 : Nat → Option (List Nat) := kpOf [(0, [0]), (1, [0, 4]), (2, [2]), (3, []), (4, [2]), (300000, [2]), (400004, [0])]
def E24 (a28 : T28) (a29 : T29) : FEnv := [(28, w28 a28), (29, w29 a29)]
theorem E24_good {a28 : T28} {a29 : T29} (oa28 : FunOK Try.prog 28 (w28 a28)) (oa29 : FunOK Try.prog 29 (w29 a29)) (la28 : Lin28 a28) (la29 : Lin29 a29) : EnvGood Try.prog (E24 a28 a29) := (((EnvGood.nil _).cons oa29 (w29_lin la29)).cons oa28 (w28_lin la28))
theorem E24_lin {a28 : T28} {a29 : T29} (la28 : Lin28 a28) (la29 : Lin29 a29) : EnvLin (E24 a28 a29) := by
  intro g F h
  simp only [E24, List.mem_cons, List.not_mem_nil, or_false] at h
  rcases h with h | h
  · cases h; exact w28_lin la28
  · cases h; exact w29_lin la29
noncomputable def b24 : Code := Try.f24.body.getD .skip
noncomputable def c24_0 : Code := (.seq (codeAt [0] b24) (.seq (codeAt [1, 0, 0] b24) (.seq (.cond (.tmp 4) (.seq (codeAt [1, 0, 1, 0, 0] b24) .ret) .skip) (.seq (codeAt [1, 1, 0] b24) (.seq (codeAt [1, 1, 1, 0] b24) .ret)))))
noncomputable def g24_p0 (a28 : T28) (a29 : T29) (R : Type) (t0 : Option (Nat × Nat)) (H : Heap) (kR : Int → Heap → Option R) : Option R :=
  a28 R t0 H fun x1 h2 =>
  sel x1 (
    kR (2 : Int) h2) (
    a29 R t0 (0 : Int) h2 fun h3 =>
    kR (0 : Int) h3)
theorem g24_p0_eq (a28 : T28) (a29 : T29) (la28 : Lin28 a28) (la29 : Lin29 a29) {R : Type} (t0 : Option (Nat × Nat)) (H : Heap) (K : Ex → Fr → Heap → Option R) : ev Try.prog (E24 a28 a29) loopLim Try.f24.ntmps kp24 c24_0 [(0, (V.p t0))] H K = g24_p0 a28 a29 R t0 H (fun t2 H => K .ret [(2, (V.i .i64 t2))] H) := by kernel_rfl
theorem g24_p0_lin {a28 : T28} {a29 : T29} (la28 : Lin28 a28) (la29 : Lin29 a29) {R S : Type} {k : S → Option R} {t0 : Option (Nat × Nat)} {H : Heap} {fkR : Int → Heap → Option R} {gkR : Int → Heap → Option S} (hkR : ∀ t2 H, fkR t2 H = (gkR t2 H).bind k) : g24_p0 a28 a29 R t0 H fkR = (g24_p0 a28 a29 S t0 H gkR).bind k := by
  delta g24_p0; exact (
    la28.l fun x1 h2 =>
    sl_lin (
      hkR _ _) (
      la29.l fun h3 =>
      hkR _ _))
noncomputable def g24_r (a28 : T28) (a29 : T29) : T24 := fun R t0 H K =>
  g24_p0 a28 a29 R t0 H (fun t2 H =>
    K t2 H)
theorem g24_r_lin {a28 : T28} {a29 : T29} (la28 : Lin28 a28) (la29 : Lin29 a29) : Lin24 (g24_r a28 a29) := by
  constructor
  intro R S k t0 H f g h
  exact g24_p0_lin la28 la29 (fun t2 H =>
    h _ _)
theorem g24_fn (a28 : T28) (a29 : T29) (la28 : Lin28 a28) (la29 : Lin29 a29) {R : Type} (t0 : Option (Nat × Nat)) (H : Heap) (K : V → Heap → Option R) : evFn Try.prog (E24 a28 a29) loopLim Try.f24 kp24 [(V.p t0)] H K = g24_r a28 a29 R t0 H (fun r0 H => K (V.i .i64 r0) H) := by
  have h0 : ∀ (t2 : Int) (H : Heap), kFn Try.prog Try.f24.results.toList K .ret [(2, (V.i .i64 t2))] H =
      K (V.i .i64 t2) H := by intros; kernel_rfl
  have e0 := evFn_code2 (P := Try.prog) (c := c24_0) (E := (E24 a28 a29)) (lr := loopLim) (kp := kp24) (fn := Try.f24) (args := [(V.p t0)]) H K (by kernel_rfl) (Nat.le_of_ble_eq_true (by kernel_rfl)) (by kernel_rfl)
  have e1 : ev Try.prog (E24 a28 a29) loopLim Try.f24.ntmps kp24 c24_0 (argFr 0 [(V.p t0)]) H (kFn Try.prog Try.f24.results.toList K) = ev Try.prog (E24 a28 a29) loopLim Try.f24.ntmps kp24 c24_0 [(0, (V.p t0))] H (kFn Try.prog Try.f24.results.toList K) := by kernel_rfl
  refine (e0.trans e1).trans ?_
  delta g24_r
  exact (g24_p0_eq a28 a29 la28 la29 t0 H (kFn Try.prog Try.f24.results.toList K)).trans (congrArg (g24_p0 a28 a29 R t0 H) (funext fun t2 => funext fun H => h0 t2 H))
theorem g24_ok {a28 : T28} {a29 : T29} (oa28 : FunOK Try.prog 28 (w28 a28)) (oa29 : FunOK Try.prog 29 (w29 a29)) (la28 : Lin28 a28) (la29 : Lin29 a29) : FunOK Try.prog 24 (w24 (g24_r a28 a29)) := by
  refine (runF_ok (E24_good oa28 oa29 la28 la29) mixed lim_ok Try.func24 (by kernel_rfl) kp24).of_le fun R args H K r hk => ?_
  unfold w24 at hk
  split at hk
  · exact (g24_fn a28 a29 la28 la29 _ H K).trans hk
  · cases hk
def kp20 : Nat → Option (List Nat) := kpOf [(0, [0, 1]), (1, [0, 1, 5]), (2, [4]), (3, [0, 1, 12]), (4, [4]), (5, [0, 1, 17]), (6, [4]), (7, [0, 1, 22]), (8, [4]), (9, [4]), (100000, [0, 1]), (200000, [0, 1]), (300000, [4]), (400005, [0, 1]), (400012, [0, 1]), (400017, [0, 1]), (400022, [0, 1])]
def E20 (a11 : T11) (a24 : T24) (a19 : T19) (a12 : T12) (a17 : T17) : FEnv := [(11, w11 a11), (24, w24 a24), (19, w19 a19), (12, w12 a12), (17, w17 a17)]
theorem E20_good {a11 : T11} {a24 : T24} {a19 : T19} {a12 : T12} {a17 : T17} (oa11 : FunOK Try.prog 11 (w11 a11)) (oa24 : FunOK Try.prog 24 (w24 a24)) (oa19 : FunOK Try.prog 19 (w19 a19)) (oa12 : FunOK Try.prog 12 (w12 a12)) (oa17 : FunOK Try.prog 17 (w17 a17)) (la11 : Lin11 a11) (la24 : Lin24 a24) (la19 : Lin19 a19) (la12 : Lin12 a12) (la17 : Lin17 a17) : EnvGood Try.prog (E20 a11 a24 a19 a12 a17) := ((((((EnvGood.nil _).cons oa17 (w17_lin la17)).cons oa12 (w12_lin la12)).cons oa19 (w19_lin la19)).cons oa24 (w24_lin la24)).cons oa11 (w11_lin la11))
theorem E20_lin {a11 : T11} {a24 : T24} {a19 : T19} {a12 : T12} {a17 : T17} (la11 : Lin11 a11) (la24 : Lin24 a24) (la19 : Lin19 a19) (la12 : Lin12 a12) (la17 : Lin17 a17) : EnvLin (E20 a11 a24 a19 a12 a17) := by
  intro g F h
  simp only [E20, List.mem_cons, List.not_mem_nil, or_false] at h
  rcases h with h | h | h | h | h
  · cases h; exact w11_lin la11
  · cases h; exact w24_lin la24
  · cases h; exact w19_lin la19
  · cases h; exact w12_lin la12
  · cases h; exact w17_lin la17
noncomputable def b20 : Code := Try.f20.body.getD .skip
noncomputable def c20_0 : Code := (.seq (codeAt [0] b20) (.seq (.block 0 (.seq (codeAt [1, 0, 0, 0] b20) (.cond (.tmp 5) (.seq (codeAt [1, 0, 0, 1, 0, 0] b20) .ret) (.seq (codeAt [1, 0, 0, 1, 1, 0] b20) (.cond (.tmp 12) (.seq (codeAt [1, 0, 0, 1, 1, 1, 0, 0] b20) .ret) (.seq (codeAt [1, 0, 0, 1, 1, 1, 1, 0] b20) (.cond (.tmp 17) (.seq (codeAt [1, 0, 0, 1, 1, 1, 1, 1, 0, 0] b20) .ret) (.seq (codeAt [1, 0, 0, 1, 1, 1, 1, 1, 1, 0] b20) (.cond (.tmp 22) (.seq (codeAt [1, 0, 0, 1, 1, 1, 1, 1, 1, 1, 0, 0] b20) .ret) .skip))))))))) (.seq (codeAt [1, 1, 0] b20) .ret)))
noncomputable def g20_p0 (a11 : T11) (a24 : T24) (a19 : T19) (a12 : T12) (a17 : T17) (R : Type) (t0 : Option (Nat × Nat)) (t1 : Int) (H : Heap) (kR : Int → Heap → Option R) : Option R :=
  sel (decide (t1 < (2 : Int))) (
    a11 R t0 (t1 == (1 : Int)) H fun x1 h2 =>
    kR x1 h2) (
    sel (t1 == (2 : Int)) (
      a24 R t0 H fun x3 h4 =>
      kR x3 h4) (
      sel (t1 == (3 : Int)) (
        a19 R t0 H fun x5 h6 =>
        kR x5 h6) (
        sel (decide (t1 < (8 : Int))) (
          a12 R t0 H fun x7 h8 =>
          kR x7 h8) (
          a17 R t0 (IntKind.wrap .u8 (t1 - (8 : Int))) H fun x9 h10 =>
          kR x9 h10))))
theorem g20_p0_eq (a11 : T11) (a24 : T24) (a19 : T19) (a12 : T12) (a17 : T17) (la11 : Lin11 a11) (la24 : Lin24 a24) (la19 : Lin19 a19) (la12 : Lin12 a12) (la17 : Lin17 a17) {R : Type} (t0 : Option (Nat × Nat)) (t1 : Int) (H : Heap) (K : Ex → Fr → Heap → Option R) : ev Try.prog (E20 a11 a24 a19 a12 a17) loopLim Try.f20.ntmps kp20 c20_0 [(0, (V.p t0)), (1, (V.i .u8 t1))] H K = g20_p0 a11 a24 a19 a12 a17 R t0 t1 H (fun t4 H => K .ret [(4, (V.i .i64 t4))] H) := by kernel_rfl
theorem g20_p0_lin {a11 : T11} {a24 : T24} {a19 : T19} {a12 : T12} {a17 : T17} (la11 : Lin11 a11) (la24 : Lin24 a24) (la19 : Lin19 a19) (la12 : Lin12 a12) (la17 : Lin17 a17) {R S : Type} {k : S → Option R} {t0 : Option (Nat × Nat)} {t1 : Int} {H : Heap} {fkR : Int → Heap → Option R} {gkR : Int → Heap → Option S} (hkR : ∀ t4 H, fkR t4 H = (gkR t4 H).bind k) : g20_p0 a11 a24 a19 a12 a17 R t0 t1 H fkR = (g20_p0 a11 a24 a19 a12 a17 S t0 t1 H gkR).bind k := by
  delta g20_p0; exact (
    sl_lin (
      la11.l fun x1 h2 =>
      hkR _ _) (
      sl_lin (
        la24.l fun x3 h4 =>
        hkR _ _) (
        sl_lin (
          la19.l fun x5 h6 =>
          hkR _ _) (
          sl_lin (
            la12.l fun x7 h8 =>
            hkR _ _) (
            la17.l fun x9 h10 =>
            hkR _ _)))))
noncomputable def g20_r (a11 : T11) (a24 : T24) (a19 : T19) (a12 : T12) (a17 : T17) : T20 := fun R t0 t1 H K =>
  g20_p0 a11 a24 a19 a12 a17 R t0 t1 H (fun t4 H =>
    K t4 H)
theorem g20_r_lin {a11 : T11} {a24 : T24} {a19 : T19} {a12 : T12} {a17 : T17} (la11 : Lin11 a11) (la24 : Lin24 a24) (la19 : Lin19 a19) (la12 : Lin12 a12) (la17 : Lin17 a17) : Lin20 (g20_r a11 a24 a19 a12 a17) := by
  constructor
  intro R S k t0 t1 H f g h
  exact g20_p0_lin la11 la24 la19 la12 la17 (fun t4 H =>
    h _ _)
theorem g20_fn (a11 : T11) (a24 : T24) (a19 : T19) (a12 : T12) (a17 : T17) (la11 : Lin11 a11) (la24 : Lin24 a24) (la19 : Lin19 a19) (la12 : Lin12 a12) (la17 : Lin17 a17) {R : Type} (t0 : Option (Nat × Nat)) (t1 : Int) (H : Heap) (K : V → Heap → Option R) : evFn Try.prog (E20 a11 a24 a19 a12 a17) loopLim Try.f20 kp20 [(V.p t0), (V.i .u8 t1)] H K = g20_r a11 a24 a19 a12 a17 R t0 t1 H (fun r0 H => K (V.i .i64 r0) H) := by
  have h0 : ∀ (t4 : Int) (H : Heap), kFn Try.prog Try.f20.results.toList K .ret [(4, (V.i .i64 t4))] H =
      K (V.i .i64 t4) H := by intros; kernel_rfl
  have e0 := evFn_code2 (P := Try.prog) (c := c20_0) (E := (E20 a11 a24 a19 a12 a17)) (lr := loopLim) (kp := kp20) (fn := Try.f20) (args := [(V.p t0), (V.i .u8 t1)]) H K (by kernel_rfl) (Nat.le_of_ble_eq_true (by kernel_rfl)) (by kernel_rfl)
  have e1 : ev Try.prog (E20 a11 a24 a19 a12 a17) loopLim Try.f20.ntmps kp20 c20_0 (argFr 0 [(V.p t0), (V.i .u8 t1)]) H (kFn Try.prog Try.f20.results.toList K) = ev Try.prog (E20 a11 a24 a19 a12 a17) loopLim Try.f20.ntmps kp20 c20_0 [(0, (V.p t0)), (1, (V.i .u8 t1))] H (kFn Try.prog Try.f20.results.toList K) := by kernel_rfl
  refine (e0.trans e1).trans ?_
  delta g20_r
  exact (g20_p0_eq a11 a24 a19 a12 a17 la11 la24 la19 la12 la17 t0 t1 H (kFn Try.prog Try.f20.results.toList K)).trans (congrArg (g20_p0 a11 a24 a19 a12 a17 R t0 t1 H) (funext fun t4 => funext fun H => h0 t4 H))
theorem g20_ok {a11 : T11} {a24 : T24} {a19 : T19} {a12 : T12} {a17 : T17} (oa11 : FunOK Try.prog 11 (w11 a11)) (oa24 : FunOK Try.prog 24 (w24 a24)) (oa19 : FunOK Try.prog 19 (w19 a19)) (oa12 : FunOK Try.prog 12 (w12 a12)) (oa17 : FunOK Try.prog 17 (w17 a17)) (la11 : Lin11 a11) (la24 : Lin24 a24) (la19 : Lin19 a19) (la12 : Lin12 a12) (la17 : Lin17 a17) : FunOK Try.prog 20 (w20 (g20_r a11 a24 a19 a12 a17)) := by
  refine (runF_ok (E20_good oa11 oa24 oa19 oa12 oa17 la11 la24 la19 la12 la17) mixed lim_ok Try.func20 (by kernel_rfl) kp20).of_le fun R args H K r hk => ?_
  unfold w20 at hk
  split at hk
  · exact (g20_fn a11 a24 a19 a12 a17 la11 la24 la19 la12 la17 _ _ H K).trans hk
  · cases hk
def kp34 : Nat → Option (List Nat) := kpOf [(0, [0]), (1, []), (300000, [])]
def E34 : FEnv := []
theorem E34_good : EnvGood Try.prog E34 := (EnvGood.nil _)
theorem E34_lin : EnvLin E34 := fun g F h => by cases h
noncomputable def b34 : Code := Try.f34.body.getD .skip
noncomputable def c34_0 : Code := (.seq (codeAt [0] b34) (codeAt [1] b34))
noncomputable def g34_p0 (R : Type) (t0 : Option (Nat × Nat)) (t1 : Int) (H : Heap) (kN : Heap → Option R) : Option R :=
  (t0).bind fun q1 =>
  ((H).st q1.1 (q1.2 + 7) (V.i .u8 t1)).bind fun h3 =>
  (t0).bind fun q4 =>
  ((h3).st q4.1 (q4.2 + 8) (V.i .i64 (0 : Int))).bind fun h6 =>
  kN h6
theorem g34_p0_eq {R : Type} (t0 : Option (Nat × Nat)) (t1 : Int) (H : Heap) (K : Ex → Fr → Heap → Option R) : ev Try.prog E34 loopLim Try.f34.ntmps kp34 c34_0 [(0, (V.p t0)), (1, (V.i .u8 t1))] H K = g34_p0 R t0 t1 H (fun H => K .normal [] H) := by kernel_rfl
theorem g34_p0_lin {R S : Type} {k : S → Option R} {t0 : Option (Nat × Nat)} {t1 : Int} {H : Heap} {fkN : Heap → Option R} {gkN : Heap → Option S} (hkN : ∀ H, fkN H = (gkN H).bind k) : g34_p0 R t0 t1 H fkN = (g34_p0 S t0 t1 H gkN).bind k := by
  delta g34_p0; exact (
    bl fun q1 =>
    bl fun h3 =>
    bl fun q4 =>
    bl fun h6 =>
    hkN _)
noncomputable def g34_r : T34 := fun R t0 t1 H K =>
  g34_p0 R t0 t1 H (fun H =>
    K  H)
theorem g34_r_lin : Lin34 (g34_r) := by
  constructor
  intro R S k t0 t1 H f g h
  exact g34_p0_lin (fun H =>
    h _)
theorem g34_fn {R : Type} (t0 : Option (Nat × Nat)) (t1 : Int) (H : Heap) (K : V → Heap → Option R) : evFn Try.prog E34 loopLim Try.f34 kp34 [(V.p t0), (V.i .u8 t1)] H K = g34_r R t0 t1 H (fun H => K (V.tup []) H) := by
  have h0 : ∀ (H : Heap), kFn Try.prog Try.f34.results.toList K .normal [] H =
      K (V.tup []) H := by intros; kernel_rfl
  have e0 := evFn_code2 (P := Try.prog) (c := c34_0) (E := E34) (lr := loopLim) (kp := kp34) (fn := Try.f34) (args := [(V.p t0), (V.i .u8 t1)]) H K (by kernel_rfl) (Nat.le_of_ble_eq_true (by kernel_rfl)) (by kernel_rfl)
  have e1 : ev Try.prog E34 loopLim Try.f34.ntmps kp34 c34_0 (argFr 0 [(V.p t0), (V.i .u8 t1)]) H (kFn Try.prog Try.f34.results.toList K) = ev Try.prog E34 loopLim Try.f34.ntmps kp34 c34_0 [(0, (V.p t0)), (1, (V.i .u8 t1))] H (kFn Try.prog Try.f34.results.toList K) := by kernel_rfl
  refine (e0.trans e1).trans ?_
  delta g34_r
  exact (g34_p0_eq t0 t1 H (kFn Try.prog Try.f34.results.toList K)).trans (congrArg (g34_p0 R t0 t1 H) (funext fun H => h0 H))
theorem g34_ok : FunOK Try.prog 34 (w34 (g34_r)) := by
  refine (runF_ok (E34_good) mixed lim_ok Try.func34 (by kernel_rfl) kp34).of_le fun R args H K r hk => ?_
  unfold w34 at hk
  split at hk
  · exact (g34_fn _ _ H K).trans hk
  · cases hk
def kp35 : Nat → Option (List Nat) := kpOf [(0, [0]), (1, [0]), (2, [0]), (3, [0]), (4, [0, 26]), (5, []), (300000, []), (400026, [])]
def E35 : FEnv := []
theorem E35_good : EnvGood Try.prog E35 := (EnvGood.nil _)
theorem E35_lin : EnvLin E35 := fun g F h => by cases h
noncomputable def b35 : Code := Try.f35.body.getD .skip
noncomputable def c35_0 : Code := (.seq (codeAt [0] b35) (.seq (codeAt [1, 0] b35) (.seq (codeAt [1, 1, 0] b35) (.seq (codeAt [1, 1, 1, 0] b35) (.seq (codeAt [1, 1, 1, 1, 0] b35) (.cond (.tmp 26) (codeAt [1, 1, 1, 1, 1, 0] b35) .skip))))))
noncomputable def g35_p0 (R : Type) (t0 : Option (Nat × Nat)) (H : Heap) (kN : Heap → Option R) : Option R :=
  (t0).bind fun q1 =>
  ((H).st q1.1 (q1.2 + 7) (V.i .u8 (3 : Int))).bind fun h3 =>
  (t0).bind fun q4 =>
  ((h3).ldI .i64 q4.1 (q4.2 + 11)).bind fun x5 =>
  (t0).bind fun q6 =>
  ((h3).st q6.1 (q6.2 + 11) (V.i .i64 (IntKind.wrap .i64 (x5 + (1 : Int))))).bind fun h8 =>
  (t0).bind fun q9 =>
  ((h8).st q9.1 (q9.2 + 12) (V.i .i64 (0 : Int))).bind fun h11 =>
  (t0).bind fun q12 =>
  ((h11).ldI .i64 q12.1 ((q12.2 + 0) + 2)).bind fun x13 =>
  (t0).bind fun q14 =>
  ((h11).st q14.1 (q14.2 + 8) (V.i .i64 x13)).bind fun h16 =>
  (t0).bind fun q17 =>
  ((h16).ldB q17.1 (q17.2 + 10)).bind fun x18 =>
  sel x18 (
    (t0).bind fun q19 =>
    ((h16).ldI .i64 q19.1 ((q19.2 + 0) + 3)).bind fun x20 =>
    (t0).bind fun q21 =>
    ((h16).st q21.1 (q21.2 + 8) (V.i .i64 x20)).bind fun h23 =>
    kN h23) (
    kN h16)
theorem g35_p0_eq {R : Type} (t0 : Option (Nat × Nat)) (H : Heap) (K : Ex → Fr → Heap → Option R) : ev Try.prog E35 loopLim Try.f35.ntmps kp35 c35_0 [(0, (V.p t0))] H K = g35_p0 R t0 H (fun H => K .normal [] H) := by kernel_rfl
theorem g35_p0_lin {R S : Type} {k : S → Option R} {t0 : Option (Nat × Nat)} {H : Heap} {fkN : Heap → Option R} {gkN : Heap → Option S} (hkN : ∀ H, fkN H = (gkN H).bind k) : g35_p0 R t0 H fkN = (g35_p0 S t0 H gkN).bind k := by
  delta g35_p0; exact (
    bl fun q1 =>
    bl fun h3 =>
    bl fun q4 =>
    bl fun x5 =>
    bl fun q6 =>
    bl fun h8 =>
    bl fun q9 =>
    bl fun h11 =>
    bl fun q12 =>
    bl fun x13 =>
    bl fun q14 =>
    bl fun h16 =>
    bl fun q17 =>
    bl fun x18 =>
    sl_lin (
      bl fun q19 =>
      bl fun x20 =>
      bl fun q21 =>
      bl fun h23 =>
      hkN _) (
      hkN _))
noncomputable def g35_r : T35 := fun R t0 H K =>
  g35_p0 R t0 H (fun H =>
    K  H)
theorem g35_r_lin : Lin35 (g35_r) := by
  constructor
  intro R S k t0 H f g h
  exact g35_p0_lin (fun H =>
    h _)
theorem g35_fn {R : Type} (t0 : Option (Nat × Nat)) (H : Heap) (K : V → Heap → Option R) : evFn Try.prog E35 loopLim Try.f35 kp35 [(V.p t0)] H K = g35_r R t0 H (fun H => K (V.tup []) H) := by
  have h0 : ∀ (H : Heap), kFn Try.prog Try.f35.results.toList K .normal [] H =
      K (V.tup []) H := by intros; kernel_rfl
  have e0 := evFn_code2 (P := Try.prog) (c := c35_0) (E := E35) (lr := loopLim) (kp := kp35) (fn := Try.f35) (args := [(V.p t0)]) H K (by kernel_rfl) (Nat.le_of_ble_eq_true (by kernel_rfl)) (by kernel_rfl)
  have e1 : ev Try.prog E35 loopLim Try.f35.ntmps kp35 c35_0 (argFr 0 [(V.p t0)]) H (kFn Try.prog Try.f35.results.toList K) = ev Try.prog E35 loopLim Try.f35.ntmps kp35 c35_0 [(0, (V.p t0))] H (kFn Try.prog Try.f35.results.toList K) := by kernel_rfl
  refine (e0.trans e1).trans ?_
  delta g35_r
  exact (g35_p0_eq t0 H (kFn Try.prog Try.f35.results.toList K)).trans (congrArg (g35_p0 R t0 H) (funext fun H => h0 H))
theorem g35_ok : FunOK Try.prog 35 (w35 (g35_r)) := by
  refine (runF_ok (E35_good) mixed lim_ok Try.func35 (by kernel_rfl) kp35).of_le fun R args H K r hk => ?_
  unfold w35 at hk
  split at hk
  · exact (g35_fn _ H K).trans hk
  · cases hk
def kp36 : Nat → Option (List Nat) := kpOf [(0, [0]), (1, []), (300000, [])]
def E36 : FEnv := []
theorem E36_good : EnvGood Try.prog E36 := (EnvGood.nil _)
theorem E36_lin : EnvLin E36 := fun g F h => by cases h
noncomputable def b36 : Code := Try.f36.body.getD .skip
noncomputable def c36_0 : Code := (.seq (codeAt [0] b36) (codeAt [1] b36))
noncomputable def g36_p0 (R : Type) (t0 : Option (Nat × Nat)) (H : Heap) (kN : Heap → Option R) : Option R :=
  (t0).bind fun q1 =>
  ((H).st q1.1 (q1.2 + 7) (V.i .u8 (2 : Int))).bind fun h3 =>
  (t0).bind fun q4 =>
  ((h3).ldI .i64 q4.1 ((q4.2 + 0) + 1)).bind fun x5 =>
  (t0).bind fun q6 =>
  ((h3).st q6.1 (q6.2 + 8) (V.i .i64 x5)).bind fun h8 =>
  kN h8
theorem g36_p0_eq {R : Type} (t0 : Option (Nat × Nat)) (H : Heap) (K : Ex → Fr → Heap → Option R) : ev Try.prog E36 loopLim Try.f36.ntmps kp36 c36_0 [(0, (V.p t0))] H K = g36_p0 R t0 H (fun H => K .normal [] H) := by kernel_rfl
theorem g36_p0_lin {R S : Type} {k : S → Option R} {t0 : Option (Nat × Nat)} {H : Heap} {fkN : Heap → Option R} {gkN : Heap → Option S} (hkN : ∀ H, fkN H = (gkN H).bind k) : g36_p0 R t0 H fkN = (g36_p0 S t0 H gkN).bind k := by
  delta g36_p0; exact (
    bl fun q1 =>
    bl fun h3 =>
    bl fun q4 =>
    bl fun x5 =>
    bl fun q6 =>
    bl fun h8 =>
    hkN _)
noncomputable def g36_r : T36 := fun R t0 H K =>
  g36_p0 R t0 H (fun H =>
    K  H)
theorem g36_r_lin : Lin36 (g36_r) := by
  constructor
  intro R S k t0 H f g h
  exact g36_p0_lin (fun H =>
    h _)
theorem g36_fn {R : Type} (t0 : Option (Nat × Nat)) (H : Heap) (K : V → Heap → Option R) : evFn Try.prog E36 loopLim Try.f36 kp36 [(V.p t0)] H K = g36_r R t0 H (fun H => K (V.tup []) H) := by
  have h0 : ∀ (H : Heap), kFn Try.prog Try.f36.results.toList K .normal [] H =
      K (V.tup []) H := by intros; kernel_rfl
  have e0 := evFn_code2 (P := Try.prog) (c := c36_0) (E := E36) (lr := loopLim) (kp := kp36) (fn := Try.f36) (args := [(V.p t0)]) H K (by kernel_rfl) (Nat.le_of_ble_eq_true (by kernel_rfl)) (by kernel_rfl)
  have e1 : ev Try.prog E36 loopLim Try.f36.ntmps kp36 c36_0 (argFr 0 [(V.p t0)]) H (kFn Try.prog Try.f36.results.toList K) = ev Try.prog E36 loopLim Try.f36.ntmps kp36 c36_0 [(0, (V.p t0))] H (kFn Try.prog Try.f36.results.toList K) := by kernel_rfl
  refine (e0.trans e1).trans ?_
  delta g36_r
  exact (g36_p0_eq t0 H (kFn Try.prog Try.f36.results.toList K)).trans (congrArg (g36_p0 R t0 H) (funext fun H => h0 H))
theorem g36_ok : FunOK Try.prog 36 (w36 (g36_r)) := by
  refine (runF_ok (E36_good) mixed lim_ok Try.func36 (by kernel_rfl) kp36).of_le fun R args H K r hk => ?_
  unfold w36 at hk
  split at hk
  · exact (g36_fn _ H K).trans hk
  · cases hk
end Go.Proofs.Ytkldpkemnmmbgaa

