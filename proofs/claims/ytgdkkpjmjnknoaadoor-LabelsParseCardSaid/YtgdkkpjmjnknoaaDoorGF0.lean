/- Printed: functions as the machine runs them. -/
import Derived.Test.YtgdkkpjmjnknoaaDoorGT
namespace Go.Proofs.YtgdkkpjmjnknoaaDoor
open Go AM Go.RowKit
set_option linter.unusedVariables false
def kp51 : Nat → Option (List Nat) := kpOf [(0, [0, 4]), (1, [0, 4]), (2, []), (300000, [])]
def E51 (a61 : T61) : FEnv := [(61, w61 a61)]
theorem E51_good {a61 : T61} (oa61 : FunOK Tryd.prog 61 (w61 a61)) (la61 : Lin61 a61) : EnvGood Tryd.prog (E51 a61) := ((EnvGood.nil _).cons oa61 (w61_lin la61))
theorem E51_lin {a61 : T61} (la61 : Lin61 a61) : EnvLin (E51 a61) := by
  intro g F h
  simp only [E51, List.mem_cons, List.not_mem_nil, or_false] at h
  rcases h with h
  · cases h; exact w61_lin la61
noncomputable def b51 : Code := Tryd.f51.body.getD .skip
noncomputable def c51_0 : Code := (.seq (codeAt [0] b51) (.seq (codeAt [1, 0] b51) (codeAt [1, 1] b51)))
noncomputable def g51_p0 (a61 : T61) (R : Type) (t0 : Option (Nat × Nat)) (t1 : Int) (H : Heap) (kN : Heap → Option R) : Option R :=
  (t0).bind fun q1 =>
  ((H).ldSl q1.1 (q1.2 + 1)).bind fun x2 =>
  capK x2.cap fun c3 =>
  a61 R (IntKind.wrap .i64 ((IntKind.wrap .i64 ((2 : Int) * ((c3 : Nat) : Int))) + t1)) H fun x4 h5 =>
  (t0).bind fun q6 =>
  ((h5).ldSl q6.1 (q6.2 + 1)).bind fun x7 =>
  ((H).ldSl q6.1 (q6.2 + 1)).bind fun x8 =>
  if V.same (V.sl x7) (V.sl x8) = true then (
    if V.same (V.i .i64 ((x7.len : Nat) : Int)) (V.i .i64 ((x7.len : Nat) : Int)) = true then (
      slOf 1 x4 none (some ((x7.len : Nat) : Int)) none fun s9 =>
      (t0).bind fun q10 =>
      ((h5).ldSl q10.1 (q10.2 + 1)).bind fun x11 =>
      evBuiltin Tryd.prog h5 .copy [36, 36] [(V.sl s9), (V.sl x11)] fun u12 h13 =>
      (t0).bind fun q14 =>
      ((h13).st q14.1 (q14.2 + 1) (V.sl s9)).bind fun h16 =>
      kN h16)
    else (
      none))
  else (
    none)
theorem g51_p0_eq (a61 : T61) (la61 : Lin61 a61) {R : Type} (t0 : Option (Nat × Nat)) (t1 : Int) (H : Heap) (K : Ex → Fr → Heap → Option R) : ev Tryd.prog (E51 a61) loopLim Tryd.f51.ntmps kp51 c51_0 [(0, (V.p t0)), (1, (V.i .i64 t1))] H K = g51_p0 a61 R t0 t1 H (fun H => K .normal [] H) := by kernel_rfl
theorem g51_p0_lin {a61 : T61} (la61 : Lin61 a61) {R S : Type} {k : S → Option R} {t0 : Option (Nat × Nat)} {t1 : Int} {H : Heap} {fkN : Heap → Option R} {gkN : Heap → Option S} (hkN : ∀ H, fkN H = (gkN H).bind k) : g51_p0 a61 R t0 t1 H fkN = (g51_p0 a61 S t0 t1 H gkN).bind k := by
  delta g51_p0; exact (
    bl fun q1 =>
    bl fun x2 =>
    capK_lin fun c3 =>
    la61.l fun x4 h5 =>
    bl fun q6 =>
    bl fun x7 =>
    bl fun x8 =>
    il (
      il (
        slOf_lin fun s9 =>
        bl fun q10 =>
        bl fun x11 =>
        evBuiltin_lin fun u12 h13 =>
        bl fun q14 =>
        bl fun h16 =>
        hkN _) (
        rfl)) (
      rfl))
noncomputable def g51_r (a61 : T61) : T51 := fun R t0 t1 H K =>
  g51_p0 a61 R t0 t1 H (fun H =>
    K  H)
theorem g51_r_lin {a61 : T61} (la61 : Lin61 a61) : Lin51 (g51_r a61) := by
  constructor
  intro R S k t0 t1 H f g h
  exact g51_p0_lin la61 (fun H =>
    h _)
theorem g51_fn (a61 : T61) (la61 : Lin61 a61) {R : Type} (t0 : Option (Nat × Nat)) (t1 : Int) (H : Heap) (K : V → Heap → Option R) : evFn Tryd.prog (E51 a61) loopLim Tryd.f51 kp51 [(V.p t0), (V.i .i64 t1)] H K = g51_r a61 R t0 t1 H (fun H => K (V.tup []) H) := by
  have h0 : ∀ (H : Heap), kFn Tryd.prog Tryd.f51.results.toList K .normal [] H =
      K (V.tup []) H := by intros; kernel_rfl
  have e0 := evFn_code2 (P := Tryd.prog) (c := c51_0) (E := (E51 a61)) (lr := loopLim) (kp := kp51) (fn := Tryd.f51) (args := [(V.p t0), (V.i .i64 t1)]) H K (by kernel_rfl) (Nat.le_of_ble_eq_true (by kernel_rfl)) (by kernel_rfl)
  have e1 : ev Tryd.prog (E51 a61) loopLim Tryd.f51.ntmps kp51 c51_0 (argFr 0 [(V.p t0), (V.i .i64 t1)]) H (kFn Tryd.prog Tryd.f51.results.toList K) = ev Tryd.prog (E51 a61) loopLim Tryd.f51.ntmps kp51 c51_0 [(0, (V.p t0)), (1, (V.i .i64 t1))] H (kFn Tryd.prog Tryd.f51.results.toList K) := by kernel_rfl
  refine (e0.trans e1).trans ?_
  delta g51_r
  exact (g51_p0_eq a61 la61 t0 t1 H (kFn Tryd.prog Tryd.f51.results.toList K)).trans (congrArg (g51_p0 a61 R t0 t1 H) (funext fun H => h0 H))
theorem g51_ok {a61 : T61} (oa61 : FunOK Tryd.prog 61 (w61 a61)) (la61 : Lin61 a61) : FunOK Tryd.prog 51 (w51 (g51_r a61)) := by
  refine (runF_ok (E51_good oa61 la61) mixed lim_ok Tryd.func51 (by kernel_rfl) kp51).of_le fun R args H K r hk => ?_
  unfold w51 at hk
  split at hk
  · exact (g51_fn a61 la61 _ _ H K).trans hk
  · cases hk
def kp39 : Nat → Option (List Nat) := kpOf [(0, [0, 1]), (1, [0, 1, 7]), (2, [0, 1]), (3, [0, 1, 21]), (4, []), (300000, []), (400007, [0, 1]), (400021, [])]
def E39 (a50 : T50) (a51 : T51) : FEnv := [(50, w50 a50), (51, w51 a51)]
theorem E39_good {a50 : T50} {a51 : T51} (oa50 : FunOK Tryd.prog 50 (w50 a50)) (oa51 : FunOK Tryd.prog 51 (w51 a51)) (la50 : Lin50 a50) (la51 : Lin51 a51) : EnvGood Tryd.prog (E39 a50 a51) := (((EnvGood.nil _).cons oa51 (w51_lin la51)).cons oa50 (w50_lin la50))
theorem E39_lin {a50 : T50} {a51 : T51} (la50 : Lin50 a50) (la51 : Lin51 a51) : EnvLin (E39 a50 a51) := by
  intro g F h
  simp only [E39, List.mem_cons, List.not_mem_nil, or_false] at h
  rcases h with h | h
  · cases h; exact w50_lin la50
  · cases h; exact w51_lin la51
noncomputable def b39 : Code := Tryd.f39.body.getD .skip
noncomputable def c39_0 : Code := (.seq (codeAt [0] b39) (.seq (codeAt [1, 0, 0] b39) (.seq (.cond (.tmp 7) (codeAt [1, 0, 1, 0] b39) .skip) (.seq (codeAt [1, 1, 0] b39) (.cond (.tmp 21) (codeAt [1, 1, 1, 0] b39) .skip)))))
noncomputable def g39_p0 (a50 : T50) (a51 : T51) (R : Type) (t0 : Option (Nat × Nat)) (t1 : Int) (H : Heap) (kN : Heap → Option R) : Option R :=
  a50 R t0 H fun h1 =>
  sel (decide (t1 < (0 : Int))) (
    none) (
    (t0).bind fun q2 =>
    ((h1).ldSl q2.1 (q2.2 + 1)).bind fun x3 =>
    capK x3.cap fun c4 =>
    (t0).bind fun q5 =>
    ((h1).ldSl q5.1 (q5.2 + 1)).bind fun x6 =>
    sel (decide ((IntKind.wrap .i64 (((c4 : Nat) : Int) - ((x6.len : Nat) : Int))) < t1)) (
      a51 R t0 t1 h1 fun h7 =>
      kN h7) (
      kN h1))
theorem g39_p0_eq (a50 : T50) (a51 : T51) (la50 : Lin50 a50) (la51 : Lin51 a51) {R : Type} (t0 : Option (Nat × Nat)) (t1 : Int) (H : Heap) (K : Ex → Fr → Heap → Option R) : ev Tryd.prog (E39 a50 a51) loopLim Tryd.f39.ntmps kp39 c39_0 [(0, (V.p t0)), (1, (V.i .i64 t1))] H K = g39_p0 a50 a51 R t0 t1 H (fun H => K .normal [] H) := by kernel_rfl
theorem g39_p0_lin {a50 : T50} {a51 : T51} (la50 : Lin50 a50) (la51 : Lin51 a51) {R S : Type} {k : S → Option R} {t0 : Option (Nat × Nat)} {t1 : Int} {H : Heap} {fkN : Heap → Option R} {gkN : Heap → Option S} (hkN : ∀ H, fkN H = (gkN H).bind k) : g39_p0 a50 a51 R t0 t1 H fkN = (g39_p0 a50 a51 S t0 t1 H gkN).bind k := by
  delta g39_p0; exact (
    la50.l fun h1 =>
    sl_lin (
      rfl) (
      bl fun q2 =>
      bl fun x3 =>
      capK_lin fun c4 =>
      bl fun q5 =>
      bl fun x6 =>
      sl_lin (
        la51.l fun h7 =>
        hkN _) (
        hkN _)))
noncomputable def g39_r (a50 : T50) (a51 : T51) : T39 := fun R t0 t1 H K =>
  g39_p0 a50 a51 R t0 t1 H (fun H =>
    K  H)
theorem g39_r_lin {a50 : T50} {a51 : T51} (la50 : Lin50 a50) (la51 : Lin51 a51) : Lin39 (g39_r a50 a51) := by
  constructor
  intro R S k t0 t1 H f g h
  exact g39_p0_lin la50 la51 (fun H =>
    h _)
theorem g39_fn (a50 : T50) (a51 : T51) (la50 : Lin50 a50) (la51 : Lin51 a51) {R : Type} (t0 : Option (Nat × Nat)) (t1 : Int) (H : Heap) (K : V → Heap → Option R) : evFn Tryd.prog (E39 a50 a51) loopLim Tryd.f39 kp39 [(V.p t0), (V.i .i64 t1)] H K = g39_r a50 a51 R t0 t1 H (fun H => K (V.tup []) H) := by
  have h0 : ∀ (H : Heap), kFn Tryd.prog Tryd.f39.results.toList K .normal [] H =
      K (V.tup []) H := by intros; kernel_rfl
  have e0 := evFn_code2 (P := Tryd.prog) (c := c39_0) (E := (E39 a50 a51)) (lr := loopLim) (kp := kp39) (fn := Tryd.f39) (args := [(V.p t0), (V.i .i64 t1)]) H K (by kernel_rfl) (Nat.le_of_ble_eq_true (by kernel_rfl)) (by kernel_rfl)
  have e1 : ev Tryd.prog (E39 a50 a51) loopLim Tryd.f39.ntmps kp39 c39_0 (argFr 0 [(V.p t0), (V.i .i64 t1)]) H (kFn Tryd.prog Tryd.f39.results.toList K) = ev Tryd.prog (E39 a50 a51) loopLim Tryd.f39.ntmps kp39 c39_0 [(0, (V.p t0)), (1, (V.i .i64 t1))] H (kFn Tryd.prog Tryd.f39.results.toList K) := by kernel_rfl
  refine (e0.trans e1).trans ?_
  delta g39_r
  exact (g39_p0_eq a50 a51 la50 la51 t0 t1 H (kFn Tryd.prog Tryd.f39.results.toList K)).trans (congrArg (g39_p0 a50 a51 R t0 t1 H) (funext fun H => h0 H))
theorem g39_ok {a50 : T50} {a51 : T51} (oa50 : FunOK Tryd.prog 50 (w50 a50)) (oa51 : FunOK Tryd.prog 51 (w51 a51)) (la50 : Lin50 a50) (la51 : Lin51 a51) : FunOK Tryd.prog 39 (w39 (g39_r a50 a51)) := by
  refine (runF_ok (E39_good oa50 oa51 la50 la51) mixed lim_ok Tryd.func39 (by kernel_rfl) kp39).of_le fun R args H K r hk => ?_
  unfold w39 at hk
  split at hk
  · exact (g39_fn a50 a51 la50 la51 _ _ H K).trans hk
  · cases hk
def kp40 : Nat → Option (List Nat) := kpOf [(0, [0, 1]), (1, [0, 1]), (2, [1]), (3, [4, 5]), (300000, [4, 5])]
def E40 (a50 : T50) : FEnv := [(50, w50 a50)]
theorem E40_good {a50 : T50} (oa50 : FunOK Tryd.prog 50 (w50 a50)) (la50 : Lin50 a50) : EnvGood Tryd.prog (E40 a50) := ((EnvGood.nil _).cons oa50 (w50_lin la50))
theorem E40_lin {a50 : T50} (la50 : Lin50 a50) : EnvLin (E40 a50) := by
  intro g F h
  simp only [E40, List.mem_cons, List.not_mem_nil, or_false] at h
  rcases h with h
  · cases h; exact w50_lin la50
noncomputable def b40 : Code := Tryd.f40.body.getD .skip
noncomputable def c40_0 : Code := (.seq (codeAt [0] b40) (.seq (codeAt [1, 0] b40) (.seq (codeAt [1, 1, 0] b40) (.seq (codeAt [1, 1, 1, 0] b40) .ret))))
noncomputable def g40_p0 (a50 : T50) (R : Type) (t0 : Option (Nat × Nat)) (t1 : ByteArray) (H : Heap) (kR : Int → V → Heap → Option R) : Option R :=
  a50 R t0 H fun h1 =>
  (t0).bind fun q2 =>
  ((h1).ldSl q2.1 (q2.2 + 1)).bind fun x3 =>
  appendV h1 5 1 1 x3 t1.size (cellsOfBytes t1) fun s4 h5 =>
  (t0).bind fun q6 =>
  ((h5).st q6.1 (q6.2 + 1) (V.sl s4)).bind fun h8 =>
  kR ((t1.size : Nat) : Int) V.nilI h8
theorem g40_p0_eq (a50 : T50) (la50 : Lin50 a50) {R : Type} (t0 : Option (Nat × Nat)) (t1 : ByteArray) (H : Heap) (K : Ex → Fr → Heap → Option R) : ev Tryd.prog (E40 a50) loopLim Tryd.f40.ntmps kp40 c40_0 [(0, (V.p t0)), (1, (V.s t1))] H K = g40_p0 a50 R t0 t1 H (fun t4 t5 H => K .ret [(4, (V.i .i64 t4)), (5, t5)] H) := by kernel_rfl
theorem g40_p0_lin {a50 : T50} (la50 : Lin50 a50) {R S : Type} {k : S → Option R} {t0 : Option (Nat × Nat)} {t1 : ByteArray} {H : Heap} {fkR : Int → V → Heap → Option R} {gkR : Int → V → Heap → Option S} (hkR : ∀ t4 t5 H, fkR t4 t5 H = (gkR t4 t5 H).bind k) : g40_p0 a50 R t0 t1 H fkR = (g40_p0 a50 S t0 t1 H gkR).bind k := by
  delta g40_p0; exact (
    la50.l fun h1 =>
    bl fun q2 =>
    bl fun x3 =>
    appendV_lin fun s4 h5 =>
    bl fun q6 =>
    bl fun h8 =>
    hkR _ _ _)
noncomputable def g40_r (a50 : T50) : T40 := fun R t0 t1 H K =>
  g40_p0 a50 R t0 t1 H (fun t4 t5 H =>
    K t4 t5 H)
theorem g40_r_lin {a50 : T50} (la50 : Lin50 a50) : Lin40 (g40_r a50) := by
  constructor
  intro R S k t0 t1 H f g h
  exact g40_p0_lin la50 (fun t4 t5 H =>
    h _ _ _)
theorem g40_fn (a50 : T50) (la50 : Lin50 a50) {R : Type} (t0 : Option (Nat × Nat)) (t1 : ByteArray) (H : Heap) (K : V → Heap → Option R) : evFn Tryd.prog (E40 a50) loopLim Tryd.f40 kp40 [(V.p t0), (V.s t1)] H K = g40_r a50 R t0 t1 H (fun r0 r1 H => K (V.tup [(V.i .i64 r0), r1]) H) := by
  have h0 : ∀ (t4 : Int) (t5 : V) (H : Heap), kFn Tryd.prog Tryd.f40.results.toList K .ret [(4, (V.i .i64 t4)), (5, t5)] H =
      K (V.tup [(V.i .i64 t4), t5]) H := by intros; kernel_rfl
  have e0 := evFn_code2 (P := Tryd.prog) (c := c40_0) (E := (E40 a50)) (lr := loopLim) (kp := kp40) (fn := Tryd.f40) (args := [(V.p t0), (V.s t1)]) H K (by kernel_rfl) (Nat.le_of_ble_eq_true (by kernel_rfl)) (by kernel_rfl)
  have e1 : ev Tryd.prog (E40 a50) loopLim Tryd.f40.ntmps kp40 c40_0 (argFr 0 [(V.p t0), (V.s t1)]) H (kFn Tryd.prog Tryd.f40.results.toList K) = ev Tryd.prog (E40 a50) loopLim Tryd.f40.ntmps kp40 c40_0 [(0, (V.p t0)), (1, (V.s t1))] H (kFn Tryd.prog Tryd.f40.results.toList K) := by kernel_rfl
  refine (e0.trans e1).trans ?_
  delta g40_r
  exact (g40_p0_eq a50 la50 t0 t1 H (kFn Tryd.prog Tryd.f40.results.toList K)).trans (congrArg (g40_p0 a50 R t0 t1 H) (funext fun t4 => funext fun t5 => funext fun H => h0 t4 t5 H))
theorem g40_ok {a50 : T50} (oa50 : FunOK Tryd.prog 50 (w50 a50)) (la50 : Lin50 a50) : FunOK Tryd.prog 40 (w40 (g40_r a50)) := by
  refine (runF_ok (E40_good oa50 la50) mixed lim_ok Tryd.func40 (by kernel_rfl) kp40).of_le fun R args H K r hk => ?_
  unfold w40 at hk
  split at hk
  · exact (g40_fn a50 la50 _ _ H K).trans hk
  · cases hk
def kp41 : Nat → Option (List Nat) := kpOf [(0, [0]), (1, [2]), (300000, [2])]
def E41 : FEnv := []
theorem E41_good : EnvGood Tryd.prog E41 := (EnvGood.nil _)
theorem E41_lin : EnvLin E41 := fun g F h => by cases h
noncomputable def b41 : Code := Tryd.f41.body.getD .skip
noncomputable def c41_0 : Code := (.seq (codeAt [0] b41) (.seq (codeAt [1, 0] b41) .ret))
noncomputable def g41_p0 (R : Type) (t0 : Option (Nat × Nat)) (H : Heap) (kR : ByteArray → Heap → Option R) : Option R :=
  (t0).bind fun q1 =>
  ((H).ldSl q1.1 (q1.2 + 1)).bind fun x2 =>
  sliceData x2 H fun p3 h4 =>
  (t0).bind fun q5 =>
  ((h4).ldSl q5.1 (q5.2 + 1)).bind fun x6 =>
  ((H).ldSl q5.1 (q5.2 + 1)).bind fun x7 =>
  if V.same (V.sl x6) (V.sl x7) = true then (
    if V.same (V.i .i64 ((x6.len : Nat) : Int)) (V.i .i64 ((x6.len : Nat) : Int)) = true then (
      unsafeStr Tryd.prog h4 93 p3 ((x6.len : Nat) : Int) fun s8 h9 =>
      kR s8 h9)
    else (
      none))
  else (
    none)
theorem g41_p0_eq {R : Type} (t0 : Option (Nat × Nat)) (H : Heap) (K : Ex → Fr → Heap → Option R) : ev Tryd.prog E41 loopLim Tryd.f41.ntmps kp41 c41_0 [(0, (V.p t0))] H K = g41_p0 R t0 H (fun t2 H => K .ret [(2, (V.s t2))] H) := by kernel_rfl
theorem g41_p0_lin {R S : Type} {k : S → Option R} {t0 : Option (Nat × Nat)} {H : Heap} {fkR : ByteArray → Heap → Option R} {gkR : ByteArray → Heap → Option S} (hkR : ∀ t2 H, fkR t2 H = (gkR t2 H).bind k) : g41_p0 R t0 H fkR = (g41_p0 S t0 H gkR).bind k := by
  delta g41_p0; exact (
    bl fun q1 =>
    bl fun x2 =>
    sliceData_lin fun p3 h4 =>
    bl fun q5 =>
    bl fun x6 =>
    bl fun x7 =>
    il (
      il (
        unsafeStr_lin fun s8 h9 =>
        hkR _ _) (
        rfl)) (
      rfl))
noncomputable def g41_r : T41 := fun R t0 H K =>
  g41_p0 R t0 H (fun t2 H =>
    K t2 H)
theorem g41_r_lin : Lin41 (g41_r) := by
  constructor
  intro R S k t0 H f g h
  exact g41_p0_lin (fun t2 H =>
    h _ _)
theorem g41_fn {R : Type} (t0 : Option (Nat × Nat)) (H : Heap) (K : V → Heap → Option R) : evFn Tryd.prog E41 loopLim Tryd.f41 kp41 [(V.p t0)] H K = g41_r R t0 H (fun r0 H => K (V.s r0) H) := by
  have h0 : ∀ (t2 : ByteArray) (H : Heap), kFn Tryd.prog Tryd.f41.results.toList K .ret [(2, (V.s t2))] H =
      K (V.s t2) H := by intros; kernel_rfl
  have e0 := evFn_code2 (P := Tryd.prog) (c := c41_0) (E := E41) (lr := loopLim) (kp := kp41) (fn := Tryd.f41) (args := [(V.p t0)]) H K (by kernel_rfl) (Nat.le_of_ble_eq_true (by kernel_rfl)) (by kernel_rfl)
  have e1 : ev Tryd.prog E41 loopLim Tryd.f41.ntmps kp41 c41_0 (argFr 0 [(V.p t0)]) H (kFn Tryd.prog Tryd.f41.results.toList K) = ev Tryd.prog E41 loopLim Tryd.f41.ntmps kp41 c41_0 [(0, (V.p t0))] H (kFn Tryd.prog Tryd.f41.results.toList K) := by kernel_rfl
  refine (e0.trans e1).trans ?_
  delta g41_r
  exact (g41_p0_eq t0 H (kFn Tryd.prog Tryd.f41.results.toList K)).trans (congrArg (g41_p0 R t0 H) (funext fun t2 => funext fun H => h0 t2 H))
theorem g41_ok : FunOK Tryd.prog 41 (w41 (g41_r)) := by
  refine (runF_ok (E41_good) mixed lim_ok Tryd.func41 (by kernel_rfl) kp41).of_le fun R args H K r hk => ?_
  unfold w41 at hk
  split at hk
  · exact (g41_fn _ H K).trans hk
  · cases hk
def kp30 : Nat → Option (List Nat) := kpOf [(0, [0, 1]), (1, [0, 1, 12]), (2, [0, 1, 12, 13]), (3, [4]), (4, [0, 1, 15]), (5, [4]), (6, [0, 1, 5]), (7, [0, 1, 5, 22]), (8, [0, 1, 5, 29]), (9, [0, 1, 5]), (10, [0, 1, 5]), (11, [0, 1, 5, 39, 40, 41]), (12, [0, 1, 5, 39, 40, 41, 42]), (13, [0, 1, 5, 7, 39, 40, 41]), (14, [0, 1, 5, 7, 39, 40, 41, 49]), (15, [0, 1, 5, 7, 39, 40, 41]), (16, [0, 1, 5, 39, 40, 41]), (17, [0, 1, 5, 39, 40, 41]), (18, [0, 1, 5, 8]), (19, [0, 1, 8]), (20, [0, 1, 8]), (21, [1, 8, 63, 64, 65]), (22, [1, 8, 63, 64, 65, 66]), (23, [1, 8, 10, 63, 64, 65]), (24, [1, 8, 10, 63, 64, 65]), (25, [1, 8, 63, 64, 65]), (26, [1, 8, 63, 64, 65]), (27, [4]), (100000, [0, 1]), (100001, [0, 1, 5]), (100002, [0, 1, 5, 39, 40, 41]), (100003, [8]), (100004, [1, 8, 63, 64, 65]), (200000, [0, 1, 12]), (200001, [0, 1, 5, 39, 40, 41]), (200002, [0, 1, 5, 39, 40, 41]), (200003, [1, 8, 63, 64, 65]), (200004, [1, 8, 63, 64, 65]), (300000, [4]), (400013, [0, 1]), (400015, [0, 1]), (400022, [0, 1, 5]), (400029, [0, 1, 5]), (400042, [0, 1, 5, 39, 40, 41]), (400049, [0, 1, 5, 7, 39, 40, 41]), (400066, [1, 8, 63, 64, 65])]
def E30 (a39 : T39) (a40 : T40) (a41 : T41) : FEnv := [(39, w39 a39), (40, w40 a40), (41, w41 a41)]
theorem E30_good {a39 : T39} {a40 : T40} {a41 : T41} (oa39 : FunOK Tryd.prog 39 (w39 a39)) (oa40 : FunOK Tryd.prog 40 (w40 a40)) (oa41 : FunOK Tryd.prog 41 (w41 a41)) (la39 : Lin39 a39) (la40 : Lin40 a40) (la41 : Lin41 a41) : EnvGood Tryd.prog (E30 a39 a40 a41) := ((((EnvGood.nil _).cons oa41 (w41_lin la41)).cons oa40 (w40_lin la40)).cons oa39 (w39_lin la39))
theorem E30_lin {a39 : T39} {a40 : T40} {a41 : T41} (la39 : Lin39 a39) (la40 : Lin40 a40) (la41 : Lin41 a41) : EnvLin (E30 a39 a40 a41) := by
  intro g F h
  simp only [E30, List.mem_cons, List.not_mem_nil, or_false] at h
  rcases h with h | h | h
  · cases h; exact w39_lin la39
  · cases h; exact w40_lin la40
  · cases h; exact w41_lin la41
noncomputable def b30 : Code := Tryd.f30.body.getD .skip
noncomputable def c30_0 : Code := (.seq (codeAt [1, 1, 1, 1, 0, 1, 0, 0, 0] b30) (.seq (.cond (.tmp 42) .skip (.exit 1)) (.seq (.block 2 (.seq (codeAt [1, 1, 1, 1, 0, 1, 0, 0, 1, 1, 0, 0, 0] b30) (.seq (codeAt [1, 1, 1, 1, 0, 1, 0, 0, 1, 1, 0, 0, 1, 0, 0] b30) (.seq (.cond (.tmp 49) (codeAt [1, 1, 1, 1, 0, 1, 0, 0, 1, 1, 0, 0, 1, 0, 1, 0] b30) .skip) (codeAt [1, 1, 1, 1, 0, 1, 0, 0, 1, 1, 0, 0, 1, 1] b30))))) (codeAt [1, 1, 1, 1, 0, 1, 0, 0, 1, 1, 1] b30))))
noncomputable def c30_1 : Code := (.loop c30_0)
noncomputable def c30_2 : Code := (.block 1 c30_1)
noncomputable def c30_3 : Code := (.seq (codeAt [1, 1, 1, 1, 1, 1, 1, 1, 0, 1, 0, 0, 0] b30) (.seq (.cond (.tmp 66) .skip (.exit 3)) (.seq (.block 4 (.seq (codeAt [1, 1, 1, 1, 1, 1, 1, 1, 0, 1, 0, 0, 1, 1, 0, 0, 0] b30) (.seq (codeAt [1, 1, 1, 1, 1, 1, 1, 1, 0, 1, 0, 0, 1, 1, 0, 0, 1, 0] b30) (codeAt [1, 1, 1, 1, 1, 1, 1, 1, 0, 1, 0, 0, 1, 1, 0, 0, 1, 1] b30)))) (codeAt [1, 1, 1, 1, 1, 1, 1, 1, 0, 1, 0, 0, 1, 1, 1] b30))))
noncomputable def c30_4 : Code := (.loop c30_3)
noncomputable def c30_5 : Code := (.block 3 c30_4)
noncomputable def c30_6 : Code := (.seq (codeAt [1, 1, 1, 1, 1, 1, 1, 1, 1, 0] b30) .ret)
noncomputable def c30_7 : Code := (.seq c30_5 c30_6)
noncomputable def c30_8 : Code := (.seq (codeAt [1, 1, 1, 1, 1, 0] b30) (.seq (codeAt [1, 1, 1, 1, 1, 1, 0] b30) (.seq (codeAt [1, 1, 1, 1, 1, 1, 1, 0] b30) (.seq (codeAt [1, 1, 1, 1, 1, 1, 1, 1, 0, 0] b30) c30_7))))
noncomputable def c30_9 : Code := (.seq c30_2 c30_8)
noncomputable def c30_10 : Code := (.seq (codeAt [0] b30) (.seq (codeAt [1, 0, 0] b30) (.seq (.block 0 (.seq (codeAt [1, 0, 1, 0, 0] b30) (.cond (.tmp 13) (.seq (codeAt [1, 0, 1, 0, 1, 0, 0] b30) .ret) (.seq (codeAt [1, 0, 1, 0, 1, 1, 0] b30) (.cond (.tmp 15) (.seq (codeAt [1, 0, 1, 0, 1, 1, 1, 0, 0] b30) .ret) .skip))))) (.seq (codeAt [1, 1, 0] b30) (.seq (codeAt [1, 1, 1, 0, 0] b30) (.seq (.cond (.tmp 22) (.seq (codeAt [1, 1, 1, 0, 1, 0, 0, 0] b30) (.seq (.cond (.tmp 29) (codeAt [1, 1, 1, 0, 1, 0, 0, 1, 0] b30) .skip) (codeAt [1, 1, 1, 0, 1, 0, 1] b30))) .skip) (.seq (codeAt [1, 1, 1, 1, 0, 0] b30) c30_9)))))))
noncomputable def g30_p0 (a39 : T39) (a40 : T40) (a41 : T41) (R : Type) (t0 : Sl) (t1 : ByteArray) (H : Heap) (kN : Sl → ByteArray → Int → Sl → Int → Int → Heap → Option R) (kR : ByteArray → Heap → Option R) : Option R :=
  sel (((t0.len : Nat) : Int) == (0 : Int)) (
    kR str0 H) (
    sel (((t0.len : Nat) : Int) == (1 : Int)) (
      if 0 ≤ (0 : Int) ∧ (0 : Int) < ((t0.len : Nat) : Int) then (
        (t0.a).bind fun q9 =>
        ((H).ldS q9.1 (q9.2 + Int.toNat (0 : Int) * 1)).bind fun x10 =>
        kR x10 H)
      else (
        none)) (
      sel (decide (((t1.size : Nat) : Int) > (0 : Int))) (
        if (IntKind.wrap .i64 (((t0.len : Nat) : Int) - (1 : Int))) = 0 then (
          none)
        else (
          sel (decide (((t1.size : Nat) : Int) ≥ (IntKind.wrap .i64 (Int.tdiv (9223372036854775807 : Int) (IntKind.wrap .i64 (((t0.len : Nat) : Int) - (1 : Int))))))) (
            none) (
            kN t0 t1 (IntKind.wrap .i64 ((0 : Int) + (IntKind.wrap .i64 (((t1.size : Nat) : Int) * (IntKind.wrap .i64 (((t0.len : Nat) : Int) - (1 : Int))))))) t0 ((t0.len : Nat) : Int) (0 : Int) H))) (
        kN t0 t1 (0 : Int) t0 ((t0.len : Nat) : Int) (0 : Int) H)))
theorem g30_p0_eq (a39 : T39) (a40 : T40) (a41 : T41) {R : Type} (c2 : Code) (t0 : Sl) (t1 : ByteArray) (H : Heap) (K : Ex → Fr → Heap → Option R) : ev Tryd.prog (E30 a39 a40 a41) loopLim Tryd.f30.ntmps kp30 (.seq (codeAt [0] b30) (.seq (codeAt [1, 0, 0] b30) (.seq (.block 0 (.seq (codeAt [1, 0, 1, 0, 0] b30) (.cond (.tmp 13) (.seq (codeAt [1, 0, 1, 0, 1, 0, 0] b30) .ret) (.seq (codeAt [1, 0, 1, 0, 1, 1, 0] b30) (.cond (.tmp 15) (.seq (codeAt [1, 0, 1, 0, 1, 1, 1, 0, 0] b30) .ret) .skip))))) (.seq (codeAt [1, 1, 0] b30) (.seq (codeAt [1, 1, 1, 0, 0] b30) (.seq (.cond (.tmp 22) (.seq (codeAt [1, 1, 1, 0, 1, 0, 0, 0] b30) (.seq (.cond (.tmp 29) (codeAt [1, 1, 1, 0, 1, 0, 0, 1, 0] b30) .skip) (codeAt [1, 1, 1, 0, 1, 0, 1] b30))) .skip) (.seq (codeAt [1, 1, 1, 1, 0, 0] b30) c2))))))) [(0, (V.sl t0)), (1, (V.s t1))] H K = g30_p0 a39 a40 a41 R t0 t1 H (fun t0 t1 t5 t39 t40 t41 H => ev Tryd.prog (E30 a39 a40 a41) loopLim Tryd.f30.ntmps kp30 c2 [(0, (V.sl t0)), (1, (V.s t1)), (5, (V.i .i64 t5)), (39, (V.sl t39)), (40, (V.i .i64 t40)), (41, (V.i .i64 t41))] H K) (fun t4 H => K .ret [(4, (V.s t4))] H) := by kernel_rfl
theorem g30_p0_lin {a39 : T39} {a40 : T40} {a41 : T41} (la39 : Lin39 a39) (la40 : Lin40 a40) (la41 : Lin41 a41) {R S : Type} {k : S → Option R} {t0 : Sl} {t1 : ByteArray} {H : Heap} {fkN : Sl → ByteArray → Int → Sl → Int → Int → Heap → Option R} {gkN : Sl → ByteArray → Int → Sl → Int → Int → Heap → Option S} {fkR : ByteArray → Heap → Option R} {gkR : ByteArray → Heap → Option S} (hkN : ∀ t0 t1 t5 t39 t40 t41 H, fkN t0 t1 t5 t39 t40 t41 H = (gkN t0 t1 t5 t39 t40 t41 H).bind k) (hkR : ∀ t4 H, fkR t4 H = (gkR t4 H).bind k) : g30_p0 a39 a40 a41 R t0 t1 H fkN fkR = (g30_p0 a39 a40 a41 S t0 t1 H gkN gkR).bind k := by
  delta g30_p0; exact (
    sl_lin (
      hkR _ _) (
      sl_lin (
        il (
          bl fun q9 =>
          bl fun x10 =>
          hkR _ _) (
          rfl)) (
        sl_lin (
          il (
            rfl) (
            sl_lin (
              rfl) (
              hkN _ _ _ _ _ _ _))) (
          hkN _ _ _ _ _ _ _))))
noncomputable def g30_p1 (a39 : T39) (a40 : T40) (a41 : T41) (R : Type) (t0 : Sl) (t1 : ByteArray) (t5 : Int) (t39 : Sl) (t40 : Int) (t41 : Int) (H : Heap) (kN : Sl → ByteArray → Int → Sl → Int → Int → Heap → Option R) (kE1 : Sl → ByteArray → Int → Heap → Option R) : Option R :=
  sel (decide (t41 < t40)) (
    if 0 ≤ t41 ∧ t41 < ((t39.len : Nat) : Int) then (
      (t39.a).bind fun q11 =>
      ((H).ldS q11.1 (q11.2 + Int.toNat t41 * 1)).bind fun x12 =>
      sel (decide (((x12.size : Nat) : Int) > (IntKind.wrap .i64 ((9223372036854775807 : Int) - t5)))) (
        none) (
        kN t0 t1 (IntKind.wrap .i64 (t5 + ((x12.size : Nat) : Int))) t39 t40 (IntKind.wrap .i64 (t41 + (1 : Int))) H))
    else (
      none)) (
    kE1 t0 t1 t5 H)
theorem g30_p1_eq (a39 : T39) (a40 : T40) (a41 : T41) (la39 : Lin39 a39) (la40 : Lin40 a40) (la41 : Lin41 a41) {R : Type} (t0 : Sl) (t1 : ByteArray) (t5 : Int) (t39 : Sl) (t40 : Int) (t41 : Int) (H : Heap) (K : Ex → Fr → Heap → Option R) : ev Tryd.prog (E30 a39 a40 a41) loopLim Tryd.f30.ntmps kp30 c30_0 [(0, (V.sl t0)), (1, (V.s t1)), (5, (V.i .i64 t5)), (39, (V.sl t39)), (40, (V.i .i64 t40)), (41, (V.i .i64 t41))] H K = g30_p1 a39 a40 a41 R t0 t1 t5 t39 t40 t41 H (fun t0 t1 t5 t39 t40 t41 H => K .normal [(0, (V.sl t0)), (1, (V.s t1)), (5, (V.i .i64 t5)), (39, (V.sl t39)), (40, (V.i .i64 t40)), (41, (V.i .i64 t41))] H) (fun t0 t1 t5 H => K (.exit 1) [(0, (V.sl t0)), (1, (V.s t1)), (5, (V.i .i64 t5))] H) := by kernel_rfl
theorem g30_p1_lin {a39 : T39} {a40 : T40} {a41 : T41} (la39 : Lin39 a39) (la40 : Lin40 a40) (la41 : Lin41 a41) {R S : Type} {k : S → Option R} {t0 : Sl} {t1 : ByteArray} {t5 : Int} {t39 : Sl} {t40 : Int} {t41 : Int} {H : Heap} {fkN : Sl → ByteArray → Int → Sl → Int → Int → Heap → Option R} {gkN : Sl → ByteArray → Int → Sl → Int → Int → Heap → Option S} {fkE1 : Sl → ByteArray → Int → Heap → Option R} {gkE1 : Sl → ByteArray → Int → Heap → Option S} (hkN : ∀ t0 t1 t5 t39 t40 t41 H, fkN t0 t1 t5 t39 t40 t41 H = (gkN t0 t1 t5 t39 t40 t41 H).bind k) (hkE1 : ∀ t0 t1 t5 H, fkE1 t0 t1 t5 H = (gkE1 t0 t1 t5 H).bind k) : g30_p1 a39 a40 a41 R t0 t1 t5 t39 t40 t41 H fkN fkE1 = (g30_p1 a39 a40 a41 S t0 t1 t5 t39 t40 t41 H gkN gkE1).bind k := by
  delta g30_p1; exact (
    sl_lin (
      il (
        bl fun q11 =>
        bl fun x12 =>
        sl_lin (
          rfl) (
          hkN _ _ _ _ _ _ _)) (
        rfl)) (
      hkE1 _ _ _ _))
abbrev g30_p2_S := Sl × ByteArray × Int × Sl × Int × Int
abbrev g30_p2_O := Sl × ByteArray × Int
def g30_p2_es (s : g30_p2_S) : Fr := [(0, (V.sl s.1)), (1, (V.s s.2.1)), (5, (V.i .i64 s.2.2.1)), (39, (V.sl s.2.2.2.1)), (40, (V.i .i64 s.2.2.2.2.1)), (41, (V.i .i64 s.2.2.2.2.2))]
def g30_p2_er (r : g30_p2_O) : Ex × Fr := ((.exit 1), [(0, (V.sl r.1)), (1, (V.s r.2.1)), (5, (V.i .i64 r.2.2))])
noncomputable def g30_p2_b (a39 : T39) (a40 : T40) (a41 : T41) (s : g30_p2_S) (H : Heap) : Option (Rd g30_p2_S g30_p2_O × Heap) :=
  g30_p1 a39 a40 a41 _ s.1 s.2.1 s.2.2.1 s.2.2.2.1 s.2.2.2.2.1 s.2.2.2.2.2 H (fun t0 t1 t5 t39 t40 t41 H => some (.go (t0, t1, t5, t39, t40, t41), H)) (fun t0 t1 t5 H => some (.up (t0, t1, t5), H))
noncomputable def g30_p2 (a39 : T39) (a40 : T40) (a41 : T41) (R : Type) (t0 : Sl) (t1 : ByteArray) (t5 : Int) (t39 : Sl) (t40 : Int) (t41 : Int) (H : Heap) (kE1 : Sl → ByteArray → Int → Heap → Option R) : Option R :=
  (tlim (g30_p2_b a39 a40 a41) (t0, t1, t5, t39, t40, t41) H).bind fun p => kE1 p.1.1 p.1.2.1 p.1.2.2 p.2
theorem g30_p2_lin {a39 : T39} {a40 : T40} {a41 : T41} (la39 : Lin39 a39) (la40 : Lin40 a40) (la41 : Lin41 a41) {R S : Type} {k : S → Option R} {t0 : Sl} {t1 : ByteArray} {t5 : Int} {t39 : Sl} {t40 : Int} {t41 : Int} {H : Heap} {fkE1 : Sl → ByteArray → Int → Heap → Option R} {gkE1 : Sl → ByteArray → Int → Heap → Option S} (hkE1 : ∀ t0 t1 t5 H, fkE1 t0 t1 t5 H = (gkE1 t0 t1 t5 H).bind k) : g30_p2 a39 a40 a41 R t0 t1 t5 t39 t40 t41 H fkE1 = (g30_p2 a39 a40 a41 S t0 t1 t5 t39 t40 t41 H gkE1).bind k := by
  exact bl fun p => hkE1 _ _ _ _
theorem g30_p2_eq (a39 : T39) (a40 : T40) (a41 : T41) (la39 : Lin39 a39) (la40 : Lin40 a40) (la41 : Lin41 a41) {R : Type} (t0 : Sl) (t1 : ByteArray) (t5 : Int) (t39 : Sl) (t40 : Int) (t41 : Int) (H : Heap) (K : Ex → Fr → Heap → Option R) : ev Tryd.prog (E30 a39 a40 a41) loopLim Tryd.f30.ntmps kp30 c30_1 [(0, (V.sl t0)), (1, (V.s t1)), (5, (V.i .i64 t5)), (39, (V.sl t39)), (40, (V.i .i64 t40)), (41, (V.i .i64 t41))] H K = g30_p2 a39 a40 a41 R t0 t1 t5 t39 t40 t41 H (fun t0 t1 t5 H => K (.exit 1) [(0, (V.sl t0)), (1, (V.s t1)), (5, (V.i .i64 t5))] H) := by
  show ev Tryd.prog (E30 a39 a40 a41) loopLim Tryd.f30.ntmps kp30 (.loop c30_0) [(0, (V.sl t0)), (1, (V.s t1)), (5, (V.i .i64 t5)), (39, (V.sl t39)), (40, (V.i .i64 t40)), (41, (V.i .i64 t41))] H K = _
  delta g30_p2
  refine (ev_tlim (b := g30_p2_b a39 a40 a41) (es := g30_p2_es) (er := g30_p2_er) (by intro r; exact nofun) (fun s H => ?_) (t0, t1, t5, t39, t40, t41) H K).trans (bc fun p => rfl)
  exact (g30_p1_eq a39 a40 a41 la39 la40 la41 s.1 s.2.1 s.2.2.1 s.2.2.2.1 s.2.2.2.2.1 s.2.2.2.2.2 H ret3).trans (g30_p1_lin la39 la40 la41 (fun _ _ _ _ _ _ _ => rfl) (fun _ _ _ _ => rfl))
noncomputable def g30_p3 (a39 : T39) (a40 : T40) (a41 : T41) (R : Type) (t0 : Sl) (t1 : ByteArray) (t5 : Int) (t39 : Sl) (t40 : Int) (t41 : Int) (H : Heap) (kN : Sl → ByteArray → Int → Heap → Option R) : Option R :=
  g30_p2 a39 a40 a41 R t0 t1 t5 t39 t40 t41 H (fun t0 t1 t5 H => kN t0 t1 t5 H)
theorem g30_p3_lin {a39 : T39} {a40 : T40} {a41 : T41} (la39 : Lin39 a39) (la40 : Lin40 a40) (la41 : Lin41 a41) {R S : Type} {k : S → Option R} {t0 : Sl} {t1 : ByteArray} {t5 : Int} {t39 : Sl} {t40 : Int} {t41 : Int} {H : Heap} {fkN : Sl → ByteArray → Int → Heap → Option R} {gkN : Sl → ByteArray → Int → Heap → Option S} (hkN : ∀ t0 t1 t5 H, fkN t0 t1 t5 H = (gkN t0 t1 t5 H).bind k) : g30_p3 a39 a40 a41 R t0 t1 t5 t39 t40 t41 H fkN = (g30_p3 a39 a40 a41 S t0 t1 t5 t39 t40 t41 H gkN).bind k := by
  exact g30_p2_lin la39 la40 la41 (fun _ _ _ _ => hkN _ _ _ _)
theorem g30_p3_eq (a39 : T39) (a40 : T40) (a41 : T41) (la39 : Lin39 a39) (la40 : Lin40 a40) (la41 : Lin41 a41) {R : Type} (t0 : Sl) (t1 : ByteArray) (t5 : Int) (t39 : Sl) (t40 : Int) (t41 : Int) (H : Heap) (K : Ex → Fr → Heap → Option R) : ev Tryd.prog (E30 a39 a40 a41) loopLim Tryd.f30.ntmps kp30 c30_2 [(0, (V.sl t0)), (1, (V.s t1)), (5, (V.i .i64 t5)), (39, (V.sl t39)), (40, (V.i .i64 t40)), (41, (V.i .i64 t41))] H K = g30_p3 a39 a40 a41 R t0 t1 t5 t39 t40 t41 H (fun t0 t1 t5 H => K .normal [(0, (V.sl t0)), (1, (V.s t1)), (5, (V.i .i64 t5))] H) := by
  show ev Tryd.prog (E30 a39 a40 a41) loopLim Tryd.f30.ntmps kp30 (.block 1 c30_1) [(0, (V.sl t0)), (1, (V.s t1)), (5, (V.i .i64 t5)), (39, (V.sl t39)), (40, (V.i .i64 t40)), (41, (V.i .i64 t41))] H K = _
  rw [ev_block]
  delta g30_p3
  exact (g30_p2_eq a39 a40 a41 la39 la40 la41 t0 t1 t5 t39 t40 t41 H (kBlock kp30 1 K))
noncomputable def g30_p4 (a39 : T39) (a40 : T40) (a41 : T41) (R : Type) (t0 : Sl) (t1 : ByteArray) (t5 : Int) (H : Heap) (kN : ByteArray → Nat → Nat → Sl → Int → Int → Heap → Option R) : Option R :=
  alo H (.cells [(V.p none), (V.sl (Sl.mk none 0 (.ex 0)))] 82 false) fun i26 h27 =>
  a39 R (some (i26, 0)) t5 h27 fun h28 =>
  if 0 ≤ (0 : Int) ∧ (0 : Int) < ((t0.len : Nat) : Int) then (
    (t0.a).bind fun q29 =>
    ((h28).ldS q29.1 (q29.2 + Int.toNat (0 : Int) * 1)).bind fun x30 =>
    a40 R (some (i26, 0)) x30 h28 fun x31 x32 h33 =>
    if (V.one x32) = true then (
      slOf 1 t0 (some (1 : Int)) none none fun s34 =>
      kN t1 i26 0 s34 ((s34.len : Nat) : Int) (0 : Int) h33)
    else (
      none))
  else (
    none)
theorem g30_p4_eq (a39 : T39) (a40 : T40) (a41 : T41) {R : Type} (c2 : Code) (t0 : Sl) (t1 : ByteArray) (t5 : Int) (H : Heap) (K : Ex → Fr → Heap → Option R) : ev Tryd.prog (E30 a39 a40 a41) loopLim Tryd.f30.ntmps kp30 (.seq (codeAt [1, 1, 1, 1, 1, 0] b30) (.seq (codeAt [1, 1, 1, 1, 1, 1, 0] b30) (.seq (codeAt [1, 1, 1, 1, 1, 1, 1, 0] b30) (.seq (codeAt [1, 1, 1, 1, 1, 1, 1, 1, 0, 0] b30) c2)))) [(0, (V.sl t0)), (1, (V.s t1)), (5, (V.i .i64 t5))] H K = g30_p4 a39 a40 a41 R t0 t1 t5 H (fun t1 t8_0 t8_1 t63 t64 t65 H => ev Tryd.prog (E30 a39 a40 a41) loopLim Tryd.f30.ntmps kp30 c2 [(1, (V.s t1)), (8, (V.p (some (t8_0, t8_1)))), (63, (V.sl t63)), (64, (V.i .i64 t64)), (65, (V.i .i64 t65))] H K) := by kernel_rfl
theorem g30_p4_lin {a39 : T39} {a40 : T40} {a41 : T41} (la39 : Lin39 a39) (la40 : Lin40 a40) (la41 : Lin41 a41) {R S : Type} {k : S → Option R} {t0 : Sl} {t1 : ByteArray} {t5 : Int} {H : Heap} {fkN : ByteArray → Nat → Nat → Sl → Int → Int → Heap → Option R} {gkN : ByteArray → Nat → Nat → Sl → Int → Int → Heap → Option S} (hkN : ∀ t1 t8_0 t8_1 t63 t64 t65 H, fkN t1 t8_0 t8_1 t63 t64 t65 H = (gkN t1 t8_0 t8_1 t63 t64 t65 H).bind k) : g30_p4 a39 a40 a41 R t0 t1 t5 H fkN = (g30_p4 a39 a40 a41 S t0 t1 t5 H gkN).bind k := by
  delta g30_p4; exact (
    alo_lin fun i26 h27 =>
    la39.l fun h28 =>
    il (
      bl fun q29 =>
      bl fun x30 =>
      la40.l fun x31 x32 h33 =>
      il (
        slOf_lin fun s34 =>
        hkN _ _ _ _ _ _ _) (
        rfl)) (
      rfl))
noncomputable def g30_p5 (a39 : T39) (a40 : T40) (a41 : T41) (R : Type) (t1 : ByteArray) (t8_0 : Nat) (t8_1 : Nat) (t63 : Sl) (t64 : Int) (t65 : Int) (H : Heap) (kN : ByteArray → Nat → Nat → Sl → Int → Int → Heap → Option R) (kE3 : Nat → Nat → Heap → Option R) : Option R :=
  sel (decide (t65 < t64)) (
    if 0 ≤ t65 ∧ t65 < ((t63.len : Nat) : Int) then (
      (t63.a).bind fun q35 =>
      ((H).ldS q35.1 (q35.2 + Int.toNat t65 * 1)).bind fun x36 =>
      a40 R (some (t8_0, t8_1)) t1 H fun x37 x38 h39 =>
      if (V.one x38) = true then (
        a40 R (some (t8_0, t8_1)) x36 h39 fun x40 x41 h42 =>
        if (V.one x41) = true then (
          kN t1 t8_0 t8_1 t63 t64 (IntKind.wrap .i64 (t65 + (1 : Int))) h42)
        else (
          none))
      else (
        none))
    else (
      none)) (
    kE3 t8_0 t8_1 H)
theorem g30_p5_eq (a39 : T39) (a40 : T40) (a41 : T41) (la39 : Lin39 a39) (la40 : Lin40 a40) (la41 : Lin41 a41) {R : Type} (t1 : ByteArray) (t8_0 : Nat) (t8_1 : Nat) (t63 : Sl) (t64 : Int) (t65 : Int) (H : Heap) (K : Ex → Fr → Heap → Option R) : ev Tryd.prog (E30 a39 a40 a41) loopLim Tryd.f30.ntmps kp30 c30_3 [(1, (V.s t1)), (8, (V.p (some (t8_0, t8_1)))), (63, (V.sl t63)), (64, (V.i .i64 t64)), (65, (V.i .i64 t65))] H K = g30_p5 a39 a40 a41 R t1 t8_0 t8_1 t63 t64 t65 H (fun t1 t8_0 t8_1 t63 t64 t65 H => K .normal [(1, (V.s t1)), (8, (V.p (some (t8_0, t8_1)))), (63, (V.sl t63)), (64, (V.i .i64 t64)), (65, (V.i .i64 t65))] H) (fun t8_0 t8_1 H => K (.exit 3) [(8, (V.p (some (t8_0, t8_1))))] H) := by kernel_rfl
theorem g30_p5_lin {a39 : T39} {a40 : T40} {a41 : T41} (la39 : Lin39 a39) (la40 : Lin40 a40) (la41 : Lin41 a41) {R S : Type} {k : S → Option R} {t1 : ByteArray} {t8_0 : Nat} {t8_1 : Nat} {t63 : Sl} {t64 : Int} {t65 : Int} {H : Heap} {fkN : ByteArray → Nat → Nat → Sl → Int → Int → Heap → Option R} {gkN : ByteArray → Nat → Nat → Sl → Int → Int → Heap → Option S} {fkE3 : Nat → Nat → Heap → Option R} {gkE3 : Nat → Nat → Heap → Option S} (hkN : ∀ t1 t8_0 t8_1 t63 t64 t65 H, fkN t1 t8_0 t8_1 t63 t64 t65 H = (gkN t1 t8_0 t8_1 t63 t64 t65 H).bind k) (hkE3 : ∀ t8_0 t8_1 H, fkE3 t8_0 t8_1 H = (gkE3 t8_0 t8_1 H).bind k) : g30_p5 a39 a40 a41 R t1 t8_0 t8_1 t63 t64 t65 H fkN fkE3 = (g30_p5 a39 a40 a41 S t1 t8_0 t8_1 t63 t64 t65 H gkN gkE3).bind k := by
  delta g30_p5; exact (
    sl_lin (
      il (
        bl fun q35 =>
        bl fun x36 =>
        la40.l fun x37 x38 h39 =>
        il (
          la40.l fun x40 x41 h42 =>
          il (
            hkN _ _ _ _ _ _ _) (
            rfl)) (
          rfl)) (
        rfl)) (
      hkE3 _ _ _))
abbrev g30_p6_S := ByteArray × Nat × Nat × Sl × Int × Int
abbrev g30_p6_O := Nat × Nat
def g30_p6_es (s : g30_p6_S) : Fr := [(1, (V.s s.1)), (8, (V.p (some (s.2.1, s.2.2.1)))), (63, (V.sl s.2.2.2.1)), (64, (V.i .i64 s.2.2.2.2.1)), (65, (V.i .i64 s.2.2.2.2.2))]
def g30_p6_er (r : g30_p6_O) : Ex × Fr := ((.exit 3), [(8, (V.p (some (r.1, r.2))))])
noncomputable def g30_p6_b (a39 : T39) (a40 : T40) (a41 : T41) (s : g30_p6_S) (H : Heap) : Option (Rd g30_p6_S g30_p6_O × Heap) :=
  g30_p5 a39 a40 a41 _ s.1 s.2.1 s.2.2.1 s.2.2.2.1 s.2.2.2.2.1 s.2.2.2.2.2 H (fun t1 t8_0 t8_1 t63 t64 t65 H => some (.go (t1, t8_0, t8_1, t63, t64, t65), H)) (fun t8_0 t8_1 H => some (.up (t8_0, t8_1), H))
noncomputable def g30_p6 (a39 : T39) (a40 : T40) (a41 : T41) (R : Type) (t1 : ByteArray) (t8_0 : Nat) (t8_1 : Nat) (t63 : Sl) (t64 : Int) (t65 : Int) (H : Heap) (kE3 : Nat → Nat → Heap → Option R) : Option R :=
  (tlim (g30_p6_b a39 a40 a41) (t1, t8_0, t8_1, t63, t64, t65) H).bind fun p => kE3 p.1.1 p.1.2 p.2
theorem g30_p6_lin {a39 : T39} {a40 : T40} {a41 : T41} (la39 : Lin39 a39) (la40 : Lin40 a40) (la41 : Lin41 a41) {R S : Type} {k : S → Option R} {t1 : ByteArray} {t8_0 : Nat} {t8_1 : Nat} {t63 : Sl} {t64 : Int} {t65 : Int} {H : Heap} {fkE3 : Nat → Nat → Heap → Option R} {gkE3 : Nat → Nat → Heap → Option S} (hkE3 : ∀ t8_0 t8_1 H, fkE3 t8_0 t8_1 H = (gkE3 t8_0 t8_1 H).bind k) : g30_p6 a39 a40 a41 R t1 t8_0 t8_1 t63 t64 t65 H fkE3 = (g30_p6 a39 a40 a41 S t1 t8_0 t8_1 t63 t64 t65 H gkE3).bind k := by
  exact bl fun p => hkE3 _ _ _
theorem g30_p6_eq (a39 : T39) (a40 : T40) (a41 : T41) (la39 : Lin39 a39) (la40 : Lin40 a40) (la41 : Lin41 a41) {R : Type} (t1 : ByteArray) (t8_0 : Nat) (t8_1 : Nat) (t63 : Sl) (t64 : Int) (t65 : Int) (H : Heap) (K : Ex → Fr → Heap → Option R) : ev Tryd.prog (E30 a39 a40 a41) loopLim Tryd.f30.ntmps kp30 c30_4 [(1, (V.s t1)), (8, (V.p (some (t8_0, t8_1)))), (63, (V.sl t63)), (64, (V.i .i64 t64)), (65, (V.i .i64 t65))] H K = g30_p6 a39 a40 a41 R t1 t8_0 t8_1 t63 t64 t65 H (fun t8_0 t8_1 H => K (.exit 3) [(8, (V.p (some (t8_0, t8_1))))] H) := by
  show ev Tryd.prog (E30 a39 a40 a41) loopLim Tryd.f30.ntmps kp30 (.loop c30_3) [(1, (V.s t1)), (8, (V.p (some (t8_0, t8_1)))), (63, (V.sl t63)), (64, (V.i .i64 t64)), (65, (V.i .i64 t65))] H K = _
  delta g30_p6
  refine (ev_tlim (b := g30_p6_b a39 a40 a41) (es := g30_p6_es) (er := g30_p6_er) (by intro r; exact nofun) (fun s H => ?_) (t1, t8_0, t8_1, t63, t64, t65) H K).trans (bc fun p => rfl)
  exact (g30_p5_eq a39 a40 a41 la39 la40 la41 s.1 s.2.1 s.2.2.1 s.2.2.2.1 s.2.2.2.2.1 s.2.2.2.2.2 H ret3).trans (g30_p5_lin la39 la40 la41 (fun _ _ _ _ _ _ _ => rfl) (fun _ _ _ => rfl))
noncomputable def g30_p7 (a39 : T39) (a40 : T40) (a41 : T41) (R : Type) (t1 : ByteArray) (t8_0 : Nat) (t8_1 : Nat) (t63 : Sl) (t64 : Int) (t65 : Int) (H : Heap) (kN : Nat → Nat → Heap → Option R) : Option R :=
  g30_p6 a39 a40 a41 R t1 t8_0 t8_1 t63 t64 t65 H (fun t8_0 t8_1 H => kN t8_0 t8_1 H)
theorem g30_p7_lin {a39 : T39} {a40 : T40} {a41 : T41} (la39 : Lin39 a39) (la40 : Lin40 a40) (la41 : Lin41 a41) {R S : Type} {k : S → Option R} {t1 : ByteArray} {t8_0 : Nat} {t8_1 : Nat} {t63 : Sl} {t64 : Int} {t65 : Int} {H : Heap} {fkN : Nat → Nat → Heap → Option R} {gkN : Nat → Nat → Heap → Option S} (hkN : ∀ t8_0 t8_1 H, fkN t8_0 t8_1 H = (gkN t8_0 t8_1 H).bind k) : g30_p7 a39 a40 a41 R t1 t8_0 t8_1 t63 t64 t65 H fkN = (g30_p7 a39 a40 a41 S t1 t8_0 t8_1 t63 t64 t65 H gkN).bind k := by
  exact g30_p6_lin la39 la40 la41 (fun _ _ _ => hkN _ _ _)
theorem g30_p7_eq (a39 : T39) (a40 : T40) (a41 : T41) (la39 : Lin39 a39) (la40 : Lin40 a40) (la41 : Lin41 a41) {R : Type} (t1 : ByteArray) (t8_0 : Nat) (t8_1 : Nat) (t63 : Sl) (t64 : Int) (t65 : Int) (H : Heap) (K : Ex → Fr → Heap → Option R) : ev Tryd.prog (E30 a39 a40 a41) loopLim Tryd.f30.ntmps kp30 c30_5 [(1, (V.s t1)), (8, (V.p (some (t8_0, t8_1)))), (63, (V.sl t63)), (64, (V.i .i64 t64)), (65, (V.i .i64 t65))] H K = g30_p7 a39 a40 a41 R t1 t8_0 t8_1 t63 t64 t65 H (fun t8_0 t8_1 H => K .normal [(8, (V.p (some (t8_0, t8_1))))] H) := by
  show ev Tryd.prog (E30 a39 a40 a41) loopLim Tryd.f30.ntmps kp30 (.block 3 c30_4) [(1, (V.s t1)), (8, (V.p (some (t8_0, t8_1)))), (63, (V.sl t63)), (64, (V.i .i64 t64)), (65, (V.i .i64 t65))] H K = _
  rw [ev_block]
  delta g30_p7
  exact (g30_p6_eq a39 a40 a41 la39 la40 la41 t1 t8_0 t8_1 t63 t64 t65 H (kBlock kp30 3 K))
noncomputable def g30_p8 (a39 : T39) (a40 : T40) (a41 : T41) (R : Type) (t8_0 : Nat) (t8_1 : Nat) (H : Heap) (kR : ByteArray → Heap → Option R) : Option R :=
  a41 R (some (t8_0, t8_1)) H fun x43 h44 =>
  kR x43 h44
theorem g30_p8_eq (a39 : T39) (a40 : T40) (a41 : T41) (la39 : Lin39 a39) (la40 : Lin40 a40) (la41 : Lin41 a41) {R : Type} (t8_0 : Nat) (t8_1 : Nat) (H : Heap) (K : Ex → Fr → Heap → Option R) : ev Tryd.prog (E30 a39 a40 a41) loopLim Tryd.f30.ntmps kp30 c30_6 [(8, (V.p (some (t8_0, t8_1))))] H K = g30_p8 a39 a40 a41 R t8_0 t8_1 H (fun t4 H => K .ret [(4, (V.s t4))] H) := by kernel_rfl
theorem g30_p8_lin {a39 : T39} {a40 : T40} {a41 : T41} (la39 : Lin39 a39) (la40 : Lin40 a40) (la41 : Lin41 a41) {R S : Type} {k : S → Option R} {t8_0 : Nat} {t8_1 : Nat} {H : Heap} {fkR : ByteArray → Heap → Option R} {gkR : ByteArray → Heap → Option S} (hkR : ∀ t4 H, fkR t4 H = (gkR t4 H).bind k) : g30_p8 a39 a40 a41 R t8_0 t8_1 H fkR = (g30_p8 a39 a40 a41 S t8_0 t8_1 H gkR).bind k := by
  delta g30_p8; exact (
    la41.l fun x43 h44 =>
    hkR _ _)
noncomputable def g30_p9 (a39 : T39) (a40 : T40) (a41 : T41) (R : Type) (t1 : ByteArray) (t8_0 : Nat) (t8_1 : Nat) (t63 : Sl) (t64 : Int) (t65 : Int) (H : Heap) (kR : ByteArray → Heap → Option R) : Option R :=
  g30_p7 a39 a40 a41 R t1 t8_0 t8_1 t63 t64 t65 H (fun t8_0 t8_1 H => g30_p8 a39 a40 a41 R t8_0 t8_1 H (fun t4 H => kR t4 H))
theorem g30_p9_lin {a39 : T39} {a40 : T40} {a41 : T41} (la39 : Lin39 a39) (la40 : Lin40 a40) (la41 : Lin41 a41) {R S : Type} {k : S → Option R} {t1 : ByteArray} {t8_0 : Nat} {t8_1 : Nat} {t63 : Sl} {t64 : Int} {t65 : Int} {H : Heap} {fkR : ByteArray → Heap → Option R} {gkR : ByteArray → Heap → Option S} (hkR : ∀ t4 H, fkR t4 H = (gkR t4 H).bind k) : g30_p9 a39 a40 a41 R t1 t8_0 t8_1 t63 t64 t65 H fkR = (g30_p9 a39 a40 a41 S t1 t8_0 t8_1 t63 t64 t65 H gkR).bind k := by
  exact g30_p7_lin la39 la40 la41 (fun _ _ _ => g30_p8_lin la39 la40 la41 (fun _ _ => hkR _ _))
theorem g30_p9_eq (a39 : T39) (a40 : T40) (a41 : T41) (la39 : Lin39 a39) (la40 : Lin40 a40) (la41 : Lin41 a41) {R : Type} (t1 : ByteArray) (t8_0 : Nat) (t8_1 : Nat) (t63 : Sl) (t64 : Int) (t65 : Int) (H : Heap) (K : Ex → Fr → Heap → Option R) : ev Tryd.prog (E30 a39 a40 a41) loopLim Tryd.f30.ntmps kp30 c30_7 [(1, (V.s t1)), (8, (V.p (some (t8_0, t8_1)))), (63, (V.sl t63)), (64, (V.i .i64 t64)), (65, (V.i .i64 t65))] H K = g30_p9 a39 a40 a41 R t1 t8_0 t8_1 t63 t64 t65 H (fun t4 H => K .ret [(4, (V.s t4))] H) := by
  show ev Tryd.prog (E30 a39 a40 a41) loopLim Tryd.f30.ntmps kp30 (.seq c30_5 c30_6) [(1, (V.s t1)), (8, (V.p (some (t8_0, t8_1)))), (63, (V.sl t63)), (64, (V.i .i64 t64)), (65, (V.i .i64 t65))] H K = _
  rw [ev_seq]
  delta g30_p9
  exact (g30_p7_eq a39 a40 a41 la39 la40 la41 t1 t8_0 t8_1 t63 t64 t65 H (kSeq (fun fr H => ev Tryd.prog (E30 a39 a40 a41) loopLim Tryd.f30.ntmps kp30 c30_6 fr H K) K)).trans (congrArg (g30_p7 a39 a40 a41 R t1 t8_0 t8_1 t63 t64 t65 H) (funext fun t8_0 => funext fun t8_1 => funext fun H => (kSeq_n _ _ _ _).trans (g30_p8_eq a39 a40 a41 la39 la40 la41 t8_0 t8_1 H K)))
noncomputable def g30_p10 (a39 : T39) (a40 : T40) (a41 : T41) (R : Type) (t0 : Sl) (t1 : ByteArray) (t5 : Int) (H : Heap) (kR : ByteArray → Heap → Option R) : Option R :=
  g30_p4 a39 a40 a41 R t0 t1 t5 H (fun t1 t8_0 t8_1 t63 t64 t65 H => g30_p9 a39 a40 a41 R t1 t8_0 t8_1 t63 t64 t65 H (fun t4 H => kR t4 H))
theorem g30_p10_lin {a39 : T39} {a40 : T40} {a41 : T41} (la39 : Lin39 a39) (la40 : Lin40 a40) (la41 : Lin41 a41) {R S : Type} {k : S → Option R} {t0 : Sl} {t1 : ByteArray} {t5 : Int} {H : Heap} {fkR : ByteArray → Heap → Option R} {gkR : ByteArray → Heap → Option S} (hkR : ∀ t4 H, fkR t4 H = (gkR t4 H).bind k) : g30_p10 a39 a40 a41 R t0 t1 t5 H fkR = (g30_p10 a39 a40 a41 S t0 t1 t5 H gkR).bind k := by
  exact g30_p4_lin la39 la40 la41 (fun _ _ _ _ _ _ _ => g30_p9_lin la39 la40 la41 (fun _ _ => hkR _ _))
theorem g30_p10_eq (a39 : T39) (a40 : T40) (a41 : T41) (la39 : Lin39 a39) (la40 : Lin40 a40) (la41 : Lin41 a41) {R : Type} (t0 : Sl) (t1 : ByteArray) (t5 : Int) (H : Heap) (K : Ex → Fr → Heap → Option R) : ev Tryd.prog (E30 a39 a40 a41) loopLim Tryd.f30.ntmps kp30 c30_8 [(0, (V.sl t0)), (1, (V.s t1)), (5, (V.i .i64 t5))] H K = g30_p10 a39 a40 a41 R t0 t1 t5 H (fun t4 H => K .ret [(4, (V.s t4))] H) := by
  show ev Tryd.prog (E30 a39 a40 a41) loopLim Tryd.f30.ntmps kp30 (.seq (codeAt [1, 1, 1, 1, 1, 0] b30) (.seq (codeAt [1, 1, 1, 1, 1, 1, 0] b30) (.seq (codeAt [1, 1, 1, 1, 1, 1, 1, 0] b30) (.seq (codeAt [1, 1, 1, 1, 1, 1, 1, 1, 0, 0] b30) c30_7)))) [(0, (V.sl t0)), (1, (V.s t1)), (5, (V.i .i64 t5))] H K = _
  delta g30_p10
  exact (g30_p4_eq a39 a40 a41 _ t0 t1 t5 H K).trans (congrArg (g30_p4 a39 a40 a41 R t0 t1 t5 H) (funext fun t1 => funext fun t8_0 => funext fun t8_1 => funext fun t63 => funext fun t64 => funext fun t65 => funext fun H => g30_p9_eq a39 a40 a41 la39 la40 la41 t1 t8_0 t8_1 t63 t64 t65 H K))
noncomputable def g30_p11 (a39 : T39) (a40 : T40) (a41 : T41) (R : Type) (t0 : Sl) (t1 : ByteArray) (t5 : Int) (t39 : Sl) (t40 : Int) (t41 : Int) (H : Heap) (kR : ByteArray → Heap → Option R) : Option R :=
  g30_p3 a39 a40 a41 R t0 t1 t5 t39 t40 t41 H (fun t0 t1 t5 H => g30_p10 a39 a40 a41 R t0 t1 t5 H (fun t4 H => kR t4 H))
theorem g30_p11_lin {a39 : T39} {a40 : T40} {a41 : T41} (la39 : Lin39 a39) (la40 : Lin40 a40) (la41 : Lin41 a41) {R S : Type} {k : S → Option R} {t0 : Sl} {t1 : ByteArray} {t5 : Int} {t39 : Sl} {t40 : Int} {t41 : Int} {H : Heap} {fkR : ByteArray → Heap → Option R} {gkR : ByteArray → Heap → Option S} (hkR : ∀ t4 H, fkR t4 H = (gkR t4 H).bind k) : g30_p11 a39 a40 a41 R t0 t1 t5 t39 t40 t41 H fkR = (g30_p11 a39 a40 a41 S t0 t1 t5 t39 t40 t41 H gkR).bind k := by
  exact g30_p3_lin la39 la40 la41 (fun _ _ _ _ => g30_p10_lin la39 la40 la41 (fun _ _ => hkR _ _))
theorem g30_p11_eq (a39 : T39) (a40 : T40) (a41 : T41) (la39 : Lin39 a39) (la40 : Lin40 a40) (la41 : Lin41 a41) {R : Type} (t0 : Sl) (t1 : ByteArray) (t5 : Int) (t39 : Sl) (t40 : Int) (t41 : Int) (H : Heap) (K : Ex → Fr → Heap → Option R) : ev Tryd.prog (E30 a39 a40 a41) loopLim Tryd.f30.ntmps kp30 c30_9 [(0, (V.sl t0)), (1, (V.s t1)), (5, (V.i .i64 t5)), (39, (V.sl t39)), (40, (V.i .i64 t40)), (41, (V.i .i64 t41))] H K = g30_p11 a39 a40 a41 R t0 t1 t5 t39 t40 t41 H (fun t4 H => K .ret [(4, (V.s t4))] H) := by
  show ev Tryd.prog (E30 a39 a40 a41) loopLim Tryd.f30.ntmps kp30 (.seq c30_2 c30_8) [(0, (V.sl t0)), (1, (V.s t1)), (5, (V.i .i64 t5)), (39, (V.sl t39)), (40, (V.i .i64 t40)), (41, (V.i .i64 t41))] H K = _
  rw [ev_seq]
  delta g30_p11
  exact (g30_p3_eq a39 a40 a41 la39 la40 la41 t0 t1 t5 t39 t40 t41 H (kSeq (fun fr H => ev Tryd.prog (E30 a39 a40 a41) loopLim Tryd.f30.ntmps kp30 c30_8 fr H K) K)).trans (congrArg (g30_p3 a39 a40 a41 R t0 t1 t5 t39 t40 t41 H) (funext fun t0 => funext fun t1 => funext fun t5 => funext fun H => (kSeq_n _ _ _ _).trans (g30_p10_eq a39 a40 a41 la39 la40 la41 t0 t1 t5 H K)))
noncomputable def g30_p12 (a39 : T39) (a40 : T40) (a41 : T41) (R : Type) (t0 : Sl) (t1 : ByteArray) (H : Heap) (kR : ByteArray → Heap → Option R) : Option R :=
  g30_p0 a39 a40 a41 R t0 t1 H (fun t0 t1 t5 t39 t40 t41 H => g30_p11 a39 a40 a41 R t0 t1 t5 t39 t40 t41 H (fun t4 H => kR t4 H)) (fun t4 H => kR t4 H)
theorem g30_p12_lin {a39 : T39} {a40 : T40} {a41 : T41} (la39 : Lin39 a39) (la40 : Lin40 a40) (la41 : Lin41 a41) {R S : Type} {k : S → Option R} {t0 : Sl} {t1 : ByteArray} {H : Heap} {fkR : ByteArray → Heap → Option R} {gkR : ByteArray → Heap → Option S} (hkR : ∀ t4 H, fkR t4 H = (gkR t4 H).bind k) : g30_p12 a39 a40 a41 R t0 t1 H fkR = (g30_p12 a39 a40 a41 S t0 t1 H gkR).bind k := by
  exact g30_p0_lin la39 la40 la41 (fun _ _ _ _ _ _ _ => g30_p11_lin la39 la40 la41 (fun _ _ => hkR _ _)) (fun _ _ => hkR _ _)
theorem g30_p12_eq (a39 : T39) (a40 : T40) (a41 : T41) (la39 : Lin39 a39) (la40 : Lin40 a40) (la41 : Lin41 a41) {R : Type} (t0 : Sl) (t1 : ByteArray) (H : Heap) (K : Ex → Fr → Heap → Option R) : ev Tryd.prog (E30 a39 a40 a41) loopLim Tryd.f30.ntmps kp30 c30_10 [(0, (V.sl t0)), (1, (V.s t1))] H K = g30_p12 a39 a40 a41 R t0 t1 H (fun t4 H => K .ret [(4, (V.s t4))] H) := by
  show ev Tryd.prog (E30 a39 a40 a41) loopLim Tryd.f30.ntmps kp30 (.seq (codeAt [0] b30) (.seq (codeAt [1, 0, 0] b30) (.seq (.block 0 (.seq (codeAt [1, 0, 1, 0, 0] b30) (.cond (.tmp 13) (.seq (codeAt [1, 0, 1, 0, 1, 0, 0] b30) .ret) (.seq (codeAt [1, 0, 1, 0, 1, 1, 0] b30) (.cond (.tmp 15) (.seq (codeAt [1, 0, 1, 0, 1, 1, 1, 0, 0] b30) .ret) .skip))))) (.seq (codeAt [1, 1, 0] b30) (.seq (codeAt [1, 1, 1, 0, 0] b30) (.seq (.cond (.tmp 22) (.seq (codeAt [1, 1, 1, 0, 1, 0, 0, 0] b30) (.seq (.cond (.tmp 29) (codeAt [1, 1, 1, 0, 1, 0, 0, 1, 0] b30) .skip) (codeAt [1, 1, 1, 0, 1, 0, 1] b30))) .skip) (.seq (codeAt [1, 1, 1, 1, 0, 0] b30) c30_9))))))) [(0, (V.sl t0)), (1, (V.s t1))] H K = _
  delta g30_p12
  exact (g30_p0_eq a39 a40 a41 _ t0 t1 H K).trans (congr (congrArg (g30_p0 a39 a40 a41 R t0 t1 H) (funext fun t0 => funext fun t1 => funext fun t5 => funext fun t39 => funext fun t40 => funext fun t41 => funext fun H => g30_p11_eq a39 a40 a41 la39 la40 la41 t0 t1 t5 t39 t40 t41 H K)) rfl)
noncomputable def g30_r (a39 : T39) (a40 : T40) (a41 : T41) : T30 := fun R t0 t1 H K =>
  g30_p12 a39 a40 a41 R t0 t1 H (fun t4 H =>
    K t4 H)
theorem g30_r_lin {a39 : T39} {a40 : T40} {a41 : T41} (la39 : Lin39 a39) (la40 : Lin40 a40) (la41 : Lin41 a41) : Lin30 (g30_r a39 a40 a41) := by
  constructor
  intro R S k t0 t1 H f g h
  exact g30_p12_lin la39 la40 la41 (fun t4 H =>
    h _ _)
theorem g30_fn (a39 : T39) (a40 : T40) (a41 : T41) (la39 : Lin39 a39) (la40 : Lin40 a40) (la41 : Lin41 a41) {R : Type} (t0 : Sl) (t1 : ByteArray) (H : Heap) (K : V → Heap → Option R) : evFn Tryd.prog (E30 a39 a40 a41) loopLim Tryd.f30 kp30 [(V.sl t0), (V.s t1)] H K = g30_r a39 a40 a41 R t0 t1 H (fun r0 H => K (V.s r0) H) := by
  have h0 : ∀ (t4 : ByteArray) (H : Heap), kFn Tryd.prog Tryd.f30.results.toList K .ret [(4, (V.s t4))] H =
      K (V.s t4) H := by intros; kernel_rfl
  have e0 := evFn_code2 (P := Tryd.prog) (c := c30_10) (E := (E30 a39 a40 a41)) (lr := loopLim) (kp := kp30) (fn := Tryd.f30) (args := [(V.sl t0), (V.s t1)]) H K (by kernel_rfl) (Nat.le_of_ble_eq_true (by kernel_rfl)) (by kernel_rfl)
  have e1 : ev Tryd.prog (E30 a39 a40 a41) loopLim Tryd.f30.ntmps kp30 c30_10 (argFr 0 [(V.sl t0), (V.s t1)]) H (kFn Tryd.prog Tryd.f30.results.toList K) = ev Tryd.prog (E30 a39 a40 a41) loopLim Tryd.f30.ntmps kp30 c30_10 [(0, (V.sl t0)), (1, (V.s t1))] H (kFn Tryd.prog Tryd.f30.results.toList K) := by kernel_rfl
  refine (e0.trans e1).trans ?_
  delta g30_r
  exact (g30_p12_eq a39 a40 a41 la39 la40 la41 t0 t1 H (kFn Tryd.prog Tryd.f30.results.toList K)).trans (congrArg (g30_p12 a39 a40 a41 R t0 t1 H) (funext fun t4 => funext fun H => h0 t4 H))
theorem g30_ok {a39 : T39} {a40 : T40} {a41 : T41} (oa39 : FunOK Tryd.prog 39 (w39 a39)) (oa40 : FunOK Tryd.prog 40 (w40 a40)) (oa41 : FunOK Tryd.prog 41 (w41 a41)) (la39 : Lin39 a39) (la40 : Lin40 a40) (la41 : Lin41 a41) : FunOK Tryd.prog 30 (w30 (g30_r a39 a40 a41)) := by
  refine (runF_ok (E30_good oa39 oa40 oa41 la39 la40 la41) mixed lim_ok Tryd.func30 (by kernel_rfl) kp30).of_le fun R args H K r hk => ?_
  unfold w30 at hk
  split at hk
  · exact (g30_fn a39 a40 a41 la39 la40 la41 _ _ H K).trans hk
  · cases hk
end Go.Proofs.YtgdkkpjmjnknoaaDoor

