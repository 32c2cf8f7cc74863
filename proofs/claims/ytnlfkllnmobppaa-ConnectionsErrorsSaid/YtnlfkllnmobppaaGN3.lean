/- Printed: functions as the machine runs them. -/
import Derived.Test.YtnlfkllnmobppaaGN2
namespace Go.Proofs.Ytnlfkllnmobppaa
open Go AM Go.RowKit
set_option linter.unusedVariables false
def kp61 : Nat → Option (List Nat) := kpOf [(0, [0, 1, 5, 500005, 1000005]), (1, [0, 1, 5, 500005, 1000005]), (2, [0, 1, 5, 14, 500005, 1000005]), (3, [0, 1]), (4, []), (300000, []), (400014, [0, 1])]
noncomputable def E61 : FEnv := [(39, w39 g39), (56, w56 g56), (53, w53 g53)]
theorem E61_good : EnvGood Try.prog (E61) := ((((EnvGood.nil _).cons ok53 (w53_lin g53_lin)).cons ok56 (w56_lin g56_lin)).cons ok39 (w39_lin g39_lin))
theorem E61_lin : EnvLin (E61) := by
  intro g F h
  simp only [E61, List.mem_cons, List.not_mem_nil, or_false] at h
  rcases h with h | h | h
  · cases h; exact w39_lin g39_lin
  · cases h; exact w56_lin g56_lin
  · cases h; exact w53_lin g53_lin
def lv61 : Nat → Bool := lvOf [5]
noncomputable def b61 : Code := Try.f61.body.getD .skip
noncomputable def c61_0 : Code := (.seq (codeAt [0] b61) (.seq (codeAt [1, 0] b61) (.seq (codeAt [1, 1, 0, 0] b61) (.seq (.cond (.tmp 14) (codeAt [1, 1, 0, 1, 0] b61) .skip) (codeAt [1, 1, 1] b61)))))
noncomputable def g61_p0 (R : Type) (t0 : Option (Nat × Nat)) (t1 : Option (Nat × Nat)) (t2_0 : Int) (t2_1 : Int) (t2_2 : Int) (t2_3 : Int) (t2_4 : Int) (t2_5 : Int) (t2_6 : Int) (t2_7 : Sl) (H : Heap) (kN : Heap → Option R) : Option R :=
  g39 R t0 t1 (8 : Int) (0 : Int) (0 : Int) (0 : Int) (0 : Int) (0 : Int) (0 : Int) (Sl.mk none 0 (.ex 0)) H fun h1 =>
  (t1).bind fun q2 =>
  ((h1).ldI .u8 q2.1 (q2.2 + 4)).bind fun x3 =>
  sel (x3 != (4 : Int)) (
    g56 R t0 t1 (0 : Int) (5 : Int) (0 : Int) (0 : Int) t2_6 (Sl.mk none 0 (.ex 0)) h1 fun h4 =>
    g53 R t0 t1 h4 fun h5 =>
    kN h5) (
    g53 R t0 t1 h1 fun h6 =>
    kN h6)
theorem g61_p0_eq {R : Type} (t0 : Option (Nat × Nat)) (t1 : Option (Nat × Nat)) (t2_0 : Int) (t2_1 : Int) (t2_2 : Int) (t2_3 : Int) (t2_4 : Int) (t2_5 : Int) (t2_6 : Int) (t2_7 : Sl) (H : Heap) (K : Ex → Fr → Heap → Option R) : ev2 Try.prog (E61) loopLim lv61 Try.f61.ntmps kp61 c61_0 [(0, (V.p t0)), (1, (V.p t1)), (2, (V.agg [(V.i .u8 t2_0), (V.i .u32 t2_1), (V.i .u32 t2_2), (V.i .u8 t2_3), (V.i .u8 t2_4), (V.i .u8 t2_5), (V.i .u8 t2_6), (V.sl t2_7)]))] H K = g61_p0 R t0 t1 t2_0 t2_1 t2_2 t2_3 t2_4 t2_5 t2_6 t2_7 H (fun H => K .normal [] H) := by kernel_rfl
theorem g61_p0_lin {R S : Type} {k : S → Option R} {t0 : Option (Nat × Nat)} {t1 : Option (Nat × Nat)} {t2_0 : Int} {t2_1 : Int} {t2_2 : Int} {t2_3 : Int} {t2_4 : Int} {t2_5 : Int} {t2_6 : Int} {t2_7 : Sl} {H : Heap} {fkN : Heap → Option R} {gkN : Heap → Option S} (hkN : ∀ H, fkN H = (gkN H).bind k) : g61_p0 R t0 t1 t2_0 t2_1 t2_2 t2_3 t2_4 t2_5 t2_6 t2_7 H fkN = (g61_p0 S t0 t1 t2_0 t2_1 t2_2 t2_3 t2_4 t2_5 t2_6 t2_7 H gkN).bind k := by
  delta g61_p0; exact (
    g39_lin.l fun h1 =>
    bl fun q2 =>
    bl fun x3 =>
    sl_lin (
      g56_lin.l fun h4 =>
      g53_lin.l fun h5 =>
      hkN _) (
      g53_lin.l fun h6 =>
      hkN _))
noncomputable def g61_r : T61 := fun R t0 t1 t2_0 t2_1 t2_2 t2_3 t2_4 t2_5 t2_6 t2_7 H K =>
  g61_p0 R t0 t1 t2_0 t2_1 t2_2 t2_3 t2_4 t2_5 t2_6 t2_7 H (fun H =>
    K  H)
theorem g61_r_lin : Lin61 (g61_r) := by
  constructor
  intro R S k t0 t1 t2_0 t2_1 t2_2 t2_3 t2_4 t2_5 t2_6 t2_7 H f g h
  exact g61_p0_lin (fun H =>
    h _)
theorem g61_fn {R : Type} (t0 : Option (Nat × Nat)) (t1 : Option (Nat × Nat)) (t2_0 : Int) (t2_1 : Int) (t2_2 : Int) (t2_3 : Int) (t2_4 : Int) (t2_5 : Int) (t2_6 : Int) (t2_7 : Sl) (H : Heap) (K : V → Heap → Option R) : evFn2 Try.prog (E61) loopLim lv61 Try.f61 kp61 [(V.p t0), (V.p t1), (V.agg [(V.i .u8 t2_0), (V.i .u32 t2_1), (V.i .u32 t2_2), (V.i .u8 t2_3), (V.i .u8 t2_4), (V.i .u8 t2_5), (V.i .u8 t2_6), (V.sl t2_7)])] H K = g61_r R t0 t1 t2_0 t2_1 t2_2 t2_3 t2_4 t2_5 t2_6 t2_7 H (fun H => K (V.tup []) H) := by
  have h0 : ∀ (H : Heap), kFn2 Try.prog Try.f61.results.toList K .normal [] H =
      K (V.tup []) H := by intros; kernel_rfl
  have e0 := evFn2_code2 (P := Try.prog) (c := c61_0) (E := (E61)) (lr := loopLim) (lv := lv61) (kp := kp61) (fn := Try.f61) (args := [(V.p t0), (V.p t1), (V.agg [(V.i .u8 t2_0), (V.i .u32 t2_1), (V.i .u32 t2_2), (V.i .u8 t2_3), (V.i .u8 t2_4), (V.i .u8 t2_5), (V.i .u8 t2_6), (V.sl t2_7)])]) H K (by kernel_rfl) (Nat.le_of_ble_eq_true (by kernel_rfl)) (by kernel_rfl) (by kernel_rfl)
  have e1 : ev2 Try.prog (E61) loopLim lv61 Try.f61.ntmps kp61 c61_0 (argFr 0 [(V.p t0), (V.p t1), (V.agg [(V.i .u8 t2_0), (V.i .u32 t2_1), (V.i .u32 t2_2), (V.i .u8 t2_3), (V.i .u8 t2_4), (V.i .u8 t2_5), (V.i .u8 t2_6), (V.sl t2_7)])]) H (kFn2 Try.prog Try.f61.results.toList K) = ev2 Try.prog (E61) loopLim lv61 Try.f61.ntmps kp61 c61_0 [(0, (V.p t0)), (1, (V.p t1)), (2, (V.agg [(V.i .u8 t2_0), (V.i .u32 t2_1), (V.i .u32 t2_2), (V.i .u8 t2_3), (V.i .u8 t2_4), (V.i .u8 t2_5), (V.i .u8 t2_6), (V.sl t2_7)]))] H (kFn2 Try.prog Try.f61.results.toList K) := by kernel_rfl
  refine (e0.trans e1).trans ?_
  delta g61_r
  exact (g61_p0_eq t0 t1 t2_0 t2_1 t2_2 t2_3 t2_4 t2_5 t2_6 t2_7 H (kFn2 Try.prog Try.f61.results.toList K)).trans (congrArg (g61_p0 R t0 t1 t2_0 t2_1 t2_2 t2_3 t2_4 t2_5 t2_6 t2_7 H) (funext fun H => h0 H))
theorem g61_ok : FunOK Try.prog 61 (w61 (g61_r)) := by
  refine (runF2_ok (E61_good) mixed lim_ok Try.func61 (by kernel_rfl) lv61 kp61).of_le fun R args H K r hk => ?_
  unfold w61 at hk
  split at hk
  · exact (g61_fn _ _ _ _ _ _ _ _ _ _ H K).trans hk
  · cases hk
noncomputable def g61 : T61 := g61_r
theorem g61_lin : Lin61 g61 := g61_r_lin
theorem ok61 : FunOK Try.prog 61 (w61 g61) := g61_ok
def kp62 : Nat → Option (List Nat) := kpOf [(0, [0, 1]), (1, [0, 1, 10]), (2, []), (300000, []), (400010, [])]
noncomputable def E62 : FEnv := [(53, w53 g53)]
theorem E62_good : EnvGood Try.prog (E62) := ((EnvGood.nil _).cons ok53 (w53_lin g53_lin))
theorem E62_lin : EnvLin (E62) := by
  intro g F h
  simp only [E62, List.mem_cons, List.not_mem_nil, or_false] at h
  rcases h with h
  · cases h; exact w53_lin g53_lin
def lv62 : Nat → Bool := lvOf [5]
noncomputable def b62 : Code := Try.f62.body.getD .skip
noncomputable def c62_0 : Code := (.seq (codeAt [0] b62) (.seq (codeAt [1, 0] b62) (.cond (.tmp 10) (codeAt [1, 1, 0] b62) .skip)))
noncomputable def g62_p0 (R : Type) (t0 : Option (Nat × Nat)) (t1 : Option (Nat × Nat)) (t2_0 : Int) (t2_1 : Int) (t2_2 : Int) (t2_3 : Int) (t2_4 : Int) (t2_5 : Int) (t2_6 : Int) (t2_7 : Sl) (H : Heap) (kN : Heap → Option R) : Option R :=
  (t1).bind fun q1 =>
  ((H).ldI .u8 q1.1 (q1.2 + 4)).bind fun x2 =>
  sel (x2 == (4 : Int)) (
    g53 R t0 t1 H fun h3 =>
    kN h3) (
    kN H)
theorem g62_p0_eq {R : Type} (t0 : Option (Nat × Nat)) (t1 : Option (Nat × Nat)) (t2_0 : Int) (t2_1 : Int) (t2_2 : Int) (t2_3 : Int) (t2_4 : Int) (t2_5 : Int) (t2_6 : Int) (t2_7 : Sl) (H : Heap) (K : Ex → Fr → Heap → Option R) : ev2 Try.prog (E62) loopLim lv62 Try.f62.ntmps kp62 c62_0 [(0, (V.p t0)), (1, (V.p t1)), (2, (V.agg [(V.i .u8 t2_0), (V.i .u32 t2_1), (V.i .u32 t2_2), (V.i .u8 t2_3), (V.i .u8 t2_4), (V.i .u8 t2_5), (V.i .u8 t2_6), (V.sl t2_7)]))] H K = g62_p0 R t0 t1 t2_0 t2_1 t2_2 t2_3 t2_4 t2_5 t2_6 t2_7 H (fun H => K .normal [] H) := by kernel_rfl
theorem g62_p0_lin {R S : Type} {k : S → Option R} {t0 : Option (Nat × Nat)} {t1 : Option (Nat × Nat)} {t2_0 : Int} {t2_1 : Int} {t2_2 : Int} {t2_3 : Int} {t2_4 : Int} {t2_5 : Int} {t2_6 : Int} {t2_7 : Sl} {H : Heap} {fkN : Heap → Option R} {gkN : Heap → Option S} (hkN : ∀ H, fkN H = (gkN H).bind k) : g62_p0 R t0 t1 t2_0 t2_1 t2_2 t2_3 t2_4 t2_5 t2_6 t2_7 H fkN = (g62_p0 S t0 t1 t2_0 t2_1 t2_2 t2_3 t2_4 t2_5 t2_6 t2_7 H gkN).bind k := by
  delta g62_p0; exact (
    bl fun q1 =>
    bl fun x2 =>
    sl_lin (
      g53_lin.l fun h3 =>
      hkN _) (
      hkN _))
noncomputable def g62_r : T62 := fun R t0 t1 t2_0 t2_1 t2_2 t2_3 t2_4 t2_5 t2_6 t2_7 H K =>
  g62_p0 R t0 t1 t2_0 t2_1 t2_2 t2_3 t2_4 t2_5 t2_6 t2_7 H (fun H =>
    K  H)
theorem g62_r_lin : Lin62 (g62_r) := by
  constructor
  intro R S k t0 t1 t2_0 t2_1 t2_2 t2_3 t2_4 t2_5 t2_6 t2_7 H f g h
  exact g62_p0_lin (fun H =>
    h _)
theorem g62_fn {R : Type} (t0 : Option (Nat × Nat)) (t1 : Option (Nat × Nat)) (t2_0 : Int) (t2_1 : Int) (t2_2 : Int) (t2_3 : Int) (t2_4 : Int) (t2_5 : Int) (t2_6 : Int) (t2_7 : Sl) (H : Heap) (K : V → Heap → Option R) : evFn2 Try.prog (E62) loopLim lv62 Try.f62 kp62 [(V.p t0), (V.p t1), (V.agg [(V.i .u8 t2_0), (V.i .u32 t2_1), (V.i .u32 t2_2), (V.i .u8 t2_3), (V.i .u8 t2_4), (V.i .u8 t2_5), (V.i .u8 t2_6), (V.sl t2_7)])] H K = g62_r R t0 t1 t2_0 t2_1 t2_2 t2_3 t2_4 t2_5 t2_6 t2_7 H (fun H => K (V.tup []) H) := by
  have h0 : ∀ (H : Heap), kFn2 Try.prog Try.f62.results.toList K .normal [] H =
      K (V.tup []) H := by intros; kernel_rfl
  have e0 := evFn2_code2 (P := Try.prog) (c := c62_0) (E := (E62)) (lr := loopLim) (lv := lv62) (kp := kp62) (fn := Try.f62) (args := [(V.p t0), (V.p t1), (V.agg [(V.i .u8 t2_0), (V.i .u32 t2_1), (V.i .u32 t2_2), (V.i .u8 t2_3), (V.i .u8 t2_4), (V.i .u8 t2_5), (V.i .u8 t2_6), (V.sl t2_7)])]) H K (by kernel_rfl) (Nat.le_of_ble_eq_true (by kernel_rfl)) (by kernel_rfl) (by kernel_rfl)
  have e1 : ev2 Try.prog (E62) loopLim lv62 Try.f62.ntmps kp62 c62_0 (argFr 0 [(V.p t0), (V.p t1), (V.agg [(V.i .u8 t2_0), (V.i .u32 t2_1), (V.i .u32 t2_2), (V.i .u8 t2_3), (V.i .u8 t2_4), (V.i .u8 t2_5), (V.i .u8 t2_6), (V.sl t2_7)])]) H (kFn2 Try.prog Try.f62.results.toList K) = ev2 Try.prog (E62) loopLim lv62 Try.f62.ntmps kp62 c62_0 [(0, (V.p t0)), (1, (V.p t1)), (2, (V.agg [(V.i .u8 t2_0), (V.i .u32 t2_1), (V.i .u32 t2_2), (V.i .u8 t2_3), (V.i .u8 t2_4), (V.i .u8 t2_5), (V.i .u8 t2_6), (V.sl t2_7)]))] H (kFn2 Try.prog Try.f62.results.toList K) := by kernel_rfl
  refine (e0.trans e1).trans ?_
  delta g62_r
  exact (g62_p0_eq t0 t1 t2_0 t2_1 t2_2 t2_3 t2_4 t2_5 t2_6 t2_7 H (kFn2 Try.prog Try.f62.results.toList K)).trans (congrArg (g62_p0 R t0 t1 t2_0 t2_1 t2_2 t2_3 t2_4 t2_5 t2_6 t2_7 H) (funext fun H => h0 H))
theorem g62_ok : FunOK Try.prog 62 (w62 (g62_r)) := by
  refine (runF2_ok (E62_good) mixed lim_ok Try.func62 (by kernel_rfl) lv62 kp62).of_le fun R args H K r hk => ?_
  unfold w62 at hk
  split at hk
  · exact (g62_fn _ _ _ _ _ _ _ _ _ _ H K).trans hk
  · cases hk
noncomputable def g62 : T62 := g62_r
theorem g62_lin : Lin62 g62 := g62_r_lin
theorem ok62 : FunOK Try.prog 62 (w62 g62) := g62_ok
def kp25 : Nat → Option (List Nat) := kpOf [(0, [0, 1, 5, 500005, 1000005]), (1, [0, 1, 5, 9, 500005, 1000005]), (2, [6]), (3, [0, 1, 5, 13, 500005, 1000005]), (4, [6]), (5, [0, 1, 5, 7, 500005, 1000005]), (6, [0, 1, 5, 7, 19, 500005, 1000005]), (7, [6]), (8, [0, 1, 5, 23, 500005, 1000005]), (9, []), (10, [6]), (11, [0, 1, 5, 8, 500005, 1000005]), (12, [0, 1, 5, 8, 33, 500005, 1000005]), (13, [0, 5, 8, 500005, 1000005]), (14, []), (15, [6]), (16, [0, 1, 5, 47, 500005, 1000005]), (17, [0, 1, 5, 47, 48, 500005, 1000005]), (18, [0, 1, 5, 47, 48, 500005, 1000005]), (19, [0, 1, 5, 47, 48, 500005, 1000005]), (20, [0, 1, 5, 47, 48, 500005, 1000005]), (21, []), (22, [0, 1, 5, 69, 500005, 1000005]), (23, []), (24, [6]), (100000, [0, 1, 5, 500005, 1000005]), (100001, []), (200000, [0, 1, 5, 500005, 1000005]), (200001, [0, 1, 5, 47, 500005, 1000005]), (300000, [6]), (400009, [0, 1, 5, 500005, 1000005]), (400013, [0, 1, 5, 500005, 1000005]), (400019, [0, 1, 5, 500005, 1000005]), (400023, [0, 1, 5, 500005, 1000005]), (400033, [0, 1, 5, 500005, 1000005]), (400048, [0, 1, 5, 47, 48, 500005, 1000005]), (400069, [])]
noncomputable def E25 : FEnv := [(37, w37 g37), (12, w12 g12), (42, w42 g42), (43, w43 g43), (44, w44 g44), (57, w57 g57), (58, w58 g58), (59, w59 g59), (60, w60 g60), (61, w61 g61), (62, w62 g62)]
theorem E25_good : EnvGood Try.prog (E25) := ((((((((((((EnvGood.nil _).cons ok62 (w62_lin g62_lin)).cons ok61 (w61_lin g61_lin)).cons ok60 (w60_lin g60_lin)).cons ok59 (w59_lin g59_lin)).cons ok58 (w58_lin g58_lin)).cons ok57 (w57_lin g57_lin)).cons ok44 (w44_lin g44_lin)).cons ok43 (w43_lin g43_lin)).cons ok42 (w42_lin g42_lin)).cons ok12 (w12_lin g12_lin)).cons ok37 (w37_lin g37_lin))
theorem E25_lin : EnvLin (E25) := by
  intro g F h
  simp only [E25, List.mem_cons, List.not_mem_nil, or_false] at h
  rcases h with h | h | h | h | h | h | h | h | h | h | h
  · cases h; exact w37_lin g37_lin
  · cases h; exact w12_lin g12_lin
  · cases h; exact w42_lin g42_lin
  · cases h; exact w43_lin g43_lin
  · cases h; exact w44_lin g44_lin
  · cases h; exact w57_lin g57_lin
  · cases h; exact w58_lin g58_lin
  · cases h; exact w59_lin g59_lin
  · cases h; exact w60_lin g60_lin
  · cases h; exact w61_lin g61_lin
  · cases h; exact w62_lin g62_lin
def lv25 : Nat → Bool := lvOf [5]
noncomputable def b25 : Code := Try.f25.body.getD .skip
noncomputable def c25_0 : Code := (.cond (.tmp 48) (codeAt [1, 1, 1, 1, 1, 1, 0, 1, 0, 1, 0] b25) (.seq (codeAt [1, 1, 1, 1, 1, 1, 0, 1, 0, 1, 1, 0] b25) (.cond (.tmp 69) (codeAt [1, 1, 1, 1, 1, 1, 0, 1, 0, 1, 1, 1, 0] b25) .skip)))
noncomputable def c25_1 : Code := (.seq (codeAt [1, 1, 1, 1, 1, 1, 0, 1, 0, 0, 0] b25) (.seq (.cond (.tmp 48) .skip (.seq (codeAt [1, 1, 1, 1, 1, 1, 0, 1, 0, 0, 1, 1, 0] b25) (.cond (.tmp 48) .skip (.seq (codeAt [1, 1, 1, 1, 1, 1, 0, 1, 0, 0, 1, 1, 1, 1, 0] b25) (.cond (.tmp 48) .skip (codeAt [1, 1, 1, 1, 1, 1, 0, 1, 0, 0, 1, 1, 1, 1, 1, 1] b25)))))) c25_0))
noncomputable def c25_2 : Code := (.block 1 c25_1)
noncomputable def c25_3 : Code := (.seq (codeAt [1, 1, 1, 1, 1, 1, 1, 0] b25) .ret)
noncomputable def c25_4 : Code := (.seq c25_2 c25_3)
noncomputable def c25_5 : Code := (.seq (codeAt [0] b25) (.seq (.block 0 (.seq (codeAt [1, 0, 0, 0] b25) (.cond (.tmp 9) (.seq (codeAt [1, 0, 0, 1, 0, 0] b25) .ret) (.seq (codeAt [1, 0, 0, 1, 1, 0] b25) (.cond (.tmp 13) (.seq (codeAt [1, 0, 0, 1, 1, 1, 0, 0] b25) .ret) .skip))))) (.seq (codeAt [1, 1, 0, 0] b25) (.seq (codeAt [1, 1, 0, 1, 0] b25) (.seq (.cond (.tmp 19) (.seq (codeAt [1, 1, 0, 1, 1, 0, 0] b25) .ret) .skip) (.seq (codeAt [1, 1, 1, 0, 0] b25) (.seq (.cond (.tmp 23) (.seq (codeAt [1, 1, 1, 0, 1, 0, 0] b25) (.seq (codeAt [1, 1, 1, 0, 1, 0, 1, 0] b25) .ret)) .skip) (.seq (codeAt [1, 1, 1, 1, 0] b25) (.seq (codeAt [1, 1, 1, 1, 1, 0, 0] b25) (.seq (.cond (.tmp 33) (.seq (codeAt [1, 1, 1, 1, 1, 0, 1, 0, 0] b25) (.seq (codeAt [1, 1, 1, 1, 1, 0, 1, 0, 1, 0] b25) (.seq (codeAt [1, 1, 1, 1, 1, 0, 1, 0, 1, 1, 0] b25) .ret))) .skip) (.seq (codeAt [1, 1, 1, 1, 1, 1, 0, 0] b25) c25_4)))))))))))
noncomputable def g25_p0 (R : Type) (t0 : Option (Nat × Nat)) (t1 : Int) (t2_0 : Int) (t2_1 : Int) (t2_2 : Int) (t2_3 : Int) (t2_4 : Int) (t2_5 : Int) (t2_6 : Int) (t2_7 : Sl) (H : Heap) (kN : Option (Nat × Nat) → Int → Int → Int → Int → Int → Int → Int → Int → Int → Sl → Heap → Option R) (kR : Int → Heap → Option R) : Option R :=
  g37 R t0 H fun x164 h165 =>
  sel (!x164) (
    kR (2 : Int) h165) (
    sel (decide (t1 > (16383 : Int))) (
      kR (1 : Int) h165) (
      g12 R t2_0 t2_1 t2_2 t2_3 t2_4 t2_5 t2_6 t2_7 h165 fun x166 h167 =>
      sel (x166 != (0 : Int)) (
        kR x166 h167) (
        sel (t2_0 == (1 : Int)) (
          g42 R t0 t1 t2_0 t2_1 t2_2 t2_3 t2_4 t2_5 t2_6 t2_7 h167 fun h168 =>
          kR (0 : Int) h168) (
          g43 R t0 t1 t2_0 t2_1 t2_2 t2_3 t2_4 t2_5 t2_6 t2_7 h167 fun x169 h170 =>
          sel (!(Option.isNone x169)) (
            (x169).bind fun q171 =>
            ((h170).st q171.1 ((q171.2 + 5) + 1) (V.i .i64 (0 : Int))).bind fun h173 =>
            g44 R h173 fun x174 h175 =>
            ((getMap h175 x174)).bind fun m176 =>
            ((findE Try.prog 22 (V.i .u8 t2_0) m176.1 0)).bind fun q177 =>
            fnd q177 (fun j178 x179 =>
              if (V.one x179) = true then (
                callV (E25) x179 [(V.p t0), (V.p x169), (V.agg [(V.i .u8 t2_0), (V.i .u32 t2_1), (V.i .u32 t2_2), (V.i .u8 t2_3), (V.i .u8 t2_4), (V.i .u8 t2_5), (V.i .u8 t2_6), (V.sl t2_7)])] h175 fun x180 h181 =>
                exR Try.prog 0 x180 fun x182 =>
                kR (0 : Int) h181)
              else (
                none)) (
              none)) (
            kN t0 t1 t2_0 t2_0 t2_1 t2_2 t2_3 t2_4 t2_5 t2_6 t2_7 h170)))))
theorem g25_p0_eq {R : Type} (c2 : Code) (t0 : Option (Nat × Nat)) (t1 : Int) (t2_0 : Int) (t2_1 : Int) (t2_2 : Int) (t2_3 : Int) (t2_4 : Int) (t2_5 : Int) (t2_6 : Int) (t2_7 : Sl) (H : Heap) (K : Ex → Fr → Heap → Option R) : ev2 Try.prog (E25) loopLim lv25 Try.f25.ntmps kp25 (.seq (codeAt [0] b25) (.seq (.block 0 (.seq (codeAt [1, 0, 0, 0] b25) (.cond (.tmp 9) (.seq (codeAt [1, 0, 0, 1, 0, 0] b25) .ret) (.seq (codeAt [1, 0, 0, 1, 1, 0] b25) (.cond (.tmp 13) (.seq (codeAt [1, 0, 0, 1, 1, 1, 0, 0] b25) .ret) .skip))))) (.seq (codeAt [1, 1, 0, 0] b25) (.seq (codeAt [1, 1, 0, 1, 0] b25) (.seq (.cond (.tmp 19) (.seq (codeAt [1, 1, 0, 1, 1, 0, 0] b25) .ret) .skip) (.seq (codeAt [1, 1, 1, 0, 0] b25) (.seq (.cond (.tmp 23) (.seq (codeAt [1, 1, 1, 0, 1, 0, 0] b25) (.seq (codeAt [1, 1, 1, 0, 1, 0, 1, 0] b25) .ret)) .skip) (.seq (codeAt [1, 1, 1, 1, 0] b25) (.seq (codeAt [1, 1, 1, 1, 1, 0, 0] b25) (.seq (.cond (.tmp 33) (.seq (codeAt [1, 1, 1, 1, 1, 0, 1, 0, 0] b25) (.seq (codeAt [1, 1, 1, 1, 1, 0, 1, 0, 1, 0] b25) (.seq (codeAt [1, 1, 1, 1, 1, 0, 1, 0, 1, 1, 0] b25) .ret))) .skip) (.seq (codeAt [1, 1, 1, 1, 1, 1, 0, 0] b25) c2))))))))))) [(0, (V.p t0)), (1, (V.i .u16 t1)), (2, (V.agg [(V.i .u8 t2_0), (V.i .u32 t2_1), (V.i .u32 t2_2), (V.i .u8 t2_3), (V.i .u8 t2_4), (V.i .u8 t2_5), (V.i .u8 t2_6), (V.sl t2_7)]))] H K = g25_p0 R t0 t1 t2_0 t2_1 t2_2 t2_3 t2_4 t2_5 t2_6 t2_7 H (fun t0 t1 t47 t500005_0 t500005_1 t500005_2 t500005_3 t500005_4 t500005_5 t500005_6 t500005_7 H => ev2 Try.prog (E25) loopLim lv25 Try.f25.ntmps kp25 c2 [(0, (V.p t0)), (1, (V.i .u16 t1)), (47, (V.i .u8 t47)), (500005, (V.agg [(V.i .u8 t500005_0), (V.i .u32 t500005_1), (V.i .u32 t500005_2), (V.i .u8 t500005_3), (V.i .u8 t500005_4), (V.i .u8 t500005_5), (V.i .u8 t500005_6), (V.sl t500005_7)])), (1000005, (V.p (some (5, 0))))] H K) (fun t6 H => K .ret [(6, (V.i .i64 t6))] H) := by kernel_rfl
theorem g25_p0_lin {R S : Type} {k : S → Option R} {t0 : Option (Nat × Nat)} {t1 : Int} {t2_0 : Int} {t2_1 : Int} {t2_2 : Int} {t2_3 : Int} {t2_4 : Int} {t2_5 : Int} {t2_6 : Int} {t2_7 : Sl} {H : Heap} {fkN : Option (Nat × Nat) → Int → Int → Int → Int → Int → Int → Int → Int → Int → Sl → Heap → Option R} {gkN : Option (Nat × Nat) → Int → Int → Int → Int → Int → Int → Int → Int → Int → Sl → Heap → Option S} {fkR : Int → Heap → Option R} {gkR : Int → Heap → Option S} (hkN : ∀ t0 t1 t47 t500005_0 t500005_1 t500005_2 t500005_3 t500005_4 t500005_5 t500005_6 t500005_7 H, fkN t0 t1 t47 t500005_0 t500005_1 t500005_2 t500005_3 t500005_4 t500005_5 t500005_6 t500005_7 H = (gkN t0 t1 t47 t500005_0 t500005_1 t500005_2 t500005_3 t500005_4 t500005_5 t500005_6 t500005_7 H).bind k) (hkR : ∀ t6 H, fkR t6 H = (gkR t6 H).bind k) : g25_p0 R t0 t1 t2_0 t2_1 t2_2 t2_3 t2_4 t2_5 t2_6 t2_7 H fkN fkR = (g25_p0 S t0 t1 t2_0 t2_1 t2_2 t2_3 t2_4 t2_5 t2_6 t2_7 H gkN gkR).bind k := by
  delta g25_p0
  repeat' (first | with_reducible (first | exact hkR _ _ | exact hkN _ _ _ _ _ _ _ _ _ _ _ _ | refine g37_lin.l fun _ _ => ?_ | refine sl_lin ?_ ?_ | refine g12_lin.l fun _ _ => ?_ | refine g42_lin.l fun _ => ?_ | refine g43_lin.l fun _ _ => ?_ | refine g44_lin.l fun _ _ => ?_ | refine fnd_lin (fun _ _ => ?_) ?_ | refine il ?_ ?_ | refine callV_lin (E25_lin) fun _ _ => ?_ | refine exR_lin fun _ => ?_ | refine bl fun _ => ?_) | exact (rfl : (none : Option R) = (none : Option S).bind k))
noncomputable def g25_p1 (R : Type) (t0 : Option (Nat × Nat)) (t1 : Int) (t47 : Int) (t500005_0 : Int) (t500005_1 : Int) (t500005_2 : Int) (t500005_3 : Int) (t500005_4 : Int) (t500005_5 : Int) (t500005_6 : Int) (t500005_7 : Sl) (H : Heap) (kN : Option (Nat × Nat) → Int → Int → Bool → Int → Int → Int → Int → Int → Int → Int → Sl → Heap → Option R) : Option R :=
  sel (t47 == (2 : Int)) (
    kN t0 t1 t47 (t47 == (2 : Int)) t500005_0 t500005_1 t500005_2 t500005_3 t500005_4 t500005_5 t500005_6 t500005_7 H) (
    sel (t47 == (4 : Int)) (
      kN t0 t1 t47 (t47 == (4 : Int)) t500005_0 t500005_1 t500005_2 t500005_3 t500005_4 t500005_5 t500005_6 t500005_7 H) (
      sel (t47 == (5 : Int)) (
        kN t0 t1 t47 (t47 == (5 : Int)) t500005_0 t500005_1 t500005_2 t500005_3 t500005_4 t500005_5 t500005_6 t500005_7 H) (
        kN t0 t1 t47 (t47 == (6 : Int)) t500005_0 t500005_1 t500005_2 t500005_3 t500005_4 t500005_5 t500005_6 t500005_7 H)))
theorem g25_p1_eq {R : Type} (c2 : Code) (t0 : Option (Nat × Nat)) (t1 : Int) (t47 : Int) (t500005_0 : Int) (t500005_1 : Int) (t500005_2 : Int) (t500005_3 : Int) (t500005_4 : Int) (t500005_5 : Int) (t500005_6 : Int) (t500005_7 : Sl) (H : Heap) (K : Ex → Fr → Heap → Option R) : ev2 Try.prog (E25) loopLim lv25 Try.f25.ntmps kp25 (.seq (codeAt [1, 1, 1, 1, 1, 1, 0, 1, 0, 0, 0] b25) (.seq (.cond (.tmp 48) .skip (.seq (codeAt [1, 1, 1, 1, 1, 1, 0, 1, 0, 0, 1, 1, 0] b25) (.cond (.tmp 48) .skip (.seq (codeAt [1, 1, 1, 1, 1, 1, 0, 1, 0, 0, 1, 1, 1, 1, 0] b25) (.cond (.tmp 48) .skip (codeAt [1, 1, 1, 1, 1, 1, 0, 1, 0, 0, 1, 1, 1, 1, 1, 1] b25)))))) c2)) [(0, (V.p t0)), (1, (V.i .u16 t1)), (47, (V.i .u8 t47)), (500005, (V.agg [(V.i .u8 t500005_0), (V.i .u32 t500005_1), (V.i .u32 t500005_2), (V.i .u8 t500005_3), (V.i .u8 t500005_4), (V.i .u8 t500005_5), (V.i .u8 t500005_6), (V.sl t500005_7)])), (1000005, (V.p (some (5, 0))))] H K = g25_p1 R t0 t1 t47 t500005_0 t500005_1 t500005_2 t500005_3 t500005_4 t500005_5 t500005_6 t500005_7 H (fun t0 t1 t47 t48 t500005_0 t500005_1 t500005_2 t500005_3 t500005_4 t500005_5 t500005_6 t500005_7 H => ev2 Try.prog (E25) loopLim lv25 Try.f25.ntmps kp25 c2 [(0, (V.p t0)), (1, (V.i .u16 t1)), (47, (V.i .u8 t47)), (48, (V.b t48)), (500005, (V.agg [(V.i .u8 t500005_0), (V.i .u32 t500005_1), (V.i .u32 t500005_2), (V.i .u8 t500005_3), (V.i .u8 t500005_4), (V.i .u8 t500005_5), (V.i .u8 t500005_6), (V.sl t500005_7)])), (1000005, (V.p (some (5, 0))))] H K) := by kernel_rfl
theorem g25_p1_lin {R S : Type} {k : S → Option R} {t0 : Option (Nat × Nat)} {t1 : Int} {t47 : Int} {t500005_0 : Int} {t500005_1 : Int} {t500005_2 : Int} {t500005_3 : Int} {t500005_4 : Int} {t500005_5 : Int} {t500005_6 : Int} {t500005_7 : Sl} {H : Heap} {fkN : Option (Nat × Nat) → Int → Int → Bool → Int → Int → Int → Int → Int → Int → Int → Sl → Heap → Option R} {gkN : Option (Nat × Nat) → Int → Int → Bool → Int → Int → Int → Int → Int → Int → Int → Sl → Heap → Option S} (hkN : ∀ t0 t1 t47 t48 t500005_0 t500005_1 t500005_2 t500005_3 t500005_4 t500005_5 t500005_6 t500005_7 H, fkN t0 t1 t47 t48 t500005_0 t500005_1 t500005_2 t500005_3 t500005_4 t500005_5 t500005_6 t500005_7 H = (gkN t0 t1 t47 t48 t500005_0 t500005_1 t500005_2 t500005_3 t500005_4 t500005_5 t500005_6 t500005_7 H).bind k) : g25_p1 R t0 t1 t47 t500005_0 t500005_1 t500005_2 t500005_3 t500005_4 t500005_5 t500005_6 t500005_7 H fkN = (g25_p1 S t0 t1 t47 t500005_0 t500005_1 t500005_2 t500005_3 t500005_4 t500005_5 t500005_6 t500005_7 H gkN).bind k := by
  delta g25_p1; exact (
    sl_lin (
      hkN _ _ _ _ _ _ _ _ _ _ _ _ _) (
      sl_lin (
        hkN _ _ _ _ _ _ _ _ _ _ _ _ _) (
        sl_lin (
          hkN _ _ _ _ _ _ _ _ _ _ _ _ _) (
          hkN _ _ _ _ _ _ _ _ _ _ _ _ _))))
noncomputable def g25_p2 (R : Type) (t0 : Option (Nat × Nat)) (t1 : Int) (t47 : Int) (t48 : Bool) (t500005_0 : Int) (t500005_1 : Int) (t500005_2 : Int) (t500005_3 : Int) (t500005_4 : Int) (t500005_5 : Int) (t500005_6 : Int) (t500005_7 : Sl) (H : Heap) (kN : Heap → Option R) : Option R :=
  sel t48 (
    (t0).bind fun q642 =>
    ((H).ldSl q642.1 (q642.2 + 7)).bind fun x643 =>
    alo H (.cells [(V.i .u16 t1), (V.i .u8 (7 : Int)), (V.i .u32 t500005_2), (V.i .u32 t500005_1), (V.i .u8 (0 : Int)), (V.i .u8 (0 : Int)), (V.i .u8 (0 : Int)), (V.i .u8 (4 : Int)), (V.sl (Sl.mk none 0 (.ex 0)))] 71 false) fun i644 h645 =>
    ((h645).ldSl q642.1 (q642.2 + 7)).bind fun x646 =>
    if V.same (V.sl x643) (V.sl x646) = true then (
      ((slCells h645 9 (Sl.mk (some (i644, 0)) 1 (.ex 1)))).bind fun vs649 =>
      appendV h645 71 9 48 x643 (Sl.mk (some (i644, 0)) 1 (.ex 1)).len vs649 fun s647 h648 =>
      (t0).bind fun q650 =>
      ((h648).st q650.1 (q650.2 + 7) (V.sl s647)).bind fun h652 =>
      kN h652)
    else (
      none)) (
    sel (t47 == (7 : Int)) (
      (t0).bind fun q653 =>
      ((H).ldSl q653.1 (q653.2 + 7)).bind fun x654 =>
      alo H (.cells [(V.i .u16 t1), (V.i .u8 (8 : Int)), (V.i .u32 t500005_2), (V.i .u32 t500005_1), (V.i .u8 (0 : Int)), (V.i .u8 (0 : Int)), (V.i .u8 (0 : Int)), (V.i .u8 (0 : Int)), (V.sl (Sl.mk none 0 (.ex 0)))] 71 false) fun i655 h656 =>
      ((h656).ldSl q653.1 (q653.2 + 7)).bind fun x657 =>
      if V.same (V.sl x654) (V.sl x657) = true then (
        ((slCells h656 9 (Sl.mk (some (i655, 0)) 1 (.ex 1)))).bind fun vs660 =>
        appendV h656 71 9 48 x654 (Sl.mk (some (i655, 0)) 1 (.ex 1)).len vs660 fun s658 h659 =>
        (t0).bind fun q661 =>
        ((h659).st q661.1 (q661.2 + 7) (V.sl s658)).bind fun h663 =>
        kN h663)
      else (
        none)) (
      kN H))
theorem g25_p2_eq {R : Type} (t0 : Option (Nat × Nat)) (t1 : Int) (t47 : Int) (t48 : Bool) (t500005_0 : Int) (t500005_1 : Int) (t500005_2 : Int) (t500005_3 : Int) (t500005_4 : Int) (t500005_5 : Int) (t500005_6 : Int) (t500005_7 : Sl) (H : Heap) (K : Ex → Fr → Heap → Option R) : ev2 Try.prog (E25) loopLim lv25 Try.f25.ntmps kp25 c25_0 [(0, (V.p t0)), (1, (V.i .u16 t1)), (47, (V.i .u8 t47)), (48, (V.b t48)), (500005, (V.agg [(V.i .u8 t500005_0), (V.i .u32 t500005_1), (V.i .u32 t500005_2), (V.i .u8 t500005_3), (V.i .u8 t500005_4), (V.i .u8 t500005_5), (V.i .u8 t500005_6), (V.sl t500005_7)])), (1000005, (V.p (some (5, 0))))] H K = g25_p2 R t0 t1 t47 t48 t500005_0 t500005_1 t500005_2 t500005_3 t500005_4 t500005_5 t500005_6 t500005_7 H (fun H => K .normal [] H) := by kernel_rfl
theorem g25_p2_lin {R S : Type} {k : S → Option R} {t0 : Option (Nat × Nat)} {t1 : Int} {t47 : Int} {t48 : Bool} {t500005_0 : Int} {t500005_1 : Int} {t500005_2 : Int} {t500005_3 : Int} {t500005_4 : Int} {t500005_5 : Int} {t500005_6 : Int} {t500005_7 : Sl} {H : Heap} {fkN : Heap → Option R} {gkN : Heap → Option S} (hkN : ∀ H, fkN H = (gkN H).bind k) : g25_p2 R t0 t1 t47 t48 t500005_0 t500005_1 t500005_2 t500005_3 t500005_4 t500005_5 t500005_6 t500005_7 H fkN = (g25_p2 S t0 t1 t47 t48 t500005_0 t500005_1 t500005_2 t500005_3 t500005_4 t500005_5 t500005_6 t500005_7 H gkN).bind k := by
  delta g25_p2
  repeat' (first | with_reducible (first | exact hkN _ | refine sl_lin ?_ ?_ | refine alo_lin fun _ _ => ?_ | refine il ?_ ?_ | refine appendV_lin fun _ _ => ?_ | refine bl fun _ => ?_) | exact (rfl : (none : Option R) = (none : Option S).bind k))
noncomputable def g25_p3 (R : Type) (t0 : Option (Nat × Nat)) (t1 : Int) (t47 : Int) (t500005_0 : Int) (t500005_1 : Int) (t500005_2 : Int) (t500005_3 : Int) (t500005_4 : Int) (t500005_5 : Int) (t500005_6 : Int) (t500005_7 : Sl) (H : Heap) (kN : Heap → Option R) : Option R :=
  g25_p1 R t0 t1 t47 t500005_0 t500005_1 t500005_2 t500005_3 t500005_4 t500005_5 t500005_6 t500005_7 H (fun t0 t1 t47 t48 t500005_0 t500005_1 t500005_2 t500005_3 t500005_4 t500005_5 t500005_6 t500005_7 H => g25_p2 R t0 t1 t47 t48 t500005_0 t500005_1 t500005_2 t500005_3 t500005_4 t500005_5 t500005_6 t500005_7 H (fun H => kN  H))
theorem g25_p3_lin {R S : Type} {k : S → Option R} {t0 : Option (Nat × Nat)} {t1 : Int} {t47 : Int} {t500005_0 : Int} {t500005_1 : Int} {t500005_2 : Int} {t500005_3 : Int} {t500005_4 : Int} {t500005_5 : Int} {t500005_6 : Int} {t500005_7 : Sl} {H : Heap} {fkN : Heap → Option R} {gkN : Heap → Option S} (hkN : ∀ H, fkN H = (gkN H).bind k) : g25_p3 R t0 t1 t47 t500005_0 t500005_1 t500005_2 t500005_3 t500005_4 t500005_5 t500005_6 t500005_7 H fkN = (g25_p3 S t0 t1 t47 t500005_0 t500005_1 t500005_2 t500005_3 t500005_4 t500005_5 t500005_6 t500005_7 H gkN).bind k := by
  exact g25_p1_lin (fun _ _ _ _ _ _ _ _ _ _ _ _ _ => g25_p2_lin (fun _ => hkN _))
theorem g25_p3_eq {R : Type} (t0 : Option (Nat × Nat)) (t1 : Int) (t47 : Int) (t500005_0 : Int) (t500005_1 : Int) (t500005_2 : Int) (t500005_3 : Int) (t500005_4 : Int) (t500005_5 : Int) (t500005_6 : Int) (t500005_7 : Sl) (H : Heap) (K : Ex → Fr → Heap → Option R) : ev2 Try.prog (E25) loopLim lv25 Try.f25.ntmps kp25 c25_1 [(0, (V.p t0)), (1, (V.i .u16 t1)), (47, (V.i .u8 t47)), (500005, (V.agg [(V.i .u8 t500005_0), (V.i .u32 t500005_1), (V.i .u32 t500005_2), (V.i .u8 t500005_3), (V.i .u8 t500005_4), (V.i .u8 t500005_5), (V.i .u8 t500005_6), (V.sl t500005_7)])), (1000005, (V.p (some (5, 0))))] H K = g25_p3 R t0 t1 t47 t500005_0 t500005_1 t500005_2 t500005_3 t500005_4 t500005_5 t500005_6 t500005_7 H (fun H => K .normal [] H) := by
  delta c25_1
  delta g25_p3
  exact (g25_p1_eq _ t0 t1 t47 t500005_0 t500005_1 t500005_2 t500005_3 t500005_4 t500005_5 t500005_6 t500005_7 H K).trans (congrArg (g25_p1 R t0 t1 t47 t500005_0 t500005_1 t500005_2 t500005_3 t500005_4 t500005_5 t500005_6 t500005_7 H) (funext fun t0 => funext fun t1 => funext fun t47 => funext fun t48 => funext fun t500005_0 => funext fun t500005_1 => funext fun t500005_2 => funext fun t500005_3 => funext fun t500005_4 => funext fun t500005_5 => funext fun t500005_6 => funext fun t500005_7 => funext fun H => g25_p2_eq t0 t1 t47 t48 t500005_0 t500005_1 t500005_2 t500005_3 t500005_4 t500005_5 t500005_6 t500005_7 H K))
noncomputable def g25_p4 (R : Type) (t0 : Option (Nat × Nat)) (t1 : Int) (t47 : Int) (t500005_0 : Int) (t500005_1 : Int) (t500005_2 : Int) (t500005_3 : Int) (t500005_4 : Int) (t500005_5 : Int) (t500005_6 : Int) (t500005_7 : Sl) (H : Heap) (kN : Heap → Option R) : Option R :=
  g25_p3 R t0 t1 t47 t500005_0 t500005_1 t500005_2 t500005_3 t500005_4 t500005_5 t500005_6 t500005_7 H (fun H => kN  H)
theorem g25_p4_lin {R S : Type} {k : S → Option R} {t0 : Option (Nat × Nat)} {t1 : Int} {t47 : Int} {t500005_0 : Int} {t500005_1 : Int} {t500005_2 : Int} {t500005_3 : Int} {t500005_4 : Int} {t500005_5 : Int} {t500005_6 : Int} {t500005_7 : Sl} {H : Heap} {fkN : Heap → Option R} {gkN : Heap → Option S} (hkN : ∀ H, fkN H = (gkN H).bind k) : g25_p4 R t0 t1 t47 t500005_0 t500005_1 t500005_2 t500005_3 t500005_4 t500005_5 t500005_6 t500005_7 H fkN = (g25_p4 S t0 t1 t47 t500005_0 t500005_1 t500005_2 t500005_3 t500005_4 t500005_5 t500005_6 t500005_7 H gkN).bind k := by
  exact g25_p3_lin (fun _ => hkN _)
theorem g25_p4_eq {R : Type} (t0 : Option (Nat × Nat)) (t1 : Int) (t47 : Int) (t500005_0 : Int) (t500005_1 : Int) (t500005_2 : Int) (t500005_3 : Int) (t500005_4 : Int) (t500005_5 : Int) (t500005_6 : Int) (t500005_7 : Sl) (H : Heap) (K : Ex → Fr → Heap → Option R) : ev2 Try.prog (E25) loopLim lv25 Try.f25.ntmps kp25 c25_2 [(0, (V.p t0)), (1, (V.i .u16 t1)), (47, (V.i .u8 t47)), (500005, (V.agg [(V.i .u8 t500005_0), (V.i .u32 t500005_1), (V.i .u32 t500005_2), (V.i .u8 t500005_3), (V.i .u8 t500005_4), (V.i .u8 t500005_5), (V.i .u8 t500005_6), (V.sl t500005_7)])), (1000005, (V.p (some (5, 0))))] H K = g25_p4 R t0 t1 t47 t500005_0 t500005_1 t500005_2 t500005_3 t500005_4 t500005_5 t500005_6 t500005_7 H (fun H => K .normal [] H) := by
  delta c25_2
  rw [ev2_block]
  delta g25_p4
  exact (g25_p3_eq t0 t1 t47 t500005_0 t500005_1 t500005_2 t500005_3 t500005_4 t500005_5 t500005_6 t500005_7 H (kBlock kp25 1 K))
noncomputable def g25_p5 (R : Type) (H : Heap) (kR : Int → Heap → Option R) : Option R :=
  kR (0 : Int) H
theorem g25_p5_eq {R : Type} (H : Heap) (K : Ex → Fr → Heap → Option R) : ev2 Try.prog (E25) loopLim lv25 Try.f25.ntmps kp25 c25_3 [] H K = g25_p5 R H (fun t6 H => K .ret [(6, (V.i .i64 t6))] H) := by kernel_rfl
theorem g25_p5_lin {R S : Type} {k : S → Option R} {H : Heap} {fkR : Int → Heap → Option R} {gkR : Int → Heap → Option S} (hkR : ∀ t6 H, fkR t6 H = (gkR t6 H).bind k) : g25_p5 R H fkR = (g25_p5 S H gkR).bind k := by
  delta g25_p5; exact (
    hkR _ _)
noncomputable def g25_p6 (R : Type) (t0 : Option (Nat × Nat)) (t1 : Int) (t47 : Int) (t500005_0 : Int) (t500005_1 : Int) (t500005_2 : Int) (t500005_3 : Int) (t500005_4 : Int) (t500005_5 : Int) (t500005_6 : Int) (t500005_7 : Sl) (H : Heap) (kR : Int → Heap → Option R) : Option R :=
  g25_p4 R t0 t1 t47 t500005_0 t500005_1 t500005_2 t500005_3 t500005_4 t500005_5 t500005_6 t500005_7 H (fun H => g25_p5 R H (fun t6 H => kR t6 H))
theorem g25_p6_lin {R S : Type} {k : S → Option R} {t0 : Option (Nat × Nat)} {t1 : Int} {t47 : Int} {t500005_0 : Int} {t500005_1 : Int} {t500005_2 : Int} {t500005_3 : Int} {t500005_4 : Int} {t500005_5 : Int} {t500005_6 : Int} {t500005_7 : Sl} {H : Heap} {fkR : Int → Heap → Option R} {gkR : Int → Heap → Option S} (hkR : ∀ t6 H, fkR t6 H = (gkR t6 H).bind k) : g25_p6 R t0 t1 t47 t500005_0 t500005_1 t500005_2 t500005_3 t500005_4 t500005_5 t500005_6 t500005_7 H fkR = (g25_p6 S t0 t1 t47 t500005_0 t500005_1 t500005_2 t500005_3 t500005_4 t500005_5 t500005_6 t500005_7 H gkR).bind k := by
  exact g25_p4_lin (fun _ => g25_p5_lin (fun _ _ => hkR _ _))
theorem g25_p6_eq {R : Type} (t0 : Option (Nat × Nat)) (t1 : Int) (t47 : Int) (t500005_0 : Int) (t500005_1 : Int) (t500005_2 : Int) (t500005_3 : Int) (t500005_4 : Int) (t500005_5 : Int) (t500005_6 : Int) (t500005_7 : Sl) (H : Heap) (K : Ex → Fr → Heap → Option R) : ev2 Try.prog (E25) loopLim lv25 Try.f25.ntmps kp25 c25_4 [(0, (V.p t0)), (1, (V.i .u16 t1)), (47, (V.i .u8 t47)), (500005, (V.agg [(V.i .u8 t500005_0), (V.i .u32 t500005_1), (V.i .u32 t500005_2), (V.i .u8 t500005_3), (V.i .u8 t500005_4), (V.i .u8 t500005_5), (V.i .u8 t500005_6), (V.sl t500005_7)])), (1000005, (V.p (some (5, 0))))] H K = g25_p6 R t0 t1 t47 t500005_0 t500005_1 t500005_2 t500005_3 t500005_4 t500005_5 t500005_6 t500005_7 H (fun t6 H => K .ret [(6, (V.i .i64 t6))] H) := by
  delta c25_4
  rw [ev2_seq]
  delta g25_p6
  exact (g25_p4_eq t0 t1 t47 t500005_0 t500005_1 t500005_2 t500005_3 t500005_4 t500005_5 t500005_6 t500005_7 H (kSeq (fun fr H => ev2 Try.prog (E25) loopLim lv25 Try.f25.ntmps kp25 c25_3 fr H K) K)).trans (congrArg (g25_p4 R t0 t1 t47 t500005_0 t500005_1 t500005_2 t500005_3 t500005_4 t500005_5 t500005_6 t500005_7 H) (funext fun H => (kSeq_n _ _ _ _).trans (g25_p5_eq H K)))
noncomputable def g25_p7 (R : Type) (t0 : Option (Nat × Nat)) (t1 : Int) (t2_0 : Int) (t2_1 : Int) (t2_2 : Int) (t2_3 : Int) (t2_4 : Int) (t2_5 : Int) (t2_6 : Int) (t2_7 : Sl) (H : Heap) (kR : Int → Heap → Option R) : Option R :=
  g25_p0 R t0 t1 t2_0 t2_1 t2_2 t2_3 t2_4 t2_5 t2_6 t2_7 H (fun t0 t1 t47 t500005_0 t500005_1 t500005_2 t500005_3 t500005_4 t500005_5 t500005_6 t500005_7 H => g25_p6 R t0 t1 t47 t500005_0 t500005_1 t500005_2 t500005_3 t500005_4 t500005_5 t500005_6 t500005_7 H (fun t6 H => kR t6 H)) (fun t6 H => kR t6 H)
theorem g25_p7_lin {R S : Type} {k : S → Option R} {t0 : Option (Nat × Nat)} {t1 : Int} {t2_0 : Int} {t2_1 : Int} {t2_2 : Int} {t2_3 : Int} {t2_4 : Int} {t2_5 : Int} {t2_6 : Int} {t2_7 : Sl} {H : Heap} {fkR : Int → Heap → Option R} {gkR : Int → Heap → Option S} (hkR : ∀ t6 H, fkR t6 H = (gkR t6 H).bind k) : g25_p7 R t0 t1 t2_0 t2_1 t2_2 t2_3 t2_4 t2_5 t2_6 t2_7 H fkR = (g25_p7 S t0 t1 t2_0 t2_1 t2_2 t2_3 t2_4 t2_5 t2_6 t2_7 H gkR).bind k := by
  exact g25_p0_lin (fun _ _ _ _ _ _ _ _ _ _ _ _ => g25_p6_lin (fun _ _ => hkR _ _)) (fun _ _ => hkR _ _)
theorem g25_p7_eq {R : Type} (t0 : Option (Nat × Nat)) (t1 : Int) (t2_0 : Int) (t2_1 : Int) (t2_2 : Int) (t2_3 : Int) (t2_4 : Int) (t2_5 : Int) (t2_6 : Int) (t2_7 : Sl) (H : Heap) (K : Ex → Fr → Heap → Option R) : ev2 Try.prog (E25) loopLim lv25 Try.f25.ntmps kp25 c25_5 [(0, (V.p t0)), (1, (V.i .u16 t1)), (2, (V.agg [(V.i .u8 t2_0), (V.i .u32 t2_1), (V.i .u32 t2_2), (V.i .u8 t2_3), (V.i .u8 t2_4), (V.i .u8 t2_5), (V.i .u8 t2_6), (V.sl t2_7)]))] H K = g25_p7 R t0 t1 t2_0 t2_1 t2_2 t2_3 t2_4 t2_5 t2_6 t2_7 H (fun t6 H => K .ret [(6, (V.i .i64 t6))] H) := by
  delta c25_5
  delta g25_p7
  exact (g25_p0_eq _ t0 t1 t2_0 t2_1 t2_2 t2_3 t2_4 t2_5 t2_6 t2_7 H K).trans (congr (congrArg (g25_p0 R t0 t1 t2_0 t2_1 t2_2 t2_3 t2_4 t2_5 t2_6 t2_7 H) (funext fun t0 => funext fun t1 => funext fun t47 => funext fun t500005_0 => funext fun t500005_1 => funext fun t500005_2 => funext fun t500005_3 => funext fun t500005_4 => funext fun t500005_5 => funext fun t500005_6 => funext fun t500005_7 => funext fun H => g25_p6_eq t0 t1 t47 t500005_0 t500005_1 t500005_2 t500005_3 t500005_4 t500005_5 t500005_6 t500005_7 H K)) rfl)
noncomputable def g25_r : T25 := fun R t0 t1 t2_0 t2_1 t2_2 t2_3 t2_4 t2_5 t2_6 t2_7 H K =>
  g25_p7 R t0 t1 t2_0 t2_1 t2_2 t2_3 t2_4 t2_5 t2_6 t2_7 H (fun t6 H =>
    K t6 H)
theorem g25_r_lin : Lin25 (g25_r) := by
  constructor
  intro R S k t0 t1 t2_0 t2_1 t2_2 t2_3 t2_4 t2_5 t2_6 t2_7 H f g h
  exact g25_p7_lin (fun t6 H =>
    h _ _)
theorem g25_fn {R : Type} (t0 : Option (Nat × Nat)) (t1 : Int) (t2_0 : Int) (t2_1 : Int) (t2_2 : Int) (t2_3 : Int) (t2_4 : Int) (t2_5 : Int) (t2_6 : Int) (t2_7 : Sl) (H : Heap) (K : V → Heap → Option R) : evFn2 Try.prog (E25) loopLim lv25 Try.f25 kp25 [(V.p t0), (V.i .u16 t1), (V.agg [(V.i .u8 t2_0), (V.i .u32 t2_1), (V.i .u32 t2_2), (V.i .u8 t2_3), (V.i .u8 t2_4), (V.i .u8 t2_5), (V.i .u8 t2_6), (V.sl t2_7)])] H K = g25_r R t0 t1 t2_0 t2_1 t2_2 t2_3 t2_4 t2_5 t2_6 t2_7 H (fun r0 H => K (V.i .i64 r0) H) := by
  have h0 : ∀ (t6 : Int) (H : Heap), kFn2 Try.prog Try.f25.results.toList K .ret [(6, (V.i .i64 t6))] H =
      K (V.i .i64 t6) H := by intros; kernel_rfl
  have e0 := evFn2_code2 (P := Try.prog) (c := c25_5) (E := (E25)) (lr := loopLim) (lv := lv25) (kp := kp25) (fn := Try.f25) (args := [(V.p t0), (V.i .u16 t1), (V.agg [(V.i .u8 t2_0), (V.i .u32 t2_1), (V.i .u32 t2_2), (V.i .u8 t2_3), (V.i .u8 t2_4), (V.i .u8 t2_5), (V.i .u8 t2_6), (V.sl t2_7)])]) H K (by kernel_rfl) (Nat.le_of_ble_eq_true (by kernel_rfl)) (by kernel_rfl) (by kernel_rfl)
  have e1 : ev2 Try.prog (E25) loopLim lv25 Try.f25.ntmps kp25 c25_5 (argFr 0 [(V.p t0), (V.i .u16 t1), (V.agg [(V.i .u8 t2_0), (V.i .u32 t2_1), (V.i .u32 t2_2), (V.i .u8 t2_3), (V.i .u8 t2_4), (V.i .u8 t2_5), (V.i .u8 t2_6), (V.sl t2_7)])]) H (kFn2 Try.prog Try.f25.results.toList K) = ev2 Try.prog (E25) loopLim lv25 Try.f25.ntmps kp25 c25_5 [(0, (V.p t0)), (1, (V.i .u16 t1)), (2, (V.agg [(V.i .u8 t2_0), (V.i .u32 t2_1), (V.i .u32 t2_2), (V.i .u8 t2_3), (V.i .u8 t2_4), (V.i .u8 t2_5), (V.i .u8 t2_6), (V.sl t2_7)]))] H (kFn2 Try.prog Try.f25.results.toList K) := by kernel_rfl
  refine (e0.trans e1).trans ?_
  delta g25_r
  exact (g25_p7_eq t0 t1 t2_0 t2_1 t2_2 t2_3 t2_4 t2_5 t2_6 t2_7 H (kFn2 Try.prog Try.f25.results.toList K)).trans (congrArg (g25_p7 R t0 t1 t2_0 t2_1 t2_2 t2_3 t2_4 t2_5 t2_6 t2_7 H) (funext fun t6 => funext fun H => h0 t6 H))
theorem g25_ok : FunOK Try.prog 25 (w25 (g25_r)) := by
  refine (runF2_ok (E25_good) mixed lim_ok Try.func25 (by kernel_rfl) lv25 kp25).of_le fun R args H K r hk => ?_
  unfold w25 at hk
  split at hk
  · exact (g25_fn _ _ _ _ _ _ _ _ _ _ H K).trans hk
  · cases hk
noncomputable def g25 : T25 := g25_r
theorem g25_lin : Lin25 g25 := g25_r_lin
theorem ok25 : FunOK Try.prog 25 (w25 g25) := g25_ok
def kp41 : Nat → Option (List Nat) := kpOf [(0, [0]), (1, [2]), (300000, [2])]
def E41 : FEnv := []
theorem E41_good : EnvGood Try.prog E41 := (EnvGood.nil _)
theorem E41_lin : EnvLin E41 := fun g F h => by cases h
def lv41 : Nat → Bool := lvOf []
noncomputable def b41 : Code := Try.f41.body.getD .skip
noncomputable def c41_0 : Code := (.seq (codeAt [0] b41) (.seq (codeAt [1, 0] b41) .ret))
noncomputable def g41_p0 (R : Type) (t0 : Sl) (H : Heap) (kR : Sl → Heap → Option R) : Option R :=
  slOf 9 t0 none (some ((t0.len : Nat) : Int)) (some ((t0.len : Nat) : Int)) fun s1 =>
  kR s1 H
theorem g41_p0_eq {R : Type} (t0 : Sl) (H : Heap) (K : Ex → Fr → Heap → Option R) : ev2 Try.prog E41 loopLim lv41 Try.f41.ntmps kp41 c41_0 [(0, (V.sl t0))] H K = g41_p0 R t0 H (fun t2 H => K .ret [(2, (V.sl t2))] H) := by kernel_rfl
theorem g41_p0_lin {R S : Type} {k : S → Option R} {t0 : Sl} {H : Heap} {fkR : Sl → Heap → Option R} {gkR : Sl → Heap → Option S} (hkR : ∀ t2 H, fkR t2 H = (gkR t2 H).bind k) : g41_p0 R t0 H fkR = (g41_p0 S t0 H gkR).bind k := by
  delta g41_p0; exact (
    slOf_lin fun s1 =>
    hkR _ _)
noncomputable def g41_r : T41 := fun R t0 H K =>
  g41_p0 R t0 H (fun t2 H =>
    K t2 H)
theorem g41_r_lin : Lin41 (g41_r) := by
  constructor
  intro R S k t0 H f g h
  exact g41_p0_lin (fun t2 H =>
    h _ _)
theorem g41_fn {R : Type} (t0 : Sl) (H : Heap) (K : V → Heap → Option R) : evFn2 Try.prog E41 loopLim lv41 Try.f41 kp41 [(V.sl t0)] H K = g41_r R t0 H (fun r0 H => K (V.sl r0) H) := by
  have h0 : ∀ (t2 : Sl) (H : Heap), kFn2 Try.prog Try.f41.results.toList K .ret [(2, (V.sl t2))] H =
      K (V.sl t2) H := by intros; kernel_rfl
  have e0 := evFn2_code2 (P := Try.prog) (c := c41_0) (E := E41) (lr := loopLim) (lv := lv41) (kp := kp41) (fn := Try.f41) (args := [(V.sl t0)]) H K (by kernel_rfl) (Nat.le_of_ble_eq_true (by kernel_rfl)) (by kernel_rfl) (by kernel_rfl)
  have e1 : ev2 Try.prog E41 loopLim lv41 Try.f41.ntmps kp41 c41_0 (argFr 0 [(V.sl t0)]) H (kFn2 Try.prog Try.f41.results.toList K) = ev2 Try.prog E41 loopLim lv41 Try.f41.ntmps kp41 c41_0 [(0, (V.sl t0))] H (kFn2 Try.prog Try.f41.results.toList K) := by kernel_rfl
  refine (e0.trans e1).trans ?_
  delta g41_r
  exact (g41_p0_eq t0 H (kFn2 Try.prog Try.f41.results.toList K)).trans (congrArg (g41_p0 R t0 H) (funext fun t2 => funext fun H => h0 t2 H))
theorem g41_ok : FunOK Try.prog 41 (w41 (g41_r)) := by
  refine (runF2_ok (E41_good) mixed lim_ok Try.func41 (by kernel_rfl) lv41 kp41).of_le fun R args H K r hk => ?_
  unfold w41 at hk
  split at hk
  · exact (g41_fn _ H K).trans hk
  · cases hk
noncomputable def g41 : T41 := g41_r
theorem g41_lin : Lin41 g41 := g41_r_lin
theorem ok41 : FunOK Try.prog 41 (w41 g41) := g41_ok
def kp24 : Nat → Option (List Nat) := kpOf [(0, [0]), (1, [0, 6]), (2, [2]), (3, [0, 3]), (4, [3]), (5, [2]), (300000, [2]), (400006, [0])]
noncomputable def E24 : FEnv := [(37, w37 g37), (41, w41 g41)]
theorem E24_good : EnvGood Try.prog (E24) := (((EnvGood.nil _).cons ok41 (w41_lin g41_lin)).cons ok37 (w37_lin g37_lin))
theorem E24_lin : EnvLin (E24) := by
  intro g F h
  simp only [E24, List.mem_cons, List.not_mem_nil, or_false] at h
  rcases h with h | h
  · cases h; exact w37_lin g37_lin
  · cases h; exact w41_lin g41_lin
def lv24 : Nat → Bool := lvOf []
noncomputable def b24 : Code := Try.f24.body.getD .skip
noncomputable def c24_0 : Code := (.seq (codeAt [0] b24) (.seq (codeAt [1, 0, 0] b24) (.seq (.cond (.tmp 6) (.seq (codeAt [1, 0, 1, 0, 0] b24) .ret) .skip) (.seq (codeAt [1, 1, 0] b24) (.seq (codeAt [1, 1, 1, 0] b24) (.seq (codeAt [1, 1, 1, 1, 0] b24) .ret))))))
noncomputable def g24_p0 (R : Type) (t0 : Option (Nat × Nat)) (H : Heap) (kR : Sl → Heap → Option R) : Option R :=
  g37 R t0 H fun x1 h2 =>
  sel (!x1) (
    kR (Sl.mk none 0 (.ex 0)) h2) (
    (t0).bind fun q3 =>
    ((h2).ldSl q3.1 (q3.2 + 7)).bind fun x4 =>
    g41 R x4 h2 fun x5 h6 =>
    (t0).bind fun q7 =>
    ((h6).st q7.1 (q7.2 + 7) (V.sl (Sl.mk none 0 (.ex 0)))).bind fun h9 =>
    kR x5 h9)
theorem g24_p0_eq {R : Type} (t0 : Option (Nat × Nat)) (H : Heap) (K : Ex → Fr → Heap → Option R) : ev2 Try.prog (E24) loopLim lv24 Try.f24.ntmps kp24 c24_0 [(0, (V.p t0))] H K = g24_p0 R t0 H (fun t2 H => K .ret [(2, (V.sl t2))] H) := by kernel_rfl
theorem g24_p0_lin {R S : Type} {k : S → Option R} {t0 : Option (Nat × Nat)} {H : Heap} {fkR : Sl → Heap → Option R} {gkR : Sl → Heap → Option S} (hkR : ∀ t2 H, fkR t2 H = (gkR t2 H).bind k) : g24_p0 R t0 H fkR = (g24_p0 S t0 H gkR).bind k := by
  delta g24_p0; exact (
    g37_lin.l fun x1 h2 =>
    sl_lin (
      hkR _ _) (
      bl fun q3 =>
      bl fun x4 =>
      g41_lin.l fun x5 h6 =>
      bl fun q7 =>
      bl fun h9 =>
      hkR _ _))
noncomputable def g24_r : T24 := fun R t0 H K =>
  g24_p0 R t0 H (fun t2 H =>
    K t2 H)
theorem g24_r_lin : Lin24 (g24_r) := by
  constructor
  intro R S k t0 H f g h
  exact g24_p0_lin (fun t2 H =>
    h _ _)
theorem g24_fn {R : Type} (t0 : Option (Nat × Nat)) (H : Heap) (K : V → Heap → Option R) : evFn2 Try.prog (E24) loopLim lv24 Try.f24 kp24 [(V.p t0)] H K = g24_r R t0 H (fun r0 H => K (V.sl r0) H) := by
  have h0 : ∀ (t2 : Sl) (H : Heap), kFn2 Try.prog Try.f24.results.toList K .ret [(2, (V.sl t2))] H =
      K (V.sl t2) H := by intros; kernel_rfl
  have e0 := evFn2_code2 (P := Try.prog) (c := c24_0) (E := (E24)) (lr := loopLim) (lv := lv24) (kp := kp24) (fn := Try.f24) (args := [(V.p t0)]) H K (by kernel_rfl) (Nat.le_of_ble_eq_true (by kernel_rfl)) (by kernel_rfl) (by kernel_rfl)
  have e1 : ev2 Try.prog (E24) loopLim lv24 Try.f24.ntmps kp24 c24_0 (argFr 0 [(V.p t0)]) H (kFn2 Try.prog Try.f24.results.toList K) = ev2 Try.prog (E24) loopLim lv24 Try.f24.ntmps kp24 c24_0 [(0, (V.p t0))] H (kFn2 Try.prog Try.f24.results.toList K) := by kernel_rfl
  refine (e0.trans e1).trans ?_
  delta g24_r
  exact (g24_p0_eq t0 H (kFn2 Try.prog Try.f24.results.toList K)).trans (congrArg (g24_p0 R t0 H) (funext fun t2 => funext fun H => h0 t2 H))
theorem g24_ok : FunOK Try.prog 24 (w24 (g24_r)) := by
  refine (runF2_ok (E24_good) mixed lim_ok Try.func24 (by kernel_rfl) lv24 kp24).of_le fun R args H K r hk => ?_
  unfold w24 at hk
  split at hk
  · exact (g24_fn _ H K).trans hk
  · cases hk
noncomputable def g24 : T24 := g24_r
theorem g24_lin : Lin24 g24 := g24_r_lin
theorem ok24 : FunOK Try.prog 24 (w24 g24) := g24_ok
def kp40 : Nat → Option (List Nat) := kpOf [(0, [0]), (1, [2]), (300000, [2])]
def E40 : FEnv := []
theorem E40_good : EnvGood Try.prog E40 := (EnvGood.nil _)
theorem E40_lin : EnvLin E40 := fun g F h => by cases h
def lv40 : Nat → Bool := lvOf []
noncomputable def b40 : Code := Try.f40.body.getD .skip
noncomputable def c40_0 : Code := (.seq (codeAt [0] b40) (.seq (codeAt [1, 0] b40) .ret))
noncomputable def g40_p0 (R : Type) (t0 : Sl) (H : Heap) (kR : Sl → Heap → Option R) : Option R :=
  slOf 6 t0 none (some ((t0.len : Nat) : Int)) (some ((t0.len : Nat) : Int)) fun s1 =>
  kR s1 H
theorem g40_p0_eq {R : Type} (t0 : Sl) (H : Heap) (K : Ex → Fr → Heap → Option R) : ev2 Try.prog E40 loopLim lv40 Try.f40.ntmps kp40 c40_0 [(0, (V.sl t0))] H K = g40_p0 R t0 H (fun t2 H => K .ret [(2, (V.sl t2))] H) := by kernel_rfl
theorem g40_p0_lin {R S : Type} {k : S → Option R} {t0 : Sl} {H : Heap} {fkR : Sl → Heap → Option R} {gkR : Sl → Heap → Option S} (hkR : ∀ t2 H, fkR t2 H = (gkR t2 H).bind k) : g40_p0 R t0 H fkR = (g40_p0 S t0 H gkR).bind k := by
  delta g40_p0; exact (
    slOf_lin fun s1 =>
    hkR _ _)
noncomputable def g40_r : T40 := fun R t0 H K =>
  g40_p0 R t0 H (fun t2 H =>
    K t2 H)
theorem g40_r_lin : Lin40 (g40_r) := by
  constructor
  intro R S k t0 H f g h
  exact g40_p0_lin (fun t2 H =>
    h _ _)
theorem g40_fn {R : Type} (t0 : Sl) (H : Heap) (K : V → Heap → Option R) : evFn2 Try.prog E40 loopLim lv40 Try.f40 kp40 [(V.sl t0)] H K = g40_r R t0 H (fun r0 H => K (V.sl r0) H) := by
  have h0 : ∀ (t2 : Sl) (H : Heap), kFn2 Try.prog Try.f40.results.toList K .ret [(2, (V.sl t2))] H =
      K (V.sl t2) H := by intros; kernel_rfl
  have e0 := evFn2_code2 (P := Try.prog) (c := c40_0) (E := E40) (lr := loopLim) (lv := lv40) (kp := kp40) (fn := Try.f40) (args := [(V.sl t0)]) H K (by kernel_rfl) (Nat.le_of_ble_eq_true (by kernel_rfl)) (by kernel_rfl) (by kernel_rfl)
  have e1 : ev2 Try.prog E40 loopLim lv40 Try.f40.ntmps kp40 c40_0 (argFr 0 [(V.sl t0)]) H (kFn2 Try.prog Try.f40.results.toList K) = ev2 Try.prog E40 loopLim lv40 Try.f40.ntmps kp40 c40_0 [(0, (V.sl t0))] H (kFn2 Try.prog Try.f40.results.toList K) := by kernel_rfl
  refine (e0.trans e1).trans ?_
  delta g40_r
  exact (g40_p0_eq t0 H (kFn2 Try.prog Try.f40.results.toList K)).trans (congrArg (g40_p0 R t0 H) (funext fun t2 => funext fun H => h0 t2 H))
theorem g40_ok : FunOK Try.prog 40 (w40 (g40_r)) := by
  refine (runF2_ok (E40_good) mixed lim_ok Try.func40 (by kernel_rfl) lv40 kp40).of_le fun R args H K r hk => ?_
  unfold w40 at hk
  split at hk
  · exact (g40_fn _ H K).trans hk
  · cases hk
noncomputable def g40 : T40 := g40_r
theorem g40_lin : Lin40 g40 := g40_r_lin
theorem ok40 : FunOK Try.prog 40 (w40 g40) := g40_ok
def kp20 : Nat → Option (List Nat) := kpOf [(0, [0]), (1, [0, 6]), (2, [2]), (3, [0, 3]), (4, [3]), (5, [2]), (300000, [2]), (400006, [0])]
noncomputable def E20 : FEnv := [(37, w37 g37), (40, w40 g40)]
theorem E20_good : EnvGood Try.prog (E20) := (((EnvGood.nil _).cons ok40 (w40_lin g40_lin)).cons ok37 (w37_lin g37_lin))
theorem E20_lin : EnvLin (E20) := by
  intro g F h
  simp only [E20, List.mem_cons, List.not_mem_nil, or_false] at h
  rcases h with h | h
  · cases h; exact w37_lin g37_lin
  · cases h; exact w40_lin g40_lin
def lv20 : Nat → Bool := lvOf []
noncomputable def b20 : Code := Try.f20.body.getD .skip
noncomputable def c20_0 : Code := (.seq (codeAt [0] b20) (.seq (codeAt [1, 0, 0] b20) (.seq (.cond (.tmp 6) (.seq (codeAt [1, 0, 1, 0, 0] b20) .ret) .skip) (.seq (codeAt [1, 1, 0] b20) (.seq (codeAt [1, 1, 1, 0] b20) (.seq (codeAt [1, 1, 1, 1, 0] b20) .ret))))))
noncomputable def g20_p0 (R : Type) (t0 : Option (Nat × Nat)) (H : Heap) (kR : Sl → Heap → Option R) : Option R :=
  g37 R t0 H fun x1 h2 =>
  sel (!x1) (
    kR (Sl.mk none 0 (.ex 0)) h2) (
    (t0).bind fun q3 =>
    ((h2).ldSl q3.1 (q3.2 + 8)).bind fun x4 =>
    g40 R x4 h2 fun x5 h6 =>
    (t0).bind fun q7 =>
    ((h6).st q7.1 (q7.2 + 8) (V.sl (Sl.mk none 0 (.ex 0)))).bind fun h9 =>
    kR x5 h9)
theorem g20_p0_eq {R : Type} (t0 : Option (Nat × Nat)) (H : Heap) (K : Ex → Fr → Heap → Option R) : ev2 Try.prog (E20) loopLim lv20 Try.f20.ntmps kp20 c20_0 [(0, (V.p t0))] H K = g20_p0 R t0 H (fun t2 H => K .ret [(2, (V.sl t2))] H) := by kernel_rfl
theorem g20_p0_lin {R S : Type} {k : S → Option R} {t0 : Option (Nat × Nat)} {H : Heap} {fkR : Sl → Heap → Option R} {gkR : Sl → Heap → Option S} (hkR : ∀ t2 H, fkR t2 H = (gkR t2 H).bind k) : g20_p0 R t0 H fkR = (g20_p0 S t0 H gkR).bind k := by
  delta g20_p0; exact (
    g37_lin.l fun x1 h2 =>
    sl_lin (
      hkR _ _) (
      bl fun q3 =>
      bl fun x4 =>
      g40_lin.l fun x5 h6 =>
      bl fun q7 =>
      bl fun h9 =>
      hkR _ _))
noncomputable def g20_r : T20 := fun R t0 H K =>
  g20_p0 R t0 H (fun t2 H =>
    K t2 H)
theorem g20_r_lin : Lin20 (g20_r) := by
  constructor
  intro R S k t0 H f g h
  exact g20_p0_lin (fun t2 H =>
    h _ _)
theorem g20_fn {R : Type} (t0 : Option (Nat × Nat)) (H : Heap) (K : V → Heap → Option R) : evFn2 Try.prog (E20) loopLim lv20 Try.f20 kp20 [(V.p t0)] H K = g20_r R t0 H (fun r0 H => K (V.sl r0) H) := by
  have h0 : ∀ (t2 : Sl) (H : Heap), kFn2 Try.prog Try.f20.results.toList K .ret [(2, (V.sl t2))] H =
      K (V.sl t2) H := by intros; kernel_rfl
  have e0 := evFn2_code2 (P := Try.prog) (c := c20_0) (E := (E20)) (lr := loopLim) (lv := lv20) (kp := kp20) (fn := Try.f20) (args := [(V.p t0)]) H K (by kernel_rfl) (Nat.le_of_ble_eq_true (by kernel_rfl)) (by kernel_rfl) (by kernel_rfl)
  have e1 : ev2 Try.prog (E20) loopLim lv20 Try.f20.ntmps kp20 c20_0 (argFr 0 [(V.p t0)]) H (kFn2 Try.prog Try.f20.results.toList K) = ev2 Try.prog (E20) loopLim lv20 Try.f20.ntmps kp20 c20_0 [(0, (V.p t0))] H (kFn2 Try.prog Try.f20.results.toList K) := by kernel_rfl
  refine (e0.trans e1).trans ?_
  delta g20_r
  exact (g20_p0_eq t0 H (kFn2 Try.prog Try.f20.results.toList K)).trans (congrArg (g20_p0 R t0 H) (funext fun t2 => funext fun H => h0 t2 H))
theorem g20_ok : FunOK Try.prog 20 (w20 (g20_r)) := by
  refine (runF2_ok (E20_good) mixed lim_ok Try.func20 (by kernel_rfl) lv20 kp20).of_le fun R args H K r hk => ?_
  unfold w20 at hk
  split at hk
  · exact (g20_fn _ H K).trans hk
  · cases hk
noncomputable def g20 : T20 := g20_r
theorem g20_lin : Lin20 g20 := g20_r_lin
theorem ok20 : FunOK Try.prog 20 (w20 g20) := g20_ok
def kp72 : Nat → Option (List Nat) := kpOf [(0, [0, 1]), (1, [0, 1, 7, 8]), (2, [0, 1, 7, 8, 9]), (3, [0, 1, 5, 7, 8]), (4, [0, 1, 5, 7, 8, 16]), (5, [4]), (6, [0, 1, 7, 8]), (7, [4]), (100000, []), (100001, [0, 1, 7, 8]), (200000, [0, 1, 7, 8]), (200001, [0, 1, 7, 8]), (300000, [4]), (400009, [0, 1, 7, 8]), (400016, [0, 1, 7, 8])]
def E72 : FEnv := []
theorem E72_good : EnvGood Try.prog E72 := (EnvGood.nil _)
theorem E72_lin : EnvLin E72 := fun g F h => by cases h
def lv72 : Nat → Bool := lvOf []
noncomputable def b72 : Code := Try.f72.body.getD .skip
noncomputable def c72_0 : Code := (.seq (codeAt [1, 0, 1, 0, 0, 0] b72) (.seq (.cond (.tmp 9) .skip (.exit 0)) (.seq (.block 1 (.seq (codeAt [1, 0, 1, 0, 0, 1, 1, 0, 0, 0] b72) (.seq (codeAt [1, 0, 1, 0, 0, 1, 1, 0, 0, 1, 0] b72) (.cond (.tmp 16) (.seq (codeAt [1, 0, 1, 0, 0, 1, 1, 0, 0, 1, 1, 0, 0] b72) .ret) .skip)))) (codeAt [1, 0, 1, 0, 0, 1, 1, 1] b72))))
noncomputable def c72_1 : Code := (.loop c72_0)
noncomputable def c72_2 : Code := (.block 0 c72_1)
noncomputable def c72_3 : Code := (.seq (codeAt [1, 1, 0] b72) .ret)
noncomputable def c72_4 : Code := (.seq c72_2 c72_3)
noncomputable def c72_5 : Code := (.seq (codeAt [0] b72) (.seq (codeAt [1, 0, 0] b72) c72_4))
noncomputable def g72_p0 (R : Type) (t0 : Sl) (t1 : Int) (H : Heap) (kN : Sl → Int → Int → Int → Heap → Option R) : Option R :=
  kN t0 t1 ((t0.len : Nat) : Int) (0 : Int) H
theorem g72_p0_eq {R : Type} (c2 : Code) (t0 : Sl) (t1 : Int) (H : Heap) (K : Ex → Fr → Heap → Option R) : ev2 Try.prog E72 loopLim lv72 Try.f72.ntmps kp72 (.seq (codeAt [0] b72) (.seq (codeAt [1, 0, 0] b72) c2)) [(0, (V.sl t0)), (1, (V.i .u8 t1))] H K = g72_p0 R t0 t1 H (fun t0 t1 t7 t8 H => ev2 Try.prog E72 loopLim lv72 Try.f72.ntmps kp72 c2 [(0, (V.sl t0)), (1, (V.i .u8 t1)), (7, (V.i .i64 t7)), (8, (V.i .i64 t8))] H K) := by kernel_rfl
theorem g72_p0_lin {R S : Type} {k : S → Option R} {t0 : Sl} {t1 : Int} {H : Heap} {fkN : Sl → Int → Int → Int → Heap → Option R} {gkN : Sl → Int → Int → Int → Heap → Option S} (hkN : ∀ t0 t1 t7 t8 H, fkN t0 t1 t7 t8 H = (gkN t0 t1 t7 t8 H).bind k) : g72_p0 R t0 t1 H fkN = (g72_p0 S t0 t1 H gkN).bind k := by
  delta g72_p0; exact (
    hkN _ _ _ _ _)
noncomputable def g72_p1 (R : Type) (t0 : Sl) (t1 : Int) (t7 : Int) (t8 : Int) (H : Heap) (kN : Sl → Int → Int → Int → Heap → Option R) (kE0 : Heap → Option R) (kR : Int → Heap → Option R) : Option R :=
  sel (decide (t8 < t7)) (
    if 0 ≤ t8 ∧ t8 < ((t0.len : Nat) : Int) then (
      (t0.a).bind fun q1 =>
      ((H).ldI .u8 q1.1 (q1.2 + Int.toNat t8 * 1)).bind fun x2 =>
      sel (t1 == x2) (
        kR t8 H) (
        kN t0 t1 t7 (IntKind.wrap .i64 (t8 + (1 : Int))) H))
    else (
      none)) (
    kE0 H)
theorem g72_p1_eq {R : Type} (t0 : Sl) (t1 : Int) (t7 : Int) (t8 : Int) (H : Heap) (K : Ex → Fr → Heap → Option R) : ev2 Try.prog E72 loopLim lv72 Try.f72.ntmps kp72 c72_0 [(0, (V.sl t0)), (1, (V.i .u8 t1)), (7, (V.i .i64 t7)), (8, (V.i .i64 t8))] H K = g72_p1 R t0 t1 t7 t8 H (fun t0 t1 t7 t8 H => K .normal [(0, (V.sl t0)), (1, (V.i .u8 t1)), (7, (V.i .i64 t7)), (8, (V.i .i64 t8))] H) (fun H => K (.exit 0) [] H) (fun t4 H => K .ret [(4, (V.i .i64 t4))] H) := by kernel_rfl
theorem g72_p1_lin {R S : Type} {k : S → Option R} {t0 : Sl} {t1 : Int} {t7 : Int} {t8 : Int} {H : Heap} {fkN : Sl → Int → Int → Int → Heap → Option R} {gkN : Sl → Int → Int → Int → Heap → Option S} {fkE0 : Heap → Option R} {gkE0 : Heap → Option S} {fkR : Int → Heap → Option R} {gkR : Int → Heap → Option S} (hkN : ∀ t0 t1 t7 t8 H, fkN t0 t1 t7 t8 H = (gkN t0 t1 t7 t8 H).bind k) (hkE0 : ∀ H, fkE0 H = (gkE0 H).bind k) (hkR : ∀ t4 H, fkR t4 H = (gkR t4 H).bind k) : g72_p1 R t0 t1 t7 t8 H fkN fkE0 fkR = (g72_p1 S t0 t1 t7 t8 H gkN gkE0 gkR).bind k := by
  delta g72_p1; exact (
    sl_lin (
      il (
        bl fun q1 =>
        bl fun x2 =>
        sl_lin (
          hkR _ _) (
          hkN _ _ _ _ _)) (
        rfl)) (
      hkE0 _))
abbrev g72_p2_S := Sl × Int × Int × Int
abbrev g72_p2_O := Sum (Unit) (Int)
def g72_p2_es (s : g72_p2_S) : Fr := [(0, (V.sl s.1)), (1, (V.i .u8 s.2.1)), (7, (V.i .i64 s.2.2.1)), (8, (V.i .i64 s.2.2.2))]
def g72_p2_er : g72_p2_O → Ex × Fr
  | (.inl r) => ((.exit 0), [])
  | (.inr r) => (.ret, [(4, (V.i .i64 r))])
noncomputable def g72_p2_b (s : g72_p2_S) (H : Heap) : Option (Rd g72_p2_S g72_p2_O × Heap) :=
  g72_p1 _ s.1 s.2.1 s.2.2.1 s.2.2.2 H (fun t0 t1 t7 t8 H => some (.go (t0, t1, t7, t8), H)) (fun H => some (.up (.inl ()), H)) (fun t4 H => some (.up (.inr t4), H))
noncomputable def g72_p2 (R : Type) (t0 : Sl) (t1 : Int) (t7 : Int) (t8 : Int) (H : Heap) (kE0 : Heap → Option R) (kR : Int → Heap → Option R) : Option R :=
  (tlim (g72_p2_b) (t0, t1, t7, t8) H).bind fun p => cas p.1 (fun r => kE0  p.2) (fun r0 => kR r0 p.2)
theorem g72_p2_lin {R S : Type} {k : S → Option R} {t0 : Sl} {t1 : Int} {t7 : Int} {t8 : Int} {H : Heap} {fkE0 : Heap → Option R} {gkE0 : Heap → Option S} {fkR : Int → Heap → Option R} {gkR : Int → Heap → Option S} (hkE0 : ∀ H, fkE0 H = (gkE0 H).bind k) (hkR : ∀ t4 H, fkR t4 H = (gkR t4 H).bind k) : g72_p2 R t0 t1 t7 t8 H fkE0 fkR = (g72_p2 S t0 t1 t7 t8 H gkE0 gkR).bind k := by
  exact bl fun p => cas_lin (fun _ => hkE0 _) (fun _ => hkR _ _)
theorem g72_p2_eq {R : Type} (t0 : Sl) (t1 : Int) (t7 : Int) (t8 : Int) (H : Heap) (K : Ex → Fr → Heap → Option R) : ev2 Try.prog E72 loopLim lv72 Try.f72.ntmps kp72 c72_1 [(0, (V.sl t0)), (1, (V.i .u8 t1)), (7, (V.i .i64 t7)), (8, (V.i .i64 t8))] H K = g72_p2 R t0 t1 t7 t8 H (fun H => K (.exit 0) [] H) (fun t4 H => K .ret [(4, (V.i .i64 t4))] H) := by
  delta c72_1
  delta g72_p2
  refine (ev2_tlim (b := g72_p2_b) (es := g72_p2_es) (er := g72_p2_er) (by rintro (r | r) <;> exact nofun) (fun s H => ?_) (t0, t1, t7, t8) H K).trans (bc fun p => by rcases p with ⟨(r | r), H⟩ <;> rfl)
  exact (g72_p1_eq s.1 s.2.1 s.2.2.1 s.2.2.2 H ret3).trans (g72_p1_lin (fun _ _ _ _ _ => rfl) (fun _ => rfl) (fun _ _ => rfl))
noncomputable def g72_p3 (R : Type) (t0 : Sl) (t1 : Int) (t7 : Int) (t8 : Int) (H : Heap) (kN : Heap → Option R) (kR : Int → Heap → Option R) : Option R :=
  g72_p2 R t0 t1 t7 t8 H (fun H => kN  H) (fun t4 H => kR t4 H)
theorem g72_p3_lin {R S : Type} {k : S → Option R} {t0 : Sl} {t1 : Int} {t7 : Int} {t8 : Int} {H : Heap} {fkN : Heap → Option R} {gkN : Heap → Option S} {fkR : Int → Heap → Option R} {gkR : Int → Heap → Option S} (hkN : ∀ H, fkN H = (gkN H).bind k) (hkR : ∀ t4 H, fkR t4 H = (gkR t4 H).bind k) : g72_p3 R t0 t1 t7 t8 H fkN fkR = (g72_p3 S t0 t1 t7 t8 H gkN gkR).bind k := by
  exact g72_p2_lin (fun _ => hkN _) (fun _ _ => hkR _ _)
theorem g72_p3_eq {R : Type} (t0 : Sl) (t1 : Int) (t7 : Int) (t8 : Int) (H : Heap) (K : Ex → Fr → Heap → Option R) : ev2 Try.prog E72 loopLim lv72 Try.f72.ntmps kp72 c72_2 [(0, (V.sl t0)), (1, (V.i .u8 t1)), (7, (V.i .i64 t7)), (8, (V.i .i64 t8))] H K = g72_p3 R t0 t1 t7 t8 H (fun H => K .normal [] H) (fun t4 H => K .ret [(4, (V.i .i64 t4))] H) := by
  delta c72_2
  rw [ev2_block]
  delta g72_p3
  exact (g72_p2_eq t0 t1 t7 t8 H (kBlock kp72 0 K))
noncomputable def g72_p4 (R : Type) (H : Heap) (kR : Int → Heap → Option R) : Option R :=
  kR (-1 : Int) H
theorem g72_p4_eq {R : Type} (H : Heap) (K : Ex → Fr → Heap → Option R) : ev2 Try.prog E72 loopLim lv72 Try.f72.ntmps kp72 c72_3 [] H K = g72_p4 R H (fun t4 H => K .ret [(4, (V.i .i64 t4))] H) := by kernel_rfl
theorem g72_p4_lin {R S : Type} {k : S → Option R} {H : Heap} {fkR : Int → Heap → Option R} {gkR : Int → Heap → Option S} (hkR : ∀ t4 H, fkR t4 H = (gkR t4 H).bind k) : g72_p4 R H fkR = (g72_p4 S H gkR).bind k := by
  delta g72_p4; exact (
    hkR _ _)
noncomputable def g72_p5 (R : Type) (t0 : Sl) (t1 : Int) (t7 : Int) (t8 : Int) (H : Heap) (kR : Int → Heap → Option R) : Option R :=
  g72_p3 R t0 t1 t7 t8 H (fun H => g72_p4 R H (fun t4 H => kR t4 H)) (fun t4 H => kR t4 H)
theorem g72_p5_lin {R S : Type} {k : S → Option R} {t0 : Sl} {t1 : Int} {t7 : Int} {t8 : Int} {H : Heap} {fkR : Int → Heap → Option R} {gkR : Int → Heap → Option S} (hkR : ∀ t4 H, fkR t4 H = (gkR t4 H).bind k) : g72_p5 R t0 t1 t7 t8 H fkR = (g72_p5 S t0 t1 t7 t8 H gkR).bind k := by
  exact g72_p3_lin (fun _ => g72_p4_lin (fun _ _ => hkR _ _)) (fun _ _ => hkR _ _)
theorem g72_p5_eq {R : Type} (t0 : Sl) (t1 : Int) (t7 : Int) (t8 : Int) (H : Heap) (K : Ex → Fr → Heap → Option R) : ev2 Try.prog E72 loopLim lv72 Try.f72.ntmps kp72 c72_4 [(0, (V.sl t0)), (1, (V.i .u8 t1)), (7, (V.i .i64 t7)), (8, (V.i .i64 t8))] H K = g72_p5 R t0 t1 t7 t8 H (fun t4 H => K .ret [(4, (V.i .i64 t4))] H) := by
  delta c72_4
  rw [ev2_seq]
  delta g72_p5
  exact (g72_p3_eq t0 t1 t7 t8 H (kSeq (fun fr H => ev2 Try.prog E72 loopLim lv72 Try.f72.ntmps kp72 c72_3 fr H K) K)).trans (congr (congrArg (g72_p3 R t0 t1 t7 t8 H) (funext fun H => (kSeq_n _ _ _ _).trans (g72_p4_eq H K))) rfl)
noncomputable def g72_p6 (R : Type) (t0 : Sl) (t1 : Int) (H : Heap) (kR : Int → Heap → Option R) : Option R :=
  g72_p0 R t0 t1 H (fun t0 t1 t7 t8 H => g72_p5 R t0 t1 t7 t8 H (fun t4 H => kR t4 H))
theorem g72_p6_lin {R S : Type} {k : S → Option R} {t0 : Sl} {t1 : Int} {H : Heap} {fkR : Int → Heap → Option R} {gkR : Int → Heap → Option S} (hkR : ∀ t4 H, fkR t4 H = (gkR t4 H).bind k) : g72_p6 R t0 t1 H fkR = (g72_p6 S t0 t1 H gkR).bind k := by
  exact g72_p0_lin (fun _ _ _ _ _ => g72_p5_lin (fun _ _ => hkR _ _))
theorem g72_p6_eq {R : Type} (t0 : Sl) (t1 : Int) (H : Heap) (K : Ex → Fr → Heap → Option R) : ev2 Try.prog E72 loopLim lv72 Try.f72.ntmps kp72 c72_5 [(0, (V.sl t0)), (1, (V.i .u8 t1))] H K = g72_p6 R t0 t1 H (fun t4 H => K .ret [(4, (V.i .i64 t4))] H) := by
  delta c72_5
  delta g72_p6
  exact (g72_p0_eq _ t0 t1 H K).trans (congrArg (g72_p0 R t0 t1 H) (funext fun t0 => funext fun t1 => funext fun t7 => funext fun t8 => funext fun H => g72_p5_eq t0 t1 t7 t8 H K))
noncomputable def g72_r : T72 := fun R t0 t1 H K =>
  g72_p6 R t0 t1 H (fun t4 H =>
    K t4 H)
theorem g72_r_lin : Lin72 (g72_r) := by
  constructor
  intro R S k t0 t1 H f g h
  exact g72_p6_lin (fun t4 H =>
    h _ _)
theorem g72_fn {R : Type} (t0 : Sl) (t1 : Int) (H : Heap) (K : V → Heap → Option R) : evFn2 Try.prog E72 loopLim lv72 Try.f72 kp72 [(V.sl t0), (V.i .u8 t1)] H K = g72_r R t0 t1 H (fun r0 H => K (V.i .i64 r0) H) := by
  have h0 : ∀ (t4 : Int) (H : Heap), kFn2 Try.prog Try.f72.results.toList K .ret [(4, (V.i .i64 t4))] H =
      K (V.i .i64 t4) H := by intros; kernel_rfl
  have e0 := evFn2_code2 (P := Try.prog) (c := c72_5) (E := E72) (lr := loopLim) (lv := lv72) (kp := kp72) (fn := Try.f72) (args := [(V.sl t0), (V.i .u8 t1)]) H K (by kernel_rfl) (Nat.le_of_ble_eq_true (by kernel_rfl)) (by kernel_rfl) (by kernel_rfl)
  have e1 : ev2 Try.prog E72 loopLim lv72 Try.f72.ntmps kp72 c72_5 (argFr 0 [(V.sl t0), (V.i .u8 t1)]) H (kFn2 Try.prog Try.f72.results.toList K) = ev2 Try.prog E72 loopLim lv72 Try.f72.ntmps kp72 c72_5 [(0, (V.sl t0)), (1, (V.i .u8 t1))] H (kFn2 Try.prog Try.f72.results.toList K) := by kernel_rfl
  refine (e0.trans e1).trans ?_
  delta g72_r
  exact (g72_p6_eq t0 t1 H (kFn2 Try.prog Try.f72.results.toList K)).trans (congrArg (g72_p6 R t0 t1 H) (funext fun t4 => funext fun H => h0 t4 H))
theorem g72_ok : FunOK Try.prog 72 (w72 (g72_r)) := by
  refine (runF2_ok (E72_good) mixed lim_ok Try.func72 (by kernel_rfl) lv72 kp72).of_le fun R args H K r hk => ?_
  unfold w72 at hk
  split at hk
  · exact (g72_fn _ _ H K).trans hk
  · cases hk
noncomputable def g72 : T72 := g72_r
theorem g72_lin : Lin72 g72 := g72_r_lin
theorem ok72 : FunOK Try.prog 72 (w72 g72) := g72_ok
def kp67 : Nat → Option (List Nat) := kpOf [(0, [0, 1]), (1, [4]), (300000, [4])]
noncomputable def E67 : FEnv := [(72, w72 g72)]
theorem E67_good : EnvGood Try.prog (E67) := ((EnvGood.nil _).cons ok72 (w72_lin g72_lin))
theorem E67_lin : EnvLin (E67) := by
  intro g F h
  simp only [E67, List.mem_cons, List.not_mem_nil, or_false] at h
  rcases h with h
  · cases h; exact w72_lin g72_lin
def lv67 : Nat → Bool := lvOf []
noncomputable def b67 : Code := Try.f67.body.getD .skip
noncomputable def c67_0 : Code := (.seq (codeAt [0] b67) (.seq (codeAt [1, 0] b67) .ret))
noncomputable def g67_p0 (R : Type) (t0 : Sl) (t1 : Int) (H : Heap) (kR : Bool → Heap → Option R) : Option R :=
  g72 R t0 t1 H fun x1 h2 =>
  kR (decide (x1 ≥ (0 : Int))) h2
theorem g67_p0_eq {R : Type} (t0 : Sl) (t1 : Int) (H : Heap) (K : Ex → Fr → Heap → Option R) : ev2 Try.prog (E67) loopLim lv67 Try.f67.ntmps kp67 c67_0 [(0, (V.sl t0)), (1, (V.i .u8 t1))] H K = g67_p0 R t0 t1 H (fun t4 H => K .ret [(4, (V.b t4))] H) := by kernel_rfl
theorem g67_p0_lin {R S : Type} {k : S → Option R} {t0 : Sl} {t1 : Int} {H : Heap} {fkR : Bool → Heap → Option R} {gkR : Bool → Heap → Option S} (hkR : ∀ t4 H, fkR t4 H = (gkR t4 H).bind k) : g67_p0 R t0 t1 H fkR = (g67_p0 S t0 t1 H gkR).bind k := by
  delta g67_p0; exact (
    g72_lin.l fun x1 h2 =>
    hkR _ _)
noncomputable def g67_r : T67 := fun R t0 t1 H K =>
  g67_p0 R t0 t1 H (fun t4 H =>
    K t4 H)
theorem g67_r_lin : Lin67 (g67_r) := by
  constructor
  intro R S k t0 t1 H f g h
  exact g67_p0_lin (fun t4 H =>
    h _ _)
theorem g67_fn {R : Type} (t0 : Sl) (t1 : Int) (H : Heap) (K : V → Heap → Option R) : evFn2 Try.prog (E67) loopLim lv67 Try.f67 kp67 [(V.sl t0), (V.i .u8 t1)] H K = g67_r R t0 t1 H (fun r0 H => K (V.b r0) H) := by
  have h0 : ∀ (t4 : Bool) (H : Heap), kFn2 Try.prog Try.f67.results.toList K .ret [(4, (V.b t4))] H =
      K (V.b t4) H := by intros; kernel_rfl
  have e0 := evFn2_code2 (P := Try.prog) (c := c67_0) (E := (E67)) (lr := loopLim) (lv := lv67) (kp := kp67) (fn := Try.f67) (args := [(V.sl t0), (V.i .u8 t1)]) H K (by kernel_rfl) (Nat.le_of_ble_eq_true (by kernel_rfl)) (by kernel_rfl) (by kernel_rfl)
  have e1 : ev2 Try.prog (E67) loopLim lv67 Try.f67.ntmps kp67 c67_0 (argFr 0 [(V.sl t0), (V.i .u8 t1)]) H (kFn2 Try.prog Try.f67.results.toList K) = ev2 Try.prog (E67) loopLim lv67 Try.f67.ntmps kp67 c67_0 [(0, (V.sl t0)), (1, (V.i .u8 t1))] H (kFn2 Try.prog Try.f67.results.toList K) := by kernel_rfl
  refine (e0.trans e1).trans ?_
  delta g67_r
  exact (g67_p0_eq t0 t1 H (kFn2 Try.prog Try.f67.results.toList K)).trans (congrArg (g67_p0 R t0 t1 H) (funext fun t4 => funext fun H => h0 t4 H))
theorem g67_ok : FunOK Try.prog 67 (w67 (g67_r)) := by
  refine (runF2_ok (E67_good) mixed lim_ok Try.func67 (by kernel_rfl) lv67 kp67).of_le fun R args H K r hk => ?_
  unfold w67 at hk
  split at hk
  · exact (g67_fn _ _ H K).trans hk
  · cases hk
noncomputable def g67 : T67 := g67_r
theorem g67_lin : Lin67 g67 := g67_r_lin
theorem ok67 : FunOK Try.prog 67 (w67 g67) := g67_ok
def kp50 : Nat → Option (List Nat) := kpOf [(0, [0, 1, 2]), (1, [0, 1, 2, 11]), (2, [6, 7]), (3, [2, 8]), (4, [2, 8, 18]), (5, [6, 7]), (6, [8, 21]), (7, [6, 7]), (8, [6, 7]), (100000, [8]), (200000, [2, 8]), (300000, [6, 7]), (400011, [0, 1, 2]), (400018, [8]), (400021, [8])]
noncomputable def E50 : FEnv := [(37, w37 g37), (67, w67 g67)]
theorem E50_good : EnvGood Try.prog (E50) := (((EnvGood.nil _).cons ok67 (w67_lin g67_lin)).cons ok37 (w37_lin g37_lin))
theorem E50_lin : EnvLin (E50) := by
  intro g F h
  simp only [E50, List.mem_cons, List.not_mem_nil, or_false] at h
  rcases h with h | h
  · cases h; exact w37_lin g37_lin
  · cases h; exact w67_lin g67_lin
def lv50 : Nat → Bool := lvOf []
noncomputable def b50 : Code := Try.f50.body.getD .skip
noncomputable def c50_0 : Code := (.seq (codeAt [0] b50) (.seq (codeAt [1, 0, 0] b50) (.seq (.cond (.tmp 11) (.seq (codeAt [1, 0, 1, 0, 0] b50) .ret) .skip) (.seq (codeAt [1, 1, 0] b50) (.seq (.block 0 (.seq (codeAt [1, 1, 1, 0, 0, 0] b50) (.cond (.tmp 18) (.seq (codeAt [1, 1, 1, 0, 0, 1, 0, 0] b50) .ret) (.seq (codeAt [1, 1, 1, 0, 0, 1, 1, 0] b50) (.cond (.tmp 21) (.seq (codeAt [1, 1, 1, 0, 0, 1, 1, 1, 0, 0] b50) .ret) .skip))))) (.seq (codeAt [1, 1, 1, 1, 0] b50) .ret))))))
noncomputable def g50_p0 (R : Type) (t0 : Option (Nat × Nat)) (t1 : Int) (t2 : Sl) (H : Heap) (kR : Option (Nat × Nat) → Int → Heap → Option R) : Option R :=
  g37 R t0 H fun x1 h2 =>
  sel (!x1) (
    kR none (2 : Int) h2) (
    (t0).bind fun q3 =>
    ((h2).ldM q3.1 (q3.2 + 5)).bind fun x4 =>
    ((getMap h2 x4)).bind fun m5 =>
    ((findE Try.prog 23 (V.i .u32 t1) m5.1 0)).bind fun q6 =>
    fnd q6 (fun j7 x8 =>
      ((V.asP x8)).bind fun x9 =>
      sel (Option.isNone x9) (
        kR none (7 : Int) h2) (
        (x9).bind fun q10 =>
        ((h2).ldI .u8 q10.1 (q10.2 + 4)).bind fun x11 =>
        g67 R t2 x11 h2 fun x12 h13 =>
        sel (!x12) (
          kR none (6 : Int) h13) (
          kR x9 (0 : Int) h13))) (
      kR none (7 : Int) h2))
theorem g50_p0_eq {R : Type} (t0 : Option (Nat × Nat)) (t1 : Int) (t2 : Sl) (H : Heap) (K : Ex → Fr → Heap → Option R) : ev2 Try.prog (E50) loopLim lv50 Try.f50.ntmps kp50 c50_0 [(0, (V.p t0)), (1, (V.i .u32 t1)), (2, (V.sl t2))] H K = g50_p0 R t0 t1 t2 H (fun t6 t7 H => K .ret [(6, (V.p t6)), (7, (V.i .i64 t7))] H) := by kernel_rfl
theorem g50_p0_lin {R S : Type} {k : S → Option R} {t0 : Option (Nat × Nat)} {t1 : Int} {t2 : Sl} {H : Heap} {fkR : Option (Nat × Nat) → Int → Heap → Option R} {gkR : Option (Nat × Nat) → Int → Heap → Option S} (hkR : ∀ t6 t7 H, fkR t6 t7 H = (gkR t6 t7 H).bind k) : g50_p0 R t0 t1 t2 H fkR = (g50_p0 S t0 t1 t2 H gkR).bind k := by
  delta g50_p0; exact (
    g37_lin.l fun x1 h2 =>
    sl_lin (
      hkR _ _ _) (
      bl fun q3 =>
      bl fun x4 =>
      bl fun m5 =>
      bl fun q6 =>
      fnd_lin (fun j7 x8 =>
        bl fun x9 =>
        sl_lin (
          hkR _ _ _) (
          bl fun q10 =>
          bl fun x11 =>
          g67_lin.l fun x12 h13 =>
          sl_lin (
            hkR _ _ _) (
            hkR _ _ _))) (
        hkR _ _ _)))
noncomputable def g50_r : T50 := fun R t0 t1 t2 H K =>
  g50_p0 R t0 t1 t2 H (fun t6 t7 H =>
    K t6 t7 H)
theorem g50_r_lin : Lin50 (g50_r) := by
  constructor
  intro R S k t0 t1 t2 H f g h
  exact g50_p0_lin (fun t6 t7 H =>
    h _ _ _)
theorem g50_fn {R : Type} (t0 : Option (Nat × Nat)) (t1 : Int) (t2 : Sl) (H : Heap) (K : V → Heap → Option R) : evFn2 Try.prog (E50) loopLim lv50 Try.f50 kp50 [(V.p t0), (V.i .u32 t1), (V.sl t2)] H K = g50_r R t0 t1 t2 H (fun r0 r1 H => K (V.tup [(V.p r0), (V.i .i64 r1)]) H) := by
  have h0 : ∀ (t6 : Option (Nat × Nat)) (t7 : Int) (H : Heap), kFn2 Try.prog Try.f50.results.toList K .ret [(6, (V.p t6)), (7, (V.i .i64 t7))] H =
      K (V.tup [(V.p t6), (V.i .i64 t7)]) H := by intros; kernel_rfl
  have e0 := evFn2_code2 (P := Try.prog) (c := c50_0) (E := (E50)) (lr := loopLim) (lv := lv50) (kp := kp50) (fn := Try.f50) (args := [(V.p t0), (V.i .u32 t1), (V.sl t2)]) H K (by kernel_rfl) (Nat.le_of_ble_eq_true (by kernel_rfl)) (by kernel_rfl) (by kernel_rfl)
  have e1 : ev2 Try.prog (E50) loopLim lv50 Try.f50.ntmps kp50 c50_0 (argFr 0 [(V.p t0), (V.i .u32 t1), (V.sl t2)]) H (kFn2 Try.prog Try.f50.results.toList K) = ev2 Try.prog (E50) loopLim lv50 Try.f50.ntmps kp50 c50_0 [(0, (V.p t0)), (1, (V.i .u32 t1)), (2, (V.sl t2))] H (kFn2 Try.prog Try.f50.results.toList K) := by kernel_rfl
  refine (e0.trans e1).trans ?_
  delta g50_r
  exact (g50_p0_eq t0 t1 t2 H (kFn2 Try.prog Try.f50.results.toList K)).trans (congrArg (g50_p0 R t0 t1 t2 H) (funext fun t6 => funext fun t7 => funext fun H => h0 t6 t7 H))
theorem g50_ok : FunOK Try.prog 50 (w50 (g50_r)) := by
  refine (runF2_ok (E50_good) mixed lim_ok Try.func50 (by kernel_rfl) lv50 kp50).of_le fun R args H K r hk => ?_
  unfold w50 at hk
  split at hk
  · exact (g50_fn _ _ _ H K).trans hk
  · cases hk
noncomputable def g50 : T50 := g50_r
theorem g50_lin : Lin50 g50 := g50_r_lin
theorem ok50 : FunOK Try.prog 50 (w50 g50) := g50_ok
def kp28 : Nat → Option (List Nat) := kpOf [(0, [0, 1, 2]), (1, [0, 2, 7, 8]), (2, [0, 2, 7, 8, 16]), (3, [6]), (4, [0, 2, 7, 20]), (5, [6]), (6, [0, 2, 7, 24]), (7, [6]), (8, [7]), (9, [7, 67]), (10, []), (11, [6]), (100000, [0, 2, 7]), (200000, [0, 2, 7, 8]), (300000, [6]), (400016, [0, 2, 7]), (400020, [0, 2, 7]), (400024, [0, 2, 7]), (400067, [])]
noncomputable def E28 : FEnv := [(50, w50 g50), (36, w36 g36), (39, w39 g39)]
theorem E28_good : EnvGood Try.prog (E28) := ((((EnvGood.nil _).cons ok39 (w39_lin g39_lin)).cons ok36 (w36_lin g36_lin)).cons ok50 (w50_lin g50_lin))
theorem E28_lin : EnvLin (E28) := by
  intro g F h
  simp only [E28, List.mem_cons, List.not_mem_nil, or_false] at h
  rcases h with h | h | h
  · cases h; exact w50_lin g50_lin
  · cases h; exact w36_lin g36_lin
  · cases h; exact w39_lin g39_lin
def lv28 : Nat → Bool := lvOf []
noncomputable def b28 : Code := Try.f28.body.getD .skip
noncomputable def c28_0 : Code := (.seq (codeAt [0] b28) (.seq (codeAt [1, 0] b28) (.seq (.block 0 (.seq (codeAt [1, 1, 0, 0, 0] b28) (.cond (.tmp 16) (.seq (codeAt [1, 1, 0, 0, 1, 0, 0] b28) .ret) (.seq (codeAt [1, 1, 0, 0, 1, 1, 0] b28) (.cond (.tmp 20) (.seq (codeAt [1, 1, 0, 0, 1, 1, 1, 0, 0] b28) .ret) (.seq (codeAt [1, 1, 0, 0, 1, 1, 1, 1, 0] b28) (.cond (.tmp 24) (.seq (codeAt [1, 1, 0, 0, 1, 1, 1, 1, 1, 0, 0] b28) .ret) .skip))))))) (.seq (codeAt [1, 1, 1, 0] b28) (.seq (codeAt [1, 1, 1, 1, 0, 0] b28) (.seq (.cond (.tmp 67) (codeAt [1, 1, 1, 1, 0, 1, 0] b28) .skip) (.seq (codeAt [1, 1, 1, 1, 1, 0] b28) .ret)))))))
noncomputable def g28_p0 (R : Type) (t0 : Option (Nat × Nat)) (t1 : Int) (t2 : Sl) (H : Heap) (kR : Int → Heap → Option R) : Option R :=
  alo H (.cells [(V.i .u8 (3 : Int))] 96 false) fun i1 h2 =>
  g50 R t0 t1 (Sl.mk (some (i1, 0)) 1 (.ex 1)) h2 fun x3 x4 h5 =>
  sel (x4 != (0 : Int)) (
    kR x4 h5) (
    sel (decide (((t2.len : Nat) : Int) > (200 : Int))) (
      kR (3 : Int) h5) (
      (x3).bind fun q6 =>
      ((h5).ldI .u8 q6.1 (q6.2 + 3)).bind fun x7 =>
      sel (x7 == (3 : Int)) (
        (x3).bind fun q8 =>
        ((h5).ldI .u8 q8.1 (q8.2 + 8)).bind fun x9 =>
        (x3).bind fun q10 =>
        ((h5).ldI .u8 q10.1 (q10.2 + 9)).bind fun x11 =>
        (t0).bind fun q12 =>
        ((h5).ldI .i64 q12.1 ((q12.2 + 0) + 0)).bind fun x13 =>
        sel (decide ((Int.tmod (IntKind.wrap .i64 (IntKind.wrap .u8 (x9 - x11))) (128 : Int)) ≥ x13)) (
          kR (14 : Int) h5) (
          (x3).bind fun q14 =>
          ((h5).ldI .u8 q14.1 (q14.2 + 8)).bind fun x15 =>
          (x3).bind fun q16 =>
          ((h5).ldI .u8 q16.1 (q16.2 + 10)).bind fun x17 =>
          g36 R t2 h5 fun x18 h19 =>
          ((h19).ldI .u8 q16.1 (q16.2 + 10)).bind fun x20 =>
          if V.same (V.i .u8 x17) (V.i .u8 x20) = true then (
            ((h19).ldI .u8 q14.1 (q14.2 + 8)).bind fun x21 =>
            if V.same (V.i .u8 x15) (V.i .u8 x21) = true then (
              g39 R t0 x3 (4 : Int) (0 : Int) (0 : Int) (0 : Int) x15 x17 (0 : Int) x18 h19 fun h22 =>
              (x3).bind fun q23 =>
              ((h22).ldI .u8 q23.1 (q23.2 + 3)).bind fun x24 =>
              sel (x24 == (3 : Int)) (
                (x3).bind fun q25 =>
                ((h22).ldI .u8 q25.1 (q25.2 + 8)).bind fun x26 =>
                (x3).bind fun q27 =>
                ((h22).st q27.1 (q27.2 + 8) (V.i .u8 (Int.tmod (IntKind.wrap .u8 (x26 + (1 : Int))) (128 : Int)))).bind fun h29 =>
                kR (0 : Int) h29) (
                kR (0 : Int) h22))
            else (
              none))
          else (
            none))) (
        (x3).bind fun q30 =>
        ((h5).ldI .u8 q30.1 (q30.2 + 8)).bind fun x31 =>
        (x3).bind fun q32 =>
        ((h5).ldI .u8 q32.1 (q32.2 + 10)).bind fun x33 =>
        g36 R t2 h5 fun x34 h35 =>
        ((h35).ldI .u8 q32.1 (q32.2 + 10)).bind fun x36 =>
        if V.same (V.i .u8 x33) (V.i .u8 x36) = true then (
          ((h35).ldI .u8 q30.1 (q30.2 + 8)).bind fun x37 =>
          if V.same (V.i .u8 x31) (V.i .u8 x37) = true then (
            g39 R t0 x3 (4 : Int) (0 : Int) (0 : Int) (0 : Int) x31 x33 (0 : Int) x34 h35 fun h38 =>
            (x3).bind fun q39 =>
            ((h38).ldI .u8 q39.1 (q39.2 + 3)).bind fun x40 =>
            sel (x40 == (3 : Int)) (
              (x3).bind fun q41 =>
              ((h38).ldI .u8 q41.1 (q41.2 + 8)).bind fun x42 =>
              (x3).bind fun q43 =>
              ((h38).st q43.1 (q43.2 + 8) (V.i .u8 (Int.tmod (IntKind.wrap .u8 (x42 + (1 : Int))) (128 : Int)))).bind fun h45 =>
              kR (0 : Int) h45) (
              kR (0 : Int) h38))
          else (
            none))
        else (
          none))))
theorem g28_p0_eq {R : Type} (t0 : Option (Nat × Nat)) (t1 : Int) (t2 : Sl) (H : Heap) (K : Ex → Fr → Heap → Option R) : ev2 Try.prog (E28) loopLim lv28 Try.f28.ntmps kp28 c28_0 [(0, (V.p t0)), (1, (V.i .u32 t1)), (2, (V.sl t2))] H K = g28_p0 R t0 t1 t2 H (fun t6 H => K .ret [(6, (V.i .i64 t6))] H) := by kernel_rfl
theorem g28_p0_lin {R S : Type} {k : S → Option R} {t0 : Option (Nat × Nat)} {t1 : Int} {t2 : Sl} {H : Heap} {fkR : Int → Heap → Option R} {gkR : Int → Heap → Option S} (hkR : ∀ t6 H, fkR t6 H = (gkR t6 H).bind k) : g28_p0 R t0 t1 t2 H fkR = (g28_p0 S t0 t1 t2 H gkR).bind k := by
  delta g28_p0
  repeat' (first | with_reducible (first | exact hkR _ _ | refine alo_lin fun _ _ => ?_ | refine g50_lin.l fun _ _ _ => ?_ | refine sl_lin ?_ ?_ | refine g36_lin.l fun _ _ => ?_ | refine il ?_ ?_ | refine g39_lin.l fun _ => ?_ | refine bl fun _ => ?_) | exact (rfl : (none : Option R) = (none : Option S).bind k))
noncomputable def g28_r : T28 := fun R t0 t1 t2 H K =>
  g28_p0 R t0 t1 t2 H (fun t6 H =>
    K t6 H)
theorem g28_r_lin : Lin28 (g28_r) := by
  constructor
  intro R S k t0 t1 t2 H f g h
  exact g28_p0_lin (fun t6 H =>
    h _ _)
theorem g28_fn {R : Type} (t0 : Option (Nat × Nat)) (t1 : Int) (t2 : Sl) (H : Heap) (K : V → Heap → Option R) : evFn2 Try.prog (E28) loopLim lv28 Try.f28 kp28 [(V.p t0), (V.i .u32 t1), (V.sl t2)] H K = g28_r R t0 t1 t2 H (fun r0 H => K (V.i .i64 r0) H) := by
  have h0 : ∀ (t6 : Int) (H : Heap), kFn2 Try.prog Try.f28.results.toList K .ret [(6, (V.i .i64 t6))] H =
      K (V.i .i64 t6) H := by intros; kernel_rfl
  have e0 := evFn2_code2 (P := Try.prog) (c := c28_0) (E := (E28)) (lr := loopLim) (lv := lv28) (kp := kp28) (fn := Try.f28) (args := [(V.p t0), (V.i .u32 t1), (V.sl t2)]) H K (by kernel_rfl) (Nat.le_of_ble_eq_true (by kernel_rfl)) (by kernel_rfl) (by kernel_rfl)
  have e1 : ev2 Try.prog (E28) loopLim lv28 Try.f28.ntmps kp28 c28_0 (argFr 0 [(V.p t0), (V.i .u32 t1), (V.sl t2)]) H (kFn2 Try.prog Try.f28.results.toList K) = ev2 Try.prog (E28) loopLim lv28 Try.f28.ntmps kp28 c28_0 [(0, (V.p t0)), (1, (V.i .u32 t1)), (2, (V.sl t2))] H (kFn2 Try.prog Try.f28.results.toList K) := by kernel_rfl
  refine (e0.trans e1).trans ?_
  delta g28_r
  exact (g28_p0_eq t0 t1 t2 H (kFn2 Try.prog Try.f28.results.toList K)).trans (congrArg (g28_p0 R t0 t1 t2 H) (funext fun t6 => funext fun H => h0 t6 H))
theorem g28_ok : FunOK Try.prog 28 (w28 (g28_r)) := by
  refine (runF2_ok (E28_good) mixed lim_ok Try.func28 (by kernel_rfl) lv28 kp28).of_le fun R args H K r hk => ?_
  unfold w28 at hk
  split at hk
  · exact (g28_fn _ _ _ H K).trans hk
  · cases hk
noncomputable def g28 : T28 := g28_r
theorem g28_lin : Lin28 g28 := g28_r_lin
theorem ok28 : FunOK Try.prog 28 (w28 g28) := g28_ok
def kp32 : Nat → Option (List Nat) := kpOf [(0, [0, 1, 2]), (1, [0, 2, 7, 8]), (2, [0, 2, 7, 8, 16]), (3, [6]), (4, [0, 2, 7, 20]), (5, [6]), (6, [0, 2, 7, 23]), (7, []), (8, [6]), (9, [7]), (10, []), (11, [6]), (100000, [0, 2, 7]), (200000, [0, 2, 7, 8]), (300000, [6]), (400016, [0, 2, 7]), (400020, [0, 2, 7]), (400023, [0, 2, 7])]
noncomputable def E32 : FEnv := [(50, w50 g50), (53, w53 g53), (39, w39 g39), (51, w51 g51)]
theorem E32_good : EnvGood Try.prog (E32) := (((((EnvGood.nil _).cons ok51 (w51_lin g51_lin)).cons ok39 (w39_lin g39_lin)).cons ok53 (w53_lin g53_lin)).cons ok50 (w50_lin g50_lin))
theorem E32_lin : EnvLin (E32) := by
  intro g F h
  simp only [E32, List.mem_cons, List.not_mem_nil, or_false] at h
  rcases h with h | h | h | h
  · cases h; exact w50_lin g50_lin
  · cases h; exact w53_lin g53_lin
  · cases h; exact w39_lin g39_lin
  · cases h; exact w51_lin g51_lin
def lv32 : Nat → Bool := lvOf []
noncomputable def b32 : Code := Try.f32.body.getD .skip
noncomputable def c32_0 : Code := (.seq (codeAt [0] b32) (.seq (codeAt [1, 0] b32) (.seq (.block 0 (.seq (codeAt [1, 1, 0, 0, 0] b32) (.cond (.tmp 16) (.seq (codeAt [1, 1, 0, 0, 1, 0, 0] b32) .ret) (.seq (codeAt [1, 1, 0, 0, 1, 1, 0] b32) (.cond (.tmp 20) (.seq (codeAt [1, 1, 0, 0, 1, 1, 1, 0, 0] b32) .ret) (.seq (codeAt [1, 1, 0, 0, 1, 1, 1, 1, 0] b32) (.cond (.tmp 23) (.seq (codeAt [1, 1, 0, 0, 1, 1, 1, 1, 1, 0, 0] b32) (.seq (codeAt [1, 1, 0, 0, 1, 1, 1, 1, 1, 0, 1, 0] b32) .ret)) .skip))))))) (.seq (codeAt [1, 1, 1, 0] b32) (.seq (codeAt [1, 1, 1, 1, 0] b32) (.seq (codeAt [1, 1, 1, 1, 1, 0] b32) .ret))))))
noncomputable def g32_p0 (R : Type) (t0 : Option (Nat × Nat)) (t1 : Int) (t2 : Int) (H : Heap) (kR : Int → Heap → Option R) : Option R :=
  alo H (.cells [(V.i .u8 (1 : Int)), (V.i .u8 (3 : Int))] 96 false) fun i1 h2 =>
  g50 R t0 t1 (Sl.mk (some (i1, 0)) 2 (.ex 2)) h2 fun x3 x4 h5 =>
  sel (x4 != (0 : Int)) (
    kR x4 h5) (
    sel (decide (t2 < (16 : Int))) (
      kR (1 : Int) h5) (
      (x3).bind fun q6 =>
      ((h5).ldI .u8 q6.1 (q6.2 + 4)).bind fun x7 =>
      sel (x7 == (1 : Int)) (
        g53 R t0 x3 h5 fun h8 =>
        kR (0 : Int) h8) (
        g39 R t0 x3 (7 : Int) (0 : Int) (0 : Int) (0 : Int) (0 : Int) (0 : Int) t2 (Sl.mk none 0 (.ex 0)) h5 fun h9 =>
        g51 R x3 (4 : Int) h9 fun h10 =>
        kR (0 : Int) h10)))
theorem g32_p0_eq {R : Type} (t0 : Option (Nat × Nat)) (t1 : Int) (t2 : Int) (H : Heap) (K : Ex → Fr → Heap → Option R) : ev2 Try.prog (E32) loopLim lv32 Try.f32.ntmps kp32 c32_0 [(0, (V.p t0)), (1, (V.i .u32 t1)), (2, (V.i .u8 t2))] H K = g32_p0 R t0 t1 t2 H (fun t6 H => K .ret [(6, (V.i .i64 t6))] H) := by kernel_rfl
theorem g32_p0_lin {R S : Type} {k : S → Option R} {t0 : Option (Nat × Nat)} {t1 : Int} {t2 : Int} {H : Heap} {fkR : Int → Heap → Option R} {gkR : Int → Heap → Option S} (hkR : ∀ t6 H, fkR t6 H = (gkR t6 H).bind k) : g32_p0 R t0 t1 t2 H fkR = (g32_p0 S t0 t1 t2 H gkR).bind k := by
  delta g32_p0; exact (
    alo_lin fun i1 h2 =>
    g50_lin.l fun x3 x4 h5 =>
    sl_lin (
      hkR _ _) (
      sl_lin (
        hkR _ _) (
        bl fun q6 =>
        bl fun x7 =>
        sl_lin (
          g53_lin.l fun h8 =>
          hkR _ _) (
          g39_lin.l fun h9 =>
          g51_lin.l fun h10 =>
          hkR _ _))))
noncomputable def g32_r : T32 := fun R t0 t1 t2 H K =>
  g32_p0 R t0 t1 t2 H (fun t6 H =>
    K t6 H)
theorem g32_r_lin : Lin32 (g32_r) := by
  constructor
  intro R S k t0 t1 t2 H f g h
  exact g32_p0_lin (fun t6 H =>
    h _ _)
theorem g32_fn {R : Type} (t0 : Option (Nat × Nat)) (t1 : Int) (t2 : Int) (H : Heap) (K : V → Heap → Option R) : evFn2 Try.prog (E32) loopLim lv32 Try.f32 kp32 [(V.p t0), (V.i .u32 t1), (V.i .u8 t2)] H K = g32_r R t0 t1 t2 H (fun r0 H => K (V.i .i64 r0) H) := by
  have h0 : ∀ (t6 : Int) (H : Heap), kFn2 Try.prog Try.f32.results.toList K .ret [(6, (V.i .i64 t6))] H =
      K (V.i .i64 t6) H := by intros; kernel_rfl
  have e0 := evFn2_code2 (P := Try.prog) (c := c32_0) (E := (E32)) (lr := loopLim) (lv := lv32) (kp := kp32) (fn := Try.f32) (args := [(V.p t0), (V.i .u32 t1), (V.i .u8 t2)]) H K (by kernel_rfl) (Nat.le_of_ble_eq_true (by kernel_rfl)) (by kernel_rfl) (by kernel_rfl)
  have e1 : ev2 Try.prog (E32) loopLim lv32 Try.f32.ntmps kp32 c32_0 (argFr 0 [(V.p t0), (V.i .u32 t1), (V.i .u8 t2)]) H (kFn2 Try.prog Try.f32.results.toList K) = ev2 Try.prog (E32) loopLim lv32 Try.f32.ntmps kp32 c32_0 [(0, (V.p t0)), (1, (V.i .u32 t1)), (2, (V.i .u8 t2))] H (kFn2 Try.prog Try.f32.results.toList K) := by kernel_rfl
  refine (e0.trans e1).trans ?_
  delta g32_r
  exact (g32_p0_eq t0 t1 t2 H (kFn2 Try.prog Try.f32.results.toList K)).trans (congrArg (g32_p0 R t0 t1 t2 H) (funext fun t6 => funext fun H => h0 t6 H))
theorem g32_ok : FunOK Try.prog 32 (w32 (g32_r)) := by
  refine (runF2_ok (E32_good) mixed lim_ok Try.func32 (by kernel_rfl) lv32 kp32).of_le fun R args H K r hk => ?_
  unfold w32 at hk
  split at hk
  · exact (g32_fn _ _ _ H K).trans hk
  · cases hk
noncomputable def g32 : T32 := g32_r
theorem g32_lin : Lin32 g32 := g32_r_lin
theorem ok32 : FunOK Try.prog 32 (w32 g32) := g32_ok
def kp33 : Nat → Option (List Nat) := kpOf [(0, [0, 1, 2]), (1, [0, 2, 7, 8]), (2, [0, 2, 7, 8, 16]), (3, [6]), (4, [0, 2, 7, 20]), (5, [6]), (6, [0, 7]), (7, []), (8, [6]), (100000, [0, 2, 7]), (200000, [0, 2, 7, 8]), (300000, [6]), (400016, [0, 2, 7]), (400020, [0, 2, 7])]
noncomputable def E33 : FEnv := [(50, w50 g50), (39, w39 g39), (53, w53 g53)]
theorem E33_good : EnvGood Try.prog (E33) := ((((EnvGood.nil _).cons ok53 (w53_lin g53_lin)).cons ok39 (w39_lin g39_lin)).cons ok50 (w50_lin g50_lin))
theorem E33_lin : EnvLin (E33) := by
  intro g F h
  simp only [E33, List.mem_cons, List.not_mem_nil, or_false] at h
  rcases h with h | h | h
  · cases h; exact w50_lin g50_lin
  · cases h; exact w39_lin g39_lin
  · cases h; exact w53_lin g53_lin
def lv33 : Nat → Bool := lvOf []
noncomputable def b33 : Code := Try.f33.body.getD .skip
noncomputable def c33_0 : Code := (.seq (codeAt [0] b33) (.seq (codeAt [1, 0] b33) (.seq (.block 0 (.seq (codeAt [1, 1, 0, 0, 0] b33) (.cond (.tmp 16) (.seq (codeAt [1, 1, 0, 0, 1, 0, 0] b33) .ret) (.seq (codeAt [1, 1, 0, 0, 1, 1, 0] b33) (.cond (.tmp 20) (.seq (codeAt [1, 1, 0, 0, 1, 1, 1, 0, 0] b33) .ret) .skip))))) (.seq (codeAt [1, 1, 1, 0] b33) (.seq (codeAt [1, 1, 1, 1, 0] b33) (.seq (codeAt [1, 1, 1, 1, 1, 0] b33) .ret))))))
noncomputable def g33_p0 (R : Type) (t0 : Option (Nat × Nat)) (t1 : Int) (t2 : Int) (H : Heap) (kR : Int → Heap → Option R) : Option R :=
  alo H (.cells [(V.i .u8 (2 : Int))] 96 false) fun i1 h2 =>
  g50 R t0 t1 (Sl.mk (some (i1, 0)) 1 (.ex 1)) h2 fun x3 x4 h5 =>
  sel (x4 != (0 : Int)) (
    kR x4 h5) (
    sel (decide (t2 < (16 : Int))) (
      kR (1 : Int) h5) (
      g39 R t0 x3 (3 : Int) (0 : Int) (0 : Int) (0 : Int) (0 : Int) (0 : Int) t2 (Sl.mk none 0 (.ex 0)) h5 fun h6 =>
      g53 R t0 x3 h6 fun h7 =>
      kR (0 : Int) h7))
theorem g33_p0_eq {R : Type} (t0 : Option (Nat × Nat)) (t1 : Int) (t2 : Int) (H : Heap) (K : Ex → Fr → Heap → Option R) : ev2 Try.prog (E33) loopLim lv33 Try.f33.ntmps kp33 c33_0 [(0, (V.p t0)), (1, (V.i .u32 t1)), (2, (V.i .u8 t2))] H K = g33_p0 R t0 t1 t2 H (fun t6 H => K .ret [(6, (V.i .i64 t6))] H) := by kernel_rfl
theorem g33_p0_lin {R S : Type} {k : S → Option R} {t0 : Option (Nat × Nat)} {t1 : Int} {t2 : Int} {H : Heap} {fkR : Int → Heap → Option R} {gkR : Int → Heap → Option S} (hkR : ∀ t6 H, fkR t6 H = (gkR t6 H).bind k) : g33_p0 R t0 t1 t2 H fkR = (g33_p0 S t0 t1 t2 H gkR).bind k := by
  delta g33_p0; exact (
    alo_lin fun i1 h2 =>
    g50_lin.l fun x3 x4 h5 =>
    sl_lin (
      hkR _ _) (
      sl_lin (
        hkR _ _) (
        g39_lin.l fun h6 =>
        g53_lin.l fun h7 =>
        hkR _ _)))
noncomputable def g33_r : T33 := fun R t0 t1 t2 H K =>
  g33_p0 R t0 t1 t2 H (fun t6 H =>
    K t6 H)
theorem g33_r_lin : Lin33 (g33_r) := by
  constructor
  intro R S k t0 t1 t2 H f g h
  exact g33_p0_lin (fun t6 H =>
    h _ _)
theorem g33_fn {R : Type} (t0 : Option (Nat × Nat)) (t1 : Int) (t2 : Int) (H : Heap) (K : V → Heap → Option R) : evFn2 Try.prog (E33) loopLim lv33 Try.f33 kp33 [(V.p t0), (V.i .u32 t1), (V.i .u8 t2)] H K = g33_r R t0 t1 t2 H (fun r0 H => K (V.i .i64 r0) H) := by
  have h0 : ∀ (t6 : Int) (H : Heap), kFn2 Try.prog Try.f33.results.toList K .ret [(6, (V.i .i64 t6))] H =
      K (V.i .i64 t6) H := by intros; kernel_rfl
  have e0 := evFn2_code2 (P := Try.prog) (c := c33_0) (E := (E33)) (lr := loopLim) (lv := lv33) (kp := kp33) (fn := Try.f33) (args := [(V.p t0), (V.i .u32 t1), (V.i .u8 t2)]) H K (by kernel_rfl) (Nat.le_of_ble_eq_true (by kernel_rfl)) (by kernel_rfl) (by kernel_rfl)
  have e1 : ev2 Try.prog (E33) loopLim lv33 Try.f33.ntmps kp33 c33_0 (argFr 0 [(V.p t0), (V.i .u32 t1), (V.i .u8 t2)]) H (kFn2 Try.prog Try.f33.results.toList K) = ev2 Try.prog (E33) loopLim lv33 Try.f33.ntmps kp33 c33_0 [(0, (V.p t0)), (1, (V.i .u32 t1)), (2, (V.i .u8 t2))] H (kFn2 Try.prog Try.f33.results.toList K) := by kernel_rfl
  refine (e0.trans e1).trans ?_
  delta g33_r
  exact (g33_p0_eq t0 t1 t2 H (kFn2 Try.prog Try.f33.results.toList K)).trans (congrArg (g33_p0 R t0 t1 t2 H) (funext fun t6 => funext fun H => h0 t6 H))
theorem g33_ok : FunOK Try.prog 33 (w33 (g33_r)) := by
  refine (runF2_ok (E33_good) mixed lim_ok Try.func33 (by kernel_rfl) lv33 kp33).of_le fun R args H K r hk => ?_
  unfold w33 at hk
  split at hk
  · exact (g33_fn _ _ _ H K).trans hk
  · cases hk
noncomputable def g33 : T33 := g33_r
theorem g33_lin : Lin33 g33 := g33_r_lin
theorem ok33 : FunOK Try.prog 33 (w33 g33) := g33_ok
end Go.Proofs.Ytnlfkllnmobppaa

