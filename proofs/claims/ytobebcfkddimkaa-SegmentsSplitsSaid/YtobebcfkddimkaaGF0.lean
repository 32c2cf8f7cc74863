/- Printed: functions as the machine runs them. -/
import Derived.Test.YtobebcfkddimkaaGT
namespace Go.Proofs.Ytobebcfkddimkaa
open Go AM Go.RowKit
set_option linter.unusedVariables false
def kp32 : Nat → Option (List Nat) := kpOf [(0, [0]), (1, [0, 4]), (2, [2]), (3, [2]), (300000, [2]), (400004, [0])]
def E32 : FEnv := []
theorem E32_good : EnvGood Try.prog E32 := (EnvGood.nil _)
theorem E32_lin : EnvLin E32 := fun g F h => by cases h
noncomputable def b32 : Code := Try.f32.body.getD .skip
noncomputable def c32_0 : Code := (.seq (codeAt [0] b32) (.seq (codeAt [1, 0, 0] b32) (.seq (.cond (.tmp 4) (.seq (codeAt [1, 0, 1, 0, 0] b32) .ret) .skip) (.seq (codeAt [1, 1, 0] b32) .ret))))
noncomputable def g32_p0 (R : Type) (t0 : Sl) (H : Heap) (kR : Sl → Heap → Option R) : Option R :=
  sel (Option.isNone t0.a) (
    kR (Sl.mk none 0 (.ex 0)) H) (
    alo H (.cells [] 5 false) fun i1 h2 =>
    ((slCells h2 1 t0)).bind fun vs5 =>
    appendV h2 5 1 1 (Sl.mk (some (i1, 0)) 0 (.ex 0)) t0.len vs5 fun s3 h4 =>
    kR s3 h4)
theorem g32_p0_eq {R : Type} (t0 : Sl) (H : Heap) (K : Ex → Fr → Heap → Option R) : ev Try.prog E32 loopLim Try.f32.ntmps kp32 c32_0 [(0, (V.sl t0))] H K = g32_p0 R t0 H (fun t2 H => K .ret [(2, (V.sl t2))] H) := by kernel_rfl
theorem g32_p0_lin {R S : Type} {k : S → Option R} {t0 : Sl} {H : Heap} {fkR : Sl → Heap → Option R} {gkR : Sl → Heap → Option S} (hkR : ∀ t2 H, fkR t2 H = (gkR t2 H).bind k) : g32_p0 R t0 H fkR = (g32_p0 S t0 H gkR).bind k := by
  delta g32_p0; exact (
    sl_lin (
      hkR _ _) (
      alo_lin fun i1 h2 =>
      bl fun vs5 =>
      appendV_lin fun s3 h4 =>
      hkR _ _))
noncomputable def g32_r : T32 := fun R t0 H K =>
  g32_p0 R t0 H (fun t2 H =>
    K t2 H)
theorem g32_r_lin : Lin32 (g32_r) := by
  constructor
  intro R S k t0 H f g h
  exact g32_p0_lin (fun t2 H =>
    h _ _)
theorem g32_fn {R : Type} (t0 : Sl) (H : Heap) (K : V → Heap → Option R) : evFn Try.prog E32 loopLim Try.f32 kp32 [(V.sl t0)] H K = g32_r R t0 H (fun r0 H => K (V.sl r0) H) := by
  have h0 : ∀ (t2 : Sl) (H : Heap), kFn Try.prog Try.f32.results.toList K .ret [(2, (V.sl t2))] H =
      K (V.sl t2) H := by intros; kernel_rfl
  have e0 := evFn_code2 (P := Try.prog) (c := c32_0) (E := E32) (lr := loopLim) (kp := kp32) (fn := Try.f32) (args := [(V.sl t0)]) H K (by kernel_rfl) (Nat.le_of_ble_eq_true (by kernel_rfl)) (by kernel_rfl)
  have e1 : ev Try.prog E32 loopLim Try.f32.ntmps kp32 c32_0 (argFr 0 [(V.sl t0)]) H (kFn Try.prog Try.f32.results.toList K) = ev Try.prog E32 loopLim Try.f32.ntmps kp32 c32_0 [(0, (V.sl t0))] H (kFn Try.prog Try.f32.results.toList K) := by kernel_rfl
  refine (e0.trans e1).trans ?_
  delta g32_r
  exact (g32_p0_eq t0 H (kFn Try.prog Try.f32.results.toList K)).trans (congrArg (g32_p0 R t0 H) (funext fun t2 => funext fun H => h0 t2 H))
theorem g32_ok : FunOK Try.prog 32 (w32 (g32_r)) := by
  refine (runF_ok (E32_good) mixed lim_ok Try.func32 (by kernel_rfl) kp32).of_le fun R args H K r hk => ?_
  unfold w32 at hk
  split at hk
  · exact (g32_fn _ H K).trans hk
  · cases hk
def kp31 : Nat → Option (List Nat) := kpOf [(0, [0]), (1, [2]), (300000, [2])]
def E31 : FEnv := []
theorem E31_good : EnvGood Try.prog E31 := (EnvGood.nil _)
theorem E31_lin : EnvLin E31 := fun g F h => by cases h
noncomputable def b31 : Code := Try.f31.body.getD .skip
noncomputable def c31_0 : Code := (.seq (codeAt [0] b31) (.seq (codeAt [1, 0] b31) .ret))
noncomputable def g31_p0 (R : Type) (t0 : Sl) (H : Heap) (kR : Sl → Heap → Option R) : Option R :=
  slOf 1 t0 none (some ((t0.len : Nat) : Int)) (some ((t0.len : Nat) : Int)) fun s1 =>
  kR s1 H
theorem g31_p0_eq {R : Type} (t0 : Sl) (H : Heap) (K : Ex → Fr → Heap → Option R) : ev Try.prog E31 loopLim Try.f31.ntmps kp31 c31_0 [(0, (V.sl t0))] H K = g31_p0 R t0 H (fun t2 H => K .ret [(2, (V.sl t2))] H) := by kernel_rfl
theorem g31_p0_lin {R S : Type} {k : S → Option R} {t0 : Sl} {H : Heap} {fkR : Sl → Heap → Option R} {gkR : Sl → Heap → Option S} (hkR : ∀ t2 H, fkR t2 H = (gkR t2 H).bind k) : g31_p0 R t0 H fkR = (g31_p0 S t0 H gkR).bind k := by
  delta g31_p0; exact (
    slOf_lin fun s1 =>
    hkR _ _)
noncomputable def g31_r : T31 := fun R t0 H K =>
  g31_p0 R t0 H (fun t2 H =>
    K t2 H)
theorem g31_r_lin : Lin31 (g31_r) := by
  constructor
  intro R S k t0 H f g h
  exact g31_p0_lin (fun t2 H =>
    h _ _)
theorem g31_fn {R : Type} (t0 : Sl) (H : Heap) (K : V → Heap → Option R) : evFn Try.prog E31 loopLim Try.f31 kp31 [(V.sl t0)] H K = g31_r R t0 H (fun r0 H => K (V.sl r0) H) := by
  have h0 : ∀ (t2 : Sl) (H : Heap), kFn Try.prog Try.f31.results.toList K .ret [(2, (V.sl t2))] H =
      K (V.sl t2) H := by intros; kernel_rfl
  have e0 := evFn_code2 (P := Try.prog) (c := c31_0) (E := E31) (lr := loopLim) (kp := kp31) (fn := Try.f31) (args := [(V.sl t0)]) H K (by kernel_rfl) (Nat.le_of_ble_eq_true (by kernel_rfl)) (by kernel_rfl)
  have e1 : ev Try.prog E31 loopLim Try.f31.ntmps kp31 c31_0 (argFr 0 [(V.sl t0)]) H (kFn Try.prog Try.f31.results.toList K) = ev Try.prog E31 loopLim Try.f31.ntmps kp31 c31_0 [(0, (V.sl t0))] H (kFn Try.prog Try.f31.results.toList K) := by kernel_rfl
  refine (e0.trans e1).trans ?_
  delta g31_r
  exact (g31_p0_eq t0 H (kFn Try.prog Try.f31.results.toList K)).trans (congrArg (g31_p0 R t0 H) (funext fun t2 => funext fun H => h0 t2 H))
theorem g31_ok : FunOK Try.prog 31 (w31 (g31_r)) := by
  refine (runF_ok (E31_good) mixed lim_ok Try.func31 (by kernel_rfl) kp31).of_le fun R args H K r hk => ?_
  unfold w31 at hk
  split at hk
  · exact (g31_fn _ H K).trans hk
  · cases hk
def kp18 : Nat → Option (List Nat) := kpOf [(0, [0, 1, 2]), (1, [0, 1, 2, 17]), (2, [6, 7]), (3, [0, 1, 2, 8]), (4, [0, 1, 2, 8, 27]), (5, [6, 7]), (6, [0, 1, 2, 8, 9]), (7, [0, 1, 2, 8, 9, 31, 32]), (8, [0, 1, 2, 8, 9, 31, 32, 33]), (9, [0, 1, 2, 8, 9, 10, 31, 32]), (10, [0, 1, 2, 8, 9, 10, 11, 31, 32]), (11, [0, 1, 2, 8, 9, 31, 32]), (12, [0, 1, 2, 8, 9, 31, 32]), (13, [6, 7]), (100000, [9]), (100001, [0, 1, 2, 8, 9, 31, 32]), (200000, [0, 1, 2, 8, 9, 31, 32]), (200001, [0, 1, 2, 8, 9, 31, 32]), (300000, [6, 7]), (400017, [0, 1, 2]), (400027, [0, 1, 2, 8]), (400033, [0, 1, 2, 8, 9, 31, 32])]
def E18 (a32 : T32) (a31 : T31) : FEnv := [(32, w32 a32), (31, w31 a31)]
theorem E18_good {a32 : T32} {a31 : T31} (oa32 : FunOK Try.prog 32 (w32 a32)) (oa31 : FunOK Try.prog 31 (w31 a31)) (la32 : Lin32 a32) (la31 : Lin31 a31) : EnvGood Try.prog (E18 a32 a31) := (((EnvGood.nil _).cons oa31 (w31_lin la31)).cons oa32 (w32_lin la32))
theorem E18_lin {a32 : T32} {a31 : T31} (la32 : Lin32 a32) (la31 : Lin31 a31) : EnvLin (E18 a32 a31) := by
  intro g F h
  simp only [E18, List.mem_cons, List.not_mem_nil, or_false] at h
  rcases h with h | h
  · cases h; exact w32_lin la32
  · cases h; exact w31_lin la31
noncomputable def b18 : Code := Try.f18.body.getD .skip
noncomputable def c18_0 : Code := (.seq (codeAt [1, 1, 1, 1, 1, 0, 1, 0, 0, 0] b18) (.seq (.cond (.tmp 33) .skip (.exit 0)) (.seq (.block 1 (.seq (codeAt [1, 1, 1, 1, 1, 0, 1, 0, 0, 1, 1, 0, 0, 0] b18) (.seq (codeAt [1, 1, 1, 1, 1, 0, 1, 0, 0, 1, 1, 0, 0, 1, 0] b18) (codeAt [1, 1, 1, 1, 1, 0, 1, 0, 0, 1, 1, 0, 0, 1, 1] b18)))) (codeAt [1, 1, 1, 1, 1, 0, 1, 0, 0, 1, 1, 1] b18))))
noncomputable def c18_1 : Code := (.loop c18_0)
noncomputable def c18_2 : Code := (.block 0 c18_1)
noncomputable def c18_3 : Code := (.seq (codeAt [1, 1, 1, 1, 1, 1, 0] b18) .ret)
noncomputable def c18_4 : Code := (.seq c18_2 c18_3)
noncomputable def c18_5 : Code := (.seq (codeAt [0] b18) (.seq (codeAt [1, 0, 0] b18) (.seq (.cond (.tmp 17) (.seq (codeAt [1, 0, 1, 0, 0] b18) .ret) .skip) (.seq (codeAt [1, 1, 0] b18) (.seq (codeAt [1, 1, 1, 0, 0] b18) (.seq (.cond (.tmp 27) (.seq (codeAt [1, 1, 1, 0, 1, 0, 0] b18) .ret) .skip) (.seq (codeAt [1, 1, 1, 1, 0] b18) (.seq (codeAt [1, 1, 1, 1, 1, 0, 0] b18) c18_4))))))))
noncomputable def g18_p0 (a32 : T32) (a31 : T31) (R : Type) (t0 : Int) (t1 : Sl) (t2 : Int) (H : Heap) (kN : Int → Sl → Int → Int → Sl → Int → Int → Heap → Option R) (kR : Sl → Int → Heap → Option R) : Option R :=
  sel (decide (t2 < (1 : Int))) (
    kR (Sl.mk none 0 (.ex 0)) (1 : Int) H) (
    sel (decide (t2 > (256 : Int))) (
      kR (Sl.mk none 0 (.ex 0)) (1 : Int) H) (
      if t2 = 0 then (
        none)
      else (
        sel (decide ((if (IntKind.wrap .i64 (Int.tdiv (IntKind.wrap .i64 ((IntKind.wrap .i64 (((t1.len : Nat) : Int) + t2)) - (1 : Int))) t2)) > (1 : Int) then (IntKind.wrap .i64 (Int.tdiv (IntKind.wrap .i64 ((IntKind.wrap .i64 (((t1.len : Nat) : Int) + t2)) - (1 : Int))) t2)) else (1 : Int)) > (16 : Int))) (
          kR (Sl.mk none 0 (.ex 0)) (3 : Int) H) (
          if 0 ≤ (if (IntKind.wrap .i64 (Int.tdiv (IntKind.wrap .i64 ((IntKind.wrap .i64 (((t1.len : Nat) : Int) + t2)) - (1 : Int))) t2)) > (1 : Int) then (IntKind.wrap .i64 (Int.tdiv (IntKind.wrap .i64 ((IntKind.wrap .i64 (((t1.len : Nat) : Int) + t2)) - (1 : Int))) t2)) else (1 : Int)) ∧ (if (IntKind.wrap .i64 (Int.tdiv (IntKind.wrap .i64 ((IntKind.wrap .i64 (((t1.len : Nat) : Int) + t2)) - (1 : Int))) t2)) > (1 : Int) then (IntKind.wrap .i64 (Int.tdiv (IntKind.wrap .i64 ((IntKind.wrap .i64 (((t1.len : Nat) : Int) + t2)) - (1 : Int))) t2)) else (1 : Int)) ≤ (if (IntKind.wrap .i64 (Int.tdiv (IntKind.wrap .i64 ((IntKind.wrap .i64 (((t1.len : Nat) : Int) + t2)) - (1 : Int))) t2)) > (1 : Int) then (IntKind.wrap .i64 (Int.tdiv (IntKind.wrap .i64 ((IntKind.wrap .i64 (((t1.len : Nat) : Int) + t2)) - (1 : Int))) t2)) else (1 : Int)) ∧ (if (IntKind.wrap .i64 (Int.tdiv (IntKind.wrap .i64 ((IntKind.wrap .i64 (((t1.len : Nat) : Int) + t2)) - (1 : Int))) t2)) > (1 : Int) then (IntKind.wrap .i64 (Int.tdiv (IntKind.wrap .i64 ((IntKind.wrap .i64 (((t1.len : Nat) : Int) + t2)) - (1 : Int))) t2)) else (1 : Int)) ≤ 9223372036854775807 ∧ (if (IntKind.wrap .i64 (Int.tdiv (IntKind.wrap .i64 ((IntKind.wrap .i64 (((t1.len : Nat) : Int) + t2)) - (1 : Int))) t2)) > (1 : Int) then (IntKind.wrap .i64 (Int.tdiv (IntKind.wrap .i64 ((IntKind.wrap .i64 (((t1.len : Nat) : Int) + t2)) - (1 : Int))) t2)) else (1 : Int)) * ((32 : Nat) : Int) ≤ 281474976710656 then (
            ((zeroCellsV Try.prog 45 (Int.toNat (if (IntKind.wrap .i64 (Int.tdiv (IntKind.wrap .i64 ((IntKind.wrap .i64 (((t1.len : Nat) : Int) + t2)) - (1 : Int))) t2)) > (1 : Int) then (IntKind.wrap .i64 (Int.tdiv (IntKind.wrap .i64 ((IntKind.wrap .i64 (((t1.len : Nat) : Int) + t2)) - (1 : Int))) t2)) else (1 : Int))))).bind fun vs4 =>
            alo H (.cells vs4 45 false) fun i5 h6 =>
            kN t0 t1 t2 (if (IntKind.wrap .i64 (Int.tdiv (IntKind.wrap .i64 ((IntKind.wrap .i64 (((t1.len : Nat) : Int) + t2)) - (1 : Int))) t2)) > (1 : Int) then (IntKind.wrap .i64 (Int.tdiv (IntKind.wrap .i64 ((IntKind.wrap .i64 (((t1.len : Nat) : Int) + t2)) - (1 : Int))) t2)) else (1 : Int)) (Sl.mk (some (i5, 0)) (Int.toNat (if (IntKind.wrap .i64 (Int.tdiv (IntKind.wrap .i64 ((IntKind.wrap .i64 (((t1.len : Nat) : Int) + t2)) - (1 : Int))) t2)) > (1 : Int) then (IntKind.wrap .i64 (Int.tdiv (IntKind.wrap .i64 ((IntKind.wrap .i64 (((t1.len : Nat) : Int) + t2)) - (1 : Int))) t2)) else (1 : Int))) (.ex (Int.toNat (if (IntKind.wrap .i64 (Int.tdiv (IntKind.wrap .i64 ((IntKind.wrap .i64 (((t1.len : Nat) : Int) + t2)) - (1 : Int))) t2)) > (1 : Int) then (IntKind.wrap .i64 (Int.tdiv (IntKind.wrap .i64 ((IntKind.wrap .i64 (((t1.len : Nat) : Int) + t2)) - (1 : Int))) t2)) else (1 : Int))))) (((Sl.mk (some (i5, 0)) (Int.toNat (if (IntKind.wrap .i64 (Int.tdiv (IntKind.wrap .i64 ((IntKind.wrap .i64 (((t1.len : Nat) : Int) + t2)) - (1 : Int))) t2)) > (1 : Int) then (IntKind.wrap .i64 (Int.tdiv (IntKind.wrap .i64 ((IntKind.wrap .i64 (((t1.len : Nat) : Int) + t2)) - (1 : Int))) t2)) else (1 : Int))) (.ex (Int.toNat (if (IntKind.wrap .i64 (Int.tdiv (IntKind.wrap .i64 ((IntKind.wrap .i64 (((t1.len : Nat) : Int) + t2)) - (1 : Int))) t2)) > (1 : Int) then (IntKind.wrap .i64 (Int.tdiv (IntKind.wrap .i64 ((IntKind.wrap .i64 (((t1.len : Nat) : Int) + t2)) - (1 : Int))) t2)) else (1 : Int))))).len : Nat) : Int) (0 : Int) h6)
          else (
            none)))))
theorem g18_p0_eq (a32 : T32) (a31 : T31) {R : Type} (c2 : Code) (t0 : Int) (t1 : Sl) (t2 : Int) (H : Heap) (K : Ex → Fr → Heap → Option R) : ev Try.prog (E18 a32 a31) loopLim Try.f18.ntmps kp18 (.seq (codeAt [0] b18) (.seq (codeAt [1, 0, 0] b18) (.seq (.cond (.tmp 17) (.seq (codeAt [1, 0, 1, 0, 0] b18) .ret) .skip) (.seq (codeAt [1, 1, 0] b18) (.seq (codeAt [1, 1, 1, 0, 0] b18) (.seq (.cond (.tmp 27) (.seq (codeAt [1, 1, 1, 0, 1, 0, 0] b18) .ret) .skip) (.seq (codeAt [1, 1, 1, 1, 0] b18) (.seq (codeAt [1, 1, 1, 1, 1, 0, 0] b18) c2)))))))) [(0, (V.i .u32 t0)), (1, (V.sl t1)), (2, (V.i .i64 t2))] H K = g18_p0 a32 a31 R t0 t1 t2 H (fun t0 t1 t2 t8 t9 t31 t32 H => ev Try.prog (E18 a32 a31) loopLim Try.f18.ntmps kp18 c2 [(0, (V.i .u32 t0)), (1, (V.sl t1)), (2, (V.i .i64 t2)), (8, (V.i .i64 t8)), (9, (V.sl t9)), (31, (V.i .i64 t31)), (32, (V.i .i64 t32))] H K) (fun t6 t7 H => K .ret [(6, (V.sl t6)), (7, (V.i .i64 t7))] H) := by kernel_rfl
theorem g18_p0_lin {a32 : T32} {a31 : T31} (la32 : Lin32 a32) (la31 : Lin31 a31) {R S : Type} {k : S → Option R} {t0 : Int} {t1 : Sl} {t2 : Int} {H : Heap} {fkN : Int → Sl → Int → Int → Sl → Int → Int → Heap → Option R} {gkN : Int → Sl → Int → Int → Sl → Int → Int → Heap → Option S} {fkR : Sl → Int → Heap → Option R} {gkR : Sl → Int → Heap → Option S} (hkN : ∀ t0 t1 t2 t8 t9 t31 t32 H, fkN t0 t1 t2 t8 t9 t31 t32 H = (gkN t0 t1 t2 t8 t9 t31 t32 H).bind k) (hkR : ∀ t6 t7 H, fkR t6 t7 H = (gkR t6 t7 H).bind k) : g18_p0 a32 a31 R t0 t1 t2 H fkN fkR = (g18_p0 a32 a31 S t0 t1 t2 H gkN gkR).bind k := by
  delta g18_p0; exact (
    sl_lin (
      hkR _ _ _) (
      sl_lin (
        hkR _ _ _) (
        il (
          rfl) (
          sl_lin (
            hkR _ _ _) (
            il (
              bl fun vs4 =>
              alo_lin fun i5 h6 =>
              hkN _ _ _ _ _ _ _ _) (
              rfl))))))
noncomputable def g18_p1 (a32 : T32) (a31 : T31) (R : Type) (t0 : Int) (t1 : Sl) (t2 : Int) (t8 : Int) (t9 : Sl) (t31 : Int) (t32 : Int) (H : Heap) (kN : Int → Sl → Int → Int → Sl → Int → Int → Heap → Option R) (kE0 : Sl → Heap → Option R) : Option R :=
  sel (decide (t32 < t31)) (
    slOf 1 t1 (some (IntKind.wrap .i64 (t32 * t2))) (some (if ((t1.len : Nat) : Int) < (IntKind.wrap .i64 ((IntKind.wrap .i64 (t32 + (1 : Int))) * t2)) then ((t1.len : Nat) : Int) else (IntKind.wrap .i64 ((IntKind.wrap .i64 (t32 + (1 : Int))) * t2)))) none fun s7 =>
    a32 R s7 H fun x8 h9 =>
    a31 R x8 h9 fun x10 h11 =>
    if 0 ≤ t32 ∧ t32 < ((t9.len : Nat) : Int) then (
      (t9.a).bind fun q12 =>
      ((h11).sts q12.1 (q12.2 + Int.toNat t32 * 4) [(V.i .u32 t0), (V.b (t32 == (0 : Int))), (V.i .u8 (IntKind.wrap .u8 (IntKind.wrap .i64 ((IntKind.wrap .i64 (t8 - (1 : Int))) - t32)))), (V.sl x10)]).bind fun h13 =>
      kN t0 t1 t2 t8 t9 t31 (IntKind.wrap .i64 (t32 + (1 : Int))) h13)
    else (
      none)) (
    kE0 t9 H)
theorem g18_p1_eq (a32 : T32) (a31 : T31) (la32 : Lin32 a32) (la31 : Lin31 a31) {R : Type} (t0 : Int) (t1 : Sl) (t2 : Int) (t8 : Int) (t9 : Sl) (t31 : Int) (t32 : Int) (H : Heap) (K : Ex → Fr → Heap → Option R) : ev Try.prog (E18 a32 a31) loopLim Try.f18.ntmps kp18 c18_0 [(0, (V.i .u32 t0)), (1, (V.sl t1)), (2, (V.i .i64 t2)), (8, (V.i .i64 t8)), (9, (V.sl t9)), (31, (V.i .i64 t31)), (32, (V.i .i64 t32))] H K = g18_p1 a32 a31 R t0 t1 t2 t8 t9 t31 t32 H (fun t0 t1 t2 t8 t9 t31 t32 H => K .normal [(0, (V.i .u32 t0)), (1, (V.sl t1)), (2, (V.i .i64 t2)), (8, (V.i .i64 t8)), (9, (V.sl t9)), (31, (V.i .i64 t31)), (32, (V.i .i64 t32))] H) (fun t9 H => K (.exit 0) [(9, (V.sl t9))] H) := by kernel_rfl
theorem g18_p1_lin {a32 : T32} {a31 : T31} (la32 : Lin32 a32) (la31 : Lin31 a31) {R S : Type} {k : S → Option R} {t0 : Int} {t1 : Sl} {t2 : Int} {t8 : Int} {t9 : Sl} {t31 : Int} {t32 : Int} {H : Heap} {fkN : Int → Sl → Int → Int → Sl → Int → Int → Heap → Option R} {gkN : Int → Sl → Int → Int → Sl → Int → Int → Heap → Option S} {fkE0 : Sl → Heap → Option R} {gkE0 : Sl → Heap → Option S} (hkN : ∀ t0 t1 t2 t8 t9 t31 t32 H, fkN t0 t1 t2 t8 t9 t31 t32 H = (gkN t0 t1 t2 t8 t9 t31 t32 H).bind k) (hkE0 : ∀ t9 H, fkE0 t9 H = (gkE0 t9 H).bind k) : g18_p1 a32 a31 R t0 t1 t2 t8 t9 t31 t32 H fkN fkE0 = (g18_p1 a32 a31 S t0 t1 t2 t8 t9 t31 t32 H gkN gkE0).bind k := by
  delta g18_p1; exact (
    sl_lin (
      slOf_lin fun s7 =>
      la32.l fun x8 h9 =>
      la31.l fun x10 h11 =>
      il (
        bl fun q12 =>
        bl fun h13 =>
        hkN _ _ _ _ _ _ _ _) (
        rfl)) (
      hkE0 _ _))
abbrev g18_p2_S := Int × Sl × Int × Int × Sl × Int × Int
abbrev g18_p2_O := Sl
def g18_p2_es (s : g18_p2_S) : Fr := [(0, (V.i .u32 s.1)), (1, (V.sl s.2.1)), (2, (V.i .i64 s.2.2.1)), (8, (V.i .i64 s.2.2.2.1)), (9, (V.sl s.2.2.2.2.1)), (31, (V.i .i64 s.2.2.2.2.2.1)), (32, (V.i .i64 s.2.2.2.2.2.2))]
def g18_p2_er (r : g18_p2_O) : Ex × Fr := ((.exit 0), [(9, (V.sl r))])
noncomputable def g18_p2_b (a32 : T32) (a31 : T31) (s : g18_p2_S) (H : Heap) : Option (Rd g18_p2_S g18_p2_O × Heap) :=
  g18_p1 a32 a31 _ s.1 s.2.1 s.2.2.1 s.2.2.2.1 s.2.2.2.2.1 s.2.2.2.2.2.1 s.2.2.2.2.2.2 H (fun t0 t1 t2 t8 t9 t31 t32 H => some (.go (t0, t1, t2, t8, t9, t31, t32), H)) (fun t9 H => some (.up t9, H))
noncomputable def g18_p2 (a32 : T32) (a31 : T31) (R : Type) (t0 : Int) (t1 : Sl) (t2 : Int) (t8 : Int) (t9 : Sl) (t31 : Int) (t32 : Int) (H : Heap) (kE0 : Sl → Heap → Option R) : Option R :=
  (tlim (g18_p2_b a32 a31) (t0, t1, t2, t8, t9, t31, t32) H).bind fun p => kE0 p.1 p.2
theorem g18_p2_lin {a32 : T32} {a31 : T31} (la32 : Lin32 a32) (la31 : Lin31 a31) {R S : Type} {k : S → Option R} {t0 : Int} {t1 : Sl} {t2 : Int} {t8 : Int} {t9 : Sl} {t31 : Int} {t32 : Int} {H : Heap} {fkE0 : Sl → Heap → Option R} {gkE0 : Sl → Heap → Option S} (hkE0 : ∀ t9 H, fkE0 t9 H = (gkE0 t9 H).bind k) : g18_p2 a32 a31 R t0 t1 t2 t8 t9 t31 t32 H fkE0 = (g18_p2 a32 a31 S t0 t1 t2 t8 t9 t31 t32 H gkE0).bind k := by
  exact bl fun p => hkE0 _ _
theorem g18_p2_eq (a32 : T32) (a31 : T31) (la32 : Lin32 a32) (la31 : Lin31 a31) {R : Type} (t0 : Int) (t1 : Sl) (t2 : Int) (t8 : Int) (t9 : Sl) (t31 : Int) (t32 : Int) (H : Heap) (K : Ex → Fr → Heap → Option R) : ev Try.prog (E18 a32 a31) loopLim Try.f18.ntmps kp18 c18_1 [(0, (V.i .u32 t0)), (1, (V.sl t1)), (2, (V.i .i64 t2)), (8, (V.i .i64 t8)), (9, (V.sl t9)), (31, (V.i .i64 t31)), (32, (V.i .i64 t32))] H K = g18_p2 a32 a31 R t0 t1 t2 t8 t9 t31 t32 H (fun t9 H => K (.exit 0) [(9, (V.sl t9))] H) := by
  show ev Try.prog (E18 a32 a31) loopLim Try.f18.ntmps kp18 (.loop c18_0) [(0, (V.i .u32 t0)), (1, (V.sl t1)), (2, (V.i .i64 t2)), (8, (V.i .i64 t8)), (9, (V.sl t9)), (31, (V.i .i64 t31)), (32, (V.i .i64 t32))] H K = _
  delta g18_p2
  refine (ev_tlim (b := g18_p2_b a32 a31) (es := g18_p2_es) (er := g18_p2_er) (by intro r; exact nofun) (fun s H => ?_) (t0, t1, t2, t8, t9, t31, t32) H K).trans (bc fun p => rfl)
  exact (g18_p1_eq a32 a31 la32 la31 s.1 s.2.1 s.2.2.1 s.2.2.2.1 s.2.2.2.2.1 s.2.2.2.2.2.1 s.2.2.2.2.2.2 H ret3).trans (g18_p1_lin la32 la31 (fun _ _ _ _ _ _ _ _ => rfl) (fun _ _ => rfl))
noncomputable def g18_p3 (a32 : T32) (a31 : T31) (R : Type) (t0 : Int) (t1 : Sl) (t2 : Int) (t8 : Int) (t9 : Sl) (t31 : Int) (t32 : Int) (H : Heap) (kN : Sl → Heap → Option R) : Option R :=
  g18_p2 a32 a31 R t0 t1 t2 t8 t9 t31 t32 H (fun t9 H => kN t9 H)
theorem g18_p3_lin {a32 : T32} {a31 : T31} (la32 : Lin32 a32) (la31 : Lin31 a31) {R S : Type} {k : S → Option R} {t0 : Int} {t1 : Sl} {t2 : Int} {t8 : Int} {t9 : Sl} {t31 : Int} {t32 : Int} {H : Heap} {fkN : Sl → Heap → Option R} {gkN : Sl → Heap → Option S} (hkN : ∀ t9 H, fkN t9 H = (gkN t9 H).bind k) : g18_p3 a32 a31 R t0 t1 t2 t8 t9 t31 t32 H fkN = (g18_p3 a32 a31 S t0 t1 t2 t8 t9 t31 t32 H gkN).bind k := by
  exact g18_p2_lin la32 la31 (fun _ _ => hkN _ _)
theorem g18_p3_eq (a32 : T32) (a31 : T31) (la32 : Lin32 a32) (la31 : Lin31 a31) {R : Type} (t0 : Int) (t1 : Sl) (t2 : Int) (t8 : Int) (t9 : Sl) (t31 : Int) (t32 : Int) (H : Heap) (K : Ex → Fr → Heap → Option R) : ev Try.prog (E18 a32 a31) loopLim Try.f18.ntmps kp18 c18_2 [(0, (V.i .u32 t0)), (1, (V.sl t1)), (2, (V.i .i64 t2)), (8, (V.i .i64 t8)), (9, (V.sl t9)), (31, (V.i .i64 t31)), (32, (V.i .i64 t32))] H K = g18_p3 a32 a31 R t0 t1 t2 t8 t9 t31 t32 H (fun t9 H => K .normal [(9, (V.sl t9))] H) := by
  show ev Try.prog (E18 a32 a31) loopLim Try.f18.ntmps kp18 (.block 0 c18_1) [(0, (V.i .u32 t0)), (1, (V.sl t1)), (2, (V.i .i64 t2)), (8, (V.i .i64 t8)), (9, (V.sl t9)), (31, (V.i .i64 t31)), (32, (V.i .i64 t32))] H K = _
  rw [ev_block]
  delta g18_p3
  exact (g18_p2_eq a32 a31 la32 la31 t0 t1 t2 t8 t9 t31 t32 H (kBlock kp18 0 K))
noncomputable def g18_p4 (a32 : T32) (a31 : T31) (R : Type) (t9 : Sl) (H : Heap) (kR : Sl → Int → Heap → Option R) : Option R :=
  kR t9 (0 : Int) H
theorem g18_p4_eq (a32 : T32) (a31 : T31) (la32 : Lin32 a32) (la31 : Lin31 a31) {R : Type} (t9 : Sl) (H : Heap) (K : Ex → Fr → Heap → Option R) : ev Try.prog (E18 a32 a31) loopLim Try.f18.ntmps kp18 c18_3 [(9, (V.sl t9))] H K = g18_p4 a32 a31 R t9 H (fun t6 t7 H => K .ret [(6, (V.sl t6)), (7, (V.i .i64 t7))] H) := by kernel_rfl
theorem g18_p4_lin {a32 : T32} {a31 : T31} (la32 : Lin32 a32) (la31 : Lin31 a31) {R S : Type} {k : S → Option R} {t9 : Sl} {H : Heap} {fkR : Sl → Int → Heap → Option R} {gkR : Sl → Int → Heap → Option S} (hkR : ∀ t6 t7 H, fkR t6 t7 H = (gkR t6 t7 H).bind k) : g18_p4 a32 a31 R t9 H fkR = (g18_p4 a32 a31 S t9 H gkR).bind k := by
  delta g18_p4; exact (
    hkR _ _ _)
noncomputable def g18_p5 (a32 : T32) (a31 : T31) (R : Type) (t0 : Int) (t1 : Sl) (t2 : Int) (t8 : Int) (t9 : Sl) (t31 : Int) (t32 : Int) (H : Heap) (kR : Sl → Int → Heap → Option R) : Option R :=
  g18_p3 a32 a31 R t0 t1 t2 t8 t9 t31 t32 H (fun t9 H => g18_p4 a32 a31 R t9 H (fun t6 t7 H => kR t6 t7 H))
theorem g18_p5_lin {a32 : T32} {a31 : T31} (la32 : Lin32 a32) (la31 : Lin31 a31) {R S : Type} {k : S → Option R} {t0 : Int} {t1 : Sl} {t2 : Int} {t8 : Int} {t9 : Sl} {t31 : Int} {t32 : Int} {H : Heap} {fkR : Sl → Int → Heap → Option R} {gkR : Sl → Int → Heap → Option S} (hkR : ∀ t6 t7 H, fkR t6 t7 H = (gkR t6 t7 H).bind k) : g18_p5 a32 a31 R t0 t1 t2 t8 t9 t31 t32 H fkR = (g18_p5 a32 a31 S t0 t1 t2 t8 t9 t31 t32 H gkR).bind k := by
  exact g18_p3_lin la32 la31 (fun _ _ => g18_p4_lin la32 la31 (fun _ _ _ => hkR _ _ _))
theorem g18_p5_eq (a32 : T32) (a31 : T31) (la32 : Lin32 a32) (la31 : Lin31 a31) {R : Type} (t0 : Int) (t1 : Sl) (t2 : Int) (t8 : Int) (t9 : Sl) (t31 : Int) (t32 : Int) (H : Heap) (K : Ex → Fr → Heap → Option R) : ev Try.prog (E18 a32 a31) loopLim Try.f18.ntmps kp18 c18_4 [(0, (V.i .u32 t0)), (1, (V.sl t1)), (2, (V.i .i64 t2)), (8, (V.i .i64 t8)), (9, (V.sl t9)), (31, (V.i .i64 t31)), (32, (V.i .i64 t32))] H K = g18_p5 a32 a31 R t0 t1 t2 t8 t9 t31 t32 H (fun t6 t7 H => K .ret [(6, (V.sl t6)), (7, (V.i .i64 t7))] H) := by
  show ev Try.prog (E18 a32 a31) loopLim Try.f18.ntmps kp18 (.seq c18_2 c18_3) [(0, (V.i .u32 t0)), (1, (V.sl t1)), (2, (V.i .i64 t2)), (8, (V.i .i64 t8)), (9, (V.sl t9)), (31, (V.i .i64 t31)), (32, (V.i .i64 t32))] H K = _
  rw [ev_seq]
  delta g18_p5
  exact (g18_p3_eq a32 a31 la32 la31 t0 t1 t2 t8 t9 t31 t32 H (kSeq (fun fr H => ev Try.prog (E18 a32 a31) loopLim Try.f18.ntmps kp18 c18_3 fr H K) K)).trans (congrArg (g18_p3 a32 a31 R t0 t1 t2 t8 t9 t31 t32 H) (funext fun t9 => funext fun H => (kSeq_n _ _ _ _).trans (g18_p4_eq a32 a31 la32 la31 t9 H K)))
noncomputable def g18_p6 (a32 : T32) (a31 : T31) (R : Type) (t0 : Int) (t1 : Sl) (t2 : Int) (H : Heap) (kR : Sl → Int → Heap → Option R) : Option R :=
  g18_p0 a32 a31 R t0 t1 t2 H (fun t0 t1 t2 t8 t9 t31 t32 H => g18_p5 a32 a31 R t0 t1 t2 t8 t9 t31 t32 H (fun t6 t7 H => kR t6 t7 H)) (fun t6 t7 H => kR t6 t7 H)
theorem g18_p6_lin {a32 : T32} {a31 : T31} (la32 : Lin32 a32) (la31 : Lin31 a31) {R S : Type} {k : S → Option R} {t0 : Int} {t1 : Sl} {t2 : Int} {H : Heap} {fkR : Sl → Int → Heap → Option R} {gkR : Sl → Int → Heap → Option S} (hkR : ∀ t6 t7 H, fkR t6 t7 H = (gkR t6 t7 H).bind k) : g18_p6 a32 a31 R t0 t1 t2 H fkR = (g18_p6 a32 a31 S t0 t1 t2 H gkR).bind k := by
  exact g18_p0_lin la32 la31 (fun _ _ _ _ _ _ _ _ => g18_p5_lin la32 la31 (fun _ _ _ => hkR _ _ _)) (fun _ _ _ => hkR _ _ _)
theorem g18_p6_eq (a32 : T32) (a31 : T31) (la32 : Lin32 a32) (la31 : Lin31 a31) {R : Type} (t0 : Int) (t1 : Sl) (t2 : Int) (H : Heap) (K : Ex → Fr → Heap → Option R) : ev Try.prog (E18 a32 a31) loopLim Try.f18.ntmps kp18 c18_5 [(0, (V.i .u32 t0)), (1, (V.sl t1)), (2, (V.i .i64 t2))] H K = g18_p6 a32 a31 R t0 t1 t2 H (fun t6 t7 H => K .ret [(6, (V.sl t6)), (7, (V.i .i64 t7))] H) := by
  show ev Try.prog (E18 a32 a31) loopLim Try.f18.ntmps kp18 (.seq (codeAt [0] b18) (.seq (codeAt [1, 0, 0] b18) (.seq (.cond (.tmp 17) (.seq (codeAt [1, 0, 1, 0, 0] b18) .ret) .skip) (.seq (codeAt [1, 1, 0] b18) (.seq (codeAt [1, 1, 1, 0, 0] b18) (.seq (.cond (.tmp 27) (.seq (codeAt [1, 1, 1, 0, 1, 0, 0] b18) .ret) .skip) (.seq (codeAt [1, 1, 1, 1, 0] b18) (.seq (codeAt [1, 1, 1, 1, 1, 0, 0] b18) c18_4)))))))) [(0, (V.i .u32 t0)), (1, (V.sl t1)), (2, (V.i .i64 t2))] H K = _
  delta g18_p6
  exact (g18_p0_eq a32 a31 _ t0 t1 t2 H K).trans (congr (congrArg (g18_p0 a32 a31 R t0 t1 t2 H) (funext fun t0 => funext fun t1 => funext fun t2 => funext fun t8 => funext fun t9 => funext fun t31 => funext fun t32 => funext fun H => g18_p5_eq a32 a31 la32 la31 t0 t1 t2 t8 t9 t31 t32 H K)) rfl)
noncomputable def g18_r (a32 : T32) (a31 : T31) : T18 := fun R t0 t1 t2 H K =>
  g18_p6 a32 a31 R t0 t1 t2 H (fun t6 t7 H =>
    K t6 t7 H)
theorem g18_r_lin {a32 : T32} {a31 : T31} (la32 : Lin32 a32) (la31 : Lin31 a31) : Lin18 (g18_r a32 a31) := by
  constructor
  intro R S k t0 t1 t2 H f g h
  exact g18_p6_lin la32 la31 (fun t6 t7 H =>
    h _ _ _)
theorem g18_fn (a32 : T32) (a31 : T31) (la32 : Lin32 a32) (la31 : Lin31 a31) {R : Type} (t0 : Int) (t1 : Sl) (t2 : Int) (H : Heap) (K : V → Heap → Option R) : evFn Try.prog (E18 a32 a31) loopLim Try.f18 kp18 [(V.i .u32 t0), (V.sl t1), (V.i .i64 t2)] H K = g18_r a32 a31 R t0 t1 t2 H (fun r0 r1 H => K (V.tup [(V.sl r0), (V.i .i64 r1)]) H) := by
  have h0 : ∀ (t6 : Sl) (t7 : Int) (H : Heap), kFn Try.prog Try.f18.results.toList K .ret [(6, (V.sl t6)), (7, (V.i .i64 t7))] H =
      K (V.tup [(V.sl t6), (V.i .i64 t7)]) H := by intros; kernel_rfl
  have e0 := evFn_code2 (P := Try.prog) (c := c18_5) (E := (E18 a32 a31)) (lr := loopLim) (kp := kp18) (fn := Try.f18) (args := [(V.i .u32 t0), (V.sl t1), (V.i .i64 t2)]) H K (by kernel_rfl) (Nat.le_of_ble_eq_true (by kernel_rfl)) (by kernel_rfl)
  have e1 : ev Try.prog (E18 a32 a31) loopLim Try.f18.ntmps kp18 c18_5 (argFr 0 [(V.i .u32 t0), (V.sl t1), (V.i .i64 t2)]) H (kFn Try.prog Try.f18.results.toList K) = ev Try.prog (E18 a32 a31) loopLim Try.f18.ntmps kp18 c18_5 [(0, (V.i .u32 t0)), (1, (V.sl t1)), (2, (V.i .i64 t2))] H (kFn Try.prog Try.f18.results.toList K) := by kernel_rfl
  refine (e0.trans e1).trans ?_
  delta g18_r
  exact (g18_p6_eq a32 a31 la32 la31 t0 t1 t2 H (kFn Try.prog Try.f18.results.toList K)).trans (congrArg (g18_p6 a32 a31 R t0 t1 t2 H) (funext fun t6 => funext fun t7 => funext fun H => h0 t6 t7 H))
theorem g18_ok {a32 : T32} {a31 : T31} (oa32 : FunOK Try.prog 32 (w32 a32)) (oa31 : FunOK Try.prog 31 (w31 a31)) (la32 : Lin32 a32) (la31 : Lin31 a31) : FunOK Try.prog 18 (w18 (g18_r a32 a31)) := by
  refine (runF_ok (E18_good oa32 oa31 la32 la31) mixed lim_ok Try.func18 (by kernel_rfl) kp18).of_le fun R args H K r hk => ?_
  unfold w18 at hk
  split at hk
  · exact (g18_fn a32 a31 la32 la31 _ _ _ H K).trans hk
  · cases hk
def kp30 : Nat → Option (List Nat) := kpOf [(0, [1]), (1, [1, 3]), (2, [2]), (3, [7]), (4, [2]), (5, [2]), (100000, []), (200000, [1]), (300000, [2]), (400003, []), (400007, [])]
def E30 : FEnv := []
theorem E30_good : EnvGood Try.prog E30 := (EnvGood.nil _)
theorem E30_lin : EnvLin E30 := fun g F h => by cases h
noncomputable def b30 : Code := Try.f30.body.getD .skip
noncomputable def c30_0 : Code := (.seq (codeAt [0] b30) (.seq (.block 0 (.seq (codeAt [1, 0, 0, 0] b30) (.cond (.tmp 3) (.seq (codeAt [1, 0, 0, 1, 0, 0] b30) .ret) (.seq (codeAt [1, 0, 0, 1, 1, 0] b30) (.cond (.tmp 7) (.seq (codeAt [1, 0, 0, 1, 1, 1, 0, 0] b30) .ret) .skip))))) (.seq (codeAt [1, 1, 0] b30) .ret)))
noncomputable def g30_p0 (R : Type) (t0_0 : Int) (t0_1 : Bool) (t0_2 : Int) (t0_3 : Sl) (H : Heap) (kR : Int → Heap → Option R) : Option R :=
  alo H (.cells [(V.i .u32 t0_0), (V.b t0_1), (V.i .u8 t0_2), (V.sl t0_3)] 45 false) fun i1 h2 =>
  ((h2).ldI .u8 i1 (0 + 2)).bind fun x3 =>
  sel (decide (x3 ≥ (16 : Int))) (
    kR (1 : Int) h2) (
    ((h2).ldSl i1 (0 + 3)).bind fun x4 =>
    sel (decide (((x4.len : Nat) : Int) > (256 : Int))) (
      kR (3 : Int) h2) (
      kR (0 : Int) h2))
theorem g30_p0_eq {R : Type} (t0_0 : Int) (t0_1 : Bool) (t0_2 : Int) (t0_3 : Sl) (H : Heap) (K : Ex → Fr → Heap → Option R) : ev Try.prog E30 loopLim Try.f30.ntmps kp30 c30_0 [(0, (V.agg [(V.i .u32 t0_0), (V.b t0_1), (V.i .u8 t0_2), (V.sl t0_3)]))] H K = g30_p0 R t0_0 t0_1 t0_2 t0_3 H (fun t2 H => K .ret [(2, (V.i .i64 t2))] H) := by kernel_rfl
theorem g30_p0_lin {R S : Type} {k : S → Option R} {t0_0 : Int} {t0_1 : Bool} {t0_2 : Int} {t0_3 : Sl} {H : Heap} {fkR : Int → Heap → Option R} {gkR : Int → Heap → Option S} (hkR : ∀ t2 H, fkR t2 H = (gkR t2 H).bind k) : g30_p0 R t0_0 t0_1 t0_2 t0_3 H fkR = (g30_p0 S t0_0 t0_1 t0_2 t0_3 H gkR).bind k := by
  delta g30_p0; exact (
    alo_lin fun i1 h2 =>
    bl fun x3 =>
    sl_lin (
      hkR _ _) (
      bl fun x4 =>
      sl_lin (
        hkR _ _) (
        hkR _ _)))
noncomputable def g30_r : T30 := fun R t0_0 t0_1 t0_2 t0_3 H K =>
  g30_p0 R t0_0 t0_1 t0_2 t0_3 H (fun t2 H =>
    K t2 H)
theorem g30_r_lin : Lin30 (g30_r) := by
  constructor
  intro R S k t0_0 t0_1 t0_2 t0_3 H f g h
  exact g30_p0_lin (fun t2 H =>
    h _ _)
theorem g30_fn {R : Type} (t0_0 : Int) (t0_1 : Bool) (t0_2 : Int) (t0_3 : Sl) (H : Heap) (K : V → Heap → Option R) : evFn Try.prog E30 loopLim Try.f30 kp30 [(V.agg [(V.i .u32 t0_0), (V.b t0_1), (V.i .u8 t0_2), (V.sl t0_3)])] H K = g30_r R t0_0 t0_1 t0_2 t0_3 H (fun r0 H => K (V.i .i64 r0) H) := by
  have h0 : ∀ (t2 : Int) (H : Heap), kFn Try.prog Try.f30.results.toList K .ret [(2, (V.i .i64 t2))] H =
      K (V.i .i64 t2) H := by intros; kernel_rfl
  have e0 := evFn_code2 (P := Try.prog) (c := c30_0) (E := E30) (lr := loopLim) (kp := kp30) (fn := Try.f30) (args := [(V.agg [(V.i .u32 t0_0), (V.b t0_1), (V.i .u8 t0_2), (V.sl t0_3)])]) H K (by kernel_rfl) (Nat.le_of_ble_eq_true (by kernel_rfl)) (by kernel_rfl)
  have e1 : ev Try.prog E30 loopLim Try.f30.ntmps kp30 c30_0 (argFr 0 [(V.agg [(V.i .u32 t0_0), (V.b t0_1), (V.i .u8 t0_2), (V.sl t0_3)])]) H (kFn Try.prog Try.f30.results.toList K) = ev Try.prog E30 loopLim Try.f30.ntmps kp30 c30_0 [(0, (V.agg [(V.i .u32 t0_0), (V.b t0_1), (V.i .u8 t0_2), (V.sl t0_3)]))] H (kFn Try.prog Try.f30.results.toList K) := by kernel_rfl
  refine (e0.trans e1).trans ?_
  delta g30_r
  exact (g30_p0_eq t0_0 t0_1 t0_2 t0_3 H (kFn Try.prog Try.f30.results.toList K)).trans (congrArg (g30_p0 R t0_0 t0_1 t0_2 t0_3 H) (funext fun t2 => funext fun H => h0 t2 H))
theorem g30_ok : FunOK Try.prog 30 (w30 (g30_r)) := by
  refine (runF_ok (E30_good) mixed lim_ok Try.func30 (by kernel_rfl) kp30).of_le fun R args H K r hk => ?_
  unfold w30 at hk
  split at hk
  · exact (g30_fn _ _ _ _ H K).trans hk
  · cases hk
def kp19 : Nat → Option (List Nat) := kpOf [(0, [1]), (1, [1, 4]), (2, [1, 4, 10]), (3, [2, 3]), (4, [1, 5]), (5, [1, 5, 17]), (6, [1, 5, 17, 18]), (7, [1, 5, 6, 17]), (8, [1, 5, 17]), (9, [1, 5, 17]), (10, [1, 5]), (11, [1, 5, 35]), (12, [1, 5]), (13, [2, 3]), (100000, [1, 5]), (100001, [1, 5, 17]), (200000, [1, 5, 17]), (200001, [1, 5, 17]), (300000, [2, 3]), (400010, [1]), (400018, [1, 5, 17]), (400035, [1, 5])]
def E19 (a30 : T30) : FEnv := [(30, w30 a30)]
theorem E19_good {a30 : T30} (oa30 : FunOK Try.prog 30 (w30 a30)) (la30 : Lin30 a30) : EnvGood Try.prog (E19 a30) := ((EnvGood.nil _).cons oa30 (w30_lin la30))
theorem E19_lin {a30 : T30} (la30 : Lin30 a30) : EnvLin (E19 a30) := by
  intro g F h
  simp only [E19, List.mem_cons, List.not_mem_nil, or_false] at h
  rcases h with h
  · cases h; exact w30_lin la30
noncomputable def b19 : Code := Try.f19.body.getD .skip
noncomputable def c19_0 : Code := (.seq (codeAt [1, 1, 1, 0, 1, 0, 0, 0] b19) (.seq (.cond (.tmp 18) .skip (.exit 0)) (.seq (.block 1 (.seq (codeAt [1, 1, 1, 0, 1, 0, 0, 1, 1, 0, 0, 0] b19) (codeAt [1, 1, 1, 0, 1, 0, 0, 1, 1, 0, 0, 1] b19))) (codeAt [1, 1, 1, 0, 1, 0, 0, 1, 1, 1] b19))))
noncomputable def c19_1 : Code := (.loop c19_0)
noncomputable def c19_2 : Code := (.block 0 c19_1)
noncomputable def c19_3 : Code := (.seq (codeAt [1, 1, 1, 1, 0] b19) (.seq (codeAt [1, 1, 1, 1, 1, 0, 0] b19) (.seq (.cond (.tmp 35) (codeAt [1, 1, 1, 1, 1, 0, 1, 0] b19) .skip) (.seq (codeAt [1, 1, 1, 1, 1, 1, 0] b19) .ret))))
noncomputable def c19_4 : Code := (.seq c19_2 c19_3)
noncomputable def c19_5 : Code := (.seq (codeAt [0] b19) (.seq (codeAt [1, 0, 0] b19) (.seq (codeAt [1, 0, 1, 0] b19) (.seq (.cond (.tmp 10) (.seq (codeAt [1, 0, 1, 1, 0, 0] b19) .ret) .skip) (.seq (codeAt [1, 1, 0] b19) (.seq (codeAt [1, 1, 1, 0, 0] b19) c19_4))))))
noncomputable def g19_p0 (a30 : T30) (R : Type) (t0_0 : Int) (t0_1 : Bool) (t0_2 : Int) (t0_3 : Sl) (H : Heap) (kN : Nat → Nat → Sl → Int → Heap → Option R) (kR : Sl → Int → Heap → Option R) : Option R :=
  alo H (.cells [(V.i .u32 t0_0), (V.b t0_1), (V.i .u8 t0_2), (V.sl t0_3)] 45 false) fun i39 h40 =>
  ((h40).ldI .u32 i39 (0 + 0)).bind fun x41 =>
  ((h40).ldB i39 (0 + 1)).bind fun x42 =>
  ((h40).ldI .u8 i39 (0 + 2)).bind fun x43 =>
  ((h40).ldSl i39 (0 + 3)).bind fun x44 =>
  a30 R x41 x42 x43 x44 h40 fun x45 h46 =>
  sel (x45 != (0 : Int)) (
    kR (Sl.mk none 0 (.ex 0)) x45 h46) (
    ((h46).ldSl i39 (0 + 3)).bind fun x47 =>
    if 0 ≤ (5 : Int) ∧ (5 : Int) ≤ (IntKind.wrap .i64 ((5 : Int) + ((x47.len : Nat) : Int))) ∧ (IntKind.wrap .i64 ((5 : Int) + ((x47.len : Nat) : Int))) ≤ 9223372036854775807 ∧ (IntKind.wrap .i64 ((5 : Int) + ((x47.len : Nat) : Int))) * ((1 : Nat) : Int) ≤ 281474976710656 then (
      ((zeroCellsV Try.prog 5 (Int.toNat (IntKind.wrap .i64 ((5 : Int) + ((x47.len : Nat) : Int)))))).bind fun vs48 =>
      alo h46 (.cells vs48 5 false) fun i49 h50 =>
      kN i39 0 (Sl.mk (some (i49, 0)) (Int.toNat (5 : Int)) (.ex (Int.toNat (IntKind.wrap .i64 ((5 : Int) + ((x47.len : Nat) : Int)))))) (0 : Int) h50)
    else (
      none))
theorem g19_p0_eq (a30 : T30) {R : Type} (c2 : Code) (t0_0 : Int) (t0_1 : Bool) (t0_2 : Int) (t0_3 : Sl) (H : Heap) (K : Ex → Fr → Heap → Option R) : ev Try.prog (E19 a30) loopLim Try.f19.ntmps kp19 (.seq (codeAt [0] b19) (.seq (codeAt [1, 0, 0] b19) (.seq (codeAt [1, 0, 1, 0] b19) (.seq (.cond (.tmp 10) (.seq (codeAt [1, 0, 1, 1, 0, 0] b19) .ret) .skip) (.seq (codeAt [1, 1, 0] b19) (.seq (codeAt [1, 1, 1, 0, 0] b19) c2)))))) [(0, (V.agg [(V.i .u32 t0_0), (V.b t0_1), (V.i .u8 t0_2), (V.sl t0_3)]))] H K = g19_p0 a30 R t0_0 t0_1 t0_2 t0_3 H (fun t1_0 t1_1 t5 t17 H => ev Try.prog (E19 a30) loopLim Try.f19.ntmps kp19 c2 [(1, (V.p (some (t1_0, t1_1)))), (5, (V.sl t5)), (17, (V.i .i64 t17))] H K) (fun t2 t3 H => K .ret [(2, (V.sl t2)), (3, (V.i .i64 t3))] H) := by kernel_rfl
theorem g19_p0_lin {a30 : T30} (la30 : Lin30 a30) {R S : Type} {k : S → Option R} {t0_0 : Int} {t0_1 : Bool} {t0_2 : Int} {t0_3 : Sl} {H : Heap} {fkN : Nat → Nat → Sl → Int → Heap → Option R} {gkN : Nat → Nat → Sl → Int → Heap → Option S} {fkR : Sl → Int → Heap → Option R} {gkR : Sl → Int → Heap → Option S} (hkN : ∀ t1_0 t1_1 t5 t17 H, fkN t1_0 t1_1 t5 t17 H = (gkN t1_0 t1_1 t5 t17 H).bind k) (hkR : ∀ t2 t3 H, fkR t2 t3 H = (gkR t2 t3 H).bind k) : g19_p0 a30 R t0_0 t0_1 t0_2 t0_3 H fkN fkR = (g19_p0 a30 S t0_0 t0_1 t0_2 t0_3 H gkN gkR).bind k := by
  delta g19_p0; exact (
    alo_lin fun i39 h40 =>
    bl fun x41 =>
    bl fun x42 =>
    bl fun x43 =>
    bl fun x44 =>
    la30.l fun x45 h46 =>
    sl_lin (
      hkR _ _ _) (
      bl fun x47 =>
      il (
        bl fun vs48 =>
        alo_lin fun i49 h50 =>
        hkN _ _ _ _ _) (
        rfl)))
noncomputable def g19_p1 (a30 : T30) (R : Type) (t1_0 : Nat) (t1_1 : Nat) (t5 : Sl) (t17 : Int) (H : Heap) (kN : Nat → Nat → Sl → Int → Heap → Option R) (kE0 : Nat → Nat → Sl → Heap → Option R) : Option R :=
  sel (decide (t17 < (4 : Int))) (
    ((H).ldI .u32 t1_0 (t1_1 + 0)).bind fun x51 =>
    if (IntKind.wrap .i64 ((8 : Int) * t17)) < 0 then (
      none)
    else (
      if 0 ≤ t17 ∧ t17 < ((t5.len : Nat) : Int) then (
        (t5.a).bind fun q52 =>
        ((H).st q52.1 (q52.2 + Int.toNat t17 * 1) (V.i .u8 (IntKind.wrap .u8 (shrI .u32 x51 (IntKind.wrap .i64 ((8 : Int) * t17)))))).bind fun h54 =>
        kN t1_0 t1_1 t5 (IntKind.wrap .i64 (t17 + (1 : Int))) h54)
      else (
        none))) (
    kE0 t1_0 t1_1 t5 H)
theorem g19_p1_eq (a30 : T30) (la30 : Lin30 a30) {R : Type} (t1_0 : Nat) (t1_1 : Nat) (t5 : Sl) (t17 : Int) (H : Heap) (K : Ex → Fr → Heap → Option R) : ev Try.prog (E19 a30) loopLim Try.f19.ntmps kp19 c19_0 [(1, (V.p (some (t1_0, t1_1)))), (5, (V.sl t5)), (17, (V.i .i64 t17))] H K = g19_p1 a30 R t1_0 t1_1 t5 t17 H (fun t1_0 t1_1 t5 t17 H => K .normal [(1, (V.p (some (t1_0, t1_1)))), (5, (V.sl t5)), (17, (V.i .i64 t17))] H) (fun t1_0 t1_1 t5 H => K (.exit 0) [(1, (V.p (some (t1_0, t1_1)))), (5, (V.sl t5))] H) := by kernel_rfl
theorem g19_p1_lin {a30 : T30} (la30 : Lin30 a30) {R S : Type} {k : S → Option R} {t1_0 : Nat} {t1_1 : Nat} {t5 : Sl} {t17 : Int} {H : Heap} {fkN : Nat → Nat → Sl → Int → Heap → Option R} {gkN : Nat → Nat → Sl → Int → Heap → Option S} {fkE0 : Nat → Nat → Sl → Heap → Option R} {gkE0 : Nat → Nat → Sl → Heap → Option S} (hkN : ∀ t1_0 t1_1 t5 t17 H, fkN t1_0 t1_1 t5 t17 H = (gkN t1_0 t1_1 t5 t17 H).bind k) (hkE0 : ∀ t1_0 t1_1 t5 H, fkE0 t1_0 t1_1 t5 H = (gkE0 t1_0 t1_1 t5 H).bind k) : g19_p1 a30 R t1_0 t1_1 t5 t17 H fkN fkE0 = (g19_p1 a30 S t1_0 t1_1 t5 t17 H gkN gkE0).bind k := by
  delta g19_p1; exact (
    sl_lin (
      bl fun x51 =>
      il (
        rfl) (
        il (
          bl fun q52 =>
          bl fun h54 =>
          hkN _ _ _ _ _) (
          rfl))) (
      hkE0 _ _ _ _))
abbrev g19_p2_S := Nat × Nat × Sl × Int
abbrev g19_p2_O := Nat × Nat × Sl
def g19_p2_es (s : g19_p2_S) : Fr := [(1, (V.p (some (s.1, s.2.1)))), (5, (V.sl s.2.2.1)), (17, (V.i .i64 s.2.2.2))]
def g19_p2_er (r : g19_p2_O) : Ex × Fr := ((.exit 0), [(1, (V.p (some (r.1, r.2.1)))), (5, (V.sl r.2.2))])
noncomputable def g19_p2_b (a30 : T30) (s : g19_p2_S) (H : Heap) : Option (Rd g19_p2_S g19_p2_O × Heap) :=
  g19_p1 a30 _ s.1 s.2.1 s.2.2.1 s.2.2.2 H (fun t1_0 t1_1 t5 t17 H => some (.go (t1_0, t1_1, t5, t17), H)) (fun t1_0 t1_1 t5 H => some (.up (t1_0, t1_1, t5), H))
noncomputable def g19_p2 (a30 : T30) (R : Type) (t1_0 : Nat) (t1_1 : Nat) (t5 : Sl) (t17 : Int) (H : Heap) (kE0 : Nat → Nat → Sl → Heap → Option R) : Option R :=
  (tlim (g19_p2_b a30) (t1_0, t1_1, t5, t17) H).bind fun p => kE0 p.1.1 p.1.2.1 p.1.2.2 p.2
theorem g19_p2_lin {a30 : T30} (la30 : Lin30 a30) {R S : Type} {k : S → Option R} {t1_0 : Nat} {t1_1 : Nat} {t5 : Sl} {t17 : Int} {H : Heap} {fkE0 : Nat → Nat → Sl → Heap → Option R} {gkE0 : Nat → Nat → Sl → Heap → Option S} (hkE0 : ∀ t1_0 t1_1 t5 H, fkE0 t1_0 t1_1 t5 H = (gkE0 t1_0 t1_1 t5 H).bind k) : g19_p2 a30 R t1_0 t1_1 t5 t17 H fkE0 = (g19_p2 a30 S t1_0 t1_1 t5 t17 H gkE0).bind k := by
  exact bl fun p => hkE0 _ _ _ _
theorem g19_p2_eq (a30 : T30) (la30 : Lin30 a30) {R : Type} (t1_0 : Nat) (t1_1 : Nat) (t5 : Sl) (t17 : Int) (H : Heap) (K : Ex → Fr → Heap → Option R) : ev Try.prog (E19 a30) loopLim Try.f19.ntmps kp19 c19_1 [(1, (V.p (some (t1_0, t1_1)))), (5, (V.sl t5)), (17, (V.i .i64 t17))] H K = g19_p2 a30 R t1_0 t1_1 t5 t17 H (fun t1_0 t1_1 t5 H => K (.exit 0) [(1, (V.p (some (t1_0, t1_1)))), (5, (V.sl t5))] H) := by
  show ev Try.prog (E19 a30) loopLim Try.f19.ntmps kp19 (.loop c19_0) [(1, (V.p (some (t1_0, t1_1)))), (5, (V.sl t5)), (17, (V.i .i64 t17))] H K = _
  delta g19_p2
  refine (ev_tlim (b := g19_p2_b a30) (es := g19_p2_es) (er := g19_p2_er) (by intro r; exact nofun) (fun s H => ?_) (t1_0, t1_1, t5, t17) H K).trans (bc fun p => rfl)
  exact (g19_p1_eq a30 la30 s.1 s.2.1 s.2.2.1 s.2.2.2 H ret3).trans (g19_p1_lin la30 (fun _ _ _ _ _ => rfl) (fun _ _ _ _ => rfl))
noncomputable def g19_p3 (a30 : T30) (R : Type) (t1_0 : Nat) (t1_1 : Nat) (t5 : Sl) (t17 : Int) (H : Heap) (kN : Nat → Nat → Sl → Heap → Option R) : Option R :=
  g19_p2 a30 R t1_0 t1_1 t5 t17 H (fun t1_0 t1_1 t5 H => kN t1_0 t1_1 t5 H)
theorem g19_p3_lin {a30 : T30} (la30 : Lin30 a30) {R S : Type} {k : S → Option R} {t1_0 : Nat} {t1_1 : Nat} {t5 : Sl} {t17 : Int} {H : Heap} {fkN : Nat → Nat → Sl → Heap → Option R} {gkN : Nat → Nat → Sl → Heap → Option S} (hkN : ∀ t1_0 t1_1 t5 H, fkN t1_0 t1_1 t5 H = (gkN t1_0 t1_1 t5 H).bind k) : g19_p3 a30 R t1_0 t1_1 t5 t17 H fkN = (g19_p3 a30 S t1_0 t1_1 t5 t17 H gkN).bind k := by
  exact g19_p2_lin la30 (fun _ _ _ _ => hkN _ _ _ _)
theorem g19_p3_eq (a30 : T30) (la30 : Lin30 a30) {R : Type} (t1_0 : Nat) (t1_1 : Nat) (t5 : Sl) (t17 : Int) (H : Heap) (K : Ex → Fr → Heap → Option R) : ev Try.prog (E19 a30) loopLim Try.f19.ntmps kp19 c19_2 [(1, (V.p (some (t1_0, t1_1)))), (5, (V.sl t5)), (17, (V.i .i64 t17))] H K = g19_p3 a30 R t1_0 t1_1 t5 t17 H (fun t1_0 t1_1 t5 H => K .normal [(1, (V.p (some (t1_0, t1_1)))), (5, (V.sl t5))] H) := by
  show ev Try.prog (E19 a30) loopLim Try.f19.ntmps kp19 (.block 0 c19_1) [(1, (V.p (some (t1_0, t1_1)))), (5, (V.sl t5)), (17, (V.i .i64 t17))] H K = _
  rw [ev_block]
  delta g19_p3
  exact (g19_p2_eq a30 la30 t1_0 t1_1 t5 t17 H (kBlock kp19 0 K))
noncomputable def g19_p4 (a30 : T30) (R : Type) (t1_0 : Nat) (t1_1 : Nat) (t5 : Sl) (H : Heap) (kR : Sl → Int → Heap → Option R) : Option R :=
  ((H).ldI .u8 t1_0 (t1_1 + 2)).bind fun x55 =>
  if 0 ≤ (4 : Int) ∧ (4 : Int) < ((t5.len : Nat) : Int) then (
    (t5.a).bind fun q56 =>
    ((H).st q56.1 (q56.2 + Int.toNat (4 : Int) * 1) (V.i .u8 x55)).bind fun h58 =>
    ((h58).ldB t1_0 (t1_1 + 1)).bind fun x59 =>
    sel x59 (
      if 0 ≤ (4 : Int) ∧ (4 : Int) < ((t5.len : Nat) : Int) then (
        (t5.a).bind fun q60 =>
        ((h58).ldI .u8 q60.1 (q60.2 + Int.toNat (4 : Int) * 1)).bind fun x61 =>
        if 0 ≤ (4 : Int) ∧ (4 : Int) < ((t5.len : Nat) : Int) then (
          (t5.a).bind fun q62 =>
          ((h58).st q62.1 (q62.2 + Int.toNat (4 : Int) * 1) (V.i .u8 (bvOr .u8 x61 (128 : Int)))).bind fun h64 =>
          ((h64).ldSl t1_0 (t1_1 + 3)).bind fun x65 =>
          ((slCells h64 1 x65)).bind fun vs68 =>
          appendV h64 5 1 1 t5 x65.len vs68 fun s66 h67 =>
          kR s66 (0 : Int) h67)
        else (
          none))
      else (
        none)) (
      ((h58).ldSl t1_0 (t1_1 + 3)).bind fun x69 =>
      ((slCells h58 1 x69)).bind fun vs72 =>
      appendV h58 5 1 1 t5 x69.len vs72 fun s70 h71 =>
      kR s70 (0 : Int) h71))
  else (
    none)
theorem g19_p4_eq (a30 : T30) (la30 : Lin30 a30) {R : Type} (t1_0 : Nat) (t1_1 : Nat) (t5 : Sl) (H : Heap) (K : Ex → Fr → Heap → Option R) : ev Try.prog (E19 a30) loopLim Try.f19.ntmps kp19 c19_3 [(1, (V.p (some (t1_0, t1_1)))), (5, (V.sl t5))] H K = g19_p4 a30 R t1_0 t1_1 t5 H (fun t2 t3 H => K .ret [(2, (V.sl t2)), (3, (V.i .i64 t3))] H) := by kernel_rfl
theorem g19_p4_lin {a30 : T30} (la30 : Lin30 a30) {R S : Type} {k : S → Option R} {t1_0 : Nat} {t1_1 : Nat} {t5 : Sl} {H : Heap} {fkR : Sl → Int → Heap → Option R} {gkR : Sl → Int → Heap → Option S} (hkR : ∀ t2 t3 H, fkR t2 t3 H = (gkR t2 t3 H).bind k) : g19_p4 a30 R t1_0 t1_1 t5 H fkR = (g19_p4 a30 S t1_0 t1_1 t5 H gkR).bind k := by
  delta g19_p4; exact (
    bl fun x55 =>
    il (
      bl fun q56 =>
      bl fun h58 =>
      bl fun x59 =>
      sl_lin (
        il (
          bl fun q60 =>
          bl fun x61 =>
          il (
            bl fun q62 =>
            bl fun h64 =>
            bl fun x65 =>
            bl fun vs68 =>
            appendV_lin fun s66 h67 =>
            hkR _ _ _) (
            rfl)) (
          rfl)) (
        bl fun x69 =>
        bl fun vs72 =>
        appendV_lin fun s70 h71 =>
        hkR _ _ _)) (
      rfl))
noncomputable def g19_p5 (a30 : T30) (R : Type) (t1_0 : Nat) (t1_1 : Nat) (t5 : Sl) (t17 : Int) (H : Heap) (kR : Sl → Int → Heap → Option R) : Option R :=
  g19_p3 a30 R t1_0 t1_1 t5 t17 H (fun t1_0 t1_1 t5 H => g19_p4 a30 R t1_0 t1_1 t5 H (fun t2 t3 H => kR t2 t3 H))
theorem g19_p5_lin {a30 : T30} (la30 : Lin30 a30) {R S : Type} {k : S → Option R} {t1_0 : Nat} {t1_1 : Nat} {t5 : Sl} {t17 : Int} {H : Heap} {fkR : Sl → Int → Heap → Option R} {gkR : Sl → Int → Heap → Option S} (hkR : ∀ t2 t3 H, fkR t2 t3 H = (gkR t2 t3 H).bind k) : g19_p5 a30 R t1_0 t1_1 t5 t17 H fkR = (g19_p5 a30 S t1_0 t1_1 t5 t17 H gkR).bind k := by
  exact g19_p3_lin la30 (fun _ _ _ _ => g19_p4_lin la30 (fun _ _ _ => hkR _ _ _))
theorem g19_p5_eq (a30 : T30) (la30 : Lin30 a30) {R : Type} (t1_0 : Nat) (t1_1 : Nat) (t5 : Sl) (t17 : Int) (H : Heap) (K : Ex → Fr → Heap → Option R) : ev Try.prog (E19 a30) loopLim Try.f19.ntmps kp19 c19_4 [(1, (V.p (some (t1_0, t1_1)))), (5, (V.sl t5)), (17, (V.i .i64 t17))] H K = g19_p5 a30 R t1_0 t1_1 t5 t17 H (fun t2 t3 H => K .ret [(2, (V.sl t2)), (3, (V.i .i64 t3))] H) := by
  show ev Try.prog (E19 a30) loopLim Try.f19.ntmps kp19 (.seq c19_2 c19_3) [(1, (V.p (some (t1_0, t1_1)))), (5, (V.sl t5)), (17, (V.i .i64 t17))] H K = _
  rw [ev_seq]
  delta g19_p5
  exact (g19_p3_eq a30 la30 t1_0 t1_1 t5 t17 H (kSeq (fun fr H => ev Try.prog (E19 a30) loopLim Try.f19.ntmps kp19 c19_3 fr H K) K)).trans (congrArg (g19_p3 a30 R t1_0 t1_1 t5 t17 H) (funext fun t1_0 => funext fun t1_1 => funext fun t5 => funext fun H => (kSeq_n _ _ _ _).trans (g19_p4_eq a30 la30 t1_0 t1_1 t5 H K)))
noncomputable def g19_p6 (a30 : T30) (R : Type) (t0_0 : Int) (t0_1 : Bool) (t0_2 : Int) (t0_3 : Sl) (H : Heap) (kR : Sl → Int → Heap → Option R) : Option R :=
  g19_p0 a30 R t0_0 t0_1 t0_2 t0_3 H (fun t1_0 t1_1 t5 t17 H => g19_p5 a30 R t1_0 t1_1 t5 t17 H (fun t2 t3 H => kR t2 t3 H)) (fun t2 t3 H => kR t2 t3 H)
theorem g19_p6_lin {a30 : T30} (la30 : Lin30 a30) {R S : Type} {k : S → Option R} {t0_0 : Int} {t0_1 : Bool} {t0_2 : Int} {t0_3 : Sl} {H : Heap} {fkR : Sl → Int → Heap → Option R} {gkR : Sl → Int → Heap → Option S} (hkR : ∀ t2 t3 H, fkR t2 t3 H = (gkR t2 t3 H).bind k) : g19_p6 a30 R t0_0 t0_1 t0_2 t0_3 H fkR = (g19_p6 a30 S t0_0 t0_1 t0_2 t0_3 H gkR).bind k := by
  exact g19_p0_lin la30 (fun _ _ _ _ _ => g19_p5_lin la30 (fun _ _ _ => hkR _ _ _)) (fun _ _ _ => hkR _ _ _)
theorem g19_p6_eq (a30 : T30) (la30 : Lin30 a30) {R : Type} (t0_0 : Int) (t0_1 : Bool) (t0_2 : Int) (t0_3 : Sl) (H : Heap) (K : Ex → Fr → Heap → Option R) : ev Try.prog (E19 a30) loopLim Try.f19.ntmps kp19 c19_5 [(0, (V.agg [(V.i .u32 t0_0), (V.b t0_1), (V.i .u8 t0_2), (V.sl t0_3)]))] H K = g19_p6 a30 R t0_0 t0_1 t0_2 t0_3 H (fun t2 t3 H => K .ret [(2, (V.sl t2)), (3, (V.i .i64 t3))] H) := by
  show ev Try.prog (E19 a30) loopLim Try.f19.ntmps kp19 (.seq (codeAt [0] b19) (.seq (codeAt [1, 0, 0] b19) (.seq (codeAt [1, 0, 1, 0] b19) (.seq (.cond (.tmp 10) (.seq (codeAt [1, 0, 1, 1, 0, 0] b19) .ret) .skip) (.seq (codeAt [1, 1, 0] b19) (.seq (codeAt [1, 1, 1, 0, 0] b19) c19_4)))))) [(0, (V.agg [(V.i .u32 t0_0), (V.b t0_1), (V.i .u8 t0_2), (V.sl t0_3)]))] H K = _
  delta g19_p6
  exact (g19_p0_eq a30 _ t0_0 t0_1 t0_2 t0_3 H K).trans (congr (congrArg (g19_p0 a30 R t0_0 t0_1 t0_2 t0_3 H) (funext fun t1_0 => funext fun t1_1 => funext fun t5 => funext fun t17 => funext fun H => g19_p5_eq a30 la30 t1_0 t1_1 t5 t17 H K)) rfl)
noncomputable def g19_r (a30 : T30) : T19 := fun R t0_0 t0_1 t0_2 t0_3 H K =>
  g19_p6 a30 R t0_0 t0_1 t0_2 t0_3 H (fun t2 t3 H =>
    K t2 t3 H)
theorem g19_r_lin {a30 : T30} (la30 : Lin30 a30) : Lin19 (g19_r a30) := by
  constructor
  intro R S k t0_0 t0_1 t0_2 t0_3 H f g h
  exact g19_p6_lin la30 (fun t2 t3 H =>
    h _ _ _)
theorem g19_fn (a30 : T30) (la30 : Lin30 a30) {R : Type} (t0_0 : Int) (t0_1 : Bool) (t0_2 : Int) (t0_3 : Sl) (H : Heap) (K : V → Heap → Option R) : evFn Try.prog (E19 a30) loopLim Try.f19 kp19 [(V.agg [(V.i .u32 t0_0), (V.b t0_1), (V.i .u8 t0_2), (V.sl t0_3)])] H K = g19_r a30 R t0_0 t0_1 t0_2 t0_3 H (fun r0 r1 H => K (V.tup [(V.sl r0), (V.i .i64 r1)]) H) := by
  have h0 : ∀ (t2 : Sl) (t3 : Int) (H : Heap), kFn Try.prog Try.f19.results.toList K .ret [(2, (V.sl t2)), (3, (V.i .i64 t3))] H =
      K (V.tup [(V.sl t2), (V.i .i64 t3)]) H := by intros; kernel_rfl
  have e0 := evFn_code2 (P := Try.prog) (c := c19_5) (E := (E19 a30)) (lr := loopLim) (kp := kp19) (fn := Try.f19) (args := [(V.agg [(V.i .u32 t0_0), (V.b t0_1), (V.i .u8 t0_2), (V.sl t0_3)])]) H K (by kernel_rfl) (Nat.le_of_ble_eq_true (by kernel_rfl)) (by kernel_rfl)
  have e1 : ev Try.prog (E19 a30) loopLim Try.f19.ntmps kp19 c19_5 (argFr 0 [(V.agg [(V.i .u32 t0_0), (V.b t0_1), (V.i .u8 t0_2), (V.sl t0_3)])]) H (kFn Try.prog Try.f19.results.toList K) = ev Try.prog (E19 a30) loopLim Try.f19.ntmps kp19 c19_5 [(0, (V.agg [(V.i .u32 t0_0), (V.b t0_1), (V.i .u8 t0_2), (V.sl t0_3)]))] H (kFn Try.prog Try.f19.results.toList K) := by kernel_rfl
  refine (e0.trans e1).trans ?_
  delta g19_r
  exact (g19_p6_eq a30 la30 t0_0 t0_1 t0_2 t0_3 H (kFn Try.prog Try.f19.results.toList K)).trans (congrArg (g19_p6 a30 R t0_0 t0_1 t0_2 t0_3 H) (funext fun t2 => funext fun t3 => funext fun H => h0 t2 t3 H))
theorem g19_ok {a30 : T30} (oa30 : FunOK Try.prog 30 (w30 a30)) (la30 : Lin30 a30) : FunOK Try.prog 19 (w19 (g19_r a30)) := by
  refine (runF_ok (E19_good oa30 la30) mixed lim_ok Try.func19 (by kernel_rfl) kp19).of_le fun R args H K r hk => ?_
  unfold w19 at hk
  split at hk
  · exact (g19_fn a30 la30 _ _ _ _ H K).trans hk
  · cases hk
end Go.Proofs.Ytobebcfkddimkaa

