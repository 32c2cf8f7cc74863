/- Printed: functions as the machine runs them. -/
import Derived.Test.YtkldpkemnmmbgaaGT
namespace Go.Proofs.Ytkldpkemnmmbgaa
open Go AM Go.RowKit
set_option linter.unusedVariables false
def kp25 : Nat → Option (List Nat) := kpOf [(0, [0]), (1, [2]), (300000, [2])]
def E25 : FEnv := []
theorem E25_good : EnvGood Try.prog E25 := (EnvGood.nil _)
theorem E25_lin : EnvLin E25 := fun g F h => by cases h
noncomputable def b25 : Code := Try.f25.body.getD .skip
noncomputable def c25_0 : Code := (.seq (codeAt [0] b25) (.seq (codeAt [1, 0] b25) .ret))
noncomputable def g25_p0 (R : Type) (t0 : Int) (H : Heap) (kR : Int → Heap → Option R) : Option R :=
  kR (IntKind.wrap .i64 ((1 : Int) + (IntKind.wrap .i64 (Int.tmod t0 (12 : Int))))) H
theorem g25_p0_eq {R : Type} (t0 : Int) (H : Heap) (K : Ex → Fr → Heap → Option R) : ev Try.prog E25 loopLim Try.f25.ntmps kp25 c25_0 [(0, (V.i .u8 t0))] H K = g25_p0 R t0 H (fun t2 H => K .ret [(2, (V.i .i64 t2))] H) := by kernel_rfl
theorem g25_p0_lin {R S : Type} {k : S → Option R} {t0 : Int} {H : Heap} {fkR : Int → Heap → Option R} {gkR : Int → Heap → Option S} (hkR : ∀ t2 H, fkR t2 H = (gkR t2 H).bind k) : g25_p0 R t0 H fkR = (g25_p0 S t0 H gkR).bind k := by
  delta g25_p0; exact (
    hkR _ _)
noncomputable def g25_r : T25 := fun R t0 H K =>
  g25_p0 R t0 H (fun t2 H =>
    K t2 H)
theorem g25_r_lin : Lin25 (g25_r) := by
  constructor
  intro R S k t0 H f g h
  exact g25_p0_lin (fun t2 H =>
    h _ _)
theorem g25_fn {R : Type} (t0 : Int) (H : Heap) (K : V → Heap → Option R) : evFn Try.prog E25 loopLim Try.f25 kp25 [(V.i .u8 t0)] H K = g25_r R t0 H (fun r0 H => K (V.i .i64 r0) H) := by
  have h0 : ∀ (t2 : Int) (H : Heap), kFn Try.prog Try.f25.results.toList K .ret [(2, (V.i .i64 t2))] H =
      K (V.i .i64 t2) H := by intros; kernel_rfl
  have e0 := evFn_code2 (P := Try.prog) (c := c25_0) (E := E25) (lr := loopLim) (kp := kp25) (fn := Try.f25) (args := [(V.i .u8 t0)]) H K (by kernel_rfl) (Nat.le_of_ble_eq_true (by kernel_rfl)) (by kernel_rfl)
  have e1 : ev Try.prog E25 loopLim Try.f25.ntmps kp25 c25_0 (argFr 0 [(V.i .u8 t0)]) H (kFn Try.prog Try.f25.results.toList K) = ev Try.prog E25 loopLim Try.f25.ntmps kp25 c25_0 [(0, (V.i .u8 t0))] H (kFn Try.prog Try.f25.results.toList K) := by kernel_rfl
  refine (e0.trans e1).trans ?_
  delta g25_r
  exact (g25_p0_eq t0 H (kFn Try.prog Try.f25.results.toList K)).trans (congrArg (g25_p0 R t0 H) (funext fun t2 => funext fun H => h0 t2 H))
theorem g25_ok : FunOK Try.prog 25 (w25 (g25_r)) := by
  refine (runF_ok (E25_good) mixed lim_ok Try.func25 (by kernel_rfl) kp25).of_le fun R args H K r hk => ?_
  unfold w25 at hk
  split at hk
  · exact (g25_fn _ H K).trans hk
  · cases hk
def kp9 : Nat → Option (List Nat) := kpOf [(0, [1, 2]), (1, [1, 2, 3]), (2, [2]), (300000, [2])]
def E9 (a25 : T25) : FEnv := [(25, w25 a25)]
theorem E9_good {a25 : T25} (oa25 : FunOK Try.prog 25 (w25 a25)) (la25 : Lin25 a25) : EnvGood Try.prog (E9 a25) := ((EnvGood.nil _).cons oa25 (w25_lin la25))
theorem E9_lin {a25 : T25} (la25 : Lin25 a25) : EnvLin (E9 a25) := by
  intro g F h
  simp only [E9, List.mem_cons, List.not_mem_nil, or_false] at h
  rcases h with h
  · cases h; exact w25_lin la25
noncomputable def b9 : Code := Try.f9.body.getD .skip
noncomputable def c9_0 : Code := (.seq (codeAt [0] b9) (.seq (codeAt [1, 0] b9) (.seq (codeAt [1, 1, 0] b9) .ret)))
noncomputable def g9_p0 (a25 : T25) (R : Type) (t0_0 : Int) (t0_1 : Int) (t0_2 : Int) (t0_3 : Int) (t0_4 : Int) (t0_5 : Int) (t0_6 : Int) (H : Heap) (kR : Nat → Nat → Heap → Option R) : Option R :=
  alo H (.cells [(V.i .u8 t0_0), (V.i .u8 t0_1), (V.i .u8 t0_2), (V.i .u8 t0_3), (V.i .u8 t0_4), (V.i .u8 t0_5), (V.i .u8 t0_6)] 23 false) fun i1 h2 =>
  alo h2 (.cells [(V.i .i64 (0 : Int)), (V.i .i64 (0 : Int)), (V.i .i64 (0 : Int)), (V.i .i64 (0 : Int)), (V.i .i64 (0 : Int)), (V.i .i64 (0 : Int)), (V.i .i64 (0 : Int))] 28 false) fun i3 h4 =>
  ((h4).ldI .u8 i1 (0 + 0)).bind fun x5 =>
  a25 R x5 h4 fun x6 h7 =>
  ((h7).ldI .u8 i1 (0 + 1)).bind fun x8 =>
  ((h4).ldI .u8 i1 (0 + 1)).bind fun x9 =>
  if V.same (V.i .u8 x8) (V.i .u8 x9) = true then (
    a25 R x8 h7 fun x10 h11 =>
    ((h11).ldI .u8 i1 (0 + 2)).bind fun x12 =>
    ((h4).ldI .u8 i1 (0 + 2)).bind fun x13 =>
    if V.same (V.i .u8 x12) (V.i .u8 x13) = true then (
      ((h7).ldI .u8 i1 (0 + 2)).bind fun x14 =>
      if V.same (V.i .u8 x12) (V.i .u8 x14) = true then (
        a25 R x12 h11 fun x15 h16 =>
        ((h16).ldI .u8 i1 (0 + 3)).bind fun x17 =>
        ((h4).ldI .u8 i1 (0 + 3)).bind fun x18 =>
        if V.same (V.i .u8 x17) (V.i .u8 x18) = true then (
          ((h7).ldI .u8 i1 (0 + 3)).bind fun x19 =>
          if V.same (V.i .u8 x17) (V.i .u8 x19) = true then (
            ((h11).ldI .u8 i1 (0 + 3)).bind fun x20 =>
            if V.same (V.i .u8 x17) (V.i .u8 x20) = true then (
              a25 R x17 h16 fun x21 h22 =>
              ((h22).ldI .u8 i1 (0 + 4)).bind fun x23 =>
              ((h4).ldI .u8 i1 (0 + 4)).bind fun x24 =>
              if V.same (V.i .u8 x23) (V.i .u8 x24) = true then (
                ((h7).ldI .u8 i1 (0 + 4)).bind fun x25 =>
                if V.same (V.i .u8 x23) (V.i .u8 x25) = true then (
                  ((h11).ldI .u8 i1 (0 + 4)).bind fun x26 =>
                  if V.same (V.i .u8 x23) (V.i .u8 x26) = true then (
                    ((h16).ldI .u8 i1 (0 + 4)).bind fun x27 =>
                    if V.same (V.i .u8 x23) (V.i .u8 x27) = true then (
                      a25 R x23 h22 fun x28 h29 =>
                      ((h29).ldI .u8 i1 (0 + 5)).bind fun x30 =>
                      ((h4).ldI .u8 i1 (0 + 5)).bind fun x31 =>
                      if V.same (V.i .u8 x30) (V.i .u8 x31) = true then (
                        ((h7).ldI .u8 i1 (0 + 5)).bind fun x32 =>
                        if V.same (V.i .u8 x30) (V.i .u8 x32) = true then (
                          ((h11).ldI .u8 i1 (0 + 5)).bind fun x33 =>
                          if V.same (V.i .u8 x30) (V.i .u8 x33) = true then (
                            ((h16).ldI .u8 i1 (0 + 5)).bind fun x34 =>
                            if V.same (V.i .u8 x30) (V.i .u8 x34) = true then (
                              ((h22).ldI .u8 i1 (0 + 5)).bind fun x35 =>
                              if V.same (V.i .u8 x30) (V.i .u8 x35) = true then (
                                a25 R x30 h29 fun x36 h37 =>
                                ((h37).ldI .u8 i1 (0 + 6)).bind fun x38 =>
                                ((h4).ldI .u8 i1 (0 + 6)).bind fun x39 =>
                                if V.same (V.i .u8 x38) (V.i .u8 x39) = true then (
                                  ((h7).ldI .u8 i1 (0 + 6)).bind fun x40 =>
                                  if V.same (V.i .u8 x38) (V.i .u8 x40) = true then (
                                    ((h11).ldI .u8 i1 (0 + 6)).bind fun x41 =>
                                    if V.same (V.i .u8 x38) (V.i .u8 x41) = true then (
                                      ((h16).ldI .u8 i1 (0 + 6)).bind fun x42 =>
                                      if V.same (V.i .u8 x38) (V.i .u8 x42) = true then (
                                        ((h22).ldI .u8 i1 (0 + 6)).bind fun x43 =>
                                        if V.same (V.i .u8 x38) (V.i .u8 x43) = true then (
                                          ((h29).ldI .u8 i1 (0 + 6)).bind fun x44 =>
                                          if V.same (V.i .u8 x38) (V.i .u8 x44) = true then (
                                            a25 R x38 h37 fun x45 h46 =>
                                            ((h46).sts i3 0 [(V.i .i64 x6), (V.i .i64 x10), (V.i .i64 x15), (V.i .i64 x21), (V.i .i64 x28), (V.i .i64 x36), (V.i .i64 x45)]).bind fun h47 =>
                                            kR i3 0 h47)
                                          else (
                                            none))
                                        else (
                                          none))
                                      else (
                                        none))
                                    else (
                                      none))
                                  else (
                                    none))
                                else (
                                  none))
                              else (
                                none))
                            else (
                              none))
                          else (
                            none))
                        else (
                          none))
                      else (
                        none))
                    else (
                      none))
                  else (
                    none))
                else (
                  none))
              else (
                none))
            else (
              none))
          else (
            none))
        else (
          none))
      else (
        none))
    else (
      none))
  else (
    none)
theorem g9_p0_eq (a25 : T25) (la25 : Lin25 a25) {R : Type} (t0_0 : Int) (t0_1 : Int) (t0_2 : Int) (t0_3 : Int) (t0_4 : Int) (t0_5 : Int) (t0_6 : Int) (H : Heap) (K : Ex → Fr → Heap → Option R) : ev Try.prog (E9 a25) loopLim Try.f9.ntmps kp9 c9_0 [(0, (V.agg [(V.i .u8 t0_0), (V.i .u8 t0_1), (V.i .u8 t0_2), (V.i .u8 t0_3), (V.i .u8 t0_4), (V.i .u8 t0_5), (V.i .u8 t0_6)]))] H K = g9_p0 a25 R t0_0 t0_1 t0_2 t0_3 t0_4 t0_5 t0_6 H (fun t2_0 t2_1 H => K .ret [(2, (V.p (some (t2_0, t2_1))))] H) := by kernel_rfl
theorem g9_p0_lin {a25 : T25} (la25 : Lin25 a25) {R S : Type} {k : S → Option R} {t0_0 : Int} {t0_1 : Int} {t0_2 : Int} {t0_3 : Int} {t0_4 : Int} {t0_5 : Int} {t0_6 : Int} {H : Heap} {fkR : Nat → Nat → Heap → Option R} {gkR : Nat → Nat → Heap → Option S} (hkR : ∀ t2_0 t2_1 H, fkR t2_0 t2_1 H = (gkR t2_0 t2_1 H).bind k) : g9_p0 a25 R t0_0 t0_1 t0_2 t0_3 t0_4 t0_5 t0_6 H fkR = (g9_p0 a25 S t0_0 t0_1 t0_2 t0_3 t0_4 t0_5 t0_6 H gkR).bind k := by
  delta g9_p0; exact (
    alo_lin fun i1 h2 =>
    alo_lin fun i3 h4 =>
    bl fun x5 =>
    la25.l fun x6 h7 =>
    bl fun x8 =>
    bl fun x9 =>
    il (
      la25.l fun x10 h11 =>
      bl fun x12 =>
      bl fun x13 =>
      il (
        bl fun x14 =>
        il (
          la25.l fun x15 h16 =>
          bl fun x17 =>
          bl fun x18 =>
          il (
            bl fun x19 =>
            il (
              bl fun x20 =>
              il (
                la25.l fun x21 h22 =>
                bl fun x23 =>
                bl fun x24 =>
                il (
                  bl fun x25 =>
                  il (
                    bl fun x26 =>
                    il (
                      bl fun x27 =>
                      il (
                        la25.l fun x28 h29 =>
                        bl fun x30 =>
                        bl fun x31 =>
                        il (
                          bl fun x32 =>
                          il (
                            bl fun x33 =>
                            il (
                              bl fun x34 =>
                              il (
                                bl fun x35 =>
                                il (
                                  la25.l fun x36 h37 =>
                                  bl fun x38 =>
                                  bl fun x39 =>
                                  il (
                                    bl fun x40 =>
                                    il (
                                      bl fun x41 =>
                                      il (
                                        bl fun x42 =>
                                        il (
                                          bl fun x43 =>
                                          il (
                                            bl fun x44 =>
                                            il (
                                              la25.l fun x45 h46 =>
                                              bl fun h47 =>
                                              hkR _ _ _) (
                                              rfl)) (
                                            rfl)) (
                                          rfl)) (
                                        rfl)) (
                                      rfl)) (
                                    rfl)) (
                                  rfl)) (
                                rfl)) (
                              rfl)) (
                            rfl)) (
                          rfl)) (
                        rfl)) (
                      rfl)) (
                    rfl)) (
                  rfl)) (
                rfl)) (
              rfl)) (
            rfl)) (
          rfl)) (
        rfl)) (
      rfl))
noncomputable def g9_r (a25 : T25) : T9 := fun R t0_0 t0_1 t0_2 t0_3 t0_4 t0_5 t0_6 H K =>
  g9_p0 a25 R t0_0 t0_1 t0_2 t0_3 t0_4 t0_5 t0_6 H (fun t2_0 t2_1 H =>
    ((H).ldI .i64 t2_0 (t2_1 + 0)).bind fun x48 =>
    ((H).ldI .i64 t2_0 (t2_1 + 1)).bind fun x49 =>
    ((H).ldI .i64 t2_0 (t2_1 + 2)).bind fun x50 =>
    ((H).ldI .i64 t2_0 (t2_1 + 3)).bind fun x51 =>
    ((H).ldI .i64 t2_0 (t2_1 + 4)).bind fun x52 =>
    ((H).ldI .i64 t2_0 (t2_1 + 5)).bind fun x53 =>
    ((H).ldI .i64 t2_0 (t2_1 + 6)).bind fun x54 =>
    K x48 x49 x50 x51 x52 x53 x54 H)
theorem g9_r_lin {a25 : T25} (la25 : Lin25 a25) : Lin9 (g9_r a25) := by
  constructor
  intro R S k t0_0 t0_1 t0_2 t0_3 t0_4 t0_5 t0_6 H f g h
  exact g9_p0_lin la25 (fun t2_0 t2_1 H =>
    bl fun x48 =>
    bl fun x49 =>
    bl fun x50 =>
    bl fun x51 =>
    bl fun x52 =>
    bl fun x53 =>
    bl fun x54 =>
    h _ _ _ _ _ _ _ _)
theorem g9_fn (a25 : T25) (la25 : Lin25 a25) {R : Type} (t0_0 : Int) (t0_1 : Int) (t0_2 : Int) (t0_3 : Int) (t0_4 : Int) (t0_5 : Int) (t0_6 : Int) (H : Heap) (K : V → Heap → Option R) : evFn Try.prog (E9 a25) loopLim Try.f9 kp9 [(V.agg [(V.i .u8 t0_0), (V.i .u8 t0_1), (V.i .u8 t0_2), (V.i .u8 t0_3), (V.i .u8 t0_4), (V.i .u8 t0_5), (V.i .u8 t0_6)])] H K = g9_r a25 R t0_0 t0_1 t0_2 t0_3 t0_4 t0_5 t0_6 H (fun r0_0 r0_1 r0_2 r0_3 r0_4 r0_5 r0_6 H => K (V.agg [(V.i .i64 r0_0), (V.i .i64 r0_1), (V.i .i64 r0_2), (V.i .i64 r0_3), (V.i .i64 r0_4), (V.i .i64 r0_5), (V.i .i64 r0_6)]) H) := by
  have h0 : ∀ (t2_0 : Nat) (t2_1 : Nat) (H : Heap), kFn Try.prog Try.f9.results.toList K .ret [(2, (V.p (some (t2_0, t2_1))))] H =
      ((H).ldI .i64 t2_0 (t2_1 + 0)).bind fun x48 =>
      ((H).ldI .i64 t2_0 (t2_1 + 1)).bind fun x49 =>
      ((H).ldI .i64 t2_0 (t2_1 + 2)).bind fun x50 =>
      ((H).ldI .i64 t2_0 (t2_1 + 3)).bind fun x51 =>
      ((H).ldI .i64 t2_0 (t2_1 + 4)).bind fun x52 =>
      ((H).ldI .i64 t2_0 (t2_1 + 5)).bind fun x53 =>
      ((H).ldI .i64 t2_0 (t2_1 + 6)).bind fun x54 =>
      K (V.agg [(V.i .i64 x48), (V.i .i64 x49), (V.i .i64 x50), (V.i .i64 x51), (V.i .i64 x52), (V.i .i64 x53), (V.i .i64 x54)]) H := by intros; kernel_rfl
  have e0 := evFn_code2 (P := Try.prog) (c := c9_0) (E := (E9 a25)) (lr := loopLim) (kp := kp9) (fn := Try.f9) (args := [(V.agg [(V.i .u8 t0_0), (V.i .u8 t0_1), (V.i .u8 t0_2), (V.i .u8 t0_3), (V.i .u8 t0_4), (V.i .u8 t0_5), (V.i .u8 t0_6)])]) H K (by kernel_rfl) (Nat.le_of_ble_eq_true (by kernel_rfl)) (by kernel_rfl)
  have e1 : ev Try.prog (E9 a25) loopLim Try.f9.ntmps kp9 c9_0 (argFr 0 [(V.agg [(V.i .u8 t0_0), (V.i .u8 t0_1), (V.i .u8 t0_2), (V.i .u8 t0_3), (V.i .u8 t0_4), (V.i .u8 t0_5), (V.i .u8 t0_6)])]) H (kFn Try.prog Try.f9.results.toList K) = ev Try.prog (E9 a25) loopLim Try.f9.ntmps kp9 c9_0 [(0, (V.agg [(V.i .u8 t0_0), (V.i .u8 t0_1), (V.i .u8 t0_2), (V.i .u8 t0_3), (V.i .u8 t0_4), (V.i .u8 t0_5), (V.i .u8 t0_6)]))] H (kFn Try.prog Try.f9.results.toList K) := by kernel_rfl
  refine (e0.trans e1).trans ?_
  delta g9_r
  exact (g9_p0_eq a25 la25 t0_0 t0_1 t0_2 t0_3 t0_4 t0_5 t0_6 H (kFn Try.prog Try.f9.results.toList K)).trans (congrArg (g9_p0 a25 R t0_0 t0_1 t0_2 t0_3 t0_4 t0_5 t0_6 H) (funext fun t2_0 => funext fun t2_1 => funext fun H => h0 t2_0 t2_1 H))
theorem g9_ok {a25 : T25} (oa25 : FunOK Try.prog 25 (w25 a25)) (la25 : Lin25 a25) : FunOK Try.prog 9 (w9 (g9_r a25)) := by
  refine (runF_ok (E9_good oa25 la25) mixed lim_ok Try.func9 (by kernel_rfl) kp9).of_le fun R args H K r hk => ?_
  unfold w9 at hk
  split at hk
  · exact (g9_fn a25 la25 _ _ _ _ _ _ _ H K).trans hk
  · cases hk
def kp26 : Nat → Option (List Nat) := kpOf [(0, [0]), (1, [2]), (300000, [2])]
def E26 : FEnv := []
theorem E26_good : EnvGood Try.prog E26 := (EnvGood.nil _)
theorem E26_lin : EnvLin E26 := fun g F h => by cases h
noncomputable def b26 : Code := Try.f26.body.getD .skip
noncomputable def c26_0 : Code := (.seq (codeAt [0] b26) (.seq (codeAt [1, 0] b26) .ret))
noncomputable def g26_p0 (R : Type) (t0 : Int) (H : Heap) (kR : Bool → Heap → Option R) : Option R :=
  sel (decide (t0 < (1 : Int))) (
    kR true H) (
    kR (decide (t0 > (1048576 : Int))) H)
theorem g26_p0_eq {R : Type} (t0 : Int) (H : Heap) (K : Ex → Fr → Heap → Option R) : ev Try.prog E26 loopLim Try.f26.ntmps kp26 c26_0 [(0, (V.i .i64 t0))] H K = g26_p0 R t0 H (fun t2 H => K .ret [(2, (V.b t2))] H) := by kernel_rfl
theorem g26_p0_lin {R S : Type} {k : S → Option R} {t0 : Int} {H : Heap} {fkR : Bool → Heap → Option R} {gkR : Bool → Heap → Option S} (hkR : ∀ t2 H, fkR t2 H = (gkR t2 H).bind k) : g26_p0 R t0 H fkR = (g26_p0 S t0 H gkR).bind k := by
  delta g26_p0; exact (
    sl_lin (
      hkR _ _) (
      hkR _ _))
noncomputable def g26_r : T26 := fun R t0 H K =>
  g26_p0 R t0 H (fun t2 H =>
    K t2 H)
theorem g26_r_lin : Lin26 (g26_r) := by
  constructor
  intro R S k t0 H f g h
  exact g26_p0_lin (fun t2 H =>
    h _ _)
theorem g26_fn {R : Type} (t0 : Int) (H : Heap) (K : V → Heap → Option R) : evFn Try.prog E26 loopLim Try.f26 kp26 [(V.i .i64 t0)] H K = g26_r R t0 H (fun r0 H => K (V.b r0) H) := by
  have h0 : ∀ (t2 : Bool) (H : Heap), kFn Try.prog Try.f26.results.toList K .ret [(2, (V.b t2))] H =
      K (V.b t2) H := by intros; kernel_rfl
  have e0 := evFn_code2 (P := Try.prog) (c := c26_0) (E := E26) (lr := loopLim) (kp := kp26) (fn := Try.f26) (args := [(V.i .i64 t0)]) H K (by kernel_rfl) (Nat.le_of_ble_eq_true (by kernel_rfl)) (by kernel_rfl)
  have e1 : ev Try.prog E26 loopLim Try.f26.ntmps kp26 c26_0 (argFr 0 [(V.i .i64 t0)]) H (kFn Try.prog Try.f26.results.toList K) = ev Try.prog E26 loopLim Try.f26.ntmps kp26 c26_0 [(0, (V.i .i64 t0))] H (kFn Try.prog Try.f26.results.toList K) := by kernel_rfl
  refine (e0.trans e1).trans ?_
  delta g26_r
  exact (g26_p0_eq t0 H (kFn Try.prog Try.f26.results.toList K)).trans (congrArg (g26_p0 R t0 H) (funext fun t2 => funext fun H => h0 t2 H))
theorem g26_ok : FunOK Try.prog 26 (w26 (g26_r)) := by
  refine (runF_ok (E26_good) mixed lim_ok Try.func26 (by kernel_rfl) kp26).of_le fun R args H K r hk => ?_
  unfold w26 at hk
  split at hk
  · exact (g26_fn _ H K).trans hk
  · cases hk
def kp37 : Nat → Option (List Nat) := kpOf [(0, [0, 1]), (1, [0, 1, 7, 8]), (2, [0, 1, 7, 8, 9]), (3, [0, 1, 5, 7, 8]), (4, [0, 1, 5, 7, 8, 16]), (5, [4]), (6, [0, 1, 7, 8]), (7, [4]), (100000, []), (100001, [0, 1, 7, 8]), (200000, [0, 1, 7, 8]), (200001, [0, 1, 7, 8]), (300000, [4]), (400009, [0, 1, 7, 8]), (400016, [0, 1, 7, 8])]
def E37 (a26 : T26) : FEnv := [(26, w26 a26)]
theorem E37_good {a26 : T26} (oa26 : FunOK Try.prog 26 (w26 a26)) (la26 : Lin26 a26) : EnvGood Try.prog (E37 a26) := ((EnvGood.nil _).cons oa26 (w26_lin la26))
theorem E37_lin {a26 : T26} (la26 : Lin26 a26) : EnvLin (E37 a26) := by
  intro g F h
  simp only [E37, List.mem_cons, List.not_mem_nil, or_false] at h
  rcases h with h
  · cases h; exact w26_lin la26
noncomputable def b37 : Code := Try.f37.body.getD .skip
noncomputable def c37_0 : Code := (.seq (codeAt [1, 0, 1, 0, 0, 0] b37) (.seq (.cond (.tmp 9) .skip (.exit 0)) (.seq (.block 1 (.seq (codeAt [1, 0, 1, 0, 0, 1, 1, 0, 0, 0] b37) (.seq (codeAt [1, 0, 1, 0, 0, 1, 1, 0, 0, 1, 0] b37) (.cond (.tmp 16) (.seq (codeAt [1, 0, 1, 0, 0, 1, 1, 0, 0, 1, 1, 0, 0] b37) .ret) .skip)))) (codeAt [1, 0, 1, 0, 0, 1, 1, 1] b37))))
noncomputable def c37_1 : Code := (.loop c37_0)
noncomputable def c37_2 : Code := (.block 0 c37_1)
noncomputable def c37_3 : Code := (.seq (codeAt [1, 1, 0] b37) .ret)
noncomputable def c37_4 : Code := (.seq c37_2 c37_3)
noncomputable def c37_5 : Code := (.seq (codeAt [0] b37) (.seq (codeAt [1, 0, 0] b37) c37_4))
noncomputable def g37_p0 (a26 : T26) (R : Type) (t0 : Sl) (H : Heap) (kN : Sl → Int → Int → Heap → Option R) : Option R :=
  kN t0 ((t0.len : Nat) : Int) (0 : Int) H
theorem g37_p0_eq (a26 : T26) {R : Type} (c2 : Code) (t0 : Sl) (H : Heap) (K : Ex → Fr → Heap → Option R) : ev Try.prog (E37 a26) loopLim Try.f37.ntmps kp37 (.seq (codeAt [0] b37) (.seq (codeAt [1, 0, 0] b37) c2)) [(0, (V.sl t0)), (1, (V.fn (.func 26) [] []))] H K = g37_p0 a26 R t0 H (fun t0 t7 t8 H => ev Try.prog (E37 a26) loopLim Try.f37.ntmps kp37 c2 [(0, (V.sl t0)), (1, (V.fn (.func 26) [] [])), (7, (V.i .i64 t7)), (8, (V.i .i64 t8))] H K) := by kernel_rfl
theorem g37_p0_lin {a26 : T26} (la26 : Lin26 a26) {R S : Type} {k : S → Option R} {t0 : Sl} {H : Heap} {fkN : Sl → Int → Int → Heap → Option R} {gkN : Sl → Int → Int → Heap → Option S} (hkN : ∀ t0 t7 t8 H, fkN t0 t7 t8 H = (gkN t0 t7 t8 H).bind k) : g37_p0 a26 R t0 H fkN = (g37_p0 a26 S t0 H gkN).bind k := by
  delta g37_p0; exact (
    hkN _ _ _ _)
noncomputable def g37_p1 (a26 : T26) (R : Type) (t0 : Sl) (t7 : Int) (t8 : Int) (H : Heap) (kN : Sl → Int → Int → Heap → Option R) (kE0 : Heap → Option R) (kR : Int → Heap → Option R) : Option R :=
  sel (decide (t8 < t7)) (
    if 0 ≤ t8 ∧ t8 < ((t0.len : Nat) : Int) then (
      (t0.a).bind fun q1 =>
      ((H).ldI .i64 q1.1 (q1.2 + Int.toNat t8 * 1)).bind fun x2 =>
      a26 R x2 H fun x3 h4 =>
      sel x3 (
        kR t8 h4) (
        kN t0 t7 (IntKind.wrap .i64 (t8 + (1 : Int))) h4))
    else (
      none)) (
    kE0 H)
theorem g37_p1_eq (a26 : T26) (la26 : Lin26 a26) {R : Type} (t0 : Sl) (t7 : Int) (t8 : Int) (H : Heap) (K : Ex → Fr → Heap → Option R) : ev Try.prog (E37 a26) loopLim Try.f37.ntmps kp37 c37_0 [(0, (V.sl t0)), (1, (V.fn (.func 26) [] [])), (7, (V.i .i64 t7)), (8, (V.i .i64 t8))] H K = g37_p1 a26 R t0 t7 t8 H (fun t0 t7 t8 H => K .normal [(0, (V.sl t0)), (1, (V.fn (.func 26) [] [])), (7, (V.i .i64 t7)), (8, (V.i .i64 t8))] H) (fun H => K (.exit 0) [] H) (fun t4 H => K .ret [(4, (V.i .i64 t4))] H) := by kernel_rfl
theorem g37_p1_lin {a26 : T26} (la26 : Lin26 a26) {R S : Type} {k : S → Option R} {t0 : Sl} {t7 : Int} {t8 : Int} {H : Heap} {fkN : Sl → Int → Int → Heap → Option R} {gkN : Sl → Int → Int → Heap → Option S} {fkE0 : Heap → Option R} {gkE0 : Heap → Option S} {fkR : Int → Heap → Option R} {gkR : Int → Heap → Option S} (hkN : ∀ t0 t7 t8 H, fkN t0 t7 t8 H = (gkN t0 t7 t8 H).bind k) (hkE0 : ∀ H, fkE0 H = (gkE0 H).bind k) (hkR : ∀ t4 H, fkR t4 H = (gkR t4 H).bind k) : g37_p1 a26 R t0 t7 t8 H fkN fkE0 fkR = (g37_p1 a26 S t0 t7 t8 H gkN gkE0 gkR).bind k := by
  delta g37_p1; exact (
    sl_lin (
      il (
        bl fun q1 =>
        bl fun x2 =>
        la26.l fun x3 h4 =>
        sl_lin (
          hkR _ _) (
          hkN _ _ _ _)) (
        rfl)) (
      hkE0 _))
abbrev g37_p2_S := Sl × Int × Int
abbrev g37_p2_O := Sum (Unit) (Int)
def g37_p2_es (s : g37_p2_S) : Fr := [(0, (V.sl s.1)), (1, (V.fn (.func 26) [] [])), (7, (V.i .i64 s.2.1)), (8, (V.i .i64 s.2.2))]
def g37_p2_er : g37_p2_O → Ex × Fr
  | (.inl r) => ((.exit 0), [])
  | (.inr r) => (.ret, [(4, (V.i .i64 r))])
noncomputable def g37_p2_b (a26 : T26) (s : g37_p2_S) (H : Heap) : Option (Rd g37_p2_S g37_p2_O × Heap) :=
  g37_p1 a26 _ s.1 s.2.1 s.2.2 H (fun t0 t7 t8 H => some (.go (t0, t7, t8), H)) (fun H => some (.up (.inl ()), H)) (fun t4 H => some (.up (.inr t4), H))
noncomputable def g37_p2 (a26 : T26) (R : Type) (t0 : Sl) (t7 : Int) (t8 : Int) (H : Heap) (kE0 : Heap → Option R) (kR : Int → Heap → Option R) : Option R :=
  (tlim (g37_p2_b a26) (t0, t7, t8) H).bind fun p => cas p.1 (fun r => kE0  p.2) (fun r0 => kR r0 p.2)
theorem g37_p2_lin {a26 : T26} (la26 : Lin26 a26) {R S : Type} {k : S → Option R} {t0 : Sl} {t7 : Int} {t8 : Int} {H : Heap} {fkE0 : Heap → Option R} {gkE0 : Heap → Option S} {fkR : Int → Heap → Option R} {gkR : Int → Heap → Option S} (hkE0 : ∀ H, fkE0 H = (gkE0 H).bind k) (hkR : ∀ t4 H, fkR t4 H = (gkR t4 H).bind k) : g37_p2 a26 R t0 t7 t8 H fkE0 fkR = (g37_p2 a26 S t0 t7 t8 H gkE0 gkR).bind k := by
  exact bl fun p => cas_lin (fun _ => hkE0 _) (fun _ => hkR _ _)
theorem g37_p2_eq (a26 : T26) (la26 : Lin26 a26) {R : Type} (t0 : Sl) (t7 : Int) (t8 : Int) (H : Heap) (K : Ex → Fr → Heap → Option R) : ev Try.prog (E37 a26) loopLim Try.f37.ntmps kp37 c37_1 [(0, (V.sl t0)), (1, (V.fn (.func 26) [] [])), (7, (V.i .i64 t7)), (8, (V.i .i64 t8))] H K = g37_p2 a26 R t0 t7 t8 H (fun H => K (.exit 0) [] H) (fun t4 H => K .ret [(4, (V.i .i64 t4))] H) := by
  show ev Try.prog (E37 a26) loopLim Try.f37.ntmps kp37 (.loop c37_0) [(0, (V.sl t0)), (1, (V.fn (.func 26) [] [])), (7, (V.i .i64 t7)), (8, (V.i .i64 t8))] H K = _
  delta g37_p2
  refine (ev_tlim (b := g37_p2_b a26) (es := g37_p2_es) (er := g37_p2_er) (by rintro (r | r) <;> exact nofun) (fun s H => ?_) (t0, t7, t8) H K).trans (bc fun p => by rcases p with ⟨(r | r), H⟩ <;> rfl)
  exact (g37_p1_eq a26 la26 s.1 s.2.1 s.2.2 H ret3).trans (g37_p1_lin la26 (fun _ _ _ _ => rfl) (fun _ => rfl) (fun _ _ => rfl))
noncomputable def g37_p3 (a26 : T26) (R : Type) (t0 : Sl) (t7 : Int) (t8 : Int) (H : Heap) (kN : Heap → Option R) (kR : Int → Heap → Option R) : Option R :=
  g37_p2 a26 R t0 t7 t8 H (fun H => kN  H) (fun t4 H => kR t4 H)
theorem g37_p3_lin {a26 : T26} (la26 : Lin26 a26) {R S : Type} {k : S → Option R} {t0 : Sl} {t7 : Int} {t8 : Int} {H : Heap} {fkN : Heap → Option R} {gkN : Heap → Option S} {fkR : Int → Heap → Option R} {gkR : Int → Heap → Option S} (hkN : ∀ H, fkN H = (gkN H).bind k) (hkR : ∀ t4 H, fkR t4 H = (gkR t4 H).bind k) : g37_p3 a26 R t0 t7 t8 H fkN fkR = (g37_p3 a26 S t0 t7 t8 H gkN gkR).bind k := by
  exact g37_p2_lin la26 (fun _ => hkN _) (fun _ _ => hkR _ _)
theorem g37_p3_eq (a26 : T26) (la26 : Lin26 a26) {R : Type} (t0 : Sl) (t7 : Int) (t8 : Int) (H : Heap) (K : Ex → Fr → Heap → Option R) : ev Try.prog (E37 a26) loopLim Try.f37.ntmps kp37 c37_2 [(0, (V.sl t0)), (1, (V.fn (.func 26) [] [])), (7, (V.i .i64 t7)), (8, (V.i .i64 t8))] H K = g37_p3 a26 R t0 t7 t8 H (fun H => K .normal [] H) (fun t4 H => K .ret [(4, (V.i .i64 t4))] H) := by
  show ev Try.prog (E37 a26) loopLim Try.f37.ntmps kp37 (.block 0 c37_1) [(0, (V.sl t0)), (1, (V.fn (.func 26) [] [])), (7, (V.i .i64 t7)), (8, (V.i .i64 t8))] H K = _
  rw [ev_block]
  delta g37_p3
  exact (g37_p2_eq a26 la26 t0 t7 t8 H (kBlock kp37 0 K))
noncomputable def g37_p4 (a26 : T26) (R : Type) (H : Heap) (kR : Int → Heap → Option R) : Option R :=
  kR (-1 : Int) H
theorem g37_p4_eq (a26 : T26) (la26 : Lin26 a26) {R : Type} (H : Heap) (K : Ex → Fr → Heap → Option R) : ev Try.prog (E37 a26) loopLim Try.f37.ntmps kp37 c37_3 [] H K = g37_p4 a26 R H (fun t4 H => K .ret [(4, (V.i .i64 t4))] H) := by kernel_rfl
theorem g37_p4_lin {a26 : T26} (la26 : Lin26 a26) {R S : Type} {k : S → Option R} {H : Heap} {fkR : Int → Heap → Option R} {gkR : Int → Heap → Option S} (hkR : ∀ t4 H, fkR t4 H = (gkR t4 H).bind k) : g37_p4 a26 R H fkR = (g37_p4 a26 S H gkR).bind k := by
  delta g37_p4; exact (
    hkR _ _)
noncomputable def g37_p5 (a26 : T26) (R : Type) (t0 : Sl) (t7 : Int) (t8 : Int) (H : Heap) (kR : Int → Heap → Option R) : Option R :=
  g37_p3 a26 R t0 t7 t8 H (fun H => g37_p4 a26 R H (fun t4 H => kR t4 H)) (fun t4 H => kR t4 H)
theorem g37_p5_lin {a26 : T26} (la26 : Lin26 a26) {R S : Type} {k : S → Option R} {t0 : Sl} {t7 : Int} {t8 : Int} {H : Heap} {fkR : Int → Heap → Option R} {gkR : Int → Heap → Option S} (hkR : ∀ t4 H, fkR t4 H = (gkR t4 H).bind k) : g37_p5 a26 R t0 t7 t8 H fkR = (g37_p5 a26 S t0 t7 t8 H gkR).bind k := by
  exact g37_p3_lin la26 (fun _ => g37_p4_lin la26 (fun _ _ => hkR _ _)) (fun _ _ => hkR _ _)
theorem g37_p5_eq (a26 : T26) (la26 : Lin26 a26) {R : Type} (t0 : Sl) (t7 : Int) (t8 : Int) (H : Heap) (K : Ex → Fr → Heap → Option R) : ev Try.prog (E37 a26) loopLim Try.f37.ntmps kp37 c37_4 [(0, (V.sl t0)), (1, (V.fn (.func 26) [] [])), (7, (V.i .i64 t7)), (8, (V.i .i64 t8))] H K = g37_p5 a26 R t0 t7 t8 H (fun t4 H => K .ret [(4, (V.i .i64 t4))] H) := by
  show ev Try.prog (E37 a26) loopLim Try.f37.ntmps kp37 (.seq c37_2 c37_3) [(0, (V.sl t0)), (1, (V.fn (.func 26) [] [])), (7, (V.i .i64 t7)), (8, (V.i .i64 t8))] H K = _
  rw [ev_seq]
  delta g37_p5
  exact (g37_p3_eq a26 la26 t0 t7 t8 H (kSeq (fun fr H => ev Try.prog (E37 a26) loopLim Try.f37.ntmps kp37 c37_3 fr H K) K)).trans (congr (congrArg (g37_p3 a26 R t0 t7 t8 H) (funext fun H => (kSeq_n _ _ _ _).trans (g37_p4_eq a26 la26 H K))) rfl)
noncomputable def g37_p6 (a26 : T26) (R : Type) (t0 : Sl) (H : Heap) (kR : Int → Heap → Option R) : Option R :=
  g37_p0 a26 R t0 H (fun t0 t7 t8 H => g37_p5 a26 R t0 t7 t8 H (fun t4 H => kR t4 H))
theorem g37_p6_lin {a26 : T26} (la26 : Lin26 a26) {R S : Type} {k : S → Option R} {t0 : Sl} {H : Heap} {fkR : Int → Heap → Option R} {gkR : Int → Heap → Option S} (hkR : ∀ t4 H, fkR t4 H = (gkR t4 H).bind k) : g37_p6 a26 R t0 H fkR = (g37_p6 a26 S t0 H gkR).bind k := by
  exact g37_p0_lin la26 (fun _ _ _ _ => g37_p5_lin la26 (fun _ _ => hkR _ _))
theorem g37_p6_eq (a26 : T26) (la26 : Lin26 a26) {R : Type} (t0 : Sl) (H : Heap) (K : Ex → Fr → Heap → Option R) : ev Try.prog (E37 a26) loopLim Try.f37.ntmps kp37 c37_5 [(0, (V.sl t0)), (1, (V.fn (.func 26) [] []))] H K = g37_p6 a26 R t0 H (fun t4 H => K .ret [(4, (V.i .i64 t4))] H) := by
  show ev Try.prog (E37 a26) loopLim Try.f37.ntmps kp37 (.seq (codeAt [0] b37) (.seq (codeAt [1, 0, 0] b37) c37_4)) [(0, (V.sl t0)), (1, (V.fn (.func 26) [] []))] H K = _
  delta g37_p6
  exact (g37_p0_eq a26 _ t0 H K).trans (congrArg (g37_p0 a26 R t0 H) (funext fun t0 => funext fun t7 => funext fun t8 => funext fun H => g37_p5_eq a26 la26 t0 t7 t8 H K))
noncomputable def g37_r (a26 : T26) : T37 := fun R t0 H K =>
  g37_p6 a26 R t0 H (fun t4 H =>
    K t4 H)
theorem g37_r_lin {a26 : T26} (la26 : Lin26 a26) : Lin37 (g37_r a26) := by
  constructor
  intro R S k t0 H f g h
  exact g37_p6_lin la26 (fun t4 H =>
    h _ _)
theorem g37_fn (a26 : T26) (la26 : Lin26 a26) {R : Type} (t0 : Sl) (H : Heap) (K : V → Heap → Option R) : evFn Try.prog (E37 a26) loopLim Try.f37 kp37 [(V.sl t0), (V.fn (.func 26) [] [])] H K = g37_r a26 R t0 H (fun r0 H => K (V.i .i64 r0) H) := by
  have h0 : ∀ (t4 : Int) (H : Heap), kFn Try.prog Try.f37.results.toList K .ret [(4, (V.i .i64 t4))] H =
      K (V.i .i64 t4) H := by intros; kernel_rfl
  have e0 := evFn_code2 (P := Try.prog) (c := c37_5) (E := (E37 a26)) (lr := loopLim) (kp := kp37) (fn := Try.f37) (args := [(V.sl t0), (V.fn (.func 26) [] [])]) H K (by kernel_rfl) (Nat.le_of_ble_eq_true (by kernel_rfl)) (by kernel_rfl)
  have e1 : ev Try.prog (E37 a26) loopLim Try.f37.ntmps kp37 c37_5 (argFr 0 [(V.sl t0), (V.fn (.func 26) [] [])]) H (kFn Try.prog Try.f37.results.toList K) = ev Try.prog (E37 a26) loopLim Try.f37.ntmps kp37 c37_5 [(0, (V.sl t0)), (1, (V.fn (.func 26) [] []))] H (kFn Try.prog Try.f37.results.toList K) := by kernel_rfl
  refine (e0.trans e1).trans ?_
  delta g37_r
  exact (g37_p6_eq a26 la26 t0 H (kFn Try.prog Try.f37.results.toList K)).trans (congrArg (g37_p6 a26 R t0 H) (funext fun t4 => funext fun H => h0 t4 H))
theorem g37_ok {a26 : T26} (oa26 : FunOK Try.prog 26 (w26 a26)) (la26 : Lin26 a26) : FunOK Try.prog 37 (w37 (g37_r a26)) := by
  refine (runF_ok (E37_good oa26 la26) mixed lim_ok Try.func37 (by kernel_rfl) kp37).of_le fun R args H K r hk => ?_
  unfold w37 at hk
  split at hk
  · exact (g37_fn a26 la26 _ H K).trans hk
  · cases hk
def kp27 : Nat → Option (List Nat) := kpOf [(0, [0, 1]), (1, [4]), (300000, [4])]
def E27 (a37 : T37) : FEnv := [(37, w37 a37)]
theorem E27_good {a37 : T37} (oa37 : FunOK Try.prog 37 (w37 a37)) (la37 : Lin37 a37) : EnvGood Try.prog (E27 a37) := ((EnvGood.nil _).cons oa37 (w37_lin la37))
theorem E27_lin {a37 : T37} (la37 : Lin37 a37) : EnvLin (E27 a37) := by
  intro g F h
  simp only [E27, List.mem_cons, List.not_mem_nil, or_false] at h
  rcases h with h
  · cases h; exact w37_lin la37
noncomputable def b27 : Code := Try.f27.body.getD .skip
noncomputable def c27_0 : Code := (.seq (codeAt [0] b27) (.seq (codeAt [1, 0] b27) .ret))
noncomputable def g27_p0 (a37 : T37) (R : Type) (t0 : Sl) (H : Heap) (kR : Bool → Heap → Option R) : Option R :=
  a37 R t0 H fun x1 h2 =>
  kR (decide (x1 ≥ (0 : Int))) h2
theorem g27_p0_eq (a37 : T37) (la37 : Lin37 a37) {R : Type} (t0 : Sl) (H : Heap) (K : Ex → Fr → Heap → Option R) : ev Try.prog (E27 a37) loopLim Try.f27.ntmps kp27 c27_0 [(0, (V.sl t0)), (1, (V.fn (.func 26) [] []))] H K = g27_p0 a37 R t0 H (fun t4 H => K .ret [(4, (V.b t4))] H) := by kernel_rfl
theorem g27_p0_lin {a37 : T37} (la37 : Lin37 a37) {R S : Type} {k : S → Option R} {t0 : Sl} {H : Heap} {fkR : Bool → Heap → Option R} {gkR : Bool → Heap → Option S} (hkR : ∀ t4 H, fkR t4 H = (gkR t4 H).bind k) : g27_p0 a37 R t0 H fkR = (g27_p0 a37 S t0 H gkR).bind k := by
  delta g27_p0; exact (
    la37.l fun x1 h2 =>
    hkR _ _)
noncomputable def g27_r (a37 : T37) : T27 := fun R t0 H K =>
  g27_p0 a37 R t0 H (fun t4 H =>
    K t4 H)
theorem g27_r_lin {a37 : T37} (la37 : Lin37 a37) : Lin27 (g27_r a37) := by
  constructor
  intro R S k t0 H f g h
  exact g27_p0_lin la37 (fun t4 H =>
    h _ _)
theorem g27_fn (a37 : T37) (la37 : Lin37 a37) {R : Type} (t0 : Sl) (H : Heap) (K : V → Heap → Option R) : evFn Try.prog (E27 a37) loopLim Try.f27 kp27 [(V.sl t0), (V.fn (.func 26) [] [])] H K = g27_r a37 R t0 H (fun r0 H => K (V.b r0) H) := by
  have h0 : ∀ (t4 : Bool) (H : Heap), kFn Try.prog Try.f27.results.toList K .ret [(4, (V.b t4))] H =
      K (V.b t4) H := by intros; kernel_rfl
  have e0 := evFn_code2 (P := Try.prog) (c := c27_0) (E := (E27 a37)) (lr := loopLim) (kp := kp27) (fn := Try.f27) (args := [(V.sl t0), (V.fn (.func 26) [] [])]) H K (by kernel_rfl) (Nat.le_of_ble_eq_true (by kernel_rfl)) (by kernel_rfl)
  have e1 : ev Try.prog (E27 a37) loopLim Try.f27.ntmps kp27 c27_0 (argFr 0 [(V.sl t0), (V.fn (.func 26) [] [])]) H (kFn Try.prog Try.f27.results.toList K) = ev Try.prog (E27 a37) loopLim Try.f27.ntmps kp27 c27_0 [(0, (V.sl t0)), (1, (V.fn (.func 26) [] []))] H (kFn Try.prog Try.f27.results.toList K) := by kernel_rfl
  refine (e0.trans e1).trans ?_
  delta g27_r
  exact (g27_p0_eq a37 la37 t0 H (kFn Try.prog Try.f27.results.toList K)).trans (congrArg (g27_p0 a37 R t0 H) (funext fun t4 => funext fun H => h0 t4 H))
theorem g27_ok {a37 : T37} (oa37 : FunOK Try.prog 37 (w37 a37)) (la37 : Lin37 a37) : FunOK Try.prog 27 (w27 (g27_r a37)) := by
  refine (runF_ok (E27_good oa37 la37) mixed lim_ok Try.func27 (by kernel_rfl) kp27).of_le fun R args H K r hk => ?_
  unfold w27 at hk
  split at hk
  · exact (g27_fn a37 la37 _ H K).trans hk
  · cases hk
def kp10 : Nat → Option (List Nat) := kpOf [(0, [1]), (1, [1, 4]), (2, [1, 21]), (3, [2, 3]), (4, [2, 3]), (300000, [2, 3]), (400021, [1])]
def E10 (a27 : T27) : FEnv := [(27, w27 a27)]
theorem E10_good {a27 : T27} (oa27 : FunOK Try.prog 27 (w27 a27)) (la27 : Lin27 a27) : EnvGood Try.prog (E10 a27) := ((EnvGood.nil _).cons oa27 (w27_lin la27))
theorem E10_lin {a27 : T27} (la27 : Lin27 a27) : EnvLin (E10 a27) := by
  intro g F h
  simp only [E10, List.mem_cons, List.not_mem_nil, or_false] at h
  rcases h with h
  · cases h; exact w27_lin la27
noncomputable def b10 : Code := Try.f10.body.getD .skip
noncomputable def c10_0 : Code := (.seq (codeAt [0] b10) (.seq (codeAt [1, 0] b10) (.seq (codeAt [1, 1, 0, 0] b10) (.seq (.cond (.tmp 21) (.seq (codeAt [1, 1, 0, 1, 0, 0] b10) .ret) .skip) (.seq (codeAt [1, 1, 1, 0] b10) .ret)))))
noncomputable def g10_p0 (a27 : T27) (R : Type) (t0_0 : Int) (t0_1 : Int) (t0_2 : Int) (t0_3 : Int) (t0_4 : Int) (t0_5 : Int) (t0_6 : Int) (H : Heap) (kR : Option (Nat × Nat) → Int → Heap → Option R) : Option R :=
  alo H (.cells [(V.i .i64 t0_0), (V.i .i64 t0_1), (V.i .i64 t0_2), (V.i .i64 t0_3), (V.i .i64 t0_4), (V.i .i64 t0_5), (V.i .i64 t0_6)] 28 false) fun i1 h2 =>
  ((h2).ldI .i64 i1 (0 + 0)).bind fun x3 =>
  ((h2).ldI .i64 i1 (0 + 1)).bind fun x4 =>
  ((h2).ldI .i64 i1 (0 + 2)).bind fun x5 =>
  ((h2).ldI .i64 i1 (0 + 3)).bind fun x6 =>
  ((h2).ldI .i64 i1 (0 + 4)).bind fun x7 =>
  ((h2).ldI .i64 i1 (0 + 5)).bind fun x8 =>
  ((h2).ldI .i64 i1 (0 + 6)).bind fun x9 =>
  alo h2 (.cells [(V.i .i64 x3), (V.i .i64 x4), (V.i .i64 x5), (V.i .i64 x6), (V.i .i64 x7), (V.i .i64 x8), (V.i .i64 x9)] 3 false) fun i10 h11 =>
  a27 R (Sl.mk (some (i10, 0)) 7 (.ex 7)) h11 fun x12 h13 =>
  sel x12 (
    kR none (1 : Int) h13) (
    ((h13).ldI .i64 i1 (0 + 0)).bind fun x14 =>
    ((h13).ldI .i64 i1 (0 + 1)).bind fun x15 =>
    ((h13).ldI .i64 i1 (0 + 2)).bind fun x16 =>
    ((h13).ldI .i64 i1 (0 + 3)).bind fun x17 =>
    ((h13).ldI .i64 i1 (0 + 4)).bind fun x18 =>
    ((h13).ldI .i64 i1 (0 + 5)).bind fun x19 =>
    ((h13).ldI .i64 i1 (0 + 6)).bind fun x20 =>
    alo h13 (.cells [(V.i .i64 x14), (V.i .i64 x15), (V.i .i64 x16), (V.i .i64 x17), (V.i .i64 x18), (V.i .i64 x19), (V.i .i64 x20), (V.i .u8 (0 : Int)), (V.i .i64 (0 : Int)), (V.b false), (V.b false), (V.i .i64 (0 : Int)), V.nilI] 58 false) fun i21 h22 =>
    kR (some (i21, 0)) (0 : Int) h22)
theorem g10_p0_eq (a27 : T27) (la27 : Lin27 a27) {R : Type} (t0_0 : Int) (t0_1 : Int) (t0_2 : Int) (t0_3 : Int) (t0_4 : Int) (t0_5 : Int) (t0_6 : Int) (H : Heap) (K : Ex → Fr → Heap → Option R) : ev Try.prog (E10 a27) loopLim Try.f10.ntmps kp10 c10_0 [(0, (V.agg [(V.i .i64 t0_0), (V.i .i64 t0_1), (V.i .i64 t0_2), (V.i .i64 t0_3), (V.i .i64 t0_4), (V.i .i64 t0_5), (V.i .i64 t0_6)]))] H K = g10_p0 a27 R t0_0 t0_1 t0_2 t0_3 t0_4 t0_5 t0_6 H (fun t2 t3 H => K .ret [(2, (V.p t2)), (3, (V.i .i64 t3))] H) := by kernel_rfl
theorem g10_p0_lin {a27 : T27} (la27 : Lin27 a27) {R S : Type} {k : S → Option R} {t0_0 : Int} {t0_1 : Int} {t0_2 : Int} {t0_3 : Int} {t0_4 : Int} {t0_5 : Int} {t0_6 : Int} {H : Heap} {fkR : Option (Nat × Nat) → Int → Heap → Option R} {gkR : Option (Nat × Nat) → Int → Heap → Option S} (hkR : ∀ t2 t3 H, fkR t2 t3 H = (gkR t2 t3 H).bind k) : g10_p0 a27 R t0_0 t0_1 t0_2 t0_3 t0_4 t0_5 t0_6 H fkR = (g10_p0 a27 S t0_0 t0_1 t0_2 t0_3 t0_4 t0_5 t0_6 H gkR).bind k := by
  delta g10_p0; exact (
    alo_lin fun i1 h2 =>
    bl fun x3 =>
    bl fun x4 =>
    bl fun x5 =>
    bl fun x6 =>
    bl fun x7 =>
    bl fun x8 =>
    bl fun x9 =>
    alo_lin fun i10 h11 =>
    la27.l fun x12 h13 =>
    sl_lin (
      hkR _ _ _) (
      bl fun x14 =>
      bl fun x15 =>
      bl fun x16 =>
      bl fun x17 =>
      bl fun x18 =>
      bl fun x19 =>
      bl fun x20 =>
      alo_lin fun i21 h22 =>
      hkR _ _ _))
noncomputable def g10_r (a27 : T27) : T10 := fun R t0_0 t0_1 t0_2 t0_3 t0_4 t0_5 t0_6 H K =>
  g10_p0 a27 R t0_0 t0_1 t0_2 t0_3 t0_4 t0_5 t0_6 H (fun t2 t3 H =>
    K t2 t3 H)
theorem g10_r_lin {a27 : T27} (la27 : Lin27 a27) : Lin10 (g10_r a27) := by
  constructor
  intro R S k t0_0 t0_1 t0_2 t0_3 t0_4 t0_5 t0_6 H f g h
  exact g10_p0_lin la27 (fun t2 t3 H =>
    h _ _ _)
theorem g10_fn (a27 : T27) (la27 : Lin27 a27) {R : Type} (t0_0 : Int) (t0_1 : Int) (t0_2 : Int) (t0_3 : Int) (t0_4 : Int) (t0_5 : Int) (t0_6 : Int) (H : Heap) (K : V → Heap → Option R) : evFn Try.prog (E10 a27) loopLim Try.f10 kp10 [(V.agg [(V.i .i64 t0_0), (V.i .i64 t0_1), (V.i .i64 t0_2), (V.i .i64 t0_3), (V.i .i64 t0_4), (V.i .i64 t0_5), (V.i .i64 t0_6)])] H K = g10_r a27 R t0_0 t0_1 t0_2 t0_3 t0_4 t0_5 t0_6 H (fun r0 r1 H => K (V.tup [(V.p r0), (V.i .i64 r1)]) H) := by
  have h0 : ∀ (t2 : Option (Nat × Nat)) (t3 : Int) (H : Heap), kFn Try.prog Try.f10.results.toList K .ret [(2, (V.p t2)), (3, (V.i .i64 t3))] H =
      K (V.tup [(V.p t2), (V.i .i64 t3)]) H := by intros; kernel_rfl
  have e0 := evFn_code2 (P := Try.prog) (c := c10_0) (E := (E10 a27)) (lr := loopLim) (kp := kp10) (fn := Try.f10) (args := [(V.agg [(V.i .i64 t0_0), (V.i .i64 t0_1), (V.i .i64 t0_2), (V.i .i64 t0_3), (V.i .i64 t0_4), (V.i .i64 t0_5), (V.i .i64 t0_6)])]) H K (by kernel_rfl) (Nat.le_of_ble_eq_true (by kernel_rfl)) (by kernel_rfl)
  have e1 : ev Try.prog (E10 a27) loopLim Try.f10.ntmps kp10 c10_0 (argFr 0 [(V.agg [(V.i .i64 t0_0), (V.i .i64 t0_1), (V.i .i64 t0_2), (V.i .i64 t0_3), (V.i .i64 t0_4), (V.i .i64 t0_5), (V.i .i64 t0_6)])]) H (kFn Try.prog Try.f10.results.toList K) = ev Try.prog (E10 a27) loopLim Try.f10.ntmps kp10 c10_0 [(0, (V.agg [(V.i .i64 t0_0), (V.i .i64 t0_1), (V.i .i64 t0_2), (V.i .i64 t0_3), (V.i .i64 t0_4), (V.i .i64 t0_5), (V.i .i64 t0_6)]))] H (kFn Try.prog Try.f10.results.toList K) := by kernel_rfl
  refine (e0.trans e1).trans ?_
  delta g10_r
  exact (g10_p0_eq a27 la27 t0_0 t0_1 t0_2 t0_3 t0_4 t0_5 t0_6 H (kFn Try.prog Try.f10.results.toList K)).trans (congrArg (g10_p0 a27 R t0_0 t0_1 t0_2 t0_3 t0_4 t0_5 t0_6 H) (funext fun t2 => funext fun t3 => funext fun H => h0 t2 t3 H))
theorem g10_ok {a27 : T27} (oa27 : FunOK Try.prog 27 (w27 a27)) (la27 : Lin27 a27) : FunOK Try.prog 10 (w10 (g10_r a27)) := by
  refine (runF_ok (E10_good oa27 la27) mixed lim_ok Try.func10 (by kernel_rfl) kp10).of_le fun R args H K r hk => ?_
  unfold w10 at hk
  split at hk
  · exact (g10_fn a27 la27 _ _ _ _ _ _ _ H K).trans hk
  · cases hk
def kp28 : Nat → Option (List Nat) := kpOf [(0, [0]), (1, [2]), (300000, [2])]
def E28 : FEnv := []
theorem E28_good : EnvGood Try.prog E28 := (EnvGood.nil _)
theorem E28_lin : EnvLin E28 := fun g F h => by cases h
noncomputable def b28 : Code := Try.f28.body.getD .skip
noncomputable def c28_0 : Code := (.seq (codeAt [0] b28) (.seq (codeAt [1, 0] b28) .ret))
noncomputable def g28_p0 (R : Type) (t0 : Option (Nat × Nat)) (H : Heap) (kR : Bool → Heap → Option R) : Option R :=
  sel (Option.isNone t0) (
    kR true H) (
    (t0).bind fun q1 =>
    ((H).ldI .i64 q1.1 ((q1.2 + 0) + 0)).bind fun x2 =>
    ((H).ldI .i64 q1.1 ((q1.2 + 0) + 1)).bind fun x3 =>
    ((H).ldI .i64 q1.1 ((q1.2 + 0) + 2)).bind fun x4 =>
    ((H).ldI .i64 q1.1 ((q1.2 + 0) + 3)).bind fun x5 =>
    ((H).ldI .i64 q1.1 ((q1.2 + 0) + 4)).bind fun x6 =>
    ((H).ldI .i64 q1.1 ((q1.2 + 0) + 5)).bind fun x7 =>
    ((H).ldI .i64 q1.1 ((q1.2 + 0) + 6)).bind fun x8 =>
    kR ((x2 == (0 : Int)) && ((x3 == (0 : Int)) && ((x4 == (0 : Int)) && ((x5 == (0 : Int)) && ((x6 == (0 : Int)) && ((x7 == (0 : Int)) && ((x8 == (0 : Int)) && true))))))) H)
theorem g28_p0_eq {R : Type} (t0 : Option (Nat × Nat)) (H : Heap) (K : Ex → Fr → Heap → Option R) : ev Try.prog E28 loopLim Try.f28.ntmps kp28 c28_0 [(0, (V.p t0))] H K = g28_p0 R t0 H (fun t2 H => K .ret [(2, (V.b t2))] H) := by kernel_rfl
theorem g28_p0_lin {R S : Type} {k : S → Option R} {t0 : Option (Nat × Nat)} {H : Heap} {fkR : Bool → Heap → Option R} {gkR : Bool → Heap → Option S} (hkR : ∀ t2 H, fkR t2 H = (gkR t2 H).bind k) : g28_p0 R t0 H fkR = (g28_p0 S t0 H gkR).bind k := by
  delta g28_p0; exact (
    sl_lin (
      hkR _ _) (
      bl fun q1 =>
      bl fun x2 =>
      bl fun x3 =>
      bl fun x4 =>
      bl fun x5 =>
      bl fun x6 =>
      bl fun x7 =>
      bl fun x8 =>
      hkR _ _))
noncomputable def g28_r : T28 := fun R t0 H K =>
  g28_p0 R t0 H (fun t2 H =>
    K t2 H)
theorem g28_r_lin : Lin28 (g28_r) := by
  constructor
  intro R S k t0 H f g h
  exact g28_p0_lin (fun t2 H =>
    h _ _)
theorem g28_fn {R : Type} (t0 : Option (Nat × Nat)) (H : Heap) (K : V → Heap → Option R) : evFn Try.prog E28 loopLim Try.f28 kp28 [(V.p t0)] H K = g28_r R t0 H (fun r0 H => K (V.b r0) H) := by
  have h0 : ∀ (t2 : Bool) (H : Heap), kFn Try.prog Try.f28.results.toList K .ret [(2, (V.b t2))] H =
      K (V.b t2) H := by intros; kernel_rfl
  have e0 := evFn_code2 (P := Try.prog) (c := c28_0) (E := E28) (lr := loopLim) (kp := kp28) (fn := Try.f28) (args := [(V.p t0)]) H K (by kernel_rfl) (Nat.le_of_ble_eq_true (by kernel_rfl)) (by kernel_rfl)
  have e1 : ev Try.prog E28 loopLim Try.f28.ntmps kp28 c28_0 (argFr 0 [(V.p t0)]) H (kFn Try.prog Try.f28.results.toList K) = ev Try.prog E28 loopLim Try.f28.ntmps kp28 c28_0 [(0, (V.p t0))] H (kFn Try.prog Try.f28.results.toList K) := by kernel_rfl
  refine (e0.trans e1).trans ?_
  delta g28_r
  exact (g28_p0_eq t0 H (kFn Try.prog Try.f28.results.toList K)).trans (congrArg (g28_p0 R t0 H) (funext fun t2 => funext fun H => h0 t2 H))
theorem g28_ok : FunOK Try.prog 28 (w28 (g28_r)) := by
  refine (runF_ok (E28_good) mixed lim_ok Try.func28 (by kernel_rfl) kp28).of_le fun R args H K r hk => ?_
  unfold w28 at hk
  split at hk
  · exact (g28_fn _ H K).trans hk
  · cases hk
def kp40 : Nat → Option (List Nat) := kpOf [(0, [0]), (1, [2]), (300000, [2])]
def E40 : FEnv := []
theorem E40_good : EnvGood Try.prog E40 := (EnvGood.nil _)
theorem E40_lin : EnvLin E40 := fun g F h => by cases h
noncomputable def b40 : Code := Try.f40.body.getD .skip
noncomputable def c40_0 : Code := (.seq (codeAt [0] b40) (.seq (codeAt [1, 0] b40) .ret))
noncomputable def g40_p0 (R : Type) (t0 : Int) (H : Heap) (kR : Bool → Heap → Option R) : Option R :=
  sel (decide (t0 < (1 : Int))) (
    kR true H) (
    kR (decide (t0 > (1048576 : Int))) H)
theorem g40_p0_eq {R : Type} (t0 : Int) (H : Heap) (K : Ex → Fr → Heap → Option R) : ev Try.prog E40 loopLim Try.f40.ntmps kp40 c40_0 [(0, (V.i .i64 t0))] H K = g40_p0 R t0 H (fun t2 H => K .ret [(2, (V.b t2))] H) := by kernel_rfl
theorem g40_p0_lin {R S : Type} {k : S → Option R} {t0 : Int} {H : Heap} {fkR : Bool → Heap → Option R} {gkR : Bool → Heap → Option S} (hkR : ∀ t2 H, fkR t2 H = (gkR t2 H).bind k) : g40_p0 R t0 H fkR = (g40_p0 S t0 H gkR).bind k := by
  delta g40_p0; exact (
    sl_lin (
      hkR _ _) (
      hkR _ _))
noncomputable def g40_r : T40 := fun R t0 H K =>
  g40_p0 R t0 H (fun t2 H =>
    K t2 H)
theorem g40_r_lin : Lin40 (g40_r) := by
  constructor
  intro R S k t0 H f g h
  exact g40_p0_lin (fun t2 H =>
    h _ _)
theorem g40_fn {R : Type} (t0 : Int) (H : Heap) (K : V → Heap → Option R) : evFn Try.prog E40 loopLim Try.f40 kp40 [(V.i .i64 t0)] H K = g40_r R t0 H (fun r0 H => K (V.b r0) H) := by
  have h0 : ∀ (t2 : Bool) (H : Heap), kFn Try.prog Try.f40.results.toList K .ret [(2, (V.b t2))] H =
      K (V.b t2) H := by intros; kernel_rfl
  have e0 := evFn_code2 (P := Try.prog) (c := c40_0) (E := E40) (lr := loopLim) (kp := kp40) (fn := Try.f40) (args := [(V.i .i64 t0)]) H K (by kernel_rfl) (Nat.le_of_ble_eq_true (by kernel_rfl)) (by kernel_rfl)
  have e1 : ev Try.prog E40 loopLim Try.f40.ntmps kp40 c40_0 (argFr 0 [(V.i .i64 t0)]) H (kFn Try.prog Try.f40.results.toList K) = ev Try.prog E40 loopLim Try.f40.ntmps kp40 c40_0 [(0, (V.i .i64 t0))] H (kFn Try.prog Try.f40.results.toList K) := by kernel_rfl
  refine (e0.trans e1).trans ?_
  delta g40_r
  exact (g40_p0_eq t0 H (kFn Try.prog Try.f40.results.toList K)).trans (congrArg (g40_p0 R t0 H) (funext fun t2 => funext fun H => h0 t2 H))
theorem g40_ok : FunOK Try.prog 40 (w40 (g40_r)) := by
  refine (runF_ok (E40_good) mixed lim_ok Try.func40 (by kernel_rfl) kp40).of_le fun R args H K r hk => ?_
  unfold w40 at hk
  split at hk
  · exact (g40_fn _ H K).trans hk
  · cases hk
end Go.Proofs.Ytkldpkemnmmbgaa

