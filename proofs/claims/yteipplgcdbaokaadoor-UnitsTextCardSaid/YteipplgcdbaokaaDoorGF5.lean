/- Printed: functions as the machine runs them. -/
import Derived.Test.YteipplgcdbaokaaDoorGT
namespace Go.Proofs.YteipplgcdbaokaaDoor
open Go AM Go.RowKit
set_option linter.unusedVariables false
def kp34 : Nat → Option (List Nat) := kpOf [(0, [0, 1]), (1, [1, 5]), (2, [1, 5, 6]), (3, [1, 5, 6, 20]), (4, [1, 5, 6]), (5, [1, 5, 6]), (6, [4]), (100000, [5]), (100001, [1, 5, 6]), (200000, [1, 5, 6]), (200001, [1, 5, 6]), (300000, [4]), (400020, [1, 5, 6])]
def E34 : FEnv := []
theorem E34_good : EnvGood Tryd.prog E34 := (EnvGood.nil _)
theorem E34_lin : EnvLin E34 := fun g F h => by cases h
noncomputable def b34 : Code := Tryd.f34.body.getD .skip
noncomputable def c34_0 : Code := (.seq (codeAt [1, 1, 0, 1, 0, 0, 0, 0] b34) (.seq (.cond (.tmp 20) .skip (.exit 0)) (.seq (.block 1 (codeAt [1, 1, 0, 1, 0, 0, 1, 0, 0] b34)) (codeAt [1, 1, 0, 1, 0, 0, 1, 1] b34))))
noncomputable def c34_1 : Code := (.loop c34_0)
noncomputable def c34_2 : Code := (.block 0 c34_1)
noncomputable def c34_3 : Code := (.seq (codeAt [1, 1, 1, 0] b34) .ret)
noncomputable def c34_4 : Code := (.seq c34_2 c34_3)
noncomputable def c34_5 : Code := (.seq (codeAt [0] b34) (.seq (codeAt [1, 0] b34) (.seq (codeAt [1, 1, 0, 0] b34) c34_4)))
noncomputable def g34_p0 (R : Type) (t0 : Int) (t1 : Sl) (H : Heap) (kN : Sl → Sl → Int → Heap → Option R) : Option R :=
  if 0 ≤ (IntKind.wrap .i64 ((2 : Int) + (IntKind.wrap .i64 (Int.tmod t0 (272 : Int))))) ∧ (IntKind.wrap .i64 ((2 : Int) + (IntKind.wrap .i64 (Int.tmod t0 (272 : Int))))) ≤ (IntKind.wrap .i64 ((2 : Int) + (IntKind.wrap .i64 (Int.tmod t0 (272 : Int))))) ∧ (IntKind.wrap .i64 ((2 : Int) + (IntKind.wrap .i64 (Int.tmod t0 (272 : Int))))) ≤ 9223372036854775807 ∧ (IntKind.wrap .i64 ((2 : Int) + (IntKind.wrap .i64 (Int.tmod t0 (272 : Int))))) * ((1 : Nat) : Int) ≤ 281474976710656 then (
    ((zeroCellsV Tryd.prog 5 (Int.toNat (IntKind.wrap .i64 ((2 : Int) + (IntKind.wrap .i64 (Int.tmod t0 (272 : Int)))))))).bind fun vs4 =>
    alo H (.cells vs4 5 false) fun i5 h6 =>
    kN t1 (Sl.mk (some (i5, 0)) (Int.toNat (IntKind.wrap .i64 ((2 : Int) + (IntKind.wrap .i64 (Int.tmod t0 (272 : Int)))))) (.ex (Int.toNat (IntKind.wrap .i64 ((2 : Int) + (IntKind.wrap .i64 (Int.tmod t0 (272 : Int)))))))) (0 : Int) h6)
  else (
    none)
theorem g34_p0_eq {R : Type} (c2 : Code) (t0 : Int) (t1 : Sl) (H : Heap) (K : Ex → Fr → Heap → Option R) : ev Tryd.prog E34 loopLim Tryd.f34.ntmps kp34 (.seq (codeAt [0] b34) (.seq (codeAt [1, 0] b34) (.seq (codeAt [1, 1, 0, 0] b34) c2))) [(0, (V.i .u16 t0)), (1, (V.sl t1))] H K = g34_p0 R t0 t1 H (fun t1 t5 t6 H => ev Tryd.prog E34 loopLim Tryd.f34.ntmps kp34 c2 [(1, (V.sl t1)), (5, (V.sl t5)), (6, (V.i .i64 t6))] H K) := by kernel_rfl
theorem g34_p0_lin {R S : Type} {k : S → Option R} {t0 : Int} {t1 : Sl} {H : Heap} {fkN : Sl → Sl → Int → Heap → Option R} {gkN : Sl → Sl → Int → Heap → Option S} (hkN : ∀ t1 t5 t6 H, fkN t1 t5 t6 H = (gkN t1 t5 t6 H).bind k) : g34_p0 R t0 t1 H fkN = (g34_p0 S t0 t1 H gkN).bind k := by
  delta g34_p0; exact (
    il (
      bl fun vs4 =>
      alo_lin fun i5 h6 =>
      hkN _ _ _ _) (
      rfl))
noncomputable def g34_p1 (R : Type) (t1 : Sl) (t5 : Sl) (t6 : Int) (H : Heap) (kN : Sl → Sl → Int → Heap → Option R) (kE0 : Sl → Heap → Option R) : Option R :=
  sel (decide (t6 < ((t5.len : Nat) : Int))) (
    sel (decide (((t1.len : Nat) : Int) > (0 : Int))) (
      if ((t1.len : Nat) : Int) = 0 then (
        none)
      else (
        if 0 ≤ (Int.tmod t6 ((t1.len : Nat) : Int)) ∧ (Int.tmod t6 ((t1.len : Nat) : Int)) < ((t1.len : Nat) : Int) then (
          (t1.a).bind fun q7 =>
          ((H).ldI .u8 q7.1 (q7.2 + Int.toNat (Int.tmod t6 ((t1.len : Nat) : Int)) * 1)).bind fun x8 =>
          if 0 ≤ t6 ∧ t6 < ((t5.len : Nat) : Int) then (
            (t5.a).bind fun q9 =>
            ((H).st q9.1 (q9.2 + Int.toNat t6 * 1) (V.i .u8 x8)).bind fun h11 =>
            kN t1 t5 (IntKind.wrap .i64 (t6 + (1 : Int))) h11)
          else (
            none))
        else (
          none))) (
      kE0 t5 H)) (
    kE0 t5 H)
theorem g34_p1_eq {R : Type} (t1 : Sl) (t5 : Sl) (t6 : Int) (H : Heap) (K : Ex → Fr → Heap → Option R) : ev Tryd.prog E34 loopLim Tryd.f34.ntmps kp34 c34_0 [(1, (V.sl t1)), (5, (V.sl t5)), (6, (V.i .i64 t6))] H K = g34_p1 R t1 t5 t6 H (fun t1 t5 t6 H => K .normal [(1, (V.sl t1)), (5, (V.sl t5)), (6, (V.i .i64 t6))] H) (fun t5 H => K (.exit 0) [(5, (V.sl t5))] H) := by kernel_rfl
theorem g34_p1_lin {R S : Type} {k : S → Option R} {t1 : Sl} {t5 : Sl} {t6 : Int} {H : Heap} {fkN : Sl → Sl → Int → Heap → Option R} {gkN : Sl → Sl → Int → Heap → Option S} {fkE0 : Sl → Heap → Option R} {gkE0 : Sl → Heap → Option S} (hkN : ∀ t1 t5 t6 H, fkN t1 t5 t6 H = (gkN t1 t5 t6 H).bind k) (hkE0 : ∀ t5 H, fkE0 t5 H = (gkE0 t5 H).bind k) : g34_p1 R t1 t5 t6 H fkN fkE0 = (g34_p1 S t1 t5 t6 H gkN gkE0).bind k := by
  delta g34_p1; exact (
    sl_lin (
      sl_lin (
        il (
          rfl) (
          il (
            bl fun q7 =>
            bl fun x8 =>
            il (
              bl fun q9 =>
              bl fun h11 =>
              hkN _ _ _ _) (
              rfl)) (
            rfl))) (
        hkE0 _ _)) (
      hkE0 _ _))
abbrev g34_p2_S := Sl × Sl × Int
abbrev g34_p2_O := Sl
def g34_p2_es (s : g34_p2_S) : Fr := [(1, (V.sl s.1)), (5, (V.sl s.2.1)), (6, (V.i .i64 s.2.2))]
def g34_p2_er (r : g34_p2_O) : Ex × Fr := ((.exit 0), [(5, (V.sl r))])
noncomputable def g34_p2_b (s : g34_p2_S) (H : Heap) : Option (Rd g34_p2_S g34_p2_O × Heap) :=
  g34_p1 _ s.1 s.2.1 s.2.2 H (fun t1 t5 t6 H => some (.go (t1, t5, t6), H)) (fun t5 H => some (.up t5, H))
noncomputable def g34_p2 (R : Type) (t1 : Sl) (t5 : Sl) (t6 : Int) (H : Heap) (kE0 : Sl → Heap → Option R) : Option R :=
  (tlim (g34_p2_b) (t1, t5, t6) H).bind fun p => kE0 p.1 p.2
theorem g34_p2_lin {R S : Type} {k : S → Option R} {t1 : Sl} {t5 : Sl} {t6 : Int} {H : Heap} {fkE0 : Sl → Heap → Option R} {gkE0 : Sl → Heap → Option S} (hkE0 : ∀ t5 H, fkE0 t5 H = (gkE0 t5 H).bind k) : g34_p2 R t1 t5 t6 H fkE0 = (g34_p2 S t1 t5 t6 H gkE0).bind k := by
  exact bl fun p => hkE0 _ _
theorem g34_p2_eq {R : Type} (t1 : Sl) (t5 : Sl) (t6 : Int) (H : Heap) (K : Ex → Fr → Heap → Option R) : ev Tryd.prog E34 loopLim Tryd.f34.ntmps kp34 c34_1 [(1, (V.sl t1)), (5, (V.sl t5)), (6, (V.i .i64 t6))] H K = g34_p2 R t1 t5 t6 H (fun t5 H => K (.exit 0) [(5, (V.sl t5))] H) := by
  show ev Tryd.prog E34 loopLim Tryd.f34.ntmps kp34 (.loop c34_0) [(1, (V.sl t1)), (5, (V.sl t5)), (6, (V.i .i64 t6))] H K = _
  delta g34_p2
  refine (ev_tlim (b := g34_p2_b) (es := g34_p2_es) (er := g34_p2_er) (by intro r; exact nofun) (fun s H => ?_) (t1, t5, t6) H K).trans (bc fun p => rfl)
  exact (g34_p1_eq s.1 s.2.1 s.2.2 H ret3).trans (g34_p1_lin (fun _ _ _ _ => rfl) (fun _ _ => rfl))
noncomputable def g34_p3 (R : Type) (t1 : Sl) (t5 : Sl) (t6 : Int) (H : Heap) (kN : Sl → Heap → Option R) : Option R :=
  g34_p2 R t1 t5 t6 H (fun t5 H => kN t5 H)
theorem g34_p3_lin {R S : Type} {k : S → Option R} {t1 : Sl} {t5 : Sl} {t6 : Int} {H : Heap} {fkN : Sl → Heap → Option R} {gkN : Sl → Heap → Option S} (hkN : ∀ t5 H, fkN t5 H = (gkN t5 H).bind k) : g34_p3 R t1 t5 t6 H fkN = (g34_p3 S t1 t5 t6 H gkN).bind k := by
  exact g34_p2_lin (fun _ _ => hkN _ _)
theorem g34_p3_eq {R : Type} (t1 : Sl) (t5 : Sl) (t6 : Int) (H : Heap) (K : Ex → Fr → Heap → Option R) : ev Tryd.prog E34 loopLim Tryd.f34.ntmps kp34 c34_2 [(1, (V.sl t1)), (5, (V.sl t5)), (6, (V.i .i64 t6))] H K = g34_p3 R t1 t5 t6 H (fun t5 H => K .normal [(5, (V.sl t5))] H) := by
  show ev Tryd.prog E34 loopLim Tryd.f34.ntmps kp34 (.block 0 c34_1) [(1, (V.sl t1)), (5, (V.sl t5)), (6, (V.i .i64 t6))] H K = _
  rw [ev_block]
  delta g34_p3
  exact (g34_p2_eq t1 t5 t6 H (kBlock kp34 0 K))
noncomputable def g34_p4 (R : Type) (t5 : Sl) (H : Heap) (kR : Sl → Heap → Option R) : Option R :=
  kR t5 H
theorem g34_p4_eq {R : Type} (t5 : Sl) (H : Heap) (K : Ex → Fr → Heap → Option R) : ev Tryd.prog E34 loopLim Tryd.f34.ntmps kp34 c34_3 [(5, (V.sl t5))] H K = g34_p4 R t5 H (fun t4 H => K .ret [(4, (V.sl t4))] H) := by kernel_rfl
theorem g34_p4_lin {R S : Type} {k : S → Option R} {t5 : Sl} {H : Heap} {fkR : Sl → Heap → Option R} {gkR : Sl → Heap → Option S} (hkR : ∀ t4 H, fkR t4 H = (gkR t4 H).bind k) : g34_p4 R t5 H fkR = (g34_p4 S t5 H gkR).bind k := by
  delta g34_p4; exact (
    hkR _ _)
noncomputable def g34_p5 (R : Type) (t1 : Sl) (t5 : Sl) (t6 : Int) (H : Heap) (kR : Sl → Heap → Option R) : Option R :=
  g34_p3 R t1 t5 t6 H (fun t5 H => g34_p4 R t5 H (fun t4 H => kR t4 H))
theorem g34_p5_lin {R S : Type} {k : S → Option R} {t1 : Sl} {t5 : Sl} {t6 : Int} {H : Heap} {fkR : Sl → Heap → Option R} {gkR : Sl → Heap → Option S} (hkR : ∀ t4 H, fkR t4 H = (gkR t4 H).bind k) : g34_p5 R t1 t5 t6 H fkR = (g34_p5 S t1 t5 t6 H gkR).bind k := by
  exact g34_p3_lin (fun _ _ => g34_p4_lin (fun _ _ => hkR _ _))
theorem g34_p5_eq {R : Type} (t1 : Sl) (t5 : Sl) (t6 : Int) (H : Heap) (K : Ex → Fr → Heap → Option R) : ev Tryd.prog E34 loopLim Tryd.f34.ntmps kp34 c34_4 [(1, (V.sl t1)), (5, (V.sl t5)), (6, (V.i .i64 t6))] H K = g34_p5 R t1 t5 t6 H (fun t4 H => K .ret [(4, (V.sl t4))] H) := by
  show ev Tryd.prog E34 loopLim Tryd.f34.ntmps kp34 (.seq c34_2 c34_3) [(1, (V.sl t1)), (5, (V.sl t5)), (6, (V.i .i64 t6))] H K = _
  rw [ev_seq]
  delta g34_p5
  exact (g34_p3_eq t1 t5 t6 H (kSeq (fun fr H => ev Tryd.prog E34 loopLim Tryd.f34.ntmps kp34 c34_3 fr H K) K)).trans (congrArg (g34_p3 R t1 t5 t6 H) (funext fun t5 => funext fun H => (kSeq_n _ _ _ _).trans (g34_p4_eq t5 H K)))
noncomputable def g34_p6 (R : Type) (t0 : Int) (t1 : Sl) (H : Heap) (kR : Sl → Heap → Option R) : Option R :=
  g34_p0 R t0 t1 H (fun t1 t5 t6 H => g34_p5 R t1 t5 t6 H (fun t4 H => kR t4 H))
theorem g34_p6_lin {R S : Type} {k : S → Option R} {t0 : Int} {t1 : Sl} {H : Heap} {fkR : Sl → Heap → Option R} {gkR : Sl → Heap → Option S} (hkR : ∀ t4 H, fkR t4 H = (gkR t4 H).bind k) : g34_p6 R t0 t1 H fkR = (g34_p6 S t0 t1 H gkR).bind k := by
  exact g34_p0_lin (fun _ _ _ _ => g34_p5_lin (fun _ _ => hkR _ _))
theorem g34_p6_eq {R : Type} (t0 : Int) (t1 : Sl) (H : Heap) (K : Ex → Fr → Heap → Option R) : ev Tryd.prog E34 loopLim Tryd.f34.ntmps kp34 c34_5 [(0, (V.i .u16 t0)), (1, (V.sl t1))] H K = g34_p6 R t0 t1 H (fun t4 H => K .ret [(4, (V.sl t4))] H) := by
  show ev Tryd.prog E34 loopLim Tryd.f34.ntmps kp34 (.seq (codeAt [0] b34) (.seq (codeAt [1, 0] b34) (.seq (codeAt [1, 1, 0, 0] b34) c34_4))) [(0, (V.i .u16 t0)), (1, (V.sl t1))] H K = _
  delta g34_p6
  exact (g34_p0_eq _ t0 t1 H K).trans (congrArg (g34_p0 R t0 t1 H) (funext fun t1 => funext fun t5 => funext fun t6 => funext fun H => g34_p5_eq t1 t5 t6 H K))
noncomputable def g34_r : T34 := fun R t0 t1 H K =>
  g34_p6 R t0 t1 H (fun t4 H =>
    K t4 H)
theorem g34_r_lin : Lin34 (g34_r) := by
  constructor
  intro R S k t0 t1 H f g h
  exact g34_p6_lin (fun t4 H =>
    h _ _)
theorem g34_fn {R : Type} (t0 : Int) (t1 : Sl) (H : Heap) (K : V → Heap → Option R) : evFn Tryd.prog E34 loopLim Tryd.f34 kp34 [(V.i .u16 t0), (V.sl t1)] H K = g34_r R t0 t1 H (fun r0 H => K (V.sl r0) H) := by
  have h0 : ∀ (t4 : Sl) (H : Heap), kFn Tryd.prog Tryd.f34.results.toList K .ret [(4, (V.sl t4))] H =
      K (V.sl t4) H := by intros; kernel_rfl
  have e0 := evFn_code2 (P := Tryd.prog) (c := c34_5) (E := E34) (lr := loopLim) (kp := kp34) (fn := Tryd.f34) (args := [(V.i .u16 t0), (V.sl t1)]) H K (by kernel_rfl) (Nat.le_of_ble_eq_true (by kernel_rfl)) (by kernel_rfl)
  have e1 : ev Tryd.prog E34 loopLim Tryd.f34.ntmps kp34 c34_5 (argFr 0 [(V.i .u16 t0), (V.sl t1)]) H (kFn Tryd.prog Tryd.f34.results.toList K) = ev Tryd.prog E34 loopLim Tryd.f34.ntmps kp34 c34_5 [(0, (V.i .u16 t0)), (1, (V.sl t1))] H (kFn Tryd.prog Tryd.f34.results.toList K) := by kernel_rfl
  refine (e0.trans e1).trans ?_
  delta g34_r
  exact (g34_p6_eq t0 t1 H (kFn Tryd.prog Tryd.f34.results.toList K)).trans (congrArg (g34_p6 R t0 t1 H) (funext fun t4 => funext fun H => h0 t4 H))
theorem g34_ok : FunOK Tryd.prog 34 (w34 (g34_r)) := by
  refine (runF_ok (E34_good) mixed lim_ok Tryd.func34 (by kernel_rfl) kp34).of_le fun R args H K r hk => ?_
  unfold w34 at hk
  split at hk
  · exact (g34_fn _ _ H K).trans hk
  · cases hk
def kp21 : Nat → Option (List Nat) := kpOf [(0, [1, 2]), (1, [1, 2, 3]), (2, [1, 2, 3, 21]), (3, [1, 2, 3, 21, 22]), (4, [2, 3]), (5, [1, 2, 3, 28]), (6, [2, 3]), (7, [2]), (100000, [2, 3]), (200000, [1, 2, 3, 21]), (300000, [2]), (400022, [2, 3]), (400028, [2, 3])]
def E21 (a34 : T34) : FEnv := [(34, w34 a34)]
theorem E21_good {a34 : T34} (oa34 : FunOK Tryd.prog 34 (w34 a34)) (la34 : Lin34 a34) : EnvGood Tryd.prog (E21 a34) := ((EnvGood.nil _).cons oa34 (w34_lin la34))
theorem E21_lin {a34 : T34} (la34 : Lin34 a34) : EnvLin (E21 a34) := by
  intro g F h
  simp only [E21, List.mem_cons, List.not_mem_nil, or_false] at h
  rcases h with h
  · cases h; exact w34_lin la34
noncomputable def b21 : Code := Tryd.f21.body.getD .skip
noncomputable def c21_0 : Code := (.seq (codeAt [0] b21) (.seq (codeAt [1, 0] b21) (.seq (codeAt [1, 1, 0, 0] b21) (.seq (.block 0 (.seq (codeAt [1, 1, 0, 1, 0, 0] b21) (.cond (.tmp 22) (codeAt [1, 1, 0, 1, 0, 1, 0] b21) (.seq (codeAt [1, 1, 0, 1, 0, 1, 1, 0] b21) (.cond (.tmp 28) (codeAt [1, 1, 0, 1, 0, 1, 1, 1, 0] b21) .skip))))) (.seq (codeAt [1, 1, 1, 0] b21) .ret)))))
noncomputable def g21_p0 (a34 : T34) (R : Type) (t0_0 : Int) (t0_1 : Int) (t0_2 : Int) (t0_3 : Int) (t0_4 : Int) (t0_5 : Sl) (H : Heap) (kR : Nat → Nat → Heap → Option R) : Option R :=
  alo H (.cells [(V.i .u8 t0_0), (V.i .u8 t0_1), (V.i .u8 t0_2), (V.i .u8 t0_3), (V.i .u16 t0_4), (V.sl t0_5)] 46 false) fun i1 h2 =>
  alo h2 (.cells [(V.i .u8 (0 : Int)), (V.b false), (V.i .u8 (0 : Int)), (V.b false), (V.i .u8 (0 : Int)), (V.i .u8 (0 : Int)), (V.sl (Sl.mk none 0 (.ex 0)))] 25 false) fun i3 h4 =>
  ((h4).ldI .u8 i1 (0 + 0)).bind fun x5 =>
  ((h4).ldI .u8 i1 (0 + 0)).bind fun x6 =>
  ((h4).ldI .u8 i1 (0 + 1)).bind fun x7 =>
  ((h4).ldI .u8 i1 (0 + 1)).bind fun x8 =>
  ((h4).ldI .u8 i1 (0 + 2)).bind fun x9 =>
  alo h4 (.cells [(V.i .u8 (0 : Int)), (V.b false), (V.i .u8 (0 : Int)), (V.b false), (V.i .u8 (0 : Int)), (V.i .u8 (0 : Int)), (V.sl (Sl.mk none 0 (.ex 0)))] 25 false) fun i10 h11 =>
  ((h11).sts i10 0 [(V.i .u8 (Int.tmod x5 (128 : Int))), (V.b (decide (x6 ≥ (128 : Int)))), (V.i .u8 (Int.tmod x7 (128 : Int))), (V.b (decide (x8 ≥ (128 : Int)))), (V.i .u8 (Int.tmod x9 (3 : Int))), (V.i .u8 (0 : Int)), (V.sl (Sl.mk none 0 (.ex 0)))]).bind fun h12 =>
  ((h12).ldI .u8 i10 (0 + 4)).bind fun x13 =>
  sel (x13 == (1 : Int)) (
    ((h12).ldI .u8 i1 (0 + 3)).bind fun x14 =>
    ((h12).st i10 (0 + 5) (V.i .u8 (Int.tmod x14 (6 : Int)))).bind fun h16 =>
    ((h16).ldI .u8 i10 (0 + 0)).bind fun x17 =>
    ((h16).ldB i10 (0 + 1)).bind fun x18 =>
    ((h16).ldI .u8 i10 (0 + 2)).bind fun x19 =>
    ((h16).ldB i10 (0 + 3)).bind fun x20 =>
    ((h16).ldI .u8 i10 (0 + 4)).bind fun x21 =>
    ((h16).ldI .u8 i10 (0 + 5)).bind fun x22 =>
    ((h16).ldSl i10 (0 + 6)).bind fun x23 =>
    ((h16).sts i3 0 [(V.i .u8 x17), (V.b x18), (V.i .u8 x19), (V.b x20), (V.i .u8 x21), (V.i .u8 x22), (V.sl x23)]).bind fun h24 =>
    kR i3 0 h24) (
    sel (x13 == (2 : Int)) (
      ((h12).ldI .u16 i1 (0 + 4)).bind fun x25 =>
      ((h12).ldSl i1 (0 + 5)).bind fun x26 =>
      a34 R x25 x26 h12 fun x27 h28 =>
      ((h28).st i10 (0 + 6) (V.sl x27)).bind fun h30 =>
      ((h30).ldI .u8 i10 (0 + 0)).bind fun x31 =>
      ((h30).ldB i10 (0 + 1)).bind fun x32 =>
      ((h30).ldI .u8 i10 (0 + 2)).bind fun x33 =>
      ((h30).ldB i10 (0 + 3)).bind fun x34 =>
      ((h30).ldI .u8 i10 (0 + 4)).bind fun x35 =>
      ((h30).ldI .u8 i10 (0 + 5)).bind fun x36 =>
      ((h30).ldSl i10 (0 + 6)).bind fun x37 =>
      ((h30).sts i3 0 [(V.i .u8 x31), (V.b x32), (V.i .u8 x33), (V.b x34), (V.i .u8 x35), (V.i .u8 x36), (V.sl x37)]).bind fun h38 =>
      kR i3 0 h38) (
      ((h12).ldI .u8 i10 (0 + 0)).bind fun x39 =>
      ((h12).ldB i10 (0 + 1)).bind fun x40 =>
      ((h12).ldI .u8 i10 (0 + 2)).bind fun x41 =>
      ((h12).ldB i10 (0 + 3)).bind fun x42 =>
      ((h12).ldI .u8 i10 (0 + 4)).bind fun x43 =>
      ((h12).ldI .u8 i10 (0 + 5)).bind fun x44 =>
      ((h12).ldSl i10 (0 + 6)).bind fun x45 =>
      ((h12).sts i3 0 [(V.i .u8 x39), (V.b x40), (V.i .u8 x41), (V.b x42), (V.i .u8 x43), (V.i .u8 x44), (V.sl x45)]).bind fun h46 =>
      kR i3 0 h46))
theorem g21_p0_eq (a34 : T34) (la34 : Lin34 a34) {R : Type} (t0_0 : Int) (t0_1 : Int) (t0_2 : Int) (t0_3 : Int) (t0_4 : Int) (t0_5 : Sl) (H : Heap) (K : Ex → Fr → Heap → Option R) : ev Tryd.prog (E21 a34) loopLim Tryd.f21.ntmps kp21 c21_0 [(0, (V.agg [(V.i .u8 t0_0), (V.i .u8 t0_1), (V.i .u8 t0_2), (V.i .u8 t0_3), (V.i .u16 t0_4), (V.sl t0_5)]))] H K = g21_p0 a34 R t0_0 t0_1 t0_2 t0_3 t0_4 t0_5 H (fun t2_0 t2_1 H => K .ret [(2, (V.p (some (t2_0, t2_1))))] H) := by kernel_rfl
theorem g21_p0_lin {a34 : T34} (la34 : Lin34 a34) {R S : Type} {k : S → Option R} {t0_0 : Int} {t0_1 : Int} {t0_2 : Int} {t0_3 : Int} {t0_4 : Int} {t0_5 : Sl} {H : Heap} {fkR : Nat → Nat → Heap → Option R} {gkR : Nat → Nat → Heap → Option S} (hkR : ∀ t2_0 t2_1 H, fkR t2_0 t2_1 H = (gkR t2_0 t2_1 H).bind k) : g21_p0 a34 R t0_0 t0_1 t0_2 t0_3 t0_4 t0_5 H fkR = (g21_p0 a34 S t0_0 t0_1 t0_2 t0_3 t0_4 t0_5 H gkR).bind k := by
  delta g21_p0; exact (
    alo_lin fun i1 h2 =>
    alo_lin fun i3 h4 =>
    bl fun x5 =>
    bl fun x6 =>
    bl fun x7 =>
    bl fun x8 =>
    bl fun x9 =>
    alo_lin fun i10 h11 =>
    bl fun h12 =>
    bl fun x13 =>
    sl_lin (
      bl fun x14 =>
      bl fun h16 =>
      bl fun x17 =>
      bl fun x18 =>
      bl fun x19 =>
      bl fun x20 =>
      bl fun x21 =>
      bl fun x22 =>
      bl fun x23 =>
      bl fun h24 =>
      hkR _ _ _) (
      sl_lin (
        bl fun x25 =>
        bl fun x26 =>
        la34.l fun x27 h28 =>
        bl fun h30 =>
        bl fun x31 =>
        bl fun x32 =>
        bl fun x33 =>
        bl fun x34 =>
        bl fun x35 =>
        bl fun x36 =>
        bl fun x37 =>
        bl fun h38 =>
        hkR _ _ _) (
        bl fun x39 =>
        bl fun x40 =>
        bl fun x41 =>
        bl fun x42 =>
        bl fun x43 =>
        bl fun x44 =>
        bl fun x45 =>
        bl fun h46 =>
        hkR _ _ _)))
noncomputable def g21_r (a34 : T34) : T21 := fun R t0_0 t0_1 t0_2 t0_3 t0_4 t0_5 H K =>
  g21_p0 a34 R t0_0 t0_1 t0_2 t0_3 t0_4 t0_5 H (fun t2_0 t2_1 H =>
    ((H).ldI .u8 t2_0 (t2_1 + 0)).bind fun x47 =>
    ((H).ldB t2_0 (t2_1 + 1)).bind fun x48 =>
    ((H).ldI .u8 t2_0 (t2_1 + 2)).bind fun x49 =>
    ((H).ldB t2_0 (t2_1 + 3)).bind fun x50 =>
    ((H).ldI .u8 t2_0 (t2_1 + 4)).bind fun x51 =>
    ((H).ldI .u8 t2_0 (t2_1 + 5)).bind fun x52 =>
    ((H).ldSl t2_0 (t2_1 + 6)).bind fun x53 =>
    K x47 x48 x49 x50 x51 x52 x53 H)
theorem g21_r_lin {a34 : T34} (la34 : Lin34 a34) : Lin21 (g21_r a34) := by
  constructor
  intro R S k t0_0 t0_1 t0_2 t0_3 t0_4 t0_5 H f g h
  exact g21_p0_lin la34 (fun t2_0 t2_1 H =>
    bl fun x47 =>
    bl fun x48 =>
    bl fun x49 =>
    bl fun x50 =>
    bl fun x51 =>
    bl fun x52 =>
    bl fun x53 =>
    h _ _ _ _ _ _ _ _)
theorem g21_fn (a34 : T34) (la34 : Lin34 a34) {R : Type} (t0_0 : Int) (t0_1 : Int) (t0_2 : Int) (t0_3 : Int) (t0_4 : Int) (t0_5 : Sl) (H : Heap) (K : V → Heap → Option R) : evFn Tryd.prog (E21 a34) loopLim Tryd.f21 kp21 [(V.agg [(V.i .u8 t0_0), (V.i .u8 t0_1), (V.i .u8 t0_2), (V.i .u8 t0_3), (V.i .u16 t0_4), (V.sl t0_5)])] H K = g21_r a34 R t0_0 t0_1 t0_2 t0_3 t0_4 t0_5 H (fun r0_0 r0_1 r0_2 r0_3 r0_4 r0_5 r0_6 H => K (V.agg [(V.i .u8 r0_0), (V.b r0_1), (V.i .u8 r0_2), (V.b r0_3), (V.i .u8 r0_4), (V.i .u8 r0_5), (V.sl r0_6)]) H) := by
  have h0 : ∀ (t2_0 : Nat) (t2_1 : Nat) (H : Heap), kFn Tryd.prog Tryd.f21.results.toList K .ret [(2, (V.p (some (t2_0, t2_1))))] H =
      ((H).ldI .u8 t2_0 (t2_1 + 0)).bind fun x47 =>
      ((H).ldB t2_0 (t2_1 + 1)).bind fun x48 =>
      ((H).ldI .u8 t2_0 (t2_1 + 2)).bind fun x49 =>
      ((H).ldB t2_0 (t2_1 + 3)).bind fun x50 =>
      ((H).ldI .u8 t2_0 (t2_1 + 4)).bind fun x51 =>
      ((H).ldI .u8 t2_0 (t2_1 + 5)).bind fun x52 =>
      ((H).ldSl t2_0 (t2_1 + 6)).bind fun x53 =>
      K (V.agg [(V.i .u8 x47), (V.b x48), (V.i .u8 x49), (V.b x50), (V.i .u8 x51), (V.i .u8 x52), (V.sl x53)]) H := by intros; kernel_rfl
  have e0 := evFn_code2 (P := Tryd.prog) (c := c21_0) (E := (E21 a34)) (lr := loopLim) (kp := kp21) (fn := Tryd.f21) (args := [(V.agg [(V.i .u8 t0_0), (V.i .u8 t0_1), (V.i .u8 t0_2), (V.i .u8 t0_3), (V.i .u16 t0_4), (V.sl t0_5)])]) H K (by kernel_rfl) (Nat.le_of_ble_eq_true (by kernel_rfl)) (by kernel_rfl)
  have e1 : ev Tryd.prog (E21 a34) loopLim Tryd.f21.ntmps kp21 c21_0 (argFr 0 [(V.agg [(V.i .u8 t0_0), (V.i .u8 t0_1), (V.i .u8 t0_2), (V.i .u8 t0_3), (V.i .u16 t0_4), (V.sl t0_5)])]) H (kFn Tryd.prog Tryd.f21.results.toList K) = ev Tryd.prog (E21 a34) loopLim Tryd.f21.ntmps kp21 c21_0 [(0, (V.agg [(V.i .u8 t0_0), (V.i .u8 t0_1), (V.i .u8 t0_2), (V.i .u8 t0_3), (V.i .u16 t0_4), (V.sl t0_5)]))] H (kFn Tryd.prog Tryd.f21.results.toList K) := by kernel_rfl
  refine (e0.trans e1).trans ?_
  delta g21_r
  exact (g21_p0_eq a34 la34 t0_0 t0_1 t0_2 t0_3 t0_4 t0_5 H (kFn Tryd.prog Tryd.f21.results.toList K)).trans (congrArg (g21_p0 a34 R t0_0 t0_1 t0_2 t0_3 t0_4 t0_5 H) (funext fun t2_0 => funext fun t2_1 => funext fun H => h0 t2_0 t2_1 H))
theorem g21_ok {a34 : T34} (oa34 : FunOK Tryd.prog 34 (w34 a34)) (la34 : Lin34 a34) : FunOK Tryd.prog 21 (w21 (g21_r a34)) := by
  refine (runF_ok (E21_good oa34 la34) mixed lim_ok Tryd.func21 (by kernel_rfl) kp21).of_le fun R args H K r hk => ?_
  unfold w21 at hk
  split at hk
  · exact (g21_fn a34 la34 _ _ _ _ _ _ H K).trans hk
  · cases hk
def kp23 : Nat → Option (List Nat) := kpOf [(0, [0]), (1, [3]), (2, [2]), (3, [2]), (300000, [2]), (400003, [])]
def E23 : FEnv := []
theorem E23_good : EnvGood Tryd.prog E23 := (EnvGood.nil _)
theorem E23_lin : EnvLin E23 := fun g F h => by cases h
noncomputable def b23 : Code := Tryd.f23.body.getD .skip
noncomputable def c23_0 : Code := (.seq (codeAt [0] b23) (.seq (codeAt [1, 0, 0] b23) (.seq (.cond (.tmp 3) (.seq (codeAt [1, 0, 1, 0, 0] b23) .ret) .skip) (.seq (codeAt [1, 1, 0] b23) .ret))))
noncomputable def g23_p0 (R : Type) (t0 : Bool) (H : Heap) (kR : ByteArray → Heap → Option R) : Option R :=
  sel t0 (
    kR str3 H) (
    kR str4 H)
theorem g23_p0_eq {R : Type} (t0 : Bool) (H : Heap) (K : Ex → Fr → Heap → Option R) : ev Tryd.prog E23 loopLim Tryd.f23.ntmps kp23 c23_0 [(0, (V.b t0))] H K = g23_p0 R t0 H (fun t2 H => K .ret [(2, (V.s t2))] H) := by kernel_rfl
theorem g23_p0_lin {R S : Type} {k : S → Option R} {t0 : Bool} {H : Heap} {fkR : ByteArray → Heap → Option R} {gkR : ByteArray → Heap → Option S} (hkR : ∀ t2 H, fkR t2 H = (gkR t2 H).bind k) : g23_p0 R t0 H fkR = (g23_p0 S t0 H gkR).bind k := by
  delta g23_p0; exact (
    sl_lin (
      hkR _ _) (
      hkR _ _))
noncomputable def g23_r : T23 := fun R t0 H K =>
  g23_p0 R t0 H (fun t2 H =>
    K t2 H)
theorem g23_r_lin : Lin23 (g23_r) := by
  constructor
  intro R S k t0 H f g h
  exact g23_p0_lin (fun t2 H =>
    h _ _)
theorem g23_fn {R : Type} (t0 : Bool) (H : Heap) (K : V → Heap → Option R) : evFn Tryd.prog E23 loopLim Tryd.f23 kp23 [(V.b t0)] H K = g23_r R t0 H (fun r0 H => K (V.s r0) H) := by
  have h0 : ∀ (t2 : ByteArray) (H : Heap), kFn Tryd.prog Tryd.f23.results.toList K .ret [(2, (V.s t2))] H =
      K (V.s t2) H := by intros; kernel_rfl
  have e0 := evFn_code2 (P := Tryd.prog) (c := c23_0) (E := E23) (lr := loopLim) (kp := kp23) (fn := Tryd.f23) (args := [(V.b t0)]) H K (by kernel_rfl) (Nat.le_of_ble_eq_true (by kernel_rfl)) (by kernel_rfl)
  have e1 : ev Tryd.prog E23 loopLim Tryd.f23.ntmps kp23 c23_0 (argFr 0 [(V.b t0)]) H (kFn Tryd.prog Tryd.f23.results.toList K) = ev Tryd.prog E23 loopLim Tryd.f23.ntmps kp23 c23_0 [(0, (V.b t0))] H (kFn Tryd.prog Tryd.f23.results.toList K) := by kernel_rfl
  refine (e0.trans e1).trans ?_
  delta g23_r
  exact (g23_p0_eq t0 H (kFn Tryd.prog Tryd.f23.results.toList K)).trans (congrArg (g23_p0 R t0 H) (funext fun t2 => funext fun H => h0 t2 H))
theorem g23_ok : FunOK Tryd.prog 23 (w23 (g23_r)) := by
  refine (runF_ok (E23_good) mixed lim_ok Tryd.func23 (by kernel_rfl) kp23).of_le fun R args H K r hk => ?_
  unfold w23 at hk
  split at hk
  · exact (g23_fn _ H K).trans hk
  · cases hk
end Go.Proofs.YteipplgcdbaokaaDoor

