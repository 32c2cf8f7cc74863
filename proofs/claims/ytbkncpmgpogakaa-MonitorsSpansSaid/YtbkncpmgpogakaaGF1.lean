/- Printed: functions as the machine runs them. -/
import Derived.Test.YtbkncpmgpogakaaGT
namespace Go.Proofs.Ytbkncpmgpogakaa
open Go AM Go.RowKit
set_option linter.unusedVariables false
def kp11 : Nat → Option (List Nat) := kpOf [(0, [0]), (1, [0, 3]), (2, [0, 3, 4]), (3, [0, 3, 4, 8]), (4, [0, 3, 4]), (5, [0, 3, 4]), (6, [2]), (100000, [3]), (100001, [0, 3, 4]), (200000, [0, 3, 4]), (200001, [0, 3, 4]), (300000, [2]), (400008, [0, 3, 4])]
def E11 : FEnv := []
theorem E11_good : EnvGood Try.prog E11 := (EnvGood.nil _)
theorem E11_lin : EnvLin E11 := fun g F h => by cases h
noncomputable def b11 : Code := Try.f11.body.getD .skip
noncomputable def c11_0 : Code := (.seq (codeAt [1, 1, 0, 1, 0, 0, 0, 0] b11) (.seq (.cond (.tmp 8) .skip (.exit 0)) (.seq (.block 1 (codeAt [1, 1, 0, 1, 0, 0, 1, 0, 0] b11)) (codeAt [1, 1, 0, 1, 0, 0, 1, 1] b11))))
noncomputable def c11_1 : Code := (.loop c11_0)
noncomputable def c11_2 : Code := (.block 0 c11_1)
noncomputable def c11_3 : Code := (.seq (codeAt [1, 1, 1, 0] b11) .ret)
noncomputable def c11_4 : Code := (.seq c11_2 c11_3)
noncomputable def c11_5 : Code := (.seq (codeAt [0] b11) (.seq (codeAt [1, 0] b11) (.seq (codeAt [1, 1, 0, 0] b11) c11_4)))
noncomputable def g11_p0 (R : Type) (t0 : ByteArray) (H : Heap) (kN : ByteArray → Sl → Int → Heap → Option R) : Option R :=
  kN t0 (Sl.mk none 0 (.ex 0)) (0 : Int) H
theorem g11_p0_eq {R : Type} (c2 : Code) (t0 : ByteArray) (H : Heap) (K : Ex → Fr → Heap → Option R) : ev Try.prog E11 loopLim Try.f11.ntmps kp11 (.seq (codeAt [0] b11) (.seq (codeAt [1, 0] b11) (.seq (codeAt [1, 1, 0, 0] b11) c2))) [(0, (V.s t0))] H K = g11_p0 R t0 H (fun t0 t3 t4 H => ev Try.prog E11 loopLim Try.f11.ntmps kp11 c2 [(0, (V.s t0)), (3, (V.sl t3)), (4, (V.i .i64 t4))] H K) := by kernel_rfl
theorem g11_p0_lin {R S : Type} {k : S → Option R} {t0 : ByteArray} {H : Heap} {fkN : ByteArray → Sl → Int → Heap → Option R} {gkN : ByteArray → Sl → Int → Heap → Option S} (hkN : ∀ t0 t3 t4 H, fkN t0 t3 t4 H = (gkN t0 t3 t4 H).bind k) : g11_p0 R t0 H fkN = (g11_p0 S t0 H gkN).bind k := by
  delta g11_p0; exact (
    hkN _ _ _ _)
noncomputable def g11_p1 (R : Type) (t0 : ByteArray) (t3 : Sl) (t4 : Int) (H : Heap) (kN : ByteArray → Sl → Int → Heap → Option R) (kE0 : Sl → Heap → Option R) : Option R :=
  sel (decide (t4 < ((t0.size : Nat) : Int))) (
    if 0 ≤ t4 ∧ t4 < ((t0.size : Nat) : Int) then (
      alo H (.cells [(V.b ((btAt t0 t4) != (120 : Int)))] 4 false) fun i1 h2 =>
      ((slCells h2 1 (Sl.mk (some (i1, 0)) 1 (.ex 1)))).bind fun vs5 =>
      appendV h2 4 1 1 t3 (Sl.mk (some (i1, 0)) 1 (.ex 1)).len vs5 fun s3 h4 =>
      kN t0 s3 (IntKind.wrap .i64 (t4 + (1 : Int))) h4)
    else (
      none)) (
    kE0 t3 H)
theorem g11_p1_eq {R : Type} (t0 : ByteArray) (t3 : Sl) (t4 : Int) (H : Heap) (K : Ex → Fr → Heap → Option R) : ev Try.prog E11 loopLim Try.f11.ntmps kp11 c11_0 [(0, (V.s t0)), (3, (V.sl t3)), (4, (V.i .i64 t4))] H K = g11_p1 R t0 t3 t4 H (fun t0 t3 t4 H => K .normal [(0, (V.s t0)), (3, (V.sl t3)), (4, (V.i .i64 t4))] H) (fun t3 H => K (.exit 0) [(3, (V.sl t3))] H) := by kernel_rfl
theorem g11_p1_lin {R S : Type} {k : S → Option R} {t0 : ByteArray} {t3 : Sl} {t4 : Int} {H : Heap} {fkN : ByteArray → Sl → Int → Heap → Option R} {gkN : ByteArray → Sl → Int → Heap → Option S} {fkE0 : Sl → Heap → Option R} {gkE0 : Sl → Heap → Option S} (hkN : ∀ t0 t3 t4 H, fkN t0 t3 t4 H = (gkN t0 t3 t4 H).bind k) (hkE0 : ∀ t3 H, fkE0 t3 H = (gkE0 t3 H).bind k) : g11_p1 R t0 t3 t4 H fkN fkE0 = (g11_p1 S t0 t3 t4 H gkN gkE0).bind k := by
  delta g11_p1; exact (
    sl_lin (
      il (
        alo_lin fun i1 h2 =>
        bl fun vs5 =>
        appendV_lin fun s3 h4 =>
        hkN _ _ _ _) (
        rfl)) (
      hkE0 _ _))
abbrev g11_p2_S := ByteArray × Sl × Int
abbrev g11_p2_O := Sl
def g11_p2_es (s : g11_p2_S) : Fr := [(0, (V.s s.1)), (3, (V.sl s.2.1)), (4, (V.i .i64 s.2.2))]
def g11_p2_er (r : g11_p2_O) : Ex × Fr := ((.exit 0), [(3, (V.sl r))])
noncomputable def g11_p2_b (s : g11_p2_S) (H : Heap) : Option (Rd g11_p2_S g11_p2_O × Heap) :=
  g11_p1 _ s.1 s.2.1 s.2.2 H (fun t0 t3 t4 H => some (.go (t0, t3, t4), H)) (fun t3 H => some (.up t3, H))
noncomputable def g11_p2 (R : Type) (t0 : ByteArray) (t3 : Sl) (t4 : Int) (H : Heap) (kE0 : Sl → Heap → Option R) : Option R :=
  (tlim (g11_p2_b) (t0, t3, t4) H).bind fun p => kE0 p.1 p.2
theorem g11_p2_lin {R S : Type} {k : S → Option R} {t0 : ByteArray} {t3 : Sl} {t4 : Int} {H : Heap} {fkE0 : Sl → Heap → Option R} {gkE0 : Sl → Heap → Option S} (hkE0 : ∀ t3 H, fkE0 t3 H = (gkE0 t3 H).bind k) : g11_p2 R t0 t3 t4 H fkE0 = (g11_p2 S t0 t3 t4 H gkE0).bind k := by
  exact bl fun p => hkE0 _ _
theorem g11_p2_eq {R : Type} (t0 : ByteArray) (t3 : Sl) (t4 : Int) (H : Heap) (K : Ex → Fr → Heap → Option R) : ev Try.prog E11 loopLim Try.f11.ntmps kp11 c11_1 [(0, (V.s t0)), (3, (V.sl t3)), (4, (V.i .i64 t4))] H K = g11_p2 R t0 t3 t4 H (fun t3 H => K (.exit 0) [(3, (V.sl t3))] H) := by
  show ev Try.prog E11 loopLim Try.f11.ntmps kp11 (.loop c11_0) [(0, (V.s t0)), (3, (V.sl t3)), (4, (V.i .i64 t4))] H K = _
  delta g11_p2
  refine (ev_tlim (b := g11_p2_b) (es := g11_p2_es) (er := g11_p2_er) (by intro r; exact nofun) (fun s H => ?_) (t0, t3, t4) H K).trans (bc fun p => rfl)
  exact (g11_p1_eq s.1 s.2.1 s.2.2 H ret3).trans (g11_p1_lin (fun _ _ _ _ => rfl) (fun _ _ => rfl))
noncomputable def g11_p3 (R : Type) (t0 : ByteArray) (t3 : Sl) (t4 : Int) (H : Heap) (kN : Sl → Heap → Option R) : Option R :=
  g11_p2 R t0 t3 t4 H (fun t3 H => kN t3 H)
theorem g11_p3_lin {R S : Type} {k : S → Option R} {t0 : ByteArray} {t3 : Sl} {t4 : Int} {H : Heap} {fkN : Sl → Heap → Option R} {gkN : Sl → Heap → Option S} (hkN : ∀ t3 H, fkN t3 H = (gkN t3 H).bind k) : g11_p3 R t0 t3 t4 H fkN = (g11_p3 S t0 t3 t4 H gkN).bind k := by
  exact g11_p2_lin (fun _ _ => hkN _ _)
theorem g11_p3_eq {R : Type} (t0 : ByteArray) (t3 : Sl) (t4 : Int) (H : Heap) (K : Ex → Fr → Heap → Option R) : ev Try.prog E11 loopLim Try.f11.ntmps kp11 c11_2 [(0, (V.s t0)), (3, (V.sl t3)), (4, (V.i .i64 t4))] H K = g11_p3 R t0 t3 t4 H (fun t3 H => K .normal [(3, (V.sl t3))] H) := by
  show ev Try.prog E11 loopLim Try.f11.ntmps kp11 (.block 0 c11_1) [(0, (V.s t0)), (3, (V.sl t3)), (4, (V.i .i64 t4))] H K = _
  rw [ev_block]
  delta g11_p3
  exact (g11_p2_eq t0 t3 t4 H (kBlock kp11 0 K))
noncomputable def g11_p4 (R : Type) (t3 : Sl) (H : Heap) (kR : Sl → Heap → Option R) : Option R :=
  kR t3 H
theorem g11_p4_eq {R : Type} (t3 : Sl) (H : Heap) (K : Ex → Fr → Heap → Option R) : ev Try.prog E11 loopLim Try.f11.ntmps kp11 c11_3 [(3, (V.sl t3))] H K = g11_p4 R t3 H (fun t2 H => K .ret [(2, (V.sl t2))] H) := by kernel_rfl
theorem g11_p4_lin {R S : Type} {k : S → Option R} {t3 : Sl} {H : Heap} {fkR : Sl → Heap → Option R} {gkR : Sl → Heap → Option S} (hkR : ∀ t2 H, fkR t2 H = (gkR t2 H).bind k) : g11_p4 R t3 H fkR = (g11_p4 S t3 H gkR).bind k := by
  delta g11_p4; exact (
    hkR _ _)
noncomputable def g11_p5 (R : Type) (t0 : ByteArray) (t3 : Sl) (t4 : Int) (H : Heap) (kR : Sl → Heap → Option R) : Option R :=
  g11_p3 R t0 t3 t4 H (fun t3 H => g11_p4 R t3 H (fun t2 H => kR t2 H))
theorem g11_p5_lin {R S : Type} {k : S → Option R} {t0 : ByteArray} {t3 : Sl} {t4 : Int} {H : Heap} {fkR : Sl → Heap → Option R} {gkR : Sl → Heap → Option S} (hkR : ∀ t2 H, fkR t2 H = (gkR t2 H).bind k) : g11_p5 R t0 t3 t4 H fkR = (g11_p5 S t0 t3 t4 H gkR).bind k := by
  exact g11_p3_lin (fun _ _ => g11_p4_lin (fun _ _ => hkR _ _))
theorem g11_p5_eq {R : Type} (t0 : ByteArray) (t3 : Sl) (t4 : Int) (H : Heap) (K : Ex → Fr → Heap → Option R) : ev Try.prog E11 loopLim Try.f11.ntmps kp11 c11_4 [(0, (V.s t0)), (3, (V.sl t3)), (4, (V.i .i64 t4))] H K = g11_p5 R t0 t3 t4 H (fun t2 H => K .ret [(2, (V.sl t2))] H) := by
  show ev Try.prog E11 loopLim Try.f11.ntmps kp11 (.seq c11_2 c11_3) [(0, (V.s t0)), (3, (V.sl t3)), (4, (V.i .i64 t4))] H K = _
  rw [ev_seq]
  delta g11_p5
  exact (g11_p3_eq t0 t3 t4 H (kSeq (fun fr H => ev Try.prog E11 loopLim Try.f11.ntmps kp11 c11_3 fr H K) K)).trans (congrArg (g11_p3 R t0 t3 t4 H) (funext fun t3 => funext fun H => (kSeq_n _ _ _ _).trans (g11_p4_eq t3 H K)))
noncomputable def g11_p6 (R : Type) (t0 : ByteArray) (H : Heap) (kR : Sl → Heap → Option R) : Option R :=
  g11_p0 R t0 H (fun t0 t3 t4 H => g11_p5 R t0 t3 t4 H (fun t2 H => kR t2 H))
theorem g11_p6_lin {R S : Type} {k : S → Option R} {t0 : ByteArray} {H : Heap} {fkR : Sl → Heap → Option R} {gkR : Sl → Heap → Option S} (hkR : ∀ t2 H, fkR t2 H = (gkR t2 H).bind k) : g11_p6 R t0 H fkR = (g11_p6 S t0 H gkR).bind k := by
  exact g11_p0_lin (fun _ _ _ _ => g11_p5_lin (fun _ _ => hkR _ _))
theorem g11_p6_eq {R : Type} (t0 : ByteArray) (H : Heap) (K : Ex → Fr → Heap → Option R) : ev Try.prog E11 loopLim Try.f11.ntmps kp11 c11_5 [(0, (V.s t0))] H K = g11_p6 R t0 H (fun t2 H => K .ret [(2, (V.sl t2))] H) := by
  show ev Try.prog E11 loopLim Try.f11.ntmps kp11 (.seq (codeAt [0] b11) (.seq (codeAt [1, 0] b11) (.seq (codeAt [1, 1, 0, 0] b11) c11_4))) [(0, (V.s t0))] H K = _
  delta g11_p6
  exact (g11_p0_eq _ t0 H K).trans (congrArg (g11_p0 R t0 H) (funext fun t0 => funext fun t3 => funext fun t4 => funext fun H => g11_p5_eq t0 t3 t4 H K))
noncomputable def g11_r : T11 := fun R t0 H K =>
  g11_p6 R t0 H (fun t2 H =>
    K t2 H)
theorem g11_r_lin : Lin11 (g11_r) := by
  constructor
  intro R S k t0 H f g h
  exact g11_p6_lin (fun t2 H =>
    h _ _)
theorem g11_fn {R : Type} (t0 : ByteArray) (H : Heap) (K : V → Heap → Option R) : evFn Try.prog E11 loopLim Try.f11 kp11 [(V.s t0)] H K = g11_r R t0 H (fun r0 H => K (V.sl r0) H) := by
  have h0 : ∀ (t2 : Sl) (H : Heap), kFn Try.prog Try.f11.results.toList K .ret [(2, (V.sl t2))] H =
      K (V.sl t2) H := by intros; kernel_rfl
  have e0 := evFn_code2 (P := Try.prog) (c := c11_5) (E := E11) (lr := loopLim) (kp := kp11) (fn := Try.f11) (args := [(V.s t0)]) H K (by kernel_rfl) (Nat.le_of_ble_eq_true (by kernel_rfl)) (by kernel_rfl)
  have e1 : ev Try.prog E11 loopLim Try.f11.ntmps kp11 c11_5 (argFr 0 [(V.s t0)]) H (kFn Try.prog Try.f11.results.toList K) = ev Try.prog E11 loopLim Try.f11.ntmps kp11 c11_5 [(0, (V.s t0))] H (kFn Try.prog Try.f11.results.toList K) := by kernel_rfl
  refine (e0.trans e1).trans ?_
  delta g11_r
  exact (g11_p6_eq t0 H (kFn Try.prog Try.f11.results.toList K)).trans (congrArg (g11_p6 R t0 H) (funext fun t2 => funext fun H => h0 t2 H))
theorem g11_ok : FunOK Try.prog 11 (w11 (g11_r)) := by
  refine (runF_ok (E11_good) mixed lim_ok Try.func11 (by kernel_rfl) kp11).of_le fun R args H K r hk => ?_
  unfold w11 at hk
  split at hk
  · exact (g11_fn _ H K).trans hk
  · cases hk
def kp43 : Nat → Option (List Nat) := kpOf [(0, [0, 1, 2]), (1, [6]), (300000, [6])]
def E43 : FEnv := []
theorem E43_good : EnvGood Try.prog E43 := (EnvGood.nil _)
theorem E43_lin : EnvLin E43 := fun g F h => by cases h
noncomputable def b43 : Code := Try.f43.body.getD .skip
noncomputable def c43_0 : Code := (.seq (codeAt [0] b43) (.seq (codeAt [1, 0] b43) .ret))
noncomputable def g43_p0 (R : Type) (t0 : Int) (t1 : Int) (t2 : Int) (H : Heap) (kR : Int → Heap → Option R) : Option R :=
  kR (if (if t2 < t0 then t2 else t0) > t1 then (if t2 < t0 then t2 else t0) else t1) H
theorem g43_p0_eq {R : Type} (t0 : Int) (t1 : Int) (t2 : Int) (H : Heap) (K : Ex → Fr → Heap → Option R) : ev Try.prog E43 loopLim Try.f43.ntmps kp43 c43_0 [(0, (V.i .i64 t0)), (1, (V.i .i64 t1)), (2, (V.i .i64 t2))] H K = g43_p0 R t0 t1 t2 H (fun t6 H => K .ret [(6, (V.i .i64 t6))] H) := by kernel_rfl
theorem g43_p0_lin {R S : Type} {k : S → Option R} {t0 : Int} {t1 : Int} {t2 : Int} {H : Heap} {fkR : Int → Heap → Option R} {gkR : Int → Heap → Option S} (hkR : ∀ t6 H, fkR t6 H = (gkR t6 H).bind k) : g43_p0 R t0 t1 t2 H fkR = (g43_p0 S t0 t1 t2 H gkR).bind k := by
  delta g43_p0; exact (
    hkR _ _)
noncomputable def g43_r : T43 := fun R t0 t1 t2 H K =>
  g43_p0 R t0 t1 t2 H (fun t6 H =>
    K t6 H)
theorem g43_r_lin : Lin43 (g43_r) := by
  constructor
  intro R S k t0 t1 t2 H f g h
  exact g43_p0_lin (fun t6 H =>
    h _ _)
theorem g43_fn {R : Type} (t0 : Int) (t1 : Int) (t2 : Int) (H : Heap) (K : V → Heap → Option R) : evFn Try.prog E43 loopLim Try.f43 kp43 [(V.i .i64 t0), (V.i .i64 t1), (V.i .i64 t2)] H K = g43_r R t0 t1 t2 H (fun r0 H => K (V.i .i64 r0) H) := by
  have h0 : ∀ (t6 : Int) (H : Heap), kFn Try.prog Try.f43.results.toList K .ret [(6, (V.i .i64 t6))] H =
      K (V.i .i64 t6) H := by intros; kernel_rfl
  have e0 := evFn_code2 (P := Try.prog) (c := c43_0) (E := E43) (lr := loopLim) (kp := kp43) (fn := Try.f43) (args := [(V.i .i64 t0), (V.i .i64 t1), (V.i .i64 t2)]) H K (by kernel_rfl) (Nat.le_of_ble_eq_true (by kernel_rfl)) (by kernel_rfl)
  have e1 : ev Try.prog E43 loopLim Try.f43.ntmps kp43 c43_0 (argFr 0 [(V.i .i64 t0), (V.i .i64 t1), (V.i .i64 t2)]) H (kFn Try.prog Try.f43.results.toList K) = ev Try.prog E43 loopLim Try.f43.ntmps kp43 c43_0 [(0, (V.i .i64 t0)), (1, (V.i .i64 t1)), (2, (V.i .i64 t2))] H (kFn Try.prog Try.f43.results.toList K) := by kernel_rfl
  refine (e0.trans e1).trans ?_
  delta g43_r
  exact (g43_p0_eq t0 t1 t2 H (kFn Try.prog Try.f43.results.toList K)).trans (congrArg (g43_p0 R t0 t1 t2 H) (funext fun t6 => funext fun H => h0 t6 H))
theorem g43_ok : FunOK Try.prog 43 (w43 (g43_r)) := by
  refine (runF_ok (E43_good) mixed lim_ok Try.func43 (by kernel_rfl) kp43).of_le fun R args H K r hk => ?_
  unfold w43 at hk
  split at hk
  · exact (g43_fn _ _ _ H K).trans hk
  · cases hk
def kp42 : Nat → Option (List Nat) := kpOf [(0, []), (300000, [])]
def E42 (a43 : T43) : FEnv := [(43, w43 a43)]
theorem E42_good {a43 : T43} (oa43 : FunOK Try.prog 43 (w43 a43)) (la43 : Lin43 a43) : EnvGood Try.prog (E42 a43) := ((EnvGood.nil _).cons oa43 (w43_lin la43))
theorem E42_lin {a43 : T43} (la43 : Lin43 a43) : EnvLin (E42 a43) := by
  intro g F h
  simp only [E42, List.mem_cons, List.not_mem_nil, or_false] at h
  rcases h with h
  · cases h; exact w43_lin la43
noncomputable def b42 : Code := Try.f42.body.getD .skip
noncomputable def c42_0 : Code := (codeAt [] b42)
noncomputable def g42_p0 (a43 : T43) (R : Type) (t0 : Option (Nat × Nat)) (t1 : Int) (H : Heap) (kN : Heap → Option R) : Option R :=
  (t0).bind fun q1 =>
  ((H).ldI .i64 q1.1 (q1.2 + 0)).bind fun x2 =>
  (t0).bind fun q3 =>
  ((H).ldI .i64 q3.1 (q3.2 + 1)).bind fun x4 =>
  a43 R (IntKind.wrap .i64 (x2 + t1)) (0 : Int) x4 H fun x5 h6 =>
  (t0).bind fun q7 =>
  ((h6).st q7.1 (q7.2 + 0) (V.i .i64 x5)).bind fun h9 =>
  kN h9
theorem g42_p0_eq (a43 : T43) (la43 : Lin43 a43) {R : Type} (t0 : Option (Nat × Nat)) (t1 : Int) (H : Heap) (K : Ex → Fr → Heap → Option R) : ev Try.prog (E42 a43) loopLim Try.f42.ntmps kp42 c42_0 [(0, (V.p t0)), (1, (V.i .i64 t1))] H K = g42_p0 a43 R t0 t1 H (fun H => K .normal [] H) := by kernel_rfl
theorem g42_p0_lin {a43 : T43} (la43 : Lin43 a43) {R S : Type} {k : S → Option R} {t0 : Option (Nat × Nat)} {t1 : Int} {H : Heap} {fkN : Heap → Option R} {gkN : Heap → Option S} (hkN : ∀ H, fkN H = (gkN H).bind k) : g42_p0 a43 R t0 t1 H fkN = (g42_p0 a43 S t0 t1 H gkN).bind k := by
  delta g42_p0; exact (
    bl fun q1 =>
    bl fun x2 =>
    bl fun q3 =>
    bl fun x4 =>
    la43.l fun x5 h6 =>
    bl fun q7 =>
    bl fun h9 =>
    hkN _)
noncomputable def g42_r (a43 : T43) : T42 := fun R t0 t1 H K =>
  g42_p0 a43 R t0 t1 H (fun H =>
    K  H)
theorem g42_r_lin {a43 : T43} (la43 : Lin43 a43) : Lin42 (g42_r a43) := by
  constructor
  intro R S k t0 t1 H f g h
  exact g42_p0_lin la43 (fun H =>
    h _)
theorem g42_fn (a43 : T43) (la43 : Lin43 a43) {R : Type} (t0 : Option (Nat × Nat)) (t1 : Int) (H : Heap) (K : V → Heap → Option R) : evFn Try.prog (E42 a43) loopLim Try.f42 kp42 [(V.p t0), (V.i .i64 t1)] H K = g42_r a43 R t0 t1 H (fun H => K (V.tup []) H) := by
  have h0 : ∀ (H : Heap), kFn Try.prog Try.f42.results.toList K .normal [] H =
      K (V.tup []) H := by intros; kernel_rfl
  have e0 := evFn_code2 (P := Try.prog) (c := c42_0) (E := (E42 a43)) (lr := loopLim) (kp := kp42) (fn := Try.f42) (args := [(V.p t0), (V.i .i64 t1)]) H K (by kernel_rfl) (Nat.le_of_ble_eq_true (by kernel_rfl)) (by kernel_rfl)
  have e1 : ev Try.prog (E42 a43) loopLim Try.f42.ntmps kp42 c42_0 (argFr 0 [(V.p t0), (V.i .i64 t1)]) H (kFn Try.prog Try.f42.results.toList K) = ev Try.prog (E42 a43) loopLim Try.f42.ntmps kp42 c42_0 [(0, (V.p t0)), (1, (V.i .i64 t1))] H (kFn Try.prog Try.f42.results.toList K) := by kernel_rfl
  refine (e0.trans e1).trans ?_
  delta g42_r
  exact (g42_p0_eq a43 la43 t0 t1 H (kFn Try.prog Try.f42.results.toList K)).trans (congrArg (g42_p0 a43 R t0 t1 H) (funext fun H => h0 H))
theorem g42_ok {a43 : T43} (oa43 : FunOK Try.prog 43 (w43 a43)) (la43 : Lin43 a43) : FunOK Try.prog 42 (w42 (g42_r a43)) := by
  refine (runF_ok (E42_good oa43 la43) mixed lim_ok Try.func42 (by kernel_rfl) kp42).of_le fun R args H K r hk => ?_
  unfold w42 at hk
  split at hk
  · exact (g42_fn a43 la43 _ _ H K).trans hk
  · cases hk
def kp38 : Nat → Option (List Nat) := kpOf [(0, [0, 5]), (1, []), (300000, []), (400005, [])]
def E38 (a42 : T42) : FEnv := [(42, w42 a42)]
theorem E38_good {a42 : T42} (oa42 : FunOK Try.prog 42 (w42 a42)) (la42 : Lin42 a42) : EnvGood Try.prog (E38 a42) := ((EnvGood.nil _).cons oa42 (w42_lin la42))
theorem E38_lin {a42 : T42} (la42 : Lin42 a42) : EnvLin (E38 a42) := by
  intro g F h
  simp only [E38, List.mem_cons, List.not_mem_nil, or_false] at h
  rcases h with h
  · cases h; exact w42_lin la42
noncomputable def b38 : Code := Try.f38.body.getD .skip
noncomputable def c38_0 : Code := (.seq (codeAt [0] b38) (.cond (.tmp 5) (codeAt [1, 0] b38) .skip))
noncomputable def g38_p0 (a42 : T42) (R : Type) (t0 : Option (Nat × Nat)) (t1 : Bool) (H : Heap) (kN : Heap → Option R) : Option R :=
  sel (!t1) (
    (t0).bind fun q1 =>
    a42 R (some (q1.1, (q1.2 + 0))) (1 : Int) H fun h2 =>
    kN h2) (
    kN H)
theorem g38_p0_eq (a42 : T42) (la42 : Lin42 a42) {R : Type} (t0 : Option (Nat × Nat)) (t1 : Bool) (H : Heap) (K : Ex → Fr → Heap → Option R) : ev Try.prog (E38 a42) loopLim Try.f38.ntmps kp38 c38_0 [(0, (V.p t0)), (1, (V.b t1))] H K = g38_p0 a42 R t0 t1 H (fun H => K .normal [] H) := by kernel_rfl
theorem g38_p0_lin {a42 : T42} (la42 : Lin42 a42) {R S : Type} {k : S → Option R} {t0 : Option (Nat × Nat)} {t1 : Bool} {H : Heap} {fkN : Heap → Option R} {gkN : Heap → Option S} (hkN : ∀ H, fkN H = (gkN H).bind k) : g38_p0 a42 R t0 t1 H fkN = (g38_p0 a42 S t0 t1 H gkN).bind k := by
  delta g38_p0; exact (
    sl_lin (
      bl fun q1 =>
      la42.l fun h2 =>
      hkN _) (
      hkN _))
noncomputable def g38_r (a42 : T42) : T38 := fun R t0 t1 H K =>
  g38_p0 a42 R t0 t1 H (fun H =>
    K  H)
theorem g38_r_lin {a42 : T42} (la42 : Lin42 a42) : Lin38 (g38_r a42) := by
  constructor
  intro R S k t0 t1 H f g h
  exact g38_p0_lin la42 (fun H =>
    h _)
theorem g38_fn (a42 : T42) (la42 : Lin42 a42) {R : Type} (t0 : Option (Nat × Nat)) (t1 : Bool) (H : Heap) (K : V → Heap → Option R) : evFn Try.prog (E38 a42) loopLim Try.f38 kp38 [(V.p t0), (V.b t1)] H K = g38_r a42 R t0 t1 H (fun H => K (V.tup []) H) := by
  have h0 : ∀ (H : Heap), kFn Try.prog Try.f38.results.toList K .normal [] H =
      K (V.tup []) H := by intros; kernel_rfl
  have e0 := evFn_code2 (P := Try.prog) (c := c38_0) (E := (E38 a42)) (lr := loopLim) (kp := kp38) (fn := Try.f38) (args := [(V.p t0), (V.b t1)]) H K (by kernel_rfl) (Nat.le_of_ble_eq_true (by kernel_rfl)) (by kernel_rfl)
  have e1 : ev Try.prog (E38 a42) loopLim Try.f38.ntmps kp38 c38_0 (argFr 0 [(V.p t0), (V.b t1)]) H (kFn Try.prog Try.f38.results.toList K) = ev Try.prog (E38 a42) loopLim Try.f38.ntmps kp38 c38_0 [(0, (V.p t0)), (1, (V.b t1))] H (kFn Try.prog Try.f38.results.toList K) := by kernel_rfl
  refine (e0.trans e1).trans ?_
  delta g38_r
  exact (g38_p0_eq a42 la42 t0 t1 H (kFn Try.prog Try.f38.results.toList K)).trans (congrArg (g38_p0 a42 R t0 t1 H) (funext fun H => h0 H))
theorem g38_ok {a42 : T42} (oa42 : FunOK Try.prog 42 (w42 a42)) (la42 : Lin42 a42) : FunOK Try.prog 38 (w38 (g38_r a42)) := by
  refine (runF_ok (E38_good oa42 la42) mixed lim_ok Try.func38 (by kernel_rfl) kp38).of_le fun R args H K r hk => ?_
  unfold w38 at hk
  split at hk
  · exact (g38_fn a42 la42 _ _ H K).trans hk
  · cases hk
def kp44 : Nat → Option (List Nat) := kpOf [(0, [0, 1, 7]), (1, [0, 9]), (2, [0]), (3, [0]), (4, [0, 29]), (5, [0]), (6, [0, 37]), (7, []), (300000, []), (400007, [0, 1]), (400009, [0]), (400029, []), (400037, [])]
def E44 (a40 : T40) (a42 : T42) : FEnv := [(40, w40 a40), (42, w42 a42)]
theorem E44_good {a40 : T40} {a42 : T42} (oa40 : FunOK Try.prog 40 (w40 a40)) (oa42 : FunOK Try.prog 42 (w42 a42)) (la40 : Lin40 a40) (la42 : Lin42 a42) : EnvGood Try.prog (E44 a40 a42) := (((EnvGood.nil _).cons oa42 (w42_lin la42)).cons oa40 (w40_lin la40))
theorem E44_lin {a40 : T40} {a42 : T42} (la40 : Lin40 a40) (la42 : Lin42 a42) : EnvLin (E44 a40 a42) := by
  intro g F h
  simp only [E44, List.mem_cons, List.not_mem_nil, or_false] at h
  rcases h with h | h
  · cases h; exact w40_lin la40
  · cases h; exact w42_lin la42
noncomputable def b44 : Code := Try.f44.body.getD .skip
noncomputable def c44_0 : Code := (.seq (codeAt [0, 0] b44) (.seq (.cond (.tmp 7) .ret .skip) (.seq (codeAt [1, 0, 0] b44) (.seq (.cond (.tmp 9) (codeAt [1, 0, 1, 0] b44) .skip) (.seq (codeAt [1, 1, 0] b44) (.seq (codeAt [1, 1, 1, 0] b44) (.cond (.tmp 29) (.seq (codeAt [1, 1, 1, 1, 0, 0] b44) (.seq (codeAt [1, 1, 1, 1, 0, 1, 0] b44) (.cond (.tmp 37) (codeAt [1, 1, 1, 1, 0, 1, 1, 0] b44) .skip))) .skip)))))))
noncomputable def g44_p0 (a40 : T40) (a42 : T42) (R : Type) (t0 : Option (Nat × Nat)) (t1 : Bool) (H : Heap) (kN : Heap → Option R) (kR : Heap → Option R) : Option R :=
  (t0).bind fun q1 =>
  a40 R (some (q1.1, (q1.2 + 0))) H fun x2 h3 =>
  sel x2 (
    kR h3) (
    sel (!t1) (
      (t0).bind fun q4 =>
      a42 R (some (q4.1, (q4.2 + 0))) (1 : Int) h3 fun h5 =>
      (t0).bind fun q6 =>
      ((h5).ldI .i64 q6.1 (q6.2 + 3)).bind fun x7 =>
      (t0).bind fun q8 =>
      ((h5).st q8.1 (q8.2 + 3) (V.i .i64 (IntKind.wrap .i64 (x7 + (1 : Int))))).bind fun h10 =>
      (t0).bind fun q11 =>
      ((h10).ldI .i64 q11.1 (q11.2 + 3)).bind fun x12 =>
      (t0).bind fun q13 =>
      ((h10).ldI .i64 q13.1 (q13.2 + 2)).bind fun x14 =>
      sel (x12 == x14) (
        (t0).bind fun q15 =>
        ((h10).st q15.1 (q15.2 + 3) (V.i .i64 (0 : Int))).bind fun h17 =>
        (t0).bind fun q18 =>
        a40 R (some (q18.1, (q18.2 + 0))) h17 fun x19 h20 =>
        sel (!x19) (
          (t0).bind fun q21 =>
          a42 R (some (q21.1, (q21.2 + 0))) (-1 : Int) h20 fun h22 =>
          kN h22) (
          kN h20)) (
        kN h10)) (
      (t0).bind fun q23 =>
      ((h3).ldI .i64 q23.1 (q23.2 + 3)).bind fun x24 =>
      (t0).bind fun q25 =>
      ((h3).st q25.1 (q25.2 + 3) (V.i .i64 (IntKind.wrap .i64 (x24 + (1 : Int))))).bind fun h27 =>
      (t0).bind fun q28 =>
      ((h27).ldI .i64 q28.1 (q28.2 + 3)).bind fun x29 =>
      (t0).bind fun q30 =>
      ((h27).ldI .i64 q30.1 (q30.2 + 2)).bind fun x31 =>
      sel (x29 == x31) (
        (t0).bind fun q32 =>
        ((h27).st q32.1 (q32.2 + 3) (V.i .i64 (0 : Int))).bind fun h34 =>
        (t0).bind fun q35 =>
        a40 R (some (q35.1, (q35.2 + 0))) h34 fun x36 h37 =>
        sel (!x36) (
          (t0).bind fun q38 =>
          a42 R (some (q38.1, (q38.2 + 0))) (-1 : Int) h37 fun h39 =>
          kN h39) (
          kN h37)) (
        kN h27)))
theorem g44_p0_eq (a40 : T40) (a42 : T42) (la40 : Lin40 a40) (la42 : Lin42 a42) {R : Type} (t0 : Option (Nat × Nat)) (t1 : Bool) (H : Heap) (K : Ex → Fr → Heap → Option R) : ev Try.prog (E44 a40 a42) loopLim Try.f44.ntmps kp44 c44_0 [(0, (V.p t0)), (1, (V.b t1))] H K = g44_p0 a40 a42 R t0 t1 H (fun H => K .normal [] H) (fun H => K .ret [] H) := by kernel_rfl
theorem g44_p0_lin {a40 : T40} {a42 : T42} (la40 : Lin40 a40) (la42 : Lin42 a42) {R S : Type} {k : S → Option R} {t0 : Option (Nat × Nat)} {t1 : Bool} {H : Heap} {fkN : Heap → Option R} {gkN : Heap → Option S} {fkR : Heap → Option R} {gkR : Heap → Option S} (hkN : ∀ H, fkN H = (gkN H).bind k) (hkR : ∀ H, fkR H = (gkR H).bind k) : g44_p0 a40 a42 R t0 t1 H fkN fkR = (g44_p0 a40 a42 S t0 t1 H gkN gkR).bind k := by
  delta g44_p0; exact (
    bl fun q1 =>
    la40.l fun x2 h3 =>
    sl_lin (
      hkR _) (
      sl_lin (
        bl fun q4 =>
        la42.l fun h5 =>
        bl fun q6 =>
        bl fun x7 =>
        bl fun q8 =>
        bl fun h10 =>
        bl fun q11 =>
        bl fun x12 =>
        bl fun q13 =>
        bl fun x14 =>
        sl_lin (
          bl fun q15 =>
          bl fun h17 =>
          bl fun q18 =>
          la40.l fun x19 h20 =>
          sl_lin (
            bl fun q21 =>
            la42.l fun h22 =>
            hkN _) (
            hkN _)) (
          hkN _)) (
        bl fun q23 =>
        bl fun x24 =>
        bl fun q25 =>
        bl fun h27 =>
        bl fun q28 =>
        bl fun x29 =>
        bl fun q30 =>
        bl fun x31 =>
        sl_lin (
          bl fun q32 =>
          bl fun h34 =>
          bl fun q35 =>
          la40.l fun x36 h37 =>
          sl_lin (
            bl fun q38 =>
            la42.l fun h39 =>
            hkN _) (
            hkN _)) (
          hkN _))))
noncomputable def g44_r (a40 : T40) (a42 : T42) : T44 := fun R t0 t1 H K =>
  g44_p0 a40 a42 R t0 t1 H (fun H =>
    K  H) (fun H =>
    K  H)
theorem g44_r_lin {a40 : T40} {a42 : T42} (la40 : Lin40 a40) (la42 : Lin42 a42) : Lin44 (g44_r a40 a42) := by
  constructor
  intro R S k t0 t1 H f g h
  exact g44_p0_lin la40 la42 (fun H =>
    h _) (fun H =>
    h _)
theorem g44_fn (a40 : T40) (a42 : T42) (la40 : Lin40 a40) (la42 : Lin42 a42) {R : Type} (t0 : Option (Nat × Nat)) (t1 : Bool) (H : Heap) (K : V → Heap → Option R) : evFn Try.prog (E44 a40 a42) loopLim Try.f44 kp44 [(V.p t0), (V.b t1)] H K = g44_r a40 a42 R t0 t1 H (fun H => K (V.tup []) H) := by
  have h0 : ∀ (H : Heap), kFn Try.prog Try.f44.results.toList K .normal [] H =
      K (V.tup []) H := by intros; kernel_rfl
  have h1 : ∀ (H : Heap), kFn Try.prog Try.f44.results.toList K .ret [] H =
      K (V.tup []) H := by intros; kernel_rfl
  have e0 := evFn_code2 (P := Try.prog) (c := c44_0) (E := (E44 a40 a42)) (lr := loopLim) (kp := kp44) (fn := Try.f44) (args := [(V.p t0), (V.b t1)]) H K (by kernel_rfl) (Nat.le_of_ble_eq_true (by kernel_rfl)) (by kernel_rfl)
  have e1 : ev Try.prog (E44 a40 a42) loopLim Try.f44.ntmps kp44 c44_0 (argFr 0 [(V.p t0), (V.b t1)]) H (kFn Try.prog Try.f44.results.toList K) = ev Try.prog (E44 a40 a42) loopLim Try.f44.ntmps kp44 c44_0 [(0, (V.p t0)), (1, (V.b t1))] H (kFn Try.prog Try.f44.results.toList K) := by kernel_rfl
  refine (e0.trans e1).trans ?_
  delta g44_r
  exact (g44_p0_eq a40 a42 la40 la42 t0 t1 H (kFn Try.prog Try.f44.results.toList K)).trans (congr (congrArg (g44_p0 a40 a42 R t0 t1 H) (funext fun H => h0 H)) (funext fun H => h1 H))
theorem g44_ok {a40 : T40} {a42 : T42} (oa40 : FunOK Try.prog 40 (w40 a40)) (oa42 : FunOK Try.prog 42 (w42 a42)) (la40 : Lin40 a40) (la42 : Lin42 a42) : FunOK Try.prog 44 (w44 (g44_r a40 a42)) := by
  refine (runF_ok (E44_good oa40 oa42 la40 la42) mixed lim_ok Try.func44 (by kernel_rfl) kp44).of_le fun R args H K r hk => ?_
  unfold w44 at hk
  split at hk
  · exact (g44_fn a40 a42 la40 la42 _ _ H K).trans hk
  · cases hk
def kp46 : Nat → Option (List Nat) := kpOf [(0, [0, 1, 7]), (1, [0]), (2, [0]), (3, [0, 34]), (4, [0, 38]), (5, [0]), (6, [0]), (7, []), (300000, []), (400007, [0, 1]), (400034, [0]), (400038, [0])]
def E46 (a40 : T40) (a42 : T42) : FEnv := [(40, w40 a40), (42, w42 a42)]
theorem E46_good {a40 : T40} {a42 : T42} (oa40 : FunOK Try.prog 40 (w40 a40)) (oa42 : FunOK Try.prog 42 (w42 a42)) (la40 : Lin40 a40) (la42 : Lin42 a42) : EnvGood Try.prog (E46 a40 a42) := (((EnvGood.nil _).cons oa42 (w42_lin la42)).cons oa40 (w40_lin la40))
theorem E46_lin {a40 : T40} {a42 : T42} (la40 : Lin40 a40) (la42 : Lin42 a42) : EnvLin (E46 a40 a42) := by
  intro g F h
  simp only [E46, List.mem_cons, List.not_mem_nil, or_false] at h
  rcases h with h | h
  · cases h; exact w40_lin la40
  · cases h; exact w42_lin la42
noncomputable def b46 : Code := Try.f46.body.getD .skip
noncomputable def c46_0 : Code := (.seq (codeAt [0, 0] b46) (.seq (.cond (.tmp 7) .ret .skip) (.seq (codeAt [1, 0] b46) (.seq (codeAt [1, 1, 0] b46) (.seq (codeAt [1, 1, 1, 0, 0] b46) (.seq (.cond (.tmp 34) .ret .skip) (.seq (codeAt [1, 1, 1, 1, 0, 0] b46) (.seq (.cond (.tmp 38) (codeAt [1, 1, 1, 1, 0, 1, 0] b46) (codeAt [1, 1, 1, 1, 0, 1, 1] b46)) (codeAt [1, 1, 1, 1, 1] b46)))))))))
noncomputable def g46_p0 (a40 : T40) (a42 : T42) (R : Type) (t0 : Option (Nat × Nat)) (t1 : Bool) (H : Heap) (kN : Heap → Option R) (kR : Heap → Option R) : Option R :=
  (t0).bind fun q1 =>
  a40 R (some (q1.1, (q1.2 + 0))) H fun x2 h3 =>
  sel x2 (
    kR h3) (
    (t0).bind fun q4 =>
    ((h3).ldB q4.1 (q4.2 + 6)).bind fun x5 =>
    sel x5 (
      (t0).bind fun q6 =>
      ((h3).st q6.1 (q6.2 + 6) (V.b true)).bind fun h8 =>
      (t0).bind fun q9 =>
      ((h8).ldI .i64 q9.1 (q9.2 + 5)).bind fun x10 =>
      (t0).bind fun q11 =>
      ((h8).st q11.1 (q11.2 + 5) (V.i .i64 (IntKind.wrap .i64 (x10 + (1 : Int))))).bind fun h13 =>
      (t0).bind fun q14 =>
      ((h13).ldI .i64 q14.1 (q14.2 + 5)).bind fun x15 =>
      (t0).bind fun q16 =>
      ((h13).ldI .i64 q16.1 (q16.2 + 2)).bind fun x17 =>
      sel (decide (x15 < x17)) (
        kR h13) (
        (t0).bind fun q18 =>
        ((h13).ldB q18.1 (q18.2 + 6)).bind fun x19 =>
        sel x19 (
          (t0).bind fun q20 =>
          (t0).bind fun q21 =>
          ((h13).ldI .i64 q21.1 (q21.2 + 3)).bind fun x22 =>
          a42 R (some (q20.1, (q20.2 + 0))) x22 h13 fun h23 =>
          (t0).bind fun q24 =>
          ((h23).st q24.1 (q24.2 + 5) (V.i .i64 (0 : Int))).bind fun h26 =>
          (t0).bind fun q27 =>
          ((h26).st q27.1 (q27.2 + 6) (V.b false)).bind fun h29 =>
          kN h29) (
          (t0).bind fun q30 =>
          (t0).bind fun q31 =>
          ((h13).ldI .i64 q31.1 (q31.2 + 4)).bind fun x32 =>
          a42 R (some (q30.1, (q30.2 + 0))) (IntKind.wrap .i64 (0 - x32)) h13 fun h33 =>
          (t0).bind fun q34 =>
          ((h33).st q34.1 (q34.2 + 5) (V.i .i64 (0 : Int))).bind fun h36 =>
          (t0).bind fun q37 =>
          ((h36).st q37.1 (q37.2 + 6) (V.b false)).bind fun h39 =>
          kN h39))) (
      (t0).bind fun q40 =>
      ((h3).st q40.1 (q40.2 + 6) (V.b (!t1))).bind fun h42 =>
      (t0).bind fun q43 =>
      ((h42).ldI .i64 q43.1 (q43.2 + 5)).bind fun x44 =>
      (t0).bind fun q45 =>
      ((h42).st q45.1 (q45.2 + 5) (V.i .i64 (IntKind.wrap .i64 (x44 + (1 : Int))))).bind fun h47 =>
      (t0).bind fun q48 =>
      ((h47).ldI .i64 q48.1 (q48.2 + 5)).bind fun x49 =>
      (t0).bind fun q50 =>
      ((h47).ldI .i64 q50.1 (q50.2 + 2)).bind fun x51 =>
      sel (decide (x49 < x51)) (
        kR h47) (
        (t0).bind fun q52 =>
        ((h47).ldB q52.1 (q52.2 + 6)).bind fun x53 =>
        sel x53 (
          (t0).bind fun q54 =>
          (t0).bind fun q55 =>
          ((h47).ldI .i64 q55.1 (q55.2 + 3)).bind fun x56 =>
          a42 R (some (q54.1, (q54.2 + 0))) x56 h47 fun h57 =>
          (t0).bind fun q58 =>
          ((h57).st q58.1 (q58.2 + 5) (V.i .i64 (0 : Int))).bind fun h60 =>
          (t0).bind fun q61 =>
          ((h60).st q61.1 (q61.2 + 6) (V.b false)).bind fun h63 =>
          kN h63) (
          (t0).bind fun q64 =>
          (t0).bind fun q65 =>
          ((h47).ldI .i64 q65.1 (q65.2 + 4)).bind fun x66 =>
          a42 R (some (q64.1, (q64.2 + 0))) (IntKind.wrap .i64 (0 - x66)) h47 fun h67 =>
          (t0).bind fun q68 =>
          ((h67).st q68.1 (q68.2 + 5) (V.i .i64 (0 : Int))).bind fun h70 =>
          (t0).bind fun q71 =>
          ((h70).st q71.1 (q71.2 + 6) (V.b false)).bind fun h73 =>
          kN h73))))
theorem g46_p0_eq (a40 : T40) (a42 : T42) (la40 : Lin40 a40) (la42 : Lin42 a42) {R : Type} (t0 : Option (Nat × Nat)) (t1 : Bool) (H : Heap) (K : Ex → Fr → Heap → Option R) : ev Try.prog (E46 a40 a42) loopLim Try.f46.ntmps kp46 c46_0 [(0, (V.p t0)), (1, (V.b t1))] H K = g46_p0 a40 a42 R t0 t1 H (fun H => K .normal [] H) (fun H => K .ret [] H) := by kernel_rfl
theorem g46_p0_lin {a40 : T40} {a42 : T42} (la40 : Lin40 a40) (la42 : Lin42 a42) {R S : Type} {k : S → Option R} {t0 : Option (Nat × Nat)} {t1 : Bool} {H : Heap} {fkN : Heap → Option R} {gkN : Heap → Option S} {fkR : Heap → Option R} {gkR : Heap → Option S} (hkN : ∀ H, fkN H = (gkN H).bind k) (hkR : ∀ H, fkR H = (gkR H).bind k) : g46_p0 a40 a42 R t0 t1 H fkN fkR = (g46_p0 a40 a42 S t0 t1 H gkN gkR).bind k := by
  delta g46_p0; exact (
    bl fun q1 =>
    la40.l fun x2 h3 =>
    sl_lin (
      hkR _) (
      bl fun q4 =>
      bl fun x5 =>
      sl_lin (
        bl fun q6 =>
        bl fun h8 =>
        bl fun q9 =>
        bl fun x10 =>
        bl fun q11 =>
        bl fun h13 =>
        bl fun q14 =>
        bl fun x15 =>
        bl fun q16 =>
        bl fun x17 =>
        sl_lin (
          hkR _) (
          bl fun q18 =>
          bl fun x19 =>
          sl_lin (
            bl fun q20 =>
            bl fun q21 =>
            bl fun x22 =>
            la42.l fun h23 =>
            bl fun q24 =>
            bl fun h26 =>
            bl fun q27 =>
            bl fun h29 =>
            hkN _) (
            bl fun q30 =>
            bl fun q31 =>
            bl fun x32 =>
            la42.l fun h33 =>
            bl fun q34 =>
            bl fun h36 =>
            bl fun q37 =>
            bl fun h39 =>
            hkN _))) (
        bl fun q40 =>
        bl fun h42 =>
        bl fun q43 =>
        bl fun x44 =>
        bl fun q45 =>
        bl fun h47 =>
        bl fun q48 =>
        bl fun x49 =>
        bl fun q50 =>
        bl fun x51 =>
        sl_lin (
          hkR _) (
          bl fun q52 =>
          bl fun x53 =>
          sl_lin (
            bl fun q54 =>
            bl fun q55 =>
            bl fun x56 =>
            la42.l fun h57 =>
            bl fun q58 =>
            bl fun h60 =>
            bl fun q61 =>
            bl fun h63 =>
            hkN _) (
            bl fun q64 =>
            bl fun q65 =>
            bl fun x66 =>
            la42.l fun h67 =>
            bl fun q68 =>
            bl fun h70 =>
            bl fun q71 =>
            bl fun h73 =>
            hkN _)))))
noncomputable def g46_r (a40 : T40) (a42 : T42) : T46 := fun R t0 t1 H K =>
  g46_p0 a40 a42 R t0 t1 H (fun H =>
    K  H) (fun H =>
    K  H)
theorem g46_r_lin {a40 : T40} {a42 : T42} (la40 : Lin40 a40) (la42 : Lin42 a42) : Lin46 (g46_r a40 a42) := by
  constructor
  intro R S k t0 t1 H f g h
  exact g46_p0_lin la40 la42 (fun H =>
    h _) (fun H =>
    h _)
theorem g46_fn (a40 : T40) (a42 : T42) (la40 : Lin40 a40) (la42 : Lin42 a42) {R : Type} (t0 : Option (Nat × Nat)) (t1 : Bool) (H : Heap) (K : V → Heap → Option R) : evFn Try.prog (E46 a40 a42) loopLim Try.f46 kp46 [(V.p t0), (V.b t1)] H K = g46_r a40 a42 R t0 t1 H (fun H => K (V.tup []) H) := by
  have h0 : ∀ (H : Heap), kFn Try.prog Try.f46.results.toList K .normal [] H =
      K (V.tup []) H := by intros; kernel_rfl
  have h1 : ∀ (H : Heap), kFn Try.prog Try.f46.results.toList K .ret [] H =
      K (V.tup []) H := by intros; kernel_rfl
  have e0 := evFn_code2 (P := Try.prog) (c := c46_0) (E := (E46 a40 a42)) (lr := loopLim) (kp := kp46) (fn := Try.f46) (args := [(V.p t0), (V.b t1)]) H K (by kernel_rfl) (Nat.le_of_ble_eq_true (by kernel_rfl)) (by kernel_rfl)
  have e1 : ev Try.prog (E46 a40 a42) loopLim Try.f46.ntmps kp46 c46_0 (argFr 0 [(V.p t0), (V.b t1)]) H (kFn Try.prog Try.f46.results.toList K) = ev Try.prog (E46 a40 a42) loopLim Try.f46.ntmps kp46 c46_0 [(0, (V.p t0)), (1, (V.b t1))] H (kFn Try.prog Try.f46.results.toList K) := by kernel_rfl
  refine (e0.trans e1).trans ?_
  delta g46_r
  exact (g46_p0_eq a40 a42 la40 la42 t0 t1 H (kFn Try.prog Try.f46.results.toList K)).trans (congr (congrArg (g46_p0 a40 a42 R t0 t1 H) (funext fun H => h0 H)) (funext fun H => h1 H))
theorem g46_ok {a40 : T40} {a42 : T42} (oa40 : FunOK Try.prog 40 (w40 a40)) (oa42 : FunOK Try.prog 42 (w42 a42)) (la40 : Lin40 a40) (la42 : Lin42 a42) : FunOK Try.prog 46 (w46 (g46_r a40 a42)) := by
  refine (runF_ok (E46_good oa40 oa42 la40 la42) mixed lim_ok Try.func46 (by kernel_rfl) kp46).of_le fun R args H K r hk => ?_
  unfold w46 at hk
  split at hk
  · exact (g46_fn a40 a42 la40 la42 _ _ H K).trans hk
  · cases hk
def kp41 : Nat → Option (List Nat) := kpOf [(0, []), (300000, [])]
def E41 : FEnv := []
theorem E41_good : EnvGood Try.prog E41 := (EnvGood.nil _)
theorem E41_lin : EnvLin E41 := fun g F h => by cases h
noncomputable def b41 : Code := Try.f41.body.getD .skip
noncomputable def c41_0 : Code := (codeAt [] b41)
noncomputable def g41_p0 (R : Type) (t0 : Option (Nat × Nat)) (H : Heap) (kN : Heap → Option R) : Option R :=
  (t0).bind fun q1 =>
  ((H).st q1.1 ((q1.2 + 0) + 0) (V.i .i64 (0 : Int))).bind fun h3 =>
  kN h3
theorem g41_p0_eq {R : Type} (t0 : Option (Nat × Nat)) (H : Heap) (K : Ex → Fr → Heap → Option R) : ev Try.prog E41 loopLim Try.f41.ntmps kp41 c41_0 [(0, (V.p t0))] H K = g41_p0 R t0 H (fun H => K .normal [] H) := by kernel_rfl
theorem g41_p0_lin {R S : Type} {k : S → Option R} {t0 : Option (Nat × Nat)} {H : Heap} {fkN : Heap → Option R} {gkN : Heap → Option S} (hkN : ∀ H, fkN H = (gkN H).bind k) : g41_p0 R t0 H fkN = (g41_p0 S t0 H gkN).bind k := by
  delta g41_p0; exact (
    bl fun q1 =>
    bl fun h3 =>
    hkN _)
noncomputable def g41_r : T41 := fun R t0 H K =>
  g41_p0 R t0 H (fun H =>
    K  H)
theorem g41_r_lin : Lin41 (g41_r) := by
  constructor
  intro R S k t0 H f g h
  exact g41_p0_lin (fun H =>
    h _)
theorem g41_fn {R : Type} (t0 : Option (Nat × Nat)) (H : Heap) (K : V → Heap → Option R) : evFn Try.prog E41 loopLim Try.f41 kp41 [(V.p t0)] H K = g41_r R t0 H (fun H => K (V.tup []) H) := by
  have h0 : ∀ (H : Heap), kFn Try.prog Try.f41.results.toList K .normal [] H =
      K (V.tup []) H := by intros; kernel_rfl
  have e0 := evFn_code2 (P := Try.prog) (c := c41_0) (E := E41) (lr := loopLim) (kp := kp41) (fn := Try.f41) (args := [(V.p t0)]) H K (by kernel_rfl) (Nat.le_of_ble_eq_true (by kernel_rfl)) (by kernel_rfl)
  have e1 : ev Try.prog E41 loopLim Try.f41.ntmps kp41 c41_0 (argFr 0 [(V.p t0)]) H (kFn Try.prog Try.f41.results.toList K) = ev Try.prog E41 loopLim Try.f41.ntmps kp41 c41_0 [(0, (V.p t0))] H (kFn Try.prog Try.f41.results.toList K) := by kernel_rfl
  refine (e0.trans e1).trans ?_
  delta g41_r
  exact (g41_p0_eq t0 H (kFn Try.prog Try.f41.results.toList K)).trans (congrArg (g41_p0 R t0 H) (funext fun H => h0 H))
theorem g41_ok : FunOK Try.prog 41 (w41 (g41_r)) := by
  refine (runF_ok (E41_good) mixed lim_ok Try.func41 (by kernel_rfl) kp41).of_le fun R args H K r hk => ?_
  unfold w41 at hk
  split at hk
  · exact (g41_fn _ H K).trans hk
  · cases hk
def kp45 : Nat → Option (List Nat) := kpOf [(0, []), (300000, [])]
def E45 : FEnv := []
theorem E45_good : EnvGood Try.prog E45 := (EnvGood.nil _)
theorem E45_lin : EnvLin E45 := fun g F h => by cases h
noncomputable def b45 : Code := Try.f45.body.getD .skip
noncomputable def c45_0 : Code := (codeAt [] b45)
noncomputable def g45_p0 (R : Type) (t0 : Option (Nat × Nat)) (H : Heap) (kN : Heap → Option R) : Option R :=
  (t0).bind fun q1 =>
  ((H).st q1.1 ((q1.2 + 0) + 0) (V.i .i64 (0 : Int))).bind fun h3 =>
  (t0).bind fun q4 =>
  ((h3).st q4.1 (q4.2 + 3) (V.i .i64 (0 : Int))).bind fun h6 =>
  kN h6
theorem g45_p0_eq {R : Type} (t0 : Option (Nat × Nat)) (H : Heap) (K : Ex → Fr → Heap → Option R) : ev Try.prog E45 loopLim Try.f45.ntmps kp45 c45_0 [(0, (V.p t0))] H K = g45_p0 R t0 H (fun H => K .normal [] H) := by kernel_rfl
theorem g45_p0_lin {R S : Type} {k : S → Option R} {t0 : Option (Nat × Nat)} {H : Heap} {fkN : Heap → Option R} {gkN : Heap → Option S} (hkN : ∀ H, fkN H = (gkN H).bind k) : g45_p0 R t0 H fkN = (g45_p0 S t0 H gkN).bind k := by
  delta g45_p0; exact (
    bl fun q1 =>
    bl fun h3 =>
    bl fun q4 =>
    bl fun h6 =>
    hkN _)
noncomputable def g45_r : T45 := fun R t0 H K =>
  g45_p0 R t0 H (fun H =>
    K  H)
theorem g45_r_lin : Lin45 (g45_r) := by
  constructor
  intro R S k t0 H f g h
  exact g45_p0_lin (fun H =>
    h _)
theorem g45_fn {R : Type} (t0 : Option (Nat × Nat)) (H : Heap) (K : V → Heap → Option R) : evFn Try.prog E45 loopLim Try.f45 kp45 [(V.p t0)] H K = g45_r R t0 H (fun H => K (V.tup []) H) := by
  have h0 : ∀ (H : Heap), kFn Try.prog Try.f45.results.toList K .normal [] H =
      K (V.tup []) H := by intros; kernel_rfl
  have e0 := evFn_code2 (P := Try.prog) (c := c45_0) (E := E45) (lr := loopLim) (kp := kp45) (fn := Try.f45) (args := [(V.p t0)]) H K (by kernel_rfl) (Nat.le_of_ble_eq_true (by kernel_rfl)) (by kernel_rfl)
  have e1 : ev Try.prog E45 loopLim Try.f45.ntmps kp45 c45_0 (argFr 0 [(V.p t0)]) H (kFn Try.prog Try.f45.results.toList K) = ev Try.prog E45 loopLim Try.f45.ntmps kp45 c45_0 [(0, (V.p t0))] H (kFn Try.prog Try.f45.results.toList K) := by kernel_rfl
  refine (e0.trans e1).trans ?_
  delta g45_r
  exact (g45_p0_eq t0 H (kFn Try.prog Try.f45.results.toList K)).trans (congrArg (g45_p0 R t0 H) (funext fun H => h0 H))
theorem g45_ok : FunOK Try.prog 45 (w45 (g45_r)) := by
  refine (runF_ok (E45_good) mixed lim_ok Try.func45 (by kernel_rfl) kp45).of_le fun R args H K r hk => ?_
  unfold w45 at hk
  split at hk
  · exact (g45_fn _ H K).trans hk
  · cases hk
def kp47 : Nat → Option (List Nat) := kpOf [(0, []), (300000, [])]
def E47 : FEnv := []
theorem E47_good : EnvGood Try.prog E47 := (EnvGood.nil _)
theorem E47_lin : EnvLin E47 := fun g F h => by cases h
noncomputable def b47 : Code := Try.f47.body.getD .skip
noncomputable def c47_0 : Code := (codeAt [] b47)
noncomputable def g47_p0 (R : Type) (t0 : Option (Nat × Nat)) (H : Heap) (kN : Heap → Option R) : Option R :=
  (t0).bind fun q1 =>
  ((H).st q1.1 ((q1.2 + 0) + 0) (V.i .i64 (0 : Int))).bind fun h3 =>
  (t0).bind fun q4 =>
  ((h3).st q4.1 (q4.2 + 5) (V.i .i64 (0 : Int))).bind fun h6 =>
  (t0).bind fun q7 =>
  ((h6).st q7.1 (q7.2 + 6) (V.b false)).bind fun h9 =>
  kN h9
theorem g47_p0_eq {R : Type} (t0 : Option (Nat × Nat)) (H : Heap) (K : Ex → Fr → Heap → Option R) : ev Try.prog E47 loopLim Try.f47.ntmps kp47 c47_0 [(0, (V.p t0))] H K = g47_p0 R t0 H (fun H => K .normal [] H) := by kernel_rfl
theorem g47_p0_lin {R S : Type} {k : S → Option R} {t0 : Option (Nat × Nat)} {H : Heap} {fkN : Heap → Option R} {gkN : Heap → Option S} (hkN : ∀ H, fkN H = (gkN H).bind k) : g47_p0 R t0 H fkN = (g47_p0 S t0 H gkN).bind k := by
  delta g47_p0; exact (
    bl fun q1 =>
    bl fun h3 =>
    bl fun q4 =>
    bl fun h6 =>
    bl fun q7 =>
    bl fun h9 =>
    hkN _)
noncomputable def g47_r : T47 := fun R t0 H K =>
  g47_p0 R t0 H (fun H =>
    K  H)
theorem g47_r_lin : Lin47 (g47_r) := by
  constructor
  intro R S k t0 H f g h
  exact g47_p0_lin (fun H =>
    h _)
theorem g47_fn {R : Type} (t0 : Option (Nat × Nat)) (H : Heap) (K : V → Heap → Option R) : evFn Try.prog E47 loopLim Try.f47 kp47 [(V.p t0)] H K = g47_r R t0 H (fun H => K (V.tup []) H) := by
  have h0 : ∀ (H : Heap), kFn Try.prog Try.f47.results.toList K .normal [] H =
      K (V.tup []) H := by intros; kernel_rfl
  have e0 := evFn_code2 (P := Try.prog) (c := c47_0) (E := E47) (lr := loopLim) (kp := kp47) (fn := Try.f47) (args := [(V.p t0)]) H K (by kernel_rfl) (Nat.le_of_ble_eq_true (by kernel_rfl)) (by kernel_rfl)
  have e1 : ev Try.prog E47 loopLim Try.f47.ntmps kp47 c47_0 (argFr 0 [(V.p t0)]) H (kFn Try.prog Try.f47.results.toList K) = ev Try.prog E47 loopLim Try.f47.ntmps kp47 c47_0 [(0, (V.p t0))] H (kFn Try.prog Try.f47.results.toList K) := by kernel_rfl
  refine (e0.trans e1).trans ?_
  delta g47_r
  exact (g47_p0_eq t0 H (kFn Try.prog Try.f47.results.toList K)).trans (congrArg (g47_p0 R t0 H) (funext fun H => h0 H))
theorem g47_ok : FunOK Try.prog 47 (w47 (g47_r)) := by
  refine (runF_ok (E47_good) mixed lim_ok Try.func47 (by kernel_rfl) kp47).of_le fun R args H K r hk => ?_
  unfold w47 at hk
  split at hk
  · exact (g47_fn _ H K).trans hk
  · cases hk
end Go.Proofs.Ytbkncpmgpogakaa
