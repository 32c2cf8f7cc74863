/- Printed: functions as the machine runs them. -/
import Derived.Test.YtnjihofdmncckaaDoorGT
namespace Go.Proofs.YtnjihofdmncckaaDoor
open Go AM Go.RowKit
set_option linter.unusedVariables false
def kp67 : Nat → Option (List Nat) := kpOf [(0, [0, 1]), (1, [0, 1, 16]), (2, [0, 1]), (3, [4]), (100000, [0]), (100001, [0, 1]), (200000, [0, 1]), (200001, [0, 1]), (300000, [4]), (400016, [0, 1])]
def E67 : FEnv := []
theorem E67_good : EnvGood Tryd.prog E67 := (EnvGood.nil _)
theorem E67_lin : EnvLin E67 := fun g F h => by cases h
noncomputable def b67 : Code := Tryd.f67.body.getD .skip
noncomputable def c67_0 : Code := (.seq (codeAt [1, 0, 0, 0, 0, 0] b67) (.seq (.cond (.tmp 16) .skip (.exit 0)) (.block 1 (codeAt [1, 0, 0, 0, 1, 0] b67))))
noncomputable def c67_1 : Code := (.loop c67_0)
noncomputable def c67_2 : Code := (.block 0 c67_1)
noncomputable def c67_3 : Code := (.seq (codeAt [1, 1, 0] b67) .ret)
noncomputable def c67_4 : Code := (.seq c67_2 c67_3)
noncomputable def c67_5 : Code := (.seq (codeAt [0] b67) c67_4)
noncomputable def g67_p0 (R : Type) (t0 : ByteArray) (t1 : Int) (H : Heap) (kN : ByteArray → Int → Heap → Option R) : Option R :=
  kN t0 t1 H
theorem g67_p0_eq {R : Type} (c2 : Code) (t0 : ByteArray) (t1 : Int) (H : Heap) (K : Ex → Fr → Heap → Option R) : ev Tryd.prog E67 loopLim Tryd.f67.ntmps kp67 (.seq (codeAt [0] b67) c2) [(0, (V.s t0)), (1, (V.i .u8 t1))] H K = g67_p0 R t0 t1 H (fun t0 t1 H => ev Tryd.prog E67 loopLim Tryd.f67.ntmps kp67 c2 [(0, (V.s t0)), (1, (V.i .u8 t1))] H K) := by kernel_rfl
theorem g67_p0_lin {R S : Type} {k : S → Option R} {t0 : ByteArray} {t1 : Int} {H : Heap} {fkN : ByteArray → Int → Heap → Option R} {gkN : ByteArray → Int → Heap → Option S} (hkN : ∀ t0 t1 H, fkN t0 t1 H = (gkN t0 t1 H).bind k) : g67_p0 R t0 t1 H fkN = (g67_p0 S t0 t1 H gkN).bind k := by
  delta g67_p0; exact (
    hkN _ _ _)
noncomputable def g67_p1 (R : Type) (t0 : ByteArray) (t1 : Int) (H : Heap) (kN : ByteArray → Int → Heap → Option R) (kE0 : ByteArray → Heap → Option R) : Option R :=
  sel (decide (((t0.size : Nat) : Int) > (0 : Int))) (
    if 0 ≤ (IntKind.wrap .i64 (((t0.size : Nat) : Int) - (1 : Int))) ∧ (IntKind.wrap .i64 (((t0.size : Nat) : Int) - (1 : Int))) < ((t0.size : Nat) : Int) then (
      sel ((btAt t0 (IntKind.wrap .i64 (((t0.size : Nat) : Int) - (1 : Int)))) == t1) (
        if 0 ≤ (0 : Int) ∧ (0 : Int) ≤ (IntKind.wrap .i64 (((t0.size : Nat) : Int) - (1 : Int))) ∧ (IntKind.wrap .i64 (((t0.size : Nat) : Int) - (1 : Int))) ≤ ((t0.size : Nat) : Int) then (
          kN (subS t0 (0 : Int) (IntKind.wrap .i64 (((t0.size : Nat) : Int) - (1 : Int)))) t1 H)
        else (
          none)) (
        kE0 t0 H))
    else (
      none)) (
    kE0 t0 H)
theorem g67_p1_eq {R : Type} (t0 : ByteArray) (t1 : Int) (H : Heap) (K : Ex → Fr → Heap → Option R) : ev Tryd.prog E67 loopLim Tryd.f67.ntmps kp67 c67_0 [(0, (V.s t0)), (1, (V.i .u8 t1))] H K = g67_p1 R t0 t1 H (fun t0 t1 H => K .normal [(0, (V.s t0)), (1, (V.i .u8 t1))] H) (fun t0 H => K (.exit 0) [(0, (V.s t0))] H) := by kernel_rfl
theorem g67_p1_lin {R S : Type} {k : S → Option R} {t0 : ByteArray} {t1 : Int} {H : Heap} {fkN : ByteArray → Int → Heap → Option R} {gkN : ByteArray → Int → Heap → Option S} {fkE0 : ByteArray → Heap → Option R} {gkE0 : ByteArray → Heap → Option S} (hkN : ∀ t0 t1 H, fkN t0 t1 H = (gkN t0 t1 H).bind k) (hkE0 : ∀ t0 H, fkE0 t0 H = (gkE0 t0 H).bind k) : g67_p1 R t0 t1 H fkN fkE0 = (g67_p1 S t0 t1 H gkN gkE0).bind k := by
  delta g67_p1; exact (
    sl_lin (
      il (
        sl_lin (
          il (
            hkN _ _ _) (
            rfl)) (
          hkE0 _ _)) (
        rfl)) (
      hkE0 _ _))
abbrev g67_p2_S := ByteArray × Int
abbrev g67_p2_O := ByteArray
def g67_p2_es (s : g67_p2_S) : Fr := [(0, (V.s s.1)), (1, (V.i .u8 s.2))]
def g67_p2_er (r : g67_p2_O) : Ex × Fr := ((.exit 0), [(0, (V.s r))])
noncomputable def g67_p2_b (s : g67_p2_S) (H : Heap) : Option (Rd g67_p2_S g67_p2_O × Heap) :=
  g67_p1 _ s.1 s.2 H (fun t0 t1 H => some (.go (t0, t1), H)) (fun t0 H => some (.up t0, H))
noncomputable def g67_p2 (R : Type) (t0 : ByteArray) (t1 : Int) (H : Heap) (kE0 : ByteArray → Heap → Option R) : Option R :=
  (tlim (g67_p2_b) (t0, t1) H).bind fun p => kE0 p.1 p.2
theorem g67_p2_lin {R S : Type} {k : S → Option R} {t0 : ByteArray} {t1 : Int} {H : Heap} {fkE0 : ByteArray → Heap → Option R} {gkE0 : ByteArray → Heap → Option S} (hkE0 : ∀ t0 H, fkE0 t0 H = (gkE0 t0 H).bind k) : g67_p2 R t0 t1 H fkE0 = (g67_p2 S t0 t1 H gkE0).bind k := by
  exact bl fun p => hkE0 _ _
theorem g67_p2_eq {R : Type} (t0 : ByteArray) (t1 : Int) (H : Heap) (K : Ex → Fr → Heap → Option R) : ev Tryd.prog E67 loopLim Tryd.f67.ntmps kp67 c67_1 [(0, (V.s t0)), (1, (V.i .u8 t1))] H K = g67_p2 R t0 t1 H (fun t0 H => K (.exit 0) [(0, (V.s t0))] H) := by
  show ev Tryd.prog E67 loopLim Tryd.f67.ntmps kp67 (.loop c67_0) [(0, (V.s t0)), (1, (V.i .u8 t1))] H K = _
  delta g67_p2
  refine (ev_tlim (b := g67_p2_b) (es := g67_p2_es) (er := g67_p2_er) (by intro r; exact nofun) (fun s H => ?_) (t0, t1) H K).trans (bc fun p => rfl)
  exact (g67_p1_eq s.1 s.2 H ret3).trans (g67_p1_lin (fun _ _ _ => rfl) (fun _ _ => rfl))
noncomputable def g67_p3 (R : Type) (t0 : ByteArray) (t1 : Int) (H : Heap) (kN : ByteArray → Heap → Option R) : Option R :=
  g67_p2 R t0 t1 H (fun t0 H => kN t0 H)
theorem g67_p3_lin {R S : Type} {k : S → Option R} {t0 : ByteArray} {t1 : Int} {H : Heap} {fkN : ByteArray → Heap → Option R} {gkN : ByteArray → Heap → Option S} (hkN : ∀ t0 H, fkN t0 H = (gkN t0 H).bind k) : g67_p3 R t0 t1 H fkN = (g67_p3 S t0 t1 H gkN).bind k := by
  exact g67_p2_lin (fun _ _ => hkN _ _)
theorem g67_p3_eq {R : Type} (t0 : ByteArray) (t1 : Int) (H : Heap) (K : Ex → Fr → Heap → Option R) : ev Tryd.prog E67 loopLim Tryd.f67.ntmps kp67 c67_2 [(0, (V.s t0)), (1, (V.i .u8 t1))] H K = g67_p3 R t0 t1 H (fun t0 H => K .normal [(0, (V.s t0))] H) := by
  show ev Tryd.prog E67 loopLim Tryd.f67.ntmps kp67 (.block 0 c67_1) [(0, (V.s t0)), (1, (V.i .u8 t1))] H K = _
  rw [ev_block]
  delta g67_p3
  exact (g67_p2_eq t0 t1 H (kBlock kp67 0 K))
noncomputable def g67_p4 (R : Type) (t0 : ByteArray) (H : Heap) (kR : ByteArray → Heap → Option R) : Option R :=
  kR t0 H
theorem g67_p4_eq {R : Type} (t0 : ByteArray) (H : Heap) (K : Ex → Fr → Heap → Option R) : ev Tryd.prog E67 loopLim Tryd.f67.ntmps kp67 c67_3 [(0, (V.s t0))] H K = g67_p4 R t0 H (fun t4 H => K .ret [(4, (V.s t4))] H) := by kernel_rfl
theorem g67_p4_lin {R S : Type} {k : S → Option R} {t0 : ByteArray} {H : Heap} {fkR : ByteArray → Heap → Option R} {gkR : ByteArray → Heap → Option S} (hkR : ∀ t4 H, fkR t4 H = (gkR t4 H).bind k) : g67_p4 R t0 H fkR = (g67_p4 S t0 H gkR).bind k := by
  delta g67_p4; exact (
    hkR _ _)
noncomputable def g67_p5 (R : Type) (t0 : ByteArray) (t1 : Int) (H : Heap) (kR : ByteArray → Heap → Option R) : Option R :=
  g67_p3 R t0 t1 H (fun t0 H => g67_p4 R t0 H (fun t4 H => kR t4 H))
theorem g67_p5_lin {R S : Type} {k : S → Option R} {t0 : ByteArray} {t1 : Int} {H : Heap} {fkR : ByteArray → Heap → Option R} {gkR : ByteArray → Heap → Option S} (hkR : ∀ t4 H, fkR t4 H = (gkR t4 H).bind k) : g67_p5 R t0 t1 H fkR = (g67_p5 S t0 t1 H gkR).bind k := by
  exact g67_p3_lin (fun _ _ => g67_p4_lin (fun _ _ => hkR _ _))
theorem g67_p5_eq {R : Type} (t0 : ByteArray) (t1 : Int) (H : Heap) (K : Ex → Fr → Heap → Option R) : ev Tryd.prog E67 loopLim Tryd.f67.ntmps kp67 c67_4 [(0, (V.s t0)), (1, (V.i .u8 t1))] H K = g67_p5 R t0 t1 H (fun t4 H => K .ret [(4, (V.s t4))] H) := by
  show ev Tryd.prog E67 loopLim Tryd.f67.ntmps kp67 (.seq c67_2 c67_3) [(0, (V.s t0)), (1, (V.i .u8 t1))] H K = _
  rw [ev_seq]
  delta g67_p5
  exact (g67_p3_eq t0 t1 H (kSeq (fun fr H => ev Tryd.prog E67 loopLim Tryd.f67.ntmps kp67 c67_3 fr H K) K)).trans (congrArg (g67_p3 R t0 t1 H) (funext fun t0 => funext fun H => (kSeq_n _ _ _ _).trans (g67_p4_eq t0 H K)))
noncomputable def g67_p6 (R : Type) (t0 : ByteArray) (t1 : Int) (H : Heap) (kR : ByteArray → Heap → Option R) : Option R :=
  g67_p0 R t0 t1 H (fun t0 t1 H => g67_p5 R t0 t1 H (fun t4 H => kR t4 H))
theorem g67_p6_lin {R S : Type} {k : S → Option R} {t0 : ByteArray} {t1 : Int} {H : Heap} {fkR : ByteArray → Heap → Option R} {gkR : ByteArray → Heap → Option S} (hkR : ∀ t4 H, fkR t4 H = (gkR t4 H).bind k) : g67_p6 R t0 t1 H fkR = (g67_p6 S t0 t1 H gkR).bind k := by
  exact g67_p0_lin (fun _ _ _ => g67_p5_lin (fun _ _ => hkR _ _))
theorem g67_p6_eq {R : Type} (t0 : ByteArray) (t1 : Int) (H : Heap) (K : Ex → Fr → Heap → Option R) : ev Tryd.prog E67 loopLim Tryd.f67.ntmps kp67 c67_5 [(0, (V.s t0)), (1, (V.i .u8 t1))] H K = g67_p6 R t0 t1 H (fun t4 H => K .ret [(4, (V.s t4))] H) := by
  show ev Tryd.prog E67 loopLim Tryd.f67.ntmps kp67 (.seq (codeAt [0] b67) c67_4) [(0, (V.s t0)), (1, (V.i .u8 t1))] H K = _
  delta g67_p6
  exact (g67_p0_eq _ t0 t1 H K).trans (congrArg (g67_p0 R t0 t1 H) (funext fun t0 => funext fun t1 => funext fun H => g67_p5_eq t0 t1 H K))
noncomputable def g67_r : T67 := fun R t0 t1 H K =>
  g67_p6 R t0 t1 H (fun t4 H =>
    K t4 H)
theorem g67_r_lin : Lin67 (g67_r) := by
  constructor
  intro R S k t0 t1 H f g h
  exact g67_p6_lin (fun t4 H =>
    h _ _)
theorem g67_fn {R : Type} (t0 : ByteArray) (t1 : Int) (H : Heap) (K : V → Heap → Option R) : evFn Tryd.prog E67 loopLim Tryd.f67 kp67 [(V.s t0), (V.i .u8 t1)] H K = g67_r R t0 t1 H (fun r0 H => K (V.s r0) H) := by
  have h0 : ∀ (t4 : ByteArray) (H : Heap), kFn Tryd.prog Tryd.f67.results.toList K .ret [(4, (V.s t4))] H =
      K (V.s t4) H := by intros; kernel_rfl
  have e0 := evFn_code2 (P := Tryd.prog) (c := c67_5) (E := E67) (lr := loopLim) (kp := kp67) (fn := Tryd.f67) (args := [(V.s t0), (V.i .u8 t1)]) H K (by kernel_rfl) (Nat.le_of_ble_eq_true (by kernel_rfl)) (by kernel_rfl)
  have e1 : ev Tryd.prog E67 loopLim Tryd.f67.ntmps kp67 c67_5 (argFr 0 [(V.s t0), (V.i .u8 t1)]) H (kFn Tryd.prog Tryd.f67.results.toList K) = ev Tryd.prog E67 loopLim Tryd.f67.ntmps kp67 c67_5 [(0, (V.s t0)), (1, (V.i .u8 t1))] H (kFn Tryd.prog Tryd.f67.results.toList K) := by kernel_rfl
  refine (e0.trans e1).trans ?_
  delta g67_r
  exact (g67_p6_eq t0 t1 H (kFn Tryd.prog Tryd.f67.results.toList K)).trans (congrArg (g67_p6 R t0 t1 H) (funext fun t4 => funext fun H => h0 t4 H))
theorem g67_ok : FunOK Tryd.prog 67 (w67 (g67_r)) := by
  refine (runF_ok (E67_good) mixed lim_ok Tryd.func67 (by kernel_rfl) kp67).of_le fun R args H K r hk => ?_
  unfold w67 at hk
  split at hk
  · exact (g67_fn _ _ H K).trans hk
  · cases hk
def kp66 : Nat → Option (List Nat) := kpOf [(0, [0, 1]), (1, [0, 1, 13]), (2, [0, 1]), (3, [4]), (100000, [0]), (100001, [0, 1]), (200000, [0, 1]), (200001, [0, 1]), (300000, [4]), (400013, [0, 1])]
def E66 : FEnv := []
theorem E66_good : EnvGood Tryd.prog E66 := (EnvGood.nil _)
theorem E66_lin : EnvLin E66 := fun g F h => by cases h
noncomputable def b66 : Code := Tryd.f66.body.getD .skip
noncomputable def c66_0 : Code := (.seq (codeAt [1, 0, 0, 0, 0, 0] b66) (.seq (.cond (.tmp 13) .skip (.exit 0)) (.block 1 (codeAt [1, 0, 0, 0, 1, 0] b66))))
noncomputable def c66_1 : Code := (.loop c66_0)
noncomputable def c66_2 : Code := (.block 0 c66_1)
noncomputable def c66_3 : Code := (.seq (codeAt [1, 1, 0] b66) .ret)
noncomputable def c66_4 : Code := (.seq c66_2 c66_3)
noncomputable def c66_5 : Code := (.seq (codeAt [0] b66) c66_4)
noncomputable def g66_p0 (R : Type) (t0 : ByteArray) (t1 : Int) (H : Heap) (kN : ByteArray → Int → Heap → Option R) : Option R :=
  kN t0 t1 H
theorem g66_p0_eq {R : Type} (c2 : Code) (t0 : ByteArray) (t1 : Int) (H : Heap) (K : Ex → Fr → Heap → Option R) : ev Tryd.prog E66 loopLim Tryd.f66.ntmps kp66 (.seq (codeAt [0] b66) c2) [(0, (V.s t0)), (1, (V.i .u8 t1))] H K = g66_p0 R t0 t1 H (fun t0 t1 H => ev Tryd.prog E66 loopLim Tryd.f66.ntmps kp66 c2 [(0, (V.s t0)), (1, (V.i .u8 t1))] H K) := by kernel_rfl
theorem g66_p0_lin {R S : Type} {k : S → Option R} {t0 : ByteArray} {t1 : Int} {H : Heap} {fkN : ByteArray → Int → Heap → Option R} {gkN : ByteArray → Int → Heap → Option S} (hkN : ∀ t0 t1 H, fkN t0 t1 H = (gkN t0 t1 H).bind k) : g66_p0 R t0 t1 H fkN = (g66_p0 S t0 t1 H gkN).bind k := by
  delta g66_p0; exact (
    hkN _ _ _)
noncomputable def g66_p1 (R : Type) (t0 : ByteArray) (t1 : Int) (H : Heap) (kN : ByteArray → Int → Heap → Option R) (kE0 : ByteArray → Heap → Option R) : Option R :=
  sel (decide (((t0.size : Nat) : Int) > (0 : Int))) (
    if 0 ≤ (0 : Int) ∧ (0 : Int) < ((t0.size : Nat) : Int) then (
      sel ((btAt t0 (0 : Int)) == t1) (
        if 0 ≤ (1 : Int) ∧ (1 : Int) ≤ ((t0.size : Nat) : Int) ∧ ((t0.size : Nat) : Int) ≤ ((t0.size : Nat) : Int) then (
          kN (subS t0 (1 : Int) ((t0.size : Nat) : Int)) t1 H)
        else (
          none)) (
        kE0 t0 H))
    else (
      none)) (
    kE0 t0 H)
theorem g66_p1_eq {R : Type} (t0 : ByteArray) (t1 : Int) (H : Heap) (K : Ex → Fr → Heap → Option R) : ev Tryd.prog E66 loopLim Tryd.f66.ntmps kp66 c66_0 [(0, (V.s t0)), (1, (V.i .u8 t1))] H K = g66_p1 R t0 t1 H (fun t0 t1 H => K .normal [(0, (V.s t0)), (1, (V.i .u8 t1))] H) (fun t0 H => K (.exit 0) [(0, (V.s t0))] H) := by kernel_rfl
theorem g66_p1_lin {R S : Type} {k : S → Option R} {t0 : ByteArray} {t1 : Int} {H : Heap} {fkN : ByteArray → Int → Heap → Option R} {gkN : ByteArray → Int → Heap → Option S} {fkE0 : ByteArray → Heap → Option R} {gkE0 : ByteArray → Heap → Option S} (hkN : ∀ t0 t1 H, fkN t0 t1 H = (gkN t0 t1 H).bind k) (hkE0 : ∀ t0 H, fkE0 t0 H = (gkE0 t0 H).bind k) : g66_p1 R t0 t1 H fkN fkE0 = (g66_p1 S t0 t1 H gkN gkE0).bind k := by
  delta g66_p1; exact (
    sl_lin (
      il (
        sl_lin (
          il (
            hkN _ _ _) (
            rfl)) (
          hkE0 _ _)) (
        rfl)) (
      hkE0 _ _))
abbrev g66_p2_S := ByteArray × Int
abbrev g66_p2_O := ByteArray
def g66_p2_es (s : g66_p2_S) : Fr := [(0, (V.s s.1)), (1, (V.i .u8 s.2))]
def g66_p2_er (r : g66_p2_O) : Ex × Fr := ((.exit 0), [(0, (V.s r))])
noncomputable def g66_p2_b (s : g66_p2_S) (H : Heap) : Option (Rd g66_p2_S g66_p2_O × Heap) :=
  g66_p1 _ s.1 s.2 H (fun t0 t1 H => some (.go (t0, t1), H)) (fun t0 H => some (.up t0, H))
noncomputable def g66_p2 (R : Type) (t0 : ByteArray) (t1 : Int) (H : Heap) (kE0 : ByteArray → Heap → Option R) : Option R :=
  (tlim (g66_p2_b) (t0, t1) H).bind fun p => kE0 p.1 p.2
theorem g66_p2_lin {R S : Type} {k : S → Option R} {t0 : ByteArray} {t1 : Int} {H : Heap} {fkE0 : ByteArray → Heap → Option R} {gkE0 : ByteArray → Heap → Option S} (hkE0 : ∀ t0 H, fkE0 t0 H = (gkE0 t0 H).bind k) : g66_p2 R t0 t1 H fkE0 = (g66_p2 S t0 t1 H gkE0).bind k := by
  exact bl fun p => hkE0 _ _
theorem g66_p2_eq {R : Type} (t0 : ByteArray) (t1 : Int) (H : Heap) (K : Ex → Fr → Heap → Option R) : ev Tryd.prog E66 loopLim Tryd.f66.ntmps kp66 c66_1 [(0, (V.s t0)), (1, (V.i .u8 t1))] H K = g66_p2 R t0 t1 H (fun t0 H => K (.exit 0) [(0, (V.s t0))] H) := by
  show ev Tryd.prog E66 loopLim Tryd.f66.ntmps kp66 (.loop c66_0) [(0, (V.s t0)), (1, (V.i .u8 t1))] H K = _
  delta g66_p2
  refine (ev_tlim (b := g66_p2_b) (es := g66_p2_es) (er := g66_p2_er) (by intro r; exact nofun) (fun s H => ?_) (t0, t1) H K).trans (bc fun p => rfl)
  exact (g66_p1_eq s.1 s.2 H ret3).trans (g66_p1_lin (fun _ _ _ => rfl) (fun _ _ => rfl))
noncomputable def g66_p3 (R : Type) (t0 : ByteArray) (t1 : Int) (H : Heap) (kN : ByteArray → Heap → Option R) : Option R :=
  g66_p2 R t0 t1 H (fun t0 H => kN t0 H)
theorem g66_p3_lin {R S : Type} {k : S → Option R} {t0 : ByteArray} {t1 : Int} {H : Heap} {fkN : ByteArray → Heap → Option R} {gkN : ByteArray → Heap → Option S} (hkN : ∀ t0 H, fkN t0 H = (gkN t0 H).bind k) : g66_p3 R t0 t1 H fkN = (g66_p3 S t0 t1 H gkN).bind k := by
  exact g66_p2_lin (fun _ _ => hkN _ _)
theorem g66_p3_eq {R : Type} (t0 : ByteArray) (t1 : Int) (H : Heap) (K : Ex → Fr → Heap → Option R) : ev Tryd.prog E66 loopLim Tryd.f66.ntmps kp66 c66_2 [(0, (V.s t0)), (1, (V.i .u8 t1))] H K = g66_p3 R t0 t1 H (fun t0 H => K .normal [(0, (V.s t0))] H) := by
  show ev Tryd.prog E66 loopLim Tryd.f66.ntmps kp66 (.block 0 c66_1) [(0, (V.s t0)), (1, (V.i .u8 t1))] H K = _
  rw [ev_block]
  delta g66_p3
  exact (g66_p2_eq t0 t1 H (kBlock kp66 0 K))
noncomputable def g66_p4 (R : Type) (t0 : ByteArray) (H : Heap) (kR : ByteArray → Heap → Option R) : Option R :=
  kR t0 H
theorem g66_p4_eq {R : Type} (t0 : ByteArray) (H : Heap) (K : Ex → Fr → Heap → Option R) : ev Tryd.prog E66 loopLim Tryd.f66.ntmps kp66 c66_3 [(0, (V.s t0))] H K = g66_p4 R t0 H (fun t4 H => K .ret [(4, (V.s t4))] H) := by kernel_rfl
theorem g66_p4_lin {R S : Type} {k : S → Option R} {t0 : ByteArray} {H : Heap} {fkR : ByteArray → Heap → Option R} {gkR : ByteArray → Heap → Option S} (hkR : ∀ t4 H, fkR t4 H = (gkR t4 H).bind k) : g66_p4 R t0 H fkR = (g66_p4 S t0 H gkR).bind k := by
  delta g66_p4; exact (
    hkR _ _)
noncomputable def g66_p5 (R : Type) (t0 : ByteArray) (t1 : Int) (H : Heap) (kR : ByteArray → Heap → Option R) : Option R :=
  g66_p3 R t0 t1 H (fun t0 H => g66_p4 R t0 H (fun t4 H => kR t4 H))
theorem g66_p5_lin {R S : Type} {k : S → Option R} {t0 : ByteArray} {t1 : Int} {H : Heap} {fkR : ByteArray → Heap → Option R} {gkR : ByteArray → Heap → Option S} (hkR : ∀ t4 H, fkR t4 H = (gkR t4 H).bind k) : g66_p5 R t0 t1 H fkR = (g66_p5 S t0 t1 H gkR).bind k := by
  exact g66_p3_lin (fun _ _ => g66_p4_lin (fun _ _ => hkR _ _))
theorem g66_p5_eq {R : Type} (t0 : ByteArray) (t1 : Int) (H : Heap) (K : Ex → Fr → Heap → Option R) : ev Tryd.prog E66 loopLim Tryd.f66.ntmps kp66 c66_4 [(0, (V.s t0)), (1, (V.i .u8 t1))] H K = g66_p5 R t0 t1 H (fun t4 H => K .ret [(4, (V.s t4))] H) := by
  show ev Tryd.prog E66 loopLim Tryd.f66.ntmps kp66 (.seq c66_2 c66_3) [(0, (V.s t0)), (1, (V.i .u8 t1))] H K = _
  rw [ev_seq]
  delta g66_p5
  exact (g66_p3_eq t0 t1 H (kSeq (fun fr H => ev Tryd.prog E66 loopLim Tryd.f66.ntmps kp66 c66_3 fr H K) K)).trans (congrArg (g66_p3 R t0 t1 H) (funext fun t0 => funext fun H => (kSeq_n _ _ _ _).trans (g66_p4_eq t0 H K)))
noncomputable def g66_p6 (R : Type) (t0 : ByteArray) (t1 : Int) (H : Heap) (kR : ByteArray → Heap → Option R) : Option R :=
  g66_p0 R t0 t1 H (fun t0 t1 H => g66_p5 R t0 t1 H (fun t4 H => kR t4 H))
theorem g66_p6_lin {R S : Type} {k : S → Option R} {t0 : ByteArray} {t1 : Int} {H : Heap} {fkR : ByteArray → Heap → Option R} {gkR : ByteArray → Heap → Option S} (hkR : ∀ t4 H, fkR t4 H = (gkR t4 H).bind k) : g66_p6 R t0 t1 H fkR = (g66_p6 S t0 t1 H gkR).bind k := by
  exact g66_p0_lin (fun _ _ _ => g66_p5_lin (fun _ _ => hkR _ _))
theorem g66_p6_eq {R : Type} (t0 : ByteArray) (t1 : Int) (H : Heap) (K : Ex → Fr → Heap → Option R) : ev Tryd.prog E66 loopLim Tryd.f66.ntmps kp66 c66_5 [(0, (V.s t0)), (1, (V.i .u8 t1))] H K = g66_p6 R t0 t1 H (fun t4 H => K .ret [(4, (V.s t4))] H) := by
  show ev Tryd.prog E66 loopLim Tryd.f66.ntmps kp66 (.seq (codeAt [0] b66) c66_4) [(0, (V.s t0)), (1, (V.i .u8 t1))] H K = _
  delta g66_p6
  exact (g66_p0_eq _ t0 t1 H K).trans (congrArg (g66_p0 R t0 t1 H) (funext fun t0 => funext fun t1 => funext fun H => g66_p5_eq t0 t1 H K))
noncomputable def g66_r : T66 := fun R t0 t1 H K =>
  g66_p6 R t0 t1 H (fun t4 H =>
    K t4 H)
theorem g66_r_lin : Lin66 (g66_r) := by
  constructor
  intro R S k t0 t1 H f g h
  exact g66_p6_lin (fun t4 H =>
    h _ _)
theorem g66_fn {R : Type} (t0 : ByteArray) (t1 : Int) (H : Heap) (K : V → Heap → Option R) : evFn Tryd.prog E66 loopLim Tryd.f66 kp66 [(V.s t0), (V.i .u8 t1)] H K = g66_r R t0 t1 H (fun r0 H => K (V.s r0) H) := by
  have h0 : ∀ (t4 : ByteArray) (H : Heap), kFn Tryd.prog Tryd.f66.results.toList K .ret [(4, (V.s t4))] H =
      K (V.s t4) H := by intros; kernel_rfl
  have e0 := evFn_code2 (P := Tryd.prog) (c := c66_5) (E := E66) (lr := loopLim) (kp := kp66) (fn := Tryd.f66) (args := [(V.s t0), (V.i .u8 t1)]) H K (by kernel_rfl) (Nat.le_of_ble_eq_true (by kernel_rfl)) (by kernel_rfl)
  have e1 : ev Tryd.prog E66 loopLim Tryd.f66.ntmps kp66 c66_5 (argFr 0 [(V.s t0), (V.i .u8 t1)]) H (kFn Tryd.prog Tryd.f66.results.toList K) = ev Tryd.prog E66 loopLim Tryd.f66.ntmps kp66 c66_5 [(0, (V.s t0)), (1, (V.i .u8 t1))] H (kFn Tryd.prog Tryd.f66.results.toList K) := by kernel_rfl
  refine (e0.trans e1).trans ?_
  delta g66_r
  exact (g66_p6_eq t0 t1 H (kFn Tryd.prog Tryd.f66.results.toList K)).trans (congrArg (g66_p6 R t0 t1 H) (funext fun t4 => funext fun H => h0 t4 H))
theorem g66_ok : FunOK Tryd.prog 66 (w66 (g66_r)) := by
  refine (runF_ok (E66_good) mixed lim_ok Tryd.func66 (by kernel_rfl) kp66).of_le fun R args H K r hk => ?_
  unfold w66 at hk
  split at hk
  · exact (g66_fn _ _ H K).trans hk
  · cases hk
def kp68 : Nat → Option (List Nat) := kpOf [(0, [0, 2]), (1, [0, 2, 4]), (2, [0, 2, 4, 9]), (3, [0, 2, 4]), (4, [0, 2, 4, 5]), (5, [0, 2, 4, 5, 16]), (6, [2, 3]), (7, [0, 2, 4]), (8, [2, 3]), (100000, [2]), (100001, [0, 2, 4]), (200000, [0, 2, 4]), (200001, [0, 2, 4]), (300000, [2, 3]), (400009, [0, 2, 4]), (400016, [0, 2, 4, 5])]
def E68 : FEnv := []
theorem E68_good : EnvGood Tryd.prog E68 := (EnvGood.nil _)
theorem E68_lin : EnvLin E68 := fun g F h => by cases h
noncomputable def b68 : Code := Tryd.f68.body.getD .skip
noncomputable def c68_0 : Code := (.seq (codeAt [1, 0, 1, 0, 0, 0, 0] b68) (.seq (.cond (.tmp 9) .skip (.exit 0)) (.seq (.block 1 (.seq (codeAt [1, 0, 1, 0, 0, 1, 0, 0, 0] b68) (.seq (codeAt [1, 0, 1, 0, 0, 1, 0, 0, 1, 0, 0] b68) (.seq (.cond (.tmp 16) (.seq (codeAt [1, 0, 1, 0, 0, 1, 0, 0, 1, 0, 1, 0, 0] b68) .ret) .skip) (codeAt [1, 0, 1, 0, 0, 1, 0, 0, 1, 1] b68))))) (codeAt [1, 0, 1, 0, 0, 1, 1] b68))))
noncomputable def c68_1 : Code := (.loop c68_0)
noncomputable def c68_2 : Code := (.block 0 c68_1)
noncomputable def c68_3 : Code := (.seq (codeAt [1, 1, 0] b68) .ret)
noncomputable def c68_4 : Code := (.seq c68_2 c68_3)
noncomputable def c68_5 : Code := (.seq (codeAt [0] b68) (.seq (codeAt [1, 0, 0] b68) c68_4))
noncomputable def g68_p0 (R : Type) (t0 : ByteArray) (H : Heap) (kN : ByteArray → Nat → Nat → Int → Heap → Option R) : Option R :=
  alo H (.cells [(V.b false), (V.b false), (V.b false), (V.b false), (V.b false), (V.b false), (V.b false), (V.b false), (V.b false), (V.b false), (V.b false), (V.b false), (V.b false), (V.b false), (V.b false), (V.b false), (V.b false), (V.b false), (V.b false), (V.b false), (V.b false), (V.b false), (V.b false), (V.b false), (V.b false), (V.b false), (V.b false), (V.b false), (V.b false), (V.b false), (V.b false), (V.b false), (V.b false), (V.b false), (V.b false), (V.b false), (V.b false), (V.b false), (V.b false), (V.b false), (V.b false), (V.b false), (V.b false), (V.b false), (V.b false), (V.b false), (V.b false), (V.b false), (V.b false), (V.b false), (V.b false), (V.b false), (V.b false), (V.b false), (V.b false), (V.b false), (V.b false), (V.b false), (V.b false), (V.b false), (V.b false), (V.b false), (V.b false), (V.b false), (V.b false), (V.b false), (V.b false), (V.b false), (V.b false), (V.b false), (V.b false), (V.b false), (V.b false), (V.b false), (V.b false), (V.b false), (V.b false), (V.b false), (V.b false), (V.b false), (V.b false), (V.b false), (V.b false), (V.b false), (V.b false), (V.b false), (V.b false), (V.b false), (V.b false), (V.b false), (V.b false), (V.b false), (V.b false), (V.b false), (V.b false), (V.b false), (V.b false), (V.b false), (V.b false), (V.b false), (V.b false), (V.b false), (V.b false), (V.b false), (V.b false), (V.b false), (V.b false), (V.b false), (V.b false), (V.b false), (V.b false), (V.b false), (V.b false), (V.b false), (V.b false), (V.b false), (V.b false), (V.b false), (V.b false), (V.b false), (V.b false), (V.b false), (V.b false), (V.b false), (V.b false), (V.b false), (V.b false), (V.b false), (V.b false), (V.b false), (V.b false), (V.b false), (V.b false), (V.b false), (V.b false), (V.b false), (V.b false), (V.b false), (V.b false), (V.b false), (V.b false), (V.b false), (V.b false), (V.b false), (V.b false), (V.b false), (V.b false), (V.b false), (V.b false), (V.b false), (V.b false), (V.b false), (V.b false), (V.b false), (V.b false), (V.b false), (V.b false), (V.b false), (V.b false), (V.b false), (V.b false), (V.b false), (V.b false), (V.b false), (V.b false), (V.b false), (V.b false), (V.b false), (V.b false), (V.b false), (V.b false), (V.b false), (V.b false), (V.b false), (V.b false), (V.b false), (V.b false), (V.b false), (V.b false), (V.b false), (V.b false), (V.b false), (V.b false), (V.b false), (V.b false), (V.b false), (V.b false), (V.b false), (V.b false), (V.b false), (V.b false), (V.b false), (V.b false), (V.b false), (V.b false), (V.b false), (V.b false), (V.b false), (V.b false), (V.b false), (V.b false), (V.b false), (V.b false), (V.b false), (V.b false), (V.b false), (V.b false), (V.b false), (V.b false), (V.b false), (V.b false), (V.b false), (V.b false), (V.b false), (V.b false), (V.b false), (V.b false), (V.b false), (V.b false), (V.b false), (V.b false), (V.b false), (V.b false), (V.b false), (V.b false), (V.b false), (V.b false), (V.b false), (V.b false), (V.b false), (V.b false), (V.b false), (V.b false), (V.b false), (V.b false), (V.b false), (V.b false), (V.b false), (V.b false), (V.b false), (V.b false), (V.b false), (V.b false), (V.b false), (V.b false), (V.b false), (V.b false), (V.b false), (V.b false), (V.b false), (V.b false), (V.b false), (V.b false), (V.b false), (V.b false), (V.b false)] 114 false) fun i3 h4 =>
  kN t0 i3 0 (0 : Int) h4
theorem g68_p0_eq {R : Type} (c2 : Code) (t0 : ByteArray) (H : Heap) (K : Ex → Fr → Heap → Option R) : ev Tryd.prog E68 loopLim Tryd.f68.ntmps kp68 (.seq (codeAt [0] b68) (.seq (codeAt [1, 0, 0] b68) c2)) [(0, (V.s t0))] H K = g68_p0 R t0 H (fun t0 t2_0 t2_1 t4 H => ev Tryd.prog E68 loopLim Tryd.f68.ntmps kp68 c2 [(0, (V.s t0)), (2, (V.p (some (t2_0, t2_1)))), (4, (V.i .i64 t4))] H K) := by kernel_rfl
theorem g68_p0_lin {R S : Type} {k : S → Option R} {t0 : ByteArray} {H : Heap} {fkN : ByteArray → Nat → Nat → Int → Heap → Option R} {gkN : ByteArray → Nat → Nat → Int → Heap → Option S} (hkN : ∀ t0 t2_0 t2_1 t4 H, fkN t0 t2_0 t2_1 t4 H = (gkN t0 t2_0 t2_1 t4 H).bind k) : g68_p0 R t0 H fkN = (g68_p0 S t0 H gkN).bind k := by
  delta g68_p0; exact (
    alo_lin fun i3 h4 =>
    hkN _ _ _ _ _)
noncomputable def g68_p1 (R : Type) (t0 : ByteArray) (t2_0 : Nat) (t2_1 : Nat) (t4 : Int) (H : Heap) (kN : ByteArray → Nat → Nat → Int → Heap → Option R) (kE0 : Nat → Nat → Heap → Option R) (kR : Nat → Nat → Bool → Heap → Option R) : Option R :=
  sel (decide (t4 < ((t0.size : Nat) : Int))) (
    if 0 ≤ t4 ∧ t4 < ((t0.size : Nat) : Int) then (
      sel (decide ((btAt t0 t4) ≥ (128 : Int))) (
        ((H).lds t2_0 t2_1 256).bind fun vs5 =>
        if (vs5).length = 256 then (
          ((H).sts t2_0 t2_1 vs5).bind fun h6 =>
          kR t2_0 t2_1 false h6)
        else (
          none)) (
        if 0 ≤ (btAt t0 t4) ∧ (btAt t0 t4) < ((256 : Nat) : Int) then (
          ((H).st t2_0 (t2_1 + Int.toNat (btAt t0 t4) * 1) (V.b true)).bind fun h8 =>
          kN t0 t2_0 t2_1 (IntKind.wrap .i64 (t4 + (1 : Int))) h8)
        else (
          none)))
    else (
      none)) (
    kE0 t2_0 t2_1 H)
theorem g68_p1_eq {R : Type} (t0 : ByteArray) (t2_0 : Nat) (t2_1 : Nat) (t4 : Int) (H : Heap) (K : Ex → Fr → Heap → Option R) : ev Tryd.prog E68 loopLim Tryd.f68.ntmps kp68 c68_0 [(0, (V.s t0)), (2, (V.p (some (t2_0, t2_1)))), (4, (V.i .i64 t4))] H K = g68_p1 R t0 t2_0 t2_1 t4 H (fun t0 t2_0 t2_1 t4 H => K .normal [(0, (V.s t0)), (2, (V.p (some (t2_0, t2_1)))), (4, (V.i .i64 t4))] H) (fun t2_0 t2_1 H => K (.exit 0) [(2, (V.p (some (t2_0, t2_1))))] H) (fun t2_0 t2_1 t3 H => K .ret [(2, (V.p (some (t2_0, t2_1)))), (3, (V.b t3))] H) := by kernel_rfl
theorem g68_p1_lin {R S : Type} {k : S → Option R} {t0 : ByteArray} {t2_0 : Nat} {t2_1 : Nat} {t4 : Int} {H : Heap} {fkN : ByteArray → Nat → Nat → Int → Heap → Option R} {gkN : ByteArray → Nat → Nat → Int → Heap → Option S} {fkE0 : Nat → Nat → Heap → Option R} {gkE0 : Nat → Nat → Heap → Option S} {fkR : Nat → Nat → Bool → Heap → Option R} {gkR : Nat → Nat → Bool → Heap → Option S} (hkN : ∀ t0 t2_0 t2_1 t4 H, fkN t0 t2_0 t2_1 t4 H = (gkN t0 t2_0 t2_1 t4 H).bind k) (hkE0 : ∀ t2_0 t2_1 H, fkE0 t2_0 t2_1 H = (gkE0 t2_0 t2_1 H).bind k) (hkR : ∀ t2_0 t2_1 t3 H, fkR t2_0 t2_1 t3 H = (gkR t2_0 t2_1 t3 H).bind k) : g68_p1 R t0 t2_0 t2_1 t4 H fkN fkE0 fkR = (g68_p1 S t0 t2_0 t2_1 t4 H gkN gkE0 gkR).bind k := by
  delta g68_p1; exact (
    sl_lin (
      il (
        sl_lin (
          bl fun vs5 =>
          il (
            bl fun h6 =>
            hkR _ _ _ _) (
            rfl)) (
          il (
            bl fun h8 =>
            hkN _ _ _ _ _) (
            rfl))) (
        rfl)) (
      hkE0 _ _ _))
abbrev g68_p2_S := ByteArray × Nat × Nat × Int
abbrev g68_p2_O := Sum (Nat × Nat) (Nat × Nat × Bool)
def g68_p2_es (s : g68_p2_S) : Fr := [(0, (V.s s.1)), (2, (V.p (some (s.2.1, s.2.2.1)))), (4, (V.i .i64 s.2.2.2))]
def g68_p2_er : g68_p2_O → Ex × Fr
  | (.inl r) => ((.exit 0), [(2, (V.p (some (r.1, r.2))))])
  | (.inr r) => (.ret, [(2, (V.p (some (r.1, r.2.1)))), (3, (V.b r.2.2))])
noncomputable def g68_p2_b (s : g68_p2_S) (H : Heap) : Option (Rd g68_p2_S g68_p2_O × Heap) :=
  g68_p1 _ s.1 s.2.1 s.2.2.1 s.2.2.2 H (fun t0 t2_0 t2_1 t4 H => some (.go (t0, t2_0, t2_1, t4), H)) (fun t2_0 t2_1 H => some (.up (.inl (t2_0, t2_1)), H)) (fun t2_0 t2_1 t3 H => some (.up (.inr (t2_0, t2_1, t3)), H))
noncomputable def g68_p2 (R : Type) (t0 : ByteArray) (t2_0 : Nat) (t2_1 : Nat) (t4 : Int) (H : Heap) (kE0 : Nat → Nat → Heap → Option R) (kR : Nat → Nat → Bool → Heap → Option R) : Option R :=
  (tlim (g68_p2_b) (t0, t2_0, t2_1, t4) H).bind fun p => cas p.1 (fun r => kE0 r.1 r.2 p.2) (fun r0 => kR r0.1 r0.2.1 r0.2.2 p.2)
theorem g68_p2_lin {R S : Type} {k : S → Option R} {t0 : ByteArray} {t2_0 : Nat} {t2_1 : Nat} {t4 : Int} {H : Heap} {fkE0 : Nat → Nat → Heap → Option R} {gkE0 : Nat → Nat → Heap → Option S} {fkR : Nat → Nat → Bool → Heap → Option R} {gkR : Nat → Nat → Bool → Heap → Option S} (hkE0 : ∀ t2_0 t2_1 H, fkE0 t2_0 t2_1 H = (gkE0 t2_0 t2_1 H).bind k) (hkR : ∀ t2_0 t2_1 t3 H, fkR t2_0 t2_1 t3 H = (gkR t2_0 t2_1 t3 H).bind k) : g68_p2 R t0 t2_0 t2_1 t4 H fkE0 fkR = (g68_p2 S t0 t2_0 t2_1 t4 H gkE0 gkR).bind k := by
  exact bl fun p => cas_lin (fun _ => hkE0 _ _ _) (fun _ => hkR _ _ _ _)
theorem g68_p2_eq {R : Type} (t0 : ByteArray) (t2_0 : Nat) (t2_1 : Nat) (t4 : Int) (H : Heap) (K : Ex → Fr → Heap → Option R) : ev Tryd.prog E68 loopLim Tryd.f68.ntmps kp68 c68_1 [(0, (V.s t0)), (2, (V.p (some (t2_0, t2_1)))), (4, (V.i .i64 t4))] H K = g68_p2 R t0 t2_0 t2_1 t4 H (fun t2_0 t2_1 H => K (.exit 0) [(2, (V.p (some (t2_0, t2_1))))] H) (fun t2_0 t2_1 t3 H => K .ret [(2, (V.p (some (t2_0, t2_1)))), (3, (V.b t3))] H) := by
  show ev Tryd.prog E68 loopLim Tryd.f68.ntmps kp68 (.loop c68_0) [(0, (V.s t0)), (2, (V.p (some (t2_0, t2_1)))), (4, (V.i .i64 t4))] H K = _
  delta g68_p2
  refine (ev_tlim (b := g68_p2_b) (es := g68_p2_es) (er := g68_p2_er) (by rintro (r | r) <;> exact nofun) (fun s H => ?_) (t0, t2_0, t2_1, t4) H K).trans (bc fun p => by rcases p with ⟨(r | r), H⟩ <;> rfl)
  exact (g68_p1_eq s.1 s.2.1 s.2.2.1 s.2.2.2 H ret3).trans (g68_p1_lin (fun _ _ _ _ _ => rfl) (fun _ _ _ => rfl) (fun _ _ _ _ => rfl))
noncomputable def g68_p3 (R : Type) (t0 : ByteArray) (t2_0 : Nat) (t2_1 : Nat) (t4 : Int) (H : Heap) (kN : Nat → Nat → Heap → Option R) (kR : Nat → Nat → Bool → Heap → Option R) : Option R :=
  g68_p2 R t0 t2_0 t2_1 t4 H (fun t2_0 t2_1 H => kN t2_0 t2_1 H) (fun t2_0 t2_1 t3 H => kR t2_0 t2_1 t3 H)
theorem g68_p3_lin {R S : Type} {k : S → Option R} {t0 : ByteArray} {t2_0 : Nat} {t2_1 : Nat} {t4 : Int} {H : Heap} {fkN : Nat → Nat → Heap → Option R} {gkN : Nat → Nat → Heap → Option S} {fkR : Nat → Nat → Bool → Heap → Option R} {gkR : Nat → Nat → Bool → Heap → Option S} (hkN : ∀ t2_0 t2_1 H, fkN t2_0 t2_1 H = (gkN t2_0 t2_1 H).bind k) (hkR : ∀ t2_0 t2_1 t3 H, fkR t2_0 t2_1 t3 H = (gkR t2_0 t2_1 t3 H).bind k) : g68_p3 R t0 t2_0 t2_1 t4 H fkN fkR = (g68_p3 S t0 t2_0 t2_1 t4 H gkN gkR).bind k := by
  exact g68_p2_lin (fun _ _ _ => hkN _ _ _) (fun _ _ _ _ => hkR _ _ _ _)
theorem g68_p3_eq {R : Type} (t0 : ByteArray) (t2_0 : Nat) (t2_1 : Nat) (t4 : Int) (H : Heap) (K : Ex → Fr → Heap → Option R) : ev Tryd.prog E68 loopLim Tryd.f68.ntmps kp68 c68_2 [(0, (V.s t0)), (2, (V.p (some (t2_0, t2_1)))), (4, (V.i .i64 t4))] H K = g68_p3 R t0 t2_0 t2_1 t4 H (fun t2_0 t2_1 H => K .normal [(2, (V.p (some (t2_0, t2_1))))] H) (fun t2_0 t2_1 t3 H => K .ret [(2, (V.p (some (t2_0, t2_1)))), (3, (V.b t3))] H) := by
  show ev Tryd.prog E68 loopLim Tryd.f68.ntmps kp68 (.block 0 c68_1) [(0, (V.s t0)), (2, (V.p (some (t2_0, t2_1)))), (4, (V.i .i64 t4))] H K = _
  rw [ev_block]
  delta g68_p3
  exact (g68_p2_eq t0 t2_0 t2_1 t4 H (kBlock kp68 0 K))
noncomputable def g68_p4 (R : Type) (t2_0 : Nat) (t2_1 : Nat) (H : Heap) (kR : Nat → Nat → Bool → Heap → Option R) : Option R :=
  ((H).lds t2_0 t2_1 256).bind fun vs9 =>
  if (vs9).length = 256 then (
    ((H).sts t2_0 t2_1 vs9).bind fun h10 =>
    kR t2_0 t2_1 true h10)
  else (
    none)
theorem g68_p4_eq {R : Type} (t2_0 : Nat) (t2_1 : Nat) (H : Heap) (K : Ex → Fr → Heap → Option R) : ev Tryd.prog E68 loopLim Tryd.f68.ntmps kp68 c68_3 [(2, (V.p (some (t2_0, t2_1))))] H K = g68_p4 R t2_0 t2_1 H (fun t2_0 t2_1 t3 H => K .ret [(2, (V.p (some (t2_0, t2_1)))), (3, (V.b t3))] H) := by kernel_rfl
theorem g68_p4_lin {R S : Type} {k : S → Option R} {t2_0 : Nat} {t2_1 : Nat} {H : Heap} {fkR : Nat → Nat → Bool → Heap → Option R} {gkR : Nat → Nat → Bool → Heap → Option S} (hkR : ∀ t2_0 t2_1 t3 H, fkR t2_0 t2_1 t3 H = (gkR t2_0 t2_1 t3 H).bind k) : g68_p4 R t2_0 t2_1 H fkR = (g68_p4 S t2_0 t2_1 H gkR).bind k := by
  delta g68_p4; exact (
    bl fun vs9 =>
    il (
      bl fun h10 =>
      hkR _ _ _ _) (
      rfl))
noncomputable def g68_p5 (R : Type) (t0 : ByteArray) (t2_0 : Nat) (t2_1 : Nat) (t4 : Int) (H : Heap) (kR : Nat → Nat → Bool → Heap → Option R) : Option R :=
  g68_p3 R t0 t2_0 t2_1 t4 H (fun t2_0 t2_1 H => g68_p4 R t2_0 t2_1 H (fun t2_0 t2_1 t3 H => kR t2_0 t2_1 t3 H)) (fun t2_0 t2_1 t3 H => kR t2_0 t2_1 t3 H)
theorem g68_p5_lin {R S : Type} {k : S → Option R} {t0 : ByteArray} {t2_0 : Nat} {t2_1 : Nat} {t4 : Int} {H : Heap} {fkR : Nat → Nat → Bool → Heap → Option R} {gkR : Nat → Nat → Bool → Heap → Option S} (hkR : ∀ t2_0 t2_1 t3 H, fkR t2_0 t2_1 t3 H = (gkR t2_0 t2_1 t3 H).bind k) : g68_p5 R t0 t2_0 t2_1 t4 H fkR = (g68_p5 S t0 t2_0 t2_1 t4 H gkR).bind k := by
  exact g68_p3_lin (fun _ _ _ => g68_p4_lin (fun _ _ _ _ => hkR _ _ _ _)) (fun _ _ _ _ => hkR _ _ _ _)
theorem g68_p5_eq {R : Type} (t0 : ByteArray) (t2_0 : Nat) (t2_1 : Nat) (t4 : Int) (H : Heap) (K : Ex → Fr → Heap → Option R) : ev Tryd.prog E68 loopLim Tryd.f68.ntmps kp68 c68_4 [(0, (V.s t0)), (2, (V.p (some (t2_0, t2_1)))), (4, (V.i .i64 t4))] H K = g68_p5 R t0 t2_0 t2_1 t4 H (fun t2_0 t2_1 t3 H => K .ret [(2, (V.p (some (t2_0, t2_1)))), (3, (V.b t3))] H) := by
  show ev Tryd.prog E68 loopLim Tryd.f68.ntmps kp68 (.seq c68_2 c68_3) [(0, (V.s t0)), (2, (V.p (some (t2_0, t2_1)))), (4, (V.i .i64 t4))] H K = _
  rw [ev_seq]
  delta g68_p5
  exact (g68_p3_eq t0 t2_0 t2_1 t4 H (kSeq (fun fr H => ev Tryd.prog E68 loopLim Tryd.f68.ntmps kp68 c68_3 fr H K) K)).trans (congr (congrArg (g68_p3 R t0 t2_0 t2_1 t4 H) (funext fun t2_0 => funext fun t2_1 => funext fun H => (kSeq_n _ _ _ _).trans (g68_p4_eq t2_0 t2_1 H K))) rfl)
noncomputable def g68_p6 (R : Type) (t0 : ByteArray) (H : Heap) (kR : Nat → Nat → Bool → Heap → Option R) : Option R :=
  g68_p0 R t0 H (fun t0 t2_0 t2_1 t4 H => g68_p5 R t0 t2_0 t2_1 t4 H (fun t2_0 t2_1 t3 H => kR t2_0 t2_1 t3 H))
theorem g68_p6_lin {R S : Type} {k : S → Option R} {t0 : ByteArray} {H : Heap} {fkR : Nat → Nat → Bool → Heap → Option R} {gkR : Nat → Nat → Bool → Heap → Option S} (hkR : ∀ t2_0 t2_1 t3 H, fkR t2_0 t2_1 t3 H = (gkR t2_0 t2_1 t3 H).bind k) : g68_p6 R t0 H fkR = (g68_p6 S t0 H gkR).bind k := by
  exact g68_p0_lin (fun _ _ _ _ _ => g68_p5_lin (fun _ _ _ _ => hkR _ _ _ _))
theorem g68_p6_eq {R : Type} (t0 : ByteArray) (H : Heap) (K : Ex → Fr → Heap → Option R) : ev Tryd.prog E68 loopLim Tryd.f68.ntmps kp68 c68_5 [(0, (V.s t0))] H K = g68_p6 R t0 H (fun t2_0 t2_1 t3 H => K .ret [(2, (V.p (some (t2_0, t2_1)))), (3, (V.b t3))] H) := by
  show ev Tryd.prog E68 loopLim Tryd.f68.ntmps kp68 (.seq (codeAt [0] b68) (.seq (codeAt [1, 0, 0] b68) c68_4)) [(0, (V.s t0))] H K = _
  delta g68_p6
  exact (g68_p0_eq _ t0 H K).trans (congrArg (g68_p0 R t0 H) (funext fun t0 => funext fun t2_0 => funext fun t2_1 => funext fun t4 => funext fun H => g68_p5_eq t0 t2_0 t2_1 t4 H K))
noncomputable def g68_r : T68 := fun R t0 H K =>
  g68_p6 R t0 H (fun t2_0 t2_1 t3 H =>
    ((H).lds t2_0 t2_1 256).bind fun vs11 =>
    K vs11 t3 H)
theorem g68_r_lin : Lin68 (g68_r) := by
  constructor
  intro R S k t0 H f g h
  exact g68_p6_lin (fun t2_0 t2_1 t3 H =>
    bl fun vs11 =>
    h _ _ _)
theorem g68_fn {R : Type} (t0 : ByteArray) (H : Heap) (K : V → Heap → Option R) : evFn Tryd.prog E68 loopLim Tryd.f68 kp68 [(V.s t0)] H K = g68_r R t0 H (fun r0 r1 H => K (V.tup [(V.agg r0), (V.b r1)]) H) := by
  have h0 : ∀ (t2_0 : Nat) (t2_1 : Nat) (t3 : Bool) (H : Heap), kFn Tryd.prog Tryd.f68.results.toList K .ret [(2, (V.p (some (t2_0, t2_1)))), (3, (V.b t3))] H =
      ((H).lds t2_0 t2_1 256).bind fun vs11 =>
      K (V.tup [(V.agg vs11), (V.b t3)]) H := by intros; kernel_rfl
  have e0 := evFn_code2 (P := Tryd.prog) (c := c68_5) (E := E68) (lr := loopLim) (kp := kp68) (fn := Tryd.f68) (args := [(V.s t0)]) H K (by kernel_rfl) (Nat.le_of_ble_eq_true (by kernel_rfl)) (by kernel_rfl)
  have e1 : ev Tryd.prog E68 loopLim Tryd.f68.ntmps kp68 c68_5 (argFr 0 [(V.s t0)]) H (kFn Tryd.prog Tryd.f68.results.toList K) = ev Tryd.prog E68 loopLim Tryd.f68.ntmps kp68 c68_5 [(0, (V.s t0))] H (kFn Tryd.prog Tryd.f68.results.toList K) := by kernel_rfl
  refine (e0.trans e1).trans ?_
  delta g68_r
  exact (g68_p6_eq t0 H (kFn Tryd.prog Tryd.f68.results.toList K)).trans (congrArg (g68_p6 R t0 H) (funext fun t2_0 => funext fun t2_1 => funext fun t3 => funext fun H => h0 t2_0 t2_1 t3 H))
theorem g68_ok : FunOK Tryd.prog 68 (w68 (g68_r)) := by
  refine (runF_ok (E68_good) mixed lim_ok Tryd.func68 (by kernel_rfl) kp68).of_le fun R args H K r hk => ?_
  unfold w68 at hk
  split at hk
  · exact (g68_fn _ H K).trans hk
  · cases hk
def kp87 : Nat → Option (List Nat) := kpOf [(0, [0, 1]), (1, [4]), (300000, [4])]
def E87 : FEnv := []
theorem E87_good : EnvGood Tryd.prog E87 := (EnvGood.nil _)
theorem E87_lin : EnvLin E87 := fun g F h => by cases h
noncomputable def b87 : Code := Tryd.f87.body.getD .skip
noncomputable def c87_0 : Code := (.seq (codeAt [0] b87) (.seq (codeAt [1, 0] b87) .ret))
noncomputable def g87_p0 (R : Type) (t0 : Option (Nat × Nat)) (t1 : Int) (H : Heap) (kR : Bool → Heap → Option R) : Option R :=
  (t0).bind fun q1 =>
  if 0 ≤ t1 ∧ t1 < ((256 : Nat) : Int) then (
    ((H).ldB q1.1 (q1.2 + Int.toNat t1 * 1)).bind fun x2 =>
    kR x2 H)
  else (
    none)
theorem g87_p0_eq {R : Type} (t0 : Option (Nat × Nat)) (t1 : Int) (H : Heap) (K : Ex → Fr → Heap → Option R) : ev Tryd.prog E87 loopLim Tryd.f87.ntmps kp87 c87_0 [(0, (V.p t0)), (1, (V.i .u8 t1))] H K = g87_p0 R t0 t1 H (fun t4 H => K .ret [(4, (V.b t4))] H) := by kernel_rfl
theorem g87_p0_lin {R S : Type} {k : S → Option R} {t0 : Option (Nat × Nat)} {t1 : Int} {H : Heap} {fkR : Bool → Heap → Option R} {gkR : Bool → Heap → Option S} (hkR : ∀ t4 H, fkR t4 H = (gkR t4 H).bind k) : g87_p0 R t0 t1 H fkR = (g87_p0 S t0 t1 H gkR).bind k := by
  delta g87_p0; exact (
    bl fun q1 =>
    il (
      bl fun x2 =>
      hkR _ _) (
      rfl))
noncomputable def g87_r : T87 := fun R t0 t1 H K =>
  g87_p0 R t0 t1 H (fun t4 H =>
    K t4 H)
theorem g87_r_lin : Lin87 (g87_r) := by
  constructor
  intro R S k t0 t1 H f g h
  exact g87_p0_lin (fun t4 H =>
    h _ _)
theorem g87_fn {R : Type} (t0 : Option (Nat × Nat)) (t1 : Int) (H : Heap) (K : V → Heap → Option R) : evFn Tryd.prog E87 loopLim Tryd.f87 kp87 [(V.p t0), (V.i .u8 t1)] H K = g87_r R t0 t1 H (fun r0 H => K (V.b r0) H) := by
  have h0 : ∀ (t4 : Bool) (H : Heap), kFn Tryd.prog Tryd.f87.results.toList K .ret [(4, (V.b t4))] H =
      K (V.b t4) H := by intros; kernel_rfl
  have e0 := evFn_code2 (P := Tryd.prog) (c := c87_0) (E := E87) (lr := loopLim) (kp := kp87) (fn := Tryd.f87) (args := [(V.p t0), (V.i .u8 t1)]) H K (by kernel_rfl) (Nat.le_of_ble_eq_true (by kernel_rfl)) (by kernel_rfl)
  have e1 : ev Tryd.prog E87 loopLim Tryd.f87.ntmps kp87 c87_0 (argFr 0 [(V.p t0), (V.i .u8 t1)]) H (kFn Tryd.prog Tryd.f87.results.toList K) = ev Tryd.prog E87 loopLim Tryd.f87.ntmps kp87 c87_0 [(0, (V.p t0)), (1, (V.i .u8 t1))] H (kFn Tryd.prog Tryd.f87.results.toList K) := by kernel_rfl
  refine (e0.trans e1).trans ?_
  delta g87_r
  exact (g87_p0_eq t0 t1 H (kFn Tryd.prog Tryd.f87.results.toList K)).trans (congrArg (g87_p0 R t0 t1 H) (funext fun t4 => funext fun H => h0 t4 H))
theorem g87_ok : FunOK Tryd.prog 87 (w87 (g87_r)) := by
  refine (runF_ok (E87_good) mixed lim_ok Tryd.func87 (by kernel_rfl) kp87).of_le fun R args H K r hk => ?_
  unfold w87 at hk
  split at hk
  · exact (g87_fn _ _ H K).trans hk
  · cases hk
def kp70 : Nat → Option (List Nat) := kpOf [(0, [0, 1]), (1, [0, 1, 7]), (2, [0, 1, 15]), (3, [0, 1]), (4, [4]), (100000, [0]), (100001, [0, 1]), (200000, [0, 1]), (200001, [0, 1]), (300000, [4]), (400007, [0, 1]), (400015, [0, 1])]
def E70 (a87 : T87) : FEnv := [(87, w87 a87)]
theorem E70_good {a87 : T87} (oa87 : FunOK Tryd.prog 87 (w87 a87)) (la87 : Lin87 a87) : EnvGood Tryd.prog (E70 a87) := ((EnvGood.nil _).cons oa87 (w87_lin la87))
theorem E70_lin {a87 : T87} (la87 : Lin87 a87) : EnvLin (E70 a87) := by
  intro g F h
  simp only [E70, List.mem_cons, List.not_mem_nil, or_false] at h
  rcases h with h
  · cases h; exact w87_lin la87
noncomputable def b70 : Code := Tryd.f70.body.getD .skip
noncomputable def c70_0 : Code := (.seq (codeAt [1, 0, 0, 0, 0, 0] b70) (.seq (.cond (.tmp 7) .skip (.exit 0)) (.block 1 (.seq (codeAt [1, 0, 0, 0, 1, 0, 0, 0] b70) (.seq (.cond (.tmp 15) (.exit 0) .skip) (codeAt [1, 0, 0, 0, 1, 0, 1] b70))))))
noncomputable def c70_1 : Code := (.loop c70_0)
noncomputable def c70_2 : Code := (.block 0 c70_1)
noncomputable def c70_3 : Code := (.seq (codeAt [1, 1, 0] b70) .ret)
noncomputable def c70_4 : Code := (.seq c70_2 c70_3)
noncomputable def c70_5 : Code := (.seq (codeAt [0] b70) c70_4)
noncomputable def g70_p0 (a87 : T87) (R : Type) (t0 : ByteArray) (t1 : Option (Nat × Nat)) (H : Heap) (kN : ByteArray → Option (Nat × Nat) → Heap → Option R) : Option R :=
  kN t0 t1 H
theorem g70_p0_eq (a87 : T87) {R : Type} (c2 : Code) (t0 : ByteArray) (t1 : Option (Nat × Nat)) (H : Heap) (K : Ex → Fr → Heap → Option R) : ev Tryd.prog (E70 a87) loopLim Tryd.f70.ntmps kp70 (.seq (codeAt [0] b70) c2) [(0, (V.s t0)), (1, (V.p t1))] H K = g70_p0 a87 R t0 t1 H (fun t0 t1 H => ev Tryd.prog (E70 a87) loopLim Tryd.f70.ntmps kp70 c2 [(0, (V.s t0)), (1, (V.p t1))] H K) := by kernel_rfl
theorem g70_p0_lin {a87 : T87} (la87 : Lin87 a87) {R S : Type} {k : S → Option R} {t0 : ByteArray} {t1 : Option (Nat × Nat)} {H : Heap} {fkN : ByteArray → Option (Nat × Nat) → Heap → Option R} {gkN : ByteArray → Option (Nat × Nat) → Heap → Option S} (hkN : ∀ t0 t1 H, fkN t0 t1 H = (gkN t0 t1 H).bind k) : g70_p0 a87 R t0 t1 H fkN = (g70_p0 a87 S t0 t1 H gkN).bind k := by
  delta g70_p0; exact (
    hkN _ _ _)
noncomputable def g70_p1 (a87 : T87) (R : Type) (t0 : ByteArray) (t1 : Option (Nat × Nat)) (H : Heap) (kN : ByteArray → Option (Nat × Nat) → Heap → Option R) (kE0 : ByteArray → Heap → Option R) : Option R :=
  sel (decide (((t0.size : Nat) : Int) > (0 : Int))) (
    if 0 ≤ (IntKind.wrap .i64 (((t0.size : Nat) : Int) - (1 : Int))) ∧ (IntKind.wrap .i64 (((t0.size : Nat) : Int) - (1 : Int))) < ((t0.size : Nat) : Int) then (
      a87 R t1 (btAt t0 (IntKind.wrap .i64 (((t0.size : Nat) : Int) - (1 : Int)))) H fun x1 h2 =>
      sel (!x1) (
        kE0 t0 h2) (
        if 0 ≤ (0 : Int) ∧ (0 : Int) ≤ (IntKind.wrap .i64 (((t0.size : Nat) : Int) - (1 : Int))) ∧ (IntKind.wrap .i64 (((t0.size : Nat) : Int) - (1 : Int))) ≤ ((t0.size : Nat) : Int) then (
          kN (subS t0 (0 : Int) (IntKind.wrap .i64 (((t0.size : Nat) : Int) - (1 : Int)))) t1 h2)
        else (
          none)))
    else (
      none)) (
    kE0 t0 H)
theorem g70_p1_eq (a87 : T87) (la87 : Lin87 a87) {R : Type} (t0 : ByteArray) (t1 : Option (Nat × Nat)) (H : Heap) (K : Ex → Fr → Heap → Option R) : ev Tryd.prog (E70 a87) loopLim Tryd.f70.ntmps kp70 c70_0 [(0, (V.s t0)), (1, (V.p t1))] H K = g70_p1 a87 R t0 t1 H (fun t0 t1 H => K .normal [(0, (V.s t0)), (1, (V.p t1))] H) (fun t0 H => K (.exit 0) [(0, (V.s t0))] H) := by kernel_rfl
theorem g70_p1_lin {a87 : T87} (la87 : Lin87 a87) {R S : Type} {k : S → Option R} {t0 : ByteArray} {t1 : Option (Nat × Nat)} {H : Heap} {fkN : ByteArray → Option (Nat × Nat) → Heap → Option R} {gkN : ByteArray → Option (Nat × Nat) → Heap → Option S} {fkE0 : ByteArray → Heap → Option R} {gkE0 : ByteArray → Heap → Option S} (hkN : ∀ t0 t1 H, fkN t0 t1 H = (gkN t0 t1 H).bind k) (hkE0 : ∀ t0 H, fkE0 t0 H = (gkE0 t0 H).bind k) : g70_p1 a87 R t0 t1 H fkN fkE0 = (g70_p1 a87 S t0 t1 H gkN gkE0).bind k := by
  delta g70_p1; exact (
    sl_lin (
      il (
        la87.l fun x1 h2 =>
        sl_lin (
          hkE0 _ _) (
          il (
            hkN _ _ _) (
            rfl))) (
        rfl)) (
      hkE0 _ _))
abbrev g70_p2_S := ByteArray × (Option (Nat × Nat))
abbrev g70_p2_O := ByteArray
def g70_p2_es (s : g70_p2_S) : Fr := [(0, (V.s s.1)), (1, (V.p s.2))]
def g70_p2_er (r : g70_p2_O) : Ex × Fr := ((.exit 0), [(0, (V.s r))])
noncomputable def g70_p2_b (a87 : T87) (s : g70_p2_S) (H : Heap) : Option (Rd g70_p2_S g70_p2_O × Heap) :=
  g70_p1 a87 _ s.1 s.2 H (fun t0 t1 H => some (.go (t0, t1), H)) (fun t0 H => some (.up t0, H))
noncomputable def g70_p2 (a87 : T87) (R : Type) (t0 : ByteArray) (t1 : Option (Nat × Nat)) (H : Heap) (kE0 : ByteArray → Heap → Option R) : Option R :=
  (tlim (g70_p2_b a87) (t0, t1) H).bind fun p => kE0 p.1 p.2
theorem g70_p2_lin {a87 : T87} (la87 : Lin87 a87) {R S : Type} {k : S → Option R} {t0 : ByteArray} {t1 : Option (Nat × Nat)} {H : Heap} {fkE0 : ByteArray → Heap → Option R} {gkE0 : ByteArray → Heap → Option S} (hkE0 : ∀ t0 H, fkE0 t0 H = (gkE0 t0 H).bind k) : g70_p2 a87 R t0 t1 H fkE0 = (g70_p2 a87 S t0 t1 H gkE0).bind k := by
  exact bl fun p => hkE0 _ _
theorem g70_p2_eq (a87 : T87) (la87 : Lin87 a87) {R : Type} (t0 : ByteArray) (t1 : Option (Nat × Nat)) (H : Heap) (K : Ex → Fr → Heap → Option R) : ev Tryd.prog (E70 a87) loopLim Tryd.f70.ntmps kp70 c70_1 [(0, (V.s t0)), (1, (V.p t1))] H K = g70_p2 a87 R t0 t1 H (fun t0 H => K (.exit 0) [(0, (V.s t0))] H) := by
  show ev Tryd.prog (E70 a87) loopLim Tryd.f70.ntmps kp70 (.loop c70_0) [(0, (V.s t0)), (1, (V.p t1))] H K = _
  delta g70_p2
  refine (ev_tlim (b := g70_p2_b a87) (es := g70_p2_es) (er := g70_p2_er) (by intro r; exact nofun) (fun s H => ?_) (t0, t1) H K).trans (bc fun p => rfl)
  exact (g70_p1_eq a87 la87 s.1 s.2 H ret3).trans (g70_p1_lin la87 (fun _ _ _ => rfl) (fun _ _ => rfl))
noncomputable def g70_p3 (a87 : T87) (R : Type) (t0 : ByteArray) (t1 : Option (Nat × Nat)) (H : Heap) (kN : ByteArray → Heap → Option R) : Option R :=
  g70_p2 a87 R t0 t1 H (fun t0 H => kN t0 H)
theorem g70_p3_lin {a87 : T87} (la87 : Lin87 a87) {R S : Type} {k : S → Option R} {t0 : ByteArray} {t1 : Option (Nat × Nat)} {H : Heap} {fkN : ByteArray → Heap → Option R} {gkN : ByteArray → Heap → Option S} (hkN : ∀ t0 H, fkN t0 H = (gkN t0 H).bind k) : g70_p3 a87 R t0 t1 H fkN = (g70_p3 a87 S t0 t1 H gkN).bind k := by
  exact g70_p2_lin la87 (fun _ _ => hkN _ _)
theorem g70_p3_eq (a87 : T87) (la87 : Lin87 a87) {R : Type} (t0 : ByteArray) (t1 : Option (Nat × Nat)) (H : Heap) (K : Ex → Fr → Heap → Option R) : ev Tryd.prog (E70 a87) loopLim Tryd.f70.ntmps kp70 c70_2 [(0, (V.s t0)), (1, (V.p t1))] H K = g70_p3 a87 R t0 t1 H (fun t0 H => K .normal [(0, (V.s t0))] H) := by
  show ev Tryd.prog (E70 a87) loopLim Tryd.f70.ntmps kp70 (.block 0 c70_1) [(0, (V.s t0)), (1, (V.p t1))] H K = _
  rw [ev_block]
  delta g70_p3
  exact (g70_p2_eq a87 la87 t0 t1 H (kBlock kp70 0 K))
noncomputable def g70_p4 (a87 : T87) (R : Type) (t0 : ByteArray) (H : Heap) (kR : ByteArray → Heap → Option R) : Option R :=
  kR t0 H
theorem g70_p4_eq (a87 : T87) (la87 : Lin87 a87) {R : Type} (t0 : ByteArray) (H : Heap) (K : Ex → Fr → Heap → Option R) : ev Tryd.prog (E70 a87) loopLim Tryd.f70.ntmps kp70 c70_3 [(0, (V.s t0))] H K = g70_p4 a87 R t0 H (fun t4 H => K .ret [(4, (V.s t4))] H) := by kernel_rfl
theorem g70_p4_lin {a87 : T87} (la87 : Lin87 a87) {R S : Type} {k : S → Option R} {t0 : ByteArray} {H : Heap} {fkR : ByteArray → Heap → Option R} {gkR : ByteArray → Heap → Option S} (hkR : ∀ t4 H, fkR t4 H = (gkR t4 H).bind k) : g70_p4 a87 R t0 H fkR = (g70_p4 a87 S t0 H gkR).bind k := by
  delta g70_p4; exact (
    hkR _ _)
noncomputable def g70_p5 (a87 : T87) (R : Type) (t0 : ByteArray) (t1 : Option (Nat × Nat)) (H : Heap) (kR : ByteArray → Heap → Option R) : Option R :=
  g70_p3 a87 R t0 t1 H (fun t0 H => g70_p4 a87 R t0 H (fun t4 H => kR t4 H))
theorem g70_p5_lin {a87 : T87} (la87 : Lin87 a87) {R S : Type} {k : S → Option R} {t0 : ByteArray} {t1 : Option (Nat × Nat)} {H : Heap} {fkR : ByteArray → Heap → Option R} {gkR : ByteArray → Heap → Option S} (hkR : ∀ t4 H, fkR t4 H = (gkR t4 H).bind k) : g70_p5 a87 R t0 t1 H fkR = (g70_p5 a87 S t0 t1 H gkR).bind k := by
  exact g70_p3_lin la87 (fun _ _ => g70_p4_lin la87 (fun _ _ => hkR _ _))
theorem g70_p5_eq (a87 : T87) (la87 : Lin87 a87) {R : Type} (t0 : ByteArray) (t1 : Option (Nat × Nat)) (H : Heap) (K : Ex → Fr → Heap → Option R) : ev Tryd.prog (E70 a87) loopLim Tryd.f70.ntmps kp70 c70_4 [(0, (V.s t0)), (1, (V.p t1))] H K = g70_p5 a87 R t0 t1 H (fun t4 H => K .ret [(4, (V.s t4))] H) := by
  show ev Tryd.prog (E70 a87) loopLim Tryd.f70.ntmps kp70 (.seq c70_2 c70_3) [(0, (V.s t0)), (1, (V.p t1))] H K = _
  rw [ev_seq]
  delta g70_p5
  exact (g70_p3_eq a87 la87 t0 t1 H (kSeq (fun fr H => ev Tryd.prog (E70 a87) loopLim Tryd.f70.ntmps kp70 c70_3 fr H K) K)).trans (congrArg (g70_p3 a87 R t0 t1 H) (funext fun t0 => funext fun H => (kSeq_n _ _ _ _).trans (g70_p4_eq a87 la87 t0 H K)))
noncomputable def g70_p6 (a87 : T87) (R : Type) (t0 : ByteArray) (t1 : Option (Nat × Nat)) (H : Heap) (kR : ByteArray → Heap → Option R) : Option R :=
  g70_p0 a87 R t0 t1 H (fun t0 t1 H => g70_p5 a87 R t0 t1 H (fun t4 H => kR t4 H))
theorem g70_p6_lin {a87 : T87} (la87 : Lin87 a87) {R S : Type} {k : S → Option R} {t0 : ByteArray} {t1 : Option (Nat × Nat)} {H : Heap} {fkR : ByteArray → Heap → Option R} {gkR : ByteArray → Heap → Option S} (hkR : ∀ t4 H, fkR t4 H = (gkR t4 H).bind k) : g70_p6 a87 R t0 t1 H fkR = (g70_p6 a87 S t0 t1 H gkR).bind k := by
  exact g70_p0_lin la87 (fun _ _ _ => g70_p5_lin la87 (fun _ _ => hkR _ _))
theorem g70_p6_eq (a87 : T87) (la87 : Lin87 a87) {R : Type} (t0 : ByteArray) (t1 : Option (Nat × Nat)) (H : Heap) (K : Ex → Fr → Heap → Option R) : ev Tryd.prog (E70 a87) loopLim Tryd.f70.ntmps kp70 c70_5 [(0, (V.s t0)), (1, (V.p t1))] H K = g70_p6 a87 R t0 t1 H (fun t4 H => K .ret [(4, (V.s t4))] H) := by
  show ev Tryd.prog (E70 a87) loopLim Tryd.f70.ntmps kp70 (.seq (codeAt [0] b70) c70_4) [(0, (V.s t0)), (1, (V.p t1))] H K = _
  delta g70_p6
  exact (g70_p0_eq a87 _ t0 t1 H K).trans (congrArg (g70_p0 a87 R t0 t1 H) (funext fun t0 => funext fun t1 => funext fun H => g70_p5_eq a87 la87 t0 t1 H K))
noncomputable def g70_r (a87 : T87) : T70 := fun R t0 t1 H K =>
  g70_p6 a87 R t0 t1 H (fun t4 H =>
    K t4 H)
theorem g70_r_lin {a87 : T87} (la87 : Lin87 a87) : Lin70 (g70_r a87) := by
  constructor
  intro R S k t0 t1 H f g h
  exact g70_p6_lin la87 (fun t4 H =>
    h _ _)
theorem g70_fn (a87 : T87) (la87 : Lin87 a87) {R : Type} (t0 : ByteArray) (t1 : Option (Nat × Nat)) (H : Heap) (K : V → Heap → Option R) : evFn Tryd.prog (E70 a87) loopLim Tryd.f70 kp70 [(V.s t0), (V.p t1)] H K = g70_r a87 R t0 t1 H (fun r0 H => K (V.s r0) H) := by
  have h0 : ∀ (t4 : ByteArray) (H : Heap), kFn Tryd.prog Tryd.f70.results.toList K .ret [(4, (V.s t4))] H =
      K (V.s t4) H := by intros; kernel_rfl
  have e0 := evFn_code2 (P := Tryd.prog) (c := c70_5) (E := (E70 a87)) (lr := loopLim) (kp := kp70) (fn := Tryd.f70) (args := [(V.s t0), (V.p t1)]) H K (by kernel_rfl) (Nat.le_of_ble_eq_true (by kernel_rfl)) (by kernel_rfl)
  have e1 : ev Tryd.prog (E70 a87) loopLim Tryd.f70.ntmps kp70 c70_5 (argFr 0 [(V.s t0), (V.p t1)]) H (kFn Tryd.prog Tryd.f70.results.toList K) = ev Tryd.prog (E70 a87) loopLim Tryd.f70.ntmps kp70 c70_5 [(0, (V.s t0)), (1, (V.p t1))] H (kFn Tryd.prog Tryd.f70.results.toList K) := by kernel_rfl
  refine (e0.trans e1).trans ?_
  delta g70_r
  exact (g70_p6_eq a87 la87 t0 t1 H (kFn Tryd.prog Tryd.f70.results.toList K)).trans (congrArg (g70_p6 a87 R t0 t1 H) (funext fun t4 => funext fun H => h0 t4 H))
theorem g70_ok {a87 : T87} (oa87 : FunOK Tryd.prog 87 (w87 a87)) (la87 : Lin87 a87) : FunOK Tryd.prog 70 (w70 (g70_r a87)) := by
  refine (runF_ok (E70_good oa87 la87) mixed lim_ok Tryd.func70 (by kernel_rfl) kp70).of_le fun R args H K r hk => ?_
  unfold w70 at hk
  split at hk
  · exact (g70_fn a87 la87 _ _ H K).trans hk
  · cases hk
end Go.Proofs.YtnjihofdmncckaaDoor

