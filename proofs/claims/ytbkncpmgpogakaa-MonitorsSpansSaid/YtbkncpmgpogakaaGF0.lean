/- Printed: functions as the machine runs them. -/
import Derived.Test.YtbkncpmgpogakaaGT
namespace Go.Proofs.Ytbkncpmgpogakaa
open Go AM Go.RowKit
set_option linter.unusedVariables false
def kp12 : Nat → Option (List Nat) := kpOf [(0, [1]), (1, [2, 3, 4, 5]), (300000, [2, 3, 4, 5])]
def E12 : FEnv := []
theorem E12_good : EnvGood Try.prog E12 := (EnvGood.nil _)
theorem E12_lin : EnvLin E12 := fun g F h => by cases h
noncomputable def b12 : Code := Try.f12.body.getD .skip
noncomputable def c12_0 : Code := (.seq (codeAt [0] b12) (.seq (codeAt [1, 0] b12) .ret))
noncomputable def g12_p0 (R : Type) (t0_0 : Int) (t0_1 : Int) (t0_2 : Int) (t0_3 : Int) (t0_4 : Int) (H : Heap) (kR : Int → Int → Int → Int → Heap → Option R) : Option R :=
  alo H (.cells [(V.i .u8 t0_0), (V.i .u8 t0_1), (V.i .u8 t0_2), (V.i .u8 t0_3), (V.i .u8 t0_4)] 23 false) fun i1 h2 =>
  ((h2).ldI .u8 i1 (0 + 1)).bind fun x3 =>
  ((h2).ldI .u8 i1 (0 + 2)).bind fun x4 =>
  ((h2).ldI .u8 i1 (0 + 3)).bind fun x5 =>
  ((h2).ldI .u8 i1 (0 + 4)).bind fun x6 =>
  kR (IntKind.wrap .i64 ((1 : Int) + (IntKind.wrap .i64 (Int.tmod x3 (40 : Int))))) (IntKind.wrap .i64 ((1 : Int) + (IntKind.wrap .i64 (Int.tmod x4 (20 : Int))))) (IntKind.wrap .i64 ((1 : Int) + (IntKind.wrap .i64 (Int.tmod x5 (20 : Int))))) (IntKind.wrap .i64 ((1 : Int) + (IntKind.wrap .i64 (Int.tmod x6 (20 : Int))))) h2
theorem g12_p0_eq {R : Type} (t0_0 : Int) (t0_1 : Int) (t0_2 : Int) (t0_3 : Int) (t0_4 : Int) (H : Heap) (K : Ex → Fr → Heap → Option R) : ev Try.prog E12 loopLim Try.f12.ntmps kp12 c12_0 [(0, (V.agg [(V.i .u8 t0_0), (V.i .u8 t0_1), (V.i .u8 t0_2), (V.i .u8 t0_3), (V.i .u8 t0_4)]))] H K = g12_p0 R t0_0 t0_1 t0_2 t0_3 t0_4 H (fun t2 t3 t4 t5 H => K .ret [(2, (V.i .i64 t2)), (3, (V.i .i64 t3)), (4, (V.i .i64 t4)), (5, (V.i .i64 t5))] H) := by kernel_rfl
theorem g12_p0_lin {R S : Type} {k : S → Option R} {t0_0 : Int} {t0_1 : Int} {t0_2 : Int} {t0_3 : Int} {t0_4 : Int} {H : Heap} {fkR : Int → Int → Int → Int → Heap → Option R} {gkR : Int → Int → Int → Int → Heap → Option S} (hkR : ∀ t2 t3 t4 t5 H, fkR t2 t3 t4 t5 H = (gkR t2 t3 t4 t5 H).bind k) : g12_p0 R t0_0 t0_1 t0_2 t0_3 t0_4 H fkR = (g12_p0 S t0_0 t0_1 t0_2 t0_3 t0_4 H gkR).bind k := by
  delta g12_p0; exact (
    alo_lin fun i1 h2 =>
    bl fun x3 =>
    bl fun x4 =>
    bl fun x5 =>
    bl fun x6 =>
    hkR _ _ _ _ _)
noncomputable def g12_r : T12 := fun R t0_0 t0_1 t0_2 t0_3 t0_4 H K =>
  g12_p0 R t0_0 t0_1 t0_2 t0_3 t0_4 H (fun t2 t3 t4 t5 H =>
    K t2 t3 t4 t5 H)
theorem g12_r_lin : Lin12 (g12_r) := by
  constructor
  intro R S k t0_0 t0_1 t0_2 t0_3 t0_4 H f g h
  exact g12_p0_lin (fun t2 t3 t4 t5 H =>
    h _ _ _ _ _)
theorem g12_fn {R : Type} (t0_0 : Int) (t0_1 : Int) (t0_2 : Int) (t0_3 : Int) (t0_4 : Int) (H : Heap) (K : V → Heap → Option R) : evFn Try.prog E12 loopLim Try.f12 kp12 [(V.agg [(V.i .u8 t0_0), (V.i .u8 t0_1), (V.i .u8 t0_2), (V.i .u8 t0_3), (V.i .u8 t0_4)])] H K = g12_r R t0_0 t0_1 t0_2 t0_3 t0_4 H (fun r0 r1 r2 r3 H => K (V.tup [(V.i .i64 r0), (V.i .i64 r1), (V.i .i64 r2), (V.i .i64 r3)]) H) := by
  have h0 : ∀ (t2 : Int) (t3 : Int) (t4 : Int) (t5 : Int) (H : Heap), kFn Try.prog Try.f12.results.toList K .ret [(2, (V.i .i64 t2)), (3, (V.i .i64 t3)), (4, (V.i .i64 t4)), (5, (V.i .i64 t5))] H =
      K (V.tup [(V.i .i64 t2), (V.i .i64 t3), (V.i .i64 t4), (V.i .i64 t5)]) H := by intros; kernel_rfl
  have e0 := evFn_code2 (P := Try.prog) (c := c12_0) (E := E12) (lr := loopLim) (kp := kp12) (fn := Try.f12) (args := [(V.agg [(V.i .u8 t0_0), (V.i .u8 t0_1), (V.i .u8 t0_2), (V.i .u8 t0_3), (V.i .u8 t0_4)])]) H K (by kernel_rfl) (Nat.le_of_ble_eq_true (by kernel_rfl)) (by kernel_rfl)
  have e1 : ev Try.prog E12 loopLim Try.f12.ntmps kp12 c12_0 (argFr 0 [(V.agg [(V.i .u8 t0_0), (V.i .u8 t0_1), (V.i .u8 t0_2), (V.i .u8 t0_3), (V.i .u8 t0_4)])]) H (kFn Try.prog Try.f12.results.toList K) = ev Try.prog E12 loopLim Try.f12.ntmps kp12 c12_0 [(0, (V.agg [(V.i .u8 t0_0), (V.i .u8 t0_1), (V.i .u8 t0_2), (V.i .u8 t0_3), (V.i .u8 t0_4)]))] H (kFn Try.prog Try.f12.results.toList K) := by kernel_rfl
  refine (e0.trans e1).trans ?_
  delta g12_r
  exact (g12_p0_eq t0_0 t0_1 t0_2 t0_3 t0_4 H (kFn Try.prog Try.f12.results.toList K)).trans (congrArg (g12_p0 R t0_0 t0_1 t0_2 t0_3 t0_4 H) (funext fun t2 => funext fun t3 => funext fun t4 => funext fun t5 => funext fun H => h0 t2 t3 t4 t5 H))
theorem g12_ok : FunOK Try.prog 12 (w12 (g12_r)) := by
  refine (runF_ok (E12_good) mixed lim_ok Try.func12 (by kernel_rfl) kp12).of_le fun R args H K r hk => ?_
  unfold w12 at hk
  split at hk
  · exact (g12_fn _ _ _ _ _ H K).trans hk
  · cases hk
def kp21 : Nat → Option (List Nat) := kpOf [(0, [0]), (1, [2]), (300000, [2])]
def E21 : FEnv := []
theorem E21_good : EnvGood Try.prog E21 := (EnvGood.nil _)
theorem E21_lin : EnvLin E21 := fun g F h => by cases h
noncomputable def b21 : Code := Try.f21.body.getD .skip
noncomputable def c21_0 : Code := (.seq (codeAt [0] b21) (.seq (codeAt [1, 0] b21) .ret))
noncomputable def g21_p0 (R : Type) (t0 : Int) (H : Heap) (kR : Bool → Heap → Option R) : Option R :=
  sel (decide (t0 < (1 : Int))) (
    kR true H) (
    kR (decide (t0 > (1048576 : Int))) H)
theorem g21_p0_eq {R : Type} (t0 : Int) (H : Heap) (K : Ex → Fr → Heap → Option R) : ev Try.prog E21 loopLim Try.f21.ntmps kp21 c21_0 [(0, (V.i .i64 t0))] H K = g21_p0 R t0 H (fun t2 H => K .ret [(2, (V.b t2))] H) := by kernel_rfl
theorem g21_p0_lin {R S : Type} {k : S → Option R} {t0 : Int} {H : Heap} {fkR : Bool → Heap → Option R} {gkR : Bool → Heap → Option S} (hkR : ∀ t2 H, fkR t2 H = (gkR t2 H).bind k) : g21_p0 R t0 H fkR = (g21_p0 S t0 H gkR).bind k := by
  delta g21_p0; exact (
    sl_lin (
      hkR _ _) (
      hkR _ _))
noncomputable def g21_r : T21 := fun R t0 H K =>
  g21_p0 R t0 H (fun t2 H =>
    K t2 H)
theorem g21_r_lin : Lin21 (g21_r) := by
  constructor
  intro R S k t0 H f g h
  exact g21_p0_lin (fun t2 H =>
    h _ _)
theorem g21_fn {R : Type} (t0 : Int) (H : Heap) (K : V → Heap → Option R) : evFn Try.prog E21 loopLim Try.f21 kp21 [(V.i .i64 t0)] H K = g21_r R t0 H (fun r0 H => K (V.b r0) H) := by
  have h0 : ∀ (t2 : Bool) (H : Heap), kFn Try.prog Try.f21.results.toList K .ret [(2, (V.b t2))] H =
      K (V.b t2) H := by intros; kernel_rfl
  have e0 := evFn_code2 (P := Try.prog) (c := c21_0) (E := E21) (lr := loopLim) (kp := kp21) (fn := Try.f21) (args := [(V.i .i64 t0)]) H K (by kernel_rfl) (Nat.le_of_ble_eq_true (by kernel_rfl)) (by kernel_rfl)
  have e1 : ev Try.prog E21 loopLim Try.f21.ntmps kp21 c21_0 (argFr 0 [(V.i .i64 t0)]) H (kFn Try.prog Try.f21.results.toList K) = ev Try.prog E21 loopLim Try.f21.ntmps kp21 c21_0 [(0, (V.i .i64 t0))] H (kFn Try.prog Try.f21.results.toList K) := by kernel_rfl
  refine (e0.trans e1).trans ?_
  delta g21_r
  exact (g21_p0_eq t0 H (kFn Try.prog Try.f21.results.toList K)).trans (congrArg (g21_p0 R t0 H) (funext fun t2 => funext fun H => h0 t2 H))
theorem g21_ok : FunOK Try.prog 21 (w21 (g21_r)) := by
  refine (runF_ok (E21_good) mixed lim_ok Try.func21 (by kernel_rfl) kp21).of_le fun R args H K r hk => ?_
  unfold w21 at hk
  split at hk
  · exact (g21_fn _ H K).trans hk
  · cases hk
def kp22 : Nat → Option (List Nat) := kpOf [(0, [0, 1]), (1, [0, 1, 7, 8]), (2, [0, 1, 7, 8, 9]), (3, [0, 1, 5, 7, 8]), (4, [0, 1, 5, 7, 8, 16]), (5, [4]), (6, [0, 1, 7, 8]), (7, [4]), (100000, []), (100001, [0, 1, 7, 8]), (200000, [0, 1, 7, 8]), (200001, [0, 1, 7, 8]), (300000, [4]), (400009, [0, 1, 7, 8]), (400016, [0, 1, 7, 8])]
def E22 (a21 : T21) : FEnv := [(21, w21 a21)]
theorem E22_good {a21 : T21} (oa21 : FunOK Try.prog 21 (w21 a21)) (la21 : Lin21 a21) : EnvGood Try.prog (E22 a21) := ((EnvGood.nil _).cons oa21 (w21_lin la21))
theorem E22_lin {a21 : T21} (la21 : Lin21 a21) : EnvLin (E22 a21) := by
  intro g F h
  simp only [E22, List.mem_cons, List.not_mem_nil, or_false] at h
  rcases h with h
  · cases h; exact w21_lin la21
noncomputable def b22 : Code := Try.f22.body.getD .skip
noncomputable def c22_0 : Code := (.seq (codeAt [1, 0, 1, 0, 0, 0] b22) (.seq (.cond (.tmp 9) .skip (.exit 0)) (.seq (.block 1 (.seq (codeAt [1, 0, 1, 0, 0, 1, 1, 0, 0, 0] b22) (.seq (codeAt [1, 0, 1, 0, 0, 1, 1, 0, 0, 1, 0] b22) (.cond (.tmp 16) (.seq (codeAt [1, 0, 1, 0, 0, 1, 1, 0, 0, 1, 1, 0, 0] b22) .ret) .skip)))) (codeAt [1, 0, 1, 0, 0, 1, 1, 1] b22))))
noncomputable def c22_1 : Code := (.loop c22_0)
noncomputable def c22_2 : Code := (.block 0 c22_1)
noncomputable def c22_3 : Code := (.seq (codeAt [1, 1, 0] b22) .ret)
noncomputable def c22_4 : Code := (.seq c22_2 c22_3)
noncomputable def c22_5 : Code := (.seq (codeAt [0] b22) (.seq (codeAt [1, 0, 0] b22) c22_4))
noncomputable def g22_p0 (a21 : T21) (R : Type) (t0 : Sl) (H : Heap) (kN : Sl → Int → Int → Heap → Option R) : Option R :=
  kN t0 ((t0.len : Nat) : Int) (0 : Int) H
theorem g22_p0_eq (a21 : T21) {R : Type} (c2 : Code) (t0 : Sl) (H : Heap) (K : Ex → Fr → Heap → Option R) : ev Try.prog (E22 a21) loopLim Try.f22.ntmps kp22 (.seq (codeAt [0] b22) (.seq (codeAt [1, 0, 0] b22) c2)) [(0, (V.sl t0)), (1, (V.fn (.func 21) [] []))] H K = g22_p0 a21 R t0 H (fun t0 t7 t8 H => ev Try.prog (E22 a21) loopLim Try.f22.ntmps kp22 c2 [(0, (V.sl t0)), (1, (V.fn (.func 21) [] [])), (7, (V.i .i64 t7)), (8, (V.i .i64 t8))] H K) := by kernel_rfl
theorem g22_p0_lin {a21 : T21} (la21 : Lin21 a21) {R S : Type} {k : S → Option R} {t0 : Sl} {H : Heap} {fkN : Sl → Int → Int → Heap → Option R} {gkN : Sl → Int → Int → Heap → Option S} (hkN : ∀ t0 t7 t8 H, fkN t0 t7 t8 H = (gkN t0 t7 t8 H).bind k) : g22_p0 a21 R t0 H fkN = (g22_p0 a21 S t0 H gkN).bind k := by
  delta g22_p0; exact (
    hkN _ _ _ _)
noncomputable def g22_p1 (a21 : T21) (R : Type) (t0 : Sl) (t7 : Int) (t8 : Int) (H : Heap) (kN : Sl → Int → Int → Heap → Option R) (kE0 : Heap → Option R) (kR : Int → Heap → Option R) : Option R :=
  sel (decide (t8 < t7)) (
    if 0 ≤ t8 ∧ t8 < ((t0.len : Nat) : Int) then (
      (t0.a).bind fun q1 =>
      ((H).ldI .i64 q1.1 (q1.2 + Int.toNat t8 * 1)).bind fun x2 =>
      a21 R x2 H fun x3 h4 =>
      sel x3 (
        kR t8 h4) (
        kN t0 t7 (IntKind.wrap .i64 (t8 + (1 : Int))) h4))
    else (
      none)) (
    kE0 H)
theorem g22_p1_eq (a21 : T21) (la21 : Lin21 a21) {R : Type} (t0 : Sl) (t7 : Int) (t8 : Int) (H : Heap) (K : Ex → Fr → Heap → Option R) : ev Try.prog (E22 a21) loopLim Try.f22.ntmps kp22 c22_0 [(0, (V.sl t0)), (1, (V.fn (.func 21) [] [])), (7, (V.i .i64 t7)), (8, (V.i .i64 t8))] H K = g22_p1 a21 R t0 t7 t8 H (fun t0 t7 t8 H => K .normal [(0, (V.sl t0)), (1, (V.fn (.func 21) [] [])), (7, (V.i .i64 t7)), (8, (V.i .i64 t8))] H) (fun H => K (.exit 0) [] H) (fun t4 H => K .ret [(4, (V.i .i64 t4))] H) := by kernel_rfl
theorem g22_p1_lin {a21 : T21} (la21 : Lin21 a21) {R S : Type} {k : S → Option R} {t0 : Sl} {t7 : Int} {t8 : Int} {H : Heap} {fkN : Sl → Int → Int → Heap → Option R} {gkN : Sl → Int → Int → Heap → Option S} {fkE0 : Heap → Option R} {gkE0 : Heap → Option S} {fkR : Int → Heap → Option R} {gkR : Int → Heap → Option S} (hkN : ∀ t0 t7 t8 H, fkN t0 t7 t8 H = (gkN t0 t7 t8 H).bind k) (hkE0 : ∀ H, fkE0 H = (gkE0 H).bind k) (hkR : ∀ t4 H, fkR t4 H = (gkR t4 H).bind k) : g22_p1 a21 R t0 t7 t8 H fkN fkE0 fkR = (g22_p1 a21 S t0 t7 t8 H gkN gkE0 gkR).bind k := by
  delta g22_p1; exact (
    sl_lin (
      il (
        bl fun q1 =>
        bl fun x2 =>
        la21.l fun x3 h4 =>
        sl_lin (
          hkR _ _) (
          hkN _ _ _ _)) (
        rfl)) (
      hkE0 _))
abbrev g22_p2_S := Sl × Int × Int
abbrev g22_p2_O := Sum (Unit) (Int)
def g22_p2_es (s : g22_p2_S) : Fr := [(0, (V.sl s.1)), (1, (V.fn (.func 21) [] [])), (7, (V.i .i64 s.2.1)), (8, (V.i .i64 s.2.2))]
def g22_p2_er : g22_p2_O → Ex × Fr
  | (.inl r) => ((.exit 0), [])
  | (.inr r) => (.ret, [(4, (V.i .i64 r))])
noncomputable def g22_p2_b (a21 : T21) (s : g22_p2_S) (H : Heap) : Option (Rd g22_p2_S g22_p2_O × Heap) :=
  g22_p1 a21 _ s.1 s.2.1 s.2.2 H (fun t0 t7 t8 H => some (.go (t0, t7, t8), H)) (fun H => some (.up (.inl ()), H)) (fun t4 H => some (.up (.inr t4), H))
noncomputable def g22_p2 (a21 : T21) (R : Type) (t0 : Sl) (t7 : Int) (t8 : Int) (H : Heap) (kE0 : Heap → Option R) (kR : Int → Heap → Option R) : Option R :=
  (tlim (g22_p2_b a21) (t0, t7, t8) H).bind fun p => cas p.1 (fun r => kE0  p.2) (fun r0 => kR r0 p.2)
theorem g22_p2_lin {a21 : T21} (la21 : Lin21 a21) {R S : Type} {k : S → Option R} {t0 : Sl} {t7 : Int} {t8 : Int} {H : Heap} {fkE0 : Heap → Option R} {gkE0 : Heap → Option S} {fkR : Int → Heap → Option R} {gkR : Int → Heap → Option S} (hkE0 : ∀ H, fkE0 H = (gkE0 H).bind k) (hkR : ∀ t4 H, fkR t4 H = (gkR t4 H).bind k) : g22_p2 a21 R t0 t7 t8 H fkE0 fkR = (g22_p2 a21 S t0 t7 t8 H gkE0 gkR).bind k := by
  exact bl fun p => cas_lin (fun _ => hkE0 _) (fun _ => hkR _ _)
theorem g22_p2_eq (a21 : T21) (la21 : Lin21 a21) {R : Type} (t0 : Sl) (t7 : Int) (t8 : Int) (H : Heap) (K : Ex → Fr → Heap → Option R) : ev Try.prog (E22 a21) loopLim Try.f22.ntmps kp22 c22_1 [(0, (V.sl t0)), (1, (V.fn (.func 21) [] [])), (7, (V.i .i64 t7)), (8, (V.i .i64 t8))] H K = g22_p2 a21 R t0 t7 t8 H (fun H => K (.exit 0) [] H) (fun t4 H => K .ret [(4, (V.i .i64 t4))] H) := by
  show ev Try.prog (E22 a21) loopLim Try.f22.ntmps kp22 (.loop c22_0) [(0, (V.sl t0)), (1, (V.fn (.func 21) [] [])), (7, (V.i .i64 t7)), (8, (V.i .i64 t8))] H K = _
  delta g22_p2
  refine (ev_tlim (b := g22_p2_b a21) (es := g22_p2_es) (er := g22_p2_er) (by rintro (r | r) <;> exact nofun) (fun s H => ?_) (t0, t7, t8) H K).trans (bc fun p => by rcases p with ⟨(r | r), H⟩ <;> rfl)
  exact (g22_p1_eq a21 la21 s.1 s.2.1 s.2.2 H ret3).trans (g22_p1_lin la21 (fun _ _ _ _ => rfl) (fun _ => rfl) (fun _ _ => rfl))
noncomputable def g22_p3 (a21 : T21) (R : Type) (t0 : Sl) (t7 : Int) (t8 : Int) (H : Heap) (kN : Heap → Option R) (kR : Int → Heap → Option R) : Option R :=
  g22_p2 a21 R t0 t7 t8 H (fun H => kN  H) (fun t4 H => kR t4 H)
theorem g22_p3_lin {a21 : T21} (la21 : Lin21 a21) {R S : Type} {k : S → Option R} {t0 : Sl} {t7 : Int} {t8 : Int} {H : Heap} {fkN : Heap → Option R} {gkN : Heap → Option S} {fkR : Int → Heap → Option R} {gkR : Int → Heap → Option S} (hkN : ∀ H, fkN H = (gkN H).bind k) (hkR : ∀ t4 H, fkR t4 H = (gkR t4 H).bind k) : g22_p3 a21 R t0 t7 t8 H fkN fkR = (g22_p3 a21 S t0 t7 t8 H gkN gkR).bind k := by
  exact g22_p2_lin la21 (fun _ => hkN _) (fun _ _ => hkR _ _)
theorem g22_p3_eq (a21 : T21) (la21 : Lin21 a21) {R : Type} (t0 : Sl) (t7 : Int) (t8 : Int) (H : Heap) (K : Ex → Fr → Heap → Option R) : ev Try.prog (E22 a21) loopLim Try.f22.ntmps kp22 c22_2 [(0, (V.sl t0)), (1, (V.fn (.func 21) [] [])), (7, (V.i .i64 t7)), (8, (V.i .i64 t8))] H K = g22_p3 a21 R t0 t7 t8 H (fun H => K .normal [] H) (fun t4 H => K .ret [(4, (V.i .i64 t4))] H) := by
  show ev Try.prog (E22 a21) loopLim Try.f22.ntmps kp22 (.block 0 c22_1) [(0, (V.sl t0)), (1, (V.fn (.func 21) [] [])), (7, (V.i .i64 t7)), (8, (V.i .i64 t8))] H K = _
  rw [ev_block]
  delta g22_p3
  exact (g22_p2_eq a21 la21 t0 t7 t8 H (kBlock kp22 0 K))
noncomputable def g22_p4 (a21 : T21) (R : Type) (H : Heap) (kR : Int → Heap → Option R) : Option R :=
  kR (-1 : Int) H
theorem g22_p4_eq (a21 : T21) (la21 : Lin21 a21) {R : Type} (H : Heap) (K : Ex → Fr → Heap → Option R) : ev Try.prog (E22 a21) loopLim Try.f22.ntmps kp22 c22_3 [] H K = g22_p4 a21 R H (fun t4 H => K .ret [(4, (V.i .i64 t4))] H) := by kernel_rfl
theorem g22_p4_lin {a21 : T21} (la21 : Lin21 a21) {R S : Type} {k : S → Option R} {H : Heap} {fkR : Int → Heap → Option R} {gkR : Int → Heap → Option S} (hkR : ∀ t4 H, fkR t4 H = (gkR t4 H).bind k) : g22_p4 a21 R H fkR = (g22_p4 a21 S H gkR).bind k := by
  delta g22_p4; exact (
    hkR _ _)
noncomputable def g22_p5 (a21 : T21) (R : Type) (t0 : Sl) (t7 : Int) (t8 : Int) (H : Heap) (kR : Int → Heap → Option R) : Option R :=
  g22_p3 a21 R t0 t7 t8 H (fun H => g22_p4 a21 R H (fun t4 H => kR t4 H)) (fun t4 H => kR t4 H)
theorem g22_p5_lin {a21 : T21} (la21 : Lin21 a21) {R S : Type} {k : S → Option R} {t0 : Sl} {t7 : Int} {t8 : Int} {H : Heap} {fkR : Int → Heap → Option R} {gkR : Int → Heap → Option S} (hkR : ∀ t4 H, fkR t4 H = (gkR t4 H).bind k) : g22_p5 a21 R t0 t7 t8 H fkR = (g22_p5 a21 S t0 t7 t8 H gkR).bind k := by
  exact g22_p3_lin la21 (fun _ => g22_p4_lin la21 (fun _ _ => hkR _ _)) (fun _ _ => hkR _ _)
theorem g22_p5_eq (a21 : T21) (la21 : Lin21 a21) {R : Type} (t0 : Sl) (t7 : Int) (t8 : Int) (H : Heap) (K : Ex → Fr → Heap → Option R) : ev Try.prog (E22 a21) loopLim Try.f22.ntmps kp22 c22_4 [(0, (V.sl t0)), (1, (V.fn (.func 21) [] [])), (7, (V.i .i64 t7)), (8, (V.i .i64 t8))] H K = g22_p5 a21 R t0 t7 t8 H (fun t4 H => K .ret [(4, (V.i .i64 t4))] H) := by
  show ev Try.prog (E22 a21) loopLim Try.f22.ntmps kp22 (.seq c22_2 c22_3) [(0, (V.sl t0)), (1, (V.fn (.func 21) [] [])), (7, (V.i .i64 t7)), (8, (V.i .i64 t8))] H K = _
  rw [ev_seq]
  delta g22_p5
  exact (g22_p3_eq a21 la21 t0 t7 t8 H (kSeq (fun fr H => ev Try.prog (E22 a21) loopLim Try.f22.ntmps kp22 c22_3 fr H K) K)).trans (congr (congrArg (g22_p3 a21 R t0 t7 t8 H) (funext fun H => (kSeq_n _ _ _ _).trans (g22_p4_eq a21 la21 H K))) rfl)
noncomputable def g22_p6 (a21 : T21) (R : Type) (t0 : Sl) (H : Heap) (kR : Int → Heap → Option R) : Option R :=
  g22_p0 a21 R t0 H (fun t0 t7 t8 H => g22_p5 a21 R t0 t7 t8 H (fun t4 H => kR t4 H))
theorem g22_p6_lin {a21 : T21} (la21 : Lin21 a21) {R S : Type} {k : S → Option R} {t0 : Sl} {H : Heap} {fkR : Int → Heap → Option R} {gkR : Int → Heap → Option S} (hkR : ∀ t4 H, fkR t4 H = (gkR t4 H).bind k) : g22_p6 a21 R t0 H fkR = (g22_p6 a21 S t0 H gkR).bind k := by
  exact g22_p0_lin la21 (fun _ _ _ _ => g22_p5_lin la21 (fun _ _ => hkR _ _))
theorem g22_p6_eq (a21 : T21) (la21 : Lin21 a21) {R : Type} (t0 : Sl) (H : Heap) (K : Ex → Fr → Heap → Option R) : ev Try.prog (E22 a21) loopLim Try.f22.ntmps kp22 c22_5 [(0, (V.sl t0)), (1, (V.fn (.func 21) [] []))] H K = g22_p6 a21 R t0 H (fun t4 H => K .ret [(4, (V.i .i64 t4))] H) := by
  show ev Try.prog (E22 a21) loopLim Try.f22.ntmps kp22 (.seq (codeAt [0] b22) (.seq (codeAt [1, 0, 0] b22) c22_4)) [(0, (V.sl t0)), (1, (V.fn (.func 21) [] []))] H K = _
  delta g22_p6
  exact (g22_p0_eq a21 _ t0 H K).trans (congrArg (g22_p0 a21 R t0 H) (funext fun t0 => funext fun t7 => funext fun t8 => funext fun H => g22_p5_eq a21 la21 t0 t7 t8 H K))
noncomputable def g22_r (a21 : T21) : T22 := fun R t0 H K =>
  g22_p6 a21 R t0 H (fun t4 H =>
    K t4 H)
theorem g22_r_lin {a21 : T21} (la21 : Lin21 a21) : Lin22 (g22_r a21) := by
  constructor
  intro R S k t0 H f g h
  exact g22_p6_lin la21 (fun t4 H =>
    h _ _)
theorem g22_fn (a21 : T21) (la21 : Lin21 a21) {R : Type} (t0 : Sl) (H : Heap) (K : V → Heap → Option R) : evFn Try.prog (E22 a21) loopLim Try.f22 kp22 [(V.sl t0), (V.fn (.func 21) [] [])] H K = g22_r a21 R t0 H (fun r0 H => K (V.i .i64 r0) H) := by
  have h0 : ∀ (t4 : Int) (H : Heap), kFn Try.prog Try.f22.results.toList K .ret [(4, (V.i .i64 t4))] H =
      K (V.i .i64 t4) H := by intros; kernel_rfl
  have e0 := evFn_code2 (P := Try.prog) (c := c22_5) (E := (E22 a21)) (lr := loopLim) (kp := kp22) (fn := Try.f22) (args := [(V.sl t0), (V.fn (.func 21) [] [])]) H K (by kernel_rfl) (Nat.le_of_ble_eq_true (by kernel_rfl)) (by kernel_rfl)
  have e1 : ev Try.prog (E22 a21) loopLim Try.f22.ntmps kp22 c22_5 (argFr 0 [(V.sl t0), (V.fn (.func 21) [] [])]) H (kFn Try.prog Try.f22.results.toList K) = ev Try.prog (E22 a21) loopLim Try.f22.ntmps kp22 c22_5 [(0, (V.sl t0)), (1, (V.fn (.func 21) [] []))] H (kFn Try.prog Try.f22.results.toList K) := by kernel_rfl
  refine (e0.trans e1).trans ?_
  delta g22_r
  exact (g22_p6_eq a21 la21 t0 H (kFn Try.prog Try.f22.results.toList K)).trans (congrArg (g22_p6 a21 R t0 H) (funext fun t4 => funext fun H => h0 t4 H))
theorem g22_ok {a21 : T21} (oa21 : FunOK Try.prog 21 (w21 a21)) (la21 : Lin21 a21) : FunOK Try.prog 22 (w22 (g22_r a21)) := by
  refine (runF_ok (E22_good oa21 la21) mixed lim_ok Try.func22 (by kernel_rfl) kp22).of_le fun R args H K r hk => ?_
  unfold w22 at hk
  split at hk
  · exact (g22_fn a21 la21 _ H K).trans hk
  · cases hk
def kp20 : Nat → Option (List Nat) := kpOf [(0, [0, 1]), (1, [4]), (300000, [4])]
def E20 (a22 : T22) : FEnv := [(22, w22 a22)]
theorem E20_good {a22 : T22} (oa22 : FunOK Try.prog 22 (w22 a22)) (la22 : Lin22 a22) : EnvGood Try.prog (E20 a22) := ((EnvGood.nil _).cons oa22 (w22_lin la22))
theorem E20_lin {a22 : T22} (la22 : Lin22 a22) : EnvLin (E20 a22) := by
  intro g F h
  simp only [E20, List.mem_cons, List.not_mem_nil, or_false] at h
  rcases h with h
  · cases h; exact w22_lin la22
noncomputable def b20 : Code := Try.f20.body.getD .skip
noncomputable def c20_0 : Code := (.seq (codeAt [0] b20) (.seq (codeAt [1, 0] b20) .ret))
noncomputable def g20_p0 (a22 : T22) (R : Type) (t0 : Sl) (H : Heap) (kR : Bool → Heap → Option R) : Option R :=
  a22 R t0 H fun x1 h2 =>
  kR (decide (x1 ≥ (0 : Int))) h2
theorem g20_p0_eq (a22 : T22) (la22 : Lin22 a22) {R : Type} (t0 : Sl) (H : Heap) (K : Ex → Fr → Heap → Option R) : ev Try.prog (E20 a22) loopLim Try.f20.ntmps kp20 c20_0 [(0, (V.sl t0)), (1, (V.fn (.func 21) [] []))] H K = g20_p0 a22 R t0 H (fun t4 H => K .ret [(4, (V.b t4))] H) := by kernel_rfl
theorem g20_p0_lin {a22 : T22} (la22 : Lin22 a22) {R S : Type} {k : S → Option R} {t0 : Sl} {H : Heap} {fkR : Bool → Heap → Option R} {gkR : Bool → Heap → Option S} (hkR : ∀ t4 H, fkR t4 H = (gkR t4 H).bind k) : g20_p0 a22 R t0 H fkR = (g20_p0 a22 S t0 H gkR).bind k := by
  delta g20_p0; exact (
    la22.l fun x1 h2 =>
    hkR _ _)
noncomputable def g20_r (a22 : T22) : T20 := fun R t0 H K =>
  g20_p0 a22 R t0 H (fun t4 H =>
    K t4 H)
theorem g20_r_lin {a22 : T22} (la22 : Lin22 a22) : Lin20 (g20_r a22) := by
  constructor
  intro R S k t0 H f g h
  exact g20_p0_lin la22 (fun t4 H =>
    h _ _)
theorem g20_fn (a22 : T22) (la22 : Lin22 a22) {R : Type} (t0 : Sl) (H : Heap) (K : V → Heap → Option R) : evFn Try.prog (E20 a22) loopLim Try.f20 kp20 [(V.sl t0), (V.fn (.func 21) [] [])] H K = g20_r a22 R t0 H (fun r0 H => K (V.b r0) H) := by
  have h0 : ∀ (t4 : Bool) (H : Heap), kFn Try.prog Try.f20.results.toList K .ret [(4, (V.b t4))] H =
      K (V.b t4) H := by intros; kernel_rfl
  have e0 := evFn_code2 (P := Try.prog) (c := c20_0) (E := (E20 a22)) (lr := loopLim) (kp := kp20) (fn := Try.f20) (args := [(V.sl t0), (V.fn (.func 21) [] [])]) H K (by kernel_rfl) (Nat.le_of_ble_eq_true (by kernel_rfl)) (by kernel_rfl)
  have e1 : ev Try.prog (E20 a22) loopLim Try.f20.ntmps kp20 c20_0 (argFr 0 [(V.sl t0), (V.fn (.func 21) [] [])]) H (kFn Try.prog Try.f20.results.toList K) = ev Try.prog (E20 a22) loopLim Try.f20.ntmps kp20 c20_0 [(0, (V.sl t0)), (1, (V.fn (.func 21) [] []))] H (kFn Try.prog Try.f20.results.toList K) := by kernel_rfl
  refine (e0.trans e1).trans ?_
  delta g20_r
  exact (g20_p0_eq a22 la22 t0 H (kFn Try.prog Try.f20.results.toList K)).trans (congrArg (g20_p0 a22 R t0 H) (funext fun t4 => funext fun H => h0 t4 H))
theorem g20_ok {a22 : T22} (oa22 : FunOK Try.prog 22 (w22 a22)) (la22 : Lin22 a22) : FunOK Try.prog 20 (w20 (g20_r a22)) := by
  refine (runF_ok (E20_good oa22 la22) mixed lim_ok Try.func20 (by kernel_rfl) kp20).of_le fun R args H K r hk => ?_
  unfold w20 at hk
  split at hk
  · exact (g20_fn a22 la22 _ H K).trans hk
  · cases hk
def kp19 : Nat → Option (List Nat) := kpOf [(0, [0]), (1, [2]), (300000, [2])]
def E19 (a20 : T20) : FEnv := [(20, w20 a20)]
theorem E19_good {a20 : T20} (oa20 : FunOK Try.prog 20 (w20 a20)) (la20 : Lin20 a20) : EnvGood Try.prog (E19 a20) := ((EnvGood.nil _).cons oa20 (w20_lin la20))
theorem E19_lin {a20 : T20} (la20 : Lin20 a20) : EnvLin (E19 a20) := by
  intro g F h
  simp only [E19, List.mem_cons, List.not_mem_nil, or_false] at h
  rcases h with h
  · cases h; exact w20_lin la20
noncomputable def b19 : Code := Try.f19.body.getD .skip
noncomputable def c19_0 : Code := (.seq (codeAt [0] b19) (.seq (codeAt [1, 0] b19) .ret))
noncomputable def g19_p0 (a20 : T20) (R : Type) (t0 : Sl) (H : Heap) (kR : Bool → Heap → Option R) : Option R :=
  a20 R t0 H fun x1 h2 =>
  kR (!x1) h2
theorem g19_p0_eq (a20 : T20) (la20 : Lin20 a20) {R : Type} (t0 : Sl) (H : Heap) (K : Ex → Fr → Heap → Option R) : ev Try.prog (E19 a20) loopLim Try.f19.ntmps kp19 c19_0 [(0, (V.sl t0))] H K = g19_p0 a20 R t0 H (fun t2 H => K .ret [(2, (V.b t2))] H) := by kernel_rfl
theorem g19_p0_lin {a20 : T20} (la20 : Lin20 a20) {R S : Type} {k : S → Option R} {t0 : Sl} {H : Heap} {fkR : Bool → Heap → Option R} {gkR : Bool → Heap → Option S} (hkR : ∀ t2 H, fkR t2 H = (gkR t2 H).bind k) : g19_p0 a20 R t0 H fkR = (g19_p0 a20 S t0 H gkR).bind k := by
  delta g19_p0; exact (
    la20.l fun x1 h2 =>
    hkR _ _)
noncomputable def g19_r (a20 : T20) : T19 := fun R t0 H K =>
  g19_p0 a20 R t0 H (fun t2 H =>
    K t2 H)
theorem g19_r_lin {a20 : T20} (la20 : Lin20 a20) : Lin19 (g19_r a20) := by
  constructor
  intro R S k t0 H f g h
  exact g19_p0_lin la20 (fun t2 H =>
    h _ _)
theorem g19_fn (a20 : T20) (la20 : Lin20 a20) {R : Type} (t0 : Sl) (H : Heap) (K : V → Heap → Option R) : evFn Try.prog (E19 a20) loopLim Try.f19 kp19 [(V.sl t0)] H K = g19_r a20 R t0 H (fun r0 H => K (V.b r0) H) := by
  have h0 : ∀ (t2 : Bool) (H : Heap), kFn Try.prog Try.f19.results.toList K .ret [(2, (V.b t2))] H =
      K (V.b t2) H := by intros; kernel_rfl
  have e0 := evFn_code2 (P := Try.prog) (c := c19_0) (E := (E19 a20)) (lr := loopLim) (kp := kp19) (fn := Try.f19) (args := [(V.sl t0)]) H K (by kernel_rfl) (Nat.le_of_ble_eq_true (by kernel_rfl)) (by kernel_rfl)
  have e1 : ev Try.prog (E19 a20) loopLim Try.f19.ntmps kp19 c19_0 (argFr 0 [(V.sl t0)]) H (kFn Try.prog Try.f19.results.toList K) = ev Try.prog (E19 a20) loopLim Try.f19.ntmps kp19 c19_0 [(0, (V.sl t0))] H (kFn Try.prog Try.f19.results.toList K) := by kernel_rfl
  refine (e0.trans e1).trans ?_
  delta g19_r
  exact (g19_p0_eq a20 la20 t0 H (kFn Try.prog Try.f19.results.toList K)).trans (congrArg (g19_p0 a20 R t0 H) (funext fun t2 => funext fun H => h0 t2 H))
theorem g19_ok {a20 : T20} (oa20 : FunOK Try.prog 20 (w20 a20)) (la20 : Lin20 a20) : FunOK Try.prog 19 (w19 (g19_r a20)) := by
  refine (runF_ok (E19_good oa20 la20) mixed lim_ok Try.func19 (by kernel_rfl) kp19).of_le fun R args H K r hk => ?_
  unfold w19 at hk
  split at hk
  · exact (g19_fn a20 la20 _ H K).trans hk
  · cases hk
def kp16 : Nat → Option (List Nat) := kpOf [(0, [0, 1]), (1, [0, 1, 10]), (2, [4, 5]), (3, [4, 5]), (300000, [4, 5]), (400010, [0, 1])]
def E16 (a19 : T19) : FEnv := [(19, w19 a19)]
theorem E16_good {a19 : T19} (oa19 : FunOK Try.prog 19 (w19 a19)) (la19 : Lin19 a19) : EnvGood Try.prog (E16 a19) := ((EnvGood.nil _).cons oa19 (w19_lin la19))
theorem E16_lin {a19 : T19} (la19 : Lin19 a19) : EnvLin (E16 a19) := by
  intro g F h
  simp only [E16, List.mem_cons, List.not_mem_nil, or_false] at h
  rcases h with h
  · cases h; exact w19_lin la19
noncomputable def b16 : Code := Try.f16.body.getD .skip
noncomputable def c16_0 : Code := (.seq (codeAt [0] b16) (.seq (codeAt [1, 0, 0] b16) (.seq (.cond (.tmp 10) (.seq (codeAt [1, 0, 1, 0, 0] b16) .ret) .skip) (.seq (codeAt [1, 1, 0] b16) .ret))))
noncomputable def g16_p0 (a19 : T19) (R : Type) (t0 : Int) (t1 : Int) (H : Heap) (kR : V → Int → Heap → Option R) : Option R :=
  alo H (.cells [(V.i .i64 t0), (V.i .i64 t1)] 3 false) fun i1 h2 =>
  a19 R (Sl.mk (some (i1, 0)) 2 (.ex 2)) h2 fun x3 h4 =>
  sel (!x3) (
    kR V.nilI (1 : Int) h4) (
    alo h4 (.cells [(V.i .i64 (0 : Int)), (V.i .i64 t0), (V.i .i64 t1), (V.i .i64 (0 : Int))] 56 false) fun i5 h6 =>
    kR (V.ifc 54 (V.p (some (i5, 0)))) (0 : Int) h6)
theorem g16_p0_eq (a19 : T19) (la19 : Lin19 a19) {R : Type} (t0 : Int) (t1 : Int) (H : Heap) (K : Ex → Fr → Heap → Option R) : ev Try.prog (E16 a19) loopLim Try.f16.ntmps kp16 c16_0 [(0, (V.i .i64 t0)), (1, (V.i .i64 t1))] H K = g16_p0 a19 R t0 t1 H (fun t4 t5 H => K .ret [(4, t4), (5, (V.i .i64 t5))] H) := by kernel_rfl
theorem g16_p0_lin {a19 : T19} (la19 : Lin19 a19) {R S : Type} {k : S → Option R} {t0 : Int} {t1 : Int} {H : Heap} {fkR : V → Int → Heap → Option R} {gkR : V → Int → Heap → Option S} (hkR : ∀ t4 t5 H, fkR t4 t5 H = (gkR t4 t5 H).bind k) : g16_p0 a19 R t0 t1 H fkR = (g16_p0 a19 S t0 t1 H gkR).bind k := by
  delta g16_p0; exact (
    alo_lin fun i1 h2 =>
    la19.l fun x3 h4 =>
    sl_lin (
      hkR _ _ _) (
      alo_lin fun i5 h6 =>
      hkR _ _ _))
noncomputable def g16_r (a19 : T19) : T16 := fun R t0 t1 H K =>
  g16_p0 a19 R t0 t1 H (fun t4 t5 H =>
    K t4 t5 H)
theorem g16_r_lin {a19 : T19} (la19 : Lin19 a19) : Lin16 (g16_r a19) := by
  constructor
  intro R S k t0 t1 H f g h
  exact g16_p0_lin la19 (fun t4 t5 H =>
    h _ _ _)
theorem g16_fn (a19 : T19) (la19 : Lin19 a19) {R : Type} (t0 : Int) (t1 : Int) (H : Heap) (K : V → Heap → Option R) : evFn Try.prog (E16 a19) loopLim Try.f16 kp16 [(V.i .i64 t0), (V.i .i64 t1)] H K = g16_r a19 R t0 t1 H (fun r0 r1 H => K (V.tup [r0, (V.i .i64 r1)]) H) := by
  have h0 : ∀ (t4 : V) (t5 : Int) (H : Heap), kFn Try.prog Try.f16.results.toList K .ret [(4, t4), (5, (V.i .i64 t5))] H =
      K (V.tup [t4, (V.i .i64 t5)]) H := by intros; kernel_rfl
  have e0 := evFn_code2 (P := Try.prog) (c := c16_0) (E := (E16 a19)) (lr := loopLim) (kp := kp16) (fn := Try.f16) (args := [(V.i .i64 t0), (V.i .i64 t1)]) H K (by kernel_rfl) (Nat.le_of_ble_eq_true (by kernel_rfl)) (by kernel_rfl)
  have e1 : ev Try.prog (E16 a19) loopLim Try.f16.ntmps kp16 c16_0 (argFr 0 [(V.i .i64 t0), (V.i .i64 t1)]) H (kFn Try.prog Try.f16.results.toList K) = ev Try.prog (E16 a19) loopLim Try.f16.ntmps kp16 c16_0 [(0, (V.i .i64 t0)), (1, (V.i .i64 t1))] H (kFn Try.prog Try.f16.results.toList K) := by kernel_rfl
  refine (e0.trans e1).trans ?_
  delta g16_r
  exact (g16_p0_eq a19 la19 t0 t1 H (kFn Try.prog Try.f16.results.toList K)).trans (congrArg (g16_p0 a19 R t0 t1 H) (funext fun t4 => funext fun t5 => funext fun H => h0 t4 t5 H))
theorem g16_ok {a19 : T19} (oa19 : FunOK Try.prog 19 (w19 a19)) (la19 : Lin19 a19) : FunOK Try.prog 16 (w16 (g16_r a19)) := by
  refine (runF_ok (E16_good oa19 la19) mixed lim_ok Try.func16 (by kernel_rfl) kp16).of_le fun R args H K r hk => ?_
  unfold w16 at hk
  split at hk
  · exact (g16_fn a19 la19 _ _ H K).trans hk
  · cases hk
def kp15 : Nat → Option (List Nat) := kpOf [(0, [0]), (1, [0, 7]), (2, [2, 3]), (3, [2, 3]), (300000, [2, 3]), (400007, [0])]
def E15 (a19 : T19) : FEnv := [(19, w19 a19)]
theorem E15_good {a19 : T19} (oa19 : FunOK Try.prog 19 (w19 a19)) (la19 : Lin19 a19) : EnvGood Try.prog (E15 a19) := ((EnvGood.nil _).cons oa19 (w19_lin la19))
theorem E15_lin {a19 : T19} (la19 : Lin19 a19) : EnvLin (E15 a19) := by
  intro g F h
  simp only [E15, List.mem_cons, List.not_mem_nil, or_false] at h
  rcases h with h
  · cases h; exact w19_lin la19
noncomputable def b15 : Code := Try.f15.body.getD .skip
noncomputable def c15_0 : Code := (.seq (codeAt [0] b15) (.seq (codeAt [1, 0, 0] b15) (.seq (.cond (.tmp 7) (.seq (codeAt [1, 0, 1, 0, 0] b15) .ret) .skip) (.seq (codeAt [1, 1, 0] b15) .ret))))
noncomputable def g15_p0 (a19 : T19) (R : Type) (t0 : Int) (H : Heap) (kR : V → Int → Heap → Option R) : Option R :=
  alo H (.cells [(V.i .i64 t0)] 3 false) fun i1 h2 =>
  a19 R (Sl.mk (some (i1, 0)) 1 (.ex 1)) h2 fun x3 h4 =>
  sel (!x3) (
    kR V.nilI (1 : Int) h4) (
    alo h4 (.cells [(V.i .i64 (0 : Int)), (V.i .i64 t0)] 53 false) fun i5 h6 =>
    kR (V.ifc 49 (V.p (some (i5, 0)))) (0 : Int) h6)
theorem g15_p0_eq (a19 : T19) (la19 : Lin19 a19) {R : Type} (t0 : Int) (H : Heap) (K : Ex → Fr → Heap → Option R) : ev Try.prog (E15 a19) loopLim Try.f15.ntmps kp15 c15_0 [(0, (V.i .i64 t0))] H K = g15_p0 a19 R t0 H (fun t2 t3 H => K .ret [(2, t2), (3, (V.i .i64 t3))] H) := by kernel_rfl
theorem g15_p0_lin {a19 : T19} (la19 : Lin19 a19) {R S : Type} {k : S → Option R} {t0 : Int} {H : Heap} {fkR : V → Int → Heap → Option R} {gkR : V → Int → Heap → Option S} (hkR : ∀ t2 t3 H, fkR t2 t3 H = (gkR t2 t3 H).bind k) : g15_p0 a19 R t0 H fkR = (g15_p0 a19 S t0 H gkR).bind k := by
  delta g15_p0; exact (
    alo_lin fun i1 h2 =>
    la19.l fun x3 h4 =>
    sl_lin (
      hkR _ _ _) (
      alo_lin fun i5 h6 =>
      hkR _ _ _))
noncomputable def g15_r (a19 : T19) : T15 := fun R t0 H K =>
  g15_p0 a19 R t0 H (fun t2 t3 H =>
    K t2 t3 H)
theorem g15_r_lin {a19 : T19} (la19 : Lin19 a19) : Lin15 (g15_r a19) := by
  constructor
  intro R S k t0 H f g h
  exact g15_p0_lin la19 (fun t2 t3 H =>
    h _ _ _)
theorem g15_fn (a19 : T19) (la19 : Lin19 a19) {R : Type} (t0 : Int) (H : Heap) (K : V → Heap → Option R) : evFn Try.prog (E15 a19) loopLim Try.f15 kp15 [(V.i .i64 t0)] H K = g15_r a19 R t0 H (fun r0 r1 H => K (V.tup [r0, (V.i .i64 r1)]) H) := by
  have h0 : ∀ (t2 : V) (t3 : Int) (H : Heap), kFn Try.prog Try.f15.results.toList K .ret [(2, t2), (3, (V.i .i64 t3))] H =
      K (V.tup [t2, (V.i .i64 t3)]) H := by intros; kernel_rfl
  have e0 := evFn_code2 (P := Try.prog) (c := c15_0) (E := (E15 a19)) (lr := loopLim) (kp := kp15) (fn := Try.f15) (args := [(V.i .i64 t0)]) H K (by kernel_rfl) (Nat.le_of_ble_eq_true (by kernel_rfl)) (by kernel_rfl)
  have e1 : ev Try.prog (E15 a19) loopLim Try.f15.ntmps kp15 c15_0 (argFr 0 [(V.i .i64 t0)]) H (kFn Try.prog Try.f15.results.toList K) = ev Try.prog (E15 a19) loopLim Try.f15.ntmps kp15 c15_0 [(0, (V.i .i64 t0))] H (kFn Try.prog Try.f15.results.toList K) := by kernel_rfl
  refine (e0.trans e1).trans ?_
  delta g15_r
  exact (g15_p0_eq a19 la19 t0 H (kFn Try.prog Try.f15.results.toList K)).trans (congrArg (g15_p0 a19 R t0 H) (funext fun t2 => funext fun t3 => funext fun H => h0 t2 t3 H))
theorem g15_ok {a19 : T19} (oa19 : FunOK Try.prog 19 (w19 a19)) (la19 : Lin19 a19) : FunOK Try.prog 15 (w15 (g15_r a19)) := by
  refine (runF_ok (E15_good oa19 la19) mixed lim_ok Try.func15 (by kernel_rfl) kp15).of_le fun R args H K r hk => ?_
  unfold w15 at hk
  split at hk
  · exact (g15_fn a19 la19 _ H K).trans hk
  · cases hk
def kp17 : Nat → Option (List Nat) := kpOf [(0, [0, 1, 2, 3]), (1, [0, 1, 2, 3, 16]), (2, [8, 9]), (3, [8, 9]), (300000, [8, 9]), (400016, [0, 1, 2, 3])]
def E17 (a19 : T19) : FEnv := [(19, w19 a19)]
theorem E17_good {a19 : T19} (oa19 : FunOK Try.prog 19 (w19 a19)) (la19 : Lin19 a19) : EnvGood Try.prog (E17 a19) := ((EnvGood.nil _).cons oa19 (w19_lin la19))
theorem E17_lin {a19 : T19} (la19 : Lin19 a19) : EnvLin (E17 a19) := by
  intro g F h
  simp only [E17, List.mem_cons, List.not_mem_nil, or_false] at h
  rcases h with h
  · cases h; exact w19_lin la19
noncomputable def b17 : Code := Try.f17.body.getD .skip
noncomputable def c17_0 : Code := (.seq (codeAt [0] b17) (.seq (codeAt [1, 0, 0] b17) (.seq (.cond (.tmp 16) (.seq (codeAt [1, 0, 1, 0, 0] b17) .ret) .skip) (.seq (codeAt [1, 1, 0] b17) .ret))))
noncomputable def g17_p0 (a19 : T19) (R : Type) (t0 : Int) (t1 : Int) (t2 : Int) (t3 : Int) (H : Heap) (kR : V → Int → Heap → Option R) : Option R :=
  alo H (.cells [(V.i .i64 t0), (V.i .i64 t1), (V.i .i64 t2), (V.i .i64 t3)] 3 false) fun i1 h2 =>
  a19 R (Sl.mk (some (i1, 0)) 4 (.ex 4)) h2 fun x3 h4 =>
  sel (!x3) (
    kR V.nilI (1 : Int) h4) (
    alo h4 (.cells [(V.i .i64 (0 : Int)), (V.i .i64 t0), (V.i .i64 t1), (V.i .i64 t2), (V.i .i64 t3), (V.i .i64 (0 : Int)), (V.b false)] 59 false) fun i5 h6 =>
    kR (V.ifc 57 (V.p (some (i5, 0)))) (0 : Int) h6)
theorem g17_p0_eq (a19 : T19) (la19 : Lin19 a19) {R : Type} (t0 : Int) (t1 : Int) (t2 : Int) (t3 : Int) (H : Heap) (K : Ex → Fr → Heap → Option R) : ev Try.prog (E17 a19) loopLim Try.f17.ntmps kp17 c17_0 [(0, (V.i .i64 t0)), (1, (V.i .i64 t1)), (2, (V.i .i64 t2)), (3, (V.i .i64 t3))] H K = g17_p0 a19 R t0 t1 t2 t3 H (fun t8 t9 H => K .ret [(8, t8), (9, (V.i .i64 t9))] H) := by kernel_rfl
theorem g17_p0_lin {a19 : T19} (la19 : Lin19 a19) {R S : Type} {k : S → Option R} {t0 : Int} {t1 : Int} {t2 : Int} {t3 : Int} {H : Heap} {fkR : V → Int → Heap → Option R} {gkR : V → Int → Heap → Option S} (hkR : ∀ t8 t9 H, fkR t8 t9 H = (gkR t8 t9 H).bind k) : g17_p0 a19 R t0 t1 t2 t3 H fkR = (g17_p0 a19 S t0 t1 t2 t3 H gkR).bind k := by
  delta g17_p0; exact (
    alo_lin fun i1 h2 =>
    la19.l fun x3 h4 =>
    sl_lin (
      hkR _ _ _) (
      alo_lin fun i5 h6 =>
      hkR _ _ _))
noncomputable def g17_r (a19 : T19) : T17 := fun R t0 t1 t2 t3 H K =>
  g17_p0 a19 R t0 t1 t2 t3 H (fun t8 t9 H =>
    K t8 t9 H)
theorem g17_r_lin {a19 : T19} (la19 : Lin19 a19) : Lin17 (g17_r a19) := by
  constructor
  intro R S k t0 t1 t2 t3 H f g h
  exact g17_p0_lin la19 (fun t8 t9 H =>
    h _ _ _)
theorem g17_fn (a19 : T19) (la19 : Lin19 a19) {R : Type} (t0 : Int) (t1 : Int) (t2 : Int) (t3 : Int) (H : Heap) (K : V → Heap → Option R) : evFn Try.prog (E17 a19) loopLim Try.f17 kp17 [(V.i .i64 t0), (V.i .i64 t1), (V.i .i64 t2), (V.i .i64 t3)] H K = g17_r a19 R t0 t1 t2 t3 H (fun r0 r1 H => K (V.tup [r0, (V.i .i64 r1)]) H) := by
  have h0 : ∀ (t8 : V) (t9 : Int) (H : Heap), kFn Try.prog Try.f17.results.toList K .ret [(8, t8), (9, (V.i .i64 t9))] H =
      K (V.tup [t8, (V.i .i64 t9)]) H := by intros; kernel_rfl
  have e0 := evFn_code2 (P := Try.prog) (c := c17_0) (E := (E17 a19)) (lr := loopLim) (kp := kp17) (fn := Try.f17) (args := [(V.i .i64 t0), (V.i .i64 t1), (V.i .i64 t2), (V.i .i64 t3)]) H K (by kernel_rfl) (Nat.le_of_ble_eq_true (by kernel_rfl)) (by kernel_rfl)
  have e1 : ev Try.prog (E17 a19) loopLim Try.f17.ntmps kp17 c17_0 (argFr 0 [(V.i .i64 t0), (V.i .i64 t1), (V.i .i64 t2), (V.i .i64 t3)]) H (kFn Try.prog Try.f17.results.toList K) = ev Try.prog (E17 a19) loopLim Try.f17.ntmps kp17 c17_0 [(0, (V.i .i64 t0)), (1, (V.i .i64 t1)), (2, (V.i .i64 t2)), (3, (V.i .i64 t3))] H (kFn Try.prog Try.f17.results.toList K) := by kernel_rfl
  refine (e0.trans e1).trans ?_
  delta g17_r
  exact (g17_p0_eq a19 la19 t0 t1 t2 t3 H (kFn Try.prog Try.f17.results.toList K)).trans (congrArg (g17_p0 a19 R t0 t1 t2 t3 H) (funext fun t8 => funext fun t9 => funext fun H => h0 t8 t9 H))
theorem g17_ok {a19 : T19} (oa19 : FunOK Try.prog 19 (w19 a19)) (la19 : Lin19 a19) : FunOK Try.prog 17 (w17 (g17_r a19)) := by
  refine (runF_ok (E17_good oa19 la19) mixed lim_ok Try.func17 (by kernel_rfl) kp17).of_le fun R args H K r hk => ?_
  unfold w17 at hk
  split at hk
  · exact (g17_fn a19 la19 _ _ _ _ H K).trans hk
  · cases hk
def kp10 : Nat → Option (List Nat) := kpOf [(0, [1]), (1, [1, 4, 5, 6, 7]), (2, [4, 5, 6, 7, 17]), (3, [4, 5, 6, 7, 17, 18]), (4, [2, 3]), (5, [4, 5, 6, 7, 25]), (6, [2, 3]), (7, [2, 3]), (100000, [4, 5, 6, 7]), (200000, [4, 5, 6, 7, 17]), (300000, [2, 3]), (400018, [4, 5, 6, 7]), (400025, [4, 5, 6, 7])]
def E10 (a12 : T12) (a16 : T16) (a15 : T15) (a17 : T17) : FEnv := [(12, w12 a12), (16, w16 a16), (15, w15 a15), (17, w17 a17)]
theorem E10_good {a12 : T12} {a16 : T16} {a15 : T15} {a17 : T17} (oa12 : FunOK Try.prog 12 (w12 a12)) (oa16 : FunOK Try.prog 16 (w16 a16)) (oa15 : FunOK Try.prog 15 (w15 a15)) (oa17 : FunOK Try.prog 17 (w17 a17)) (la12 : Lin12 a12) (la16 : Lin16 a16) (la15 : Lin15 a15) (la17 : Lin17 a17) : EnvGood Try.prog (E10 a12 a16 a15 a17) := (((((EnvGood.nil _).cons oa17 (w17_lin la17)).cons oa15 (w15_lin la15)).cons oa16 (w16_lin la16)).cons oa12 (w12_lin la12))
theorem E10_lin {a12 : T12} {a16 : T16} {a15 : T15} {a17 : T17} (la12 : Lin12 a12) (la16 : Lin16 a16) (la15 : Lin15 a15) (la17 : Lin17 a17) : EnvLin (E10 a12 a16 a15 a17) := by
  intro g F h
  simp only [E10, List.mem_cons, List.not_mem_nil, or_false] at h
  rcases h with h | h | h | h
  · cases h; exact w12_lin la12
  · cases h; exact w16_lin la16
  · cases h; exact w15_lin la15
  · cases h; exact w17_lin la17
noncomputable def b10 : Code := Try.f10.body.getD .skip
noncomputable def c10_0 : Code := (.seq (codeAt [0] b10) (.seq (codeAt [1, 0] b10) (.seq (codeAt [1, 1, 0, 0] b10) (.seq (.block 0 (.seq (codeAt [1, 1, 0, 1, 0, 0] b10) (.cond (.tmp 18) (.seq (codeAt [1, 1, 0, 1, 0, 1, 0, 0] b10) .ret) (.seq (codeAt [1, 1, 0, 1, 0, 1, 1, 0] b10) (.cond (.tmp 25) (.seq (codeAt [1, 1, 0, 1, 0, 1, 1, 1, 0, 0] b10) .ret) .skip))))) (.seq (codeAt [1, 1, 1, 0] b10) .ret)))))
noncomputable def g10_p0 (a12 : T12) (a16 : T16) (a15 : T15) (a17 : T17) (R : Type) (t0_0 : Int) (t0_1 : Int) (t0_2 : Int) (t0_3 : Int) (t0_4 : Int) (H : Heap) (kR : V → Int → Heap → Option R) : Option R :=
  alo H (.cells [(V.i .u8 t0_0), (V.i .u8 t0_1), (V.i .u8 t0_2), (V.i .u8 t0_3), (V.i .u8 t0_4)] 23 false) fun i1 h2 =>
  ((h2).ldI .u8 i1 (0 + 0)).bind fun x3 =>
  ((h2).ldI .u8 i1 (0 + 1)).bind fun x4 =>
  ((h2).ldI .u8 i1 (0 + 2)).bind fun x5 =>
  ((h2).ldI .u8 i1 (0 + 3)).bind fun x6 =>
  ((h2).ldI .u8 i1 (0 + 4)).bind fun x7 =>
  a12 R x3 x4 x5 x6 x7 h2 fun x8 x9 x10 x11 h12 =>
  ((h12).ldI .u8 i1 (0 + 0)).bind fun x13 =>
  sel ((Int.tmod x13 (3 : Int)) == (0 : Int)) (
    a16 R x8 x9 h12 fun x14 x15 h16 =>
    if (V.one x14) = true then (
      kR x14 x15 h16)
    else (
      none)) (
    sel ((Int.tmod x13 (3 : Int)) == (1 : Int)) (
      a15 R x8 h12 fun x17 x18 h19 =>
      if (V.one x17) = true then (
        kR x17 x18 h19)
      else (
        none)) (
      a17 R x8 x9 x10 x11 h12 fun x20 x21 h22 =>
      if (V.one x20) = true then (
        kR x20 x21 h22)
      else (
        none)))
theorem g10_p0_eq (a12 : T12) (a16 : T16) (a15 : T15) (a17 : T17) (la12 : Lin12 a12) (la16 : Lin16 a16) (la15 : Lin15 a15) (la17 : Lin17 a17) {R : Type} (t0_0 : Int) (t0_1 : Int) (t0_2 : Int) (t0_3 : Int) (t0_4 : Int) (H : Heap) (K : Ex → Fr → Heap → Option R) : ev Try.prog (E10 a12 a16 a15 a17) loopLim Try.f10.ntmps kp10 c10_0 [(0, (V.agg [(V.i .u8 t0_0), (V.i .u8 t0_1), (V.i .u8 t0_2), (V.i .u8 t0_3), (V.i .u8 t0_4)]))] H K = g10_p0 a12 a16 a15 a17 R t0_0 t0_1 t0_2 t0_3 t0_4 H (fun t2 t3 H => K .ret [(2, t2), (3, (V.i .i64 t3))] H) := by kernel_rfl
theorem g10_p0_lin {a12 : T12} {a16 : T16} {a15 : T15} {a17 : T17} (la12 : Lin12 a12) (la16 : Lin16 a16) (la15 : Lin15 a15) (la17 : Lin17 a17) {R S : Type} {k : S → Option R} {t0_0 : Int} {t0_1 : Int} {t0_2 : Int} {t0_3 : Int} {t0_4 : Int} {H : Heap} {fkR : V → Int → Heap → Option R} {gkR : V → Int → Heap → Option S} (hkR : ∀ t2 t3 H, fkR t2 t3 H = (gkR t2 t3 H).bind k) : g10_p0 a12 a16 a15 a17 R t0_0 t0_1 t0_2 t0_3 t0_4 H fkR = (g10_p0 a12 a16 a15 a17 S t0_0 t0_1 t0_2 t0_3 t0_4 H gkR).bind k := by
  delta g10_p0; exact (
    alo_lin fun i1 h2 =>
    bl fun x3 =>
    bl fun x4 =>
    bl fun x5 =>
    bl fun x6 =>
    bl fun x7 =>
    la12.l fun x8 x9 x10 x11 h12 =>
    bl fun x13 =>
    sl_lin (
      la16.l fun x14 x15 h16 =>
      il (
        hkR _ _ _) (
        rfl)) (
      sl_lin (
        la15.l fun x17 x18 h19 =>
        il (
          hkR _ _ _) (
          rfl)) (
        la17.l fun x20 x21 h22 =>
        il (
          hkR _ _ _) (
          rfl))))
noncomputable def g10_r (a12 : T12) (a16 : T16) (a15 : T15) (a17 : T17) : T10 := fun R t0_0 t0_1 t0_2 t0_3 t0_4 H K =>
  g10_p0 a12 a16 a15 a17 R t0_0 t0_1 t0_2 t0_3 t0_4 H (fun t2 t3 H =>
    K t2 t3 H)
theorem g10_r_lin {a12 : T12} {a16 : T16} {a15 : T15} {a17 : T17} (la12 : Lin12 a12) (la16 : Lin16 a16) (la15 : Lin15 a15) (la17 : Lin17 a17) : Lin10 (g10_r a12 a16 a15 a17) := by
  constructor
  intro R S k t0_0 t0_1 t0_2 t0_3 t0_4 H f g h
  exact g10_p0_lin la12 la16 la15 la17 (fun t2 t3 H =>
    h _ _ _)
theorem g10_fn (a12 : T12) (a16 : T16) (a15 : T15) (a17 : T17) (la12 : Lin12 a12) (la16 : Lin16 a16) (la15 : Lin15 a15) (la17 : Lin17 a17) {R : Type} (t0_0 : Int) (t0_1 : Int) (t0_2 : Int) (t0_3 : Int) (t0_4 : Int) (H : Heap) (K : V → Heap → Option R) : evFn Try.prog (E10 a12 a16 a15 a17) loopLim Try.f10 kp10 [(V.agg [(V.i .u8 t0_0), (V.i .u8 t0_1), (V.i .u8 t0_2), (V.i .u8 t0_3), (V.i .u8 t0_4)])] H K = g10_r a12 a16 a15 a17 R t0_0 t0_1 t0_2 t0_3 t0_4 H (fun r0 r1 H => K (V.tup [r0, (V.i .i64 r1)]) H) := by
  have h0 : ∀ (t2 : V) (t3 : Int) (H : Heap), kFn Try.prog Try.f10.results.toList K .ret [(2, t2), (3, (V.i .i64 t3))] H =
      K (V.tup [t2, (V.i .i64 t3)]) H := by intros; kernel_rfl
  have e0 := evFn_code2 (P := Try.prog) (c := c10_0) (E := (E10 a12 a16 a15 a17)) (lr := loopLim) (kp := kp10) (fn := Try.f10) (args := [(V.agg [(V.i .u8 t0_0), (V.i .u8 t0_1), (V.i .u8 t0_2), (V.i .u8 t0_3), (V.i .u8 t0_4)])]) H K (by kernel_rfl) (Nat.le_of_ble_eq_true (by kernel_rfl)) (by kernel_rfl)
  have e1 : ev Try.prog (E10 a12 a16 a15 a17) loopLim Try.f10.ntmps kp10 c10_0 (argFr 0 [(V.agg [(V.i .u8 t0_0), (V.i .u8 t0_1), (V.i .u8 t0_2), (V.i .u8 t0_3), (V.i .u8 t0_4)])]) H (kFn Try.prog Try.f10.results.toList K) = ev Try.prog (E10 a12 a16 a15 a17) loopLim Try.f10.ntmps kp10 c10_0 [(0, (V.agg [(V.i .u8 t0_0), (V.i .u8 t0_1), (V.i .u8 t0_2), (V.i .u8 t0_3), (V.i .u8 t0_4)]))] H (kFn Try.prog Try.f10.results.toList K) := by kernel_rfl
  refine (e0.trans e1).trans ?_
  delta g10_r
  exact (g10_p0_eq a12 a16 a15 a17 la12 la16 la15 la17 t0_0 t0_1 t0_2 t0_3 t0_4 H (kFn Try.prog Try.f10.results.toList K)).trans (congrArg (g10_p0 a12 a16 a15 a17 R t0_0 t0_1 t0_2 t0_3 t0_4 H) (funext fun t2 => funext fun t3 => funext fun H => h0 t2 t3 H))
theorem g10_ok {a12 : T12} {a16 : T16} {a15 : T15} {a17 : T17} (oa12 : FunOK Try.prog 12 (w12 a12)) (oa16 : FunOK Try.prog 16 (w16 a16)) (oa15 : FunOK Try.prog 15 (w15 a15)) (oa17 : FunOK Try.prog 17 (w17 a17)) (la12 : Lin12 a12) (la16 : Lin16 a16) (la15 : Lin15 a15) (la17 : Lin17 a17) : FunOK Try.prog 10 (w10 (g10_r a12 a16 a15 a17)) := by
  refine (runF_ok (E10_good oa12 oa16 oa15 oa17 la12 la16 la15 la17) mixed lim_ok Try.func10 (by kernel_rfl) kp10).of_le fun R args H K r hk => ?_
  unfold w10 at hk
  split at hk
  · exact (g10_fn a12 a16 a15 a17 la12 la16 la15 la17 _ _ _ _ _ H K).trans hk
  · cases hk
def kp39 : Nat → Option (List Nat) := kpOf [(0, [0]), (1, [2]), (300000, [2])]
def E39 : FEnv := []
theorem E39_good : EnvGood Try.prog E39 := (EnvGood.nil _)
theorem E39_lin : EnvLin E39 := fun g F h => by cases h
noncomputable def b39 : Code := Try.f39.body.getD .skip
noncomputable def c39_0 : Code := (.seq (codeAt [0] b39) (.seq (codeAt [1, 0] b39) .ret))
noncomputable def g39_p0 (R : Type) (t0 : Option (Nat × Nat)) (H : Heap) (kR : Int → Heap → Option R) : Option R :=
  (t0).bind fun q1 =>
  ((H).ldI .i64 q1.1 (q1.2 + 0)).bind fun x2 =>
  kR x2 H
theorem g39_p0_eq {R : Type} (t0 : Option (Nat × Nat)) (H : Heap) (K : Ex → Fr → Heap → Option R) : ev Try.prog E39 loopLim Try.f39.ntmps kp39 c39_0 [(0, (V.p t0))] H K = g39_p0 R t0 H (fun t2 H => K .ret [(2, (V.i .i64 t2))] H) := by kernel_rfl
theorem g39_p0_lin {R S : Type} {k : S → Option R} {t0 : Option (Nat × Nat)} {H : Heap} {fkR : Int → Heap → Option R} {gkR : Int → Heap → Option S} (hkR : ∀ t2 H, fkR t2 H = (gkR t2 H).bind k) : g39_p0 R t0 H fkR = (g39_p0 S t0 H gkR).bind k := by
  delta g39_p0; exact (
    bl fun q1 =>
    bl fun x2 =>
    hkR _ _)
noncomputable def g39_r : T39 := fun R t0 H K =>
  g39_p0 R t0 H (fun t2 H =>
    K t2 H)
theorem g39_r_lin : Lin39 (g39_r) := by
  constructor
  intro R S k t0 H f g h
  exact g39_p0_lin (fun t2 H =>
    h _ _)
theorem g39_fn {R : Type} (t0 : Option (Nat × Nat)) (H : Heap) (K : V → Heap → Option R) : evFn Try.prog E39 loopLim Try.f39 kp39 [(V.p t0)] H K = g39_r R t0 H (fun r0 H => K (V.i .i64 r0) H) := by
  have h0 : ∀ (t2 : Int) (H : Heap), kFn Try.prog Try.f39.results.toList K .ret [(2, (V.i .i64 t2))] H =
      K (V.i .i64 t2) H := by intros; kernel_rfl
  have e0 := evFn_code2 (P := Try.prog) (c := c39_0) (E := E39) (lr := loopLim) (kp := kp39) (fn := Try.f39) (args := [(V.p t0)]) H K (by kernel_rfl) (Nat.le_of_ble_eq_true (by kernel_rfl)) (by kernel_rfl)
  have e1 : ev Try.prog E39 loopLim Try.f39.ntmps kp39 c39_0 (argFr 0 [(V.p t0)]) H (kFn Try.prog Try.f39.results.toList K) = ev Try.prog E39 loopLim Try.f39.ntmps kp39 c39_0 [(0, (V.p t0))] H (kFn Try.prog Try.f39.results.toList K) := by kernel_rfl
  refine (e0.trans e1).trans ?_
  delta g39_r
  exact (g39_p0_eq t0 H (kFn Try.prog Try.f39.results.toList K)).trans (congrArg (g39_p0 R t0 H) (funext fun t2 => funext fun H => h0 t2 H))
theorem g39_ok : FunOK Try.prog 39 (w39 (g39_r)) := by
  refine (runF_ok (E39_good) mixed lim_ok Try.func39 (by kernel_rfl) kp39).of_le fun R args H K r hk => ?_
  unfold w39 at hk
  split at hk
  · exact (g39_fn _ H K).trans hk
  · cases hk
def kp40 : Nat → Option (List Nat) := kpOf [(0, [0]), (1, [2]), (300000, [2])]
def E40 : FEnv := []
theorem E40_good : EnvGood Try.prog E40 := (EnvGood.nil _)
theorem E40_lin : EnvLin E40 := fun g F h => by cases h
noncomputable def b40 : Code := Try.f40.body.getD .skip
noncomputable def c40_0 : Code := (.seq (codeAt [0] b40) (.seq (codeAt [1, 0] b40) .ret))
noncomputable def g40_p0 (R : Type) (t0 : Option (Nat × Nat)) (H : Heap) (kR : Bool → Heap → Option R) : Option R :=
  (t0).bind fun q1 =>
  ((H).ldI .i64 q1.1 (q1.2 + 0)).bind fun x2 =>
  (t0).bind fun q3 =>
  ((H).ldI .i64 q3.1 (q3.2 + 1)).bind fun x4 =>
  kR (x2 == x4) H
theorem g40_p0_eq {R : Type} (t0 : Option (Nat × Nat)) (H : Heap) (K : Ex → Fr → Heap → Option R) : ev Try.prog E40 loopLim Try.f40.ntmps kp40 c40_0 [(0, (V.p t0))] H K = g40_p0 R t0 H (fun t2 H => K .ret [(2, (V.b t2))] H) := by kernel_rfl
theorem g40_p0_lin {R S : Type} {k : S → Option R} {t0 : Option (Nat × Nat)} {H : Heap} {fkR : Bool → Heap → Option R} {gkR : Bool → Heap → Option S} (hkR : ∀ t2 H, fkR t2 H = (gkR t2 H).bind k) : g40_p0 R t0 H fkR = (g40_p0 S t0 H gkR).bind k := by
  delta g40_p0; exact (
    bl fun q1 =>
    bl fun x2 =>
    bl fun q3 =>
    bl fun x4 =>
    hkR _ _)
noncomputable def g40_r : T40 := fun R t0 H K =>
  g40_p0 R t0 H (fun t2 H =>
    K t2 H)
theorem g40_r_lin : Lin40 (g40_r) := by
  constructor
  intro R S k t0 H f g h
  exact g40_p0_lin (fun t2 H =>
    h _ _)
theorem g40_fn {R : Type} (t0 : Option (Nat × Nat)) (H : Heap) (K : V → Heap → Option R) : evFn Try.prog E40 loopLim Try.f40 kp40 [(V.p t0)] H K = g40_r R t0 H (fun r0 H => K (V.b r0) H) := by
  have h0 : ∀ (t2 : Bool) (H : Heap), kFn Try.prog Try.f40.results.toList K .ret [(2, (V.b t2))] H =
      K (V.b t2) H := by intros; kernel_rfl
  have e0 := evFn_code2 (P := Try.prog) (c := c40_0) (E := E40) (lr := loopLim) (kp := kp40) (fn := Try.f40) (args := [(V.p t0)]) H K (by kernel_rfl) (Nat.le_of_ble_eq_true (by kernel_rfl)) (by kernel_rfl)
  have e1 : ev Try.prog E40 loopLim Try.f40.ntmps kp40 c40_0 (argFr 0 [(V.p t0)]) H (kFn Try.prog Try.f40.results.toList K) = ev Try.prog E40 loopLim Try.f40.ntmps kp40 c40_0 [(0, (V.p t0))] H (kFn Try.prog Try.f40.results.toList K) := by kernel_rfl
  refine (e0.trans e1).trans ?_
  delta g40_r
  exact (g40_p0_eq t0 H (kFn Try.prog Try.f40.results.toList K)).trans (congrArg (g40_p0 R t0 H) (funext fun t2 => funext fun H => h0 t2 H))
theorem g40_ok : FunOK Try.prog 40 (w40 (g40_r)) := by
  refine (runF_ok (E40_good) mixed lim_ok Try.func40 (by kernel_rfl) kp40).of_le fun R args H K r hk => ?_
  unfold w40 at hk
  split at hk
  · exact (g40_fn _ H K).trans hk
  · cases hk
end Go.Proofs.Ytbkncpmgpogakaa
