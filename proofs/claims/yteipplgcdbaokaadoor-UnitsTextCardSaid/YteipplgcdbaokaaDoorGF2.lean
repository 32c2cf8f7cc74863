/- Printed: functions as the machine runs them. -/
import Derived.Test.YteipplgcdbaokaaDoorGT
namespace Go.Proofs.YteipplgcdbaokaaDoor
open Go AM Go.RowKit
set_option linter.unusedVariables false
def kp17 : Nat → Option (List Nat) := kpOf [(0, [0, 1]), (1, [0, 1, 10]), (2, [4]), (3, [0, 1, 5]), (4, [0, 1, 5, 14]), (5, [0, 1, 5]), (6, [0, 1, 5, 25]), (7, [4]), (8, [4]), (100000, []), (100001, [0, 1, 5]), (200000, [0, 1, 5]), (200001, [0, 1, 5]), (300000, [4]), (400010, [0, 1]), (400014, [0, 1, 5]), (400025, [0, 1, 5])]
def E17 : FEnv := []
theorem E17_good : EnvGood Tryd.prog E17 := (EnvGood.nil _)
theorem E17_lin : EnvLin E17 := fun g F h => by cases h
noncomputable def b17 : Code := Tryd.f17.body.getD .skip
noncomputable def c17_0 : Code := (.seq (codeAt [1, 1, 0, 1, 0, 0, 0, 0] b17) (.seq (.cond (.tmp 14) .skip (.exit 0)) (.seq (.block 1 (.seq (codeAt [1, 1, 0, 1, 0, 0, 1, 0, 0, 0] b17) (.cond (.tmp 25) (.seq (codeAt [1, 1, 0, 1, 0, 0, 1, 0, 0, 1, 0, 0] b17) .ret) .skip))) (codeAt [1, 1, 0, 1, 0, 0, 1, 1] b17))))
noncomputable def c17_1 : Code := (.loop c17_0)
noncomputable def c17_2 : Code := (.block 0 c17_1)
noncomputable def c17_3 : Code := (.seq (codeAt [1, 1, 1, 0] b17) .ret)
noncomputable def c17_4 : Code := (.seq c17_2 c17_3)
noncomputable def c17_5 : Code := (.seq (codeAt [0] b17) (.seq (codeAt [1, 0, 0] b17) (.seq (.cond (.tmp 10) (.seq (codeAt [1, 0, 1, 0, 0] b17) .ret) .skip) (.seq (codeAt [1, 1, 0, 0] b17) c17_4))))
noncomputable def g17_p0 (R : Type) (t0 : Sl) (t1 : Sl) (H : Heap) (kN : Sl → Sl → Int → Heap → Option R) (kR : Bool → Heap → Option R) : Option R :=
  sel (((t0.len : Nat) : Int) != ((t1.len : Nat) : Int)) (
    kR false H) (
    kN t0 t1 (0 : Int) H)
theorem g17_p0_eq {R : Type} (c2 : Code) (t0 : Sl) (t1 : Sl) (H : Heap) (K : Ex → Fr → Heap → Option R) : ev Tryd.prog E17 loopLim Tryd.f17.ntmps kp17 (.seq (codeAt [0] b17) (.seq (codeAt [1, 0, 0] b17) (.seq (.cond (.tmp 10) (.seq (codeAt [1, 0, 1, 0, 0] b17) .ret) .skip) (.seq (codeAt [1, 1, 0, 0] b17) c2)))) [(0, (V.sl t0)), (1, (V.sl t1))] H K = g17_p0 R t0 t1 H (fun t0 t1 t5 H => ev Tryd.prog E17 loopLim Tryd.f17.ntmps kp17 c2 [(0, (V.sl t0)), (1, (V.sl t1)), (5, (V.i .i64 t5))] H K) (fun t4 H => K .ret [(4, (V.b t4))] H) := by kernel_rfl
theorem g17_p0_lin {R S : Type} {k : S → Option R} {t0 : Sl} {t1 : Sl} {H : Heap} {fkN : Sl → Sl → Int → Heap → Option R} {gkN : Sl → Sl → Int → Heap → Option S} {fkR : Bool → Heap → Option R} {gkR : Bool → Heap → Option S} (hkN : ∀ t0 t1 t5 H, fkN t0 t1 t5 H = (gkN t0 t1 t5 H).bind k) (hkR : ∀ t4 H, fkR t4 H = (gkR t4 H).bind k) : g17_p0 R t0 t1 H fkN fkR = (g17_p0 S t0 t1 H gkN gkR).bind k := by
  delta g17_p0; exact (
    sl_lin (
      hkR _ _) (
      hkN _ _ _ _))
noncomputable def g17_p1 (R : Type) (t0 : Sl) (t1 : Sl) (t5 : Int) (H : Heap) (kN : Sl → Sl → Int → Heap → Option R) (kE0 : Heap → Option R) (kR : Bool → Heap → Option R) : Option R :=
  sel (decide (t5 < ((t0.len : Nat) : Int))) (
    if 0 ≤ t5 ∧ t5 < ((t0.len : Nat) : Int) then (
      (t0.a).bind fun q1 =>
      ((H).ldI .u8 q1.1 (q1.2 + Int.toNat t5 * 1)).bind fun x2 =>
      if 0 ≤ t5 ∧ t5 < ((t1.len : Nat) : Int) then (
        (t1.a).bind fun q3 =>
        ((H).ldI .u8 q3.1 (q3.2 + Int.toNat t5 * 1)).bind fun x4 =>
        sel (x2 != x4) (
          kR false H) (
          kN t0 t1 (IntKind.wrap .i64 (t5 + (1 : Int))) H))
      else (
        none))
    else (
      none)) (
    kE0 H)
theorem g17_p1_eq {R : Type} (t0 : Sl) (t1 : Sl) (t5 : Int) (H : Heap) (K : Ex → Fr → Heap → Option R) : ev Tryd.prog E17 loopLim Tryd.f17.ntmps kp17 c17_0 [(0, (V.sl t0)), (1, (V.sl t1)), (5, (V.i .i64 t5))] H K = g17_p1 R t0 t1 t5 H (fun t0 t1 t5 H => K .normal [(0, (V.sl t0)), (1, (V.sl t1)), (5, (V.i .i64 t5))] H) (fun H => K (.exit 0) [] H) (fun t4 H => K .ret [(4, (V.b t4))] H) := by kernel_rfl
theorem g17_p1_lin {R S : Type} {k : S → Option R} {t0 : Sl} {t1 : Sl} {t5 : Int} {H : Heap} {fkN : Sl → Sl → Int → Heap → Option R} {gkN : Sl → Sl → Int → Heap → Option S} {fkE0 : Heap → Option R} {gkE0 : Heap → Option S} {fkR : Bool → Heap → Option R} {gkR : Bool → Heap → Option S} (hkN : ∀ t0 t1 t5 H, fkN t0 t1 t5 H = (gkN t0 t1 t5 H).bind k) (hkE0 : ∀ H, fkE0 H = (gkE0 H).bind k) (hkR : ∀ t4 H, fkR t4 H = (gkR t4 H).bind k) : g17_p1 R t0 t1 t5 H fkN fkE0 fkR = (g17_p1 S t0 t1 t5 H gkN gkE0 gkR).bind k := by
  delta g17_p1; exact (
    sl_lin (
      il (
        bl fun q1 =>
        bl fun x2 =>
        il (
          bl fun q3 =>
          bl fun x4 =>
          sl_lin (
            hkR _ _) (
            hkN _ _ _ _)) (
          rfl)) (
        rfl)) (
      hkE0 _))
abbrev g17_p2_S := Sl × Sl × Int
abbrev g17_p2_O := Sum (Unit) (Bool)
def g17_p2_es (s : g17_p2_S) : Fr := [(0, (V.sl s.1)), (1, (V.sl s.2.1)), (5, (V.i .i64 s.2.2))]
def g17_p2_er : g17_p2_O → Ex × Fr
  | (.inl r) => ((.exit 0), [])
  | (.inr r) => (.ret, [(4, (V.b r))])
noncomputable def g17_p2_b (s : g17_p2_S) (H : Heap) : Option (Rd g17_p2_S g17_p2_O × Heap) :=
  g17_p1 _ s.1 s.2.1 s.2.2 H (fun t0 t1 t5 H => some (.go (t0, t1, t5), H)) (fun H => some (.up (.inl ()), H)) (fun t4 H => some (.up (.inr t4), H))
noncomputable def g17_p2 (R : Type) (t0 : Sl) (t1 : Sl) (t5 : Int) (H : Heap) (kE0 : Heap → Option R) (kR : Bool → Heap → Option R) : Option R :=
  (tlim (g17_p2_b) (t0, t1, t5) H).bind fun p => cas p.1 (fun r => kE0  p.2) (fun r0 => kR r0 p.2)
theorem g17_p2_lin {R S : Type} {k : S → Option R} {t0 : Sl} {t1 : Sl} {t5 : Int} {H : Heap} {fkE0 : Heap → Option R} {gkE0 : Heap → Option S} {fkR : Bool → Heap → Option R} {gkR : Bool → Heap → Option S} (hkE0 : ∀ H, fkE0 H = (gkE0 H).bind k) (hkR : ∀ t4 H, fkR t4 H = (gkR t4 H).bind k) : g17_p2 R t0 t1 t5 H fkE0 fkR = (g17_p2 S t0 t1 t5 H gkE0 gkR).bind k := by
  exact bl fun p => cas_lin (fun _ => hkE0 _) (fun _ => hkR _ _)
theorem g17_p2_eq {R : Type} (t0 : Sl) (t1 : Sl) (t5 : Int) (H : Heap) (K : Ex → Fr → Heap → Option R) : ev Tryd.prog E17 loopLim Tryd.f17.ntmps kp17 c17_1 [(0, (V.sl t0)), (1, (V.sl t1)), (5, (V.i .i64 t5))] H K = g17_p2 R t0 t1 t5 H (fun H => K (.exit 0) [] H) (fun t4 H => K .ret [(4, (V.b t4))] H) := by
  show ev Tryd.prog E17 loopLim Tryd.f17.ntmps kp17 (.loop c17_0) [(0, (V.sl t0)), (1, (V.sl t1)), (5, (V.i .i64 t5))] H K = _
  delta g17_p2
  refine (ev_tlim (b := g17_p2_b) (es := g17_p2_es) (er := g17_p2_er) (by rintro (r | r) <;> exact nofun) (fun s H => ?_) (t0, t1, t5) H K).trans (bc fun p => by rcases p with ⟨(r | r), H⟩ <;> rfl)
  exact (g17_p1_eq s.1 s.2.1 s.2.2 H ret3).trans (g17_p1_lin (fun _ _ _ _ => rfl) (fun _ => rfl) (fun _ _ => rfl))
noncomputable def g17_p3 (R : Type) (t0 : Sl) (t1 : Sl) (t5 : Int) (H : Heap) (kN : Heap → Option R) (kR : Bool → Heap → Option R) : Option R :=
  g17_p2 R t0 t1 t5 H (fun H => kN  H) (fun t4 H => kR t4 H)
theorem g17_p3_lin {R S : Type} {k : S → Option R} {t0 : Sl} {t1 : Sl} {t5 : Int} {H : Heap} {fkN : Heap → Option R} {gkN : Heap → Option S} {fkR : Bool → Heap → Option R} {gkR : Bool → Heap → Option S} (hkN : ∀ H, fkN H = (gkN H).bind k) (hkR : ∀ t4 H, fkR t4 H = (gkR t4 H).bind k) : g17_p3 R t0 t1 t5 H fkN fkR = (g17_p3 S t0 t1 t5 H gkN gkR).bind k := by
  exact g17_p2_lin (fun _ => hkN _) (fun _ _ => hkR _ _)
theorem g17_p3_eq {R : Type} (t0 : Sl) (t1 : Sl) (t5 : Int) (H : Heap) (K : Ex → Fr → Heap → Option R) : ev Tryd.prog E17 loopLim Tryd.f17.ntmps kp17 c17_2 [(0, (V.sl t0)), (1, (V.sl t1)), (5, (V.i .i64 t5))] H K = g17_p3 R t0 t1 t5 H (fun H => K .normal [] H) (fun t4 H => K .ret [(4, (V.b t4))] H) := by
  show ev Tryd.prog E17 loopLim Tryd.f17.ntmps kp17 (.block 0 c17_1) [(0, (V.sl t0)), (1, (V.sl t1)), (5, (V.i .i64 t5))] H K = _
  rw [ev_block]
  delta g17_p3
  exact (g17_p2_eq t0 t1 t5 H (kBlock kp17 0 K))
noncomputable def g17_p4 (R : Type) (H : Heap) (kR : Bool → Heap → Option R) : Option R :=
  kR true H
theorem g17_p4_eq {R : Type} (H : Heap) (K : Ex → Fr → Heap → Option R) : ev Tryd.prog E17 loopLim Tryd.f17.ntmps kp17 c17_3 [] H K = g17_p4 R H (fun t4 H => K .ret [(4, (V.b t4))] H) := by kernel_rfl
theorem g17_p4_lin {R S : Type} {k : S → Option R} {H : Heap} {fkR : Bool → Heap → Option R} {gkR : Bool → Heap → Option S} (hkR : ∀ t4 H, fkR t4 H = (gkR t4 H).bind k) : g17_p4 R H fkR = (g17_p4 S H gkR).bind k := by
  delta g17_p4; exact (
    hkR _ _)
noncomputable def g17_p5 (R : Type) (t0 : Sl) (t1 : Sl) (t5 : Int) (H : Heap) (kR : Bool → Heap → Option R) : Option R :=
  g17_p3 R t0 t1 t5 H (fun H => g17_p4 R H (fun t4 H => kR t4 H)) (fun t4 H => kR t4 H)
theorem g17_p5_lin {R S : Type} {k : S → Option R} {t0 : Sl} {t1 : Sl} {t5 : Int} {H : Heap} {fkR : Bool → Heap → Option R} {gkR : Bool → Heap → Option S} (hkR : ∀ t4 H, fkR t4 H = (gkR t4 H).bind k) : g17_p5 R t0 t1 t5 H fkR = (g17_p5 S t0 t1 t5 H gkR).bind k := by
  exact g17_p3_lin (fun _ => g17_p4_lin (fun _ _ => hkR _ _)) (fun _ _ => hkR _ _)
theorem g17_p5_eq {R : Type} (t0 : Sl) (t1 : Sl) (t5 : Int) (H : Heap) (K : Ex → Fr → Heap → Option R) : ev Tryd.prog E17 loopLim Tryd.f17.ntmps kp17 c17_4 [(0, (V.sl t0)), (1, (V.sl t1)), (5, (V.i .i64 t5))] H K = g17_p5 R t0 t1 t5 H (fun t4 H => K .ret [(4, (V.b t4))] H) := by
  show ev Tryd.prog E17 loopLim Tryd.f17.ntmps kp17 (.seq c17_2 c17_3) [(0, (V.sl t0)), (1, (V.sl t1)), (5, (V.i .i64 t5))] H K = _
  rw [ev_seq]
  delta g17_p5
  exact (g17_p3_eq t0 t1 t5 H (kSeq (fun fr H => ev Tryd.prog E17 loopLim Tryd.f17.ntmps kp17 c17_3 fr H K) K)).trans (congr (congrArg (g17_p3 R t0 t1 t5 H) (funext fun H => (kSeq_n _ _ _ _).trans (g17_p4_eq H K))) rfl)
noncomputable def g17_p6 (R : Type) (t0 : Sl) (t1 : Sl) (H : Heap) (kR : Bool → Heap → Option R) : Option R :=
  g17_p0 R t0 t1 H (fun t0 t1 t5 H => g17_p5 R t0 t1 t5 H (fun t4 H => kR t4 H)) (fun t4 H => kR t4 H)
theorem g17_p6_lin {R S : Type} {k : S → Option R} {t0 : Sl} {t1 : Sl} {H : Heap} {fkR : Bool → Heap → Option R} {gkR : Bool → Heap → Option S} (hkR : ∀ t4 H, fkR t4 H = (gkR t4 H).bind k) : g17_p6 R t0 t1 H fkR = (g17_p6 S t0 t1 H gkR).bind k := by
  exact g17_p0_lin (fun _ _ _ _ => g17_p5_lin (fun _ _ => hkR _ _)) (fun _ _ => hkR _ _)
theorem g17_p6_eq {R : Type} (t0 : Sl) (t1 : Sl) (H : Heap) (K : Ex → Fr → Heap → Option R) : ev Tryd.prog E17 loopLim Tryd.f17.ntmps kp17 c17_5 [(0, (V.sl t0)), (1, (V.sl t1))] H K = g17_p6 R t0 t1 H (fun t4 H => K .ret [(4, (V.b t4))] H) := by
  show ev Tryd.prog E17 loopLim Tryd.f17.ntmps kp17 (.seq (codeAt [0] b17) (.seq (codeAt [1, 0, 0] b17) (.seq (.cond (.tmp 10) (.seq (codeAt [1, 0, 1, 0, 0] b17) .ret) .skip) (.seq (codeAt [1, 1, 0, 0] b17) c17_4)))) [(0, (V.sl t0)), (1, (V.sl t1))] H K = _
  delta g17_p6
  exact (g17_p0_eq _ t0 t1 H K).trans (congr (congrArg (g17_p0 R t0 t1 H) (funext fun t0 => funext fun t1 => funext fun t5 => funext fun H => g17_p5_eq t0 t1 t5 H K)) rfl)
noncomputable def g17_r : T17 := fun R t0 t1 H K =>
  g17_p6 R t0 t1 H (fun t4 H =>
    K t4 H)
theorem g17_r_lin : Lin17 (g17_r) := by
  constructor
  intro R S k t0 t1 H f g h
  exact g17_p6_lin (fun t4 H =>
    h _ _)
theorem g17_fn {R : Type} (t0 : Sl) (t1 : Sl) (H : Heap) (K : V → Heap → Option R) : evFn Tryd.prog E17 loopLim Tryd.f17 kp17 [(V.sl t0), (V.sl t1)] H K = g17_r R t0 t1 H (fun r0 H => K (V.b r0) H) := by
  have h0 : ∀ (t4 : Bool) (H : Heap), kFn Tryd.prog Tryd.f17.results.toList K .ret [(4, (V.b t4))] H =
      K (V.b t4) H := by intros; kernel_rfl
  have e0 := evFn_code2 (P := Tryd.prog) (c := c17_5) (E := E17) (lr := loopLim) (kp := kp17) (fn := Tryd.f17) (args := [(V.sl t0), (V.sl t1)]) H K (by kernel_rfl) (Nat.le_of_ble_eq_true (by kernel_rfl)) (by kernel_rfl)
  have e1 : ev Tryd.prog E17 loopLim Tryd.f17.ntmps kp17 c17_5 (argFr 0 [(V.sl t0), (V.sl t1)]) H (kFn Tryd.prog Tryd.f17.results.toList K) = ev Tryd.prog E17 loopLim Tryd.f17.ntmps kp17 c17_5 [(0, (V.sl t0)), (1, (V.sl t1))] H (kFn Tryd.prog Tryd.f17.results.toList K) := by kernel_rfl
  refine (e0.trans e1).trans ?_
  delta g17_r
  exact (g17_p6_eq t0 t1 H (kFn Tryd.prog Tryd.f17.results.toList K)).trans (congrArg (g17_p6 R t0 t1 H) (funext fun t4 => funext fun H => h0 t4 H))
theorem g17_ok : FunOK Tryd.prog 17 (w17 (g17_r)) := by
  refine (runF_ok (E17_good) mixed lim_ok Tryd.func17 (by kernel_rfl) kp17).of_le fun R args H K r hk => ?_
  unfold w17 at hk
  split at hk
  · exact (g17_fn _ _ H K).trans hk
  · cases hk
def kp13 : Nat → Option (List Nat) := kpOf [(0, [0, 1]), (1, [15]), (2, [4]), (3, [4]), (300000, [4]), (400015, [])]
def E13 (a17 : T17) : FEnv := [(17, w17 a17)]
theorem E13_good {a17 : T17} (oa17 : FunOK Tryd.prog 17 (w17 a17)) (la17 : Lin17 a17) : EnvGood Tryd.prog (E13 a17) := ((EnvGood.nil _).cons oa17 (w17_lin la17))
theorem E13_lin {a17 : T17} (la17 : Lin17 a17) : EnvLin (E13 a17) := by
  intro g F h
  simp only [E13, List.mem_cons, List.not_mem_nil, or_false] at h
  rcases h with h
  · cases h; exact w17_lin la17
noncomputable def b13 : Code := Tryd.f13.body.getD .skip
noncomputable def c13_0 : Code := (.seq (codeAt [0] b13) (.seq (codeAt [1, 0, 0] b13) (.seq (.cond (.tmp 15) (.seq (codeAt [1, 0, 1, 0, 0] b13) .ret) .skip) (.seq (codeAt [1, 1, 0] b13) .ret))))
noncomputable def g13_p0 (a17 : T17) (R : Type) (t0 : Sl) (t1 : Sl) (H : Heap) (kR : Int → Heap → Option R) : Option R :=
  capK t0.cap fun c1 =>
  sel (decide (((c1 : Nat) : Int) > ((t0.len : Nat) : Int))) (
    kR (1 : Int) H) (
    a17 R t0 t1 H fun x2 h3 =>
    sel (!x2) (
      kR (1 : Int) h3) (
      kR (0 : Int) h3))
theorem g13_p0_eq (a17 : T17) (la17 : Lin17 a17) {R : Type} (t0 : Sl) (t1 : Sl) (H : Heap) (K : Ex → Fr → Heap → Option R) : ev Tryd.prog (E13 a17) loopLim Tryd.f13.ntmps kp13 c13_0 [(0, (V.sl t0)), (1, (V.sl t1))] H K = g13_p0 a17 R t0 t1 H (fun t4 H => K .ret [(4, (V.i .i64 t4))] H) := by kernel_rfl
theorem g13_p0_lin {a17 : T17} (la17 : Lin17 a17) {R S : Type} {k : S → Option R} {t0 : Sl} {t1 : Sl} {H : Heap} {fkR : Int → Heap → Option R} {gkR : Int → Heap → Option S} (hkR : ∀ t4 H, fkR t4 H = (gkR t4 H).bind k) : g13_p0 a17 R t0 t1 H fkR = (g13_p0 a17 S t0 t1 H gkR).bind k := by
  delta g13_p0; exact (
    capK_lin fun c1 =>
    sl_lin (
      hkR _ _) (
      la17.l fun x2 h3 =>
      sl_lin (
        hkR _ _) (
        hkR _ _)))
noncomputable def g13_r (a17 : T17) : T13 := fun R t0 t1 H K =>
  g13_p0 a17 R t0 t1 H (fun t4 H =>
    K t4 H)
theorem g13_r_lin {a17 : T17} (la17 : Lin17 a17) : Lin13 (g13_r a17) := by
  constructor
  intro R S k t0 t1 H f g h
  exact g13_p0_lin la17 (fun t4 H =>
    h _ _)
theorem g13_fn (a17 : T17) (la17 : Lin17 a17) {R : Type} (t0 : Sl) (t1 : Sl) (H : Heap) (K : V → Heap → Option R) : evFn Tryd.prog (E13 a17) loopLim Tryd.f13 kp13 [(V.sl t0), (V.sl t1)] H K = g13_r a17 R t0 t1 H (fun r0 H => K (V.i .i64 r0) H) := by
  have h0 : ∀ (t4 : Int) (H : Heap), kFn Tryd.prog Tryd.f13.results.toList K .ret [(4, (V.i .i64 t4))] H =
      K (V.i .i64 t4) H := by intros; kernel_rfl
  have e0 := evFn_code2 (P := Tryd.prog) (c := c13_0) (E := (E13 a17)) (lr := loopLim) (kp := kp13) (fn := Tryd.f13) (args := [(V.sl t0), (V.sl t1)]) H K (by kernel_rfl) (Nat.le_of_ble_eq_true (by kernel_rfl)) (by kernel_rfl)
  have e1 : ev Tryd.prog (E13 a17) loopLim Tryd.f13.ntmps kp13 c13_0 (argFr 0 [(V.sl t0), (V.sl t1)]) H (kFn Tryd.prog Tryd.f13.results.toList K) = ev Tryd.prog (E13 a17) loopLim Tryd.f13.ntmps kp13 c13_0 [(0, (V.sl t0)), (1, (V.sl t1))] H (kFn Tryd.prog Tryd.f13.results.toList K) := by kernel_rfl
  refine (e0.trans e1).trans ?_
  delta g13_r
  exact (g13_p0_eq a17 la17 t0 t1 H (kFn Tryd.prog Tryd.f13.results.toList K)).trans (congrArg (g13_p0 a17 R t0 t1 H) (funext fun t4 => funext fun H => h0 t4 H))
theorem g13_ok {a17 : T17} (oa17 : FunOK Tryd.prog 17 (w17 a17)) (la17 : Lin17 a17) : FunOK Tryd.prog 13 (w13 (g13_r a17)) := by
  refine (runF_ok (E13_good oa17 la17) mixed lim_ok Tryd.func13 (by kernel_rfl) kp13).of_le fun R args H K r hk => ?_
  unfold w13 at hk
  split at hk
  · exact (g13_fn a17 la17 _ _ H K).trans hk
  · cases hk
def kp3 : Nat → Option (List Nat) := kpOf [(0, [1]), (1, [1, 9]), (2, [2]), (3, [1, 3]), (4, [1, 3, 4, 5]), (5, [1, 3, 4, 26]), (6, [2]), (7, [1, 4, 28]), (8, [2]), (9, [2]), (300000, [2]), (400009, [1]), (400026, [1, 3, 4]), (400028, [1, 4])]
def E3 (a8 : T8) (a9 : T9) (a10 : T10) (a11 : T11) (a12 : T12) (a14 : T14) (a13 : T13) : FEnv := [(8, w8 a8), (9, w9 a9), (10, w10 a10), (11, w11 a11), (12, w12 a12), (14, w14 a14), (13, w13 a13)]
theorem E3_good {a8 : T8} {a9 : T9} {a10 : T10} {a11 : T11} {a12 : T12} {a14 : T14} {a13 : T13} (oa8 : FunOK Tryd.prog 8 (w8 a8)) (oa9 : FunOK Tryd.prog 9 (w9 a9)) (oa10 : FunOK Tryd.prog 10 (w10 a10)) (oa11 : FunOK Tryd.prog 11 (w11 a11)) (oa12 : FunOK Tryd.prog 12 (w12 a12)) (oa14 : FunOK Tryd.prog 14 (w14 a14)) (oa13 : FunOK Tryd.prog 13 (w13 a13)) (la8 : Lin8 a8) (la9 : Lin9 a9) (la10 : Lin10 a10) (la11 : Lin11 a11) (la12 : Lin12 a12) (la14 : Lin14 a14) (la13 : Lin13 a13) : EnvGood Tryd.prog (E3 a8 a9 a10 a11 a12 a14 a13) := ((((((((EnvGood.nil _).cons oa13 (w13_lin la13)).cons oa14 (w14_lin la14)).cons oa12 (w12_lin la12)).cons oa11 (w11_lin la11)).cons oa10 (w10_lin la10)).cons oa9 (w9_lin la9)).cons oa8 (w8_lin la8))
theorem E3_lin {a8 : T8} {a9 : T9} {a10 : T10} {a11 : T11} {a12 : T12} {a14 : T14} {a13 : T13} (la8 : Lin8 a8) (la9 : Lin9 a9) (la10 : Lin10 a10) (la11 : Lin11 a11) (la12 : Lin12 a12) (la14 : Lin14 a14) (la13 : Lin13 a13) : EnvLin (E3 a8 a9 a10 a11 a12 a14 a13) := by
  intro g F h
  simp only [E3, List.mem_cons, List.not_mem_nil, or_false] at h
  rcases h with h | h | h | h | h | h | h
  · cases h; exact w8_lin la8
  · cases h; exact w9_lin la9
  · cases h; exact w10_lin la10
  · cases h; exact w11_lin la11
  · cases h; exact w12_lin la12
  · cases h; exact w14_lin la14
  · cases h; exact w13_lin la13
noncomputable def b3 : Code := Tryd.f3.body.getD .skip
noncomputable def c3_0 : Code := (.seq (codeAt [0] b3) (.seq (codeAt [1, 0, 0] b3) (.seq (.cond (.tmp 9) (.seq (codeAt [1, 0, 1, 0, 0] b3) .ret) .skip) (.seq (codeAt [1, 1, 0] b3) (.seq (codeAt [1, 1, 1, 0] b3) (.seq (codeAt [1, 1, 1, 1, 0, 0] b3) (.seq (.cond (.tmp 26) (.seq (codeAt [1, 1, 1, 1, 0, 1, 0, 0] b3) .ret) .skip) (.seq (codeAt [1, 1, 1, 1, 1, 0, 0] b3) (.seq (.cond (.tmp 28) (.seq (codeAt [1, 1, 1, 1, 1, 0, 1, 0, 0] b3) .ret) .skip) (.seq (codeAt [1, 1, 1, 1, 1, 1, 0] b3) .ret))))))))))
noncomputable def g3_p0 (a8 : T8) (a9 : T9) (a10 : T10) (a11 : T11) (a12 : T12) (a14 : T14) (a13 : T13) (R : Type) (t0_0 : Int) (t0_1 : Bool) (t0_2 : Int) (t0_3 : Bool) (t0_4 : Int) (t0_5 : Int) (t0_6 : Sl) (H : Heap) (kR : Bool → Heap → Option R) : Option R :=
  alo H (.cells [(V.i .u8 t0_0), (V.b t0_1), (V.i .u8 t0_2), (V.b t0_3), (V.i .u8 t0_4), (V.i .u8 t0_5), (V.sl t0_6)] 25 false) fun i1 h2 =>
  ((h2).ldSl i1 (0 + 6)).bind fun x3 =>
  sel (decide (((x3.len : Nat) : Int) > (400 : Int))) (
    a8 R h2 fun x4 h5 =>
    kR x4 h5) (
    ((h2).ldI .u8 i1 (0 + 0)).bind fun x6 =>
    ((h2).ldB i1 (0 + 1)).bind fun x7 =>
    ((h2).ldI .u8 i1 (0 + 2)).bind fun x8 =>
    ((h2).ldB i1 (0 + 3)).bind fun x9 =>
    ((h2).ldI .u8 i1 (0 + 4)).bind fun x10 =>
    ((h2).ldI .u8 i1 (0 + 5)).bind fun x11 =>
    ((h2).ldSl i1 (0 + 6)).bind fun x12 =>
    a9 R x6 x7 x8 x9 x10 x11 x12 h2 fun x13 h14 =>
    ((h14).ldI .u8 i1 (0 + 0)).bind fun x15 =>
    ((h14).ldB i1 (0 + 1)).bind fun x16 =>
    ((h14).ldI .u8 i1 (0 + 2)).bind fun x17 =>
    ((h14).ldB i1 (0 + 3)).bind fun x18 =>
    ((h14).ldI .u8 i1 (0 + 4)).bind fun x19 =>
    ((h14).ldI .u8 i1 (0 + 5)).bind fun x20 =>
    ((h14).ldSl i1 (0 + 6)).bind fun x21 =>
    a10 R x15 x16 x17 x18 x19 x20 x21 h14 fun x22 x23 h24 =>
    ((h24).ldI .u8 i1 (0 + 0)).bind fun x25 =>
    ((h24).ldB i1 (0 + 1)).bind fun x26 =>
    ((h24).ldI .u8 i1 (0 + 2)).bind fun x27 =>
    ((h24).ldB i1 (0 + 3)).bind fun x28 =>
    ((h24).ldI .u8 i1 (0 + 4)).bind fun x29 =>
    ((h24).ldI .u8 i1 (0 + 5)).bind fun x30 =>
    ((h24).ldSl i1 (0 + 6)).bind fun x31 =>
    a11 R x25 x26 x27 x28 x29 x30 x31 h24 fun x32 h33 =>
    sel (x32 != x13) (
      kR false h33) (
      sel (x23 != x13) (
        kR false h33) (
        sel (x13 != (0 : Int)) (
          sel (((x22.len : Nat) : Int) == (0 : Int)) (
            ((h33).ldI .u8 i1 (0 + 0)).bind fun x34 =>
            ((h33).ldB i1 (0 + 1)).bind fun x35 =>
            ((h33).ldI .u8 i1 (0 + 2)).bind fun x36 =>
            ((h33).ldB i1 (0 + 3)).bind fun x37 =>
            ((h33).ldI .u8 i1 (0 + 4)).bind fun x38 =>
            ((h33).ldI .u8 i1 (0 + 5)).bind fun x39 =>
            ((h33).ldSl i1 (0 + 6)).bind fun x40 =>
            a12 R x34 x35 x36 x37 x38 x39 x40 h33 fun x41 h42 =>
            sel (strEq x41 str2) (
              a8 R h42 fun x43 h44 =>
              kR x43 h44) (
              kR false h42)) (
            kR false h33)) (
          ((h33).ldI .u8 i1 (0 + 0)).bind fun x45 =>
          ((h33).ldB i1 (0 + 1)).bind fun x46 =>
          ((h33).ldI .u8 i1 (0 + 2)).bind fun x47 =>
          ((h33).ldB i1 (0 + 3)).bind fun x48 =>
          ((h33).ldI .u8 i1 (0 + 4)).bind fun x49 =>
          ((h33).ldI .u8 i1 (0 + 5)).bind fun x50 =>
          ((h33).ldSl i1 (0 + 6)).bind fun x51 =>
          a14 R x45 x46 x47 x48 x49 x50 x51 h33 fun x52 h53 =>
          a13 R x22 x52 h53 fun x54 h55 =>
          sel (x54 == (0 : Int)) (
            ((h55).ldI .u8 i1 (0 + 0)).bind fun x56 =>
            ((h55).ldB i1 (0 + 1)).bind fun x57 =>
            ((h55).ldI .u8 i1 (0 + 2)).bind fun x58 =>
            ((h55).ldB i1 (0 + 3)).bind fun x59 =>
            ((h55).ldI .u8 i1 (0 + 4)).bind fun x60 =>
            ((h55).ldI .u8 i1 (0 + 5)).bind fun x61 =>
            ((h55).ldSl i1 (0 + 6)).bind fun x62 =>
            a12 R x56 x57 x58 x59 x60 x61 x62 h55 fun x63 h64 =>
            sel (!strEq x63 str2) (
              a8 R h64 fun x65 h66 =>
              kR x65 h66) (
              kR false h64)) (
            kR false h55)))))
theorem g3_p0_eq (a8 : T8) (a9 : T9) (a10 : T10) (a11 : T11) (a12 : T12) (a14 : T14) (a13 : T13) (la8 : Lin8 a8) (la9 : Lin9 a9) (la10 : Lin10 a10) (la11 : Lin11 a11) (la12 : Lin12 a12) (la14 : Lin14 a14) (la13 : Lin13 a13) {R : Type} (t0_0 : Int) (t0_1 : Bool) (t0_2 : Int) (t0_3 : Bool) (t0_4 : Int) (t0_5 : Int) (t0_6 : Sl) (H : Heap) (K : Ex → Fr → Heap → Option R) : ev Tryd.prog (E3 a8 a9 a10 a11 a12 a14 a13) loopLim Tryd.f3.ntmps kp3 c3_0 [(0, (V.agg [(V.i .u8 t0_0), (V.b t0_1), (V.i .u8 t0_2), (V.b t0_3), (V.i .u8 t0_4), (V.i .u8 t0_5), (V.sl t0_6)]))] H K = g3_p0 a8 a9 a10 a11 a12 a14 a13 R t0_0 t0_1 t0_2 t0_3 t0_4 t0_5 t0_6 H (fun t2 H => K .ret [(2, (V.b t2))] H) := by kernel_rfl
theorem g3_p0_lin {a8 : T8} {a9 : T9} {a10 : T10} {a11 : T11} {a12 : T12} {a14 : T14} {a13 : T13} (la8 : Lin8 a8) (la9 : Lin9 a9) (la10 : Lin10 a10) (la11 : Lin11 a11) (la12 : Lin12 a12) (la14 : Lin14 a14) (la13 : Lin13 a13) {R S : Type} {k : S → Option R} {t0_0 : Int} {t0_1 : Bool} {t0_2 : Int} {t0_3 : Bool} {t0_4 : Int} {t0_5 : Int} {t0_6 : Sl} {H : Heap} {fkR : Bool → Heap → Option R} {gkR : Bool → Heap → Option S} (hkR : ∀ t2 H, fkR t2 H = (gkR t2 H).bind k) : g3_p0 a8 a9 a10 a11 a12 a14 a13 R t0_0 t0_1 t0_2 t0_3 t0_4 t0_5 t0_6 H fkR = (g3_p0 a8 a9 a10 a11 a12 a14 a13 S t0_0 t0_1 t0_2 t0_3 t0_4 t0_5 t0_6 H gkR).bind k := by
  delta g3_p0; exact (
    alo_lin fun i1 h2 =>
    bl fun x3 =>
    sl_lin (
      la8.l fun x4 h5 =>
      hkR _ _) (
      bl fun x6 =>
      bl fun x7 =>
      bl fun x8 =>
      bl fun x9 =>
      bl fun x10 =>
      bl fun x11 =>
      bl fun x12 =>
      la9.l fun x13 h14 =>
      bl fun x15 =>
      bl fun x16 =>
      bl fun x17 =>
      bl fun x18 =>
      bl fun x19 =>
      bl fun x20 =>
      bl fun x21 =>
      la10.l fun x22 x23 h24 =>
      bl fun x25 =>
      bl fun x26 =>
      bl fun x27 =>
      bl fun x28 =>
      bl fun x29 =>
      bl fun x30 =>
      bl fun x31 =>
      la11.l fun x32 h33 =>
      sl_lin (
        hkR _ _) (
        sl_lin (
          hkR _ _) (
          sl_lin (
            sl_lin (
              bl fun x34 =>
              bl fun x35 =>
              bl fun x36 =>
              bl fun x37 =>
              bl fun x38 =>
              bl fun x39 =>
              bl fun x40 =>
              la12.l fun x41 h42 =>
              sl_lin (
                la8.l fun x43 h44 =>
                hkR _ _) (
                hkR _ _)) (
              hkR _ _)) (
            bl fun x45 =>
            bl fun x46 =>
            bl fun x47 =>
            bl fun x48 =>
            bl fun x49 =>
            bl fun x50 =>
            bl fun x51 =>
            la14.l fun x52 h53 =>
            la13.l fun x54 h55 =>
            sl_lin (
              bl fun x56 =>
              bl fun x57 =>
              bl fun x58 =>
              bl fun x59 =>
              bl fun x60 =>
              bl fun x61 =>
              bl fun x62 =>
              la12.l fun x63 h64 =>
              sl_lin (
                la8.l fun x65 h66 =>
                hkR _ _) (
                hkR _ _)) (
              hkR _ _))))))
noncomputable def g3_r (a8 : T8) (a9 : T9) (a10 : T10) (a11 : T11) (a12 : T12) (a14 : T14) (a13 : T13) : T3 := fun R t0_0 t0_1 t0_2 t0_3 t0_4 t0_5 t0_6 H K =>
  g3_p0 a8 a9 a10 a11 a12 a14 a13 R t0_0 t0_1 t0_2 t0_3 t0_4 t0_5 t0_6 H (fun t2 H =>
    K t2 H)
theorem g3_r_lin {a8 : T8} {a9 : T9} {a10 : T10} {a11 : T11} {a12 : T12} {a14 : T14} {a13 : T13} (la8 : Lin8 a8) (la9 : Lin9 a9) (la10 : Lin10 a10) (la11 : Lin11 a11) (la12 : Lin12 a12) (la14 : Lin14 a14) (la13 : Lin13 a13) : Lin3 (g3_r a8 a9 a10 a11 a12 a14 a13) := by
  constructor
  intro R S k t0_0 t0_1 t0_2 t0_3 t0_4 t0_5 t0_6 H f g h
  exact g3_p0_lin la8 la9 la10 la11 la12 la14 la13 (fun t2 H =>
    h _ _)
theorem g3_fn (a8 : T8) (a9 : T9) (a10 : T10) (a11 : T11) (a12 : T12) (a14 : T14) (a13 : T13) (la8 : Lin8 a8) (la9 : Lin9 a9) (la10 : Lin10 a10) (la11 : Lin11 a11) (la12 : Lin12 a12) (la14 : Lin14 a14) (la13 : Lin13 a13) {R : Type} (t0_0 : Int) (t0_1 : Bool) (t0_2 : Int) (t0_3 : Bool) (t0_4 : Int) (t0_5 : Int) (t0_6 : Sl) (H : Heap) (K : V → Heap → Option R) : evFn Tryd.prog (E3 a8 a9 a10 a11 a12 a14 a13) loopLim Tryd.f3 kp3 [(V.agg [(V.i .u8 t0_0), (V.b t0_1), (V.i .u8 t0_2), (V.b t0_3), (V.i .u8 t0_4), (V.i .u8 t0_5), (V.sl t0_6)])] H K = g3_r a8 a9 a10 a11 a12 a14 a13 R t0_0 t0_1 t0_2 t0_3 t0_4 t0_5 t0_6 H (fun r0 H => K (V.b r0) H) := by
  have h0 : ∀ (t2 : Bool) (H : Heap), kFn Tryd.prog Tryd.f3.results.toList K .ret [(2, (V.b t2))] H =
      K (V.b t2) H := by intros; kernel_rfl
  have e0 := evFn_code2 (P := Tryd.prog) (c := c3_0) (E := (E3 a8 a9 a10 a11 a12 a14 a13)) (lr := loopLim) (kp := kp3) (fn := Tryd.f3) (args := [(V.agg [(V.i .u8 t0_0), (V.b t0_1), (V.i .u8 t0_2), (V.b t0_3), (V.i .u8 t0_4), (V.i .u8 t0_5), (V.sl t0_6)])]) H K (by kernel_rfl) (Nat.le_of_ble_eq_true (by kernel_rfl)) (by kernel_rfl)
  have e1 : ev Tryd.prog (E3 a8 a9 a10 a11 a12 a14 a13) loopLim Tryd.f3.ntmps kp3 c3_0 (argFr 0 [(V.agg [(V.i .u8 t0_0), (V.b t0_1), (V.i .u8 t0_2), (V.b t0_3), (V.i .u8 t0_4), (V.i .u8 t0_5), (V.sl t0_6)])]) H (kFn Tryd.prog Tryd.f3.results.toList K) = ev Tryd.prog (E3 a8 a9 a10 a11 a12 a14 a13) loopLim Tryd.f3.ntmps kp3 c3_0 [(0, (V.agg [(V.i .u8 t0_0), (V.b t0_1), (V.i .u8 t0_2), (V.b t0_3), (V.i .u8 t0_4), (V.i .u8 t0_5), (V.sl t0_6)]))] H (kFn Tryd.prog Tryd.f3.results.toList K) := by kernel_rfl
  refine (e0.trans e1).trans ?_
  delta g3_r
  exact (g3_p0_eq a8 a9 a10 a11 a12 a14 a13 la8 la9 la10 la11 la12 la14 la13 t0_0 t0_1 t0_2 t0_3 t0_4 t0_5 t0_6 H (kFn Tryd.prog Tryd.f3.results.toList K)).trans (congrArg (g3_p0 a8 a9 a10 a11 a12 a14 a13 R t0_0 t0_1 t0_2 t0_3 t0_4 t0_5 t0_6 H) (funext fun t2 => funext fun H => h0 t2 H))
theorem g3_ok {a8 : T8} {a9 : T9} {a10 : T10} {a11 : T11} {a12 : T12} {a14 : T14} {a13 : T13} (oa8 : FunOK Tryd.prog 8 (w8 a8)) (oa9 : FunOK Tryd.prog 9 (w9 a9)) (oa10 : FunOK Tryd.prog 10 (w10 a10)) (oa11 : FunOK Tryd.prog 11 (w11 a11)) (oa12 : FunOK Tryd.prog 12 (w12 a12)) (oa14 : FunOK Tryd.prog 14 (w14 a14)) (oa13 : FunOK Tryd.prog 13 (w13 a13)) (la8 : Lin8 a8) (la9 : Lin9 a9) (la10 : Lin10 a10) (la11 : Lin11 a11) (la12 : Lin12 a12) (la14 : Lin14 a14) (la13 : Lin13 a13) : FunOK Tryd.prog 3 (w3 (g3_r a8 a9 a10 a11 a12 a14 a13)) := by
  refine (runF_ok (E3_good oa8 oa9 oa10 oa11 oa12 oa14 oa13 la8 la9 la10 la11 la12 la14 la13) mixed lim_ok Tryd.func3 (by kernel_rfl) kp3).of_le fun R args H K r hk => ?_
  unfold w3 at hk
  split at hk
  · exact (g3_fn a8 a9 a10 a11 a12 a14 a13 la8 la9 la10 la11 la12 la14 la13 _ _ _ _ _ _ _ H K).trans hk
  · cases hk
def kp31 : Nat → Option (List Nat) := kpOf [(0, [0]), (1, [2, 3]), (300000, [2, 3])]
def E31 : FEnv := []
theorem E31_good : EnvGood Tryd.prog E31 := (EnvGood.nil _)
theorem E31_lin : EnvLin E31 := fun g F h => by cases h
noncomputable def b31 : Code := Tryd.f31.body.getD .skip
noncomputable def c31_0 : Code := (.seq (codeAt [0] b31) (.seq (codeAt [1, 0] b31) .ret))
noncomputable def g31_p0 (R : Type) (t0 : Int) (H : Heap) (kR : Int → Bool → Heap → Option R) : Option R :=
  kR (Int.tmod t0 (128 : Int)) (decide (t0 ≥ (128 : Int))) H
theorem g31_p0_eq {R : Type} (t0 : Int) (H : Heap) (K : Ex → Fr → Heap → Option R) : ev Tryd.prog E31 loopLim Tryd.f31.ntmps kp31 c31_0 [(0, (V.i .u8 t0))] H K = g31_p0 R t0 H (fun t2 t3 H => K .ret [(2, (V.i .u8 t2)), (3, (V.b t3))] H) := by kernel_rfl
theorem g31_p0_lin {R S : Type} {k : S → Option R} {t0 : Int} {H : Heap} {fkR : Int → Bool → Heap → Option R} {gkR : Int → Bool → Heap → Option S} (hkR : ∀ t2 t3 H, fkR t2 t3 H = (gkR t2 t3 H).bind k) : g31_p0 R t0 H fkR = (g31_p0 S t0 H gkR).bind k := by
  delta g31_p0; exact (
    hkR _ _ _)
noncomputable def g31_r : T31 := fun R t0 H K =>
  g31_p0 R t0 H (fun t2 t3 H =>
    K t2 t3 H)
theorem g31_r_lin : Lin31 (g31_r) := by
  constructor
  intro R S k t0 H f g h
  exact g31_p0_lin (fun t2 t3 H =>
    h _ _ _)
theorem g31_fn {R : Type} (t0 : Int) (H : Heap) (K : V → Heap → Option R) : evFn Tryd.prog E31 loopLim Tryd.f31 kp31 [(V.i .u8 t0)] H K = g31_r R t0 H (fun r0 r1 H => K (V.tup [(V.i .u8 r0), (V.b r1)]) H) := by
  have h0 : ∀ (t2 : Int) (t3 : Bool) (H : Heap), kFn Tryd.prog Tryd.f31.results.toList K .ret [(2, (V.i .u8 t2)), (3, (V.b t3))] H =
      K (V.tup [(V.i .u8 t2), (V.b t3)]) H := by intros; kernel_rfl
  have e0 := evFn_code2 (P := Tryd.prog) (c := c31_0) (E := E31) (lr := loopLim) (kp := kp31) (fn := Tryd.f31) (args := [(V.i .u8 t0)]) H K (by kernel_rfl) (Nat.le_of_ble_eq_true (by kernel_rfl)) (by kernel_rfl)
  have e1 : ev Tryd.prog E31 loopLim Tryd.f31.ntmps kp31 c31_0 (argFr 0 [(V.i .u8 t0)]) H (kFn Tryd.prog Tryd.f31.results.toList K) = ev Tryd.prog E31 loopLim Tryd.f31.ntmps kp31 c31_0 [(0, (V.i .u8 t0))] H (kFn Tryd.prog Tryd.f31.results.toList K) := by kernel_rfl
  refine (e0.trans e1).trans ?_
  delta g31_r
  exact (g31_p0_eq t0 H (kFn Tryd.prog Tryd.f31.results.toList K)).trans (congrArg (g31_p0 R t0 H) (funext fun t2 => funext fun t3 => funext fun H => h0 t2 t3 H))
theorem g31_ok : FunOK Tryd.prog 31 (w31 (g31_r)) := by
  refine (runF_ok (E31_good) mixed lim_ok Tryd.func31 (by kernel_rfl) kp31).of_le fun R args H K r hk => ?_
  unfold w31 at hk
  split at hk
  · exact (g31_fn _ H K).trans hk
  · cases hk
def kp32 : Nat → Option (List Nat) := kpOf [(0, [0]), (1, [0, 4]), (2, [2]), (3, [2]), (300000, [2]), (400004, [0])]
def E32 : FEnv := []
theorem E32_good : EnvGood Tryd.prog E32 := (EnvGood.nil _)
theorem E32_lin : EnvLin E32 := fun g F h => by cases h
noncomputable def b32 : Code := Tryd.f32.body.getD .skip
noncomputable def c32_0 : Code := (.seq (codeAt [0] b32) (.seq (codeAt [1, 0, 0] b32) (.seq (.cond (.tmp 4) (.seq (codeAt [1, 0, 1, 0, 0] b32) .ret) .skip) (.seq (codeAt [1, 1, 0] b32) .ret))))
noncomputable def g32_p0 (R : Type) (t0 : Sl) (H : Heap) (kR : Sl → Heap → Option R) : Option R :=
  sel (Option.isNone t0.a) (
    kR (Sl.mk none 0 (.ex 0)) H) (
    alo H (.cells [] 5 false) fun i1 h2 =>
    ((slCells h2 1 t0)).bind fun vs5 =>
    appendV h2 5 1 1 (Sl.mk (some (i1, 0)) 0 (.ex 0)) t0.len vs5 fun s3 h4 =>
    kR s3 h4)
theorem g32_p0_eq {R : Type} (t0 : Sl) (H : Heap) (K : Ex → Fr → Heap → Option R) : ev Tryd.prog E32 loopLim Tryd.f32.ntmps kp32 c32_0 [(0, (V.sl t0))] H K = g32_p0 R t0 H (fun t2 H => K .ret [(2, (V.sl t2))] H) := by kernel_rfl
theorem g32_p0_lin {R S : Type} {k : S → Option R} {t0 : Sl} {H : Heap} {fkR : Sl → Heap → Option R} {gkR : Sl → Heap → Option S} (hkR : ∀ t2 H, fkR t2 H = (gkR t2 H).bind k) : g32_p0 R t0 H fkR = (g32_p0 S t0 H gkR).bind k := by
  delta g32_p0; exact (
    sl_lin (
      hkR _ _) (
      alo_lin fun i1 h2 =>
      bl fun vs5 =>
      appendV_lin fun s3 h4 =>
      hkR _ _))
noncomputable def g32_r : T32 := fun R t0 H K =>
  g32_p0 R t0 H (fun t2 H =>
    K t2 H)
theorem g32_r_lin : Lin32 (g32_r) := by
  constructor
  intro R S k t0 H f g h
  exact g32_p0_lin (fun t2 H =>
    h _ _)
theorem g32_fn {R : Type} (t0 : Sl) (H : Heap) (K : V → Heap → Option R) : evFn Tryd.prog E32 loopLim Tryd.f32 kp32 [(V.sl t0)] H K = g32_r R t0 H (fun r0 H => K (V.sl r0) H) := by
  have h0 : ∀ (t2 : Sl) (H : Heap), kFn Tryd.prog Tryd.f32.results.toList K .ret [(2, (V.sl t2))] H =
      K (V.sl t2) H := by intros; kernel_rfl
  have e0 := evFn_code2 (P := Tryd.prog) (c := c32_0) (E := E32) (lr := loopLim) (kp := kp32) (fn := Tryd.f32) (args := [(V.sl t0)]) H K (by kernel_rfl) (Nat.le_of_ble_eq_true (by kernel_rfl)) (by kernel_rfl)
  have e1 : ev Tryd.prog E32 loopLim Tryd.f32.ntmps kp32 c32_0 (argFr 0 [(V.sl t0)]) H (kFn Tryd.prog Tryd.f32.results.toList K) = ev Tryd.prog E32 loopLim Tryd.f32.ntmps kp32 c32_0 [(0, (V.sl t0))] H (kFn Tryd.prog Tryd.f32.results.toList K) := by kernel_rfl
  refine (e0.trans e1).trans ?_
  delta g32_r
  exact (g32_p0_eq t0 H (kFn Tryd.prog Tryd.f32.results.toList K)).trans (congrArg (g32_p0 R t0 H) (funext fun t2 => funext fun H => h0 t2 H))
theorem g32_ok : FunOK Tryd.prog 32 (w32 (g32_r)) := by
  refine (runF_ok (E32_good) mixed lim_ok Tryd.func32 (by kernel_rfl) kp32).of_le fun R args H K r hk => ?_
  unfold w32 at hk
  split at hk
  · exact (g32_fn _ H K).trans hk
  · cases hk
def kp15 : Nat → Option (List Nat) := kpOf [(0, [0, 2]), (1, [0, 2, 4]), (2, [0, 2, 4, 15]), (3, [2, 3]), (4, [0, 2, 4, 23]), (5, [2, 3]), (6, [0, 2, 4, 5]), (7, [0, 2, 4, 5, 6]), (8, [0, 2, 4, 5, 6]), (9, [0, 2, 4, 6]), (10, [0, 2, 6, 45]), (11, [2, 6]), (12, [0, 2, 6, 45, 52]), (13, [0, 2, 6, 54]), (14, [0, 2, 6, 59]), (15, [2, 3]), (16, [2, 6]), (17, [2, 3]), (100000, [2, 6]), (200000, [0, 2, 6, 45]), (300000, [2, 3]), (400015, [0, 2, 4]), (400023, [0, 2, 4]), (400052, [2, 6]), (400054, [2, 6]), (400059, [0, 2, 6])]
def E15 (a26 : T26) (a31 : T31) (a32 : T32) (a27 : T27) : FEnv := [(26, w26 a26), (31, w31 a31), (32, w32 a32), (27, w27 a27)]
theorem E15_good {a26 : T26} {a31 : T31} {a32 : T32} {a27 : T27} (oa26 : FunOK Tryd.prog 26 (w26 a26)) (oa31 : FunOK Tryd.prog 31 (w31 a31)) (oa32 : FunOK Tryd.prog 32 (w32 a32)) (oa27 : FunOK Tryd.prog 27 (w27 a27)) (la26 : Lin26 a26) (la31 : Lin31 a31) (la32 : Lin32 a32) (la27 : Lin27 a27) : EnvGood Tryd.prog (E15 a26 a31 a32 a27) := (((((EnvGood.nil _).cons oa27 (w27_lin la27)).cons oa32 (w32_lin la32)).cons oa31 (w31_lin la31)).cons oa26 (w26_lin la26))
theorem E15_lin {a26 : T26} {a31 : T31} {a32 : T32} {a27 : T27} (la26 : Lin26 a26) (la31 : Lin31 a31) (la32 : Lin32 a32) (la27 : Lin27 a27) : EnvLin (E15 a26 a31 a32 a27) := by
  intro g F h
  simp only [E15, List.mem_cons, List.not_mem_nil, or_false] at h
  rcases h with h | h | h | h
  · cases h; exact w26_lin la26
  · cases h; exact w31_lin la31
  · cases h; exact w32_lin la32
  · cases h; exact w27_lin la27
noncomputable def b15 : Code := Tryd.f15.body.getD .skip
noncomputable def c15_0 : Code := (.seq (codeAt [0] b15) (.seq (codeAt [1, 0] b15) (.seq (codeAt [1, 1, 0, 0] b15) (.seq (.cond (.tmp 15) (.seq (codeAt [1, 1, 0, 1, 0, 0] b15) .ret) .skip) (.seq (codeAt [1, 1, 1, 0, 0] b15) (.seq (.cond (.tmp 23) (.seq (codeAt [1, 1, 1, 0, 1, 0, 0] b15) .ret) .skip) (.seq (codeAt [1, 1, 1, 1, 0] b15) (.seq (codeAt [1, 1, 1, 1, 1, 0] b15) (.seq (codeAt [1, 1, 1, 1, 1, 1, 0] b15) (.seq (codeAt [1, 1, 1, 1, 1, 1, 1, 0] b15) (.seq (codeAt [1, 1, 1, 1, 1, 1, 1, 1, 0, 0] b15) (.seq (.block 0 (.seq (codeAt [1, 1, 1, 1, 1, 1, 1, 1, 0, 1, 0, 0] b15) (.cond (.tmp 52) .skip (.seq (codeAt [1, 1, 1, 1, 1, 1, 1, 1, 0, 1, 0, 1, 1, 0] b15) (.cond (.tmp 54) (.seq (codeAt [1, 1, 1, 1, 1, 1, 1, 1, 0, 1, 0, 1, 1, 1, 0, 0, 0] b15) (.seq (.cond (.tmp 59) (.seq (codeAt [1, 1, 1, 1, 1, 1, 1, 1, 0, 1, 0, 1, 1, 1, 0, 0, 1, 0, 0] b15) .ret) .skip) (codeAt [1, 1, 1, 1, 1, 1, 1, 1, 0, 1, 0, 1, 1, 1, 0, 1] b15))) (codeAt [1, 1, 1, 1, 1, 1, 1, 1, 0, 1, 0, 1, 1, 1, 1] b15)))))) (.seq (codeAt [1, 1, 1, 1, 1, 1, 1, 1, 1, 0] b15) .ret)))))))))))))
noncomputable def g15_p0 (a26 : T26) (a31 : T31) (a32 : T32) (a27 : T27) (R : Type) (t0 : Sl) (H : Heap) (kR : Nat → Nat → Int → Heap → Option R) : Option R :=
  alo H (.cells [(V.i .u8 (0 : Int)), (V.b false), (V.i .u8 (0 : Int)), (V.b false), (V.i .u8 (0 : Int)), (V.i .u8 (0 : Int)), (V.sl (Sl.mk none 0 (.ex 0)))] 25 false) fun i1 h2 =>
  sel (decide ((IntKind.wrap .i64 (((t0.len : Nat) : Int) - (3 : Int))) < (0 : Int))) (
    ((h2).sts i1 0 [(V.i .u8 (0 : Int)), (V.b false), (V.i .u8 (0 : Int)), (V.b false), (V.i .u8 (0 : Int)), (V.i .u8 (0 : Int)), (V.sl (Sl.mk none 0 (.ex 0)))]).bind fun h3 =>
    kR i1 0 (5 : Int) h3) (
    sel (decide ((IntKind.wrap .i64 (((t0.len : Nat) : Int) - (3 : Int))) > (273 : Int))) (
      ((h2).sts i1 0 [(V.i .u8 (0 : Int)), (V.b false), (V.i .u8 (0 : Int)), (V.b false), (V.i .u8 (0 : Int)), (V.i .u8 (0 : Int)), (V.sl (Sl.mk none 0 (.ex 0)))]).bind fun h4 =>
      kR i1 0 (5 : Int) h4) (
      if 0 ≤ (2 : Int) ∧ (2 : Int) < ((t0.len : Nat) : Int) then (
        (t0.a).bind fun q5 =>
        ((h2).ldI .u8 q5.1 (q5.2 + Int.toNat (2 : Int) * 1)).bind fun x6 =>
        a26 R (IntKind.wrap .i64 (((t0.len : Nat) : Int) - (3 : Int))) (63 : Int) h2 fun x7 h8 =>
        ((h8).ldI .u8 q5.1 (q5.2 + Int.toNat (2 : Int) * 1)).bind fun x9 =>
        if V.same (V.i .u8 x6) (V.i .u8 x9) = true then (
          sel ((IntKind.wrap .i64 x6) != x7) (
            ((h8).sts i1 0 [(V.i .u8 (0 : Int)), (V.b false), (V.i .u8 (0 : Int)), (V.b false), (V.i .u8 (0 : Int)), (V.i .u8 (0 : Int)), (V.sl (Sl.mk none 0 (.ex 0)))]).bind fun h10 =>
            kR i1 0 (4 : Int) h10) (
            alo h8 (.cells [(V.i .u8 (0 : Int)), (V.b false), (V.i .u8 (0 : Int)), (V.b false), (V.i .u8 (0 : Int)), (V.i .u8 (0 : Int)), (V.sl (Sl.mk none 0 (.ex 0)))] 25 false) fun i11 h12 =>
            if 0 ≤ (0 : Int) ∧ (0 : Int) < ((t0.len : Nat) : Int) then (
              (t0.a).bind fun q13 =>
              ((h12).ldI .u8 q13.1 (q13.2 + Int.toNat (0 : Int) * 1)).bind fun x14 =>
              a31 R x14 h12 fun x15 x16 h17 =>
              ((h17).st i11 (0 + 0) (V.i .u8 x15)).bind fun h19 =>
              ((h19).st i11 (0 + 1) (V.b x16)).bind fun h21 =>
              if 0 ≤ (1 : Int) ∧ (1 : Int) < ((t0.len : Nat) : Int) then (
                (t0.a).bind fun q22 =>
                ((h21).ldI .u8 q22.1 (q22.2 + Int.toNat (1 : Int) * 1)).bind fun x23 =>
                a31 R x23 h21 fun x24 x25 h26 =>
                ((h26).st i11 (0 + 2) (V.i .u8 x24)).bind fun h28 =>
                ((h28).st i11 (0 + 3) (V.b x25)).bind fun h30 =>
                sel ((IntKind.wrap .i64 (((t0.len : Nat) : Int) - (3 : Int))) == (0 : Int)) (
                  ((h30).ldI .u8 i11 (0 + 0)).bind fun x31 =>
                  ((h30).ldB i11 (0 + 1)).bind fun x32 =>
                  ((h30).ldI .u8 i11 (0 + 2)).bind fun x33 =>
                  ((h30).ldB i11 (0 + 3)).bind fun x34 =>
                  ((h30).ldI .u8 i11 (0 + 4)).bind fun x35 =>
                  ((h30).ldI .u8 i11 (0 + 5)).bind fun x36 =>
                  ((h30).ldSl i11 (0 + 6)).bind fun x37 =>
                  ((h30).sts i1 0 [(V.i .u8 x31), (V.b x32), (V.i .u8 x33), (V.b x34), (V.i .u8 x35), (V.i .u8 x36), (V.sl x37)]).bind fun h38 =>
                  kR i1 0 (0 : Int) h38) (
                  sel ((IntKind.wrap .i64 (((t0.len : Nat) : Int) - (3 : Int))) == (1 : Int)) (
                    if 0 ≤ (3 : Int) ∧ (3 : Int) < ((t0.len : Nat) : Int) then (
                      (t0.a).bind fun q39 =>
                      ((h30).ldI .u8 q39.1 (q39.2 + Int.toNat (3 : Int) * 1)).bind fun x40 =>
                      sel (decide (x40 > (5 : Int))) (
                        ((h30).sts i1 0 [(V.i .u8 (0 : Int)), (V.b false), (V.i .u8 (0 : Int)), (V.b false), (V.i .u8 (0 : Int)), (V.i .u8 (0 : Int)), (V.sl (Sl.mk none 0 (.ex 0)))]).bind fun h41 =>
                        kR i1 0 (4 : Int) h41) (
                        if 0 ≤ (3 : Int) ∧ (3 : Int) < ((t0.len : Nat) : Int) then (
                          (t0.a).bind fun q42 =>
                          ((h30).ldI .u8 q42.1 (q42.2 + Int.toNat (3 : Int) * 1)).bind fun x43 =>
                          ((h30).st i11 (0 + 4) (V.i .u8 (1 : Int))).bind fun h45 =>
                          ((h45).ldI .u8 q42.1 (q42.2 + Int.toNat (3 : Int) * 1)).bind fun x46 =>
                          if V.same (V.i .u8 x43) (V.i .u8 x46) = true then (
                            ((h45).st i11 (0 + 5) (V.i .u8 x43)).bind fun h48 =>
                            ((h48).ldI .u8 i11 (0 + 0)).bind fun x49 =>
                            ((h48).ldB i11 (0 + 1)).bind fun x50 =>
                            ((h48).ldI .u8 i11 (0 + 2)).bind fun x51 =>
                            ((h48).ldB i11 (0 + 3)).bind fun x52 =>
                            ((h48).ldI .u8 i11 (0 + 4)).bind fun x53 =>
                            ((h48).ldI .u8 i11 (0 + 5)).bind fun x54 =>
                            ((h48).ldSl i11 (0 + 6)).bind fun x55 =>
                            ((h48).sts i1 0 [(V.i .u8 x49), (V.b x50), (V.i .u8 x51), (V.b x52), (V.i .u8 x53), (V.i .u8 x54), (V.sl x55)]).bind fun h56 =>
                            kR i1 0 (0 : Int) h56)
                          else (
                            none))
                        else (
                          none)))
                    else (
                      none)) (
                    slOf 1 t0 (some (3 : Int)) none none fun s57 =>
                    a32 R s57 h30 fun x58 h59 =>
                    a27 R x58 h59 fun x60 h61 =>
                    ((h61).st i11 (0 + 4) (V.i .u8 (2 : Int))).bind fun h63 =>
                    ((h63).st i11 (0 + 6) (V.sl x60)).bind fun h65 =>
                    ((h65).ldI .u8 i11 (0 + 0)).bind fun x66 =>
                    ((h65).ldB i11 (0 + 1)).bind fun x67 =>
                    ((h65).ldI .u8 i11 (0 + 2)).bind fun x68 =>
                    ((h65).ldB i11 (0 + 3)).bind fun x69 =>
                    ((h65).ldI .u8 i11 (0 + 4)).bind fun x70 =>
                    ((h65).ldI .u8 i11 (0 + 5)).bind fun x71 =>
                    ((h65).ldSl i11 (0 + 6)).bind fun x72 =>
                    ((h65).sts i1 0 [(V.i .u8 x66), (V.b x67), (V.i .u8 x68), (V.b x69), (V.i .u8 x70), (V.i .u8 x71), (V.sl x72)]).bind fun h73 =>
                    kR i1 0 (0 : Int) h73)))
              else (
                none))
            else (
              none)))
        else (
          none))
      else (
        none)))
theorem g15_p0_eq (a26 : T26) (a31 : T31) (a32 : T32) (a27 : T27) (la26 : Lin26 a26) (la31 : Lin31 a31) (la32 : Lin32 a32) (la27 : Lin27 a27) {R : Type} (t0 : Sl) (H : Heap) (K : Ex → Fr → Heap → Option R) : ev Tryd.prog (E15 a26 a31 a32 a27) loopLim Tryd.f15.ntmps kp15 c15_0 [(0, (V.sl t0))] H K = g15_p0 a26 a31 a32 a27 R t0 H (fun t2_0 t2_1 t3 H => K .ret [(2, (V.p (some (t2_0, t2_1)))), (3, (V.i .i64 t3))] H) := by kernel_rfl
theorem g15_p0_lin {a26 : T26} {a31 : T31} {a32 : T32} {a27 : T27} (la26 : Lin26 a26) (la31 : Lin31 a31) (la32 : Lin32 a32) (la27 : Lin27 a27) {R S : Type} {k : S → Option R} {t0 : Sl} {H : Heap} {fkR : Nat → Nat → Int → Heap → Option R} {gkR : Nat → Nat → Int → Heap → Option S} (hkR : ∀ t2_0 t2_1 t3 H, fkR t2_0 t2_1 t3 H = (gkR t2_0 t2_1 t3 H).bind k) : g15_p0 a26 a31 a32 a27 R t0 H fkR = (g15_p0 a26 a31 a32 a27 S t0 H gkR).bind k := by
  delta g15_p0; exact (
    alo_lin fun i1 h2 =>
    sl_lin (
      bl fun h3 =>
      hkR _ _ _ _) (
      sl_lin (
        bl fun h4 =>
        hkR _ _ _ _) (
        il (
          bl fun q5 =>
          bl fun x6 =>
          la26.l fun x7 h8 =>
          bl fun x9 =>
          il (
            sl_lin (
              bl fun h10 =>
              hkR _ _ _ _) (
              alo_lin fun i11 h12 =>
              il (
                bl fun q13 =>
                bl fun x14 =>
                la31.l fun x15 x16 h17 =>
                bl fun h19 =>
                bl fun h21 =>
                il (
                  bl fun q22 =>
                  bl fun x23 =>
                  la31.l fun x24 x25 h26 =>
                  bl fun h28 =>
                  bl fun h30 =>
                  sl_lin (
                    bl fun x31 =>
                    bl fun x32 =>
                    bl fun x33 =>
                    bl fun x34 =>
                    bl fun x35 =>
                    bl fun x36 =>
                    bl fun x37 =>
                    bl fun h38 =>
                    hkR _ _ _ _) (
                    sl_lin (
                      il (
                        bl fun q39 =>
                        bl fun x40 =>
                        sl_lin (
                          bl fun h41 =>
                          hkR _ _ _ _) (
                          il (
                            bl fun q42 =>
                            bl fun x43 =>
                            bl fun h45 =>
                            bl fun x46 =>
                            il (
                              bl fun h48 =>
                              bl fun x49 =>
                              bl fun x50 =>
                              bl fun x51 =>
                              bl fun x52 =>
                              bl fun x53 =>
                              bl fun x54 =>
                              bl fun x55 =>
                              bl fun h56 =>
                              hkR _ _ _ _) (
                              rfl)) (
                            rfl))) (
                        rfl)) (
                      slOf_lin fun s57 =>
                      la32.l fun x58 h59 =>
                      la27.l fun x60 h61 =>
                      bl fun h63 =>
                      bl fun h65 =>
                      bl fun x66 =>
                      bl fun x67 =>
                      bl fun x68 =>
                      bl fun x69 =>
                      bl fun x70 =>
                      bl fun x71 =>
                      bl fun x72 =>
                      bl fun h73 =>
                      hkR _ _ _ _))) (
                  rfl)) (
                rfl))) (
            rfl)) (
          rfl))))
noncomputable def g15_r (a26 : T26) (a31 : T31) (a32 : T32) (a27 : T27) : T15 := fun R t0 H K =>
  g15_p0 a26 a31 a32 a27 R t0 H (fun t2_0 t2_1 t3 H =>
    ((H).ldI .u8 t2_0 (t2_1 + 0)).bind fun x74 =>
    ((H).ldB t2_0 (t2_1 + 1)).bind fun x75 =>
    ((H).ldI .u8 t2_0 (t2_1 + 2)).bind fun x76 =>
    ((H).ldB t2_0 (t2_1 + 3)).bind fun x77 =>
    ((H).ldI .u8 t2_0 (t2_1 + 4)).bind fun x78 =>
    ((H).ldI .u8 t2_0 (t2_1 + 5)).bind fun x79 =>
    ((H).ldSl t2_0 (t2_1 + 6)).bind fun x80 =>
    K x74 x75 x76 x77 x78 x79 x80 t3 H)
theorem g15_r_lin {a26 : T26} {a31 : T31} {a32 : T32} {a27 : T27} (la26 : Lin26 a26) (la31 : Lin31 a31) (la32 : Lin32 a32) (la27 : Lin27 a27) : Lin15 (g15_r a26 a31 a32 a27) := by
  constructor
  intro R S k t0 H f g h
  exact g15_p0_lin la26 la31 la32 la27 (fun t2_0 t2_1 t3 H =>
    bl fun x74 =>
    bl fun x75 =>
    bl fun x76 =>
    bl fun x77 =>
    bl fun x78 =>
    bl fun x79 =>
    bl fun x80 =>
    h _ _ _ _ _ _ _ _ _)
theorem g15_fn (a26 : T26) (a31 : T31) (a32 : T32) (a27 : T27) (la26 : Lin26 a26) (la31 : Lin31 a31) (la32 : Lin32 a32) (la27 : Lin27 a27) {R : Type} (t0 : Sl) (H : Heap) (K : V → Heap → Option R) : evFn Tryd.prog (E15 a26 a31 a32 a27) loopLim Tryd.f15 kp15 [(V.sl t0)] H K = g15_r a26 a31 a32 a27 R t0 H (fun r0_0 r0_1 r0_2 r0_3 r0_4 r0_5 r0_6 r1 H => K (V.tup [(V.agg [(V.i .u8 r0_0), (V.b r0_1), (V.i .u8 r0_2), (V.b r0_3), (V.i .u8 r0_4), (V.i .u8 r0_5), (V.sl r0_6)]), (V.i .i64 r1)]) H) := by
  have h0 : ∀ (t2_0 : Nat) (t2_1 : Nat) (t3 : Int) (H : Heap), kFn Tryd.prog Tryd.f15.results.toList K .ret [(2, (V.p (some (t2_0, t2_1)))), (3, (V.i .i64 t3))] H =
      ((H).ldI .u8 t2_0 (t2_1 + 0)).bind fun x74 =>
      ((H).ldB t2_0 (t2_1 + 1)).bind fun x75 =>
      ((H).ldI .u8 t2_0 (t2_1 + 2)).bind fun x76 =>
      ((H).ldB t2_0 (t2_1 + 3)).bind fun x77 =>
      ((H).ldI .u8 t2_0 (t2_1 + 4)).bind fun x78 =>
      ((H).ldI .u8 t2_0 (t2_1 + 5)).bind fun x79 =>
      ((H).ldSl t2_0 (t2_1 + 6)).bind fun x80 =>
      K (V.tup [(V.agg [(V.i .u8 x74), (V.b x75), (V.i .u8 x76), (V.b x77), (V.i .u8 x78), (V.i .u8 x79), (V.sl x80)]), (V.i .i64 t3)]) H := by intros; kernel_rfl
  have e0 := evFn_code2 (P := Tryd.prog) (c := c15_0) (E := (E15 a26 a31 a32 a27)) (lr := loopLim) (kp := kp15) (fn := Tryd.f15) (args := [(V.sl t0)]) H K (by kernel_rfl) (Nat.le_of_ble_eq_true (by kernel_rfl)) (by kernel_rfl)
  have e1 : ev Tryd.prog (E15 a26 a31 a32 a27) loopLim Tryd.f15.ntmps kp15 c15_0 (argFr 0 [(V.sl t0)]) H (kFn Tryd.prog Tryd.f15.results.toList K) = ev Tryd.prog (E15 a26 a31 a32 a27) loopLim Tryd.f15.ntmps kp15 c15_0 [(0, (V.sl t0))] H (kFn Tryd.prog Tryd.f15.results.toList K) := by kernel_rfl
  refine (e0.trans e1).trans ?_
  delta g15_r
  exact (g15_p0_eq a26 a31 a32 a27 la26 la31 la32 la27 t0 H (kFn Tryd.prog Tryd.f15.results.toList K)).trans (congrArg (g15_p0 a26 a31 a32 a27 R t0 H) (funext fun t2_0 => funext fun t2_1 => funext fun t3 => funext fun H => h0 t2_0 t2_1 t3 H))
theorem g15_ok {a26 : T26} {a31 : T31} {a32 : T32} {a27 : T27} (oa26 : FunOK Tryd.prog 26 (w26 a26)) (oa31 : FunOK Tryd.prog 31 (w31 a31)) (oa32 : FunOK Tryd.prog 32 (w32 a32)) (oa27 : FunOK Tryd.prog 27 (w27 a27)) (la26 : Lin26 a26) (la31 : Lin31 a31) (la32 : Lin32 a32) (la27 : Lin27 a27) : FunOK Tryd.prog 15 (w15 (g15_r a26 a31 a32 a27)) := by
  refine (runF_ok (E15_good oa26 oa31 oa32 oa27 la26 la31 la32 la27) mixed lim_ok Tryd.func15 (by kernel_rfl) kp15).of_le fun R args H K r hk => ?_
  unfold w15 at hk
  split at hk
  · exact (g15_fn a26 a31 a32 a27 la26 la31 la32 la27 _ H K).trans hk
  · cases hk
def kp16 : Nat → Option (List Nat) := kpOf [(0, [2, 3]), (1, [4]), (300000, [4])]
def E16 (a17 : T17) : FEnv := [(17, w17 a17)]
theorem E16_good {a17 : T17} (oa17 : FunOK Tryd.prog 17 (w17 a17)) (la17 : Lin17 a17) : EnvGood Tryd.prog (E16 a17) := ((EnvGood.nil _).cons oa17 (w17_lin la17))
theorem E16_lin {a17 : T17} (la17 : Lin17 a17) : EnvLin (E16 a17) := by
  intro g F h
  simp only [E16, List.mem_cons, List.not_mem_nil, or_false] at h
  rcases h with h
  · cases h; exact w17_lin la17
noncomputable def b16 : Code := Tryd.f16.body.getD .skip
noncomputable def c16_0 : Code := (.seq (codeAt [0] b16) (.seq (codeAt [1, 0] b16) .ret))
noncomputable def g16_p0 (a17 : T17) (R : Type) (t0_0 : Int) (t0_1 : Bool) (t0_2 : Int) (t0_3 : Bool) (t0_4 : Int) (t0_5 : Int) (t0_6 : Sl) (t1_0 : Int) (t1_1 : Bool) (t1_2 : Int) (t1_3 : Bool) (t1_4 : Int) (t1_5 : Int) (t1_6 : Sl) (H : Heap) (kR : Bool → Heap → Option R) : Option R :=
  alo H (.cells [(V.i .u8 t0_0), (V.b t0_1), (V.i .u8 t0_2), (V.b t0_3), (V.i .u8 t0_4), (V.i .u8 t0_5), (V.sl t0_6)] 25 false) fun i1 h2 =>
  alo h2 (.cells [(V.i .u8 t1_0), (V.b t1_1), (V.i .u8 t1_2), (V.b t1_3), (V.i .u8 t1_4), (V.i .u8 t1_5), (V.sl t1_6)] 25 false) fun i3 h4 =>
  ((h4).ldI .u8 i1 (0 + 0)).bind fun x5 =>
  ((h4).ldI .u8 i3 (0 + 0)).bind fun x6 =>
  sel (x5 == x6) (
    ((h4).ldB i1 (0 + 1)).bind fun x7 =>
    ((h4).ldB i3 (0 + 1)).bind fun x8 =>
    sel (x7 == x8) (
      ((h4).ldI .u8 i1 (0 + 2)).bind fun x9 =>
      ((h4).ldI .u8 i3 (0 + 2)).bind fun x10 =>
      sel (x9 == x10) (
        ((h4).ldB i1 (0 + 3)).bind fun x11 =>
        ((h4).ldB i3 (0 + 3)).bind fun x12 =>
        sel (x11 == x12) (
          ((h4).ldI .u8 i1 (0 + 4)).bind fun x13 =>
          ((h4).ldI .u8 i3 (0 + 4)).bind fun x14 =>
          sel (x13 == x14) (
            ((h4).ldI .u8 i1 (0 + 5)).bind fun x15 =>
            ((h4).ldI .u8 i3 (0 + 5)).bind fun x16 =>
            sel (x15 == x16) (
              ((h4).ldSl i1 (0 + 6)).bind fun x17 =>
              ((h4).ldSl i3 (0 + 6)).bind fun x18 =>
              a17 R x17 x18 h4 fun x19 h20 =>
              kR x19 h20) (
              kR false h4)) (
            kR false h4)) (
          kR false h4)) (
        kR false h4)) (
      kR false h4)) (
    kR false h4)
theorem g16_p0_eq (a17 : T17) (la17 : Lin17 a17) {R : Type} (t0_0 : Int) (t0_1 : Bool) (t0_2 : Int) (t0_3 : Bool) (t0_4 : Int) (t0_5 : Int) (t0_6 : Sl) (t1_0 : Int) (t1_1 : Bool) (t1_2 : Int) (t1_3 : Bool) (t1_4 : Int) (t1_5 : Int) (t1_6 : Sl) (H : Heap) (K : Ex → Fr → Heap → Option R) : ev Tryd.prog (E16 a17) loopLim Tryd.f16.ntmps kp16 c16_0 [(0, (V.agg [(V.i .u8 t0_0), (V.b t0_1), (V.i .u8 t0_2), (V.b t0_3), (V.i .u8 t0_4), (V.i .u8 t0_5), (V.sl t0_6)])), (1, (V.agg [(V.i .u8 t1_0), (V.b t1_1), (V.i .u8 t1_2), (V.b t1_3), (V.i .u8 t1_4), (V.i .u8 t1_5), (V.sl t1_6)]))] H K = g16_p0 a17 R t0_0 t0_1 t0_2 t0_3 t0_4 t0_5 t0_6 t1_0 t1_1 t1_2 t1_3 t1_4 t1_5 t1_6 H (fun t4 H => K .ret [(4, (V.b t4))] H) := by kernel_rfl
theorem g16_p0_lin {a17 : T17} (la17 : Lin17 a17) {R S : Type} {k : S → Option R} {t0_0 : Int} {t0_1 : Bool} {t0_2 : Int} {t0_3 : Bool} {t0_4 : Int} {t0_5 : Int} {t0_6 : Sl} {t1_0 : Int} {t1_1 : Bool} {t1_2 : Int} {t1_3 : Bool} {t1_4 : Int} {t1_5 : Int} {t1_6 : Sl} {H : Heap} {fkR : Bool → Heap → Option R} {gkR : Bool → Heap → Option S} (hkR : ∀ t4 H, fkR t4 H = (gkR t4 H).bind k) : g16_p0 a17 R t0_0 t0_1 t0_2 t0_3 t0_4 t0_5 t0_6 t1_0 t1_1 t1_2 t1_3 t1_4 t1_5 t1_6 H fkR = (g16_p0 a17 S t0_0 t0_1 t0_2 t0_3 t0_4 t0_5 t0_6 t1_0 t1_1 t1_2 t1_3 t1_4 t1_5 t1_6 H gkR).bind k := by
  delta g16_p0; exact (
    alo_lin fun i1 h2 =>
    alo_lin fun i3 h4 =>
    bl fun x5 =>
    bl fun x6 =>
    sl_lin (
      bl fun x7 =>
      bl fun x8 =>
      sl_lin (
        bl fun x9 =>
        bl fun x10 =>
        sl_lin (
          bl fun x11 =>
          bl fun x12 =>
          sl_lin (
            bl fun x13 =>
            bl fun x14 =>
            sl_lin (
              bl fun x15 =>
              bl fun x16 =>
              sl_lin (
                bl fun x17 =>
                bl fun x18 =>
                la17.l fun x19 h20 =>
                hkR _ _) (
                hkR _ _)) (
              hkR _ _)) (
            hkR _ _)) (
          hkR _ _)) (
        hkR _ _)) (
      hkR _ _))
noncomputable def g16_r (a17 : T17) : T16 := fun R t0_0 t0_1 t0_2 t0_3 t0_4 t0_5 t0_6 t1_0 t1_1 t1_2 t1_3 t1_4 t1_5 t1_6 H K =>
  g16_p0 a17 R t0_0 t0_1 t0_2 t0_3 t0_4 t0_5 t0_6 t1_0 t1_1 t1_2 t1_3 t1_4 t1_5 t1_6 H (fun t4 H =>
    K t4 H)
theorem g16_r_lin {a17 : T17} (la17 : Lin17 a17) : Lin16 (g16_r a17) := by
  constructor
  intro R S k t0_0 t0_1 t0_2 t0_3 t0_4 t0_5 t0_6 t1_0 t1_1 t1_2 t1_3 t1_4 t1_5 t1_6 H f g h
  exact g16_p0_lin la17 (fun t4 H =>
    h _ _)
theorem g16_fn (a17 : T17) (la17 : Lin17 a17) {R : Type} (t0_0 : Int) (t0_1 : Bool) (t0_2 : Int) (t0_3 : Bool) (t0_4 : Int) (t0_5 : Int) (t0_6 : Sl) (t1_0 : Int) (t1_1 : Bool) (t1_2 : Int) (t1_3 : Bool) (t1_4 : Int) (t1_5 : Int) (t1_6 : Sl) (H : Heap) (K : V → Heap → Option R) : evFn Tryd.prog (E16 a17) loopLim Tryd.f16 kp16 [(V.agg [(V.i .u8 t0_0), (V.b t0_1), (V.i .u8 t0_2), (V.b t0_3), (V.i .u8 t0_4), (V.i .u8 t0_5), (V.sl t0_6)]), (V.agg [(V.i .u8 t1_0), (V.b t1_1), (V.i .u8 t1_2), (V.b t1_3), (V.i .u8 t1_4), (V.i .u8 t1_5), (V.sl t1_6)])] H K = g16_r a17 R t0_0 t0_1 t0_2 t0_3 t0_4 t0_5 t0_6 t1_0 t1_1 t1_2 t1_3 t1_4 t1_5 t1_6 H (fun r0 H => K (V.b r0) H) := by
  have h0 : ∀ (t4 : Bool) (H : Heap), kFn Tryd.prog Tryd.f16.results.toList K .ret [(4, (V.b t4))] H =
      K (V.b t4) H := by intros; kernel_rfl
  have e0 := evFn_code2 (P := Tryd.prog) (c := c16_0) (E := (E16 a17)) (lr := loopLim) (kp := kp16) (fn := Tryd.f16) (args := [(V.agg [(V.i .u8 t0_0), (V.b t0_1), (V.i .u8 t0_2), (V.b t0_3), (V.i .u8 t0_4), (V.i .u8 t0_5), (V.sl t0_6)]), (V.agg [(V.i .u8 t1_0), (V.b t1_1), (V.i .u8 t1_2), (V.b t1_3), (V.i .u8 t1_4), (V.i .u8 t1_5), (V.sl t1_6)])]) H K (by kernel_rfl) (Nat.le_of_ble_eq_true (by kernel_rfl)) (by kernel_rfl)
  have e1 : ev Tryd.prog (E16 a17) loopLim Tryd.f16.ntmps kp16 c16_0 (argFr 0 [(V.agg [(V.i .u8 t0_0), (V.b t0_1), (V.i .u8 t0_2), (V.b t0_3), (V.i .u8 t0_4), (V.i .u8 t0_5), (V.sl t0_6)]), (V.agg [(V.i .u8 t1_0), (V.b t1_1), (V.i .u8 t1_2), (V.b t1_3), (V.i .u8 t1_4), (V.i .u8 t1_5), (V.sl t1_6)])]) H (kFn Tryd.prog Tryd.f16.results.toList K) = ev Tryd.prog (E16 a17) loopLim Tryd.f16.ntmps kp16 c16_0 [(0, (V.agg [(V.i .u8 t0_0), (V.b t0_1), (V.i .u8 t0_2), (V.b t0_3), (V.i .u8 t0_4), (V.i .u8 t0_5), (V.sl t0_6)])), (1, (V.agg [(V.i .u8 t1_0), (V.b t1_1), (V.i .u8 t1_2), (V.b t1_3), (V.i .u8 t1_4), (V.i .u8 t1_5), (V.sl t1_6)]))] H (kFn Tryd.prog Tryd.f16.results.toList K) := by kernel_rfl
  refine (e0.trans e1).trans ?_
  delta g16_r
  exact (g16_p0_eq a17 la17 t0_0 t0_1 t0_2 t0_3 t0_4 t0_5 t0_6 t1_0 t1_1 t1_2 t1_3 t1_4 t1_5 t1_6 H (kFn Tryd.prog Tryd.f16.results.toList K)).trans (congrArg (g16_p0 a17 R t0_0 t0_1 t0_2 t0_3 t0_4 t0_5 t0_6 t1_0 t1_1 t1_2 t1_3 t1_4 t1_5 t1_6 H) (funext fun t4 => funext fun H => h0 t4 H))
theorem g16_ok {a17 : T17} (oa17 : FunOK Tryd.prog 17 (w17 a17)) (la17 : Lin17 a17) : FunOK Tryd.prog 16 (w16 (g16_r a17)) := by
  refine (runF_ok (E16_good oa17 la17) mixed lim_ok Tryd.func16 (by kernel_rfl) kp16).of_le fun R args H K r hk => ?_
  unfold w16 at hk
  split at hk
  · exact (g16_fn a17 la17 _ _ _ _ _ _ _ _ _ _ _ _ _ _ H K).trans hk
  · cases hk
end Go.Proofs.YteipplgcdbaokaaDoor

