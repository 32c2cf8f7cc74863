/- Printed: functions as the machine runs them. -/
import Derived.Test.YtkldpkemnmmbgaaGT
namespace Go.Proofs.Ytkldpkemnmmbgaa
open Go AM Go.RowKit
set_option linter.unusedVariables false
def kp37v1 : Nat → Option (List Nat) := kpOf [(0, [0, 1]), (1, [0, 1, 7, 8]), (2, [0, 1, 7, 8, 9]), (3, [0, 1, 5, 7, 8]), (4, [0, 1, 5, 7, 8, 16]), (5, [4]), (6, [0, 1, 7, 8]), (7, [4]), (100000, []), (100001, [0, 1, 7, 8]), (200000, [0, 1, 7, 8]), (200001, [0, 1, 7, 8]), (300000, [4]), (400009, [0, 1, 7, 8]), (400016, [0, 1, 7, 8])]
def E37v1 (a40 : T40) : FEnv := [(40, w40 a40)]
theorem E37v1_good {a40 : T40} (oa40 : FunOK Try.prog 40 (w40 a40)) (la40 : Lin40 a40) : EnvGood Try.prog (E37v1 a40) := ((EnvGood.nil _).cons oa40 (w40_lin la40))
theorem E37v1_lin {a40 : T40} (la40 : Lin40 a40) : EnvLin (E37v1 a40) := by
  intro g F h
  simp only [E37v1, List.mem_cons, List.not_mem_nil, or_false] at h
  rcases h with h
  · cases h; exact w40_lin la40
noncomputable def b37v1 : Code := Try.f37.body.getD .skip
noncomputable def c37v1_0 : Code := (.seq (codeAt [1, 0, 1, 0, 0, 0] b37v1) (.seq (.cond (.tmp 9) .skip (.exit 0)) (.seq (.block 1 (.seq (codeAt [1, 0, 1, 0, 0, 1, 1, 0, 0, 0] b37v1) (.seq (codeAt [1, 0, 1, 0, 0, 1, 1, 0, 0, 1, 0] b37v1) (.cond (.tmp 16) (.seq (codeAt [1, 0, 1, 0, 0, 1, 1, 0, 0, 1, 1, 0, 0] b37v1) .ret) .skip)))) (codeAt [1, 0, 1, 0, 0, 1, 1, 1] b37v1))))
noncomputable def c37v1_1 : Code := (.loop c37v1_0)
noncomputable def c37v1_2 : Code := (.block 0 c37v1_1)
noncomputable def c37v1_3 : Code := (.seq (codeAt [1, 1, 0] b37v1) .ret)
noncomputable def c37v1_4 : Code := (.seq c37v1_2 c37v1_3)
noncomputable def c37v1_5 : Code := (.seq (codeAt [0] b37v1) (.seq (codeAt [1, 0, 0] b37v1) c37v1_4))
noncomputable def g37v1_p0 (a40 : T40) (R : Type) (t0 : Sl) (H : Heap) (kN : Sl → Int → Int → Heap → Option R) : Option R :=
  kN t0 ((t0.len : Nat) : Int) (0 : Int) H
theorem g37v1_p0_eq (a40 : T40) {R : Type} (c2 : Code) (t0 : Sl) (H : Heap) (K : Ex → Fr → Heap → Option R) : ev Try.prog (E37v1 a40) loopLim Try.f37.ntmps kp37v1 (.seq (codeAt [0] b37v1) (.seq (codeAt [1, 0, 0] b37v1) c2)) [(0, (V.sl t0)), (1, (V.fn (.func 40) [] []))] H K = g37v1_p0 a40 R t0 H (fun t0 t7 t8 H => ev Try.prog (E37v1 a40) loopLim Try.f37.ntmps kp37v1 c2 [(0, (V.sl t0)), (1, (V.fn (.func 40) [] [])), (7, (V.i .i64 t7)), (8, (V.i .i64 t8))] H K) := by kernel_rfl
theorem g37v1_p0_lin {a40 : T40} (la40 : Lin40 a40) {R S : Type} {k : S → Option R} {t0 : Sl} {H : Heap} {fkN : Sl → Int → Int → Heap → Option R} {gkN : Sl → Int → Int → Heap → Option S} (hkN : ∀ t0 t7 t8 H, fkN t0 t7 t8 H = (gkN t0 t7 t8 H).bind k) : g37v1_p0 a40 R t0 H fkN = (g37v1_p0 a40 S t0 H gkN).bind k := by
  delta g37v1_p0; exact (
    hkN _ _ _ _)
noncomputable def g37v1_p1 (a40 : T40) (R : Type) (t0 : Sl) (t7 : Int) (t8 : Int) (H : Heap) (kN : Sl → Int → Int → Heap → Option R) (kE0 : Heap → Option R) (kR : Int → Heap → Option R) : Option R :=
  sel (decide (t8 < t7)) (
    if 0 ≤ t8 ∧ t8 < ((t0.len : Nat) : Int) then (
      (t0.a).bind fun q1 =>
      ((H).ldI .i64 q1.1 (q1.2 + Int.toNat t8 * 1)).bind fun x2 =>
      a40 R x2 H fun x3 h4 =>
      sel x3 (
        kR t8 h4) (
        kN t0 t7 (IntKind.wrap .i64 (t8 + (1 : Int))) h4))
    else (
      none)) (
    kE0 H)
theorem g37v1_p1_eq (a40 : T40) (la40 : Lin40 a40) {R : Type} (t0 : Sl) (t7 : Int) (t8 : Int) (H : Heap) (K : Ex → Fr → Heap → Option R) : ev Try.prog (E37v1 a40) loopLim Try.f37.ntmps kp37v1 c37v1_0 [(0, (V.sl t0)), (1, (V.fn (.func 40) [] [])), (7, (V.i .i64 t7)), (8, (V.i .i64 t8))] H K = g37v1_p1 a40 R t0 t7 t8 H (fun t0 t7 t8 H => K .normal [(0, (V.sl t0)), (1, (V.fn (.func 40) [] [])), (7, (V.i .i64 t7)), (8, (V.i .i64 t8))] H) (fun H => K (.exit 0) [] H) (fun t4 H => K .ret [(4, (V.i .i64 t4))] H) := by kernel_rfl
theorem g37v1_p1_lin {a40 : T40} (la40 : Lin40 a40) {R S : Type} {k : S → Option R} {t0 : Sl} {t7 : Int} {t8 : Int} {H : Heap} {fkN : Sl → Int → Int → Heap → Option R} {gkN : Sl → Int → Int → Heap → Option S} {fkE0 : Heap → Option R} {gkE0 : Heap → Option S} {fkR : Int → Heap → Option R} {gkR : Int → Heap → Option S} (hkN : ∀ t0 t7 t8 H, fkN t0 t7 t8 H = (gkN t0 t7 t8 H).bind k) (hkE0 : ∀ H, fkE0 H = (gkE0 H).bind k) (hkR : ∀ t4 H, fkR t4 H = (gkR t4 H).bind k) : g37v1_p1 a40 R t0 t7 t8 H fkN fkE0 fkR = (g37v1_p1 a40 S t0 t7 t8 H gkN gkE0 gkR).bind k := by
  delta g37v1_p1; exact (
    sl_lin (
      il (
        bl fun q1 =>
        bl fun x2 =>
        la40.l fun x3 h4 =>
        sl_lin (
          hkR _ _) (
          hkN _ _ _ _)) (
        rfl)) (
      hkE0 _))
abbrev g37v1_p2_S := Sl × Int × Int
abbrev g37v1_p2_O := Sum (Unit) (Int)
def g37v1_p2_es (s : g37v1_p2_S) : Fr := [(0, (V.sl s.1)), (1, (V.fn (.func 40) [] [])), (7, (V.i .i64 s.2.1)), (8, (V.i .i64 s.2.2))]
def g37v1_p2_er : g37v1_p2_O → Ex × Fr
  | (.inl r) => ((.exit 0), [])
  | (.inr r) => (.ret, [(4, (V.i .i64 r))])
noncomputable def g37v1_p2_b (a40 : T40) (s : g37v1_p2_S) (H : Heap) : Option (Rd g37v1_p2_S g37v1_p2_O × Heap) :=
  g37v1_p1 a40 _ s.1 s.2.1 s.2.2 H (fun t0 t7 t8 H => some (.go (t0, t7, t8), H)) (fun H => some (.up (.inl ()), H)) (fun t4 H => some (.up (.inr t4), H))
noncomputable def g37v1_p2 (a40 : T40) (R : Type) (t0 : Sl) (t7 : Int) (t8 : Int) (H : Heap) (kE0 : Heap → Option R) (kR : Int → Heap → Option R) : Option R :=
  (tlim (g37v1_p2_b a40) (t0, t7, t8) H).bind fun p => cas p.1 (fun r => kE0  p.2) (fun r0 => kR r0 p.2)
theorem g37v1_p2_lin {a40 : T40} (la40 : Lin40 a40) {R S : Type} {k : S → Option R} {t0 : Sl} {t7 : Int} {t8 : Int} {H : Heap} {fkE0 : Heap → Option R} {gkE0 : Heap → Option S} {fkR : Int → Heap → Option R} {gkR : Int → Heap → Option S} (hkE0 : ∀ H, fkE0 H = (gkE0 H).bind k) (hkR : ∀ t4 H, fkR t4 H = (gkR t4 H).bind k) : g37v1_p2 a40 R t0 t7 t8 H fkE0 fkR = (g37v1_p2 a40 S t0 t7 t8 H gkE0 gkR).bind k := by
  exact bl fun p => cas_lin (fun _ => hkE0 _) (fun _ => hkR _ _)
theorem g37v1_p2_eq (a40 : T40) (la40 : Lin40 a40) {R : Type} (t0 : Sl) (t7 : Int) (t8 : Int) (H : Heap) (K : Ex → Fr → Heap → Option R) : ev Try.prog (E37v1 a40) loopLim Try.f37.ntmps kp37v1 c37v1_1 [(0, (V.sl t0)), (1, (V.fn (.func 40) [] [])), (7, (V.i .i64 t7)), (8, (V.i .i64 t8))] H K = g37v1_p2 a40 R t0 t7 t8 H (fun H => K (.exit 0) [] H) (fun t4 H => K .ret [(4, (V.i .i64 t4))] H) := by
  show ev Try.prog (E37v1 a40) loopLim Try.f37.ntmps kp37v1 (.loop c37v1_0) [(0, (V.sl t0)), (1, (V.fn (.func 40) [] [])), (7, (V.i .i64 t7)), (8, (V.i .i64 t8))] H K = _
  delta g37v1_p2
  refine (ev_tlim (b := g37v1_p2_b a40) (es := g37v1_p2_es) (er := g37v1_p2_er) (by rintro (r | r) <;> exact nofun) (fun s H => ?_) (t0, t7, t8) H K).trans (bc fun p => by rcases p with ⟨(r | r), H⟩ <;> rfl)
  exact (g37v1_p1_eq a40 la40 s.1 s.2.1 s.2.2 H ret3).trans (g37v1_p1_lin la40 (fun _ _ _ _ => rfl) (fun _ => rfl) (fun _ _ => rfl))
noncomputable def g37v1_p3 (a40 : T40) (R : Type) (t0 : Sl) (t7 : Int) (t8 : Int) (H : Heap) (kN : Heap → Option R) (kR : Int → Heap → Option R) : Option R :=
  g37v1_p2 a40 R t0 t7 t8 H (fun H => kN  H) (fun t4 H => kR t4 H)
theorem g37v1_p3_lin {a40 : T40} (la40 : Lin40 a40) {R S : Type} {k : S → Option R} {t0 : Sl} {t7 : Int} {t8 : Int} {H : Heap} {fkN : Heap → Option R} {gkN : Heap → Option S} {fkR : Int → Heap → Option R} {gkR : Int → Heap → Option S} (hkN : ∀ H, fkN H = (gkN H).bind k) (hkR : ∀ t4 H, fkR t4 H = (gkR t4 H).bind k) : g37v1_p3 a40 R t0 t7 t8 H fkN fkR = (g37v1_p3 a40 S t0 t7 t8 H gkN gkR).bind k := by
  exact g37v1_p2_lin la40 (fun _ => hkN _) (fun _ _ => hkR _ _)
theorem g37v1_p3_eq (a40 : T40) (la40 : Lin40 a40) {R : Type} (t0 : Sl) (t7 : Int) (t8 : Int) (H : Heap) (K : Ex → Fr → Heap → Option R) : ev Try.prog (E37v1 a40) loopLim Try.f37.ntmps kp37v1 c37v1_2 [(0, (V.sl t0)), (1, (V.fn (.func 40) [] [])), (7, (V.i .i64 t7)), (8, (V.i .i64 t8))] H K = g37v1_p3 a40 R t0 t7 t8 H (fun H => K .normal [] H) (fun t4 H => K .ret [(4, (V.i .i64 t4))] H) := by
  show ev Try.prog (E37v1 a40) loopLim Try.f37.ntmps kp37v1 (.block 0 c37v1_1) [(0, (V.sl t0)), (1, (V.fn (.func 40) [] [])), (7, (V.i .i64 t7)), (8, (V.i .i64 t8))] H K = _
  rw [ev_block]
  delta g37v1_p3
  exact (g37v1_p2_eq a40 la40 t0 t7 t8 H (kBlock kp37v1 0 K))
noncomputable def g37v1_p4 (a40 : T40) (R : Type) (H : Heap) (kR : Int → Heap → Option R) : Option R :=
  kR (-1 : Int) H
theorem g37v1_p4_eq (a40 : T40) (la40 : Lin40 a40) {R : Type} (H : Heap) (K : Ex → Fr → Heap → Option R) : ev Try.prog (E37v1 a40) loopLim Try.f37.ntmps kp37v1 c37v1_3 [] H K = g37v1_p4 a40 R H (fun t4 H => K .ret [(4, (V.i .i64 t4))] H) := by kernel_rfl
theorem g37v1_p4_lin {a40 : T40} (la40 : Lin40 a40) {R S : Type} {k : S → Option R} {H : Heap} {fkR : Int → Heap → Option R} {gkR : Int → Heap → Option S} (hkR : ∀ t4 H, fkR t4 H = (gkR t4 H).bind k) : g37v1_p4 a40 R H fkR = (g37v1_p4 a40 S H gkR).bind k := by
  delta g37v1_p4; exact (
    hkR _ _)
noncomputable def g37v1_p5 (a40 : T40) (R : Type) (t0 : Sl) (t7 : Int) (t8 : Int) (H : Heap) (kR : Int → Heap → Option R) : Option R :=
  g37v1_p3 a40 R t0 t7 t8 H (fun H => g37v1_p4 a40 R H (fun t4 H => kR t4 H)) (fun t4 H => kR t4 H)
theorem g37v1_p5_lin {a40 : T40} (la40 : Lin40 a40) {R S : Type} {k : S → Option R} {t0 : Sl} {t7 : Int} {t8 : Int} {H : Heap} {fkR : Int → Heap → Option R} {gkR : Int → Heap → Option S} (hkR : ∀ t4 H, fkR t4 H = (gkR t4 H).bind k) : g37v1_p5 a40 R t0 t7 t8 H fkR = (g37v1_p5 a40 S t0 t7 t8 H gkR).bind k := by
  exact g37v1_p3_lin la40 (fun _ => g37v1_p4_lin la40 (fun _ _ => hkR _ _)) (fun _ _ => hkR _ _)
theorem g37v1_p5_eq (a40 : T40) (la40 : Lin40 a40) {R : Type} (t0 : Sl) (t7 : Int) (t8 : Int) (H : Heap) (K : Ex → Fr → Heap → Option R) : ev Try.prog (E37v1 a40) loopLim Try.f37.ntmps kp37v1 c37v1_4 [(0, (V.sl t0)), (1, (V.fn (.func 40) [] [])), (7, (V.i .i64 t7)), (8, (V.i .i64 t8))] H K = g37v1_p5 a40 R t0 t7 t8 H (fun t4 H => K .ret [(4, (V.i .i64 t4))] H) := by
  show ev Try.prog (E37v1 a40) loopLim Try.f37.ntmps kp37v1 (.seq c37v1_2 c37v1_3) [(0, (V.sl t0)), (1, (V.fn (.func 40) [] [])), (7, (V.i .i64 t7)), (8, (V.i .i64 t8))] H K = _
  rw [ev_seq]
  delta g37v1_p5
  exact (g37v1_p3_eq a40 la40 t0 t7 t8 H (kSeq (fun fr H => ev Try.prog (E37v1 a40) loopLim Try.f37.ntmps kp37v1 c37v1_3 fr H K) K)).trans (congr (congrArg (g37v1_p3 a40 R t0 t7 t8 H) (funext fun H => (kSeq_n _ _ _ _).trans (g37v1_p4_eq a40 la40 H K))) rfl)
noncomputable def g37v1_p6 (a40 : T40) (R : Type) (t0 : Sl) (H : Heap) (kR : Int → Heap → Option R) : Option R :=
  g37v1_p0 a40 R t0 H (fun t0 t7 t8 H => g37v1_p5 a40 R t0 t7 t8 H (fun t4 H => kR t4 H))
theorem g37v1_p6_lin {a40 : T40} (la40 : Lin40 a40) {R S : Type} {k : S → Option R} {t0 : Sl} {H : Heap} {fkR : Int → Heap → Option R} {gkR : Int → Heap → Option S} (hkR : ∀ t4 H, fkR t4 H = (gkR t4 H).bind k) : g37v1_p6 a40 R t0 H fkR = (g37v1_p6 a40 S t0 H gkR).bind k := by
  exact g37v1_p0_lin la40 (fun _ _ _ _ => g37v1_p5_lin la40 (fun _ _ => hkR _ _))
theorem g37v1_p6_eq (a40 : T40) (la40 : Lin40 a40) {R : Type} (t0 : Sl) (H : Heap) (K : Ex → Fr → Heap → Option R) : ev Try.prog (E37v1 a40) loopLim Try.f37.ntmps kp37v1 c37v1_5 [(0, (V.sl t0)), (1, (V.fn (.func 40) [] []))] H K = g37v1_p6 a40 R t0 H (fun t4 H => K .ret [(4, (V.i .i64 t4))] H) := by
  show ev Try.prog (E37v1 a40) loopLim Try.f37.ntmps kp37v1 (.seq (codeAt [0] b37v1) (.seq (codeAt [1, 0, 0] b37v1) c37v1_4)) [(0, (V.sl t0)), (1, (V.fn (.func 40) [] []))] H K = _
  delta g37v1_p6
  exact (g37v1_p0_eq a40 _ t0 H K).trans (congrArg (g37v1_p0 a40 R t0 H) (funext fun t0 => funext fun t7 => funext fun t8 => funext fun H => g37v1_p5_eq a40 la40 t0 t7 t8 H K))
noncomputable def g37v1_r (a40 : T40) : T37v1 := fun R t0 H K =>
  g37v1_p6 a40 R t0 H (fun t4 H =>
    K t4 H)
theorem g37v1_r_lin {a40 : T40} (la40 : Lin40 a40) : Lin37v1 (g37v1_r a40) := by
  constructor
  intro R S k t0 H f g h
  exact g37v1_p6_lin la40 (fun t4 H =>
    h _ _)
theorem g37v1_fn (a40 : T40) (la40 : Lin40 a40) {R : Type} (t0 : Sl) (H : Heap) (K : V → Heap → Option R) : evFn Try.prog (E37v1 a40) loopLim Try.f37 kp37v1 [(V.sl t0), (V.fn (.func 40) [] [])] H K = g37v1_r a40 R t0 H (fun r0 H => K (V.i .i64 r0) H) := by
  have h0 : ∀ (t4 : Int) (H : Heap), kFn Try.prog Try.f37.results.toList K .ret [(4, (V.i .i64 t4))] H =
      K (V.i .i64 t4) H := by intros; kernel_rfl
  have e0 := evFn_code2 (P := Try.prog) (c := c37v1_5) (E := (E37v1 a40)) (lr := loopLim) (kp := kp37v1) (fn := Try.f37) (args := [(V.sl t0), (V.fn (.func 40) [] [])]) H K (by kernel_rfl) (Nat.le_of_ble_eq_true (by kernel_rfl)) (by kernel_rfl)
  have e1 : ev Try.prog (E37v1 a40) loopLim Try.f37.ntmps kp37v1 c37v1_5 (argFr 0 [(V.sl t0), (V.fn (.func 40) [] [])]) H (kFn Try.prog Try.f37.results.toList K) = ev Try.prog (E37v1 a40) loopLim Try.f37.ntmps kp37v1 c37v1_5 [(0, (V.sl t0)), (1, (V.fn (.func 40) [] []))] H (kFn Try.prog Try.f37.results.toList K) := by kernel_rfl
  refine (e0.trans e1).trans ?_
  delta g37v1_r
  exact (g37v1_p6_eq a40 la40 t0 H (kFn Try.prog Try.f37.results.toList K)).trans (congrArg (g37v1_p6 a40 R t0 H) (funext fun t4 => funext fun H => h0 t4 H))
theorem g37v1_ok {a40 : T40} (oa40 : FunOK Try.prog 40 (w40 a40)) (la40 : Lin40 a40) : FunOK Try.prog 37 (w37v1 (g37v1_r a40)) := by
  refine (runF_ok (E37v1_good oa40 la40) mixed lim_ok Try.func37 (by kernel_rfl) kp37v1).of_le fun R args H K r hk => ?_
  unfold w37v1 at hk
  split at hk
  · exact (g37v1_fn a40 la40 _ H K).trans hk
  · cases hk
def kp27v1 : Nat → Option (List Nat) := kpOf [(0, [0, 1]), (1, [4]), (300000, [4])]
def E27v1 (a37v1 : T37v1) : FEnv := [(37, w37v1 a37v1)]
theorem E27v1_good {a37v1 : T37v1} (oa37v1 : FunOK Try.prog 37 (w37v1 a37v1)) (la37v1 : Lin37v1 a37v1) : EnvGood Try.prog (E27v1 a37v1) := ((EnvGood.nil _).cons oa37v1 (w37v1_lin la37v1))
theorem E27v1_lin {a37v1 : T37v1} (la37v1 : Lin37v1 a37v1) : EnvLin (E27v1 a37v1) := by
  intro g F h
  simp only [E27v1, List.mem_cons, List.not_mem_nil, or_false] at h
  rcases h with h
  · cases h; exact w37v1_lin la37v1
noncomputable def b27v1 : Code := Try.f27.body.getD .skip
noncomputable def c27v1_0 : Code := (.seq (codeAt [0] b27v1) (.seq (codeAt [1, 0] b27v1) .ret))
noncomputable def g27v1_p0 (a37v1 : T37v1) (R : Type) (t0 : Sl) (H : Heap) (kR : Bool → Heap → Option R) : Option R :=
  a37v1 R t0 H fun x1 h2 =>
  kR (decide (x1 ≥ (0 : Int))) h2
theorem g27v1_p0_eq (a37v1 : T37v1) (la37v1 : Lin37v1 a37v1) {R : Type} (t0 : Sl) (H : Heap) (K : Ex → Fr → Heap → Option R) : ev Try.prog (E27v1 a37v1) loopLim Try.f27.ntmps kp27v1 c27v1_0 [(0, (V.sl t0)), (1, (V.fn (.func 40) [] []))] H K = g27v1_p0 a37v1 R t0 H (fun t4 H => K .ret [(4, (V.b t4))] H) := by kernel_rfl
theorem g27v1_p0_lin {a37v1 : T37v1} (la37v1 : Lin37v1 a37v1) {R S : Type} {k : S → Option R} {t0 : Sl} {H : Heap} {fkR : Bool → Heap → Option R} {gkR : Bool → Heap → Option S} (hkR : ∀ t4 H, fkR t4 H = (gkR t4 H).bind k) : g27v1_p0 a37v1 R t0 H fkR = (g27v1_p0 a37v1 S t0 H gkR).bind k := by
  delta g27v1_p0; exact (
    la37v1.l fun x1 h2 =>
    hkR _ _)
noncomputable def g27v1_r (a37v1 : T37v1) : T27v1 := fun R t0 H K =>
  g27v1_p0 a37v1 R t0 H (fun t4 H =>
    K t4 H)
theorem g27v1_r_lin {a37v1 : T37v1} (la37v1 : Lin37v1 a37v1) : Lin27v1 (g27v1_r a37v1) := by
  constructor
  intro R S k t0 H f g h
  exact g27v1_p0_lin la37v1 (fun t4 H =>
    h _ _)
theorem g27v1_fn (a37v1 : T37v1) (la37v1 : Lin37v1 a37v1) {R : Type} (t0 : Sl) (H : Heap) (K : V → Heap → Option R) : evFn Try.prog (E27v1 a37v1) loopLim Try.f27 kp27v1 [(V.sl t0), (V.fn (.func 40) [] [])] H K = g27v1_r a37v1 R t0 H (fun r0 H => K (V.b r0) H) := by
  have h0 : ∀ (t4 : Bool) (H : Heap), kFn Try.prog Try.f27.results.toList K .ret [(4, (V.b t4))] H =
      K (V.b t4) H := by intros; kernel_rfl
  have e0 := evFn_code2 (P := Try.prog) (c := c27v1_0) (E := (E27v1 a37v1)) (lr := loopLim) (kp := kp27v1) (fn := Try.f27) (args := [(V.sl t0), (V.fn (.func 40) [] [])]) H K (by kernel_rfl) (Nat.le_of_ble_eq_true (by kernel_rfl)) (by kernel_rfl)
  have e1 : ev Try.prog (E27v1 a37v1) loopLim Try.f27.ntmps kp27v1 c27v1_0 (argFr 0 [(V.sl t0), (V.fn (.func 40) [] [])]) H (kFn Try.prog Try.f27.results.toList K) = ev Try.prog (E27v1 a37v1) loopLim Try.f27.ntmps kp27v1 c27v1_0 [(0, (V.sl t0)), (1, (V.fn (.func 40) [] []))] H (kFn Try.prog Try.f27.results.toList K) := by kernel_rfl
  refine (e0.trans e1).trans ?_
  delta g27v1_r
  exact (g27v1_p0_eq a37v1 la37v1 t0 H (kFn Try.prog Try.f27.results.toList K)).trans (congrArg (g27v1_p0 a37v1 R t0 H) (funext fun t4 => funext fun H => h0 t4 H))
theorem g27v1_ok {a37v1 : T37v1} (oa37v1 : FunOK Try.prog 37 (w37v1 a37v1)) (la37v1 : Lin37v1 a37v1) : FunOK Try.prog 27 (w27v1 (g27v1_r a37v1)) := by
  refine (runF_ok (E27v1_good oa37v1 la37v1) mixed lim_ok Try.func27 (by kernel_rfl) kp27v1).of_le fun R args H K r hk => ?_
  unfold w27v1 at hk
  split at hk
  · exact (g27v1_fn a37v1 la37v1 _ H K).trans hk
  · cases hk
def kp39 : Nat → Option (List Nat) := kpOf [(0, [0]), (1, [2]), (300000, [2])]
def E39 (a27v1 : T27v1) : FEnv := [(27, w27v1 a27v1)]
theorem E39_good {a27v1 : T27v1} (oa27v1 : FunOK Try.prog 27 (w27v1 a27v1)) (la27v1 : Lin27v1 a27v1) : EnvGood Try.prog (E39 a27v1) := ((EnvGood.nil _).cons oa27v1 (w27v1_lin la27v1))
theorem E39_lin {a27v1 : T27v1} (la27v1 : Lin27v1 a27v1) : EnvLin (E39 a27v1) := by
  intro g F h
  simp only [E39, List.mem_cons, List.not_mem_nil, or_false] at h
  rcases h with h
  · cases h; exact w27v1_lin la27v1
noncomputable def b39 : Code := Try.f39.body.getD .skip
noncomputable def c39_0 : Code := (.seq (codeAt [0] b39) (.seq (codeAt [1, 0] b39) .ret))
noncomputable def g39_p0 (a27v1 : T27v1) (R : Type) (t0 : Sl) (H : Heap) (kR : Bool → Heap → Option R) : Option R :=
  a27v1 R t0 H fun x1 h2 =>
  kR (!x1) h2
theorem g39_p0_eq (a27v1 : T27v1) (la27v1 : Lin27v1 a27v1) {R : Type} (t0 : Sl) (H : Heap) (K : Ex → Fr → Heap → Option R) : ev Try.prog (E39 a27v1) loopLim Try.f39.ntmps kp39 c39_0 [(0, (V.sl t0))] H K = g39_p0 a27v1 R t0 H (fun t2 H => K .ret [(2, (V.b t2))] H) := by kernel_rfl
theorem g39_p0_lin {a27v1 : T27v1} (la27v1 : Lin27v1 a27v1) {R S : Type} {k : S → Option R} {t0 : Sl} {H : Heap} {fkR : Bool → Heap → Option R} {gkR : Bool → Heap → Option S} (hkR : ∀ t2 H, fkR t2 H = (gkR t2 H).bind k) : g39_p0 a27v1 R t0 H fkR = (g39_p0 a27v1 S t0 H gkR).bind k := by
  delta g39_p0; exact (
    la27v1.l fun x1 h2 =>
    hkR _ _)
noncomputable def g39_r (a27v1 : T27v1) : T39 := fun R t0 H K =>
  g39_p0 a27v1 R t0 H (fun t2 H =>
    K t2 H)
theorem g39_r_lin {a27v1 : T27v1} (la27v1 : Lin27v1 a27v1) : Lin39 (g39_r a27v1) := by
  constructor
  intro R S k t0 H f g h
  exact g39_p0_lin la27v1 (fun t2 H =>
    h _ _)
theorem g39_fn (a27v1 : T27v1) (la27v1 : Lin27v1 a27v1) {R : Type} (t0 : Sl) (H : Heap) (K : V → Heap → Option R) : evFn Try.prog (E39 a27v1) loopLim Try.f39 kp39 [(V.sl t0)] H K = g39_r a27v1 R t0 H (fun r0 H => K (V.b r0) H) := by
  have h0 : ∀ (t2 : Bool) (H : Heap), kFn Try.prog Try.f39.results.toList K .ret [(2, (V.b t2))] H =
      K (V.b t2) H := by intros; kernel_rfl
  have e0 := evFn_code2 (P := Try.prog) (c := c39_0) (E := (E39 a27v1)) (lr := loopLim) (kp := kp39) (fn := Try.f39) (args := [(V.sl t0)]) H K (by kernel_rfl) (Nat.le_of_ble_eq_true (by kernel_rfl)) (by kernel_rfl)
  have e1 : ev Try.prog (E39 a27v1) loopLim Try.f39.ntmps kp39 c39_0 (argFr 0 [(V.sl t0)]) H (kFn Try.prog Try.f39.results.toList K) = ev Try.prog (E39 a27v1) loopLim Try.f39.ntmps kp39 c39_0 [(0, (V.sl t0))] H (kFn Try.prog Try.f39.results.toList K) := by kernel_rfl
  refine (e0.trans e1).trans ?_
  delta g39_r
  exact (g39_p0_eq a27v1 la27v1 t0 H (kFn Try.prog Try.f39.results.toList K)).trans (congrArg (g39_p0 a27v1 R t0 H) (funext fun t2 => funext fun H => h0 t2 H))
theorem g39_ok {a27v1 : T27v1} (oa27v1 : FunOK Try.prog 27 (w27v1 a27v1)) (la27v1 : Lin27v1 a27v1) : FunOK Try.prog 39 (w39 (g39_r a27v1)) := by
  refine (runF_ok (E39_good oa27v1 la27v1) mixed lim_ok Try.func39 (by kernel_rfl) kp39).of_le fun R args H K r hk => ?_
  unfold w39 at hk
  split at hk
  · exact (g39_fn a27v1 la27v1 _ H K).trans hk
  · cases hk
def kp38 : Nat → Option (List Nat) := kpOf [(0, [0]), (1, [0, 7]), (2, [2, 3]), (3, [2, 3]), (300000, [2, 3]), (400007, [0])]
def E38 (a39 : T39) : FEnv := [(39, w39 a39)]
theorem E38_good {a39 : T39} (oa39 : FunOK Try.prog 39 (w39 a39)) (la39 : Lin39 a39) : EnvGood Try.prog (E38 a39) := ((EnvGood.nil _).cons oa39 (w39_lin la39))
theorem E38_lin {a39 : T39} (la39 : Lin39 a39) : EnvLin (E38 a39) := by
  intro g F h
  simp only [E38, List.mem_cons, List.not_mem_nil, or_false] at h
  rcases h with h
  · cases h; exact w39_lin la39
noncomputable def b38 : Code := Try.f38.body.getD .skip
noncomputable def c38_0 : Code := (.seq (codeAt [0] b38) (.seq (codeAt [1, 0, 0] b38) (.seq (.cond (.tmp 7) (.seq (codeAt [1, 0, 1, 0, 0] b38) .ret) .skip) (.seq (codeAt [1, 1, 0] b38) .ret))))
noncomputable def g38_p0 (a39 : T39) (R : Type) (t0 : Int) (H : Heap) (kR : V → Int → Heap → Option R) : Option R :=
  alo H (.cells [(V.i .i64 t0)] 3 false) fun i1 h2 =>
  a39 R (Sl.mk (some (i1, 0)) 1 (.ex 1)) h2 fun x3 h4 =>
  sel (!x3) (
    kR V.nilI (1 : Int) h4) (
    alo h4 (.cells [(V.i .i64 (0 : Int)), (V.i .i64 t0)] 77 false) fun i5 h6 =>
    kR (V.ifc 73 (V.p (some (i5, 0)))) (0 : Int) h6)
theorem g38_p0_eq (a39 : T39) (la39 : Lin39 a39) {R : Type} (t0 : Int) (H : Heap) (K : Ex → Fr → Heap → Option R) : ev Try.prog (E38 a39) loopLim Try.f38.ntmps kp38 c38_0 [(0, (V.i .i64 t0))] H K = g38_p0 a39 R t0 H (fun t2 t3 H => K .ret [(2, t2), (3, (V.i .i64 t3))] H) := by kernel_rfl
theorem g38_p0_lin {a39 : T39} (la39 : Lin39 a39) {R S : Type} {k : S → Option R} {t0 : Int} {H : Heap} {fkR : V → Int → Heap → Option R} {gkR : V → Int → Heap → Option S} (hkR : ∀ t2 t3 H, fkR t2 t3 H = (gkR t2 t3 H).bind k) : g38_p0 a39 R t0 H fkR = (g38_p0 a39 S t0 H gkR).bind k := by
  delta g38_p0; exact (
    alo_lin fun i1 h2 =>
    la39.l fun x3 h4 =>
    sl_lin (
      hkR _ _ _) (
      alo_lin fun i5 h6 =>
      hkR _ _ _))
noncomputable def g38_r (a39 : T39) : T38 := fun R t0 H K =>
  g38_p0 a39 R t0 H (fun t2 t3 H =>
    K t2 t3 H)
theorem g38_r_lin {a39 : T39} (la39 : Lin39 a39) : Lin38 (g38_r a39) := by
  constructor
  intro R S k t0 H f g h
  exact g38_p0_lin la39 (fun t2 t3 H =>
    h _ _ _)
theorem g38_fn (a39 : T39) (la39 : Lin39 a39) {R : Type} (t0 : Int) (H : Heap) (K : V → Heap → Option R) : evFn Try.prog (E38 a39) loopLim Try.f38 kp38 [(V.i .i64 t0)] H K = g38_r a39 R t0 H (fun r0 r1 H => K (V.tup [r0, (V.i .i64 r1)]) H) := by
  have h0 : ∀ (t2 : V) (t3 : Int) (H : Heap), kFn Try.prog Try.f38.results.toList K .ret [(2, t2), (3, (V.i .i64 t3))] H =
      K (V.tup [t2, (V.i .i64 t3)]) H := by intros; kernel_rfl
  have e0 := evFn_code2 (P := Try.prog) (c := c38_0) (E := (E38 a39)) (lr := loopLim) (kp := kp38) (fn := Try.f38) (args := [(V.i .i64 t0)]) H K (by kernel_rfl) (Nat.le_of_ble_eq_true (by kernel_rfl)) (by kernel_rfl)
  have e1 : ev Try.prog (E38 a39) loopLim Try.f38.ntmps kp38 c38_0 (argFr 0 [(V.i .i64 t0)]) H (kFn Try.prog Try.f38.results.toList K) = ev Try.prog (E38 a39) loopLim Try.f38.ntmps kp38 c38_0 [(0, (V.i .i64 t0))] H (kFn Try.prog Try.f38.results.toList K) := by kernel_rfl
  refine (e0.trans e1).trans ?_
  delta g38_r
  exact (g38_p0_eq a39 la39 t0 H (kFn Try.prog Try.f38.results.toList K)).trans (congrArg (g38_p0 a39 R t0 H) (funext fun t2 => funext fun t3 => funext fun H => h0 t2 t3 H))
theorem g38_ok {a39 : T39} (oa39 : FunOK Try.prog 39 (w39 a39)) (la39 : Lin39 a39) : FunOK Try.prog 38 (w38 (g38_r a39)) := by
  refine (runF_ok (E38_good oa39 la39) mixed lim_ok Try.func38 (by kernel_rfl) kp38).of_le fun R args H K r hk => ?_
  unfold w38 at hk
  split at hk
  · exact (g38_fn a39 la39 _ H K).trans hk
  · cases hk
def kp29 : Nat → Option (List Nat) := kpOf [(0, [0, 1]), (1, [0, 12]), (2, [0, 12, 13]), (3, []), (4, [0, 12, 23]), (5, []), (6, [0, 33]), (7, [0]), (8, [0, 4]), (9, [0, 4]), (10, [0, 4, 58]), (11, [0, 4]), (12, []), (100000, []), (200000, [0, 12]), (300000, []), (400013, []), (400023, []), (400033, []), (400058, [0, 4])]
def E29 (a38 : T38) : FEnv := [(38, w38 a38)]
theorem E29_good {a38 : T38} (oa38 : FunOK Try.prog 38 (w38 a38)) (la38 : Lin38 a38) : EnvGood Try.prog (E29 a38) := ((EnvGood.nil _).cons oa38 (w38_lin la38))
theorem E29_lin {a38 : T38} (la38 : Lin38 a38) : EnvLin (E29 a38) := by
  intro g F h
  simp only [E29, List.mem_cons, List.not_mem_nil, or_false] at h
  rcases h with h
  · cases h; exact w38_lin la38
noncomputable def b29 : Code := Try.f29.body.getD .skip
noncomputable def c29_0 : Code := (.seq (codeAt [0] b29) (.seq (codeAt [1, 0] b29) (.block 0 (.seq (codeAt [1, 1, 0, 0] b29) (.cond (.tmp 13) (codeAt [1, 1, 0, 1, 0] b29) (.seq (codeAt [1, 1, 0, 1, 1, 0] b29) (.cond (.tmp 23) (codeAt [1, 1, 0, 1, 1, 1, 0] b29) (.seq (codeAt [1, 1, 0, 1, 1, 1, 1, 0] b29) (.cond (.tmp 33) (.seq (codeAt [1, 1, 0, 1, 1, 1, 1, 1, 0, 0] b29) (.seq (codeAt [1, 1, 0, 1, 1, 1, 1, 1, 0, 1, 0] b29) (.seq (codeAt [1, 1, 0, 1, 1, 1, 1, 1, 0, 1, 1, 0] b29) (.seq (codeAt [1, 1, 0, 1, 1, 1, 1, 1, 0, 1, 1, 1, 0, 0] b29) (.seq (.cond (.tmp 58) (codeAt [1, 1, 0, 1, 1, 1, 1, 1, 0, 1, 1, 1, 0, 1, 0] b29) .skip) (codeAt [1, 1, 0, 1, 1, 1, 1, 1, 0, 1, 1, 1, 1] b29)))))) .skip)))))))))
noncomputable def g29_p0 (a38 : T38) (R : Type) (t0 : Option (Nat × Nat)) (t1 : Int) (H : Heap) (kN : Heap → Option R) : Option R :=
  (t0).bind fun q1 =>
  ((H).st q1.1 (q1.2 + 7) (V.i .u8 t1)).bind fun h3 =>
  (t0).bind fun q4 =>
  ((h3).st q4.1 (q4.2 + 8) (V.i .i64 (0 : Int))).bind fun h6 =>
  sel (t1 == (1 : Int)) (
    (t0).bind fun q7 =>
    ((h6).ldI .i64 q7.1 ((q7.2 + 0) + 0)).bind fun x8 =>
    (t0).bind fun q9 =>
    ((h6).st q9.1 (q9.2 + 8) (V.i .i64 x8)).bind fun h11 =>
    kN h11) (
    sel (t1 == (2 : Int)) (
      (t0).bind fun q12 =>
      ((h6).ldI .i64 q12.1 ((q12.2 + 0) + 1)).bind fun x13 =>
      (t0).bind fun q14 =>
      ((h6).st q14.1 (q14.2 + 8) (V.i .i64 x13)).bind fun h16 =>
      kN h16) (
      sel (t1 == (3 : Int)) (
        (t0).bind fun q17 =>
        ((h6).ldI .i64 q17.1 (q17.2 + 11)).bind fun x18 =>
        (t0).bind fun q19 =>
        ((h6).st q19.1 (q19.2 + 11) (V.i .i64 (IntKind.wrap .i64 (x18 + (1 : Int))))).bind fun h21 =>
        (t0).bind fun q22 =>
        ((h21).ldI .i64 q22.1 ((q22.2 + 0) + 4)).bind fun x23 =>
        (t0).bind fun q24 =>
        ((h21).ldI .i64 q24.1 ((q24.2 + 0) + 2)).bind fun x25 =>
        (t0).bind fun q26 =>
        ((h21).st q26.1 (q26.2 + 8) (V.i .i64 x25)).bind fun h28 =>
        (t0).bind fun q29 =>
        ((h28).ldB q29.1 (q29.2 + 10)).bind fun x30 =>
        sel x30 (
          (t0).bind fun q31 =>
          ((h28).ldI .i64 q31.1 ((q31.2 + 0) + 3)).bind fun x32 =>
          (t0).bind fun q33 =>
          ((h28).ldI .i64 q33.1 ((q33.2 + 0) + 5)).bind fun x34 =>
          (t0).bind fun q35 =>
          ((h28).st q35.1 (q35.2 + 8) (V.i .i64 x32)).bind fun h37 =>
          a38 R x34 h37 fun x38 x39 h40 =>
          if (V.one x38) = true then (
            (t0).bind fun q41 =>
            stT Try.prog h40 56 q41.1 (q41.2 + 12) x38 fun h42 =>
            kN h42)
          else (
            none)) (
          a38 R x23 h28 fun x43 x44 h45 =>
          if (V.one x43) = true then (
            (t0).bind fun q46 =>
            stT Try.prog h45 56 q46.1 (q46.2 + 12) x43 fun h47 =>
            kN h47)
          else (
            none))) (
        kN h6)))
theorem g29_p0_eq (a38 : T38) (la38 : Lin38 a38) {R : Type} (t0 : Option (Nat × Nat)) (t1 : Int) (H : Heap) (K : Ex → Fr → Heap → Option R) : ev Try.prog (E29 a38) loopLim Try.f29.ntmps kp29 c29_0 [(0, (V.p t0)), (1, (V.i .u8 t1))] H K = g29_p0 a38 R t0 t1 H (fun H => K .normal [] H) := by kernel_rfl
theorem g29_p0_lin {a38 : T38} (la38 : Lin38 a38) {R S : Type} {k : S → Option R} {t0 : Option (Nat × Nat)} {t1 : Int} {H : Heap} {fkN : Heap → Option R} {gkN : Heap → Option S} (hkN : ∀ H, fkN H = (gkN H).bind k) : g29_p0 a38 R t0 t1 H fkN = (g29_p0 a38 S t0 t1 H gkN).bind k := by
  delta g29_p0; exact (
    bl fun q1 =>
    bl fun h3 =>
    bl fun q4 =>
    bl fun h6 =>
    sl_lin (
      bl fun q7 =>
      bl fun x8 =>
      bl fun q9 =>
      bl fun h11 =>
      hkN _) (
      sl_lin (
        bl fun q12 =>
        bl fun x13 =>
        bl fun q14 =>
        bl fun h16 =>
        hkN _) (
        sl_lin (
          bl fun q17 =>
          bl fun x18 =>
          bl fun q19 =>
          bl fun h21 =>
          bl fun q22 =>
          bl fun x23 =>
          bl fun q24 =>
          bl fun x25 =>
          bl fun q26 =>
          bl fun h28 =>
          bl fun q29 =>
          bl fun x30 =>
          sl_lin (
            bl fun q31 =>
            bl fun x32 =>
            bl fun q33 =>
            bl fun x34 =>
            bl fun q35 =>
            bl fun h37 =>
            la38.l fun x38 x39 h40 =>
            il (
              bl fun q41 =>
              stT_lin fun h42 =>
              hkN _) (
              rfl)) (
            la38.l fun x43 x44 h45 =>
            il (
              bl fun q46 =>
              stT_lin fun h47 =>
              hkN _) (
              rfl))) (
          hkN _))))
noncomputable def g29_r (a38 : T38) : T29 := fun R t0 t1 H K =>
  g29_p0 a38 R t0 t1 H (fun H =>
    K  H)
theorem g29_r_lin {a38 : T38} (la38 : Lin38 a38) : Lin29 (g29_r a38) := by
  constructor
  intro R S k t0 t1 H f g h
  exact g29_p0_lin la38 (fun H =>
    h _)
theorem g29_fn (a38 : T38) (la38 : Lin38 a38) {R : Type} (t0 : Option (Nat × Nat)) (t1 : Int) (H : Heap) (K : V → Heap → Option R) : evFn Try.prog (E29 a38) loopLim Try.f29 kp29 [(V.p t0), (V.i .u8 t1)] H K = g29_r a38 R t0 t1 H (fun H => K (V.tup []) H) := by
  have h0 : ∀ (H : Heap), kFn Try.prog Try.f29.results.toList K .normal [] H =
      K (V.tup []) H := by intros; kernel_rfl
  have e0 := evFn_code2 (P := Try.prog) (c := c29_0) (E := (E29 a38)) (lr := loopLim) (kp := kp29) (fn := Try.f29) (args := [(V.p t0), (V.i .u8 t1)]) H K (by kernel_rfl) (Nat.le_of_ble_eq_true (by kernel_rfl)) (by kernel_rfl)
  have e1 : ev Try.prog (E29 a38) loopLim Try.f29.ntmps kp29 c29_0 (argFr 0 [(V.p t0), (V.i .u8 t1)]) H (kFn Try.prog Try.f29.results.toList K) = ev Try.prog (E29 a38) loopLim Try.f29.ntmps kp29 c29_0 [(0, (V.p t0)), (1, (V.i .u8 t1))] H (kFn Try.prog Try.f29.results.toList K) := by kernel_rfl
  refine (e0.trans e1).trans ?_
  delta g29_r
  exact (g29_p0_eq a38 la38 t0 t1 H (kFn Try.prog Try.f29.results.toList K)).trans (congrArg (g29_p0 a38 R t0 t1 H) (funext fun H => h0 H))
theorem g29_ok {a38 : T38} (oa38 : FunOK Try.prog 38 (w38 a38)) (la38 : Lin38 a38) : FunOK Try.prog 29 (w29 (g29_r a38)) := by
  refine (runF_ok (E29_good oa38 la38) mixed lim_ok Try.func29 (by kernel_rfl) kp29).of_le fun R args H K r hk => ?_
  unfold w29 at hk
  split at hk
  · exact (g29_fn a38 la38 _ _ H K).trans hk
  · cases hk
def kp11 : Nat → Option (List Nat) := kpOf [(0, [0, 1]), (1, [0, 1, 6]), (2, [4]), (3, [0, 1, 18]), (4, [4]), (5, [0]), (6, []), (7, [4]), (300000, [4]), (400006, [0, 1]), (400018, [0, 1])]
def E11 (a28 : T28) (a29 : T29) : FEnv := [(28, w28 a28), (29, w29 a29)]
theorem E11_good {a28 : T28} {a29 : T29} (oa28 : FunOK Try.prog 28 (w28 a28)) (oa29 : FunOK Try.prog 29 (w29 a29)) (la28 : Lin28 a28) (la29 : Lin29 a29) : EnvGood Try.prog (E11 a28 a29) := (((EnvGood.nil _).cons oa29 (w29_lin la29)).cons oa28 (w28_lin la28))
theorem E11_lin {a28 : T28} {a29 : T29} (la28 : Lin28 a28) (la29 : Lin29 a29) : EnvLin (E11 a28 a29) := by
  intro g F h
  simp only [E11, List.mem_cons, List.not_mem_nil, or_false] at h
  rcases h with h | h
  · cases h; exact w28_lin la28
  · cases h; exact w29_lin la29
noncomputable def b11 : Code := Try.f11.body.getD .skip
noncomputable def c11_0 : Code := (.seq (codeAt [0] b11) (.seq (codeAt [1, 0, 0] b11) (.seq (.cond (.tmp 6) (.seq (codeAt [1, 0, 1, 0, 0] b11) .ret) .skip) (.seq (codeAt [1, 1, 0, 0] b11) (.seq (.cond (.tmp 18) (.seq (codeAt [1, 1, 0, 1, 0, 0] b11) .ret) .skip) (.seq (codeAt [1, 1, 1, 0] b11) (.seq (codeAt [1, 1, 1, 1, 0] b11) (.seq (codeAt [1, 1, 1, 1, 1, 0] b11) .ret))))))))
noncomputable def g11_p0 (a28 : T28) (a29 : T29) (R : Type) (t0 : Option (Nat × Nat)) (t1 : Bool) (H : Heap) (kR : Int → Heap → Option R) : Option R :=
  a28 R t0 H fun x1 h2 =>
  sel x1 (
    kR (2 : Int) h2) (
    (t0).bind fun q3 =>
    ((h2).ldI .u8 q3.1 (q3.2 + 7)).bind fun x4 =>
    sel (x4 != (0 : Int)) (
      (t0).bind fun q5 =>
      ((h2).ldI .u8 q5.1 (q5.2 + 7)).bind fun x6 =>
      sel (x6 != (5 : Int)) (
        kR (6 : Int) h2) (
        (t0).bind fun q7 =>
        ((h2).st q7.1 (q7.2 + 9) (V.b t1)).bind fun h9 =>
        (t0).bind fun q10 =>
        ((h9).st q10.1 (q10.2 + 10) (V.b t1)).bind fun h12 =>
        (t0).bind fun q13 =>
        ((h12).st q13.1 (q13.2 + 11) (V.i .i64 (0 : Int))).bind fun h15 =>
        a29 R t0 (1 : Int) h15 fun h16 =>
        kR (0 : Int) h16)) (
      (t0).bind fun q17 =>
      ((h2).st q17.1 (q17.2 + 9) (V.b t1)).bind fun h19 =>
      (t0).bind fun q20 =>
      ((h19).st q20.1 (q20.2 + 10) (V.b t1)).bind fun h22 =>
      (t0).bind fun q23 =>
      ((h22).st q23.1 (q23.2 + 11) (V.i .i64 (0 : Int))).bind fun h25 =>
      a29 R t0 (1 : Int) h25 fun h26 =>
      kR (0 : Int) h26))
theorem g11_p0_eq (a28 : T28) (a29 : T29) (la28 : Lin28 a28) (la29 : Lin29 a29) {R : Type} (t0 : Option (Nat × Nat)) (t1 : Bool) (H : Heap) (K : Ex → Fr → Heap → Option R) : ev Try.prog (E11 a28 a29) loopLim Try.f11.ntmps kp11 c11_0 [(0, (V.p t0)), (1, (V.b t1))] H K = g11_p0 a28 a29 R t0 t1 H (fun t4 H => K .ret [(4, (V.i .i64 t4))] H) := by kernel_rfl
theorem g11_p0_lin {a28 : T28} {a29 : T29} (la28 : Lin28 a28) (la29 : Lin29 a29) {R S : Type} {k : S → Option R} {t0 : Option (Nat × Nat)} {t1 : Bool} {H : Heap} {fkR : Int → Heap → Option R} {gkR : Int → Heap → Option S} (hkR : ∀ t4 H, fkR t4 H = (gkR t4 H).bind k) : g11_p0 a28 a29 R t0 t1 H fkR = (g11_p0 a28 a29 S t0 t1 H gkR).bind k := by
  delta g11_p0; exact (
    la28.l fun x1 h2 =>
    sl_lin (
      hkR _ _) (
      bl fun q3 =>
      bl fun x4 =>
      sl_lin (
        bl fun q5 =>
        bl fun x6 =>
        sl_lin (
          hkR _ _) (
          bl fun q7 =>
          bl fun h9 =>
          bl fun q10 =>
          bl fun h12 =>
          bl fun q13 =>
          bl fun h15 =>
          la29.l fun h16 =>
          hkR _ _)) (
        bl fun q17 =>
        bl fun h19 =>
        bl fun q20 =>
        bl fun h22 =>
        bl fun q23 =>
        bl fun h25 =>
        la29.l fun h26 =>
        hkR _ _)))
noncomputable def g11_r (a28 : T28) (a29 : T29) : T11 := fun R t0 t1 H K =>
  g11_p0 a28 a29 R t0 t1 H (fun t4 H =>
    K t4 H)
theorem g11_r_lin {a28 : T28} {a29 : T29} (la28 : Lin28 a28) (la29 : Lin29 a29) : Lin11 (g11_r a28 a29) := by
  constructor
  intro R S k t0 t1 H f g h
  exact g11_p0_lin la28 la29 (fun t4 H =>
    h _ _)
theorem g11_fn (a28 : T28) (a29 : T29) (la28 : Lin28 a28) (la29 : Lin29 a29) {R : Type} (t0 : Option (Nat × Nat)) (t1 : Bool) (H : Heap) (K : V → Heap → Option R) : evFn Try.prog (E11 a28 a29) loopLim Try.f11 kp11 [(V.p t0), (V.b t1)] H K = g11_r a28 a29 R t0 t1 H (fun r0 H => K (V.i .i64 r0) H) := by
  have h0 : ∀ (t4 : Int) (H : Heap), kFn Try.prog Try.f11.results.toList K .ret [(4, (V.i .i64 t4))] H =
      K (V.i .i64 t4) H := by intros; kernel_rfl
  have e0 := evFn_code2 (P := Try.prog) (c := c11_0) (E := (E11 a28 a29)) (lr := loopLim) (kp := kp11) (fn := Try.f11) (args := [(V.p t0), (V.b t1)]) H K (by kernel_rfl) (Nat.le_of_ble_eq_true (by kernel_rfl)) (by kernel_rfl)
  have e1 : ev Try.prog (E11 a28 a29) loopLim Try.f11.ntmps kp11 c11_0 (argFr 0 [(V.p t0), (V.b t1)]) H (kFn Try.prog Try.f11.results.toList K) = ev Try.prog (E11 a28 a29) loopLim Try.f11.ntmps kp11 c11_0 [(0, (V.p t0)), (1, (V.b t1))] H (kFn Try.prog Try.f11.results.toList K) := by kernel_rfl
  refine (e0.trans e1).trans ?_
  delta g11_r
  exact (g11_p0_eq a28 a29 la28 la29 t0 t1 H (kFn Try.prog Try.f11.results.toList K)).trans (congrArg (g11_p0 a28 a29 R t0 t1 H) (funext fun t4 => funext fun H => h0 t4 H))
theorem g11_ok {a28 : T28} {a29 : T29} (oa28 : FunOK Try.prog 28 (w28 a28)) (oa29 : FunOK Try.prog 29 (w29 a29)) (la28 : Lin28 a28) (la29 : Lin29 a29) : FunOK Try.prog 11 (w11 (g11_r a28 a29)) := by
  refine (runF_ok (E11_good oa28 oa29 la28 la29) mixed lim_ok Try.func11 (by kernel_rfl) kp11).of_le fun R args H K r hk => ?_
  unfold w11 at hk
  split at hk
  · exact (g11_fn a28 a29 la28 la29 _ _ H K).trans hk
  · cases hk
def kp12 : Nat → Option (List Nat) := kpOf [(0, [0]), (1, [0, 4]), (2, [2]), (3, [0, 9]), (4, [2]), (5, [0]), (6, []), (7, [0, 19]), (8, [0, 25]), (9, []), (10, [2]), (100000, []), (200000, [0]), (300000, [2]), (400004, [0]), (400009, [0]), (400019, []), (400025, [])]
def E12 (a28 : T28) (a29 : T29) : FEnv := [(28, w28 a28), (29, w29 a29)]
theorem E12_good {a28 : T28} {a29 : T29} (oa28 : FunOK Try.prog 28 (w28 a28)) (oa29 : FunOK Try.prog 29 (w29 a29)) (la28 : Lin28 a28) (la29 : Lin29 a29) : EnvGood Try.prog (E12 a28 a29) := (((EnvGood.nil _).cons oa29 (w29_lin la29)).cons oa28 (w28_lin la28))
theorem E12_lin {a28 : T28} {a29 : T29} (la28 : Lin28 a28) (la29 : Lin29 a29) : EnvLin (E12 a28 a29) := by
  intro g F h
  simp only [E12, List.mem_cons, List.not_mem_nil, or_false] at h
  rcases h with h | h
  · cases h; exact w28_lin la28
  · cases h; exact w29_lin la29
noncomputable def b12 : Code := Try.f12.body.getD .skip
noncomputable def c12_0 : Code := (.seq (codeAt [0] b12) (.seq (codeAt [1, 0, 0] b12) (.seq (.cond (.tmp 4) (.seq (codeAt [1, 0, 1, 0, 0] b12) .ret) .skip) (.seq (codeAt [1, 1, 0, 0] b12) (.seq (.cond (.tmp 9) (.seq (codeAt [1, 1, 0, 1, 0, 0] b12) .ret) .skip) (.seq (codeAt [1, 1, 1, 0] b12) (.seq (.block 0 (.seq (codeAt [1, 1, 1, 1, 0, 0, 0] b12) (.cond (.tmp 19) .skip (.seq (codeAt [1, 1, 1, 1, 0, 0, 1, 1, 0] b12) (.cond (.tmp 25) (codeAt [1, 1, 1, 1, 0, 0, 1, 1, 1, 0] b12) (codeAt [1, 1, 1, 1, 0, 0, 1, 1, 1, 1] b12)))))) (.seq (codeAt [1, 1, 1, 1, 1, 0] b12) .ret))))))))
noncomputable def g12_p0 (a28 : T28) (a29 : T29) (R : Type) (t0 : Option (Nat × Nat)) (H : Heap) (kR : Int → Heap → Option R) : Option R :=
  a28 R t0 H fun x1 h2 =>
  sel x1 (
    kR (2 : Int) h2) (
    (t0).bind fun q3 =>
    ((h2).ldI .i64 q3.1 (q3.2 + 8)).bind fun x4 =>
    sel (x4 == (0 : Int)) (
      kR (0 : Int) h2) (
      (t0).bind fun q5 =>
      ((h2).ldI .i64 q5.1 (q5.2 + 8)).bind fun x6 =>
      (t0).bind fun q7 =>
      ((h2).st q7.1 (q7.2 + 8) (V.i .i64 (IntKind.wrap .i64 (x6 - (1 : Int))))).bind fun h9 =>
      (t0).bind fun q10 =>
      ((h9).ldI .i64 q10.1 (q10.2 + 8)).bind fun x11 =>
      sel (decide (x11 > (0 : Int))) (
        kR (0 : Int) h9) (
        (t0).bind fun q12 =>
        ((h9).ldI .u8 q12.1 (q12.2 + 7)).bind fun x13 =>
        sel (x13 == (3 : Int)) (
          a29 R t0 (4 : Int) h9 fun h14 =>
          kR (0 : Int) h14) (
          a29 R t0 (5 : Int) h9 fun h15 =>
          kR (0 : Int) h15))))
theorem g12_p0_eq (a28 : T28) (a29 : T29) (la28 : Lin28 a28) (la29 : Lin29 a29) {R : Type} (t0 : Option (Nat × Nat)) (H : Heap) (K : Ex → Fr → Heap → Option R) : ev Try.prog (E12 a28 a29) loopLim Try.f12.ntmps kp12 c12_0 [(0, (V.p t0))] H K = g12_p0 a28 a29 R t0 H (fun t2 H => K .ret [(2, (V.i .i64 t2))] H) := by kernel_rfl
theorem g12_p0_lin {a28 : T28} {a29 : T29} (la28 : Lin28 a28) (la29 : Lin29 a29) {R S : Type} {k : S → Option R} {t0 : Option (Nat × Nat)} {H : Heap} {fkR : Int → Heap → Option R} {gkR : Int → Heap → Option S} (hkR : ∀ t2 H, fkR t2 H = (gkR t2 H).bind k) : g12_p0 a28 a29 R t0 H fkR = (g12_p0 a28 a29 S t0 H gkR).bind k := by
  delta g12_p0; exact (
    la28.l fun x1 h2 =>
    sl_lin (
      hkR _ _) (
      bl fun q3 =>
      bl fun x4 =>
      sl_lin (
        hkR _ _) (
        bl fun q5 =>
        bl fun x6 =>
        bl fun q7 =>
        bl fun h9 =>
        bl fun q10 =>
        bl fun x11 =>
        sl_lin (
          hkR _ _) (
          bl fun q12 =>
          bl fun x13 =>
          sl_lin (
            la29.l fun h14 =>
            hkR _ _) (
            la29.l fun h15 =>
            hkR _ _)))))
noncomputable def g12_r (a28 : T28) (a29 : T29) : T12 := fun R t0 H K =>
  g12_p0 a28 a29 R t0 H (fun t2 H =>
    K t2 H)
theorem g12_r_lin {a28 : T28} {a29 : T29} (la28 : Lin28 a28) (la29 : Lin29 a29) : Lin12 (g12_r a28 a29) := by
  constructor
  intro R S k t0 H f g h
  exact g12_p0_lin la28 la29 (fun t2 H =>
    h _ _)
theorem g12_fn (a28 : T28) (a29 : T29) (la28 : Lin28 a28) (la29 : Lin29 a29) {R : Type} (t0 : Option (Nat × Nat)) (H : Heap) (K : V → Heap → Option R) : evFn Try.prog (E12 a28 a29) loopLim Try.f12 kp12 [(V.p t0)] H K = g12_r a28 a29 R t0 H (fun r0 H => K (V.i .i64 r0) H) := by
  have h0 : ∀ (t2 : Int) (H : Heap), kFn Try.prog Try.f12.results.toList K .ret [(2, (V.i .i64 t2))] H =
      K (V.i .i64 t2) H := by intros; kernel_rfl
  have e0 := evFn_code2 (P := Try.prog) (c := c12_0) (E := (E12 a28 a29)) (lr := loopLim) (kp := kp12) (fn := Try.f12) (args := [(V.p t0)]) H K (by kernel_rfl) (Nat.le_of_ble_eq_true (by kernel_rfl)) (by kernel_rfl)
  have e1 : ev Try.prog (E12 a28 a29) loopLim Try.f12.ntmps kp12 c12_0 (argFr 0 [(V.p t0)]) H (kFn Try.prog Try.f12.results.toList K) = ev Try.prog (E12 a28 a29) loopLim Try.f12.ntmps kp12 c12_0 [(0, (V.p t0))] H (kFn Try.prog Try.f12.results.toList K) := by kernel_rfl
  refine (e0.trans e1).trans ?_
  delta g12_r
  exact (g12_p0_eq a28 a29 la28 la29 t0 H (kFn Try.prog Try.f12.results.toList K)).trans (congrArg (g12_p0 a28 a29 R t0 H) (funext fun t2 => funext fun H => h0 t2 H))
theorem g12_ok {a28 : T28} {a29 : T29} (oa28 : FunOK Try.prog 28 (w28 a28)) (oa29 : FunOK Try.prog 29 (w29 a29)) (la28 : Lin28 a28) (la29 : Lin29 a29) : FunOK Try.prog 12 (w12 (g12_r a28 a29)) := by
  refine (runF_ok (E12_good oa28 oa29 la28 la29) mixed lim_ok Try.func12 (by kernel_rfl) kp12).of_le fun R args H K r hk => ?_
  unfold w12 at hk
  split at hk
  · exact (g12_fn a28 a29 la28 la29 _ H K).trans hk
  · cases hk
def kp13 : Nat → Option (List Nat) := kpOf [(0, [0]), (1, [0, 4]), (2, [2]), (3, [2]), (300000, [2]), (400004, [0])]
def E13 : FEnv := []
theorem E13_good : EnvGood Try.prog E13 := (EnvGood.nil _)
theorem E13_lin : EnvLin E13 := fun g F h => by cases h
noncomputable def b13 : Code := Try.f13.body.getD .skip
noncomputable def c13_0 : Code := (.seq (codeAt [0] b13) (.seq (codeAt [1, 0, 0] b13) (.seq (.cond (.tmp 4) (.seq (codeAt [1, 0, 1, 0, 0] b13) .ret) .skip) (.seq (codeAt [1, 1, 0] b13) .ret))))
noncomputable def g13_p0 (R : Type) (t0 : Option (Nat × Nat)) (H : Heap) (kR : Int → Heap → Option R) : Option R :=
  sel (Option.isNone t0) (
    kR (0 : Int) H) (
    (t0).bind fun q1 =>
    ((H).ldI .u8 q1.1 (q1.2 + 7)).bind fun x2 =>
    kR x2 H)
theorem g13_p0_eq {R : Type} (t0 : Option (Nat × Nat)) (H : Heap) (K : Ex → Fr → Heap → Option R) : ev Try.prog E13 loopLim Try.f13.ntmps kp13 c13_0 [(0, (V.p t0))] H K = g13_p0 R t0 H (fun t2 H => K .ret [(2, (V.i .u8 t2))] H) := by kernel_rfl
theorem g13_p0_lin {R S : Type} {k : S → Option R} {t0 : Option (Nat × Nat)} {H : Heap} {fkR : Int → Heap → Option R} {gkR : Int → Heap → Option S} (hkR : ∀ t2 H, fkR t2 H = (gkR t2 H).bind k) : g13_p0 R t0 H fkR = (g13_p0 S t0 H gkR).bind k := by
  delta g13_p0; exact (
    sl_lin (
      hkR _ _) (
      bl fun q1 =>
      bl fun x2 =>
      hkR _ _))
noncomputable def g13_r : T13 := fun R t0 H K =>
  g13_p0 R t0 H (fun t2 H =>
    K t2 H)
theorem g13_r_lin : Lin13 (g13_r) := by
  constructor
  intro R S k t0 H f g h
  exact g13_p0_lin (fun t2 H =>
    h _ _)
theorem g13_fn {R : Type} (t0 : Option (Nat × Nat)) (H : Heap) (K : V → Heap → Option R) : evFn Try.prog E13 loopLim Try.f13 kp13 [(V.p t0)] H K = g13_r R t0 H (fun r0 H => K (V.i .u8 r0) H) := by
  have h0 : ∀ (t2 : Int) (H : Heap), kFn Try.prog Try.f13.results.toList K .ret [(2, (V.i .u8 t2))] H =
      K (V.i .u8 t2) H := by intros; kernel_rfl
  have e0 := evFn_code2 (P := Try.prog) (c := c13_0) (E := E13) (lr := loopLim) (kp := kp13) (fn := Try.f13) (args := [(V.p t0)]) H K (by kernel_rfl) (Nat.le_of_ble_eq_true (by kernel_rfl)) (by kernel_rfl)
  have e1 : ev Try.prog E13 loopLim Try.f13.ntmps kp13 c13_0 (argFr 0 [(V.p t0)]) H (kFn Try.prog Try.f13.results.toList K) = ev Try.prog E13 loopLim Try.f13.ntmps kp13 c13_0 [(0, (V.p t0))] H (kFn Try.prog Try.f13.results.toList K) := by kernel_rfl
  refine (e0.trans e1).trans ?_
  delta g13_r
  exact (g13_p0_eq t0 H (kFn Try.prog Try.f13.results.toList K)).trans (congrArg (g13_p0 R t0 H) (funext fun t2 => funext fun H => h0 t2 H))
theorem g13_ok : FunOK Try.prog 13 (w13 (g13_r)) := by
  refine (runF_ok (E13_good) mixed lim_ok Try.func13 (by kernel_rfl) kp13).of_le fun R args H K r hk => ?_
  unfold w13 at hk
  split at hk
  · exact (g13_fn _ H K).trans hk
  · cases hk
def kp30 : Nat → Option (List Nat) := kpOf [(0, [0]), (1, [0, 5]), (2, [0, 5, 6]), (3, [2, 3]), (4, [0, 5, 8]), (5, [0, 5, 8]), (6, [14]), (7, [2, 3]), (8, [2, 3]), (9, [15]), (10, [2, 3]), (11, [2, 3]), (100000, []), (200000, [0, 5]), (300000, [2, 3]), (400006, []), (400008, [0, 5, 8]), (400014, []), (400015, [])]
def E30 (a13 : T13) : FEnv := [(13, w13 a13)]
theorem E30_good {a13 : T13} (oa13 : FunOK Try.prog 13 (w13 a13)) (la13 : Lin13 a13) : EnvGood Try.prog (E30 a13) := ((EnvGood.nil _).cons oa13 (w13_lin la13))
theorem E30_lin {a13 : T13} (la13 : Lin13 a13) : EnvLin (E30 a13) := by
  intro g F h
  simp only [E30, List.mem_cons, List.not_mem_nil, or_false] at h
  rcases h with h
  · cases h; exact w13_lin la13
noncomputable def b30 : Code := Try.f30.body.getD .skip
noncomputable def c30_0 : Code := (.seq (codeAt [0] b30) (.seq (codeAt [1, 0, 0] b30) (.seq (.block 0 (.seq (codeAt [1, 0, 1, 0, 0] b30) (.cond (.tmp 6) (.seq (codeAt [1, 0, 1, 0, 1, 0, 0] b30) .ret) (.seq (codeAt [1, 0, 1, 0, 1, 1, 0, 0] b30) (.seq (.cond (.tmp 8) .skip (codeAt [1, 0, 1, 0, 1, 1, 0, 1, 1] b30)) (.cond (.tmp 8) (.seq (codeAt [1, 0, 1, 0, 1, 1, 1, 0, 0, 0] b30) (.seq (.cond (.tmp 14) (.seq (codeAt [1, 0, 1, 0, 1, 1, 1, 0, 0, 1, 0, 0] b30) .ret) .skip) (.seq (codeAt [1, 0, 1, 0, 1, 1, 1, 0, 1, 0] b30) .ret))) (.seq (codeAt [1, 0, 1, 0, 1, 1, 1, 1, 0] b30) (.cond (.tmp 15) (.seq (codeAt [1, 0, 1, 0, 1, 1, 1, 1, 1, 0, 0] b30) .ret) .skip)))))))) (.seq (codeAt [1, 1, 0] b30) .ret))))
noncomputable def g30_p0 (a13 : T13) (R : Type) (t0 : Option (Nat × Nat)) (H : Heap) (kR : Int → Bool → Heap → Option R) : Option R :=
  a13 R t0 H fun x1 h2 =>
  sel (x1 == (1 : Int)) (
    kR (0 : Int) true h2) (
    sel (x1 == (2 : Int)) (
      sel (x1 == (2 : Int)) (
        (t0).bind fun q3 =>
        ((h2).ldB q3.1 (q3.2 + 9)).bind fun x4 =>
        sel x4 (
          kR (2 : Int) true h2) (
          kR (1 : Int) true h2)) (
        sel (x1 == (5 : Int)) (
          kR (3 : Int) true h2) (
          kR (0 : Int) false h2))) (
      sel (x1 == (3 : Int)) (
        (t0).bind fun q5 =>
        ((h2).ldB q5.1 (q5.2 + 9)).bind fun x6 =>
        sel x6 (
          kR (2 : Int) true h2) (
          kR (1 : Int) true h2)) (
        sel (x1 == (5 : Int)) (
          kR (3 : Int) true h2) (
          kR (0 : Int) false h2))))
theorem g30_p0_eq (a13 : T13) (la13 : Lin13 a13) {R : Type} (t0 : Option (Nat × Nat)) (H : Heap) (K : Ex → Fr → Heap → Option R) : ev Try.prog (E30 a13) loopLim Try.f30.ntmps kp30 c30_0 [(0, (V.p t0))] H K = g30_p0 a13 R t0 H (fun t2 t3 H => K .ret [(2, (V.i .u8 t2)), (3, (V.b t3))] H) := by kernel_rfl
theorem g30_p0_lin {a13 : T13} (la13 : Lin13 a13) {R S : Type} {k : S → Option R} {t0 : Option (Nat × Nat)} {H : Heap} {fkR : Int → Bool → Heap → Option R} {gkR : Int → Bool → Heap → Option S} (hkR : ∀ t2 t3 H, fkR t2 t3 H = (gkR t2 t3 H).bind k) : g30_p0 a13 R t0 H fkR = (g30_p0 a13 S t0 H gkR).bind k := by
  delta g30_p0; exact (
    la13.l fun x1 h2 =>
    sl_lin (
      hkR _ _ _) (
      sl_lin (
        sl_lin (
          bl fun q3 =>
          bl fun x4 =>
          sl_lin (
            hkR _ _ _) (
            hkR _ _ _)) (
          sl_lin (
            hkR _ _ _) (
            hkR _ _ _))) (
        sl_lin (
          bl fun q5 =>
          bl fun x6 =>
          sl_lin (
            hkR _ _ _) (
            hkR _ _ _)) (
          sl_lin (
            hkR _ _ _) (
            hkR _ _ _)))))
noncomputable def g30_r (a13 : T13) : T30 := fun R t0 H K =>
  g30_p0 a13 R t0 H (fun t2 t3 H =>
    K t2 t3 H)
theorem g30_r_lin {a13 : T13} (la13 : Lin13 a13) : Lin30 (g30_r a13) := by
  constructor
  intro R S k t0 H f g h
  exact g30_p0_lin la13 (fun t2 t3 H =>
    h _ _ _)
theorem g30_fn (a13 : T13) (la13 : Lin13 a13) {R : Type} (t0 : Option (Nat × Nat)) (H : Heap) (K : V → Heap → Option R) : evFn Try.prog (E30 a13) loopLim Try.f30 kp30 [(V.p t0)] H K = g30_r a13 R t0 H (fun r0 r1 H => K (V.tup [(V.i .u8 r0), (V.b r1)]) H) := by
  have h0 : ∀ (t2 : Int) (t3 : Bool) (H : Heap), kFn Try.prog Try.f30.results.toList K .ret [(2, (V.i .u8 t2)), (3, (V.b t3))] H =
      K (V.tup [(V.i .u8 t2), (V.b t3)]) H := by intros; kernel_rfl
  have e0 := evFn_code2 (P := Try.prog) (c := c30_0) (E := (E30 a13)) (lr := loopLim) (kp := kp30) (fn := Try.f30) (args := [(V.p t0)]) H K (by kernel_rfl) (Nat.le_of_ble_eq_true (by kernel_rfl)) (by kernel_rfl)
  have e1 : ev Try.prog (E30 a13) loopLim Try.f30.ntmps kp30 c30_0 (argFr 0 [(V.p t0)]) H (kFn Try.prog Try.f30.results.toList K) = ev Try.prog (E30 a13) loopLim Try.f30.ntmps kp30 c30_0 [(0, (V.p t0))] H (kFn Try.prog Try.f30.results.toList K) := by kernel_rfl
  refine (e0.trans e1).trans ?_
  delta g30_r
  exact (g30_p0_eq a13 la13 t0 H (kFn Try.prog Try.f30.results.toList K)).trans (congrArg (g30_p0 a13 R t0 H) (funext fun t2 => funext fun t3 => funext fun H => h0 t2 t3 H))
theorem g30_ok {a13 : T13} (oa13 : FunOK Try.prog 13 (w13 a13)) (la13 : Lin13 a13) : FunOK Try.prog 30 (w30 (g30_r a13)) := by
  refine (runF_ok (E30_good oa13 la13) mixed lim_ok Try.func30 (by kernel_rfl) kp30).of_le fun R args H K r hk => ?_
  unfold w30 at hk
  split at hk
  · exact (g30_fn a13 la13 _ H K).trans hk
  · cases hk
def kp32 : Nat → Option (List Nat) := kpOf [(0, [0, 1, 4]), (1, [0]), (2, []), (3, [0, 1, 4, 18]), (4, [0, 1, 20]), (5, []), (100000, []), (200000, [0, 1, 4]), (300000, []), (400018, []), (400020, [])]
def E32 (a29 : T29) : FEnv := [(29, w29 a29)]
theorem E32_good {a29 : T29} (oa29 : FunOK Try.prog 29 (w29 a29)) (la29 : Lin29 a29) : EnvGood Try.prog (E32 a29) := ((EnvGood.nil _).cons oa29 (w29_lin la29))
theorem E32_lin {a29 : T29} (la29 : Lin29 a29) : EnvLin (E32 a29) := by
  intro g F h
  simp only [E32, List.mem_cons, List.not_mem_nil, or_false] at h
  rcases h with h
  · cases h; exact w29_lin la29
noncomputable def b32 : Code := Try.f32.body.getD .skip
noncomputable def c32_0 : Code := (.seq (codeAt [0] b32) (.block 0 (.seq (codeAt [1, 0, 0] b32) (.cond (.tmp 18) .skip (.seq (codeAt [1, 0, 1, 1, 0] b32) (.cond (.tmp 20) (codeAt [1, 0, 1, 1, 1, 0] b32) (.seq (codeAt [1, 0, 1, 1, 1, 1, 0] b32) (codeAt [1, 0, 1, 1, 1, 1, 1] b32))))))))
noncomputable def g32_p0 (a29 : T29) (R : Type) (t0 : Option (Nat × Nat)) (t1 : Int) (H : Heap) (kN : Heap → Option R) : Option R :=
  sel (t1 == (0 : Int)) (
    kN H) (
    sel (t1 == (3 : Int)) (
      a29 R t0 (5 : Int) H fun h1 =>
      kN h1) (
      (t0).bind fun q2 =>
      ((H).ldB q2.1 (q2.2 + 10)).bind fun x3 =>
      sel x3 (
        (t0).bind fun q4 =>
        ((H).st q4.1 (q4.2 + 10) (V.b true)).bind fun h6 =>
        a29 R t0 (3 : Int) h6 fun h7 =>
        kN h7) (
        (t0).bind fun q8 =>
        ((H).st q8.1 (q8.2 + 10) (V.b (t1 == (2 : Int)))).bind fun h10 =>
        a29 R t0 (3 : Int) h10 fun h11 =>
        kN h11)))
theorem g32_p0_eq (a29 : T29) (la29 : Lin29 a29) {R : Type} (t0 : Option (Nat × Nat)) (t1 : Int) (H : Heap) (K : Ex → Fr → Heap → Option R) : ev Try.prog (E32 a29) loopLim Try.f32.ntmps kp32 c32_0 [(0, (V.p t0)), (1, (V.i .u8 t1))] H K = g32_p0 a29 R t0 t1 H (fun H => K .normal [] H) := by kernel_rfl
theorem g32_p0_lin {a29 : T29} (la29 : Lin29 a29) {R S : Type} {k : S → Option R} {t0 : Option (Nat × Nat)} {t1 : Int} {H : Heap} {fkN : Heap → Option R} {gkN : Heap → Option S} (hkN : ∀ H, fkN H = (gkN H).bind k) : g32_p0 a29 R t0 t1 H fkN = (g32_p0 a29 S t0 t1 H gkN).bind k := by
  delta g32_p0; exact (
    sl_lin (
      hkN _) (
      sl_lin (
        la29.l fun h1 =>
        hkN _) (
        bl fun q2 =>
        bl fun x3 =>
        sl_lin (
          bl fun q4 =>
          bl fun h6 =>
          la29.l fun h7 =>
          hkN _) (
          bl fun q8 =>
          bl fun h10 =>
          la29.l fun h11 =>
          hkN _))))
noncomputable def g32_r (a29 : T29) : T32 := fun R t0 t1 H K =>
  g32_p0 a29 R t0 t1 H (fun H =>
    K  H)
theorem g32_r_lin {a29 : T29} (la29 : Lin29 a29) : Lin32 (g32_r a29) := by
  constructor
  intro R S k t0 t1 H f g h
  exact g32_p0_lin la29 (fun H =>
    h _)
theorem g32_fn (a29 : T29) (la29 : Lin29 a29) {R : Type} (t0 : Option (Nat × Nat)) (t1 : Int) (H : Heap) (K : V → Heap → Option R) : evFn Try.prog (E32 a29) loopLim Try.f32 kp32 [(V.p t0), (V.i .u8 t1)] H K = g32_r a29 R t0 t1 H (fun H => K (V.tup []) H) := by
  have h0 : ∀ (H : Heap), kFn Try.prog Try.f32.results.toList K .normal [] H =
      K (V.tup []) H := by intros; kernel_rfl
  have e0 := evFn_code2 (P := Try.prog) (c := c32_0) (E := (E32 a29)) (lr := loopLim) (kp := kp32) (fn := Try.f32) (args := [(V.p t0), (V.i .u8 t1)]) H K (by kernel_rfl) (Nat.le_of_ble_eq_true (by kernel_rfl)) (by kernel_rfl)
  have e1 : ev Try.prog (E32 a29) loopLim Try.f32.ntmps kp32 c32_0 (argFr 0 [(V.p t0), (V.i .u8 t1)]) H (kFn Try.prog Try.f32.results.toList K) = ev Try.prog (E32 a29) loopLim Try.f32.ntmps kp32 c32_0 [(0, (V.p t0)), (1, (V.i .u8 t1))] H (kFn Try.prog Try.f32.results.toList K) := by kernel_rfl
  refine (e0.trans e1).trans ?_
  delta g32_r
  exact (g32_p0_eq a29 la29 t0 t1 H (kFn Try.prog Try.f32.results.toList K)).trans (congrArg (g32_p0 a29 R t0 t1 H) (funext fun H => h0 H))
theorem g32_ok {a29 : T29} (oa29 : FunOK Try.prog 29 (w29 a29)) (la29 : Lin29 a29) : FunOK Try.prog 32 (w32 (g32_r a29)) := by
  refine (runF_ok (E32_good oa29 la29) mixed lim_ok Try.func32 (by kernel_rfl) kp32).of_le fun R args H K r hk => ?_
  unfold w32 at hk
  split at hk
  · exact (g32_fn a29 la29 _ _ H K).trans hk
  · cases hk
def kp33 : Nat → Option (List Nat) := kpOf [(0, [0, 1, 4]), (1, []), (2, [0, 1, 9]), (3, []), (4, [0, 14]), (5, [0]), (6, []), (100000, []), (200000, [0, 1]), (300000, []), (400004, []), (400009, []), (400014, [])]
def E33 (a29 : T29) : FEnv := [(29, w29 a29)]
theorem E33_good {a29 : T29} (oa29 : FunOK Try.prog 29 (w29 a29)) (la29 : Lin29 a29) : EnvGood Try.prog (E33 a29) := ((EnvGood.nil _).cons oa29 (w29_lin la29))
theorem E33_lin {a29 : T29} (la29 : Lin29 a29) : EnvLin (E33 a29) := by
  intro g F h
  simp only [E33, List.mem_cons, List.not_mem_nil, or_false] at h
  rcases h with h
  · cases h; exact w29_lin la29
noncomputable def b33 : Code := Try.f33.body.getD .skip
noncomputable def c33_0 : Code := (.block 0 (.seq (codeAt [0, 0] b33) (.cond (.tmp 4) (codeAt [0, 1, 0] b33) (.seq (codeAt [0, 1, 1, 0] b33) (.cond (.tmp 9) (codeAt [0, 1, 1, 1, 0] b33) (.seq (codeAt [0, 1, 1, 1, 1, 0] b33) (.cond (.tmp 14) (.seq (codeAt [0, 1, 1, 1, 1, 1, 0, 0] b33) (codeAt [0, 1, 1, 1, 1, 1, 0, 1] b33)) .skip)))))))
noncomputable def g33_p0 (a29 : T29) (R : Type) (t0 : Option (Nat × Nat)) (t1 : Int) (H : Heap) (kN : Heap → Option R) : Option R :=
  sel (t1 == (0 : Int)) (
    a29 R t0 (2 : Int) H fun h1 =>
    kN h1) (
    sel (t1 == (3 : Int)) (
      a29 R t0 (5 : Int) H fun h2 =>
      kN h2) (
      sel (t1 == (2 : Int)) (
        (t0).bind fun q3 =>
        ((H).ldB q3.1 (q3.2 + 10)).bind fun x4 =>
        sel (!x4) (
          (t0).bind fun q5 =>
          ((H).st q5.1 (q5.2 + 10) (V.b true)).bind fun h7 =>
          a29 R t0 (3 : Int) h7 fun h8 =>
          kN h8) (
          kN H)) (
        kN H)))
theorem g33_p0_eq (a29 : T29) (la29 : Lin29 a29) {R : Type} (t0 : Option (Nat × Nat)) (t1 : Int) (H : Heap) (K : Ex → Fr → Heap → Option R) : ev Try.prog (E33 a29) loopLim Try.f33.ntmps kp33 c33_0 [(0, (V.p t0)), (1, (V.i .u8 t1))] H K = g33_p0 a29 R t0 t1 H (fun H => K .normal [] H) := by kernel_rfl
theorem g33_p0_lin {a29 : T29} (la29 : Lin29 a29) {R S : Type} {k : S → Option R} {t0 : Option (Nat × Nat)} {t1 : Int} {H : Heap} {fkN : Heap → Option R} {gkN : Heap → Option S} (hkN : ∀ H, fkN H = (gkN H).bind k) : g33_p0 a29 R t0 t1 H fkN = (g33_p0 a29 S t0 t1 H gkN).bind k := by
  delta g33_p0; exact (
    sl_lin (
      la29.l fun h1 =>
      hkN _) (
      sl_lin (
        la29.l fun h2 =>
        hkN _) (
        sl_lin (
          bl fun q3 =>
          bl fun x4 =>
          sl_lin (
            bl fun q5 =>
            bl fun h7 =>
            la29.l fun h8 =>
            hkN _) (
            hkN _)) (
          hkN _))))
noncomputable def g33_r (a29 : T29) : T33 := fun R t0 t1 H K =>
  g33_p0 a29 R t0 t1 H (fun H =>
    K  H)
theorem g33_r_lin {a29 : T29} (la29 : Lin29 a29) : Lin33 (g33_r a29) := by
  constructor
  intro R S k t0 t1 H f g h
  exact g33_p0_lin la29 (fun H =>
    h _)
theorem g33_fn (a29 : T29) (la29 : Lin29 a29) {R : Type} (t0 : Option (Nat × Nat)) (t1 : Int) (H : Heap) (K : V → Heap → Option R) : evFn Try.prog (E33 a29) loopLim Try.f33 kp33 [(V.p t0), (V.i .u8 t1)] H K = g33_r a29 R t0 t1 H (fun H => K (V.tup []) H) := by
  have h0 : ∀ (H : Heap), kFn Try.prog Try.f33.results.toList K .normal [] H =
      K (V.tup []) H := by intros; kernel_rfl
  have e0 := evFn_code2 (P := Try.prog) (c := c33_0) (E := (E33 a29)) (lr := loopLim) (kp := kp33) (fn := Try.f33) (args := [(V.p t0), (V.i .u8 t1)]) H K (by kernel_rfl) (Nat.le_of_ble_eq_true (by kernel_rfl)) (by kernel_rfl)
  have e1 : ev Try.prog (E33 a29) loopLim Try.f33.ntmps kp33 c33_0 (argFr 0 [(V.p t0), (V.i .u8 t1)]) H (kFn Try.prog Try.f33.results.toList K) = ev Try.prog (E33 a29) loopLim Try.f33.ntmps kp33 c33_0 [(0, (V.p t0)), (1, (V.i .u8 t1))] H (kFn Try.prog Try.f33.results.toList K) := by kernel_rfl
  refine (e0.trans e1).trans ?_
  delta g33_r
  exact (g33_p0_eq a29 la29 t0 t1 H (kFn Try.prog Try.f33.results.toList K)).trans (congrArg (g33_p0 a29 R t0 t1 H) (funext fun H => h0 H))
theorem g33_ok {a29 : T29} (oa29 : FunOK Try.prog 29 (w29 a29)) (la29 : Lin29 a29) : FunOK Try.prog 33 (w33 (g33_r a29)) := by
  refine (runF_ok (E33_good oa29 la29) mixed lim_ok Try.func33 (by kernel_rfl) kp33).of_le fun R args H K r hk => ?_
  unfold w33 at hk
  split at hk
  · exact (g33_fn a29 la29 _ _ H K).trans hk
  · cases hk
end Go.Proofs.Ytkldpkemnmmbgaa

