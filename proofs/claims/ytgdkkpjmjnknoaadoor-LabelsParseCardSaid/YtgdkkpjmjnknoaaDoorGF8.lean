/- Printed: functions as the machine runs them. -/
import Derived.Test.YtgdkkpjmjnknoaaDoorGT
namespace Go.Proofs.YtgdkkpjmjnknoaaDoor
open Go AM Go.RowKit
set_option linter.unusedVariables false
def kp35 : Nat → Option (List Nat) := kpOf [(0, [0]), (1, [0, 3]), (2, [3, 6, 7, 8]), (3, [3, 6, 7, 8, 9]), (4, [3, 5, 6, 7, 8]), (5, [3, 5, 6, 7, 8, 14]), (6, [2]), (7, [3, 6, 7, 8]), (8, [2]), (100000, [3]), (100001, [3, 6, 7, 8]), (200000, [3, 6, 7, 8]), (200001, [3, 6, 7, 8]), (300000, [2]), (400009, [3, 6, 7, 8]), (400014, [3, 6, 7, 8])]
def E35 : FEnv := []
theorem E35_good : EnvGood Tryd.prog E35 := (EnvGood.nil _)
theorem E35_lin : EnvLin E35 := fun g F h => by cases h
noncomputable def b35 : Code := Tryd.f35.body.getD .skip
noncomputable def c35_0 : Code := (.seq (codeAt [1, 1, 0, 1, 0, 0, 0] b35) (.seq (.cond (.tmp 9) .skip (.exit 0)) (.seq (.block 1 (.seq (codeAt [1, 1, 0, 1, 0, 0, 1, 1, 0, 0, 0] b35) (.seq (codeAt [1, 1, 0, 1, 0, 0, 1, 1, 0, 0, 1, 0] b35) (.cond (.tmp 14) (.seq (codeAt [1, 1, 0, 1, 0, 0, 1, 1, 0, 0, 1, 1, 0, 0] b35) .ret) .skip)))) (codeAt [1, 1, 0, 1, 0, 0, 1, 1, 1] b35))))
noncomputable def c35_1 : Code := (.loop c35_0)
noncomputable def c35_2 : Code := (.block 0 c35_1)
noncomputable def c35_3 : Code := (.seq (codeAt [1, 1, 1, 0] b35) .ret)
noncomputable def c35_4 : Code := (.seq c35_2 c35_3)
noncomputable def c35_5 : Code := (.seq (codeAt [0] b35) (.seq (codeAt [1, 0] b35) (.seq (codeAt [1, 1, 0, 0] b35) c35_4)))
noncomputable def g35_p0 (R : Type) (t0 : Sl) (H : Heap) (kN : Int → Sl → Int → Int → Heap → Option R) : Option R :=
  kN (0 : Int) t0 ((t0.len : Nat) : Int) (0 : Int) H
theorem g35_p0_eq {R : Type} (c2 : Code) (t0 : Sl) (H : Heap) (K : Ex → Fr → Heap → Option R) : ev Tryd.prog E35 loopLim Tryd.f35.ntmps kp35 (.seq (codeAt [0] b35) (.seq (codeAt [1, 0] b35) (.seq (codeAt [1, 1, 0, 0] b35) c2))) [(0, (V.sl t0))] H K = g35_p0 R t0 H (fun t3 t6 t7 t8 H => ev Tryd.prog E35 loopLim Tryd.f35.ntmps kp35 c2 [(3, (V.i .i64 t3)), (6, (V.sl t6)), (7, (V.i .i64 t7)), (8, (V.i .i64 t8))] H K) := by kernel_rfl
theorem g35_p0_lin {R S : Type} {k : S → Option R} {t0 : Sl} {H : Heap} {fkN : Int → Sl → Int → Int → Heap → Option R} {gkN : Int → Sl → Int → Int → Heap → Option S} (hkN : ∀ t3 t6 t7 t8 H, fkN t3 t6 t7 t8 H = (gkN t3 t6 t7 t8 H).bind k) : g35_p0 R t0 H fkN = (g35_p0 S t0 H gkN).bind k := by
  delta g35_p0; exact (
    hkN _ _ _ _ _)
noncomputable def g35_p1 (R : Type) (t3 : Int) (t6 : Sl) (t7 : Int) (t8 : Int) (H : Heap) (kN : Int → Sl → Int → Int → Heap → Option R) (kE0 : Int → Heap → Option R) (kR : Int → Heap → Option R) : Option R :=
  sel (decide (t8 < t7)) (
    if 0 ≤ t8 ∧ t8 < ((t6.len : Nat) : Int) then (
      (t6.a).bind fun q1 =>
      ((H).ldI .i64 q1.1 (q1.2 + Int.toNat t8 * 1)).bind fun x2 =>
      sel (x2 != t3) (
        kR x2 H) (
        kN t3 t6 t7 (IntKind.wrap .i64 (t8 + (1 : Int))) H))
    else (
      none)) (
    kE0 t3 H)
theorem g35_p1_eq {R : Type} (t3 : Int) (t6 : Sl) (t7 : Int) (t8 : Int) (H : Heap) (K : Ex → Fr → Heap → Option R) : ev Tryd.prog E35 loopLim Tryd.f35.ntmps kp35 c35_0 [(3, (V.i .i64 t3)), (6, (V.sl t6)), (7, (V.i .i64 t7)), (8, (V.i .i64 t8))] H K = g35_p1 R t3 t6 t7 t8 H (fun t3 t6 t7 t8 H => K .normal [(3, (V.i .i64 t3)), (6, (V.sl t6)), (7, (V.i .i64 t7)), (8, (V.i .i64 t8))] H) (fun t3 H => K (.exit 0) [(3, (V.i .i64 t3))] H) (fun t2 H => K .ret [(2, (V.i .i64 t2))] H) := by kernel_rfl
theorem g35_p1_lin {R S : Type} {k : S → Option R} {t3 : Int} {t6 : Sl} {t7 : Int} {t8 : Int} {H : Heap} {fkN : Int → Sl → Int → Int → Heap → Option R} {gkN : Int → Sl → Int → Int → Heap → Option S} {fkE0 : Int → Heap → Option R} {gkE0 : Int → Heap → Option S} {fkR : Int → Heap → Option R} {gkR : Int → Heap → Option S} (hkN : ∀ t3 t6 t7 t8 H, fkN t3 t6 t7 t8 H = (gkN t3 t6 t7 t8 H).bind k) (hkE0 : ∀ t3 H, fkE0 t3 H = (gkE0 t3 H).bind k) (hkR : ∀ t2 H, fkR t2 H = (gkR t2 H).bind k) : g35_p1 R t3 t6 t7 t8 H fkN fkE0 fkR = (g35_p1 S t3 t6 t7 t8 H gkN gkE0 gkR).bind k := by
  delta g35_p1; exact (
    sl_lin (
      il (
        bl fun q1 =>
        bl fun x2 =>
        sl_lin (
          hkR _ _) (
          hkN _ _ _ _ _)) (
        rfl)) (
      hkE0 _ _))
abbrev g35_p2_S := Int × Sl × Int × Int
abbrev g35_p2_O := Sum (Int) (Int)
def g35_p2_es (s : g35_p2_S) : Fr := [(3, (V.i .i64 s.1)), (6, (V.sl s.2.1)), (7, (V.i .i64 s.2.2.1)), (8, (V.i .i64 s.2.2.2))]
def g35_p2_er : g35_p2_O → Ex × Fr
  | (.inl r) => ((.exit 0), [(3, (V.i .i64 r))])
  | (.inr r) => (.ret, [(2, (V.i .i64 r))])
noncomputable def g35_p2_b (s : g35_p2_S) (H : Heap) : Option (Rd g35_p2_S g35_p2_O × Heap) :=
  g35_p1 _ s.1 s.2.1 s.2.2.1 s.2.2.2 H (fun t3 t6 t7 t8 H => some (.go (t3, t6, t7, t8), H)) (fun t3 H => some (.up (.inl t3), H)) (fun t2 H => some (.up (.inr t2), H))
noncomputable def g35_p2 (R : Type) (t3 : Int) (t6 : Sl) (t7 : Int) (t8 : Int) (H : Heap) (kE0 : Int → Heap → Option R) (kR : Int → Heap → Option R) : Option R :=
  (tlim (g35_p2_b) (t3, t6, t7, t8) H).bind fun p => cas p.1 (fun r => kE0 r p.2) (fun r0 => kR r0 p.2)
theorem g35_p2_lin {R S : Type} {k : S → Option R} {t3 : Int} {t6 : Sl} {t7 : Int} {t8 : Int} {H : Heap} {fkE0 : Int → Heap → Option R} {gkE0 : Int → Heap → Option S} {fkR : Int → Heap → Option R} {gkR : Int → Heap → Option S} (hkE0 : ∀ t3 H, fkE0 t3 H = (gkE0 t3 H).bind k) (hkR : ∀ t2 H, fkR t2 H = (gkR t2 H).bind k) : g35_p2 R t3 t6 t7 t8 H fkE0 fkR = (g35_p2 S t3 t6 t7 t8 H gkE0 gkR).bind k := by
  exact bl fun p => cas_lin (fun _ => hkE0 _ _) (fun _ => hkR _ _)
theorem g35_p2_eq {R : Type} (t3 : Int) (t6 : Sl) (t7 : Int) (t8 : Int) (H : Heap) (K : Ex → Fr → Heap → Option R) : ev Tryd.prog E35 loopLim Tryd.f35.ntmps kp35 c35_1 [(3, (V.i .i64 t3)), (6, (V.sl t6)), (7, (V.i .i64 t7)), (8, (V.i .i64 t8))] H K = g35_p2 R t3 t6 t7 t8 H (fun t3 H => K (.exit 0) [(3, (V.i .i64 t3))] H) (fun t2 H => K .ret [(2, (V.i .i64 t2))] H) := by
  show ev Tryd.prog E35 loopLim Tryd.f35.ntmps kp35 (.loop c35_0) [(3, (V.i .i64 t3)), (6, (V.sl t6)), (7, (V.i .i64 t7)), (8, (V.i .i64 t8))] H K = _
  delta g35_p2
  refine (ev_tlim (b := g35_p2_b) (es := g35_p2_es) (er := g35_p2_er) (by rintro (r | r) <;> exact nofun) (fun s H => ?_) (t3, t6, t7, t8) H K).trans (bc fun p => by rcases p with ⟨(r | r), H⟩ <;> rfl)
  exact (g35_p1_eq s.1 s.2.1 s.2.2.1 s.2.2.2 H ret3).trans (g35_p1_lin (fun _ _ _ _ _ => rfl) (fun _ _ => rfl) (fun _ _ => rfl))
noncomputable def g35_p3 (R : Type) (t3 : Int) (t6 : Sl) (t7 : Int) (t8 : Int) (H : Heap) (kN : Int → Heap → Option R) (kR : Int → Heap → Option R) : Option R :=
  g35_p2 R t3 t6 t7 t8 H (fun t3 H => kN t3 H) (fun t2 H => kR t2 H)
theorem g35_p3_lin {R S : Type} {k : S → Option R} {t3 : Int} {t6 : Sl} {t7 : Int} {t8 : Int} {H : Heap} {fkN : Int → Heap → Option R} {gkN : Int → Heap → Option S} {fkR : Int → Heap → Option R} {gkR : Int → Heap → Option S} (hkN : ∀ t3 H, fkN t3 H = (gkN t3 H).bind k) (hkR : ∀ t2 H, fkR t2 H = (gkR t2 H).bind k) : g35_p3 R t3 t6 t7 t8 H fkN fkR = (g35_p3 S t3 t6 t7 t8 H gkN gkR).bind k := by
  exact g35_p2_lin (fun _ _ => hkN _ _) (fun _ _ => hkR _ _)
theorem g35_p3_eq {R : Type} (t3 : Int) (t6 : Sl) (t7 : Int) (t8 : Int) (H : Heap) (K : Ex → Fr → Heap → Option R) : ev Tryd.prog E35 loopLim Tryd.f35.ntmps kp35 c35_2 [(3, (V.i .i64 t3)), (6, (V.sl t6)), (7, (V.i .i64 t7)), (8, (V.i .i64 t8))] H K = g35_p3 R t3 t6 t7 t8 H (fun t3 H => K .normal [(3, (V.i .i64 t3))] H) (fun t2 H => K .ret [(2, (V.i .i64 t2))] H) := by
  show ev Tryd.prog E35 loopLim Tryd.f35.ntmps kp35 (.block 0 c35_1) [(3, (V.i .i64 t3)), (6, (V.sl t6)), (7, (V.i .i64 t7)), (8, (V.i .i64 t8))] H K = _
  rw [ev_block]
  delta g35_p3
  exact (g35_p2_eq t3 t6 t7 t8 H (kBlock kp35 0 K))
noncomputable def g35_p4 (R : Type) (t3 : Int) (H : Heap) (kR : Int → Heap → Option R) : Option R :=
  kR t3 H
theorem g35_p4_eq {R : Type} (t3 : Int) (H : Heap) (K : Ex → Fr → Heap → Option R) : ev Tryd.prog E35 loopLim Tryd.f35.ntmps kp35 c35_3 [(3, (V.i .i64 t3))] H K = g35_p4 R t3 H (fun t2 H => K .ret [(2, (V.i .i64 t2))] H) := by kernel_rfl
theorem g35_p4_lin {R S : Type} {k : S → Option R} {t3 : Int} {H : Heap} {fkR : Int → Heap → Option R} {gkR : Int → Heap → Option S} (hkR : ∀ t2 H, fkR t2 H = (gkR t2 H).bind k) : g35_p4 R t3 H fkR = (g35_p4 S t3 H gkR).bind k := by
  delta g35_p4; exact (
    hkR _ _)
noncomputable def g35_p5 (R : Type) (t3 : Int) (t6 : Sl) (t7 : Int) (t8 : Int) (H : Heap) (kR : Int → Heap → Option R) : Option R :=
  g35_p3 R t3 t6 t7 t8 H (fun t3 H => g35_p4 R t3 H (fun t2 H => kR t2 H)) (fun t2 H => kR t2 H)
theorem g35_p5_lin {R S : Type} {k : S → Option R} {t3 : Int} {t6 : Sl} {t7 : Int} {t8 : Int} {H : Heap} {fkR : Int → Heap → Option R} {gkR : Int → Heap → Option S} (hkR : ∀ t2 H, fkR t2 H = (gkR t2 H).bind k) : g35_p5 R t3 t6 t7 t8 H fkR = (g35_p5 S t3 t6 t7 t8 H gkR).bind k := by
  exact g35_p3_lin (fun _ _ => g35_p4_lin (fun _ _ => hkR _ _)) (fun _ _ => hkR _ _)
theorem g35_p5_eq {R : Type} (t3 : Int) (t6 : Sl) (t7 : Int) (t8 : Int) (H : Heap) (K : Ex → Fr → Heap → Option R) : ev Tryd.prog E35 loopLim Tryd.f35.ntmps kp35 c35_4 [(3, (V.i .i64 t3)), (6, (V.sl t6)), (7, (V.i .i64 t7)), (8, (V.i .i64 t8))] H K = g35_p5 R t3 t6 t7 t8 H (fun t2 H => K .ret [(2, (V.i .i64 t2))] H) := by
  show ev Tryd.prog E35 loopLim Tryd.f35.ntmps kp35 (.seq c35_2 c35_3) [(3, (V.i .i64 t3)), (6, (V.sl t6)), (7, (V.i .i64 t7)), (8, (V.i .i64 t8))] H K = _
  rw [ev_seq]
  delta g35_p5
  exact (g35_p3_eq t3 t6 t7 t8 H (kSeq (fun fr H => ev Tryd.prog E35 loopLim Tryd.f35.ntmps kp35 c35_3 fr H K) K)).trans (congr (congrArg (g35_p3 R t3 t6 t7 t8 H) (funext fun t3 => funext fun H => (kSeq_n _ _ _ _).trans (g35_p4_eq t3 H K))) rfl)
noncomputable def g35_p6 (R : Type) (t0 : Sl) (H : Heap) (kR : Int → Heap → Option R) : Option R :=
  g35_p0 R t0 H (fun t3 t6 t7 t8 H => g35_p5 R t3 t6 t7 t8 H (fun t2 H => kR t2 H))
theorem g35_p6_lin {R S : Type} {k : S → Option R} {t0 : Sl} {H : Heap} {fkR : Int → Heap → Option R} {gkR : Int → Heap → Option S} (hkR : ∀ t2 H, fkR t2 H = (gkR t2 H).bind k) : g35_p6 R t0 H fkR = (g35_p6 S t0 H gkR).bind k := by
  exact g35_p0_lin (fun _ _ _ _ _ => g35_p5_lin (fun _ _ => hkR _ _))
theorem g35_p6_eq {R : Type} (t0 : Sl) (H : Heap) (K : Ex → Fr → Heap → Option R) : ev Tryd.prog E35 loopLim Tryd.f35.ntmps kp35 c35_5 [(0, (V.sl t0))] H K = g35_p6 R t0 H (fun t2 H => K .ret [(2, (V.i .i64 t2))] H) := by
  show ev Tryd.prog E35 loopLim Tryd.f35.ntmps kp35 (.seq (codeAt [0] b35) (.seq (codeAt [1, 0] b35) (.seq (codeAt [1, 1, 0, 0] b35) c35_4))) [(0, (V.sl t0))] H K = _
  delta g35_p6
  exact (g35_p0_eq _ t0 H K).trans (congrArg (g35_p0 R t0 H) (funext fun t3 => funext fun t6 => funext fun t7 => funext fun t8 => funext fun H => g35_p5_eq t3 t6 t7 t8 H K))
noncomputable def g35_r : T35 := fun R t0 H K =>
  g35_p6 R t0 H (fun t2 H =>
    K t2 H)
theorem g35_r_lin : Lin35 (g35_r) := by
  constructor
  intro R S k t0 H f g h
  exact g35_p6_lin (fun t2 H =>
    h _ _)
theorem g35_fn {R : Type} (t0 : Sl) (H : Heap) (K : V → Heap → Option R) : evFn Tryd.prog E35 loopLim Tryd.f35 kp35 [(V.sl t0)] H K = g35_r R t0 H (fun r0 H => K (V.i .i64 r0) H) := by
  have h0 : ∀ (t2 : Int) (H : Heap), kFn Tryd.prog Tryd.f35.results.toList K .ret [(2, (V.i .i64 t2))] H =
      K (V.i .i64 t2) H := by intros; kernel_rfl
  have e0 := evFn_code2 (P := Tryd.prog) (c := c35_5) (E := E35) (lr := loopLim) (kp := kp35) (fn := Tryd.f35) (args := [(V.sl t0)]) H K (by kernel_rfl) (Nat.le_of_ble_eq_true (by kernel_rfl)) (by kernel_rfl)
  have e1 : ev Tryd.prog E35 loopLim Tryd.f35.ntmps kp35 c35_5 (argFr 0 [(V.sl t0)]) H (kFn Tryd.prog Tryd.f35.results.toList K) = ev Tryd.prog E35 loopLim Tryd.f35.ntmps kp35 c35_5 [(0, (V.sl t0))] H (kFn Tryd.prog Tryd.f35.results.toList K) := by kernel_rfl
  refine (e0.trans e1).trans ?_
  delta g35_r
  exact (g35_p6_eq t0 H (kFn Tryd.prog Tryd.f35.results.toList K)).trans (congrArg (g35_p6 R t0 H) (funext fun t2 => funext fun H => h0 t2 H))
theorem g35_ok : FunOK Tryd.prog 35 (w35 (g35_r)) := by
  refine (runF_ok (E35_good) mixed lim_ok Tryd.func35 (by kernel_rfl) kp35).of_le fun R args H K r hk => ?_
  unfold w35 at hk
  split at hk
  · exact (g35_fn _ H K).trans hk
  · cases hk
def kp28 : Nat → Option (List Nat) := kpOf [(0, [2, 3]), (1, [4]), (300000, [4])]
def E28 (a36 : T36) (a37 : T37) (a35 : T35) : FEnv := [(36, w36 a36), (37, w37 a37), (35, w35 a35)]
theorem E28_good {a36 : T36} {a37 : T37} {a35 : T35} (oa36 : FunOK Tryd.prog 36 (w36 a36)) (oa37 : FunOK Tryd.prog 37 (w37 a37)) (oa35 : FunOK Tryd.prog 35 (w35 a35)) (la36 : Lin36 a36) (la37 : Lin37 a37) (la35 : Lin35 a35) : EnvGood Tryd.prog (E28 a36 a37 a35) := ((((EnvGood.nil _).cons oa35 (w35_lin la35)).cons oa37 (w37_lin la37)).cons oa36 (w36_lin la36))
theorem E28_lin {a36 : T36} {a37 : T37} {a35 : T35} (la36 : Lin36 a36) (la37 : Lin37 a37) (la35 : Lin35 a35) : EnvLin (E28 a36 a37 a35) := by
  intro g F h
  simp only [E28, List.mem_cons, List.not_mem_nil, or_false] at h
  rcases h with h | h | h
  · cases h; exact w36_lin la36
  · cases h; exact w37_lin la37
  · cases h; exact w35_lin la35
noncomputable def b28 : Code := Tryd.f28.body.getD .skip
noncomputable def c28_0 : Code := (.seq (codeAt [0] b28) (.seq (codeAt [1, 0] b28) .ret))
noncomputable def g28_p0 (a36 : T36) (a37 : T37) (a35 : T35) (R : Type) (t0_0 : Int) (t0_1 : Int) (t0_2 : Int) (t1_0 : Int) (t1_1 : Int) (t1_2 : Int) (H : Heap) (kR : Int → Heap → Option R) : Option R :=
  alo H (.cells [(V.i .u16 t0_0), (V.i .u16 t0_1), (V.i .u8 t0_2)] 46 false) fun i1 h2 =>
  alo h2 (.cells [(V.i .u16 t1_0), (V.i .u16 t1_1), (V.i .u8 t1_2)] 46 false) fun i3 h4 =>
  ((h4).ldI .u16 i1 (0 + 0)).bind fun x5 =>
  ((h4).ldI .u16 i3 (0 + 0)).bind fun x6 =>
  a36 R x5 x6 h4 fun x7 h8 =>
  ((h8).ldI .u16 i1 (0 + 1)).bind fun x9 =>
  ((h4).ldI .u16 i1 (0 + 1)).bind fun x10 =>
  if V.same (V.i .u16 x9) (V.i .u16 x10) = true then (
    ((h8).ldI .u16 i3 (0 + 1)).bind fun x11 =>
    ((h4).ldI .u16 i3 (0 + 1)).bind fun x12 =>
    if V.same (V.i .u16 x11) (V.i .u16 x12) = true then (
      a36 R x9 x11 h8 fun x13 h14 =>
      ((h14).ldI .u8 i1 (0 + 2)).bind fun x15 =>
      ((h4).ldI .u8 i1 (0 + 2)).bind fun x16 =>
      if V.same (V.i .u8 x15) (V.i .u8 x16) = true then (
        ((h8).ldI .u8 i1 (0 + 2)).bind fun x17 =>
        if V.same (V.i .u8 x15) (V.i .u8 x17) = true then (
          ((h14).ldI .u8 i3 (0 + 2)).bind fun x18 =>
          ((h4).ldI .u8 i3 (0 + 2)).bind fun x19 =>
          if V.same (V.i .u8 x18) (V.i .u8 x19) = true then (
            ((h8).ldI .u8 i3 (0 + 2)).bind fun x20 =>
            if V.same (V.i .u8 x18) (V.i .u8 x20) = true then (
              a37 R x15 x18 h14 fun x21 h22 =>
              alo h22 (.cells [(V.i .i64 x7), (V.i .i64 x13), (V.i .i64 x21)] 3 false) fun i23 h24 =>
              a35 R (Sl.mk (some (i23, 0)) 3 (.ex 3)) h24 fun x25 h26 =>
              kR x25 h26)
            else (
              none))
          else (
            none))
        else (
          none))
      else (
        none))
    else (
      none))
  else (
    none)
theorem g28_p0_eq (a36 : T36) (a37 : T37) (a35 : T35) (la36 : Lin36 a36) (la37 : Lin37 a37) (la35 : Lin35 a35) {R : Type} (t0_0 : Int) (t0_1 : Int) (t0_2 : Int) (t1_0 : Int) (t1_1 : Int) (t1_2 : Int) (H : Heap) (K : Ex → Fr → Heap → Option R) : ev Tryd.prog (E28 a36 a37 a35) loopLim Tryd.f28.ntmps kp28 c28_0 [(0, (V.agg [(V.i .u16 t0_0), (V.i .u16 t0_1), (V.i .u8 t0_2)])), (1, (V.agg [(V.i .u16 t1_0), (V.i .u16 t1_1), (V.i .u8 t1_2)]))] H K = g28_p0 a36 a37 a35 R t0_0 t0_1 t0_2 t1_0 t1_1 t1_2 H (fun t4 H => K .ret [(4, (V.i .i64 t4))] H) := by kernel_rfl
theorem g28_p0_lin {a36 : T36} {a37 : T37} {a35 : T35} (la36 : Lin36 a36) (la37 : Lin37 a37) (la35 : Lin35 a35) {R S : Type} {k : S → Option R} {t0_0 : Int} {t0_1 : Int} {t0_2 : Int} {t1_0 : Int} {t1_1 : Int} {t1_2 : Int} {H : Heap} {fkR : Int → Heap → Option R} {gkR : Int → Heap → Option S} (hkR : ∀ t4 H, fkR t4 H = (gkR t4 H).bind k) : g28_p0 a36 a37 a35 R t0_0 t0_1 t0_2 t1_0 t1_1 t1_2 H fkR = (g28_p0 a36 a37 a35 S t0_0 t0_1 t0_2 t1_0 t1_1 t1_2 H gkR).bind k := by
  delta g28_p0; exact (
    alo_lin fun i1 h2 =>
    alo_lin fun i3 h4 =>
    bl fun x5 =>
    bl fun x6 =>
    la36.l fun x7 h8 =>
    bl fun x9 =>
    bl fun x10 =>
    il (
      bl fun x11 =>
      bl fun x12 =>
      il (
        la36.l fun x13 h14 =>
        bl fun x15 =>
        bl fun x16 =>
        il (
          bl fun x17 =>
          il (
            bl fun x18 =>
            bl fun x19 =>
            il (
              bl fun x20 =>
              il (
                la37.l fun x21 h22 =>
                alo_lin fun i23 h24 =>
                la35.l fun x25 h26 =>
                hkR _ _) (
                rfl)) (
              rfl)) (
            rfl)) (
          rfl)) (
        rfl)) (
      rfl))
noncomputable def g28_r (a36 : T36) (a37 : T37) (a35 : T35) : T28 := fun R t0_0 t0_1 t0_2 t1_0 t1_1 t1_2 H K =>
  g28_p0 a36 a37 a35 R t0_0 t0_1 t0_2 t1_0 t1_1 t1_2 H (fun t4 H =>
    K t4 H)
theorem g28_r_lin {a36 : T36} {a37 : T37} {a35 : T35} (la36 : Lin36 a36) (la37 : Lin37 a37) (la35 : Lin35 a35) : Lin28 (g28_r a36 a37 a35) := by
  constructor
  intro R S k t0_0 t0_1 t0_2 t1_0 t1_1 t1_2 H f g h
  exact g28_p0_lin la36 la37 la35 (fun t4 H =>
    h _ _)
theorem g28_fn (a36 : T36) (a37 : T37) (a35 : T35) (la36 : Lin36 a36) (la37 : Lin37 a37) (la35 : Lin35 a35) {R : Type} (t0_0 : Int) (t0_1 : Int) (t0_2 : Int) (t1_0 : Int) (t1_1 : Int) (t1_2 : Int) (H : Heap) (K : V → Heap → Option R) : evFn Tryd.prog (E28 a36 a37 a35) loopLim Tryd.f28 kp28 [(V.agg [(V.i .u16 t0_0), (V.i .u16 t0_1), (V.i .u8 t0_2)]), (V.agg [(V.i .u16 t1_0), (V.i .u16 t1_1), (V.i .u8 t1_2)])] H K = g28_r a36 a37 a35 R t0_0 t0_1 t0_2 t1_0 t1_1 t1_2 H (fun r0 H => K (V.i .i64 r0) H) := by
  have h0 : ∀ (t4 : Int) (H : Heap), kFn Tryd.prog Tryd.f28.results.toList K .ret [(4, (V.i .i64 t4))] H =
      K (V.i .i64 t4) H := by intros; kernel_rfl
  have e0 := evFn_code2 (P := Tryd.prog) (c := c28_0) (E := (E28 a36 a37 a35)) (lr := loopLim) (kp := kp28) (fn := Tryd.f28) (args := [(V.agg [(V.i .u16 t0_0), (V.i .u16 t0_1), (V.i .u8 t0_2)]), (V.agg [(V.i .u16 t1_0), (V.i .u16 t1_1), (V.i .u8 t1_2)])]) H K (by kernel_rfl) (Nat.le_of_ble_eq_true (by kernel_rfl)) (by kernel_rfl)
  have e1 : ev Tryd.prog (E28 a36 a37 a35) loopLim Tryd.f28.ntmps kp28 c28_0 (argFr 0 [(V.agg [(V.i .u16 t0_0), (V.i .u16 t0_1), (V.i .u8 t0_2)]), (V.agg [(V.i .u16 t1_0), (V.i .u16 t1_1), (V.i .u8 t1_2)])]) H (kFn Tryd.prog Tryd.f28.results.toList K) = ev Tryd.prog (E28 a36 a37 a35) loopLim Tryd.f28.ntmps kp28 c28_0 [(0, (V.agg [(V.i .u16 t0_0), (V.i .u16 t0_1), (V.i .u8 t0_2)])), (1, (V.agg [(V.i .u16 t1_0), (V.i .u16 t1_1), (V.i .u8 t1_2)]))] H (kFn Tryd.prog Tryd.f28.results.toList K) := by kernel_rfl
  refine (e0.trans e1).trans ?_
  delta g28_r
  exact (g28_p0_eq a36 a37 a35 la36 la37 la35 t0_0 t0_1 t0_2 t1_0 t1_1 t1_2 H (kFn Tryd.prog Tryd.f28.results.toList K)).trans (congrArg (g28_p0 a36 a37 a35 R t0_0 t0_1 t0_2 t1_0 t1_1 t1_2 H) (funext fun t4 => funext fun H => h0 t4 H))
theorem g28_ok {a36 : T36} {a37 : T37} {a35 : T35} (oa36 : FunOK Tryd.prog 36 (w36 a36)) (oa37 : FunOK Tryd.prog 37 (w37 a37)) (oa35 : FunOK Tryd.prog 35 (w35 a35)) (la36 : Lin36 a36) (la37 : Lin37 a37) (la35 : Lin35 a35) : FunOK Tryd.prog 28 (w28 (g28_r a36 a37 a35)) := by
  refine (runF_ok (E28_good oa36 oa37 oa35 la36 la37 la35) mixed lim_ok Tryd.func28 (by kernel_rfl) kp28).of_le fun R args H K r hk => ?_
  unfold w28 at hk
  split at hk
  · exact (g28_fn a36 a37 a35 la36 la37 la35 _ _ _ _ _ _ H K).trans hk
  · cases hk
def kp10 : Nat → Option (List Nat) := kpOf [(0, [3, 4, 5]), (1, [3, 4, 5, 7]), (2, [3, 4, 5, 7, 8]), (3, [3, 4, 5, 7, 8, 9]), (4, [3, 4, 5, 7, 8, 9, 48]), (5, [3, 4, 5, 7, 8, 9]), (6, [3, 4, 5, 7, 8, 9, 51]), (7, [3, 4, 5, 7, 8, 9]), (8, [6]), (300000, [6]), (400048, [3, 4, 5, 7, 8, 9]), (400051, [3, 4, 5, 7, 8, 9])]
def E10 (a28 : T28) (a12 : T12) : FEnv := [(28, w28 a28), (12, w12 a12)]
theorem E10_good {a28 : T28} {a12 : T12} (oa28 : FunOK Tryd.prog 28 (w28 a28)) (oa12 : FunOK Tryd.prog 12 (w12 a12)) (la28 : Lin28 a28) (la12 : Lin12 a12) : EnvGood Tryd.prog (E10 a28 a12) := (((EnvGood.nil _).cons oa12 (w12_lin la12)).cons oa28 (w28_lin la28))
theorem E10_lin {a28 : T28} {a12 : T12} (la28 : Lin28 a28) (la12 : Lin12 a12) : EnvLin (E10 a28 a12) := by
  intro g F h
  simp only [E10, List.mem_cons, List.not_mem_nil, or_false] at h
  rcases h with h | h
  · cases h; exact w28_lin la28
  · cases h; exact w12_lin la12
noncomputable def b10 : Code := Tryd.f10.body.getD .skip
noncomputable def c10_0 : Code := (.seq (codeAt [1, 1, 1, 1, 1, 0] b10) .ret)
noncomputable def c10_1 : Code := (.seq (.cond (.tmp 48) (codeAt [1, 1, 1, 1, 0, 1, 0] b10) (.seq (codeAt [1, 1, 1, 1, 0, 1, 1, 0] b10) (.cond (.tmp 51) (codeAt [1, 1, 1, 1, 0, 1, 1, 1, 0] b10) .skip))) c10_0)
noncomputable def c10_2 : Code := (.seq (codeAt [0] b10) (.seq (codeAt [1, 0] b10) (.seq (codeAt [1, 1, 0] b10) (.seq (codeAt [1, 1, 1, 0] b10) (.seq (codeAt [1, 1, 1, 1, 0, 0] b10) c10_1)))))
noncomputable def g10_p0 (a28 : T28) (a12 : T12) (R : Type) (t0_0 : Int) (t0_1 : Int) (t0_2 : Int) (t1_0 : Int) (t1_1 : Int) (t1_2 : Int) (t2_0 : Int) (t2_1 : Int) (t2_2 : Int) (H : Heap) (kN : Nat → Nat → Nat → Nat → Nat → Nat → Int → Int → Int → Bool → Heap → Option R) : Option R :=
  alo H (.cells [(V.i .u16 t0_0), (V.i .u16 t0_1), (V.i .u8 t0_2)] 46 false) fun i313 h314 =>
  alo h314 (.cells [(V.i .u16 t1_0), (V.i .u16 t1_1), (V.i .u8 t1_2)] 46 false) fun i315 h316 =>
  alo h316 (.cells [(V.i .u16 t2_0), (V.i .u16 t2_1), (V.i .u8 t2_2)] 46 false) fun i317 h318 =>
  ((h318).ldI .u16 i313 (0 + 0)).bind fun x319 =>
  ((h318).ldI .u16 i313 (0 + 1)).bind fun x320 =>
  ((h318).ldI .u8 i313 (0 + 2)).bind fun x321 =>
  ((h318).ldI .u16 i315 (0 + 0)).bind fun x322 =>
  ((h318).ldI .u16 i315 (0 + 1)).bind fun x323 =>
  ((h318).ldI .u8 i315 (0 + 2)).bind fun x324 =>
  a28 R x319 x320 x321 x322 x323 x324 h318 fun x325 h326 =>
  ((h326).ldI .u16 i315 (0 + 0)).bind fun x327 =>
  ((h326).ldI .u16 i315 (0 + 1)).bind fun x328 =>
  ((h326).ldI .u8 i315 (0 + 2)).bind fun x329 =>
  ((h326).ldI .u16 i317 (0 + 0)).bind fun x330 =>
  ((h326).ldI .u16 i317 (0 + 1)).bind fun x331 =>
  ((h326).ldI .u8 i317 (0 + 2)).bind fun x332 =>
  a28 R x327 x328 x329 x330 x331 x332 h326 fun x333 h334 =>
  ((h334).ldI .u16 i313 (0 + 0)).bind fun x335 =>
  ((h334).ldI .u16 i315 (0 + 0)).bind fun x336 =>
  sel (decide (x335 < x336)) (
    kN i313 0 i315 0 i317 0 x325 x333 (0 : Int) true h334) (
    ((h334).ldI .u16 i313 (0 + 0)).bind fun x337 =>
    ((h334).ldI .u16 i315 (0 + 0)).bind fun x338 =>
    sel (x337 == x338) (
      ((h334).ldI .u16 i313 (0 + 1)).bind fun x339 =>
      ((h334).ldI .u16 i315 (0 + 1)).bind fun x340 =>
      sel (decide (x339 < x340)) (
        kN i313 0 i315 0 i317 0 x325 x333 (0 : Int) true h334) (
        ((h334).ldI .u16 i313 (0 + 1)).bind fun x341 =>
        ((h334).ldI .u16 i315 (0 + 1)).bind fun x342 =>
        sel (x341 == x342) (
          ((h334).ldI .u8 i313 (0 + 2)).bind fun x343 =>
          ((h334).ldI .u8 i315 (0 + 2)).bind fun x344 =>
          kN i313 0 i315 0 i317 0 x325 x333 (0 : Int) (decide (x343 < x344)) h334) (
          kN i313 0 i315 0 i317 0 x325 x333 (0 : Int) false h334))) (
      kN i313 0 i315 0 i317 0 x325 x333 (0 : Int) false h334))
theorem g10_p0_eq (a28 : T28) (a12 : T12) {R : Type} (c2 : Code) (t0_0 : Int) (t0_1 : Int) (t0_2 : Int) (t1_0 : Int) (t1_1 : Int) (t1_2 : Int) (t2_0 : Int) (t2_1 : Int) (t2_2 : Int) (H : Heap) (K : Ex → Fr → Heap → Option R) : ev Tryd.prog (E10 a28 a12) loopLim Tryd.f10.ntmps kp10 (.seq (codeAt [0] b10) (.seq (codeAt [1, 0] b10) (.seq (codeAt [1, 1, 0] b10) (.seq (codeAt [1, 1, 1, 0] b10) (.seq (codeAt [1, 1, 1, 1, 0, 0] b10) c2))))) [(0, (V.agg [(V.i .u16 t0_0), (V.i .u16 t0_1), (V.i .u8 t0_2)])), (1, (V.agg [(V.i .u16 t1_0), (V.i .u16 t1_1), (V.i .u8 t1_2)])), (2, (V.agg [(V.i .u16 t2_0), (V.i .u16 t2_1), (V.i .u8 t2_2)]))] H K = g10_p0 a28 a12 R t0_0 t0_1 t0_2 t1_0 t1_1 t1_2 t2_0 t2_1 t2_2 H (fun t3_0 t3_1 t4_0 t4_1 t5_0 t5_1 t7 t8 t9 t48 H => ev Tryd.prog (E10 a28 a12) loopLim Tryd.f10.ntmps kp10 c2 [(3, (V.p (some (t3_0, t3_1)))), (4, (V.p (some (t4_0, t4_1)))), (5, (V.p (some (t5_0, t5_1)))), (7, (V.i .i64 t7)), (8, (V.i .i64 t8)), (9, (V.i .i64 t9)), (48, (V.b t48))] H K) := by kernel_rfl
theorem g10_p0_lin {a28 : T28} {a12 : T12} (la28 : Lin28 a28) (la12 : Lin12 a12) {R S : Type} {k : S → Option R} {t0_0 : Int} {t0_1 : Int} {t0_2 : Int} {t1_0 : Int} {t1_1 : Int} {t1_2 : Int} {t2_0 : Int} {t2_1 : Int} {t2_2 : Int} {H : Heap} {fkN : Nat → Nat → Nat → Nat → Nat → Nat → Int → Int → Int → Bool → Heap → Option R} {gkN : Nat → Nat → Nat → Nat → Nat → Nat → Int → Int → Int → Bool → Heap → Option S} (hkN : ∀ t3_0 t3_1 t4_0 t4_1 t5_0 t5_1 t7 t8 t9 t48 H, fkN t3_0 t3_1 t4_0 t4_1 t5_0 t5_1 t7 t8 t9 t48 H = (gkN t3_0 t3_1 t4_0 t4_1 t5_0 t5_1 t7 t8 t9 t48 H).bind k) : g10_p0 a28 a12 R t0_0 t0_1 t0_2 t1_0 t1_1 t1_2 t2_0 t2_1 t2_2 H fkN = (g10_p0 a28 a12 S t0_0 t0_1 t0_2 t1_0 t1_1 t1_2 t2_0 t2_1 t2_2 H gkN).bind k := by
  delta g10_p0; exact (
    alo_lin fun i313 h314 =>
    alo_lin fun i315 h316 =>
    alo_lin fun i317 h318 =>
    bl fun x319 =>
    bl fun x320 =>
    bl fun x321 =>
    bl fun x322 =>
    bl fun x323 =>
    bl fun x324 =>
    la28.l fun x325 h326 =>
    bl fun x327 =>
    bl fun x328 =>
    bl fun x329 =>
    bl fun x330 =>
    bl fun x331 =>
    bl fun x332 =>
    la28.l fun x333 h334 =>
    bl fun x335 =>
    bl fun x336 =>
    sl_lin (
      hkN _ _ _ _ _ _ _ _ _ _ _) (
      bl fun x337 =>
      bl fun x338 =>
      sl_lin (
        bl fun x339 =>
        bl fun x340 =>
        sl_lin (
          hkN _ _ _ _ _ _ _ _ _ _ _) (
          bl fun x341 =>
          bl fun x342 =>
          sl_lin (
            bl fun x343 =>
            bl fun x344 =>
            hkN _ _ _ _ _ _ _ _ _ _ _) (
            hkN _ _ _ _ _ _ _ _ _ _ _))) (
        hkN _ _ _ _ _ _ _ _ _ _ _)))
noncomputable def g10_p1 (a28 : T28) (a12 : T12) (R : Type) (t3_0 : Nat) (t3_1 : Nat) (t4_0 : Nat) (t4_1 : Nat) (t5_0 : Nat) (t5_1 : Nat) (t7 : Int) (t8 : Int) (t9 : Int) (t48 : Bool) (H : Heap) (kN : Nat → Nat → Nat → Nat → Nat → Nat → Int → Int → Int → Heap → Option R) : Option R :=
  sel t48 (
    kN t3_0 t3_1 t4_0 t4_1 t5_0 t5_1 t7 t8 (-1 : Int) H) (
    ((H).ldI .u16 t3_0 (t3_1 + 0)).bind fun x417 =>
    ((H).ldI .u16 t3_0 (t3_1 + 1)).bind fun x418 =>
    ((H).ldI .u8 t3_0 (t3_1 + 2)).bind fun x419 =>
    ((H).ldI .u16 t4_0 (t4_1 + 0)).bind fun x420 =>
    ((H).ldI .u16 t4_0 (t4_1 + 1)).bind fun x421 =>
    ((H).ldI .u8 t4_0 (t4_1 + 2)).bind fun x422 =>
    sel (!((x417 == x420) && ((x418 == x421) && ((x419 == x422) && true)))) (
      kN t3_0 t3_1 t4_0 t4_1 t5_0 t5_1 t7 t8 (1 : Int) H) (
      kN t3_0 t3_1 t4_0 t4_1 t5_0 t5_1 t7 t8 t9 H))
theorem g10_p1_eq (a28 : T28) (a12 : T12) {R : Type} (c2 : Code) (t3_0 : Nat) (t3_1 : Nat) (t4_0 : Nat) (t4_1 : Nat) (t5_0 : Nat) (t5_1 : Nat) (t7 : Int) (t8 : Int) (t9 : Int) (t48 : Bool) (H : Heap) (K : Ex → Fr → Heap → Option R) : ev Tryd.prog (E10 a28 a12) loopLim Tryd.f10.ntmps kp10 (.seq (.cond (.tmp 48) (codeAt [1, 1, 1, 1, 0, 1, 0] b10) (.seq (codeAt [1, 1, 1, 1, 0, 1, 1, 0] b10) (.cond (.tmp 51) (codeAt [1, 1, 1, 1, 0, 1, 1, 1, 0] b10) .skip))) c2) [(3, (V.p (some (t3_0, t3_1)))), (4, (V.p (some (t4_0, t4_1)))), (5, (V.p (some (t5_0, t5_1)))), (7, (V.i .i64 t7)), (8, (V.i .i64 t8)), (9, (V.i .i64 t9)), (48, (V.b t48))] H K = g10_p1 a28 a12 R t3_0 t3_1 t4_0 t4_1 t5_0 t5_1 t7 t8 t9 t48 H (fun t3_0 t3_1 t4_0 t4_1 t5_0 t5_1 t7 t8 t9 H => ev Tryd.prog (E10 a28 a12) loopLim Tryd.f10.ntmps kp10 c2 [(3, (V.p (some (t3_0, t3_1)))), (4, (V.p (some (t4_0, t4_1)))), (5, (V.p (some (t5_0, t5_1)))), (7, (V.i .i64 t7)), (8, (V.i .i64 t8)), (9, (V.i .i64 t9))] H K) := by kernel_rfl
theorem g10_p1_lin {a28 : T28} {a12 : T12} (la28 : Lin28 a28) (la12 : Lin12 a12) {R S : Type} {k : S → Option R} {t3_0 : Nat} {t3_1 : Nat} {t4_0 : Nat} {t4_1 : Nat} {t5_0 : Nat} {t5_1 : Nat} {t7 : Int} {t8 : Int} {t9 : Int} {t48 : Bool} {H : Heap} {fkN : Nat → Nat → Nat → Nat → Nat → Nat → Int → Int → Int → Heap → Option R} {gkN : Nat → Nat → Nat → Nat → Nat → Nat → Int → Int → Int → Heap → Option S} (hkN : ∀ t3_0 t3_1 t4_0 t4_1 t5_0 t5_1 t7 t8 t9 H, fkN t3_0 t3_1 t4_0 t4_1 t5_0 t5_1 t7 t8 t9 H = (gkN t3_0 t3_1 t4_0 t4_1 t5_0 t5_1 t7 t8 t9 H).bind k) : g10_p1 a28 a12 R t3_0 t3_1 t4_0 t4_1 t5_0 t5_1 t7 t8 t9 t48 H fkN = (g10_p1 a28 a12 S t3_0 t3_1 t4_0 t4_1 t5_0 t5_1 t7 t8 t9 t48 H gkN).bind k := by
  delta g10_p1; exact (
    sl_lin (
      hkN _ _ _ _ _ _ _ _ _ _) (
      bl fun x417 =>
      bl fun x418 =>
      bl fun x419 =>
      bl fun x420 =>
      bl fun x421 =>
      bl fun x422 =>
      sl_lin (
        hkN _ _ _ _ _ _ _ _ _ _) (
        hkN _ _ _ _ _ _ _ _ _ _)))
noncomputable def g10_p2 (a28 : T28) (a12 : T12) (R : Type) (t3_0 : Nat) (t3_1 : Nat) (t4_0 : Nat) (t4_1 : Nat) (t5_0 : Nat) (t5_1 : Nat) (t7 : Int) (t8 : Int) (t9 : Int) (H : Heap) (kR : Bool → Heap → Option R) : Option R :=
  sel (t7 == t9) (
    ((H).ldI .u16 t4_0 (t4_1 + 0)).bind fun x495 =>
    ((H).ldI .u16 t4_0 (t4_1 + 1)).bind fun x496 =>
    ((H).ldI .u8 t4_0 (t4_1 + 2)).bind fun x497 =>
    ((H).ldI .u16 t3_0 (t3_1 + 0)).bind fun x498 =>
    ((H).ldI .u16 t3_0 (t3_1 + 1)).bind fun x499 =>
    ((H).ldI .u8 t3_0 (t3_1 + 2)).bind fun x500 =>
    a28 R x495 x496 x497 x498 x499 x500 H fun x501 h502 =>
    sel (x501 == (IntKind.wrap .i64 (0 - t7))) (
      sel (decide (t7 > (0 : Int))) (
        a12 R h502 fun x503 h504 =>
        kR x503 h504) (
        sel (decide (t8 > (0 : Int))) (
          a12 R h502 fun x505 h506 =>
          kR x505 h506) (
          ((h502).ldI .u16 t3_0 (t3_1 + 0)).bind fun x507 =>
          ((h502).ldI .u16 t3_0 (t3_1 + 1)).bind fun x508 =>
          ((h502).ldI .u8 t3_0 (t3_1 + 2)).bind fun x509 =>
          ((h502).ldI .u16 t5_0 (t5_1 + 0)).bind fun x510 =>
          ((h502).ldI .u16 t5_0 (t5_1 + 1)).bind fun x511 =>
          ((h502).ldI .u8 t5_0 (t5_1 + 2)).bind fun x512 =>
          a28 R x507 x508 x509 x510 x511 x512 h502 fun x513 h514 =>
          sel (decide (x513 ≤ (0 : Int))) (
            a12 R h514 fun x515 h516 =>
            kR x515 h516) (
            kR false h514)))) (
      kR false h502)) (
    kR false H)
theorem g10_p2_eq (a28 : T28) (a12 : T12) (la28 : Lin28 a28) (la12 : Lin12 a12) {R : Type} (t3_0 : Nat) (t3_1 : Nat) (t4_0 : Nat) (t4_1 : Nat) (t5_0 : Nat) (t5_1 : Nat) (t7 : Int) (t8 : Int) (t9 : Int) (H : Heap) (K : Ex → Fr → Heap → Option R) : ev Tryd.prog (E10 a28 a12) loopLim Tryd.f10.ntmps kp10 c10_0 [(3, (V.p (some (t3_0, t3_1)))), (4, (V.p (some (t4_0, t4_1)))), (5, (V.p (some (t5_0, t5_1)))), (7, (V.i .i64 t7)), (8, (V.i .i64 t8)), (9, (V.i .i64 t9))] H K = g10_p2 a28 a12 R t3_0 t3_1 t4_0 t4_1 t5_0 t5_1 t7 t8 t9 H (fun t6 H => K .ret [(6, (V.b t6))] H) := by kernel_rfl
theorem g10_p2_lin {a28 : T28} {a12 : T12} (la28 : Lin28 a28) (la12 : Lin12 a12) {R S : Type} {k : S → Option R} {t3_0 : Nat} {t3_1 : Nat} {t4_0 : Nat} {t4_1 : Nat} {t5_0 : Nat} {t5_1 : Nat} {t7 : Int} {t8 : Int} {t9 : Int} {H : Heap} {fkR : Bool → Heap → Option R} {gkR : Bool → Heap → Option S} (hkR : ∀ t6 H, fkR t6 H = (gkR t6 H).bind k) : g10_p2 a28 a12 R t3_0 t3_1 t4_0 t4_1 t5_0 t5_1 t7 t8 t9 H fkR = (g10_p2 a28 a12 S t3_0 t3_1 t4_0 t4_1 t5_0 t5_1 t7 t8 t9 H gkR).bind k := by
  delta g10_p2; exact (
    sl_lin (
      bl fun x495 =>
      bl fun x496 =>
      bl fun x497 =>
      bl fun x498 =>
      bl fun x499 =>
      bl fun x500 =>
      la28.l fun x501 h502 =>
      sl_lin (
        sl_lin (
          la12.l fun x503 h504 =>
          hkR _ _) (
          sl_lin (
            la12.l fun x505 h506 =>
            hkR _ _) (
            bl fun x507 =>
            bl fun x508 =>
            bl fun x509 =>
            bl fun x510 =>
            bl fun x511 =>
            bl fun x512 =>
            la28.l fun x513 h514 =>
            sl_lin (
              la12.l fun x515 h516 =>
              hkR _ _) (
              hkR _ _)))) (
        hkR _ _)) (
      hkR _ _))
noncomputable def g10_p3 (a28 : T28) (a12 : T12) (R : Type) (t3_0 : Nat) (t3_1 : Nat) (t4_0 : Nat) (t4_1 : Nat) (t5_0 : Nat) (t5_1 : Nat) (t7 : Int) (t8 : Int) (t9 : Int) (t48 : Bool) (H : Heap) (kR : Bool → Heap → Option R) : Option R :=
  g10_p1 a28 a12 R t3_0 t3_1 t4_0 t4_1 t5_0 t5_1 t7 t8 t9 t48 H (fun t3_0 t3_1 t4_0 t4_1 t5_0 t5_1 t7 t8 t9 H => g10_p2 a28 a12 R t3_0 t3_1 t4_0 t4_1 t5_0 t5_1 t7 t8 t9 H (fun t6 H => kR t6 H))
theorem g10_p3_lin {a28 : T28} {a12 : T12} (la28 : Lin28 a28) (la12 : Lin12 a12) {R S : Type} {k : S → Option R} {t3_0 : Nat} {t3_1 : Nat} {t4_0 : Nat} {t4_1 : Nat} {t5_0 : Nat} {t5_1 : Nat} {t7 : Int} {t8 : Int} {t9 : Int} {t48 : Bool} {H : Heap} {fkR : Bool → Heap → Option R} {gkR : Bool → Heap → Option S} (hkR : ∀ t6 H, fkR t6 H = (gkR t6 H).bind k) : g10_p3 a28 a12 R t3_0 t3_1 t4_0 t4_1 t5_0 t5_1 t7 t8 t9 t48 H fkR = (g10_p3 a28 a12 S t3_0 t3_1 t4_0 t4_1 t5_0 t5_1 t7 t8 t9 t48 H gkR).bind k := by
  exact g10_p1_lin la28 la12 (fun _ _ _ _ _ _ _ _ _ _ => g10_p2_lin la28 la12 (fun _ _ => hkR _ _))
theorem g10_p3_eq (a28 : T28) (a12 : T12) (la28 : Lin28 a28) (la12 : Lin12 a12) {R : Type} (t3_0 : Nat) (t3_1 : Nat) (t4_0 : Nat) (t4_1 : Nat) (t5_0 : Nat) (t5_1 : Nat) (t7 : Int) (t8 : Int) (t9 : Int) (t48 : Bool) (H : Heap) (K : Ex → Fr → Heap → Option R) : ev Tryd.prog (E10 a28 a12) loopLim Tryd.f10.ntmps kp10 c10_1 [(3, (V.p (some (t3_0, t3_1)))), (4, (V.p (some (t4_0, t4_1)))), (5, (V.p (some (t5_0, t5_1)))), (7, (V.i .i64 t7)), (8, (V.i .i64 t8)), (9, (V.i .i64 t9)), (48, (V.b t48))] H K = g10_p3 a28 a12 R t3_0 t3_1 t4_0 t4_1 t5_0 t5_1 t7 t8 t9 t48 H (fun t6 H => K .ret [(6, (V.b t6))] H) := by
  show ev Tryd.prog (E10 a28 a12) loopLim Tryd.f10.ntmps kp10 (.seq (.cond (.tmp 48) (codeAt [1, 1, 1, 1, 0, 1, 0] b10) (.seq (codeAt [1, 1, 1, 1, 0, 1, 1, 0] b10) (.cond (.tmp 51) (codeAt [1, 1, 1, 1, 0, 1, 1, 1, 0] b10) .skip))) c10_0) [(3, (V.p (some (t3_0, t3_1)))), (4, (V.p (some (t4_0, t4_1)))), (5, (V.p (some (t5_0, t5_1)))), (7, (V.i .i64 t7)), (8, (V.i .i64 t8)), (9, (V.i .i64 t9)), (48, (V.b t48))] H K = _
  delta g10_p3
  exact (g10_p1_eq a28 a12 _ t3_0 t3_1 t4_0 t4_1 t5_0 t5_1 t7 t8 t9 t48 H K).trans (congrArg (g10_p1 a28 a12 R t3_0 t3_1 t4_0 t4_1 t5_0 t5_1 t7 t8 t9 t48 H) (funext fun t3_0 => funext fun t3_1 => funext fun t4_0 => funext fun t4_1 => funext fun t5_0 => funext fun t5_1 => funext fun t7 => funext fun t8 => funext fun t9 => funext fun H => g10_p2_eq a28 a12 la28 la12 t3_0 t3_1 t4_0 t4_1 t5_0 t5_1 t7 t8 t9 H K))
noncomputable def g10_p4 (a28 : T28) (a12 : T12) (R : Type) (t0_0 : Int) (t0_1 : Int) (t0_2 : Int) (t1_0 : Int) (t1_1 : Int) (t1_2 : Int) (t2_0 : Int) (t2_1 : Int) (t2_2 : Int) (H : Heap) (kR : Bool → Heap → Option R) : Option R :=
  g10_p0 a28 a12 R t0_0 t0_1 t0_2 t1_0 t1_1 t1_2 t2_0 t2_1 t2_2 H (fun t3_0 t3_1 t4_0 t4_1 t5_0 t5_1 t7 t8 t9 t48 H => g10_p3 a28 a12 R t3_0 t3_1 t4_0 t4_1 t5_0 t5_1 t7 t8 t9 t48 H (fun t6 H => kR t6 H))
theorem g10_p4_lin {a28 : T28} {a12 : T12} (la28 : Lin28 a28) (la12 : Lin12 a12) {R S : Type} {k : S → Option R} {t0_0 : Int} {t0_1 : Int} {t0_2 : Int} {t1_0 : Int} {t1_1 : Int} {t1_2 : Int} {t2_0 : Int} {t2_1 : Int} {t2_2 : Int} {H : Heap} {fkR : Bool → Heap → Option R} {gkR : Bool → Heap → Option S} (hkR : ∀ t6 H, fkR t6 H = (gkR t6 H).bind k) : g10_p4 a28 a12 R t0_0 t0_1 t0_2 t1_0 t1_1 t1_2 t2_0 t2_1 t2_2 H fkR = (g10_p4 a28 a12 S t0_0 t0_1 t0_2 t1_0 t1_1 t1_2 t2_0 t2_1 t2_2 H gkR).bind k := by
  exact g10_p0_lin la28 la12 (fun _ _ _ _ _ _ _ _ _ _ _ => g10_p3_lin la28 la12 (fun _ _ => hkR _ _))
theorem g10_p4_eq (a28 : T28) (a12 : T12) (la28 : Lin28 a28) (la12 : Lin12 a12) {R : Type} (t0_0 : Int) (t0_1 : Int) (t0_2 : Int) (t1_0 : Int) (t1_1 : Int) (t1_2 : Int) (t2_0 : Int) (t2_1 : Int) (t2_2 : Int) (H : Heap) (K : Ex → Fr → Heap → Option R) : ev Tryd.prog (E10 a28 a12) loopLim Tryd.f10.ntmps kp10 c10_2 [(0, (V.agg [(V.i .u16 t0_0), (V.i .u16 t0_1), (V.i .u8 t0_2)])), (1, (V.agg [(V.i .u16 t1_0), (V.i .u16 t1_1), (V.i .u8 t1_2)])), (2, (V.agg [(V.i .u16 t2_0), (V.i .u16 t2_1), (V.i .u8 t2_2)]))] H K = g10_p4 a28 a12 R t0_0 t0_1 t0_2 t1_0 t1_1 t1_2 t2_0 t2_1 t2_2 H (fun t6 H => K .ret [(6, (V.b t6))] H) := by
  show ev Tryd.prog (E10 a28 a12) loopLim Tryd.f10.ntmps kp10 (.seq (codeAt [0] b10) (.seq (codeAt [1, 0] b10) (.seq (codeAt [1, 1, 0] b10) (.seq (codeAt [1, 1, 1, 0] b10) (.seq (codeAt [1, 1, 1, 1, 0, 0] b10) c10_1))))) [(0, (V.agg [(V.i .u16 t0_0), (V.i .u16 t0_1), (V.i .u8 t0_2)])), (1, (V.agg [(V.i .u16 t1_0), (V.i .u16 t1_1), (V.i .u8 t1_2)])), (2, (V.agg [(V.i .u16 t2_0), (V.i .u16 t2_1), (V.i .u8 t2_2)]))] H K = _
  delta g10_p4
  exact (g10_p0_eq a28 a12 _ t0_0 t0_1 t0_2 t1_0 t1_1 t1_2 t2_0 t2_1 t2_2 H K).trans (congrArg (g10_p0 a28 a12 R t0_0 t0_1 t0_2 t1_0 t1_1 t1_2 t2_0 t2_1 t2_2 H) (funext fun t3_0 => funext fun t3_1 => funext fun t4_0 => funext fun t4_1 => funext fun t5_0 => funext fun t5_1 => funext fun t7 => funext fun t8 => funext fun t9 => funext fun t48 => funext fun H => g10_p3_eq a28 a12 la28 la12 t3_0 t3_1 t4_0 t4_1 t5_0 t5_1 t7 t8 t9 t48 H K))
noncomputable def g10_r (a28 : T28) (a12 : T12) : T10 := fun R t0_0 t0_1 t0_2 t1_0 t1_1 t1_2 t2_0 t2_1 t2_2 H K =>
  g10_p4 a28 a12 R t0_0 t0_1 t0_2 t1_0 t1_1 t1_2 t2_0 t2_1 t2_2 H (fun t6 H =>
    K t6 H)
theorem g10_r_lin {a28 : T28} {a12 : T12} (la28 : Lin28 a28) (la12 : Lin12 a12) : Lin10 (g10_r a28 a12) := by
  constructor
  intro R S k t0_0 t0_1 t0_2 t1_0 t1_1 t1_2 t2_0 t2_1 t2_2 H f g h
  exact g10_p4_lin la28 la12 (fun t6 H =>
    h _ _)
theorem g10_fn (a28 : T28) (a12 : T12) (la28 : Lin28 a28) (la12 : Lin12 a12) {R : Type} (t0_0 : Int) (t0_1 : Int) (t0_2 : Int) (t1_0 : Int) (t1_1 : Int) (t1_2 : Int) (t2_0 : Int) (t2_1 : Int) (t2_2 : Int) (H : Heap) (K : V → Heap → Option R) : evFn Tryd.prog (E10 a28 a12) loopLim Tryd.f10 kp10 [(V.agg [(V.i .u16 t0_0), (V.i .u16 t0_1), (V.i .u8 t0_2)]), (V.agg [(V.i .u16 t1_0), (V.i .u16 t1_1), (V.i .u8 t1_2)]), (V.agg [(V.i .u16 t2_0), (V.i .u16 t2_1), (V.i .u8 t2_2)])] H K = g10_r a28 a12 R t0_0 t0_1 t0_2 t1_0 t1_1 t1_2 t2_0 t2_1 t2_2 H (fun r0 H => K (V.b r0) H) := by
  have h0 : ∀ (t6 : Bool) (H : Heap), kFn Tryd.prog Tryd.f10.results.toList K .ret [(6, (V.b t6))] H =
      K (V.b t6) H := by intros; kernel_rfl
  have e0 := evFn_code2 (P := Tryd.prog) (c := c10_2) (E := (E10 a28 a12)) (lr := loopLim) (kp := kp10) (fn := Tryd.f10) (args := [(V.agg [(V.i .u16 t0_0), (V.i .u16 t0_1), (V.i .u8 t0_2)]), (V.agg [(V.i .u16 t1_0), (V.i .u16 t1_1), (V.i .u8 t1_2)]), (V.agg [(V.i .u16 t2_0), (V.i .u16 t2_1), (V.i .u8 t2_2)])]) H K (by kernel_rfl) (Nat.le_of_ble_eq_true (by kernel_rfl)) (by kernel_rfl)
  have e1 : ev Tryd.prog (E10 a28 a12) loopLim Tryd.f10.ntmps kp10 c10_2 (argFr 0 [(V.agg [(V.i .u16 t0_0), (V.i .u16 t0_1), (V.i .u8 t0_2)]), (V.agg [(V.i .u16 t1_0), (V.i .u16 t1_1), (V.i .u8 t1_2)]), (V.agg [(V.i .u16 t2_0), (V.i .u16 t2_1), (V.i .u8 t2_2)])]) H (kFn Tryd.prog Tryd.f10.results.toList K) = ev Tryd.prog (E10 a28 a12) loopLim Tryd.f10.ntmps kp10 c10_2 [(0, (V.agg [(V.i .u16 t0_0), (V.i .u16 t0_1), (V.i .u8 t0_2)])), (1, (V.agg [(V.i .u16 t1_0), (V.i .u16 t1_1), (V.i .u8 t1_2)])), (2, (V.agg [(V.i .u16 t2_0), (V.i .u16 t2_1), (V.i .u8 t2_2)]))] H (kFn Tryd.prog Tryd.f10.results.toList K) := by kernel_rfl
  refine (e0.trans e1).trans ?_
  delta g10_r
  exact (g10_p4_eq a28 a12 la28 la12 t0_0 t0_1 t0_2 t1_0 t1_1 t1_2 t2_0 t2_1 t2_2 H (kFn Tryd.prog Tryd.f10.results.toList K)).trans (congrArg (g10_p4 a28 a12 R t0_0 t0_1 t0_2 t1_0 t1_1 t1_2 t2_0 t2_1 t2_2 H) (funext fun t6 => funext fun H => h0 t6 H))
theorem g10_ok {a28 : T28} {a12 : T12} (oa28 : FunOK Tryd.prog 28 (w28 a28)) (oa12 : FunOK Tryd.prog 12 (w12 a12)) (la28 : Lin28 a28) (la12 : Lin12 a12) : FunOK Tryd.prog 10 (w10 (g10_r a28 a12)) := by
  refine (runF_ok (E10_good oa28 oa12 la28 la12) mixed lim_ok Tryd.func10 (by kernel_rfl) kp10).of_le fun R args H K r hk => ?_
  unfold w10 at hk
  split at hk
  · exact (g10_fn a28 a12 la28 la12 _ _ _ _ _ _ _ _ _ H K).trans hk
  · cases hk
end Go.Proofs.YtgdkkpjmjnknoaaDoor

