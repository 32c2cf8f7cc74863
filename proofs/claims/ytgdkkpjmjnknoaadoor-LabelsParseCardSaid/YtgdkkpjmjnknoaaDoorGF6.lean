/- Printed: functions as the machine runs them. -/
import Derived.Test.YtgdkkpjmjnknoaaDoorGT
namespace Go.Proofs.YtgdkkpjmjnknoaaDoor
open Go AM Go.RowKit
set_option linter.unusedVariables false
def kp26 : Nat → Option (List Nat) := kpOf [(0, [1, 2]), (1, [1, 2]), (2, [2]), (300000, [2])]
def E26 (a33 : T33) : FEnv := [(33, w33 a33)]
theorem E26_good {a33 : T33} (oa33 : FunOK Tryd.prog 33 (w33 a33)) (la33 : Lin33 a33) : EnvGood Tryd.prog (E26 a33) := ((EnvGood.nil _).cons oa33 (w33_lin la33))
theorem E26_lin {a33 : T33} (la33 : Lin33 a33) : EnvLin (E26 a33) := by
  intro g F h
  simp only [E26, List.mem_cons, List.not_mem_nil, or_false] at h
  rcases h with h
  · cases h; exact w33_lin la33
noncomputable def b26 : Code := Tryd.f26.body.getD .skip
noncomputable def c26_0 : Code := (.seq (codeAt [0] b26) (.seq (codeAt [1, 0] b26) (.seq (codeAt [1, 1, 0] b26) .ret)))
noncomputable def g26_p0 (a33 : T33) (R : Type) (t0_0 : Int) (t0_1 : Int) (t0_2 : Int) (t0_3 : Int) (t0_4 : Int) (t0_5 : Int) (t0_6 : Sl) (H : Heap) (kR : Nat → Nat → Heap → Option R) : Option R :=
  alo H (.cells [(V.i .u8 t0_0), (V.i .u8 t0_1), (V.i .u8 t0_2), (V.i .u16 t0_3), (V.i .u16 t0_4), (V.i .u8 t0_5), (V.sl t0_6)] 38 false) fun i1 h2 =>
  alo h2 (.cells [(V.i .u8 (0 : Int)), (V.i .u8 (0 : Int)), (V.i .u8 (0 : Int)), (V.i .u16 (0 : Int)), (V.i .u16 (0 : Int)), (V.i .u8 (0 : Int)), (V.sl (Sl.mk none 0 (.ex 0)))] 38 false) fun i3 h4 =>
  ((h4).ldSl i1 (0 + 6)).bind fun x5 =>
  a33 R x5 h4 fun x6 h7 =>
  ((h7).st i1 (0 + 6) (V.sl x6)).bind fun h9 =>
  ((h9).ldI .u8 i1 (0 + 0)).bind fun x10 =>
  ((h9).ldI .u8 i1 (0 + 1)).bind fun x11 =>
  ((h9).ldI .u8 i1 (0 + 2)).bind fun x12 =>
  ((h9).ldI .u16 i1 (0 + 3)).bind fun x13 =>
  ((h9).ldI .u16 i1 (0 + 4)).bind fun x14 =>
  ((h9).ldI .u8 i1 (0 + 5)).bind fun x15 =>
  ((h9).ldSl i1 (0 + 6)).bind fun x16 =>
  ((h9).sts i3 0 [(V.i .u8 x10), (V.i .u8 x11), (V.i .u8 x12), (V.i .u16 x13), (V.i .u16 x14), (V.i .u8 x15), (V.sl x16)]).bind fun h17 =>
  kR i3 0 h17
theorem g26_p0_eq (a33 : T33) (la33 : Lin33 a33) {R : Type} (t0_0 : Int) (t0_1 : Int) (t0_2 : Int) (t0_3 : Int) (t0_4 : Int) (t0_5 : Int) (t0_6 : Sl) (H : Heap) (K : Ex → Fr → Heap → Option R) : ev Tryd.prog (E26 a33) loopLim Tryd.f26.ntmps kp26 c26_0 [(0, (V.agg [(V.i .u8 t0_0), (V.i .u8 t0_1), (V.i .u8 t0_2), (V.i .u16 t0_3), (V.i .u16 t0_4), (V.i .u8 t0_5), (V.sl t0_6)]))] H K = g26_p0 a33 R t0_0 t0_1 t0_2 t0_3 t0_4 t0_5 t0_6 H (fun t2_0 t2_1 H => K .ret [(2, (V.p (some (t2_0, t2_1))))] H) := by kernel_rfl
theorem g26_p0_lin {a33 : T33} (la33 : Lin33 a33) {R S : Type} {k : S → Option R} {t0_0 : Int} {t0_1 : Int} {t0_2 : Int} {t0_3 : Int} {t0_4 : Int} {t0_5 : Int} {t0_6 : Sl} {H : Heap} {fkR : Nat → Nat → Heap → Option R} {gkR : Nat → Nat → Heap → Option S} (hkR : ∀ t2_0 t2_1 H, fkR t2_0 t2_1 H = (gkR t2_0 t2_1 H).bind k) : g26_p0 a33 R t0_0 t0_1 t0_2 t0_3 t0_4 t0_5 t0_6 H fkR = (g26_p0 a33 S t0_0 t0_1 t0_2 t0_3 t0_4 t0_5 t0_6 H gkR).bind k := by
  delta g26_p0; exact (
    alo_lin fun i1 h2 =>
    alo_lin fun i3 h4 =>
    bl fun x5 =>
    la33.l fun x6 h7 =>
    bl fun h9 =>
    bl fun x10 =>
    bl fun x11 =>
    bl fun x12 =>
    bl fun x13 =>
    bl fun x14 =>
    bl fun x15 =>
    bl fun x16 =>
    bl fun h17 =>
    hkR _ _ _)
noncomputable def g26_r (a33 : T33) : T26 := fun R t0_0 t0_1 t0_2 t0_3 t0_4 t0_5 t0_6 H K =>
  g26_p0 a33 R t0_0 t0_1 t0_2 t0_3 t0_4 t0_5 t0_6 H (fun t2_0 t2_1 H =>
    ((H).ldI .u8 t2_0 (t2_1 + 0)).bind fun x18 =>
    ((H).ldI .u8 t2_0 (t2_1 + 1)).bind fun x19 =>
    ((H).ldI .u8 t2_0 (t2_1 + 2)).bind fun x20 =>
    ((H).ldI .u16 t2_0 (t2_1 + 3)).bind fun x21 =>
    ((H).ldI .u16 t2_0 (t2_1 + 4)).bind fun x22 =>
    ((H).ldI .u8 t2_0 (t2_1 + 5)).bind fun x23 =>
    ((H).ldSl t2_0 (t2_1 + 6)).bind fun x24 =>
    K x18 x19 x20 x21 x22 x23 x24 H)
theorem g26_r_lin {a33 : T33} (la33 : Lin33 a33) : Lin26 (g26_r a33) := by
  constructor
  intro R S k t0_0 t0_1 t0_2 t0_3 t0_4 t0_5 t0_6 H f g h
  exact g26_p0_lin la33 (fun t2_0 t2_1 H =>
    bl fun x18 =>
    bl fun x19 =>
    bl fun x20 =>
    bl fun x21 =>
    bl fun x22 =>
    bl fun x23 =>
    bl fun x24 =>
    h _ _ _ _ _ _ _ _)
theorem g26_fn (a33 : T33) (la33 : Lin33 a33) {R : Type} (t0_0 : Int) (t0_1 : Int) (t0_2 : Int) (t0_3 : Int) (t0_4 : Int) (t0_5 : Int) (t0_6 : Sl) (H : Heap) (K : V → Heap → Option R) : evFn Tryd.prog (E26 a33) loopLim Tryd.f26 kp26 [(V.agg [(V.i .u8 t0_0), (V.i .u8 t0_1), (V.i .u8 t0_2), (V.i .u16 t0_3), (V.i .u16 t0_4), (V.i .u8 t0_5), (V.sl t0_6)])] H K = g26_r a33 R t0_0 t0_1 t0_2 t0_3 t0_4 t0_5 t0_6 H (fun r0_0 r0_1 r0_2 r0_3 r0_4 r0_5 r0_6 H => K (V.agg [(V.i .u8 r0_0), (V.i .u8 r0_1), (V.i .u8 r0_2), (V.i .u16 r0_3), (V.i .u16 r0_4), (V.i .u8 r0_5), (V.sl r0_6)]) H) := by
  have h0 : ∀ (t2_0 : Nat) (t2_1 : Nat) (H : Heap), kFn Tryd.prog Tryd.f26.results.toList K .ret [(2, (V.p (some (t2_0, t2_1))))] H =
      ((H).ldI .u8 t2_0 (t2_1 + 0)).bind fun x18 =>
      ((H).ldI .u8 t2_0 (t2_1 + 1)).bind fun x19 =>
      ((H).ldI .u8 t2_0 (t2_1 + 2)).bind fun x20 =>
      ((H).ldI .u16 t2_0 (t2_1 + 3)).bind fun x21 =>
      ((H).ldI .u16 t2_0 (t2_1 + 4)).bind fun x22 =>
      ((H).ldI .u8 t2_0 (t2_1 + 5)).bind fun x23 =>
      ((H).ldSl t2_0 (t2_1 + 6)).bind fun x24 =>
      K (V.agg [(V.i .u8 x18), (V.i .u8 x19), (V.i .u8 x20), (V.i .u16 x21), (V.i .u16 x22), (V.i .u8 x23), (V.sl x24)]) H := by intros; kernel_rfl
  have e0 := evFn_code2 (P := Tryd.prog) (c := c26_0) (E := (E26 a33)) (lr := loopLim) (kp := kp26) (fn := Tryd.f26) (args := [(V.agg [(V.i .u8 t0_0), (V.i .u8 t0_1), (V.i .u8 t0_2), (V.i .u16 t0_3), (V.i .u16 t0_4), (V.i .u8 t0_5), (V.sl t0_6)])]) H K (by kernel_rfl) (Nat.le_of_ble_eq_true (by kernel_rfl)) (by kernel_rfl)
  have e1 : ev Tryd.prog (E26 a33) loopLim Tryd.f26.ntmps kp26 c26_0 (argFr 0 [(V.agg [(V.i .u8 t0_0), (V.i .u8 t0_1), (V.i .u8 t0_2), (V.i .u16 t0_3), (V.i .u16 t0_4), (V.i .u8 t0_5), (V.sl t0_6)])]) H (kFn Tryd.prog Tryd.f26.results.toList K) = ev Tryd.prog (E26 a33) loopLim Tryd.f26.ntmps kp26 c26_0 [(0, (V.agg [(V.i .u8 t0_0), (V.i .u8 t0_1), (V.i .u8 t0_2), (V.i .u16 t0_3), (V.i .u16 t0_4), (V.i .u8 t0_5), (V.sl t0_6)]))] H (kFn Tryd.prog Tryd.f26.results.toList K) := by kernel_rfl
  refine (e0.trans e1).trans ?_
  delta g26_r
  exact (g26_p0_eq a33 la33 t0_0 t0_1 t0_2 t0_3 t0_4 t0_5 t0_6 H (kFn Tryd.prog Tryd.f26.results.toList K)).trans (congrArg (g26_p0 a33 R t0_0 t0_1 t0_2 t0_3 t0_4 t0_5 t0_6 H) (funext fun t2_0 => funext fun t2_1 => funext fun H => h0 t2_0 t2_1 H))
theorem g26_ok {a33 : T33} (oa33 : FunOK Tryd.prog 33 (w33 a33)) (la33 : Lin33 a33) : FunOK Tryd.prog 26 (w26 (g26_r a33)) := by
  refine (runF_ok (E26_good oa33 la33) mixed lim_ok Tryd.func26 (by kernel_rfl) kp26).of_le fun R args H K r hk => ?_
  unfold w26 at hk
  split at hk
  · exact (g26_fn a33 la33 _ _ _ _ _ _ _ H K).trans hk
  · cases hk
def kp34 : Nat → Option (List Nat) := kpOf [(0, [0, 1]), (1, [0, 1, 10]), (2, [4]), (3, [0, 1, 12, 13]), (4, [0, 1, 12, 13, 14]), (5, [0, 1, 5, 12, 13]), (6, [0, 1, 12, 13, 24]), (7, [4]), (8, [0, 1, 12, 13]), (9, [4]), (100000, []), (100001, [0, 1, 12, 13]), (200000, [0, 1, 12, 13]), (200001, [0, 1, 12, 13]), (300000, [4]), (400010, [0, 1]), (400014, [0, 1, 12, 13]), (400024, [0, 1, 12, 13])]
def E34 : FEnv := []
theorem E34_good : EnvGood Tryd.prog E34 := (EnvGood.nil _)
theorem E34_lin : EnvLin E34 := fun g F h => by cases h
noncomputable def b34 : Code := Tryd.f34.body.getD .skip
noncomputable def c34_0 : Code := (.seq (codeAt [1, 1, 0, 1, 0, 0, 0] b34) (.seq (.cond (.tmp 14) .skip (.exit 0)) (.seq (.block 1 (.seq (codeAt [1, 1, 0, 1, 0, 0, 1, 1, 0, 0, 0] b34) (.seq (codeAt [1, 1, 0, 1, 0, 0, 1, 1, 0, 0, 1, 0] b34) (.cond (.tmp 24) (.seq (codeAt [1, 1, 0, 1, 0, 0, 1, 1, 0, 0, 1, 1, 0, 0] b34) .ret) .skip)))) (codeAt [1, 1, 0, 1, 0, 0, 1, 1, 1] b34))))
noncomputable def c34_1 : Code := (.loop c34_0)
noncomputable def c34_2 : Code := (.block 0 c34_1)
noncomputable def c34_3 : Code := (.seq (codeAt [1, 1, 1, 0] b34) .ret)
noncomputable def c34_4 : Code := (.seq c34_2 c34_3)
noncomputable def c34_5 : Code := (.seq (codeAt [0] b34) (.seq (codeAt [1, 0, 0] b34) (.seq (.cond (.tmp 10) (.seq (codeAt [1, 0, 1, 0, 0] b34) .ret) .skip) (.seq (codeAt [1, 1, 0, 0] b34) c34_4))))
noncomputable def g34_p0 (R : Type) (t0 : Sl) (t1 : Sl) (H : Heap) (kN : Sl → Sl → Int → Int → Heap → Option R) (kR : Bool → Heap → Option R) : Option R :=
  sel (((t0.len : Nat) : Int) != ((t1.len : Nat) : Int)) (
    kR false H) (
    kN t0 t1 ((t0.len : Nat) : Int) (0 : Int) H)
theorem g34_p0_eq {R : Type} (c2 : Code) (t0 : Sl) (t1 : Sl) (H : Heap) (K : Ex → Fr → Heap → Option R) : ev Tryd.prog E34 loopLim Tryd.f34.ntmps kp34 (.seq (codeAt [0] b34) (.seq (codeAt [1, 0, 0] b34) (.seq (.cond (.tmp 10) (.seq (codeAt [1, 0, 1, 0, 0] b34) .ret) .skip) (.seq (codeAt [1, 1, 0, 0] b34) c2)))) [(0, (V.sl t0)), (1, (V.sl t1))] H K = g34_p0 R t0 t1 H (fun t0 t1 t12 t13 H => ev Tryd.prog E34 loopLim Tryd.f34.ntmps kp34 c2 [(0, (V.sl t0)), (1, (V.sl t1)), (12, (V.i .i64 t12)), (13, (V.i .i64 t13))] H K) (fun t4 H => K .ret [(4, (V.b t4))] H) := by kernel_rfl
theorem g34_p0_lin {R S : Type} {k : S → Option R} {t0 : Sl} {t1 : Sl} {H : Heap} {fkN : Sl → Sl → Int → Int → Heap → Option R} {gkN : Sl → Sl → Int → Int → Heap → Option S} {fkR : Bool → Heap → Option R} {gkR : Bool → Heap → Option S} (hkN : ∀ t0 t1 t12 t13 H, fkN t0 t1 t12 t13 H = (gkN t0 t1 t12 t13 H).bind k) (hkR : ∀ t4 H, fkR t4 H = (gkR t4 H).bind k) : g34_p0 R t0 t1 H fkN fkR = (g34_p0 S t0 t1 H gkN gkR).bind k := by
  delta g34_p0; exact (
    sl_lin (
      hkR _ _) (
      hkN _ _ _ _ _))
noncomputable def g34_p1 (R : Type) (t0 : Sl) (t1 : Sl) (t12 : Int) (t13 : Int) (H : Heap) (kN : Sl → Sl → Int → Int → Heap → Option R) (kE0 : Heap → Option R) (kR : Bool → Heap → Option R) : Option R :=
  sel (decide (t13 < t12)) (
    if 0 ≤ t13 ∧ t13 < ((t0.len : Nat) : Int) then (
      (t0.a).bind fun q1 =>
      ((H).ldI .u8 q1.1 (q1.2 + Int.toNat t13 * 1)).bind fun x2 =>
      if 0 ≤ t13 ∧ t13 < ((t1.len : Nat) : Int) then (
        (t1.a).bind fun q3 =>
        ((H).ldI .u8 q3.1 (q3.2 + Int.toNat t13 * 1)).bind fun x4 =>
        sel (x2 != x4) (
          kR false H) (
          kN t0 t1 t12 (IntKind.wrap .i64 (t13 + (1 : Int))) H))
      else (
        none))
    else (
      none)) (
    kE0 H)
theorem g34_p1_eq {R : Type} (t0 : Sl) (t1 : Sl) (t12 : Int) (t13 : Int) (H : Heap) (K : Ex → Fr → Heap → Option R) : ev Tryd.prog E34 loopLim Tryd.f34.ntmps kp34 c34_0 [(0, (V.sl t0)), (1, (V.sl t1)), (12, (V.i .i64 t12)), (13, (V.i .i64 t13))] H K = g34_p1 R t0 t1 t12 t13 H (fun t0 t1 t12 t13 H => K .normal [(0, (V.sl t0)), (1, (V.sl t1)), (12, (V.i .i64 t12)), (13, (V.i .i64 t13))] H) (fun H => K (.exit 0) [] H) (fun t4 H => K .ret [(4, (V.b t4))] H) := by kernel_rfl
theorem g34_p1_lin {R S : Type} {k : S → Option R} {t0 : Sl} {t1 : Sl} {t12 : Int} {t13 : Int} {H : Heap} {fkN : Sl → Sl → Int → Int → Heap → Option R} {gkN : Sl → Sl → Int → Int → Heap → Option S} {fkE0 : Heap → Option R} {gkE0 : Heap → Option S} {fkR : Bool → Heap → Option R} {gkR : Bool → Heap → Option S} (hkN : ∀ t0 t1 t12 t13 H, fkN t0 t1 t12 t13 H = (gkN t0 t1 t12 t13 H).bind k) (hkE0 : ∀ H, fkE0 H = (gkE0 H).bind k) (hkR : ∀ t4 H, fkR t4 H = (gkR t4 H).bind k) : g34_p1 R t0 t1 t12 t13 H fkN fkE0 fkR = (g34_p1 S t0 t1 t12 t13 H gkN gkE0 gkR).bind k := by
  delta g34_p1; exact (
    sl_lin (
      il (
        bl fun q1 =>
        bl fun x2 =>
        il (
          bl fun q3 =>
          bl fun x4 =>
          sl_lin (
            hkR _ _) (
            hkN _ _ _ _ _)) (
          rfl)) (
        rfl)) (
      hkE0 _))
abbrev g34_p2_S := Sl × Sl × Int × Int
abbrev g34_p2_O := Sum (Unit) (Bool)
def g34_p2_es (s : g34_p2_S) : Fr := [(0, (V.sl s.1)), (1, (V.sl s.2.1)), (12, (V.i .i64 s.2.2.1)), (13, (V.i .i64 s.2.2.2))]
def g34_p2_er : g34_p2_O → Ex × Fr
  | (.inl r) => ((.exit 0), [])
  | (.inr r) => (.ret, [(4, (V.b r))])
noncomputable def g34_p2_b (s : g34_p2_S) (H : Heap) : Option (Rd g34_p2_S g34_p2_O × Heap) :=
  g34_p1 _ s.1 s.2.1 s.2.2.1 s.2.2.2 H (fun t0 t1 t12 t13 H => some (.go (t0, t1, t12, t13), H)) (fun H => some (.up (.inl ()), H)) (fun t4 H => some (.up (.inr t4), H))
noncomputable def g34_p2 (R : Type) (t0 : Sl) (t1 : Sl) (t12 : Int) (t13 : Int) (H : Heap) (kE0 : Heap → Option R) (kR : Bool → Heap → Option R) : Option R :=
  (tlim (g34_p2_b) (t0, t1, t12, t13) H).bind fun p => cas p.1 (fun r => kE0  p.2) (fun r0 => kR r0 p.2)
theorem g34_p2_lin {R S : Type} {k : S → Option R} {t0 : Sl} {t1 : Sl} {t12 : Int} {t13 : Int} {H : Heap} {fkE0 : Heap → Option R} {gkE0 : Heap → Option S} {fkR : Bool → Heap → Option R} {gkR : Bool → Heap → Option S} (hkE0 : ∀ H, fkE0 H = (gkE0 H).bind k) (hkR : ∀ t4 H, fkR t4 H = (gkR t4 H).bind k) : g34_p2 R t0 t1 t12 t13 H fkE0 fkR = (g34_p2 S t0 t1 t12 t13 H gkE0 gkR).bind k := by
  exact bl fun p => cas_lin (fun _ => hkE0 _) (fun _ => hkR _ _)
theorem g34_p2_eq {R : Type} (t0 : Sl) (t1 : Sl) (t12 : Int) (t13 : Int) (H : Heap) (K : Ex → Fr → Heap → Option R) : ev Tryd.prog E34 loopLim Tryd.f34.ntmps kp34 c34_1 [(0, (V.sl t0)), (1, (V.sl t1)), (12, (V.i .i64 t12)), (13, (V.i .i64 t13))] H K = g34_p2 R t0 t1 t12 t13 H (fun H => K (.exit 0) [] H) (fun t4 H => K .ret [(4, (V.b t4))] H) := by
  show ev Tryd.prog E34 loopLim Tryd.f34.ntmps kp34 (.loop c34_0) [(0, (V.sl t0)), (1, (V.sl t1)), (12, (V.i .i64 t12)), (13, (V.i .i64 t13))] H K = _
  delta g34_p2
  refine (ev_tlim (b := g34_p2_b) (es := g34_p2_es) (er := g34_p2_er) (by rintro (r | r) <;> exact nofun) (fun s H => ?_) (t0, t1, t12, t13) H K).trans (bc fun p => by rcases p with ⟨(r | r), H⟩ <;> rfl)
  exact (g34_p1_eq s.1 s.2.1 s.2.2.1 s.2.2.2 H ret3).trans (g34_p1_lin (fun _ _ _ _ _ => rfl) (fun _ => rfl) (fun _ _ => rfl))
noncomputable def g34_p3 (R : Type) (t0 : Sl) (t1 : Sl) (t12 : Int) (t13 : Int) (H : Heap) (kN : Heap → Option R) (kR : Bool → Heap → Option R) : Option R :=
  g34_p2 R t0 t1 t12 t13 H (fun H => kN  H) (fun t4 H => kR t4 H)
theorem g34_p3_lin {R S : Type} {k : S → Option R} {t0 : Sl} {t1 : Sl} {t12 : Int} {t13 : Int} {H : Heap} {fkN : Heap → Option R} {gkN : Heap → Option S} {fkR : Bool → Heap → Option R} {gkR : Bool → Heap → Option S} (hkN : ∀ H, fkN H = (gkN H).bind k) (hkR : ∀ t4 H, fkR t4 H = (gkR t4 H).bind k) : g34_p3 R t0 t1 t12 t13 H fkN fkR = (g34_p3 S t0 t1 t12 t13 H gkN gkR).bind k := by
  exact g34_p2_lin (fun _ => hkN _) (fun _ _ => hkR _ _)
theorem g34_p3_eq {R : Type} (t0 : Sl) (t1 : Sl) (t12 : Int) (t13 : Int) (H : Heap) (K : Ex → Fr → Heap → Option R) : ev Tryd.prog E34 loopLim Tryd.f34.ntmps kp34 c34_2 [(0, (V.sl t0)), (1, (V.sl t1)), (12, (V.i .i64 t12)), (13, (V.i .i64 t13))] H K = g34_p3 R t0 t1 t12 t13 H (fun H => K .normal [] H) (fun t4 H => K .ret [(4, (V.b t4))] H) := by
  show ev Tryd.prog E34 loopLim Tryd.f34.ntmps kp34 (.block 0 c34_1) [(0, (V.sl t0)), (1, (V.sl t1)), (12, (V.i .i64 t12)), (13, (V.i .i64 t13))] H K = _
  rw [ev_block]
  delta g34_p3
  exact (g34_p2_eq t0 t1 t12 t13 H (kBlock kp34 0 K))
noncomputable def g34_p4 (R : Type) (H : Heap) (kR : Bool → Heap → Option R) : Option R :=
  kR true H
theorem g34_p4_eq {R : Type} (H : Heap) (K : Ex → Fr → Heap → Option R) : ev Tryd.prog E34 loopLim Tryd.f34.ntmps kp34 c34_3 [] H K = g34_p4 R H (fun t4 H => K .ret [(4, (V.b t4))] H) := by kernel_rfl
theorem g34_p4_lin {R S : Type} {k : S → Option R} {H : Heap} {fkR : Bool → Heap → Option R} {gkR : Bool → Heap → Option S} (hkR : ∀ t4 H, fkR t4 H = (gkR t4 H).bind k) : g34_p4 R H fkR = (g34_p4 S H gkR).bind k := by
  delta g34_p4; exact (
    hkR _ _)
noncomputable def g34_p5 (R : Type) (t0 : Sl) (t1 : Sl) (t12 : Int) (t13 : Int) (H : Heap) (kR : Bool → Heap → Option R) : Option R :=
  g34_p3 R t0 t1 t12 t13 H (fun H => g34_p4 R H (fun t4 H => kR t4 H)) (fun t4 H => kR t4 H)
theorem g34_p5_lin {R S : Type} {k : S → Option R} {t0 : Sl} {t1 : Sl} {t12 : Int} {t13 : Int} {H : Heap} {fkR : Bool → Heap → Option R} {gkR : Bool → Heap → Option S} (hkR : ∀ t4 H, fkR t4 H = (gkR t4 H).bind k) : g34_p5 R t0 t1 t12 t13 H fkR = (g34_p5 S t0 t1 t12 t13 H gkR).bind k := by
  exact g34_p3_lin (fun _ => g34_p4_lin (fun _ _ => hkR _ _)) (fun _ _ => hkR _ _)
theorem g34_p5_eq {R : Type} (t0 : Sl) (t1 : Sl) (t12 : Int) (t13 : Int) (H : Heap) (K : Ex → Fr → Heap → Option R) : ev Tryd.prog E34 loopLim Tryd.f34.ntmps kp34 c34_4 [(0, (V.sl t0)), (1, (V.sl t1)), (12, (V.i .i64 t12)), (13, (V.i .i64 t13))] H K = g34_p5 R t0 t1 t12 t13 H (fun t4 H => K .ret [(4, (V.b t4))] H) := by
  show ev Tryd.prog E34 loopLim Tryd.f34.ntmps kp34 (.seq c34_2 c34_3) [(0, (V.sl t0)), (1, (V.sl t1)), (12, (V.i .i64 t12)), (13, (V.i .i64 t13))] H K = _
  rw [ev_seq]
  delta g34_p5
  exact (g34_p3_eq t0 t1 t12 t13 H (kSeq (fun fr H => ev Tryd.prog E34 loopLim Tryd.f34.ntmps kp34 c34_3 fr H K) K)).trans (congr (congrArg (g34_p3 R t0 t1 t12 t13 H) (funext fun H => (kSeq_n _ _ _ _).trans (g34_p4_eq H K))) rfl)
noncomputable def g34_p6 (R : Type) (t0 : Sl) (t1 : Sl) (H : Heap) (kR : Bool → Heap → Option R) : Option R :=
  g34_p0 R t0 t1 H (fun t0 t1 t12 t13 H => g34_p5 R t0 t1 t12 t13 H (fun t4 H => kR t4 H)) (fun t4 H => kR t4 H)
theorem g34_p6_lin {R S : Type} {k : S → Option R} {t0 : Sl} {t1 : Sl} {H : Heap} {fkR : Bool → Heap → Option R} {gkR : Bool → Heap → Option S} (hkR : ∀ t4 H, fkR t4 H = (gkR t4 H).bind k) : g34_p6 R t0 t1 H fkR = (g34_p6 S t0 t1 H gkR).bind k := by
  exact g34_p0_lin (fun _ _ _ _ _ => g34_p5_lin (fun _ _ => hkR _ _)) (fun _ _ => hkR _ _)
theorem g34_p6_eq {R : Type} (t0 : Sl) (t1 : Sl) (H : Heap) (K : Ex → Fr → Heap → Option R) : ev Tryd.prog E34 loopLim Tryd.f34.ntmps kp34 c34_5 [(0, (V.sl t0)), (1, (V.sl t1))] H K = g34_p6 R t0 t1 H (fun t4 H => K .ret [(4, (V.b t4))] H) := by
  show ev Tryd.prog E34 loopLim Tryd.f34.ntmps kp34 (.seq (codeAt [0] b34) (.seq (codeAt [1, 0, 0] b34) (.seq (.cond (.tmp 10) (.seq (codeAt [1, 0, 1, 0, 0] b34) .ret) .skip) (.seq (codeAt [1, 1, 0, 0] b34) c34_4)))) [(0, (V.sl t0)), (1, (V.sl t1))] H K = _
  delta g34_p6
  exact (g34_p0_eq _ t0 t1 H K).trans (congr (congrArg (g34_p0 R t0 t1 H) (funext fun t0 => funext fun t1 => funext fun t12 => funext fun t13 => funext fun H => g34_p5_eq t0 t1 t12 t13 H K)) rfl)
noncomputable def g34_r : T34 := fun R t0 t1 H K =>
  g34_p6 R t0 t1 H (fun t4 H =>
    K t4 H)
theorem g34_r_lin : Lin34 (g34_r) := by
  constructor
  intro R S k t0 t1 H f g h
  exact g34_p6_lin (fun t4 H =>
    h _ _)
theorem g34_fn {R : Type} (t0 : Sl) (t1 : Sl) (H : Heap) (K : V → Heap → Option R) : evFn Tryd.prog E34 loopLim Tryd.f34 kp34 [(V.sl t0), (V.sl t1)] H K = g34_r R t0 t1 H (fun r0 H => K (V.b r0) H) := by
  have h0 : ∀ (t4 : Bool) (H : Heap), kFn Tryd.prog Tryd.f34.results.toList K .ret [(4, (V.b t4))] H =
      K (V.b t4) H := by intros; kernel_rfl
  have e0 := evFn_code2 (P := Tryd.prog) (c := c34_5) (E := E34) (lr := loopLim) (kp := kp34) (fn := Tryd.f34) (args := [(V.sl t0), (V.sl t1)]) H K (by kernel_rfl) (Nat.le_of_ble_eq_true (by kernel_rfl)) (by kernel_rfl)
  have e1 : ev Tryd.prog E34 loopLim Tryd.f34.ntmps kp34 c34_5 (argFr 0 [(V.sl t0), (V.sl t1)]) H (kFn Tryd.prog Tryd.f34.results.toList K) = ev Tryd.prog E34 loopLim Tryd.f34.ntmps kp34 c34_5 [(0, (V.sl t0)), (1, (V.sl t1))] H (kFn Tryd.prog Tryd.f34.results.toList K) := by kernel_rfl
  refine (e0.trans e1).trans ?_
  delta g34_r
  exact (g34_p6_eq t0 t1 H (kFn Tryd.prog Tryd.f34.results.toList K)).trans (congrArg (g34_p6 R t0 t1 H) (funext fun t4 => funext fun H => h0 t4 H))
theorem g34_ok : FunOK Tryd.prog 34 (w34 (g34_r)) := by
  refine (runF_ok (E34_good) mixed lim_ok Tryd.func34 (by kernel_rfl) kp34).of_le fun R args H K r hk => ?_
  unfold w34 at hk
  split at hk
  · exact (g34_fn _ _ H K).trans hk
  · cases hk
def kp27 : Nat → Option (List Nat) := kpOf [(0, [2, 3]), (1, [4]), (300000, [4])]
def E27 (a34 : T34) : FEnv := [(34, w34 a34)]
theorem E27_good {a34 : T34} (oa34 : FunOK Tryd.prog 34 (w34 a34)) (la34 : Lin34 a34) : EnvGood Tryd.prog (E27 a34) := ((EnvGood.nil _).cons oa34 (w34_lin la34))
theorem E27_lin {a34 : T34} (la34 : Lin34 a34) : EnvLin (E27 a34) := by
  intro g F h
  simp only [E27, List.mem_cons, List.not_mem_nil, or_false] at h
  rcases h with h
  · cases h; exact w34_lin la34
noncomputable def b27 : Code := Tryd.f27.body.getD .skip
noncomputable def c27_0 : Code := (.seq (codeAt [0] b27) (.seq (codeAt [1, 0] b27) .ret))
noncomputable def g27_p0 (a34 : T34) (R : Type) (t0_0 : Int) (t0_1 : Int) (t0_2 : Int) (t0_3 : Int) (t0_4 : Int) (t0_5 : Int) (t0_6 : Sl) (t1_0 : Int) (t1_1 : Int) (t1_2 : Int) (t1_3 : Int) (t1_4 : Int) (t1_5 : Int) (t1_6 : Sl) (H : Heap) (kR : Bool → Heap → Option R) : Option R :=
  alo H (.cells [(V.i .u8 t0_0), (V.i .u8 t0_1), (V.i .u8 t0_2), (V.i .u16 t0_3), (V.i .u16 t0_4), (V.i .u8 t0_5), (V.sl t0_6)] 38 false) fun i1 h2 =>
  alo h2 (.cells [(V.i .u8 t1_0), (V.i .u8 t1_1), (V.i .u8 t1_2), (V.i .u16 t1_3), (V.i .u16 t1_4), (V.i .u8 t1_5), (V.sl t1_6)] 38 false) fun i3 h4 =>
  ((h4).ldI .u8 i1 (0 + 0)).bind fun x5 =>
  ((h4).ldI .u8 i3 (0 + 0)).bind fun x6 =>
  sel (x5 == x6) (
    ((h4).ldI .u8 i1 (0 + 1)).bind fun x7 =>
    ((h4).ldI .u8 i3 (0 + 1)).bind fun x8 =>
    sel (x7 == x8) (
      ((h4).ldI .u8 i1 (0 + 2)).bind fun x9 =>
      ((h4).ldI .u8 i3 (0 + 2)).bind fun x10 =>
      sel (x9 == x10) (
        ((h4).ldI .u16 i1 ((0 + 3) + 0)).bind fun x11 =>
        ((h4).ldI .u16 i1 ((0 + 3) + 1)).bind fun x12 =>
        ((h4).ldI .u8 i1 ((0 + 3) + 2)).bind fun x13 =>
        ((h4).ldI .u16 i3 ((0 + 3) + 0)).bind fun x14 =>
        ((h4).ldI .u16 i3 ((0 + 3) + 1)).bind fun x15 =>
        ((h4).ldI .u8 i3 ((0 + 3) + 2)).bind fun x16 =>
        sel ((x11 == x14) && ((x12 == x15) && ((x13 == x16) && true))) (
          ((h4).ldSl i1 (0 + 6)).bind fun x17 =>
          ((h4).ldSl i3 (0 + 6)).bind fun x18 =>
          a34 R x17 x18 h4 fun x19 h20 =>
          kR x19 h20) (
          kR false h4)) (
        kR false h4)) (
      kR false h4)) (
    kR false h4)
theorem g27_p0_eq (a34 : T34) (la34 : Lin34 a34) {R : Type} (t0_0 : Int) (t0_1 : Int) (t0_2 : Int) (t0_3 : Int) (t0_4 : Int) (t0_5 : Int) (t0_6 : Sl) (t1_0 : Int) (t1_1 : Int) (t1_2 : Int) (t1_3 : Int) (t1_4 : Int) (t1_5 : Int) (t1_6 : Sl) (H : Heap) (K : Ex → Fr → Heap → Option R) : ev Tryd.prog (E27 a34) loopLim Tryd.f27.ntmps kp27 c27_0 [(0, (V.agg [(V.i .u8 t0_0), (V.i .u8 t0_1), (V.i .u8 t0_2), (V.i .u16 t0_3), (V.i .u16 t0_4), (V.i .u8 t0_5), (V.sl t0_6)])), (1, (V.agg [(V.i .u8 t1_0), (V.i .u8 t1_1), (V.i .u8 t1_2), (V.i .u16 t1_3), (V.i .u16 t1_4), (V.i .u8 t1_5), (V.sl t1_6)]))] H K = g27_p0 a34 R t0_0 t0_1 t0_2 t0_3 t0_4 t0_5 t0_6 t1_0 t1_1 t1_2 t1_3 t1_4 t1_5 t1_6 H (fun t4 H => K .ret [(4, (V.b t4))] H) := by kernel_rfl
theorem g27_p0_lin {a34 : T34} (la34 : Lin34 a34) {R S : Type} {k : S → Option R} {t0_0 : Int} {t0_1 : Int} {t0_2 : Int} {t0_3 : Int} {t0_4 : Int} {t0_5 : Int} {t0_6 : Sl} {t1_0 : Int} {t1_1 : Int} {t1_2 : Int} {t1_3 : Int} {t1_4 : Int} {t1_5 : Int} {t1_6 : Sl} {H : Heap} {fkR : Bool → Heap → Option R} {gkR : Bool → Heap → Option S} (hkR : ∀ t4 H, fkR t4 H = (gkR t4 H).bind k) : g27_p0 a34 R t0_0 t0_1 t0_2 t0_3 t0_4 t0_5 t0_6 t1_0 t1_1 t1_2 t1_3 t1_4 t1_5 t1_6 H fkR = (g27_p0 a34 S t0_0 t0_1 t0_2 t0_3 t0_4 t0_5 t0_6 t1_0 t1_1 t1_2 t1_3 t1_4 t1_5 t1_6 H gkR).bind k := by
  delta g27_p0; exact (
    alo_lin fun i1 h2 =>
    alo_lin fun i3 h4 =>
    bl fun x5 =>
    bl fun x6 =>
    sl_lin (
      bl fun x7 =>
      bl fun x8 =>
      sl_lin (
        bl fun x9 =>
        bl fun x10 =>
        sl_lin (
          bl fun x11 =>
          bl fun x12 =>
          bl fun x13 =>
          bl fun x14 =>
          bl fun x15 =>
          bl fun x16 =>
          sl_lin (
            bl fun x17 =>
            bl fun x18 =>
            la34.l fun x19 h20 =>
            hkR _ _) (
            hkR _ _)) (
          hkR _ _)) (
        hkR _ _)) (
      hkR _ _))
noncomputable def g27_r (a34 : T34) : T27 := fun R t0_0 t0_1 t0_2 t0_3 t0_4 t0_5 t0_6 t1_0 t1_1 t1_2 t1_3 t1_4 t1_5 t1_6 H K =>
  g27_p0 a34 R t0_0 t0_1 t0_2 t0_3 t0_4 t0_5 t0_6 t1_0 t1_1 t1_2 t1_3 t1_4 t1_5 t1_6 H (fun t4 H =>
    K t4 H)
theorem g27_r_lin {a34 : T34} (la34 : Lin34 a34) : Lin27 (g27_r a34) := by
  constructor
  intro R S k t0_0 t0_1 t0_2 t0_3 t0_4 t0_5 t0_6 t1_0 t1_1 t1_2 t1_3 t1_4 t1_5 t1_6 H f g h
  exact g27_p0_lin la34 (fun t4 H =>
    h _ _)
theorem g27_fn (a34 : T34) (la34 : Lin34 a34) {R : Type} (t0_0 : Int) (t0_1 : Int) (t0_2 : Int) (t0_3 : Int) (t0_4 : Int) (t0_5 : Int) (t0_6 : Sl) (t1_0 : Int) (t1_1 : Int) (t1_2 : Int) (t1_3 : Int) (t1_4 : Int) (t1_5 : Int) (t1_6 : Sl) (H : Heap) (K : V → Heap → Option R) : evFn Tryd.prog (E27 a34) loopLim Tryd.f27 kp27 [(V.agg [(V.i .u8 t0_0), (V.i .u8 t0_1), (V.i .u8 t0_2), (V.i .u16 t0_3), (V.i .u16 t0_4), (V.i .u8 t0_5), (V.sl t0_6)]), (V.agg [(V.i .u8 t1_0), (V.i .u8 t1_1), (V.i .u8 t1_2), (V.i .u16 t1_3), (V.i .u16 t1_4), (V.i .u8 t1_5), (V.sl t1_6)])] H K = g27_r a34 R t0_0 t0_1 t0_2 t0_3 t0_4 t0_5 t0_6 t1_0 t1_1 t1_2 t1_3 t1_4 t1_5 t1_6 H (fun r0 H => K (V.b r0) H) := by
  have h0 : ∀ (t4 : Bool) (H : Heap), kFn Tryd.prog Tryd.f27.results.toList K .ret [(4, (V.b t4))] H =
      K (V.b t4) H := by intros; kernel_rfl
  have e0 := evFn_code2 (P := Tryd.prog) (c := c27_0) (E := (E27 a34)) (lr := loopLim) (kp := kp27) (fn := Tryd.f27) (args := [(V.agg [(V.i .u8 t0_0), (V.i .u8 t0_1), (V.i .u8 t0_2), (V.i .u16 t0_3), (V.i .u16 t0_4), (V.i .u8 t0_5), (V.sl t0_6)]), (V.agg [(V.i .u8 t1_0), (V.i .u8 t1_1), (V.i .u8 t1_2), (V.i .u16 t1_3), (V.i .u16 t1_4), (V.i .u8 t1_5), (V.sl t1_6)])]) H K (by kernel_rfl) (Nat.le_of_ble_eq_true (by kernel_rfl)) (by kernel_rfl)
  have e1 : ev Tryd.prog (E27 a34) loopLim Tryd.f27.ntmps kp27 c27_0 (argFr 0 [(V.agg [(V.i .u8 t0_0), (V.i .u8 t0_1), (V.i .u8 t0_2), (V.i .u16 t0_3), (V.i .u16 t0_4), (V.i .u8 t0_5), (V.sl t0_6)]), (V.agg [(V.i .u8 t1_0), (V.i .u8 t1_1), (V.i .u8 t1_2), (V.i .u16 t1_3), (V.i .u16 t1_4), (V.i .u8 t1_5), (V.sl t1_6)])]) H (kFn Tryd.prog Tryd.f27.results.toList K) = ev Tryd.prog (E27 a34) loopLim Tryd.f27.ntmps kp27 c27_0 [(0, (V.agg [(V.i .u8 t0_0), (V.i .u8 t0_1), (V.i .u8 t0_2), (V.i .u16 t0_3), (V.i .u16 t0_4), (V.i .u8 t0_5), (V.sl t0_6)])), (1, (V.agg [(V.i .u8 t1_0), (V.i .u8 t1_1), (V.i .u8 t1_2), (V.i .u16 t1_3), (V.i .u16 t1_4), (V.i .u8 t1_5), (V.sl t1_6)]))] H (kFn Tryd.prog Tryd.f27.results.toList K) := by kernel_rfl
  refine (e0.trans e1).trans ?_
  delta g27_r
  exact (g27_p0_eq a34 la34 t0_0 t0_1 t0_2 t0_3 t0_4 t0_5 t0_6 t1_0 t1_1 t1_2 t1_3 t1_4 t1_5 t1_6 H (kFn Tryd.prog Tryd.f27.results.toList K)).trans (congrArg (g27_p0 a34 R t0_0 t0_1 t0_2 t0_3 t0_4 t0_5 t0_6 t1_0 t1_1 t1_2 t1_3 t1_4 t1_5 t1_6 H) (funext fun t4 => funext fun H => h0 t4 H))
theorem g27_ok {a34 : T34} (oa34 : FunOK Tryd.prog 34 (w34 a34)) (la34 : Lin34 a34) : FunOK Tryd.prog 27 (w27 (g27_r a34)) := by
  refine (runF_ok (E27_good oa34 la34) mixed lim_ok Tryd.func27 (by kernel_rfl) kp27).of_le fun R args H K r hk => ?_
  unfold w27 at hk
  split at hk
  · exact (g27_fn a34 la34 _ _ _ _ _ _ _ _ _ _ _ _ _ _ H K).trans hk
  · cases hk
end Go.Proofs.YtgdkkpjmjnknoaaDoor

