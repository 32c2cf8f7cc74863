/- Printed: functions as the machine runs them. -/
import Derived.Test.YtgdkkpjmjnknoaaDoorGT
namespace Go.Proofs.YtgdkkpjmjnknoaaDoor
open Go AM Go.RowKit
set_option linter.unusedVariables false
def kp3 : Nat → Option (List Nat) := kpOf [(0, [0]), (1, [0, 3]), (2, [0, 3, 9]), (3, [2]), (4, [0, 3, 4, 5]), (5, [2]), (300000, [2]), (400009, [0, 3])]
def E3 (a11 : T11) (a12 : T12) (a13 : T13) (a14 : T14) : FEnv := [(11, w11 a11), (12, w12 a12), (13, w13 a13), (14, w14 a14)]
theorem E3_good {a11 : T11} {a12 : T12} {a13 : T13} {a14 : T14} (oa11 : FunOK Tryd.prog 11 (w11 a11)) (oa12 : FunOK Tryd.prog 12 (w12 a12)) (oa13 : FunOK Tryd.prog 13 (w13 a13)) (oa14 : FunOK Tryd.prog 14 (w14 a14)) (la11 : Lin11 a11) (la12 : Lin12 a12) (la13 : Lin13 a13) (la14 : Lin14 a14) : EnvGood Tryd.prog (E3 a11 a12 a13 a14) := (((((EnvGood.nil _).cons oa14 (w14_lin la14)).cons oa13 (w13_lin la13)).cons oa12 (w12_lin la12)).cons oa11 (w11_lin la11))
theorem E3_lin {a11 : T11} {a12 : T12} {a13 : T13} {a14 : T14} (la11 : Lin11 a11) (la12 : Lin12 a12) (la13 : Lin13 a13) (la14 : Lin14 a14) : EnvLin (E3 a11 a12 a13 a14) := by
  intro g F h
  simp only [E3, List.mem_cons, List.not_mem_nil, or_false] at h
  rcases h with h | h | h | h
  · cases h; exact w11_lin la11
  · cases h; exact w12_lin la12
  · cases h; exact w13_lin la13
  · cases h; exact w14_lin la14
noncomputable def b3 : Code := Tryd.f3.body.getD .skip
noncomputable def c3_0 : Code := (.seq (codeAt [0] b3) (.seq (codeAt [1, 0] b3) (.seq (codeAt [1, 1, 0, 0] b3) (.seq (.cond (.tmp 9) (.seq (codeAt [1, 1, 0, 1, 0, 0] b3) .ret) .skip) (.seq (codeAt [1, 1, 1, 0] b3) (.seq (codeAt [1, 1, 1, 1, 0] b3) .ret))))))
noncomputable def g3_p0 (a11 : T11) (a12 : T12) (a13 : T13) (a14 : T14) (R : Type) (t0 : Int) (H : Heap) (kR : Bool → Heap → Option R) : Option R :=
  a11 R t0 H fun x1 h2 =>
  sel (decide (t0 > (16383 : Int))) (
    sel (strEq x1 str0) (
      a12 R h2 fun x3 h4 =>
      kR x3 h4) (
      kR false h2)) (
    a13 R x1 h2 fun x5 x6 h7 =>
    a14 R t0 h7 fun x8 h9 =>
    sel (strEq x1 x8) (
      sel (x6 == (0 : Int)) (
        sel (x5 == t0) (
          a12 R h9 fun x10 h11 =>
          kR x10 h11) (
          kR false h9)) (
        kR false h9)) (
      kR false h9))
theorem g3_p0_eq (a11 : T11) (a12 : T12) (a13 : T13) (a14 : T14) (la11 : Lin11 a11) (la12 : Lin12 a12) (la13 : Lin13 a13) (la14 : Lin14 a14) {R : Type} (t0 : Int) (H : Heap) (K : Ex → Fr → Heap → Option R) : ev Tryd.prog (E3 a11 a12 a13 a14) loopLim Tryd.f3.ntmps kp3 c3_0 [(0, (V.i .u16 t0))] H K = g3_p0 a11 a12 a13 a14 R t0 H (fun t2 H => K .ret [(2, (V.b t2))] H) := by kernel_rfl
theorem g3_p0_lin {a11 : T11} {a12 : T12} {a13 : T13} {a14 : T14} (la11 : Lin11 a11) (la12 : Lin12 a12) (la13 : Lin13 a13) (la14 : Lin14 a14) {R S : Type} {k : S → Option R} {t0 : Int} {H : Heap} {fkR : Bool → Heap → Option R} {gkR : Bool → Heap → Option S} (hkR : ∀ t2 H, fkR t2 H = (gkR t2 H).bind k) : g3_p0 a11 a12 a13 a14 R t0 H fkR = (g3_p0 a11 a12 a13 a14 S t0 H gkR).bind k := by
  delta g3_p0; exact (
    la11.l fun x1 h2 =>
    sl_lin (
      sl_lin (
        la12.l fun x3 h4 =>
        hkR _ _) (
        hkR _ _)) (
      la13.l fun x5 x6 h7 =>
      la14.l fun x8 h9 =>
      sl_lin (
        sl_lin (
          sl_lin (
            la12.l fun x10 h11 =>
            hkR _ _) (
            hkR _ _)) (
          hkR _ _)) (
        hkR _ _)))
noncomputable def g3_r (a11 : T11) (a12 : T12) (a13 : T13) (a14 : T14) : T3 := fun R t0 H K =>
  g3_p0 a11 a12 a13 a14 R t0 H (fun t2 H =>
    K t2 H)
theorem g3_r_lin {a11 : T11} {a12 : T12} {a13 : T13} {a14 : T14} (la11 : Lin11 a11) (la12 : Lin12 a12) (la13 : Lin13 a13) (la14 : Lin14 a14) : Lin3 (g3_r a11 a12 a13 a14) := by
  constructor
  intro R S k t0 H f g h
  exact g3_p0_lin la11 la12 la13 la14 (fun t2 H =>
    h _ _)
theorem g3_fn (a11 : T11) (a12 : T12) (a13 : T13) (a14 : T14) (la11 : Lin11 a11) (la12 : Lin12 a12) (la13 : Lin13 a13) (la14 : Lin14 a14) {R : Type} (t0 : Int) (H : Heap) (K : V → Heap → Option R) : evFn Tryd.prog (E3 a11 a12 a13 a14) loopLim Tryd.f3 kp3 [(V.i .u16 t0)] H K = g3_r a11 a12 a13 a14 R t0 H (fun r0 H => K (V.b r0) H) := by
  have h0 : ∀ (t2 : Bool) (H : Heap), kFn Tryd.prog Tryd.f3.results.toList K .ret [(2, (V.b t2))] H =
      K (V.b t2) H := by intros; kernel_rfl
  have e0 := evFn_code2 (P := Tryd.prog) (c := c3_0) (E := (E3 a11 a12 a13 a14)) (lr := loopLim) (kp := kp3) (fn := Tryd.f3) (args := [(V.i .u16 t0)]) H K (by kernel_rfl) (Nat.le_of_ble_eq_true (by kernel_rfl)) (by kernel_rfl)
  have e1 : ev Tryd.prog (E3 a11 a12 a13 a14) loopLim Tryd.f3.ntmps kp3 c3_0 (argFr 0 [(V.i .u16 t0)]) H (kFn Tryd.prog Tryd.f3.results.toList K) = ev Tryd.prog (E3 a11 a12 a13 a14) loopLim Tryd.f3.ntmps kp3 c3_0 [(0, (V.i .u16 t0))] H (kFn Tryd.prog Tryd.f3.results.toList K) := by kernel_rfl
  refine (e0.trans e1).trans ?_
  delta g3_r
  exact (g3_p0_eq a11 a12 a13 a14 la11 la12 la13 la14 t0 H (kFn Tryd.prog Tryd.f3.results.toList K)).trans (congrArg (g3_p0 a11 a12 a13 a14 R t0 H) (funext fun t2 => funext fun H => h0 t2 H))
theorem g3_ok {a11 : T11} {a12 : T12} {a13 : T13} {a14 : T14} (oa11 : FunOK Tryd.prog 11 (w11 a11)) (oa12 : FunOK Tryd.prog 12 (w12 a12)) (oa13 : FunOK Tryd.prog 13 (w13 a13)) (oa14 : FunOK Tryd.prog 14 (w14 a14)) (la11 : Lin11 a11) (la12 : Lin12 a12) (la13 : Lin13 a13) (la14 : Lin14 a14) : FunOK Tryd.prog 3 (w3 (g3_r a11 a12 a13 a14)) := by
  refine (runF_ok (E3_good oa11 oa12 oa13 oa14 la11 la12 la13 la14) mixed lim_ok Tryd.func3 (by kernel_rfl) kp3).of_le fun R args H K r hk => ?_
  unfold w3 at hk
  split at hk
  · exact (g3_fn a11 a12 a13 a14 la11 la12 la13 la14 _ H K).trans hk
  · cases hk
def kp16 : Nat → Option (List Nat) := kpOf [(0, [0]), (1, [0, 22]), (2, [2]), (3, [0, 3]), (4, [0, 3, 4]), (5, [0, 3, 4, 26]), (6, [0, 3, 4]), (7, [0, 3, 4, 38]), (8, [2]), (9, [0, 3, 4]), (10, [2]), (100000, [3]), (100001, [0, 3, 4]), (200000, [0, 3, 4]), (200001, [0, 3, 4]), (300000, [2]), (400022, [0]), (400026, [0, 3, 4]), (400038, [0, 3, 4])]
def E16 : FEnv := []
theorem E16_good : EnvGood Tryd.prog E16 := (EnvGood.nil _)
theorem E16_lin : EnvLin E16 := fun g F h => by cases h
noncomputable def b16 : Code := Tryd.f16.body.getD .skip
noncomputable def c16_0 : Code := (.seq (codeAt [1, 1, 1, 0, 1, 0, 0, 0, 0] b16) (.seq (.cond (.tmp 26) .skip (.exit 0)) (.seq (.block 1 (.seq (codeAt [1, 1, 1, 0, 1, 0, 0, 1, 0, 0, 0, 0] b16) (.seq (.cond (.tmp 38) (.seq (codeAt [1, 1, 1, 0, 1, 0, 0, 1, 0, 0, 0, 1, 0, 0] b16) .ret) .skip) (codeAt [1, 1, 1, 0, 1, 0, 0, 1, 0, 0, 1] b16)))) (codeAt [1, 1, 1, 0, 1, 0, 0, 1, 1] b16))))
noncomputable def c16_1 : Code := (.loop c16_0)
noncomputable def c16_2 : Code := (.block 0 c16_1)
noncomputable def c16_3 : Code := (.seq (codeAt [1, 1, 1, 1, 0] b16) .ret)
noncomputable def c16_4 : Code := (.seq c16_2 c16_3)
noncomputable def c16_5 : Code := (.seq (.cond (.tmp 22) (.seq (codeAt [1, 0, 1, 0, 0] b16) .ret) .skip) (.seq (codeAt [1, 1, 0] b16) (.seq (codeAt [1, 1, 1, 0, 0] b16) c16_4)))
noncomputable def c16_6 : Code := (.seq (codeAt [0] b16) (.seq (codeAt [1, 0, 0] b16) c16_5))
noncomputable def g16_p0 (R : Type) (t0 : ByteArray) (H : Heap) (kN : ByteArray → Bool → Heap → Option R) : Option R :=
  sel (decide (((t0.size : Nat) : Int) < (1 : Int))) (
    kN t0 true H) (
    sel (decide (((t0.size : Nat) : Int) > (3 : Int))) (
      kN t0 true H) (
      sel (decide (((t0.size : Nat) : Int) > (1 : Int))) (
        if 0 ≤ (0 : Int) ∧ (0 : Int) < ((t0.size : Nat) : Int) then (
          kN t0 ((btAt t0 (0 : Int)) == (48 : Int)) H)
        else (
          none)) (
        kN t0 false H)))
theorem g16_p0_eq {R : Type} (c2 : Code) (t0 : ByteArray) (H : Heap) (K : Ex → Fr → Heap → Option R) : ev Tryd.prog E16 loopLim Tryd.f16.ntmps kp16 (.seq (codeAt [0] b16) (.seq (codeAt [1, 0, 0] b16) c2)) [(0, (V.s t0))] H K = g16_p0 R t0 H (fun t0 t22 H => ev Tryd.prog E16 loopLim Tryd.f16.ntmps kp16 c2 [(0, (V.s t0)), (22, (V.b t22))] H K) := by kernel_rfl
theorem g16_p0_lin {R S : Type} {k : S → Option R} {t0 : ByteArray} {H : Heap} {fkN : ByteArray → Bool → Heap → Option R} {gkN : ByteArray → Bool → Heap → Option S} (hkN : ∀ t0 t22 H, fkN t0 t22 H = (gkN t0 t22 H).bind k) : g16_p0 R t0 H fkN = (g16_p0 S t0 H gkN).bind k := by
  delta g16_p0; exact (
    sl_lin (
      hkN _ _ _) (
      sl_lin (
        hkN _ _ _) (
        sl_lin (
          il (
            hkN _ _ _) (
            rfl)) (
          hkN _ _ _))))
noncomputable def g16_p1 (R : Type) (t0 : ByteArray) (t22 : Bool) (H : Heap) (kN : ByteArray → Int → Int → Heap → Option R) (kR : Int → Heap → Option R) : Option R :=
  sel t22 (
    kR (-1 : Int) H) (
    kN t0 (0 : Int) (0 : Int) H)
theorem g16_p1_eq {R : Type} (c2 : Code) (t0 : ByteArray) (t22 : Bool) (H : Heap) (K : Ex → Fr → Heap → Option R) : ev Tryd.prog E16 loopLim Tryd.f16.ntmps kp16 (.seq (.cond (.tmp 22) (.seq (codeAt [1, 0, 1, 0, 0] b16) .ret) .skip) (.seq (codeAt [1, 1, 0] b16) (.seq (codeAt [1, 1, 1, 0, 0] b16) c2))) [(0, (V.s t0)), (22, (V.b t22))] H K = g16_p1 R t0 t22 H (fun t0 t3 t4 H => ev Tryd.prog E16 loopLim Tryd.f16.ntmps kp16 c2 [(0, (V.s t0)), (3, (V.i .i64 t3)), (4, (V.i .i64 t4))] H K) (fun t2 H => K .ret [(2, (V.i .i64 t2))] H) := by kernel_rfl
theorem g16_p1_lin {R S : Type} {k : S → Option R} {t0 : ByteArray} {t22 : Bool} {H : Heap} {fkN : ByteArray → Int → Int → Heap → Option R} {gkN : ByteArray → Int → Int → Heap → Option S} {fkR : Int → Heap → Option R} {gkR : Int → Heap → Option S} (hkN : ∀ t0 t3 t4 H, fkN t0 t3 t4 H = (gkN t0 t3 t4 H).bind k) (hkR : ∀ t2 H, fkR t2 H = (gkR t2 H).bind k) : g16_p1 R t0 t22 H fkN fkR = (g16_p1 S t0 t22 H gkN gkR).bind k := by
  delta g16_p1; exact (
    sl_lin (
      hkR _ _) (
      hkN _ _ _ _))
noncomputable def g16_p2 (R : Type) (t0 : ByteArray) (t3 : Int) (t4 : Int) (H : Heap) (kN : ByteArray → Int → Int → Heap → Option R) (kE0 : Int → Heap → Option R) (kR : Int → Heap → Option R) : Option R :=
  sel (decide (t4 < ((t0.size : Nat) : Int))) (
    if 0 ≤ t4 ∧ t4 < ((t0.size : Nat) : Int) then (
      sel (decide ((btAt t0 t4) < (48 : Int))) (
        kR (-1 : Int) H) (
        if 0 ≤ t4 ∧ t4 < ((t0.size : Nat) : Int) then (
          sel (decide ((btAt t0 t4) > (57 : Int))) (
            kR (-1 : Int) H) (
            if 0 ≤ t4 ∧ t4 < ((t0.size : Nat) : Int) then (
              kN t0 (IntKind.wrap .i64 ((IntKind.wrap .i64 ((IntKind.wrap .i64 ((10 : Int) * t3)) + (IntKind.wrap .i64 (btAt t0 t4)))) - (48 : Int))) (IntKind.wrap .i64 (t4 + (1 : Int))) H)
            else (
              none)))
        else (
          none)))
    else (
      none)) (
    kE0 t3 H)
theorem g16_p2_eq {R : Type} (t0 : ByteArray) (t3 : Int) (t4 : Int) (H : Heap) (K : Ex → Fr → Heap → Option R) : ev Tryd.prog E16 loopLim Tryd.f16.ntmps kp16 c16_0 [(0, (V.s t0)), (3, (V.i .i64 t3)), (4, (V.i .i64 t4))] H K = g16_p2 R t0 t3 t4 H (fun t0 t3 t4 H => K .normal [(0, (V.s t0)), (3, (V.i .i64 t3)), (4, (V.i .i64 t4))] H) (fun t3 H => K (.exit 0) [(3, (V.i .i64 t3))] H) (fun t2 H => K .ret [(2, (V.i .i64 t2))] H) := by kernel_rfl
theorem g16_p2_lin {R S : Type} {k : S → Option R} {t0 : ByteArray} {t3 : Int} {t4 : Int} {H : Heap} {fkN : ByteArray → Int → Int → Heap → Option R} {gkN : ByteArray → Int → Int → Heap → Option S} {fkE0 : Int → Heap → Option R} {gkE0 : Int → Heap → Option S} {fkR : Int → Heap → Option R} {gkR : Int → Heap → Option S} (hkN : ∀ t0 t3 t4 H, fkN t0 t3 t4 H = (gkN t0 t3 t4 H).bind k) (hkE0 : ∀ t3 H, fkE0 t3 H = (gkE0 t3 H).bind k) (hkR : ∀ t2 H, fkR t2 H = (gkR t2 H).bind k) : g16_p2 R t0 t3 t4 H fkN fkE0 fkR = (g16_p2 S t0 t3 t4 H gkN gkE0 gkR).bind k := by
  delta g16_p2; exact (
    sl_lin (
      il (
        sl_lin (
          hkR _ _) (
          il (
            sl_lin (
              hkR _ _) (
              il (
                hkN _ _ _ _) (
                rfl))) (
            rfl))) (
        rfl)) (
      hkE0 _ _))
abbrev g16_p3_S := ByteArray × Int × Int
abbrev g16_p3_O := Sum (Int) (Int)
def g16_p3_es (s : g16_p3_S) : Fr := [(0, (V.s s.1)), (3, (V.i .i64 s.2.1)), (4, (V.i .i64 s.2.2))]
def g16_p3_er : g16_p3_O → Ex × Fr
  | (.inl r) => ((.exit 0), [(3, (V.i .i64 r))])
  | (.inr r) => (.ret, [(2, (V.i .i64 r))])
noncomputable def g16_p3_b (s : g16_p3_S) (H : Heap) : Option (Rd g16_p3_S g16_p3_O × Heap) :=
  g16_p2 _ s.1 s.2.1 s.2.2 H (fun t0 t3 t4 H => some (.go (t0, t3, t4), H)) (fun t3 H => some (.up (.inl t3), H)) (fun t2 H => some (.up (.inr t2), H))
noncomputable def g16_p3 (R : Type) (t0 : ByteArray) (t3 : Int) (t4 : Int) (H : Heap) (kE0 : Int → Heap → Option R) (kR : Int → Heap → Option R) : Option R :=
  (tlim (g16_p3_b) (t0, t3, t4) H).bind fun p => cas p.1 (fun r => kE0 r p.2) (fun r0 => kR r0 p.2)
theorem g16_p3_lin {R S : Type} {k : S → Option R} {t0 : ByteArray} {t3 : Int} {t4 : Int} {H : Heap} {fkE0 : Int → Heap → Option R} {gkE0 : Int → Heap → Option S} {fkR : Int → Heap → Option R} {gkR : Int → Heap → Option S} (hkE0 : ∀ t3 H, fkE0 t3 H = (gkE0 t3 H).bind k) (hkR : ∀ t2 H, fkR t2 H = (gkR t2 H).bind k) : g16_p3 R t0 t3 t4 H fkE0 fkR = (g16_p3 S t0 t3 t4 H gkE0 gkR).bind k := by
  exact bl fun p => cas_lin (fun _ => hkE0 _ _) (fun _ => hkR _ _)
theorem g16_p3_eq {R : Type} (t0 : ByteArray) (t3 : Int) (t4 : Int) (H : Heap) (K : Ex → Fr → Heap → Option R) : ev Tryd.prog E16 loopLim Tryd.f16.ntmps kp16 c16_1 [(0, (V.s t0)), (3, (V.i .i64 t3)), (4, (V.i .i64 t4))] H K = g16_p3 R t0 t3 t4 H (fun t3 H => K (.exit 0) [(3, (V.i .i64 t3))] H) (fun t2 H => K .ret [(2, (V.i .i64 t2))] H) := by
  show ev Tryd.prog E16 loopLim Tryd.f16.ntmps kp16 (.loop c16_0) [(0, (V.s t0)), (3, (V.i .i64 t3)), (4, (V.i .i64 t4))] H K = _
  delta g16_p3
  refine (ev_tlim (b := g16_p3_b) (es := g16_p3_es) (er := g16_p3_er) (by rintro (r | r) <;> exact nofun) (fun s H => ?_) (t0, t3, t4) H K).trans (bc fun p => by rcases p with ⟨(r | r), H⟩ <;> rfl)
  exact (g16_p2_eq s.1 s.2.1 s.2.2 H ret3).trans (g16_p2_lin (fun _ _ _ _ => rfl) (fun _ _ => rfl) (fun _ _ => rfl))
noncomputable def g16_p4 (R : Type) (t0 : ByteArray) (t3 : Int) (t4 : Int) (H : Heap) (kN : Int → Heap → Option R) (kR : Int → Heap → Option R) : Option R :=
  g16_p3 R t0 t3 t4 H (fun t3 H => kN t3 H) (fun t2 H => kR t2 H)
theorem g16_p4_lin {R S : Type} {k : S → Option R} {t0 : ByteArray} {t3 : Int} {t4 : Int} {H : Heap} {fkN : Int → Heap → Option R} {gkN : Int → Heap → Option S} {fkR : Int → Heap → Option R} {gkR : Int → Heap → Option S} (hkN : ∀ t3 H, fkN t3 H = (gkN t3 H).bind k) (hkR : ∀ t2 H, fkR t2 H = (gkR t2 H).bind k) : g16_p4 R t0 t3 t4 H fkN fkR = (g16_p4 S t0 t3 t4 H gkN gkR).bind k := by
  exact g16_p3_lin (fun _ _ => hkN _ _) (fun _ _ => hkR _ _)
theorem g16_p4_eq {R : Type} (t0 : ByteArray) (t3 : Int) (t4 : Int) (H : Heap) (K : Ex → Fr → Heap → Option R) : ev Tryd.prog E16 loopLim Tryd.f16.ntmps kp16 c16_2 [(0, (V.s t0)), (3, (V.i .i64 t3)), (4, (V.i .i64 t4))] H K = g16_p4 R t0 t3 t4 H (fun t3 H => K .normal [(3, (V.i .i64 t3))] H) (fun t2 H => K .ret [(2, (V.i .i64 t2))] H) := by
  show ev Tryd.prog E16 loopLim Tryd.f16.ntmps kp16 (.block 0 c16_1) [(0, (V.s t0)), (3, (V.i .i64 t3)), (4, (V.i .i64 t4))] H K = _
  rw [ev_block]
  delta g16_p4
  exact (g16_p3_eq t0 t3 t4 H (kBlock kp16 0 K))
noncomputable def g16_p5 (R : Type) (t3 : Int) (H : Heap) (kR : Int → Heap → Option R) : Option R :=
  kR t3 H
theorem g16_p5_eq {R : Type} (t3 : Int) (H : Heap) (K : Ex → Fr → Heap → Option R) : ev Tryd.prog E16 loopLim Tryd.f16.ntmps kp16 c16_3 [(3, (V.i .i64 t3))] H K = g16_p5 R t3 H (fun t2 H => K .ret [(2, (V.i .i64 t2))] H) := by kernel_rfl
theorem g16_p5_lin {R S : Type} {k : S → Option R} {t3 : Int} {H : Heap} {fkR : Int → Heap → Option R} {gkR : Int → Heap → Option S} (hkR : ∀ t2 H, fkR t2 H = (gkR t2 H).bind k) : g16_p5 R t3 H fkR = (g16_p5 S t3 H gkR).bind k := by
  delta g16_p5; exact (
    hkR _ _)
noncomputable def g16_p6 (R : Type) (t0 : ByteArray) (t3 : Int) (t4 : Int) (H : Heap) (kR : Int → Heap → Option R) : Option R :=
  g16_p4 R t0 t3 t4 H (fun t3 H => g16_p5 R t3 H (fun t2 H => kR t2 H)) (fun t2 H => kR t2 H)
theorem g16_p6_lin {R S : Type} {k : S → Option R} {t0 : ByteArray} {t3 : Int} {t4 : Int} {H : Heap} {fkR : Int → Heap → Option R} {gkR : Int → Heap → Option S} (hkR : ∀ t2 H, fkR t2 H = (gkR t2 H).bind k) : g16_p6 R t0 t3 t4 H fkR = (g16_p6 S t0 t3 t4 H gkR).bind k := by
  exact g16_p4_lin (fun _ _ => g16_p5_lin (fun _ _ => hkR _ _)) (fun _ _ => hkR _ _)
theorem g16_p6_eq {R : Type} (t0 : ByteArray) (t3 : Int) (t4 : Int) (H : Heap) (K : Ex → Fr → Heap → Option R) : ev Tryd.prog E16 loopLim Tryd.f16.ntmps kp16 c16_4 [(0, (V.s t0)), (3, (V.i .i64 t3)), (4, (V.i .i64 t4))] H K = g16_p6 R t0 t3 t4 H (fun t2 H => K .ret [(2, (V.i .i64 t2))] H) := by
  show ev Tryd.prog E16 loopLim Tryd.f16.ntmps kp16 (.seq c16_2 c16_3) [(0, (V.s t0)), (3, (V.i .i64 t3)), (4, (V.i .i64 t4))] H K = _
  rw [ev_seq]
  delta g16_p6
  exact (g16_p4_eq t0 t3 t4 H (kSeq (fun fr H => ev Tryd.prog E16 loopLim Tryd.f16.ntmps kp16 c16_3 fr H K) K)).trans (congr (congrArg (g16_p4 R t0 t3 t4 H) (funext fun t3 => funext fun H => (kSeq_n _ _ _ _).trans (g16_p5_eq t3 H K))) rfl)
noncomputable def g16_p7 (R : Type) (t0 : ByteArray) (t22 : Bool) (H : Heap) (kR : Int → Heap → Option R) : Option R :=
  g16_p1 R t0 t22 H (fun t0 t3 t4 H => g16_p6 R t0 t3 t4 H (fun t2 H => kR t2 H)) (fun t2 H => kR t2 H)
theorem g16_p7_lin {R S : Type} {k : S → Option R} {t0 : ByteArray} {t22 : Bool} {H : Heap} {fkR : Int → Heap → Option R} {gkR : Int → Heap → Option S} (hkR : ∀ t2 H, fkR t2 H = (gkR t2 H).bind k) : g16_p7 R t0 t22 H fkR = (g16_p7 S t0 t22 H gkR).bind k := by
  exact g16_p1_lin (fun _ _ _ _ => g16_p6_lin (fun _ _ => hkR _ _)) (fun _ _ => hkR _ _)
theorem g16_p7_eq {R : Type} (t0 : ByteArray) (t22 : Bool) (H : Heap) (K : Ex → Fr → Heap → Option R) : ev Tryd.prog E16 loopLim Tryd.f16.ntmps kp16 c16_5 [(0, (V.s t0)), (22, (V.b t22))] H K = g16_p7 R t0 t22 H (fun t2 H => K .ret [(2, (V.i .i64 t2))] H) := by
  show ev Tryd.prog E16 loopLim Tryd.f16.ntmps kp16 (.seq (.cond (.tmp 22) (.seq (codeAt [1, 0, 1, 0, 0] b16) .ret) .skip) (.seq (codeAt [1, 1, 0] b16) (.seq (codeAt [1, 1, 1, 0, 0] b16) c16_4))) [(0, (V.s t0)), (22, (V.b t22))] H K = _
  delta g16_p7
  exact (g16_p1_eq _ t0 t22 H K).trans (congr (congrArg (g16_p1 R t0 t22 H) (funext fun t0 => funext fun t3 => funext fun t4 => funext fun H => g16_p6_eq t0 t3 t4 H K)) rfl)
noncomputable def g16_p8 (R : Type) (t0 : ByteArray) (H : Heap) (kR : Int → Heap → Option R) : Option R :=
  g16_p0 R t0 H (fun t0 t22 H => g16_p7 R t0 t22 H (fun t2 H => kR t2 H))
theorem g16_p8_lin {R S : Type} {k : S → Option R} {t0 : ByteArray} {H : Heap} {fkR : Int → Heap → Option R} {gkR : Int → Heap → Option S} (hkR : ∀ t2 H, fkR t2 H = (gkR t2 H).bind k) : g16_p8 R t0 H fkR = (g16_p8 S t0 H gkR).bind k := by
  exact g16_p0_lin (fun _ _ _ => g16_p7_lin (fun _ _ => hkR _ _))
theorem g16_p8_eq {R : Type} (t0 : ByteArray) (H : Heap) (K : Ex → Fr → Heap → Option R) : ev Tryd.prog E16 loopLim Tryd.f16.ntmps kp16 c16_6 [(0, (V.s t0))] H K = g16_p8 R t0 H (fun t2 H => K .ret [(2, (V.i .i64 t2))] H) := by
  show ev Tryd.prog E16 loopLim Tryd.f16.ntmps kp16 (.seq (codeAt [0] b16) (.seq (codeAt [1, 0, 0] b16) c16_5)) [(0, (V.s t0))] H K = _
  delta g16_p8
  exact (g16_p0_eq _ t0 H K).trans (congrArg (g16_p0 R t0 H) (funext fun t0 => funext fun t22 => funext fun H => g16_p7_eq t0 t22 H K))
noncomputable def g16_r : T16 := fun R t0 H K =>
  g16_p8 R t0 H (fun t2 H =>
    K t2 H)
theorem g16_r_lin : Lin16 (g16_r) := by
  constructor
  intro R S k t0 H f g h
  exact g16_p8_lin (fun t2 H =>
    h _ _)
theorem g16_fn {R : Type} (t0 : ByteArray) (H : Heap) (K : V → Heap → Option R) : evFn Tryd.prog E16 loopLim Tryd.f16 kp16 [(V.s t0)] H K = g16_r R t0 H (fun r0 H => K (V.i .i64 r0) H) := by
  have h0 : ∀ (t2 : Int) (H : Heap), kFn Tryd.prog Tryd.f16.results.toList K .ret [(2, (V.i .i64 t2))] H =
      K (V.i .i64 t2) H := by intros; kernel_rfl
  have e0 := evFn_code2 (P := Tryd.prog) (c := c16_6) (E := E16) (lr := loopLim) (kp := kp16) (fn := Tryd.f16) (args := [(V.s t0)]) H K (by kernel_rfl) (Nat.le_of_ble_eq_true (by kernel_rfl)) (by kernel_rfl)
  have e1 : ev Tryd.prog E16 loopLim Tryd.f16.ntmps kp16 c16_6 (argFr 0 [(V.s t0)]) H (kFn Tryd.prog Tryd.f16.results.toList K) = ev Tryd.prog E16 loopLim Tryd.f16.ntmps kp16 c16_6 [(0, (V.s t0))] H (kFn Tryd.prog Tryd.f16.results.toList K) := by kernel_rfl
  refine (e0.trans e1).trans ?_
  delta g16_r
  exact (g16_p8_eq t0 H (kFn Tryd.prog Tryd.f16.results.toList K)).trans (congrArg (g16_p8 R t0 H) (funext fun t2 => funext fun H => h0 t2 H))
theorem g16_ok : FunOK Tryd.prog 16 (w16 (g16_r)) := by
  refine (runF_ok (E16_good) mixed lim_ok Tryd.func16 (by kernel_rfl) kp16).of_le fun R args H K r hk => ?_
  unfold w16 at hk
  split at hk
  · exact (g16_fn _ H K).trans hk
  · cases hk
def kp4 : Nat → Option (List Nat) := kpOf [(0, [0]), (1, [0, 9]), (2, [2]), (3, [0, 3, 4]), (4, [0, 3, 4, 5]), (5, [0, 3, 4, 5, 6]), (6, [0, 3, 4, 5, 6, 41]), (7, [0, 3, 4, 5, 6]), (8, [0, 3, 4, 5, 6, 60]), (9, [0, 3, 4, 5, 6]), (10, [0, 3, 4, 5, 63]), (11, [2]), (12, [0, 3, 5, 65]), (13, [2]), (14, [2]), (300000, [2]), (400009, [0]), (400041, [0, 3, 4, 5, 6]), (400060, [0, 3, 4, 5, 6]), (400063, [0, 3, 4, 5]), (400065, [0, 3, 5])]
def E4 (a12 : T12) (a13 : T13) (a15 : T15) (a16 : T16) (a11 : T11) : FEnv := [(12, w12 a12), (13, w13 a13), (15, w15 a15), (16, w16 a16), (11, w11 a11)]
theorem E4_good {a12 : T12} {a13 : T13} {a15 : T15} {a16 : T16} {a11 : T11} (oa12 : FunOK Tryd.prog 12 (w12 a12)) (oa13 : FunOK Tryd.prog 13 (w13 a13)) (oa15 : FunOK Tryd.prog 15 (w15 a15)) (oa16 : FunOK Tryd.prog 16 (w16 a16)) (oa11 : FunOK Tryd.prog 11 (w11 a11)) (la12 : Lin12 a12) (la13 : Lin13 a13) (la15 : Lin15 a15) (la16 : Lin16 a16) (la11 : Lin11 a11) : EnvGood Tryd.prog (E4 a12 a13 a15 a16 a11) := ((((((EnvGood.nil _).cons oa11 (w11_lin la11)).cons oa16 (w16_lin la16)).cons oa15 (w15_lin la15)).cons oa13 (w13_lin la13)).cons oa12 (w12_lin la12))
theorem E4_lin {a12 : T12} {a13 : T13} {a15 : T15} {a16 : T16} {a11 : T11} (la12 : Lin12 a12) (la13 : Lin13 a13) (la15 : Lin15 a15) (la16 : Lin16 a16) (la11 : Lin11 a11) : EnvLin (E4 a12 a13 a15 a16 a11) := by
  intro g F h
  simp only [E4, List.mem_cons, List.not_mem_nil, or_false] at h
  rcases h with h | h | h | h | h
  · cases h; exact w12_lin la12
  · cases h; exact w13_lin la13
  · cases h; exact w15_lin la15
  · cases h; exact w16_lin la16
  · cases h; exact w11_lin la11
noncomputable def b4 : Code := Tryd.f4.body.getD .skip
noncomputable def c4_0 : Code := (.seq (codeAt [1, 1, 1, 1, 1, 1, 0, 0] b4) (.seq (.cond (.tmp 63) (.seq (codeAt [1, 1, 1, 1, 1, 1, 0, 1, 0, 0] b4) .ret) .skip) (.seq (codeAt [1, 1, 1, 1, 1, 1, 1, 0, 0] b4) (.seq (.cond (.tmp 65) (.seq (codeAt [1, 1, 1, 1, 1, 1, 1, 0, 1, 0, 0] b4) .ret) .skip) (.seq (codeAt [1, 1, 1, 1, 1, 1, 1, 1, 0] b4) .ret)))))
noncomputable def c4_1 : Code := (.seq (.cond (.tmp 41) (codeAt [1, 1, 1, 1, 1, 0, 1, 0] b4) (.seq (codeAt [1, 1, 1, 1, 1, 0, 1, 1, 0] b4) (.cond (.tmp 60) (codeAt [1, 1, 1, 1, 1, 0, 1, 1, 1, 0] b4) .skip))) c4_0)
noncomputable def c4_2 : Code := (.seq (codeAt [0] b4) (.seq (codeAt [1, 0, 0] b4) (.seq (.cond (.tmp 9) (.seq (codeAt [1, 0, 1, 0, 0] b4) .ret) .skip) (.seq (codeAt [1, 1, 0] b4) (.seq (codeAt [1, 1, 1, 0] b4) (.seq (codeAt [1, 1, 1, 1, 0] b4) (.seq (codeAt [1, 1, 1, 1, 1, 0, 0] b4) c4_1)))))))
noncomputable def g4_p0 (a12 : T12) (a13 : T13) (a15 : T15) (a16 : T16) (a11 : T11) (R : Type) (t0 : ByteArray) (H : Heap) (kN : ByteArray → Int → Int → Sl → Int → Bool → Heap → Option R) (kR : Bool → Heap → Option R) : Option R :=
  sel (decide (((t0.size : Nat) : Int) > (100 : Int))) (
    a12 R H fun x221 h222 =>
    kR x221 h222) (
    a13 R t0 H fun x223 x224 h225 =>
    a15 R t0 str1 h225 fun x226 h227 =>
    sel (((x226.len : Nat) : Int) != (3 : Int)) (
      kN t0 x223 x224 x226 (0 : Int) true h227) (
      if 0 ≤ (0 : Int) ∧ (0 : Int) < ((x226.len : Nat) : Int) then (
        (x226.a).bind fun q228 =>
        ((h227).ldS q228.1 (q228.2 + Int.toNat (0 : Int) * 1)).bind fun x229 =>
        a16 R x229 h227 fun x230 h231 =>
        sel (decide (x230 < (0 : Int))) (
          kN t0 x223 x224 x226 (0 : Int) true h231) (
          if 0 ≤ (1 : Int) ∧ (1 : Int) < ((x226.len : Nat) : Int) then (
            (x226.a).bind fun q232 =>
            ((h231).ldS q232.1 (q232.2 + Int.toNat (1 : Int) * 1)).bind fun x233 =>
            a16 R x233 h231 fun x234 h235 =>
            sel (decide (x234 < (0 : Int))) (
              kN t0 x223 x224 x226 (0 : Int) true h235) (
              if 0 ≤ (2 : Int) ∧ (2 : Int) < ((x226.len : Nat) : Int) then (
                (x226.a).bind fun q236 =>
                ((h235).ldS q236.1 (q236.2 + Int.toNat (2 : Int) * 1)).bind fun x237 =>
                a16 R x237 h235 fun x238 h239 =>
                kN t0 x223 x224 x226 (0 : Int) (decide (x238 < (0 : Int))) h239)
              else (
                none)))
          else (
            none)))
      else (
        none)))
theorem g4_p0_eq (a12 : T12) (a13 : T13) (a15 : T15) (a16 : T16) (a11 : T11) {R : Type} (c2 : Code) (t0 : ByteArray) (H : Heap) (K : Ex → Fr → Heap → Option R) : ev Tryd.prog (E4 a12 a13 a15 a16 a11) loopLim Tryd.f4.ntmps kp4 (.seq (codeAt [0] b4) (.seq (codeAt [1, 0, 0] b4) (.seq (.cond (.tmp 9) (.seq (codeAt [1, 0, 1, 0, 0] b4) .ret) .skip) (.seq (codeAt [1, 1, 0] b4) (.seq (codeAt [1, 1, 1, 0] b4) (.seq (codeAt [1, 1, 1, 1, 0] b4) (.seq (codeAt [1, 1, 1, 1, 1, 0, 0] b4) c2))))))) [(0, (V.s t0))] H K = g4_p0 a12 a13 a15 a16 a11 R t0 H (fun t0 t3 t4 t5 t6 t41 H => ev Tryd.prog (E4 a12 a13 a15 a16 a11) loopLim Tryd.f4.ntmps kp4 c2 [(0, (V.s t0)), (3, (V.i .u16 t3)), (4, (V.i .i64 t4)), (5, (V.sl t5)), (6, (V.i .i64 t6)), (41, (V.b t41))] H K) (fun t2 H => K .ret [(2, (V.b t2))] H) := by kernel_rfl
theorem g4_p0_lin {a12 : T12} {a13 : T13} {a15 : T15} {a16 : T16} {a11 : T11} (la12 : Lin12 a12) (la13 : Lin13 a13) (la15 : Lin15 a15) (la16 : Lin16 a16) (la11 : Lin11 a11) {R S : Type} {k : S → Option R} {t0 : ByteArray} {H : Heap} {fkN : ByteArray → Int → Int → Sl → Int → Bool → Heap → Option R} {gkN : ByteArray → Int → Int → Sl → Int → Bool → Heap → Option S} {fkR : Bool → Heap → Option R} {gkR : Bool → Heap → Option S} (hkN : ∀ t0 t3 t4 t5 t6 t41 H, fkN t0 t3 t4 t5 t6 t41 H = (gkN t0 t3 t4 t5 t6 t41 H).bind k) (hkR : ∀ t2 H, fkR t2 H = (gkR t2 H).bind k) : g4_p0 a12 a13 a15 a16 a11 R t0 H fkN fkR = (g4_p0 a12 a13 a15 a16 a11 S t0 H gkN gkR).bind k := by
  delta g4_p0; exact (
    sl_lin (
      la12.l fun x221 h222 =>
      hkR _ _) (
      la13.l fun x223 x224 h225 =>
      la15.l fun x226 h227 =>
      sl_lin (
        hkN _ _ _ _ _ _ _) (
        il (
          bl fun q228 =>
          bl fun x229 =>
          la16.l fun x230 h231 =>
          sl_lin (
            hkN _ _ _ _ _ _ _) (
            il (
              bl fun q232 =>
              bl fun x233 =>
              la16.l fun x234 h235 =>
              sl_lin (
                hkN _ _ _ _ _ _ _) (
                il (
                  bl fun q236 =>
                  bl fun x237 =>
                  la16.l fun x238 h239 =>
                  hkN _ _ _ _ _ _ _) (
                  rfl))) (
              rfl))) (
          rfl))))
noncomputable def g4_p1 (a12 : T12) (a13 : T13) (a15 : T15) (a16 : T16) (a11 : T11) (R : Type) (t0 : ByteArray) (t3 : Int) (t4 : Int) (t5 : Sl) (t6 : Int) (t41 : Bool) (H : Heap) (kN : ByteArray → Int → Int → Sl → Int → Heap → Option R) : Option R :=
  sel t41 (
    kN t0 t3 t4 t5 (4 : Int) H) (
    if 0 ≤ (0 : Int) ∧ (0 : Int) < ((t5.len : Nat) : Int) then (
      (t5.a).bind fun q357 =>
      ((H).ldS q357.1 (q357.2 + Int.toNat (0 : Int) * 1)).bind fun x358 =>
      a16 R x358 H fun x359 h360 =>
      sel (decide (x359 > (7 : Int))) (
        kN t0 t3 t4 t5 (1 : Int) h360) (
        if 0 ≤ (1 : Int) ∧ (1 : Int) < ((t5.len : Nat) : Int) then (
          (t5.a).bind fun q361 =>
          ((h360).ldS q361.1 (q361.2 + Int.toNat (1 : Int) * 1)).bind fun x362 =>
          a16 R x362 h360 fun x363 h364 =>
          sel (decide (x363 > (255 : Int))) (
            kN t0 t3 t4 t5 (1 : Int) h364) (
            if 0 ≤ (2 : Int) ∧ (2 : Int) < ((t5.len : Nat) : Int) then (
              (t5.a).bind fun q365 =>
              ((h364).ldS q365.1 (q365.2 + Int.toNat (2 : Int) * 1)).bind fun x366 =>
              a16 R x366 h364 fun x367 h368 =>
              sel (decide (x367 > (7 : Int))) (
                kN t0 t3 t4 t5 (1 : Int) h368) (
                kN t0 t3 t4 t5 t6 h368))
            else (
              none)))
        else (
          none)))
    else (
      none))
theorem g4_p1_eq (a12 : T12) (a13 : T13) (a15 : T15) (a16 : T16) (a11 : T11) {R : Type} (c2 : Code) (t0 : ByteArray) (t3 : Int) (t4 : Int) (t5 : Sl) (t6 : Int) (t41 : Bool) (H : Heap) (K : Ex → Fr → Heap → Option R) : ev Tryd.prog (E4 a12 a13 a15 a16 a11) loopLim Tryd.f4.ntmps kp4 (.seq (.cond (.tmp 41) (codeAt [1, 1, 1, 1, 1, 0, 1, 0] b4) (.seq (codeAt [1, 1, 1, 1, 1, 0, 1, 1, 0] b4) (.cond (.tmp 60) (codeAt [1, 1, 1, 1, 1, 0, 1, 1, 1, 0] b4) .skip))) c2) [(0, (V.s t0)), (3, (V.i .u16 t3)), (4, (V.i .i64 t4)), (5, (V.sl t5)), (6, (V.i .i64 t6)), (41, (V.b t41))] H K = g4_p1 a12 a13 a15 a16 a11 R t0 t3 t4 t5 t6 t41 H (fun t0 t3 t4 t5 t6 H => ev Tryd.prog (E4 a12 a13 a15 a16 a11) loopLim Tryd.f4.ntmps kp4 c2 [(0, (V.s t0)), (3, (V.i .u16 t3)), (4, (V.i .i64 t4)), (5, (V.sl t5)), (6, (V.i .i64 t6))] H K) := by kernel_rfl
theorem g4_p1_lin {a12 : T12} {a13 : T13} {a15 : T15} {a16 : T16} {a11 : T11} (la12 : Lin12 a12) (la13 : Lin13 a13) (la15 : Lin15 a15) (la16 : Lin16 a16) (la11 : Lin11 a11) {R S : Type} {k : S → Option R} {t0 : ByteArray} {t3 : Int} {t4 : Int} {t5 : Sl} {t6 : Int} {t41 : Bool} {H : Heap} {fkN : ByteArray → Int → Int → Sl → Int → Heap → Option R} {gkN : ByteArray → Int → Int → Sl → Int → Heap → Option S} (hkN : ∀ t0 t3 t4 t5 t6 H, fkN t0 t3 t4 t5 t6 H = (gkN t0 t3 t4 t5 t6 H).bind k) : g4_p1 a12 a13 a15 a16 a11 R t0 t3 t4 t5 t6 t41 H fkN = (g4_p1 a12 a13 a15 a16 a11 S t0 t3 t4 t5 t6 t41 H gkN).bind k := by
  delta g4_p1; exact (
    sl_lin (
      hkN _ _ _ _ _ _) (
      il (
        bl fun q357 =>
        bl fun x358 =>
        la16.l fun x359 h360 =>
        sl_lin (
          hkN _ _ _ _ _ _) (
          il (
            bl fun q361 =>
            bl fun x362 =>
            la16.l fun x363 h364 =>
            sl_lin (
              hkN _ _ _ _ _ _) (
              il (
                bl fun q365 =>
                bl fun x366 =>
                la16.l fun x367 h368 =>
                sl_lin (
                  hkN _ _ _ _ _ _) (
                  hkN _ _ _ _ _ _)) (
                rfl))) (
            rfl))) (
        rfl)))
noncomputable def g4_p2 (a12 : T12) (a13 : T13) (a15 : T15) (a16 : T16) (a11 : T11) (R : Type) (t0 : ByteArray) (t3 : Int) (t4 : Int) (t5 : Sl) (t6 : Int) (H : Heap) (kR : Bool → Heap → Option R) : Option R :=
  sel (t4 != t6) (
    kR false H) (
    sel (t4 != (0 : Int)) (
      sel (t3 == (0 : Int)) (
        a12 R H fun x369 h370 =>
        kR x369 h370) (
        kR false H)) (
      if 0 ≤ (0 : Int) ∧ (0 : Int) < ((t5.len : Nat) : Int) then (
        (t5.a).bind fun q371 =>
        ((H).ldS q371.1 (q371.2 + Int.toNat (0 : Int) * 1)).bind fun x372 =>
        a16 R x372 H fun x373 h374 =>
        if 0 ≤ (1 : Int) ∧ (1 : Int) < ((t5.len : Nat) : Int) then (
          (t5.a).bind fun q375 =>
          ((h374).ldS q375.1 (q375.2 + Int.toNat (1 : Int) * 1)).bind fun x376 =>
          ((H).ldS q375.1 (q375.2 + Int.toNat (1 : Int) * 1)).bind fun x377 =>
          if V.same (V.s x376) (V.s x377) = true then (
            a16 R x376 h374 fun x378 h379 =>
            if 0 ≤ (2 : Int) ∧ (2 : Int) < ((t5.len : Nat) : Int) then (
              (t5.a).bind fun q380 =>
              ((h379).ldS q380.1 (q380.2 + Int.toNat (2 : Int) * 1)).bind fun x381 =>
              ((H).ldS q380.1 (q380.2 + Int.toNat (2 : Int) * 1)).bind fun x382 =>
              if V.same (V.s x381) (V.s x382) = true then (
                ((h374).ldS q380.1 (q380.2 + Int.toNat (2 : Int) * 1)).bind fun x383 =>
                if V.same (V.s x381) (V.s x383) = true then (
                  a16 R x381 h379 fun x384 h385 =>
                  sel ((IntKind.wrap .i64 t3) == (IntKind.wrap .i64 ((IntKind.wrap .i64 ((IntKind.wrap .i64 ((2048 : Int) * x373)) + (IntKind.wrap .i64 ((8 : Int) * x378)))) + x384))) (
                    a11 R t3 h385 fun x386 h387 =>
                    sel (strEq x386 t0) (
                      a12 R h387 fun x388 h389 =>
                      kR x388 h389) (
                      kR false h387)) (
                    kR false h385))
                else (
                  none))
              else (
                none))
            else (
              none))
          else (
            none))
        else (
          none))
      else (
        none)))
theorem g4_p2_eq (a12 : T12) (a13 : T13) (a15 : T15) (a16 : T16) (a11 : T11) (la12 : Lin12 a12) (la13 : Lin13 a13) (la15 : Lin15 a15) (la16 : Lin16 a16) (la11 : Lin11 a11) {R : Type} (t0 : ByteArray) (t3 : Int) (t4 : Int) (t5 : Sl) (t6 : Int) (H : Heap) (K : Ex → Fr → Heap → Option R) : ev Tryd.prog (E4 a12 a13 a15 a16 a11) loopLim Tryd.f4.ntmps kp4 c4_0 [(0, (V.s t0)), (3, (V.i .u16 t3)), (4, (V.i .i64 t4)), (5, (V.sl t5)), (6, (V.i .i64 t6))] H K = g4_p2 a12 a13 a15 a16 a11 R t0 t3 t4 t5 t6 H (fun t2 H => K .ret [(2, (V.b t2))] H) := by kernel_rfl
theorem g4_p2_lin {a12 : T12} {a13 : T13} {a15 : T15} {a16 : T16} {a11 : T11} (la12 : Lin12 a12) (la13 : Lin13 a13) (la15 : Lin15 a15) (la16 : Lin16 a16) (la11 : Lin11 a11) {R S : Type} {k : S → Option R} {t0 : ByteArray} {t3 : Int} {t4 : Int} {t5 : Sl} {t6 : Int} {H : Heap} {fkR : Bool → Heap → Option R} {gkR : Bool → Heap → Option S} (hkR : ∀ t2 H, fkR t2 H = (gkR t2 H).bind k) : g4_p2 a12 a13 a15 a16 a11 R t0 t3 t4 t5 t6 H fkR = (g4_p2 a12 a13 a15 a16 a11 S t0 t3 t4 t5 t6 H gkR).bind k := by
  delta g4_p2; exact (
    sl_lin (
      hkR _ _) (
      sl_lin (
        sl_lin (
          la12.l fun x369 h370 =>
          hkR _ _) (
          hkR _ _)) (
        il (
          bl fun q371 =>
          bl fun x372 =>
          la16.l fun x373 h374 =>
          il (
            bl fun q375 =>
            bl fun x376 =>
            bl fun x377 =>
            il (
              la16.l fun x378 h379 =>
              il (
                bl fun q380 =>
                bl fun x381 =>
                bl fun x382 =>
                il (
                  bl fun x383 =>
                  il (
                    la16.l fun x384 h385 =>
                    sl_lin (
                      la11.l fun x386 h387 =>
                      sl_lin (
                        la12.l fun x388 h389 =>
                        hkR _ _) (
                        hkR _ _)) (
                      hkR _ _)) (
                    rfl)) (
                  rfl)) (
                rfl)) (
              rfl)) (
            rfl)) (
          rfl))))
noncomputable def g4_p3 (a12 : T12) (a13 : T13) (a15 : T15) (a16 : T16) (a11 : T11) (R : Type) (t0 : ByteArray) (t3 : Int) (t4 : Int) (t5 : Sl) (t6 : Int) (t41 : Bool) (H : Heap) (kR : Bool → Heap → Option R) : Option R :=
  g4_p1 a12 a13 a15 a16 a11 R t0 t3 t4 t5 t6 t41 H (fun t0 t3 t4 t5 t6 H => g4_p2 a12 a13 a15 a16 a11 R t0 t3 t4 t5 t6 H (fun t2 H => kR t2 H))
theorem g4_p3_lin {a12 : T12} {a13 : T13} {a15 : T15} {a16 : T16} {a11 : T11} (la12 : Lin12 a12) (la13 : Lin13 a13) (la15 : Lin15 a15) (la16 : Lin16 a16) (la11 : Lin11 a11) {R S : Type} {k : S → Option R} {t0 : ByteArray} {t3 : Int} {t4 : Int} {t5 : Sl} {t6 : Int} {t41 : Bool} {H : Heap} {fkR : Bool → Heap → Option R} {gkR : Bool → Heap → Option S} (hkR : ∀ t2 H, fkR t2 H = (gkR t2 H).bind k) : g4_p3 a12 a13 a15 a16 a11 R t0 t3 t4 t5 t6 t41 H fkR = (g4_p3 a12 a13 a15 a16 a11 S t0 t3 t4 t5 t6 t41 H gkR).bind k := by
  exact g4_p1_lin la12 la13 la15 la16 la11 (fun _ _ _ _ _ _ => g4_p2_lin la12 la13 la15 la16 la11 (fun _ _ => hkR _ _))
theorem g4_p3_eq (a12 : T12) (a13 : T13) (a15 : T15) (a16 : T16) (a11 : T11) (la12 : Lin12 a12) (la13 : Lin13 a13) (la15 : Lin15 a15) (la16 : Lin16 a16) (la11 : Lin11 a11) {R : Type} (t0 : ByteArray) (t3 : Int) (t4 : Int) (t5 : Sl) (t6 : Int) (t41 : Bool) (H : Heap) (K : Ex → Fr → Heap → Option R) : ev Tryd.prog (E4 a12 a13 a15 a16 a11) loopLim Tryd.f4.ntmps kp4 c4_1 [(0, (V.s t0)), (3, (V.i .u16 t3)), (4, (V.i .i64 t4)), (5, (V.sl t5)), (6, (V.i .i64 t6)), (41, (V.b t41))] H K = g4_p3 a12 a13 a15 a16 a11 R t0 t3 t4 t5 t6 t41 H (fun t2 H => K .ret [(2, (V.b t2))] H) := by
  show ev Tryd.prog (E4 a12 a13 a15 a16 a11) loopLim Tryd.f4.ntmps kp4 (.seq (.cond (.tmp 41) (codeAt [1, 1, 1, 1, 1, 0, 1, 0] b4) (.seq (codeAt [1, 1, 1, 1, 1, 0, 1, 1, 0] b4) (.cond (.tmp 60) (codeAt [1, 1, 1, 1, 1, 0, 1, 1, 1, 0] b4) .skip))) c4_0) [(0, (V.s t0)), (3, (V.i .u16 t3)), (4, (V.i .i64 t4)), (5, (V.sl t5)), (6, (V.i .i64 t6)), (41, (V.b t41))] H K = _
  delta g4_p3
  exact (g4_p1_eq a12 a13 a15 a16 a11 _ t0 t3 t4 t5 t6 t41 H K).trans (congrArg (g4_p1 a12 a13 a15 a16 a11 R t0 t3 t4 t5 t6 t41 H) (funext fun t0 => funext fun t3 => funext fun t4 => funext fun t5 => funext fun t6 => funext fun H => g4_p2_eq a12 a13 a15 a16 a11 la12 la13 la15 la16 la11 t0 t3 t4 t5 t6 H K))
noncomputable def g4_p4 (a12 : T12) (a13 : T13) (a15 : T15) (a16 : T16) (a11 : T11) (R : Type) (t0 : ByteArray) (H : Heap) (kR : Bool → Heap → Option R) : Option R :=
  g4_p0 a12 a13 a15 a16 a11 R t0 H (fun t0 t3 t4 t5 t6 t41 H => g4_p3 a12 a13 a15 a16 a11 R t0 t3 t4 t5 t6 t41 H (fun t2 H => kR t2 H)) (fun t2 H => kR t2 H)
theorem g4_p4_lin {a12 : T12} {a13 : T13} {a15 : T15} {a16 : T16} {a11 : T11} (la12 : Lin12 a12) (la13 : Lin13 a13) (la15 : Lin15 a15) (la16 : Lin16 a16) (la11 : Lin11 a11) {R S : Type} {k : S → Option R} {t0 : ByteArray} {H : Heap} {fkR : Bool → Heap → Option R} {gkR : Bool → Heap → Option S} (hkR : ∀ t2 H, fkR t2 H = (gkR t2 H).bind k) : g4_p4 a12 a13 a15 a16 a11 R t0 H fkR = (g4_p4 a12 a13 a15 a16 a11 S t0 H gkR).bind k := by
  exact g4_p0_lin la12 la13 la15 la16 la11 (fun _ _ _ _ _ _ _ => g4_p3_lin la12 la13 la15 la16 la11 (fun _ _ => hkR _ _)) (fun _ _ => hkR _ _)
theorem g4_p4_eq (a12 : T12) (a13 : T13) (a15 : T15) (a16 : T16) (a11 : T11) (la12 : Lin12 a12) (la13 : Lin13 a13) (la15 : Lin15 a15) (la16 : Lin16 a16) (la11 : Lin11 a11) {R : Type} (t0 : ByteArray) (H : Heap) (K : Ex → Fr → Heap → Option R) : ev Tryd.prog (E4 a12 a13 a15 a16 a11) loopLim Tryd.f4.ntmps kp4 c4_2 [(0, (V.s t0))] H K = g4_p4 a12 a13 a15 a16 a11 R t0 H (fun t2 H => K .ret [(2, (V.b t2))] H) := by
  show ev Tryd.prog (E4 a12 a13 a15 a16 a11) loopLim Tryd.f4.ntmps kp4 (.seq (codeAt [0] b4) (.seq (codeAt [1, 0, 0] b4) (.seq (.cond (.tmp 9) (.seq (codeAt [1, 0, 1, 0, 0] b4) .ret) .skip) (.seq (codeAt [1, 1, 0] b4) (.seq (codeAt [1, 1, 1, 0] b4) (.seq (codeAt [1, 1, 1, 1, 0] b4) (.seq (codeAt [1, 1, 1, 1, 1, 0, 0] b4) c4_1))))))) [(0, (V.s t0))] H K = _
  delta g4_p4
  exact (g4_p0_eq a12 a13 a15 a16 a11 _ t0 H K).trans (congr (congrArg (g4_p0 a12 a13 a15 a16 a11 R t0 H) (funext fun t0 => funext fun t3 => funext fun t4 => funext fun t5 => funext fun t6 => funext fun t41 => funext fun H => g4_p3_eq a12 a13 a15 a16 a11 la12 la13 la15 la16 la11 t0 t3 t4 t5 t6 t41 H K)) rfl)
noncomputable def g4_r (a12 : T12) (a13 : T13) (a15 : T15) (a16 : T16) (a11 : T11) : T4 := fun R t0 H K =>
  g4_p4 a12 a13 a15 a16 a11 R t0 H (fun t2 H =>
    K t2 H)
theorem g4_r_lin {a12 : T12} {a13 : T13} {a15 : T15} {a16 : T16} {a11 : T11} (la12 : Lin12 a12) (la13 : Lin13 a13) (la15 : Lin15 a15) (la16 : Lin16 a16) (la11 : Lin11 a11) : Lin4 (g4_r a12 a13 a15 a16 a11) := by
  constructor
  intro R S k t0 H f g h
  exact g4_p4_lin la12 la13 la15 la16 la11 (fun t2 H =>
    h _ _)
theorem g4_fn (a12 : T12) (a13 : T13) (a15 : T15) (a16 : T16) (a11 : T11) (la12 : Lin12 a12) (la13 : Lin13 a13) (la15 : Lin15 a15) (la16 : Lin16 a16) (la11 : Lin11 a11) {R : Type} (t0 : ByteArray) (H : Heap) (K : V → Heap → Option R) : evFn Tryd.prog (E4 a12 a13 a15 a16 a11) loopLim Tryd.f4 kp4 [(V.s t0)] H K = g4_r a12 a13 a15 a16 a11 R t0 H (fun r0 H => K (V.b r0) H) := by
  have h0 : ∀ (t2 : Bool) (H : Heap), kFn Tryd.prog Tryd.f4.results.toList K .ret [(2, (V.b t2))] H =
      K (V.b t2) H := by intros; kernel_rfl
  have e0 := evFn_code2 (P := Tryd.prog) (c := c4_2) (E := (E4 a12 a13 a15 a16 a11)) (lr := loopLim) (kp := kp4) (fn := Tryd.f4) (args := [(V.s t0)]) H K (by kernel_rfl) (Nat.le_of_ble_eq_true (by kernel_rfl)) (by kernel_rfl)
  have e1 : ev Tryd.prog (E4 a12 a13 a15 a16 a11) loopLim Tryd.f4.ntmps kp4 c4_2 (argFr 0 [(V.s t0)]) H (kFn Tryd.prog Tryd.f4.results.toList K) = ev Tryd.prog (E4 a12 a13 a15 a16 a11) loopLim Tryd.f4.ntmps kp4 c4_2 [(0, (V.s t0))] H (kFn Tryd.prog Tryd.f4.results.toList K) := by kernel_rfl
  refine (e0.trans e1).trans ?_
  delta g4_r
  exact (g4_p4_eq a12 a13 a15 a16 a11 la12 la13 la15 la16 la11 t0 H (kFn Tryd.prog Tryd.f4.results.toList K)).trans (congrArg (g4_p4 a12 a13 a15 a16 a11 R t0 H) (funext fun t2 => funext fun H => h0 t2 H))
theorem g4_ok {a12 : T12} {a13 : T13} {a15 : T15} {a16 : T16} {a11 : T11} (oa12 : FunOK Tryd.prog 12 (w12 a12)) (oa13 : FunOK Tryd.prog 13 (w13 a13)) (oa15 : FunOK Tryd.prog 15 (w15 a15)) (oa16 : FunOK Tryd.prog 16 (w16 a16)) (oa11 : FunOK Tryd.prog 11 (w11 a11)) (la12 : Lin12 a12) (la13 : Lin13 a13) (la15 : Lin15 a15) (la16 : Lin16 a16) (la11 : Lin11 a11) : FunOK Tryd.prog 4 (w4 (g4_r a12 a13 a15 a16 a11)) := by
  refine (runF_ok (E4_good oa12 oa13 oa15 oa16 oa11 la12 la13 la15 la16 la11) mixed lim_ok Tryd.func4 (by kernel_rfl) kp4).of_le fun R args H K r hk => ?_
  unfold w4 at hk
  split at hk
  · exact (g4_fn a12 a13 a15 a16 a11 la12 la13 la15 la16 la11 _ H K).trans hk
  · cases hk
def kp18 : Nat → Option (List Nat) := kpOf [(0, [1]), (1, [1, 3]), (2, [2]), (3, [1, 17]), (4, [2]), (5, [34]), (6, [2]), (7, [2]), (100000, []), (200000, [1]), (300000, [2]), (400003, []), (400017, []), (400034, [])]
def E18 : FEnv := []
theorem E18_good : EnvGood Tryd.prog E18 := (EnvGood.nil _)
theorem E18_lin : EnvLin E18 := fun g F h => by cases h
noncomputable def b18 : Code := Tryd.f18.body.getD .skip
noncomputable def c18_0 : Code := (.seq (codeAt [0] b18) (.seq (.block 0 (.seq (codeAt [1, 0, 0, 0] b18) (.cond (.tmp 3) (.seq (codeAt [1, 0, 0, 1, 0, 0] b18) .ret) (.seq (codeAt [1, 0, 0, 1, 1, 0] b18) (.cond (.tmp 17) (.seq (codeAt [1, 0, 0, 1, 1, 1, 0, 0] b18) .ret) (.seq (codeAt [1, 0, 0, 1, 1, 1, 1, 0] b18) (.cond (.tmp 34) (.seq (codeAt [1, 0, 0, 1, 1, 1, 1, 1, 0, 0] b18) .ret) .skip))))))) (.seq (codeAt [1, 1, 0] b18) .ret)))
noncomputable def g18_p0 (R : Type) (t0_0 : Int) (t0_1 : Int) (t0_2 : Int) (t0_3 : Int) (t0_4 : Int) (t0_5 : Int) (t0_6 : Sl) (H : Heap) (kR : Int → Heap → Option R) : Option R :=
  alo H (.cells [(V.i .u8 t0_0), (V.i .u8 t0_1), (V.i .u8 t0_2), (V.i .u16 t0_3), (V.i .u16 t0_4), (V.i .u8 t0_5), (V.sl t0_6)] 38 false) fun i1 h2 =>
  ((h2).ldI .u8 i1 (0 + 0)).bind fun x3 =>
  sel (decide (x3 > (15 : Int))) (
    kR (1 : Int) h2) (
    ((h2).ldI .u8 i1 (0 + 1)).bind fun x4 =>
    sel (decide (x4 > (3 : Int))) (
      kR (1 : Int) h2) (
      ((h2).ldI .u8 i1 (0 + 2)).bind fun x5 =>
      sel (decide (x5 > (3 : Int))) (
        kR (1 : Int) h2) (
        ((h2).ldI .u16 i1 ((0 + 3) + 0)).bind fun x6 =>
        sel (decide (x6 > (16383 : Int))) (
          kR (1 : Int) h2) (
          ((h2).ldI .u16 i1 ((0 + 3) + 1)).bind fun x7 =>
          sel (decide (x7 > (16383 : Int))) (
            kR (1 : Int) h2) (
            ((h2).ldI .u8 i1 ((0 + 3) + 2)).bind fun x8 =>
            sel (decide (x8 > (15 : Int))) (
              kR (1 : Int) h2) (
              ((h2).ldSl i1 (0 + 6)).bind fun x9 =>
              sel (decide (((x9.len : Nat) : Int) > (268 : Int))) (
                kR (3 : Int) h2) (
                kR (0 : Int) h2)))))))
theorem g18_p0_eq {R : Type} (t0_0 : Int) (t0_1 : Int) (t0_2 : Int) (t0_3 : Int) (t0_4 : Int) (t0_5 : Int) (t0_6 : Sl) (H : Heap) (K : Ex → Fr → Heap → Option R) : ev Tryd.prog E18 loopLim Tryd.f18.ntmps kp18 c18_0 [(0, (V.agg [(V.i .u8 t0_0), (V.i .u8 t0_1), (V.i .u8 t0_2), (V.i .u16 t0_3), (V.i .u16 t0_4), (V.i .u8 t0_5), (V.sl t0_6)]))] H K = g18_p0 R t0_0 t0_1 t0_2 t0_3 t0_4 t0_5 t0_6 H (fun t2 H => K .ret [(2, (V.i .i64 t2))] H) := by kernel_rfl
theorem g18_p0_lin {R S : Type} {k : S → Option R} {t0_0 : Int} {t0_1 : Int} {t0_2 : Int} {t0_3 : Int} {t0_4 : Int} {t0_5 : Int} {t0_6 : Sl} {H : Heap} {fkR : Int → Heap → Option R} {gkR : Int → Heap → Option S} (hkR : ∀ t2 H, fkR t2 H = (gkR t2 H).bind k) : g18_p0 R t0_0 t0_1 t0_2 t0_3 t0_4 t0_5 t0_6 H fkR = (g18_p0 S t0_0 t0_1 t0_2 t0_3 t0_4 t0_5 t0_6 H gkR).bind k := by
  delta g18_p0; exact (
    alo_lin fun i1 h2 =>
    bl fun x3 =>
    sl_lin (
      hkR _ _) (
      bl fun x4 =>
      sl_lin (
        hkR _ _) (
        bl fun x5 =>
        sl_lin (
          hkR _ _) (
          bl fun x6 =>
          sl_lin (
            hkR _ _) (
            bl fun x7 =>
            sl_lin (
              hkR _ _) (
              bl fun x8 =>
              sl_lin (
                hkR _ _) (
                bl fun x9 =>
                sl_lin (
                  hkR _ _) (
                  hkR _ _))))))))
noncomputable def g18_r : T18 := fun R t0_0 t0_1 t0_2 t0_3 t0_4 t0_5 t0_6 H K =>
  g18_p0 R t0_0 t0_1 t0_2 t0_3 t0_4 t0_5 t0_6 H (fun t2 H =>
    K t2 H)
theorem g18_r_lin : Lin18 (g18_r) := by
  constructor
  intro R S k t0_0 t0_1 t0_2 t0_3 t0_4 t0_5 t0_6 H f g h
  exact g18_p0_lin (fun t2 H =>
    h _ _)
theorem g18_fn {R : Type} (t0_0 : Int) (t0_1 : Int) (t0_2 : Int) (t0_3 : Int) (t0_4 : Int) (t0_5 : Int) (t0_6 : Sl) (H : Heap) (K : V → Heap → Option R) : evFn Tryd.prog E18 loopLim Tryd.f18 kp18 [(V.agg [(V.i .u8 t0_0), (V.i .u8 t0_1), (V.i .u8 t0_2), (V.i .u16 t0_3), (V.i .u16 t0_4), (V.i .u8 t0_5), (V.sl t0_6)])] H K = g18_r R t0_0 t0_1 t0_2 t0_3 t0_4 t0_5 t0_6 H (fun r0 H => K (V.i .i64 r0) H) := by
  have h0 : ∀ (t2 : Int) (H : Heap), kFn Tryd.prog Tryd.f18.results.toList K .ret [(2, (V.i .i64 t2))] H =
      K (V.i .i64 t2) H := by intros; kernel_rfl
  have e0 := evFn_code2 (P := Tryd.prog) (c := c18_0) (E := E18) (lr := loopLim) (kp := kp18) (fn := Tryd.f18) (args := [(V.agg [(V.i .u8 t0_0), (V.i .u8 t0_1), (V.i .u8 t0_2), (V.i .u16 t0_3), (V.i .u16 t0_4), (V.i .u8 t0_5), (V.sl t0_6)])]) H K (by kernel_rfl) (Nat.le_of_ble_eq_true (by kernel_rfl)) (by kernel_rfl)
  have e1 : ev Tryd.prog E18 loopLim Tryd.f18.ntmps kp18 c18_0 (argFr 0 [(V.agg [(V.i .u8 t0_0), (V.i .u8 t0_1), (V.i .u8 t0_2), (V.i .u16 t0_3), (V.i .u16 t0_4), (V.i .u8 t0_5), (V.sl t0_6)])]) H (kFn Tryd.prog Tryd.f18.results.toList K) = ev Tryd.prog E18 loopLim Tryd.f18.ntmps kp18 c18_0 [(0, (V.agg [(V.i .u8 t0_0), (V.i .u8 t0_1), (V.i .u8 t0_2), (V.i .u16 t0_3), (V.i .u16 t0_4), (V.i .u8 t0_5), (V.sl t0_6)]))] H (kFn Tryd.prog Tryd.f18.results.toList K) := by kernel_rfl
  refine (e0.trans e1).trans ?_
  delta g18_r
  exact (g18_p0_eq t0_0 t0_1 t0_2 t0_3 t0_4 t0_5 t0_6 H (kFn Tryd.prog Tryd.f18.results.toList K)).trans (congrArg (g18_p0 R t0_0 t0_1 t0_2 t0_3 t0_4 t0_5 t0_6 H) (funext fun t2 => funext fun H => h0 t2 H))
theorem g18_ok : FunOK Tryd.prog 18 (w18 (g18_r)) := by
  refine (runF_ok (E18_good) mixed lim_ok Tryd.func18 (by kernel_rfl) kp18).of_le fun R args H K r hk => ?_
  unfold w18 at hk
  split at hk
  · exact (g18_fn _ _ _ _ _ _ _ H K).trans hk
  · cases hk
end Go.Proofs.YtgdkkpjmjnknoaaDoor

