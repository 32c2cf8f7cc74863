/- Printed: functions as the machine runs them. -/
import Derived.Test.YtgdkkpjmjnknoaaDoorGT
namespace Go.Proofs.YtgdkkpjmjnknoaaDoor
open Go AM Go.RowKit
set_option linter.unusedVariables false
def kp33 : Nat → Option (List Nat) := kpOf [(0, [0]), (1, [2]), (300000, [2])]
def E33 (a46 : T46) (a45 : T45) : FEnv := [(46, w46 a46), (45, w45 a45)]
theorem E33_good {a46 : T46} {a45 : T45} (oa46 : FunOK Tryd.prog 46 (w46 a46)) (oa45 : FunOK Tryd.prog 45 (w45 a45)) (la46 : Lin46 a46) (la45 : Lin45 a45) : EnvGood Tryd.prog (E33 a46 a45) := (((EnvGood.nil _).cons oa45 (w45_lin la45)).cons oa46 (w46_lin la46))
theorem E33_lin {a46 : T46} {a45 : T45} (la46 : Lin46 a46) (la45 : Lin45 a45) : EnvLin (E33 a46 a45) := by
  intro g F h
  simp only [E33, List.mem_cons, List.not_mem_nil, or_false] at h
  rcases h with h | h
  · cases h; exact w46_lin la46
  · cases h; exact w45_lin la45
noncomputable def b33 : Code := Tryd.f33.body.getD .skip
noncomputable def c33_0 : Code := (.seq (codeAt [0] b33) (.seq (codeAt [1, 0] b33) .ret))
noncomputable def g33_p0 (a46 : T46) (a45 : T45) (R : Type) (t0 : Sl) (H : Heap) (kR : Sl → Heap → Option R) : Option R :=
  a46 R t0 H fun x1 h2 =>
  a45 R x1 h2 fun x3 h4 =>
  kR x3 h4
theorem g33_p0_eq (a46 : T46) (a45 : T45) (la46 : Lin46 a46) (la45 : Lin45 a45) {R : Type} (t0 : Sl) (H : Heap) (K : Ex → Fr → Heap → Option R) : ev Tryd.prog (E33 a46 a45) loopLim Tryd.f33.ntmps kp33 c33_0 [(0, (V.sl t0))] H K = g33_p0 a46 a45 R t0 H (fun t2 H => K .ret [(2, (V.sl t2))] H) := by kernel_rfl
theorem g33_p0_lin {a46 : T46} {a45 : T45} (la46 : Lin46 a46) (la45 : Lin45 a45) {R S : Type} {k : S → Option R} {t0 : Sl} {H : Heap} {fkR : Sl → Heap → Option R} {gkR : Sl → Heap → Option S} (hkR : ∀ t2 H, fkR t2 H = (gkR t2 H).bind k) : g33_p0 a46 a45 R t0 H fkR = (g33_p0 a46 a45 S t0 H gkR).bind k := by
  delta g33_p0; exact (
    la46.l fun x1 h2 =>
    la45.l fun x3 h4 =>
    hkR _ _)
noncomputable def g33_r (a46 : T46) (a45 : T45) : T33 := fun R t0 H K =>
  g33_p0 a46 a45 R t0 H (fun t2 H =>
    K t2 H)
theorem g33_r_lin {a46 : T46} {a45 : T45} (la46 : Lin46 a46) (la45 : Lin45 a45) : Lin33 (g33_r a46 a45) := by
  constructor
  intro R S k t0 H f g h
  exact g33_p0_lin la46 la45 (fun t2 H =>
    h _ _)
theorem g33_fn (a46 : T46) (a45 : T45) (la46 : Lin46 a46) (la45 : Lin45 a45) {R : Type} (t0 : Sl) (H : Heap) (K : V → Heap → Option R) : evFn Tryd.prog (E33 a46 a45) loopLim Tryd.f33 kp33 [(V.sl t0)] H K = g33_r a46 a45 R t0 H (fun r0 H => K (V.sl r0) H) := by
  have h0 : ∀ (t2 : Sl) (H : Heap), kFn Tryd.prog Tryd.f33.results.toList K .ret [(2, (V.sl t2))] H =
      K (V.sl t2) H := by intros; kernel_rfl
  have e0 := evFn_code2 (P := Tryd.prog) (c := c33_0) (E := (E33 a46 a45)) (lr := loopLim) (kp := kp33) (fn := Tryd.f33) (args := [(V.sl t0)]) H K (by kernel_rfl) (Nat.le_of_ble_eq_true (by kernel_rfl)) (by kernel_rfl)
  have e1 : ev Tryd.prog (E33 a46 a45) loopLim Tryd.f33.ntmps kp33 c33_0 (argFr 0 [(V.sl t0)]) H (kFn Tryd.prog Tryd.f33.results.toList K) = ev Tryd.prog (E33 a46 a45) loopLim Tryd.f33.ntmps kp33 c33_0 [(0, (V.sl t0))] H (kFn Tryd.prog Tryd.f33.results.toList K) := by kernel_rfl
  refine (e0.trans e1).trans ?_
  delta g33_r
  exact (g33_p0_eq a46 a45 la46 la45 t0 H (kFn Tryd.prog Tryd.f33.results.toList K)).trans (congrArg (g33_p0 a46 a45 R t0 H) (funext fun t2 => funext fun H => h0 t2 H))
theorem g33_ok {a46 : T46} {a45 : T45} (oa46 : FunOK Tryd.prog 46 (w46 a46)) (oa45 : FunOK Tryd.prog 45 (w45 a45)) (la46 : Lin46 a46) (la45 : Lin45 a45) : FunOK Tryd.prog 33 (w33 (g33_r a46 a45)) := by
  refine (runF_ok (E33_good oa46 oa45 la46 la45) mixed lim_ok Tryd.func33 (by kernel_rfl) kp33).of_le fun R args H K r hk => ?_
  unfold w33 at hk
  split at hk
  · exact (g33_fn a46 a45 la46 la45 _ H K).trans hk
  · cases hk
def kp24 : Nat → Option (List Nat) := kpOf [(0, [0, 2]), (1, [0, 2, 7]), (2, [2, 3]), (3, [0, 2, 12]), (4, [2, 3]), (5, [0, 2, 4]), (6, [0, 2, 4, 17]), (7, [0, 2, 4, 17, 18]), (8, [0, 2, 4, 5, 17]), (9, [0, 2, 4, 17]), (10, [0, 2, 4, 17]), (11, [0, 2, 6]), (12, [2, 3]), (100000, [0, 2]), (100001, [0, 2, 4]), (100002, [0, 2, 4, 17]), (200000, [0, 2]), (200001, [0, 2, 4, 17]), (200002, [0, 2, 4, 17]), (300000, [2, 3]), (400007, [0, 2]), (400012, [0, 2]), (400018, [0, 2, 4, 17])]
def E24 (a33 : T33) : FEnv := [(33, w33 a33)]
theorem E24_good {a33 : T33} (oa33 : FunOK Tryd.prog 33 (w33 a33)) (la33 : Lin33 a33) : EnvGood Tryd.prog (E24 a33) := ((EnvGood.nil _).cons oa33 (w33_lin la33))
theorem E24_lin {a33 : T33} (la33 : Lin33 a33) : EnvLin (E24 a33) := by
  intro g F h
  simp only [E24, List.mem_cons, List.not_mem_nil, or_false] at h
  rcases h with h
  · cases h; exact w33_lin la33
noncomputable def b24 : Code := Tryd.f24.body.getD .skip
noncomputable def c24_0 : Code := (.seq (codeAt [1, 1, 1, 0, 1, 0, 0, 0] b24) (.seq (.cond (.tmp 18) .skip (.exit 1)) (.seq (.block 2 (.seq (codeAt [1, 1, 1, 0, 1, 0, 0, 1, 1, 0, 0, 0] b24) (codeAt [1, 1, 1, 0, 1, 0, 0, 1, 1, 0, 0, 1] b24))) (codeAt [1, 1, 1, 0, 1, 0, 0, 1, 1, 1] b24))))
noncomputable def c24_1 : Code := (.loop c24_0)
noncomputable def c24_2 : Code := (.block 1 c24_1)
noncomputable def c24_3 : Code := (.seq (codeAt [1, 1, 1, 1, 0] b24) (.seq (codeAt [1, 1, 1, 1, 1, 0] b24) .ret))
noncomputable def c24_4 : Code := (.seq c24_2 c24_3)
noncomputable def c24_5 : Code := (.seq (codeAt [0] b24) (.seq (.block 0 (.seq (codeAt [1, 0, 0, 0] b24) (.cond (.tmp 7) (.seq (codeAt [1, 0, 0, 1, 0, 0] b24) .ret) (.seq (codeAt [1, 0, 0, 1, 1, 0] b24) (.cond (.tmp 12) (.seq (codeAt [1, 0, 0, 1, 1, 1, 0, 0] b24) .ret) .skip))))) (.seq (codeAt [1, 1, 0] b24) (.seq (codeAt [1, 1, 1, 0, 0] b24) c24_4))))
noncomputable def g24_p0 (a33 : T33) (R : Type) (t0 : Sl) (H : Heap) (kN : Sl → Nat → Nat → Int → Int → Heap → Option R) (kR : Nat → Nat → Int → Heap → Option R) : Option R :=
  alo H (.cells [(V.i .u8 (0 : Int)), (V.i .u8 (0 : Int)), (V.i .u8 (0 : Int)), (V.i .u16 (0 : Int)), (V.i .u16 (0 : Int)), (V.i .u8 (0 : Int)), (V.sl (Sl.mk none 0 (.ex 0)))] 38 false) fun i11 h12 =>
  sel (decide (((t0.len : Nat) : Int) < (5 : Int))) (
    ((h12).sts i11 0 [(V.i .u8 (0 : Int)), (V.i .u8 (0 : Int)), (V.i .u8 (0 : Int)), (V.i .u16 (0 : Int)), (V.i .u16 (0 : Int)), (V.i .u8 (0 : Int)), (V.sl (Sl.mk none 0 (.ex 0)))]).bind fun h13 =>
    kR i11 0 (4 : Int) h13) (
    sel (decide (((t0.len : Nat) : Int) > (273 : Int))) (
      ((h12).sts i11 0 [(V.i .u8 (0 : Int)), (V.i .u8 (0 : Int)), (V.i .u8 (0 : Int)), (V.i .u16 (0 : Int)), (V.i .u16 (0 : Int)), (V.i .u8 (0 : Int)), (V.sl (Sl.mk none 0 (.ex 0)))]).bind fun h14 =>
      kR i11 0 (3 : Int) h14) (
      kN t0 i11 0 (0 : Int) (0 : Int) h12))
theorem g24_p0_eq (a33 : T33) {R : Type} (c2 : Code) (t0 : Sl) (H : Heap) (K : Ex → Fr → Heap → Option R) : ev Tryd.prog (E24 a33) loopLim Tryd.f24.ntmps kp24 (.seq (codeAt [0] b24) (.seq (.block 0 (.seq (codeAt [1, 0, 0, 0] b24) (.cond (.tmp 7) (.seq (codeAt [1, 0, 0, 1, 0, 0] b24) .ret) (.seq (codeAt [1, 0, 0, 1, 1, 0] b24) (.cond (.tmp 12) (.seq (codeAt [1, 0, 0, 1, 1, 1, 0, 0] b24) .ret) .skip))))) (.seq (codeAt [1, 1, 0] b24) (.seq (codeAt [1, 1, 1, 0, 0] b24) c2)))) [(0, (V.sl t0))] H K = g24_p0 a33 R t0 H (fun t0 t2_0 t2_1 t4 t17 H => ev Tryd.prog (E24 a33) loopLim Tryd.f24.ntmps kp24 c2 [(0, (V.sl t0)), (2, (V.p (some (t2_0, t2_1)))), (4, (V.i .u32 t4)), (17, (V.i .i64 t17))] H K) (fun t2_0 t2_1 t3 H => K .ret [(2, (V.p (some (t2_0, t2_1)))), (3, (V.i .i64 t3))] H) := by kernel_rfl
theorem g24_p0_lin {a33 : T33} (la33 : Lin33 a33) {R S : Type} {k : S → Option R} {t0 : Sl} {H : Heap} {fkN : Sl → Nat → Nat → Int → Int → Heap → Option R} {gkN : Sl → Nat → Nat → Int → Int → Heap → Option S} {fkR : Nat → Nat → Int → Heap → Option R} {gkR : Nat → Nat → Int → Heap → Option S} (hkN : ∀ t0 t2_0 t2_1 t4 t17 H, fkN t0 t2_0 t2_1 t4 t17 H = (gkN t0 t2_0 t2_1 t4 t17 H).bind k) (hkR : ∀ t2_0 t2_1 t3 H, fkR t2_0 t2_1 t3 H = (gkR t2_0 t2_1 t3 H).bind k) : g24_p0 a33 R t0 H fkN fkR = (g24_p0 a33 S t0 H gkN gkR).bind k := by
  delta g24_p0; exact (
    alo_lin fun i11 h12 =>
    sl_lin (
      bl fun h13 =>
      hkR _ _ _ _) (
      sl_lin (
        bl fun h14 =>
        hkR _ _ _ _) (
        hkN _ _ _ _ _ _)))
noncomputable def g24_p1 (a33 : T33) (R : Type) (t0 : Sl) (t2_0 : Nat) (t2_1 : Nat) (t4 : Int) (t17 : Int) (H : Heap) (kN : Sl → Nat → Nat → Int → Int → Heap → Option R) (kE1 : Sl → Nat → Nat → Int → Heap → Option R) : Option R :=
  sel (decide (t17 < (4 : Int))) (
    if 0 ≤ (IntKind.wrap .i64 ((1 : Int) + t17)) ∧ (IntKind.wrap .i64 ((1 : Int) + t17)) < ((t0.len : Nat) : Int) then (
      (t0.a).bind fun q15 =>
      ((H).ldI .u8 q15.1 (q15.2 + Int.toNat (IntKind.wrap .i64 ((1 : Int) + t17)) * 1)).bind fun x16 =>
      if (IntKind.wrap .i64 ((8 : Int) * t17)) < 0 then (
        none)
      else (
        kN t0 t2_0 t2_1 (bvOr .u32 t4 (shlI .u32 (IntKind.wrap .u32 x16) (IntKind.wrap .i64 ((8 : Int) * t17)))) (IntKind.wrap .i64 (t17 + (1 : Int))) H))
    else (
      none)) (
    kE1 t0 t2_0 t2_1 t4 H)
theorem g24_p1_eq (a33 : T33) (la33 : Lin33 a33) {R : Type} (t0 : Sl) (t2_0 : Nat) (t2_1 : Nat) (t4 : Int) (t17 : Int) (H : Heap) (K : Ex → Fr → Heap → Option R) : ev Tryd.prog (E24 a33) loopLim Tryd.f24.ntmps kp24 c24_0 [(0, (V.sl t0)), (2, (V.p (some (t2_0, t2_1)))), (4, (V.i .u32 t4)), (17, (V.i .i64 t17))] H K = g24_p1 a33 R t0 t2_0 t2_1 t4 t17 H (fun t0 t2_0 t2_1 t4 t17 H => K .normal [(0, (V.sl t0)), (2, (V.p (some (t2_0, t2_1)))), (4, (V.i .u32 t4)), (17, (V.i .i64 t17))] H) (fun t0 t2_0 t2_1 t4 H => K (.exit 1) [(0, (V.sl t0)), (2, (V.p (some (t2_0, t2_1)))), (4, (V.i .u32 t4))] H) := by kernel_rfl
theorem g24_p1_lin {a33 : T33} (la33 : Lin33 a33) {R S : Type} {k : S → Option R} {t0 : Sl} {t2_0 : Nat} {t2_1 : Nat} {t4 : Int} {t17 : Int} {H : Heap} {fkN : Sl → Nat → Nat → Int → Int → Heap → Option R} {gkN : Sl → Nat → Nat → Int → Int → Heap → Option S} {fkE1 : Sl → Nat → Nat → Int → Heap → Option R} {gkE1 : Sl → Nat → Nat → Int → Heap → Option S} (hkN : ∀ t0 t2_0 t2_1 t4 t17 H, fkN t0 t2_0 t2_1 t4 t17 H = (gkN t0 t2_0 t2_1 t4 t17 H).bind k) (hkE1 : ∀ t0 t2_0 t2_1 t4 H, fkE1 t0 t2_0 t2_1 t4 H = (gkE1 t0 t2_0 t2_1 t4 H).bind k) : g24_p1 a33 R t0 t2_0 t2_1 t4 t17 H fkN fkE1 = (g24_p1 a33 S t0 t2_0 t2_1 t4 t17 H gkN gkE1).bind k := by
  delta g24_p1; exact (
    sl_lin (
      il (
        bl fun q15 =>
        bl fun x16 =>
        il (
          rfl) (
          hkN _ _ _ _ _ _)) (
        rfl)) (
      hkE1 _ _ _ _ _))
abbrev g24_p2_S := Sl × Nat × Nat × Int × Int
abbrev g24_p2_O := Sl × Nat × Nat × Int
def g24_p2_es (s : g24_p2_S) : Fr := [(0, (V.sl s.1)), (2, (V.p (some (s.2.1, s.2.2.1)))), (4, (V.i .u32 s.2.2.2.1)), (17, (V.i .i64 s.2.2.2.2))]
def g24_p2_er (r : g24_p2_O) : Ex × Fr := ((.exit 1), [(0, (V.sl r.1)), (2, (V.p (some (r.2.1, r.2.2.1)))), (4, (V.i .u32 r.2.2.2))])
noncomputable def g24_p2_b (a33 : T33) (s : g24_p2_S) (H : Heap) : Option (Rd g24_p2_S g24_p2_O × Heap) :=
  g24_p1 a33 _ s.1 s.2.1 s.2.2.1 s.2.2.2.1 s.2.2.2.2 H (fun t0 t2_0 t2_1 t4 t17 H => some (.go (t0, t2_0, t2_1, t4, t17), H)) (fun t0 t2_0 t2_1 t4 H => some (.up (t0, t2_0, t2_1, t4), H))
noncomputable def g24_p2 (a33 : T33) (R : Type) (t0 : Sl) (t2_0 : Nat) (t2_1 : Nat) (t4 : Int) (t17 : Int) (H : Heap) (kE1 : Sl → Nat → Nat → Int → Heap → Option R) : Option R :=
  (tlim (g24_p2_b a33) (t0, t2_0, t2_1, t4, t17) H).bind fun p => kE1 p.1.1 p.1.2.1 p.1.2.2.1 p.1.2.2.2 p.2
theorem g24_p2_lin {a33 : T33} (la33 : Lin33 a33) {R S : Type} {k : S → Option R} {t0 : Sl} {t2_0 : Nat} {t2_1 : Nat} {t4 : Int} {t17 : Int} {H : Heap} {fkE1 : Sl → Nat → Nat → Int → Heap → Option R} {gkE1 : Sl → Nat → Nat → Int → Heap → Option S} (hkE1 : ∀ t0 t2_0 t2_1 t4 H, fkE1 t0 t2_0 t2_1 t4 H = (gkE1 t0 t2_0 t2_1 t4 H).bind k) : g24_p2 a33 R t0 t2_0 t2_1 t4 t17 H fkE1 = (g24_p2 a33 S t0 t2_0 t2_1 t4 t17 H gkE1).bind k := by
  exact bl fun p => hkE1 _ _ _ _ _
theorem g24_p2_eq (a33 : T33) (la33 : Lin33 a33) {R : Type} (t0 : Sl) (t2_0 : Nat) (t2_1 : Nat) (t4 : Int) (t17 : Int) (H : Heap) (K : Ex → Fr → Heap → Option R) : ev Tryd.prog (E24 a33) loopLim Tryd.f24.ntmps kp24 c24_1 [(0, (V.sl t0)), (2, (V.p (some (t2_0, t2_1)))), (4, (V.i .u32 t4)), (17, (V.i .i64 t17))] H K = g24_p2 a33 R t0 t2_0 t2_1 t4 t17 H (fun t0 t2_0 t2_1 t4 H => K (.exit 1) [(0, (V.sl t0)), (2, (V.p (some (t2_0, t2_1)))), (4, (V.i .u32 t4))] H) := by
  show ev Tryd.prog (E24 a33) loopLim Tryd.f24.ntmps kp24 (.loop c24_0) [(0, (V.sl t0)), (2, (V.p (some (t2_0, t2_1)))), (4, (V.i .u32 t4)), (17, (V.i .i64 t17))] H K = _
  delta g24_p2
  refine (ev_tlim (b := g24_p2_b a33) (es := g24_p2_es) (er := g24_p2_er) (by intro r; exact nofun) (fun s H => ?_) (t0, t2_0, t2_1, t4, t17) H K).trans (bc fun p => rfl)
  exact (g24_p1_eq a33 la33 s.1 s.2.1 s.2.2.1 s.2.2.2.1 s.2.2.2.2 H ret3).trans (g24_p1_lin la33 (fun _ _ _ _ _ _ => rfl) (fun _ _ _ _ _ => rfl))
noncomputable def g24_p3 (a33 : T33) (R : Type) (t0 : Sl) (t2_0 : Nat) (t2_1 : Nat) (t4 : Int) (t17 : Int) (H : Heap) (kN : Sl → Nat → Nat → Int → Heap → Option R) : Option R :=
  g24_p2 a33 R t0 t2_0 t2_1 t4 t17 H (fun t0 t2_0 t2_1 t4 H => kN t0 t2_0 t2_1 t4 H)
theorem g24_p3_lin {a33 : T33} (la33 : Lin33 a33) {R S : Type} {k : S → Option R} {t0 : Sl} {t2_0 : Nat} {t2_1 : Nat} {t4 : Int} {t17 : Int} {H : Heap} {fkN : Sl → Nat → Nat → Int → Heap → Option R} {gkN : Sl → Nat → Nat → Int → Heap → Option S} (hkN : ∀ t0 t2_0 t2_1 t4 H, fkN t0 t2_0 t2_1 t4 H = (gkN t0 t2_0 t2_1 t4 H).bind k) : g24_p3 a33 R t0 t2_0 t2_1 t4 t17 H fkN = (g24_p3 a33 S t0 t2_0 t2_1 t4 t17 H gkN).bind k := by
  exact g24_p2_lin la33 (fun _ _ _ _ _ => hkN _ _ _ _ _)
theorem g24_p3_eq (a33 : T33) (la33 : Lin33 a33) {R : Type} (t0 : Sl) (t2_0 : Nat) (t2_1 : Nat) (t4 : Int) (t17 : Int) (H : Heap) (K : Ex → Fr → Heap → Option R) : ev Tryd.prog (E24 a33) loopLim Tryd.f24.ntmps kp24 c24_2 [(0, (V.sl t0)), (2, (V.p (some (t2_0, t2_1)))), (4, (V.i .u32 t4)), (17, (V.i .i64 t17))] H K = g24_p3 a33 R t0 t2_0 t2_1 t4 t17 H (fun t0 t2_0 t2_1 t4 H => K .normal [(0, (V.sl t0)), (2, (V.p (some (t2_0, t2_1)))), (4, (V.i .u32 t4))] H) := by
  show ev Tryd.prog (E24 a33) loopLim Tryd.f24.ntmps kp24 (.block 1 c24_1) [(0, (V.sl t0)), (2, (V.p (some (t2_0, t2_1)))), (4, (V.i .u32 t4)), (17, (V.i .i64 t17))] H K = _
  rw [ev_block]
  delta g24_p3
  exact (g24_p2_eq a33 la33 t0 t2_0 t2_1 t4 t17 H (kBlock kp24 1 K))
noncomputable def g24_p4 (a33 : T33) (R : Type) (t0 : Sl) (t2_0 : Nat) (t2_1 : Nat) (t4 : Int) (H : Heap) (kR : Nat → Nat → Int → Heap → Option R) : Option R :=
  alo H (.cells [(V.i .u16 (0 : Int)), (V.i .u16 (0 : Int)), (V.i .u8 (0 : Int))] 35 false) fun i17 h18 =>
  ((h18).sts i17 0 [(V.i .u16 (IntKind.wrap .u16 (bvAnd .u32 t4 (16383 : Int)))), (V.i .u16 (IntKind.wrap .u16 (bvAnd .u32 (shrI .u32 t4 (14 : Int)) (16383 : Int)))), (V.i .u8 (IntKind.wrap .u8 (shrI .u32 t4 (28 : Int))))]).bind fun h19 =>
  if 0 ≤ (0 : Int) ∧ (0 : Int) < ((t0.len : Nat) : Int) then (
    (t0.a).bind fun q20 =>
    ((h19).ldI .u8 q20.1 (q20.2 + Int.toNat (0 : Int) * 1)).bind fun x21 =>
    if 0 ≤ (0 : Int) ∧ (0 : Int) < ((t0.len : Nat) : Int) then (
      (t0.a).bind fun q22 =>
      ((h19).ldI .u8 q22.1 (q22.2 + Int.toNat (0 : Int) * 1)).bind fun x23 =>
      if 0 ≤ (0 : Int) ∧ (0 : Int) < ((t0.len : Nat) : Int) then (
        (t0.a).bind fun q24 =>
        ((h19).ldI .u8 q24.1 (q24.2 + Int.toNat (0 : Int) * 1)).bind fun x25 =>
        ((h19).ldI .u16 i17 (0 + 0)).bind fun x26 =>
        ((h19).ldI .u16 i17 (0 + 1)).bind fun x27 =>
        ((h19).ldI .u8 i17 (0 + 2)).bind fun x28 =>
        slOf 1 t0 (some (5 : Int)) none none fun s29 =>
        a33 R s29 h19 fun x30 h31 =>
        ((h31).ldI .u16 i17 (0 + 0)).bind fun x32 =>
        ((h31).ldI .u16 i17 (0 + 1)).bind fun x33 =>
        ((h31).ldI .u8 i17 (0 + 2)).bind fun x34 =>
        if V.same (V.agg [(V.i .u16 x26), (V.i .u16 x27), (V.i .u8 x28)]) (V.agg [(V.i .u16 x32), (V.i .u16 x33), (V.i .u8 x34)]) = true then (
          ((h31).ldI .u8 q24.1 (q24.2 + Int.toNat (0 : Int) * 1)).bind fun x35 =>
          if V.same (V.i .u8 x25) (V.i .u8 x35) = true then (
            ((h31).ldI .u8 q22.1 (q22.2 + Int.toNat (0 : Int) * 1)).bind fun x36 =>
            if V.same (V.i .u8 x23) (V.i .u8 x36) = true then (
              ((h31).ldI .u8 q20.1 (q20.2 + Int.toNat (0 : Int) * 1)).bind fun x37 =>
              if V.same (V.i .u8 x21) (V.i .u8 x37) = true then (
                ((h31).sts t2_0 t2_1 [(V.i .u8 (bvAnd .u8 x21 (15 : Int))), (V.i .u8 (shrI .u8 x25 (6 : Int))), (V.i .u8 (bvAnd .u8 (shrI .u8 x23 (4 : Int)) (3 : Int))), (V.i .u16 x26), (V.i .u16 x27), (V.i .u8 x28), (V.sl x30)]).bind fun h38 =>
                kR t2_0 t2_1 (0 : Int) h38)
              else (
                none))
            else (
              none))
          else (
            none))
        else (
          none))
      else (
        none))
    else (
      none))
  else (
    none)
theorem g24_p4_eq (a33 : T33) (la33 : Lin33 a33) {R : Type} (t0 : Sl) (t2_0 : Nat) (t2_1 : Nat) (t4 : Int) (H : Heap) (K : Ex → Fr → Heap → Option R) : ev Tryd.prog (E24 a33) loopLim Tryd.f24.ntmps kp24 c24_3 [(0, (V.sl t0)), (2, (V.p (some (t2_0, t2_1)))), (4, (V.i .u32 t4))] H K = g24_p4 a33 R t0 t2_0 t2_1 t4 H (fun t2_0 t2_1 t3 H => K .ret [(2, (V.p (some (t2_0, t2_1)))), (3, (V.i .i64 t3))] H) := by kernel_rfl
theorem g24_p4_lin {a33 : T33} (la33 : Lin33 a33) {R S : Type} {k : S → Option R} {t0 : Sl} {t2_0 : Nat} {t2_1 : Nat} {t4 : Int} {H : Heap} {fkR : Nat → Nat → Int → Heap → Option R} {gkR : Nat → Nat → Int → Heap → Option S} (hkR : ∀ t2_0 t2_1 t3 H, fkR t2_0 t2_1 t3 H = (gkR t2_0 t2_1 t3 H).bind k) : g24_p4 a33 R t0 t2_0 t2_1 t4 H fkR = (g24_p4 a33 S t0 t2_0 t2_1 t4 H gkR).bind k := by
  delta g24_p4; exact (
    alo_lin fun i17 h18 =>
    bl fun h19 =>
    il (
      bl fun q20 =>
      bl fun x21 =>
      il (
        bl fun q22 =>
        bl fun x23 =>
        il (
          bl fun q24 =>
          bl fun x25 =>
          bl fun x26 =>
          bl fun x27 =>
          bl fun x28 =>
          slOf_lin fun s29 =>
          la33.l fun x30 h31 =>
          bl fun x32 =>
          bl fun x33 =>
          bl fun x34 =>
          il (
            bl fun x35 =>
            il (
              bl fun x36 =>
              il (
                bl fun x37 =>
                il (
                  bl fun h38 =>
                  hkR _ _ _ _) (
                  rfl)) (
                rfl)) (
              rfl)) (
            rfl)) (
          rfl)) (
        rfl)) (
      rfl))
noncomputable def g24_p5 (a33 : T33) (R : Type) (t0 : Sl) (t2_0 : Nat) (t2_1 : Nat) (t4 : Int) (t17 : Int) (H : Heap) (kR : Nat → Nat → Int → Heap → Option R) : Option R :=
  g24_p3 a33 R t0 t2_0 t2_1 t4 t17 H (fun t0 t2_0 t2_1 t4 H => g24_p4 a33 R t0 t2_0 t2_1 t4 H (fun t2_0 t2_1 t3 H => kR t2_0 t2_1 t3 H))
theorem g24_p5_lin {a33 : T33} (la33 : Lin33 a33) {R S : Type} {k : S → Option R} {t0 : Sl} {t2_0 : Nat} {t2_1 : Nat} {t4 : Int} {t17 : Int} {H : Heap} {fkR : Nat → Nat → Int → Heap → Option R} {gkR : Nat → Nat → Int → Heap → Option S} (hkR : ∀ t2_0 t2_1 t3 H, fkR t2_0 t2_1 t3 H = (gkR t2_0 t2_1 t3 H).bind k) : g24_p5 a33 R t0 t2_0 t2_1 t4 t17 H fkR = (g24_p5 a33 S t0 t2_0 t2_1 t4 t17 H gkR).bind k := by
  exact g24_p3_lin la33 (fun _ _ _ _ _ => g24_p4_lin la33 (fun _ _ _ _ => hkR _ _ _ _))
theorem g24_p5_eq (a33 : T33) (la33 : Lin33 a33) {R : Type} (t0 : Sl) (t2_0 : Nat) (t2_1 : Nat) (t4 : Int) (t17 : Int) (H : Heap) (K : Ex → Fr → Heap → Option R) : ev Tryd.prog (E24 a33) loopLim Tryd.f24.ntmps kp24 c24_4 [(0, (V.sl t0)), (2, (V.p (some (t2_0, t2_1)))), (4, (V.i .u32 t4)), (17, (V.i .i64 t17))] H K = g24_p5 a33 R t0 t2_0 t2_1 t4 t17 H (fun t2_0 t2_1 t3 H => K .ret [(2, (V.p (some (t2_0, t2_1)))), (3, (V.i .i64 t3))] H) := by
  show ev Tryd.prog (E24 a33) loopLim Tryd.f24.ntmps kp24 (.seq c24_2 c24_3) [(0, (V.sl t0)), (2, (V.p (some (t2_0, t2_1)))), (4, (V.i .u32 t4)), (17, (V.i .i64 t17))] H K = _
  rw [ev_seq]
  delta g24_p5
  exact (g24_p3_eq a33 la33 t0 t2_0 t2_1 t4 t17 H (kSeq (fun fr H => ev Tryd.prog (E24 a33) loopLim Tryd.f24.ntmps kp24 c24_3 fr H K) K)).trans (congrArg (g24_p3 a33 R t0 t2_0 t2_1 t4 t17 H) (funext fun t0 => funext fun t2_0 => funext fun t2_1 => funext fun t4 => funext fun H => (kSeq_n _ _ _ _).trans (g24_p4_eq a33 la33 t0 t2_0 t2_1 t4 H K)))
noncomputable def g24_p6 (a33 : T33) (R : Type) (t0 : Sl) (H : Heap) (kR : Nat → Nat → Int → Heap → Option R) : Option R :=
  g24_p0 a33 R t0 H (fun t0 t2_0 t2_1 t4 t17 H => g24_p5 a33 R t0 t2_0 t2_1 t4 t17 H (fun t2_0 t2_1 t3 H => kR t2_0 t2_1 t3 H)) (fun t2_0 t2_1 t3 H => kR t2_0 t2_1 t3 H)
theorem g24_p6_lin {a33 : T33} (la33 : Lin33 a33) {R S : Type} {k : S → Option R} {t0 : Sl} {H : Heap} {fkR : Nat → Nat → Int → Heap → Option R} {gkR : Nat → Nat → Int → Heap → Option S} (hkR : ∀ t2_0 t2_1 t3 H, fkR t2_0 t2_1 t3 H = (gkR t2_0 t2_1 t3 H).bind k) : g24_p6 a33 R t0 H fkR = (g24_p6 a33 S t0 H gkR).bind k := by
  exact g24_p0_lin la33 (fun _ _ _ _ _ _ => g24_p5_lin la33 (fun _ _ _ _ => hkR _ _ _ _)) (fun _ _ _ _ => hkR _ _ _ _)
theorem g24_p6_eq (a33 : T33) (la33 : Lin33 a33) {R : Type} (t0 : Sl) (H : Heap) (K : Ex → Fr → Heap → Option R) : ev Tryd.prog (E24 a33) loopLim Tryd.f24.ntmps kp24 c24_5 [(0, (V.sl t0))] H K = g24_p6 a33 R t0 H (fun t2_0 t2_1 t3 H => K .ret [(2, (V.p (some (t2_0, t2_1)))), (3, (V.i .i64 t3))] H) := by
  show ev Tryd.prog (E24 a33) loopLim Tryd.f24.ntmps kp24 (.seq (codeAt [0] b24) (.seq (.block 0 (.seq (codeAt [1, 0, 0, 0] b24) (.cond (.tmp 7) (.seq (codeAt [1, 0, 0, 1, 0, 0] b24) .ret) (.seq (codeAt [1, 0, 0, 1, 1, 0] b24) (.cond (.tmp 12) (.seq (codeAt [1, 0, 0, 1, 1, 1, 0, 0] b24) .ret) .skip))))) (.seq (codeAt [1, 1, 0] b24) (.seq (codeAt [1, 1, 1, 0, 0] b24) c24_4)))) [(0, (V.sl t0))] H K = _
  delta g24_p6
  exact (g24_p0_eq a33 _ t0 H K).trans (congr (congrArg (g24_p0 a33 R t0 H) (funext fun t0 => funext fun t2_0 => funext fun t2_1 => funext fun t4 => funext fun t17 => funext fun H => g24_p5_eq a33 la33 t0 t2_0 t2_1 t4 t17 H K)) rfl)
noncomputable def g24_r (a33 : T33) : T24 := fun R t0 H K =>
  g24_p6 a33 R t0 H (fun t2_0 t2_1 t3 H =>
    ((H).ldI .u8 t2_0 (t2_1 + 0)).bind fun x39 =>
    ((H).ldI .u8 t2_0 (t2_1 + 1)).bind fun x40 =>
    ((H).ldI .u8 t2_0 (t2_1 + 2)).bind fun x41 =>
    ((H).ldI .u16 t2_0 (t2_1 + 3)).bind fun x42 =>
    ((H).ldI .u16 t2_0 (t2_1 + 4)).bind fun x43 =>
    ((H).ldI .u8 t2_0 (t2_1 + 5)).bind fun x44 =>
    ((H).ldSl t2_0 (t2_1 + 6)).bind fun x45 =>
    K x39 x40 x41 x42 x43 x44 x45 t3 H)
theorem g24_r_lin {a33 : T33} (la33 : Lin33 a33) : Lin24 (g24_r a33) := by
  constructor
  intro R S k t0 H f g h
  exact g24_p6_lin la33 (fun t2_0 t2_1 t3 H =>
    bl fun x39 =>
    bl fun x40 =>
    bl fun x41 =>
    bl fun x42 =>
    bl fun x43 =>
    bl fun x44 =>
    bl fun x45 =>
    h _ _ _ _ _ _ _ _ _)
theorem g24_fn (a33 : T33) (la33 : Lin33 a33) {R : Type} (t0 : Sl) (H : Heap) (K : V → Heap → Option R) : evFn Tryd.prog (E24 a33) loopLim Tryd.f24 kp24 [(V.sl t0)] H K = g24_r a33 R t0 H (fun r0_0 r0_1 r0_2 r0_3 r0_4 r0_5 r0_6 r1 H => K (V.tup [(V.agg [(V.i .u8 r0_0), (V.i .u8 r0_1), (V.i .u8 r0_2), (V.i .u16 r0_3), (V.i .u16 r0_4), (V.i .u8 r0_5), (V.sl r0_6)]), (V.i .i64 r1)]) H) := by
  have h0 : ∀ (t2_0 : Nat) (t2_1 : Nat) (t3 : Int) (H : Heap), kFn Tryd.prog Tryd.f24.results.toList K .ret [(2, (V.p (some (t2_0, t2_1)))), (3, (V.i .i64 t3))] H =
      ((H).ldI .u8 t2_0 (t2_1 + 0)).bind fun x39 =>
      ((H).ldI .u8 t2_0 (t2_1 + 1)).bind fun x40 =>
      ((H).ldI .u8 t2_0 (t2_1 + 2)).bind fun x41 =>
      ((H).ldI .u16 t2_0 (t2_1 + 3)).bind fun x42 =>
      ((H).ldI .u16 t2_0 (t2_1 + 4)).bind fun x43 =>
      ((H).ldI .u8 t2_0 (t2_1 + 5)).bind fun x44 =>
      ((H).ldSl t2_0 (t2_1 + 6)).bind fun x45 =>
      K (V.tup [(V.agg [(V.i .u8 x39), (V.i .u8 x40), (V.i .u8 x41), (V.i .u16 x42), (V.i .u16 x43), (V.i .u8 x44), (V.sl x45)]), (V.i .i64 t3)]) H := by intros; kernel_rfl
  have e0 := evFn_code2 (P := Tryd.prog) (c := c24_5) (E := (E24 a33)) (lr := loopLim) (kp := kp24) (fn := Tryd.f24) (args := [(V.sl t0)]) H K (by kernel_rfl) (Nat.le_of_ble_eq_true (by kernel_rfl)) (by kernel_rfl)
  have e1 : ev Tryd.prog (E24 a33) loopLim Tryd.f24.ntmps kp24 c24_5 (argFr 0 [(V.sl t0)]) H (kFn Tryd.prog Tryd.f24.results.toList K) = ev Tryd.prog (E24 a33) loopLim Tryd.f24.ntmps kp24 c24_5 [(0, (V.sl t0))] H (kFn Tryd.prog Tryd.f24.results.toList K) := by kernel_rfl
  refine (e0.trans e1).trans ?_
  delta g24_r
  exact (g24_p6_eq a33 la33 t0 H (kFn Tryd.prog Tryd.f24.results.toList K)).trans (congrArg (g24_p6 a33 R t0 H) (funext fun t2_0 => funext fun t2_1 => funext fun t3 => funext fun H => h0 t2_0 t2_1 t3 H))
theorem g24_ok {a33 : T33} (oa33 : FunOK Tryd.prog 33 (w33 a33)) (la33 : Lin33 a33) : FunOK Tryd.prog 24 (w24 (g24_r a33)) := by
  refine (runF_ok (E24_good oa33 la33) mixed lim_ok Tryd.func24 (by kernel_rfl) kp24).of_le fun R args H K r hk => ?_
  unfold w24 at hk
  split at hk
  · exact (g24_fn a33 la33 _ H K).trans hk
  · cases hk
def kp25 : Nat → Option (List Nat) := kpOf [(0, [2, 3]), (1, [4]), (300000, [4])]
def E25 : FEnv := []
theorem E25_good : EnvGood Tryd.prog E25 := (EnvGood.nil _)
theorem E25_lin : EnvLin E25 := fun g F h => by cases h
noncomputable def b25 : Code := Tryd.f25.body.getD .skip
noncomputable def c25_0 : Code := (.seq (codeAt [0] b25) (.seq (codeAt [1, 0] b25) .ret))
noncomputable def g25_p0 (R : Type) (t0_0 : Int) (t0_1 : Int) (t0_2 : Int) (t0_3 : Int) (t0_4 : Int) (t0_5 : Int) (t0_6 : Sl) (t1_0 : Int) (t1_1 : Int) (t1_2 : Int) (t1_3 : Int) (t1_4 : Int) (t1_5 : Int) (t1_6 : Sl) (H : Heap) (kR : Bool → Heap → Option R) : Option R :=
  alo H (.cells [(V.i .u8 t0_0), (V.i .u8 t0_1), (V.i .u8 t0_2), (V.i .u16 t0_3), (V.i .u16 t0_4), (V.i .u8 t0_5), (V.sl t0_6)] 38 false) fun i1 h2 =>
  alo h2 (.cells [(V.i .u8 t1_0), (V.i .u8 t1_1), (V.i .u8 t1_2), (V.i .u16 t1_3), (V.i .u16 t1_4), (V.i .u8 t1_5), (V.sl t1_6)] 38 false) fun i3 h4 =>
  ((h4).ldI .u8 i1 (0 + 0)).bind fun x5 =>
  ((h4).ldI .u8 i3 (0 + 0)).bind fun x6 =>
  sel (x5 == x6) (
    ((h4).ldI .u8 i1 (0 + 1)).bind fun x7 =>
    ((h4).ldI .u8 i3 (0 + 1)).bind fun x8 =>
    sel (x7 == x8) (
      ((h4).ldI .u8 i1 (0 + 2)).bind fun x9 =>
      ((h4).ldI .u8 i3 (0 + 2)).bind fun x10 =>
      sel (x9 == x10) (
        ((h4).ldI .u16 i1 ((0 + 3) + 0)).bind fun x11 =>
        ((h4).ldI .u16 i1 ((0 + 3) + 1)).bind fun x12 =>
        ((h4).ldI .u8 i1 ((0 + 3) + 2)).bind fun x13 =>
        ((h4).ldI .u16 i3 ((0 + 3) + 0)).bind fun x14 =>
        ((h4).ldI .u16 i3 ((0 + 3) + 1)).bind fun x15 =>
        ((h4).ldI .u8 i3 ((0 + 3) + 2)).bind fun x16 =>
        sel ((x11 == x14) && ((x12 == x15) && ((x13 == x16) && true))) (
          ((h4).ldSl i1 (0 + 6)).bind fun x17 =>
          ((slBytes h4 x17)).bind fun x18 =>
          ((h4).ldSl i3 (0 + 6)).bind fun x19 =>
          ((slBytes h4 x19)).bind fun x20 =>
          kR (strEq x18 x20) h4) (
          kR false h4)) (
        kR false h4)) (
      kR false h4)) (
    kR false h4)
theorem g25_p0_eq {R : Type} (t0_0 : Int) (t0_1 : Int) (t0_2 : Int) (t0_3 : Int) (t0_4 : Int) (t0_5 : Int) (t0_6 : Sl) (t1_0 : Int) (t1_1 : Int) (t1_2 : Int) (t1_3 : Int) (t1_4 : Int) (t1_5 : Int) (t1_6 : Sl) (H : Heap) (K : Ex → Fr → Heap → Option R) : ev Tryd.prog E25 loopLim Tryd.f25.ntmps kp25 c25_0 [(0, (V.agg [(V.i .u8 t0_0), (V.i .u8 t0_1), (V.i .u8 t0_2), (V.i .u16 t0_3), (V.i .u16 t0_4), (V.i .u8 t0_5), (V.sl t0_6)])), (1, (V.agg [(V.i .u8 t1_0), (V.i .u8 t1_1), (V.i .u8 t1_2), (V.i .u16 t1_3), (V.i .u16 t1_4), (V.i .u8 t1_5), (V.sl t1_6)]))] H K = g25_p0 R t0_0 t0_1 t0_2 t0_3 t0_4 t0_5 t0_6 t1_0 t1_1 t1_2 t1_3 t1_4 t1_5 t1_6 H (fun t4 H => K .ret [(4, (V.b t4))] H) := by kernel_rfl
theorem g25_p0_lin {R S : Type} {k : S → Option R} {t0_0 : Int} {t0_1 : Int} {t0_2 : Int} {t0_3 : Int} {t0_4 : Int} {t0_5 : Int} {t0_6 : Sl} {t1_0 : Int} {t1_1 : Int} {t1_2 : Int} {t1_3 : Int} {t1_4 : Int} {t1_5 : Int} {t1_6 : Sl} {H : Heap} {fkR : Bool → Heap → Option R} {gkR : Bool → Heap → Option S} (hkR : ∀ t4 H, fkR t4 H = (gkR t4 H).bind k) : g25_p0 R t0_0 t0_1 t0_2 t0_3 t0_4 t0_5 t0_6 t1_0 t1_1 t1_2 t1_3 t1_4 t1_5 t1_6 H fkR = (g25_p0 S t0_0 t0_1 t0_2 t0_3 t0_4 t0_5 t0_6 t1_0 t1_1 t1_2 t1_3 t1_4 t1_5 t1_6 H gkR).bind k := by
  delta g25_p0; exact (
    alo_lin fun i1 h2 =>
    alo_lin fun i3 h4 =>
    bl fun x5 =>
    bl fun x6 =>
    sl_lin (
      bl fun x7 =>
      bl fun x8 =>
      sl_lin (
        bl fun x9 =>
        bl fun x10 =>
        sl_lin (
          bl fun x11 =>
          bl fun x12 =>
          bl fun x13 =>
          bl fun x14 =>
          bl fun x15 =>
          bl fun x16 =>
          sl_lin (
            bl fun x17 =>
            bl fun x18 =>
            bl fun x19 =>
            bl fun x20 =>
            hkR _ _) (
            hkR _ _)) (
          hkR _ _)) (
        hkR _ _)) (
      hkR _ _))
noncomputable def g25_r : T25 := fun R t0_0 t0_1 t0_2 t0_3 t0_4 t0_5 t0_6 t1_0 t1_1 t1_2 t1_3 t1_4 t1_5 t1_6 H K =>
  g25_p0 R t0_0 t0_1 t0_2 t0_3 t0_4 t0_5 t0_6 t1_0 t1_1 t1_2 t1_3 t1_4 t1_5 t1_6 H (fun t4 H =>
    K t4 H)
theorem g25_r_lin : Lin25 (g25_r) := by
  constructor
  intro R S k t0_0 t0_1 t0_2 t0_3 t0_4 t0_5 t0_6 t1_0 t1_1 t1_2 t1_3 t1_4 t1_5 t1_6 H f g h
  exact g25_p0_lin (fun t4 H =>
    h _ _)
theorem g25_fn {R : Type} (t0_0 : Int) (t0_1 : Int) (t0_2 : Int) (t0_3 : Int) (t0_4 : Int) (t0_5 : Int) (t0_6 : Sl) (t1_0 : Int) (t1_1 : Int) (t1_2 : Int) (t1_3 : Int) (t1_4 : Int) (t1_5 : Int) (t1_6 : Sl) (H : Heap) (K : V → Heap → Option R) : evFn Tryd.prog E25 loopLim Tryd.f25 kp25 [(V.agg [(V.i .u8 t0_0), (V.i .u8 t0_1), (V.i .u8 t0_2), (V.i .u16 t0_3), (V.i .u16 t0_4), (V.i .u8 t0_5), (V.sl t0_6)]), (V.agg [(V.i .u8 t1_0), (V.i .u8 t1_1), (V.i .u8 t1_2), (V.i .u16 t1_3), (V.i .u16 t1_4), (V.i .u8 t1_5), (V.sl t1_6)])] H K = g25_r R t0_0 t0_1 t0_2 t0_3 t0_4 t0_5 t0_6 t1_0 t1_1 t1_2 t1_3 t1_4 t1_5 t1_6 H (fun r0 H => K (V.b r0) H) := by
  have h0 : ∀ (t4 : Bool) (H : Heap), kFn Tryd.prog Tryd.f25.results.toList K .ret [(4, (V.b t4))] H =
      K (V.b t4) H := by intros; kernel_rfl
  have e0 := evFn_code2 (P := Tryd.prog) (c := c25_0) (E := E25) (lr := loopLim) (kp := kp25) (fn := Tryd.f25) (args := [(V.agg [(V.i .u8 t0_0), (V.i .u8 t0_1), (V.i .u8 t0_2), (V.i .u16 t0_3), (V.i .u16 t0_4), (V.i .u8 t0_5), (V.sl t0_6)]), (V.agg [(V.i .u8 t1_0), (V.i .u8 t1_1), (V.i .u8 t1_2), (V.i .u16 t1_3), (V.i .u16 t1_4), (V.i .u8 t1_5), (V.sl t1_6)])]) H K (by kernel_rfl) (Nat.le_of_ble_eq_true (by kernel_rfl)) (by kernel_rfl)
  have e1 : ev Tryd.prog E25 loopLim Tryd.f25.ntmps kp25 c25_0 (argFr 0 [(V.agg [(V.i .u8 t0_0), (V.i .u8 t0_1), (V.i .u8 t0_2), (V.i .u16 t0_3), (V.i .u16 t0_4), (V.i .u8 t0_5), (V.sl t0_6)]), (V.agg [(V.i .u8 t1_0), (V.i .u8 t1_1), (V.i .u8 t1_2), (V.i .u16 t1_3), (V.i .u16 t1_4), (V.i .u8 t1_5), (V.sl t1_6)])]) H (kFn Tryd.prog Tryd.f25.results.toList K) = ev Tryd.prog E25 loopLim Tryd.f25.ntmps kp25 c25_0 [(0, (V.agg [(V.i .u8 t0_0), (V.i .u8 t0_1), (V.i .u8 t0_2), (V.i .u16 t0_3), (V.i .u16 t0_4), (V.i .u8 t0_5), (V.sl t0_6)])), (1, (V.agg [(V.i .u8 t1_0), (V.i .u8 t1_1), (V.i .u8 t1_2), (V.i .u16 t1_3), (V.i .u16 t1_4), (V.i .u8 t1_5), (V.sl t1_6)]))] H (kFn Tryd.prog Tryd.f25.results.toList K) := by kernel_rfl
  refine (e0.trans e1).trans ?_
  delta g25_r
  exact (g25_p0_eq t0_0 t0_1 t0_2 t0_3 t0_4 t0_5 t0_6 t1_0 t1_1 t1_2 t1_3 t1_4 t1_5 t1_6 H (kFn Tryd.prog Tryd.f25.results.toList K)).trans (congrArg (g25_p0 R t0_0 t0_1 t0_2 t0_3 t0_4 t0_5 t0_6 t1_0 t1_1 t1_2 t1_3 t1_4 t1_5 t1_6 H) (funext fun t4 => funext fun H => h0 t4 H))
theorem g25_ok : FunOK Tryd.prog 25 (w25 (g25_r)) := by
  refine (runF_ok (E25_good) mixed lim_ok Tryd.func25 (by kernel_rfl) kp25).of_le fun R args H K r hk => ?_
  unfold w25 at hk
  split at hk
  · exact (g25_fn _ _ _ _ _ _ _ _ _ _ _ _ _ _ H K).trans hk
  · cases hk
def kp8 : Nat → Option (List Nat) := kpOf [(0, [1, 2]), (1, [1, 5]), (2, [1, 5, 6, 7]), (3, [1, 5, 6, 38]), (4, [4]), (5, [1, 5, 8, 9]), (6, [1, 60]), (7, [4]), (8, [1, 63]), (9, [4]), (10, [1, 10, 11]), (11, [1, 10, 11, 77]), (12, [1, 10, 11, 12]), (13, [10, 11, 12, 80]), (14, [10, 11, 12]), (15, [4]), (16, [1, 11, 13, 14]), (17, [4]), (300000, [4]), (400038, [1, 5, 6]), (400060, [1]), (400063, [1]), (400077, [1, 10, 11]), (400080, [10, 11, 12])]
def E8 (a22 : T22) (a17 : T17) (a23 : T23) (a24 : T24) (a25 : T25) (a12 : T12) : FEnv := [(22, w22 a22), (17, w17 a17), (23, w23 a23), (24, w24 a24), (25, w25 a25), (12, w12 a12)]
theorem E8_good {a22 : T22} {a17 : T17} {a23 : T23} {a24 : T24} {a25 : T25} {a12 : T12} (oa22 : FunOK Tryd.prog 22 (w22 a22)) (oa17 : FunOK Tryd.prog 17 (w17 a17)) (oa23 : FunOK Tryd.prog 23 (w23 a23)) (oa24 : FunOK Tryd.prog 24 (w24 a24)) (oa25 : FunOK Tryd.prog 25 (w25 a25)) (oa12 : FunOK Tryd.prog 12 (w12 a12)) (la22 : Lin22 a22) (la17 : Lin17 a17) (la23 : Lin23 a23) (la24 : Lin24 a24) (la25 : Lin25 a25) (la12 : Lin12 a12) : EnvGood Tryd.prog (E8 a22 a17 a23 a24 a25 a12) := (((((((EnvGood.nil _).cons oa12 (w12_lin la12)).cons oa25 (w25_lin la25)).cons oa24 (w24_lin la24)).cons oa23 (w23_lin la23)).cons oa17 (w17_lin la17)).cons oa22 (w22_lin la22))
theorem E8_lin {a22 : T22} {a17 : T17} {a23 : T23} {a24 : T24} {a25 : T25} {a12 : T12} (la22 : Lin22 a22) (la17 : Lin17 a17) (la23 : Lin23 a23) (la24 : Lin24 a24) (la25 : Lin25 a25) (la12 : Lin12 a12) : EnvLin (E8 a22 a17 a23 a24 a25 a12) := by
  intro g F h
  simp only [E8, List.mem_cons, List.not_mem_nil, or_false] at h
  rcases h with h | h | h | h | h | h
  · cases h; exact w22_lin la22
  · cases h; exact w17_lin la17
  · cases h; exact w23_lin la23
  · cases h; exact w24_lin la24
  · cases h; exact w25_lin la25
  · cases h; exact w12_lin la12
noncomputable def b8 : Code := Tryd.f8.body.getD .skip
noncomputable def c8_0 : Code := (.seq (.cond (.tmp 60) (.seq (codeAt [1, 1, 1, 1, 1, 0, 1, 0, 0] b8) .ret) .skip) (.seq (codeAt [1, 1, 1, 1, 1, 1, 0, 0] b8) (.seq (.cond (.tmp 63) (.seq (codeAt [1, 1, 1, 1, 1, 1, 0, 1, 0, 0] b8) .ret) .skip) (.seq (codeAt [1, 1, 1, 1, 1, 1, 1, 0] b8) (.seq (codeAt [1, 1, 1, 1, 1, 1, 1, 1, 0, 0] b8) (.seq (.cond (.tmp 77) (.seq (codeAt [1, 1, 1, 1, 1, 1, 1, 1, 0, 1, 0, 0] b8) (.seq (codeAt [1, 1, 1, 1, 1, 1, 1, 1, 0, 1, 0, 1, 0, 0] b8) (.seq (.cond (.tmp 80) (codeAt [1, 1, 1, 1, 1, 1, 1, 1, 0, 1, 0, 1, 0, 1, 0] b8) .skip) (.seq (codeAt [1, 1, 1, 1, 1, 1, 1, 1, 0, 1, 0, 1, 1, 0] b8) .ret)))) .skip) (.seq (codeAt [1, 1, 1, 1, 1, 1, 1, 1, 1, 0] b8) (.seq (codeAt [1, 1, 1, 1, 1, 1, 1, 1, 1, 1, 0] b8) .ret))))))))
noncomputable def c8_1 : Code := (.seq (codeAt [0] b8) (.seq (codeAt [1, 0] b8) (.seq (codeAt [1, 1, 0] b8) (.seq (codeAt [1, 1, 1, 0, 0] b8) (.seq (.cond (.tmp 38) (.seq (codeAt [1, 1, 1, 0, 1, 0, 0] b8) .ret) .skip) (.seq (codeAt [1, 1, 1, 1, 0] b8) (.seq (codeAt [1, 1, 1, 1, 1, 0, 0] b8) c8_0)))))))
noncomputable def g8_p0 (a22 : T22) (a17 : T17) (a23 : T23) (a24 : T24) (a25 : T25) (a12 : T12) (R : Type) (t0_0 : Int) (t0_1 : Int) (t0_2 : Int) (t0_3 : Int) (t0_4 : Int) (t0_5 : Int) (t0_6 : Sl) (t1 : Sl) (H : Heap) (kN : Sl → Bool → Heap → Option R) (kR : Bool → Heap → Option R) : Option R :=
  alo H (.cells [(V.i .u8 t0_0), (V.i .u8 t0_1), (V.i .u8 t0_2), (V.i .u16 t0_3), (V.i .u16 t0_4), (V.i .u8 t0_5), (V.sl t0_6)] 55 false) fun i340 h341 =>
  ((h341).ldI .u8 i340 (0 + 0)).bind fun x342 =>
  ((h341).ldI .u8 i340 (0 + 1)).bind fun x343 =>
  ((h341).ldI .u8 i340 (0 + 2)).bind fun x344 =>
  ((h341).ldI .u16 i340 (0 + 3)).bind fun x345 =>
  ((h341).ldI .u16 i340 (0 + 4)).bind fun x346 =>
  ((h341).ldI .u8 i340 (0 + 5)).bind fun x347 =>
  ((h341).ldSl i340 (0 + 6)).bind fun x348 =>
  a22 R x342 x343 x344 x345 x346 x347 x348 h341 fun x349 x350 x351 x352 x353 x354 x355 h356 =>
  alo h356 (.cells [(V.i .u8 (0 : Int)), (V.i .u8 (0 : Int)), (V.i .u8 (0 : Int)), (V.i .u16 (0 : Int)), (V.i .u16 (0 : Int)), (V.i .u8 (0 : Int)), (V.sl (Sl.mk none 0 (.ex 0)))] 38 false) fun i357 h358 =>
  ((h358).sts i357 0 [(V.i .u8 x349), (V.i .u8 x350), (V.i .u8 x351), (V.i .u16 x352), (V.i .u16 x353), (V.i .u8 x354), (V.sl x355)]).bind fun h359 =>
  ((h359).ldI .u8 i357 (0 + 0)).bind fun x360 =>
  ((h359).ldI .u8 i357 (0 + 1)).bind fun x361 =>
  ((h359).ldI .u8 i357 (0 + 2)).bind fun x362 =>
  ((h359).ldI .u16 i357 (0 + 3)).bind fun x363 =>
  ((h359).ldI .u16 i357 (0 + 4)).bind fun x364 =>
  ((h359).ldI .u8 i357 (0 + 5)).bind fun x365 =>
  ((h359).ldSl i357 (0 + 6)).bind fun x366 =>
  a17 R x360 x361 x362 x363 x364 x365 x366 h359 fun x367 x368 h369 =>
  sel (x368 != (0 : Int)) (
    kR false h369) (
    capK x367.cap fun c370 =>
    sel (((c370 : Nat) : Int) != ((x367.len : Nat) : Int)) (
      kR false h369) (
      ((slBytes h369 x367)).bind fun x371 =>
      ((h369).ldI .u8 i357 (0 + 0)).bind fun x372 =>
      ((h369).ldI .u8 i357 (0 + 1)).bind fun x373 =>
      ((h369).ldI .u8 i357 (0 + 2)).bind fun x374 =>
      ((h369).ldI .u16 i357 (0 + 3)).bind fun x375 =>
      ((h369).ldI .u16 i357 (0 + 4)).bind fun x376 =>
      ((h369).ldI .u8 i357 (0 + 5)).bind fun x377 =>
      ((h369).ldSl i357 (0 + 6)).bind fun x378 =>
      a23 R x372 x373 x374 x375 x376 x377 x378 h369 fun x379 h380 =>
      ((slBytes h380 x367)).bind fun x381 =>
      if V.same (V.s x371) (V.s x381) = true then (
        ((slBytes h380 x379)).bind fun x382 =>
        sel (!strEq x371 x382) (
          kR false h380) (
          a24 R x367 h380 fun x383 x384 x385 x386 x387 x388 x389 x390 h391 =>
          alo h391 (.cells [(V.i .u8 (0 : Int)), (V.i .u8 (0 : Int)), (V.i .u8 (0 : Int)), (V.i .u16 (0 : Int)), (V.i .u16 (0 : Int)), (V.i .u8 (0 : Int)), (V.sl (Sl.mk none 0 (.ex 0)))] 38 false) fun i392 h393 =>
          ((h393).sts i392 0 [(V.i .u8 x383), (V.i .u8 x384), (V.i .u8 x385), (V.i .u16 x386), (V.i .u16 x387), (V.i .u8 x388), (V.sl x389)]).bind fun h394 =>
          sel (x390 != (0 : Int)) (
            kN t1 true h394) (
            ((h394).ldI .u8 i392 (0 + 0)).bind fun x395 =>
            ((h394).ldI .u8 i392 (0 + 1)).bind fun x396 =>
            ((h394).ldI .u8 i392 (0 + 2)).bind fun x397 =>
            ((h394).ldI .u16 i392 (0 + 3)).bind fun x398 =>
            ((h394).ldI .u16 i392 (0 + 4)).bind fun x399 =>
            ((h394).ldI .u8 i392 (0 + 5)).bind fun x400 =>
            ((h394).ldSl i392 (0 + 6)).bind fun x401 =>
            ((h394).ldI .u8 i357 (0 + 0)).bind fun x402 =>
            ((h394).ldI .u8 i357 (0 + 1)).bind fun x403 =>
            ((h394).ldI .u8 i357 (0 + 2)).bind fun x404 =>
            ((h394).ldI .u16 i357 (0 + 3)).bind fun x405 =>
            ((h394).ldI .u16 i357 (0 + 4)).bind fun x406 =>
            ((h394).ldI .u8 i357 (0 + 5)).bind fun x407 =>
            ((h394).ldSl i357 (0 + 6)).bind fun x408 =>
            a25 R x395 x396 x397 x398 x399 x400 x401 x402 x403 x404 x405 x406 x407 x408 h394 fun x409 h410 =>
            sel (!x409) (
              kN t1 true h410) (
              ((h410).ldSl i392 (0 + 6)).bind fun x411 =>
              capK x411.cap fun c412 =>
              ((h410).ldSl i392 (0 + 6)).bind fun x413 =>
              kN t1 (((c412 : Nat) : Int) != ((x413.len : Nat) : Int)) h410))))
      else (
        none)))
theorem g8_p0_eq (a22 : T22) (a17 : T17) (a23 : T23) (a24 : T24) (a25 : T25) (a12 : T12) {R : Type} (c2 : Code) (t0_0 : Int) (t0_1 : Int) (t0_2 : Int) (t0_3 : Int) (t0_4 : Int) (t0_5 : Int) (t0_6 : Sl) (t1 : Sl) (H : Heap) (K : Ex → Fr → Heap → Option R) : ev Tryd.prog (E8 a22 a17 a23 a24 a25 a12) loopLim Tryd.f8.ntmps kp8 (.seq (codeAt [0] b8) (.seq (codeAt [1, 0] b8) (.seq (codeAt [1, 1, 0] b8) (.seq (codeAt [1, 1, 1, 0, 0] b8) (.seq (.cond (.tmp 38) (.seq (codeAt [1, 1, 1, 0, 1, 0, 0] b8) .ret) .skip) (.seq (codeAt [1, 1, 1, 1, 0] b8) (.seq (codeAt [1, 1, 1, 1, 1, 0, 0] b8) c2))))))) [(0, (V.agg [(V.i .u8 t0_0), (V.i .u8 t0_1), (V.i .u8 t0_2), (V.i .u16 t0_3), (V.i .u16 t0_4), (V.i .u8 t0_5), (V.sl t0_6)])), (1, (V.sl t1))] H K = g8_p0 a22 a17 a23 a24 a25 a12 R t0_0 t0_1 t0_2 t0_3 t0_4 t0_5 t0_6 t1 H (fun t1 t60 H => ev Tryd.prog (E8 a22 a17 a23 a24 a25 a12) loopLim Tryd.f8.ntmps kp8 c2 [(1, (V.sl t1)), (60, (V.b t60))] H K) (fun t4 H => K .ret [(4, (V.b t4))] H) := by kernel_rfl
theorem g8_p0_lin {a22 : T22} {a17 : T17} {a23 : T23} {a24 : T24} {a25 : T25} {a12 : T12} (la22 : Lin22 a22) (la17 : Lin17 a17) (la23 : Lin23 a23) (la24 : Lin24 a24) (la25 : Lin25 a25) (la12 : Lin12 a12) {R S : Type} {k : S → Option R} {t0_0 : Int} {t0_1 : Int} {t0_2 : Int} {t0_3 : Int} {t0_4 : Int} {t0_5 : Int} {t0_6 : Sl} {t1 : Sl} {H : Heap} {fkN : Sl → Bool → Heap → Option R} {gkN : Sl → Bool → Heap → Option S} {fkR : Bool → Heap → Option R} {gkR : Bool → Heap → Option S} (hkN : ∀ t1 t60 H, fkN t1 t60 H = (gkN t1 t60 H).bind k) (hkR : ∀ t4 H, fkR t4 H = (gkR t4 H).bind k) : g8_p0 a22 a17 a23 a24 a25 a12 R t0_0 t0_1 t0_2 t0_3 t0_4 t0_5 t0_6 t1 H fkN fkR = (g8_p0 a22 a17 a23 a24 a25 a12 S t0_0 t0_1 t0_2 t0_3 t0_4 t0_5 t0_6 t1 H gkN gkR).bind k := by
  delta g8_p0; exact (
    alo_lin fun i340 h341 =>
    bl fun x342 =>
    bl fun x343 =>
    bl fun x344 =>
    bl fun x345 =>
    bl fun x346 =>
    bl fun x347 =>
    bl fun x348 =>
    la22.l fun x349 x350 x351 x352 x353 x354 x355 h356 =>
    alo_lin fun i357 h358 =>
    bl fun h359 =>
    bl fun x360 =>
    bl fun x361 =>
    bl fun x362 =>
    bl fun x363 =>
    bl fun x364 =>
    bl fun x365 =>
    bl fun x366 =>
    la17.l fun x367 x368 h369 =>
    sl_lin (
      hkR _ _) (
      capK_lin fun c370 =>
      sl_lin (
        hkR _ _) (
        bl fun x371 =>
        bl fun x372 =>
        bl fun x373 =>
        bl fun x374 =>
        bl fun x375 =>
        bl fun x376 =>
        bl fun x377 =>
        bl fun x378 =>
        la23.l fun x379 h380 =>
        bl fun x381 =>
        il (
          bl fun x382 =>
          sl_lin (
            hkR _ _) (
            la24.l fun x383 x384 x385 x386 x387 x388 x389 x390 h391 =>
            alo_lin fun i392 h393 =>
            bl fun h394 =>
            sl_lin (
              hkN _ _ _) (
              bl fun x395 =>
              bl fun x396 =>
              bl fun x397 =>
              bl fun x398 =>
              bl fun x399 =>
              bl fun x400 =>
              bl fun x401 =>
              bl fun x402 =>
              bl fun x403 =>
              bl fun x404 =>
              bl fun x405 =>
              bl fun x406 =>
              bl fun x407 =>
              bl fun x408 =>
              la25.l fun x409 h410 =>
              sl_lin (
                hkN _ _ _) (
                bl fun x411 =>
                capK_lin fun c412 =>
                bl fun x413 =>
                hkN _ _ _)))) (
          rfl))))
noncomputable def g8_p1 (a22 : T22) (a17 : T17) (a23 : T23) (a24 : T24) (a25 : T25) (a12 : T12) (R : Type) (t1 : Sl) (t60 : Bool) (H : Heap) (kR : Bool → Heap → Option R) : Option R :=
  sel t60 (
    kR false H) (
    sel (decide (((t1.len : Nat) : Int) > (600 : Int))) (
      a12 R H fun x414 h415 =>
      kR x414 h415) (
      a24 R t1 H fun x416 x417 x418 x419 x420 x421 x422 x423 h424 =>
      alo h424 (.cells [(V.i .u8 (0 : Int)), (V.i .u8 (0 : Int)), (V.i .u8 (0 : Int)), (V.i .u16 (0 : Int)), (V.i .u16 (0 : Int)), (V.i .u8 (0 : Int)), (V.sl (Sl.mk none 0 (.ex 0)))] 38 false) fun i425 h426 =>
      ((h426).sts i425 0 [(V.i .u8 x416), (V.i .u8 x417), (V.i .u8 x418), (V.i .u16 x419), (V.i .u16 x420), (V.i .u8 x421), (V.sl x422)]).bind fun h427 =>
      sel (decide (((t1.len : Nat) : Int) < (5 : Int))) (
        sel (decide (((t1.len : Nat) : Int) > (5 : Int))) (
          sel (x423 == (3 : Int)) (
            ((h427).ldI .u8 i425 (0 + 0)).bind fun x428 =>
            ((h427).ldI .u8 i425 (0 + 1)).bind fun x429 =>
            ((h427).ldI .u8 i425 (0 + 2)).bind fun x430 =>
            ((h427).ldI .u16 i425 (0 + 3)).bind fun x431 =>
            ((h427).ldI .u16 i425 (0 + 4)).bind fun x432 =>
            ((h427).ldI .u8 i425 (0 + 5)).bind fun x433 =>
            ((h427).ldSl i425 (0 + 6)).bind fun x434 =>
            a25 R x428 x429 x430 x431 x432 x433 x434 (0 : Int) (0 : Int) (0 : Int) (0 : Int) (0 : Int) (0 : Int) (Sl.mk none 0 (.ex 0)) h427 fun x435 h436 =>
            sel x435 (
              a12 R h436 fun x437 h438 =>
              kR x437 h438) (
              kR false h436)) (
            kR false h427)) (
          sel (x423 == (4 : Int)) (
            ((h427).ldI .u8 i425 (0 + 0)).bind fun x439 =>
            ((h427).ldI .u8 i425 (0 + 1)).bind fun x440 =>
            ((h427).ldI .u8 i425 (0 + 2)).bind fun x441 =>
            ((h427).ldI .u16 i425 (0 + 3)).bind fun x442 =>
            ((h427).ldI .u16 i425 (0 + 4)).bind fun x443 =>
            ((h427).ldI .u8 i425 (0 + 5)).bind fun x444 =>
            ((h427).ldSl i425 (0 + 6)).bind fun x445 =>
            a25 R x439 x440 x441 x442 x443 x444 x445 (0 : Int) (0 : Int) (0 : Int) (0 : Int) (0 : Int) (0 : Int) (Sl.mk none 0 (.ex 0)) h427 fun x446 h447 =>
            sel x446 (
              a12 R h447 fun x448 h449 =>
              kR x448 h449) (
              kR false h447)) (
            kR false h427))) (
        sel (decide (((t1.len : Nat) : Int) > (273 : Int))) (
          sel (decide (((t1.len : Nat) : Int) > (5 : Int))) (
            sel (x423 == (3 : Int)) (
              ((h427).ldI .u8 i425 (0 + 0)).bind fun x450 =>
              ((h427).ldI .u8 i425 (0 + 1)).bind fun x451 =>
              ((h427).ldI .u8 i425 (0 + 2)).bind fun x452 =>
              ((h427).ldI .u16 i425 (0 + 3)).bind fun x453 =>
              ((h427).ldI .u16 i425 (0 + 4)).bind fun x454 =>
              ((h427).ldI .u8 i425 (0 + 5)).bind fun x455 =>
              ((h427).ldSl i425 (0 + 6)).bind fun x456 =>
              a25 R x450 x451 x452 x453 x454 x455 x456 (0 : Int) (0 : Int) (0 : Int) (0 : Int) (0 : Int) (0 : Int) (Sl.mk none 0 (.ex 0)) h427 fun x457 h458 =>
              sel x457 (
                a12 R h458 fun x459 h460 =>
                kR x459 h460) (
                kR false h458)) (
              kR false h427)) (
            sel (x423 == (4 : Int)) (
              ((h427).ldI .u8 i425 (0 + 0)).bind fun x461 =>
              ((h427).ldI .u8 i425 (0 + 1)).bind fun x462 =>
              ((h427).ldI .u8 i425 (0 + 2)).bind fun x463 =>
              ((h427).ldI .u16 i425 (0 + 3)).bind fun x464 =>
              ((h427).ldI .u16 i425 (0 + 4)).bind fun x465 =>
              ((h427).ldI .u8 i425 (0 + 5)).bind fun x466 =>
              ((h427).ldSl i425 (0 + 6)).bind fun x467 =>
              a25 R x461 x462 x463 x464 x465 x466 x467 (0 : Int) (0 : Int) (0 : Int) (0 : Int) (0 : Int) (0 : Int) (Sl.mk none 0 (.ex 0)) h427 fun x468 h469 =>
              sel x468 (
                a12 R h469 fun x470 h471 =>
                kR x470 h471) (
                kR false h469)) (
              kR false h427))) (
          ((h427).ldI .u8 i425 (0 + 0)).bind fun x472 =>
          ((h427).ldI .u8 i425 (0 + 1)).bind fun x473 =>
          ((h427).ldI .u8 i425 (0 + 2)).bind fun x474 =>
          ((h427).ldI .u16 i425 (0 + 3)).bind fun x475 =>
          ((h427).ldI .u16 i425 (0 + 4)).bind fun x476 =>
          ((h427).ldI .u8 i425 (0 + 5)).bind fun x477 =>
          ((h427).ldSl i425 (0 + 6)).bind fun x478 =>
          a17 R x472 x473 x474 x475 x476 x477 x478 h427 fun x479 x480 h481 =>
          sel (x423 == (0 : Int)) (
            sel (x480 == (0 : Int)) (
              ((slBytes h481 x479)).bind fun x482 =>
              ((slBytes h481 t1)).bind fun x483 =>
              sel (strEq x482 x483) (
                a12 R h481 fun x484 h485 =>
                kR x484 h485) (
                kR false h481)) (
              kR false h481)) (
            kR false h481)))))
theorem g8_p1_eq (a22 : T22) (a17 : T17) (a23 : T23) (a24 : T24) (a25 : T25) (a12 : T12) (la22 : Lin22 a22) (la17 : Lin17 a17) (la23 : Lin23 a23) (la24 : Lin24 a24) (la25 : Lin25 a25) (la12 : Lin12 a12) {R : Type} (t1 : Sl) (t60 : Bool) (H : Heap) (K : Ex → Fr → Heap → Option R) : ev Tryd.prog (E8 a22 a17 a23 a24 a25 a12) loopLim Tryd.f8.ntmps kp8 c8_0 [(1, (V.sl t1)), (60, (V.b t60))] H K = g8_p1 a22 a17 a23 a24 a25 a12 R t1 t60 H (fun t4 H => K .ret [(4, (V.b t4))] H) := by kernel_rfl
theorem g8_p1_lin {a22 : T22} {a17 : T17} {a23 : T23} {a24 : T24} {a25 : T25} {a12 : T12} (la22 : Lin22 a22) (la17 : Lin17 a17) (la23 : Lin23 a23) (la24 : Lin24 a24) (la25 : Lin25 a25) (la12 : Lin12 a12) {R S : Type} {k : S → Option R} {t1 : Sl} {t60 : Bool} {H : Heap} {fkR : Bool → Heap → Option R} {gkR : Bool → Heap → Option S} (hkR : ∀ t4 H, fkR t4 H = (gkR t4 H).bind k) : g8_p1 a22 a17 a23 a24 a25 a12 R t1 t60 H fkR = (g8_p1 a22 a17 a23 a24 a25 a12 S t1 t60 H gkR).bind k := by
  delta g8_p1; exact (
    sl_lin (
      hkR _ _) (
      sl_lin (
        la12.l fun x414 h415 =>
        hkR _ _) (
        la24.l fun x416 x417 x418 x419 x420 x421 x422 x423 h424 =>
        alo_lin fun i425 h426 =>
        bl fun h427 =>
        sl_lin (
          sl_lin (
            sl_lin (
              bl fun x428 =>
              bl fun x429 =>
              bl fun x430 =>
              bl fun x431 =>
              bl fun x432 =>
              bl fun x433 =>
              bl fun x434 =>
              la25.l fun x435 h436 =>
              sl_lin (
                la12.l fun x437 h438 =>
                hkR _ _) (
                hkR _ _)) (
              hkR _ _)) (
            sl_lin (
              bl fun x439 =>
              bl fun x440 =>
              bl fun x441 =>
              bl fun x442 =>
              bl fun x443 =>
              bl fun x444 =>
              bl fun x445 =>
              la25.l fun x446 h447 =>
              sl_lin (
                la12.l fun x448 h449 =>
                hkR _ _) (
                hkR _ _)) (
              hkR _ _))) (
          sl_lin (
            sl_lin (
              sl_lin (
                bl fun x450 =>
                bl fun x451 =>
                bl fun x452 =>
                bl fun x453 =>
                bl fun x454 =>
                bl fun x455 =>
                bl fun x456 =>
                la25.l fun x457 h458 =>
                sl_lin (
                  la12.l fun x459 h460 =>
                  hkR _ _) (
                  hkR _ _)) (
                hkR _ _)) (
              sl_lin (
                bl fun x461 =>
                bl fun x462 =>
                bl fun x463 =>
                bl fun x464 =>
                bl fun x465 =>
                bl fun x466 =>
                bl fun x467 =>
                la25.l fun x468 h469 =>
                sl_lin (
                  la12.l fun x470 h471 =>
                  hkR _ _) (
                  hkR _ _)) (
                hkR _ _))) (
            bl fun x472 =>
            bl fun x473 =>
            bl fun x474 =>
            bl fun x475 =>
            bl fun x476 =>
            bl fun x477 =>
            bl fun x478 =>
            la17.l fun x479 x480 h481 =>
            sl_lin (
              sl_lin (
                bl fun x482 =>
                bl fun x483 =>
                sl_lin (
                  la12.l fun x484 h485 =>
                  hkR _ _) (
                  hkR _ _)) (
                hkR _ _)) (
              hkR _ _))))))
noncomputable def g8_p2 (a22 : T22) (a17 : T17) (a23 : T23) (a24 : T24) (a25 : T25) (a12 : T12) (R : Type) (t0_0 : Int) (t0_1 : Int) (t0_2 : Int) (t0_3 : Int) (t0_4 : Int) (t0_5 : Int) (t0_6 : Sl) (t1 : Sl) (H : Heap) (kR : Bool → Heap → Option R) : Option R :=
  g8_p0 a22 a17 a23 a24 a25 a12 R t0_0 t0_1 t0_2 t0_3 t0_4 t0_5 t0_6 t1 H (fun t1 t60 H => g8_p1 a22 a17 a23 a24 a25 a12 R t1 t60 H (fun t4 H => kR t4 H)) (fun t4 H => kR t4 H)
theorem g8_p2_lin {a22 : T22} {a17 : T17} {a23 : T23} {a24 : T24} {a25 : T25} {a12 : T12} (la22 : Lin22 a22) (la17 : Lin17 a17) (la23 : Lin23 a23) (la24 : Lin24 a24) (la25 : Lin25 a25) (la12 : Lin12 a12) {R S : Type} {k : S → Option R} {t0_0 : Int} {t0_1 : Int} {t0_2 : Int} {t0_3 : Int} {t0_4 : Int} {t0_5 : Int} {t0_6 : Sl} {t1 : Sl} {H : Heap} {fkR : Bool → Heap → Option R} {gkR : Bool → Heap → Option S} (hkR : ∀ t4 H, fkR t4 H = (gkR t4 H).bind k) : g8_p2 a22 a17 a23 a24 a25 a12 R t0_0 t0_1 t0_2 t0_3 t0_4 t0_5 t0_6 t1 H fkR = (g8_p2 a22 a17 a23 a24 a25 a12 S t0_0 t0_1 t0_2 t0_3 t0_4 t0_5 t0_6 t1 H gkR).bind k := by
  exact g8_p0_lin la22 la17 la23 la24 la25 la12 (fun _ _ _ => g8_p1_lin la22 la17 la23 la24 la25 la12 (fun _ _ => hkR _ _)) (fun _ _ => hkR _ _)
theorem g8_p2_eq (a22 : T22) (a17 : T17) (a23 : T23) (a24 : T24) (a25 : T25) (a12 : T12) (la22 : Lin22 a22) (la17 : Lin17 a17) (la23 : Lin23 a23) (la24 : Lin24 a24) (la25 : Lin25 a25) (la12 : Lin12 a12) {R : Type} (t0_0 : Int) (t0_1 : Int) (t0_2 : Int) (t0_3 : Int) (t0_4 : Int) (t0_5 : Int) (t0_6 : Sl) (t1 : Sl) (H : Heap) (K : Ex → Fr → Heap → Option R) : ev Tryd.prog (E8 a22 a17 a23 a24 a25 a12) loopLim Tryd.f8.ntmps kp8 c8_1 [(0, (V.agg [(V.i .u8 t0_0), (V.i .u8 t0_1), (V.i .u8 t0_2), (V.i .u16 t0_3), (V.i .u16 t0_4), (V.i .u8 t0_5), (V.sl t0_6)])), (1, (V.sl t1))] H K = g8_p2 a22 a17 a23 a24 a25 a12 R t0_0 t0_1 t0_2 t0_3 t0_4 t0_5 t0_6 t1 H (fun t4 H => K .ret [(4, (V.b t4))] H) := by
  show ev Tryd.prog (E8 a22 a17 a23 a24 a25 a12) loopLim Tryd.f8.ntmps kp8 (.seq (codeAt [0] b8) (.seq (codeAt [1, 0] b8) (.seq (codeAt [1, 1, 0] b8) (.seq (codeAt [1, 1, 1, 0, 0] b8) (.seq (.cond (.tmp 38) (.seq (codeAt [1, 1, 1, 0, 1, 0, 0] b8) .ret) .skip) (.seq (codeAt [1, 1, 1, 1, 0] b8) (.seq (codeAt [1, 1, 1, 1, 1, 0, 0] b8) c8_0))))))) [(0, (V.agg [(V.i .u8 t0_0), (V.i .u8 t0_1), (V.i .u8 t0_2), (V.i .u16 t0_3), (V.i .u16 t0_4), (V.i .u8 t0_5), (V.sl t0_6)])), (1, (V.sl t1))] H K = _
  delta g8_p2
  exact (g8_p0_eq a22 a17 a23 a24 a25 a12 _ t0_0 t0_1 t0_2 t0_3 t0_4 t0_5 t0_6 t1 H K).trans (congr (congrArg (g8_p0 a22 a17 a23 a24 a25 a12 R t0_0 t0_1 t0_2 t0_3 t0_4 t0_5 t0_6 t1 H) (funext fun t1 => funext fun t60 => funext fun H => g8_p1_eq a22 a17 a23 a24 a25 a12 la22 la17 la23 la24 la25 la12 t1 t60 H K)) rfl)
noncomputable def g8_r (a22 : T22) (a17 : T17) (a23 : T23) (a24 : T24) (a25 : T25) (a12 : T12) : T8 := fun R t0_0 t0_1 t0_2 t0_3 t0_4 t0_5 t0_6 t1 H K =>
  g8_p2 a22 a17 a23 a24 a25 a12 R t0_0 t0_1 t0_2 t0_3 t0_4 t0_5 t0_6 t1 H (fun t4 H =>
    K t4 H)
theorem g8_r_lin {a22 : T22} {a17 : T17} {a23 : T23} {a24 : T24} {a25 : T25} {a12 : T12} (la22 : Lin22 a22) (la17 : Lin17 a17) (la23 : Lin23 a23) (la24 : Lin24 a24) (la25 : Lin25 a25) (la12 : Lin12 a12) : Lin8 (g8_r a22 a17 a23 a24 a25 a12) := by
  constructor
  intro R S k t0_0 t0_1 t0_2 t0_3 t0_4 t0_5 t0_6 t1 H f g h
  exact g8_p2_lin la22 la17 la23 la24 la25 la12 (fun t4 H =>
    h _ _)
theorem g8_fn (a22 : T22) (a17 : T17) (a23 : T23) (a24 : T24) (a25 : T25) (a12 : T12) (la22 : Lin22 a22) (la17 : Lin17 a17) (la23 : Lin23 a23) (la24 : Lin24 a24) (la25 : Lin25 a25) (la12 : Lin12 a12) {R : Type} (t0_0 : Int) (t0_1 : Int) (t0_2 : Int) (t0_3 : Int) (t0_4 : Int) (t0_5 : Int) (t0_6 : Sl) (t1 : Sl) (H : Heap) (K : V → Heap → Option R) : evFn Tryd.prog (E8 a22 a17 a23 a24 a25 a12) loopLim Tryd.f8 kp8 [(V.agg [(V.i .u8 t0_0), (V.i .u8 t0_1), (V.i .u8 t0_2), (V.i .u16 t0_3), (V.i .u16 t0_4), (V.i .u8 t0_5), (V.sl t0_6)]), (V.sl t1)] H K = g8_r a22 a17 a23 a24 a25 a12 R t0_0 t0_1 t0_2 t0_3 t0_4 t0_5 t0_6 t1 H (fun r0 H => K (V.b r0) H) := by
  have h0 : ∀ (t4 : Bool) (H : Heap), kFn Tryd.prog Tryd.f8.results.toList K .ret [(4, (V.b t4))] H =
      K (V.b t4) H := by intros; kernel_rfl
  have e0 := evFn_code2 (P := Tryd.prog) (c := c8_1) (E := (E8 a22 a17 a23 a24 a25 a12)) (lr := loopLim) (kp := kp8) (fn := Tryd.f8) (args := [(V.agg [(V.i .u8 t0_0), (V.i .u8 t0_1), (V.i .u8 t0_2), (V.i .u16 t0_3), (V.i .u16 t0_4), (V.i .u8 t0_5), (V.sl t0_6)]), (V.sl t1)]) H K (by kernel_rfl) (Nat.le_of_ble_eq_true (by kernel_rfl)) (by kernel_rfl)
  have e1 : ev Tryd.prog (E8 a22 a17 a23 a24 a25 a12) loopLim Tryd.f8.ntmps kp8 c8_1 (argFr 0 [(V.agg [(V.i .u8 t0_0), (V.i .u8 t0_1), (V.i .u8 t0_2), (V.i .u16 t0_3), (V.i .u16 t0_4), (V.i .u8 t0_5), (V.sl t0_6)]), (V.sl t1)]) H (kFn Tryd.prog Tryd.f8.results.toList K) = ev Tryd.prog (E8 a22 a17 a23 a24 a25 a12) loopLim Tryd.f8.ntmps kp8 c8_1 [(0, (V.agg [(V.i .u8 t0_0), (V.i .u8 t0_1), (V.i .u8 t0_2), (V.i .u16 t0_3), (V.i .u16 t0_4), (V.i .u8 t0_5), (V.sl t0_6)])), (1, (V.sl t1))] H (kFn Tryd.prog Tryd.f8.results.toList K) := by kernel_rfl
  refine (e0.trans e1).trans ?_
  delta g8_r
  exact (g8_p2_eq a22 a17 a23 a24 a25 a12 la22 la17 la23 la24 la25 la12 t0_0 t0_1 t0_2 t0_3 t0_4 t0_5 t0_6 t1 H (kFn Tryd.prog Tryd.f8.results.toList K)).trans (congrArg (g8_p2 a22 a17 a23 a24 a25 a12 R t0_0 t0_1 t0_2 t0_3 t0_4 t0_5 t0_6 t1 H) (funext fun t4 => funext fun H => h0 t4 H))
theorem g8_ok {a22 : T22} {a17 : T17} {a23 : T23} {a24 : T24} {a25 : T25} {a12 : T12} (oa22 : FunOK Tryd.prog 22 (w22 a22)) (oa17 : FunOK Tryd.prog 17 (w17 a17)) (oa23 : FunOK Tryd.prog 23 (w23 a23)) (oa24 : FunOK Tryd.prog 24 (w24 a24)) (oa25 : FunOK Tryd.prog 25 (w25 a25)) (oa12 : FunOK Tryd.prog 12 (w12 a12)) (la22 : Lin22 a22) (la17 : Lin17 a17) (la23 : Lin23 a23) (la24 : Lin24 a24) (la25 : Lin25 a25) (la12 : Lin12 a12) : FunOK Tryd.prog 8 (w8 (g8_r a22 a17 a23 a24 a25 a12)) := by
  refine (runF_ok (E8_good oa22 oa17 oa23 oa24 oa25 oa12 la22 la17 la23 la24 la25 la12) mixed lim_ok Tryd.func8 (by kernel_rfl) kp8).of_le fun R args H K r hk => ?_
  unfold w8 at hk
  split at hk
  · exact (g8_fn a22 a17 a23 a24 a25 a12 la22 la17 la23 la24 la25 la12 _ _ _ _ _ _ _ _ H K).trans hk
  · cases hk
end Go.Proofs.YtgdkkpjmjnknoaaDoor

