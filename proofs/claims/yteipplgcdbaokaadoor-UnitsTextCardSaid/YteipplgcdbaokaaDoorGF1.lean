/- Printed: functions as the machine runs them. -/
import Derived.Test.YteipplgcdbaokaaDoorGT
namespace Go.Proofs.YteipplgcdbaokaaDoor
open Go AM Go.RowKit
set_option linter.unusedVariables false
def kp10 : Nat → Option (List Nat) := kpOf [(0, [1]), (1, [1, 4]), (2, [1, 4, 11]), (3, [2, 3]), (4, [1, 5]), (5, [1, 5, 6]), (6, [1, 5, 6, 7]), (7, [2, 3]), (300000, [2, 3]), (400011, [1])]
def E10 (a11 : T11) (a25 : T25) (a26 : T26) (a24 : T24) (a28 : T28) (a27 : T27) : FEnv := [(11, w11 a11), (25, w25 a25), (26, w26 a26), (24, w24 a24), (28, w28 a28), (27, w27 a27)]
theorem E10_good {a11 : T11} {a25 : T25} {a26 : T26} {a24 : T24} {a28 : T28} {a27 : T27} (oa11 : FunOK Tryd.prog 11 (w11 a11)) (oa25 : FunOK Tryd.prog 25 (w25 a25)) (oa26 : FunOK Tryd.prog 26 (w26 a26)) (oa24 : FunOK Tryd.prog 24 (w24 a24)) (oa28 : FunOK Tryd.prog 28 (w28 a28)) (oa27 : FunOK Tryd.prog 27 (w27 a27)) (la11 : Lin11 a11) (la25 : Lin25 a25) (la26 : Lin26 a26) (la24 : Lin24 a24) (la28 : Lin28 a28) (la27 : Lin27 a27) : EnvGood Tryd.prog (E10 a11 a25 a26 a24 a28 a27) := (((((((EnvGood.nil _).cons oa27 (w27_lin la27)).cons oa28 (w28_lin la28)).cons oa24 (w24_lin la24)).cons oa26 (w26_lin la26)).cons oa25 (w25_lin la25)).cons oa11 (w11_lin la11))
theorem E10_lin {a11 : T11} {a25 : T25} {a26 : T26} {a24 : T24} {a28 : T28} {a27 : T27} (la11 : Lin11 a11) (la25 : Lin25 a25) (la26 : Lin26 a26) (la24 : Lin24 a24) (la28 : Lin28 a28) (la27 : Lin27 a27) : EnvLin (E10 a11 a25 a26 a24 a28 a27) := by
  intro g F h
  simp only [E10, List.mem_cons, List.not_mem_nil, or_false] at h
  rcases h with h | h | h | h | h | h
  · cases h; exact w11_lin la11
  · cases h; exact w25_lin la25
  · cases h; exact w26_lin la26
  · cases h; exact w24_lin la24
  · cases h; exact w28_lin la28
  · cases h; exact w27_lin la27
noncomputable def b10 : Code := Tryd.f10.body.getD .skip
noncomputable def c10_0 : Code := (.seq (codeAt [0] b10) (.seq (codeAt [1, 0, 0] b10) (.seq (codeAt [1, 0, 1, 0] b10) (.seq (.cond (.tmp 11) (.seq (codeAt [1, 0, 1, 1, 0, 0] b10) .ret) .skip) (.seq (codeAt [1, 1, 0] b10) (.seq (codeAt [1, 1, 1, 0] b10) (.seq (codeAt [1, 1, 1, 1, 0] b10) (.seq (codeAt [1, 1, 1, 1, 1, 0] b10) .ret))))))))
noncomputable def g10_p0 (a11 : T11) (a25 : T25) (a26 : T26) (a24 : T24) (a28 : T28) (a27 : T27) (R : Type) (t0_0 : Int) (t0_1 : Bool) (t0_2 : Int) (t0_3 : Bool) (t0_4 : Int) (t0_5 : Int) (t0_6 : Sl) (H : Heap) (kR : Sl → Int → Heap → Option R) : Option R :=
  alo H (.cells [(V.i .u8 t0_0), (V.b t0_1), (V.i .u8 t0_2), (V.b t0_3), (V.i .u8 t0_4), (V.i .u8 t0_5), (V.sl t0_6)] 25 false) fun i1 h2 =>
  ((h2).ldI .u8 i1 (0 + 0)).bind fun x3 =>
  ((h2).ldB i1 (0 + 1)).bind fun x4 =>
  ((h2).ldI .u8 i1 (0 + 2)).bind fun x5 =>
  ((h2).ldB i1 (0 + 3)).bind fun x6 =>
  ((h2).ldI .u8 i1 (0 + 4)).bind fun x7 =>
  ((h2).ldI .u8 i1 (0 + 5)).bind fun x8 =>
  ((h2).ldSl i1 (0 + 6)).bind fun x9 =>
  a11 R x3 x4 x5 x6 x7 x8 x9 h2 fun x10 h11 =>
  sel (x10 != (0 : Int)) (
    kR (Sl.mk none 0 (.ex 0)) x10 h11) (
    ((h11).ldI .u8 i1 (0 + 0)).bind fun x12 =>
    ((h11).ldB i1 (0 + 1)).bind fun x13 =>
    ((h11).ldI .u8 i1 (0 + 2)).bind fun x14 =>
    ((h11).ldB i1 (0 + 3)).bind fun x15 =>
    ((h11).ldI .u8 i1 (0 + 4)).bind fun x16 =>
    ((h11).ldI .u8 i1 (0 + 5)).bind fun x17 =>
    ((h11).ldSl i1 (0 + 6)).bind fun x18 =>
    a25 R x12 x13 x14 x15 x16 x17 x18 h11 fun x19 h20 =>
    a26 R ((x19.len : Nat) : Int) (63 : Int) h20 fun x21 h22 =>
    ((h22).ldI .u8 i1 (0 + 0)).bind fun x23 =>
    ((h22).ldB i1 (0 + 1)).bind fun x24 =>
    a24 R x23 x24 h22 fun x25 h26 =>
    ((h26).ldI .u8 i1 (0 + 2)).bind fun x27 =>
    ((h22).ldI .u8 i1 (0 + 2)).bind fun x28 =>
    if V.same (V.i .u8 x27) (V.i .u8 x28) = true then (
      ((h26).ldB i1 (0 + 3)).bind fun x29 =>
      ((h22).ldB i1 (0 + 3)).bind fun x30 =>
      if V.same (V.b x29) (V.b x30) = true then (
        a24 R x27 x29 h26 fun x31 h32 =>
        alo h32 (.cells [(V.i .u8 x25), (V.i .u8 x31), (V.i .u8 (IntKind.wrap .u8 x21))] 5 false) fun i33 h34 =>
        alo h34 (.cells [(V.sl (Sl.mk (some (i33, 0)) 3 (.ex 3))), (V.sl x19)] 23 false) fun i35 h36 =>
        a28 R (Sl.mk (some (i35, 0)) 2 (.ex 2)) h36 fun x37 h38 =>
        a27 R x37 h38 fun x39 h40 =>
        kR x39 (0 : Int) h40)
      else (
        none))
    else (
      none))
theorem g10_p0_eq (a11 : T11) (a25 : T25) (a26 : T26) (a24 : T24) (a28 : T28) (a27 : T27) (la11 : Lin11 a11) (la25 : Lin25 a25) (la26 : Lin26 a26) (la24 : Lin24 a24) (la28 : Lin28 a28) (la27 : Lin27 a27) {R : Type} (t0_0 : Int) (t0_1 : Bool) (t0_2 : Int) (t0_3 : Bool) (t0_4 : Int) (t0_5 : Int) (t0_6 : Sl) (H : Heap) (K : Ex → Fr → Heap → Option R) : ev Tryd.prog (E10 a11 a25 a26 a24 a28 a27) loopLim Tryd.f10.ntmps kp10 c10_0 [(0, (V.agg [(V.i .u8 t0_0), (V.b t0_1), (V.i .u8 t0_2), (V.b t0_3), (V.i .u8 t0_4), (V.i .u8 t0_5), (V.sl t0_6)]))] H K = g10_p0 a11 a25 a26 a24 a28 a27 R t0_0 t0_1 t0_2 t0_3 t0_4 t0_5 t0_6 H (fun t2 t3 H => K .ret [(2, (V.sl t2)), (3, (V.i .i64 t3))] H) := by kernel_rfl
theorem g10_p0_lin {a11 : T11} {a25 : T25} {a26 : T26} {a24 : T24} {a28 : T28} {a27 : T27} (la11 : Lin11 a11) (la25 : Lin25 a25) (la26 : Lin26 a26) (la24 : Lin24 a24) (la28 : Lin28 a28) (la27 : Lin27 a27) {R S : Type} {k : S → Option R} {t0_0 : Int} {t0_1 : Bool} {t0_2 : Int} {t0_3 : Bool} {t0_4 : Int} {t0_5 : Int} {t0_6 : Sl} {H : Heap} {fkR : Sl → Int → Heap → Option R} {gkR : Sl → Int → Heap → Option S} (hkR : ∀ t2 t3 H, fkR t2 t3 H = (gkR t2 t3 H).bind k) : g10_p0 a11 a25 a26 a24 a28 a27 R t0_0 t0_1 t0_2 t0_3 t0_4 t0_5 t0_6 H fkR = (g10_p0 a11 a25 a26 a24 a28 a27 S t0_0 t0_1 t0_2 t0_3 t0_4 t0_5 t0_6 H gkR).bind k := by
  delta g10_p0; exact (
    alo_lin fun i1 h2 =>
    bl fun x3 =>
    bl fun x4 =>
    bl fun x5 =>
    bl fun x6 =>
    bl fun x7 =>
    bl fun x8 =>
    bl fun x9 =>
    la11.l fun x10 h11 =>
    sl_lin (
      hkR _ _ _) (
      bl fun x12 =>
      bl fun x13 =>
      bl fun x14 =>
      bl fun x15 =>
      bl fun x16 =>
      bl fun x17 =>
      bl fun x18 =>
      la25.l fun x19 h20 =>
      la26.l fun x21 h22 =>
      bl fun x23 =>
      bl fun x24 =>
      la24.l fun x25 h26 =>
      bl fun x27 =>
      bl fun x28 =>
      il (
        bl fun x29 =>
        bl fun x30 =>
        il (
          la24.l fun x31 h32 =>
          alo_lin fun i33 h34 =>
          alo_lin fun i35 h36 =>
          la28.l fun x37 h38 =>
          la27.l fun x39 h40 =>
          hkR _ _ _) (
          rfl)) (
        rfl)))
noncomputable def g10_r (a11 : T11) (a25 : T25) (a26 : T26) (a24 : T24) (a28 : T28) (a27 : T27) : T10 := fun R t0_0 t0_1 t0_2 t0_3 t0_4 t0_5 t0_6 H K =>
  g10_p0 a11 a25 a26 a24 a28 a27 R t0_0 t0_1 t0_2 t0_3 t0_4 t0_5 t0_6 H (fun t2 t3 H =>
    K t2 t3 H)
theorem g10_r_lin {a11 : T11} {a25 : T25} {a26 : T26} {a24 : T24} {a28 : T28} {a27 : T27} (la11 : Lin11 a11) (la25 : Lin25 a25) (la26 : Lin26 a26) (la24 : Lin24 a24) (la28 : Lin28 a28) (la27 : Lin27 a27) : Lin10 (g10_r a11 a25 a26 a24 a28 a27) := by
  constructor
  intro R S k t0_0 t0_1 t0_2 t0_3 t0_4 t0_5 t0_6 H f g h
  exact g10_p0_lin la11 la25 la26 la24 la28 la27 (fun t2 t3 H =>
    h _ _ _)
theorem g10_fn (a11 : T11) (a25 : T25) (a26 : T26) (a24 : T24) (a28 : T28) (a27 : T27) (la11 : Lin11 a11) (la25 : Lin25 a25) (la26 : Lin26 a26) (la24 : Lin24 a24) (la28 : Lin28 a28) (la27 : Lin27 a27) {R : Type} (t0_0 : Int) (t0_1 : Bool) (t0_2 : Int) (t0_3 : Bool) (t0_4 : Int) (t0_5 : Int) (t0_6 : Sl) (H : Heap) (K : V → Heap → Option R) : evFn Tryd.prog (E10 a11 a25 a26 a24 a28 a27) loopLim Tryd.f10 kp10 [(V.agg [(V.i .u8 t0_0), (V.b t0_1), (V.i .u8 t0_2), (V.b t0_3), (V.i .u8 t0_4), (V.i .u8 t0_5), (V.sl t0_6)])] H K = g10_r a11 a25 a26 a24 a28 a27 R t0_0 t0_1 t0_2 t0_3 t0_4 t0_5 t0_6 H (fun r0 r1 H => K (V.tup [(V.sl r0), (V.i .i64 r1)]) H) := by
  have h0 : ∀ (t2 : Sl) (t3 : Int) (H : Heap), kFn Tryd.prog Tryd.f10.results.toList K .ret [(2, (V.sl t2)), (3, (V.i .i64 t3))] H =
      K (V.tup [(V.sl t2), (V.i .i64 t3)]) H := by intros; kernel_rfl
  have e0 := evFn_code2 (P := Tryd.prog) (c := c10_0) (E := (E10 a11 a25 a26 a24 a28 a27)) (lr := loopLim) (kp := kp10) (fn := Tryd.f10) (args := [(V.agg [(V.i .u8 t0_0), (V.b t0_1), (V.i .u8 t0_2), (V.b t0_3), (V.i .u8 t0_4), (V.i .u8 t0_5), (V.sl t0_6)])]) H K (by kernel_rfl) (Nat.le_of_ble_eq_true (by kernel_rfl)) (by kernel_rfl)
  have e1 : ev Tryd.prog (E10 a11 a25 a26 a24 a28 a27) loopLim Tryd.f10.ntmps kp10 c10_0 (argFr 0 [(V.agg [(V.i .u8 t0_0), (V.b t0_1), (V.i .u8 t0_2), (V.b t0_3), (V.i .u8 t0_4), (V.i .u8 t0_5), (V.sl t0_6)])]) H (kFn Tryd.prog Tryd.f10.results.toList K) = ev Tryd.prog (E10 a11 a25 a26 a24 a28 a27) loopLim Tryd.f10.ntmps kp10 c10_0 [(0, (V.agg [(V.i .u8 t0_0), (V.b t0_1), (V.i .u8 t0_2), (V.b t0_3), (V.i .u8 t0_4), (V.i .u8 t0_5), (V.sl t0_6)]))] H (kFn Tryd.prog Tryd.f10.results.toList K) := by kernel_rfl
  refine (e0.trans e1).trans ?_
  delta g10_r
  exact (g10_p0_eq a11 a25 a26 a24 a28 a27 la11 la25 la26 la24 la28 la27 t0_0 t0_1 t0_2 t0_3 t0_4 t0_5 t0_6 H (kFn Tryd.prog Tryd.f10.results.toList K)).trans (congrArg (g10_p0 a11 a25 a26 a24 a28 a27 R t0_0 t0_1 t0_2 t0_3 t0_4 t0_5 t0_6 H) (funext fun t2 => funext fun t3 => funext fun H => h0 t2 t3 H))
theorem g10_ok {a11 : T11} {a25 : T25} {a26 : T26} {a24 : T24} {a28 : T28} {a27 : T27} (oa11 : FunOK Tryd.prog 11 (w11 a11)) (oa25 : FunOK Tryd.prog 25 (w25 a25)) (oa26 : FunOK Tryd.prog 26 (w26 a26)) (oa24 : FunOK Tryd.prog 24 (w24 a24)) (oa28 : FunOK Tryd.prog 28 (w28 a28)) (oa27 : FunOK Tryd.prog 27 (w27 a27)) (la11 : Lin11 a11) (la25 : Lin25 a25) (la26 : Lin26 a26) (la24 : Lin24 a24) (la28 : Lin28 a28) (la27 : Lin27 a27) : FunOK Tryd.prog 10 (w10 (g10_r a11 a25 a26 a24 a28 a27)) := by
  refine (runF_ok (E10_good oa11 oa25 oa26 oa24 oa28 oa27 la11 la25 la26 la24 la28 la27) mixed lim_ok Tryd.func10 (by kernel_rfl) kp10).of_le fun R args H K r hk => ?_
  unfold w10 at hk
  split at hk
  · exact (g10_fn a11 a25 a26 a24 a28 a27 la11 la25 la26 la24 la28 la27 _ _ _ _ _ _ _ H K).trans hk
  · cases hk
def kp29 : Nat → Option (List Nat) := kpOf [(0, [0, 1]), (1, [0, 5]), (2, [4]), (3, [4]), (300000, [4]), (400005, [0])]
def E29 (a22 : T22) : FEnv := [(22, w22 a22)]
theorem E29_good {a22 : T22} (oa22 : FunOK Tryd.prog 22 (w22 a22)) (la22 : Lin22 a22) : EnvGood Tryd.prog (E29 a22) := ((EnvGood.nil _).cons oa22 (w22_lin la22))
theorem E29_lin {a22 : T22} (la22 : Lin22 a22) : EnvLin (E29 a22) := by
  intro g F h
  simp only [E29, List.mem_cons, List.not_mem_nil, or_false] at h
  rcases h with h
  · cases h; exact w22_lin la22
noncomputable def b29 : Code := Tryd.f29.body.getD .skip
noncomputable def c29_0 : Code := (.seq (codeAt [0] b29) (.seq (codeAt [1, 0, 0] b29) (.seq (.cond (.tmp 5) (.seq (codeAt [1, 0, 1, 0, 0] b29) .ret) .skip) (.seq (codeAt [1, 1, 0] b29) .ret))))
noncomputable def g29_p0 (a22 : T22) (R : Type) (t0 : Int) (t1 : Bool) (H : Heap) (kR : ByteArray → Heap → Option R) : Option R :=
  sel t1 (
    a22 R (IntKind.wrap .i64 t0) H fun x1 h2 =>
    catS x1 str3 fun z3 =>
    kR z3 h2) (
    a22 R (IntKind.wrap .i64 t0) H fun x4 h5 =>
    catS x4 str4 fun z6 =>
    kR z6 h5)
theorem g29_p0_eq (a22 : T22) (la22 : Lin22 a22) {R : Type} (t0 : Int) (t1 : Bool) (H : Heap) (K : Ex → Fr → Heap → Option R) : ev Tryd.prog (E29 a22) loopLim Tryd.f29.ntmps kp29 c29_0 [(0, (V.i .u8 t0)), (1, (V.b t1))] H K = g29_p0 a22 R t0 t1 H (fun t4 H => K .ret [(4, (V.s t4))] H) := by kernel_rfl
theorem g29_p0_lin {a22 : T22} (la22 : Lin22 a22) {R S : Type} {k : S → Option R} {t0 : Int} {t1 : Bool} {H : Heap} {fkR : ByteArray → Heap → Option R} {gkR : ByteArray → Heap → Option S} (hkR : ∀ t4 H, fkR t4 H = (gkR t4 H).bind k) : g29_p0 a22 R t0 t1 H fkR = (g29_p0 a22 S t0 t1 H gkR).bind k := by
  delta g29_p0; exact (
    sl_lin (
      la22.l fun x1 h2 =>
      catS_lin fun z3 =>
      hkR _ _) (
      la22.l fun x4 h5 =>
      catS_lin fun z6 =>
      hkR _ _))
noncomputable def g29_r (a22 : T22) : T29 := fun R t0 t1 H K =>
  g29_p0 a22 R t0 t1 H (fun t4 H =>
    K t4 H)
theorem g29_r_lin {a22 : T22} (la22 : Lin22 a22) : Lin29 (g29_r a22) := by
  constructor
  intro R S k t0 t1 H f g h
  exact g29_p0_lin la22 (fun t4 H =>
    h _ _)
theorem g29_fn (a22 : T22) (la22 : Lin22 a22) {R : Type} (t0 : Int) (t1 : Bool) (H : Heap) (K : V → Heap → Option R) : evFn Tryd.prog (E29 a22) loopLim Tryd.f29 kp29 [(V.i .u8 t0), (V.b t1)] H K = g29_r a22 R t0 t1 H (fun r0 H => K (V.s r0) H) := by
  have h0 : ∀ (t4 : ByteArray) (H : Heap), kFn Tryd.prog Tryd.f29.results.toList K .ret [(4, (V.s t4))] H =
      K (V.s t4) H := by intros; kernel_rfl
  have e0 := evFn_code2 (P := Tryd.prog) (c := c29_0) (E := (E29 a22)) (lr := loopLim) (kp := kp29) (fn := Tryd.f29) (args := [(V.i .u8 t0), (V.b t1)]) H K (by kernel_rfl) (Nat.le_of_ble_eq_true (by kernel_rfl)) (by kernel_rfl)
  have e1 : ev Tryd.prog (E29 a22) loopLim Tryd.f29.ntmps kp29 c29_0 (argFr 0 [(V.i .u8 t0), (V.b t1)]) H (kFn Tryd.prog Tryd.f29.results.toList K) = ev Tryd.prog (E29 a22) loopLim Tryd.f29.ntmps kp29 c29_0 [(0, (V.i .u8 t0)), (1, (V.b t1))] H (kFn Tryd.prog Tryd.f29.results.toList K) := by kernel_rfl
  refine (e0.trans e1).trans ?_
  delta g29_r
  exact (g29_p0_eq a22 la22 t0 t1 H (kFn Tryd.prog Tryd.f29.results.toList K)).trans (congrArg (g29_p0 a22 R t0 t1 H) (funext fun t4 => funext fun H => h0 t4 H))
theorem g29_ok {a22 : T22} (oa22 : FunOK Tryd.prog 22 (w22 a22)) (la22 : Lin22 a22) : FunOK Tryd.prog 29 (w29 (g29_r a22)) := by
  refine (runF_ok (E29_good oa22 la22) mixed lim_ok Tryd.func29 (by kernel_rfl) kp29).of_le fun R args H K r hk => ?_
  unfold w29 at hk
  split at hk
  · exact (g29_fn a22 la22 _ _ H K).trans hk
  · cases hk
def kp37 : Nat → Option (List Nat) := kpOf [(0, [0, 1]), (1, [0, 1]), (2, []), (3, [4]), (300000, [4])]
def E37 (a40 : T40) : FEnv := [(40, w40 a40)]
theorem E37_good {a40 : T40} (oa40 : FunOK Tryd.prog 40 (w40 a40)) (la40 : Lin40 a40) : EnvGood Tryd.prog (E37 a40) := ((EnvGood.nil _).cons oa40 (w40_lin la40))
theorem E37_lin {a40 : T40} (la40 : Lin40 a40) : EnvLin (E37 a40) := by
  intro g F h
  simp only [E37, List.mem_cons, List.not_mem_nil, or_false] at h
  rcases h with h
  · cases h; exact w40_lin la40
noncomputable def b37 : Code := Tryd.f37.body.getD .skip
noncomputable def c37_0 : Code := (.seq (codeAt [0] b37) (.seq (codeAt [1, 0] b37) (.seq (codeAt [1, 1, 0] b37) (.seq (codeAt [1, 1, 1, 0] b37) .ret))))
noncomputable def g37_p0 (a40 : T40) (R : Type) (t0 : Option (Nat × Nat)) (t1 : Int) (H : Heap) (kR : V → Heap → Option R) : Option R :=
  a40 R t0 H fun h1 =>
  (t0).bind fun q2 =>
  ((h1).ldSl q2.1 (q2.2 + 1)).bind fun x3 =>
  alo h1 (.cells [(V.i .u8 t1)] 5 false) fun i4 h5 =>
  ((slCells h5 1 (Sl.mk (some (i4, 0)) 1 (.ex 1)))).bind fun vs8 =>
  appendV h5 5 1 1 x3 (Sl.mk (some (i4, 0)) 1 (.ex 1)).len vs8 fun s6 h7 =>
  (t0).bind fun q9 =>
  ((h7).st q9.1 (q9.2 + 1) (V.sl s6)).bind fun h11 =>
  kR V.nilI h11
theorem g37_p0_eq (a40 : T40) (la40 : Lin40 a40) {R : Type} (t0 : Option (Nat × Nat)) (t1 : Int) (H : Heap) (K : Ex → Fr → Heap → Option R) : ev Tryd.prog (E37 a40) loopLim Tryd.f37.ntmps kp37 c37_0 [(0, (V.p t0)), (1, (V.i .u8 t1))] H K = g37_p0 a40 R t0 t1 H (fun t4 H => K .ret [(4, t4)] H) := by kernel_rfl
theorem g37_p0_lin {a40 : T40} (la40 : Lin40 a40) {R S : Type} {k : S → Option R} {t0 : Option (Nat × Nat)} {t1 : Int} {H : Heap} {fkR : V → Heap → Option R} {gkR : V → Heap → Option S} (hkR : ∀ t4 H, fkR t4 H = (gkR t4 H).bind k) : g37_p0 a40 R t0 t1 H fkR = (g37_p0 a40 S t0 t1 H gkR).bind k := by
  delta g37_p0; exact (
    la40.l fun h1 =>
    bl fun q2 =>
    bl fun x3 =>
    alo_lin fun i4 h5 =>
    bl fun vs8 =>
    appendV_lin fun s6 h7 =>
    bl fun q9 =>
    bl fun h11 =>
    hkR _ _)
noncomputable def g37_r (a40 : T40) : T37 := fun R t0 t1 H K =>
  g37_p0 a40 R t0 t1 H (fun t4 H =>
    K t4 H)
theorem g37_r_lin {a40 : T40} (la40 : Lin40 a40) : Lin37 (g37_r a40) := by
  constructor
  intro R S k t0 t1 H f g h
  exact g37_p0_lin la40 (fun t4 H =>
    h _ _)
theorem g37_fn (a40 : T40) (la40 : Lin40 a40) {R : Type} (t0 : Option (Nat × Nat)) (t1 : Int) (H : Heap) (K : V → Heap → Option R) : evFn Tryd.prog (E37 a40) loopLim Tryd.f37 kp37 [(V.p t0), (V.i .u8 t1)] H K = g37_r a40 R t0 t1 H (fun r0 H => K r0 H) := by
  have h0 : ∀ (t4 : V) (H : Heap), kFn Tryd.prog Tryd.f37.results.toList K .ret [(4, t4)] H =
      K t4 H := by intros; kernel_rfl
  have e0 := evFn_code2 (P := Tryd.prog) (c := c37_0) (E := (E37 a40)) (lr := loopLim) (kp := kp37) (fn := Tryd.f37) (args := [(V.p t0), (V.i .u8 t1)]) H K (by kernel_rfl) (Nat.le_of_ble_eq_true (by kernel_rfl)) (by kernel_rfl)
  have e1 : ev Tryd.prog (E37 a40) loopLim Tryd.f37.ntmps kp37 c37_0 (argFr 0 [(V.p t0), (V.i .u8 t1)]) H (kFn Tryd.prog Tryd.f37.results.toList K) = ev Tryd.prog (E37 a40) loopLim Tryd.f37.ntmps kp37 c37_0 [(0, (V.p t0)), (1, (V.i .u8 t1))] H (kFn Tryd.prog Tryd.f37.results.toList K) := by kernel_rfl
  refine (e0.trans e1).trans ?_
  delta g37_r
  exact (g37_p0_eq a40 la40 t0 t1 H (kFn Tryd.prog Tryd.f37.results.toList K)).trans (congrArg (g37_p0 a40 R t0 t1 H) (funext fun t4 => funext fun H => h0 t4 H))
theorem g37_ok {a40 : T40} (oa40 : FunOK Tryd.prog 40 (w40 a40)) (la40 : Lin40 a40) : FunOK Tryd.prog 37 (w37 (g37_r a40)) := by
  refine (runF_ok (E37_good oa40 la40) mixed lim_ok Tryd.func37 (by kernel_rfl) kp37).of_le fun R args H K r hk => ?_
  unfold w37 at hk
  split at hk
  · exact (g37_fn a40 la40 _ _ H K).trans hk
  · cases hk
def kp38 : Nat → Option (List Nat) := kpOf [(0, [0]), (1, [2]), (300000, [2])]
def E38 : FEnv := []
theorem E38_good : EnvGood Tryd.prog E38 := (EnvGood.nil _)
theorem E38_lin : EnvLin E38 := fun g F h => by cases h
noncomputable def b38 : Code := Tryd.f38.body.getD .skip
noncomputable def c38_0 : Code := (.seq (codeAt [0] b38) (.seq (codeAt [1, 0] b38) .ret))
noncomputable def g38_p0 (R : Type) (t0 : Option (Nat × Nat)) (H : Heap) (kR : ByteArray → Heap → Option R) : Option R :=
  (t0).bind fun q1 =>
  ((H).ldSl q1.1 (q1.2 + 1)).bind fun x2 =>
  sliceData x2 H fun p3 h4 =>
  (t0).bind fun q5 =>
  ((h4).ldSl q5.1 (q5.2 + 1)).bind fun x6 =>
  ((H).ldSl q5.1 (q5.2 + 1)).bind fun x7 =>
  if V.same (V.sl x6) (V.sl x7) = true then (
    if V.same (V.i .i64 ((x6.len : Nat) : Int)) (V.i .i64 ((x6.len : Nat) : Int)) = true then (
      unsafeStr Tryd.prog h4 73 p3 ((x6.len : Nat) : Int) fun s8 h9 =>
      kR s8 h9)
    else (
      none))
  else (
    none)
theorem g38_p0_eq {R : Type} (t0 : Option (Nat × Nat)) (H : Heap) (K : Ex → Fr → Heap → Option R) : ev Tryd.prog E38 loopLim Tryd.f38.ntmps kp38 c38_0 [(0, (V.p t0))] H K = g38_p0 R t0 H (fun t2 H => K .ret [(2, (V.s t2))] H) := by kernel_rfl
theorem g38_p0_lin {R S : Type} {k : S → Option R} {t0 : Option (Nat × Nat)} {H : Heap} {fkR : ByteArray → Heap → Option R} {gkR : ByteArray → Heap → Option S} (hkR : ∀ t2 H, fkR t2 H = (gkR t2 H).bind k) : g38_p0 R t0 H fkR = (g38_p0 S t0 H gkR).bind k := by
  delta g38_p0; exact (
    bl fun q1 =>
    bl fun x2 =>
    sliceData_lin fun p3 h4 =>
    bl fun q5 =>
    bl fun x6 =>
    bl fun x7 =>
    il (
      il (
        unsafeStr_lin fun s8 h9 =>
        hkR _ _) (
        rfl)) (
      rfl))
noncomputable def g38_r : T38 := fun R t0 H K =>
  g38_p0 R t0 H (fun t2 H =>
    K t2 H)
theorem g38_r_lin : Lin38 (g38_r) := by
  constructor
  intro R S k t0 H f g h
  exact g38_p0_lin (fun t2 H =>
    h _ _)
theorem g38_fn {R : Type} (t0 : Option (Nat × Nat)) (H : Heap) (K : V → Heap → Option R) : evFn Tryd.prog E38 loopLim Tryd.f38 kp38 [(V.p t0)] H K = g38_r R t0 H (fun r0 H => K (V.s r0) H) := by
  have h0 : ∀ (t2 : ByteArray) (H : Heap), kFn Tryd.prog Tryd.f38.results.toList K .ret [(2, (V.s t2))] H =
      K (V.s t2) H := by intros; kernel_rfl
  have e0 := evFn_code2 (P := Tryd.prog) (c := c38_0) (E := E38) (lr := loopLim) (kp := kp38) (fn := Tryd.f38) (args := [(V.p t0)]) H K (by kernel_rfl) (Nat.le_of_ble_eq_true (by kernel_rfl)) (by kernel_rfl)
  have e1 : ev Tryd.prog E38 loopLim Tryd.f38.ntmps kp38 c38_0 (argFr 0 [(V.p t0)]) H (kFn Tryd.prog Tryd.f38.results.toList K) = ev Tryd.prog E38 loopLim Tryd.f38.ntmps kp38 c38_0 [(0, (V.p t0))] H (kFn Tryd.prog Tryd.f38.results.toList K) := by kernel_rfl
  refine (e0.trans e1).trans ?_
  delta g38_r
  exact (g38_p0_eq t0 H (kFn Tryd.prog Tryd.f38.results.toList K)).trans (congrArg (g38_p0 R t0 H) (funext fun t2 => funext fun H => h0 t2 H))
theorem g38_ok : FunOK Tryd.prog 38 (w38 (g38_r)) := by
  refine (runF_ok (E38_good) mixed lim_ok Tryd.func38 (by kernel_rfl) kp38).of_le fun R args H K r hk => ?_
  unfold w38 at hk
  split at hk
  · exact (g38_fn _ H K).trans hk
  · cases hk
def kp30 : Nat → Option (List Nat) := kpOf [(0, [0]), (1, [0, 3]), (2, [3, 6, 7, 8]), (3, [3, 6, 7, 8, 9]), (4, [3, 5, 6, 7, 8]), (5, [3, 5, 6, 7, 8]), (6, [3, 6, 7, 8]), (7, [3, 6, 7, 8]), (8, [2]), (100000, [3]), (100001, [3, 6, 7, 8]), (200000, [3, 6, 7, 8]), (200001, [3, 6, 7, 8]), (300000, [2]), (400009, [3, 6, 7, 8])]
def E30 (a37 : T37) (a38 : T38) : FEnv := [(37, w37 a37), (38, w38 a38)]
theorem E30_good {a37 : T37} {a38 : T38} (oa37 : FunOK Tryd.prog 37 (w37 a37)) (oa38 : FunOK Tryd.prog 38 (w38 a38)) (la37 : Lin37 a37) (la38 : Lin38 a38) : EnvGood Tryd.prog (E30 a37 a38) := (((EnvGood.nil _).cons oa38 (w38_lin la38)).cons oa37 (w37_lin la37))
theorem E30_lin {a37 : T37} {a38 : T38} (la37 : Lin37 a37) (la38 : Lin38 a38) : EnvLin (E30 a37 a38) := by
  intro g F h
  simp only [E30, List.mem_cons, List.not_mem_nil, or_false] at h
  rcases h with h | h
  · cases h; exact w37_lin la37
  · cases h; exact w38_lin la38
noncomputable def b30 : Code := Tryd.f30.body.getD .skip
noncomputable def c30_0 : Code := (.seq (codeAt [1, 1, 0, 1, 0, 0, 0] b30) (.seq (.cond (.tmp 9) .skip (.exit 0)) (.seq (.block 1 (.seq (codeAt [1, 1, 0, 1, 0, 0, 1, 1, 0, 0, 0] b30) (.seq (codeAt [1, 1, 0, 1, 0, 0, 1, 1, 0, 0, 1, 0] b30) (codeAt [1, 1, 0, 1, 0, 0, 1, 1, 0, 0, 1, 1] b30)))) (codeAt [1, 1, 0, 1, 0, 0, 1, 1, 1] b30))))
noncomputable def c30_1 : Code := (.loop c30_0)
noncomputable def c30_2 : Code := (.block 0 c30_1)
noncomputable def c30_3 : Code := (.seq (codeAt [1, 1, 1, 0] b30) .ret)
noncomputable def c30_4 : Code := (.seq c30_2 c30_3)
noncomputable def c30_5 : Code := (.seq (codeAt [0] b30) (.seq (codeAt [1, 0] b30) (.seq (codeAt [1, 1, 0, 0] b30) c30_4)))
noncomputable def g30_p0 (a37 : T37) (a38 : T38) (R : Type) (t0 : Sl) (H : Heap) (kN : Nat → Nat → Sl → Int → Int → Heap → Option R) : Option R :=
  alo H (.cells [(V.p none), (V.sl (Sl.mk none 0 (.ex 0)))] 66 false) fun i3 h4 =>
  kN i3 0 t0 ((t0.len : Nat) : Int) (0 : Int) h4
theorem g30_p0_eq (a37 : T37) (a38 : T38) {R : Type} (c2 : Code) (t0 : Sl) (H : Heap) (K : Ex → Fr → Heap → Option R) : ev Tryd.prog (E30 a37 a38) loopLim Tryd.f30.ntmps kp30 (.seq (codeAt [0] b30) (.seq (codeAt [1, 0] b30) (.seq (codeAt [1, 1, 0, 0] b30) c2))) [(0, (V.sl t0))] H K = g30_p0 a37 a38 R t0 H (fun t3_0 t3_1 t6 t7 t8 H => ev Tryd.prog (E30 a37 a38) loopLim Tryd.f30.ntmps kp30 c2 [(3, (V.p (some (t3_0, t3_1)))), (6, (V.sl t6)), (7, (V.i .i64 t7)), (8, (V.i .i64 t8))] H K) := by kernel_rfl
theorem g30_p0_lin {a37 : T37} {a38 : T38} (la37 : Lin37 a37) (la38 : Lin38 a38) {R S : Type} {k : S → Option R} {t0 : Sl} {H : Heap} {fkN : Nat → Nat → Sl → Int → Int → Heap → Option R} {gkN : Nat → Nat → Sl → Int → Int → Heap → Option S} (hkN : ∀ t3_0 t3_1 t6 t7 t8 H, fkN t3_0 t3_1 t6 t7 t8 H = (gkN t3_0 t3_1 t6 t7 t8 H).bind k) : g30_p0 a37 a38 R t0 H fkN = (g30_p0 a37 a38 S t0 H gkN).bind k := by
  delta g30_p0; exact (
    alo_lin fun i3 h4 =>
    hkN _ _ _ _ _ _)
noncomputable def g30_p1 (a37 : T37) (a38 : T38) (R : Type) (t3_0 : Nat) (t3_1 : Nat) (t6 : Sl) (t7 : Int) (t8 : Int) (H : Heap) (kN : Nat → Nat → Sl → Int → Int → Heap → Option R) (kE0 : Nat → Nat → Heap → Option R) : Option R :=
  sel (decide (t8 < t7)) (
    if 0 ≤ t8 ∧ t8 < ((t6.len : Nat) : Int) then (
      (t6.a).bind fun q5 =>
      ((H).ldI .u8 q5.1 (q5.2 + Int.toNat t8 * 1)).bind fun x6 =>
      if 0 ≤ (shrI .u8 x6 (4 : Int)) ∧ (shrI .u8 x6 (4 : Int)) < ((str9.size : Nat) : Int) then (
        a37 R (some (t3_0, t3_1)) (btAt str9 (shrI .u8 x6 (4 : Int))) H fun x7 h8 =>
        if (V.one x7) = true then (
          if 0 ≤ (bvAnd .u8 x6 (15 : Int)) ∧ (bvAnd .u8 x6 (15 : Int)) < ((str9.size : Nat) : Int) then (
            a37 R (some (t3_0, t3_1)) (btAt str9 (bvAnd .u8 x6 (15 : Int))) h8 fun x9 h10 =>
            if (V.one x9) = true then (
              kN t3_0 t3_1 t6 t7 (IntKind.wrap .i64 (t8 + (1 : Int))) h10)
            else (
              none))
          else (
            none))
        else (
          none))
      else (
        none))
    else (
      none)) (
    kE0 t3_0 t3_1 H)
theorem g30_p1_eq (a37 : T37) (a38 : T38) (la37 : Lin37 a37) (la38 : Lin38 a38) {R : Type} (t3_0 : Nat) (t3_1 : Nat) (t6 : Sl) (t7 : Int) (t8 : Int) (H : Heap) (K : Ex → Fr → Heap → Option R) : ev Tryd.prog (E30 a37 a38) loopLim Tryd.f30.ntmps kp30 c30_0 [(3, (V.p (some (t3_0, t3_1)))), (6, (V.sl t6)), (7, (V.i .i64 t7)), (8, (V.i .i64 t8))] H K = g30_p1 a37 a38 R t3_0 t3_1 t6 t7 t8 H (fun t3_0 t3_1 t6 t7 t8 H => K .normal [(3, (V.p (some (t3_0, t3_1)))), (6, (V.sl t6)), (7, (V.i .i64 t7)), (8, (V.i .i64 t8))] H) (fun t3_0 t3_1 H => K (.exit 0) [(3, (V.p (some (t3_0, t3_1))))] H) := by kernel_rfl
theorem g30_p1_lin {a37 : T37} {a38 : T38} (la37 : Lin37 a37) (la38 : Lin38 a38) {R S : Type} {k : S → Option R} {t3_0 : Nat} {t3_1 : Nat} {t6 : Sl} {t7 : Int} {t8 : Int} {H : Heap} {fkN : Nat → Nat → Sl → Int → Int → Heap → Option R} {gkN : Nat → Nat → Sl → Int → Int → Heap → Option S} {fkE0 : Nat → Nat → Heap → Option R} {gkE0 : Nat → Nat → Heap → Option S} (hkN : ∀ t3_0 t3_1 t6 t7 t8 H, fkN t3_0 t3_1 t6 t7 t8 H = (gkN t3_0 t3_1 t6 t7 t8 H).bind k) (hkE0 : ∀ t3_0 t3_1 H, fkE0 t3_0 t3_1 H = (gkE0 t3_0 t3_1 H).bind k) : g30_p1 a37 a38 R t3_0 t3_1 t6 t7 t8 H fkN fkE0 = (g30_p1 a37 a38 S t3_0 t3_1 t6 t7 t8 H gkN gkE0).bind k := by
  delta g30_p1; exact (
    sl_lin (
      il (
        bl fun q5 =>
        bl fun x6 =>
        il (
          la37.l fun x7 h8 =>
          il (
            il (
              la37.l fun x9 h10 =>
              il (
                hkN _ _ _ _ _ _) (
                rfl)) (
              rfl)) (
            rfl)) (
          rfl)) (
        rfl)) (
      hkE0 _ _ _))
abbrev g30_p2_S := Nat × Nat × Sl × Int × Int
abbrev g30_p2_O := Nat × Nat
def g30_p2_es (s : g30_p2_S) : Fr := [(3, (V.p (some (s.1, s.2.1)))), (6, (V.sl s.2.2.1)), (7, (V.i .i64 s.2.2.2.1)), (8, (V.i .i64 s.2.2.2.2))]
def g30_p2_er (r : g30_p2_O) : Ex × Fr := ((.exit 0), [(3, (V.p (some (r.1, r.2))))])
noncomputable def g30_p2_b (a37 : T37) (a38 : T38) (s : g30_p2_S) (H : Heap) : Option (Rd g30_p2_S g30_p2_O × Heap) :=
  g30_p1 a37 a38 _ s.1 s.2.1 s.2.2.1 s.2.2.2.1 s.2.2.2.2 H (fun t3_0 t3_1 t6 t7 t8 H => some (.go (t3_0, t3_1, t6, t7, t8), H)) (fun t3_0 t3_1 H => some (.up (t3_0, t3_1), H))
noncomputable def g30_p2 (a37 : T37) (a38 : T38) (R : Type) (t3_0 : Nat) (t3_1 : Nat) (t6 : Sl) (t7 : Int) (t8 : Int) (H : Heap) (kE0 : Nat → Nat → Heap → Option R) : Option R :=
  (tlim (g30_p2_b a37 a38) (t3_0, t3_1, t6, t7, t8) H).bind fun p => kE0 p.1.1 p.1.2 p.2
theorem g30_p2_lin {a37 : T37} {a38 : T38} (la37 : Lin37 a37) (la38 : Lin38 a38) {R S : Type} {k : S → Option R} {t3_0 : Nat} {t3_1 : Nat} {t6 : Sl} {t7 : Int} {t8 : Int} {H : Heap} {fkE0 : Nat → Nat → Heap → Option R} {gkE0 : Nat → Nat → Heap → Option S} (hkE0 : ∀ t3_0 t3_1 H, fkE0 t3_0 t3_1 H = (gkE0 t3_0 t3_1 H).bind k) : g30_p2 a37 a38 R t3_0 t3_1 t6 t7 t8 H fkE0 = (g30_p2 a37 a38 S t3_0 t3_1 t6 t7 t8 H gkE0).bind k := by
  exact bl fun p => hkE0 _ _ _
theorem g30_p2_eq (a37 : T37) (a38 : T38) (la37 : Lin37 a37) (la38 : Lin38 a38) {R : Type} (t3_0 : Nat) (t3_1 : Nat) (t6 : Sl) (t7 : Int) (t8 : Int) (H : Heap) (K : Ex → Fr → Heap → Option R) : ev Tryd.prog (E30 a37 a38) loopLim Tryd.f30.ntmps kp30 c30_1 [(3, (V.p (some (t3_0, t3_1)))), (6, (V.sl t6)), (7, (V.i .i64 t7)), (8, (V.i .i64 t8))] H K = g30_p2 a37 a38 R t3_0 t3_1 t6 t7 t8 H (fun t3_0 t3_1 H => K (.exit 0) [(3, (V.p (some (t3_0, t3_1))))] H) := by
  show ev Tryd.prog (E30 a37 a38) loopLim Tryd.f30.ntmps kp30 (.loop c30_0) [(3, (V.p (some (t3_0, t3_1)))), (6, (V.sl t6)), (7, (V.i .i64 t7)), (8, (V.i .i64 t8))] H K = _
  delta g30_p2
  refine (ev_tlim (b := g30_p2_b a37 a38) (es := g30_p2_es) (er := g30_p2_er) (by intro r; exact nofun) (fun s H => ?_) (t3_0, t3_1, t6, t7, t8) H K).trans (bc fun p => rfl)
  exact (g30_p1_eq a37 a38 la37 la38 s.1 s.2.1 s.2.2.1 s.2.2.2.1 s.2.2.2.2 H ret3).trans (g30_p1_lin la37 la38 (fun _ _ _ _ _ _ => rfl) (fun _ _ _ => rfl))
noncomputable def g30_p3 (a37 : T37) (a38 : T38) (R : Type) (t3_0 : Nat) (t3_1 : Nat) (t6 : Sl) (t7 : Int) (t8 : Int) (H : Heap) (kN : Nat → Nat → Heap → Option R) : Option R :=
  g30_p2 a37 a38 R t3_0 t3_1 t6 t7 t8 H (fun t3_0 t3_1 H => kN t3_0 t3_1 H)
theorem g30_p3_lin {a37 : T37} {a38 : T38} (la37 : Lin37 a37) (la38 : Lin38 a38) {R S : Type} {k : S → Option R} {t3_0 : Nat} {t3_1 : Nat} {t6 : Sl} {t7 : Int} {t8 : Int} {H : Heap} {fkN : Nat → Nat → Heap → Option R} {gkN : Nat → Nat → Heap → Option S} (hkN : ∀ t3_0 t3_1 H, fkN t3_0 t3_1 H = (gkN t3_0 t3_1 H).bind k) : g30_p3 a37 a38 R t3_0 t3_1 t6 t7 t8 H fkN = (g30_p3 a37 a38 S t3_0 t3_1 t6 t7 t8 H gkN).bind k := by
  exact g30_p2_lin la37 la38 (fun _ _ _ => hkN _ _ _)
theorem g30_p3_eq (a37 : T37) (a38 : T38) (la37 : Lin37 a37) (la38 : Lin38 a38) {R : Type} (t3_0 : Nat) (t3_1 : Nat) (t6 : Sl) (t7 : Int) (t8 : Int) (H : Heap) (K : Ex → Fr → Heap → Option R) : ev Tryd.prog (E30 a37 a38) loopLim Tryd.f30.ntmps kp30 c30_2 [(3, (V.p (some (t3_0, t3_1)))), (6, (V.sl t6)), (7, (V.i .i64 t7)), (8, (V.i .i64 t8))] H K = g30_p3 a37 a38 R t3_0 t3_1 t6 t7 t8 H (fun t3_0 t3_1 H => K .normal [(3, (V.p (some (t3_0, t3_1))))] H) := by
  show ev Tryd.prog (E30 a37 a38) loopLim Tryd.f30.ntmps kp30 (.block 0 c30_1) [(3, (V.p (some (t3_0, t3_1)))), (6, (V.sl t6)), (7, (V.i .i64 t7)), (8, (V.i .i64 t8))] H K = _
  rw [ev_block]
  delta g30_p3
  exact (g30_p2_eq a37 a38 la37 la38 t3_0 t3_1 t6 t7 t8 H (kBlock kp30 0 K))
noncomputable def g30_p4 (a37 : T37) (a38 : T38) (R : Type) (t3_0 : Nat) (t3_1 : Nat) (H : Heap) (kR : ByteArray → Heap → Option R) : Option R :=
  a38 R (some (t3_0, t3_1)) H fun x11 h12 =>
  kR x11 h12
theorem g30_p4_eq (a37 : T37) (a38 : T38) (la37 : Lin37 a37) (la38 : Lin38 a38) {R : Type} (t3_0 : Nat) (t3_1 : Nat) (H : Heap) (K : Ex → Fr → Heap → Option R) : ev Tryd.prog (E30 a37 a38) loopLim Tryd.f30.ntmps kp30 c30_3 [(3, (V.p (some (t3_0, t3_1))))] H K = g30_p4 a37 a38 R t3_0 t3_1 H (fun t2 H => K .ret [(2, (V.s t2))] H) := by kernel_rfl
theorem g30_p4_lin {a37 : T37} {a38 : T38} (la37 : Lin37 a37) (la38 : Lin38 a38) {R S : Type} {k : S → Option R} {t3_0 : Nat} {t3_1 : Nat} {H : Heap} {fkR : ByteArray → Heap → Option R} {gkR : ByteArray → Heap → Option S} (hkR : ∀ t2 H, fkR t2 H = (gkR t2 H).bind k) : g30_p4 a37 a38 R t3_0 t3_1 H fkR = (g30_p4 a37 a38 S t3_0 t3_1 H gkR).bind k := by
  delta g30_p4; exact (
    la38.l fun x11 h12 =>
    hkR _ _)
noncomputable def g30_p5 (a37 : T37) (a38 : T38) (R : Type) (t3_0 : Nat) (t3_1 : Nat) (t6 : Sl) (t7 : Int) (t8 : Int) (H : Heap) (kR : ByteArray → Heap → Option R) : Option R :=
  g30_p3 a37 a38 R t3_0 t3_1 t6 t7 t8 H (fun t3_0 t3_1 H => g30_p4 a37 a38 R t3_0 t3_1 H (fun t2 H => kR t2 H))
theorem g30_p5_lin {a37 : T37} {a38 : T38} (la37 : Lin37 a37) (la38 : Lin38 a38) {R S : Type} {k : S → Option R} {t3_0 : Nat} {t3_1 : Nat} {t6 : Sl} {t7 : Int} {t8 : Int} {H : Heap} {fkR : ByteArray → Heap → Option R} {gkR : ByteArray → Heap → Option S} (hkR : ∀ t2 H, fkR t2 H = (gkR t2 H).bind k) : g30_p5 a37 a38 R t3_0 t3_1 t6 t7 t8 H fkR = (g30_p5 a37 a38 S t3_0 t3_1 t6 t7 t8 H gkR).bind k := by
  exact g30_p3_lin la37 la38 (fun _ _ _ => g30_p4_lin la37 la38 (fun _ _ => hkR _ _))
theorem g30_p5_eq (a37 : T37) (a38 : T38) (la37 : Lin37 a37) (la38 : Lin38 a38) {R : Type} (t3_0 : Nat) (t3_1 : Nat) (t6 : Sl) (t7 : Int) (t8 : Int) (H : Heap) (K : Ex → Fr → Heap → Option R) : ev Tryd.prog (E30 a37 a38) loopLim Tryd.f30.ntmps kp30 c30_4 [(3, (V.p (some (t3_0, t3_1)))), (6, (V.sl t6)), (7, (V.i .i64 t7)), (8, (V.i .i64 t8))] H K = g30_p5 a37 a38 R t3_0 t3_1 t6 t7 t8 H (fun t2 H => K .ret [(2, (V.s t2))] H) := by
  show ev Tryd.prog (E30 a37 a38) loopLim Tryd.f30.ntmps kp30 (.seq c30_2 c30_3) [(3, (V.p (some (t3_0, t3_1)))), (6, (V.sl t6)), (7, (V.i .i64 t7)), (8, (V.i .i64 t8))] H K = _
  rw [ev_seq]
  delta g30_p5
  exact (g30_p3_eq a37 a38 la37 la38 t3_0 t3_1 t6 t7 t8 H (kSeq (fun fr H => ev Tryd.prog (E30 a37 a38) loopLim Tryd.f30.ntmps kp30 c30_3 fr H K) K)).trans (congrArg (g30_p3 a37 a38 R t3_0 t3_1 t6 t7 t8 H) (funext fun t3_0 => funext fun t3_1 => funext fun H => (kSeq_n _ _ _ _).trans (g30_p4_eq a37 a38 la37 la38 t3_0 t3_1 H K)))
noncomputable def g30_p6 (a37 : T37) (a38 : T38) (R : Type) (t0 : Sl) (H : Heap) (kR : ByteArray → Heap → Option R) : Option R :=
  g30_p0 a37 a38 R t0 H (fun t3_0 t3_1 t6 t7 t8 H => g30_p5 a37 a38 R t3_0 t3_1 t6 t7 t8 H (fun t2 H => kR t2 H))
theorem g30_p6_lin {a37 : T37} {a38 : T38} (la37 : Lin37 a37) (la38 : Lin38 a38) {R S : Type} {k : S → Option R} {t0 : Sl} {H : Heap} {fkR : ByteArray → Heap → Option R} {gkR : ByteArray → Heap → Option S} (hkR : ∀ t2 H, fkR t2 H = (gkR t2 H).bind k) : g30_p6 a37 a38 R t0 H fkR = (g30_p6 a37 a38 S t0 H gkR).bind k := by
  exact g30_p0_lin la37 la38 (fun _ _ _ _ _ _ => g30_p5_lin la37 la38 (fun _ _ => hkR _ _))
theorem g30_p6_eq (a37 : T37) (a38 : T38) (la37 : Lin37 a37) (la38 : Lin38 a38) {R : Type} (t0 : Sl) (H : Heap) (K : Ex → Fr → Heap → Option R) : ev Tryd.prog (E30 a37 a38) loopLim Tryd.f30.ntmps kp30 c30_5 [(0, (V.sl t0))] H K = g30_p6 a37 a38 R t0 H (fun t2 H => K .ret [(2, (V.s t2))] H) := by
  show ev Tryd.prog (E30 a37 a38) loopLim Tryd.f30.ntmps kp30 (.seq (codeAt [0] b30) (.seq (codeAt [1, 0] b30) (.seq (codeAt [1, 1, 0, 0] b30) c30_4))) [(0, (V.sl t0))] H K = _
  delta g30_p6
  exact (g30_p0_eq a37 a38 _ t0 H K).trans (congrArg (g30_p0 a37 a38 R t0 H) (funext fun t3_0 => funext fun t3_1 => funext fun t6 => funext fun t7 => funext fun t8 => funext fun H => g30_p5_eq a37 a38 la37 la38 t3_0 t3_1 t6 t7 t8 H K))
noncomputable def g30_r (a37 : T37) (a38 : T38) : T30 := fun R t0 H K =>
  g30_p6 a37 a38 R t0 H (fun t2 H =>
    K t2 H)
theorem g30_r_lin {a37 : T37} {a38 : T38} (la37 : Lin37 a37) (la38 : Lin38 a38) : Lin30 (g30_r a37 a38) := by
  constructor
  intro R S k t0 H f g h
  exact g30_p6_lin la37 la38 (fun t2 H =>
    h _ _)
theorem g30_fn (a37 : T37) (a38 : T38) (la37 : Lin37 a37) (la38 : Lin38 a38) {R : Type} (t0 : Sl) (H : Heap) (K : V → Heap → Option R) : evFn Tryd.prog (E30 a37 a38) loopLim Tryd.f30 kp30 [(V.sl t0)] H K = g30_r a37 a38 R t0 H (fun r0 H => K (V.s r0) H) := by
  have h0 : ∀ (t2 : ByteArray) (H : Heap), kFn Tryd.prog Tryd.f30.results.toList K .ret [(2, (V.s t2))] H =
      K (V.s t2) H := by intros; kernel_rfl
  have e0 := evFn_code2 (P := Tryd.prog) (c := c30_5) (E := (E30 a37 a38)) (lr := loopLim) (kp := kp30) (fn := Tryd.f30) (args := [(V.sl t0)]) H K (by kernel_rfl) (Nat.le_of_ble_eq_true (by kernel_rfl)) (by kernel_rfl)
  have e1 : ev Tryd.prog (E30 a37 a38) loopLim Tryd.f30.ntmps kp30 c30_5 (argFr 0 [(V.sl t0)]) H (kFn Tryd.prog Tryd.f30.results.toList K) = ev Tryd.prog (E30 a37 a38) loopLim Tryd.f30.ntmps kp30 c30_5 [(0, (V.sl t0))] H (kFn Tryd.prog Tryd.f30.results.toList K) := by kernel_rfl
  refine (e0.trans e1).trans ?_
  delta g30_r
  exact (g30_p6_eq a37 a38 la37 la38 t0 H (kFn Tryd.prog Tryd.f30.results.toList K)).trans (congrArg (g30_p6 a37 a38 R t0 H) (funext fun t2 => funext fun H => h0 t2 H))
theorem g30_ok {a37 : T37} {a38 : T38} (oa37 : FunOK Tryd.prog 37 (w37 a37)) (oa38 : FunOK Tryd.prog 38 (w38 a38)) (la37 : Lin37 a37) (la38 : Lin38 a38) : FunOK Tryd.prog 30 (w30 (g30_r a37 a38)) := by
  refine (runF_ok (E30_good oa37 oa38 la37 la38) mixed lim_ok Tryd.func30 (by kernel_rfl) kp30).of_le fun R args H K r hk => ?_
  unfold w30 at hk
  split at hk
  · exact (g30_fn a37 a38 la37 la38 _ H K).trans hk
  · cases hk
def kp12 : Nat → Option (List Nat) := kpOf [(0, [1]), (1, [1, 7]), (2, [2]), (3, [1, 3]), (4, [1, 4]), (5, [1, 4, 24]), (6, [1, 4, 24, 25]), (7, [2]), (8, [1, 4, 34]), (9, [2]), (10, [2]), (100000, [4]), (200000, [1, 4, 24]), (300000, [2]), (400007, [1]), (400025, [4]), (400034, [4])]
def E12 (a11 : T11) (a29 : T29) (a22 : T22) (a30 : T30) : FEnv := [(11, w11 a11), (29, w29 a29), (22, w22 a22), (30, w30 a30)]
theorem E12_good {a11 : T11} {a29 : T29} {a22 : T22} {a30 : T30} (oa11 : FunOK Tryd.prog 11 (w11 a11)) (oa29 : FunOK Tryd.prog 29 (w29 a29)) (oa22 : FunOK Tryd.prog 22 (w22 a22)) (oa30 : FunOK Tryd.prog 30 (w30 a30)) (la11 : Lin11 a11) (la29 : Lin29 a29) (la22 : Lin22 a22) (la30 : Lin30 a30) : EnvGood Tryd.prog (E12 a11 a29 a22 a30) := (((((EnvGood.nil _).cons oa30 (w30_lin la30)).cons oa22 (w22_lin la22)).cons oa29 (w29_lin la29)).cons oa11 (w11_lin la11))
theorem E12_lin {a11 : T11} {a29 : T29} {a22 : T22} {a30 : T30} (la11 : Lin11 a11) (la29 : Lin29 a29) (la22 : Lin22 a22) (la30 : Lin30 a30) : EnvLin (E12 a11 a29 a22 a30) := by
  intro g F h
  simp only [E12, List.mem_cons, List.not_mem_nil, or_false] at h
  rcases h with h | h | h | h
  · cases h; exact w11_lin la11
  · cases h; exact w29_lin la29
  · cases h; exact w22_lin la22
  · cases h; exact w30_lin la30
noncomputable def b12 : Code := Tryd.f12.body.getD .skip
noncomputable def c12_0 : Code := (.seq (codeAt [0] b12) (.seq (codeAt [1, 0, 0] b12) (.seq (.cond (.tmp 7) (.seq (codeAt [1, 0, 1, 0, 0] b12) .ret) .skip) (.seq (codeAt [1, 1, 0] b12) (.seq (codeAt [1, 1, 1, 0] b12) (.seq (codeAt [1, 1, 1, 1, 0, 0] b12) (.seq (.block 0 (.seq (codeAt [1, 1, 1, 1, 0, 1, 0, 0] b12) (.cond (.tmp 25) (.seq (codeAt [1, 1, 1, 1, 0, 1, 0, 1, 0, 0] b12) .ret) (.seq (codeAt [1, 1, 1, 1, 0, 1, 0, 1, 1, 0] b12) (.cond (.tmp 34) (.seq (codeAt [1, 1, 1, 1, 0, 1, 0, 1, 1, 1, 0, 0] b12) .ret) .skip))))) (.seq (codeAt [1, 1, 1, 1, 1, 0] b12) .ret))))))))
noncomputable def g12_p0 (a11 : T11) (a29 : T29) (a22 : T22) (a30 : T30) (R : Type) (t0_0 : Int) (t0_1 : Bool) (t0_2 : Int) (t0_3 : Bool) (t0_4 : Int) (t0_5 : Int) (t0_6 : Sl) (H : Heap) (kR : ByteArray → Heap → Option R) : Option R :=
  alo H (.cells [(V.i .u8 t0_0), (V.b t0_1), (V.i .u8 t0_2), (V.b t0_3), (V.i .u8 t0_4), (V.i .u8 t0_5), (V.sl t0_6)] 25 false) fun i1 h2 =>
  ((h2).ldI .u8 i1 (0 + 0)).bind fun x3 =>
  ((h2).ldB i1 (0 + 1)).bind fun x4 =>
  ((h2).ldI .u8 i1 (0 + 2)).bind fun x5 =>
  ((h2).ldB i1 (0 + 3)).bind fun x6 =>
  ((h2).ldI .u8 i1 (0 + 4)).bind fun x7 =>
  ((h2).ldI .u8 i1 (0 + 5)).bind fun x8 =>
  ((h2).ldSl i1 (0 + 6)).bind fun x9 =>
  a11 R x3 x4 x5 x6 x7 x8 x9 h2 fun x10 h11 =>
  sel (x10 != (0 : Int)) (
    kR str2 h11) (
    ((h11).ldI .u8 i1 (0 + 0)).bind fun x12 =>
    ((h11).ldB i1 (0 + 1)).bind fun x13 =>
    a29 R x12 x13 h11 fun x14 h15 =>
    catS str5 x14 fun z16 =>
    catS z16 str6 fun z17 =>
    ((h15).ldI .u8 i1 (0 + 2)).bind fun x18 =>
    ((h11).ldI .u8 i1 (0 + 2)).bind fun x19 =>
    if V.same (V.i .u8 x18) (V.i .u8 x19) = true then (
      ((h15).ldB i1 (0 + 3)).bind fun x20 =>
      ((h11).ldB i1 (0 + 3)).bind fun x21 =>
      if V.same (V.b x20) (V.b x21) = true then (
        a29 R x18 x20 h15 fun x22 h23 =>
        catS z17 x22 fun z24 =>
        ((h23).ldI .u8 i1 (0 + 4)).bind fun x25 =>
        sel (x25 == (1 : Int)) (
          catS z24 str7 fun z26 =>
          ((h23).ldI .u8 i1 (0 + 5)).bind fun x27 =>
          a22 R (IntKind.wrap .i64 x27) h23 fun x28 h29 =>
          catS z26 x28 fun z30 =>
          kR z30 h29) (
          sel (x25 == (2 : Int)) (
            catS z24 str8 fun z31 =>
            ((h23).ldSl i1 (0 + 6)).bind fun x32 =>
            a30 R x32 h23 fun x33 h34 =>
            catS z31 x33 fun z35 =>
            kR z35 h34) (
            catS z24 str10 fun z36 =>
            kR z36 h23)))
      else (
        none))
    else (
      none))
theorem g12_p0_eq (a11 : T11) (a29 : T29) (a22 : T22) (a30 : T30) (la11 : Lin11 a11) (la29 : Lin29 a29) (la22 : Lin22 a22) (la30 : Lin30 a30) {R : Type} (t0_0 : Int) (t0_1 : Bool) (t0_2 : Int) (t0_3 : Bool) (t0_4 : Int) (t0_5 : Int) (t0_6 : Sl) (H : Heap) (K : Ex → Fr → Heap → Option R) : ev Tryd.prog (E12 a11 a29 a22 a30) loopLim Tryd.f12.ntmps kp12 c12_0 [(0, (V.agg [(V.i .u8 t0_0), (V.b t0_1), (V.i .u8 t0_2), (V.b t0_3), (V.i .u8 t0_4), (V.i .u8 t0_5), (V.sl t0_6)]))] H K = g12_p0 a11 a29 a22 a30 R t0_0 t0_1 t0_2 t0_3 t0_4 t0_5 t0_6 H (fun t2 H => K .ret [(2, (V.s t2))] H) := by kernel_rfl
theorem g12_p0_lin {a11 : T11} {a29 : T29} {a22 : T22} {a30 : T30} (la11 : Lin11 a11) (la29 : Lin29 a29) (la22 : Lin22 a22) (la30 : Lin30 a30) {R S : Type} {k : S → Option R} {t0_0 : Int} {t0_1 : Bool} {t0_2 : Int} {t0_3 : Bool} {t0_4 : Int} {t0_5 : Int} {t0_6 : Sl} {H : Heap} {fkR : ByteArray → Heap → Option R} {gkR : ByteArray → Heap → Option S} (hkR : ∀ t2 H, fkR t2 H = (gkR t2 H).bind k) : g12_p0 a11 a29 a22 a30 R t0_0 t0_1 t0_2 t0_3 t0_4 t0_5 t0_6 H fkR = (g12_p0 a11 a29 a22 a30 S t0_0 t0_1 t0_2 t0_3 t0_4 t0_5 t0_6 H gkR).bind k := by
  delta g12_p0; exact (
    alo_lin fun i1 h2 =>
    bl fun x3 =>
    bl fun x4 =>
    bl fun x5 =>
    bl fun x6 =>
    bl fun x7 =>
    bl fun x8 =>
    bl fun x9 =>
    la11.l fun x10 h11 =>
    sl_lin (
      hkR _ _) (
      bl fun x12 =>
      bl fun x13 =>
      la29.l fun x14 h15 =>
      catS_lin fun z16 =>
      catS_lin fun z17 =>
      bl fun x18 =>
      bl fun x19 =>
      il (
        bl fun x20 =>
        bl fun x21 =>
        il (
          la29.l fun x22 h23 =>
          catS_lin fun z24 =>
          bl fun x25 =>
          sl_lin (
            catS_lin fun z26 =>
            bl fun x27 =>
            la22.l fun x28 h29 =>
            catS_lin fun z30 =>
            hkR _ _) (
            sl_lin (
              catS_lin fun z31 =>
              bl fun x32 =>
              la30.l fun x33 h34 =>
              catS_lin fun z35 =>
              hkR _ _) (
              catS_lin fun z36 =>
              hkR _ _))) (
          rfl)) (
        rfl)))
noncomputable def g12_r (a11 : T11) (a29 : T29) (a22 : T22) (a30 : T30) : T12 := fun R t0_0 t0_1 t0_2 t0_3 t0_4 t0_5 t0_6 H K =>
  g12_p0 a11 a29 a22 a30 R t0_0 t0_1 t0_2 t0_3 t0_4 t0_5 t0_6 H (fun t2 H =>
    K t2 H)
theorem g12_r_lin {a11 : T11} {a29 : T29} {a22 : T22} {a30 : T30} (la11 : Lin11 a11) (la29 : Lin29 a29) (la22 : Lin22 a22) (la30 : Lin30 a30) : Lin12 (g12_r a11 a29 a22 a30) := by
  constructor
  intro R S k t0_0 t0_1 t0_2 t0_3 t0_4 t0_5 t0_6 H f g h
  exact g12_p0_lin la11 la29 la22 la30 (fun t2 H =>
    h _ _)
theorem g12_fn (a11 : T11) (a29 : T29) (a22 : T22) (a30 : T30) (la11 : Lin11 a11) (la29 : Lin29 a29) (la22 : Lin22 a22) (la30 : Lin30 a30) {R : Type} (t0_0 : Int) (t0_1 : Bool) (t0_2 : Int) (t0_3 : Bool) (t0_4 : Int) (t0_5 : Int) (t0_6 : Sl) (H : Heap) (K : V → Heap → Option R) : evFn Tryd.prog (E12 a11 a29 a22 a30) loopLim Tryd.f12 kp12 [(V.agg [(V.i .u8 t0_0), (V.b t0_1), (V.i .u8 t0_2), (V.b t0_3), (V.i .u8 t0_4), (V.i .u8 t0_5), (V.sl t0_6)])] H K = g12_r a11 a29 a22 a30 R t0_0 t0_1 t0_2 t0_3 t0_4 t0_5 t0_6 H (fun r0 H => K (V.s r0) H) := by
  have h0 : ∀ (t2 : ByteArray) (H : Heap), kFn Tryd.prog Tryd.f12.results.toList K .ret [(2, (V.s t2))] H =
      K (V.s t2) H := by intros; kernel_rfl
  have e0 := evFn_code2 (P := Tryd.prog) (c := c12_0) (E := (E12 a11 a29 a22 a30)) (lr := loopLim) (kp := kp12) (fn := Tryd.f12) (args := [(V.agg [(V.i .u8 t0_0), (V.b t0_1), (V.i .u8 t0_2), (V.b t0_3), (V.i .u8 t0_4), (V.i .u8 t0_5), (V.sl t0_6)])]) H K (by kernel_rfl) (Nat.le_of_ble_eq_true (by kernel_rfl)) (by kernel_rfl)
  have e1 : ev Tryd.prog (E12 a11 a29 a22 a30) loopLim Tryd.f12.ntmps kp12 c12_0 (argFr 0 [(V.agg [(V.i .u8 t0_0), (V.b t0_1), (V.i .u8 t0_2), (V.b t0_3), (V.i .u8 t0_4), (V.i .u8 t0_5), (V.sl t0_6)])]) H (kFn Tryd.prog Tryd.f12.results.toList K) = ev Tryd.prog (E12 a11 a29 a22 a30) loopLim Tryd.f12.ntmps kp12 c12_0 [(0, (V.agg [(V.i .u8 t0_0), (V.b t0_1), (V.i .u8 t0_2), (V.b t0_3), (V.i .u8 t0_4), (V.i .u8 t0_5), (V.sl t0_6)]))] H (kFn Tryd.prog Tryd.f12.results.toList K) := by kernel_rfl
  refine (e0.trans e1).trans ?_
  delta g12_r
  exact (g12_p0_eq a11 a29 a22 a30 la11 la29 la22 la30 t0_0 t0_1 t0_2 t0_3 t0_4 t0_5 t0_6 H (kFn Tryd.prog Tryd.f12.results.toList K)).trans (congrArg (g12_p0 a11 a29 a22 a30 R t0_0 t0_1 t0_2 t0_3 t0_4 t0_5 t0_6 H) (funext fun t2 => funext fun H => h0 t2 H))
theorem g12_ok {a11 : T11} {a29 : T29} {a22 : T22} {a30 : T30} (oa11 : FunOK Tryd.prog 11 (w11 a11)) (oa29 : FunOK Tryd.prog 29 (w29 a29)) (oa22 : FunOK Tryd.prog 22 (w22 a22)) (oa30 : FunOK Tryd.prog 30 (w30 a30)) (la11 : Lin11 a11) (la29 : Lin29 a29) (la22 : Lin22 a22) (la30 : Lin30 a30) : FunOK Tryd.prog 12 (w12 (g12_r a11 a29 a22 a30)) := by
  refine (runF_ok (E12_good oa11 oa29 oa22 oa30 la11 la29 la22 la30) mixed lim_ok Tryd.func12 (by kernel_rfl) kp12).of_le fun R args H K r hk => ?_
  unfold w12 at hk
  split at hk
  · exact (g12_fn a11 a29 a22 a30 la11 la29 la22 la30 _ _ _ _ _ _ _ H K).trans hk
  · cases hk
def kp14 : Nat → Option (List Nat) := kpOf [(0, [1]), (1, [1, 3]), (2, [1, 3, 10]), (3, [1, 3]), (4, [1, 3, 18]), (5, [1, 3]), (6, [1, 3, 27]), (7, [1, 3]), (8, [3]), (9, [3]), (10, [2]), (300000, [2]), (400010, [1, 3]), (400018, [1, 3]), (400027, [1, 3])]
def E14 : FEnv := []
theorem E14_good : EnvGood Tryd.prog E14 := (EnvGood.nil _)
theorem E14_lin : EnvLin E14 := fun g F h => by cases h
noncomputable def b14 : Code := Tryd.f14.body.getD .skip
noncomputable def c14_0 : Code := (.seq (codeAt [1, 1, 1, 1, 0, 0] b14) (.seq (.cond (.tmp 27) (codeAt [1, 1, 1, 1, 0, 1, 0] b14) .skip) (.seq (codeAt [1, 1, 1, 1, 1, 0] b14) (.seq (codeAt [1, 1, 1, 1, 1, 1, 0] b14) (.seq (codeAt [1, 1, 1, 1, 1, 1, 1, 0] b14) .ret)))))
noncomputable def c14_1 : Code := (.seq (codeAt [0] b14) (.seq (codeAt [1, 0] b14) (.seq (codeAt [1, 1, 0, 0] b14) (.seq (.cond (.tmp 10) (codeAt [1, 1, 0, 1, 0] b14) .skip) (.seq (codeAt [1, 1, 1, 0, 0] b14) (.seq (.cond (.tmp 18) (codeAt [1, 1, 1, 0, 1, 0] b14) .skip) c14_0))))))
noncomputable def g14_p0 (R : Type) (t0_0 : Int) (t0_1 : Bool) (t0_2 : Int) (t0_3 : Bool) (t0_4 : Int) (t0_5 : Int) (t0_6 : Sl) (H : Heap) (kN : Nat → Nat → Sl → Heap → Option R) : Option R :=
  alo H (.cells [(V.i .u8 t0_0), (V.b t0_1), (V.i .u8 t0_2), (V.b t0_3), (V.i .u8 t0_4), (V.i .u8 t0_5), (V.sl t0_6)] 25 false) fun i150 h151 =>
  ((h151).ldI .u8 i150 (0 + 0)).bind fun x152 =>
  ((h151).ldI .u8 i150 (0 + 2)).bind fun x153 =>
  alo h151 (.cells [(V.i .u8 x152), (V.i .u8 x153), (V.i .u8 (0 : Int))] 5 false) fun i154 h155 =>
  ((h155).ldB i150 (0 + 1)).bind fun x156 =>
  sel x156 (
    if 0 ≤ (0 : Int) ∧ (0 : Int) < (((Sl.mk (some (i154, 0)) 3 (.ex 3)).len : Nat) : Int) then (
      ((Sl.mk (some (i154, 0)) 3 (.ex 3)).a).bind fun q157 =>
      ((h155).ldI .u8 q157.1 (q157.2 + Int.toNat (0 : Int) * 1)).bind fun x158 =>
      if 0 ≤ (0 : Int) ∧ (0 : Int) < (((Sl.mk (some (i154, 0)) 3 (.ex 3)).len : Nat) : Int) then (
        ((Sl.mk (some (i154, 0)) 3 (.ex 3)).a).bind fun q159 =>
        ((h155).st q159.1 (q159.2 + Int.toNat (0 : Int) * 1) (V.i .u8 (IntKind.wrap .u8 (x158 + (128 : Int))))).bind fun h161 =>
        ((h161).ldB i150 (0 + 3)).bind fun x162 =>
        sel x162 (
          if 0 ≤ (1 : Int) ∧ (1 : Int) < (((Sl.mk (some (i154, 0)) 3 (.ex 3)).len : Nat) : Int) then (
            ((Sl.mk (some (i154, 0)) 3 (.ex 3)).a).bind fun q163 =>
            ((h161).ldI .u8 q163.1 (q163.2 + Int.toNat (1 : Int) * 1)).bind fun x164 =>
            if 0 ≤ (1 : Int) ∧ (1 : Int) < (((Sl.mk (some (i154, 0)) 3 (.ex 3)).len : Nat) : Int) then (
              ((Sl.mk (some (i154, 0)) 3 (.ex 3)).a).bind fun q165 =>
              ((h161).st q165.1 (q165.2 + Int.toNat (1 : Int) * 1) (V.i .u8 (IntKind.wrap .u8 (x164 + (128 : Int))))).bind fun h167 =>
              kN i150 0 (Sl.mk (some (i154, 0)) 3 (.ex 3)) h167)
            else (
              none))
          else (
            none)) (
          kN i150 0 (Sl.mk (some (i154, 0)) 3 (.ex 3)) h161))
      else (
        none))
    else (
      none)) (
    ((h155).ldB i150 (0 + 3)).bind fun x168 =>
    sel x168 (
      if 0 ≤ (1 : Int) ∧ (1 : Int) < (((Sl.mk (some (i154, 0)) 3 (.ex 3)).len : Nat) : Int) then (
        ((Sl.mk (some (i154, 0)) 3 (.ex 3)).a).bind fun q169 =>
        ((h155).ldI .u8 q169.1 (q169.2 + Int.toNat (1 : Int) * 1)).bind fun x170 =>
        if 0 ≤ (1 : Int) ∧ (1 : Int) < (((Sl.mk (some (i154, 0)) 3 (.ex 3)).len : Nat) : Int) then (
          ((Sl.mk (some (i154, 0)) 3 (.ex 3)).a).bind fun q171 =>
          ((h155).st q171.1 (q171.2 + Int.toNat (1 : Int) * 1) (V.i .u8 (IntKind.wrap .u8 (x170 + (128 : Int))))).bind fun h173 =>
          kN i150 0 (Sl.mk (some (i154, 0)) 3 (.ex 3)) h173)
        else (
          none))
      else (
        none)) (
      kN i150 0 (Sl.mk (some (i154, 0)) 3 (.ex 3)) h155))
theorem g14_p0_eq {R : Type} (c2 : Code) (t0_0 : Int) (t0_1 : Bool) (t0_2 : Int) (t0_3 : Bool) (t0_4 : Int) (t0_5 : Int) (t0_6 : Sl) (H : Heap) (K : Ex → Fr → Heap → Option R) : ev Tryd.prog E14 loopLim Tryd.f14.ntmps kp14 (.seq (codeAt [0] b14) (.seq (codeAt [1, 0] b14) (.seq (codeAt [1, 1, 0, 0] b14) (.seq (.cond (.tmp 10) (codeAt [1, 1, 0, 1, 0] b14) .skip) (.seq (codeAt [1, 1, 1, 0, 0] b14) (.seq (.cond (.tmp 18) (codeAt [1, 1, 1, 0, 1, 0] b14) .skip) c2)))))) [(0, (V.agg [(V.i .u8 t0_0), (V.b t0_1), (V.i .u8 t0_2), (V.b t0_3), (V.i .u8 t0_4), (V.i .u8 t0_5), (V.sl t0_6)]))] H K = g14_p0 R t0_0 t0_1 t0_2 t0_3 t0_4 t0_5 t0_6 H (fun t1_0 t1_1 t3 H => ev Tryd.prog E14 loopLim Tryd.f14.ntmps kp14 c2 [(1, (V.p (some (t1_0, t1_1)))), (3, (V.sl t3))] H K) := by kernel_rfl
theorem g14_p0_lin {R S : Type} {k : S → Option R} {t0_0 : Int} {t0_1 : Bool} {t0_2 : Int} {t0_3 : Bool} {t0_4 : Int} {t0_5 : Int} {t0_6 : Sl} {H : Heap} {fkN : Nat → Nat → Sl → Heap → Option R} {gkN : Nat → Nat → Sl → Heap → Option S} (hkN : ∀ t1_0 t1_1 t3 H, fkN t1_0 t1_1 t3 H = (gkN t1_0 t1_1 t3 H).bind k) : g14_p0 R t0_0 t0_1 t0_2 t0_3 t0_4 t0_5 t0_6 H fkN = (g14_p0 S t0_0 t0_1 t0_2 t0_3 t0_4 t0_5 t0_6 H gkN).bind k := by
  delta g14_p0; exact (
    alo_lin fun i150 h151 =>
    bl fun x152 =>
    bl fun x153 =>
    alo_lin fun i154 h155 =>
    bl fun x156 =>
    sl_lin (
      il (
        bl fun q157 =>
        bl fun x158 =>
        il (
          bl fun q159 =>
          bl fun h161 =>
          bl fun x162 =>
          sl_lin (
            il (
              bl fun q163 =>
              bl fun x164 =>
              il (
                bl fun q165 =>
                bl fun h167 =>
                hkN _ _ _ _) (
                rfl)) (
              rfl)) (
            hkN _ _ _ _)) (
          rfl)) (
        rfl)) (
      bl fun x168 =>
      sl_lin (
        il (
          bl fun q169 =>
          bl fun x170 =>
          il (
            bl fun q171 =>
            bl fun h173 =>
            hkN _ _ _ _) (
            rfl)) (
          rfl)) (
        hkN _ _ _ _)))
noncomputable def g14_p1 (R : Type) (t1_0 : Nat) (t1_1 : Nat) (t3 : Sl) (H : Heap) (kR : Sl → Heap → Option R) : Option R :=
  ((H).ldI .u8 t1_0 (t1_1 + 4)).bind fun x174 =>
  sel (x174 == (1 : Int)) (
    ((H).ldI .u8 t1_0 (t1_1 + 5)).bind fun x175 =>
    alo H (.cells [(V.i .u8 x175)] 5 false) fun i176 h177 =>
    ((slCells h177 1 (Sl.mk (some (i176, 0)) 1 (.ex 1)))).bind fun vs180 =>
    appendV h177 5 1 1 t3 (Sl.mk (some (i176, 0)) 1 (.ex 1)).len vs180 fun s178 h179 =>
    ((h179).ldSl t1_0 (t1_1 + 6)).bind fun x181 =>
    ((slCells h179 1 x181)).bind fun vs184 =>
    appendV h179 5 1 1 s178 x181.len vs184 fun s182 h183 =>
    if 0 ≤ (2 : Int) ∧ (2 : Int) < ((s182.len : Nat) : Int) then (
      (s182.a).bind fun q185 =>
      ((h183).st q185.1 (q185.2 + Int.toNat (2 : Int) * 1) (V.i .u8 (IntKind.wrap .u8 (if (IntKind.wrap .i64 (((s182.len : Nat) : Int) - (3 : Int))) < (63 : Int) then (IntKind.wrap .i64 (((s182.len : Nat) : Int) - (3 : Int))) else (63 : Int))))).bind fun h187 =>
      kR s182 h187)
    else (
      none)) (
    ((H).ldSl t1_0 (t1_1 + 6)).bind fun x188 =>
    ((slCells H 1 x188)).bind fun vs191 =>
    appendV H 5 1 1 t3 x188.len vs191 fun s189 h190 =>
    if 0 ≤ (2 : Int) ∧ (2 : Int) < ((s189.len : Nat) : Int) then (
      (s189.a).bind fun q192 =>
      ((h190).st q192.1 (q192.2 + Int.toNat (2 : Int) * 1) (V.i .u8 (IntKind.wrap .u8 (if (IntKind.wrap .i64 (((s189.len : Nat) : Int) - (3 : Int))) < (63 : Int) then (IntKind.wrap .i64 (((s189.len : Nat) : Int) - (3 : Int))) else (63 : Int))))).bind fun h194 =>
      kR s189 h194)
    else (
      none))
theorem g14_p1_eq {R : Type} (t1_0 : Nat) (t1_1 : Nat) (t3 : Sl) (H : Heap) (K : Ex → Fr → Heap → Option R) : ev Tryd.prog E14 loopLim Tryd.f14.ntmps kp14 c14_0 [(1, (V.p (some (t1_0, t1_1)))), (3, (V.sl t3))] H K = g14_p1 R t1_0 t1_1 t3 H (fun t2 H => K .ret [(2, (V.sl t2))] H) := by kernel_rfl
theorem g14_p1_lin {R S : Type} {k : S → Option R} {t1_0 : Nat} {t1_1 : Nat} {t3 : Sl} {H : Heap} {fkR : Sl → Heap → Option R} {gkR : Sl → Heap → Option S} (hkR : ∀ t2 H, fkR t2 H = (gkR t2 H).bind k) : g14_p1 R t1_0 t1_1 t3 H fkR = (g14_p1 S t1_0 t1_1 t3 H gkR).bind k := by
  delta g14_p1; exact (
    bl fun x174 =>
    sl_lin (
      bl fun x175 =>
      alo_lin fun i176 h177 =>
      bl fun vs180 =>
      appendV_lin fun s178 h179 =>
      bl fun x181 =>
      bl fun vs184 =>
      appendV_lin fun s182 h183 =>
      il (
        bl fun q185 =>
        bl fun h187 =>
        hkR _ _) (
        rfl)) (
      bl fun x188 =>
      bl fun vs191 =>
      appendV_lin fun s189 h190 =>
      il (
        bl fun q192 =>
        bl fun h194 =>
        hkR _ _) (
        rfl)))
noncomputable def g14_p2 (R : Type) (t0_0 : Int) (t0_1 : Bool) (t0_2 : Int) (t0_3 : Bool) (t0_4 : Int) (t0_5 : Int) (t0_6 : Sl) (H : Heap) (kR : Sl → Heap → Option R) : Option R :=
  g14_p0 R t0_0 t0_1 t0_2 t0_3 t0_4 t0_5 t0_6 H (fun t1_0 t1_1 t3 H => g14_p1 R t1_0 t1_1 t3 H (fun t2 H => kR t2 H))
theorem g14_p2_lin {R S : Type} {k : S → Option R} {t0_0 : Int} {t0_1 : Bool} {t0_2 : Int} {t0_3 : Bool} {t0_4 : Int} {t0_5 : Int} {t0_6 : Sl} {H : Heap} {fkR : Sl → Heap → Option R} {gkR : Sl → Heap → Option S} (hkR : ∀ t2 H, fkR t2 H = (gkR t2 H).bind k) : g14_p2 R t0_0 t0_1 t0_2 t0_3 t0_4 t0_5 t0_6 H fkR = (g14_p2 S t0_0 t0_1 t0_2 t0_3 t0_4 t0_5 t0_6 H gkR).bind k := by
  exact g14_p0_lin (fun _ _ _ _ => g14_p1_lin (fun _ _ => hkR _ _))
theorem g14_p2_eq {R : Type} (t0_0 : Int) (t0_1 : Bool) (t0_2 : Int) (t0_3 : Bool) (t0_4 : Int) (t0_5 : Int) (t0_6 : Sl) (H : Heap) (K : Ex → Fr → Heap → Option R) : ev Tryd.prog E14 loopLim Tryd.f14.ntmps kp14 c14_1 [(0, (V.agg [(V.i .u8 t0_0), (V.b t0_1), (V.i .u8 t0_2), (V.b t0_3), (V.i .u8 t0_4), (V.i .u8 t0_5), (V.sl t0_6)]))] H K = g14_p2 R t0_0 t0_1 t0_2 t0_3 t0_4 t0_5 t0_6 H (fun t2 H => K .ret [(2, (V.sl t2))] H) := by
  show ev Tryd.prog E14 loopLim Tryd.f14.ntmps kp14 (.seq (codeAt [0] b14) (.seq (codeAt [1, 0] b14) (.seq (codeAt [1, 1, 0, 0] b14) (.seq (.cond (.tmp 10) (codeAt [1, 1, 0, 1, 0] b14) .skip) (.seq (codeAt [1, 1, 1, 0, 0] b14) (.seq (.cond (.tmp 18) (codeAt [1, 1, 1, 0, 1, 0] b14) .skip) c14_0)))))) [(0, (V.agg [(V.i .u8 t0_0), (V.b t0_1), (V.i .u8 t0_2), (V.b t0_3), (V.i .u8 t0_4), (V.i .u8 t0_5), (V.sl t0_6)]))] H K = _
  delta g14_p2
  exact (g14_p0_eq _ t0_0 t0_1 t0_2 t0_3 t0_4 t0_5 t0_6 H K).trans (congrArg (g14_p0 R t0_0 t0_1 t0_2 t0_3 t0_4 t0_5 t0_6 H) (funext fun t1_0 => funext fun t1_1 => funext fun t3 => funext fun H => g14_p1_eq t1_0 t1_1 t3 H K))
noncomputable def g14_r : T14 := fun R t0_0 t0_1 t0_2 t0_3 t0_4 t0_5 t0_6 H K =>
  g14_p2 R t0_0 t0_1 t0_2 t0_3 t0_4 t0_5 t0_6 H (fun t2 H =>
    K t2 H)
theorem g14_r_lin : Lin14 (g14_r) := by
  constructor
  intro R S k t0_0 t0_1 t0_2 t0_3 t0_4 t0_5 t0_6 H f g h
  exact g14_p2_lin (fun t2 H =>
    h _ _)
theorem g14_fn {R : Type} (t0_0 : Int) (t0_1 : Bool) (t0_2 : Int) (t0_3 : Bool) (t0_4 : Int) (t0_5 : Int) (t0_6 : Sl) (H : Heap) (K : V → Heap → Option R) : evFn Tryd.prog E14 loopLim Tryd.f14 kp14 [(V.agg [(V.i .u8 t0_0), (V.b t0_1), (V.i .u8 t0_2), (V.b t0_3), (V.i .u8 t0_4), (V.i .u8 t0_5), (V.sl t0_6)])] H K = g14_r R t0_0 t0_1 t0_2 t0_3 t0_4 t0_5 t0_6 H (fun r0 H => K (V.sl r0) H) := by
  have h0 : ∀ (t2 : Sl) (H : Heap), kFn Tryd.prog Tryd.f14.results.toList K .ret [(2, (V.sl t2))] H =
      K (V.sl t2) H := by intros; kernel_rfl
  have e0 := evFn_code2 (P := Tryd.prog) (c := c14_1) (E := E14) (lr := loopLim) (kp := kp14) (fn := Tryd.f14) (args := [(V.agg [(V.i .u8 t0_0), (V.b t0_1), (V.i .u8 t0_2), (V.b t0_3), (V.i .u8 t0_4), (V.i .u8 t0_5), (V.sl t0_6)])]) H K (by kernel_rfl) (Nat.le_of_ble_eq_true (by kernel_rfl)) (by kernel_rfl)
  have e1 : ev Tryd.prog E14 loopLim Tryd.f14.ntmps kp14 c14_1 (argFr 0 [(V.agg [(V.i .u8 t0_0), (V.b t0_1), (V.i .u8 t0_2), (V.b t0_3), (V.i .u8 t0_4), (V.i .u8 t0_5), (V.sl t0_6)])]) H (kFn Tryd.prog Tryd.f14.results.toList K) = ev Tryd.prog E14 loopLim Tryd.f14.ntmps kp14 c14_1 [(0, (V.agg [(V.i .u8 t0_0), (V.b t0_1), (V.i .u8 t0_2), (V.b t0_3), (V.i .u8 t0_4), (V.i .u8 t0_5), (V.sl t0_6)]))] H (kFn Tryd.prog Tryd.f14.results.toList K) := by kernel_rfl
  refine (e0.trans e1).trans ?_
  delta g14_r
  exact (g14_p2_eq t0_0 t0_1 t0_2 t0_3 t0_4 t0_5 t0_6 H (kFn Tryd.prog Tryd.f14.results.toList K)).trans (congrArg (g14_p2 R t0_0 t0_1 t0_2 t0_3 t0_4 t0_5 t0_6 H) (funext fun t2 => funext fun H => h0 t2 H))
theorem g14_ok : FunOK Tryd.prog 14 (w14 (g14_r)) := by
  refine (runF_ok (E14_good) mixed lim_ok Tryd.func14 (by kernel_rfl) kp14).of_le fun R args H K r hk => ?_
  unfold w14 at hk
  split at hk
  · exact (g14_fn _ _ _ _ _ _ _ H K).trans hk
  · cases hk
end Go.Proofs.YteipplgcdbaokaaDoor

