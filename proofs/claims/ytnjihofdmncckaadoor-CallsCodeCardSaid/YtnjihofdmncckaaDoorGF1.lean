/- Printed: functions as the machine runs them. -/
import Derived.Test.YtnjihofdmncckaaDoorGT
namespace Go.Proofs.YtnjihofdmncckaaDoor
open Go AM Go.RowKit
set_option linter.unusedVariables false
def kp69 : Nat → Option (List Nat) := kpOf [(0, [0, 1]), (1, [0, 1, 7]), (2, [0, 1, 12]), (3, [0, 1]), (4, [4]), (100000, [0]), (100001, [0, 1]), (200000, [0, 1]), (200001, [0, 1]), (300000, [4]), (400007, [0, 1]), (400012, [0, 1])]
def E69 (a87 : T87) : FEnv := [(87, w87 a87)]
theorem E69_good {a87 : T87} (oa87 : FunOK Tryd.prog 87 (w87 a87)) (la87 : Lin87 a87) : EnvGood Tryd.prog (E69 a87) := ((EnvGood.nil _).cons oa87 (w87_lin la87))
theorem E69_lin {a87 : T87} (la87 : Lin87 a87) : EnvLin (E69 a87) := by
  intro g F h
  simp only [E69, List.mem_cons, List.not_mem_nil, or_false] at h
  rcases h with h
  · cases h; exact w87_lin la87
noncomputable def b69 : Code := Tryd.f69.body.getD .skip
noncomputable def c69_0 : Code := (.seq (codeAt [1, 0, 0, 0, 0, 0] b69) (.seq (.cond (.tmp 7) .skip (.exit 0)) (.block 1 (.seq (codeAt [1, 0, 0, 0, 1, 0, 0, 0] b69) (.seq (.cond (.tmp 12) (.exit 0) .skip) (codeAt [1, 0, 0, 0, 1, 0, 1] b69))))))
noncomputable def c69_1 : Code := (.loop c69_0)
noncomputable def c69_2 : Code := (.block 0 c69_1)
noncomputable def c69_3 : Code := (.seq (codeAt [1, 1, 0] b69) .ret)
noncomputable def c69_4 : Code := (.seq c69_2 c69_3)
noncomputable def c69_5 : Code := (.seq (codeAt [0] b69) c69_4)
noncomputable def g69_p0 (a87 : T87) (R : Type) (t0 : ByteArray) (t1 : Option (Nat × Nat)) (H : Heap) (kN : ByteArray → Option (Nat × Nat) → Heap → Option R) : Option R :=
  kN t0 t1 H
theorem g69_p0_eq (a87 : T87) {R : Type} (c2 : Code) (t0 : ByteArray) (t1 : Option (Nat × Nat)) (H : Heap) (K : Ex → Fr → Heap → Option R) : ev Tryd.prog (E69 a87) loopLim Tryd.f69.ntmps kp69 (.seq (codeAt [0] b69) c2) [(0, (V.s t0)), (1, (V.p t1))] H K = g69_p0 a87 R t0 t1 H (fun t0 t1 H => ev Tryd.prog (E69 a87) loopLim Tryd.f69.ntmps kp69 c2 [(0, (V.s t0)), (1, (V.p t1))] H K) := by kernel_rfl
theorem g69_p0_lin {a87 : T87} (la87 : Lin87 a87) {R S : Type} {k : S → Option R} {t0 : ByteArray} {t1 : Option (Nat × Nat)} {H : Heap} {fkN : ByteArray → Option (Nat × Nat) → Heap → Option R} {gkN : ByteArray → Option (Nat × Nat) → Heap → Option S} (hkN : ∀ t0 t1 H, fkN t0 t1 H = (gkN t0 t1 H).bind k) : g69_p0 a87 R t0 t1 H fkN = (g69_p0 a87 S t0 t1 H gkN).bind k := by
  delta g69_p0; exact (
    hkN _ _ _)
noncomputable def g69_p1 (a87 : T87) (R : Type) (t0 : ByteArray) (t1 : Option (Nat × Nat)) (H : Heap) (kN : ByteArray → Option (Nat × Nat) → Heap → Option R) (kE0 : ByteArray → Heap → Option R) : Option R :=
  sel (decide (((t0.size : Nat) : Int) > (0 : Int))) (
    if 0 ≤ (0 : Int) ∧ (0 : Int) < ((t0.size : Nat) : Int) then (
      a87 R t1 (btAt t0 (0 : Int)) H fun x1 h2 =>
      sel (!x1) (
        kE0 t0 h2) (
        if 0 ≤ (1 : Int) ∧ (1 : Int) ≤ ((t0.size : Nat) : Int) ∧ ((t0.size : Nat) : Int) ≤ ((t0.size : Nat) : Int) then (
          kN (subS t0 (1 : Int) ((t0.size : Nat) : Int)) t1 h2)
        else (
          none)))
    else (
      none)) (
    kE0 t0 H)
theorem g69_p1_eq (a87 : T87) (la87 : Lin87 a87) {R : Type} (t0 : ByteArray) (t1 : Option (Nat × Nat)) (H : Heap) (K : Ex → Fr → Heap → Option R) : ev Tryd.prog (E69 a87) loopLim Tryd.f69.ntmps kp69 c69_0 [(0, (V.s t0)), (1, (V.p t1))] H K = g69_p1 a87 R t0 t1 H (fun t0 t1 H => K .normal [(0, (V.s t0)), (1, (V.p t1))] H) (fun t0 H => K (.exit 0) [(0, (V.s t0))] H) := by kernel_rfl
theorem g69_p1_lin {a87 : T87} (la87 : Lin87 a87) {R S : Type} {k : S → Option R} {t0 : ByteArray} {t1 : Option (Nat × Nat)} {H : Heap} {fkN : ByteArray → Option (Nat × Nat) → Heap → Option R} {gkN : ByteArray → Option (Nat × Nat) → Heap → Option S} {fkE0 : ByteArray → Heap → Option R} {gkE0 : ByteArray → Heap → Option S} (hkN : ∀ t0 t1 H, fkN t0 t1 H = (gkN t0 t1 H).bind k) (hkE0 : ∀ t0 H, fkE0 t0 H = (gkE0 t0 H).bind k) : g69_p1 a87 R t0 t1 H fkN fkE0 = (g69_p1 a87 S t0 t1 H gkN gkE0).bind k := by
  delta g69_p1; exact (
    sl_lin (
      il (
        la87.l fun x1 h2 =>
        sl_lin (
          hkE0 _ _) (
          il (
            hkN _ _ _) (
            rfl))) (
        rfl)) (
      hkE0 _ _))
abbrev g69_p2_S := ByteArray × (Option (Nat × Nat))
abbrev g69_p2_O := ByteArray
def g69_p2_es (s : g69_p2_S) : Fr := [(0, (V.s s.1)), (1, (V.p s.2))]
def g69_p2_er (r : g69_p2_O) : Ex × Fr := ((.exit 0), [(0, (V.s r))])
noncomputable def g69_p2_b (a87 : T87) (s : g69_p2_S) (H : Heap) : Option (Rd g69_p2_S g69_p2_O × Heap) :=
  g69_p1 a87 _ s.1 s.2 H (fun t0 t1 H => some (.go (t0, t1), H)) (fun t0 H => some (.up t0, H))
noncomputable def g69_p2 (a87 : T87) (R : Type) (t0 : ByteArray) (t1 : Option (Nat × Nat)) (H : Heap) (kE0 : ByteArray → Heap → Option R) : Option R :=
  (tlim (g69_p2_b a87) (t0, t1) H).bind fun p => kE0 p.1 p.2
theorem g69_p2_lin {a87 : T87} (la87 : Lin87 a87) {R S : Type} {k : S → Option R} {t0 : ByteArray} {t1 : Option (Nat × Nat)} {H : Heap} {fkE0 : ByteArray → Heap → Option R} {gkE0 : ByteArray → Heap → Option S} (hkE0 : ∀ t0 H, fkE0 t0 H = (gkE0 t0 H).bind k) : g69_p2 a87 R t0 t1 H fkE0 = (g69_p2 a87 S t0 t1 H gkE0).bind k := by
  exact bl fun p => hkE0 _ _
theorem g69_p2_eq (a87 : T87) (la87 : Lin87 a87) {R : Type} (t0 : ByteArray) (t1 : Option (Nat × Nat)) (H : Heap) (K : Ex → Fr → Heap → Option R) : ev Tryd.prog (E69 a87) loopLim Tryd.f69.ntmps kp69 c69_1 [(0, (V.s t0)), (1, (V.p t1))] H K = g69_p2 a87 R t0 t1 H (fun t0 H => K (.exit 0) [(0, (V.s t0))] H) := by
  show ev Tryd.prog (E69 a87) loopLim Tryd.f69.ntmps kp69 (.loop c69_0) [(0, (V.s t0)), (1, (V.p t1))] H K = _
  delta g69_p2
  refine (ev_tlim (b := g69_p2_b a87) (es := g69_p2_es) (er := g69_p2_er) (by intro r; exact nofun) (fun s H => ?_) (t0, t1) H K).trans (bc fun p => rfl)
  exact (g69_p1_eq a87 la87 s.1 s.2 H ret3).trans (g69_p1_lin la87 (fun _ _ _ => rfl) (fun _ _ => rfl))
noncomputable def g69_p3 (a87 : T87) (R : Type) (t0 : ByteArray) (t1 : Option (Nat × Nat)) (H : Heap) (kN : ByteArray → Heap → Option R) : Option R :=
  g69_p2 a87 R t0 t1 H (fun t0 H => kN t0 H)
theorem g69_p3_lin {a87 : T87} (la87 : Lin87 a87) {R S : Type} {k : S → Option R} {t0 : ByteArray} {t1 : Option (Nat × Nat)} {H : Heap} {fkN : ByteArray → Heap → Option R} {gkN : ByteArray → Heap → Option S} (hkN : ∀ t0 H, fkN t0 H = (gkN t0 H).bind k) : g69_p3 a87 R t0 t1 H fkN = (g69_p3 a87 S t0 t1 H gkN).bind k := by
  exact g69_p2_lin la87 (fun _ _ => hkN _ _)
theorem g69_p3_eq (a87 : T87) (la87 : Lin87 a87) {R : Type} (t0 : ByteArray) (t1 : Option (Nat × Nat)) (H : Heap) (K : Ex → Fr → Heap → Option R) : ev Tryd.prog (E69 a87) loopLim Tryd.f69.ntmps kp69 c69_2 [(0, (V.s t0)), (1, (V.p t1))] H K = g69_p3 a87 R t0 t1 H (fun t0 H => K .normal [(0, (V.s t0))] H) := by
  show ev Tryd.prog (E69 a87) loopLim Tryd.f69.ntmps kp69 (.block 0 c69_1) [(0, (V.s t0)), (1, (V.p t1))] H K = _
  rw [ev_block]
  delta g69_p3
  exact (g69_p2_eq a87 la87 t0 t1 H (kBlock kp69 0 K))
noncomputable def g69_p4 (a87 : T87) (R : Type) (t0 : ByteArray) (H : Heap) (kR : ByteArray → Heap → Option R) : Option R :=
  kR t0 H
theorem g69_p4_eq (a87 : T87) (la87 : Lin87 a87) {R : Type} (t0 : ByteArray) (H : Heap) (K : Ex → Fr → Heap → Option R) : ev Tryd.prog (E69 a87) loopLim Tryd.f69.ntmps kp69 c69_3 [(0, (V.s t0))] H K = g69_p4 a87 R t0 H (fun t4 H => K .ret [(4, (V.s t4))] H) := by kernel_rfl
theorem g69_p4_lin {a87 : T87} (la87 : Lin87 a87) {R S : Type} {k : S → Option R} {t0 : ByteArray} {H : Heap} {fkR : ByteArray → Heap → Option R} {gkR : ByteArray → Heap → Option S} (hkR : ∀ t4 H, fkR t4 H = (gkR t4 H).bind k) : g69_p4 a87 R t0 H fkR = (g69_p4 a87 S t0 H gkR).bind k := by
  delta g69_p4; exact (
    hkR _ _)
noncomputable def g69_p5 (a87 : T87) (R : Type) (t0 : ByteArray) (t1 : Option (Nat × Nat)) (H : Heap) (kR : ByteArray → Heap → Option R) : Option R :=
  g69_p3 a87 R t0 t1 H (fun t0 H => g69_p4 a87 R t0 H (fun t4 H => kR t4 H))
theorem g69_p5_lin {a87 : T87} (la87 : Lin87 a87) {R S : Type} {k : S → Option R} {t0 : ByteArray} {t1 : Option (Nat × Nat)} {H : Heap} {fkR : ByteArray → Heap → Option R} {gkR : ByteArray → Heap → Option S} (hkR : ∀ t4 H, fkR t4 H = (gkR t4 H).bind k) : g69_p5 a87 R t0 t1 H fkR = (g69_p5 a87 S t0 t1 H gkR).bind k := by
  exact g69_p3_lin la87 (fun _ _ => g69_p4_lin la87 (fun _ _ => hkR _ _))
theorem g69_p5_eq (a87 : T87) (la87 : Lin87 a87) {R : Type} (t0 : ByteArray) (t1 : Option (Nat × Nat)) (H : Heap) (K : Ex → Fr → Heap → Option R) : ev Tryd.prog (E69 a87) loopLim Tryd.f69.ntmps kp69 c69_4 [(0, (V.s t0)), (1, (V.p t1))] H K = g69_p5 a87 R t0 t1 H (fun t4 H => K .ret [(4, (V.s t4))] H) := by
  show ev Tryd.prog (E69 a87) loopLim Tryd.f69.ntmps kp69 (.seq c69_2 c69_3) [(0, (V.s t0)), (1, (V.p t1))] H K = _
  rw [ev_seq]
  delta g69_p5
  exact (g69_p3_eq a87 la87 t0 t1 H (kSeq (fun fr H => ev Tryd.prog (E69 a87) loopLim Tryd.f69.ntmps kp69 c69_3 fr H K) K)).trans (congrArg (g69_p3 a87 R t0 t1 H) (funext fun t0 => funext fun H => (kSeq_n _ _ _ _).trans (g69_p4_eq a87 la87 t0 H K)))
noncomputable def g69_p6 (a87 : T87) (R : Type) (t0 : ByteArray) (t1 : Option (Nat × Nat)) (H : Heap) (kR : ByteArray → Heap → Option R) : Option R :=
  g69_p0 a87 R t0 t1 H (fun t0 t1 H => g69_p5 a87 R t0 t1 H (fun t4 H => kR t4 H))
theorem g69_p6_lin {a87 : T87} (la87 : Lin87 a87) {R S : Type} {k : S → Option R} {t0 : ByteArray} {t1 : Option (Nat × Nat)} {H : Heap} {fkR : ByteArray → Heap → Option R} {gkR : ByteArray → Heap → Option S} (hkR : ∀ t4 H, fkR t4 H = (gkR t4 H).bind k) : g69_p6 a87 R t0 t1 H fkR = (g69_p6 a87 S t0 t1 H gkR).bind k := by
  exact g69_p0_lin la87 (fun _ _ _ => g69_p5_lin la87 (fun _ _ => hkR _ _))
theorem g69_p6_eq (a87 : T87) (la87 : Lin87 a87) {R : Type} (t0 : ByteArray) (t1 : Option (Nat × Nat)) (H : Heap) (K : Ex → Fr → Heap → Option R) : ev Tryd.prog (E69 a87) loopLim Tryd.f69.ntmps kp69 c69_5 [(0, (V.s t0)), (1, (V.p t1))] H K = g69_p6 a87 R t0 t1 H (fun t4 H => K .ret [(4, (V.s t4))] H) := by
  show ev Tryd.prog (E69 a87) loopLim Tryd.f69.ntmps kp69 (.seq (codeAt [0] b69) c69_4) [(0, (V.s t0)), (1, (V.p t1))] H K = _
  delta g69_p6
  exact (g69_p0_eq a87 _ t0 t1 H K).trans (congrArg (g69_p0 a87 R t0 t1 H) (funext fun t0 => funext fun t1 => funext fun H => g69_p5_eq a87 la87 t0 t1 H K))
noncomputable def g69_r (a87 : T87) : T69 := fun R t0 t1 H K =>
  g69_p6 a87 R t0 t1 H (fun t4 H =>
    K t4 H)
theorem g69_r_lin {a87 : T87} (la87 : Lin87 a87) : Lin69 (g69_r a87) := by
  constructor
  intro R S k t0 t1 H f g h
  exact g69_p6_lin la87 (fun t4 H =>
    h _ _)
theorem g69_fn (a87 : T87) (la87 : Lin87 a87) {R : Type} (t0 : ByteArray) (t1 : Option (Nat × Nat)) (H : Heap) (K : V → Heap → Option R) : evFn Tryd.prog (E69 a87) loopLim Tryd.f69 kp69 [(V.s t0), (V.p t1)] H K = g69_r a87 R t0 t1 H (fun r0 H => K (V.s r0) H) := by
  have h0 : ∀ (t4 : ByteArray) (H : Heap), kFn Tryd.prog Tryd.f69.results.toList K .ret [(4, (V.s t4))] H =
      K (V.s t4) H := by intros; kernel_rfl
  have e0 := evFn_code2 (P := Tryd.prog) (c := c69_5) (E := (E69 a87)) (lr := loopLim) (kp := kp69) (fn := Tryd.f69) (args := [(V.s t0), (V.p t1)]) H K (by kernel_rfl) (Nat.le_of_ble_eq_true (by kernel_rfl)) (by kernel_rfl)
  have e1 : ev Tryd.prog (E69 a87) loopLim Tryd.f69.ntmps kp69 c69_5 (argFr 0 [(V.s t0), (V.p t1)]) H (kFn Tryd.prog Tryd.f69.results.toList K) = ev Tryd.prog (E69 a87) loopLim Tryd.f69.ntmps kp69 c69_5 [(0, (V.s t0)), (1, (V.p t1))] H (kFn Tryd.prog Tryd.f69.results.toList K) := by kernel_rfl
  refine (e0.trans e1).trans ?_
  delta g69_r
  exact (g69_p6_eq a87 la87 t0 t1 H (kFn Tryd.prog Tryd.f69.results.toList K)).trans (congrArg (g69_p6 a87 R t0 t1 H) (funext fun t4 => funext fun H => h0 t4 H))
theorem g69_ok {a87 : T87} (oa87 : FunOK Tryd.prog 87 (w87 a87)) (la87 : Lin87 a87) : FunOK Tryd.prog 69 (w69 (g69_r a87)) := by
  refine (runF_ok (E69_good oa87 la87) mixed lim_ok Tryd.func69 (by kernel_rfl) kp69).of_le fun R args H K r hk => ?_
  unfold w69 at hk
  split at hk
  · exact (g69_fn a87 la87 _ _ H K).trans hk
  · cases hk
def kp56 : Nat → Option (List Nat) := kpOf [(0, [0, 1]), (1, [0, 1, 12]), (2, [4]), (3, [0, 1, 21]), (4, [4]), (5, [0, 1, 5, 6]), (6, [0, 1, 5, 34]), (7, [4]), (8, [4]), (300000, [4]), (400012, [0, 1]), (400021, [0, 1]), (400034, [0, 1])]
def E56 (a67 : T67) (a66 : T66) (a68 : T68) (a70 : T70) (a69 : T69) : FEnv := [(67, w67 a67), (66, w66 a66), (68, w68 a68), (70, w70 a70), (69, w69 a69)]
theorem E56_good {a67 : T67} {a66 : T66} {a68 : T68} {a70 : T70} {a69 : T69} (oa67 : FunOK Tryd.prog 67 (w67 a67)) (oa66 : FunOK Tryd.prog 66 (w66 a66)) (oa68 : FunOK Tryd.prog 68 (w68 a68)) (oa70 : FunOK Tryd.prog 70 (w70 a70)) (oa69 : FunOK Tryd.prog 69 (w69 a69)) (la67 : Lin67 a67) (la66 : Lin66 a66) (la68 : Lin68 a68) (la70 : Lin70 a70) (la69 : Lin69 a69) : EnvGood Tryd.prog (E56 a67 a66 a68 a70 a69) := ((((((EnvGood.nil _).cons oa69 (w69_lin la69)).cons oa70 (w70_lin la70)).cons oa68 (w68_lin la68)).cons oa66 (w66_lin la66)).cons oa67 (w67_lin la67))
theorem E56_lin {a67 : T67} {a66 : T66} {a68 : T68} {a70 : T70} {a69 : T69} (la67 : Lin67 a67) (la66 : Lin66 a66) (la68 : Lin68 a68) (la70 : Lin70 a70) (la69 : Lin69 a69) : EnvLin (E56 a67 a66 a68 a70 a69) := by
  intro g F h
  simp only [E56, List.mem_cons, List.not_mem_nil, or_false] at h
  rcases h with h | h | h | h | h
  · cases h; exact w67_lin la67
  · cases h; exact w66_lin la66
  · cases h; exact w68_lin la68
  · cases h; exact w70_lin la70
  · cases h; exact w69_lin la69
noncomputable def b56 : Code := Tryd.f56.body.getD .skip
noncomputable def c56_0 : Code := (.seq (codeAt [0] b56) (.seq (codeAt [1, 0, 0] b56) (.seq (.cond (.tmp 12) (.seq (codeAt [1, 0, 1, 0, 0] b56) .ret) .skip) (.seq (codeAt [1, 1, 0, 0] b56) (.seq (.cond (.tmp 21) (.seq (codeAt [1, 1, 0, 1, 0, 0] b56) .ret) .skip) (.seq (codeAt [1, 1, 1, 0, 0] b56) (.seq (codeAt [1, 1, 1, 0, 1, 0] b56) (.seq (.cond (.tmp 34) (.seq (codeAt [1, 1, 1, 0, 1, 1, 0, 0] b56) .ret) .skip) (.seq (codeAt [1, 1, 1, 1, 0] b56) .ret)))))))))
noncomputable def g56_p0 (a67 : T67) (a66 : T66) (a68 : T68) (a70 : T70) (a69 : T69) (R : Type) (t0 : ByteArray) (t1 : ByteArray) (H : Heap) (kR : ByteArray → Heap → Option R) : Option R :=
  sel (strEq t0 str0) (
    kR t0 H) (
    sel (strEq t1 str0) (
      kR t0 H) (
      sel (((t1.size : Nat) : Int) == (1 : Int)) (
        if 0 ≤ (0 : Int) ∧ (0 : Int) < ((t1.size : Nat) : Int) then (
          sel (decide ((btAt t1 (0 : Int)) < (128 : Int))) (
            if 0 ≤ (0 : Int) ∧ (0 : Int) < ((t1.size : Nat) : Int) then (
              a67 R t0 (btAt t1 (0 : Int)) H fun x1 h2 =>
              if 0 ≤ (0 : Int) ∧ (0 : Int) < ((t1.size : Nat) : Int) then (
                a66 R x1 (btAt t1 (0 : Int)) h2 fun x3 h4 =>
                kR x3 h4)
              else (
                none))
            else (
              none)) (
            a68 R t1 H fun x5 x6 h7 =>
            alo h7 (.cells [(V.b false), (V.b false), (V.b false), (V.b false), (V.b false), (V.b false), (V.b false), (V.b false), (V.b false), (V.b false), (V.b false), (V.b false), (V.b false), (V.b false), (V.b false), (V.b false), (V.b false), (V.b false), (V.b false), (V.b false), (V.b false), (V.b false), (V.b false), (V.b false), (V.b false), (V.b false), (V.b false), (V.b false), (V.b false), (V.b false), (V.b false), (V.b false), (V.b false), (V.b false), (V.b false), (V.b false), (V.b false), (V.b false), (V.b false), (V.b false), (V.b false), (V.b false), (V.b false), (V.b false), (V.b false), (V.b false), (V.b false), (V.b false), (V.b false), (V.b false), (V.b false), (V.b false), (V.b false), (V.b false), (V.b false), (V.b false), (V.b false), (V.b false), (V.b false), (V.b false), (V.b false), (V.b false), (V.b false), (V.b false), (V.b false), (V.b false), (V.b false), (V.b false), (V.b false), (V.b false), (V.b false), (V.b false), (V.b false), (V.b false), (V.b false), (V.b false), (V.b false), (V.b false), (V.b false), (V.b false), (V.b false), (V.b false), (V.b false), (V.b false), (V.b false), (V.b false), (V.b false), (V.b false), (V.b false), (V.b false), (V.b false), (V.b false), (V.b false), (V.b false), (V.b false), (V.b false), (V.b false), (V.b false), (V.b false), (V.b false), (V.b false), (V.b false), (V.b false), (V.b false), (V.b false), (V.b false), (V.b false), (V.b false), (V.b false), (V.b false), (V.b false), (V.b false), (V.b false), (V.b false), (V.b false), (V.b false), (V.b false), (V.b false), (V.b false), (V.b false), (V.b false), (V.b false), (V.b false), (V.b false), (V.b false), (V.b false), (V.b false), (V.b false), (V.b false), (V.b false), (V.b false), (V.b false), (V.b false), (V.b false), (V.b false), (V.b false), (V.b false), (V.b false), (V.b false), (V.b false), (V.b false), (V.b false), (V.b false), (V.b false), (V.b false), (V.b false), (V.b false), (V.b false), (V.b false), (V.b false), (V.b false), (V.b false), (V.b false), (V.b false), (V.b false), (V.b false), (V.b false), (V.b false), (V.b false), (V.b false), (V.b false), (V.b false), (V.b false), (V.b false), (V.b false), (V.b false), (V.b false), (V.b false), (V.b false), (V.b false), (V.b false), (V.b false), (V.b false), (V.b false), (V.b false), (V.b false), (V.b false), (V.b false), (V.b false), (V.b false), (V.b false), (V.b false), (V.b false), (V.b false), (V.b false), (V.b false), (V.b false), (V.b false), (V.b false), (V.b false), (V.b false), (V.b false), (V.b false), (V.b false), (V.b false), (V.b false), (V.b false), (V.b false), (V.b false), (V.b false), (V.b false), (V.b false), (V.b false), (V.b false), (V.b false), (V.b false), (V.b false), (V.b false), (V.b false), (V.b false), (V.b false), (V.b false), (V.b false), (V.b false), (V.b false), (V.b false), (V.b false), (V.b false), (V.b false), (V.b false), (V.b false), (V.b false), (V.b false), (V.b false), (V.b false), (V.b false), (V.b false), (V.b false), (V.b false), (V.b false), (V.b false), (V.b false), (V.b false), (V.b false), (V.b false), (V.b false), (V.b false), (V.b false), (V.b false), (V.b false), (V.b false), (V.b false), (V.b false), (V.b false), (V.b false), (V.b false), (V.b false), (V.b false), (V.b false), (V.b false), (V.b false), (V.b false), (V.b false), (V.b false), (V.b false), (V.b false)] 114 false) fun i8 h9 =>
            if (x5).length = 256 then (
              ((h9).sts i8 0 x5).bind fun h10 =>
              sel x6 (
                a70 R t0 (some (i8, 0)) h10 fun x11 h12 =>
                a69 R x11 (some (i8, 0)) h12 fun x13 h14 =>
                kR x13 h14) (
                none))
            else (
              none)))
        else (
          none)) (
        a68 R t1 H fun x15 x16 h17 =>
        alo h17 (.cells [(V.b false), (V.b false), (V.b false), (V.b false), (V.b false), (V.b false), (V.b false), (V.b false), (V.b false), (V.b false), (V.b false), (V.b false), (V.b false), (V.b false), (V.b false), (V.b false), (V.b false), (V.b false), (V.b false), (V.b false), (V.b false), (V.b false), (V.b false), (V.b false), (V.b false), (V.b false), (V.b false), (V.b false), (V.b false), (V.b false), (V.b false), (V.b false), (V.b false), (V.b false), (V.b false), (V.b false), (V.b false), (V.b false), (V.b false), (V.b false), (V.b false), (V.b false), (V.b false), (V.b false), (V.b false), (V.b false), (V.b false), (V.b false), (V.b false), (V.b false), (V.b false), (V.b false), (V.b false), (V.b false), (V.b false), (V.b false), (V.b false), (V.b false), (V.b false), (V.b false), (V.b false), (V.b false), (V.b false), (V.b false), (V.b false), (V.b false), (V.b false), (V.b false), (V.b false), (V.b false), (V.b false), (V.b false), (V.b false), (V.b false), (V.b false), (V.b false), (V.b false), (V.b false), (V.b false), (V.b false), (V.b false), (V.b false), (V.b false), (V.b false), (V.b false), (V.b false), (V.b false), (V.b false), (V.b false), (V.b false), (V.b false), (V.b false), (V.b false), (V.b false), (V.b false), (V.b false), (V.b false), (V.b false), (V.b false), (V.b false), (V.b false), (V.b false), (V.b false), (V.b false), (V.b false), (V.b false), (V.b false), (V.b false), (V.b false), (V.b false), (V.b false), (V.b false), (V.b false), (V.b false), (V.b false), (V.b false), (V.b false), (V.b false), (V.b false), (V.b false), (V.b false), (V.b false), (V.b false), (V.b false), (V.b false), (V.b false), (V.b false), (V.b false), (V.b false), (V.b false), (V.b false), (V.b false), (V.b false), (V.b false), (V.b false), (V.b false), (V.b false), (V.b false), (V.b false), (V.b false), (V.b false), (V.b false), (V.b false), (V.b false), (V.b false), (V.b false), (V.b false), (V.b false), (V.b false), (V.b false), (V.b false), (V.b false), (V.b false), (V.b false), (V.b false), (V.b false), (V.b false), (V.b false), (V.b false), (V.b false), (V.b false), (V.b false), (V.b false), (V.b false), (V.b false), (V.b false), (V.b false), (V.b false), (V.b false), (V.b false), (V.b false), (V.b false), (V.b false), (V.b false), (V.b false), (V.b false), (V.b false), (V.b false), (V.b false), (V.b false), (V.b false), (V.b false), (V.b false), (V.b false), (V.b false), (V.b false), (V.b false), (V.b false), (V.b false), (V.b false), (V.b false), (V.b false), (V.b false), (V.b false), (V.b false), (V.b false), (V.b false), (V.b false), (V.b false), (V.b false), (V.b false), (V.b false), (V.b false), (V.b false), (V.b false), (V.b false), (V.b false), (V.b false), (V.b false), (V.b false), (V.b false), (V.b false), (V.b false), (V.b false), (V.b false), (V.b false), (V.b false), (V.b false), (V.b false), (V.b false), (V.b false), (V.b false), (V.b false), (V.b false), (V.b false), (V.b false), (V.b false), (V.b false), (V.b false), (V.b false), (V.b false), (V.b false), (V.b false), (V.b false), (V.b false), (V.b false), (V.b false), (V.b false), (V.b false), (V.b false), (V.b false), (V.b false), (V.b false), (V.b false), (V.b false), (V.b false), (V.b false), (V.b false), (V.b false), (V.b false), (V.b false), (V.b false), (V.b false), (V.b false), (V.b false), (V.b false)] 114 false) fun i18 h19 =>
        if (x15).length = 256 then (
          ((h19).sts i18 0 x15).bind fun h20 =>
          sel x16 (
            a70 R t0 (some (i18, 0)) h20 fun x21 h22 =>
            a69 R x21 (some (i18, 0)) h22 fun x23 h24 =>
            kR x23 h24) (
            none))
        else (
          none))))
theorem g56_p0_eq (a67 : T67) (a66 : T66) (a68 : T68) (a70 : T70) (a69 : T69) (la67 : Lin67 a67) (la66 : Lin66 a66) (la68 : Lin68 a68) (la70 : Lin70 a70) (la69 : Lin69 a69) {R : Type} (t0 : ByteArray) (t1 : ByteArray) (H : Heap) (K : Ex → Fr → Heap → Option R) : ev Tryd.prog (E56 a67 a66 a68 a70 a69) loopLim Tryd.f56.ntmps kp56 c56_0 [(0, (V.s t0)), (1, (V.s t1))] H K = g56_p0 a67 a66 a68 a70 a69 R t0 t1 H (fun t4 H => K .ret [(4, (V.s t4))] H) := by kernel_rfl
theorem g56_p0_lin {a67 : T67} {a66 : T66} {a68 : T68} {a70 : T70} {a69 : T69} (la67 : Lin67 a67) (la66 : Lin66 a66) (la68 : Lin68 a68) (la70 : Lin70 a70) (la69 : Lin69 a69) {R S : Type} {k : S → Option R} {t0 : ByteArray} {t1 : ByteArray} {H : Heap} {fkR : ByteArray → Heap → Option R} {gkR : ByteArray → Heap → Option S} (hkR : ∀ t4 H, fkR t4 H = (gkR t4 H).bind k) : g56_p0 a67 a66 a68 a70 a69 R t0 t1 H fkR = (g56_p0 a67 a66 a68 a70 a69 S t0 t1 H gkR).bind k := by
  delta g56_p0; exact (
    sl_lin (
      hkR _ _) (
      sl_lin (
        hkR _ _) (
        sl_lin (
          il (
            sl_lin (
              il (
                la67.l fun x1 h2 =>
                il (
                  la66.l fun x3 h4 =>
                  hkR _ _) (
                  rfl)) (
                rfl)) (
              la68.l fun x5 x6 h7 =>
              alo_lin fun i8 h9 =>
              il (
                bl fun h10 =>
                sl_lin (
                  la70.l fun x11 h12 =>
                  la69.l fun x13 h14 =>
                  hkR _ _) (
                  rfl)) (
                rfl))) (
            rfl)) (
          la68.l fun x15 x16 h17 =>
          alo_lin fun i18 h19 =>
          il (
            bl fun h20 =>
            sl_lin (
              la70.l fun x21 h22 =>
              la69.l fun x23 h24 =>
              hkR _ _) (
              rfl)) (
            rfl)))))
noncomputable def g56_r (a67 : T67) (a66 : T66) (a68 : T68) (a70 : T70) (a69 : T69) : T56 := fun R t0 t1 H K =>
  g56_p0 a67 a66 a68 a70 a69 R t0 t1 H (fun t4 H =>
    K t4 H)
theorem g56_r_lin {a67 : T67} {a66 : T66} {a68 : T68} {a70 : T70} {a69 : T69} (la67 : Lin67 a67) (la66 : Lin66 a66) (la68 : Lin68 a68) (la70 : Lin70 a70) (la69 : Lin69 a69) : Lin56 (g56_r a67 a66 a68 a70 a69) := by
  constructor
  intro R S k t0 t1 H f g h
  exact g56_p0_lin la67 la66 la68 la70 la69 (fun t4 H =>
    h _ _)
theorem g56_fn (a67 : T67) (a66 : T66) (a68 : T68) (a70 : T70) (a69 : T69) (la67 : Lin67 a67) (la66 : Lin66 a66) (la68 : Lin68 a68) (la70 : Lin70 a70) (la69 : Lin69 a69) {R : Type} (t0 : ByteArray) (t1 : ByteArray) (H : Heap) (K : V → Heap → Option R) : evFn Tryd.prog (E56 a67 a66 a68 a70 a69) loopLim Tryd.f56 kp56 [(V.s t0), (V.s t1)] H K = g56_r a67 a66 a68 a70 a69 R t0 t1 H (fun r0 H => K (V.s r0) H) := by
  have h0 : ∀ (t4 : ByteArray) (H : Heap), kFn Tryd.prog Tryd.f56.results.toList K .ret [(4, (V.s t4))] H =
      K (V.s t4) H := by intros; kernel_rfl
  have e0 := evFn_code2 (P := Tryd.prog) (c := c56_0) (E := (E56 a67 a66 a68 a70 a69)) (lr := loopLim) (kp := kp56) (fn := Tryd.f56) (args := [(V.s t0), (V.s t1)]) H K (by kernel_rfl) (Nat.le_of_ble_eq_true (by kernel_rfl)) (by kernel_rfl)
  have e1 : ev Tryd.prog (E56 a67 a66 a68 a70 a69) loopLim Tryd.f56.ntmps kp56 c56_0 (argFr 0 [(V.s t0), (V.s t1)]) H (kFn Tryd.prog Tryd.f56.results.toList K) = ev Tryd.prog (E56 a67 a66 a68 a70 a69) loopLim Tryd.f56.ntmps kp56 c56_0 [(0, (V.s t0)), (1, (V.s t1))] H (kFn Tryd.prog Tryd.f56.results.toList K) := by kernel_rfl
  refine (e0.trans e1).trans ?_
  delta g56_r
  exact (g56_p0_eq a67 a66 a68 a70 a69 la67 la66 la68 la70 la69 t0 t1 H (kFn Tryd.prog Tryd.f56.results.toList K)).trans (congrArg (g56_p0 a67 a66 a68 a70 a69 R t0 t1 H) (funext fun t4 => funext fun H => h0 t4 H))
theorem g56_ok {a67 : T67} {a66 : T66} {a68 : T68} {a70 : T70} {a69 : T69} (oa67 : FunOK Tryd.prog 67 (w67 a67)) (oa66 : FunOK Tryd.prog 66 (w66 a66)) (oa68 : FunOK Tryd.prog 68 (w68 a68)) (oa70 : FunOK Tryd.prog 70 (w70 a70)) (oa69 : FunOK Tryd.prog 69 (w69 a69)) (la67 : Lin67 a67) (la66 : Lin66 a66) (la68 : Lin68 a68) (la70 : Lin70 a70) (la69 : Lin69 a69) : FunOK Tryd.prog 56 (w56 (g56_r a67 a66 a68 a70 a69)) := by
  refine (runF_ok (E56_good oa67 oa66 oa68 oa70 oa69 la67 la66 la68 la70 la69) mixed lim_ok Tryd.func56 (by kernel_rfl) kp56).of_le fun R args H K r hk => ?_
  unfold w56 at hk
  split at hk
  · exact (g56_fn a67 a66 a68 a70 a69 la67 la66 la68 la70 la69 _ _ H K).trans hk
  · cases hk
def kp42 : Nat → Option (List Nat) := kpOf [(0, [0]), (1, [2]), (300000, [2])]
def E42 (a56 : T56) : FEnv := [(56, w56 a56)]
theorem E42_good {a56 : T56} (oa56 : FunOK Tryd.prog 56 (w56 a56)) (la56 : Lin56 a56) : EnvGood Tryd.prog (E42 a56) := ((EnvGood.nil _).cons oa56 (w56_lin la56))
theorem E42_lin {a56 : T56} (la56 : Lin56 a56) : EnvLin (E42 a56) := by
  intro g F h
  simp only [E42, List.mem_cons, List.not_mem_nil, or_false] at h
  rcases h with h
  · cases h; exact w56_lin la56
noncomputable def b42 : Code := Tryd.f42.body.getD .skip
noncomputable def c42_0 : Code := (.seq (codeAt [0] b42) (.seq (codeAt [1, 0] b42) .ret))
noncomputable def g42_p0 (a56 : T56) (R : Type) (t0 : ByteArray) (H : Heap) (kR : Bool → Heap → Option R) : Option R :=
  sel (decide (((t0.size : Nat) : Int) ≤ (15 : Int))) (
    a56 R t0 str1 H fun x1 h2 =>
    kR (strEq x1 str0) h2) (
    kR false H)
theorem g42_p0_eq (a56 : T56) (la56 : Lin56 a56) {R : Type} (t0 : ByteArray) (H : Heap) (K : Ex → Fr → Heap → Option R) : ev Tryd.prog (E42 a56) loopLim Tryd.f42.ntmps kp42 c42_0 [(0, (V.s t0))] H K = g42_p0 a56 R t0 H (fun t2 H => K .ret [(2, (V.b t2))] H) := by kernel_rfl
theorem g42_p0_lin {a56 : T56} (la56 : Lin56 a56) {R S : Type} {k : S → Option R} {t0 : ByteArray} {H : Heap} {fkR : Bool → Heap → Option R} {gkR : Bool → Heap → Option S} (hkR : ∀ t2 H, fkR t2 H = (gkR t2 H).bind k) : g42_p0 a56 R t0 H fkR = (g42_p0 a56 S t0 H gkR).bind k := by
  delta g42_p0; exact (
    sl_lin (
      la56.l fun x1 h2 =>
      hkR _ _) (
      hkR _ _))
noncomputable def g42_r (a56 : T56) : T42 := fun R t0 H K =>
  g42_p0 a56 R t0 H (fun t2 H =>
    K t2 H)
theorem g42_r_lin {a56 : T56} (la56 : Lin56 a56) : Lin42 (g42_r a56) := by
  constructor
  intro R S k t0 H f g h
  exact g42_p0_lin la56 (fun t2 H =>
    h _ _)
theorem g42_fn (a56 : T56) (la56 : Lin56 a56) {R : Type} (t0 : ByteArray) (H : Heap) (K : V → Heap → Option R) : evFn Tryd.prog (E42 a56) loopLim Tryd.f42 kp42 [(V.s t0)] H K = g42_r a56 R t0 H (fun r0 H => K (V.b r0) H) := by
  have h0 : ∀ (t2 : Bool) (H : Heap), kFn Tryd.prog Tryd.f42.results.toList K .ret [(2, (V.b t2))] H =
      K (V.b t2) H := by intros; kernel_rfl
  have e0 := evFn_code2 (P := Tryd.prog) (c := c42_0) (E := (E42 a56)) (lr := loopLim) (kp := kp42) (fn := Tryd.f42) (args := [(V.s t0)]) H K (by kernel_rfl) (Nat.le_of_ble_eq_true (by kernel_rfl)) (by kernel_rfl)
  have e1 : ev Tryd.prog (E42 a56) loopLim Tryd.f42.ntmps kp42 c42_0 (argFr 0 [(V.s t0)]) H (kFn Tryd.prog Tryd.f42.results.toList K) = ev Tryd.prog (E42 a56) loopLim Tryd.f42.ntmps kp42 c42_0 [(0, (V.s t0))] H (kFn Tryd.prog Tryd.f42.results.toList K) := by kernel_rfl
  refine (e0.trans e1).trans ?_
  delta g42_r
  exact (g42_p0_eq a56 la56 t0 H (kFn Tryd.prog Tryd.f42.results.toList K)).trans (congrArg (g42_p0 a56 R t0 H) (funext fun t2 => funext fun H => h0 t2 H))
theorem g42_ok {a56 : T56} (oa56 : FunOK Tryd.prog 56 (w56 a56)) (la56 : Lin56 a56) : FunOK Tryd.prog 42 (w42 (g42_r a56)) := by
  refine (runF_ok (E42_good oa56 la56) mixed lim_ok Tryd.func42 (by kernel_rfl) kp42).of_le fun R args H K r hk => ?_
  unfold w42 at hk
  split at hk
  · exact (g42_fn a56 la56 _ H K).trans hk
  · cases hk
def kp25 : Nat → Option (List Nat) := kpOf [(0, [0]), (1, [2]), (300000, [2])]
def E25 (a42 : T42) : FEnv := [(42, w42 a42)]
theorem E25_good {a42 : T42} (oa42 : FunOK Tryd.prog 42 (w42 a42)) (la42 : Lin42 a42) : EnvGood Tryd.prog (E25 a42) := ((EnvGood.nil _).cons oa42 (w42_lin la42))
theorem E25_lin {a42 : T42} (la42 : Lin42 a42) : EnvLin (E25 a42) := by
  intro g F h
  simp only [E25, List.mem_cons, List.not_mem_nil, or_false] at h
  rcases h with h
  · cases h; exact w42_lin la42
noncomputable def b25 : Code := Tryd.f25.body.getD .skip
noncomputable def c25_0 : Code := (.seq (codeAt [0] b25) (.seq (codeAt [1, 0] b25) .ret))
noncomputable def g25_p0 (a42 : T42) (R : Type) (t0 : ByteArray) (H : Heap) (kR : Bool → Heap → Option R) : Option R :=
  sel (!strEq t0 str0) (
    a42 R t0 H fun x1 h2 =>
    kR x1 h2) (
    kR false H)
theorem g25_p0_eq (a42 : T42) (la42 : Lin42 a42) {R : Type} (t0 : ByteArray) (H : Heap) (K : Ex → Fr → Heap → Option R) : ev Tryd.prog (E25 a42) loopLim Tryd.f25.ntmps kp25 c25_0 [(0, (V.s t0))] H K = g25_p0 a42 R t0 H (fun t2 H => K .ret [(2, (V.b t2))] H) := by kernel_rfl
theorem g25_p0_lin {a42 : T42} (la42 : Lin42 a42) {R S : Type} {k : S → Option R} {t0 : ByteArray} {H : Heap} {fkR : Bool → Heap → Option R} {gkR : Bool → Heap → Option S} (hkR : ∀ t2 H, fkR t2 H = (gkR t2 H).bind k) : g25_p0 a42 R t0 H fkR = (g25_p0 a42 S t0 H gkR).bind k := by
  delta g25_p0; exact (
    sl_lin (
      la42.l fun x1 h2 =>
      hkR _ _) (
      hkR _ _))
noncomputable def g25_r (a42 : T42) : T25 := fun R t0 H K =>
  g25_p0 a42 R t0 H (fun t2 H =>
    K t2 H)
theorem g25_r_lin {a42 : T42} (la42 : Lin42 a42) : Lin25 (g25_r a42) := by
  constructor
  intro R S k t0 H f g h
  exact g25_p0_lin la42 (fun t2 H =>
    h _ _)
theorem g25_fn (a42 : T42) (la42 : Lin42 a42) {R : Type} (t0 : ByteArray) (H : Heap) (K : V → Heap → Option R) : evFn Tryd.prog (E25 a42) loopLim Tryd.f25 kp25 [(V.s t0)] H K = g25_r a42 R t0 H (fun r0 H => K (V.b r0) H) := by
  have h0 : ∀ (t2 : Bool) (H : Heap), kFn Tryd.prog Tryd.f25.results.toList K .ret [(2, (V.b t2))] H =
      K (V.b t2) H := by intros; kernel_rfl
  have e0 := evFn_code2 (P := Tryd.prog) (c := c25_0) (E := (E25 a42)) (lr := loopLim) (kp := kp25) (fn := Tryd.f25) (args := [(V.s t0)]) H K (by kernel_rfl) (Nat.le_of_ble_eq_true (by kernel_rfl)) (by kernel_rfl)
  have e1 : ev Tryd.prog (E25 a42) loopLim Tryd.f25.ntmps kp25 c25_0 (argFr 0 [(V.s t0)]) H (kFn Tryd.prog Tryd.f25.results.toList K) = ev Tryd.prog (E25 a42) loopLim Tryd.f25.ntmps kp25 c25_0 [(0, (V.s t0))] H (kFn Tryd.prog Tryd.f25.results.toList K) := by kernel_rfl
  refine (e0.trans e1).trans ?_
  delta g25_r
  exact (g25_p0_eq a42 la42 t0 H (kFn Tryd.prog Tryd.f25.results.toList K)).trans (congrArg (g25_p0 a42 R t0 H) (funext fun t2 => funext fun H => h0 t2 H))
theorem g25_ok {a42 : T42} (oa42 : FunOK Tryd.prog 42 (w42 a42)) (la42 : Lin42 a42) : FunOK Tryd.prog 25 (w25 (g25_r a42)) := by
  refine (runF_ok (E25_good oa42 la42) mixed lim_ok Tryd.func25 (by kernel_rfl) kp25).of_le fun R args H K r hk => ?_
  unfold w25 at hk
  split at hk
  · exact (g25_fn a42 la42 _ H K).trans hk
  · cases hk
def kp19 : Nat → Option (List Nat) := kpOf [(0, [1]), (1, [1, 3]), (2, [2]), (3, [1, 22]), (4, [2]), (5, [2]), (100000, [1]), (200000, [1]), (300000, [2]), (400003, [1]), (400022, [1])]
def E19 (a25 : T25) : FEnv := [(25, w25 a25)]
theorem E19_good {a25 : T25} (oa25 : FunOK Tryd.prog 25 (w25 a25)) (la25 : Lin25 a25) : EnvGood Tryd.prog (E19 a25) := ((EnvGood.nil _).cons oa25 (w25_lin la25))
theorem E19_lin {a25 : T25} (la25 : Lin25 a25) : EnvLin (E19 a25) := by
  intro g F h
  simp only [E19, List.mem_cons, List.not_mem_nil, or_false] at h
  rcases h with h
  · cases h; exact w25_lin la25
noncomputable def b19 : Code := Tryd.f19.body.getD .skip
noncomputable def c19_0 : Code := (.seq (codeAt [0] b19) (.seq (.block 0 (.seq (codeAt [1, 0, 0, 0] b19) (.cond (.tmp 3) (.seq (codeAt [1, 0, 0, 1, 0, 0] b19) .ret) (.seq (codeAt [1, 0, 0, 1, 1, 0] b19) (.cond (.tmp 22) (.seq (codeAt [1, 0, 0, 1, 1, 1, 0, 0] b19) .ret) .skip))))) (.seq (codeAt [1, 1, 0] b19) .ret)))
noncomputable def g19_p0 (a25 : T25) (R : Type) (t0_0 : Int) (t0_1 : Int) (t0_2 : ByteArray) (t0_3 : ByteArray) (t0_4 : Int) (H : Heap) (kR : Bool → Heap → Option R) : Option R :=
  alo H (.cells [(V.i .u8 t0_0), (V.i .i64 t0_1), (V.s t0_2), (V.s t0_3), (V.i .u8 t0_4)] 24 false) fun i1 h2 =>
  ((h2).ldI .u8 i1 (0 + 0)).bind fun x3 =>
  sel (decide (x3 < (1 : Int))) (
    kR false h2) (
    ((h2).ldI .u8 i1 (0 + 0)).bind fun x4 =>
    sel (decide (x4 > (5 : Int))) (
      kR false h2) (
      ((h2).ldI .i64 i1 (0 + 1)).bind fun x5 =>
      sel (decide (x5 < (0 : Int))) (
        kR false h2) (
        ((h2).ldI .i64 i1 (0 + 1)).bind fun x6 =>
        sel (decide (x6 ≥ (256 : Int))) (
          kR false h2) (
          ((h2).ldI .u8 i1 (0 + 0)).bind fun x7 =>
          sel (x7 == (1 : Int)) (
            ((h2).ldS i1 (0 + 2)).bind fun x8 =>
            a25 R x8 h2 fun x9 h10 =>
            sel x9 (
              ((h10).ldS i1 (0 + 3)).bind fun x11 =>
              a25 R x11 h10 fun x12 h13 =>
              sel x12 (
                ((h13).ldI .u8 i1 (0 + 4)).bind fun x14 =>
                kR (x14 == (0 : Int)) h13) (
                kR false h13)) (
              kR false h10)) (
            ((h2).ldS i1 (0 + 2)).bind fun x15 =>
            sel (strEq x15 str0) (
              ((h2).ldS i1 (0 + 3)).bind fun x16 =>
              sel (strEq x16 str0) (
                ((h2).ldI .u8 i1 (0 + 0)).bind fun x17 =>
                sel (x17 == (4 : Int)) (
                  kR true h2) (
                  ((h2).ldI .u8 i1 (0 + 4)).bind fun x18 =>
                  kR (x18 == (0 : Int)) h2)) (
                kR false h2)) (
              kR false h2))))))
theorem g19_p0_eq (a25 : T25) (la25 : Lin25 a25) {R : Type} (t0_0 : Int) (t0_1 : Int) (t0_2 : ByteArray) (t0_3 : ByteArray) (t0_4 : Int) (H : Heap) (K : Ex → Fr → Heap → Option R) : ev Tryd.prog (E19 a25) loopLim Tryd.f19.ntmps kp19 c19_0 [(0, (V.agg [(V.i .u8 t0_0), (V.i .i64 t0_1), (V.s t0_2), (V.s t0_3), (V.i .u8 t0_4)]))] H K = g19_p0 a25 R t0_0 t0_1 t0_2 t0_3 t0_4 H (fun t2 H => K .ret [(2, (V.b t2))] H) := by kernel_rfl
theorem g19_p0_lin {a25 : T25} (la25 : Lin25 a25) {R S : Type} {k : S → Option R} {t0_0 : Int} {t0_1 : Int} {t0_2 : ByteArray} {t0_3 : ByteArray} {t0_4 : Int} {H : Heap} {fkR : Bool → Heap → Option R} {gkR : Bool → Heap → Option S} (hkR : ∀ t2 H, fkR t2 H = (gkR t2 H).bind k) : g19_p0 a25 R t0_0 t0_1 t0_2 t0_3 t0_4 H fkR = (g19_p0 a25 S t0_0 t0_1 t0_2 t0_3 t0_4 H gkR).bind k := by
  delta g19_p0; exact (
    alo_lin fun i1 h2 =>
    bl fun x3 =>
    sl_lin (
      hkR _ _) (
      bl fun x4 =>
      sl_lin (
        hkR _ _) (
        bl fun x5 =>
        sl_lin (
          hkR _ _) (
          bl fun x6 =>
          sl_lin (
            hkR _ _) (
            bl fun x7 =>
            sl_lin (
              bl fun x8 =>
              la25.l fun x9 h10 =>
              sl_lin (
                bl fun x11 =>
                la25.l fun x12 h13 =>
                sl_lin (
                  bl fun x14 =>
                  hkR _ _) (
                  hkR _ _)) (
                hkR _ _)) (
              bl fun x15 =>
              sl_lin (
                bl fun x16 =>
                sl_lin (
                  bl fun x17 =>
                  sl_lin (
                    hkR _ _) (
                    bl fun x18 =>
                    hkR _ _)) (
                  hkR _ _)) (
                hkR _ _)))))))
noncomputable def g19_r (a25 : T25) : T19 := fun R t0_0 t0_1 t0_2 t0_3 t0_4 H K =>
  g19_p0 a25 R t0_0 t0_1 t0_2 t0_3 t0_4 H (fun t2 H =>
    K t2 H)
theorem g19_r_lin {a25 : T25} (la25 : Lin25 a25) : Lin19 (g19_r a25) := by
  constructor
  intro R S k t0_0 t0_1 t0_2 t0_3 t0_4 H f g h
  exact g19_p0_lin la25 (fun t2 H =>
    h _ _)
theorem g19_fn (a25 : T25) (la25 : Lin25 a25) {R : Type} (t0_0 : Int) (t0_1 : Int) (t0_2 : ByteArray) (t0_3 : ByteArray) (t0_4 : Int) (H : Heap) (K : V → Heap → Option R) : evFn Tryd.prog (E19 a25) loopLim Tryd.f19 kp19 [(V.agg [(V.i .u8 t0_0), (V.i .i64 t0_1), (V.s t0_2), (V.s t0_3), (V.i .u8 t0_4)])] H K = g19_r a25 R t0_0 t0_1 t0_2 t0_3 t0_4 H (fun r0 H => K (V.b r0) H) := by
  have h0 : ∀ (t2 : Bool) (H : Heap), kFn Tryd.prog Tryd.f19.results.toList K .ret [(2, (V.b t2))] H =
      K (V.b t2) H := by intros; kernel_rfl
  have e0 := evFn_code2 (P := Tryd.prog) (c := c19_0) (E := (E19 a25)) (lr := loopLim) (kp := kp19) (fn := Tryd.f19) (args := [(V.agg [(V.i .u8 t0_0), (V.i .i64 t0_1), (V.s t0_2), (V.s t0_3), (V.i .u8 t0_4)])]) H K (by kernel_rfl) (Nat.le_of_ble_eq_true (by kernel_rfl)) (by kernel_rfl)
  have e1 : ev Tryd.prog (E19 a25) loopLim Tryd.f19.ntmps kp19 c19_0 (argFr 0 [(V.agg [(V.i .u8 t0_0), (V.i .i64 t0_1), (V.s t0_2), (V.s t0_3), (V.i .u8 t0_4)])]) H (kFn Tryd.prog Tryd.f19.results.toList K) = ev Tryd.prog (E19 a25) loopLim Tryd.f19.ntmps kp19 c19_0 [(0, (V.agg [(V.i .u8 t0_0), (V.i .i64 t0_1), (V.s t0_2), (V.s t0_3), (V.i .u8 t0_4)]))] H (kFn Tryd.prog Tryd.f19.results.toList K) := by kernel_rfl
  refine (e0.trans e1).trans ?_
  delta g19_r
  exact (g19_p0_eq a25 la25 t0_0 t0_1 t0_2 t0_3 t0_4 H (kFn Tryd.prog Tryd.f19.results.toList K)).trans (congrArg (g19_p0 a25 R t0_0 t0_1 t0_2 t0_3 t0_4 H) (funext fun t2 => funext fun H => h0 t2 H))
theorem g19_ok {a25 : T25} (oa25 : FunOK Tryd.prog 25 (w25 a25)) (la25 : Lin25 a25) : FunOK Tryd.prog 19 (w19 (g19_r a25)) := by
  refine (runF_ok (E19_good oa25 la25) mixed lim_ok Tryd.func19 (by kernel_rfl) kp19).of_le fun R args H K r hk => ?_
  unfold w19 at hk
  split at hk
  · exact (g19_fn a25 la25 _ _ _ _ _ H K).trans hk
  · cases hk
def kp20 : Nat → Option (List Nat) := kpOf [(0, [0]), (1, [2]), (300000, [2])]
def E20 : FEnv := []
theorem E20_good : EnvGood Tryd.prog E20 := (EnvGood.nil _)
theorem E20_lin : EnvLin E20 := fun g F h => by cases h
noncomputable def b20 : Code := Tryd.f20.body.getD .skip
noncomputable def c20_0 : Code := (.seq (codeAt [0] b20) (.seq (codeAt [1, 0] b20) .ret))
noncomputable def g20_p0 (R : Type) (t0 : Sl) (H : Heap) (kR : Sl → Heap → Option R) : Option R :=
  slOf 1 t0 none (some ((t0.len : Nat) : Int)) (some ((t0.len : Nat) : Int)) fun s1 =>
  kR s1 H
theorem g20_p0_eq {R : Type} (t0 : Sl) (H : Heap) (K : Ex → Fr → Heap → Option R) : ev Tryd.prog E20 loopLim Tryd.f20.ntmps kp20 c20_0 [(0, (V.sl t0))] H K = g20_p0 R t0 H (fun t2 H => K .ret [(2, (V.sl t2))] H) := by kernel_rfl
theorem g20_p0_lin {R S : Type} {k : S → Option R} {t0 : Sl} {H : Heap} {fkR : Sl → Heap → Option R} {gkR : Sl → Heap → Option S} (hkR : ∀ t2 H, fkR t2 H = (gkR t2 H).bind k) : g20_p0 R t0 H fkR = (g20_p0 S t0 H gkR).bind k := by
  delta g20_p0; exact (
    slOf_lin fun s1 =>
    hkR _ _)
noncomputable def g20_r : T20 := fun R t0 H K =>
  g20_p0 R t0 H (fun t2 H =>
    K t2 H)
theorem g20_r_lin : Lin20 (g20_r) := by
  constructor
  intro R S k t0 H f g h
  exact g20_p0_lin (fun t2 H =>
    h _ _)
theorem g20_fn {R : Type} (t0 : Sl) (H : Heap) (K : V → Heap → Option R) : evFn Tryd.prog E20 loopLim Tryd.f20 kp20 [(V.sl t0)] H K = g20_r R t0 H (fun r0 H => K (V.sl r0) H) := by
  have h0 : ∀ (t2 : Sl) (H : Heap), kFn Tryd.prog Tryd.f20.results.toList K .ret [(2, (V.sl t2))] H =
      K (V.sl t2) H := by intros; kernel_rfl
  have e0 := evFn_code2 (P := Tryd.prog) (c := c20_0) (E := E20) (lr := loopLim) (kp := kp20) (fn := Tryd.f20) (args := [(V.sl t0)]) H K (by kernel_rfl) (Nat.le_of_ble_eq_true (by kernel_rfl)) (by kernel_rfl)
  have e1 : ev Tryd.prog E20 loopLim Tryd.f20.ntmps kp20 c20_0 (argFr 0 [(V.sl t0)]) H (kFn Tryd.prog Tryd.f20.results.toList K) = ev Tryd.prog E20 loopLim Tryd.f20.ntmps kp20 c20_0 [(0, (V.sl t0))] H (kFn Tryd.prog Tryd.f20.results.toList K) := by kernel_rfl
  refine (e0.trans e1).trans ?_
  delta g20_r
  exact (g20_p0_eq t0 H (kFn Tryd.prog Tryd.f20.results.toList K)).trans (congrArg (g20_p0 R t0 H) (funext fun t2 => funext fun H => h0 t2 H))
theorem g20_ok : FunOK Tryd.prog 20 (w20 (g20_r)) := by
  refine (runF_ok (E20_good) mixed lim_ok Tryd.func20 (by kernel_rfl) kp20).of_le fun R args H K r hk => ?_
  unfold w20 at hk
  split at hk
  · exact (g20_fn _ H K).trans hk
  · cases hk
end Go.Proofs.YtnjihofdmncckaaDoor

