/- Printed: functions as the machine runs them. -/
import Derived.Test.YtobebcfkddimkaaGT
namespace Go.Proofs.Ytobebcfkddimkaa
open Go AM Go.RowKit
set_option linter.unusedVariables false
def kp20 : Nat → Option (List Nat) := kpOf [(0, [0, 2]), (1, [0, 2, 8]), (2, [2, 3]), (3, [0, 2, 4]), (4, [0, 2, 4, 21]), (5, [2, 3]), (6, [0, 2, 4, 25]), (7, [2, 3]), (8, [0, 2, 4, 27]), (9, [0, 2, 4, 27, 28]), (10, [0, 2, 4, 5, 27]), (11, [0, 2, 4, 27]), (12, [0, 2, 4, 27]), (13, [2, 4]), (14, [2, 3]), (100000, [0, 2, 4]), (100001, [0, 2, 4, 27]), (200000, [0, 2, 4, 27]), (200001, [0, 2, 4, 27]), (300000, [2, 3]), (400008, [0, 2]), (400021, [0, 2, 4]), (400025, [0, 2, 4]), (400028, [0, 2, 4, 27])]
def E20 (a32 : T32) (a31 : T31) : FEnv := [(32, w32 a32), (31, w31 a31)]
theorem E20_good {a32 : T32} {a31 : T31} (oa32 : FunOK Try.prog 32 (w32 a32)) (oa31 : FunOK Try.prog 31 (w31 a31)) (la32 : Lin32 a32) (la31 : Lin31 a31) : EnvGood Try.prog (E20 a32 a31) := (((EnvGood.nil _).cons oa31 (w31_lin la31)).cons oa32 (w32_lin la32))
theorem E20_lin {a32 : T32} {a31 : T31} (la32 : Lin32 a32) (la31 : Lin31 a31) : EnvLin (E20 a32 a31) := by
  intro g F h
  simp only [E20, List.mem_cons, List.not_mem_nil, or_false] at h
  rcases h with h | h
  · cases h; exact w32_lin la32
  · cases h; exact w31_lin la31
noncomputable def b20 : Code := Try.f20.body.getD .skip
noncomputable def c20_0 : Code := (.seq (codeAt [1, 1, 1, 1, 1, 0, 1, 0, 0, 0] b20) (.seq (.cond (.tmp 28) .skip (.exit 0)) (.seq (.block 1 (.seq (codeAt [1, 1, 1, 1, 1, 0, 1, 0, 0, 1, 1, 0, 0, 0] b20) (codeAt [1, 1, 1, 1, 1, 0, 1, 0, 0, 1, 1, 0, 0, 1] b20))) (codeAt [1, 1, 1, 1, 1, 0, 1, 0, 0, 1, 1, 1] b20))))
noncomputable def c20_1 : Code := (.loop c20_0)
noncomputable def c20_2 : Code := (.block 0 c20_1)
noncomputable def c20_3 : Code := (.seq (codeAt [1, 1, 1, 1, 1, 1, 0] b20) (.seq (codeAt [1, 1, 1, 1, 1, 1, 1, 0] b20) .ret))
noncomputable def c20_4 : Code := (.seq c20_2 c20_3)
noncomputable def c20_5 : Code := (.seq (codeAt [0] b20) (.seq (codeAt [1, 0, 0] b20) (.seq (.cond (.tmp 8) (.seq (codeAt [1, 0, 1, 0, 0] b20) .ret) .skip) (.seq (codeAt [1, 1, 0] b20) (.seq (codeAt [1, 1, 1, 0, 0] b20) (.seq (.cond (.tmp 21) (.seq (codeAt [1, 1, 1, 0, 1, 0, 0] b20) .ret) .skip) (.seq (codeAt [1, 1, 1, 1, 0, 0] b20) (.seq (.cond (.tmp 25) (.seq (codeAt [1, 1, 1, 1, 0, 1, 0, 0] b20) .ret) .skip) (.seq (codeAt [1, 1, 1, 1, 1, 0, 0] b20) c20_4)))))))))
noncomputable def g20_p0 (a32 : T32) (a31 : T31) (R : Type) (t0 : Sl) (H : Heap) (kN : Sl → Nat → Nat → Nat → Nat → Int → Heap → Option R) (kR : Nat → Nat → Int → Heap → Option R) : Option R :=
  alo H (.cells [(V.i .u32 (0 : Int)), (V.b false), (V.i .u8 (0 : Int)), (V.sl (Sl.mk none 0 (.ex 0)))] 45 false) fun i76 h77 =>
  sel (decide (((t0.len : Nat) : Int) < (5 : Int))) (
    ((h77).sts i76 0 [(V.i .u32 (0 : Int)), (V.b false), (V.i .u8 (0 : Int)), (V.sl (Sl.mk none 0 (.ex 0)))]).bind fun h78 =>
    kR i76 0 (4 : Int) h78) (
    if 0 ≤ (4 : Int) ∧ (4 : Int) < ((t0.len : Nat) : Int) then (
      (t0.a).bind fun q79 =>
      ((h77).ldI .u8 q79.1 (q79.2 + Int.toNat (4 : Int) * 1)).bind fun x80 =>
      if 0 ≤ (4 : Int) ∧ (4 : Int) < ((t0.len : Nat) : Int) then (
        (t0.a).bind fun q81 =>
        ((h77).ldI .u8 q81.1 (q81.2 + Int.toNat (4 : Int) * 1)).bind fun x82 =>
        alo h77 (.cells [(V.i .u32 (0 : Int)), (V.b false), (V.i .u8 (0 : Int)), (V.sl (Sl.mk none 0 (.ex 0)))] 45 false) fun i83 h84 =>
        ((h84).ldI .u8 q81.1 (q81.2 + Int.toNat (4 : Int) * 1)).bind fun x85 =>
        if V.same (V.i .u8 x82) (V.i .u8 x85) = true then (
          ((h84).ldI .u8 q79.1 (q79.2 + Int.toNat (4 : Int) * 1)).bind fun x86 =>
          if V.same (V.i .u8 x80) (V.i .u8 x86) = true then (
            ((h84).sts i83 0 [(V.i .u32 (0 : Int)), (V.b (decide (x80 ≥ (128 : Int)))), (V.i .u8 (bvAndNot .u8 x82 (128 : Int))), (V.sl (Sl.mk none 0 (.ex 0)))]).bind fun h87 =>
            ((h87).ldI .u8 i83 (0 + 2)).bind fun x88 =>
            sel (decide (x88 ≥ (16 : Int))) (
              ((h87).sts i76 0 [(V.i .u32 (0 : Int)), (V.b false), (V.i .u8 (0 : Int)), (V.sl (Sl.mk none 0 (.ex 0)))]).bind fun h89 =>
              kR i76 0 (4 : Int) h89) (
              sel (decide (((t0.len : Nat) : Int) > (261 : Int))) (
                ((h87).sts i76 0 [(V.i .u32 (0 : Int)), (V.b false), (V.i .u8 (0 : Int)), (V.sl (Sl.mk none 0 (.ex 0)))]).bind fun h90 =>
                kR i76 0 (3 : Int) h90) (
                kN t0 i76 0 i83 0 (0 : Int) h87)))
          else (
            none))
        else (
          none))
      else (
        none))
    else (
      none))
theorem g20_p0_eq (a32 : T32) (a31 : T31) {R : Type} (c2 : Code) (t0 : Sl) (H : Heap) (K : Ex → Fr → Heap → Option R) : ev Try.prog (E20 a32 a31) loopLim Try.f20.ntmps kp20 (.seq (codeAt [0] b20) (.seq (codeAt [1, 0, 0] b20) (.seq (.cond (.tmp 8) (.seq (codeAt [1, 0, 1, 0, 0] b20) .ret) .skip) (.seq (codeAt [1, 1, 0] b20) (.seq (codeAt [1, 1, 1, 0, 0] b20) (.seq (.cond (.tmp 21) (.seq (codeAt [1, 1, 1, 0, 1, 0, 0] b20) .ret) .skip) (.seq (codeAt [1, 1, 1, 1, 0, 0] b20) (.seq (.cond (.tmp 25) (.seq (codeAt [1, 1, 1, 1, 0, 1, 0, 0] b20) .ret) .skip) (.seq (codeAt [1, 1, 1, 1, 1, 0, 0] b20) c2))))))))) [(0, (V.sl t0))] H K = g20_p0 a32 a31 R t0 H (fun t0 t2_0 t2_1 t4_0 t4_1 t27 H => ev Try.prog (E20 a32 a31) loopLim Try.f20.ntmps kp20 c2 [(0, (V.sl t0)), (2, (V.p (some (t2_0, t2_1)))), (4, (V.p (some (t4_0, t4_1)))), (27, (V.i .i64 t27))] H K) (fun t2_0 t2_1 t3 H => K .ret [(2, (V.p (some (t2_0, t2_1)))), (3, (V.i .i64 t3))] H) := by kernel_rfl
theorem g20_p0_lin {a32 : T32} {a31 : T31} (la32 : Lin32 a32) (la31 : Lin31 a31) {R S : Type} {k : S → Option R} {t0 : Sl} {H : Heap} {fkN : Sl → Nat → Nat → Nat → Nat → Int → Heap → Option R} {gkN : Sl → Nat → Nat → Nat → Nat → Int → Heap → Option S} {fkR : Nat → Nat → Int → Heap → Option R} {gkR : Nat → Nat → Int → Heap → Option S} (hkN : ∀ t0 t2_0 t2_1 t4_0 t4_1 t27 H, fkN t0 t2_0 t2_1 t4_0 t4_1 t27 H = (gkN t0 t2_0 t2_1 t4_0 t4_1 t27 H).bind k) (hkR : ∀ t2_0 t2_1 t3 H, fkR t2_0 t2_1 t3 H = (gkR t2_0 t2_1 t3 H).bind k) : g20_p0 a32 a31 R t0 H fkN fkR = (g20_p0 a32 a31 S t0 H gkN gkR).bind k := by
  delta g20_p0; exact (
    alo_lin fun i76 h77 =>
    sl_lin (
      bl fun h78 =>
      hkR _ _ _ _) (
      il (
        bl fun q79 =>
        bl fun x80 =>
        il (
          bl fun q81 =>
          bl fun x82 =>
          alo_lin fun i83 h84 =>
          bl fun x85 =>
          il (
            bl fun x86 =>
            il (
              bl fun h87 =>
              bl fun x88 =>
              sl_lin (
                bl fun h89 =>
                hkR _ _ _ _) (
                sl_lin (
                  bl fun h90 =>
                  hkR _ _ _ _) (
                  hkN _ _ _ _ _ _ _))) (
              rfl)) (
            rfl)) (
          rfl)) (
        rfl)))
noncomputable def g20_p1 (a32 : T32) (a31 : T31) (R : Type) (t0 : Sl) (t2_0 : Nat) (t2_1 : Nat) (t4_0 : Nat) (t4_1 : Nat) (t27 : Int) (H : Heap) (kN : Sl → Nat → Nat → Nat → Nat → Int → Heap → Option R) (kE0 : Sl → Nat → Nat → Nat → Nat → Heap → Option R) : Option R :=
  sel (decide (t27 < (4 : Int))) (
    ((H).ldI .u32 t4_0 (t4_1 + 0)).bind fun x91 =>
    if 0 ≤ t27 ∧ t27 < ((t0.len : Nat) : Int) then (
      (t0.a).bind fun q92 =>
      ((H).ldI .u8 q92.1 (q92.2 + Int.toNat t27 * 1)).bind fun x93 =>
      if (IntKind.wrap .i64 ((8 : Int) * t27)) < 0 then (
        none)
      else (
        ((H).st t4_0 (t4_1 + 0) (V.i .u32 (bvOr .u32 x91 (shlI .u32 (IntKind.wrap .u32 x93) (IntKind.wrap .i64 ((8 : Int) * t27)))))).bind fun h95 =>
        kN t0 t2_0 t2_1 t4_0 t4_1 (IntKind.wrap .i64 (t27 + (1 : Int))) h95))
    else (
      none)) (
    kE0 t0 t2_0 t2_1 t4_0 t4_1 H)
theorem g20_p1_eq (a32 : T32) (a31 : T31) (la32 : Lin32 a32) (la31 : Lin31 a31) {R : Type} (t0 : Sl) (t2_0 : Nat) (t2_1 : Nat) (t4_0 : Nat) (t4_1 : Nat) (t27 : Int) (H : Heap) (K : Ex → Fr → Heap → Option R) : ev Try.prog (E20 a32 a31) loopLim Try.f20.ntmps kp20 c20_0 [(0, (V.sl t0)), (2, (V.p (some (t2_0, t2_1)))), (4, (V.p (some (t4_0, t4_1)))), (27, (V.i .i64 t27))] H K = g20_p1 a32 a31 R t0 t2_0 t2_1 t4_0 t4_1 t27 H (fun t0 t2_0 t2_1 t4_0 t4_1 t27 H => K .normal [(0, (V.sl t0)), (2, (V.p (some (t2_0, t2_1)))), (4, (V.p (some (t4_0, t4_1)))), (27, (V.i .i64 t27))] H) (fun t0 t2_0 t2_1 t4_0 t4_1 H => K (.exit 0) [(0, (V.sl t0)), (2, (V.p (some (t2_0, t2_1)))), (4, (V.p (some (t4_0, t4_1))))] H) := by kernel_rfl
theorem g20_p1_lin {a32 : T32} {a31 : T31} (la32 : Lin32 a32) (la31 : Lin31 a31) {R S : Type} {k : S → Option R} {t0 : Sl} {t2_0 : Nat} {t2_1 : Nat} {t4_0 : Nat} {t4_1 : Nat} {t27 : Int} {H : Heap} {fkN : Sl → Nat → Nat → Nat → Nat → Int → Heap → Option R} {gkN : Sl → Nat → Nat → Nat → Nat → Int → Heap → Option S} {fkE0 : Sl → Nat → Nat → Nat → Nat → Heap → Option R} {gkE0 : Sl → Nat → Nat → Nat → Nat → Heap → Option S} (hkN : ∀ t0 t2_0 t2_1 t4_0 t4_1 t27 H, fkN t0 t2_0 t2_1 t4_0 t4_1 t27 H = (gkN t0 t2_0 t2_1 t4_0 t4_1 t27 H).bind k) (hkE0 : ∀ t0 t2_0 t2_1 t4_0 t4_1 H, fkE0 t0 t2_0 t2_1 t4_0 t4_1 H = (gkE0 t0 t2_0 t2_1 t4_0 t4_1 H).bind k) : g20_p1 a32 a31 R t0 t2_0 t2_1 t4_0 t4_1 t27 H fkN fkE0 = (g20_p1 a32 a31 S t0 t2_0 t2_1 t4_0 t4_1 t27 H gkN gkE0).bind k := by
  delta g20_p1; exact (
    sl_lin (
      bl fun x91 =>
      il (
        bl fun q92 =>
        bl fun x93 =>
        il (
          rfl) (
          bl fun h95 =>
          hkN _ _ _ _ _ _ _)) (
        rfl)) (
      hkE0 _ _ _ _ _ _))
abbrev g20_p2_S := Sl × Nat × Nat × Nat × Nat × Int
abbrev g20_p2_O := Sl × Nat × Nat × Nat × Nat
def g20_p2_es (s : g20_p2_S) : Fr := [(0, (V.sl s.1)), (2, (V.p (some (s.2.1, s.2.2.1)))), (4, (V.p (some (s.2.2.2.1, s.2.2.2.2.1)))), (27, (V.i .i64 s.2.2.2.2.2))]
def g20_p2_er (r : g20_p2_O) : Ex × Fr := ((.exit 0), [(0, (V.sl r.1)), (2, (V.p (some (r.2.1, r.2.2.1)))), (4, (V.p (some (r.2.2.2.1, r.2.2.2.2))))])
noncomputable def g20_p2_b (a32 : T32) (a31 : T31) (s : g20_p2_S) (H : Heap) : Option (Rd g20_p2_S g20_p2_O × Heap) :=
  g20_p1 a32 a31 _ s.1 s.2.1 s.2.2.1 s.2.2.2.1 s.2.2.2.2.1 s.2.2.2.2.2 H (fun t0 t2_0 t2_1 t4_0 t4_1 t27 H => some (.go (t0, t2_0, t2_1, t4_0, t4_1, t27), H)) (fun t0 t2_0 t2_1 t4_0 t4_1 H => some (.up (t0, t2_0, t2_1, t4_0, t4_1), H))
noncomputable def g20_p2 (a32 : T32) (a31 : T31) (R : Type) (t0 : Sl) (t2_0 : Nat) (t2_1 : Nat) (t4_0 : Nat) (t4_1 : Nat) (t27 : Int) (H : Heap) (kE0 : Sl → Nat → Nat → Nat → Nat → Heap → Option R) : Option R :=
  (tlim (g20_p2_b a32 a31) (t0, t2_0, t2_1, t4_0, t4_1, t27) H).bind fun p => kE0 p.1.1 p.1.2.1 p.1.2.2.1 p.1.2.2.2.1 p.1.2.2.2.2 p.2
theorem g20_p2_lin {a32 : T32} {a31 : T31} (la32 : Lin32 a32) (la31 : Lin31 a31) {R S : Type} {k : S → Option R} {t0 : Sl} {t2_0 : Nat} {t2_1 : Nat} {t4_0 : Nat} {t4_1 : Nat} {t27 : Int} {H : Heap} {fkE0 : Sl → Nat → Nat → Nat → Nat → Heap → Option R} {gkE0 : Sl → Nat → Nat → Nat → Nat → Heap → Option S} (hkE0 : ∀ t0 t2_0 t2_1 t4_0 t4_1 H, fkE0 t0 t2_0 t2_1 t4_0 t4_1 H = (gkE0 t0 t2_0 t2_1 t4_0 t4_1 H).bind k) : g20_p2 a32 a31 R t0 t2_0 t2_1 t4_0 t4_1 t27 H fkE0 = (g20_p2 a32 a31 S t0 t2_0 t2_1 t4_0 t4_1 t27 H gkE0).bind k := by
  exact bl fun p => hkE0 _ _ _ _ _ _
theorem g20_p2_eq (a32 : T32) (a31 : T31) (la32 : Lin32 a32) (la31 : Lin31 a31) {R : Type} (t0 : Sl) (t2_0 : Nat) (t2_1 : Nat) (t4_0 : Nat) (t4_1 : Nat) (t27 : Int) (H : Heap) (K : Ex → Fr → Heap → Option R) : ev Try.prog (E20 a32 a31) loopLim Try.f20.ntmps kp20 c20_1 [(0, (V.sl t0)), (2, (V.p (some (t2_0, t2_1)))), (4, (V.p (some (t4_0, t4_1)))), (27, (V.i .i64 t27))] H K = g20_p2 a32 a31 R t0 t2_0 t2_1 t4_0 t4_1 t27 H (fun t0 t2_0 t2_1 t4_0 t4_1 H => K (.exit 0) [(0, (V.sl t0)), (2, (V.p (some (t2_0, t2_1)))), (4, (V.p (some (t4_0, t4_1))))] H) := by
  show ev Try.prog (E20 a32 a31) loopLim Try.f20.ntmps kp20 (.loop c20_0) [(0, (V.sl t0)), (2, (V.p (some (t2_0, t2_1)))), (4, (V.p (some (t4_0, t4_1)))), (27, (V.i .i64 t27))] H K = _
  delta g20_p2
  refine (ev_tlim (b := g20_p2_b a32 a31) (es := g20_p2_es) (er := g20_p2_er) (by intro r; exact nofun) (fun s H => ?_) (t0, t2_0, t2_1, t4_0, t4_1, t27) H K).trans (bc fun p => rfl)
  exact (g20_p1_eq a32 a31 la32 la31 s.1 s.2.1 s.2.2.1 s.2.2.2.1 s.2.2.2.2.1 s.2.2.2.2.2 H ret3).trans (g20_p1_lin la32 la31 (fun _ _ _ _ _ _ _ => rfl) (fun _ _ _ _ _ _ => rfl))
noncomputable def g20_p3 (a32 : T32) (a31 : T31) (R : Type) (t0 : Sl) (t2_0 : Nat) (t2_1 : Nat) (t4_0 : Nat) (t4_1 : Nat) (t27 : Int) (H : Heap) (kN : Sl → Nat → Nat → Nat → Nat → Heap → Option R) : Option R :=
  g20_p2 a32 a31 R t0 t2_0 t2_1 t4_0 t4_1 t27 H (fun t0 t2_0 t2_1 t4_0 t4_1 H => kN t0 t2_0 t2_1 t4_0 t4_1 H)
theorem g20_p3_lin {a32 : T32} {a31 : T31} (la32 : Lin32 a32) (la31 : Lin31 a31) {R S : Type} {k : S → Option R} {t0 : Sl} {t2_0 : Nat} {t2_1 : Nat} {t4_0 : Nat} {t4_1 : Nat} {t27 : Int} {H : Heap} {fkN : Sl → Nat → Nat → Nat → Nat → Heap → Option R} {gkN : Sl → Nat → Nat → Nat → Nat → Heap → Option S} (hkN : ∀ t0 t2_0 t2_1 t4_0 t4_1 H, fkN t0 t2_0 t2_1 t4_0 t4_1 H = (gkN t0 t2_0 t2_1 t4_0 t4_1 H).bind k) : g20_p3 a32 a31 R t0 t2_0 t2_1 t4_0 t4_1 t27 H fkN = (g20_p3 a32 a31 S t0 t2_0 t2_1 t4_0 t4_1 t27 H gkN).bind k := by
  exact g20_p2_lin la32 la31 (fun _ _ _ _ _ _ => hkN _ _ _ _ _ _)
theorem g20_p3_eq (a32 : T32) (a31 : T31) (la32 : Lin32 a32) (la31 : Lin31 a31) {R : Type} (t0 : Sl) (t2_0 : Nat) (t2_1 : Nat) (t4_0 : Nat) (t4_1 : Nat) (t27 : Int) (H : Heap) (K : Ex → Fr → Heap → Option R) : ev Try.prog (E20 a32 a31) loopLim Try.f20.ntmps kp20 c20_2 [(0, (V.sl t0)), (2, (V.p (some (t2_0, t2_1)))), (4, (V.p (some (t4_0, t4_1)))), (27, (V.i .i64 t27))] H K = g20_p3 a32 a31 R t0 t2_0 t2_1 t4_0 t4_1 t27 H (fun t0 t2_0 t2_1 t4_0 t4_1 H => K .normal [(0, (V.sl t0)), (2, (V.p (some (t2_0, t2_1)))), (4, (V.p (some (t4_0, t4_1))))] H) := by
  show ev Try.prog (E20 a32 a31) loopLim Try.f20.ntmps kp20 (.block 0 c20_1) [(0, (V.sl t0)), (2, (V.p (some (t2_0, t2_1)))), (4, (V.p (some (t4_0, t4_1)))), (27, (V.i .i64 t27))] H K = _
  rw [ev_block]
  delta g20_p3
  exact (g20_p2_eq a32 a31 la32 la31 t0 t2_0 t2_1 t4_0 t4_1 t27 H (kBlock kp20 0 K))
noncomputable def g20_p4 (a32 : T32) (a31 : T31) (R : Type) (t0 : Sl) (t2_0 : Nat) (t2_1 : Nat) (t4_0 : Nat) (t4_1 : Nat) (H : Heap) (kR : Nat → Nat → Int → Heap → Option R) : Option R :=
  slOf 1 t0 (some (5 : Int)) none none fun s96 =>
  a32 R s96 H fun x97 h98 =>
  a31 R x97 h98 fun x99 h100 =>
  ((h100).st t4_0 (t4_1 + 3) (V.sl x99)).bind fun h102 =>
  ((h102).ldI .u32 t4_0 (t4_1 + 0)).bind fun x103 =>
  ((h102).ldB t4_0 (t4_1 + 1)).bind fun x104 =>
  ((h102).ldI .u8 t4_0 (t4_1 + 2)).bind fun x105 =>
  ((h102).ldSl t4_0 (t4_1 + 3)).bind fun x106 =>
  ((h102).sts t2_0 t2_1 [(V.i .u32 x103), (V.b x104), (V.i .u8 x105), (V.sl x106)]).bind fun h107 =>
  kR t2_0 t2_1 (0 : Int) h107
theorem g20_p4_eq (a32 : T32) (a31 : T31) (la32 : Lin32 a32) (la31 : Lin31 a31) {R : Type} (t0 : Sl) (t2_0 : Nat) (t2_1 : Nat) (t4_0 : Nat) (t4_1 : Nat) (H : Heap) (K : Ex → Fr → Heap → Option R) : ev Try.prog (E20 a32 a31) loopLim Try.f20.ntmps kp20 c20_3 [(0, (V.sl t0)), (2, (V.p (some (t2_0, t2_1)))), (4, (V.p (some (t4_0, t4_1))))] H K = g20_p4 a32 a31 R t0 t2_0 t2_1 t4_0 t4_1 H (fun t2_0 t2_1 t3 H => K .ret [(2, (V.p (some (t2_0, t2_1)))), (3, (V.i .i64 t3))] H) := by kernel_rfl
theorem g20_p4_lin {a32 : T32} {a31 : T31} (la32 : Lin32 a32) (la31 : Lin31 a31) {R S : Type} {k : S → Option R} {t0 : Sl} {t2_0 : Nat} {t2_1 : Nat} {t4_0 : Nat} {t4_1 : Nat} {H : Heap} {fkR : Nat → Nat → Int → Heap → Option R} {gkR : Nat → Nat → Int → Heap → Option S} (hkR : ∀ t2_0 t2_1 t3 H, fkR t2_0 t2_1 t3 H = (gkR t2_0 t2_1 t3 H).bind k) : g20_p4 a32 a31 R t0 t2_0 t2_1 t4_0 t4_1 H fkR = (g20_p4 a32 a31 S t0 t2_0 t2_1 t4_0 t4_1 H gkR).bind k := by
  delta g20_p4; exact (
    slOf_lin fun s96 =>
    la32.l fun x97 h98 =>
    la31.l fun x99 h100 =>
    bl fun h102 =>
    bl fun x103 =>
    bl fun x104 =>
    bl fun x105 =>
    bl fun x106 =>
    bl fun h107 =>
    hkR _ _ _ _)
noncomputable def g20_p5 (a32 : T32) (a31 : T31) (R : Type) (t0 : Sl) (t2_0 : Nat) (t2_1 : Nat) (t4_0 : Nat) (t4_1 : Nat) (t27 : Int) (H : Heap) (kR : Nat → Nat → Int → Heap → Option R) : Option R :=
  g20_p3 a32 a31 R t0 t2_0 t2_1 t4_0 t4_1 t27 H (fun t0 t2_0 t2_1 t4_0 t4_1 H => g20_p4 a32 a31 R t0 t2_0 t2_1 t4_0 t4_1 H (fun t2_0 t2_1 t3 H => kR t2_0 t2_1 t3 H))
theorem g20_p5_lin {a32 : T32} {a31 : T31} (la32 : Lin32 a32) (la31 : Lin31 a31) {R S : Type} {k : S → Option R} {t0 : Sl} {t2_0 : Nat} {t2_1 : Nat} {t4_0 : Nat} {t4_1 : Nat} {t27 : Int} {H : Heap} {fkR : Nat → Nat → Int → Heap → Option R} {gkR : Nat → Nat → Int → Heap → Option S} (hkR : ∀ t2_0 t2_1 t3 H, fkR t2_0 t2_1 t3 H = (gkR t2_0 t2_1 t3 H).bind k) : g20_p5 a32 a31 R t0 t2_0 t2_1 t4_0 t4_1 t27 H fkR = (g20_p5 a32 a31 S t0 t2_0 t2_1 t4_0 t4_1 t27 H gkR).bind k := by
  exact g20_p3_lin la32 la31 (fun _ _ _ _ _ _ => g20_p4_lin la32 la31 (fun _ _ _ _ => hkR _ _ _ _))
theorem g20_p5_eq (a32 : T32) (a31 : T31) (la32 : Lin32 a32) (la31 : Lin31 a31) {R : Type} (t0 : Sl) (t2_0 : Nat) (t2_1 : Nat) (t4_0 : Nat) (t4_1 : Nat) (t27 : Int) (H : Heap) (K : Ex → Fr → Heap → Option R) : ev Try.prog (E20 a32 a31) loopLim Try.f20.ntmps kp20 c20_4 [(0, (V.sl t0)), (2, (V.p (some (t2_0, t2_1)))), (4, (V.p (some (t4_0, t4_1)))), (27, (V.i .i64 t27))] H K = g20_p5 a32 a31 R t0 t2_0 t2_1 t4_0 t4_1 t27 H (fun t2_0 t2_1 t3 H => K .ret [(2, (V.p (some (t2_0, t2_1)))), (3, (V.i .i64 t3))] H) := by
  show ev Try.prog (E20 a32 a31) loopLim Try.f20.ntmps kp20 (.seq c20_2 c20_3) [(0, (V.sl t0)), (2, (V.p (some (t2_0, t2_1)))), (4, (V.p (some (t4_0, t4_1)))), (27, (V.i .i64 t27))] H K = _
  rw [ev_seq]
  delta g20_p5
  exact (g20_p3_eq a32 a31 la32 la31 t0 t2_0 t2_1 t4_0 t4_1 t27 H (kSeq (fun fr H => ev Try.prog (E20 a32 a31) loopLim Try.f20.ntmps kp20 c20_3 fr H K) K)).trans (congrArg (g20_p3 a32 a31 R t0 t2_0 t2_1 t4_0 t4_1 t27 H) (funext fun t0 => funext fun t2_0 => funext fun t2_1 => funext fun t4_0 => funext fun t4_1 => funext fun H => (kSeq_n _ _ _ _).trans (g20_p4_eq a32 a31 la32 la31 t0 t2_0 t2_1 t4_0 t4_1 H K)))
noncomputable def g20_p6 (a32 : T32) (a31 : T31) (R : Type) (t0 : Sl) (H : Heap) (kR : Nat → Nat → Int → Heap → Option R) : Option R :=
  g20_p0 a32 a31 R t0 H (fun t0 t2_0 t2_1 t4_0 t4_1 t27 H => g20_p5 a32 a31 R t0 t2_0 t2_1 t4_0 t4_1 t27 H (fun t2_0 t2_1 t3 H => kR t2_0 t2_1 t3 H)) (fun t2_0 t2_1 t3 H => kR t2_0 t2_1 t3 H)
theorem g20_p6_lin {a32 : T32} {a31 : T31} (la32 : Lin32 a32) (la31 : Lin31 a31) {R S : Type} {k : S → Option R} {t0 : Sl} {H : Heap} {fkR : Nat → Nat → Int → Heap → Option R} {gkR : Nat → Nat → Int → Heap → Option S} (hkR : ∀ t2_0 t2_1 t3 H, fkR t2_0 t2_1 t3 H = (gkR t2_0 t2_1 t3 H).bind k) : g20_p6 a32 a31 R t0 H fkR = (g20_p6 a32 a31 S t0 H gkR).bind k := by
  exact g20_p0_lin la32 la31 (fun _ _ _ _ _ _ _ => g20_p5_lin la32 la31 (fun _ _ _ _ => hkR _ _ _ _)) (fun _ _ _ _ => hkR _ _ _ _)
theorem g20_p6_eq (a32 : T32) (a31 : T31) (la32 : Lin32 a32) (la31 : Lin31 a31) {R : Type} (t0 : Sl) (H : Heap) (K : Ex → Fr → Heap → Option R) : ev Try.prog (E20 a32 a31) loopLim Try.f20.ntmps kp20 c20_5 [(0, (V.sl t0))] H K = g20_p6 a32 a31 R t0 H (fun t2_0 t2_1 t3 H => K .ret [(2, (V.p (some (t2_0, t2_1)))), (3, (V.i .i64 t3))] H) := by
  show ev Try.prog (E20 a32 a31) loopLim Try.f20.ntmps kp20 (.seq (codeAt [0] b20) (.seq (codeAt [1, 0, 0] b20) (.seq (.cond (.tmp 8) (.seq (codeAt [1, 0, 1, 0, 0] b20) .ret) .skip) (.seq (codeAt [1, 1, 0] b20) (.seq (codeAt [1, 1, 1, 0, 0] b20) (.seq (.cond (.tmp 21) (.seq (codeAt [1, 1, 1, 0, 1, 0, 0] b20) .ret) .skip) (.seq (codeAt [1, 1, 1, 1, 0, 0] b20) (.seq (.cond (.tmp 25) (.seq (codeAt [1, 1, 1, 1, 0, 1, 0, 0] b20) .ret) .skip) (.seq (codeAt [1, 1, 1, 1, 1, 0, 0] b20) c20_4))))))))) [(0, (V.sl t0))] H K = _
  delta g20_p6
  exact (g20_p0_eq a32 a31 _ t0 H K).trans (congr (congrArg (g20_p0 a32 a31 R t0 H) (funext fun t0 => funext fun t2_0 => funext fun t2_1 => funext fun t4_0 => funext fun t4_1 => funext fun t27 => funext fun H => g20_p5_eq a32 a31 la32 la31 t0 t2_0 t2_1 t4_0 t4_1 t27 H K)) rfl)
noncomputable def g20_r (a32 : T32) (a31 : T31) : T20 := fun R t0 H K =>
  g20_p6 a32 a31 R t0 H (fun t2_0 t2_1 t3 H =>
    ((H).ldI .u32 t2_0 (t2_1 + 0)).bind fun x108 =>
    ((H).ldB t2_0 (t2_1 + 1)).bind fun x109 =>
    ((H).ldI .u8 t2_0 (t2_1 + 2)).bind fun x110 =>
    ((H).ldSl t2_0 (t2_1 + 3)).bind fun x111 =>
    K x108 x109 x110 x111 t3 H)
theorem g20_r_lin {a32 : T32} {a31 : T31} (la32 : Lin32 a32) (la31 : Lin31 a31) : Lin20 (g20_r a32 a31) := by
  constructor
  intro R S k t0 H f g h
  exact g20_p6_lin la32 la31 (fun t2_0 t2_1 t3 H =>
    bl fun x108 =>
    bl fun x109 =>
    bl fun x110 =>
    bl fun x111 =>
    h _ _ _ _ _ _)
theorem g20_fn (a32 : T32) (a31 : T31) (la32 : Lin32 a32) (la31 : Lin31 a31) {R : Type} (t0 : Sl) (H : Heap) (K : V → Heap → Option R) : evFn Try.prog (E20 a32 a31) loopLim Try.f20 kp20 [(V.sl t0)] H K = g20_r a32 a31 R t0 H (fun r0_0 r0_1 r0_2 r0_3 r1 H => K (V.tup [(V.agg [(V.i .u32 r0_0), (V.b r0_1), (V.i .u8 r0_2), (V.sl r0_3)]), (V.i .i64 r1)]) H) := by
  have h0 : ∀ (t2_0 : Nat) (t2_1 : Nat) (t3 : Int) (H : Heap), kFn Try.prog Try.f20.results.toList K .ret [(2, (V.p (some (t2_0, t2_1)))), (3, (V.i .i64 t3))] H =
      ((H).ldI .u32 t2_0 (t2_1 + 0)).bind fun x108 =>
      ((H).ldB t2_0 (t2_1 + 1)).bind fun x109 =>
      ((H).ldI .u8 t2_0 (t2_1 + 2)).bind fun x110 =>
      ((H).ldSl t2_0 (t2_1 + 3)).bind fun x111 =>
      K (V.tup [(V.agg [(V.i .u32 x108), (V.b x109), (V.i .u8 x110), (V.sl x111)]), (V.i .i64 t3)]) H := by intros; kernel_rfl
  have e0 := evFn_code2 (P := Try.prog) (c := c20_5) (E := (E20 a32 a31)) (lr := loopLim) (kp := kp20) (fn := Try.f20) (args := [(V.sl t0)]) H K (by kernel_rfl) (Nat.le_of_ble_eq_true (by kernel_rfl)) (by kernel_rfl)
  have e1 : ev Try.prog (E20 a32 a31) loopLim Try.f20.ntmps kp20 c20_5 (argFr 0 [(V.sl t0)]) H (kFn Try.prog Try.f20.results.toList K) = ev Try.prog (E20 a32 a31) loopLim Try.f20.ntmps kp20 c20_5 [(0, (V.sl t0))] H (kFn Try.prog Try.f20.results.toList K) := by kernel_rfl
  refine (e0.trans e1).trans ?_
  delta g20_r
  exact (g20_p6_eq a32 a31 la32 la31 t0 H (kFn Try.prog Try.f20.results.toList K)).trans (congrArg (g20_p6 a32 a31 R t0 H) (funext fun t2_0 => funext fun t2_1 => funext fun t3 => funext fun H => h0 t2_0 t2_1 t3 H))
theorem g20_ok {a32 : T32} {a31 : T31} (oa32 : FunOK Try.prog 32 (w32 a32)) (oa31 : FunOK Try.prog 31 (w31 a31)) (la32 : Lin32 a32) (la31 : Lin31 a31) : FunOK Try.prog 20 (w20 (g20_r a32 a31)) := by
  refine (runF_ok (E20_good oa32 oa31 la32 la31) mixed lim_ok Try.func20 (by kernel_rfl) kp20).of_le fun R args H K r hk => ?_
  unfold w20 at hk
  split at hk
  · exact (g20_fn a32 a31 la32 la31 _ H K).trans hk
  · cases hk
def kp21 : Nat → Option (List Nat) := kpOf [(0, [2, 3]), (1, [4]), (300000, [4])]
def E21 : FEnv := []
theorem E21_good : EnvGood Try.prog E21 := (EnvGood.nil _)
theorem E21_lin : EnvLin E21 := fun g F h => by cases h
noncomputable def b21 : Code := Try.f21.body.getD .skip
noncomputable def c21_0 : Code := (.seq (codeAt [0] b21) (.seq (codeAt [1, 0] b21) .ret))
noncomputable def g21_p0 (R : Type) (t0_0 : Int) (t0_1 : Bool) (t0_2 : Int) (t0_3 : Sl) (t1_0 : Int) (t1_1 : Bool) (t1_2 : Int) (t1_3 : Sl) (H : Heap) (kR : Bool → Heap → Option R) : Option R :=
  alo H (.cells [(V.i .u32 t0_0), (V.b t0_1), (V.i .u8 t0_2), (V.sl t0_3)] 45 false) fun i1 h2 =>
  alo h2 (.cells [(V.i .u32 t1_0), (V.b t1_1), (V.i .u8 t1_2), (V.sl t1_3)] 45 false) fun i3 h4 =>
  ((h4).ldI .u32 i1 (0 + 0)).bind fun x5 =>
  ((h4).ldI .u32 i3 (0 + 0)).bind fun x6 =>
  sel (x5 == x6) (
    ((h4).ldB i1 (0 + 1)).bind fun x7 =>
    ((h4).ldB i3 (0 + 1)).bind fun x8 =>
    sel (x7 == x8) (
      ((h4).ldI .u8 i1 (0 + 2)).bind fun x9 =>
      ((h4).ldI .u8 i3 (0 + 2)).bind fun x10 =>
      sel (x9 == x10) (
        ((h4).ldSl i1 (0 + 3)).bind fun x11 =>
        ((slBytes h4 x11)).bind fun x12 =>
        ((h4).ldSl i3 (0 + 3)).bind fun x13 =>
        ((slBytes h4 x13)).bind fun x14 =>
        kR (strEq x12 x14) h4) (
        kR false h4)) (
      kR false h4)) (
    kR false h4)
theorem g21_p0_eq {R : Type} (t0_0 : Int) (t0_1 : Bool) (t0_2 : Int) (t0_3 : Sl) (t1_0 : Int) (t1_1 : Bool) (t1_2 : Int) (t1_3 : Sl) (H : Heap) (K : Ex → Fr → Heap → Option R) : ev Try.prog E21 loopLim Try.f21.ntmps kp21 c21_0 [(0, (V.agg [(V.i .u32 t0_0), (V.b t0_1), (V.i .u8 t0_2), (V.sl t0_3)])), (1, (V.agg [(V.i .u32 t1_0), (V.b t1_1), (V.i .u8 t1_2), (V.sl t1_3)]))] H K = g21_p0 R t0_0 t0_1 t0_2 t0_3 t1_0 t1_1 t1_2 t1_3 H (fun t4 H => K .ret [(4, (V.b t4))] H) := by kernel_rfl
theorem g21_p0_lin {R S : Type} {k : S → Option R} {t0_0 : Int} {t0_1 : Bool} {t0_2 : Int} {t0_3 : Sl} {t1_0 : Int} {t1_1 : Bool} {t1_2 : Int} {t1_3 : Sl} {H : Heap} {fkR : Bool → Heap → Option R} {gkR : Bool → Heap → Option S} (hkR : ∀ t4 H, fkR t4 H = (gkR t4 H).bind k) : g21_p0 R t0_0 t0_1 t0_2 t0_3 t1_0 t1_1 t1_2 t1_3 H fkR = (g21_p0 S t0_0 t0_1 t0_2 t0_3 t1_0 t1_1 t1_2 t1_3 H gkR).bind k := by
  delta g21_p0; exact (
    alo_lin fun i1 h2 =>
    alo_lin fun i3 h4 =>
    bl fun x5 =>
    bl fun x6 =>
    sl_lin (
      bl fun x7 =>
      bl fun x8 =>
      sl_lin (
        bl fun x9 =>
        bl fun x10 =>
        sl_lin (
          bl fun x11 =>
          bl fun x12 =>
          bl fun x13 =>
          bl fun x14 =>
          hkR _ _) (
          hkR _ _)) (
        hkR _ _)) (
      hkR _ _))
noncomputable def g21_r : T21 := fun R t0_0 t0_1 t0_2 t0_3 t1_0 t1_1 t1_2 t1_3 H K =>
  g21_p0 R t0_0 t0_1 t0_2 t0_3 t1_0 t1_1 t1_2 t1_3 H (fun t4 H =>
    K t4 H)
theorem g21_r_lin : Lin21 (g21_r) := by
  constructor
  intro R S k t0_0 t0_1 t0_2 t0_3 t1_0 t1_1 t1_2 t1_3 H f g h
  exact g21_p0_lin (fun t4 H =>
    h _ _)
theorem g21_fn {R : Type} (t0_0 : Int) (t0_1 : Bool) (t0_2 : Int) (t0_3 : Sl) (t1_0 : Int) (t1_1 : Bool) (t1_2 : Int) (t1_3 : Sl) (H : Heap) (K : V → Heap → Option R) : evFn Try.prog E21 loopLim Try.f21 kp21 [(V.agg [(V.i .u32 t0_0), (V.b t0_1), (V.i .u8 t0_2), (V.sl t0_3)]), (V.agg [(V.i .u32 t1_0), (V.b t1_1), (V.i .u8 t1_2), (V.sl t1_3)])] H K = g21_r R t0_0 t0_1 t0_2 t0_3 t1_0 t1_1 t1_2 t1_3 H (fun r0 H => K (V.b r0) H) := by
  have h0 : ∀ (t4 : Bool) (H : Heap), kFn Try.prog Try.f21.results.toList K .ret [(4, (V.b t4))] H =
      K (V.b t4) H := by intros; kernel_rfl
  have e0 := evFn_code2 (P := Try.prog) (c := c21_0) (E := E21) (lr := loopLim) (kp := kp21) (fn := Try.f21) (args := [(V.agg [(V.i .u32 t0_0), (V.b t0_1), (V.i .u8 t0_2), (V.sl t0_3)]), (V.agg [(V.i .u32 t1_0), (V.b t1_1), (V.i .u8 t1_2), (V.sl t1_3)])]) H K (by kernel_rfl) (Nat.le_of_ble_eq_true (by kernel_rfl)) (by kernel_rfl)
  have e1 : ev Try.prog E21 loopLim Try.f21.ntmps kp21 c21_0 (argFr 0 [(V.agg [(V.i .u32 t0_0), (V.b t0_1), (V.i .u8 t0_2), (V.sl t0_3)]), (V.agg [(V.i .u32 t1_0), (V.b t1_1), (V.i .u8 t1_2), (V.sl t1_3)])]) H (kFn Try.prog Try.f21.results.toList K) = ev Try.prog E21 loopLim Try.f21.ntmps kp21 c21_0 [(0, (V.agg [(V.i .u32 t0_0), (V.b t0_1), (V.i .u8 t0_2), (V.sl t0_3)])), (1, (V.agg [(V.i .u32 t1_0), (V.b t1_1), (V.i .u8 t1_2), (V.sl t1_3)]))] H (kFn Try.prog Try.f21.results.toList K) := by kernel_rfl
  refine (e0.trans e1).trans ?_
  delta g21_r
  exact (g21_p0_eq t0_0 t0_1 t0_2 t0_3 t1_0 t1_1 t1_2 t1_3 H (kFn Try.prog Try.f21.results.toList K)).trans (congrArg (g21_p0 R t0_0 t0_1 t0_2 t0_3 t1_0 t1_1 t1_2 t1_3 H) (funext fun t4 => funext fun H => h0 t4 H))
theorem g21_ok : FunOK Try.prog 21 (w21 (g21_r)) := by
  refine (runF_ok (E21_good) mixed lim_ok Try.func21 (by kernel_rfl) kp21).of_le fun R args H K r hk => ?_
  unfold w21 at hk
  split at hk
  · exact (g21_fn _ _ _ _ _ _ _ _ H K).trans hk
  · cases hk
def kp7 : Nat → Option (List Nat) := kpOf [(0, [0, 1, 2]), (1, [0, 1, 2, 20]), (2, [6]), (3, [0, 1, 2, 7, 8]), (4, [0, 1, 2, 7, 8, 34]), (5, [6]), (6, [0, 1, 2, 7, 8, 9]), (7, [0, 1, 2, 7, 8, 9, 54]), (8, [6]), (9, [0, 1, 2, 7, 9, 78]), (10, [6]), (11, [0, 1, 2, 7, 9, 10]), (12, [0, 1, 2, 7, 9, 10, 11]), (13, [0, 1, 2, 7, 9, 10, 11, 81]), (14, [0, 1, 2, 7, 9, 10, 11]), (15, [0, 1, 2, 7, 9, 10, 11, 12]), (16, [0, 1, 2, 7, 9, 10, 11, 12, 13]), (17, [0, 1, 2, 7, 9, 10, 11, 12, 13, 136]), (18, [6]), (19, [0, 1, 2, 7, 9, 10, 11, 12, 13]), (20, [0, 1, 2, 7, 9, 10, 11, 12, 13, 14, 15]), (21, [0, 1, 2, 7, 9, 10, 11, 12, 13, 14, 15, 16, 17]), (22, [0, 1, 2, 7, 9, 10, 11, 175]), (23, [6]), (24, [6]), (100000, [1, 10]), (100001, [0, 1, 2, 7, 9, 10, 11]), (200000, [0, 1, 2, 7, 9, 10, 11]), (200001, [0, 1, 2, 7, 9, 10, 11]), (300000, [6]), (400020, [0, 1, 2]), (400034, [0, 1, 2, 7, 8]), (400054, [0, 1, 2, 7, 8, 9]), (400078, [0, 1, 2, 7, 9]), (400081, [0, 1, 2, 7, 9, 10, 11]), (400136, [0, 1, 2, 7, 9, 10, 11, 12, 13]), (400175, [0, 1, 2, 7, 9, 10, 11])]
def E7 (a9 : T9) (a18 : T18) (a19 : T19) (a20 : T20) (a21 : T21) : FEnv := [(9, w9 a9), (18, w18 a18), (19, w19 a19), (20, w20 a20), (21, w21 a21)]
theorem E7_good {a9 : T9} {a18 : T18} {a19 : T19} {a20 : T20} {a21 : T21} (oa9 : FunOK Try.prog 9 (w9 a9)) (oa18 : FunOK Try.prog 18 (w18 a18)) (oa19 : FunOK Try.prog 19 (w19 a19)) (oa20 : FunOK Try.prog 20 (w20 a20)) (oa21 : FunOK Try.prog 21 (w21 a21)) (la9 : Lin9 a9) (la18 : Lin18 a18) (la19 : Lin19 a19) (la20 : Lin20 a20) (la21 : Lin21 a21) : EnvGood Try.prog (E7 a9 a18 a19 a20 a21) := ((((((EnvGood.nil _).cons oa21 (w21_lin la21)).cons oa20 (w20_lin la20)).cons oa19 (w19_lin la19)).cons oa18 (w18_lin la18)).cons oa9 (w9_lin la9))
theorem E7_lin {a9 : T9} {a18 : T18} {a19 : T19} {a20 : T20} {a21 : T21} (la9 : Lin9 a9) (la18 : Lin18 a18) (la19 : Lin19 a19) (la20 : Lin20 a20) (la21 : Lin21 a21) : EnvLin (E7 a9 a18 a19 a20 a21) := by
  intro g F h
  simp only [E7, List.mem_cons, List.not_mem_nil, or_false] at h
  rcases h with h | h | h | h | h
  · cases h; exact w9_lin la9
  · cases h; exact w18_lin la18
  · cases h; exact w19_lin la19
  · cases h; exact w20_lin la20
  · cases h; exact w21_lin la21
noncomputable def b7 : Code := Try.f7.body.getD .skip
noncomputable def c7_0 : Code := (.seq (codeAt [1, 1, 1, 1, 1, 1, 1, 1, 0, 1, 0, 0, 0, 0] b7) (.seq (.cond (.tmp 81) .skip (.exit 0)) (.seq (.block 1 (.seq (codeAt [1, 1, 1, 1, 1, 1, 1, 1, 0, 1, 0, 0, 1, 0, 0, 0] b7) (.seq (codeAt [1, 1, 1, 1, 1, 1, 1, 1, 0, 1, 0, 0, 1, 0, 0, 1, 0] b7) (.seq (codeAt [1, 1, 1, 1, 1, 1, 1, 1, 0, 1, 0, 0, 1, 0, 0, 1, 1, 0, 0] b7) (.seq (.cond (.tmp 136) (.seq (codeAt [1, 1, 1, 1, 1, 1, 1, 1, 0, 1, 0, 0, 1, 0, 0, 1, 1, 0, 1, 0, 0] b7) .ret) .skip) (.seq (codeAt [1, 1, 1, 1, 1, 1, 1, 1, 0, 1, 0, 0, 1, 0, 0, 1, 1, 1, 0] b7) (.seq (codeAt [1, 1, 1, 1, 1, 1, 1, 1, 0, 1, 0, 0, 1, 0, 0, 1, 1, 1, 1, 0] b7) (.seq (codeAt [1, 1, 1, 1, 1, 1, 1, 1, 0, 1, 0, 0, 1, 0, 0, 1, 1, 1, 1, 1, 0] b7) (.seq (codeAt [1, 1, 1, 1, 1, 1, 1, 1, 0, 1, 0, 0, 1, 0, 0, 1, 1, 1, 1, 1, 1, 0] b7) (.cond (.tmp 175) (.seq (codeAt [1, 1, 1, 1, 1, 1, 1, 1, 0, 1, 0, 0, 1, 0, 0, 1, 1, 1, 1, 1, 1, 1, 0, 0] b7) .ret) .skip)))))))))) (codeAt [1, 1, 1, 1, 1, 1, 1, 1, 0, 1, 0, 0, 1, 1] b7))))
noncomputable def c7_1 : Code := (.loop c7_0)
noncomputable def c7_2 : Code := (.block 0 c7_1)
noncomputable def c7_3 : Code := (.seq (codeAt [1, 1, 1, 1, 1, 1, 1, 1, 1, 0] b7) .ret)
noncomputable def c7_4 : Code := (.seq c7_2 c7_3)
noncomputable def c7_5 : Code := (.seq (codeAt [0] b7) (.seq (codeAt [1, 0, 0] b7) (.seq (.cond (.tmp 20) (.seq (codeAt [1, 0, 1, 0, 0] b7) .ret) .skip) (.seq (codeAt [1, 1, 0] b7) (.seq (codeAt [1, 1, 1, 0, 0] b7) (.seq (.cond (.tmp 34) (.seq (codeAt [1, 1, 1, 0, 1, 0, 0] b7) .ret) .skip) (.seq (codeAt [1, 1, 1, 1, 0] b7) (.seq (codeAt [1, 1, 1, 1, 1, 0, 0] b7) (.seq (.cond (.tmp 54) (.seq (codeAt [1, 1, 1, 1, 1, 0, 1, 0, 0] b7) .ret) .skip) (.seq (codeAt [1, 1, 1, 1, 1, 1, 0, 0] b7) (.seq (.cond (.tmp 78) (.seq (codeAt [1, 1, 1, 1, 1, 1, 0, 1, 0, 0] b7) .ret) .skip) (.seq (codeAt [1, 1, 1, 1, 1, 1, 1, 0] b7) (.seq (codeAt [1, 1, 1, 1, 1, 1, 1, 1, 0, 0] b7) c7_4)))))))))))))
noncomputable def g7_p0 (a9 : T9) (a18 : T18) (a19 : T19) (a20 : T20) (a21 : T21) (R : Type) (t0 : Int) (t1 : Sl) (t2 : Int) (H : Heap) (kN : Int → Sl → Int → Sl → Int → Int → Int → Heap → Option R) (kR : Bool → Heap → Option R) : Option R :=
  sel (decide (((t1.len : Nat) : Int) > (5000 : Int))) (
    a9 R H fun x87 h88 =>
    kR x87 h88) (
    a18 R t0 t1 t2 H fun x89 x90 h91 =>
    sel (decide (t2 < (1 : Int))) (
      sel (x90 == (1 : Int)) (
        sel (((x89.len : Nat) : Int) == (0 : Int)) (
          a9 R h91 fun x92 h93 =>
          kR x92 h93) (
          kR false h91)) (
        kR false h91)) (
      sel (decide (t2 > (256 : Int))) (
        sel (x90 == (1 : Int)) (
          sel (((x89.len : Nat) : Int) == (0 : Int)) (
            a9 R h91 fun x94 h95 =>
            kR x94 h95) (
            kR false h91)) (
          kR false h91)) (
        if t2 = 0 then (
          none)
        else (
          sel (decide ((if (IntKind.wrap .i64 (Int.tdiv (IntKind.wrap .i64 ((IntKind.wrap .i64 (((t1.len : Nat) : Int) + t2)) - (1 : Int))) t2)) > (1 : Int) then (IntKind.wrap .i64 (Int.tdiv (IntKind.wrap .i64 ((IntKind.wrap .i64 (((t1.len : Nat) : Int) + t2)) - (1 : Int))) t2)) else (1 : Int)) > (16 : Int))) (
            sel (x90 == (3 : Int)) (
              sel (((x89.len : Nat) : Int) == (0 : Int)) (
                a9 R h91 fun x96 h97 =>
                kR x96 h97) (
                kR false h91)) (
              kR false h91)) (
            sel (x90 != (0 : Int)) (
              kR false h91) (
              sel (((x89.len : Nat) : Int) != (if (IntKind.wrap .i64 (Int.tdiv (IntKind.wrap .i64 ((IntKind.wrap .i64 (((t1.len : Nat) : Int) + t2)) - (1 : Int))) t2)) > (1 : Int) then (IntKind.wrap .i64 (Int.tdiv (IntKind.wrap .i64 ((IntKind.wrap .i64 (((t1.len : Nat) : Int) + t2)) - (1 : Int))) t2)) else (1 : Int))) (
                kR false h91) (
                capK x89.cap fun c98 =>
                sel (((c98 : Nat) : Int) != (if (IntKind.wrap .i64 (Int.tdiv (IntKind.wrap .i64 ((IntKind.wrap .i64 (((t1.len : Nat) : Int) + t2)) - (1 : Int))) t2)) > (1 : Int) then (IntKind.wrap .i64 (Int.tdiv (IntKind.wrap .i64 ((IntKind.wrap .i64 (((t1.len : Nat) : Int) + t2)) - (1 : Int))) t2)) else (1 : Int))) (
                  kR false h91) (
                  kN t0 t1 t2 x89 (if (IntKind.wrap .i64 (Int.tdiv (IntKind.wrap .i64 ((IntKind.wrap .i64 (((t1.len : Nat) : Int) + t2)) - (1 : Int))) t2)) > (1 : Int) then (IntKind.wrap .i64 (Int.tdiv (IntKind.wrap .i64 ((IntKind.wrap .i64 (((t1.len : Nat) : Int) + t2)) - (1 : Int))) t2)) else (1 : Int)) (0 : Int) (0 : Int) h91))))))))
theorem g7_p0_eq (a9 : T9) (a18 : T18) (a19 : T19) (a20 : T20) (a21 : T21) {R : Type} (c2 : Code) (t0 : Int) (t1 : Sl) (t2 : Int) (H : Heap) (K : Ex → Fr → Heap → Option R) : ev Try.prog (E7 a9 a18 a19 a20 a21) loopLim Try.f7.ntmps kp7 (.seq (codeAt [0] b7) (.seq (codeAt [1, 0, 0] b7) (.seq (.cond (.tmp 20) (.seq (codeAt [1, 0, 1, 0, 0] b7) .ret) .skip) (.seq (codeAt [1, 1, 0] b7) (.seq (codeAt [1, 1, 1, 0, 0] b7) (.seq (.cond (.tmp 34) (.seq (codeAt [1, 1, 1, 0, 1, 0, 0] b7) .ret) .skip) (.seq (codeAt [1, 1, 1, 1, 0] b7) (.seq (codeAt [1, 1, 1, 1, 1, 0, 0] b7) (.seq (.cond (.tmp 54) (.seq (codeAt [1, 1, 1, 1, 1, 0, 1, 0, 0] b7) .ret) .skip) (.seq (codeAt [1, 1, 1, 1, 1, 1, 0, 0] b7) (.seq (.cond (.tmp 78) (.seq (codeAt [1, 1, 1, 1, 1, 1, 0, 1, 0, 0] b7) .ret) .skip) (.seq (codeAt [1, 1, 1, 1, 1, 1, 1, 0] b7) (.seq (codeAt [1, 1, 1, 1, 1, 1, 1, 1, 0, 0] b7) c2))))))))))))) [(0, (V.i .u32 t0)), (1, (V.sl t1)), (2, (V.i .i64 t2))] H K = g7_p0 a9 a18 a19 a20 a21 R t0 t1 t2 H (fun t0 t1 t2 t7 t9 t10 t11 H => ev Try.prog (E7 a9 a18 a19 a20 a21) loopLim Try.f7.ntmps kp7 c2 [(0, (V.i .u32 t0)), (1, (V.sl t1)), (2, (V.i .i64 t2)), (7, (V.sl t7)), (9, (V.i .i64 t9)), (10, (V.i .i64 t10)), (11, (V.i .i64 t11))] H K) (fun t6 H => K .ret [(6, (V.b t6))] H) := by kernel_rfl
theorem g7_p0_lin {a9 : T9} {a18 : T18} {a19 : T19} {a20 : T20} {a21 : T21} (la9 : Lin9 a9) (la18 : Lin18 a18) (la19 : Lin19 a19) (la20 : Lin20 a20) (la21 : Lin21 a21) {R S : Type} {k : S → Option R} {t0 : Int} {t1 : Sl} {t2 : Int} {H : Heap} {fkN : Int → Sl → Int → Sl → Int → Int → Int → Heap → Option R} {gkN : Int → Sl → Int → Sl → Int → Int → Int → Heap → Option S} {fkR : Bool → Heap → Option R} {gkR : Bool → Heap → Option S} (hkN : ∀ t0 t1 t2 t7 t9 t10 t11 H, fkN t0 t1 t2 t7 t9 t10 t11 H = (gkN t0 t1 t2 t7 t9 t10 t11 H).bind k) (hkR : ∀ t6 H, fkR t6 H = (gkR t6 H).bind k) : g7_p0 a9 a18 a19 a20 a21 R t0 t1 t2 H fkN fkR = (g7_p0 a9 a18 a19 a20 a21 S t0 t1 t2 H gkN gkR).bind k := by
  delta g7_p0; exact (
    sl_lin (
      la9.l fun x87 h88 =>
      hkR _ _) (
      la18.l fun x89 x90 h91 =>
      sl_lin (
        sl_lin (
          sl_lin (
            la9.l fun x92 h93 =>
            hkR _ _) (
            hkR _ _)) (
          hkR _ _)) (
        sl_lin (
          sl_lin (
            sl_lin (
              la9.l fun x94 h95 =>
              hkR _ _) (
              hkR _ _)) (
            hkR _ _)) (
          il (
            rfl) (
            sl_lin (
              sl_lin (
                sl_lin (
                  la9.l fun x96 h97 =>
                  hkR _ _) (
                  hkR _ _)) (
                hkR _ _)) (
              sl_lin (
                hkR _ _) (
                sl_lin (
                  hkR _ _) (
                  capK_lin fun c98 =>
                  sl_lin (
                    hkR _ _) (
                    hkN _ _ _ _ _ _ _ _)))))))))
noncomputable def g7_p1 (a9 : T9) (a18 : T18) (a19 : T19) (a20 : T20) (a21 : T21) (R : Type) (t0 : Int) (t1 : Sl) (t2 : Int) (t7 : Sl) (t9 : Int) (t10 : Int) (t11 : Int) (H : Heap) (kN : Int → Sl → Int → Sl → Int → Int → Int → Heap → Option R) (kE0 : Sl → Int → Heap → Option R) (kR : Bool → Heap → Option R) : Option R :=
  sel (decide (t11 < t9)) (
    if 0 ≤ t11 ∧ t11 < ((t7.len : Nat) : Int) then (
      (t7.a).bind fun q99 =>
      ((H).ldI .u32 q99.1 ((q99.2 + Int.toNat t11 * 4) + 0)).bind fun x100 =>
      ((H).ldB q99.1 ((q99.2 + Int.toNat t11 * 4) + 1)).bind fun x101 =>
      ((H).ldI .u8 q99.1 ((q99.2 + Int.toNat t11 * 4) + 2)).bind fun x102 =>
      ((H).ldSl q99.1 ((q99.2 + Int.toNat t11 * 4) + 3)).bind fun x103 =>
      alo H (.cells [(V.i .u32 (0 : Int)), (V.b false), (V.i .u8 (0 : Int)), (V.sl (Sl.mk none 0 (.ex 0)))] 45 false) fun i104 h105 =>
      ((h105).sts i104 0 [(V.i .u32 x100), (V.b x101), (V.i .u8 x102), (V.sl x103)]).bind fun h106 =>
      ((h106).ldI .u32 i104 (0 + 0)).bind fun x107 =>
      sel (x107 != t0) (
        kR false h106) (
        ((h106).ldB i104 (0 + 1)).bind fun x108 =>
        sel (!(x108 == (t11 == (0 : Int)))) (
          kR false h106) (
          ((h106).ldI .u8 i104 (0 + 2)).bind fun x109 =>
          sel ((IntKind.wrap .i64 x109) != (IntKind.wrap .i64 ((IntKind.wrap .i64 (t9 - (1 : Int))) - t11))) (
            kR false h106) (
            ((h106).ldSl i104 (0 + 3)).bind fun x110 =>
            ((slBytes h106 x110)).bind fun x111 =>
            slOf 1 t1 (some t10) (some (IntKind.wrap .i64 (t10 + (if (IntKind.wrap .i64 (((t1.len : Nat) : Int) - t10)) < t2 then (IntKind.wrap .i64 (((t1.len : Nat) : Int) - t10)) else t2)))) none fun s112 =>
            ((slBytes h106 s112)).bind fun x113 =>
            sel (!strEq x111 x113) (
              kR false h106) (
              ((h106).ldSl i104 (0 + 3)).bind fun x114 =>
              capK x114.cap fun c115 =>
              ((h106).ldSl i104 (0 + 3)).bind fun x116 =>
              sel (((c115 : Nat) : Int) != ((x116.len : Nat) : Int)) (
                kR false h106) (
                ((h106).ldI .u32 i104 (0 + 0)).bind fun x117 =>
                ((h106).ldB i104 (0 + 1)).bind fun x118 =>
                ((h106).ldI .u8 i104 (0 + 2)).bind fun x119 =>
                ((h106).ldSl i104 (0 + 3)).bind fun x120 =>
                a19 R x117 x118 x119 x120 h106 fun x121 x122 h123 =>
                a20 R x121 h123 fun x124 x125 x126 x127 x128 h129 =>
                alo h129 (.cells [(V.i .u32 (0 : Int)), (V.b false), (V.i .u8 (0 : Int)), (V.sl (Sl.mk none 0 (.ex 0)))] 45 false) fun i130 h131 =>
                ((h131).sts i130 0 [(V.i .u32 x124), (V.b x125), (V.i .u8 x126), (V.sl x127)]).bind fun h132 =>
                sel (x122 != (0 : Int)) (
                  kR false h132) (
                  sel (x128 != (0 : Int)) (
                    kR false h132) (
                    sel (((x121.len : Nat) : Int) != (IntKind.wrap .i64 ((5 : Int) + (if (IntKind.wrap .i64 (((t1.len : Nat) : Int) - t10)) < t2 then (IntKind.wrap .i64 (((t1.len : Nat) : Int) - t10)) else t2)))) (
                      kR false h132) (
                      capK x121.cap fun c133 =>
                      sel (((c133 : Nat) : Int) != ((x121.len : Nat) : Int)) (
                        kR false h132) (
                        ((h132).ldI .u32 i104 (0 + 0)).bind fun x134 =>
                        ((h132).ldB i104 (0 + 1)).bind fun x135 =>
                        ((h132).ldI .u8 i104 (0 + 2)).bind fun x136 =>
                        ((h132).ldSl i104 (0 + 3)).bind fun x137 =>
                        ((h132).ldI .u32 i130 (0 + 0)).bind fun x138 =>
                        ((h132).ldB i130 (0 + 1)).bind fun x139 =>
                        ((h132).ldI .u8 i130 (0 + 2)).bind fun x140 =>
                        ((h132).ldSl i130 (0 + 3)).bind fun x141 =>
                        a21 R x134 x135 x136 x137 x138 x139 x140 x141 h132 fun x142 h143 =>
                        sel (!x142) (
                          kR false h143) (
                          kN t0 t1 t2 t7 t9 (IntKind.wrap .i64 (t10 + (if (IntKind.wrap .i64 (((t1.len : Nat) : Int) - t10)) < t2 then (IntKind.wrap .i64 (((t1.len : Nat) : Int) - t10)) else t2))) (IntKind.wrap .i64 (t11 + (1 : Int))) h143)))))))))))
    else (
      none)) (
    kE0 t1 t10 H)
theorem g7_p1_eq (a9 : T9) (a18 : T18) (a19 : T19) (a20 : T20) (a21 : T21) (la9 : Lin9 a9) (la18 : Lin18 a18) (la19 : Lin19 a19) (la20 : Lin20 a20) (la21 : Lin21 a21) {R : Type} (t0 : Int) (t1 : Sl) (t2 : Int) (t7 : Sl) (t9 : Int) (t10 : Int) (t11 : Int) (H : Heap) (K : Ex → Fr → Heap → Option R) : ev Try.prog (E7 a9 a18 a19 a20 a21) loopLim Try.f7.ntmps kp7 c7_0 [(0, (V.i .u32 t0)), (1, (V.sl t1)), (2, (V.i .i64 t2)), (7, (V.sl t7)), (9, (V.i .i64 t9)), (10, (V.i .i64 t10)), (11, (V.i .i64 t11))] H K = g7_p1 a9 a18 a19 a20 a21 R t0 t1 t2 t7 t9 t10 t11 H (fun t0 t1 t2 t7 t9 t10 t11 H => K .normal [(0, (V.i .u32 t0)), (1, (V.sl t1)), (2, (V.i .i64 t2)), (7, (V.sl t7)), (9, (V.i .i64 t9)), (10, (V.i .i64 t10)), (11, (V.i .i64 t11))] H) (fun t1 t10 H => K (.exit 0) [(1, (V.sl t1)), (10, (V.i .i64 t10))] H) (fun t6 H => K .ret [(6, (V.b t6))] H) := by kernel_rfl
theorem g7_p1_lin {a9 : T9} {a18 : T18} {a19 : T19} {a20 : T20} {a21 : T21} (la9 : Lin9 a9) (la18 : Lin18 a18) (la19 : Lin19 a19) (la20 : Lin20 a20) (la21 : Lin21 a21) {R S : Type} {k : S → Option R} {t0 : Int} {t1 : Sl} {t2 : Int} {t7 : Sl} {t9 : Int} {t10 : Int} {t11 : Int} {H : Heap} {fkN : Int → Sl → Int → Sl → Int → Int → Int → Heap → Option R} {gkN : Int → Sl → Int → Sl → Int → Int → Int → Heap → Option S} {fkE0 : Sl → Int → Heap → Option R} {gkE0 : Sl → Int → Heap → Option S} {fkR : Bool → Heap → Option R} {gkR : Bool → Heap → Option S} (hkN : ∀ t0 t1 t2 t7 t9 t10 t11 H, fkN t0 t1 t2 t7 t9 t10 t11 H = (gkN t0 t1 t2 t7 t9 t10 t11 H).bind k) (hkE0 : ∀ t1 t10 H, fkE0 t1 t10 H = (gkE0 t1 t10 H).bind k) (hkR : ∀ t6 H, fkR t6 H = (gkR t6 H).bind k) : g7_p1 a9 a18 a19 a20 a21 R t0 t1 t2 t7 t9 t10 t11 H fkN fkE0 fkR = (g7_p1 a9 a18 a19 a20 a21 S t0 t1 t2 t7 t9 t10 t11 H gkN gkE0 gkR).bind k := by
  delta g7_p1; exact (
    sl_lin (
      il (
        bl fun q99 =>
        bl fun x100 =>
        bl fun x101 =>
        bl fun x102 =>
        bl fun x103 =>
        alo_lin fun i104 h105 =>
        bl fun h106 =>
        bl fun x107 =>
        sl_lin (
          hkR _ _) (
          bl fun x108 =>
          sl_lin (
            hkR _ _) (
            bl fun x109 =>
            sl_lin (
              hkR _ _) (
              bl fun x110 =>
              bl fun x111 =>
              slOf_lin fun s112 =>
              bl fun x113 =>
              sl_lin (
                hkR _ _) (
                bl fun x114 =>
                capK_lin fun c115 =>
                bl fun x116 =>
                sl_lin (
                  hkR _ _) (
                  bl fun x117 =>
                  bl fun x118 =>
                  bl fun x119 =>
                  bl fun x120 =>
                  la19.l fun x121 x122 h123 =>
                  la20.l fun x124 x125 x126 x127 x128 h129 =>
                  alo_lin fun i130 h131 =>
                  bl fun h132 =>
                  sl_lin (
                    hkR _ _) (
                    sl_lin (
                      hkR _ _) (
                      sl_lin (
                        hkR _ _) (
                        capK_lin fun c133 =>
                        sl_lin (
                          hkR _ _) (
                          bl fun x134 =>
                          bl fun x135 =>
                          bl fun x136 =>
                          bl fun x137 =>
                          bl fun x138 =>
                          bl fun x139 =>
                          bl fun x140 =>
                          bl fun x141 =>
                          la21.l fun x142 h143 =>
                          sl_lin (
                            hkR _ _) (
                            hkN _ _ _ _ _ _ _ _))))))))))) (
        rfl)) (
      hkE0 _ _ _))
abbrev g7_p2_S := Int × Sl × Int × Sl × Int × Int × Int
abbrev g7_p2_O := Sum (Sl × Int) (Bool)
def g7_p2_es (s : g7_p2_S) : Fr := [(0, (V.i .u32 s.1)), (1, (V.sl s.2.1)), (2, (V.i .i64 s.2.2.1)), (7, (V.sl s.2.2.2.1)), (9, (V.i .i64 s.2.2.2.2.1)), (10, (V.i .i64 s.2.2.2.2.2.1)), (11, (V.i .i64 s.2.2.2.2.2.2))]
def g7_p2_er : g7_p2_O → Ex × Fr
  | (.inl r) => ((.exit 0), [(1, (V.sl r.1)), (10, (V.i .i64 r.2))])
  | (.inr r) => (.ret, [(6, (V.b r))])
noncomputable def g7_p2_b (a9 : T9) (a18 : T18) (a19 : T19) (a20 : T20) (a21 : T21) (s : g7_p2_S) (H : Heap) : Option (Rd g7_p2_S g7_p2_O × Heap) :=
  g7_p1 a9 a18 a19 a20 a21 _ s.1 s.2.1 s.2.2.1 s.2.2.2.1 s.2.2.2.2.1 s.2.2.2.2.2.1 s.2.2.2.2.2.2 H (fun t0 t1 t2 t7 t9 t10 t11 H => some (.go (t0, t1, t2, t7, t9, t10, t11), H)) (fun t1 t10 H => some (.up (.inl (t1, t10)), H)) (fun t6 H => some (.up (.inr t6), H))
noncomputable def g7_p2 (a9 : T9) (a18 : T18) (a19 : T19) (a20 : T20) (a21 : T21) (R : Type) (t0 : Int) (t1 : Sl) (t2 : Int) (t7 : Sl) (t9 : Int) (t10 : Int) (t11 : Int) (H : Heap) (kE0 : Sl → Int → Heap → Option R) (kR : Bool → Heap → Option R) : Option R :=
  (tlim (g7_p2_b a9 a18 a19 a20 a21) (t0, t1, t2, t7, t9, t10, t11) H).bind fun p => cas p.1 (fun r => kE0 r.1 r.2 p.2) (fun r0 => kR r0 p.2)
theorem g7_p2_lin {a9 : T9} {a18 : T18} {a19 : T19} {a20 : T20} {a21 : T21} (la9 : Lin9 a9) (la18 : Lin18 a18) (la19 : Lin19 a19) (la20 : Lin20 a20) (la21 : Lin21 a21) {R S : Type} {k : S → Option R} {t0 : Int} {t1 : Sl} {t2 : Int} {t7 : Sl} {t9 : Int} {t10 : Int} {t11 : Int} {H : Heap} {fkE0 : Sl → Int → Heap → Option R} {gkE0 : Sl → Int → Heap → Option S} {fkR : Bool → Heap → Option R} {gkR : Bool → Heap → Option S} (hkE0 : ∀ t1 t10 H, fkE0 t1 t10 H = (gkE0 t1 t10 H).bind k) (hkR : ∀ t6 H, fkR t6 H = (gkR t6 H).bind k) : g7_p2 a9 a18 a19 a20 a21 R t0 t1 t2 t7 t9 t10 t11 H fkE0 fkR = (g7_p2 a9 a18 a19 a20 a21 S t0 t1 t2 t7 t9 t10 t11 H gkE0 gkR).bind k := by
  exact bl fun p => cas_lin (fun _ => hkE0 _ _ _) (fun _ => hkR _ _)
theorem g7_p2_eq (a9 : T9) (a18 : T18) (a19 : T19) (a20 : T20) (a21 : T21) (la9 : Lin9 a9) (la18 : Lin18 a18) (la19 : Lin19 a19) (la20 : Lin20 a20) (la21 : Lin21 a21) {R : Type} (t0 : Int) (t1 : Sl) (t2 : Int) (t7 : Sl) (t9 : Int) (t10 : Int) (t11 : Int) (H : Heap) (K : Ex → Fr → Heap → Option R) : ev Try.prog (E7 a9 a18 a19 a20 a21) loopLim Try.f7.ntmps kp7 c7_1 [(0, (V.i .u32 t0)), (1, (V.sl t1)), (2, (V.i .i64 t2)), (7, (V.sl t7)), (9, (V.i .i64 t9)), (10, (V.i .i64 t10)), (11, (V.i .i64 t11))] H K = g7_p2 a9 a18 a19 a20 a21 R t0 t1 t2 t7 t9 t10 t11 H (fun t1 t10 H => K (.exit 0) [(1, (V.sl t1)), (10, (V.i .i64 t10))] H) (fun t6 H => K .ret [(6, (V.b t6))] H) := by
  show ev Try.prog (E7 a9 a18 a19 a20 a21) loopLim Try.f7.ntmps kp7 (.loop c7_0) [(0, (V.i .u32 t0)), (1, (V.sl t1)), (2, (V.i .i64 t2)), (7, (V.sl t7)), (9, (V.i .i64 t9)), (10, (V.i .i64 t10)), (11, (V.i .i64 t11))] H K = _
  delta g7_p2
  refine (ev_tlim (b := g7_p2_b a9 a18 a19 a20 a21) (es := g7_p2_es) (er := g7_p2_er) (by rintro (r | r) <;> exact nofun) (fun s H => ?_) (t0, t1, t2, t7, t9, t10, t11) H K).trans (bc fun p => by rcases p with ⟨(r | r), H⟩ <;> rfl)
  exact (g7_p1_eq a9 a18 a19 a20 a21 la9 la18 la19 la20 la21 s.1 s.2.1 s.2.2.1 s.2.2.2.1 s.2.2.2.2.1 s.2.2.2.2.2.1 s.2.2.2.2.2.2 H ret3).trans (g7_p1_lin la9 la18 la19 la20 la21 (fun _ _ _ _ _ _ _ _ => rfl) (fun _ _ _ => rfl) (fun _ _ => rfl))
noncomputable def g7_p3 (a9 : T9) (a18 : T18) (a19 : T19) (a20 : T20) (a21 : T21) (R : Type) (t0 : Int) (t1 : Sl) (t2 : Int) (t7 : Sl) (t9 : Int) (t10 : Int) (t11 : Int) (H : Heap) (kN : Sl → Int → Heap → Option R) (kR : Bool → Heap → Option R) : Option R :=
  g7_p2 a9 a18 a19 a20 a21 R t0 t1 t2 t7 t9 t10 t11 H (fun t1 t10 H => kN t1 t10 H) (fun t6 H => kR t6 H)
theorem g7_p3_lin {a9 : T9} {a18 : T18} {a19 : T19} {a20 : T20} {a21 : T21} (la9 : Lin9 a9) (la18 : Lin18 a18) (la19 : Lin19 a19) (la20 : Lin20 a20) (la21 : Lin21 a21) {R S : Type} {k : S → Option R} {t0 : Int} {t1 : Sl} {t2 : Int} {t7 : Sl} {t9 : Int} {t10 : Int} {t11 : Int} {H : Heap} {fkN : Sl → Int → Heap → Option R} {gkN : Sl → Int → Heap → Option S} {fkR : Bool → Heap → Option R} {gkR : Bool → Heap → Option S} (hkN : ∀ t1 t10 H, fkN t1 t10 H = (gkN t1 t10 H).bind k) (hkR : ∀ t6 H, fkR t6 H = (gkR t6 H).bind k) : g7_p3 a9 a18 a19 a20 a21 R t0 t1 t2 t7 t9 t10 t11 H fkN fkR = (g7_p3 a9 a18 a19 a20 a21 S t0 t1 t2 t7 t9 t10 t11 H gkN gkR).bind k := by
  exact g7_p2_lin la9 la18 la19 la20 la21 (fun _ _ _ => hkN _ _ _) (fun _ _ => hkR _ _)
theorem g7_p3_eq (a9 : T9) (a18 : T18) (a19 : T19) (a20 : T20) (a21 : T21) (la9 : Lin9 a9) (la18 : Lin18 a18) (la19 : Lin19 a19) (la20 : Lin20 a20) (la21 : Lin21 a21) {R : Type} (t0 : Int) (t1 : Sl) (t2 : Int) (t7 : Sl) (t9 : Int) (t10 : Int) (t11 : Int) (H : Heap) (K : Ex → Fr → Heap → Option R) : ev Try.prog (E7 a9 a18 a19 a20 a21) loopLim Try.f7.ntmps kp7 c7_2 [(0, (V.i .u32 t0)), (1, (V.sl t1)), (2, (V.i .i64 t2)), (7, (V.sl t7)), (9, (V.i .i64 t9)), (10, (V.i .i64 t10)), (11, (V.i .i64 t11))] H K = g7_p3 a9 a18 a19 a20 a21 R t0 t1 t2 t7 t9 t10 t11 H (fun t1 t10 H => K .normal [(1, (V.sl t1)), (10, (V.i .i64 t10))] H) (fun t6 H => K .ret [(6, (V.b t6))] H) := by
  show ev Try.prog (E7 a9 a18 a19 a20 a21) loopLim Try.f7.ntmps kp7 (.block 0 c7_1) [(0, (V.i .u32 t0)), (1, (V.sl t1)), (2, (V.i .i64 t2)), (7, (V.sl t7)), (9, (V.i .i64 t9)), (10, (V.i .i64 t10)), (11, (V.i .i64 t11))] H K = _
  rw [ev_block]
  delta g7_p3
  exact (g7_p2_eq a9 a18 a19 a20 a21 la9 la18 la19 la20 la21 t0 t1 t2 t7 t9 t10 t11 H (kBlock kp7 0 K))
noncomputable def g7_p4 (a9 : T9) (a18 : T18) (a19 : T19) (a20 : T20) (a21 : T21) (R : Type) (t1 : Sl) (t10 : Int) (H : Heap) (kR : Bool → Heap → Option R) : Option R :=
  sel (t10 == ((t1.len : Nat) : Int)) (
    a9 R H fun x144 h145 =>
    kR x144 h145) (
    kR false H)
theorem g7_p4_eq (a9 : T9) (a18 : T18) (a19 : T19) (a20 : T20) (a21 : T21) (la9 : Lin9 a9) (la18 : Lin18 a18) (la19 : Lin19 a19) (la20 : Lin20 a20) (la21 : Lin21 a21) {R : Type} (t1 : Sl) (t10 : Int) (H : Heap) (K : Ex → Fr → Heap → Option R) : ev Try.prog (E7 a9 a18 a19 a20 a21) loopLim Try.f7.ntmps kp7 c7_3 [(1, (V.sl t1)), (10, (V.i .i64 t10))] H K = g7_p4 a9 a18 a19 a20 a21 R t1 t10 H (fun t6 H => K .ret [(6, (V.b t6))] H) := by kernel_rfl
theorem g7_p4_lin {a9 : T9} {a18 : T18} {a19 : T19} {a20 : T20} {a21 : T21} (la9 : Lin9 a9) (la18 : Lin18 a18) (la19 : Lin19 a19) (la20 : Lin20 a20) (la21 : Lin21 a21) {R S : Type} {k : S → Option R} {t1 : Sl} {t10 : Int} {H : Heap} {fkR : Bool → Heap → Option R} {gkR : Bool → Heap → Option S} (hkR : ∀ t6 H, fkR t6 H = (gkR t6 H).bind k) : g7_p4 a9 a18 a19 a20 a21 R t1 t10 H fkR = (g7_p4 a9 a18 a19 a20 a21 S t1 t10 H gkR).bind k := by
  delta g7_p4; exact (
    sl_lin (
      la9.l fun x144 h145 =>
      hkR _ _) (
      hkR _ _))
noncomputable def g7_p5 (a9 : T9) (a18 : T18) (a19 : T19) (a20 : T20) (a21 : T21) (R : Type) (t0 : Int) (t1 : Sl) (t2 : Int) (t7 : Sl) (t9 : Int) (t10 : Int) (t11 : Int) (H : Heap) (kR : Bool → Heap → Option R) : Option R :=
  g7_p3 a9 a18 a19 a20 a21 R t0 t1 t2 t7 t9 t10 t11 H (fun t1 t10 H => g7_p4 a9 a18 a19 a20 a21 R t1 t10 H (fun t6 H => kR t6 H)) (fun t6 H => kR t6 H)
theorem g7_p5_lin {a9 : T9} {a18 : T18} {a19 : T19} {a20 : T20} {a21 : T21} (la9 : Lin9 a9) (la18 : Lin18 a18) (la19 : Lin19 a19) (la20 : Lin20 a20) (la21 : Lin21 a21) {R S : Type} {k : S → Option R} {t0 : Int} {t1 : Sl} {t2 : Int} {t7 : Sl} {t9 : Int} {t10 : Int} {t11 : Int} {H : Heap} {fkR : Bool → Heap → Option R} {gkR : Bool → Heap → Option S} (hkR : ∀ t6 H, fkR t6 H = (gkR t6 H).bind k) : g7_p5 a9 a18 a19 a20 a21 R t0 t1 t2 t7 t9 t10 t11 H fkR = (g7_p5 a9 a18 a19 a20 a21 S t0 t1 t2 t7 t9 t10 t11 H gkR).bind k := by
  exact g7_p3_lin la9 la18 la19 la20 la21 (fun _ _ _ => g7_p4_lin la9 la18 la19 la20 la21 (fun _ _ => hkR _ _)) (fun _ _ => hkR _ _)
theorem g7_p5_eq (a9 : T9) (a18 : T18) (a19 : T19) (a20 : T20) (a21 : T21) (la9 : Lin9 a9) (la18 : Lin18 a18) (la19 : Lin19 a19) (la20 : Lin20 a20) (la21 : Lin21 a21) {R : Type} (t0 : Int) (t1 : Sl) (t2 : Int) (t7 : Sl) (t9 : Int) (t10 : Int) (t11 : Int) (H : Heap) (K : Ex → Fr → Heap → Option R) : ev Try.prog (E7 a9 a18 a19 a20 a21) loopLim Try.f7.ntmps kp7 c7_4 [(0, (V.i .u32 t0)), (1, (V.sl t1)), (2, (V.i .i64 t2)), (7, (V.sl t7)), (9, (V.i .i64 t9)), (10, (V.i .i64 t10)), (11, (V.i .i64 t11))] H K = g7_p5 a9 a18 a19 a20 a21 R t0 t1 t2 t7 t9 t10 t11 H (fun t6 H => K .ret [(6, (V.b t6))] H) := by
  show ev Try.prog (E7 a9 a18 a19 a20 a21) loopLim Try.f7.ntmps kp7 (.seq c7_2 c7_3) [(0, (V.i .u32 t0)), (1, (V.sl t1)), (2, (V.i .i64 t2)), (7, (V.sl t7)), (9, (V.i .i64 t9)), (10, (V.i .i64 t10)), (11, (V.i .i64 t11))] H K = _
  rw [ev_seq]
  delta g7_p5
  exact (g7_p3_eq a9 a18 a19 a20 a21 la9 la18 la19 la20 la21 t0 t1 t2 t7 t9 t10 t11 H (kSeq (fun fr H => ev Try.prog (E7 a9 a18 a19 a20 a21) loopLim Try.f7.ntmps kp7 c7_3 fr H K) K)).trans (congr (congrArg (g7_p3 a9 a18 a19 a20 a21 R t0 t1 t2 t7 t9 t10 t11 H) (funext fun t1 => funext fun t10 => funext fun H => (kSeq_n _ _ _ _).trans (g7_p4_eq a9 a18 a19 a20 a21 la9 la18 la19 la20 la21 t1 t10 H K))) rfl)
noncomputable def g7_p6 (a9 : T9) (a18 : T18) (a19 : T19) (a20 : T20) (a21 : T21) (R : Type) (t0 : Int) (t1 : Sl) (t2 : Int) (H : Heap) (kR : Bool → Heap → Option R) : Option R :=
  g7_p0 a9 a18 a19 a20 a21 R t0 t1 t2 H (fun t0 t1 t2 t7 t9 t10 t11 H => g7_p5 a9 a18 a19 a20 a21 R t0 t1 t2 t7 t9 t10 t11 H (fun t6 H => kR t6 H)) (fun t6 H => kR t6 H)
theorem g7_p6_lin {a9 : T9} {a18 : T18} {a19 : T19} {a20 : T20} {a21 : T21} (la9 : Lin9 a9) (la18 : Lin18 a18) (la19 : Lin19 a19) (la20 : Lin20 a20) (la21 : Lin21 a21) {R S : Type} {k : S → Option R} {t0 : Int} {t1 : Sl} {t2 : Int} {H : Heap} {fkR : Bool → Heap → Option R} {gkR : Bool → Heap → Option S} (hkR : ∀ t6 H, fkR t6 H = (gkR t6 H).bind k) : g7_p6 a9 a18 a19 a20 a21 R t0 t1 t2 H fkR = (g7_p6 a9 a18 a19 a20 a21 S t0 t1 t2 H gkR).bind k := by
  exact g7_p0_lin la9 la18 la19 la20 la21 (fun _ _ _ _ _ _ _ _ => g7_p5_lin la9 la18 la19 la20 la21 (fun _ _ => hkR _ _)) (fun _ _ => hkR _ _)
theorem g7_p6_eq (a9 : T9) (a18 : T18) (a19 : T19) (a20 : T20) (a21 : T21) (la9 : Lin9 a9) (la18 : Lin18 a18) (la19 : Lin19 a19) (la20 : Lin20 a20) (la21 : Lin21 a21) {R : Type} (t0 : Int) (t1 : Sl) (t2 : Int) (H : Heap) (K : Ex → Fr → Heap → Option R) : ev Try.prog (E7 a9 a18 a19 a20 a21) loopLim Try.f7.ntmps kp7 c7_5 [(0, (V.i .u32 t0)), (1, (V.sl t1)), (2, (V.i .i64 t2))] H K = g7_p6 a9 a18 a19 a20 a21 R t0 t1 t2 H (fun t6 H => K .ret [(6, (V.b t6))] H) := by
  show ev Try.prog (E7 a9 a18 a19 a20 a21) loopLim Try.f7.ntmps kp7 (.seq (codeAt [0] b7) (.seq (codeAt [1, 0, 0] b7) (.seq (.cond (.tmp 20) (.seq (codeAt [1, 0, 1, 0, 0] b7) .ret) .skip) (.seq (codeAt [1, 1, 0] b7) (.seq (codeAt [1, 1, 1, 0, 0] b7) (.seq (.cond (.tmp 34) (.seq (codeAt [1, 1, 1, 0, 1, 0, 0] b7) .ret) .skip) (.seq (codeAt [1, 1, 1, 1, 0] b7) (.seq (codeAt [1, 1, 1, 1, 1, 0, 0] b7) (.seq (.cond (.tmp 54) (.seq (codeAt [1, 1, 1, 1, 1, 0, 1, 0, 0] b7) .ret) .skip) (.seq (codeAt [1, 1, 1, 1, 1, 1, 0, 0] b7) (.seq (.cond (.tmp 78) (.seq (codeAt [1, 1, 1, 1, 1, 1, 0, 1, 0, 0] b7) .ret) .skip) (.seq (codeAt [1, 1, 1, 1, 1, 1, 1, 0] b7) (.seq (codeAt [1, 1, 1, 1, 1, 1, 1, 1, 0, 0] b7) c7_4))))))))))))) [(0, (V.i .u32 t0)), (1, (V.sl t1)), (2, (V.i .i64 t2))] H K = _
  delta g7_p6
  exact (g7_p0_eq a9 a18 a19 a20 a21 _ t0 t1 t2 H K).trans (congr (congrArg (g7_p0 a9 a18 a19 a20 a21 R t0 t1 t2 H) (funext fun t0 => funext fun t1 => funext fun t2 => funext fun t7 => funext fun t9 => funext fun t10 => funext fun t11 => funext fun H => g7_p5_eq a9 a18 a19 a20 a21 la9 la18 la19 la20 la21 t0 t1 t2 t7 t9 t10 t11 H K)) rfl)
noncomputable def g7_r (a9 : T9) (a18 : T18) (a19 : T19) (a20 : T20) (a21 : T21) : T7 := fun R t0 t1 t2 H K =>
  g7_p6 a9 a18 a19 a20 a21 R t0 t1 t2 H (fun t6 H =>
    K t6 H)
theorem g7_r_lin {a9 : T9} {a18 : T18} {a19 : T19} {a20 : T20} {a21 : T21} (la9 : Lin9 a9) (la18 : Lin18 a18) (la19 : Lin19 a19) (la20 : Lin20 a20) (la21 : Lin21 a21) : Lin7 (g7_r a9 a18 a19 a20 a21) := by
  constructor
  intro R S k t0 t1 t2 H f g h
  exact g7_p6_lin la9 la18 la19 la20 la21 (fun t6 H =>
    h _ _)
theorem g7_fn (a9 : T9) (a18 : T18) (a19 : T19) (a20 : T20) (a21 : T21) (la9 : Lin9 a9) (la18 : Lin18 a18) (la19 : Lin19 a19) (la20 : Lin20 a20) (la21 : Lin21 a21) {R : Type} (t0 : Int) (t1 : Sl) (t2 : Int) (H : Heap) (K : V → Heap → Option R) : evFn Try.prog (E7 a9 a18 a19 a20 a21) loopLim Try.f7 kp7 [(V.i .u32 t0), (V.sl t1), (V.i .i64 t2)] H K = g7_r a9 a18 a19 a20 a21 R t0 t1 t2 H (fun r0 H => K (V.b r0) H) := by
  have h0 : ∀ (t6 : Bool) (H : Heap), kFn Try.prog Try.f7.results.toList K .ret [(6, (V.b t6))] H =
      K (V.b t6) H := by intros; kernel_rfl
  have e0 := evFn_code2 (P := Try.prog) (c := c7_5) (E := (E7 a9 a18 a19 a20 a21)) (lr := loopLim) (kp := kp7) (fn := Try.f7) (args := [(V.i .u32 t0), (V.sl t1), (V.i .i64 t2)]) H K (by kernel_rfl) (Nat.le_of_ble_eq_true (by kernel_rfl)) (by kernel_rfl)
  have e1 : ev Try.prog (E7 a9 a18 a19 a20 a21) loopLim Try.f7.ntmps kp7 c7_5 (argFr 0 [(V.i .u32 t0), (V.sl t1), (V.i .i64 t2)]) H (kFn Try.prog Try.f7.results.toList K) = ev Try.prog (E7 a9 a18 a19 a20 a21) loopLim Try.f7.ntmps kp7 c7_5 [(0, (V.i .u32 t0)), (1, (V.sl t1)), (2, (V.i .i64 t2))] H (kFn Try.prog Try.f7.results.toList K) := by kernel_rfl
  refine (e0.trans e1).trans ?_
  delta g7_r
  exact (g7_p6_eq a9 a18 a19 a20 a21 la9 la18 la19 la20 la21 t0 t1 t2 H (kFn Try.prog Try.f7.results.toList K)).trans (congrArg (g7_p6 a9 a18 a19 a20 a21 R t0 t1 t2 H) (funext fun t6 => funext fun H => h0 t6 H))
theorem g7_ok {a9 : T9} {a18 : T18} {a19 : T19} {a20 : T20} {a21 : T21} (oa9 : FunOK Try.prog 9 (w9 a9)) (oa18 : FunOK Try.prog 18 (w18 a18)) (oa19 : FunOK Try.prog 19 (w19 a19)) (oa20 : FunOK Try.prog 20 (w20 a20)) (oa21 : FunOK Try.prog 21 (w21 a21)) (la9 : Lin9 a9) (la18 : Lin18 a18) (la19 : Lin19 a19) (la20 : Lin20 a20) (la21 : Lin21 a21) : FunOK Try.prog 7 (w7 (g7_r a9 a18 a19 a20 a21)) := by
  refine (runF_ok (E7_good oa9 oa18 oa19 oa20 oa21 la9 la18 la19 la20 la21) mixed lim_ok Try.func7 (by kernel_rfl) kp7).of_le fun R args H K r hk => ?_
  unfold w7 at hk
  split at hk
  · exact (g7_fn a9 a18 a19 a20 a21 la9 la18 la19 la20 la21 _ _ _ H K).trans hk
  · cases hk
end Go.Proofs.Ytobebcfkddimkaa

