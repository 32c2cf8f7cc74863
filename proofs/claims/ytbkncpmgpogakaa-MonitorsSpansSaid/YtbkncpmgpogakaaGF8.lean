/- Printed: functions as the machine runs them. -/
import Derived.Test.YtbkncpmgpogakaaGT
namespace Go.Proofs.Ytbkncpmgpogakaa
open Go AM Go.RowKit
set_option linter.unusedVariables false
def kp8 : Nat → Option (List Nat) := kpOf [(0, [1]), (1, [1, 3]), (2, [1, 3, 4]), (3, [1, 3, 4, 13]), (4, [1, 3, 4]), (5, [1, 3, 4]), (6, [1, 3, 5, 6]), (7, [1, 3, 5, 6, 7, 8]), (8, [3, 5, 6, 7, 8, 9, 10]), (9, [5, 6, 7, 8, 9, 10, 88]), (10, [2]), (11, [6, 8, 10, 107]), (12, [2]), (13, [2]), (100000, [1, 3]), (100001, [1, 3, 4]), (200000, [1, 3, 4]), (200001, [1, 3, 4]), (300000, [2]), (400013, [1, 3, 4]), (400088, [5, 6, 7, 8, 9, 10]), (400107, [6, 8, 10])]
def E8 (a16 : T16) (a15 : T15) (a17 : T17) (a9 : T9) : FEnv := [(16, w16 a16), (15, w15 a15), (17, w17 a17), (9, w9 a9)]
theorem E8_good {a16 : T16} {a15 : T15} {a17 : T17} {a9 : T9} (oa16 : FunOK Try.prog 16 (w16 a16)) (oa15 : FunOK Try.prog 15 (w15 a15)) (oa17 : FunOK Try.prog 17 (w17 a17)) (oa9 : FunOK Try.prog 9 (w9 a9)) (la16 : Lin16 a16) (la15 : Lin15 a15) (la17 : Lin17 a17) (la9 : Lin9 a9) : EnvGood Try.prog (E8 a16 a15 a17 a9) := (((((EnvGood.nil _).cons oa9 (w9_lin la9)).cons oa17 (w17_lin la17)).cons oa15 (w15_lin la15)).cons oa16 (w16_lin la16))
theorem E8_lin {a16 : T16} {a15 : T15} {a17 : T17} {a9 : T9} (la16 : Lin16 a16) (la15 : Lin15 a15) (la17 : Lin17 a17) (la9 : Lin9 a9) : EnvLin (E8 a16 a15 a17 a9) := by
  intro g F h
  simp only [E8, List.mem_cons, List.not_mem_nil, or_false] at h
  rcases h with h | h | h | h
  · cases h; exact w16_lin la16
  · cases h; exact w15_lin la15
  · cases h; exact w17_lin la17
  · cases h; exact w9_lin la9
noncomputable def b8 : Code := Try.f8.body.getD .skip
noncomputable def c8_0 : Code := (.seq (codeAt [1, 1, 0, 1, 0, 0, 0, 0] b8) (.seq (.cond (.tmp 13) .skip (.exit 0)) (.seq (.block 1 (codeAt [1, 1, 0, 1, 0, 0, 1, 0, 0] b8)) (codeAt [1, 1, 0, 1, 0, 0, 1, 1] b8))))
noncomputable def c8_1 : Code := (.loop c8_0)
noncomputable def c8_2 : Code := (.block 0 c8_1)
noncomputable def c8_3 : Code := (.seq (.cond (.tmp 88) (.seq (codeAt [1, 1, 1, 1, 1, 1, 0, 1, 0, 0] b8) .ret) .skip) (.seq (codeAt [1, 1, 1, 1, 1, 1, 1, 0, 0] b8) (.seq (.cond (.tmp 107) (.seq (codeAt [1, 1, 1, 1, 1, 1, 1, 0, 1, 0, 0] b8) .ret) .skip) (.seq (codeAt [1, 1, 1, 1, 1, 1, 1, 1, 0] b8) .ret))))
noncomputable def c8_4 : Code := (.seq (codeAt [1, 1, 1, 0] b8) (.seq (codeAt [1, 1, 1, 1, 0] b8) (.seq (codeAt [1, 1, 1, 1, 1, 0] b8) (.seq (codeAt [1, 1, 1, 1, 1, 1, 0, 0] b8) c8_3))))
noncomputable def c8_5 : Code := (.seq c8_2 c8_4)
noncomputable def c8_6 : Code := (.seq (codeAt [0] b8) (.seq (codeAt [1, 0] b8) (.seq (codeAt [1, 1, 0, 0] b8) c8_5)))
noncomputable def g8_p0 (a16 : T16) (a15 : T15) (a17 : T17) (a9 : T9) (R : Type) (t0_0 : Int) (t0_1 : Int) (t0_2 : Int) (t0_3 : Int) (H : Heap) (kN : Nat → Nat → Nat → Nat → Int → Heap → Option R) : Option R :=
  alo H (.cells [(V.i .i64 t0_0), (V.i .i64 t0_1), (V.i .i64 t0_2), (V.i .i64 t0_3)] 42 false) fun i8 h9 =>
  alo h9 (.cells [(V.b false), (V.b false), (V.b false), (V.b false)] 43 false) fun i10 h11 =>
  ((h11).sts i10 0 [(V.b false), (V.b false), (V.b false), (V.b false)]).bind fun h12 =>
  kN i8 0 i10 0 (0 : Int) h12
theorem g8_p0_eq (a16 : T16) (a15 : T15) (a17 : T17) (a9 : T9) {R : Type} (c2 : Code) (t0_0 : Int) (t0_1 : Int) (t0_2 : Int) (t0_3 : Int) (H : Heap) (K : Ex → Fr → Heap → Option R) : ev Try.prog (E8 a16 a15 a17 a9) loopLim Try.f8.ntmps kp8 (.seq (codeAt [0] b8) (.seq (codeAt [1, 0] b8) (.seq (codeAt [1, 1, 0, 0] b8) c2))) [(0, (V.agg [(V.i .i64 t0_0), (V.i .i64 t0_1), (V.i .i64 t0_2), (V.i .i64 t0_3)]))] H K = g8_p0 a16 a15 a17 a9 R t0_0 t0_1 t0_2 t0_3 H (fun t1_0 t1_1 t3_0 t3_1 t4 H => ev Try.prog (E8 a16 a15 a17 a9) loopLim Try.f8.ntmps kp8 c2 [(1, (V.p (some (t1_0, t1_1)))), (3, (V.p (some (t3_0, t3_1)))), (4, (V.i .i64 t4))] H K) := by kernel_rfl
theorem g8_p0_lin {a16 : T16} {a15 : T15} {a17 : T17} {a9 : T9} (la16 : Lin16 a16) (la15 : Lin15 a15) (la17 : Lin17 a17) (la9 : Lin9 a9) {R S : Type} {k : S → Option R} {t0_0 : Int} {t0_1 : Int} {t0_2 : Int} {t0_3 : Int} {H : Heap} {fkN : Nat → Nat → Nat → Nat → Int → Heap → Option R} {gkN : Nat → Nat → Nat → Nat → Int → Heap → Option S} (hkN : ∀ t1_0 t1_1 t3_0 t3_1 t4 H, fkN t1_0 t1_1 t3_0 t3_1 t4 H = (gkN t1_0 t1_1 t3_0 t3_1 t4 H).bind k) : g8_p0 a16 a15 a17 a9 R t0_0 t0_1 t0_2 t0_3 H fkN = (g8_p0 a16 a15 a17 a9 S t0_0 t0_1 t0_2 t0_3 H gkN).bind k := by
  delta g8_p0; exact (
    alo_lin fun i8 h9 =>
    alo_lin fun i10 h11 =>
    bl fun h12 =>
    hkN _ _ _ _ _ _)
noncomputable def g8_p1 (a16 : T16) (a15 : T15) (a17 : T17) (a9 : T9) (R : Type) (t1_0 : Nat) (t1_1 : Nat) (t3_0 : Nat) (t3_1 : Nat) (t4 : Int) (H : Heap) (kN : Nat → Nat → Nat → Nat → Int → Heap → Option R) (kE0 : Nat → Nat → Nat → Nat → Heap → Option R) : Option R :=
  sel (decide (t4 < (4 : Int))) (
    if 0 ≤ t4 ∧ t4 < ((4 : Nat) : Int) then (
      ((H).ldI .i64 t1_0 (t1_1 + Int.toNat t4 * 1)).bind fun x13 =>
      sel (decide (x13 ≥ (1 : Int))) (
        if 0 ≤ t4 ∧ t4 < ((4 : Nat) : Int) then (
          ((H).ldI .i64 t1_0 (t1_1 + Int.toNat t4 * 1)).bind fun x14 =>
          if 0 ≤ t4 ∧ t4 < ((4 : Nat) : Int) then (
            ((H).st t3_0 (t3_1 + Int.toNat t4 * 1) (V.b (decide (x14 ≤ (1048576 : Int))))).bind fun h16 =>
            kN t1_0 t1_1 t3_0 t3_1 (IntKind.wrap .i64 (t4 + (1 : Int))) h16)
          else (
            none))
        else (
          none)) (
        if 0 ≤ t4 ∧ t4 < ((4 : Nat) : Int) then (
          ((H).st t3_0 (t3_1 + Int.toNat t4 * 1) (V.b false)).bind fun h18 =>
          kN t1_0 t1_1 t3_0 t3_1 (IntKind.wrap .i64 (t4 + (1 : Int))) h18)
        else (
          none)))
    else (
      none)) (
    kE0 t1_0 t1_1 t3_0 t3_1 H)
theorem g8_p1_eq (a16 : T16) (a15 : T15) (a17 : T17) (a9 : T9) (la16 : Lin16 a16) (la15 : Lin15 a15) (la17 : Lin17 a17) (la9 : Lin9 a9) {R : Type} (t1_0 : Nat) (t1_1 : Nat) (t3_0 : Nat) (t3_1 : Nat) (t4 : Int) (H : Heap) (K : Ex → Fr → Heap → Option R) : ev Try.prog (E8 a16 a15 a17 a9) loopLim Try.f8.ntmps kp8 c8_0 [(1, (V.p (some (t1_0, t1_1)))), (3, (V.p (some (t3_0, t3_1)))), (4, (V.i .i64 t4))] H K = g8_p1 a16 a15 a17 a9 R t1_0 t1_1 t3_0 t3_1 t4 H (fun t1_0 t1_1 t3_0 t3_1 t4 H => K .normal [(1, (V.p (some (t1_0, t1_1)))), (3, (V.p (some (t3_0, t3_1)))), (4, (V.i .i64 t4))] H) (fun t1_0 t1_1 t3_0 t3_1 H => K (.exit 0) [(1, (V.p (some (t1_0, t1_1)))), (3, (V.p (some (t3_0, t3_1))))] H) := by kernel_rfl
theorem g8_p1_lin {a16 : T16} {a15 : T15} {a17 : T17} {a9 : T9} (la16 : Lin16 a16) (la15 : Lin15 a15) (la17 : Lin17 a17) (la9 : Lin9 a9) {R S : Type} {k : S → Option R} {t1_0 : Nat} {t1_1 : Nat} {t3_0 : Nat} {t3_1 : Nat} {t4 : Int} {H : Heap} {fkN : Nat → Nat → Nat → Nat → Int → Heap → Option R} {gkN : Nat → Nat → Nat → Nat → Int → Heap → Option S} {fkE0 : Nat → Nat → Nat → Nat → Heap → Option R} {gkE0 : Nat → Nat → Nat → Nat → Heap → Option S} (hkN : ∀ t1_0 t1_1 t3_0 t3_1 t4 H, fkN t1_0 t1_1 t3_0 t3_1 t4 H = (gkN t1_0 t1_1 t3_0 t3_1 t4 H).bind k) (hkE0 : ∀ t1_0 t1_1 t3_0 t3_1 H, fkE0 t1_0 t1_1 t3_0 t3_1 H = (gkE0 t1_0 t1_1 t3_0 t3_1 H).bind k) : g8_p1 a16 a15 a17 a9 R t1_0 t1_1 t3_0 t3_1 t4 H fkN fkE0 = (g8_p1 a16 a15 a17 a9 S t1_0 t1_1 t3_0 t3_1 t4 H gkN gkE0).bind k := by
  delta g8_p1; exact (
    sl_lin (
      il (
        bl fun x13 =>
        sl_lin (
          il (
            bl fun x14 =>
            il (
              bl fun h16 =>
              hkN _ _ _ _ _ _) (
              rfl)) (
            rfl)) (
          il (
            bl fun h18 =>
            hkN _ _ _ _ _ _) (
            rfl))) (
        rfl)) (
      hkE0 _ _ _ _ _))
abbrev g8_p2_S := Nat × Nat × Nat × Nat × Int
abbrev g8_p2_O := Nat × Nat × Nat × Nat
def g8_p2_es (s : g8_p2_S) : Fr := [(1, (V.p (some (s.1, s.2.1)))), (3, (V.p (some (s.2.2.1, s.2.2.2.1)))), (4, (V.i .i64 s.2.2.2.2))]
def g8_p2_er (r : g8_p2_O) : Ex × Fr := ((.exit 0), [(1, (V.p (some (r.1, r.2.1)))), (3, (V.p (some (r.2.2.1, r.2.2.2))))])
noncomputable def g8_p2_b (a16 : T16) (a15 : T15) (a17 : T17) (a9 : T9) (s : g8_p2_S) (H : Heap) : Option (Rd g8_p2_S g8_p2_O × Heap) :=
  g8_p1 a16 a15 a17 a9 _ s.1 s.2.1 s.2.2.1 s.2.2.2.1 s.2.2.2.2 H (fun t1_0 t1_1 t3_0 t3_1 t4 H => some (.go (t1_0, t1_1, t3_0, t3_1, t4), H)) (fun t1_0 t1_1 t3_0 t3_1 H => some (.up (t1_0, t1_1, t3_0, t3_1), H))
noncomputable def g8_p2 (a16 : T16) (a15 : T15) (a17 : T17) (a9 : T9) (R : Type) (t1_0 : Nat) (t1_1 : Nat) (t3_0 : Nat) (t3_1 : Nat) (t4 : Int) (H : Heap) (kE0 : Nat → Nat → Nat → Nat → Heap → Option R) : Option R :=
  (tlim (g8_p2_b a16 a15 a17 a9) (t1_0, t1_1, t3_0, t3_1, t4) H).bind fun p => kE0 p.1.1 p.1.2.1 p.1.2.2.1 p.1.2.2.2 p.2
theorem g8_p2_lin {a16 : T16} {a15 : T15} {a17 : T17} {a9 : T9} (la16 : Lin16 a16) (la15 : Lin15 a15) (la17 : Lin17 a17) (la9 : Lin9 a9) {R S : Type} {k : S → Option R} {t1_0 : Nat} {t1_1 : Nat} {t3_0 : Nat} {t3_1 : Nat} {t4 : Int} {H : Heap} {fkE0 : Nat → Nat → Nat → Nat → Heap → Option R} {gkE0 : Nat → Nat → Nat → Nat → Heap → Option S} (hkE0 : ∀ t1_0 t1_1 t3_0 t3_1 H, fkE0 t1_0 t1_1 t3_0 t3_1 H = (gkE0 t1_0 t1_1 t3_0 t3_1 H).bind k) : g8_p2 a16 a15 a17 a9 R t1_0 t1_1 t3_0 t3_1 t4 H fkE0 = (g8_p2 a16 a15 a17 a9 S t1_0 t1_1 t3_0 t3_1 t4 H gkE0).bind k := by
  exact bl fun p => hkE0 _ _ _ _ _
theorem g8_p2_eq (a16 : T16) (a15 : T15) (a17 : T17) (a9 : T9) (la16 : Lin16 a16) (la15 : Lin15 a15) (la17 : Lin17 a17) (la9 : Lin9 a9) {R : Type} (t1_0 : Nat) (t1_1 : Nat) (t3_0 : Nat) (t3_1 : Nat) (t4 : Int) (H : Heap) (K : Ex → Fr → Heap → Option R) : ev Try.prog (E8 a16 a15 a17 a9) loopLim Try.f8.ntmps kp8 c8_1 [(1, (V.p (some (t1_0, t1_1)))), (3, (V.p (some (t3_0, t3_1)))), (4, (V.i .i64 t4))] H K = g8_p2 a16 a15 a17 a9 R t1_0 t1_1 t3_0 t3_1 t4 H (fun t1_0 t1_1 t3_0 t3_1 H => K (.exit 0) [(1, (V.p (some (t1_0, t1_1)))), (3, (V.p (some (t3_0, t3_1))))] H) := by
  show ev Try.prog (E8 a16 a15 a17 a9) loopLim Try.f8.ntmps kp8 (.loop c8_0) [(1, (V.p (some (t1_0, t1_1)))), (3, (V.p (some (t3_0, t3_1)))), (4, (V.i .i64 t4))] H K = _
  delta g8_p2
  refine (ev_tlim (b := g8_p2_b a16 a15 a17 a9) (es := g8_p2_es) (er := g8_p2_er) (by intro r; exact nofun) (fun s H => ?_) (t1_0, t1_1, t3_0, t3_1, t4) H K).trans (bc fun p => rfl)
  exact (g8_p1_eq a16 a15 a17 a9 la16 la15 la17 la9 s.1 s.2.1 s.2.2.1 s.2.2.2.1 s.2.2.2.2 H ret3).trans (g8_p1_lin la16 la15 la17 la9 (fun _ _ _ _ _ _ => rfl) (fun _ _ _ _ _ => rfl))
noncomputable def g8_p3 (a16 : T16) (a15 : T15) (a17 : T17) (a9 : T9) (R : Type) (t1_0 : Nat) (t1_1 : Nat) (t3_0 : Nat) (t3_1 : Nat) (t4 : Int) (H : Heap) (kN : Nat → Nat → Nat → Nat → Heap → Option R) : Option R :=
  g8_p2 a16 a15 a17 a9 R t1_0 t1_1 t3_0 t3_1 t4 H (fun t1_0 t1_1 t3_0 t3_1 H => kN t1_0 t1_1 t3_0 t3_1 H)
theorem g8_p3_lin {a16 : T16} {a15 : T15} {a17 : T17} {a9 : T9} (la16 : Lin16 a16) (la15 : Lin15 a15) (la17 : Lin17 a17) (la9 : Lin9 a9) {R S : Type} {k : S → Option R} {t1_0 : Nat} {t1_1 : Nat} {t3_0 : Nat} {t3_1 : Nat} {t4 : Int} {H : Heap} {fkN : Nat → Nat → Nat → Nat → Heap → Option R} {gkN : Nat → Nat → Nat → Nat → Heap → Option S} (hkN : ∀ t1_0 t1_1 t3_0 t3_1 H, fkN t1_0 t1_1 t3_0 t3_1 H = (gkN t1_0 t1_1 t3_0 t3_1 H).bind k) : g8_p3 a16 a15 a17 a9 R t1_0 t1_1 t3_0 t3_1 t4 H fkN = (g8_p3 a16 a15 a17 a9 S t1_0 t1_1 t3_0 t3_1 t4 H gkN).bind k := by
  exact g8_p2_lin la16 la15 la17 la9 (fun _ _ _ _ _ => hkN _ _ _ _ _)
theorem g8_p3_eq (a16 : T16) (a15 : T15) (a17 : T17) (a9 : T9) (la16 : Lin16 a16) (la15 : Lin15 a15) (la17 : Lin17 a17) (la9 : Lin9 a9) {R : Type} (t1_0 : Nat) (t1_1 : Nat) (t3_0 : Nat) (t3_1 : Nat) (t4 : Int) (H : Heap) (K : Ex → Fr → Heap → Option R) : ev Try.prog (E8 a16 a15 a17 a9) loopLim Try.f8.ntmps kp8 c8_2 [(1, (V.p (some (t1_0, t1_1)))), (3, (V.p (some (t3_0, t3_1)))), (4, (V.i .i64 t4))] H K = g8_p3 a16 a15 a17 a9 R t1_0 t1_1 t3_0 t3_1 t4 H (fun t1_0 t1_1 t3_0 t3_1 H => K .normal [(1, (V.p (some (t1_0, t1_1)))), (3, (V.p (some (t3_0, t3_1))))] H) := by
  show ev Try.prog (E8 a16 a15 a17 a9) loopLim Try.f8.ntmps kp8 (.block 0 c8_1) [(1, (V.p (some (t1_0, t1_1)))), (3, (V.p (some (t3_0, t3_1)))), (4, (V.i .i64 t4))] H K = _
  rw [ev_block]
  delta g8_p3
  exact (g8_p2_eq a16 a15 a17 a9 la16 la15 la17 la9 t1_0 t1_1 t3_0 t3_1 t4 H (kBlock kp8 0 K))
noncomputable def g8_p4 (a16 : T16) (a15 : T15) (a17 : T17) (a9 : T9) (R : Type) (t1_0 : Nat) (t1_1 : Nat) (t3_0 : Nat) (t3_1 : Nat) (H : Heap) (kN : V → Int → V → Int → V → Int → Bool → Heap → Option R) : Option R :=
  ((H).ldI .i64 t1_0 (t1_1 + 0)).bind fun x229 =>
  ((H).ldI .i64 t1_0 (t1_1 + 1)).bind fun x230 =>
  a16 R x229 x230 H fun x231 x232 h233 =>
  if (V.one x231) = true then (
    ((h233).ldI .i64 t1_0 (t1_1 + 0)).bind fun x234 =>
    a15 R x234 h233 fun x235 x236 h237 =>
    if (V.one x235) = true then (
      ((h237).ldI .i64 t1_0 (t1_1 + 0)).bind fun x238 =>
      ((h237).ldI .i64 t1_0 (t1_1 + 1)).bind fun x239 =>
      ((h237).ldI .i64 t1_0 (t1_1 + 2)).bind fun x240 =>
      ((h237).ldI .i64 t1_0 (t1_1 + 3)).bind fun x241 =>
      a17 R x238 x239 x240 x241 h237 fun x242 x243 h244 =>
      if (V.one x242) = true then (
        ((h244).ldB t3_0 (t3_1 + 0)).bind fun x245 =>
        sel x245 (
          ((h244).ldB t3_0 (t3_1 + 1)).bind fun x246 =>
          sel (!((x232 == (0 : Int)) == x246)) (
            kN x231 x232 x235 x236 x242 x243 true h244) (
            ((h244).ldB t3_0 (t3_1 + 0)).bind fun x247 =>
            sel (!((x236 == (0 : Int)) == x247)) (
              kN x231 x232 x235 x236 x242 x243 true h244) (
              ((h244).ldB t3_0 (t3_1 + 0)).bind fun x248 =>
              sel x248 (
                ((h244).ldB t3_0 (t3_1 + 1)).bind fun x249 =>
                sel x249 (
                  ((h244).ldB t3_0 (t3_1 + 2)).bind fun x250 =>
                  sel x250 (
                    ((h244).ldB t3_0 (t3_1 + 3)).bind fun x251 =>
                    kN x231 x232 x235 x236 x242 x243 (!((x243 == (0 : Int)) == x251)) h244) (
                    kN x231 x232 x235 x236 x242 x243 (!((x243 == (0 : Int)) == false)) h244)) (
                  kN x231 x232 x235 x236 x242 x243 (!((x243 == (0 : Int)) == false)) h244)) (
                kN x231 x232 x235 x236 x242 x243 (!((x243 == (0 : Int)) == false)) h244)))) (
          sel (!((x232 == (0 : Int)) == false)) (
            kN x231 x232 x235 x236 x242 x243 true h244) (
            ((h244).ldB t3_0 (t3_1 + 0)).bind fun x252 =>
            sel (!((x236 == (0 : Int)) == x252)) (
              kN x231 x232 x235 x236 x242 x243 true h244) (
              ((h244).ldB t3_0 (t3_1 + 0)).bind fun x253 =>
              sel x253 (
                ((h244).ldB t3_0 (t3_1 + 1)).bind fun x254 =>
                sel x254 (
                  ((h244).ldB t3_0 (t3_1 + 2)).bind fun x255 =>
                  sel x255 (
                    ((h244).ldB t3_0 (t3_1 + 3)).bind fun x256 =>
                    kN x231 x232 x235 x236 x242 x243 (!((x243 == (0 : Int)) == x256)) h244) (
                    kN x231 x232 x235 x236 x242 x243 (!((x243 == (0 : Int)) == false)) h244)) (
                  kN x231 x232 x235 x236 x242 x243 (!((x243 == (0 : Int)) == false)) h244)) (
                kN x231 x232 x235 x236 x242 x243 (!((x243 == (0 : Int)) == false)) h244)))))
      else (
        none))
    else (
      none))
  else (
    none)
theorem g8_p4_eq (a16 : T16) (a15 : T15) (a17 : T17) (a9 : T9) {R : Type} (c2 : Code) (t1_0 : Nat) (t1_1 : Nat) (t3_0 : Nat) (t3_1 : Nat) (H : Heap) (K : Ex → Fr → Heap → Option R) : ev Try.prog (E8 a16 a15 a17 a9) loopLim Try.f8.ntmps kp8 (.seq (codeAt [1, 1, 1, 0] b8) (.seq (codeAt [1, 1, 1, 1, 0] b8) (.seq (codeAt [1, 1, 1, 1, 1, 0] b8) (.seq (codeAt [1, 1, 1, 1, 1, 1, 0, 0] b8) c2)))) [(1, (V.p (some (t1_0, t1_1)))), (3, (V.p (some (t3_0, t3_1))))] H K = g8_p4 a16 a15 a17 a9 R t1_0 t1_1 t3_0 t3_1 H (fun t5 t6 t7 t8 t9 t10 t88 H => ev Try.prog (E8 a16 a15 a17 a9) loopLim Try.f8.ntmps kp8 c2 [(5, t5), (6, (V.i .i64 t6)), (7, t7), (8, (V.i .i64 t8)), (9, t9), (10, (V.i .i64 t10)), (88, (V.b t88))] H K) := by kernel_rfl
theorem g8_p4_lin {a16 : T16} {a15 : T15} {a17 : T17} {a9 : T9} (la16 : Lin16 a16) (la15 : Lin15 a15) (la17 : Lin17 a17) (la9 : Lin9 a9) {R S : Type} {k : S → Option R} {t1_0 : Nat} {t1_1 : Nat} {t3_0 : Nat} {t3_1 : Nat} {H : Heap} {fkN : V → Int → V → Int → V → Int → Bool → Heap → Option R} {gkN : V → Int → V → Int → V → Int → Bool → Heap → Option S} (hkN : ∀ t5 t6 t7 t8 t9 t10 t88 H, fkN t5 t6 t7 t8 t9 t10 t88 H = (gkN t5 t6 t7 t8 t9 t10 t88 H).bind k) : g8_p4 a16 a15 a17 a9 R t1_0 t1_1 t3_0 t3_1 H fkN = (g8_p4 a16 a15 a17 a9 S t1_0 t1_1 t3_0 t3_1 H gkN).bind k := by
  delta g8_p4; exact (
    bl fun x229 =>
    bl fun x230 =>
    la16.l fun x231 x232 h233 =>
    il (
      bl fun x234 =>
      la15.l fun x235 x236 h237 =>
      il (
        bl fun x238 =>
        bl fun x239 =>
        bl fun x240 =>
        bl fun x241 =>
        la17.l fun x242 x243 h244 =>
        il (
          bl fun x245 =>
          sl_lin (
            bl fun x246 =>
            sl_lin (
              hkN _ _ _ _ _ _ _ _) (
              bl fun x247 =>
              sl_lin (
                hkN _ _ _ _ _ _ _ _) (
                bl fun x248 =>
                sl_lin (
                  bl fun x249 =>
                  sl_lin (
                    bl fun x250 =>
                    sl_lin (
                      bl fun x251 =>
                      hkN _ _ _ _ _ _ _ _) (
                      hkN _ _ _ _ _ _ _ _)) (
                    hkN _ _ _ _ _ _ _ _)) (
                  hkN _ _ _ _ _ _ _ _)))) (
            sl_lin (
              hkN _ _ _ _ _ _ _ _) (
              bl fun x252 =>
              sl_lin (
                hkN _ _ _ _ _ _ _ _) (
                bl fun x253 =>
                sl_lin (
                  bl fun x254 =>
                  sl_lin (
                    bl fun x255 =>
                    sl_lin (
                      bl fun x256 =>
                      hkN _ _ _ _ _ _ _ _) (
                      hkN _ _ _ _ _ _ _ _)) (
                    hkN _ _ _ _ _ _ _ _)) (
                  hkN _ _ _ _ _ _ _ _))))) (
          rfl)) (
        rfl)) (
      rfl))
noncomputable def g8_p5 (a16 : T16) (a15 : T15) (a17 : T17) (a9 : T9) (R : Type) (t5 : V) (t6 : Int) (t7 : V) (t8 : Int) (t9 : V) (t10 : Int) (t88 : Bool) (H : Heap) (kR : Bool → Heap → Option R) : Option R :=
  sel t88 (
    kR false H) (
    ((ifNil t5)).bind fun x257 =>
    sel (!((!x257) == (t6 == (0 : Int)))) (
      kR false H) (
      ((ifNil t7)).bind fun x258 =>
      sel (!((!x258) == (t8 == (0 : Int)))) (
        kR false H) (
        ((ifNil t9)).bind fun x259 =>
        sel (!((!x259) == (t10 == (0 : Int)))) (
          kR false H) (
          sel (t6 == (0 : Int)) (
            sel (t8 == (0 : Int)) (
              sel (t10 == (0 : Int)) (
                a9 R H fun x260 h261 =>
                kR x260 h261) (
                sel (t10 == (1 : Int)) (
                  a9 R H fun x262 h263 =>
                  kR x262 h263) (
                  kR false H))) (
              sel (t8 == (1 : Int)) (
                sel (t10 == (0 : Int)) (
                  a9 R H fun x264 h265 =>
                  kR x264 h265) (
                  sel (t10 == (1 : Int)) (
                    a9 R H fun x266 h267 =>
                    kR x266 h267) (
                    kR false H))) (
                kR false H))) (
            sel (t6 == (1 : Int)) (
              sel (t8 == (0 : Int)) (
                sel (t10 == (0 : Int)) (
                  a9 R H fun x268 h269 =>
                  kR x268 h269) (
                  sel (t10 == (1 : Int)) (
                    a9 R H fun x270 h271 =>
                    kR x270 h271) (
                    kR false H))) (
                sel (t8 == (1 : Int)) (
                  sel (t10 == (0 : Int)) (
                    a9 R H fun x272 h273 =>
                    kR x272 h273) (
                    sel (t10 == (1 : Int)) (
                      a9 R H fun x274 h275 =>
                      kR x274 h275) (
                      kR false H))) (
                  kR false H))) (
              kR false H))))))
theorem g8_p5_eq (a16 : T16) (a15 : T15) (a17 : T17) (a9 : T9) (la16 : Lin16 a16) (la15 : Lin15 a15) (la17 : Lin17 a17) (la9 : Lin9 a9) {R : Type} (t5 : V) (t6 : Int) (t7 : V) (t8 : Int) (t9 : V) (t10 : Int) (t88 : Bool) (H : Heap) (K : Ex → Fr → Heap → Option R) : ev Try.prog (E8 a16 a15 a17 a9) loopLim Try.f8.ntmps kp8 c8_3 [(5, t5), (6, (V.i .i64 t6)), (7, t7), (8, (V.i .i64 t8)), (9, t9), (10, (V.i .i64 t10)), (88, (V.b t88))] H K = g8_p5 a16 a15 a17 a9 R t5 t6 t7 t8 t9 t10 t88 H (fun t2 H => K .ret [(2, (V.b t2))] H) := by kernel_rfl
theorem g8_p5_lin {a16 : T16} {a15 : T15} {a17 : T17} {a9 : T9} (la16 : Lin16 a16) (la15 : Lin15 a15) (la17 : Lin17 a17) (la9 : Lin9 a9) {R S : Type} {k : S → Option R} {t5 : V} {t6 : Int} {t7 : V} {t8 : Int} {t9 : V} {t10 : Int} {t88 : Bool} {H : Heap} {fkR : Bool → Heap → Option R} {gkR : Bool → Heap → Option S} (hkR : ∀ t2 H, fkR t2 H = (gkR t2 H).bind k) : g8_p5 a16 a15 a17 a9 R t5 t6 t7 t8 t9 t10 t88 H fkR = (g8_p5 a16 a15 a17 a9 S t5 t6 t7 t8 t9 t10 t88 H gkR).bind k := by
  delta g8_p5; exact (
    sl_lin (
      hkR _ _) (
      bl fun x257 =>
      sl_lin (
        hkR _ _) (
        bl fun x258 =>
        sl_lin (
          hkR _ _) (
          bl fun x259 =>
          sl_lin (
            hkR _ _) (
            sl_lin (
              sl_lin (
                sl_lin (
                  la9.l fun x260 h261 =>
                  hkR _ _) (
                  sl_lin (
                    la9.l fun x262 h263 =>
                    hkR _ _) (
                    hkR _ _))) (
                sl_lin (
                  sl_lin (
                    la9.l fun x264 h265 =>
                    hkR _ _) (
                    sl_lin (
                      la9.l fun x266 h267 =>
                      hkR _ _) (
                      hkR _ _))) (
                  hkR _ _))) (
              sl_lin (
                sl_lin (
                  sl_lin (
                    la9.l fun x268 h269 =>
                    hkR _ _) (
                    sl_lin (
                      la9.l fun x270 h271 =>
                      hkR _ _) (
                      hkR _ _))) (
                  sl_lin (
                    sl_lin (
                      la9.l fun x272 h273 =>
                      hkR _ _) (
                      sl_lin (
                        la9.l fun x274 h275 =>
                        hkR _ _) (
                        hkR _ _))) (
                    hkR _ _))) (
                hkR _ _)))))))
noncomputable def g8_p6 (a16 : T16) (a15 : T15) (a17 : T17) (a9 : T9) (R : Type) (t1_0 : Nat) (t1_1 : Nat) (t3_0 : Nat) (t3_1 : Nat) (H : Heap) (kR : Bool → Heap → Option R) : Option R :=
  g8_p4 a16 a15 a17 a9 R t1_0 t1_1 t3_0 t3_1 H (fun t5 t6 t7 t8 t9 t10 t88 H => g8_p5 a16 a15 a17 a9 R t5 t6 t7 t8 t9 t10 t88 H (fun t2 H => kR t2 H))
theorem g8_p6_lin {a16 : T16} {a15 : T15} {a17 : T17} {a9 : T9} (la16 : Lin16 a16) (la15 : Lin15 a15) (la17 : Lin17 a17) (la9 : Lin9 a9) {R S : Type} {k : S → Option R} {t1_0 : Nat} {t1_1 : Nat} {t3_0 : Nat} {t3_1 : Nat} {H : Heap} {fkR : Bool → Heap → Option R} {gkR : Bool → Heap → Option S} (hkR : ∀ t2 H, fkR t2 H = (gkR t2 H).bind k) : g8_p6 a16 a15 a17 a9 R t1_0 t1_1 t3_0 t3_1 H fkR = (g8_p6 a16 a15 a17 a9 S t1_0 t1_1 t3_0 t3_1 H gkR).bind k := by
  exact g8_p4_lin la16 la15 la17 la9 (fun _ _ _ _ _ _ _ _ => g8_p5_lin la16 la15 la17 la9 (fun _ _ => hkR _ _))
theorem g8_p6_eq (a16 : T16) (a15 : T15) (a17 : T17) (a9 : T9) (la16 : Lin16 a16) (la15 : Lin15 a15) (la17 : Lin17 a17) (la9 : Lin9 a9) {R : Type} (t1_0 : Nat) (t1_1 : Nat) (t3_0 : Nat) (t3_1 : Nat) (H : Heap) (K : Ex → Fr → Heap → Option R) : ev Try.prog (E8 a16 a15 a17 a9) loopLim Try.f8.ntmps kp8 c8_4 [(1, (V.p (some (t1_0, t1_1)))), (3, (V.p (some (t3_0, t3_1))))] H K = g8_p6 a16 a15 a17 a9 R t1_0 t1_1 t3_0 t3_1 H (fun t2 H => K .ret [(2, (V.b t2))] H) := by
  show ev Try.prog (E8 a16 a15 a17 a9) loopLim Try.f8.ntmps kp8 (.seq (codeAt [1, 1, 1, 0] b8) (.seq (codeAt [1, 1, 1, 1, 0] b8) (.seq (codeAt [1, 1, 1, 1, 1, 0] b8) (.seq (codeAt [1, 1, 1, 1, 1, 1, 0, 0] b8) c8_3)))) [(1, (V.p (some (t1_0, t1_1)))), (3, (V.p (some (t3_0, t3_1))))] H K = _
  delta g8_p6
  exact (g8_p4_eq a16 a15 a17 a9 _ t1_0 t1_1 t3_0 t3_1 H K).trans (congrArg (g8_p4 a16 a15 a17 a9 R t1_0 t1_1 t3_0 t3_1 H) (funext fun t5 => funext fun t6 => funext fun t7 => funext fun t8 => funext fun t9 => funext fun t10 => funext fun t88 => funext fun H => g8_p5_eq a16 a15 a17 a9 la16 la15 la17 la9 t5 t6 t7 t8 t9 t10 t88 H K))
noncomputable def g8_p7 (a16 : T16) (a15 : T15) (a17 : T17) (a9 : T9) (R : Type) (t1_0 : Nat) (t1_1 : Nat) (t3_0 : Nat) (t3_1 : Nat) (t4 : Int) (H : Heap) (kR : Bool → Heap → Option R) : Option R :=
  g8_p3 a16 a15 a17 a9 R t1_0 t1_1 t3_0 t3_1 t4 H (fun t1_0 t1_1 t3_0 t3_1 H => g8_p6 a16 a15 a17 a9 R t1_0 t1_1 t3_0 t3_1 H (fun t2 H => kR t2 H))
theorem g8_p7_lin {a16 : T16} {a15 : T15} {a17 : T17} {a9 : T9} (la16 : Lin16 a16) (la15 : Lin15 a15) (la17 : Lin17 a17) (la9 : Lin9 a9) {R S : Type} {k : S → Option R} {t1_0 : Nat} {t1_1 : Nat} {t3_0 : Nat} {t3_1 : Nat} {t4 : Int} {H : Heap} {fkR : Bool → Heap → Option R} {gkR : Bool → Heap → Option S} (hkR : ∀ t2 H, fkR t2 H = (gkR t2 H).bind k) : g8_p7 a16 a15 a17 a9 R t1_0 t1_1 t3_0 t3_1 t4 H fkR = (g8_p7 a16 a15 a17 a9 S t1_0 t1_1 t3_0 t3_1 t4 H gkR).bind k := by
  exact g8_p3_lin la16 la15 la17 la9 (fun _ _ _ _ _ => g8_p6_lin la16 la15 la17 la9 (fun _ _ => hkR _ _))
theorem g8_p7_eq (a16 : T16) (a15 : T15) (a17 : T17) (a9 : T9) (la16 : Lin16 a16) (la15 : Lin15 a15) (la17 : Lin17 a17) (la9 : Lin9 a9) {R : Type} (t1_0 : Nat) (t1_1 : Nat) (t3_0 : Nat) (t3_1 : Nat) (t4 : Int) (H : Heap) (K : Ex → Fr → Heap → Option R) : ev Try.prog (E8 a16 a15 a17 a9) loopLim Try.f8.ntmps kp8 c8_5 [(1, (V.p (some (t1_0, t1_1)))), (3, (V.p (some (t3_0, t3_1)))), (4, (V.i .i64 t4))] H K = g8_p7 a16 a15 a17 a9 R t1_0 t1_1 t3_0 t3_1 t4 H (fun t2 H => K .ret [(2, (V.b t2))] H) := by
  show ev Try.prog (E8 a16 a15 a17 a9) loopLim Try.f8.ntmps kp8 (.seq c8_2 c8_4) [(1, (V.p (some (t1_0, t1_1)))), (3, (V.p (some (t3_0, t3_1)))), (4, (V.i .i64 t4))] H K = _
  rw [ev_seq]
  delta g8_p7
  exact (g8_p3_eq a16 a15 a17 a9 la16 la15 la17 la9 t1_0 t1_1 t3_0 t3_1 t4 H (kSeq (fun fr H => ev Try.prog (E8 a16 a15 a17 a9) loopLim Try.f8.ntmps kp8 c8_4 fr H K) K)).trans (congrArg (g8_p3 a16 a15 a17 a9 R t1_0 t1_1 t3_0 t3_1 t4 H) (funext fun t1_0 => funext fun t1_1 => funext fun t3_0 => funext fun t3_1 => funext fun H => (kSeq_n _ _ _ _).trans (g8_p6_eq a16 a15 a17 a9 la16 la15 la17 la9 t1_0 t1_1 t3_0 t3_1 H K)))
noncomputable def g8_p8 (a16 : T16) (a15 : T15) (a17 : T17) (a9 : T9) (R : Type) (t0_0 : Int) (t0_1 : Int) (t0_2 : Int) (t0_3 : Int) (H : Heap) (kR : Bool → Heap → Option R) : Option R :=
  g8_p0 a16 a15 a17 a9 R t0_0 t0_1 t0_2 t0_3 H (fun t1_0 t1_1 t3_0 t3_1 t4 H => g8_p7 a16 a15 a17 a9 R t1_0 t1_1 t3_0 t3_1 t4 H (fun t2 H => kR t2 H))
theorem g8_p8_lin {a16 : T16} {a15 : T15} {a17 : T17} {a9 : T9} (la16 : Lin16 a16) (la15 : Lin15 a15) (la17 : Lin17 a17) (la9 : Lin9 a9) {R S : Type} {k : S → Option R} {t0_0 : Int} {t0_1 : Int} {t0_2 : Int} {t0_3 : Int} {H : Heap} {fkR : Bool → Heap → Option R} {gkR : Bool → Heap → Option S} (hkR : ∀ t2 H, fkR t2 H = (gkR t2 H).bind k) : g8_p8 a16 a15 a17 a9 R t0_0 t0_1 t0_2 t0_3 H fkR = (g8_p8 a16 a15 a17 a9 S t0_0 t0_1 t0_2 t0_3 H gkR).bind k := by
  exact g8_p0_lin la16 la15 la17 la9 (fun _ _ _ _ _ _ => g8_p7_lin la16 la15 la17 la9 (fun _ _ => hkR _ _))
theorem g8_p8_eq (a16 : T16) (a15 : T15) (a17 : T17) (a9 : T9) (la16 : Lin16 a16) (la15 : Lin15 a15) (la17 : Lin17 a17) (la9 : Lin9 a9) {R : Type} (t0_0 : Int) (t0_1 : Int) (t0_2 : Int) (t0_3 : Int) (H : Heap) (K : Ex → Fr → Heap → Option R) : ev Try.prog (E8 a16 a15 a17 a9) loopLim Try.f8.ntmps kp8 c8_6 [(0, (V.agg [(V.i .i64 t0_0), (V.i .i64 t0_1), (V.i .i64 t0_2), (V.i .i64 t0_3)]))] H K = g8_p8 a16 a15 a17 a9 R t0_0 t0_1 t0_2 t0_3 H (fun t2 H => K .ret [(2, (V.b t2))] H) := by
  show ev Try.prog (E8 a16 a15 a17 a9) loopLim Try.f8.ntmps kp8 (.seq (codeAt [0] b8) (.seq (codeAt [1, 0] b8) (.seq (codeAt [1, 1, 0, 0] b8) c8_5))) [(0, (V.agg [(V.i .i64 t0_0), (V.i .i64 t0_1), (V.i .i64 t0_2), (V.i .i64 t0_3)]))] H K = _
  delta g8_p8
  exact (g8_p0_eq a16 a15 a17 a9 _ t0_0 t0_1 t0_2 t0_3 H K).trans (congrArg (g8_p0 a16 a15 a17 a9 R t0_0 t0_1 t0_2 t0_3 H) (funext fun t1_0 => funext fun t1_1 => funext fun t3_0 => funext fun t3_1 => funext fun t4 => funext fun H => g8_p7_eq a16 a15 a17 a9 la16 la15 la17 la9 t1_0 t1_1 t3_0 t3_1 t4 H K))
noncomputable def g8_r (a16 : T16) (a15 : T15) (a17 : T17) (a9 : T9) : T8 := fun R t0_0 t0_1 t0_2 t0_3 H K =>
  g8_p8 a16 a15 a17 a9 R t0_0 t0_1 t0_2 t0_3 H (fun t2 H =>
    K t2 H)
theorem g8_r_lin {a16 : T16} {a15 : T15} {a17 : T17} {a9 : T9} (la16 : Lin16 a16) (la15 : Lin15 a15) (la17 : Lin17 a17) (la9 : Lin9 a9) : Lin8 (g8_r a16 a15 a17 a9) := by
  constructor
  intro R S k t0_0 t0_1 t0_2 t0_3 H f g h
  exact g8_p8_lin la16 la15 la17 la9 (fun t2 H =>
    h _ _)
theorem g8_fn (a16 : T16) (a15 : T15) (a17 : T17) (a9 : T9) (la16 : Lin16 a16) (la15 : Lin15 a15) (la17 : Lin17 a17) (la9 : Lin9 a9) {R : Type} (t0_0 : Int) (t0_1 : Int) (t0_2 : Int) (t0_3 : Int) (H : Heap) (K : V → Heap → Option R) : evFn Try.prog (E8 a16 a15 a17 a9) loopLim Try.f8 kp8 [(V.agg [(V.i .i64 t0_0), (V.i .i64 t0_1), (V.i .i64 t0_2), (V.i .i64 t0_3)])] H K = g8_r a16 a15 a17 a9 R t0_0 t0_1 t0_2 t0_3 H (fun r0 H => K (V.b r0) H) := by
  have h0 : ∀ (t2 : Bool) (H : Heap), kFn Try.prog Try.f8.results.toList K .ret [(2, (V.b t2))] H =
      K (V.b t2) H := by intros; kernel_rfl
  have e0 := evFn_code2 (P := Try.prog) (c := c8_6) (E := (E8 a16 a15 a17 a9)) (lr := loopLim) (kp := kp8) (fn := Try.f8) (args := [(V.agg [(V.i .i64 t0_0), (V.i .i64 t0_1), (V.i .i64 t0_2), (V.i .i64 t0_3)])]) H K (by kernel_rfl) (Nat.le_of_ble_eq_true (by kernel_rfl)) (by kernel_rfl)
  have e1 : ev Try.prog (E8 a16 a15 a17 a9) loopLim Try.f8.ntmps kp8 c8_6 (argFr 0 [(V.agg [(V.i .i64 t0_0), (V.i .i64 t0_1), (V.i .i64 t0_2), (V.i .i64 t0_3)])]) H (kFn Try.prog Try.f8.results.toList K) = ev Try.prog (E8 a16 a15 a17 a9) loopLim Try.f8.ntmps kp8 c8_6 [(0, (V.agg [(V.i .i64 t0_0), (V.i .i64 t0_1), (V.i .i64 t0_2), (V.i .i64 t0_3)]))] H (kFn Try.prog Try.f8.results.toList K) := by kernel_rfl
  refine (e0.trans e1).trans ?_
  delta g8_r
  exact (g8_p8_eq a16 a15 a17 a9 la16 la15 la17 la9 t0_0 t0_1 t0_2 t0_3 H (kFn Try.prog Try.f8.results.toList K)).trans (congrArg (g8_p8 a16 a15 a17 a9 R t0_0 t0_1 t0_2 t0_3 H) (funext fun t2 => funext fun H => h0 t2 H))
theorem g8_ok {a16 : T16} {a15 : T15} {a17 : T17} {a9 : T9} (oa16 : FunOK Try.prog 16 (w16 a16)) (oa15 : FunOK Try.prog 15 (w15 a15)) (oa17 : FunOK Try.prog 17 (w17 a17)) (oa9 : FunOK Try.prog 9 (w9 a9)) (la16 : Lin16 a16) (la15 : Lin15 a15) (la17 : Lin17 a17) (la9 : Lin9 a9) : FunOK Try.prog 8 (w8 (g8_r a16 a15 a17 a9)) := by
  refine (runF_ok (E8_good oa16 oa15 oa17 oa9 la16 la15 la17 la9) mixed lim_ok Try.func8 (by kernel_rfl) kp8).of_le fun R args H K r hk => ?_
  unfold w8 at hk
  split at hk
  · exact (g8_fn a16 a15 a17 a9 la16 la15 la17 la9 _ _ _ _ H K).trans hk
  · cases hk
end Go.Proofs.Ytbkncpmgpogakaa
