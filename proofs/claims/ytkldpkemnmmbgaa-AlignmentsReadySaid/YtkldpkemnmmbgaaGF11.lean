/- Printed: functions as the machine runs them. -/
import Derived.Test.YtkldpkemnmmbgaaGT
namespace Go.Proofs.Ytkldpkemnmmbgaa
open Go AM Go.RowKit
set_option linter.unusedVariables false
def kp7 : Nat → Option (List Nat) := kpOf [(0, [1, 2, 3]), (1, [1, 2, 3, 20]), (2, [6]), (3, [1, 2, 7, 8]), (4, [1, 2, 7, 33]), (5, [6]), (6, [1, 2, 7, 9]), (7, [1, 2, 7, 9, 37]), (8, [1, 2, 7, 9]), (9, [1, 2, 7, 9]), (10, [2, 7, 10]), (11, [2, 7, 10, 57]), (12, [6]), (13, [2, 7, 10, 11]), (14, [2, 7, 10, 11, 12]), (15, [2, 7, 10, 11, 12, 64]), (16, [2, 7, 10, 11, 12]), (17, [2, 7, 10, 11, 12]), (18, [2, 7, 10, 11, 12, 89]), (19, [6]), (20, [6]), (100000, [2, 7]), (100001, [1, 2, 7, 9]), (100002, []), (100003, [2, 7, 10, 11, 12]), (200000, [1, 2, 7, 9]), (200001, [1, 2, 7, 9]), (200002, [2, 7, 10, 11, 12]), (200003, [2, 7, 10, 11, 12]), (300000, [6]), (400020, [1, 2, 3]), (400033, [1, 2, 7]), (400037, [1, 2, 7, 9]), (400057, [2, 7, 10]), (400064, [2, 7, 10, 11, 12]), (400089, [2, 7, 10, 11, 12])]
def E7 (a16 : T16) (a9 : T9) (a10 : T10) (a20 : T20) (a13 : T13) (a15 : T15) (a18 : T18) : FEnv := [(16, w16 a16), (9, w9 a9), (10, w10 a10), (20, w20 a20), (13, w13 a13), (15, w15 a15), (18, w18 a18)]
theorem E7_good {a16 : T16} {a9 : T9} {a10 : T10} {a20 : T20} {a13 : T13} {a15 : T15} {a18 : T18} (oa16 : FunOK Try.prog 16 (w16 a16)) (oa9 : FunOK Try.prog 9 (w9 a9)) (oa10 : FunOK Try.prog 10 (w10 a10)) (oa20 : FunOK Try.prog 20 (w20 a20)) (oa13 : FunOK Try.prog 13 (w13 a13)) (oa15 : FunOK Try.prog 15 (w15 a15)) (oa18 : FunOK Try.prog 18 (w18 a18)) (la16 : Lin16 a16) (la9 : Lin9 a9) (la10 : Lin10 a10) (la20 : Lin20 a20) (la13 : Lin13 a13) (la15 : Lin15 a15) (la18 : Lin18 a18) : EnvGood Try.prog (E7 a16 a9 a10 a20 a13 a15 a18) := ((((((((EnvGood.nil _).cons oa18 (w18_lin la18)).cons oa15 (w15_lin la15)).cons oa13 (w13_lin la13)).cons oa20 (w20_lin la20)).cons oa10 (w10_lin la10)).cons oa9 (w9_lin la9)).cons oa16 (w16_lin la16))
theorem E7_lin {a16 : T16} {a9 : T9} {a10 : T10} {a20 : T20} {a13 : T13} {a15 : T15} {a18 : T18} (la16 : Lin16 a16) (la9 : Lin9 a9) (la10 : Lin10 a10) (la20 : Lin20 a20) (la13 : Lin13 a13) (la15 : Lin15 a15) (la18 : Lin18 a18) : EnvLin (E7 a16 a9 a10 a20 a13 a15 a18) := by
  intro g F h
  simp only [E7, List.mem_cons, List.not_mem_nil, or_false] at h
  rcases h with h | h | h | h | h | h | h
  · cases h; exact w16_lin la16
  · cases h; exact w9_lin la9
  · cases h; exact w10_lin la10
  · cases h; exact w20_lin la20
  · cases h; exact w13_lin la13
  · cases h; exact w15_lin la15
  · cases h; exact w18_lin la18
noncomputable def b7 : Code := Try.f7.body.getD .skip
noncomputable def c7_0 : Code := (.seq (codeAt [1, 1, 1, 1, 0, 1, 0, 0, 0, 0] b7) (.seq (.cond (.tmp 37) .skip (.exit 0)) (.seq (.block 1 (codeAt [1, 1, 1, 1, 0, 1, 0, 0, 1, 0, 0] b7)) (codeAt [1, 1, 1, 1, 0, 1, 0, 0, 1, 1] b7))))
noncomputable def c7_1 : Code := (.loop c7_0)
noncomputable def c7_2 : Code := (.block 0 c7_1)
noncomputable def c7_3 : Code := (.seq (codeAt [1, 1, 1, 1, 1, 1, 1, 1, 0, 1, 0, 0, 0, 0] b7) (.seq (.cond (.tmp 64) .skip (.exit 2)) (.seq (.block 3 (.seq (codeAt [1, 1, 1, 1, 1, 1, 1, 1, 0, 1, 0, 0, 1, 0, 0, 0] b7) (.seq (codeAt [1, 1, 1, 1, 1, 1, 1, 1, 0, 1, 0, 0, 1, 0, 0, 1, 0] b7) (.cond (.tmp 89) (.seq (codeAt [1, 1, 1, 1, 1, 1, 1, 1, 0, 1, 0, 0, 1, 0, 0, 1, 1, 0, 0] b7) .ret) .skip)))) (codeAt [1, 1, 1, 1, 1, 1, 1, 1, 0, 1, 0, 0, 1, 1] b7))))
noncomputable def c7_4 : Code := (.loop c7_3)
noncomputable def c7_5 : Code := (.block 2 c7_4)
noncomputable def c7_6 : Code := (.seq (codeAt [1, 1, 1, 1, 1, 1, 1, 1, 1, 0] b7) .ret)
noncomputable def c7_7 : Code := (.seq c7_5 c7_6)
noncomputable def c7_8 : Code := (.seq (codeAt [1, 1, 1, 1, 1, 0] b7) (.seq (codeAt [1, 1, 1, 1, 1, 1, 0, 0] b7) (.seq (.cond (.tmp 57) (.seq (codeAt [1, 1, 1, 1, 1, 1, 0, 1, 0, 0] b7) .ret) .skip) (.seq (codeAt [1, 1, 1, 1, 1, 1, 1, 0] b7) (.seq (codeAt [1, 1, 1, 1, 1, 1, 1, 1, 0, 0] b7) c7_7)))))
noncomputable def c7_9 : Code := (.seq c7_2 c7_8)
noncomputable def c7_10 : Code := (.seq (codeAt [0] b7) (.seq (codeAt [1, 0, 0] b7) (.seq (.cond (.tmp 20) (.seq (codeAt [1, 0, 1, 0, 0] b7) .ret) .skip) (.seq (codeAt [1, 1, 0] b7) (.seq (codeAt [1, 1, 1, 0, 0] b7) (.seq (.cond (.tmp 33) (.seq (codeAt [1, 1, 1, 0, 1, 0, 0] b7) .ret) .skip) (.seq (codeAt [1, 1, 1, 1, 0, 0] b7) c7_9)))))))
noncomputable def g7_p0 (a16 : T16) (a9 : T9) (a10 : T10) (a20 : T20) (a13 : T13) (a15 : T15) (a18 : T18) (R : Type) (t0_0 : Int) (t0_1 : Int) (t0_2 : Int) (t0_3 : Int) (t0_4 : Int) (t0_5 : Int) (t0_6 : Int) (t1 : Sl) (t2 : Sl) (H : Heap) (kN : Sl → Sl → Option (Nat × Nat) → Int → Heap → Option R) (kR : Bool → Heap → Option R) : Option R :=
  alo H (.cells [(V.i .u8 t0_0), (V.i .u8 t0_1), (V.i .u8 t0_2), (V.i .u8 t0_3), (V.i .u8 t0_4), (V.i .u8 t0_5), (V.i .u8 t0_6)] 23 false) fun i83 h84 =>
  sel (decide (((t1.len : Nat) : Int) > (100 : Int))) (
    a16 R h84 fun x85 h86 =>
    kR x85 h86) (
    sel (decide (((t2.len : Nat) : Int) > (40 : Int))) (
      a16 R h84 fun x87 h88 =>
      kR x87 h88) (
      ((h84).ldI .u8 i83 (0 + 0)).bind fun x89 =>
      ((h84).ldI .u8 i83 (0 + 1)).bind fun x90 =>
      ((h84).ldI .u8 i83 (0 + 2)).bind fun x91 =>
      ((h84).ldI .u8 i83 (0 + 3)).bind fun x92 =>
      ((h84).ldI .u8 i83 (0 + 4)).bind fun x93 =>
      ((h84).ldI .u8 i83 (0 + 5)).bind fun x94 =>
      ((h84).ldI .u8 i83 (0 + 6)).bind fun x95 =>
      a9 R x89 x90 x91 x92 x93 x94 x95 h84 fun x96 x97 x98 x99 x100 x101 x102 h103 =>
      a10 R x96 x97 x98 x99 x100 x101 x102 h103 fun x104 x105 h106 =>
      sel (x105 != (0 : Int)) (
        kR false h106) (
        sel (Option.isNone x104) (
          kR false h106) (
          kN t1 t2 x104 (0 : Int) h106))))
theorem g7_p0_eq (a16 : T16) (a9 : T9) (a10 : T10) (a20 : T20) (a13 : T13) (a15 : T15) (a18 : T18) {R : Type} (c2 : Code) (t0_0 : Int) (t0_1 : Int) (t0_2 : Int) (t0_3 : Int) (t0_4 : Int) (t0_5 : Int) (t0_6 : Int) (t1 : Sl) (t2 : Sl) (H : Heap) (K : Ex → Fr → Heap → Option R) : ev Try.prog (E7 a16 a9 a10 a20 a13 a15 a18) loopLim Try.f7.ntmps kp7 (.seq (codeAt [0] b7) (.seq (codeAt [1, 0, 0] b7) (.seq (.cond (.tmp 20) (.seq (codeAt [1, 0, 1, 0, 0] b7) .ret) .skip) (.seq (codeAt [1, 1, 0] b7) (.seq (codeAt [1, 1, 1, 0, 0] b7) (.seq (.cond (.tmp 33) (.seq (codeAt [1, 1, 1, 0, 1, 0, 0] b7) .ret) .skip) (.seq (codeAt [1, 1, 1, 1, 0, 0] b7) c2))))))) [(0, (V.agg [(V.i .u8 t0_0), (V.i .u8 t0_1), (V.i .u8 t0_2), (V.i .u8 t0_3), (V.i .u8 t0_4), (V.i .u8 t0_5), (V.i .u8 t0_6)])), (1, (V.sl t1)), (2, (V.sl t2))] H K = g7_p0 a16 a9 a10 a20 a13 a15 a18 R t0_0 t0_1 t0_2 t0_3 t0_4 t0_5 t0_6 t1 t2 H (fun t1 t2 t7 t9 H => ev Try.prog (E7 a16 a9 a10 a20 a13 a15 a18) loopLim Try.f7.ntmps kp7 c2 [(1, (V.sl t1)), (2, (V.sl t2)), (7, (V.p t7)), (9, (V.i .i64 t9))] H K) (fun t6 H => K .ret [(6, (V.b t6))] H) := by kernel_rfl
theorem g7_p0_lin {a16 : T16} {a9 : T9} {a10 : T10} {a20 : T20} {a13 : T13} {a15 : T15} {a18 : T18} (la16 : Lin16 a16) (la9 : Lin9 a9) (la10 : Lin10 a10) (la20 : Lin20 a20) (la13 : Lin13 a13) (la15 : Lin15 a15) (la18 : Lin18 a18) {R S : Type} {k : S → Option R} {t0_0 : Int} {t0_1 : Int} {t0_2 : Int} {t0_3 : Int} {t0_4 : Int} {t0_5 : Int} {t0_6 : Int} {t1 : Sl} {t2 : Sl} {H : Heap} {fkN : Sl → Sl → Option (Nat × Nat) → Int → Heap → Option R} {gkN : Sl → Sl → Option (Nat × Nat) → Int → Heap → Option S} {fkR : Bool → Heap → Option R} {gkR : Bool → Heap → Option S} (hkN : ∀ t1 t2 t7 t9 H, fkN t1 t2 t7 t9 H = (gkN t1 t2 t7 t9 H).bind k) (hkR : ∀ t6 H, fkR t6 H = (gkR t6 H).bind k) : g7_p0 a16 a9 a10 a20 a13 a15 a18 R t0_0 t0_1 t0_2 t0_3 t0_4 t0_5 t0_6 t1 t2 H fkN fkR = (g7_p0 a16 a9 a10 a20 a13 a15 a18 S t0_0 t0_1 t0_2 t0_3 t0_4 t0_5 t0_6 t1 t2 H gkN gkR).bind k := by
  delta g7_p0; exact (
    alo_lin fun i83 h84 =>
    sl_lin (
      la16.l fun x85 h86 =>
      hkR _ _) (
      sl_lin (
        la16.l fun x87 h88 =>
        hkR _ _) (
        bl fun x89 =>
        bl fun x90 =>
        bl fun x91 =>
        bl fun x92 =>
        bl fun x93 =>
        bl fun x94 =>
        bl fun x95 =>
        la9.l fun x96 x97 x98 x99 x100 x101 x102 h103 =>
        la10.l fun x104 x105 h106 =>
        sl_lin (
          hkR _ _) (
          sl_lin (
            hkR _ _) (
            hkN _ _ _ _ _)))))
noncomputable def g7_p1 (a16 : T16) (a9 : T9) (a10 : T10) (a20 : T20) (a13 : T13) (a15 : T15) (a18 : T18) (R : Type) (t1 : Sl) (t2 : Sl) (t7 : Option (Nat × Nat)) (t9 : Int) (H : Heap) (kN : Sl → Sl → Option (Nat × Nat) → Int → Heap → Option R) (kE0 : Sl → Option (Nat × Nat) → Heap → Option R) : Option R :=
  sel (decide (t9 < ((t1.len : Nat) : Int))) (
    if 0 ≤ t9 ∧ t9 < ((t1.len : Nat) : Int) then (
      (t1.a).bind fun q107 =>
      ((H).ldI .u8 q107.1 (q107.2 + Int.toNat t9 * 1)).bind fun x108 =>
      a20 R t7 x108 H fun x109 h110 =>
      kN t1 t2 t7 (IntKind.wrap .i64 (t9 + (1 : Int))) h110)
    else (
      none)) (
    kE0 t2 t7 H)
theorem g7_p1_eq (a16 : T16) (a9 : T9) (a10 : T10) (a20 : T20) (a13 : T13) (a15 : T15) (a18 : T18) (la16 : Lin16 a16) (la9 : Lin9 a9) (la10 : Lin10 a10) (la20 : Lin20 a20) (la13 : Lin13 a13) (la15 : Lin15 a15) (la18 : Lin18 a18) {R : Type} (t1 : Sl) (t2 : Sl) (t7 : Option (Nat × Nat)) (t9 : Int) (H : Heap) (K : Ex → Fr → Heap → Option R) : ev Try.prog (E7 a16 a9 a10 a20 a13 a15 a18) loopLim Try.f7.ntmps kp7 c7_0 [(1, (V.sl t1)), (2, (V.sl t2)), (7, (V.p t7)), (9, (V.i .i64 t9))] H K = g7_p1 a16 a9 a10 a20 a13 a15 a18 R t1 t2 t7 t9 H (fun t1 t2 t7 t9 H => K .normal [(1, (V.sl t1)), (2, (V.sl t2)), (7, (V.p t7)), (9, (V.i .i64 t9))] H) (fun t2 t7 H => K (.exit 0) [(2, (V.sl t2)), (7, (V.p t7))] H) := by kernel_rfl
theorem g7_p1_lin {a16 : T16} {a9 : T9} {a10 : T10} {a20 : T20} {a13 : T13} {a15 : T15} {a18 : T18} (la16 : Lin16 a16) (la9 : Lin9 a9) (la10 : Lin10 a10) (la20 : Lin20 a20) (la13 : Lin13 a13) (la15 : Lin15 a15) (la18 : Lin18 a18) {R S : Type} {k : S → Option R} {t1 : Sl} {t2 : Sl} {t7 : Option (Nat × Nat)} {t9 : Int} {H : Heap} {fkN : Sl → Sl → Option (Nat × Nat) → Int → Heap → Option R} {gkN : Sl → Sl → Option (Nat × Nat) → Int → Heap → Option S} {fkE0 : Sl → Option (Nat × Nat) → Heap → Option R} {gkE0 : Sl → Option (Nat × Nat) → Heap → Option S} (hkN : ∀ t1 t2 t7 t9 H, fkN t1 t2 t7 t9 H = (gkN t1 t2 t7 t9 H).bind k) (hkE0 : ∀ t2 t7 H, fkE0 t2 t7 H = (gkE0 t2 t7 H).bind k) : g7_p1 a16 a9 a10 a20 a13 a15 a18 R t1 t2 t7 t9 H fkN fkE0 = (g7_p1 a16 a9 a10 a20 a13 a15 a18 S t1 t2 t7 t9 H gkN gkE0).bind k := by
  delta g7_p1; exact (
    sl_lin (
      il (
        bl fun q107 =>
        bl fun x108 =>
        la20.l fun x109 h110 =>
        hkN _ _ _ _ _) (
        rfl)) (
      hkE0 _ _ _))
abbrev g7_p2_S := Sl × Sl × (Option (Nat × Nat)) × Int
abbrev g7_p2_O := Sl × (Option (Nat × Nat))
def g7_p2_es (s : g7_p2_S) : Fr := [(1, (V.sl s.1)), (2, (V.sl s.2.1)), (7, (V.p s.2.2.1)), (9, (V.i .i64 s.2.2.2))]
def g7_p2_er (r : g7_p2_O) : Ex × Fr := ((.exit 0), [(2, (V.sl r.1)), (7, (V.p r.2))])
noncomputable def g7_p2_b (a16 : T16) (a9 : T9) (a10 : T10) (a20 : T20) (a13 : T13) (a15 : T15) (a18 : T18) (s : g7_p2_S) (H : Heap) : Option (Rd g7_p2_S g7_p2_O × Heap) :=
  g7_p1 a16 a9 a10 a20 a13 a15 a18 _ s.1 s.2.1 s.2.2.1 s.2.2.2 H (fun t1 t2 t7 t9 H => some (.go (t1, t2, t7, t9), H)) (fun t2 t7 H => some (.up (t2, t7), H))
noncomputable def g7_p2 (a16 : T16) (a9 : T9) (a10 : T10) (a20 : T20) (a13 : T13) (a15 : T15) (a18 : T18) (R : Type) (t1 : Sl) (t2 : Sl) (t7 : Option (Nat × Nat)) (t9 : Int) (H : Heap) (kE0 : Sl → Option (Nat × Nat) → Heap → Option R) : Option R :=
  (tlim (g7_p2_b a16 a9 a10 a20 a13 a15 a18) (t1, t2, t7, t9) H).bind fun p => kE0 p.1.1 p.1.2 p.2
theorem g7_p2_lin {a16 : T16} {a9 : T9} {a10 : T10} {a20 : T20} {a13 : T13} {a15 : T15} {a18 : T18} (la16 : Lin16 a16) (la9 : Lin9 a9) (la10 : Lin10 a10) (la20 : Lin20 a20) (la13 : Lin13 a13) (la15 : Lin15 a15) (la18 : Lin18 a18) {R S : Type} {k : S → Option R} {t1 : Sl} {t2 : Sl} {t7 : Option (Nat × Nat)} {t9 : Int} {H : Heap} {fkE0 : Sl → Option (Nat × Nat) → Heap → Option R} {gkE0 : Sl → Option (Nat × Nat) → Heap → Option S} (hkE0 : ∀ t2 t7 H, fkE0 t2 t7 H = (gkE0 t2 t7 H).bind k) : g7_p2 a16 a9 a10 a20 a13 a15 a18 R t1 t2 t7 t9 H fkE0 = (g7_p2 a16 a9 a10 a20 a13 a15 a18 S t1 t2 t7 t9 H gkE0).bind k := by
  exact bl fun p => hkE0 _ _ _
theorem g7_p2_eq (a16 : T16) (a9 : T9) (a10 : T10) (a20 : T20) (a13 : T13) (a15 : T15) (a18 : T18) (la16 : Lin16 a16) (la9 : Lin9 a9) (la10 : Lin10 a10) (la20 : Lin20 a20) (la13 : Lin13 a13) (la15 : Lin15 a15) (la18 : Lin18 a18) {R : Type} (t1 : Sl) (t2 : Sl) (t7 : Option (Nat × Nat)) (t9 : Int) (H : Heap) (K : Ex → Fr → Heap → Option R) : ev Try.prog (E7 a16 a9 a10 a20 a13 a15 a18) loopLim Try.f7.ntmps kp7 c7_1 [(1, (V.sl t1)), (2, (V.sl t2)), (7, (V.p t7)), (9, (V.i .i64 t9))] H K = g7_p2 a16 a9 a10 a20 a13 a15 a18 R t1 t2 t7 t9 H (fun t2 t7 H => K (.exit 0) [(2, (V.sl t2)), (7, (V.p t7))] H) := by
  show ev Try.prog (E7 a16 a9 a10 a20 a13 a15 a18) loopLim Try.f7.ntmps kp7 (.loop c7_0) [(1, (V.sl t1)), (2, (V.sl t2)), (7, (V.p t7)), (9, (V.i .i64 t9))] H K = _
  delta g7_p2
  refine (ev_tlim (b := g7_p2_b a16 a9 a10 a20 a13 a15 a18) (es := g7_p2_es) (er := g7_p2_er) (by intro r; exact nofun) (fun s H => ?_) (t1, t2, t7, t9) H K).trans (bc fun p => rfl)
  exact (g7_p1_eq a16 a9 a10 a20 a13 a15 a18 la16 la9 la10 la20 la13 la15 la18 s.1 s.2.1 s.2.2.1 s.2.2.2 H ret3).trans (g7_p1_lin la16 la9 la10 la20 la13 la15 la18 (fun _ _ _ _ _ => rfl) (fun _ _ _ => rfl))
noncomputable def g7_p3 (a16 : T16) (a9 : T9) (a10 : T10) (a20 : T20) (a13 : T13) (a15 : T15) (a18 : T18) (R : Type) (t1 : Sl) (t2 : Sl) (t7 : Option (Nat × Nat)) (t9 : Int) (H : Heap) (kN : Sl → Option (Nat × Nat) → Heap → Option R) : Option R :=
  g7_p2 a16 a9 a10 a20 a13 a15 a18 R t1 t2 t7 t9 H (fun t2 t7 H => kN t2 t7 H)
theorem g7_p3_lin {a16 : T16} {a9 : T9} {a10 : T10} {a20 : T20} {a13 : T13} {a15 : T15} {a18 : T18} (la16 : Lin16 a16) (la9 : Lin9 a9) (la10 : Lin10 a10) (la20 : Lin20 a20) (la13 : Lin13 a13) (la15 : Lin15 a15) (la18 : Lin18 a18) {R S : Type} {k : S → Option R} {t1 : Sl} {t2 : Sl} {t7 : Option (Nat × Nat)} {t9 : Int} {H : Heap} {fkN : Sl → Option (Nat × Nat) → Heap → Option R} {gkN : Sl → Option (Nat × Nat) → Heap → Option S} (hkN : ∀ t2 t7 H, fkN t2 t7 H = (gkN t2 t7 H).bind k) : g7_p3 a16 a9 a10 a20 a13 a15 a18 R t1 t2 t7 t9 H fkN = (g7_p3 a16 a9 a10 a20 a13 a15 a18 S t1 t2 t7 t9 H gkN).bind k := by
  exact g7_p2_lin la16 la9 la10 la20 la13 la15 la18 (fun _ _ _ => hkN _ _ _)
theorem g7_p3_eq (a16 : T16) (a9 : T9) (a10 : T10) (a20 : T20) (a13 : T13) (a15 : T15) (a18 : T18) (la16 : Lin16 a16) (la9 : Lin9 a9) (la10 : Lin10 a10) (la20 : Lin20 a20) (la13 : Lin13 a13) (la15 : Lin15 a15) (la18 : Lin18 a18) {R : Type} (t1 : Sl) (t2 : Sl) (t7 : Option (Nat × Nat)) (t9 : Int) (H : Heap) (K : Ex → Fr → Heap → Option R) : ev Try.prog (E7 a16 a9 a10 a20 a13 a15 a18) loopLim Try.f7.ntmps kp7 c7_2 [(1, (V.sl t1)), (2, (V.sl t2)), (7, (V.p t7)), (9, (V.i .i64 t9))] H K = g7_p3 a16 a9 a10 a20 a13 a15 a18 R t1 t2 t7 t9 H (fun t2 t7 H => K .normal [(2, (V.sl t2)), (7, (V.p t7))] H) := by
  show ev Try.prog (E7 a16 a9 a10 a20 a13 a15 a18) loopLim Try.f7.ntmps kp7 (.block 0 c7_1) [(1, (V.sl t1)), (2, (V.sl t2)), (7, (V.p t7)), (9, (V.i .i64 t9))] H K = _
  rw [ev_block]
  delta g7_p3
  exact (g7_p2_eq a16 a9 a10 a20 a13 a15 a18 la16 la9 la10 la20 la13 la15 la18 t1 t2 t7 t9 H (kBlock kp7 0 K))
noncomputable def g7_p4 (a16 : T16) (a9 : T9) (a10 : T10) (a20 : T20) (a13 : T13) (a15 : T15) (a18 : T18) (R : Type) (t2 : Sl) (t7 : Option (Nat × Nat)) (H : Heap) (kN : Sl → Option (Nat × Nat) → Int → Int → Int → Heap → Option R) (kR : Bool → Heap → Option R) : Option R :=
  a13 R t7 H fun x129 h130 =>
  sel (x129 != (4 : Int)) (
    sel (x129 != (0 : Int)) (
      sel (x129 != (5 : Int)) (
        a16 R h130 fun x131 h132 =>
        kR x131 h132) (
        a15 R t7 h130 fun x133 h134 =>
        kN t2 t7 x129 x133 (0 : Int) h134)) (
      a15 R t7 h130 fun x135 h136 =>
      kN t2 t7 x129 x135 (0 : Int) h136)) (
    a15 R t7 h130 fun x137 h138 =>
    kN t2 t7 x129 x137 (0 : Int) h138)
theorem g7_p4_eq (a16 : T16) (a9 : T9) (a10 : T10) (a20 : T20) (a13 : T13) (a15 : T15) (a18 : T18) {R : Type} (c2 : Code) (t2 : Sl) (t7 : Option (Nat × Nat)) (H : Heap) (K : Ex → Fr → Heap → Option R) : ev Try.prog (E7 a16 a9 a10 a20 a13 a15 a18) loopLim Try.f7.ntmps kp7 (.seq (codeAt [1, 1, 1, 1, 1, 0] b7) (.seq (codeAt [1, 1, 1, 1, 1, 1, 0, 0] b7) (.seq (.cond (.tmp 57) (.seq (codeAt [1, 1, 1, 1, 1, 1, 0, 1, 0, 0] b7) .ret) .skip) (.seq (codeAt [1, 1, 1, 1, 1, 1, 1, 0] b7) (.seq (codeAt [1, 1, 1, 1, 1, 1, 1, 1, 0, 0] b7) c2))))) [(2, (V.sl t2)), (7, (V.p t7))] H K = g7_p4 a16 a9 a10 a20 a13 a15 a18 R t2 t7 H (fun t2 t7 t10 t11 t12 H => ev Try.prog (E7 a16 a9 a10 a20 a13 a15 a18) loopLim Try.f7.ntmps kp7 c2 [(2, (V.sl t2)), (7, (V.p t7)), (10, (V.i .u8 t10)), (11, (V.i .i64 t11)), (12, (V.i .i64 t12))] H K) (fun t6 H => K .ret [(6, (V.b t6))] H) := by kernel_rfl
theorem g7_p4_lin {a16 : T16} {a9 : T9} {a10 : T10} {a20 : T20} {a13 : T13} {a15 : T15} {a18 : T18} (la16 : Lin16 a16) (la9 : Lin9 a9) (la10 : Lin10 a10) (la20 : Lin20 a20) (la13 : Lin13 a13) (la15 : Lin15 a15) (la18 : Lin18 a18) {R S : Type} {k : S → Option R} {t2 : Sl} {t7 : Option (Nat × Nat)} {H : Heap} {fkN : Sl → Option (Nat × Nat) → Int → Int → Int → Heap → Option R} {gkN : Sl → Option (Nat × Nat) → Int → Int → Int → Heap → Option S} {fkR : Bool → Heap → Option R} {gkR : Bool → Heap → Option S} (hkN : ∀ t2 t7 t10 t11 t12 H, fkN t2 t7 t10 t11 t12 H = (gkN t2 t7 t10 t11 t12 H).bind k) (hkR : ∀ t6 H, fkR t6 H = (gkR t6 H).bind k) : g7_p4 a16 a9 a10 a20 a13 a15 a18 R t2 t7 H fkN fkR = (g7_p4 a16 a9 a10 a20 a13 a15 a18 S t2 t7 H gkN gkR).bind k := by
  delta g7_p4; exact (
    la13.l fun x129 h130 =>
    sl_lin (
      sl_lin (
        sl_lin (
          la16.l fun x131 h132 =>
          hkR _ _) (
          la15.l fun x133 h134 =>
          hkN _ _ _ _ _ _)) (
        la15.l fun x135 h136 =>
        hkN _ _ _ _ _ _)) (
      la15.l fun x137 h138 =>
      hkN _ _ _ _ _ _))
noncomputable def g7_p5 (a16 : T16) (a9 : T9) (a10 : T10) (a20 : T20) (a13 : T13) (a15 : T15) (a18 : T18) (R : Type) (t2 : Sl) (t7 : Option (Nat × Nat)) (t10 : Int) (t11 : Int) (t12 : Int) (H : Heap) (kN : Sl → Option (Nat × Nat) → Int → Int → Int → Heap → Option R) (kE2 : Heap → Option R) (kR : Bool → Heap → Option R) : Option R :=
  sel (decide (t12 < ((t2.len : Nat) : Int))) (
    if 0 ≤ t12 ∧ t12 < ((t2.len : Nat) : Int) then (
      (t2.a).bind fun q139 =>
      ((H).ldI .u8 q139.1 (q139.2 + Int.toNat t12 * 1)).bind fun x140 =>
      a20 R t7 (IntKind.wrap .u8 ((3 : Int) + (Int.tmod x140 (11 : Int)))) H fun x141 h142 =>
      a13 R t7 h142 fun x143 h144 =>
      sel (x143 != t10) (
        kR false h144) (
        a18 R t7 h144 fun x145 h146 =>
        sel (x145 != (0 : Int)) (
          kR false h146) (
          a15 R t7 h146 fun x147 h148 =>
          sel (x147 != t11) (
            kR false h148) (
            kN t2 t7 t10 t11 (IntKind.wrap .i64 (t12 + (1 : Int))) h148))))
    else (
      none)) (
    kE2 H)
theorem g7_p5_eq (a16 : T16) (a9 : T9) (a10 : T10) (a20 : T20) (a13 : T13) (a15 : T15) (a18 : T18) (la16 : Lin16 a16) (la9 : Lin9 a9) (la10 : Lin10 a10) (la20 : Lin20 a20) (la13 : Lin13 a13) (la15 : Lin15 a15) (la18 : Lin18 a18) {R : Type} (t2 : Sl) (t7 : Option (Nat × Nat)) (t10 : Int) (t11 : Int) (t12 : Int) (H : Heap) (K : Ex → Fr → Heap → Option R) : ev Try.prog (E7 a16 a9 a10 a20 a13 a15 a18) loopLim Try.f7.ntmps kp7 c7_3 [(2, (V.sl t2)), (7, (V.p t7)), (10, (V.i .u8 t10)), (11, (V.i .i64 t11)), (12, (V.i .i64 t12))] H K = g7_p5 a16 a9 a10 a20 a13 a15 a18 R t2 t7 t10 t11 t12 H (fun t2 t7 t10 t11 t12 H => K .normal [(2, (V.sl t2)), (7, (V.p t7)), (10, (V.i .u8 t10)), (11, (V.i .i64 t11)), (12, (V.i .i64 t12))] H) (fun H => K (.exit 2) [] H) (fun t6 H => K .ret [(6, (V.b t6))] H) := by kernel_rfl
theorem g7_p5_lin {a16 : T16} {a9 : T9} {a10 : T10} {a20 : T20} {a13 : T13} {a15 : T15} {a18 : T18} (la16 : Lin16 a16) (la9 : Lin9 a9) (la10 : Lin10 a10) (la20 : Lin20 a20) (la13 : Lin13 a13) (la15 : Lin15 a15) (la18 : Lin18 a18) {R S : Type} {k : S → Option R} {t2 : Sl} {t7 : Option (Nat × Nat)} {t10 : Int} {t11 : Int} {t12 : Int} {H : Heap} {fkN : Sl → Option (Nat × Nat) → Int → Int → Int → Heap → Option R} {gkN : Sl → Option (Nat × Nat) → Int → Int → Int → Heap → Option S} {fkE2 : Heap → Option R} {gkE2 : Heap → Option S} {fkR : Bool → Heap → Option R} {gkR : Bool → Heap → Option S} (hkN : ∀ t2 t7 t10 t11 t12 H, fkN t2 t7 t10 t11 t12 H = (gkN t2 t7 t10 t11 t12 H).bind k) (hkE2 : ∀ H, fkE2 H = (gkE2 H).bind k) (hkR : ∀ t6 H, fkR t6 H = (gkR t6 H).bind k) : g7_p5 a16 a9 a10 a20 a13 a15 a18 R t2 t7 t10 t11 t12 H fkN fkE2 fkR = (g7_p5 a16 a9 a10 a20 a13 a15 a18 S t2 t7 t10 t11 t12 H gkN gkE2 gkR).bind k := by
  delta g7_p5; exact (
    sl_lin (
      il (
        bl fun q139 =>
        bl fun x140 =>
        la20.l fun x141 h142 =>
        la13.l fun x143 h144 =>
        sl_lin (
          hkR _ _) (
          la18.l fun x145 h146 =>
          sl_lin (
            hkR _ _) (
            la15.l fun x147 h148 =>
            sl_lin (
              hkR _ _) (
              hkN _ _ _ _ _ _)))) (
        rfl)) (
      hkE2 _))
abbrev g7_p6_S := Sl × (Option (Nat × Nat)) × Int × Int × Int
abbrev g7_p6_O := Sum (Unit) (Bool)
def g7_p6_es (s : g7_p6_S) : Fr := [(2, (V.sl s.1)), (7, (V.p s.2.1)), (10, (V.i .u8 s.2.2.1)), (11, (V.i .i64 s.2.2.2.1)), (12, (V.i .i64 s.2.2.2.2))]
def g7_p6_er : g7_p6_O → Ex × Fr
  | (.inl r) => ((.exit 2), [])
  | (.inr r) => (.ret, [(6, (V.b r))])
noncomputable def g7_p6_b (a16 : T16) (a9 : T9) (a10 : T10) (a20 : T20) (a13 : T13) (a15 : T15) (a18 : T18) (s : g7_p6_S) (H : Heap) : Option (Rd g7_p6_S g7_p6_O × Heap) :=
  g7_p5 a16 a9 a10 a20 a13 a15 a18 _ s.1 s.2.1 s.2.2.1 s.2.2.2.1 s.2.2.2.2 H (fun t2 t7 t10 t11 t12 H => some (.go (t2, t7, t10, t11, t12), H)) (fun H => some (.up (.inl ()), H)) (fun t6 H => some (.up (.inr t6), H))
noncomputable def g7_p6 (a16 : T16) (a9 : T9) (a10 : T10) (a20 : T20) (a13 : T13) (a15 : T15) (a18 : T18) (R : Type) (t2 : Sl) (t7 : Option (Nat × Nat)) (t10 : Int) (t11 : Int) (t12 : Int) (H : Heap) (kE2 : Heap → Option R) (kR : Bool → Heap → Option R) : Option R :=
  (tlim (g7_p6_b a16 a9 a10 a20 a13 a15 a18) (t2, t7, t10, t11, t12) H).bind fun p => cas p.1 (fun r => kE2  p.2) (fun r0 => kR r0 p.2)
theorem g7_p6_lin {a16 : T16} {a9 : T9} {a10 : T10} {a20 : T20} {a13 : T13} {a15 : T15} {a18 : T18} (la16 : Lin16 a16) (la9 : Lin9 a9) (la10 : Lin10 a10) (la20 : Lin20 a20) (la13 : Lin13 a13) (la15 : Lin15 a15) (la18 : Lin18 a18) {R S : Type} {k : S → Option R} {t2 : Sl} {t7 : Option (Nat × Nat)} {t10 : Int} {t11 : Int} {t12 : Int} {H : Heap} {fkE2 : Heap → Option R} {gkE2 : Heap → Option S} {fkR : Bool → Heap → Option R} {gkR : Bool → Heap → Option S} (hkE2 : ∀ H, fkE2 H = (gkE2 H).bind k) (hkR : ∀ t6 H, fkR t6 H = (gkR t6 H).bind k) : g7_p6 a16 a9 a10 a20 a13 a15 a18 R t2 t7 t10 t11 t12 H fkE2 fkR = (g7_p6 a16 a9 a10 a20 a13 a15 a18 S t2 t7 t10 t11 t12 H gkE2 gkR).bind k := by
  exact bl fun p => cas_lin (fun _ => hkE2 _) (fun _ => hkR _ _)
theorem g7_p6_eq (a16 : T16) (a9 : T9) (a10 : T10) (a20 : T20) (a13 : T13) (a15 : T15) (a18 : T18) (la16 : Lin16 a16) (la9 : Lin9 a9) (la10 : Lin10 a10) (la20 : Lin20 a20) (la13 : Lin13 a13) (la15 : Lin15 a15) (la18 : Lin18 a18) {R : Type} (t2 : Sl) (t7 : Option (Nat × Nat)) (t10 : Int) (t11 : Int) (t12 : Int) (H : Heap) (K : Ex → Fr → Heap → Option R) : ev Try.prog (E7 a16 a9 a10 a20 a13 a15 a18) loopLim Try.f7.ntmps kp7 c7_4 [(2, (V.sl t2)), (7, (V.p t7)), (10, (V.i .u8 t10)), (11, (V.i .i64 t11)), (12, (V.i .i64 t12))] H K = g7_p6 a16 a9 a10 a20 a13 a15 a18 R t2 t7 t10 t11 t12 H (fun H => K (.exit 2) [] H) (fun t6 H => K .ret [(6, (V.b t6))] H) := by
  show ev Try.prog (E7 a16 a9 a10 a20 a13 a15 a18) loopLim Try.f7.ntmps kp7 (.loop c7_3) [(2, (V.sl t2)), (7, (V.p t7)), (10, (V.i .u8 t10)), (11, (V.i .i64 t11)), (12, (V.i .i64 t12))] H K = _
  delta g7_p6
  refine (ev_tlim (b := g7_p6_b a16 a9 a10 a20 a13 a15 a18) (es := g7_p6_es) (er := g7_p6_er) (by rintro (r | r) <;> exact nofun) (fun s H => ?_) (t2, t7, t10, t11, t12) H K).trans (bc fun p => by rcases p with ⟨(r | r), H⟩ <;> rfl)
  exact (g7_p5_eq a16 a9 a10 a20 a13 a15 a18 la16 la9 la10 la20 la13 la15 la18 s.1 s.2.1 s.2.2.1 s.2.2.2.1 s.2.2.2.2 H ret3).trans (g7_p5_lin la16 la9 la10 la20 la13 la15 la18 (fun _ _ _ _ _ _ => rfl) (fun _ => rfl) (fun _ _ => rfl))
noncomputable def g7_p7 (a16 : T16) (a9 : T9) (a10 : T10) (a20 : T20) (a13 : T13) (a15 : T15) (a18 : T18) (R : Type) (t2 : Sl) (t7 : Option (Nat × Nat)) (t10 : Int) (t11 : Int) (t12 : Int) (H : Heap) (kN : Heap → Option R) (kR : Bool → Heap → Option R) : Option R :=
  g7_p6 a16 a9 a10 a20 a13 a15 a18 R t2 t7 t10 t11 t12 H (fun H => kN  H) (fun t6 H => kR t6 H)
theorem g7_p7_lin {a16 : T16} {a9 : T9} {a10 : T10} {a20 : T20} {a13 : T13} {a15 : T15} {a18 : T18} (la16 : Lin16 a16) (la9 : Lin9 a9) (la10 : Lin10 a10) (la20 : Lin20 a20) (la13 : Lin13 a13) (la15 : Lin15 a15) (la18 : Lin18 a18) {R S : Type} {k : S → Option R} {t2 : Sl} {t7 : Option (Nat × Nat)} {t10 : Int} {t11 : Int} {t12 : Int} {H : Heap} {fkN : Heap → Option R} {gkN : Heap → Option S} {fkR : Bool → Heap → Option R} {gkR : Bool → Heap → Option S} (hkN : ∀ H, fkN H = (gkN H).bind k) (hkR : ∀ t6 H, fkR t6 H = (gkR t6 H).bind k) : g7_p7 a16 a9 a10 a20 a13 a15 a18 R t2 t7 t10 t11 t12 H fkN fkR = (g7_p7 a16 a9 a10 a20 a13 a15 a18 S t2 t7 t10 t11 t12 H gkN gkR).bind k := by
  exact g7_p6_lin la16 la9 la10 la20 la13 la15 la18 (fun _ => hkN _) (fun _ _ => hkR _ _)
theorem g7_p7_eq (a16 : T16) (a9 : T9) (a10 : T10) (a20 : T20) (a13 : T13) (a15 : T15) (a18 : T18) (la16 : Lin16 a16) (la9 : Lin9 a9) (la10 : Lin10 a10) (la20 : Lin20 a20) (la13 : Lin13 a13) (la15 : Lin15 a15) (la18 : Lin18 a18) {R : Type} (t2 : Sl) (t7 : Option (Nat × Nat)) (t10 : Int) (t11 : Int) (t12 : Int) (H : Heap) (K : Ex → Fr → Heap → Option R) : ev Try.prog (E7 a16 a9 a10 a20 a13 a15 a18) loopLim Try.f7.ntmps kp7 c7_5 [(2, (V.sl t2)), (7, (V.p t7)), (10, (V.i .u8 t10)), (11, (V.i .i64 t11)), (12, (V.i .i64 t12))] H K = g7_p7 a16 a9 a10 a20 a13 a15 a18 R t2 t7 t10 t11 t12 H (fun H => K .normal [] H) (fun t6 H => K .ret [(6, (V.b t6))] H) := by
  show ev Try.prog (E7 a16 a9 a10 a20 a13 a15 a18) loopLim Try.f7.ntmps kp7 (.block 2 c7_4) [(2, (V.sl t2)), (7, (V.p t7)), (10, (V.i .u8 t10)), (11, (V.i .i64 t11)), (12, (V.i .i64 t12))] H K = _
  rw [ev_block]
  delta g7_p7
  exact (g7_p6_eq a16 a9 a10 a20 a13 a15 a18 la16 la9 la10 la20 la13 la15 la18 t2 t7 t10 t11 t12 H (kBlock kp7 2 K))
noncomputable def g7_p8 (a16 : T16) (a9 : T9) (a10 : T10) (a20 : T20) (a13 : T13) (a15 : T15) (a18 : T18) (R : Type) (H : Heap) (kR : Bool → Heap → Option R) : Option R :=
  a16 R H fun x149 h150 =>
  kR x149 h150
theorem g7_p8_eq (a16 : T16) (a9 : T9) (a10 : T10) (a20 : T20) (a13 : T13) (a15 : T15) (a18 : T18) (la16 : Lin16 a16) (la9 : Lin9 a9) (la10 : Lin10 a10) (la20 : Lin20 a20) (la13 : Lin13 a13) (la15 : Lin15 a15) (la18 : Lin18 a18) {R : Type} (H : Heap) (K : Ex → Fr → Heap → Option R) : ev Try.prog (E7 a16 a9 a10 a20 a13 a15 a18) loopLim Try.f7.ntmps kp7 c7_6 [] H K = g7_p8 a16 a9 a10 a20 a13 a15 a18 R H (fun t6 H => K .ret [(6, (V.b t6))] H) := by kernel_rfl
theorem g7_p8_lin {a16 : T16} {a9 : T9} {a10 : T10} {a20 : T20} {a13 : T13} {a15 : T15} {a18 : T18} (la16 : Lin16 a16) (la9 : Lin9 a9) (la10 : Lin10 a10) (la20 : Lin20 a20) (la13 : Lin13 a13) (la15 : Lin15 a15) (la18 : Lin18 a18) {R S : Type} {k : S → Option R} {H : Heap} {fkR : Bool → Heap → Option R} {gkR : Bool → Heap → Option S} (hkR : ∀ t6 H, fkR t6 H = (gkR t6 H).bind k) : g7_p8 a16 a9 a10 a20 a13 a15 a18 R H fkR = (g7_p8 a16 a9 a10 a20 a13 a15 a18 S H gkR).bind k := by
  delta g7_p8; exact (
    la16.l fun x149 h150 =>
    hkR _ _)
noncomputable def g7_p9 (a16 : T16) (a9 : T9) (a10 : T10) (a20 : T20) (a13 : T13) (a15 : T15) (a18 : T18) (R : Type) (t2 : Sl) (t7 : Option (Nat × Nat)) (t10 : Int) (t11 : Int) (t12 : Int) (H : Heap) (kR : Bool → Heap → Option R) : Option R :=
  g7_p7 a16 a9 a10 a20 a13 a15 a18 R t2 t7 t10 t11 t12 H (fun H => g7_p8 a16 a9 a10 a20 a13 a15 a18 R H (fun t6 H => kR t6 H)) (fun t6 H => kR t6 H)
theorem g7_p9_lin {a16 : T16} {a9 : T9} {a10 : T10} {a20 : T20} {a13 : T13} {a15 : T15} {a18 : T18} (la16 : Lin16 a16) (la9 : Lin9 a9) (la10 : Lin10 a10) (la20 : Lin20 a20) (la13 : Lin13 a13) (la15 : Lin15 a15) (la18 : Lin18 a18) {R S : Type} {k : S → Option R} {t2 : Sl} {t7 : Option (Nat × Nat)} {t10 : Int} {t11 : Int} {t12 : Int} {H : Heap} {fkR : Bool → Heap → Option R} {gkR : Bool → Heap → Option S} (hkR : ∀ t6 H, fkR t6 H = (gkR t6 H).bind k) : g7_p9 a16 a9 a10 a20 a13 a15 a18 R t2 t7 t10 t11 t12 H fkR = (g7_p9 a16 a9 a10 a20 a13 a15 a18 S t2 t7 t10 t11 t12 H gkR).bind k := by
  exact g7_p7_lin la16 la9 la10 la20 la13 la15 la18 (fun _ => g7_p8_lin la16 la9 la10 la20 la13 la15 la18 (fun _ _ => hkR _ _)) (fun _ _ => hkR _ _)
theorem g7_p9_eq (a16 : T16) (a9 : T9) (a10 : T10) (a20 : T20) (a13 : T13) (a15 : T15) (a18 : T18) (la16 : Lin16 a16) (la9 : Lin9 a9) (la10 : Lin10 a10) (la20 : Lin20 a20) (la13 : Lin13 a13) (la15 : Lin15 a15) (la18 : Lin18 a18) {R : Type} (t2 : Sl) (t7 : Option (Nat × Nat)) (t10 : Int) (t11 : Int) (t12 : Int) (H : Heap) (K : Ex → Fr → Heap → Option R) : ev Try.prog (E7 a16 a9 a10 a20 a13 a15 a18) loopLim Try.f7.ntmps kp7 c7_7 [(2, (V.sl t2)), (7, (V.p t7)), (10, (V.i .u8 t10)), (11, (V.i .i64 t11)), (12, (V.i .i64 t12))] H K = g7_p9 a16 a9 a10 a20 a13 a15 a18 R t2 t7 t10 t11 t12 H (fun t6 H => K .ret [(6, (V.b t6))] H) := by
  show ev Try.prog (E7 a16 a9 a10 a20 a13 a15 a18) loopLim Try.f7.ntmps kp7 (.seq c7_5 c7_6) [(2, (V.sl t2)), (7, (V.p t7)), (10, (V.i .u8 t10)), (11, (V.i .i64 t11)), (12, (V.i .i64 t12))] H K = _
  rw [ev_seq]
  delta g7_p9
  exact (g7_p7_eq a16 a9 a10 a20 a13 a15 a18 la16 la9 la10 la20 la13 la15 la18 t2 t7 t10 t11 t12 H (kSeq (fun fr H => ev Try.prog (E7 a16 a9 a10 a20 a13 a15 a18) loopLim Try.f7.ntmps kp7 c7_6 fr H K) K)).trans (congr (congrArg (g7_p7 a16 a9 a10 a20 a13 a15 a18 R t2 t7 t10 t11 t12 H) (funext fun H => (kSeq_n _ _ _ _).trans (g7_p8_eq a16 a9 a10 a20 a13 a15 a18 la16 la9 la10 la20 la13 la15 la18 H K))) rfl)
noncomputable def g7_p10 (a16 : T16) (a9 : T9) (a10 : T10) (a20 : T20) (a13 : T13) (a15 : T15) (a18 : T18) (R : Type) (t2 : Sl) (t7 : Option (Nat × Nat)) (H : Heap) (kR : Bool → Heap → Option R) : Option R :=
  g7_p4 a16 a9 a10 a20 a13 a15 a18 R t2 t7 H (fun t2 t7 t10 t11 t12 H => g7_p9 a16 a9 a10 a20 a13 a15 a18 R t2 t7 t10 t11 t12 H (fun t6 H => kR t6 H)) (fun t6 H => kR t6 H)
theorem g7_p10_lin {a16 : T16} {a9 : T9} {a10 : T10} {a20 : T20} {a13 : T13} {a15 : T15} {a18 : T18} (la16 : Lin16 a16) (la9 : Lin9 a9) (la10 : Lin10 a10) (la20 : Lin20 a20) (la13 : Lin13 a13) (la15 : Lin15 a15) (la18 : Lin18 a18) {R S : Type} {k : S → Option R} {t2 : Sl} {t7 : Option (Nat × Nat)} {H : Heap} {fkR : Bool → Heap → Option R} {gkR : Bool → Heap → Option S} (hkR : ∀ t6 H, fkR t6 H = (gkR t6 H).bind k) : g7_p10 a16 a9 a10 a20 a13 a15 a18 R t2 t7 H fkR = (g7_p10 a16 a9 a10 a20 a13 a15 a18 S t2 t7 H gkR).bind k := by
  exact g7_p4_lin la16 la9 la10 la20 la13 la15 la18 (fun _ _ _ _ _ _ => g7_p9_lin la16 la9 la10 la20 la13 la15 la18 (fun _ _ => hkR _ _)) (fun _ _ => hkR _ _)
theorem g7_p10_eq (a16 : T16) (a9 : T9) (a10 : T10) (a20 : T20) (a13 : T13) (a15 : T15) (a18 : T18) (la16 : Lin16 a16) (la9 : Lin9 a9) (la10 : Lin10 a10) (la20 : Lin20 a20) (la13 : Lin13 a13) (la15 : Lin15 a15) (la18 : Lin18 a18) {R : Type} (t2 : Sl) (t7 : Option (Nat × Nat)) (H : Heap) (K : Ex → Fr → Heap → Option R) : ev Try.prog (E7 a16 a9 a10 a20 a13 a15 a18) loopLim Try.f7.ntmps kp7 c7_8 [(2, (V.sl t2)), (7, (V.p t7))] H K = g7_p10 a16 a9 a10 a20 a13 a15 a18 R t2 t7 H (fun t6 H => K .ret [(6, (V.b t6))] H) := by
  show ev Try.prog (E7 a16 a9 a10 a20 a13 a15 a18) loopLim Try.f7.ntmps kp7 (.seq (codeAt [1, 1, 1, 1, 1, 0] b7) (.seq (codeAt [1, 1, 1, 1, 1, 1, 0, 0] b7) (.seq (.cond (.tmp 57) (.seq (codeAt [1, 1, 1, 1, 1, 1, 0, 1, 0, 0] b7) .ret) .skip) (.seq (codeAt [1, 1, 1, 1, 1, 1, 1, 0] b7) (.seq (codeAt [1, 1, 1, 1, 1, 1, 1, 1, 0, 0] b7) c7_7))))) [(2, (V.sl t2)), (7, (V.p t7))] H K = _
  delta g7_p10
  exact (g7_p4_eq a16 a9 a10 a20 a13 a15 a18 _ t2 t7 H K).trans (congr (congrArg (g7_p4 a16 a9 a10 a20 a13 a15 a18 R t2 t7 H) (funext fun t2 => funext fun t7 => funext fun t10 => funext fun t11 => funext fun t12 => funext fun H => g7_p9_eq a16 a9 a10 a20 a13 a15 a18 la16 la9 la10 la20 la13 la15 la18 t2 t7 t10 t11 t12 H K)) rfl)
noncomputable def g7_p11 (a16 : T16) (a9 : T9) (a10 : T10) (a20 : T20) (a13 : T13) (a15 : T15) (a18 : T18) (R : Type) (t1 : Sl) (t2 : Sl) (t7 : Option (Nat × Nat)) (t9 : Int) (H : Heap) (kR : Bool → Heap → Option R) : Option R :=
  g7_p3 a16 a9 a10 a20 a13 a15 a18 R t1 t2 t7 t9 H (fun t2 t7 H => g7_p10 a16 a9 a10 a20 a13 a15 a18 R t2 t7 H (fun t6 H => kR t6 H))
theorem g7_p11_lin {a16 : T16} {a9 : T9} {a10 : T10} {a20 : T20} {a13 : T13} {a15 : T15} {a18 : T18} (la16 : Lin16 a16) (la9 : Lin9 a9) (la10 : Lin10 a10) (la20 : Lin20 a20) (la13 : Lin13 a13) (la15 : Lin15 a15) (la18 : Lin18 a18) {R S : Type} {k : S → Option R} {t1 : Sl} {t2 : Sl} {t7 : Option (Nat × Nat)} {t9 : Int} {H : Heap} {fkR : Bool → Heap → Option R} {gkR : Bool → Heap → Option S} (hkR : ∀ t6 H, fkR t6 H = (gkR t6 H).bind k) : g7_p11 a16 a9 a10 a20 a13 a15 a18 R t1 t2 t7 t9 H fkR = (g7_p11 a16 a9 a10 a20 a13 a15 a18 S t1 t2 t7 t9 H gkR).bind k := by
  exact g7_p3_lin la16 la9 la10 la20 la13 la15 la18 (fun _ _ _ => g7_p10_lin la16 la9 la10 la20 la13 la15 la18 (fun _ _ => hkR _ _))
theorem g7_p11_eq (a16 : T16) (a9 : T9) (a10 : T10) (a20 : T20) (a13 : T13) (a15 : T15) (a18 : T18) (la16 : Lin16 a16) (la9 : Lin9 a9) (la10 : Lin10 a10) (la20 : Lin20 a20) (la13 : Lin13 a13) (la15 : Lin15 a15) (la18 : Lin18 a18) {R : Type} (t1 : Sl) (t2 : Sl) (t7 : Option (Nat × Nat)) (t9 : Int) (H : Heap) (K : Ex → Fr → Heap → Option R) : ev Try.prog (E7 a16 a9 a10 a20 a13 a15 a18) loopLim Try.f7.ntmps kp7 c7_9 [(1, (V.sl t1)), (2, (V.sl t2)), (7, (V.p t7)), (9, (V.i .i64 t9))] H K = g7_p11 a16 a9 a10 a20 a13 a15 a18 R t1 t2 t7 t9 H (fun t6 H => K .ret [(6, (V.b t6))] H) := by
  show ev Try.prog (E7 a16 a9 a10 a20 a13 a15 a18) loopLim Try.f7.ntmps kp7 (.seq c7_2 c7_8) [(1, (V.sl t1)), (2, (V.sl t2)), (7, (V.p t7)), (9, (V.i .i64 t9))] H K = _
  rw [ev_seq]
  delta g7_p11
  exact (g7_p3_eq a16 a9 a10 a20 a13 a15 a18 la16 la9 la10 la20 la13 la15 la18 t1 t2 t7 t9 H (kSeq (fun fr H => ev Try.prog (E7 a16 a9 a10 a20 a13 a15 a18) loopLim Try.f7.ntmps kp7 c7_8 fr H K) K)).trans (congrArg (g7_p3 a16 a9 a10 a20 a13 a15 a18 R t1 t2 t7 t9 H) (funext fun t2 => funext fun t7 => funext fun H => (kSeq_n _ _ _ _).trans (g7_p10_eq a16 a9 a10 a20 a13 a15 a18 la16 la9 la10 la20 la13 la15 la18 t2 t7 H K)))
noncomputable def g7_p12 (a16 : T16) (a9 : T9) (a10 : T10) (a20 : T20) (a13 : T13) (a15 : T15) (a18 : T18) (R : Type) (t0_0 : Int) (t0_1 : Int) (t0_2 : Int) (t0_3 : Int) (t0_4 : Int) (t0_5 : Int) (t0_6 : Int) (t1 : Sl) (t2 : Sl) (H : Heap) (kR : Bool → Heap → Option R) : Option R :=
  g7_p0 a16 a9 a10 a20 a13 a15 a18 R t0_0 t0_1 t0_2 t0_3 t0_4 t0_5 t0_6 t1 t2 H (fun t1 t2 t7 t9 H => g7_p11 a16 a9 a10 a20 a13 a15 a18 R t1 t2 t7 t9 H (fun t6 H => kR t6 H)) (fun t6 H => kR t6 H)
theorem g7_p12_lin {a16 : T16} {a9 : T9} {a10 : T10} {a20 : T20} {a13 : T13} {a15 : T15} {a18 : T18} (la16 : Lin16 a16) (la9 : Lin9 a9) (la10 : Lin10 a10) (la20 : Lin20 a20) (la13 : Lin13 a13) (la15 : Lin15 a15) (la18 : Lin18 a18) {R S : Type} {k : S → Option R} {t0_0 : Int} {t0_1 : Int} {t0_2 : Int} {t0_3 : Int} {t0_4 : Int} {t0_5 : Int} {t0_6 : Int} {t1 : Sl} {t2 : Sl} {H : Heap} {fkR : Bool → Heap → Option R} {gkR : Bool → Heap → Option S} (hkR : ∀ t6 H, fkR t6 H = (gkR t6 H).bind k) : g7_p12 a16 a9 a10 a20 a13 a15 a18 R t0_0 t0_1 t0_2 t0_3 t0_4 t0_5 t0_6 t1 t2 H fkR = (g7_p12 a16 a9 a10 a20 a13 a15 a18 S t0_0 t0_1 t0_2 t0_3 t0_4 t0_5 t0_6 t1 t2 H gkR).bind k := by
  exact g7_p0_lin la16 la9 la10 la20 la13 la15 la18 (fun _ _ _ _ _ => g7_p11_lin la16 la9 la10 la20 la13 la15 la18 (fun _ _ => hkR _ _)) (fun _ _ => hkR _ _)
theorem g7_p12_eq (a16 : T16) (a9 : T9) (a10 : T10) (a20 : T20) (a13 : T13) (a15 : T15) (a18 : T18) (la16 : Lin16 a16) (la9 : Lin9 a9) (la10 : Lin10 a10) (la20 : Lin20 a20) (la13 : Lin13 a13) (la15 : Lin15 a15) (la18 : Lin18 a18) {R : Type} (t0_0 : Int) (t0_1 : Int) (t0_2 : Int) (t0_3 : Int) (t0_4 : Int) (t0_5 : Int) (t0_6 : Int) (t1 : Sl) (t2 : Sl) (H : Heap) (K : Ex → Fr → Heap → Option R) : ev Try.prog (E7 a16 a9 a10 a20 a13 a15 a18) loopLim Try.f7.ntmps kp7 c7_10 [(0, (V.agg [(V.i .u8 t0_0), (V.i .u8 t0_1), (V.i .u8 t0_2), (V.i .u8 t0_3), (V.i .u8 t0_4), (V.i .u8 t0_5), (V.i .u8 t0_6)])), (1, (V.sl t1)), (2, (V.sl t2))] H K = g7_p12 a16 a9 a10 a20 a13 a15 a18 R t0_0 t0_1 t0_2 t0_3 t0_4 t0_5 t0_6 t1 t2 H (fun t6 H => K .ret [(6, (V.b t6))] H) := by
  show ev Try.prog (E7 a16 a9 a10 a20 a13 a15 a18) loopLim Try.f7.ntmps kp7 (.seq (codeAt [0] b7) (.seq (codeAt [1, 0, 0] b7) (.seq (.cond (.tmp 20) (.seq (codeAt [1, 0, 1, 0, 0] b7) .ret) .skip) (.seq (codeAt [1, 1, 0] b7) (.seq (codeAt [1, 1, 1, 0, 0] b7) (.seq (.cond (.tmp 33) (.seq (codeAt [1, 1, 1, 0, 1, 0, 0] b7) .ret) .skip) (.seq (codeAt [1, 1, 1, 1, 0, 0] b7) c7_9))))))) [(0, (V.agg [(V.i .u8 t0_0), (V.i .u8 t0_1), (V.i .u8 t0_2), (V.i .u8 t0_3), (V.i .u8 t0_4), (V.i .u8 t0_5), (V.i .u8 t0_6)])), (1, (V.sl t1)), (2, (V.sl t2))] H K = _
  delta g7_p12
  exact (g7_p0_eq a16 a9 a10 a20 a13 a15 a18 _ t0_0 t0_1 t0_2 t0_3 t0_4 t0_5 t0_6 t1 t2 H K).trans (congr (congrArg (g7_p0 a16 a9 a10 a20 a13 a15 a18 R t0_0 t0_1 t0_2 t0_3 t0_4 t0_5 t0_6 t1 t2 H) (funext fun t1 => funext fun t2 => funext fun t7 => funext fun t9 => funext fun H => g7_p11_eq a16 a9 a10 a20 a13 a15 a18 la16 la9 la10 la20 la13 la15 la18 t1 t2 t7 t9 H K)) rfl)
noncomputable def g7_r (a16 : T16) (a9 : T9) (a10 : T10) (a20 : T20) (a13 : T13) (a15 : T15) (a18 : T18) : T7 := fun R t0_0 t0_1 t0_2 t0_3 t0_4 t0_5 t0_6 t1 t2 H K =>
  g7_p12 a16 a9 a10 a20 a13 a15 a18 R t0_0 t0_1 t0_2 t0_3 t0_4 t0_5 t0_6 t1 t2 H (fun t6 H =>
    K t6 H)
theorem g7_r_lin {a16 : T16} {a9 : T9} {a10 : T10} {a20 : T20} {a13 : T13} {a15 : T15} {a18 : T18} (la16 : Lin16 a16) (la9 : Lin9 a9) (la10 : Lin10 a10) (la20 : Lin20 a20) (la13 : Lin13 a13) (la15 : Lin15 a15) (la18 : Lin18 a18) : Lin7 (g7_r a16 a9 a10 a20 a13 a15 a18) := by
  constructor
  intro R S k t0_0 t0_1 t0_2 t0_3 t0_4 t0_5 t0_6 t1 t2 H f g h
  exact g7_p12_lin la16 la9 la10 la20 la13 la15 la18 (fun t6 H =>
    h _ _)
theorem g7_fn (a16 : T16) (a9 : T9) (a10 : T10) (a20 : T20) (a13 : T13) (a15 : T15) (a18 : T18) (la16 : Lin16 a16) (la9 : Lin9 a9) (la10 : Lin10 a10) (la20 : Lin20 a20) (la13 : Lin13 a13) (la15 : Lin15 a15) (la18 : Lin18 a18) {R : Type} (t0_0 : Int) (t0_1 : Int) (t0_2 : Int) (t0_3 : Int) (t0_4 : Int) (t0_5 : Int) (t0_6 : Int) (t1 : Sl) (t2 : Sl) (H : Heap) (K : V → Heap → Option R) : evFn Try.prog (E7 a16 a9 a10 a20 a13 a15 a18) loopLim Try.f7 kp7 [(V.agg [(V.i .u8 t0_0), (V.i .u8 t0_1), (V.i .u8 t0_2), (V.i .u8 t0_3), (V.i .u8 t0_4), (V.i .u8 t0_5), (V.i .u8 t0_6)]), (V.sl t1), (V.sl t2)] H K = g7_r a16 a9 a10 a20 a13 a15 a18 R t0_0 t0_1 t0_2 t0_3 t0_4 t0_5 t0_6 t1 t2 H (fun r0 H => K (V.b r0) H) := by
  have h0 : ∀ (t6 : Bool) (H : Heap), kFn Try.prog Try.f7.results.toList K .ret [(6, (V.b t6))] H =
      K (V.b t6) H := by intros; kernel_rfl
  have e0 := evFn_code2 (P := Try.prog) (c := c7_10) (E := (E7 a16 a9 a10 a20 a13 a15 a18)) (lr := loopLim) (kp := kp7) (fn := Try.f7) (args := [(V.agg [(V.i .u8 t0_0), (V.i .u8 t0_1), (V.i .u8 t0_2), (V.i .u8 t0_3), (V.i .u8 t0_4), (V.i .u8 t0_5), (V.i .u8 t0_6)]), (V.sl t1), (V.sl t2)]) H K (by kernel_rfl) (Nat.le_of_ble_eq_true (by kernel_rfl)) (by kernel_rfl)
  have e1 : ev Try.prog (E7 a16 a9 a10 a20 a13 a15 a18) loopLim Try.f7.ntmps kp7 c7_10 (argFr 0 [(V.agg [(V.i .u8 t0_0), (V.i .u8 t0_1), (V.i .u8 t0_2), (V.i .u8 t0_3), (V.i .u8 t0_4), (V.i .u8 t0_5), (V.i .u8 t0_6)]), (V.sl t1), (V.sl t2)]) H (kFn Try.prog Try.f7.results.toList K) = ev Try.prog (E7 a16 a9 a10 a20 a13 a15 a18) loopLim Try.f7.ntmps kp7 c7_10 [(0, (V.agg [(V.i .u8 t0_0), (V.i .u8 t0_1), (V.i .u8 t0_2), (V.i .u8 t0_3), (V.i .u8 t0_4), (V.i .u8 t0_5), (V.i .u8 t0_6)])), (1, (V.sl t1)), (2, (V.sl t2))] H (kFn Try.prog Try.f7.results.toList K) := by kernel_rfl
  refine (e0.trans e1).trans ?_
  delta g7_r
  exact (g7_p12_eq a16 a9 a10 a20 a13 a15 a18 la16 la9 la10 la20 la13 la15 la18 t0_0 t0_1 t0_2 t0_3 t0_4 t0_5 t0_6 t1 t2 H (kFn Try.prog Try.f7.results.toList K)).trans (congrArg (g7_p12 a16 a9 a10 a20 a13 a15 a18 R t0_0 t0_1 t0_2 t0_3 t0_4 t0_5 t0_6 t1 t2 H) (funext fun t6 => funext fun H => h0 t6 H))
theorem g7_ok {a16 : T16} {a9 : T9} {a10 : T10} {a20 : T20} {a13 : T13} {a15 : T15} {a18 : T18} (oa16 : FunOK Try.prog 16 (w16 a16)) (oa9 : FunOK Try.prog 9 (w9 a9)) (oa10 : FunOK Try.prog 10 (w10 a10)) (oa20 : FunOK Try.prog 20 (w20 a20)) (oa13 : FunOK Try.prog 13 (w13 a13)) (oa15 : FunOK Try.prog 15 (w15 a15)) (oa18 : FunOK Try.prog 18 (w18 a18)) (la16 : Lin16 a16) (la9 : Lin9 a9) (la10 : Lin10 a10) (la20 : Lin20 a20) (la13 : Lin13 a13) (la15 : Lin15 a15) (la18 : Lin18 a18) : FunOK Try.prog 7 (w7 (g7_r a16 a9 a10 a20 a13 a15 a18)) := by
  refine (runF_ok (E7_good oa16 oa9 oa10 oa20 oa13 oa15 oa18 la16 la9 la10 la20 la13 la15 la18) mixed lim_ok Try.func7 (by kernel_rfl) kp7).of_le fun R args H K r hk => ?_
  unfold w7 at hk
  split at hk
  · exact (g7_fn a16 a9 a10 a20 a13 a15 a18 la16 la9 la10 la20 la13 la15 la18 _ _ _ _ _ _ _ _ _ H K).trans hk
  · cases hk
end Go.Proofs.Ytkldpkemnmmbgaa

