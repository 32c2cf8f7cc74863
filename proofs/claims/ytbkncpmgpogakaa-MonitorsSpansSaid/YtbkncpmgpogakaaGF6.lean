/- Printed: functions as the machine runs them. -/
import Derived.Test.YtbkncpmgpogakaaGT
namespace Go.Proofs.Ytbkncpmgpogakaa
open Go AM Go.RowKit
set_option linter.unusedVariables false
def kp6 : Nat → Option (List Nat) := kpOf [(0, [1, 2]), (1, [1, 2, 17]), (2, [4]), (3, [1, 2]), (4, [1, 2, 5, 6]), (5, [1, 2, 5, 30]), (6, [4]), (7, [1, 5, 7, 8]), (8, [5, 7, 8, 11]), (9, [5, 7, 8, 11, 12]), (10, [5, 7, 8, 11, 12, 13]), (11, [5, 7, 8, 11, 12, 13, 43]), (12, [5, 7, 8, 11, 12, 13]), (13, [5, 7, 8, 11, 12, 13, 50]), (14, [5, 7, 8, 11, 12, 13]), (15, [7, 8, 11, 12, 14]), (16, [76]), (17, [4]), (18, [4]), (100000, [5, 7, 8, 11, 12]), (100001, [5, 7, 8, 11, 12, 13]), (200000, [5, 7, 8, 11, 12, 13]), (200001, [5, 7, 8, 11, 12, 13]), (300000, [4]), (400017, [1, 2]), (400030, [1, 2, 5]), (400043, [5, 7, 8, 11, 12, 13]), (400050, [5, 7, 8, 11, 12, 13]), (400076, [])]
def E6 (a9 : T9) (a10 : T10) (a12 : T12) (a11 : T11) (a14 : T14) : FEnv := [(9, w9 a9), (10, w10 a10), (12, w12 a12), (11, w11 a11), (14, w14 a14)]
theorem E6_good {a9 : T9} {a10 : T10} {a12 : T12} {a11 : T11} {a14 : T14} (oa9 : FunOK Try.prog 9 (w9 a9)) (oa10 : FunOK Try.prog 10 (w10 a10)) (oa12 : FunOK Try.prog 12 (w12 a12)) (oa11 : FunOK Try.prog 11 (w11 a11)) (oa14 : FunOK Try.prog 14 (w14 a14)) (la9 : Lin9 a9) (la10 : Lin10 a10) (la12 : Lin12 a12) (la11 : Lin11 a11) (la14 : Lin14 a14) : EnvGood Try.prog (E6 a9 a10 a12 a11 a14) := ((((((EnvGood.nil _).cons oa14 (w14_lin la14)).cons oa11 (w11_lin la11)).cons oa12 (w12_lin la12)).cons oa10 (w10_lin la10)).cons oa9 (w9_lin la9))
theorem E6_lin {a9 : T9} {a10 : T10} {a12 : T12} {a11 : T11} {a14 : T14} (la9 : Lin9 a9) (la10 : Lin10 a10) (la12 : Lin12 a12) (la11 : Lin11 a11) (la14 : Lin14 a14) : EnvLin (E6 a9 a10 a12 a11 a14) := by
  intro g F h
  simp only [E6, List.mem_cons, List.not_mem_nil, or_false] at h
  rcases h with h | h | h | h | h
  · cases h; exact w9_lin la9
  · cases h; exact w10_lin la10
  · cases h; exact w12_lin la12
  · cases h; exact w11_lin la11
  · cases h; exact w14_lin la14
noncomputable def b6 : Code := Try.f6.body.getD .skip
noncomputable def c6_0 : Code := (.seq (codeAt [1, 1, 1, 1, 1, 1, 1, 1, 0, 1, 0, 0, 0, 0] b6) (.seq (.cond (.tmp 43) .skip (.exit 0)) (.seq (.block 1 (.seq (codeAt [1, 1, 1, 1, 1, 1, 1, 1, 0, 1, 0, 0, 1, 0, 0, 0] b6) (.cond (.tmp 50) (codeAt [1, 1, 1, 1, 1, 1, 1, 1, 0, 1, 0, 0, 1, 0, 0, 1, 0] b6) .skip))) (codeAt [1, 1, 1, 1, 1, 1, 1, 1, 0, 1, 0, 0, 1, 1] b6))))
noncomputable def c6_1 : Code := (.loop c6_0)
noncomputable def c6_2 : Code := (.block 0 c6_1)
noncomputable def c6_3 : Code := (.seq (codeAt [1, 1, 1, 1, 1, 1, 1, 1, 1, 0] b6) (.seq (codeAt [1, 1, 1, 1, 1, 1, 1, 1, 1, 1, 0, 0] b6) (.seq (.cond (.tmp 76) (.seq (codeAt [1, 1, 1, 1, 1, 1, 1, 1, 1, 1, 0, 1, 0, 0] b6) .ret) .skip) (.seq (codeAt [1, 1, 1, 1, 1, 1, 1, 1, 1, 1, 1, 0] b6) .ret))))
noncomputable def c6_4 : Code := (.seq c6_2 c6_3)
noncomputable def c6_5 : Code := (.seq (codeAt [0] b6) (.seq (codeAt [1, 0, 0] b6) (.seq (.cond (.tmp 17) (.seq (codeAt [1, 0, 1, 0, 0] b6) .ret) .skip) (.seq (codeAt [1, 1, 0] b6) (.seq (codeAt [1, 1, 1, 0] b6) (.seq (codeAt [1, 1, 1, 1, 0, 0] b6) (.seq (.cond (.tmp 30) (.seq (codeAt [1, 1, 1, 1, 0, 1, 0, 0] b6) .ret) .skip) (.seq (codeAt [1, 1, 1, 1, 1, 0] b6) (.seq (codeAt [1, 1, 1, 1, 1, 1, 0] b6) (.seq (codeAt [1, 1, 1, 1, 1, 1, 1, 0] b6) (.seq (codeAt [1, 1, 1, 1, 1, 1, 1, 1, 0, 0] b6) c6_4)))))))))))
noncomputable def g6_p0 (a9 : T9) (a10 : T10) (a12 : T12) (a11 : T11) (a14 : T14) (R : Type) (t0_0 : Int) (t0_1 : Int) (t0_2 : Int) (t0_3 : Int) (t0_4 : Int) (t1 : ByteArray) (H : Heap) (kN : V → Int → Int → Sl → Int → Int → Heap → Option R) (kR : Bool → Heap → Option R) : Option R :=
  alo H (.cells [(V.i .u8 t0_0), (V.i .u8 t0_1), (V.i .u8 t0_2), (V.i .u8 t0_3), (V.i .u8 t0_4)] 23 false) fun i138 h139 =>
  sel (decide (((t1.size : Nat) : Int) > (300 : Int))) (
    a9 R h139 fun x140 h141 =>
    kR x140 h141) (
    ((h139).st i138 (0 + 0) (V.i .u8 (0 : Int))).bind fun h143 =>
    ((h143).ldI .u8 i138 (0 + 0)).bind fun x144 =>
    ((h143).ldI .u8 i138 (0 + 1)).bind fun x145 =>
    ((h143).ldI .u8 i138 (0 + 2)).bind fun x146 =>
    ((h143).ldI .u8 i138 (0 + 3)).bind fun x147 =>
    ((h143).ldI .u8 i138 (0 + 4)).bind fun x148 =>
    a10 R x144 x145 x146 x147 x148 h143 fun x149 x150 h151 =>
    if (V.one x149) = true then (
      sel (x150 != (0 : Int)) (
        kR false h151) (
        ((ifNil x149)).bind fun x152 =>
        sel x152 (
          kR false h151) (
          ((h151).ldI .u8 i138 (0 + 0)).bind fun x153 =>
          ((h151).ldI .u8 i138 (0 + 1)).bind fun x154 =>
          ((h151).ldI .u8 i138 (0 + 2)).bind fun x155 =>
          ((h151).ldI .u8 i138 (0 + 3)).bind fun x156 =>
          ((h151).ldI .u8 i138 (0 + 4)).bind fun x157 =>
          a12 R x153 x154 x155 x156 x157 h151 fun x158 x159 x160 x161 h162 =>
          a11 R t1 h162 fun x163 h164 =>
          kN x149 x158 x159 x163 (0 : Int) (0 : Int) h164)))
    else (
      none))
theorem g6_p0_eq (a9 : T9) (a10 : T10) (a12 : T12) (a11 : T11) (a14 : T14) {R : Type} (c2 : Code) (t0_0 : Int) (t0_1 : Int) (t0_2 : Int) (t0_3 : Int) (t0_4 : Int) (t1 : ByteArray) (H : Heap) (K : Ex → Fr → Heap → Option R) : ev Try.prog (E6 a9 a10 a12 a11 a14) loopLim Try.f6.ntmps kp6 (.seq (codeAt [0] b6) (.seq (codeAt [1, 0, 0] b6) (.seq (.cond (.tmp 17) (.seq (codeAt [1, 0, 1, 0, 0] b6) .ret) .skip) (.seq (codeAt [1, 1, 0] b6) (.seq (codeAt [1, 1, 1, 0] b6) (.seq (codeAt [1, 1, 1, 1, 0, 0] b6) (.seq (.cond (.tmp 30) (.seq (codeAt [1, 1, 1, 1, 0, 1, 0, 0] b6) .ret) .skip) (.seq (codeAt [1, 1, 1, 1, 1, 0] b6) (.seq (codeAt [1, 1, 1, 1, 1, 1, 0] b6) (.seq (codeAt [1, 1, 1, 1, 1, 1, 1, 0] b6) (.seq (codeAt [1, 1, 1, 1, 1, 1, 1, 1, 0, 0] b6) c2))))))))))) [(0, (V.agg [(V.i .u8 t0_0), (V.i .u8 t0_1), (V.i .u8 t0_2), (V.i .u8 t0_3), (V.i .u8 t0_4)])), (1, (V.s t1))] H K = g6_p0 a9 a10 a12 a11 a14 R t0_0 t0_1 t0_2 t0_3 t0_4 t1 H (fun t5 t7 t8 t11 t12 t13 H => ev Try.prog (E6 a9 a10 a12 a11 a14) loopLim Try.f6.ntmps kp6 c2 [(5, t5), (7, (V.i .i64 t7)), (8, (V.i .i64 t8)), (11, (V.sl t11)), (12, (V.i .i64 t12)), (13, (V.i .i64 t13))] H K) (fun t4 H => K .ret [(4, (V.b t4))] H) := by kernel_rfl
theorem g6_p0_lin {a9 : T9} {a10 : T10} {a12 : T12} {a11 : T11} {a14 : T14} (la9 : Lin9 a9) (la10 : Lin10 a10) (la12 : Lin12 a12) (la11 : Lin11 a11) (la14 : Lin14 a14) {R S : Type} {k : S → Option R} {t0_0 : Int} {t0_1 : Int} {t0_2 : Int} {t0_3 : Int} {t0_4 : Int} {t1 : ByteArray} {H : Heap} {fkN : V → Int → Int → Sl → Int → Int → Heap → Option R} {gkN : V → Int → Int → Sl → Int → Int → Heap → Option S} {fkR : Bool → Heap → Option R} {gkR : Bool → Heap → Option S} (hkN : ∀ t5 t7 t8 t11 t12 t13 H, fkN t5 t7 t8 t11 t12 t13 H = (gkN t5 t7 t8 t11 t12 t13 H).bind k) (hkR : ∀ t4 H, fkR t4 H = (gkR t4 H).bind k) : g6_p0 a9 a10 a12 a11 a14 R t0_0 t0_1 t0_2 t0_3 t0_4 t1 H fkN fkR = (g6_p0 a9 a10 a12 a11 a14 S t0_0 t0_1 t0_2 t0_3 t0_4 t1 H gkN gkR).bind k := by
  delta g6_p0; exact (
    alo_lin fun i138 h139 =>
    sl_lin (
      la9.l fun x140 h141 =>
      hkR _ _) (
      bl fun h143 =>
      bl fun x144 =>
      bl fun x145 =>
      bl fun x146 =>
      bl fun x147 =>
      bl fun x148 =>
      la10.l fun x149 x150 h151 =>
      il (
        sl_lin (
          hkR _ _) (
          bl fun x152 =>
          sl_lin (
            hkR _ _) (
            bl fun x153 =>
            bl fun x154 =>
            bl fun x155 =>
            bl fun x156 =>
            bl fun x157 =>
            la12.l fun x158 x159 x160 x161 h162 =>
            la11.l fun x163 h164 =>
            hkN _ _ _ _ _ _ _))) (
        rfl)))
noncomputable def g6_p1 (a9 : T9) (a10 : T10) (a12 : T12) (a11 : T11) (a14 : T14) (R : Type) (t5 : V) (t7 : Int) (t8 : Int) (t11 : Sl) (t12 : Int) (t13 : Int) (H : Heap) (kN : V → Int → Int → Sl → Int → Int → Heap → Option R) (kE0 : V → Int → Int → Sl → Int → Heap → Option R) : Option R :=
  sel (decide (t13 < ((t11.len : Nat) : Int))) (
    if 0 ≤ t13 ∧ t13 < ((t11.len : Nat) : Int) then (
      (t11.a).bind fun q165 =>
      ((H).ldB q165.1 (q165.2 + Int.toNat t13 * 1)).bind fun x166 =>
      sel (!x166) (
        kN t5 t7 t8 t11 (IntKind.wrap .i64 (t12 + (1 : Int))) (IntKind.wrap .i64 (t13 + (1 : Int))) H) (
        kN t5 t7 t8 t11 t12 (IntKind.wrap .i64 (t13 + (1 : Int))) H))
    else (
      none)) (
    kE0 t5 t7 t8 t11 t12 H)
theorem g6_p1_eq (a9 : T9) (a10 : T10) (a12 : T12) (a11 : T11) (a14 : T14) (la9 : Lin9 a9) (la10 : Lin10 a10) (la12 : Lin12 a12) (la11 : Lin11 a11) (la14 : Lin14 a14) {R : Type} (t5 : V) (t7 : Int) (t8 : Int) (t11 : Sl) (t12 : Int) (t13 : Int) (H : Heap) (K : Ex → Fr → Heap → Option R) : ev Try.prog (E6 a9 a10 a12 a11 a14) loopLim Try.f6.ntmps kp6 c6_0 [(5, t5), (7, (V.i .i64 t7)), (8, (V.i .i64 t8)), (11, (V.sl t11)), (12, (V.i .i64 t12)), (13, (V.i .i64 t13))] H K = g6_p1 a9 a10 a12 a11 a14 R t5 t7 t8 t11 t12 t13 H (fun t5 t7 t8 t11 t12 t13 H => K .normal [(5, t5), (7, (V.i .i64 t7)), (8, (V.i .i64 t8)), (11, (V.sl t11)), (12, (V.i .i64 t12)), (13, (V.i .i64 t13))] H) (fun t5 t7 t8 t11 t12 H => K (.exit 0) [(5, t5), (7, (V.i .i64 t7)), (8, (V.i .i64 t8)), (11, (V.sl t11)), (12, (V.i .i64 t12))] H) := by kernel_rfl
theorem g6_p1_lin {a9 : T9} {a10 : T10} {a12 : T12} {a11 : T11} {a14 : T14} (la9 : Lin9 a9) (la10 : Lin10 a10) (la12 : Lin12 a12) (la11 : Lin11 a11) (la14 : Lin14 a14) {R S : Type} {k : S → Option R} {t5 : V} {t7 : Int} {t8 : Int} {t11 : Sl} {t12 : Int} {t13 : Int} {H : Heap} {fkN : V → Int → Int → Sl → Int → Int → Heap → Option R} {gkN : V → Int → Int → Sl → Int → Int → Heap → Option S} {fkE0 : V → Int → Int → Sl → Int → Heap → Option R} {gkE0 : V → Int → Int → Sl → Int → Heap → Option S} (hkN : ∀ t5 t7 t8 t11 t12 t13 H, fkN t5 t7 t8 t11 t12 t13 H = (gkN t5 t7 t8 t11 t12 t13 H).bind k) (hkE0 : ∀ t5 t7 t8 t11 t12 H, fkE0 t5 t7 t8 t11 t12 H = (gkE0 t5 t7 t8 t11 t12 H).bind k) : g6_p1 a9 a10 a12 a11 a14 R t5 t7 t8 t11 t12 t13 H fkN fkE0 = (g6_p1 a9 a10 a12 a11 a14 S t5 t7 t8 t11 t12 t13 H gkN gkE0).bind k := by
  delta g6_p1; exact (
    sl_lin (
      il (
        bl fun q165 =>
        bl fun x166 =>
        sl_lin (
          hkN _ _ _ _ _ _ _) (
          hkN _ _ _ _ _ _ _)) (
        rfl)) (
      hkE0 _ _ _ _ _ _))
abbrev g6_p2_S := V × Int × Int × Sl × Int × Int
abbrev g6_p2_O := V × Int × Int × Sl × Int
def g6_p2_es (s : g6_p2_S) : Fr := [(5, s.1), (7, (V.i .i64 s.2.1)), (8, (V.i .i64 s.2.2.1)), (11, (V.sl s.2.2.2.1)), (12, (V.i .i64 s.2.2.2.2.1)), (13, (V.i .i64 s.2.2.2.2.2))]
def g6_p2_er (r : g6_p2_O) : Ex × Fr := ((.exit 0), [(5, r.1), (7, (V.i .i64 r.2.1)), (8, (V.i .i64 r.2.2.1)), (11, (V.sl r.2.2.2.1)), (12, (V.i .i64 r.2.2.2.2))])
noncomputable def g6_p2_b (a9 : T9) (a10 : T10) (a12 : T12) (a11 : T11) (a14 : T14) (s : g6_p2_S) (H : Heap) : Option (Rd g6_p2_S g6_p2_O × Heap) :=
  g6_p1 a9 a10 a12 a11 a14 _ s.1 s.2.1 s.2.2.1 s.2.2.2.1 s.2.2.2.2.1 s.2.2.2.2.2 H (fun t5 t7 t8 t11 t12 t13 H => some (.go (t5, t7, t8, t11, t12, t13), H)) (fun t5 t7 t8 t11 t12 H => some (.up (t5, t7, t8, t11, t12), H))
noncomputable def g6_p2 (a9 : T9) (a10 : T10) (a12 : T12) (a11 : T11) (a14 : T14) (R : Type) (t5 : V) (t7 : Int) (t8 : Int) (t11 : Sl) (t12 : Int) (t13 : Int) (H : Heap) (kE0 : V → Int → Int → Sl → Int → Heap → Option R) : Option R :=
  (tlim (g6_p2_b a9 a10 a12 a11 a14) (t5, t7, t8, t11, t12, t13) H).bind fun p => kE0 p.1.1 p.1.2.1 p.1.2.2.1 p.1.2.2.2.1 p.1.2.2.2.2 p.2
theorem g6_p2_lin {a9 : T9} {a10 : T10} {a12 : T12} {a11 : T11} {a14 : T14} (la9 : Lin9 a9) (la10 : Lin10 a10) (la12 : Lin12 a12) (la11 : Lin11 a11) (la14 : Lin14 a14) {R S : Type} {k : S → Option R} {t5 : V} {t7 : Int} {t8 : Int} {t11 : Sl} {t12 : Int} {t13 : Int} {H : Heap} {fkE0 : V → Int → Int → Sl → Int → Heap → Option R} {gkE0 : V → Int → Int → Sl → Int → Heap → Option S} (hkE0 : ∀ t5 t7 t8 t11 t12 H, fkE0 t5 t7 t8 t11 t12 H = (gkE0 t5 t7 t8 t11 t12 H).bind k) : g6_p2 a9 a10 a12 a11 a14 R t5 t7 t8 t11 t12 t13 H fkE0 = (g6_p2 a9 a10 a12 a11 a14 S t5 t7 t8 t11 t12 t13 H gkE0).bind k := by
  exact bl fun p => hkE0 _ _ _ _ _ _
theorem g6_p2_eq (a9 : T9) (a10 : T10) (a12 : T12) (a11 : T11) (a14 : T14) (la9 : Lin9 a9) (la10 : Lin10 a10) (la12 : Lin12 a12) (la11 : Lin11 a11) (la14 : Lin14 a14) {R : Type} (t5 : V) (t7 : Int) (t8 : Int) (t11 : Sl) (t12 : Int) (t13 : Int) (H : Heap) (K : Ex → Fr → Heap → Option R) : ev Try.prog (E6 a9 a10 a12 a11 a14) loopLim Try.f6.ntmps kp6 c6_1 [(5, t5), (7, (V.i .i64 t7)), (8, (V.i .i64 t8)), (11, (V.sl t11)), (12, (V.i .i64 t12)), (13, (V.i .i64 t13))] H K = g6_p2 a9 a10 a12 a11 a14 R t5 t7 t8 t11 t12 t13 H (fun t5 t7 t8 t11 t12 H => K (.exit 0) [(5, t5), (7, (V.i .i64 t7)), (8, (V.i .i64 t8)), (11, (V.sl t11)), (12, (V.i .i64 t12))] H) := by
  show ev Try.prog (E6 a9 a10 a12 a11 a14) loopLim Try.f6.ntmps kp6 (.loop c6_0) [(5, t5), (7, (V.i .i64 t7)), (8, (V.i .i64 t8)), (11, (V.sl t11)), (12, (V.i .i64 t12)), (13, (V.i .i64 t13))] H K = _
  delta g6_p2
  refine (ev_tlim (b := g6_p2_b a9 a10 a12 a11 a14) (es := g6_p2_es) (er := g6_p2_er) (by intro r; exact nofun) (fun s H => ?_) (t5, t7, t8, t11, t12, t13) H K).trans (bc fun p => rfl)
  exact (g6_p1_eq a9 a10 a12 a11 a14 la9 la10 la12 la11 la14 s.1 s.2.1 s.2.2.1 s.2.2.2.1 s.2.2.2.2.1 s.2.2.2.2.2 H ret3).trans (g6_p1_lin la9 la10 la12 la11 la14 (fun _ _ _ _ _ _ _ => rfl) (fun _ _ _ _ _ _ => rfl))
noncomputable def g6_p3 (a9 : T9) (a10 : T10) (a12 : T12) (a11 : T11) (a14 : T14) (R : Type) (t5 : V) (t7 : Int) (t8 : Int) (t11 : Sl) (t12 : Int) (t13 : Int) (H : Heap) (kN : V → Int → Int → Sl → Int → Heap → Option R) : Option R :=
  g6_p2 a9 a10 a12 a11 a14 R t5 t7 t8 t11 t12 t13 H (fun t5 t7 t8 t11 t12 H => kN t5 t7 t8 t11 t12 H)
theorem g6_p3_lin {a9 : T9} {a10 : T10} {a12 : T12} {a11 : T11} {a14 : T14} (la9 : Lin9 a9) (la10 : Lin10 a10) (la12 : Lin12 a12) (la11 : Lin11 a11) (la14 : Lin14 a14) {R S : Type} {k : S → Option R} {t5 : V} {t7 : Int} {t8 : Int} {t11 : Sl} {t12 : Int} {t13 : Int} {H : Heap} {fkN : V → Int → Int → Sl → Int → Heap → Option R} {gkN : V → Int → Int → Sl → Int → Heap → Option S} (hkN : ∀ t5 t7 t8 t11 t12 H, fkN t5 t7 t8 t11 t12 H = (gkN t5 t7 t8 t11 t12 H).bind k) : g6_p3 a9 a10 a12 a11 a14 R t5 t7 t8 t11 t12 t13 H fkN = (g6_p3 a9 a10 a12 a11 a14 S t5 t7 t8 t11 t12 t13 H gkN).bind k := by
  exact g6_p2_lin la9 la10 la12 la11 la14 (fun _ _ _ _ _ _ => hkN _ _ _ _ _ _)
theorem g6_p3_eq (a9 : T9) (a10 : T10) (a12 : T12) (a11 : T11) (a14 : T14) (la9 : Lin9 a9) (la10 : Lin10 a10) (la12 : Lin12 a12) (la11 : Lin11 a11) (la14 : Lin14 a14) {R : Type} (t5 : V) (t7 : Int) (t8 : Int) (t11 : Sl) (t12 : Int) (t13 : Int) (H : Heap) (K : Ex → Fr → Heap → Option R) : ev Try.prog (E6 a9 a10 a12 a11 a14) loopLim Try.f6.ntmps kp6 c6_2 [(5, t5), (7, (V.i .i64 t7)), (8, (V.i .i64 t8)), (11, (V.sl t11)), (12, (V.i .i64 t12)), (13, (V.i .i64 t13))] H K = g6_p3 a9 a10 a12 a11 a14 R t5 t7 t8 t11 t12 t13 H (fun t5 t7 t8 t11 t12 H => K .normal [(5, t5), (7, (V.i .i64 t7)), (8, (V.i .i64 t8)), (11, (V.sl t11)), (12, (V.i .i64 t12))] H) := by
  show ev Try.prog (E6 a9 a10 a12 a11 a14) loopLim Try.f6.ntmps kp6 (.block 0 c6_1) [(5, t5), (7, (V.i .i64 t7)), (8, (V.i .i64 t8)), (11, (V.sl t11)), (12, (V.i .i64 t12)), (13, (V.i .i64 t13))] H K = _
  rw [ev_block]
  delta g6_p3
  exact (g6_p2_eq a9 a10 a12 a11 a14 la9 la10 la12 la11 la14 t5 t7 t8 t11 t12 t13 H (kBlock kp6 0 K))
noncomputable def g6_p4 (a9 : T9) (a10 : T10) (a12 : T12) (a11 : T11) (a14 : T14) (R : Type) (t5 : V) (t7 : Int) (t8 : Int) (t11 : Sl) (t12 : Int) (H : Heap) (kR : Bool → Heap → Option R) : Option R :=
  a14 R t5 t11 H fun x167 h168 =>
  if t8 = 0 then (
    none)
  else (
    sel (decide (t12 ≥ (IntKind.wrap .i64 (t7 + (IntKind.wrap .i64 (Int.tdiv ((t11.len : Nat) : Int) t8)))))) (
      sel (decide (x167 < (0 : Int))) (
        kR false h168) (
        sel (decide (t12 < t7)) (
          sel (decide (x167 ≥ (0 : Int))) (
            kR false h168) (
            a9 R h168 fun x169 h170 =>
            kR x169 h170)) (
          a9 R h168 fun x171 h172 =>
          kR x171 h172))) (
      sel (decide (t12 < t7)) (
        sel (decide (x167 ≥ (0 : Int))) (
          kR false h168) (
          a9 R h168 fun x173 h174 =>
          kR x173 h174)) (
        a9 R h168 fun x175 h176 =>
        kR x175 h176)))
theorem g6_p4_eq (a9 : T9) (a10 : T10) (a12 : T12) (a11 : T11) (a14 : T14) (la9 : Lin9 a9) (la10 : Lin10 a10) (la12 : Lin12 a12) (la11 : Lin11 a11) (la14 : Lin14 a14) {R : Type} (t5 : V) (t7 : Int) (t8 : Int) (t11 : Sl) (t12 : Int) (H : Heap) (K : Ex → Fr → Heap → Option R) : ev Try.prog (E6 a9 a10 a12 a11 a14) loopLim Try.f6.ntmps kp6 c6_3 [(5, t5), (7, (V.i .i64 t7)), (8, (V.i .i64 t8)), (11, (V.sl t11)), (12, (V.i .i64 t12))] H K = g6_p4 a9 a10 a12 a11 a14 R t5 t7 t8 t11 t12 H (fun t4 H => K .ret [(4, (V.b t4))] H) := by kernel_rfl
theorem g6_p4_lin {a9 : T9} {a10 : T10} {a12 : T12} {a11 : T11} {a14 : T14} (la9 : Lin9 a9) (la10 : Lin10 a10) (la12 : Lin12 a12) (la11 : Lin11 a11) (la14 : Lin14 a14) {R S : Type} {k : S → Option R} {t5 : V} {t7 : Int} {t8 : Int} {t11 : Sl} {t12 : Int} {H : Heap} {fkR : Bool → Heap → Option R} {gkR : Bool → Heap → Option S} (hkR : ∀ t4 H, fkR t4 H = (gkR t4 H).bind k) : g6_p4 a9 a10 a12 a11 a14 R t5 t7 t8 t11 t12 H fkR = (g6_p4 a9 a10 a12 a11 a14 S t5 t7 t8 t11 t12 H gkR).bind k := by
  delta g6_p4; exact (
    la14.l fun x167 h168 =>
    il (
      rfl) (
      sl_lin (
        sl_lin (
          hkR _ _) (
          sl_lin (
            sl_lin (
              hkR _ _) (
              la9.l fun x169 h170 =>
              hkR _ _)) (
            la9.l fun x171 h172 =>
            hkR _ _))) (
        sl_lin (
          sl_lin (
            hkR _ _) (
            la9.l fun x173 h174 =>
            hkR _ _)) (
          la9.l fun x175 h176 =>
          hkR _ _))))
noncomputable def g6_p5 (a9 : T9) (a10 : T10) (a12 : T12) (a11 : T11) (a14 : T14) (R : Type) (t5 : V) (t7 : Int) (t8 : Int) (t11 : Sl) (t12 : Int) (t13 : Int) (H : Heap) (kR : Bool → Heap → Option R) : Option R :=
  g6_p3 a9 a10 a12 a11 a14 R t5 t7 t8 t11 t12 t13 H (fun t5 t7 t8 t11 t12 H => g6_p4 a9 a10 a12 a11 a14 R t5 t7 t8 t11 t12 H (fun t4 H => kR t4 H))
theorem g6_p5_lin {a9 : T9} {a10 : T10} {a12 : T12} {a11 : T11} {a14 : T14} (la9 : Lin9 a9) (la10 : Lin10 a10) (la12 : Lin12 a12) (la11 : Lin11 a11) (la14 : Lin14 a14) {R S : Type} {k : S → Option R} {t5 : V} {t7 : Int} {t8 : Int} {t11 : Sl} {t12 : Int} {t13 : Int} {H : Heap} {fkR : Bool → Heap → Option R} {gkR : Bool → Heap → Option S} (hkR : ∀ t4 H, fkR t4 H = (gkR t4 H).bind k) : g6_p5 a9 a10 a12 a11 a14 R t5 t7 t8 t11 t12 t13 H fkR = (g6_p5 a9 a10 a12 a11 a14 S t5 t7 t8 t11 t12 t13 H gkR).bind k := by
  exact g6_p3_lin la9 la10 la12 la11 la14 (fun _ _ _ _ _ _ => g6_p4_lin la9 la10 la12 la11 la14 (fun _ _ => hkR _ _))
theorem g6_p5_eq (a9 : T9) (a10 : T10) (a12 : T12) (a11 : T11) (a14 : T14) (la9 : Lin9 a9) (la10 : Lin10 a10) (la12 : Lin12 a12) (la11 : Lin11 a11) (la14 : Lin14 a14) {R : Type} (t5 : V) (t7 : Int) (t8 : Int) (t11 : Sl) (t12 : Int) (t13 : Int) (H : Heap) (K : Ex → Fr → Heap → Option R) : ev Try.prog (E6 a9 a10 a12 a11 a14) loopLim Try.f6.ntmps kp6 c6_4 [(5, t5), (7, (V.i .i64 t7)), (8, (V.i .i64 t8)), (11, (V.sl t11)), (12, (V.i .i64 t12)), (13, (V.i .i64 t13))] H K = g6_p5 a9 a10 a12 a11 a14 R t5 t7 t8 t11 t12 t13 H (fun t4 H => K .ret [(4, (V.b t4))] H) := by
  show ev Try.prog (E6 a9 a10 a12 a11 a14) loopLim Try.f6.ntmps kp6 (.seq c6_2 c6_3) [(5, t5), (7, (V.i .i64 t7)), (8, (V.i .i64 t8)), (11, (V.sl t11)), (12, (V.i .i64 t12)), (13, (V.i .i64 t13))] H K = _
  rw [ev_seq]
  delta g6_p5
  exact (g6_p3_eq a9 a10 a12 a11 a14 la9 la10 la12 la11 la14 t5 t7 t8 t11 t12 t13 H (kSeq (fun fr H => ev Try.prog (E6 a9 a10 a12 a11 a14) loopLim Try.f6.ntmps kp6 c6_3 fr H K) K)).trans (congrArg (g6_p3 a9 a10 a12 a11 a14 R t5 t7 t8 t11 t12 t13 H) (funext fun t5 => funext fun t7 => funext fun t8 => funext fun t11 => funext fun t12 => funext fun H => (kSeq_n _ _ _ _).trans (g6_p4_eq a9 a10 a12 a11 a14 la9 la10 la12 la11 la14 t5 t7 t8 t11 t12 H K)))
noncomputable def g6_p6 (a9 : T9) (a10 : T10) (a12 : T12) (a11 : T11) (a14 : T14) (R : Type) (t0_0 : Int) (t0_1 : Int) (t0_2 : Int) (t0_3 : Int) (t0_4 : Int) (t1 : ByteArray) (H : Heap) (kR : Bool → Heap → Option R) : Option R :=
  g6_p0 a9 a10 a12 a11 a14 R t0_0 t0_1 t0_2 t0_3 t0_4 t1 H (fun t5 t7 t8 t11 t12 t13 H => g6_p5 a9 a10 a12 a11 a14 R t5 t7 t8 t11 t12 t13 H (fun t4 H => kR t4 H)) (fun t4 H => kR t4 H)
theorem g6_p6_lin {a9 : T9} {a10 : T10} {a12 : T12} {a11 : T11} {a14 : T14} (la9 : Lin9 a9) (la10 : Lin10 a10) (la12 : Lin12 a12) (la11 : Lin11 a11) (la14 : Lin14 a14) {R S : Type} {k : S → Option R} {t0_0 : Int} {t0_1 : Int} {t0_2 : Int} {t0_3 : Int} {t0_4 : Int} {t1 : ByteArray} {H : Heap} {fkR : Bool → Heap → Option R} {gkR : Bool → Heap → Option S} (hkR : ∀ t4 H, fkR t4 H = (gkR t4 H).bind k) : g6_p6 a9 a10 a12 a11 a14 R t0_0 t0_1 t0_2 t0_3 t0_4 t1 H fkR = (g6_p6 a9 a10 a12 a11 a14 S t0_0 t0_1 t0_2 t0_3 t0_4 t1 H gkR).bind k := by
  exact g6_p0_lin la9 la10 la12 la11 la14 (fun _ _ _ _ _ _ _ => g6_p5_lin la9 la10 la12 la11 la14 (fun _ _ => hkR _ _)) (fun _ _ => hkR _ _)
theorem g6_p6_eq (a9 : T9) (a10 : T10) (a12 : T12) (a11 : T11) (a14 : T14) (la9 : Lin9 a9) (la10 : Lin10 a10) (la12 : Lin12 a12) (la11 : Lin11 a11) (la14 : Lin14 a14) {R : Type} (t0_0 : Int) (t0_1 : Int) (t0_2 : Int) (t0_3 : Int) (t0_4 : Int) (t1 : ByteArray) (H : Heap) (K : Ex → Fr → Heap → Option R) : ev Try.prog (E6 a9 a10 a12 a11 a14) loopLim Try.f6.ntmps kp6 c6_5 [(0, (V.agg [(V.i .u8 t0_0), (V.i .u8 t0_1), (V.i .u8 t0_2), (V.i .u8 t0_3), (V.i .u8 t0_4)])), (1, (V.s t1))] H K = g6_p6 a9 a10 a12 a11 a14 R t0_0 t0_1 t0_2 t0_3 t0_4 t1 H (fun t4 H => K .ret [(4, (V.b t4))] H) := by
  show ev Try.prog (E6 a9 a10 a12 a11 a14) loopLim Try.f6.ntmps kp6 (.seq (codeAt [0] b6) (.seq (codeAt [1, 0, 0] b6) (.seq (.cond (.tmp 17) (.seq (codeAt [1, 0, 1, 0, 0] b6) .ret) .skip) (.seq (codeAt [1, 1, 0] b6) (.seq (codeAt [1, 1, 1, 0] b6) (.seq (codeAt [1, 1, 1, 1, 0, 0] b6) (.seq (.cond (.tmp 30) (.seq (codeAt [1, 1, 1, 1, 0, 1, 0, 0] b6) .ret) .skip) (.seq (codeAt [1, 1, 1, 1, 1, 0] b6) (.seq (codeAt [1, 1, 1, 1, 1, 1, 0] b6) (.seq (codeAt [1, 1, 1, 1, 1, 1, 1, 0] b6) (.seq (codeAt [1, 1, 1, 1, 1, 1, 1, 1, 0, 0] b6) c6_4))))))))))) [(0, (V.agg [(V.i .u8 t0_0), (V.i .u8 t0_1), (V.i .u8 t0_2), (V.i .u8 t0_3), (V.i .u8 t0_4)])), (1, (V.s t1))] H K = _
  delta g6_p6
  exact (g6_p0_eq a9 a10 a12 a11 a14 _ t0_0 t0_1 t0_2 t0_3 t0_4 t1 H K).trans (congr (congrArg (g6_p0 a9 a10 a12 a11 a14 R t0_0 t0_1 t0_2 t0_3 t0_4 t1 H) (funext fun t5 => funext fun t7 => funext fun t8 => funext fun t11 => funext fun t12 => funext fun t13 => funext fun H => g6_p5_eq a9 a10 a12 a11 a14 la9 la10 la12 la11 la14 t5 t7 t8 t11 t12 t13 H K)) rfl)
noncomputable def g6_r (a9 : T9) (a10 : T10) (a12 : T12) (a11 : T11) (a14 : T14) : T6 := fun R t0_0 t0_1 t0_2 t0_3 t0_4 t1 H K =>
  g6_p6 a9 a10 a12 a11 a14 R t0_0 t0_1 t0_2 t0_3 t0_4 t1 H (fun t4 H =>
    K t4 H)
theorem g6_r_lin {a9 : T9} {a10 : T10} {a12 : T12} {a11 : T11} {a14 : T14} (la9 : Lin9 a9) (la10 : Lin10 a10) (la12 : Lin12 a12) (la11 : Lin11 a11) (la14 : Lin14 a14) : Lin6 (g6_r a9 a10 a12 a11 a14) := by
  constructor
  intro R S k t0_0 t0_1 t0_2 t0_3 t0_4 t1 H f g h
  exact g6_p6_lin la9 la10 la12 la11 la14 (fun t4 H =>
    h _ _)
theorem g6_fn (a9 : T9) (a10 : T10) (a12 : T12) (a11 : T11) (a14 : T14) (la9 : Lin9 a9) (la10 : Lin10 a10) (la12 : Lin12 a12) (la11 : Lin11 a11) (la14 : Lin14 a14) {R : Type} (t0_0 : Int) (t0_1 : Int) (t0_2 : Int) (t0_3 : Int) (t0_4 : Int) (t1 : ByteArray) (H : Heap) (K : V → Heap → Option R) : evFn Try.prog (E6 a9 a10 a12 a11 a14) loopLim Try.f6 kp6 [(V.agg [(V.i .u8 t0_0), (V.i .u8 t0_1), (V.i .u8 t0_2), (V.i .u8 t0_3), (V.i .u8 t0_4)]), (V.s t1)] H K = g6_r a9 a10 a12 a11 a14 R t0_0 t0_1 t0_2 t0_3 t0_4 t1 H (fun r0 H => K (V.b r0) H) := by
  have h0 : ∀ (t4 : Bool) (H : Heap), kFn Try.prog Try.f6.results.toList K .ret [(4, (V.b t4))] H =
      K (V.b t4) H := by intros; kernel_rfl
  have e0 := evFn_code2 (P := Try.prog) (c := c6_5) (E := (E6 a9 a10 a12 a11 a14)) (lr := loopLim) (kp := kp6) (fn := Try.f6) (args := [(V.agg [(V.i .u8 t0_0), (V.i .u8 t0_1), (V.i .u8 t0_2), (V.i .u8 t0_3), (V.i .u8 t0_4)]), (V.s t1)]) H K (by kernel_rfl) (Nat.le_of_ble_eq_true (by kernel_rfl)) (by kernel_rfl)
  have e1 : ev Try.prog (E6 a9 a10 a12 a11 a14) loopLim Try.f6.ntmps kp6 c6_5 (argFr 0 [(V.agg [(V.i .u8 t0_0), (V.i .u8 t0_1), (V.i .u8 t0_2), (V.i .u8 t0_3), (V.i .u8 t0_4)]), (V.s t1)]) H (kFn Try.prog Try.f6.results.toList K) = ev Try.prog (E6 a9 a10 a12 a11 a14) loopLim Try.f6.ntmps kp6 c6_5 [(0, (V.agg [(V.i .u8 t0_0), (V.i .u8 t0_1), (V.i .u8 t0_2), (V.i .u8 t0_3), (V.i .u8 t0_4)])), (1, (V.s t1))] H (kFn Try.prog Try.f6.results.toList K) := by kernel_rfl
  refine (e0.trans e1).trans ?_
  delta g6_r
  exact (g6_p6_eq a9 a10 a12 a11 a14 la9 la10 la12 la11 la14 t0_0 t0_1 t0_2 t0_3 t0_4 t1 H (kFn Try.prog Try.f6.results.toList K)).trans (congrArg (g6_p6 a9 a10 a12 a11 a14 R t0_0 t0_1 t0_2 t0_3 t0_4 t1 H) (funext fun t4 => funext fun H => h0 t4 H))
theorem g6_ok {a9 : T9} {a10 : T10} {a12 : T12} {a11 : T11} {a14 : T14} (oa9 : FunOK Try.prog 9 (w9 a9)) (oa10 : FunOK Try.prog 10 (w10 a10)) (oa12 : FunOK Try.prog 12 (w12 a12)) (oa11 : FunOK Try.prog 11 (w11 a11)) (oa14 : FunOK Try.prog 14 (w14 a14)) (la9 : Lin9 a9) (la10 : Lin10 a10) (la12 : Lin12 a12) (la11 : Lin11 a11) (la14 : Lin14 a14) : FunOK Try.prog 6 (w6 (g6_r a9 a10 a12 a11 a14)) := by
  refine (runF_ok (E6_good oa9 oa10 oa12 oa11 oa14 la9 la10 la12 la11 la14) mixed lim_ok Try.func6 (by kernel_rfl) kp6).of_le fun R args H K r hk => ?_
  unfold w6 at hk
  split at hk
  · exact (g6_fn a9 a10 a12 a11 a14 la9 la10 la12 la11 la14 _ _ _ _ _ _ H K).trans hk
  · cases hk
end Go.Proofs.Ytbkncpmgpogakaa
