/- Printed: functions as the machine runs them. -/
import Derived.Test.YtobebcfkddimkaaGT
namespace Go.Proofs.Ytobebcfkddimkaa
open Go AM Go.RowKit
set_option linter.unusedVariables false
def kp18 : Nat → Option (List Nat) := kpOf [(0, [0, 1, 2]), (1, [0, 1, 2, 17]), (2, [6, 7]), (3, [0, 1, 2, 8]), (4, [0, 1, 2, 8, 27]), (5, [6, 7]), (6, [0, 1, 2, 8, 9]), (7, [0, 1, 2, 8, 9, 31, 32]), (8, [0, 1, 2, 8, 9, 31, 32, 33]), (9, [0, 1, 2, 8, 9, 10, 31, 32]), (10, [0, 1, 2, 8, 9, 10, 11, 31, 32]), (11, [0, 1, 2, 8, 9, 31, 32]), (12, [0, 1, 2, 8, 9, 31, 32]), (13, [6, 7]), (100000, [9]), (100001, [0, 1, 2, 8, 9, 31, 32]), (200000, [0, 1, 2, 8, 9, 31, 32]), (200001, [0, 1, 2, 8, 9, 31, 32]), (300000, [6, 7]), (400017, [0, 1, 2]), (400027, [0, 1, 2, 8]), (400033, [0, 1, 2, 8, 9, 31, 32])]
def E18 (a32 : T32) (a31 : T31) : FEnv := [(32, w32 a32), (31, w31 a31)]
theorem E18_good {a32 : T32} {a31 : T31} (oa32 : FunOK Try.prog 32 (w32 a32)) (oa31 : FunOK Try.prog 31 (w31 a31)) (la32 : Lin32 a32) (la31 : Lin31 a31) : EnvGood Try.prog (E18 a32 a31) := (((EnvGood.nil _).cons oa31 (w31_lin la31)).cons oa32 (w32_lin la32))
theorem E18_lin {a32 : T32} {a31 : T31} (la32 : Lin32 a32) (la31 : Lin31 a31) : EnvLin (E18 a32 a31) := by
  intro g F h
  simp only [E18, List.mem_cons, List.not_mem_nil, or_false] at h
  rcases h with h | h
  · cases h; exact w32_lin la32
  · cases h; exact w31_lin la31
def lv18 : Nat → Bool := lvOf []
noncomputable def b18 : Code := Try.f18.body.getD .skip
noncomputable def c18_0 : Code := (.seq (codeAt [1, 1, 1, 1, 1, 0, 1, 0, 0, 0] b18) (.seq (.cond (.tmp 33) .skip (.exit 0)) (.seq (.block 1 (.seq (codeAt [1, 1, 1, 1, 1, 0, 1, 0, 0, 1, 1, 0, 0, 0] b18) (.seq (codeAt [1, 1, 1, 1, 1, 0, 1, 0, 0, 1, 1, 0, 0, 1, 0] b18) (codeAt [1, 1, 1, 1, 1, 0, 1, 0, 0, 1, 1, 0, 0, 1, 1] b18)))) (codeAt [1, 1, 1, 1, 1, 0, 1, 0, 0, 1, 1, 1] b18))))
noncomputable def c18_1 : Code := (.loop c18_0)
noncomputable def c18_2 : Code := (.block 0 c18_1)
noncomputable def c18_3 : Code := (.seq (codeAt [1, 1, 1, 1, 1, 1, 0] b18) .ret)
noncomputable def c18_4 : Code := (.seq c18_2 c18_3)
noncomputable def c18_5 : Code := (.seq (codeAt [0] b18) (.seq (codeAt [1, 0, 0] b18) (.seq (.cond (.tmp 17) (.seq (codeAt [1, 0, 1, 0, 0] b18) .ret) .skip) (.seq (codeAt [1, 1, 0] b18) (.seq (codeAt [1, 1, 1, 0, 0] b18) (.seq (.cond (.tmp 27) (.seq (codeAt [1, 1, 1, 0, 1, 0, 0] b18) .ret) .skip) (.seq (codeAt [1, 1, 1, 1, 0] b18) (.seq (codeAt [1, 1, 1, 1, 1, 0, 0] b18) c18_4))))))))
noncomputable def g18_p0 (a32 : T32) (a31 : T31) (R : Type) (t0 : Int) (t1 : Sl) (t2 : Int) (H : Heap) (kN : Int → Sl → Int → Int → Sl → Int → Int → Heap → Option R) (kR : Sl → Int → Heap → Option R) : Option R :=
  sel (decide (t2 < (1 : Int))) (
    kR (Sl.mk none 0 (.ex 0)) (1 : Int) H) (
    sel (decide (t2 > (256 : Int))) (
      kR (Sl.mk none 0 (.ex 0)) (1 : Int) H) (
      if t2 = 0 then (
        none)
      else (
        sel (decide ((if (IntKind.wrap .i64 (Int.tdiv (IntKind.wrap .i64 ((IntKind.wrap .i64 (((t1.len : Nat) : Int) + t2)) - (1 : Int))) t2)) > (1 : Int) then (IntKind.wrap .i64 (Int.tdiv (IntKind.wrap .i64 ((IntKind.wrap .i64 (((t1.len : Nat) : Int) + t2)) - (1 : Int))) t2)) else (1 : Int)) > (16 : Int))) (
          kR (Sl.mk none 0 (.ex 0)) (3 : Int) H) (
          if 0 ≤ (if (IntKind.wrap .i64 (Int.tdiv (IntKind.wrap .i64 ((IntKind.wrap .i64 (((t1.len : Nat) : Int) + t2)) - (1 : Int))) t2)) > (1 : Int) then (IntKind.wrap .i64 (Int.tdiv (IntKind.wrap .i64 ((IntKind.wrap .i64 (((t1.len : Nat) : Int) + t2)) - (1 : Int))) t2)) else (1 : Int)) ∧ (if (IntKind.wrap .i64 (Int.tdiv (IntKind.wrap .i64 ((IntKind.wrap .i64 (((t1.len : Nat) : Int) + t2)) - (1 : Int))) t2)) > (1 : Int) then (IntKind.wrap .i64 (Int.tdiv (IntKind.wrap .i64 ((IntKind.wrap .i64 (((t1.len : Nat) : Int) + t2)) - (1 : Int))) t2)) else (1 : Int)) ≤ (if (IntKind.wrap .i64 (Int.tdiv (IntKind.wrap .i64 ((IntKind.wrap .i64 (((t1.len : Nat) : Int) + t2)) - (1 : Int))) t2)) > (1 : Int) then (IntKind.wrap .i64 (Int.tdiv (IntKind.wrap .i64 ((IntKind.wrap .i64 (((t1.len : Nat) : Int) + t2)) - (1 : Int))) t2)) else (1 : Int)) ∧ (if (IntKind.wrap .i64 (Int.tdiv (IntKind.wrap .i64 ((IntKind.wrap .i64 (((t1.len : Nat) : Int) + t2)) - (1 : Int))) t2)) > (1 : Int) then (IntKind.wrap .i64 (Int.tdiv (IntKind.wrap .i64 ((IntKind.wrap .i64 (((t1.len : Nat) : Int) + t2)) - (1 : Int))) t2)) else (1 : Int)) ≤ 9223372036854775807 ∧ (if (IntKind.wrap .i64 (Int.tdiv (IntKind.wrap .i64 ((IntKind.wrap .i64 (((t1.len : Nat) : Int) + t2)) - (1 : Int))) t2)) > (1 : Int) then (IntKind.wrap .i64 (Int.tdiv (IntKind.wrap .i64 ((IntKind.wrap .i64 (((t1.len : Nat) : Int) + t2)) - (1 : Int))) t2)) else (1 : Int)) * ((32 : Nat) : Int) ≤ 281474976710656 then (
            ((zeroCellsV Try.prog 45 (Int.toNat (if (IntKind.wrap .i64 (Int.tdiv (IntKind.wrap .i64 ((IntKind.wrap .i64 (((t1.len : Nat) : Int) + t2)) - (1 : Int))) t2)) > (1 : Int) then (IntKind.wrap .i64 (Int.tdiv (IntKind.wrap .i64 ((IntKind.wrap .i64 (((t1.len : Nat) : Int) + t2)) - (1 : Int))) t2)) else (1 : Int))))).bind fun vs4 =>
            alo H (.cells vs4 45 false) fun i5 h6 =>
            kN t0 t1 t2 (if (IntKind.wrap .i64 (Int.tdiv (IntKind.wrap .i64 ((IntKind.wrap .i64 (((t1.len : Nat) : Int) + t2)) - (1 : Int))) t2)) > (1 : Int) then (IntKind.wrap .i64 (Int.tdiv (IntKind.wrap .i64 ((IntKind.wrap .i64 (((t1.len : Nat) : Int) + t2)) - (1 : Int))) t2)) else (1 : Int)) (Sl.mk (some (i5, 0)) (Int.toNat (if (IntKind.wrap .i64 (Int.tdiv (IntKind.wrap .i64 ((IntKind.wrap .i64 (((t1.len : Nat) : Int) + t2)) - (1 : Int))) t2)) > (1 : Int) then (IntKind.wrap .i64 (Int.tdiv (IntKind.wrap .i64 ((IntKind.wrap .i64 (((t1.len : Nat) : Int) + t2)) - (1 : Int))) t2)) else (1 : Int))) (.ex (Int.toNat (if (IntKind.wrap .i64 (Int.tdiv (IntKind.wrap .i64 ((IntKind.wrap .i64 (((t1.len : Nat) : Int) + t2)) - (1 : Int))) t2)) > (1 : Int) then (IntKind.wrap .i64 (Int.tdiv (IntKind.wrap .i64 ((IntKind.wrap .i64 (((t1.len : Nat) : Int) + t2)) - (1 : Int))) t2)) else (1 : Int))))) (((Sl.mk (some (i5, 0)) (Int.toNat (if (IntKind.wrap .i64 (Int.tdiv (IntKind.wrap .i64 ((IntKind.wrap .i64 (((t1.len : Nat) : Int) + t2)) - (1 : Int))) t2)) > (1 : Int) then (IntKind.wrap .i64 (Int.tdiv (IntKind.wrap .i64 ((IntKind.wrap .i64 (((t1.len : Nat) : Int) + t2)) - (1 : Int))) t2)) else (1 : Int))) (.ex (Int.toNat (if (IntKind.wrap .i64 (Int.tdiv (IntKind.wrap .i64 ((IntKind.wrap .i64 (((t1.len : Nat) : Int) + t2)) - (1 : Int))) t2)) > (1 : Int) then (IntKind.wrap .i64 (Int.tdiv (IntKind.wrap .i64 ((IntKind.wrap .i64 (((t1.len : Nat) : Int) + t2)) - (1 : Int))) t2)) else (1 : Int))))).len : Nat) : Int) (0 : Int) h6)
          else (
            none)))))
theorem g18_p0_eq (a32 : T32) (a31 : T31) {R : Type} (c2 : Code) (t0 : Int) (t1 : Sl) (t2 : Int) (H : Heap) (K : Ex → Fr → Heap → Option R) : ev2 Try.prog (E18 a32 a31) loopLim lv18 Try.f18.ntmps kp18 (.seq (codeAt [0] b18) (.seq (codeAt [1, 0, 0] b18) (.seq (.cond (.tmp 17) (.seq (codeAt [1, 0, 1, 0, 0] b18) .ret) .skip) (.seq (codeAt [1, 1, 0] b18) (.seq (codeAt [1, 1, 1, 0, 0] b18) (.seq (.cond (.tmp 27) (.seq (codeAt [1, 1, 1, 0, 1, 0, 0] b18) .ret) .skip) (.seq (codeAt [1, 1, 1, 1, 0] b18) (.seq (codeAt [1, 1, 1, 1, 1, 0, 0] b18) c2)))))))) [(0, (V.i .u32 t0)), (1, (V.sl t1)), (2, (V.i .i64 t2))] H K = g18_p0 a32 a31 R t0 t1 t2 H (fun t0 t1 t2 t8 t9 t31 t32 H => ev2 Try.prog (E18 a32 a31) loopLim lv18 Try.f18.ntmps kp18 c2 [(0, (V.i .u32 t0)), (1, (V.sl t1)), (2, (V.i .i64 t2)), (8, (V.i .i64 t8)), (9, (V.sl t9)), (31, (V.i .i64 t31)), (32, (V.i .i64 t32))] H K) (fun t6 t7 H => K .ret [(6, (V.sl t6)), (7, (V.i .i64 t7))] H) := by kernel_rfl
theorem g18_p0_lin {a32 : T32} {a31 : T31} (la32 : Lin32 a32) (la31 : Lin31 a31) {R S : Type} {k : S → Option R} {t0 : Int} {t1 : Sl} {t2 : Int} {H : Heap} {fkN : Int → Sl → Int → Int → Sl → Int → Int → Heap → Option R} {gkN : Int → Sl → Int → Int → Sl → Int → Int → Heap → Option S} {fkR : Sl → Int → Heap → Option R} {gkR : Sl → Int → Heap → Option S} (hkN : ∀ t0 t1 t2 t8 t9 t31 t32 H, fkN t0 t1 t2 t8 t9 t31 t32 H = (gkN t0 t1 t2 t8 t9 t31 t32 H).bind k) (hkR : ∀ t6 t7 H, fkR t6 t7 H = (gkR t6 t7 H).bind k) : g18_p0 a32 a31 R t0 t1 t2 H fkN fkR = (g18_p0 a32 a31 S t0 t1 t2 H gkN gkR).bind k := by
  delta g18_p0; exact (
    sl_lin (
      hkR _ _ _) (
      sl_lin (
        hkR _ _ _) (
        il (
          rfl) (
          sl_lin (
            hkR _ _ _) (
            il (
              bl fun vs4 =>
              alo_lin fun i5 h6 =>
              hkN _ _ _ _ _ _ _ _) (
              rfl))))))
noncomputable def g18_p1 (a32 : T32) (a31 : T31) (R : Type) (t0 : Int) (t1 : Sl) (t2 : Int) (t8 : Int) (t9 : Sl) (t31 : Int) (t32 : Int) (H : Heap) (kN : Int → Sl → Int → Int → Sl → Int → Int → Heap → Option R) (kE0 : Sl → Heap → Option R) : Option R :=
  sel (decide (t32 < t31)) (
    slOf 1 t1 (some (IntKind.wrap .i64 (t32 * t2))) (some (if ((t1.len : Nat) : Int) < (IntKind.wrap .i64 ((IntKind.wrap .i64 (t32 + (1 : Int))) * t2)) then ((t1.len : Nat) : Int) else (IntKind.wrap .i64 ((IntKind.wrap .i64 (t32 + (1 : Int))) * t2)))) none fun s7 =>
    a32 R s7 H fun x8 h9 =>
    a31 R x8 h9 fun x10 h11 =>
    if 0 ≤ t32 ∧ t32 < ((t9.len : Nat) : Int) then (
      (t9.a).bind fun q12 =>
      ((h11).sts q12.1 (q12.2 + Int.toNat t32 * 4) [(V.i .u32 t0), (V.b (t32 == (0 : Int))), (V.i .u8 (IntKind.wrap .u8 (IntKind.wrap .i64 ((IntKind.wrap .i64 (t8 - (1 : Int))) - t32)))), (V.sl x10)]).bind fun h13 =>
      kN t0 t1 t2 t8 t9 t31 (IntKind.wrap .i64 (t32 + (1 : Int))) h13)
    else (
      none)) (
    kE0 t9 H)
theorem g18_p1_eq (a32 : T32) (a31 : T31) (la32 : Lin32 a32) (la31 : Lin31 a31) {R : Type} (t0 : Int) (t1 : Sl) (t2 : Int) (t8 : Int) (t9 : Sl) (t31 : Int) (t32 : Int) (H : Heap) (K : Ex → Fr → Heap → Option R) : ev2 Try.prog (E18 a32 a31) loopLim lv18 Try.f18.ntmps kp18 c18_0 [(0, (V.i .u32 t0)), (1, (V.sl t1)), (2, (V.i .i64 t2)), (8, (V.i .i64 t8)), (9, (V.sl t9)), (31, (V.i .i64 t31)), (32, (V.i .i64 t32))] H K = g18_p1 a32 a31 R t0 t1 t2 t8 t9 t31 t32 H (fun t0 t1 t2 t8 t9 t31 t32 H => K .normal [(0, (V.i .u32 t0)), (1, (V.sl t1)), (2, (V.i .i64 t2)), (8, (V.i .i64 t8)), (9, (V.sl t9)), (31, (V.i .i64 t31)), (32, (V.i .i64 t32))] H) (fun t9 H => K (.exit 0) [(9, (V.sl t9))] H) := by kernel_rfl
theorem g18_p1_lin {a32 : T32} {a31 : T31} (la32 : Lin32 a32) (la31 : Lin31 a31) {R S : Type} {k : S → Option R} {t0 : Int} {t1 : Sl} {t2 : Int} {t8 : Int} {t9 : Sl} {t31 : Int} {t32 : Int} {H : Heap} {fkN : Int → Sl → Int → Int → Sl → Int → Int → Heap → Option R} {gkN : Int → Sl → Int → Int → Sl → Int → Int → Heap → Option S} {fkE0 : Sl → Heap → Option R} {gkE0 : Sl → Heap → Option S} (hkN : ∀ t0 t1 t2 t8 t9 t31 t32 H, fkN t0 t1 t2 t8 t9 t31 t32 H = (gkN t0 t1 t2 t8 t9 t31 t32 H).bind k) (hkE0 : ∀ t9 H, fkE0 t9 H = (gkE0 t9 H).bind k) : g18_p1 a32 a31 R t0 t1 t2 t8 t9 t31 t32 H fkN fkE0 = (g18_p1 a32 a31 S t0 t1 t2 t8 t9 t31 t32 H gkN gkE0).bind k := by
  delta g18_p1; exact (
    sl_lin (
      slOf_lin fun s7 =>
      la32.l fun x8 h9 =>
      la31.l fun x10 h11 =>
      il (
        bl fun q12 =>
        bl fun h13 =>
        hkN _ _ _ _ _ _ _ _) (
        rfl)) (
      hkE0 _ _))
abbrev g18_p2_S := Int × Sl × Int × Int × Sl × Int × Int
abbrev g18_p2_O := Sl
def g18_p2_es (s : g18_p2_S) : Fr := [(0, (V.i .u32 s.1)), (1, (V.sl s.2.1)), (2, (V.i .i64 s.2.2.1)), (8, (V.i .i64 s.2.2.2.1)), (9, (V.sl s.2.2.2.2.1)), (31, (V.i .i64 s.2.2.2.2.2.1)), (32, (V.i .i64 s.2.2.2.2.2.2))]
def g18_p2_er (r : g18_p2_O) : Ex × Fr := ((.exit 0), [(9, (V.sl r))])
noncomputable def g18_p2_b (a32 : T32) (a31 : T31) (s : g18_p2_S) (H : Heap) : Option (Rd g18_p2_S g18_p2_O × Heap) :=
  g18_p1 a32 a31 _ s.1 s.2.1 s.2.2.1 s.2.2.2.1 s.2.2.2.2.1 s.2.2.2.2.2.1 s.2.2.2.2.2.2 H (fun t0 t1 t2 t8 t9 t31 t32 H => some (.go (t0, t1, t2, t8, t9, t31, t32), H)) (fun t9 H => some (.up t9, H))
noncomputable def g18_p2 (a32 : T32) (a31 : T31) (R : Type) (t0 : Int) (t1 : Sl) (t2 : Int) (t8 : Int) (t9 : Sl) (t31 : Int) (t32 : Int) (H : Heap) (kE0 : Sl → Heap → Option R) : Option R :=
  (tlim (g18_p2_b a32 a31) (t0, t1, t2, t8, t9, t31, t32) H).bind fun p => kE0 p.1 p.2
theorem g18_p2_lin {a32 : T32} {a31 : T31} (la32 : Lin32 a32) (la31 : Lin31 a31) {R S : Type} {k : S → Option R} {t0 : Int} {t1 : Sl} {t2 : Int} {t8 : Int} {t9 : Sl} {t31 : Int} {t32 : Int} {H : Heap} {fkE0 : Sl → Heap → Option R} {gkE0 : Sl → Heap → Option S} (hkE0 : ∀ t9 H, fkE0 t9 H = (gkE0 t9 H).bind k) : g18_p2 a32 a31 R t0 t1 t2 t8 t9 t31 t32 H fkE0 = (g18_p2 a32 a31 S t0 t1 t2 t8 t9 t31 t32 H gkE0).bind k := by
  exact bl fun p => hkE0 _ _
theorem g18_p2_eq (a32 : T32) (a31 : T31) (la32 : Lin32 a32) (la31 : Lin31 a31) {R : Type} (t0 : Int) (t1 : Sl) (t2 : Int) (t8 : Int) (t9 : Sl) (t31 : Int) (t32 : Int) (H : Heap) (K : Ex → Fr → Heap → Option R) : ev2 Try.prog (E18 a32 a31) loopLim lv18 Try.f18.ntmps kp18 c18_1 [(0, (V.i .u32 t0)), (1, (V.sl t1)), (2, (V.i .i64 t2)), (8, (V.i .i64 t8)), (9, (V.sl t9)), (31, (V.i .i64 t31)), (32, (V.i .i64 t32))] H K = g18_p2 a32 a31 R t0 t1 t2 t8 t9 t31 t32 H (fun t9 H => K (.exit 0) [(9, (V.sl t9))] H) := by
  show ev2 Try.prog (E18 a32 a31) loopLim lv18 Try.f18.ntmps kp18 (.loop c18_0) [(0, (V.i .u32 t0)), (1, (V.sl t1)), (2, (V.i .i64 t2)), (8, (V.i .i64 t8)), (9, (V.sl t9)), (31, (V.i .i64 t31)), (32, (V.i .i64 t32))] H K = _
  delta g18_p2
  refine (ev2_tlim (b := g18_p2_b a32 a31) (es := g18_p2_es) (er := g18_p2_er) (by intro r; exact nofun) (fun s H => ?_) (t0, t1, t2, t8, t9, t31, t32) H K).trans (bc fun p => rfl)
  exact (g18_p1_eq a32 a31 la32 la31 s.1 s.2.1 s.2.2.1 s.2.2.2.1 s.2.2.2.2.1 s.2.2.2.2.2.1 s.2.2.2.2.2.2 H ret3).trans (g18_p1_lin la32 la31 (fun _ _ _ _ _ _ _ _ => rfl) (fun _ _ => rfl))
noncomputable def g18_p3 (a32 : T32) (a31 : T31) (R : Type) (t0 : Int) (t1 : Sl) (t2 : Int) (t8 : Int) (t9 : Sl) (t31 : Int) (t32 : Int) (H : Heap) (kN : Sl → Heap → Option R) : Option R :=
  g18_p2 a32 a31 R t0 t1 t2 t8 t9 t31 t32 H (fun t9 H => kN t9 H)
theorem g18_p3_lin {a32 : T32} {a31 : T31} (la32 : Lin32 a32) (la31 : Lin31 a31) {R S : Type} {k : S → Option R} {t0 : Int} {t1 : Sl} {t2 : Int} {t8 : Int} {t9 : Sl} {t31 : Int} {t32 : Int} {H : Heap} {fkN : Sl → Heap → Option R} {gkN : Sl → Heap → Option S} (hkN : ∀ t9 H, fkN t9 H = (gkN t9 H).bind k) : g18_p3 a32 a31 R t0 t1 t2 t8 t9 t31 t32 H fkN = (g18_p3 a32 a31 S t0 t1 t2 t8 t9 t31 t32 H gkN).bind k := by
  exact g18_p2_lin la32 la31 (fun _ _ => hkN _ _)
theorem g18_p3_eq (a32 : T32) (a31 : T31) (la32 : Lin32 a32) (la31 : Lin31 a31) {R : Type} (t0 : Int) (t1 : Sl) (t2 : Int) (t8 : Int) (t9 : Sl) (t31 : Int) (t32 : Int) (H : Heap) (K : Ex → Fr → Heap → Option R) : ev2 Try.prog (E18 a32 a31) loopLim lv18 Try.f18.ntmps kp18 c18_2 [(0, (V.i .u32 t0)), (1, (V.sl t1)), (2, (V.i .i64 t2)), (8, (V.i .i64 t8)), (9, (V.sl t9)), (31, (V.i .i64 t31)), (32, (V.i .i64 t32))] H K = g18_p3 a32 a31 R t0 t1 t2 t8 t9 t31 t32 H (fun t9 H => K .normal [(9, (V.sl t9))] H) := by
  show ev2 Try.prog (E18 a32 a31) loopLim lv18 Try.f18.ntmps kp18 (.block 0 c18_1) [(0, (V.i .u32 t0)), (1, (V.sl t1)), (2, (V.i .i64 t2)), (8, (V.i .i64 t8)), (9, (V.sl t9)), (31, (V.i .i64 t31)), (32, (V.i .i64 t32))] H K = _
  rw [ev2_block]
  delta g18_p3
  exact (g18_p2_eq a32 a31 la32 la31 t0 t1 t2 t8 t9 t31 t32 H (kBlock kp18 0 K))
noncomputable def g18_p4 (a32 : T32) (a31 : T31) (R : Type) (t9 : Sl) (H : Heap) (kR : Sl → Int → Heap → Option R) : Option R :=
  kR t9 (0 : Int) H
theorem g18_p4_eq (a32 : T32) (a31 : T31) (la32 : Lin32 a32) (la31 : Lin31 a31) {R : Type} (t9 : Sl) (H : Heap) (K : Ex → Fr → Heap → Option R) : ev2 Try.prog (E18 a32 a31) loopLim lv18 Try.f18.ntmps kp18 c18_3 [(9, (V.sl t9))] H K = g18_p4 a32 a31 R t9 H (fun t6 t7 H => K .ret [(6, (V.sl t6)), (7, (V.i .i64 t7))] H) := by kernel_rfl
theorem g18_p4_lin {a32 : T32} {a31 : T31} (la32 : Lin32 a32) (la31 : Lin31 a31) {R S : Type} {k : S → Option R} {t9 : Sl} {H : Heap} {fkR : Sl → Int → Heap → Option R} {gkR : Sl → Int → Heap → Option S} (hkR : ∀ t6 t7 H, fkR t6 t7 H = (gkR t6 t7 H).bind k) : g18_p4 a32 a31 R t9 H fkR = (g18_p4 a32 a31 S t9 H gkR).bind k := by
  delta g18_p4; exact (
    hkR _ _ _)
noncomputable def g18_p5 (a32 : T32) (a31 : T31) (R : Type) (t0 : Int) (t1 : Sl) (t2 : Int) (t8 : Int) (t9 : Sl) (t31 : Int) (t32 : Int) (H : Heap) (kR : Sl → Int → Heap → Option R) : Option R :=
  g18_p3 a32 a31 R t0 t1 t2 t8 t9 t31 t32 H (fun t9 H => g18_p4 a32 a31 R t9 H (fun t6 t7 H => kR t6 t7 H))
theorem g18_p5_lin {a32 : T32} {a31 : T31} (la32 : Lin32 a32) (la31 : Lin31 a31) {R S : Type} {k : S → Option R} {t0 : Int} {t1 : Sl} {t2 : Int} {t8 : Int} {t9 : Sl} {t31 : Int} {t32 : Int} {H : Heap} {fkR : Sl → Int → Heap → Option R} {gkR : Sl → Int → Heap → Option S} (hkR : ∀ t6 t7 H, fkR t6 t7 H = (gkR t6 t7 H).bind k) : g18_p5 a32 a31 R t0 t1 t2 t8 t9 t31 t32 H fkR = (g18_p5 a32 a31 S t0 t1 t2 t8 t9 t31 t32 H gkR).bind k := by
  exact g18_p3_lin la32 la31 (fun _ _ => g18_p4_lin la32 la31 (fun _ _ _ => hkR _ _ _))
theorem g18_p5_eq (a32 : T32) (a31 : T31) (la32 : Lin32 a32) (la31 : Lin31 a31) {R : Type} (t0 : Int) (t1 : Sl) (t2 : Int) (t8 : Int) (t9 : Sl) (t31 : Int) (t32 : Int) (H : Heap) (K : Ex → Fr → Heap → Option R) : ev2 Try.prog (E18 a32 a31) loopLim lv18 Try.f18.ntmps kp18 c18_4 [(0, (V.i .u32 t0)), (1, (V.sl t1)), (2, (V.i .i64 t2)), (8, (V.i .i64 t8)), (9, (V.sl t9)), (31, (V.i .i64 t31)), (32, (V.i .i64 t32))] H K = g18_p5 a32 a31 R t0 t1 t2 t8 t9 t31 t32 H (fun t6 t7 H => K .ret [(6, (V.sl t6)), (7, (V.i .i64 t7))] H) := by
  show ev2 Try.prog (E18 a32 a31) loopLim lv18 Try.f18.ntmps kp18 (.seq c18_2 c18_3) [(0, (V.i .u32 t0)), (1, (V.sl t1)), (2, (V.i .i64 t2)), (8, (V.i .i64 t8)), (9, (V.sl t9)), (31, (V.i .i64 t31)), (32, (V.i .i64 t32))] H K = _
  rw [ev2_seq]
  delta g18_p5
  exact (g18_p3_eq a32 a31 la32 la31 t0 t1 t2 t8 t9 t31 t32 H (kSeq (fun fr H => ev2 Try.prog (E18 a32 a31) loopLim lv18 Try.f18.ntmps kp18 c18_3 fr H K) K)).trans (congrArg (g18_p3 a32 a31 R t0 t1 t2 t8 t9 t31 t32 H) (funext fun t9 => funext fun H => (kSeq_n _ _ _ _).trans (g18_p4_eq a32 a31 la32 la31 t9 H K)))
noncomputable def g18_p6 (a32 : T32) (a31 : T31) (R : Type) (t0 : Int) (t1 : Sl) (t2 : Int) (H : Heap) (kR : Sl → Int → Heap → Option R) : Option R :=
  g18_p0 a32 a31 R t0 t1 t2 H (fun t0 t1 t2 t8 t9 t31 t32 H => g18_p5 a32 a31 R t0 t1 t2 t8 t9 t31 t32 H (fun t6 t7 H => kR t6 t7 H)) (fun t6 t7 H => kR t6 t7 H)
theorem g18_p6_lin {a32 : T32} {a31 : T31} (la32 : Lin32 a32) (la31 : Lin31 a31) {R S : Type} {k : S → Option R} {t0 : Int} {t1 : Sl} {t2 : Int} {H : Heap} {fkR : Sl → Int → Heap → Option R} {gkR : Sl → Int → Heap → Option S} (hkR : ∀ t6 t7 H, fkR t6 t7 H = (gkR t6 t7 H).bind k) : g18_p6 a32 a31 R t0 t1 t2 H fkR = (g18_p6 a32 a31 S t0 t1 t2 H gkR).bind k := by
  exact g18_p0_lin la32 la31 (fun _ _ _ _ _ _ _ _ => g18_p5_lin la32 la31 (fun _ _ _ => hkR _ _ _)) (fun _ _ _ => hkR _ _ _)
theorem g18_p6_eq (a32 : T32) (a31 : T31) (la32 : Lin32 a32) (la31 : Lin31 a31) {R : Type} (t0 : Int) (t1 : Sl) (t2 : Int) (H : Heap) (K : Ex → Fr → Heap → Option R) : ev2 Try.prog (E18 a32 a31) loopLim lv18 Try.f18.ntmps kp18 c18_5 [(0, (V.i .u32 t0)), (1, (V.sl t1)), (2, (V.i .i64 t2))] H K = g18_p6 a32 a31 R t0 t1 t2 H (fun t6 t7 H => K .ret [(6, (V.sl t6)), (7, (V.i .i64 t7))] H) := by
  show ev2 Try.prog (E18 a32 a31) loopLim lv18 Try.f18.ntmps kp18 (.seq (codeAt [0] b18) (.seq (codeAt [1, 0, 0] b18) (.seq (.cond (.tmp 17) (.seq (codeAt [1, 0, 1, 0, 0] b18) .ret) .skip) (.seq (codeAt [1, 1, 0] b18) (.seq (codeAt [1, 1, 1, 0, 0] b18) (.seq (.cond (.tmp 27) (.seq (codeAt [1, 1, 1, 0, 1, 0, 0] b18) .ret) .skip) (.seq (codeAt [1, 1, 1, 1, 0] b18) (.seq (codeAt [1, 1, 1, 1, 1, 0, 0] b18) c18_4)))))))) [(0, (V.i .u32 t0)), (1, (V.sl t1)), (2, (V.i .i64 t2))] H K = _
  delta g18_p6
  exact (g18_p0_eq a32 a31 _ t0 t1 t2 H K).trans (congr (congrArg (g18_p0 a32 a31 R t0 t1 t2 H) (funext fun t0 => funext fun t1 => funext fun t2 => funext fun t8 => funext fun t9 => funext fun t31 => funext fun t32 => funext fun H => g18_p5_eq a32 a31 la32 la31 t0 t1 t2 t8 t9 t31 t32 H K)) rfl)
noncomputable def g18_r (a32 : T32) (a31 : T31) : T18 := fun R t0 t1 t2 H K =>
  g18_p6 a32 a31 R t0 t1 t2 H (fun t6 t7 H =>
    K t6 t7 H)
theorem g18_r_lin {a32 : T32} {a31 : T31} (la32 : Lin32 a32) (la31 : Lin31 a31) : Lin18 (g18_r a32 a31) := by
  constructor
  intro R S k t0 t1 t2 H f g h
  exact g18_p6_lin la32 la31 (fun t6 t7 H =>
    h _ _ _)
theorem g18_fn (a32 : T32) (a31 : T31) (la32 : Lin32 a32) (la31 : Lin31 a31) {R : Type} (t0 : Int) (t1 : Sl) (t2 : Int) (H : Heap) (K : V → Heap → Option R) : evFn2 Try.prog (E18 a32 a31) loopLim lv18 Try.f18 kp18 [(V.i .u32 t0), (V.sl t1), (V.i .i64 t2)] H K = g18_r a32 a31 R t0 t1 t2 H (fun r0 r1 H => K (V.tup [(V.sl r0), (V.i .i64 r1)]) H) := by
  have h0 : ∀ (t6 : Sl) (t7 : Int) (H : Heap), kFn2 Try.prog Try.f18.results.toList K .ret [(6, (V.sl t6)), (7, (V.i .i64 t7))] H =
      K (V.tup [(V.sl t6), (V.i .i64 t7)]) H := by intros; kernel_rfl
  have e0 := evFn2_code2 (P := Try.prog) (c := c18_5) (E := (E18 a32 a31)) (lr := loopLim) (lv := lv18) (kp := kp18) (fn := Try.f18) (args := [(V.i .u32 t0), (V.sl t1), (V.i .i64 t2)]) H K (by kernel_rfl) (Nat.le_of_ble_eq_true (by kernel_rfl)) (by kernel_rfl) (by kernel_rfl)
  have e1 : ev2 Try.prog (E18 a32 a31) loopLim lv18 Try.f18.ntmps kp18 c18_5 (argFr 0 [(V.i .u32 t0), (V.sl t1), (V.i .i64 t2)]) H (kFn2 Try.prog Try.f18.results.toList K) = ev2 Try.prog (E18 a32 a31) loopLim lv18 Try.f18.ntmps kp18 c18_5 [(0, (V.i .u32 t0)), (1, (V.sl t1)), (2, (V.i .i64 t2))] H (kFn2 Try.prog Try.f18.results.toList K) := by kernel_rfl
  refine (e0.trans e1).trans ?_
  delta g18_r
  exact (g18_p6_eq a32 a31 la32 la31 t0 t1 t2 H (kFn2 Try.prog Try.f18.results.toList K)).trans (congrArg (g18_p6 a32 a31 R t0 t1 t2 H) (funext fun t6 => funext fun t7 => funext fun H => h0 t6 t7 H))
theorem g18_ok {a32 : T32} {a31 : T31} (oa32 : FunOK Try.prog 32 (w32 a32)) (oa31 : FunOK Try.prog 31 (w31 a31)) (la32 : Lin32 a32) (la31 : Lin31 a31) : FunOK Try.prog 18 (w18 (g18_r a32 a31)) := by
  refine (runF2_ok (E18_good oa32 oa31 la32 la31) mixed lim_ok Try.func18 (by kernel_rfl) lv18 kp18).of_le fun R args H K r hk => ?_
  unfold w18 at hk
  split at hk
  · exact (g18_fn a32 a31 la32 la31 _ _ _ H K).trans hk
  · cases hk
def kp12 : Nat → Option (List Nat) := kpOf [(0, [1, 500001, 1000001]), (1, [1, 5, 500001, 1000001]), (2, [1, 5, 6, 500001, 1000001]), (3, [2, 3, 4]), (300000, [2, 3, 4])]
def E12 (a18 : T18) : FEnv := [(18, w18 a18)]
theorem E12_good {a18 : T18} (oa18 : FunOK Try.prog 18 (w18 a18)) (la18 : Lin18 a18) : EnvGood Try.prog (E12 a18) := ((EnvGood.nil _).cons oa18 (w18_lin la18))
theorem E12_lin {a18 : T18} (la18 : Lin18 a18) : EnvLin (E12 a18) := by
  intro g F h
  simp only [E12, List.mem_cons, List.not_mem_nil, or_false] at h
  rcases h with h
  · cases h; exact w18_lin la18
def lv12 : Nat → Bool := lvOf [1]
noncomputable def b12 : Code := Try.f12.body.getD .skip
noncomputable def c12_0 : Code := (.seq (codeAt [0] b12) (.seq (codeAt [1, 0] b12) (.seq (codeAt [1, 1, 0] b12) (.seq (codeAt [1, 1, 1, 0] b12) .ret))))
noncomputable def g12_p0 (a18 : T18) (R : Type) (t0_0 : Int) (t0_1 : Int) (t0_2 : Sl) (t0_3 : Int) (H : Heap) (kR : Int → Sl → ByteArray → Heap → Option R) : Option R :=
  slOf 1 t0_2 none (some (if (60 : Int) < ((t0_2.len : Nat) : Int) then (60 : Int) else ((t0_2.len : Nat) : Int))) none fun s1 =>
  a18 R (IntKind.wrap .u32 (Int.tmod t0_1 (8 : Int))) s1 (IntKind.wrap .i64 ((4 : Int) + (IntKind.wrap .i64 (Int.tmod t0_3 (16 : Int))))) H fun x2 x3 h4 =>
  ((slBytes h4 s1)).bind fun x5 =>
  kR (IntKind.wrap .u16 (Int.tmod t0_0 (4 : Int))) x2 x5 h4
theorem g12_p0_eq (a18 : T18) (la18 : Lin18 a18) {R : Type} (t0_0 : Int) (t0_1 : Int) (t0_2 : Sl) (t0_3 : Int) (H : Heap) (K : Ex → Fr → Heap → Option R) : ev2 Try.prog (E12 a18) loopLim lv12 Try.f12.ntmps kp12 c12_0 [(0, (V.agg [(V.i .u8 t0_0), (V.i .u8 t0_1), (V.sl t0_2), (V.i .u8 t0_3)]))] H K = g12_p0 a18 R t0_0 t0_1 t0_2 t0_3 H (fun t2 t3 t4 H => K .ret [(2, (V.i .u16 t2)), (3, (V.sl t3)), (4, (V.s t4))] H) := by kernel_rfl
theorem g12_p0_lin {a18 : T18} (la18 : Lin18 a18) {R S : Type} {k : S → Option R} {t0_0 : Int} {t0_1 : Int} {t0_2 : Sl} {t0_3 : Int} {H : Heap} {fkR : Int → Sl → ByteArray → Heap → Option R} {gkR : Int → Sl → ByteArray → Heap → Option S} (hkR : ∀ t2 t3 t4 H, fkR t2 t3 t4 H = (gkR t2 t3 t4 H).bind k) : g12_p0 a18 R t0_0 t0_1 t0_2 t0_3 H fkR = (g12_p0 a18 S t0_0 t0_1 t0_2 t0_3 H gkR).bind k := by
  delta g12_p0; exact (
    slOf_lin fun s1 =>
    la18.l fun x2 x3 h4 =>
    bl fun x5 =>
    hkR _ _ _ _)
noncomputable def g12_r (a18 : T18) : T12 := fun R t0_0 t0_1 t0_2 t0_3 H K =>
  g12_p0 a18 R t0_0 t0_1 t0_2 t0_3 H (fun t2 t3 t4 H =>
    K t2 t3 t4 H)
theorem g12_r_lin {a18 : T18} (la18 : Lin18 a18) : Lin12 (g12_r a18) := by
  constructor
  intro R S k t0_0 t0_1 t0_2 t0_3 H f g h
  exact g12_p0_lin la18 (fun t2 t3 t4 H =>
    h _ _ _ _)
theorem g12_fn (a18 : T18) (la18 : Lin18 a18) {R : Type} (t0_0 : Int) (t0_1 : Int) (t0_2 : Sl) (t0_3 : Int) (H : Heap) (K : V → Heap → Option R) : evFn2 Try.prog (E12 a18) loopLim lv12 Try.f12 kp12 [(V.agg [(V.i .u8 t0_0), (V.i .u8 t0_1), (V.sl t0_2), (V.i .u8 t0_3)])] H K = g12_r a18 R t0_0 t0_1 t0_2 t0_3 H (fun r0 r1 r2 H => K (V.tup [(V.i .u16 r0), (V.sl r1), (V.s r2)]) H) := by
  have h0 : ∀ (t2 : Int) (t3 : Sl) (t4 : ByteArray) (H : Heap), kFn2 Try.prog Try.f12.results.toList K .ret [(2, (V.i .u16 t2)), (3, (V.sl t3)), (4, (V.s t4))] H =
      K (V.tup [(V.i .u16 t2), (V.sl t3), (V.s t4)]) H := by intros; kernel_rfl
  have e0 := evFn2_code2 (P := Try.prog) (c := c12_0) (E := (E12 a18)) (lr := loopLim) (lv := lv12) (kp := kp12) (fn := Try.f12) (args := [(V.agg [(V.i .u8 t0_0), (V.i .u8 t0_1), (V.sl t0_2), (V.i .u8 t0_3)])]) H K (by kernel_rfl) (Nat.le_of_ble_eq_true (by kernel_rfl)) (by kernel_rfl) (by kernel_rfl)
  have e1 : ev2 Try.prog (E12 a18) loopLim lv12 Try.f12.ntmps kp12 c12_0 (argFr 0 [(V.agg [(V.i .u8 t0_0), (V.i .u8 t0_1), (V.sl t0_2), (V.i .u8 t0_3)])]) H (kFn2 Try.prog Try.f12.results.toList K) = ev2 Try.prog (E12 a18) loopLim lv12 Try.f12.ntmps kp12 c12_0 [(0, (V.agg [(V.i .u8 t0_0), (V.i .u8 t0_1), (V.sl t0_2), (V.i .u8 t0_3)]))] H (kFn2 Try.prog Try.f12.results.toList K) := by kernel_rfl
  refine (e0.trans e1).trans ?_
  delta g12_r
  exact (g12_p0_eq a18 la18 t0_0 t0_1 t0_2 t0_3 H (kFn2 Try.prog Try.f12.results.toList K)).trans (congrArg (g12_p0 a18 R t0_0 t0_1 t0_2 t0_3 H) (funext fun t2 => funext fun t3 => funext fun t4 => funext fun H => h0 t2 t3 t4 H))
theorem g12_ok {a18 : T18} (oa18 : FunOK Try.prog 18 (w18 a18)) (la18 : Lin18 a18) : FunOK Try.prog 12 (w12 (g12_r a18)) := by
  refine (runF2_ok (E12_good oa18 la18) mixed lim_ok Try.func12 (by kernel_rfl) lv12 kp12).of_le fun R args H K r hk => ?_
  unfold w12 at hk
  split at hk
  · exact (g12_fn a18 la18 _ _ _ _ H K).trans hk
  · cases hk
def kp10 : Nat → Option (List Nat) := kpOf [(0, [0]), (1, [0, 4]), (2, [2, 3]), (3, [0, 7]), (4, [2, 3]), (5, [2, 3]), (100000, [0]), (200000, [0]), (300000, [2, 3]), (400004, [0]), (400007, [0])]
def E10 : FEnv := []
theorem E10_good : EnvGood Try.prog E10 := (EnvGood.nil _)
theorem E10_lin : EnvLin E10 := fun g F h => by cases h
def lv10 : Nat → Bool := lvOf []
noncomputable def b10 : Code := Try.f10.body.getD .skip
noncomputable def c10_0 : Code := (.seq (codeAt [0] b10) (.seq (.block 0 (.seq (codeAt [1, 0, 0, 0] b10) (.cond (.tmp 4) (.seq (codeAt [1, 0, 0, 1, 0, 0] b10) .ret) (.seq (codeAt [1, 0, 0, 1, 1, 0] b10) (.cond (.tmp 7) (.seq (codeAt [1, 0, 0, 1, 1, 1, 0, 0] b10) .ret) .skip))))) (.seq (codeAt [1, 1, 0] b10) .ret)))
noncomputable def g10_p0 (R : Type) (t0 : Int) (H : Heap) (kR : Option (Nat × Nat) → Int → Heap → Option R) : Option R :=
  sel (decide (t0 < (1 : Int))) (
    kR none (1 : Int) H) (
    sel (decide (t0 > (1048576 : Int))) (
      kR none (3 : Int) H) (
      alo H (.map [] 0) fun i1 h2 =>
      alo h2 (.cells [(V.i .i64 t0), (V.m (some i1)), (V.sl (Sl.mk none 0 (.ex 0)))] 64 false) fun i3 h4 =>
      kR (some (i3, 0)) (0 : Int) h4))
theorem g10_p0_eq {R : Type} (t0 : Int) (H : Heap) (K : Ex → Fr → Heap → Option R) : ev2 Try.prog E10 loopLim lv10 Try.f10.ntmps kp10 c10_0 [(0, (V.i .i64 t0))] H K = g10_p0 R t0 H (fun t2 t3 H => K .ret [(2, (V.p t2)), (3, (V.i .i64 t3))] H) := by kernel_rfl
theorem g10_p0_lin {R S : Type} {k : S → Option R} {t0 : Int} {H : Heap} {fkR : Option (Nat × Nat) → Int → Heap → Option R} {gkR : Option (Nat × Nat) → Int → Heap → Option S} (hkR : ∀ t2 t3 H, fkR t2 t3 H = (gkR t2 t3 H).bind k) : g10_p0 R t0 H fkR = (g10_p0 S t0 H gkR).bind k := by
  delta g10_p0; exact (
    sl_lin (
      hkR _ _ _) (
      sl_lin (
        hkR _ _ _) (
        alo_lin fun i1 h2 =>
        alo_lin fun i3 h4 =>
        hkR _ _ _)))
noncomputable def g10_r : T10 := fun R t0 H K =>
  g10_p0 R t0 H (fun t2 t3 H =>
    K t2 t3 H)
theorem g10_r_lin : Lin10 (g10_r) := by
  constructor
  intro R S k t0 H f g h
  exact g10_p0_lin (fun t2 t3 H =>
    h _ _ _)
theorem g10_fn {R : Type} (t0 : Int) (H : Heap) (K : V → Heap → Option R) : evFn2 Try.prog E10 loopLim lv10 Try.f10 kp10 [(V.i .i64 t0)] H K = g10_r R t0 H (fun r0 r1 H => K (V.tup [(V.p r0), (V.i .i64 r1)]) H) := by
  have h0 : ∀ (t2 : Option (Nat × Nat)) (t3 : Int) (H : Heap), kFn2 Try.prog Try.f10.results.toList K .ret [(2, (V.p t2)), (3, (V.i .i64 t3))] H =
      K (V.tup [(V.p t2), (V.i .i64 t3)]) H := by intros; kernel_rfl
  have e0 := evFn2_code2 (P := Try.prog) (c := c10_0) (E := E10) (lr := loopLim) (lv := lv10) (kp := kp10) (fn := Try.f10) (args := [(V.i .i64 t0)]) H K (by kernel_rfl) (Nat.le_of_ble_eq_true (by kernel_rfl)) (by kernel_rfl) (by kernel_rfl)
  have e1 : ev2 Try.prog E10 loopLim lv10 Try.f10.ntmps kp10 c10_0 (argFr 0 [(V.i .i64 t0)]) H (kFn2 Try.prog Try.f10.results.toList K) = ev2 Try.prog E10 loopLim lv10 Try.f10.ntmps kp10 c10_0 [(0, (V.i .i64 t0))] H (kFn2 Try.prog Try.f10.results.toList K) := by kernel_rfl
  refine (e0.trans e1).trans ?_
  delta g10_r
  exact (g10_p0_eq t0 H (kFn2 Try.prog Try.f10.results.toList K)).trans (congrArg (g10_p0 R t0 H) (funext fun t2 => funext fun t3 => funext fun H => h0 t2 t3 H))
theorem g10_ok : FunOK Try.prog 10 (w10 (g10_r)) := by
  refine (runF2_ok (E10_good) mixed lim_ok Try.func10 (by kernel_rfl) lv10 kp10).of_le fun R args H K r hk => ?_
  unfold w10 at hk
  split at hk
  · exact (g10_fn _ H K).trans hk
  · cases hk
end Go.Proofs.Ytobebcfkddimkaa

