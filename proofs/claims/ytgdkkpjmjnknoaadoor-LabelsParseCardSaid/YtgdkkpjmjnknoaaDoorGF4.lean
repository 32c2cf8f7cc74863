/- Printed: functions as the machine runs them. -/
import Derived.Test.YtgdkkpjmjnknoaaDoorGT
namespace Go.Proofs.YtgdkkpjmjnknoaaDoor
open Go AM Go.RowKit
set_option linter.unusedVariables false
def kp7 : Nat → Option (List Nat) := kpOf [(0, [0, 1, 5]), (1, [0, 1, 5, 7, 8]), (2, [0, 1, 5, 7, 8, 9, 10]), (3, [0, 1, 5, 7, 8, 44]), (4, [6]), (5, [0, 1, 5, 7, 8, 60]), (6, [6]), (7, [0, 1, 5, 7, 110]), (8, [6]), (9, [0, 1, 5, 7, 11, 12]), (10, [0, 1, 5, 7, 11, 12, 13, 14]), (11, [0, 1, 5, 11, 12, 13, 14, 16]), (12, [0, 1, 5, 11, 12, 13, 14, 16, 17, 18]), (13, [5, 17, 18, 167]), (14, [6]), (15, [5, 17, 18, 19]), (16, [5, 17, 18, 19, 20]), (17, [5, 17, 18, 19, 20, 191]), (18, [17, 18, 19, 20]), (19, [6]), (300000, [6]), (400044, [0, 1, 5, 7, 8]), (400060, [0, 1, 5, 7, 8]), (400110, [0, 1, 5, 7]), (400167, [5, 17, 18]), (400191, [17, 18, 19, 20])]
def E7 (a20 : T20) (a12 : T12) (a21 : T21) : FEnv := [(20, w20 a20), (12, w12 a12), (21, w21 a21)]
theorem E7_good {a20 : T20} {a12 : T12} {a21 : T21} (oa20 : FunOK Tryd.prog 20 (w20 a20)) (oa12 : FunOK Tryd.prog 12 (w12 a12)) (oa21 : FunOK Tryd.prog 21 (w21 a21)) (la20 : Lin20 a20) (la12 : Lin12 a12) (la21 : Lin21 a21) : EnvGood Tryd.prog (E7 a20 a12 a21) := ((((EnvGood.nil _).cons oa21 (w21_lin la21)).cons oa12 (w12_lin la12)).cons oa20 (w20_lin la20))
theorem E7_lin {a20 : T20} {a12 : T12} {a21 : T21} (la20 : Lin20 a20) (la12 : Lin12 a12) (la21 : Lin21 a21) : EnvLin (E7 a20 a12 a21) := by
  intro g F h
  simp only [E7, List.mem_cons, List.not_mem_nil, or_false] at h
  rcases h with h | h | h
  · cases h; exact w20_lin la20
  · cases h; exact w12_lin la12
  · cases h; exact w21_lin la21
noncomputable def b7 : Code := Tryd.f7.body.getD .skip
noncomputable def c7_0 : Code := (.seq (.cond (.tmp 167) (.seq (codeAt [1, 1, 1, 1, 1, 1, 1, 1, 1, 1, 0, 1, 0, 0] b7) .ret) .skip) (.seq (codeAt [1, 1, 1, 1, 1, 1, 1, 1, 1, 1, 1, 0] b7) (.seq (codeAt [1, 1, 1, 1, 1, 1, 1, 1, 1, 1, 1, 1, 0] b7) (.seq (codeAt [1, 1, 1, 1, 1, 1, 1, 1, 1, 1, 1, 1, 1, 0, 0] b7) (.seq (.cond (.tmp 191) (codeAt [1, 1, 1, 1, 1, 1, 1, 1, 1, 1, 1, 1, 1, 0, 1, 0] b7) .skip) (.seq (codeAt [1, 1, 1, 1, 1, 1, 1, 1, 1, 1, 1, 1, 1, 1, 0] b7) .ret))))))
noncomputable def c7_1 : Code := (.seq (.cond (.tmp 110) (.seq (codeAt [1, 1, 1, 1, 1, 0, 1, 0, 0] b7) .ret) .skip) (.seq (codeAt [1, 1, 1, 1, 1, 1, 0] b7) (.seq (codeAt [1, 1, 1, 1, 1, 1, 1, 0] b7) (.seq (codeAt [1, 1, 1, 1, 1, 1, 1, 1, 0] b7) (.seq (codeAt [1, 1, 1, 1, 1, 1, 1, 1, 1, 0] b7) (.seq (codeAt [1, 1, 1, 1, 1, 1, 1, 1, 1, 1, 0, 0] b7) c7_0))))))
noncomputable def c7_2 : Code := (.seq (.cond (.tmp 60) (.seq (codeAt [1, 1, 1, 1, 0, 1, 0, 0] b7) .ret) .skip) (.seq (codeAt [1, 1, 1, 1, 1, 0, 0] b7) c7_1))
noncomputable def c7_3 : Code := (.seq (codeAt [0] b7) (.seq (codeAt [1, 0] b7) (.seq (codeAt [1, 1, 0] b7) (.seq (codeAt [1, 1, 1, 0, 0] b7) (.seq (.cond (.tmp 44) (.seq (codeAt [1, 1, 1, 0, 1, 0, 0] b7) .ret) .skip) (.seq (codeAt [1, 1, 1, 1, 0, 0] b7) c7_2))))))
noncomputable def g7_p0 (a20 : T20) (a12 : T12) (a21 : T21) (R : Type) (t0 : Int) (t1 : Int) (t2_0 : Int) (t2_1 : Int) (t2_2 : Int) (t2_3 : Int) (t2_4 : Int) (H : Heap) (kN : Int → Int → Nat → Nat → Nat → Nat → Int → Bool → Heap → Option R) (kR : Bool → Heap → Option R) : Option R :=
  alo H (.cells [(V.i .u8 t2_0), (V.i .u16 t2_1), (V.i .u16 t2_2), (V.i .u16 t2_3), (V.i .u8 t2_4)] 48 false) fun i415 h416 =>
  ((h416).ldI .u8 i415 (0 + 0)).bind fun x417 =>
  a20 R t0 t1 x417 h416 fun x418 x419 x420 x421 h422 =>
  alo h422 (.cells [(V.i .u16 (0 : Int)), (V.i .u16 (0 : Int)), (V.i .u8 (0 : Int))] 46 false) fun i423 h424 =>
  ((h424).sts i423 0 [(V.i .u16 x418), (V.i .u16 x419), (V.i .u8 x420)]).bind fun h425 =>
  ((h425).ldI .u8 i415 (0 + 0)).bind fun x426 =>
  a20 R t1 t0 x426 h425 fun x427 x428 x429 x430 h431 =>
  alo h431 (.cells [(V.i .u16 (0 : Int)), (V.i .u16 (0 : Int)), (V.i .u8 (0 : Int))] 46 false) fun i432 h433 =>
  ((h433).sts i432 0 [(V.i .u16 x427), (V.i .u16 x428), (V.i .u8 x429)]).bind fun h434 =>
  sel (x421 != x430) (
    kR false h434) (
    ((h434).ldI .u16 i423 (0 + 0)).bind fun x435 =>
    ((h434).ldI .u16 i423 (0 + 1)).bind fun x436 =>
    ((h434).ldI .u8 i423 (0 + 2)).bind fun x437 =>
    ((h434).ldI .u16 i432 (0 + 0)).bind fun x438 =>
    ((h434).ldI .u16 i432 (0 + 1)).bind fun x439 =>
    ((h434).ldI .u8 i432 (0 + 2)).bind fun x440 =>
    sel (!((x435 == x438) && ((x436 == x439) && ((x437 == x440) && true)))) (
      kR false h434) (
      sel (t0 == t1) (
        kN t0 t1 i415 0 i423 0 x421 true h434) (
        sel (decide (t0 > (16383 : Int))) (
          kN t0 t1 i415 0 i423 0 x421 true h434) (
          sel (decide (t1 > (16383 : Int))) (
            kN t0 t1 i415 0 i423 0 x421 true h434) (
            ((h434).ldI .u8 i415 (0 + 0)).bind fun x441 =>
            kN t0 t1 i415 0 i423 0 x421 (decide (x441 > (15 : Int))) h434)))))
theorem g7_p0_eq (a20 : T20) (a12 : T12) (a21 : T21) {R : Type} (c2 : Code) (t0 : Int) (t1 : Int) (t2_0 : Int) (t2_1 : Int) (t2_2 : Int) (t2_3 : Int) (t2_4 : Int) (H : Heap) (K : Ex → Fr → Heap → Option R) : ev Tryd.prog (E7 a20 a12 a21) loopLim Tryd.f7.ntmps kp7 (.seq (codeAt [0] b7) (.seq (codeAt [1, 0] b7) (.seq (codeAt [1, 1, 0] b7) (.seq (codeAt [1, 1, 1, 0, 0] b7) (.seq (.cond (.tmp 44) (.seq (codeAt [1, 1, 1, 0, 1, 0, 0] b7) .ret) .skip) (.seq (codeAt [1, 1, 1, 1, 0, 0] b7) c2)))))) [(0, (V.i .u16 t0)), (1, (V.i .u16 t1)), (2, (V.agg [(V.i .u8 t2_0), (V.i .u16 t2_1), (V.i .u16 t2_2), (V.i .u16 t2_3), (V.i .u8 t2_4)]))] H K = g7_p0 a20 a12 a21 R t0 t1 t2_0 t2_1 t2_2 t2_3 t2_4 H (fun t0 t1 t5_0 t5_1 t7_0 t7_1 t8 t60 H => ev Tryd.prog (E7 a20 a12 a21) loopLim Tryd.f7.ntmps kp7 c2 [(0, (V.i .u16 t0)), (1, (V.i .u16 t1)), (5, (V.p (some (t5_0, t5_1)))), (7, (V.p (some (t7_0, t7_1)))), (8, (V.i .i64 t8)), (60, (V.b t60))] H K) (fun t6 H => K .ret [(6, (V.b t6))] H) := by kernel_rfl
theorem g7_p0_lin {a20 : T20} {a12 : T12} {a21 : T21} (la20 : Lin20 a20) (la12 : Lin12 a12) (la21 : Lin21 a21) {R S : Type} {k : S → Option R} {t0 : Int} {t1 : Int} {t2_0 : Int} {t2_1 : Int} {t2_2 : Int} {t2_3 : Int} {t2_4 : Int} {H : Heap} {fkN : Int → Int → Nat → Nat → Nat → Nat → Int → Bool → Heap → Option R} {gkN : Int → Int → Nat → Nat → Nat → Nat → Int → Bool → Heap → Option S} {fkR : Bool → Heap → Option R} {gkR : Bool → Heap → Option S} (hkN : ∀ t0 t1 t5_0 t5_1 t7_0 t7_1 t8 t60 H, fkN t0 t1 t5_0 t5_1 t7_0 t7_1 t8 t60 H = (gkN t0 t1 t5_0 t5_1 t7_0 t7_1 t8 t60 H).bind k) (hkR : ∀ t6 H, fkR t6 H = (gkR t6 H).bind k) : g7_p0 a20 a12 a21 R t0 t1 t2_0 t2_1 t2_2 t2_3 t2_4 H fkN fkR = (g7_p0 a20 a12 a21 S t0 t1 t2_0 t2_1 t2_2 t2_3 t2_4 H gkN gkR).bind k := by
  delta g7_p0; exact (
    alo_lin fun i415 h416 =>
    bl fun x417 =>
    la20.l fun x418 x419 x420 x421 h422 =>
    alo_lin fun i423 h424 =>
    bl fun h425 =>
    bl fun x426 =>
    la20.l fun x427 x428 x429 x430 h431 =>
    alo_lin fun i432 h433 =>
    bl fun h434 =>
    sl_lin (
      hkR _ _) (
      bl fun x435 =>
      bl fun x436 =>
      bl fun x437 =>
      bl fun x438 =>
      bl fun x439 =>
      bl fun x440 =>
      sl_lin (
        hkR _ _) (
        sl_lin (
          hkN _ _ _ _ _ _ _ _ _) (
          sl_lin (
            hkN _ _ _ _ _ _ _ _ _) (
            sl_lin (
              hkN _ _ _ _ _ _ _ _ _) (
              bl fun x441 =>
              hkN _ _ _ _ _ _ _ _ _))))))
noncomputable def g7_p1 (a20 : T20) (a12 : T12) (a21 : T21) (R : Type) (t0 : Int) (t1 : Int) (t5_0 : Nat) (t5_1 : Nat) (t7_0 : Nat) (t7_1 : Nat) (t8 : Int) (t60 : Bool) (H : Heap) (kN : Int → Int → Nat → Nat → Nat → Nat → Bool → Heap → Option R) (kR : Bool → Heap → Option R) : Option R :=
  sel t60 (
    sel (t8 == (1 : Int)) (
      ((H).ldI .u16 t7_0 (t7_1 + 0)).bind fun x734 =>
      ((H).ldI .u16 t7_0 (t7_1 + 1)).bind fun x735 =>
      ((H).ldI .u8 t7_0 (t7_1 + 2)).bind fun x736 =>
      sel ((x734 == (0 : Int)) && ((x735 == (0 : Int)) && ((x736 == (0 : Int)) && true))) (
        a12 R H fun x737 h738 =>
        kR x737 h738) (
        kR false H)) (
      kR false H)) (
    sel (t8 != (0 : Int)) (
      kN t0 t1 t5_0 t5_1 t7_0 t7_1 true H) (
      ((H).ldI .u16 t7_0 (t7_1 + 0)).bind fun x739 =>
      ((H).ldI .u16 t7_0 (t7_1 + 1)).bind fun x740 =>
      sel (decide (x739 ≥ x740)) (
        kN t0 t1 t5_0 t5_1 t7_0 t7_1 true H) (
        ((H).ldI .u8 t7_0 (t7_1 + 2)).bind fun x741 =>
        ((H).ldI .u8 t5_0 (t5_1 + 0)).bind fun x742 =>
        sel (x741 != x742) (
          kN t0 t1 t5_0 t5_1 t7_0 t7_1 true H) (
          ((H).ldI .u16 t7_0 (t7_1 + 0)).bind fun x743 =>
          sel (x743 != t0) (
            ((H).ldI .u16 t7_0 (t7_1 + 0)).bind fun x744 =>
            sel (x744 != t1) (
              kN t0 t1 t5_0 t5_1 t7_0 t7_1 true H) (
              ((H).ldI .u16 t7_0 (t7_1 + 1)).bind fun x745 =>
              sel (x745 != t0) (
                ((H).ldI .u16 t7_0 (t7_1 + 1)).bind fun x746 =>
                kN t0 t1 t5_0 t5_1 t7_0 t7_1 (x746 != t1) H) (
                kN t0 t1 t5_0 t5_1 t7_0 t7_1 false H))) (
            ((H).ldI .u16 t7_0 (t7_1 + 1)).bind fun x747 =>
            sel (x747 != t0) (
              ((H).ldI .u16 t7_0 (t7_1 + 1)).bind fun x748 =>
              kN t0 t1 t5_0 t5_1 t7_0 t7_1 (x748 != t1) H) (
              kN t0 t1 t5_0 t5_1 t7_0 t7_1 false H))))))
theorem g7_p1_eq (a20 : T20) (a12 : T12) (a21 : T21) {R : Type} (c2 : Code) (t0 : Int) (t1 : Int) (t5_0 : Nat) (t5_1 : Nat) (t7_0 : Nat) (t7_1 : Nat) (t8 : Int) (t60 : Bool) (H : Heap) (K : Ex → Fr → Heap → Option R) : ev Tryd.prog (E7 a20 a12 a21) loopLim Tryd.f7.ntmps kp7 (.seq (.cond (.tmp 60) (.seq (codeAt [1, 1, 1, 1, 0, 1, 0, 0] b7) .ret) .skip) (.seq (codeAt [1, 1, 1, 1, 1, 0, 0] b7) c2)) [(0, (V.i .u16 t0)), (1, (V.i .u16 t1)), (5, (V.p (some (t5_0, t5_1)))), (7, (V.p (some (t7_0, t7_1)))), (8, (V.i .i64 t8)), (60, (V.b t60))] H K = g7_p1 a20 a12 a21 R t0 t1 t5_0 t5_1 t7_0 t7_1 t8 t60 H (fun t0 t1 t5_0 t5_1 t7_0 t7_1 t110 H => ev Tryd.prog (E7 a20 a12 a21) loopLim Tryd.f7.ntmps kp7 c2 [(0, (V.i .u16 t0)), (1, (V.i .u16 t1)), (5, (V.p (some (t5_0, t5_1)))), (7, (V.p (some (t7_0, t7_1)))), (110, (V.b t110))] H K) (fun t6 H => K .ret [(6, (V.b t6))] H) := by kernel_rfl
theorem g7_p1_lin {a20 : T20} {a12 : T12} {a21 : T21} (la20 : Lin20 a20) (la12 : Lin12 a12) (la21 : Lin21 a21) {R S : Type} {k : S → Option R} {t0 : Int} {t1 : Int} {t5_0 : Nat} {t5_1 : Nat} {t7_0 : Nat} {t7_1 : Nat} {t8 : Int} {t60 : Bool} {H : Heap} {fkN : Int → Int → Nat → Nat → Nat → Nat → Bool → Heap → Option R} {gkN : Int → Int → Nat → Nat → Nat → Nat → Bool → Heap → Option S} {fkR : Bool → Heap → Option R} {gkR : Bool → Heap → Option S} (hkN : ∀ t0 t1 t5_0 t5_1 t7_0 t7_1 t110 H, fkN t0 t1 t5_0 t5_1 t7_0 t7_1 t110 H = (gkN t0 t1 t5_0 t5_1 t7_0 t7_1 t110 H).bind k) (hkR : ∀ t6 H, fkR t6 H = (gkR t6 H).bind k) : g7_p1 a20 a12 a21 R t0 t1 t5_0 t5_1 t7_0 t7_1 t8 t60 H fkN fkR = (g7_p1 a20 a12 a21 S t0 t1 t5_0 t5_1 t7_0 t7_1 t8 t60 H gkN gkR).bind k := by
  delta g7_p1; exact (
    sl_lin (
      sl_lin (
        bl fun x734 =>
        bl fun x735 =>
        bl fun x736 =>
        sl_lin (
          la12.l fun x737 h738 =>
          hkR _ _) (
          hkR _ _)) (
        hkR _ _)) (
      sl_lin (
        hkN _ _ _ _ _ _ _ _) (
        bl fun x739 =>
        bl fun x740 =>
        sl_lin (
          hkN _ _ _ _ _ _ _ _) (
          bl fun x741 =>
          bl fun x742 =>
          sl_lin (
            hkN _ _ _ _ _ _ _ _) (
            bl fun x743 =>
            sl_lin (
              bl fun x744 =>
              sl_lin (
                hkN _ _ _ _ _ _ _ _) (
                bl fun x745 =>
                sl_lin (
                  bl fun x746 =>
                  hkN _ _ _ _ _ _ _ _) (
                  hkN _ _ _ _ _ _ _ _))) (
              bl fun x747 =>
              sl_lin (
                bl fun x748 =>
                hkN _ _ _ _ _ _ _ _) (
                hkN _ _ _ _ _ _ _ _)))))))
noncomputable def g7_p2 (a20 : T20) (a12 : T12) (a21 : T21) (R : Type) (t0 : Int) (t1 : Int) (t5_0 : Nat) (t5_1 : Nat) (t7_0 : Nat) (t7_1 : Nat) (t110 : Bool) (H : Heap) (kN : Nat → Nat → Int → Bool → Bool → Heap → Option R) (kR : Bool → Heap → Option R) : Option R :=
  sel t110 (
    kR false H) (
    ((H).ldI .u16 t7_0 (t7_1 + 0)).bind fun x880 =>
    ((H).ldI .u16 t7_0 (t7_1 + 1)).bind fun x881 =>
    ((H).ldI .u8 t7_0 (t7_1 + 2)).bind fun x882 =>
    a21 R x880 x881 x882 t0 H fun x883 x884 h885 =>
    ((h885).ldI .u16 t7_0 (t7_1 + 0)).bind fun x886 =>
    ((h885).ldI .u16 t7_0 (t7_1 + 1)).bind fun x887 =>
    ((h885).ldI .u8 t7_0 (t7_1 + 2)).bind fun x888 =>
    a21 R x886 x887 x888 t1 h885 fun x889 x890 h891 =>
    ((h891).ldI .u16 t7_0 (t7_1 + 0)).bind fun x892 =>
    ((h891).ldI .u16 t7_0 (t7_1 + 1)).bind fun x893 =>
    ((h891).ldI .u8 t7_0 (t7_1 + 2)).bind fun x894 =>
    ((h891).ldI .u16 t5_0 (t5_1 + 1)).bind fun x895 =>
    a21 R x892 x893 x894 x895 h891 fun x896 x897 h898 =>
    ((h898).ldI .u16 t5_0 ((t5_1 + 2) + 0)).bind fun x899 =>
    ((h898).ldI .u16 t5_0 ((t5_1 + 2) + 1)).bind fun x900 =>
    ((h898).ldI .u8 t5_0 ((t5_1 + 2) + 2)).bind fun x901 =>
    ((h898).ldI .u16 t5_0 (t5_1 + 1)).bind fun x902 =>
    a21 R x899 x900 x901 x902 h898 fun x903 x904 h905 =>
    sel (x883 != t1) (
      kN t5_0 t5_1 x903 x904 true h905) (
      sel (!x884) (
        kN t5_0 t5_1 x903 x904 true h905) (
        sel (x889 != t0) (
          kN t5_0 t5_1 x903 x904 true h905) (
          sel (!x890) (
            kN t5_0 t5_1 x903 x904 true h905) (
            ((h905).ldI .u16 t5_0 (t5_1 + 1)).bind fun x906 =>
            sel (x906 == t0) (
              kN t5_0 t5_1 x903 x904 (!(x897 == true)) h905) (
              ((h905).ldI .u16 t5_0 (t5_1 + 1)).bind fun x907 =>
              kN t5_0 t5_1 x903 x904 (!(x897 == (x907 == t1))) h905))))))
theorem g7_p2_eq (a20 : T20) (a12 : T12) (a21 : T21) {R : Type} (c2 : Code) (t0 : Int) (t1 : Int) (t5_0 : Nat) (t5_1 : Nat) (t7_0 : Nat) (t7_1 : Nat) (t110 : Bool) (H : Heap) (K : Ex → Fr → Heap → Option R) : ev Tryd.prog (E7 a20 a12 a21) loopLim Tryd.f7.ntmps kp7 (.seq (.cond (.tmp 110) (.seq (codeAt [1, 1, 1, 1, 1, 0, 1, 0, 0] b7) .ret) .skip) (.seq (codeAt [1, 1, 1, 1, 1, 1, 0] b7) (.seq (codeAt [1, 1, 1, 1, 1, 1, 1, 0] b7) (.seq (codeAt [1, 1, 1, 1, 1, 1, 1, 1, 0] b7) (.seq (codeAt [1, 1, 1, 1, 1, 1, 1, 1, 1, 0] b7) (.seq (codeAt [1, 1, 1, 1, 1, 1, 1, 1, 1, 1, 0, 0] b7) c2)))))) [(0, (V.i .u16 t0)), (1, (V.i .u16 t1)), (5, (V.p (some (t5_0, t5_1)))), (7, (V.p (some (t7_0, t7_1)))), (110, (V.b t110))] H K = g7_p2 a20 a12 a21 R t0 t1 t5_0 t5_1 t7_0 t7_1 t110 H (fun t5_0 t5_1 t17 t18 t167 H => ev Tryd.prog (E7 a20 a12 a21) loopLim Tryd.f7.ntmps kp7 c2 [(5, (V.p (some (t5_0, t5_1)))), (17, (V.i .u16 t17)), (18, (V.b t18)), (167, (V.b t167))] H K) (fun t6 H => K .ret [(6, (V.b t6))] H) := by kernel_rfl
theorem g7_p2_lin {a20 : T20} {a12 : T12} {a21 : T21} (la20 : Lin20 a20) (la12 : Lin12 a12) (la21 : Lin21 a21) {R S : Type} {k : S → Option R} {t0 : Int} {t1 : Int} {t5_0 : Nat} {t5_1 : Nat} {t7_0 : Nat} {t7_1 : Nat} {t110 : Bool} {H : Heap} {fkN : Nat → Nat → Int → Bool → Bool → Heap → Option R} {gkN : Nat → Nat → Int → Bool → Bool → Heap → Option S} {fkR : Bool → Heap → Option R} {gkR : Bool → Heap → Option S} (hkN : ∀ t5_0 t5_1 t17 t18 t167 H, fkN t5_0 t5_1 t17 t18 t167 H = (gkN t5_0 t5_1 t17 t18 t167 H).bind k) (hkR : ∀ t6 H, fkR t6 H = (gkR t6 H).bind k) : g7_p2 a20 a12 a21 R t0 t1 t5_0 t5_1 t7_0 t7_1 t110 H fkN fkR = (g7_p2 a20 a12 a21 S t0 t1 t5_0 t5_1 t7_0 t7_1 t110 H gkN gkR).bind k := by
  delta g7_p2; exact (
    sl_lin (
      hkR _ _) (
      bl fun x880 =>
      bl fun x881 =>
      bl fun x882 =>
      la21.l fun x883 x884 h885 =>
      bl fun x886 =>
      bl fun x887 =>
      bl fun x888 =>
      la21.l fun x889 x890 h891 =>
      bl fun x892 =>
      bl fun x893 =>
      bl fun x894 =>
      bl fun x895 =>
      la21.l fun x896 x897 h898 =>
      bl fun x899 =>
      bl fun x900 =>
      bl fun x901 =>
      bl fun x902 =>
      la21.l fun x903 x904 h905 =>
      sl_lin (
        hkN _ _ _ _ _ _) (
        sl_lin (
          hkN _ _ _ _ _ _) (
          sl_lin (
            hkN _ _ _ _ _ _) (
            sl_lin (
              hkN _ _ _ _ _ _) (
              bl fun x906 =>
              sl_lin (
                hkN _ _ _ _ _ _) (
                bl fun x907 =>
                hkN _ _ _ _ _ _)))))))
noncomputable def g7_p3 (a20 : T20) (a12 : T12) (a21 : T21) (R : Type) (t5_0 : Nat) (t5_1 : Nat) (t17 : Int) (t18 : Bool) (t167 : Bool) (H : Heap) (kR : Bool → Heap → Option R) : Option R :=
  sel t167 (
    kR false H) (
    ((H).ldI .u16 t5_0 ((t5_1 + 2) + 0)).bind fun x908 =>
    ((H).ldI .u16 t5_0 ((t5_1 + 2) + 1)).bind fun x909 =>
    sel (x908 != x909) (
      ((H).ldI .u16 t5_0 ((t5_1 + 2) + 0)).bind fun x910 =>
      ((H).ldI .u16 t5_0 (t5_1 + 1)).bind fun x911 =>
      sel (x910 == x911) (
        ((H).ldI .u16 t5_0 ((t5_1 + 2) + 0)).bind fun x912 =>
        ((H).ldI .u16 t5_0 ((t5_1 + 2) + 1)).bind fun x913 =>
        ((H).ldI .u16 t5_0 (t5_1 + 1)).bind fun x914 =>
        sel (t18 == true) (
          sel (t17 == (bvXor .u16 (bvXor .u16 x912 x913) x914)) (
            a12 R H fun x915 h916 =>
            kR x915 h916) (
            kR false H)) (
          kR false H)) (
        ((H).ldI .u16 t5_0 ((t5_1 + 2) + 1)).bind fun x917 =>
        ((H).ldI .u16 t5_0 (t5_1 + 1)).bind fun x918 =>
        sel (x917 == x918) (
          ((H).ldI .u16 t5_0 ((t5_1 + 2) + 0)).bind fun x919 =>
          ((H).ldI .u16 t5_0 ((t5_1 + 2) + 1)).bind fun x920 =>
          ((H).ldI .u16 t5_0 (t5_1 + 1)).bind fun x921 =>
          sel (t18 == (x917 == x918)) (
            sel (t17 == (bvXor .u16 (bvXor .u16 x919 x920) x921)) (
              a12 R H fun x922 h923 =>
              kR x922 h923) (
              kR false H)) (
            kR false H)) (
          sel (t18 == (x917 == x918)) (
            sel (t17 == (0 : Int)) (
              a12 R H fun x924 h925 =>
              kR x924 h925) (
              kR false H)) (
            kR false H)))) (
      sel (t18 == false) (
        sel (t17 == (0 : Int)) (
          a12 R H fun x926 h927 =>
          kR x926 h927) (
          kR false H)) (
        kR false H)))
theorem g7_p3_eq (a20 : T20) (a12 : T12) (a21 : T21) (la20 : Lin20 a20) (la12 : Lin12 a12) (la21 : Lin21 a21) {R : Type} (t5_0 : Nat) (t5_1 : Nat) (t17 : Int) (t18 : Bool) (t167 : Bool) (H : Heap) (K : Ex → Fr → Heap → Option R) : ev Tryd.prog (E7 a20 a12 a21) loopLim Tryd.f7.ntmps kp7 c7_0 [(5, (V.p (some (t5_0, t5_1)))), (17, (V.i .u16 t17)), (18, (V.b t18)), (167, (V.b t167))] H K = g7_p3 a20 a12 a21 R t5_0 t5_1 t17 t18 t167 H (fun t6 H => K .ret [(6, (V.b t6))] H) := by kernel_rfl
theorem g7_p3_lin {a20 : T20} {a12 : T12} {a21 : T21} (la20 : Lin20 a20) (la12 : Lin12 a12) (la21 : Lin21 a21) {R S : Type} {k : S → Option R} {t5_0 : Nat} {t5_1 : Nat} {t17 : Int} {t18 : Bool} {t167 : Bool} {H : Heap} {fkR : Bool → Heap → Option R} {gkR : Bool → Heap → Option S} (hkR : ∀ t6 H, fkR t6 H = (gkR t6 H).bind k) : g7_p3 a20 a12 a21 R t5_0 t5_1 t17 t18 t167 H fkR = (g7_p3 a20 a12 a21 S t5_0 t5_1 t17 t18 t167 H gkR).bind k := by
  delta g7_p3; exact (
    sl_lin (
      hkR _ _) (
      bl fun x908 =>
      bl fun x909 =>
      sl_lin (
        bl fun x910 =>
        bl fun x911 =>
        sl_lin (
          bl fun x912 =>
          bl fun x913 =>
          bl fun x914 =>
          sl_lin (
            sl_lin (
              la12.l fun x915 h916 =>
              hkR _ _) (
              hkR _ _)) (
            hkR _ _)) (
          bl fun x917 =>
          bl fun x918 =>
          sl_lin (
            bl fun x919 =>
            bl fun x920 =>
            bl fun x921 =>
            sl_lin (
              sl_lin (
                la12.l fun x922 h923 =>
                hkR _ _) (
                hkR _ _)) (
              hkR _ _)) (
            sl_lin (
              sl_lin (
                la12.l fun x924 h925 =>
                hkR _ _) (
                hkR _ _)) (
              hkR _ _)))) (
        sl_lin (
          sl_lin (
            la12.l fun x926 h927 =>
            hkR _ _) (
            hkR _ _)) (
          hkR _ _))))
noncomputable def g7_p4 (a20 : T20) (a12 : T12) (a21 : T21) (R : Type) (t0 : Int) (t1 : Int) (t5_0 : Nat) (t5_1 : Nat) (t7_0 : Nat) (t7_1 : Nat) (t110 : Bool) (H : Heap) (kR : Bool → Heap → Option R) : Option R :=
  g7_p2 a20 a12 a21 R t0 t1 t5_0 t5_1 t7_0 t7_1 t110 H (fun t5_0 t5_1 t17 t18 t167 H => g7_p3 a20 a12 a21 R t5_0 t5_1 t17 t18 t167 H (fun t6 H => kR t6 H)) (fun t6 H => kR t6 H)
theorem g7_p4_lin {a20 : T20} {a12 : T12} {a21 : T21} (la20 : Lin20 a20) (la12 : Lin12 a12) (la21 : Lin21 a21) {R S : Type} {k : S → Option R} {t0 : Int} {t1 : Int} {t5_0 : Nat} {t5_1 : Nat} {t7_0 : Nat} {t7_1 : Nat} {t110 : Bool} {H : Heap} {fkR : Bool → Heap → Option R} {gkR : Bool → Heap → Option S} (hkR : ∀ t6 H, fkR t6 H = (gkR t6 H).bind k) : g7_p4 a20 a12 a21 R t0 t1 t5_0 t5_1 t7_0 t7_1 t110 H fkR = (g7_p4 a20 a12 a21 S t0 t1 t5_0 t5_1 t7_0 t7_1 t110 H gkR).bind k := by
  exact g7_p2_lin la20 la12 la21 (fun _ _ _ _ _ _ => g7_p3_lin la20 la12 la21 (fun _ _ => hkR _ _)) (fun _ _ => hkR _ _)
theorem g7_p4_eq (a20 : T20) (a12 : T12) (a21 : T21) (la20 : Lin20 a20) (la12 : Lin12 a12) (la21 : Lin21 a21) {R : Type} (t0 : Int) (t1 : Int) (t5_0 : Nat) (t5_1 : Nat) (t7_0 : Nat) (t7_1 : Nat) (t110 : Bool) (H : Heap) (K : Ex → Fr → Heap → Option R) : ev Tryd.prog (E7 a20 a12 a21) loopLim Tryd.f7.ntmps kp7 c7_1 [(0, (V.i .u16 t0)), (1, (V.i .u16 t1)), (5, (V.p (some (t5_0, t5_1)))), (7, (V.p (some (t7_0, t7_1)))), (110, (V.b t110))] H K = g7_p4 a20 a12 a21 R t0 t1 t5_0 t5_1 t7_0 t7_1 t110 H (fun t6 H => K .ret [(6, (V.b t6))] H) := by
  show ev Tryd.prog (E7 a20 a12 a21) loopLim Tryd.f7.ntmps kp7 (.seq (.cond (.tmp 110) (.seq (codeAt [1, 1, 1, 1, 1, 0, 1, 0, 0] b7) .ret) .skip) (.seq (codeAt [1, 1, 1, 1, 1, 1, 0] b7) (.seq (codeAt [1, 1, 1, 1, 1, 1, 1, 0] b7) (.seq (codeAt [1, 1, 1, 1, 1, 1, 1, 1, 0] b7) (.seq (codeAt [1, 1, 1, 1, 1, 1, 1, 1, 1, 0] b7) (.seq (codeAt [1, 1, 1, 1, 1, 1, 1, 1, 1, 1, 0, 0] b7) c7_0)))))) [(0, (V.i .u16 t0)), (1, (V.i .u16 t1)), (5, (V.p (some (t5_0, t5_1)))), (7, (V.p (some (t7_0, t7_1)))), (110, (V.b t110))] H K = _
  delta g7_p4
  exact (g7_p2_eq a20 a12 a21 _ t0 t1 t5_0 t5_1 t7_0 t7_1 t110 H K).trans (congr (congrArg (g7_p2 a20 a12 a21 R t0 t1 t5_0 t5_1 t7_0 t7_1 t110 H) (funext fun t5_0 => funext fun t5_1 => funext fun t17 => funext fun t18 => funext fun t167 => funext fun H => g7_p3_eq a20 a12 a21 la20 la12 la21 t5_0 t5_1 t17 t18 t167 H K)) rfl)
noncomputable def g7_p5 (a20 : T20) (a12 : T12) (a21 : T21) (R : Type) (t0 : Int) (t1 : Int) (t5_0 : Nat) (t5_1 : Nat) (t7_0 : Nat) (t7_1 : Nat) (t8 : Int) (t60 : Bool) (H : Heap) (kR : Bool → Heap → Option R) : Option R :=
  g7_p1 a20 a12 a21 R t0 t1 t5_0 t5_1 t7_0 t7_1 t8 t60 H (fun t0 t1 t5_0 t5_1 t7_0 t7_1 t110 H => g7_p4 a20 a12 a21 R t0 t1 t5_0 t5_1 t7_0 t7_1 t110 H (fun t6 H => kR t6 H)) (fun t6 H => kR t6 H)
theorem g7_p5_lin {a20 : T20} {a12 : T12} {a21 : T21} (la20 : Lin20 a20) (la12 : Lin12 a12) (la21 : Lin21 a21) {R S : Type} {k : S → Option R} {t0 : Int} {t1 : Int} {t5_0 : Nat} {t5_1 : Nat} {t7_0 : Nat} {t7_1 : Nat} {t8 : Int} {t60 : Bool} {H : Heap} {fkR : Bool → Heap → Option R} {gkR : Bool → Heap → Option S} (hkR : ∀ t6 H, fkR t6 H = (gkR t6 H).bind k) : g7_p5 a20 a12 a21 R t0 t1 t5_0 t5_1 t7_0 t7_1 t8 t60 H fkR = (g7_p5 a20 a12 a21 S t0 t1 t5_0 t5_1 t7_0 t7_1 t8 t60 H gkR).bind k := by
  exact g7_p1_lin la20 la12 la21 (fun _ _ _ _ _ _ _ _ => g7_p4_lin la20 la12 la21 (fun _ _ => hkR _ _)) (fun _ _ => hkR _ _)
theorem g7_p5_eq (a20 : T20) (a12 : T12) (a21 : T21) (la20 : Lin20 a20) (la12 : Lin12 a12) (la21 : Lin21 a21) {R : Type} (t0 : Int) (t1 : Int) (t5_0 : Nat) (t5_1 : Nat) (t7_0 : Nat) (t7_1 : Nat) (t8 : Int) (t60 : Bool) (H : Heap) (K : Ex → Fr → Heap → Option R) : ev Tryd.prog (E7 a20 a12 a21) loopLim Tryd.f7.ntmps kp7 c7_2 [(0, (V.i .u16 t0)), (1, (V.i .u16 t1)), (5, (V.p (some (t5_0, t5_1)))), (7, (V.p (some (t7_0, t7_1)))), (8, (V.i .i64 t8)), (60, (V.b t60))] H K = g7_p5 a20 a12 a21 R t0 t1 t5_0 t5_1 t7_0 t7_1 t8 t60 H (fun t6 H => K .ret [(6, (V.b t6))] H) := by
  show ev Tryd.prog (E7 a20 a12 a21) loopLim Tryd.f7.ntmps kp7 (.seq (.cond (.tmp 60) (.seq (codeAt [1, 1, 1, 1, 0, 1, 0, 0] b7) .ret) .skip) (.seq (codeAt [1, 1, 1, 1, 1, 0, 0] b7) c7_1)) [(0, (V.i .u16 t0)), (1, (V.i .u16 t1)), (5, (V.p (some (t5_0, t5_1)))), (7, (V.p (some (t7_0, t7_1)))), (8, (V.i .i64 t8)), (60, (V.b t60))] H K = _
  delta g7_p5
  exact (g7_p1_eq a20 a12 a21 _ t0 t1 t5_0 t5_1 t7_0 t7_1 t8 t60 H K).trans (congr (congrArg (g7_p1 a20 a12 a21 R t0 t1 t5_0 t5_1 t7_0 t7_1 t8 t60 H) (funext fun t0 => funext fun t1 => funext fun t5_0 => funext fun t5_1 => funext fun t7_0 => funext fun t7_1 => funext fun t110 => funext fun H => g7_p4_eq a20 a12 a21 la20 la12 la21 t0 t1 t5_0 t5_1 t7_0 t7_1 t110 H K)) rfl)
noncomputable def g7_p6 (a20 : T20) (a12 : T12) (a21 : T21) (R : Type) (t0 : Int) (t1 : Int) (t2_0 : Int) (t2_1 : Int) (t2_2 : Int) (t2_3 : Int) (t2_4 : Int) (H : Heap) (kR : Bool → Heap → Option R) : Option R :=
  g7_p0 a20 a12 a21 R t0 t1 t2_0 t2_1 t2_2 t2_3 t2_4 H (fun t0 t1 t5_0 t5_1 t7_0 t7_1 t8 t60 H => g7_p5 a20 a12 a21 R t0 t1 t5_0 t5_1 t7_0 t7_1 t8 t60 H (fun t6 H => kR t6 H)) (fun t6 H => kR t6 H)
theorem g7_p6_lin {a20 : T20} {a12 : T12} {a21 : T21} (la20 : Lin20 a20) (la12 : Lin12 a12) (la21 : Lin21 a21) {R S : Type} {k : S → Option R} {t0 : Int} {t1 : Int} {t2_0 : Int} {t2_1 : Int} {t2_2 : Int} {t2_3 : Int} {t2_4 : Int} {H : Heap} {fkR : Bool → Heap → Option R} {gkR : Bool → Heap → Option S} (hkR : ∀ t6 H, fkR t6 H = (gkR t6 H).bind k) : g7_p6 a20 a12 a21 R t0 t1 t2_0 t2_1 t2_2 t2_3 t2_4 H fkR = (g7_p6 a20 a12 a21 S t0 t1 t2_0 t2_1 t2_2 t2_3 t2_4 H gkR).bind k := by
  exact g7_p0_lin la20 la12 la21 (fun _ _ _ _ _ _ _ _ _ => g7_p5_lin la20 la12 la21 (fun _ _ => hkR _ _)) (fun _ _ => hkR _ _)
theorem g7_p6_eq (a20 : T20) (a12 : T12) (a21 : T21) (la20 : Lin20 a20) (la12 : Lin12 a12) (la21 : Lin21 a21) {R : Type} (t0 : Int) (t1 : Int) (t2_0 : Int) (t2_1 : Int) (t2_2 : Int) (t2_3 : Int) (t2_4 : Int) (H : Heap) (K : Ex → Fr → Heap → Option R) : ev Tryd.prog (E7 a20 a12 a21) loopLim Tryd.f7.ntmps kp7 c7_3 [(0, (V.i .u16 t0)), (1, (V.i .u16 t1)), (2, (V.agg [(V.i .u8 t2_0), (V.i .u16 t2_1), (V.i .u16 t2_2), (V.i .u16 t2_3), (V.i .u8 t2_4)]))] H K = g7_p6 a20 a12 a21 R t0 t1 t2_0 t2_1 t2_2 t2_3 t2_4 H (fun t6 H => K .ret [(6, (V.b t6))] H) := by
  show ev Tryd.prog (E7 a20 a12 a21) loopLim Tryd.f7.ntmps kp7 (.seq (codeAt [0] b7) (.seq (codeAt [1, 0] b7) (.seq (codeAt [1, 1, 0] b7) (.seq (codeAt [1, 1, 1, 0, 0] b7) (.seq (.cond (.tmp 44) (.seq (codeAt [1, 1, 1, 0, 1, 0, 0] b7) .ret) .skip) (.seq (codeAt [1, 1, 1, 1, 0, 0] b7) c7_2)))))) [(0, (V.i .u16 t0)), (1, (V.i .u16 t1)), (2, (V.agg [(V.i .u8 t2_0), (V.i .u16 t2_1), (V.i .u16 t2_2), (V.i .u16 t2_3), (V.i .u8 t2_4)]))] H K = _
  delta g7_p6
  exact (g7_p0_eq a20 a12 a21 _ t0 t1 t2_0 t2_1 t2_2 t2_3 t2_4 H K).trans (congr (congrArg (g7_p0 a20 a12 a21 R t0 t1 t2_0 t2_1 t2_2 t2_3 t2_4 H) (funext fun t0 => funext fun t1 => funext fun t5_0 => funext fun t5_1 => funext fun t7_0 => funext fun t7_1 => funext fun t8 => funext fun t60 => funext fun H => g7_p5_eq a20 a12 a21 la20 la12 la21 t0 t1 t5_0 t5_1 t7_0 t7_1 t8 t60 H K)) rfl)
noncomputable def g7_r (a20 : T20) (a12 : T12) (a21 : T21) : T7 := fun R t0 t1 t2_0 t2_1 t2_2 t2_3 t2_4 H K =>
  g7_p6 a20 a12 a21 R t0 t1 t2_0 t2_1 t2_2 t2_3 t2_4 H (fun t6 H =>
    K t6 H)
theorem g7_r_lin {a20 : T20} {a12 : T12} {a21 : T21} (la20 : Lin20 a20) (la12 : Lin12 a12) (la21 : Lin21 a21) : Lin7 (g7_r a20 a12 a21) := by
  constructor
  intro R S k t0 t1 t2_0 t2_1 t2_2 t2_3 t2_4 H f g h
  exact g7_p6_lin la20 la12 la21 (fun t6 H =>
    h _ _)
theorem g7_fn (a20 : T20) (a12 : T12) (a21 : T21) (la20 : Lin20 a20) (la12 : Lin12 a12) (la21 : Lin21 a21) {R : Type} (t0 : Int) (t1 : Int) (t2_0 : Int) (t2_1 : Int) (t2_2 : Int) (t2_3 : Int) (t2_4 : Int) (H : Heap) (K : V → Heap → Option R) : evFn Tryd.prog (E7 a20 a12 a21) loopLim Tryd.f7 kp7 [(V.i .u16 t0), (V.i .u16 t1), (V.agg [(V.i .u8 t2_0), (V.i .u16 t2_1), (V.i .u16 t2_2), (V.i .u16 t2_3), (V.i .u8 t2_4)])] H K = g7_r a20 a12 a21 R t0 t1 t2_0 t2_1 t2_2 t2_3 t2_4 H (fun r0 H => K (V.b r0) H) := by
  have h0 : ∀ (t6 : Bool) (H : Heap), kFn Tryd.prog Tryd.f7.results.toList K .ret [(6, (V.b t6))] H =
      K (V.b t6) H := by intros; kernel_rfl
  have e0 := evFn_code2 (P := Tryd.prog) (c := c7_3) (E := (E7 a20 a12 a21)) (lr := loopLim) (kp := kp7) (fn := Tryd.f7) (args := [(V.i .u16 t0), (V.i .u16 t1), (V.agg [(V.i .u8 t2_0), (V.i .u16 t2_1), (V.i .u16 t2_2), (V.i .u16 t2_3), (V.i .u8 t2_4)])]) H K (by kernel_rfl) (Nat.le_of_ble_eq_true (by kernel_rfl)) (by kernel_rfl)
  have e1 : ev Tryd.prog (E7 a20 a12 a21) loopLim Tryd.f7.ntmps kp7 c7_3 (argFr 0 [(V.i .u16 t0), (V.i .u16 t1), (V.agg [(V.i .u8 t2_0), (V.i .u16 t2_1), (V.i .u16 t2_2), (V.i .u16 t2_3), (V.i .u8 t2_4)])]) H (kFn Tryd.prog Tryd.f7.results.toList K) = ev Tryd.prog (E7 a20 a12 a21) loopLim Tryd.f7.ntmps kp7 c7_3 [(0, (V.i .u16 t0)), (1, (V.i .u16 t1)), (2, (V.agg [(V.i .u8 t2_0), (V.i .u16 t2_1), (V.i .u16 t2_2), (V.i .u16 t2_3), (V.i .u8 t2_4)]))] H (kFn Tryd.prog Tryd.f7.results.toList K) := by kernel_rfl
  refine (e0.trans e1).trans ?_
  delta g7_r
  exact (g7_p6_eq a20 a12 a21 la20 la12 la21 t0 t1 t2_0 t2_1 t2_2 t2_3 t2_4 H (kFn Tryd.prog Tryd.f7.results.toList K)).trans (congrArg (g7_p6 a20 a12 a21 R t0 t1 t2_0 t2_1 t2_2 t2_3 t2_4 H) (funext fun t6 => funext fun H => h0 t6 H))
theorem g7_ok {a20 : T20} {a12 : T12} {a21 : T21} (oa20 : FunOK Tryd.prog 20 (w20 a20)) (oa12 : FunOK Tryd.prog 12 (w12 a12)) (oa21 : FunOK Tryd.prog 21 (w21 a21)) (la20 : Lin20 a20) (la12 : Lin12 a12) (la21 : Lin21 a21) : FunOK Tryd.prog 7 (w7 (g7_r a20 a12 a21)) := by
  refine (runF_ok (E7_good oa20 oa12 oa21 la20 la12 la21) mixed lim_ok Tryd.func7 (by kernel_rfl) kp7).of_le fun R args H K r hk => ?_
  unfold w7 at hk
  split at hk
  · exact (g7_fn a20 a12 a21 la20 la12 la21 _ _ _ _ _ _ _ H K).trans hk
  · cases hk
def kp22 : Nat → Option (List Nat) := kpOf [(0, [1, 2]), (1, [1, 2, 3]), (2, [1, 2, 3]), (3, [2, 3]), (4, [2]), (300000, [2])]
def E22 : FEnv := []
theorem E22_good : EnvGood Tryd.prog E22 := (EnvGood.nil _)
theorem E22_lin : EnvLin E22 := fun g F h => by cases h
noncomputable def b22 : Code := Tryd.f22.body.getD .skip
noncomputable def c22_0 : Code := (.seq (codeAt [0] b22) (.seq (codeAt [1, 0] b22) (.seq (codeAt [1, 1, 0] b22) (.seq (codeAt [1, 1, 1, 0] b22) (.seq (codeAt [1, 1, 1, 1, 0] b22) .ret)))))
noncomputable def g22_p0 (R : Type) (t0_0 : Int) (t0_1 : Int) (t0_2 : Int) (t0_3 : Int) (t0_4 : Int) (t0_5 : Int) (t0_6 : Sl) (H : Heap) (kR : Nat → Nat → Heap → Option R) : Option R :=
  alo H (.cells [(V.i .u8 t0_0), (V.i .u8 t0_1), (V.i .u8 t0_2), (V.i .u16 t0_3), (V.i .u16 t0_4), (V.i .u8 t0_5), (V.sl t0_6)] 55 false) fun i1 h2 =>
  alo h2 (.cells [(V.i .u8 (0 : Int)), (V.i .u8 (0 : Int)), (V.i .u8 (0 : Int)), (V.i .u16 (0 : Int)), (V.i .u16 (0 : Int)), (V.i .u8 (0 : Int)), (V.sl (Sl.mk none 0 (.ex 0)))] 38 false) fun i3 h4 =>
  ((h4).ldI .u8 i1 (0 + 0)).bind fun x5 =>
  ((h4).ldI .u8 i1 (0 + 1)).bind fun x6 =>
  ((h4).ldI .u8 i1 (0 + 2)).bind fun x7 =>
  alo h4 (.cells [(V.i .u8 (0 : Int)), (V.i .u8 (0 : Int)), (V.i .u8 (0 : Int)), (V.i .u16 (0 : Int)), (V.i .u16 (0 : Int)), (V.i .u8 (0 : Int)), (V.sl (Sl.mk none 0 (.ex 0)))] 38 false) fun i8 h9 =>
  ((h9).sts i8 0 [(V.i .u8 (Int.tmod x5 (16 : Int))), (V.i .u8 (Int.tmod x6 (4 : Int))), (V.i .u8 (Int.tmod x7 (4 : Int))), (V.i .u16 (0 : Int)), (V.i .u16 (0 : Int)), (V.i .u8 (0 : Int)), (V.sl (Sl.mk none 0 (.ex 0)))]).bind fun h10 =>
  ((h10).ldI .u16 i1 (0 + 3)).bind fun x11 =>
  ((h10).ldI .u16 i1 (0 + 4)).bind fun x12 =>
  ((h10).ldI .u8 i1 (0 + 5)).bind fun x13 =>
  ((h10).sts i8 (0 + 3) [(V.i .u16 (Int.tmod x11 (16384 : Int))), (V.i .u16 (Int.tmod x12 (16384 : Int))), (V.i .u8 (Int.tmod x13 (16 : Int)))]).bind fun h14 =>
  ((h14).ldSl i8 (0 + 6)).bind fun x15 =>
  ((h14).ldSl i1 (0 + 6)).bind fun x16 =>
  ((h14).ldSl i1 (0 + 6)).bind fun x17 =>
  slOf 1 x16 none (some (if (40 : Int) < ((x17.len : Nat) : Int) then (40 : Int) else ((x17.len : Nat) : Int))) none fun s18 =>
  ((slCells h14 1 s18)).bind fun vs21 =>
  appendV h14 5 1 1 x15 s18.len vs21 fun s19 h20 =>
  ((h20).st i8 (0 + 6) (V.sl s19)).bind fun h23 =>
  ((h23).ldI .u8 i8 (0 + 0)).bind fun x24 =>
  ((h23).ldI .u8 i8 (0 + 1)).bind fun x25 =>
  ((h23).ldI .u8 i8 (0 + 2)).bind fun x26 =>
  ((h23).ldI .u16 i8 (0 + 3)).bind fun x27 =>
  ((h23).ldI .u16 i8 (0 + 4)).bind fun x28 =>
  ((h23).ldI .u8 i8 (0 + 5)).bind fun x29 =>
  ((h23).ldSl i8 (0 + 6)).bind fun x30 =>
  ((h23).sts i3 0 [(V.i .u8 x24), (V.i .u8 x25), (V.i .u8 x26), (V.i .u16 x27), (V.i .u16 x28), (V.i .u8 x29), (V.sl x30)]).bind fun h31 =>
  kR i3 0 h31
theorem g22_p0_eq {R : Type} (t0_0 : Int) (t0_1 : Int) (t0_2 : Int) (t0_3 : Int) (t0_4 : Int) (t0_5 : Int) (t0_6 : Sl) (H : Heap) (K : Ex → Fr → Heap → Option R) : ev Tryd.prog E22 loopLim Tryd.f22.ntmps kp22 c22_0 [(0, (V.agg [(V.i .u8 t0_0), (V.i .u8 t0_1), (V.i .u8 t0_2), (V.i .u16 t0_3), (V.i .u16 t0_4), (V.i .u8 t0_5), (V.sl t0_6)]))] H K = g22_p0 R t0_0 t0_1 t0_2 t0_3 t0_4 t0_5 t0_6 H (fun t2_0 t2_1 H => K .ret [(2, (V.p (some (t2_0, t2_1))))] H) := by kernel_rfl
theorem g22_p0_lin {R S : Type} {k : S → Option R} {t0_0 : Int} {t0_1 : Int} {t0_2 : Int} {t0_3 : Int} {t0_4 : Int} {t0_5 : Int} {t0_6 : Sl} {H : Heap} {fkR : Nat → Nat → Heap → Option R} {gkR : Nat → Nat → Heap → Option S} (hkR : ∀ t2_0 t2_1 H, fkR t2_0 t2_1 H = (gkR t2_0 t2_1 H).bind k) : g22_p0 R t0_0 t0_1 t0_2 t0_3 t0_4 t0_5 t0_6 H fkR = (g22_p0 S t0_0 t0_1 t0_2 t0_3 t0_4 t0_5 t0_6 H gkR).bind k := by
  delta g22_p0; exact (
    alo_lin fun i1 h2 =>
    alo_lin fun i3 h4 =>
    bl fun x5 =>
    bl fun x6 =>
    bl fun x7 =>
    alo_lin fun i8 h9 =>
    bl fun h10 =>
    bl fun x11 =>
    bl fun x12 =>
    bl fun x13 =>
    bl fun h14 =>
    bl fun x15 =>
    bl fun x16 =>
    bl fun x17 =>
    slOf_lin fun s18 =>
    bl fun vs21 =>
    appendV_lin fun s19 h20 =>
    bl fun h23 =>
    bl fun x24 =>
    bl fun x25 =>
    bl fun x26 =>
    bl fun x27 =>
    bl fun x28 =>
    bl fun x29 =>
    bl fun x30 =>
    bl fun h31 =>
    hkR _ _ _)
noncomputable def g22_r : T22 := fun R t0_0 t0_1 t0_2 t0_3 t0_4 t0_5 t0_6 H K =>
  g22_p0 R t0_0 t0_1 t0_2 t0_3 t0_4 t0_5 t0_6 H (fun t2_0 t2_1 H =>
    ((H).ldI .u8 t2_0 (t2_1 + 0)).bind fun x32 =>
    ((H).ldI .u8 t2_0 (t2_1 + 1)).bind fun x33 =>
    ((H).ldI .u8 t2_0 (t2_1 + 2)).bind fun x34 =>
    ((H).ldI .u16 t2_0 (t2_1 + 3)).bind fun x35 =>
    ((H).ldI .u16 t2_0 (t2_1 + 4)).bind fun x36 =>
    ((H).ldI .u8 t2_0 (t2_1 + 5)).bind fun x37 =>
    ((H).ldSl t2_0 (t2_1 + 6)).bind fun x38 =>
    K x32 x33 x34 x35 x36 x37 x38 H)
theorem g22_r_lin : Lin22 (g22_r) := by
  constructor
  intro R S k t0_0 t0_1 t0_2 t0_3 t0_4 t0_5 t0_6 H f g h
  exact g22_p0_lin (fun t2_0 t2_1 H =>
    bl fun x32 =>
    bl fun x33 =>
    bl fun x34 =>
    bl fun x35 =>
    bl fun x36 =>
    bl fun x37 =>
    bl fun x38 =>
    h _ _ _ _ _ _ _ _)
theorem g22_fn {R : Type} (t0_0 : Int) (t0_1 : Int) (t0_2 : Int) (t0_3 : Int) (t0_4 : Int) (t0_5 : Int) (t0_6 : Sl) (H : Heap) (K : V → Heap → Option R) : evFn Tryd.prog E22 loopLim Tryd.f22 kp22 [(V.agg [(V.i .u8 t0_0), (V.i .u8 t0_1), (V.i .u8 t0_2), (V.i .u16 t0_3), (V.i .u16 t0_4), (V.i .u8 t0_5), (V.sl t0_6)])] H K = g22_r R t0_0 t0_1 t0_2 t0_3 t0_4 t0_5 t0_6 H (fun r0_0 r0_1 r0_2 r0_3 r0_4 r0_5 r0_6 H => K (V.agg [(V.i .u8 r0_0), (V.i .u8 r0_1), (V.i .u8 r0_2), (V.i .u16 r0_3), (V.i .u16 r0_4), (V.i .u8 r0_5), (V.sl r0_6)]) H) := by
  have h0 : ∀ (t2_0 : Nat) (t2_1 : Nat) (H : Heap), kFn Tryd.prog Tryd.f22.results.toList K .ret [(2, (V.p (some (t2_0, t2_1))))] H =
      ((H).ldI .u8 t2_0 (t2_1 + 0)).bind fun x32 =>
      ((H).ldI .u8 t2_0 (t2_1 + 1)).bind fun x33 =>
      ((H).ldI .u8 t2_0 (t2_1 + 2)).bind fun x34 =>
      ((H).ldI .u16 t2_0 (t2_1 + 3)).bind fun x35 =>
      ((H).ldI .u16 t2_0 (t2_1 + 4)).bind fun x36 =>
      ((H).ldI .u8 t2_0 (t2_1 + 5)).bind fun x37 =>
      ((H).ldSl t2_0 (t2_1 + 6)).bind fun x38 =>
      K (V.agg [(V.i .u8 x32), (V.i .u8 x33), (V.i .u8 x34), (V.i .u16 x35), (V.i .u16 x36), (V.i .u8 x37), (V.sl x38)]) H := by intros; kernel_rfl
  have e0 := evFn_code2 (P := Tryd.prog) (c := c22_0) (E := E22) (lr := loopLim) (kp := kp22) (fn := Tryd.f22) (args := [(V.agg [(V.i .u8 t0_0), (V.i .u8 t0_1), (V.i .u8 t0_2), (V.i .u16 t0_3), (V.i .u16 t0_4), (V.i .u8 t0_5), (V.sl t0_6)])]) H K (by kernel_rfl) (Nat.le_of_ble_eq_true (by kernel_rfl)) (by kernel_rfl)
  have e1 : ev Tryd.prog E22 loopLim Tryd.f22.ntmps kp22 c22_0 (argFr 0 [(V.agg [(V.i .u8 t0_0), (V.i .u8 t0_1), (V.i .u8 t0_2), (V.i .u16 t0_3), (V.i .u16 t0_4), (V.i .u8 t0_5), (V.sl t0_6)])]) H (kFn Tryd.prog Tryd.f22.results.toList K) = ev Tryd.prog E22 loopLim Tryd.f22.ntmps kp22 c22_0 [(0, (V.agg [(V.i .u8 t0_0), (V.i .u8 t0_1), (V.i .u8 t0_2), (V.i .u16 t0_3), (V.i .u16 t0_4), (V.i .u8 t0_5), (V.sl t0_6)]))] H (kFn Tryd.prog Tryd.f22.results.toList K) := by kernel_rfl
  refine (e0.trans e1).trans ?_
  delta g22_r
  exact (g22_p0_eq t0_0 t0_1 t0_2 t0_3 t0_4 t0_5 t0_6 H (kFn Tryd.prog Tryd.f22.results.toList K)).trans (congrArg (g22_p0 R t0_0 t0_1 t0_2 t0_3 t0_4 t0_5 t0_6 H) (funext fun t2_0 => funext fun t2_1 => funext fun H => h0 t2_0 t2_1 H))
theorem g22_ok : FunOK Tryd.prog 22 (w22 (g22_r)) := by
  refine (runF_ok (E22_good) mixed lim_ok Tryd.func22 (by kernel_rfl) kp22).of_le fun R args H K r hk => ?_
  unfold w22 at hk
  split at hk
  · exact (g22_fn _ _ _ _ _ _ _ H K).trans hk
  · cases hk
def kp23 : Nat → Option (List Nat) := kpOf [(0, [1]), (1, [1, 3]), (2, [1, 3, 4]), (3, [1, 3, 4, 5]), (4, [1, 3, 4, 5, 34]), (5, [1, 3, 4, 5]), (6, [1, 3, 4, 5]), (7, [1, 3, 4, 5]), (8, [2]), (100000, [1, 3]), (100001, [1, 3, 4, 5]), (200000, [1, 3, 4, 5]), (200001, [1, 3, 4, 5]), (300000, [2]), (400034, [1, 3, 4, 5])]
def E23 : FEnv := []
theorem E23_good : EnvGood Tryd.prog E23 := (EnvGood.nil _)
theorem E23_lin : EnvLin E23 := fun g F h => by cases h
noncomputable def b23 : Code := Tryd.f23.body.getD .skip
noncomputable def c23_0 : Code := (.seq (codeAt [1, 1, 1, 0, 1, 0, 0, 0, 0] b23) (.seq (.cond (.tmp 34) .skip (.exit 0)) (.seq (.block 1 (.seq (codeAt [1, 1, 1, 0, 1, 0, 0, 1, 0, 0, 0] b23) (codeAt [1, 1, 1, 0, 1, 0, 0, 1, 0, 0, 1] b23))) (codeAt [1, 1, 1, 0, 1, 0, 0, 1, 1] b23))))
noncomputable def c23_1 : Code := (.loop c23_0)
noncomputable def c23_2 : Code := (.block 0 c23_1)
noncomputable def c23_3 : Code := (.seq (codeAt [1, 1, 1, 1, 0] b23) .ret)
noncomputable def c23_4 : Code := (.seq c23_2 c23_3)
noncomputable def c23_5 : Code := (.seq (codeAt [0] b23) (.seq (codeAt [1, 0] b23) (.seq (codeAt [1, 1, 0] b23) (.seq (codeAt [1, 1, 1, 0, 0] b23) c23_4))))
noncomputable def g23_p0 (R : Type) (t0_0 : Int) (t0_1 : Int) (t0_2 : Int) (t0_3 : Int) (t0_4 : Int) (t0_5 : Int) (t0_6 : Sl) (H : Heap) (kN : Nat → Nat → Sl → Int → Int → Heap → Option R) : Option R :=
  alo H (.cells [(V.i .u8 t0_0), (V.i .u8 t0_1), (V.i .u8 t0_2), (V.i .u16 t0_3), (V.i .u16 t0_4), (V.i .u8 t0_5), (V.sl t0_6)] 38 false) fun i20 h21 =>
  ((h21).ldI .u8 i20 (0 + 0)).bind fun x22 =>
  ((h21).ldI .u8 i20 (0 + 2)).bind fun x23 =>
  ((h21).ldI .u8 i20 (0 + 1)).bind fun x24 =>
  alo h21 (.cells [(V.i .u8 (IntKind.wrap .u8 ((IntKind.wrap .u8 (x22 + (IntKind.wrap .u8 ((16 : Int) * x23)))) + (IntKind.wrap .u8 ((64 : Int) * x24)))))] 5 false) fun i25 h26 =>
  ((h26).ldI .u16 i20 ((0 + 3) + 0)).bind fun x27 =>
  ((h26).ldI .u16 i20 ((0 + 3) + 1)).bind fun x28 =>
  ((h26).ldI .u8 i20 ((0 + 3) + 2)).bind fun x29 =>
  kN i20 0 (Sl.mk (some (i25, 0)) 1 (.ex 1)) (IntKind.wrap .u64 ((IntKind.wrap .u64 ((IntKind.wrap .u64 x27) + (IntKind.wrap .u64 ((16384 : Int) * (IntKind.wrap .u64 x28))))) + (IntKind.wrap .u64 ((268435456 : Int) * (IntKind.wrap .u64 x29))))) (0 : Int) h26
theorem g23_p0_eq {R : Type} (c2 : Code) (t0_0 : Int) (t0_1 : Int) (t0_2 : Int) (t0_3 : Int) (t0_4 : Int) (t0_5 : Int) (t0_6 : Sl) (H : Heap) (K : Ex → Fr → Heap → Option R) : ev Tryd.prog E23 loopLim Tryd.f23.ntmps kp23 (.seq (codeAt [0] b23) (.seq (codeAt [1, 0] b23) (.seq (codeAt [1, 1, 0] b23) (.seq (codeAt [1, 1, 1, 0, 0] b23) c2)))) [(0, (V.agg [(V.i .u8 t0_0), (V.i .u8 t0_1), (V.i .u8 t0_2), (V.i .u16 t0_3), (V.i .u16 t0_4), (V.i .u8 t0_5), (V.sl t0_6)]))] H K = g23_p0 R t0_0 t0_1 t0_2 t0_3 t0_4 t0_5 t0_6 H (fun t1_0 t1_1 t3 t4 t5 H => ev Tryd.prog E23 loopLim Tryd.f23.ntmps kp23 c2 [(1, (V.p (some (t1_0, t1_1)))), (3, (V.sl t3)), (4, (V.i .u64 t4)), (5, (V.i .i64 t5))] H K) := by kernel_rfl
theorem g23_p0_lin {R S : Type} {k : S → Option R} {t0_0 : Int} {t0_1 : Int} {t0_2 : Int} {t0_3 : Int} {t0_4 : Int} {t0_5 : Int} {t0_6 : Sl} {H : Heap} {fkN : Nat → Nat → Sl → Int → Int → Heap → Option R} {gkN : Nat → Nat → Sl → Int → Int → Heap → Option S} (hkN : ∀ t1_0 t1_1 t3 t4 t5 H, fkN t1_0 t1_1 t3 t4 t5 H = (gkN t1_0 t1_1 t3 t4 t5 H).bind k) : g23_p0 R t0_0 t0_1 t0_2 t0_3 t0_4 t0_5 t0_6 H fkN = (g23_p0 S t0_0 t0_1 t0_2 t0_3 t0_4 t0_5 t0_6 H gkN).bind k := by
  delta g23_p0; exact (
    alo_lin fun i20 h21 =>
    bl fun x22 =>
    bl fun x23 =>
    bl fun x24 =>
    alo_lin fun i25 h26 =>
    bl fun x27 =>
    bl fun x28 =>
    bl fun x29 =>
    hkN _ _ _ _ _ _)
noncomputable def g23_p1 (R : Type) (t1_0 : Nat) (t1_1 : Nat) (t3 : Sl) (t4 : Int) (t5 : Int) (H : Heap) (kN : Nat → Nat → Sl → Int → Int → Heap → Option R) (kE0 : Nat → Nat → Sl → Heap → Option R) : Option R :=
  sel (decide (t5 < (4 : Int))) (
    alo H (.cells [(V.i .u8 (IntKind.wrap .u8 (Int.tmod t4 (256 : Int))))] 5 false) fun i30 h31 =>
    ((slCells h31 1 (Sl.mk (some (i30, 0)) 1 (.ex 1)))).bind fun vs34 =>
    appendV h31 5 1 1 t3 (Sl.mk (some (i30, 0)) 1 (.ex 1)).len vs34 fun s32 h33 =>
    kN t1_0 t1_1 s32 (IntKind.wrap .u64 (Int.tdiv t4 (256 : Int))) (IntKind.wrap .i64 (t5 + (1 : Int))) h33) (
    kE0 t1_0 t1_1 t3 H)
theorem g23_p1_eq {R : Type} (t1_0 : Nat) (t1_1 : Nat) (t3 : Sl) (t4 : Int) (t5 : Int) (H : Heap) (K : Ex → Fr → Heap → Option R) : ev Tryd.prog E23 loopLim Tryd.f23.ntmps kp23 c23_0 [(1, (V.p (some (t1_0, t1_1)))), (3, (V.sl t3)), (4, (V.i .u64 t4)), (5, (V.i .i64 t5))] H K = g23_p1 R t1_0 t1_1 t3 t4 t5 H (fun t1_0 t1_1 t3 t4 t5 H => K .normal [(1, (V.p (some (t1_0, t1_1)))), (3, (V.sl t3)), (4, (V.i .u64 t4)), (5, (V.i .i64 t5))] H) (fun t1_0 t1_1 t3 H => K (.exit 0) [(1, (V.p (some (t1_0, t1_1)))), (3, (V.sl t3))] H) := by kernel_rfl
theorem g23_p1_lin {R S : Type} {k : S → Option R} {t1_0 : Nat} {t1_1 : Nat} {t3 : Sl} {t4 : Int} {t5 : Int} {H : Heap} {fkN : Nat → Nat → Sl → Int → Int → Heap → Option R} {gkN : Nat → Nat → Sl → Int → Int → Heap → Option S} {fkE0 : Nat → Nat → Sl → Heap → Option R} {gkE0 : Nat → Nat → Sl → Heap → Option S} (hkN : ∀ t1_0 t1_1 t3 t4 t5 H, fkN t1_0 t1_1 t3 t4 t5 H = (gkN t1_0 t1_1 t3 t4 t5 H).bind k) (hkE0 : ∀ t1_0 t1_1 t3 H, fkE0 t1_0 t1_1 t3 H = (gkE0 t1_0 t1_1 t3 H).bind k) : g23_p1 R t1_0 t1_1 t3 t4 t5 H fkN fkE0 = (g23_p1 S t1_0 t1_1 t3 t4 t5 H gkN gkE0).bind k := by
  delta g23_p1; exact (
    sl_lin (
      alo_lin fun i30 h31 =>
      bl fun vs34 =>
      appendV_lin fun s32 h33 =>
      hkN _ _ _ _ _ _) (
      hkE0 _ _ _ _))
abbrev g23_p2_S := Nat × Nat × Sl × Int × Int
abbrev g23_p2_O := Nat × Nat × Sl
def g23_p2_es (s : g23_p2_S) : Fr := [(1, (V.p (some (s.1, s.2.1)))), (3, (V.sl s.2.2.1)), (4, (V.i .u64 s.2.2.2.1)), (5, (V.i .i64 s.2.2.2.2))]
def g23_p2_er (r : g23_p2_O) : Ex × Fr := ((.exit 0), [(1, (V.p (some (r.1, r.2.1)))), (3, (V.sl r.2.2))])
noncomputable def g23_p2_b (s : g23_p2_S) (H : Heap) : Option (Rd g23_p2_S g23_p2_O × Heap) :=
  g23_p1 _ s.1 s.2.1 s.2.2.1 s.2.2.2.1 s.2.2.2.2 H (fun t1_0 t1_1 t3 t4 t5 H => some (.go (t1_0, t1_1, t3, t4, t5), H)) (fun t1_0 t1_1 t3 H => some (.up (t1_0, t1_1, t3), H))
noncomputable def g23_p2 (R : Type) (t1_0 : Nat) (t1_1 : Nat) (t3 : Sl) (t4 : Int) (t5 : Int) (H : Heap) (kE0 : Nat → Nat → Sl → Heap → Option R) : Option R :=
  (tlim (g23_p2_b) (t1_0, t1_1, t3, t4, t5) H).bind fun p => kE0 p.1.1 p.1.2.1 p.1.2.2 p.2
theorem g23_p2_lin {R S : Type} {k : S → Option R} {t1_0 : Nat} {t1_1 : Nat} {t3 : Sl} {t4 : Int} {t5 : Int} {H : Heap} {fkE0 : Nat → Nat → Sl → Heap → Option R} {gkE0 : Nat → Nat → Sl → Heap → Option S} (hkE0 : ∀ t1_0 t1_1 t3 H, fkE0 t1_0 t1_1 t3 H = (gkE0 t1_0 t1_1 t3 H).bind k) : g23_p2 R t1_0 t1_1 t3 t4 t5 H fkE0 = (g23_p2 S t1_0 t1_1 t3 t4 t5 H gkE0).bind k := by
  exact bl fun p => hkE0 _ _ _ _
theorem g23_p2_eq {R : Type} (t1_0 : Nat) (t1_1 : Nat) (t3 : Sl) (t4 : Int) (t5 : Int) (H : Heap) (K : Ex → Fr → Heap → Option R) : ev Tryd.prog E23 loopLim Tryd.f23.ntmps kp23 c23_1 [(1, (V.p (some (t1_0, t1_1)))), (3, (V.sl t3)), (4, (V.i .u64 t4)), (5, (V.i .i64 t5))] H K = g23_p2 R t1_0 t1_1 t3 t4 t5 H (fun t1_0 t1_1 t3 H => K (.exit 0) [(1, (V.p (some (t1_0, t1_1)))), (3, (V.sl t3))] H) := by
  show ev Tryd.prog E23 loopLim Tryd.f23.ntmps kp23 (.loop c23_0) [(1, (V.p (some (t1_0, t1_1)))), (3, (V.sl t3)), (4, (V.i .u64 t4)), (5, (V.i .i64 t5))] H K = _
  delta g23_p2
  refine (ev_tlim (b := g23_p2_b) (es := g23_p2_es) (er := g23_p2_er) (by intro r; exact nofun) (fun s H => ?_) (t1_0, t1_1, t3, t4, t5) H K).trans (bc fun p => rfl)
  exact (g23_p1_eq s.1 s.2.1 s.2.2.1 s.2.2.2.1 s.2.2.2.2 H ret3).trans (g23_p1_lin (fun _ _ _ _ _ _ => rfl) (fun _ _ _ _ => rfl))
noncomputable def g23_p3 (R : Type) (t1_0 : Nat) (t1_1 : Nat) (t3 : Sl) (t4 : Int) (t5 : Int) (H : Heap) (kN : Nat → Nat → Sl → Heap → Option R) : Option R :=
  g23_p2 R t1_0 t1_1 t3 t4 t5 H (fun t1_0 t1_1 t3 H => kN t1_0 t1_1 t3 H)
theorem g23_p3_lin {R S : Type} {k : S → Option R} {t1_0 : Nat} {t1_1 : Nat} {t3 : Sl} {t4 : Int} {t5 : Int} {H : Heap} {fkN : Nat → Nat → Sl → Heap → Option R} {gkN : Nat → Nat → Sl → Heap → Option S} (hkN : ∀ t1_0 t1_1 t3 H, fkN t1_0 t1_1 t3 H = (gkN t1_0 t1_1 t3 H).bind k) : g23_p3 R t1_0 t1_1 t3 t4 t5 H fkN = (g23_p3 S t1_0 t1_1 t3 t4 t5 H gkN).bind k := by
  exact g23_p2_lin (fun _ _ _ _ => hkN _ _ _ _)
theorem g23_p3_eq {R : Type} (t1_0 : Nat) (t1_1 : Nat) (t3 : Sl) (t4 : Int) (t5 : Int) (H : Heap) (K : Ex → Fr → Heap → Option R) : ev Tryd.prog E23 loopLim Tryd.f23.ntmps kp23 c23_2 [(1, (V.p (some (t1_0, t1_1)))), (3, (V.sl t3)), (4, (V.i .u64 t4)), (5, (V.i .i64 t5))] H K = g23_p3 R t1_0 t1_1 t3 t4 t5 H (fun t1_0 t1_1 t3 H => K .normal [(1, (V.p (some (t1_0, t1_1)))), (3, (V.sl t3))] H) := by
  show ev Tryd.prog E23 loopLim Tryd.f23.ntmps kp23 (.block 0 c23_1) [(1, (V.p (some (t1_0, t1_1)))), (3, (V.sl t3)), (4, (V.i .u64 t4)), (5, (V.i .i64 t5))] H K = _
  rw [ev_block]
  delta g23_p3
  exact (g23_p2_eq t1_0 t1_1 t3 t4 t5 H (kBlock kp23 0 K))
noncomputable def g23_p4 (R : Type) (t1_0 : Nat) (t1_1 : Nat) (t3 : Sl) (H : Heap) (kR : Sl → Heap → Option R) : Option R :=
  ((H).ldSl t1_0 (t1_1 + 6)).bind fun x35 =>
  ((slCells H 1 x35)).bind fun vs38 =>
  appendV H 5 1 1 t3 x35.len vs38 fun s36 h37 =>
  kR s36 h37
theorem g23_p4_eq {R : Type} (t1_0 : Nat) (t1_1 : Nat) (t3 : Sl) (H : Heap) (K : Ex → Fr → Heap → Option R) : ev Tryd.prog E23 loopLim Tryd.f23.ntmps kp23 c23_3 [(1, (V.p (some (t1_0, t1_1)))), (3, (V.sl t3))] H K = g23_p4 R t1_0 t1_1 t3 H (fun t2 H => K .ret [(2, (V.sl t2))] H) := by kernel_rfl
theorem g23_p4_lin {R S : Type} {k : S → Option R} {t1_0 : Nat} {t1_1 : Nat} {t3 : Sl} {H : Heap} {fkR : Sl → Heap → Option R} {gkR : Sl → Heap → Option S} (hkR : ∀ t2 H, fkR t2 H = (gkR t2 H).bind k) : g23_p4 R t1_0 t1_1 t3 H fkR = (g23_p4 S t1_0 t1_1 t3 H gkR).bind k := by
  delta g23_p4; exact (
    bl fun x35 =>
    bl fun vs38 =>
    appendV_lin fun s36 h37 =>
    hkR _ _)
noncomputable def g23_p5 (R : Type) (t1_0 : Nat) (t1_1 : Nat) (t3 : Sl) (t4 : Int) (t5 : Int) (H : Heap) (kR : Sl → Heap → Option R) : Option R :=
  g23_p3 R t1_0 t1_1 t3 t4 t5 H (fun t1_0 t1_1 t3 H => g23_p4 R t1_0 t1_1 t3 H (fun t2 H => kR t2 H))
theorem g23_p5_lin {R S : Type} {k : S → Option R} {t1_0 : Nat} {t1_1 : Nat} {t3 : Sl} {t4 : Int} {t5 : Int} {H : Heap} {fkR : Sl → Heap → Option R} {gkR : Sl → Heap → Option S} (hkR : ∀ t2 H, fkR t2 H = (gkR t2 H).bind k) : g23_p5 R t1_0 t1_1 t3 t4 t5 H fkR = (g23_p5 S t1_0 t1_1 t3 t4 t5 H gkR).bind k := by
  exact g23_p3_lin (fun _ _ _ _ => g23_p4_lin (fun _ _ => hkR _ _))
theorem g23_p5_eq {R : Type} (t1_0 : Nat) (t1_1 : Nat) (t3 : Sl) (t4 : Int) (t5 : Int) (H : Heap) (K : Ex → Fr → Heap → Option R) : ev Tryd.prog E23 loopLim Tryd.f23.ntmps kp23 c23_4 [(1, (V.p (some (t1_0, t1_1)))), (3, (V.sl t3)), (4, (V.i .u64 t4)), (5, (V.i .i64 t5))] H K = g23_p5 R t1_0 t1_1 t3 t4 t5 H (fun t2 H => K .ret [(2, (V.sl t2))] H) := by
  show ev Tryd.prog E23 loopLim Tryd.f23.ntmps kp23 (.seq c23_2 c23_3) [(1, (V.p (some (t1_0, t1_1)))), (3, (V.sl t3)), (4, (V.i .u64 t4)), (5, (V.i .i64 t5))] H K = _
  rw [ev_seq]
  delta g23_p5
  exact (g23_p3_eq t1_0 t1_1 t3 t4 t5 H (kSeq (fun fr H => ev Tryd.prog E23 loopLim Tryd.f23.ntmps kp23 c23_3 fr H K) K)).trans (congrArg (g23_p3 R t1_0 t1_1 t3 t4 t5 H) (funext fun t1_0 => funext fun t1_1 => funext fun t3 => funext fun H => (kSeq_n _ _ _ _).trans (g23_p4_eq t1_0 t1_1 t3 H K)))
noncomputable def g23_p6 (R : Type) (t0_0 : Int) (t0_1 : Int) (t0_2 : Int) (t0_3 : Int) (t0_4 : Int) (t0_5 : Int) (t0_6 : Sl) (H : Heap) (kR : Sl → Heap → Option R) : Option R :=
  g23_p0 R t0_0 t0_1 t0_2 t0_3 t0_4 t0_5 t0_6 H (fun t1_0 t1_1 t3 t4 t5 H => g23_p5 R t1_0 t1_1 t3 t4 t5 H (fun t2 H => kR t2 H))
theorem g23_p6_lin {R S : Type} {k : S → Option R} {t0_0 : Int} {t0_1 : Int} {t0_2 : Int} {t0_3 : Int} {t0_4 : Int} {t0_5 : Int} {t0_6 : Sl} {H : Heap} {fkR : Sl → Heap → Option R} {gkR : Sl → Heap → Option S} (hkR : ∀ t2 H, fkR t2 H = (gkR t2 H).bind k) : g23_p6 R t0_0 t0_1 t0_2 t0_3 t0_4 t0_5 t0_6 H fkR = (g23_p6 S t0_0 t0_1 t0_2 t0_3 t0_4 t0_5 t0_6 H gkR).bind k := by
  exact g23_p0_lin (fun _ _ _ _ _ _ => g23_p5_lin (fun _ _ => hkR _ _))
theorem g23_p6_eq {R : Type} (t0_0 : Int) (t0_1 : Int) (t0_2 : Int) (t0_3 : Int) (t0_4 : Int) (t0_5 : Int) (t0_6 : Sl) (H : Heap) (K : Ex → Fr → Heap → Option R) : ev Tryd.prog E23 loopLim Tryd.f23.ntmps kp23 c23_5 [(0, (V.agg [(V.i .u8 t0_0), (V.i .u8 t0_1), (V.i .u8 t0_2), (V.i .u16 t0_3), (V.i .u16 t0_4), (V.i .u8 t0_5), (V.sl t0_6)]))] H K = g23_p6 R t0_0 t0_1 t0_2 t0_3 t0_4 t0_5 t0_6 H (fun t2 H => K .ret [(2, (V.sl t2))] H) := by
  show ev Tryd.prog E23 loopLim Tryd.f23.ntmps kp23 (.seq (codeAt [0] b23) (.seq (codeAt [1, 0] b23) (.seq (codeAt [1, 1, 0] b23) (.seq (codeAt [1, 1, 1, 0, 0] b23) c23_4)))) [(0, (V.agg [(V.i .u8 t0_0), (V.i .u8 t0_1), (V.i .u8 t0_2), (V.i .u16 t0_3), (V.i .u16 t0_4), (V.i .u8 t0_5), (V.sl t0_6)]))] H K = _
  delta g23_p6
  exact (g23_p0_eq _ t0_0 t0_1 t0_2 t0_3 t0_4 t0_5 t0_6 H K).trans (congrArg (g23_p0 R t0_0 t0_1 t0_2 t0_3 t0_4 t0_5 t0_6 H) (funext fun t1_0 => funext fun t1_1 => funext fun t3 => funext fun t4 => funext fun t5 => funext fun H => g23_p5_eq t1_0 t1_1 t3 t4 t5 H K))
noncomputable def g23_r : T23 := fun R t0_0 t0_1 t0_2 t0_3 t0_4 t0_5 t0_6 H K =>
  g23_p6 R t0_0 t0_1 t0_2 t0_3 t0_4 t0_5 t0_6 H (fun t2 H =>
    K t2 H)
theorem g23_r_lin : Lin23 (g23_r) := by
  constructor
  intro R S k t0_0 t0_1 t0_2 t0_3 t0_4 t0_5 t0_6 H f g h
  exact g23_p6_lin (fun t2 H =>
    h _ _)
theorem g23_fn {R : Type} (t0_0 : Int) (t0_1 : Int) (t0_2 : Int) (t0_3 : Int) (t0_4 : Int) (t0_5 : Int) (t0_6 : Sl) (H : Heap) (K : V → Heap → Option R) : evFn Tryd.prog E23 loopLim Tryd.f23 kp23 [(V.agg [(V.i .u8 t0_0), (V.i .u8 t0_1), (V.i .u8 t0_2), (V.i .u16 t0_3), (V.i .u16 t0_4), (V.i .u8 t0_5), (V.sl t0_6)])] H K = g23_r R t0_0 t0_1 t0_2 t0_3 t0_4 t0_5 t0_6 H (fun r0 H => K (V.sl r0) H) := by
  have h0 : ∀ (t2 : Sl) (H : Heap), kFn Tryd.prog Tryd.f23.results.toList K .ret [(2, (V.sl t2))] H =
      K (V.sl t2) H := by intros; kernel_rfl
  have e0 := evFn_code2 (P := Tryd.prog) (c := c23_5) (E := E23) (lr := loopLim) (kp := kp23) (fn := Tryd.f23) (args := [(V.agg [(V.i .u8 t0_0), (V.i .u8 t0_1), (V.i .u8 t0_2), (V.i .u16 t0_3), (V.i .u16 t0_4), (V.i .u8 t0_5), (V.sl t0_6)])]) H K (by kernel_rfl) (Nat.le_of_ble_eq_true (by kernel_rfl)) (by kernel_rfl)
  have e1 : ev Tryd.prog E23 loopLim Tryd.f23.ntmps kp23 c23_5 (argFr 0 [(V.agg [(V.i .u8 t0_0), (V.i .u8 t0_1), (V.i .u8 t0_2), (V.i .u16 t0_3), (V.i .u16 t0_4), (V.i .u8 t0_5), (V.sl t0_6)])]) H (kFn Tryd.prog Tryd.f23.results.toList K) = ev Tryd.prog E23 loopLim Tryd.f23.ntmps kp23 c23_5 [(0, (V.agg [(V.i .u8 t0_0), (V.i .u8 t0_1), (V.i .u8 t0_2), (V.i .u16 t0_3), (V.i .u16 t0_4), (V.i .u8 t0_5), (V.sl t0_6)]))] H (kFn Tryd.prog Tryd.f23.results.toList K) := by kernel_rfl
  refine (e0.trans e1).trans ?_
  delta g23_r
  exact (g23_p6_eq t0_0 t0_1 t0_2 t0_3 t0_4 t0_5 t0_6 H (kFn Tryd.prog Tryd.f23.results.toList K)).trans (congrArg (g23_p6 R t0_0 t0_1 t0_2 t0_3 t0_4 t0_5 t0_6 H) (funext fun t2 => funext fun H => h0 t2 H))
theorem g23_ok : FunOK Tryd.prog 23 (w23 (g23_r)) := by
  refine (runF_ok (E23_good) mixed lim_ok Tryd.func23 (by kernel_rfl) kp23).of_le fun R args H K r hk => ?_
  unfold w23 at hk
  split at hk
  · exact (g23_fn _ _ _ _ _ _ _ H K).trans hk
  · cases hk
def kp46 : Nat → Option (List Nat) := kpOf [(0, [0]), (1, [0, 4]), (2, [2]), (3, [2]), (300000, [2]), (400004, [0])]
def E46 : FEnv := []
theorem E46_good : EnvGood Tryd.prog E46 := (EnvGood.nil _)
theorem E46_lin : EnvLin E46 := fun g F h => by cases h
noncomputable def b46 : Code := Tryd.f46.body.getD .skip
noncomputable def c46_0 : Code := (.seq (codeAt [0] b46) (.seq (codeAt [1, 0, 0] b46) (.seq (.cond (.tmp 4) (.seq (codeAt [1, 0, 1, 0, 0] b46) .ret) .skip) (.seq (codeAt [1, 1, 0] b46) .ret))))
noncomputable def g46_p0 (R : Type) (t0 : Sl) (H : Heap) (kR : Sl → Heap → Option R) : Option R :=
  sel (Option.isNone t0.a) (
    kR (Sl.mk none 0 (.ex 0)) H) (
    alo H (.cells [] 5 false) fun i1 h2 =>
    ((slCells h2 1 t0)).bind fun vs5 =>
    appendV h2 5 1 1 (Sl.mk (some (i1, 0)) 0 (.ex 0)) t0.len vs5 fun s3 h4 =>
    kR s3 h4)
theorem g46_p0_eq {R : Type} (t0 : Sl) (H : Heap) (K : Ex → Fr → Heap → Option R) : ev Tryd.prog E46 loopLim Tryd.f46.ntmps kp46 c46_0 [(0, (V.sl t0))] H K = g46_p0 R t0 H (fun t2 H => K .ret [(2, (V.sl t2))] H) := by kernel_rfl
theorem g46_p0_lin {R S : Type} {k : S → Option R} {t0 : Sl} {H : Heap} {fkR : Sl → Heap → Option R} {gkR : Sl → Heap → Option S} (hkR : ∀ t2 H, fkR t2 H = (gkR t2 H).bind k) : g46_p0 R t0 H fkR = (g46_p0 S t0 H gkR).bind k := by
  delta g46_p0; exact (
    sl_lin (
      hkR _ _) (
      alo_lin fun i1 h2 =>
      bl fun vs5 =>
      appendV_lin fun s3 h4 =>
      hkR _ _))
noncomputable def g46_r : T46 := fun R t0 H K =>
  g46_p0 R t0 H (fun t2 H =>
    K t2 H)
theorem g46_r_lin : Lin46 (g46_r) := by
  constructor
  intro R S k t0 H f g h
  exact g46_p0_lin (fun t2 H =>
    h _ _)
theorem g46_fn {R : Type} (t0 : Sl) (H : Heap) (K : V → Heap → Option R) : evFn Tryd.prog E46 loopLim Tryd.f46 kp46 [(V.sl t0)] H K = g46_r R t0 H (fun r0 H => K (V.sl r0) H) := by
  have h0 : ∀ (t2 : Sl) (H : Heap), kFn Tryd.prog Tryd.f46.results.toList K .ret [(2, (V.sl t2))] H =
      K (V.sl t2) H := by intros; kernel_rfl
  have e0 := evFn_code2 (P := Tryd.prog) (c := c46_0) (E := E46) (lr := loopLim) (kp := kp46) (fn := Tryd.f46) (args := [(V.sl t0)]) H K (by kernel_rfl) (Nat.le_of_ble_eq_true (by kernel_rfl)) (by kernel_rfl)
  have e1 : ev Tryd.prog E46 loopLim Tryd.f46.ntmps kp46 c46_0 (argFr 0 [(V.sl t0)]) H (kFn Tryd.prog Tryd.f46.results.toList K) = ev Tryd.prog E46 loopLim Tryd.f46.ntmps kp46 c46_0 [(0, (V.sl t0))] H (kFn Tryd.prog Tryd.f46.results.toList K) := by kernel_rfl
  refine (e0.trans e1).trans ?_
  delta g46_r
  exact (g46_p0_eq t0 H (kFn Tryd.prog Tryd.f46.results.toList K)).trans (congrArg (g46_p0 R t0 H) (funext fun t2 => funext fun H => h0 t2 H))
theorem g46_ok : FunOK Tryd.prog 46 (w46 (g46_r)) := by
  refine (runF_ok (E46_good) mixed lim_ok Tryd.func46 (by kernel_rfl) kp46).of_le fun R args H K r hk => ?_
  unfold w46 at hk
  split at hk
  · exact (g46_fn _ H K).trans hk
  · cases hk
def kp45 : Nat → Option (List Nat) := kpOf [(0, [0]), (1, [2]), (300000, [2])]
def E45 : FEnv := []
theorem E45_good : EnvGood Tryd.prog E45 := (EnvGood.nil _)
theorem E45_lin : EnvLin E45 := fun g F h => by cases h
noncomputable def b45 : Code := Tryd.f45.body.getD .skip
noncomputable def c45_0 : Code := (.seq (codeAt [0] b45) (.seq (codeAt [1, 0] b45) .ret))
noncomputable def g45_p0 (R : Type) (t0 : Sl) (H : Heap) (kR : Sl → Heap → Option R) : Option R :=
  slOf 1 t0 none (some ((t0.len : Nat) : Int)) (some ((t0.len : Nat) : Int)) fun s1 =>
  kR s1 H
theorem g45_p0_eq {R : Type} (t0 : Sl) (H : Heap) (K : Ex → Fr → Heap → Option R) : ev Tryd.prog E45 loopLim Tryd.f45.ntmps kp45 c45_0 [(0, (V.sl t0))] H K = g45_p0 R t0 H (fun t2 H => K .ret [(2, (V.sl t2))] H) := by kernel_rfl
theorem g45_p0_lin {R S : Type} {k : S → Option R} {t0 : Sl} {H : Heap} {fkR : Sl → Heap → Option R} {gkR : Sl → Heap → Option S} (hkR : ∀ t2 H, fkR t2 H = (gkR t2 H).bind k) : g45_p0 R t0 H fkR = (g45_p0 S t0 H gkR).bind k := by
  delta g45_p0; exact (
    slOf_lin fun s1 =>
    hkR _ _)
noncomputable def g45_r : T45 := fun R t0 H K =>
  g45_p0 R t0 H (fun t2 H =>
    K t2 H)
theorem g45_r_lin : Lin45 (g45_r) := by
  constructor
  intro R S k t0 H f g h
  exact g45_p0_lin (fun t2 H =>
    h _ _)
theorem g45_fn {R : Type} (t0 : Sl) (H : Heap) (K : V → Heap → Option R) : evFn Tryd.prog E45 loopLim Tryd.f45 kp45 [(V.sl t0)] H K = g45_r R t0 H (fun r0 H => K (V.sl r0) H) := by
  have h0 : ∀ (t2 : Sl) (H : Heap), kFn Tryd.prog Tryd.f45.results.toList K .ret [(2, (V.sl t2))] H =
      K (V.sl t2) H := by intros; kernel_rfl
  have e0 := evFn_code2 (P := Tryd.prog) (c := c45_0) (E := E45) (lr := loopLim) (kp := kp45) (fn := Tryd.f45) (args := [(V.sl t0)]) H K (by kernel_rfl) (Nat.le_of_ble_eq_true (by kernel_rfl)) (by kernel_rfl)
  have e1 : ev Tryd.prog E45 loopLim Tryd.f45.ntmps kp45 c45_0 (argFr 0 [(V.sl t0)]) H (kFn Tryd.prog Tryd.f45.results.toList K) = ev Tryd.prog E45 loopLim Tryd.f45.ntmps kp45 c45_0 [(0, (V.sl t0))] H (kFn Tryd.prog Tryd.f45.results.toList K) := by kernel_rfl
  refine (e0.trans e1).trans ?_
  delta g45_r
  exact (g45_p0_eq t0 H (kFn Tryd.prog Tryd.f45.results.toList K)).trans (congrArg (g45_p0 R t0 H) (funext fun t2 => funext fun H => h0 t2 H))
theorem g45_ok : FunOK Tryd.prog 45 (w45 (g45_r)) := by
  refine (runF_ok (E45_good) mixed lim_ok Tryd.func45 (by kernel_rfl) kp45).of_le fun R args H K r hk => ?_
  unfold w45 at hk
  split at hk
  · exact (g45_fn _ H K).trans hk
  · cases hk
end Go.Proofs.YtgdkkpjmjnknoaaDoor

