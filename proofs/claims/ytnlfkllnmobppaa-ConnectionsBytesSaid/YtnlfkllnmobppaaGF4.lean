/- Printed: functions as the machine runs them. -/
import Derived.Test.YtnlfkllnmobppaaGT
namespace Go.Proofs.Ytnlfkllnmobppaa
open Go AM Go.RowKit
set_option linter.unusedVariables false
def kp3 : Nat → Option (List Nat) := kpOf [(0, [1, 2]), (1, [1, 2, 20]), (2, [4]), (3, [1, 2, 5]), (4, [1, 2, 5, 6, 7]), (5, [1, 2, 6, 7, 46]), (6, [4]), (7, [1, 2, 6, 48]), (8, [1, 2, 6, 8, 9]), (9, [1, 75]), (10, [4]), (11, [1, 10, 11]), (12, [1, 10, 11, 82]), (13, [4]), (14, [4]), (300000, [4]), (400020, [1, 2]), (400046, [1, 2, 6, 7]), (400048, [1]), (400075, [1]), (400082, [1, 10])]
def E3 (a9 : T9) (a10 : T10) (a11 : T11) (a12 : T12) (a13 : T13) (a14 : T14) (a15 : T15) (a16 : T16) : FEnv := [(9, w9 a9), (10, w10 a10), (11, w11 a11), (12, w12 a12), (13, w13 a13), (14, w14 a14), (15, w15 a15), (16, w16 a16)]
theorem E3_good {a9 : T9} {a10 : T10} {a11 : T11} {a12 : T12} {a13 : T13} {a14 : T14} {a15 : T15} {a16 : T16} (oa9 : FunOK Try.prog 9 (w9 a9)) (oa10 : FunOK Try.prog 10 (w10 a10)) (oa11 : FunOK Try.prog 11 (w11 a11)) (oa12 : FunOK Try.prog 12 (w12 a12)) (oa13 : FunOK Try.prog 13 (w13 a13)) (oa14 : FunOK Try.prog 14 (w14 a14)) (oa15 : FunOK Try.prog 15 (w15 a15)) (oa16 : FunOK Try.prog 16 (w16 a16)) (la9 : Lin9 a9) (la10 : Lin10 a10) (la11 : Lin11 a11) (la12 : Lin12 a12) (la13 : Lin13 a13) (la14 : Lin14 a14) (la15 : Lin15 a15) (la16 : Lin16 a16) : EnvGood Try.prog (E3 a9 a10 a11 a12 a13 a14 a15 a16) := (((((((((EnvGood.nil _).cons oa16 (w16_lin la16)).cons oa15 (w15_lin la15)).cons oa14 (w14_lin la14)).cons oa13 (w13_lin la13)).cons oa12 (w12_lin la12)).cons oa11 (w11_lin la11)).cons oa10 (w10_lin la10)).cons oa9 (w9_lin la9))
theorem E3_lin {a9 : T9} {a10 : T10} {a11 : T11} {a12 : T12} {a13 : T13} {a14 : T14} {a15 : T15} {a16 : T16} (la9 : Lin9 a9) (la10 : Lin10 a10) (la11 : Lin11 a11) (la12 : Lin12 a12) (la13 : Lin13 a13) (la14 : Lin14 a14) (la15 : Lin15 a15) (la16 : Lin16 a16) : EnvLin (E3 a9 a10 a11 a12 a13 a14 a15 a16) := by
  intro g F h
  simp only [E3, List.mem_cons, List.not_mem_nil, or_false] at h
  rcases h with h | h | h | h | h | h | h | h
  · cases h; exact w9_lin la9
  · cases h; exact w10_lin la10
  · cases h; exact w11_lin la11
  · cases h; exact w12_lin la12
  · cases h; exact w13_lin la13
  · cases h; exact w14_lin la14
  · cases h; exact w15_lin la15
  · cases h; exact w16_lin la16
noncomputable def b3 : Code := Try.f3.body.getD .skip
noncomputable def c3_0 : Code := (.seq (codeAt [1, 1, 1, 1, 1, 1, 0] b3) (.seq (codeAt [1, 1, 1, 1, 1, 1, 1, 0, 0] b3) (.seq (.cond (.tmp 82) (.seq (codeAt [1, 1, 1, 1, 1, 1, 1, 0, 1, 0, 0] b3) .ret) .skip) (.seq (codeAt [1, 1, 1, 1, 1, 1, 1, 1, 0] b3) .ret))))
noncomputable def c3_1 : Code := (.seq (.cond (.tmp 46) (.seq (codeAt [1, 1, 1, 1, 0, 1, 0, 0] b3) .ret) .skip) (.seq (codeAt [1, 1, 1, 1, 1, 0, 0] b3) (.seq (.cond (.tmp 48) (.seq (codeAt [1, 1, 1, 1, 1, 0, 1, 0, 0] b3) (.seq (codeAt [1, 1, 1, 1, 1, 0, 1, 0, 1, 0] b3) (.cond (.tmp 75) (.seq (codeAt [1, 1, 1, 1, 1, 0, 1, 0, 1, 1, 0, 0] b3) .ret) .skip))) .skip) c3_0)))
noncomputable def c3_2 : Code := (.seq (codeAt [0] b3) (.seq (codeAt [1, 0, 0] b3) (.seq (.cond (.tmp 20) (.seq (codeAt [1, 0, 1, 0, 0] b3) .ret) .skip) (.seq (codeAt [1, 1, 0] b3) (.seq (codeAt [1, 1, 1, 0] b3) (.seq (codeAt [1, 1, 1, 1, 0, 0] b3) c3_1))))))
noncomputable def g3_p0 (a9 : T9) (a10 : T10) (a11 : T11) (a12 : T12) (a13 : T13) (a14 : T14) (a15 : T15) (a16 : T16) (R : Type) (t0_0 : Int) (t0_1 : Int) (t0_2 : Int) (t0_3 : Int) (t0_4 : Int) (t0_5 : Int) (t0_6 : Int) (t0_7 : Sl) (t1 : Sl) (H : Heap) (kN : Sl → Nat → Nat → Sl → Int → Bool → Heap → Option R) (kR : Bool → Heap → Option R) : Option R :=
  alo H (.cells [(V.i .u8 t0_0), (V.i .u32 t0_1), (V.i .u32 t0_2), (V.i .u8 t0_3), (V.i .u8 t0_4), (V.i .u8 t0_5), (V.i .u8 t0_6), (V.sl t0_7)] 26 false) fun i388 h389 =>
  ((h389).ldSl i388 (0 + 7)).bind fun x390 =>
  sel (decide (((x390.len : Nat) : Int) > (300 : Int))) (
    a9 R h389 fun x391 h392 =>
    kR x391 h392) (
    sel (decide (((t1.len : Nat) : Int) > (300 : Int))) (
      a9 R h389 fun x393 h394 =>
      kR x393 h394) (
      ((h389).ldI .u8 i388 (0 + 0)).bind fun x395 =>
      ((h389).ldI .u32 i388 (0 + 1)).bind fun x396 =>
      ((h389).ldI .u32 i388 (0 + 2)).bind fun x397 =>
      ((h389).ldI .u8 i388 (0 + 3)).bind fun x398 =>
      ((h389).ldI .u8 i388 (0 + 4)).bind fun x399 =>
      ((h389).ldI .u8 i388 (0 + 5)).bind fun x400 =>
      ((h389).ldI .u8 i388 (0 + 6)).bind fun x401 =>
      ((h389).ldSl i388 (0 + 7)).bind fun x402 =>
      a10 R x395 x396 x397 x398 x399 x400 x401 x402 h389 fun x403 h404 =>
      ((h404).ldI .u8 i388 (0 + 0)).bind fun x405 =>
      ((h404).ldI .u32 i388 (0 + 1)).bind fun x406 =>
      ((h404).ldI .u32 i388 (0 + 2)).bind fun x407 =>
      ((h404).ldI .u8 i388 (0 + 3)).bind fun x408 =>
      ((h404).ldI .u8 i388 (0 + 4)).bind fun x409 =>
      ((h404).ldI .u8 i388 (0 + 5)).bind fun x410 =>
      ((h404).ldI .u8 i388 (0 + 6)).bind fun x411 =>
      ((h404).ldSl i388 (0 + 7)).bind fun x412 =>
      a11 R x405 x406 x407 x408 x409 x410 x411 x412 h404 fun x413 x414 h415 =>
      ((h415).ldI .u8 i388 (0 + 0)).bind fun x416 =>
      ((h415).ldI .u32 i388 (0 + 1)).bind fun x417 =>
      ((h415).ldI .u32 i388 (0 + 2)).bind fun x418 =>
      ((h415).ldI .u8 i388 (0 + 3)).bind fun x419 =>
      ((h415).ldI .u8 i388 (0 + 4)).bind fun x420 =>
      ((h415).ldI .u8 i388 (0 + 5)).bind fun x421 =>
      ((h415).ldI .u8 i388 (0 + 6)).bind fun x422 =>
      ((h415).ldSl i388 (0 + 7)).bind fun x423 =>
      a12 R x416 x417 x418 x419 x420 x421 x422 x423 h415 fun x424 h425 =>
      sel (x424 != x403) (
        kN t1 i388 0 x413 x414 true h425) (
        sel (x414 != x403) (
          kN t1 i388 0 x413 x414 true h425) (
          sel (x414 != (0 : Int)) (
            kN t1 i388 0 x413 x414 (decide (((x413.len : Nat) : Int) > (0 : Int))) h425) (
            kN t1 i388 0 x413 x414 false h425)))))
theorem g3_p0_eq (a9 : T9) (a10 : T10) (a11 : T11) (a12 : T12) (a13 : T13) (a14 : T14) (a15 : T15) (a16 : T16) {R : Type} (c2 : Code) (t0_0 : Int) (t0_1 : Int) (t0_2 : Int) (t0_3 : Int) (t0_4 : Int) (t0_5 : Int) (t0_6 : Int) (t0_7 : Sl) (t1 : Sl) (H : Heap) (K : Ex → Fr → Heap → Option R) : ev Try.prog (E3 a9 a10 a11 a12 a13 a14 a15 a16) loopLim Try.f3.ntmps kp3 (.seq (codeAt [0] b3) (.seq (codeAt [1, 0, 0] b3) (.seq (.cond (.tmp 20) (.seq (codeAt [1, 0, 1, 0, 0] b3) .ret) .skip) (.seq (codeAt [1, 1, 0] b3) (.seq (codeAt [1, 1, 1, 0] b3) (.seq (codeAt [1, 1, 1, 1, 0, 0] b3) c2)))))) [(0, (V.agg [(V.i .u8 t0_0), (V.i .u32 t0_1), (V.i .u32 t0_2), (V.i .u8 t0_3), (V.i .u8 t0_4), (V.i .u8 t0_5), (V.i .u8 t0_6), (V.sl t0_7)])), (1, (V.sl t1))] H K = g3_p0 a9 a10 a11 a12 a13 a14 a15 a16 R t0_0 t0_1 t0_2 t0_3 t0_4 t0_5 t0_6 t0_7 t1 H (fun t1 t2_0 t2_1 t6 t7 t46 H => ev Try.prog (E3 a9 a10 a11 a12 a13 a14 a15 a16) loopLim Try.f3.ntmps kp3 c2 [(1, (V.sl t1)), (2, (V.p (some (t2_0, t2_1)))), (6, (V.sl t6)), (7, (V.i .i64 t7)), (46, (V.b t46))] H K) (fun t4 H => K .ret [(4, (V.b t4))] H) := by kernel_rfl
theorem g3_p0_lin {a9 : T9} {a10 : T10} {a11 : T11} {a12 : T12} {a13 : T13} {a14 : T14} {a15 : T15} {a16 : T16} (la9 : Lin9 a9) (la10 : Lin10 a10) (la11 : Lin11 a11) (la12 : Lin12 a12) (la13 : Lin13 a13) (la14 : Lin14 a14) (la15 : Lin15 a15) (la16 : Lin16 a16) {R S : Type} {k : S → Option R} {t0_0 : Int} {t0_1 : Int} {t0_2 : Int} {t0_3 : Int} {t0_4 : Int} {t0_5 : Int} {t0_6 : Int} {t0_7 : Sl} {t1 : Sl} {H : Heap} {fkN : Sl → Nat → Nat → Sl → Int → Bool → Heap → Option R} {gkN : Sl → Nat → Nat → Sl → Int → Bool → Heap → Option S} {fkR : Bool → Heap → Option R} {gkR : Bool → Heap → Option S} (hkN : ∀ t1 t2_0 t2_1 t6 t7 t46 H, fkN t1 t2_0 t2_1 t6 t7 t46 H = (gkN t1 t2_0 t2_1 t6 t7 t46 H).bind k) (hkR : ∀ t4 H, fkR t4 H = (gkR t4 H).bind k) : g3_p0 a9 a10 a11 a12 a13 a14 a15 a16 R t0_0 t0_1 t0_2 t0_3 t0_4 t0_5 t0_6 t0_7 t1 H fkN fkR = (g3_p0 a9 a10 a11 a12 a13 a14 a15 a16 S t0_0 t0_1 t0_2 t0_3 t0_4 t0_5 t0_6 t0_7 t1 H gkN gkR).bind k := by
  delta g3_p0; exact (
    alo_lin fun i388 h389 =>
    bl fun x390 =>
    sl_lin (
      la9.l fun x391 h392 =>
      hkR _ _) (
      sl_lin (
        la9.l fun x393 h394 =>
        hkR _ _) (
        bl fun x395 =>
        bl fun x396 =>
        bl fun x397 =>
        bl fun x398 =>
        bl fun x399 =>
        bl fun x400 =>
        bl fun x401 =>
        bl fun x402 =>
        la10.l fun x403 h404 =>
        bl fun x405 =>
        bl fun x406 =>
        bl fun x407 =>
        bl fun x408 =>
        bl fun x409 =>
        bl fun x410 =>
        bl fun x411 =>
        bl fun x412 =>
        la11.l fun x413 x414 h415 =>
        bl fun x416 =>
        bl fun x417 =>
        bl fun x418 =>
        bl fun x419 =>
        bl fun x420 =>
        bl fun x421 =>
        bl fun x422 =>
        bl fun x423 =>
        la12.l fun x424 h425 =>
        sl_lin (
          hkN _ _ _ _ _ _ _) (
          sl_lin (
            hkN _ _ _ _ _ _ _) (
            sl_lin (
              hkN _ _ _ _ _ _ _) (
              hkN _ _ _ _ _ _ _))))))
noncomputable def g3_p1 (a9 : T9) (a10 : T10) (a11 : T11) (a12 : T12) (a13 : T13) (a14 : T14) (a15 : T15) (a16 : T16) (R : Type) (t1 : Sl) (t2_0 : Nat) (t2_1 : Nat) (t6 : Sl) (t7 : Int) (t46 : Bool) (H : Heap) (kN : Sl → Heap → Option R) (kR : Bool → Heap → Option R) : Option R :=
  sel t46 (
    kR false H) (
    sel (t7 == (0 : Int)) (
      a13 R t6 H fun x572 x573 x574 x575 x576 x577 x578 x579 x580 h581 =>
      alo h581 (.cells [(V.i .u8 (0 : Int)), (V.i .u32 (0 : Int)), (V.i .u32 (0 : Int)), (V.i .u8 (0 : Int)), (V.i .u8 (0 : Int)), (V.i .u8 (0 : Int)), (V.i .u8 (0 : Int)), (V.sl (Sl.mk none 0 (.ex 0)))] 26 false) fun i582 h583 =>
      ((h583).sts i582 0 [(V.i .u8 x572), (V.i .u32 x573), (V.i .u32 x574), (V.i .u8 x575), (V.i .u8 x576), (V.i .u8 x577), (V.i .u8 x578), (V.sl x579)]).bind fun h584 =>
      ((slBytes h584 t6)).bind fun x585 =>
      ((h584).ldI .u8 t2_0 (t2_1 + 0)).bind fun x586 =>
      ((h584).ldI .u32 t2_0 (t2_1 + 1)).bind fun x587 =>
      ((h584).ldI .u32 t2_0 (t2_1 + 2)).bind fun x588 =>
      ((h584).ldI .u8 t2_0 (t2_1 + 3)).bind fun x589 =>
      ((h584).ldI .u8 t2_0 (t2_1 + 4)).bind fun x590 =>
      ((h584).ldI .u8 t2_0 (t2_1 + 5)).bind fun x591 =>
      ((h584).ldI .u8 t2_0 (t2_1 + 6)).bind fun x592 =>
      ((h584).ldSl t2_0 (t2_1 + 7)).bind fun x593 =>
      a14 R x586 x587 x588 x589 x590 x591 x592 x593 h584 fun x594 h595 =>
      ((slBytes h595 t6)).bind fun x596 =>
      if V.same (V.s x585) (V.s x596) = true then (
        sel (!strEq x585 x594) (
          kR false h595) (
          capK t6.cap fun c597 =>
          sel (((c597 : Nat) : Int) != ((t6.len : Nat) : Int)) (
            kR false h595) (
            sel (x580 != (0 : Int)) (
              kR false h595) (
              ((h595).ldI .u8 i582 (0 + 0)).bind fun x598 =>
              ((h595).ldI .u32 i582 (0 + 1)).bind fun x599 =>
              ((h595).ldI .u32 i582 (0 + 2)).bind fun x600 =>
              ((h595).ldI .u8 i582 (0 + 3)).bind fun x601 =>
              ((h595).ldI .u8 i582 (0 + 4)).bind fun x602 =>
              ((h595).ldI .u8 i582 (0 + 5)).bind fun x603 =>
              ((h595).ldI .u8 i582 (0 + 6)).bind fun x604 =>
              ((h595).ldSl i582 (0 + 7)).bind fun x605 =>
              ((h595).ldI .u8 t2_0 (t2_1 + 0)).bind fun x606 =>
              ((h595).ldI .u32 t2_0 (t2_1 + 1)).bind fun x607 =>
              ((h595).ldI .u32 t2_0 (t2_1 + 2)).bind fun x608 =>
              ((h595).ldI .u8 t2_0 (t2_1 + 3)).bind fun x609 =>
              ((h595).ldI .u8 t2_0 (t2_1 + 4)).bind fun x610 =>
              ((h595).ldI .u8 t2_0 (t2_1 + 5)).bind fun x611 =>
              ((h595).ldI .u8 t2_0 (t2_1 + 6)).bind fun x612 =>
              ((h595).ldSl t2_0 (t2_1 + 7)).bind fun x613 =>
              a15 R x598 x599 x600 x601 x602 x603 x604 x605 x606 x607 x608 x609 x610 x611 x612 x613 h595 fun x614 h615 =>
              sel (!x614) (
                kR false h615) (
                kN t1 h615)))))
      else (
        none)) (
      kN t1 H))
theorem g3_p1_eq (a9 : T9) (a10 : T10) (a11 : T11) (a12 : T12) (a13 : T13) (a14 : T14) (a15 : T15) (a16 : T16) {R : Type} (c2 : Code) (t1 : Sl) (t2_0 : Nat) (t2_1 : Nat) (t6 : Sl) (t7 : Int) (t46 : Bool) (H : Heap) (K : Ex → Fr → Heap → Option R) : ev Try.prog (E3 a9 a10 a11 a12 a13 a14 a15 a16) loopLim Try.f3.ntmps kp3 (.seq (.cond (.tmp 46) (.seq (codeAt [1, 1, 1, 1, 0, 1, 0, 0] b3) .ret) .skip) (.seq (codeAt [1, 1, 1, 1, 1, 0, 0] b3) (.seq (.cond (.tmp 48) (.seq (codeAt [1, 1, 1, 1, 1, 0, 1, 0, 0] b3) (.seq (codeAt [1, 1, 1, 1, 1, 0, 1, 0, 1, 0] b3) (.cond (.tmp 75) (.seq (codeAt [1, 1, 1, 1, 1, 0, 1, 0, 1, 1, 0, 0] b3) .ret) .skip))) .skip) c2))) [(1, (V.sl t1)), (2, (V.p (some (t2_0, t2_1)))), (6, (V.sl t6)), (7, (V.i .i64 t7)), (46, (V.b t46))] H K = g3_p1 a9 a10 a11 a12 a13 a14 a15 a16 R t1 t2_0 t2_1 t6 t7 t46 H (fun t1 H => ev Try.prog (E3 a9 a10 a11 a12 a13 a14 a15 a16) loopLim Try.f3.ntmps kp3 c2 [(1, (V.sl t1))] H K) (fun t4 H => K .ret [(4, (V.b t4))] H) := by kernel_rfl
theorem g3_p1_lin {a9 : T9} {a10 : T10} {a11 : T11} {a12 : T12} {a13 : T13} {a14 : T14} {a15 : T15} {a16 : T16} (la9 : Lin9 a9) (la10 : Lin10 a10) (la11 : Lin11 a11) (la12 : Lin12 a12) (la13 : Lin13 a13) (la14 : Lin14 a14) (la15 : Lin15 a15) (la16 : Lin16 a16) {R S : Type} {k : S → Option R} {t1 : Sl} {t2_0 : Nat} {t2_1 : Nat} {t6 : Sl} {t7 : Int} {t46 : Bool} {H : Heap} {fkN : Sl → Heap → Option R} {gkN : Sl → Heap → Option S} {fkR : Bool → Heap → Option R} {gkR : Bool → Heap → Option S} (hkN : ∀ t1 H, fkN t1 H = (gkN t1 H).bind k) (hkR : ∀ t4 H, fkR t4 H = (gkR t4 H).bind k) : g3_p1 a9 a10 a11 a12 a13 a14 a15 a16 R t1 t2_0 t2_1 t6 t7 t46 H fkN fkR = (g3_p1 a9 a10 a11 a12 a13 a14 a15 a16 S t1 t2_0 t2_1 t6 t7 t46 H gkN gkR).bind k := by
  delta g3_p1; exact (
    sl_lin (
      hkR _ _) (
      sl_lin (
        la13.l fun x572 x573 x574 x575 x576 x577 x578 x579 x580 h581 =>
        alo_lin fun i582 h583 =>
        bl fun h584 =>
        bl fun x585 =>
        bl fun x586 =>
        bl fun x587 =>
        bl fun x588 =>
        bl fun x589 =>
        bl fun x590 =>
        bl fun x591 =>
        bl fun x592 =>
        bl fun x593 =>
        la14.l fun x594 h595 =>
        bl fun x596 =>
        il (
          sl_lin (
            hkR _ _) (
            capK_lin fun c597 =>
            sl_lin (
              hkR _ _) (
              sl_lin (
                hkR _ _) (
                bl fun x598 =>
                bl fun x599 =>
                bl fun x600 =>
                bl fun x601 =>
                bl fun x602 =>
                bl fun x603 =>
                bl fun x604 =>
                bl fun x605 =>
                bl fun x606 =>
                bl fun x607 =>
                bl fun x608 =>
                bl fun x609 =>
                bl fun x610 =>
                bl fun x611 =>
                bl fun x612 =>
                bl fun x613 =>
                la15.l fun x614 h615 =>
                sl_lin (
                  hkR _ _) (
                  hkN _ _))))) (
          rfl)) (
        hkN _ _)))
noncomputable def g3_p2 (a9 : T9) (a10 : T10) (a11 : T11) (a12 : T12) (a13 : T13) (a14 : T14) (a15 : T15) (a16 : T16) (R : Type) (t1 : Sl) (H : Heap) (kR : Bool → Heap → Option R) : Option R :=
  a13 R t1 H fun x616 x617 x618 x619 x620 x621 x622 x623 x624 h625 =>
  alo h625 (.cells [(V.i .u8 (0 : Int)), (V.i .u32 (0 : Int)), (V.i .u32 (0 : Int)), (V.i .u8 (0 : Int)), (V.i .u8 (0 : Int)), (V.i .u8 (0 : Int)), (V.i .u8 (0 : Int)), (V.sl (Sl.mk none 0 (.ex 0)))] 26 false) fun i626 h627 =>
  ((h627).sts i626 0 [(V.i .u8 x616), (V.i .u32 x617), (V.i .u32 x618), (V.i .u8 x619), (V.i .u8 x620), (V.i .u8 x621), (V.i .u8 x622), (V.sl x623)]).bind fun h628 =>
  sel (x624 != (0 : Int)) (
    sel (x624 == (4 : Int)) (
      ((h628).ldI .u8 i626 (0 + 0)).bind fun x629 =>
      ((h628).ldI .u32 i626 (0 + 1)).bind fun x630 =>
      ((h628).ldI .u32 i626 (0 + 2)).bind fun x631 =>
      ((h628).ldI .u8 i626 (0 + 3)).bind fun x632 =>
      ((h628).ldI .u8 i626 (0 + 4)).bind fun x633 =>
      ((h628).ldI .u8 i626 (0 + 5)).bind fun x634 =>
      ((h628).ldI .u8 i626 (0 + 6)).bind fun x635 =>
      ((h628).ldSl i626 (0 + 7)).bind fun x636 =>
      a15 R x629 x630 x631 x632 x633 x634 x635 x636 (0 : Int) (0 : Int) (0 : Int) (0 : Int) (0 : Int) (0 : Int) (0 : Int) (Sl.mk none 0 (.ex 0)) h628 fun x637 h638 =>
      sel x637 (
        a16 R t1 h638 fun x639 h640 =>
        sel (!x639) (
          a9 R h640 fun x641 h642 =>
          kR x641 h642) (
          kR false h640)) (
        kR false h638)) (
      kR false h628)) (
    ((h628).ldI .u8 i626 (0 + 0)).bind fun x643 =>
    ((h628).ldI .u32 i626 (0 + 1)).bind fun x644 =>
    ((h628).ldI .u32 i626 (0 + 2)).bind fun x645 =>
    ((h628).ldI .u8 i626 (0 + 3)).bind fun x646 =>
    ((h628).ldI .u8 i626 (0 + 4)).bind fun x647 =>
    ((h628).ldI .u8 i626 (0 + 5)).bind fun x648 =>
    ((h628).ldI .u8 i626 (0 + 6)).bind fun x649 =>
    ((h628).ldSl i626 (0 + 7)).bind fun x650 =>
    a10 R x643 x644 x645 x646 x647 x648 x649 x650 h628 fun x651 h652 =>
    sel (x651 == (0 : Int)) (
      ((h652).ldI .u8 i626 (0 + 0)).bind fun x653 =>
      ((h652).ldI .u32 i626 (0 + 1)).bind fun x654 =>
      ((h652).ldI .u32 i626 (0 + 2)).bind fun x655 =>
      ((h652).ldI .u8 i626 (0 + 3)).bind fun x656 =>
      ((h652).ldI .u8 i626 (0 + 4)).bind fun x657 =>
      ((h652).ldI .u8 i626 (0 + 5)).bind fun x658 =>
      ((h652).ldI .u8 i626 (0 + 6)).bind fun x659 =>
      ((h652).ldSl i626 (0 + 7)).bind fun x660 =>
      a14 R x653 x654 x655 x656 x657 x658 x659 x660 h652 fun x661 h662 =>
      ((slBytes h662 t1)).bind fun x663 =>
      ((slBytes h652 t1)).bind fun x664 =>
      if V.same (V.s x663) (V.s x664) = true then (
        sel (strEq x661 x663) (
          a9 R h662 fun x665 h666 =>
          kR x665 h666) (
          kR false h662))
      else (
        none)) (
      kR false h652))
theorem g3_p2_eq (a9 : T9) (a10 : T10) (a11 : T11) (a12 : T12) (a13 : T13) (a14 : T14) (a15 : T15) (a16 : T16) (la9 : Lin9 a9) (la10 : Lin10 a10) (la11 : Lin11 a11) (la12 : Lin12 a12) (la13 : Lin13 a13) (la14 : Lin14 a14) (la15 : Lin15 a15) (la16 : Lin16 a16) {R : Type} (t1 : Sl) (H : Heap) (K : Ex → Fr → Heap → Option R) : ev Try.prog (E3 a9 a10 a11 a12 a13 a14 a15 a16) loopLim Try.f3.ntmps kp3 c3_0 [(1, (V.sl t1))] H K = g3_p2 a9 a10 a11 a12 a13 a14 a15 a16 R t1 H (fun t4 H => K .ret [(4, (V.b t4))] H) := by kernel_rfl
theorem g3_p2_lin {a9 : T9} {a10 : T10} {a11 : T11} {a12 : T12} {a13 : T13} {a14 : T14} {a15 : T15} {a16 : T16} (la9 : Lin9 a9) (la10 : Lin10 a10) (la11 : Lin11 a11) (la12 : Lin12 a12) (la13 : Lin13 a13) (la14 : Lin14 a14) (la15 : Lin15 a15) (la16 : Lin16 a16) {R S : Type} {k : S → Option R} {t1 : Sl} {H : Heap} {fkR : Bool → Heap → Option R} {gkR : Bool → Heap → Option S} (hkR : ∀ t4 H, fkR t4 H = (gkR t4 H).bind k) : g3_p2 a9 a10 a11 a12 a13 a14 a15 a16 R t1 H fkR = (g3_p2 a9 a10 a11 a12 a13 a14 a15 a16 S t1 H gkR).bind k := by
  delta g3_p2; exact (
    la13.l fun x616 x617 x618 x619 x620 x621 x622 x623 x624 h625 =>
    alo_lin fun i626 h627 =>
    bl fun h628 =>
    sl_lin (
      sl_lin (
        bl fun x629 =>
        bl fun x630 =>
        bl fun x631 =>
        bl fun x632 =>
        bl fun x633 =>
        bl fun x634 =>
        bl fun x635 =>
        bl fun x636 =>
        la15.l fun x637 h638 =>
        sl_lin (
          la16.l fun x639 h640 =>
          sl_lin (
            la9.l fun x641 h642 =>
            hkR _ _) (
            hkR _ _)) (
          hkR _ _)) (
        hkR _ _)) (
      bl fun x643 =>
      bl fun x644 =>
      bl fun x645 =>
      bl fun x646 =>
      bl fun x647 =>
      bl fun x648 =>
      bl fun x649 =>
      bl fun x650 =>
      la10.l fun x651 h652 =>
      sl_lin (
        bl fun x653 =>
        bl fun x654 =>
        bl fun x655 =>
        bl fun x656 =>
        bl fun x657 =>
        bl fun x658 =>
        bl fun x659 =>
        bl fun x660 =>
        la14.l fun x661 h662 =>
        bl fun x663 =>
        bl fun x664 =>
        il (
          sl_lin (
            la9.l fun x665 h666 =>
            hkR _ _) (
            hkR _ _)) (
          rfl)) (
        hkR _ _)))
noncomputable def g3_p3 (a9 : T9) (a10 : T10) (a11 : T11) (a12 : T12) (a13 : T13) (a14 : T14) (a15 : T15) (a16 : T16) (R : Type) (t1 : Sl) (t2_0 : Nat) (t2_1 : Nat) (t6 : Sl) (t7 : Int) (t46 : Bool) (H : Heap) (kR : Bool → Heap → Option R) : Option R :=
  g3_p1 a9 a10 a11 a12 a13 a14 a15 a16 R t1 t2_0 t2_1 t6 t7 t46 H (fun t1 H => g3_p2 a9 a10 a11 a12 a13 a14 a15 a16 R t1 H (fun t4 H => kR t4 H)) (fun t4 H => kR t4 H)
theorem g3_p3_lin {a9 : T9} {a10 : T10} {a11 : T11} {a12 : T12} {a13 : T13} {a14 : T14} {a15 : T15} {a16 : T16} (la9 : Lin9 a9) (la10 : Lin10 a10) (la11 : Lin11 a11) (la12 : Lin12 a12) (la13 : Lin13 a13) (la14 : Lin14 a14) (la15 : Lin15 a15) (la16 : Lin16 a16) {R S : Type} {k : S → Option R} {t1 : Sl} {t2_0 : Nat} {t2_1 : Nat} {t6 : Sl} {t7 : Int} {t46 : Bool} {H : Heap} {fkR : Bool → Heap → Option R} {gkR : Bool → Heap → Option S} (hkR : ∀ t4 H, fkR t4 H = (gkR t4 H).bind k) : g3_p3 a9 a10 a11 a12 a13 a14 a15 a16 R t1 t2_0 t2_1 t6 t7 t46 H fkR = (g3_p3 a9 a10 a11 a12 a13 a14 a15 a16 S t1 t2_0 t2_1 t6 t7 t46 H gkR).bind k := by
  exact g3_p1_lin la9 la10 la11 la12 la13 la14 la15 la16 (fun _ _ => g3_p2_lin la9 la10 la11 la12 la13 la14 la15 la16 (fun _ _ => hkR _ _)) (fun _ _ => hkR _ _)
theorem g3_p3_eq (a9 : T9) (a10 : T10) (a11 : T11) (a12 : T12) (a13 : T13) (a14 : T14) (a15 : T15) (a16 : T16) (la9 : Lin9 a9) (la10 : Lin10 a10) (la11 : Lin11 a11) (la12 : Lin12 a12) (la13 : Lin13 a13) (la14 : Lin14 a14) (la15 : Lin15 a15) (la16 : Lin16 a16) {R : Type} (t1 : Sl) (t2_0 : Nat) (t2_1 : Nat) (t6 : Sl) (t7 : Int) (t46 : Bool) (H : Heap) (K : Ex → Fr → Heap → Option R) : ev Try.prog (E3 a9 a10 a11 a12 a13 a14 a15 a16) loopLim Try.f3.ntmps kp3 c3_1 [(1, (V.sl t1)), (2, (V.p (some (t2_0, t2_1)))), (6, (V.sl t6)), (7, (V.i .i64 t7)), (46, (V.b t46))] H K = g3_p3 a9 a10 a11 a12 a13 a14 a15 a16 R t1 t2_0 t2_1 t6 t7 t46 H (fun t4 H => K .ret [(4, (V.b t4))] H) := by
  show ev Try.prog (E3 a9 a10 a11 a12 a13 a14 a15 a16) loopLim Try.f3.ntmps kp3 (.seq (.cond (.tmp 46) (.seq (codeAt [1, 1, 1, 1, 0, 1, 0, 0] b3) .ret) .skip) (.seq (codeAt [1, 1, 1, 1, 1, 0, 0] b3) (.seq (.cond (.tmp 48) (.seq (codeAt [1, 1, 1, 1, 1, 0, 1, 0, 0] b3) (.seq (codeAt [1, 1, 1, 1, 1, 0, 1, 0, 1, 0] b3) (.cond (.tmp 75) (.seq (codeAt [1, 1, 1, 1, 1, 0, 1, 0, 1, 1, 0, 0] b3) .ret) .skip))) .skip) c3_0))) [(1, (V.sl t1)), (2, (V.p (some (t2_0, t2_1)))), (6, (V.sl t6)), (7, (V.i .i64 t7)), (46, (V.b t46))] H K = _
  delta g3_p3
  exact (g3_p1_eq a9 a10 a11 a12 a13 a14 a15 a16 _ t1 t2_0 t2_1 t6 t7 t46 H K).trans (congr (congrArg (g3_p1 a9 a10 a11 a12 a13 a14 a15 a16 R t1 t2_0 t2_1 t6 t7 t46 H) (funext fun t1 => funext fun H => g3_p2_eq a9 a10 a11 a12 a13 a14 a15 a16 la9 la10 la11 la12 la13 la14 la15 la16 t1 H K)) rfl)
noncomputable def g3_p4 (a9 : T9) (a10 : T10) (a11 : T11) (a12 : T12) (a13 : T13) (a14 : T14) (a15 : T15) (a16 : T16) (R : Type) (t0_0 : Int) (t0_1 : Int) (t0_2 : Int) (t0_3 : Int) (t0_4 : Int) (t0_5 : Int) (t0_6 : Int) (t0_7 : Sl) (t1 : Sl) (H : Heap) (kR : Bool → Heap → Option R) : Option R :=
  g3_p0 a9 a10 a11 a12 a13 a14 a15 a16 R t0_0 t0_1 t0_2 t0_3 t0_4 t0_5 t0_6 t0_7 t1 H (fun t1 t2_0 t2_1 t6 t7 t46 H => g3_p3 a9 a10 a11 a12 a13 a14 a15 a16 R t1 t2_0 t2_1 t6 t7 t46 H (fun t4 H => kR t4 H)) (fun t4 H => kR t4 H)
theorem g3_p4_lin {a9 : T9} {a10 : T10} {a11 : T11} {a12 : T12} {a13 : T13} {a14 : T14} {a15 : T15} {a16 : T16} (la9 : Lin9 a9) (la10 : Lin10 a10) (la11 : Lin11 a11) (la12 : Lin12 a12) (la13 : Lin13 a13) (la14 : Lin14 a14) (la15 : Lin15 a15) (la16 : Lin16 a16) {R S : Type} {k : S → Option R} {t0_0 : Int} {t0_1 : Int} {t0_2 : Int} {t0_3 : Int} {t0_4 : Int} {t0_5 : Int} {t0_6 : Int} {t0_7 : Sl} {t1 : Sl} {H : Heap} {fkR : Bool → Heap → Option R} {gkR : Bool → Heap → Option S} (hkR : ∀ t4 H, fkR t4 H = (gkR t4 H).bind k) : g3_p4 a9 a10 a11 a12 a13 a14 a15 a16 R t0_0 t0_1 t0_2 t0_3 t0_4 t0_5 t0_6 t0_7 t1 H fkR = (g3_p4 a9 a10 a11 a12 a13 a14 a15 a16 S t0_0 t0_1 t0_2 t0_3 t0_4 t0_5 t0_6 t0_7 t1 H gkR).bind k := by
  exact g3_p0_lin la9 la10 la11 la12 la13 la14 la15 la16 (fun _ _ _ _ _ _ _ => g3_p3_lin la9 la10 la11 la12 la13 la14 la15 la16 (fun _ _ => hkR _ _)) (fun _ _ => hkR _ _)
theorem g3_p4_eq (a9 : T9) (a10 : T10) (a11 : T11) (a12 : T12) (a13 : T13) (a14 : T14) (a15 : T15) (a16 : T16) (la9 : Lin9 a9) (la10 : Lin10 a10) (la11 : Lin11 a11) (la12 : Lin12 a12) (la13 : Lin13 a13) (la14 : Lin14 a14) (la15 : Lin15 a15) (la16 : Lin16 a16) {R : Type} (t0_0 : Int) (t0_1 : Int) (t0_2 : Int) (t0_3 : Int) (t0_4 : Int) (t0_5 : Int) (t0_6 : Int) (t0_7 : Sl) (t1 : Sl) (H : Heap) (K : Ex → Fr → Heap → Option R) : ev Try.prog (E3 a9 a10 a11 a12 a13 a14 a15 a16) loopLim Try.f3.ntmps kp3 c3_2 [(0, (V.agg [(V.i .u8 t0_0), (V.i .u32 t0_1), (V.i .u32 t0_2), (V.i .u8 t0_3), (V.i .u8 t0_4), (V.i .u8 t0_5), (V.i .u8 t0_6), (V.sl t0_7)])), (1, (V.sl t1))] H K = g3_p4 a9 a10 a11 a12 a13 a14 a15 a16 R t0_0 t0_1 t0_2 t0_3 t0_4 t0_5 t0_6 t0_7 t1 H (fun t4 H => K .ret [(4, (V.b t4))] H) := by
  show ev Try.prog (E3 a9 a10 a11 a12 a13 a14 a15 a16) loopLim Try.f3.ntmps kp3 (.seq (codeAt [0] b3) (.seq (codeAt [1, 0, 0] b3) (.seq (.cond (.tmp 20) (.seq (codeAt [1, 0, 1, 0, 0] b3) .ret) .skip) (.seq (codeAt [1, 1, 0] b3) (.seq (codeAt [1, 1, 1, 0] b3) (.seq (codeAt [1, 1, 1, 1, 0, 0] b3) c3_1)))))) [(0, (V.agg [(V.i .u8 t0_0), (V.i .u32 t0_1), (V.i .u32 t0_2), (V.i .u8 t0_3), (V.i .u8 t0_4), (V.i .u8 t0_5), (V.i .u8 t0_6), (V.sl t0_7)])), (1, (V.sl t1))] H K = _
  delta g3_p4
  exact (g3_p0_eq a9 a10 a11 a12 a13 a14 a15 a16 _ t0_0 t0_1 t0_2 t0_3 t0_4 t0_5 t0_6 t0_7 t1 H K).trans (congr (congrArg (g3_p0 a9 a10 a11 a12 a13 a14 a15 a16 R t0_0 t0_1 t0_2 t0_3 t0_4 t0_5 t0_6 t0_7 t1 H) (funext fun t1 => funext fun t2_0 => funext fun t2_1 => funext fun t6 => funext fun t7 => funext fun t46 => funext fun H => g3_p3_eq a9 a10 a11 a12 a13 a14 a15 a16 la9 la10 la11 la12 la13 la14 la15 la16 t1 t2_0 t2_1 t6 t7 t46 H K)) rfl)
noncomputable def g3_r (a9 : T9) (a10 : T10) (a11 : T11) (a12 : T12) (a13 : T13) (a14 : T14) (a15 : T15) (a16 : T16) : T3 := fun R t0_0 t0_1 t0_2 t0_3 t0_4 t0_5 t0_6 t0_7 t1 H K =>
  g3_p4 a9 a10 a11 a12 a13 a14 a15 a16 R t0_0 t0_1 t0_2 t0_3 t0_4 t0_5 t0_6 t0_7 t1 H (fun t4 H =>
    K t4 H)
theorem g3_r_lin {a9 : T9} {a10 : T10} {a11 : T11} {a12 : T12} {a13 : T13} {a14 : T14} {a15 : T15} {a16 : T16} (la9 : Lin9 a9) (la10 : Lin10 a10) (la11 : Lin11 a11) (la12 : Lin12 a12) (la13 : Lin13 a13) (la14 : Lin14 a14) (la15 : Lin15 a15) (la16 : Lin16 a16) : Lin3 (g3_r a9 a10 a11 a12 a13 a14 a15 a16) := by
  constructor
  intro R S k t0_0 t0_1 t0_2 t0_3 t0_4 t0_5 t0_6 t0_7 t1 H f g h
  exact g3_p4_lin la9 la10 la11 la12 la13 la14 la15 la16 (fun t4 H =>
    h _ _)
theorem g3_fn (a9 : T9) (a10 : T10) (a11 : T11) (a12 : T12) (a13 : T13) (a14 : T14) (a15 : T15) (a16 : T16) (la9 : Lin9 a9) (la10 : Lin10 a10) (la11 : Lin11 a11) (la12 : Lin12 a12) (la13 : Lin13 a13) (la14 : Lin14 a14) (la15 : Lin15 a15) (la16 : Lin16 a16) {R : Type} (t0_0 : Int) (t0_1 : Int) (t0_2 : Int) (t0_3 : Int) (t0_4 : Int) (t0_5 : Int) (t0_6 : Int) (t0_7 : Sl) (t1 : Sl) (H : Heap) (K : V → Heap → Option R) : evFn Try.prog (E3 a9 a10 a11 a12 a13 a14 a15 a16) loopLim Try.f3 kp3 [(V.agg [(V.i .u8 t0_0), (V.i .u32 t0_1), (V.i .u32 t0_2), (V.i .u8 t0_3), (V.i .u8 t0_4), (V.i .u8 t0_5), (V.i .u8 t0_6), (V.sl t0_7)]), (V.sl t1)] H K = g3_r a9 a10 a11 a12 a13 a14 a15 a16 R t0_0 t0_1 t0_2 t0_3 t0_4 t0_5 t0_6 t0_7 t1 H (fun r0 H => K (V.b r0) H) := by
  have h0 : ∀ (t4 : Bool) (H : Heap), kFn Try.prog Try.f3.results.toList K .ret [(4, (V.b t4))] H =
      K (V.b t4) H := by intros; kernel_rfl
  have e0 := evFn_code2 (P := Try.prog) (c := c3_2) (E := (E3 a9 a10 a11 a12 a13 a14 a15 a16)) (lr := loopLim) (kp := kp3) (fn := Try.f3) (args := [(V.agg [(V.i .u8 t0_0), (V.i .u32 t0_1), (V.i .u32 t0_2), (V.i .u8 t0_3), (V.i .u8 t0_4), (V.i .u8 t0_5), (V.i .u8 t0_6), (V.sl t0_7)]), (V.sl t1)]) H K (by kernel_rfl) (Nat.le_of_ble_eq_true (by kernel_rfl)) (by kernel_rfl)
  have e1 : ev Try.prog (E3 a9 a10 a11 a12 a13 a14 a15 a16) loopLim Try.f3.ntmps kp3 c3_2 (argFr 0 [(V.agg [(V.i .u8 t0_0), (V.i .u32 t0_1), (V.i .u32 t0_2), (V.i .u8 t0_3), (V.i .u8 t0_4), (V.i .u8 t0_5), (V.i .u8 t0_6), (V.sl t0_7)]), (V.sl t1)]) H (kFn Try.prog Try.f3.results.toList K) = ev Try.prog (E3 a9 a10 a11 a12 a13 a14 a15 a16) loopLim Try.f3.ntmps kp3 c3_2 [(0, (V.agg [(V.i .u8 t0_0), (V.i .u32 t0_1), (V.i .u32 t0_2), (V.i .u8 t0_3), (V.i .u8 t0_4), (V.i .u8 t0_5), (V.i .u8 t0_6), (V.sl t0_7)])), (1, (V.sl t1))] H (kFn Try.prog Try.f3.results.toList K) := by kernel_rfl
  refine (e0.trans e1).trans ?_
  delta g3_r
  exact (g3_p4_eq a9 a10 a11 a12 a13 a14 a15 a16 la9 la10 la11 la12 la13 la14 la15 la16 t0_0 t0_1 t0_2 t0_3 t0_4 t0_5 t0_6 t0_7 t1 H (kFn Try.prog Try.f3.results.toList K)).trans (congrArg (g3_p4 a9 a10 a11 a12 a13 a14 a15 a16 R t0_0 t0_1 t0_2 t0_3 t0_4 t0_5 t0_6 t0_7 t1 H) (funext fun t4 => funext fun H => h0 t4 H))
theorem g3_ok {a9 : T9} {a10 : T10} {a11 : T11} {a12 : T12} {a13 : T13} {a14 : T14} {a15 : T15} {a16 : T16} (oa9 : FunOK Try.prog 9 (w9 a9)) (oa10 : FunOK Try.prog 10 (w10 a10)) (oa11 : FunOK Try.prog 11 (w11 a11)) (oa12 : FunOK Try.prog 12 (w12 a12)) (oa13 : FunOK Try.prog 13 (w13 a13)) (oa14 : FunOK Try.prog 14 (w14 a14)) (oa15 : FunOK Try.prog 15 (w15 a15)) (oa16 : FunOK Try.prog 16 (w16 a16)) (la9 : Lin9 a9) (la10 : Lin10 a10) (la11 : Lin11 a11) (la12 : Lin12 a12) (la13 : Lin13 a13) (la14 : Lin14 a14) (la15 : Lin15 a15) (la16 : Lin16 a16) : FunOK Try.prog 3 (w3 (g3_r a9 a10 a11 a12 a13 a14 a15 a16)) := by
  refine (runF_ok (E3_good oa9 oa10 oa11 oa12 oa13 oa14 oa15 oa16 la9 la10 la11 la12 la13 la14 la15 la16) mixed lim_ok Try.func3 (by kernel_rfl) kp3).of_le fun R args H K r hk => ?_
  unfold w3 at hk
  split at hk
  · exact (g3_fn a9 a10 a11 a12 a13 a14 a15 a16 la9 la10 la11 la12 la13 la14 la15 la16 _ _ _ _ _ _ _ _ _ H K).trans hk
  · cases hk
end Go.Proofs.Ytnlfkllnmobppaa

