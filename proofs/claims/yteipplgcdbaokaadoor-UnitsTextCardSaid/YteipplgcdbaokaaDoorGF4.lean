/- Printed: functions as the machine runs them. -/
import Derived.Test.YteipplgcdbaokaaDoorGT
namespace Go.Proofs.YteipplgcdbaokaaDoor
open Go AM Go.RowKit
set_option linter.unusedVariables false
def kp5 : Nat → Option (List Nat) := kpOf [(0, [2, 3]), (1, [2, 3, 14]), (2, [4]), (3, [2, 3, 28]), (4, [4]), (5, [4]), (300000, [4]), (400014, [2, 3]), (400028, [2, 3])]
def E5 (a8 : T8) (a18 : T18) (a16 : T16) (a9 : T9) (a12 : T12) : FEnv := [(8, w8 a8), (18, w18 a18), (16, w16 a16), (9, w9 a9), (12, w12 a12)]
theorem E5_good {a8 : T8} {a18 : T18} {a16 : T16} {a9 : T9} {a12 : T12} (oa8 : FunOK Tryd.prog 8 (w8 a8)) (oa18 : FunOK Tryd.prog 18 (w18 a18)) (oa16 : FunOK Tryd.prog 16 (w16 a16)) (oa9 : FunOK Tryd.prog 9 (w9 a9)) (oa12 : FunOK Tryd.prog 12 (w12 a12)) (la8 : Lin8 a8) (la18 : Lin18 a18) (la16 : Lin16 a16) (la9 : Lin9 a9) (la12 : Lin12 a12) : EnvGood Tryd.prog (E5 a8 a18 a16 a9 a12) := ((((((EnvGood.nil _).cons oa12 (w12_lin la12)).cons oa9 (w9_lin la9)).cons oa16 (w16_lin la16)).cons oa18 (w18_lin la18)).cons oa8 (w8_lin la8))
theorem E5_lin {a8 : T8} {a18 : T18} {a16 : T16} {a9 : T9} {a12 : T12} (la8 : Lin8 a8) (la18 : Lin18 a18) (la16 : Lin16 a16) (la9 : Lin9 a9) (la12 : Lin12 a12) : EnvLin (E5 a8 a18 a16 a9 a12) := by
  intro g F h
  simp only [E5, List.mem_cons, List.not_mem_nil, or_false] at h
  rcases h with h | h | h | h | h
  · cases h; exact w8_lin la8
  · cases h; exact w18_lin la18
  · cases h; exact w16_lin la16
  · cases h; exact w9_lin la9
  · cases h; exact w12_lin la12
noncomputable def b5 : Code := Tryd.f5.body.getD .skip
noncomputable def c5_0 : Code := (codeAt [1, 1, 1, 0] b5)
noncomputable def c5_1 : Code := .ret
noncomputable def c5_2 : Code := (.seq c5_0 c5_1)
noncomputable def c5_3 : Code := (.seq (.cond (.tmp 28) (.seq (codeAt [1, 1, 0, 1, 0, 0] b5) .ret) .skip) c5_2)
noncomputable def c5_4 : Code := (.seq (codeAt [0] b5) (.seq (codeAt [1, 0, 0] b5) (.seq (.cond (.tmp 14) (.seq (codeAt [1, 0, 1, 0, 0] b5) .ret) .skip) (.seq (codeAt [1, 1, 0, 0] b5) c5_3))))
noncomputable def g5_p0 (a8 : T8) (a18 : T18) (a16 : T16) (a9 : T9) (a12 : T12) (R : Type) (t0_0 : Int) (t0_1 : Bool) (t0_2 : Int) (t0_3 : Bool) (t0_4 : Int) (t0_5 : Int) (t0_6 : Sl) (t1_0 : Int) (t1_1 : Bool) (t1_2 : Int) (t1_3 : Bool) (t1_4 : Int) (t1_5 : Int) (t1_6 : Sl) (H : Heap) (kN : Nat → Nat → Nat → Nat → Bool → Heap → Option R) (kR : Bool → Heap → Option R) : Option R :=
  alo H (.cells [(V.i .u8 t0_0), (V.b t0_1), (V.i .u8 t0_2), (V.b t0_3), (V.i .u8 t0_4), (V.i .u8 t0_5), (V.sl t0_6)] 25 false) fun i186 h187 =>
  alo h187 (.cells [(V.i .u8 t1_0), (V.b t1_1), (V.i .u8 t1_2), (V.b t1_3), (V.i .u8 t1_4), (V.i .u8 t1_5), (V.sl t1_6)] 25 false) fun i188 h189 =>
  ((h189).ldSl i186 (0 + 6)).bind fun x190 =>
  sel (decide (((x190.len : Nat) : Int) > (400 : Int))) (
    a8 R h189 fun x191 h192 =>
    kR x191 h192) (
    ((h189).ldSl i188 (0 + 6)).bind fun x193 =>
    sel (decide (((x193.len : Nat) : Int) > (400 : Int))) (
      a8 R h189 fun x194 h195 =>
      kR x194 h195) (
      ((h189).ldI .u8 i186 (0 + 0)).bind fun x196 =>
      ((h189).ldB i186 (0 + 1)).bind fun x197 =>
      ((h189).ldI .u8 i186 (0 + 2)).bind fun x198 =>
      ((h189).ldB i186 (0 + 3)).bind fun x199 =>
      ((h189).ldI .u8 i186 (0 + 4)).bind fun x200 =>
      ((h189).ldI .u8 i186 (0 + 5)).bind fun x201 =>
      ((h189).ldSl i186 (0 + 6)).bind fun x202 =>
      ((h189).ldI .u8 i188 (0 + 0)).bind fun x203 =>
      ((h189).ldB i188 (0 + 1)).bind fun x204 =>
      ((h189).ldI .u8 i188 (0 + 2)).bind fun x205 =>
      ((h189).ldB i188 (0 + 3)).bind fun x206 =>
      ((h189).ldI .u8 i188 (0 + 4)).bind fun x207 =>
      ((h189).ldI .u8 i188 (0 + 5)).bind fun x208 =>
      ((h189).ldSl i188 (0 + 6)).bind fun x209 =>
      a18 R x196 x197 x198 x199 x200 x201 x202 x203 x204 x205 x206 x207 x208 x209 h189 fun x210 h211 =>
      ((h211).ldI .u8 i186 (0 + 0)).bind fun x212 =>
      ((h211).ldB i186 (0 + 1)).bind fun x213 =>
      ((h211).ldI .u8 i186 (0 + 2)).bind fun x214 =>
      ((h211).ldB i186 (0 + 3)).bind fun x215 =>
      ((h211).ldI .u8 i186 (0 + 4)).bind fun x216 =>
      ((h211).ldI .u8 i186 (0 + 5)).bind fun x217 =>
      ((h211).ldSl i186 (0 + 6)).bind fun x218 =>
      ((h189).ldI .u8 i186 (0 + 0)).bind fun x219 =>
      ((h189).ldB i186 (0 + 1)).bind fun x220 =>
      ((h189).ldI .u8 i186 (0 + 2)).bind fun x221 =>
      ((h189).ldB i186 (0 + 3)).bind fun x222 =>
      ((h189).ldI .u8 i186 (0 + 4)).bind fun x223 =>
      ((h189).ldI .u8 i186 (0 + 5)).bind fun x224 =>
      ((h189).ldSl i186 (0 + 6)).bind fun x225 =>
      if V.same (V.agg [(V.i .u8 x212), (V.b x213), (V.i .u8 x214), (V.b x215), (V.i .u8 x216), (V.i .u8 x217), (V.sl x218)]) (V.agg [(V.i .u8 x219), (V.b x220), (V.i .u8 x221), (V.b x222), (V.i .u8 x223), (V.i .u8 x224), (V.sl x225)]) = true then (
        ((h211).ldI .u8 i188 (0 + 0)).bind fun x226 =>
        ((h211).ldB i188 (0 + 1)).bind fun x227 =>
        ((h211).ldI .u8 i188 (0 + 2)).bind fun x228 =>
        ((h211).ldB i188 (0 + 3)).bind fun x229 =>
        ((h211).ldI .u8 i188 (0 + 4)).bind fun x230 =>
        ((h211).ldI .u8 i188 (0 + 5)).bind fun x231 =>
        ((h211).ldSl i188 (0 + 6)).bind fun x232 =>
        ((h189).ldI .u8 i188 (0 + 0)).bind fun x233 =>
        ((h189).ldB i188 (0 + 1)).bind fun x234 =>
        ((h189).ldI .u8 i188 (0 + 2)).bind fun x235 =>
        ((h189).ldB i188 (0 + 3)).bind fun x236 =>
        ((h189).ldI .u8 i188 (0 + 4)).bind fun x237 =>
        ((h189).ldI .u8 i188 (0 + 5)).bind fun x238 =>
        ((h189).ldSl i188 (0 + 6)).bind fun x239 =>
        if V.same (V.agg [(V.i .u8 x226), (V.b x227), (V.i .u8 x228), (V.b x229), (V.i .u8 x230), (V.i .u8 x231), (V.sl x232)]) (V.agg [(V.i .u8 x233), (V.b x234), (V.i .u8 x235), (V.b x236), (V.i .u8 x237), (V.i .u8 x238), (V.sl x239)]) = true then (
          a16 R x212 x213 x214 x215 x216 x217 x218 x226 x227 x228 x229 x230 x231 x232 h211 fun x240 h241 =>
          sel (!(x210 == x240)) (
            kN i186 0 i188 0 true h241) (
            ((h241).ldI .u8 i186 (0 + 0)).bind fun x242 =>
            ((h241).ldB i186 (0 + 1)).bind fun x243 =>
            ((h241).ldI .u8 i186 (0 + 2)).bind fun x244 =>
            ((h241).ldB i186 (0 + 3)).bind fun x245 =>
            ((h241).ldI .u8 i186 (0 + 4)).bind fun x246 =>
            ((h241).ldI .u8 i186 (0 + 5)).bind fun x247 =>
            ((h241).ldSl i186 (0 + 6)).bind fun x248 =>
            ((h241).ldI .u8 i186 (0 + 0)).bind fun x249 =>
            ((h241).ldB i186 (0 + 1)).bind fun x250 =>
            ((h241).ldI .u8 i186 (0 + 2)).bind fun x251 =>
            ((h241).ldB i186 (0 + 3)).bind fun x252 =>
            ((h241).ldI .u8 i186 (0 + 4)).bind fun x253 =>
            ((h241).ldI .u8 i186 (0 + 5)).bind fun x254 =>
            ((h241).ldSl i186 (0 + 6)).bind fun x255 =>
            a18 R x242 x243 x244 x245 x246 x247 x248 x249 x250 x251 x252 x253 x254 x255 h241 fun x256 h257 =>
            kN i186 0 i188 0 (!x256) h257))
        else (
          none))
      else (
        none)))
theorem g5_p0_eq (a8 : T8) (a18 : T18) (a16 : T16) (a9 : T9) (a12 : T12) {R : Type} (c2 : Code) (t0_0 : Int) (t0_1 : Bool) (t0_2 : Int) (t0_3 : Bool) (t0_4 : Int) (t0_5 : Int) (t0_6 : Sl) (t1_0 : Int) (t1_1 : Bool) (t1_2 : Int) (t1_3 : Bool) (t1_4 : Int) (t1_5 : Int) (t1_6 : Sl) (H : Heap) (K : Ex → Fr → Heap → Option R) : ev Tryd.prog (E5 a8 a18 a16 a9 a12) loopLim Tryd.f5.ntmps kp5 (.seq (codeAt [0] b5) (.seq (codeAt [1, 0, 0] b5) (.seq (.cond (.tmp 14) (.seq (codeAt [1, 0, 1, 0, 0] b5) .ret) .skip) (.seq (codeAt [1, 1, 0, 0] b5) c2)))) [(0, (V.agg [(V.i .u8 t0_0), (V.b t0_1), (V.i .u8 t0_2), (V.b t0_3), (V.i .u8 t0_4), (V.i .u8 t0_5), (V.sl t0_6)])), (1, (V.agg [(V.i .u8 t1_0), (V.b t1_1), (V.i .u8 t1_2), (V.b t1_3), (V.i .u8 t1_4), (V.i .u8 t1_5), (V.sl t1_6)]))] H K = g5_p0 a8 a18 a16 a9 a12 R t0_0 t0_1 t0_2 t0_3 t0_4 t0_5 t0_6 t1_0 t1_1 t1_2 t1_3 t1_4 t1_5 t1_6 H (fun t2_0 t2_1 t3_0 t3_1 t28 H => ev Tryd.prog (E5 a8 a18 a16 a9 a12) loopLim Tryd.f5.ntmps kp5 c2 [(2, (V.p (some (t2_0, t2_1)))), (3, (V.p (some (t3_0, t3_1)))), (28, (V.b t28))] H K) (fun t4 H => K .ret [(4, (V.b t4))] H) := by kernel_rfl
theorem g5_p0_lin {a8 : T8} {a18 : T18} {a16 : T16} {a9 : T9} {a12 : T12} (la8 : Lin8 a8) (la18 : Lin18 a18) (la16 : Lin16 a16) (la9 : Lin9 a9) (la12 : Lin12 a12) {R S : Type} {k : S → Option R} {t0_0 : Int} {t0_1 : Bool} {t0_2 : Int} {t0_3 : Bool} {t0_4 : Int} {t0_5 : Int} {t0_6 : Sl} {t1_0 : Int} {t1_1 : Bool} {t1_2 : Int} {t1_3 : Bool} {t1_4 : Int} {t1_5 : Int} {t1_6 : Sl} {H : Heap} {fkN : Nat → Nat → Nat → Nat → Bool → Heap → Option R} {gkN : Nat → Nat → Nat → Nat → Bool → Heap → Option S} {fkR : Bool → Heap → Option R} {gkR : Bool → Heap → Option S} (hkN : ∀ t2_0 t2_1 t3_0 t3_1 t28 H, fkN t2_0 t2_1 t3_0 t3_1 t28 H = (gkN t2_0 t2_1 t3_0 t3_1 t28 H).bind k) (hkR : ∀ t4 H, fkR t4 H = (gkR t4 H).bind k) : g5_p0 a8 a18 a16 a9 a12 R t0_0 t0_1 t0_2 t0_3 t0_4 t0_5 t0_6 t1_0 t1_1 t1_2 t1_3 t1_4 t1_5 t1_6 H fkN fkR = (g5_p0 a8 a18 a16 a9 a12 S t0_0 t0_1 t0_2 t0_3 t0_4 t0_5 t0_6 t1_0 t1_1 t1_2 t1_3 t1_4 t1_5 t1_6 H gkN gkR).bind k := by
  delta g5_p0; exact (
    alo_lin fun i186 h187 =>
    alo_lin fun i188 h189 =>
    bl fun x190 =>
    sl_lin (
      la8.l fun x191 h192 =>
      hkR _ _) (
      bl fun x193 =>
      sl_lin (
        la8.l fun x194 h195 =>
        hkR _ _) (
        bl fun x196 =>
        bl fun x197 =>
        bl fun x198 =>
        bl fun x199 =>
        bl fun x200 =>
        bl fun x201 =>
        bl fun x202 =>
        bl fun x203 =>
        bl fun x204 =>
        bl fun x205 =>
        bl fun x206 =>
        bl fun x207 =>
        bl fun x208 =>
        bl fun x209 =>
        la18.l fun x210 h211 =>
        bl fun x212 =>
        bl fun x213 =>
        bl fun x214 =>
        bl fun x215 =>
        bl fun x216 =>
        bl fun x217 =>
        bl fun x218 =>
        bl fun x219 =>
        bl fun x220 =>
        bl fun x221 =>
        bl fun x222 =>
        bl fun x223 =>
        bl fun x224 =>
        bl fun x225 =>
        il (
          bl fun x226 =>
          bl fun x227 =>
          bl fun x228 =>
          bl fun x229 =>
          bl fun x230 =>
          bl fun x231 =>
          bl fun x232 =>
          bl fun x233 =>
          bl fun x234 =>
          bl fun x235 =>
          bl fun x236 =>
          bl fun x237 =>
          bl fun x238 =>
          bl fun x239 =>
          il (
            la16.l fun x240 h241 =>
            sl_lin (
              hkN _ _ _ _ _ _) (
              bl fun x242 =>
              bl fun x243 =>
              bl fun x244 =>
              bl fun x245 =>
              bl fun x246 =>
              bl fun x247 =>
              bl fun x248 =>
              bl fun x249 =>
              bl fun x250 =>
              bl fun x251 =>
              bl fun x252 =>
              bl fun x253 =>
              bl fun x254 =>
              bl fun x255 =>
              la18.l fun x256 h257 =>
              hkN _ _ _ _ _ _)) (
            rfl)) (
          rfl))))
noncomputable def g5_p1 (a8 : T8) (a18 : T18) (a16 : T16) (a9 : T9) (a12 : T12) (R : Type) (t2_0 : Nat) (t2_1 : Nat) (t3_0 : Nat) (t3_1 : Nat) (t28 : Bool) (H : Heap) (kN : Nat → Nat → Nat → Nat → Heap → Option R) (kR : Bool → Heap → Option R) : Option R :=
  sel t28 (
    kR false H) (
    kN t2_0 t2_1 t3_0 t3_1 H)
theorem g5_p1_eq (a8 : T8) (a18 : T18) (a16 : T16) (a9 : T9) (a12 : T12) {R : Type} (c2 : Code) (t2_0 : Nat) (t2_1 : Nat) (t3_0 : Nat) (t3_1 : Nat) (t28 : Bool) (H : Heap) (K : Ex → Fr → Heap → Option R) : ev Tryd.prog (E5 a8 a18 a16 a9 a12) loopLim Tryd.f5.ntmps kp5 (.seq (.cond (.tmp 28) (.seq (codeAt [1, 1, 0, 1, 0, 0] b5) .ret) .skip) c2) [(2, (V.p (some (t2_0, t2_1)))), (3, (V.p (some (t3_0, t3_1)))), (28, (V.b t28))] H K = g5_p1 a8 a18 a16 a9 a12 R t2_0 t2_1 t3_0 t3_1 t28 H (fun t2_0 t2_1 t3_0 t3_1 H => ev Tryd.prog (E5 a8 a18 a16 a9 a12) loopLim Tryd.f5.ntmps kp5 c2 [(2, (V.p (some (t2_0, t2_1)))), (3, (V.p (some (t3_0, t3_1))))] H K) (fun t4 H => K .ret [(4, (V.b t4))] H) := by kernel_rfl
theorem g5_p1_lin {a8 : T8} {a18 : T18} {a16 : T16} {a9 : T9} {a12 : T12} (la8 : Lin8 a8) (la18 : Lin18 a18) (la16 : Lin16 a16) (la9 : Lin9 a9) (la12 : Lin12 a12) {R S : Type} {k : S → Option R} {t2_0 : Nat} {t2_1 : Nat} {t3_0 : Nat} {t3_1 : Nat} {t28 : Bool} {H : Heap} {fkN : Nat → Nat → Nat → Nat → Heap → Option R} {gkN : Nat → Nat → Nat → Nat → Heap → Option S} {fkR : Bool → Heap → Option R} {gkR : Bool → Heap → Option S} (hkN : ∀ t2_0 t2_1 t3_0 t3_1 H, fkN t2_0 t2_1 t3_0 t3_1 H = (gkN t2_0 t2_1 t3_0 t3_1 H).bind k) (hkR : ∀ t4 H, fkR t4 H = (gkR t4 H).bind k) : g5_p1 a8 a18 a16 a9 a12 R t2_0 t2_1 t3_0 t3_1 t28 H fkN fkR = (g5_p1 a8 a18 a16 a9 a12 S t2_0 t2_1 t3_0 t3_1 t28 H gkN gkR).bind k := by
  delta g5_p1; exact (
    sl_lin (
      hkR _ _) (
      hkN _ _ _ _ _))
noncomputable def g5_p2 (a8 : T8) (a18 : T18) (a16 : T16) (a9 : T9) (a12 : T12) (R : Type) (t2_0 : Nat) (t2_1 : Nat) (t3_0 : Nat) (t3_1 : Nat) (H : Heap) (kN : Bool → Heap → Option R) : Option R :=
  ((H).ldI .u8 t2_0 (t2_1 + 0)).bind fun x630 =>
  ((H).ldB t2_0 (t2_1 + 1)).bind fun x631 =>
  ((H).ldI .u8 t2_0 (t2_1 + 2)).bind fun x632 =>
  ((H).ldB t2_0 (t2_1 + 3)).bind fun x633 =>
  ((H).ldI .u8 t2_0 (t2_1 + 4)).bind fun x634 =>
  ((H).ldI .u8 t2_0 (t2_1 + 5)).bind fun x635 =>
  ((H).ldSl t2_0 (t2_1 + 6)).bind fun x636 =>
  a9 R x630 x631 x632 x633 x634 x635 x636 H fun x637 h638 =>
  sel (x637 != (0 : Int)) (
    a8 R h638 fun x639 h640 =>
    kN x639 h640) (
    ((h638).ldI .u8 t3_0 (t3_1 + 0)).bind fun x641 =>
    ((h638).ldB t3_0 (t3_1 + 1)).bind fun x642 =>
    ((h638).ldI .u8 t3_0 (t3_1 + 2)).bind fun x643 =>
    ((h638).ldB t3_0 (t3_1 + 3)).bind fun x644 =>
    ((h638).ldI .u8 t3_0 (t3_1 + 4)).bind fun x645 =>
    ((h638).ldI .u8 t3_0 (t3_1 + 5)).bind fun x646 =>
    ((h638).ldSl t3_0 (t3_1 + 6)).bind fun x647 =>
    a9 R x641 x642 x643 x644 x645 x646 x647 h638 fun x648 h649 =>
    sel (x648 != (0 : Int)) (
      a8 R h649 fun x650 h651 =>
      kN x650 h651) (
      ((h649).ldI .u8 t2_0 (t2_1 + 0)).bind fun x652 =>
      ((h649).ldB t2_0 (t2_1 + 1)).bind fun x653 =>
      ((h649).ldI .u8 t2_0 (t2_1 + 2)).bind fun x654 =>
      ((h649).ldB t2_0 (t2_1 + 3)).bind fun x655 =>
      ((h649).ldI .u8 t2_0 (t2_1 + 4)).bind fun x656 =>
      ((h649).ldI .u8 t2_0 (t2_1 + 5)).bind fun x657 =>
      ((h649).ldSl t2_0 (t2_1 + 6)).bind fun x658 =>
      a12 R x652 x653 x654 x655 x656 x657 x658 h649 fun x659 h660 =>
      ((h660).ldI .u8 t3_0 (t3_1 + 0)).bind fun x661 =>
      ((h660).ldB t3_0 (t3_1 + 1)).bind fun x662 =>
      ((h660).ldI .u8 t3_0 (t3_1 + 2)).bind fun x663 =>
      ((h660).ldB t3_0 (t3_1 + 3)).bind fun x664 =>
      ((h660).ldI .u8 t3_0 (t3_1 + 4)).bind fun x665 =>
      ((h660).ldI .u8 t3_0 (t3_1 + 5)).bind fun x666 =>
      ((h660).ldSl t3_0 (t3_1 + 6)).bind fun x667 =>
      ((h649).ldI .u8 t3_0 (t3_1 + 0)).bind fun x668 =>
      ((h649).ldB t3_0 (t3_1 + 1)).bind fun x669 =>
      ((h649).ldI .u8 t3_0 (t3_1 + 2)).bind fun x670 =>
      ((h649).ldB t3_0 (t3_1 + 3)).bind fun x671 =>
      ((h649).ldI .u8 t3_0 (t3_1 + 4)).bind fun x672 =>
      ((h649).ldI .u8 t3_0 (t3_1 + 5)).bind fun x673 =>
      ((h649).ldSl t3_0 (t3_1 + 6)).bind fun x674 =>
      if V.same (V.agg [(V.i .u8 x661), (V.b x662), (V.i .u8 x663), (V.b x664), (V.i .u8 x665), (V.i .u8 x666), (V.sl x667)]) (V.agg [(V.i .u8 x668), (V.b x669), (V.i .u8 x670), (V.b x671), (V.i .u8 x672), (V.i .u8 x673), (V.sl x674)]) = true then (
        a12 R x661 x662 x663 x664 x665 x666 x667 h660 fun x675 h676 =>
        ((h676).ldI .u8 t2_0 (t2_1 + 0)).bind fun x677 =>
        ((h676).ldB t2_0 (t2_1 + 1)).bind fun x678 =>
        ((h676).ldI .u8 t2_0 (t2_1 + 2)).bind fun x679 =>
        ((h676).ldB t2_0 (t2_1 + 3)).bind fun x680 =>
        ((h676).ldI .u8 t2_0 (t2_1 + 4)).bind fun x681 =>
        ((h676).ldI .u8 t2_0 (t2_1 + 5)).bind fun x682 =>
        ((h676).ldSl t2_0 (t2_1 + 6)).bind fun x683 =>
        ((h649).ldI .u8 t2_0 (t2_1 + 0)).bind fun x684 =>
        ((h649).ldB t2_0 (t2_1 + 1)).bind fun x685 =>
        ((h649).ldI .u8 t2_0 (t2_1 + 2)).bind fun x686 =>
        ((h649).ldB t2_0 (t2_1 + 3)).bind fun x687 =>
        ((h649).ldI .u8 t2_0 (t2_1 + 4)).bind fun x688 =>
        ((h649).ldI .u8 t2_0 (t2_1 + 5)).bind fun x689 =>
        ((h649).ldSl t2_0 (t2_1 + 6)).bind fun x690 =>
        if V.same (V.agg [(V.i .u8 x677), (V.b x678), (V.i .u8 x679), (V.b x680), (V.i .u8 x681), (V.i .u8 x682), (V.sl x683)]) (V.agg [(V.i .u8 x684), (V.b x685), (V.i .u8 x686), (V.b x687), (V.i .u8 x688), (V.i .u8 x689), (V.sl x690)]) = true then (
          ((h660).ldI .u8 t2_0 (t2_1 + 0)).bind fun x691 =>
          ((h660).ldB t2_0 (t2_1 + 1)).bind fun x692 =>
          ((h660).ldI .u8 t2_0 (t2_1 + 2)).bind fun x693 =>
          ((h660).ldB t2_0 (t2_1 + 3)).bind fun x694 =>
          ((h660).ldI .u8 t2_0 (t2_1 + 4)).bind fun x695 =>
          ((h660).ldI .u8 t2_0 (t2_1 + 5)).bind fun x696 =>
          ((h660).ldSl t2_0 (t2_1 + 6)).bind fun x697 =>
          if V.same (V.agg [(V.i .u8 x677), (V.b x678), (V.i .u8 x679), (V.b x680), (V.i .u8 x681), (V.i .u8 x682), (V.sl x683)]) (V.agg [(V.i .u8 x691), (V.b x692), (V.i .u8 x693), (V.b x694), (V.i .u8 x695), (V.i .u8 x696), (V.sl x697)]) = true then (
            ((h676).ldI .u8 t3_0 (t3_1 + 0)).bind fun x698 =>
            ((h676).ldB t3_0 (t3_1 + 1)).bind fun x699 =>
            ((h676).ldI .u8 t3_0 (t3_1 + 2)).bind fun x700 =>
            ((h676).ldB t3_0 (t3_1 + 3)).bind fun x701 =>
            ((h676).ldI .u8 t3_0 (t3_1 + 4)).bind fun x702 =>
            ((h676).ldI .u8 t3_0 (t3_1 + 5)).bind fun x703 =>
            ((h676).ldSl t3_0 (t3_1 + 6)).bind fun x704 =>
            ((h649).ldI .u8 t3_0 (t3_1 + 0)).bind fun x705 =>
            ((h649).ldB t3_0 (t3_1 + 1)).bind fun x706 =>
            ((h649).ldI .u8 t3_0 (t3_1 + 2)).bind fun x707 =>
            ((h649).ldB t3_0 (t3_1 + 3)).bind fun x708 =>
            ((h649).ldI .u8 t3_0 (t3_1 + 4)).bind fun x709 =>
            ((h649).ldI .u8 t3_0 (t3_1 + 5)).bind fun x710 =>
            ((h649).ldSl t3_0 (t3_1 + 6)).bind fun x711 =>
            if V.same (V.agg [(V.i .u8 x698), (V.b x699), (V.i .u8 x700), (V.b x701), (V.i .u8 x702), (V.i .u8 x703), (V.sl x704)]) (V.agg [(V.i .u8 x705), (V.b x706), (V.i .u8 x707), (V.b x708), (V.i .u8 x709), (V.i .u8 x710), (V.sl x711)]) = true then (
              ((h660).ldI .u8 t3_0 (t3_1 + 0)).bind fun x712 =>
              ((h660).ldB t3_0 (t3_1 + 1)).bind fun x713 =>
              ((h660).ldI .u8 t3_0 (t3_1 + 2)).bind fun x714 =>
              ((h660).ldB t3_0 (t3_1 + 3)).bind fun x715 =>
              ((h660).ldI .u8 t3_0 (t3_1 + 4)).bind fun x716 =>
              ((h660).ldI .u8 t3_0 (t3_1 + 5)).bind fun x717 =>
              ((h660).ldSl t3_0 (t3_1 + 6)).bind fun x718 =>
              if V.same (V.agg [(V.i .u8 x698), (V.b x699), (V.i .u8 x700), (V.b x701), (V.i .u8 x702), (V.i .u8 x703), (V.sl x704)]) (V.agg [(V.i .u8 x712), (V.b x713), (V.i .u8 x714), (V.b x715), (V.i .u8 x716), (V.i .u8 x717), (V.sl x718)]) = true then (
                a16 R x677 x678 x679 x680 x681 x682 x683 x698 x699 x700 x701 x702 x703 x704 h676 fun x719 h720 =>
                sel ((strEq x659 x675) == x719) (
                  a8 R h720 fun x721 h722 =>
                  kN x721 h722) (
                  kN false h720))
              else (
                none))
            else (
              none))
          else (
            none))
        else (
          none))
      else (
        none)))
theorem g5_p2_eq (a8 : T8) (a18 : T18) (a16 : T16) (a9 : T9) (a12 : T12) (la8 : Lin8 a8) (la18 : Lin18 a18) (la16 : Lin16 a16) (la9 : Lin9 a9) (la12 : Lin12 a12) {R : Type} (t2_0 : Nat) (t2_1 : Nat) (t3_0 : Nat) (t3_1 : Nat) (H : Heap) (K : Ex → Fr → Heap → Option R) : ev Tryd.prog (E5 a8 a18 a16 a9 a12) loopLim Tryd.f5.ntmps kp5 c5_0 [(2, (V.p (some (t2_0, t2_1)))), (3, (V.p (some (t3_0, t3_1))))] H K = g5_p2 a8 a18 a16 a9 a12 R t2_0 t2_1 t3_0 t3_1 H (fun t4 H => K .normal [(4, (V.b t4))] H) := by kernel_rfl
theorem g5_p2_lin {a8 : T8} {a18 : T18} {a16 : T16} {a9 : T9} {a12 : T12} (la8 : Lin8 a8) (la18 : Lin18 a18) (la16 : Lin16 a16) (la9 : Lin9 a9) (la12 : Lin12 a12) {R S : Type} {k : S → Option R} {t2_0 : Nat} {t2_1 : Nat} {t3_0 : Nat} {t3_1 : Nat} {H : Heap} {fkN : Bool → Heap → Option R} {gkN : Bool → Heap → Option S} (hkN : ∀ t4 H, fkN t4 H = (gkN t4 H).bind k) : g5_p2 a8 a18 a16 a9 a12 R t2_0 t2_1 t3_0 t3_1 H fkN = (g5_p2 a8 a18 a16 a9 a12 S t2_0 t2_1 t3_0 t3_1 H gkN).bind k := by
  delta g5_p2; exact (
    bl fun x630 =>
    bl fun x631 =>
    bl fun x632 =>
    bl fun x633 =>
    bl fun x634 =>
    bl fun x635 =>
    bl fun x636 =>
    la9.l fun x637 h638 =>
    sl_lin (
      la8.l fun x639 h640 =>
      hkN _ _) (
      bl fun x641 =>
      bl fun x642 =>
      bl fun x643 =>
      bl fun x644 =>
      bl fun x645 =>
      bl fun x646 =>
      bl fun x647 =>
      la9.l fun x648 h649 =>
      sl_lin (
        la8.l fun x650 h651 =>
        hkN _ _) (
        bl fun x652 =>
        bl fun x653 =>
        bl fun x654 =>
        bl fun x655 =>
        bl fun x656 =>
        bl fun x657 =>
        bl fun x658 =>
        la12.l fun x659 h660 =>
        bl fun x661 =>
        bl fun x662 =>
        bl fun x663 =>
        bl fun x664 =>
        bl fun x665 =>
        bl fun x666 =>
        bl fun x667 =>
        bl fun x668 =>
        bl fun x669 =>
        bl fun x670 =>
        bl fun x671 =>
        bl fun x672 =>
        bl fun x673 =>
        bl fun x674 =>
        il (
          la12.l fun x675 h676 =>
          bl fun x677 =>
          bl fun x678 =>
          bl fun x679 =>
          bl fun x680 =>
          bl fun x681 =>
          bl fun x682 =>
          bl fun x683 =>
          bl fun x684 =>
          bl fun x685 =>
          bl fun x686 =>
          bl fun x687 =>
          bl fun x688 =>
          bl fun x689 =>
          bl fun x690 =>
          il (
            bl fun x691 =>
            bl fun x692 =>
            bl fun x693 =>
            bl fun x694 =>
            bl fun x695 =>
            bl fun x696 =>
            bl fun x697 =>
            il (
              bl fun x698 =>
              bl fun x699 =>
              bl fun x700 =>
              bl fun x701 =>
              bl fun x702 =>
              bl fun x703 =>
              bl fun x704 =>
              bl fun x705 =>
              bl fun x706 =>
              bl fun x707 =>
              bl fun x708 =>
              bl fun x709 =>
              bl fun x710 =>
              bl fun x711 =>
              il (
                bl fun x712 =>
                bl fun x713 =>
                bl fun x714 =>
                bl fun x715 =>
                bl fun x716 =>
                bl fun x717 =>
                bl fun x718 =>
                il (
                  la16.l fun x719 h720 =>
                  sl_lin (
                    la8.l fun x721 h722 =>
                    hkN _ _) (
                    hkN _ _)) (
                  rfl)) (
                rfl)) (
              rfl)) (
            rfl)) (
          rfl))))
noncomputable def g5_p3 (a8 : T8) (a18 : T18) (a16 : T16) (a9 : T9) (a12 : T12) (R : Type) (t4 : Bool) (H : Heap) (kR : Bool → Heap → Option R) : Option R :=
  kR t4 H
theorem g5_p3_eq (a8 : T8) (a18 : T18) (a16 : T16) (a9 : T9) (a12 : T12) (la8 : Lin8 a8) (la18 : Lin18 a18) (la16 : Lin16 a16) (la9 : Lin9 a9) (la12 : Lin12 a12) {R : Type} (t4 : Bool) (H : Heap) (K : Ex → Fr → Heap → Option R) : ev Tryd.prog (E5 a8 a18 a16 a9 a12) loopLim Tryd.f5.ntmps kp5 c5_1 [(4, (V.b t4))] H K = g5_p3 a8 a18 a16 a9 a12 R t4 H (fun t4 H => K .ret [(4, (V.b t4))] H) := by kernel_rfl
theorem g5_p3_lin {a8 : T8} {a18 : T18} {a16 : T16} {a9 : T9} {a12 : T12} (la8 : Lin8 a8) (la18 : Lin18 a18) (la16 : Lin16 a16) (la9 : Lin9 a9) (la12 : Lin12 a12) {R S : Type} {k : S → Option R} {t4 : Bool} {H : Heap} {fkR : Bool → Heap → Option R} {gkR : Bool → Heap → Option S} (hkR : ∀ t4 H, fkR t4 H = (gkR t4 H).bind k) : g5_p3 a8 a18 a16 a9 a12 R t4 H fkR = (g5_p3 a8 a18 a16 a9 a12 S t4 H gkR).bind k := by
  delta g5_p3; exact (
    hkR _ _)
noncomputable def g5_p4 (a8 : T8) (a18 : T18) (a16 : T16) (a9 : T9) (a12 : T12) (R : Type) (t2_0 : Nat) (t2_1 : Nat) (t3_0 : Nat) (t3_1 : Nat) (H : Heap) (kR : Bool → Heap → Option R) : Option R :=
  g5_p2 a8 a18 a16 a9 a12 R t2_0 t2_1 t3_0 t3_1 H (fun t4 H => g5_p3 a8 a18 a16 a9 a12 R t4 H (fun t4 H => kR t4 H))
theorem g5_p4_lin {a8 : T8} {a18 : T18} {a16 : T16} {a9 : T9} {a12 : T12} (la8 : Lin8 a8) (la18 : Lin18 a18) (la16 : Lin16 a16) (la9 : Lin9 a9) (la12 : Lin12 a12) {R S : Type} {k : S → Option R} {t2_0 : Nat} {t2_1 : Nat} {t3_0 : Nat} {t3_1 : Nat} {H : Heap} {fkR : Bool → Heap → Option R} {gkR : Bool → Heap → Option S} (hkR : ∀ t4 H, fkR t4 H = (gkR t4 H).bind k) : g5_p4 a8 a18 a16 a9 a12 R t2_0 t2_1 t3_0 t3_1 H fkR = (g5_p4 a8 a18 a16 a9 a12 S t2_0 t2_1 t3_0 t3_1 H gkR).bind k := by
  exact g5_p2_lin la8 la18 la16 la9 la12 (fun _ _ => g5_p3_lin la8 la18 la16 la9 la12 (fun _ _ => hkR _ _))
theorem g5_p4_eq (a8 : T8) (a18 : T18) (a16 : T16) (a9 : T9) (a12 : T12) (la8 : Lin8 a8) (la18 : Lin18 a18) (la16 : Lin16 a16) (la9 : Lin9 a9) (la12 : Lin12 a12) {R : Type} (t2_0 : Nat) (t2_1 : Nat) (t3_0 : Nat) (t3_1 : Nat) (H : Heap) (K : Ex → Fr → Heap → Option R) : ev Tryd.prog (E5 a8 a18 a16 a9 a12) loopLim Tryd.f5.ntmps kp5 c5_2 [(2, (V.p (some (t2_0, t2_1)))), (3, (V.p (some (t3_0, t3_1))))] H K = g5_p4 a8 a18 a16 a9 a12 R t2_0 t2_1 t3_0 t3_1 H (fun t4 H => K .ret [(4, (V.b t4))] H) := by
  show ev Tryd.prog (E5 a8 a18 a16 a9 a12) loopLim Tryd.f5.ntmps kp5 (.seq c5_0 c5_1) [(2, (V.p (some (t2_0, t2_1)))), (3, (V.p (some (t3_0, t3_1))))] H K = _
  rw [ev_seq]
  delta g5_p4
  exact (g5_p2_eq a8 a18 a16 a9 a12 la8 la18 la16 la9 la12 t2_0 t2_1 t3_0 t3_1 H (kSeq (fun fr H => ev Tryd.prog (E5 a8 a18 a16 a9 a12) loopLim Tryd.f5.ntmps kp5 c5_1 fr H K) K)).trans (congrArg (g5_p2 a8 a18 a16 a9 a12 R t2_0 t2_1 t3_0 t3_1 H) (funext fun t4 => funext fun H => (kSeq_n _ _ _ _).trans (g5_p3_eq a8 a18 a16 a9 a12 la8 la18 la16 la9 la12 t4 H K)))
noncomputable def g5_p5 (a8 : T8) (a18 : T18) (a16 : T16) (a9 : T9) (a12 : T12) (R : Type) (t2_0 : Nat) (t2_1 : Nat) (t3_0 : Nat) (t3_1 : Nat) (t28 : Bool) (H : Heap) (kR : Bool → Heap → Option R) : Option R :=
  g5_p1 a8 a18 a16 a9 a12 R t2_0 t2_1 t3_0 t3_1 t28 H (fun t2_0 t2_1 t3_0 t3_1 H => g5_p4 a8 a18 a16 a9 a12 R t2_0 t2_1 t3_0 t3_1 H (fun t4 H => kR t4 H)) (fun t4 H => kR t4 H)
theorem g5_p5_lin {a8 : T8} {a18 : T18} {a16 : T16} {a9 : T9} {a12 : T12} (la8 : Lin8 a8) (la18 : Lin18 a18) (la16 : Lin16 a16) (la9 : Lin9 a9) (la12 : Lin12 a12) {R S : Type} {k : S → Option R} {t2_0 : Nat} {t2_1 : Nat} {t3_0 : Nat} {t3_1 : Nat} {t28 : Bool} {H : Heap} {fkR : Bool → Heap → Option R} {gkR : Bool → Heap → Option S} (hkR : ∀ t4 H, fkR t4 H = (gkR t4 H).bind k) : g5_p5 a8 a18 a16 a9 a12 R t2_0 t2_1 t3_0 t3_1 t28 H fkR = (g5_p5 a8 a18 a16 a9 a12 S t2_0 t2_1 t3_0 t3_1 t28 H gkR).bind k := by
  exact g5_p1_lin la8 la18 la16 la9 la12 (fun _ _ _ _ _ => g5_p4_lin la8 la18 la16 la9 la12 (fun _ _ => hkR _ _)) (fun _ _ => hkR _ _)
theorem g5_p5_eq (a8 : T8) (a18 : T18) (a16 : T16) (a9 : T9) (a12 : T12) (la8 : Lin8 a8) (la18 : Lin18 a18) (la16 : Lin16 a16) (la9 : Lin9 a9) (la12 : Lin12 a12) {R : Type} (t2_0 : Nat) (t2_1 : Nat) (t3_0 : Nat) (t3_1 : Nat) (t28 : Bool) (H : Heap) (K : Ex → Fr → Heap → Option R) : ev Tryd.prog (E5 a8 a18 a16 a9 a12) loopLim Tryd.f5.ntmps kp5 c5_3 [(2, (V.p (some (t2_0, t2_1)))), (3, (V.p (some (t3_0, t3_1)))), (28, (V.b t28))] H K = g5_p5 a8 a18 a16 a9 a12 R t2_0 t2_1 t3_0 t3_1 t28 H (fun t4 H => K .ret [(4, (V.b t4))] H) := by
  show ev Tryd.prog (E5 a8 a18 a16 a9 a12) loopLim Tryd.f5.ntmps kp5 (.seq (.cond (.tmp 28) (.seq (codeAt [1, 1, 0, 1, 0, 0] b5) .ret) .skip) c5_2) [(2, (V.p (some (t2_0, t2_1)))), (3, (V.p (some (t3_0, t3_1)))), (28, (V.b t28))] H K = _
  delta g5_p5
  exact (g5_p1_eq a8 a18 a16 a9 a12 _ t2_0 t2_1 t3_0 t3_1 t28 H K).trans (congr (congrArg (g5_p1 a8 a18 a16 a9 a12 R t2_0 t2_1 t3_0 t3_1 t28 H) (funext fun t2_0 => funext fun t2_1 => funext fun t3_0 => funext fun t3_1 => funext fun H => g5_p4_eq a8 a18 a16 a9 a12 la8 la18 la16 la9 la12 t2_0 t2_1 t3_0 t3_1 H K)) rfl)
noncomputable def g5_p6 (a8 : T8) (a18 : T18) (a16 : T16) (a9 : T9) (a12 : T12) (R : Type) (t0_0 : Int) (t0_1 : Bool) (t0_2 : Int) (t0_3 : Bool) (t0_4 : Int) (t0_5 : Int) (t0_6 : Sl) (t1_0 : Int) (t1_1 : Bool) (t1_2 : Int) (t1_3 : Bool) (t1_4 : Int) (t1_5 : Int) (t1_6 : Sl) (H : Heap) (kR : Bool → Heap → Option R) : Option R :=
  g5_p0 a8 a18 a16 a9 a12 R t0_0 t0_1 t0_2 t0_3 t0_4 t0_5 t0_6 t1_0 t1_1 t1_2 t1_3 t1_4 t1_5 t1_6 H (fun t2_0 t2_1 t3_0 t3_1 t28 H => g5_p5 a8 a18 a16 a9 a12 R t2_0 t2_1 t3_0 t3_1 t28 H (fun t4 H => kR t4 H)) (fun t4 H => kR t4 H)
theorem g5_p6_lin {a8 : T8} {a18 : T18} {a16 : T16} {a9 : T9} {a12 : T12} (la8 : Lin8 a8) (la18 : Lin18 a18) (la16 : Lin16 a16) (la9 : Lin9 a9) (la12 : Lin12 a12) {R S : Type} {k : S → Option R} {t0_0 : Int} {t0_1 : Bool} {t0_2 : Int} {t0_3 : Bool} {t0_4 : Int} {t0_5 : Int} {t0_6 : Sl} {t1_0 : Int} {t1_1 : Bool} {t1_2 : Int} {t1_3 : Bool} {t1_4 : Int} {t1_5 : Int} {t1_6 : Sl} {H : Heap} {fkR : Bool → Heap → Option R} {gkR : Bool → Heap → Option S} (hkR : ∀ t4 H, fkR t4 H = (gkR t4 H).bind k) : g5_p6 a8 a18 a16 a9 a12 R t0_0 t0_1 t0_2 t0_3 t0_4 t0_5 t0_6 t1_0 t1_1 t1_2 t1_3 t1_4 t1_5 t1_6 H fkR = (g5_p6 a8 a18 a16 a9 a12 S t0_0 t0_1 t0_2 t0_3 t0_4 t0_5 t0_6 t1_0 t1_1 t1_2 t1_3 t1_4 t1_5 t1_6 H gkR).bind k := by
  exact g5_p0_lin la8 la18 la16 la9 la12 (fun _ _ _ _ _ _ => g5_p5_lin la8 la18 la16 la9 la12 (fun _ _ => hkR _ _)) (fun _ _ => hkR _ _)
theorem g5_p6_eq (a8 : T8) (a18 : T18) (a16 : T16) (a9 : T9) (a12 : T12) (la8 : Lin8 a8) (la18 : Lin18 a18) (la16 : Lin16 a16) (la9 : Lin9 a9) (la12 : Lin12 a12) {R : Type} (t0_0 : Int) (t0_1 : Bool) (t0_2 : Int) (t0_3 : Bool) (t0_4 : Int) (t0_5 : Int) (t0_6 : Sl) (t1_0 : Int) (t1_1 : Bool) (t1_2 : Int) (t1_3 : Bool) (t1_4 : Int) (t1_5 : Int) (t1_6 : Sl) (H : Heap) (K : Ex → Fr → Heap → Option R) : ev Tryd.prog (E5 a8 a18 a16 a9 a12) loopLim Tryd.f5.ntmps kp5 c5_4 [(0, (V.agg [(V.i .u8 t0_0), (V.b t0_1), (V.i .u8 t0_2), (V.b t0_3), (V.i .u8 t0_4), (V.i .u8 t0_5), (V.sl t0_6)])), (1, (V.agg [(V.i .u8 t1_0), (V.b t1_1), (V.i .u8 t1_2), (V.b t1_3), (V.i .u8 t1_4), (V.i .u8 t1_5), (V.sl t1_6)]))] H K = g5_p6 a8 a18 a16 a9 a12 R t0_0 t0_1 t0_2 t0_3 t0_4 t0_5 t0_6 t1_0 t1_1 t1_2 t1_3 t1_4 t1_5 t1_6 H (fun t4 H => K .ret [(4, (V.b t4))] H) := by
  show ev Tryd.prog (E5 a8 a18 a16 a9 a12) loopLim Tryd.f5.ntmps kp5 (.seq (codeAt [0] b5) (.seq (codeAt [1, 0, 0] b5) (.seq (.cond (.tmp 14) (.seq (codeAt [1, 0, 1, 0, 0] b5) .ret) .skip) (.seq (codeAt [1, 1, 0, 0] b5) c5_3)))) [(0, (V.agg [(V.i .u8 t0_0), (V.b t0_1), (V.i .u8 t0_2), (V.b t0_3), (V.i .u8 t0_4), (V.i .u8 t0_5), (V.sl t0_6)])), (1, (V.agg [(V.i .u8 t1_0), (V.b t1_1), (V.i .u8 t1_2), (V.b t1_3), (V.i .u8 t1_4), (V.i .u8 t1_5), (V.sl t1_6)]))] H K = _
  delta g5_p6
  exact (g5_p0_eq a8 a18 a16 a9 a12 _ t0_0 t0_1 t0_2 t0_3 t0_4 t0_5 t0_6 t1_0 t1_1 t1_2 t1_3 t1_4 t1_5 t1_6 H K).trans (congr (congrArg (g5_p0 a8 a18 a16 a9 a12 R t0_0 t0_1 t0_2 t0_3 t0_4 t0_5 t0_6 t1_0 t1_1 t1_2 t1_3 t1_4 t1_5 t1_6 H) (funext fun t2_0 => funext fun t2_1 => funext fun t3_0 => funext fun t3_1 => funext fun t28 => funext fun H => g5_p5_eq a8 a18 a16 a9 a12 la8 la18 la16 la9 la12 t2_0 t2_1 t3_0 t3_1 t28 H K)) rfl)
noncomputable def g5_r (a8 : T8) (a18 : T18) (a16 : T16) (a9 : T9) (a12 : T12) : T5 := fun R t0_0 t0_1 t0_2 t0_3 t0_4 t0_5 t0_6 t1_0 t1_1 t1_2 t1_3 t1_4 t1_5 t1_6 H K =>
  g5_p6 a8 a18 a16 a9 a12 R t0_0 t0_1 t0_2 t0_3 t0_4 t0_5 t0_6 t1_0 t1_1 t1_2 t1_3 t1_4 t1_5 t1_6 H (fun t4 H =>
    K t4 H)
theorem g5_r_lin {a8 : T8} {a18 : T18} {a16 : T16} {a9 : T9} {a12 : T12} (la8 : Lin8 a8) (la18 : Lin18 a18) (la16 : Lin16 a16) (la9 : Lin9 a9) (la12 : Lin12 a12) : Lin5 (g5_r a8 a18 a16 a9 a12) := by
  constructor
  intro R S k t0_0 t0_1 t0_2 t0_3 t0_4 t0_5 t0_6 t1_0 t1_1 t1_2 t1_3 t1_4 t1_5 t1_6 H f g h
  exact g5_p6_lin la8 la18 la16 la9 la12 (fun t4 H =>
    h _ _)
theorem g5_fn (a8 : T8) (a18 : T18) (a16 : T16) (a9 : T9) (a12 : T12) (la8 : Lin8 a8) (la18 : Lin18 a18) (la16 : Lin16 a16) (la9 : Lin9 a9) (la12 : Lin12 a12) {R : Type} (t0_0 : Int) (t0_1 : Bool) (t0_2 : Int) (t0_3 : Bool) (t0_4 : Int) (t0_5 : Int) (t0_6 : Sl) (t1_0 : Int) (t1_1 : Bool) (t1_2 : Int) (t1_3 : Bool) (t1_4 : Int) (t1_5 : Int) (t1_6 : Sl) (H : Heap) (K : V → Heap → Option R) : evFn Tryd.prog (E5 a8 a18 a16 a9 a12) loopLim Tryd.f5 kp5 [(V.agg [(V.i .u8 t0_0), (V.b t0_1), (V.i .u8 t0_2), (V.b t0_3), (V.i .u8 t0_4), (V.i .u8 t0_5), (V.sl t0_6)]), (V.agg [(V.i .u8 t1_0), (V.b t1_1), (V.i .u8 t1_2), (V.b t1_3), (V.i .u8 t1_4), (V.i .u8 t1_5), (V.sl t1_6)])] H K = g5_r a8 a18 a16 a9 a12 R t0_0 t0_1 t0_2 t0_3 t0_4 t0_5 t0_6 t1_0 t1_1 t1_2 t1_3 t1_4 t1_5 t1_6 H (fun r0 H => K (V.b r0) H) := by
  have h0 : ∀ (t4 : Bool) (H : Heap), kFn Tryd.prog Tryd.f5.results.toList K .ret [(4, (V.b t4))] H =
      K (V.b t4) H := by intros; kernel_rfl
  have e0 := evFn_code2 (P := Tryd.prog) (c := c5_4) (E := (E5 a8 a18 a16 a9 a12)) (lr := loopLim) (kp := kp5) (fn := Tryd.f5) (args := [(V.agg [(V.i .u8 t0_0), (V.b t0_1), (V.i .u8 t0_2), (V.b t0_3), (V.i .u8 t0_4), (V.i .u8 t0_5), (V.sl t0_6)]), (V.agg [(V.i .u8 t1_0), (V.b t1_1), (V.i .u8 t1_2), (V.b t1_3), (V.i .u8 t1_4), (V.i .u8 t1_5), (V.sl t1_6)])]) H K (by kernel_rfl) (Nat.le_of_ble_eq_true (by kernel_rfl)) (by kernel_rfl)
  have e1 : ev Tryd.prog (E5 a8 a18 a16 a9 a12) loopLim Tryd.f5.ntmps kp5 c5_4 (argFr 0 [(V.agg [(V.i .u8 t0_0), (V.b t0_1), (V.i .u8 t0_2), (V.b t0_3), (V.i .u8 t0_4), (V.i .u8 t0_5), (V.sl t0_6)]), (V.agg [(V.i .u8 t1_0), (V.b t1_1), (V.i .u8 t1_2), (V.b t1_3), (V.i .u8 t1_4), (V.i .u8 t1_5), (V.sl t1_6)])]) H (kFn Tryd.prog Tryd.f5.results.toList K) = ev Tryd.prog (E5 a8 a18 a16 a9 a12) loopLim Tryd.f5.ntmps kp5 c5_4 [(0, (V.agg [(V.i .u8 t0_0), (V.b t0_1), (V.i .u8 t0_2), (V.b t0_3), (V.i .u8 t0_4), (V.i .u8 t0_5), (V.sl t0_6)])), (1, (V.agg [(V.i .u8 t1_0), (V.b t1_1), (V.i .u8 t1_2), (V.b t1_3), (V.i .u8 t1_4), (V.i .u8 t1_5), (V.sl t1_6)]))] H (kFn Tryd.prog Tryd.f5.results.toList K) := by kernel_rfl
  refine (e0.trans e1).trans ?_
  delta g5_r
  exact (g5_p6_eq a8 a18 a16 a9 a12 la8 la18 la16 la9 la12 t0_0 t0_1 t0_2 t0_3 t0_4 t0_5 t0_6 t1_0 t1_1 t1_2 t1_3 t1_4 t1_5 t1_6 H (kFn Tryd.prog Tryd.f5.results.toList K)).trans (congrArg (g5_p6 a8 a18 a16 a9 a12 R t0_0 t0_1 t0_2 t0_3 t0_4 t0_5 t0_6 t1_0 t1_1 t1_2 t1_3 t1_4 t1_5 t1_6 H) (funext fun t4 => funext fun H => h0 t4 H))
theorem g5_ok {a8 : T8} {a18 : T18} {a16 : T16} {a9 : T9} {a12 : T12} (oa8 : FunOK Tryd.prog 8 (w8 a8)) (oa18 : FunOK Tryd.prog 18 (w18 a18)) (oa16 : FunOK Tryd.prog 16 (w16 a16)) (oa9 : FunOK Tryd.prog 9 (w9 a9)) (oa12 : FunOK Tryd.prog 12 (w12 a12)) (la8 : Lin8 a8) (la18 : Lin18 a18) (la16 : Lin16 a16) (la9 : Lin9 a9) (la12 : Lin12 a12) : FunOK Tryd.prog 5 (w5 (g5_r a8 a18 a16 a9 a12)) := by
  refine (runF_ok (E5_good oa8 oa18 oa16 oa9 oa12 la8 la18 la16 la9 la12) mixed lim_ok Tryd.func5 (by kernel_rfl) kp5).of_le fun R args H K r hk => ?_
  unfold w5 at hk
  split at hk
  · exact (g5_fn a8 a18 a16 a9 a12 la8 la18 la16 la9 la12 _ _ _ _ _ _ _ _ _ _ _ _ _ _ H K).trans hk
  · cases hk
def kp19 : Nat → Option (List Nat) := kpOf [(0, [0, 1]), (1, [4]), (300000, [4])]
def E19 : FEnv := []
theorem E19_good : EnvGood Tryd.prog E19 := (EnvGood.nil _)
theorem E19_lin : EnvLin E19 := fun g F h => by cases h
noncomputable def b19 : Code := Tryd.f19.body.getD .skip
noncomputable def c19_0 : Code := (.seq (codeAt [0] b19) (.seq (codeAt [1, 0] b19) .ret))
noncomputable def g19_p0 (R : Type) (t0 : Int) (t1 : Int) (H : Heap) (kR : Int → Heap → Option R) : Option R :=
  kR (Int.tmod (IntKind.wrap .u8 (t0 + (IntKind.wrap .u8 (Int.tmod t1 (128 : Int))))) (128 : Int)) H
theorem g19_p0_eq {R : Type} (t0 : Int) (t1 : Int) (H : Heap) (K : Ex → Fr → Heap → Option R) : ev Tryd.prog E19 loopLim Tryd.f19.ntmps kp19 c19_0 [(0, (V.i .u8 t0)), (1, (V.i .i64 t1))] H K = g19_p0 R t0 t1 H (fun t4 H => K .ret [(4, (V.i .u8 t4))] H) := by kernel_rfl
theorem g19_p0_lin {R S : Type} {k : S → Option R} {t0 : Int} {t1 : Int} {H : Heap} {fkR : Int → Heap → Option R} {gkR : Int → Heap → Option S} (hkR : ∀ t4 H, fkR t4 H = (gkR t4 H).bind k) : g19_p0 R t0 t1 H fkR = (g19_p0 S t0 t1 H gkR).bind k := by
  delta g19_p0; exact (
    hkR _ _)
noncomputable def g19_r : T19 := fun R t0 t1 H K =>
  g19_p0 R t0 t1 H (fun t4 H =>
    K t4 H)
theorem g19_r_lin : Lin19 (g19_r) := by
  constructor
  intro R S k t0 t1 H f g h
  exact g19_p0_lin (fun t4 H =>
    h _ _)
theorem g19_fn {R : Type} (t0 : Int) (t1 : Int) (H : Heap) (K : V → Heap → Option R) : evFn Tryd.prog E19 loopLim Tryd.f19 kp19 [(V.i .u8 t0), (V.i .i64 t1)] H K = g19_r R t0 t1 H (fun r0 H => K (V.i .u8 r0) H) := by
  have h0 : ∀ (t4 : Int) (H : Heap), kFn Tryd.prog Tryd.f19.results.toList K .ret [(4, (V.i .u8 t4))] H =
      K (V.i .u8 t4) H := by intros; kernel_rfl
  have e0 := evFn_code2 (P := Tryd.prog) (c := c19_0) (E := E19) (lr := loopLim) (kp := kp19) (fn := Tryd.f19) (args := [(V.i .u8 t0), (V.i .i64 t1)]) H K (by kernel_rfl) (Nat.le_of_ble_eq_true (by kernel_rfl)) (by kernel_rfl)
  have e1 : ev Tryd.prog E19 loopLim Tryd.f19.ntmps kp19 c19_0 (argFr 0 [(V.i .u8 t0), (V.i .i64 t1)]) H (kFn Tryd.prog Tryd.f19.results.toList K) = ev Tryd.prog E19 loopLim Tryd.f19.ntmps kp19 c19_0 [(0, (V.i .u8 t0)), (1, (V.i .i64 t1))] H (kFn Tryd.prog Tryd.f19.results.toList K) := by kernel_rfl
  refine (e0.trans e1).trans ?_
  delta g19_r
  exact (g19_p0_eq t0 t1 H (kFn Tryd.prog Tryd.f19.results.toList K)).trans (congrArg (g19_p0 R t0 t1 H) (funext fun t4 => funext fun H => h0 t4 H))
theorem g19_ok : FunOK Tryd.prog 19 (w19 (g19_r)) := by
  refine (runF_ok (E19_good) mixed lim_ok Tryd.func19 (by kernel_rfl) kp19).of_le fun R args H K r hk => ?_
  unfold w19 at hk
  split at hk
  · exact (g19_fn _ _ H K).trans hk
  · cases hk
def kp20 : Nat → Option (List Nat) := kpOf [(0, [0, 1]), (1, [4]), (300000, [4])]
def E20 : FEnv := []
theorem E20_good : EnvGood Tryd.prog E20 := (EnvGood.nil _)
theorem E20_lin : EnvLin E20 := fun g F h => by cases h
noncomputable def b20 : Code := Tryd.f20.body.getD .skip
noncomputable def c20_0 : Code := (.seq (codeAt [0] b20) (.seq (codeAt [1, 0] b20) .ret))
noncomputable def g20_p0 (R : Type) (t0 : Int) (t1 : Int) (H : Heap) (kR : Int → Heap → Option R) : Option R :=
  kR (IntKind.wrap .i64 (Int.tmod (IntKind.wrap .u8 (t1 - t0)) (128 : Int))) H
theorem g20_p0_eq {R : Type} (t0 : Int) (t1 : Int) (H : Heap) (K : Ex → Fr → Heap → Option R) : ev Tryd.prog E20 loopLim Tryd.f20.ntmps kp20 c20_0 [(0, (V.i .u8 t0)), (1, (V.i .u8 t1))] H K = g20_p0 R t0 t1 H (fun t4 H => K .ret [(4, (V.i .i64 t4))] H) := by kernel_rfl
theorem g20_p0_lin {R S : Type} {k : S → Option R} {t0 : Int} {t1 : Int} {H : Heap} {fkR : Int → Heap → Option R} {gkR : Int → Heap → Option S} (hkR : ∀ t4 H, fkR t4 H = (gkR t4 H).bind k) : g20_p0 R t0 t1 H fkR = (g20_p0 S t0 t1 H gkR).bind k := by
  delta g20_p0; exact (
    hkR _ _)
noncomputable def g20_r : T20 := fun R t0 t1 H K =>
  g20_p0 R t0 t1 H (fun t4 H =>
    K t4 H)
theorem g20_r_lin : Lin20 (g20_r) := by
  constructor
  intro R S k t0 t1 H f g h
  exact g20_p0_lin (fun t4 H =>
    h _ _)
theorem g20_fn {R : Type} (t0 : Int) (t1 : Int) (H : Heap) (K : V → Heap → Option R) : evFn Tryd.prog E20 loopLim Tryd.f20 kp20 [(V.i .u8 t0), (V.i .u8 t1)] H K = g20_r R t0 t1 H (fun r0 H => K (V.i .i64 r0) H) := by
  have h0 : ∀ (t4 : Int) (H : Heap), kFn Tryd.prog Tryd.f20.results.toList K .ret [(4, (V.i .i64 t4))] H =
      K (V.i .i64 t4) H := by intros; kernel_rfl
  have e0 := evFn_code2 (P := Tryd.prog) (c := c20_0) (E := E20) (lr := loopLim) (kp := kp20) (fn := Tryd.f20) (args := [(V.i .u8 t0), (V.i .u8 t1)]) H K (by kernel_rfl) (Nat.le_of_ble_eq_true (by kernel_rfl)) (by kernel_rfl)
  have e1 : ev Tryd.prog E20 loopLim Tryd.f20.ntmps kp20 c20_0 (argFr 0 [(V.i .u8 t0), (V.i .u8 t1)]) H (kFn Tryd.prog Tryd.f20.results.toList K) = ev Tryd.prog E20 loopLim Tryd.f20.ntmps kp20 c20_0 [(0, (V.i .u8 t0)), (1, (V.i .u8 t1))] H (kFn Tryd.prog Tryd.f20.results.toList K) := by kernel_rfl
  refine (e0.trans e1).trans ?_
  delta g20_r
  exact (g20_p0_eq t0 t1 H (kFn Tryd.prog Tryd.f20.results.toList K)).trans (congrArg (g20_p0 R t0 t1 H) (funext fun t4 => funext fun H => h0 t4 H))
theorem g20_ok : FunOK Tryd.prog 20 (w20 (g20_r)) := by
  refine (runF_ok (E20_good) mixed lim_ok Tryd.func20 (by kernel_rfl) kp20).of_le fun R args H K r hk => ?_
  unfold w20 at hk
  split at hk
  · exact (g20_fn _ _ H K).trans hk
  · cases hk
def kp6 : Nat → Option (List Nat) := kpOf [(0, [0, 1, 5]), (1, [0, 1, 5, 7]), (2, [0, 1, 5, 7, 31]), (3, [6]), (4, [0, 1, 5, 7, 8]), (5, [0, 1, 5, 7, 8, 36]), (6, [0, 1, 5, 7, 8]), (7, [0, 1, 5, 7, 8, 63]), (8, [6]), (9, [0, 1, 5, 7, 8, 9]), (10, [0, 1, 5, 7, 8, 9, 10]), (11, [0, 1, 5, 8, 9, 10, 11]), (12, [6]), (300000, [6]), (400031, [0, 1, 5, 7]), (400036, [0, 1, 5, 7, 8]), (400063, [0, 1, 5, 7, 8])]
def E6 (a19 : T19) (a20 : T20) (a8 : T8) : FEnv := [(19, w19 a19), (20, w20 a20), (8, w8 a8)]
theorem E6_good {a19 : T19} {a20 : T20} {a8 : T8} (oa19 : FunOK Tryd.prog 19 (w19 a19)) (oa20 : FunOK Tryd.prog 20 (w20 a20)) (oa8 : FunOK Tryd.prog 8 (w8 a8)) (la19 : Lin19 a19) (la20 : Lin20 a20) (la8 : Lin8 a8) : EnvGood Tryd.prog (E6 a19 a20 a8) := ((((EnvGood.nil _).cons oa8 (w8_lin la8)).cons oa20 (w20_lin la20)).cons oa19 (w19_lin la19))
theorem E6_lin {a19 : T19} {a20 : T20} {a8 : T8} (la19 : Lin19 a19) (la20 : Lin20 a20) (la8 : Lin8 a8) : EnvLin (E6 a19 a20 a8) := by
  intro g F h
  simp only [E6, List.mem_cons, List.not_mem_nil, or_false] at h
  rcases h with h | h | h
  · cases h; exact w19_lin la19
  · cases h; exact w20_lin la20
  · cases h; exact w8_lin la8
noncomputable def b6 : Code := Tryd.f6.body.getD .skip
noncomputable def c6_0 : Code := (.seq (codeAt [0] b6) (.seq (codeAt [1, 0] b6) (.seq (codeAt [1, 1, 0, 0] b6) (.seq (.cond (.tmp 31) (.seq (codeAt [1, 1, 0, 1, 0, 0] b6) .ret) .skip) (.seq (codeAt [1, 1, 1, 0] b6) (.seq (codeAt [1, 1, 1, 1, 0, 0] b6) (.seq (.cond (.tmp 36) (codeAt [1, 1, 1, 1, 0, 1, 0] b6) .skip) (.seq (codeAt [1, 1, 1, 1, 1, 0, 0] b6) (.seq (.cond (.tmp 63) (.seq (codeAt [1, 1, 1, 1, 1, 0, 1, 0, 0] b6) .ret) .skip) (.seq (codeAt [1, 1, 1, 1, 1, 1, 0] b6) (.seq (codeAt [1, 1, 1, 1, 1, 1, 1, 0] b6) (.seq (codeAt [1, 1, 1, 1, 1, 1, 1, 1, 0] b6) (.seq (codeAt [1, 1, 1, 1, 1, 1, 1, 1, 1, 0] b6) .ret)))))))))))))
noncomputable def g6_p0 (a19 : T19) (a20 : T20) (a8 : T8) (R : Type) (t0 : Int) (t1 : Int) (t2_0 : Int) (t2_1 : Int) (H : Heap) (kR : Bool → Heap → Option R) : Option R :=
  alo H (.cells [(V.i .i64 t2_0), (V.i .i64 t2_1)] 40 false) fun i1 h2 =>
  ((h2).ldI .i64 i1 (0 + 0)).bind fun x3 =>
  a19 R t0 x3 h2 fun x4 h5 =>
  sel (decide (x4 > (127 : Int))) (
    kR false h5) (
    a19 R t0 (0 : Int) h5 fun x6 h7 =>
    sel (x6 != (Int.tmod t0 (128 : Int))) (
      kR false h7) (
      a20 R t0 (IntKind.wrap .u8 (t0 + (128 : Int))) h7 fun x8 h9 =>
      sel (x8 != (0 : Int)) (
        kR false h9) (
        ((h9).ldI .i64 i1 (0 + 0)).bind fun x10 =>
        sel (decide ((Int.tmod x10 (128 : Int)) < (0 : Int))) (
          sel ((IntKind.wrap .i64 x4) != (Int.tmod (IntKind.wrap .i64 ((IntKind.wrap .i64 (Int.tmod t0 (128 : Int))) + (IntKind.wrap .i64 ((Int.tmod x10 (128 : Int)) + (128 : Int))))) (128 : Int))) (
            kR false h9) (
            a20 R t0 x4 h9 fun x11 h12 =>
            sel (x11 != (IntKind.wrap .i64 ((Int.tmod x10 (128 : Int)) + (128 : Int)))) (
              kR false h12) (
              a20 R (IntKind.wrap .u8 (t0 + (128 : Int))) (IntKind.wrap .u8 (x4 + (128 : Int))) h12 fun x13 h14 =>
              sel (x13 != (IntKind.wrap .i64 ((Int.tmod x10 (128 : Int)) + (128 : Int)))) (
                kR false h14) (
                a20 R t0 t1 h14 fun x15 h16 =>
                a20 R t1 t0 h16 fun x17 h18 =>
                ((h18).ldI .i64 i1 (0 + 1)).bind fun x19 =>
                a19 R x4 (Int.tmod x19 (1000000 : Int)) h18 fun x20 h21 =>
                sel (decide (x15 ≥ (0 : Int))) (
                  sel (decide (x15 ≤ (127 : Int))) (
                    a19 R t0 x15 h21 fun x22 h23 =>
                    sel (x22 == (Int.tmod t1 (128 : Int))) (
                      sel ((Int.tmod (IntKind.wrap .i64 (x15 + x17)) (128 : Int)) == (0 : Int)) (
                        ((h23).ldI .i64 i1 (0 + 1)).bind fun x24 =>
                        a19 R t0 (IntKind.wrap .i64 ((IntKind.wrap .i64 ((Int.tmod x10 (128 : Int)) + (128 : Int))) + (Int.tmod x24 (1000000 : Int)))) h23 fun x25 h26 =>
                        sel (x20 == x25) (
                          a8 R h26 fun x27 h28 =>
                          kR x27 h28) (
                          kR false h26)) (
                        kR false h23)) (
                      kR false h23)) (
                    kR false h21)) (
                  kR false h21))))) (
          sel ((IntKind.wrap .i64 x4) != (Int.tmod (IntKind.wrap .i64 ((IntKind.wrap .i64 (Int.tmod t0 (128 : Int))) + (Int.tmod x10 (128 : Int)))) (128 : Int))) (
            kR false h9) (
            a20 R t0 x4 h9 fun x29 h30 =>
            sel (x29 != (Int.tmod x10 (128 : Int))) (
              kR false h30) (
              a20 R (IntKind.wrap .u8 (t0 + (128 : Int))) (IntKind.wrap .u8 (x4 + (128 : Int))) h30 fun x31 h32 =>
              sel (x31 != (Int.tmod x10 (128 : Int))) (
                kR false h32) (
                a20 R t0 t1 h32 fun x33 h34 =>
                a20 R t1 t0 h34 fun x35 h36 =>
                ((h36).ldI .i64 i1 (0 + 1)).bind fun x37 =>
                a19 R x4 (Int.tmod x37 (1000000 : Int)) h36 fun x38 h39 =>
                sel (decide (x33 ≥ (0 : Int))) (
                  sel (decide (x33 ≤ (127 : Int))) (
                    a19 R t0 x33 h39 fun x40 h41 =>
                    sel (x40 == (Int.tmod t1 (128 : Int))) (
                      sel ((Int.tmod (IntKind.wrap .i64 (x33 + x35)) (128 : Int)) == (0 : Int)) (
                        ((h41).ldI .i64 i1 (0 + 1)).bind fun x42 =>
                        a19 R t0 (IntKind.wrap .i64 ((Int.tmod x10 (128 : Int)) + (Int.tmod x42 (1000000 : Int)))) h41 fun x43 h44 =>
                        sel (x38 == x43) (
                          a8 R h44 fun x45 h46 =>
                          kR x45 h46) (
                          kR false h44)) (
                        kR false h41)) (
                      kR false h41)) (
                    kR false h39)) (
                  kR false h39))))))))
theorem g6_p0_eq (a19 : T19) (a20 : T20) (a8 : T8) (la19 : Lin19 a19) (la20 : Lin20 a20) (la8 : Lin8 a8) {R : Type} (t0 : Int) (t1 : Int) (t2_0 : Int) (t2_1 : Int) (H : Heap) (K : Ex → Fr → Heap → Option R) : ev Tryd.prog (E6 a19 a20 a8) loopLim Tryd.f6.ntmps kp6 c6_0 [(0, (V.i .u8 t0)), (1, (V.i .u8 t1)), (2, (V.agg [(V.i .i64 t2_0), (V.i .i64 t2_1)]))] H K = g6_p0 a19 a20 a8 R t0 t1 t2_0 t2_1 H (fun t6 H => K .ret [(6, (V.b t6))] H) := by kernel_rfl
theorem g6_p0_lin {a19 : T19} {a20 : T20} {a8 : T8} (la19 : Lin19 a19) (la20 : Lin20 a20) (la8 : Lin8 a8) {R S : Type} {k : S → Option R} {t0 : Int} {t1 : Int} {t2_0 : Int} {t2_1 : Int} {H : Heap} {fkR : Bool → Heap → Option R} {gkR : Bool → Heap → Option S} (hkR : ∀ t6 H, fkR t6 H = (gkR t6 H).bind k) : g6_p0 a19 a20 a8 R t0 t1 t2_0 t2_1 H fkR = (g6_p0 a19 a20 a8 S t0 t1 t2_0 t2_1 H gkR).bind k := by
  delta g6_p0; exact (
    alo_lin fun i1 h2 =>
    bl fun x3 =>
    la19.l fun x4 h5 =>
    sl_lin (
      hkR _ _) (
      la19.l fun x6 h7 =>
      sl_lin (
        hkR _ _) (
        la20.l fun x8 h9 =>
        sl_lin (
          hkR _ _) (
          bl fun x10 =>
          sl_lin (
            sl_lin (
              hkR _ _) (
              la20.l fun x11 h12 =>
              sl_lin (
                hkR _ _) (
                la20.l fun x13 h14 =>
                sl_lin (
                  hkR _ _) (
                  la20.l fun x15 h16 =>
                  la20.l fun x17 h18 =>
                  bl fun x19 =>
                  la19.l fun x20 h21 =>
                  sl_lin (
                    sl_lin (
                      la19.l fun x22 h23 =>
                      sl_lin (
                        sl_lin (
                          bl fun x24 =>
                          la19.l fun x25 h26 =>
                          sl_lin (
                            la8.l fun x27 h28 =>
                            hkR _ _) (
                            hkR _ _)) (
                          hkR _ _)) (
                        hkR _ _)) (
                      hkR _ _)) (
                    hkR _ _))))) (
            sl_lin (
              hkR _ _) (
              la20.l fun x29 h30 =>
              sl_lin (
                hkR _ _) (
                la20.l fun x31 h32 =>
                sl_lin (
                  hkR _ _) (
                  la20.l fun x33 h34 =>
                  la20.l fun x35 h36 =>
                  bl fun x37 =>
                  la19.l fun x38 h39 =>
                  sl_lin (
                    sl_lin (
                      la19.l fun x40 h41 =>
                      sl_lin (
                        sl_lin (
                          bl fun x42 =>
                          la19.l fun x43 h44 =>
                          sl_lin (
                            la8.l fun x45 h46 =>
                            hkR _ _) (
                            hkR _ _)) (
                          hkR _ _)) (
                        hkR _ _)) (
                      hkR _ _)) (
                    hkR _ _)))))))))
noncomputable def g6_r (a19 : T19) (a20 : T20) (a8 : T8) : T6 := fun R t0 t1 t2_0 t2_1 H K =>
  g6_p0 a19 a20 a8 R t0 t1 t2_0 t2_1 H (fun t6 H =>
    K t6 H)
theorem g6_r_lin {a19 : T19} {a20 : T20} {a8 : T8} (la19 : Lin19 a19) (la20 : Lin20 a20) (la8 : Lin8 a8) : Lin6 (g6_r a19 a20 a8) := by
  constructor
  intro R S k t0 t1 t2_0 t2_1 H f g h
  exact g6_p0_lin la19 la20 la8 (fun t6 H =>
    h _ _)
theorem g6_fn (a19 : T19) (a20 : T20) (a8 : T8) (la19 : Lin19 a19) (la20 : Lin20 a20) (la8 : Lin8 a8) {R : Type} (t0 : Int) (t1 : Int) (t2_0 : Int) (t2_1 : Int) (H : Heap) (K : V → Heap → Option R) : evFn Tryd.prog (E6 a19 a20 a8) loopLim Tryd.f6 kp6 [(V.i .u8 t0), (V.i .u8 t1), (V.agg [(V.i .i64 t2_0), (V.i .i64 t2_1)])] H K = g6_r a19 a20 a8 R t0 t1 t2_0 t2_1 H (fun r0 H => K (V.b r0) H) := by
  have h0 : ∀ (t6 : Bool) (H : Heap), kFn Tryd.prog Tryd.f6.results.toList K .ret [(6, (V.b t6))] H =
      K (V.b t6) H := by intros; kernel_rfl
  have e0 := evFn_code2 (P := Tryd.prog) (c := c6_0) (E := (E6 a19 a20 a8)) (lr := loopLim) (kp := kp6) (fn := Tryd.f6) (args := [(V.i .u8 t0), (V.i .u8 t1), (V.agg [(V.i .i64 t2_0), (V.i .i64 t2_1)])]) H K (by kernel_rfl) (Nat.le_of_ble_eq_true (by kernel_rfl)) (by kernel_rfl)
  have e1 : ev Tryd.prog (E6 a19 a20 a8) loopLim Tryd.f6.ntmps kp6 c6_0 (argFr 0 [(V.i .u8 t0), (V.i .u8 t1), (V.agg [(V.i .i64 t2_0), (V.i .i64 t2_1)])]) H (kFn Tryd.prog Tryd.f6.results.toList K) = ev Tryd.prog (E6 a19 a20 a8) loopLim Tryd.f6.ntmps kp6 c6_0 [(0, (V.i .u8 t0)), (1, (V.i .u8 t1)), (2, (V.agg [(V.i .i64 t2_0), (V.i .i64 t2_1)]))] H (kFn Tryd.prog Tryd.f6.results.toList K) := by kernel_rfl
  refine (e0.trans e1).trans ?_
  delta g6_r
  exact (g6_p0_eq a19 a20 a8 la19 la20 la8 t0 t1 t2_0 t2_1 H (kFn Tryd.prog Tryd.f6.results.toList K)).trans (congrArg (g6_p0 a19 a20 a8 R t0 t1 t2_0 t2_1 H) (funext fun t6 => funext fun H => h0 t6 H))
theorem g6_ok {a19 : T19} {a20 : T20} {a8 : T8} (oa19 : FunOK Tryd.prog 19 (w19 a19)) (oa20 : FunOK Tryd.prog 20 (w20 a20)) (oa8 : FunOK Tryd.prog 8 (w8 a8)) (la19 : Lin19 a19) (la20 : Lin20 a20) (la8 : Lin8 a8) : FunOK Tryd.prog 6 (w6 (g6_r a19 a20 a8)) := by
  refine (runF_ok (E6_good oa19 oa20 oa8 la19 la20 la8) mixed lim_ok Tryd.func6 (by kernel_rfl) kp6).of_le fun R args H K r hk => ?_
  unfold w6 at hk
  split at hk
  · exact (g6_fn a19 a20 a8 la19 la20 la8 _ _ _ _ H K).trans hk
  · cases hk
end Go.Proofs.YteipplgcdbaokaaDoor

