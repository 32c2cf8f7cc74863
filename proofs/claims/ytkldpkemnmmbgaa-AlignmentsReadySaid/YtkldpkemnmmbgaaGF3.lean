/- Printed: functions as the machine runs them. -/
import Derived.Test.YtkldpkemnmmbgaaGT
namespace Go.Proofs.Ytkldpkemnmmbgaa
open Go AM Go.RowKit
set_option linter.unusedVariables false
def kp3 : Nat → Option (List Nat) := kpOf [(0, [3, 4, 5]), (1, [4, 5, 7, 8]), (2, [4, 5, 7, 8]), (3, [4, 5, 7, 8]), (4, [4, 5, 7, 8, 9, 10]), (5, [4, 5, 7, 8, 9, 10, 11, 12]), (6, [4, 5, 7, 8, 9, 11, 61]), (7, [6]), (8, [4, 5, 7, 8, 9, 11, 13]), (9, [4, 5, 7, 8, 9, 11, 13, 69]), (10, [4, 5, 7, 8, 9, 11, 13]), (11, [4, 5, 7, 8, 9, 11, 13]), (12, [4, 5, 7, 8, 9, 11, 83]), (13, [6]), (14, [4, 5, 7, 8, 9, 11, 14, 15]), (15, [5, 7, 8, 9, 11, 14, 15, 95]), (16, [5, 9, 11, 14, 15]), (17, [5, 9, 11, 14, 15, 16]), (18, [5, 9, 11, 14, 15, 16, 103]), (19, [5, 9, 11, 14, 15, 16]), (20, [5, 9, 11, 14, 15, 16, 109]), (21, [5, 9, 11, 14, 15, 16]), (22, [5, 9, 11, 14, 15, 16]), (23, [5, 9, 11, 14, 15, 16, 131]), (24, [6]), (25, [6]), (100000, [4, 5, 7, 8, 9, 11]), (100001, [4, 5, 7, 8, 9, 11, 13]), (100002, [9, 11]), (100003, [5, 9, 11, 14, 15, 16]), (200000, [4, 5, 7, 8, 9, 11, 13]), (200001, [4, 5, 7, 8, 9, 11, 13]), (200002, [5, 9, 11, 14, 15, 16]), (200003, [5, 9, 11, 14, 15, 16]), (300000, [6]), (400061, [4, 5, 7, 8, 9, 11]), (400069, [4, 5, 7, 8, 9, 11, 13]), (400083, [4, 5, 7, 8, 9, 11]), (400095, [5, 9, 11, 14, 15]), (400103, [5, 9, 11, 14, 15, 16]), (400109, [5, 9, 11, 14, 15, 16]), (400131, [5, 9, 11, 14, 15, 16])]
def E3 (a9 : T9) (a10 : T10) (a11 : T11) (a12 : T12) (a13 : T13) (a14 : T14) (a15 : T15) (a16 : T16) : FEnv := [(9, w9 a9), (10, w10 a10), (11, w11 a11), (12, w12 a12), (13, w13 a13), (14, w14 a14), (15, w15 a15), (16, w16 a16)]
theorem E3_good {a9 : T9} {a10 : T10} {a11 : T11} {a12 : T12} {a13 : T13} {a14 : T14} {a15 : T15} {a16 : T16} (oa9 : FunOK Try.prog 9 (w9 a9)) (oa10 : FunOK Try.prog 10 (w10 a10)) (oa11 : FunOK Try.prog 11 (w11 a11)) (oa12 : FunOK Try.prog 12 (w12 a12)) (oa13 : FunOK Try.prog 13 (w13 a13)) (oa14 : FunOK Try.prog 14 (w14 a14)) (oa15 : FunOK Try.prog 15 (w15 a15)) (oa16 : FunOK Try.prog 16 (w16 a16)) (la9 : Lin9 a9) (la10 : Lin10 a10) (la11 : Lin11 a11) (la12 : Lin12 a12) (la13 : Lin13 a13) (la14 : Lin14 a14) (la15 : Lin15 a15) (la16 : Lin16 a16) : EnvGood Try.prog (E3 a9 a10 a11 a12 a13 a14 a15 a16) := (((((((((EnvGood.nil _).cons oa16 (w16_lin la16)).cons oa15 (w15_lin la15)).cons oa14 (w14_lin la14)).cons oa13 (w13_lin la13)).cons oa12 (w12_lin la12)).cons oa11 (w11_lin la11)).cons oa10 (w10_lin la10)).cons oa9 (w9_lin la9))
theorem E3_lin {a9 : T9} {a10 : T10} {a11 : T11} {a12 : T12} {a13 : T13} {a14 : T14} {a15 : T15} {a16 : T16} (la9 : Lin9 a9) (la10 : Lin10 a10) (la11 : Lin11 a11) (la12 : Lin12 a12) (la13 : Lin13 a13) (la14 : Lin14 a14) (la15 : Lin15 a15) (la16 : Lin16 a16) : EnvLin (E3 a9 a10 a11 a12 a13 a14 a15 a16) := by
  intro g F h
  simp only [E3, List.mem_cons, List.not_mem_nil, or_false] at h
  rcases h with h | h | h | h | h | h | h | h
  · cases h; exact w9_lin la9
  · cases h; exact w10_lin la10
  · cases h; exact w11_lin la11
  · cases h; exact w12_lin la12
  · cases h; exact w13_lin la13
  · cases h; exact w14_lin la14
  · cases h; exact w15_lin la15
  · cases h; exact w16_lin la16
noncomputable def b3 : Code := Try.f3.body.getD .skip
noncomputable def c3_0 : Code := (.seq (codeAt [1, 1, 1, 1, 1, 1, 1, 0, 1, 0, 0, 0, 0] b3) (.seq (.cond (.tmp 69) .skip (.exit 0)) (.seq (.block 1 (codeAt [1, 1, 1, 1, 1, 1, 1, 0, 1, 0, 0, 1, 0, 0] b3)) (codeAt [1, 1, 1, 1, 1, 1, 1, 0, 1, 0, 0, 1, 1] b3))))
noncomputable def c3_1 : Code := (.loop c3_0)
noncomputable def c3_2 : Code := (.block 0 c3_1)
noncomputable def c3_3 : Code := (.seq (codeAt [1, 1, 1, 1, 1, 1, 1, 1, 1, 1, 1, 0, 1, 0, 0, 0, 0] b3) (.seq (.cond (.tmp 103) .skip (.exit 2)) (.seq (.block 3 (.seq (codeAt [1, 1, 1, 1, 1, 1, 1, 1, 1, 1, 1, 0, 1, 0, 0, 1, 0, 0, 0, 0] b3) (.seq (.cond (.tmp 109) (codeAt [1, 1, 1, 1, 1, 1, 1, 1, 1, 1, 1, 0, 1, 0, 0, 1, 0, 0, 0, 1, 0] b3) (codeAt [1, 1, 1, 1, 1, 1, 1, 1, 1, 1, 1, 0, 1, 0, 0, 1, 0, 0, 0, 1, 1] b3)) (.seq (codeAt [1, 1, 1, 1, 1, 1, 1, 1, 1, 1, 1, 0, 1, 0, 0, 1, 0, 0, 1, 0] b3) (.cond (.tmp 131) (.seq (codeAt [1, 1, 1, 1, 1, 1, 1, 1, 1, 1, 1, 0, 1, 0, 0, 1, 0, 0, 1, 1, 0, 0] b3) .ret) .skip))))) (codeAt [1, 1, 1, 1, 1, 1, 1, 1, 1, 1, 1, 0, 1, 0, 0, 1, 1] b3))))
noncomputable def c3_4 : Code := (.loop c3_3)
noncomputable def c3_5 : Code := (.block 2 c3_4)
noncomputable def c3_6 : Code := (.seq (codeAt [1, 1, 1, 1, 1, 1, 1, 1, 1, 1, 1, 1, 0] b3) .ret)
noncomputable def c3_7 : Code := (.seq c3_5 c3_6)
noncomputable def c3_8 : Code := (.seq (codeAt [1, 1, 1, 1, 1, 1, 1, 1, 0, 0] b3) (.seq (.cond (.tmp 83) (.seq (codeAt [1, 1, 1, 1, 1, 1, 1, 1, 0, 1, 0, 0] b3) .ret) .skip) (.seq (codeAt [1, 1, 1, 1, 1, 1, 1, 1, 1, 0] b3) (.seq (codeAt [1, 1, 1, 1, 1, 1, 1, 1, 1, 1, 0, 0] b3) (.seq (.cond (.tmp 95) (codeAt [1, 1, 1, 1, 1, 1, 1, 1, 1, 1, 0, 1, 0] b3) .skip) (.seq (codeAt [1, 1, 1, 1, 1, 1, 1, 1, 1, 1, 1, 0, 0] b3) c3_7))))))
noncomputable def c3_9 : Code := (.seq c3_2 c3_8)
noncomputable def c3_10 : Code := (.seq (.cond (.tmp 61) (.seq (codeAt [1, 1, 1, 1, 1, 1, 0, 1, 0, 0] b3) .ret) .skip) (.seq (codeAt [1, 1, 1, 1, 1, 1, 1, 0, 0] b3) c3_9))
noncomputable def c3_11 : Code := (.seq (codeAt [0] b3) (.seq (codeAt [1, 0] b3) (.seq (codeAt [1, 1, 0] b3) (.seq (codeAt [1, 1, 1, 0] b3) (.seq (codeAt [1, 1, 1, 1, 0] b3) (.seq (codeAt [1, 1, 1, 1, 1, 0] b3) (.seq (codeAt [1, 1, 1, 1, 1, 1, 0, 0] b3) c3_10)))))))
noncomputable def g3_p0 (a9 : T9) (a10 : T10) (a11 : T11) (a12 : T12) (a13 : T13) (a14 : T14) (a15 : T15) (a16 : T16) (R : Type) (t0_0 : Int) (t0_1 : Int) (t0_2 : Int) (t0_3 : Int) (t0_4 : Int) (t0_5 : Int) (t0_6 : Int) (t0_7 : Int) (t0_8 : Int) (t0_9 : Int) (t0_10 : Int) (t0_11 : Int) (t0_12 : Int) (t0_13 : Int) (t1_0 : Bool) (t1_1 : Bool) (t2_0 : Int) (t2_1 : Int) (H : Heap) (kN : Nat → Nat → Nat → Nat → Nat → Nat → Nat → Nat → Option (Nat × Nat) → Option (Nat × Nat) → Bool → Heap → Option R) : Option R :=
  alo H (.cells [(V.i .u8 t0_0), (V.i .u8 t0_1), (V.i .u8 t0_2), (V.i .u8 t0_3), (V.i .u8 t0_4), (V.i .u8 t0_5), (V.i .u8 t0_6), (V.i .u8 t0_7), (V.i .u8 t0_8), (V.i .u8 t0_9), (V.i .u8 t0_10), (V.i .u8 t0_11), (V.i .u8 t0_12), (V.i .u8 t0_13)] 24 false) fun i303 h304 =>
  alo h304 (.cells [(V.b t1_0), (V.b t1_1)] 25 false) fun i305 h306 =>
  alo h306 (.cells [(V.i .u8 t2_0), (V.i .u8 t2_1)] 26 false) fun i307 h308 =>
  alo h308 (.cells [(V.i .i64 (0 : Int)), (V.i .i64 (0 : Int)), (V.i .i64 (0 : Int)), (V.i .i64 (0 : Int)), (V.i .i64 (0 : Int)), (V.i .i64 (0 : Int)), (V.i .i64 (0 : Int))] 28 false) fun i309 h310 =>
  alo h310 (.cells [(V.i .i64 (0 : Int)), (V.i .i64 (0 : Int)), (V.i .i64 (0 : Int)), (V.i .i64 (0 : Int)), (V.i .i64 (0 : Int)), (V.i .i64 (0 : Int)), (V.i .i64 (0 : Int))] 28 false) fun i311 h312 =>
  ((h312).ldI .u8 i303 ((0 + 0) + 0)).bind fun x313 =>
  ((h312).ldI .u8 i303 ((0 + 0) + 1)).bind fun x314 =>
  ((h312).ldI .u8 i303 ((0 + 0) + 2)).bind fun x315 =>
  ((h312).ldI .u8 i303 ((0 + 0) + 3)).bind fun x316 =>
  ((h312).ldI .u8 i303 ((0 + 0) + 4)).bind fun x317 =>
  ((h312).ldI .u8 i303 ((0 + 0) + 5)).bind fun x318 =>
  ((h312).ldI .u8 i303 ((0 + 0) + 6)).bind fun x319 =>
  a9 R x313 x314 x315 x316 x317 x318 x319 h312 fun x320 x321 x322 x323 x324 x325 x326 h327 =>
  ((h327).ldI .u8 i303 ((0 + 7) + 0)).bind fun x328 =>
  ((h327).ldI .u8 i303 ((0 + 7) + 1)).bind fun x329 =>
  ((h327).ldI .u8 i303 ((0 + 7) + 2)).bind fun x330 =>
  ((h327).ldI .u8 i303 ((0 + 7) + 3)).bind fun x331 =>
  ((h327).ldI .u8 i303 ((0 + 7) + 4)).bind fun x332 =>
  ((h327).ldI .u8 i303 ((0 + 7) + 5)).bind fun x333 =>
  ((h327).ldI .u8 i303 ((0 + 7) + 6)).bind fun x334 =>
  ((h312).ldI .u8 i303 ((0 + 7) + 0)).bind fun x335 =>
  ((h312).ldI .u8 i303 ((0 + 7) + 1)).bind fun x336 =>
  ((h312).ldI .u8 i303 ((0 + 7) + 2)).bind fun x337 =>
  ((h312).ldI .u8 i303 ((0 + 7) + 3)).bind fun x338 =>
  ((h312).ldI .u8 i303 ((0 + 7) + 4)).bind fun x339 =>
  ((h312).ldI .u8 i303 ((0 + 7) + 5)).bind fun x340 =>
  ((h312).ldI .u8 i303 ((0 + 7) + 6)).bind fun x341 =>
  if V.same (V.agg [(V.i .u8 x328), (V.i .u8 x329), (V.i .u8 x330), (V.i .u8 x331), (V.i .u8 x332), (V.i .u8 x333), (V.i .u8 x334)]) (V.agg [(V.i .u8 x335), (V.i .u8 x336), (V.i .u8 x337), (V.i .u8 x338), (V.i .u8 x339), (V.i .u8 x340), (V.i .u8 x341)]) = true then (
    a9 R x328 x329 x330 x331 x332 x333 x334 h327 fun x342 x343 x344 x345 x346 x347 x348 h349 =>
    ((h349).sts i309 0 [(V.i .i64 x320), (V.i .i64 x321), (V.i .i64 x322), (V.i .i64 x323), (V.i .i64 x324), (V.i .i64 x325), (V.i .i64 x326)]).bind fun h350 =>
    ((h350).sts i311 0 [(V.i .i64 x342), (V.i .i64 x343), (V.i .i64 x344), (V.i .i64 x345), (V.i .i64 x346), (V.i .i64 x347), (V.i .i64 x348)]).bind fun h351 =>
    ((h351).ldI .i64 i309 (0 + 1)).bind fun x352 =>
    ((h351).st i309 (0 + 1) (V.i .i64 (if (2 : Int) > x352 then (2 : Int) else x352))).bind fun h354 =>
    ((h354).ldI .i64 i311 (0 + 1)).bind fun x355 =>
    ((h354).st i311 (0 + 1) (V.i .i64 (if (2 : Int) > x355 then (2 : Int) else x355))).bind fun h357 =>
    ((h357).ldI .i64 i309 (0 + 0)).bind fun x358 =>
    ((h357).ldI .i64 i309 (0 + 1)).bind fun x359 =>
    ((h357).ldI .i64 i309 (0 + 2)).bind fun x360 =>
    ((h357).ldI .i64 i309 (0 + 3)).bind fun x361 =>
    ((h357).ldI .i64 i309 (0 + 4)).bind fun x362 =>
    ((h357).ldI .i64 i309 (0 + 5)).bind fun x363 =>
    ((h357).ldI .i64 i309 (0 + 6)).bind fun x364 =>
    a10 R x358 x359 x360 x361 x362 x363 x364 h357 fun x365 x366 h367 =>
    ((h367).ldI .i64 i311 (0 + 0)).bind fun x368 =>
    ((h367).ldI .i64 i311 (0 + 1)).bind fun x369 =>
    ((h367).ldI .i64 i311 (0 + 2)).bind fun x370 =>
    ((h367).ldI .i64 i311 (0 + 3)).bind fun x371 =>
    ((h367).ldI .i64 i311 (0 + 4)).bind fun x372 =>
    ((h367).ldI .i64 i311 (0 + 5)).bind fun x373 =>
    ((h367).ldI .i64 i311 (0 + 6)).bind fun x374 =>
    a10 R x368 x369 x370 x371 x372 x373 x374 h367 fun x375 x376 h377 =>
    sel (x366 != (0 : Int)) (
      kN i305 0 i307 0 i309 0 i311 0 x365 x375 true h377) (
      sel (x376 != (0 : Int)) (
        kN i305 0 i307 0 i309 0 i311 0 x365 x375 true h377) (
        sel (Option.isNone x365) (
          kN i305 0 i307 0 i309 0 i311 0 x365 x375 true h377) (
          sel (Option.isNone x375) (
            kN i305 0 i307 0 i309 0 i311 0 x365 x375 true h377) (
            ((h377).ldB i305 (0 + 0)).bind fun x378 =>
            a11 R x365 x378 h377 fun x379 h380 =>
            kN i305 0 i307 0 i309 0 i311 0 x365 x375 (x379 != (0 : Int)) h380)))))
  else (
    none)
theorem g3_p0_eq (a9 : T9) (a10 : T10) (a11 : T11) (a12 : T12) (a13 : T13) (a14 : T14) (a15 : T15) (a16 : T16) {R : Type} (c2 : Code) (t0_0 : Int) (t0_1 : Int) (t0_2 : Int) (t0_3 : Int) (t0_4 : Int) (t0_5 : Int) (t0_6 : Int) (t0_7 : Int) (t0_8 : Int) (t0_9 : Int) (t0_10 : Int) (t0_11 : Int) (t0_12 : Int) (t0_13 : Int) (t1_0 : Bool) (t1_1 : Bool) (t2_0 : Int) (t2_1 : Int) (H : Heap) (K : Ex → Fr → Heap → Option R) : ev Try.prog (E3 a9 a10 a11 a12 a13 a14 a15 a16) loopLim Try.f3.ntmps kp3 (.seq (codeAt [0] b3) (.seq (codeAt [1, 0] b3) (.seq (codeAt [1, 1, 0] b3) (.seq (codeAt [1, 1, 1, 0] b3) (.seq (codeAt [1, 1, 1, 1, 0] b3) (.seq (codeAt [1, 1, 1, 1, 1, 0] b3) (.seq (codeAt [1, 1, 1, 1, 1, 1, 0, 0] b3) c2))))))) [(0, (V.agg [(V.i .u8 t0_0), (V.i .u8 t0_1), (V.i .u8 t0_2), (V.i .u8 t0_3), (V.i .u8 t0_4), (V.i .u8 t0_5), (V.i .u8 t0_6), (V.i .u8 t0_7), (V.i .u8 t0_8), (V.i .u8 t0_9), (V.i .u8 t0_10), (V.i .u8 t0_11), (V.i .u8 t0_12), (V.i .u8 t0_13)])), (1, (V.agg [(V.b t1_0), (V.b t1_1)])), (2, (V.agg [(V.i .u8 t2_0), (V.i .u8 t2_1)]))] H K = g3_p0 a9 a10 a11 a12 a13 a14 a15 a16 R t0_0 t0_1 t0_2 t0_3 t0_4 t0_5 t0_6 t0_7 t0_8 t0_9 t0_10 t0_11 t0_12 t0_13 t1_0 t1_1 t2_0 t2_1 H (fun t4_0 t4_1 t5_0 t5_1 t7_0 t7_1 t8_0 t8_1 t9 t11 t61 H => ev Try.prog (E3 a9 a10 a11 a12 a13 a14 a15 a16) loopLim Try.f3.ntmps kp3 c2 [(4, (V.p (some (t4_0, t4_1)))), (5, (V.p (some (t5_0, t5_1)))), (7, (V.p (some (t7_0, t7_1)))), (8, (V.p (some (t8_0, t8_1)))), (9, (V.p t9)), (11, (V.p t11)), (61, (V.b t61))] H K) := by kernel_rfl
theorem g3_p0_lin {a9 : T9} {a10 : T10} {a11 : T11} {a12 : T12} {a13 : T13} {a14 : T14} {a15 : T15} {a16 : T16} (la9 : Lin9 a9) (la10 : Lin10 a10) (la11 : Lin11 a11) (la12 : Lin12 a12) (la13 : Lin13 a13) (la14 : Lin14 a14) (la15 : Lin15 a15) (la16 : Lin16 a16) {R S : Type} {k : S → Option R} {t0_0 : Int} {t0_1 : Int} {t0_2 : Int} {t0_3 : Int} {t0_4 : Int} {t0_5 : Int} {t0_6 : Int} {t0_7 : Int} {t0_8 : Int} {t0_9 : Int} {t0_10 : Int} {t0_11 : Int} {t0_12 : Int} {t0_13 : Int} {t1_0 : Bool} {t1_1 : Bool} {t2_0 : Int} {t2_1 : Int} {H : Heap} {fkN : Nat → Nat → Nat → Nat → Nat → Nat → Nat → Nat → Option (Nat × Nat) → Option (Nat × Nat) → Bool → Heap → Option R} {gkN : Nat → Nat → Nat → Nat → Nat → Nat → Nat → Nat → Option (Nat × Nat) → Option (Nat × Nat) → Bool → Heap → Option S} (hkN : ∀ t4_0 t4_1 t5_0 t5_1 t7_0 t7_1 t8_0 t8_1 t9 t11 t61 H, fkN t4_0 t4_1 t5_0 t5_1 t7_0 t7_1 t8_0 t8_1 t9 t11 t61 H = (gkN t4_0 t4_1 t5_0 t5_1 t7_0 t7_1 t8_0 t8_1 t9 t11 t61 H).bind k) : g3_p0 a9 a10 a11 a12 a13 a14 a15 a16 R t0_0 t0_1 t0_2 t0_3 t0_4 t0_5 t0_6 t0_7 t0_8 t0_9 t0_10 t0_11 t0_12 t0_13 t1_0 t1_1 t2_0 t2_1 H fkN = (g3_p0 a9 a10 a11 a12 a13 a14 a15 a16 S t0_0 t0_1 t0_2 t0_3 t0_4 t0_5 t0_6 t0_7 t0_8 t0_9 t0_10 t0_11 t0_12 t0_13 t1_0 t1_1 t2_0 t2_1 H gkN).bind k := by
  delta g3_p0; exact (
    alo_lin fun i303 h304 =>
    alo_lin fun i305 h306 =>
    alo_lin fun i307 h308 =>
    alo_lin fun i309 h310 =>
    alo_lin fun i311 h312 =>
    bl fun x313 =>
    bl fun x314 =>
    bl fun x315 =>
    bl fun x316 =>
    bl fun x317 =>
    bl fun x318 =>
    bl fun x319 =>
    la9.l fun x320 x321 x322 x323 x324 x325 x326 h327 =>
    bl fun x328 =>
    bl fun x329 =>
    bl fun x330 =>
    bl fun x331 =>
    bl fun x332 =>
    bl fun x333 =>
    bl fun x334 =>
    bl fun x335 =>
    bl fun x336 =>
    bl fun x337 =>
    bl fun x338 =>
    bl fun x339 =>
    bl fun x340 =>
    bl fun x341 =>
    il (
      la9.l fun x342 x343 x344 x345 x346 x347 x348 h349 =>
      bl fun h350 =>
      bl fun h351 =>
      bl fun x352 =>
      bl fun h354 =>
      bl fun x355 =>
      bl fun h357 =>
      bl fun x358 =>
      bl fun x359 =>
      bl fun x360 =>
      bl fun x361 =>
      bl fun x362 =>
      bl fun x363 =>
      bl fun x364 =>
      la10.l fun x365 x366 h367 =>
      bl fun x368 =>
      bl fun x369 =>
      bl fun x370 =>
      bl fun x371 =>
      bl fun x372 =>
      bl fun x373 =>
      bl fun x374 =>
      la10.l fun x375 x376 h377 =>
      sl_lin (
        hkN _ _ _ _ _ _ _ _ _ _ _ _) (
        sl_lin (
          hkN _ _ _ _ _ _ _ _ _ _ _ _) (
          sl_lin (
            hkN _ _ _ _ _ _ _ _ _ _ _ _) (
            sl_lin (
              hkN _ _ _ _ _ _ _ _ _ _ _ _) (
              bl fun x378 =>
              la11.l fun x379 h380 =>
              hkN _ _ _ _ _ _ _ _ _ _ _ _))))) (
      rfl))
noncomputable def g3_p1 (a9 : T9) (a10 : T10) (a11 : T11) (a12 : T12) (a13 : T13) (a14 : T14) (a15 : T15) (a16 : T16) (R : Type) (t4_0 : Nat) (t4_1 : Nat) (t5_0 : Nat) (t5_1 : Nat) (t7_0 : Nat) (t7_1 : Nat) (t8_0 : Nat) (t8_1 : Nat) (t9 : Option (Nat × Nat)) (t11 : Option (Nat × Nat)) (t61 : Bool) (H : Heap) (kN : Nat → Nat → Nat → Nat → Nat → Nat → Nat → Nat → Option (Nat × Nat) → Option (Nat × Nat) → Int → Heap → Option R) (kR : Bool → Heap → Option R) : Option R :=
  sel t61 (
    kR false H) (
    kN t4_0 t4_1 t5_0 t5_1 t7_0 t7_1 t8_0 t8_1 t9 t11 (0 : Int) H)
theorem g3_p1_eq (a9 : T9) (a10 : T10) (a11 : T11) (a12 : T12) (a13 : T13) (a14 : T14) (a15 : T15) (a16 : T16) {R : Type} (c2 : Code) (t4_0 : Nat) (t4_1 : Nat) (t5_0 : Nat) (t5_1 : Nat) (t7_0 : Nat) (t7_1 : Nat) (t8_0 : Nat) (t8_1 : Nat) (t9 : Option (Nat × Nat)) (t11 : Option (Nat × Nat)) (t61 : Bool) (H : Heap) (K : Ex → Fr → Heap → Option R) : ev Try.prog (E3 a9 a10 a11 a12 a13 a14 a15 a16) loopLim Try.f3.ntmps kp3 (.seq (.cond (.tmp 61) (.seq (codeAt [1, 1, 1, 1, 1, 1, 0, 1, 0, 0] b3) .ret) .skip) (.seq (codeAt [1, 1, 1, 1, 1, 1, 1, 0, 0] b3) c2)) [(4, (V.p (some (t4_0, t4_1)))), (5, (V.p (some (t5_0, t5_1)))), (7, (V.p (some (t7_0, t7_1)))), (8, (V.p (some (t8_0, t8_1)))), (9, (V.p t9)), (11, (V.p t11)), (61, (V.b t61))] H K = g3_p1 a9 a10 a11 a12 a13 a14 a15 a16 R t4_0 t4_1 t5_0 t5_1 t7_0 t7_1 t8_0 t8_1 t9 t11 t61 H (fun t4_0 t4_1 t5_0 t5_1 t7_0 t7_1 t8_0 t8_1 t9 t11 t13 H => ev Try.prog (E3 a9 a10 a11 a12 a13 a14 a15 a16) loopLim Try.f3.ntmps kp3 c2 [(4, (V.p (some (t4_0, t4_1)))), (5, (V.p (some (t5_0, t5_1)))), (7, (V.p (some (t7_0, t7_1)))), (8, (V.p (some (t8_0, t8_1)))), (9, (V.p t9)), (11, (V.p t11)), (13, (V.i .i64 t13))] H K) (fun t6 H => K .ret [(6, (V.b t6))] H) := by kernel_rfl
theorem g3_p1_lin {a9 : T9} {a10 : T10} {a11 : T11} {a12 : T12} {a13 : T13} {a14 : T14} {a15 : T15} {a16 : T16} (la9 : Lin9 a9) (la10 : Lin10 a10) (la11 : Lin11 a11) (la12 : Lin12 a12) (la13 : Lin13 a13) (la14 : Lin14 a14) (la15 : Lin15 a15) (la16 : Lin16 a16) {R S : Type} {k : S → Option R} {t4_0 : Nat} {t4_1 : Nat} {t5_0 : Nat} {t5_1 : Nat} {t7_0 : Nat} {t7_1 : Nat} {t8_0 : Nat} {t8_1 : Nat} {t9 : Option (Nat × Nat)} {t11 : Option (Nat × Nat)} {t61 : Bool} {H : Heap} {fkN : Nat → Nat → Nat → Nat → Nat → Nat → Nat → Nat → Option (Nat × Nat) → Option (Nat × Nat) → Int → Heap → Option R} {gkN : Nat → Nat → Nat → Nat → Nat → Nat → Nat → Nat → Option (Nat × Nat) → Option (Nat × Nat) → Int → Heap → Option S} {fkR : Bool → Heap → Option R} {gkR : Bool → Heap → Option S} (hkN : ∀ t4_0 t4_1 t5_0 t5_1 t7_0 t7_1 t8_0 t8_1 t9 t11 t13 H, fkN t4_0 t4_1 t5_0 t5_1 t7_0 t7_1 t8_0 t8_1 t9 t11 t13 H = (gkN t4_0 t4_1 t5_0 t5_1 t7_0 t7_1 t8_0 t8_1 t9 t11 t13 H).bind k) (hkR : ∀ t6 H, fkR t6 H = (gkR t6 H).bind k) : g3_p1 a9 a10 a11 a12 a13 a14 a15 a16 R t4_0 t4_1 t5_0 t5_1 t7_0 t7_1 t8_0 t8_1 t9 t11 t61 H fkN fkR = (g3_p1 a9 a10 a11 a12 a13 a14 a15 a16 S t4_0 t4_1 t5_0 t5_1 t7_0 t7_1 t8_0 t8_1 t9 t11 t61 H gkN gkR).bind k := by
  delta g3_p1; exact (
    sl_lin (
      hkR _ _) (
      hkN _ _ _ _ _ _ _ _ _ _ _ _))
noncomputable def g3_p2 (a9 : T9) (a10 : T10) (a11 : T11) (a12 : T12) (a13 : T13) (a14 : T14) (a15 : T15) (a16 : T16) (R : Type) (t4_0 : Nat) (t4_1 : Nat) (t5_0 : Nat) (t5_1 : Nat) (t7_0 : Nat) (t7_1 : Nat) (t8_0 : Nat) (t8_1 : Nat) (t9 : Option (Nat × Nat)) (t11 : Option (Nat × Nat)) (t13 : Int) (H : Heap) (kN : Nat → Nat → Nat → Nat → Nat → Nat → Nat → Nat → Option (Nat × Nat) → Option (Nat × Nat) → Int → Heap → Option R) (kE0 : Nat → Nat → Nat → Nat → Nat → Nat → Nat → Nat → Option (Nat × Nat) → Option (Nat × Nat) → Heap → Option R) : Option R :=
  ((H).ldI .u8 t5_0 (t5_1 + 0)).bind fun x381 =>
  ((H).ldI .i64 t7_0 (t7_1 + 0)).bind fun x382 =>
  if x382 = 0 then (
    none)
  else (
    sel (decide (t13 < (Int.tmod (IntKind.wrap .i64 x381) x382))) (
      a12 R t9 H fun x383 h384 =>
      kN t4_0 t4_1 t5_0 t5_1 t7_0 t7_1 t8_0 t8_1 t9 t11 (IntKind.wrap .i64 (t13 + (1 : Int))) h384) (
      kE0 t4_0 t4_1 t5_0 t5_1 t7_0 t7_1 t8_0 t8_1 t9 t11 H))
theorem g3_p2_eq (a9 : T9) (a10 : T10) (a11 : T11) (a12 : T12) (a13 : T13) (a14 : T14) (a15 : T15) (a16 : T16) (la9 : Lin9 a9) (la10 : Lin10 a10) (la11 : Lin11 a11) (la12 : Lin12 a12) (la13 : Lin13 a13) (la14 : Lin14 a14) (la15 : Lin15 a15) (la16 : Lin16 a16) {R : Type} (t4_0 : Nat) (t4_1 : Nat) (t5_0 : Nat) (t5_1 : Nat) (t7_0 : Nat) (t7_1 : Nat) (t8_0 : Nat) (t8_1 : Nat) (t9 : Option (Nat × Nat)) (t11 : Option (Nat × Nat)) (t13 : Int) (H : Heap) (K : Ex → Fr → Heap → Option R) : ev Try.prog (E3 a9 a10 a11 a12 a13 a14 a15 a16) loopLim Try.f3.ntmps kp3 c3_0 [(4, (V.p (some (t4_0, t4_1)))), (5, (V.p (some (t5_0, t5_1)))), (7, (V.p (some (t7_0, t7_1)))), (8, (V.p (some (t8_0, t8_1)))), (9, (V.p t9)), (11, (V.p t11)), (13, (V.i .i64 t13))] H K = g3_p2 a9 a10 a11 a12 a13 a14 a15 a16 R t4_0 t4_1 t5_0 t5_1 t7_0 t7_1 t8_0 t8_1 t9 t11 t13 H (fun t4_0 t4_1 t5_0 t5_1 t7_0 t7_1 t8_0 t8_1 t9 t11 t13 H => K .normal [(4, (V.p (some (t4_0, t4_1)))), (5, (V.p (some (t5_0, t5_1)))), (7, (V.p (some (t7_0, t7_1)))), (8, (V.p (some (t8_0, t8_1)))), (9, (V.p t9)), (11, (V.p t11)), (13, (V.i .i64 t13))] H) (fun t4_0 t4_1 t5_0 t5_1 t7_0 t7_1 t8_0 t8_1 t9 t11 H => K (.exit 0) [(4, (V.p (some (t4_0, t4_1)))), (5, (V.p (some (t5_0, t5_1)))), (7, (V.p (some (t7_0, t7_1)))), (8, (V.p (some (t8_0, t8_1)))), (9, (V.p t9)), (11, (V.p t11))] H) := by kernel_rfl
theorem g3_p2_lin {a9 : T9} {a10 : T10} {a11 : T11} {a12 : T12} {a13 : T13} {a14 : T14} {a15 : T15} {a16 : T16} (la9 : Lin9 a9) (la10 : Lin10 a10) (la11 : Lin11 a11) (la12 : Lin12 a12) (la13 : Lin13 a13) (la14 : Lin14 a14) (la15 : Lin15 a15) (la16 : Lin16 a16) {R S : Type} {k : S → Option R} {t4_0 : Nat} {t4_1 : Nat} {t5_0 : Nat} {t5_1 : Nat} {t7_0 : Nat} {t7_1 : Nat} {t8_0 : Nat} {t8_1 : Nat} {t9 : Option (Nat × Nat)} {t11 : Option (Nat × Nat)} {t13 : Int} {H : Heap} {fkN : Nat → Nat → Nat → Nat → Nat → Nat → Nat → Nat → Option (Nat × Nat) → Option (Nat × Nat) → Int → Heap → Option R} {gkN : Nat → Nat → Nat → Nat → Nat → Nat → Nat → Nat → Option (Nat × Nat) → Option (Nat × Nat) → Int → Heap → Option S} {fkE0 : Nat → Nat → Nat → Nat → Nat → Nat → Nat → Nat → Option (Nat × Nat) → Option (Nat × Nat) → Heap → Option R} {gkE0 : Nat → Nat → Nat → Nat → Nat → Nat → Nat → Nat → Option (Nat × Nat) → Option (Nat × Nat) → Heap → Option S} (hkN : ∀ t4_0 t4_1 t5_0 t5_1 t7_0 t7_1 t8_0 t8_1 t9 t11 t13 H, fkN t4_0 t4_1 t5_0 t5_1 t7_0 t7_1 t8_0 t8_1 t9 t11 t13 H = (gkN t4_0 t4_1 t5_0 t5_1 t7_0 t7_1 t8_0 t8_1 t9 t11 t13 H).bind k) (hkE0 : ∀ t4_0 t4_1 t5_0 t5_1 t7_0 t7_1 t8_0 t8_1 t9 t11 H, fkE0 t4_0 t4_1 t5_0 t5_1 t7_0 t7_1 t8_0 t8_1 t9 t11 H = (gkE0 t4_0 t4_1 t5_0 t5_1 t7_0 t7_1 t8_0 t8_1 t9 t11 H).bind k) : g3_p2 a9 a10 a11 a12 a13 a14 a15 a16 R t4_0 t4_1 t5_0 t5_1 t7_0 t7_1 t8_0 t8_1 t9 t11 t13 H fkN fkE0 = (g3_p2 a9 a10 a11 a12 a13 a14 a15 a16 S t4_0 t4_1 t5_0 t5_1 t7_0 t7_1 t8_0 t8_1 t9 t11 t13 H gkN gkE0).bind k := by
  delta g3_p2; exact (
    bl fun x381 =>
    bl fun x382 =>
    il (
      rfl) (
      sl_lin (
        la12.l fun x383 h384 =>
        hkN _ _ _ _ _ _ _ _ _ _ _ _) (
        hkE0 _ _ _ _ _ _ _ _ _ _ _)))
abbrev g3_p3_S := Nat × Nat × Nat × Nat × Nat × Nat × Nat × Nat × (Option (Nat × Nat)) × (Option (Nat × Nat)) × Int
abbrev g3_p3_O := Nat × Nat × Nat × Nat × Nat × Nat × Nat × Nat × (Option (Nat × Nat)) × (Option (Nat × Nat))
def g3_p3_es (s : g3_p3_S) : Fr := [(4, (V.p (some (s.1, s.2.1)))), (5, (V.p (some (s.2.2.1, s.2.2.2.1)))), (7, (V.p (some (s.2.2.2.2.1, s.2.2.2.2.2.1)))), (8, (V.p (some (s.2.2.2.2.2.2.1, s.2.2.2.2.2.2.2.1)))), (9, (V.p s.2.2.2.2.2.2.2.2.1)), (11, (V.p s.2.2.2.2.2.2.2.2.2.1)), (13, (V.i .i64 s.2.2.2.2.2.2.2.2.2.2))]
def g3_p3_er (r : g3_p3_O) : Ex × Fr := ((.exit 0), [(4, (V.p (some (r.1, r.2.1)))), (5, (V.p (some (r.2.2.1, r.2.2.2.1)))), (7, (V.p (some (r.2.2.2.2.1, r.2.2.2.2.2.1)))), (8, (V.p (some (r.2.2.2.2.2.2.1, r.2.2.2.2.2.2.2.1)))), (9, (V.p r.2.2.2.2.2.2.2.2.1)), (11, (V.p r.2.2.2.2.2.2.2.2.2))])
noncomputable def g3_p3_b (a9 : T9) (a10 : T10) (a11 : T11) (a12 : T12) (a13 : T13) (a14 : T14) (a15 : T15) (a16 : T16) (s : g3_p3_S) (H : Heap) : Option (Rd g3_p3_S g3_p3_O × Heap) :=
  g3_p2 a9 a10 a11 a12 a13 a14 a15 a16 _ s.1 s.2.1 s.2.2.1 s.2.2.2.1 s.2.2.2.2.1 s.2.2.2.2.2.1 s.2.2.2.2.2.2.1 s.2.2.2.2.2.2.2.1 s.2.2.2.2.2.2.2.2.1 s.2.2.2.2.2.2.2.2.2.1 s.2.2.2.2.2.2.2.2.2.2 H (fun t4_0 t4_1 t5_0 t5_1 t7_0 t7_1 t8_0 t8_1 t9 t11 t13 H => some (.go (t4_0, t4_1, t5_0, t5_1, t7_0, t7_1, t8_0, t8_1, t9, t11, t13), H)) (fun t4_0 t4_1 t5_0 t5_1 t7_0 t7_1 t8_0 t8_1 t9 t11 H => some (.up (t4_0, t4_1, t5_0, t5_1, t7_0, t7_1, t8_0, t8_1, t9, t11), H))
noncomputable def g3_p3 (a9 : T9) (a10 : T10) (a11 : T11) (a12 : T12) (a13 : T13) (a14 : T14) (a15 : T15) (a16 : T16) (R : Type) (t4_0 : Nat) (t4_1 : Nat) (t5_0 : Nat) (t5_1 : Nat) (t7_0 : Nat) (t7_1 : Nat) (t8_0 : Nat) (t8_1 : Nat) (t9 : Option (Nat × Nat)) (t11 : Option (Nat × Nat)) (t13 : Int) (H : Heap) (kE0 : Nat → Nat → Nat → Nat → Nat → Nat → Nat → Nat → Option (Nat × Nat) → Option (Nat × Nat) → Heap → Option R) : Option R :=
  (tlim (g3_p3_b a9 a10 a11 a12 a13 a14 a15 a16) (t4_0, t4_1, t5_0, t5_1, t7_0, t7_1, t8_0, t8_1, t9, t11, t13) H).bind fun p => kE0 p.1.1 p.1.2.1 p.1.2.2.1 p.1.2.2.2.1 p.1.2.2.2.2.1 p.1.2.2.2.2.2.1 p.1.2.2.2.2.2.2.1 p.1.2.2.2.2.2.2.2.1 p.1.2.2.2.2.2.2.2.2.1 p.1.2.2.2.2.2.2.2.2.2 p.2
theorem g3_p3_lin {a9 : T9} {a10 : T10} {a11 : T11} {a12 : T12} {a13 : T13} {a14 : T14} {a15 : T15} {a16 : T16} (la9 : Lin9 a9) (la10 : Lin10 a10) (la11 : Lin11 a11) (la12 : Lin12 a12) (la13 : Lin13 a13) (la14 : Lin14 a14) (la15 : Lin15 a15) (la16 : Lin16 a16) {R S : Type} {k : S → Option R} {t4_0 : Nat} {t4_1 : Nat} {t5_0 : Nat} {t5_1 : Nat} {t7_0 : Nat} {t7_1 : Nat} {t8_0 : Nat} {t8_1 : Nat} {t9 : Option (Nat × Nat)} {t11 : Option (Nat × Nat)} {t13 : Int} {H : Heap} {fkE0 : Nat → Nat → Nat → Nat → Nat → Nat → Nat → Nat → Option (Nat × Nat) → Option (Nat × Nat) → Heap → Option R} {gkE0 : Nat → Nat → Nat → Nat → Nat → Nat → Nat → Nat → Option (Nat × Nat) → Option (Nat × Nat) → Heap → Option S} (hkE0 : ∀ t4_0 t4_1 t5_0 t5_1 t7_0 t7_1 t8_0 t8_1 t9 t11 H, fkE0 t4_0 t4_1 t5_0 t5_1 t7_0 t7_1 t8_0 t8_1 t9 t11 H = (gkE0 t4_0 t4_1 t5_0 t5_1 t7_0 t7_1 t8_0 t8_1 t9 t11 H).bind k) : g3_p3 a9 a10 a11 a12 a13 a14 a15 a16 R t4_0 t4_1 t5_0 t5_1 t7_0 t7_1 t8_0 t8_1 t9 t11 t13 H fkE0 = (g3_p3 a9 a10 a11 a12 a13 a14 a15 a16 S t4_0 t4_1 t5_0 t5_1 t7_0 t7_1 t8_0 t8_1 t9 t11 t13 H gkE0).bind k := by
  exact bl fun p => hkE0 _ _ _ _ _ _ _ _ _ _ _
theorem g3_p3_eq (a9 : T9) (a10 : T10) (a11 : T11) (a12 : T12) (a13 : T13) (a14 : T14) (a15 : T15) (a16 : T16) (la9 : Lin9 a9) (la10 : Lin10 a10) (la11 : Lin11 a11) (la12 : Lin12 a12) (la13 : Lin13 a13) (la14 : Lin14 a14) (la15 : Lin15 a15) (la16 : Lin16 a16) {R : Type} (t4_0 : Nat) (t4_1 : Nat) (t5_0 : Nat) (t5_1 : Nat) (t7_0 : Nat) (t7_1 : Nat) (t8_0 : Nat) (t8_1 : Nat) (t9 : Option (Nat × Nat)) (t11 : Option (Nat × Nat)) (t13 : Int) (H : Heap) (K : Ex → Fr → Heap → Option R) : ev Try.prog (E3 a9 a10 a11 a12 a13 a14 a15 a16) loopLim Try.f3.ntmps kp3 c3_1 [(4, (V.p (some (t4_0, t4_1)))), (5, (V.p (some (t5_0, t5_1)))), (7, (V.p (some (t7_0, t7_1)))), (8, (V.p (some (t8_0, t8_1)))), (9, (V.p t9)), (11, (V.p t11)), (13, (V.i .i64 t13))] H K = g3_p3 a9 a10 a11 a12 a13 a14 a15 a16 R t4_0 t4_1 t5_0 t5_1 t7_0 t7_1 t8_0 t8_1 t9 t11 t13 H (fun t4_0 t4_1 t5_0 t5_1 t7_0 t7_1 t8_0 t8_1 t9 t11 H => K (.exit 0) [(4, (V.p (some (t4_0, t4_1)))), (5, (V.p (some (t5_0, t5_1)))), (7, (V.p (some (t7_0, t7_1)))), (8, (V.p (some (t8_0, t8_1)))), (9, (V.p t9)), (11, (V.p t11))] H) := by
  show ev Try.prog (E3 a9 a10 a11 a12 a13 a14 a15 a16) loopLim Try.f3.ntmps kp3 (.loop c3_0) [(4, (V.p (some (t4_0, t4_1)))), (5, (V.p (some (t5_0, t5_1)))), (7, (V.p (some (t7_0, t7_1)))), (8, (V.p (some (t8_0, t8_1)))), (9, (V.p t9)), (11, (V.p t11)), (13, (V.i .i64 t13))] H K = _
  delta g3_p3
  refine (ev_tlim (b := g3_p3_b a9 a10 a11 a12 a13 a14 a15 a16) (es := g3_p3_es) (er := g3_p3_er) (by intro r; exact nofun) (fun s H => ?_) (t4_0, t4_1, t5_0, t5_1, t7_0, t7_1, t8_0, t8_1, t9, t11, t13) H K).trans (bc fun p => rfl)
  exact (g3_p2_eq a9 a10 a11 a12 a13 a14 a15 a16 la9 la10 la11 la12 la13 la14 la15 la16 s.1 s.2.1 s.2.2.1 s.2.2.2.1 s.2.2.2.2.1 s.2.2.2.2.2.1 s.2.2.2.2.2.2.1 s.2.2.2.2.2.2.2.1 s.2.2.2.2.2.2.2.2.1 s.2.2.2.2.2.2.2.2.2.1 s.2.2.2.2.2.2.2.2.2.2 H ret3).trans (g3_p2_lin la9 la10 la11 la12 la13 la14 la15 la16 (fun _ _ _ _ _ _ _ _ _ _ _ _ => rfl) (fun _ _ _ _ _ _ _ _ _ _ _ => rfl))
noncomputable def g3_p4 (a9 : T9) (a10 : T10) (a11 : T11) (a12 : T12) (a13 : T13) (a14 : T14) (a15 : T15) (a16 : T16) (R : Type) (t4_0 : Nat) (t4_1 : Nat) (t5_0 : Nat) (t5_1 : Nat) (t7_0 : Nat) (t7_1 : Nat) (t8_0 : Nat) (t8_1 : Nat) (t9 : Option (Nat × Nat)) (t11 : Option (Nat × Nat)) (t13 : Int) (H : Heap) (kN : Nat → Nat → Nat → Nat → Nat → Nat → Nat → Nat → Option (Nat × Nat) → Option (Nat × Nat) → Heap → Option R) : Option R :=
  g3_p3 a9 a10 a11 a12 a13 a14 a15 a16 R t4_0 t4_1 t5_0 t5_1 t7_0 t7_1 t8_0 t8_1 t9 t11 t13 H (fun t4_0 t4_1 t5_0 t5_1 t7_0 t7_1 t8_0 t8_1 t9 t11 H => kN t4_0 t4_1 t5_0 t5_1 t7_0 t7_1 t8_0 t8_1 t9 t11 H)
theorem g3_p4_lin {a9 : T9} {a10 : T10} {a11 : T11} {a12 : T12} {a13 : T13} {a14 : T14} {a15 : T15} {a16 : T16} (la9 : Lin9 a9) (la10 : Lin10 a10) (la11 : Lin11 a11) (la12 : Lin12 a12) (la13 : Lin13 a13) (la14 : Lin14 a14) (la15 : Lin15 a15) (la16 : Lin16 a16) {R S : Type} {k : S → Option R} {t4_0 : Nat} {t4_1 : Nat} {t5_0 : Nat} {t5_1 : Nat} {t7_0 : Nat} {t7_1 : Nat} {t8_0 : Nat} {t8_1 : Nat} {t9 : Option (Nat × Nat)} {t11 : Option (Nat × Nat)} {t13 : Int} {H : Heap} {fkN : Nat → Nat → Nat → Nat → Nat → Nat → Nat → Nat → Option (Nat × Nat) → Option (Nat × Nat) → Heap → Option R} {gkN : Nat → Nat → Nat → Nat → Nat → Nat → Nat → Nat → Option (Nat × Nat) → Option (Nat × Nat) → Heap → Option S} (hkN : ∀ t4_0 t4_1 t5_0 t5_1 t7_0 t7_1 t8_0 t8_1 t9 t11 H, fkN t4_0 t4_1 t5_0 t5_1 t7_0 t7_1 t8_0 t8_1 t9 t11 H = (gkN t4_0 t4_1 t5_0 t5_1 t7_0 t7_1 t8_0 t8_1 t9 t11 H).bind k) : g3_p4 a9 a10 a11 a12 a13 a14 a15 a16 R t4_0 t4_1 t5_0 t5_1 t7_0 t7_1 t8_0 t8_1 t9 t11 t13 H fkN = (g3_p4 a9 a10 a11 a12 a13 a14 a15 a16 S t4_0 t4_1 t5_0 t5_1 t7_0 t7_1 t8_0 t8_1 t9 t11 t13 H gkN).bind k := by
  exact g3_p3_lin la9 la10 la11 la12 la13 la14 la15 la16 (fun _ _ _ _ _ _ _ _ _ _ _ => hkN _ _ _ _ _ _ _ _ _ _ _)
theorem g3_p4_eq (a9 : T9) (a10 : T10) (a11 : T11) (a12 : T12) (a13 : T13) (a14 : T14) (a15 : T15) (a16 : T16) (la9 : Lin9 a9) (la10 : Lin10 a10) (la11 : Lin11 a11) (la12 : Lin12 a12) (la13 : Lin13 a13) (la14 : Lin14 a14) (la15 : Lin15 a15) (la16 : Lin16 a16) {R : Type} (t4_0 : Nat) (t4_1 : Nat) (t5_0 : Nat) (t5_1 : Nat) (t7_0 : Nat) (t7_1 : Nat) (t8_0 : Nat) (t8_1 : Nat) (t9 : Option (Nat × Nat)) (t11 : Option (Nat × Nat)) (t13 : Int) (H : Heap) (K : Ex → Fr → Heap → Option R) : ev Try.prog (E3 a9 a10 a11 a12 a13 a14 a15 a16) loopLim Try.f3.ntmps kp3 c3_2 [(4, (V.p (some (t4_0, t4_1)))), (5, (V.p (some (t5_0, t5_1)))), (7, (V.p (some (t7_0, t7_1)))), (8, (V.p (some (t8_0, t8_1)))), (9, (V.p t9)), (11, (V.p t11)), (13, (V.i .i64 t13))] H K = g3_p4 a9 a10 a11 a12 a13 a14 a15 a16 R t4_0 t4_1 t5_0 t5_1 t7_0 t7_1 t8_0 t8_1 t9 t11 t13 H (fun t4_0 t4_1 t5_0 t5_1 t7_0 t7_1 t8_0 t8_1 t9 t11 H => K .normal [(4, (V.p (some (t4_0, t4_1)))), (5, (V.p (some (t5_0, t5_1)))), (7, (V.p (some (t7_0, t7_1)))), (8, (V.p (some (t8_0, t8_1)))), (9, (V.p t9)), (11, (V.p t11))] H) := by
  show ev Try.prog (E3 a9 a10 a11 a12 a13 a14 a15 a16) loopLim Try.f3.ntmps kp3 (.block 0 c3_1) [(4, (V.p (some (t4_0, t4_1)))), (5, (V.p (some (t5_0, t5_1)))), (7, (V.p (some (t7_0, t7_1)))), (8, (V.p (some (t8_0, t8_1)))), (9, (V.p t9)), (11, (V.p t11)), (13, (V.i .i64 t13))] H K = _
  rw [ev_block]
  delta g3_p4
  exact (g3_p3_eq a9 a10 a11 a12 a13 a14 a15 a16 la9 la10 la11 la12 la13 la14 la15 la16 t4_0 t4_1 t5_0 t5_1 t7_0 t7_1 t8_0 t8_1 t9 t11 t13 H (kBlock kp3 0 K))
noncomputable def g3_p5 (a9 : T9) (a10 : T10) (a11 : T11) (a12 : T12) (a13 : T13) (a14 : T14) (a15 : T15) (a16 : T16) (R : Type) (t4_0 : Nat) (t4_1 : Nat) (t5_0 : Nat) (t5_1 : Nat) (t7_0 : Nat) (t7_1 : Nat) (t8_0 : Nat) (t8_1 : Nat) (t9 : Option (Nat × Nat)) (t11 : Option (Nat × Nat)) (H : Heap) (kN : Nat → Nat → Option (Nat × Nat) → Option (Nat × Nat) → Int → Int → Int → Heap → Option R) (kR : Bool → Heap → Option R) : Option R :=
  a13 R t9 H fun x424 h425 =>
  sel (x424 != (1 : Int)) (
    kR false h425) (
    ((h425).ldB t4_0 (t4_1 + 1)).bind fun x426 =>
    a11 R t11 x426 h425 fun x427 h428 =>
    sel (x427 != (0 : Int)) (
      kR false h428) (
      ((h428).ldI .i64 t7_0 (t7_1 + 2)).bind fun x429 =>
      ((h428).ldI .i64 t8_0 (t8_1 + 2)).bind fun x430 =>
      ((h428).ldB t4_0 (t4_1 + 0)).bind fun x431 =>
      sel x431 (
        ((h428).ldI .i64 t7_0 (t7_1 + 3)).bind fun x432 =>
        ((h428).ldI .i64 t8_0 (t8_1 + 3)).bind fun x433 =>
        kN t5_0 t5_1 t9 t11 (IntKind.wrap .i64 (x432 + (1 : Int))) (IntKind.wrap .i64 (x433 + (1 : Int))) (1 : Int) h428) (
        ((h428).ldB t4_0 (t4_1 + 1)).bind fun x434 =>
        sel x434 (
          ((h428).ldI .i64 t7_0 (t7_1 + 3)).bind fun x435 =>
          ((h428).ldI .i64 t8_0 (t8_1 + 3)).bind fun x436 =>
          kN t5_0 t5_1 t9 t11 (IntKind.wrap .i64 (x435 + (1 : Int))) (IntKind.wrap .i64 (x436 + (1 : Int))) (1 : Int) h428) (
          kN t5_0 t5_1 t9 t11 (IntKind.wrap .i64 (x429 + (1 : Int))) (IntKind.wrap .i64 (x430 + (1 : Int))) (1 : Int) h428))))
theorem g3_p5_eq (a9 : T9) (a10 : T10) (a11 : T11) (a12 : T12) (a13 : T13) (a14 : T14) (a15 : T15) (a16 : T16) {R : Type} (c2 : Code) (t4_0 : Nat) (t4_1 : Nat) (t5_0 : Nat) (t5_1 : Nat) (t7_0 : Nat) (t7_1 : Nat) (t8_0 : Nat) (t8_1 : Nat) (t9 : Option (Nat × Nat)) (t11 : Option (Nat × Nat)) (H : Heap) (K : Ex → Fr → Heap → Option R) : ev Try.prog (E3 a9 a10 a11 a12 a13 a14 a15 a16) loopLim Try.f3.ntmps kp3 (.seq (codeAt [1, 1, 1, 1, 1, 1, 1, 1, 0, 0] b3) (.seq (.cond (.tmp 83) (.seq (codeAt [1, 1, 1, 1, 1, 1, 1, 1, 0, 1, 0, 0] b3) .ret) .skip) (.seq (codeAt [1, 1, 1, 1, 1, 1, 1, 1, 1, 0] b3) (.seq (codeAt [1, 1, 1, 1, 1, 1, 1, 1, 1, 1, 0, 0] b3) (.seq (.cond (.tmp 95) (codeAt [1, 1, 1, 1, 1, 1, 1, 1, 1, 1, 0, 1, 0] b3) .skip) (.seq (codeAt [1, 1, 1, 1, 1, 1, 1, 1, 1, 1, 1, 0, 0] b3) c2)))))) [(4, (V.p (some (t4_0, t4_1)))), (5, (V.p (some (t5_0, t5_1)))), (7, (V.p (some (t7_0, t7_1)))), (8, (V.p (some (t8_0, t8_1)))), (9, (V.p t9)), (11, (V.p t11))] H K = g3_p5 a9 a10 a11 a12 a13 a14 a15 a16 R t4_0 t4_1 t5_0 t5_1 t7_0 t7_1 t8_0 t8_1 t9 t11 H (fun t5_0 t5_1 t9 t11 t14 t15 t16 H => ev Try.prog (E3 a9 a10 a11 a12 a13 a14 a15 a16) loopLim Try.f3.ntmps kp3 c2 [(5, (V.p (some (t5_0, t5_1)))), (9, (V.p t9)), (11, (V.p t11)), (14, (V.i .i64 t14)), (15, (V.i .i64 t15)), (16, (V.i .i64 t16))] H K) (fun t6 H => K .ret [(6, (V.b t6))] H) := by kernel_rfl
theorem g3_p5_lin {a9 : T9} {a10 : T10} {a11 : T11} {a12 : T12} {a13 : T13} {a14 : T14} {a15 : T15} {a16 : T16} (la9 : Lin9 a9) (la10 : Lin10 a10) (la11 : Lin11 a11) (la12 : Lin12 a12) (la13 : Lin13 a13) (la14 : Lin14 a14) (la15 : Lin15 a15) (la16 : Lin16 a16) {R S : Type} {k : S → Option R} {t4_0 : Nat} {t4_1 : Nat} {t5_0 : Nat} {t5_1 : Nat} {t7_0 : Nat} {t7_1 : Nat} {t8_0 : Nat} {t8_1 : Nat} {t9 : Option (Nat × Nat)} {t11 : Option (Nat × Nat)} {H : Heap} {fkN : Nat → Nat → Option (Nat × Nat) → Option (Nat × Nat) → Int → Int → Int → Heap → Option R} {gkN : Nat → Nat → Option (Nat × Nat) → Option (Nat × Nat) → Int → Int → Int → Heap → Option S} {fkR : Bool → Heap → Option R} {gkR : Bool → Heap → Option S} (hkN : ∀ t5_0 t5_1 t9 t11 t14 t15 t16 H, fkN t5_0 t5_1 t9 t11 t14 t15 t16 H = (gkN t5_0 t5_1 t9 t11 t14 t15 t16 H).bind k) (hkR : ∀ t6 H, fkR t6 H = (gkR t6 H).bind k) : g3_p5 a9 a10 a11 a12 a13 a14 a15 a16 R t4_0 t4_1 t5_0 t5_1 t7_0 t7_1 t8_0 t8_1 t9 t11 H fkN fkR = (g3_p5 a9 a10 a11 a12 a13 a14 a15 a16 S t4_0 t4_1 t5_0 t5_1 t7_0 t7_1 t8_0 t8_1 t9 t11 H gkN gkR).bind k := by
  delta g3_p5; exact (
    la13.l fun x424 h425 =>
    sl_lin (
      hkR _ _) (
      bl fun x426 =>
      la11.l fun x427 h428 =>
      sl_lin (
        hkR _ _) (
        bl fun x429 =>
        bl fun x430 =>
        bl fun x431 =>
        sl_lin (
          bl fun x432 =>
          bl fun x433 =>
          hkN _ _ _ _ _ _ _ _) (
          bl fun x434 =>
          sl_lin (
            bl fun x435 =>
            bl fun x436 =>
            hkN _ _ _ _ _ _ _ _) (
            hkN _ _ _ _ _ _ _ _)))))
noncomputable def g3_p6 (a9 : T9) (a10 : T10) (a11 : T11) (a12 : T12) (a13 : T13) (a14 : T14) (a15 : T15) (a16 : T16) (R : Type) (t5_0 : Nat) (t5_1 : Nat) (t9 : Option (Nat × Nat)) (t11 : Option (Nat × Nat)) (t14 : Int) (t15 : Int) (t16 : Int) (H : Heap) (kN : Nat → Nat → Option (Nat × Nat) → Option (Nat × Nat) → Int → Int → Int → Heap → Option R) (kE2 : Option (Nat × Nat) → Option (Nat × Nat) → Heap → Option R) (kR : Bool → Heap → Option R) : Option R :=
  sel (decide (t16 ≤ (14 : Int))) (
    ((H).ldI .u8 t5_0 (t5_1 + 1)).bind fun x437 =>
    sel ((Int.tmod x437 (2 : Int)) == (0 : Int)) (
      a14 R t9 t11 H fun h438 =>
      a13 R t9 h438 fun x439 h440 =>
      sel (!((x439 == (4 : Int)) == (decide (t16 ≥ t14)))) (
        kR false h440) (
        a13 R t11 h440 fun x441 h442 =>
        sel (!((x441 == (4 : Int)) == (decide (t16 ≥ t15)))) (
          kR false h442) (
          kN t5_0 t5_1 t9 t11 t14 t15 (IntKind.wrap .i64 (t16 + (1 : Int))) h442))) (
      a14 R t11 t9 H fun h443 =>
      a13 R t9 h443 fun x444 h445 =>
      sel (!((x444 == (4 : Int)) == (decide (t16 ≥ t14)))) (
        kR false h445) (
        a13 R t11 h445 fun x446 h447 =>
        sel (!((x446 == (4 : Int)) == (decide (t16 ≥ t15)))) (
          kR false h447) (
          kN t5_0 t5_1 t9 t11 t14 t15 (IntKind.wrap .i64 (t16 + (1 : Int))) h447)))) (
    kE2 t9 t11 H)
theorem g3_p6_eq (a9 : T9) (a10 : T10) (a11 : T11) (a12 : T12) (a13 : T13) (a14 : T14) (a15 : T15) (a16 : T16) (la9 : Lin9 a9) (la10 : Lin10 a10) (la11 : Lin11 a11) (la12 : Lin12 a12) (la13 : Lin13 a13) (la14 : Lin14 a14) (la15 : Lin15 a15) (la16 : Lin16 a16) {R : Type} (t5_0 : Nat) (t5_1 : Nat) (t9 : Option (Nat × Nat)) (t11 : Option (Nat × Nat)) (t14 : Int) (t15 : Int) (t16 : Int) (H : Heap) (K : Ex → Fr → Heap → Option R) : ev Try.prog (E3 a9 a10 a11 a12 a13 a14 a15 a16) loopLim Try.f3.ntmps kp3 c3_3 [(5, (V.p (some (t5_0, t5_1)))), (9, (V.p t9)), (11, (V.p t11)), (14, (V.i .i64 t14)), (15, (V.i .i64 t15)), (16, (V.i .i64 t16))] H K = g3_p6 a9 a10 a11 a12 a13 a14 a15 a16 R t5_0 t5_1 t9 t11 t14 t15 t16 H (fun t5_0 t5_1 t9 t11 t14 t15 t16 H => K .normal [(5, (V.p (some (t5_0, t5_1)))), (9, (V.p t9)), (11, (V.p t11)), (14, (V.i .i64 t14)), (15, (V.i .i64 t15)), (16, (V.i .i64 t16))] H) (fun t9 t11 H => K (.exit 2) [(9, (V.p t9)), (11, (V.p t11))] H) (fun t6 H => K .ret [(6, (V.b t6))] H) := by kernel_rfl
theorem g3_p6_lin {a9 : T9} {a10 : T10} {a11 : T11} {a12 : T12} {a13 : T13} {a14 : T14} {a15 : T15} {a16 : T16} (la9 : Lin9 a9) (la10 : Lin10 a10) (la11 : Lin11 a11) (la12 : Lin12 a12) (la13 : Lin13 a13) (la14 : Lin14 a14) (la15 : Lin15 a15) (la16 : Lin16 a16) {R S : Type} {k : S → Option R} {t5_0 : Nat} {t5_1 : Nat} {t9 : Option (Nat × Nat)} {t11 : Option (Nat × Nat)} {t14 : Int} {t15 : Int} {t16 : Int} {H : Heap} {fkN : Nat → Nat → Option (Nat × Nat) → Option (Nat × Nat) → Int → Int → Int → Heap → Option R} {gkN : Nat → Nat → Option (Nat × Nat) → Option (Nat × Nat) → Int → Int → Int → Heap → Option S} {fkE2 : Option (Nat × Nat) → Option (Nat × Nat) → Heap → Option R} {gkE2 : Option (Nat × Nat) → Option (Nat × Nat) → Heap → Option S} {fkR : Bool → Heap → Option R} {gkR : Bool → Heap → Option S} (hkN : ∀ t5_0 t5_1 t9 t11 t14 t15 t16 H, fkN t5_0 t5_1 t9 t11 t14 t15 t16 H = (gkN t5_0 t5_1 t9 t11 t14 t15 t16 H).bind k) (hkE2 : ∀ t9 t11 H, fkE2 t9 t11 H = (gkE2 t9 t11 H).bind k) (hkR : ∀ t6 H, fkR t6 H = (gkR t6 H).bind k) : g3_p6 a9 a10 a11 a12 a13 a14 a15 a16 R t5_0 t5_1 t9 t11 t14 t15 t16 H fkN fkE2 fkR = (g3_p6 a9 a10 a11 a12 a13 a14 a15 a16 S t5_0 t5_1 t9 t11 t14 t15 t16 H gkN gkE2 gkR).bind k := by
  delta g3_p6; exact (
    sl_lin (
      bl fun x437 =>
      sl_lin (
        la14.l fun h438 =>
        la13.l fun x439 h440 =>
        sl_lin (
          hkR _ _) (
          la13.l fun x441 h442 =>
          sl_lin (
            hkR _ _) (
            hkN _ _ _ _ _ _ _ _))) (
        la14.l fun h443 =>
        la13.l fun x444 h445 =>
        sl_lin (
          hkR _ _) (
          la13.l fun x446 h447 =>
          sl_lin (
            hkR _ _) (
            hkN _ _ _ _ _ _ _ _)))) (
      hkE2 _ _ _))
abbrev g3_p7_S := Nat × Nat × (Option (Nat × Nat)) × (Option (Nat × Nat)) × Int × Int × Int
abbrev g3_p7_O := Sum ((Option (Nat × Nat)) × (Option (Nat × Nat))) (Bool)
def g3_p7_es (s : g3_p7_S) : Fr := [(5, (V.p (some (s.1, s.2.1)))), (9, (V.p s.2.2.1)), (11, (V.p s.2.2.2.1)), (14, (V.i .i64 s.2.2.2.2.1)), (15, (V.i .i64 s.2.2.2.2.2.1)), (16, (V.i .i64 s.2.2.2.2.2.2))]
def g3_p7_er : g3_p7_O → Ex × Fr
  | (.inl r) => ((.exit 2), [(9, (V.p r.1)), (11, (V.p r.2))])
  | (.inr r) => (.ret, [(6, (V.b r))])
noncomputable def g3_p7_b (a9 : T9) (a10 : T10) (a11 : T11) (a12 : T12) (a13 : T13) (a14 : T14) (a15 : T15) (a16 : T16) (s : g3_p7_S) (H : Heap) : Option (Rd g3_p7_S g3_p7_O × Heap) :=
  g3_p6 a9 a10 a11 a12 a13 a14 a15 a16 _ s.1 s.2.1 s.2.2.1 s.2.2.2.1 s.2.2.2.2.1 s.2.2.2.2.2.1 s.2.2.2.2.2.2 H (fun t5_0 t5_1 t9 t11 t14 t15 t16 H => some (.go (t5_0, t5_1, t9, t11, t14, t15, t16), H)) (fun t9 t11 H => some (.up (.inl (t9, t11)), H)) (fun t6 H => some (.up (.inr t6), H))
noncomputable def g3_p7 (a9 : T9) (a10 : T10) (a11 : T11) (a12 : T12) (a13 : T13) (a14 : T14) (a15 : T15) (a16 : T16) (R : Type) (t5_0 : Nat) (t5_1 : Nat) (t9 : Option (Nat × Nat)) (t11 : Option (Nat × Nat)) (t14 : Int) (t15 : Int) (t16 : Int) (H : Heap) (kE2 : Option (Nat × Nat) → Option (Nat × Nat) → Heap → Option R) (kR : Bool → Heap → Option R) : Option R :=
  (tlim (g3_p7_b a9 a10 a11 a12 a13 a14 a15 a16) (t5_0, t5_1, t9, t11, t14, t15, t16) H).bind fun p => cas p.1 (fun r => kE2 r.1 r.2 p.2) (fun r0 => kR r0 p.2)
theorem g3_p7_lin {a9 : T9} {a10 : T10} {a11 : T11} {a12 : T12} {a13 : T13} {a14 : T14} {a15 : T15} {a16 : T16} (la9 : Lin9 a9) (la10 : Lin10 a10) (la11 : Lin11 a11) (la12 : Lin12 a12) (la13 : Lin13 a13) (la14 : Lin14 a14) (la15 : Lin15 a15) (la16 : Lin16 a16) {R S : Type} {k : S → Option R} {t5_0 : Nat} {t5_1 : Nat} {t9 : Option (Nat × Nat)} {t11 : Option (Nat × Nat)} {t14 : Int} {t15 : Int} {t16 : Int} {H : Heap} {fkE2 : Option (Nat × Nat) → Option (Nat × Nat) → Heap → Option R} {gkE2 : Option (Nat × Nat) → Option (Nat × Nat) → Heap → Option S} {fkR : Bool → Heap → Option R} {gkR : Bool → Heap → Option S} (hkE2 : ∀ t9 t11 H, fkE2 t9 t11 H = (gkE2 t9 t11 H).bind k) (hkR : ∀ t6 H, fkR t6 H = (gkR t6 H).bind k) : g3_p7 a9 a10 a11 a12 a13 a14 a15 a16 R t5_0 t5_1 t9 t11 t14 t15 t16 H fkE2 fkR = (g3_p7 a9 a10 a11 a12 a13 a14 a15 a16 S t5_0 t5_1 t9 t11 t14 t15 t16 H gkE2 gkR).bind k := by
  exact bl fun p => cas_lin (fun _ => hkE2 _ _ _) (fun _ => hkR _ _)
theorem g3_p7_eq (a9 : T9) (a10 : T10) (a11 : T11) (a12 : T12) (a13 : T13) (a14 : T14) (a15 : T15) (a16 : T16) (la9 : Lin9 a9) (la10 : Lin10 a10) (la11 : Lin11 a11) (la12 : Lin12 a12) (la13 : Lin13 a13) (la14 : Lin14 a14) (la15 : Lin15 a15) (la16 : Lin16 a16) {R : Type} (t5_0 : Nat) (t5_1 : Nat) (t9 : Option (Nat × Nat)) (t11 : Option (Nat × Nat)) (t14 : Int) (t15 : Int) (t16 : Int) (H : Heap) (K : Ex → Fr → Heap → Option R) : ev Try.prog (E3 a9 a10 a11 a12 a13 a14 a15 a16) loopLim Try.f3.ntmps kp3 c3_4 [(5, (V.p (some (t5_0, t5_1)))), (9, (V.p t9)), (11, (V.p t11)), (14, (V.i .i64 t14)), (15, (V.i .i64 t15)), (16, (V.i .i64 t16))] H K = g3_p7 a9 a10 a11 a12 a13 a14 a15 a16 R t5_0 t5_1 t9 t11 t14 t15 t16 H (fun t9 t11 H => K (.exit 2) [(9, (V.p t9)), (11, (V.p t11))] H) (fun t6 H => K .ret [(6, (V.b t6))] H) := by
  show ev Try.prog (E3 a9 a10 a11 a12 a13 a14 a15 a16) loopLim Try.f3.ntmps kp3 (.loop c3_3) [(5, (V.p (some (t5_0, t5_1)))), (9, (V.p t9)), (11, (V.p t11)), (14, (V.i .i64 t14)), (15, (V.i .i64 t15)), (16, (V.i .i64 t16))] H K = _
  delta g3_p7
  refine (ev_tlim (b := g3_p7_b a9 a10 a11 a12 a13 a14 a15 a16) (es := g3_p7_es) (er := g3_p7_er) (by rintro (r | r) <;> exact nofun) (fun s H => ?_) (t5_0, t5_1, t9, t11, t14, t15, t16) H K).trans (bc fun p => by rcases p with ⟨(r | r), H⟩ <;> rfl)
  exact (g3_p6_eq a9 a10 a11 a12 a13 a14 a15 a16 la9 la10 la11 la12 la13 la14 la15 la16 s.1 s.2.1 s.2.2.1 s.2.2.2.1 s.2.2.2.2.1 s.2.2.2.2.2.1 s.2.2.2.2.2.2 H ret3).trans (g3_p6_lin la9 la10 la11 la12 la13 la14 la15 la16 (fun _ _ _ _ _ _ _ _ => rfl) (fun _ _ _ => rfl) (fun _ _ => rfl))
noncomputable def g3_p8 (a9 : T9) (a10 : T10) (a11 : T11) (a12 : T12) (a13 : T13) (a14 : T14) (a15 : T15) (a16 : T16) (R : Type) (t5_0 : Nat) (t5_1 : Nat) (t9 : Option (Nat × Nat)) (t11 : Option (Nat × Nat)) (t14 : Int) (t15 : Int) (t16 : Int) (H : Heap) (kN : Option (Nat × Nat) → Option (Nat × Nat) → Heap → Option R) (kR : Bool → Heap → Option R) : Option R :=
  g3_p7 a9 a10 a11 a12 a13 a14 a15 a16 R t5_0 t5_1 t9 t11 t14 t15 t16 H (fun t9 t11 H => kN t9 t11 H) (fun t6 H => kR t6 H)
theorem g3_p8_lin {a9 : T9} {a10 : T10} {a11 : T11} {a12 : T12} {a13 : T13} {a14 : T14} {a15 : T15} {a16 : T16} (la9 : Lin9 a9) (la10 : Lin10 a10) (la11 : Lin11 a11) (la12 : Lin12 a12) (la13 : Lin13 a13) (la14 : Lin14 a14) (la15 : Lin15 a15) (la16 : Lin16 a16) {R S : Type} {k : S → Option R} {t5_0 : Nat} {t5_1 : Nat} {t9 : Option (Nat × Nat)} {t11 : Option (Nat × Nat)} {t14 : Int} {t15 : Int} {t16 : Int} {H : Heap} {fkN : Option (Nat × Nat) → Option (Nat × Nat) → Heap → Option R} {gkN : Option (Nat × Nat) → Option (Nat × Nat) → Heap → Option S} {fkR : Bool → Heap → Option R} {gkR : Bool → Heap → Option S} (hkN : ∀ t9 t11 H, fkN t9 t11 H = (gkN t9 t11 H).bind k) (hkR : ∀ t6 H, fkR t6 H = (gkR t6 H).bind k) : g3_p8 a9 a10 a11 a12 a13 a14 a15 a16 R t5_0 t5_1 t9 t11 t14 t15 t16 H fkN fkR = (g3_p8 a9 a10 a11 a12 a13 a14 a15 a16 S t5_0 t5_1 t9 t11 t14 t15 t16 H gkN gkR).bind k := by
  exact g3_p7_lin la9 la10 la11 la12 la13 la14 la15 la16 (fun _ _ _ => hkN _ _ _) (fun _ _ => hkR _ _)
theorem g3_p8_eq (a9 : T9) (a10 : T10) (a11 : T11) (a12 : T12) (a13 : T13) (a14 : T14) (a15 : T15) (a16 : T16) (la9 : Lin9 a9) (la10 : Lin10 a10) (la11 : Lin11 a11) (la12 : Lin12 a12) (la13 : Lin13 a13) (la14 : Lin14 a14) (la15 : Lin15 a15) (la16 : Lin16 a16) {R : Type} (t5_0 : Nat) (t5_1 : Nat) (t9 : Option (Nat × Nat)) (t11 : Option (Nat × Nat)) (t14 : Int) (t15 : Int) (t16 : Int) (H : Heap) (K : Ex → Fr → Heap → Option R) : ev Try.prog (E3 a9 a10 a11 a12 a13 a14 a15 a16) loopLim Try.f3.ntmps kp3 c3_5 [(5, (V.p (some (t5_0, t5_1)))), (9, (V.p t9)), (11, (V.p t11)), (14, (V.i .i64 t14)), (15, (V.i .i64 t15)), (16, (V.i .i64 t16))] H K = g3_p8 a9 a10 a11 a12 a13 a14 a15 a16 R t5_0 t5_1 t9 t11 t14 t15 t16 H (fun t9 t11 H => K .normal [(9, (V.p t9)), (11, (V.p t11))] H) (fun t6 H => K .ret [(6, (V.b t6))] H) := by
  show ev Try.prog (E3 a9 a10 a11 a12 a13 a14 a15 a16) loopLim Try.f3.ntmps kp3 (.block 2 c3_4) [(5, (V.p (some (t5_0, t5_1)))), (9, (V.p t9)), (11, (V.p t11)), (14, (V.i .i64 t14)), (15, (V.i .i64 t15)), (16, (V.i .i64 t16))] H K = _
  rw [ev_block]
  delta g3_p8
  exact (g3_p7_eq a9 a10 a11 a12 a13 a14 a15 a16 la9 la10 la11 la12 la13 la14 la15 la16 t5_0 t5_1 t9 t11 t14 t15 t16 H (kBlock kp3 2 K))
noncomputable def g3_p9 (a9 : T9) (a10 : T10) (a11 : T11) (a12 : T12) (a13 : T13) (a14 : T14) (a15 : T15) (a16 : T16) (R : Type) (t9 : Option (Nat × Nat)) (t11 : Option (Nat × Nat)) (H : Heap) (kR : Bool → Heap → Option R) : Option R :=
  a15 R t9 H fun x448 h449 =>
  sel (decide (x448 ≥ (1 : Int))) (
    a15 R t11 h449 fun x450 h451 =>
    sel (decide (x450 ≥ (1 : Int))) (
      a16 R h451 fun x452 h453 =>
      kR x452 h453) (
      kR false h451)) (
    kR false h449)
theorem g3_p9_eq (a9 : T9) (a10 : T10) (a11 : T11) (a12 : T12) (a13 : T13) (a14 : T14) (a15 : T15) (a16 : T16) (la9 : Lin9 a9) (la10 : Lin10 a10) (la11 : Lin11 a11) (la12 : Lin12 a12) (la13 : Lin13 a13) (la14 : Lin14 a14) (la15 : Lin15 a15) (la16 : Lin16 a16) {R : Type} (t9 : Option (Nat × Nat)) (t11 : Option (Nat × Nat)) (H : Heap) (K : Ex → Fr → Heap → Option R) : ev Try.prog (E3 a9 a10 a11 a12 a13 a14 a15 a16) loopLim Try.f3.ntmps kp3 c3_6 [(9, (V.p t9)), (11, (V.p t11))] H K = g3_p9 a9 a10 a11 a12 a13 a14 a15 a16 R t9 t11 H (fun t6 H => K .ret [(6, (V.b t6))] H) := by kernel_rfl
theorem g3_p9_lin {a9 : T9} {a10 : T10} {a11 : T11} {a12 : T12} {a13 : T13} {a14 : T14} {a15 : T15} {a16 : T16} (la9 : Lin9 a9) (la10 : Lin10 a10) (la11 : Lin11 a11) (la12 : Lin12 a12) (la13 : Lin13 a13) (la14 : Lin14 a14) (la15 : Lin15 a15) (la16 : Lin16 a16) {R S : Type} {k : S → Option R} {t9 : Option (Nat × Nat)} {t11 : Option (Nat × Nat)} {H : Heap} {fkR : Bool → Heap → Option R} {gkR : Bool → Heap → Option S} (hkR : ∀ t6 H, fkR t6 H = (gkR t6 H).bind k) : g3_p9 a9 a10 a11 a12 a13 a14 a15 a16 R t9 t11 H fkR = (g3_p9 a9 a10 a11 a12 a13 a14 a15 a16 S t9 t11 H gkR).bind k := by
  delta g3_p9; exact (
    la15.l fun x448 h449 =>
    sl_lin (
      la15.l fun x450 h451 =>
      sl_lin (
        la16.l fun x452 h453 =>
        hkR _ _) (
        hkR _ _)) (
      hkR _ _))
noncomputable def g3_p10 (a9 : T9) (a10 : T10) (a11 : T11) (a12 : T12) (a13 : T13) (a14 : T14) (a15 : T15) (a16 : T16) (R : Type) (t5_0 : Nat) (t5_1 : Nat) (t9 : Option (Nat × Nat)) (t11 : Option (Nat × Nat)) (t14 : Int) (t15 : Int) (t16 : Int) (H : Heap) (kR : Bool → Heap → Option R) : Option R :=
  g3_p8 a9 a10 a11 a12 a13 a14 a15 a16 R t5_0 t5_1 t9 t11 t14 t15 t16 H (fun t9 t11 H => g3_p9 a9 a10 a11 a12 a13 a14 a15 a16 R t9 t11 H (fun t6 H => kR t6 H)) (fun t6 H => kR t6 H)
theorem g3_p10_lin {a9 : T9} {a10 : T10} {a11 : T11} {a12 : T12} {a13 : T13} {a14 : T14} {a15 : T15} {a16 : T16} (la9 : Lin9 a9) (la10 : Lin10 a10) (la11 : Lin11 a11) (la12 : Lin12 a12) (la13 : Lin13 a13) (la14 : Lin14 a14) (la15 : Lin15 a15) (la16 : Lin16 a16) {R S : Type} {k : S → Option R} {t5_0 : Nat} {t5_1 : Nat} {t9 : Option (Nat × Nat)} {t11 : Option (Nat × Nat)} {t14 : Int} {t15 : Int} {t16 : Int} {H : Heap} {fkR : Bool → Heap → Option R} {gkR : Bool → Heap → Option S} (hkR : ∀ t6 H, fkR t6 H = (gkR t6 H).bind k) : g3_p10 a9 a10 a11 a12 a13 a14 a15 a16 R t5_0 t5_1 t9 t11 t14 t15 t16 H fkR = (g3_p10 a9 a10 a11 a12 a13 a14 a15 a16 S t5_0 t5_1 t9 t11 t14 t15 t16 H gkR).bind k := by
  exact g3_p8_lin la9 la10 la11 la12 la13 la14 la15 la16 (fun _ _ _ => g3_p9_lin la9 la10 la11 la12 la13 la14 la15 la16 (fun _ _ => hkR _ _)) (fun _ _ => hkR _ _)
theorem g3_p10_eq (a9 : T9) (a10 : T10) (a11 : T11) (a12 : T12) (a13 : T13) (a14 : T14) (a15 : T15) (a16 : T16) (la9 : Lin9 a9) (la10 : Lin10 a10) (la11 : Lin11 a11) (la12 : Lin12 a12) (la13 : Lin13 a13) (la14 : Lin14 a14) (la15 : Lin15 a15) (la16 : Lin16 a16) {R : Type} (t5_0 : Nat) (t5_1 : Nat) (t9 : Option (Nat × Nat)) (t11 : Option (Nat × Nat)) (t14 : Int) (t15 : Int) (t16 : Int) (H : Heap) (K : Ex → Fr → Heap → Option R) : ev Try.prog (E3 a9 a10 a11 a12 a13 a14 a15 a16) loopLim Try.f3.ntmps kp3 c3_7 [(5, (V.p (some (t5_0, t5_1)))), (9, (V.p t9)), (11, (V.p t11)), (14, (V.i .i64 t14)), (15, (V.i .i64 t15)), (16, (V.i .i64 t16))] H K = g3_p10 a9 a10 a11 a12 a13 a14 a15 a16 R t5_0 t5_1 t9 t11 t14 t15 t16 H (fun t6 H => K .ret [(6, (V.b t6))] H) := by
  show ev Try.prog (E3 a9 a10 a11 a12 a13 a14 a15 a16) loopLim Try.f3.ntmps kp3 (.seq c3_5 c3_6) [(5, (V.p (some (t5_0, t5_1)))), (9, (V.p t9)), (11, (V.p t11)), (14, (V.i .i64 t14)), (15, (V.i .i64 t15)), (16, (V.i .i64 t16))] H K = _
  rw [ev_seq]
  delta g3_p10
  exact (g3_p8_eq a9 a10 a11 a12 a13 a14 a15 a16 la9 la10 la11 la12 la13 la14 la15 la16 t5_0 t5_1 t9 t11 t14 t15 t16 H (kSeq (fun fr H => ev Try.prog (E3 a9 a10 a11 a12 a13 a14 a15 a16) loopLim Try.f3.ntmps kp3 c3_6 fr H K) K)).trans (congr (congrArg (g3_p8 a9 a10 a11 a12 a13 a14 a15 a16 R t5_0 t5_1 t9 t11 t14 t15 t16 H) (funext fun t9 => funext fun t11 => funext fun H => (kSeq_n _ _ _ _).trans (g3_p9_eq a9 a10 a11 a12 a13 a14 a15 a16 la9 la10 la11 la12 la13 la14 la15 la16 t9 t11 H K))) rfl)
noncomputable def g3_p11 (a9 : T9) (a10 : T10) (a11 : T11) (a12 : T12) (a13 : T13) (a14 : T14) (a15 : T15) (a16 : T16) (R : Type) (t4_0 : Nat) (t4_1 : Nat) (t5_0 : Nat) (t5_1 : Nat) (t7_0 : Nat) (t7_1 : Nat) (t8_0 : Nat) (t8_1 : Nat) (t9 : Option (Nat × Nat)) (t11 : Option (Nat × Nat)) (H : Heap) (kR : Bool → Heap → Option R) : Option R :=
  g3_p5 a9 a10 a11 a12 a13 a14 a15 a16 R t4_0 t4_1 t5_0 t5_1 t7_0 t7_1 t8_0 t8_1 t9 t11 H (fun t5_0 t5_1 t9 t11 t14 t15 t16 H => g3_p10 a9 a10 a11 a12 a13 a14 a15 a16 R t5_0 t5_1 t9 t11 t14 t15 t16 H (fun t6 H => kR t6 H)) (fun t6 H => kR t6 H)
theorem g3_p11_lin {a9 : T9} {a10 : T10} {a11 : T11} {a12 : T12} {a13 : T13} {a14 : T14} {a15 : T15} {a16 : T16} (la9 : Lin9 a9) (la10 : Lin10 a10) (la11 : Lin11 a11) (la12 : Lin12 a12) (la13 : Lin13 a13) (la14 : Lin14 a14) (la15 : Lin15 a15) (la16 : Lin16 a16) {R S : Type} {k : S → Option R} {t4_0 : Nat} {t4_1 : Nat} {t5_0 : Nat} {t5_1 : Nat} {t7_0 : Nat} {t7_1 : Nat} {t8_0 : Nat} {t8_1 : Nat} {t9 : Option (Nat × Nat)} {t11 : Option (Nat × Nat)} {H : Heap} {fkR : Bool → Heap → Option R} {gkR : Bool → Heap → Option S} (hkR : ∀ t6 H, fkR t6 H = (gkR t6 H).bind k) : g3_p11 a9 a10 a11 a12 a13 a14 a15 a16 R t4_0 t4_1 t5_0 t5_1 t7_0 t7_1 t8_0 t8_1 t9 t11 H fkR = (g3_p11 a9 a10 a11 a12 a13 a14 a15 a16 S t4_0 t4_1 t5_0 t5_1 t7_0 t7_1 t8_0 t8_1 t9 t11 H gkR).bind k := by
  exact g3_p5_lin la9 la10 la11 la12 la13 la14 la15 la16 (fun _ _ _ _ _ _ _ _ => g3_p10_lin la9 la10 la11 la12 la13 la14 la15 la16 (fun _ _ => hkR _ _)) (fun _ _ => hkR _ _)
theorem g3_p11_eq (a9 : T9) (a10 : T10) (a11 : T11) (a12 : T12) (a13 : T13) (a14 : T14) (a15 : T15) (a16 : T16) (la9 : Lin9 a9) (la10 : Lin10 a10) (la11 : Lin11 a11) (la12 : Lin12 a12) (la13 : Lin13 a13) (la14 : Lin14 a14) (la15 : Lin15 a15) (la16 : Lin16 a16) {R : Type} (t4_0 : Nat) (t4_1 : Nat) (t5_0 : Nat) (t5_1 : Nat) (t7_0 : Nat) (t7_1 : Nat) (t8_0 : Nat) (t8_1 : Nat) (t9 : Option (Nat × Nat)) (t11 : Option (Nat × Nat)) (H : Heap) (K : Ex → Fr → Heap → Option R) : ev Try.prog (E3 a9 a10 a11 a12 a13 a14 a15 a16) loopLim Try.f3.ntmps kp3 c3_8 [(4, (V.p (some (t4_0, t4_1)))), (5, (V.p (some (t5_0, t5_1)))), (7, (V.p (some (t7_0, t7_1)))), (8, (V.p (some (t8_0, t8_1)))), (9, (V.p t9)), (11, (V.p t11))] H K = g3_p11 a9 a10 a11 a12 a13 a14 a15 a16 R t4_0 t4_1 t5_0 t5_1 t7_0 t7_1 t8_0 t8_1 t9 t11 H (fun t6 H => K .ret [(6, (V.b t6))] H) := by
  show ev Try.prog (E3 a9 a10 a11 a12 a13 a14 a15 a16) loopLim Try.f3.ntmps kp3 (.seq (codeAt [1, 1, 1, 1, 1, 1, 1, 1, 0, 0] b3) (.seq (.cond (.tmp 83) (.seq (codeAt [1, 1, 1, 1, 1, 1, 1, 1, 0, 1, 0, 0] b3) .ret) .skip) (.seq (codeAt [1, 1, 1, 1, 1, 1, 1, 1, 1, 0] b3) (.seq (codeAt [1, 1, 1, 1, 1, 1, 1, 1, 1, 1, 0, 0] b3) (.seq (.cond (.tmp 95) (codeAt [1, 1, 1, 1, 1, 1, 1, 1, 1, 1, 0, 1, 0] b3) .skip) (.seq (codeAt [1, 1, 1, 1, 1, 1, 1, 1, 1, 1, 1, 0, 0] b3) c3_7)))))) [(4, (V.p (some (t4_0, t4_1)))), (5, (V.p (some (t5_0, t5_1)))), (7, (V.p (some (t7_0, t7_1)))), (8, (V.p (some (t8_0, t8_1)))), (9, (V.p t9)), (11, (V.p t11))] H K = _
  delta g3_p11
  exact (g3_p5_eq a9 a10 a11 a12 a13 a14 a15 a16 _ t4_0 t4_1 t5_0 t5_1 t7_0 t7_1 t8_0 t8_1 t9 t11 H K).trans (congr (congrArg (g3_p5 a9 a10 a11 a12 a13 a14 a15 a16 R t4_0 t4_1 t5_0 t5_1 t7_0 t7_1 t8_0 t8_1 t9 t11 H) (funext fun t5_0 => funext fun t5_1 => funext fun t9 => funext fun t11 => funext fun t14 => funext fun t15 => funext fun t16 => funext fun H => g3_p10_eq a9 a10 a11 a12 a13 a14 a15 a16 la9 la10 la11 la12 la13 la14 la15 la16 t5_0 t5_1 t9 t11 t14 t15 t16 H K)) rfl)
noncomputable def g3_p12 (a9 : T9) (a10 : T10) (a11 : T11) (a12 : T12) (a13 : T13) (a14 : T14) (a15 : T15) (a16 : T16) (R : Type) (t4_0 : Nat) (t4_1 : Nat) (t5_0 : Nat) (t5_1 : Nat) (t7_0 : Nat) (t7_1 : Nat) (t8_0 : Nat) (t8_1 : Nat) (t9 : Option (Nat × Nat)) (t11 : Option (Nat × Nat)) (t13 : Int) (H : Heap) (kR : Bool → Heap → Option R) : Option R :=
  g3_p4 a9 a10 a11 a12 a13 a14 a15 a16 R t4_0 t4_1 t5_0 t5_1 t7_0 t7_1 t8_0 t8_1 t9 t11 t13 H (fun t4_0 t4_1 t5_0 t5_1 t7_0 t7_1 t8_0 t8_1 t9 t11 H => g3_p11 a9 a10 a11 a12 a13 a14 a15 a16 R t4_0 t4_1 t5_0 t5_1 t7_0 t7_1 t8_0 t8_1 t9 t11 H (fun t6 H => kR t6 H))
theorem g3_p12_lin {a9 : T9} {a10 : T10} {a11 : T11} {a12 : T12} {a13 : T13} {a14 : T14} {a15 : T15} {a16 : T16} (la9 : Lin9 a9) (la10 : Lin10 a10) (la11 : Lin11 a11) (la12 : Lin12 a12) (la13 : Lin13 a13) (la14 : Lin14 a14) (la15 : Lin15 a15) (la16 : Lin16 a16) {R S : Type} {k : S → Option R} {t4_0 : Nat} {t4_1 : Nat} {t5_0 : Nat} {t5_1 : Nat} {t7_0 : Nat} {t7_1 : Nat} {t8_0 : Nat} {t8_1 : Nat} {t9 : Option (Nat × Nat)} {t11 : Option (Nat × Nat)} {t13 : Int} {H : Heap} {fkR : Bool → Heap → Option R} {gkR : Bool → Heap → Option S} (hkR : ∀ t6 H, fkR t6 H = (gkR t6 H).bind k) : g3_p12 a9 a10 a11 a12 a13 a14 a15 a16 R t4_0 t4_1 t5_0 t5_1 t7_0 t7_1 t8_0 t8_1 t9 t11 t13 H fkR = (g3_p12 a9 a10 a11 a12 a13 a14 a15 a16 S t4_0 t4_1 t5_0 t5_1 t7_0 t7_1 t8_0 t8_1 t9 t11 t13 H gkR).bind k := by
  exact g3_p4_lin la9 la10 la11 la12 la13 la14 la15 la16 (fun _ _ _ _ _ _ _ _ _ _ _ => g3_p11_lin la9 la10 la11 la12 la13 la14 la15 la16 (fun _ _ => hkR _ _))
theorem g3_p12_eq (a9 : T9) (a10 : T10) (a11 : T11) (a12 : T12) (a13 : T13) (a14 : T14) (a15 : T15) (a16 : T16) (la9 : Lin9 a9) (la10 : Lin10 a10) (la11 : Lin11 a11) (la12 : Lin12 a12) (la13 : Lin13 a13) (la14 : Lin14 a14) (la15 : Lin15 a15) (la16 : Lin16 a16) {R : Type} (t4_0 : Nat) (t4_1 : Nat) (t5_0 : Nat) (t5_1 : Nat) (t7_0 : Nat) (t7_1 : Nat) (t8_0 : Nat) (t8_1 : Nat) (t9 : Option (Nat × Nat)) (t11 : Option (Nat × Nat)) (t13 : Int) (H : Heap) (K : Ex → Fr → Heap → Option R) : ev Try.prog (E3 a9 a10 a11 a12 a13 a14 a15 a16) loopLim Try.f3.ntmps kp3 c3_9 [(4, (V.p (some (t4_0, t4_1)))), (5, (V.p (some (t5_0, t5_1)))), (7, (V.p (some (t7_0, t7_1)))), (8, (V.p (some (t8_0, t8_1)))), (9, (V.p t9)), (11, (V.p t11)), (13, (V.i .i64 t13))] H K = g3_p12 a9 a10 a11 a12 a13 a14 a15 a16 R t4_0 t4_1 t5_0 t5_1 t7_0 t7_1 t8_0 t8_1 t9 t11 t13 H (fun t6 H => K .ret [(6, (V.b t6))] H) := by
  show ev Try.prog (E3 a9 a10 a11 a12 a13 a14 a15 a16) loopLim Try.f3.ntmps kp3 (.seq c3_2 c3_8) [(4, (V.p (some (t4_0, t4_1)))), (5, (V.p (some (t5_0, t5_1)))), (7, (V.p (some (t7_0, t7_1)))), (8, (V.p (some (t8_0, t8_1)))), (9, (V.p t9)), (11, (V.p t11)), (13, (V.i .i64 t13))] H K = _
  rw [ev_seq]
  delta g3_p12
  exact (g3_p4_eq a9 a10 a11 a12 a13 a14 a15 a16 la9 la10 la11 la12 la13 la14 la15 la16 t4_0 t4_1 t5_0 t5_1 t7_0 t7_1 t8_0 t8_1 t9 t11 t13 H (kSeq (fun fr H => ev Try.prog (E3 a9 a10 a11 a12 a13 a14 a15 a16) loopLim Try.f3.ntmps kp3 c3_8 fr H K) K)).trans (congrArg (g3_p4 a9 a10 a11 a12 a13 a14 a15 a16 R t4_0 t4_1 t5_0 t5_1 t7_0 t7_1 t8_0 t8_1 t9 t11 t13 H) (funext fun t4_0 => funext fun t4_1 => funext fun t5_0 => funext fun t5_1 => funext fun t7_0 => funext fun t7_1 => funext fun t8_0 => funext fun t8_1 => funext fun t9 => funext fun t11 => funext fun H => (kSeq_n _ _ _ _).trans (g3_p11_eq a9 a10 a11 a12 a13 a14 a15 a16 la9 la10 la11 la12 la13 la14 la15 la16 t4_0 t4_1 t5_0 t5_1 t7_0 t7_1 t8_0 t8_1 t9 t11 H K)))
noncomputable def g3_p13 (a9 : T9) (a10 : T10) (a11 : T11) (a12 : T12) (a13 : T13) (a14 : T14) (a15 : T15) (a16 : T16) (R : Type) (t4_0 : Nat) (t4_1 : Nat) (t5_0 : Nat) (t5_1 : Nat) (t7_0 : Nat) (t7_1 : Nat) (t8_0 : Nat) (t8_1 : Nat) (t9 : Option (Nat × Nat)) (t11 : Option (Nat × Nat)) (t61 : Bool) (H : Heap) (kR : Bool → Heap → Option R) : Option R :=
  g3_p1 a9 a10 a11 a12 a13 a14 a15 a16 R t4_0 t4_1 t5_0 t5_1 t7_0 t7_1 t8_0 t8_1 t9 t11 t61 H (fun t4_0 t4_1 t5_0 t5_1 t7_0 t7_1 t8_0 t8_1 t9 t11 t13 H => g3_p12 a9 a10 a11 a12 a13 a14 a15 a16 R t4_0 t4_1 t5_0 t5_1 t7_0 t7_1 t8_0 t8_1 t9 t11 t13 H (fun t6 H => kR t6 H)) (fun t6 H => kR t6 H)
theorem g3_p13_lin {a9 : T9} {a10 : T10} {a11 : T11} {a12 : T12} {a13 : T13} {a14 : T14} {a15 : T15} {a16 : T16} (la9 : Lin9 a9) (la10 : Lin10 a10) (la11 : Lin11 a11) (la12 : Lin12 a12) (la13 : Lin13 a13) (la14 : Lin14 a14) (la15 : Lin15 a15) (la16 : Lin16 a16) {R S : Type} {k : S → Option R} {t4_0 : Nat} {t4_1 : Nat} {t5_0 : Nat} {t5_1 : Nat} {t7_0 : Nat} {t7_1 : Nat} {t8_0 : Nat} {t8_1 : Nat} {t9 : Option (Nat × Nat)} {t11 : Option (Nat × Nat)} {t61 : Bool} {H : Heap} {fkR : Bool → Heap → Option R} {gkR : Bool → Heap → Option S} (hkR : ∀ t6 H, fkR t6 H = (gkR t6 H).bind k) : g3_p13 a9 a10 a11 a12 a13 a14 a15 a16 R t4_0 t4_1 t5_0 t5_1 t7_0 t7_1 t8_0 t8_1 t9 t11 t61 H fkR = (g3_p13 a9 a10 a11 a12 a13 a14 a15 a16 S t4_0 t4_1 t5_0 t5_1 t7_0 t7_1 t8_0 t8_1 t9 t11 t61 H gkR).bind k := by
  exact g3_p1_lin la9 la10 la11 la12 la13 la14 la15 la16 (fun _ _ _ _ _ _ _ _ _ _ _ _ => g3_p12_lin la9 la10 la11 la12 la13 la14 la15 la16 (fun _ _ => hkR _ _)) (fun _ _ => hkR _ _)
theorem g3_p13_eq (a9 : T9) (a10 : T10) (a11 : T11) (a12 : T12) (a13 : T13) (a14 : T14) (a15 : T15) (a16 : T16) (la9 : Lin9 a9) (la10 : Lin10 a10) (la11 : Lin11 a11) (la12 : Lin12 a12) (la13 : Lin13 a13) (la14 : Lin14 a14) (la15 : Lin15 a15) (la16 : Lin16 a16) {R : Type} (t4_0 : Nat) (t4_1 : Nat) (t5_0 : Nat) (t5_1 : Nat) (t7_0 : Nat) (t7_1 : Nat) (t8_0 : Nat) (t8_1 : Nat) (t9 : Option (Nat × Nat)) (t11 : Option (Nat × Nat)) (t61 : Bool) (H : Heap) (K : Ex → Fr → Heap → Option R) : ev Try.prog (E3 a9 a10 a11 a12 a13 a14 a15 a16) loopLim Try.f3.ntmps kp3 c3_10 [(4, (V.p (some (t4_0, t4_1)))), (5, (V.p (some (t5_0, t5_1)))), (7, (V.p (some (t7_0, t7_1)))), (8, (V.p (some (t8_0, t8_1)))), (9, (V.p t9)), (11, (V.p t11)), (61, (V.b t61))] H K = g3_p13 a9 a10 a11 a12 a13 a14 a15 a16 R t4_0 t4_1 t5_0 t5_1 t7_0 t7_1 t8_0 t8_1 t9 t11 t61 H (fun t6 H => K .ret [(6, (V.b t6))] H) := by
  show ev Try.prog (E3 a9 a10 a11 a12 a13 a14 a15 a16) loopLim Try.f3.ntmps kp3 (.seq (.cond (.tmp 61) (.seq (codeAt [1, 1, 1, 1, 1, 1, 0, 1, 0, 0] b3) .ret) .skip) (.seq (codeAt [1, 1, 1, 1, 1, 1, 1, 0, 0] b3) c3_9)) [(4, (V.p (some (t4_0, t4_1)))), (5, (V.p (some (t5_0, t5_1)))), (7, (V.p (some (t7_0, t7_1)))), (8, (V.p (some (t8_0, t8_1)))), (9, (V.p t9)), (11, (V.p t11)), (61, (V.b t61))] H K = _
  delta g3_p13
  exact (g3_p1_eq a9 a10 a11 a12 a13 a14 a15 a16 _ t4_0 t4_1 t5_0 t5_1 t7_0 t7_1 t8_0 t8_1 t9 t11 t61 H K).trans (congr (congrArg (g3_p1 a9 a10 a11 a12 a13 a14 a15 a16 R t4_0 t4_1 t5_0 t5_1 t7_0 t7_1 t8_0 t8_1 t9 t11 t61 H) (funext fun t4_0 => funext fun t4_1 => funext fun t5_0 => funext fun t5_1 => funext fun t7_0 => funext fun t7_1 => funext fun t8_0 => funext fun t8_1 => funext fun t9 => funext fun t11 => funext fun t13 => funext fun H => g3_p12_eq a9 a10 a11 a12 a13 a14 a15 a16 la9 la10 la11 la12 la13 la14 la15 la16 t4_0 t4_1 t5_0 t5_1 t7_0 t7_1 t8_0 t8_1 t9 t11 t13 H K)) rfl)
noncomputable def g3_p14 (a9 : T9) (a10 : T10) (a11 : T11) (a12 : T12) (a13 : T13) (a14 : T14) (a15 : T15) (a16 : T16) (R : Type) (t0_0 : Int) (t0_1 : Int) (t0_2 : Int) (t0_3 : Int) (t0_4 : Int) (t0_5 : Int) (t0_6 : Int) (t0_7 : Int) (t0_8 : Int) (t0_9 : Int) (t0_10 : Int) (t0_11 : Int) (t0_12 : Int) (t0_13 : Int) (t1_0 : Bool) (t1_1 : Bool) (t2_0 : Int) (t2_1 : Int) (H : Heap) (kR : Bool → Heap → Option R) : Option R :=
  g3_p0 a9 a10 a11 a12 a13 a14 a15 a16 R t0_0 t0_1 t0_2 t0_3 t0_4 t0_5 t0_6 t0_7 t0_8 t0_9 t0_10 t0_11 t0_12 t0_13 t1_0 t1_1 t2_0 t2_1 H (fun t4_0 t4_1 t5_0 t5_1 t7_0 t7_1 t8_0 t8_1 t9 t11 t61 H => g3_p13 a9 a10 a11 a12 a13 a14 a15 a16 R t4_0 t4_1 t5_0 t5_1 t7_0 t7_1 t8_0 t8_1 t9 t11 t61 H (fun t6 H => kR t6 H))
theorem g3_p14_lin {a9 : T9} {a10 : T10} {a11 : T11} {a12 : T12} {a13 : T13} {a14 : T14} {a15 : T15} {a16 : T16} (la9 : Lin9 a9) (la10 : Lin10 a10) (la11 : Lin11 a11) (la12 : Lin12 a12) (la13 : Lin13 a13) (la14 : Lin14 a14) (la15 : Lin15 a15) (la16 : Lin16 a16) {R S : Type} {k : S → Option R} {t0_0 : Int} {t0_1 : Int} {t0_2 : Int} {t0_3 : Int} {t0_4 : Int} {t0_5 : Int} {t0_6 : Int} {t0_7 : Int} {t0_8 : Int} {t0_9 : Int} {t0_10 : Int} {t0_11 : Int} {t0_12 : Int} {t0_13 : Int} {t1_0 : Bool} {t1_1 : Bool} {t2_0 : Int} {t2_1 : Int} {H : Heap} {fkR : Bool → Heap → Option R} {gkR : Bool → Heap → Option S} (hkR : ∀ t6 H, fkR t6 H = (gkR t6 H).bind k) : g3_p14 a9 a10 a11 a12 a13 a14 a15 a16 R t0_0 t0_1 t0_2 t0_3 t0_4 t0_5 t0_6 t0_7 t0_8 t0_9 t0_10 t0_11 t0_12 t0_13 t1_0 t1_1 t2_0 t2_1 H fkR = (g3_p14 a9 a10 a11 a12 a13 a14 a15 a16 S t0_0 t0_1 t0_2 t0_3 t0_4 t0_5 t0_6 t0_7 t0_8 t0_9 t0_10 t0_11 t0_12 t0_13 t1_0 t1_1 t2_0 t2_1 H gkR).bind k := by
  exact g3_p0_lin la9 la10 la11 la12 la13 la14 la15 la16 (fun _ _ _ _ _ _ _ _ _ _ _ _ => g3_p13_lin la9 la10 la11 la12 la13 la14 la15 la16 (fun _ _ => hkR _ _))
theorem g3_p14_eq (a9 : T9) (a10 : T10) (a11 : T11) (a12 : T12) (a13 : T13) (a14 : T14) (a15 : T15) (a16 : T16) (la9 : Lin9 a9) (la10 : Lin10 a10) (la11 : Lin11 a11) (la12 : Lin12 a12) (la13 : Lin13 a13) (la14 : Lin14 a14) (la15 : Lin15 a15) (la16 : Lin16 a16) {R : Type} (t0_0 : Int) (t0_1 : Int) (t0_2 : Int) (t0_3 : Int) (t0_4 : Int) (t0_5 : Int) (t0_6 : Int) (t0_7 : Int) (t0_8 : Int) (t0_9 : Int) (t0_10 : Int) (t0_11 : Int) (t0_12 : Int) (t0_13 : Int) (t1_0 : Bool) (t1_1 : Bool) (t2_0 : Int) (t2_1 : Int) (H : Heap) (K : Ex → Fr → Heap → Option R) : ev Try.prog (E3 a9 a10 a11 a12 a13 a14 a15 a16) loopLim Try.f3.ntmps kp3 c3_11 [(0, (V.agg [(V.i .u8 t0_0), (V.i .u8 t0_1), (V.i .u8 t0_2), (V.i .u8 t0_3), (V.i .u8 t0_4), (V.i .u8 t0_5), (V.i .u8 t0_6), (V.i .u8 t0_7), (V.i .u8 t0_8), (V.i .u8 t0_9), (V.i .u8 t0_10), (V.i .u8 t0_11), (V.i .u8 t0_12), (V.i .u8 t0_13)])), (1, (V.agg [(V.b t1_0), (V.b t1_1)])), (2, (V.agg [(V.i .u8 t2_0), (V.i .u8 t2_1)]))] H K = g3_p14 a9 a10 a11 a12 a13 a14 a15 a16 R t0_0 t0_1 t0_2 t0_3 t0_4 t0_5 t0_6 t0_7 t0_8 t0_9 t0_10 t0_11 t0_12 t0_13 t1_0 t1_1 t2_0 t2_1 H (fun t6 H => K .ret [(6, (V.b t6))] H) := by
  show ev Try.prog (E3 a9 a10 a11 a12 a13 a14 a15 a16) loopLim Try.f3.ntmps kp3 (.seq (codeAt [0] b3) (.seq (codeAt [1, 0] b3) (.seq (codeAt [1, 1, 0] b3) (.seq (codeAt [1, 1, 1, 0] b3) (.seq (codeAt [1, 1, 1, 1, 0] b3) (.seq (codeAt [1, 1, 1, 1, 1, 0] b3) (.seq (codeAt [1, 1, 1, 1, 1, 1, 0, 0] b3) c3_10))))))) [(0, (V.agg [(V.i .u8 t0_0), (V.i .u8 t0_1), (V.i .u8 t0_2), (V.i .u8 t0_3), (V.i .u8 t0_4), (V.i .u8 t0_5), (V.i .u8 t0_6), (V.i .u8 t0_7), (V.i .u8 t0_8), (V.i .u8 t0_9), (V.i .u8 t0_10), (V.i .u8 t0_11), (V.i .u8 t0_12), (V.i .u8 t0_13)])), (1, (V.agg [(V.b t1_0), (V.b t1_1)])), (2, (V.agg [(V.i .u8 t2_0), (V.i .u8 t2_1)]))] H K = _
  delta g3_p14
  exact (g3_p0_eq a9 a10 a11 a12 a13 a14 a15 a16 _ t0_0 t0_1 t0_2 t0_3 t0_4 t0_5 t0_6 t0_7 t0_8 t0_9 t0_10 t0_11 t0_12 t0_13 t1_0 t1_1 t2_0 t2_1 H K).trans (congrArg (g3_p0 a9 a10 a11 a12 a13 a14 a15 a16 R t0_0 t0_1 t0_2 t0_3 t0_4 t0_5 t0_6 t0_7 t0_8 t0_9 t0_10 t0_11 t0_12 t0_13 t1_0 t1_1 t2_0 t2_1 H) (funext fun t4_0 => funext fun t4_1 => funext fun t5_0 => funext fun t5_1 => funext fun t7_0 => funext fun t7_1 => funext fun t8_0 => funext fun t8_1 => funext fun t9 => funext fun t11 => funext fun t61 => funext fun H => g3_p13_eq a9 a10 a11 a12 a13 a14 a15 a16 la9 la10 la11 la12 la13 la14 la15 la16 t4_0 t4_1 t5_0 t5_1 t7_0 t7_1 t8_0 t8_1 t9 t11 t61 H K))
noncomputable def g3_r (a9 : T9) (a10 : T10) (a11 : T11) (a12 : T12) (a13 : T13) (a14 : T14) (a15 : T15) (a16 : T16) : T3 := fun R t0_0 t0_1 t0_2 t0_3 t0_4 t0_5 t0_6 t0_7 t0_8 t0_9 t0_10 t0_11 t0_12 t0_13 t1_0 t1_1 t2_0 t2_1 H K =>
  g3_p14 a9 a10 a11 a12 a13 a14 a15 a16 R t0_0 t0_1 t0_2 t0_3 t0_4 t0_5 t0_6 t0_7 t0_8 t0_9 t0_10 t0_11 t0_12 t0_13 t1_0 t1_1 t2_0 t2_1 H (fun t6 H =>
    K t6 H)
theorem g3_r_lin {a9 : T9} {a10 : T10} {a11 : T11} {a12 : T12} {a13 : T13} {a14 : T14} {a15 : T15} {a16 : T16} (la9 : Lin9 a9) (la10 : Lin10 a10) (la11 : Lin11 a11) (la12 : Lin12 a12) (la13 : Lin13 a13) (la14 : Lin14 a14) (la15 : Lin15 a15) (la16 : Lin16 a16) : Lin3 (g3_r a9 a10 a11 a12 a13 a14 a15 a16) := by
  constructor
  intro R S k t0_0 t0_1 t0_2 t0_3 t0_4 t0_5 t0_6 t0_7 t0_8 t0_9 t0_10 t0_11 t0_12 t0_13 t1_0 t1_1 t2_0 t2_1 H f g h
  exact g3_p14_lin la9 la10 la11 la12 la13 la14 la15 la16 (fun t6 H =>
    h _ _)
theorem g3_fn (a9 : T9) (a10 : T10) (a11 : T11) (a12 : T12) (a13 : T13) (a14 : T14) (a15 : T15) (a16 : T16) (la9 : Lin9 a9) (la10 : Lin10 a10) (la11 : Lin11 a11) (la12 : Lin12 a12) (la13 : Lin13 a13) (la14 : Lin14 a14) (la15 : Lin15 a15) (la16 : Lin16 a16) {R : Type} (t0_0 : Int) (t0_1 : Int) (t0_2 : Int) (t0_3 : Int) (t0_4 : Int) (t0_5 : Int) (t0_6 : Int) (t0_7 : Int) (t0_8 : Int) (t0_9 : Int) (t0_10 : Int) (t0_11 : Int) (t0_12 : Int) (t0_13 : Int) (t1_0 : Bool) (t1_1 : Bool) (t2_0 : Int) (t2_1 : Int) (H : Heap) (K : V → Heap → Option R) : evFn Try.prog (E3 a9 a10 a11 a12 a13 a14 a15 a16) loopLim Try.f3 kp3 [(V.agg [(V.i .u8 t0_0), (V.i .u8 t0_1), (V.i .u8 t0_2), (V.i .u8 t0_3), (V.i .u8 t0_4), (V.i .u8 t0_5), (V.i .u8 t0_6), (V.i .u8 t0_7), (V.i .u8 t0_8), (V.i .u8 t0_9), (V.i .u8 t0_10), (V.i .u8 t0_11), (V.i .u8 t0_12), (V.i .u8 t0_13)]), (V.agg [(V.b t1_0), (V.b t1_1)]), (V.agg [(V.i .u8 t2_0), (V.i .u8 t2_1)])] H K = g3_r a9 a10 a11 a12 a13 a14 a15 a16 R t0_0 t0_1 t0_2 t0_3 t0_4 t0_5 t0_6 t0_7 t0_8 t0_9 t0_10 t0_11 t0_12 t0_13 t1_0 t1_1 t2_0 t2_1 H (fun r0 H => K (V.b r0) H) := by
  have h0 : ∀ (t6 : Bool) (H : Heap), kFn Try.prog Try.f3.results.toList K .ret [(6, (V.b t6))] H =
      K (V.b t6) H := by intros; kernel_rfl
  have e0 := evFn_code2 (P := Try.prog) (c := c3_11) (E := (E3 a9 a10 a11 a12 a13 a14 a15 a16)) (lr := loopLim) (kp := kp3) (fn := Try.f3) (args := [(V.agg [(V.i .u8 t0_0), (V.i .u8 t0_1), (V.i .u8 t0_2), (V.i .u8 t0_3), (V.i .u8 t0_4), (V.i .u8 t0_5), (V.i .u8 t0_6), (V.i .u8 t0_7), (V.i .u8 t0_8), (V.i .u8 t0_9), (V.i .u8 t0_10), (V.i .u8 t0_11), (V.i .u8 t0_12), (V.i .u8 t0_13)]), (V.agg [(V.b t1_0), (V.b t1_1)]), (V.agg [(V.i .u8 t2_0), (V.i .u8 t2_1)])]) H K (by kernel_rfl) (Nat.le_of_ble_eq_true (by kernel_rfl)) (by kernel_rfl)
  have e1 : ev Try.prog (E3 a9 a10 a11 a12 a13 a14 a15 a16) loopLim Try.f3.ntmps kp3 c3_11 (argFr 0 [(V.agg [(V.i .u8 t0_0), (V.i .u8 t0_1), (V.i .u8 t0_2), (V.i .u8 t0_3), (V.i .u8 t0_4), (V.i .u8 t0_5), (V.i .u8 t0_6), (V.i .u8 t0_7), (V.i .u8 t0_8), (V.i .u8 t0_9), (V.i .u8 t0_10), (V.i .u8 t0_11), (V.i .u8 t0_12), (V.i .u8 t0_13)]), (V.agg [(V.b t1_0), (V.b t1_1)]), (V.agg [(V.i .u8 t2_0), (V.i .u8 t2_1)])]) H (kFn Try.prog Try.f3.results.toList K) = ev Try.prog (E3 a9 a10 a11 a12 a13 a14 a15 a16) loopLim Try.f3.ntmps kp3 c3_11 [(0, (V.agg [(V.i .u8 t0_0), (V.i .u8 t0_1), (V.i .u8 t0_2), (V.i .u8 t0_3), (V.i .u8 t0_4), (V.i .u8 t0_5), (V.i .u8 t0_6), (V.i .u8 t0_7), (V.i .u8 t0_8), (V.i .u8 t0_9), (V.i .u8 t0_10), (V.i .u8 t0_11), (V.i .u8 t0_12), (V.i .u8 t0_13)])), (1, (V.agg [(V.b t1_0), (V.b t1_1)])), (2, (V.agg [(V.i .u8 t2_0), (V.i .u8 t2_1)]))] H (kFn Try.prog Try.f3.results.toList K) := by kernel_rfl
  refine (e0.trans e1).trans ?_
  delta g3_r
  exact (g3_p14_eq a9 a10 a11 a12 a13 a14 a15 a16 la9 la10 la11 la12 la13 la14 la15 la16 t0_0 t0_1 t0_2 t0_3 t0_4 t0_5 t0_6 t0_7 t0_8 t0_9 t0_10 t0_11 t0_12 t0_13 t1_0 t1_1 t2_0 t2_1 H (kFn Try.prog Try.f3.results.toList K)).trans (congrArg (g3_p14 a9 a10 a11 a12 a13 a14 a15 a16 R t0_0 t0_1 t0_2 t0_3 t0_4 t0_5 t0_6 t0_7 t0_8 t0_9 t0_10 t0_11 t0_12 t0_13 t1_0 t1_1 t2_0 t2_1 H) (funext fun t6 => funext fun H => h0 t6 H))
theorem g3_ok {a9 : T9} {a10 : T10} {a11 : T11} {a12 : T12} {a13 : T13} {a14 : T14} {a15 : T15} {a16 : T16} (oa9 : FunOK Try.prog 9 (w9 a9)) (oa10 : FunOK Try.prog 10 (w10 a10)) (oa11 : FunOK Try.prog 11 (w11 a11)) (oa12 : FunOK Try.prog 12 (w12 a12)) (oa13 : FunOK Try.prog 13 (w13 a13)) (oa14 : FunOK Try.prog 14 (w14 a14)) (oa15 : FunOK Try.prog 15 (w15 a15)) (oa16 : FunOK Try.prog 16 (w16 a16)) (la9 : Lin9 a9) (la10 : Lin10 a10) (la11 : Lin11 a11) (la12 : Lin12 a12) (la13 : Lin13 a13) (la14 : Lin14 a14) (la15 : Lin15 a15) (la16 : Lin16 a16) : FunOK Try.prog 3 (w3 (g3_r a9 a10 a11 a12 a13 a14 a15 a16)) := by
  refine (runF_ok (E3_good oa9 oa10 oa11 oa12 oa13 oa14 oa15 oa16 la9 la10 la11 la12 la13 la14 la15 la16) mixed lim_ok Try.func3 (by kernel_rfl) kp3).of_le fun R args H K r hk => ?_
  unfold w3 at hk
  split at hk
  · exact (g3_fn a9 a10 a11 a12 a13 a14 a15 a16 la9 la10 la11 la12 la13 la14 la15 la16 _ _ _ _ _ _ _ _ _ _ _ _ _ _ _ _ _ _ H K).trans hk
  · cases hk
end Go.Proofs.Ytkldpkemnmmbgaa

