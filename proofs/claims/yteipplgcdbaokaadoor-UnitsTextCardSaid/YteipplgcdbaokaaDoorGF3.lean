/- Printed: functions as the machine runs them. -/
import Derived.Test.YteipplgcdbaokaaDoorGT
namespace Go.Proofs.YteipplgcdbaokaaDoor
open Go AM Go.RowKit
set_option linter.unusedVariables false
def kp4 : Nat → Option (List Nat) := kpOf [(0, [0]), (1, [0, 11]), (2, [2]), (3, [0, 3, 4]), (4, [0, 3, 4, 25]), (5, [2]), (6, [0, 3, 4, 5]), (7, [0, 3, 4, 6]), (8, [0, 3, 4, 60]), (9, [2]), (10, [0, 3, 4, 7, 8]), (11, [2]), (300000, [2]), (400011, [0]), (400025, [0, 3, 4]), (400060, [0, 3, 4])]
def E4 (a8 : T8) (a15 : T15) (a16 : T16) (a10 : T10) (a9 : T9) (a13 : T13) (a14 : T14) (a17 : T17) : FEnv := [(8, w8 a8), (15, w15 a15), (16, w16 a16), (10, w10 a10), (9, w9 a9), (13, w13 a13), (14, w14 a14), (17, w17 a17)]
theorem E4_good {a8 : T8} {a15 : T15} {a16 : T16} {a10 : T10} {a9 : T9} {a13 : T13} {a14 : T14} {a17 : T17} (oa8 : FunOK Tryd.prog 8 (w8 a8)) (oa15 : FunOK Tryd.prog 15 (w15 a15)) (oa16 : FunOK Tryd.prog 16 (w16 a16)) (oa10 : FunOK Tryd.prog 10 (w10 a10)) (oa9 : FunOK Tryd.prog 9 (w9 a9)) (oa13 : FunOK Tryd.prog 13 (w13 a13)) (oa14 : FunOK Tryd.prog 14 (w14 a14)) (oa17 : FunOK Tryd.prog 17 (w17 a17)) (la8 : Lin8 a8) (la15 : Lin15 a15) (la16 : Lin16 a16) (la10 : Lin10 a10) (la9 : Lin9 a9) (la13 : Lin13 a13) (la14 : Lin14 a14) (la17 : Lin17 a17) : EnvGood Tryd.prog (E4 a8 a15 a16 a10 a9 a13 a14 a17) := (((((((((EnvGood.nil _).cons oa17 (w17_lin la17)).cons oa14 (w14_lin la14)).cons oa13 (w13_lin la13)).cons oa9 (w9_lin la9)).cons oa10 (w10_lin la10)).cons oa16 (w16_lin la16)).cons oa15 (w15_lin la15)).cons oa8 (w8_lin la8))
theorem E4_lin {a8 : T8} {a15 : T15} {a16 : T16} {a10 : T10} {a9 : T9} {a13 : T13} {a14 : T14} {a17 : T17} (la8 : Lin8 a8) (la15 : Lin15 a15) (la16 : Lin16 a16) (la10 : Lin10 a10) (la9 : Lin9 a9) (la13 : Lin13 a13) (la14 : Lin14 a14) (la17 : Lin17 a17) : EnvLin (E4 a8 a15 a16 a10 a9 a13 a14 a17) := by
  intro g F h
  simp only [E4, List.mem_cons, List.not_mem_nil, or_false] at h
  rcases h with h | h | h | h | h | h | h | h
  · cases h; exact w8_lin la8
  · cases h; exact w15_lin la15
  · cases h; exact w16_lin la16
  · cases h; exact w10_lin la10
  · cases h; exact w9_lin la9
  · cases h; exact w13_lin la13
  · cases h; exact w14_lin la14
  · cases h; exact w17_lin la17
noncomputable def b4 : Code := Tryd.f4.body.getD .skip
noncomputable def c4_0 : Code := (.seq (codeAt [1, 1, 1, 1, 1, 1, 0, 0] b4) (.seq (.cond (.tmp 60) (.seq (codeAt [1, 1, 1, 1, 1, 1, 0, 1, 0, 0] b4) .ret) .skip) (.seq (codeAt [1, 1, 1, 1, 1, 1, 1, 0] b4) (.seq (codeAt [1, 1, 1, 1, 1, 1, 1, 1, 0] b4) .ret))))
noncomputable def c4_1 : Code := (.seq (codeAt [0] b4) (.seq (codeAt [1, 0, 0] b4) (.seq (.cond (.tmp 11) (.seq (codeAt [1, 0, 1, 0, 0] b4) .ret) .skip) (.seq (codeAt [1, 1, 0] b4) (.seq (codeAt [1, 1, 1, 0, 0] b4) (.seq (.cond (.tmp 25) (.seq (codeAt [1, 1, 1, 0, 1, 0, 0] b4) .ret) .skip) (.seq (codeAt [1, 1, 1, 1, 0] b4) (.seq (codeAt [1, 1, 1, 1, 1, 0] b4) c4_0))))))))
noncomputable def g4_p0 (a8 : T8) (a15 : T15) (a16 : T16) (a10 : T10) (a9 : T9) (a13 : T13) (a14 : T14) (a17 : T17) (R : Type) (t0 : Sl) (H : Heap) (kN : Sl → Nat → Nat → Int → Bool → Heap → Option R) (kR : Bool → Heap → Option R) : Option R :=
  sel (decide (((t0.len : Nat) : Int) > (400 : Int))) (
    a8 R H fun x233 h234 =>
    kR x233 h234) (
    a15 R t0 H fun x235 x236 x237 x238 x239 x240 x241 x242 h243 =>
    alo h243 (.cells [(V.i .u8 (0 : Int)), (V.b false), (V.i .u8 (0 : Int)), (V.b false), (V.i .u8 (0 : Int)), (V.i .u8 (0 : Int)), (V.sl (Sl.mk none 0 (.ex 0)))] 25 false) fun i244 h245 =>
    ((h245).sts i244 0 [(V.i .u8 x235), (V.b x236), (V.i .u8 x237), (V.b x238), (V.i .u8 x239), (V.i .u8 x240), (V.sl x241)]).bind fun h246 =>
    sel (decide (((t0.len : Nat) : Int) < (3 : Int))) (
      sel (x242 == (5 : Int)) (
        ((h246).ldI .u8 i244 (0 + 0)).bind fun x247 =>
        ((h246).ldB i244 (0 + 1)).bind fun x248 =>
        ((h246).ldI .u8 i244 (0 + 2)).bind fun x249 =>
        ((h246).ldB i244 (0 + 3)).bind fun x250 =>
        ((h246).ldI .u8 i244 (0 + 4)).bind fun x251 =>
        ((h246).ldI .u8 i244 (0 + 5)).bind fun x252 =>
        ((h246).ldSl i244 (0 + 6)).bind fun x253 =>
        a16 R x247 x248 x249 x250 x251 x252 x253 (0 : Int) false (0 : Int) false (0 : Int) (0 : Int) (Sl.mk none 0 (.ex 0)) h246 fun x254 h255 =>
        sel x254 (
          a8 R h255 fun x256 h257 =>
          kR x256 h257) (
          kR false h255)) (
        kR false h246)) (
      sel (decide (((t0.len : Nat) : Int) > (276 : Int))) (
        sel (x242 == (5 : Int)) (
          ((h246).ldI .u8 i244 (0 + 0)).bind fun x258 =>
          ((h246).ldB i244 (0 + 1)).bind fun x259 =>
          ((h246).ldI .u8 i244 (0 + 2)).bind fun x260 =>
          ((h246).ldB i244 (0 + 3)).bind fun x261 =>
          ((h246).ldI .u8 i244 (0 + 4)).bind fun x262 =>
          ((h246).ldI .u8 i244 (0 + 5)).bind fun x263 =>
          ((h246).ldSl i244 (0 + 6)).bind fun x264 =>
          a16 R x258 x259 x260 x261 x262 x263 x264 (0 : Int) false (0 : Int) false (0 : Int) (0 : Int) (Sl.mk none 0 (.ex 0)) h246 fun x265 h266 =>
          sel x265 (
            a8 R h266 fun x267 h268 =>
            kR x267 h268) (
            kR false h266)) (
          kR false h246)) (
        if 0 ≤ (2 : Int) ∧ (2 : Int) < ((t0.len : Nat) : Int) then (
          (t0.a).bind fun q269 =>
          ((h246).ldI .u8 q269.1 (q269.2 + Int.toNat (2 : Int) * 1)).bind fun x270 =>
          sel ((IntKind.wrap .i64 x270) == (if (63 : Int) < (IntKind.wrap .i64 (((t0.len : Nat) : Int) - (3 : Int))) then (63 : Int) else (IntKind.wrap .i64 (((t0.len : Nat) : Int) - (3 : Int))))) (
            sel ((IntKind.wrap .i64 (((t0.len : Nat) : Int) - (3 : Int))) != (1 : Int)) (
              kN t0 i244 0 x242 true h246) (
              if 0 ≤ (IntKind.wrap .i64 (((t0.len : Nat) : Int) - (1 : Int))) ∧ (IntKind.wrap .i64 (((t0.len : Nat) : Int) - (1 : Int))) < ((t0.len : Nat) : Int) then (
                (t0.a).bind fun q271 =>
                ((h246).ldI .u8 q271.1 (q271.2 + Int.toNat (IntKind.wrap .i64 (((t0.len : Nat) : Int) - (1 : Int))) * 1)).bind fun x272 =>
                kN t0 i244 0 x242 (decide (x272 ≤ (5 : Int))) h246)
              else (
                none))) (
            kN t0 i244 0 x242 false h246))
        else (
          none))))
theorem g4_p0_eq (a8 : T8) (a15 : T15) (a16 : T16) (a10 : T10) (a9 : T9) (a13 : T13) (a14 : T14) (a17 : T17) {R : Type} (c2 : Code) (t0 : Sl) (H : Heap) (K : Ex → Fr → Heap → Option R) : ev Tryd.prog (E4 a8 a15 a16 a10 a9 a13 a14 a17) loopLim Tryd.f4.ntmps kp4 (.seq (codeAt [0] b4) (.seq (codeAt [1, 0, 0] b4) (.seq (.cond (.tmp 11) (.seq (codeAt [1, 0, 1, 0, 0] b4) .ret) .skip) (.seq (codeAt [1, 1, 0] b4) (.seq (codeAt [1, 1, 1, 0, 0] b4) (.seq (.cond (.tmp 25) (.seq (codeAt [1, 1, 1, 0, 1, 0, 0] b4) .ret) .skip) (.seq (codeAt [1, 1, 1, 1, 0] b4) (.seq (codeAt [1, 1, 1, 1, 1, 0] b4) c2)))))))) [(0, (V.sl t0))] H K = g4_p0 a8 a15 a16 a10 a9 a13 a14 a17 R t0 H (fun t0 t3_0 t3_1 t4 t6 H => ev Tryd.prog (E4 a8 a15 a16 a10 a9 a13 a14 a17) loopLim Tryd.f4.ntmps kp4 c2 [(0, (V.sl t0)), (3, (V.p (some (t3_0, t3_1)))), (4, (V.i .i64 t4)), (6, (V.b t6))] H K) (fun t2 H => K .ret [(2, (V.b t2))] H) := by kernel_rfl
theorem g4_p0_lin {a8 : T8} {a15 : T15} {a16 : T16} {a10 : T10} {a9 : T9} {a13 : T13} {a14 : T14} {a17 : T17} (la8 : Lin8 a8) (la15 : Lin15 a15) (la16 : Lin16 a16) (la10 : Lin10 a10) (la9 : Lin9 a9) (la13 : Lin13 a13) (la14 : Lin14 a14) (la17 : Lin17 a17) {R S : Type} {k : S → Option R} {t0 : Sl} {H : Heap} {fkN : Sl → Nat → Nat → Int → Bool → Heap → Option R} {gkN : Sl → Nat → Nat → Int → Bool → Heap → Option S} {fkR : Bool → Heap → Option R} {gkR : Bool → Heap → Option S} (hkN : ∀ t0 t3_0 t3_1 t4 t6 H, fkN t0 t3_0 t3_1 t4 t6 H = (gkN t0 t3_0 t3_1 t4 t6 H).bind k) (hkR : ∀ t2 H, fkR t2 H = (gkR t2 H).bind k) : g4_p0 a8 a15 a16 a10 a9 a13 a14 a17 R t0 H fkN fkR = (g4_p0 a8 a15 a16 a10 a9 a13 a14 a17 S t0 H gkN gkR).bind k := by
  delta g4_p0; exact (
    sl_lin (
      la8.l fun x233 h234 =>
      hkR _ _) (
      la15.l fun x235 x236 x237 x238 x239 x240 x241 x242 h243 =>
      alo_lin fun i244 h245 =>
      bl fun h246 =>
      sl_lin (
        sl_lin (
          bl fun x247 =>
          bl fun x248 =>
          bl fun x249 =>
          bl fun x250 =>
          bl fun x251 =>
          bl fun x252 =>
          bl fun x253 =>
          la16.l fun x254 h255 =>
          sl_lin (
            la8.l fun x256 h257 =>
            hkR _ _) (
            hkR _ _)) (
          hkR _ _)) (
        sl_lin (
          sl_lin (
            bl fun x258 =>
            bl fun x259 =>
            bl fun x260 =>
            bl fun x261 =>
            bl fun x262 =>
            bl fun x263 =>
            bl fun x264 =>
            la16.l fun x265 h266 =>
            sl_lin (
              la8.l fun x267 h268 =>
              hkR _ _) (
              hkR _ _)) (
            hkR _ _)) (
          il (
            bl fun q269 =>
            bl fun x270 =>
            sl_lin (
              sl_lin (
                hkN _ _ _ _ _ _) (
                il (
                  bl fun q271 =>
                  bl fun x272 =>
                  hkN _ _ _ _ _ _) (
                  rfl))) (
              hkN _ _ _ _ _ _)) (
            rfl)))))
noncomputable def g4_p1 (a8 : T8) (a15 : T15) (a16 : T16) (a10 : T10) (a9 : T9) (a13 : T13) (a14 : T14) (a17 : T17) (R : Type) (t0 : Sl) (t3_0 : Nat) (t3_1 : Nat) (t4 : Int) (t6 : Bool) (H : Heap) (kR : Bool → Heap → Option R) : Option R :=
  sel (!t6) (
    sel (t4 == (4 : Int)) (
      ((H).ldI .u8 t3_0 (t3_1 + 0)).bind fun x273 =>
      ((H).ldB t3_0 (t3_1 + 1)).bind fun x274 =>
      ((H).ldI .u8 t3_0 (t3_1 + 2)).bind fun x275 =>
      ((H).ldB t3_0 (t3_1 + 3)).bind fun x276 =>
      ((H).ldI .u8 t3_0 (t3_1 + 4)).bind fun x277 =>
      ((H).ldI .u8 t3_0 (t3_1 + 5)).bind fun x278 =>
      ((H).ldSl t3_0 (t3_1 + 6)).bind fun x279 =>
      a16 R x273 x274 x275 x276 x277 x278 x279 (0 : Int) false (0 : Int) false (0 : Int) (0 : Int) (Sl.mk none 0 (.ex 0)) H fun x280 h281 =>
      sel x280 (
        a8 R h281 fun x282 h283 =>
        kR x282 h283) (
        kR false h281)) (
      kR false H)) (
    ((H).ldI .u8 t3_0 (t3_1 + 0)).bind fun x284 =>
    ((H).ldB t3_0 (t3_1 + 1)).bind fun x285 =>
    ((H).ldI .u8 t3_0 (t3_1 + 2)).bind fun x286 =>
    ((H).ldB t3_0 (t3_1 + 3)).bind fun x287 =>
    ((H).ldI .u8 t3_0 (t3_1 + 4)).bind fun x288 =>
    ((H).ldI .u8 t3_0 (t3_1 + 5)).bind fun x289 =>
    ((H).ldSl t3_0 (t3_1 + 6)).bind fun x290 =>
    a10 R x284 x285 x286 x287 x288 x289 x290 H fun x291 x292 h293 =>
    sel (t4 == (0 : Int)) (
      ((h293).ldI .u8 t3_0 (t3_1 + 0)).bind fun x294 =>
      ((h293).ldB t3_0 (t3_1 + 1)).bind fun x295 =>
      ((h293).ldI .u8 t3_0 (t3_1 + 2)).bind fun x296 =>
      ((h293).ldB t3_0 (t3_1 + 3)).bind fun x297 =>
      ((h293).ldI .u8 t3_0 (t3_1 + 4)).bind fun x298 =>
      ((h293).ldI .u8 t3_0 (t3_1 + 5)).bind fun x299 =>
      ((h293).ldSl t3_0 (t3_1 + 6)).bind fun x300 =>
      a9 R x294 x295 x296 x297 x298 x299 x300 h293 fun x301 h302 =>
      sel (x301 == (0 : Int)) (
        sel (x292 == (0 : Int)) (
          a13 R x291 t0 h302 fun x303 h304 =>
          sel (x303 == (0 : Int)) (
            ((h304).ldI .u8 t3_0 (t3_1 + 0)).bind fun x305 =>
            ((h304).ldB t3_0 (t3_1 + 1)).bind fun x306 =>
            ((h304).ldI .u8 t3_0 (t3_1 + 2)).bind fun x307 =>
            ((h304).ldB t3_0 (t3_1 + 3)).bind fun x308 =>
            ((h304).ldI .u8 t3_0 (t3_1 + 4)).bind fun x309 =>
            ((h304).ldI .u8 t3_0 (t3_1 + 5)).bind fun x310 =>
            ((h304).ldSl t3_0 (t3_1 + 6)).bind fun x311 =>
            a14 R x305 x306 x307 x308 x309 x310 x311 h304 fun x312 h313 =>
            a17 R x312 t0 h313 fun x314 h315 =>
            sel x314 (
              a8 R h315 fun x316 h317 =>
              kR x316 h317) (
              kR false h315)) (
            kR false h304)) (
          kR false h302)) (
        kR false h302)) (
      kR false h293))
theorem g4_p1_eq (a8 : T8) (a15 : T15) (a16 : T16) (a10 : T10) (a9 : T9) (a13 : T13) (a14 : T14) (a17 : T17) (la8 : Lin8 a8) (la15 : Lin15 a15) (la16 : Lin16 a16) (la10 : Lin10 a10) (la9 : Lin9 a9) (la13 : Lin13 a13) (la14 : Lin14 a14) (la17 : Lin17 a17) {R : Type} (t0 : Sl) (t3_0 : Nat) (t3_1 : Nat) (t4 : Int) (t6 : Bool) (H : Heap) (K : Ex → Fr → Heap → Option R) : ev Tryd.prog (E4 a8 a15 a16 a10 a9 a13 a14 a17) loopLim Tryd.f4.ntmps kp4 c4_0 [(0, (V.sl t0)), (3, (V.p (some (t3_0, t3_1)))), (4, (V.i .i64 t4)), (6, (V.b t6))] H K = g4_p1 a8 a15 a16 a10 a9 a13 a14 a17 R t0 t3_0 t3_1 t4 t6 H (fun t2 H => K .ret [(2, (V.b t2))] H) := by kernel_rfl
theorem g4_p1_lin {a8 : T8} {a15 : T15} {a16 : T16} {a10 : T10} {a9 : T9} {a13 : T13} {a14 : T14} {a17 : T17} (la8 : Lin8 a8) (la15 : Lin15 a15) (la16 : Lin16 a16) (la10 : Lin10 a10) (la9 : Lin9 a9) (la13 : Lin13 a13) (la14 : Lin14 a14) (la17 : Lin17 a17) {R S : Type} {k : S → Option R} {t0 : Sl} {t3_0 : Nat} {t3_1 : Nat} {t4 : Int} {t6 : Bool} {H : Heap} {fkR : Bool → Heap → Option R} {gkR : Bool → Heap → Option S} (hkR : ∀ t2 H, fkR t2 H = (gkR t2 H).bind k) : g4_p1 a8 a15 a16 a10 a9 a13 a14 a17 R t0 t3_0 t3_1 t4 t6 H fkR = (g4_p1 a8 a15 a16 a10 a9 a13 a14 a17 S t0 t3_0 t3_1 t4 t6 H gkR).bind k := by
  delta g4_p1; exact (
    sl_lin (
      sl_lin (
        bl fun x273 =>
        bl fun x274 =>
        bl fun x275 =>
        bl fun x276 =>
        bl fun x277 =>
        bl fun x278 =>
        bl fun x279 =>
        la16.l fun x280 h281 =>
        sl_lin (
          la8.l fun x282 h283 =>
          hkR _ _) (
          hkR _ _)) (
        hkR _ _)) (
      bl fun x284 =>
      bl fun x285 =>
      bl fun x286 =>
      bl fun x287 =>
      bl fun x288 =>
      bl fun x289 =>
      bl fun x290 =>
      la10.l fun x291 x292 h293 =>
      sl_lin (
        bl fun x294 =>
        bl fun x295 =>
        bl fun x296 =>
        bl fun x297 =>
        bl fun x298 =>
        bl fun x299 =>
        bl fun x300 =>
        la9.l fun x301 h302 =>
        sl_lin (
          sl_lin (
            la13.l fun x303 h304 =>
            sl_lin (
              bl fun x305 =>
              bl fun x306 =>
              bl fun x307 =>
              bl fun x308 =>
              bl fun x309 =>
              bl fun x310 =>
              bl fun x311 =>
              la14.l fun x312 h313 =>
              la17.l fun x314 h315 =>
              sl_lin (
                la8.l fun x316 h317 =>
                hkR _ _) (
                hkR _ _)) (
              hkR _ _)) (
            hkR _ _)) (
          hkR _ _)) (
        hkR _ _)))
noncomputable def g4_p2 (a8 : T8) (a15 : T15) (a16 : T16) (a10 : T10) (a9 : T9) (a13 : T13) (a14 : T14) (a17 : T17) (R : Type) (t0 : Sl) (H : Heap) (kR : Bool → Heap → Option R) : Option R :=
  g4_p0 a8 a15 a16 a10 a9 a13 a14 a17 R t0 H (fun t0 t3_0 t3_1 t4 t6 H => g4_p1 a8 a15 a16 a10 a9 a13 a14 a17 R t0 t3_0 t3_1 t4 t6 H (fun t2 H => kR t2 H)) (fun t2 H => kR t2 H)
theorem g4_p2_lin {a8 : T8} {a15 : T15} {a16 : T16} {a10 : T10} {a9 : T9} {a13 : T13} {a14 : T14} {a17 : T17} (la8 : Lin8 a8) (la15 : Lin15 a15) (la16 : Lin16 a16) (la10 : Lin10 a10) (la9 : Lin9 a9) (la13 : Lin13 a13) (la14 : Lin14 a14) (la17 : Lin17 a17) {R S : Type} {k : S → Option R} {t0 : Sl} {H : Heap} {fkR : Bool → Heap → Option R} {gkR : Bool → Heap → Option S} (hkR : ∀ t2 H, fkR t2 H = (gkR t2 H).bind k) : g4_p2 a8 a15 a16 a10 a9 a13 a14 a17 R t0 H fkR = (g4_p2 a8 a15 a16 a10 a9 a13 a14 a17 S t0 H gkR).bind k := by
  exact g4_p0_lin la8 la15 la16 la10 la9 la13 la14 la17 (fun _ _ _ _ _ _ => g4_p1_lin la8 la15 la16 la10 la9 la13 la14 la17 (fun _ _ => hkR _ _)) (fun _ _ => hkR _ _)
theorem g4_p2_eq (a8 : T8) (a15 : T15) (a16 : T16) (a10 : T10) (a9 : T9) (a13 : T13) (a14 : T14) (a17 : T17) (la8 : Lin8 a8) (la15 : Lin15 a15) (la16 : Lin16 a16) (la10 : Lin10 a10) (la9 : Lin9 a9) (la13 : Lin13 a13) (la14 : Lin14 a14) (la17 : Lin17 a17) {R : Type} (t0 : Sl) (H : Heap) (K : Ex → Fr → Heap → Option R) : ev Tryd.prog (E4 a8 a15 a16 a10 a9 a13 a14 a17) loopLim Tryd.f4.ntmps kp4 c4_1 [(0, (V.sl t0))] H K = g4_p2 a8 a15 a16 a10 a9 a13 a14 a17 R t0 H (fun t2 H => K .ret [(2, (V.b t2))] H) := by
  show ev Tryd.prog (E4 a8 a15 a16 a10 a9 a13 a14 a17) loopLim Tryd.f4.ntmps kp4 (.seq (codeAt [0] b4) (.seq (codeAt [1, 0, 0] b4) (.seq (.cond (.tmp 11) (.seq (codeAt [1, 0, 1, 0, 0] b4) .ret) .skip) (.seq (codeAt [1, 1, 0] b4) (.seq (codeAt [1, 1, 1, 0, 0] b4) (.seq (.cond (.tmp 25) (.seq (codeAt [1, 1, 1, 0, 1, 0, 0] b4) .ret) .skip) (.seq (codeAt [1, 1, 1, 1, 0] b4) (.seq (codeAt [1, 1, 1, 1, 1, 0] b4) c4_0)))))))) [(0, (V.sl t0))] H K = _
  delta g4_p2
  exact (g4_p0_eq a8 a15 a16 a10 a9 a13 a14 a17 _ t0 H K).trans (congr (congrArg (g4_p0 a8 a15 a16 a10 a9 a13 a14 a17 R t0 H) (funext fun t0 => funext fun t3_0 => funext fun t3_1 => funext fun t4 => funext fun t6 => funext fun H => g4_p1_eq a8 a15 a16 a10 a9 a13 a14 a17 la8 la15 la16 la10 la9 la13 la14 la17 t0 t3_0 t3_1 t4 t6 H K)) rfl)
noncomputable def g4_r (a8 : T8) (a15 : T15) (a16 : T16) (a10 : T10) (a9 : T9) (a13 : T13) (a14 : T14) (a17 : T17) : T4 := fun R t0 H K =>
  g4_p2 a8 a15 a16 a10 a9 a13 a14 a17 R t0 H (fun t2 H =>
    K t2 H)
theorem g4_r_lin {a8 : T8} {a15 : T15} {a16 : T16} {a10 : T10} {a9 : T9} {a13 : T13} {a14 : T14} {a17 : T17} (la8 : Lin8 a8) (la15 : Lin15 a15) (la16 : Lin16 a16) (la10 : Lin10 a10) (la9 : Lin9 a9) (la13 : Lin13 a13) (la14 : Lin14 a14) (la17 : Lin17 a17) : Lin4 (g4_r a8 a15 a16 a10 a9 a13 a14 a17) := by
  constructor
  intro R S k t0 H f g h
  exact g4_p2_lin la8 la15 la16 la10 la9 la13 la14 la17 (fun t2 H =>
    h _ _)
theorem g4_fn (a8 : T8) (a15 : T15) (a16 : T16) (a10 : T10) (a9 : T9) (a13 : T13) (a14 : T14) (a17 : T17) (la8 : Lin8 a8) (la15 : Lin15 a15) (la16 : Lin16 a16) (la10 : Lin10 a10) (la9 : Lin9 a9) (la13 : Lin13 a13) (la14 : Lin14 a14) (la17 : Lin17 a17) {R : Type} (t0 : Sl) (H : Heap) (K : V → Heap → Option R) : evFn Tryd.prog (E4 a8 a15 a16 a10 a9 a13 a14 a17) loopLim Tryd.f4 kp4 [(V.sl t0)] H K = g4_r a8 a15 a16 a10 a9 a13 a14 a17 R t0 H (fun r0 H => K (V.b r0) H) := by
  have h0 : ∀ (t2 : Bool) (H : Heap), kFn Tryd.prog Tryd.f4.results.toList K .ret [(2, (V.b t2))] H =
      K (V.b t2) H := by intros; kernel_rfl
  have e0 := evFn_code2 (P := Tryd.prog) (c := c4_1) (E := (E4 a8 a15 a16 a10 a9 a13 a14 a17)) (lr := loopLim) (kp := kp4) (fn := Tryd.f4) (args := [(V.sl t0)]) H K (by kernel_rfl) (Nat.le_of_ble_eq_true (by kernel_rfl)) (by kernel_rfl)
  have e1 : ev Tryd.prog (E4 a8 a15 a16 a10 a9 a13 a14 a17) loopLim Tryd.f4.ntmps kp4 c4_1 (argFr 0 [(V.sl t0)]) H (kFn Tryd.prog Tryd.f4.results.toList K) = ev Tryd.prog (E4 a8 a15 a16 a10 a9 a13 a14 a17) loopLim Tryd.f4.ntmps kp4 c4_1 [(0, (V.sl t0))] H (kFn Tryd.prog Tryd.f4.results.toList K) := by kernel_rfl
  refine (e0.trans e1).trans ?_
  delta g4_r
  exact (g4_p2_eq a8 a15 a16 a10 a9 a13 a14 a17 la8 la15 la16 la10 la9 la13 la14 la17 t0 H (kFn Tryd.prog Tryd.f4.results.toList K)).trans (congrArg (g4_p2 a8 a15 a16 a10 a9 a13 a14 a17 R t0 H) (funext fun t2 => funext fun H => h0 t2 H))
theorem g4_ok {a8 : T8} {a15 : T15} {a16 : T16} {a10 : T10} {a9 : T9} {a13 : T13} {a14 : T14} {a17 : T17} (oa8 : FunOK Tryd.prog 8 (w8 a8)) (oa15 : FunOK Tryd.prog 15 (w15 a15)) (oa16 : FunOK Tryd.prog 16 (w16 a16)) (oa10 : FunOK Tryd.prog 10 (w10 a10)) (oa9 : FunOK Tryd.prog 9 (w9 a9)) (oa13 : FunOK Tryd.prog 13 (w13 a13)) (oa14 : FunOK Tryd.prog 14 (w14 a14)) (oa17 : FunOK Tryd.prog 17 (w17 a17)) (la8 : Lin8 a8) (la15 : Lin15 a15) (la16 : Lin16 a16) (la10 : Lin10 a10) (la9 : Lin9 a9) (la13 : Lin13 a13) (la14 : Lin14 a14) (la17 : Lin17 a17) : FunOK Tryd.prog 4 (w4 (g4_r a8 a15 a16 a10 a9 a13 a14 a17)) := by
  refine (runF_ok (E4_good oa8 oa15 oa16 oa10 oa9 oa13 oa14 oa17 la8 la15 la16 la10 la9 la13 la14 la17) mixed lim_ok Tryd.func4 (by kernel_rfl) kp4).of_le fun R args H K r hk => ?_
  unfold w4 at hk
  split at hk
  · exact (g4_fn a8 a15 a16 a10 a9 a13 a14 a17 la8 la15 la16 la10 la9 la13 la14 la17 _ H K).trans hk
  · cases hk
def kp33 : Nat → Option (List Nat) := kpOf [(0, [0, 1]), (1, [0, 1, 10]), (2, [4]), (3, [0, 1, 12, 13]), (4, [0, 1, 12, 13, 14]), (5, [0, 1, 5, 12, 13]), (6, [0, 1, 12, 13, 24]), (7, [4]), (8, [0, 1, 12, 13]), (9, [4]), (100000, []), (100001, [0, 1, 12, 13]), (200000, [0, 1, 12, 13]), (200001, [0, 1, 12, 13]), (300000, [4]), (400010, [0, 1]), (400014, [0, 1, 12, 13]), (400024, [0, 1, 12, 13])]
def E33 : FEnv := []
theorem E33_good : EnvGood Tryd.prog E33 := (EnvGood.nil _)
theorem E33_lin : EnvLin E33 := fun g F h => by cases h
noncomputable def b33 : Code := Tryd.f33.body.getD .skip
noncomputable def c33_0 : Code := (.seq (codeAt [1, 1, 0, 1, 0, 0, 0] b33) (.seq (.cond (.tmp 14) .skip (.exit 0)) (.seq (.block 1 (.seq (codeAt [1, 1, 0, 1, 0, 0, 1, 1, 0, 0, 0] b33) (.seq (codeAt [1, 1, 0, 1, 0, 0, 1, 1, 0, 0, 1, 0] b33) (.cond (.tmp 24) (.seq (codeAt [1, 1, 0, 1, 0, 0, 1, 1, 0, 0, 1, 1, 0, 0] b33) .ret) .skip)))) (codeAt [1, 1, 0, 1, 0, 0, 1, 1, 1] b33))))
noncomputable def c33_1 : Code := (.loop c33_0)
noncomputable def c33_2 : Code := (.block 0 c33_1)
noncomputable def c33_3 : Code := (.seq (codeAt [1, 1, 1, 0] b33) .ret)
noncomputable def c33_4 : Code := (.seq c33_2 c33_3)
noncomputable def c33_5 : Code := (.seq (codeAt [0] b33) (.seq (codeAt [1, 0, 0] b33) (.seq (.cond (.tmp 10) (.seq (codeAt [1, 0, 1, 0, 0] b33) .ret) .skip) (.seq (codeAt [1, 1, 0, 0] b33) c33_4))))
noncomputable def g33_p0 (R : Type) (t0 : Sl) (t1 : Sl) (H : Heap) (kN : Sl → Sl → Int → Int → Heap → Option R) (kR : Bool → Heap → Option R) : Option R :=
  sel (((t0.len : Nat) : Int) != ((t1.len : Nat) : Int)) (
    kR false H) (
    kN t0 t1 ((t0.len : Nat) : Int) (0 : Int) H)
theorem g33_p0_eq {R : Type} (c2 : Code) (t0 : Sl) (t1 : Sl) (H : Heap) (K : Ex → Fr → Heap → Option R) : ev Tryd.prog E33 loopLim Tryd.f33.ntmps kp33 (.seq (codeAt [0] b33) (.seq (codeAt [1, 0, 0] b33) (.seq (.cond (.tmp 10) (.seq (codeAt [1, 0, 1, 0, 0] b33) .ret) .skip) (.seq (codeAt [1, 1, 0, 0] b33) c2)))) [(0, (V.sl t0)), (1, (V.sl t1))] H K = g33_p0 R t0 t1 H (fun t0 t1 t12 t13 H => ev Tryd.prog E33 loopLim Tryd.f33.ntmps kp33 c2 [(0, (V.sl t0)), (1, (V.sl t1)), (12, (V.i .i64 t12)), (13, (V.i .i64 t13))] H K) (fun t4 H => K .ret [(4, (V.b t4))] H) := by kernel_rfl
theorem g33_p0_lin {R S : Type} {k : S → Option R} {t0 : Sl} {t1 : Sl} {H : Heap} {fkN : Sl → Sl → Int → Int → Heap → Option R} {gkN : Sl → Sl → Int → Int → Heap → Option S} {fkR : Bool → Heap → Option R} {gkR : Bool → Heap → Option S} (hkN : ∀ t0 t1 t12 t13 H, fkN t0 t1 t12 t13 H = (gkN t0 t1 t12 t13 H).bind k) (hkR : ∀ t4 H, fkR t4 H = (gkR t4 H).bind k) : g33_p0 R t0 t1 H fkN fkR = (g33_p0 S t0 t1 H gkN gkR).bind k := by
  delta g33_p0; exact (
    sl_lin (
      hkR _ _) (
      hkN _ _ _ _ _))
noncomputable def g33_p1 (R : Type) (t0 : Sl) (t1 : Sl) (t12 : Int) (t13 : Int) (H : Heap) (kN : Sl → Sl → Int → Int → Heap → Option R) (kE0 : Heap → Option R) (kR : Bool → Heap → Option R) : Option R :=
  sel (decide (t13 < t12)) (
    if 0 ≤ t13 ∧ t13 < ((t0.len : Nat) : Int) then (
      (t0.a).bind fun q1 =>
      ((H).ldI .u8 q1.1 (q1.2 + Int.toNat t13 * 1)).bind fun x2 =>
      if 0 ≤ t13 ∧ t13 < ((t1.len : Nat) : Int) then (
        (t1.a).bind fun q3 =>
        ((H).ldI .u8 q3.1 (q3.2 + Int.toNat t13 * 1)).bind fun x4 =>
        sel (x2 != x4) (
          kR false H) (
          kN t0 t1 t12 (IntKind.wrap .i64 (t13 + (1 : Int))) H))
      else (
        none))
    else (
      none)) (
    kE0 H)
theorem g33_p1_eq {R : Type} (t0 : Sl) (t1 : Sl) (t12 : Int) (t13 : Int) (H : Heap) (K : Ex → Fr → Heap → Option R) : ev Tryd.prog E33 loopLim Tryd.f33.ntmps kp33 c33_0 [(0, (V.sl t0)), (1, (V.sl t1)), (12, (V.i .i64 t12)), (13, (V.i .i64 t13))] H K = g33_p1 R t0 t1 t12 t13 H (fun t0 t1 t12 t13 H => K .normal [(0, (V.sl t0)), (1, (V.sl t1)), (12, (V.i .i64 t12)), (13, (V.i .i64 t13))] H) (fun H => K (.exit 0) [] H) (fun t4 H => K .ret [(4, (V.b t4))] H) := by kernel_rfl
theorem g33_p1_lin {R S : Type} {k : S → Option R} {t0 : Sl} {t1 : Sl} {t12 : Int} {t13 : Int} {H : Heap} {fkN : Sl → Sl → Int → Int → Heap → Option R} {gkN : Sl → Sl → Int → Int → Heap → Option S} {fkE0 : Heap → Option R} {gkE0 : Heap → Option S} {fkR : Bool → Heap → Option R} {gkR : Bool → Heap → Option S} (hkN : ∀ t0 t1 t12 t13 H, fkN t0 t1 t12 t13 H = (gkN t0 t1 t12 t13 H).bind k) (hkE0 : ∀ H, fkE0 H = (gkE0 H).bind k) (hkR : ∀ t4 H, fkR t4 H = (gkR t4 H).bind k) : g33_p1 R t0 t1 t12 t13 H fkN fkE0 fkR = (g33_p1 S t0 t1 t12 t13 H gkN gkE0 gkR).bind k := by
  delta g33_p1; exact (
    sl_lin (
      il (
        bl fun q1 =>
        bl fun x2 =>
        il (
          bl fun q3 =>
          bl fun x4 =>
          sl_lin (
            hkR _ _) (
            hkN _ _ _ _ _)) (
          rfl)) (
        rfl)) (
      hkE0 _))
abbrev g33_p2_S := Sl × Sl × Int × Int
abbrev g33_p2_O := Sum (Unit) (Bool)
def g33_p2_es (s : g33_p2_S) : Fr := [(0, (V.sl s.1)), (1, (V.sl s.2.1)), (12, (V.i .i64 s.2.2.1)), (13, (V.i .i64 s.2.2.2))]
def g33_p2_er : g33_p2_O → Ex × Fr
  | (.inl r) => ((.exit 0), [])
  | (.inr r) => (.ret, [(4, (V.b r))])
noncomputable def g33_p2_b (s : g33_p2_S) (H : Heap) : Option (Rd g33_p2_S g33_p2_O × Heap) :=
  g33_p1 _ s.1 s.2.1 s.2.2.1 s.2.2.2 H (fun t0 t1 t12 t13 H => some (.go (t0, t1, t12, t13), H)) (fun H => some (.up (.inl ()), H)) (fun t4 H => some (.up (.inr t4), H))
noncomputable def g33_p2 (R : Type) (t0 : Sl) (t1 : Sl) (t12 : Int) (t13 : Int) (H : Heap) (kE0 : Heap → Option R) (kR : Bool → Heap → Option R) : Option R :=
  (tlim (g33_p2_b) (t0, t1, t12, t13) H).bind fun p => cas p.1 (fun r => kE0  p.2) (fun r0 => kR r0 p.2)
theorem g33_p2_lin {R S : Type} {k : S → Option R} {t0 : Sl} {t1 : Sl} {t12 : Int} {t13 : Int} {H : Heap} {fkE0 : Heap → Option R} {gkE0 : Heap → Option S} {fkR : Bool → Heap → Option R} {gkR : Bool → Heap → Option S} (hkE0 : ∀ H, fkE0 H = (gkE0 H).bind k) (hkR : ∀ t4 H, fkR t4 H = (gkR t4 H).bind k) : g33_p2 R t0 t1 t12 t13 H fkE0 fkR = (g33_p2 S t0 t1 t12 t13 H gkE0 gkR).bind k := by
  exact bl fun p => cas_lin (fun _ => hkE0 _) (fun _ => hkR _ _)
theorem g33_p2_eq {R : Type} (t0 : Sl) (t1 : Sl) (t12 : Int) (t13 : Int) (H : Heap) (K : Ex → Fr → Heap → Option R) : ev Tryd.prog E33 loopLim Tryd.f33.ntmps kp33 c33_1 [(0, (V.sl t0)), (1, (V.sl t1)), (12, (V.i .i64 t12)), (13, (V.i .i64 t13))] H K = g33_p2 R t0 t1 t12 t13 H (fun H => K (.exit 0) [] H) (fun t4 H => K .ret [(4, (V.b t4))] H) := by
  show ev Tryd.prog E33 loopLim Tryd.f33.ntmps kp33 (.loop c33_0) [(0, (V.sl t0)), (1, (V.sl t1)), (12, (V.i .i64 t12)), (13, (V.i .i64 t13))] H K = _
  delta g33_p2
  refine (ev_tlim (b := g33_p2_b) (es := g33_p2_es) (er := g33_p2_er) (by rintro (r | r) <;> exact nofun) (fun s H => ?_) (t0, t1, t12, t13) H K).trans (bc fun p => by rcases p with ⟨(r | r), H⟩ <;> rfl)
  exact (g33_p1_eq s.1 s.2.1 s.2.2.1 s.2.2.2 H ret3).trans (g33_p1_lin (fun _ _ _ _ _ => rfl) (fun _ => rfl) (fun _ _ => rfl))
noncomputable def g33_p3 (R : Type) (t0 : Sl) (t1 : Sl) (t12 : Int) (t13 : Int) (H : Heap) (kN : Heap → Option R) (kR : Bool → Heap → Option R) : Option R :=
  g33_p2 R t0 t1 t12 t13 H (fun H => kN  H) (fun t4 H => kR t4 H)
theorem g33_p3_lin {R S : Type} {k : S → Option R} {t0 : Sl} {t1 : Sl} {t12 : Int} {t13 : Int} {H : Heap} {fkN : Heap → Option R} {gkN : Heap → Option S} {fkR : Bool → Heap → Option R} {gkR : Bool → Heap → Option S} (hkN : ∀ H, fkN H = (gkN H).bind k) (hkR : ∀ t4 H, fkR t4 H = (gkR t4 H).bind k) : g33_p3 R t0 t1 t12 t13 H fkN fkR = (g33_p3 S t0 t1 t12 t13 H gkN gkR).bind k := by
  exact g33_p2_lin (fun _ => hkN _) (fun _ _ => hkR _ _)
theorem g33_p3_eq {R : Type} (t0 : Sl) (t1 : Sl) (t12 : Int) (t13 : Int) (H : Heap) (K : Ex → Fr → Heap → Option R) : ev Tryd.prog E33 loopLim Tryd.f33.ntmps kp33 c33_2 [(0, (V.sl t0)), (1, (V.sl t1)), (12, (V.i .i64 t12)), (13, (V.i .i64 t13))] H K = g33_p3 R t0 t1 t12 t13 H (fun H => K .normal [] H) (fun t4 H => K .ret [(4, (V.b t4))] H) := by
  show ev Tryd.prog E33 loopLim Tryd.f33.ntmps kp33 (.block 0 c33_1) [(0, (V.sl t0)), (1, (V.sl t1)), (12, (V.i .i64 t12)), (13, (V.i .i64 t13))] H K = _
  rw [ev_block]
  delta g33_p3
  exact (g33_p2_eq t0 t1 t12 t13 H (kBlock kp33 0 K))
noncomputable def g33_p4 (R : Type) (H : Heap) (kR : Bool → Heap → Option R) : Option R :=
  kR true H
theorem g33_p4_eq {R : Type} (H : Heap) (K : Ex → Fr → Heap → Option R) : ev Tryd.prog E33 loopLim Tryd.f33.ntmps kp33 c33_3 [] H K = g33_p4 R H (fun t4 H => K .ret [(4, (V.b t4))] H) := by kernel_rfl
theorem g33_p4_lin {R S : Type} {k : S → Option R} {H : Heap} {fkR : Bool → Heap → Option R} {gkR : Bool → Heap → Option S} (hkR : ∀ t4 H, fkR t4 H = (gkR t4 H).bind k) : g33_p4 R H fkR = (g33_p4 S H gkR).bind k := by
  delta g33_p4; exact (
    hkR _ _)
noncomputable def g33_p5 (R : Type) (t0 : Sl) (t1 : Sl) (t12 : Int) (t13 : Int) (H : Heap) (kR : Bool → Heap → Option R) : Option R :=
  g33_p3 R t0 t1 t12 t13 H (fun H => g33_p4 R H (fun t4 H => kR t4 H)) (fun t4 H => kR t4 H)
theorem g33_p5_lin {R S : Type} {k : S → Option R} {t0 : Sl} {t1 : Sl} {t12 : Int} {t13 : Int} {H : Heap} {fkR : Bool → Heap → Option R} {gkR : Bool → Heap → Option S} (hkR : ∀ t4 H, fkR t4 H = (gkR t4 H).bind k) : g33_p5 R t0 t1 t12 t13 H fkR = (g33_p5 S t0 t1 t12 t13 H gkR).bind k := by
  exact g33_p3_lin (fun _ => g33_p4_lin (fun _ _ => hkR _ _)) (fun _ _ => hkR _ _)
theorem g33_p5_eq {R : Type} (t0 : Sl) (t1 : Sl) (t12 : Int) (t13 : Int) (H : Heap) (K : Ex → Fr → Heap → Option R) : ev Tryd.prog E33 loopLim Tryd.f33.ntmps kp33 c33_4 [(0, (V.sl t0)), (1, (V.sl t1)), (12, (V.i .i64 t12)), (13, (V.i .i64 t13))] H K = g33_p5 R t0 t1 t12 t13 H (fun t4 H => K .ret [(4, (V.b t4))] H) := by
  show ev Tryd.prog E33 loopLim Tryd.f33.ntmps kp33 (.seq c33_2 c33_3) [(0, (V.sl t0)), (1, (V.sl t1)), (12, (V.i .i64 t12)), (13, (V.i .i64 t13))] H K = _
  rw [ev_seq]
  delta g33_p5
  exact (g33_p3_eq t0 t1 t12 t13 H (kSeq (fun fr H => ev Tryd.prog E33 loopLim Tryd.f33.ntmps kp33 c33_3 fr H K) K)).trans (congr (congrArg (g33_p3 R t0 t1 t12 t13 H) (funext fun H => (kSeq_n _ _ _ _).trans (g33_p4_eq H K))) rfl)
noncomputable def g33_p6 (R : Type) (t0 : Sl) (t1 : Sl) (H : Heap) (kR : Bool → Heap → Option R) : Option R :=
  g33_p0 R t0 t1 H (fun t0 t1 t12 t13 H => g33_p5 R t0 t1 t12 t13 H (fun t4 H => kR t4 H)) (fun t4 H => kR t4 H)
theorem g33_p6_lin {R S : Type} {k : S → Option R} {t0 : Sl} {t1 : Sl} {H : Heap} {fkR : Bool → Heap → Option R} {gkR : Bool → Heap → Option S} (hkR : ∀ t4 H, fkR t4 H = (gkR t4 H).bind k) : g33_p6 R t0 t1 H fkR = (g33_p6 S t0 t1 H gkR).bind k := by
  exact g33_p0_lin (fun _ _ _ _ _ => g33_p5_lin (fun _ _ => hkR _ _)) (fun _ _ => hkR _ _)
theorem g33_p6_eq {R : Type} (t0 : Sl) (t1 : Sl) (H : Heap) (K : Ex → Fr → Heap → Option R) : ev Tryd.prog E33 loopLim Tryd.f33.ntmps kp33 c33_5 [(0, (V.sl t0)), (1, (V.sl t1))] H K = g33_p6 R t0 t1 H (fun t4 H => K .ret [(4, (V.b t4))] H) := by
  show ev Tryd.prog E33 loopLim Tryd.f33.ntmps kp33 (.seq (codeAt [0] b33) (.seq (codeAt [1, 0, 0] b33) (.seq (.cond (.tmp 10) (.seq (codeAt [1, 0, 1, 0, 0] b33) .ret) .skip) (.seq (codeAt [1, 1, 0, 0] b33) c33_4)))) [(0, (V.sl t0)), (1, (V.sl t1))] H K = _
  delta g33_p6
  exact (g33_p0_eq _ t0 t1 H K).trans (congr (congrArg (g33_p0 R t0 t1 H) (funext fun t0 => funext fun t1 => funext fun t12 => funext fun t13 => funext fun H => g33_p5_eq t0 t1 t12 t13 H K)) rfl)
noncomputable def g33_r : T33 := fun R t0 t1 H K =>
  g33_p6 R t0 t1 H (fun t4 H =>
    K t4 H)
theorem g33_r_lin : Lin33 (g33_r) := by
  constructor
  intro R S k t0 t1 H f g h
  exact g33_p6_lin (fun t4 H =>
    h _ _)
theorem g33_fn {R : Type} (t0 : Sl) (t1 : Sl) (H : Heap) (K : V → Heap → Option R) : evFn Tryd.prog E33 loopLim Tryd.f33 kp33 [(V.sl t0), (V.sl t1)] H K = g33_r R t0 t1 H (fun r0 H => K (V.b r0) H) := by
  have h0 : ∀ (t4 : Bool) (H : Heap), kFn Tryd.prog Tryd.f33.results.toList K .ret [(4, (V.b t4))] H =
      K (V.b t4) H := by intros; kernel_rfl
  have e0 := evFn_code2 (P := Tryd.prog) (c := c33_5) (E := E33) (lr := loopLim) (kp := kp33) (fn := Tryd.f33) (args := [(V.sl t0), (V.sl t1)]) H K (by kernel_rfl) (Nat.le_of_ble_eq_true (by kernel_rfl)) (by kernel_rfl)
  have e1 : ev Tryd.prog E33 loopLim Tryd.f33.ntmps kp33 c33_5 (argFr 0 [(V.sl t0), (V.sl t1)]) H (kFn Tryd.prog Tryd.f33.results.toList K) = ev Tryd.prog E33 loopLim Tryd.f33.ntmps kp33 c33_5 [(0, (V.sl t0)), (1, (V.sl t1))] H (kFn Tryd.prog Tryd.f33.results.toList K) := by kernel_rfl
  refine (e0.trans e1).trans ?_
  delta g33_r
  exact (g33_p6_eq t0 t1 H (kFn Tryd.prog Tryd.f33.results.toList K)).trans (congrArg (g33_p6 R t0 t1 H) (funext fun t4 => funext fun H => h0 t4 H))
theorem g33_ok : FunOK Tryd.prog 33 (w33 (g33_r)) := by
  refine (runF_ok (E33_good) mixed lim_ok Tryd.func33 (by kernel_rfl) kp33).of_le fun R args H K r hk => ?_
  unfold w33 at hk
  split at hk
  · exact (g33_fn _ _ H K).trans hk
  · cases hk
def kp18 : Nat → Option (List Nat) := kpOf [(0, [2, 3]), (1, [2, 3, 5]), (2, [4]), (300000, [4])]
def E18 (a33 : T33) : FEnv := [(33, w33 a33)]
theorem E18_good {a33 : T33} (oa33 : FunOK Tryd.prog 33 (w33 a33)) (la33 : Lin33 a33) : EnvGood Tryd.prog (E18 a33) := ((EnvGood.nil _).cons oa33 (w33_lin la33))
theorem E18_lin {a33 : T33} (la33 : Lin33 a33) : EnvLin (E18 a33) := by
  intro g F h
  simp only [E18, List.mem_cons, List.not_mem_nil, or_false] at h
  rcases h with h
  · cases h; exact w33_lin la33
noncomputable def b18 : Code := Tryd.f18.body.getD .skip
noncomputable def c18_0 : Code := (.seq (codeAt [0] b18) (.seq (codeAt [1, 0] b18) (.seq (codeAt [1, 1, 0] b18) .ret)))
noncomputable def g18_p0 (a33 : T33) (R : Type) (t0_0 : Int) (t0_1 : Bool) (t0_2 : Int) (t0_3 : Bool) (t0_4 : Int) (t0_5 : Int) (t0_6 : Sl) (t1_0 : Int) (t1_1 : Bool) (t1_2 : Int) (t1_3 : Bool) (t1_4 : Int) (t1_5 : Int) (t1_6 : Sl) (H : Heap) (kR : Bool → Heap → Option R) : Option R :=
  alo H (.cells [(V.i .u8 t0_0), (V.b t0_1), (V.i .u8 t0_2), (V.b t0_3), (V.i .u8 t0_4), (V.i .u8 t0_5), (V.sl t0_6)] 25 false) fun i1 h2 =>
  alo h2 (.cells [(V.i .u8 t1_0), (V.b t1_1), (V.i .u8 t1_2), (V.b t1_3), (V.i .u8 t1_4), (V.i .u8 t1_5), (V.sl t1_6)] 25 false) fun i3 h4 =>
  ((h4).ldSl i1 (0 + 6)).bind fun x5 =>
  ((h4).ldSl i3 (0 + 6)).bind fun x6 =>
  a33 R x5 x6 h4 fun x7 h8 =>
  sel x7 (
    ((h8).ldI .u8 i1 (0 + 0)).bind fun x9 =>
    ((h8).ldI .u8 i3 (0 + 0)).bind fun x10 =>
    sel (x9 == x10) (
      ((h8).ldB i1 (0 + 1)).bind fun x11 =>
      ((h8).ldB i3 (0 + 1)).bind fun x12 =>
      sel (x11 == x12) (
        ((h8).ldI .u8 i1 (0 + 2)).bind fun x13 =>
        ((h8).ldI .u8 i3 (0 + 2)).bind fun x14 =>
        sel (x13 == x14) (
          ((h8).ldB i1 (0 + 3)).bind fun x15 =>
          ((h8).ldB i3 (0 + 3)).bind fun x16 =>
          sel (x15 == x16) (
            ((h8).ldI .u8 i1 (0 + 4)).bind fun x17 =>
            ((h8).ldI .u8 i3 (0 + 4)).bind fun x18 =>
            sel (x17 == x18) (
              ((h8).ldI .u8 i1 (0 + 5)).bind fun x19 =>
              ((h8).ldI .u8 i3 (0 + 5)).bind fun x20 =>
              kR (x19 == x20) h8) (
              kR false h8)) (
            kR false h8)) (
          kR false h8)) (
        kR false h8)) (
      kR false h8)) (
    kR false h8)
theorem g18_p0_eq (a33 : T33) (la33 : Lin33 a33) {R : Type} (t0_0 : Int) (t0_1 : Bool) (t0_2 : Int) (t0_3 : Bool) (t0_4 : Int) (t0_5 : Int) (t0_6 : Sl) (t1_0 : Int) (t1_1 : Bool) (t1_2 : Int) (t1_3 : Bool) (t1_4 : Int) (t1_5 : Int) (t1_6 : Sl) (H : Heap) (K : Ex → Fr → Heap → Option R) : ev Tryd.prog (E18 a33) loopLim Tryd.f18.ntmps kp18 c18_0 [(0, (V.agg [(V.i .u8 t0_0), (V.b t0_1), (V.i .u8 t0_2), (V.b t0_3), (V.i .u8 t0_4), (V.i .u8 t0_5), (V.sl t0_6)])), (1, (V.agg [(V.i .u8 t1_0), (V.b t1_1), (V.i .u8 t1_2), (V.b t1_3), (V.i .u8 t1_4), (V.i .u8 t1_5), (V.sl t1_6)]))] H K = g18_p0 a33 R t0_0 t0_1 t0_2 t0_3 t0_4 t0_5 t0_6 t1_0 t1_1 t1_2 t1_3 t1_4 t1_5 t1_6 H (fun t4 H => K .ret [(4, (V.b t4))] H) := by kernel_rfl
theorem g18_p0_lin {a33 : T33} (la33 : Lin33 a33) {R S : Type} {k : S → Option R} {t0_0 : Int} {t0_1 : Bool} {t0_2 : Int} {t0_3 : Bool} {t0_4 : Int} {t0_5 : Int} {t0_6 : Sl} {t1_0 : Int} {t1_1 : Bool} {t1_2 : Int} {t1_3 : Bool} {t1_4 : Int} {t1_5 : Int} {t1_6 : Sl} {H : Heap} {fkR : Bool → Heap → Option R} {gkR : Bool → Heap → Option S} (hkR : ∀ t4 H, fkR t4 H = (gkR t4 H).bind k) : g18_p0 a33 R t0_0 t0_1 t0_2 t0_3 t0_4 t0_5 t0_6 t1_0 t1_1 t1_2 t1_3 t1_4 t1_5 t1_6 H fkR = (g18_p0 a33 S t0_0 t0_1 t0_2 t0_3 t0_4 t0_5 t0_6 t1_0 t1_1 t1_2 t1_3 t1_4 t1_5 t1_6 H gkR).bind k := by
  delta g18_p0; exact (
    alo_lin fun i1 h2 =>
    alo_lin fun i3 h4 =>
    bl fun x5 =>
    bl fun x6 =>
    la33.l fun x7 h8 =>
    sl_lin (
      bl fun x9 =>
      bl fun x10 =>
      sl_lin (
        bl fun x11 =>
        bl fun x12 =>
        sl_lin (
          bl fun x13 =>
          bl fun x14 =>
          sl_lin (
            bl fun x15 =>
            bl fun x16 =>
            sl_lin (
              bl fun x17 =>
              bl fun x18 =>
              sl_lin (
                bl fun x19 =>
                bl fun x20 =>
                hkR _ _) (
                hkR _ _)) (
              hkR _ _)) (
            hkR _ _)) (
          hkR _ _)) (
        hkR _ _)) (
      hkR _ _))
noncomputable def g18_r (a33 : T33) : T18 := fun R t0_0 t0_1 t0_2 t0_3 t0_4 t0_5 t0_6 t1_0 t1_1 t1_2 t1_3 t1_4 t1_5 t1_6 H K =>
  g18_p0 a33 R t0_0 t0_1 t0_2 t0_3 t0_4 t0_5 t0_6 t1_0 t1_1 t1_2 t1_3 t1_4 t1_5 t1_6 H (fun t4 H =>
    K t4 H)
theorem g18_r_lin {a33 : T33} (la33 : Lin33 a33) : Lin18 (g18_r a33) := by
  constructor
  intro R S k t0_0 t0_1 t0_2 t0_3 t0_4 t0_5 t0_6 t1_0 t1_1 t1_2 t1_3 t1_4 t1_5 t1_6 H f g h
  exact g18_p0_lin la33 (fun t4 H =>
    h _ _)
theorem g18_fn (a33 : T33) (la33 : Lin33 a33) {R : Type} (t0_0 : Int) (t0_1 : Bool) (t0_2 : Int) (t0_3 : Bool) (t0_4 : Int) (t0_5 : Int) (t0_6 : Sl) (t1_0 : Int) (t1_1 : Bool) (t1_2 : Int) (t1_3 : Bool) (t1_4 : Int) (t1_5 : Int) (t1_6 : Sl) (H : Heap) (K : V → Heap → Option R) : evFn Tryd.prog (E18 a33) loopLim Tryd.f18 kp18 [(V.agg [(V.i .u8 t0_0), (V.b t0_1), (V.i .u8 t0_2), (V.b t0_3), (V.i .u8 t0_4), (V.i .u8 t0_5), (V.sl t0_6)]), (V.agg [(V.i .u8 t1_0), (V.b t1_1), (V.i .u8 t1_2), (V.b t1_3), (V.i .u8 t1_4), (V.i .u8 t1_5), (V.sl t1_6)])] H K = g18_r a33 R t0_0 t0_1 t0_2 t0_3 t0_4 t0_5 t0_6 t1_0 t1_1 t1_2 t1_3 t1_4 t1_5 t1_6 H (fun r0 H => K (V.b r0) H) := by
  have h0 : ∀ (t4 : Bool) (H : Heap), kFn Tryd.prog Tryd.f18.results.toList K .ret [(4, (V.b t4))] H =
      K (V.b t4) H := by intros; kernel_rfl
  have e0 := evFn_code2 (P := Tryd.prog) (c := c18_0) (E := (E18 a33)) (lr := loopLim) (kp := kp18) (fn := Tryd.f18) (args := [(V.agg [(V.i .u8 t0_0), (V.b t0_1), (V.i .u8 t0_2), (V.b t0_3), (V.i .u8 t0_4), (V.i .u8 t0_5), (V.sl t0_6)]), (V.agg [(V.i .u8 t1_0), (V.b t1_1), (V.i .u8 t1_2), (V.b t1_3), (V.i .u8 t1_4), (V.i .u8 t1_5), (V.sl t1_6)])]) H K (by kernel_rfl) (Nat.le_of_ble_eq_true (by kernel_rfl)) (by kernel_rfl)
  have e1 : ev Tryd.prog (E18 a33) loopLim Tryd.f18.ntmps kp18 c18_0 (argFr 0 [(V.agg [(V.i .u8 t0_0), (V.b t0_1), (V.i .u8 t0_2), (V.b t0_3), (V.i .u8 t0_4), (V.i .u8 t0_5), (V.sl t0_6)]), (V.agg [(V.i .u8 t1_0), (V.b t1_1), (V.i .u8 t1_2), (V.b t1_3), (V.i .u8 t1_4), (V.i .u8 t1_5), (V.sl t1_6)])]) H (kFn Tryd.prog Tryd.f18.results.toList K) = ev Tryd.prog (E18 a33) loopLim Tryd.f18.ntmps kp18 c18_0 [(0, (V.agg [(V.i .u8 t0_0), (V.b t0_1), (V.i .u8 t0_2), (V.b t0_3), (V.i .u8 t0_4), (V.i .u8 t0_5), (V.sl t0_6)])), (1, (V.agg [(V.i .u8 t1_0), (V.b t1_1), (V.i .u8 t1_2), (V.b t1_3), (V.i .u8 t1_4), (V.i .u8 t1_5), (V.sl t1_6)]))] H (kFn Tryd.prog Tryd.f18.results.toList K) := by kernel_rfl
  refine (e0.trans e1).trans ?_
  delta g18_r
  exact (g18_p0_eq a33 la33 t0_0 t0_1 t0_2 t0_3 t0_4 t0_5 t0_6 t1_0 t1_1 t1_2 t1_3 t1_4 t1_5 t1_6 H (kFn Tryd.prog Tryd.f18.results.toList K)).trans (congrArg (g18_p0 a33 R t0_0 t0_1 t0_2 t0_3 t0_4 t0_5 t0_6 t1_0 t1_1 t1_2 t1_3 t1_4 t1_5 t1_6 H) (funext fun t4 => funext fun H => h0 t4 H))
theorem g18_ok {a33 : T33} (oa33 : FunOK Tryd.prog 33 (w33 a33)) (la33 : Lin33 a33) : FunOK Tryd.prog 18 (w18 (g18_r a33)) := by
  refine (runF_ok (E18_good oa33 la33) mixed lim_ok Tryd.func18 (by kernel_rfl) kp18).of_le fun R args H K r hk => ?_
  unfold w18 at hk
  split at hk
  · exact (g18_fn a33 la33 _ _ _ _ _ _ _ _ _ _ _ _ _ _ H K).trans hk
  · cases hk
end Go.Proofs.YteipplgcdbaokaaDoor

