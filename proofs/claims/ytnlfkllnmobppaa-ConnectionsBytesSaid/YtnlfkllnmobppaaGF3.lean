/- Printed: functions as the machine runs them. -/
import Derived.Test.YtnlfkllnmobppaaGT
namespace Go.Proofs.Ytnlfkllnmobppaa
open Go AM Go.RowKit
set_option linter.unusedVariables false
def kp13 : Nat → Option (List Nat) := kpOf [(0, [0, 2]), (1, [0, 2, 7]), (2, [2, 3]), (3, [2, 4]), (4, [2, 4, 50]), (5, [2, 3]), (6, [2, 3]), (300000, [2, 3]), (400007, [0, 2]), (400050, [2, 4])]
def E13 (a36 : T36) (a12 : T12) : FEnv := [(36, w36 a36), (12, w12 a12)]
theorem E13_good {a36 : T36} {a12 : T12} (oa36 : FunOK Try.prog 36 (w36 a36)) (oa12 : FunOK Try.prog 12 (w12 a12)) (la36 : Lin36 a36) (la12 : Lin12 a12) : EnvGood Try.prog (E13 a36 a12) := (((EnvGood.nil _).cons oa12 (w12_lin la12)).cons oa36 (w36_lin la36))
theorem E13_lin {a36 : T36} {a12 : T12} (la36 : Lin36 a36) (la12 : Lin12 a12) : EnvLin (E13 a36 a12) := by
  intro g F h
  simp only [E13, List.mem_cons, List.not_mem_nil, or_false] at h
  rcases h with h | h
  · cases h; exact w36_lin la36
  · cases h; exact w12_lin la12
noncomputable def b13 : Code := Try.f13.body.getD .skip
noncomputable def c13_0 : Code := (.seq (codeAt [1, 1, 1, 1, 0] b13) .ret)
noncomputable def c13_1 : Code := (.seq (codeAt [0] b13) (.seq (codeAt [1, 0, 0] b13) (.seq (.cond (.tmp 7) (.seq (codeAt [1, 0, 1, 0, 0] b13) .ret) .skip) (.seq (codeAt [1, 1, 0] b13) (.seq (codeAt [1, 1, 1, 0, 0] b13) (.seq (.cond (.tmp 50) (.seq (codeAt [1, 1, 1, 0, 1, 0, 0] b13) .ret) .skip) c13_0))))))
noncomputable def g13_p0 (a36 : T36) (a12 : T12) (R : Type) (t0 : Sl) (H : Heap) (kN : Nat → Nat → Nat → Nat → Heap → Option R) (kR : Nat → Nat → Int → Heap → Option R) : Option R :=
  alo H (.cells [(V.i .u8 (0 : Int)), (V.i .u32 (0 : Int)), (V.i .u32 (0 : Int)), (V.i .u8 (0 : Int)), (V.i .u8 (0 : Int)), (V.i .u8 (0 : Int)), (V.i .u8 (0 : Int)), (V.sl (Sl.mk none 0 (.ex 0)))] 26 false) fun i146 h147 =>
  sel (decide (((t0.len : Nat) : Int) < (9 : Int))) (
    ((h147).sts i146 0 [(V.i .u8 (0 : Int)), (V.i .u32 (0 : Int)), (V.i .u32 (0 : Int)), (V.i .u8 (0 : Int)), (V.i .u8 (0 : Int)), (V.i .u8 (0 : Int)), (V.i .u8 (0 : Int)), (V.sl (Sl.mk none 0 (.ex 0)))]).bind fun h148 =>
    kR i146 0 (4 : Int) h148) (
    alo h147 (.cells [(V.i .u8 (0 : Int)), (V.i .u32 (0 : Int)), (V.i .u32 (0 : Int)), (V.i .u8 (0 : Int)), (V.i .u8 (0 : Int)), (V.i .u8 (0 : Int)), (V.i .u8 (0 : Int)), (V.sl (Sl.mk none 0 (.ex 0)))] 26 false) fun i149 h150 =>
    if 0 ≤ (0 : Int) ∧ (0 : Int) < ((t0.len : Nat) : Int) then (
      (t0.a).bind fun q151 =>
      ((h150).ldI .u8 q151.1 (q151.2 + Int.toNat (0 : Int) * 1)).bind fun x152 =>
      if 0 ≤ (1 : Int) ∧ (1 : Int) < ((t0.len : Nat) : Int) then (
        (t0.a).bind fun q153 =>
        ((h150).ldI .u8 q153.1 (q153.2 + Int.toNat (1 : Int) * 1)).bind fun x154 =>
        if 0 ≤ (2 : Int) ∧ (2 : Int) < ((t0.len : Nat) : Int) then (
          (t0.a).bind fun q155 =>
          ((h150).ldI .u8 q155.1 (q155.2 + Int.toNat (2 : Int) * 1)).bind fun x156 =>
          if 0 ≤ (3 : Int) ∧ (3 : Int) < ((t0.len : Nat) : Int) then (
            (t0.a).bind fun q157 =>
            ((h150).ldI .u8 q157.1 (q157.2 + Int.toNat (3 : Int) * 1)).bind fun x158 =>
            if 0 ≤ (4 : Int) ∧ (4 : Int) < ((t0.len : Nat) : Int) then (
              (t0.a).bind fun q159 =>
              ((h150).ldI .u8 q159.1 (q159.2 + Int.toNat (4 : Int) * 1)).bind fun x160 =>
              if 0 ≤ (5 : Int) ∧ (5 : Int) < ((t0.len : Nat) : Int) then (
                (t0.a).bind fun q161 =>
                ((h150).ldI .u8 q161.1 (q161.2 + Int.toNat (5 : Int) * 1)).bind fun x162 =>
                if 0 ≤ (6 : Int) ∧ (6 : Int) < ((t0.len : Nat) : Int) then (
                  (t0.a).bind fun q163 =>
                  ((h150).ldI .u8 q163.1 (q163.2 + Int.toNat (6 : Int) * 1)).bind fun x164 =>
                  if 0 ≤ (7 : Int) ∧ (7 : Int) < ((t0.len : Nat) : Int) then (
                    (t0.a).bind fun q165 =>
                    ((h150).ldI .u8 q165.1 (q165.2 + Int.toNat (7 : Int) * 1)).bind fun x166 =>
                    if 0 ≤ (8 : Int) ∧ (8 : Int) < ((t0.len : Nat) : Int) then (
                      (t0.a).bind fun q167 =>
                      ((h150).ldI .u8 q167.1 (q167.2 + Int.toNat (8 : Int) * 1)).bind fun x168 =>
                      slOf 1 t0 (some (9 : Int)) none none fun s169 =>
                      a36 R s169 h150 fun x170 h171 =>
                      ((h171).ldI .u8 q167.1 (q167.2 + Int.toNat (8 : Int) * 1)).bind fun x172 =>
                      if V.same (V.i .u8 x168) (V.i .u8 x172) = true then (
                        ((h171).ldI .u8 q165.1 (q165.2 + Int.toNat (7 : Int) * 1)).bind fun x173 =>
                        if V.same (V.i .u8 x166) (V.i .u8 x173) = true then (
                          ((h171).ldI .u8 q163.1 (q163.2 + Int.toNat (6 : Int) * 1)).bind fun x174 =>
                          if V.same (V.i .u8 x164) (V.i .u8 x174) = true then (
                            ((h171).ldI .u8 q161.1 (q161.2 + Int.toNat (5 : Int) * 1)).bind fun x175 =>
                            if V.same (V.i .u8 x162) (V.i .u8 x175) = true then (
                              ((h171).ldI .u8 q159.1 (q159.2 + Int.toNat (4 : Int) * 1)).bind fun x176 =>
                              if V.same (V.i .u8 x160) (V.i .u8 x176) = true then (
                                ((h171).ldI .u8 q157.1 (q157.2 + Int.toNat (3 : Int) * 1)).bind fun x177 =>
                                if V.same (V.i .u8 x158) (V.i .u8 x177) = true then (
                                  ((h171).ldI .u8 q155.1 (q155.2 + Int.toNat (2 : Int) * 1)).bind fun x178 =>
                                  if V.same (V.i .u8 x156) (V.i .u8 x178) = true then (
                                    ((h171).ldI .u8 q153.1 (q153.2 + Int.toNat (1 : Int) * 1)).bind fun x179 =>
                                    if V.same (V.i .u8 x154) (V.i .u8 x179) = true then (
                                      ((h171).ldI .u8 q151.1 (q151.2 + Int.toNat (0 : Int) * 1)).bind fun x180 =>
                                      if V.same (V.i .u8 x152) (V.i .u8 x180) = true then (
                                        ((h171).sts i149 0 [(V.i .u8 x152), (V.i .u32 (bvOr .u32 (IntKind.wrap .u32 x162) (shlI .u32 (IntKind.wrap .u32 x164) (8 : Int)))), (V.i .u32 (bvOr .u32 (IntKind.wrap .u32 x166) (shlI .u32 (IntKind.wrap .u32 x168) (8 : Int)))), (V.i .u8 x154), (V.i .u8 x156), (V.i .u8 x158), (V.i .u8 x160), (V.sl x170)]).bind fun h181 =>
                                        ((h181).ldI .u8 i149 (0 + 0)).bind fun x182 =>
                                        ((h181).ldI .u32 i149 (0 + 1)).bind fun x183 =>
                                        ((h181).ldI .u32 i149 (0 + 2)).bind fun x184 =>
                                        ((h181).ldI .u8 i149 (0 + 3)).bind fun x185 =>
                                        ((h181).ldI .u8 i149 (0 + 4)).bind fun x186 =>
                                        ((h181).ldI .u8 i149 (0 + 5)).bind fun x187 =>
                                        ((h181).ldI .u8 i149 (0 + 6)).bind fun x188 =>
                                        ((h181).ldSl i149 (0 + 7)).bind fun x189 =>
                                        a12 R x182 x183 x184 x185 x186 x187 x188 x189 h181 fun x190 h191 =>
                                        sel (x190 != (0 : Int)) (
                                          ((h191).sts i146 0 [(V.i .u8 (0 : Int)), (V.i .u32 (0 : Int)), (V.i .u32 (0 : Int)), (V.i .u8 (0 : Int)), (V.i .u8 (0 : Int)), (V.i .u8 (0 : Int)), (V.i .u8 (0 : Int)), (V.sl (Sl.mk none 0 (.ex 0)))]).bind fun h192 =>
                                          kR i146 0 (4 : Int) h192) (
                                          kN i146 0 i149 0 h191))
                                      else (
                                        none))
                                    else (
                                      none))
                                  else (
                                    none))
                                else (
                                  none))
                              else (
                                none))
                            else (
                              none))
                          else (
                            none))
                        else (
                          none))
                      else (
                        none))
                    else (
                      none))
                  else (
                    none))
                else (
                  none))
              else (
                none))
            else (
              none))
          else (
            none))
        else (
          none))
      else (
        none))
    else (
      none))
theorem g13_p0_eq (a36 : T36) (a12 : T12) {R : Type} (c2 : Code) (t0 : Sl) (H : Heap) (K : Ex → Fr → Heap → Option R) : ev Try.prog (E13 a36 a12) loopLim Try.f13.ntmps kp13 (.seq (codeAt [0] b13) (.seq (codeAt [1, 0, 0] b13) (.seq (.cond (.tmp 7) (.seq (codeAt [1, 0, 1, 0, 0] b13) .ret) .skip) (.seq (codeAt [1, 1, 0] b13) (.seq (codeAt [1, 1, 1, 0, 0] b13) (.seq (.cond (.tmp 50) (.seq (codeAt [1, 1, 1, 0, 1, 0, 0] b13) .ret) .skip) c2)))))) [(0, (V.sl t0))] H K = g13_p0 a36 a12 R t0 H (fun t2_0 t2_1 t4_0 t4_1 H => ev Try.prog (E13 a36 a12) loopLim Try.f13.ntmps kp13 c2 [(2, (V.p (some (t2_0, t2_1)))), (4, (V.p (some (t4_0, t4_1))))] H K) (fun t2_0 t2_1 t3 H => K .ret [(2, (V.p (some (t2_0, t2_1)))), (3, (V.i .i64 t3))] H) := by kernel_rfl
theorem g13_p0_lin {a36 : T36} {a12 : T12} (la36 : Lin36 a36) (la12 : Lin12 a12) {R S : Type} {k : S → Option R} {t0 : Sl} {H : Heap} {fkN : Nat → Nat → Nat → Nat → Heap → Option R} {gkN : Nat → Nat → Nat → Nat → Heap → Option S} {fkR : Nat → Nat → Int → Heap → Option R} {gkR : Nat → Nat → Int → Heap → Option S} (hkN : ∀ t2_0 t2_1 t4_0 t4_1 H, fkN t2_0 t2_1 t4_0 t4_1 H = (gkN t2_0 t2_1 t4_0 t4_1 H).bind k) (hkR : ∀ t2_0 t2_1 t3 H, fkR t2_0 t2_1 t3 H = (gkR t2_0 t2_1 t3 H).bind k) : g13_p0 a36 a12 R t0 H fkN fkR = (g13_p0 a36 a12 S t0 H gkN gkR).bind k := by
  delta g13_p0; exact (
    alo_lin fun i146 h147 =>
    sl_lin (
      bl fun h148 =>
      hkR _ _ _ _) (
      alo_lin fun i149 h150 =>
      il (
        bl fun q151 =>
        bl fun x152 =>
        il (
          bl fun q153 =>
          bl fun x154 =>
          il (
            bl fun q155 =>
            bl fun x156 =>
            il (
              bl fun q157 =>
              bl fun x158 =>
              il (
                bl fun q159 =>
                bl fun x160 =>
                il (
                  bl fun q161 =>
                  bl fun x162 =>
                  il (
                    bl fun q163 =>
                    bl fun x164 =>
                    il (
                      bl fun q165 =>
                      bl fun x166 =>
                      il (
                        bl fun q167 =>
                        bl fun x168 =>
                        slOf_lin fun s169 =>
                        la36.l fun x170 h171 =>
                        bl fun x172 =>
                        il (
                          bl fun x173 =>
                          il (
                            bl fun x174 =>
                            il (
                              bl fun x175 =>
                              il (
                                bl fun x176 =>
                                il (
                                  bl fun x177 =>
                                  il (
                                    bl fun x178 =>
                                    il (
                                      bl fun x179 =>
                                      il (
                                        bl fun x180 =>
                                        il (
                                          bl fun h181 =>
                                          bl fun x182 =>
                                          bl fun x183 =>
                                          bl fun x184 =>
                                          bl fun x185 =>
                                          bl fun x186 =>
                                          bl fun x187 =>
                                          bl fun x188 =>
                                          bl fun x189 =>
                                          la12.l fun x190 h191 =>
                                          sl_lin (
                                            bl fun h192 =>
                                            hkR _ _ _ _) (
                                            hkN _ _ _ _ _)) (
                                          rfl)) (
                                        rfl)) (
                                      rfl)) (
                                    rfl)) (
                                  rfl)) (
                                rfl)) (
                              rfl)) (
                            rfl)) (
                          rfl)) (
                        rfl)) (
                      rfl)) (
                    rfl)) (
                  rfl)) (
                rfl)) (
              rfl)) (
            rfl)) (
          rfl)) (
        rfl)))
noncomputable def g13_p1 (a36 : T36) (a12 : T12) (R : Type) (t2_0 : Nat) (t2_1 : Nat) (t4_0 : Nat) (t4_1 : Nat) (H : Heap) (kR : Nat → Nat → Int → Heap → Option R) : Option R :=
  ((H).ldI .u8 t4_0 (t4_1 + 0)).bind fun x249 =>
  ((H).ldI .u32 t4_0 (t4_1 + 1)).bind fun x250 =>
  ((H).ldI .u32 t4_0 (t4_1 + 2)).bind fun x251 =>
  ((H).ldI .u8 t4_0 (t4_1 + 3)).bind fun x252 =>
  ((H).ldI .u8 t4_0 (t4_1 + 4)).bind fun x253 =>
  ((H).ldI .u8 t4_0 (t4_1 + 5)).bind fun x254 =>
  ((H).ldI .u8 t4_0 (t4_1 + 6)).bind fun x255 =>
  ((H).ldSl t4_0 (t4_1 + 7)).bind fun x256 =>
  ((H).sts t2_0 t2_1 [(V.i .u8 x249), (V.i .u32 x250), (V.i .u32 x251), (V.i .u8 x252), (V.i .u8 x253), (V.i .u8 x254), (V.i .u8 x255), (V.sl x256)]).bind fun h257 =>
  kR t2_0 t2_1 (0 : Int) h257
theorem g13_p1_eq (a36 : T36) (a12 : T12) (la36 : Lin36 a36) (la12 : Lin12 a12) {R : Type} (t2_0 : Nat) (t2_1 : Nat) (t4_0 : Nat) (t4_1 : Nat) (H : Heap) (K : Ex → Fr → Heap → Option R) : ev Try.prog (E13 a36 a12) loopLim Try.f13.ntmps kp13 c13_0 [(2, (V.p (some (t2_0, t2_1)))), (4, (V.p (some (t4_0, t4_1))))] H K = g13_p1 a36 a12 R t2_0 t2_1 t4_0 t4_1 H (fun t2_0 t2_1 t3 H => K .ret [(2, (V.p (some (t2_0, t2_1)))), (3, (V.i .i64 t3))] H) := by kernel_rfl
theorem g13_p1_lin {a36 : T36} {a12 : T12} (la36 : Lin36 a36) (la12 : Lin12 a12) {R S : Type} {k : S → Option R} {t2_0 : Nat} {t2_1 : Nat} {t4_0 : Nat} {t4_1 : Nat} {H : Heap} {fkR : Nat → Nat → Int → Heap → Option R} {gkR : Nat → Nat → Int → Heap → Option S} (hkR : ∀ t2_0 t2_1 t3 H, fkR t2_0 t2_1 t3 H = (gkR t2_0 t2_1 t3 H).bind k) : g13_p1 a36 a12 R t2_0 t2_1 t4_0 t4_1 H fkR = (g13_p1 a36 a12 S t2_0 t2_1 t4_0 t4_1 H gkR).bind k := by
  delta g13_p1; exact (
    bl fun x249 =>
    bl fun x250 =>
    bl fun x251 =>
    bl fun x252 =>
    bl fun x253 =>
    bl fun x254 =>
    bl fun x255 =>
    bl fun x256 =>
    bl fun h257 =>
    hkR _ _ _ _)
noncomputable def g13_p2 (a36 : T36) (a12 : T12) (R : Type) (t0 : Sl) (H : Heap) (kR : Nat → Nat → Int → Heap → Option R) : Option R :=
  g13_p0 a36 a12 R t0 H (fun t2_0 t2_1 t4_0 t4_1 H => g13_p1 a36 a12 R t2_0 t2_1 t4_0 t4_1 H (fun t2_0 t2_1 t3 H => kR t2_0 t2_1 t3 H)) (fun t2_0 t2_1 t3 H => kR t2_0 t2_1 t3 H)
theorem g13_p2_lin {a36 : T36} {a12 : T12} (la36 : Lin36 a36) (la12 : Lin12 a12) {R S : Type} {k : S → Option R} {t0 : Sl} {H : Heap} {fkR : Nat → Nat → Int → Heap → Option R} {gkR : Nat → Nat → Int → Heap → Option S} (hkR : ∀ t2_0 t2_1 t3 H, fkR t2_0 t2_1 t3 H = (gkR t2_0 t2_1 t3 H).bind k) : g13_p2 a36 a12 R t0 H fkR = (g13_p2 a36 a12 S t0 H gkR).bind k := by
  exact g13_p0_lin la36 la12 (fun _ _ _ _ _ => g13_p1_lin la36 la12 (fun _ _ _ _ => hkR _ _ _ _)) (fun _ _ _ _ => hkR _ _ _ _)
theorem g13_p2_eq (a36 : T36) (a12 : T12) (la36 : Lin36 a36) (la12 : Lin12 a12) {R : Type} (t0 : Sl) (H : Heap) (K : Ex → Fr → Heap → Option R) : ev Try.prog (E13 a36 a12) loopLim Try.f13.ntmps kp13 c13_1 [(0, (V.sl t0))] H K = g13_p2 a36 a12 R t0 H (fun t2_0 t2_1 t3 H => K .ret [(2, (V.p (some (t2_0, t2_1)))), (3, (V.i .i64 t3))] H) := by
  show ev Try.prog (E13 a36 a12) loopLim Try.f13.ntmps kp13 (.seq (codeAt [0] b13) (.seq (codeAt [1, 0, 0] b13) (.seq (.cond (.tmp 7) (.seq (codeAt [1, 0, 1, 0, 0] b13) .ret) .skip) (.seq (codeAt [1, 1, 0] b13) (.seq (codeAt [1, 1, 1, 0, 0] b13) (.seq (.cond (.tmp 50) (.seq (codeAt [1, 1, 1, 0, 1, 0, 0] b13) .ret) .skip) c13_0)))))) [(0, (V.sl t0))] H K = _
  delta g13_p2
  exact (g13_p0_eq a36 a12 _ t0 H K).trans (congr (congrArg (g13_p0 a36 a12 R t0 H) (funext fun t2_0 => funext fun t2_1 => funext fun t4_0 => funext fun t4_1 => funext fun H => g13_p1_eq a36 a12 la36 la12 t2_0 t2_1 t4_0 t4_1 H K)) rfl)
noncomputable def g13_r (a36 : T36) (a12 : T12) : T13 := fun R t0 H K =>
  g13_p2 a36 a12 R t0 H (fun t2_0 t2_1 t3 H =>
    ((H).ldI .u8 t2_0 (t2_1 + 0)).bind fun x258 =>
    ((H).ldI .u32 t2_0 (t2_1 + 1)).bind fun x259 =>
    ((H).ldI .u32 t2_0 (t2_1 + 2)).bind fun x260 =>
    ((H).ldI .u8 t2_0 (t2_1 + 3)).bind fun x261 =>
    ((H).ldI .u8 t2_0 (t2_1 + 4)).bind fun x262 =>
    ((H).ldI .u8 t2_0 (t2_1 + 5)).bind fun x263 =>
    ((H).ldI .u8 t2_0 (t2_1 + 6)).bind fun x264 =>
    ((H).ldSl t2_0 (t2_1 + 7)).bind fun x265 =>
    K x258 x259 x260 x261 x262 x263 x264 x265 t3 H)
theorem g13_r_lin {a36 : T36} {a12 : T12} (la36 : Lin36 a36) (la12 : Lin12 a12) : Lin13 (g13_r a36 a12) := by
  constructor
  intro R S k t0 H f g h
  exact g13_p2_lin la36 la12 (fun t2_0 t2_1 t3 H =>
    bl fun x258 =>
    bl fun x259 =>
    bl fun x260 =>
    bl fun x261 =>
    bl fun x262 =>
    bl fun x263 =>
    bl fun x264 =>
    bl fun x265 =>
    h _ _ _ _ _ _ _ _ _ _)
theorem g13_fn (a36 : T36) (a12 : T12) (la36 : Lin36 a36) (la12 : Lin12 a12) {R : Type} (t0 : Sl) (H : Heap) (K : V → Heap → Option R) : evFn Try.prog (E13 a36 a12) loopLim Try.f13 kp13 [(V.sl t0)] H K = g13_r a36 a12 R t0 H (fun r0_0 r0_1 r0_2 r0_3 r0_4 r0_5 r0_6 r0_7 r1 H => K (V.tup [(V.agg [(V.i .u8 r0_0), (V.i .u32 r0_1), (V.i .u32 r0_2), (V.i .u8 r0_3), (V.i .u8 r0_4), (V.i .u8 r0_5), (V.i .u8 r0_6), (V.sl r0_7)]), (V.i .i64 r1)]) H) := by
  have h0 : ∀ (t2_0 : Nat) (t2_1 : Nat) (t3 : Int) (H : Heap), kFn Try.prog Try.f13.results.toList K .ret [(2, (V.p (some (t2_0, t2_1)))), (3, (V.i .i64 t3))] H =
      ((H).ldI .u8 t2_0 (t2_1 + 0)).bind fun x258 =>
      ((H).ldI .u32 t2_0 (t2_1 + 1)).bind fun x259 =>
      ((H).ldI .u32 t2_0 (t2_1 + 2)).bind fun x260 =>
      ((H).ldI .u8 t2_0 (t2_1 + 3)).bind fun x261 =>
      ((H).ldI .u8 t2_0 (t2_1 + 4)).bind fun x262 =>
      ((H).ldI .u8 t2_0 (t2_1 + 5)).bind fun x263 =>
      ((H).ldI .u8 t2_0 (t2_1 + 6)).bind fun x264 =>
      ((H).ldSl t2_0 (t2_1 + 7)).bind fun x265 =>
      K (V.tup [(V.agg [(V.i .u8 x258), (V.i .u32 x259), (V.i .u32 x260), (V.i .u8 x261), (V.i .u8 x262), (V.i .u8 x263), (V.i .u8 x264), (V.sl x265)]), (V.i .i64 t3)]) H := by intros; kernel_rfl
  have e0 := evFn_code2 (P := Try.prog) (c := c13_1) (E := (E13 a36 a12)) (lr := loopLim) (kp := kp13) (fn := Try.f13) (args := [(V.sl t0)]) H K (by kernel_rfl) (Nat.le_of_ble_eq_true (by kernel_rfl)) (by kernel_rfl)
  have e1 : ev Try.prog (E13 a36 a12) loopLim Try.f13.ntmps kp13 c13_1 (argFr 0 [(V.sl t0)]) H (kFn Try.prog Try.f13.results.toList K) = ev Try.prog (E13 a36 a12) loopLim Try.f13.ntmps kp13 c13_1 [(0, (V.sl t0))] H (kFn Try.prog Try.f13.results.toList K) := by kernel_rfl
  refine (e0.trans e1).trans ?_
  delta g13_r
  exact (g13_p2_eq a36 a12 la36 la12 t0 H (kFn Try.prog Try.f13.results.toList K)).trans (congrArg (g13_p2 a36 a12 R t0 H) (funext fun t2_0 => funext fun t2_1 => funext fun t3 => funext fun H => h0 t2_0 t2_1 t3 H))
theorem g13_ok {a36 : T36} {a12 : T12} (oa36 : FunOK Try.prog 36 (w36 a36)) (oa12 : FunOK Try.prog 12 (w12 a12)) (la36 : Lin36 a36) (la12 : Lin12 a12) : FunOK Try.prog 13 (w13 (g13_r a36 a12)) := by
  refine (runF_ok (E13_good oa36 oa12 la36 la12) mixed lim_ok Try.func13 (by kernel_rfl) kp13).of_le fun R args H K r hk => ?_
  unfold w13 at hk
  split at hk
  · exact (g13_fn a36 a12 la36 la12 _ H K).trans hk
  · cases hk
def kp14 : Nat → Option (List Nat) := kpOf [(0, [1]), (1, [2]), (300000, [2])]
def E14 : FEnv := []
theorem E14_good : EnvGood Try.prog E14 := (EnvGood.nil _)
theorem E14_lin : EnvLin E14 := fun g F h => by cases h
noncomputable def b14 : Code := Try.f14.body.getD .skip
noncomputable def c14_0 : Code := (.seq (codeAt [0] b14) (.seq (codeAt [1, 0] b14) .ret))
noncomputable def g14_p0 (R : Type) (t0_0 : Int) (t0_1 : Int) (t0_2 : Int) (t0_3 : Int) (t0_4 : Int) (t0_5 : Int) (t0_6 : Int) (t0_7 : Sl) (H : Heap) (kR : ByteArray → Heap → Option R) : Option R :=
  alo H (.cells [(V.i .u8 t0_0), (V.i .u32 t0_1), (V.i .u32 t0_2), (V.i .u8 t0_3), (V.i .u8 t0_4), (V.i .u8 t0_5), (V.i .u8 t0_6), (V.sl t0_7)] 26 false) fun i1 h2 =>
  ((h2).ldI .u8 i1 (0 + 0)).bind fun x3 =>
  ((h2).ldI .u8 i1 (0 + 3)).bind fun x4 =>
  ((h2).ldI .u8 i1 (0 + 4)).bind fun x5 =>
  ((h2).ldI .u8 i1 (0 + 5)).bind fun x6 =>
  ((h2).ldI .u8 i1 (0 + 6)).bind fun x7 =>
  ((h2).ldI .u32 i1 (0 + 1)).bind fun x8 =>
  ((h2).ldI .u32 i1 (0 + 1)).bind fun x9 =>
  ((h2).ldI .u32 i1 (0 + 2)).bind fun x10 =>
  ((h2).ldI .u32 i1 (0 + 2)).bind fun x11 =>
  alo h2 (.cells [(V.i .u8 x3), (V.i .u8 x4), (V.i .u8 x5), (V.i .u8 x6), (V.i .u8 x7), (V.i .u8 (IntKind.wrap .u8 (Int.tmod x8 (256 : Int)))), (V.i .u8 (IntKind.wrap .u8 (IntKind.wrap .u32 (Int.tdiv x9 (256 : Int))))), (V.i .u8 (IntKind.wrap .u8 (Int.tmod x10 (256 : Int)))), (V.i .u8 (IntKind.wrap .u8 (IntKind.wrap .u32 (Int.tdiv x11 (256 : Int)))))] 5 false) fun i12 h13 =>
  ((slBytes h13 (Sl.mk (some (i12, 0)) 9 (.ex 9)))).bind fun x14 =>
  ((h13).ldSl i1 (0 + 7)).bind fun x15 =>
  ((slBytes h13 x15)).bind fun x16 =>
  catS x14 x16 fun z17 =>
  kR z17 h13
theorem g14_p0_eq {R : Type} (t0_0 : Int) (t0_1 : Int) (t0_2 : Int) (t0_3 : Int) (t0_4 : Int) (t0_5 : Int) (t0_6 : Int) (t0_7 : Sl) (H : Heap) (K : Ex → Fr → Heap → Option R) : ev Try.prog E14 loopLim Try.f14.ntmps kp14 c14_0 [(0, (V.agg [(V.i .u8 t0_0), (V.i .u32 t0_1), (V.i .u32 t0_2), (V.i .u8 t0_3), (V.i .u8 t0_4), (V.i .u8 t0_5), (V.i .u8 t0_6), (V.sl t0_7)]))] H K = g14_p0 R t0_0 t0_1 t0_2 t0_3 t0_4 t0_5 t0_6 t0_7 H (fun t2 H => K .ret [(2, (V.s t2))] H) := by kernel_rfl
theorem g14_p0_lin {R S : Type} {k : S → Option R} {t0_0 : Int} {t0_1 : Int} {t0_2 : Int} {t0_3 : Int} {t0_4 : Int} {t0_5 : Int} {t0_6 : Int} {t0_7 : Sl} {H : Heap} {fkR : ByteArray → Heap → Option R} {gkR : ByteArray → Heap → Option S} (hkR : ∀ t2 H, fkR t2 H = (gkR t2 H).bind k) : g14_p0 R t0_0 t0_1 t0_2 t0_3 t0_4 t0_5 t0_6 t0_7 H fkR = (g14_p0 S t0_0 t0_1 t0_2 t0_3 t0_4 t0_5 t0_6 t0_7 H gkR).bind k := by
  delta g14_p0; exact (
    alo_lin fun i1 h2 =>
    bl fun x3 =>
    bl fun x4 =>
    bl fun x5 =>
    bl fun x6 =>
    bl fun x7 =>
    bl fun x8 =>
    bl fun x9 =>
    bl fun x10 =>
    bl fun x11 =>
    alo_lin fun i12 h13 =>
    bl fun x14 =>
    bl fun x15 =>
    bl fun x16 =>
    catS_lin fun z17 =>
    hkR _ _)
noncomputable def g14_r : T14 := fun R t0_0 t0_1 t0_2 t0_3 t0_4 t0_5 t0_6 t0_7 H K =>
  g14_p0 R t0_0 t0_1 t0_2 t0_3 t0_4 t0_5 t0_6 t0_7 H (fun t2 H =>
    K t2 H)
theorem g14_r_lin : Lin14 (g14_r) := by
  constructor
  intro R S k t0_0 t0_1 t0_2 t0_3 t0_4 t0_5 t0_6 t0_7 H f g h
  exact g14_p0_lin (fun t2 H =>
    h _ _)
theorem g14_fn {R : Type} (t0_0 : Int) (t0_1 : Int) (t0_2 : Int) (t0_3 : Int) (t0_4 : Int) (t0_5 : Int) (t0_6 : Int) (t0_7 : Sl) (H : Heap) (K : V → Heap → Option R) : evFn Try.prog E14 loopLim Try.f14 kp14 [(V.agg [(V.i .u8 t0_0), (V.i .u32 t0_1), (V.i .u32 t0_2), (V.i .u8 t0_3), (V.i .u8 t0_4), (V.i .u8 t0_5), (V.i .u8 t0_6), (V.sl t0_7)])] H K = g14_r R t0_0 t0_1 t0_2 t0_3 t0_4 t0_5 t0_6 t0_7 H (fun r0 H => K (V.s r0) H) := by
  have h0 : ∀ (t2 : ByteArray) (H : Heap), kFn Try.prog Try.f14.results.toList K .ret [(2, (V.s t2))] H =
      K (V.s t2) H := by intros; kernel_rfl
  have e0 := evFn_code2 (P := Try.prog) (c := c14_0) (E := E14) (lr := loopLim) (kp := kp14) (fn := Try.f14) (args := [(V.agg [(V.i .u8 t0_0), (V.i .u32 t0_1), (V.i .u32 t0_2), (V.i .u8 t0_3), (V.i .u8 t0_4), (V.i .u8 t0_5), (V.i .u8 t0_6), (V.sl t0_7)])]) H K (by kernel_rfl) (Nat.le_of_ble_eq_true (by kernel_rfl)) (by kernel_rfl)
  have e1 : ev Try.prog E14 loopLim Try.f14.ntmps kp14 c14_0 (argFr 0 [(V.agg [(V.i .u8 t0_0), (V.i .u32 t0_1), (V.i .u32 t0_2), (V.i .u8 t0_3), (V.i .u8 t0_4), (V.i .u8 t0_5), (V.i .u8 t0_6), (V.sl t0_7)])]) H (kFn Try.prog Try.f14.results.toList K) = ev Try.prog E14 loopLim Try.f14.ntmps kp14 c14_0 [(0, (V.agg [(V.i .u8 t0_0), (V.i .u32 t0_1), (V.i .u32 t0_2), (V.i .u8 t0_3), (V.i .u8 t0_4), (V.i .u8 t0_5), (V.i .u8 t0_6), (V.sl t0_7)]))] H (kFn Try.prog Try.f14.results.toList K) := by kernel_rfl
  refine (e0.trans e1).trans ?_
  delta g14_r
  exact (g14_p0_eq t0_0 t0_1 t0_2 t0_3 t0_4 t0_5 t0_6 t0_7 H (kFn Try.prog Try.f14.results.toList K)).trans (congrArg (g14_p0 R t0_0 t0_1 t0_2 t0_3 t0_4 t0_5 t0_6 t0_7 H) (funext fun t2 => funext fun H => h0 t2 H))
theorem g14_ok : FunOK Try.prog 14 (w14 (g14_r)) := by
  refine (runF_ok (E14_good) mixed lim_ok Try.func14 (by kernel_rfl) kp14).of_le fun R args H K r hk => ?_
  unfold w14 at hk
  split at hk
  · exact (g14_fn _ _ _ _ _ _ _ _ H K).trans hk
  · cases hk
def kp16 : Nat → Option (List Nat) := kpOf [(0, [0]), (1, [0, 5]), (2, [2]), (3, [2]), (300000, [2]), (400005, [0])]
def E16 (a10 : T10) : FEnv := [(10, w10 a10)]
theorem E16_good {a10 : T10} (oa10 : FunOK Try.prog 10 (w10 a10)) (la10 : Lin10 a10) : EnvGood Try.prog (E16 a10) := ((EnvGood.nil _).cons oa10 (w10_lin la10))
theorem E16_lin {a10 : T10} (la10 : Lin10 a10) : EnvLin (E16 a10) := by
  intro g F h
  simp only [E16, List.mem_cons, List.not_mem_nil, or_false] at h
  rcases h with h
  · cases h; exact w10_lin la10
noncomputable def b16 : Code := Try.f16.body.getD .skip
noncomputable def c16_0 : Code := (.seq (codeAt [0] b16) (.seq (codeAt [1, 0, 0] b16) (.seq (.cond (.tmp 5) (.seq (codeAt [1, 0, 1, 0, 0] b16) .ret) .skip) (.seq (codeAt [1, 1, 0] b16) .ret))))
noncomputable def g16_p0 (a10 : T10) (R : Type) (t0 : Sl) (H : Heap) (kR : Bool → Heap → Option R) : Option R :=
  sel (decide (((t0.len : Nat) : Int) < (9 : Int))) (
    kR false H) (
    if 0 ≤ (0 : Int) ∧ (0 : Int) < ((t0.len : Nat) : Int) then (
      (t0.a).bind fun q1 =>
      ((H).ldI .u8 q1.1 (q1.2 + Int.toNat (0 : Int) * 1)).bind fun x2 =>
      if 0 ≤ (1 : Int) ∧ (1 : Int) < ((t0.len : Nat) : Int) then (
        (t0.a).bind fun q3 =>
        ((H).ldI .u8 q3.1 (q3.2 + Int.toNat (1 : Int) * 1)).bind fun x4 =>
        if 0 ≤ (2 : Int) ∧ (2 : Int) < ((t0.len : Nat) : Int) then (
          (t0.a).bind fun q5 =>
          ((H).ldI .u8 q5.1 (q5.2 + Int.toNat (2 : Int) * 1)).bind fun x6 =>
          if 0 ≤ (3 : Int) ∧ (3 : Int) < ((t0.len : Nat) : Int) then (
            (t0.a).bind fun q7 =>
            ((H).ldI .u8 q7.1 (q7.2 + Int.toNat (3 : Int) * 1)).bind fun x8 =>
            if 0 ≤ (4 : Int) ∧ (4 : Int) < ((t0.len : Nat) : Int) then (
              (t0.a).bind fun q9 =>
              ((H).ldI .u8 q9.1 (q9.2 + Int.toNat (4 : Int) * 1)).bind fun x10 =>
              if 0 ≤ (5 : Int) ∧ (5 : Int) < ((t0.len : Nat) : Int) then (
                (t0.a).bind fun q11 =>
                ((H).ldI .u8 q11.1 (q11.2 + Int.toNat (5 : Int) * 1)).bind fun x12 =>
                if 0 ≤ (6 : Int) ∧ (6 : Int) < ((t0.len : Nat) : Int) then (
                  (t0.a).bind fun q13 =>
                  ((H).ldI .u8 q13.1 (q13.2 + Int.toNat (6 : Int) * 1)).bind fun x14 =>
                  if 0 ≤ (7 : Int) ∧ (7 : Int) < ((t0.len : Nat) : Int) then (
                    (t0.a).bind fun q15 =>
                    ((H).ldI .u8 q15.1 (q15.2 + Int.toNat (7 : Int) * 1)).bind fun x16 =>
                    if 0 ≤ (8 : Int) ∧ (8 : Int) < ((t0.len : Nat) : Int) then (
                      (t0.a).bind fun q17 =>
                      ((H).ldI .u8 q17.1 (q17.2 + Int.toNat (8 : Int) * 1)).bind fun x18 =>
                      slOf 1 t0 (some (9 : Int)) none none fun s19 =>
                      a10 R x2 (IntKind.wrap .u32 ((IntKind.wrap .u32 x12) + (IntKind.wrap .u32 ((256 : Int) * (IntKind.wrap .u32 x14))))) (IntKind.wrap .u32 ((IntKind.wrap .u32 x16) + (IntKind.wrap .u32 ((256 : Int) * (IntKind.wrap .u32 x18))))) x4 x6 x8 x10 s19 H fun x20 h21 =>
                      kR (x20 == (0 : Int)) h21)
                    else (
                      none))
                  else (
                    none))
                else (
                  none))
              else (
                none))
            else (
              none))
          else (
            none))
        else (
          none))
      else (
        none))
    else (
      none))
theorem g16_p0_eq (a10 : T10) (la10 : Lin10 a10) {R : Type} (t0 : Sl) (H : Heap) (K : Ex → Fr → Heap → Option R) : ev Try.prog (E16 a10) loopLim Try.f16.ntmps kp16 c16_0 [(0, (V.sl t0))] H K = g16_p0 a10 R t0 H (fun t2 H => K .ret [(2, (V.b t2))] H) := by kernel_rfl
theorem g16_p0_lin {a10 : T10} (la10 : Lin10 a10) {R S : Type} {k : S → Option R} {t0 : Sl} {H : Heap} {fkR : Bool → Heap → Option R} {gkR : Bool → Heap → Option S} (hkR : ∀ t2 H, fkR t2 H = (gkR t2 H).bind k) : g16_p0 a10 R t0 H fkR = (g16_p0 a10 S t0 H gkR).bind k := by
  delta g16_p0; exact (
    sl_lin (
      hkR _ _) (
      il (
        bl fun q1 =>
        bl fun x2 =>
        il (
          bl fun q3 =>
          bl fun x4 =>
          il (
            bl fun q5 =>
            bl fun x6 =>
            il (
              bl fun q7 =>
              bl fun x8 =>
              il (
                bl fun q9 =>
                bl fun x10 =>
                il (
                  bl fun q11 =>
                  bl fun x12 =>
                  il (
                    bl fun q13 =>
                    bl fun x14 =>
                    il (
                      bl fun q15 =>
                      bl fun x16 =>
                      il (
                        bl fun q17 =>
                        bl fun x18 =>
                        slOf_lin fun s19 =>
                        la10.l fun x20 h21 =>
                        hkR _ _) (
                        rfl)) (
                      rfl)) (
                    rfl)) (
                  rfl)) (
                rfl)) (
              rfl)) (
            rfl)) (
          rfl)) (
        rfl)))
noncomputable def g16_r (a10 : T10) : T16 := fun R t0 H K =>
  g16_p0 a10 R t0 H (fun t2 H =>
    K t2 H)
theorem g16_r_lin {a10 : T10} (la10 : Lin10 a10) : Lin16 (g16_r a10) := by
  constructor
  intro R S k t0 H f g h
  exact g16_p0_lin la10 (fun t2 H =>
    h _ _)
theorem g16_fn (a10 : T10) (la10 : Lin10 a10) {R : Type} (t0 : Sl) (H : Heap) (K : V → Heap → Option R) : evFn Try.prog (E16 a10) loopLim Try.f16 kp16 [(V.sl t0)] H K = g16_r a10 R t0 H (fun r0 H => K (V.b r0) H) := by
  have h0 : ∀ (t2 : Bool) (H : Heap), kFn Try.prog Try.f16.results.toList K .ret [(2, (V.b t2))] H =
      K (V.b t2) H := by intros; kernel_rfl
  have e0 := evFn_code2 (P := Try.prog) (c := c16_0) (E := (E16 a10)) (lr := loopLim) (kp := kp16) (fn := Try.f16) (args := [(V.sl t0)]) H K (by kernel_rfl) (Nat.le_of_ble_eq_true (by kernel_rfl)) (by kernel_rfl)
  have e1 : ev Try.prog (E16 a10) loopLim Try.f16.ntmps kp16 c16_0 (argFr 0 [(V.sl t0)]) H (kFn Try.prog Try.f16.results.toList K) = ev Try.prog (E16 a10) loopLim Try.f16.ntmps kp16 c16_0 [(0, (V.sl t0))] H (kFn Try.prog Try.f16.results.toList K) := by kernel_rfl
  refine (e0.trans e1).trans ?_
  delta g16_r
  exact (g16_p0_eq a10 la10 t0 H (kFn Try.prog Try.f16.results.toList K)).trans (congrArg (g16_p0 a10 R t0 H) (funext fun t2 => funext fun H => h0 t2 H))
theorem g16_ok {a10 : T10} (oa10 : FunOK Try.prog 10 (w10 a10)) (la10 : Lin10 a10) : FunOK Try.prog 16 (w16 (g16_r a10)) := by
  refine (runF_ok (E16_good oa10 la10) mixed lim_ok Try.func16 (by kernel_rfl) kp16).of_le fun R args H K r hk => ?_
  unfold w16 at hk
  split at hk
  · exact (g16_fn a10 la10 _ H K).trans hk
  · cases hk
end Go.Proofs.Ytnlfkllnmobppaa

