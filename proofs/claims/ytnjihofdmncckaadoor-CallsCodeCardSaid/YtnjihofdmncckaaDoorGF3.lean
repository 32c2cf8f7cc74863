/- Printed: functions as the machine runs them. -/
import Derived.Test.YtnjihofdmncckaaDoorGT
namespace Go.Proofs.YtnjihofdmncckaaDoor
open Go AM Go.RowKit
set_option linter.unusedVariables false
def kp8 : Nat → Option (List Nat) := kpOf [(0, [0, 2]), (1, [0, 2, 9]), (2, [2, 3]), (3, [0, 2, 4]), (4, [2, 4, 5, 6]), (5, [2, 4, 5, 6, 28]), (6, [2, 4, 5, 6, 28, 29]), (7, [2, 4, 5, 6]), (8, [2, 4, 5, 6, 38]), (9, [2, 4, 5, 6]), (10, [2, 4, 5, 6, 46]), (11, [2, 4, 5, 6]), (12, [2, 4, 5, 6, 51]), (13, [2, 4, 5, 6]), (14, [2, 4, 69]), (15, [2, 3]), (16, [2, 3]), (100000, [2, 4, 5, 6]), (200000, [2, 4, 5, 6, 28]), (300000, [2, 3]), (400009, [0, 2]), (400029, [2, 4, 5, 6]), (400038, [2, 4, 5, 6]), (400046, [2, 4, 5, 6]), (400051, [2, 4, 5, 6]), (400069, [2, 4])]
def E8 (a22 : T22) (a19 : T19) : FEnv := [(22, w22 a22), (19, w19 a19)]
theorem E8_good {a22 : T22} {a19 : T19} (oa22 : FunOK Tryd.prog 22 (w22 a22)) (oa19 : FunOK Tryd.prog 19 (w19 a19)) (la22 : Lin22 a22) (la19 : Lin19 a19) : EnvGood Tryd.prog (E8 a22 a19) := (((EnvGood.nil _).cons oa19 (w19_lin la19)).cons oa22 (w22_lin la22))
theorem E8_lin {a22 : T22} {a19 : T19} (la22 : Lin22 a22) (la19 : Lin19 a19) : EnvLin (E8 a22 a19) := by
  intro g F h
  simp only [E8, List.mem_cons, List.not_mem_nil, or_false] at h
  rcases h with h | h
  · cases h; exact w22_lin la22
  · cases h; exact w19_lin la19
noncomputable def b8 : Code := Tryd.f8.body.getD .skip
noncomputable def c8_0 : Code := (.seq (codeAt [1, 1, 1, 1, 1, 0, 0] b8) (.seq (.cond (.tmp 69) (.seq (codeAt [1, 1, 1, 1, 1, 0, 1, 0, 0] b8) .ret) .skip) (.seq (codeAt [1, 1, 1, 1, 1, 1, 0] b8) .ret)))
noncomputable def c8_1 : Code := (.seq (codeAt [0] b8) (.seq (codeAt [1, 0, 0] b8) (.seq (.cond (.tmp 9) (.seq (codeAt [1, 0, 1, 0, 0] b8) .ret) .skip) (.seq (codeAt [1, 1, 0] b8) (.seq (codeAt [1, 1, 1, 0] b8) (.seq (codeAt [1, 1, 1, 1, 0, 0] b8) (.seq (.block 0 (.seq (codeAt [1, 1, 1, 1, 0, 1, 0, 0] b8) (.cond (.tmp 29) (.seq (codeAt [1, 1, 1, 1, 0, 1, 0, 1, 0, 0] b8) (.seq (codeAt [1, 1, 1, 1, 0, 1, 0, 1, 0, 1, 0] b8) (.cond (.tmp 38) (codeAt [1, 1, 1, 1, 0, 1, 0, 1, 0, 1, 1, 0] b8) .skip))) (.seq (codeAt [1, 1, 1, 1, 0, 1, 0, 1, 1, 0] b8) (.cond (.tmp 46) (.seq (codeAt [1, 1, 1, 1, 0, 1, 0, 1, 1, 1, 0, 0] b8) (.seq (codeAt [1, 1, 1, 1, 0, 1, 0, 1, 1, 1, 0, 1, 0] b8) (.cond (.tmp 51) (codeAt [1, 1, 1, 1, 0, 1, 0, 1, 1, 1, 0, 1, 1, 0] b8) .skip))) .skip))))) c8_0)))))))
noncomputable def g8_p0 (a22 : T22) (a19 : T19) (R : Type) (t0 : Sl) (H : Heap) (kN : Nat → Nat → Nat → Nat → Sl → Bool → Heap → Option R) (kR : Nat → Nat → Int → Heap → Option R) : Option R :=
  alo H (.cells [(V.i .u8 (0 : Int)), (V.i .i64 (0 : Int)), (V.s str0), (V.s str0), (V.i .u8 (0 : Int))] 24 false) fun i169 h170 =>
  sel (decide (((t0.len : Nat) : Int) < (3 : Int))) (
    ((h170).sts i169 0 [(V.i .u8 (0 : Int)), (V.i .i64 (0 : Int)), (V.s str0), (V.s str0), (V.i .u8 (0 : Int))]).bind fun h171 =>
    kR i169 0 (4 : Int) h171) (
    if 0 ≤ (0 : Int) ∧ (0 : Int) < ((t0.len : Nat) : Int) then (
      (t0.a).bind fun q172 =>
      ((h170).ldI .u8 q172.1 (q172.2 + Int.toNat (0 : Int) * 1)).bind fun x173 =>
      if 0 ≤ (1 : Int) ∧ (1 : Int) < ((t0.len : Nat) : Int) then (
        (t0.a).bind fun q174 =>
        ((h170).ldI .u8 q174.1 (q174.2 + Int.toNat (1 : Int) * 1)).bind fun x175 =>
        if 0 ≤ (2 : Int) ∧ (2 : Int) < ((t0.len : Nat) : Int) then (
          (t0.a).bind fun q176 =>
          ((h170).ldI .u8 q176.1 (q176.2 + Int.toNat (2 : Int) * 1)).bind fun x177 =>
          alo h170 (.cells [(V.i .u8 (0 : Int)), (V.i .i64 (0 : Int)), (V.s str0), (V.s str0), (V.i .u8 (0 : Int))] 24 false) fun i178 h179 =>
          ((h179).ldI .u8 q176.1 (q176.2 + Int.toNat (2 : Int) * 1)).bind fun x180 =>
          if V.same (V.i .u8 x177) (V.i .u8 x180) = true then (
            ((h179).ldI .u8 q174.1 (q174.2 + Int.toNat (1 : Int) * 1)).bind fun x181 =>
            if V.same (V.i .u8 x175) (V.i .u8 x181) = true then (
              ((h179).ldI .u8 q172.1 (q172.2 + Int.toNat (0 : Int) * 1)).bind fun x182 =>
              if V.same (V.i .u8 x173) (V.i .u8 x182) = true then (
                ((h179).sts i178 0 [(V.i .u8 x173), (V.i .i64 (bvOr .i64 (IntKind.wrap .i64 x175) (shlI .i64 (IntKind.wrap .i64 x177) (8 : Int)))), (V.s str0), (V.s str0), (V.i .u8 (0 : Int))]).bind fun h183 =>
                slOf 1 t0 (some (3 : Int)) none none fun s184 =>
                ((h183).ldI .u8 i178 (0 + 0)).bind fun x185 =>
                sel (x185 == (1 : Int)) (
                  a22 R s184 h183 fun x186 x187 x188 h189 =>
                  ((h189).st i178 (0 + 2) (V.s x186)).bind fun h191 =>
                  sel x188 (
                    a22 R x187 h191 fun x192 x193 x194 h195 =>
                    ((h195).st i178 (0 + 3) (V.s x192)).bind fun h197 =>
                    kN i169 0 i178 0 x193 x194 h197) (
                    kN i169 0 i178 0 x187 x188 h191)) (
                  sel (x185 == (4 : Int)) (
                    sel (decide (((s184.len : Nat) : Int) > (0 : Int))) (
                      if 0 ≤ (0 : Int) ∧ (0 : Int) < ((s184.len : Nat) : Int) then (
                        (s184.a).bind fun q198 =>
                        ((h183).ldI .u8 q198.1 (q198.2 + Int.toNat (0 : Int) * 1)).bind fun x199 =>
                        slOf 1 s184 (some (1 : Int)) none none fun s200 =>
                        ((h183).st i178 (0 + 4) (V.i .u8 x199)).bind fun h202 =>
                        kN i169 0 i178 0 s200 (decide (((s184.len : Nat) : Int) > (0 : Int))) h202)
                      else (
                        none)) (
                      kN i169 0 i178 0 s184 (decide (((s184.len : Nat) : Int) > (0 : Int))) h183)) (
                    kN i169 0 i178 0 s184 true h183)))
              else (
                none))
            else (
              none))
          else (
            none))
        else (
          none))
      else (
        none))
    else (
      none))
theorem g8_p0_eq (a22 : T22) (a19 : T19) {R : Type} (c2 : Code) (t0 : Sl) (H : Heap) (K : Ex → Fr → Heap → Option R) : ev Tryd.prog (E8 a22 a19) loopLim Tryd.f8.ntmps kp8 (.seq (codeAt [0] b8) (.seq (codeAt [1, 0, 0] b8) (.seq (.cond (.tmp 9) (.seq (codeAt [1, 0, 1, 0, 0] b8) .ret) .skip) (.seq (codeAt [1, 1, 0] b8) (.seq (codeAt [1, 1, 1, 0] b8) (.seq (codeAt [1, 1, 1, 1, 0, 0] b8) (.seq (.block 0 (.seq (codeAt [1, 1, 1, 1, 0, 1, 0, 0] b8) (.cond (.tmp 29) (.seq (codeAt [1, 1, 1, 1, 0, 1, 0, 1, 0, 0] b8) (.seq (codeAt [1, 1, 1, 1, 0, 1, 0, 1, 0, 1, 0] b8) (.cond (.tmp 38) (codeAt [1, 1, 1, 1, 0, 1, 0, 1, 0, 1, 1, 0] b8) .skip))) (.seq (codeAt [1, 1, 1, 1, 0, 1, 0, 1, 1, 0] b8) (.cond (.tmp 46) (.seq (codeAt [1, 1, 1, 1, 0, 1, 0, 1, 1, 1, 0, 0] b8) (.seq (codeAt [1, 1, 1, 1, 0, 1, 0, 1, 1, 1, 0, 1, 0] b8) (.cond (.tmp 51) (codeAt [1, 1, 1, 1, 0, 1, 0, 1, 1, 1, 0, 1, 1, 0] b8) .skip))) .skip))))) c2))))))) [(0, (V.sl t0))] H K = g8_p0 a22 a19 R t0 H (fun t2_0 t2_1 t4_0 t4_1 t5 t6 H => ev Tryd.prog (E8 a22 a19) loopLim Tryd.f8.ntmps kp8 c2 [(2, (V.p (some (t2_0, t2_1)))), (4, (V.p (some (t4_0, t4_1)))), (5, (V.sl t5)), (6, (V.b t6))] H K) (fun t2_0 t2_1 t3 H => K .ret [(2, (V.p (some (t2_0, t2_1)))), (3, (V.i .i64 t3))] H) := by kernel_rfl
theorem g8_p0_lin {a22 : T22} {a19 : T19} (la22 : Lin22 a22) (la19 : Lin19 a19) {R S : Type} {k : S → Option R} {t0 : Sl} {H : Heap} {fkN : Nat → Nat → Nat → Nat → Sl → Bool → Heap → Option R} {gkN : Nat → Nat → Nat → Nat → Sl → Bool → Heap → Option S} {fkR : Nat → Nat → Int → Heap → Option R} {gkR : Nat → Nat → Int → Heap → Option S} (hkN : ∀ t2_0 t2_1 t4_0 t4_1 t5 t6 H, fkN t2_0 t2_1 t4_0 t4_1 t5 t6 H = (gkN t2_0 t2_1 t4_0 t4_1 t5 t6 H).bind k) (hkR : ∀ t2_0 t2_1 t3 H, fkR t2_0 t2_1 t3 H = (gkR t2_0 t2_1 t3 H).bind k) : g8_p0 a22 a19 R t0 H fkN fkR = (g8_p0 a22 a19 S t0 H gkN gkR).bind k := by
  delta g8_p0; exact (
    alo_lin fun i169 h170 =>
    sl_lin (
      bl fun h171 =>
      hkR _ _ _ _) (
      il (
        bl fun q172 =>
        bl fun x173 =>
        il (
          bl fun q174 =>
          bl fun x175 =>
          il (
            bl fun q176 =>
            bl fun x177 =>
            alo_lin fun i178 h179 =>
            bl fun x180 =>
            il (
              bl fun x181 =>
              il (
                bl fun x182 =>
                il (
                  bl fun h183 =>
                  slOf_lin fun s184 =>
                  bl fun x185 =>
                  sl_lin (
                    la22.l fun x186 x187 x188 h189 =>
                    bl fun h191 =>
                    sl_lin (
                      la22.l fun x192 x193 x194 h195 =>
                      bl fun h197 =>
                      hkN _ _ _ _ _ _ _) (
                      hkN _ _ _ _ _ _ _)) (
                    sl_lin (
                      sl_lin (
                        il (
                          bl fun q198 =>
                          bl fun x199 =>
                          slOf_lin fun s200 =>
                          bl fun h202 =>
                          hkN _ _ _ _ _ _ _) (
                          rfl)) (
                        hkN _ _ _ _ _ _ _)) (
                      hkN _ _ _ _ _ _ _))) (
                  rfl)) (
                rfl)) (
              rfl)) (
            rfl)) (
          rfl)) (
        rfl)))
noncomputable def g8_p1 (a22 : T22) (a19 : T19) (R : Type) (t2_0 : Nat) (t2_1 : Nat) (t4_0 : Nat) (t4_1 : Nat) (t5 : Sl) (t6 : Bool) (H : Heap) (kR : Nat → Nat → Int → Heap → Option R) : Option R :=
  sel (!t6) (
    ((H).sts t2_0 t2_1 [(V.i .u8 (0 : Int)), (V.i .i64 (0 : Int)), (V.s str0), (V.s str0), (V.i .u8 (0 : Int))]).bind fun h203 =>
    kR t2_0 t2_1 (4 : Int) h203) (
    sel (decide (((t5.len : Nat) : Int) > (0 : Int))) (
      ((H).sts t2_0 t2_1 [(V.i .u8 (0 : Int)), (V.i .i64 (0 : Int)), (V.s str0), (V.s str0), (V.i .u8 (0 : Int))]).bind fun h204 =>
      kR t2_0 t2_1 (4 : Int) h204) (
      ((H).ldI .u8 t4_0 (t4_1 + 0)).bind fun x205 =>
      ((H).ldI .i64 t4_0 (t4_1 + 1)).bind fun x206 =>
      ((H).ldS t4_0 (t4_1 + 2)).bind fun x207 =>
      ((H).ldS t4_0 (t4_1 + 3)).bind fun x208 =>
      ((H).ldI .u8 t4_0 (t4_1 + 4)).bind fun x209 =>
      a19 R x205 x206 x207 x208 x209 H fun x210 h211 =>
      sel (!x210) (
        ((h211).sts t2_0 t2_1 [(V.i .u8 (0 : Int)), (V.i .i64 (0 : Int)), (V.s str0), (V.s str0), (V.i .u8 (0 : Int))]).bind fun h212 =>
        kR t2_0 t2_1 (4 : Int) h212) (
        ((h211).ldI .u8 t4_0 (t4_1 + 0)).bind fun x213 =>
        ((h211).ldI .i64 t4_0 (t4_1 + 1)).bind fun x214 =>
        ((h211).ldS t4_0 (t4_1 + 2)).bind fun x215 =>
        ((h211).ldS t4_0 (t4_1 + 3)).bind fun x216 =>
        ((h211).ldI .u8 t4_0 (t4_1 + 4)).bind fun x217 =>
        ((h211).sts t2_0 t2_1 [(V.i .u8 x213), (V.i .i64 x214), (V.s x215), (V.s x216), (V.i .u8 x217)]).bind fun h218 =>
        kR t2_0 t2_1 (0 : Int) h218)))
theorem g8_p1_eq (a22 : T22) (a19 : T19) (la22 : Lin22 a22) (la19 : Lin19 a19) {R : Type} (t2_0 : Nat) (t2_1 : Nat) (t4_0 : Nat) (t4_1 : Nat) (t5 : Sl) (t6 : Bool) (H : Heap) (K : Ex → Fr → Heap → Option R) : ev Tryd.prog (E8 a22 a19) loopLim Tryd.f8.ntmps kp8 c8_0 [(2, (V.p (some (t2_0, t2_1)))), (4, (V.p (some (t4_0, t4_1)))), (5, (V.sl t5)), (6, (V.b t6))] H K = g8_p1 a22 a19 R t2_0 t2_1 t4_0 t4_1 t5 t6 H (fun t2_0 t2_1 t3 H => K .ret [(2, (V.p (some (t2_0, t2_1)))), (3, (V.i .i64 t3))] H) := by kernel_rfl
theorem g8_p1_lin {a22 : T22} {a19 : T19} (la22 : Lin22 a22) (la19 : Lin19 a19) {R S : Type} {k : S → Option R} {t2_0 : Nat} {t2_1 : Nat} {t4_0 : Nat} {t4_1 : Nat} {t5 : Sl} {t6 : Bool} {H : Heap} {fkR : Nat → Nat → Int → Heap → Option R} {gkR : Nat → Nat → Int → Heap → Option S} (hkR : ∀ t2_0 t2_1 t3 H, fkR t2_0 t2_1 t3 H = (gkR t2_0 t2_1 t3 H).bind k) : g8_p1 a22 a19 R t2_0 t2_1 t4_0 t4_1 t5 t6 H fkR = (g8_p1 a22 a19 S t2_0 t2_1 t4_0 t4_1 t5 t6 H gkR).bind k := by
  delta g8_p1; exact (
    sl_lin (
      bl fun h203 =>
      hkR _ _ _ _) (
      sl_lin (
        bl fun h204 =>
        hkR _ _ _ _) (
        bl fun x205 =>
        bl fun x206 =>
        bl fun x207 =>
        bl fun x208 =>
        bl fun x209 =>
        la19.l fun x210 h211 =>
        sl_lin (
          bl fun h212 =>
          hkR _ _ _ _) (
          bl fun x213 =>
          bl fun x214 =>
          bl fun x215 =>
          bl fun x216 =>
          bl fun x217 =>
          bl fun h218 =>
          hkR _ _ _ _))))
noncomputable def g8_p2 (a22 : T22) (a19 : T19) (R : Type) (t0 : Sl) (H : Heap) (kR : Nat → Nat → Int → Heap → Option R) : Option R :=
  g8_p0 a22 a19 R t0 H (fun t2_0 t2_1 t4_0 t4_1 t5 t6 H => g8_p1 a22 a19 R t2_0 t2_1 t4_0 t4_1 t5 t6 H (fun t2_0 t2_1 t3 H => kR t2_0 t2_1 t3 H)) (fun t2_0 t2_1 t3 H => kR t2_0 t2_1 t3 H)
theorem g8_p2_lin {a22 : T22} {a19 : T19} (la22 : Lin22 a22) (la19 : Lin19 a19) {R S : Type} {k : S → Option R} {t0 : Sl} {H : Heap} {fkR : Nat → Nat → Int → Heap → Option R} {gkR : Nat → Nat → Int → Heap → Option S} (hkR : ∀ t2_0 t2_1 t3 H, fkR t2_0 t2_1 t3 H = (gkR t2_0 t2_1 t3 H).bind k) : g8_p2 a22 a19 R t0 H fkR = (g8_p2 a22 a19 S t0 H gkR).bind k := by
  exact g8_p0_lin la22 la19 (fun _ _ _ _ _ _ _ => g8_p1_lin la22 la19 (fun _ _ _ _ => hkR _ _ _ _)) (fun _ _ _ _ => hkR _ _ _ _)
theorem g8_p2_eq (a22 : T22) (a19 : T19) (la22 : Lin22 a22) (la19 : Lin19 a19) {R : Type} (t0 : Sl) (H : Heap) (K : Ex → Fr → Heap → Option R) : ev Tryd.prog (E8 a22 a19) loopLim Tryd.f8.ntmps kp8 c8_1 [(0, (V.sl t0))] H K = g8_p2 a22 a19 R t0 H (fun t2_0 t2_1 t3 H => K .ret [(2, (V.p (some (t2_0, t2_1)))), (3, (V.i .i64 t3))] H) := by
  show ev Tryd.prog (E8 a22 a19) loopLim Tryd.f8.ntmps kp8 (.seq (codeAt [0] b8) (.seq (codeAt [1, 0, 0] b8) (.seq (.cond (.tmp 9) (.seq (codeAt [1, 0, 1, 0, 0] b8) .ret) .skip) (.seq (codeAt [1, 1, 0] b8) (.seq (codeAt [1, 1, 1, 0] b8) (.seq (codeAt [1, 1, 1, 1, 0, 0] b8) (.seq (.block 0 (.seq (codeAt [1, 1, 1, 1, 0, 1, 0, 0] b8) (.cond (.tmp 29) (.seq (codeAt [1, 1, 1, 1, 0, 1, 0, 1, 0, 0] b8) (.seq (codeAt [1, 1, 1, 1, 0, 1, 0, 1, 0, 1, 0] b8) (.cond (.tmp 38) (codeAt [1, 1, 1, 1, 0, 1, 0, 1, 0, 1, 1, 0] b8) .skip))) (.seq (codeAt [1, 1, 1, 1, 0, 1, 0, 1, 1, 0] b8) (.cond (.tmp 46) (.seq (codeAt [1, 1, 1, 1, 0, 1, 0, 1, 1, 1, 0, 0] b8) (.seq (codeAt [1, 1, 1, 1, 0, 1, 0, 1, 1, 1, 0, 1, 0] b8) (.cond (.tmp 51) (codeAt [1, 1, 1, 1, 0, 1, 0, 1, 1, 1, 0, 1, 1, 0] b8) .skip))) .skip))))) c8_0))))))) [(0, (V.sl t0))] H K = _
  delta g8_p2
  exact (g8_p0_eq a22 a19 _ t0 H K).trans (congr (congrArg (g8_p0 a22 a19 R t0 H) (funext fun t2_0 => funext fun t2_1 => funext fun t4_0 => funext fun t4_1 => funext fun t5 => funext fun t6 => funext fun H => g8_p1_eq a22 a19 la22 la19 t2_0 t2_1 t4_0 t4_1 t5 t6 H K)) rfl)
noncomputable def g8_r (a22 : T22) (a19 : T19) : T8 := fun R t0 H K =>
  g8_p2 a22 a19 R t0 H (fun t2_0 t2_1 t3 H =>
    ((H).ldI .u8 t2_0 (t2_1 + 0)).bind fun x219 =>
    ((H).ldI .i64 t2_0 (t2_1 + 1)).bind fun x220 =>
    ((H).ldS t2_0 (t2_1 + 2)).bind fun x221 =>
    ((H).ldS t2_0 (t2_1 + 3)).bind fun x222 =>
    ((H).ldI .u8 t2_0 (t2_1 + 4)).bind fun x223 =>
    K x219 x220 x221 x222 x223 t3 H)
theorem g8_r_lin {a22 : T22} {a19 : T19} (la22 : Lin22 a22) (la19 : Lin19 a19) : Lin8 (g8_r a22 a19) := by
  constructor
  intro R S k t0 H f g h
  exact g8_p2_lin la22 la19 (fun t2_0 t2_1 t3 H =>
    bl fun x219 =>
    bl fun x220 =>
    bl fun x221 =>
    bl fun x222 =>
    bl fun x223 =>
    h _ _ _ _ _ _ _)
theorem g8_fn (a22 : T22) (a19 : T19) (la22 : Lin22 a22) (la19 : Lin19 a19) {R : Type} (t0 : Sl) (H : Heap) (K : V → Heap → Option R) : evFn Tryd.prog (E8 a22 a19) loopLim Tryd.f8 kp8 [(V.sl t0)] H K = g8_r a22 a19 R t0 H (fun r0_0 r0_1 r0_2 r0_3 r0_4 r1 H => K (V.tup [(V.agg [(V.i .u8 r0_0), (V.i .i64 r0_1), (V.s r0_2), (V.s r0_3), (V.i .u8 r0_4)]), (V.i .i64 r1)]) H) := by
  have h0 : ∀ (t2_0 : Nat) (t2_1 : Nat) (t3 : Int) (H : Heap), kFn Tryd.prog Tryd.f8.results.toList K .ret [(2, (V.p (some (t2_0, t2_1)))), (3, (V.i .i64 t3))] H =
      ((H).ldI .u8 t2_0 (t2_1 + 0)).bind fun x219 =>
      ((H).ldI .i64 t2_0 (t2_1 + 1)).bind fun x220 =>
      ((H).ldS t2_0 (t2_1 + 2)).bind fun x221 =>
      ((H).ldS t2_0 (t2_1 + 3)).bind fun x222 =>
      ((H).ldI .u8 t2_0 (t2_1 + 4)).bind fun x223 =>
      K (V.tup [(V.agg [(V.i .u8 x219), (V.i .i64 x220), (V.s x221), (V.s x222), (V.i .u8 x223)]), (V.i .i64 t3)]) H := by intros; kernel_rfl
  have e0 := evFn_code2 (P := Tryd.prog) (c := c8_1) (E := (E8 a22 a19)) (lr := loopLim) (kp := kp8) (fn := Tryd.f8) (args := [(V.sl t0)]) H K (by kernel_rfl) (Nat.le_of_ble_eq_true (by kernel_rfl)) (by kernel_rfl)
  have e1 : ev Tryd.prog (E8 a22 a19) loopLim Tryd.f8.ntmps kp8 c8_1 (argFr 0 [(V.sl t0)]) H (kFn Tryd.prog Tryd.f8.results.toList K) = ev Tryd.prog (E8 a22 a19) loopLim Tryd.f8.ntmps kp8 c8_1 [(0, (V.sl t0))] H (kFn Tryd.prog Tryd.f8.results.toList K) := by kernel_rfl
  refine (e0.trans e1).trans ?_
  delta g8_r
  exact (g8_p2_eq a22 a19 la22 la19 t0 H (kFn Tryd.prog Tryd.f8.results.toList K)).trans (congrArg (g8_p2 a22 a19 R t0 H) (funext fun t2_0 => funext fun t2_1 => funext fun t3 => funext fun H => h0 t2_0 t2_1 t3 H))
theorem g8_ok {a22 : T22} {a19 : T19} (oa22 : FunOK Tryd.prog 22 (w22 a22)) (oa19 : FunOK Tryd.prog 19 (w19 a19)) (la22 : Lin22 a22) (la19 : Lin19 a19) : FunOK Tryd.prog 8 (w8 (g8_r a22 a19)) := by
  refine (runF_ok (E8_good oa22 oa19 la22 la19) mixed lim_ok Tryd.func8 (by kernel_rfl) kp8).of_le fun R args H K r hk => ?_
  unfold w8 at hk
  split at hk
  · exact (g8_fn a22 a19 la22 la19 _ H K).trans hk
  · cases hk
def kp3 : Nat → Option (List Nat) := kpOf [(0, [1, 2]), (1, [1, 2, 19]), (2, [4]), (3, [1, 2, 5, 6]), (4, [1, 2, 5, 6, 43]), (5, [4]), (6, [1, 2, 5, 6, 50]), (7, [4]), (8, [1, 2, 5, 52]), (9, [1, 2, 5, 7, 8]), (10, [1, 2, 5, 7, 8, 10]), (11, [1, 2, 5, 7, 8, 10, 12]), (12, [1, 96]), (13, [4]), (14, [1, 13, 14]), (15, [1, 13, 14, 103]), (16, [4]), (17, [1, 15, 16]), (18, [4]), (300000, [4]), (400019, [1, 2]), (400043, [1, 2, 5, 6]), (400050, [1, 2, 5, 6]), (400052, [1]), (400096, [1]), (400103, [1, 13])]
def E3 (a5 : T5) (a6 : T6) (a7 : T7) (a8 : T8) : FEnv := [(5, w5 a5), (6, w6 a6), (7, w7 a7), (8, w8 a8)]
theorem E3_good {a5 : T5} {a6 : T6} {a7 : T7} {a8 : T8} (oa5 : FunOK Tryd.prog 5 (w5 a5)) (oa6 : FunOK Tryd.prog 6 (w6 a6)) (oa7 : FunOK Tryd.prog 7 (w7 a7)) (oa8 : FunOK Tryd.prog 8 (w8 a8)) (la5 : Lin5 a5) (la6 : Lin6 a6) (la7 : Lin7 a7) (la8 : Lin8 a8) : EnvGood Tryd.prog (E3 a5 a6 a7 a8) := (((((EnvGood.nil _).cons oa8 (w8_lin la8)).cons oa7 (w7_lin la7)).cons oa6 (w6_lin la6)).cons oa5 (w5_lin la5))
theorem E3_lin {a5 : T5} {a6 : T6} {a7 : T7} {a8 : T8} (la5 : Lin5 a5) (la6 : Lin6 a6) (la7 : Lin7 a7) (la8 : Lin8 a8) : EnvLin (E3 a5 a6 a7 a8) := by
  intro g F h
  simp only [E3, List.mem_cons, List.not_mem_nil, or_false] at h
  rcases h with h | h | h | h
  · cases h; exact w5_lin la5
  · cases h; exact w6_lin la6
  · cases h; exact w7_lin la7
  · cases h; exact w8_lin la8
noncomputable def b3 : Code := Tryd.f3.body.getD .skip
noncomputable def c3_0 : Code := (.seq (codeAt [1, 1, 1, 1, 1, 1, 0] b3) (.seq (codeAt [1, 1, 1, 1, 1, 1, 1, 0, 0] b3) (.seq (.cond (.tmp 103) (.seq (codeAt [1, 1, 1, 1, 1, 1, 1, 0, 1, 0, 0] b3) .ret) .skip) (.seq (codeAt [1, 1, 1, 1, 1, 1, 1, 1, 0] b3) (.seq (codeAt [1, 1, 1, 1, 1, 1, 1, 1, 1, 0] b3) .ret)))))
noncomputable def c3_1 : Code := (.seq (.cond (.tmp 43) (.seq (codeAt [1, 1, 1, 0, 1, 0, 0] b3) .ret) .skip) (.seq (codeAt [1, 1, 1, 1, 0, 0] b3) (.seq (.cond (.tmp 50) (.seq (codeAt [1, 1, 1, 1, 0, 1, 0, 0] b3) .ret) .skip) (.seq (codeAt [1, 1, 1, 1, 1, 0, 0] b3) (.seq (.cond (.tmp 52) (.seq (codeAt [1, 1, 1, 1, 1, 0, 1, 0, 0] b3) (.seq (codeAt [1, 1, 1, 1, 1, 0, 1, 0, 1, 0] b3) (.seq (codeAt [1, 1, 1, 1, 1, 0, 1, 0, 1, 1, 0] b3) (.seq (codeAt [1, 1, 1, 1, 1, 0, 1, 0, 1, 1, 1, 0] b3) (.cond (.tmp 96) (.seq (codeAt [1, 1, 1, 1, 1, 0, 1, 0, 1, 1, 1, 1, 0, 0] b3) .ret) .skip))))) .skip) c3_0)))))
noncomputable def c3_2 : Code := (.seq (codeAt [0] b3) (.seq (codeAt [1, 0, 0] b3) (.seq (.cond (.tmp 19) (.seq (codeAt [1, 0, 1, 0, 0] b3) .ret) .skip) (.seq (codeAt [1, 1, 0] b3) (.seq (codeAt [1, 1, 1, 0, 0] b3) c3_1)))))
noncomputable def g3_p0 (a5 : T5) (a6 : T6) (a7 : T7) (a8 : T8) (R : Type) (t0_0 : Int) (t0_1 : Int) (t0_2 : ByteArray) (t0_3 : ByteArray) (t0_4 : Int) (t1 : Sl) (H : Heap) (kN : Sl → Nat → Nat → Sl → Int → Bool → Heap → Option R) (kR : Bool → Heap → Option R) : Option R :=
  alo H (.cells [(V.i .u8 t0_0), (V.i .i64 t0_1), (V.s t0_2), (V.s t0_3), (V.i .u8 t0_4)] 24 false) fun i472 h473 =>
  sel (decide (((t1.len : Nat) : Int) > (60 : Int))) (
    a5 R h473 fun x474 h475 =>
    kR x474 h475) (
    ((h473).ldI .u8 i472 (0 + 0)).bind fun x476 =>
    ((h473).ldI .i64 i472 (0 + 1)).bind fun x477 =>
    ((h473).ldS i472 (0 + 2)).bind fun x478 =>
    ((h473).ldS i472 (0 + 3)).bind fun x479 =>
    ((h473).ldI .u8 i472 (0 + 4)).bind fun x480 =>
    a6 R x476 x477 x478 x479 x480 h473 fun x481 x482 h483 =>
    ((h483).ldI .u8 i472 (0 + 0)).bind fun x484 =>
    ((h483).ldI .i64 i472 (0 + 1)).bind fun x485 =>
    ((h483).ldS i472 (0 + 2)).bind fun x486 =>
    ((h483).ldS i472 (0 + 3)).bind fun x487 =>
    ((h483).ldI .u8 i472 (0 + 4)).bind fun x488 =>
    a7 R x484 x485 x486 x487 x488 h483 fun x489 h490 =>
    sel (!((x482 == (0 : Int)) == x489)) (
      kN t1 i472 0 x481 x482 true h490) (
      sel (x482 != (0 : Int)) (
        sel (x482 != (1 : Int)) (
          kN t1 i472 0 x481 x482 true h490) (
          kN t1 i472 0 x481 x482 (((x481.len : Nat) : Int) != (0 : Int)) h490)) (
        kN t1 i472 0 x481 x482 false h490)))
theorem g3_p0_eq (a5 : T5) (a6 : T6) (a7 : T7) (a8 : T8) {R : Type} (c2 : Code) (t0_0 : Int) (t0_1 : Int) (t0_2 : ByteArray) (t0_3 : ByteArray) (t0_4 : Int) (t1 : Sl) (H : Heap) (K : Ex → Fr → Heap → Option R) : ev Tryd.prog (E3 a5 a6 a7 a8) loopLim Tryd.f3.ntmps kp3 (.seq (codeAt [0] b3) (.seq (codeAt [1, 0, 0] b3) (.seq (.cond (.tmp 19) (.seq (codeAt [1, 0, 1, 0, 0] b3) .ret) .skip) (.seq (codeAt [1, 1, 0] b3) (.seq (codeAt [1, 1, 1, 0, 0] b3) c2))))) [(0, (V.agg [(V.i .u8 t0_0), (V.i .i64 t0_1), (V.s t0_2), (V.s t0_3), (V.i .u8 t0_4)])), (1, (V.sl t1))] H K = g3_p0 a5 a6 a7 a8 R t0_0 t0_1 t0_2 t0_3 t0_4 t1 H (fun t1 t2_0 t2_1 t5 t6 t43 H => ev Tryd.prog (E3 a5 a6 a7 a8) loopLim Tryd.f3.ntmps kp3 c2 [(1, (V.sl t1)), (2, (V.p (some (t2_0, t2_1)))), (5, (V.sl t5)), (6, (V.i .i64 t6)), (43, (V.b t43))] H K) (fun t4 H => K .ret [(4, (V.b t4))] H) := by kernel_rfl
theorem g3_p0_lin {a5 : T5} {a6 : T6} {a7 : T7} {a8 : T8} (la5 : Lin5 a5) (la6 : Lin6 a6) (la7 : Lin7 a7) (la8 : Lin8 a8) {R S : Type} {k : S → Option R} {t0_0 : Int} {t0_1 : Int} {t0_2 : ByteArray} {t0_3 : ByteArray} {t0_4 : Int} {t1 : Sl} {H : Heap} {fkN : Sl → Nat → Nat → Sl → Int → Bool → Heap → Option R} {gkN : Sl → Nat → Nat → Sl → Int → Bool → Heap → Option S} {fkR : Bool → Heap → Option R} {gkR : Bool → Heap → Option S} (hkN : ∀ t1 t2_0 t2_1 t5 t6 t43 H, fkN t1 t2_0 t2_1 t5 t6 t43 H = (gkN t1 t2_0 t2_1 t5 t6 t43 H).bind k) (hkR : ∀ t4 H, fkR t4 H = (gkR t4 H).bind k) : g3_p0 a5 a6 a7 a8 R t0_0 t0_1 t0_2 t0_3 t0_4 t1 H fkN fkR = (g3_p0 a5 a6 a7 a8 S t0_0 t0_1 t0_2 t0_3 t0_4 t1 H gkN gkR).bind k := by
  delta g3_p0; exact (
    alo_lin fun i472 h473 =>
    sl_lin (
      la5.l fun x474 h475 =>
      hkR _ _) (
      bl fun x476 =>
      bl fun x477 =>
      bl fun x478 =>
      bl fun x479 =>
      bl fun x480 =>
      la6.l fun x481 x482 h483 =>
      bl fun x484 =>
      bl fun x485 =>
      bl fun x486 =>
      bl fun x487 =>
      bl fun x488 =>
      la7.l fun x489 h490 =>
      sl_lin (
        hkN _ _ _ _ _ _ _) (
        sl_lin (
          sl_lin (
            hkN _ _ _ _ _ _ _) (
            hkN _ _ _ _ _ _ _)) (
          hkN _ _ _ _ _ _ _))))
noncomputable def g3_p1 (a5 : T5) (a6 : T6) (a7 : T7) (a8 : T8) (R : Type) (t1 : Sl) (t2_0 : Nat) (t2_1 : Nat) (t5 : Sl) (t6 : Int) (t43 : Bool) (H : Heap) (kN : Sl → Heap → Option R) (kR : Bool → Heap → Option R) : Option R :=
  sel t43 (
    kR false H) (
    sel (t6 == (0 : Int)) (
      sel (((t5.len : Nat) : Int) == (0 : Int)) (
        kR false H) (
        sel (t6 == (0 : Int)) (
          a8 R t5 H fun x707 x708 x709 x710 x711 x712 h713 =>
          alo h713 (.cells [(V.i .u8 (0 : Int)), (V.i .i64 (0 : Int)), (V.s str0), (V.s str0), (V.i .u8 (0 : Int))] 24 false) fun i714 h715 =>
          ((h715).sts i714 0 [(V.i .u8 x707), (V.i .i64 x708), (V.s x709), (V.s x710), (V.i .u8 x711)]).bind fun h716 =>
          ((slCells h716 1 t5)).bind fun vs719 =>
          appendV h716 5 1 1 (Sl.mk none 0 (.ex 0)) t5.len vs719 fun s717 h718 =>
          alo h718 (.cells [(V.i .u8 (0 : Int))] 5 false) fun i720 h721 =>
          ((slCells h721 1 (Sl.mk (some (i720, 0)) 1 (.ex 1)))).bind fun vs724 =>
          appendV h721 5 1 1 s717 (Sl.mk (some (i720, 0)) 1 (.ex 1)).len vs724 fun s722 h723 =>
          a8 R s722 h723 fun x725 x726 x727 x728 x729 x730 h731 =>
          alo h731 (.cells [(V.i .u8 (0 : Int)), (V.i .i64 (0 : Int)), (V.s str0), (V.s str0), (V.i .u8 (0 : Int))] 24 false) fun i732 h733 =>
          ((h733).sts i732 0 [(V.i .u8 x725), (V.i .i64 x726), (V.s x727), (V.s x728), (V.i .u8 x729)]).bind fun h734 =>
          slOf 1 t5 none (some (IntKind.wrap .i64 (((t5.len : Nat) : Int) - (1 : Int)))) none fun s735 =>
          a8 R s735 h734 fun x736 x737 x738 x739 x740 x741 h742 =>
          alo h742 (.cells [(V.i .u8 (0 : Int)), (V.i .i64 (0 : Int)), (V.s str0), (V.s str0), (V.i .u8 (0 : Int))] 24 false) fun i743 h744 =>
          ((h744).sts i743 0 [(V.i .u8 x736), (V.i .i64 x737), (V.s x738), (V.s x739), (V.i .u8 x740)]).bind fun h745 =>
          sel (x712 != (0 : Int)) (
            kR false h745) (
            ((h745).ldI .u8 i714 (0 + 0)).bind fun x746 =>
            ((h745).ldI .i64 i714 (0 + 1)).bind fun x747 =>
            ((h745).ldS i714 (0 + 2)).bind fun x748 =>
            ((h745).ldS i714 (0 + 3)).bind fun x749 =>
            ((h745).ldI .u8 i714 (0 + 4)).bind fun x750 =>
            ((h745).ldI .u8 t2_0 (t2_1 + 0)).bind fun x751 =>
            ((h745).ldI .i64 t2_0 (t2_1 + 1)).bind fun x752 =>
            ((h745).ldS t2_0 (t2_1 + 2)).bind fun x753 =>
            ((h745).ldS t2_0 (t2_1 + 3)).bind fun x754 =>
            ((h745).ldI .u8 t2_0 (t2_1 + 4)).bind fun x755 =>
            sel (!((x746 == x751) && ((x747 == x752) && ((strEq x748 x753) && ((strEq x749 x754) && ((x750 == x755) && true)))))) (
              kR false h745) (
              sel (x730 != (4 : Int)) (
                kR false h745) (
                sel (x741 != (4 : Int)) (
                  kR false h745) (
                  capK t5.cap fun c756 =>
                  sel (((c756 : Nat) : Int) != ((t5.len : Nat) : Int)) (
                    kR false h745) (
                    kN t1 h745)))))) (
          kN t1 H))) (
      sel (t6 == (0 : Int)) (
        a8 R t5 H fun x757 x758 x759 x760 x761 x762 h763 =>
        alo h763 (.cells [(V.i .u8 (0 : Int)), (V.i .i64 (0 : Int)), (V.s str0), (V.s str0), (V.i .u8 (0 : Int))] 24 false) fun i764 h765 =>
        ((h765).sts i764 0 [(V.i .u8 x757), (V.i .i64 x758), (V.s x759), (V.s x760), (V.i .u8 x761)]).bind fun h766 =>
        ((slCells h766 1 t5)).bind fun vs769 =>
        appendV h766 5 1 1 (Sl.mk none 0 (.ex 0)) t5.len vs769 fun s767 h768 =>
        alo h768 (.cells [(V.i .u8 (0 : Int))] 5 false) fun i770 h771 =>
        ((slCells h771 1 (Sl.mk (some (i770, 0)) 1 (.ex 1)))).bind fun vs774 =>
        appendV h771 5 1 1 s767 (Sl.mk (some (i770, 0)) 1 (.ex 1)).len vs774 fun s772 h773 =>
        a8 R s772 h773 fun x775 x776 x777 x778 x779 x780 h781 =>
        alo h781 (.cells [(V.i .u8 (0 : Int)), (V.i .i64 (0 : Int)), (V.s str0), (V.s str0), (V.i .u8 (0 : Int))] 24 false) fun i782 h783 =>
        ((h783).sts i782 0 [(V.i .u8 x775), (V.i .i64 x776), (V.s x777), (V.s x778), (V.i .u8 x779)]).bind fun h784 =>
        slOf 1 t5 none (some (IntKind.wrap .i64 (((t5.len : Nat) : Int) - (1 : Int)))) none fun s785 =>
        a8 R s785 h784 fun x786 x787 x788 x789 x790 x791 h792 =>
        alo h792 (.cells [(V.i .u8 (0 : Int)), (V.i .i64 (0 : Int)), (V.s str0), (V.s str0), (V.i .u8 (0 : Int))] 24 false) fun i793 h794 =>
        ((h794).sts i793 0 [(V.i .u8 x786), (V.i .i64 x787), (V.s x788), (V.s x789), (V.i .u8 x790)]).bind fun h795 =>
        sel (x762 != (0 : Int)) (
          kR false h795) (
          ((h795).ldI .u8 i764 (0 + 0)).bind fun x796 =>
          ((h795).ldI .i64 i764 (0 + 1)).bind fun x797 =>
          ((h795).ldS i764 (0 + 2)).bind fun x798 =>
          ((h795).ldS i764 (0 + 3)).bind fun x799 =>
          ((h795).ldI .u8 i764 (0 + 4)).bind fun x800 =>
          ((h795).ldI .u8 t2_0 (t2_1 + 0)).bind fun x801 =>
          ((h795).ldI .i64 t2_0 (t2_1 + 1)).bind fun x802 =>
          ((h795).ldS t2_0 (t2_1 + 2)).bind fun x803 =>
          ((h795).ldS t2_0 (t2_1 + 3)).bind fun x804 =>
          ((h795).ldI .u8 t2_0 (t2_1 + 4)).bind fun x805 =>
          sel (!((x796 == x801) && ((x797 == x802) && ((strEq x798 x803) && ((strEq x799 x804) && ((x800 == x805) && true)))))) (
            kR false h795) (
            sel (x780 != (4 : Int)) (
              kR false h795) (
              sel (x791 != (4 : Int)) (
                kR false h795) (
                capK t5.cap fun c806 =>
                sel (((c806 : Nat) : Int) != ((t5.len : Nat) : Int)) (
                  kR false h795) (
                  kN t1 h795)))))) (
        kN t1 H)))
theorem g3_p1_eq (a5 : T5) (a6 : T6) (a7 : T7) (a8 : T8) {R : Type} (c2 : Code) (t1 : Sl) (t2_0 : Nat) (t2_1 : Nat) (t5 : Sl) (t6 : Int) (t43 : Bool) (H : Heap) (K : Ex → Fr → Heap → Option R) : ev Tryd.prog (E3 a5 a6 a7 a8) loopLim Tryd.f3.ntmps kp3 (.seq (.cond (.tmp 43) (.seq (codeAt [1, 1, 1, 0, 1, 0, 0] b3) .ret) .skip) (.seq (codeAt [1, 1, 1, 1, 0, 0] b3) (.seq (.cond (.tmp 50) (.seq (codeAt [1, 1, 1, 1, 0, 1, 0, 0] b3) .ret) .skip) (.seq (codeAt [1, 1, 1, 1, 1, 0, 0] b3) (.seq (.cond (.tmp 52) (.seq (codeAt [1, 1, 1, 1, 1, 0, 1, 0, 0] b3) (.seq (codeAt [1, 1, 1, 1, 1, 0, 1, 0, 1, 0] b3) (.seq (codeAt [1, 1, 1, 1, 1, 0, 1, 0, 1, 1, 0] b3) (.seq (codeAt [1, 1, 1, 1, 1, 0, 1, 0, 1, 1, 1, 0] b3) (.cond (.tmp 96) (.seq (codeAt [1, 1, 1, 1, 1, 0, 1, 0, 1, 1, 1, 1, 0, 0] b3) .ret) .skip))))) .skip) c2))))) [(1, (V.sl t1)), (2, (V.p (some (t2_0, t2_1)))), (5, (V.sl t5)), (6, (V.i .i64 t6)), (43, (V.b t43))] H K = g3_p1 a5 a6 a7 a8 R t1 t2_0 t2_1 t5 t6 t43 H (fun t1 H => ev Tryd.prog (E3 a5 a6 a7 a8) loopLim Tryd.f3.ntmps kp3 c2 [(1, (V.sl t1))] H K) (fun t4 H => K .ret [(4, (V.b t4))] H) := by kernel_rfl
theorem g3_p1_lin {a5 : T5} {a6 : T6} {a7 : T7} {a8 : T8} (la5 : Lin5 a5) (la6 : Lin6 a6) (la7 : Lin7 a7) (la8 : Lin8 a8) {R S : Type} {k : S → Option R} {t1 : Sl} {t2_0 : Nat} {t2_1 : Nat} {t5 : Sl} {t6 : Int} {t43 : Bool} {H : Heap} {fkN : Sl → Heap → Option R} {gkN : Sl → Heap → Option S} {fkR : Bool → Heap → Option R} {gkR : Bool → Heap → Option S} (hkN : ∀ t1 H, fkN t1 H = (gkN t1 H).bind k) (hkR : ∀ t4 H, fkR t4 H = (gkR t4 H).bind k) : g3_p1 a5 a6 a7 a8 R t1 t2_0 t2_1 t5 t6 t43 H fkN fkR = (g3_p1 a5 a6 a7 a8 S t1 t2_0 t2_1 t5 t6 t43 H gkN gkR).bind k := by
  delta g3_p1; exact (
    sl_lin (
      hkR _ _) (
      sl_lin (
        sl_lin (
          hkR _ _) (
          sl_lin (
            la8.l fun x707 x708 x709 x710 x711 x712 h713 =>
            alo_lin fun i714 h715 =>
            bl fun h716 =>
            bl fun vs719 =>
            appendV_lin fun s717 h718 =>
            alo_lin fun i720 h721 =>
            bl fun vs724 =>
            appendV_lin fun s722 h723 =>
            la8.l fun x725 x726 x727 x728 x729 x730 h731 =>
            alo_lin fun i732 h733 =>
            bl fun h734 =>
            slOf_lin fun s735 =>
            la8.l fun x736 x737 x738 x739 x740 x741 h742 =>
            alo_lin fun i743 h744 =>
            bl fun h745 =>
            sl_lin (
              hkR _ _) (
              bl fun x746 =>
              bl fun x747 =>
              bl fun x748 =>
              bl fun x749 =>
              bl fun x750 =>
              bl fun x751 =>
              bl fun x752 =>
              bl fun x753 =>
              bl fun x754 =>
              bl fun x755 =>
              sl_lin (
                hkR _ _) (
                sl_lin (
                  hkR _ _) (
                  sl_lin (
                    hkR _ _) (
                    capK_lin fun c756 =>
                    sl_lin (
                      hkR _ _) (
                      hkN _ _)))))) (
            hkN _ _))) (
        sl_lin (
          la8.l fun x757 x758 x759 x760 x761 x762 h763 =>
          alo_lin fun i764 h765 =>
          bl fun h766 =>
          bl fun vs769 =>
          appendV_lin fun s767 h768 =>
          alo_lin fun i770 h771 =>
          bl fun vs774 =>
          appendV_lin fun s772 h773 =>
          la8.l fun x775 x776 x777 x778 x779 x780 h781 =>
          alo_lin fun i782 h783 =>
          bl fun h784 =>
          slOf_lin fun s785 =>
          la8.l fun x786 x787 x788 x789 x790 x791 h792 =>
          alo_lin fun i793 h794 =>
          bl fun h795 =>
          sl_lin (
            hkR _ _) (
            bl fun x796 =>
            bl fun x797 =>
            bl fun x798 =>
            bl fun x799 =>
            bl fun x800 =>
            bl fun x801 =>
            bl fun x802 =>
            bl fun x803 =>
            bl fun x804 =>
            bl fun x805 =>
            sl_lin (
              hkR _ _) (
              sl_lin (
                hkR _ _) (
                sl_lin (
                  hkR _ _) (
                  capK_lin fun c806 =>
                  sl_lin (
                    hkR _ _) (
                    hkN _ _)))))) (
          hkN _ _))))
noncomputable def g3_p2 (a5 : T5) (a6 : T6) (a7 : T7) (a8 : T8) (R : Type) (t1 : Sl) (H : Heap) (kR : Bool → Heap → Option R) : Option R :=
  a8 R t1 H fun x807 x808 x809 x810 x811 x812 h813 =>
  alo h813 (.cells [(V.i .u8 (0 : Int)), (V.i .i64 (0 : Int)), (V.s str0), (V.s str0), (V.i .u8 (0 : Int))] 24 false) fun i814 h815 =>
  ((h815).sts i814 0 [(V.i .u8 x807), (V.i .i64 x808), (V.s x809), (V.s x810), (V.i .u8 x811)]).bind fun h816 =>
  sel (x812 != (0 : Int)) (
    sel (x812 == (4 : Int)) (
      ((h816).ldI .u8 i814 (0 + 0)).bind fun x817 =>
      ((h816).ldI .i64 i814 (0 + 1)).bind fun x818 =>
      ((h816).ldS i814 (0 + 2)).bind fun x819 =>
      ((h816).ldS i814 (0 + 3)).bind fun x820 =>
      ((h816).ldI .u8 i814 (0 + 4)).bind fun x821 =>
      sel ((x817 == (0 : Int)) && ((x818 == (0 : Int)) && ((strEq x819 str0) && ((strEq x820 str0) && ((x821 == (0 : Int)) && true))))) (
        a5 R h816 fun x822 h823 =>
        kR x822 h823) (
        kR false h816)) (
      kR false h816)) (
    ((h816).ldI .u8 i814 (0 + 0)).bind fun x824 =>
    ((h816).ldI .i64 i814 (0 + 1)).bind fun x825 =>
    ((h816).ldS i814 (0 + 2)).bind fun x826 =>
    ((h816).ldS i814 (0 + 3)).bind fun x827 =>
    ((h816).ldI .u8 i814 (0 + 4)).bind fun x828 =>
    a6 R x824 x825 x826 x827 x828 h816 fun x829 x830 h831 =>
    sel (x830 == (0 : Int)) (
      ((slBytes h831 x829)).bind fun x832 =>
      ((slBytes h831 t1)).bind fun x833 =>
      sel (strEq x832 x833) (
        a5 R h831 fun x834 h835 =>
        kR x834 h835) (
        kR false h831)) (
      kR false h831))
theorem g3_p2_eq (a5 : T5) (a6 : T6) (a7 : T7) (a8 : T8) (la5 : Lin5 a5) (la6 : Lin6 a6) (la7 : Lin7 a7) (la8 : Lin8 a8) {R : Type} (t1 : Sl) (H : Heap) (K : Ex → Fr → Heap → Option R) : ev Tryd.prog (E3 a5 a6 a7 a8) loopLim Tryd.f3.ntmps kp3 c3_0 [(1, (V.sl t1))] H K = g3_p2 a5 a6 a7 a8 R t1 H (fun t4 H => K .ret [(4, (V.b t4))] H) := by kernel_rfl
theorem g3_p2_lin {a5 : T5} {a6 : T6} {a7 : T7} {a8 : T8} (la5 : Lin5 a5) (la6 : Lin6 a6) (la7 : Lin7 a7) (la8 : Lin8 a8) {R S : Type} {k : S → Option R} {t1 : Sl} {H : Heap} {fkR : Bool → Heap → Option R} {gkR : Bool → Heap → Option S} (hkR : ∀ t4 H, fkR t4 H = (gkR t4 H).bind k) : g3_p2 a5 a6 a7 a8 R t1 H fkR = (g3_p2 a5 a6 a7 a8 S t1 H gkR).bind k := by
  delta g3_p2; exact (
    la8.l fun x807 x808 x809 x810 x811 x812 h813 =>
    alo_lin fun i814 h815 =>
    bl fun h816 =>
    sl_lin (
      sl_lin (
        bl fun x817 =>
        bl fun x818 =>
        bl fun x819 =>
        bl fun x820 =>
        bl fun x821 =>
        sl_lin (
          la5.l fun x822 h823 =>
          hkR _ _) (
          hkR _ _)) (
        hkR _ _)) (
      bl fun x824 =>
      bl fun x825 =>
      bl fun x826 =>
      bl fun x827 =>
      bl fun x828 =>
      la6.l fun x829 x830 h831 =>
      sl_lin (
        bl fun x832 =>
        bl fun x833 =>
        sl_lin (
          la5.l fun x834 h835 =>
          hkR _ _) (
          hkR _ _)) (
        hkR _ _)))
noncomputable def g3_p3 (a5 : T5) (a6 : T6) (a7 : T7) (a8 : T8) (R : Type) (t1 : Sl) (t2_0 : Nat) (t2_1 : Nat) (t5 : Sl) (t6 : Int) (t43 : Bool) (H : Heap) (kR : Bool → Heap → Option R) : Option R :=
  g3_p1 a5 a6 a7 a8 R t1 t2_0 t2_1 t5 t6 t43 H (fun t1 H => g3_p2 a5 a6 a7 a8 R t1 H (fun t4 H => kR t4 H)) (fun t4 H => kR t4 H)
theorem g3_p3_lin {a5 : T5} {a6 : T6} {a7 : T7} {a8 : T8} (la5 : Lin5 a5) (la6 : Lin6 a6) (la7 : Lin7 a7) (la8 : Lin8 a8) {R S : Type} {k : S → Option R} {t1 : Sl} {t2_0 : Nat} {t2_1 : Nat} {t5 : Sl} {t6 : Int} {t43 : Bool} {H : Heap} {fkR : Bool → Heap → Option R} {gkR : Bool → Heap → Option S} (hkR : ∀ t4 H, fkR t4 H = (gkR t4 H).bind k) : g3_p3 a5 a6 a7 a8 R t1 t2_0 t2_1 t5 t6 t43 H fkR = (g3_p3 a5 a6 a7 a8 S t1 t2_0 t2_1 t5 t6 t43 H gkR).bind k := by
  exact g3_p1_lin la5 la6 la7 la8 (fun _ _ => g3_p2_lin la5 la6 la7 la8 (fun _ _ => hkR _ _)) (fun _ _ => hkR _ _)
theorem g3_p3_eq (a5 : T5) (a6 : T6) (a7 : T7) (a8 : T8) (la5 : Lin5 a5) (la6 : Lin6 a6) (la7 : Lin7 a7) (la8 : Lin8 a8) {R : Type} (t1 : Sl) (t2_0 : Nat) (t2_1 : Nat) (t5 : Sl) (t6 : Int) (t43 : Bool) (H : Heap) (K : Ex → Fr → Heap → Option R) : ev Tryd.prog (E3 a5 a6 a7 a8) loopLim Tryd.f3.ntmps kp3 c3_1 [(1, (V.sl t1)), (2, (V.p (some (t2_0, t2_1)))), (5, (V.sl t5)), (6, (V.i .i64 t6)), (43, (V.b t43))] H K = g3_p3 a5 a6 a7 a8 R t1 t2_0 t2_1 t5 t6 t43 H (fun t4 H => K .ret [(4, (V.b t4))] H) := by
  show ev Tryd.prog (E3 a5 a6 a7 a8) loopLim Tryd.f3.ntmps kp3 (.seq (.cond (.tmp 43) (.seq (codeAt [1, 1, 1, 0, 1, 0, 0] b3) .ret) .skip) (.seq (codeAt [1, 1, 1, 1, 0, 0] b3) (.seq (.cond (.tmp 50) (.seq (codeAt [1, 1, 1, 1, 0, 1, 0, 0] b3) .ret) .skip) (.seq (codeAt [1, 1, 1, 1, 1, 0, 0] b3) (.seq (.cond (.tmp 52) (.seq (codeAt [1, 1, 1, 1, 1, 0, 1, 0, 0] b3) (.seq (codeAt [1, 1, 1, 1, 1, 0, 1, 0, 1, 0] b3) (.seq (codeAt [1, 1, 1, 1, 1, 0, 1, 0, 1, 1, 0] b3) (.seq (codeAt [1, 1, 1, 1, 1, 0, 1, 0, 1, 1, 1, 0] b3) (.cond (.tmp 96) (.seq (codeAt [1, 1, 1, 1, 1, 0, 1, 0, 1, 1, 1, 1, 0, 0] b3) .ret) .skip))))) .skip) c3_0))))) [(1, (V.sl t1)), (2, (V.p (some (t2_0, t2_1)))), (5, (V.sl t5)), (6, (V.i .i64 t6)), (43, (V.b t43))] H K = _
  delta g3_p3
  exact (g3_p1_eq a5 a6 a7 a8 _ t1 t2_0 t2_1 t5 t6 t43 H K).trans (congr (congrArg (g3_p1 a5 a6 a7 a8 R t1 t2_0 t2_1 t5 t6 t43 H) (funext fun t1 => funext fun H => g3_p2_eq a5 a6 a7 a8 la5 la6 la7 la8 t1 H K)) rfl)
noncomputable def g3_p4 (a5 : T5) (a6 : T6) (a7 : T7) (a8 : T8) (R : Type) (t0_0 : Int) (t0_1 : Int) (t0_2 : ByteArray) (t0_3 : ByteArray) (t0_4 : Int) (t1 : Sl) (H : Heap) (kR : Bool → Heap → Option R) : Option R :=
  g3_p0 a5 a6 a7 a8 R t0_0 t0_1 t0_2 t0_3 t0_4 t1 H (fun t1 t2_0 t2_1 t5 t6 t43 H => g3_p3 a5 a6 a7 a8 R t1 t2_0 t2_1 t5 t6 t43 H (fun t4 H => kR t4 H)) (fun t4 H => kR t4 H)
theorem g3_p4_lin {a5 : T5} {a6 : T6} {a7 : T7} {a8 : T8} (la5 : Lin5 a5) (la6 : Lin6 a6) (la7 : Lin7 a7) (la8 : Lin8 a8) {R S : Type} {k : S → Option R} {t0_0 : Int} {t0_1 : Int} {t0_2 : ByteArray} {t0_3 : ByteArray} {t0_4 : Int} {t1 : Sl} {H : Heap} {fkR : Bool → Heap → Option R} {gkR : Bool → Heap → Option S} (hkR : ∀ t4 H, fkR t4 H = (gkR t4 H).bind k) : g3_p4 a5 a6 a7 a8 R t0_0 t0_1 t0_2 t0_3 t0_4 t1 H fkR = (g3_p4 a5 a6 a7 a8 S t0_0 t0_1 t0_2 t0_3 t0_4 t1 H gkR).bind k := by
  exact g3_p0_lin la5 la6 la7 la8 (fun _ _ _ _ _ _ _ => g3_p3_lin la5 la6 la7 la8 (fun _ _ => hkR _ _)) (fun _ _ => hkR _ _)
theorem g3_p4_eq (a5 : T5) (a6 : T6) (a7 : T7) (a8 : T8) (la5 : Lin5 a5) (la6 : Lin6 a6) (la7 : Lin7 a7) (la8 : Lin8 a8) {R : Type} (t0_0 : Int) (t0_1 : Int) (t0_2 : ByteArray) (t0_3 : ByteArray) (t0_4 : Int) (t1 : Sl) (H : Heap) (K : Ex → Fr → Heap → Option R) : ev Tryd.prog (E3 a5 a6 a7 a8) loopLim Tryd.f3.ntmps kp3 c3_2 [(0, (V.agg [(V.i .u8 t0_0), (V.i .i64 t0_1), (V.s t0_2), (V.s t0_3), (V.i .u8 t0_4)])), (1, (V.sl t1))] H K = g3_p4 a5 a6 a7 a8 R t0_0 t0_1 t0_2 t0_3 t0_4 t1 H (fun t4 H => K .ret [(4, (V.b t4))] H) := by
  show ev Tryd.prog (E3 a5 a6 a7 a8) loopLim Tryd.f3.ntmps kp3 (.seq (codeAt [0] b3) (.seq (codeAt [1, 0, 0] b3) (.seq (.cond (.tmp 19) (.seq (codeAt [1, 0, 1, 0, 0] b3) .ret) .skip) (.seq (codeAt [1, 1, 0] b3) (.seq (codeAt [1, 1, 1, 0, 0] b3) c3_1))))) [(0, (V.agg [(V.i .u8 t0_0), (V.i .i64 t0_1), (V.s t0_2), (V.s t0_3), (V.i .u8 t0_4)])), (1, (V.sl t1))] H K = _
  delta g3_p4
  exact (g3_p0_eq a5 a6 a7 a8 _ t0_0 t0_1 t0_2 t0_3 t0_4 t1 H K).trans (congr (congrArg (g3_p0 a5 a6 a7 a8 R t0_0 t0_1 t0_2 t0_3 t0_4 t1 H) (funext fun t1 => funext fun t2_0 => funext fun t2_1 => funext fun t5 => funext fun t6 => funext fun t43 => funext fun H => g3_p3_eq a5 a6 a7 a8 la5 la6 la7 la8 t1 t2_0 t2_1 t5 t6 t43 H K)) rfl)
noncomputable def g3_r (a5 : T5) (a6 : T6) (a7 : T7) (a8 : T8) : T3 := fun R t0_0 t0_1 t0_2 t0_3 t0_4 t1 H K =>
  g3_p4 a5 a6 a7 a8 R t0_0 t0_1 t0_2 t0_3 t0_4 t1 H (fun t4 H =>
    K t4 H)
theorem g3_r_lin {a5 : T5} {a6 : T6} {a7 : T7} {a8 : T8} (la5 : Lin5 a5) (la6 : Lin6 a6) (la7 : Lin7 a7) (la8 : Lin8 a8) : Lin3 (g3_r a5 a6 a7 a8) := by
  constructor
  intro R S k t0_0 t0_1 t0_2 t0_3 t0_4 t1 H f g h
  exact g3_p4_lin la5 la6 la7 la8 (fun t4 H =>
    h _ _)
theorem g3_fn (a5 : T5) (a6 : T6) (a7 : T7) (a8 : T8) (la5 : Lin5 a5) (la6 : Lin6 a6) (la7 : Lin7 a7) (la8 : Lin8 a8) {R : Type} (t0_0 : Int) (t0_1 : Int) (t0_2 : ByteArray) (t0_3 : ByteArray) (t0_4 : Int) (t1 : Sl) (H : Heap) (K : V → Heap → Option R) : evFn Tryd.prog (E3 a5 a6 a7 a8) loopLim Tryd.f3 kp3 [(V.agg [(V.i .u8 t0_0), (V.i .i64 t0_1), (V.s t0_2), (V.s t0_3), (V.i .u8 t0_4)]), (V.sl t1)] H K = g3_r a5 a6 a7 a8 R t0_0 t0_1 t0_2 t0_3 t0_4 t1 H (fun r0 H => K (V.b r0) H) := by
  have h0 : ∀ (t4 : Bool) (H : Heap), kFn Tryd.prog Tryd.f3.results.toList K .ret [(4, (V.b t4))] H =
      K (V.b t4) H := by intros; kernel_rfl
  have e0 := evFn_code2 (P := Tryd.prog) (c := c3_2) (E := (E3 a5 a6 a7 a8)) (lr := loopLim) (kp := kp3) (fn := Tryd.f3) (args := [(V.agg [(V.i .u8 t0_0), (V.i .i64 t0_1), (V.s t0_2), (V.s t0_3), (V.i .u8 t0_4)]), (V.sl t1)]) H K (by kernel_rfl) (Nat.le_of_ble_eq_true (by kernel_rfl)) (by kernel_rfl)
  have e1 : ev Tryd.prog (E3 a5 a6 a7 a8) loopLim Tryd.f3.ntmps kp3 c3_2 (argFr 0 [(V.agg [(V.i .u8 t0_0), (V.i .i64 t0_1), (V.s t0_2), (V.s t0_3), (V.i .u8 t0_4)]), (V.sl t1)]) H (kFn Tryd.prog Tryd.f3.results.toList K) = ev Tryd.prog (E3 a5 a6 a7 a8) loopLim Tryd.f3.ntmps kp3 c3_2 [(0, (V.agg [(V.i .u8 t0_0), (V.i .i64 t0_1), (V.s t0_2), (V.s t0_3), (V.i .u8 t0_4)])), (1, (V.sl t1))] H (kFn Tryd.prog Tryd.f3.results.toList K) := by kernel_rfl
  refine (e0.trans e1).trans ?_
  delta g3_r
  exact (g3_p4_eq a5 a6 a7 a8 la5 la6 la7 la8 t0_0 t0_1 t0_2 t0_3 t0_4 t1 H (kFn Tryd.prog Tryd.f3.results.toList K)).trans (congrArg (g3_p4 a5 a6 a7 a8 R t0_0 t0_1 t0_2 t0_3 t0_4 t1 H) (funext fun t4 => funext fun H => h0 t4 H))
theorem g3_ok {a5 : T5} {a6 : T6} {a7 : T7} {a8 : T8} (oa5 : FunOK Tryd.prog 5 (w5 a5)) (oa6 : FunOK Tryd.prog 6 (w6 a6)) (oa7 : FunOK Tryd.prog 7 (w7 a7)) (oa8 : FunOK Tryd.prog 8 (w8 a8)) (la5 : Lin5 a5) (la6 : Lin6 a6) (la7 : Lin7 a7) (la8 : Lin8 a8) : FunOK Tryd.prog 3 (w3 (g3_r a5 a6 a7 a8)) := by
  refine (runF_ok (E3_good oa5 oa6 oa7 oa8 la5 la6 la7 la8) mixed lim_ok Tryd.func3 (by kernel_rfl) kp3).of_le fun R args H K r hk => ?_
  unfold w3 at hk
  split at hk
  · exact (g3_fn a5 a6 a7 a8 la5 la6 la7 la8 _ _ _ _ _ _ H K).trans hk
  · cases hk
end Go.Proofs.YtnjihofdmncckaaDoor

