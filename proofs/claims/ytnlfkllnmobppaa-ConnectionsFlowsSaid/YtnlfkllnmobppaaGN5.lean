/- Printed: functions as the machine runs them. -/
import Derived.Test.YtnlfkllnmobppaaGN4
namespace Go.Proofs.Ytnlfkllnmobppaa
open Go AM Go.RowKit
set_option linter.unusedVariables false
def kp4:Nat→Option (List Nat):=kpOf [(0,[0,1]),(1,[0,1,20]),(2,[4]),(3,[0,5,6]),(4,[0,5,6,7]),(5,[0,5,6,7,8]),(6,[0,5,6,7,8,37]),(7,[0,5,6,7,8]),(8,[0,5,6,7,8,9,500009,1000009]),(9,[0,5,6,7,8,9,47,500009,1000009]),(10,[4]),(11,[0,5,6,7,8,9,10,500009,1000009]),(12,[0,5,6,7,8,9,10,56,500009,1000009]),(13,[0,5,6,7,8,9,10,11,500009,1000009]),(14,[0,5,6,7,8,9,10,11,12,13,500009,1000009]),(15,[0,5,6,7,8,9,10,11,12,13,14,500009,1000009]),(16,[0,5,6,7,8,9,10,11,13,14,500009,1000009]),(17,[0,5,6,7,8,9,10,11,14,88,500009,1000009]),(18,[4]),(19,[0,5,6,7,8,9,10,11,14,15,500009,1000009]),(20,[0,5,6,7,8,10,14,15,139]),(21,[4]),(22,[0,5,6,7,8,14]),(23,[0,5,6,7,8]),(24,[0,5,6,7,8,9,10,154,500009,1000009]),(25,[0,5,6,7,8]),(26,[5,6,7,16]),(27,[5,6,7,16,17]),(28,[5,6,7,16,17,170]),(29,[5,6,7,16,17]),(30,[5,6,7,16,17,178]),(31,[5,6,7,16,17]),(32,[4]),(100000,[5,6,7]),(100001,[0,5,6,7,8]),(100002,[5,6,16]),(100003,[5,6,7,16,17]),(200000,[0,5,6,7,8]),(200001,[0,5,6,7,8]),(200002,[5,6,7,16,17]),(200003,[5,6,7,16,17]),(300000,[4]),(400020,[0,1]),(400037,[0,5,6,7,8]),(400047,[0,5,6,7,8,9,500009,1000009]),(400056,[0,5,6,7,8,9,10,500009,1000009]),(400088,[0,5,6,7,8,9,10,11,14,500009,1000009]),(400139,[0,5,6,7,8,10,14,15]),(400154,[0,5,6,7,8]),(400170,[5,6,7,16,17]),(400178,[5,6,7,16,17])]
noncomputable def E4:FEnv:=[(9,w9 g9),(17,w17 g17),(18,w18 g18),(19,w19 g19),(20,w20 g20),(21,w21 g21),(22,w22 g22),(23,w23 g23)]
theorem E4_good:EnvGood Try.prog (E4):=(((((((((EnvGood.nil _).cons ok23 (w23_lin g23_lin)).cons ok22 (w22_lin g22_lin)).cons ok21 (w21_lin g21_lin)).cons ok20 (w20_lin g20_lin)).cons ok19 (w19_lin g19_lin)).cons ok18 (w18_lin g18_lin)).cons ok17 (w17_lin g17_lin)).cons ok9 (w9_lin g9_lin))
theorem E4_lin:EnvLin (E4):=by
  intro g F h
  simp only [E4,List.mem_cons,List.not_mem_nil,or_false] at h
  rcases h with h | h | h | h | h | h | h | h
  · cases h; exact w9_lin g9_lin
  · cases h; exact w17_lin g17_lin
  · cases h; exact w18_lin g18_lin
  · cases h; exact w19_lin g19_lin
  · cases h; exact w20_lin g20_lin
  · cases h; exact w21_lin g21_lin
  · cases h; exact w22_lin g22_lin
  · cases h; exact w23_lin g23_lin
def lv4:Nat→Bool:=lvOf [9]
noncomputable def b4:Code:=Try.f4.body.getD .skip
noncomputable def c4_0:Code:=(.cond (.tmp 154) (codeAt [1,1,1,1,0,1,0,0,1,0,0,1,1,1,1,1,0] b4) .skip)
noncomputable def c4_1:Code:=(.seq (codeAt [1,1,1,1,0,1,0,0,1,0,0,0] b4) (.seq (codeAt [1,1,1,1,0,1,0,0,1,0,0,1,0,0] b4) (.seq (.cond (.tmp 47) (.seq (codeAt [1,1,1,1,0,1,0,0,1,0,0,1,0,1,0,0] b4) .ret) .skip) (.seq (codeAt [1,1,1,1,0,1,0,0,1,0,0,1,1,0] b4) (.seq (codeAt [1,1,1,1,0,1,0,0,1,0,0,1,1,1,0,0] b4) (.seq (.cond (.tmp 56) (.seq (codeAt [1,1,1,1,0,1,0,0,1,0,0,1,1,1,0,1,0,0] b4) (.seq (codeAt [1,1,1,1,0,1,0,0,1,0,0,1,1,1,0,1,0,1,0] b4) (.seq (codeAt [1,1,1,1,0,1,0,0,1,0,0,1,1,1,0,1,0,1,1,0] b4) (.seq (codeAt [1,1,1,1,0,1,0,0,1,0,0,1,1,1,0,1,0,1,1,1,0] b4) (.seq (codeAt [1,1,1,1,0,1,0,0,1,0,0,1,1,1,0,1,0,1,1,1,1,0,0] b4) (.seq (.cond (.tmp 88) (.seq (codeAt [1,1,1,1,0,1,0,0,1,0,0,1,1,1,0,1,0,1,1,1,1,0,1,0,0] b4) .ret) .skip) (.seq (codeAt [1,1,1,1,0,1,0,0,1,0,0,1,1,1,0,1,0,1,1,1,1,1,0] b4) (.seq (codeAt [1,1,1,1,0,1,0,0,1,0,0,1,1,1,0,1,0,1,1,1,1,1,1,0,0] b4) (.seq (.cond (.tmp 139) (.seq (codeAt [1,1,1,1,0,1,0,0,1,0,0,1,1,1,0,1,0,1,1,1,1,1,1,0,1,0,0] b4) .ret) .skip) (.seq (codeAt [1,1,1,1,0,1,0,0,1,0,0,1,1,1,0,1,0,1,1,1,1,1,1,1,0] b4) (.seq (codeAt [1,1,1,1,0,1,0,0,1,0,0,1,1,1,0,1,0,1,1,1,1,1,1,1,1,0] b4) (.exit 1)))))))))))) .skip) (.seq (codeAt [1,1,1,1,0,1,0,0,1,0,0,1,1,1,1,0] b4) c4_0)))))))
noncomputable def c4_2:Code:=(.block 1 c4_1)
noncomputable def c4_3:Code:=(codeAt [1,1,1,1,0,1,0,0,1,1] b4)
noncomputable def c4_4:Code:=(.seq c4_2 c4_3)
noncomputable def c4_5:Code:=(.seq (codeAt [1,1,1,1,0,1,0,0,0,0] b4) (.seq (.cond (.tmp 37) .skip (.exit 0)) c4_4))
noncomputable def c4_6:Code:=(.loop c4_5)
noncomputable def c4_7:Code:=(.block 0 c4_6)
noncomputable def c4_8:Code:=(.seq (codeAt [1,1,1,1,1,1,0,1,0,0,0,0] b4) (.seq (.cond (.tmp 170) .skip (.exit 2)) (.seq (.block 3 (.seq (codeAt [1,1,1,1,1,1,0,1,0,0,1,0,0,0] b4) (.cond (.tmp 178) (codeAt [1,1,1,1,1,1,0,1,0,0,1,0,0,1,0] b4) .skip))) (codeAt [1,1,1,1,1,1,0,1,0,0,1,1] b4))))
noncomputable def c4_9:Code:=(.loop c4_8)
noncomputable def c4_10:Code:=(.block 2 c4_9)
noncomputable def c4_11:Code:=(.seq (codeAt [1,1,1,1,1,1,1,0] b4) .ret)
noncomputable def c4_12:Code:=(.seq c4_10 c4_11)
noncomputable def c4_13:Code:=(.seq (codeAt [1,1,1,1,1,0] b4) (.seq (codeAt [1,1,1,1,1,1,0,0] b4) c4_12))
noncomputable def c4_14:Code:=(.seq c4_7 c4_13)
noncomputable def c4_15:Code:=(.seq (codeAt [0] b4) (.seq (codeAt [1,0,0] b4) (.seq (.cond (.tmp 20) (.seq (codeAt [1,0,1,0,0] b4) .ret) .skip) (.seq (codeAt [1,1,0] b4) (.seq (codeAt [1,1,1,0] b4) (.seq (codeAt [1,1,1,1,0,0] b4) c4_14))))))
noncomputable def g4_p0 (R:Type) (t0:Sl) (t1:Int) (H:Heap) (kN:Sl→Nat→Nat→Bool→Sl→Int→Heap→Option R) (kR:Bool→Heap→Option R):Option R :=
  sel (decide (((t0.len:Nat):Int) > (80:Int))) (
    g9 R H fun x21 h22 =>
    kR x21 h22) (
    g17 R (IntKind.wrap .i64 ((1:Int) + (IntKind.wrap .i64 (Int.tmod t1 (4:Int))))) (9:Int) (9:Int) (9:Int) H fun x23 x24 x25 h26 =>
    alo h26 (.cells [(V.p none),(V.p none)] 40 false) fun i27 h28 =>
    ((h28).sts i27 0 [(V.p x23),(V.p x24)]).bind fun h29 =>
    kN t0 i27 0 x25 (Sl.mk none 0 (.ex 0)) (0:Int) h29)
theorem g4_p0_eq {R:Type} (c2:Code) (t0:Sl) (t1:Int) (H:Heap) (K:Ex→Fr→Heap→Option R):ev2 Try.prog (E4) loopLim lv4 Try.f4.ntmps kp4 (.seq (codeAt [0] b4) (.seq (codeAt [1,0,0] b4) (.seq (.cond (.tmp 20) (.seq (codeAt [1,0,1,0,0] b4) .ret) .skip) (.seq (codeAt [1,1,0] b4) (.seq (codeAt [1,1,1,0] b4) (.seq (codeAt [1,1,1,1,0,0] b4) c2)))))) [(0,(V.sl t0)),(1,(V.i .u8 t1))] H K = g4_p0 R t0 t1 H (fun t0 t5_0 t5_1 t6 t7 t8 H=>ev2 Try.prog (E4) loopLim lv4 Try.f4.ntmps kp4 c2 [(0,(V.sl t0)),(5,(V.p (some (t5_0,t5_1)))),(6,(V.b t6)),(7,(V.sl t7)),(8,(V.i .i64 t8))] H K) (fun t4 H=>K .ret [(4,(V.b t4))] H):=by kernel_rfl
theorem g4_p0_lin {R S:Type} {k:S→Option R} {t0:Sl} {t1:Int} {H:Heap} {fkN:Sl→Nat→Nat→Bool→Sl→Int→Heap→Option R} {gkN:Sl→Nat→Nat→Bool→Sl→Int→Heap→Option S} {fkR:Bool→Heap→Option R} {gkR:Bool→Heap→Option S} (hkN:∀ t0 t5_0 t5_1 t6 t7 t8 H,fkN t0 t5_0 t5_1 t6 t7 t8 H = (gkN t0 t5_0 t5_1 t6 t7 t8 H).bind k) (hkR:∀ t4 H,fkR t4 H = (gkR t4 H).bind k):g4_p0 R t0 t1 H fkN fkR = (g4_p0 S t0 t1 H gkN gkR).bind k:=by
  delta g4_p0; exact (
    sl_lin (
      g9_lin.l fun x21 h22 =>
      hkR _ _) (
      g17_lin.l fun x23 x24 x25 h26 =>
      alo_lin fun i27 h28 =>
      bl fun h29 =>
      hkN _ _ _ _ _ _ _))
noncomputable def g4_p1 (R:Type) (t0:Sl) (t5_0:Nat) (t5_1:Nat) (t6:Bool) (t7:Sl) (t8:Int) (H:Heap) (kN:Sl→Nat→Nat→Bool→Sl→Int→Heap→Option R) (kE0:Nat→Nat→Bool→Sl→Heap→Option R):Option R :=
  sel (decide (t8 < ((t0.len:Nat):Int))) (
    sel t6 (
      kN t0 t5_0 t5_1 t6 t7 t8 H) (
      kE0 t5_0 t5_1 t6 t7 H)) (
    kE0 t5_0 t5_1 t6 t7 H)
theorem g4_p1_eq {R:Type} (c2:Code) (t0:Sl) (t5_0:Nat) (t5_1:Nat) (t6:Bool) (t7:Sl) (t8:Int) (H:Heap) (K:Ex→Fr→Heap→Option R):ev2 Try.prog (E4) loopLim lv4 Try.f4.ntmps kp4 (.seq (codeAt [1,1,1,1,0,1,0,0,0,0] b4) (.seq (.cond (.tmp 37) .skip (.exit 0)) c2)) [(0,(V.sl t0)),(5,(V.p (some (t5_0,t5_1)))),(6,(V.b t6)),(7,(V.sl t7)),(8,(V.i .i64 t8))] H K = g4_p1 R t0 t5_0 t5_1 t6 t7 t8 H (fun t0 t5_0 t5_1 t6 t7 t8 H=>ev2 Try.prog (E4) loopLim lv4 Try.f4.ntmps kp4 c2 [(0,(V.sl t0)),(5,(V.p (some (t5_0,t5_1)))),(6,(V.b t6)),(7,(V.sl t7)),(8,(V.i .i64 t8))] H K) (fun t5_0 t5_1 t6 t7 H=>K (.exit 0) [(5,(V.p (some (t5_0,t5_1)))),(6,(V.b t6)),(7,(V.sl t7))] H):=by kernel_rfl
theorem g4_p1_lin {R S:Type} {k:S→Option R} {t0:Sl} {t5_0:Nat} {t5_1:Nat} {t6:Bool} {t7:Sl} {t8:Int} {H:Heap} {fkN:Sl→Nat→Nat→Bool→Sl→Int→Heap→Option R} {gkN:Sl→Nat→Nat→Bool→Sl→Int→Heap→Option S} {fkE0:Nat→Nat→Bool→Sl→Heap→Option R} {gkE0:Nat→Nat→Bool→Sl→Heap→Option S} (hkN:∀ t0 t5_0 t5_1 t6 t7 t8 H,fkN t0 t5_0 t5_1 t6 t7 t8 H = (gkN t0 t5_0 t5_1 t6 t7 t8 H).bind k) (hkE0:∀ t5_0 t5_1 t6 t7 H,fkE0 t5_0 t5_1 t6 t7 H = (gkE0 t5_0 t5_1 t6 t7 H).bind k):g4_p1 R t0 t5_0 t5_1 t6 t7 t8 H fkN fkE0 = (g4_p1 S t0 t5_0 t5_1 t6 t7 t8 H gkN gkE0).bind k:=by
  delta g4_p1; exact (
    sl_lin (
      sl_lin (
        hkN _ _ _ _ _ _ _) (
        hkE0 _ _ _ _ _)) (
      hkE0 _ _ _ _ _))
noncomputable def g4_p2 (R:Type) (t0:Sl) (t5_0:Nat) (t5_1:Nat) (t6:Bool) (t7:Sl) (t8:Int) (H:Heap) (kN:Sl→Nat→Nat→Bool→Sl→Int→Int→Bool→Int→Int→Int→Sl→Heap→Option R) (kE1:Sl→Nat→Nat→Bool→Sl→Int→Heap→Option R) (kR:Bool→Heap→Option R):Option R :=
  if 0 ≤ t8∧t8 < ((t0.len:Nat):Int) then (
    (t0.a).bind fun q441 =>
    ((H).ldI .u8 q441.1 ((q441.2 + Int.toNat t8 * 4) + 0)).bind fun x442 =>
    ((H).ldI .u8 q441.1 ((q441.2 + Int.toNat t8 * 4) + 1)).bind fun x443 =>
    ((H).ldI .u8 q441.1 ((q441.2 + Int.toNat t8 * 4) + 2)).bind fun x444 =>
    ((H).ldSl q441.1 ((q441.2 + Int.toNat t8 * 4) + 3)).bind fun x445 =>
    sel (decide (((x445.len:Nat):Int) > (200:Int))) (
      g9 R H fun x446 h447 =>
      kR x446 h447) (
      sel ((Int.tmod x442 (6:Int)) == (0:Int)) (
        if 0 ≤ (IntKind.wrap .i64 (Int.tmod x444 (2:Int)))∧(IntKind.wrap .i64 (Int.tmod x444 (2:Int))) < ((2:Nat):Int) then (
          ((H).ldP t5_0 (t5_1 + Int.toNat (IntKind.wrap .i64 (Int.tmod x444 (2:Int))) * 1)).bind fun x448 =>
          g18 R x448 (IntKind.wrap .u16 (IntKind.wrap .i64 ((1:Int) - (IntKind.wrap .i64 (Int.tmod x444 (2:Int)))))) (IntKind.wrap .u8 ((2:Int) + (Int.tmod (IntKind.wrap .u8 (Int.tdiv x444 (2:Int))) (2:Int)))) x445 H fun x449 x450 h451 =>
          alo h451 (.cells [(V.i .i64 (0:Int)),(V.i .u32 (0:Int)),(V.i .u32 (0:Int)),(V.i .u8 (0:Int)),(V.i .i64 (0:Int))] 54 false) fun i452 h453 =>
          ((h453).sts i452 0 [(V.i .i64 (IntKind.wrap .i64 (Int.tmod x444 (2:Int)))),(V.i .u32 (0:Int)),(V.i .u32 (0:Int)),(V.i .u8 (IntKind.wrap .u8 ((2:Int) + (Int.tmod (IntKind.wrap .u8 (Int.tdiv x444 (2:Int))) (2:Int))))),(V.i .i64 (1:Int))]).bind fun h454 =>
          if 0 ≤ (IntKind.wrap .i64 (Int.tmod x444 (2:Int)))∧(IntKind.wrap .i64 (Int.tmod x444 (2:Int))) < ((2:Nat):Int) then (
            ((h454).st i452 ((0 + 1) + Int.toNat (IntKind.wrap .i64 (Int.tmod x444 (2:Int))) * 1) (V.i .u32 x449)).bind fun h456 =>
            sel (x450 != (0:Int)) (
              kR false h456) (
              ((h456).ldP t5_0 (t5_1 + 0)).bind fun x457 =>
              ((h456).ldP t5_0 (t5_1 + 1)).bind fun x458 =>
              g19 R x457 x458 h456 fun x459 h460 =>
              sel (!x459) (
                kR false h460) (
                if 0 ≤ (IntKind.wrap .i64 ((1:Int) - (IntKind.wrap .i64 (Int.tmod x444 (2:Int)))))∧(IntKind.wrap .i64 ((1:Int) - (IntKind.wrap .i64 (Int.tmod x444 (2:Int))))) < ((2:Nat):Int) then (
                  ((h460).ldP t5_0 (t5_1 + Int.toNat (IntKind.wrap .i64 ((1:Int) - (IntKind.wrap .i64 (Int.tmod x444 (2:Int))))) * 1)).bind fun x461 =>
                  g20 R x461 h460 fun x462 h463 =>
                  sel (((x462.len:Nat):Int) != (1:Int)) (
                    kR false h463) (
                    if 0 ≤ (0:Int)∧(0:Int) < ((x462.len:Nat):Int) then (
                      (x462.a).bind fun q464 =>
                      ((h463).ldI .u8 q464.1 ((q464.2 + Int.toNat (0:Int) * 6) + 1)).bind fun x465 =>
                      sel (x465 != (1:Int)) (
                        kR false h463) (
                        if 0 ≤ (0:Int)∧(0:Int) < ((x462.len:Nat):Int) then (
                          (x462.a).bind fun q466 =>
                          ((h463).ldI .u8 q466.1 ((q466.2 + Int.toNat (0:Int) * 6) + 3)).bind fun x467 =>
                          sel (x467 != (IntKind.wrap .u8 ((2:Int) + (Int.tmod (IntKind.wrap .u8 (Int.tdiv x444 (2:Int))) (2:Int))))) (
                            kR false h463) (
                            if 0 ≤ (0:Int)∧(0:Int) < ((x462.len:Nat):Int) then (
                              (x462.a).bind fun q468 =>
                              ((h463).ldSl q468.1 ((q468.2 + Int.toNat (0:Int) * 6) + 5)).bind fun x469 =>
                              ((slBytes h463 x469)).bind fun x470 =>
                              ((slBytes h463 x445)).bind fun x471 =>
                              sel (!strEq x470 x471) (
                                kR false h463) (
                                if 0 ≤ (0:Int)∧(0:Int) < ((x462.len:Nat):Int) then (
                                  (x462.a).bind fun q472 =>
                                  ((h463).ldI .u16 q472.1 ((q472.2 + Int.toNat (0:Int) * 6) + 2)).bind fun x473 =>
                                  sel (x473 != (IntKind.wrap .u16 (IntKind.wrap .i64 (Int.tmod x444 (2:Int))))) (
                                    kR false h463) (
                                    if 0 ≤ (IntKind.wrap .i64 (Int.tmod x444 (2:Int)))∧(IntKind.wrap .i64 (Int.tmod x444 (2:Int))) < ((2:Nat):Int) then (
                                      ((h463).ldP t5_0 (t5_1 + Int.toNat (IntKind.wrap .i64 (Int.tmod x444 (2:Int))) * 1)).bind fun x474 =>
                                      g21 R x474 (0:Int) (0:Int) (0:Int) (0:Int) (0:Int) (Sl.mk none 0 (.ex 0)) h463 fun x475 h476 =>
                                      sel (!x475) (
                                        kR false h476) (
                                        if 0 ≤ (0:Int)∧(0:Int) < ((x462.len:Nat):Int) then (
                                          (x462.a).bind fun q477 =>
                                          ((h476).ldI .u32 q477.1 ((q477.2 + Int.toNat (0:Int) * 6) + 0)).bind fun x478 =>
                                          if 0 ≤ (IntKind.wrap .i64 ((1:Int) - (IntKind.wrap .i64 (Int.tmod x444 (2:Int)))))∧(IntKind.wrap .i64 ((1:Int) - (IntKind.wrap .i64 (Int.tmod x444 (2:Int))))) < ((2:Nat):Int) then (
                                            ((h476).st i452 ((0 + 1) + Int.toNat (IntKind.wrap .i64 ((1:Int) - (IntKind.wrap .i64 (Int.tmod x444 (2:Int))))) * 1) (V.i .u32 x478)).bind fun h480 =>
                                            ((h480).ldI .i64 i452 (0 + 0)).bind fun x481 =>
                                            ((h480).ldI .u32 i452 (0 + 1)).bind fun x482 =>
                                            ((h480).ldI .u32 i452 (0 + 2)).bind fun x483 =>
                                            ((h480).ldI .u8 i452 (0 + 3)).bind fun x484 =>
                                            ((h480).ldI .i64 i452 (0 + 4)).bind fun x485 =>
                                            alo h480 (.cells [(V.i .i64 x481),(V.i .u32 x482),(V.i .u32 x483),(V.i .u8 x484),(V.i .i64 x485)] 54 false) fun i486 h487 =>
                                            ((slCells h487 5 (Sl.mk (some (i486,0)) 1 (.ex 1)))).bind fun vs490 =>
                                            appendV h487 54 5 32 t7 (Sl.mk (some (i486,0)) 1 (.ex 1)).len vs490 fun s488 h489 =>
                                            kE1 t0 t5_0 t5_1 t6 s488 t8 h489)
                                          else (
                                            none))
                                        else (
                                          none)))
                                    else (
                                      none)))
                                else (
                                  none)))
                            else (
                              none)))
                        else (
                          none)))
                    else (
                      none)))
                else (
                  none))))
          else (
            none))
        else (
          none)) (
        kN t0 t5_0 t5_1 t6 t7 t8 (IntKind.wrap .i64 (Int.tmod x444 (2:Int))) (decide (((t7.len:Nat):Int) > (0:Int))) x442 x443 x444 x445 H)))
  else (
    none)
theorem g4_p2_eq {R:Type} (c2:Code) (t0:Sl) (t5_0:Nat) (t5_1:Nat) (t6:Bool) (t7:Sl) (t8:Int) (H:Heap) (K:Ex→Fr→Heap→Option R):ev2 Try.prog (E4) loopLim lv4 Try.f4.ntmps kp4 (.seq (codeAt [1,1,1,1,0,1,0,0,1,0,0,0] b4) (.seq (codeAt [1,1,1,1,0,1,0,0,1,0,0,1,0,0] b4) (.seq (.cond (.tmp 47) (.seq (codeAt [1,1,1,1,0,1,0,0,1,0,0,1,0,1,0,0] b4) .ret) .skip) (.seq (codeAt [1,1,1,1,0,1,0,0,1,0,0,1,1,0] b4) (.seq (codeAt [1,1,1,1,0,1,0,0,1,0,0,1,1,1,0,0] b4) (.seq (.cond (.tmp 56) (.seq (codeAt [1,1,1,1,0,1,0,0,1,0,0,1,1,1,0,1,0,0] b4) (.seq (codeAt [1,1,1,1,0,1,0,0,1,0,0,1,1,1,0,1,0,1,0] b4) (.seq (codeAt [1,1,1,1,0,1,0,0,1,0,0,1,1,1,0,1,0,1,1,0] b4) (.seq (codeAt [1,1,1,1,0,1,0,0,1,0,0,1,1,1,0,1,0,1,1,1,0] b4) (.seq (codeAt [1,1,1,1,0,1,0,0,1,0,0,1,1,1,0,1,0,1,1,1,1,0,0] b4) (.seq (.cond (.tmp 88) (.seq (codeAt [1,1,1,1,0,1,0,0,1,0,0,1,1,1,0,1,0,1,1,1,1,0,1,0,0] b4) .ret) .skip) (.seq (codeAt [1,1,1,1,0,1,0,0,1,0,0,1,1,1,0,1,0,1,1,1,1,1,0] b4) (.seq (codeAt [1,1,1,1,0,1,0,0,1,0,0,1,1,1,0,1,0,1,1,1,1,1,1,0,0] b4) (.seq (.cond (.tmp 139) (.seq (codeAt [1,1,1,1,0,1,0,0,1,0,0,1,1,1,0,1,0,1,1,1,1,1,1,0,1,0,0] b4) .ret) .skip) (.seq (codeAt [1,1,1,1,0,1,0,0,1,0,0,1,1,1,0,1,0,1,1,1,1,1,1,1,0] b4) (.seq (codeAt [1,1,1,1,0,1,0,0,1,0,0,1,1,1,0,1,0,1,1,1,1,1,1,1,1,0] b4) (.exit 1)))))))))))) .skip) (.seq (codeAt [1,1,1,1,0,1,0,0,1,0,0,1,1,1,1,0] b4) c2))))))) [(0,(V.sl t0)),(5,(V.p (some (t5_0,t5_1)))),(6,(V.b t6)),(7,(V.sl t7)),(8,(V.i .i64 t8))] H K = g4_p2 R t0 t5_0 t5_1 t6 t7 t8 H (fun t0 t5_0 t5_1 t6 t7 t8 t10 t154 t500009_0 t500009_1 t500009_2 t500009_3 H=>ev2 Try.prog (E4) loopLim lv4 Try.f4.ntmps kp4 c2 [(0,(V.sl t0)),(5,(V.p (some (t5_0,t5_1)))),(6,(V.b t6)),(7,(V.sl t7)),(8,(V.i .i64 t8)),(10,(V.i .i64 t10)),(154,(V.b t154)),(500009,(V.agg [(V.i .u8 t500009_0),(V.i .u8 t500009_1),(V.i .u8 t500009_2),(V.sl t500009_3)])),(1000009,(V.p (some (9,0))))] H K) (fun t0 t5_0 t5_1 t6 t7 t8 H=>K (.exit 1) [(0,(V.sl t0)),(5,(V.p (some (t5_0,t5_1)))),(6,(V.b t6)),(7,(V.sl t7)),(8,(V.i .i64 t8))] H) (fun t4 H=>K .ret [(4,(V.b t4))] H):=by kernel_rfl
theorem g4_p2_lin {R S:Type} {k:S→Option R} {t0:Sl} {t5_0:Nat} {t5_1:Nat} {t6:Bool} {t7:Sl} {t8:Int} {H:Heap} {fkN:Sl→Nat→Nat→Bool→Sl→Int→Int→Bool→Int→Int→Int→Sl→Heap→Option R} {gkN:Sl→Nat→Nat→Bool→Sl→Int→Int→Bool→Int→Int→Int→Sl→Heap→Option S} {fkE1:Sl→Nat→Nat→Bool→Sl→Int→Heap→Option R} {gkE1:Sl→Nat→Nat→Bool→Sl→Int→Heap→Option S} {fkR:Bool→Heap→Option R} {gkR:Bool→Heap→Option S} (hkN:∀ t0 t5_0 t5_1 t6 t7 t8 t10 t154 t500009_0 t500009_1 t500009_2 t500009_3 H,fkN t0 t5_0 t5_1 t6 t7 t8 t10 t154 t500009_0 t500009_1 t500009_2 t500009_3 H = (gkN t0 t5_0 t5_1 t6 t7 t8 t10 t154 t500009_0 t500009_1 t500009_2 t500009_3 H).bind k) (hkE1:∀ t0 t5_0 t5_1 t6 t7 t8 H,fkE1 t0 t5_0 t5_1 t6 t7 t8 H = (gkE1 t0 t5_0 t5_1 t6 t7 t8 H).bind k) (hkR:∀ t4 H,fkR t4 H = (gkR t4 H).bind k):g4_p2 R t0 t5_0 t5_1 t6 t7 t8 H fkN fkE1 fkR = (g4_p2 S t0 t5_0 t5_1 t6 t7 t8 H gkN gkE1 gkR).bind k:=by
  delta g4_p2
  repeat' (first | with_reducible (first | exact hkR _ _ | exact hkE1 _ _ _ _ _ _ _ | exact hkN _ _ _ _ _ _ _ _ _ _ _ _ _ | refine il ?_ ?_ | refine sl_lin ?_ ?_ | refine g9_lin.l fun _ _=>?_ | refine g18_lin.l fun _ _ _=>?_ | refine alo_lin fun _ _=>?_ | refine g19_lin.l fun _ _=>?_ | refine g20_lin.l fun _ _=>?_ | refine g21_lin.l fun _ _=>?_ | refine appendV_lin fun _ _=>?_ | refine bl fun _=>?_) | exact (rfl:(none:Option R) = (none:Option S).bind k))
noncomputable def g4_p3 (R:Type) (t0:Sl) (t5_0:Nat) (t5_1:Nat) (t6:Bool) (t7:Sl) (t8:Int) (t10:Int) (t154:Bool) (t500009_0:Int) (t500009_1:Int) (t500009_2:Int) (t500009_3:Sl) (H:Heap) (kN:Sl→Nat→Nat→Bool→Sl→Int→Heap→Option R):Option R :=
  sel t154 (
    ((H).ldP t5_0 (t5_1 + 0)).bind fun x491 =>
    ((H).ldP t5_0 (t5_1 + 1)).bind fun x492 =>
    if ((t7.len:Nat):Int) = 0 then (
      none)
    else (
      if 0 ≤ (Int.tmod (IntKind.wrap .i64 t500009_1) ((t7.len:Nat):Int))∧(Int.tmod (IntKind.wrap .i64 t500009_1) ((t7.len:Nat):Int)) < ((t7.len:Nat):Int) then (
        (t7.a).bind fun q493 =>
        g22 R x491 x492 (some (q493.1,(q493.2 + Int.toNat (Int.tmod (IntKind.wrap .i64 t500009_1) ((t7.len:Nat):Int)) * 5))) t10 t500009_0 t500009_1 t500009_2 t500009_3 H fun x494 h495 =>
        kN t0 t5_0 t5_1 x494 t7 t8 h495)
      else (
        none))) (
    kN t0 t5_0 t5_1 t6 t7 t8 H)
theorem g4_p3_eq {R:Type} (t0:Sl) (t5_0:Nat) (t5_1:Nat) (t6:Bool) (t7:Sl) (t8:Int) (t10:Int) (t154:Bool) (t500009_0:Int) (t500009_1:Int) (t500009_2:Int) (t500009_3:Sl) (H:Heap) (K:Ex→Fr→Heap→Option R):ev2 Try.prog (E4) loopLim lv4 Try.f4.ntmps kp4 c4_0 [(0,(V.sl t0)),(5,(V.p (some (t5_0,t5_1)))),(6,(V.b t6)),(7,(V.sl t7)),(8,(V.i .i64 t8)),(10,(V.i .i64 t10)),(154,(V.b t154)),(500009,(V.agg [(V.i .u8 t500009_0),(V.i .u8 t500009_1),(V.i .u8 t500009_2),(V.sl t500009_3)])),(1000009,(V.p (some (9,0))))] H K = g4_p3 R t0 t5_0 t5_1 t6 t7 t8 t10 t154 t500009_0 t500009_1 t500009_2 t500009_3 H (fun t0 t5_0 t5_1 t6 t7 t8 H=>K .normal [(0,(V.sl t0)),(5,(V.p (some (t5_0,t5_1)))),(6,(V.b t6)),(7,(V.sl t7)),(8,(V.i .i64 t8))] H):=by kernel_rfl
theorem g4_p3_lin {R S:Type} {k:S→Option R} {t0:Sl} {t5_0:Nat} {t5_1:Nat} {t6:Bool} {t7:Sl} {t8:Int} {t10:Int} {t154:Bool} {t500009_0:Int} {t500009_1:Int} {t500009_2:Int} {t500009_3:Sl} {H:Heap} {fkN:Sl→Nat→Nat→Bool→Sl→Int→Heap→Option R} {gkN:Sl→Nat→Nat→Bool→Sl→Int→Heap→Option S} (hkN:∀ t0 t5_0 t5_1 t6 t7 t8 H,fkN t0 t5_0 t5_1 t6 t7 t8 H = (gkN t0 t5_0 t5_1 t6 t7 t8 H).bind k):g4_p3 R t0 t5_0 t5_1 t6 t7 t8 t10 t154 t500009_0 t500009_1 t500009_2 t500009_3 H fkN = (g4_p3 S t0 t5_0 t5_1 t6 t7 t8 t10 t154 t500009_0 t500009_1 t500009_2 t500009_3 H gkN).bind k:=by
  delta g4_p3; exact (
    sl_lin (
      bl fun x491 =>
      bl fun x492 =>
      il (
        rfl) (
        il (
          bl fun q493 =>
          g22_lin.l fun x494 h495 =>
          hkN _ _ _ _ _ _ _) (
          rfl))) (
      hkN _ _ _ _ _ _ _))
noncomputable def g4_p4 (R:Type) (t0:Sl) (t5_0:Nat) (t5_1:Nat) (t6:Bool) (t7:Sl) (t8:Int) (H:Heap) (kN:Sl→Nat→Nat→Bool→Sl→Int→Heap→Option R) (kE1:Sl→Nat→Nat→Bool→Sl→Int→Heap→Option R) (kR:Bool→Heap→Option R):Option R :=
  g4_p2 R t0 t5_0 t5_1 t6 t7 t8 H (fun t0 t5_0 t5_1 t6 t7 t8 t10 t154 t500009_0 t500009_1 t500009_2 t500009_3 H=>g4_p3 R t0 t5_0 t5_1 t6 t7 t8 t10 t154 t500009_0 t500009_1 t500009_2 t500009_3 H (fun t0 t5_0 t5_1 t6 t7 t8 H=>kN t0 t5_0 t5_1 t6 t7 t8 H)) (fun t0 t5_0 t5_1 t6 t7 t8 H=>kE1 t0 t5_0 t5_1 t6 t7 t8 H) (fun t4 H=>kR t4 H)
theorem g4_p4_lin {R S:Type} {k:S→Option R} {t0:Sl} {t5_0:Nat} {t5_1:Nat} {t6:Bool} {t7:Sl} {t8:Int} {H:Heap} {fkN:Sl→Nat→Nat→Bool→Sl→Int→Heap→Option R} {gkN:Sl→Nat→Nat→Bool→Sl→Int→Heap→Option S} {fkE1:Sl→Nat→Nat→Bool→Sl→Int→Heap→Option R} {gkE1:Sl→Nat→Nat→Bool→Sl→Int→Heap→Option S} {fkR:Bool→Heap→Option R} {gkR:Bool→Heap→Option S} (hkN:∀ t0 t5_0 t5_1 t6 t7 t8 H,fkN t0 t5_0 t5_1 t6 t7 t8 H = (gkN t0 t5_0 t5_1 t6 t7 t8 H).bind k) (hkE1:∀ t0 t5_0 t5_1 t6 t7 t8 H,fkE1 t0 t5_0 t5_1 t6 t7 t8 H = (gkE1 t0 t5_0 t5_1 t6 t7 t8 H).bind k) (hkR:∀ t4 H,fkR t4 H = (gkR t4 H).bind k):g4_p4 R t0 t5_0 t5_1 t6 t7 t8 H fkN fkE1 fkR = (g4_p4 S t0 t5_0 t5_1 t6 t7 t8 H gkN gkE1 gkR).bind k:=by
  exact g4_p2_lin (fun _ _ _ _ _ _ _ _ _ _ _ _ _=>g4_p3_lin (fun _ _ _ _ _ _ _=>hkN _ _ _ _ _ _ _)) (fun _ _ _ _ _ _ _=>hkE1 _ _ _ _ _ _ _) (fun _ _=>hkR _ _)
theorem g4_p4_eq {R:Type} (t0:Sl) (t5_0:Nat) (t5_1:Nat) (t6:Bool) (t7:Sl) (t8:Int) (H:Heap) (K:Ex→Fr→Heap→Option R):ev2 Try.prog (E4) loopLim lv4 Try.f4.ntmps kp4 c4_1 [(0,(V.sl t0)),(5,(V.p (some (t5_0,t5_1)))),(6,(V.b t6)),(7,(V.sl t7)),(8,(V.i .i64 t8))] H K = g4_p4 R t0 t5_0 t5_1 t6 t7 t8 H (fun t0 t5_0 t5_1 t6 t7 t8 H=>K .normal [(0,(V.sl t0)),(5,(V.p (some (t5_0,t5_1)))),(6,(V.b t6)),(7,(V.sl t7)),(8,(V.i .i64 t8))] H) (fun t0 t5_0 t5_1 t6 t7 t8 H=>K (.exit 1) [(0,(V.sl t0)),(5,(V.p (some (t5_0,t5_1)))),(6,(V.b t6)),(7,(V.sl t7)),(8,(V.i .i64 t8))] H) (fun t4 H=>K .ret [(4,(V.b t4))] H):=by
  delta c4_1
  delta g4_p4
  exact (g4_p2_eq _ t0 t5_0 t5_1 t6 t7 t8 H K).trans (congr (congr (congrArg (g4_p2 R t0 t5_0 t5_1 t6 t7 t8 H) (funext fun t0=>funext fun t5_0=>funext fun t5_1=>funext fun t6=>funext fun t7=>funext fun t8=>funext fun t10=>funext fun t154=>funext fun t500009_0=>funext fun t500009_1=>funext fun t500009_2=>funext fun t500009_3=>funext fun H=>g4_p3_eq t0 t5_0 t5_1 t6 t7 t8 t10 t154 t500009_0 t500009_1 t500009_2 t500009_3 H K)) rfl) rfl)
noncomputable def g4_p5 (R:Type) (t0:Sl) (t5_0:Nat) (t5_1:Nat) (t6:Bool) (t7:Sl) (t8:Int) (H:Heap) (kN:Sl→Nat→Nat→Bool→Sl→Int→Heap→Option R) (kR:Bool→Heap→Option R):Option R :=
  g4_p4 R t0 t5_0 t5_1 t6 t7 t8 H (fun t0 t5_0 t5_1 t6 t7 t8 H=>kN t0 t5_0 t5_1 t6 t7 t8 H) (fun t0 t5_0 t5_1 t6 t7 t8 H=>kN t0 t5_0 t5_1 t6 t7 t8 H) (fun t4 H=>kR t4 H)
theorem g4_p5_lin {R S:Type} {k:S→Option R} {t0:Sl} {t5_0:Nat} {t5_1:Nat} {t6:Bool} {t7:Sl} {t8:Int} {H:Heap} {fkN:Sl→Nat→Nat→Bool→Sl→Int→Heap→Option R} {gkN:Sl→Nat→Nat→Bool→Sl→Int→Heap→Option S} {fkR:Bool→Heap→Option R} {gkR:Bool→Heap→Option S} (hkN:∀ t0 t5_0 t5_1 t6 t7 t8 H,fkN t0 t5_0 t5_1 t6 t7 t8 H = (gkN t0 t5_0 t5_1 t6 t7 t8 H).bind k) (hkR:∀ t4 H,fkR t4 H = (gkR t4 H).bind k):g4_p5 R t0 t5_0 t5_1 t6 t7 t8 H fkN fkR = (g4_p5 S t0 t5_0 t5_1 t6 t7 t8 H gkN gkR).bind k:=by
  exact g4_p4_lin (fun _ _ _ _ _ _ _=>hkN _ _ _ _ _ _ _) (fun _ _ _ _ _ _ _=>hkN _ _ _ _ _ _ _) (fun _ _=>hkR _ _)
theorem g4_p5_eq {R:Type} (t0:Sl) (t5_0:Nat) (t5_1:Nat) (t6:Bool) (t7:Sl) (t8:Int) (H:Heap) (K:Ex→Fr→Heap→Option R):ev2 Try.prog (E4) loopLim lv4 Try.f4.ntmps kp4 c4_2 [(0,(V.sl t0)),(5,(V.p (some (t5_0,t5_1)))),(6,(V.b t6)),(7,(V.sl t7)),(8,(V.i .i64 t8))] H K = g4_p5 R t0 t5_0 t5_1 t6 t7 t8 H (fun t0 t5_0 t5_1 t6 t7 t8 H=>K .normal [(0,(V.sl t0)),(5,(V.p (some (t5_0,t5_1)))),(6,(V.b t6)),(7,(V.sl t7)),(8,(V.i .i64 t8))] H) (fun t4 H=>K .ret [(4,(V.b t4))] H):=by
  delta c4_2
  rw [ev2_block]
  delta g4_p5
  exact (g4_p4_eq t0 t5_0 t5_1 t6 t7 t8 H (kBlock kp4 1 K))
noncomputable def g4_p6 (R:Type) (t0:Sl) (t5_0:Nat) (t5_1:Nat) (t6:Bool) (t7:Sl) (t8:Int) (H:Heap) (kN:Sl→Nat→Nat→Bool→Sl→Int→Heap→Option R):Option R :=
  kN t0 t5_0 t5_1 t6 t7 (IntKind.wrap .i64 (t8 + (1:Int))) H
theorem g4_p6_eq {R:Type} (t0:Sl) (t5_0:Nat) (t5_1:Nat) (t6:Bool) (t7:Sl) (t8:Int) (H:Heap) (K:Ex→Fr→Heap→Option R):ev2 Try.prog (E4) loopLim lv4 Try.f4.ntmps kp4 c4_3 [(0,(V.sl t0)),(5,(V.p (some (t5_0,t5_1)))),(6,(V.b t6)),(7,(V.sl t7)),(8,(V.i .i64 t8))] H K = g4_p6 R t0 t5_0 t5_1 t6 t7 t8 H (fun t0 t5_0 t5_1 t6 t7 t8 H=>K .normal [(0,(V.sl t0)),(5,(V.p (some (t5_0,t5_1)))),(6,(V.b t6)),(7,(V.sl t7)),(8,(V.i .i64 t8))] H):=by kernel_rfl
theorem g4_p6_lin {R S:Type} {k:S→Option R} {t0:Sl} {t5_0:Nat} {t5_1:Nat} {t6:Bool} {t7:Sl} {t8:Int} {H:Heap} {fkN:Sl→Nat→Nat→Bool→Sl→Int→Heap→Option R} {gkN:Sl→Nat→Nat→Bool→Sl→Int→Heap→Option S} (hkN:∀ t0 t5_0 t5_1 t6 t7 t8 H,fkN t0 t5_0 t5_1 t6 t7 t8 H = (gkN t0 t5_0 t5_1 t6 t7 t8 H).bind k):g4_p6 R t0 t5_0 t5_1 t6 t7 t8 H fkN = (g4_p6 S t0 t5_0 t5_1 t6 t7 t8 H gkN).bind k:=by
  delta g4_p6; exact (
    hkN _ _ _ _ _ _ _)
noncomputable def g4_p7 (R:Type) (t0:Sl) (t5_0:Nat) (t5_1:Nat) (t6:Bool) (t7:Sl) (t8:Int) (H:Heap) (kN:Sl→Nat→Nat→Bool→Sl→Int→Heap→Option R) (kR:Bool→Heap→Option R):Option R :=
  g4_p5 R t0 t5_0 t5_1 t6 t7 t8 H (fun t0 t5_0 t5_1 t6 t7 t8 H=>g4_p6 R t0 t5_0 t5_1 t6 t7 t8 H (fun t0 t5_0 t5_1 t6 t7 t8 H=>kN t0 t5_0 t5_1 t6 t7 t8 H)) (fun t4 H=>kR t4 H)
theorem g4_p7_lin {R S:Type} {k:S→Option R} {t0:Sl} {t5_0:Nat} {t5_1:Nat} {t6:Bool} {t7:Sl} {t8:Int} {H:Heap} {fkN:Sl→Nat→Nat→Bool→Sl→Int→Heap→Option R} {gkN:Sl→Nat→Nat→Bool→Sl→Int→Heap→Option S} {fkR:Bool→Heap→Option R} {gkR:Bool→Heap→Option S} (hkN:∀ t0 t5_0 t5_1 t6 t7 t8 H,fkN t0 t5_0 t5_1 t6 t7 t8 H = (gkN t0 t5_0 t5_1 t6 t7 t8 H).bind k) (hkR:∀ t4 H,fkR t4 H = (gkR t4 H).bind k):g4_p7 R t0 t5_0 t5_1 t6 t7 t8 H fkN fkR = (g4_p7 S t0 t5_0 t5_1 t6 t7 t8 H gkN gkR).bind k:=by
  exact g4_p5_lin (fun _ _ _ _ _ _ _=>g4_p6_lin (fun _ _ _ _ _ _ _=>hkN _ _ _ _ _ _ _)) (fun _ _=>hkR _ _)
theorem g4_p7_eq {R:Type} (t0:Sl) (t5_0:Nat) (t5_1:Nat) (t6:Bool) (t7:Sl) (t8:Int) (H:Heap) (K:Ex→Fr→Heap→Option R):ev2 Try.prog (E4) loopLim lv4 Try.f4.ntmps kp4 c4_4 [(0,(V.sl t0)),(5,(V.p (some (t5_0,t5_1)))),(6,(V.b t6)),(7,(V.sl t7)),(8,(V.i .i64 t8))] H K = g4_p7 R t0 t5_0 t5_1 t6 t7 t8 H (fun t0 t5_0 t5_1 t6 t7 t8 H=>K .normal [(0,(V.sl t0)),(5,(V.p (some (t5_0,t5_1)))),(6,(V.b t6)),(7,(V.sl t7)),(8,(V.i .i64 t8))] H) (fun t4 H=>K .ret [(4,(V.b t4))] H):=by
  delta c4_4
  rw [ev2_seq]
  delta g4_p7
  exact (g4_p5_eq t0 t5_0 t5_1 t6 t7 t8 H (kSeq (fun fr H=>ev2 Try.prog (E4) loopLim lv4 Try.f4.ntmps kp4 c4_3 fr H K) K)).trans (congr (congrArg (g4_p5 R t0 t5_0 t5_1 t6 t7 t8 H) (funext fun t0=>funext fun t5_0=>funext fun t5_1=>funext fun t6=>funext fun t7=>funext fun t8=>funext fun H=>(kSeq_n _ _ _ _).trans (g4_p6_eq t0 t5_0 t5_1 t6 t7 t8 H K))) rfl)
noncomputable def g4_p8 (R:Type) (t0:Sl) (t5_0:Nat) (t5_1:Nat) (t6:Bool) (t7:Sl) (t8:Int) (H:Heap) (kN:Sl→Nat→Nat→Bool→Sl→Int→Heap→Option R) (kE0:Nat→Nat→Bool→Sl→Heap→Option R) (kR:Bool→Heap→Option R):Option R :=
  g4_p1 R t0 t5_0 t5_1 t6 t7 t8 H (fun t0 t5_0 t5_1 t6 t7 t8 H=>g4_p7 R t0 t5_0 t5_1 t6 t7 t8 H (fun t0 t5_0 t5_1 t6 t7 t8 H=>kN t0 t5_0 t5_1 t6 t7 t8 H) (fun t4 H=>kR t4 H)) (fun t5_0 t5_1 t6 t7 H=>kE0 t5_0 t5_1 t6 t7 H)
theorem g4_p8_lin {R S:Type} {k:S→Option R} {t0:Sl} {t5_0:Nat} {t5_1:Nat} {t6:Bool} {t7:Sl} {t8:Int} {H:Heap} {fkN:Sl→Nat→Nat→Bool→Sl→Int→Heap→Option R} {gkN:Sl→Nat→Nat→Bool→Sl→Int→Heap→Option S} {fkE0:Nat→Nat→Bool→Sl→Heap→Option R} {gkE0:Nat→Nat→Bool→Sl→Heap→Option S} {fkR:Bool→Heap→Option R} {gkR:Bool→Heap→Option S} (hkN:∀ t0 t5_0 t5_1 t6 t7 t8 H,fkN t0 t5_0 t5_1 t6 t7 t8 H = (gkN t0 t5_0 t5_1 t6 t7 t8 H).bind k) (hkE0:∀ t5_0 t5_1 t6 t7 H,fkE0 t5_0 t5_1 t6 t7 H = (gkE0 t5_0 t5_1 t6 t7 H).bind k) (hkR:∀ t4 H,fkR t4 H = (gkR t4 H).bind k):g4_p8 R t0 t5_0 t5_1 t6 t7 t8 H fkN fkE0 fkR = (g4_p8 S t0 t5_0 t5_1 t6 t7 t8 H gkN gkE0 gkR).bind k:=by
  exact g4_p1_lin (fun _ _ _ _ _ _ _=>g4_p7_lin (fun _ _ _ _ _ _ _=>hkN _ _ _ _ _ _ _) (fun _ _=>hkR _ _)) (fun _ _ _ _ _=>hkE0 _ _ _ _ _)
theorem g4_p8_eq {R:Type} (t0:Sl) (t5_0:Nat) (t5_1:Nat) (t6:Bool) (t7:Sl) (t8:Int) (H:Heap) (K:Ex→Fr→Heap→Option R):ev2 Try.prog (E4) loopLim lv4 Try.f4.ntmps kp4 c4_5 [(0,(V.sl t0)),(5,(V.p (some (t5_0,t5_1)))),(6,(V.b t6)),(7,(V.sl t7)),(8,(V.i .i64 t8))] H K = g4_p8 R t0 t5_0 t5_1 t6 t7 t8 H (fun t0 t5_0 t5_1 t6 t7 t8 H=>K .normal [(0,(V.sl t0)),(5,(V.p (some (t5_0,t5_1)))),(6,(V.b t6)),(7,(V.sl t7)),(8,(V.i .i64 t8))] H) (fun t5_0 t5_1 t6 t7 H=>K (.exit 0) [(5,(V.p (some (t5_0,t5_1)))),(6,(V.b t6)),(7,(V.sl t7))] H) (fun t4 H=>K .ret [(4,(V.b t4))] H):=by
  delta c4_5
  delta g4_p8
  exact (g4_p1_eq _ t0 t5_0 t5_1 t6 t7 t8 H K).trans (congr (congrArg (g4_p1 R t0 t5_0 t5_1 t6 t7 t8 H) (funext fun t0=>funext fun t5_0=>funext fun t5_1=>funext fun t6=>funext fun t7=>funext fun t8=>funext fun H=>g4_p7_eq t0 t5_0 t5_1 t6 t7 t8 H K)) rfl)
abbrev g4_p9_S:=Sl × Nat × Nat × Bool × Sl × Int
abbrev g4_p9_O:=Sum (Nat × Nat × Bool × Sl) (Bool)
def g4_p9_es (s:g4_p9_S):Fr:=[(0,(V.sl s.1)),(5,(V.p (some (s.2.1,s.2.2.1)))),(6,(V.b s.2.2.2.1)),(7,(V.sl s.2.2.2.2.1)),(8,(V.i .i64 s.2.2.2.2.2))]
def g4_p9_er:g4_p9_O→Ex × Fr
  | (.inl r)=>((.exit 0),[(5,(V.p (some (r.1,r.2.1)))),(6,(V.b r.2.2.1)),(7,(V.sl r.2.2.2))])
  | (.inr r)=>(.ret,[(4,(V.b r))])
noncomputable def g4_p9_b (s:g4_p9_S) (H:Heap):Option (Rd g4_p9_S g4_p9_O × Heap) :=
  g4_p8 _ s.1 s.2.1 s.2.2.1 s.2.2.2.1 s.2.2.2.2.1 s.2.2.2.2.2 H (fun t0 t5_0 t5_1 t6 t7 t8 H=>some (.go (t0,t5_0,t5_1,t6,t7,t8),H)) (fun t5_0 t5_1 t6 t7 H=>some (.up (.inl (t5_0,t5_1,t6,t7)),H)) (fun t4 H=>some (.up (.inr t4),H))
noncomputable def g4_p9 (R:Type) (t0:Sl) (t5_0:Nat) (t5_1:Nat) (t6:Bool) (t7:Sl) (t8:Int) (H:Heap) (kE0:Nat→Nat→Bool→Sl→Heap→Option R) (kR:Bool→Heap→Option R):Option R :=
  (tlim (g4_p9_b) (t0,t5_0,t5_1,t6,t7,t8) H).bind fun p=>cas p.1 (fun r=>kE0 r.1 r.2.1 r.2.2.1 r.2.2.2 p.2) (fun r0=>kR r0 p.2)
theorem g4_p9_lin {R S:Type} {k:S→Option R} {t0:Sl} {t5_0:Nat} {t5_1:Nat} {t6:Bool} {t7:Sl} {t8:Int} {H:Heap} {fkE0:Nat→Nat→Bool→Sl→Heap→Option R} {gkE0:Nat→Nat→Bool→Sl→Heap→Option S} {fkR:Bool→Heap→Option R} {gkR:Bool→Heap→Option S} (hkE0:∀ t5_0 t5_1 t6 t7 H,fkE0 t5_0 t5_1 t6 t7 H = (gkE0 t5_0 t5_1 t6 t7 H).bind k) (hkR:∀ t4 H,fkR t4 H = (gkR t4 H).bind k):g4_p9 R t0 t5_0 t5_1 t6 t7 t8 H fkE0 fkR = (g4_p9 S t0 t5_0 t5_1 t6 t7 t8 H gkE0 gkR).bind k:=by
  exact bl fun p=>cas_lin (fun _=>hkE0 _ _ _ _ _) (fun _=>hkR _ _)
theorem g4_p9_eq {R:Type} (t0:Sl) (t5_0:Nat) (t5_1:Nat) (t6:Bool) (t7:Sl) (t8:Int) (H:Heap) (K:Ex→Fr→Heap→Option R):ev2 Try.prog (E4) loopLim lv4 Try.f4.ntmps kp4 c4_6 [(0,(V.sl t0)),(5,(V.p (some (t5_0,t5_1)))),(6,(V.b t6)),(7,(V.sl t7)),(8,(V.i .i64 t8))] H K = g4_p9 R t0 t5_0 t5_1 t6 t7 t8 H (fun t5_0 t5_1 t6 t7 H=>K (.exit 0) [(5,(V.p (some (t5_0,t5_1)))),(6,(V.b t6)),(7,(V.sl t7))] H) (fun t4 H=>K .ret [(4,(V.b t4))] H):=by
  delta c4_6
  delta g4_p9
  refine (ev2_tlim (b:=g4_p9_b) (es:=g4_p9_es) (er:=g4_p9_er) (by rintro (r | r) <;> exact nofun) (fun s H=>?_) (t0,t5_0,t5_1,t6,t7,t8) H K).trans (bc fun p=>by rcases p with ⟨(r | r),H⟩ <;> rfl)
  exact (g4_p8_eq s.1 s.2.1 s.2.2.1 s.2.2.2.1 s.2.2.2.2.1 s.2.2.2.2.2 H ret3).trans (g4_p8_lin (fun _ _ _ _ _ _ _=>rfl) (fun _ _ _ _ _=>rfl) (fun _ _=>rfl))
noncomputable def g4_p10 (R:Type) (t0:Sl) (t5_0:Nat) (t5_1:Nat) (t6:Bool) (t7:Sl) (t8:Int) (H:Heap) (kN:Nat→Nat→Bool→Sl→Heap→Option R) (kR:Bool→Heap→Option R):Option R :=
  g4_p9 R t0 t5_0 t5_1 t6 t7 t8 H (fun t5_0 t5_1 t6 t7 H=>kN t5_0 t5_1 t6 t7 H) (fun t4 H=>kR t4 H)
theorem g4_p10_lin {R S:Type} {k:S→Option R} {t0:Sl} {t5_0:Nat} {t5_1:Nat} {t6:Bool} {t7:Sl} {t8:Int} {H:Heap} {fkN:Nat→Nat→Bool→Sl→Heap→Option R} {gkN:Nat→Nat→Bool→Sl→Heap→Option S} {fkR:Bool→Heap→Option R} {gkR:Bool→Heap→Option S} (hkN:∀ t5_0 t5_1 t6 t7 H,fkN t5_0 t5_1 t6 t7 H = (gkN t5_0 t5_1 t6 t7 H).bind k) (hkR:∀ t4 H,fkR t4 H = (gkR t4 H).bind k):g4_p10 R t0 t5_0 t5_1 t6 t7 t8 H fkN fkR = (g4_p10 S t0 t5_0 t5_1 t6 t7 t8 H gkN gkR).bind k:=by
  exact g4_p9_lin (fun _ _ _ _ _=>hkN _ _ _ _ _) (fun _ _=>hkR _ _)
theorem g4_p10_eq {R:Type} (t0:Sl) (t5_0:Nat) (t5_1:Nat) (t6:Bool) (t7:Sl) (t8:Int) (H:Heap) (K:Ex→Fr→Heap→Option R):ev2 Try.prog (E4) loopLim lv4 Try.f4.ntmps kp4 c4_7 [(0,(V.sl t0)),(5,(V.p (some (t5_0,t5_1)))),(6,(V.b t6)),(7,(V.sl t7)),(8,(V.i .i64 t8))] H K = g4_p10 R t0 t5_0 t5_1 t6 t7 t8 H (fun t5_0 t5_1 t6 t7 H=>K .normal [(5,(V.p (some (t5_0,t5_1)))),(6,(V.b t6)),(7,(V.sl t7))] H) (fun t4 H=>K .ret [(4,(V.b t4))] H):=by
  delta c4_7
  rw [ev2_block]
  delta g4_p10
  exact (g4_p9_eq t0 t5_0 t5_1 t6 t7 t8 H (kBlock kp4 0 K))
noncomputable def g4_p11 (R:Type) (t5_0:Nat) (t5_1:Nat) (t6:Bool) (t7:Sl) (H:Heap) (kN:Nat→Nat→Bool→Sl→Int→Int→Heap→Option R):Option R :=
  kN t5_0 t5_1 t6 t7 (0:Int) (0:Int) H
theorem g4_p11_eq {R:Type} (c2:Code) (t5_0:Nat) (t5_1:Nat) (t6:Bool) (t7:Sl) (H:Heap) (K:Ex→Fr→Heap→Option R):ev2 Try.prog (E4) loopLim lv4 Try.f4.ntmps kp4 (.seq (codeAt [1,1,1,1,1,0] b4) (.seq (codeAt [1,1,1,1,1,1,0,0] b4) c2)) [(5,(V.p (some (t5_0,t5_1)))),(6,(V.b t6)),(7,(V.sl t7))] H K = g4_p11 R t5_0 t5_1 t6 t7 H (fun t5_0 t5_1 t6 t7 t16 t17 H=>ev2 Try.prog (E4) loopLim lv4 Try.f4.ntmps kp4 c2 [(5,(V.p (some (t5_0,t5_1)))),(6,(V.b t6)),(7,(V.sl t7)),(16,(V.i .i64 t16)),(17,(V.i .i64 t17))] H K):=by kernel_rfl
theorem g4_p11_lin {R S:Type} {k:S→Option R} {t5_0:Nat} {t5_1:Nat} {t6:Bool} {t7:Sl} {H:Heap} {fkN:Nat→Nat→Bool→Sl→Int→Int→Heap→Option R} {gkN:Nat→Nat→Bool→Sl→Int→Int→Heap→Option S} (hkN:∀ t5_0 t5_1 t6 t7 t16 t17 H,fkN t5_0 t5_1 t6 t7 t16 t17 H = (gkN t5_0 t5_1 t6 t7 t16 t17 H).bind k):g4_p11 R t5_0 t5_1 t6 t7 H fkN = (g4_p11 S t5_0 t5_1 t6 t7 H gkN).bind k:=by
  delta g4_p11; exact (
    hkN _ _ _ _ _ _ _)
noncomputable def g4_p12 (R:Type) (t5_0:Nat) (t5_1:Nat) (t6:Bool) (t7:Sl) (t16:Int) (t17:Int) (H:Heap) (kN:Nat→Nat→Bool→Sl→Int→Int→Heap→Option R) (kE2:Nat→Nat→Bool→Int→Heap→Option R):Option R :=
  sel (decide (t17 < ((t7.len:Nat):Int))) (
    if 0 ≤ t17∧t17 < ((t7.len:Nat):Int) then (
      (t7.a).bind fun q496 =>
      ((H).ldI .i64 q496.1 ((q496.2 + Int.toNat t17 * 5) + 4)).bind fun x497 =>
      sel (decide (x497 < (3:Int))) (
        kN t5_0 t5_1 t6 t7 (IntKind.wrap .i64 (t16 + (1:Int))) (IntKind.wrap .i64 (t17 + (1:Int))) H) (
        kN t5_0 t5_1 t6 t7 t16 (IntKind.wrap .i64 (t17 + (1:Int))) H))
    else (
      none)) (
    kE2 t5_0 t5_1 t6 t16 H)
theorem g4_p12_eq {R:Type} (t5_0:Nat) (t5_1:Nat) (t6:Bool) (t7:Sl) (t16:Int) (t17:Int) (H:Heap) (K:Ex→Fr→Heap→Option R):ev2 Try.prog (E4) loopLim lv4 Try.f4.ntmps kp4 c4_8 [(5,(V.p (some (t5_0,t5_1)))),(6,(V.b t6)),(7,(V.sl t7)),(16,(V.i .i64 t16)),(17,(V.i .i64 t17))] H K = g4_p12 R t5_0 t5_1 t6 t7 t16 t17 H (fun t5_0 t5_1 t6 t7 t16 t17 H=>K .normal [(5,(V.p (some (t5_0,t5_1)))),(6,(V.b t6)),(7,(V.sl t7)),(16,(V.i .i64 t16)),(17,(V.i .i64 t17))] H) (fun t5_0 t5_1 t6 t16 H=>K (.exit 2) [(5,(V.p (some (t5_0,t5_1)))),(6,(V.b t6)),(16,(V.i .i64 t16))] H):=by kernel_rfl
theorem g4_p12_lin {R S:Type} {k:S→Option R} {t5_0:Nat} {t5_1:Nat} {t6:Bool} {t7:Sl} {t16:Int} {t17:Int} {H:Heap} {fkN:Nat→Nat→Bool→Sl→Int→Int→Heap→Option R} {gkN:Nat→Nat→Bool→Sl→Int→Int→Heap→Option S} {fkE2:Nat→Nat→Bool→Int→Heap→Option R} {gkE2:Nat→Nat→Bool→Int→Heap→Option S} (hkN:∀ t5_0 t5_1 t6 t7 t16 t17 H,fkN t5_0 t5_1 t6 t7 t16 t17 H = (gkN t5_0 t5_1 t6 t7 t16 t17 H).bind k) (hkE2:∀ t5_0 t5_1 t6 t16 H,fkE2 t5_0 t5_1 t6 t16 H = (gkE2 t5_0 t5_1 t6 t16 H).bind k):g4_p12 R t5_0 t5_1 t6 t7 t16 t17 H fkN fkE2 = (g4_p12 S t5_0 t5_1 t6 t7 t16 t17 H gkN gkE2).bind k:=by
  delta g4_p12; exact (
    sl_lin (
      il (
        bl fun q496 =>
        bl fun x497 =>
        sl_lin (
          hkN _ _ _ _ _ _ _) (
          hkN _ _ _ _ _ _ _)) (
        rfl)) (
      hkE2 _ _ _ _ _))
abbrev g4_p13_S:=Nat × Nat × Bool × Sl × Int × Int
abbrev g4_p13_O:=Nat × Nat × Bool × Int
def g4_p13_es (s:g4_p13_S):Fr:=[(5,(V.p (some (s.1,s.2.1)))),(6,(V.b s.2.2.1)),(7,(V.sl s.2.2.2.1)),(16,(V.i .i64 s.2.2.2.2.1)),(17,(V.i .i64 s.2.2.2.2.2))]
def g4_p13_er (r:g4_p13_O):Ex × Fr:=((.exit 2),[(5,(V.p (some (r.1,r.2.1)))),(6,(V.b r.2.2.1)),(16,(V.i .i64 r.2.2.2))])
noncomputable def g4_p13_b (s:g4_p13_S) (H:Heap):Option (Rd g4_p13_S g4_p13_O × Heap) :=
  g4_p12 _ s.1 s.2.1 s.2.2.1 s.2.2.2.1 s.2.2.2.2.1 s.2.2.2.2.2 H (fun t5_0 t5_1 t6 t7 t16 t17 H=>some (.go (t5_0,t5_1,t6,t7,t16,t17),H)) (fun t5_0 t5_1 t6 t16 H=>some (.up (t5_0,t5_1,t6,t16),H))
noncomputable def g4_p13 (R:Type) (t5_0:Nat) (t5_1:Nat) (t6:Bool) (t7:Sl) (t16:Int) (t17:Int) (H:Heap) (kE2:Nat→Nat→Bool→Int→Heap→Option R):Option R :=
  (tlim (g4_p13_b) (t5_0,t5_1,t6,t7,t16,t17) H).bind fun p=>kE2 p.1.1 p.1.2.1 p.1.2.2.1 p.1.2.2.2 p.2
theorem g4_p13_lin {R S:Type} {k:S→Option R} {t5_0:Nat} {t5_1:Nat} {t6:Bool} {t7:Sl} {t16:Int} {t17:Int} {H:Heap} {fkE2:Nat→Nat→Bool→Int→Heap→Option R} {gkE2:Nat→Nat→Bool→Int→Heap→Option S} (hkE2:∀ t5_0 t5_1 t6 t16 H,fkE2 t5_0 t5_1 t6 t16 H = (gkE2 t5_0 t5_1 t6 t16 H).bind k):g4_p13 R t5_0 t5_1 t6 t7 t16 t17 H fkE2 = (g4_p13 S t5_0 t5_1 t6 t7 t16 t17 H gkE2).bind k:=by
  exact bl fun p=>hkE2 _ _ _ _ _
theorem g4_p13_eq {R:Type} (t5_0:Nat) (t5_1:Nat) (t6:Bool) (t7:Sl) (t16:Int) (t17:Int) (H:Heap) (K:Ex→Fr→Heap→Option R):ev2 Try.prog (E4) loopLim lv4 Try.f4.ntmps kp4 c4_9 [(5,(V.p (some (t5_0,t5_1)))),(6,(V.b t6)),(7,(V.sl t7)),(16,(V.i .i64 t16)),(17,(V.i .i64 t17))] H K = g4_p13 R t5_0 t5_1 t6 t7 t16 t17 H (fun t5_0 t5_1 t6 t16 H=>K (.exit 2) [(5,(V.p (some (t5_0,t5_1)))),(6,(V.b t6)),(16,(V.i .i64 t16))] H):=by
  delta c4_9
  delta g4_p13
  refine (ev2_tlim (b:=g4_p13_b) (es:=g4_p13_es) (er:=g4_p13_er) (by intro r; exact nofun) (fun s H=>?_) (t5_0,t5_1,t6,t7,t16,t17) H K).trans (bc fun p=>rfl)
  exact (g4_p12_eq s.1 s.2.1 s.2.2.1 s.2.2.2.1 s.2.2.2.2.1 s.2.2.2.2.2 H ret3).trans (g4_p12_lin (fun _ _ _ _ _ _ _=>rfl) (fun _ _ _ _ _=>rfl))
noncomputable def g4_p14 (R:Type) (t5_0:Nat) (t5_1:Nat) (t6:Bool) (t7:Sl) (t16:Int) (t17:Int) (H:Heap) (kN:Nat→Nat→Bool→Int→Heap→Option R):Option R :=
  g4_p13 R t5_0 t5_1 t6 t7 t16 t17 H (fun t5_0 t5_1 t6 t16 H=>kN t5_0 t5_1 t6 t16 H)
theorem g4_p14_lin {R S:Type} {k:S→Option R} {t5_0:Nat} {t5_1:Nat} {t6:Bool} {t7:Sl} {t16:Int} {t17:Int} {H:Heap} {fkN:Nat→Nat→Bool→Int→Heap→Option R} {gkN:Nat→Nat→Bool→Int→Heap→Option S} (hkN:∀ t5_0 t5_1 t6 t16 H,fkN t5_0 t5_1 t6 t16 H = (gkN t5_0 t5_1 t6 t16 H).bind k):g4_p14 R t5_0 t5_1 t6 t7 t16 t17 H fkN = (g4_p14 S t5_0 t5_1 t6 t7 t16 t17 H gkN).bind k:=by
  exact g4_p13_lin (fun _ _ _ _ _=>hkN _ _ _ _ _)
theorem g4_p14_eq {R:Type} (t5_0:Nat) (t5_1:Nat) (t6:Bool) (t7:Sl) (t16:Int) (t17:Int) (H:Heap) (K:Ex→Fr→Heap→Option R):ev2 Try.prog (E4) loopLim lv4 Try.f4.ntmps kp4 c4_10 [(5,(V.p (some (t5_0,t5_1)))),(6,(V.b t6)),(7,(V.sl t7)),(16,(V.i .i64 t16)),(17,(V.i .i64 t17))] H K = g4_p14 R t5_0 t5_1 t6 t7 t16 t17 H (fun t5_0 t5_1 t6 t16 H=>K .normal [(5,(V.p (some (t5_0,t5_1)))),(6,(V.b t6)),(16,(V.i .i64 t16))] H):=by
  delta c4_10
  rw [ev2_block]
  delta g4_p14
  exact (g4_p13_eq t5_0 t5_1 t6 t7 t16 t17 H (kBlock kp4 2 K))
noncomputable def g4_p15 (R:Type) (t5_0:Nat) (t5_1:Nat) (t6:Bool) (t16:Int) (H:Heap) (kR:Bool→Heap→Option R):Option R :=
  sel t6 (
    ((H).ldP t5_0 (t5_1 + 0)).bind fun x498 =>
    g23 R x498 H fun x499 h500 =>
    sel (x499 == t16) (
      ((h500).ldP t5_0 (t5_1 + 1)).bind fun x501 =>
      g23 R x501 h500 fun x502 h503 =>
      sel (x502 == t16) (
        g9 R h503 fun x504 h505 =>
        kR x504 h505) (
        kR false h503)) (
      kR false h500)) (
    kR false H)
theorem g4_p15_eq {R:Type} (t5_0:Nat) (t5_1:Nat) (t6:Bool) (t16:Int) (H:Heap) (K:Ex→Fr→Heap→Option R):ev2 Try.prog (E4) loopLim lv4 Try.f4.ntmps kp4 c4_11 [(5,(V.p (some (t5_0,t5_1)))),(6,(V.b t6)),(16,(V.i .i64 t16))] H K = g4_p15 R t5_0 t5_1 t6 t16 H (fun t4 H=>K .ret [(4,(V.b t4))] H):=by kernel_rfl
theorem g4_p15_lin {R S:Type} {k:S→Option R} {t5_0:Nat} {t5_1:Nat} {t6:Bool} {t16:Int} {H:Heap} {fkR:Bool→Heap→Option R} {gkR:Bool→Heap→Option S} (hkR:∀ t4 H,fkR t4 H = (gkR t4 H).bind k):g4_p15 R t5_0 t5_1 t6 t16 H fkR = (g4_p15 S t5_0 t5_1 t6 t16 H gkR).bind k:=by
  delta g4_p15; exact (
    sl_lin (
      bl fun x498 =>
      g23_lin.l fun x499 h500 =>
      sl_lin (
        bl fun x501 =>
        g23_lin.l fun x502 h503 =>
        sl_lin (
          g9_lin.l fun x504 h505 =>
          hkR _ _) (
          hkR _ _)) (
        hkR _ _)) (
      hkR _ _))
noncomputable def g4_p16 (R:Type) (t5_0:Nat) (t5_1:Nat) (t6:Bool) (t7:Sl) (t16:Int) (t17:Int) (H:Heap) (kR:Bool→Heap→Option R):Option R :=
  g4_p14 R t5_0 t5_1 t6 t7 t16 t17 H (fun t5_0 t5_1 t6 t16 H=>g4_p15 R t5_0 t5_1 t6 t16 H (fun t4 H=>kR t4 H))
theorem g4_p16_lin {R S:Type} {k:S→Option R} {t5_0:Nat} {t5_1:Nat} {t6:Bool} {t7:Sl} {t16:Int} {t17:Int} {H:Heap} {fkR:Bool→Heap→Option R} {gkR:Bool→Heap→Option S} (hkR:∀ t4 H,fkR t4 H = (gkR t4 H).bind k):g4_p16 R t5_0 t5_1 t6 t7 t16 t17 H fkR = (g4_p16 S t5_0 t5_1 t6 t7 t16 t17 H gkR).bind k:=by
  exact g4_p14_lin (fun _ _ _ _ _=>g4_p15_lin (fun _ _=>hkR _ _))
theorem g4_p16_eq {R:Type} (t5_0:Nat) (t5_1:Nat) (t6:Bool) (t7:Sl) (t16:Int) (t17:Int) (H:Heap) (K:Ex→Fr→Heap→Option R):ev2 Try.prog (E4) loopLim lv4 Try.f4.ntmps kp4 c4_12 [(5,(V.p (some (t5_0,t5_1)))),(6,(V.b t6)),(7,(V.sl t7)),(16,(V.i .i64 t16)),(17,(V.i .i64 t17))] H K = g4_p16 R t5_0 t5_1 t6 t7 t16 t17 H (fun t4 H=>K .ret [(4,(V.b t4))] H):=by
  delta c4_12
  rw [ev2_seq]
  delta g4_p16
  exact (g4_p14_eq t5_0 t5_1 t6 t7 t16 t17 H (kSeq (fun fr H=>ev2 Try.prog (E4) loopLim lv4 Try.f4.ntmps kp4 c4_11 fr H K) K)).trans (congrArg (g4_p14 R t5_0 t5_1 t6 t7 t16 t17 H) (funext fun t5_0=>funext fun t5_1=>funext fun t6=>funext fun t16=>funext fun H=>(kSeq_n _ _ _ _).trans (g4_p15_eq t5_0 t5_1 t6 t16 H K)))
noncomputable def g4_p17 (R:Type) (t5_0:Nat) (t5_1:Nat) (t6:Bool) (t7:Sl) (H:Heap) (kR:Bool→Heap→Option R):Option R :=
  g4_p11 R t5_0 t5_1 t6 t7 H (fun t5_0 t5_1 t6 t7 t16 t17 H=>g4_p16 R t5_0 t5_1 t6 t7 t16 t17 H (fun t4 H=>kR t4 H))
theorem g4_p17_lin {R S:Type} {k:S→Option R} {t5_0:Nat} {t5_1:Nat} {t6:Bool} {t7:Sl} {H:Heap} {fkR:Bool→Heap→Option R} {gkR:Bool→Heap→Option S} (hkR:∀ t4 H,fkR t4 H = (gkR t4 H).bind k):g4_p17 R t5_0 t5_1 t6 t7 H fkR = (g4_p17 S t5_0 t5_1 t6 t7 H gkR).bind k:=by
  exact g4_p11_lin (fun _ _ _ _ _ _ _=>g4_p16_lin (fun _ _=>hkR _ _))
theorem g4_p17_eq {R:Type} (t5_0:Nat) (t5_1:Nat) (t6:Bool) (t7:Sl) (H:Heap) (K:Ex→Fr→Heap→Option R):ev2 Try.prog (E4) loopLim lv4 Try.f4.ntmps kp4 c4_13 [(5,(V.p (some (t5_0,t5_1)))),(6,(V.b t6)),(7,(V.sl t7))] H K = g4_p17 R t5_0 t5_1 t6 t7 H (fun t4 H=>K .ret [(4,(V.b t4))] H):=by
  delta c4_13
  delta g4_p17
  exact (g4_p11_eq _ t5_0 t5_1 t6 t7 H K).trans (congrArg (g4_p11 R t5_0 t5_1 t6 t7 H) (funext fun t5_0=>funext fun t5_1=>funext fun t6=>funext fun t7=>funext fun t16=>funext fun t17=>funext fun H=>g4_p16_eq t5_0 t5_1 t6 t7 t16 t17 H K))
noncomputable def g4_p18 (R:Type) (t0:Sl) (t5_0:Nat) (t5_1:Nat) (t6:Bool) (t7:Sl) (t8:Int) (H:Heap) (kR:Bool→Heap→Option R):Option R :=
  g4_p10 R t0 t5_0 t5_1 t6 t7 t8 H (fun t5_0 t5_1 t6 t7 H=>g4_p17 R t5_0 t5_1 t6 t7 H (fun t4 H=>kR t4 H)) (fun t4 H=>kR t4 H)
theorem g4_p18_lin {R S:Type} {k:S→Option R} {t0:Sl} {t5_0:Nat} {t5_1:Nat} {t6:Bool} {t7:Sl} {t8:Int} {H:Heap} {fkR:Bool→Heap→Option R} {gkR:Bool→Heap→Option S} (hkR:∀ t4 H,fkR t4 H = (gkR t4 H).bind k):g4_p18 R t0 t5_0 t5_1 t6 t7 t8 H fkR = (g4_p18 S t0 t5_0 t5_1 t6 t7 t8 H gkR).bind k:=by
  exact g4_p10_lin (fun _ _ _ _ _=>g4_p17_lin (fun _ _=>hkR _ _)) (fun _ _=>hkR _ _)
theorem g4_p18_eq {R:Type} (t0:Sl) (t5_0:Nat) (t5_1:Nat) (t6:Bool) (t7:Sl) (t8:Int) (H:Heap) (K:Ex→Fr→Heap→Option R):ev2 Try.prog (E4) loopLim lv4 Try.f4.ntmps kp4 c4_14 [(0,(V.sl t0)),(5,(V.p (some (t5_0,t5_1)))),(6,(V.b t6)),(7,(V.sl t7)),(8,(V.i .i64 t8))] H K = g4_p18 R t0 t5_0 t5_1 t6 t7 t8 H (fun t4 H=>K .ret [(4,(V.b t4))] H):=by
  delta c4_14
  rw [ev2_seq]
  delta g4_p18
  exact (g4_p10_eq t0 t5_0 t5_1 t6 t7 t8 H (kSeq (fun fr H=>ev2 Try.prog (E4) loopLim lv4 Try.f4.ntmps kp4 c4_13 fr H K) K)).trans (congr (congrArg (g4_p10 R t0 t5_0 t5_1 t6 t7 t8 H) (funext fun t5_0=>funext fun t5_1=>funext fun t6=>funext fun t7=>funext fun H=>(kSeq_n _ _ _ _).trans (g4_p17_eq t5_0 t5_1 t6 t7 H K))) rfl)
noncomputable def g4_p19 (R:Type) (t0:Sl) (t1:Int) (H:Heap) (kR:Bool→Heap→Option R):Option R :=
  g4_p0 R t0 t1 H (fun t0 t5_0 t5_1 t6 t7 t8 H=>g4_p18 R t0 t5_0 t5_1 t6 t7 t8 H (fun t4 H=>kR t4 H)) (fun t4 H=>kR t4 H)
theorem g4_p19_lin {R S:Type} {k:S→Option R} {t0:Sl} {t1:Int} {H:Heap} {fkR:Bool→Heap→Option R} {gkR:Bool→Heap→Option S} (hkR:∀ t4 H,fkR t4 H = (gkR t4 H).bind k):g4_p19 R t0 t1 H fkR = (g4_p19 S t0 t1 H gkR).bind k:=by
  exact g4_p0_lin (fun _ _ _ _ _ _ _=>g4_p18_lin (fun _ _=>hkR _ _)) (fun _ _=>hkR _ _)
theorem g4_p19_eq {R:Type} (t0:Sl) (t1:Int) (H:Heap) (K:Ex→Fr→Heap→Option R):ev2 Try.prog (E4) loopLim lv4 Try.f4.ntmps kp4 c4_15 [(0,(V.sl t0)),(1,(V.i .u8 t1))] H K = g4_p19 R t0 t1 H (fun t4 H=>K .ret [(4,(V.b t4))] H):=by
  delta c4_15
  delta g4_p19
  exact (g4_p0_eq _ t0 t1 H K).trans (congr (congrArg (g4_p0 R t0 t1 H) (funext fun t0=>funext fun t5_0=>funext fun t5_1=>funext fun t6=>funext fun t7=>funext fun t8=>funext fun H=>g4_p18_eq t0 t5_0 t5_1 t6 t7 t8 H K)) rfl)
noncomputable def g4_r:T4:=fun R t0 t1 H K =>
  g4_p19 R t0 t1 H (fun t4 H =>
    K t4 H)
theorem g4_r_lin:Lin4 (g4_r):=by
  constructor
  intro R S k t0 t1 H f g h
  exact g4_p19_lin (fun t4 H =>
    h _ _)
theorem g4_fn {R:Type} (t0:Sl) (t1:Int) (H:Heap) (K:V→Heap→Option R):evFn2 Try.prog (E4) loopLim lv4 Try.f4 kp4 [(V.sl t0),(V.i .u8 t1)] H K = g4_r R t0 t1 H (fun r0 H=>K (V.b r0) H):=by
  have h0 : ∀ (t4 : Bool) (H : Heap), kFn2 Try.prog Try.f4.results.toList K .ret [(4, (V.b t4))] H =
      K (V.b t4) H:=by intros; kernel_rfl
  have e0:=evFn2_code2 (P:=Try.prog) (c:=c4_15) (E:=(E4)) (lr:=loopLim) (lv:=lv4) (kp:=kp4) (fn:=Try.f4) (args:=[(V.sl t0),(V.i .u8 t1)]) H K (by kernel_rfl) (Nat.le_of_ble_eq_true (by kernel_rfl)) (by kernel_rfl) (by kernel_rfl)
  have e1:ev2 Try.prog (E4) loopLim lv4 Try.f4.ntmps kp4 c4_15 (argFr 0 [(V.sl t0),(V.i .u8 t1)]) H (kFn2 Try.prog Try.f4.results.toList K) = ev2 Try.prog (E4) loopLim lv4 Try.f4.ntmps kp4 c4_15 [(0,(V.sl t0)),(1,(V.i .u8 t1))] H (kFn2 Try.prog Try.f4.results.toList K):=by kernel_rfl
  refine (e0.trans e1).trans ?_
  delta g4_r
  exact (g4_p19_eq t0 t1 H (kFn2 Try.prog Try.f4.results.toList K)).trans (congrArg (g4_p19 R t0 t1 H) (funext fun t4=>funext fun H=>h0 t4 H))
theorem g4_ok:FunOK Try.prog 4 (w4 (g4_r)):=by
  refine (runF2_ok (E4_good) mixed lim_ok Try.func4 (by kernel_rfl) lv4 kp4).of_le fun R args H K r hk=>?_
  unfold w4 at hk
  split at hk
  · exact (g4_fn _ _ H K).trans hk
  · cases hk
noncomputable def g4:T4:=g4_r
theorem g4_lin:Lin4 g4:=g4_r_lin
theorem ok4:FunOK Try.prog 4 (w4 g4):=g4_ok
end Go.Proofs.Ytnlfkllnmobppaa

