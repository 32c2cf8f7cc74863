/- Printed: functions as the machine runs them. -/
import Derived.Test.YtobebcfkddimkaaGH2
namespace Go.Proofs.Ytobebcfkddimkaa
open Go AM Go.RowKit
set_option linter.unusedVariables false
def kp6:Nat→Option (List Nat):=kpOf [(0,[]),(1,[1]),(2,[1,2]),(3,[1,2,5]),(4,[1,2,5,8]),(5,[1,2,5,8,10]),(6,[1,2,5,8,10,12]),(7,[73]),(8,[0]),(9,[13]),(10,[13,14]),(11,[13,14,75]),(12,[13,14]),(13,[13,14,15]),(14,[13,14,15,16]),(15,[13,14,15,16,17]),(16,[13,14,15,16,17,18]),(17,[13,14,15,16,17,18,19]),(18,[13,14,15,16,17,18,19,79]),(19,[13,14,15,16,17,18,19]),(20,[13,14,15,16,17,18,19,85]),(21,[13,14,15,16,17,18,19]),(22,[13,14,15,16,17,18,19]),(23,[13,14,15,16,17,18,19]),(24,[13,14,15,16,17,18,19]),(25,[13,14,15,16,17,18,19]),(26,[13,14,167]),(27,[0]),(28,[0]),(100000,[]),(100001,[13,14]),(100002,[13,14,15,16,17,18]),(100003,[13,14,15,16,17,18,19]),(200000,[13,14]),(200001,[13,14]),(200002,[13,14,15,16,17,18,19]),(200003,[13,14,15,16,17,18,19]),(300000,[0]),(400073,[]),(400075,[13,14]),(400079,[13,14,15,16,17,18,19]),(400085,[13,14,15,16,17,18,19]),(400167,[13,14])]
noncomputable def E6:FEnv:=[(13,w13 g13),(10,w10 g10),(11,w11 g11),(14,w14 g14),(3,w3 g3),(4,w4 g4),(5,w5 g5),(17,w17 g17),(9,w9 g9)]
theorem E6_good:EnvGood Try.prog (E6):=((((((((((EnvGood.nil _).cons ok9 (w9_lin g9_lin)).cons ok17 (w17_lin g17_lin)).cons ok5 (w5_lin g5_lin)).cons ok4 (w4_lin g4_lin)).cons ok3 (w3_lin g3_lin)).cons ok14 (w14_lin g14_lin)).cons ok11 (w11_lin g11_lin)).cons ok10 (w10_lin g10_lin)).cons ok13 (w13_lin g13_lin))
def lv6:Nat→Bool:=lvOf []
noncomputable def b6:Code:=Try.f6.body.getD .skip
noncomputable def c6_0:Code:=(.seq (codeAt [1,1,1,1,1,1,1,1,1,0,1,0,0,1,0,0,1,1,1,1,0,1,0,0,0,0] b6) (.seq (.cond (.tmp 79) .skip (.exit 2)) (.seq (.block 3 (.seq (codeAt [1,1,1,1,1,1,1,1,1,0,1,0,0,1,0,0,1,1,1,1,0,1,0,0,1,0,0,0,0] b6) (.seq (.cond (.tmp 85) (codeAt [1,1,1,1,1,1,1,1,1,0,1,0,0,1,0,0,1,1,1,1,0,1,0,0,1,0,0,0,1,0] b6) .skip) (.seq (codeAt [1,1,1,1,1,1,1,1,1,0,1,0,0,1,0,0,1,1,1,1,0,1,0,0,1,0,0,1,0] b6) (.seq (codeAt [1,1,1,1,1,1,1,1,1,0,1,0,0,1,0,0,1,1,1,1,0,1,0,0,1,0,0,1,1,0] b6) (.seq (codeAt [1,1,1,1,1,1,1,1,1,0,1,0,0,1,0,0,1,1,1,1,0,1,0,0,1,0,0,1,1,1,0] b6) (codeAt [1,1,1,1,1,1,1,1,1,0,1,0,0,1,0,0,1,1,1,1,0,1,0,0,1,0,0,1,1,1,1] b6))))))) (codeAt [1,1,1,1,1,1,1,1,1,0,1,0,0,1,0,0,1,1,1,1,0,1,0,0,1,1] b6))))
noncomputable def c6_1:Code:=(.loop c6_0)
noncomputable def c6_2:Code:=(.block 2 c6_1)
noncomputable def c6_3:Code:=(.seq (codeAt [1,1,1,1,1,1,1,1,1,0,1,0,0,1,0,0,1,1,1,1,1,0] b6) (.cond (.tmp 167) (.seq (codeAt [1,1,1,1,1,1,1,1,1,0,1,0,0,1,0,0,1,1,1,1,1,1,0,0] b6) .ret) .skip))
noncomputable def c6_4:Code:=(.seq c6_2 c6_3)
noncomputable def c6_5:Code:=(.seq (codeAt [1,1,1,1,1,1,1,1,1,0,1,0,0,1,0,0,0] b6) (.seq (codeAt [1,1,1,1,1,1,1,1,1,0,1,0,0,1,0,0,1,0] b6) (.seq (codeAt [1,1,1,1,1,1,1,1,1,0,1,0,0,1,0,0,1,1,0] b6) (.seq (codeAt [1,1,1,1,1,1,1,1,1,0,1,0,0,1,0,0,1,1,1,0] b6) (.seq (codeAt [1,1,1,1,1,1,1,1,1,0,1,0,0,1,0,0,1,1,1,1,0,0] b6) c6_4)))))
noncomputable def c6_6:Code:=(.block 1 c6_5)
noncomputable def c6_7:Code:=(codeAt [1,1,1,1,1,1,1,1,1,0,1,0,0,1,1] b6)
noncomputable def c6_8:Code:=(.seq c6_6 c6_7)
noncomputable def c6_9:Code:=(.seq (codeAt [1,1,1,1,1,1,1,1,1,0,1,0,0,0,0] b6) (.seq (.cond (.tmp 75) .skip (.exit 0)) c6_8))
noncomputable def c6_10:Code:=(.loop c6_9)
noncomputable def c6_11:Code:=(.block 0 c6_10)
noncomputable def c6_12:Code:=(.seq (codeAt [1,1,1,1,1,1,1,1,1,1,0] b6) .ret)
noncomputable def c6_13:Code:=(.seq c6_11 c6_12)
noncomputable def c6_14:Code:=(.seq (.cond (.tmp 73) (.seq (codeAt [1,1,1,1,1,1,1,0,1,0,0] b6) .ret) .skip) (.seq (codeAt [1,1,1,1,1,1,1,1,0] b6) (.seq (codeAt [1,1,1,1,1,1,1,1,1,0,0] b6) c6_13)))
noncomputable def c6_15:Code:=(.seq (codeAt [0] b6) (.seq (codeAt [1,0] b6) (.seq (codeAt [1,1,0] b6) (.seq (codeAt [1,1,1,0] b6) (.seq (codeAt [1,1,1,1,0] b6) (.seq (codeAt [1,1,1,1,1,0] b6) (.seq (codeAt [1,1,1,1,1,1,0] b6) (.seq (codeAt [1,1,1,1,1,1,1,0,0] b6) c6_14))))))))
noncomputable def g6_p0 (R:Type) (H:Heap) (kN:Bool→Heap→Option R):Option R :=
  alo H (.cells [(V.i .i64 (0:Int)),(V.m none),(V.sl (Sl.mk none 0 (.ex 0)))] 64 false) fun i48 h49 =>
  g13 R none (1:Int) (0:Int) true (0:Int) (Sl.mk none 0 (.ex 0)) h49 fun x50 x51 x52 h53 =>
  g13 R (some (i48,0)) (1:Int) (0:Int) true (0:Int) (Sl.mk none 0 (.ex 0)) h53 fun x54 x55 x56 h57 =>
  g10 R (0:Int) h57 fun x58 x59 h60 =>
  g10 R (1048577:Int) h60 fun x61 x62 h63 =>
  sel (x52 != (2:Int)) (
    kN true h63) (
    sel (x56 != (2:Int)) (
      kN true h63) (
      sel (x59 != (1:Int)) (
        kN true h63) (
        sel (x62 != (3:Int)) (
          kN true h63) (
          g11 R none h63 fun x64 h65 =>
          g11 R (some (i48,0)) h65 fun x66 h67 =>
          g14 R none h67 fun x68 h69 =>
          g14 R (some (i48,0)) h69 fun x70 h71 =>
          kN ((IntKind.wrap .i64 ((IntKind.wrap .i64 ((IntKind.wrap .i64 (((x64.len:Nat):Int) + ((x66.len:Nat):Int))) + x68)) + x70)) != (0:Int)) h71))))
theorem g6_p0_eq {R:Type} (c2:Code) (H:Heap) (K:Ex→Fr→Heap→Option R):ev2 Try.prog (E6) loopLim lv6 Try.f6.ntmps kp6 (.seq (codeAt [0] b6) (.seq (codeAt [1,0] b6) (.seq (codeAt [1,1,0] b6) (.seq (codeAt [1,1,1,0] b6) (.seq (codeAt [1,1,1,1,0] b6) (.seq (codeAt [1,1,1,1,1,0] b6) (.seq (codeAt [1,1,1,1,1,1,0] b6) (.seq (codeAt [1,1,1,1,1,1,1,0,0] b6) c2)))))))) [] H K = g6_p0 R H (fun t73 H=>ev2 Try.prog (E6) loopLim lv6 Try.f6.ntmps kp6 c2 [(73,(V.b t73))] H K):=by kernel_rfl
noncomputable def g6_p1 (R:Type) (t73:Bool) (H:Heap) (kN:Int→Int→Heap→Option R) (kR:Bool→Heap→Option R):Option R :=
  sel t73 (
    kR false H) (
    kN (1:Int) (0:Int) H)
theorem g6_p1_eq {R:Type} (c2:Code) (t73:Bool) (H:Heap) (K:Ex→Fr→Heap→Option R):ev2 Try.prog (E6) loopLim lv6 Try.f6.ntmps kp6 (.seq (.cond (.tmp 73) (.seq (codeAt [1,1,1,1,1,1,1,0,1,0,0] b6) .ret) .skip) (.seq (codeAt [1,1,1,1,1,1,1,1,0] b6) (.seq (codeAt [1,1,1,1,1,1,1,1,1,0,0] b6) c2))) [(73,(V.b t73))] H K = g6_p1 R t73 H (fun t13 t14 H=>ev2 Try.prog (E6) loopLim lv6 Try.f6.ntmps kp6 c2 [(13,(V.i .i64 t13)),(14,(V.i .i64 t14))] H K) (fun t0 H=>K .ret [(0,(V.b t0))] H):=by kernel_rfl
noncomputable def g6_p2 (R:Type) (t13:Int) (t14:Int) (H:Heap) (kN:Int→Int→Heap→Option R) (kE0:Heap→Option R):Option R :=
  sel (decide (t14 < (20:Int))) (
    kN t13 t14 H) (
    kE0 H)
theorem g6_p2_eq {R:Type} (c2:Code) (t13:Int) (t14:Int) (H:Heap) (K:Ex→Fr→Heap→Option R):ev2 Try.prog (E6) loopLim lv6 Try.f6.ntmps kp6 (.seq (codeAt [1,1,1,1,1,1,1,1,1,0,1,0,0,0,0] b6) (.seq (.cond (.tmp 75) .skip (.exit 0)) c2)) [(13,(V.i .i64 t13)),(14,(V.i .i64 t14))] H K = g6_p2 R t13 t14 H (fun t13 t14 H=>ev2 Try.prog (E6) loopLim lv6 Try.f6.ntmps kp6 c2 [(13,(V.i .i64 t13)),(14,(V.i .i64 t14))] H K) (fun H=>K (.exit 0) [] H):=by kernel_rfl
theorem g6_p2_lin {R S:Type} {k:S→Option R} {t13:Int} {t14:Int} {H:Heap} {fkN:Int→Int→Heap→Option R} {gkN:Int→Int→Heap→Option S} {fkE0:Heap→Option R} {gkE0:Heap→Option S} (hkN:∀ t13 t14 H,fkN t13 t14 H = (gkN t13 t14 H).bind k) (hkE0:∀ H,fkE0 H = (gkE0 H).bind k):g6_p2 R t13 t14 H fkN fkE0 = (g6_p2 S t13 t14 H gkN gkE0).bind k:=by
  delta g6_p2; exact (
    sl_lin (
      hkN _ _ _) (
      hkE0 _))
noncomputable def g6_p3 (R:Type) (t13:Int) (t14:Int) (H:Heap) (kN:Int→Int→Sl→Sl→Sl→Sl→Int→Heap→Option R):Option R :=
  kN t13 t14 (Sl.mk none 0 (.ex 0)) (Sl.mk none 0 (.ex 0)) (Sl.mk none 0 (.ex 0)) (Sl.mk none 0 (.ex 0)) (0:Int) H
theorem g6_p3_eq {R:Type} (c2:Code) (t13:Int) (t14:Int) (H:Heap) (K:Ex→Fr→Heap→Option R):ev2 Try.prog (E6) loopLim lv6 Try.f6.ntmps kp6 (.seq (codeAt [1,1,1,1,1,1,1,1,1,0,1,0,0,1,0,0,0] b6) (.seq (codeAt [1,1,1,1,1,1,1,1,1,0,1,0,0,1,0,0,1,0] b6) (.seq (codeAt [1,1,1,1,1,1,1,1,1,0,1,0,0,1,0,0,1,1,0] b6) (.seq (codeAt [1,1,1,1,1,1,1,1,1,0,1,0,0,1,0,0,1,1,1,0] b6) (.seq (codeAt [1,1,1,1,1,1,1,1,1,0,1,0,0,1,0,0,1,1,1,1,0,0] b6) c2))))) [(13,(V.i .i64 t13)),(14,(V.i .i64 t14))] H K = g6_p3 R t13 t14 H (fun t13 t14 t15 t16 t17 t18 t19 H=>ev2 Try.prog (E6) loopLim lv6 Try.f6.ntmps kp6 c2 [(13,(V.i .i64 t13)),(14,(V.i .i64 t14)),(15,(V.sl t15)),(16,(V.sl t16)),(17,(V.sl t17)),(18,(V.sl t18)),(19,(V.i .i64 t19))] H K):=by kernel_rfl
theorem g6_p3_lin {R S:Type} {k:S→Option R} {t13:Int} {t14:Int} {H:Heap} {fkN:Int→Int→Sl→Sl→Sl→Sl→Int→Heap→Option R} {gkN:Int→Int→Sl→Sl→Sl→Sl→Int→Heap→Option S} (hkN:∀ t13 t14 t15 t16 t17 t18 t19 H,fkN t13 t14 t15 t16 t17 t18 t19 H = (gkN t13 t14 t15 t16 t17 t18 t19 H).bind k):g6_p3 R t13 t14 H fkN = (g6_p3 S t13 t14 H gkN).bind k:=by
  delta g6_p3; exact (
    hkN _ _ _ _ _ _ _ _)
noncomputable def g6_p4 (R:Type) (t13:Int) (t14:Int) (t15:Sl) (t16:Sl) (t17:Sl) (t18:Sl) (t19:Int) (H:Heap) (kN:Int→Int→Sl→Sl→Sl→Sl→Int→Heap→Option R) (kE2:Int→Int→Sl→Sl→Sl→Sl→Heap→Option R):Option R :=
  sel (decide (t19 < (24:Int))) (
    sel (decide (t19 < (Int.tmod t14 (9:Int)))) (
      if 0 ≤ (Int.tmod t13 (50:Int))∧(Int.tmod t13 (50:Int)) ≤ (Int.tmod t13 (50:Int))∧(Int.tmod t13 (50:Int)) ≤ 9223372036854775807∧(Int.tmod t13 (50:Int)) * ((1:Nat):Int) ≤ 281474976710656 then (
        ((zeroCellsV Try.prog 5 (Int.toNat (Int.tmod t13 (50:Int))))).bind fun vs72 =>
        alo H (.cells vs72 5 false) fun i73 h74 =>
        alo h74 (.cells [(V.i .u8 (IntKind.wrap .u8 t13)),(V.i .u8 (IntKind.wrap .u8 (IntKind.wrap .i64 (Int.tdiv t13 (4:Int))))),(V.sl (Sl.mk (some (i73,0)) (Int.toNat (Int.tmod t13 (50:Int))) (.ex (Int.toNat (Int.tmod t13 (50:Int)))))),(V.i .u8 (IntKind.wrap .u8 t19))] 35 false) fun i75 h76 =>
        ((slCells h76 4 (Sl.mk (some (i75,0)) 1 (.ex 1)))).bind fun vs79 =>
        appendV h76 35 4 40 t15 (Sl.mk (some (i75,0)) 1 (.ex 1)).len vs79 fun s77 h78 =>
        alo h78 (.cells [(V.b ((Int.tmod t13 (7:Int)) == (0:Int))),(V.i .u8 (IntKind.wrap .u8 t13)),(V.i .u8 (IntKind.wrap .u8 t19))] 30 false) fun i80 h81 =>
        ((slCells h81 3 (Sl.mk (some (i80,0)) 1 (.ex 1)))).bind fun vs84 =>
        appendV h81 30 3 3 t16 (Sl.mk (some (i80,0)) 1 (.ex 1)).len vs84 fun s82 h83 =>
        alo h83 (.cells [(V.i .u8 (IntKind.wrap .u8 t13))] 5 false) fun i85 h86 =>
        alo h86 (.cells [(V.b ((Int.tmod t13 (5:Int)) == (0:Int))),(V.i .u16 (IntKind.wrap .u16 (Int.tmod t13 (3:Int)))),(V.i .u32 (IntKind.wrap .u32 (Int.tmod t13 (2:Int)))),(V.b (decide ((Int.tmod t13 (11:Int)) < (4:Int)))),(V.i .u8 (IntKind.wrap .u8 (Int.tmod t13 (3:Int)))),(V.sl (Sl.mk (some (i85,0)) 1 (.ex 1)))] 53 false) fun i87 h88 =>
        ((slCells h88 6 (Sl.mk (some (i87,0)) 1 (.ex 1)))).bind fun vs91 =>
        appendV h88 53 6 40 t17 (Sl.mk (some (i87,0)) 1 (.ex 1)).len vs91 fun s89 h90 =>
        alo h90 (.cells [(V.i .u8 (IntKind.wrap .u8 (IntKind.wrap .i64 (Int.tdiv t13 (3:Int)))))] 5 false) fun i92 h93 =>
        ((slCells h93 1 (Sl.mk (some (i92,0)) 1 (.ex 1)))).bind fun vs96 =>
        appendV h93 5 1 1 t18 (Sl.mk (some (i92,0)) 1 (.ex 1)).len vs96 fun s94 h95 =>
        kN (Int.tmod (IntKind.wrap .i64 ((IntKind.wrap .i64 ((IntKind.wrap .i64 (t13 * (31:Int))) + (IntKind.wrap .i64 ((7:Int) * t19)))) + (11:Int))) (100003:Int)) t14 s77 s82 s89 s94 (IntKind.wrap .i64 (t19 + (1:Int))) h95)
      else (
        none)) (
      alo H (.cells [(V.b ((Int.tmod t13 (7:Int)) == (0:Int))),(V.i .u8 (IntKind.wrap .u8 t13)),(V.i .u8 (IntKind.wrap .u8 t19))] 30 false) fun i97 h98 =>
      ((slCells h98 3 (Sl.mk (some (i97,0)) 1 (.ex 1)))).bind fun vs101 =>
      appendV h98 30 3 3 t16 (Sl.mk (some (i97,0)) 1 (.ex 1)).len vs101 fun s99 h100 =>
      alo h100 (.cells [(V.i .u8 (IntKind.wrap .u8 t13))] 5 false) fun i102 h103 =>
      alo h103 (.cells [(V.b ((Int.tmod t13 (5:Int)) == (0:Int))),(V.i .u16 (IntKind.wrap .u16 (Int.tmod t13 (3:Int)))),(V.i .u32 (IntKind.wrap .u32 (Int.tmod t13 (2:Int)))),(V.b (decide ((Int.tmod t13 (11:Int)) < (4:Int)))),(V.i .u8 (IntKind.wrap .u8 (Int.tmod t13 (3:Int)))),(V.sl (Sl.mk (some (i102,0)) 1 (.ex 1)))] 53 false) fun i104 h105 =>
      ((slCells h105 6 (Sl.mk (some (i104,0)) 1 (.ex 1)))).bind fun vs108 =>
      appendV h105 53 6 40 t17 (Sl.mk (some (i104,0)) 1 (.ex 1)).len vs108 fun s106 h107 =>
      alo h107 (.cells [(V.i .u8 (IntKind.wrap .u8 (IntKind.wrap .i64 (Int.tdiv t13 (3:Int)))))] 5 false) fun i109 h110 =>
      ((slCells h110 1 (Sl.mk (some (i109,0)) 1 (.ex 1)))).bind fun vs113 =>
      appendV h110 5 1 1 t18 (Sl.mk (some (i109,0)) 1 (.ex 1)).len vs113 fun s111 h112 =>
      kN (Int.tmod (IntKind.wrap .i64 ((IntKind.wrap .i64 ((IntKind.wrap .i64 (t13 * (31:Int))) + (IntKind.wrap .i64 ((7:Int) * t19)))) + (11:Int))) (100003:Int)) t14 t15 s99 s106 s111 (IntKind.wrap .i64 (t19 + (1:Int))) h112)) (
    kE2 t13 t14 t15 t16 t17 t18 H)
theorem g6_p4_eq {R:Type} (t13:Int) (t14:Int) (t15:Sl) (t16:Sl) (t17:Sl) (t18:Sl) (t19:Int) (H:Heap) (K:Ex→Fr→Heap→Option R):ev2 Try.prog (E6) loopLim lv6 Try.f6.ntmps kp6 c6_0 [(13,(V.i .i64 t13)),(14,(V.i .i64 t14)),(15,(V.sl t15)),(16,(V.sl t16)),(17,(V.sl t17)),(18,(V.sl t18)),(19,(V.i .i64 t19))] H K = g6_p4 R t13 t14 t15 t16 t17 t18 t19 H (fun t13 t14 t15 t16 t17 t18 t19 H=>K .normal [(13,(V.i .i64 t13)),(14,(V.i .i64 t14)),(15,(V.sl t15)),(16,(V.sl t16)),(17,(V.sl t17)),(18,(V.sl t18)),(19,(V.i .i64 t19))] H) (fun t13 t14 t15 t16 t17 t18 H=>K (.exit 2) [(13,(V.i .i64 t13)),(14,(V.i .i64 t14)),(15,(V.sl t15)),(16,(V.sl t16)),(17,(V.sl t17)),(18,(V.sl t18))] H):=by kernel_rfl
theorem g6_p4_lin {R S:Type} {k:S→Option R} {t13:Int} {t14:Int} {t15:Sl} {t16:Sl} {t17:Sl} {t18:Sl} {t19:Int} {H:Heap} {fkN:Int→Int→Sl→Sl→Sl→Sl→Int→Heap→Option R} {gkN:Int→Int→Sl→Sl→Sl→Sl→Int→Heap→Option S} {fkE2:Int→Int→Sl→Sl→Sl→Sl→Heap→Option R} {gkE2:Int→Int→Sl→Sl→Sl→Sl→Heap→Option S} (hkN:∀ t13 t14 t15 t16 t17 t18 t19 H,fkN t13 t14 t15 t16 t17 t18 t19 H = (gkN t13 t14 t15 t16 t17 t18 t19 H).bind k) (hkE2:∀ t13 t14 t15 t16 t17 t18 H,fkE2 t13 t14 t15 t16 t17 t18 H = (gkE2 t13 t14 t15 t16 t17 t18 H).bind k):g6_p4 R t13 t14 t15 t16 t17 t18 t19 H fkN fkE2 = (g6_p4 S t13 t14 t15 t16 t17 t18 t19 H gkN gkE2).bind k:=by
  delta g6_p4
  repeat' (first | with_reducible (first | exact hkN _ _ _ _ _ _ _ _ | exact hkE2 _ _ _ _ _ _ _ | refine sl_lin ?_ ?_ | refine il ?_ ?_ | refine alo_lin fun _ _=>?_ | refine appendV_lin fun _ _=>?_ | refine bl fun _=>?_) | exact (rfl:(none:Option R) = (none:Option S).bind k))
abbrev g6_p5_S:=Int × Int × Sl × Sl × Sl × Sl × Int
abbrev g6_p5_O:=Int × Int × Sl × Sl × Sl × Sl
def g6_p5_es (s:g6_p5_S):Fr:=[(13,(V.i .i64 s.1)),(14,(V.i .i64 s.2.1)),(15,(V.sl s.2.2.1)),(16,(V.sl s.2.2.2.1)),(17,(V.sl s.2.2.2.2.1)),(18,(V.sl s.2.2.2.2.2.1)),(19,(V.i .i64 s.2.2.2.2.2.2))]
def g6_p5_er (r:g6_p5_O):Ex × Fr:=((.exit 2),[(13,(V.i .i64 r.1)),(14,(V.i .i64 r.2.1)),(15,(V.sl r.2.2.1)),(16,(V.sl r.2.2.2.1)),(17,(V.sl r.2.2.2.2.1)),(18,(V.sl r.2.2.2.2.2))])
noncomputable def g6_p5_b (s:g6_p5_S) (H:Heap):Option (Rd g6_p5_S g6_p5_O × Heap) :=
  g6_p4 _ s.1 s.2.1 s.2.2.1 s.2.2.2.1 s.2.2.2.2.1 s.2.2.2.2.2.1 s.2.2.2.2.2.2 H (fun t13 t14 t15 t16 t17 t18 t19 H=>some (.go (t13,t14,t15,t16,t17,t18,t19),H)) (fun t13 t14 t15 t16 t17 t18 H=>some (.up (t13,t14,t15,t16,t17,t18),H))
noncomputable def g6_p5 (R:Type) (t13:Int) (t14:Int) (t15:Sl) (t16:Sl) (t17:Sl) (t18:Sl) (t19:Int) (H:Heap) (kE2:Int→Int→Sl→Sl→Sl→Sl→Heap→Option R):Option R :=
  (tlim (g6_p5_b) (t13,t14,t15,t16,t17,t18,t19) H).bind fun p=>kE2 p.1.1 p.1.2.1 p.1.2.2.1 p.1.2.2.2.1 p.1.2.2.2.2.1 p.1.2.2.2.2.2 p.2
theorem g6_p5_lin {R S:Type} {k:S→Option R} {t13:Int} {t14:Int} {t15:Sl} {t16:Sl} {t17:Sl} {t18:Sl} {t19:Int} {H:Heap} {fkE2:Int→Int→Sl→Sl→Sl→Sl→Heap→Option R} {gkE2:Int→Int→Sl→Sl→Sl→Sl→Heap→Option S} (hkE2:∀ t13 t14 t15 t16 t17 t18 H,fkE2 t13 t14 t15 t16 t17 t18 H = (gkE2 t13 t14 t15 t16 t17 t18 H).bind k):g6_p5 R t13 t14 t15 t16 t17 t18 t19 H fkE2 = (g6_p5 S t13 t14 t15 t16 t17 t18 t19 H gkE2).bind k:=by
  exact bl fun p=>hkE2 _ _ _ _ _ _ _
theorem g6_p5_eq {R:Type} (t13:Int) (t14:Int) (t15:Sl) (t16:Sl) (t17:Sl) (t18:Sl) (t19:Int) (H:Heap) (K:Ex→Fr→Heap→Option R):ev2 Try.prog (E6) loopLim lv6 Try.f6.ntmps kp6 c6_1 [(13,(V.i .i64 t13)),(14,(V.i .i64 t14)),(15,(V.sl t15)),(16,(V.sl t16)),(17,(V.sl t17)),(18,(V.sl t18)),(19,(V.i .i64 t19))] H K = g6_p5 R t13 t14 t15 t16 t17 t18 t19 H (fun t13 t14 t15 t16 t17 t18 H=>K (.exit 2) [(13,(V.i .i64 t13)),(14,(V.i .i64 t14)),(15,(V.sl t15)),(16,(V.sl t16)),(17,(V.sl t17)),(18,(V.sl t18))] H):=by
  delta c6_1
  delta g6_p5
  refine (ev2_tlim (b:=g6_p5_b) (es:=g6_p5_es) (er:=g6_p5_er) (by intro r; exact nofun) (fun s H=>?_) (t13,t14,t15,t16,t17,t18,t19) H K).trans (bc fun p=>rfl)
  exact (g6_p4_eq s.1 s.2.1 s.2.2.1 s.2.2.2.1 s.2.2.2.2.1 s.2.2.2.2.2.1 s.2.2.2.2.2.2 H ret3).trans (g6_p4_lin (fun _ _ _ _ _ _ _ _=>rfl) (fun _ _ _ _ _ _ _=>rfl))
noncomputable def g6_p6 (R:Type) (t13:Int) (t14:Int) (t15:Sl) (t16:Sl) (t17:Sl) (t18:Sl) (t19:Int) (H:Heap) (kN:Int→Int→Sl→Sl→Sl→Sl→Heap→Option R):Option R :=
  g6_p5 R t13 t14 t15 t16 t17 t18 t19 H (fun t13 t14 t15 t16 t17 t18 H=>kN t13 t14 t15 t16 t17 t18 H)
theorem g6_p6_lin {R S:Type} {k:S→Option R} {t13:Int} {t14:Int} {t15:Sl} {t16:Sl} {t17:Sl} {t18:Sl} {t19:Int} {H:Heap} {fkN:Int→Int→Sl→Sl→Sl→Sl→Heap→Option R} {gkN:Int→Int→Sl→Sl→Sl→Sl→Heap→Option S} (hkN:∀ t13 t14 t15 t16 t17 t18 H,fkN t13 t14 t15 t16 t17 t18 H = (gkN t13 t14 t15 t16 t17 t18 H).bind k):g6_p6 R t13 t14 t15 t16 t17 t18 t19 H fkN = (g6_p6 S t13 t14 t15 t16 t17 t18 t19 H gkN).bind k:=by
  exact g6_p5_lin (fun _ _ _ _ _ _ _=>hkN _ _ _ _ _ _ _)
theorem g6_p6_eq {R:Type} (t13:Int) (t14:Int) (t15:Sl) (t16:Sl) (t17:Sl) (t18:Sl) (t19:Int) (H:Heap) (K:Ex→Fr→Heap→Option R):ev2 Try.prog (E6) loopLim lv6 Try.f6.ntmps kp6 c6_2 [(13,(V.i .i64 t13)),(14,(V.i .i64 t14)),(15,(V.sl t15)),(16,(V.sl t16)),(17,(V.sl t17)),(18,(V.sl t18)),(19,(V.i .i64 t19))] H K = g6_p6 R t13 t14 t15 t16 t17 t18 t19 H (fun t13 t14 t15 t16 t17 t18 H=>K .normal [(13,(V.i .i64 t13)),(14,(V.i .i64 t14)),(15,(V.sl t15)),(16,(V.sl t16)),(17,(V.sl t17)),(18,(V.sl t18))] H):=by
  delta c6_2
  rw [ev2_block]
  delta g6_p6
  exact (g6_p5_eq t13 t14 t15 t16 t17 t18 t19 H (kBlock kp6 2 K))
noncomputable def g6_p7 (R:Type) (t13:Int) (t14:Int) (t15:Sl) (t16:Sl) (t17:Sl) (t18:Sl) (H:Heap) (kN:Int→Int→Heap→Option R) (kR:Bool→Heap→Option R):Option R :=
  g3 R t15 t16 (IntKind.wrap .u8 t14) H fun x114 h115 =>
  sel (!x114) (
    kR false h115) (
    g4 R t15 t18 (IntKind.wrap .u8 t14) h115 fun x116 h117 =>
    sel (!x116) (
      kR false h117) (
      g5 R t17 (IntKind.wrap .u8 t14) h117 fun x118 h119 =>
      sel (!x118) (
        kR false h119) (
        kN t13 t14 h119)))
theorem g6_p7_eq {R:Type} (t13:Int) (t14:Int) (t15:Sl) (t16:Sl) (t17:Sl) (t18:Sl) (H:Heap) (K:Ex→Fr→Heap→Option R):ev2 Try.prog (E6) loopLim lv6 Try.f6.ntmps kp6 c6_3 [(13,(V.i .i64 t13)),(14,(V.i .i64 t14)),(15,(V.sl t15)),(16,(V.sl t16)),(17,(V.sl t17)),(18,(V.sl t18))] H K = g6_p7 R t13 t14 t15 t16 t17 t18 H (fun t13 t14 H=>K .normal [(13,(V.i .i64 t13)),(14,(V.i .i64 t14))] H) (fun t0 H=>K .ret [(0,(V.b t0))] H):=by kernel_rfl
theorem g6_p7_lin {R S:Type} {k:S→Option R} {t13:Int} {t14:Int} {t15:Sl} {t16:Sl} {t17:Sl} {t18:Sl} {H:Heap} {fkN:Int→Int→Heap→Option R} {gkN:Int→Int→Heap→Option S} {fkR:Bool→Heap→Option R} {gkR:Bool→Heap→Option S} (hkN:∀ t13 t14 H,fkN t13 t14 H = (gkN t13 t14 H).bind k) (hkR:∀ t0 H,fkR t0 H = (gkR t0 H).bind k):g6_p7 R t13 t14 t15 t16 t17 t18 H fkN fkR = (g6_p7 S t13 t14 t15 t16 t17 t18 H gkN gkR).bind k:=by
  delta g6_p7; exact (
    g3_lin.l fun x114 h115 =>
    sl_lin (
      hkR _ _) (
      g4_lin.l fun x116 h117 =>
      sl_lin (
        hkR _ _) (
        g5_lin.l fun x118 h119 =>
        sl_lin (
          hkR _ _) (
          hkN _ _ _))))
noncomputable def g6_p8 (R:Type) (t13:Int) (t14:Int) (t15:Sl) (t16:Sl) (t17:Sl) (t18:Sl) (t19:Int) (H:Heap) (kN:Int→Int→Heap→Option R) (kR:Bool→Heap→Option R):Option R :=
  g6_p6 R t13 t14 t15 t16 t17 t18 t19 H (fun t13 t14 t15 t16 t17 t18 H=>g6_p7 R t13 t14 t15 t16 t17 t18 H (fun t13 t14 H=>kN t13 t14 H) (fun t0 H=>kR t0 H))
theorem g6_p8_lin {R S:Type} {k:S→Option R} {t13:Int} {t14:Int} {t15:Sl} {t16:Sl} {t17:Sl} {t18:Sl} {t19:Int} {H:Heap} {fkN:Int→Int→Heap→Option R} {gkN:Int→Int→Heap→Option S} {fkR:Bool→Heap→Option R} {gkR:Bool→Heap→Option S} (hkN:∀ t13 t14 H,fkN t13 t14 H = (gkN t13 t14 H).bind k) (hkR:∀ t0 H,fkR t0 H = (gkR t0 H).bind k):g6_p8 R t13 t14 t15 t16 t17 t18 t19 H fkN fkR = (g6_p8 S t13 t14 t15 t16 t17 t18 t19 H gkN gkR).bind k:=by
  exact g6_p6_lin (fun _ _ _ _ _ _ _=>g6_p7_lin (fun _ _ _=>hkN _ _ _) (fun _ _=>hkR _ _))
theorem g6_p8_eq {R:Type} (t13:Int) (t14:Int) (t15:Sl) (t16:Sl) (t17:Sl) (t18:Sl) (t19:Int) (H:Heap) (K:Ex→Fr→Heap→Option R):ev2 Try.prog (E6) loopLim lv6 Try.f6.ntmps kp6 c6_4 [(13,(V.i .i64 t13)),(14,(V.i .i64 t14)),(15,(V.sl t15)),(16,(V.sl t16)),(17,(V.sl t17)),(18,(V.sl t18)),(19,(V.i .i64 t19))] H K = g6_p8 R t13 t14 t15 t16 t17 t18 t19 H (fun t13 t14 H=>K .normal [(13,(V.i .i64 t13)),(14,(V.i .i64 t14))] H) (fun t0 H=>K .ret [(0,(V.b t0))] H):=by
  delta c6_4
  rw [ev2_seq]
  delta g6_p8
  exact (g6_p6_eq t13 t14 t15 t16 t17 t18 t19 H (kSeq (fun fr H=>ev2 Try.prog (E6) loopLim lv6 Try.f6.ntmps kp6 c6_3 fr H K) K)).trans (congrArg (g6_p6 R t13 t14 t15 t16 t17 t18 t19 H) (funext fun t13=>funext fun t14=>funext fun t15=>funext fun t16=>funext fun t17=>funext fun t18=>funext fun H=>(kSeq_n _ _ _ _).trans (g6_p7_eq t13 t14 t15 t16 t17 t18 H K)))
noncomputable def g6_p9 (R:Type) (t13:Int) (t14:Int) (H:Heap) (kN:Int→Int→Heap→Option R) (kR:Bool→Heap→Option R):Option R :=
  g6_p3 R t13 t14 H (fun t13 t14 t15 t16 t17 t18 t19 H=>g6_p8 R t13 t14 t15 t16 t17 t18 t19 H (fun t13 t14 H=>kN t13 t14 H) (fun t0 H=>kR t0 H))
theorem g6_p9_lin {R S:Type} {k:S→Option R} {t13:Int} {t14:Int} {H:Heap} {fkN:Int→Int→Heap→Option R} {gkN:Int→Int→Heap→Option S} {fkR:Bool→Heap→Option R} {gkR:Bool→Heap→Option S} (hkN:∀ t13 t14 H,fkN t13 t14 H = (gkN t13 t14 H).bind k) (hkR:∀ t0 H,fkR t0 H = (gkR t0 H).bind k):g6_p9 R t13 t14 H fkN fkR = (g6_p9 S t13 t14 H gkN gkR).bind k:=by
  exact g6_p3_lin (fun _ _ _ _ _ _ _ _=>g6_p8_lin (fun _ _ _=>hkN _ _ _) (fun _ _=>hkR _ _))
theorem g6_p9_eq {R:Type} (t13:Int) (t14:Int) (H:Heap) (K:Ex→Fr→Heap→Option R):ev2 Try.prog (E6) loopLim lv6 Try.f6.ntmps kp6 c6_5 [(13,(V.i .i64 t13)),(14,(V.i .i64 t14))] H K = g6_p9 R t13 t14 H (fun t13 t14 H=>K .normal [(13,(V.i .i64 t13)),(14,(V.i .i64 t14))] H) (fun t0 H=>K .ret [(0,(V.b t0))] H):=by
  delta c6_5
  delta g6_p9
  exact (g6_p3_eq _ t13 t14 H K).trans (congrArg (g6_p3 R t13 t14 H) (funext fun t13=>funext fun t14=>funext fun t15=>funext fun t16=>funext fun t17=>funext fun t18=>funext fun t19=>funext fun H=>g6_p8_eq t13 t14 t15 t16 t17 t18 t19 H K))
noncomputable def g6_p10 (R:Type) (t13:Int) (t14:Int) (H:Heap) (kN:Int→Int→Heap→Option R) (kR:Bool→Heap→Option R):Option R :=
  g6_p9 R t13 t14 H (fun t13 t14 H=>kN t13 t14 H) (fun t0 H=>kR t0 H)
theorem g6_p10_lin {R S:Type} {k:S→Option R} {t13:Int} {t14:Int} {H:Heap} {fkN:Int→Int→Heap→Option R} {gkN:Int→Int→Heap→Option S} {fkR:Bool→Heap→Option R} {gkR:Bool→Heap→Option S} (hkN:∀ t13 t14 H,fkN t13 t14 H = (gkN t13 t14 H).bind k) (hkR:∀ t0 H,fkR t0 H = (gkR t0 H).bind k):g6_p10 R t13 t14 H fkN fkR = (g6_p10 S t13 t14 H gkN gkR).bind k:=by
  exact g6_p9_lin (fun _ _ _=>hkN _ _ _) (fun _ _=>hkR _ _)
theorem g6_p10_eq {R:Type} (t13:Int) (t14:Int) (H:Heap) (K:Ex→Fr→Heap→Option R):ev2 Try.prog (E6) loopLim lv6 Try.f6.ntmps kp6 c6_6 [(13,(V.i .i64 t13)),(14,(V.i .i64 t14))] H K = g6_p10 R t13 t14 H (fun t13 t14 H=>K .normal [(13,(V.i .i64 t13)),(14,(V.i .i64 t14))] H) (fun t0 H=>K .ret [(0,(V.b t0))] H):=by
  delta c6_6
  rw [ev2_block]
  delta g6_p10
  exact (g6_p9_eq t13 t14 H (kBlock kp6 1 K))
noncomputable def g6_p11 (R:Type) (t13:Int) (t14:Int) (H:Heap) (kN:Int→Int→Heap→Option R):Option R :=
  kN t13 (IntKind.wrap .i64 (t14 + (1:Int))) H
theorem g6_p11_eq {R:Type} (t13:Int) (t14:Int) (H:Heap) (K:Ex→Fr→Heap→Option R):ev2 Try.prog (E6) loopLim lv6 Try.f6.ntmps kp6 c6_7 [(13,(V.i .i64 t13)),(14,(V.i .i64 t14))] H K = g6_p11 R t13 t14 H (fun t13 t14 H=>K .normal [(13,(V.i .i64 t13)),(14,(V.i .i64 t14))] H):=by kernel_rfl
theorem g6_p11_lin {R S:Type} {k:S→Option R} {t13:Int} {t14:Int} {H:Heap} {fkN:Int→Int→Heap→Option R} {gkN:Int→Int→Heap→Option S} (hkN:∀ t13 t14 H,fkN t13 t14 H = (gkN t13 t14 H).bind k):g6_p11 R t13 t14 H fkN = (g6_p11 S t13 t14 H gkN).bind k:=by
  delta g6_p11; exact (
    hkN _ _ _)
noncomputable def g6_p12 (R:Type) (t13:Int) (t14:Int) (H:Heap) (kN:Int→Int→Heap→Option R) (kR:Bool→Heap→Option R):Option R :=
  g6_p10 R t13 t14 H (fun t13 t14 H=>g6_p11 R t13 t14 H (fun t13 t14 H=>kN t13 t14 H)) (fun t0 H=>kR t0 H)
theorem g6_p12_lin {R S:Type} {k:S→Option R} {t13:Int} {t14:Int} {H:Heap} {fkN:Int→Int→Heap→Option R} {gkN:Int→Int→Heap→Option S} {fkR:Bool→Heap→Option R} {gkR:Bool→Heap→Option S} (hkN:∀ t13 t14 H,fkN t13 t14 H = (gkN t13 t14 H).bind k) (hkR:∀ t0 H,fkR t0 H = (gkR t0 H).bind k):g6_p12 R t13 t14 H fkN fkR = (g6_p12 S t13 t14 H gkN gkR).bind k:=by
  exact g6_p10_lin (fun _ _ _=>g6_p11_lin (fun _ _ _=>hkN _ _ _)) (fun _ _=>hkR _ _)
theorem g6_p12_eq {R:Type} (t13:Int) (t14:Int) (H:Heap) (K:Ex→Fr→Heap→Option R):ev2 Try.prog (E6) loopLim lv6 Try.f6.ntmps kp6 c6_8 [(13,(V.i .i64 t13)),(14,(V.i .i64 t14))] H K = g6_p12 R t13 t14 H (fun t13 t14 H=>K .normal [(13,(V.i .i64 t13)),(14,(V.i .i64 t14))] H) (fun t0 H=>K .ret [(0,(V.b t0))] H):=by
  delta c6_8
  rw [ev2_seq]
  delta g6_p12
  exact (g6_p10_eq t13 t14 H (kSeq (fun fr H=>ev2 Try.prog (E6) loopLim lv6 Try.f6.ntmps kp6 c6_7 fr H K) K)).trans (congr (congrArg (g6_p10 R t13 t14 H) (funext fun t13=>funext fun t14=>funext fun H=>(kSeq_n _ _ _ _).trans (g6_p11_eq t13 t14 H K))) rfl)
noncomputable def g6_p13 (R:Type) (t13:Int) (t14:Int) (H:Heap) (kN:Int→Int→Heap→Option R) (kE0:Heap→Option R) (kR:Bool→Heap→Option R):Option R :=
  g6_p2 R t13 t14 H (fun t13 t14 H=>g6_p12 R t13 t14 H (fun t13 t14 H=>kN t13 t14 H) (fun t0 H=>kR t0 H)) (fun H=>kE0  H)
theorem g6_p13_lin {R S:Type} {k:S→Option R} {t13:Int} {t14:Int} {H:Heap} {fkN:Int→Int→Heap→Option R} {gkN:Int→Int→Heap→Option S} {fkE0:Heap→Option R} {gkE0:Heap→Option S} {fkR:Bool→Heap→Option R} {gkR:Bool→Heap→Option S} (hkN:∀ t13 t14 H,fkN t13 t14 H = (gkN t13 t14 H).bind k) (hkE0:∀ H,fkE0 H = (gkE0 H).bind k) (hkR:∀ t0 H,fkR t0 H = (gkR t0 H).bind k):g6_p13 R t13 t14 H fkN fkE0 fkR = (g6_p13 S t13 t14 H gkN gkE0 gkR).bind k:=by
  exact g6_p2_lin (fun _ _ _=>g6_p12_lin (fun _ _ _=>hkN _ _ _) (fun _ _=>hkR _ _)) (fun _=>hkE0 _)
theorem g6_p13_eq {R:Type} (t13:Int) (t14:Int) (H:Heap) (K:Ex→Fr→Heap→Option R):ev2 Try.prog (E6) loopLim lv6 Try.f6.ntmps kp6 c6_9 [(13,(V.i .i64 t13)),(14,(V.i .i64 t14))] H K = g6_p13 R t13 t14 H (fun t13 t14 H=>K .normal [(13,(V.i .i64 t13)),(14,(V.i .i64 t14))] H) (fun H=>K (.exit 0) [] H) (fun t0 H=>K .ret [(0,(V.b t0))] H):=by
  delta c6_9
  delta g6_p13
  exact (g6_p2_eq _ t13 t14 H K).trans (congr (congrArg (g6_p2 R t13 t14 H) (funext fun t13=>funext fun t14=>funext fun H=>g6_p12_eq t13 t14 H K)) rfl)
abbrev g6_p14_S:=Int × Int
abbrev g6_p14_O:=Sum (Unit) (Bool)
def g6_p14_es (s:g6_p14_S):Fr:=[(13,(V.i .i64 s.1)),(14,(V.i .i64 s.2))]
def g6_p14_er:g6_p14_O→Ex × Fr
  | (.inl r)=>((.exit 0),[])
  | (.inr r)=>(.ret,[(0,(V.b r))])
noncomputable def g6_p14_b (s:g6_p14_S) (H:Heap):Option (Rd g6_p14_S g6_p14_O × Heap) :=
  g6_p13 _ s.1 s.2 H (fun t13 t14 H=>some (.go (t13,t14),H)) (fun H=>some (.up (.inl ()),H)) (fun t0 H=>some (.up (.inr t0),H))
noncomputable def g6_p14 (R:Type) (t13:Int) (t14:Int) (H:Heap) (kE0:Heap→Option R) (kR:Bool→Heap→Option R):Option R :=
  (tlim (g6_p14_b) (t13,t14) H).bind fun p=>cas p.1 (fun r=>kE0  p.2) (fun r0=>kR r0 p.2)
theorem g6_p14_eq {R:Type} (t13:Int) (t14:Int) (H:Heap) (K:Ex→Fr→Heap→Option R):ev2 Try.prog (E6) loopLim lv6 Try.f6.ntmps kp6 c6_10 [(13,(V.i .i64 t13)),(14,(V.i .i64 t14))] H K = g6_p14 R t13 t14 H (fun H=>K (.exit 0) [] H) (fun t0 H=>K .ret [(0,(V.b t0))] H):=by
  delta c6_10
  delta g6_p14
  refine (ev2_tlim (b:=g6_p14_b) (es:=g6_p14_es) (er:=g6_p14_er) (by rintro (r | r) <;> exact nofun) (fun s H=>?_) (t13,t14) H K).trans (bc fun p=>by rcases p with ⟨(r | r),H⟩ <;> rfl)
  exact (g6_p13_eq s.1 s.2 H ret3).trans (g6_p13_lin (fun _ _ _=>rfl) (fun _=>rfl) (fun _ _=>rfl))
noncomputable def g6_p15 (R:Type) (t13:Int) (t14:Int) (H:Heap) (kN:Heap→Option R) (kR:Bool→Heap→Option R):Option R :=
  g6_p14 R t13 t14 H (fun H=>kN  H) (fun t0 H=>kR t0 H)
theorem g6_p15_eq {R:Type} (t13:Int) (t14:Int) (H:Heap) (K:Ex→Fr→Heap→Option R):ev2 Try.prog (E6) loopLim lv6 Try.f6.ntmps kp6 c6_11 [(13,(V.i .i64 t13)),(14,(V.i .i64 t14))] H K = g6_p15 R t13 t14 H (fun H=>K .normal [] H) (fun t0 H=>K .ret [(0,(V.b t0))] H):=by
  delta c6_11
  rw [ev2_block]
  delta g6_p15
  exact (g6_p14_eq t13 t14 H (kBlock kp6 0 K))
noncomputable def g6_p16 (R:Type) (H:Heap) (kR:Bool→Heap→Option R):Option R :=
  g17 R H fun x120 h121 =>
  sel x120 (
    g9 R h121 fun x122 h123 =>
    kR x122 h123) (
    kR false h121)
theorem g6_p16_eq {R:Type} (H:Heap) (K:Ex→Fr→Heap→Option R):ev2 Try.prog (E6) loopLim lv6 Try.f6.ntmps kp6 c6_12 [] H K = g6_p16 R H (fun t0 H=>K .ret [(0,(V.b t0))] H):=by kernel_rfl
noncomputable def g6_p17 (R:Type) (t13:Int) (t14:Int) (H:Heap) (kR:Bool→Heap→Option R):Option R :=
  g6_p15 R t13 t14 H (fun H=>g6_p16 R H (fun t0 H=>kR t0 H)) (fun t0 H=>kR t0 H)
theorem g6_p17_eq {R:Type} (t13:Int) (t14:Int) (H:Heap) (K:Ex→Fr→Heap→Option R):ev2 Try.prog (E6) loopLim lv6 Try.f6.ntmps kp6 c6_13 [(13,(V.i .i64 t13)),(14,(V.i .i64 t14))] H K = g6_p17 R t13 t14 H (fun t0 H=>K .ret [(0,(V.b t0))] H):=by
  delta c6_13
  rw [ev2_seq]
  delta g6_p17
  exact (g6_p15_eq t13 t14 H (kSeq (fun fr H=>ev2 Try.prog (E6) loopLim lv6 Try.f6.ntmps kp6 c6_12 fr H K) K)).trans (congr (congrArg (g6_p15 R t13 t14 H) (funext fun H=>(kSeq_n _ _ _ _).trans (g6_p16_eq H K))) rfl)
noncomputable def g6_p18 (R:Type) (t73:Bool) (H:Heap) (kR:Bool→Heap→Option R):Option R :=
  g6_p1 R t73 H (fun t13 t14 H=>g6_p17 R t13 t14 H (fun t0 H=>kR t0 H)) (fun t0 H=>kR t0 H)
theorem g6_p18_eq {R:Type} (t73:Bool) (H:Heap) (K:Ex→Fr→Heap→Option R):ev2 Try.prog (E6) loopLim lv6 Try.f6.ntmps kp6 c6_14 [(73,(V.b t73))] H K = g6_p18 R t73 H (fun t0 H=>K .ret [(0,(V.b t0))] H):=by
  delta c6_14
  delta g6_p18
  exact (g6_p1_eq _ t73 H K).trans (congr (congrArg (g6_p1 R t73 H) (funext fun t13=>funext fun t14=>funext fun H=>g6_p17_eq t13 t14 H K)) rfl)
noncomputable def g6_p19 (R:Type) (H:Heap) (kR:Bool→Heap→Option R):Option R :=
  g6_p0 R H (fun t73 H=>g6_p18 R t73 H (fun t0 H=>kR t0 H))
theorem g6_p19_eq {R:Type} (H:Heap) (K:Ex→Fr→Heap→Option R):ev2 Try.prog (E6) loopLim lv6 Try.f6.ntmps kp6 c6_15 [] H K = g6_p19 R H (fun t0 H=>K .ret [(0,(V.b t0))] H):=by
  delta c6_15
  delta g6_p19
  exact (g6_p0_eq _ H K).trans (congrArg (g6_p0 R H) (funext fun t73=>funext fun H=>g6_p18_eq t73 H K))
noncomputable def g6_r:T6:=fun R H K =>
  g6_p19 R H (fun t0 H =>
    K t0 H)
theorem g6_fn {R:Type} (H:Heap) (K:V→Heap→Option R):evFn2 Try.prog (E6) loopLim lv6 Try.f6 kp6 [] H K = g6_r R H (fun r0 H=>K (V.b r0) H):=by
  have h0 : ∀ (t0 : Bool) (H : Heap), kFn2 Try.prog Try.f6.results.toList K .ret [(0, (V.b t0))] H =
      K (V.b t0) H:=by intros; kernel_rfl
  have e0:=evFn2_code2 (P:=Try.prog) (c:=c6_15) (E:=(E6)) (lr:=loopLim) (lv:=lv6) (kp:=kp6) (fn:=Try.f6) (args:=[]) H K (by kernel_rfl) (Nat.le_of_ble_eq_true (by kernel_rfl)) (by kernel_rfl) (by kernel_rfl)
  have e1:ev2 Try.prog (E6) loopLim lv6 Try.f6.ntmps kp6 c6_15 (argFr 0 []) H (kFn2 Try.prog Try.f6.results.toList K) = ev2 Try.prog (E6) loopLim lv6 Try.f6.ntmps kp6 c6_15 [] H (kFn2 Try.prog Try.f6.results.toList K):=by kernel_rfl
  refine (e0.trans e1).trans ?_
  delta g6_r
  exact (g6_p19_eq H (kFn2 Try.prog Try.f6.results.toList K)).trans (congrArg (g6_p19 R H) (funext fun t0=>funext fun H=>h0 t0 H))
noncomputable def g6:T6:=g6_r
end Go.Proofs.Ytobebcfkddimkaa

