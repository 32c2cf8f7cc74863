/- Printed: functions as the machine runs them. -/
import Derived.Test.YtobebcfkddimkaaGH1
namespace Go.Proofs.Ytobebcfkddimkaa
open Go AM Go.RowKit
set_option linter.unusedVariables false
def kp5:Nat→Option (List Nat):=kpOf [(0,[0,1]),(1,[0,1,22]),(2,[4]),(3,[0,5]),(4,[0,5,6,7]),(5,[0,5,6,34]),(6,[4]),(7,[0,5,6,8]),(8,[0,5,6,8,9]),(9,[0,5,6,8,9,10]),(10,[0,5,6,8,9,10,38]),(11,[0,5,6,8,9,10]),(12,[0,5,6,8,9,10,11,500011,1000011]),(13,[0,5,6,8,9,10,11,49,500011,1000011]),(14,[4]),(15,[0,5,6,8,9,10,11,52,500011,1000011]),(16,[0,5,6,8,9,10,12]),(17,[0,5,6,8,9,10,12,13]),(18,[0,5,6,8,9,10,12,13,56]),(19,[0,5,6,8,9,10,12,13]),(20,[0,5,6,8,9,10,12,13]),(21,[0,5,6,8,9,10,12,13,72]),(22,[0,5,6,8,9,10,12,13]),(23,[0,5,6,8,9,10,12,13]),(24,[0,5,6,8,9,10]),(25,[0,5,6,8,10,106]),(26,[4]),(27,[0,5,6,8,9,10]),(28,[0,5,6,8,9,10,11,14,15,16,500011,1000011]),(29,[0,5,6,8,9,10,11,14,15,16,500011,1000011]),(30,[0,5,6,8,9,10,11,14,15,16,500011,1000011]),(31,[0,5,6,8,9,10,11,14,15,16,500011,1000011]),(32,[0,5,6,8,9,10,14,15,16,17,18,19]),(33,[0,5,6,8,9,10,151]),(34,[4]),(35,[4]),(100000,[]),(100001,[0,5,6,8,9,10]),(100002,[0,5,6,9,10,12]),(100003,[0,5,6,8,9,10,12,13]),(200000,[0,5,6,8,9,10]),(200001,[0,5,6,8,9,10]),(200002,[0,5,6,8,9,10,12,13]),(200003,[0,5,6,8,9,10,12,13]),(300000,[4]),(400022,[0,1]),(400034,[0,5,6]),(400038,[0,5,6,8,9,10]),(400049,[0,5,6,8,9,10,11,500011,1000011]),(400052,[0,5,6,8,9,10,11,500011,1000011]),(400056,[0,5,6,8,9,10,12,13]),(400072,[0,5,6,8,9,10,12,13]),(400106,[0,5,6,8,10]),(400151,[0,5,6,8,9,10])]
noncomputable def E5:FEnv:=[(9,w9 g9),(10,w10 g10),(11,w11 g11),(15,w15 g15),(14,w14 g14),(13,w13 g13),(16,w16 g16)]
theorem E5_good:EnvGood Try.prog (E5):=((((((((EnvGood.nil _).cons ok16 (w16_lin g16_lin)).cons ok13 (w13_lin g13_lin)).cons ok14 (w14_lin g14_lin)).cons ok15 (w15_lin g15_lin)).cons ok11 (w11_lin g11_lin)).cons ok10 (w10_lin g10_lin)).cons ok9 (w9_lin g9_lin))
def lv5:Nat→Bool:=lvOf [11]
noncomputable def b5:Code:=Try.f5.body.getD .skip
noncomputable def c5_0:Code:=(.seq (codeAt [1,1,1,1,1,1,1,0,1,0,0,1,0,0,1,1,0,1,0,1,0,1,0,0,0,0] b5) (.seq (.cond (.tmp 56) .skip (.exit 2)) (.seq (.block 3 (.seq (codeAt [1,1,1,1,1,1,1,0,1,0,0,1,0,0,1,1,0,1,0,1,0,1,0,0,1,0,0,0] b5) (.seq (codeAt [1,1,1,1,1,1,1,0,1,0,0,1,0,0,1,1,0,1,0,1,0,1,0,0,1,0,0,1,0] b5) (.cond (.tmp 72) (codeAt [1,1,1,1,1,1,1,0,1,0,0,1,0,0,1,1,0,1,0,1,0,1,0,0,1,0,0,1,1,0] b5) (codeAt [1,1,1,1,1,1,1,0,1,0,0,1,0,0,1,1,0,1,0,1,0,1,0,0,1,0,0,1,1,1] b5))))) (codeAt [1,1,1,1,1,1,1,0,1,0,0,1,0,0,1,1,0,1,0,1,0,1,0,0,1,1] b5))))
noncomputable def c5_1:Code:=(.loop c5_0)
noncomputable def c5_2:Code:=(.block 2 c5_1)
noncomputable def c5_3:Code:=(.seq (codeAt [1,1,1,1,1,1,1,0,1,0,0,1,0,0,1,1,0,1,0,1,1,0] b5) (.seq (codeAt [1,1,1,1,1,1,1,0,1,0,0,1,0,0,1,1,0,1,0,1,1,1,0,0] b5) (.seq (.cond (.tmp 106) (.seq (codeAt [1,1,1,1,1,1,1,0,1,0,0,1,0,0,1,1,0,1,0,1,1,1,0,1,0,0] b5) .ret) .skip) (.seq (codeAt [1,1,1,1,1,1,1,0,1,0,0,1,0,0,1,1,0,1,0,1,1,1,1,0] b5) (.exit 1)))))
noncomputable def c5_4:Code:=(.seq c5_2 c5_3)
noncomputable def c5_5:Code:=(.seq (codeAt [1,1,1,1,1,1,1,0,1,0,0,1,0,0,1,1,0,1,0,0] b5) (.seq (codeAt [1,1,1,1,1,1,1,0,1,0,0,1,0,0,1,1,0,1,0,1,0,0] b5) c5_4))
noncomputable def c5_6:Code:=.skip
noncomputable def c5_7:Code:=(.cond (.tmp 52) c5_5 c5_6)
noncomputable def c5_8:Code:=(.seq (codeAt [1,1,1,1,1,1,1,0,1,0,0,1,0,0,1,1,1,0] b5) (.seq (codeAt [1,1,1,1,1,1,1,0,1,0,0,1,0,0,1,1,1,1,0] b5) (.seq (codeAt [1,1,1,1,1,1,1,0,1,0,0,1,0,0,1,1,1,1,1,0] b5) (.seq (codeAt [1,1,1,1,1,1,1,0,1,0,0,1,0,0,1,1,1,1,1,1,0] b5) (.seq (codeAt [1,1,1,1,1,1,1,0,1,0,0,1,0,0,1,1,1,1,1,1,1,0] b5) (.seq (codeAt [1,1,1,1,1,1,1,0,1,0,0,1,0,0,1,1,1,1,1,1,1,1,0] b5) (.cond (.tmp 151) (.seq (codeAt [1,1,1,1,1,1,1,0,1,0,0,1,0,0,1,1,1,1,1,1,1,1,1,0,0] b5) .ret) .skip)))))))
noncomputable def c5_9:Code:=(.seq c5_7 c5_8)
noncomputable def c5_10:Code:=(.seq (codeAt [1,1,1,1,1,1,1,0,1,0,0,1,0,0,0] b5) (.seq (codeAt [1,1,1,1,1,1,1,0,1,0,0,1,0,0,1,0,0] b5) (.seq (.cond (.tmp 49) (.seq (codeAt [1,1,1,1,1,1,1,0,1,0,0,1,0,0,1,0,1,0,0] b5) .ret) .skip) (.seq (codeAt [1,1,1,1,1,1,1,0,1,0,0,1,0,0,1,1,0,0] b5) c5_9))))
noncomputable def c5_11:Code:=(.block 1 c5_10)
noncomputable def c5_12:Code:=(codeAt [1,1,1,1,1,1,1,0,1,0,0,1,1] b5)
noncomputable def c5_13:Code:=(.seq c5_11 c5_12)
noncomputable def c5_14:Code:=(.seq (codeAt [1,1,1,1,1,1,1,0,1,0,0,0,0] b5) (.seq (.cond (.tmp 38) .skip (.exit 0)) c5_13))
noncomputable def c5_15:Code:=(.loop c5_14)
noncomputable def c5_16:Code:=(.block 0 c5_15)
noncomputable def c5_17:Code:=(.seq (codeAt [1,1,1,1,1,1,1,1,0] b5) .ret)
noncomputable def c5_18:Code:=(.seq c5_16 c5_17)
noncomputable def c5_19:Code:=(.seq (codeAt [0] b5) (.seq (codeAt [1,0,0] b5) (.seq (.cond (.tmp 22) (.seq (codeAt [1,0,1,0,0] b5) .ret) .skip) (.seq (codeAt [1,1,0] b5) (.seq (codeAt [1,1,1,0] b5) (.seq (codeAt [1,1,1,1,0,0] b5) (.seq (.cond (.tmp 34) (.seq (codeAt [1,1,1,1,0,1,0,0] b5) .ret) .skip) (.seq (codeAt [1,1,1,1,1,0] b5) (.seq (codeAt [1,1,1,1,1,1,0] b5) (.seq (codeAt [1,1,1,1,1,1,1,0,0] b5) c5_18))))))))))
noncomputable def g5_p0 (R:Type) (t0:Sl) (t1:Int) (H:Heap) (kN:Sl→Int→Option (Nat × Nat)→Sl→Sl→Int→Heap→Option R) (kR:Bool→Heap→Option R):Option R :=
  sel (decide (((t0.len:Nat):Int) > (60:Int))) (
    g9 R H fun x30 h31 =>
    kR x30 h31) (
    g10 R (IntKind.wrap .i64 ((1:Int) + (IntKind.wrap .i64 (Int.tmod t1 (5:Int))))) H fun x32 x33 h34 =>
    sel (x33 != (0:Int)) (
      kR false h34) (
      kN t0 (IntKind.wrap .i64 ((1:Int) + (IntKind.wrap .i64 (Int.tmod t1 (5:Int))))) x32 (Sl.mk none 0 (.ex 0)) (Sl.mk none 0 (.ex 0)) (0:Int) h34))
theorem g5_p0_eq {R:Type} (c2:Code) (t0:Sl) (t1:Int) (H:Heap) (K:Ex→Fr→Heap→Option R):ev2 Try.prog (E5) loopLim lv5 Try.f5.ntmps kp5 (.seq (codeAt [0] b5) (.seq (codeAt [1,0,0] b5) (.seq (.cond (.tmp 22) (.seq (codeAt [1,0,1,0,0] b5) .ret) .skip) (.seq (codeAt [1,1,0] b5) (.seq (codeAt [1,1,1,0] b5) (.seq (codeAt [1,1,1,1,0,0] b5) (.seq (.cond (.tmp 34) (.seq (codeAt [1,1,1,1,0,1,0,0] b5) .ret) .skip) (.seq (codeAt [1,1,1,1,1,0] b5) (.seq (codeAt [1,1,1,1,1,1,0] b5) (.seq (codeAt [1,1,1,1,1,1,1,0,0] b5) c2)))))))))) [(0,(V.sl t0)),(1,(V.i .u8 t1))] H K = g5_p0 R t0 t1 H (fun t0 t5 t6 t8 t9 t10 H=>ev2 Try.prog (E5) loopLim lv5 Try.f5.ntmps kp5 c2 [(0,(V.sl t0)),(5,(V.i .i64 t5)),(6,(V.p t6)),(8,(V.sl t8)),(9,(V.sl t9)),(10,(V.i .i64 t10))] H K) (fun t4 H=>K .ret [(4,(V.b t4))] H):=by kernel_rfl
theorem g5_p0_lin {R S:Type} {k:S→Option R} {t0:Sl} {t1:Int} {H:Heap} {fkN:Sl→Int→Option (Nat × Nat)→Sl→Sl→Int→Heap→Option R} {gkN:Sl→Int→Option (Nat × Nat)→Sl→Sl→Int→Heap→Option S} {fkR:Bool→Heap→Option R} {gkR:Bool→Heap→Option S} (hkN:∀ t0 t5 t6 t8 t9 t10 H,fkN t0 t5 t6 t8 t9 t10 H = (gkN t0 t5 t6 t8 t9 t10 H).bind k) (hkR:∀ t4 H,fkR t4 H = (gkR t4 H).bind k):g5_p0 R t0 t1 H fkN fkR = (g5_p0 S t0 t1 H gkN gkR).bind k:=by
  delta g5_p0; exact (
    sl_lin (
      g9_lin.l fun x30 h31 =>
      hkR _ _) (
      g10_lin.l fun x32 x33 h34 =>
      sl_lin (
        hkR _ _) (
        hkN _ _ _ _ _ _ _)))
noncomputable def g5_p1 (R:Type) (t0:Sl) (t5:Int) (t6:Option (Nat × Nat)) (t8:Sl) (t9:Sl) (t10:Int) (H:Heap) (kN:Sl→Int→Option (Nat × Nat)→Sl→Sl→Int→Heap→Option R) (kE0:Heap→Option R):Option R :=
  sel (decide (t10 < ((t0.len:Nat):Int))) (
    kN t0 t5 t6 t8 t9 t10 H) (
    kE0 H)
theorem g5_p1_eq {R:Type} (c2:Code) (t0:Sl) (t5:Int) (t6:Option (Nat × Nat)) (t8:Sl) (t9:Sl) (t10:Int) (H:Heap) (K:Ex→Fr→Heap→Option R):ev2 Try.prog (E5) loopLim lv5 Try.f5.ntmps kp5 (.seq (codeAt [1,1,1,1,1,1,1,0,1,0,0,0,0] b5) (.seq (.cond (.tmp 38) .skip (.exit 0)) c2)) [(0,(V.sl t0)),(5,(V.i .i64 t5)),(6,(V.p t6)),(8,(V.sl t8)),(9,(V.sl t9)),(10,(V.i .i64 t10))] H K = g5_p1 R t0 t5 t6 t8 t9 t10 H (fun t0 t5 t6 t8 t9 t10 H=>ev2 Try.prog (E5) loopLim lv5 Try.f5.ntmps kp5 c2 [(0,(V.sl t0)),(5,(V.i .i64 t5)),(6,(V.p t6)),(8,(V.sl t8)),(9,(V.sl t9)),(10,(V.i .i64 t10))] H K) (fun H=>K (.exit 0) [] H):=by kernel_rfl
theorem g5_p1_lin {R S:Type} {k:S→Option R} {t0:Sl} {t5:Int} {t6:Option (Nat × Nat)} {t8:Sl} {t9:Sl} {t10:Int} {H:Heap} {fkN:Sl→Int→Option (Nat × Nat)→Sl→Sl→Int→Heap→Option R} {gkN:Sl→Int→Option (Nat × Nat)→Sl→Sl→Int→Heap→Option S} {fkE0:Heap→Option R} {gkE0:Heap→Option S} (hkN:∀ t0 t5 t6 t8 t9 t10 H,fkN t0 t5 t6 t8 t9 t10 H = (gkN t0 t5 t6 t8 t9 t10 H).bind k) (hkE0:∀ H,fkE0 H = (gkE0 H).bind k):g5_p1 R t0 t5 t6 t8 t9 t10 H fkN fkE0 = (g5_p1 S t0 t5 t6 t8 t9 t10 H gkN gkE0).bind k:=by
  delta g5_p1; exact (
    sl_lin (
      hkN _ _ _ _ _ _ _) (
      hkE0 _))
noncomputable def g5_p2 (R:Type) (t0:Sl) (t5:Int) (t6:Option (Nat × Nat)) (t8:Sl) (t9:Sl) (t10:Int) (H:Heap) (kN:Sl→Int→Option (Nat × Nat)→Sl→Sl→Int→Bool→Bool→Int→Int→Bool→Int→Sl→Heap→Option R) (kR:Bool→Heap→Option R):Option R :=
  if 0 ≤ t10∧t10 < ((t0.len:Nat):Int) then (
    (t0.a).bind fun q58 =>
    ((H).ldB q58.1 ((q58.2 + Int.toNat t10 * 6) + 0)).bind fun x59 =>
    ((H).ldI .u16 q58.1 ((q58.2 + Int.toNat t10 * 6) + 1)).bind fun x60 =>
    ((H).ldI .u32 q58.1 ((q58.2 + Int.toNat t10 * 6) + 2)).bind fun x61 =>
    ((H).ldB q58.1 ((q58.2 + Int.toNat t10 * 6) + 3)).bind fun x62 =>
    ((H).ldI .u8 q58.1 ((q58.2 + Int.toNat t10 * 6) + 4)).bind fun x63 =>
    ((H).ldSl q58.1 ((q58.2 + Int.toNat t10 * 6) + 5)).bind fun x64 =>
    sel (decide (((x64.len:Nat):Int) > (300:Int))) (
      g9 R H fun x65 h66 =>
      kR x65 h66) (
      kN t0 t5 t6 t8 t9 t10 x59 x59 x60 x61 x62 x63 x64 H))
  else (
    none)
theorem g5_p2_eq {R:Type} (c2:Code) (t0:Sl) (t5:Int) (t6:Option (Nat × Nat)) (t8:Sl) (t9:Sl) (t10:Int) (H:Heap) (K:Ex→Fr→Heap→Option R):ev2 Try.prog (E5) loopLim lv5 Try.f5.ntmps kp5 (.seq (codeAt [1,1,1,1,1,1,1,0,1,0,0,1,0,0,0] b5) (.seq (codeAt [1,1,1,1,1,1,1,0,1,0,0,1,0,0,1,0,0] b5) (.seq (.cond (.tmp 49) (.seq (codeAt [1,1,1,1,1,1,1,0,1,0,0,1,0,0,1,0,1,0,0] b5) .ret) .skip) (.seq (codeAt [1,1,1,1,1,1,1,0,1,0,0,1,0,0,1,1,0,0] b5) c2)))) [(0,(V.sl t0)),(5,(V.i .i64 t5)),(6,(V.p t6)),(8,(V.sl t8)),(9,(V.sl t9)),(10,(V.i .i64 t10))] H K = g5_p2 R t0 t5 t6 t8 t9 t10 H (fun t0 t5 t6 t8 t9 t10 t52 t500011_0 t500011_1 t500011_2 t500011_3 t500011_4 t500011_5 H=>ev2 Try.prog (E5) loopLim lv5 Try.f5.ntmps kp5 c2 [(0,(V.sl t0)),(5,(V.i .i64 t5)),(6,(V.p t6)),(8,(V.sl t8)),(9,(V.sl t9)),(10,(V.i .i64 t10)),(52,(V.b t52)),(500011,(V.agg [(V.b t500011_0),(V.i .u16 t500011_1),(V.i .u32 t500011_2),(V.b t500011_3),(V.i .u8 t500011_4),(V.sl t500011_5)])),(1000011,(V.p (some (11,0))))] H K) (fun t4 H=>K .ret [(4,(V.b t4))] H):=by kernel_rfl
theorem g5_p2_lin {R S:Type} {k:S→Option R} {t0:Sl} {t5:Int} {t6:Option (Nat × Nat)} {t8:Sl} {t9:Sl} {t10:Int} {H:Heap} {fkN:Sl→Int→Option (Nat × Nat)→Sl→Sl→Int→Bool→Bool→Int→Int→Bool→Int→Sl→Heap→Option R} {gkN:Sl→Int→Option (Nat × Nat)→Sl→Sl→Int→Bool→Bool→Int→Int→Bool→Int→Sl→Heap→Option S} {fkR:Bool→Heap→Option R} {gkR:Bool→Heap→Option S} (hkN:∀ t0 t5 t6 t8 t9 t10 t52 t500011_0 t500011_1 t500011_2 t500011_3 t500011_4 t500011_5 H,fkN t0 t5 t6 t8 t9 t10 t52 t500011_0 t500011_1 t500011_2 t500011_3 t500011_4 t500011_5 H = (gkN t0 t5 t6 t8 t9 t10 t52 t500011_0 t500011_1 t500011_2 t500011_3 t500011_4 t500011_5 H).bind k) (hkR:∀ t4 H,fkR t4 H = (gkR t4 H).bind k):g5_p2 R t0 t5 t6 t8 t9 t10 H fkN fkR = (g5_p2 S t0 t5 t6 t8 t9 t10 H gkN gkR).bind k:=by
  delta g5_p2; exact (
    il (
      bl fun q58 =>
      bl fun x59 =>
      bl fun x60 =>
      bl fun x61 =>
      bl fun x62 =>
      bl fun x63 =>
      bl fun x64 =>
      sl_lin (
        g9_lin.l fun x65 h66 =>
        hkR _ _) (
        hkN _ _ _ _ _ _ _ _ _ _ _ _ _ _)) (
      rfl))
noncomputable def g5_p3 (R:Type) (t0:Sl) (t5:Int) (t6:Option (Nat × Nat)) (t8:Sl) (t9:Sl) (t10:Int) (t52:Bool) (t500011_0:Bool) (t500011_1:Int) (t500011_2:Int) (t500011_3:Bool) (t500011_4:Int) (t500011_5:Sl) (H:Heap) (kN:Sl→Int→Option (Nat × Nat)→Sl→Sl→Int→Sl→Int→Heap→Option R):Option R :=
  kN t0 t5 t6 t8 t9 t10 (Sl.mk none 0 (.ex 0)) (0:Int) H
theorem g5_p3_eq {R:Type} (c2:Code) (t0:Sl) (t5:Int) (t6:Option (Nat × Nat)) (t8:Sl) (t9:Sl) (t10:Int) (t52:Bool) (t500011_0:Bool) (t500011_1:Int) (t500011_2:Int) (t500011_3:Bool) (t500011_4:Int) (t500011_5:Sl) (H:Heap) (K:Ex→Fr→Heap→Option R):ev2 Try.prog (E5) loopLim lv5 Try.f5.ntmps kp5 (.seq (codeAt [1,1,1,1,1,1,1,0,1,0,0,1,0,0,1,1,0,1,0,0] b5) (.seq (codeAt [1,1,1,1,1,1,1,0,1,0,0,1,0,0,1,1,0,1,0,1,0,0] b5) c2)) [(0,(V.sl t0)),(5,(V.i .i64 t5)),(6,(V.p t6)),(8,(V.sl t8)),(9,(V.sl t9)),(10,(V.i .i64 t10)),(52,(V.b t52)),(500011,(V.agg [(V.b t500011_0),(V.i .u16 t500011_1),(V.i .u32 t500011_2),(V.b t500011_3),(V.i .u8 t500011_4),(V.sl t500011_5)])),(1000011,(V.p (some (11,0))))] H K = g5_p3 R t0 t5 t6 t8 t9 t10 t52 t500011_0 t500011_1 t500011_2 t500011_3 t500011_4 t500011_5 H (fun t0 t5 t6 t8 t9 t10 t12 t13 H=>ev2 Try.prog (E5) loopLim lv5 Try.f5.ntmps kp5 c2 [(0,(V.sl t0)),(5,(V.i .i64 t5)),(6,(V.p t6)),(8,(V.sl t8)),(9,(V.sl t9)),(10,(V.i .i64 t10)),(12,(V.sl t12)),(13,(V.i .i64 t13))] H K):=by kernel_rfl
theorem g5_p3_lin {R S:Type} {k:S→Option R} {t0:Sl} {t5:Int} {t6:Option (Nat × Nat)} {t8:Sl} {t9:Sl} {t10:Int} {t52:Bool} {t500011_0:Bool} {t500011_1:Int} {t500011_2:Int} {t500011_3:Bool} {t500011_4:Int} {t500011_5:Sl} {H:Heap} {fkN:Sl→Int→Option (Nat × Nat)→Sl→Sl→Int→Sl→Int→Heap→Option R} {gkN:Sl→Int→Option (Nat × Nat)→Sl→Sl→Int→Sl→Int→Heap→Option S} (hkN:∀ t0 t5 t6 t8 t9 t10 t12 t13 H,fkN t0 t5 t6 t8 t9 t10 t12 t13 H = (gkN t0 t5 t6 t8 t9 t10 t12 t13 H).bind k):g5_p3 R t0 t5 t6 t8 t9 t10 t52 t500011_0 t500011_1 t500011_2 t500011_3 t500011_4 t500011_5 H fkN = (g5_p3 S t0 t5 t6 t8 t9 t10 t52 t500011_0 t500011_1 t500011_2 t500011_3 t500011_4 t500011_5 H gkN).bind k:=by
  delta g5_p3; exact (
    hkN _ _ _ _ _ _ _ _ _)
noncomputable def g5_p4 (R:Type) (t0:Sl) (t5:Int) (t6:Option (Nat × Nat)) (t8:Sl) (t9:Sl) (t10:Int) (t12:Sl) (t13:Int) (H:Heap) (kN:Sl→Int→Option (Nat × Nat)→Sl→Sl→Int→Sl→Int→Heap→Option R) (kE2:Sl→Int→Option (Nat × Nat)→Sl→Int→Sl→Heap→Option R):Option R :=
  sel (decide (t13 < ((t8.len:Nat):Int))) (
    if 0 ≤ t13∧t13 < ((t8.len:Nat):Int) then (
      (t8.a).bind fun q67 =>
      ((H).ldI .i64 q67.1 ((q67.2 + Int.toNat t13 * 5) + 4)).bind fun x68 =>
      if 0 ≤ t13∧t13 < ((t8.len:Nat):Int) then (
        (t8.a).bind fun q69 =>
        ((H).st q69.1 ((q69.2 + Int.toNat t13 * 5) + 4) (V.i .i64 (IntKind.wrap .i64 (x68 - (1:Int))))).bind fun h71 =>
        if 0 ≤ t13∧t13 < ((t8.len:Nat):Int) then (
          (t8.a).bind fun q72 =>
          ((h71).ldI .i64 q72.1 ((q72.2 + Int.toNat t13 * 5) + 4)).bind fun x73 =>
          sel (decide (x73 > (0:Int))) (
            if 0 ≤ t13∧t13 < ((t8.len:Nat):Int) then (
              (t8.a).bind fun q74 =>
              ((h71).ldI .u16 q74.1 ((q74.2 + Int.toNat t13 * 5) + 0)).bind fun x75 =>
              ((h71).ldI .u32 q74.1 ((q74.2 + Int.toNat t13 * 5) + 1)).bind fun x76 =>
              ((h71).ldS q74.1 ((q74.2 + Int.toNat t13 * 5) + 2)).bind fun x77 =>
              ((h71).ldI .i64 q74.1 ((q74.2 + Int.toNat t13 * 5) + 3)).bind fun x78 =>
              ((h71).ldI .i64 q74.1 ((q74.2 + Int.toNat t13 * 5) + 4)).bind fun x79 =>
              alo h71 (.cells [(V.i .u16 x75),(V.i .u32 x76),(V.s x77),(V.i .i64 x78),(V.i .i64 x79)] 55 false) fun i80 h81 =>
              ((slCells h81 5 (Sl.mk (some (i80,0)) 1 (.ex 1)))).bind fun vs84 =>
              appendV h81 55 5 40 t12 (Sl.mk (some (i80,0)) 1 (.ex 1)).len vs84 fun s82 h83 =>
              kN t0 t5 t6 t8 t9 t10 s82 (IntKind.wrap .i64 (t13 + (1:Int))) h83)
            else (
              none)) (
            if 0 ≤ t13∧t13 < ((t8.len:Nat):Int) then (
              (t8.a).bind fun q85 =>
              ((h71).ldI .u16 q85.1 ((q85.2 + Int.toNat t13 * 5) + 0)).bind fun x86 =>
              if 0 ≤ t13∧t13 < ((t8.len:Nat):Int) then (
                (t8.a).bind fun q87 =>
                ((h71).ldI .u32 q87.1 ((q87.2 + Int.toNat t13 * 5) + 1)).bind fun x88 =>
                alo h71 (.cells [(V.i .u16 x86),(V.i .u32 x88)] 57 false) fun i89 h90 =>
                ((slCells h90 2 (Sl.mk (some (i89,0)) 1 (.ex 1)))).bind fun vs93 =>
                appendV h90 57 2 8 t9 (Sl.mk (some (i89,0)) 1 (.ex 1)).len vs93 fun s91 h92 =>
                kN t0 t5 t6 t8 s91 t10 t12 (IntKind.wrap .i64 (t13 + (1:Int))) h92)
              else (
                none))
            else (
              none)))
        else (
          none))
      else (
        none))
    else (
      none)) (
    kE2 t0 t5 t6 t9 t10 t12 H)
theorem g5_p4_eq {R:Type} (t0:Sl) (t5:Int) (t6:Option (Nat × Nat)) (t8:Sl) (t9:Sl) (t10:Int) (t12:Sl) (t13:Int) (H:Heap) (K:Ex→Fr→Heap→Option R):ev2 Try.prog (E5) loopLim lv5 Try.f5.ntmps kp5 c5_0 [(0,(V.sl t0)),(5,(V.i .i64 t5)),(6,(V.p t6)),(8,(V.sl t8)),(9,(V.sl t9)),(10,(V.i .i64 t10)),(12,(V.sl t12)),(13,(V.i .i64 t13))] H K = g5_p4 R t0 t5 t6 t8 t9 t10 t12 t13 H (fun t0 t5 t6 t8 t9 t10 t12 t13 H=>K .normal [(0,(V.sl t0)),(5,(V.i .i64 t5)),(6,(V.p t6)),(8,(V.sl t8)),(9,(V.sl t9)),(10,(V.i .i64 t10)),(12,(V.sl t12)),(13,(V.i .i64 t13))] H) (fun t0 t5 t6 t9 t10 t12 H=>K (.exit 2) [(0,(V.sl t0)),(5,(V.i .i64 t5)),(6,(V.p t6)),(9,(V.sl t9)),(10,(V.i .i64 t10)),(12,(V.sl t12))] H):=by kernel_rfl
theorem g5_p4_lin {R S:Type} {k:S→Option R} {t0:Sl} {t5:Int} {t6:Option (Nat × Nat)} {t8:Sl} {t9:Sl} {t10:Int} {t12:Sl} {t13:Int} {H:Heap} {fkN:Sl→Int→Option (Nat × Nat)→Sl→Sl→Int→Sl→Int→Heap→Option R} {gkN:Sl→Int→Option (Nat × Nat)→Sl→Sl→Int→Sl→Int→Heap→Option S} {fkE2:Sl→Int→Option (Nat × Nat)→Sl→Int→Sl→Heap→Option R} {gkE2:Sl→Int→Option (Nat × Nat)→Sl→Int→Sl→Heap→Option S} (hkN:∀ t0 t5 t6 t8 t9 t10 t12 t13 H,fkN t0 t5 t6 t8 t9 t10 t12 t13 H = (gkN t0 t5 t6 t8 t9 t10 t12 t13 H).bind k) (hkE2:∀ t0 t5 t6 t9 t10 t12 H,fkE2 t0 t5 t6 t9 t10 t12 H = (gkE2 t0 t5 t6 t9 t10 t12 H).bind k):g5_p4 R t0 t5 t6 t8 t9 t10 t12 t13 H fkN fkE2 = (g5_p4 S t0 t5 t6 t8 t9 t10 t12 t13 H gkN gkE2).bind k:=by
  delta g5_p4
  repeat' (first | with_reducible (first | exact hkN _ _ _ _ _ _ _ _ _ | exact hkE2 _ _ _ _ _ _ _ | refine sl_lin ?_ ?_ | refine il ?_ ?_ | refine alo_lin fun _ _=>?_ | refine appendV_lin fun _ _=>?_ | refine bl fun _=>?_) | exact (rfl:(none:Option R) = (none:Option S).bind k))
abbrev g5_p5_S:=Sl × Int × (Option (Nat × Nat)) × Sl × Sl × Int × Sl × Int
abbrev g5_p5_O:=Sl × Int × (Option (Nat × Nat)) × Sl × Int × Sl
def g5_p5_es (s:g5_p5_S):Fr:=[(0,(V.sl s.1)),(5,(V.i .i64 s.2.1)),(6,(V.p s.2.2.1)),(8,(V.sl s.2.2.2.1)),(9,(V.sl s.2.2.2.2.1)),(10,(V.i .i64 s.2.2.2.2.2.1)),(12,(V.sl s.2.2.2.2.2.2.1)),(13,(V.i .i64 s.2.2.2.2.2.2.2))]
def g5_p5_er (r:g5_p5_O):Ex × Fr:=((.exit 2),[(0,(V.sl r.1)),(5,(V.i .i64 r.2.1)),(6,(V.p r.2.2.1)),(9,(V.sl r.2.2.2.1)),(10,(V.i .i64 r.2.2.2.2.1)),(12,(V.sl r.2.2.2.2.2))])
noncomputable def g5_p5_b (s:g5_p5_S) (H:Heap):Option (Rd g5_p5_S g5_p5_O × Heap) :=
  g5_p4 _ s.1 s.2.1 s.2.2.1 s.2.2.2.1 s.2.2.2.2.1 s.2.2.2.2.2.1 s.2.2.2.2.2.2.1 s.2.2.2.2.2.2.2 H (fun t0 t5 t6 t8 t9 t10 t12 t13 H=>some (.go (t0,t5,t6,t8,t9,t10,t12,t13),H)) (fun t0 t5 t6 t9 t10 t12 H=>some (.up (t0,t5,t6,t9,t10,t12),H))
noncomputable def g5_p5 (R:Type) (t0:Sl) (t5:Int) (t6:Option (Nat × Nat)) (t8:Sl) (t9:Sl) (t10:Int) (t12:Sl) (t13:Int) (H:Heap) (kE2:Sl→Int→Option (Nat × Nat)→Sl→Int→Sl→Heap→Option R):Option R :=
  (tlim (g5_p5_b) (t0,t5,t6,t8,t9,t10,t12,t13) H).bind fun p=>kE2 p.1.1 p.1.2.1 p.1.2.2.1 p.1.2.2.2.1 p.1.2.2.2.2.1 p.1.2.2.2.2.2 p.2
theorem g5_p5_lin {R S:Type} {k:S→Option R} {t0:Sl} {t5:Int} {t6:Option (Nat × Nat)} {t8:Sl} {t9:Sl} {t10:Int} {t12:Sl} {t13:Int} {H:Heap} {fkE2:Sl→Int→Option (Nat × Nat)→Sl→Int→Sl→Heap→Option R} {gkE2:Sl→Int→Option (Nat × Nat)→Sl→Int→Sl→Heap→Option S} (hkE2:∀ t0 t5 t6 t9 t10 t12 H,fkE2 t0 t5 t6 t9 t10 t12 H = (gkE2 t0 t5 t6 t9 t10 t12 H).bind k):g5_p5 R t0 t5 t6 t8 t9 t10 t12 t13 H fkE2 = (g5_p5 S t0 t5 t6 t8 t9 t10 t12 t13 H gkE2).bind k:=by
  exact bl fun p=>hkE2 _ _ _ _ _ _ _
theorem g5_p5_eq {R:Type} (t0:Sl) (t5:Int) (t6:Option (Nat × Nat)) (t8:Sl) (t9:Sl) (t10:Int) (t12:Sl) (t13:Int) (H:Heap) (K:Ex→Fr→Heap→Option R):ev2 Try.prog (E5) loopLim lv5 Try.f5.ntmps kp5 c5_1 [(0,(V.sl t0)),(5,(V.i .i64 t5)),(6,(V.p t6)),(8,(V.sl t8)),(9,(V.sl t9)),(10,(V.i .i64 t10)),(12,(V.sl t12)),(13,(V.i .i64 t13))] H K = g5_p5 R t0 t5 t6 t8 t9 t10 t12 t13 H (fun t0 t5 t6 t9 t10 t12 H=>K (.exit 2) [(0,(V.sl t0)),(5,(V.i .i64 t5)),(6,(V.p t6)),(9,(V.sl t9)),(10,(V.i .i64 t10)),(12,(V.sl t12))] H):=by
  delta c5_1
  delta g5_p5
  refine (ev2_tlim (b:=g5_p5_b) (es:=g5_p5_es) (er:=g5_p5_er) (by intro r; exact nofun) (fun s H=>?_) (t0,t5,t6,t8,t9,t10,t12,t13) H K).trans (bc fun p=>rfl)
  exact (g5_p4_eq s.1 s.2.1 s.2.2.1 s.2.2.2.1 s.2.2.2.2.1 s.2.2.2.2.2.1 s.2.2.2.2.2.2.1 s.2.2.2.2.2.2.2 H ret3).trans (g5_p4_lin (fun _ _ _ _ _ _ _ _ _=>rfl) (fun _ _ _ _ _ _ _=>rfl))
noncomputable def g5_p6 (R:Type) (t0:Sl) (t5:Int) (t6:Option (Nat × Nat)) (t8:Sl) (t9:Sl) (t10:Int) (t12:Sl) (t13:Int) (H:Heap) (kN:Sl→Int→Option (Nat × Nat)→Sl→Int→Sl→Heap→Option R):Option R :=
  g5_p5 R t0 t5 t6 t8 t9 t10 t12 t13 H (fun t0 t5 t6 t9 t10 t12 H=>kN t0 t5 t6 t9 t10 t12 H)
theorem g5_p6_lin {R S:Type} {k:S→Option R} {t0:Sl} {t5:Int} {t6:Option (Nat × Nat)} {t8:Sl} {t9:Sl} {t10:Int} {t12:Sl} {t13:Int} {H:Heap} {fkN:Sl→Int→Option (Nat × Nat)→Sl→Int→Sl→Heap→Option R} {gkN:Sl→Int→Option (Nat × Nat)→Sl→Int→Sl→Heap→Option S} (hkN:∀ t0 t5 t6 t9 t10 t12 H,fkN t0 t5 t6 t9 t10 t12 H = (gkN t0 t5 t6 t9 t10 t12 H).bind k):g5_p6 R t0 t5 t6 t8 t9 t10 t12 t13 H fkN = (g5_p6 S t0 t5 t6 t8 t9 t10 t12 t13 H gkN).bind k:=by
  exact g5_p5_lin (fun _ _ _ _ _ _ _=>hkN _ _ _ _ _ _ _)
theorem g5_p6_eq {R:Type} (t0:Sl) (t5:Int) (t6:Option (Nat × Nat)) (t8:Sl) (t9:Sl) (t10:Int) (t12:Sl) (t13:Int) (H:Heap) (K:Ex→Fr→Heap→Option R):ev2 Try.prog (E5) loopLim lv5 Try.f5.ntmps kp5 c5_2 [(0,(V.sl t0)),(5,(V.i .i64 t5)),(6,(V.p t6)),(8,(V.sl t8)),(9,(V.sl t9)),(10,(V.i .i64 t10)),(12,(V.sl t12)),(13,(V.i .i64 t13))] H K = g5_p6 R t0 t5 t6 t8 t9 t10 t12 t13 H (fun t0 t5 t6 t9 t10 t12 H=>K .normal [(0,(V.sl t0)),(5,(V.i .i64 t5)),(6,(V.p t6)),(9,(V.sl t9)),(10,(V.i .i64 t10)),(12,(V.sl t12))] H):=by
  delta c5_2
  rw [ev2_block]
  delta g5_p6
  exact (g5_p5_eq t0 t5 t6 t8 t9 t10 t12 t13 H (kBlock kp5 2 K))
noncomputable def g5_p7 (R:Type) (t0:Sl) (t5:Int) (t6:Option (Nat × Nat)) (t9:Sl) (t10:Int) (t12:Sl) (H:Heap) (kE1:Sl→Int→Option (Nat × Nat)→Sl→Sl→Int→Heap→Option R) (kR:Bool→Heap→Option R):Option R :=
  g11 R t6 H fun x94 h95 =>
  g15 R x94 t9 h95 fun x96 h97 =>
  sel (!x96) (
    kR false h97) (
    g14 R t6 h97 fun x98 h99 =>
    sel (x98 != ((t12.len:Nat):Int)) (
      kR false h99) (
      kE1 t0 t5 t6 t12 (Sl.mk none 0 (.ex 0)) t10 h99))
theorem g5_p7_eq {R:Type} (t0:Sl) (t5:Int) (t6:Option (Nat × Nat)) (t9:Sl) (t10:Int) (t12:Sl) (H:Heap) (K:Ex→Fr→Heap→Option R):ev2 Try.prog (E5) loopLim lv5 Try.f5.ntmps kp5 c5_3 [(0,(V.sl t0)),(5,(V.i .i64 t5)),(6,(V.p t6)),(9,(V.sl t9)),(10,(V.i .i64 t10)),(12,(V.sl t12))] H K = g5_p7 R t0 t5 t6 t9 t10 t12 H (fun t0 t5 t6 t8 t9 t10 H=>K (.exit 1) [(0,(V.sl t0)),(5,(V.i .i64 t5)),(6,(V.p t6)),(8,(V.sl t8)),(9,(V.sl t9)),(10,(V.i .i64 t10))] H) (fun t4 H=>K .ret [(4,(V.b t4))] H):=by kernel_rfl
theorem g5_p7_lin {R S:Type} {k:S→Option R} {t0:Sl} {t5:Int} {t6:Option (Nat × Nat)} {t9:Sl} {t10:Int} {t12:Sl} {H:Heap} {fkE1:Sl→Int→Option (Nat × Nat)→Sl→Sl→Int→Heap→Option R} {gkE1:Sl→Int→Option (Nat × Nat)→Sl→Sl→Int→Heap→Option S} {fkR:Bool→Heap→Option R} {gkR:Bool→Heap→Option S} (hkE1:∀ t0 t5 t6 t8 t9 t10 H,fkE1 t0 t5 t6 t8 t9 t10 H = (gkE1 t0 t5 t6 t8 t9 t10 H).bind k) (hkR:∀ t4 H,fkR t4 H = (gkR t4 H).bind k):g5_p7 R t0 t5 t6 t9 t10 t12 H fkE1 fkR = (g5_p7 S t0 t5 t6 t9 t10 t12 H gkE1 gkR).bind k:=by
  delta g5_p7; exact (
    g11_lin.l fun x94 h95 =>
    g15_lin.l fun x96 h97 =>
    sl_lin (
      hkR _ _) (
      g14_lin.l fun x98 h99 =>
      sl_lin (
        hkR _ _) (
        hkE1 _ _ _ _ _ _ _)))
noncomputable def g5_p8 (R:Type) (t0:Sl) (t5:Int) (t6:Option (Nat × Nat)) (t8:Sl) (t9:Sl) (t10:Int) (t12:Sl) (t13:Int) (H:Heap) (kE1:Sl→Int→Option (Nat × Nat)→Sl→Sl→Int→Heap→Option R) (kR:Bool→Heap→Option R):Option R :=
  g5_p6 R t0 t5 t6 t8 t9 t10 t12 t13 H (fun t0 t5 t6 t9 t10 t12 H=>g5_p7 R t0 t5 t6 t9 t10 t12 H (fun t0 t5 t6 t8 t9 t10 H=>kE1 t0 t5 t6 t8 t9 t10 H) (fun t4 H=>kR t4 H))
theorem g5_p8_lin {R S:Type} {k:S→Option R} {t0:Sl} {t5:Int} {t6:Option (Nat × Nat)} {t8:Sl} {t9:Sl} {t10:Int} {t12:Sl} {t13:Int} {H:Heap} {fkE1:Sl→Int→Option (Nat × Nat)→Sl→Sl→Int→Heap→Option R} {gkE1:Sl→Int→Option (Nat × Nat)→Sl→Sl→Int→Heap→Option S} {fkR:Bool→Heap→Option R} {gkR:Bool→Heap→Option S} (hkE1:∀ t0 t5 t6 t8 t9 t10 H,fkE1 t0 t5 t6 t8 t9 t10 H = (gkE1 t0 t5 t6 t8 t9 t10 H).bind k) (hkR:∀ t4 H,fkR t4 H = (gkR t4 H).bind k):g5_p8 R t0 t5 t6 t8 t9 t10 t12 t13 H fkE1 fkR = (g5_p8 S t0 t5 t6 t8 t9 t10 t12 t13 H gkE1 gkR).bind k:=by
  exact g5_p6_lin (fun _ _ _ _ _ _ _=>g5_p7_lin (fun _ _ _ _ _ _ _=>hkE1 _ _ _ _ _ _ _) (fun _ _=>hkR _ _))
theorem g5_p8_eq {R:Type} (t0:Sl) (t5:Int) (t6:Option (Nat × Nat)) (t8:Sl) (t9:Sl) (t10:Int) (t12:Sl) (t13:Int) (H:Heap) (K:Ex→Fr→Heap→Option R):ev2 Try.prog (E5) loopLim lv5 Try.f5.ntmps kp5 c5_4 [(0,(V.sl t0)),(5,(V.i .i64 t5)),(6,(V.p t6)),(8,(V.sl t8)),(9,(V.sl t9)),(10,(V.i .i64 t10)),(12,(V.sl t12)),(13,(V.i .i64 t13))] H K = g5_p8 R t0 t5 t6 t8 t9 t10 t12 t13 H (fun t0 t5 t6 t8 t9 t10 H=>K (.exit 1) [(0,(V.sl t0)),(5,(V.i .i64 t5)),(6,(V.p t6)),(8,(V.sl t8)),(9,(V.sl t9)),(10,(V.i .i64 t10))] H) (fun t4 H=>K .ret [(4,(V.b t4))] H):=by
  delta c5_4
  rw [ev2_seq]
  delta g5_p8
  exact (g5_p6_eq t0 t5 t6 t8 t9 t10 t12 t13 H (kSeq (fun fr H=>ev2 Try.prog (E5) loopLim lv5 Try.f5.ntmps kp5 c5_3 fr H K) K)).trans (congrArg (g5_p6 R t0 t5 t6 t8 t9 t10 t12 t13 H) (funext fun t0=>funext fun t5=>funext fun t6=>funext fun t9=>funext fun t10=>funext fun t12=>funext fun H=>(kSeq_n _ _ _ _).trans (g5_p7_eq t0 t5 t6 t9 t10 t12 H K)))
noncomputable def g5_p9 (R:Type) (t0:Sl) (t5:Int) (t6:Option (Nat × Nat)) (t8:Sl) (t9:Sl) (t10:Int) (t52:Bool) (t500011_0:Bool) (t500011_1:Int) (t500011_2:Int) (t500011_3:Bool) (t500011_4:Int) (t500011_5:Sl) (H:Heap) (kE1:Sl→Int→Option (Nat × Nat)→Sl→Sl→Int→Heap→Option R) (kR:Bool→Heap→Option R):Option R :=
  g5_p3 R t0 t5 t6 t8 t9 t10 t52 t500011_0 t500011_1 t500011_2 t500011_3 t500011_4 t500011_5 H (fun t0 t5 t6 t8 t9 t10 t12 t13 H=>g5_p8 R t0 t5 t6 t8 t9 t10 t12 t13 H (fun t0 t5 t6 t8 t9 t10 H=>kE1 t0 t5 t6 t8 t9 t10 H) (fun t4 H=>kR t4 H))
theorem g5_p9_lin {R S:Type} {k:S→Option R} {t0:Sl} {t5:Int} {t6:Option (Nat × Nat)} {t8:Sl} {t9:Sl} {t10:Int} {t52:Bool} {t500011_0:Bool} {t500011_1:Int} {t500011_2:Int} {t500011_3:Bool} {t500011_4:Int} {t500011_5:Sl} {H:Heap} {fkE1:Sl→Int→Option (Nat × Nat)→Sl→Sl→Int→Heap→Option R} {gkE1:Sl→Int→Option (Nat × Nat)→Sl→Sl→Int→Heap→Option S} {fkR:Bool→Heap→Option R} {gkR:Bool→Heap→Option S} (hkE1:∀ t0 t5 t6 t8 t9 t10 H,fkE1 t0 t5 t6 t8 t9 t10 H = (gkE1 t0 t5 t6 t8 t9 t10 H).bind k) (hkR:∀ t4 H,fkR t4 H = (gkR t4 H).bind k):g5_p9 R t0 t5 t6 t8 t9 t10 t52 t500011_0 t500011_1 t500011_2 t500011_3 t500011_4 t500011_5 H fkE1 fkR = (g5_p9 S t0 t5 t6 t8 t9 t10 t52 t500011_0 t500011_1 t500011_2 t500011_3 t500011_4 t500011_5 H gkE1 gkR).bind k:=by
  exact g5_p3_lin (fun _ _ _ _ _ _ _ _ _=>g5_p8_lin (fun _ _ _ _ _ _ _=>hkE1 _ _ _ _ _ _ _) (fun _ _=>hkR _ _))
theorem g5_p9_eq {R:Type} (t0:Sl) (t5:Int) (t6:Option (Nat × Nat)) (t8:Sl) (t9:Sl) (t10:Int) (t52:Bool) (t500011_0:Bool) (t500011_1:Int) (t500011_2:Int) (t500011_3:Bool) (t500011_4:Int) (t500011_5:Sl) (H:Heap) (K:Ex→Fr→Heap→Option R):ev2 Try.prog (E5) loopLim lv5 Try.f5.ntmps kp5 c5_5 [(0,(V.sl t0)),(5,(V.i .i64 t5)),(6,(V.p t6)),(8,(V.sl t8)),(9,(V.sl t9)),(10,(V.i .i64 t10)),(52,(V.b t52)),(500011,(V.agg [(V.b t500011_0),(V.i .u16 t500011_1),(V.i .u32 t500011_2),(V.b t500011_3),(V.i .u8 t500011_4),(V.sl t500011_5)])),(1000011,(V.p (some (11,0))))] H K = g5_p9 R t0 t5 t6 t8 t9 t10 t52 t500011_0 t500011_1 t500011_2 t500011_3 t500011_4 t500011_5 H (fun t0 t5 t6 t8 t9 t10 H=>K (.exit 1) [(0,(V.sl t0)),(5,(V.i .i64 t5)),(6,(V.p t6)),(8,(V.sl t8)),(9,(V.sl t9)),(10,(V.i .i64 t10))] H) (fun t4 H=>K .ret [(4,(V.b t4))] H):=by
  delta c5_5
  delta g5_p9
  exact (g5_p3_eq _ t0 t5 t6 t8 t9 t10 t52 t500011_0 t500011_1 t500011_2 t500011_3 t500011_4 t500011_5 H K).trans (congrArg (g5_p3 R t0 t5 t6 t8 t9 t10 t52 t500011_0 t500011_1 t500011_2 t500011_3 t500011_4 t500011_5 H) (funext fun t0=>funext fun t5=>funext fun t6=>funext fun t8=>funext fun t9=>funext fun t10=>funext fun t12=>funext fun t13=>funext fun H=>g5_p8_eq t0 t5 t6 t8 t9 t10 t12 t13 H K))
noncomputable def g5_p10 (R:Type) (t0:Sl) (t5:Int) (t6:Option (Nat × Nat)) (t8:Sl) (t9:Sl) (t10:Int) (t52:Bool) (t500011_0:Bool) (t500011_1:Int) (t500011_2:Int) (t500011_3:Bool) (t500011_4:Int) (t500011_5:Sl) (H:Heap) (kN:Sl→Int→Option (Nat × Nat)→Sl→Sl→Int→Bool→Bool→Int→Int→Bool→Int→Sl→Heap→Option R):Option R :=
  kN t0 t5 t6 t8 t9 t10 t52 t500011_0 t500011_1 t500011_2 t500011_3 t500011_4 t500011_5 H
theorem g5_p10_eq {R:Type} (t0:Sl) (t5:Int) (t6:Option (Nat × Nat)) (t8:Sl) (t9:Sl) (t10:Int) (t52:Bool) (t500011_0:Bool) (t500011_1:Int) (t500011_2:Int) (t500011_3:Bool) (t500011_4:Int) (t500011_5:Sl) (H:Heap) (K:Ex→Fr→Heap→Option R):ev2 Try.prog (E5) loopLim lv5 Try.f5.ntmps kp5 c5_6 [(0,(V.sl t0)),(5,(V.i .i64 t5)),(6,(V.p t6)),(8,(V.sl t8)),(9,(V.sl t9)),(10,(V.i .i64 t10)),(52,(V.b t52)),(500011,(V.agg [(V.b t500011_0),(V.i .u16 t500011_1),(V.i .u32 t500011_2),(V.b t500011_3),(V.i .u8 t500011_4),(V.sl t500011_5)])),(1000011,(V.p (some (11,0))))] H K = g5_p10 R t0 t5 t6 t8 t9 t10 t52 t500011_0 t500011_1 t500011_2 t500011_3 t500011_4 t500011_5 H (fun t0 t5 t6 t8 t9 t10 t52 t500011_0 t500011_1 t500011_2 t500011_3 t500011_4 t500011_5 H=>K .normal [(0,(V.sl t0)),(5,(V.i .i64 t5)),(6,(V.p t6)),(8,(V.sl t8)),(9,(V.sl t9)),(10,(V.i .i64 t10)),(52,(V.b t52)),(500011,(V.agg [(V.b t500011_0),(V.i .u16 t500011_1),(V.i .u32 t500011_2),(V.b t500011_3),(V.i .u8 t500011_4),(V.sl t500011_5)])),(1000011,(V.p (some (11,0))))] H):=by kernel_rfl
theorem g5_p10_lin {R S:Type} {k:S→Option R} {t0:Sl} {t5:Int} {t6:Option (Nat × Nat)} {t8:Sl} {t9:Sl} {t10:Int} {t52:Bool} {t500011_0:Bool} {t500011_1:Int} {t500011_2:Int} {t500011_3:Bool} {t500011_4:Int} {t500011_5:Sl} {H:Heap} {fkN:Sl→Int→Option (Nat × Nat)→Sl→Sl→Int→Bool→Bool→Int→Int→Bool→Int→Sl→Heap→Option R} {gkN:Sl→Int→Option (Nat × Nat)→Sl→Sl→Int→Bool→Bool→Int→Int→Bool→Int→Sl→Heap→Option S} (hkN:∀ t0 t5 t6 t8 t9 t10 t52 t500011_0 t500011_1 t500011_2 t500011_3 t500011_4 t500011_5 H,fkN t0 t5 t6 t8 t9 t10 t52 t500011_0 t500011_1 t500011_2 t500011_3 t500011_4 t500011_5 H = (gkN t0 t5 t6 t8 t9 t10 t52 t500011_0 t500011_1 t500011_2 t500011_3 t500011_4 t500011_5 H).bind k):g5_p10 R t0 t5 t6 t8 t9 t10 t52 t500011_0 t500011_1 t500011_2 t500011_3 t500011_4 t500011_5 H fkN = (g5_p10 S t0 t5 t6 t8 t9 t10 t52 t500011_0 t500011_1 t500011_2 t500011_3 t500011_4 t500011_5 H gkN).bind k:=by
  delta g5_p10; exact (
    hkN _ _ _ _ _ _ _ _ _ _ _ _ _ _)
noncomputable def g5_p11 (R:Type) (t0:Sl) (t5:Int) (t6:Option (Nat × Nat)) (t8:Sl) (t9:Sl) (t10:Int) (t52:Bool) (t500011_0:Bool) (t500011_1:Int) (t500011_2:Int) (t500011_3:Bool) (t500011_4:Int) (t500011_5:Sl) (H:Heap) (kN:Sl→Int→Option (Nat × Nat)→Sl→Sl→Int→Bool→Int→Int→Bool→Int→Sl→Heap→Option R) (kE1:Sl→Int→Option (Nat × Nat)→Sl→Sl→Int→Heap→Option R) (kR:Bool→Heap→Option R):Option R :=
  sel t52 (g5_p9 R t0 t5 t6 t8 t9 t10 t52 t500011_0 t500011_1 t500011_2 t500011_3 t500011_4 t500011_5 H (fun t0 t5 t6 t8 t9 t10 H=>kE1 t0 t5 t6 t8 t9 t10 H) (fun t4 H=>kR t4 H)) (g5_p10 R t0 t5 t6 t8 t9 t10 t52 t500011_0 t500011_1 t500011_2 t500011_3 t500011_4 t500011_5 H (fun t0 t5 t6 t8 t9 t10 t52 t500011_0 t500011_1 t500011_2 t500011_3 t500011_4 t500011_5 H=>kN t0 t5 t6 t8 t9 t10 t500011_0 t500011_1 t500011_2 t500011_3 t500011_4 t500011_5 H))
theorem g5_p11_lin {R S:Type} {k:S→Option R} {t0:Sl} {t5:Int} {t6:Option (Nat × Nat)} {t8:Sl} {t9:Sl} {t10:Int} {t52:Bool} {t500011_0:Bool} {t500011_1:Int} {t500011_2:Int} {t500011_3:Bool} {t500011_4:Int} {t500011_5:Sl} {H:Heap} {fkN:Sl→Int→Option (Nat × Nat)→Sl→Sl→Int→Bool→Int→Int→Bool→Int→Sl→Heap→Option R} {gkN:Sl→Int→Option (Nat × Nat)→Sl→Sl→Int→Bool→Int→Int→Bool→Int→Sl→Heap→Option S} {fkE1:Sl→Int→Option (Nat × Nat)→Sl→Sl→Int→Heap→Option R} {gkE1:Sl→Int→Option (Nat × Nat)→Sl→Sl→Int→Heap→Option S} {fkR:Bool→Heap→Option R} {gkR:Bool→Heap→Option S} (hkN:∀ t0 t5 t6 t8 t9 t10 t500011_0 t500011_1 t500011_2 t500011_3 t500011_4 t500011_5 H,fkN t0 t5 t6 t8 t9 t10 t500011_0 t500011_1 t500011_2 t500011_3 t500011_4 t500011_5 H = (gkN t0 t5 t6 t8 t9 t10 t500011_0 t500011_1 t500011_2 t500011_3 t500011_4 t500011_5 H).bind k) (hkE1:∀ t0 t5 t6 t8 t9 t10 H,fkE1 t0 t5 t6 t8 t9 t10 H = (gkE1 t0 t5 t6 t8 t9 t10 H).bind k) (hkR:∀ t4 H,fkR t4 H = (gkR t4 H).bind k):g5_p11 R t0 t5 t6 t8 t9 t10 t52 t500011_0 t500011_1 t500011_2 t500011_3 t500011_4 t500011_5 H fkN fkE1 fkR = (g5_p11 S t0 t5 t6 t8 t9 t10 t52 t500011_0 t500011_1 t500011_2 t500011_3 t500011_4 t500011_5 H gkN gkE1 gkR).bind k:=by
  exact sl_lin (g5_p9_lin (fun _ _ _ _ _ _ _=>hkE1 _ _ _ _ _ _ _) (fun _ _=>hkR _ _)) (g5_p10_lin (fun _ _ _ _ _ _ _ _ _ _ _ _ _ _=>hkN _ _ _ _ _ _ _ _ _ _ _ _ _))
theorem g5_p11_eq {R:Type} (t0:Sl) (t5:Int) (t6:Option (Nat × Nat)) (t8:Sl) (t9:Sl) (t10:Int) (t52:Bool) (t500011_0:Bool) (t500011_1:Int) (t500011_2:Int) (t500011_3:Bool) (t500011_4:Int) (t500011_5:Sl) (H:Heap) (K:Ex→Fr→Heap→Option R):ev2 Try.prog (E5) loopLim lv5 Try.f5.ntmps kp5 c5_7 [(0,(V.sl t0)),(5,(V.i .i64 t5)),(6,(V.p t6)),(8,(V.sl t8)),(9,(V.sl t9)),(10,(V.i .i64 t10)),(52,(V.b t52)),(500011,(V.agg [(V.b t500011_0),(V.i .u16 t500011_1),(V.i .u32 t500011_2),(V.b t500011_3),(V.i .u8 t500011_4),(V.sl t500011_5)])),(1000011,(V.p (some (11,0))))] H K = g5_p11 R t0 t5 t6 t8 t9 t10 t52 t500011_0 t500011_1 t500011_2 t500011_3 t500011_4 t500011_5 H (fun t0 t5 t6 t8 t9 t10 t500011_0 t500011_1 t500011_2 t500011_3 t500011_4 t500011_5 H=>K .normal [(0,(V.sl t0)),(5,(V.i .i64 t5)),(6,(V.p t6)),(8,(V.sl t8)),(9,(V.sl t9)),(10,(V.i .i64 t10)),(500011,(V.agg [(V.b t500011_0),(V.i .u16 t500011_1),(V.i .u32 t500011_2),(V.b t500011_3),(V.i .u8 t500011_4),(V.sl t500011_5)])),(1000011,(V.p (some (11,0))))] H) (fun t0 t5 t6 t8 t9 t10 H=>K (.exit 1) [(0,(V.sl t0)),(5,(V.i .i64 t5)),(6,(V.p t6)),(8,(V.sl t8)),(9,(V.sl t9)),(10,(V.i .i64 t10))] H) (fun t4 H=>K .ret [(4,(V.b t4))] H):=by
  delta c5_7
  rw [ev2_cond _ _ _ _ _ _ t52 rfl]
  delta g5_p11
  exact sc (g5_p9_eq t0 t5 t6 t8 t9 t10 t52 t500011_0 t500011_1 t500011_2 t500011_3 t500011_4 t500011_5 H (kEnd kp5 (condId (.tmp 52)) K)) (g5_p10_eq t0 t5 t6 t8 t9 t10 t52 t500011_0 t500011_1 t500011_2 t500011_3 t500011_4 t500011_5 H (kEnd kp5 (condId (.tmp 52)) K))
noncomputable def g5_p12 (R:Type) (t0:Sl) (t5:Int) (t6:Option (Nat × Nat)) (t8:Sl) (t9:Sl) (t10:Int) (t500011_0:Bool) (t500011_1:Int) (t500011_2:Int) (t500011_3:Bool) (t500011_4:Int) (t500011_5:Sl) (H:Heap) (kN:Sl→Int→Option (Nat × Nat)→Sl→Sl→Int→Heap→Option R) (kR:Bool→Heap→Option R):Option R :=
  g13 R t6 t500011_1 t500011_2 t500011_3 t500011_4 t500011_5 H fun x100 x101 x102 h103 =>
  g16 R t8 t9 t500011_1 t500011_2 t500011_3 t500011_4 t500011_5 t5 h103 fun x104 x105 x106 x107 x108 h109 =>
  sel (x102 != x108) (
    kR false h109) (
    sel (!(x101 == x107)) (
      kR false h109) (
      ((slBytes h109 x100)).bind fun x110 =>
      sel (!strEq x110 x106) (
        kR false h109) (
        g14 R t6 h109 fun x111 h112 =>
        sel (x111 != ((x104.len:Nat):Int)) (
          kR false h112) (
          kN t0 t5 t6 x104 x105 t10 h112))))
theorem g5_p12_eq {R:Type} (t0:Sl) (t5:Int) (t6:Option (Nat × Nat)) (t8:Sl) (t9:Sl) (t10:Int) (t500011_0:Bool) (t500011_1:Int) (t500011_2:Int) (t500011_3:Bool) (t500011_4:Int) (t500011_5:Sl) (H:Heap) (K:Ex→Fr→Heap→Option R):ev2 Try.prog (E5) loopLim lv5 Try.f5.ntmps kp5 c5_8 [(0,(V.sl t0)),(5,(V.i .i64 t5)),(6,(V.p t6)),(8,(V.sl t8)),(9,(V.sl t9)),(10,(V.i .i64 t10)),(500011,(V.agg [(V.b t500011_0),(V.i .u16 t500011_1),(V.i .u32 t500011_2),(V.b t500011_3),(V.i .u8 t500011_4),(V.sl t500011_5)])),(1000011,(V.p (some (11,0))))] H K = g5_p12 R t0 t5 t6 t8 t9 t10 t500011_0 t500011_1 t500011_2 t500011_3 t500011_4 t500011_5 H (fun t0 t5 t6 t8 t9 t10 H=>K .normal [(0,(V.sl t0)),(5,(V.i .i64 t5)),(6,(V.p t6)),(8,(V.sl t8)),(9,(V.sl t9)),(10,(V.i .i64 t10))] H) (fun t4 H=>K .ret [(4,(V.b t4))] H):=by kernel_rfl
theorem g5_p12_lin {R S:Type} {k:S→Option R} {t0:Sl} {t5:Int} {t6:Option (Nat × Nat)} {t8:Sl} {t9:Sl} {t10:Int} {t500011_0:Bool} {t500011_1:Int} {t500011_2:Int} {t500011_3:Bool} {t500011_4:Int} {t500011_5:Sl} {H:Heap} {fkN:Sl→Int→Option (Nat × Nat)→Sl→Sl→Int→Heap→Option R} {gkN:Sl→Int→Option (Nat × Nat)→Sl→Sl→Int→Heap→Option S} {fkR:Bool→Heap→Option R} {gkR:Bool→Heap→Option S} (hkN:∀ t0 t5 t6 t8 t9 t10 H,fkN t0 t5 t6 t8 t9 t10 H = (gkN t0 t5 t6 t8 t9 t10 H).bind k) (hkR:∀ t4 H,fkR t4 H = (gkR t4 H).bind k):g5_p12 R t0 t5 t6 t8 t9 t10 t500011_0 t500011_1 t500011_2 t500011_3 t500011_4 t500011_5 H fkN fkR = (g5_p12 S t0 t5 t6 t8 t9 t10 t500011_0 t500011_1 t500011_2 t500011_3 t500011_4 t500011_5 H gkN gkR).bind k:=by
  delta g5_p12; exact (
    g13_lin.l fun x100 x101 x102 h103 =>
    g16_lin.l fun x104 x105 x106 x107 x108 h109 =>
    sl_lin (
      hkR _ _) (
      sl_lin (
        hkR _ _) (
        bl fun x110 =>
        sl_lin (
          hkR _ _) (
          g14_lin.l fun x111 h112 =>
          sl_lin (
            hkR _ _) (
            hkN _ _ _ _ _ _ _)))))
noncomputable def g5_p13 (R:Type) (t0:Sl) (t5:Int) (t6:Option (Nat × Nat)) (t8:Sl) (t9:Sl) (t10:Int) (t52:Bool) (t500011_0:Bool) (t500011_1:Int) (t500011_2:Int) (t500011_3:Bool) (t500011_4:Int) (t500011_5:Sl) (H:Heap) (kN:Sl→Int→Option (Nat × Nat)→Sl→Sl→Int→Heap→Option R) (kE1:Sl→Int→Option (Nat × Nat)→Sl→Sl→Int→Heap→Option R) (kR:Bool→Heap→Option R):Option R :=
  g5_p11 R t0 t5 t6 t8 t9 t10 t52 t500011_0 t500011_1 t500011_2 t500011_3 t500011_4 t500011_5 H (fun t0 t5 t6 t8 t9 t10 t500011_0 t500011_1 t500011_2 t500011_3 t500011_4 t500011_5 H=>g5_p12 R t0 t5 t6 t8 t9 t10 t500011_0 t500011_1 t500011_2 t500011_3 t500011_4 t500011_5 H (fun t0 t5 t6 t8 t9 t10 H=>kN t0 t5 t6 t8 t9 t10 H) (fun t4 H=>kR t4 H)) (fun t0 t5 t6 t8 t9 t10 H=>kE1 t0 t5 t6 t8 t9 t10 H) (fun t4 H=>kR t4 H)
theorem g5_p13_lin {R S:Type} {k:S→Option R} {t0:Sl} {t5:Int} {t6:Option (Nat × Nat)} {t8:Sl} {t9:Sl} {t10:Int} {t52:Bool} {t500011_0:Bool} {t500011_1:Int} {t500011_2:Int} {t500011_3:Bool} {t500011_4:Int} {t500011_5:Sl} {H:Heap} {fkN:Sl→Int→Option (Nat × Nat)→Sl→Sl→Int→Heap→Option R} {gkN:Sl→Int→Option (Nat × Nat)→Sl→Sl→Int→Heap→Option S} {fkE1:Sl→Int→Option (Nat × Nat)→Sl→Sl→Int→Heap→Option R} {gkE1:Sl→Int→Option (Nat × Nat)→Sl→Sl→Int→Heap→Option S} {fkR:Bool→Heap→Option R} {gkR:Bool→Heap→Option S} (hkN:∀ t0 t5 t6 t8 t9 t10 H,fkN t0 t5 t6 t8 t9 t10 H = (gkN t0 t5 t6 t8 t9 t10 H).bind k) (hkE1:∀ t0 t5 t6 t8 t9 t10 H,fkE1 t0 t5 t6 t8 t9 t10 H = (gkE1 t0 t5 t6 t8 t9 t10 H).bind k) (hkR:∀ t4 H,fkR t4 H = (gkR t4 H).bind k):g5_p13 R t0 t5 t6 t8 t9 t10 t52 t500011_0 t500011_1 t500011_2 t500011_3 t500011_4 t500011_5 H fkN fkE1 fkR = (g5_p13 S t0 t5 t6 t8 t9 t10 t52 t500011_0 t500011_1 t500011_2 t500011_3 t500011_4 t500011_5 H gkN gkE1 gkR).bind k:=by
  exact g5_p11_lin (fun _ _ _ _ _ _ _ _ _ _ _ _ _=>g5_p12_lin (fun _ _ _ _ _ _ _=>hkN _ _ _ _ _ _ _) (fun _ _=>hkR _ _)) (fun _ _ _ _ _ _ _=>hkE1 _ _ _ _ _ _ _) (fun _ _=>hkR _ _)
theorem g5_p13_eq {R:Type} (t0:Sl) (t5:Int) (t6:Option (Nat × Nat)) (t8:Sl) (t9:Sl) (t10:Int) (t52:Bool) (t500011_0:Bool) (t500011_1:Int) (t500011_2:Int) (t500011_3:Bool) (t500011_4:Int) (t500011_5:Sl) (H:Heap) (K:Ex→Fr→Heap→Option R):ev2 Try.prog (E5) loopLim lv5 Try.f5.ntmps kp5 c5_9 [(0,(V.sl t0)),(5,(V.i .i64 t5)),(6,(V.p t6)),(8,(V.sl t8)),(9,(V.sl t9)),(10,(V.i .i64 t10)),(52,(V.b t52)),(500011,(V.agg [(V.b t500011_0),(V.i .u16 t500011_1),(V.i .u32 t500011_2),(V.b t500011_3),(V.i .u8 t500011_4),(V.sl t500011_5)])),(1000011,(V.p (some (11,0))))] H K = g5_p13 R t0 t5 t6 t8 t9 t10 t52 t500011_0 t500011_1 t500011_2 t500011_3 t500011_4 t500011_5 H (fun t0 t5 t6 t8 t9 t10 H=>K .normal [(0,(V.sl t0)),(5,(V.i .i64 t5)),(6,(V.p t6)),(8,(V.sl t8)),(9,(V.sl t9)),(10,(V.i .i64 t10))] H) (fun t0 t5 t6 t8 t9 t10 H=>K (.exit 1) [(0,(V.sl t0)),(5,(V.i .i64 t5)),(6,(V.p t6)),(8,(V.sl t8)),(9,(V.sl t9)),(10,(V.i .i64 t10))] H) (fun t4 H=>K .ret [(4,(V.b t4))] H):=by
  delta c5_9
  rw [ev2_seq]
  delta g5_p13
  exact (g5_p11_eq t0 t5 t6 t8 t9 t10 t52 t500011_0 t500011_1 t500011_2 t500011_3 t500011_4 t500011_5 H (kSeq (fun fr H=>ev2 Try.prog (E5) loopLim lv5 Try.f5.ntmps kp5 c5_8 fr H K) K)).trans (congr (congr (congrArg (g5_p11 R t0 t5 t6 t8 t9 t10 t52 t500011_0 t500011_1 t500011_2 t500011_3 t500011_4 t500011_5 H) (funext fun t0=>funext fun t5=>funext fun t6=>funext fun t8=>funext fun t9=>funext fun t10=>funext fun t500011_0=>funext fun t500011_1=>funext fun t500011_2=>funext fun t500011_3=>funext fun t500011_4=>funext fun t500011_5=>funext fun H=>(kSeq_n _ _ _ _).trans (g5_p12_eq t0 t5 t6 t8 t9 t10 t500011_0 t500011_1 t500011_2 t500011_3 t500011_4 t500011_5 H K))) rfl) rfl)
noncomputable def g5_p14 (R:Type) (t0:Sl) (t5:Int) (t6:Option (Nat × Nat)) (t8:Sl) (t9:Sl) (t10:Int) (H:Heap) (kN:Sl→Int→Option (Nat × Nat)→Sl→Sl→Int→Heap→Option R) (kE1:Sl→Int→Option (Nat × Nat)→Sl→Sl→Int→Heap→Option R) (kR:Bool→Heap→Option R):Option R :=
  g5_p2 R t0 t5 t6 t8 t9 t10 H (fun t0 t5 t6 t8 t9 t10 t52 t500011_0 t500011_1 t500011_2 t500011_3 t500011_4 t500011_5 H=>g5_p13 R t0 t5 t6 t8 t9 t10 t52 t500011_0 t500011_1 t500011_2 t500011_3 t500011_4 t500011_5 H (fun t0 t5 t6 t8 t9 t10 H=>kN t0 t5 t6 t8 t9 t10 H) (fun t0 t5 t6 t8 t9 t10 H=>kE1 t0 t5 t6 t8 t9 t10 H) (fun t4 H=>kR t4 H)) (fun t4 H=>kR t4 H)
theorem g5_p14_lin {R S:Type} {k:S→Option R} {t0:Sl} {t5:Int} {t6:Option (Nat × Nat)} {t8:Sl} {t9:Sl} {t10:Int} {H:Heap} {fkN:Sl→Int→Option (Nat × Nat)→Sl→Sl→Int→Heap→Option R} {gkN:Sl→Int→Option (Nat × Nat)→Sl→Sl→Int→Heap→Option S} {fkE1:Sl→Int→Option (Nat × Nat)→Sl→Sl→Int→Heap→Option R} {gkE1:Sl→Int→Option (Nat × Nat)→Sl→Sl→Int→Heap→Option S} {fkR:Bool→Heap→Option R} {gkR:Bool→Heap→Option S} (hkN:∀ t0 t5 t6 t8 t9 t10 H,fkN t0 t5 t6 t8 t9 t10 H = (gkN t0 t5 t6 t8 t9 t10 H).bind k) (hkE1:∀ t0 t5 t6 t8 t9 t10 H,fkE1 t0 t5 t6 t8 t9 t10 H = (gkE1 t0 t5 t6 t8 t9 t10 H).bind k) (hkR:∀ t4 H,fkR t4 H = (gkR t4 H).bind k):g5_p14 R t0 t5 t6 t8 t9 t10 H fkN fkE1 fkR = (g5_p14 S t0 t5 t6 t8 t9 t10 H gkN gkE1 gkR).bind k:=by
  exact g5_p2_lin (fun _ _ _ _ _ _ _ _ _ _ _ _ _ _=>g5_p13_lin (fun _ _ _ _ _ _ _=>hkN _ _ _ _ _ _ _) (fun _ _ _ _ _ _ _=>hkE1 _ _ _ _ _ _ _) (fun _ _=>hkR _ _)) (fun _ _=>hkR _ _)
theorem g5_p14_eq {R:Type} (t0:Sl) (t5:Int) (t6:Option (Nat × Nat)) (t8:Sl) (t9:Sl) (t10:Int) (H:Heap) (K:Ex→Fr→Heap→Option R):ev2 Try.prog (E5) loopLim lv5 Try.f5.ntmps kp5 c5_10 [(0,(V.sl t0)),(5,(V.i .i64 t5)),(6,(V.p t6)),(8,(V.sl t8)),(9,(V.sl t9)),(10,(V.i .i64 t10))] H K = g5_p14 R t0 t5 t6 t8 t9 t10 H (fun t0 t5 t6 t8 t9 t10 H=>K .normal [(0,(V.sl t0)),(5,(V.i .i64 t5)),(6,(V.p t6)),(8,(V.sl t8)),(9,(V.sl t9)),(10,(V.i .i64 t10))] H) (fun t0 t5 t6 t8 t9 t10 H=>K (.exit 1) [(0,(V.sl t0)),(5,(V.i .i64 t5)),(6,(V.p t6)),(8,(V.sl t8)),(9,(V.sl t9)),(10,(V.i .i64 t10))] H) (fun t4 H=>K .ret [(4,(V.b t4))] H):=by
  delta c5_10
  delta g5_p14
  exact (g5_p2_eq _ t0 t5 t6 t8 t9 t10 H K).trans (congr (congrArg (g5_p2 R t0 t5 t6 t8 t9 t10 H) (funext fun t0=>funext fun t5=>funext fun t6=>funext fun t8=>funext fun t9=>funext fun t10=>funext fun t52=>funext fun t500011_0=>funext fun t500011_1=>funext fun t500011_2=>funext fun t500011_3=>funext fun t500011_4=>funext fun t500011_5=>funext fun H=>g5_p13_eq t0 t5 t6 t8 t9 t10 t52 t500011_0 t500011_1 t500011_2 t500011_3 t500011_4 t500011_5 H K)) rfl)
noncomputable def g5_p15 (R:Type) (t0:Sl) (t5:Int) (t6:Option (Nat × Nat)) (t8:Sl) (t9:Sl) (t10:Int) (H:Heap) (kN:Sl→Int→Option (Nat × Nat)→Sl→Sl→Int→Heap→Option R) (kR:Bool→Heap→Option R):Option R :=
  g5_p14 R t0 t5 t6 t8 t9 t10 H (fun t0 t5 t6 t8 t9 t10 H=>kN t0 t5 t6 t8 t9 t10 H) (fun t0 t5 t6 t8 t9 t10 H=>kN t0 t5 t6 t8 t9 t10 H) (fun t4 H=>kR t4 H)
theorem g5_p15_lin {R S:Type} {k:S→Option R} {t0:Sl} {t5:Int} {t6:Option (Nat × Nat)} {t8:Sl} {t9:Sl} {t10:Int} {H:Heap} {fkN:Sl→Int→Option (Nat × Nat)→Sl→Sl→Int→Heap→Option R} {gkN:Sl→Int→Option (Nat × Nat)→Sl→Sl→Int→Heap→Option S} {fkR:Bool→Heap→Option R} {gkR:Bool→Heap→Option S} (hkN:∀ t0 t5 t6 t8 t9 t10 H,fkN t0 t5 t6 t8 t9 t10 H = (gkN t0 t5 t6 t8 t9 t10 H).bind k) (hkR:∀ t4 H,fkR t4 H = (gkR t4 H).bind k):g5_p15 R t0 t5 t6 t8 t9 t10 H fkN fkR = (g5_p15 S t0 t5 t6 t8 t9 t10 H gkN gkR).bind k:=by
  exact g5_p14_lin (fun _ _ _ _ _ _ _=>hkN _ _ _ _ _ _ _) (fun _ _ _ _ _ _ _=>hkN _ _ _ _ _ _ _) (fun _ _=>hkR _ _)
theorem g5_p15_eq {R:Type} (t0:Sl) (t5:Int) (t6:Option (Nat × Nat)) (t8:Sl) (t9:Sl) (t10:Int) (H:Heap) (K:Ex→Fr→Heap→Option R):ev2 Try.prog (E5) loopLim lv5 Try.f5.ntmps kp5 c5_11 [(0,(V.sl t0)),(5,(V.i .i64 t5)),(6,(V.p t6)),(8,(V.sl t8)),(9,(V.sl t9)),(10,(V.i .i64 t10))] H K = g5_p15 R t0 t5 t6 t8 t9 t10 H (fun t0 t5 t6 t8 t9 t10 H=>K .normal [(0,(V.sl t0)),(5,(V.i .i64 t5)),(6,(V.p t6)),(8,(V.sl t8)),(9,(V.sl t9)),(10,(V.i .i64 t10))] H) (fun t4 H=>K .ret [(4,(V.b t4))] H):=by
  delta c5_11
  rw [ev2_block]
  delta g5_p15
  exact (g5_p14_eq t0 t5 t6 t8 t9 t10 H (kBlock kp5 1 K))
noncomputable def g5_p16 (R:Type) (t0:Sl) (t5:Int) (t6:Option (Nat × Nat)) (t8:Sl) (t9:Sl) (t10:Int) (H:Heap) (kN:Sl→Int→Option (Nat × Nat)→Sl→Sl→Int→Heap→Option R):Option R :=
  kN t0 t5 t6 t8 t9 (IntKind.wrap .i64 (t10 + (1:Int))) H
theorem g5_p16_eq {R:Type} (t0:Sl) (t5:Int) (t6:Option (Nat × Nat)) (t8:Sl) (t9:Sl) (t10:Int) (H:Heap) (K:Ex→Fr→Heap→Option R):ev2 Try.prog (E5) loopLim lv5 Try.f5.ntmps kp5 c5_12 [(0,(V.sl t0)),(5,(V.i .i64 t5)),(6,(V.p t6)),(8,(V.sl t8)),(9,(V.sl t9)),(10,(V.i .i64 t10))] H K = g5_p16 R t0 t5 t6 t8 t9 t10 H (fun t0 t5 t6 t8 t9 t10 H=>K .normal [(0,(V.sl t0)),(5,(V.i .i64 t5)),(6,(V.p t6)),(8,(V.sl t8)),(9,(V.sl t9)),(10,(V.i .i64 t10))] H):=by kernel_rfl
theorem g5_p16_lin {R S:Type} {k:S→Option R} {t0:Sl} {t5:Int} {t6:Option (Nat × Nat)} {t8:Sl} {t9:Sl} {t10:Int} {H:Heap} {fkN:Sl→Int→Option (Nat × Nat)→Sl→Sl→Int→Heap→Option R} {gkN:Sl→Int→Option (Nat × Nat)→Sl→Sl→Int→Heap→Option S} (hkN:∀ t0 t5 t6 t8 t9 t10 H,fkN t0 t5 t6 t8 t9 t10 H = (gkN t0 t5 t6 t8 t9 t10 H).bind k):g5_p16 R t0 t5 t6 t8 t9 t10 H fkN = (g5_p16 S t0 t5 t6 t8 t9 t10 H gkN).bind k:=by
  delta g5_p16; exact (
    hkN _ _ _ _ _ _ _)
noncomputable def g5_p17 (R:Type) (t0:Sl) (t5:Int) (t6:Option (Nat × Nat)) (t8:Sl) (t9:Sl) (t10:Int) (H:Heap) (kN:Sl→Int→Option (Nat × Nat)→Sl→Sl→Int→Heap→Option R) (kR:Bool→Heap→Option R):Option R :=
  g5_p15 R t0 t5 t6 t8 t9 t10 H (fun t0 t5 t6 t8 t9 t10 H=>g5_p16 R t0 t5 t6 t8 t9 t10 H (fun t0 t5 t6 t8 t9 t10 H=>kN t0 t5 t6 t8 t9 t10 H)) (fun t4 H=>kR t4 H)
theorem g5_p17_lin {R S:Type} {k:S→Option R} {t0:Sl} {t5:Int} {t6:Option (Nat × Nat)} {t8:Sl} {t9:Sl} {t10:Int} {H:Heap} {fkN:Sl→Int→Option (Nat × Nat)→Sl→Sl→Int→Heap→Option R} {gkN:Sl→Int→Option (Nat × Nat)→Sl→Sl→Int→Heap→Option S} {fkR:Bool→Heap→Option R} {gkR:Bool→Heap→Option S} (hkN:∀ t0 t5 t6 t8 t9 t10 H,fkN t0 t5 t6 t8 t9 t10 H = (gkN t0 t5 t6 t8 t9 t10 H).bind k) (hkR:∀ t4 H,fkR t4 H = (gkR t4 H).bind k):g5_p17 R t0 t5 t6 t8 t9 t10 H fkN fkR = (g5_p17 S t0 t5 t6 t8 t9 t10 H gkN gkR).bind k:=by
  exact g5_p15_lin (fun _ _ _ _ _ _ _=>g5_p16_lin (fun _ _ _ _ _ _ _=>hkN _ _ _ _ _ _ _)) (fun _ _=>hkR _ _)
theorem g5_p17_eq {R:Type} (t0:Sl) (t5:Int) (t6:Option (Nat × Nat)) (t8:Sl) (t9:Sl) (t10:Int) (H:Heap) (K:Ex→Fr→Heap→Option R):ev2 Try.prog (E5) loopLim lv5 Try.f5.ntmps kp5 c5_13 [(0,(V.sl t0)),(5,(V.i .i64 t5)),(6,(V.p t6)),(8,(V.sl t8)),(9,(V.sl t9)),(10,(V.i .i64 t10))] H K = g5_p17 R t0 t5 t6 t8 t9 t10 H (fun t0 t5 t6 t8 t9 t10 H=>K .normal [(0,(V.sl t0)),(5,(V.i .i64 t5)),(6,(V.p t6)),(8,(V.sl t8)),(9,(V.sl t9)),(10,(V.i .i64 t10))] H) (fun t4 H=>K .ret [(4,(V.b t4))] H):=by
  delta c5_13
  rw [ev2_seq]
  delta g5_p17
  exact (g5_p15_eq t0 t5 t6 t8 t9 t10 H (kSeq (fun fr H=>ev2 Try.prog (E5) loopLim lv5 Try.f5.ntmps kp5 c5_12 fr H K) K)).trans (congr (congrArg (g5_p15 R t0 t5 t6 t8 t9 t10 H) (funext fun t0=>funext fun t5=>funext fun t6=>funext fun t8=>funext fun t9=>funext fun t10=>funext fun H=>(kSeq_n _ _ _ _).trans (g5_p16_eq t0 t5 t6 t8 t9 t10 H K))) rfl)
noncomputable def g5_p18 (R:Type) (t0:Sl) (t5:Int) (t6:Option (Nat × Nat)) (t8:Sl) (t9:Sl) (t10:Int) (H:Heap) (kN:Sl→Int→Option (Nat × Nat)→Sl→Sl→Int→Heap→Option R) (kE0:Heap→Option R) (kR:Bool→Heap→Option R):Option R :=
  g5_p1 R t0 t5 t6 t8 t9 t10 H (fun t0 t5 t6 t8 t9 t10 H=>g5_p17 R t0 t5 t6 t8 t9 t10 H (fun t0 t5 t6 t8 t9 t10 H=>kN t0 t5 t6 t8 t9 t10 H) (fun t4 H=>kR t4 H)) (fun H=>kE0  H)
theorem g5_p18_lin {R S:Type} {k:S→Option R} {t0:Sl} {t5:Int} {t6:Option (Nat × Nat)} {t8:Sl} {t9:Sl} {t10:Int} {H:Heap} {fkN:Sl→Int→Option (Nat × Nat)→Sl→Sl→Int→Heap→Option R} {gkN:Sl→Int→Option (Nat × Nat)→Sl→Sl→Int→Heap→Option S} {fkE0:Heap→Option R} {gkE0:Heap→Option S} {fkR:Bool→Heap→Option R} {gkR:Bool→Heap→Option S} (hkN:∀ t0 t5 t6 t8 t9 t10 H,fkN t0 t5 t6 t8 t9 t10 H = (gkN t0 t5 t6 t8 t9 t10 H).bind k) (hkE0:∀ H,fkE0 H = (gkE0 H).bind k) (hkR:∀ t4 H,fkR t4 H = (gkR t4 H).bind k):g5_p18 R t0 t5 t6 t8 t9 t10 H fkN fkE0 fkR = (g5_p18 S t0 t5 t6 t8 t9 t10 H gkN gkE0 gkR).bind k:=by
  exact g5_p1_lin (fun _ _ _ _ _ _ _=>g5_p17_lin (fun _ _ _ _ _ _ _=>hkN _ _ _ _ _ _ _) (fun _ _=>hkR _ _)) (fun _=>hkE0 _)
theorem g5_p18_eq {R:Type} (t0:Sl) (t5:Int) (t6:Option (Nat × Nat)) (t8:Sl) (t9:Sl) (t10:Int) (H:Heap) (K:Ex→Fr→Heap→Option R):ev2 Try.prog (E5) loopLim lv5 Try.f5.ntmps kp5 c5_14 [(0,(V.sl t0)),(5,(V.i .i64 t5)),(6,(V.p t6)),(8,(V.sl t8)),(9,(V.sl t9)),(10,(V.i .i64 t10))] H K = g5_p18 R t0 t5 t6 t8 t9 t10 H (fun t0 t5 t6 t8 t9 t10 H=>K .normal [(0,(V.sl t0)),(5,(V.i .i64 t5)),(6,(V.p t6)),(8,(V.sl t8)),(9,(V.sl t9)),(10,(V.i .i64 t10))] H) (fun H=>K (.exit 0) [] H) (fun t4 H=>K .ret [(4,(V.b t4))] H):=by
  delta c5_14
  delta g5_p18
  exact (g5_p1_eq _ t0 t5 t6 t8 t9 t10 H K).trans (congr (congrArg (g5_p1 R t0 t5 t6 t8 t9 t10 H) (funext fun t0=>funext fun t5=>funext fun t6=>funext fun t8=>funext fun t9=>funext fun t10=>funext fun H=>g5_p17_eq t0 t5 t6 t8 t9 t10 H K)) rfl)
abbrev g5_p19_S:=Sl × Int × (Option (Nat × Nat)) × Sl × Sl × Int
abbrev g5_p19_O:=Sum (Unit) (Bool)
def g5_p19_es (s:g5_p19_S):Fr:=[(0,(V.sl s.1)),(5,(V.i .i64 s.2.1)),(6,(V.p s.2.2.1)),(8,(V.sl s.2.2.2.1)),(9,(V.sl s.2.2.2.2.1)),(10,(V.i .i64 s.2.2.2.2.2))]
def g5_p19_er:g5_p19_O→Ex × Fr
  | (.inl r)=>((.exit 0),[])
  | (.inr r)=>(.ret,[(4,(V.b r))])
noncomputable def g5_p19_b (s:g5_p19_S) (H:Heap):Option (Rd g5_p19_S g5_p19_O × Heap) :=
  g5_p18 _ s.1 s.2.1 s.2.2.1 s.2.2.2.1 s.2.2.2.2.1 s.2.2.2.2.2 H (fun t0 t5 t6 t8 t9 t10 H=>some (.go (t0,t5,t6,t8,t9,t10),H)) (fun H=>some (.up (.inl ()),H)) (fun t4 H=>some (.up (.inr t4),H))
noncomputable def g5_p19 (R:Type) (t0:Sl) (t5:Int) (t6:Option (Nat × Nat)) (t8:Sl) (t9:Sl) (t10:Int) (H:Heap) (kE0:Heap→Option R) (kR:Bool→Heap→Option R):Option R :=
  (tlim (g5_p19_b) (t0,t5,t6,t8,t9,t10) H).bind fun p=>cas p.1 (fun r=>kE0  p.2) (fun r0=>kR r0 p.2)
theorem g5_p19_lin {R S:Type} {k:S→Option R} {t0:Sl} {t5:Int} {t6:Option (Nat × Nat)} {t8:Sl} {t9:Sl} {t10:Int} {H:Heap} {fkE0:Heap→Option R} {gkE0:Heap→Option S} {fkR:Bool→Heap→Option R} {gkR:Bool→Heap→Option S} (hkE0:∀ H,fkE0 H = (gkE0 H).bind k) (hkR:∀ t4 H,fkR t4 H = (gkR t4 H).bind k):g5_p19 R t0 t5 t6 t8 t9 t10 H fkE0 fkR = (g5_p19 S t0 t5 t6 t8 t9 t10 H gkE0 gkR).bind k:=by
  exact bl fun p=>cas_lin (fun _=>hkE0 _) (fun _=>hkR _ _)
theorem g5_p19_eq {R:Type} (t0:Sl) (t5:Int) (t6:Option (Nat × Nat)) (t8:Sl) (t9:Sl) (t10:Int) (H:Heap) (K:Ex→Fr→Heap→Option R):ev2 Try.prog (E5) loopLim lv5 Try.f5.ntmps kp5 c5_15 [(0,(V.sl t0)),(5,(V.i .i64 t5)),(6,(V.p t6)),(8,(V.sl t8)),(9,(V.sl t9)),(10,(V.i .i64 t10))] H K = g5_p19 R t0 t5 t6 t8 t9 t10 H (fun H=>K (.exit 0) [] H) (fun t4 H=>K .ret [(4,(V.b t4))] H):=by
  delta c5_15
  delta g5_p19
  refine (ev2_tlim (b:=g5_p19_b) (es:=g5_p19_es) (er:=g5_p19_er) (by rintro (r | r) <;> exact nofun) (fun s H=>?_) (t0,t5,t6,t8,t9,t10) H K).trans (bc fun p=>by rcases p with ⟨(r | r),H⟩ <;> rfl)
  exact (g5_p18_eq s.1 s.2.1 s.2.2.1 s.2.2.2.1 s.2.2.2.2.1 s.2.2.2.2.2 H ret3).trans (g5_p18_lin (fun _ _ _ _ _ _ _=>rfl) (fun _=>rfl) (fun _ _=>rfl))
noncomputable def g5_p20 (R:Type) (t0:Sl) (t5:Int) (t6:Option (Nat × Nat)) (t8:Sl) (t9:Sl) (t10:Int) (H:Heap) (kN:Heap→Option R) (kR:Bool→Heap→Option R):Option R :=
  g5_p19 R t0 t5 t6 t8 t9 t10 H (fun H=>kN  H) (fun t4 H=>kR t4 H)
theorem g5_p20_lin {R S:Type} {k:S→Option R} {t0:Sl} {t5:Int} {t6:Option (Nat × Nat)} {t8:Sl} {t9:Sl} {t10:Int} {H:Heap} {fkN:Heap→Option R} {gkN:Heap→Option S} {fkR:Bool→Heap→Option R} {gkR:Bool→Heap→Option S} (hkN:∀ H,fkN H = (gkN H).bind k) (hkR:∀ t4 H,fkR t4 H = (gkR t4 H).bind k):g5_p20 R t0 t5 t6 t8 t9 t10 H fkN fkR = (g5_p20 S t0 t5 t6 t8 t9 t10 H gkN gkR).bind k:=by
  exact g5_p19_lin (fun _=>hkN _) (fun _ _=>hkR _ _)
theorem g5_p20_eq {R:Type} (t0:Sl) (t5:Int) (t6:Option (Nat × Nat)) (t8:Sl) (t9:Sl) (t10:Int) (H:Heap) (K:Ex→Fr→Heap→Option R):ev2 Try.prog (E5) loopLim lv5 Try.f5.ntmps kp5 c5_16 [(0,(V.sl t0)),(5,(V.i .i64 t5)),(6,(V.p t6)),(8,(V.sl t8)),(9,(V.sl t9)),(10,(V.i .i64 t10))] H K = g5_p20 R t0 t5 t6 t8 t9 t10 H (fun H=>K .normal [] H) (fun t4 H=>K .ret [(4,(V.b t4))] H):=by
  delta c5_16
  rw [ev2_block]
  delta g5_p20
  exact (g5_p19_eq t0 t5 t6 t8 t9 t10 H (kBlock kp5 0 K))
noncomputable def g5_p21 (R:Type) (H:Heap) (kR:Bool→Heap→Option R):Option R :=
  g9 R H fun x113 h114 =>
  kR x113 h114
theorem g5_p21_eq {R:Type} (H:Heap) (K:Ex→Fr→Heap→Option R):ev2 Try.prog (E5) loopLim lv5 Try.f5.ntmps kp5 c5_17 [] H K = g5_p21 R H (fun t4 H=>K .ret [(4,(V.b t4))] H):=by kernel_rfl
theorem g5_p21_lin {R S:Type} {k:S→Option R} {H:Heap} {fkR:Bool→Heap→Option R} {gkR:Bool→Heap→Option S} (hkR:∀ t4 H,fkR t4 H = (gkR t4 H).bind k):g5_p21 R H fkR = (g5_p21 S H gkR).bind k:=by
  delta g5_p21; exact (
    g9_lin.l fun x113 h114 =>
    hkR _ _)
noncomputable def g5_p22 (R:Type) (t0:Sl) (t5:Int) (t6:Option (Nat × Nat)) (t8:Sl) (t9:Sl) (t10:Int) (H:Heap) (kR:Bool→Heap→Option R):Option R :=
  g5_p20 R t0 t5 t6 t8 t9 t10 H (fun H=>g5_p21 R H (fun t4 H=>kR t4 H)) (fun t4 H=>kR t4 H)
theorem g5_p22_lin {R S:Type} {k:S→Option R} {t0:Sl} {t5:Int} {t6:Option (Nat × Nat)} {t8:Sl} {t9:Sl} {t10:Int} {H:Heap} {fkR:Bool→Heap→Option R} {gkR:Bool→Heap→Option S} (hkR:∀ t4 H,fkR t4 H = (gkR t4 H).bind k):g5_p22 R t0 t5 t6 t8 t9 t10 H fkR = (g5_p22 S t0 t5 t6 t8 t9 t10 H gkR).bind k:=by
  exact g5_p20_lin (fun _=>g5_p21_lin (fun _ _=>hkR _ _)) (fun _ _=>hkR _ _)
theorem g5_p22_eq {R:Type} (t0:Sl) (t5:Int) (t6:Option (Nat × Nat)) (t8:Sl) (t9:Sl) (t10:Int) (H:Heap) (K:Ex→Fr→Heap→Option R):ev2 Try.prog (E5) loopLim lv5 Try.f5.ntmps kp5 c5_18 [(0,(V.sl t0)),(5,(V.i .i64 t5)),(6,(V.p t6)),(8,(V.sl t8)),(9,(V.sl t9)),(10,(V.i .i64 t10))] H K = g5_p22 R t0 t5 t6 t8 t9 t10 H (fun t4 H=>K .ret [(4,(V.b t4))] H):=by
  delta c5_18
  rw [ev2_seq]
  delta g5_p22
  exact (g5_p20_eq t0 t5 t6 t8 t9 t10 H (kSeq (fun fr H=>ev2 Try.prog (E5) loopLim lv5 Try.f5.ntmps kp5 c5_17 fr H K) K)).trans (congr (congrArg (g5_p20 R t0 t5 t6 t8 t9 t10 H) (funext fun H=>(kSeq_n _ _ _ _).trans (g5_p21_eq H K))) rfl)
noncomputable def g5_p23 (R:Type) (t0:Sl) (t1:Int) (H:Heap) (kR:Bool→Heap→Option R):Option R :=
  g5_p0 R t0 t1 H (fun t0 t5 t6 t8 t9 t10 H=>g5_p22 R t0 t5 t6 t8 t9 t10 H (fun t4 H=>kR t4 H)) (fun t4 H=>kR t4 H)
theorem g5_p23_lin {R S:Type} {k:S→Option R} {t0:Sl} {t1:Int} {H:Heap} {fkR:Bool→Heap→Option R} {gkR:Bool→Heap→Option S} (hkR:∀ t4 H,fkR t4 H = (gkR t4 H).bind k):g5_p23 R t0 t1 H fkR = (g5_p23 S t0 t1 H gkR).bind k:=by
  exact g5_p0_lin (fun _ _ _ _ _ _ _=>g5_p22_lin (fun _ _=>hkR _ _)) (fun _ _=>hkR _ _)
theorem g5_p23_eq {R:Type} (t0:Sl) (t1:Int) (H:Heap) (K:Ex→Fr→Heap→Option R):ev2 Try.prog (E5) loopLim lv5 Try.f5.ntmps kp5 c5_19 [(0,(V.sl t0)),(1,(V.i .u8 t1))] H K = g5_p23 R t0 t1 H (fun t4 H=>K .ret [(4,(V.b t4))] H):=by
  delta c5_19
  delta g5_p23
  exact (g5_p0_eq _ t0 t1 H K).trans (congr (congrArg (g5_p0 R t0 t1 H) (funext fun t0=>funext fun t5=>funext fun t6=>funext fun t8=>funext fun t9=>funext fun t10=>funext fun H=>g5_p22_eq t0 t5 t6 t8 t9 t10 H K)) rfl)
noncomputable def g5_r:T5:=fun R t0 t1 H K =>
  g5_p23 R t0 t1 H (fun t4 H =>
    K t4 H)
theorem g5_r_lin:Lin5 (g5_r):=by
  constructor
  intro R S k t0 t1 H f g h
  exact g5_p23_lin (fun t4 H =>
    h _ _)
theorem g5_fn {R:Type} (t0:Sl) (t1:Int) (H:Heap) (K:V→Heap→Option R):evFn2 Try.prog (E5) loopLim lv5 Try.f5 kp5 [(V.sl t0),(V.i .u8 t1)] H K = g5_r R t0 t1 H (fun r0 H=>K (V.b r0) H):=by
  have h0 : ∀ (t4 : Bool) (H : Heap), kFn2 Try.prog Try.f5.results.toList K .ret [(4, (V.b t4))] H =
      K (V.b t4) H:=by intros; kernel_rfl
  have e0:=evFn2_code2 (P:=Try.prog) (c:=c5_19) (E:=(E5)) (lr:=loopLim) (lv:=lv5) (kp:=kp5) (fn:=Try.f5) (args:=[(V.sl t0),(V.i .u8 t1)]) H K (by kernel_rfl) (Nat.le_of_ble_eq_true (by kernel_rfl)) (by kernel_rfl) (by kernel_rfl)
  have e1:ev2 Try.prog (E5) loopLim lv5 Try.f5.ntmps kp5 c5_19 (argFr 0 [(V.sl t0),(V.i .u8 t1)]) H (kFn2 Try.prog Try.f5.results.toList K) = ev2 Try.prog (E5) loopLim lv5 Try.f5.ntmps kp5 c5_19 [(0,(V.sl t0)),(1,(V.i .u8 t1))] H (kFn2 Try.prog Try.f5.results.toList K):=by kernel_rfl
  refine (e0.trans e1).trans ?_
  delta g5_r
  exact (g5_p23_eq t0 t1 H (kFn2 Try.prog Try.f5.results.toList K)).trans (congrArg (g5_p23 R t0 t1 H) (funext fun t4=>funext fun H=>h0 t4 H))
theorem g5_ok:FunOK Try.prog 5 (w5 (g5_r)):=by
  refine (runF2_ok (E5_good) mixed lim_ok Try.func5 (by kernel_rfl) lv5 kp5).of_le fun R args H K r hk=>?_
  unfold w5 at hk
  split at hk
  · exact (g5_fn _ _ H K).trans hk
  · cases hk
noncomputable def g5:T5:=g5_r
theorem g5_lin:Lin5 g5:=g5_r_lin
theorem ok5:FunOK Try.prog 5 (w5 g5):=g5_ok
def kp17:Nat→Option (List Nat):=kpOf [(0,[]),(1,[1,2]),(2,[1,22]),(3,[0]),(4,[1,3]),(5,[1,3,24]),(6,[1,3]),(7,[1,3,6]),(8,[1,3,40]),(9,[0]),(10,[1,9]),(11,[1,9,10,11,12]),(12,[1,9,10,11,12,15]),(13,[1,9,10,11,12,15,16]),(14,[0]),(100000,[1]),(100001,[1,3]),(200000,[1,3]),(200001,[1,3]),(300000,[0]),(400022,[1]),(400024,[1,3]),(400040,[1,3])]
noncomputable def E17:FEnv:=[(10,w10 g10),(13,w13 g13),(11,w11 g11),(14,w14 g14)]
theorem E17_good:EnvGood Try.prog (E17):=(((((EnvGood.nil _).cons ok14 (w14_lin g14_lin)).cons ok11 (w11_lin g11_lin)).cons ok13 (w13_lin g13_lin)).cons ok10 (w10_lin g10_lin))
def lv17:Nat→Bool:=lvOf []
noncomputable def b17:Code:=Try.f17.body.getD .skip
noncomputable def c17_0:Code:=(.seq (codeAt [1,1,1,0,1,0,0,0,0] b17) (.seq (.cond (.tmp 24) .skip (.exit 0)) (.seq (.block 1 (.seq (codeAt [1,1,1,0,1,0,0,1,0,0,0] b17) (.seq (codeAt [1,1,1,0,1,0,0,1,0,0,1,0] b17) (.cond (.tmp 40) (.seq (codeAt [1,1,1,0,1,0,0,1,0,0,1,1,0,0] b17) .ret) .skip)))) (codeAt [1,1,1,0,1,0,0,1,1] b17))))
noncomputable def c17_1:Code:=(.loop c17_0)
noncomputable def c17_2:Code:=(.block 0 c17_1)
noncomputable def c17_3:Code:=(.seq (codeAt [1,1,1,1,0] b17) (.seq (codeAt [1,1,1,1,1,0] b17) (.seq (codeAt [1,1,1,1,1,1,0] b17) (.seq (codeAt [1,1,1,1,1,1,1,0] b17) (.seq (codeAt [1,1,1,1,1,1,1,1,0] b17) .ret)))))
noncomputable def c17_4:Code:=(.seq c17_2 c17_3)
noncomputable def c17_5:Code:=(.seq (codeAt [0] b17) (.seq (codeAt [1,0] b17) (.seq (codeAt [1,1,0,0] b17) (.seq (.cond (.tmp 22) (.seq (codeAt [1,1,0,1,0,0] b17) .ret) .skip) (.seq (codeAt [1,1,1,0,0] b17) c17_4)))))
noncomputable def g17_p0 (R:Type) (H:Heap) (kN:Option (Nat × Nat)→Int→Heap→Option R) (kR:Bool→Heap→Option R):Option R :=
  g10 R (3:Int) H fun x10 x11 h12 =>
  sel (x11 != (0:Int)) (
    kR false h12) (
    kN x10 (0:Int) h12)
theorem g17_p0_eq {R:Type} (c2:Code) (H:Heap) (K:Ex→Fr→Heap→Option R):ev2 Try.prog (E17) loopLim lv17 Try.f17.ntmps kp17 (.seq (codeAt [0] b17) (.seq (codeAt [1,0] b17) (.seq (codeAt [1,1,0,0] b17) (.seq (.cond (.tmp 22) (.seq (codeAt [1,1,0,1,0,0] b17) .ret) .skip) (.seq (codeAt [1,1,1,0,0] b17) c2))))) [] H K = g17_p0 R H (fun t1 t3 H=>ev2 Try.prog (E17) loopLim lv17 Try.f17.ntmps kp17 c2 [(1,(V.p t1)),(3,(V.i .i64 t3))] H K) (fun t0 H=>K .ret [(0,(V.b t0))] H):=by kernel_rfl
theorem g17_p0_lin {R S:Type} {k:S→Option R} {H:Heap} {fkN:Option (Nat × Nat)→Int→Heap→Option R} {gkN:Option (Nat × Nat)→Int→Heap→Option S} {fkR:Bool→Heap→Option R} {gkR:Bool→Heap→Option S} (hkN:∀ t1 t3 H,fkN t1 t3 H = (gkN t1 t3 H).bind k) (hkR:∀ t0 H,fkR t0 H = (gkR t0 H).bind k):g17_p0 R H fkN fkR = (g17_p0 S H gkN gkR).bind k:=by
  delta g17_p0; exact (
    g10_lin.l fun x10 x11 h12 =>
    sl_lin (
      hkR _ _) (
      hkN _ _ _))
noncomputable def g17_p1 (R:Type) (t1:Option (Nat × Nat)) (t3:Int) (H:Heap) (kN:Option (Nat × Nat)→Int→Heap→Option R) (kE0:Option (Nat × Nat)→Heap→Option R) (kR:Bool→Heap→Option R):Option R :=
  sel (decide (t3 < (4096:Int))) (
    g13 R t1 (IntKind.wrap .u16 (Int.tmod t3 (7:Int))) (IntKind.wrap .u32 t3) true (1:Int) (Sl.mk none 0 (.ex 0)) H fun x13 x14 x15 h16 =>
    sel (x15 != (0:Int)) (
      kR false h16) (
      kN t1 (IntKind.wrap .i64 (t3 + (1:Int))) h16)) (
    kE0 t1 H)
theorem g17_p1_eq {R:Type} (t1:Option (Nat × Nat)) (t3:Int) (H:Heap) (K:Ex→Fr→Heap→Option R):ev2 Try.prog (E17) loopLim lv17 Try.f17.ntmps kp17 c17_0 [(1,(V.p t1)),(3,(V.i .i64 t3))] H K = g17_p1 R t1 t3 H (fun t1 t3 H=>K .normal [(1,(V.p t1)),(3,(V.i .i64 t3))] H) (fun t1 H=>K (.exit 0) [(1,(V.p t1))] H) (fun t0 H=>K .ret [(0,(V.b t0))] H):=by kernel_rfl
theorem g17_p1_lin {R S:Type} {k:S→Option R} {t1:Option (Nat × Nat)} {t3:Int} {H:Heap} {fkN:Option (Nat × Nat)→Int→Heap→Option R} {gkN:Option (Nat × Nat)→Int→Heap→Option S} {fkE0:Option (Nat × Nat)→Heap→Option R} {gkE0:Option (Nat × Nat)→Heap→Option S} {fkR:Bool→Heap→Option R} {gkR:Bool→Heap→Option S} (hkN:∀ t1 t3 H,fkN t1 t3 H = (gkN t1 t3 H).bind k) (hkE0:∀ t1 H,fkE0 t1 H = (gkE0 t1 H).bind k) (hkR:∀ t0 H,fkR t0 H = (gkR t0 H).bind k):g17_p1 R t1 t3 H fkN fkE0 fkR = (g17_p1 S t1 t3 H gkN gkE0 gkR).bind k:=by
  delta g17_p1; exact (
    sl_lin (
      g13_lin.l fun x13 x14 x15 h16 =>
      sl_lin (
        hkR _ _) (
        hkN _ _ _)) (
      hkE0 _ _))
abbrev g17_p2_S:=(Option (Nat × Nat)) × Int
abbrev g17_p2_O:=Sum ((Option (Nat × Nat))) (Bool)
def g17_p2_es (s:g17_p2_S):Fr:=[(1,(V.p s.1)),(3,(V.i .i64 s.2))]
def g17_p2_er:g17_p2_O→Ex × Fr
  | (.inl r)=>((.exit 0),[(1,(V.p r))])
  | (.inr r)=>(.ret,[(0,(V.b r))])
noncomputable def g17_p2_b (s:g17_p2_S) (H:Heap):Option (Rd g17_p2_S g17_p2_O × Heap) :=
  g17_p1 _ s.1 s.2 H (fun t1 t3 H=>some (.go (t1,t3),H)) (fun t1 H=>some (.up (.inl t1),H)) (fun t0 H=>some (.up (.inr t0),H))
noncomputable def g17_p2 (R:Type) (t1:Option (Nat × Nat)) (t3:Int) (H:Heap) (kE0:Option (Nat × Nat)→Heap→Option R) (kR:Bool→Heap→Option R):Option R :=
  (tlim (g17_p2_b) (t1,t3) H).bind fun p=>cas p.1 (fun r=>kE0 r p.2) (fun r0=>kR r0 p.2)
theorem g17_p2_lin {R S:Type} {k:S→Option R} {t1:Option (Nat × Nat)} {t3:Int} {H:Heap} {fkE0:Option (Nat × Nat)→Heap→Option R} {gkE0:Option (Nat × Nat)→Heap→Option S} {fkR:Bool→Heap→Option R} {gkR:Bool→Heap→Option S} (hkE0:∀ t1 H,fkE0 t1 H = (gkE0 t1 H).bind k) (hkR:∀ t0 H,fkR t0 H = (gkR t0 H).bind k):g17_p2 R t1 t3 H fkE0 fkR = (g17_p2 S t1 t3 H gkE0 gkR).bind k:=by
  exact bl fun p=>cas_lin (fun _=>hkE0 _ _) (fun _=>hkR _ _)
theorem g17_p2_eq {R:Type} (t1:Option (Nat × Nat)) (t3:Int) (H:Heap) (K:Ex→Fr→Heap→Option R):ev2 Try.prog (E17) loopLim lv17 Try.f17.ntmps kp17 c17_1 [(1,(V.p t1)),(3,(V.i .i64 t3))] H K = g17_p2 R t1 t3 H (fun t1 H=>K (.exit 0) [(1,(V.p t1))] H) (fun t0 H=>K .ret [(0,(V.b t0))] H):=by
  delta c17_1
  delta g17_p2
  refine (ev2_tlim (b:=g17_p2_b) (es:=g17_p2_es) (er:=g17_p2_er) (by rintro (r | r) <;> exact nofun) (fun s H=>?_) (t1,t3) H K).trans (bc fun p=>by rcases p with ⟨(r | r),H⟩ <;> rfl)
  exact (g17_p1_eq s.1 s.2 H ret3).trans (g17_p1_lin (fun _ _ _=>rfl) (fun _ _=>rfl) (fun _ _=>rfl))
noncomputable def g17_p3 (R:Type) (t1:Option (Nat × Nat)) (t3:Int) (H:Heap) (kN:Option (Nat × Nat)→Heap→Option R) (kR:Bool→Heap→Option R):Option R :=
  g17_p2 R t1 t3 H (fun t1 H=>kN t1 H) (fun t0 H=>kR t0 H)
theorem g17_p3_lin {R S:Type} {k:S→Option R} {t1:Option (Nat × Nat)} {t3:Int} {H:Heap} {fkN:Option (Nat × Nat)→Heap→Option R} {gkN:Option (Nat × Nat)→Heap→Option S} {fkR:Bool→Heap→Option R} {gkR:Bool→Heap→Option S} (hkN:∀ t1 H,fkN t1 H = (gkN t1 H).bind k) (hkR:∀ t0 H,fkR t0 H = (gkR t0 H).bind k):g17_p3 R t1 t3 H fkN fkR = (g17_p3 S t1 t3 H gkN gkR).bind k:=by
  exact g17_p2_lin (fun _ _=>hkN _ _) (fun _ _=>hkR _ _)
theorem g17_p3_eq {R:Type} (t1:Option (Nat × Nat)) (t3:Int) (H:Heap) (K:Ex→Fr→Heap→Option R):ev2 Try.prog (E17) loopLim lv17 Try.f17.ntmps kp17 c17_2 [(1,(V.p t1)),(3,(V.i .i64 t3))] H K = g17_p3 R t1 t3 H (fun t1 H=>K .normal [(1,(V.p t1))] H) (fun t0 H=>K .ret [(0,(V.b t0))] H):=by
  delta c17_2
  rw [ev2_block]
  delta g17_p3
  exact (g17_p2_eq t1 t3 H (kBlock kp17 0 K))
noncomputable def g17_p4 (R:Type) (t1:Option (Nat × Nat)) (H:Heap) (kR:Bool→Heap→Option R):Option R :=
  g13 R t1 (9:Int) (9:Int) true (1:Int) (Sl.mk none 0 (.ex 0)) H fun x17 x18 x19 h20 =>
  alo h20 (.cells [(V.i .u8 (5:Int))] 5 false) fun i21 h22 =>
  g13 R t1 (9:Int) (9:Int) true (0:Int) (Sl.mk (some (i21,0)) 1 (.ex 1)) h22 fun x23 x24 x25 h26 =>
  g13 R t1 (3:Int) (3:Int) true (2:Int) (Sl.mk none 0 (.ex 0)) h26 fun x27 x28 x29 h30 =>
  g11 R t1 h30 fun x31 h32 =>
  sel (x19 == (9:Int)) (
    sel (x25 == (0:Int)) (
      sel x24 (
        ((slBytes h32 x23)).bind fun x33 =>
        sel (strEq x33 str1) (
          sel (x29 == (0:Int)) (
            g14 R t1 h32 fun x34 h35 =>
            sel (x34 == (4096:Int)) (
              sel (((x31.len:Nat):Int) == (1:Int)) (
                if 0 ≤ (0:Int)∧(0:Int) < ((x31.len:Nat):Int) then (
                  (x31.a).bind fun q36 =>
                  ((h35).ldI .u16 q36.1 ((q36.2 + Int.toNat (0:Int) * 2) + 0)).bind fun x37 =>
                  ((h35).ldI .u32 q36.1 ((q36.2 + Int.toNat (0:Int) * 2) + 1)).bind fun x38 =>
                  kR ((x37 == (3:Int)) && ((x38 == (3:Int)) && true)) h35)
                else (
                  none)) (
                kR false h35)) (
              kR false h35)) (
            kR false h32)) (
          kR false h32)) (
        kR false h32)) (
      kR false h32)) (
    kR false h32)
theorem g17_p4_eq {R:Type} (t1:Option (Nat × Nat)) (H:Heap) (K:Ex→Fr→Heap→Option R):ev2 Try.prog (E17) loopLim lv17 Try.f17.ntmps kp17 c17_3 [(1,(V.p t1))] H K = g17_p4 R t1 H (fun t0 H=>K .ret [(0,(V.b t0))] H):=by kernel_rfl
theorem g17_p4_lin {R S:Type} {k:S→Option R} {t1:Option (Nat × Nat)} {H:Heap} {fkR:Bool→Heap→Option R} {gkR:Bool→Heap→Option S} (hkR:∀ t0 H,fkR t0 H = (gkR t0 H).bind k):g17_p4 R t1 H fkR = (g17_p4 S t1 H gkR).bind k:=by
  delta g17_p4
  repeat' (first | with_reducible (first | exact hkR _ _ | refine g13_lin.l fun _ _ _ _=>?_ | refine alo_lin fun _ _=>?_ | refine g11_lin.l fun _ _=>?_ | refine sl_lin ?_ ?_ | refine g14_lin.l fun _ _=>?_ | refine il ?_ ?_ | refine bl fun _=>?_) | exact (rfl:(none:Option R) = (none:Option S).bind k))
noncomputable def g17_p5 (R:Type) (t1:Option (Nat × Nat)) (t3:Int) (H:Heap) (kR:Bool→Heap→Option R):Option R :=
  g17_p3 R t1 t3 H (fun t1 H=>g17_p4 R t1 H (fun t0 H=>kR t0 H)) (fun t0 H=>kR t0 H)
theorem g17_p5_lin {R S:Type} {k:S→Option R} {t1:Option (Nat × Nat)} {t3:Int} {H:Heap} {fkR:Bool→Heap→Option R} {gkR:Bool→Heap→Option S} (hkR:∀ t0 H,fkR t0 H = (gkR t0 H).bind k):g17_p5 R t1 t3 H fkR = (g17_p5 S t1 t3 H gkR).bind k:=by
  exact g17_p3_lin (fun _ _=>g17_p4_lin (fun _ _=>hkR _ _)) (fun _ _=>hkR _ _)
theorem g17_p5_eq {R:Type} (t1:Option (Nat × Nat)) (t3:Int) (H:Heap) (K:Ex→Fr→Heap→Option R):ev2 Try.prog (E17) loopLim lv17 Try.f17.ntmps kp17 c17_4 [(1,(V.p t1)),(3,(V.i .i64 t3))] H K = g17_p5 R t1 t3 H (fun t0 H=>K .ret [(0,(V.b t0))] H):=by
  delta c17_4
  rw [ev2_seq]
  delta g17_p5
  exact (g17_p3_eq t1 t3 H (kSeq (fun fr H=>ev2 Try.prog (E17) loopLim lv17 Try.f17.ntmps kp17 c17_3 fr H K) K)).trans (congr (congrArg (g17_p3 R t1 t3 H) (funext fun t1=>funext fun H=>(kSeq_n _ _ _ _).trans (g17_p4_eq t1 H K))) rfl)
noncomputable def g17_p6 (R:Type) (H:Heap) (kR:Bool→Heap→Option R):Option R :=
  g17_p0 R H (fun t1 t3 H=>g17_p5 R t1 t3 H (fun t0 H=>kR t0 H)) (fun t0 H=>kR t0 H)
theorem g17_p6_lin {R S:Type} {k:S→Option R} {H:Heap} {fkR:Bool→Heap→Option R} {gkR:Bool→Heap→Option S} (hkR:∀ t0 H,fkR t0 H = (gkR t0 H).bind k):g17_p6 R H fkR = (g17_p6 S H gkR).bind k:=by
  exact g17_p0_lin (fun _ _ _=>g17_p5_lin (fun _ _=>hkR _ _)) (fun _ _=>hkR _ _)
theorem g17_p6_eq {R:Type} (H:Heap) (K:Ex→Fr→Heap→Option R):ev2 Try.prog (E17) loopLim lv17 Try.f17.ntmps kp17 c17_5 [] H K = g17_p6 R H (fun t0 H=>K .ret [(0,(V.b t0))] H):=by
  delta c17_5
  delta g17_p6
  exact (g17_p0_eq _ H K).trans (congr (congrArg (g17_p0 R H) (funext fun t1=>funext fun t3=>funext fun H=>g17_p5_eq t1 t3 H K)) rfl)
noncomputable def g17_r:T17:=fun R H K =>
  g17_p6 R H (fun t0 H =>
    K t0 H)
theorem g17_r_lin:Lin17 (g17_r):=by
  constructor
  intro R S k H f g h
  exact g17_p6_lin (fun t0 H =>
    h _ _)
theorem g17_fn {R:Type} (H:Heap) (K:V→Heap→Option R):evFn2 Try.prog (E17) loopLim lv17 Try.f17 kp17 [] H K = g17_r R H (fun r0 H=>K (V.b r0) H):=by
  have h0 : ∀ (t0 : Bool) (H : Heap), kFn2 Try.prog Try.f17.results.toList K .ret [(0, (V.b t0))] H =
      K (V.b t0) H:=by intros; kernel_rfl
  have e0:=evFn2_code2 (P:=Try.prog) (c:=c17_5) (E:=(E17)) (lr:=loopLim) (lv:=lv17) (kp:=kp17) (fn:=Try.f17) (args:=[]) H K (by kernel_rfl) (Nat.le_of_ble_eq_true (by kernel_rfl)) (by kernel_rfl) (by kernel_rfl)
  have e1:ev2 Try.prog (E17) loopLim lv17 Try.f17.ntmps kp17 c17_5 (argFr 0 []) H (kFn2 Try.prog Try.f17.results.toList K) = ev2 Try.prog (E17) loopLim lv17 Try.f17.ntmps kp17 c17_5 [] H (kFn2 Try.prog Try.f17.results.toList K):=by kernel_rfl
  refine (e0.trans e1).trans ?_
  delta g17_r
  exact (g17_p6_eq H (kFn2 Try.prog Try.f17.results.toList K)).trans (congrArg (g17_p6 R H) (funext fun t0=>funext fun H=>h0 t0 H))
theorem g17_ok:FunOK Try.prog 17 (w17 (g17_r)):=by
  refine (runF2_ok (E17_good) mixed lim_ok Try.func17 (by kernel_rfl) lv17 kp17).of_le fun R args H K r hk=>?_
  unfold w17 at hk
  split at hk
  · exact (g17_fn H K).trans hk
  · cases hk
noncomputable def g17:T17:=g17_r
theorem g17_lin:Lin17 g17:=g17_r_lin
theorem ok17:FunOK Try.prog 17 (w17 g17):=g17_ok
end Go.Proofs.Ytobebcfkddimkaa

