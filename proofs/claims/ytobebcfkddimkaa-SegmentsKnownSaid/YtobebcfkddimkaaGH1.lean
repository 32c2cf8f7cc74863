/- Printed: functions as the machine runs them. -/
import Derived.Test.YtobebcfkddimkaaGH0
namespace Go.Proofs.Ytobebcfkddimkaa
open Go AM Go.RowKit
set_option linter.unusedVariables false
def kp4:Nat→Option (List Nat):=kpOf [(0,[0,1,2]),(1,[0,1,2,27]),(2,[6]),(3,[0,1,2,7,8]),(4,[0,1,2,7,34]),(5,[6]),(6,[0,1,2,7,9]),(7,[0,1,2,7,9,10]),(8,[0,1,2,7,9,10,11]),(9,[0,1,2,7,9,10,11,47]),(10,[0,1,2,7,9,10,11]),(11,[0,1,2,7,9,10,11,12]),(12,[0,1,2,7,9,10,11,12,57]),(13,[0,1,2,7,9,10,11,12]),(14,[0,1,2,7,9,10,11,12,13]),(15,[0,1,2,7,9,10,11,12,13,68]),(16,[0,1,2,7,9,10,11,12,13]),(17,[0,1,2,7,9,10,11,12,13,98]),(18,[0,1,2,7,9,10,11,12,13]),(19,[0,1,2,7,9,10,11,12,14,15,16]),(20,[0,1,2,7,9,10,11,12,14,15,16,115]),(21,[0,1,2,7,9,10,11,12,14,15,16,125]),(22,[0,1,2,7,9,10,11,12,14,15,16]),(23,[0,1,2,7,9,10,11,12,14,15,16,131]),(24,[6]),(25,[0,1,2,7,9,10,11,12,15,16,17,18,19]),(26,[0,1,2,7,9,10,11,12,15,16,17,18,19]),(27,[0,1,2,7,9,10,11,192]),(28,[6]),(29,[6]),(100000,[7]),(100001,[0,1,2,7,9,10,11]),(100002,[0,1,2,7,9,10,11,12]),(100003,[0,1,2,7,9,10,11,12,13]),(200000,[0,1,2,7,9,10,11]),(200001,[0,1,2,7,9,10,11]),(200002,[0,1,2,7,9,10,11,12,13]),(200003,[0,1,2,7,9,10,11,12,13]),(300000,[6]),(400027,[0,1,2]),(400034,[0,1,2,7]),(400047,[0,1,2,7,9,10,11]),(400057,[0,1,2,7,9,10,11,12]),(400068,[0,1,2,7,9,10,11,12,13]),(400098,[0,1,2,7,9,10,11,12,13]),(400115,[0,1,2,7,9,10,11,12,14,15,16]),(400125,[0,1,2,7,9,10,11,12,14,15,16]),(400131,[0,1,2,7,9,10,11,12,14,15,16]),(400192,[0,1,2,7,9,10,11])]
noncomputable def E4:FEnv:=[(9,w9 g9),(10,w10 g10),(12,w12 g12),(11,w11 g11),(13,w13 g13),(14,w14 g14)]
theorem E4_good:EnvGood Try.prog (E4):=(((((((EnvGood.nil _).cons ok14 (w14_lin g14_lin)).cons ok13 (w13_lin g13_lin)).cons ok11 (w11_lin g11_lin)).cons ok12 (w12_lin g12_lin)).cons ok10 (w10_lin g10_lin)).cons ok9 (w9_lin g9_lin))
def lv4:Nat→Bool:=lvOf []
noncomputable def b4:Code:=Try.f4.body.getD .skip
noncomputable def c4_0:Code:=(.seq (codeAt [1,1,1,1,1,1,0,1,0,0,1,0,0,1,1,0,1,0,0,0,0] b4) (.seq (.cond (.tmp 68) .skip (.exit 2)) (.seq (.block 3 (.seq (codeAt [1,1,1,1,1,1,0,1,0,0,1,0,0,1,1,0,1,0,0,1,0,0,0] b4) (.cond (.tmp 98) (codeAt [1,1,1,1,1,1,0,1,0,0,1,0,0,1,1,0,1,0,0,1,0,0,1,0] b4) .skip))) (codeAt [1,1,1,1,1,1,0,1,0,0,1,0,0,1,1,0,1,0,0,1,1] b4))))
noncomputable def c4_1:Code:=(.loop c4_0)
noncomputable def c4_2:Code:=(.block 2 c4_1)
noncomputable def c4_3:Code:=(.seq (codeAt [1,1,1,1,1,1,0,1,0,0,1,0,0,1,1,1,1,1,1,1,0] b4) (.seq (codeAt [1,1,1,1,1,1,0,1,0,0,1,0,0,1,1,1,1,1,1,1,1,0] b4) (.cond (.tmp 192) (.seq (codeAt [1,1,1,1,1,1,0,1,0,0,1,0,0,1,1,1,1,1,1,1,1,1,0,0] b4) .ret) .skip)))
noncomputable def c4_4:Code:=(.seq (codeAt [1,1,1,1,1,1,0,1,0,0,1,0,0,1,1,1,0] b4) (.seq (codeAt [1,1,1,1,1,1,0,1,0,0,1,0,0,1,1,1,1,0,0] b4) (.seq (.cond (.tmp 115) (.exit 1) .skip) (.seq (codeAt [1,1,1,1,1,1,0,1,0,0,1,0,0,1,1,1,1,1,0,0] b4) (.seq (.cond (.tmp 125) (.seq (codeAt [1,1,1,1,1,1,0,1,0,0,1,0,0,1,1,1,1,1,0,1,0,0] b4) (.seq (codeAt [1,1,1,1,1,1,0,1,0,0,1,0,0,1,1,1,1,1,0,1,0,1,0] b4) (.cond (.tmp 131) (.seq (codeAt [1,1,1,1,1,1,0,1,0,0,1,0,0,1,1,1,1,1,0,1,0,1,1,0,0] b4) .ret) .skip))) .skip) (.seq (codeAt [1,1,1,1,1,1,0,1,0,0,1,0,0,1,1,1,1,1,1,0] b4) c4_3))))))
noncomputable def c4_5:Code:=(.seq c4_2 c4_4)
noncomputable def c4_6:Code:=(.seq (codeAt [1,1,1,1,1,1,0,1,0,0,1,0,0,0] b4) (.seq (codeAt [1,1,1,1,1,1,0,1,0,0,1,0,0,1,0,0] b4) (.seq (.cond (.tmp 57) (codeAt [1,1,1,1,1,1,0,1,0,0,1,0,0,1,0,1,0] b4) .skip) (.seq (codeAt [1,1,1,1,1,1,0,1,0,0,1,0,0,1,1,0,0] b4) c4_5))))
noncomputable def c4_7:Code:=(.block 1 c4_6)
noncomputable def c4_8:Code:=(codeAt [1,1,1,1,1,1,0,1,0,0,1,1] b4)
noncomputable def c4_9:Code:=(.seq c4_7 c4_8)
noncomputable def c4_10:Code:=(.seq (codeAt [1,1,1,1,1,1,0,1,0,0,0,0] b4) (.seq (.cond (.tmp 47) .skip (.exit 0)) c4_9))
noncomputable def c4_11:Code:=(.loop c4_10)
noncomputable def c4_12:Code:=(.block 0 c4_11)
noncomputable def c4_13:Code:=(.seq (codeAt [1,1,1,1,1,1,1,0] b4) .ret)
noncomputable def c4_14:Code:=(.seq c4_12 c4_13)
noncomputable def c4_15:Code:=(.seq (codeAt [0] b4) (.seq (codeAt [1,0,0] b4) (.seq (.cond (.tmp 27) (.seq (codeAt [1,0,1,0,0] b4) .ret) .skip) (.seq (codeAt [1,1,0] b4) (.seq (codeAt [1,1,1,0,0] b4) (.seq (.cond (.tmp 34) (.seq (codeAt [1,1,1,0,1,0,0] b4) .ret) .skip) (.seq (codeAt [1,1,1,1,0] b4) (.seq (codeAt [1,1,1,1,1,0] b4) (.seq (codeAt [1,1,1,1,1,1,0,0] b4) c4_14)))))))))
noncomputable def g4_p0 (R:Type) (t0:Sl) (t1:Sl) (t2:Int) (H:Heap) (kN:Sl→Sl→Int→Option (Nat × Nat)→Sl→Int→Int→Heap→Option R) (kR:Bool→Heap→Option R):Option R :=
  sel (decide (((t0.len:Nat):Int) > (8:Int))) (
    g9 R H fun x46 h47 =>
    kR x46 h47) (
    sel (decide (((t1.len:Nat):Int) > (200:Int))) (
      g9 R H fun x48 h49 =>
      kR x48 h49) (
      g10 R (100:Int) H fun x50 x51 h52 =>
      sel (x51 != (0:Int)) (
        kR false h52) (
        if 0 ≤ ((t0.len:Nat):Int)∧((t0.len:Nat):Int) ≤ ((t0.len:Nat):Int)∧((t0.len:Nat):Int) ≤ 9223372036854775807∧((t0.len:Nat):Int) * ((8:Nat):Int) ≤ 281474976710656 then (
          ((zeroCellsV Try.prog 3 (Int.toNat ((t0.len:Nat):Int)))).bind fun vs53 =>
          alo h52 (.cells vs53 3 false) fun i54 h55 =>
          kN t0 t1 t2 x50 (Sl.mk (some (i54,0)) (Int.toNat ((t0.len:Nat):Int)) (.ex (Int.toNat ((t0.len:Nat):Int)))) (0:Int) (0:Int) h55)
        else (
          none))))
theorem g4_p0_eq {R:Type} (c2:Code) (t0:Sl) (t1:Sl) (t2:Int) (H:Heap) (K:Ex→Fr→Heap→Option R):ev2 Try.prog (E4) loopLim lv4 Try.f4.ntmps kp4 (.seq (codeAt [0] b4) (.seq (codeAt [1,0,0] b4) (.seq (.cond (.tmp 27) (.seq (codeAt [1,0,1,0,0] b4) .ret) .skip) (.seq (codeAt [1,1,0] b4) (.seq (codeAt [1,1,1,0,0] b4) (.seq (.cond (.tmp 34) (.seq (codeAt [1,1,1,0,1,0,0] b4) .ret) .skip) (.seq (codeAt [1,1,1,1,0] b4) (.seq (codeAt [1,1,1,1,1,0] b4) (.seq (codeAt [1,1,1,1,1,1,0,0] b4) c2))))))))) [(0,(V.sl t0)),(1,(V.sl t1)),(2,(V.i .u8 t2))] H K = g4_p0 R t0 t1 t2 H (fun t0 t1 t2 t7 t9 t10 t11 H=>ev2 Try.prog (E4) loopLim lv4 Try.f4.ntmps kp4 c2 [(0,(V.sl t0)),(1,(V.sl t1)),(2,(V.i .u8 t2)),(7,(V.p t7)),(9,(V.sl t9)),(10,(V.i .i64 t10)),(11,(V.i .i64 t11))] H K) (fun t6 H=>K .ret [(6,(V.b t6))] H):=by kernel_rfl
theorem g4_p0_lin {R S:Type} {k:S→Option R} {t0:Sl} {t1:Sl} {t2:Int} {H:Heap} {fkN:Sl→Sl→Int→Option (Nat × Nat)→Sl→Int→Int→Heap→Option R} {gkN:Sl→Sl→Int→Option (Nat × Nat)→Sl→Int→Int→Heap→Option S} {fkR:Bool→Heap→Option R} {gkR:Bool→Heap→Option S} (hkN:∀ t0 t1 t2 t7 t9 t10 t11 H,fkN t0 t1 t2 t7 t9 t10 t11 H = (gkN t0 t1 t2 t7 t9 t10 t11 H).bind k) (hkR:∀ t6 H,fkR t6 H = (gkR t6 H).bind k):g4_p0 R t0 t1 t2 H fkN fkR = (g4_p0 S t0 t1 t2 H gkN gkR).bind k:=by
  delta g4_p0; exact (
    sl_lin (
      g9_lin.l fun x46 h47 =>
      hkR _ _) (
      sl_lin (
        g9_lin.l fun x48 h49 =>
        hkR _ _) (
        g10_lin.l fun x50 x51 h52 =>
        sl_lin (
          hkR _ _) (
          il (
            bl fun vs53 =>
            alo_lin fun i54 h55 =>
            hkN _ _ _ _ _ _ _ _) (
            rfl)))))
noncomputable def g4_p1 (R:Type) (t0:Sl) (t1:Sl) (t2:Int) (t7:Option (Nat × Nat)) (t9:Sl) (t10:Int) (t11:Int) (H:Heap) (kN:Sl→Sl→Int→Option (Nat × Nat)→Sl→Int→Int→Heap→Option R) (kE0:Option (Nat × Nat)→Heap→Option R):Option R :=
  sel (decide (((t0.len:Nat):Int) > (0:Int))) (
    sel (decide (t11 < (IntKind.wrap .i64 (((t1.len:Nat):Int) + (200:Int))))) (
      kN t0 t1 t2 t7 t9 t10 t11 H) (
      kE0 t7 H)) (
    kE0 t7 H)
theorem g4_p1_eq {R:Type} (c2:Code) (t0:Sl) (t1:Sl) (t2:Int) (t7:Option (Nat × Nat)) (t9:Sl) (t10:Int) (t11:Int) (H:Heap) (K:Ex→Fr→Heap→Option R):ev2 Try.prog (E4) loopLim lv4 Try.f4.ntmps kp4 (.seq (codeAt [1,1,1,1,1,1,0,1,0,0,0,0] b4) (.seq (.cond (.tmp 47) .skip (.exit 0)) c2)) [(0,(V.sl t0)),(1,(V.sl t1)),(2,(V.i .u8 t2)),(7,(V.p t7)),(9,(V.sl t9)),(10,(V.i .i64 t10)),(11,(V.i .i64 t11))] H K = g4_p1 R t0 t1 t2 t7 t9 t10 t11 H (fun t0 t1 t2 t7 t9 t10 t11 H=>ev2 Try.prog (E4) loopLim lv4 Try.f4.ntmps kp4 c2 [(0,(V.sl t0)),(1,(V.sl t1)),(2,(V.i .u8 t2)),(7,(V.p t7)),(9,(V.sl t9)),(10,(V.i .i64 t10)),(11,(V.i .i64 t11))] H K) (fun t7 H=>K (.exit 0) [(7,(V.p t7))] H):=by kernel_rfl
theorem g4_p1_lin {R S:Type} {k:S→Option R} {t0:Sl} {t1:Sl} {t2:Int} {t7:Option (Nat × Nat)} {t9:Sl} {t10:Int} {t11:Int} {H:Heap} {fkN:Sl→Sl→Int→Option (Nat × Nat)→Sl→Int→Int→Heap→Option R} {gkN:Sl→Sl→Int→Option (Nat × Nat)→Sl→Int→Int→Heap→Option S} {fkE0:Option (Nat × Nat)→Heap→Option R} {gkE0:Option (Nat × Nat)→Heap→Option S} (hkN:∀ t0 t1 t2 t7 t9 t10 t11 H,fkN t0 t1 t2 t7 t9 t10 t11 H = (gkN t0 t1 t2 t7 t9 t10 t11 H).bind k) (hkE0:∀ t7 H,fkE0 t7 H = (gkE0 t7 H).bind k):g4_p1 R t0 t1 t2 t7 t9 t10 t11 H fkN fkE0 = (g4_p1 S t0 t1 t2 t7 t9 t10 t11 H gkN gkE0).bind k:=by
  delta g4_p1; exact (
    sl_lin (
      sl_lin (
        hkN _ _ _ _ _ _ _ _) (
        hkE0 _ _)) (
      hkE0 _ _))
noncomputable def g4_p2 (R:Type) (t0:Sl) (t1:Sl) (t2:Int) (t7:Option (Nat × Nat)) (t9:Sl) (t10:Int) (t11:Int) (H:Heap) (kN:Sl→Sl→Int→Option (Nat × Nat)→Sl→Int→Int→Int→Int→Heap→Option R):Option R :=
  if ((t0.len:Nat):Int) = 0 then (
    none)
  else (
    sel (decide (t11 < ((t1.len:Nat):Int))) (
      if 0 ≤ t11∧t11 < ((t1.len:Nat):Int) then (
        (t1.a).bind fun q58 =>
        ((H).ldI .u8 q58.1 (q58.2 + Int.toNat t11 * 1)).bind fun x59 =>
        if ((t0.len:Nat):Int) = 0 then (
          none)
        else (
          kN t0 t1 t2 t7 t9 t10 t11 (Int.tmod (IntKind.wrap .i64 x59) ((t0.len:Nat):Int)) (0:Int) H))
      else (
        none)) (
      kN t0 t1 t2 t7 t9 t10 t11 (Int.tmod t11 ((t0.len:Nat):Int)) (0:Int) H))
theorem g4_p2_eq {R:Type} (c2:Code) (t0:Sl) (t1:Sl) (t2:Int) (t7:Option (Nat × Nat)) (t9:Sl) (t10:Int) (t11:Int) (H:Heap) (K:Ex→Fr→Heap→Option R):ev2 Try.prog (E4) loopLim lv4 Try.f4.ntmps kp4 (.seq (codeAt [1,1,1,1,1,1,0,1,0,0,1,0,0,0] b4) (.seq (codeAt [1,1,1,1,1,1,0,1,0,0,1,0,0,1,0,0] b4) (.seq (.cond (.tmp 57) (codeAt [1,1,1,1,1,1,0,1,0,0,1,0,0,1,0,1,0] b4) .skip) (.seq (codeAt [1,1,1,1,1,1,0,1,0,0,1,0,0,1,1,0,0] b4) c2)))) [(0,(V.sl t0)),(1,(V.sl t1)),(2,(V.i .u8 t2)),(7,(V.p t7)),(9,(V.sl t9)),(10,(V.i .i64 t10)),(11,(V.i .i64 t11))] H K = g4_p2 R t0 t1 t2 t7 t9 t10 t11 H (fun t0 t1 t2 t7 t9 t10 t11 t12 t13 H=>ev2 Try.prog (E4) loopLim lv4 Try.f4.ntmps kp4 c2 [(0,(V.sl t0)),(1,(V.sl t1)),(2,(V.i .u8 t2)),(7,(V.p t7)),(9,(V.sl t9)),(10,(V.i .i64 t10)),(11,(V.i .i64 t11)),(12,(V.i .i64 t12)),(13,(V.i .i64 t13))] H K):=by kernel_rfl
theorem g4_p2_lin {R S:Type} {k:S→Option R} {t0:Sl} {t1:Sl} {t2:Int} {t7:Option (Nat × Nat)} {t9:Sl} {t10:Int} {t11:Int} {H:Heap} {fkN:Sl→Sl→Int→Option (Nat × Nat)→Sl→Int→Int→Int→Int→Heap→Option R} {gkN:Sl→Sl→Int→Option (Nat × Nat)→Sl→Int→Int→Int→Int→Heap→Option S} (hkN:∀ t0 t1 t2 t7 t9 t10 t11 t12 t13 H,fkN t0 t1 t2 t7 t9 t10 t11 t12 t13 H = (gkN t0 t1 t2 t7 t9 t10 t11 t12 t13 H).bind k):g4_p2 R t0 t1 t2 t7 t9 t10 t11 H fkN = (g4_p2 S t0 t1 t2 t7 t9 t10 t11 H gkN).bind k:=by
  delta g4_p2; exact (
    il (
      rfl) (
      sl_lin (
        il (
          bl fun q58 =>
          bl fun x59 =>
          il (
            rfl) (
            hkN _ _ _ _ _ _ _ _ _ _)) (
          rfl)) (
        hkN _ _ _ _ _ _ _ _ _ _)))
noncomputable def g4_p3 (R:Type) (t0:Sl) (t1:Sl) (t2:Int) (t7:Option (Nat × Nat)) (t9:Sl) (t10:Int) (t11:Int) (t12:Int) (t13:Int) (H:Heap) (kN:Sl→Sl→Int→Option (Nat × Nat)→Sl→Int→Int→Int→Int→Heap→Option R) (kE2:Sl→Sl→Int→Option (Nat × Nat)→Sl→Int→Int→Int→Heap→Option R):Option R :=
  sel (decide (t13 < t12)) (
    if 0 ≤ t13∧t13 < ((t0.len:Nat):Int) then (
      (t0.a).bind fun q60 =>
      ((H).ldI .u8 q60.1 ((q60.2 + Int.toNat t13 * 4) + 0)).bind fun x61 =>
      if 0 ≤ t12∧t12 < ((t0.len:Nat):Int) then (
        (t0.a).bind fun q62 =>
        ((H).ldI .u8 q62.1 ((q62.2 + Int.toNat t12 * 4) + 0)).bind fun x63 =>
        sel ((Int.tmod x61 (4:Int)) == (Int.tmod x63 (4:Int))) (
          if 0 ≤ t13∧t13 < ((t0.len:Nat):Int) then (
            (t0.a).bind fun q64 =>
            ((H).ldI .u8 q64.1 ((q64.2 + Int.toNat t13 * 4) + 1)).bind fun x65 =>
            if 0 ≤ t12∧t12 < ((t0.len:Nat):Int) then (
              (t0.a).bind fun q66 =>
              ((H).ldI .u8 q66.1 ((q66.2 + Int.toNat t12 * 4) + 1)).bind fun x67 =>
              sel ((Int.tmod x65 (8:Int)) == (Int.tmod x67 (8:Int))) (
                kN t0 t1 t2 t7 t9 t10 t11 t13 (IntKind.wrap .i64 (t13 + (1:Int))) H) (
                kN t0 t1 t2 t7 t9 t10 t11 t12 (IntKind.wrap .i64 (t13 + (1:Int))) H))
            else (
              none))
          else (
            none)) (
          kN t0 t1 t2 t7 t9 t10 t11 t12 (IntKind.wrap .i64 (t13 + (1:Int))) H))
      else (
        none))
    else (
      none)) (
    kE2 t0 t1 t2 t7 t9 t10 t11 t12 H)
theorem g4_p3_eq {R:Type} (t0:Sl) (t1:Sl) (t2:Int) (t7:Option (Nat × Nat)) (t9:Sl) (t10:Int) (t11:Int) (t12:Int) (t13:Int) (H:Heap) (K:Ex→Fr→Heap→Option R):ev2 Try.prog (E4) loopLim lv4 Try.f4.ntmps kp4 c4_0 [(0,(V.sl t0)),(1,(V.sl t1)),(2,(V.i .u8 t2)),(7,(V.p t7)),(9,(V.sl t9)),(10,(V.i .i64 t10)),(11,(V.i .i64 t11)),(12,(V.i .i64 t12)),(13,(V.i .i64 t13))] H K = g4_p3 R t0 t1 t2 t7 t9 t10 t11 t12 t13 H (fun t0 t1 t2 t7 t9 t10 t11 t12 t13 H=>K .normal [(0,(V.sl t0)),(1,(V.sl t1)),(2,(V.i .u8 t2)),(7,(V.p t7)),(9,(V.sl t9)),(10,(V.i .i64 t10)),(11,(V.i .i64 t11)),(12,(V.i .i64 t12)),(13,(V.i .i64 t13))] H) (fun t0 t1 t2 t7 t9 t10 t11 t12 H=>K (.exit 2) [(0,(V.sl t0)),(1,(V.sl t1)),(2,(V.i .u8 t2)),(7,(V.p t7)),(9,(V.sl t9)),(10,(V.i .i64 t10)),(11,(V.i .i64 t11)),(12,(V.i .i64 t12))] H):=by kernel_rfl
theorem g4_p3_lin {R S:Type} {k:S→Option R} {t0:Sl} {t1:Sl} {t2:Int} {t7:Option (Nat × Nat)} {t9:Sl} {t10:Int} {t11:Int} {t12:Int} {t13:Int} {H:Heap} {fkN:Sl→Sl→Int→Option (Nat × Nat)→Sl→Int→Int→Int→Int→Heap→Option R} {gkN:Sl→Sl→Int→Option (Nat × Nat)→Sl→Int→Int→Int→Int→Heap→Option S} {fkE2:Sl→Sl→Int→Option (Nat × Nat)→Sl→Int→Int→Int→Heap→Option R} {gkE2:Sl→Sl→Int→Option (Nat × Nat)→Sl→Int→Int→Int→Heap→Option S} (hkN:∀ t0 t1 t2 t7 t9 t10 t11 t12 t13 H,fkN t0 t1 t2 t7 t9 t10 t11 t12 t13 H = (gkN t0 t1 t2 t7 t9 t10 t11 t12 t13 H).bind k) (hkE2:∀ t0 t1 t2 t7 t9 t10 t11 t12 H,fkE2 t0 t1 t2 t7 t9 t10 t11 t12 H = (gkE2 t0 t1 t2 t7 t9 t10 t11 t12 H).bind k):g4_p3 R t0 t1 t2 t7 t9 t10 t11 t12 t13 H fkN fkE2 = (g4_p3 S t0 t1 t2 t7 t9 t10 t11 t12 t13 H gkN gkE2).bind k:=by
  delta g4_p3
  repeat' (first | with_reducible (first | exact hkN _ _ _ _ _ _ _ _ _ _ | exact hkE2 _ _ _ _ _ _ _ _ _ | refine sl_lin ?_ ?_ | refine il ?_ ?_ | refine bl fun _=>?_) | exact (rfl:(none:Option R) = (none:Option S).bind k))
abbrev g4_p4_S:=Sl × Sl × Int × (Option (Nat × Nat)) × Sl × Int × Int × Int × Int
abbrev g4_p4_O:=Sl × Sl × Int × (Option (Nat × Nat)) × Sl × Int × Int × Int
def g4_p4_es (s:g4_p4_S):Fr:=[(0,(V.sl s.1)),(1,(V.sl s.2.1)),(2,(V.i .u8 s.2.2.1)),(7,(V.p s.2.2.2.1)),(9,(V.sl s.2.2.2.2.1)),(10,(V.i .i64 s.2.2.2.2.2.1)),(11,(V.i .i64 s.2.2.2.2.2.2.1)),(12,(V.i .i64 s.2.2.2.2.2.2.2.1)),(13,(V.i .i64 s.2.2.2.2.2.2.2.2))]
def g4_p4_er (r:g4_p4_O):Ex × Fr:=((.exit 2),[(0,(V.sl r.1)),(1,(V.sl r.2.1)),(2,(V.i .u8 r.2.2.1)),(7,(V.p r.2.2.2.1)),(9,(V.sl r.2.2.2.2.1)),(10,(V.i .i64 r.2.2.2.2.2.1)),(11,(V.i .i64 r.2.2.2.2.2.2.1)),(12,(V.i .i64 r.2.2.2.2.2.2.2))])
noncomputable def g4_p4_b (s:g4_p4_S) (H:Heap):Option (Rd g4_p4_S g4_p4_O × Heap) :=
  g4_p3 _ s.1 s.2.1 s.2.2.1 s.2.2.2.1 s.2.2.2.2.1 s.2.2.2.2.2.1 s.2.2.2.2.2.2.1 s.2.2.2.2.2.2.2.1 s.2.2.2.2.2.2.2.2 H (fun t0 t1 t2 t7 t9 t10 t11 t12 t13 H=>some (.go (t0,t1,t2,t7,t9,t10,t11,t12,t13),H)) (fun t0 t1 t2 t7 t9 t10 t11 t12 H=>some (.up (t0,t1,t2,t7,t9,t10,t11,t12),H))
noncomputable def g4_p4 (R:Type) (t0:Sl) (t1:Sl) (t2:Int) (t7:Option (Nat × Nat)) (t9:Sl) (t10:Int) (t11:Int) (t12:Int) (t13:Int) (H:Heap) (kE2:Sl→Sl→Int→Option (Nat × Nat)→Sl→Int→Int→Int→Heap→Option R):Option R :=
  (tlim (g4_p4_b) (t0,t1,t2,t7,t9,t10,t11,t12,t13) H).bind fun p=>kE2 p.1.1 p.1.2.1 p.1.2.2.1 p.1.2.2.2.1 p.1.2.2.2.2.1 p.1.2.2.2.2.2.1 p.1.2.2.2.2.2.2.1 p.1.2.2.2.2.2.2.2 p.2
theorem g4_p4_lin {R S:Type} {k:S→Option R} {t0:Sl} {t1:Sl} {t2:Int} {t7:Option (Nat × Nat)} {t9:Sl} {t10:Int} {t11:Int} {t12:Int} {t13:Int} {H:Heap} {fkE2:Sl→Sl→Int→Option (Nat × Nat)→Sl→Int→Int→Int→Heap→Option R} {gkE2:Sl→Sl→Int→Option (Nat × Nat)→Sl→Int→Int→Int→Heap→Option S} (hkE2:∀ t0 t1 t2 t7 t9 t10 t11 t12 H,fkE2 t0 t1 t2 t7 t9 t10 t11 t12 H = (gkE2 t0 t1 t2 t7 t9 t10 t11 t12 H).bind k):g4_p4 R t0 t1 t2 t7 t9 t10 t11 t12 t13 H fkE2 = (g4_p4 S t0 t1 t2 t7 t9 t10 t11 t12 t13 H gkE2).bind k:=by
  exact bl fun p=>hkE2 _ _ _ _ _ _ _ _ _
theorem g4_p4_eq {R:Type} (t0:Sl) (t1:Sl) (t2:Int) (t7:Option (Nat × Nat)) (t9:Sl) (t10:Int) (t11:Int) (t12:Int) (t13:Int) (H:Heap) (K:Ex→Fr→Heap→Option R):ev2 Try.prog (E4) loopLim lv4 Try.f4.ntmps kp4 c4_1 [(0,(V.sl t0)),(1,(V.sl t1)),(2,(V.i .u8 t2)),(7,(V.p t7)),(9,(V.sl t9)),(10,(V.i .i64 t10)),(11,(V.i .i64 t11)),(12,(V.i .i64 t12)),(13,(V.i .i64 t13))] H K = g4_p4 R t0 t1 t2 t7 t9 t10 t11 t12 t13 H (fun t0 t1 t2 t7 t9 t10 t11 t12 H=>K (.exit 2) [(0,(V.sl t0)),(1,(V.sl t1)),(2,(V.i .u8 t2)),(7,(V.p t7)),(9,(V.sl t9)),(10,(V.i .i64 t10)),(11,(V.i .i64 t11)),(12,(V.i .i64 t12))] H):=by
  delta c4_1
  delta g4_p4
  refine (ev2_tlim (b:=g4_p4_b) (es:=g4_p4_es) (er:=g4_p4_er) (by intro r; exact nofun) (fun s H=>?_) (t0,t1,t2,t7,t9,t10,t11,t12,t13) H K).trans (bc fun p=>rfl)
  exact (g4_p3_eq s.1 s.2.1 s.2.2.1 s.2.2.2.1 s.2.2.2.2.1 s.2.2.2.2.2.1 s.2.2.2.2.2.2.1 s.2.2.2.2.2.2.2.1 s.2.2.2.2.2.2.2.2 H ret3).trans (g4_p3_lin (fun _ _ _ _ _ _ _ _ _ _=>rfl) (fun _ _ _ _ _ _ _ _ _=>rfl))
noncomputable def g4_p5 (R:Type) (t0:Sl) (t1:Sl) (t2:Int) (t7:Option (Nat × Nat)) (t9:Sl) (t10:Int) (t11:Int) (t12:Int) (t13:Int) (H:Heap) (kN:Sl→Sl→Int→Option (Nat × Nat)→Sl→Int→Int→Int→Heap→Option R):Option R :=
  g4_p4 R t0 t1 t2 t7 t9 t10 t11 t12 t13 H (fun t0 t1 t2 t7 t9 t10 t11 t12 H=>kN t0 t1 t2 t7 t9 t10 t11 t12 H)
theorem g4_p5_lin {R S:Type} {k:S→Option R} {t0:Sl} {t1:Sl} {t2:Int} {t7:Option (Nat × Nat)} {t9:Sl} {t10:Int} {t11:Int} {t12:Int} {t13:Int} {H:Heap} {fkN:Sl→Sl→Int→Option (Nat × Nat)→Sl→Int→Int→Int→Heap→Option R} {gkN:Sl→Sl→Int→Option (Nat × Nat)→Sl→Int→Int→Int→Heap→Option S} (hkN:∀ t0 t1 t2 t7 t9 t10 t11 t12 H,fkN t0 t1 t2 t7 t9 t10 t11 t12 H = (gkN t0 t1 t2 t7 t9 t10 t11 t12 H).bind k):g4_p5 R t0 t1 t2 t7 t9 t10 t11 t12 t13 H fkN = (g4_p5 S t0 t1 t2 t7 t9 t10 t11 t12 t13 H gkN).bind k:=by
  exact g4_p4_lin (fun _ _ _ _ _ _ _ _ _=>hkN _ _ _ _ _ _ _ _ _)
theorem g4_p5_eq {R:Type} (t0:Sl) (t1:Sl) (t2:Int) (t7:Option (Nat × Nat)) (t9:Sl) (t10:Int) (t11:Int) (t12:Int) (t13:Int) (H:Heap) (K:Ex→Fr→Heap→Option R):ev2 Try.prog (E4) loopLim lv4 Try.f4.ntmps kp4 c4_2 [(0,(V.sl t0)),(1,(V.sl t1)),(2,(V.i .u8 t2)),(7,(V.p t7)),(9,(V.sl t9)),(10,(V.i .i64 t10)),(11,(V.i .i64 t11)),(12,(V.i .i64 t12)),(13,(V.i .i64 t13))] H K = g4_p5 R t0 t1 t2 t7 t9 t10 t11 t12 t13 H (fun t0 t1 t2 t7 t9 t10 t11 t12 H=>K .normal [(0,(V.sl t0)),(1,(V.sl t1)),(2,(V.i .u8 t2)),(7,(V.p t7)),(9,(V.sl t9)),(10,(V.i .i64 t10)),(11,(V.i .i64 t11)),(12,(V.i .i64 t12))] H):=by
  delta c4_2
  rw [ev2_block]
  delta g4_p5
  exact (g4_p4_eq t0 t1 t2 t7 t9 t10 t11 t12 t13 H (kBlock kp4 2 K))
noncomputable def g4_p6 (R:Type) (t0:Sl) (t1:Sl) (t2:Int) (t7:Option (Nat × Nat)) (t9:Sl) (t10:Int) (t11:Int) (t12:Int) (H:Heap) (kN:Sl→Sl→Int→Option (Nat × Nat)→Sl→Int→Int→Int→Sl→ByteArray→Sl→Bool→Int→Heap→Option R) (kE1:Sl→Sl→Int→Option (Nat × Nat)→Sl→Int→Int→Heap→Option R) (kR:Bool→Heap→Option R):Option R :=
  if 0 ≤ t12∧t12 < ((t0.len:Nat):Int) then (
    (t0.a).bind fun q205 =>
    ((H).ldI .u8 q205.1 ((q205.2 + Int.toNat t12 * 4) + 0)).bind fun x206 =>
    ((H).ldI .u8 q205.1 ((q205.2 + Int.toNat t12 * 4) + 1)).bind fun x207 =>
    ((H).ldSl q205.1 ((q205.2 + Int.toNat t12 * 4) + 2)).bind fun x208 =>
    ((H).ldI .u8 q205.1 ((q205.2 + Int.toNat t12 * 4) + 3)).bind fun x209 =>
    g12 R x206 x207 x208 x209 H fun x210 x211 x212 h213 =>
    if 0 ≤ t12∧t12 < ((t9.len:Nat):Int) then (
      (t9.a).bind fun q214 =>
      ((h213).ldI .i64 q214.1 (q214.2 + Int.toNat t12 * 1)).bind fun x215 =>
      sel (decide (x215 ≥ ((x211.len:Nat):Int))) (
        kE1 t0 t1 t2 t7 t9 t10 t11 h213) (
        sel ((Int.tmod (IntKind.wrap .i64 (t11 + (IntKind.wrap .i64 t2))) (5:Int)) == (0:Int)) (
          sel (decide (t10 < (99:Int))) (
            g11 R t7 h213 fun x216 h217 =>
            sel (decide (((x216.len:Nat):Int) > (0:Int))) (
              kR false h217) (
              if 0 ≤ t12∧t12 < ((t9.len:Nat):Int) then (
                (t9.a).bind fun q218 =>
                ((h217).ldI .i64 q218.1 (q218.2 + Int.toNat t12 * 1)).bind fun x219 =>
                if 0 ≤ x219∧x219 < ((x211.len:Nat):Int) then (
                  (x211.a).bind fun q220 =>
                  ((h217).ldI .u32 q220.1 ((q220.2 + Int.toNat x219 * 4) + 0)).bind fun x221 =>
                  ((h217).ldB q220.1 ((q220.2 + Int.toNat x219 * 4) + 1)).bind fun x222 =>
                  ((h217).ldI .u8 q220.1 ((q220.2 + Int.toNat x219 * 4) + 2)).bind fun x223 =>
                  ((h217).ldSl q220.1 ((q220.2 + Int.toNat x219 * 4) + 3)).bind fun x224 =>
                  g13 R t7 x210 x221 x222 x223 x224 h217 fun x225 x226 x227 h228 =>
                  kN t0 t1 t2 t7 t9 (IntKind.wrap .i64 (t10 + (1:Int))) t11 t12 x211 x212 x225 x226 x227 h228)
                else (
                  none))
              else (
                none))) (
            if 0 ≤ t12∧t12 < ((t9.len:Nat):Int) then (
              (t9.a).bind fun q229 =>
              ((h213).ldI .i64 q229.1 (q229.2 + Int.toNat t12 * 1)).bind fun x230 =>
              if 0 ≤ x230∧x230 < ((x211.len:Nat):Int) then (
                (x211.a).bind fun q231 =>
                ((h213).ldI .u32 q231.1 ((q231.2 + Int.toNat x230 * 4) + 0)).bind fun x232 =>
                ((h213).ldB q231.1 ((q231.2 + Int.toNat x230 * 4) + 1)).bind fun x233 =>
                ((h213).ldI .u8 q231.1 ((q231.2 + Int.toNat x230 * 4) + 2)).bind fun x234 =>
                ((h213).ldSl q231.1 ((q231.2 + Int.toNat x230 * 4) + 3)).bind fun x235 =>
                g13 R t7 x210 x232 x233 x234 x235 h213 fun x236 x237 x238 h239 =>
                kN t0 t1 t2 t7 t9 t10 t11 t12 x211 x212 x236 x237 x238 h239)
              else (
                none))
            else (
              none))) (
          if 0 ≤ t12∧t12 < ((t9.len:Nat):Int) then (
            (t9.a).bind fun q240 =>
            ((h213).ldI .i64 q240.1 (q240.2 + Int.toNat t12 * 1)).bind fun x241 =>
            if 0 ≤ x241∧x241 < ((x211.len:Nat):Int) then (
              (x211.a).bind fun q242 =>
              ((h213).ldI .u32 q242.1 ((q242.2 + Int.toNat x241 * 4) + 0)).bind fun x243 =>
              ((h213).ldB q242.1 ((q242.2 + Int.toNat x241 * 4) + 1)).bind fun x244 =>
              ((h213).ldI .u8 q242.1 ((q242.2 + Int.toNat x241 * 4) + 2)).bind fun x245 =>
              ((h213).ldSl q242.1 ((q242.2 + Int.toNat x241 * 4) + 3)).bind fun x246 =>
              g13 R t7 x210 x243 x244 x245 x246 h213 fun x247 x248 x249 h250 =>
              kN t0 t1 t2 t7 t9 t10 t11 t12 x211 x212 x247 x248 x249 h250)
            else (
              none))
          else (
            none))))
    else (
      none))
  else (
    none)
theorem g4_p6_eq {R:Type} (c2:Code) (t0:Sl) (t1:Sl) (t2:Int) (t7:Option (Nat × Nat)) (t9:Sl) (t10:Int) (t11:Int) (t12:Int) (H:Heap) (K:Ex→Fr→Heap→Option R):ev2 Try.prog (E4) loopLim lv4 Try.f4.ntmps kp4 (.seq (codeAt [1,1,1,1,1,1,0,1,0,0,1,0,0,1,1,1,0] b4) (.seq (codeAt [1,1,1,1,1,1,0,1,0,0,1,0,0,1,1,1,1,0,0] b4) (.seq (.cond (.tmp 115) (.exit 1) .skip) (.seq (codeAt [1,1,1,1,1,1,0,1,0,0,1,0,0,1,1,1,1,1,0,0] b4) (.seq (.cond (.tmp 125) (.seq (codeAt [1,1,1,1,1,1,0,1,0,0,1,0,0,1,1,1,1,1,0,1,0,0] b4) (.seq (codeAt [1,1,1,1,1,1,0,1,0,0,1,0,0,1,1,1,1,1,0,1,0,1,0] b4) (.cond (.tmp 131) (.seq (codeAt [1,1,1,1,1,1,0,1,0,0,1,0,0,1,1,1,1,1,0,1,0,1,1,0,0] b4) .ret) .skip))) .skip) (.seq (codeAt [1,1,1,1,1,1,0,1,0,0,1,0,0,1,1,1,1,1,1,0] b4) c2)))))) [(0,(V.sl t0)),(1,(V.sl t1)),(2,(V.i .u8 t2)),(7,(V.p t7)),(9,(V.sl t9)),(10,(V.i .i64 t10)),(11,(V.i .i64 t11)),(12,(V.i .i64 t12))] H K = g4_p6 R t0 t1 t2 t7 t9 t10 t11 t12 H (fun t0 t1 t2 t7 t9 t10 t11 t12 t15 t16 t17 t18 t19 H=>ev2 Try.prog (E4) loopLim lv4 Try.f4.ntmps kp4 c2 [(0,(V.sl t0)),(1,(V.sl t1)),(2,(V.i .u8 t2)),(7,(V.p t7)),(9,(V.sl t9)),(10,(V.i .i64 t10)),(11,(V.i .i64 t11)),(12,(V.i .i64 t12)),(15,(V.sl t15)),(16,(V.s t16)),(17,(V.sl t17)),(18,(V.b t18)),(19,(V.i .i64 t19))] H K) (fun t0 t1 t2 t7 t9 t10 t11 H=>K (.exit 1) [(0,(V.sl t0)),(1,(V.sl t1)),(2,(V.i .u8 t2)),(7,(V.p t7)),(9,(V.sl t9)),(10,(V.i .i64 t10)),(11,(V.i .i64 t11))] H) (fun t6 H=>K .ret [(6,(V.b t6))] H):=by kernel_rfl
theorem g4_p6_lin {R S:Type} {k:S→Option R} {t0:Sl} {t1:Sl} {t2:Int} {t7:Option (Nat × Nat)} {t9:Sl} {t10:Int} {t11:Int} {t12:Int} {H:Heap} {fkN:Sl→Sl→Int→Option (Nat × Nat)→Sl→Int→Int→Int→Sl→ByteArray→Sl→Bool→Int→Heap→Option R} {gkN:Sl→Sl→Int→Option (Nat × Nat)→Sl→Int→Int→Int→Sl→ByteArray→Sl→Bool→Int→Heap→Option S} {fkE1:Sl→Sl→Int→Option (Nat × Nat)→Sl→Int→Int→Heap→Option R} {gkE1:Sl→Sl→Int→Option (Nat × Nat)→Sl→Int→Int→Heap→Option S} {fkR:Bool→Heap→Option R} {gkR:Bool→Heap→Option S} (hkN:∀ t0 t1 t2 t7 t9 t10 t11 t12 t15 t16 t17 t18 t19 H,fkN t0 t1 t2 t7 t9 t10 t11 t12 t15 t16 t17 t18 t19 H = (gkN t0 t1 t2 t7 t9 t10 t11 t12 t15 t16 t17 t18 t19 H).bind k) (hkE1:∀ t0 t1 t2 t7 t9 t10 t11 H,fkE1 t0 t1 t2 t7 t9 t10 t11 H = (gkE1 t0 t1 t2 t7 t9 t10 t11 H).bind k) (hkR:∀ t6 H,fkR t6 H = (gkR t6 H).bind k):g4_p6 R t0 t1 t2 t7 t9 t10 t11 t12 H fkN fkE1 fkR = (g4_p6 S t0 t1 t2 t7 t9 t10 t11 t12 H gkN gkE1 gkR).bind k:=by
  delta g4_p6
  repeat' (first | with_reducible (first | exact hkE1 _ _ _ _ _ _ _ _ | exact hkR _ _ | exact hkN _ _ _ _ _ _ _ _ _ _ _ _ _ _ | refine il ?_ ?_ | refine g12_lin.l fun _ _ _ _=>?_ | refine sl_lin ?_ ?_ | refine g11_lin.l fun _ _=>?_ | refine g13_lin.l fun _ _ _ _=>?_ | refine bl fun _=>?_) | exact (rfl:(none:Option R) = (none:Option S).bind k))
noncomputable def g4_p7 (R:Type) (t0:Sl) (t1:Sl) (t2:Int) (t7:Option (Nat × Nat)) (t9:Sl) (t10:Int) (t11:Int) (t12:Int) (t15:Sl) (t16:ByteArray) (t17:Sl) (t18:Bool) (t19:Int) (H:Heap) (kN:Sl→Sl→Int→Option (Nat × Nat)→Sl→Int→Int→Heap→Option R) (kR:Bool→Heap→Option R):Option R :=
  if 0 ≤ t12∧t12 < ((t9.len:Nat):Int) then (
    (t9.a).bind fun q251 =>
    ((H).ldI .i64 q251.1 (q251.2 + Int.toNat t12 * 1)).bind fun x252 =>
    if 0 ≤ t12∧t12 < ((t9.len:Nat):Int) then (
      (t9.a).bind fun q253 =>
      ((H).st q253.1 (q253.2 + Int.toNat t12 * 1) (V.i .i64 (IntKind.wrap .i64 (x252 + (1:Int))))).bind fun h255 =>
      sel (t19 != (0:Int)) (
        kR false h255) (
        if 0 ≤ t12∧t12 < ((t9.len:Nat):Int) then (
          (t9.a).bind fun q256 =>
          ((h255).ldI .i64 q256.1 (q256.2 + Int.toNat t12 * 1)).bind fun x257 =>
          sel (!(t18 == (x257 == ((t15.len:Nat):Int)))) (
            kR false h255) (
            sel t18 (
              ((slBytes h255 t17)).bind fun x258 =>
              sel (!strEq x258 t16) (
                kR false h255) (
                sel (!t18) (
                  sel (decide (((t17.len:Nat):Int) > (0:Int))) (
                    kR false h255) (
                    sel t18 (
                      capK t17.cap fun c259 =>
                      sel (((c259:Nat):Int) != ((t17.len:Nat):Int)) (
                        kR false h255) (
                        kN t0 t1 t2 t7 t9 t10 t11 h255)) (
                      kN t0 t1 t2 t7 t9 t10 t11 h255))) (
                  sel t18 (
                    capK t17.cap fun c260 =>
                    sel (((c260:Nat):Int) != ((t17.len:Nat):Int)) (
                      kR false h255) (
                      kN t0 t1 t2 t7 t9 t10 t11 h255)) (
                    kN t0 t1 t2 t7 t9 t10 t11 h255)))) (
              sel (!t18) (
                sel (decide (((t17.len:Nat):Int) > (0:Int))) (
                  kR false h255) (
                  sel t18 (
                    capK t17.cap fun c261 =>
                    sel (((c261:Nat):Int) != ((t17.len:Nat):Int)) (
                      kR false h255) (
                      kN t0 t1 t2 t7 t9 t10 t11 h255)) (
                    kN t0 t1 t2 t7 t9 t10 t11 h255))) (
                sel t18 (
                  capK t17.cap fun c262 =>
                  sel (((c262:Nat):Int) != ((t17.len:Nat):Int)) (
                    kR false h255) (
                    kN t0 t1 t2 t7 t9 t10 t11 h255)) (
                  kN t0 t1 t2 t7 t9 t10 t11 h255)))))
        else (
          none)))
    else (
      none))
  else (
    none)
theorem g4_p7_eq {R:Type} (t0:Sl) (t1:Sl) (t2:Int) (t7:Option (Nat × Nat)) (t9:Sl) (t10:Int) (t11:Int) (t12:Int) (t15:Sl) (t16:ByteArray) (t17:Sl) (t18:Bool) (t19:Int) (H:Heap) (K:Ex→Fr→Heap→Option R):ev2 Try.prog (E4) loopLim lv4 Try.f4.ntmps kp4 c4_3 [(0,(V.sl t0)),(1,(V.sl t1)),(2,(V.i .u8 t2)),(7,(V.p t7)),(9,(V.sl t9)),(10,(V.i .i64 t10)),(11,(V.i .i64 t11)),(12,(V.i .i64 t12)),(15,(V.sl t15)),(16,(V.s t16)),(17,(V.sl t17)),(18,(V.b t18)),(19,(V.i .i64 t19))] H K = g4_p7 R t0 t1 t2 t7 t9 t10 t11 t12 t15 t16 t17 t18 t19 H (fun t0 t1 t2 t7 t9 t10 t11 H=>K .normal [(0,(V.sl t0)),(1,(V.sl t1)),(2,(V.i .u8 t2)),(7,(V.p t7)),(9,(V.sl t9)),(10,(V.i .i64 t10)),(11,(V.i .i64 t11))] H) (fun t6 H=>K .ret [(6,(V.b t6))] H):=by kernel_rfl
theorem g4_p7_lin {R S:Type} {k:S→Option R} {t0:Sl} {t1:Sl} {t2:Int} {t7:Option (Nat × Nat)} {t9:Sl} {t10:Int} {t11:Int} {t12:Int} {t15:Sl} {t16:ByteArray} {t17:Sl} {t18:Bool} {t19:Int} {H:Heap} {fkN:Sl→Sl→Int→Option (Nat × Nat)→Sl→Int→Int→Heap→Option R} {gkN:Sl→Sl→Int→Option (Nat × Nat)→Sl→Int→Int→Heap→Option S} {fkR:Bool→Heap→Option R} {gkR:Bool→Heap→Option S} (hkN:∀ t0 t1 t2 t7 t9 t10 t11 H,fkN t0 t1 t2 t7 t9 t10 t11 H = (gkN t0 t1 t2 t7 t9 t10 t11 H).bind k) (hkR:∀ t6 H,fkR t6 H = (gkR t6 H).bind k):g4_p7 R t0 t1 t2 t7 t9 t10 t11 t12 t15 t16 t17 t18 t19 H fkN fkR = (g4_p7 S t0 t1 t2 t7 t9 t10 t11 t12 t15 t16 t17 t18 t19 H gkN gkR).bind k:=by
  delta g4_p7
  repeat' (first | with_reducible (first | exact hkR _ _ | exact hkN _ _ _ _ _ _ _ _ | refine il ?_ ?_ | refine sl_lin ?_ ?_ | refine capK_lin fun _=>?_ | refine bl fun _=>?_) | exact (rfl:(none:Option R) = (none:Option S).bind k))
noncomputable def g4_p8 (R:Type) (t0:Sl) (t1:Sl) (t2:Int) (t7:Option (Nat × Nat)) (t9:Sl) (t10:Int) (t11:Int) (t12:Int) (H:Heap) (kN:Sl→Sl→Int→Option (Nat × Nat)→Sl→Int→Int→Heap→Option R) (kE1:Sl→Sl→Int→Option (Nat × Nat)→Sl→Int→Int→Heap→Option R) (kR:Bool→Heap→Option R):Option R :=
  g4_p6 R t0 t1 t2 t7 t9 t10 t11 t12 H (fun t0 t1 t2 t7 t9 t10 t11 t12 t15 t16 t17 t18 t19 H=>g4_p7 R t0 t1 t2 t7 t9 t10 t11 t12 t15 t16 t17 t18 t19 H (fun t0 t1 t2 t7 t9 t10 t11 H=>kN t0 t1 t2 t7 t9 t10 t11 H) (fun t6 H=>kR t6 H)) (fun t0 t1 t2 t7 t9 t10 t11 H=>kE1 t0 t1 t2 t7 t9 t10 t11 H) (fun t6 H=>kR t6 H)
theorem g4_p8_lin {R S:Type} {k:S→Option R} {t0:Sl} {t1:Sl} {t2:Int} {t7:Option (Nat × Nat)} {t9:Sl} {t10:Int} {t11:Int} {t12:Int} {H:Heap} {fkN:Sl→Sl→Int→Option (Nat × Nat)→Sl→Int→Int→Heap→Option R} {gkN:Sl→Sl→Int→Option (Nat × Nat)→Sl→Int→Int→Heap→Option S} {fkE1:Sl→Sl→Int→Option (Nat × Nat)→Sl→Int→Int→Heap→Option R} {gkE1:Sl→Sl→Int→Option (Nat × Nat)→Sl→Int→Int→Heap→Option S} {fkR:Bool→Heap→Option R} {gkR:Bool→Heap→Option S} (hkN:∀ t0 t1 t2 t7 t9 t10 t11 H,fkN t0 t1 t2 t7 t9 t10 t11 H = (gkN t0 t1 t2 t7 t9 t10 t11 H).bind k) (hkE1:∀ t0 t1 t2 t7 t9 t10 t11 H,fkE1 t0 t1 t2 t7 t9 t10 t11 H = (gkE1 t0 t1 t2 t7 t9 t10 t11 H).bind k) (hkR:∀ t6 H,fkR t6 H = (gkR t6 H).bind k):g4_p8 R t0 t1 t2 t7 t9 t10 t11 t12 H fkN fkE1 fkR = (g4_p8 S t0 t1 t2 t7 t9 t10 t11 t12 H gkN gkE1 gkR).bind k:=by
  exact g4_p6_lin (fun _ _ _ _ _ _ _ _ _ _ _ _ _ _=>g4_p7_lin (fun _ _ _ _ _ _ _ _=>hkN _ _ _ _ _ _ _ _) (fun _ _=>hkR _ _)) (fun _ _ _ _ _ _ _ _=>hkE1 _ _ _ _ _ _ _ _) (fun _ _=>hkR _ _)
theorem g4_p8_eq {R:Type} (t0:Sl) (t1:Sl) (t2:Int) (t7:Option (Nat × Nat)) (t9:Sl) (t10:Int) (t11:Int) (t12:Int) (H:Heap) (K:Ex→Fr→Heap→Option R):ev2 Try.prog (E4) loopLim lv4 Try.f4.ntmps kp4 c4_4 [(0,(V.sl t0)),(1,(V.sl t1)),(2,(V.i .u8 t2)),(7,(V.p t7)),(9,(V.sl t9)),(10,(V.i .i64 t10)),(11,(V.i .i64 t11)),(12,(V.i .i64 t12))] H K = g4_p8 R t0 t1 t2 t7 t9 t10 t11 t12 H (fun t0 t1 t2 t7 t9 t10 t11 H=>K .normal [(0,(V.sl t0)),(1,(V.sl t1)),(2,(V.i .u8 t2)),(7,(V.p t7)),(9,(V.sl t9)),(10,(V.i .i64 t10)),(11,(V.i .i64 t11))] H) (fun t0 t1 t2 t7 t9 t10 t11 H=>K (.exit 1) [(0,(V.sl t0)),(1,(V.sl t1)),(2,(V.i .u8 t2)),(7,(V.p t7)),(9,(V.sl t9)),(10,(V.i .i64 t10)),(11,(V.i .i64 t11))] H) (fun t6 H=>K .ret [(6,(V.b t6))] H):=by
  delta c4_4
  delta g4_p8
  exact (g4_p6_eq _ t0 t1 t2 t7 t9 t10 t11 t12 H K).trans (congr (congr (congrArg (g4_p6 R t0 t1 t2 t7 t9 t10 t11 t12 H) (funext fun t0=>funext fun t1=>funext fun t2=>funext fun t7=>funext fun t9=>funext fun t10=>funext fun t11=>funext fun t12=>funext fun t15=>funext fun t16=>funext fun t17=>funext fun t18=>funext fun t19=>funext fun H=>g4_p7_eq t0 t1 t2 t7 t9 t10 t11 t12 t15 t16 t17 t18 t19 H K)) rfl) rfl)
noncomputable def g4_p9 (R:Type) (t0:Sl) (t1:Sl) (t2:Int) (t7:Option (Nat × Nat)) (t9:Sl) (t10:Int) (t11:Int) (t12:Int) (t13:Int) (H:Heap) (kN:Sl→Sl→Int→Option (Nat × Nat)→Sl→Int→Int→Heap→Option R) (kE1:Sl→Sl→Int→Option (Nat × Nat)→Sl→Int→Int→Heap→Option R) (kR:Bool→Heap→Option R):Option R :=
  g4_p5 R t0 t1 t2 t7 t9 t10 t11 t12 t13 H (fun t0 t1 t2 t7 t9 t10 t11 t12 H=>g4_p8 R t0 t1 t2 t7 t9 t10 t11 t12 H (fun t0 t1 t2 t7 t9 t10 t11 H=>kN t0 t1 t2 t7 t9 t10 t11 H) (fun t0 t1 t2 t7 t9 t10 t11 H=>kE1 t0 t1 t2 t7 t9 t10 t11 H) (fun t6 H=>kR t6 H))
theorem g4_p9_lin {R S:Type} {k:S→Option R} {t0:Sl} {t1:Sl} {t2:Int} {t7:Option (Nat × Nat)} {t9:Sl} {t10:Int} {t11:Int} {t12:Int} {t13:Int} {H:Heap} {fkN:Sl→Sl→Int→Option (Nat × Nat)→Sl→Int→Int→Heap→Option R} {gkN:Sl→Sl→Int→Option (Nat × Nat)→Sl→Int→Int→Heap→Option S} {fkE1:Sl→Sl→Int→Option (Nat × Nat)→Sl→Int→Int→Heap→Option R} {gkE1:Sl→Sl→Int→Option (Nat × Nat)→Sl→Int→Int→Heap→Option S} {fkR:Bool→Heap→Option R} {gkR:Bool→Heap→Option S} (hkN:∀ t0 t1 t2 t7 t9 t10 t11 H,fkN t0 t1 t2 t7 t9 t10 t11 H = (gkN t0 t1 t2 t7 t9 t10 t11 H).bind k) (hkE1:∀ t0 t1 t2 t7 t9 t10 t11 H,fkE1 t0 t1 t2 t7 t9 t10 t11 H = (gkE1 t0 t1 t2 t7 t9 t10 t11 H).bind k) (hkR:∀ t6 H,fkR t6 H = (gkR t6 H).bind k):g4_p9 R t0 t1 t2 t7 t9 t10 t11 t12 t13 H fkN fkE1 fkR = (g4_p9 S t0 t1 t2 t7 t9 t10 t11 t12 t13 H gkN gkE1 gkR).bind k:=by
  exact g4_p5_lin (fun _ _ _ _ _ _ _ _ _=>g4_p8_lin (fun _ _ _ _ _ _ _ _=>hkN _ _ _ _ _ _ _ _) (fun _ _ _ _ _ _ _ _=>hkE1 _ _ _ _ _ _ _ _) (fun _ _=>hkR _ _))
theorem g4_p9_eq {R:Type} (t0:Sl) (t1:Sl) (t2:Int) (t7:Option (Nat × Nat)) (t9:Sl) (t10:Int) (t11:Int) (t12:Int) (t13:Int) (H:Heap) (K:Ex→Fr→Heap→Option R):ev2 Try.prog (E4) loopLim lv4 Try.f4.ntmps kp4 c4_5 [(0,(V.sl t0)),(1,(V.sl t1)),(2,(V.i .u8 t2)),(7,(V.p t7)),(9,(V.sl t9)),(10,(V.i .i64 t10)),(11,(V.i .i64 t11)),(12,(V.i .i64 t12)),(13,(V.i .i64 t13))] H K = g4_p9 R t0 t1 t2 t7 t9 t10 t11 t12 t13 H (fun t0 t1 t2 t7 t9 t10 t11 H=>K .normal [(0,(V.sl t0)),(1,(V.sl t1)),(2,(V.i .u8 t2)),(7,(V.p t7)),(9,(V.sl t9)),(10,(V.i .i64 t10)),(11,(V.i .i64 t11))] H) (fun t0 t1 t2 t7 t9 t10 t11 H=>K (.exit 1) [(0,(V.sl t0)),(1,(V.sl t1)),(2,(V.i .u8 t2)),(7,(V.p t7)),(9,(V.sl t9)),(10,(V.i .i64 t10)),(11,(V.i .i64 t11))] H) (fun t6 H=>K .ret [(6,(V.b t6))] H):=by
  delta c4_5
  rw [ev2_seq]
  delta g4_p9
  exact (g4_p5_eq t0 t1 t2 t7 t9 t10 t11 t12 t13 H (kSeq (fun fr H=>ev2 Try.prog (E4) loopLim lv4 Try.f4.ntmps kp4 c4_4 fr H K) K)).trans (congrArg (g4_p5 R t0 t1 t2 t7 t9 t10 t11 t12 t13 H) (funext fun t0=>funext fun t1=>funext fun t2=>funext fun t7=>funext fun t9=>funext fun t10=>funext fun t11=>funext fun t12=>funext fun H=>(kSeq_n _ _ _ _).trans (g4_p8_eq t0 t1 t2 t7 t9 t10 t11 t12 H K)))
noncomputable def g4_p10 (R:Type) (t0:Sl) (t1:Sl) (t2:Int) (t7:Option (Nat × Nat)) (t9:Sl) (t10:Int) (t11:Int) (H:Heap) (kN:Sl→Sl→Int→Option (Nat × Nat)→Sl→Int→Int→Heap→Option R) (kE1:Sl→Sl→Int→Option (Nat × Nat)→Sl→Int→Int→Heap→Option R) (kR:Bool→Heap→Option R):Option R :=
  g4_p2 R t0 t1 t2 t7 t9 t10 t11 H (fun t0 t1 t2 t7 t9 t10 t11 t12 t13 H=>g4_p9 R t0 t1 t2 t7 t9 t10 t11 t12 t13 H (fun t0 t1 t2 t7 t9 t10 t11 H=>kN t0 t1 t2 t7 t9 t10 t11 H) (fun t0 t1 t2 t7 t9 t10 t11 H=>kE1 t0 t1 t2 t7 t9 t10 t11 H) (fun t6 H=>kR t6 H))
theorem g4_p10_lin {R S:Type} {k:S→Option R} {t0:Sl} {t1:Sl} {t2:Int} {t7:Option (Nat × Nat)} {t9:Sl} {t10:Int} {t11:Int} {H:Heap} {fkN:Sl→Sl→Int→Option (Nat × Nat)→Sl→Int→Int→Heap→Option R} {gkN:Sl→Sl→Int→Option (Nat × Nat)→Sl→Int→Int→Heap→Option S} {fkE1:Sl→Sl→Int→Option (Nat × Nat)→Sl→Int→Int→Heap→Option R} {gkE1:Sl→Sl→Int→Option (Nat × Nat)→Sl→Int→Int→Heap→Option S} {fkR:Bool→Heap→Option R} {gkR:Bool→Heap→Option S} (hkN:∀ t0 t1 t2 t7 t9 t10 t11 H,fkN t0 t1 t2 t7 t9 t10 t11 H = (gkN t0 t1 t2 t7 t9 t10 t11 H).bind k) (hkE1:∀ t0 t1 t2 t7 t9 t10 t11 H,fkE1 t0 t1 t2 t7 t9 t10 t11 H = (gkE1 t0 t1 t2 t7 t9 t10 t11 H).bind k) (hkR:∀ t6 H,fkR t6 H = (gkR t6 H).bind k):g4_p10 R t0 t1 t2 t7 t9 t10 t11 H fkN fkE1 fkR = (g4_p10 S t0 t1 t2 t7 t9 t10 t11 H gkN gkE1 gkR).bind k:=by
  exact g4_p2_lin (fun _ _ _ _ _ _ _ _ _ _=>g4_p9_lin (fun _ _ _ _ _ _ _ _=>hkN _ _ _ _ _ _ _ _) (fun _ _ _ _ _ _ _ _=>hkE1 _ _ _ _ _ _ _ _) (fun _ _=>hkR _ _))
theorem g4_p10_eq {R:Type} (t0:Sl) (t1:Sl) (t2:Int) (t7:Option (Nat × Nat)) (t9:Sl) (t10:Int) (t11:Int) (H:Heap) (K:Ex→Fr→Heap→Option R):ev2 Try.prog (E4) loopLim lv4 Try.f4.ntmps kp4 c4_6 [(0,(V.sl t0)),(1,(V.sl t1)),(2,(V.i .u8 t2)),(7,(V.p t7)),(9,(V.sl t9)),(10,(V.i .i64 t10)),(11,(V.i .i64 t11))] H K = g4_p10 R t0 t1 t2 t7 t9 t10 t11 H (fun t0 t1 t2 t7 t9 t10 t11 H=>K .normal [(0,(V.sl t0)),(1,(V.sl t1)),(2,(V.i .u8 t2)),(7,(V.p t7)),(9,(V.sl t9)),(10,(V.i .i64 t10)),(11,(V.i .i64 t11))] H) (fun t0 t1 t2 t7 t9 t10 t11 H=>K (.exit 1) [(0,(V.sl t0)),(1,(V.sl t1)),(2,(V.i .u8 t2)),(7,(V.p t7)),(9,(V.sl t9)),(10,(V.i .i64 t10)),(11,(V.i .i64 t11))] H) (fun t6 H=>K .ret [(6,(V.b t6))] H):=by
  delta c4_6
  delta g4_p10
  exact (g4_p2_eq _ t0 t1 t2 t7 t9 t10 t11 H K).trans (congrArg (g4_p2 R t0 t1 t2 t7 t9 t10 t11 H) (funext fun t0=>funext fun t1=>funext fun t2=>funext fun t7=>funext fun t9=>funext fun t10=>funext fun t11=>funext fun t12=>funext fun t13=>funext fun H=>g4_p9_eq t0 t1 t2 t7 t9 t10 t11 t12 t13 H K))
noncomputable def g4_p11 (R:Type) (t0:Sl) (t1:Sl) (t2:Int) (t7:Option (Nat × Nat)) (t9:Sl) (t10:Int) (t11:Int) (H:Heap) (kN:Sl→Sl→Int→Option (Nat × Nat)→Sl→Int→Int→Heap→Option R) (kR:Bool→Heap→Option R):Option R :=
  g4_p10 R t0 t1 t2 t7 t9 t10 t11 H (fun t0 t1 t2 t7 t9 t10 t11 H=>kN t0 t1 t2 t7 t9 t10 t11 H) (fun t0 t1 t2 t7 t9 t10 t11 H=>kN t0 t1 t2 t7 t9 t10 t11 H) (fun t6 H=>kR t6 H)
theorem g4_p11_lin {R S:Type} {k:S→Option R} {t0:Sl} {t1:Sl} {t2:Int} {t7:Option (Nat × Nat)} {t9:Sl} {t10:Int} {t11:Int} {H:Heap} {fkN:Sl→Sl→Int→Option (Nat × Nat)→Sl→Int→Int→Heap→Option R} {gkN:Sl→Sl→Int→Option (Nat × Nat)→Sl→Int→Int→Heap→Option S} {fkR:Bool→Heap→Option R} {gkR:Bool→Heap→Option S} (hkN:∀ t0 t1 t2 t7 t9 t10 t11 H,fkN t0 t1 t2 t7 t9 t10 t11 H = (gkN t0 t1 t2 t7 t9 t10 t11 H).bind k) (hkR:∀ t6 H,fkR t6 H = (gkR t6 H).bind k):g4_p11 R t0 t1 t2 t7 t9 t10 t11 H fkN fkR = (g4_p11 S t0 t1 t2 t7 t9 t10 t11 H gkN gkR).bind k:=by
  exact g4_p10_lin (fun _ _ _ _ _ _ _ _=>hkN _ _ _ _ _ _ _ _) (fun _ _ _ _ _ _ _ _=>hkN _ _ _ _ _ _ _ _) (fun _ _=>hkR _ _)
theorem g4_p11_eq {R:Type} (t0:Sl) (t1:Sl) (t2:Int) (t7:Option (Nat × Nat)) (t9:Sl) (t10:Int) (t11:Int) (H:Heap) (K:Ex→Fr→Heap→Option R):ev2 Try.prog (E4) loopLim lv4 Try.f4.ntmps kp4 c4_7 [(0,(V.sl t0)),(1,(V.sl t1)),(2,(V.i .u8 t2)),(7,(V.p t7)),(9,(V.sl t9)),(10,(V.i .i64 t10)),(11,(V.i .i64 t11))] H K = g4_p11 R t0 t1 t2 t7 t9 t10 t11 H (fun t0 t1 t2 t7 t9 t10 t11 H=>K .normal [(0,(V.sl t0)),(1,(V.sl t1)),(2,(V.i .u8 t2)),(7,(V.p t7)),(9,(V.sl t9)),(10,(V.i .i64 t10)),(11,(V.i .i64 t11))] H) (fun t6 H=>K .ret [(6,(V.b t6))] H):=by
  delta c4_7
  rw [ev2_block]
  delta g4_p11
  exact (g4_p10_eq t0 t1 t2 t7 t9 t10 t11 H (kBlock kp4 1 K))
noncomputable def g4_p12 (R:Type) (t0:Sl) (t1:Sl) (t2:Int) (t7:Option (Nat × Nat)) (t9:Sl) (t10:Int) (t11:Int) (H:Heap) (kN:Sl→Sl→Int→Option (Nat × Nat)→Sl→Int→Int→Heap→Option R):Option R :=
  kN t0 t1 t2 t7 t9 t10 (IntKind.wrap .i64 (t11 + (1:Int))) H
theorem g4_p12_eq {R:Type} (t0:Sl) (t1:Sl) (t2:Int) (t7:Option (Nat × Nat)) (t9:Sl) (t10:Int) (t11:Int) (H:Heap) (K:Ex→Fr→Heap→Option R):ev2 Try.prog (E4) loopLim lv4 Try.f4.ntmps kp4 c4_8 [(0,(V.sl t0)),(1,(V.sl t1)),(2,(V.i .u8 t2)),(7,(V.p t7)),(9,(V.sl t9)),(10,(V.i .i64 t10)),(11,(V.i .i64 t11))] H K = g4_p12 R t0 t1 t2 t7 t9 t10 t11 H (fun t0 t1 t2 t7 t9 t10 t11 H=>K .normal [(0,(V.sl t0)),(1,(V.sl t1)),(2,(V.i .u8 t2)),(7,(V.p t7)),(9,(V.sl t9)),(10,(V.i .i64 t10)),(11,(V.i .i64 t11))] H):=by kernel_rfl
theorem g4_p12_lin {R S:Type} {k:S→Option R} {t0:Sl} {t1:Sl} {t2:Int} {t7:Option (Nat × Nat)} {t9:Sl} {t10:Int} {t11:Int} {H:Heap} {fkN:Sl→Sl→Int→Option (Nat × Nat)→Sl→Int→Int→Heap→Option R} {gkN:Sl→Sl→Int→Option (Nat × Nat)→Sl→Int→Int→Heap→Option S} (hkN:∀ t0 t1 t2 t7 t9 t10 t11 H,fkN t0 t1 t2 t7 t9 t10 t11 H = (gkN t0 t1 t2 t7 t9 t10 t11 H).bind k):g4_p12 R t0 t1 t2 t7 t9 t10 t11 H fkN = (g4_p12 S t0 t1 t2 t7 t9 t10 t11 H gkN).bind k:=by
  delta g4_p12; exact (
    hkN _ _ _ _ _ _ _ _)
noncomputable def g4_p13 (R:Type) (t0:Sl) (t1:Sl) (t2:Int) (t7:Option (Nat × Nat)) (t9:Sl) (t10:Int) (t11:Int) (H:Heap) (kN:Sl→Sl→Int→Option (Nat × Nat)→Sl→Int→Int→Heap→Option R) (kR:Bool→Heap→Option R):Option R :=
  g4_p11 R t0 t1 t2 t7 t9 t10 t11 H (fun t0 t1 t2 t7 t9 t10 t11 H=>g4_p12 R t0 t1 t2 t7 t9 t10 t11 H (fun t0 t1 t2 t7 t9 t10 t11 H=>kN t0 t1 t2 t7 t9 t10 t11 H)) (fun t6 H=>kR t6 H)
theorem g4_p13_lin {R S:Type} {k:S→Option R} {t0:Sl} {t1:Sl} {t2:Int} {t7:Option (Nat × Nat)} {t9:Sl} {t10:Int} {t11:Int} {H:Heap} {fkN:Sl→Sl→Int→Option (Nat × Nat)→Sl→Int→Int→Heap→Option R} {gkN:Sl→Sl→Int→Option (Nat × Nat)→Sl→Int→Int→Heap→Option S} {fkR:Bool→Heap→Option R} {gkR:Bool→Heap→Option S} (hkN:∀ t0 t1 t2 t7 t9 t10 t11 H,fkN t0 t1 t2 t7 t9 t10 t11 H = (gkN t0 t1 t2 t7 t9 t10 t11 H).bind k) (hkR:∀ t6 H,fkR t6 H = (gkR t6 H).bind k):g4_p13 R t0 t1 t2 t7 t9 t10 t11 H fkN fkR = (g4_p13 S t0 t1 t2 t7 t9 t10 t11 H gkN gkR).bind k:=by
  exact g4_p11_lin (fun _ _ _ _ _ _ _ _=>g4_p12_lin (fun _ _ _ _ _ _ _ _=>hkN _ _ _ _ _ _ _ _)) (fun _ _=>hkR _ _)
theorem g4_p13_eq {R:Type} (t0:Sl) (t1:Sl) (t2:Int) (t7:Option (Nat × Nat)) (t9:Sl) (t10:Int) (t11:Int) (H:Heap) (K:Ex→Fr→Heap→Option R):ev2 Try.prog (E4) loopLim lv4 Try.f4.ntmps kp4 c4_9 [(0,(V.sl t0)),(1,(V.sl t1)),(2,(V.i .u8 t2)),(7,(V.p t7)),(9,(V.sl t9)),(10,(V.i .i64 t10)),(11,(V.i .i64 t11))] H K = g4_p13 R t0 t1 t2 t7 t9 t10 t11 H (fun t0 t1 t2 t7 t9 t10 t11 H=>K .normal [(0,(V.sl t0)),(1,(V.sl t1)),(2,(V.i .u8 t2)),(7,(V.p t7)),(9,(V.sl t9)),(10,(V.i .i64 t10)),(11,(V.i .i64 t11))] H) (fun t6 H=>K .ret [(6,(V.b t6))] H):=by
  delta c4_9
  rw [ev2_seq]
  delta g4_p13
  exact (g4_p11_eq t0 t1 t2 t7 t9 t10 t11 H (kSeq (fun fr H=>ev2 Try.prog (E4) loopLim lv4 Try.f4.ntmps kp4 c4_8 fr H K) K)).trans (congr (congrArg (g4_p11 R t0 t1 t2 t7 t9 t10 t11 H) (funext fun t0=>funext fun t1=>funext fun t2=>funext fun t7=>funext fun t9=>funext fun t10=>funext fun t11=>funext fun H=>(kSeq_n _ _ _ _).trans (g4_p12_eq t0 t1 t2 t7 t9 t10 t11 H K))) rfl)
noncomputable def g4_p14 (R:Type) (t0:Sl) (t1:Sl) (t2:Int) (t7:Option (Nat × Nat)) (t9:Sl) (t10:Int) (t11:Int) (H:Heap) (kN:Sl→Sl→Int→Option (Nat × Nat)→Sl→Int→Int→Heap→Option R) (kE0:Option (Nat × Nat)→Heap→Option R) (kR:Bool→Heap→Option R):Option R :=
  g4_p1 R t0 t1 t2 t7 t9 t10 t11 H (fun t0 t1 t2 t7 t9 t10 t11 H=>g4_p13 R t0 t1 t2 t7 t9 t10 t11 H (fun t0 t1 t2 t7 t9 t10 t11 H=>kN t0 t1 t2 t7 t9 t10 t11 H) (fun t6 H=>kR t6 H)) (fun t7 H=>kE0 t7 H)
theorem g4_p14_lin {R S:Type} {k:S→Option R} {t0:Sl} {t1:Sl} {t2:Int} {t7:Option (Nat × Nat)} {t9:Sl} {t10:Int} {t11:Int} {H:Heap} {fkN:Sl→Sl→Int→Option (Nat × Nat)→Sl→Int→Int→Heap→Option R} {gkN:Sl→Sl→Int→Option (Nat × Nat)→Sl→Int→Int→Heap→Option S} {fkE0:Option (Nat × Nat)→Heap→Option R} {gkE0:Option (Nat × Nat)→Heap→Option S} {fkR:Bool→Heap→Option R} {gkR:Bool→Heap→Option S} (hkN:∀ t0 t1 t2 t7 t9 t10 t11 H,fkN t0 t1 t2 t7 t9 t10 t11 H = (gkN t0 t1 t2 t7 t9 t10 t11 H).bind k) (hkE0:∀ t7 H,fkE0 t7 H = (gkE0 t7 H).bind k) (hkR:∀ t6 H,fkR t6 H = (gkR t6 H).bind k):g4_p14 R t0 t1 t2 t7 t9 t10 t11 H fkN fkE0 fkR = (g4_p14 S t0 t1 t2 t7 t9 t10 t11 H gkN gkE0 gkR).bind k:=by
  exact g4_p1_lin (fun _ _ _ _ _ _ _ _=>g4_p13_lin (fun _ _ _ _ _ _ _ _=>hkN _ _ _ _ _ _ _ _) (fun _ _=>hkR _ _)) (fun _ _=>hkE0 _ _)
theorem g4_p14_eq {R:Type} (t0:Sl) (t1:Sl) (t2:Int) (t7:Option (Nat × Nat)) (t9:Sl) (t10:Int) (t11:Int) (H:Heap) (K:Ex→Fr→Heap→Option R):ev2 Try.prog (E4) loopLim lv4 Try.f4.ntmps kp4 c4_10 [(0,(V.sl t0)),(1,(V.sl t1)),(2,(V.i .u8 t2)),(7,(V.p t7)),(9,(V.sl t9)),(10,(V.i .i64 t10)),(11,(V.i .i64 t11))] H K = g4_p14 R t0 t1 t2 t7 t9 t10 t11 H (fun t0 t1 t2 t7 t9 t10 t11 H=>K .normal [(0,(V.sl t0)),(1,(V.sl t1)),(2,(V.i .u8 t2)),(7,(V.p t7)),(9,(V.sl t9)),(10,(V.i .i64 t10)),(11,(V.i .i64 t11))] H) (fun t7 H=>K (.exit 0) [(7,(V.p t7))] H) (fun t6 H=>K .ret [(6,(V.b t6))] H):=by
  delta c4_10
  delta g4_p14
  exact (g4_p1_eq _ t0 t1 t2 t7 t9 t10 t11 H K).trans (congr (congrArg (g4_p1 R t0 t1 t2 t7 t9 t10 t11 H) (funext fun t0=>funext fun t1=>funext fun t2=>funext fun t7=>funext fun t9=>funext fun t10=>funext fun t11=>funext fun H=>g4_p13_eq t0 t1 t2 t7 t9 t10 t11 H K)) rfl)
abbrev g4_p15_S:=Sl × Sl × Int × (Option (Nat × Nat)) × Sl × Int × Int
abbrev g4_p15_O:=Sum ((Option (Nat × Nat))) (Bool)
def g4_p15_es (s:g4_p15_S):Fr:=[(0,(V.sl s.1)),(1,(V.sl s.2.1)),(2,(V.i .u8 s.2.2.1)),(7,(V.p s.2.2.2.1)),(9,(V.sl s.2.2.2.2.1)),(10,(V.i .i64 s.2.2.2.2.2.1)),(11,(V.i .i64 s.2.2.2.2.2.2))]
def g4_p15_er:g4_p15_O→Ex × Fr
  | (.inl r)=>((.exit 0),[(7,(V.p r))])
  | (.inr r)=>(.ret,[(6,(V.b r))])
noncomputable def g4_p15_b (s:g4_p15_S) (H:Heap):Option (Rd g4_p15_S g4_p15_O × Heap) :=
  g4_p14 _ s.1 s.2.1 s.2.2.1 s.2.2.2.1 s.2.2.2.2.1 s.2.2.2.2.2.1 s.2.2.2.2.2.2 H (fun t0 t1 t2 t7 t9 t10 t11 H=>some (.go (t0,t1,t2,t7,t9,t10,t11),H)) (fun t7 H=>some (.up (.inl t7),H)) (fun t6 H=>some (.up (.inr t6),H))
noncomputable def g4_p15 (R:Type) (t0:Sl) (t1:Sl) (t2:Int) (t7:Option (Nat × Nat)) (t9:Sl) (t10:Int) (t11:Int) (H:Heap) (kE0:Option (Nat × Nat)→Heap→Option R) (kR:Bool→Heap→Option R):Option R :=
  (tlim (g4_p15_b) (t0,t1,t2,t7,t9,t10,t11) H).bind fun p=>cas p.1 (fun r=>kE0 r p.2) (fun r0=>kR r0 p.2)
theorem g4_p15_lin {R S:Type} {k:S→Option R} {t0:Sl} {t1:Sl} {t2:Int} {t7:Option (Nat × Nat)} {t9:Sl} {t10:Int} {t11:Int} {H:Heap} {fkE0:Option (Nat × Nat)→Heap→Option R} {gkE0:Option (Nat × Nat)→Heap→Option S} {fkR:Bool→Heap→Option R} {gkR:Bool→Heap→Option S} (hkE0:∀ t7 H,fkE0 t7 H = (gkE0 t7 H).bind k) (hkR:∀ t6 H,fkR t6 H = (gkR t6 H).bind k):g4_p15 R t0 t1 t2 t7 t9 t10 t11 H fkE0 fkR = (g4_p15 S t0 t1 t2 t7 t9 t10 t11 H gkE0 gkR).bind k:=by
  exact bl fun p=>cas_lin (fun _=>hkE0 _ _) (fun _=>hkR _ _)
theorem g4_p15_eq {R:Type} (t0:Sl) (t1:Sl) (t2:Int) (t7:Option (Nat × Nat)) (t9:Sl) (t10:Int) (t11:Int) (H:Heap) (K:Ex→Fr→Heap→Option R):ev2 Try.prog (E4) loopLim lv4 Try.f4.ntmps kp4 c4_11 [(0,(V.sl t0)),(1,(V.sl t1)),(2,(V.i .u8 t2)),(7,(V.p t7)),(9,(V.sl t9)),(10,(V.i .i64 t10)),(11,(V.i .i64 t11))] H K = g4_p15 R t0 t1 t2 t7 t9 t10 t11 H (fun t7 H=>K (.exit 0) [(7,(V.p t7))] H) (fun t6 H=>K .ret [(6,(V.b t6))] H):=by
  delta c4_11
  delta g4_p15
  refine (ev2_tlim (b:=g4_p15_b) (es:=g4_p15_es) (er:=g4_p15_er) (by rintro (r | r) <;> exact nofun) (fun s H=>?_) (t0,t1,t2,t7,t9,t10,t11) H K).trans (bc fun p=>by rcases p with ⟨(r | r),H⟩ <;> rfl)
  exact (g4_p14_eq s.1 s.2.1 s.2.2.1 s.2.2.2.1 s.2.2.2.2.1 s.2.2.2.2.2.1 s.2.2.2.2.2.2 H ret3).trans (g4_p14_lin (fun _ _ _ _ _ _ _ _=>rfl) (fun _ _=>rfl) (fun _ _=>rfl))
noncomputable def g4_p16 (R:Type) (t0:Sl) (t1:Sl) (t2:Int) (t7:Option (Nat × Nat)) (t9:Sl) (t10:Int) (t11:Int) (H:Heap) (kN:Option (Nat × Nat)→Heap→Option R) (kR:Bool→Heap→Option R):Option R :=
  g4_p15 R t0 t1 t2 t7 t9 t10 t11 H (fun t7 H=>kN t7 H) (fun t6 H=>kR t6 H)
theorem g4_p16_lin {R S:Type} {k:S→Option R} {t0:Sl} {t1:Sl} {t2:Int} {t7:Option (Nat × Nat)} {t9:Sl} {t10:Int} {t11:Int} {H:Heap} {fkN:Option (Nat × Nat)→Heap→Option R} {gkN:Option (Nat × Nat)→Heap→Option S} {fkR:Bool→Heap→Option R} {gkR:Bool→Heap→Option S} (hkN:∀ t7 H,fkN t7 H = (gkN t7 H).bind k) (hkR:∀ t6 H,fkR t6 H = (gkR t6 H).bind k):g4_p16 R t0 t1 t2 t7 t9 t10 t11 H fkN fkR = (g4_p16 S t0 t1 t2 t7 t9 t10 t11 H gkN gkR).bind k:=by
  exact g4_p15_lin (fun _ _=>hkN _ _) (fun _ _=>hkR _ _)
theorem g4_p16_eq {R:Type} (t0:Sl) (t1:Sl) (t2:Int) (t7:Option (Nat × Nat)) (t9:Sl) (t10:Int) (t11:Int) (H:Heap) (K:Ex→Fr→Heap→Option R):ev2 Try.prog (E4) loopLim lv4 Try.f4.ntmps kp4 c4_12 [(0,(V.sl t0)),(1,(V.sl t1)),(2,(V.i .u8 t2)),(7,(V.p t7)),(9,(V.sl t9)),(10,(V.i .i64 t10)),(11,(V.i .i64 t11))] H K = g4_p16 R t0 t1 t2 t7 t9 t10 t11 H (fun t7 H=>K .normal [(7,(V.p t7))] H) (fun t6 H=>K .ret [(6,(V.b t6))] H):=by
  delta c4_12
  rw [ev2_block]
  delta g4_p16
  exact (g4_p15_eq t0 t1 t2 t7 t9 t10 t11 H (kBlock kp4 0 K))
noncomputable def g4_p17 (R:Type) (t7:Option (Nat × Nat)) (H:Heap) (kR:Bool→Heap→Option R):Option R :=
  g14 R t7 H fun x263 h264 =>
  sel (x263 == (0:Int)) (
    g9 R h264 fun x265 h266 =>
    kR x265 h266) (
    kR false h264)
theorem g4_p17_eq {R:Type} (t7:Option (Nat × Nat)) (H:Heap) (K:Ex→Fr→Heap→Option R):ev2 Try.prog (E4) loopLim lv4 Try.f4.ntmps kp4 c4_13 [(7,(V.p t7))] H K = g4_p17 R t7 H (fun t6 H=>K .ret [(6,(V.b t6))] H):=by kernel_rfl
theorem g4_p17_lin {R S:Type} {k:S→Option R} {t7:Option (Nat × Nat)} {H:Heap} {fkR:Bool→Heap→Option R} {gkR:Bool→Heap→Option S} (hkR:∀ t6 H,fkR t6 H = (gkR t6 H).bind k):g4_p17 R t7 H fkR = (g4_p17 S t7 H gkR).bind k:=by
  delta g4_p17; exact (
    g14_lin.l fun x263 h264 =>
    sl_lin (
      g9_lin.l fun x265 h266 =>
      hkR _ _) (
      hkR _ _))
noncomputable def g4_p18 (R:Type) (t0:Sl) (t1:Sl) (t2:Int) (t7:Option (Nat × Nat)) (t9:Sl) (t10:Int) (t11:Int) (H:Heap) (kR:Bool→Heap→Option R):Option R :=
  g4_p16 R t0 t1 t2 t7 t9 t10 t11 H (fun t7 H=>g4_p17 R t7 H (fun t6 H=>kR t6 H)) (fun t6 H=>kR t6 H)
theorem g4_p18_lin {R S:Type} {k:S→Option R} {t0:Sl} {t1:Sl} {t2:Int} {t7:Option (Nat × Nat)} {t9:Sl} {t10:Int} {t11:Int} {H:Heap} {fkR:Bool→Heap→Option R} {gkR:Bool→Heap→Option S} (hkR:∀ t6 H,fkR t6 H = (gkR t6 H).bind k):g4_p18 R t0 t1 t2 t7 t9 t10 t11 H fkR = (g4_p18 S t0 t1 t2 t7 t9 t10 t11 H gkR).bind k:=by
  exact g4_p16_lin (fun _ _=>g4_p17_lin (fun _ _=>hkR _ _)) (fun _ _=>hkR _ _)
theorem g4_p18_eq {R:Type} (t0:Sl) (t1:Sl) (t2:Int) (t7:Option (Nat × Nat)) (t9:Sl) (t10:Int) (t11:Int) (H:Heap) (K:Ex→Fr→Heap→Option R):ev2 Try.prog (E4) loopLim lv4 Try.f4.ntmps kp4 c4_14 [(0,(V.sl t0)),(1,(V.sl t1)),(2,(V.i .u8 t2)),(7,(V.p t7)),(9,(V.sl t9)),(10,(V.i .i64 t10)),(11,(V.i .i64 t11))] H K = g4_p18 R t0 t1 t2 t7 t9 t10 t11 H (fun t6 H=>K .ret [(6,(V.b t6))] H):=by
  delta c4_14
  rw [ev2_seq]
  delta g4_p18
  exact (g4_p16_eq t0 t1 t2 t7 t9 t10 t11 H (kSeq (fun fr H=>ev2 Try.prog (E4) loopLim lv4 Try.f4.ntmps kp4 c4_13 fr H K) K)).trans (congr (congrArg (g4_p16 R t0 t1 t2 t7 t9 t10 t11 H) (funext fun t7=>funext fun H=>(kSeq_n _ _ _ _).trans (g4_p17_eq t7 H K))) rfl)
noncomputable def g4_p19 (R:Type) (t0:Sl) (t1:Sl) (t2:Int) (H:Heap) (kR:Bool→Heap→Option R):Option R :=
  g4_p0 R t0 t1 t2 H (fun t0 t1 t2 t7 t9 t10 t11 H=>g4_p18 R t0 t1 t2 t7 t9 t10 t11 H (fun t6 H=>kR t6 H)) (fun t6 H=>kR t6 H)
theorem g4_p19_lin {R S:Type} {k:S→Option R} {t0:Sl} {t1:Sl} {t2:Int} {H:Heap} {fkR:Bool→Heap→Option R} {gkR:Bool→Heap→Option S} (hkR:∀ t6 H,fkR t6 H = (gkR t6 H).bind k):g4_p19 R t0 t1 t2 H fkR = (g4_p19 S t0 t1 t2 H gkR).bind k:=by
  exact g4_p0_lin (fun _ _ _ _ _ _ _ _=>g4_p18_lin (fun _ _=>hkR _ _)) (fun _ _=>hkR _ _)
theorem g4_p19_eq {R:Type} (t0:Sl) (t1:Sl) (t2:Int) (H:Heap) (K:Ex→Fr→Heap→Option R):ev2 Try.prog (E4) loopLim lv4 Try.f4.ntmps kp4 c4_15 [(0,(V.sl t0)),(1,(V.sl t1)),(2,(V.i .u8 t2))] H K = g4_p19 R t0 t1 t2 H (fun t6 H=>K .ret [(6,(V.b t6))] H):=by
  delta c4_15
  delta g4_p19
  exact (g4_p0_eq _ t0 t1 t2 H K).trans (congr (congrArg (g4_p0 R t0 t1 t2 H) (funext fun t0=>funext fun t1=>funext fun t2=>funext fun t7=>funext fun t9=>funext fun t10=>funext fun t11=>funext fun H=>g4_p18_eq t0 t1 t2 t7 t9 t10 t11 H K)) rfl)
noncomputable def g4_r:T4:=fun R t0 t1 t2 H K =>
  g4_p19 R t0 t1 t2 H (fun t6 H =>
    K t6 H)
theorem g4_r_lin:Lin4 (g4_r):=by
  constructor
  intro R S k t0 t1 t2 H f g h
  exact g4_p19_lin (fun t6 H =>
    h _ _)
theorem g4_fn {R:Type} (t0:Sl) (t1:Sl) (t2:Int) (H:Heap) (K:V→Heap→Option R):evFn2 Try.prog (E4) loopLim lv4 Try.f4 kp4 [(V.sl t0),(V.sl t1),(V.i .u8 t2)] H K = g4_r R t0 t1 t2 H (fun r0 H=>K (V.b r0) H):=by
  have h0 : ∀ (t6 : Bool) (H : Heap), kFn2 Try.prog Try.f4.results.toList K .ret [(6, (V.b t6))] H =
      K (V.b t6) H:=by intros; kernel_rfl
  have e0:=evFn2_code2 (P:=Try.prog) (c:=c4_15) (E:=(E4)) (lr:=loopLim) (lv:=lv4) (kp:=kp4) (fn:=Try.f4) (args:=[(V.sl t0),(V.sl t1),(V.i .u8 t2)]) H K (by kernel_rfl) (Nat.le_of_ble_eq_true (by kernel_rfl)) (by kernel_rfl) (by kernel_rfl)
  have e1:ev2 Try.prog (E4) loopLim lv4 Try.f4.ntmps kp4 c4_15 (argFr 0 [(V.sl t0),(V.sl t1),(V.i .u8 t2)]) H (kFn2 Try.prog Try.f4.results.toList K) = ev2 Try.prog (E4) loopLim lv4 Try.f4.ntmps kp4 c4_15 [(0,(V.sl t0)),(1,(V.sl t1)),(2,(V.i .u8 t2))] H (kFn2 Try.prog Try.f4.results.toList K):=by kernel_rfl
  refine (e0.trans e1).trans ?_
  delta g4_r
  exact (g4_p19_eq t0 t1 t2 H (kFn2 Try.prog Try.f4.results.toList K)).trans (congrArg (g4_p19 R t0 t1 t2 H) (funext fun t6=>funext fun H=>h0 t6 H))
theorem g4_ok:FunOK Try.prog 4 (w4 (g4_r)):=by
  refine (runF2_ok (E4_good) mixed lim_ok Try.func4 (by kernel_rfl) lv4 kp4).of_le fun R args H K r hk=>?_
  unfold w4 at hk
  split at hk
  · exact (g4_fn _ _ _ H K).trans hk
  · cases hk
noncomputable def g4:T4:=g4_r
theorem g4_lin:Lin4 g4:=g4_r_lin
theorem ok4:FunOK Try.prog 4 (w4 g4):=g4_ok
end Go.Proofs.Ytobebcfkddimkaa

