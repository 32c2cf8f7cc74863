/- Printed: functions as the machine runs them. -/
import Derived.Test.YtobebcfkddimkaaGJ0
import Derived.Test.YtobebcfkddimkaaTK2
import Derived.Test.YtobebcfkddimkaaTS
namespace Go.Proofs.Ytobebcfkddimkaa
open Go AM Go.RowKit
set_option linter.unusedVariables false
def kp3:Nat→Option (List Nat):=kpOf [(0,[0,1,2]),(1,[0,1,2,31]),(2,[6]),(3,[0,1,7,8]),(4,[0,1,7,42]),(5,[6]),(6,[0,1,7,9]),(7,[0,1,7,9,46]),(8,[0,1,7,9]),(9,[0,1,7,9,53]),(10,[0,1,7,9]),(11,[0,1,7,9,10]),(12,[0,1,7,9,10,11]),(13,[0,1,7,9,10,11,67]),(14,[0,1,7,9,10,11]),(15,[0,1,7,9,10,11,97]),(16,[0,1,7,9,10,11]),(17,[0,1,7,9,12,13,14]),(18,[0,1,7,9,12,13,14,110]),(19,[6]),(20,[0,1,7,9,14,15,16,17]),(21,[0,1,7,9,171]),(22,[6]),(23,[7,18]),(24,[7,18,173]),(25,[7,18]),(26,[7,18]),(27,[6]),(100000,[7]),(100001,[0,1,7,9]),(100002,[0,1,7,9,10]),(100003,[0,1,7,9,10,11]),(100004,[7]),(100005,[7,18]),(200000,[0,1,7,9]),(200001,[0,1,7,9]),(200002,[0,1,7,9,10,11]),(200003,[0,1,7,9,10,11]),(200004,[7,18]),(200005,[7,18]),(300000,[6]),(400031,[0,1,2]),(400042,[0,1,7]),(400046,[0,1,7,9]),(400053,[0,1,7,9]),(400067,[0,1,7,9,10,11]),(400097,[0,1,7,9,10,11]),(400110,[0,1,7,9,12,13,14]),(400171,[0,1,7,9]),(400173,[7,18])]
noncomputable def E3:FEnv:=[(9,w9 g9),(10,w10 g10),(11,w11 g11),(12,w12 g12),(13,w13 g13),(14,w14 g14)]
theorem E3_good:EnvGood Try.prog (E3):=(((((((EnvGood.nil _).cons ok14 (w14_lin g14_lin)).cons ok13 (w13_lin g13_lin)).cons ok12 (w12_lin g12_lin)).cons ok11 (w11_lin g11_lin)).cons ok10 (w10_lin g10_lin)).cons ok9 (w9_lin g9_lin))
def lv3:Nat→Bool:=lvOf []
noncomputable def b3:Code:=Try.f3.body.getD .skip
noncomputable def c3_0:Code:=(.seq (codeAt [1,1,1,1,0,1,0,0,1,0,0,1,1,0,1,0,0,0,0] b3) (.seq (.cond (.tmp 67) .skip (.exit 2)) (.seq (.block 3 (.seq (codeAt [1,1,1,1,0,1,0,0,1,0,0,1,1,0,1,0,0,1,0,0,0] b3) (.cond (.tmp 97) (codeAt [1,1,1,1,0,1,0,0,1,0,0,1,1,0,1,0,0,1,0,0,1,0] b3) .skip))) (codeAt [1,1,1,1,0,1,0,0,1,0,0,1,1,0,1,0,0,1,1] b3))))
noncomputable def c3_1:Code:=(.loop c3_0)
noncomputable def c3_2:Code:=(.block 2 c3_1)
noncomputable def c3_3:Code:=(.cond (.tmp 171) (.seq (codeAt [1,1,1,1,0,1,0,0,1,0,0,1,1,1,1,1,1,1,0,0] b3) .ret) .skip)
noncomputable def c3_4:Code:=(.seq (codeAt [1,1,1,1,0,1,0,0,1,0,0,1,1,1,0] b3) (.seq (codeAt [1,1,1,1,0,1,0,0,1,0,0,1,1,1,1,0,0] b3) (.seq (.cond (.tmp 110) (.seq (codeAt [1,1,1,1,0,1,0,0,1,0,0,1,1,1,1,0,1,0,0] b3) .ret) .skip) (.seq (codeAt [1,1,1,1,0,1,0,0,1,0,0,1,1,1,1,1,0] b3) (.seq (codeAt [1,1,1,1,0,1,0,0,1,0,0,1,1,1,1,1,1,0] b3) c3_3)))))
noncomputable def c3_5:Code:=(.seq c3_2 c3_4)
noncomputable def c3_6:Code:=(.seq (codeAt [1,1,1,1,0,1,0,0,1,0,0,0,0] b3) (.seq (.cond (.tmp 53) (.seq (codeAt [1,1,1,1,0,1,0,0,1,0,0,0,1,0,0] b3) (.exit 1)) .skip) (.seq (codeAt [1,1,1,1,0,1,0,0,1,0,0,1,0] b3) (.seq (codeAt [1,1,1,1,0,1,0,0,1,0,0,1,1,0,0] b3) c3_5))))
noncomputable def c3_7:Code:=(.block 1 c3_6)
noncomputable def c3_8:Code:=(codeAt [1,1,1,1,0,1,0,0,1,1] b3)
noncomputable def c3_9:Code:=(.seq c3_7 c3_8)
noncomputable def c3_10:Code:=(.seq (codeAt [1,1,1,1,0,1,0,0,0,0] b3) (.seq (.cond (.tmp 46) .skip (.exit 0)) c3_9))
noncomputable def c3_11:Code:=(.loop c3_10)
noncomputable def c3_12:Code:=(.block 0 c3_11)
noncomputable def c3_13:Code:=(.seq (codeAt [1,1,1,1,1,0,1,0,0,0,0] b3) (.seq (.cond (.tmp 173) .skip (.exit 4)) (.seq (.block 5 (codeAt [1,1,1,1,1,0,1,0,0,1,0,0] b3)) (codeAt [1,1,1,1,1,0,1,0,0,1,1] b3))))
noncomputable def c3_14:Code:=(.loop c3_13)
noncomputable def c3_15:Code:=(.block 4 c3_14)
noncomputable def c3_16:Code:=(.seq (codeAt [1,1,1,1,1,1,0] b3) .ret)
noncomputable def c3_17:Code:=(.seq c3_15 c3_16)
noncomputable def c3_18:Code:=(.seq (codeAt [1,1,1,1,1,0,0] b3) c3_17)
noncomputable def c3_19:Code:=(.seq c3_12 c3_18)
noncomputable def c3_20:Code:=(.seq (codeAt [0] b3) (.seq (codeAt [1,0,0] b3) (.seq (.cond (.tmp 31) (.seq (codeAt [1,0,1,0,0] b3) .ret) .skip) (.seq (codeAt [1,1,0] b3) (.seq (codeAt [1,1,1,0,0] b3) (.seq (.cond (.tmp 42) (.seq (codeAt [1,1,1,0,1,0,0] b3) .ret) .skip) (.seq (codeAt [1,1,1,1,0,0] b3) c3_19)))))))
noncomputable def g3_p0 (R:Type) (t0:Sl) (t1:Sl) (t2:Int) (H:Heap) (kN:Sl→Sl→Option (Nat × Nat)→Int→Heap→Option R) (kR:Bool→Heap→Option R):Option R :=
  sel (decide (((t0.len:Nat):Int) > (8:Int))) (
    g9 R H fun x34 h35 =>
    kR x34 h35) (
    sel (decide (((t1.len:Nat):Int) > (80:Int))) (
      g9 R H fun x36 h37 =>
      kR x36 h37) (
      sel (((t0.len:Nat):Int) == (0:Int)) (
        g9 R H fun x38 h39 =>
        kR x38 h39) (
        g10 R (IntKind.wrap .i64 ((1:Int) + (IntKind.wrap .i64 (Int.tmod t2 (6:Int))))) H fun x40 x41 h42 =>
        sel (x41 != (0:Int)) (
          kR false h42) (
          kN t0 t1 x40 (0:Int) h42))))
theorem g3_p0_eq {R:Type} (c2:Code) (t0:Sl) (t1:Sl) (t2:Int) (H:Heap) (K:Ex→Fr→Heap→Option R):ev2 Try.prog (E3) loopLim lv3 Try.f3.ntmps kp3 (.seq (codeAt [0] b3) (.seq (codeAt [1,0,0] b3) (.seq (.cond (.tmp 31) (.seq (codeAt [1,0,1,0,0] b3) .ret) .skip) (.seq (codeAt [1,1,0] b3) (.seq (codeAt [1,1,1,0,0] b3) (.seq (.cond (.tmp 42) (.seq (codeAt [1,1,1,0,1,0,0] b3) .ret) .skip) (.seq (codeAt [1,1,1,1,0,0] b3) c2))))))) [(0,(V.sl t0)),(1,(V.sl t1)),(2,(V.i .u8 t2))] H K = g3_p0 R t0 t1 t2 H (fun t0 t1 t7 t9 H=>ev2 Try.prog (E3) loopLim lv3 Try.f3.ntmps kp3 c2 [(0,(V.sl t0)),(1,(V.sl t1)),(7,(V.p t7)),(9,(V.i .i64 t9))] H K) (fun t6 H=>K .ret [(6,(V.b t6))] H):=by kernel_rfl
theorem g3_p0_lin {R S:Type} {k:S→Option R} {t0:Sl} {t1:Sl} {t2:Int} {H:Heap} {fkN:Sl→Sl→Option (Nat × Nat)→Int→Heap→Option R} {gkN:Sl→Sl→Option (Nat × Nat)→Int→Heap→Option S} {fkR:Bool→Heap→Option R} {gkR:Bool→Heap→Option S} (hkN:∀ t0 t1 t7 t9 H,fkN t0 t1 t7 t9 H = (gkN t0 t1 t7 t9 H).bind k) (hkR:∀ t6 H,fkR t6 H = (gkR t6 H).bind k):g3_p0 R t0 t1 t2 H fkN fkR = (g3_p0 S t0 t1 t2 H gkN gkR).bind k:=by
  delta g3_p0; exact (
    sl_lin (
      g9_lin.l fun x34 h35 =>
      hkR _ _) (
      sl_lin (
        g9_lin.l fun x36 h37 =>
        hkR _ _) (
        sl_lin (
          g9_lin.l fun x38 h39 =>
          hkR _ _) (
          g10_lin.l fun x40 x41 h42 =>
          sl_lin (
            hkR _ _) (
            hkN _ _ _ _ _)))))
noncomputable def g3_p1 (R:Type) (t0:Sl) (t1:Sl) (t7:Option (Nat × Nat)) (t9:Int) (H:Heap) (kN:Sl→Sl→Option (Nat × Nat)→Int→Heap→Option R) (kE0:Option (Nat × Nat)→Heap→Option R):Option R :=
  sel (decide (t9 < ((t1.len:Nat):Int))) (
    kN t0 t1 t7 t9 H) (
    kE0 t7 H)
theorem g3_p1_eq {R:Type} (c2:Code) (t0:Sl) (t1:Sl) (t7:Option (Nat × Nat)) (t9:Int) (H:Heap) (K:Ex→Fr→Heap→Option R):ev2 Try.prog (E3) loopLim lv3 Try.f3.ntmps kp3 (.seq (codeAt [1,1,1,1,0,1,0,0,0,0] b3) (.seq (.cond (.tmp 46) .skip (.exit 0)) c2)) [(0,(V.sl t0)),(1,(V.sl t1)),(7,(V.p t7)),(9,(V.i .i64 t9))] H K = g3_p1 R t0 t1 t7 t9 H (fun t0 t1 t7 t9 H=>ev2 Try.prog (E3) loopLim lv3 Try.f3.ntmps kp3 c2 [(0,(V.sl t0)),(1,(V.sl t1)),(7,(V.p t7)),(9,(V.i .i64 t9))] H K) (fun t7 H=>K (.exit 0) [(7,(V.p t7))] H):=by kernel_rfl
theorem g3_p1_lin {R S:Type} {k:S→Option R} {t0:Sl} {t1:Sl} {t7:Option (Nat × Nat)} {t9:Int} {H:Heap} {fkN:Sl→Sl→Option (Nat × Nat)→Int→Heap→Option R} {gkN:Sl→Sl→Option (Nat × Nat)→Int→Heap→Option S} {fkE0:Option (Nat × Nat)→Heap→Option R} {gkE0:Option (Nat × Nat)→Heap→Option S} (hkN:∀ t0 t1 t7 t9 H,fkN t0 t1 t7 t9 H = (gkN t0 t1 t7 t9 H).bind k) (hkE0:∀ t7 H,fkE0 t7 H = (gkE0 t7 H).bind k):g3_p1 R t0 t1 t7 t9 H fkN fkE0 = (g3_p1 S t0 t1 t7 t9 H gkN gkE0).bind k:=by
  delta g3_p1; exact (
    sl_lin (
      hkN _ _ _ _ _) (
      hkE0 _ _))
noncomputable def g3_p2 (R:Type) (t0:Sl) (t1:Sl) (t7:Option (Nat × Nat)) (t9:Int) (H:Heap) (kN:Sl→Sl→Option (Nat × Nat)→Int→Int→Int→Heap→Option R) (kE1:Sl→Sl→Option (Nat × Nat)→Int→Heap→Option R):Option R :=
  if 0 ≤ t9∧t9 < ((t1.len:Nat):Int) then (
    (t1.a).bind fun q55 =>
    ((H).ldB q55.1 ((q55.2 + Int.toNat t9 * 3) + 0)).bind fun x56 =>
    sel x56 (
      g11 R t7 H fun x57 h58 =>
      kE1 t0 t1 t7 t9 h58) (
      if 0 ≤ t9∧t9 < ((t1.len:Nat):Int) then (
        (t1.a).bind fun q59 =>
        ((H).ldI .u8 q59.1 ((q59.2 + Int.toNat t9 * 3) + 1)).bind fun x60 =>
        if ((t0.len:Nat):Int) = 0 then (
          none)
        else (
          kN t0 t1 t7 t9 (Int.tmod (IntKind.wrap .i64 x60) ((t0.len:Nat):Int)) (0:Int) H))
      else (
        none)))
  else (
    none)
theorem g3_p2_eq {R:Type} (c2:Code) (t0:Sl) (t1:Sl) (t7:Option (Nat × Nat)) (t9:Int) (H:Heap) (K:Ex→Fr→Heap→Option R):ev2 Try.prog (E3) loopLim lv3 Try.f3.ntmps kp3 (.seq (codeAt [1,1,1,1,0,1,0,0,1,0,0,0,0] b3) (.seq (.cond (.tmp 53) (.seq (codeAt [1,1,1,1,0,1,0,0,1,0,0,0,1,0,0] b3) (.exit 1)) .skip) (.seq (codeAt [1,1,1,1,0,1,0,0,1,0,0,1,0] b3) (.seq (codeAt [1,1,1,1,0,1,0,0,1,0,0,1,1,0,0] b3) c2)))) [(0,(V.sl t0)),(1,(V.sl t1)),(7,(V.p t7)),(9,(V.i .i64 t9))] H K = g3_p2 R t0 t1 t7 t9 H (fun t0 t1 t7 t9 t10 t11 H=>ev2 Try.prog (E3) loopLim lv3 Try.f3.ntmps kp3 c2 [(0,(V.sl t0)),(1,(V.sl t1)),(7,(V.p t7)),(9,(V.i .i64 t9)),(10,(V.i .i64 t10)),(11,(V.i .i64 t11))] H K) (fun t0 t1 t7 t9 H=>K (.exit 1) [(0,(V.sl t0)),(1,(V.sl t1)),(7,(V.p t7)),(9,(V.i .i64 t9))] H):=by kernel_rfl
theorem g3_p2_lin {R S:Type} {k:S→Option R} {t0:Sl} {t1:Sl} {t7:Option (Nat × Nat)} {t9:Int} {H:Heap} {fkN:Sl→Sl→Option (Nat × Nat)→Int→Int→Int→Heap→Option R} {gkN:Sl→Sl→Option (Nat × Nat)→Int→Int→Int→Heap→Option S} {fkE1:Sl→Sl→Option (Nat × Nat)→Int→Heap→Option R} {gkE1:Sl→Sl→Option (Nat × Nat)→Int→Heap→Option S} (hkN:∀ t0 t1 t7 t9 t10 t11 H,fkN t0 t1 t7 t9 t10 t11 H = (gkN t0 t1 t7 t9 t10 t11 H).bind k) (hkE1:∀ t0 t1 t7 t9 H,fkE1 t0 t1 t7 t9 H = (gkE1 t0 t1 t7 t9 H).bind k):g3_p2 R t0 t1 t7 t9 H fkN fkE1 = (g3_p2 S t0 t1 t7 t9 H gkN gkE1).bind k:=by
  delta g3_p2; exact (
    il (
      bl fun q55 =>
      bl fun x56 =>
      sl_lin (
        g11_lin.l fun x57 h58 =>
        hkE1 _ _ _ _ _) (
        il (
          bl fun q59 =>
          bl fun x60 =>
          il (
            rfl) (
            hkN _ _ _ _ _ _ _)) (
          rfl))) (
      rfl))
noncomputable def g3_p3 (R:Type) (t0:Sl) (t1:Sl) (t7:Option (Nat × Nat)) (t9:Int) (t10:Int) (t11:Int) (H:Heap) (kN:Sl→Sl→Option (Nat × Nat)→Int→Int→Int→Heap→Option R) (kE2:Sl→Sl→Option (Nat × Nat)→Int→Int→Heap→Option R):Option R :=
  sel (decide (t11 < t10)) (
    if 0 ≤ t11∧t11 < ((t0.len:Nat):Int) then (
      (t0.a).bind fun q61 =>
      ((H).ldI .u8 q61.1 ((q61.2 + Int.toNat t11 * 4) + 0)).bind fun x62 =>
      if 0 ≤ t10∧t10 < ((t0.len:Nat):Int) then (
        (t0.a).bind fun q63 =>
        ((H).ldI .u8 q63.1 ((q63.2 + Int.toNat t10 * 4) + 0)).bind fun x64 =>
        sel ((Int.tmod x62 (4:Int)) == (Int.tmod x64 (4:Int))) (
          if 0 ≤ t11∧t11 < ((t0.len:Nat):Int) then (
            (t0.a).bind fun q65 =>
            ((H).ldI .u8 q65.1 ((q65.2 + Int.toNat t11 * 4) + 1)).bind fun x66 =>
            if 0 ≤ t10∧t10 < ((t0.len:Nat):Int) then (
              (t0.a).bind fun q67 =>
              ((H).ldI .u8 q67.1 ((q67.2 + Int.toNat t10 * 4) + 1)).bind fun x68 =>
              sel ((Int.tmod x66 (8:Int)) == (Int.tmod x68 (8:Int))) (
                kN t0 t1 t7 t9 t11 (IntKind.wrap .i64 (t11 + (1:Int))) H) (
                kN t0 t1 t7 t9 t10 (IntKind.wrap .i64 (t11 + (1:Int))) H))
            else (
              none))
          else (
            none)) (
          kN t0 t1 t7 t9 t10 (IntKind.wrap .i64 (t11 + (1:Int))) H))
      else (
        none))
    else (
      none)) (
    kE2 t0 t1 t7 t9 t10 H)
theorem g3_p3_eq {R:Type} (t0:Sl) (t1:Sl) (t7:Option (Nat × Nat)) (t9:Int) (t10:Int) (t11:Int) (H:Heap) (K:Ex→Fr→Heap→Option R):ev2 Try.prog (E3) loopLim lv3 Try.f3.ntmps kp3 c3_0 [(0,(V.sl t0)),(1,(V.sl t1)),(7,(V.p t7)),(9,(V.i .i64 t9)),(10,(V.i .i64 t10)),(11,(V.i .i64 t11))] H K = g3_p3 R t0 t1 t7 t9 t10 t11 H (fun t0 t1 t7 t9 t10 t11 H=>K .normal [(0,(V.sl t0)),(1,(V.sl t1)),(7,(V.p t7)),(9,(V.i .i64 t9)),(10,(V.i .i64 t10)),(11,(V.i .i64 t11))] H) (fun t0 t1 t7 t9 t10 H=>K (.exit 2) [(0,(V.sl t0)),(1,(V.sl t1)),(7,(V.p t7)),(9,(V.i .i64 t9)),(10,(V.i .i64 t10))] H):=by kernel_rfl
theorem g3_p3_lin {R S:Type} {k:S→Option R} {t0:Sl} {t1:Sl} {t7:Option (Nat × Nat)} {t9:Int} {t10:Int} {t11:Int} {H:Heap} {fkN:Sl→Sl→Option (Nat × Nat)→Int→Int→Int→Heap→Option R} {gkN:Sl→Sl→Option (Nat × Nat)→Int→Int→Int→Heap→Option S} {fkE2:Sl→Sl→Option (Nat × Nat)→Int→Int→Heap→Option R} {gkE2:Sl→Sl→Option (Nat × Nat)→Int→Int→Heap→Option S} (hkN:∀ t0 t1 t7 t9 t10 t11 H,fkN t0 t1 t7 t9 t10 t11 H = (gkN t0 t1 t7 t9 t10 t11 H).bind k) (hkE2:∀ t0 t1 t7 t9 t10 H,fkE2 t0 t1 t7 t9 t10 H = (gkE2 t0 t1 t7 t9 t10 H).bind k):g3_p3 R t0 t1 t7 t9 t10 t11 H fkN fkE2 = (g3_p3 S t0 t1 t7 t9 t10 t11 H gkN gkE2).bind k:=by
  delta g3_p3
  repeat' (first | with_reducible (first | exact hkN _ _ _ _ _ _ _ | exact hkE2 _ _ _ _ _ _ | refine sl_lin ?_ ?_ | refine il ?_ ?_ | refine bl fun _=>?_) | exact (rfl:(none:Option R) = (none:Option S).bind k))
abbrev g3_p4_S:=Sl × Sl × (Option (Nat × Nat)) × Int × Int × Int
abbrev g3_p4_O:=Sl × Sl × (Option (Nat × Nat)) × Int × Int
def g3_p4_es (s:g3_p4_S):Fr:=[(0,(V.sl s.1)),(1,(V.sl s.2.1)),(7,(V.p s.2.2.1)),(9,(V.i .i64 s.2.2.2.1)),(10,(V.i .i64 s.2.2.2.2.1)),(11,(V.i .i64 s.2.2.2.2.2))]
def g3_p4_er (r:g3_p4_O):Ex × Fr:=((.exit 2),[(0,(V.sl r.1)),(1,(V.sl r.2.1)),(7,(V.p r.2.2.1)),(9,(V.i .i64 r.2.2.2.1)),(10,(V.i .i64 r.2.2.2.2))])
noncomputable def g3_p4_b (s:g3_p4_S) (H:Heap):Option (Rd g3_p4_S g3_p4_O × Heap) :=
  g3_p3 _ s.1 s.2.1 s.2.2.1 s.2.2.2.1 s.2.2.2.2.1 s.2.2.2.2.2 H (fun t0 t1 t7 t9 t10 t11 H=>some (.go (t0,t1,t7,t9,t10,t11),H)) (fun t0 t1 t7 t9 t10 H=>some (.up (t0,t1,t7,t9,t10),H))
noncomputable def g3_p4 (R:Type) (t0:Sl) (t1:Sl) (t7:Option (Nat × Nat)) (t9:Int) (t10:Int) (t11:Int) (H:Heap) (kE2:Sl→Sl→Option (Nat × Nat)→Int→Int→Heap→Option R):Option R :=
  (tlim (g3_p4_b) (t0,t1,t7,t9,t10,t11) H).bind fun p=>kE2 p.1.1 p.1.2.1 p.1.2.2.1 p.1.2.2.2.1 p.1.2.2.2.2 p.2
theorem g3_p4_lin {R S:Type} {k:S→Option R} {t0:Sl} {t1:Sl} {t7:Option (Nat × Nat)} {t9:Int} {t10:Int} {t11:Int} {H:Heap} {fkE2:Sl→Sl→Option (Nat × Nat)→Int→Int→Heap→Option R} {gkE2:Sl→Sl→Option (Nat × Nat)→Int→Int→Heap→Option S} (hkE2:∀ t0 t1 t7 t9 t10 H,fkE2 t0 t1 t7 t9 t10 H = (gkE2 t0 t1 t7 t9 t10 H).bind k):g3_p4 R t0 t1 t7 t9 t10 t11 H fkE2 = (g3_p4 S t0 t1 t7 t9 t10 t11 H gkE2).bind k:=by
  exact bl fun p=>hkE2 _ _ _ _ _ _
theorem g3_p4_eq {R:Type} (t0:Sl) (t1:Sl) (t7:Option (Nat × Nat)) (t9:Int) (t10:Int) (t11:Int) (H:Heap) (K:Ex→Fr→Heap→Option R):ev2 Try.prog (E3) loopLim lv3 Try.f3.ntmps kp3 c3_1 [(0,(V.sl t0)),(1,(V.sl t1)),(7,(V.p t7)),(9,(V.i .i64 t9)),(10,(V.i .i64 t10)),(11,(V.i .i64 t11))] H K = g3_p4 R t0 t1 t7 t9 t10 t11 H (fun t0 t1 t7 t9 t10 H=>K (.exit 2) [(0,(V.sl t0)),(1,(V.sl t1)),(7,(V.p t7)),(9,(V.i .i64 t9)),(10,(V.i .i64 t10))] H):=by
  delta c3_1
  delta g3_p4
  refine (ev2_tlim (b:=g3_p4_b) (es:=g3_p4_es) (er:=g3_p4_er) (by intro r; exact nofun) (fun s H=>?_) (t0,t1,t7,t9,t10,t11) H K).trans (bc fun p=>rfl)
  exact (g3_p3_eq s.1 s.2.1 s.2.2.1 s.2.2.2.1 s.2.2.2.2.1 s.2.2.2.2.2 H ret3).trans (g3_p3_lin (fun _ _ _ _ _ _ _=>rfl) (fun _ _ _ _ _ _=>rfl))
noncomputable def g3_p5 (R:Type) (t0:Sl) (t1:Sl) (t7:Option (Nat × Nat)) (t9:Int) (t10:Int) (t11:Int) (H:Heap) (kN:Sl→Sl→Option (Nat × Nat)→Int→Int→Heap→Option R):Option R :=
  g3_p4 R t0 t1 t7 t9 t10 t11 H (fun t0 t1 t7 t9 t10 H=>kN t0 t1 t7 t9 t10 H)
theorem g3_p5_lin {R S:Type} {k:S→Option R} {t0:Sl} {t1:Sl} {t7:Option (Nat × Nat)} {t9:Int} {t10:Int} {t11:Int} {H:Heap} {fkN:Sl→Sl→Option (Nat × Nat)→Int→Int→Heap→Option R} {gkN:Sl→Sl→Option (Nat × Nat)→Int→Int→Heap→Option S} (hkN:∀ t0 t1 t7 t9 t10 H,fkN t0 t1 t7 t9 t10 H = (gkN t0 t1 t7 t9 t10 H).bind k):g3_p5 R t0 t1 t7 t9 t10 t11 H fkN = (g3_p5 S t0 t1 t7 t9 t10 t11 H gkN).bind k:=by
  exact g3_p4_lin (fun _ _ _ _ _ _=>hkN _ _ _ _ _ _)
theorem g3_p5_eq {R:Type} (t0:Sl) (t1:Sl) (t7:Option (Nat × Nat)) (t9:Int) (t10:Int) (t11:Int) (H:Heap) (K:Ex→Fr→Heap→Option R):ev2 Try.prog (E3) loopLim lv3 Try.f3.ntmps kp3 c3_2 [(0,(V.sl t0)),(1,(V.sl t1)),(7,(V.p t7)),(9,(V.i .i64 t9)),(10,(V.i .i64 t10)),(11,(V.i .i64 t11))] H K = g3_p5 R t0 t1 t7 t9 t10 t11 H (fun t0 t1 t7 t9 t10 H=>K .normal [(0,(V.sl t0)),(1,(V.sl t1)),(7,(V.p t7)),(9,(V.i .i64 t9)),(10,(V.i .i64 t10))] H):=by
  delta c3_2
  rw [ev2_block]
  delta g3_p5
  exact (g3_p4_eq t0 t1 t7 t9 t10 t11 H (kBlock kp3 2 K))
noncomputable def g3_p6 (R:Type) (t0:Sl) (t1:Sl) (t7:Option (Nat × Nat)) (t9:Int) (t10:Int) (H:Heap) (kN:Sl→Sl→Option (Nat × Nat)→Int→Bool→Heap→Option R) (kR:Bool→Heap→Option R):Option R :=
  if 0 ≤ t10∧t10 < ((t0.len:Nat):Int) then (
    (t0.a).bind fun q138 =>
    ((H).ldI .u8 q138.1 ((q138.2 + Int.toNat t10 * 4) + 0)).bind fun x139 =>
    ((H).ldI .u8 q138.1 ((q138.2 + Int.toNat t10 * 4) + 1)).bind fun x140 =>
    ((H).ldSl q138.1 ((q138.2 + Int.toNat t10 * 4) + 2)).bind fun x141 =>
    ((H).ldI .u8 q138.1 ((q138.2 + Int.toNat t10 * 4) + 3)).bind fun x142 =>
    g12 R x139 x140 x141 x142 H fun x143 x144 x145 h146 =>
    sel (((x144.len:Nat):Int) == (0:Int)) (
      kR false h146) (
      if 0 ≤ t9∧t9 < ((t1.len:Nat):Int) then (
        (t1.a).bind fun q147 =>
        ((h146).ldI .u8 q147.1 ((q147.2 + Int.toNat t9 * 3) + 2)).bind fun x148 =>
        if ((x144.len:Nat):Int) = 0 then (
          none)
        else (
          if 0 ≤ (Int.tmod (IntKind.wrap .i64 x148) ((x144.len:Nat):Int))∧(Int.tmod (IntKind.wrap .i64 x148) ((x144.len:Nat):Int)) < ((x144.len:Nat):Int) then (
            (x144.a).bind fun q149 =>
            ((h146).ldI .u32 q149.1 ((q149.2 + Int.toNat (Int.tmod (IntKind.wrap .i64 x148) ((x144.len:Nat):Int)) * 4) + 0)).bind fun x150 =>
            ((h146).ldB q149.1 ((q149.2 + Int.toNat (Int.tmod (IntKind.wrap .i64 x148) ((x144.len:Nat):Int)) * 4) + 1)).bind fun x151 =>
            ((h146).ldI .u8 q149.1 ((q149.2 + Int.toNat (Int.tmod (IntKind.wrap .i64 x148) ((x144.len:Nat):Int)) * 4) + 2)).bind fun x152 =>
            ((h146).ldSl q149.1 ((q149.2 + Int.toNat (Int.tmod (IntKind.wrap .i64 x148) ((x144.len:Nat):Int)) * 4) + 3)).bind fun x153 =>
            g13 R t7 x143 x150 x151 x152 x153 h146 fun x154 x155 x156 h157 =>
            sel (x156 != (0:Int)) (
              sel (x156 != (6:Int)) (
                kN t0 t1 t7 t9 true h157) (
                sel (x156 == (0:Int)) (
                  sel (((x154.len:Nat):Int) == ((x145.size:Nat):Int)) (
                    ((slBytes h157 x154)).bind fun x158 =>
                    sel (strEq x158 x145) (
                      sel (decide (((x145.size:Nat):Int) > (0:Int))) (
                        sel (!(x155 == true)) (
                          kN t0 t1 t7 t9 true h157) (
                          sel (!x155) (
                            kN t0 t1 t7 t9 (decide (((x154.len:Nat):Int) > (0:Int))) h157) (
                            kN t0 t1 t7 t9 false h157))) (
                        sel (!(x155 == x155)) (
                          kN t0 t1 t7 t9 true h157) (
                          sel (!x155) (
                            kN t0 t1 t7 t9 (decide (((x154.len:Nat):Int) > (0:Int))) h157) (
                            kN t0 t1 t7 t9 false h157)))) (
                      sel (!(x155 == false)) (
                        kN t0 t1 t7 t9 true h157) (
                        sel (!x155) (
                          kN t0 t1 t7 t9 (decide (((x154.len:Nat):Int) > (0:Int))) h157) (
                          kN t0 t1 t7 t9 false h157)))) (
                    sel (!(x155 == false)) (
                      kN t0 t1 t7 t9 true h157) (
                      sel (!x155) (
                        kN t0 t1 t7 t9 (decide (((x154.len:Nat):Int) > (0:Int))) h157) (
                        kN t0 t1 t7 t9 false h157)))) (
                  sel (!(x155 == false)) (
                    kN t0 t1 t7 t9 true h157) (
                    sel (!x155) (
                      kN t0 t1 t7 t9 (decide (((x154.len:Nat):Int) > (0:Int))) h157) (
                      kN t0 t1 t7 t9 false h157))))) (
              sel (x156 == (0:Int)) (
                sel (((x154.len:Nat):Int) == ((x145.size:Nat):Int)) (
                  ((slBytes h157 x154)).bind fun x159 =>
                  sel (strEq x159 x145) (
                    sel (decide (((x145.size:Nat):Int) > (0:Int))) (
                      sel (!(x155 == true)) (
                        kN t0 t1 t7 t9 true h157) (
                        sel (!x155) (
                          kN t0 t1 t7 t9 (decide (((x154.len:Nat):Int) > (0:Int))) h157) (
                          kN t0 t1 t7 t9 false h157))) (
                      sel (!(x155 == x155)) (
                        kN t0 t1 t7 t9 true h157) (
                        sel (!x155) (
                          kN t0 t1 t7 t9 (decide (((x154.len:Nat):Int) > (0:Int))) h157) (
                          kN t0 t1 t7 t9 false h157)))) (
                    sel (!(x155 == false)) (
                      kN t0 t1 t7 t9 true h157) (
                      sel (!x155) (
                        kN t0 t1 t7 t9 (decide (((x154.len:Nat):Int) > (0:Int))) h157) (
                        kN t0 t1 t7 t9 false h157)))) (
                  sel (!(x155 == false)) (
                    kN t0 t1 t7 t9 true h157) (
                    sel (!x155) (
                      kN t0 t1 t7 t9 (decide (((x154.len:Nat):Int) > (0:Int))) h157) (
                      kN t0 t1 t7 t9 false h157)))) (
                sel (!(x155 == false)) (
                  kN t0 t1 t7 t9 true h157) (
                  sel (!x155) (
                    kN t0 t1 t7 t9 (decide (((x154.len:Nat):Int) > (0:Int))) h157) (
                    kN t0 t1 t7 t9 false h157)))))
          else (
            none)))
      else (
        none)))
  else (
    none)
theorem g3_p6_eq {R:Type} (c2:Code) (t0:Sl) (t1:Sl) (t7:Option (Nat × Nat)) (t9:Int) (t10:Int) (H:Heap) (K:Ex→Fr→Heap→Option R):ev2 Try.prog (E3) loopLim lv3 Try.f3.ntmps kp3 (.seq (codeAt [1,1,1,1,0,1,0,0,1,0,0,1,1,1,0] b3) (.seq (codeAt [1,1,1,1,0,1,0,0,1,0,0,1,1,1,1,0,0] b3) (.seq (.cond (.tmp 110) (.seq (codeAt [1,1,1,1,0,1,0,0,1,0,0,1,1,1,1,0,1,0,0] b3) .ret) .skip) (.seq (codeAt [1,1,1,1,0,1,0,0,1,0,0,1,1,1,1,1,0] b3) (.seq (codeAt [1,1,1,1,0,1,0,0,1,0,0,1,1,1,1,1,1,0] b3) c2))))) [(0,(V.sl t0)),(1,(V.sl t1)),(7,(V.p t7)),(9,(V.i .i64 t9)),(10,(V.i .i64 t10))] H K = g3_p6 R t0 t1 t7 t9 t10 H (fun t0 t1 t7 t9 t171 H=>ev2 Try.prog (E3) loopLim lv3 Try.f3.ntmps kp3 c2 [(0,(V.sl t0)),(1,(V.sl t1)),(7,(V.p t7)),(9,(V.i .i64 t9)),(171,(V.b t171))] H K) (fun t6 H=>K .ret [(6,(V.b t6))] H):=by kernel_rfl
theorem g3_p6_lin {R S:Type} {k:S→Option R} {t0:Sl} {t1:Sl} {t7:Option (Nat × Nat)} {t9:Int} {t10:Int} {H:Heap} {fkN:Sl→Sl→Option (Nat × Nat)→Int→Bool→Heap→Option R} {gkN:Sl→Sl→Option (Nat × Nat)→Int→Bool→Heap→Option S} {fkR:Bool→Heap→Option R} {gkR:Bool→Heap→Option S} (hkN:∀ t0 t1 t7 t9 t171 H,fkN t0 t1 t7 t9 t171 H = (gkN t0 t1 t7 t9 t171 H).bind k) (hkR:∀ t6 H,fkR t6 H = (gkR t6 H).bind k):g3_p6 R t0 t1 t7 t9 t10 H fkN fkR = (g3_p6 S t0 t1 t7 t9 t10 H gkN gkR).bind k:=by
  delta g3_p6
  repeat' (first | with_reducible (first | exact hkR _ _ | exact hkN _ _ _ _ _ _ | refine il ?_ ?_ | refine g12_lin.l fun _ _ _ _=>?_ | refine sl_lin ?_ ?_ | refine g13_lin.l fun _ _ _ _=>?_ | refine bl fun _=>?_) | exact (rfl:(none:Option R) = (none:Option S).bind k))
noncomputable def g3_p7 (R:Type) (t0:Sl) (t1:Sl) (t7:Option (Nat × Nat)) (t9:Int) (t171:Bool) (H:Heap) (kN:Sl→Sl→Option (Nat × Nat)→Int→Heap→Option R) (kR:Bool→Heap→Option R):Option R :=
  sel t171 (
    kR false H) (
    kN t0 t1 t7 t9 H)
theorem g3_p7_eq {R:Type} (t0:Sl) (t1:Sl) (t7:Option (Nat × Nat)) (t9:Int) (t171:Bool) (H:Heap) (K:Ex→Fr→Heap→Option R):ev2 Try.prog (E3) loopLim lv3 Try.f3.ntmps kp3 c3_3 [(0,(V.sl t0)),(1,(V.sl t1)),(7,(V.p t7)),(9,(V.i .i64 t9)),(171,(V.b t171))] H K = g3_p7 R t0 t1 t7 t9 t171 H (fun t0 t1 t7 t9 H=>K .normal [(0,(V.sl t0)),(1,(V.sl t1)),(7,(V.p t7)),(9,(V.i .i64 t9))] H) (fun t6 H=>K .ret [(6,(V.b t6))] H):=by kernel_rfl
theorem g3_p7_lin {R S:Type} {k:S→Option R} {t0:Sl} {t1:Sl} {t7:Option (Nat × Nat)} {t9:Int} {t171:Bool} {H:Heap} {fkN:Sl→Sl→Option (Nat × Nat)→Int→Heap→Option R} {gkN:Sl→Sl→Option (Nat × Nat)→Int→Heap→Option S} {fkR:Bool→Heap→Option R} {gkR:Bool→Heap→Option S} (hkN:∀ t0 t1 t7 t9 H,fkN t0 t1 t7 t9 H = (gkN t0 t1 t7 t9 H).bind k) (hkR:∀ t6 H,fkR t6 H = (gkR t6 H).bind k):g3_p7 R t0 t1 t7 t9 t171 H fkN fkR = (g3_p7 S t0 t1 t7 t9 t171 H gkN gkR).bind k:=by
  delta g3_p7; exact (
    sl_lin (
      hkR _ _) (
      hkN _ _ _ _ _))
noncomputable def g3_p8 (R:Type) (t0:Sl) (t1:Sl) (t7:Option (Nat × Nat)) (t9:Int) (t10:Int) (H:Heap) (kN:Sl→Sl→Option (Nat × Nat)→Int→Heap→Option R) (kR:Bool→Heap→Option R):Option R :=
  g3_p6 R t0 t1 t7 t9 t10 H (fun t0 t1 t7 t9 t171 H=>g3_p7 R t0 t1 t7 t9 t171 H (fun t0 t1 t7 t9 H=>kN t0 t1 t7 t9 H) (fun t6 H=>kR t6 H)) (fun t6 H=>kR t6 H)
theorem g3_p8_lin {R S:Type} {k:S→Option R} {t0:Sl} {t1:Sl} {t7:Option (Nat × Nat)} {t9:Int} {t10:Int} {H:Heap} {fkN:Sl→Sl→Option (Nat × Nat)→Int→Heap→Option R} {gkN:Sl→Sl→Option (Nat × Nat)→Int→Heap→Option S} {fkR:Bool→Heap→Option R} {gkR:Bool→Heap→Option S} (hkN:∀ t0 t1 t7 t9 H,fkN t0 t1 t7 t9 H = (gkN t0 t1 t7 t9 H).bind k) (hkR:∀ t6 H,fkR t6 H = (gkR t6 H).bind k):g3_p8 R t0 t1 t7 t9 t10 H fkN fkR = (g3_p8 S t0 t1 t7 t9 t10 H gkN gkR).bind k:=by
  exact g3_p6_lin (fun _ _ _ _ _ _=>g3_p7_lin (fun _ _ _ _ _=>hkN _ _ _ _ _) (fun _ _=>hkR _ _)) (fun _ _=>hkR _ _)
theorem g3_p8_eq {R:Type} (t0:Sl) (t1:Sl) (t7:Option (Nat × Nat)) (t9:Int) (t10:Int) (H:Heap) (K:Ex→Fr→Heap→Option R):ev2 Try.prog (E3) loopLim lv3 Try.f3.ntmps kp3 c3_4 [(0,(V.sl t0)),(1,(V.sl t1)),(7,(V.p t7)),(9,(V.i .i64 t9)),(10,(V.i .i64 t10))] H K = g3_p8 R t0 t1 t7 t9 t10 H (fun t0 t1 t7 t9 H=>K .normal [(0,(V.sl t0)),(1,(V.sl t1)),(7,(V.p t7)),(9,(V.i .i64 t9))] H) (fun t6 H=>K .ret [(6,(V.b t6))] H):=by
  delta c3_4
  delta g3_p8
  exact (g3_p6_eq _ t0 t1 t7 t9 t10 H K).trans (congr (congrArg (g3_p6 R t0 t1 t7 t9 t10 H) (funext fun t0=>funext fun t1=>funext fun t7=>funext fun t9=>funext fun t171=>funext fun H=>g3_p7_eq t0 t1 t7 t9 t171 H K)) rfl)
noncomputable def g3_p9 (R:Type) (t0:Sl) (t1:Sl) (t7:Option (Nat × Nat)) (t9:Int) (t10:Int) (t11:Int) (H:Heap) (kN:Sl→Sl→Option (Nat × Nat)→Int→Heap→Option R) (kR:Bool→Heap→Option R):Option R :=
  g3_p5 R t0 t1 t7 t9 t10 t11 H (fun t0 t1 t7 t9 t10 H=>g3_p8 R t0 t1 t7 t9 t10 H (fun t0 t1 t7 t9 H=>kN t0 t1 t7 t9 H) (fun t6 H=>kR t6 H))
theorem g3_p9_lin {R S:Type} {k:S→Option R} {t0:Sl} {t1:Sl} {t7:Option (Nat × Nat)} {t9:Int} {t10:Int} {t11:Int} {H:Heap} {fkN:Sl→Sl→Option (Nat × Nat)→Int→Heap→Option R} {gkN:Sl→Sl→Option (Nat × Nat)→Int→Heap→Option S} {fkR:Bool→Heap→Option R} {gkR:Bool→Heap→Option S} (hkN:∀ t0 t1 t7 t9 H,fkN t0 t1 t7 t9 H = (gkN t0 t1 t7 t9 H).bind k) (hkR:∀ t6 H,fkR t6 H = (gkR t6 H).bind k):g3_p9 R t0 t1 t7 t9 t10 t11 H fkN fkR = (g3_p9 S t0 t1 t7 t9 t10 t11 H gkN gkR).bind k:=by
  exact g3_p5_lin (fun _ _ _ _ _ _=>g3_p8_lin (fun _ _ _ _ _=>hkN _ _ _ _ _) (fun _ _=>hkR _ _))
theorem g3_p9_eq {R:Type} (t0:Sl) (t1:Sl) (t7:Option (Nat × Nat)) (t9:Int) (t10:Int) (t11:Int) (H:Heap) (K:Ex→Fr→Heap→Option R):ev2 Try.prog (E3) loopLim lv3 Try.f3.ntmps kp3 c3_5 [(0,(V.sl t0)),(1,(V.sl t1)),(7,(V.p t7)),(9,(V.i .i64 t9)),(10,(V.i .i64 t10)),(11,(V.i .i64 t11))] H K = g3_p9 R t0 t1 t7 t9 t10 t11 H (fun t0 t1 t7 t9 H=>K .normal [(0,(V.sl t0)),(1,(V.sl t1)),(7,(V.p t7)),(9,(V.i .i64 t9))] H) (fun t6 H=>K .ret [(6,(V.b t6))] H):=by
  delta c3_5
  rw [ev2_seq]
  delta g3_p9
  exact (g3_p5_eq t0 t1 t7 t9 t10 t11 H (kSeq (fun fr H=>ev2 Try.prog (E3) loopLim lv3 Try.f3.ntmps kp3 c3_4 fr H K) K)).trans (congrArg (g3_p5 R t0 t1 t7 t9 t10 t11 H) (funext fun t0=>funext fun t1=>funext fun t7=>funext fun t9=>funext fun t10=>funext fun H=>(kSeq_n _ _ _ _).trans (g3_p8_eq t0 t1 t7 t9 t10 H K)))
noncomputable def g3_p10 (R:Type) (t0:Sl) (t1:Sl) (t7:Option (Nat × Nat)) (t9:Int) (H:Heap) (kN:Sl→Sl→Option (Nat × Nat)→Int→Heap→Option R) (kE1:Sl→Sl→Option (Nat × Nat)→Int→Heap→Option R) (kR:Bool→Heap→Option R):Option R :=
  g3_p2 R t0 t1 t7 t9 H (fun t0 t1 t7 t9 t10 t11 H=>g3_p9 R t0 t1 t7 t9 t10 t11 H (fun t0 t1 t7 t9 H=>kN t0 t1 t7 t9 H) (fun t6 H=>kR t6 H)) (fun t0 t1 t7 t9 H=>kE1 t0 t1 t7 t9 H)
theorem g3_p10_lin {R S:Type} {k:S→Option R} {t0:Sl} {t1:Sl} {t7:Option (Nat × Nat)} {t9:Int} {H:Heap} {fkN:Sl→Sl→Option (Nat × Nat)→Int→Heap→Option R} {gkN:Sl→Sl→Option (Nat × Nat)→Int→Heap→Option S} {fkE1:Sl→Sl→Option (Nat × Nat)→Int→Heap→Option R} {gkE1:Sl→Sl→Option (Nat × Nat)→Int→Heap→Option S} {fkR:Bool→Heap→Option R} {gkR:Bool→Heap→Option S} (hkN:∀ t0 t1 t7 t9 H,fkN t0 t1 t7 t9 H = (gkN t0 t1 t7 t9 H).bind k) (hkE1:∀ t0 t1 t7 t9 H,fkE1 t0 t1 t7 t9 H = (gkE1 t0 t1 t7 t9 H).bind k) (hkR:∀ t6 H,fkR t6 H = (gkR t6 H).bind k):g3_p10 R t0 t1 t7 t9 H fkN fkE1 fkR = (g3_p10 S t0 t1 t7 t9 H gkN gkE1 gkR).bind k:=by
  exact g3_p2_lin (fun _ _ _ _ _ _ _=>g3_p9_lin (fun _ _ _ _ _=>hkN _ _ _ _ _) (fun _ _=>hkR _ _)) (fun _ _ _ _ _=>hkE1 _ _ _ _ _)
theorem g3_p10_eq {R:Type} (t0:Sl) (t1:Sl) (t7:Option (Nat × Nat)) (t9:Int) (H:Heap) (K:Ex→Fr→Heap→Option R):ev2 Try.prog (E3) loopLim lv3 Try.f3.ntmps kp3 c3_6 [(0,(V.sl t0)),(1,(V.sl t1)),(7,(V.p t7)),(9,(V.i .i64 t9))] H K = g3_p10 R t0 t1 t7 t9 H (fun t0 t1 t7 t9 H=>K .normal [(0,(V.sl t0)),(1,(V.sl t1)),(7,(V.p t7)),(9,(V.i .i64 t9))] H) (fun t0 t1 t7 t9 H=>K (.exit 1) [(0,(V.sl t0)),(1,(V.sl t1)),(7,(V.p t7)),(9,(V.i .i64 t9))] H) (fun t6 H=>K .ret [(6,(V.b t6))] H):=by
  delta c3_6
  delta g3_p10
  exact (g3_p2_eq _ t0 t1 t7 t9 H K).trans (congr (congrArg (g3_p2 R t0 t1 t7 t9 H) (funext fun t0=>funext fun t1=>funext fun t7=>funext fun t9=>funext fun t10=>funext fun t11=>funext fun H=>g3_p9_eq t0 t1 t7 t9 t10 t11 H K)) rfl)
noncomputable def g3_p11 (R:Type) (t0:Sl) (t1:Sl) (t7:Option (Nat × Nat)) (t9:Int) (H:Heap) (kN:Sl→Sl→Option (Nat × Nat)→Int→Heap→Option R) (kR:Bool→Heap→Option R):Option R :=
  g3_p10 R t0 t1 t7 t9 H (fun t0 t1 t7 t9 H=>kN t0 t1 t7 t9 H) (fun t0 t1 t7 t9 H=>kN t0 t1 t7 t9 H) (fun t6 H=>kR t6 H)
theorem g3_p11_lin {R S:Type} {k:S→Option R} {t0:Sl} {t1:Sl} {t7:Option (Nat × Nat)} {t9:Int} {H:Heap} {fkN:Sl→Sl→Option (Nat × Nat)→Int→Heap→Option R} {gkN:Sl→Sl→Option (Nat × Nat)→Int→Heap→Option S} {fkR:Bool→Heap→Option R} {gkR:Bool→Heap→Option S} (hkN:∀ t0 t1 t7 t9 H,fkN t0 t1 t7 t9 H = (gkN t0 t1 t7 t9 H).bind k) (hkR:∀ t6 H,fkR t6 H = (gkR t6 H).bind k):g3_p11 R t0 t1 t7 t9 H fkN fkR = (g3_p11 S t0 t1 t7 t9 H gkN gkR).bind k:=by
  exact g3_p10_lin (fun _ _ _ _ _=>hkN _ _ _ _ _) (fun _ _ _ _ _=>hkN _ _ _ _ _) (fun _ _=>hkR _ _)
theorem g3_p11_eq {R:Type} (t0:Sl) (t1:Sl) (t7:Option (Nat × Nat)) (t9:Int) (H:Heap) (K:Ex→Fr→Heap→Option R):ev2 Try.prog (E3) loopLim lv3 Try.f3.ntmps kp3 c3_7 [(0,(V.sl t0)),(1,(V.sl t1)),(7,(V.p t7)),(9,(V.i .i64 t9))] H K = g3_p11 R t0 t1 t7 t9 H (fun t0 t1 t7 t9 H=>K .normal [(0,(V.sl t0)),(1,(V.sl t1)),(7,(V.p t7)),(9,(V.i .i64 t9))] H) (fun t6 H=>K .ret [(6,(V.b t6))] H):=by
  delta c3_7
  rw [ev2_block]
  delta g3_p11
  exact (g3_p10_eq t0 t1 t7 t9 H (kBlock kp3 1 K))
noncomputable def g3_p12 (R:Type) (t0:Sl) (t1:Sl) (t7:Option (Nat × Nat)) (t9:Int) (H:Heap) (kN:Sl→Sl→Option (Nat × Nat)→Int→Heap→Option R):Option R :=
  kN t0 t1 t7 (IntKind.wrap .i64 (t9 + (1:Int))) H
theorem g3_p12_eq {R:Type} (t0:Sl) (t1:Sl) (t7:Option (Nat × Nat)) (t9:Int) (H:Heap) (K:Ex→Fr→Heap→Option R):ev2 Try.prog (E3) loopLim lv3 Try.f3.ntmps kp3 c3_8 [(0,(V.sl t0)),(1,(V.sl t1)),(7,(V.p t7)),(9,(V.i .i64 t9))] H K = g3_p12 R t0 t1 t7 t9 H (fun t0 t1 t7 t9 H=>K .normal [(0,(V.sl t0)),(1,(V.sl t1)),(7,(V.p t7)),(9,(V.i .i64 t9))] H):=by kernel_rfl
theorem g3_p12_lin {R S:Type} {k:S→Option R} {t0:Sl} {t1:Sl} {t7:Option (Nat × Nat)} {t9:Int} {H:Heap} {fkN:Sl→Sl→Option (Nat × Nat)→Int→Heap→Option R} {gkN:Sl→Sl→Option (Nat × Nat)→Int→Heap→Option S} (hkN:∀ t0 t1 t7 t9 H,fkN t0 t1 t7 t9 H = (gkN t0 t1 t7 t9 H).bind k):g3_p12 R t0 t1 t7 t9 H fkN = (g3_p12 S t0 t1 t7 t9 H gkN).bind k:=by
  delta g3_p12; exact (
    hkN _ _ _ _ _)
noncomputable def g3_p13 (R:Type) (t0:Sl) (t1:Sl) (t7:Option (Nat × Nat)) (t9:Int) (H:Heap) (kN:Sl→Sl→Option (Nat × Nat)→Int→Heap→Option R) (kR:Bool→Heap→Option R):Option R :=
  g3_p11 R t0 t1 t7 t9 H (fun t0 t1 t7 t9 H=>g3_p12 R t0 t1 t7 t9 H (fun t0 t1 t7 t9 H=>kN t0 t1 t7 t9 H)) (fun t6 H=>kR t6 H)
theorem g3_p13_lin {R S:Type} {k:S→Option R} {t0:Sl} {t1:Sl} {t7:Option (Nat × Nat)} {t9:Int} {H:Heap} {fkN:Sl→Sl→Option (Nat × Nat)→Int→Heap→Option R} {gkN:Sl→Sl→Option (Nat × Nat)→Int→Heap→Option S} {fkR:Bool→Heap→Option R} {gkR:Bool→Heap→Option S} (hkN:∀ t0 t1 t7 t9 H,fkN t0 t1 t7 t9 H = (gkN t0 t1 t7 t9 H).bind k) (hkR:∀ t6 H,fkR t6 H = (gkR t6 H).bind k):g3_p13 R t0 t1 t7 t9 H fkN fkR = (g3_p13 S t0 t1 t7 t9 H gkN gkR).bind k:=by
  exact g3_p11_lin (fun _ _ _ _ _=>g3_p12_lin (fun _ _ _ _ _=>hkN _ _ _ _ _)) (fun _ _=>hkR _ _)
theorem g3_p13_eq {R:Type} (t0:Sl) (t1:Sl) (t7:Option (Nat × Nat)) (t9:Int) (H:Heap) (K:Ex→Fr→Heap→Option R):ev2 Try.prog (E3) loopLim lv3 Try.f3.ntmps kp3 c3_9 [(0,(V.sl t0)),(1,(V.sl t1)),(7,(V.p t7)),(9,(V.i .i64 t9))] H K = g3_p13 R t0 t1 t7 t9 H (fun t0 t1 t7 t9 H=>K .normal [(0,(V.sl t0)),(1,(V.sl t1)),(7,(V.p t7)),(9,(V.i .i64 t9))] H) (fun t6 H=>K .ret [(6,(V.b t6))] H):=by
  delta c3_9
  rw [ev2_seq]
  delta g3_p13
  exact (g3_p11_eq t0 t1 t7 t9 H (kSeq (fun fr H=>ev2 Try.prog (E3) loopLim lv3 Try.f3.ntmps kp3 c3_8 fr H K) K)).trans (congr (congrArg (g3_p11 R t0 t1 t7 t9 H) (funext fun t0=>funext fun t1=>funext fun t7=>funext fun t9=>funext fun H=>(kSeq_n _ _ _ _).trans (g3_p12_eq t0 t1 t7 t9 H K))) rfl)
noncomputable def g3_p14 (R:Type) (t0:Sl) (t1:Sl) (t7:Option (Nat × Nat)) (t9:Int) (H:Heap) (kN:Sl→Sl→Option (Nat × Nat)→Int→Heap→Option R) (kE0:Option (Nat × Nat)→Heap→Option R) (kR:Bool→Heap→Option R):Option R :=
  g3_p1 R t0 t1 t7 t9 H (fun t0 t1 t7 t9 H=>g3_p13 R t0 t1 t7 t9 H (fun t0 t1 t7 t9 H=>kN t0 t1 t7 t9 H) (fun t6 H=>kR t6 H)) (fun t7 H=>kE0 t7 H)
theorem g3_p14_lin {R S:Type} {k:S→Option R} {t0:Sl} {t1:Sl} {t7:Option (Nat × Nat)} {t9:Int} {H:Heap} {fkN:Sl→Sl→Option (Nat × Nat)→Int→Heap→Option R} {gkN:Sl→Sl→Option (Nat × Nat)→Int→Heap→Option S} {fkE0:Option (Nat × Nat)→Heap→Option R} {gkE0:Option (Nat × Nat)→Heap→Option S} {fkR:Bool→Heap→Option R} {gkR:Bool→Heap→Option S} (hkN:∀ t0 t1 t7 t9 H,fkN t0 t1 t7 t9 H = (gkN t0 t1 t7 t9 H).bind k) (hkE0:∀ t7 H,fkE0 t7 H = (gkE0 t7 H).bind k) (hkR:∀ t6 H,fkR t6 H = (gkR t6 H).bind k):g3_p14 R t0 t1 t7 t9 H fkN fkE0 fkR = (g3_p14 S t0 t1 t7 t9 H gkN gkE0 gkR).bind k:=by
  exact g3_p1_lin (fun _ _ _ _ _=>g3_p13_lin (fun _ _ _ _ _=>hkN _ _ _ _ _) (fun _ _=>hkR _ _)) (fun _ _=>hkE0 _ _)
theorem g3_p14_eq {R:Type} (t0:Sl) (t1:Sl) (t7:Option (Nat × Nat)) (t9:Int) (H:Heap) (K:Ex→Fr→Heap→Option R):ev2 Try.prog (E3) loopLim lv3 Try.f3.ntmps kp3 c3_10 [(0,(V.sl t0)),(1,(V.sl t1)),(7,(V.p t7)),(9,(V.i .i64 t9))] H K = g3_p14 R t0 t1 t7 t9 H (fun t0 t1 t7 t9 H=>K .normal [(0,(V.sl t0)),(1,(V.sl t1)),(7,(V.p t7)),(9,(V.i .i64 t9))] H) (fun t7 H=>K (.exit 0) [(7,(V.p t7))] H) (fun t6 H=>K .ret [(6,(V.b t6))] H):=by
  delta c3_10
  delta g3_p14
  exact (g3_p1_eq _ t0 t1 t7 t9 H K).trans (congr (congrArg (g3_p1 R t0 t1 t7 t9 H) (funext fun t0=>funext fun t1=>funext fun t7=>funext fun t9=>funext fun H=>g3_p13_eq t0 t1 t7 t9 H K)) rfl)
abbrev g3_p15_S:=Sl × Sl × (Option (Nat × Nat)) × Int
abbrev g3_p15_O:=Sum ((Option (Nat × Nat))) (Bool)
def g3_p15_es (s:g3_p15_S):Fr:=[(0,(V.sl s.1)),(1,(V.sl s.2.1)),(7,(V.p s.2.2.1)),(9,(V.i .i64 s.2.2.2))]
def g3_p15_er:g3_p15_O→Ex × Fr
  | (.inl r)=>((.exit 0),[(7,(V.p r))])
  | (.inr r)=>(.ret,[(6,(V.b r))])
noncomputable def g3_p15_b (s:g3_p15_S) (H:Heap):Option (Rd g3_p15_S g3_p15_O × Heap) :=
  g3_p14 _ s.1 s.2.1 s.2.2.1 s.2.2.2 H (fun t0 t1 t7 t9 H=>some (.go (t0,t1,t7,t9),H)) (fun t7 H=>some (.up (.inl t7),H)) (fun t6 H=>some (.up (.inr t6),H))
noncomputable def g3_p15 (R:Type) (t0:Sl) (t1:Sl) (t7:Option (Nat × Nat)) (t9:Int) (H:Heap) (kE0:Option (Nat × Nat)→Heap→Option R) (kR:Bool→Heap→Option R):Option R :=
  (tlim (g3_p15_b) (t0,t1,t7,t9) H).bind fun p=>cas p.1 (fun r=>kE0 r p.2) (fun r0=>kR r0 p.2)
theorem g3_p15_lin {R S:Type} {k:S→Option R} {t0:Sl} {t1:Sl} {t7:Option (Nat × Nat)} {t9:Int} {H:Heap} {fkE0:Option (Nat × Nat)→Heap→Option R} {gkE0:Option (Nat × Nat)→Heap→Option S} {fkR:Bool→Heap→Option R} {gkR:Bool→Heap→Option S} (hkE0:∀ t7 H,fkE0 t7 H = (gkE0 t7 H).bind k) (hkR:∀ t6 H,fkR t6 H = (gkR t6 H).bind k):g3_p15 R t0 t1 t7 t9 H fkE0 fkR = (g3_p15 S t0 t1 t7 t9 H gkE0 gkR).bind k:=by
  exact bl fun p=>cas_lin (fun _=>hkE0 _ _) (fun _=>hkR _ _)
theorem g3_p15_eq {R:Type} (t0:Sl) (t1:Sl) (t7:Option (Nat × Nat)) (t9:Int) (H:Heap) (K:Ex→Fr→Heap→Option R):ev2 Try.prog (E3) loopLim lv3 Try.f3.ntmps kp3 c3_11 [(0,(V.sl t0)),(1,(V.sl t1)),(7,(V.p t7)),(9,(V.i .i64 t9))] H K = g3_p15 R t0 t1 t7 t9 H (fun t7 H=>K (.exit 0) [(7,(V.p t7))] H) (fun t6 H=>K .ret [(6,(V.b t6))] H):=by
  delta c3_11
  delta g3_p15
  refine (ev2_tlim (b:=g3_p15_b) (es:=g3_p15_es) (er:=g3_p15_er) (by rintro (r | r) <;> exact nofun) (fun s H=>?_) (t0,t1,t7,t9) H K).trans (bc fun p=>by rcases p with ⟨(r | r),H⟩ <;> rfl)
  exact (g3_p14_eq s.1 s.2.1 s.2.2.1 s.2.2.2 H ret3).trans (g3_p14_lin (fun _ _ _ _ _=>rfl) (fun _ _=>rfl) (fun _ _=>rfl))
noncomputable def g3_p16 (R:Type) (t0:Sl) (t1:Sl) (t7:Option (Nat × Nat)) (t9:Int) (H:Heap) (kN:Option (Nat × Nat)→Heap→Option R) (kR:Bool→Heap→Option R):Option R :=
  g3_p15 R t0 t1 t7 t9 H (fun t7 H=>kN t7 H) (fun t6 H=>kR t6 H)
theorem g3_p16_lin {R S:Type} {k:S→Option R} {t0:Sl} {t1:Sl} {t7:Option (Nat × Nat)} {t9:Int} {H:Heap} {fkN:Option (Nat × Nat)→Heap→Option R} {gkN:Option (Nat × Nat)→Heap→Option S} {fkR:Bool→Heap→Option R} {gkR:Bool→Heap→Option S} (hkN:∀ t7 H,fkN t7 H = (gkN t7 H).bind k) (hkR:∀ t6 H,fkR t6 H = (gkR t6 H).bind k):g3_p16 R t0 t1 t7 t9 H fkN fkR = (g3_p16 S t0 t1 t7 t9 H gkN gkR).bind k:=by
  exact g3_p15_lin (fun _ _=>hkN _ _) (fun _ _=>hkR _ _)
theorem g3_p16_eq {R:Type} (t0:Sl) (t1:Sl) (t7:Option (Nat × Nat)) (t9:Int) (H:Heap) (K:Ex→Fr→Heap→Option R):ev2 Try.prog (E3) loopLim lv3 Try.f3.ntmps kp3 c3_12 [(0,(V.sl t0)),(1,(V.sl t1)),(7,(V.p t7)),(9,(V.i .i64 t9))] H K = g3_p16 R t0 t1 t7 t9 H (fun t7 H=>K .normal [(7,(V.p t7))] H) (fun t6 H=>K .ret [(6,(V.b t6))] H):=by
  delta c3_12
  rw [ev2_block]
  delta g3_p16
  exact (g3_p15_eq t0 t1 t7 t9 H (kBlock kp3 0 K))
noncomputable def g3_p17 (R:Type) (t7:Option (Nat × Nat)) (H:Heap) (kN:Option (Nat × Nat)→Int→Heap→Option R):Option R :=
  kN t7 (0:Int) H
theorem g3_p17_eq {R:Type} (c2:Code) (t7:Option (Nat × Nat)) (H:Heap) (K:Ex→Fr→Heap→Option R):ev2 Try.prog (E3) loopLim lv3 Try.f3.ntmps kp3 (.seq (codeAt [1,1,1,1,1,0,0] b3) c2) [(7,(V.p t7))] H K = g3_p17 R t7 H (fun t7 t18 H=>ev2 Try.prog (E3) loopLim lv3 Try.f3.ntmps kp3 c2 [(7,(V.p t7)),(18,(V.i .i64 t18))] H K):=by kernel_rfl
theorem g3_p17_lin {R S:Type} {k:S→Option R} {t7:Option (Nat × Nat)} {H:Heap} {fkN:Option (Nat × Nat)→Int→Heap→Option R} {gkN:Option (Nat × Nat)→Int→Heap→Option S} (hkN:∀ t7 t18 H,fkN t7 t18 H = (gkN t7 t18 H).bind k):g3_p17 R t7 H fkN = (g3_p17 S t7 H gkN).bind k:=by
  delta g3_p17; exact (
    hkN _ _ _)
noncomputable def g3_p18 (R:Type) (t7:Option (Nat × Nat)) (t18:Int) (H:Heap) (kN:Option (Nat × Nat)→Int→Heap→Option R) (kE4:Option (Nat × Nat)→Heap→Option R):Option R :=
  sel (decide (t18 < (6:Int))) (
    g11 R t7 H fun x160 h161 =>
    kN t7 (IntKind.wrap .i64 (t18 + (1:Int))) h161) (
    kE4 t7 H)
theorem g3_p18_eq {R:Type} (t7:Option (Nat × Nat)) (t18:Int) (H:Heap) (K:Ex→Fr→Heap→Option R):ev2 Try.prog (E3) loopLim lv3 Try.f3.ntmps kp3 c3_13 [(7,(V.p t7)),(18,(V.i .i64 t18))] H K = g3_p18 R t7 t18 H (fun t7 t18 H=>K .normal [(7,(V.p t7)),(18,(V.i .i64 t18))] H) (fun t7 H=>K (.exit 4) [(7,(V.p t7))] H):=by kernel_rfl
theorem g3_p18_lin {R S:Type} {k:S→Option R} {t7:Option (Nat × Nat)} {t18:Int} {H:Heap} {fkN:Option (Nat × Nat)→Int→Heap→Option R} {gkN:Option (Nat × Nat)→Int→Heap→Option S} {fkE4:Option (Nat × Nat)→Heap→Option R} {gkE4:Option (Nat × Nat)→Heap→Option S} (hkN:∀ t7 t18 H,fkN t7 t18 H = (gkN t7 t18 H).bind k) (hkE4:∀ t7 H,fkE4 t7 H = (gkE4 t7 H).bind k):g3_p18 R t7 t18 H fkN fkE4 = (g3_p18 S t7 t18 H gkN gkE4).bind k:=by
  delta g3_p18; exact (
    sl_lin (
      g11_lin.l fun x160 h161 =>
      hkN _ _ _) (
      hkE4 _ _))
abbrev g3_p19_S:=(Option (Nat × Nat)) × Int
abbrev g3_p19_O:=(Option (Nat × Nat))
def g3_p19_es (s:g3_p19_S):Fr:=[(7,(V.p s.1)),(18,(V.i .i64 s.2))]
def g3_p19_er (r:g3_p19_O):Ex × Fr:=((.exit 4),[(7,(V.p r))])
noncomputable def g3_p19_b (s:g3_p19_S) (H:Heap):Option (Rd g3_p19_S g3_p19_O × Heap) :=
  g3_p18 _ s.1 s.2 H (fun t7 t18 H=>some (.go (t7,t18),H)) (fun t7 H=>some (.up t7,H))
noncomputable def g3_p19 (R:Type) (t7:Option (Nat × Nat)) (t18:Int) (H:Heap) (kE4:Option (Nat × Nat)→Heap→Option R):Option R :=
  (tlim (g3_p19_b) (t7,t18) H).bind fun p=>kE4 p.1 p.2
theorem g3_p19_lin {R S:Type} {k:S→Option R} {t7:Option (Nat × Nat)} {t18:Int} {H:Heap} {fkE4:Option (Nat × Nat)→Heap→Option R} {gkE4:Option (Nat × Nat)→Heap→Option S} (hkE4:∀ t7 H,fkE4 t7 H = (gkE4 t7 H).bind k):g3_p19 R t7 t18 H fkE4 = (g3_p19 S t7 t18 H gkE4).bind k:=by
  exact bl fun p=>hkE4 _ _
theorem g3_p19_eq {R:Type} (t7:Option (Nat × Nat)) (t18:Int) (H:Heap) (K:Ex→Fr→Heap→Option R):ev2 Try.prog (E3) loopLim lv3 Try.f3.ntmps kp3 c3_14 [(7,(V.p t7)),(18,(V.i .i64 t18))] H K = g3_p19 R t7 t18 H (fun t7 H=>K (.exit 4) [(7,(V.p t7))] H):=by
  delta c3_14
  delta g3_p19
  refine (ev2_tlim (b:=g3_p19_b) (es:=g3_p19_es) (er:=g3_p19_er) (by intro r; exact nofun) (fun s H=>?_) (t7,t18) H K).trans (bc fun p=>rfl)
  exact (g3_p18_eq s.1 s.2 H ret3).trans (g3_p18_lin (fun _ _ _=>rfl) (fun _ _=>rfl))
noncomputable def g3_p20 (R:Type) (t7:Option (Nat × Nat)) (t18:Int) (H:Heap) (kN:Option (Nat × Nat)→Heap→Option R):Option R :=
  g3_p19 R t7 t18 H (fun t7 H=>kN t7 H)
theorem g3_p20_lin {R S:Type} {k:S→Option R} {t7:Option (Nat × Nat)} {t18:Int} {H:Heap} {fkN:Option (Nat × Nat)→Heap→Option R} {gkN:Option (Nat × Nat)→Heap→Option S} (hkN:∀ t7 H,fkN t7 H = (gkN t7 H).bind k):g3_p20 R t7 t18 H fkN = (g3_p20 S t7 t18 H gkN).bind k:=by
  exact g3_p19_lin (fun _ _=>hkN _ _)
theorem g3_p20_eq {R:Type} (t7:Option (Nat × Nat)) (t18:Int) (H:Heap) (K:Ex→Fr→Heap→Option R):ev2 Try.prog (E3) loopLim lv3 Try.f3.ntmps kp3 c3_15 [(7,(V.p t7)),(18,(V.i .i64 t18))] H K = g3_p20 R t7 t18 H (fun t7 H=>K .normal [(7,(V.p t7))] H):=by
  delta c3_15
  rw [ev2_block]
  delta g3_p20
  exact (g3_p19_eq t7 t18 H (kBlock kp3 4 K))
noncomputable def g3_p21 (R:Type) (t7:Option (Nat × Nat)) (H:Heap) (kR:Bool→Heap→Option R):Option R :=
  g14 R t7 H fun x162 h163 =>
  sel (x162 == (0:Int)) (
    g11 R t7 h163 fun x164 h165 =>
    sel (((x164.len:Nat):Int) == (0:Int)) (
      g9 R h165 fun x166 h167 =>
      kR x166 h167) (
      kR false h165)) (
    kR false h163)
theorem g3_p21_eq {R:Type} (t7:Option (Nat × Nat)) (H:Heap) (K:Ex→Fr→Heap→Option R):ev2 Try.prog (E3) loopLim lv3 Try.f3.ntmps kp3 c3_16 [(7,(V.p t7))] H K = g3_p21 R t7 H (fun t6 H=>K .ret [(6,(V.b t6))] H):=by kernel_rfl
theorem g3_p21_lin {R S:Type} {k:S→Option R} {t7:Option (Nat × Nat)} {H:Heap} {fkR:Bool→Heap→Option R} {gkR:Bool→Heap→Option S} (hkR:∀ t6 H,fkR t6 H = (gkR t6 H).bind k):g3_p21 R t7 H fkR = (g3_p21 S t7 H gkR).bind k:=by
  delta g3_p21; exact (
    g14_lin.l fun x162 h163 =>
    sl_lin (
      g11_lin.l fun x164 h165 =>
      sl_lin (
        g9_lin.l fun x166 h167 =>
        hkR _ _) (
        hkR _ _)) (
      hkR _ _))
noncomputable def g3_p22 (R:Type) (t7:Option (Nat × Nat)) (t18:Int) (H:Heap) (kR:Bool→Heap→Option R):Option R :=
  g3_p20 R t7 t18 H (fun t7 H=>g3_p21 R t7 H (fun t6 H=>kR t6 H))
theorem g3_p22_lin {R S:Type} {k:S→Option R} {t7:Option (Nat × Nat)} {t18:Int} {H:Heap} {fkR:Bool→Heap→Option R} {gkR:Bool→Heap→Option S} (hkR:∀ t6 H,fkR t6 H = (gkR t6 H).bind k):g3_p22 R t7 t18 H fkR = (g3_p22 S t7 t18 H gkR).bind k:=by
  exact g3_p20_lin (fun _ _=>g3_p21_lin (fun _ _=>hkR _ _))
theorem g3_p22_eq {R:Type} (t7:Option (Nat × Nat)) (t18:Int) (H:Heap) (K:Ex→Fr→Heap→Option R):ev2 Try.prog (E3) loopLim lv3 Try.f3.ntmps kp3 c3_17 [(7,(V.p t7)),(18,(V.i .i64 t18))] H K = g3_p22 R t7 t18 H (fun t6 H=>K .ret [(6,(V.b t6))] H):=by
  delta c3_17
  rw [ev2_seq]
  delta g3_p22
  exact (g3_p20_eq t7 t18 H (kSeq (fun fr H=>ev2 Try.prog (E3) loopLim lv3 Try.f3.ntmps kp3 c3_16 fr H K) K)).trans (congrArg (g3_p20 R t7 t18 H) (funext fun t7=>funext fun H=>(kSeq_n _ _ _ _).trans (g3_p21_eq t7 H K)))
noncomputable def g3_p23 (R:Type) (t7:Option (Nat × Nat)) (H:Heap) (kR:Bool→Heap→Option R):Option R :=
  g3_p17 R t7 H (fun t7 t18 H=>g3_p22 R t7 t18 H (fun t6 H=>kR t6 H))
theorem g3_p23_lin {R S:Type} {k:S→Option R} {t7:Option (Nat × Nat)} {H:Heap} {fkR:Bool→Heap→Option R} {gkR:Bool→Heap→Option S} (hkR:∀ t6 H,fkR t6 H = (gkR t6 H).bind k):g3_p23 R t7 H fkR = (g3_p23 S t7 H gkR).bind k:=by
  exact g3_p17_lin (fun _ _ _=>g3_p22_lin (fun _ _=>hkR _ _))
theorem g3_p23_eq {R:Type} (t7:Option (Nat × Nat)) (H:Heap) (K:Ex→Fr→Heap→Option R):ev2 Try.prog (E3) loopLim lv3 Try.f3.ntmps kp3 c3_18 [(7,(V.p t7))] H K = g3_p23 R t7 H (fun t6 H=>K .ret [(6,(V.b t6))] H):=by
  delta c3_18
  delta g3_p23
  exact (g3_p17_eq _ t7 H K).trans (congrArg (g3_p17 R t7 H) (funext fun t7=>funext fun t18=>funext fun H=>g3_p22_eq t7 t18 H K))
noncomputable def g3_p24 (R:Type) (t0:Sl) (t1:Sl) (t7:Option (Nat × Nat)) (t9:Int) (H:Heap) (kR:Bool→Heap→Option R):Option R :=
  g3_p16 R t0 t1 t7 t9 H (fun t7 H=>g3_p23 R t7 H (fun t6 H=>kR t6 H)) (fun t6 H=>kR t6 H)
theorem g3_p24_lin {R S:Type} {k:S→Option R} {t0:Sl} {t1:Sl} {t7:Option (Nat × Nat)} {t9:Int} {H:Heap} {fkR:Bool→Heap→Option R} {gkR:Bool→Heap→Option S} (hkR:∀ t6 H,fkR t6 H = (gkR t6 H).bind k):g3_p24 R t0 t1 t7 t9 H fkR = (g3_p24 S t0 t1 t7 t9 H gkR).bind k:=by
  exact g3_p16_lin (fun _ _=>g3_p23_lin (fun _ _=>hkR _ _)) (fun _ _=>hkR _ _)
theorem g3_p24_eq {R:Type} (t0:Sl) (t1:Sl) (t7:Option (Nat × Nat)) (t9:Int) (H:Heap) (K:Ex→Fr→Heap→Option R):ev2 Try.prog (E3) loopLim lv3 Try.f3.ntmps kp3 c3_19 [(0,(V.sl t0)),(1,(V.sl t1)),(7,(V.p t7)),(9,(V.i .i64 t9))] H K = g3_p24 R t0 t1 t7 t9 H (fun t6 H=>K .ret [(6,(V.b t6))] H):=by
  delta c3_19
  rw [ev2_seq]
  delta g3_p24
  exact (g3_p16_eq t0 t1 t7 t9 H (kSeq (fun fr H=>ev2 Try.prog (E3) loopLim lv3 Try.f3.ntmps kp3 c3_18 fr H K) K)).trans (congr (congrArg (g3_p16 R t0 t1 t7 t9 H) (funext fun t7=>funext fun H=>(kSeq_n _ _ _ _).trans (g3_p23_eq t7 H K))) rfl)
noncomputable def g3_p25 (R:Type) (t0:Sl) (t1:Sl) (t2:Int) (H:Heap) (kR:Bool→Heap→Option R):Option R :=
  g3_p0 R t0 t1 t2 H (fun t0 t1 t7 t9 H=>g3_p24 R t0 t1 t7 t9 H (fun t6 H=>kR t6 H)) (fun t6 H=>kR t6 H)
theorem g3_p25_lin {R S:Type} {k:S→Option R} {t0:Sl} {t1:Sl} {t2:Int} {H:Heap} {fkR:Bool→Heap→Option R} {gkR:Bool→Heap→Option S} (hkR:∀ t6 H,fkR t6 H = (gkR t6 H).bind k):g3_p25 R t0 t1 t2 H fkR = (g3_p25 S t0 t1 t2 H gkR).bind k:=by
  exact g3_p0_lin (fun _ _ _ _ _=>g3_p24_lin (fun _ _=>hkR _ _)) (fun _ _=>hkR _ _)
theorem g3_p25_eq {R:Type} (t0:Sl) (t1:Sl) (t2:Int) (H:Heap) (K:Ex→Fr→Heap→Option R):ev2 Try.prog (E3) loopLim lv3 Try.f3.ntmps kp3 c3_20 [(0,(V.sl t0)),(1,(V.sl t1)),(2,(V.i .u8 t2))] H K = g3_p25 R t0 t1 t2 H (fun t6 H=>K .ret [(6,(V.b t6))] H):=by
  delta c3_20
  delta g3_p25
  exact (g3_p0_eq _ t0 t1 t2 H K).trans (congr (congrArg (g3_p0 R t0 t1 t2 H) (funext fun t0=>funext fun t1=>funext fun t7=>funext fun t9=>funext fun H=>g3_p24_eq t0 t1 t7 t9 H K)) rfl)
noncomputable def g3_r:T3:=fun R t0 t1 t2 H K =>
  g3_p25 R t0 t1 t2 H (fun t6 H =>
    K t6 H)
theorem g3_r_lin:Lin3 (g3_r):=by
  constructor
  intro R S k t0 t1 t2 H f g h
  exact g3_p25_lin (fun t6 H =>
    h _ _)
theorem g3_fn {R:Type} (t0:Sl) (t1:Sl) (t2:Int) (H:Heap) (K:V→Heap→Option R):evFn2 Try.prog (E3) loopLim lv3 Try.f3 kp3 [(V.sl t0),(V.sl t1),(V.i .u8 t2)] H K = g3_r R t0 t1 t2 H (fun r0 H=>K (V.b r0) H):=by
  have h0 : ∀ (t6 : Bool) (H : Heap), kFn2 Try.prog Try.f3.results.toList K .ret [(6, (V.b t6))] H =
      K (V.b t6) H:=by intros; kernel_rfl
  have e0:=evFn2_code2 (P:=Try.prog) (c:=c3_20) (E:=(E3)) (lr:=loopLim) (lv:=lv3) (kp:=kp3) (fn:=Try.f3) (args:=[(V.sl t0),(V.sl t1),(V.i .u8 t2)]) H K (by kernel_rfl) (Nat.le_of_ble_eq_true (by kernel_rfl)) (by kernel_rfl) (by kernel_rfl)
  have e1:ev2 Try.prog (E3) loopLim lv3 Try.f3.ntmps kp3 c3_20 (argFr 0 [(V.sl t0),(V.sl t1),(V.i .u8 t2)]) H (kFn2 Try.prog Try.f3.results.toList K) = ev2 Try.prog (E3) loopLim lv3 Try.f3.ntmps kp3 c3_20 [(0,(V.sl t0)),(1,(V.sl t1)),(2,(V.i .u8 t2))] H (kFn2 Try.prog Try.f3.results.toList K):=by kernel_rfl
  refine (e0.trans e1).trans ?_
  delta g3_r
  exact (g3_p25_eq t0 t1 t2 H (kFn2 Try.prog Try.f3.results.toList K)).trans (congrArg (g3_p25 R t0 t1 t2 H) (funext fun t6=>funext fun H=>h0 t6 H))
theorem g3_ok:FunOK Try.prog 3 (w3 (g3_r)):=by
  refine (runF2_ok (E3_good) mixed lim_ok Try.func3 (by kernel_rfl) lv3 kp3).of_le fun R args H K r hk=>?_
  unfold w3 at hk
  split at hk
  · exact (g3_fn _ _ _ H K).trans hk
  · cases hk
noncomputable def g3:T3:=g3_r
theorem g3_lin:Lin3 g3:=g3_r_lin
theorem ok3:FunOK Try.prog 3 (w3 g3):=g3_ok
end Go.Proofs.Ytobebcfkddimkaa

