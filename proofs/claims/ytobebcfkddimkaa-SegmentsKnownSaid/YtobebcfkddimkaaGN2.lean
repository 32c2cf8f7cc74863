/- Printed: functions as the machine runs them. -/
import Derived.Test.YtobebcfkddimkaaGN1
namespace Go.Proofs.Ytobebcfkddimkaa
open Go AM Go.RowKit
set_option linter.unusedVariables false
def kp16:Nat→Option (List Nat):=kpOf [(0,[0,1,2,4,8,500008,1000008]),(1,[0,1,2,4,8,19,500008,1000008]),(2,[10,11,12,13,14]),(3,[0,1,2,4,8,29,500008,1000008]),(4,[10,11,12,13,14]),(5,[0,1,2,4,8,15,500008,1000008]),(6,[0,1,2,4,8,15,16,500008,1000008]),(7,[0,1,2,4,8,15,16,39,500008,1000008]),(8,[0,1,2,4,8,15,16,500008,1000008]),(9,[0,1,2,4,8,15,16,58,500008,1000008]),(10,[0,1,2,4,8,15,16,500008,1000008]),(11,[0,1,2,4,8,15,17,500008,1000008]),(12,[0,1,2,8,15,17,18,500008,1000008]),(13,[0,1,2,8,15,17,18,91,500008,1000008]),(14,[0,1,2,8,15,17,18,92,500008,1000008]),(15,[0,1,8,15,17,18,500008,1000008]),(16,[0,1,8,15,17,18,500008,1000008]),(17,[0,1,8,17,18,500008,1000008]),(18,[0,1,8,18,125,500008,1000008]),(19,[10,11,12,13,14]),(20,[0,1,18,130]),(21,[10,11,12,13,14]),(22,[10,11,12,13,14]),(100000,[0,1,2,4,8,500008,1000008]),(100001,[0,1,2,4,8,15,500008,1000008]),(100002,[0,1,2,4,8,15,16,500008,1000008]),(200000,[0,1,2,4,8,500008,1000008]),(200001,[0,1,2,4,8,15,16,500008,1000008]),(200002,[0,1,2,4,8,15,16,500008,1000008]),(300000,[10,11,12,13,14]),(400019,[0,1,2,4,8,500008,1000008]),(400029,[0,1,2,4,8,500008,1000008]),(400039,[0,1,2,4,8,15,16,500008,1000008]),(400058,[0,1,2,4,8,15,16,500008,1000008]),(400091,[0,1,8,17,18,500008,1000008]),(400092,[0,1,8,15,17,18,500008,1000008]),(400125,[0,1,8,18,500008,1000008]),(400130,[0,1,18])]
def E16:FEnv:=[]
theorem E16_good:EnvGood Try.prog E16:=(EnvGood.nil _)
def lv16:Nat→Bool:=lvOf [8]
noncomputable def b16:Code:=Try.f16.body.getD .skip
noncomputable def c16_0:Code:=(.seq (codeAt [1,1,1,0,1,0,0,0,0] b16) (.seq (.cond (.tmp 39) .skip (.exit 1)) (.seq (.block 2 (.seq (codeAt [1,1,1,0,1,0,0,1,0,0,0] b16) (.cond (.tmp 58) (codeAt [1,1,1,0,1,0,0,1,0,0,1,0] b16) .skip))) (codeAt [1,1,1,0,1,0,0,1,1] b16))))
noncomputable def c16_1:Code:=(.loop c16_0)
noncomputable def c16_2:Code:=(.block 1 c16_1)
noncomputable def c16_3:Code:=(.seq (codeAt [1,1,1,1,1,1,1,0,0] b16) (.seq (.cond (.tmp 125) (.seq (codeAt [1,1,1,1,1,1,1,0,1,0,0] b16) .ret) .skip) (.seq (codeAt [1,1,1,1,1,1,1,1,0,0] b16) (.seq (.cond (.tmp 130) (.seq (codeAt [1,1,1,1,1,1,1,1,0,1,0,0] b16) .ret) .skip) (.seq (codeAt [1,1,1,1,1,1,1,1,1,0] b16) .ret)))))
noncomputable def c16_4:Code:=(.seq (codeAt [1,1,1,1,0] b16) (.seq (codeAt [1,1,1,1,1,0] b16) (.seq (codeAt [1,1,1,1,1,1,0,0] b16) (.seq (.cond (.tmp 91) (.seq (codeAt [1,1,1,1,1,1,0,1,0,0,0] b16) (.seq (.cond (.tmp 92) (codeAt [1,1,1,1,1,1,0,1,0,0,1,0] b16) (codeAt [1,1,1,1,1,1,0,1,0,0,1,1] b16)) (codeAt [1,1,1,1,1,1,0,1,0,1] b16))) .skip) c16_3))))
noncomputable def c16_5:Code:=(.seq c16_2 c16_4)
noncomputable def c16_6:Code:=(.seq (codeAt [0] b16) (.seq (.block 0 (.seq (codeAt [1,0,0,0] b16) (.cond (.tmp 19) (.seq (codeAt [1,0,0,1,0,0] b16) .ret) (.seq (codeAt [1,0,0,1,1,0] b16) (.cond (.tmp 29) (.seq (codeAt [1,0,0,1,1,1,0,0] b16) .ret) .skip))))) (.seq (codeAt [1,1,0] b16) (.seq (codeAt [1,1,1,0,0] b16) c16_5))))
noncomputable def g16_p0 (R:Type) (t0:Sl) (t1:Sl) (t2:Int) (t3_0:Int) (t3_1:Bool) (t3_2:Int) (t3_3:Sl) (t4:Int) (H:Heap) (kN:Sl→Sl→Int→Int→Int→Int→Int→Bool→Int→Sl→Heap→Option R) (kR:Sl→Sl→ByteArray→Bool→Int→Heap→Option R):Option R :=
  sel (decide (t2 > (16383:Int))) (
    kR t0 t1 str0 false (1:Int) H) (
    sel (decide (t3_2 > (15:Int))) (
      kR t0 t1 str0 false (1:Int) H) (
      sel (decide (((t3_3.len:Nat):Int) > (256:Int))) (
        kR t0 t1 str0 false (3:Int) H) (
        kN t0 t1 t2 t4 (-1:Int) (0:Int) t3_0 t3_1 t3_2 t3_3 H)))
theorem g16_p0_eq {R:Type} (c2:Code) (t0:Sl) (t1:Sl) (t2:Int) (t3_0:Int) (t3_1:Bool) (t3_2:Int) (t3_3:Sl) (t4:Int) (H:Heap) (K:Ex→Fr→Heap→Option R):ev2 Try.prog E16 loopLim lv16 Try.f16.ntmps kp16 (.seq (codeAt [0] b16) (.seq (.block 0 (.seq (codeAt [1,0,0,0] b16) (.cond (.tmp 19) (.seq (codeAt [1,0,0,1,0,0] b16) .ret) (.seq (codeAt [1,0,0,1,1,0] b16) (.cond (.tmp 29) (.seq (codeAt [1,0,0,1,1,1,0,0] b16) .ret) .skip))))) (.seq (codeAt [1,1,0] b16) (.seq (codeAt [1,1,1,0,0] b16) c2)))) [(0,(V.sl t0)),(1,(V.sl t1)),(2,(V.i .u16 t2)),(3,(V.agg [(V.i .u32 t3_0),(V.b t3_1),(V.i .u8 t3_2),(V.sl t3_3)])),(4,(V.i .i64 t4))] H K = g16_p0 R t0 t1 t2 t3_0 t3_1 t3_2 t3_3 t4 H (fun t0 t1 t2 t4 t15 t16 t500008_0 t500008_1 t500008_2 t500008_3 H=>ev2 Try.prog E16 loopLim lv16 Try.f16.ntmps kp16 c2 [(0,(V.sl t0)),(1,(V.sl t1)),(2,(V.i .u16 t2)),(4,(V.i .i64 t4)),(15,(V.i .i64 t15)),(16,(V.i .i64 t16)),(500008,(V.agg [(V.i .u32 t500008_0),(V.b t500008_1),(V.i .u8 t500008_2),(V.sl t500008_3)])),(1000008,(V.p (some (8,0))))] H K) (fun t10 t11 t12 t13 t14 H=>K .ret [(10,(V.sl t10)),(11,(V.sl t11)),(12,(V.s t12)),(13,(V.b t13)),(14,(V.i .i64 t14))] H):=by kernel_rfl
theorem g16_p0_lin {R S:Type} {k:S→Option R} {t0:Sl} {t1:Sl} {t2:Int} {t3_0:Int} {t3_1:Bool} {t3_2:Int} {t3_3:Sl} {t4:Int} {H:Heap} {fkN:Sl→Sl→Int→Int→Int→Int→Int→Bool→Int→Sl→Heap→Option R} {gkN:Sl→Sl→Int→Int→Int→Int→Int→Bool→Int→Sl→Heap→Option S} {fkR:Sl→Sl→ByteArray→Bool→Int→Heap→Option R} {gkR:Sl→Sl→ByteArray→Bool→Int→Heap→Option S} (hkN:∀ t0 t1 t2 t4 t15 t16 t500008_0 t500008_1 t500008_2 t500008_3 H,fkN t0 t1 t2 t4 t15 t16 t500008_0 t500008_1 t500008_2 t500008_3 H = (gkN t0 t1 t2 t4 t15 t16 t500008_0 t500008_1 t500008_2 t500008_3 H).bind k) (hkR:∀ t10 t11 t12 t13 t14 H,fkR t10 t11 t12 t13 t14 H = (gkR t10 t11 t12 t13 t14 H).bind k):g16_p0 R t0 t1 t2 t3_0 t3_1 t3_2 t3_3 t4 H fkN fkR = (g16_p0 S t0 t1 t2 t3_0 t3_1 t3_2 t3_3 t4 H gkN gkR).bind k:=by
  delta g16_p0; exact (
    sl_lin (
      hkR _ _ _ _ _ _) (
      sl_lin (
        hkR _ _ _ _ _ _) (
        sl_lin (
          hkR _ _ _ _ _ _) (
          hkN _ _ _ _ _ _ _ _ _ _ _))))
noncomputable def g16_p1 (R:Type) (t0:Sl) (t1:Sl) (t2:Int) (t4:Int) (t15:Int) (t16:Int) (t500008_0:Int) (t500008_1:Bool) (t500008_2:Int) (t500008_3:Sl) (H:Heap) (kN:Sl→Sl→Int→Int→Int→Int→Int→Bool→Int→Sl→Heap→Option R) (kE1:Sl→Sl→Int→Int→Int→Int→Bool→Int→Sl→Heap→Option R):Option R :=
  sel (decide (t16 < ((t0.len:Nat):Int))) (
    if 0 ≤ t16∧t16 < ((t0.len:Nat):Int) then (
      (t0.a).bind fun q1 =>
      ((H).ldI .u16 q1.1 ((q1.2 + Int.toNat t16 * 5) + 0)).bind fun x2 =>
      sel (x2 == t2) (
        if 0 ≤ t16∧t16 < ((t0.len:Nat):Int) then (
          (t0.a).bind fun q3 =>
          ((H).ldI .u32 q3.1 ((q3.2 + Int.toNat t16 * 5) + 1)).bind fun x4 =>
          sel (x4 == t500008_0) (
            kN t0 t1 t2 t4 t16 (IntKind.wrap .i64 (t16 + (1:Int))) t500008_0 t500008_1 t500008_2 t500008_3 H) (
            kN t0 t1 t2 t4 t15 (IntKind.wrap .i64 (t16 + (1:Int))) t500008_0 t500008_1 t500008_2 t500008_3 H))
        else (
          none)) (
        kN t0 t1 t2 t4 t15 (IntKind.wrap .i64 (t16 + (1:Int))) t500008_0 t500008_1 t500008_2 t500008_3 H))
    else (
      none)) (
    kE1 t0 t1 t2 t4 t15 t500008_0 t500008_1 t500008_2 t500008_3 H)
theorem g16_p1_eq {R:Type} (t0:Sl) (t1:Sl) (t2:Int) (t4:Int) (t15:Int) (t16:Int) (t500008_0:Int) (t500008_1:Bool) (t500008_2:Int) (t500008_3:Sl) (H:Heap) (K:Ex→Fr→Heap→Option R):ev2 Try.prog E16 loopLim lv16 Try.f16.ntmps kp16 c16_0 [(0,(V.sl t0)),(1,(V.sl t1)),(2,(V.i .u16 t2)),(4,(V.i .i64 t4)),(15,(V.i .i64 t15)),(16,(V.i .i64 t16)),(500008,(V.agg [(V.i .u32 t500008_0),(V.b t500008_1),(V.i .u8 t500008_2),(V.sl t500008_3)])),(1000008,(V.p (some (8,0))))] H K = g16_p1 R t0 t1 t2 t4 t15 t16 t500008_0 t500008_1 t500008_2 t500008_3 H (fun t0 t1 t2 t4 t15 t16 t500008_0 t500008_1 t500008_2 t500008_3 H=>K .normal [(0,(V.sl t0)),(1,(V.sl t1)),(2,(V.i .u16 t2)),(4,(V.i .i64 t4)),(15,(V.i .i64 t15)),(16,(V.i .i64 t16)),(500008,(V.agg [(V.i .u32 t500008_0),(V.b t500008_1),(V.i .u8 t500008_2),(V.sl t500008_3)])),(1000008,(V.p (some (8,0))))] H) (fun t0 t1 t2 t4 t15 t500008_0 t500008_1 t500008_2 t500008_3 H=>K (.exit 1) [(0,(V.sl t0)),(1,(V.sl t1)),(2,(V.i .u16 t2)),(4,(V.i .i64 t4)),(15,(V.i .i64 t15)),(500008,(V.agg [(V.i .u32 t500008_0),(V.b t500008_1),(V.i .u8 t500008_2),(V.sl t500008_3)])),(1000008,(V.p (some (8,0))))] H):=by kernel_rfl
theorem g16_p1_lin {R S:Type} {k:S→Option R} {t0:Sl} {t1:Sl} {t2:Int} {t4:Int} {t15:Int} {t16:Int} {t500008_0:Int} {t500008_1:Bool} {t500008_2:Int} {t500008_3:Sl} {H:Heap} {fkN:Sl→Sl→Int→Int→Int→Int→Int→Bool→Int→Sl→Heap→Option R} {gkN:Sl→Sl→Int→Int→Int→Int→Int→Bool→Int→Sl→Heap→Option S} {fkE1:Sl→Sl→Int→Int→Int→Int→Bool→Int→Sl→Heap→Option R} {gkE1:Sl→Sl→Int→Int→Int→Int→Bool→Int→Sl→Heap→Option S} (hkN:∀ t0 t1 t2 t4 t15 t16 t500008_0 t500008_1 t500008_2 t500008_3 H,fkN t0 t1 t2 t4 t15 t16 t500008_0 t500008_1 t500008_2 t500008_3 H = (gkN t0 t1 t2 t4 t15 t16 t500008_0 t500008_1 t500008_2 t500008_3 H).bind k) (hkE1:∀ t0 t1 t2 t4 t15 t500008_0 t500008_1 t500008_2 t500008_3 H,fkE1 t0 t1 t2 t4 t15 t500008_0 t500008_1 t500008_2 t500008_3 H = (gkE1 t0 t1 t2 t4 t15 t500008_0 t500008_1 t500008_2 t500008_3 H).bind k):g16_p1 R t0 t1 t2 t4 t15 t16 t500008_0 t500008_1 t500008_2 t500008_3 H fkN fkE1 = (g16_p1 S t0 t1 t2 t4 t15 t16 t500008_0 t500008_1 t500008_2 t500008_3 H gkN gkE1).bind k:=by
  delta g16_p1; exact (
    sl_lin (
      il (
        bl fun q1 =>
        bl fun x2 =>
        sl_lin (
          il (
            bl fun q3 =>
            bl fun x4 =>
            sl_lin (
              hkN _ _ _ _ _ _ _ _ _ _ _) (
              hkN _ _ _ _ _ _ _ _ _ _ _)) (
            rfl)) (
          hkN _ _ _ _ _ _ _ _ _ _ _)) (
        rfl)) (
      hkE1 _ _ _ _ _ _ _ _ _ _))
abbrev g16_p2_S:=Sl × Sl × Int × Int × Int × Int × Int × Bool × Int × Sl
abbrev g16_p2_O:=Sl × Sl × Int × Int × Int × Int × Bool × Int × Sl
def g16_p2_es (s:g16_p2_S):Fr:=[(0,(V.sl s.1)),(1,(V.sl s.2.1)),(2,(V.i .u16 s.2.2.1)),(4,(V.i .i64 s.2.2.2.1)),(15,(V.i .i64 s.2.2.2.2.1)),(16,(V.i .i64 s.2.2.2.2.2.1)),(500008,(V.agg [(V.i .u32 s.2.2.2.2.2.2.1),(V.b s.2.2.2.2.2.2.2.1),(V.i .u8 s.2.2.2.2.2.2.2.2.1),(V.sl s.2.2.2.2.2.2.2.2.2)])),(1000008,(V.p (some (8,0))))]
def g16_p2_er (r:g16_p2_O):Ex × Fr:=((.exit 1),[(0,(V.sl r.1)),(1,(V.sl r.2.1)),(2,(V.i .u16 r.2.2.1)),(4,(V.i .i64 r.2.2.2.1)),(15,(V.i .i64 r.2.2.2.2.1)),(500008,(V.agg [(V.i .u32 r.2.2.2.2.2.1),(V.b r.2.2.2.2.2.2.1),(V.i .u8 r.2.2.2.2.2.2.2.1),(V.sl r.2.2.2.2.2.2.2.2)])),(1000008,(V.p (some (8,0))))])
noncomputable def g16_p2_b (s:g16_p2_S) (H:Heap):Option (Rd g16_p2_S g16_p2_O × Heap) :=
  g16_p1 _ s.1 s.2.1 s.2.2.1 s.2.2.2.1 s.2.2.2.2.1 s.2.2.2.2.2.1 s.2.2.2.2.2.2.1 s.2.2.2.2.2.2.2.1 s.2.2.2.2.2.2.2.2.1 s.2.2.2.2.2.2.2.2.2 H (fun t0 t1 t2 t4 t15 t16 t500008_0 t500008_1 t500008_2 t500008_3 H=>some (.go (t0,t1,t2,t4,t15,t16,t500008_0,t500008_1,t500008_2,t500008_3),H)) (fun t0 t1 t2 t4 t15 t500008_0 t500008_1 t500008_2 t500008_3 H=>some (.up (t0,t1,t2,t4,t15,t500008_0,t500008_1,t500008_2,t500008_3),H))
noncomputable def g16_p2 (R:Type) (t0:Sl) (t1:Sl) (t2:Int) (t4:Int) (t15:Int) (t16:Int) (t500008_0:Int) (t500008_1:Bool) (t500008_2:Int) (t500008_3:Sl) (H:Heap) (kE1:Sl→Sl→Int→Int→Int→Int→Bool→Int→Sl→Heap→Option R):Option R :=
  (tlim (g16_p2_b) (t0,t1,t2,t4,t15,t16,t500008_0,t500008_1,t500008_2,t500008_3) H).bind fun p=>kE1 p.1.1 p.1.2.1 p.1.2.2.1 p.1.2.2.2.1 p.1.2.2.2.2.1 p.1.2.2.2.2.2.1 p.1.2.2.2.2.2.2.1 p.1.2.2.2.2.2.2.2.1 p.1.2.2.2.2.2.2.2.2 p.2
theorem g16_p2_lin {R S:Type} {k:S→Option R} {t0:Sl} {t1:Sl} {t2:Int} {t4:Int} {t15:Int} {t16:Int} {t500008_0:Int} {t500008_1:Bool} {t500008_2:Int} {t500008_3:Sl} {H:Heap} {fkE1:Sl→Sl→Int→Int→Int→Int→Bool→Int→Sl→Heap→Option R} {gkE1:Sl→Sl→Int→Int→Int→Int→Bool→Int→Sl→Heap→Option S} (hkE1:∀ t0 t1 t2 t4 t15 t500008_0 t500008_1 t500008_2 t500008_3 H,fkE1 t0 t1 t2 t4 t15 t500008_0 t500008_1 t500008_2 t500008_3 H = (gkE1 t0 t1 t2 t4 t15 t500008_0 t500008_1 t500008_2 t500008_3 H).bind k):g16_p2 R t0 t1 t2 t4 t15 t16 t500008_0 t500008_1 t500008_2 t500008_3 H fkE1 = (g16_p2 S t0 t1 t2 t4 t15 t16 t500008_0 t500008_1 t500008_2 t500008_3 H gkE1).bind k:=by
  exact bl fun p=>hkE1 _ _ _ _ _ _ _ _ _ _
theorem g16_p2_eq {R:Type} (t0:Sl) (t1:Sl) (t2:Int) (t4:Int) (t15:Int) (t16:Int) (t500008_0:Int) (t500008_1:Bool) (t500008_2:Int) (t500008_3:Sl) (H:Heap) (K:Ex→Fr→Heap→Option R):ev2 Try.prog E16 loopLim lv16 Try.f16.ntmps kp16 c16_1 [(0,(V.sl t0)),(1,(V.sl t1)),(2,(V.i .u16 t2)),(4,(V.i .i64 t4)),(15,(V.i .i64 t15)),(16,(V.i .i64 t16)),(500008,(V.agg [(V.i .u32 t500008_0),(V.b t500008_1),(V.i .u8 t500008_2),(V.sl t500008_3)])),(1000008,(V.p (some (8,0))))] H K = g16_p2 R t0 t1 t2 t4 t15 t16 t500008_0 t500008_1 t500008_2 t500008_3 H (fun t0 t1 t2 t4 t15 t500008_0 t500008_1 t500008_2 t500008_3 H=>K (.exit 1) [(0,(V.sl t0)),(1,(V.sl t1)),(2,(V.i .u16 t2)),(4,(V.i .i64 t4)),(15,(V.i .i64 t15)),(500008,(V.agg [(V.i .u32 t500008_0),(V.b t500008_1),(V.i .u8 t500008_2),(V.sl t500008_3)])),(1000008,(V.p (some (8,0))))] H):=by
  delta c16_1
  delta g16_p2
  refine (ev2_tlim (b:=g16_p2_b) (es:=g16_p2_es) (er:=g16_p2_er) (by intro r; exact nofun) (fun s H=>?_) (t0,t1,t2,t4,t15,t16,t500008_0,t500008_1,t500008_2,t500008_3) H K).trans (bc fun p=>rfl)
  exact (g16_p1_eq s.1 s.2.1 s.2.2.1 s.2.2.2.1 s.2.2.2.2.1 s.2.2.2.2.2.1 s.2.2.2.2.2.2.1 s.2.2.2.2.2.2.2.1 s.2.2.2.2.2.2.2.2.1 s.2.2.2.2.2.2.2.2.2 H ret3).trans (g16_p1_lin (fun _ _ _ _ _ _ _ _ _ _ _=>rfl) (fun _ _ _ _ _ _ _ _ _ _=>rfl))
noncomputable def g16_p3 (R:Type) (t0:Sl) (t1:Sl) (t2:Int) (t4:Int) (t15:Int) (t16:Int) (t500008_0:Int) (t500008_1:Bool) (t500008_2:Int) (t500008_3:Sl) (H:Heap) (kN:Sl→Sl→Int→Int→Int→Int→Bool→Int→Sl→Heap→Option R):Option R :=
  g16_p2 R t0 t1 t2 t4 t15 t16 t500008_0 t500008_1 t500008_2 t500008_3 H (fun t0 t1 t2 t4 t15 t500008_0 t500008_1 t500008_2 t500008_3 H=>kN t0 t1 t2 t4 t15 t500008_0 t500008_1 t500008_2 t500008_3 H)
theorem g16_p3_lin {R S:Type} {k:S→Option R} {t0:Sl} {t1:Sl} {t2:Int} {t4:Int} {t15:Int} {t16:Int} {t500008_0:Int} {t500008_1:Bool} {t500008_2:Int} {t500008_3:Sl} {H:Heap} {fkN:Sl→Sl→Int→Int→Int→Int→Bool→Int→Sl→Heap→Option R} {gkN:Sl→Sl→Int→Int→Int→Int→Bool→Int→Sl→Heap→Option S} (hkN:∀ t0 t1 t2 t4 t15 t500008_0 t500008_1 t500008_2 t500008_3 H,fkN t0 t1 t2 t4 t15 t500008_0 t500008_1 t500008_2 t500008_3 H = (gkN t0 t1 t2 t4 t15 t500008_0 t500008_1 t500008_2 t500008_3 H).bind k):g16_p3 R t0 t1 t2 t4 t15 t16 t500008_0 t500008_1 t500008_2 t500008_3 H fkN = (g16_p3 S t0 t1 t2 t4 t15 t16 t500008_0 t500008_1 t500008_2 t500008_3 H gkN).bind k:=by
  exact g16_p2_lin (fun _ _ _ _ _ _ _ _ _ _=>hkN _ _ _ _ _ _ _ _ _ _)
theorem g16_p3_eq {R:Type} (t0:Sl) (t1:Sl) (t2:Int) (t4:Int) (t15:Int) (t16:Int) (t500008_0:Int) (t500008_1:Bool) (t500008_2:Int) (t500008_3:Sl) (H:Heap) (K:Ex→Fr→Heap→Option R):ev2 Try.prog E16 loopLim lv16 Try.f16.ntmps kp16 c16_2 [(0,(V.sl t0)),(1,(V.sl t1)),(2,(V.i .u16 t2)),(4,(V.i .i64 t4)),(15,(V.i .i64 t15)),(16,(V.i .i64 t16)),(500008,(V.agg [(V.i .u32 t500008_0),(V.b t500008_1),(V.i .u8 t500008_2),(V.sl t500008_3)])),(1000008,(V.p (some (8,0))))] H K = g16_p3 R t0 t1 t2 t4 t15 t16 t500008_0 t500008_1 t500008_2 t500008_3 H (fun t0 t1 t2 t4 t15 t500008_0 t500008_1 t500008_2 t500008_3 H=>K .normal [(0,(V.sl t0)),(1,(V.sl t1)),(2,(V.i .u16 t2)),(4,(V.i .i64 t4)),(15,(V.i .i64 t15)),(500008,(V.agg [(V.i .u32 t500008_0),(V.b t500008_1),(V.i .u8 t500008_2),(V.sl t500008_3)])),(1000008,(V.p (some (8,0))))] H):=by
  delta c16_2
  rw [ev2_block]
  delta g16_p3
  exact (g16_p2_eq t0 t1 t2 t4 t15 t16 t500008_0 t500008_1 t500008_2 t500008_3 H (kBlock kp16 1 K))
noncomputable def g16_p4 (R:Type) (t0:Sl) (t1:Sl) (t2:Int) (t4:Int) (t15:Int) (t500008_0:Int) (t500008_1:Bool) (t500008_2:Int) (t500008_3:Sl) (H:Heap) (kN:Sl→Sl→Bool→Nat→Nat→Int→Bool→Int→Sl→Heap→Option R):Option R :=
  sel (decide (t15 ≥ (0:Int))) (
    sel (!t500008_1) (
      if 0 ≤ t15∧t15 < ((t0.len:Nat):Int) then (
        (t0.a).bind fun q220 =>
        ((H).ldI .i64 q220.1 ((q220.2 + Int.toNat t15 * 5) + 3)).bind fun x221 =>
        ((slBytes H t500008_3)).bind fun x222 =>
        alo H (.cells [(V.i .u16 (0:Int)),(V.i .u32 (0:Int)),(V.s str0),(V.i .i64 (0:Int)),(V.i .i64 (0:Int))] 55 false) fun i223 h224 =>
        ((h224).sts i223 0 [(V.i .u16 t2),(V.i .u32 t500008_0),(V.s x222),(V.i .i64 (IntKind.wrap .i64 ((IntKind.wrap .i64 t500008_2) - (1:Int)))),(V.i .i64 t4)]).bind fun h225 =>
        sel (decide (t15 ≥ (0:Int))) (
          sel (x221 == (IntKind.wrap .i64 t500008_2)) (
            if 0 ≤ t15∧t15 < ((t0.len:Nat):Int) then (
              (t0.a).bind fun q226 =>
              ((h225).ldS q226.1 ((q226.2 + Int.toNat t15 * 5) + 2)).bind fun x227 =>
              ((h225).ldS i223 (0 + 2)).bind fun x228 =>
              catS x227 x228 fun z229 =>
              ((h225).st i223 (0 + 2) (V.s z229)).bind fun h231 =>
              alo h231 (.cells [] 55 false) fun i232 h233 =>
              slOf 5 t0 none (some t15) none fun s234 =>
              ((slCells h233 5 s234)).bind fun vs237 =>
              appendV h233 55 5 40 (Sl.mk (some (i232,0)) 0 (.ex 0)) s234.len vs237 fun s235 h236 =>
              slOf 5 t0 (some (IntKind.wrap .i64 (t15 + (1:Int)))) none none fun s238 =>
              ((slCells h236 5 s238)).bind fun vs241 =>
              appendV h236 55 5 40 s235 s238.len vs241 fun s239 h240 =>
              kN s239 t1 (x221 == (IntKind.wrap .i64 t500008_2)) i223 0 t500008_0 t500008_1 t500008_2 t500008_3 h240)
            else (
              none)) (
            alo h225 (.cells [(V.i .u16 t2),(V.i .u32 t500008_0)] 57 false) fun i242 h243 =>
            ((slCells h243 2 (Sl.mk (some (i242,0)) 1 (.ex 1)))).bind fun vs246 =>
            appendV h243 57 2 8 t1 (Sl.mk (some (i242,0)) 1 (.ex 1)).len vs246 fun s244 h245 =>
            alo h245 (.cells [] 55 false) fun i247 h248 =>
            slOf 5 t0 none (some t15) none fun s249 =>
            ((slCells h248 5 s249)).bind fun vs252 =>
            appendV h248 55 5 40 (Sl.mk (some (i247,0)) 0 (.ex 0)) s249.len vs252 fun s250 h251 =>
            slOf 5 t0 (some (IntKind.wrap .i64 (t15 + (1:Int)))) none none fun s253 =>
            ((slCells h251 5 s253)).bind fun vs256 =>
            appendV h251 55 5 40 s250 s253.len vs256 fun s254 h255 =>
            kN s254 s244 (x221 == (IntKind.wrap .i64 t500008_2)) i223 0 t500008_0 t500008_1 t500008_2 t500008_3 h255)) (
          kN t0 t1 (x221 == (IntKind.wrap .i64 t500008_2)) i223 0 t500008_0 t500008_1 t500008_2 t500008_3 h225))
      else (
        none)) (
      ((slBytes H t500008_3)).bind fun x257 =>
      alo H (.cells [(V.i .u16 (0:Int)),(V.i .u32 (0:Int)),(V.s str0),(V.i .i64 (0:Int)),(V.i .i64 (0:Int))] 55 false) fun i258 h259 =>
      ((h259).sts i258 0 [(V.i .u16 t2),(V.i .u32 t500008_0),(V.s x257),(V.i .i64 (IntKind.wrap .i64 ((IntKind.wrap .i64 t500008_2) - (1:Int)))),(V.i .i64 t4)]).bind fun h260 =>
      sel (decide (t15 ≥ (0:Int))) (
        alo h260 (.cells [(V.i .u16 t2),(V.i .u32 t500008_0)] 57 false) fun i261 h262 =>
        ((slCells h262 2 (Sl.mk (some (i261,0)) 1 (.ex 1)))).bind fun vs265 =>
        appendV h262 57 2 8 t1 (Sl.mk (some (i261,0)) 1 (.ex 1)).len vs265 fun s263 h264 =>
        alo h264 (.cells [] 55 false) fun i266 h267 =>
        slOf 5 t0 none (some t15) none fun s268 =>
        ((slCells h267 5 s268)).bind fun vs271 =>
        appendV h267 55 5 40 (Sl.mk (some (i266,0)) 0 (.ex 0)) s268.len vs271 fun s269 h270 =>
        slOf 5 t0 (some (IntKind.wrap .i64 (t15 + (1:Int)))) none none fun s272 =>
        ((slCells h270 5 s272)).bind fun vs275 =>
        appendV h270 55 5 40 s269 s272.len vs275 fun s273 h274 =>
        kN s273 s263 false i258 0 t500008_0 t500008_1 t500008_2 t500008_3 h274) (
        kN t0 t1 false i258 0 t500008_0 t500008_1 t500008_2 t500008_3 h260))) (
    ((slBytes H t500008_3)).bind fun x276 =>
    alo H (.cells [(V.i .u16 (0:Int)),(V.i .u32 (0:Int)),(V.s str0),(V.i .i64 (0:Int)),(V.i .i64 (0:Int))] 55 false) fun i277 h278 =>
    ((h278).sts i277 0 [(V.i .u16 t2),(V.i .u32 t500008_0),(V.s x276),(V.i .i64 (IntKind.wrap .i64 ((IntKind.wrap .i64 t500008_2) - (1:Int)))),(V.i .i64 t4)]).bind fun h279 =>
    sel (decide (t15 ≥ (0:Int))) (
      alo h279 (.cells [(V.i .u16 t2),(V.i .u32 t500008_0)] 57 false) fun i280 h281 =>
      ((slCells h281 2 (Sl.mk (some (i280,0)) 1 (.ex 1)))).bind fun vs284 =>
      appendV h281 57 2 8 t1 (Sl.mk (some (i280,0)) 1 (.ex 1)).len vs284 fun s282 h283 =>
      alo h283 (.cells [] 55 false) fun i285 h286 =>
      slOf 5 t0 none (some t15) none fun s287 =>
      ((slCells h286 5 s287)).bind fun vs290 =>
      appendV h286 55 5 40 (Sl.mk (some (i285,0)) 0 (.ex 0)) s287.len vs290 fun s288 h289 =>
      slOf 5 t0 (some (IntKind.wrap .i64 (t15 + (1:Int)))) none none fun s291 =>
      ((slCells h289 5 s291)).bind fun vs294 =>
      appendV h289 55 5 40 s288 s291.len vs294 fun s292 h293 =>
      kN s292 s282 false i277 0 t500008_0 t500008_1 t500008_2 t500008_3 h293) (
      kN t0 t1 false i277 0 t500008_0 t500008_1 t500008_2 t500008_3 h279))
theorem g16_p4_eq {R:Type} (c2:Code) (t0:Sl) (t1:Sl) (t2:Int) (t4:Int) (t15:Int) (t500008_0:Int) (t500008_1:Bool) (t500008_2:Int) (t500008_3:Sl) (H:Heap) (K:Ex→Fr→Heap→Option R):ev2 Try.prog E16 loopLim lv16 Try.f16.ntmps kp16 (.seq (codeAt [1,1,1,1,0] b16) (.seq (codeAt [1,1,1,1,1,0] b16) (.seq (codeAt [1,1,1,1,1,1,0,0] b16) (.seq (.cond (.tmp 91) (.seq (codeAt [1,1,1,1,1,1,0,1,0,0,0] b16) (.seq (.cond (.tmp 92) (codeAt [1,1,1,1,1,1,0,1,0,0,1,0] b16) (codeAt [1,1,1,1,1,1,0,1,0,0,1,1] b16)) (codeAt [1,1,1,1,1,1,0,1,0,1] b16))) .skip) c2)))) [(0,(V.sl t0)),(1,(V.sl t1)),(2,(V.i .u16 t2)),(4,(V.i .i64 t4)),(15,(V.i .i64 t15)),(500008,(V.agg [(V.i .u32 t500008_0),(V.b t500008_1),(V.i .u8 t500008_2),(V.sl t500008_3)])),(1000008,(V.p (some (8,0))))] H K = g16_p4 R t0 t1 t2 t4 t15 t500008_0 t500008_1 t500008_2 t500008_3 H (fun t0 t1 t17 t18_0 t18_1 t500008_0 t500008_1 t500008_2 t500008_3 H=>ev2 Try.prog E16 loopLim lv16 Try.f16.ntmps kp16 c2 [(0,(V.sl t0)),(1,(V.sl t1)),(17,(V.b t17)),(18,(V.p (some (t18_0,t18_1)))),(500008,(V.agg [(V.i .u32 t500008_0),(V.b t500008_1),(V.i .u8 t500008_2),(V.sl t500008_3)])),(1000008,(V.p (some (8,0))))] H K):=by kernel_rfl
theorem g16_p4_lin {R S:Type} {k:S→Option R} {t0:Sl} {t1:Sl} {t2:Int} {t4:Int} {t15:Int} {t500008_0:Int} {t500008_1:Bool} {t500008_2:Int} {t500008_3:Sl} {H:Heap} {fkN:Sl→Sl→Bool→Nat→Nat→Int→Bool→Int→Sl→Heap→Option R} {gkN:Sl→Sl→Bool→Nat→Nat→Int→Bool→Int→Sl→Heap→Option S} (hkN:∀ t0 t1 t17 t18_0 t18_1 t500008_0 t500008_1 t500008_2 t500008_3 H,fkN t0 t1 t17 t18_0 t18_1 t500008_0 t500008_1 t500008_2 t500008_3 H = (gkN t0 t1 t17 t18_0 t18_1 t500008_0 t500008_1 t500008_2 t500008_3 H).bind k):g16_p4 R t0 t1 t2 t4 t15 t500008_0 t500008_1 t500008_2 t500008_3 H fkN = (g16_p4 S t0 t1 t2 t4 t15 t500008_0 t500008_1 t500008_2 t500008_3 H gkN).bind k:=by
  delta g16_p4
  repeat' (first | with_reducible (first | exact hkN _ _ _ _ _ _ _ _ _ _ | refine sl_lin ?_ ?_ | refine il ?_ ?_ | refine alo_lin fun _ _=>?_ | refine catS_lin fun _=>?_ | refine slOf_lin fun _=>?_ | refine appendV_lin fun _ _=>?_ | refine bl fun _=>?_) | exact (rfl:(none:Option R) = (none:Option S).bind k))
noncomputable def g16_p5 (R:Type) (t0:Sl) (t1:Sl) (t17:Bool) (t18_0:Nat) (t18_1:Nat) (t500008_0:Int) (t500008_1:Bool) (t500008_2:Int) (t500008_3:Sl) (H:Heap) (kR:Sl→Sl→ByteArray→Bool→Int→Heap→Option R):Option R :=
  sel (!t500008_1) (
    sel (!t17) (
      kR t0 t1 str0 false (6:Int) H) (
      sel (t500008_2 == (0:Int)) (
        ((H).ldS t18_0 (t18_1 + 2)).bind fun x295 =>
        kR t0 t1 x295 true (0:Int) H) (
        ((H).ldI .u16 t18_0 (t18_1 + 0)).bind fun x296 =>
        ((H).ldI .u32 t18_0 (t18_1 + 1)).bind fun x297 =>
        ((H).ldS t18_0 (t18_1 + 2)).bind fun x298 =>
        ((H).ldI .i64 t18_0 (t18_1 + 3)).bind fun x299 =>
        ((H).ldI .i64 t18_0 (t18_1 + 4)).bind fun x300 =>
        alo H (.cells [(V.i .u16 x296),(V.i .u32 x297),(V.s x298),(V.i .i64 x299),(V.i .i64 x300)] 55 false) fun i301 h302 =>
        ((slCells h302 5 (Sl.mk (some (i301,0)) 1 (.ex 1)))).bind fun vs305 =>
        appendV h302 55 5 40 t0 (Sl.mk (some (i301,0)) 1 (.ex 1)).len vs305 fun s303 h304 =>
        kR s303 t1 str0 false (0:Int) h304))) (
    sel (t500008_2 == (0:Int)) (
      ((H).ldS t18_0 (t18_1 + 2)).bind fun x306 =>
      kR t0 t1 x306 true (0:Int) H) (
      ((H).ldI .u16 t18_0 (t18_1 + 0)).bind fun x307 =>
      ((H).ldI .u32 t18_0 (t18_1 + 1)).bind fun x308 =>
      ((H).ldS t18_0 (t18_1 + 2)).bind fun x309 =>
      ((H).ldI .i64 t18_0 (t18_1 + 3)).bind fun x310 =>
      ((H).ldI .i64 t18_0 (t18_1 + 4)).bind fun x311 =>
      alo H (.cells [(V.i .u16 x307),(V.i .u32 x308),(V.s x309),(V.i .i64 x310),(V.i .i64 x311)] 55 false) fun i312 h313 =>
      ((slCells h313 5 (Sl.mk (some (i312,0)) 1 (.ex 1)))).bind fun vs316 =>
      appendV h313 55 5 40 t0 (Sl.mk (some (i312,0)) 1 (.ex 1)).len vs316 fun s314 h315 =>
      kR s314 t1 str0 false (0:Int) h315))
theorem g16_p5_eq {R:Type} (t0:Sl) (t1:Sl) (t17:Bool) (t18_0:Nat) (t18_1:Nat) (t500008_0:Int) (t500008_1:Bool) (t500008_2:Int) (t500008_3:Sl) (H:Heap) (K:Ex→Fr→Heap→Option R):ev2 Try.prog E16 loopLim lv16 Try.f16.ntmps kp16 c16_3 [(0,(V.sl t0)),(1,(V.sl t1)),(17,(V.b t17)),(18,(V.p (some (t18_0,t18_1)))),(500008,(V.agg [(V.i .u32 t500008_0),(V.b t500008_1),(V.i .u8 t500008_2),(V.sl t500008_3)])),(1000008,(V.p (some (8,0))))] H K = g16_p5 R t0 t1 t17 t18_0 t18_1 t500008_0 t500008_1 t500008_2 t500008_3 H (fun t10 t11 t12 t13 t14 H=>K .ret [(10,(V.sl t10)),(11,(V.sl t11)),(12,(V.s t12)),(13,(V.b t13)),(14,(V.i .i64 t14))] H):=by kernel_rfl
theorem g16_p5_lin {R S:Type} {k:S→Option R} {t0:Sl} {t1:Sl} {t17:Bool} {t18_0:Nat} {t18_1:Nat} {t500008_0:Int} {t500008_1:Bool} {t500008_2:Int} {t500008_3:Sl} {H:Heap} {fkR:Sl→Sl→ByteArray→Bool→Int→Heap→Option R} {gkR:Sl→Sl→ByteArray→Bool→Int→Heap→Option S} (hkR:∀ t10 t11 t12 t13 t14 H,fkR t10 t11 t12 t13 t14 H = (gkR t10 t11 t12 t13 t14 H).bind k):g16_p5 R t0 t1 t17 t18_0 t18_1 t500008_0 t500008_1 t500008_2 t500008_3 H fkR = (g16_p5 S t0 t1 t17 t18_0 t18_1 t500008_0 t500008_1 t500008_2 t500008_3 H gkR).bind k:=by
  delta g16_p5
  repeat' (first | with_reducible (first | exact hkR _ _ _ _ _ _ | refine sl_lin ?_ ?_ | refine alo_lin fun _ _=>?_ | refine appendV_lin fun _ _=>?_ | refine bl fun _=>?_) | exact (rfl:(none:Option R) = (none:Option S).bind k))
noncomputable def g16_p6 (R:Type) (t0:Sl) (t1:Sl) (t2:Int) (t4:Int) (t15:Int) (t500008_0:Int) (t500008_1:Bool) (t500008_2:Int) (t500008_3:Sl) (H:Heap) (kR:Sl→Sl→ByteArray→Bool→Int→Heap→Option R):Option R :=
  g16_p4 R t0 t1 t2 t4 t15 t500008_0 t500008_1 t500008_2 t500008_3 H (fun t0 t1 t17 t18_0 t18_1 t500008_0 t500008_1 t500008_2 t500008_3 H=>g16_p5 R t0 t1 t17 t18_0 t18_1 t500008_0 t500008_1 t500008_2 t500008_3 H (fun t10 t11 t12 t13 t14 H=>kR t10 t11 t12 t13 t14 H))
theorem g16_p6_lin {R S:Type} {k:S→Option R} {t0:Sl} {t1:Sl} {t2:Int} {t4:Int} {t15:Int} {t500008_0:Int} {t500008_1:Bool} {t500008_2:Int} {t500008_3:Sl} {H:Heap} {fkR:Sl→Sl→ByteArray→Bool→Int→Heap→Option R} {gkR:Sl→Sl→ByteArray→Bool→Int→Heap→Option S} (hkR:∀ t10 t11 t12 t13 t14 H,fkR t10 t11 t12 t13 t14 H = (gkR t10 t11 t12 t13 t14 H).bind k):g16_p6 R t0 t1 t2 t4 t15 t500008_0 t500008_1 t500008_2 t500008_3 H fkR = (g16_p6 S t0 t1 t2 t4 t15 t500008_0 t500008_1 t500008_2 t500008_3 H gkR).bind k:=by
  exact g16_p4_lin (fun _ _ _ _ _ _ _ _ _ _=>g16_p5_lin (fun _ _ _ _ _ _=>hkR _ _ _ _ _ _))
theorem g16_p6_eq {R:Type} (t0:Sl) (t1:Sl) (t2:Int) (t4:Int) (t15:Int) (t500008_0:Int) (t500008_1:Bool) (t500008_2:Int) (t500008_3:Sl) (H:Heap) (K:Ex→Fr→Heap→Option R):ev2 Try.prog E16 loopLim lv16 Try.f16.ntmps kp16 c16_4 [(0,(V.sl t0)),(1,(V.sl t1)),(2,(V.i .u16 t2)),(4,(V.i .i64 t4)),(15,(V.i .i64 t15)),(500008,(V.agg [(V.i .u32 t500008_0),(V.b t500008_1),(V.i .u8 t500008_2),(V.sl t500008_3)])),(1000008,(V.p (some (8,0))))] H K = g16_p6 R t0 t1 t2 t4 t15 t500008_0 t500008_1 t500008_2 t500008_3 H (fun t10 t11 t12 t13 t14 H=>K .ret [(10,(V.sl t10)),(11,(V.sl t11)),(12,(V.s t12)),(13,(V.b t13)),(14,(V.i .i64 t14))] H):=by
  delta c16_4
  delta g16_p6
  exact (g16_p4_eq _ t0 t1 t2 t4 t15 t500008_0 t500008_1 t500008_2 t500008_3 H K).trans (congrArg (g16_p4 R t0 t1 t2 t4 t15 t500008_0 t500008_1 t500008_2 t500008_3 H) (funext fun t0=>funext fun t1=>funext fun t17=>funext fun t18_0=>funext fun t18_1=>funext fun t500008_0=>funext fun t500008_1=>funext fun t500008_2=>funext fun t500008_3=>funext fun H=>g16_p5_eq t0 t1 t17 t18_0 t18_1 t500008_0 t500008_1 t500008_2 t500008_3 H K))
noncomputable def g16_p7 (R:Type) (t0:Sl) (t1:Sl) (t2:Int) (t4:Int) (t15:Int) (t16:Int) (t500008_0:Int) (t500008_1:Bool) (t500008_2:Int) (t500008_3:Sl) (H:Heap) (kR:Sl→Sl→ByteArray→Bool→Int→Heap→Option R):Option R :=
  g16_p3 R t0 t1 t2 t4 t15 t16 t500008_0 t500008_1 t500008_2 t500008_3 H (fun t0 t1 t2 t4 t15 t500008_0 t500008_1 t500008_2 t500008_3 H=>g16_p6 R t0 t1 t2 t4 t15 t500008_0 t500008_1 t500008_2 t500008_3 H (fun t10 t11 t12 t13 t14 H=>kR t10 t11 t12 t13 t14 H))
theorem g16_p7_lin {R S:Type} {k:S→Option R} {t0:Sl} {t1:Sl} {t2:Int} {t4:Int} {t15:Int} {t16:Int} {t500008_0:Int} {t500008_1:Bool} {t500008_2:Int} {t500008_3:Sl} {H:Heap} {fkR:Sl→Sl→ByteArray→Bool→Int→Heap→Option R} {gkR:Sl→Sl→ByteArray→Bool→Int→Heap→Option S} (hkR:∀ t10 t11 t12 t13 t14 H,fkR t10 t11 t12 t13 t14 H = (gkR t10 t11 t12 t13 t14 H).bind k):g16_p7 R t0 t1 t2 t4 t15 t16 t500008_0 t500008_1 t500008_2 t500008_3 H fkR = (g16_p7 S t0 t1 t2 t4 t15 t16 t500008_0 t500008_1 t500008_2 t500008_3 H gkR).bind k:=by
  exact g16_p3_lin (fun _ _ _ _ _ _ _ _ _ _=>g16_p6_lin (fun _ _ _ _ _ _=>hkR _ _ _ _ _ _))
theorem g16_p7_eq {R:Type} (t0:Sl) (t1:Sl) (t2:Int) (t4:Int) (t15:Int) (t16:Int) (t500008_0:Int) (t500008_1:Bool) (t500008_2:Int) (t500008_3:Sl) (H:Heap) (K:Ex→Fr→Heap→Option R):ev2 Try.prog E16 loopLim lv16 Try.f16.ntmps kp16 c16_5 [(0,(V.sl t0)),(1,(V.sl t1)),(2,(V.i .u16 t2)),(4,(V.i .i64 t4)),(15,(V.i .i64 t15)),(16,(V.i .i64 t16)),(500008,(V.agg [(V.i .u32 t500008_0),(V.b t500008_1),(V.i .u8 t500008_2),(V.sl t500008_3)])),(1000008,(V.p (some (8,0))))] H K = g16_p7 R t0 t1 t2 t4 t15 t16 t500008_0 t500008_1 t500008_2 t500008_3 H (fun t10 t11 t12 t13 t14 H=>K .ret [(10,(V.sl t10)),(11,(V.sl t11)),(12,(V.s t12)),(13,(V.b t13)),(14,(V.i .i64 t14))] H):=by
  delta c16_5
  rw [ev2_seq]
  delta g16_p7
  exact (g16_p3_eq t0 t1 t2 t4 t15 t16 t500008_0 t500008_1 t500008_2 t500008_3 H (kSeq (fun fr H=>ev2 Try.prog E16 loopLim lv16 Try.f16.ntmps kp16 c16_4 fr H K) K)).trans (congrArg (g16_p3 R t0 t1 t2 t4 t15 t16 t500008_0 t500008_1 t500008_2 t500008_3 H) (funext fun t0=>funext fun t1=>funext fun t2=>funext fun t4=>funext fun t15=>funext fun t500008_0=>funext fun t500008_1=>funext fun t500008_2=>funext fun t500008_3=>funext fun H=>(kSeq_n _ _ _ _).trans (g16_p6_eq t0 t1 t2 t4 t15 t500008_0 t500008_1 t500008_2 t500008_3 H K)))
noncomputable def g16_p8 (R:Type) (t0:Sl) (t1:Sl) (t2:Int) (t3_0:Int) (t3_1:Bool) (t3_2:Int) (t3_3:Sl) (t4:Int) (H:Heap) (kR:Sl→Sl→ByteArray→Bool→Int→Heap→Option R):Option R :=
  g16_p0 R t0 t1 t2 t3_0 t3_1 t3_2 t3_3 t4 H (fun t0 t1 t2 t4 t15 t16 t500008_0 t500008_1 t500008_2 t500008_3 H=>g16_p7 R t0 t1 t2 t4 t15 t16 t500008_0 t500008_1 t500008_2 t500008_3 H (fun t10 t11 t12 t13 t14 H=>kR t10 t11 t12 t13 t14 H)) (fun t10 t11 t12 t13 t14 H=>kR t10 t11 t12 t13 t14 H)
theorem g16_p8_lin {R S:Type} {k:S→Option R} {t0:Sl} {t1:Sl} {t2:Int} {t3_0:Int} {t3_1:Bool} {t3_2:Int} {t3_3:Sl} {t4:Int} {H:Heap} {fkR:Sl→Sl→ByteArray→Bool→Int→Heap→Option R} {gkR:Sl→Sl→ByteArray→Bool→Int→Heap→Option S} (hkR:∀ t10 t11 t12 t13 t14 H,fkR t10 t11 t12 t13 t14 H = (gkR t10 t11 t12 t13 t14 H).bind k):g16_p8 R t0 t1 t2 t3_0 t3_1 t3_2 t3_3 t4 H fkR = (g16_p8 S t0 t1 t2 t3_0 t3_1 t3_2 t3_3 t4 H gkR).bind k:=by
  exact g16_p0_lin (fun _ _ _ _ _ _ _ _ _ _ _=>g16_p7_lin (fun _ _ _ _ _ _=>hkR _ _ _ _ _ _)) (fun _ _ _ _ _ _=>hkR _ _ _ _ _ _)
theorem g16_p8_eq {R:Type} (t0:Sl) (t1:Sl) (t2:Int) (t3_0:Int) (t3_1:Bool) (t3_2:Int) (t3_3:Sl) (t4:Int) (H:Heap) (K:Ex→Fr→Heap→Option R):ev2 Try.prog E16 loopLim lv16 Try.f16.ntmps kp16 c16_6 [(0,(V.sl t0)),(1,(V.sl t1)),(2,(V.i .u16 t2)),(3,(V.agg [(V.i .u32 t3_0),(V.b t3_1),(V.i .u8 t3_2),(V.sl t3_3)])),(4,(V.i .i64 t4))] H K = g16_p8 R t0 t1 t2 t3_0 t3_1 t3_2 t3_3 t4 H (fun t10 t11 t12 t13 t14 H=>K .ret [(10,(V.sl t10)),(11,(V.sl t11)),(12,(V.s t12)),(13,(V.b t13)),(14,(V.i .i64 t14))] H):=by
  delta c16_6
  delta g16_p8
  exact (g16_p0_eq _ t0 t1 t2 t3_0 t3_1 t3_2 t3_3 t4 H K).trans (congr (congrArg (g16_p0 R t0 t1 t2 t3_0 t3_1 t3_2 t3_3 t4 H) (funext fun t0=>funext fun t1=>funext fun t2=>funext fun t4=>funext fun t15=>funext fun t16=>funext fun t500008_0=>funext fun t500008_1=>funext fun t500008_2=>funext fun t500008_3=>funext fun H=>g16_p7_eq t0 t1 t2 t4 t15 t16 t500008_0 t500008_1 t500008_2 t500008_3 H K)) rfl)
noncomputable def g16_r:T16:=fun R t0 t1 t2 t3_0 t3_1 t3_2 t3_3 t4 H K =>
  g16_p8 R t0 t1 t2 t3_0 t3_1 t3_2 t3_3 t4 H (fun t10 t11 t12 t13 t14 H =>
    K t10 t11 t12 t13 t14 H)
theorem g16_r_lin:Lin16 (g16_r):=by
  constructor
  intro R S k t0 t1 t2 t3_0 t3_1 t3_2 t3_3 t4 H f g h
  exact g16_p8_lin (fun t10 t11 t12 t13 t14 H =>
    h _ _ _ _ _ _)
theorem g16_fn {R:Type} (t0:Sl) (t1:Sl) (t2:Int) (t3_0:Int) (t3_1:Bool) (t3_2:Int) (t3_3:Sl) (t4:Int) (H:Heap) (K:V→Heap→Option R):evFn2 Try.prog E16 loopLim lv16 Try.f16 kp16 [(V.sl t0),(V.sl t1),(V.i .u16 t2),(V.agg [(V.i .u32 t3_0),(V.b t3_1),(V.i .u8 t3_2),(V.sl t3_3)]),(V.i .i64 t4)] H K = g16_r R t0 t1 t2 t3_0 t3_1 t3_2 t3_3 t4 H (fun r0 r1 r2 r3 r4 H=>K (V.tup [(V.sl r0),(V.sl r1),(V.s r2),(V.b r3),(V.i .i64 r4)]) H):=by
  have h0 : ∀ (t10 : Sl) (t11 : Sl) (t12 : ByteArray) (t13 : Bool) (t14 : Int) (H : Heap), kFn2 Try.prog Try.f16.results.toList K .ret [(10, (V.sl t10)), (11, (V.sl t11)), (12, (V.s t12)), (13, (V.b t13)), (14, (V.i .i64 t14))] H =
      K (V.tup [(V.sl t10),(V.sl t11),(V.s t12),(V.b t13),(V.i .i64 t14)]) H:=by intros; kernel_rfl
  have e0:=evFn2_code2 (P:=Try.prog) (c:=c16_6) (E:=E16) (lr:=loopLim) (lv:=lv16) (kp:=kp16) (fn:=Try.f16) (args:=[(V.sl t0),(V.sl t1),(V.i .u16 t2),(V.agg [(V.i .u32 t3_0),(V.b t3_1),(V.i .u8 t3_2),(V.sl t3_3)]),(V.i .i64 t4)]) H K (by kernel_rfl) (Nat.le_of_ble_eq_true (by kernel_rfl)) (by kernel_rfl) (by kernel_rfl)
  have e1:ev2 Try.prog E16 loopLim lv16 Try.f16.ntmps kp16 c16_6 (argFr 0 [(V.sl t0),(V.sl t1),(V.i .u16 t2),(V.agg [(V.i .u32 t3_0),(V.b t3_1),(V.i .u8 t3_2),(V.sl t3_3)]),(V.i .i64 t4)]) H (kFn2 Try.prog Try.f16.results.toList K) = ev2 Try.prog E16 loopLim lv16 Try.f16.ntmps kp16 c16_6 [(0,(V.sl t0)),(1,(V.sl t1)),(2,(V.i .u16 t2)),(3,(V.agg [(V.i .u32 t3_0),(V.b t3_1),(V.i .u8 t3_2),(V.sl t3_3)])),(4,(V.i .i64 t4))] H (kFn2 Try.prog Try.f16.results.toList K):=by kernel_rfl
  refine (e0.trans e1).trans ?_
  delta g16_r
  exact (g16_p8_eq t0 t1 t2 t3_0 t3_1 t3_2 t3_3 t4 H (kFn2 Try.prog Try.f16.results.toList K)).trans (congrArg (g16_p8 R t0 t1 t2 t3_0 t3_1 t3_2 t3_3 t4 H) (funext fun t10=>funext fun t11=>funext fun t12=>funext fun t13=>funext fun t14=>funext fun H=>h0 t10 t11 t12 t13 t14 H))
theorem g16_ok:FunOK Try.prog 16 (w16 (g16_r)):=by
  refine (runF2_ok (E16_good) mixed lim_ok Try.func16 (by kernel_rfl) lv16 kp16).of_le fun R args H K r hk=>?_
  unfold w16 at hk
  split at hk
  · exact (g16_fn _ _ _ _ _ _ _ _ H K).trans hk
  · cases hk
noncomputable def g16:T16:=g16_r
theorem g16_lin:Lin16 g16:=g16_r_lin
theorem ok16:FunOK Try.prog 16 (w16 g16):=g16_ok
end Go.Proofs.Ytobebcfkddimkaa

