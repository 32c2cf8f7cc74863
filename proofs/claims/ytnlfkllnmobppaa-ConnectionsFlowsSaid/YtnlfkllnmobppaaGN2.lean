/- Printed: functions as the machine runs them. -/
import Derived.Test.YtnlfkllnmobppaaGN1
namespace Go.Proofs.Ytnlfkllnmobppaa
open Go AM Go.RowKit
set_option linter.unusedVariables false
def kp25:Nat→Option (List Nat):=kpOf [(0,[0,1,5,500005,1000005]),(1,[0,1,5,9,500005,1000005]),(2,[6]),(3,[0,1,5,13,500005,1000005]),(4,[6]),(5,[0,1,5,7,500005,1000005]),(6,[0,1,5,7,19,500005,1000005]),(7,[6]),(8,[0,1,5,23,500005,1000005]),(9,[]),(10,[6]),(11,[0,1,5,8,500005,1000005]),(12,[0,1,5,8,33,500005,1000005]),(13,[0,5,8,500005,1000005]),(14,[]),(15,[6]),(16,[0,1,5,47,500005,1000005]),(17,[0,1,5,47,48,500005,1000005]),(18,[0,1,5,47,48,500005,1000005]),(19,[0,1,5,47,48,500005,1000005]),(20,[0,1,5,47,48,500005,1000005]),(21,[]),(22,[0,1,5,69,500005,1000005]),(23,[]),(24,[6]),(100000,[0,1,5,500005,1000005]),(100001,[]),(200000,[0,1,5,500005,1000005]),(200001,[0,1,5,47,500005,1000005]),(300000,[6]),(400009,[0,1,5,500005,1000005]),(400013,[0,1,5,500005,1000005]),(400019,[0,1,5,500005,1000005]),(400023,[0,1,5,500005,1000005]),(400033,[0,1,5,500005,1000005]),(400048,[0,1,5,47,48,500005,1000005]),(400069,[])]
noncomputable def E25:FEnv:=[(37,w37 g37),(12,w12 g12),(42,w42 g42),(43,w43 g43),(44,w44 g44),(57,w57 g57),(58,w58 g58),(59,w59 g59),(60,w60 g60),(61,w61 g61),(62,w62 g62)]
theorem E25_good:EnvGood Try.prog (E25):=((((((((((((EnvGood.nil _).cons ok62 (w62_lin g62_lin)).cons ok61 (w61_lin g61_lin)).cons ok60 (w60_lin g60_lin)).cons ok59 (w59_lin g59_lin)).cons ok58 (w58_lin g58_lin)).cons ok57 (w57_lin g57_lin)).cons ok44 (w44_lin g44_lin)).cons ok43 (w43_lin g43_lin)).cons ok42 (w42_lin g42_lin)).cons ok12 (w12_lin g12_lin)).cons ok37 (w37_lin g37_lin))
theorem E25_lin:EnvLin (E25):=by
  intro g F h
  simp only [E25,List.mem_cons,List.not_mem_nil,or_false] at h
  rcases h with h | h | h | h | h | h | h | h | h | h | h
  · cases h; exact w37_lin g37_lin
  · cases h; exact w12_lin g12_lin
  · cases h; exact w42_lin g42_lin
  · cases h; exact w43_lin g43_lin
  · cases h; exact w44_lin g44_lin
  · cases h; exact w57_lin g57_lin
  · cases h; exact w58_lin g58_lin
  · cases h; exact w59_lin g59_lin
  · cases h; exact w60_lin g60_lin
  · cases h; exact w61_lin g61_lin
  · cases h; exact w62_lin g62_lin
def lv25:Nat→Bool:=lvOf [5]
noncomputable def b25:Code:=Try.f25.body.getD .skip
noncomputable def c25_0:Code:=(.cond (.tmp 48) (codeAt [1,1,1,1,1,1,0,1,0,1,0] b25) (.seq (codeAt [1,1,1,1,1,1,0,1,0,1,1,0] b25) (.cond (.tmp 69) (codeAt [1,1,1,1,1,1,0,1,0,1,1,1,0] b25) .skip)))
noncomputable def c25_1:Code:=(.seq (codeAt [1,1,1,1,1,1,0,1,0,0,0] b25) (.seq (.cond (.tmp 48) .skip (.seq (codeAt [1,1,1,1,1,1,0,1,0,0,1,1,0] b25) (.cond (.tmp 48) .skip (.seq (codeAt [1,1,1,1,1,1,0,1,0,0,1,1,1,1,0] b25) (.cond (.tmp 48) .skip (codeAt [1,1,1,1,1,1,0,1,0,0,1,1,1,1,1,1] b25)))))) c25_0))
noncomputable def c25_2:Code:=(.block 1 c25_1)
noncomputable def c25_3:Code:=(.seq (codeAt [1,1,1,1,1,1,1,0] b25) .ret)
noncomputable def c25_4:Code:=(.seq c25_2 c25_3)
noncomputable def c25_5:Code:=(.seq (codeAt [0] b25) (.seq (.block 0 (.seq (codeAt [1,0,0,0] b25) (.cond (.tmp 9) (.seq (codeAt [1,0,0,1,0,0] b25) .ret) (.seq (codeAt [1,0,0,1,1,0] b25) (.cond (.tmp 13) (.seq (codeAt [1,0,0,1,1,1,0,0] b25) .ret) .skip))))) (.seq (codeAt [1,1,0,0] b25) (.seq (codeAt [1,1,0,1,0] b25) (.seq (.cond (.tmp 19) (.seq (codeAt [1,1,0,1,1,0,0] b25) .ret) .skip) (.seq (codeAt [1,1,1,0,0] b25) (.seq (.cond (.tmp 23) (.seq (codeAt [1,1,1,0,1,0,0] b25) (.seq (codeAt [1,1,1,0,1,0,1,0] b25) .ret)) .skip) (.seq (codeAt [1,1,1,1,0] b25) (.seq (codeAt [1,1,1,1,1,0,0] b25) (.seq (.cond (.tmp 33) (.seq (codeAt [1,1,1,1,1,0,1,0,0] b25) (.seq (codeAt [1,1,1,1,1,0,1,0,1,0] b25) (.seq (codeAt [1,1,1,1,1,0,1,0,1,1,0] b25) .ret))) .skip) (.seq (codeAt [1,1,1,1,1,1,0,0] b25) c25_4)))))))))))
noncomputable def g25_p0 (R:Type) (t0:Option (Nat × Nat)) (t1:Int) (t2_0:Int) (t2_1:Int) (t2_2:Int) (t2_3:Int) (t2_4:Int) (t2_5:Int) (t2_6:Int) (t2_7:Sl) (H:Heap) (kN:Option (Nat × Nat)→Int→Int→Int→Int→Int→Int→Int→Int→Int→Sl→Heap→Option R) (kR:Int→Heap→Option R):Option R :=
  g37 R t0 H fun x164 h165 =>
  sel (!x164) (
    kR (2:Int) h165) (
    sel (decide (t1 > (16383:Int))) (
      kR (1:Int) h165) (
      g12 R t2_0 t2_1 t2_2 t2_3 t2_4 t2_5 t2_6 t2_7 h165 fun x166 h167 =>
      sel (x166 != (0:Int)) (
        kR x166 h167) (
        sel (t2_0 == (1:Int)) (
          g42 R t0 t1 t2_0 t2_1 t2_2 t2_3 t2_4 t2_5 t2_6 t2_7 h167 fun h168 =>
          kR (0:Int) h168) (
          g43 R t0 t1 t2_0 t2_1 t2_2 t2_3 t2_4 t2_5 t2_6 t2_7 h167 fun x169 h170 =>
          sel (!(Option.isNone x169)) (
            (x169).bind fun q171 =>
            ((h170).st q171.1 ((q171.2 + 5) + 1) (V.i .i64 (0:Int))).bind fun h173 =>
            g44 R h173 fun x174 h175 =>
            ((getMap h175 x174)).bind fun m176 =>
            ((findE Try.prog 22 (V.i .u8 t2_0) m176.1 0)).bind fun q177 =>
            fnd q177 (fun j178 x179 =>
              if (V.one x179) = true then (
                callV (E25) x179 [(V.p t0),(V.p x169),(V.agg [(V.i .u8 t2_0),(V.i .u32 t2_1),(V.i .u32 t2_2),(V.i .u8 t2_3),(V.i .u8 t2_4),(V.i .u8 t2_5),(V.i .u8 t2_6),(V.sl t2_7)])] h175 fun x180 h181 =>
                exR Try.prog 0 x180 fun x182 =>
                kR (0:Int) h181)
              else (
                none)) (
              none)) (
            kN t0 t1 t2_0 t2_0 t2_1 t2_2 t2_3 t2_4 t2_5 t2_6 t2_7 h170)))))
theorem g25_p0_eq {R:Type} (c2:Code) (t0:Option (Nat × Nat)) (t1:Int) (t2_0:Int) (t2_1:Int) (t2_2:Int) (t2_3:Int) (t2_4:Int) (t2_5:Int) (t2_6:Int) (t2_7:Sl) (H:Heap) (K:Ex→Fr→Heap→Option R):ev2 Try.prog (E25) loopLim lv25 Try.f25.ntmps kp25 (.seq (codeAt [0] b25) (.seq (.block 0 (.seq (codeAt [1,0,0,0] b25) (.cond (.tmp 9) (.seq (codeAt [1,0,0,1,0,0] b25) .ret) (.seq (codeAt [1,0,0,1,1,0] b25) (.cond (.tmp 13) (.seq (codeAt [1,0,0,1,1,1,0,0] b25) .ret) .skip))))) (.seq (codeAt [1,1,0,0] b25) (.seq (codeAt [1,1,0,1,0] b25) (.seq (.cond (.tmp 19) (.seq (codeAt [1,1,0,1,1,0,0] b25) .ret) .skip) (.seq (codeAt [1,1,1,0,0] b25) (.seq (.cond (.tmp 23) (.seq (codeAt [1,1,1,0,1,0,0] b25) (.seq (codeAt [1,1,1,0,1,0,1,0] b25) .ret)) .skip) (.seq (codeAt [1,1,1,1,0] b25) (.seq (codeAt [1,1,1,1,1,0,0] b25) (.seq (.cond (.tmp 33) (.seq (codeAt [1,1,1,1,1,0,1,0,0] b25) (.seq (codeAt [1,1,1,1,1,0,1,0,1,0] b25) (.seq (codeAt [1,1,1,1,1,0,1,0,1,1,0] b25) .ret))) .skip) (.seq (codeAt [1,1,1,1,1,1,0,0] b25) c2))))))))))) [(0,(V.p t0)),(1,(V.i .u16 t1)),(2,(V.agg [(V.i .u8 t2_0),(V.i .u32 t2_1),(V.i .u32 t2_2),(V.i .u8 t2_3),(V.i .u8 t2_4),(V.i .u8 t2_5),(V.i .u8 t2_6),(V.sl t2_7)]))] H K = g25_p0 R t0 t1 t2_0 t2_1 t2_2 t2_3 t2_4 t2_5 t2_6 t2_7 H (fun t0 t1 t47 t500005_0 t500005_1 t500005_2 t500005_3 t500005_4 t500005_5 t500005_6 t500005_7 H=>ev2 Try.prog (E25) loopLim lv25 Try.f25.ntmps kp25 c2 [(0,(V.p t0)),(1,(V.i .u16 t1)),(47,(V.i .u8 t47)),(500005,(V.agg [(V.i .u8 t500005_0),(V.i .u32 t500005_1),(V.i .u32 t500005_2),(V.i .u8 t500005_3),(V.i .u8 t500005_4),(V.i .u8 t500005_5),(V.i .u8 t500005_6),(V.sl t500005_7)])),(1000005,(V.p (some (5,0))))] H K) (fun t6 H=>K .ret [(6,(V.i .i64 t6))] H):=by kernel_rfl
theorem g25_p0_lin {R S:Type} {k:S→Option R} {t0:Option (Nat × Nat)} {t1:Int} {t2_0:Int} {t2_1:Int} {t2_2:Int} {t2_3:Int} {t2_4:Int} {t2_5:Int} {t2_6:Int} {t2_7:Sl} {H:Heap} {fkN:Option (Nat × Nat)→Int→Int→Int→Int→Int→Int→Int→Int→Int→Sl→Heap→Option R} {gkN:Option (Nat × Nat)→Int→Int→Int→Int→Int→Int→Int→Int→Int→Sl→Heap→Option S} {fkR:Int→Heap→Option R} {gkR:Int→Heap→Option S} (hkN:∀ t0 t1 t47 t500005_0 t500005_1 t500005_2 t500005_3 t500005_4 t500005_5 t500005_6 t500005_7 H,fkN t0 t1 t47 t500005_0 t500005_1 t500005_2 t500005_3 t500005_4 t500005_5 t500005_6 t500005_7 H = (gkN t0 t1 t47 t500005_0 t500005_1 t500005_2 t500005_3 t500005_4 t500005_5 t500005_6 t500005_7 H).bind k) (hkR:∀ t6 H,fkR t6 H = (gkR t6 H).bind k):g25_p0 R t0 t1 t2_0 t2_1 t2_2 t2_3 t2_4 t2_5 t2_6 t2_7 H fkN fkR = (g25_p0 S t0 t1 t2_0 t2_1 t2_2 t2_3 t2_4 t2_5 t2_6 t2_7 H gkN gkR).bind k:=by
  delta g25_p0
  repeat' (first | with_reducible (first | exact hkR _ _ | exact hkN _ _ _ _ _ _ _ _ _ _ _ _ | refine g37_lin.l fun _ _=>?_ | refine sl_lin ?_ ?_ | refine g12_lin.l fun _ _=>?_ | refine g42_lin.l fun _=>?_ | refine g43_lin.l fun _ _=>?_ | refine g44_lin.l fun _ _=>?_ | refine fnd_lin (fun _ _=>?_) ?_ | refine il ?_ ?_ | refine callV_lin (E25_lin) fun _ _=>?_ | refine exR_lin fun _=>?_ | refine bl fun _=>?_) | exact (rfl:(none:Option R) = (none:Option S).bind k))
noncomputable def g25_p1 (R:Type) (t0:Option (Nat × Nat)) (t1:Int) (t47:Int) (t500005_0:Int) (t500005_1:Int) (t500005_2:Int) (t500005_3:Int) (t500005_4:Int) (t500005_5:Int) (t500005_6:Int) (t500005_7:Sl) (H:Heap) (kN:Option (Nat × Nat)→Int→Int→Bool→Int→Int→Int→Int→Int→Int→Int→Sl→Heap→Option R):Option R :=
  sel (t47 == (2:Int)) (
    kN t0 t1 t47 (t47 == (2:Int)) t500005_0 t500005_1 t500005_2 t500005_3 t500005_4 t500005_5 t500005_6 t500005_7 H) (
    sel (t47 == (4:Int)) (
      kN t0 t1 t47 (t47 == (4:Int)) t500005_0 t500005_1 t500005_2 t500005_3 t500005_4 t500005_5 t500005_6 t500005_7 H) (
      sel (t47 == (5:Int)) (
        kN t0 t1 t47 (t47 == (5:Int)) t500005_0 t500005_1 t500005_2 t500005_3 t500005_4 t500005_5 t500005_6 t500005_7 H) (
        kN t0 t1 t47 (t47 == (6:Int)) t500005_0 t500005_1 t500005_2 t500005_3 t500005_4 t500005_5 t500005_6 t500005_7 H)))
theorem g25_p1_eq {R:Type} (c2:Code) (t0:Option (Nat × Nat)) (t1:Int) (t47:Int) (t500005_0:Int) (t500005_1:Int) (t500005_2:Int) (t500005_3:Int) (t500005_4:Int) (t500005_5:Int) (t500005_6:Int) (t500005_7:Sl) (H:Heap) (K:Ex→Fr→Heap→Option R):ev2 Try.prog (E25) loopLim lv25 Try.f25.ntmps kp25 (.seq (codeAt [1,1,1,1,1,1,0,1,0,0,0] b25) (.seq (.cond (.tmp 48) .skip (.seq (codeAt [1,1,1,1,1,1,0,1,0,0,1,1,0] b25) (.cond (.tmp 48) .skip (.seq (codeAt [1,1,1,1,1,1,0,1,0,0,1,1,1,1,0] b25) (.cond (.tmp 48) .skip (codeAt [1,1,1,1,1,1,0,1,0,0,1,1,1,1,1,1] b25)))))) c2)) [(0,(V.p t0)),(1,(V.i .u16 t1)),(47,(V.i .u8 t47)),(500005,(V.agg [(V.i .u8 t500005_0),(V.i .u32 t500005_1),(V.i .u32 t500005_2),(V.i .u8 t500005_3),(V.i .u8 t500005_4),(V.i .u8 t500005_5),(V.i .u8 t500005_6),(V.sl t500005_7)])),(1000005,(V.p (some (5,0))))] H K = g25_p1 R t0 t1 t47 t500005_0 t500005_1 t500005_2 t500005_3 t500005_4 t500005_5 t500005_6 t500005_7 H (fun t0 t1 t47 t48 t500005_0 t500005_1 t500005_2 t500005_3 t500005_4 t500005_5 t500005_6 t500005_7 H=>ev2 Try.prog (E25) loopLim lv25 Try.f25.ntmps kp25 c2 [(0,(V.p t0)),(1,(V.i .u16 t1)),(47,(V.i .u8 t47)),(48,(V.b t48)),(500005,(V.agg [(V.i .u8 t500005_0),(V.i .u32 t500005_1),(V.i .u32 t500005_2),(V.i .u8 t500005_3),(V.i .u8 t500005_4),(V.i .u8 t500005_5),(V.i .u8 t500005_6),(V.sl t500005_7)])),(1000005,(V.p (some (5,0))))] H K):=by kernel_rfl
theorem g25_p1_lin {R S:Type} {k:S→Option R} {t0:Option (Nat × Nat)} {t1:Int} {t47:Int} {t500005_0:Int} {t500005_1:Int} {t500005_2:Int} {t500005_3:Int} {t500005_4:Int} {t500005_5:Int} {t500005_6:Int} {t500005_7:Sl} {H:Heap} {fkN:Option (Nat × Nat)→Int→Int→Bool→Int→Int→Int→Int→Int→Int→Int→Sl→Heap→Option R} {gkN:Option (Nat × Nat)→Int→Int→Bool→Int→Int→Int→Int→Int→Int→Int→Sl→Heap→Option S} (hkN:∀ t0 t1 t47 t48 t500005_0 t500005_1 t500005_2 t500005_3 t500005_4 t500005_5 t500005_6 t500005_7 H,fkN t0 t1 t47 t48 t500005_0 t500005_1 t500005_2 t500005_3 t500005_4 t500005_5 t500005_6 t500005_7 H = (gkN t0 t1 t47 t48 t500005_0 t500005_1 t500005_2 t500005_3 t500005_4 t500005_5 t500005_6 t500005_7 H).bind k):g25_p1 R t0 t1 t47 t500005_0 t500005_1 t500005_2 t500005_3 t500005_4 t500005_5 t500005_6 t500005_7 H fkN = (g25_p1 S t0 t1 t47 t500005_0 t500005_1 t500005_2 t500005_3 t500005_4 t500005_5 t500005_6 t500005_7 H gkN).bind k:=by
  delta g25_p1; exact (
    sl_lin (
      hkN _ _ _ _ _ _ _ _ _ _ _ _ _) (
      sl_lin (
        hkN _ _ _ _ _ _ _ _ _ _ _ _ _) (
        sl_lin (
          hkN _ _ _ _ _ _ _ _ _ _ _ _ _) (
          hkN _ _ _ _ _ _ _ _ _ _ _ _ _))))
noncomputable def g25_p2 (R:Type) (t0:Option (Nat × Nat)) (t1:Int) (t47:Int) (t48:Bool) (t500005_0:Int) (t500005_1:Int) (t500005_2:Int) (t500005_3:Int) (t500005_4:Int) (t500005_5:Int) (t500005_6:Int) (t500005_7:Sl) (H:Heap) (kN:Heap→Option R):Option R :=
  sel t48 (
    (t0).bind fun q642 =>
    ((H).ldSl q642.1 (q642.2 + 7)).bind fun x643 =>
    alo H (.cells [(V.i .u16 t1),(V.i .u8 (7:Int)),(V.i .u32 t500005_2),(V.i .u32 t500005_1),(V.i .u8 (0:Int)),(V.i .u8 (0:Int)),(V.i .u8 (0:Int)),(V.i .u8 (4:Int)),(V.sl (Sl.mk none 0 (.ex 0)))] 71 false) fun i644 h645 =>
    ((h645).ldSl q642.1 (q642.2 + 7)).bind fun x646 =>
    if V.same (V.sl x643) (V.sl x646) = true then (
      ((slCells h645 9 (Sl.mk (some (i644,0)) 1 (.ex 1)))).bind fun vs649 =>
      appendV h645 71 9 48 x643 (Sl.mk (some (i644,0)) 1 (.ex 1)).len vs649 fun s647 h648 =>
      (t0).bind fun q650 =>
      ((h648).st q650.1 (q650.2 + 7) (V.sl s647)).bind fun h652 =>
      kN h652)
    else (
      none)) (
    sel (t47 == (7:Int)) (
      (t0).bind fun q653 =>
      ((H).ldSl q653.1 (q653.2 + 7)).bind fun x654 =>
      alo H (.cells [(V.i .u16 t1),(V.i .u8 (8:Int)),(V.i .u32 t500005_2),(V.i .u32 t500005_1),(V.i .u8 (0:Int)),(V.i .u8 (0:Int)),(V.i .u8 (0:Int)),(V.i .u8 (0:Int)),(V.sl (Sl.mk none 0 (.ex 0)))] 71 false) fun i655 h656 =>
      ((h656).ldSl q653.1 (q653.2 + 7)).bind fun x657 =>
      if V.same (V.sl x654) (V.sl x657) = true then (
        ((slCells h656 9 (Sl.mk (some (i655,0)) 1 (.ex 1)))).bind fun vs660 =>
        appendV h656 71 9 48 x654 (Sl.mk (some (i655,0)) 1 (.ex 1)).len vs660 fun s658 h659 =>
        (t0).bind fun q661 =>
        ((h659).st q661.1 (q661.2 + 7) (V.sl s658)).bind fun h663 =>
        kN h663)
      else (
        none)) (
      kN H))
theorem g25_p2_eq {R:Type} (t0:Option (Nat × Nat)) (t1:Int) (t47:Int) (t48:Bool) (t500005_0:Int) (t500005_1:Int) (t500005_2:Int) (t500005_3:Int) (t500005_4:Int) (t500005_5:Int) (t500005_6:Int) (t500005_7:Sl) (H:Heap) (K:Ex→Fr→Heap→Option R):ev2 Try.prog (E25) loopLim lv25 Try.f25.ntmps kp25 c25_0 [(0,(V.p t0)),(1,(V.i .u16 t1)),(47,(V.i .u8 t47)),(48,(V.b t48)),(500005,(V.agg [(V.i .u8 t500005_0),(V.i .u32 t500005_1),(V.i .u32 t500005_2),(V.i .u8 t500005_3),(V.i .u8 t500005_4),(V.i .u8 t500005_5),(V.i .u8 t500005_6),(V.sl t500005_7)])),(1000005,(V.p (some (5,0))))] H K = g25_p2 R t0 t1 t47 t48 t500005_0 t500005_1 t500005_2 t500005_3 t500005_4 t500005_5 t500005_6 t500005_7 H (fun H=>K .normal [] H):=by kernel_rfl
theorem g25_p2_lin {R S:Type} {k:S→Option R} {t0:Option (Nat × Nat)} {t1:Int} {t47:Int} {t48:Bool} {t500005_0:Int} {t500005_1:Int} {t500005_2:Int} {t500005_3:Int} {t500005_4:Int} {t500005_5:Int} {t500005_6:Int} {t500005_7:Sl} {H:Heap} {fkN:Heap→Option R} {gkN:Heap→Option S} (hkN:∀ H,fkN H = (gkN H).bind k):g25_p2 R t0 t1 t47 t48 t500005_0 t500005_1 t500005_2 t500005_3 t500005_4 t500005_5 t500005_6 t500005_7 H fkN = (g25_p2 S t0 t1 t47 t48 t500005_0 t500005_1 t500005_2 t500005_3 t500005_4 t500005_5 t500005_6 t500005_7 H gkN).bind k:=by
  delta g25_p2
  repeat' (first | with_reducible (first | exact hkN _ | refine sl_lin ?_ ?_ | refine alo_lin fun _ _=>?_ | refine il ?_ ?_ | refine appendV_lin fun _ _=>?_ | refine bl fun _=>?_) | exact (rfl:(none:Option R) = (none:Option S).bind k))
noncomputable def g25_p3 (R:Type) (t0:Option (Nat × Nat)) (t1:Int) (t47:Int) (t500005_0:Int) (t500005_1:Int) (t500005_2:Int) (t500005_3:Int) (t500005_4:Int) (t500005_5:Int) (t500005_6:Int) (t500005_7:Sl) (H:Heap) (kN:Heap→Option R):Option R :=
  g25_p1 R t0 t1 t47 t500005_0 t500005_1 t500005_2 t500005_3 t500005_4 t500005_5 t500005_6 t500005_7 H (fun t0 t1 t47 t48 t500005_0 t500005_1 t500005_2 t500005_3 t500005_4 t500005_5 t500005_6 t500005_7 H=>g25_p2 R t0 t1 t47 t48 t500005_0 t500005_1 t500005_2 t500005_3 t500005_4 t500005_5 t500005_6 t500005_7 H (fun H=>kN  H))
theorem g25_p3_lin {R S:Type} {k:S→Option R} {t0:Option (Nat × Nat)} {t1:Int} {t47:Int} {t500005_0:Int} {t500005_1:Int} {t500005_2:Int} {t500005_3:Int} {t500005_4:Int} {t500005_5:Int} {t500005_6:Int} {t500005_7:Sl} {H:Heap} {fkN:Heap→Option R} {gkN:Heap→Option S} (hkN:∀ H,fkN H = (gkN H).bind k):g25_p3 R t0 t1 t47 t500005_0 t500005_1 t500005_2 t500005_3 t500005_4 t500005_5 t500005_6 t500005_7 H fkN = (g25_p3 S t0 t1 t47 t500005_0 t500005_1 t500005_2 t500005_3 t500005_4 t500005_5 t500005_6 t500005_7 H gkN).bind k:=by
  exact g25_p1_lin (fun _ _ _ _ _ _ _ _ _ _ _ _ _=>g25_p2_lin (fun _=>hkN _))
theorem g25_p3_eq {R:Type} (t0:Option (Nat × Nat)) (t1:Int) (t47:Int) (t500005_0:Int) (t500005_1:Int) (t500005_2:Int) (t500005_3:Int) (t500005_4:Int) (t500005_5:Int) (t500005_6:Int) (t500005_7:Sl) (H:Heap) (K:Ex→Fr→Heap→Option R):ev2 Try.prog (E25) loopLim lv25 Try.f25.ntmps kp25 c25_1 [(0,(V.p t0)),(1,(V.i .u16 t1)),(47,(V.i .u8 t47)),(500005,(V.agg [(V.i .u8 t500005_0),(V.i .u32 t500005_1),(V.i .u32 t500005_2),(V.i .u8 t500005_3),(V.i .u8 t500005_4),(V.i .u8 t500005_5),(V.i .u8 t500005_6),(V.sl t500005_7)])),(1000005,(V.p (some (5,0))))] H K = g25_p3 R t0 t1 t47 t500005_0 t500005_1 t500005_2 t500005_3 t500005_4 t500005_5 t500005_6 t500005_7 H (fun H=>K .normal [] H):=by
  delta c25_1
  delta g25_p3
  exact (g25_p1_eq _ t0 t1 t47 t500005_0 t500005_1 t500005_2 t500005_3 t500005_4 t500005_5 t500005_6 t500005_7 H K).trans (congrArg (g25_p1 R t0 t1 t47 t500005_0 t500005_1 t500005_2 t500005_3 t500005_4 t500005_5 t500005_6 t500005_7 H) (funext fun t0=>funext fun t1=>funext fun t47=>funext fun t48=>funext fun t500005_0=>funext fun t500005_1=>funext fun t500005_2=>funext fun t500005_3=>funext fun t500005_4=>funext fun t500005_5=>funext fun t500005_6=>funext fun t500005_7=>funext fun H=>g25_p2_eq t0 t1 t47 t48 t500005_0 t500005_1 t500005_2 t500005_3 t500005_4 t500005_5 t500005_6 t500005_7 H K))
noncomputable def g25_p4 (R:Type) (t0:Option (Nat × Nat)) (t1:Int) (t47:Int) (t500005_0:Int) (t500005_1:Int) (t500005_2:Int) (t500005_3:Int) (t500005_4:Int) (t500005_5:Int) (t500005_6:Int) (t500005_7:Sl) (H:Heap) (kN:Heap→Option R):Option R :=
  g25_p3 R t0 t1 t47 t500005_0 t500005_1 t500005_2 t500005_3 t500005_4 t500005_5 t500005_6 t500005_7 H (fun H=>kN  H)
theorem g25_p4_lin {R S:Type} {k:S→Option R} {t0:Option (Nat × Nat)} {t1:Int} {t47:Int} {t500005_0:Int} {t500005_1:Int} {t500005_2:Int} {t500005_3:Int} {t500005_4:Int} {t500005_5:Int} {t500005_6:Int} {t500005_7:Sl} {H:Heap} {fkN:Heap→Option R} {gkN:Heap→Option S} (hkN:∀ H,fkN H = (gkN H).bind k):g25_p4 R t0 t1 t47 t500005_0 t500005_1 t500005_2 t500005_3 t500005_4 t500005_5 t500005_6 t500005_7 H fkN = (g25_p4 S t0 t1 t47 t500005_0 t500005_1 t500005_2 t500005_3 t500005_4 t500005_5 t500005_6 t500005_7 H gkN).bind k:=by
  exact g25_p3_lin (fun _=>hkN _)
theorem g25_p4_eq {R:Type} (t0:Option (Nat × Nat)) (t1:Int) (t47:Int) (t500005_0:Int) (t500005_1:Int) (t500005_2:Int) (t500005_3:Int) (t500005_4:Int) (t500005_5:Int) (t500005_6:Int) (t500005_7:Sl) (H:Heap) (K:Ex→Fr→Heap→Option R):ev2 Try.prog (E25) loopLim lv25 Try.f25.ntmps kp25 c25_2 [(0,(V.p t0)),(1,(V.i .u16 t1)),(47,(V.i .u8 t47)),(500005,(V.agg [(V.i .u8 t500005_0),(V.i .u32 t500005_1),(V.i .u32 t500005_2),(V.i .u8 t500005_3),(V.i .u8 t500005_4),(V.i .u8 t500005_5),(V.i .u8 t500005_6),(V.sl t500005_7)])),(1000005,(V.p (some (5,0))))] H K = g25_p4 R t0 t1 t47 t500005_0 t500005_1 t500005_2 t500005_3 t500005_4 t500005_5 t500005_6 t500005_7 H (fun H=>K .normal [] H):=by
  delta c25_2
  rw [ev2_block]
  delta g25_p4
  exact (g25_p3_eq t0 t1 t47 t500005_0 t500005_1 t500005_2 t500005_3 t500005_4 t500005_5 t500005_6 t500005_7 H (kBlock kp25 1 K))
noncomputable def g25_p5 (R:Type) (H:Heap) (kR:Int→Heap→Option R):Option R :=
  kR (0:Int) H
theorem g25_p5_eq {R:Type} (H:Heap) (K:Ex→Fr→Heap→Option R):ev2 Try.prog (E25) loopLim lv25 Try.f25.ntmps kp25 c25_3 [] H K = g25_p5 R H (fun t6 H=>K .ret [(6,(V.i .i64 t6))] H):=by kernel_rfl
theorem g25_p5_lin {R S:Type} {k:S→Option R} {H:Heap} {fkR:Int→Heap→Option R} {gkR:Int→Heap→Option S} (hkR:∀ t6 H,fkR t6 H = (gkR t6 H).bind k):g25_p5 R H fkR = (g25_p5 S H gkR).bind k:=by
  delta g25_p5; exact (
    hkR _ _)
noncomputable def g25_p6 (R:Type) (t0:Option (Nat × Nat)) (t1:Int) (t47:Int) (t500005_0:Int) (t500005_1:Int) (t500005_2:Int) (t500005_3:Int) (t500005_4:Int) (t500005_5:Int) (t500005_6:Int) (t500005_7:Sl) (H:Heap) (kR:Int→Heap→Option R):Option R :=
  g25_p4 R t0 t1 t47 t500005_0 t500005_1 t500005_2 t500005_3 t500005_4 t500005_5 t500005_6 t500005_7 H (fun H=>g25_p5 R H (fun t6 H=>kR t6 H))
theorem g25_p6_lin {R S:Type} {k:S→Option R} {t0:Option (Nat × Nat)} {t1:Int} {t47:Int} {t500005_0:Int} {t500005_1:Int} {t500005_2:Int} {t500005_3:Int} {t500005_4:Int} {t500005_5:Int} {t500005_6:Int} {t500005_7:Sl} {H:Heap} {fkR:Int→Heap→Option R} {gkR:Int→Heap→Option S} (hkR:∀ t6 H,fkR t6 H = (gkR t6 H).bind k):g25_p6 R t0 t1 t47 t500005_0 t500005_1 t500005_2 t500005_3 t500005_4 t500005_5 t500005_6 t500005_7 H fkR = (g25_p6 S t0 t1 t47 t500005_0 t500005_1 t500005_2 t500005_3 t500005_4 t500005_5 t500005_6 t500005_7 H gkR).bind k:=by
  exact g25_p4_lin (fun _=>g25_p5_lin (fun _ _=>hkR _ _))
theorem g25_p6_eq {R:Type} (t0:Option (Nat × Nat)) (t1:Int) (t47:Int) (t500005_0:Int) (t500005_1:Int) (t500005_2:Int) (t500005_3:Int) (t500005_4:Int) (t500005_5:Int) (t500005_6:Int) (t500005_7:Sl) (H:Heap) (K:Ex→Fr→Heap→Option R):ev2 Try.prog (E25) loopLim lv25 Try.f25.ntmps kp25 c25_4 [(0,(V.p t0)),(1,(V.i .u16 t1)),(47,(V.i .u8 t47)),(500005,(V.agg [(V.i .u8 t500005_0),(V.i .u32 t500005_1),(V.i .u32 t500005_2),(V.i .u8 t500005_3),(V.i .u8 t500005_4),(V.i .u8 t500005_5),(V.i .u8 t500005_6),(V.sl t500005_7)])),(1000005,(V.p (some (5,0))))] H K = g25_p6 R t0 t1 t47 t500005_0 t500005_1 t500005_2 t500005_3 t500005_4 t500005_5 t500005_6 t500005_7 H (fun t6 H=>K .ret [(6,(V.i .i64 t6))] H):=by
  delta c25_4
  rw [ev2_seq]
  delta g25_p6
  exact (g25_p4_eq t0 t1 t47 t500005_0 t500005_1 t500005_2 t500005_3 t500005_4 t500005_5 t500005_6 t500005_7 H (kSeq (fun fr H=>ev2 Try.prog (E25) loopLim lv25 Try.f25.ntmps kp25 c25_3 fr H K) K)).trans (congrArg (g25_p4 R t0 t1 t47 t500005_0 t500005_1 t500005_2 t500005_3 t500005_4 t500005_5 t500005_6 t500005_7 H) (funext fun H=>(kSeq_n _ _ _ _).trans (g25_p5_eq H K)))
noncomputable def g25_p7 (R:Type) (t0:Option (Nat × Nat)) (t1:Int) (t2_0:Int) (t2_1:Int) (t2_2:Int) (t2_3:Int) (t2_4:Int) (t2_5:Int) (t2_6:Int) (t2_7:Sl) (H:Heap) (kR:Int→Heap→Option R):Option R :=
  g25_p0 R t0 t1 t2_0 t2_1 t2_2 t2_3 t2_4 t2_5 t2_6 t2_7 H (fun t0 t1 t47 t500005_0 t500005_1 t500005_2 t500005_3 t500005_4 t500005_5 t500005_6 t500005_7 H=>g25_p6 R t0 t1 t47 t500005_0 t500005_1 t500005_2 t500005_3 t500005_4 t500005_5 t500005_6 t500005_7 H (fun t6 H=>kR t6 H)) (fun t6 H=>kR t6 H)
theorem g25_p7_lin {R S:Type} {k:S→Option R} {t0:Option (Nat × Nat)} {t1:Int} {t2_0:Int} {t2_1:Int} {t2_2:Int} {t2_3:Int} {t2_4:Int} {t2_5:Int} {t2_6:Int} {t2_7:Sl} {H:Heap} {fkR:Int→Heap→Option R} {gkR:Int→Heap→Option S} (hkR:∀ t6 H,fkR t6 H = (gkR t6 H).bind k):g25_p7 R t0 t1 t2_0 t2_1 t2_2 t2_3 t2_4 t2_5 t2_6 t2_7 H fkR = (g25_p7 S t0 t1 t2_0 t2_1 t2_2 t2_3 t2_4 t2_5 t2_6 t2_7 H gkR).bind k:=by
  exact g25_p0_lin (fun _ _ _ _ _ _ _ _ _ _ _ _=>g25_p6_lin (fun _ _=>hkR _ _)) (fun _ _=>hkR _ _)
theorem g25_p7_eq {R:Type} (t0:Option (Nat × Nat)) (t1:Int) (t2_0:Int) (t2_1:Int) (t2_2:Int) (t2_3:Int) (t2_4:Int) (t2_5:Int) (t2_6:Int) (t2_7:Sl) (H:Heap) (K:Ex→Fr→Heap→Option R):ev2 Try.prog (E25) loopLim lv25 Try.f25.ntmps kp25 c25_5 [(0,(V.p t0)),(1,(V.i .u16 t1)),(2,(V.agg [(V.i .u8 t2_0),(V.i .u32 t2_1),(V.i .u32 t2_2),(V.i .u8 t2_3),(V.i .u8 t2_4),(V.i .u8 t2_5),(V.i .u8 t2_6),(V.sl t2_7)]))] H K = g25_p7 R t0 t1 t2_0 t2_1 t2_2 t2_3 t2_4 t2_5 t2_6 t2_7 H (fun t6 H=>K .ret [(6,(V.i .i64 t6))] H):=by
  delta c25_5
  delta g25_p7
  exact (g25_p0_eq _ t0 t1 t2_0 t2_1 t2_2 t2_3 t2_4 t2_5 t2_6 t2_7 H K).trans (congr (congrArg (g25_p0 R t0 t1 t2_0 t2_1 t2_2 t2_3 t2_4 t2_5 t2_6 t2_7 H) (funext fun t0=>funext fun t1=>funext fun t47=>funext fun t500005_0=>funext fun t500005_1=>funext fun t500005_2=>funext fun t500005_3=>funext fun t500005_4=>funext fun t500005_5=>funext fun t500005_6=>funext fun t500005_7=>funext fun H=>g25_p6_eq t0 t1 t47 t500005_0 t500005_1 t500005_2 t500005_3 t500005_4 t500005_5 t500005_6 t500005_7 H K)) rfl)
noncomputable def g25_r:T25:=fun R t0 t1 t2_0 t2_1 t2_2 t2_3 t2_4 t2_5 t2_6 t2_7 H K =>
  g25_p7 R t0 t1 t2_0 t2_1 t2_2 t2_3 t2_4 t2_5 t2_6 t2_7 H (fun t6 H =>
    K t6 H)
theorem g25_r_lin:Lin25 (g25_r):=by
  constructor
  intro R S k t0 t1 t2_0 t2_1 t2_2 t2_3 t2_4 t2_5 t2_6 t2_7 H f g h
  exact g25_p7_lin (fun t6 H =>
    h _ _)
theorem g25_fn {R:Type} (t0:Option (Nat × Nat)) (t1:Int) (t2_0:Int) (t2_1:Int) (t2_2:Int) (t2_3:Int) (t2_4:Int) (t2_5:Int) (t2_6:Int) (t2_7:Sl) (H:Heap) (K:V→Heap→Option R):evFn2 Try.prog (E25) loopLim lv25 Try.f25 kp25 [(V.p t0),(V.i .u16 t1),(V.agg [(V.i .u8 t2_0),(V.i .u32 t2_1),(V.i .u32 t2_2),(V.i .u8 t2_3),(V.i .u8 t2_4),(V.i .u8 t2_5),(V.i .u8 t2_6),(V.sl t2_7)])] H K = g25_r R t0 t1 t2_0 t2_1 t2_2 t2_3 t2_4 t2_5 t2_6 t2_7 H (fun r0 H=>K (V.i .i64 r0) H):=by
  have h0 : ∀ (t6 : Int) (H : Heap), kFn2 Try.prog Try.f25.results.toList K .ret [(6, (V.i .i64 t6))] H =
      K (V.i .i64 t6) H:=by intros; kernel_rfl
  have e0:=evFn2_code2 (P:=Try.prog) (c:=c25_5) (E:=(E25)) (lr:=loopLim) (lv:=lv25) (kp:=kp25) (fn:=Try.f25) (args:=[(V.p t0),(V.i .u16 t1),(V.agg [(V.i .u8 t2_0),(V.i .u32 t2_1),(V.i .u32 t2_2),(V.i .u8 t2_3),(V.i .u8 t2_4),(V.i .u8 t2_5),(V.i .u8 t2_6),(V.sl t2_7)])]) H K (by kernel_rfl) (Nat.le_of_ble_eq_true (by kernel_rfl)) (by kernel_rfl) (by kernel_rfl)
  have e1:ev2 Try.prog (E25) loopLim lv25 Try.f25.ntmps kp25 c25_5 (argFr 0 [(V.p t0),(V.i .u16 t1),(V.agg [(V.i .u8 t2_0),(V.i .u32 t2_1),(V.i .u32 t2_2),(V.i .u8 t2_3),(V.i .u8 t2_4),(V.i .u8 t2_5),(V.i .u8 t2_6),(V.sl t2_7)])]) H (kFn2 Try.prog Try.f25.results.toList K) = ev2 Try.prog (E25) loopLim lv25 Try.f25.ntmps kp25 c25_5 [(0,(V.p t0)),(1,(V.i .u16 t1)),(2,(V.agg [(V.i .u8 t2_0),(V.i .u32 t2_1),(V.i .u32 t2_2),(V.i .u8 t2_3),(V.i .u8 t2_4),(V.i .u8 t2_5),(V.i .u8 t2_6),(V.sl t2_7)]))] H (kFn2 Try.prog Try.f25.results.toList K):=by kernel_rfl
  refine (e0.trans e1).trans ?_
  delta g25_r
  exact (g25_p7_eq t0 t1 t2_0 t2_1 t2_2 t2_3 t2_4 t2_5 t2_6 t2_7 H (kFn2 Try.prog Try.f25.results.toList K)).trans (congrArg (g25_p7 R t0 t1 t2_0 t2_1 t2_2 t2_3 t2_4 t2_5 t2_6 t2_7 H) (funext fun t6=>funext fun H=>h0 t6 H))
theorem g25_ok:FunOK Try.prog 25 (w25 (g25_r)):=by
  refine (runF2_ok (E25_good) mixed lim_ok Try.func25 (by kernel_rfl) lv25 kp25).of_le fun R args H K r hk=>?_
  unfold w25 at hk
  split at hk
  · exact (g25_fn _ _ _ _ _ _ _ _ _ _ H K).trans hk
  · cases hk
noncomputable def g25:T25:=g25_r
theorem g25_lin:Lin25 g25:=g25_r_lin
theorem ok25:FunOK Try.prog 25 (w25 g25):=g25_ok
def kp19:Nat→Option (List Nat):=kpOf [(0,[1]),(1,[1,3]),(2,[1,3,9]),(3,[1,3]),(4,[1,3,4]),(5,[1,3,4,5]),(6,[1,3,4,5,13]),(7,[1,3,4,5]),(8,[1,3,4,5,6]),(9,[1,3,4,5,6,7]),(10,[1,3,4,5,6,7,23]),(11,[1,3,4,5,6,7]),(12,[1,3,4,5,6,7]),(13,[1,3,4,5,6,7,49]),(14,[2]),(15,[1,3,51]),(16,[2]),(17,[2]),(100000,[]),(100001,[1,3]),(100002,[1,3,4]),(100003,[1,3,4,5]),(100004,[1,3,4,5]),(100005,[1,3,4,5,6,7]),(200000,[1,3]),(200001,[1,3]),(200002,[1,3,4,5]),(200003,[1,3,4,5]),(200004,[1,3,4,5,6,7]),(200005,[1,3,5,6,7]),(300000,[2]),(400009,[1,3]),(400013,[1,3,4,5]),(400023,[1,3,5,6,7]),(400049,[1,3,4,5,6,7]),(400051,[1,3])]
noncomputable def E19:FEnv:=[(24,w24 g24),(25,w25 g25)]
theorem E19_good:EnvGood Try.prog (E19):=(((EnvGood.nil _).cons ok25 (w25_lin g25_lin)).cons ok24 (w24_lin g24_lin))
theorem E19_lin:EnvLin (E19):=by
  intro g F h
  simp only [E19,List.mem_cons,List.not_mem_nil,or_false] at h
  rcases h with h | h
  · cases h; exact w24_lin g24_lin
  · cases h; exact w25_lin g25_lin
def lv19:Nat→Bool:=lvOf []
noncomputable def b19:Code:=Try.f19.body.getD .skip
noncomputable def c19_0:Code:=(.seq (codeAt [1,0,1,0,0,1,0,0,1,0,1,0,0,1,0,0,1,1,0,0,0,0] b19) (.seq (.cond (.tmp 23) .skip (.exit 4)) (.seq (.block 5 (.seq (codeAt [1,0,1,0,0,1,0,0,1,0,1,0,0,1,0,0,1,1,0,0,1,0,0,0] b19) (.seq (codeAt [1,0,1,0,0,1,0,0,1,0,1,0,0,1,0,0,1,1,0,0,1,0,0,1,0] b19) (.cond (.tmp 49) (.seq (codeAt [1,0,1,0,0,1,0,0,1,0,1,0,0,1,0,0,1,1,0,0,1,0,0,1,1,0,0] b19) .ret) .skip)))) (codeAt [1,0,1,0,0,1,0,0,1,0,1,0,0,1,0,0,1,1,0,0,1,1] b19))))
noncomputable def c19_1:Code:=(.loop c19_0)
noncomputable def c19_2:Code:=(.block 4 c19_1)
noncomputable def c19_3:Code:=(.seq (codeAt [1,0,1,0,0,1,0,0,1,0,1,0,0,1,0,0,0] b19) (.seq (codeAt [1,0,1,0,0,1,0,0,1,0,1,0,0,1,0,0,1,0] b19) c19_2))
noncomputable def c19_4:Code:=(.block 3 c19_3)
noncomputable def c19_5:Code:=(codeAt [1,0,1,0,0,1,0,0,1,0,1,0,0,1,1] b19)
noncomputable def c19_6:Code:=(.seq c19_4 c19_5)
noncomputable def c19_7:Code:=(.seq (codeAt [1,0,1,0,0,1,0,0,1,0,1,0,0,0,0] b19) (.seq (.cond (.tmp 13) .skip (.exit 2)) c19_6))
noncomputable def c19_8:Code:=(.loop c19_7)
noncomputable def c19_9:Code:=(.block 2 c19_8)
noncomputable def c19_10:Code:=(.seq (codeAt [1,0,1,0,0,1,0,0,1,1,0] b19) (.cond (.tmp 51) (.seq (codeAt [1,0,1,0,0,1,0,0,1,1,1,0,0] b19) .ret) .skip))
noncomputable def c19_11:Code:=(.seq c19_9 c19_10)
noncomputable def c19_12:Code:=(.seq (codeAt [1,0,1,0,0,1,0,0,0] b19) (.seq (codeAt [1,0,1,0,0,1,0,0,1,0,0] b19) c19_11))
noncomputable def c19_13:Code:=(.block 1 c19_12)
noncomputable def c19_14:Code:=(codeAt [1,0,1,0,0,1,1] b19)
noncomputable def c19_15:Code:=(.seq c19_13 c19_14)
noncomputable def c19_16:Code:=(.seq (codeAt [1,0,1,0,0,0,0] b19) (.seq (.cond (.tmp 9) .skip (.exit 0)) c19_15))
noncomputable def c19_17:Code:=(.loop c19_16)
noncomputable def c19_18:Code:=(.block 0 c19_17)
noncomputable def c19_19:Code:=(.seq (codeAt [1,1,0] b19) .ret)
noncomputable def c19_20:Code:=(.seq c19_18 c19_19)
noncomputable def c19_21:Code:=(.seq (codeAt [0] b19) (.seq (codeAt [1,0,0] b19) c19_20))
noncomputable def g19_p0 (R:Type) (t0_0:Option (Nat × Nat)) (t0_1:Option (Nat × Nat)) (H:Heap) (kN:Nat→Nat→Int→Heap→Option R):Option R :=
  alo H (.cells [(V.p t0_0),(V.p t0_1)] 40 false) fun i3 h4 =>
  kN i3 0 (0:Int) h4
theorem g19_p0_eq {R:Type} (c2:Code) (t0_0:Option (Nat × Nat)) (t0_1:Option (Nat × Nat)) (H:Heap) (K:Ex→Fr→Heap→Option R):ev2 Try.prog (E19) loopLim lv19 Try.f19.ntmps kp19 (.seq (codeAt [0] b19) (.seq (codeAt [1,0,0] b19) c2)) [(0,(V.agg [(V.p t0_0),(V.p t0_1)]))] H K = g19_p0 R t0_0 t0_1 H (fun t1_0 t1_1 t3 H=>ev2 Try.prog (E19) loopLim lv19 Try.f19.ntmps kp19 c2 [(1,(V.p (some (t1_0,t1_1)))),(3,(V.i .i64 t3))] H K):=by kernel_rfl
theorem g19_p0_lin {R S:Type} {k:S→Option R} {t0_0:Option (Nat × Nat)} {t0_1:Option (Nat × Nat)} {H:Heap} {fkN:Nat→Nat→Int→Heap→Option R} {gkN:Nat→Nat→Int→Heap→Option S} (hkN:∀ t1_0 t1_1 t3 H,fkN t1_0 t1_1 t3 H = (gkN t1_0 t1_1 t3 H).bind k):g19_p0 R t0_0 t0_1 H fkN = (g19_p0 S t0_0 t0_1 H gkN).bind k:=by
  delta g19_p0; exact (
    alo_lin fun i3 h4 =>
    hkN _ _ _ _)
noncomputable def g19_p1 (R:Type) (t1_0:Nat) (t1_1:Nat) (t3:Int) (H:Heap) (kN:Nat→Nat→Int→Heap→Option R) (kE0:Heap→Option R):Option R :=
  sel (decide (t3 < (10:Int))) (
    kN t1_0 t1_1 t3 H) (
    kE0 H)
theorem g19_p1_eq {R:Type} (c2:Code) (t1_0:Nat) (t1_1:Nat) (t3:Int) (H:Heap) (K:Ex→Fr→Heap→Option R):ev2 Try.prog (E19) loopLim lv19 Try.f19.ntmps kp19 (.seq (codeAt [1,0,1,0,0,0,0] b19) (.seq (.cond (.tmp 9) .skip (.exit 0)) c2)) [(1,(V.p (some (t1_0,t1_1)))),(3,(V.i .i64 t3))] H K = g19_p1 R t1_0 t1_1 t3 H (fun t1_0 t1_1 t3 H=>ev2 Try.prog (E19) loopLim lv19 Try.f19.ntmps kp19 c2 [(1,(V.p (some (t1_0,t1_1)))),(3,(V.i .i64 t3))] H K) (fun H=>K (.exit 0) [] H):=by kernel_rfl
theorem g19_p1_lin {R S:Type} {k:S→Option R} {t1_0:Nat} {t1_1:Nat} {t3:Int} {H:Heap} {fkN:Nat→Nat→Int→Heap→Option R} {gkN:Nat→Nat→Int→Heap→Option S} {fkE0:Heap→Option R} {gkE0:Heap→Option S} (hkN:∀ t1_0 t1_1 t3 H,fkN t1_0 t1_1 t3 H = (gkN t1_0 t1_1 t3 H).bind k) (hkE0:∀ H,fkE0 H = (gkE0 H).bind k):g19_p1 R t1_0 t1_1 t3 H fkN fkE0 = (g19_p1 S t1_0 t1_1 t3 H gkN gkE0).bind k:=by
  delta g19_p1; exact (
    sl_lin (
      hkN _ _ _ _) (
      hkE0 _))
noncomputable def g19_p2 (R:Type) (t1_0:Nat) (t1_1:Nat) (t3:Int) (H:Heap) (kN:Nat→Nat→Int→Bool→Int→Heap→Option R):Option R :=
  kN t1_0 t1_1 t3 false (0:Int) H
theorem g19_p2_eq {R:Type} (c2:Code) (t1_0:Nat) (t1_1:Nat) (t3:Int) (H:Heap) (K:Ex→Fr→Heap→Option R):ev2 Try.prog (E19) loopLim lv19 Try.f19.ntmps kp19 (.seq (codeAt [1,0,1,0,0,1,0,0,0] b19) (.seq (codeAt [1,0,1,0,0,1,0,0,1,0,0] b19) c2)) [(1,(V.p (some (t1_0,t1_1)))),(3,(V.i .i64 t3))] H K = g19_p2 R t1_0 t1_1 t3 H (fun t1_0 t1_1 t3 t4 t5 H=>ev2 Try.prog (E19) loopLim lv19 Try.f19.ntmps kp19 c2 [(1,(V.p (some (t1_0,t1_1)))),(3,(V.i .i64 t3)),(4,(V.b t4)),(5,(V.i .i64 t5))] H K):=by kernel_rfl
theorem g19_p2_lin {R S:Type} {k:S→Option R} {t1_0:Nat} {t1_1:Nat} {t3:Int} {H:Heap} {fkN:Nat→Nat→Int→Bool→Int→Heap→Option R} {gkN:Nat→Nat→Int→Bool→Int→Heap→Option S} (hkN:∀ t1_0 t1_1 t3 t4 t5 H,fkN t1_0 t1_1 t3 t4 t5 H = (gkN t1_0 t1_1 t3 t4 t5 H).bind k):g19_p2 R t1_0 t1_1 t3 H fkN = (g19_p2 S t1_0 t1_1 t3 H gkN).bind k:=by
  delta g19_p2; exact (
    hkN _ _ _ _ _ _)
noncomputable def g19_p3 (R:Type) (t1_0:Nat) (t1_1:Nat) (t3:Int) (t4:Bool) (t5:Int) (H:Heap) (kN:Nat→Nat→Int→Bool→Int→Heap→Option R) (kE2:Nat→Nat→Int→Bool→Heap→Option R):Option R :=
  sel (decide (t5 < (2:Int))) (
    kN t1_0 t1_1 t3 t4 t5 H) (
    kE2 t1_0 t1_1 t3 t4 H)
theorem g19_p3_eq {R:Type} (c2:Code) (t1_0:Nat) (t1_1:Nat) (t3:Int) (t4:Bool) (t5:Int) (H:Heap) (K:Ex→Fr→Heap→Option R):ev2 Try.prog (E19) loopLim lv19 Try.f19.ntmps kp19 (.seq (codeAt [1,0,1,0,0,1,0,0,1,0,1,0,0,0,0] b19) (.seq (.cond (.tmp 13) .skip (.exit 2)) c2)) [(1,(V.p (some (t1_0,t1_1)))),(3,(V.i .i64 t3)),(4,(V.b t4)),(5,(V.i .i64 t5))] H K = g19_p3 R t1_0 t1_1 t3 t4 t5 H (fun t1_0 t1_1 t3 t4 t5 H=>ev2 Try.prog (E19) loopLim lv19 Try.f19.ntmps kp19 c2 [(1,(V.p (some (t1_0,t1_1)))),(3,(V.i .i64 t3)),(4,(V.b t4)),(5,(V.i .i64 t5))] H K) (fun t1_0 t1_1 t3 t4 H=>K (.exit 2) [(1,(V.p (some (t1_0,t1_1)))),(3,(V.i .i64 t3)),(4,(V.b t4))] H):=by kernel_rfl
theorem g19_p3_lin {R S:Type} {k:S→Option R} {t1_0:Nat} {t1_1:Nat} {t3:Int} {t4:Bool} {t5:Int} {H:Heap} {fkN:Nat→Nat→Int→Bool→Int→Heap→Option R} {gkN:Nat→Nat→Int→Bool→Int→Heap→Option S} {fkE2:Nat→Nat→Int→Bool→Heap→Option R} {gkE2:Nat→Nat→Int→Bool→Heap→Option S} (hkN:∀ t1_0 t1_1 t3 t4 t5 H,fkN t1_0 t1_1 t3 t4 t5 H = (gkN t1_0 t1_1 t3 t4 t5 H).bind k) (hkE2:∀ t1_0 t1_1 t3 t4 H,fkE2 t1_0 t1_1 t3 t4 H = (gkE2 t1_0 t1_1 t3 t4 H).bind k):g19_p3 R t1_0 t1_1 t3 t4 t5 H fkN fkE2 = (g19_p3 S t1_0 t1_1 t3 t4 t5 H gkN gkE2).bind k:=by
  delta g19_p3; exact (
    sl_lin (
      hkN _ _ _ _ _ _) (
      hkE2 _ _ _ _ _))
noncomputable def g19_p4 (R:Type) (t1_0:Nat) (t1_1:Nat) (t3:Int) (t4:Bool) (t5:Int) (H:Heap) (kN:Nat→Nat→Int→Bool→Int→Sl→Int→Heap→Option R):Option R :=
  if 0 ≤ t5∧t5 < ((2:Nat):Int) then (
    ((H).ldP t1_0 (t1_1 + Int.toNat t5 * 1)).bind fun x8 =>
    g24 R x8 H fun x9 h10 =>
    kN t1_0 t1_1 t3 t4 t5 x9 (0:Int) h10)
  else (
    none)
theorem g19_p4_eq {R:Type} (c2:Code) (t1_0:Nat) (t1_1:Nat) (t3:Int) (t4:Bool) (t5:Int) (H:Heap) (K:Ex→Fr→Heap→Option R):ev2 Try.prog (E19) loopLim lv19 Try.f19.ntmps kp19 (.seq (codeAt [1,0,1,0,0,1,0,0,1,0,1,0,0,1,0,0,0] b19) (.seq (codeAt [1,0,1,0,0,1,0,0,1,0,1,0,0,1,0,0,1,0] b19) c2)) [(1,(V.p (some (t1_0,t1_1)))),(3,(V.i .i64 t3)),(4,(V.b t4)),(5,(V.i .i64 t5))] H K = g19_p4 R t1_0 t1_1 t3 t4 t5 H (fun t1_0 t1_1 t3 t4 t5 t6 t7 H=>ev2 Try.prog (E19) loopLim lv19 Try.f19.ntmps kp19 c2 [(1,(V.p (some (t1_0,t1_1)))),(3,(V.i .i64 t3)),(4,(V.b t4)),(5,(V.i .i64 t5)),(6,(V.sl t6)),(7,(V.i .i64 t7))] H K):=by kernel_rfl
theorem g19_p4_lin {R S:Type} {k:S→Option R} {t1_0:Nat} {t1_1:Nat} {t3:Int} {t4:Bool} {t5:Int} {H:Heap} {fkN:Nat→Nat→Int→Bool→Int→Sl→Int→Heap→Option R} {gkN:Nat→Nat→Int→Bool→Int→Sl→Int→Heap→Option S} (hkN:∀ t1_0 t1_1 t3 t4 t5 t6 t7 H,fkN t1_0 t1_1 t3 t4 t5 t6 t7 H = (gkN t1_0 t1_1 t3 t4 t5 t6 t7 H).bind k):g19_p4 R t1_0 t1_1 t3 t4 t5 H fkN = (g19_p4 S t1_0 t1_1 t3 t4 t5 H gkN).bind k:=by
  delta g19_p4; exact (
    il (
      bl fun x8 =>
      g24_lin.l fun x9 h10 =>
      hkN _ _ _ _ _ _ _ _) (
      rfl))
noncomputable def g19_p5 (R:Type) (t1_0:Nat) (t1_1:Nat) (t3:Int) (t4:Bool) (t5:Int) (t6:Sl) (t7:Int) (H:Heap) (kN:Nat→Nat→Int→Bool→Int→Sl→Int→Heap→Option R) (kE4:Nat→Nat→Int→Bool→Int→Heap→Option R) (kR:Bool→Heap→Option R):Option R :=
  sel (decide (t7 < ((t6.len:Nat):Int))) (
    if 0 ≤ t7∧t7 < ((t6.len:Nat):Int) then (
      (t6.a).bind fun q11 =>
      ((H).ldI .u16 q11.1 ((q11.2 + Int.toNat t7 * 9) + 0)).bind fun x12 =>
      sel ((IntKind.wrap .i64 x12) != (IntKind.wrap .i64 ((1:Int) - t5))) (
        kR false H) (
        if 0 ≤ (IntKind.wrap .i64 ((1:Int) - t5))∧(IntKind.wrap .i64 ((1:Int) - t5)) < ((2:Nat):Int) then (
          ((H).ldP t1_0 (t1_1 + Int.toNat (IntKind.wrap .i64 ((1:Int) - t5)) * 1)).bind fun x13 =>
          if 0 ≤ t7∧t7 < ((t6.len:Nat):Int) then (
            (t6.a).bind fun q14 =>
            ((H).ldI .u8 q14.1 (((q14.2 + Int.toNat t7 * 9) + 1) + 0)).bind fun x15 =>
            ((H).ldI .u32 q14.1 (((q14.2 + Int.toNat t7 * 9) + 1) + 1)).bind fun x16 =>
            ((H).ldI .u32 q14.1 (((q14.2 + Int.toNat t7 * 9) + 1) + 2)).bind fun x17 =>
            ((H).ldI .u8 q14.1 (((q14.2 + Int.toNat t7 * 9) + 1) + 3)).bind fun x18 =>
            ((H).ldI .u8 q14.1 (((q14.2 + Int.toNat t7 * 9) + 1) + 4)).bind fun x19 =>
            ((H).ldI .u8 q14.1 (((q14.2 + Int.toNat t7 * 9) + 1) + 5)).bind fun x20 =>
            ((H).ldI .u8 q14.1 (((q14.2 + Int.toNat t7 * 9) + 1) + 6)).bind fun x21 =>
            ((H).ldSl q14.1 (((q14.2 + Int.toNat t7 * 9) + 1) + 7)).bind fun x22 =>
            g25 R x13 (IntKind.wrap .u16 t5) x15 x16 x17 x18 x19 x20 x21 x22 H fun x23 h24 =>
            sel (x23 != (0:Int)) (
              kR false h24) (
              kN t1_0 t1_1 t3 true t5 t6 (IntKind.wrap .i64 (t7 + (1:Int))) h24))
          else (
            none))
        else (
          none)))
    else (
      none)) (
    kE4 t1_0 t1_1 t3 t4 t5 H)
theorem g19_p5_eq {R:Type} (t1_0:Nat) (t1_1:Nat) (t3:Int) (t4:Bool) (t5:Int) (t6:Sl) (t7:Int) (H:Heap) (K:Ex→Fr→Heap→Option R):ev2 Try.prog (E19) loopLim lv19 Try.f19.ntmps kp19 c19_0 [(1,(V.p (some (t1_0,t1_1)))),(3,(V.i .i64 t3)),(4,(V.b t4)),(5,(V.i .i64 t5)),(6,(V.sl t6)),(7,(V.i .i64 t7))] H K = g19_p5 R t1_0 t1_1 t3 t4 t5 t6 t7 H (fun t1_0 t1_1 t3 t4 t5 t6 t7 H=>K .normal [(1,(V.p (some (t1_0,t1_1)))),(3,(V.i .i64 t3)),(4,(V.b t4)),(5,(V.i .i64 t5)),(6,(V.sl t6)),(7,(V.i .i64 t7))] H) (fun t1_0 t1_1 t3 t4 t5 H=>K (.exit 4) [(1,(V.p (some (t1_0,t1_1)))),(3,(V.i .i64 t3)),(4,(V.b t4)),(5,(V.i .i64 t5))] H) (fun t2 H=>K .ret [(2,(V.b t2))] H):=by kernel_rfl
theorem g19_p5_lin {R S:Type} {k:S→Option R} {t1_0:Nat} {t1_1:Nat} {t3:Int} {t4:Bool} {t5:Int} {t6:Sl} {t7:Int} {H:Heap} {fkN:Nat→Nat→Int→Bool→Int→Sl→Int→Heap→Option R} {gkN:Nat→Nat→Int→Bool→Int→Sl→Int→Heap→Option S} {fkE4:Nat→Nat→Int→Bool→Int→Heap→Option R} {gkE4:Nat→Nat→Int→Bool→Int→Heap→Option S} {fkR:Bool→Heap→Option R} {gkR:Bool→Heap→Option S} (hkN:∀ t1_0 t1_1 t3 t4 t5 t6 t7 H,fkN t1_0 t1_1 t3 t4 t5 t6 t7 H = (gkN t1_0 t1_1 t3 t4 t5 t6 t7 H).bind k) (hkE4:∀ t1_0 t1_1 t3 t4 t5 H,fkE4 t1_0 t1_1 t3 t4 t5 H = (gkE4 t1_0 t1_1 t3 t4 t5 H).bind k) (hkR:∀ t2 H,fkR t2 H = (gkR t2 H).bind k):g19_p5 R t1_0 t1_1 t3 t4 t5 t6 t7 H fkN fkE4 fkR = (g19_p5 S t1_0 t1_1 t3 t4 t5 t6 t7 H gkN gkE4 gkR).bind k:=by
  delta g19_p5
  repeat' (first | with_reducible (first | exact hkR _ _ | exact hkN _ _ _ _ _ _ _ _ | exact hkE4 _ _ _ _ _ _ | refine sl_lin ?_ ?_ | refine il ?_ ?_ | refine g25_lin.l fun _ _=>?_ | refine bl fun _=>?_) | exact (rfl:(none:Option R) = (none:Option S).bind k))
abbrev g19_p6_S:=Nat × Nat × Int × Bool × Int × Sl × Int
abbrev g19_p6_O:=Sum (Nat × Nat × Int × Bool × Int) (Bool)
def g19_p6_es (s:g19_p6_S):Fr:=[(1,(V.p (some (s.1,s.2.1)))),(3,(V.i .i64 s.2.2.1)),(4,(V.b s.2.2.2.1)),(5,(V.i .i64 s.2.2.2.2.1)),(6,(V.sl s.2.2.2.2.2.1)),(7,(V.i .i64 s.2.2.2.2.2.2))]
def g19_p6_er:g19_p6_O→Ex × Fr
  | (.inl r)=>((.exit 4),[(1,(V.p (some (r.1,r.2.1)))),(3,(V.i .i64 r.2.2.1)),(4,(V.b r.2.2.2.1)),(5,(V.i .i64 r.2.2.2.2))])
  | (.inr r)=>(.ret,[(2,(V.b r))])
noncomputable def g19_p6_b (s:g19_p6_S) (H:Heap):Option (Rd g19_p6_S g19_p6_O × Heap) :=
  g19_p5 _ s.1 s.2.1 s.2.2.1 s.2.2.2.1 s.2.2.2.2.1 s.2.2.2.2.2.1 s.2.2.2.2.2.2 H (fun t1_0 t1_1 t3 t4 t5 t6 t7 H=>some (.go (t1_0,t1_1,t3,t4,t5,t6,t7),H)) (fun t1_0 t1_1 t3 t4 t5 H=>some (.up (.inl (t1_0,t1_1,t3,t4,t5)),H)) (fun t2 H=>some (.up (.inr t2),H))
noncomputable def g19_p6 (R:Type) (t1_0:Nat) (t1_1:Nat) (t3:Int) (t4:Bool) (t5:Int) (t6:Sl) (t7:Int) (H:Heap) (kE4:Nat→Nat→Int→Bool→Int→Heap→Option R) (kR:Bool→Heap→Option R):Option R :=
  (tlim (g19_p6_b) (t1_0,t1_1,t3,t4,t5,t6,t7) H).bind fun p=>cas p.1 (fun r=>kE4 r.1 r.2.1 r.2.2.1 r.2.2.2.1 r.2.2.2.2 p.2) (fun r0=>kR r0 p.2)
theorem g19_p6_lin {R S:Type} {k:S→Option R} {t1_0:Nat} {t1_1:Nat} {t3:Int} {t4:Bool} {t5:Int} {t6:Sl} {t7:Int} {H:Heap} {fkE4:Nat→Nat→Int→Bool→Int→Heap→Option R} {gkE4:Nat→Nat→Int→Bool→Int→Heap→Option S} {fkR:Bool→Heap→Option R} {gkR:Bool→Heap→Option S} (hkE4:∀ t1_0 t1_1 t3 t4 t5 H,fkE4 t1_0 t1_1 t3 t4 t5 H = (gkE4 t1_0 t1_1 t3 t4 t5 H).bind k) (hkR:∀ t2 H,fkR t2 H = (gkR t2 H).bind k):g19_p6 R t1_0 t1_1 t3 t4 t5 t6 t7 H fkE4 fkR = (g19_p6 S t1_0 t1_1 t3 t4 t5 t6 t7 H gkE4 gkR).bind k:=by
  exact bl fun p=>cas_lin (fun _=>hkE4 _ _ _ _ _ _) (fun _=>hkR _ _)
theorem g19_p6_eq {R:Type} (t1_0:Nat) (t1_1:Nat) (t3:Int) (t4:Bool) (t5:Int) (t6:Sl) (t7:Int) (H:Heap) (K:Ex→Fr→Heap→Option R):ev2 Try.prog (E19) loopLim lv19 Try.f19.ntmps kp19 c19_1 [(1,(V.p (some (t1_0,t1_1)))),(3,(V.i .i64 t3)),(4,(V.b t4)),(5,(V.i .i64 t5)),(6,(V.sl t6)),(7,(V.i .i64 t7))] H K = g19_p6 R t1_0 t1_1 t3 t4 t5 t6 t7 H (fun t1_0 t1_1 t3 t4 t5 H=>K (.exit 4) [(1,(V.p (some (t1_0,t1_1)))),(3,(V.i .i64 t3)),(4,(V.b t4)),(5,(V.i .i64 t5))] H) (fun t2 H=>K .ret [(2,(V.b t2))] H):=by
  delta c19_1
  delta g19_p6
  refine (ev2_tlim (b:=g19_p6_b) (es:=g19_p6_es) (er:=g19_p6_er) (by rintro (r | r) <;> exact nofun) (fun s H=>?_) (t1_0,t1_1,t3,t4,t5,t6,t7) H K).trans (bc fun p=>by rcases p with ⟨(r | r),H⟩ <;> rfl)
  exact (g19_p5_eq s.1 s.2.1 s.2.2.1 s.2.2.2.1 s.2.2.2.2.1 s.2.2.2.2.2.1 s.2.2.2.2.2.2 H ret3).trans (g19_p5_lin (fun _ _ _ _ _ _ _ _=>rfl) (fun _ _ _ _ _ _=>rfl) (fun _ _=>rfl))
noncomputable def g19_p7 (R:Type) (t1_0:Nat) (t1_1:Nat) (t3:Int) (t4:Bool) (t5:Int) (t6:Sl) (t7:Int) (H:Heap) (kN:Nat→Nat→Int→Bool→Int→Heap→Option R) (kR:Bool→Heap→Option R):Option R :=
  g19_p6 R t1_0 t1_1 t3 t4 t5 t6 t7 H (fun t1_0 t1_1 t3 t4 t5 H=>kN t1_0 t1_1 t3 t4 t5 H) (fun t2 H=>kR t2 H)
theorem g19_p7_lin {R S:Type} {k:S→Option R} {t1_0:Nat} {t1_1:Nat} {t3:Int} {t4:Bool} {t5:Int} {t6:Sl} {t7:Int} {H:Heap} {fkN:Nat→Nat→Int→Bool→Int→Heap→Option R} {gkN:Nat→Nat→Int→Bool→Int→Heap→Option S} {fkR:Bool→Heap→Option R} {gkR:Bool→Heap→Option S} (hkN:∀ t1_0 t1_1 t3 t4 t5 H,fkN t1_0 t1_1 t3 t4 t5 H = (gkN t1_0 t1_1 t3 t4 t5 H).bind k) (hkR:∀ t2 H,fkR t2 H = (gkR t2 H).bind k):g19_p7 R t1_0 t1_1 t3 t4 t5 t6 t7 H fkN fkR = (g19_p7 S t1_0 t1_1 t3 t4 t5 t6 t7 H gkN gkR).bind k:=by
  exact g19_p6_lin (fun _ _ _ _ _ _=>hkN _ _ _ _ _ _) (fun _ _=>hkR _ _)
theorem g19_p7_eq {R:Type} (t1_0:Nat) (t1_1:Nat) (t3:Int) (t4:Bool) (t5:Int) (t6:Sl) (t7:Int) (H:Heap) (K:Ex→Fr→Heap→Option R):ev2 Try.prog (E19) loopLim lv19 Try.f19.ntmps kp19 c19_2 [(1,(V.p (some (t1_0,t1_1)))),(3,(V.i .i64 t3)),(4,(V.b t4)),(5,(V.i .i64 t5)),(6,(V.sl t6)),(7,(V.i .i64 t7))] H K = g19_p7 R t1_0 t1_1 t3 t4 t5 t6 t7 H (fun t1_0 t1_1 t3 t4 t5 H=>K .normal [(1,(V.p (some (t1_0,t1_1)))),(3,(V.i .i64 t3)),(4,(V.b t4)),(5,(V.i .i64 t5))] H) (fun t2 H=>K .ret [(2,(V.b t2))] H):=by
  delta c19_2
  rw [ev2_block]
  delta g19_p7
  exact (g19_p6_eq t1_0 t1_1 t3 t4 t5 t6 t7 H (kBlock kp19 4 K))
noncomputable def g19_p8 (R:Type) (t1_0:Nat) (t1_1:Nat) (t3:Int) (t4:Bool) (t5:Int) (H:Heap) (kN:Nat→Nat→Int→Bool→Int→Heap→Option R) (kR:Bool→Heap→Option R):Option R :=
  g19_p4 R t1_0 t1_1 t3 t4 t5 H (fun t1_0 t1_1 t3 t4 t5 t6 t7 H=>g19_p7 R t1_0 t1_1 t3 t4 t5 t6 t7 H (fun t1_0 t1_1 t3 t4 t5 H=>kN t1_0 t1_1 t3 t4 t5 H) (fun t2 H=>kR t2 H))
theorem g19_p8_lin {R S:Type} {k:S→Option R} {t1_0:Nat} {t1_1:Nat} {t3:Int} {t4:Bool} {t5:Int} {H:Heap} {fkN:Nat→Nat→Int→Bool→Int→Heap→Option R} {gkN:Nat→Nat→Int→Bool→Int→Heap→Option S} {fkR:Bool→Heap→Option R} {gkR:Bool→Heap→Option S} (hkN:∀ t1_0 t1_1 t3 t4 t5 H,fkN t1_0 t1_1 t3 t4 t5 H = (gkN t1_0 t1_1 t3 t4 t5 H).bind k) (hkR:∀ t2 H,fkR t2 H = (gkR t2 H).bind k):g19_p8 R t1_0 t1_1 t3 t4 t5 H fkN fkR = (g19_p8 S t1_0 t1_1 t3 t4 t5 H gkN gkR).bind k:=by
  exact g19_p4_lin (fun _ _ _ _ _ _ _ _=>g19_p7_lin (fun _ _ _ _ _ _=>hkN _ _ _ _ _ _) (fun _ _=>hkR _ _))
theorem g19_p8_eq {R:Type} (t1_0:Nat) (t1_1:Nat) (t3:Int) (t4:Bool) (t5:Int) (H:Heap) (K:Ex→Fr→Heap→Option R):ev2 Try.prog (E19) loopLim lv19 Try.f19.ntmps kp19 c19_3 [(1,(V.p (some (t1_0,t1_1)))),(3,(V.i .i64 t3)),(4,(V.b t4)),(5,(V.i .i64 t5))] H K = g19_p8 R t1_0 t1_1 t3 t4 t5 H (fun t1_0 t1_1 t3 t4 t5 H=>K .normal [(1,(V.p (some (t1_0,t1_1)))),(3,(V.i .i64 t3)),(4,(V.b t4)),(5,(V.i .i64 t5))] H) (fun t2 H=>K .ret [(2,(V.b t2))] H):=by
  delta c19_3
  delta g19_p8
  exact (g19_p4_eq _ t1_0 t1_1 t3 t4 t5 H K).trans (congrArg (g19_p4 R t1_0 t1_1 t3 t4 t5 H) (funext fun t1_0=>funext fun t1_1=>funext fun t3=>funext fun t4=>funext fun t5=>funext fun t6=>funext fun t7=>funext fun H=>g19_p7_eq t1_0 t1_1 t3 t4 t5 t6 t7 H K))
noncomputable def g19_p9 (R:Type) (t1_0:Nat) (t1_1:Nat) (t3:Int) (t4:Bool) (t5:Int) (H:Heap) (kN:Nat→Nat→Int→Bool→Int→Heap→Option R) (kR:Bool→Heap→Option R):Option R :=
  g19_p8 R t1_0 t1_1 t3 t4 t5 H (fun t1_0 t1_1 t3 t4 t5 H=>kN t1_0 t1_1 t3 t4 t5 H) (fun t2 H=>kR t2 H)
theorem g19_p9_lin {R S:Type} {k:S→Option R} {t1_0:Nat} {t1_1:Nat} {t3:Int} {t4:Bool} {t5:Int} {H:Heap} {fkN:Nat→Nat→Int→Bool→Int→Heap→Option R} {gkN:Nat→Nat→Int→Bool→Int→Heap→Option S} {fkR:Bool→Heap→Option R} {gkR:Bool→Heap→Option S} (hkN:∀ t1_0 t1_1 t3 t4 t5 H,fkN t1_0 t1_1 t3 t4 t5 H = (gkN t1_0 t1_1 t3 t4 t5 H).bind k) (hkR:∀ t2 H,fkR t2 H = (gkR t2 H).bind k):g19_p9 R t1_0 t1_1 t3 t4 t5 H fkN fkR = (g19_p9 S t1_0 t1_1 t3 t4 t5 H gkN gkR).bind k:=by
  exact g19_p8_lin (fun _ _ _ _ _ _=>hkN _ _ _ _ _ _) (fun _ _=>hkR _ _)
theorem g19_p9_eq {R:Type} (t1_0:Nat) (t1_1:Nat) (t3:Int) (t4:Bool) (t5:Int) (H:Heap) (K:Ex→Fr→Heap→Option R):ev2 Try.prog (E19) loopLim lv19 Try.f19.ntmps kp19 c19_4 [(1,(V.p (some (t1_0,t1_1)))),(3,(V.i .i64 t3)),(4,(V.b t4)),(5,(V.i .i64 t5))] H K = g19_p9 R t1_0 t1_1 t3 t4 t5 H (fun t1_0 t1_1 t3 t4 t5 H=>K .normal [(1,(V.p (some (t1_0,t1_1)))),(3,(V.i .i64 t3)),(4,(V.b t4)),(5,(V.i .i64 t5))] H) (fun t2 H=>K .ret [(2,(V.b t2))] H):=by
  delta c19_4
  rw [ev2_block]
  delta g19_p9
  exact (g19_p8_eq t1_0 t1_1 t3 t4 t5 H (kBlock kp19 3 K))
noncomputable def g19_p10 (R:Type) (t1_0:Nat) (t1_1:Nat) (t3:Int) (t4:Bool) (t5:Int) (H:Heap) (kN:Nat→Nat→Int→Bool→Int→Heap→Option R):Option R :=
  kN t1_0 t1_1 t3 t4 (IntKind.wrap .i64 (t5 + (1:Int))) H
theorem g19_p10_eq {R:Type} (t1_0:Nat) (t1_1:Nat) (t3:Int) (t4:Bool) (t5:Int) (H:Heap) (K:Ex→Fr→Heap→Option R):ev2 Try.prog (E19) loopLim lv19 Try.f19.ntmps kp19 c19_5 [(1,(V.p (some (t1_0,t1_1)))),(3,(V.i .i64 t3)),(4,(V.b t4)),(5,(V.i .i64 t5))] H K = g19_p10 R t1_0 t1_1 t3 t4 t5 H (fun t1_0 t1_1 t3 t4 t5 H=>K .normal [(1,(V.p (some (t1_0,t1_1)))),(3,(V.i .i64 t3)),(4,(V.b t4)),(5,(V.i .i64 t5))] H):=by kernel_rfl
theorem g19_p10_lin {R S:Type} {k:S→Option R} {t1_0:Nat} {t1_1:Nat} {t3:Int} {t4:Bool} {t5:Int} {H:Heap} {fkN:Nat→Nat→Int→Bool→Int→Heap→Option R} {gkN:Nat→Nat→Int→Bool→Int→Heap→Option S} (hkN:∀ t1_0 t1_1 t3 t4 t5 H,fkN t1_0 t1_1 t3 t4 t5 H = (gkN t1_0 t1_1 t3 t4 t5 H).bind k):g19_p10 R t1_0 t1_1 t3 t4 t5 H fkN = (g19_p10 S t1_0 t1_1 t3 t4 t5 H gkN).bind k:=by
  delta g19_p10; exact (
    hkN _ _ _ _ _ _)
noncomputable def g19_p11 (R:Type) (t1_0:Nat) (t1_1:Nat) (t3:Int) (t4:Bool) (t5:Int) (H:Heap) (kN:Nat→Nat→Int→Bool→Int→Heap→Option R) (kR:Bool→Heap→Option R):Option R :=
  g19_p9 R t1_0 t1_1 t3 t4 t5 H (fun t1_0 t1_1 t3 t4 t5 H=>g19_p10 R t1_0 t1_1 t3 t4 t5 H (fun t1_0 t1_1 t3 t4 t5 H=>kN t1_0 t1_1 t3 t4 t5 H)) (fun t2 H=>kR t2 H)
theorem g19_p11_lin {R S:Type} {k:S→Option R} {t1_0:Nat} {t1_1:Nat} {t3:Int} {t4:Bool} {t5:Int} {H:Heap} {fkN:Nat→Nat→Int→Bool→Int→Heap→Option R} {gkN:Nat→Nat→Int→Bool→Int→Heap→Option S} {fkR:Bool→Heap→Option R} {gkR:Bool→Heap→Option S} (hkN:∀ t1_0 t1_1 t3 t4 t5 H,fkN t1_0 t1_1 t3 t4 t5 H = (gkN t1_0 t1_1 t3 t4 t5 H).bind k) (hkR:∀ t2 H,fkR t2 H = (gkR t2 H).bind k):g19_p11 R t1_0 t1_1 t3 t4 t5 H fkN fkR = (g19_p11 S t1_0 t1_1 t3 t4 t5 H gkN gkR).bind k:=by
  exact g19_p9_lin (fun _ _ _ _ _ _=>g19_p10_lin (fun _ _ _ _ _ _=>hkN _ _ _ _ _ _)) (fun _ _=>hkR _ _)
theorem g19_p11_eq {R:Type} (t1_0:Nat) (t1_1:Nat) (t3:Int) (t4:Bool) (t5:Int) (H:Heap) (K:Ex→Fr→Heap→Option R):ev2 Try.prog (E19) loopLim lv19 Try.f19.ntmps kp19 c19_6 [(1,(V.p (some (t1_0,t1_1)))),(3,(V.i .i64 t3)),(4,(V.b t4)),(5,(V.i .i64 t5))] H K = g19_p11 R t1_0 t1_1 t3 t4 t5 H (fun t1_0 t1_1 t3 t4 t5 H=>K .normal [(1,(V.p (some (t1_0,t1_1)))),(3,(V.i .i64 t3)),(4,(V.b t4)),(5,(V.i .i64 t5))] H) (fun t2 H=>K .ret [(2,(V.b t2))] H):=by
  delta c19_6
  rw [ev2_seq]
  delta g19_p11
  exact (g19_p9_eq t1_0 t1_1 t3 t4 t5 H (kSeq (fun fr H=>ev2 Try.prog (E19) loopLim lv19 Try.f19.ntmps kp19 c19_5 fr H K) K)).trans (congr (congrArg (g19_p9 R t1_0 t1_1 t3 t4 t5 H) (funext fun t1_0=>funext fun t1_1=>funext fun t3=>funext fun t4=>funext fun t5=>funext fun H=>(kSeq_n _ _ _ _).trans (g19_p10_eq t1_0 t1_1 t3 t4 t5 H K))) rfl)
noncomputable def g19_p12 (R:Type) (t1_0:Nat) (t1_1:Nat) (t3:Int) (t4:Bool) (t5:Int) (H:Heap) (kN:Nat→Nat→Int→Bool→Int→Heap→Option R) (kE2:Nat→Nat→Int→Bool→Heap→Option R) (kR:Bool→Heap→Option R):Option R :=
  g19_p3 R t1_0 t1_1 t3 t4 t5 H (fun t1_0 t1_1 t3 t4 t5 H=>g19_p11 R t1_0 t1_1 t3 t4 t5 H (fun t1_0 t1_1 t3 t4 t5 H=>kN t1_0 t1_1 t3 t4 t5 H) (fun t2 H=>kR t2 H)) (fun t1_0 t1_1 t3 t4 H=>kE2 t1_0 t1_1 t3 t4 H)
theorem g19_p12_lin {R S:Type} {k:S→Option R} {t1_0:Nat} {t1_1:Nat} {t3:Int} {t4:Bool} {t5:Int} {H:Heap} {fkN:Nat→Nat→Int→Bool→Int→Heap→Option R} {gkN:Nat→Nat→Int→Bool→Int→Heap→Option S} {fkE2:Nat→Nat→Int→Bool→Heap→Option R} {gkE2:Nat→Nat→Int→Bool→Heap→Option S} {fkR:Bool→Heap→Option R} {gkR:Bool→Heap→Option S} (hkN:∀ t1_0 t1_1 t3 t4 t5 H,fkN t1_0 t1_1 t3 t4 t5 H = (gkN t1_0 t1_1 t3 t4 t5 H).bind k) (hkE2:∀ t1_0 t1_1 t3 t4 H,fkE2 t1_0 t1_1 t3 t4 H = (gkE2 t1_0 t1_1 t3 t4 H).bind k) (hkR:∀ t2 H,fkR t2 H = (gkR t2 H).bind k):g19_p12 R t1_0 t1_1 t3 t4 t5 H fkN fkE2 fkR = (g19_p12 S t1_0 t1_1 t3 t4 t5 H gkN gkE2 gkR).bind k:=by
  exact g19_p3_lin (fun _ _ _ _ _ _=>g19_p11_lin (fun _ _ _ _ _ _=>hkN _ _ _ _ _ _) (fun _ _=>hkR _ _)) (fun _ _ _ _ _=>hkE2 _ _ _ _ _)
theorem g19_p12_eq {R:Type} (t1_0:Nat) (t1_1:Nat) (t3:Int) (t4:Bool) (t5:Int) (H:Heap) (K:Ex→Fr→Heap→Option R):ev2 Try.prog (E19) loopLim lv19 Try.f19.ntmps kp19 c19_7 [(1,(V.p (some (t1_0,t1_1)))),(3,(V.i .i64 t3)),(4,(V.b t4)),(5,(V.i .i64 t5))] H K = g19_p12 R t1_0 t1_1 t3 t4 t5 H (fun t1_0 t1_1 t3 t4 t5 H=>K .normal [(1,(V.p (some (t1_0,t1_1)))),(3,(V.i .i64 t3)),(4,(V.b t4)),(5,(V.i .i64 t5))] H) (fun t1_0 t1_1 t3 t4 H=>K (.exit 2) [(1,(V.p (some (t1_0,t1_1)))),(3,(V.i .i64 t3)),(4,(V.b t4))] H) (fun t2 H=>K .ret [(2,(V.b t2))] H):=by
  delta c19_7
  delta g19_p12
  exact (g19_p3_eq _ t1_0 t1_1 t3 t4 t5 H K).trans (congr (congrArg (g19_p3 R t1_0 t1_1 t3 t4 t5 H) (funext fun t1_0=>funext fun t1_1=>funext fun t3=>funext fun t4=>funext fun t5=>funext fun H=>g19_p11_eq t1_0 t1_1 t3 t4 t5 H K)) rfl)
abbrev g19_p13_S:=Nat × Nat × Int × Bool × Int
abbrev g19_p13_O:=Sum (Nat × Nat × Int × Bool) (Bool)
def g19_p13_es (s:g19_p13_S):Fr:=[(1,(V.p (some (s.1,s.2.1)))),(3,(V.i .i64 s.2.2.1)),(4,(V.b s.2.2.2.1)),(5,(V.i .i64 s.2.2.2.2))]
def g19_p13_er:g19_p13_O→Ex × Fr
  | (.inl r)=>((.exit 2),[(1,(V.p (some (r.1,r.2.1)))),(3,(V.i .i64 r.2.2.1)),(4,(V.b r.2.2.2))])
  | (.inr r)=>(.ret,[(2,(V.b r))])
noncomputable def g19_p13_b (s:g19_p13_S) (H:Heap):Option (Rd g19_p13_S g19_p13_O × Heap) :=
  g19_p12 _ s.1 s.2.1 s.2.2.1 s.2.2.2.1 s.2.2.2.2 H (fun t1_0 t1_1 t3 t4 t5 H=>some (.go (t1_0,t1_1,t3,t4,t5),H)) (fun t1_0 t1_1 t3 t4 H=>some (.up (.inl (t1_0,t1_1,t3,t4)),H)) (fun t2 H=>some (.up (.inr t2),H))
noncomputable def g19_p13 (R:Type) (t1_0:Nat) (t1_1:Nat) (t3:Int) (t4:Bool) (t5:Int) (H:Heap) (kE2:Nat→Nat→Int→Bool→Heap→Option R) (kR:Bool→Heap→Option R):Option R :=
  (tlim (g19_p13_b) (t1_0,t1_1,t3,t4,t5) H).bind fun p=>cas p.1 (fun r=>kE2 r.1 r.2.1 r.2.2.1 r.2.2.2 p.2) (fun r0=>kR r0 p.2)
theorem g19_p13_lin {R S:Type} {k:S→Option R} {t1_0:Nat} {t1_1:Nat} {t3:Int} {t4:Bool} {t5:Int} {H:Heap} {fkE2:Nat→Nat→Int→Bool→Heap→Option R} {gkE2:Nat→Nat→Int→Bool→Heap→Option S} {fkR:Bool→Heap→Option R} {gkR:Bool→Heap→Option S} (hkE2:∀ t1_0 t1_1 t3 t4 H,fkE2 t1_0 t1_1 t3 t4 H = (gkE2 t1_0 t1_1 t3 t4 H).bind k) (hkR:∀ t2 H,fkR t2 H = (gkR t2 H).bind k):g19_p13 R t1_0 t1_1 t3 t4 t5 H fkE2 fkR = (g19_p13 S t1_0 t1_1 t3 t4 t5 H gkE2 gkR).bind k:=by
  exact bl fun p=>cas_lin (fun _=>hkE2 _ _ _ _ _) (fun _=>hkR _ _)
theorem g19_p13_eq {R:Type} (t1_0:Nat) (t1_1:Nat) (t3:Int) (t4:Bool) (t5:Int) (H:Heap) (K:Ex→Fr→Heap→Option R):ev2 Try.prog (E19) loopLim lv19 Try.f19.ntmps kp19 c19_8 [(1,(V.p (some (t1_0,t1_1)))),(3,(V.i .i64 t3)),(4,(V.b t4)),(5,(V.i .i64 t5))] H K = g19_p13 R t1_0 t1_1 t3 t4 t5 H (fun t1_0 t1_1 t3 t4 H=>K (.exit 2) [(1,(V.p (some (t1_0,t1_1)))),(3,(V.i .i64 t3)),(4,(V.b t4))] H) (fun t2 H=>K .ret [(2,(V.b t2))] H):=by
  delta c19_8
  delta g19_p13
  refine (ev2_tlim (b:=g19_p13_b) (es:=g19_p13_es) (er:=g19_p13_er) (by rintro (r | r) <;> exact nofun) (fun s H=>?_) (t1_0,t1_1,t3,t4,t5) H K).trans (bc fun p=>by rcases p with ⟨(r | r),H⟩ <;> rfl)
  exact (g19_p12_eq s.1 s.2.1 s.2.2.1 s.2.2.2.1 s.2.2.2.2 H ret3).trans (g19_p12_lin (fun _ _ _ _ _ _=>rfl) (fun _ _ _ _ _=>rfl) (fun _ _=>rfl))
noncomputable def g19_p14 (R:Type) (t1_0:Nat) (t1_1:Nat) (t3:Int) (t4:Bool) (t5:Int) (H:Heap) (kN:Nat→Nat→Int→Bool→Heap→Option R) (kR:Bool→Heap→Option R):Option R :=
  g19_p13 R t1_0 t1_1 t3 t4 t5 H (fun t1_0 t1_1 t3 t4 H=>kN t1_0 t1_1 t3 t4 H) (fun t2 H=>kR t2 H)
theorem g19_p14_lin {R S:Type} {k:S→Option R} {t1_0:Nat} {t1_1:Nat} {t3:Int} {t4:Bool} {t5:Int} {H:Heap} {fkN:Nat→Nat→Int→Bool→Heap→Option R} {gkN:Nat→Nat→Int→Bool→Heap→Option S} {fkR:Bool→Heap→Option R} {gkR:Bool→Heap→Option S} (hkN:∀ t1_0 t1_1 t3 t4 H,fkN t1_0 t1_1 t3 t4 H = (gkN t1_0 t1_1 t3 t4 H).bind k) (hkR:∀ t2 H,fkR t2 H = (gkR t2 H).bind k):g19_p14 R t1_0 t1_1 t3 t4 t5 H fkN fkR = (g19_p14 S t1_0 t1_1 t3 t4 t5 H gkN gkR).bind k:=by
  exact g19_p13_lin (fun _ _ _ _ _=>hkN _ _ _ _ _) (fun _ _=>hkR _ _)
theorem g19_p14_eq {R:Type} (t1_0:Nat) (t1_1:Nat) (t3:Int) (t4:Bool) (t5:Int) (H:Heap) (K:Ex→Fr→Heap→Option R):ev2 Try.prog (E19) loopLim lv19 Try.f19.ntmps kp19 c19_9 [(1,(V.p (some (t1_0,t1_1)))),(3,(V.i .i64 t3)),(4,(V.b t4)),(5,(V.i .i64 t5))] H K = g19_p14 R t1_0 t1_1 t3 t4 t5 H (fun t1_0 t1_1 t3 t4 H=>K .normal [(1,(V.p (some (t1_0,t1_1)))),(3,(V.i .i64 t3)),(4,(V.b t4))] H) (fun t2 H=>K .ret [(2,(V.b t2))] H):=by
  delta c19_9
  rw [ev2_block]
  delta g19_p14
  exact (g19_p13_eq t1_0 t1_1 t3 t4 t5 H (kBlock kp19 2 K))
noncomputable def g19_p15 (R:Type) (t1_0:Nat) (t1_1:Nat) (t3:Int) (t4:Bool) (H:Heap) (kN:Nat→Nat→Int→Heap→Option R) (kR:Bool→Heap→Option R):Option R :=
  sel (!t4) (
    kR true H) (
    kN t1_0 t1_1 t3 H)
theorem g19_p15_eq {R:Type} (t1_0:Nat) (t1_1:Nat) (t3:Int) (t4:Bool) (H:Heap) (K:Ex→Fr→Heap→Option R):ev2 Try.prog (E19) loopLim lv19 Try.f19.ntmps kp19 c19_10 [(1,(V.p (some (t1_0,t1_1)))),(3,(V.i .i64 t3)),(4,(V.b t4))] H K = g19_p15 R t1_0 t1_1 t3 t4 H (fun t1_0 t1_1 t3 H=>K .normal [(1,(V.p (some (t1_0,t1_1)))),(3,(V.i .i64 t3))] H) (fun t2 H=>K .ret [(2,(V.b t2))] H):=by kernel_rfl
theorem g19_p15_lin {R S:Type} {k:S→Option R} {t1_0:Nat} {t1_1:Nat} {t3:Int} {t4:Bool} {H:Heap} {fkN:Nat→Nat→Int→Heap→Option R} {gkN:Nat→Nat→Int→Heap→Option S} {fkR:Bool→Heap→Option R} {gkR:Bool→Heap→Option S} (hkN:∀ t1_0 t1_1 t3 H,fkN t1_0 t1_1 t3 H = (gkN t1_0 t1_1 t3 H).bind k) (hkR:∀ t2 H,fkR t2 H = (gkR t2 H).bind k):g19_p15 R t1_0 t1_1 t3 t4 H fkN fkR = (g19_p15 S t1_0 t1_1 t3 t4 H gkN gkR).bind k:=by
  delta g19_p15; exact (
    sl_lin (
      hkR _ _) (
      hkN _ _ _ _))
noncomputable def g19_p16 (R:Type) (t1_0:Nat) (t1_1:Nat) (t3:Int) (t4:Bool) (t5:Int) (H:Heap) (kN:Nat→Nat→Int→Heap→Option R) (kR:Bool→Heap→Option R):Option R :=
  g19_p14 R t1_0 t1_1 t3 t4 t5 H (fun t1_0 t1_1 t3 t4 H=>g19_p15 R t1_0 t1_1 t3 t4 H (fun t1_0 t1_1 t3 H=>kN t1_0 t1_1 t3 H) (fun t2 H=>kR t2 H)) (fun t2 H=>kR t2 H)
theorem g19_p16_lin {R S:Type} {k:S→Option R} {t1_0:Nat} {t1_1:Nat} {t3:Int} {t4:Bool} {t5:Int} {H:Heap} {fkN:Nat→Nat→Int→Heap→Option R} {gkN:Nat→Nat→Int→Heap→Option S} {fkR:Bool→Heap→Option R} {gkR:Bool→Heap→Option S} (hkN:∀ t1_0 t1_1 t3 H,fkN t1_0 t1_1 t3 H = (gkN t1_0 t1_1 t3 H).bind k) (hkR:∀ t2 H,fkR t2 H = (gkR t2 H).bind k):g19_p16 R t1_0 t1_1 t3 t4 t5 H fkN fkR = (g19_p16 S t1_0 t1_1 t3 t4 t5 H gkN gkR).bind k:=by
  exact g19_p14_lin (fun _ _ _ _ _=>g19_p15_lin (fun _ _ _ _=>hkN _ _ _ _) (fun _ _=>hkR _ _)) (fun _ _=>hkR _ _)
theorem g19_p16_eq {R:Type} (t1_0:Nat) (t1_1:Nat) (t3:Int) (t4:Bool) (t5:Int) (H:Heap) (K:Ex→Fr→Heap→Option R):ev2 Try.prog (E19) loopLim lv19 Try.f19.ntmps kp19 c19_11 [(1,(V.p (some (t1_0,t1_1)))),(3,(V.i .i64 t3)),(4,(V.b t4)),(5,(V.i .i64 t5))] H K = g19_p16 R t1_0 t1_1 t3 t4 t5 H (fun t1_0 t1_1 t3 H=>K .normal [(1,(V.p (some (t1_0,t1_1)))),(3,(V.i .i64 t3))] H) (fun t2 H=>K .ret [(2,(V.b t2))] H):=by
  delta c19_11
  rw [ev2_seq]
  delta g19_p16
  exact (g19_p14_eq t1_0 t1_1 t3 t4 t5 H (kSeq (fun fr H=>ev2 Try.prog (E19) loopLim lv19 Try.f19.ntmps kp19 c19_10 fr H K) K)).trans (congr (congrArg (g19_p14 R t1_0 t1_1 t3 t4 t5 H) (funext fun t1_0=>funext fun t1_1=>funext fun t3=>funext fun t4=>funext fun H=>(kSeq_n _ _ _ _).trans (g19_p15_eq t1_0 t1_1 t3 t4 H K))) rfl)
noncomputable def g19_p17 (R:Type) (t1_0:Nat) (t1_1:Nat) (t3:Int) (H:Heap) (kN:Nat→Nat→Int→Heap→Option R) (kR:Bool→Heap→Option R):Option R :=
  g19_p2 R t1_0 t1_1 t3 H (fun t1_0 t1_1 t3 t4 t5 H=>g19_p16 R t1_0 t1_1 t3 t4 t5 H (fun t1_0 t1_1 t3 H=>kN t1_0 t1_1 t3 H) (fun t2 H=>kR t2 H))
theorem g19_p17_lin {R S:Type} {k:S→Option R} {t1_0:Nat} {t1_1:Nat} {t3:Int} {H:Heap} {fkN:Nat→Nat→Int→Heap→Option R} {gkN:Nat→Nat→Int→Heap→Option S} {fkR:Bool→Heap→Option R} {gkR:Bool→Heap→Option S} (hkN:∀ t1_0 t1_1 t3 H,fkN t1_0 t1_1 t3 H = (gkN t1_0 t1_1 t3 H).bind k) (hkR:∀ t2 H,fkR t2 H = (gkR t2 H).bind k):g19_p17 R t1_0 t1_1 t3 H fkN fkR = (g19_p17 S t1_0 t1_1 t3 H gkN gkR).bind k:=by
  exact g19_p2_lin (fun _ _ _ _ _ _=>g19_p16_lin (fun _ _ _ _=>hkN _ _ _ _) (fun _ _=>hkR _ _))
theorem g19_p17_eq {R:Type} (t1_0:Nat) (t1_1:Nat) (t3:Int) (H:Heap) (K:Ex→Fr→Heap→Option R):ev2 Try.prog (E19) loopLim lv19 Try.f19.ntmps kp19 c19_12 [(1,(V.p (some (t1_0,t1_1)))),(3,(V.i .i64 t3))] H K = g19_p17 R t1_0 t1_1 t3 H (fun t1_0 t1_1 t3 H=>K .normal [(1,(V.p (some (t1_0,t1_1)))),(3,(V.i .i64 t3))] H) (fun t2 H=>K .ret [(2,(V.b t2))] H):=by
  delta c19_12
  delta g19_p17
  exact (g19_p2_eq _ t1_0 t1_1 t3 H K).trans (congrArg (g19_p2 R t1_0 t1_1 t3 H) (funext fun t1_0=>funext fun t1_1=>funext fun t3=>funext fun t4=>funext fun t5=>funext fun H=>g19_p16_eq t1_0 t1_1 t3 t4 t5 H K))
noncomputable def g19_p18 (R:Type) (t1_0:Nat) (t1_1:Nat) (t3:Int) (H:Heap) (kN:Nat→Nat→Int→Heap→Option R) (kR:Bool→Heap→Option R):Option R :=
  g19_p17 R t1_0 t1_1 t3 H (fun t1_0 t1_1 t3 H=>kN t1_0 t1_1 t3 H) (fun t2 H=>kR t2 H)
theorem g19_p18_lin {R S:Type} {k:S→Option R} {t1_0:Nat} {t1_1:Nat} {t3:Int} {H:Heap} {fkN:Nat→Nat→Int→Heap→Option R} {gkN:Nat→Nat→Int→Heap→Option S} {fkR:Bool→Heap→Option R} {gkR:Bool→Heap→Option S} (hkN:∀ t1_0 t1_1 t3 H,fkN t1_0 t1_1 t3 H = (gkN t1_0 t1_1 t3 H).bind k) (hkR:∀ t2 H,fkR t2 H = (gkR t2 H).bind k):g19_p18 R t1_0 t1_1 t3 H fkN fkR = (g19_p18 S t1_0 t1_1 t3 H gkN gkR).bind k:=by
  exact g19_p17_lin (fun _ _ _ _=>hkN _ _ _ _) (fun _ _=>hkR _ _)
theorem g19_p18_eq {R:Type} (t1_0:Nat) (t1_1:Nat) (t3:Int) (H:Heap) (K:Ex→Fr→Heap→Option R):ev2 Try.prog (E19) loopLim lv19 Try.f19.ntmps kp19 c19_13 [(1,(V.p (some (t1_0,t1_1)))),(3,(V.i .i64 t3))] H K = g19_p18 R t1_0 t1_1 t3 H (fun t1_0 t1_1 t3 H=>K .normal [(1,(V.p (some (t1_0,t1_1)))),(3,(V.i .i64 t3))] H) (fun t2 H=>K .ret [(2,(V.b t2))] H):=by
  delta c19_13
  rw [ev2_block]
  delta g19_p18
  exact (g19_p17_eq t1_0 t1_1 t3 H (kBlock kp19 1 K))
noncomputable def g19_p19 (R:Type) (t1_0:Nat) (t1_1:Nat) (t3:Int) (H:Heap) (kN:Nat→Nat→Int→Heap→Option R):Option R :=
  kN t1_0 t1_1 (IntKind.wrap .i64 (t3 + (1:Int))) H
theorem g19_p19_eq {R:Type} (t1_0:Nat) (t1_1:Nat) (t3:Int) (H:Heap) (K:Ex→Fr→Heap→Option R):ev2 Try.prog (E19) loopLim lv19 Try.f19.ntmps kp19 c19_14 [(1,(V.p (some (t1_0,t1_1)))),(3,(V.i .i64 t3))] H K = g19_p19 R t1_0 t1_1 t3 H (fun t1_0 t1_1 t3 H=>K .normal [(1,(V.p (some (t1_0,t1_1)))),(3,(V.i .i64 t3))] H):=by kernel_rfl
theorem g19_p19_lin {R S:Type} {k:S→Option R} {t1_0:Nat} {t1_1:Nat} {t3:Int} {H:Heap} {fkN:Nat→Nat→Int→Heap→Option R} {gkN:Nat→Nat→Int→Heap→Option S} (hkN:∀ t1_0 t1_1 t3 H,fkN t1_0 t1_1 t3 H = (gkN t1_0 t1_1 t3 H).bind k):g19_p19 R t1_0 t1_1 t3 H fkN = (g19_p19 S t1_0 t1_1 t3 H gkN).bind k:=by
  delta g19_p19; exact (
    hkN _ _ _ _)
noncomputable def g19_p20 (R:Type) (t1_0:Nat) (t1_1:Nat) (t3:Int) (H:Heap) (kN:Nat→Nat→Int→Heap→Option R) (kR:Bool→Heap→Option R):Option R :=
  g19_p18 R t1_0 t1_1 t3 H (fun t1_0 t1_1 t3 H=>g19_p19 R t1_0 t1_1 t3 H (fun t1_0 t1_1 t3 H=>kN t1_0 t1_1 t3 H)) (fun t2 H=>kR t2 H)
theorem g19_p20_lin {R S:Type} {k:S→Option R} {t1_0:Nat} {t1_1:Nat} {t3:Int} {H:Heap} {fkN:Nat→Nat→Int→Heap→Option R} {gkN:Nat→Nat→Int→Heap→Option S} {fkR:Bool→Heap→Option R} {gkR:Bool→Heap→Option S} (hkN:∀ t1_0 t1_1 t3 H,fkN t1_0 t1_1 t3 H = (gkN t1_0 t1_1 t3 H).bind k) (hkR:∀ t2 H,fkR t2 H = (gkR t2 H).bind k):g19_p20 R t1_0 t1_1 t3 H fkN fkR = (g19_p20 S t1_0 t1_1 t3 H gkN gkR).bind k:=by
  exact g19_p18_lin (fun _ _ _ _=>g19_p19_lin (fun _ _ _ _=>hkN _ _ _ _)) (fun _ _=>hkR _ _)
theorem g19_p20_eq {R:Type} (t1_0:Nat) (t1_1:Nat) (t3:Int) (H:Heap) (K:Ex→Fr→Heap→Option R):ev2 Try.prog (E19) loopLim lv19 Try.f19.ntmps kp19 c19_15 [(1,(V.p (some (t1_0,t1_1)))),(3,(V.i .i64 t3))] H K = g19_p20 R t1_0 t1_1 t3 H (fun t1_0 t1_1 t3 H=>K .normal [(1,(V.p (some (t1_0,t1_1)))),(3,(V.i .i64 t3))] H) (fun t2 H=>K .ret [(2,(V.b t2))] H):=by
  delta c19_15
  rw [ev2_seq]
  delta g19_p20
  exact (g19_p18_eq t1_0 t1_1 t3 H (kSeq (fun fr H=>ev2 Try.prog (E19) loopLim lv19 Try.f19.ntmps kp19 c19_14 fr H K) K)).trans (congr (congrArg (g19_p18 R t1_0 t1_1 t3 H) (funext fun t1_0=>funext fun t1_1=>funext fun t3=>funext fun H=>(kSeq_n _ _ _ _).trans (g19_p19_eq t1_0 t1_1 t3 H K))) rfl)
noncomputable def g19_p21 (R:Type) (t1_0:Nat) (t1_1:Nat) (t3:Int) (H:Heap) (kN:Nat→Nat→Int→Heap→Option R) (kE0:Heap→Option R) (kR:Bool→Heap→Option R):Option R :=
  g19_p1 R t1_0 t1_1 t3 H (fun t1_0 t1_1 t3 H=>g19_p20 R t1_0 t1_1 t3 H (fun t1_0 t1_1 t3 H=>kN t1_0 t1_1 t3 H) (fun t2 H=>kR t2 H)) (fun H=>kE0  H)
theorem g19_p21_lin {R S:Type} {k:S→Option R} {t1_0:Nat} {t1_1:Nat} {t3:Int} {H:Heap} {fkN:Nat→Nat→Int→Heap→Option R} {gkN:Nat→Nat→Int→Heap→Option S} {fkE0:Heap→Option R} {gkE0:Heap→Option S} {fkR:Bool→Heap→Option R} {gkR:Bool→Heap→Option S} (hkN:∀ t1_0 t1_1 t3 H,fkN t1_0 t1_1 t3 H = (gkN t1_0 t1_1 t3 H).bind k) (hkE0:∀ H,fkE0 H = (gkE0 H).bind k) (hkR:∀ t2 H,fkR t2 H = (gkR t2 H).bind k):g19_p21 R t1_0 t1_1 t3 H fkN fkE0 fkR = (g19_p21 S t1_0 t1_1 t3 H gkN gkE0 gkR).bind k:=by
  exact g19_p1_lin (fun _ _ _ _=>g19_p20_lin (fun _ _ _ _=>hkN _ _ _ _) (fun _ _=>hkR _ _)) (fun _=>hkE0 _)
theorem g19_p21_eq {R:Type} (t1_0:Nat) (t1_1:Nat) (t3:Int) (H:Heap) (K:Ex→Fr→Heap→Option R):ev2 Try.prog (E19) loopLim lv19 Try.f19.ntmps kp19 c19_16 [(1,(V.p (some (t1_0,t1_1)))),(3,(V.i .i64 t3))] H K = g19_p21 R t1_0 t1_1 t3 H (fun t1_0 t1_1 t3 H=>K .normal [(1,(V.p (some (t1_0,t1_1)))),(3,(V.i .i64 t3))] H) (fun H=>K (.exit 0) [] H) (fun t2 H=>K .ret [(2,(V.b t2))] H):=by
  delta c19_16
  delta g19_p21
  exact (g19_p1_eq _ t1_0 t1_1 t3 H K).trans (congr (congrArg (g19_p1 R t1_0 t1_1 t3 H) (funext fun t1_0=>funext fun t1_1=>funext fun t3=>funext fun H=>g19_p20_eq t1_0 t1_1 t3 H K)) rfl)
abbrev g19_p22_S:=Nat × Nat × Int
abbrev g19_p22_O:=Sum (Unit) (Bool)
def g19_p22_es (s:g19_p22_S):Fr:=[(1,(V.p (some (s.1,s.2.1)))),(3,(V.i .i64 s.2.2))]
def g19_p22_er:g19_p22_O→Ex × Fr
  | (.inl r)=>((.exit 0),[])
  | (.inr r)=>(.ret,[(2,(V.b r))])
noncomputable def g19_p22_b (s:g19_p22_S) (H:Heap):Option (Rd g19_p22_S g19_p22_O × Heap) :=
  g19_p21 _ s.1 s.2.1 s.2.2 H (fun t1_0 t1_1 t3 H=>some (.go (t1_0,t1_1,t3),H)) (fun H=>some (.up (.inl ()),H)) (fun t2 H=>some (.up (.inr t2),H))
noncomputable def g19_p22 (R:Type) (t1_0:Nat) (t1_1:Nat) (t3:Int) (H:Heap) (kE0:Heap→Option R) (kR:Bool→Heap→Option R):Option R :=
  (tlim (g19_p22_b) (t1_0,t1_1,t3) H).bind fun p=>cas p.1 (fun r=>kE0  p.2) (fun r0=>kR r0 p.2)
theorem g19_p22_lin {R S:Type} {k:S→Option R} {t1_0:Nat} {t1_1:Nat} {t3:Int} {H:Heap} {fkE0:Heap→Option R} {gkE0:Heap→Option S} {fkR:Bool→Heap→Option R} {gkR:Bool→Heap→Option S} (hkE0:∀ H,fkE0 H = (gkE0 H).bind k) (hkR:∀ t2 H,fkR t2 H = (gkR t2 H).bind k):g19_p22 R t1_0 t1_1 t3 H fkE0 fkR = (g19_p22 S t1_0 t1_1 t3 H gkE0 gkR).bind k:=by
  exact bl fun p=>cas_lin (fun _=>hkE0 _) (fun _=>hkR _ _)
theorem g19_p22_eq {R:Type} (t1_0:Nat) (t1_1:Nat) (t3:Int) (H:Heap) (K:Ex→Fr→Heap→Option R):ev2 Try.prog (E19) loopLim lv19 Try.f19.ntmps kp19 c19_17 [(1,(V.p (some (t1_0,t1_1)))),(3,(V.i .i64 t3))] H K = g19_p22 R t1_0 t1_1 t3 H (fun H=>K (.exit 0) [] H) (fun t2 H=>K .ret [(2,(V.b t2))] H):=by
  delta c19_17
  delta g19_p22
  refine (ev2_tlim (b:=g19_p22_b) (es:=g19_p22_es) (er:=g19_p22_er) (by rintro (r | r) <;> exact nofun) (fun s H=>?_) (t1_0,t1_1,t3) H K).trans (bc fun p=>by rcases p with ⟨(r | r),H⟩ <;> rfl)
  exact (g19_p21_eq s.1 s.2.1 s.2.2 H ret3).trans (g19_p21_lin (fun _ _ _ _=>rfl) (fun _=>rfl) (fun _ _=>rfl))
noncomputable def g19_p23 (R:Type) (t1_0:Nat) (t1_1:Nat) (t3:Int) (H:Heap) (kN:Heap→Option R) (kR:Bool→Heap→Option R):Option R :=
  g19_p22 R t1_0 t1_1 t3 H (fun H=>kN  H) (fun t2 H=>kR t2 H)
theorem g19_p23_lin {R S:Type} {k:S→Option R} {t1_0:Nat} {t1_1:Nat} {t3:Int} {H:Heap} {fkN:Heap→Option R} {gkN:Heap→Option S} {fkR:Bool→Heap→Option R} {gkR:Bool→Heap→Option S} (hkN:∀ H,fkN H = (gkN H).bind k) (hkR:∀ t2 H,fkR t2 H = (gkR t2 H).bind k):g19_p23 R t1_0 t1_1 t3 H fkN fkR = (g19_p23 S t1_0 t1_1 t3 H gkN gkR).bind k:=by
  exact g19_p22_lin (fun _=>hkN _) (fun _ _=>hkR _ _)
theorem g19_p23_eq {R:Type} (t1_0:Nat) (t1_1:Nat) (t3:Int) (H:Heap) (K:Ex→Fr→Heap→Option R):ev2 Try.prog (E19) loopLim lv19 Try.f19.ntmps kp19 c19_18 [(1,(V.p (some (t1_0,t1_1)))),(3,(V.i .i64 t3))] H K = g19_p23 R t1_0 t1_1 t3 H (fun H=>K .normal [] H) (fun t2 H=>K .ret [(2,(V.b t2))] H):=by
  delta c19_18
  rw [ev2_block]
  delta g19_p23
  exact (g19_p22_eq t1_0 t1_1 t3 H (kBlock kp19 0 K))
noncomputable def g19_p24 (R:Type) (H:Heap) (kR:Bool→Heap→Option R):Option R :=
  kR false H
theorem g19_p24_eq {R:Type} (H:Heap) (K:Ex→Fr→Heap→Option R):ev2 Try.prog (E19) loopLim lv19 Try.f19.ntmps kp19 c19_19 [] H K = g19_p24 R H (fun t2 H=>K .ret [(2,(V.b t2))] H):=by kernel_rfl
theorem g19_p24_lin {R S:Type} {k:S→Option R} {H:Heap} {fkR:Bool→Heap→Option R} {gkR:Bool→Heap→Option S} (hkR:∀ t2 H,fkR t2 H = (gkR t2 H).bind k):g19_p24 R H fkR = (g19_p24 S H gkR).bind k:=by
  delta g19_p24; exact (
    hkR _ _)
noncomputable def g19_p25 (R:Type) (t1_0:Nat) (t1_1:Nat) (t3:Int) (H:Heap) (kR:Bool→Heap→Option R):Option R :=
  g19_p23 R t1_0 t1_1 t3 H (fun H=>g19_p24 R H (fun t2 H=>kR t2 H)) (fun t2 H=>kR t2 H)
theorem g19_p25_lin {R S:Type} {k:S→Option R} {t1_0:Nat} {t1_1:Nat} {t3:Int} {H:Heap} {fkR:Bool→Heap→Option R} {gkR:Bool→Heap→Option S} (hkR:∀ t2 H,fkR t2 H = (gkR t2 H).bind k):g19_p25 R t1_0 t1_1 t3 H fkR = (g19_p25 S t1_0 t1_1 t3 H gkR).bind k:=by
  exact g19_p23_lin (fun _=>g19_p24_lin (fun _ _=>hkR _ _)) (fun _ _=>hkR _ _)
theorem g19_p25_eq {R:Type} (t1_0:Nat) (t1_1:Nat) (t3:Int) (H:Heap) (K:Ex→Fr→Heap→Option R):ev2 Try.prog (E19) loopLim lv19 Try.f19.ntmps kp19 c19_20 [(1,(V.p (some (t1_0,t1_1)))),(3,(V.i .i64 t3))] H K = g19_p25 R t1_0 t1_1 t3 H (fun t2 H=>K .ret [(2,(V.b t2))] H):=by
  delta c19_20
  rw [ev2_seq]
  delta g19_p25
  exact (g19_p23_eq t1_0 t1_1 t3 H (kSeq (fun fr H=>ev2 Try.prog (E19) loopLim lv19 Try.f19.ntmps kp19 c19_19 fr H K) K)).trans (congr (congrArg (g19_p23 R t1_0 t1_1 t3 H) (funext fun H=>(kSeq_n _ _ _ _).trans (g19_p24_eq H K))) rfl)
noncomputable def g19_p26 (R:Type) (t0_0:Option (Nat × Nat)) (t0_1:Option (Nat × Nat)) (H:Heap) (kR:Bool→Heap→Option R):Option R :=
  g19_p0 R t0_0 t0_1 H (fun t1_0 t1_1 t3 H=>g19_p25 R t1_0 t1_1 t3 H (fun t2 H=>kR t2 H))
theorem g19_p26_lin {R S:Type} {k:S→Option R} {t0_0:Option (Nat × Nat)} {t0_1:Option (Nat × Nat)} {H:Heap} {fkR:Bool→Heap→Option R} {gkR:Bool→Heap→Option S} (hkR:∀ t2 H,fkR t2 H = (gkR t2 H).bind k):g19_p26 R t0_0 t0_1 H fkR = (g19_p26 S t0_0 t0_1 H gkR).bind k:=by
  exact g19_p0_lin (fun _ _ _ _=>g19_p25_lin (fun _ _=>hkR _ _))
theorem g19_p26_eq {R:Type} (t0_0:Option (Nat × Nat)) (t0_1:Option (Nat × Nat)) (H:Heap) (K:Ex→Fr→Heap→Option R):ev2 Try.prog (E19) loopLim lv19 Try.f19.ntmps kp19 c19_21 [(0,(V.agg [(V.p t0_0),(V.p t0_1)]))] H K = g19_p26 R t0_0 t0_1 H (fun t2 H=>K .ret [(2,(V.b t2))] H):=by
  delta c19_21
  delta g19_p26
  exact (g19_p0_eq _ t0_0 t0_1 H K).trans (congrArg (g19_p0 R t0_0 t0_1 H) (funext fun t1_0=>funext fun t1_1=>funext fun t3=>funext fun H=>g19_p25_eq t1_0 t1_1 t3 H K))
noncomputable def g19_r:T19:=fun R t0_0 t0_1 H K =>
  g19_p26 R t0_0 t0_1 H (fun t2 H =>
    K t2 H)
theorem g19_r_lin:Lin19 (g19_r):=by
  constructor
  intro R S k t0_0 t0_1 H f g h
  exact g19_p26_lin (fun t2 H =>
    h _ _)
theorem g19_fn {R:Type} (t0_0:Option (Nat × Nat)) (t0_1:Option (Nat × Nat)) (H:Heap) (K:V→Heap→Option R):evFn2 Try.prog (E19) loopLim lv19 Try.f19 kp19 [(V.agg [(V.p t0_0),(V.p t0_1)])] H K = g19_r R t0_0 t0_1 H (fun r0 H=>K (V.b r0) H):=by
  have h0 : ∀ (t2 : Bool) (H : Heap), kFn2 Try.prog Try.f19.results.toList K .ret [(2, (V.b t2))] H =
      K (V.b t2) H:=by intros; kernel_rfl
  have e0:=evFn2_code2 (P:=Try.prog) (c:=c19_21) (E:=(E19)) (lr:=loopLim) (lv:=lv19) (kp:=kp19) (fn:=Try.f19) (args:=[(V.agg [(V.p t0_0),(V.p t0_1)])]) H K (by kernel_rfl) (Nat.le_of_ble_eq_true (by kernel_rfl)) (by kernel_rfl) (by kernel_rfl)
  have e1:ev2 Try.prog (E19) loopLim lv19 Try.f19.ntmps kp19 c19_21 (argFr 0 [(V.agg [(V.p t0_0),(V.p t0_1)])]) H (kFn2 Try.prog Try.f19.results.toList K) = ev2 Try.prog (E19) loopLim lv19 Try.f19.ntmps kp19 c19_21 [(0,(V.agg [(V.p t0_0),(V.p t0_1)]))] H (kFn2 Try.prog Try.f19.results.toList K):=by kernel_rfl
  refine (e0.trans e1).trans ?_
  delta g19_r
  exact (g19_p26_eq t0_0 t0_1 H (kFn2 Try.prog Try.f19.results.toList K)).trans (congrArg (g19_p26 R t0_0 t0_1 H) (funext fun t2=>funext fun H=>h0 t2 H))
theorem g19_ok:FunOK Try.prog 19 (w19 (g19_r)):=by
  refine (runF2_ok (E19_good) mixed lim_ok Try.func19 (by kernel_rfl) lv19 kp19).of_le fun R args H K r hk=>?_
  unfold w19 at hk
  split at hk
  · exact (g19_fn _ _ H K).trans hk
  · cases hk
noncomputable def g19:T19:=g19_r
theorem g19_lin:Lin19 g19:=g19_r_lin
theorem ok19:FunOK Try.prog 19 (w19 g19):=g19_ok
def kp40:Nat→Option (List Nat):=kpOf [(0,[0]),(1,[2]),(300000,[2])]
def E40:FEnv:=[]
theorem E40_good:EnvGood Try.prog E40:=(EnvGood.nil _)
theorem E40_lin:EnvLin E40:=fun g F h=>by cases h
def lv40:Nat→Bool:=lvOf []
noncomputable def b40:Code:=Try.f40.body.getD .skip
noncomputable def c40_0:Code:=(.seq (codeAt [0] b40) (.seq (codeAt [1,0] b40) .ret))
noncomputable def g40_p0 (R:Type) (t0:Sl) (H:Heap) (kR:Sl→Heap→Option R):Option R :=
  slOf 6 t0 none (some ((t0.len:Nat):Int)) (some ((t0.len:Nat):Int)) fun s1 =>
  kR s1 H
theorem g40_p0_eq {R:Type} (t0:Sl) (H:Heap) (K:Ex→Fr→Heap→Option R):ev2 Try.prog E40 loopLim lv40 Try.f40.ntmps kp40 c40_0 [(0,(V.sl t0))] H K = g40_p0 R t0 H (fun t2 H=>K .ret [(2,(V.sl t2))] H):=by kernel_rfl
theorem g40_p0_lin {R S:Type} {k:S→Option R} {t0:Sl} {H:Heap} {fkR:Sl→Heap→Option R} {gkR:Sl→Heap→Option S} (hkR:∀ t2 H,fkR t2 H = (gkR t2 H).bind k):g40_p0 R t0 H fkR = (g40_p0 S t0 H gkR).bind k:=by
  delta g40_p0; exact (
    slOf_lin fun s1 =>
    hkR _ _)
noncomputable def g40_r:T40:=fun R t0 H K =>
  g40_p0 R t0 H (fun t2 H =>
    K t2 H)
theorem g40_r_lin:Lin40 (g40_r):=by
  constructor
  intro R S k t0 H f g h
  exact g40_p0_lin (fun t2 H =>
    h _ _)
theorem g40_fn {R:Type} (t0:Sl) (H:Heap) (K:V→Heap→Option R):evFn2 Try.prog E40 loopLim lv40 Try.f40 kp40 [(V.sl t0)] H K = g40_r R t0 H (fun r0 H=>K (V.sl r0) H):=by
  have h0 : ∀ (t2 : Sl) (H : Heap), kFn2 Try.prog Try.f40.results.toList K .ret [(2, (V.sl t2))] H =
      K (V.sl t2) H:=by intros; kernel_rfl
  have e0:=evFn2_code2 (P:=Try.prog) (c:=c40_0) (E:=E40) (lr:=loopLim) (lv:=lv40) (kp:=kp40) (fn:=Try.f40) (args:=[(V.sl t0)]) H K (by kernel_rfl) (Nat.le_of_ble_eq_true (by kernel_rfl)) (by kernel_rfl) (by kernel_rfl)
  have e1:ev2 Try.prog E40 loopLim lv40 Try.f40.ntmps kp40 c40_0 (argFr 0 [(V.sl t0)]) H (kFn2 Try.prog Try.f40.results.toList K) = ev2 Try.prog E40 loopLim lv40 Try.f40.ntmps kp40 c40_0 [(0,(V.sl t0))] H (kFn2 Try.prog Try.f40.results.toList K):=by kernel_rfl
  refine (e0.trans e1).trans ?_
  delta g40_r
  exact (g40_p0_eq t0 H (kFn2 Try.prog Try.f40.results.toList K)).trans (congrArg (g40_p0 R t0 H) (funext fun t2=>funext fun H=>h0 t2 H))
theorem g40_ok:FunOK Try.prog 40 (w40 (g40_r)):=by
  refine (runF2_ok (E40_good) mixed lim_ok Try.func40 (by kernel_rfl) lv40 kp40).of_le fun R args H K r hk=>?_
  unfold w40 at hk
  split at hk
  · exact (g40_fn _ H K).trans hk
  · cases hk
noncomputable def g40:T40:=g40_r
theorem g40_lin:Lin40 g40:=g40_r_lin
theorem ok40:FunOK Try.prog 40 (w40 g40):=g40_ok
def kp20:Nat→Option (List Nat):=kpOf [(0,[0]),(1,[0,6]),(2,[2]),(3,[0,3]),(4,[3]),(5,[2]),(300000,[2]),(400006,[0])]
noncomputable def E20:FEnv:=[(37,w37 g37),(40,w40 g40)]
theorem E20_good:EnvGood Try.prog (E20):=(((EnvGood.nil _).cons ok40 (w40_lin g40_lin)).cons ok37 (w37_lin g37_lin))
theorem E20_lin:EnvLin (E20):=by
  intro g F h
  simp only [E20,List.mem_cons,List.not_mem_nil,or_false] at h
  rcases h with h | h
  · cases h; exact w37_lin g37_lin
  · cases h; exact w40_lin g40_lin
def lv20:Nat→Bool:=lvOf []
noncomputable def b20:Code:=Try.f20.body.getD .skip
noncomputable def c20_0:Code:=(.seq (codeAt [0] b20) (.seq (codeAt [1,0,0] b20) (.seq (.cond (.tmp 6) (.seq (codeAt [1,0,1,0,0] b20) .ret) .skip) (.seq (codeAt [1,1,0] b20) (.seq (codeAt [1,1,1,0] b20) (.seq (codeAt [1,1,1,1,0] b20) .ret))))))
noncomputable def g20_p0 (R:Type) (t0:Option (Nat × Nat)) (H:Heap) (kR:Sl→Heap→Option R):Option R :=
  g37 R t0 H fun x1 h2 =>
  sel (!x1) (
    kR (Sl.mk none 0 (.ex 0)) h2) (
    (t0).bind fun q3 =>
    ((h2).ldSl q3.1 (q3.2 + 8)).bind fun x4 =>
    g40 R x4 h2 fun x5 h6 =>
    (t0).bind fun q7 =>
    ((h6).st q7.1 (q7.2 + 8) (V.sl (Sl.mk none 0 (.ex 0)))).bind fun h9 =>
    kR x5 h9)
theorem g20_p0_eq {R:Type} (t0:Option (Nat × Nat)) (H:Heap) (K:Ex→Fr→Heap→Option R):ev2 Try.prog (E20) loopLim lv20 Try.f20.ntmps kp20 c20_0 [(0,(V.p t0))] H K = g20_p0 R t0 H (fun t2 H=>K .ret [(2,(V.sl t2))] H):=by kernel_rfl
theorem g20_p0_lin {R S:Type} {k:S→Option R} {t0:Option (Nat × Nat)} {H:Heap} {fkR:Sl→Heap→Option R} {gkR:Sl→Heap→Option S} (hkR:∀ t2 H,fkR t2 H = (gkR t2 H).bind k):g20_p0 R t0 H fkR = (g20_p0 S t0 H gkR).bind k:=by
  delta g20_p0; exact (
    g37_lin.l fun x1 h2 =>
    sl_lin (
      hkR _ _) (
      bl fun q3 =>
      bl fun x4 =>
      g40_lin.l fun x5 h6 =>
      bl fun q7 =>
      bl fun h9 =>
      hkR _ _))
noncomputable def g20_r:T20:=fun R t0 H K =>
  g20_p0 R t0 H (fun t2 H =>
    K t2 H)
theorem g20_r_lin:Lin20 (g20_r):=by
  constructor
  intro R S k t0 H f g h
  exact g20_p0_lin (fun t2 H =>
    h _ _)
theorem g20_fn {R:Type} (t0:Option (Nat × Nat)) (H:Heap) (K:V→Heap→Option R):evFn2 Try.prog (E20) loopLim lv20 Try.f20 kp20 [(V.p t0)] H K = g20_r R t0 H (fun r0 H=>K (V.sl r0) H):=by
  have h0 : ∀ (t2 : Sl) (H : Heap), kFn2 Try.prog Try.f20.results.toList K .ret [(2, (V.sl t2))] H =
      K (V.sl t2) H:=by intros; kernel_rfl
  have e0:=evFn2_code2 (P:=Try.prog) (c:=c20_0) (E:=(E20)) (lr:=loopLim) (lv:=lv20) (kp:=kp20) (fn:=Try.f20) (args:=[(V.p t0)]) H K (by kernel_rfl) (Nat.le_of_ble_eq_true (by kernel_rfl)) (by kernel_rfl) (by kernel_rfl)
  have e1:ev2 Try.prog (E20) loopLim lv20 Try.f20.ntmps kp20 c20_0 (argFr 0 [(V.p t0)]) H (kFn2 Try.prog Try.f20.results.toList K) = ev2 Try.prog (E20) loopLim lv20 Try.f20.ntmps kp20 c20_0 [(0,(V.p t0))] H (kFn2 Try.prog Try.f20.results.toList K):=by kernel_rfl
  refine (e0.trans e1).trans ?_
  delta g20_r
  exact (g20_p0_eq t0 H (kFn2 Try.prog Try.f20.results.toList K)).trans (congrArg (g20_p0 R t0 H) (funext fun t2=>funext fun H=>h0 t2 H))
theorem g20_ok:FunOK Try.prog 20 (w20 (g20_r)):=by
  refine (runF2_ok (E20_good) mixed lim_ok Try.func20 (by kernel_rfl) lv20 kp20).of_le fun R args H K r hk=>?_
  unfold w20 at hk
  split at hk
  · exact (g20_fn _ H K).trans hk
  · cases hk
noncomputable def g20:T20:=g20_r
theorem g20_lin:Lin20 g20:=g20_r_lin
theorem ok20:FunOK Try.prog 20 (w20 g20):=g20_ok
end Go.Proofs.Ytnlfkllnmobppaa

