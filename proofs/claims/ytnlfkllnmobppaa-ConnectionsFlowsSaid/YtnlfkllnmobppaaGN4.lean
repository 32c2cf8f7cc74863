/- Printed: functions as the machine runs them. -/
import Derived.Test.YtnlfkllnmobppaaGN3
namespace Go.Proofs.Ytnlfkllnmobppaa
open Go AM Go.RowKit
set_option linter.unusedVariables false
def kp22:Nat→Option (List Nat):=kpOf [(0,[1,2,4,7,500007,1000007]),(1,[1,2,4,7,9,10,500007,1000007]),(2,[1,2,4,7,9,10,11,500007,1000007]),(3,[1,2,4,7,9,10,11,12,500007,500012,1000007,1000012]),(4,[1,2,4,7,9,10,11,12,13,500007,500012,1000007,1000012]),(5,[1,2,4,7,9,10,11,12,13,500007,500012,1000007,1000012]),(6,[1,2,4,7,9,10,11,12,13,34,500007,500012,1000007,1000012]),(7,[1,2,4,9,10,11,12,53,500012,1000012]),(8,[8]),(9,[1,2,4,9,10,11,12,58,500012,1000012]),(10,[1,2,4,9,10,11,12,500012,1000012]),(11,[1,2,4,9,10,11,12,63,500012,1000012]),(12,[1,2,4,9,10,11,12,500012,1000012]),(13,[1,2,4,10,11,12,14,500012,1000012]),(14,[1,2,4,11,12,14,500012,1000012]),(15,[1,2,4,11,12,13,14,500012,1000012]),(16,[1,2,4,7,9,10,11,12,13,34,73,500007,500012,1000007,1000012]),(17,[1,2,4,7,9,10,11,12,13,34,73,500007,500012,1000007,1000012]),(18,[1,2,4,7,9,10,11,12,80,500007,500012,1000007,1000012]),(19,[1,2,4,7,9,10,11,12,500007,500012,1000007,1000012]),(20,[1,2,4,7,9,10,11,12,93,500007,500012,1000007,1000012]),(21,[1,2,4,7,9,10,11,12,500007,500012,1000007,1000012]),(22,[1,2,4,7,9,10,11,12,97,500007,500012,1000007,1000012]),(23,[1,2,4,10,11,12,14,500012,1000012]),(24,[1,2,4,11,12,14,500012,1000012]),(25,[1,2,4,11,12,13,14,500012,1000012]),(26,[1,2,4,7,10,11,12,14,500007,500012,1000007,1000012]),(27,[1,2,4,11,12,14,500012,1000012]),(28,[1,2,4,11,12,13,14,500012,1000012]),(29,[1,2,4,7,9,10,11,12,13,34,124,500007,500012,1000007,1000012]),(30,[1,2,4,7,9,10,11,12,13,124,500007,500012,1000007,1000012]),(31,[1,2,4,7,9,10,11,12,13,131,500007,500012,1000007,1000012]),(32,[1,2,4,7,9,10,11,12,13,500007,500012,1000007,1000012]),(33,[1,2,4,7,9,10,11,12,13,136,500007,500012,1000007,1000012]),(34,[1,2,4,7,9,10,11,12,13,500007,500012,1000007,1000012]),(35,[1,2,4,7,10,11,12,13,14,500007,500012,1000007,1000012]),(36,[1,2,4,11,12,13,14,500012,1000012]),(37,[1,2,4,12,13,14,157,500012,1000012]),(38,[8]),(39,[1,2,4,12,13,159,500012,1000012]),(40,[2,4,12,500012,1000012]),(41,[2,4,12,500012,1000012]),(42,[8]),(100000,[1,2,4,11,12,13,14,500012,1000012]),(200000,[1,2,4,7,9,10,11,12,13,34,500007,500012,1000007,1000012]),(300000,[8]),(400053,[1,2,4,9,10,11,12,500012,1000012]),(400058,[1,2,4,9,10,11,12,500012,1000012]),(400063,[1,2,4,9,10,11,12,500012,1000012]),(400073,[1,2,4,7,9,10,11,12,13,14,34,73,500007,500012,1000007,1000012]),(400080,[1,2,4,7,9,10,11,12,500007,500012,1000007,1000012]),(400093,[1,2,4,7,9,10,11,12,500007,500012,1000007,1000012]),(400097,[1,2,4,11,12,13,14,500012,1000012]),(400124,[1,2,4,7,9,10,11,12,13,14,124,500007,500012,1000007,1000012]),(400131,[1,2,4,7,9,10,11,12,13,500007,500012,1000007,1000012]),(400136,[1,2,4,7,9,10,11,12,13,500007,500012,1000007,1000012]),(400157,[1,2,4,12,13,14,500012,1000012]),(400159,[2,4,12,500012,1000012])]
noncomputable def E22:FEnv:=[(27,w27 g27),(19,w19 g19),(21,w21 g21),(33,w33 g33),(28,w28 g28),(32,w32 g32)]
theorem E22_good:EnvGood Try.prog (E22):=(((((((EnvGood.nil _).cons ok32 (w32_lin g32_lin)).cons ok28 (w28_lin g28_lin)).cons ok33 (w33_lin g33_lin)).cons ok21 (w21_lin g21_lin)).cons ok19 (w19_lin g19_lin)).cons ok27 (w27_lin g27_lin))
theorem E22_lin:EnvLin (E22):=by
  intro g F h
  simp only [E22,List.mem_cons,List.not_mem_nil,or_false] at h
  rcases h with h | h | h | h | h | h
  · cases h; exact w27_lin g27_lin
  · cases h; exact w19_lin g19_lin
  · cases h; exact w21_lin g21_lin
  · cases h; exact w33_lin g33_lin
  · cases h; exact w28_lin g28_lin
  · cases h; exact w32_lin g32_lin
def lv22:Nat→Bool:=lvOf [7,12]
noncomputable def b22:Code:=Try.f22.body.getD .skip
noncomputable def c22_0:Code:=(.seq (codeAt [1,1,1,1,1,1,0,1,0,1,0,0,0] b22) (.seq (.cond (.tmp 80) (codeAt [1,1,1,1,1,1,0,1,0,1,0,0,1,0] b22) (.seq (codeAt [1,1,1,1,1,1,0,1,0,1,0,0,1,1,0] b22) (.cond (.tmp 93) (codeAt [1,1,1,1,1,1,0,1,0,1,0,0,1,1,1,0] b22) .skip))) (.seq (codeAt [1,1,1,1,1,1,0,1,0,1,0,1,0] b22) (.cond (.tmp 97) (.seq (codeAt [1,1,1,1,1,1,0,1,0,1,0,1,1,0,0] b22) (.seq (codeAt [1,1,1,1,1,1,0,1,0,1,0,1,1,0,1,0] b22) (codeAt [1,1,1,1,1,1,0,1,0,1,0,1,1,0,1,1] b22))) (.seq (codeAt [1,1,1,1,1,1,0,1,0,1,0,1,1,1,0] b22) (.seq (codeAt [1,1,1,1,1,1,0,1,0,1,0,1,1,1,1,0] b22) (codeAt [1,1,1,1,1,1,0,1,0,1,0,1,1,1,1,1] b22)))))))
noncomputable def c22_1:Code:=(.cond (.tmp 124) (.seq (codeAt [1,1,1,1,1,1,0,1,0,1,1,1,0,0,0] b22) (.seq (.cond (.tmp 131) (codeAt [1,1,1,1,1,1,0,1,0,1,1,1,0,0,1,0] b22) (.seq (codeAt [1,1,1,1,1,1,0,1,0,1,1,1,0,0,1,1,0] b22) (.cond (.tmp 136) (codeAt [1,1,1,1,1,1,0,1,0,1,1,1,0,0,1,1,1,0] b22) .skip))) (.seq (codeAt [1,1,1,1,1,1,0,1,0,1,1,1,0,1,0] b22) (codeAt [1,1,1,1,1,1,0,1,0,1,1,1,0,1,1] b22)))) (.seq (codeAt [1,1,1,1,1,1,0,1,0,1,1,1,1,0,0] b22) (.seq (.cond (.tmp 53) (.seq (codeAt [1,1,1,1,1,1,0,1,0,1,1,1,1,0,1,0,0] b22) .ret) .skip) (.seq (codeAt [1,1,1,1,1,1,0,1,0,1,1,1,1,1,0,0] b22) (.seq (.cond (.tmp 58) (codeAt [1,1,1,1,1,1,0,1,0,1,1,1,1,1,0,1,0] b22) (.seq (codeAt [1,1,1,1,1,1,0,1,0,1,1,1,1,1,0,1,1,0] b22) (.cond (.tmp 63) (codeAt [1,1,1,1,1,1,0,1,0,1,1,1,1,1,0,1,1,1,0] b22) .skip))) (.seq (codeAt [1,1,1,1,1,1,0,1,0,1,1,1,1,1,1,0] b22) (.seq (codeAt [1,1,1,1,1,1,0,1,0,1,1,1,1,1,1,1,0] b22) (codeAt [1,1,1,1,1,1,0,1,0,1,1,1,1,1,1,1,1] b22))))))))
noncomputable def c22_2:Code:=(.seq (codeAt [1,1,1,1,1,1,0,1,0,1,1,0,0] b22) (.seq (.cond (.tmp 124) .skip (codeAt [1,1,1,1,1,1,0,1,0,1,1,0,1,1] b22)) c22_1))
noncomputable def c22_3:Code:=(.cond (.tmp 73) c22_0 c22_2)
noncomputable def c22_4:Code:=(.seq (codeAt [1,1,1,1,1,1,0,1,0,0,0] b22) (.seq (.cond (.tmp 73) .skip (codeAt [1,1,1,1,1,1,0,1,0,0,1,1] b22)) c22_3))
noncomputable def c22_5:Code:=(.block 0 c22_4)
noncomputable def c22_6:Code:=(.seq (codeAt [1,1,1,1,1,1,1,0,0] b22) (.seq (.cond (.tmp 157) (.seq (codeAt [1,1,1,1,1,1,1,0,1,0,0] b22) .ret) .skip) (.seq (codeAt [1,1,1,1,1,1,1,1,0,0] b22) (.seq (.cond (.tmp 159) (codeAt [1,1,1,1,1,1,1,1,0,1,0] b22) (codeAt [1,1,1,1,1,1,1,1,0,1,1] b22)) (.seq (codeAt [1,1,1,1,1,1,1,1,1,0] b22) .ret)))))
noncomputable def c22_7:Code:=(.seq c22_5 c22_6)
noncomputable def c22_8:Code:=(.seq (codeAt [0] b22) (.seq (codeAt [1,0] b22) (.seq (codeAt [1,1,0] b22) (.seq (codeAt [1,1,1,0] b22) (.seq (codeAt [1,1,1,1,0] b22) (.seq (codeAt [1,1,1,1,1,0] b22) (.seq (codeAt [1,1,1,1,1,1,0,0] b22) c22_7)))))))
noncomputable def g22_p0 (R:Type) (t0_0:Option (Nat × Nat)) (t0_1:Option (Nat × Nat)) (t1:Option (Nat × Nat)) (t2:Int) (t3_0:Int) (t3_1:Int) (t3_2:Int) (t3_3:Sl) (H:Heap) (kN:Option (Nat × Nat)→Int→Nat→Nat→Int→Int→Int→Int→Int→Int→Int→Int→Sl→Int→Int→Int→Int→Int→Sl→Heap→Option R):Option R :=
  alo H (.cells [(V.p t0_0),(V.p t0_1)] 40 false) fun i1265 h1266 =>
  (t1).bind fun q1267 =>
  if 0 ≤ t2∧t2 < ((2:Nat):Int) then (
    ((h1266).ldI .u32 q1267.1 ((q1267.2 + 1) + Int.toNat t2 * 1)).bind fun x1268 =>
    (t1).bind fun q1269 =>
    if 0 ≤ (IntKind.wrap .i64 ((1:Int) - t2))∧(IntKind.wrap .i64 ((1:Int) - t2)) < ((2:Nat):Int) then (
      ((h1266).ldI .u32 q1269.1 ((q1269.2 + 1) + Int.toNat (IntKind.wrap .i64 ((1:Int) - t2)) * 1)).bind fun x1270 =>
      (t1).bind fun q1271 =>
      ((h1266).ldI .i64 q1271.1 (q1271.2 + 4)).bind fun x1272 =>
      kN t1 t2 i1265 0 x1268 x1270 (0:Int) x1272 (Int.tmod t3_0 (6:Int)) t3_0 t3_1 t3_2 t3_3 (0:Int) (0:Int) (0:Int) (0:Int) (0:Int) (Sl.mk none 0 (.ex 0)) h1266)
    else (
      none))
  else (
    none)
theorem g22_p0_eq {R:Type} (c2:Code) (t0_0:Option (Nat × Nat)) (t0_1:Option (Nat × Nat)) (t1:Option (Nat × Nat)) (t2:Int) (t3_0:Int) (t3_1:Int) (t3_2:Int) (t3_3:Sl) (H:Heap) (K:Ex→Fr→Heap→Option R):ev2 Try.prog (E22) loopLim lv22 Try.f22.ntmps kp22 (.seq (codeAt [0] b22) (.seq (codeAt [1,0] b22) (.seq (codeAt [1,1,0] b22) (.seq (codeAt [1,1,1,0] b22) (.seq (codeAt [1,1,1,1,0] b22) (.seq (codeAt [1,1,1,1,1,0] b22) (.seq (codeAt [1,1,1,1,1,1,0,0] b22) c2))))))) [(0,(V.agg [(V.p t0_0),(V.p t0_1)])),(1,(V.p t1)),(2,(V.i .i64 t2)),(3,(V.agg [(V.i .u8 t3_0),(V.i .u8 t3_1),(V.i .u8 t3_2),(V.sl t3_3)]))] H K = g22_p0 R t0_0 t0_1 t1 t2 t3_0 t3_1 t3_2 t3_3 H (fun t1 t2 t4_0 t4_1 t9 t10 t11 t13 t34 t500007_0 t500007_1 t500007_2 t500007_3 t500012_0 t500012_1 t500012_2 t500012_3 t500012_4 t500012_5 H=>ev2 Try.prog (E22) loopLim lv22 Try.f22.ntmps kp22 c2 [(1,(V.p t1)),(2,(V.i .i64 t2)),(4,(V.p (some (t4_0,t4_1)))),(9,(V.i .u32 t9)),(10,(V.i .u32 t10)),(11,(V.i .i64 t11)),(13,(V.i .i64 t13)),(34,(V.i .u8 t34)),(500007,(V.agg [(V.i .u8 t500007_0),(V.i .u8 t500007_1),(V.i .u8 t500007_2),(V.sl t500007_3)])),(500012,(V.agg [(V.i .u32 t500012_0),(V.i .u8 t500012_1),(V.i .u16 t500012_2),(V.i .u8 t500012_3),(V.i .u8 t500012_4),(V.sl t500012_5)])),(1000007,(V.p (some (7,0)))),(1000012,(V.p (some (12,0))))] H K):=by kernel_rfl
theorem g22_p0_lin {R S:Type} {k:S→Option R} {t0_0:Option (Nat × Nat)} {t0_1:Option (Nat × Nat)} {t1:Option (Nat × Nat)} {t2:Int} {t3_0:Int} {t3_1:Int} {t3_2:Int} {t3_3:Sl} {H:Heap} {fkN:Option (Nat × Nat)→Int→Nat→Nat→Int→Int→Int→Int→Int→Int→Int→Int→Sl→Int→Int→Int→Int→Int→Sl→Heap→Option R} {gkN:Option (Nat × Nat)→Int→Nat→Nat→Int→Int→Int→Int→Int→Int→Int→Int→Sl→Int→Int→Int→Int→Int→Sl→Heap→Option S} (hkN:∀ t1 t2 t4_0 t4_1 t9 t10 t11 t13 t34 t500007_0 t500007_1 t500007_2 t500007_3 t500012_0 t500012_1 t500012_2 t500012_3 t500012_4 t500012_5 H,fkN t1 t2 t4_0 t4_1 t9 t10 t11 t13 t34 t500007_0 t500007_1 t500007_2 t500007_3 t500012_0 t500012_1 t500012_2 t500012_3 t500012_4 t500012_5 H = (gkN t1 t2 t4_0 t4_1 t9 t10 t11 t13 t34 t500007_0 t500007_1 t500007_2 t500007_3 t500012_0 t500012_1 t500012_2 t500012_3 t500012_4 t500012_5 H).bind k):g22_p0 R t0_0 t0_1 t1 t2 t3_0 t3_1 t3_2 t3_3 H fkN = (g22_p0 S t0_0 t0_1 t1 t2 t3_0 t3_1 t3_2 t3_3 H gkN).bind k:=by
  delta g22_p0; exact (
    alo_lin fun i1265 h1266 =>
    bl fun q1267 =>
    il (
      bl fun x1268 =>
      bl fun q1269 =>
      il (
        bl fun x1270 =>
        bl fun q1271 =>
        bl fun x1272 =>
        hkN _ _ _ _ _ _ _ _ _ _ _ _ _ _ _ _ _ _ _ _) (
        rfl)) (
      rfl))
noncomputable def g22_p1 (R:Type) (t1:Option (Nat × Nat)) (t2:Int) (t4_0:Nat) (t4_1:Nat) (t9:Int) (t10:Int) (t11:Int) (t13:Int) (t34:Int) (t500007_0:Int) (t500007_1:Int) (t500007_2:Int) (t500007_3:Sl) (t500012_0:Int) (t500012_1:Int) (t500012_2:Int) (t500012_3:Int) (t500012_4:Int) (t500012_5:Sl) (H:Heap) (kN:Option (Nat × Nat)→Int→Nat→Nat→Int→Int→Int→Int→Int→Bool→Int→Int→Int→Sl→Int→Int→Int→Int→Int→Sl→Heap→Option R):Option R :=
  sel (t34 == (1:Int)) (
    kN t1 t2 t4_0 t4_1 t9 t10 t11 t13 t34 (t34 == (1:Int)) t500007_0 t500007_1 t500007_2 t500007_3 t500012_0 t500012_1 t500012_2 t500012_3 t500012_4 t500012_5 H) (
    kN t1 t2 t4_0 t4_1 t9 t10 t11 t13 t34 (t34 == (2:Int)) t500007_0 t500007_1 t500007_2 t500007_3 t500012_0 t500012_1 t500012_2 t500012_3 t500012_4 t500012_5 H)
theorem g22_p1_eq {R:Type} (c2:Code) (t1:Option (Nat × Nat)) (t2:Int) (t4_0:Nat) (t4_1:Nat) (t9:Int) (t10:Int) (t11:Int) (t13:Int) (t34:Int) (t500007_0:Int) (t500007_1:Int) (t500007_2:Int) (t500007_3:Sl) (t500012_0:Int) (t500012_1:Int) (t500012_2:Int) (t500012_3:Int) (t500012_4:Int) (t500012_5:Sl) (H:Heap) (K:Ex→Fr→Heap→Option R):ev2 Try.prog (E22) loopLim lv22 Try.f22.ntmps kp22 (.seq (codeAt [1,1,1,1,1,1,0,1,0,0,0] b22) (.seq (.cond (.tmp 73) .skip (codeAt [1,1,1,1,1,1,0,1,0,0,1,1] b22)) c2)) [(1,(V.p t1)),(2,(V.i .i64 t2)),(4,(V.p (some (t4_0,t4_1)))),(9,(V.i .u32 t9)),(10,(V.i .u32 t10)),(11,(V.i .i64 t11)),(13,(V.i .i64 t13)),(34,(V.i .u8 t34)),(500007,(V.agg [(V.i .u8 t500007_0),(V.i .u8 t500007_1),(V.i .u8 t500007_2),(V.sl t500007_3)])),(500012,(V.agg [(V.i .u32 t500012_0),(V.i .u8 t500012_1),(V.i .u16 t500012_2),(V.i .u8 t500012_3),(V.i .u8 t500012_4),(V.sl t500012_5)])),(1000007,(V.p (some (7,0)))),(1000012,(V.p (some (12,0))))] H K = g22_p1 R t1 t2 t4_0 t4_1 t9 t10 t11 t13 t34 t500007_0 t500007_1 t500007_2 t500007_3 t500012_0 t500012_1 t500012_2 t500012_3 t500012_4 t500012_5 H (fun t1 t2 t4_0 t4_1 t9 t10 t11 t13 t34 t73 t500007_0 t500007_1 t500007_2 t500007_3 t500012_0 t500012_1 t500012_2 t500012_3 t500012_4 t500012_5 H=>ev2 Try.prog (E22) loopLim lv22 Try.f22.ntmps kp22 c2 [(1,(V.p t1)),(2,(V.i .i64 t2)),(4,(V.p (some (t4_0,t4_1)))),(9,(V.i .u32 t9)),(10,(V.i .u32 t10)),(11,(V.i .i64 t11)),(13,(V.i .i64 t13)),(34,(V.i .u8 t34)),(73,(V.b t73)),(500007,(V.agg [(V.i .u8 t500007_0),(V.i .u8 t500007_1),(V.i .u8 t500007_2),(V.sl t500007_3)])),(500012,(V.agg [(V.i .u32 t500012_0),(V.i .u8 t500012_1),(V.i .u16 t500012_2),(V.i .u8 t500012_3),(V.i .u8 t500012_4),(V.sl t500012_5)])),(1000007,(V.p (some (7,0)))),(1000012,(V.p (some (12,0))))] H K):=by kernel_rfl
theorem g22_p1_lin {R S:Type} {k:S→Option R} {t1:Option (Nat × Nat)} {t2:Int} {t4_0:Nat} {t4_1:Nat} {t9:Int} {t10:Int} {t11:Int} {t13:Int} {t34:Int} {t500007_0:Int} {t500007_1:Int} {t500007_2:Int} {t500007_3:Sl} {t500012_0:Int} {t500012_1:Int} {t500012_2:Int} {t500012_3:Int} {t500012_4:Int} {t500012_5:Sl} {H:Heap} {fkN:Option (Nat × Nat)→Int→Nat→Nat→Int→Int→Int→Int→Int→Bool→Int→Int→Int→Sl→Int→Int→Int→Int→Int→Sl→Heap→Option R} {gkN:Option (Nat × Nat)→Int→Nat→Nat→Int→Int→Int→Int→Int→Bool→Int→Int→Int→Sl→Int→Int→Int→Int→Int→Sl→Heap→Option S} (hkN:∀ t1 t2 t4_0 t4_1 t9 t10 t11 t13 t34 t73 t500007_0 t500007_1 t500007_2 t500007_3 t500012_0 t500012_1 t500012_2 t500012_3 t500012_4 t500012_5 H,fkN t1 t2 t4_0 t4_1 t9 t10 t11 t13 t34 t73 t500007_0 t500007_1 t500007_2 t500007_3 t500012_0 t500012_1 t500012_2 t500012_3 t500012_4 t500012_5 H = (gkN t1 t2 t4_0 t4_1 t9 t10 t11 t13 t34 t73 t500007_0 t500007_1 t500007_2 t500007_3 t500012_0 t500012_1 t500012_2 t500012_3 t500012_4 t500012_5 H).bind k):g22_p1 R t1 t2 t4_0 t4_1 t9 t10 t11 t13 t34 t500007_0 t500007_1 t500007_2 t500007_3 t500012_0 t500012_1 t500012_2 t500012_3 t500012_4 t500012_5 H fkN = (g22_p1 S t1 t2 t4_0 t4_1 t9 t10 t11 t13 t34 t500007_0 t500007_1 t500007_2 t500007_3 t500012_0 t500012_1 t500012_2 t500012_3 t500012_4 t500012_5 H gkN).bind k:=by
  delta g22_p1; exact (
    sl_lin (
      hkN _ _ _ _ _ _ _ _ _ _ _ _ _ _ _ _ _ _ _ _ _) (
      hkN _ _ _ _ _ _ _ _ _ _ _ _ _ _ _ _ _ _ _ _ _))
noncomputable def g22_p2 (R:Type) (t1:Option (Nat × Nat)) (t2:Int) (t4_0:Nat) (t4_1:Nat) (t9:Int) (t10:Int) (t11:Int) (t13:Int) (t34:Int) (t73:Bool) (t500007_0:Int) (t500007_1:Int) (t500007_2:Int) (t500007_3:Sl) (t500012_0:Int) (t500012_1:Int) (t500012_2:Int) (t500012_3:Int) (t500012_4:Int) (t500012_5:Sl) (H:Heap) (kN:Option (Nat × Nat)→Int→Nat→Nat→Int→Int→Int→Int→Int→Int→Int→Int→Sl→Heap→Option R):Option R :=
  (t1).bind fun q3545 =>
  ((H).ldI .i64 q3545.1 (q3545.2 + 4)).bind fun x3546 =>
  sel (x3546 == (3:Int)) (
    sel ((Int.tmod t500007_0 (6:Int)) == (1:Int)) (
      if 0 ≤ t2∧t2 < ((2:Nat):Int) then (
        ((H).ldP t4_0 (t4_1 + Int.toNat t2 * 1)).bind fun x3547 =>
        g27 R x3547 t9 H fun x3548 h3549 =>
        kN t1 t2 t4_0 t4_1 (7:Int) (2:Int) x3548 t10 (2:Int) (IntKind.wrap .u16 t2) (0:Int) (0:Int) (Sl.mk none 0 (.ex 0)) h3549)
      else (
        none)) (
      if 0 ≤ t2∧t2 < ((2:Nat):Int) then (
        ((H).ldP t4_0 (t4_1 + Int.toNat t2 * 1)).bind fun x3550 =>
        g33 R x3550 t9 (IntKind.wrap .u8 ((16:Int) + (Int.tmod t500007_2 (9:Int)))) H fun x3551 h3552 =>
        kN t1 t2 t4_0 t4_1 (7:Int) (3:Int) x3551 t10 (3:Int) (IntKind.wrap .u16 t2) (0:Int) (IntKind.wrap .u8 ((16:Int) + (Int.tmod t500007_2 (9:Int)))) (Sl.mk none 0 (.ex 0)) h3552)
      else (
        none))) (
    (t1).bind fun q3553 =>
    ((H).ldI .i64 q3553.1 (q3553.2 + 4)).bind fun x3554 =>
    sel (x3554 == (2:Int)) (
      sel ((Int.tmod t500007_0 (6:Int)) == (1:Int)) (
        if 0 ≤ t2∧t2 < ((2:Nat):Int) then (
          ((H).ldP t4_0 (t4_1 + Int.toNat t2 * 1)).bind fun x3555 =>
          g27 R x3555 t9 H fun x3556 h3557 =>
          kN t1 t2 t4_0 t4_1 (6:Int) (2:Int) x3556 t10 (2:Int) (IntKind.wrap .u16 t2) (0:Int) (0:Int) (Sl.mk none 0 (.ex 0)) h3557)
        else (
          none)) (
        if 0 ≤ t2∧t2 < ((2:Nat):Int) then (
          ((H).ldP t4_0 (t4_1 + Int.toNat t2 * 1)).bind fun x3558 =>
          g33 R x3558 t9 (IntKind.wrap .u8 ((16:Int) + (Int.tmod t500007_2 (9:Int)))) H fun x3559 h3560 =>
          kN t1 t2 t4_0 t4_1 (6:Int) (3:Int) x3559 t10 (3:Int) (IntKind.wrap .u16 t2) (0:Int) (IntKind.wrap .u8 ((16:Int) + (Int.tmod t500007_2 (9:Int)))) (Sl.mk none 0 (.ex 0)) h3560)
        else (
          none))) (
      (t1).bind fun q3561 =>
      ((H).ldI .i64 q3561.1 (q3561.2 + 0)).bind fun x3562 =>
      sel (x3562 == t2) (
        sel ((Int.tmod t500007_0 (6:Int)) == (1:Int)) (
          if 0 ≤ t2∧t2 < ((2:Nat):Int) then (
            ((H).ldP t4_0 (t4_1 + Int.toNat t2 * 1)).bind fun x3563 =>
            g27 R x3563 t9 H fun x3564 h3565 =>
            kN t1 t2 t4_0 t4_1 (6:Int) (2:Int) x3564 t10 (2:Int) (IntKind.wrap .u16 t2) (0:Int) (0:Int) (Sl.mk none 0 (.ex 0)) h3565)
          else (
            none)) (
          if 0 ≤ t2∧t2 < ((2:Nat):Int) then (
            ((H).ldP t4_0 (t4_1 + Int.toNat t2 * 1)).bind fun x3566 =>
            g33 R x3566 t9 (IntKind.wrap .u8 ((16:Int) + (Int.tmod t500007_2 (9:Int)))) H fun x3567 h3568 =>
            kN t1 t2 t4_0 t4_1 (6:Int) (3:Int) x3567 t10 (3:Int) (IntKind.wrap .u16 t2) (0:Int) (IntKind.wrap .u8 ((16:Int) + (Int.tmod t500007_2 (9:Int)))) (Sl.mk none 0 (.ex 0)) h3568)
          else (
            none))) (
        sel ((Int.tmod t500007_0 (6:Int)) == (1:Int)) (
          if 0 ≤ t2∧t2 < ((2:Nat):Int) then (
            ((H).ldP t4_0 (t4_1 + Int.toNat t2 * 1)).bind fun x3569 =>
            g27 R x3569 t9 H fun x3570 h3571 =>
            kN t1 t2 t4_0 t4_1 t11 (2:Int) x3570 t10 (2:Int) (IntKind.wrap .u16 t2) (0:Int) (0:Int) (Sl.mk none 0 (.ex 0)) h3571)
          else (
            none)) (
          if 0 ≤ t2∧t2 < ((2:Nat):Int) then (
            ((H).ldP t4_0 (t4_1 + Int.toNat t2 * 1)).bind fun x3572 =>
            g33 R x3572 t9 (IntKind.wrap .u8 ((16:Int) + (Int.tmod t500007_2 (9:Int)))) H fun x3573 h3574 =>
            kN t1 t2 t4_0 t4_1 t11 (3:Int) x3573 t10 (3:Int) (IntKind.wrap .u16 t2) (0:Int) (IntKind.wrap .u8 ((16:Int) + (Int.tmod t500007_2 (9:Int)))) (Sl.mk none 0 (.ex 0)) h3574)
          else (
            none)))))
theorem g22_p2_eq {R:Type} (t1:Option (Nat × Nat)) (t2:Int) (t4_0:Nat) (t4_1:Nat) (t9:Int) (t10:Int) (t11:Int) (t13:Int) (t34:Int) (t73:Bool) (t500007_0:Int) (t500007_1:Int) (t500007_2:Int) (t500007_3:Sl) (t500012_0:Int) (t500012_1:Int) (t500012_2:Int) (t500012_3:Int) (t500012_4:Int) (t500012_5:Sl) (H:Heap) (K:Ex→Fr→Heap→Option R):ev2 Try.prog (E22) loopLim lv22 Try.f22.ntmps kp22 c22_0 [(1,(V.p t1)),(2,(V.i .i64 t2)),(4,(V.p (some (t4_0,t4_1)))),(9,(V.i .u32 t9)),(10,(V.i .u32 t10)),(11,(V.i .i64 t11)),(13,(V.i .i64 t13)),(34,(V.i .u8 t34)),(73,(V.b t73)),(500007,(V.agg [(V.i .u8 t500007_0),(V.i .u8 t500007_1),(V.i .u8 t500007_2),(V.sl t500007_3)])),(500012,(V.agg [(V.i .u32 t500012_0),(V.i .u8 t500012_1),(V.i .u16 t500012_2),(V.i .u8 t500012_3),(V.i .u8 t500012_4),(V.sl t500012_5)])),(1000007,(V.p (some (7,0)))),(1000012,(V.p (some (12,0))))] H K = g22_p2 R t1 t2 t4_0 t4_1 t9 t10 t11 t13 t34 t73 t500007_0 t500007_1 t500007_2 t500007_3 t500012_0 t500012_1 t500012_2 t500012_3 t500012_4 t500012_5 H (fun t1 t2 t4_0 t4_1 t11 t13 t14 t500012_0 t500012_1 t500012_2 t500012_3 t500012_4 t500012_5 H=>K .normal [(1,(V.p t1)),(2,(V.i .i64 t2)),(4,(V.p (some (t4_0,t4_1)))),(11,(V.i .i64 t11)),(13,(V.i .i64 t13)),(14,(V.i .i64 t14)),(500012,(V.agg [(V.i .u32 t500012_0),(V.i .u8 t500012_1),(V.i .u16 t500012_2),(V.i .u8 t500012_3),(V.i .u8 t500012_4),(V.sl t500012_5)])),(1000012,(V.p (some (12,0))))] H):=by kernel_rfl
theorem g22_p2_lin {R S:Type} {k:S→Option R} {t1:Option (Nat × Nat)} {t2:Int} {t4_0:Nat} {t4_1:Nat} {t9:Int} {t10:Int} {t11:Int} {t13:Int} {t34:Int} {t73:Bool} {t500007_0:Int} {t500007_1:Int} {t500007_2:Int} {t500007_3:Sl} {t500012_0:Int} {t500012_1:Int} {t500012_2:Int} {t500012_3:Int} {t500012_4:Int} {t500012_5:Sl} {H:Heap} {fkN:Option (Nat × Nat)→Int→Nat→Nat→Int→Int→Int→Int→Int→Int→Int→Int→Sl→Heap→Option R} {gkN:Option (Nat × Nat)→Int→Nat→Nat→Int→Int→Int→Int→Int→Int→Int→Int→Sl→Heap→Option S} (hkN:∀ t1 t2 t4_0 t4_1 t11 t13 t14 t500012_0 t500012_1 t500012_2 t500012_3 t500012_4 t500012_5 H,fkN t1 t2 t4_0 t4_1 t11 t13 t14 t500012_0 t500012_1 t500012_2 t500012_3 t500012_4 t500012_5 H = (gkN t1 t2 t4_0 t4_1 t11 t13 t14 t500012_0 t500012_1 t500012_2 t500012_3 t500012_4 t500012_5 H).bind k):g22_p2 R t1 t2 t4_0 t4_1 t9 t10 t11 t13 t34 t73 t500007_0 t500007_1 t500007_2 t500007_3 t500012_0 t500012_1 t500012_2 t500012_3 t500012_4 t500012_5 H fkN = (g22_p2 S t1 t2 t4_0 t4_1 t9 t10 t11 t13 t34 t73 t500007_0 t500007_1 t500007_2 t500007_3 t500012_0 t500012_1 t500012_2 t500012_3 t500012_4 t500012_5 H gkN).bind k:=by
  delta g22_p2
  repeat' (first | with_reducible (first | exact hkN _ _ _ _ _ _ _ _ _ _ _ _ _ _ | refine sl_lin ?_ ?_ | refine il ?_ ?_ | refine g27_lin.l fun _ _=>?_ | refine g33_lin.l fun _ _=>?_ | refine bl fun _=>?_) | exact (rfl:(none:Option R) = (none:Option S).bind k))
noncomputable def g22_p3 (R:Type) (t1:Option (Nat × Nat)) (t2:Int) (t4_0:Nat) (t4_1:Nat) (t9:Int) (t10:Int) (t11:Int) (t13:Int) (t34:Int) (t73:Bool) (t500007_0:Int) (t500007_1:Int) (t500007_2:Int) (t500007_3:Sl) (t500012_0:Int) (t500012_1:Int) (t500012_2:Int) (t500012_3:Int) (t500012_4:Int) (t500012_5:Sl) (H:Heap) (kN:Option (Nat × Nat)→Int→Nat→Nat→Int→Int→Int→Int→Bool→Int→Int→Int→Sl→Int→Int→Int→Int→Int→Sl→Heap→Option R):Option R :=
  sel (t34 == (3:Int)) (
    kN t1 t2 t4_0 t4_1 t9 t10 t11 t13 (t34 == (3:Int)) t500007_0 t500007_1 t500007_2 t500007_3 t500012_0 t500012_1 t500012_2 t500012_3 t500012_4 t500012_5 H) (
    kN t1 t2 t4_0 t4_1 t9 t10 t11 t13 (t34 == (4:Int)) t500007_0 t500007_1 t500007_2 t500007_3 t500012_0 t500012_1 t500012_2 t500012_3 t500012_4 t500012_5 H)
theorem g22_p3_eq {R:Type} (c2:Code) (t1:Option (Nat × Nat)) (t2:Int) (t4_0:Nat) (t4_1:Nat) (t9:Int) (t10:Int) (t11:Int) (t13:Int) (t34:Int) (t73:Bool) (t500007_0:Int) (t500007_1:Int) (t500007_2:Int) (t500007_3:Sl) (t500012_0:Int) (t500012_1:Int) (t500012_2:Int) (t500012_3:Int) (t500012_4:Int) (t500012_5:Sl) (H:Heap) (K:Ex→Fr→Heap→Option R):ev2 Try.prog (E22) loopLim lv22 Try.f22.ntmps kp22 (.seq (codeAt [1,1,1,1,1,1,0,1,0,1,1,0,0] b22) (.seq (.cond (.tmp 124) .skip (codeAt [1,1,1,1,1,1,0,1,0,1,1,0,1,1] b22)) c2)) [(1,(V.p t1)),(2,(V.i .i64 t2)),(4,(V.p (some (t4_0,t4_1)))),(9,(V.i .u32 t9)),(10,(V.i .u32 t10)),(11,(V.i .i64 t11)),(13,(V.i .i64 t13)),(34,(V.i .u8 t34)),(73,(V.b t73)),(500007,(V.agg [(V.i .u8 t500007_0),(V.i .u8 t500007_1),(V.i .u8 t500007_2),(V.sl t500007_3)])),(500012,(V.agg [(V.i .u32 t500012_0),(V.i .u8 t500012_1),(V.i .u16 t500012_2),(V.i .u8 t500012_3),(V.i .u8 t500012_4),(V.sl t500012_5)])),(1000007,(V.p (some (7,0)))),(1000012,(V.p (some (12,0))))] H K = g22_p3 R t1 t2 t4_0 t4_1 t9 t10 t11 t13 t34 t73 t500007_0 t500007_1 t500007_2 t500007_3 t500012_0 t500012_1 t500012_2 t500012_3 t500012_4 t500012_5 H (fun t1 t2 t4_0 t4_1 t9 t10 t11 t13 t124 t500007_0 t500007_1 t500007_2 t500007_3 t500012_0 t500012_1 t500012_2 t500012_3 t500012_4 t500012_5 H=>ev2 Try.prog (E22) loopLim lv22 Try.f22.ntmps kp22 c2 [(1,(V.p t1)),(2,(V.i .i64 t2)),(4,(V.p (some (t4_0,t4_1)))),(9,(V.i .u32 t9)),(10,(V.i .u32 t10)),(11,(V.i .i64 t11)),(13,(V.i .i64 t13)),(124,(V.b t124)),(500007,(V.agg [(V.i .u8 t500007_0),(V.i .u8 t500007_1),(V.i .u8 t500007_2),(V.sl t500007_3)])),(500012,(V.agg [(V.i .u32 t500012_0),(V.i .u8 t500012_1),(V.i .u16 t500012_2),(V.i .u8 t500012_3),(V.i .u8 t500012_4),(V.sl t500012_5)])),(1000007,(V.p (some (7,0)))),(1000012,(V.p (some (12,0))))] H K):=by kernel_rfl
theorem g22_p3_lin {R S:Type} {k:S→Option R} {t1:Option (Nat × Nat)} {t2:Int} {t4_0:Nat} {t4_1:Nat} {t9:Int} {t10:Int} {t11:Int} {t13:Int} {t34:Int} {t73:Bool} {t500007_0:Int} {t500007_1:Int} {t500007_2:Int} {t500007_3:Sl} {t500012_0:Int} {t500012_1:Int} {t500012_2:Int} {t500012_3:Int} {t500012_4:Int} {t500012_5:Sl} {H:Heap} {fkN:Option (Nat × Nat)→Int→Nat→Nat→Int→Int→Int→Int→Bool→Int→Int→Int→Sl→Int→Int→Int→Int→Int→Sl→Heap→Option R} {gkN:Option (Nat × Nat)→Int→Nat→Nat→Int→Int→Int→Int→Bool→Int→Int→Int→Sl→Int→Int→Int→Int→Int→Sl→Heap→Option S} (hkN:∀ t1 t2 t4_0 t4_1 t9 t10 t11 t13 t124 t500007_0 t500007_1 t500007_2 t500007_3 t500012_0 t500012_1 t500012_2 t500012_3 t500012_4 t500012_5 H,fkN t1 t2 t4_0 t4_1 t9 t10 t11 t13 t124 t500007_0 t500007_1 t500007_2 t500007_3 t500012_0 t500012_1 t500012_2 t500012_3 t500012_4 t500012_5 H = (gkN t1 t2 t4_0 t4_1 t9 t10 t11 t13 t124 t500007_0 t500007_1 t500007_2 t500007_3 t500012_0 t500012_1 t500012_2 t500012_3 t500012_4 t500012_5 H).bind k):g22_p3 R t1 t2 t4_0 t4_1 t9 t10 t11 t13 t34 t73 t500007_0 t500007_1 t500007_2 t500007_3 t500012_0 t500012_1 t500012_2 t500012_3 t500012_4 t500012_5 H fkN = (g22_p3 S t1 t2 t4_0 t4_1 t9 t10 t11 t13 t34 t73 t500007_0 t500007_1 t500007_2 t500007_3 t500012_0 t500012_1 t500012_2 t500012_3 t500012_4 t500012_5 H gkN).bind k:=by
  delta g22_p3; exact (
    sl_lin (
      hkN _ _ _ _ _ _ _ _ _ _ _ _ _ _ _ _ _ _ _ _) (
      hkN _ _ _ _ _ _ _ _ _ _ _ _ _ _ _ _ _ _ _ _))
noncomputable def g22_p4 (R:Type) (t1:Option (Nat × Nat)) (t2:Int) (t4_0:Nat) (t4_1:Nat) (t9:Int) (t10:Int) (t11:Int) (t13:Int) (t124:Bool) (t500007_0:Int) (t500007_1:Int) (t500007_2:Int) (t500007_3:Sl) (t500012_0:Int) (t500012_1:Int) (t500012_2:Int) (t500012_3:Int) (t500012_4:Int) (t500012_5:Sl) (H:Heap) (kN:Option (Nat × Nat)→Int→Nat→Nat→Int→Int→Int→Int→Int→Int→Int→Int→Sl→Heap→Option R) (kR:Bool→Heap→Option R):Option R :=
  sel t124 (
    (t1).bind fun q3661 =>
    ((H).ldI .i64 q3661.1 (q3661.2 + 4)).bind fun x3662 =>
    sel (x3662 == (3:Int)) (
      if 0 ≤ t2∧t2 < ((2:Nat):Int) then (
        ((H).ldP t4_0 (t4_1 + Int.toNat t2 * 1)).bind fun x3663 =>
        g28 R x3663 t9 t500007_3 H fun x3664 h3665 =>
        kN t1 t2 t4_0 t4_1 (7:Int) t13 x3664 t10 (4:Int) (IntKind.wrap .u16 t2) (0:Int) (0:Int) t500007_3 h3665)
      else (
        none)) (
      (t1).bind fun q3666 =>
      ((H).ldI .i64 q3666.1 (q3666.2 + 4)).bind fun x3667 =>
      sel (x3667 == (1:Int)) (
        if 0 ≤ t2∧t2 < ((2:Nat):Int) then (
          ((H).ldP t4_0 (t4_1 + Int.toNat t2 * 1)).bind fun x3668 =>
          g28 R x3668 t9 t500007_3 H fun x3669 h3670 =>
          kN t1 t2 t4_0 t4_1 (6:Int) t13 x3669 t10 (4:Int) (IntKind.wrap .u16 t2) (0:Int) (0:Int) t500007_3 h3670)
        else (
          none)) (
        if 0 ≤ t2∧t2 < ((2:Nat):Int) then (
          ((H).ldP t4_0 (t4_1 + Int.toNat t2 * 1)).bind fun x3671 =>
          g28 R x3671 t9 t500007_3 H fun x3672 h3673 =>
          kN t1 t2 t4_0 t4_1 t11 t13 x3672 t10 (4:Int) (IntKind.wrap .u16 t2) (0:Int) (0:Int) t500007_3 h3673)
        else (
          none)))) (
    sel (decide ((Int.tmod t500007_1 (3:Int)) > (0:Int))) (
      kR true H) (
      (t1).bind fun q3674 =>
      ((H).ldI .i64 q3674.1 (q3674.2 + 4)).bind fun x3675 =>
      sel (x3675 == (1:Int)) (
        (t1).bind fun q3676 =>
        ((H).ldI .i64 q3676.1 (q3676.2 + 0)).bind fun x3677 =>
        sel (x3677 == t2) (
          kR true H) (
          (t1).bind fun q3678 =>
          ((H).ldI .i64 q3678.1 (q3678.2 + 4)).bind fun x3679 =>
          sel (x3679 == (3:Int)) (
            if 0 ≤ t2∧t2 < ((2:Nat):Int) then (
              ((H).ldP t4_0 (t4_1 + Int.toNat t2 * 1)).bind fun x3680 =>
              g32 R x3680 t9 (200:Int) H fun x3681 h3682 =>
              kN t1 t2 t4_0 t4_1 (7:Int) (3:Int) x3681 t10 (5:Int) (IntKind.wrap .u16 t2) (0:Int) (200:Int) (Sl.mk none 0 (.ex 0)) h3682)
            else (
              none)) (
            (t1).bind fun q3683 =>
            ((H).ldI .i64 q3683.1 (q3683.2 + 4)).bind fun x3684 =>
            sel (x3684 == (1:Int)) (
              if 0 ≤ t2∧t2 < ((2:Nat):Int) then (
                ((H).ldP t4_0 (t4_1 + Int.toNat t2 * 1)).bind fun x3685 =>
                g32 R x3685 t9 (200:Int) H fun x3686 h3687 =>
                kN t1 t2 t4_0 t4_1 (6:Int) (3:Int) x3686 t10 (5:Int) (IntKind.wrap .u16 t2) (0:Int) (200:Int) (Sl.mk none 0 (.ex 0)) h3687)
              else (
                none)) (
              if 0 ≤ t2∧t2 < ((2:Nat):Int) then (
                ((H).ldP t4_0 (t4_1 + Int.toNat t2 * 1)).bind fun x3688 =>
                g32 R x3688 t9 (200:Int) H fun x3689 h3690 =>
                kN t1 t2 t4_0 t4_1 t11 (3:Int) x3689 t10 (5:Int) (IntKind.wrap .u16 t2) (0:Int) (200:Int) (Sl.mk none 0 (.ex 0)) h3690)
              else (
                none))))) (
        (t1).bind fun q3691 =>
        ((H).ldI .i64 q3691.1 (q3691.2 + 4)).bind fun x3692 =>
        sel (x3692 == (3:Int)) (
          if 0 ≤ t2∧t2 < ((2:Nat):Int) then (
            ((H).ldP t4_0 (t4_1 + Int.toNat t2 * 1)).bind fun x3693 =>
            g32 R x3693 t9 (200:Int) H fun x3694 h3695 =>
            kN t1 t2 t4_0 t4_1 (7:Int) (3:Int) x3694 t10 (5:Int) (IntKind.wrap .u16 t2) (0:Int) (200:Int) (Sl.mk none 0 (.ex 0)) h3695)
          else (
            none)) (
          (t1).bind fun q3696 =>
          ((H).ldI .i64 q3696.1 (q3696.2 + 4)).bind fun x3697 =>
          sel (x3697 == (1:Int)) (
            if 0 ≤ t2∧t2 < ((2:Nat):Int) then (
              ((H).ldP t4_0 (t4_1 + Int.toNat t2 * 1)).bind fun x3698 =>
              g32 R x3698 t9 (200:Int) H fun x3699 h3700 =>
              kN t1 t2 t4_0 t4_1 (6:Int) (3:Int) x3699 t10 (5:Int) (IntKind.wrap .u16 t2) (0:Int) (200:Int) (Sl.mk none 0 (.ex 0)) h3700)
            else (
              none)) (
            if 0 ≤ t2∧t2 < ((2:Nat):Int) then (
              ((H).ldP t4_0 (t4_1 + Int.toNat t2 * 1)).bind fun x3701 =>
              g32 R x3701 t9 (200:Int) H fun x3702 h3703 =>
              kN t1 t2 t4_0 t4_1 t11 (3:Int) x3702 t10 (5:Int) (IntKind.wrap .u16 t2) (0:Int) (200:Int) (Sl.mk none 0 (.ex 0)) h3703)
            else (
              none))))))
theorem g22_p4_eq {R:Type} (t1:Option (Nat × Nat)) (t2:Int) (t4_0:Nat) (t4_1:Nat) (t9:Int) (t10:Int) (t11:Int) (t13:Int) (t124:Bool) (t500007_0:Int) (t500007_1:Int) (t500007_2:Int) (t500007_3:Sl) (t500012_0:Int) (t500012_1:Int) (t500012_2:Int) (t500012_3:Int) (t500012_4:Int) (t500012_5:Sl) (H:Heap) (K:Ex→Fr→Heap→Option R):ev2 Try.prog (E22) loopLim lv22 Try.f22.ntmps kp22 c22_1 [(1,(V.p t1)),(2,(V.i .i64 t2)),(4,(V.p (some (t4_0,t4_1)))),(9,(V.i .u32 t9)),(10,(V.i .u32 t10)),(11,(V.i .i64 t11)),(13,(V.i .i64 t13)),(124,(V.b t124)),(500007,(V.agg [(V.i .u8 t500007_0),(V.i .u8 t500007_1),(V.i .u8 t500007_2),(V.sl t500007_3)])),(500012,(V.agg [(V.i .u32 t500012_0),(V.i .u8 t500012_1),(V.i .u16 t500012_2),(V.i .u8 t500012_3),(V.i .u8 t500012_4),(V.sl t500012_5)])),(1000007,(V.p (some (7,0)))),(1000012,(V.p (some (12,0))))] H K = g22_p4 R t1 t2 t4_0 t4_1 t9 t10 t11 t13 t124 t500007_0 t500007_1 t500007_2 t500007_3 t500012_0 t500012_1 t500012_2 t500012_3 t500012_4 t500012_5 H (fun t1 t2 t4_0 t4_1 t11 t13 t14 t500012_0 t500012_1 t500012_2 t500012_3 t500012_4 t500012_5 H=>K .normal [(1,(V.p t1)),(2,(V.i .i64 t2)),(4,(V.p (some (t4_0,t4_1)))),(11,(V.i .i64 t11)),(13,(V.i .i64 t13)),(14,(V.i .i64 t14)),(500012,(V.agg [(V.i .u32 t500012_0),(V.i .u8 t500012_1),(V.i .u16 t500012_2),(V.i .u8 t500012_3),(V.i .u8 t500012_4),(V.sl t500012_5)])),(1000012,(V.p (some (12,0))))] H) (fun t8 H=>K .ret [(8,(V.b t8))] H):=by kernel_rfl
theorem g22_p4_lin {R S:Type} {k:S→Option R} {t1:Option (Nat × Nat)} {t2:Int} {t4_0:Nat} {t4_1:Nat} {t9:Int} {t10:Int} {t11:Int} {t13:Int} {t124:Bool} {t500007_0:Int} {t500007_1:Int} {t500007_2:Int} {t500007_3:Sl} {t500012_0:Int} {t500012_1:Int} {t500012_2:Int} {t500012_3:Int} {t500012_4:Int} {t500012_5:Sl} {H:Heap} {fkN:Option (Nat × Nat)→Int→Nat→Nat→Int→Int→Int→Int→Int→Int→Int→Int→Sl→Heap→Option R} {gkN:Option (Nat × Nat)→Int→Nat→Nat→Int→Int→Int→Int→Int→Int→Int→Int→Sl→Heap→Option S} {fkR:Bool→Heap→Option R} {gkR:Bool→Heap→Option S} (hkN:∀ t1 t2 t4_0 t4_1 t11 t13 t14 t500012_0 t500012_1 t500012_2 t500012_3 t500012_4 t500012_5 H,fkN t1 t2 t4_0 t4_1 t11 t13 t14 t500012_0 t500012_1 t500012_2 t500012_3 t500012_4 t500012_5 H = (gkN t1 t2 t4_0 t4_1 t11 t13 t14 t500012_0 t500012_1 t500012_2 t500012_3 t500012_4 t500012_5 H).bind k) (hkR:∀ t8 H,fkR t8 H = (gkR t8 H).bind k):g22_p4 R t1 t2 t4_0 t4_1 t9 t10 t11 t13 t124 t500007_0 t500007_1 t500007_2 t500007_3 t500012_0 t500012_1 t500012_2 t500012_3 t500012_4 t500012_5 H fkN fkR = (g22_p4 S t1 t2 t4_0 t4_1 t9 t10 t11 t13 t124 t500007_0 t500007_1 t500007_2 t500007_3 t500012_0 t500012_1 t500012_2 t500012_3 t500012_4 t500012_5 H gkN gkR).bind k:=by
  delta g22_p4
  repeat' (first | with_reducible (first | exact hkN _ _ _ _ _ _ _ _ _ _ _ _ _ _ | exact hkR _ _ | refine sl_lin ?_ ?_ | refine il ?_ ?_ | refine g28_lin.l fun _ _=>?_ | refine g32_lin.l fun _ _=>?_ | refine bl fun _=>?_) | exact (rfl:(none:Option R) = (none:Option S).bind k))
noncomputable def g22_p5 (R:Type) (t1:Option (Nat × Nat)) (t2:Int) (t4_0:Nat) (t4_1:Nat) (t9:Int) (t10:Int) (t11:Int) (t13:Int) (t34:Int) (t73:Bool) (t500007_0:Int) (t500007_1:Int) (t500007_2:Int) (t500007_3:Sl) (t500012_0:Int) (t500012_1:Int) (t500012_2:Int) (t500012_3:Int) (t500012_4:Int) (t500012_5:Sl) (H:Heap) (kN:Option (Nat × Nat)→Int→Nat→Nat→Int→Int→Int→Int→Int→Int→Int→Int→Sl→Heap→Option R) (kR:Bool→Heap→Option R):Option R :=
  g22_p3 R t1 t2 t4_0 t4_1 t9 t10 t11 t13 t34 t73 t500007_0 t500007_1 t500007_2 t500007_3 t500012_0 t500012_1 t500012_2 t500012_3 t500012_4 t500012_5 H (fun t1 t2 t4_0 t4_1 t9 t10 t11 t13 t124 t500007_0 t500007_1 t500007_2 t500007_3 t500012_0 t500012_1 t500012_2 t500012_3 t500012_4 t500012_5 H=>g22_p4 R t1 t2 t4_0 t4_1 t9 t10 t11 t13 t124 t500007_0 t500007_1 t500007_2 t500007_3 t500012_0 t500012_1 t500012_2 t500012_3 t500012_4 t500012_5 H (fun t1 t2 t4_0 t4_1 t11 t13 t14 t500012_0 t500012_1 t500012_2 t500012_3 t500012_4 t500012_5 H=>kN t1 t2 t4_0 t4_1 t11 t13 t14 t500012_0 t500012_1 t500012_2 t500012_3 t500012_4 t500012_5 H) (fun t8 H=>kR t8 H))
theorem g22_p5_lin {R S:Type} {k:S→Option R} {t1:Option (Nat × Nat)} {t2:Int} {t4_0:Nat} {t4_1:Nat} {t9:Int} {t10:Int} {t11:Int} {t13:Int} {t34:Int} {t73:Bool} {t500007_0:Int} {t500007_1:Int} {t500007_2:Int} {t500007_3:Sl} {t500012_0:Int} {t500012_1:Int} {t500012_2:Int} {t500012_3:Int} {t500012_4:Int} {t500012_5:Sl} {H:Heap} {fkN:Option (Nat × Nat)→Int→Nat→Nat→Int→Int→Int→Int→Int→Int→Int→Int→Sl→Heap→Option R} {gkN:Option (Nat × Nat)→Int→Nat→Nat→Int→Int→Int→Int→Int→Int→Int→Int→Sl→Heap→Option S} {fkR:Bool→Heap→Option R} {gkR:Bool→Heap→Option S} (hkN:∀ t1 t2 t4_0 t4_1 t11 t13 t14 t500012_0 t500012_1 t500012_2 t500012_3 t500012_4 t500012_5 H,fkN t1 t2 t4_0 t4_1 t11 t13 t14 t500012_0 t500012_1 t500012_2 t500012_3 t500012_4 t500012_5 H = (gkN t1 t2 t4_0 t4_1 t11 t13 t14 t500012_0 t500012_1 t500012_2 t500012_3 t500012_4 t500012_5 H).bind k) (hkR:∀ t8 H,fkR t8 H = (gkR t8 H).bind k):g22_p5 R t1 t2 t4_0 t4_1 t9 t10 t11 t13 t34 t73 t500007_0 t500007_1 t500007_2 t500007_3 t500012_0 t500012_1 t500012_2 t500012_3 t500012_4 t500012_5 H fkN fkR = (g22_p5 S t1 t2 t4_0 t4_1 t9 t10 t11 t13 t34 t73 t500007_0 t500007_1 t500007_2 t500007_3 t500012_0 t500012_1 t500012_2 t500012_3 t500012_4 t500012_5 H gkN gkR).bind k:=by
  exact g22_p3_lin (fun _ _ _ _ _ _ _ _ _ _ _ _ _ _ _ _ _ _ _ _=>g22_p4_lin (fun _ _ _ _ _ _ _ _ _ _ _ _ _ _=>hkN _ _ _ _ _ _ _ _ _ _ _ _ _ _) (fun _ _=>hkR _ _))
theorem g22_p5_eq {R:Type} (t1:Option (Nat × Nat)) (t2:Int) (t4_0:Nat) (t4_1:Nat) (t9:Int) (t10:Int) (t11:Int) (t13:Int) (t34:Int) (t73:Bool) (t500007_0:Int) (t500007_1:Int) (t500007_2:Int) (t500007_3:Sl) (t500012_0:Int) (t500012_1:Int) (t500012_2:Int) (t500012_3:Int) (t500012_4:Int) (t500012_5:Sl) (H:Heap) (K:Ex→Fr→Heap→Option R):ev2 Try.prog (E22) loopLim lv22 Try.f22.ntmps kp22 c22_2 [(1,(V.p t1)),(2,(V.i .i64 t2)),(4,(V.p (some (t4_0,t4_1)))),(9,(V.i .u32 t9)),(10,(V.i .u32 t10)),(11,(V.i .i64 t11)),(13,(V.i .i64 t13)),(34,(V.i .u8 t34)),(73,(V.b t73)),(500007,(V.agg [(V.i .u8 t500007_0),(V.i .u8 t500007_1),(V.i .u8 t500007_2),(V.sl t500007_3)])),(500012,(V.agg [(V.i .u32 t500012_0),(V.i .u8 t500012_1),(V.i .u16 t500012_2),(V.i .u8 t500012_3),(V.i .u8 t500012_4),(V.sl t500012_5)])),(1000007,(V.p (some (7,0)))),(1000012,(V.p (some (12,0))))] H K = g22_p5 R t1 t2 t4_0 t4_1 t9 t10 t11 t13 t34 t73 t500007_0 t500007_1 t500007_2 t500007_3 t500012_0 t500012_1 t500012_2 t500012_3 t500012_4 t500012_5 H (fun t1 t2 t4_0 t4_1 t11 t13 t14 t500012_0 t500012_1 t500012_2 t500012_3 t500012_4 t500012_5 H=>K .normal [(1,(V.p t1)),(2,(V.i .i64 t2)),(4,(V.p (some (t4_0,t4_1)))),(11,(V.i .i64 t11)),(13,(V.i .i64 t13)),(14,(V.i .i64 t14)),(500012,(V.agg [(V.i .u32 t500012_0),(V.i .u8 t500012_1),(V.i .u16 t500012_2),(V.i .u8 t500012_3),(V.i .u8 t500012_4),(V.sl t500012_5)])),(1000012,(V.p (some (12,0))))] H) (fun t8 H=>K .ret [(8,(V.b t8))] H):=by
  delta c22_2
  delta g22_p5
  exact (g22_p3_eq _ t1 t2 t4_0 t4_1 t9 t10 t11 t13 t34 t73 t500007_0 t500007_1 t500007_2 t500007_3 t500012_0 t500012_1 t500012_2 t500012_3 t500012_4 t500012_5 H K).trans (congrArg (g22_p3 R t1 t2 t4_0 t4_1 t9 t10 t11 t13 t34 t73 t500007_0 t500007_1 t500007_2 t500007_3 t500012_0 t500012_1 t500012_2 t500012_3 t500012_4 t500012_5 H) (funext fun t1=>funext fun t2=>funext fun t4_0=>funext fun t4_1=>funext fun t9=>funext fun t10=>funext fun t11=>funext fun t13=>funext fun t124=>funext fun t500007_0=>funext fun t500007_1=>funext fun t500007_2=>funext fun t500007_3=>funext fun t500012_0=>funext fun t500012_1=>funext fun t500012_2=>funext fun t500012_3=>funext fun t500012_4=>funext fun t500012_5=>funext fun H=>g22_p4_eq t1 t2 t4_0 t4_1 t9 t10 t11 t13 t124 t500007_0 t500007_1 t500007_2 t500007_3 t500012_0 t500012_1 t500012_2 t500012_3 t500012_4 t500012_5 H K))
noncomputable def g22_p6 (R:Type) (t1:Option (Nat × Nat)) (t2:Int) (t4_0:Nat) (t4_1:Nat) (t9:Int) (t10:Int) (t11:Int) (t13:Int) (t34:Int) (t73:Bool) (t500007_0:Int) (t500007_1:Int) (t500007_2:Int) (t500007_3:Sl) (t500012_0:Int) (t500012_1:Int) (t500012_2:Int) (t500012_3:Int) (t500012_4:Int) (t500012_5:Sl) (H:Heap) (kN:Option (Nat × Nat)→Int→Nat→Nat→Int→Int→Int→Int→Int→Int→Int→Int→Sl→Heap→Option R) (kR:Bool→Heap→Option R):Option R :=
  sel t73 (g22_p2 R t1 t2 t4_0 t4_1 t9 t10 t11 t13 t34 t73 t500007_0 t500007_1 t500007_2 t500007_3 t500012_0 t500012_1 t500012_2 t500012_3 t500012_4 t500012_5 H (fun t1 t2 t4_0 t4_1 t11 t13 t14 t500012_0 t500012_1 t500012_2 t500012_3 t500012_4 t500012_5 H=>kN t1 t2 t4_0 t4_1 t11 t13 t14 t500012_0 t500012_1 t500012_2 t500012_3 t500012_4 t500012_5 H)) (g22_p5 R t1 t2 t4_0 t4_1 t9 t10 t11 t13 t34 t73 t500007_0 t500007_1 t500007_2 t500007_3 t500012_0 t500012_1 t500012_2 t500012_3 t500012_4 t500012_5 H (fun t1 t2 t4_0 t4_1 t11 t13 t14 t500012_0 t500012_1 t500012_2 t500012_3 t500012_4 t500012_5 H=>kN t1 t2 t4_0 t4_1 t11 t13 t14 t500012_0 t500012_1 t500012_2 t500012_3 t500012_4 t500012_5 H) (fun t8 H=>kR t8 H))
theorem g22_p6_lin {R S:Type} {k:S→Option R} {t1:Option (Nat × Nat)} {t2:Int} {t4_0:Nat} {t4_1:Nat} {t9:Int} {t10:Int} {t11:Int} {t13:Int} {t34:Int} {t73:Bool} {t500007_0:Int} {t500007_1:Int} {t500007_2:Int} {t500007_3:Sl} {t500012_0:Int} {t500012_1:Int} {t500012_2:Int} {t500012_3:Int} {t500012_4:Int} {t500012_5:Sl} {H:Heap} {fkN:Option (Nat × Nat)→Int→Nat→Nat→Int→Int→Int→Int→Int→Int→Int→Int→Sl→Heap→Option R} {gkN:Option (Nat × Nat)→Int→Nat→Nat→Int→Int→Int→Int→Int→Int→Int→Int→Sl→Heap→Option S} {fkR:Bool→Heap→Option R} {gkR:Bool→Heap→Option S} (hkN:∀ t1 t2 t4_0 t4_1 t11 t13 t14 t500012_0 t500012_1 t500012_2 t500012_3 t500012_4 t500012_5 H,fkN t1 t2 t4_0 t4_1 t11 t13 t14 t500012_0 t500012_1 t500012_2 t500012_3 t500012_4 t500012_5 H = (gkN t1 t2 t4_0 t4_1 t11 t13 t14 t500012_0 t500012_1 t500012_2 t500012_3 t500012_4 t500012_5 H).bind k) (hkR:∀ t8 H,fkR t8 H = (gkR t8 H).bind k):g22_p6 R t1 t2 t4_0 t4_1 t9 t10 t11 t13 t34 t73 t500007_0 t500007_1 t500007_2 t500007_3 t500012_0 t500012_1 t500012_2 t500012_3 t500012_4 t500012_5 H fkN fkR = (g22_p6 S t1 t2 t4_0 t4_1 t9 t10 t11 t13 t34 t73 t500007_0 t500007_1 t500007_2 t500007_3 t500012_0 t500012_1 t500012_2 t500012_3 t500012_4 t500012_5 H gkN gkR).bind k:=by
  exact sl_lin (g22_p2_lin (fun _ _ _ _ _ _ _ _ _ _ _ _ _ _=>hkN _ _ _ _ _ _ _ _ _ _ _ _ _ _)) (g22_p5_lin (fun _ _ _ _ _ _ _ _ _ _ _ _ _ _=>hkN _ _ _ _ _ _ _ _ _ _ _ _ _ _) (fun _ _=>hkR _ _))
theorem g22_p6_eq {R:Type} (t1:Option (Nat × Nat)) (t2:Int) (t4_0:Nat) (t4_1:Nat) (t9:Int) (t10:Int) (t11:Int) (t13:Int) (t34:Int) (t73:Bool) (t500007_0:Int) (t500007_1:Int) (t500007_2:Int) (t500007_3:Sl) (t500012_0:Int) (t500012_1:Int) (t500012_2:Int) (t500012_3:Int) (t500012_4:Int) (t500012_5:Sl) (H:Heap) (K:Ex→Fr→Heap→Option R):ev2 Try.prog (E22) loopLim lv22 Try.f22.ntmps kp22 c22_3 [(1,(V.p t1)),(2,(V.i .i64 t2)),(4,(V.p (some (t4_0,t4_1)))),(9,(V.i .u32 t9)),(10,(V.i .u32 t10)),(11,(V.i .i64 t11)),(13,(V.i .i64 t13)),(34,(V.i .u8 t34)),(73,(V.b t73)),(500007,(V.agg [(V.i .u8 t500007_0),(V.i .u8 t500007_1),(V.i .u8 t500007_2),(V.sl t500007_3)])),(500012,(V.agg [(V.i .u32 t500012_0),(V.i .u8 t500012_1),(V.i .u16 t500012_2),(V.i .u8 t500012_3),(V.i .u8 t500012_4),(V.sl t500012_5)])),(1000007,(V.p (some (7,0)))),(1000012,(V.p (some (12,0))))] H K = g22_p6 R t1 t2 t4_0 t4_1 t9 t10 t11 t13 t34 t73 t500007_0 t500007_1 t500007_2 t500007_3 t500012_0 t500012_1 t500012_2 t500012_3 t500012_4 t500012_5 H (fun t1 t2 t4_0 t4_1 t11 t13 t14 t500012_0 t500012_1 t500012_2 t500012_3 t500012_4 t500012_5 H=>K .normal [(1,(V.p t1)),(2,(V.i .i64 t2)),(4,(V.p (some (t4_0,t4_1)))),(11,(V.i .i64 t11)),(13,(V.i .i64 t13)),(14,(V.i .i64 t14)),(500012,(V.agg [(V.i .u32 t500012_0),(V.i .u8 t500012_1),(V.i .u16 t500012_2),(V.i .u8 t500012_3),(V.i .u8 t500012_4),(V.sl t500012_5)])),(1000012,(V.p (some (12,0))))] H) (fun t8 H=>K .ret [(8,(V.b t8))] H):=by
  delta c22_3
  rw [ev2_cond _ _ _ _ _ _ t73 rfl]
  delta g22_p6
  exact sc (g22_p2_eq t1 t2 t4_0 t4_1 t9 t10 t11 t13 t34 t73 t500007_0 t500007_1 t500007_2 t500007_3 t500012_0 t500012_1 t500012_2 t500012_3 t500012_4 t500012_5 H (kEnd kp22 (condId (.tmp 73)) K)) (g22_p5_eq t1 t2 t4_0 t4_1 t9 t10 t11 t13 t34 t73 t500007_0 t500007_1 t500007_2 t500007_3 t500012_0 t500012_1 t500012_2 t500012_3 t500012_4 t500012_5 H (kEnd kp22 (condId (.tmp 73)) K))
noncomputable def g22_p7 (R:Type) (t1:Option (Nat × Nat)) (t2:Int) (t4_0:Nat) (t4_1:Nat) (t9:Int) (t10:Int) (t11:Int) (t13:Int) (t34:Int) (t500007_0:Int) (t500007_1:Int) (t500007_2:Int) (t500007_3:Sl) (t500012_0:Int) (t500012_1:Int) (t500012_2:Int) (t500012_3:Int) (t500012_4:Int) (t500012_5:Sl) (H:Heap) (kN:Option (Nat × Nat)→Int→Nat→Nat→Int→Int→Int→Int→Int→Int→Int→Int→Sl→Heap→Option R) (kR:Bool→Heap→Option R):Option R :=
  g22_p1 R t1 t2 t4_0 t4_1 t9 t10 t11 t13 t34 t500007_0 t500007_1 t500007_2 t500007_3 t500012_0 t500012_1 t500012_2 t500012_3 t500012_4 t500012_5 H (fun t1 t2 t4_0 t4_1 t9 t10 t11 t13 t34 t73 t500007_0 t500007_1 t500007_2 t500007_3 t500012_0 t500012_1 t500012_2 t500012_3 t500012_4 t500012_5 H=>g22_p6 R t1 t2 t4_0 t4_1 t9 t10 t11 t13 t34 t73 t500007_0 t500007_1 t500007_2 t500007_3 t500012_0 t500012_1 t500012_2 t500012_3 t500012_4 t500012_5 H (fun t1 t2 t4_0 t4_1 t11 t13 t14 t500012_0 t500012_1 t500012_2 t500012_3 t500012_4 t500012_5 H=>kN t1 t2 t4_0 t4_1 t11 t13 t14 t500012_0 t500012_1 t500012_2 t500012_3 t500012_4 t500012_5 H) (fun t8 H=>kR t8 H))
theorem g22_p7_lin {R S:Type} {k:S→Option R} {t1:Option (Nat × Nat)} {t2:Int} {t4_0:Nat} {t4_1:Nat} {t9:Int} {t10:Int} {t11:Int} {t13:Int} {t34:Int} {t500007_0:Int} {t500007_1:Int} {t500007_2:Int} {t500007_3:Sl} {t500012_0:Int} {t500012_1:Int} {t500012_2:Int} {t500012_3:Int} {t500012_4:Int} {t500012_5:Sl} {H:Heap} {fkN:Option (Nat × Nat)→Int→Nat→Nat→Int→Int→Int→Int→Int→Int→Int→Int→Sl→Heap→Option R} {gkN:Option (Nat × Nat)→Int→Nat→Nat→Int→Int→Int→Int→Int→Int→Int→Int→Sl→Heap→Option S} {fkR:Bool→Heap→Option R} {gkR:Bool→Heap→Option S} (hkN:∀ t1 t2 t4_0 t4_1 t11 t13 t14 t500012_0 t500012_1 t500012_2 t500012_3 t500012_4 t500012_5 H,fkN t1 t2 t4_0 t4_1 t11 t13 t14 t500012_0 t500012_1 t500012_2 t500012_3 t500012_4 t500012_5 H = (gkN t1 t2 t4_0 t4_1 t11 t13 t14 t500012_0 t500012_1 t500012_2 t500012_3 t500012_4 t500012_5 H).bind k) (hkR:∀ t8 H,fkR t8 H = (gkR t8 H).bind k):g22_p7 R t1 t2 t4_0 t4_1 t9 t10 t11 t13 t34 t500007_0 t500007_1 t500007_2 t500007_3 t500012_0 t500012_1 t500012_2 t500012_3 t500012_4 t500012_5 H fkN fkR = (g22_p7 S t1 t2 t4_0 t4_1 t9 t10 t11 t13 t34 t500007_0 t500007_1 t500007_2 t500007_3 t500012_0 t500012_1 t500012_2 t500012_3 t500012_4 t500012_5 H gkN gkR).bind k:=by
  exact g22_p1_lin (fun _ _ _ _ _ _ _ _ _ _ _ _ _ _ _ _ _ _ _ _ _=>g22_p6_lin (fun _ _ _ _ _ _ _ _ _ _ _ _ _ _=>hkN _ _ _ _ _ _ _ _ _ _ _ _ _ _) (fun _ _=>hkR _ _))
theorem g22_p7_eq {R:Type} (t1:Option (Nat × Nat)) (t2:Int) (t4_0:Nat) (t4_1:Nat) (t9:Int) (t10:Int) (t11:Int) (t13:Int) (t34:Int) (t500007_0:Int) (t500007_1:Int) (t500007_2:Int) (t500007_3:Sl) (t500012_0:Int) (t500012_1:Int) (t500012_2:Int) (t500012_3:Int) (t500012_4:Int) (t500012_5:Sl) (H:Heap) (K:Ex→Fr→Heap→Option R):ev2 Try.prog (E22) loopLim lv22 Try.f22.ntmps kp22 c22_4 [(1,(V.p t1)),(2,(V.i .i64 t2)),(4,(V.p (some (t4_0,t4_1)))),(9,(V.i .u32 t9)),(10,(V.i .u32 t10)),(11,(V.i .i64 t11)),(13,(V.i .i64 t13)),(34,(V.i .u8 t34)),(500007,(V.agg [(V.i .u8 t500007_0),(V.i .u8 t500007_1),(V.i .u8 t500007_2),(V.sl t500007_3)])),(500012,(V.agg [(V.i .u32 t500012_0),(V.i .u8 t500012_1),(V.i .u16 t500012_2),(V.i .u8 t500012_3),(V.i .u8 t500012_4),(V.sl t500012_5)])),(1000007,(V.p (some (7,0)))),(1000012,(V.p (some (12,0))))] H K = g22_p7 R t1 t2 t4_0 t4_1 t9 t10 t11 t13 t34 t500007_0 t500007_1 t500007_2 t500007_3 t500012_0 t500012_1 t500012_2 t500012_3 t500012_4 t500012_5 H (fun t1 t2 t4_0 t4_1 t11 t13 t14 t500012_0 t500012_1 t500012_2 t500012_3 t500012_4 t500012_5 H=>K .normal [(1,(V.p t1)),(2,(V.i .i64 t2)),(4,(V.p (some (t4_0,t4_1)))),(11,(V.i .i64 t11)),(13,(V.i .i64 t13)),(14,(V.i .i64 t14)),(500012,(V.agg [(V.i .u32 t500012_0),(V.i .u8 t500012_1),(V.i .u16 t500012_2),(V.i .u8 t500012_3),(V.i .u8 t500012_4),(V.sl t500012_5)])),(1000012,(V.p (some (12,0))))] H) (fun t8 H=>K .ret [(8,(V.b t8))] H):=by
  delta c22_4
  delta g22_p7
  exact (g22_p1_eq _ t1 t2 t4_0 t4_1 t9 t10 t11 t13 t34 t500007_0 t500007_1 t500007_2 t500007_3 t500012_0 t500012_1 t500012_2 t500012_3 t500012_4 t500012_5 H K).trans (congrArg (g22_p1 R t1 t2 t4_0 t4_1 t9 t10 t11 t13 t34 t500007_0 t500007_1 t500007_2 t500007_3 t500012_0 t500012_1 t500012_2 t500012_3 t500012_4 t500012_5 H) (funext fun t1=>funext fun t2=>funext fun t4_0=>funext fun t4_1=>funext fun t9=>funext fun t10=>funext fun t11=>funext fun t13=>funext fun t34=>funext fun t73=>funext fun t500007_0=>funext fun t500007_1=>funext fun t500007_2=>funext fun t500007_3=>funext fun t500012_0=>funext fun t500012_1=>funext fun t500012_2=>funext fun t500012_3=>funext fun t500012_4=>funext fun t500012_5=>funext fun H=>g22_p6_eq t1 t2 t4_0 t4_1 t9 t10 t11 t13 t34 t73 t500007_0 t500007_1 t500007_2 t500007_3 t500012_0 t500012_1 t500012_2 t500012_3 t500012_4 t500012_5 H K))
noncomputable def g22_p8 (R:Type) (t1:Option (Nat × Nat)) (t2:Int) (t4_0:Nat) (t4_1:Nat) (t9:Int) (t10:Int) (t11:Int) (t13:Int) (t34:Int) (t500007_0:Int) (t500007_1:Int) (t500007_2:Int) (t500007_3:Sl) (t500012_0:Int) (t500012_1:Int) (t500012_2:Int) (t500012_3:Int) (t500012_4:Int) (t500012_5:Sl) (H:Heap) (kN:Option (Nat × Nat)→Int→Nat→Nat→Int→Int→Int→Int→Int→Int→Int→Int→Sl→Heap→Option R) (kR:Bool→Heap→Option R):Option R :=
  g22_p7 R t1 t2 t4_0 t4_1 t9 t10 t11 t13 t34 t500007_0 t500007_1 t500007_2 t500007_3 t500012_0 t500012_1 t500012_2 t500012_3 t500012_4 t500012_5 H (fun t1 t2 t4_0 t4_1 t11 t13 t14 t500012_0 t500012_1 t500012_2 t500012_3 t500012_4 t500012_5 H=>kN t1 t2 t4_0 t4_1 t11 t13 t14 t500012_0 t500012_1 t500012_2 t500012_3 t500012_4 t500012_5 H) (fun t8 H=>kR t8 H)
theorem g22_p8_lin {R S:Type} {k:S→Option R} {t1:Option (Nat × Nat)} {t2:Int} {t4_0:Nat} {t4_1:Nat} {t9:Int} {t10:Int} {t11:Int} {t13:Int} {t34:Int} {t500007_0:Int} {t500007_1:Int} {t500007_2:Int} {t500007_3:Sl} {t500012_0:Int} {t500012_1:Int} {t500012_2:Int} {t500012_3:Int} {t500012_4:Int} {t500012_5:Sl} {H:Heap} {fkN:Option (Nat × Nat)→Int→Nat→Nat→Int→Int→Int→Int→Int→Int→Int→Int→Sl→Heap→Option R} {gkN:Option (Nat × Nat)→Int→Nat→Nat→Int→Int→Int→Int→Int→Int→Int→Int→Sl→Heap→Option S} {fkR:Bool→Heap→Option R} {gkR:Bool→Heap→Option S} (hkN:∀ t1 t2 t4_0 t4_1 t11 t13 t14 t500012_0 t500012_1 t500012_2 t500012_3 t500012_4 t500012_5 H,fkN t1 t2 t4_0 t4_1 t11 t13 t14 t500012_0 t500012_1 t500012_2 t500012_3 t500012_4 t500012_5 H = (gkN t1 t2 t4_0 t4_1 t11 t13 t14 t500012_0 t500012_1 t500012_2 t500012_3 t500012_4 t500012_5 H).bind k) (hkR:∀ t8 H,fkR t8 H = (gkR t8 H).bind k):g22_p8 R t1 t2 t4_0 t4_1 t9 t10 t11 t13 t34 t500007_0 t500007_1 t500007_2 t500007_3 t500012_0 t500012_1 t500012_2 t500012_3 t500012_4 t500012_5 H fkN fkR = (g22_p8 S t1 t2 t4_0 t4_1 t9 t10 t11 t13 t34 t500007_0 t500007_1 t500007_2 t500007_3 t500012_0 t500012_1 t500012_2 t500012_3 t500012_4 t500012_5 H gkN gkR).bind k:=by
  exact g22_p7_lin (fun _ _ _ _ _ _ _ _ _ _ _ _ _ _=>hkN _ _ _ _ _ _ _ _ _ _ _ _ _ _) (fun _ _=>hkR _ _)
theorem g22_p8_eq {R:Type} (t1:Option (Nat × Nat)) (t2:Int) (t4_0:Nat) (t4_1:Nat) (t9:Int) (t10:Int) (t11:Int) (t13:Int) (t34:Int) (t500007_0:Int) (t500007_1:Int) (t500007_2:Int) (t500007_3:Sl) (t500012_0:Int) (t500012_1:Int) (t500012_2:Int) (t500012_3:Int) (t500012_4:Int) (t500012_5:Sl) (H:Heap) (K:Ex→Fr→Heap→Option R):ev2 Try.prog (E22) loopLim lv22 Try.f22.ntmps kp22 c22_5 [(1,(V.p t1)),(2,(V.i .i64 t2)),(4,(V.p (some (t4_0,t4_1)))),(9,(V.i .u32 t9)),(10,(V.i .u32 t10)),(11,(V.i .i64 t11)),(13,(V.i .i64 t13)),(34,(V.i .u8 t34)),(500007,(V.agg [(V.i .u8 t500007_0),(V.i .u8 t500007_1),(V.i .u8 t500007_2),(V.sl t500007_3)])),(500012,(V.agg [(V.i .u32 t500012_0),(V.i .u8 t500012_1),(V.i .u16 t500012_2),(V.i .u8 t500012_3),(V.i .u8 t500012_4),(V.sl t500012_5)])),(1000007,(V.p (some (7,0)))),(1000012,(V.p (some (12,0))))] H K = g22_p8 R t1 t2 t4_0 t4_1 t9 t10 t11 t13 t34 t500007_0 t500007_1 t500007_2 t500007_3 t500012_0 t500012_1 t500012_2 t500012_3 t500012_4 t500012_5 H (fun t1 t2 t4_0 t4_1 t11 t13 t14 t500012_0 t500012_1 t500012_2 t500012_3 t500012_4 t500012_5 H=>K .normal [(1,(V.p t1)),(2,(V.i .i64 t2)),(4,(V.p (some (t4_0,t4_1)))),(11,(V.i .i64 t11)),(13,(V.i .i64 t13)),(14,(V.i .i64 t14)),(500012,(V.agg [(V.i .u32 t500012_0),(V.i .u8 t500012_1),(V.i .u16 t500012_2),(V.i .u8 t500012_3),(V.i .u8 t500012_4),(V.sl t500012_5)])),(1000012,(V.p (some (12,0))))] H) (fun t8 H=>K .ret [(8,(V.b t8))] H):=by
  delta c22_5
  rw [ev2_block]
  delta g22_p8
  exact (g22_p7_eq t1 t2 t4_0 t4_1 t9 t10 t11 t13 t34 t500007_0 t500007_1 t500007_2 t500007_3 t500012_0 t500012_1 t500012_2 t500012_3 t500012_4 t500012_5 H (kBlock kp22 0 K))
noncomputable def g22_p9 (R:Type) (t1:Option (Nat × Nat)) (t2:Int) (t4_0:Nat) (t4_1:Nat) (t11:Int) (t13:Int) (t14:Int) (t500012_0:Int) (t500012_1:Int) (t500012_2:Int) (t500012_3:Int) (t500012_4:Int) (t500012_5:Sl) (H:Heap) (kR:Bool→Heap→Option R):Option R :=
  sel (t14 != t11) (
    kR false H) (
    ((H).ldP t4_0 (t4_1 + 0)).bind fun x3704 =>
    ((H).ldP t4_0 (t4_1 + 1)).bind fun x3705 =>
    g19 R x3704 x3705 H fun x3706 h3707 =>
    sel (!x3706) (
      kR false h3707) (
      sel (t14 != (0:Int)) (
        if 0 ≤ (IntKind.wrap .i64 ((1:Int) - t2))∧(IntKind.wrap .i64 ((1:Int) - t2)) < ((2:Nat):Int) then (
          ((h3707).ldP t4_0 (t4_1 + Int.toNat (IntKind.wrap .i64 ((1:Int) - t2)) * 1)).bind fun x3708 =>
          g21 R x3708 (0:Int) (0:Int) (0:Int) (0:Int) (0:Int) (Sl.mk none 0 (.ex 0)) h3707 fun x3709 h3710 =>
          sel x3709 (
            if 0 ≤ t2∧t2 < ((2:Nat):Int) then (
              ((h3710).ldP t4_0 (t4_1 + Int.toNat t2 * 1)).bind fun x3711 =>
              g21 R x3711 (0:Int) (0:Int) (0:Int) (0:Int) (0:Int) (Sl.mk none 0 (.ex 0)) h3710 fun x3712 h3713 =>
              kR x3712 h3713)
            else (
              none)) (
            kR false h3710))
        else (
          none)) (
        (t1).bind fun q3714 =>
        ((h3707).st q3714.1 (q3714.2 + 4) (V.i .i64 t13)).bind fun h3716 =>
        if 0 ≤ (IntKind.wrap .i64 ((1:Int) - t2))∧(IntKind.wrap .i64 ((1:Int) - t2)) < ((2:Nat):Int) then (
          ((h3716).ldP t4_0 (t4_1 + Int.toNat (IntKind.wrap .i64 ((1:Int) - t2)) * 1)).bind fun x3717 =>
          g21 R x3717 t500012_0 t500012_1 t500012_2 t500012_3 t500012_4 t500012_5 h3716 fun x3718 h3719 =>
          sel x3718 (
            if 0 ≤ t2∧t2 < ((2:Nat):Int) then (
              ((h3719).ldP t4_0 (t4_1 + Int.toNat t2 * 1)).bind fun x3720 =>
              g21 R x3720 (0:Int) (0:Int) (0:Int) (0:Int) (0:Int) (Sl.mk none 0 (.ex 0)) h3719 fun x3721 h3722 =>
              kR x3721 h3722)
            else (
              none)) (
            kR false h3719))
        else (
          none))))
theorem g22_p9_eq {R:Type} (t1:Option (Nat × Nat)) (t2:Int) (t4_0:Nat) (t4_1:Nat) (t11:Int) (t13:Int) (t14:Int) (t500012_0:Int) (t500012_1:Int) (t500012_2:Int) (t500012_3:Int) (t500012_4:Int) (t500012_5:Sl) (H:Heap) (K:Ex→Fr→Heap→Option R):ev2 Try.prog (E22) loopLim lv22 Try.f22.ntmps kp22 c22_6 [(1,(V.p t1)),(2,(V.i .i64 t2)),(4,(V.p (some (t4_0,t4_1)))),(11,(V.i .i64 t11)),(13,(V.i .i64 t13)),(14,(V.i .i64 t14)),(500012,(V.agg [(V.i .u32 t500012_0),(V.i .u8 t500012_1),(V.i .u16 t500012_2),(V.i .u8 t500012_3),(V.i .u8 t500012_4),(V.sl t500012_5)])),(1000012,(V.p (some (12,0))))] H K = g22_p9 R t1 t2 t4_0 t4_1 t11 t13 t14 t500012_0 t500012_1 t500012_2 t500012_3 t500012_4 t500012_5 H (fun t8 H=>K .ret [(8,(V.b t8))] H):=by kernel_rfl
theorem g22_p9_lin {R S:Type} {k:S→Option R} {t1:Option (Nat × Nat)} {t2:Int} {t4_0:Nat} {t4_1:Nat} {t11:Int} {t13:Int} {t14:Int} {t500012_0:Int} {t500012_1:Int} {t500012_2:Int} {t500012_3:Int} {t500012_4:Int} {t500012_5:Sl} {H:Heap} {fkR:Bool→Heap→Option R} {gkR:Bool→Heap→Option S} (hkR:∀ t8 H,fkR t8 H = (gkR t8 H).bind k):g22_p9 R t1 t2 t4_0 t4_1 t11 t13 t14 t500012_0 t500012_1 t500012_2 t500012_3 t500012_4 t500012_5 H fkR = (g22_p9 S t1 t2 t4_0 t4_1 t11 t13 t14 t500012_0 t500012_1 t500012_2 t500012_3 t500012_4 t500012_5 H gkR).bind k:=by
  delta g22_p9
  repeat' (first | with_reducible (first | exact hkR _ _ | refine sl_lin ?_ ?_ | refine g19_lin.l fun _ _=>?_ | refine il ?_ ?_ | refine g21_lin.l fun _ _=>?_ | refine bl fun _=>?_) | exact (rfl:(none:Option R) = (none:Option S).bind k))
noncomputable def g22_p10 (R:Type) (t1:Option (Nat × Nat)) (t2:Int) (t4_0:Nat) (t4_1:Nat) (t9:Int) (t10:Int) (t11:Int) (t13:Int) (t34:Int) (t500007_0:Int) (t500007_1:Int) (t500007_2:Int) (t500007_3:Sl) (t500012_0:Int) (t500012_1:Int) (t500012_2:Int) (t500012_3:Int) (t500012_4:Int) (t500012_5:Sl) (H:Heap) (kR:Bool→Heap→Option R):Option R :=
  g22_p8 R t1 t2 t4_0 t4_1 t9 t10 t11 t13 t34 t500007_0 t500007_1 t500007_2 t500007_3 t500012_0 t500012_1 t500012_2 t500012_3 t500012_4 t500012_5 H (fun t1 t2 t4_0 t4_1 t11 t13 t14 t500012_0 t500012_1 t500012_2 t500012_3 t500012_4 t500012_5 H=>g22_p9 R t1 t2 t4_0 t4_1 t11 t13 t14 t500012_0 t500012_1 t500012_2 t500012_3 t500012_4 t500012_5 H (fun t8 H=>kR t8 H)) (fun t8 H=>kR t8 H)
theorem g22_p10_lin {R S:Type} {k:S→Option R} {t1:Option (Nat × Nat)} {t2:Int} {t4_0:Nat} {t4_1:Nat} {t9:Int} {t10:Int} {t11:Int} {t13:Int} {t34:Int} {t500007_0:Int} {t500007_1:Int} {t500007_2:Int} {t500007_3:Sl} {t500012_0:Int} {t500012_1:Int} {t500012_2:Int} {t500012_3:Int} {t500012_4:Int} {t500012_5:Sl} {H:Heap} {fkR:Bool→Heap→Option R} {gkR:Bool→Heap→Option S} (hkR:∀ t8 H,fkR t8 H = (gkR t8 H).bind k):g22_p10 R t1 t2 t4_0 t4_1 t9 t10 t11 t13 t34 t500007_0 t500007_1 t500007_2 t500007_3 t500012_0 t500012_1 t500012_2 t500012_3 t500012_4 t500012_5 H fkR = (g22_p10 S t1 t2 t4_0 t4_1 t9 t10 t11 t13 t34 t500007_0 t500007_1 t500007_2 t500007_3 t500012_0 t500012_1 t500012_2 t500012_3 t500012_4 t500012_5 H gkR).bind k:=by
  exact g22_p8_lin (fun _ _ _ _ _ _ _ _ _ _ _ _ _ _=>g22_p9_lin (fun _ _=>hkR _ _)) (fun _ _=>hkR _ _)
theorem g22_p10_eq {R:Type} (t1:Option (Nat × Nat)) (t2:Int) (t4_0:Nat) (t4_1:Nat) (t9:Int) (t10:Int) (t11:Int) (t13:Int) (t34:Int) (t500007_0:Int) (t500007_1:Int) (t500007_2:Int) (t500007_3:Sl) (t500012_0:Int) (t500012_1:Int) (t500012_2:Int) (t500012_3:Int) (t500012_4:Int) (t500012_5:Sl) (H:Heap) (K:Ex→Fr→Heap→Option R):ev2 Try.prog (E22) loopLim lv22 Try.f22.ntmps kp22 c22_7 [(1,(V.p t1)),(2,(V.i .i64 t2)),(4,(V.p (some (t4_0,t4_1)))),(9,(V.i .u32 t9)),(10,(V.i .u32 t10)),(11,(V.i .i64 t11)),(13,(V.i .i64 t13)),(34,(V.i .u8 t34)),(500007,(V.agg [(V.i .u8 t500007_0),(V.i .u8 t500007_1),(V.i .u8 t500007_2),(V.sl t500007_3)])),(500012,(V.agg [(V.i .u32 t500012_0),(V.i .u8 t500012_1),(V.i .u16 t500012_2),(V.i .u8 t500012_3),(V.i .u8 t500012_4),(V.sl t500012_5)])),(1000007,(V.p (some (7,0)))),(1000012,(V.p (some (12,0))))] H K = g22_p10 R t1 t2 t4_0 t4_1 t9 t10 t11 t13 t34 t500007_0 t500007_1 t500007_2 t500007_3 t500012_0 t500012_1 t500012_2 t500012_3 t500012_4 t500012_5 H (fun t8 H=>K .ret [(8,(V.b t8))] H):=by
  delta c22_7
  rw [ev2_seq]
  delta g22_p10
  exact (g22_p8_eq t1 t2 t4_0 t4_1 t9 t10 t11 t13 t34 t500007_0 t500007_1 t500007_2 t500007_3 t500012_0 t500012_1 t500012_2 t500012_3 t500012_4 t500012_5 H (kSeq (fun fr H=>ev2 Try.prog (E22) loopLim lv22 Try.f22.ntmps kp22 c22_6 fr H K) K)).trans (congr (congrArg (g22_p8 R t1 t2 t4_0 t4_1 t9 t10 t11 t13 t34 t500007_0 t500007_1 t500007_2 t500007_3 t500012_0 t500012_1 t500012_2 t500012_3 t500012_4 t500012_5 H) (funext fun t1=>funext fun t2=>funext fun t4_0=>funext fun t4_1=>funext fun t11=>funext fun t13=>funext fun t14=>funext fun t500012_0=>funext fun t500012_1=>funext fun t500012_2=>funext fun t500012_3=>funext fun t500012_4=>funext fun t500012_5=>funext fun H=>(kSeq_n _ _ _ _).trans (g22_p9_eq t1 t2 t4_0 t4_1 t11 t13 t14 t500012_0 t500012_1 t500012_2 t500012_3 t500012_4 t500012_5 H K))) rfl)
noncomputable def g22_p11 (R:Type) (t0_0:Option (Nat × Nat)) (t0_1:Option (Nat × Nat)) (t1:Option (Nat × Nat)) (t2:Int) (t3_0:Int) (t3_1:Int) (t3_2:Int) (t3_3:Sl) (H:Heap) (kR:Bool→Heap→Option R):Option R :=
  g22_p0 R t0_0 t0_1 t1 t2 t3_0 t3_1 t3_2 t3_3 H (fun t1 t2 t4_0 t4_1 t9 t10 t11 t13 t34 t500007_0 t500007_1 t500007_2 t500007_3 t500012_0 t500012_1 t500012_2 t500012_3 t500012_4 t500012_5 H=>g22_p10 R t1 t2 t4_0 t4_1 t9 t10 t11 t13 t34 t500007_0 t500007_1 t500007_2 t500007_3 t500012_0 t500012_1 t500012_2 t500012_3 t500012_4 t500012_5 H (fun t8 H=>kR t8 H))
theorem g22_p11_lin {R S:Type} {k:S→Option R} {t0_0:Option (Nat × Nat)} {t0_1:Option (Nat × Nat)} {t1:Option (Nat × Nat)} {t2:Int} {t3_0:Int} {t3_1:Int} {t3_2:Int} {t3_3:Sl} {H:Heap} {fkR:Bool→Heap→Option R} {gkR:Bool→Heap→Option S} (hkR:∀ t8 H,fkR t8 H = (gkR t8 H).bind k):g22_p11 R t0_0 t0_1 t1 t2 t3_0 t3_1 t3_2 t3_3 H fkR = (g22_p11 S t0_0 t0_1 t1 t2 t3_0 t3_1 t3_2 t3_3 H gkR).bind k:=by
  exact g22_p0_lin (fun _ _ _ _ _ _ _ _ _ _ _ _ _ _ _ _ _ _ _ _=>g22_p10_lin (fun _ _=>hkR _ _))
theorem g22_p11_eq {R:Type} (t0_0:Option (Nat × Nat)) (t0_1:Option (Nat × Nat)) (t1:Option (Nat × Nat)) (t2:Int) (t3_0:Int) (t3_1:Int) (t3_2:Int) (t3_3:Sl) (H:Heap) (K:Ex→Fr→Heap→Option R):ev2 Try.prog (E22) loopLim lv22 Try.f22.ntmps kp22 c22_8 [(0,(V.agg [(V.p t0_0),(V.p t0_1)])),(1,(V.p t1)),(2,(V.i .i64 t2)),(3,(V.agg [(V.i .u8 t3_0),(V.i .u8 t3_1),(V.i .u8 t3_2),(V.sl t3_3)]))] H K = g22_p11 R t0_0 t0_1 t1 t2 t3_0 t3_1 t3_2 t3_3 H (fun t8 H=>K .ret [(8,(V.b t8))] H):=by
  delta c22_8
  delta g22_p11
  exact (g22_p0_eq _ t0_0 t0_1 t1 t2 t3_0 t3_1 t3_2 t3_3 H K).trans (congrArg (g22_p0 R t0_0 t0_1 t1 t2 t3_0 t3_1 t3_2 t3_3 H) (funext fun t1=>funext fun t2=>funext fun t4_0=>funext fun t4_1=>funext fun t9=>funext fun t10=>funext fun t11=>funext fun t13=>funext fun t34=>funext fun t500007_0=>funext fun t500007_1=>funext fun t500007_2=>funext fun t500007_3=>funext fun t500012_0=>funext fun t500012_1=>funext fun t500012_2=>funext fun t500012_3=>funext fun t500012_4=>funext fun t500012_5=>funext fun H=>g22_p10_eq t1 t2 t4_0 t4_1 t9 t10 t11 t13 t34 t500007_0 t500007_1 t500007_2 t500007_3 t500012_0 t500012_1 t500012_2 t500012_3 t500012_4 t500012_5 H K))
noncomputable def g22_r:T22:=fun R t0_0 t0_1 t1 t2 t3_0 t3_1 t3_2 t3_3 H K =>
  g22_p11 R t0_0 t0_1 t1 t2 t3_0 t3_1 t3_2 t3_3 H (fun t8 H =>
    K t8 H)
theorem g22_r_lin:Lin22 (g22_r):=by
  constructor
  intro R S k t0_0 t0_1 t1 t2 t3_0 t3_1 t3_2 t3_3 H f g h
  exact g22_p11_lin (fun t8 H =>
    h _ _)
theorem g22_fn {R:Type} (t0_0:Option (Nat × Nat)) (t0_1:Option (Nat × Nat)) (t1:Option (Nat × Nat)) (t2:Int) (t3_0:Int) (t3_1:Int) (t3_2:Int) (t3_3:Sl) (H:Heap) (K:V→Heap→Option R):evFn2 Try.prog (E22) loopLim lv22 Try.f22 kp22 [(V.agg [(V.p t0_0),(V.p t0_1)]),(V.p t1),(V.i .i64 t2),(V.agg [(V.i .u8 t3_0),(V.i .u8 t3_1),(V.i .u8 t3_2),(V.sl t3_3)])] H K = g22_r R t0_0 t0_1 t1 t2 t3_0 t3_1 t3_2 t3_3 H (fun r0 H=>K (V.b r0) H):=by
  have h0 : ∀ (t8 : Bool) (H : Heap), kFn2 Try.prog Try.f22.results.toList K .ret [(8, (V.b t8))] H =
      K (V.b t8) H:=by intros; kernel_rfl
  have e0:=evFn2_code2 (P:=Try.prog) (c:=c22_8) (E:=(E22)) (lr:=loopLim) (lv:=lv22) (kp:=kp22) (fn:=Try.f22) (args:=[(V.agg [(V.p t0_0),(V.p t0_1)]),(V.p t1),(V.i .i64 t2),(V.agg [(V.i .u8 t3_0),(V.i .u8 t3_1),(V.i .u8 t3_2),(V.sl t3_3)])]) H K (by kernel_rfl) (Nat.le_of_ble_eq_true (by kernel_rfl)) (by kernel_rfl) (by kernel_rfl)
  have e1:ev2 Try.prog (E22) loopLim lv22 Try.f22.ntmps kp22 c22_8 (argFr 0 [(V.agg [(V.p t0_0),(V.p t0_1)]),(V.p t1),(V.i .i64 t2),(V.agg [(V.i .u8 t3_0),(V.i .u8 t3_1),(V.i .u8 t3_2),(V.sl t3_3)])]) H (kFn2 Try.prog Try.f22.results.toList K) = ev2 Try.prog (E22) loopLim lv22 Try.f22.ntmps kp22 c22_8 [(0,(V.agg [(V.p t0_0),(V.p t0_1)])),(1,(V.p t1)),(2,(V.i .i64 t2)),(3,(V.agg [(V.i .u8 t3_0),(V.i .u8 t3_1),(V.i .u8 t3_2),(V.sl t3_3)]))] H (kFn2 Try.prog Try.f22.results.toList K):=by kernel_rfl
  refine (e0.trans e1).trans ?_
  delta g22_r
  exact (g22_p11_eq t0_0 t0_1 t1 t2 t3_0 t3_1 t3_2 t3_3 H (kFn2 Try.prog Try.f22.results.toList K)).trans (congrArg (g22_p11 R t0_0 t0_1 t1 t2 t3_0 t3_1 t3_2 t3_3 H) (funext fun t8=>funext fun H=>h0 t8 H))
theorem g22_ok:FunOK Try.prog 22 (w22 (g22_r)):=by
  refine (runF2_ok (E22_good) mixed lim_ok Try.func22 (by kernel_rfl) lv22 kp22).of_le fun R args H K r hk=>?_
  unfold w22 at hk
  split at hk
  · exact (g22_fn _ _ _ _ _ _ _ _ H K).trans hk
  · cases hk
noncomputable def g22:T22:=g22_r
theorem g22_lin:Lin22 g22:=g22_r_lin
theorem ok22:FunOK Try.prog 22 (w22 g22):=g22_ok
def kp23:Nat→Option (List Nat):=kpOf [(0,[0]),(1,[0,5]),(2,[2]),(3,[2]),(300000,[2]),(400005,[0])]
noncomputable def E23:FEnv:=[(37,w37 g37)]
theorem E23_good:EnvGood Try.prog (E23):=((EnvGood.nil _).cons ok37 (w37_lin g37_lin))
theorem E23_lin:EnvLin (E23):=by
  intro g F h
  simp only [E23,List.mem_cons,List.not_mem_nil,or_false] at h
  rcases h with h
  · cases h; exact w37_lin g37_lin
def lv23:Nat→Bool:=lvOf []
noncomputable def b23:Code:=Try.f23.body.getD .skip
noncomputable def c23_0:Code:=(.seq (codeAt [0] b23) (.seq (codeAt [1,0,0] b23) (.seq (.cond (.tmp 5) (.seq (codeAt [1,0,1,0,0] b23) .ret) .skip) (.seq (codeAt [1,1,0] b23) .ret))))
noncomputable def g23_p0 (R:Type) (t0:Option (Nat × Nat)) (H:Heap) (kR:Int→Heap→Option R):Option R :=
  g37 R t0 H fun x1 h2 =>
  sel (!x1) (
    kR (0:Int) h2) (
    (t0).bind fun q3 =>
    ((h2).ldM q3.1 (q3.2 + 5)).bind fun x4 =>
    ((getMap h2 x4)).bind fun m5 =>
    kR ((m5.1.length:Nat):Int) h2)
theorem g23_p0_eq {R:Type} (t0:Option (Nat × Nat)) (H:Heap) (K:Ex→Fr→Heap→Option R):ev2 Try.prog (E23) loopLim lv23 Try.f23.ntmps kp23 c23_0 [(0,(V.p t0))] H K = g23_p0 R t0 H (fun t2 H=>K .ret [(2,(V.i .i64 t2))] H):=by kernel_rfl
theorem g23_p0_lin {R S:Type} {k:S→Option R} {t0:Option (Nat × Nat)} {H:Heap} {fkR:Int→Heap→Option R} {gkR:Int→Heap→Option S} (hkR:∀ t2 H,fkR t2 H = (gkR t2 H).bind k):g23_p0 R t0 H fkR = (g23_p0 S t0 H gkR).bind k:=by
  delta g23_p0; exact (
    g37_lin.l fun x1 h2 =>
    sl_lin (
      hkR _ _) (
      bl fun q3 =>
      bl fun x4 =>
      bl fun m5 =>
      hkR _ _))
noncomputable def g23_r:T23:=fun R t0 H K =>
  g23_p0 R t0 H (fun t2 H =>
    K t2 H)
theorem g23_r_lin:Lin23 (g23_r):=by
  constructor
  intro R S k t0 H f g h
  exact g23_p0_lin (fun t2 H =>
    h _ _)
theorem g23_fn {R:Type} (t0:Option (Nat × Nat)) (H:Heap) (K:V→Heap→Option R):evFn2 Try.prog (E23) loopLim lv23 Try.f23 kp23 [(V.p t0)] H K = g23_r R t0 H (fun r0 H=>K (V.i .i64 r0) H):=by
  have h0 : ∀ (t2 : Int) (H : Heap), kFn2 Try.prog Try.f23.results.toList K .ret [(2, (V.i .i64 t2))] H =
      K (V.i .i64 t2) H:=by intros; kernel_rfl
  have e0:=evFn2_code2 (P:=Try.prog) (c:=c23_0) (E:=(E23)) (lr:=loopLim) (lv:=lv23) (kp:=kp23) (fn:=Try.f23) (args:=[(V.p t0)]) H K (by kernel_rfl) (Nat.le_of_ble_eq_true (by kernel_rfl)) (by kernel_rfl) (by kernel_rfl)
  have e1:ev2 Try.prog (E23) loopLim lv23 Try.f23.ntmps kp23 c23_0 (argFr 0 [(V.p t0)]) H (kFn2 Try.prog Try.f23.results.toList K) = ev2 Try.prog (E23) loopLim lv23 Try.f23.ntmps kp23 c23_0 [(0,(V.p t0))] H (kFn2 Try.prog Try.f23.results.toList K):=by kernel_rfl
  refine (e0.trans e1).trans ?_
  delta g23_r
  exact (g23_p0_eq t0 H (kFn2 Try.prog Try.f23.results.toList K)).trans (congrArg (g23_p0 R t0 H) (funext fun t2=>funext fun H=>h0 t2 H))
theorem g23_ok:FunOK Try.prog 23 (w23 (g23_r)):=by
  refine (runF2_ok (E23_good) mixed lim_ok Try.func23 (by kernel_rfl) lv23 kp23).of_le fun R args H K r hk=>?_
  unfold w23 at hk
  split at hk
  · exact (g23_fn _ H K).trans hk
  · cases hk
noncomputable def g23:T23:=g23_r
theorem g23_lin:Lin23 g23:=g23_r_lin
theorem ok23:FunOK Try.prog 23 (w23 g23):=g23_ok
end Go.Proofs.Ytnlfkllnmobppaa

