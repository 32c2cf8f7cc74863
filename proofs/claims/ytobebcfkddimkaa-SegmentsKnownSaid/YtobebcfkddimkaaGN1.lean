/- Printed: functions as the machine runs them. -/
import Derived.Test.YtobebcfkddimkaaGN0
namespace Go.Proofs.Ytobebcfkddimkaa
open Go AM Go.RowKit
set_option linter.unusedVariables false
def kp18:Nat→Option (List Nat):=kpOf [(0,[0,1,2]),(1,[0,1,2,17]),(2,[6,7]),(3,[0,1,2,8]),(4,[0,1,2,8,27]),(5,[6,7]),(6,[0,1,2,8,9]),(7,[0,1,2,8,9,31,32]),(8,[0,1,2,8,9,31,32,33]),(9,[0,1,2,8,9,10,31,32]),(10,[0,1,2,8,9,10,11,31,32]),(11,[0,1,2,8,9,31,32]),(12,[0,1,2,8,9,31,32]),(13,[6,7]),(100000,[9]),(100001,[0,1,2,8,9,31,32]),(200000,[0,1,2,8,9,31,32]),(200001,[0,1,2,8,9,31,32]),(300000,[6,7]),(400017,[0,1,2]),(400027,[0,1,2,8]),(400033,[0,1,2,8,9,31,32])]
noncomputable def E18:FEnv:=[(32,w32 g32),(31,w31 g31)]
theorem E18_good:EnvGood Try.prog (E18):=(((EnvGood.nil _).cons ok31 (w31_lin g31_lin)).cons ok32 (w32_lin g32_lin))
def lv18:Nat→Bool:=lvOf []
noncomputable def b18:Code:=Try.f18.body.getD .skip
noncomputable def c18_0:Code:=(.seq (codeAt [1,1,1,1,1,0,1,0,0,0] b18) (.seq (.cond (.tmp 33) .skip (.exit 0)) (.seq (.block 1 (.seq (codeAt [1,1,1,1,1,0,1,0,0,1,1,0,0,0] b18) (.seq (codeAt [1,1,1,1,1,0,1,0,0,1,1,0,0,1,0] b18) (codeAt [1,1,1,1,1,0,1,0,0,1,1,0,0,1,1] b18)))) (codeAt [1,1,1,1,1,0,1,0,0,1,1,1] b18))))
noncomputable def c18_1:Code:=(.loop c18_0)
noncomputable def c18_2:Code:=(.block 0 c18_1)
noncomputable def c18_3:Code:=(.seq (codeAt [1,1,1,1,1,1,0] b18) .ret)
noncomputable def c18_4:Code:=(.seq c18_2 c18_3)
noncomputable def c18_5:Code:=(.seq (codeAt [0] b18) (.seq (codeAt [1,0,0] b18) (.seq (.cond (.tmp 17) (.seq (codeAt [1,0,1,0,0] b18) .ret) .skip) (.seq (codeAt [1,1,0] b18) (.seq (codeAt [1,1,1,0,0] b18) (.seq (.cond (.tmp 27) (.seq (codeAt [1,1,1,0,1,0,0] b18) .ret) .skip) (.seq (codeAt [1,1,1,1,0] b18) (.seq (codeAt [1,1,1,1,1,0,0] b18) c18_4))))))))
noncomputable def g18_p0 (R:Type) (t0:Int) (t1:Sl) (t2:Int) (H:Heap) (kN:Int→Sl→Int→Int→Sl→Int→Int→Heap→Option R) (kR:Sl→Int→Heap→Option R):Option R :=
  sel (decide (t2 < (1:Int))) (
    kR (Sl.mk none 0 (.ex 0)) (1:Int) H) (
    sel (decide (t2 > (256:Int))) (
      kR (Sl.mk none 0 (.ex 0)) (1:Int) H) (
      if t2 = 0 then (
        none)
      else (
        sel (decide ((if (IntKind.wrap .i64 (Int.tdiv (IntKind.wrap .i64 ((IntKind.wrap .i64 (((t1.len:Nat):Int) + t2)) - (1:Int))) t2)) > (1:Int) then (IntKind.wrap .i64 (Int.tdiv (IntKind.wrap .i64 ((IntKind.wrap .i64 (((t1.len:Nat):Int) + t2)) - (1:Int))) t2)) else (1:Int)) > (16:Int))) (
          kR (Sl.mk none 0 (.ex 0)) (3:Int) H) (
          if 0 ≤ (if (IntKind.wrap .i64 (Int.tdiv (IntKind.wrap .i64 ((IntKind.wrap .i64 (((t1.len:Nat):Int) + t2)) - (1:Int))) t2)) > (1:Int) then (IntKind.wrap .i64 (Int.tdiv (IntKind.wrap .i64 ((IntKind.wrap .i64 (((t1.len:Nat):Int) + t2)) - (1:Int))) t2)) else (1:Int))∧(if (IntKind.wrap .i64 (Int.tdiv (IntKind.wrap .i64 ((IntKind.wrap .i64 (((t1.len:Nat):Int) + t2)) - (1:Int))) t2)) > (1:Int) then (IntKind.wrap .i64 (Int.tdiv (IntKind.wrap .i64 ((IntKind.wrap .i64 (((t1.len:Nat):Int) + t2)) - (1:Int))) t2)) else (1:Int)) ≤ (if (IntKind.wrap .i64 (Int.tdiv (IntKind.wrap .i64 ((IntKind.wrap .i64 (((t1.len:Nat):Int) + t2)) - (1:Int))) t2)) > (1:Int) then (IntKind.wrap .i64 (Int.tdiv (IntKind.wrap .i64 ((IntKind.wrap .i64 (((t1.len:Nat):Int) + t2)) - (1:Int))) t2)) else (1:Int))∧(if (IntKind.wrap .i64 (Int.tdiv (IntKind.wrap .i64 ((IntKind.wrap .i64 (((t1.len:Nat):Int) + t2)) - (1:Int))) t2)) > (1:Int) then (IntKind.wrap .i64 (Int.tdiv (IntKind.wrap .i64 ((IntKind.wrap .i64 (((t1.len:Nat):Int) + t2)) - (1:Int))) t2)) else (1:Int)) ≤ 9223372036854775807∧(if (IntKind.wrap .i64 (Int.tdiv (IntKind.wrap .i64 ((IntKind.wrap .i64 (((t1.len:Nat):Int) + t2)) - (1:Int))) t2)) > (1:Int) then (IntKind.wrap .i64 (Int.tdiv (IntKind.wrap .i64 ((IntKind.wrap .i64 (((t1.len:Nat):Int) + t2)) - (1:Int))) t2)) else (1:Int)) * ((32:Nat):Int) ≤ 281474976710656 then (
            ((zeroCellsV Try.prog 45 (Int.toNat (if (IntKind.wrap .i64 (Int.tdiv (IntKind.wrap .i64 ((IntKind.wrap .i64 (((t1.len:Nat):Int) + t2)) - (1:Int))) t2)) > (1:Int) then (IntKind.wrap .i64 (Int.tdiv (IntKind.wrap .i64 ((IntKind.wrap .i64 (((t1.len:Nat):Int) + t2)) - (1:Int))) t2)) else (1:Int))))).bind fun vs4 =>
            alo H (.cells vs4 45 false) fun i5 h6 =>
            kN t0 t1 t2 (if (IntKind.wrap .i64 (Int.tdiv (IntKind.wrap .i64 ((IntKind.wrap .i64 (((t1.len:Nat):Int) + t2)) - (1:Int))) t2)) > (1:Int) then (IntKind.wrap .i64 (Int.tdiv (IntKind.wrap .i64 ((IntKind.wrap .i64 (((t1.len:Nat):Int) + t2)) - (1:Int))) t2)) else (1:Int)) (Sl.mk (some (i5,0)) (Int.toNat (if (IntKind.wrap .i64 (Int.tdiv (IntKind.wrap .i64 ((IntKind.wrap .i64 (((t1.len:Nat):Int) + t2)) - (1:Int))) t2)) > (1:Int) then (IntKind.wrap .i64 (Int.tdiv (IntKind.wrap .i64 ((IntKind.wrap .i64 (((t1.len:Nat):Int) + t2)) - (1:Int))) t2)) else (1:Int))) (.ex (Int.toNat (if (IntKind.wrap .i64 (Int.tdiv (IntKind.wrap .i64 ((IntKind.wrap .i64 (((t1.len:Nat):Int) + t2)) - (1:Int))) t2)) > (1:Int) then (IntKind.wrap .i64 (Int.tdiv (IntKind.wrap .i64 ((IntKind.wrap .i64 (((t1.len:Nat):Int) + t2)) - (1:Int))) t2)) else (1:Int))))) (((Sl.mk (some (i5,0)) (Int.toNat (if (IntKind.wrap .i64 (Int.tdiv (IntKind.wrap .i64 ((IntKind.wrap .i64 (((t1.len:Nat):Int) + t2)) - (1:Int))) t2)) > (1:Int) then (IntKind.wrap .i64 (Int.tdiv (IntKind.wrap .i64 ((IntKind.wrap .i64 (((t1.len:Nat):Int) + t2)) - (1:Int))) t2)) else (1:Int))) (.ex (Int.toNat (if (IntKind.wrap .i64 (Int.tdiv (IntKind.wrap .i64 ((IntKind.wrap .i64 (((t1.len:Nat):Int) + t2)) - (1:Int))) t2)) > (1:Int) then (IntKind.wrap .i64 (Int.tdiv (IntKind.wrap .i64 ((IntKind.wrap .i64 (((t1.len:Nat):Int) + t2)) - (1:Int))) t2)) else (1:Int))))).len:Nat):Int) (0:Int) h6)
          else (
            none)))))
theorem g18_p0_eq {R:Type} (c2:Code) (t0:Int) (t1:Sl) (t2:Int) (H:Heap) (K:Ex→Fr→Heap→Option R):ev2 Try.prog (E18) loopLim lv18 Try.f18.ntmps kp18 (.seq (codeAt [0] b18) (.seq (codeAt [1,0,0] b18) (.seq (.cond (.tmp 17) (.seq (codeAt [1,0,1,0,0] b18) .ret) .skip) (.seq (codeAt [1,1,0] b18) (.seq (codeAt [1,1,1,0,0] b18) (.seq (.cond (.tmp 27) (.seq (codeAt [1,1,1,0,1,0,0] b18) .ret) .skip) (.seq (codeAt [1,1,1,1,0] b18) (.seq (codeAt [1,1,1,1,1,0,0] b18) c2)))))))) [(0,(V.i .u32 t0)),(1,(V.sl t1)),(2,(V.i .i64 t2))] H K = g18_p0 R t0 t1 t2 H (fun t0 t1 t2 t8 t9 t31 t32 H=>ev2 Try.prog (E18) loopLim lv18 Try.f18.ntmps kp18 c2 [(0,(V.i .u32 t0)),(1,(V.sl t1)),(2,(V.i .i64 t2)),(8,(V.i .i64 t8)),(9,(V.sl t9)),(31,(V.i .i64 t31)),(32,(V.i .i64 t32))] H K) (fun t6 t7 H=>K .ret [(6,(V.sl t6)),(7,(V.i .i64 t7))] H):=by kernel_rfl
theorem g18_p0_lin {R S:Type} {k:S→Option R} {t0:Int} {t1:Sl} {t2:Int} {H:Heap} {fkN:Int→Sl→Int→Int→Sl→Int→Int→Heap→Option R} {gkN:Int→Sl→Int→Int→Sl→Int→Int→Heap→Option S} {fkR:Sl→Int→Heap→Option R} {gkR:Sl→Int→Heap→Option S} (hkN:∀ t0 t1 t2 t8 t9 t31 t32 H,fkN t0 t1 t2 t8 t9 t31 t32 H = (gkN t0 t1 t2 t8 t9 t31 t32 H).bind k) (hkR:∀ t6 t7 H,fkR t6 t7 H = (gkR t6 t7 H).bind k):g18_p0 R t0 t1 t2 H fkN fkR = (g18_p0 S t0 t1 t2 H gkN gkR).bind k:=by
  delta g18_p0; exact (
    sl_lin (
      hkR _ _ _) (
      sl_lin (
        hkR _ _ _) (
        il (
          rfl) (
          sl_lin (
            hkR _ _ _) (
            il (
              bl fun vs4 =>
              alo_lin fun i5 h6 =>
              hkN _ _ _ _ _ _ _ _) (
              rfl))))))
noncomputable def g18_p1 (R:Type) (t0:Int) (t1:Sl) (t2:Int) (t8:Int) (t9:Sl) (t31:Int) (t32:Int) (H:Heap) (kN:Int→Sl→Int→Int→Sl→Int→Int→Heap→Option R) (kE0:Sl→Heap→Option R):Option R :=
  sel (decide (t32 < t31)) (
    slOf 1 t1 (some (IntKind.wrap .i64 (t32 * t2))) (some (if ((t1.len:Nat):Int) < (IntKind.wrap .i64 ((IntKind.wrap .i64 (t32 + (1:Int))) * t2)) then ((t1.len:Nat):Int) else (IntKind.wrap .i64 ((IntKind.wrap .i64 (t32 + (1:Int))) * t2)))) none fun s7 =>
    g32 R s7 H fun x8 h9 =>
    g31 R x8 h9 fun x10 h11 =>
    if 0 ≤ t32∧t32 < ((t9.len:Nat):Int) then (
      (t9.a).bind fun q12 =>
      ((h11).sts q12.1 (q12.2 + Int.toNat t32 * 4) [(V.i .u32 t0),(V.b (t32 == (0:Int))),(V.i .u8 (IntKind.wrap .u8 (IntKind.wrap .i64 ((IntKind.wrap .i64 (t8 - (1:Int))) - t32)))),(V.sl x10)]).bind fun h13 =>
      kN t0 t1 t2 t8 t9 t31 (IntKind.wrap .i64 (t32 + (1:Int))) h13)
    else (
      none)) (
    kE0 t9 H)
theorem g18_p1_eq {R:Type} (t0:Int) (t1:Sl) (t2:Int) (t8:Int) (t9:Sl) (t31:Int) (t32:Int) (H:Heap) (K:Ex→Fr→Heap→Option R):ev2 Try.prog (E18) loopLim lv18 Try.f18.ntmps kp18 c18_0 [(0,(V.i .u32 t0)),(1,(V.sl t1)),(2,(V.i .i64 t2)),(8,(V.i .i64 t8)),(9,(V.sl t9)),(31,(V.i .i64 t31)),(32,(V.i .i64 t32))] H K = g18_p1 R t0 t1 t2 t8 t9 t31 t32 H (fun t0 t1 t2 t8 t9 t31 t32 H=>K .normal [(0,(V.i .u32 t0)),(1,(V.sl t1)),(2,(V.i .i64 t2)),(8,(V.i .i64 t8)),(9,(V.sl t9)),(31,(V.i .i64 t31)),(32,(V.i .i64 t32))] H) (fun t9 H=>K (.exit 0) [(9,(V.sl t9))] H):=by kernel_rfl
theorem g18_p1_lin {R S:Type} {k:S→Option R} {t0:Int} {t1:Sl} {t2:Int} {t8:Int} {t9:Sl} {t31:Int} {t32:Int} {H:Heap} {fkN:Int→Sl→Int→Int→Sl→Int→Int→Heap→Option R} {gkN:Int→Sl→Int→Int→Sl→Int→Int→Heap→Option S} {fkE0:Sl→Heap→Option R} {gkE0:Sl→Heap→Option S} (hkN:∀ t0 t1 t2 t8 t9 t31 t32 H,fkN t0 t1 t2 t8 t9 t31 t32 H = (gkN t0 t1 t2 t8 t9 t31 t32 H).bind k) (hkE0:∀ t9 H,fkE0 t9 H = (gkE0 t9 H).bind k):g18_p1 R t0 t1 t2 t8 t9 t31 t32 H fkN fkE0 = (g18_p1 S t0 t1 t2 t8 t9 t31 t32 H gkN gkE0).bind k:=by
  delta g18_p1; exact (
    sl_lin (
      slOf_lin fun s7 =>
      g32_lin.l fun x8 h9 =>
      g31_lin.l fun x10 h11 =>
      il (
        bl fun q12 =>
        bl fun h13 =>
        hkN _ _ _ _ _ _ _ _) (
        rfl)) (
      hkE0 _ _))
abbrev g18_p2_S:=Int × Sl × Int × Int × Sl × Int × Int
abbrev g18_p2_O:=Sl
def g18_p2_es (s:g18_p2_S):Fr:=[(0,(V.i .u32 s.1)),(1,(V.sl s.2.1)),(2,(V.i .i64 s.2.2.1)),(8,(V.i .i64 s.2.2.2.1)),(9,(V.sl s.2.2.2.2.1)),(31,(V.i .i64 s.2.2.2.2.2.1)),(32,(V.i .i64 s.2.2.2.2.2.2))]
def g18_p2_er (r:g18_p2_O):Ex × Fr:=((.exit 0),[(9,(V.sl r))])
noncomputable def g18_p2_b (s:g18_p2_S) (H:Heap):Option (Rd g18_p2_S g18_p2_O × Heap) :=
  g18_p1 _ s.1 s.2.1 s.2.2.1 s.2.2.2.1 s.2.2.2.2.1 s.2.2.2.2.2.1 s.2.2.2.2.2.2 H (fun t0 t1 t2 t8 t9 t31 t32 H=>some (.go (t0,t1,t2,t8,t9,t31,t32),H)) (fun t9 H=>some (.up t9,H))
noncomputable def g18_p2 (R:Type) (t0:Int) (t1:Sl) (t2:Int) (t8:Int) (t9:Sl) (t31:Int) (t32:Int) (H:Heap) (kE0:Sl→Heap→Option R):Option R :=
  (tlim (g18_p2_b) (t0,t1,t2,t8,t9,t31,t32) H).bind fun p=>kE0 p.1 p.2
theorem g18_p2_lin {R S:Type} {k:S→Option R} {t0:Int} {t1:Sl} {t2:Int} {t8:Int} {t9:Sl} {t31:Int} {t32:Int} {H:Heap} {fkE0:Sl→Heap→Option R} {gkE0:Sl→Heap→Option S} (hkE0:∀ t9 H,fkE0 t9 H = (gkE0 t9 H).bind k):g18_p2 R t0 t1 t2 t8 t9 t31 t32 H fkE0 = (g18_p2 S t0 t1 t2 t8 t9 t31 t32 H gkE0).bind k:=by
  exact bl fun p=>hkE0 _ _
theorem g18_p2_eq {R:Type} (t0:Int) (t1:Sl) (t2:Int) (t8:Int) (t9:Sl) (t31:Int) (t32:Int) (H:Heap) (K:Ex→Fr→Heap→Option R):ev2 Try.prog (E18) loopLim lv18 Try.f18.ntmps kp18 c18_1 [(0,(V.i .u32 t0)),(1,(V.sl t1)),(2,(V.i .i64 t2)),(8,(V.i .i64 t8)),(9,(V.sl t9)),(31,(V.i .i64 t31)),(32,(V.i .i64 t32))] H K = g18_p2 R t0 t1 t2 t8 t9 t31 t32 H (fun t9 H=>K (.exit 0) [(9,(V.sl t9))] H):=by
  delta c18_1
  delta g18_p2
  refine (ev2_tlim (b:=g18_p2_b) (es:=g18_p2_es) (er:=g18_p2_er) (by intro r; exact nofun) (fun s H=>?_) (t0,t1,t2,t8,t9,t31,t32) H K).trans (bc fun p=>rfl)
  exact (g18_p1_eq s.1 s.2.1 s.2.2.1 s.2.2.2.1 s.2.2.2.2.1 s.2.2.2.2.2.1 s.2.2.2.2.2.2 H ret3).trans (g18_p1_lin (fun _ _ _ _ _ _ _ _=>rfl) (fun _ _=>rfl))
noncomputable def g18_p3 (R:Type) (t0:Int) (t1:Sl) (t2:Int) (t8:Int) (t9:Sl) (t31:Int) (t32:Int) (H:Heap) (kN:Sl→Heap→Option R):Option R :=
  g18_p2 R t0 t1 t2 t8 t9 t31 t32 H (fun t9 H=>kN t9 H)
theorem g18_p3_lin {R S:Type} {k:S→Option R} {t0:Int} {t1:Sl} {t2:Int} {t8:Int} {t9:Sl} {t31:Int} {t32:Int} {H:Heap} {fkN:Sl→Heap→Option R} {gkN:Sl→Heap→Option S} (hkN:∀ t9 H,fkN t9 H = (gkN t9 H).bind k):g18_p3 R t0 t1 t2 t8 t9 t31 t32 H fkN = (g18_p3 S t0 t1 t2 t8 t9 t31 t32 H gkN).bind k:=by
  exact g18_p2_lin (fun _ _=>hkN _ _)
theorem g18_p3_eq {R:Type} (t0:Int) (t1:Sl) (t2:Int) (t8:Int) (t9:Sl) (t31:Int) (t32:Int) (H:Heap) (K:Ex→Fr→Heap→Option R):ev2 Try.prog (E18) loopLim lv18 Try.f18.ntmps kp18 c18_2 [(0,(V.i .u32 t0)),(1,(V.sl t1)),(2,(V.i .i64 t2)),(8,(V.i .i64 t8)),(9,(V.sl t9)),(31,(V.i .i64 t31)),(32,(V.i .i64 t32))] H K = g18_p3 R t0 t1 t2 t8 t9 t31 t32 H (fun t9 H=>K .normal [(9,(V.sl t9))] H):=by
  delta c18_2
  rw [ev2_block]
  delta g18_p3
  exact (g18_p2_eq t0 t1 t2 t8 t9 t31 t32 H (kBlock kp18 0 K))
noncomputable def g18_p4 (R:Type) (t9:Sl) (H:Heap) (kR:Sl→Int→Heap→Option R):Option R :=
  kR t9 (0:Int) H
theorem g18_p4_eq {R:Type} (t9:Sl) (H:Heap) (K:Ex→Fr→Heap→Option R):ev2 Try.prog (E18) loopLim lv18 Try.f18.ntmps kp18 c18_3 [(9,(V.sl t9))] H K = g18_p4 R t9 H (fun t6 t7 H=>K .ret [(6,(V.sl t6)),(7,(V.i .i64 t7))] H):=by kernel_rfl
theorem g18_p4_lin {R S:Type} {k:S→Option R} {t9:Sl} {H:Heap} {fkR:Sl→Int→Heap→Option R} {gkR:Sl→Int→Heap→Option S} (hkR:∀ t6 t7 H,fkR t6 t7 H = (gkR t6 t7 H).bind k):g18_p4 R t9 H fkR = (g18_p4 S t9 H gkR).bind k:=by
  delta g18_p4; exact (
    hkR _ _ _)
noncomputable def g18_p5 (R:Type) (t0:Int) (t1:Sl) (t2:Int) (t8:Int) (t9:Sl) (t31:Int) (t32:Int) (H:Heap) (kR:Sl→Int→Heap→Option R):Option R :=
  g18_p3 R t0 t1 t2 t8 t9 t31 t32 H (fun t9 H=>g18_p4 R t9 H (fun t6 t7 H=>kR t6 t7 H))
theorem g18_p5_lin {R S:Type} {k:S→Option R} {t0:Int} {t1:Sl} {t2:Int} {t8:Int} {t9:Sl} {t31:Int} {t32:Int} {H:Heap} {fkR:Sl→Int→Heap→Option R} {gkR:Sl→Int→Heap→Option S} (hkR:∀ t6 t7 H,fkR t6 t7 H = (gkR t6 t7 H).bind k):g18_p5 R t0 t1 t2 t8 t9 t31 t32 H fkR = (g18_p5 S t0 t1 t2 t8 t9 t31 t32 H gkR).bind k:=by
  exact g18_p3_lin (fun _ _=>g18_p4_lin (fun _ _ _=>hkR _ _ _))
theorem g18_p5_eq {R:Type} (t0:Int) (t1:Sl) (t2:Int) (t8:Int) (t9:Sl) (t31:Int) (t32:Int) (H:Heap) (K:Ex→Fr→Heap→Option R):ev2 Try.prog (E18) loopLim lv18 Try.f18.ntmps kp18 c18_4 [(0,(V.i .u32 t0)),(1,(V.sl t1)),(2,(V.i .i64 t2)),(8,(V.i .i64 t8)),(9,(V.sl t9)),(31,(V.i .i64 t31)),(32,(V.i .i64 t32))] H K = g18_p5 R t0 t1 t2 t8 t9 t31 t32 H (fun t6 t7 H=>K .ret [(6,(V.sl t6)),(7,(V.i .i64 t7))] H):=by
  delta c18_4
  rw [ev2_seq]
  delta g18_p5
  exact (g18_p3_eq t0 t1 t2 t8 t9 t31 t32 H (kSeq (fun fr H=>ev2 Try.prog (E18) loopLim lv18 Try.f18.ntmps kp18 c18_3 fr H K) K)).trans (congrArg (g18_p3 R t0 t1 t2 t8 t9 t31 t32 H) (funext fun t9=>funext fun H=>(kSeq_n _ _ _ _).trans (g18_p4_eq t9 H K)))
noncomputable def g18_p6 (R:Type) (t0:Int) (t1:Sl) (t2:Int) (H:Heap) (kR:Sl→Int→Heap→Option R):Option R :=
  g18_p0 R t0 t1 t2 H (fun t0 t1 t2 t8 t9 t31 t32 H=>g18_p5 R t0 t1 t2 t8 t9 t31 t32 H (fun t6 t7 H=>kR t6 t7 H)) (fun t6 t7 H=>kR t6 t7 H)
theorem g18_p6_lin {R S:Type} {k:S→Option R} {t0:Int} {t1:Sl} {t2:Int} {H:Heap} {fkR:Sl→Int→Heap→Option R} {gkR:Sl→Int→Heap→Option S} (hkR:∀ t6 t7 H,fkR t6 t7 H = (gkR t6 t7 H).bind k):g18_p6 R t0 t1 t2 H fkR = (g18_p6 S t0 t1 t2 H gkR).bind k:=by
  exact g18_p0_lin (fun _ _ _ _ _ _ _ _=>g18_p5_lin (fun _ _ _=>hkR _ _ _)) (fun _ _ _=>hkR _ _ _)
theorem g18_p6_eq {R:Type} (t0:Int) (t1:Sl) (t2:Int) (H:Heap) (K:Ex→Fr→Heap→Option R):ev2 Try.prog (E18) loopLim lv18 Try.f18.ntmps kp18 c18_5 [(0,(V.i .u32 t0)),(1,(V.sl t1)),(2,(V.i .i64 t2))] H K = g18_p6 R t0 t1 t2 H (fun t6 t7 H=>K .ret [(6,(V.sl t6)),(7,(V.i .i64 t7))] H):=by
  delta c18_5
  delta g18_p6
  exact (g18_p0_eq _ t0 t1 t2 H K).trans (congr (congrArg (g18_p0 R t0 t1 t2 H) (funext fun t0=>funext fun t1=>funext fun t2=>funext fun t8=>funext fun t9=>funext fun t31=>funext fun t32=>funext fun H=>g18_p5_eq t0 t1 t2 t8 t9 t31 t32 H K)) rfl)
noncomputable def g18_r:T18:=fun R t0 t1 t2 H K =>
  g18_p6 R t0 t1 t2 H (fun t6 t7 H =>
    K t6 t7 H)
theorem g18_r_lin:Lin18 (g18_r):=by
  constructor
  intro R S k t0 t1 t2 H f g h
  exact g18_p6_lin (fun t6 t7 H =>
    h _ _ _)
theorem g18_fn {R:Type} (t0:Int) (t1:Sl) (t2:Int) (H:Heap) (K:V→Heap→Option R):evFn2 Try.prog (E18) loopLim lv18 Try.f18 kp18 [(V.i .u32 t0),(V.sl t1),(V.i .i64 t2)] H K = g18_r R t0 t1 t2 H (fun r0 r1 H=>K (V.tup [(V.sl r0),(V.i .i64 r1)]) H):=by
  have h0 : ∀ (t6 : Sl) (t7 : Int) (H : Heap), kFn2 Try.prog Try.f18.results.toList K .ret [(6, (V.sl t6)), (7, (V.i .i64 t7))] H =
      K (V.tup [(V.sl t6),(V.i .i64 t7)]) H:=by intros; kernel_rfl
  have e0:=evFn2_code2 (P:=Try.prog) (c:=c18_5) (E:=(E18)) (lr:=loopLim) (lv:=lv18) (kp:=kp18) (fn:=Try.f18) (args:=[(V.i .u32 t0),(V.sl t1),(V.i .i64 t2)]) H K (by kernel_rfl) (Nat.le_of_ble_eq_true (by kernel_rfl)) (by kernel_rfl) (by kernel_rfl)
  have e1:ev2 Try.prog (E18) loopLim lv18 Try.f18.ntmps kp18 c18_5 (argFr 0 [(V.i .u32 t0),(V.sl t1),(V.i .i64 t2)]) H (kFn2 Try.prog Try.f18.results.toList K) = ev2 Try.prog (E18) loopLim lv18 Try.f18.ntmps kp18 c18_5 [(0,(V.i .u32 t0)),(1,(V.sl t1)),(2,(V.i .i64 t2))] H (kFn2 Try.prog Try.f18.results.toList K):=by kernel_rfl
  refine (e0.trans e1).trans ?_
  delta g18_r
  exact (g18_p6_eq t0 t1 t2 H (kFn2 Try.prog Try.f18.results.toList K)).trans (congrArg (g18_p6 R t0 t1 t2 H) (funext fun t6=>funext fun t7=>funext fun H=>h0 t6 t7 H))
theorem g18_ok:FunOK Try.prog 18 (w18 (g18_r)):=by
  refine (runF2_ok (E18_good) mixed lim_ok Try.func18 (by kernel_rfl) lv18 kp18).of_le fun R args H K r hk=>?_
  unfold w18 at hk
  split at hk
  · exact (g18_fn _ _ _ H K).trans hk
  · cases hk
noncomputable def g18:T18:=g18_r
theorem g18_lin:Lin18 g18:=g18_r_lin
theorem ok18:FunOK Try.prog 18 (w18 g18):=g18_ok
def kp12:Nat→Option (List Nat):=kpOf [(0,[1,500001,1000001]),(1,[1,5,500001,1000001]),(2,[1,5,6,500001,1000001]),(3,[2,3,4]),(300000,[2,3,4])]
noncomputable def E12:FEnv:=[(18,w18 g18)]
theorem E12_good:EnvGood Try.prog (E12):=((EnvGood.nil _).cons ok18 (w18_lin g18_lin))
def lv12:Nat→Bool:=lvOf [1]
noncomputable def b12:Code:=Try.f12.body.getD .skip
noncomputable def c12_0:Code:=(.seq (codeAt [0] b12) (.seq (codeAt [1,0] b12) (.seq (codeAt [1,1,0] b12) (.seq (codeAt [1,1,1,0] b12) .ret))))
noncomputable def g12_p0 (R:Type) (t0_0:Int) (t0_1:Int) (t0_2:Sl) (t0_3:Int) (H:Heap) (kR:Int→Sl→ByteArray→Heap→Option R):Option R :=
  slOf 1 t0_2 none (some (if (60:Int) < ((t0_2.len:Nat):Int) then (60:Int) else ((t0_2.len:Nat):Int))) none fun s1 =>
  g18 R (IntKind.wrap .u32 (Int.tmod t0_1 (8:Int))) s1 (IntKind.wrap .i64 ((4:Int) + (IntKind.wrap .i64 (Int.tmod t0_3 (16:Int))))) H fun x2 x3 h4 =>
  ((slBytes h4 s1)).bind fun x5 =>
  kR (IntKind.wrap .u16 (Int.tmod t0_0 (4:Int))) x2 x5 h4
theorem g12_p0_eq {R:Type} (t0_0:Int) (t0_1:Int) (t0_2:Sl) (t0_3:Int) (H:Heap) (K:Ex→Fr→Heap→Option R):ev2 Try.prog (E12) loopLim lv12 Try.f12.ntmps kp12 c12_0 [(0,(V.agg [(V.i .u8 t0_0),(V.i .u8 t0_1),(V.sl t0_2),(V.i .u8 t0_3)]))] H K = g12_p0 R t0_0 t0_1 t0_2 t0_3 H (fun t2 t3 t4 H=>K .ret [(2,(V.i .u16 t2)),(3,(V.sl t3)),(4,(V.s t4))] H):=by kernel_rfl
theorem g12_p0_lin {R S:Type} {k:S→Option R} {t0_0:Int} {t0_1:Int} {t0_2:Sl} {t0_3:Int} {H:Heap} {fkR:Int→Sl→ByteArray→Heap→Option R} {gkR:Int→Sl→ByteArray→Heap→Option S} (hkR:∀ t2 t3 t4 H,fkR t2 t3 t4 H = (gkR t2 t3 t4 H).bind k):g12_p0 R t0_0 t0_1 t0_2 t0_3 H fkR = (g12_p0 S t0_0 t0_1 t0_2 t0_3 H gkR).bind k:=by
  delta g12_p0; exact (
    slOf_lin fun s1 =>
    g18_lin.l fun x2 x3 h4 =>
    bl fun x5 =>
    hkR _ _ _ _)
noncomputable def g12_r:T12:=fun R t0_0 t0_1 t0_2 t0_3 H K =>
  g12_p0 R t0_0 t0_1 t0_2 t0_3 H (fun t2 t3 t4 H =>
    K t2 t3 t4 H)
theorem g12_r_lin:Lin12 (g12_r):=by
  constructor
  intro R S k t0_0 t0_1 t0_2 t0_3 H f g h
  exact g12_p0_lin (fun t2 t3 t4 H =>
    h _ _ _ _)
theorem g12_fn {R:Type} (t0_0:Int) (t0_1:Int) (t0_2:Sl) (t0_3:Int) (H:Heap) (K:V→Heap→Option R):evFn2 Try.prog (E12) loopLim lv12 Try.f12 kp12 [(V.agg [(V.i .u8 t0_0),(V.i .u8 t0_1),(V.sl t0_2),(V.i .u8 t0_3)])] H K = g12_r R t0_0 t0_1 t0_2 t0_3 H (fun r0 r1 r2 H=>K (V.tup [(V.i .u16 r0),(V.sl r1),(V.s r2)]) H):=by
  have h0 : ∀ (t2 : Int) (t3 : Sl) (t4 : ByteArray) (H : Heap), kFn2 Try.prog Try.f12.results.toList K .ret [(2, (V.i .u16 t2)), (3, (V.sl t3)), (4, (V.s t4))] H =
      K (V.tup [(V.i .u16 t2),(V.sl t3),(V.s t4)]) H:=by intros; kernel_rfl
  have e0:=evFn2_code2 (P:=Try.prog) (c:=c12_0) (E:=(E12)) (lr:=loopLim) (lv:=lv12) (kp:=kp12) (fn:=Try.f12) (args:=[(V.agg [(V.i .u8 t0_0),(V.i .u8 t0_1),(V.sl t0_2),(V.i .u8 t0_3)])]) H K (by kernel_rfl) (Nat.le_of_ble_eq_true (by kernel_rfl)) (by kernel_rfl) (by kernel_rfl)
  have e1:ev2 Try.prog (E12) loopLim lv12 Try.f12.ntmps kp12 c12_0 (argFr 0 [(V.agg [(V.i .u8 t0_0),(V.i .u8 t0_1),(V.sl t0_2),(V.i .u8 t0_3)])]) H (kFn2 Try.prog Try.f12.results.toList K) = ev2 Try.prog (E12) loopLim lv12 Try.f12.ntmps kp12 c12_0 [(0,(V.agg [(V.i .u8 t0_0),(V.i .u8 t0_1),(V.sl t0_2),(V.i .u8 t0_3)]))] H (kFn2 Try.prog Try.f12.results.toList K):=by kernel_rfl
  refine (e0.trans e1).trans ?_
  delta g12_r
  exact (g12_p0_eq t0_0 t0_1 t0_2 t0_3 H (kFn2 Try.prog Try.f12.results.toList K)).trans (congrArg (g12_p0 R t0_0 t0_1 t0_2 t0_3 H) (funext fun t2=>funext fun t3=>funext fun t4=>funext fun H=>h0 t2 t3 t4 H))
theorem g12_ok:FunOK Try.prog 12 (w12 (g12_r)):=by
  refine (runF2_ok (E12_good) mixed lim_ok Try.func12 (by kernel_rfl) lv12 kp12).of_le fun R args H K r hk=>?_
  unfold w12 at hk
  split at hk
  · exact (g12_fn _ _ _ _ H K).trans hk
  · cases hk
noncomputable def g12:T12:=g12_r
theorem g12_lin:Lin12 g12:=g12_r_lin
theorem ok12:FunOK Try.prog 12 (w12 g12):=g12_ok
def kp15:Nat→Option (List Nat):=kpOf [(0,[0,1]),(1,[0,1,19]),(2,[4]),(3,[0,1,5]),(4,[0,1,5,23]),(5,[0,1,5]),(6,[0,1,5,69]),(7,[4]),(8,[0,1,5,6]),(9,[0,1,5,6,7]),(10,[0,1,5,6,7,73]),(11,[0,1,5,6,7]),(12,[0,1,5,6,7,84]),(13,[0,1,5,6,7]),(14,[0,1,5,6,7,95]),(15,[0,1,5,6,7]),(16,[0,1,5,99]),(17,[4]),(18,[4]),(100000,[]),(100001,[0,1,5]),(100002,[0,1,5,6]),(100003,[0,1,5,6,7]),(200000,[0,1,5]),(200001,[0,1,5]),(200002,[0,1,5,6,7]),(200003,[0,1,5,6,7]),(300000,[4]),(400019,[0,1]),(400023,[0,1,5]),(400069,[0,1,5]),(400073,[0,1,5,6,7]),(400084,[0,1,5,6,7]),(400095,[0,1,5,6,7]),(400099,[0,1,5])]
def E15:FEnv:=[]
theorem E15_good:EnvGood Try.prog E15:=(EnvGood.nil _)
def lv15:Nat→Bool:=lvOf []
noncomputable def b15:Code:=Try.f15.body.getD .skip
noncomputable def c15_0:Code:=(.seq (codeAt [1,1,0,1,0,0,1,0,0,1,1,0,1,0,0,0,0] b15) (.seq (.cond (.tmp 73) .skip (.exit 2)) (.seq (.block 3 (.seq (codeAt [1,1,0,1,0,0,1,0,0,1,1,0,1,0,0,1,0,0,0,0] b15) (.seq (.cond (.tmp 84) (codeAt [1,1,0,1,0,0,1,0,0,1,1,0,1,0,0,1,0,0,0,1,0] b15) .skip) (.seq (codeAt [1,1,0,1,0,0,1,0,0,1,1,0,1,0,0,1,0,0,1,0] b15) (.cond (.tmp 95) (codeAt [1,1,0,1,0,0,1,0,0,1,1,0,1,0,0,1,0,0,1,1,0] b15) .skip))))) (codeAt [1,1,0,1,0,0,1,0,0,1,1,0,1,0,0,1,1] b15))))
noncomputable def c15_1:Code:=(.loop c15_0)
noncomputable def c15_2:Code:=(.block 2 c15_1)
noncomputable def c15_3:Code:=(.seq (codeAt [1,1,0,1,0,0,1,0,0,1,1,1,0] b15) (.cond (.tmp 99) (.seq (codeAt [1,1,0,1,0,0,1,0,0,1,1,1,1,0,0] b15) .ret) .skip))
noncomputable def c15_4:Code:=(.seq c15_2 c15_3)
noncomputable def c15_5:Code:=(.seq (.cond (.tmp 69) (.seq (codeAt [1,1,0,1,0,0,1,0,0,0,1,0,0] b15) .ret) .skip) (.seq (codeAt [1,1,0,1,0,0,1,0,0,1,0] b15) (.seq (codeAt [1,1,0,1,0,0,1,0,0,1,1,0,0] b15) c15_4)))
noncomputable def c15_6:Code:=(.seq (codeAt [1,1,0,1,0,0,1,0,0,0,0] b15) c15_5)
noncomputable def c15_7:Code:=(.block 1 c15_6)
noncomputable def c15_8:Code:=(codeAt [1,1,0,1,0,0,1,1] b15)
noncomputable def c15_9:Code:=(.seq c15_7 c15_8)
noncomputable def c15_10:Code:=(.seq (codeAt [1,1,0,1,0,0,0,0] b15) (.seq (.cond (.tmp 23) .skip (.exit 0)) c15_9))
noncomputable def c15_11:Code:=(.loop c15_10)
noncomputable def c15_12:Code:=(.block 0 c15_11)
noncomputable def c15_13:Code:=(.seq (codeAt [1,1,1,0] b15) .ret)
noncomputable def c15_14:Code:=(.seq c15_12 c15_13)
noncomputable def c15_15:Code:=(.seq (codeAt [0] b15) (.seq (codeAt [1,0,0] b15) (.seq (.cond (.tmp 19) (.seq (codeAt [1,0,1,0,0] b15) .ret) .skip) (.seq (codeAt [1,1,0,0] b15) c15_14))))
noncomputable def g15_p0 (R:Type) (t0:Sl) (t1:Sl) (H:Heap) (kN:Sl→Sl→Int→Heap→Option R) (kR:Bool→Heap→Option R):Option R :=
  sel (((t0.len:Nat):Int) != ((t1.len:Nat):Int)) (
    kR false H) (
    capK t0.cap fun c3 =>
    sel (((c3:Nat):Int) != ((t0.len:Nat):Int)) (
      kR false H) (
      kN t0 t1 (0:Int) H))
theorem g15_p0_eq {R:Type} (c2:Code) (t0:Sl) (t1:Sl) (H:Heap) (K:Ex→Fr→Heap→Option R):ev2 Try.prog E15 loopLim lv15 Try.f15.ntmps kp15 (.seq (codeAt [0] b15) (.seq (codeAt [1,0,0] b15) (.seq (.cond (.tmp 19) (.seq (codeAt [1,0,1,0,0] b15) .ret) .skip) (.seq (codeAt [1,1,0,0] b15) c2)))) [(0,(V.sl t0)),(1,(V.sl t1))] H K = g15_p0 R t0 t1 H (fun t0 t1 t5 H=>ev2 Try.prog E15 loopLim lv15 Try.f15.ntmps kp15 c2 [(0,(V.sl t0)),(1,(V.sl t1)),(5,(V.i .i64 t5))] H K) (fun t4 H=>K .ret [(4,(V.b t4))] H):=by kernel_rfl
theorem g15_p0_lin {R S:Type} {k:S→Option R} {t0:Sl} {t1:Sl} {H:Heap} {fkN:Sl→Sl→Int→Heap→Option R} {gkN:Sl→Sl→Int→Heap→Option S} {fkR:Bool→Heap→Option R} {gkR:Bool→Heap→Option S} (hkN:∀ t0 t1 t5 H,fkN t0 t1 t5 H = (gkN t0 t1 t5 H).bind k) (hkR:∀ t4 H,fkR t4 H = (gkR t4 H).bind k):g15_p0 R t0 t1 H fkN fkR = (g15_p0 S t0 t1 H gkN gkR).bind k:=by
  delta g15_p0; exact (
    sl_lin (
      hkR _ _) (
      capK_lin fun c3 =>
      sl_lin (
        hkR _ _) (
        hkN _ _ _ _)))
noncomputable def g15_p1 (R:Type) (t0:Sl) (t1:Sl) (t5:Int) (H:Heap) (kN:Sl→Sl→Int→Heap→Option R) (kE0:Heap→Option R):Option R :=
  sel (decide (t5 < ((t0.len:Nat):Int))) (
    kN t0 t1 t5 H) (
    kE0 H)
theorem g15_p1_eq {R:Type} (c2:Code) (t0:Sl) (t1:Sl) (t5:Int) (H:Heap) (K:Ex→Fr→Heap→Option R):ev2 Try.prog E15 loopLim lv15 Try.f15.ntmps kp15 (.seq (codeAt [1,1,0,1,0,0,0,0] b15) (.seq (.cond (.tmp 23) .skip (.exit 0)) c2)) [(0,(V.sl t0)),(1,(V.sl t1)),(5,(V.i .i64 t5))] H K = g15_p1 R t0 t1 t5 H (fun t0 t1 t5 H=>ev2 Try.prog E15 loopLim lv15 Try.f15.ntmps kp15 c2 [(0,(V.sl t0)),(1,(V.sl t1)),(5,(V.i .i64 t5))] H K) (fun H=>K (.exit 0) [] H):=by kernel_rfl
theorem g15_p1_lin {R S:Type} {k:S→Option R} {t0:Sl} {t1:Sl} {t5:Int} {H:Heap} {fkN:Sl→Sl→Int→Heap→Option R} {gkN:Sl→Sl→Int→Heap→Option S} {fkE0:Heap→Option R} {gkE0:Heap→Option S} (hkN:∀ t0 t1 t5 H,fkN t0 t1 t5 H = (gkN t0 t1 t5 H).bind k) (hkE0:∀ H,fkE0 H = (gkE0 H).bind k):g15_p1 R t0 t1 t5 H fkN fkE0 = (g15_p1 S t0 t1 t5 H gkN gkE0).bind k:=by
  delta g15_p1; exact (
    sl_lin (
      hkN _ _ _ _) (
      hkE0 _))
noncomputable def g15_p2 (R:Type) (t0:Sl) (t1:Sl) (t5:Int) (H:Heap) (kN:Sl→Sl→Int→Bool→Heap→Option R):Option R :=
  sel (decide (t5 > (0:Int))) (
    if 0 ≤ t5∧t5 < ((t0.len:Nat):Int) then (
      (t0.a).bind fun q4 =>
      ((H).ldI .u16 q4.1 ((q4.2 + Int.toNat t5 * 2) + 0)).bind fun x5 =>
      if 0 ≤ (IntKind.wrap .i64 (t5 - (1:Int)))∧(IntKind.wrap .i64 (t5 - (1:Int))) < ((t0.len:Nat):Int) then (
        (t0.a).bind fun q6 =>
        ((H).ldI .u16 q6.1 ((q6.2 + Int.toNat (IntKind.wrap .i64 (t5 - (1:Int))) * 2) + 0)).bind fun x7 =>
        sel (decide (x5 < x7)) (
          kN t0 t1 t5 true H) (
          if 0 ≤ t5∧t5 < ((t0.len:Nat):Int) then (
            (t0.a).bind fun q8 =>
            ((H).ldI .u16 q8.1 ((q8.2 + Int.toNat t5 * 2) + 0)).bind fun x9 =>
            if 0 ≤ (IntKind.wrap .i64 (t5 - (1:Int)))∧(IntKind.wrap .i64 (t5 - (1:Int))) < ((t0.len:Nat):Int) then (
              (t0.a).bind fun q10 =>
              ((H).ldI .u16 q10.1 ((q10.2 + Int.toNat (IntKind.wrap .i64 (t5 - (1:Int))) * 2) + 0)).bind fun x11 =>
              sel (x9 == x11) (
                if 0 ≤ t5∧t5 < ((t0.len:Nat):Int) then (
                  (t0.a).bind fun q12 =>
                  ((H).ldI .u32 q12.1 ((q12.2 + Int.toNat t5 * 2) + 1)).bind fun x13 =>
                  if 0 ≤ (IntKind.wrap .i64 (t5 - (1:Int)))∧(IntKind.wrap .i64 (t5 - (1:Int))) < ((t0.len:Nat):Int) then (
                    (t0.a).bind fun q14 =>
                    ((H).ldI .u32 q14.1 ((q14.2 + Int.toNat (IntKind.wrap .i64 (t5 - (1:Int))) * 2) + 1)).bind fun x15 =>
                    kN t0 t1 t5 (decide (x13 < x15)) H)
                  else (
                    none))
                else (
                  none)) (
                kN t0 t1 t5 false H))
            else (
              none))
          else (
            none)))
      else (
        none))
    else (
      none)) (
    kN t0 t1 t5 false H)
theorem g15_p2_eq {R:Type} (c2:Code) (t0:Sl) (t1:Sl) (t5:Int) (H:Heap) (K:Ex→Fr→Heap→Option R):ev2 Try.prog E15 loopLim lv15 Try.f15.ntmps kp15 (.seq (codeAt [1,1,0,1,0,0,1,0,0,0,0] b15) c2) [(0,(V.sl t0)),(1,(V.sl t1)),(5,(V.i .i64 t5))] H K = g15_p2 R t0 t1 t5 H (fun t0 t1 t5 t69 H=>ev2 Try.prog E15 loopLim lv15 Try.f15.ntmps kp15 c2 [(0,(V.sl t0)),(1,(V.sl t1)),(5,(V.i .i64 t5)),(69,(V.b t69))] H K):=by kernel_rfl
theorem g15_p2_lin {R S:Type} {k:S→Option R} {t0:Sl} {t1:Sl} {t5:Int} {H:Heap} {fkN:Sl→Sl→Int→Bool→Heap→Option R} {gkN:Sl→Sl→Int→Bool→Heap→Option S} (hkN:∀ t0 t1 t5 t69 H,fkN t0 t1 t5 t69 H = (gkN t0 t1 t5 t69 H).bind k):g15_p2 R t0 t1 t5 H fkN = (g15_p2 S t0 t1 t5 H gkN).bind k:=by
  delta g15_p2
  repeat' (first | with_reducible (first | exact hkN _ _ _ _ _ | refine sl_lin ?_ ?_ | refine il ?_ ?_ | refine bl fun _=>?_) | exact (rfl:(none:Option R) = (none:Option S).bind k))
noncomputable def g15_p3 (R:Type) (t0:Sl) (t1:Sl) (t5:Int) (t69:Bool) (H:Heap) (kN:Sl→Sl→Int→Int→Int→Heap→Option R) (kR:Bool→Heap→Option R):Option R :=
  sel t69 (
    kR false H) (
    kN t0 t1 t5 (0:Int) (0:Int) H)
theorem g15_p3_eq {R:Type} (c2:Code) (t0:Sl) (t1:Sl) (t5:Int) (t69:Bool) (H:Heap) (K:Ex→Fr→Heap→Option R):ev2 Try.prog E15 loopLim lv15 Try.f15.ntmps kp15 (.seq (.cond (.tmp 69) (.seq (codeAt [1,1,0,1,0,0,1,0,0,0,1,0,0] b15) .ret) .skip) (.seq (codeAt [1,1,0,1,0,0,1,0,0,1,0] b15) (.seq (codeAt [1,1,0,1,0,0,1,0,0,1,1,0,0] b15) c2))) [(0,(V.sl t0)),(1,(V.sl t1)),(5,(V.i .i64 t5)),(69,(V.b t69))] H K = g15_p3 R t0 t1 t5 t69 H (fun t0 t1 t5 t6 t7 H=>ev2 Try.prog E15 loopLim lv15 Try.f15.ntmps kp15 c2 [(0,(V.sl t0)),(1,(V.sl t1)),(5,(V.i .i64 t5)),(6,(V.i .i64 t6)),(7,(V.i .i64 t7))] H K) (fun t4 H=>K .ret [(4,(V.b t4))] H):=by kernel_rfl
theorem g15_p3_lin {R S:Type} {k:S→Option R} {t0:Sl} {t1:Sl} {t5:Int} {t69:Bool} {H:Heap} {fkN:Sl→Sl→Int→Int→Int→Heap→Option R} {gkN:Sl→Sl→Int→Int→Int→Heap→Option S} {fkR:Bool→Heap→Option R} {gkR:Bool→Heap→Option S} (hkN:∀ t0 t1 t5 t6 t7 H,fkN t0 t1 t5 t6 t7 H = (gkN t0 t1 t5 t6 t7 H).bind k) (hkR:∀ t4 H,fkR t4 H = (gkR t4 H).bind k):g15_p3 R t0 t1 t5 t69 H fkN fkR = (g15_p3 S t0 t1 t5 t69 H gkN gkR).bind k:=by
  delta g15_p3; exact (
    sl_lin (
      hkR _ _) (
      hkN _ _ _ _ _ _))
noncomputable def g15_p4 (R:Type) (t0:Sl) (t1:Sl) (t5:Int) (t6:Int) (t7:Int) (H:Heap) (kN:Sl→Sl→Int→Int→Int→Heap→Option R) (kE2:Sl→Sl→Int→Int→Heap→Option R):Option R :=
  sel (decide (t7 < ((t0.len:Nat):Int))) (
    if 0 ≤ t7∧t7 < ((t0.len:Nat):Int) then (
      (t0.a).bind fun q16 =>
      ((H).ldI .u16 q16.1 ((q16.2 + Int.toNat t7 * 2) + 0)).bind fun x17 =>
      ((H).ldI .u32 q16.1 ((q16.2 + Int.toNat t7 * 2) + 1)).bind fun x18 =>
      if 0 ≤ t5∧t5 < ((t0.len:Nat):Int) then (
        (t0.a).bind fun q19 =>
        ((H).ldI .u16 q19.1 ((q19.2 + Int.toNat t5 * 2) + 0)).bind fun x20 =>
        ((H).ldI .u32 q19.1 ((q19.2 + Int.toNat t5 * 2) + 1)).bind fun x21 =>
        sel ((x17 == x20) && ((x18 == x21) && true)) (
          if 0 ≤ t7∧t7 < ((t1.len:Nat):Int) then (
            (t1.a).bind fun q22 =>
            ((H).ldI .u16 q22.1 ((q22.2 + Int.toNat t7 * 2) + 0)).bind fun x23 =>
            ((H).ldI .u32 q22.1 ((q22.2 + Int.toNat t7 * 2) + 1)).bind fun x24 =>
            if 0 ≤ t5∧t5 < ((t0.len:Nat):Int) then (
              (t0.a).bind fun q25 =>
              ((H).ldI .u16 q25.1 ((q25.2 + Int.toNat t5 * 2) + 0)).bind fun x26 =>
              ((H).ldI .u32 q25.1 ((q25.2 + Int.toNat t5 * 2) + 1)).bind fun x27 =>
              sel ((x23 == x26) && ((x24 == x27) && true)) (
                kN t0 t1 t5 (IntKind.wrap .i64 ((IntKind.wrap .i64 (t6 + (1:Int))) - (1:Int))) (IntKind.wrap .i64 (t7 + (1:Int))) H) (
                kN t0 t1 t5 (IntKind.wrap .i64 (t6 + (1:Int))) (IntKind.wrap .i64 (t7 + (1:Int))) H))
            else (
              none))
          else (
            none)) (
          if 0 ≤ t7∧t7 < ((t1.len:Nat):Int) then (
            (t1.a).bind fun q28 =>
            ((H).ldI .u16 q28.1 ((q28.2 + Int.toNat t7 * 2) + 0)).bind fun x29 =>
            ((H).ldI .u32 q28.1 ((q28.2 + Int.toNat t7 * 2) + 1)).bind fun x30 =>
            if 0 ≤ t5∧t5 < ((t0.len:Nat):Int) then (
              (t0.a).bind fun q31 =>
              ((H).ldI .u16 q31.1 ((q31.2 + Int.toNat t5 * 2) + 0)).bind fun x32 =>
              ((H).ldI .u32 q31.1 ((q31.2 + Int.toNat t5 * 2) + 1)).bind fun x33 =>
              sel ((x29 == x32) && ((x30 == x33) && true)) (
                kN t0 t1 t5 (IntKind.wrap .i64 (t6 - (1:Int))) (IntKind.wrap .i64 (t7 + (1:Int))) H) (
                kN t0 t1 t5 t6 (IntKind.wrap .i64 (t7 + (1:Int))) H))
            else (
              none))
          else (
            none)))
      else (
        none))
    else (
      none)) (
    kE2 t0 t1 t5 t6 H)
theorem g15_p4_eq {R:Type} (t0:Sl) (t1:Sl) (t5:Int) (t6:Int) (t7:Int) (H:Heap) (K:Ex→Fr→Heap→Option R):ev2 Try.prog E15 loopLim lv15 Try.f15.ntmps kp15 c15_0 [(0,(V.sl t0)),(1,(V.sl t1)),(5,(V.i .i64 t5)),(6,(V.i .i64 t6)),(7,(V.i .i64 t7))] H K = g15_p4 R t0 t1 t5 t6 t7 H (fun t0 t1 t5 t6 t7 H=>K .normal [(0,(V.sl t0)),(1,(V.sl t1)),(5,(V.i .i64 t5)),(6,(V.i .i64 t6)),(7,(V.i .i64 t7))] H) (fun t0 t1 t5 t6 H=>K (.exit 2) [(0,(V.sl t0)),(1,(V.sl t1)),(5,(V.i .i64 t5)),(6,(V.i .i64 t6))] H):=by kernel_rfl
theorem g15_p4_lin {R S:Type} {k:S→Option R} {t0:Sl} {t1:Sl} {t5:Int} {t6:Int} {t7:Int} {H:Heap} {fkN:Sl→Sl→Int→Int→Int→Heap→Option R} {gkN:Sl→Sl→Int→Int→Int→Heap→Option S} {fkE2:Sl→Sl→Int→Int→Heap→Option R} {gkE2:Sl→Sl→Int→Int→Heap→Option S} (hkN:∀ t0 t1 t5 t6 t7 H,fkN t0 t1 t5 t6 t7 H = (gkN t0 t1 t5 t6 t7 H).bind k) (hkE2:∀ t0 t1 t5 t6 H,fkE2 t0 t1 t5 t6 H = (gkE2 t0 t1 t5 t6 H).bind k):g15_p4 R t0 t1 t5 t6 t7 H fkN fkE2 = (g15_p4 S t0 t1 t5 t6 t7 H gkN gkE2).bind k:=by
  delta g15_p4
  repeat' (first | with_reducible (first | exact hkN _ _ _ _ _ _ | exact hkE2 _ _ _ _ _ | refine sl_lin ?_ ?_ | refine il ?_ ?_ | refine bl fun _=>?_) | exact (rfl:(none:Option R) = (none:Option S).bind k))
abbrev g15_p5_S:=Sl × Sl × Int × Int × Int
abbrev g15_p5_O:=Sl × Sl × Int × Int
def g15_p5_es (s:g15_p5_S):Fr:=[(0,(V.sl s.1)),(1,(V.sl s.2.1)),(5,(V.i .i64 s.2.2.1)),(6,(V.i .i64 s.2.2.2.1)),(7,(V.i .i64 s.2.2.2.2))]
def g15_p5_er (r:g15_p5_O):Ex × Fr:=((.exit 2),[(0,(V.sl r.1)),(1,(V.sl r.2.1)),(5,(V.i .i64 r.2.2.1)),(6,(V.i .i64 r.2.2.2))])
noncomputable def g15_p5_b (s:g15_p5_S) (H:Heap):Option (Rd g15_p5_S g15_p5_O × Heap) :=
  g15_p4 _ s.1 s.2.1 s.2.2.1 s.2.2.2.1 s.2.2.2.2 H (fun t0 t1 t5 t6 t7 H=>some (.go (t0,t1,t5,t6,t7),H)) (fun t0 t1 t5 t6 H=>some (.up (t0,t1,t5,t6),H))
noncomputable def g15_p5 (R:Type) (t0:Sl) (t1:Sl) (t5:Int) (t6:Int) (t7:Int) (H:Heap) (kE2:Sl→Sl→Int→Int→Heap→Option R):Option R :=
  (tlim (g15_p5_b) (t0,t1,t5,t6,t7) H).bind fun p=>kE2 p.1.1 p.1.2.1 p.1.2.2.1 p.1.2.2.2 p.2
theorem g15_p5_lin {R S:Type} {k:S→Option R} {t0:Sl} {t1:Sl} {t5:Int} {t6:Int} {t7:Int} {H:Heap} {fkE2:Sl→Sl→Int→Int→Heap→Option R} {gkE2:Sl→Sl→Int→Int→Heap→Option S} (hkE2:∀ t0 t1 t5 t6 H,fkE2 t0 t1 t5 t6 H = (gkE2 t0 t1 t5 t6 H).bind k):g15_p5 R t0 t1 t5 t6 t7 H fkE2 = (g15_p5 S t0 t1 t5 t6 t7 H gkE2).bind k:=by
  exact bl fun p=>hkE2 _ _ _ _ _
theorem g15_p5_eq {R:Type} (t0:Sl) (t1:Sl) (t5:Int) (t6:Int) (t7:Int) (H:Heap) (K:Ex→Fr→Heap→Option R):ev2 Try.prog E15 loopLim lv15 Try.f15.ntmps kp15 c15_1 [(0,(V.sl t0)),(1,(V.sl t1)),(5,(V.i .i64 t5)),(6,(V.i .i64 t6)),(7,(V.i .i64 t7))] H K = g15_p5 R t0 t1 t5 t6 t7 H (fun t0 t1 t5 t6 H=>K (.exit 2) [(0,(V.sl t0)),(1,(V.sl t1)),(5,(V.i .i64 t5)),(6,(V.i .i64 t6))] H):=by
  delta c15_1
  delta g15_p5
  refine (ev2_tlim (b:=g15_p5_b) (es:=g15_p5_es) (er:=g15_p5_er) (by intro r; exact nofun) (fun s H=>?_) (t0,t1,t5,t6,t7) H K).trans (bc fun p=>rfl)
  exact (g15_p4_eq s.1 s.2.1 s.2.2.1 s.2.2.2.1 s.2.2.2.2 H ret3).trans (g15_p4_lin (fun _ _ _ _ _ _=>rfl) (fun _ _ _ _ _=>rfl))
noncomputable def g15_p6 (R:Type) (t0:Sl) (t1:Sl) (t5:Int) (t6:Int) (t7:Int) (H:Heap) (kN:Sl→Sl→Int→Int→Heap→Option R):Option R :=
  g15_p5 R t0 t1 t5 t6 t7 H (fun t0 t1 t5 t6 H=>kN t0 t1 t5 t6 H)
theorem g15_p6_lin {R S:Type} {k:S→Option R} {t0:Sl} {t1:Sl} {t5:Int} {t6:Int} {t7:Int} {H:Heap} {fkN:Sl→Sl→Int→Int→Heap→Option R} {gkN:Sl→Sl→Int→Int→Heap→Option S} (hkN:∀ t0 t1 t5 t6 H,fkN t0 t1 t5 t6 H = (gkN t0 t1 t5 t6 H).bind k):g15_p6 R t0 t1 t5 t6 t7 H fkN = (g15_p6 S t0 t1 t5 t6 t7 H gkN).bind k:=by
  exact g15_p5_lin (fun _ _ _ _ _=>hkN _ _ _ _ _)
theorem g15_p6_eq {R:Type} (t0:Sl) (t1:Sl) (t5:Int) (t6:Int) (t7:Int) (H:Heap) (K:Ex→Fr→Heap→Option R):ev2 Try.prog E15 loopLim lv15 Try.f15.ntmps kp15 c15_2 [(0,(V.sl t0)),(1,(V.sl t1)),(5,(V.i .i64 t5)),(6,(V.i .i64 t6)),(7,(V.i .i64 t7))] H K = g15_p6 R t0 t1 t5 t6 t7 H (fun t0 t1 t5 t6 H=>K .normal [(0,(V.sl t0)),(1,(V.sl t1)),(5,(V.i .i64 t5)),(6,(V.i .i64 t6))] H):=by
  delta c15_2
  rw [ev2_block]
  delta g15_p6
  exact (g15_p5_eq t0 t1 t5 t6 t7 H (kBlock kp15 2 K))
noncomputable def g15_p7 (R:Type) (t0:Sl) (t1:Sl) (t5:Int) (t6:Int) (H:Heap) (kN:Sl→Sl→Int→Heap→Option R) (kR:Bool→Heap→Option R):Option R :=
  sel (t6 != (0:Int)) (
    kR false H) (
    kN t0 t1 t5 H)
theorem g15_p7_eq {R:Type} (t0:Sl) (t1:Sl) (t5:Int) (t6:Int) (H:Heap) (K:Ex→Fr→Heap→Option R):ev2 Try.prog E15 loopLim lv15 Try.f15.ntmps kp15 c15_3 [(0,(V.sl t0)),(1,(V.sl t1)),(5,(V.i .i64 t5)),(6,(V.i .i64 t6))] H K = g15_p7 R t0 t1 t5 t6 H (fun t0 t1 t5 H=>K .normal [(0,(V.sl t0)),(1,(V.sl t1)),(5,(V.i .i64 t5))] H) (fun t4 H=>K .ret [(4,(V.b t4))] H):=by kernel_rfl
theorem g15_p7_lin {R S:Type} {k:S→Option R} {t0:Sl} {t1:Sl} {t5:Int} {t6:Int} {H:Heap} {fkN:Sl→Sl→Int→Heap→Option R} {gkN:Sl→Sl→Int→Heap→Option S} {fkR:Bool→Heap→Option R} {gkR:Bool→Heap→Option S} (hkN:∀ t0 t1 t5 H,fkN t0 t1 t5 H = (gkN t0 t1 t5 H).bind k) (hkR:∀ t4 H,fkR t4 H = (gkR t4 H).bind k):g15_p7 R t0 t1 t5 t6 H fkN fkR = (g15_p7 S t0 t1 t5 t6 H gkN gkR).bind k:=by
  delta g15_p7; exact (
    sl_lin (
      hkR _ _) (
      hkN _ _ _ _))
noncomputable def g15_p8 (R:Type) (t0:Sl) (t1:Sl) (t5:Int) (t6:Int) (t7:Int) (H:Heap) (kN:Sl→Sl→Int→Heap→Option R) (kR:Bool→Heap→Option R):Option R :=
  g15_p6 R t0 t1 t5 t6 t7 H (fun t0 t1 t5 t6 H=>g15_p7 R t0 t1 t5 t6 H (fun t0 t1 t5 H=>kN t0 t1 t5 H) (fun t4 H=>kR t4 H))
theorem g15_p8_lin {R S:Type} {k:S→Option R} {t0:Sl} {t1:Sl} {t5:Int} {t6:Int} {t7:Int} {H:Heap} {fkN:Sl→Sl→Int→Heap→Option R} {gkN:Sl→Sl→Int→Heap→Option S} {fkR:Bool→Heap→Option R} {gkR:Bool→Heap→Option S} (hkN:∀ t0 t1 t5 H,fkN t0 t1 t5 H = (gkN t0 t1 t5 H).bind k) (hkR:∀ t4 H,fkR t4 H = (gkR t4 H).bind k):g15_p8 R t0 t1 t5 t6 t7 H fkN fkR = (g15_p8 S t0 t1 t5 t6 t7 H gkN gkR).bind k:=by
  exact g15_p6_lin (fun _ _ _ _ _=>g15_p7_lin (fun _ _ _ _=>hkN _ _ _ _) (fun _ _=>hkR _ _))
theorem g15_p8_eq {R:Type} (t0:Sl) (t1:Sl) (t5:Int) (t6:Int) (t7:Int) (H:Heap) (K:Ex→Fr→Heap→Option R):ev2 Try.prog E15 loopLim lv15 Try.f15.ntmps kp15 c15_4 [(0,(V.sl t0)),(1,(V.sl t1)),(5,(V.i .i64 t5)),(6,(V.i .i64 t6)),(7,(V.i .i64 t7))] H K = g15_p8 R t0 t1 t5 t6 t7 H (fun t0 t1 t5 H=>K .normal [(0,(V.sl t0)),(1,(V.sl t1)),(5,(V.i .i64 t5))] H) (fun t4 H=>K .ret [(4,(V.b t4))] H):=by
  delta c15_4
  rw [ev2_seq]
  delta g15_p8
  exact (g15_p6_eq t0 t1 t5 t6 t7 H (kSeq (fun fr H=>ev2 Try.prog E15 loopLim lv15 Try.f15.ntmps kp15 c15_3 fr H K) K)).trans (congrArg (g15_p6 R t0 t1 t5 t6 t7 H) (funext fun t0=>funext fun t1=>funext fun t5=>funext fun t6=>funext fun H=>(kSeq_n _ _ _ _).trans (g15_p7_eq t0 t1 t5 t6 H K)))
noncomputable def g15_p9 (R:Type) (t0:Sl) (t1:Sl) (t5:Int) (t69:Bool) (H:Heap) (kN:Sl→Sl→Int→Heap→Option R) (kR:Bool→Heap→Option R):Option R :=
  g15_p3 R t0 t1 t5 t69 H (fun t0 t1 t5 t6 t7 H=>g15_p8 R t0 t1 t5 t6 t7 H (fun t0 t1 t5 H=>kN t0 t1 t5 H) (fun t4 H=>kR t4 H)) (fun t4 H=>kR t4 H)
theorem g15_p9_lin {R S:Type} {k:S→Option R} {t0:Sl} {t1:Sl} {t5:Int} {t69:Bool} {H:Heap} {fkN:Sl→Sl→Int→Heap→Option R} {gkN:Sl→Sl→Int→Heap→Option S} {fkR:Bool→Heap→Option R} {gkR:Bool→Heap→Option S} (hkN:∀ t0 t1 t5 H,fkN t0 t1 t5 H = (gkN t0 t1 t5 H).bind k) (hkR:∀ t4 H,fkR t4 H = (gkR t4 H).bind k):g15_p9 R t0 t1 t5 t69 H fkN fkR = (g15_p9 S t0 t1 t5 t69 H gkN gkR).bind k:=by
  exact g15_p3_lin (fun _ _ _ _ _ _=>g15_p8_lin (fun _ _ _ _=>hkN _ _ _ _) (fun _ _=>hkR _ _)) (fun _ _=>hkR _ _)
theorem g15_p9_eq {R:Type} (t0:Sl) (t1:Sl) (t5:Int) (t69:Bool) (H:Heap) (K:Ex→Fr→Heap→Option R):ev2 Try.prog E15 loopLim lv15 Try.f15.ntmps kp15 c15_5 [(0,(V.sl t0)),(1,(V.sl t1)),(5,(V.i .i64 t5)),(69,(V.b t69))] H K = g15_p9 R t0 t1 t5 t69 H (fun t0 t1 t5 H=>K .normal [(0,(V.sl t0)),(1,(V.sl t1)),(5,(V.i .i64 t5))] H) (fun t4 H=>K .ret [(4,(V.b t4))] H):=by
  delta c15_5
  delta g15_p9
  exact (g15_p3_eq _ t0 t1 t5 t69 H K).trans (congr (congrArg (g15_p3 R t0 t1 t5 t69 H) (funext fun t0=>funext fun t1=>funext fun t5=>funext fun t6=>funext fun t7=>funext fun H=>g15_p8_eq t0 t1 t5 t6 t7 H K)) rfl)
noncomputable def g15_p10 (R:Type) (t0:Sl) (t1:Sl) (t5:Int) (H:Heap) (kN:Sl→Sl→Int→Heap→Option R) (kR:Bool→Heap→Option R):Option R :=
  g15_p2 R t0 t1 t5 H (fun t0 t1 t5 t69 H=>g15_p9 R t0 t1 t5 t69 H (fun t0 t1 t5 H=>kN t0 t1 t5 H) (fun t4 H=>kR t4 H))
theorem g15_p10_lin {R S:Type} {k:S→Option R} {t0:Sl} {t1:Sl} {t5:Int} {H:Heap} {fkN:Sl→Sl→Int→Heap→Option R} {gkN:Sl→Sl→Int→Heap→Option S} {fkR:Bool→Heap→Option R} {gkR:Bool→Heap→Option S} (hkN:∀ t0 t1 t5 H,fkN t0 t1 t5 H = (gkN t0 t1 t5 H).bind k) (hkR:∀ t4 H,fkR t4 H = (gkR t4 H).bind k):g15_p10 R t0 t1 t5 H fkN fkR = (g15_p10 S t0 t1 t5 H gkN gkR).bind k:=by
  exact g15_p2_lin (fun _ _ _ _ _=>g15_p9_lin (fun _ _ _ _=>hkN _ _ _ _) (fun _ _=>hkR _ _))
theorem g15_p10_eq {R:Type} (t0:Sl) (t1:Sl) (t5:Int) (H:Heap) (K:Ex→Fr→Heap→Option R):ev2 Try.prog E15 loopLim lv15 Try.f15.ntmps kp15 c15_6 [(0,(V.sl t0)),(1,(V.sl t1)),(5,(V.i .i64 t5))] H K = g15_p10 R t0 t1 t5 H (fun t0 t1 t5 H=>K .normal [(0,(V.sl t0)),(1,(V.sl t1)),(5,(V.i .i64 t5))] H) (fun t4 H=>K .ret [(4,(V.b t4))] H):=by
  delta c15_6
  delta g15_p10
  exact (g15_p2_eq _ t0 t1 t5 H K).trans (congrArg (g15_p2 R t0 t1 t5 H) (funext fun t0=>funext fun t1=>funext fun t5=>funext fun t69=>funext fun H=>g15_p9_eq t0 t1 t5 t69 H K))
noncomputable def g15_p11 (R:Type) (t0:Sl) (t1:Sl) (t5:Int) (H:Heap) (kN:Sl→Sl→Int→Heap→Option R) (kR:Bool→Heap→Option R):Option R :=
  g15_p10 R t0 t1 t5 H (fun t0 t1 t5 H=>kN t0 t1 t5 H) (fun t4 H=>kR t4 H)
theorem g15_p11_lin {R S:Type} {k:S→Option R} {t0:Sl} {t1:Sl} {t5:Int} {H:Heap} {fkN:Sl→Sl→Int→Heap→Option R} {gkN:Sl→Sl→Int→Heap→Option S} {fkR:Bool→Heap→Option R} {gkR:Bool→Heap→Option S} (hkN:∀ t0 t1 t5 H,fkN t0 t1 t5 H = (gkN t0 t1 t5 H).bind k) (hkR:∀ t4 H,fkR t4 H = (gkR t4 H).bind k):g15_p11 R t0 t1 t5 H fkN fkR = (g15_p11 S t0 t1 t5 H gkN gkR).bind k:=by
  exact g15_p10_lin (fun _ _ _ _=>hkN _ _ _ _) (fun _ _=>hkR _ _)
theorem g15_p11_eq {R:Type} (t0:Sl) (t1:Sl) (t5:Int) (H:Heap) (K:Ex→Fr→Heap→Option R):ev2 Try.prog E15 loopLim lv15 Try.f15.ntmps kp15 c15_7 [(0,(V.sl t0)),(1,(V.sl t1)),(5,(V.i .i64 t5))] H K = g15_p11 R t0 t1 t5 H (fun t0 t1 t5 H=>K .normal [(0,(V.sl t0)),(1,(V.sl t1)),(5,(V.i .i64 t5))] H) (fun t4 H=>K .ret [(4,(V.b t4))] H):=by
  delta c15_7
  rw [ev2_block]
  delta g15_p11
  exact (g15_p10_eq t0 t1 t5 H (kBlock kp15 1 K))
noncomputable def g15_p12 (R:Type) (t0:Sl) (t1:Sl) (t5:Int) (H:Heap) (kN:Sl→Sl→Int→Heap→Option R):Option R :=
  kN t0 t1 (IntKind.wrap .i64 (t5 + (1:Int))) H
theorem g15_p12_eq {R:Type} (t0:Sl) (t1:Sl) (t5:Int) (H:Heap) (K:Ex→Fr→Heap→Option R):ev2 Try.prog E15 loopLim lv15 Try.f15.ntmps kp15 c15_8 [(0,(V.sl t0)),(1,(V.sl t1)),(5,(V.i .i64 t5))] H K = g15_p12 R t0 t1 t5 H (fun t0 t1 t5 H=>K .normal [(0,(V.sl t0)),(1,(V.sl t1)),(5,(V.i .i64 t5))] H):=by kernel_rfl
theorem g15_p12_lin {R S:Type} {k:S→Option R} {t0:Sl} {t1:Sl} {t5:Int} {H:Heap} {fkN:Sl→Sl→Int→Heap→Option R} {gkN:Sl→Sl→Int→Heap→Option S} (hkN:∀ t0 t1 t5 H,fkN t0 t1 t5 H = (gkN t0 t1 t5 H).bind k):g15_p12 R t0 t1 t5 H fkN = (g15_p12 S t0 t1 t5 H gkN).bind k:=by
  delta g15_p12; exact (
    hkN _ _ _ _)
noncomputable def g15_p13 (R:Type) (t0:Sl) (t1:Sl) (t5:Int) (H:Heap) (kN:Sl→Sl→Int→Heap→Option R) (kR:Bool→Heap→Option R):Option R :=
  g15_p11 R t0 t1 t5 H (fun t0 t1 t5 H=>g15_p12 R t0 t1 t5 H (fun t0 t1 t5 H=>kN t0 t1 t5 H)) (fun t4 H=>kR t4 H)
theorem g15_p13_lin {R S:Type} {k:S→Option R} {t0:Sl} {t1:Sl} {t5:Int} {H:Heap} {fkN:Sl→Sl→Int→Heap→Option R} {gkN:Sl→Sl→Int→Heap→Option S} {fkR:Bool→Heap→Option R} {gkR:Bool→Heap→Option S} (hkN:∀ t0 t1 t5 H,fkN t0 t1 t5 H = (gkN t0 t1 t5 H).bind k) (hkR:∀ t4 H,fkR t4 H = (gkR t4 H).bind k):g15_p13 R t0 t1 t5 H fkN fkR = (g15_p13 S t0 t1 t5 H gkN gkR).bind k:=by
  exact g15_p11_lin (fun _ _ _ _=>g15_p12_lin (fun _ _ _ _=>hkN _ _ _ _)) (fun _ _=>hkR _ _)
theorem g15_p13_eq {R:Type} (t0:Sl) (t1:Sl) (t5:Int) (H:Heap) (K:Ex→Fr→Heap→Option R):ev2 Try.prog E15 loopLim lv15 Try.f15.ntmps kp15 c15_9 [(0,(V.sl t0)),(1,(V.sl t1)),(5,(V.i .i64 t5))] H K = g15_p13 R t0 t1 t5 H (fun t0 t1 t5 H=>K .normal [(0,(V.sl t0)),(1,(V.sl t1)),(5,(V.i .i64 t5))] H) (fun t4 H=>K .ret [(4,(V.b t4))] H):=by
  delta c15_9
  rw [ev2_seq]
  delta g15_p13
  exact (g15_p11_eq t0 t1 t5 H (kSeq (fun fr H=>ev2 Try.prog E15 loopLim lv15 Try.f15.ntmps kp15 c15_8 fr H K) K)).trans (congr (congrArg (g15_p11 R t0 t1 t5 H) (funext fun t0=>funext fun t1=>funext fun t5=>funext fun H=>(kSeq_n _ _ _ _).trans (g15_p12_eq t0 t1 t5 H K))) rfl)
noncomputable def g15_p14 (R:Type) (t0:Sl) (t1:Sl) (t5:Int) (H:Heap) (kN:Sl→Sl→Int→Heap→Option R) (kE0:Heap→Option R) (kR:Bool→Heap→Option R):Option R :=
  g15_p1 R t0 t1 t5 H (fun t0 t1 t5 H=>g15_p13 R t0 t1 t5 H (fun t0 t1 t5 H=>kN t0 t1 t5 H) (fun t4 H=>kR t4 H)) (fun H=>kE0  H)
theorem g15_p14_lin {R S:Type} {k:S→Option R} {t0:Sl} {t1:Sl} {t5:Int} {H:Heap} {fkN:Sl→Sl→Int→Heap→Option R} {gkN:Sl→Sl→Int→Heap→Option S} {fkE0:Heap→Option R} {gkE0:Heap→Option S} {fkR:Bool→Heap→Option R} {gkR:Bool→Heap→Option S} (hkN:∀ t0 t1 t5 H,fkN t0 t1 t5 H = (gkN t0 t1 t5 H).bind k) (hkE0:∀ H,fkE0 H = (gkE0 H).bind k) (hkR:∀ t4 H,fkR t4 H = (gkR t4 H).bind k):g15_p14 R t0 t1 t5 H fkN fkE0 fkR = (g15_p14 S t0 t1 t5 H gkN gkE0 gkR).bind k:=by
  exact g15_p1_lin (fun _ _ _ _=>g15_p13_lin (fun _ _ _ _=>hkN _ _ _ _) (fun _ _=>hkR _ _)) (fun _=>hkE0 _)
theorem g15_p14_eq {R:Type} (t0:Sl) (t1:Sl) (t5:Int) (H:Heap) (K:Ex→Fr→Heap→Option R):ev2 Try.prog E15 loopLim lv15 Try.f15.ntmps kp15 c15_10 [(0,(V.sl t0)),(1,(V.sl t1)),(5,(V.i .i64 t5))] H K = g15_p14 R t0 t1 t5 H (fun t0 t1 t5 H=>K .normal [(0,(V.sl t0)),(1,(V.sl t1)),(5,(V.i .i64 t5))] H) (fun H=>K (.exit 0) [] H) (fun t4 H=>K .ret [(4,(V.b t4))] H):=by
  delta c15_10
  delta g15_p14
  exact (g15_p1_eq _ t0 t1 t5 H K).trans (congr (congrArg (g15_p1 R t0 t1 t5 H) (funext fun t0=>funext fun t1=>funext fun t5=>funext fun H=>g15_p13_eq t0 t1 t5 H K)) rfl)
abbrev g15_p15_S:=Sl × Sl × Int
abbrev g15_p15_O:=Sum (Unit) (Bool)
def g15_p15_es (s:g15_p15_S):Fr:=[(0,(V.sl s.1)),(1,(V.sl s.2.1)),(5,(V.i .i64 s.2.2))]
def g15_p15_er:g15_p15_O→Ex × Fr
  | (.inl r)=>((.exit 0),[])
  | (.inr r)=>(.ret,[(4,(V.b r))])
noncomputable def g15_p15_b (s:g15_p15_S) (H:Heap):Option (Rd g15_p15_S g15_p15_O × Heap) :=
  g15_p14 _ s.1 s.2.1 s.2.2 H (fun t0 t1 t5 H=>some (.go (t0,t1,t5),H)) (fun H=>some (.up (.inl ()),H)) (fun t4 H=>some (.up (.inr t4),H))
noncomputable def g15_p15 (R:Type) (t0:Sl) (t1:Sl) (t5:Int) (H:Heap) (kE0:Heap→Option R) (kR:Bool→Heap→Option R):Option R :=
  (tlim (g15_p15_b) (t0,t1,t5) H).bind fun p=>cas p.1 (fun r=>kE0  p.2) (fun r0=>kR r0 p.2)
theorem g15_p15_lin {R S:Type} {k:S→Option R} {t0:Sl} {t1:Sl} {t5:Int} {H:Heap} {fkE0:Heap→Option R} {gkE0:Heap→Option S} {fkR:Bool→Heap→Option R} {gkR:Bool→Heap→Option S} (hkE0:∀ H,fkE0 H = (gkE0 H).bind k) (hkR:∀ t4 H,fkR t4 H = (gkR t4 H).bind k):g15_p15 R t0 t1 t5 H fkE0 fkR = (g15_p15 S t0 t1 t5 H gkE0 gkR).bind k:=by
  exact bl fun p=>cas_lin (fun _=>hkE0 _) (fun _=>hkR _ _)
theorem g15_p15_eq {R:Type} (t0:Sl) (t1:Sl) (t5:Int) (H:Heap) (K:Ex→Fr→Heap→Option R):ev2 Try.prog E15 loopLim lv15 Try.f15.ntmps kp15 c15_11 [(0,(V.sl t0)),(1,(V.sl t1)),(5,(V.i .i64 t5))] H K = g15_p15 R t0 t1 t5 H (fun H=>K (.exit 0) [] H) (fun t4 H=>K .ret [(4,(V.b t4))] H):=by
  delta c15_11
  delta g15_p15
  refine (ev2_tlim (b:=g15_p15_b) (es:=g15_p15_es) (er:=g15_p15_er) (by rintro (r | r) <;> exact nofun) (fun s H=>?_) (t0,t1,t5) H K).trans (bc fun p=>by rcases p with ⟨(r | r),H⟩ <;> rfl)
  exact (g15_p14_eq s.1 s.2.1 s.2.2 H ret3).trans (g15_p14_lin (fun _ _ _ _=>rfl) (fun _=>rfl) (fun _ _=>rfl))
noncomputable def g15_p16 (R:Type) (t0:Sl) (t1:Sl) (t5:Int) (H:Heap) (kN:Heap→Option R) (kR:Bool→Heap→Option R):Option R :=
  g15_p15 R t0 t1 t5 H (fun H=>kN  H) (fun t4 H=>kR t4 H)
theorem g15_p16_lin {R S:Type} {k:S→Option R} {t0:Sl} {t1:Sl} {t5:Int} {H:Heap} {fkN:Heap→Option R} {gkN:Heap→Option S} {fkR:Bool→Heap→Option R} {gkR:Bool→Heap→Option S} (hkN:∀ H,fkN H = (gkN H).bind k) (hkR:∀ t4 H,fkR t4 H = (gkR t4 H).bind k):g15_p16 R t0 t1 t5 H fkN fkR = (g15_p16 S t0 t1 t5 H gkN gkR).bind k:=by
  exact g15_p15_lin (fun _=>hkN _) (fun _ _=>hkR _ _)
theorem g15_p16_eq {R:Type} (t0:Sl) (t1:Sl) (t5:Int) (H:Heap) (K:Ex→Fr→Heap→Option R):ev2 Try.prog E15 loopLim lv15 Try.f15.ntmps kp15 c15_12 [(0,(V.sl t0)),(1,(V.sl t1)),(5,(V.i .i64 t5))] H K = g15_p16 R t0 t1 t5 H (fun H=>K .normal [] H) (fun t4 H=>K .ret [(4,(V.b t4))] H):=by
  delta c15_12
  rw [ev2_block]
  delta g15_p16
  exact (g15_p15_eq t0 t1 t5 H (kBlock kp15 0 K))
noncomputable def g15_p17 (R:Type) (H:Heap) (kR:Bool→Heap→Option R):Option R :=
  kR true H
theorem g15_p17_eq {R:Type} (H:Heap) (K:Ex→Fr→Heap→Option R):ev2 Try.prog E15 loopLim lv15 Try.f15.ntmps kp15 c15_13 [] H K = g15_p17 R H (fun t4 H=>K .ret [(4,(V.b t4))] H):=by kernel_rfl
theorem g15_p17_lin {R S:Type} {k:S→Option R} {H:Heap} {fkR:Bool→Heap→Option R} {gkR:Bool→Heap→Option S} (hkR:∀ t4 H,fkR t4 H = (gkR t4 H).bind k):g15_p17 R H fkR = (g15_p17 S H gkR).bind k:=by
  delta g15_p17; exact (
    hkR _ _)
noncomputable def g15_p18 (R:Type) (t0:Sl) (t1:Sl) (t5:Int) (H:Heap) (kR:Bool→Heap→Option R):Option R :=
  g15_p16 R t0 t1 t5 H (fun H=>g15_p17 R H (fun t4 H=>kR t4 H)) (fun t4 H=>kR t4 H)
theorem g15_p18_lin {R S:Type} {k:S→Option R} {t0:Sl} {t1:Sl} {t5:Int} {H:Heap} {fkR:Bool→Heap→Option R} {gkR:Bool→Heap→Option S} (hkR:∀ t4 H,fkR t4 H = (gkR t4 H).bind k):g15_p18 R t0 t1 t5 H fkR = (g15_p18 S t0 t1 t5 H gkR).bind k:=by
  exact g15_p16_lin (fun _=>g15_p17_lin (fun _ _=>hkR _ _)) (fun _ _=>hkR _ _)
theorem g15_p18_eq {R:Type} (t0:Sl) (t1:Sl) (t5:Int) (H:Heap) (K:Ex→Fr→Heap→Option R):ev2 Try.prog E15 loopLim lv15 Try.f15.ntmps kp15 c15_14 [(0,(V.sl t0)),(1,(V.sl t1)),(5,(V.i .i64 t5))] H K = g15_p18 R t0 t1 t5 H (fun t4 H=>K .ret [(4,(V.b t4))] H):=by
  delta c15_14
  rw [ev2_seq]
  delta g15_p18
  exact (g15_p16_eq t0 t1 t5 H (kSeq (fun fr H=>ev2 Try.prog E15 loopLim lv15 Try.f15.ntmps kp15 c15_13 fr H K) K)).trans (congr (congrArg (g15_p16 R t0 t1 t5 H) (funext fun H=>(kSeq_n _ _ _ _).trans (g15_p17_eq H K))) rfl)
noncomputable def g15_p19 (R:Type) (t0:Sl) (t1:Sl) (H:Heap) (kR:Bool→Heap→Option R):Option R :=
  g15_p0 R t0 t1 H (fun t0 t1 t5 H=>g15_p18 R t0 t1 t5 H (fun t4 H=>kR t4 H)) (fun t4 H=>kR t4 H)
theorem g15_p19_lin {R S:Type} {k:S→Option R} {t0:Sl} {t1:Sl} {H:Heap} {fkR:Bool→Heap→Option R} {gkR:Bool→Heap→Option S} (hkR:∀ t4 H,fkR t4 H = (gkR t4 H).bind k):g15_p19 R t0 t1 H fkR = (g15_p19 S t0 t1 H gkR).bind k:=by
  exact g15_p0_lin (fun _ _ _ _=>g15_p18_lin (fun _ _=>hkR _ _)) (fun _ _=>hkR _ _)
theorem g15_p19_eq {R:Type} (t0:Sl) (t1:Sl) (H:Heap) (K:Ex→Fr→Heap→Option R):ev2 Try.prog E15 loopLim lv15 Try.f15.ntmps kp15 c15_15 [(0,(V.sl t0)),(1,(V.sl t1))] H K = g15_p19 R t0 t1 H (fun t4 H=>K .ret [(4,(V.b t4))] H):=by
  delta c15_15
  delta g15_p19
  exact (g15_p0_eq _ t0 t1 H K).trans (congr (congrArg (g15_p0 R t0 t1 H) (funext fun t0=>funext fun t1=>funext fun t5=>funext fun H=>g15_p18_eq t0 t1 t5 H K)) rfl)
noncomputable def g15_r:T15:=fun R t0 t1 H K =>
  g15_p19 R t0 t1 H (fun t4 H =>
    K t4 H)
theorem g15_r_lin:Lin15 (g15_r):=by
  constructor
  intro R S k t0 t1 H f g h
  exact g15_p19_lin (fun t4 H =>
    h _ _)
theorem g15_fn {R:Type} (t0:Sl) (t1:Sl) (H:Heap) (K:V→Heap→Option R):evFn2 Try.prog E15 loopLim lv15 Try.f15 kp15 [(V.sl t0),(V.sl t1)] H K = g15_r R t0 t1 H (fun r0 H=>K (V.b r0) H):=by
  have h0 : ∀ (t4 : Bool) (H : Heap), kFn2 Try.prog Try.f15.results.toList K .ret [(4, (V.b t4))] H =
      K (V.b t4) H:=by intros; kernel_rfl
  have e0:=evFn2_code2 (P:=Try.prog) (c:=c15_15) (E:=E15) (lr:=loopLim) (lv:=lv15) (kp:=kp15) (fn:=Try.f15) (args:=[(V.sl t0),(V.sl t1)]) H K (by kernel_rfl) (Nat.le_of_ble_eq_true (by kernel_rfl)) (by kernel_rfl) (by kernel_rfl)
  have e1:ev2 Try.prog E15 loopLim lv15 Try.f15.ntmps kp15 c15_15 (argFr 0 [(V.sl t0),(V.sl t1)]) H (kFn2 Try.prog Try.f15.results.toList K) = ev2 Try.prog E15 loopLim lv15 Try.f15.ntmps kp15 c15_15 [(0,(V.sl t0)),(1,(V.sl t1))] H (kFn2 Try.prog Try.f15.results.toList K):=by kernel_rfl
  refine (e0.trans e1).trans ?_
  delta g15_r
  exact (g15_p19_eq t0 t1 H (kFn2 Try.prog Try.f15.results.toList K)).trans (congrArg (g15_p19 R t0 t1 H) (funext fun t4=>funext fun H=>h0 t4 H))
theorem g15_ok:FunOK Try.prog 15 (w15 (g15_r)):=by
  refine (runF2_ok (E15_good) mixed lim_ok Try.func15 (by kernel_rfl) lv15 kp15).of_le fun R args H K r hk=>?_
  unfold w15 at hk
  split at hk
  · exact (g15_fn _ _ H K).trans hk
  · cases hk
noncomputable def g15:T15:=g15_r
theorem g15_lin:Lin15 g15:=g15_r_lin
theorem ok15:FunOK Try.prog 15 (w15 g15):=g15_ok
end Go.Proofs.Ytobebcfkddimkaa

