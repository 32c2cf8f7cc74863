/- Printed: functions as the machine runs them. -/
import Derived.Test.YtobebcfkddimkaaGT
namespace Go.Proofs.Ytobebcfkddimkaa
open Go AM Go.RowKit
set_option linter.unusedVariables false
def kp11:Nat→Option (List Nat):=kpOf [(0,[0]),(1,[0,11]),(2,[2]),(3,[0,3]),(4,[0,3,16]),(5,[0,3,16,18]),(6,[0,3,4,5,16,500004,1000004]),(7,[0,3,4,5,16,500004,1000004]),(8,[0,3,4,16,33,500004,1000004]),(9,[0,3,16]),(10,[0,38,39,40]),(11,[0,38,39,40,41]),(12,[0,7,38,39,40,500007,1000007]),(13,[0,38,39,40]),(14,[0,38,39,40]),(15,[0,8]),(16,[8]),(17,[8]),(18,[2]),(100000,[0,3]),(100001,[0,3,16]),(100002,[0]),(100003,[0,38,39,40]),(200000,[0,3,16]),(200001,[0,3,16]),(200002,[0,38,39,40]),(200003,[0,38,39,40]),(300000,[2]),(400011,[0]),(400018,[0,3,16]),(400033,[0,3,16]),(400041,[0,38,39,40])]
def E11 (a23:T23) (a24:T24) (a25:T25):FEnv:=[(23,w23 a23),(24,w24 a24),(25,w25 a25)]
theorem E11_good {a23:T23} {a24:T24} {a25:T25} (oa23:FunOK Try.prog 23 (w23 a23)) (oa24:FunOK Try.prog 24 (w24 a24)) (oa25:FunOK Try.prog 25 (w25 a25)) (la23:Lin23 a23) (la24:Lin24 a24) (la25:Lin25 a25):EnvGood Try.prog (E11 a23 a24 a25):=((((EnvGood.nil _).cons oa25 (w25_lin la25)).cons oa24 (w24_lin la24)).cons oa23 (w23_lin la23))
def lv11:Nat→Bool:=lvOf [4,7]
noncomputable def b11:Code:=Try.f11.body.getD .skip
noncomputable def c11_0:Code:=(.seq (codeAt [1,1,1,1,0,1,0,0,0] b11) (.seq (.cond (.tmp 41) .skip (.exit 2)) (.seq (.block 3 (.seq (codeAt [1,1,1,1,0,1,0,0,1,1,0,0,0] b11) (codeAt [1,1,1,1,0,1,0,0,1,1,0,0,1] b11))) (codeAt [1,1,1,1,0,1,0,0,1,1,1] b11))))
noncomputable def c11_1:Code:=(.loop c11_0)
noncomputable def c11_2:Code:=(.block 2 c11_1)
noncomputable def c11_3:Code:=(.seq (codeAt [1,1,1,1,1,0] b11) (.seq (codeAt [1,1,1,1,1,1,0] b11) (.seq (codeAt [1,1,1,1,1,1,1,0] b11) (.seq (codeAt [1,1,1,1,1,1,1,1,0] b11) .ret))))
noncomputable def c11_4:Code:=(.seq c11_2 c11_3)
noncomputable def c11_5:Code:=(.seq (codeAt [1,1,1,1,0,0] b11) c11_4)
noncomputable def g11_p0 (a23:T23) (a24:T24) (a25:T25) (R:Type) (t0:Option (Nat × Nat)) (t3:Sl) (H:Heap) (kN:Option (Nat × Nat)→Sl→Int→Int→Heap→Option R):Option R :=
  kN t0 t3 ((t3.len:Nat):Int) (0:Int) H
theorem g11_p0_eq (a23:T23) (a24:T24) (a25:T25) {R:Type} (c2:Code) (t0:Option (Nat × Nat)) (t3:Sl) (H:Heap) (K:Ex→Fr→Heap→Option R):ev2 Try.prog (E11 a23 a24 a25) loopLim lv11 Try.f11.ntmps kp11 (.seq (codeAt [1,1,1,1,0,0] b11) c2) [(0,(V.p t0)),(3,(V.sl t3))] H K = g11_p0 a23 a24 a25 R t0 t3 H (fun t0 t38 t39 t40 H=>ev2 Try.prog (E11 a23 a24 a25) loopLim lv11 Try.f11.ntmps kp11 c2 [(0,(V.p t0)),(38,(V.sl t38)),(39,(V.i .i64 t39)),(40,(V.i .i64 t40))] H K):=by kernel_rfl
noncomputable def g11_p1 (a23:T23) (a24:T24) (a25:T25) (R:Type) (t0:Option (Nat × Nat)) (t38:Sl) (t39:Int) (t40:Int) (H:Heap) (kN:Option (Nat × Nat)→Sl→Int→Int→Heap→Option R) (kE2:Option (Nat × Nat)→Heap→Option R):Option R :=
  sel (decide (t40 < t39)) (
    if 0 ≤ t40∧t40 < ((t38.len:Nat):Int) then (
      (t38.a).bind fun q1 =>
      ((H).ldI .u16 q1.1 ((q1.2 + Int.toNat t40 * 2) + 0)).bind fun x2 =>
      ((H).ldI .u32 q1.1 ((q1.2 + Int.toNat t40 * 2) + 1)).bind fun x3 =>
      a23 R t0 x2 x3 H fun h4 =>
      kN t0 t38 t39 (IntKind.wrap .i64 (t40 + (1:Int))) h4)
    else (
      none)) (
    kE2 t0 H)
theorem g11_p1_eq (a23:T23) (a24:T24) (a25:T25) (la23:Lin23 a23) (la24:Lin24 a24) (la25:Lin25 a25) {R:Type} (t0:Option (Nat × Nat)) (t38:Sl) (t39:Int) (t40:Int) (H:Heap) (K:Ex→Fr→Heap→Option R):ev2 Try.prog (E11 a23 a24 a25) loopLim lv11 Try.f11.ntmps kp11 c11_0 [(0,(V.p t0)),(38,(V.sl t38)),(39,(V.i .i64 t39)),(40,(V.i .i64 t40))] H K = g11_p1 a23 a24 a25 R t0 t38 t39 t40 H (fun t0 t38 t39 t40 H=>K .normal [(0,(V.p t0)),(38,(V.sl t38)),(39,(V.i .i64 t39)),(40,(V.i .i64 t40))] H) (fun t0 H=>K (.exit 2) [(0,(V.p t0))] H):=by kernel_rfl
theorem g11_p1_lin {a23:T23} {a24:T24} {a25:T25} (la23:Lin23 a23) (la24:Lin24 a24) (la25:Lin25 a25) {R S:Type} {k:S→Option R} {t0:Option (Nat × Nat)} {t38:Sl} {t39:Int} {t40:Int} {H:Heap} {fkN:Option (Nat × Nat)→Sl→Int→Int→Heap→Option R} {gkN:Option (Nat × Nat)→Sl→Int→Int→Heap→Option S} {fkE2:Option (Nat × Nat)→Heap→Option R} {gkE2:Option (Nat × Nat)→Heap→Option S} (hkN:∀ t0 t38 t39 t40 H,fkN t0 t38 t39 t40 H = (gkN t0 t38 t39 t40 H).bind k) (hkE2:∀ t0 H,fkE2 t0 H = (gkE2 t0 H).bind k):g11_p1 a23 a24 a25 R t0 t38 t39 t40 H fkN fkE2 = (g11_p1 a23 a24 a25 S t0 t38 t39 t40 H gkN gkE2).bind k:=by
  delta g11_p1; exact (
    sl_lin (
      il (
        bl fun q1 =>
        bl fun x2 =>
        bl fun x3 =>
        la23.l fun h4 =>
        hkN _ _ _ _ _) (
        rfl)) (
      hkE2 _ _))
abbrev g11_p2_S:=(Option (Nat × Nat)) × Sl × Int × Int
abbrev g11_p2_O:=(Option (Nat × Nat))
def g11_p2_es (s:g11_p2_S):Fr:=[(0,(V.p s.1)),(38,(V.sl s.2.1)),(39,(V.i .i64 s.2.2.1)),(40,(V.i .i64 s.2.2.2))]
def g11_p2_er (r:g11_p2_O):Ex × Fr:=((.exit 2),[(0,(V.p r))])
noncomputable def g11_p2_b (a23:T23) (a24:T24) (a25:T25) (s:g11_p2_S) (H:Heap):Option (Rd g11_p2_S g11_p2_O × Heap) :=
  g11_p1 a23 a24 a25 _ s.1 s.2.1 s.2.2.1 s.2.2.2 H (fun t0 t38 t39 t40 H=>some (.go (t0,t38,t39,t40),H)) (fun t0 H=>some (.up t0,H))
noncomputable def g11_p2 (a23:T23) (a24:T24) (a25:T25) (R:Type) (t0:Option (Nat × Nat)) (t38:Sl) (t39:Int) (t40:Int) (H:Heap) (kE2:Option (Nat × Nat)→Heap→Option R):Option R :=
  (tlim (g11_p2_b a23 a24 a25) (t0,t38,t39,t40) H).bind fun p=>kE2 p.1 p.2
theorem g11_p2_eq (a23:T23) (a24:T24) (a25:T25) (la23:Lin23 a23) (la24:Lin24 a24) (la25:Lin25 a25) {R:Type} (t0:Option (Nat × Nat)) (t38:Sl) (t39:Int) (t40:Int) (H:Heap) (K:Ex→Fr→Heap→Option R):ev2 Try.prog (E11 a23 a24 a25) loopLim lv11 Try.f11.ntmps kp11 c11_1 [(0,(V.p t0)),(38,(V.sl t38)),(39,(V.i .i64 t39)),(40,(V.i .i64 t40))] H K = g11_p2 a23 a24 a25 R t0 t38 t39 t40 H (fun t0 H=>K (.exit 2) [(0,(V.p t0))] H):=by
  delta c11_1
  delta g11_p2
  refine (ev2_tlim (b:=g11_p2_b a23 a24 a25) (es:=g11_p2_es) (er:=g11_p2_er) (by intro r; exact nofun) (fun s H=>?_) (t0,t38,t39,t40) H K).trans (bc fun p=>rfl)
  exact (g11_p1_eq a23 a24 a25 la23 la24 la25 s.1 s.2.1 s.2.2.1 s.2.2.2 H ret3).trans (g11_p1_lin la23 la24 la25 (fun _ _ _ _ _=>rfl) (fun _ _=>rfl))
noncomputable def g11_p3 (a23:T23) (a24:T24) (a25:T25) (R:Type) (t0:Option (Nat × Nat)) (t38:Sl) (t39:Int) (t40:Int) (H:Heap) (kN:Option (Nat × Nat)→Heap→Option R):Option R :=
  g11_p2 a23 a24 a25 R t0 t38 t39 t40 H (fun t0 H=>kN t0 H)
theorem g11_p3_eq (a23:T23) (a24:T24) (a25:T25) (la23:Lin23 a23) (la24:Lin24 a24) (la25:Lin25 a25) {R:Type} (t0:Option (Nat × Nat)) (t38:Sl) (t39:Int) (t40:Int) (H:Heap) (K:Ex→Fr→Heap→Option R):ev2 Try.prog (E11 a23 a24 a25) loopLim lv11 Try.f11.ntmps kp11 c11_2 [(0,(V.p t0)),(38,(V.sl t38)),(39,(V.i .i64 t39)),(40,(V.i .i64 t40))] H K = g11_p3 a23 a24 a25 R t0 t38 t39 t40 H (fun t0 H=>K .normal [(0,(V.p t0))] H):=by
  delta c11_2
  rw [ev2_block]
  delta g11_p3
  exact (g11_p2_eq a23 a24 a25 la23 la24 la25 t0 t38 t39 t40 H (kBlock kp11 2 K))
noncomputable def g11_p4 (a23:T23) (a24:T24) (a25:T25) (R:Type) (t0:Option (Nat × Nat)) (H:Heap) (kR:Sl→Heap→Option R):Option R :=
  (t0).bind fun q5 =>
  ((H).ldSl q5.1 (q5.2 + 2)).bind fun x6 =>
  a24 R x6 H fun x7 h8 =>
  (t0).bind fun q9 =>
  ((h8).st q9.1 (q9.2 + 2) (V.sl (Sl.mk none 0 (.ex 0)))).bind fun h11 =>
  a25 R x7 h11 fun h12 =>
  kR x7 h12
theorem g11_p4_eq (a23:T23) (a24:T24) (a25:T25) (la23:Lin23 a23) (la24:Lin24 a24) (la25:Lin25 a25) {R:Type} (t0:Option (Nat × Nat)) (H:Heap) (K:Ex→Fr→Heap→Option R):ev2 Try.prog (E11 a23 a24 a25) loopLim lv11 Try.f11.ntmps kp11 c11_3 [(0,(V.p t0))] H K = g11_p4 a23 a24 a25 R t0 H (fun t2 H=>K .ret [(2,(V.sl t2))] H):=by kernel_rfl
noncomputable def g11_p5 (a23:T23) (a24:T24) (a25:T25) (R:Type) (t0:Option (Nat × Nat)) (t38:Sl) (t39:Int) (t40:Int) (H:Heap) (kR:Sl→Heap→Option R):Option R :=
  g11_p3 a23 a24 a25 R t0 t38 t39 t40 H (fun t0 H=>g11_p4 a23 a24 a25 R t0 H (fun t2 H=>kR t2 H))
theorem g11_p5_eq (a23:T23) (a24:T24) (a25:T25) (la23:Lin23 a23) (la24:Lin24 a24) (la25:Lin25 a25) {R:Type} (t0:Option (Nat × Nat)) (t38:Sl) (t39:Int) (t40:Int) (H:Heap) (K:Ex→Fr→Heap→Option R):ev2 Try.prog (E11 a23 a24 a25) loopLim lv11 Try.f11.ntmps kp11 c11_4 [(0,(V.p t0)),(38,(V.sl t38)),(39,(V.i .i64 t39)),(40,(V.i .i64 t40))] H K = g11_p5 a23 a24 a25 R t0 t38 t39 t40 H (fun t2 H=>K .ret [(2,(V.sl t2))] H):=by
  delta c11_4
  rw [ev2_seq]
  delta g11_p5
  exact (g11_p3_eq a23 a24 a25 la23 la24 la25 t0 t38 t39 t40 H (kSeq (fun fr H=>ev2 Try.prog (E11 a23 a24 a25) loopLim lv11 Try.f11.ntmps kp11 c11_3 fr H K) K)).trans (congrArg (g11_p3 a23 a24 a25 R t0 t38 t39 t40 H) (funext fun t0=>funext fun H=>(kSeq_n _ _ _ _).trans (g11_p4_eq a23 a24 a25 la23 la24 la25 t0 H K)))
noncomputable def g11_p6 (a23:T23) (a24:T24) (a25:T25) (R:Type) (t0:Option (Nat × Nat)) (t3:Sl) (H:Heap) (kR:Sl→Heap→Option R):Option R :=
  g11_p0 a23 a24 a25 R t0 t3 H (fun t0 t38 t39 t40 H=>g11_p5 a23 a24 a25 R t0 t38 t39 t40 H (fun t2 H=>kR t2 H))
theorem g11_p6_eq (a23:T23) (a24:T24) (a25:T25) (la23:Lin23 a23) (la24:Lin24 a24) (la25:Lin25 a25) {R:Type} (t0:Option (Nat × Nat)) (t3:Sl) (H:Heap) (K:Ex→Fr→Heap→Option R):ev2 Try.prog (E11 a23 a24 a25) loopLim lv11 Try.f11.ntmps kp11 c11_5 [(0,(V.p t0)),(3,(V.sl t3))] H K = g11_p6 a23 a24 a25 R t0 t3 H (fun t2 H=>K .ret [(2,(V.sl t2))] H):=by
  delta c11_5
  delta g11_p6
  exact (g11_p0_eq a23 a24 a25 _ t0 t3 H K).trans (congrArg (g11_p0 a23 a24 a25 R t0 t3 H) (funext fun t0=>funext fun t38=>funext fun t39=>funext fun t40=>funext fun H=>g11_p5_eq a23 a24 a25 la23 la24 la25 t0 t38 t39 t40 H K))
end Go.Proofs.Ytobebcfkddimkaa

