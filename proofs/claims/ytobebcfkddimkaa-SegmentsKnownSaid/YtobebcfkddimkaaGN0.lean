/- Printed: functions as the machine runs them. -/
import Derived.Test.YtobebcfkddimkaaGT
import Derived.Test.YtobebcfkddimkaaGM
namespace Go.Proofs.Ytobebcfkddimkaa
open Go AM Go.RowKit
set_option linter.unusedVariables false
def kp22:Nat→Option (List Nat):=kpOf [(0,[0]),(1,[2]),(300000,[2])]
def E22:FEnv:=[]
theorem E22_good:EnvGood Try.prog E22:=(EnvGood.nil _)
def lv22:Nat→Bool:=lvOf []
noncomputable def b22:Code:=Try.f22.body.getD .skip
noncomputable def c22_0:Code:=(.seq (codeAt [0] b22) (.seq (codeAt [1,0] b22) .ret))
noncomputable def g22_p0 (R:Type) (t0:Option (Nat × Nat)) (H:Heap) (kR:Bool→Heap→Option R):Option R :=
  sel (!(Option.isNone t0)) (
    (t0).bind fun q1 =>
    ((H).ldI .i64 q1.1 (q1.2 + 0)).bind fun x2 =>
    kR (decide (x2 > (0:Int))) H) (
    kR false H)
theorem g22_p0_eq {R:Type} (t0:Option (Nat × Nat)) (H:Heap) (K:Ex→Fr→Heap→Option R):ev2 Try.prog E22 loopLim lv22 Try.f22.ntmps kp22 c22_0 [(0,(V.p t0))] H K = g22_p0 R t0 H (fun t2 H=>K .ret [(2,(V.b t2))] H):=by kernel_rfl
theorem g22_p0_lin {R S:Type} {k:S→Option R} {t0:Option (Nat × Nat)} {H:Heap} {fkR:Bool→Heap→Option R} {gkR:Bool→Heap→Option S} (hkR:∀ t2 H,fkR t2 H = (gkR t2 H).bind k):g22_p0 R t0 H fkR = (g22_p0 S t0 H gkR).bind k:=by
  delta g22_p0; exact (
    sl_lin (
      bl fun q1 =>
      bl fun x2 =>
      hkR _ _) (
      hkR _ _))
noncomputable def g22_r:T22:=fun R t0 H K =>
  g22_p0 R t0 H (fun t2 H =>
    K t2 H)
theorem g22_r_lin:Lin22 (g22_r):=by
  constructor
  intro R S k t0 H f g h
  exact g22_p0_lin (fun t2 H =>
    h _ _)
theorem g22_fn {R:Type} (t0:Option (Nat × Nat)) (H:Heap) (K:V→Heap→Option R):evFn2 Try.prog E22 loopLim lv22 Try.f22 kp22 [(V.p t0)] H K = g22_r R t0 H (fun r0 H=>K (V.b r0) H):=by
  have h0 : ∀ (t2 : Bool) (H : Heap), kFn2 Try.prog Try.f22.results.toList K .ret [(2, (V.b t2))] H =
      K (V.b t2) H:=by intros; kernel_rfl
  have e0:=evFn2_code2 (P:=Try.prog) (c:=c22_0) (E:=E22) (lr:=loopLim) (lv:=lv22) (kp:=kp22) (fn:=Try.f22) (args:=[(V.p t0)]) H K (by kernel_rfl) (Nat.le_of_ble_eq_true (by kernel_rfl)) (by kernel_rfl) (by kernel_rfl)
  have e1:ev2 Try.prog E22 loopLim lv22 Try.f22.ntmps kp22 c22_0 (argFr 0 [(V.p t0)]) H (kFn2 Try.prog Try.f22.results.toList K) = ev2 Try.prog E22 loopLim lv22 Try.f22.ntmps kp22 c22_0 [(0,(V.p t0))] H (kFn2 Try.prog Try.f22.results.toList K):=by kernel_rfl
  refine (e0.trans e1).trans ?_
  delta g22_r
  exact (g22_p0_eq t0 H (kFn2 Try.prog Try.f22.results.toList K)).trans (congrArg (g22_p0 R t0 H) (funext fun t2=>funext fun H=>h0 t2 H))
theorem g22_ok:FunOK Try.prog 22 (w22 (g22_r)):=by
  refine (runF2_ok (E22_good) mixed lim_ok Try.func22 (by kernel_rfl) lv22 kp22).of_le fun R args H K r hk=>?_
  unfold w22 at hk
  split at hk
  · exact (g22_fn _ H K).trans hk
  · cases hk
noncomputable def g22:T22:=g22_r
theorem g22_lin:Lin22 g22:=g22_r_lin
theorem ok22:FunOK Try.prog 22 (w22 g22):=g22_ok
def kp23:Nat→Option (List Nat):=kpOf [(0,[0,3,500003,1000003]),(1,[0,3,10,500003,1000003]),(2,[0,3,500003,1000003]),(3,[]),(300000,[]),(400010,[])]
def E23:FEnv:=[]
theorem E23_good:EnvGood Try.prog E23:=(EnvGood.nil _)
def lv23:Nat→Bool:=lvOf [3]
noncomputable def b23:Code:=Try.f23.body.getD .skip
noncomputable def c23_0:Code:=(.seq (codeAt [0] b23) (.seq (codeAt [1,0] b23) (.cond (.tmp 10) (.seq (codeAt [1,1,0,0] b23) (codeAt [1,1,0,1] b23)) .skip)))
noncomputable def g23_p0 (R:Type) (t0:Option (Nat × Nat)) (t1_0:Int) (t1_1:Int) (H:Heap) (kN:Heap→Option R):Option R :=
  (t0).bind fun q1 =>
  ((H).ldM q1.1 (q1.2 + 1)).bind fun x2 =>
  ((getMap H x2)).bind fun m3 =>
  ((findE Try.prog 57 (V.agg [(V.i .u16 t1_0),(V.i .u32 t1_1)]) m3.1 0)).bind fun q4 =>
  fnd q4 (fun j5 x6 =>
    ((V.asP x6)).bind fun x7 =>
    sel (!(Option.isNone x7)) (
      (t0).bind fun q8 =>
      ((H).ldM q8.1 (q8.2 + 1)).bind fun x9 =>
      evBuiltin Try.prog H .delete [62,57] [(V.m x9),(V.agg [(V.i .u16 t1_0),(V.i .u32 t1_1)])] fun u10 h11 =>
      (t0).bind fun q12 =>
      ((h11).ldSl q12.1 (q12.2 + 2)).bind fun x13 =>
      alo h11 (.cells [(V.i .u16 t1_0),(V.i .u32 t1_1)] 57 false) fun i14 h15 =>
      ((h15).ldSl q12.1 (q12.2 + 2)).bind fun x16 =>
      if V.same (V.sl x13) (V.sl x16) = true then (
        ((slCells h15 2 (Sl.mk (some (i14,0)) 1 (.ex 1)))).bind fun vs19 =>
        appendV h15 57 2 8 x13 (Sl.mk (some (i14,0)) 1 (.ex 1)).len vs19 fun s17 h18 =>
        (t0).bind fun q20 =>
        ((h18).st q20.1 (q20.2 + 2) (V.sl s17)).bind fun h22 =>
        kN h22)
      else (
        none)) (
      kN H)) (
    kN H)
theorem g23_p0_eq {R:Type} (t0:Option (Nat × Nat)) (t1_0:Int) (t1_1:Int) (H:Heap) (K:Ex→Fr→Heap→Option R):ev2 Try.prog E23 loopLim lv23 Try.f23.ntmps kp23 c23_0 [(0,(V.p t0)),(1,(V.agg [(V.i .u16 t1_0),(V.i .u32 t1_1)]))] H K = g23_p0 R t0 t1_0 t1_1 H (fun H=>K .normal [] H):=by kernel_rfl
theorem g23_p0_lin {R S:Type} {k:S→Option R} {t0:Option (Nat × Nat)} {t1_0:Int} {t1_1:Int} {H:Heap} {fkN:Heap→Option R} {gkN:Heap→Option S} (hkN:∀ H,fkN H = (gkN H).bind k):g23_p0 R t0 t1_0 t1_1 H fkN = (g23_p0 S t0 t1_0 t1_1 H gkN).bind k:=by
  delta g23_p0
  repeat' (first | with_reducible (first | exact hkN _ | refine fnd_lin (fun _ _=>?_) ?_ | refine sl_lin ?_ ?_ | refine evBuiltin_lin fun _ _=>?_ | refine alo_lin fun _ _=>?_ | refine il ?_ ?_ | refine appendV_lin fun _ _=>?_ | refine bl fun _=>?_) | exact (rfl:(none:Option R) = (none:Option S).bind k))
noncomputable def g23_r:T23:=fun R t0 t1_0 t1_1 H K =>
  g23_p0 R t0 t1_0 t1_1 H (fun H =>
    K  H)
theorem g23_r_lin:Lin23 (g23_r):=by
  constructor
  intro R S k t0 t1_0 t1_1 H f g h
  exact g23_p0_lin (fun H =>
    h _)
theorem g23_fn {R:Type} (t0:Option (Nat × Nat)) (t1_0:Int) (t1_1:Int) (H:Heap) (K:V→Heap→Option R):evFn2 Try.prog E23 loopLim lv23 Try.f23 kp23 [(V.p t0),(V.agg [(V.i .u16 t1_0),(V.i .u32 t1_1)])] H K = g23_r R t0 t1_0 t1_1 H (fun H=>K (V.tup []) H):=by
  have h0 : ∀ (H : Heap), kFn2 Try.prog Try.f23.results.toList K .normal [] H =
      K (V.tup []) H:=by intros; kernel_rfl
  have e0:=evFn2_code2 (P:=Try.prog) (c:=c23_0) (E:=E23) (lr:=loopLim) (lv:=lv23) (kp:=kp23) (fn:=Try.f23) (args:=[(V.p t0),(V.agg [(V.i .u16 t1_0),(V.i .u32 t1_1)])]) H K (by kernel_rfl) (Nat.le_of_ble_eq_true (by kernel_rfl)) (by kernel_rfl) (by kernel_rfl)
  have e1:ev2 Try.prog E23 loopLim lv23 Try.f23.ntmps kp23 c23_0 (argFr 0 [(V.p t0),(V.agg [(V.i .u16 t1_0),(V.i .u32 t1_1)])]) H (kFn2 Try.prog Try.f23.results.toList K) = ev2 Try.prog E23 loopLim lv23 Try.f23.ntmps kp23 c23_0 [(0,(V.p t0)),(1,(V.agg [(V.i .u16 t1_0),(V.i .u32 t1_1)]))] H (kFn2 Try.prog Try.f23.results.toList K):=by kernel_rfl
  refine (e0.trans e1).trans ?_
  delta g23_r
  exact (g23_p0_eq t0 t1_0 t1_1 H (kFn2 Try.prog Try.f23.results.toList K)).trans (congrArg (g23_p0 R t0 t1_0 t1_1 H) (funext fun H=>h0 H))
theorem g23_ok:FunOK Try.prog 23 (w23 (g23_r)):=by
  refine (runF2_ok (E23_good) mixed lim_ok Try.func23 (by kernel_rfl) lv23 kp23).of_le fun R args H K r hk=>?_
  unfold w23 at hk
  split at hk
  · exact (g23_fn _ _ _ H K).trans hk
  · cases hk
noncomputable def g23:T23:=g23_r
theorem g23_lin:Lin23 g23:=g23_r_lin
theorem ok23:FunOK Try.prog 23 (w23 g23):=g23_ok
def kp24:Nat→Option (List Nat):=kpOf [(0,[0]),(1,[2]),(300000,[2])]
def E24:FEnv:=[]
theorem E24_good:EnvGood Try.prog E24:=(EnvGood.nil _)
def lv24:Nat→Bool:=lvOf []
noncomputable def b24:Code:=Try.f24.body.getD .skip
noncomputable def c24_0:Code:=(.seq (codeAt [0] b24) (.seq (codeAt [1,0] b24) .ret))
noncomputable def g24_p0 (R:Type) (t0:Sl) (H:Heap) (kR:Sl→Heap→Option R):Option R :=
  slOf 2 t0 none (some ((t0.len:Nat):Int)) (some ((t0.len:Nat):Int)) fun s1 =>
  kR s1 H
theorem g24_p0_eq {R:Type} (t0:Sl) (H:Heap) (K:Ex→Fr→Heap→Option R):ev2 Try.prog E24 loopLim lv24 Try.f24.ntmps kp24 c24_0 [(0,(V.sl t0))] H K = g24_p0 R t0 H (fun t2 H=>K .ret [(2,(V.sl t2))] H):=by kernel_rfl
theorem g24_p0_lin {R S:Type} {k:S→Option R} {t0:Sl} {H:Heap} {fkR:Sl→Heap→Option R} {gkR:Sl→Heap→Option S} (hkR:∀ t2 H,fkR t2 H = (gkR t2 H).bind k):g24_p0 R t0 H fkR = (g24_p0 S t0 H gkR).bind k:=by
  delta g24_p0; exact (
    slOf_lin fun s1 =>
    hkR _ _)
noncomputable def g24_r:T24:=fun R t0 H K =>
  g24_p0 R t0 H (fun t2 H =>
    K t2 H)
theorem g24_r_lin:Lin24 (g24_r):=by
  constructor
  intro R S k t0 H f g h
  exact g24_p0_lin (fun t2 H =>
    h _ _)
theorem g24_fn {R:Type} (t0:Sl) (H:Heap) (K:V→Heap→Option R):evFn2 Try.prog E24 loopLim lv24 Try.f24 kp24 [(V.sl t0)] H K = g24_r R t0 H (fun r0 H=>K (V.sl r0) H):=by
  have h0 : ∀ (t2 : Sl) (H : Heap), kFn2 Try.prog Try.f24.results.toList K .ret [(2, (V.sl t2))] H =
      K (V.sl t2) H:=by intros; kernel_rfl
  have e0:=evFn2_code2 (P:=Try.prog) (c:=c24_0) (E:=E24) (lr:=loopLim) (lv:=lv24) (kp:=kp24) (fn:=Try.f24) (args:=[(V.sl t0)]) H K (by kernel_rfl) (Nat.le_of_ble_eq_true (by kernel_rfl)) (by kernel_rfl) (by kernel_rfl)
  have e1:ev2 Try.prog E24 loopLim lv24 Try.f24.ntmps kp24 c24_0 (argFr 0 [(V.sl t0)]) H (kFn2 Try.prog Try.f24.results.toList K) = ev2 Try.prog E24 loopLim lv24 Try.f24.ntmps kp24 c24_0 [(0,(V.sl t0))] H (kFn2 Try.prog Try.f24.results.toList K):=by kernel_rfl
  refine (e0.trans e1).trans ?_
  delta g24_r
  exact (g24_p0_eq t0 H (kFn2 Try.prog Try.f24.results.toList K)).trans (congrArg (g24_p0 R t0 H) (funext fun t2=>funext fun H=>h0 t2 H))
theorem g24_ok:FunOK Try.prog 24 (w24 (g24_r)):=by
  refine (runF2_ok (E24_good) mixed lim_ok Try.func24 (by kernel_rfl) lv24 kp24).of_le fun R args H K r hk=>?_
  unfold w24 at hk
  split at hk
  · exact (g24_fn _ H K).trans hk
  · cases hk
noncomputable def g24:T24:=g24_r
theorem g24_lin:Lin24 g24:=g24_r_lin
theorem ok24:FunOK Try.prog 24 (w24 g24):=g24_ok
def kp35:Nat→Option (List Nat):=kpOf [(0,[0]),(1,[2]),(300000,[2])]
def E35:FEnv:=[]
theorem E35_good:EnvGood Try.prog E35:=(EnvGood.nil _)
def lv35:Nat→Bool:=lvOf []
noncomputable def b35:Code:=Try.f35.body.getD .skip
noncomputable def c35_0:Code:=(.seq (codeAt [0] b35) (.seq (codeAt [1,0] b35) .ret))
noncomputable def g35_p0 (R:Type) (t0:Int) (H:Heap) (kR:Bool→Heap→Option R):Option R :=
  kR (t0 != t0) H
theorem g35_p0_eq {R:Type} (t0:Int) (H:Heap) (K:Ex→Fr→Heap→Option R):ev2 Try.prog E35 loopLim lv35 Try.f35.ntmps kp35 c35_0 [(0,(V.i .u16 t0))] H K = g35_p0 R t0 H (fun t2 H=>K .ret [(2,(V.b t2))] H):=by kernel_rfl
theorem g35_p0_lin {R S:Type} {k:S→Option R} {t0:Int} {H:Heap} {fkR:Bool→Heap→Option R} {gkR:Bool→Heap→Option S} (hkR:∀ t2 H,fkR t2 H = (gkR t2 H).bind k):g35_p0 R t0 H fkR = (g35_p0 S t0 H gkR).bind k:=by
  delta g35_p0; exact (
    hkR _ _)
noncomputable def g35_r:T35:=fun R t0 H K =>
  g35_p0 R t0 H (fun t2 H =>
    K t2 H)
theorem g35_r_lin:Lin35 (g35_r):=by
  constructor
  intro R S k t0 H f g h
  exact g35_p0_lin (fun t2 H =>
    h _ _)
theorem g35_fn {R:Type} (t0:Int) (H:Heap) (K:V→Heap→Option R):evFn2 Try.prog E35 loopLim lv35 Try.f35 kp35 [(V.i .u16 t0)] H K = g35_r R t0 H (fun r0 H=>K (V.b r0) H):=by
  have h0 : ∀ (t2 : Bool) (H : Heap), kFn2 Try.prog Try.f35.results.toList K .ret [(2, (V.b t2))] H =
      K (V.b t2) H:=by intros; kernel_rfl
  have e0:=evFn2_code2 (P:=Try.prog) (c:=c35_0) (E:=E35) (lr:=loopLim) (lv:=lv35) (kp:=kp35) (fn:=Try.f35) (args:=[(V.i .u16 t0)]) H K (by kernel_rfl) (Nat.le_of_ble_eq_true (by kernel_rfl)) (by kernel_rfl) (by kernel_rfl)
  have e1:ev2 Try.prog E35 loopLim lv35 Try.f35.ntmps kp35 c35_0 (argFr 0 [(V.i .u16 t0)]) H (kFn2 Try.prog Try.f35.results.toList K) = ev2 Try.prog E35 loopLim lv35 Try.f35.ntmps kp35 c35_0 [(0,(V.i .u16 t0))] H (kFn2 Try.prog Try.f35.results.toList K):=by kernel_rfl
  refine (e0.trans e1).trans ?_
  delta g35_r
  exact (g35_p0_eq t0 H (kFn2 Try.prog Try.f35.results.toList K)).trans (congrArg (g35_p0 R t0 H) (funext fun t2=>funext fun H=>h0 t2 H))
theorem g35_ok:FunOK Try.prog 35 (w35 (g35_r)):=by
  refine (runF2_ok (E35_good) mixed lim_ok Try.func35 (by kernel_rfl) lv35 kp35).of_le fun R args H K r hk=>?_
  unfold w35 at hk
  split at hk
  · exact (g35_fn _ H K).trans hk
  · cases hk
noncomputable def g35:T35:=g35_r
theorem g35_lin:Lin35 g35:=g35_r_lin
theorem ok35:FunOK Try.prog 35 (w35 g35):=g35_ok
def kp28:Nat→Option (List Nat):=kpOf [(0,[0,1]),(1,[0,1,5]),(2,[0,1,5,6]),(3,[0,1,6,11]),(4,[12]),(5,[4]),(6,[4]),(7,[0,1,13]),(8,[4]),(9,[0,1,16]),(10,[4]),(11,[19]),(12,[4]),(13,[4]),(300000,[4]),(400011,[0,1,6]),(400012,[]),(400013,[0,1]),(400016,[0,1]),(400019,[])]
noncomputable def E28:FEnv:=[(35,w35 g35)]
theorem E28_good:EnvGood Try.prog (E28):=((EnvGood.nil _).cons ok35 (w35_lin g35_lin))
def lv28:Nat→Bool:=lvOf []
noncomputable def b28:Code:=Try.f28.body.getD .skip
noncomputable def c28_0:Code:=(.seq (codeAt [0] b28) (.seq (codeAt [1,0] b28) (.seq (codeAt [1,1,0] b28) (.seq (codeAt [1,1,1,0,0] b28) (.seq (.cond (.tmp 11) (.seq (codeAt [1,1,1,0,1,0,0,0] b28) (.seq (.cond (.tmp 12) (.seq (codeAt [1,1,1,0,1,0,0,1,0,0] b28) .ret) .skip) (.seq (codeAt [1,1,1,0,1,0,1,0] b28) .ret))) .skip) (.seq (codeAt [1,1,1,1,0,0] b28) (.seq (.cond (.tmp 13) (.seq (codeAt [1,1,1,1,0,1,0,0] b28) .ret) .skip) (.seq (codeAt [1,1,1,1,1,0,0] b28) (.seq (.cond (.tmp 16) (.seq (codeAt [1,1,1,1,1,0,1,0,0] b28) .ret) .skip) (.seq (codeAt [1,1,1,1,1,1,0,0] b28) (.seq (.cond (.tmp 19) (.seq (codeAt [1,1,1,1,1,1,0,1,0,0] b28) .ret) .skip) (.seq (codeAt [1,1,1,1,1,1,1,0] b28) .ret))))))))))))
noncomputable def g28_p0 (R:Type) (t0:Int) (t1:Int) (H:Heap) (kR:Int→Heap→Option R):Option R :=
  g35 R t0 H fun x1 h2 =>
  g35 R t1 h2 fun x3 h4 =>
  sel x1 (
    sel x3 (
      kR (0:Int) h4) (
      kR (-1:Int) h4)) (
    sel x3 (
      kR (1:Int) h4) (
      sel (decide (t0 < t1)) (
        kR (-1:Int) h4) (
        sel (decide (t0 > t1)) (
          kR (1:Int) h4) (
          kR (0:Int) h4))))
theorem g28_p0_eq {R:Type} (t0:Int) (t1:Int) (H:Heap) (K:Ex→Fr→Heap→Option R):ev2 Try.prog (E28) loopLim lv28 Try.f28.ntmps kp28 c28_0 [(0,(V.i .u16 t0)),(1,(V.i .u16 t1))] H K = g28_p0 R t0 t1 H (fun t4 H=>K .ret [(4,(V.i .i64 t4))] H):=by kernel_rfl
theorem g28_p0_lin {R S:Type} {k:S→Option R} {t0:Int} {t1:Int} {H:Heap} {fkR:Int→Heap→Option R} {gkR:Int→Heap→Option S} (hkR:∀ t4 H,fkR t4 H = (gkR t4 H).bind k):g28_p0 R t0 t1 H fkR = (g28_p0 S t0 t1 H gkR).bind k:=by
  delta g28_p0; exact (
    g35_lin.l fun x1 h2 =>
    g35_lin.l fun x3 h4 =>
    sl_lin (
      sl_lin (
        hkR _ _) (
        hkR _ _)) (
      sl_lin (
        hkR _ _) (
        sl_lin (
          hkR _ _) (
          sl_lin (
            hkR _ _) (
            hkR _ _)))))
noncomputable def g28_r:T28:=fun R t0 t1 H K =>
  g28_p0 R t0 t1 H (fun t4 H =>
    K t4 H)
theorem g28_r_lin:Lin28 (g28_r):=by
  constructor
  intro R S k t0 t1 H f g h
  exact g28_p0_lin (fun t4 H =>
    h _ _)
theorem g28_fn {R:Type} (t0:Int) (t1:Int) (H:Heap) (K:V→Heap→Option R):evFn2 Try.prog (E28) loopLim lv28 Try.f28 kp28 [(V.i .u16 t0),(V.i .u16 t1)] H K = g28_r R t0 t1 H (fun r0 H=>K (V.i .i64 r0) H):=by
  have h0 : ∀ (t4 : Int) (H : Heap), kFn2 Try.prog Try.f28.results.toList K .ret [(4, (V.i .i64 t4))] H =
      K (V.i .i64 t4) H:=by intros; kernel_rfl
  have e0:=evFn2_code2 (P:=Try.prog) (c:=c28_0) (E:=(E28)) (lr:=loopLim) (lv:=lv28) (kp:=kp28) (fn:=Try.f28) (args:=[(V.i .u16 t0),(V.i .u16 t1)]) H K (by kernel_rfl) (Nat.le_of_ble_eq_true (by kernel_rfl)) (by kernel_rfl) (by kernel_rfl)
  have e1:ev2 Try.prog (E28) loopLim lv28 Try.f28.ntmps kp28 c28_0 (argFr 0 [(V.i .u16 t0),(V.i .u16 t1)]) H (kFn2 Try.prog Try.f28.results.toList K) = ev2 Try.prog (E28) loopLim lv28 Try.f28.ntmps kp28 c28_0 [(0,(V.i .u16 t0)),(1,(V.i .u16 t1))] H (kFn2 Try.prog Try.f28.results.toList K):=by kernel_rfl
  refine (e0.trans e1).trans ?_
  delta g28_r
  exact (g28_p0_eq t0 t1 H (kFn2 Try.prog Try.f28.results.toList K)).trans (congrArg (g28_p0 R t0 t1 H) (funext fun t4=>funext fun H=>h0 t4 H))
theorem g28_ok:FunOK Try.prog 28 (w28 (g28_r)):=by
  refine (runF2_ok (E28_good) mixed lim_ok Try.func28 (by kernel_rfl) lv28 kp28).of_le fun R args H K r hk=>?_
  unfold w28 at hk
  split at hk
  · exact (g28_fn _ _ H K).trans hk
  · cases hk
noncomputable def g28:T28:=g28_r
theorem g28_lin:Lin28 g28:=g28_r_lin
theorem ok28:FunOK Try.prog 28 (w28 g28):=g28_ok
def kp36:Nat→Option (List Nat):=kpOf [(0,[0]),(1,[2]),(300000,[2])]
def E36:FEnv:=[]
theorem E36_good:EnvGood Try.prog E36:=(EnvGood.nil _)
def lv36:Nat→Bool:=lvOf []
noncomputable def b36:Code:=Try.f36.body.getD .skip
noncomputable def c36_0:Code:=(.seq (codeAt [0] b36) (.seq (codeAt [1,0] b36) .ret))
noncomputable def g36_p0 (R:Type) (t0:Int) (H:Heap) (kR:Bool→Heap→Option R):Option R :=
  kR (t0 != t0) H
theorem g36_p0_eq {R:Type} (t0:Int) (H:Heap) (K:Ex→Fr→Heap→Option R):ev2 Try.prog E36 loopLim lv36 Try.f36.ntmps kp36 c36_0 [(0,(V.i .u32 t0))] H K = g36_p0 R t0 H (fun t2 H=>K .ret [(2,(V.b t2))] H):=by kernel_rfl
theorem g36_p0_lin {R S:Type} {k:S→Option R} {t0:Int} {H:Heap} {fkR:Bool→Heap→Option R} {gkR:Bool→Heap→Option S} (hkR:∀ t2 H,fkR t2 H = (gkR t2 H).bind k):g36_p0 R t0 H fkR = (g36_p0 S t0 H gkR).bind k:=by
  delta g36_p0; exact (
    hkR _ _)
noncomputable def g36_r:T36:=fun R t0 H K =>
  g36_p0 R t0 H (fun t2 H =>
    K t2 H)
theorem g36_r_lin:Lin36 (g36_r):=by
  constructor
  intro R S k t0 H f g h
  exact g36_p0_lin (fun t2 H =>
    h _ _)
theorem g36_fn {R:Type} (t0:Int) (H:Heap) (K:V→Heap→Option R):evFn2 Try.prog E36 loopLim lv36 Try.f36 kp36 [(V.i .u32 t0)] H K = g36_r R t0 H (fun r0 H=>K (V.b r0) H):=by
  have h0 : ∀ (t2 : Bool) (H : Heap), kFn2 Try.prog Try.f36.results.toList K .ret [(2, (V.b t2))] H =
      K (V.b t2) H:=by intros; kernel_rfl
  have e0:=evFn2_code2 (P:=Try.prog) (c:=c36_0) (E:=E36) (lr:=loopLim) (lv:=lv36) (kp:=kp36) (fn:=Try.f36) (args:=[(V.i .u32 t0)]) H K (by kernel_rfl) (Nat.le_of_ble_eq_true (by kernel_rfl)) (by kernel_rfl) (by kernel_rfl)
  have e1:ev2 Try.prog E36 loopLim lv36 Try.f36.ntmps kp36 c36_0 (argFr 0 [(V.i .u32 t0)]) H (kFn2 Try.prog Try.f36.results.toList K) = ev2 Try.prog E36 loopLim lv36 Try.f36.ntmps kp36 c36_0 [(0,(V.i .u32 t0))] H (kFn2 Try.prog Try.f36.results.toList K):=by kernel_rfl
  refine (e0.trans e1).trans ?_
  delta g36_r
  exact (g36_p0_eq t0 H (kFn2 Try.prog Try.f36.results.toList K)).trans (congrArg (g36_p0 R t0 H) (funext fun t2=>funext fun H=>h0 t2 H))
theorem g36_ok:FunOK Try.prog 36 (w36 (g36_r)):=by
  refine (runF2_ok (E36_good) mixed lim_ok Try.func36 (by kernel_rfl) lv36 kp36).of_le fun R args H K r hk=>?_
  unfold w36 at hk
  split at hk
  · exact (g36_fn _ H K).trans hk
  · cases hk
noncomputable def g36:T36:=g36_r
theorem g36_lin:Lin36 g36:=g36_r_lin
theorem ok36:FunOK Try.prog 36 (w36 g36):=g36_ok
def kp29:Nat→Option (List Nat):=kpOf [(0,[0,1]),(1,[0,1,5]),(2,[0,1,5,6]),(3,[0,1,6,11]),(4,[12]),(5,[4]),(6,[4]),(7,[0,1,13]),(8,[4]),(9,[0,1,16]),(10,[4]),(11,[19]),(12,[4]),(13,[4]),(300000,[4]),(400011,[0,1,6]),(400012,[]),(400013,[0,1]),(400016,[0,1]),(400019,[])]
noncomputable def E29:FEnv:=[(36,w36 g36)]
theorem E29_good:EnvGood Try.prog (E29):=((EnvGood.nil _).cons ok36 (w36_lin g36_lin))
def lv29:Nat→Bool:=lvOf []
noncomputable def b29:Code:=Try.f29.body.getD .skip
noncomputable def c29_0:Code:=(.seq (codeAt [0] b29) (.seq (codeAt [1,0] b29) (.seq (codeAt [1,1,0] b29) (.seq (codeAt [1,1,1,0,0] b29) (.seq (.cond (.tmp 11) (.seq (codeAt [1,1,1,0,1,0,0,0] b29) (.seq (.cond (.tmp 12) (.seq (codeAt [1,1,1,0,1,0,0,1,0,0] b29) .ret) .skip) (.seq (codeAt [1,1,1,0,1,0,1,0] b29) .ret))) .skip) (.seq (codeAt [1,1,1,1,0,0] b29) (.seq (.cond (.tmp 13) (.seq (codeAt [1,1,1,1,0,1,0,0] b29) .ret) .skip) (.seq (codeAt [1,1,1,1,1,0,0] b29) (.seq (.cond (.tmp 16) (.seq (codeAt [1,1,1,1,1,0,1,0,0] b29) .ret) .skip) (.seq (codeAt [1,1,1,1,1,1,0,0] b29) (.seq (.cond (.tmp 19) (.seq (codeAt [1,1,1,1,1,1,0,1,0,0] b29) .ret) .skip) (.seq (codeAt [1,1,1,1,1,1,1,0] b29) .ret))))))))))))
noncomputable def g29_p0 (R:Type) (t0:Int) (t1:Int) (H:Heap) (kR:Int→Heap→Option R):Option R :=
  g36 R t0 H fun x1 h2 =>
  g36 R t1 h2 fun x3 h4 =>
  sel x1 (
    sel x3 (
      kR (0:Int) h4) (
      kR (-1:Int) h4)) (
    sel x3 (
      kR (1:Int) h4) (
      sel (decide (t0 < t1)) (
        kR (-1:Int) h4) (
        sel (decide (t0 > t1)) (
          kR (1:Int) h4) (
          kR (0:Int) h4))))
theorem g29_p0_eq {R:Type} (t0:Int) (t1:Int) (H:Heap) (K:Ex→Fr→Heap→Option R):ev2 Try.prog (E29) loopLim lv29 Try.f29.ntmps kp29 c29_0 [(0,(V.i .u32 t0)),(1,(V.i .u32 t1))] H K = g29_p0 R t0 t1 H (fun t4 H=>K .ret [(4,(V.i .i64 t4))] H):=by kernel_rfl
theorem g29_p0_lin {R S:Type} {k:S→Option R} {t0:Int} {t1:Int} {H:Heap} {fkR:Int→Heap→Option R} {gkR:Int→Heap→Option S} (hkR:∀ t4 H,fkR t4 H = (gkR t4 H).bind k):g29_p0 R t0 t1 H fkR = (g29_p0 S t0 t1 H gkR).bind k:=by
  delta g29_p0; exact (
    g36_lin.l fun x1 h2 =>
    g36_lin.l fun x3 h4 =>
    sl_lin (
      sl_lin (
        hkR _ _) (
        hkR _ _)) (
      sl_lin (
        hkR _ _) (
        sl_lin (
          hkR _ _) (
          sl_lin (
            hkR _ _) (
            hkR _ _)))))
noncomputable def g29_r:T29:=fun R t0 t1 H K =>
  g29_p0 R t0 t1 H (fun t4 H =>
    K t4 H)
theorem g29_r_lin:Lin29 (g29_r):=by
  constructor
  intro R S k t0 t1 H f g h
  exact g29_p0_lin (fun t4 H =>
    h _ _)
theorem g29_fn {R:Type} (t0:Int) (t1:Int) (H:Heap) (K:V→Heap→Option R):evFn2 Try.prog (E29) loopLim lv29 Try.f29 kp29 [(V.i .u32 t0),(V.i .u32 t1)] H K = g29_r R t0 t1 H (fun r0 H=>K (V.i .i64 r0) H):=by
  have h0 : ∀ (t4 : Int) (H : Heap), kFn2 Try.prog Try.f29.results.toList K .ret [(4, (V.i .i64 t4))] H =
      K (V.i .i64 t4) H:=by intros; kernel_rfl
  have e0:=evFn2_code2 (P:=Try.prog) (c:=c29_0) (E:=(E29)) (lr:=loopLim) (lv:=lv29) (kp:=kp29) (fn:=Try.f29) (args:=[(V.i .u32 t0),(V.i .u32 t1)]) H K (by kernel_rfl) (Nat.le_of_ble_eq_true (by kernel_rfl)) (by kernel_rfl) (by kernel_rfl)
  have e1:ev2 Try.prog (E29) loopLim lv29 Try.f29.ntmps kp29 c29_0 (argFr 0 [(V.i .u32 t0),(V.i .u32 t1)]) H (kFn2 Try.prog Try.f29.results.toList K) = ev2 Try.prog (E29) loopLim lv29 Try.f29.ntmps kp29 c29_0 [(0,(V.i .u32 t0)),(1,(V.i .u32 t1))] H (kFn2 Try.prog Try.f29.results.toList K):=by kernel_rfl
  refine (e0.trans e1).trans ?_
  delta g29_r
  exact (g29_p0_eq t0 t1 H (kFn2 Try.prog Try.f29.results.toList K)).trans (congrArg (g29_p0 R t0 t1 H) (funext fun t4=>funext fun H=>h0 t4 H))
theorem g29_ok:FunOK Try.prog 29 (w29 (g29_r)):=by
  refine (runF2_ok (E29_good) mixed lim_ok Try.func29 (by kernel_rfl) lv29 kp29).of_le fun R args H K r hk=>?_
  unfold w29 at hk
  split at hk
  · exact (g29_fn _ _ H K).trans hk
  · cases hk
noncomputable def g29:T29:=g29_r
theorem g29_lin:Lin29 g29:=g29_r_lin
theorem ok29:FunOK Try.prog 29 (w29 g29):=g29_ok
def kp27:Nat→Option (List Nat):=kpOf [(0,[0]),(1,[0,3]),(2,[3,6,7,8]),(3,[3,6,7,8,9]),(4,[3,5,6,7,8]),(5,[3,5,6,7,8,14]),(6,[2]),(7,[3,6,7,8]),(8,[2]),(100000,[3]),(100001,[3,6,7,8]),(200000,[3,6,7,8]),(200001,[3,6,7,8]),(300000,[2]),(400009,[3,6,7,8]),(400014,[3,6,7,8])]
def E27:FEnv:=[]
theorem E27_good:EnvGood Try.prog E27:=(EnvGood.nil _)
def lv27:Nat→Bool:=lvOf []
noncomputable def b27:Code:=Try.f27.body.getD .skip
noncomputable def c27_0:Code:=(.seq (codeAt [1,1,0,1,0,0,0] b27) (.seq (.cond (.tmp 9) .skip (.exit 0)) (.seq (.block 1 (.seq (codeAt [1,1,0,1,0,0,1,1,0,0,0] b27) (.seq (codeAt [1,1,0,1,0,0,1,1,0,0,1,0] b27) (.cond (.tmp 14) (.seq (codeAt [1,1,0,1,0,0,1,1,0,0,1,1,0,0] b27) .ret) .skip)))) (codeAt [1,1,0,1,0,0,1,1,1] b27))))
noncomputable def c27_1:Code:=(.loop c27_0)
noncomputable def c27_2:Code:=(.block 0 c27_1)
noncomputable def c27_3:Code:=(.seq (codeAt [1,1,1,0] b27) .ret)
noncomputable def c27_4:Code:=(.seq c27_2 c27_3)
noncomputable def c27_5:Code:=(.seq (codeAt [0] b27) (.seq (codeAt [1,0] b27) (.seq (codeAt [1,1,0,0] b27) c27_4)))
noncomputable def g27_p0 (R:Type) (t0:Sl) (H:Heap) (kN:Int→Sl→Int→Int→Heap→Option R):Option R :=
  kN (0:Int) t0 ((t0.len:Nat):Int) (0:Int) H
theorem g27_p0_eq {R:Type} (c2:Code) (t0:Sl) (H:Heap) (K:Ex→Fr→Heap→Option R):ev2 Try.prog E27 loopLim lv27 Try.f27.ntmps kp27 (.seq (codeAt [0] b27) (.seq (codeAt [1,0] b27) (.seq (codeAt [1,1,0,0] b27) c2))) [(0,(V.sl t0))] H K = g27_p0 R t0 H (fun t3 t6 t7 t8 H=>ev2 Try.prog E27 loopLim lv27 Try.f27.ntmps kp27 c2 [(3,(V.i .i64 t3)),(6,(V.sl t6)),(7,(V.i .i64 t7)),(8,(V.i .i64 t8))] H K):=by kernel_rfl
theorem g27_p0_lin {R S:Type} {k:S→Option R} {t0:Sl} {H:Heap} {fkN:Int→Sl→Int→Int→Heap→Option R} {gkN:Int→Sl→Int→Int→Heap→Option S} (hkN:∀ t3 t6 t7 t8 H,fkN t3 t6 t7 t8 H = (gkN t3 t6 t7 t8 H).bind k):g27_p0 R t0 H fkN = (g27_p0 S t0 H gkN).bind k:=by
  delta g27_p0; exact (
    hkN _ _ _ _ _)
noncomputable def g27_p1 (R:Type) (t3:Int) (t6:Sl) (t7:Int) (t8:Int) (H:Heap) (kN:Int→Sl→Int→Int→Heap→Option R) (kE0:Int→Heap→Option R) (kR:Int→Heap→Option R):Option R :=
  sel (decide (t8 < t7)) (
    if 0 ≤ t8∧t8 < ((t6.len:Nat):Int) then (
      (t6.a).bind fun q1 =>
      ((H).ldI .i64 q1.1 (q1.2 + Int.toNat t8 * 1)).bind fun x2 =>
      sel (x2 != t3) (
        kR x2 H) (
        kN t3 t6 t7 (IntKind.wrap .i64 (t8 + (1:Int))) H))
    else (
      none)) (
    kE0 t3 H)
theorem g27_p1_eq {R:Type} (t3:Int) (t6:Sl) (t7:Int) (t8:Int) (H:Heap) (K:Ex→Fr→Heap→Option R):ev2 Try.prog E27 loopLim lv27 Try.f27.ntmps kp27 c27_0 [(3,(V.i .i64 t3)),(6,(V.sl t6)),(7,(V.i .i64 t7)),(8,(V.i .i64 t8))] H K = g27_p1 R t3 t6 t7 t8 H (fun t3 t6 t7 t8 H=>K .normal [(3,(V.i .i64 t3)),(6,(V.sl t6)),(7,(V.i .i64 t7)),(8,(V.i .i64 t8))] H) (fun t3 H=>K (.exit 0) [(3,(V.i .i64 t3))] H) (fun t2 H=>K .ret [(2,(V.i .i64 t2))] H):=by kernel_rfl
theorem g27_p1_lin {R S:Type} {k:S→Option R} {t3:Int} {t6:Sl} {t7:Int} {t8:Int} {H:Heap} {fkN:Int→Sl→Int→Int→Heap→Option R} {gkN:Int→Sl→Int→Int→Heap→Option S} {fkE0:Int→Heap→Option R} {gkE0:Int→Heap→Option S} {fkR:Int→Heap→Option R} {gkR:Int→Heap→Option S} (hkN:∀ t3 t6 t7 t8 H,fkN t3 t6 t7 t8 H = (gkN t3 t6 t7 t8 H).bind k) (hkE0:∀ t3 H,fkE0 t3 H = (gkE0 t3 H).bind k) (hkR:∀ t2 H,fkR t2 H = (gkR t2 H).bind k):g27_p1 R t3 t6 t7 t8 H fkN fkE0 fkR = (g27_p1 S t3 t6 t7 t8 H gkN gkE0 gkR).bind k:=by
  delta g27_p1; exact (
    sl_lin (
      il (
        bl fun q1 =>
        bl fun x2 =>
        sl_lin (
          hkR _ _) (
          hkN _ _ _ _ _)) (
        rfl)) (
      hkE0 _ _))
abbrev g27_p2_S:=Int × Sl × Int × Int
abbrev g27_p2_O:=Sum (Int) (Int)
def g27_p2_es (s:g27_p2_S):Fr:=[(3,(V.i .i64 s.1)),(6,(V.sl s.2.1)),(7,(V.i .i64 s.2.2.1)),(8,(V.i .i64 s.2.2.2))]
def g27_p2_er:g27_p2_O→Ex × Fr
  | (.inl r)=>((.exit 0),[(3,(V.i .i64 r))])
  | (.inr r)=>(.ret,[(2,(V.i .i64 r))])
noncomputable def g27_p2_b (s:g27_p2_S) (H:Heap):Option (Rd g27_p2_S g27_p2_O × Heap) :=
  g27_p1 _ s.1 s.2.1 s.2.2.1 s.2.2.2 H (fun t3 t6 t7 t8 H=>some (.go (t3,t6,t7,t8),H)) (fun t3 H=>some (.up (.inl t3),H)) (fun t2 H=>some (.up (.inr t2),H))
noncomputable def g27_p2 (R:Type) (t3:Int) (t6:Sl) (t7:Int) (t8:Int) (H:Heap) (kE0:Int→Heap→Option R) (kR:Int→Heap→Option R):Option R :=
  (tlim (g27_p2_b) (t3,t6,t7,t8) H).bind fun p=>cas p.1 (fun r=>kE0 r p.2) (fun r0=>kR r0 p.2)
theorem g27_p2_lin {R S:Type} {k:S→Option R} {t3:Int} {t6:Sl} {t7:Int} {t8:Int} {H:Heap} {fkE0:Int→Heap→Option R} {gkE0:Int→Heap→Option S} {fkR:Int→Heap→Option R} {gkR:Int→Heap→Option S} (hkE0:∀ t3 H,fkE0 t3 H = (gkE0 t3 H).bind k) (hkR:∀ t2 H,fkR t2 H = (gkR t2 H).bind k):g27_p2 R t3 t6 t7 t8 H fkE0 fkR = (g27_p2 S t3 t6 t7 t8 H gkE0 gkR).bind k:=by
  exact bl fun p=>cas_lin (fun _=>hkE0 _ _) (fun _=>hkR _ _)
theorem g27_p2_eq {R:Type} (t3:Int) (t6:Sl) (t7:Int) (t8:Int) (H:Heap) (K:Ex→Fr→Heap→Option R):ev2 Try.prog E27 loopLim lv27 Try.f27.ntmps kp27 c27_1 [(3,(V.i .i64 t3)),(6,(V.sl t6)),(7,(V.i .i64 t7)),(8,(V.i .i64 t8))] H K = g27_p2 R t3 t6 t7 t8 H (fun t3 H=>K (.exit 0) [(3,(V.i .i64 t3))] H) (fun t2 H=>K .ret [(2,(V.i .i64 t2))] H):=by
  delta c27_1
  delta g27_p2
  refine (ev2_tlim (b:=g27_p2_b) (es:=g27_p2_es) (er:=g27_p2_er) (by rintro (r | r) <;> exact nofun) (fun s H=>?_) (t3,t6,t7,t8) H K).trans (bc fun p=>by rcases p with ⟨(r | r),H⟩ <;> rfl)
  exact (g27_p1_eq s.1 s.2.1 s.2.2.1 s.2.2.2 H ret3).trans (g27_p1_lin (fun _ _ _ _ _=>rfl) (fun _ _=>rfl) (fun _ _=>rfl))
noncomputable def g27_p3 (R:Type) (t3:Int) (t6:Sl) (t7:Int) (t8:Int) (H:Heap) (kN:Int→Heap→Option R) (kR:Int→Heap→Option R):Option R :=
  g27_p2 R t3 t6 t7 t8 H (fun t3 H=>kN t3 H) (fun t2 H=>kR t2 H)
theorem g27_p3_lin {R S:Type} {k:S→Option R} {t3:Int} {t6:Sl} {t7:Int} {t8:Int} {H:Heap} {fkN:Int→Heap→Option R} {gkN:Int→Heap→Option S} {fkR:Int→Heap→Option R} {gkR:Int→Heap→Option S} (hkN:∀ t3 H,fkN t3 H = (gkN t3 H).bind k) (hkR:∀ t2 H,fkR t2 H = (gkR t2 H).bind k):g27_p3 R t3 t6 t7 t8 H fkN fkR = (g27_p3 S t3 t6 t7 t8 H gkN gkR).bind k:=by
  exact g27_p2_lin (fun _ _=>hkN _ _) (fun _ _=>hkR _ _)
theorem g27_p3_eq {R:Type} (t3:Int) (t6:Sl) (t7:Int) (t8:Int) (H:Heap) (K:Ex→Fr→Heap→Option R):ev2 Try.prog E27 loopLim lv27 Try.f27.ntmps kp27 c27_2 [(3,(V.i .i64 t3)),(6,(V.sl t6)),(7,(V.i .i64 t7)),(8,(V.i .i64 t8))] H K = g27_p3 R t3 t6 t7 t8 H (fun t3 H=>K .normal [(3,(V.i .i64 t3))] H) (fun t2 H=>K .ret [(2,(V.i .i64 t2))] H):=by
  delta c27_2
  rw [ev2_block]
  delta g27_p3
  exact (g27_p2_eq t3 t6 t7 t8 H (kBlock kp27 0 K))
noncomputable def g27_p4 (R:Type) (t3:Int) (H:Heap) (kR:Int→Heap→Option R):Option R :=
  kR t3 H
theorem g27_p4_eq {R:Type} (t3:Int) (H:Heap) (K:Ex→Fr→Heap→Option R):ev2 Try.prog E27 loopLim lv27 Try.f27.ntmps kp27 c27_3 [(3,(V.i .i64 t3))] H K = g27_p4 R t3 H (fun t2 H=>K .ret [(2,(V.i .i64 t2))] H):=by kernel_rfl
theorem g27_p4_lin {R S:Type} {k:S→Option R} {t3:Int} {H:Heap} {fkR:Int→Heap→Option R} {gkR:Int→Heap→Option S} (hkR:∀ t2 H,fkR t2 H = (gkR t2 H).bind k):g27_p4 R t3 H fkR = (g27_p4 S t3 H gkR).bind k:=by
  delta g27_p4; exact (
    hkR _ _)
noncomputable def g27_p5 (R:Type) (t3:Int) (t6:Sl) (t7:Int) (t8:Int) (H:Heap) (kR:Int→Heap→Option R):Option R :=
  g27_p3 R t3 t6 t7 t8 H (fun t3 H=>g27_p4 R t3 H (fun t2 H=>kR t2 H)) (fun t2 H=>kR t2 H)
theorem g27_p5_lin {R S:Type} {k:S→Option R} {t3:Int} {t6:Sl} {t7:Int} {t8:Int} {H:Heap} {fkR:Int→Heap→Option R} {gkR:Int→Heap→Option S} (hkR:∀ t2 H,fkR t2 H = (gkR t2 H).bind k):g27_p5 R t3 t6 t7 t8 H fkR = (g27_p5 S t3 t6 t7 t8 H gkR).bind k:=by
  exact g27_p3_lin (fun _ _=>g27_p4_lin (fun _ _=>hkR _ _)) (fun _ _=>hkR _ _)
theorem g27_p5_eq {R:Type} (t3:Int) (t6:Sl) (t7:Int) (t8:Int) (H:Heap) (K:Ex→Fr→Heap→Option R):ev2 Try.prog E27 loopLim lv27 Try.f27.ntmps kp27 c27_4 [(3,(V.i .i64 t3)),(6,(V.sl t6)),(7,(V.i .i64 t7)),(8,(V.i .i64 t8))] H K = g27_p5 R t3 t6 t7 t8 H (fun t2 H=>K .ret [(2,(V.i .i64 t2))] H):=by
  delta c27_4
  rw [ev2_seq]
  delta g27_p5
  exact (g27_p3_eq t3 t6 t7 t8 H (kSeq (fun fr H=>ev2 Try.prog E27 loopLim lv27 Try.f27.ntmps kp27 c27_3 fr H K) K)).trans (congr (congrArg (g27_p3 R t3 t6 t7 t8 H) (funext fun t3=>funext fun H=>(kSeq_n _ _ _ _).trans (g27_p4_eq t3 H K))) rfl)
noncomputable def g27_p6 (R:Type) (t0:Sl) (H:Heap) (kR:Int→Heap→Option R):Option R :=
  g27_p0 R t0 H (fun t3 t6 t7 t8 H=>g27_p5 R t3 t6 t7 t8 H (fun t2 H=>kR t2 H))
theorem g27_p6_lin {R S:Type} {k:S→Option R} {t0:Sl} {H:Heap} {fkR:Int→Heap→Option R} {gkR:Int→Heap→Option S} (hkR:∀ t2 H,fkR t2 H = (gkR t2 H).bind k):g27_p6 R t0 H fkR = (g27_p6 S t0 H gkR).bind k:=by
  exact g27_p0_lin (fun _ _ _ _ _=>g27_p5_lin (fun _ _=>hkR _ _))
theorem g27_p6_eq {R:Type} (t0:Sl) (H:Heap) (K:Ex→Fr→Heap→Option R):ev2 Try.prog E27 loopLim lv27 Try.f27.ntmps kp27 c27_5 [(0,(V.sl t0))] H K = g27_p6 R t0 H (fun t2 H=>K .ret [(2,(V.i .i64 t2))] H):=by
  delta c27_5
  delta g27_p6
  exact (g27_p0_eq _ t0 H K).trans (congrArg (g27_p0 R t0 H) (funext fun t3=>funext fun t6=>funext fun t7=>funext fun t8=>funext fun H=>g27_p5_eq t3 t6 t7 t8 H K))
noncomputable def g27_r:T27:=fun R t0 H K =>
  g27_p6 R t0 H (fun t2 H =>
    K t2 H)
theorem g27_r_lin:Lin27 (g27_r):=by
  constructor
  intro R S k t0 H f g h
  exact g27_p6_lin (fun t2 H =>
    h _ _)
theorem g27_fn {R:Type} (t0:Sl) (H:Heap) (K:V→Heap→Option R):evFn2 Try.prog E27 loopLim lv27 Try.f27 kp27 [(V.sl t0)] H K = g27_r R t0 H (fun r0 H=>K (V.i .i64 r0) H):=by
  have h0 : ∀ (t2 : Int) (H : Heap), kFn2 Try.prog Try.f27.results.toList K .ret [(2, (V.i .i64 t2))] H =
      K (V.i .i64 t2) H:=by intros; kernel_rfl
  have e0:=evFn2_code2 (P:=Try.prog) (c:=c27_5) (E:=E27) (lr:=loopLim) (lv:=lv27) (kp:=kp27) (fn:=Try.f27) (args:=[(V.sl t0)]) H K (by kernel_rfl) (Nat.le_of_ble_eq_true (by kernel_rfl)) (by kernel_rfl) (by kernel_rfl)
  have e1:ev2 Try.prog E27 loopLim lv27 Try.f27.ntmps kp27 c27_5 (argFr 0 [(V.sl t0)]) H (kFn2 Try.prog Try.f27.results.toList K) = ev2 Try.prog E27 loopLim lv27 Try.f27.ntmps kp27 c27_5 [(0,(V.sl t0))] H (kFn2 Try.prog Try.f27.results.toList K):=by kernel_rfl
  refine (e0.trans e1).trans ?_
  delta g27_r
  exact (g27_p6_eq t0 H (kFn2 Try.prog Try.f27.results.toList K)).trans (congrArg (g27_p6 R t0 H) (funext fun t2=>funext fun H=>h0 t2 H))
theorem g27_ok:FunOK Try.prog 27 (w27 (g27_r)):=by
  refine (runF2_ok (E27_good) mixed lim_ok Try.func27 (by kernel_rfl) lv27 kp27).of_le fun R args H K r hk=>?_
  unfold w27 at hk
  split at hk
  · exact (g27_fn _ H K).trans hk
  · cases hk
noncomputable def g27:T27:=g27_r
theorem g27_lin:Lin27 g27:=g27_r_lin
theorem ok27:FunOK Try.prog 27 (w27 g27):=g27_ok
def kp26:Nat→Option (List Nat):=kpOf [(0,[2,3,500002,500003,1000002,1000003]),(1,[4]),(300000,[4])]
noncomputable def E26:FEnv:=[(28,w28 g28),(29,w29 g29),(27,w27 g27)]
theorem E26_good:EnvGood Try.prog (E26):=((((EnvGood.nil _).cons ok27 (w27_lin g27_lin)).cons ok29 (w29_lin g29_lin)).cons ok28 (w28_lin g28_lin))
def lv26:Nat→Bool:=lvOf [2,3]
noncomputable def b26:Code:=Try.f26.body.getD .skip
noncomputable def c26_0:Code:=(.seq (codeAt [0] b26) (.seq (codeAt [1,0] b26) .ret))
noncomputable def g26_p0 (R:Type) (t0_0:Int) (t0_1:Int) (t1_0:Int) (t1_1:Int) (H:Heap) (kR:Int→Heap→Option R):Option R :=
  g28 R t0_0 t1_0 H fun x1 h2 =>
  g29 R t0_1 t1_1 h2 fun x3 h4 =>
  alo h4 (.cells [(V.i .i64 x1),(V.i .i64 x3)] 3 false) fun i5 h6 =>
  g27 R (Sl.mk (some (i5,0)) 2 (.ex 2)) h6 fun x7 h8 =>
  kR x7 h8
theorem g26_p0_eq {R:Type} (t0_0:Int) (t0_1:Int) (t1_0:Int) (t1_1:Int) (H:Heap) (K:Ex→Fr→Heap→Option R):ev2 Try.prog (E26) loopLim lv26 Try.f26.ntmps kp26 c26_0 [(0,(V.agg [(V.i .u16 t0_0),(V.i .u32 t0_1)])),(1,(V.agg [(V.i .u16 t1_0),(V.i .u32 t1_1)]))] H K = g26_p0 R t0_0 t0_1 t1_0 t1_1 H (fun t4 H=>K .ret [(4,(V.i .i64 t4))] H):=by kernel_rfl
noncomputable def g26_r:T26:=fun R t0_0 t0_1 t1_0 t1_1 H K =>
  g26_p0 R t0_0 t0_1 t1_0 t1_1 H (fun t4 H =>
    K t4 H)
theorem g26_fn {R:Type} (t0_0:Int) (t0_1:Int) (t1_0:Int) (t1_1:Int) (H:Heap) (K:V→Heap→Option R):evFn2 Try.prog (E26) loopLim lv26 Try.f26 kp26 [(V.agg [(V.i .u16 t0_0),(V.i .u32 t0_1)]),(V.agg [(V.i .u16 t1_0),(V.i .u32 t1_1)])] H K = g26_r R t0_0 t0_1 t1_0 t1_1 H (fun r0 H=>K (V.i .i64 r0) H):=by
  have h0 : ∀ (t4 : Int) (H : Heap), kFn2 Try.prog Try.f26.results.toList K .ret [(4, (V.i .i64 t4))] H =
      K (V.i .i64 t4) H:=by intros; kernel_rfl
  have e0:=evFn2_code2 (P:=Try.prog) (c:=c26_0) (E:=(E26)) (lr:=loopLim) (lv:=lv26) (kp:=kp26) (fn:=Try.f26) (args:=[(V.agg [(V.i .u16 t0_0),(V.i .u32 t0_1)]),(V.agg [(V.i .u16 t1_0),(V.i .u32 t1_1)])]) H K (by kernel_rfl) (Nat.le_of_ble_eq_true (by kernel_rfl)) (by kernel_rfl) (by kernel_rfl)
  have e1:ev2 Try.prog (E26) loopLim lv26 Try.f26.ntmps kp26 c26_0 (argFr 0 [(V.agg [(V.i .u16 t0_0),(V.i .u32 t0_1)]),(V.agg [(V.i .u16 t1_0),(V.i .u32 t1_1)])]) H (kFn2 Try.prog Try.f26.results.toList K) = ev2 Try.prog (E26) loopLim lv26 Try.f26.ntmps kp26 c26_0 [(0,(V.agg [(V.i .u16 t0_0),(V.i .u32 t0_1)])),(1,(V.agg [(V.i .u16 t1_0),(V.i .u32 t1_1)]))] H (kFn2 Try.prog Try.f26.results.toList K):=by kernel_rfl
  refine (e0.trans e1).trans ?_
  delta g26_r
  exact (g26_p0_eq t0_0 t0_1 t1_0 t1_1 H (kFn2 Try.prog Try.f26.results.toList K)).trans (congrArg (g26_p0 R t0_0 t0_1 t1_0 t1_1 H) (funext fun t4=>funext fun H=>h0 t4 H))
theorem g26_ok:FunOK Try.prog 26 (w26 (g26_r)):=by
  refine (runF2_ok (E26_good) mixed lim_ok Try.func26 (by kernel_rfl) lv26 kp26).of_le fun R args H K r hk=>?_
  unfold w26 at hk
  split at hk
  · exact (g26_fn _ _ _ _ H K).trans hk
  · cases hk
noncomputable def g26:T26:=g26_r
theorem ok26:FunOK Try.prog 26 (w26 g26):=g26_ok
def kp30:Nat→Option (List Nat):=kpOf [(0,[1,500001,1000001]),(1,[1,3,500001,1000001]),(2,[2]),(3,[7]),(4,[2]),(5,[2]),(100000,[]),(200000,[1,500001,1000001]),(300000,[2]),(400003,[]),(400007,[])]
def E30:FEnv:=[]
theorem E30_good:EnvGood Try.prog E30:=(EnvGood.nil _)
def lv30:Nat→Bool:=lvOf [1]
noncomputable def b30:Code:=Try.f30.body.getD .skip
noncomputable def c30_0:Code:=(.seq (codeAt [0] b30) (.seq (.block 0 (.seq (codeAt [1,0,0,0] b30) (.cond (.tmp 3) (.seq (codeAt [1,0,0,1,0,0] b30) .ret) (.seq (codeAt [1,0,0,1,1,0] b30) (.cond (.tmp 7) (.seq (codeAt [1,0,0,1,1,1,0,0] b30) .ret) .skip))))) (.seq (codeAt [1,1,0] b30) .ret)))
noncomputable def g30_p0 (R:Type) (t0_0:Int) (t0_1:Bool) (t0_2:Int) (t0_3:Sl) (H:Heap) (kR:Int→Heap→Option R):Option R :=
  sel (decide (t0_2 ≥ (16:Int))) (
    kR (1:Int) H) (
    sel (decide (((t0_3.len:Nat):Int) > (256:Int))) (
      kR (3:Int) H) (
      kR (0:Int) H))
theorem g30_p0_eq {R:Type} (t0_0:Int) (t0_1:Bool) (t0_2:Int) (t0_3:Sl) (H:Heap) (K:Ex→Fr→Heap→Option R):ev2 Try.prog E30 loopLim lv30 Try.f30.ntmps kp30 c30_0 [(0,(V.agg [(V.i .u32 t0_0),(V.b t0_1),(V.i .u8 t0_2),(V.sl t0_3)]))] H K = g30_p0 R t0_0 t0_1 t0_2 t0_3 H (fun t2 H=>K .ret [(2,(V.i .i64 t2))] H):=by kernel_rfl
theorem g30_p0_lin {R S:Type} {k:S→Option R} {t0_0:Int} {t0_1:Bool} {t0_2:Int} {t0_3:Sl} {H:Heap} {fkR:Int→Heap→Option R} {gkR:Int→Heap→Option S} (hkR:∀ t2 H,fkR t2 H = (gkR t2 H).bind k):g30_p0 R t0_0 t0_1 t0_2 t0_3 H fkR = (g30_p0 S t0_0 t0_1 t0_2 t0_3 H gkR).bind k:=by
  delta g30_p0; exact (
    sl_lin (
      hkR _ _) (
      sl_lin (
        hkR _ _) (
        hkR _ _)))
noncomputable def g30_r:T30:=fun R t0_0 t0_1 t0_2 t0_3 H K =>
  g30_p0 R t0_0 t0_1 t0_2 t0_3 H (fun t2 H =>
    K t2 H)
theorem g30_r_lin:Lin30 (g30_r):=by
  constructor
  intro R S k t0_0 t0_1 t0_2 t0_3 H f g h
  exact g30_p0_lin (fun t2 H =>
    h _ _)
theorem g30_fn {R:Type} (t0_0:Int) (t0_1:Bool) (t0_2:Int) (t0_3:Sl) (H:Heap) (K:V→Heap→Option R):evFn2 Try.prog E30 loopLim lv30 Try.f30 kp30 [(V.agg [(V.i .u32 t0_0),(V.b t0_1),(V.i .u8 t0_2),(V.sl t0_3)])] H K = g30_r R t0_0 t0_1 t0_2 t0_3 H (fun r0 H=>K (V.i .i64 r0) H):=by
  have h0 : ∀ (t2 : Int) (H : Heap), kFn2 Try.prog Try.f30.results.toList K .ret [(2, (V.i .i64 t2))] H =
      K (V.i .i64 t2) H:=by intros; kernel_rfl
  have e0:=evFn2_code2 (P:=Try.prog) (c:=c30_0) (E:=E30) (lr:=loopLim) (lv:=lv30) (kp:=kp30) (fn:=Try.f30) (args:=[(V.agg [(V.i .u32 t0_0),(V.b t0_1),(V.i .u8 t0_2),(V.sl t0_3)])]) H K (by kernel_rfl) (Nat.le_of_ble_eq_true (by kernel_rfl)) (by kernel_rfl) (by kernel_rfl)
  have e1:ev2 Try.prog E30 loopLim lv30 Try.f30.ntmps kp30 c30_0 (argFr 0 [(V.agg [(V.i .u32 t0_0),(V.b t0_1),(V.i .u8 t0_2),(V.sl t0_3)])]) H (kFn2 Try.prog Try.f30.results.toList K) = ev2 Try.prog E30 loopLim lv30 Try.f30.ntmps kp30 c30_0 [(0,(V.agg [(V.i .u32 t0_0),(V.b t0_1),(V.i .u8 t0_2),(V.sl t0_3)]))] H (kFn2 Try.prog Try.f30.results.toList K):=by kernel_rfl
  refine (e0.trans e1).trans ?_
  delta g30_r
  exact (g30_p0_eq t0_0 t0_1 t0_2 t0_3 H (kFn2 Try.prog Try.f30.results.toList K)).trans (congrArg (g30_p0 R t0_0 t0_1 t0_2 t0_3 H) (funext fun t2=>funext fun H=>h0 t2 H))
theorem g30_ok:FunOK Try.prog 30 (w30 (g30_r)):=by
  refine (runF2_ok (E30_good) mixed lim_ok Try.func30 (by kernel_rfl) lv30 kp30).of_le fun R args H K r hk=>?_
  unfold w30 at hk
  split at hk
  · exact (g30_fn _ _ _ _ H K).trans hk
  · cases hk
noncomputable def g30:T30:=g30_r
theorem g30_lin:Lin30 g30:=g30_r_lin
theorem ok30:FunOK Try.prog 30 (w30 g30):=g30_ok
def kp31:Nat→Option (List Nat):=kpOf [(0,[0]),(1,[2]),(300000,[2])]
def E31:FEnv:=[]
theorem E31_good:EnvGood Try.prog E31:=(EnvGood.nil _)
def lv31:Nat→Bool:=lvOf []
noncomputable def b31:Code:=Try.f31.body.getD .skip
noncomputable def c31_0:Code:=(.seq (codeAt [0] b31) (.seq (codeAt [1,0] b31) .ret))
noncomputable def g31_p0 (R:Type) (t0:Sl) (H:Heap) (kR:Sl→Heap→Option R):Option R :=
  slOf 1 t0 none (some ((t0.len:Nat):Int)) (some ((t0.len:Nat):Int)) fun s1 =>
  kR s1 H
theorem g31_p0_eq {R:Type} (t0:Sl) (H:Heap) (K:Ex→Fr→Heap→Option R):ev2 Try.prog E31 loopLim lv31 Try.f31.ntmps kp31 c31_0 [(0,(V.sl t0))] H K = g31_p0 R t0 H (fun t2 H=>K .ret [(2,(V.sl t2))] H):=by kernel_rfl
theorem g31_p0_lin {R S:Type} {k:S→Option R} {t0:Sl} {H:Heap} {fkR:Sl→Heap→Option R} {gkR:Sl→Heap→Option S} (hkR:∀ t2 H,fkR t2 H = (gkR t2 H).bind k):g31_p0 R t0 H fkR = (g31_p0 S t0 H gkR).bind k:=by
  delta g31_p0; exact (
    slOf_lin fun s1 =>
    hkR _ _)
noncomputable def g31_r:T31:=fun R t0 H K =>
  g31_p0 R t0 H (fun t2 H =>
    K t2 H)
theorem g31_r_lin:Lin31 (g31_r):=by
  constructor
  intro R S k t0 H f g h
  exact g31_p0_lin (fun t2 H =>
    h _ _)
theorem g31_fn {R:Type} (t0:Sl) (H:Heap) (K:V→Heap→Option R):evFn2 Try.prog E31 loopLim lv31 Try.f31 kp31 [(V.sl t0)] H K = g31_r R t0 H (fun r0 H=>K (V.sl r0) H):=by
  have h0 : ∀ (t2 : Sl) (H : Heap), kFn2 Try.prog Try.f31.results.toList K .ret [(2, (V.sl t2))] H =
      K (V.sl t2) H:=by intros; kernel_rfl
  have e0:=evFn2_code2 (P:=Try.prog) (c:=c31_0) (E:=E31) (lr:=loopLim) (lv:=lv31) (kp:=kp31) (fn:=Try.f31) (args:=[(V.sl t0)]) H K (by kernel_rfl) (Nat.le_of_ble_eq_true (by kernel_rfl)) (by kernel_rfl) (by kernel_rfl)
  have e1:ev2 Try.prog E31 loopLim lv31 Try.f31.ntmps kp31 c31_0 (argFr 0 [(V.sl t0)]) H (kFn2 Try.prog Try.f31.results.toList K) = ev2 Try.prog E31 loopLim lv31 Try.f31.ntmps kp31 c31_0 [(0,(V.sl t0))] H (kFn2 Try.prog Try.f31.results.toList K):=by kernel_rfl
  refine (e0.trans e1).trans ?_
  delta g31_r
  exact (g31_p0_eq t0 H (kFn2 Try.prog Try.f31.results.toList K)).trans (congrArg (g31_p0 R t0 H) (funext fun t2=>funext fun H=>h0 t2 H))
theorem g31_ok:FunOK Try.prog 31 (w31 (g31_r)):=by
  refine (runF2_ok (E31_good) mixed lim_ok Try.func31 (by kernel_rfl) lv31 kp31).of_le fun R args H K r hk=>?_
  unfold w31 at hk
  split at hk
  · exact (g31_fn _ H K).trans hk
  · cases hk
noncomputable def g31:T31:=g31_r
theorem g31_lin:Lin31 g31:=g31_r_lin
theorem ok31:FunOK Try.prog 31 (w31 g31):=g31_ok
def kp13:Nat→Option (List Nat):=kpOf [(0,[0,1,5,500005,1000005]),(1,[0,1,5,14,500005,1000005]),(2,[6,7,8]),(3,[0,1,5,16,500005,1000005]),(4,[6,7,8]),(5,[0,1,5,9,500005,1000005]),(6,[0,1,5,9,20,500005,1000005]),(7,[6,7,8]),(8,[0,5,10,500005,500010,1000005,1000010]),(9,[0,5,10,11,500005,500010,1000005,1000010]),(10,[0,5,10,11,32,500005,500010,1000005,1000010]),(11,[6,7,8]),(12,[0,5,10,11,52,500005,500010,1000005,1000010]),(13,[0,5,10,500005,500010,1000005,1000010]),(14,[0,5,10,11,500005,500010,1000005,1000010]),(15,[0,5,10,11,500005,500010,1000005,1000010]),(16,[0,5,10,11,68,500005,500010,1000005,1000010]),(17,[]),(18,[6,7,8]),(19,[0,5,10,11,500005,500010,1000005,1000010]),(20,[0,5,10,11,500005,500010,1000005,1000010]),(21,[0,5,10,11,500005,500010,1000005,1000010]),(22,[0,10,11,109,500010,1000010]),(23,[6,7,8]),(24,[11]),(25,[6,7,8]),(100000,[0,5,10,11,500005,500010,1000005,1000010]),(200000,[0,5,10,11,500005,500010,1000005,1000010]),(300000,[6,7,8]),(400014,[0,1,5,500005,1000005]),(400016,[0,1,5,500005,1000005]),(400020,[0,1,5,500005,1000005]),(400032,[0,5,10,11,500005,500010,1000005,1000010]),(400052,[0,5,10,11,500005,500010,1000005,1000010]),(400068,[0,5,10,11,500005,500010,1000005,1000010]),(400109,[0,10,11,500010,1000010])]
noncomputable def E13:FEnv:=[(22,w22 g22),(30,w30 g30),(23,w23 g23),(31,w31 g31)]
theorem E13_good:EnvGood Try.prog (E13):=(((((EnvGood.nil _).cons ok31 (w31_lin g31_lin)).cons ok23 (w23_lin g23_lin)).cons ok30 (w30_lin g30_lin)).cons ok22 (w22_lin g22_lin))
def lv13:Nat→Bool:=lvOf [5,10]
noncomputable def b13:Code:=Try.f13.body.getD .skip
noncomputable def c13_0:Code:=(.seq (codeAt [1,1,1,1,1,1,1,0] b13) (.seq (codeAt [1,1,1,1,1,1,1,1,0] b13) (.seq (codeAt [1,1,1,1,1,1,1,1,1,0] b13) (.seq (codeAt [1,1,1,1,1,1,1,1,1,1,0,0] b13) (.seq (.cond (.tmp 109) (.seq (codeAt [1,1,1,1,1,1,1,1,1,1,0,1,0,0] b13) .ret) .skip) (.seq (codeAt [1,1,1,1,1,1,1,1,1,1,1,0] b13) (.seq (codeAt [1,1,1,1,1,1,1,1,1,1,1,1,0] b13) .ret)))))))
noncomputable def c13_1:Code:=(.seq (.block 0 (.seq (codeAt [1,1,1,1,1,1,0,0,0] b13) (.cond (.tmp 32) (.seq (codeAt [1,1,1,1,1,1,0,0,1,0,0] b13) .ret) (.seq (codeAt [1,1,1,1,1,1,0,0,1,1,0] b13) (.cond (.tmp 52) (.seq (codeAt [1,1,1,1,1,1,0,0,1,1,1,0,0] b13) (.seq (codeAt [1,1,1,1,1,1,0,0,1,1,1,0,1,0] b13) (codeAt [1,1,1,1,1,1,0,0,1,1,1,0,1,1] b13))) (.seq (codeAt [1,1,1,1,1,1,0,0,1,1,1,1,0] b13) (.cond (.tmp 68) (.seq (codeAt [1,1,1,1,1,1,0,0,1,1,1,1,1,0,0] b13) (.seq (codeAt [1,1,1,1,1,1,0,0,1,1,1,1,1,0,1,0] b13) .ret)) .skip))))))) c13_0)
noncomputable def c13_2:Code:=(.seq (codeAt [0] b13) (.seq (codeAt [1,0,0] b13) (.seq (.cond (.tmp 14) (.seq (codeAt [1,0,1,0,0] b13) .ret) .skip) (.seq (codeAt [1,1,0,0] b13) (.seq (.cond (.tmp 16) (.seq (codeAt [1,1,0,1,0,0] b13) .ret) .skip) (.seq (codeAt [1,1,1,0,0] b13) (.seq (codeAt [1,1,1,0,1,0] b13) (.seq (.cond (.tmp 20) (.seq (codeAt [1,1,1,0,1,1,0,0] b13) .ret) .skip) (.seq (codeAt [1,1,1,1,0] b13) (.seq (codeAt [1,1,1,1,1,0] b13) c13_1))))))))))
noncomputable def g13_p0 (R:Type) (t0:Option (Nat × Nat)) (t1:Int) (t2_0:Int) (t2_1:Bool) (t2_2:Int) (t2_3:Sl) (H:Heap) (kN:Option (Nat × Nat)→Option (Nat × Nat)→Int→Bool→Int→Sl→Int→Int→Heap→Option R) (kR:Sl→Bool→Int→Heap→Option R):Option R :=
  g22 R t0 H fun x354 h355 =>
  sel (!x354) (
    kR (Sl.mk none 0 (.ex 0)) false (2:Int) h355) (
    sel (decide (t1 > (16383:Int))) (
      kR (Sl.mk none 0 (.ex 0)) false (1:Int) h355) (
      g30 R t2_0 t2_1 t2_2 t2_3 h355 fun x356 h357 =>
      sel (x356 != (0:Int)) (
        kR (Sl.mk none 0 (.ex 0)) false x356 h357) (
        (t0).bind fun q358 =>
        ((h357).ldM q358.1 (q358.2 + 1)).bind fun x359 =>
        ((getMap h357 x359)).bind fun m360 =>
        ((findE Try.prog 57 (V.agg [(V.i .u16 t1),(V.i .u32 t2_0)]) m360.1 0)).bind fun q361 =>
        fnd q361 (fun j362 x363 =>
          ((V.asP x363)).bind fun x364 =>
          kN t0 x364 t2_0 t2_1 t2_2 t2_3 t1 t2_0 h357) (
          kN t0 none t2_0 t2_1 t2_2 t2_3 t1 t2_0 h357))))
theorem g13_p0_eq {R:Type} (c2:Code) (t0:Option (Nat × Nat)) (t1:Int) (t2_0:Int) (t2_1:Bool) (t2_2:Int) (t2_3:Sl) (H:Heap) (K:Ex→Fr→Heap→Option R):ev2 Try.prog (E13) loopLim lv13 Try.f13.ntmps kp13 (.seq (codeAt [0] b13) (.seq (codeAt [1,0,0] b13) (.seq (.cond (.tmp 14) (.seq (codeAt [1,0,1,0,0] b13) .ret) .skip) (.seq (codeAt [1,1,0,0] b13) (.seq (.cond (.tmp 16) (.seq (codeAt [1,1,0,1,0,0] b13) .ret) .skip) (.seq (codeAt [1,1,1,0,0] b13) (.seq (codeAt [1,1,1,0,1,0] b13) (.seq (.cond (.tmp 20) (.seq (codeAt [1,1,1,0,1,1,0,0] b13) .ret) .skip) (.seq (codeAt [1,1,1,1,0] b13) (.seq (codeAt [1,1,1,1,1,0] b13) c2)))))))))) [(0,(V.p t0)),(1,(V.i .u16 t1)),(2,(V.agg [(V.i .u32 t2_0),(V.b t2_1),(V.i .u8 t2_2),(V.sl t2_3)]))] H K = g13_p0 R t0 t1 t2_0 t2_1 t2_2 t2_3 H (fun t0 t11 t500005_0 t500005_1 t500005_2 t500005_3 t500010_0 t500010_1 H=>ev2 Try.prog (E13) loopLim lv13 Try.f13.ntmps kp13 c2 [(0,(V.p t0)),(11,(V.p t11)),(500005,(V.agg [(V.i .u32 t500005_0),(V.b t500005_1),(V.i .u8 t500005_2),(V.sl t500005_3)])),(500010,(V.agg [(V.i .u16 t500010_0),(V.i .u32 t500010_1)])),(1000005,(V.p (some (5,0)))),(1000010,(V.p (some (10,0))))] H K) (fun t6 t7 t8 H=>K .ret [(6,(V.sl t6)),(7,(V.b t7)),(8,(V.i .i64 t8))] H):=by kernel_rfl
theorem g13_p0_lin {R S:Type} {k:S→Option R} {t0:Option (Nat × Nat)} {t1:Int} {t2_0:Int} {t2_1:Bool} {t2_2:Int} {t2_3:Sl} {H:Heap} {fkN:Option (Nat × Nat)→Option (Nat × Nat)→Int→Bool→Int→Sl→Int→Int→Heap→Option R} {gkN:Option (Nat × Nat)→Option (Nat × Nat)→Int→Bool→Int→Sl→Int→Int→Heap→Option S} {fkR:Sl→Bool→Int→Heap→Option R} {gkR:Sl→Bool→Int→Heap→Option S} (hkN:∀ t0 t11 t500005_0 t500005_1 t500005_2 t500005_3 t500010_0 t500010_1 H,fkN t0 t11 t500005_0 t500005_1 t500005_2 t500005_3 t500010_0 t500010_1 H = (gkN t0 t11 t500005_0 t500005_1 t500005_2 t500005_3 t500010_0 t500010_1 H).bind k) (hkR:∀ t6 t7 t8 H,fkR t6 t7 t8 H = (gkR t6 t7 t8 H).bind k):g13_p0 R t0 t1 t2_0 t2_1 t2_2 t2_3 H fkN fkR = (g13_p0 S t0 t1 t2_0 t2_1 t2_2 t2_3 H gkN gkR).bind k:=by
  delta g13_p0; exact (
    g22_lin.l fun x354 h355 =>
    sl_lin (
      hkR _ _ _ _) (
      sl_lin (
        hkR _ _ _ _) (
        g30_lin.l fun x356 h357 =>
        sl_lin (
          hkR _ _ _ _) (
          bl fun q358 =>
          bl fun x359 =>
          bl fun m360 =>
          bl fun q361 =>
          fnd_lin (fun j362 x363 =>
            bl fun x364 =>
            hkN _ _ _ _ _ _ _ _ _) (
            hkN _ _ _ _ _ _ _ _ _)))))
noncomputable def g13_p1 (R:Type) (t0:Option (Nat × Nat)) (t11:Option (Nat × Nat)) (t500005_0:Int) (t500005_1:Bool) (t500005_2:Int) (t500005_3:Sl) (t500010_0:Int) (t500010_1:Int) (H:Heap) (kN:Option (Nat × Nat)→Option (Nat × Nat)→Int→Bool→Int→Sl→Int→Int→Heap→Option R) (kR:Sl→Bool→Int→Heap→Option R):Option R :=
  sel t500005_1 (
    sel (Option.isNone t11) (
      sel (decide (t500005_2 > (0:Int))) (
        (t0).bind fun q681 =>
        ((H).ldM q681.1 (q681.2 + 1)).bind fun x682 =>
        ((getMap H x682)).bind fun m683 =>
        sel (decide (((m683.1.length:Nat):Int) ≥ (4096:Int))) (
          kR (Sl.mk none 0 (.ex 0)) false (9:Int) H) (
          sel t500005_1 (
            g23 R t0 t500010_0 t500010_1 H fun h684 =>
            alo h684 (.cells [(V.sl (Sl.mk none 0 (.ex 0))),(V.i .u8 t500005_2),(V.i .i64 (0:Int))] 76 false) fun i685 h686 =>
            (t0).bind fun q687 =>
            ((h686).ldM q687.1 (q687.2 + 1)).bind fun x688 =>
            mapSet Try.prog h686 62 (V.m x688) (V.agg [(V.i .u16 t500010_0),(V.i .u32 t500010_1)]) (V.p (some (i685,0))) fun u690 h689 =>
            kN t0 (some (i685,0)) t500005_0 t500005_1 t500005_2 t500005_3 t500010_0 t500010_1 h689) (
            sel (Option.isNone t11) (
              g23 R t0 t500010_0 t500010_1 H fun h691 =>
              kR (Sl.mk none 0 (.ex 0)) false (6:Int) h691) (
              (t11).bind fun q692 =>
              ((H).ldI .u8 q692.1 (q692.2 + 1)).bind fun x693 =>
              sel (x693 != t500005_2) (
                g23 R t0 t500010_0 t500010_1 H fun h694 =>
                kR (Sl.mk none 0 (.ex 0)) false (6:Int) h694) (
                kN t0 t11 t500005_0 t500005_1 t500005_2 t500005_3 t500010_0 t500010_1 H))))) (
        sel t500005_1 (
          g23 R t0 t500010_0 t500010_1 H fun h695 =>
          alo h695 (.cells [(V.sl (Sl.mk none 0 (.ex 0))),(V.i .u8 t500005_2),(V.i .i64 (0:Int))] 76 false) fun i696 h697 =>
          (t0).bind fun q698 =>
          ((h697).ldM q698.1 (q698.2 + 1)).bind fun x699 =>
          mapSet Try.prog h697 62 (V.m x699) (V.agg [(V.i .u16 t500010_0),(V.i .u32 t500010_1)]) (V.p (some (i696,0))) fun u701 h700 =>
          kN t0 (some (i696,0)) t500005_0 t500005_1 t500005_2 t500005_3 t500010_0 t500010_1 h700) (
          sel (Option.isNone t11) (
            g23 R t0 t500010_0 t500010_1 H fun h702 =>
            kR (Sl.mk none 0 (.ex 0)) false (6:Int) h702) (
            (t11).bind fun q703 =>
            ((H).ldI .u8 q703.1 (q703.2 + 1)).bind fun x704 =>
            sel (x704 != t500005_2) (
              g23 R t0 t500010_0 t500010_1 H fun h705 =>
              kR (Sl.mk none 0 (.ex 0)) false (6:Int) h705) (
              kN t0 t11 t500005_0 t500005_1 t500005_2 t500005_3 t500010_0 t500010_1 H))))) (
      sel t500005_1 (
        g23 R t0 t500010_0 t500010_1 H fun h706 =>
        alo h706 (.cells [(V.sl (Sl.mk none 0 (.ex 0))),(V.i .u8 t500005_2),(V.i .i64 (0:Int))] 76 false) fun i707 h708 =>
        (t0).bind fun q709 =>
        ((h708).ldM q709.1 (q709.2 + 1)).bind fun x710 =>
        mapSet Try.prog h708 62 (V.m x710) (V.agg [(V.i .u16 t500010_0),(V.i .u32 t500010_1)]) (V.p (some (i707,0))) fun u712 h711 =>
        kN t0 (some (i707,0)) t500005_0 t500005_1 t500005_2 t500005_3 t500010_0 t500010_1 h711) (
        sel (Option.isNone t11) (
          g23 R t0 t500010_0 t500010_1 H fun h713 =>
          kR (Sl.mk none 0 (.ex 0)) false (6:Int) h713) (
          (t11).bind fun q714 =>
          ((H).ldI .u8 q714.1 (q714.2 + 1)).bind fun x715 =>
          sel (x715 != t500005_2) (
            g23 R t0 t500010_0 t500010_1 H fun h716 =>
            kR (Sl.mk none 0 (.ex 0)) false (6:Int) h716) (
            kN t0 t11 t500005_0 t500005_1 t500005_2 t500005_3 t500010_0 t500010_1 H))))) (
    sel t500005_1 (
      g23 R t0 t500010_0 t500010_1 H fun h717 =>
      alo h717 (.cells [(V.sl (Sl.mk none 0 (.ex 0))),(V.i .u8 t500005_2),(V.i .i64 (0:Int))] 76 false) fun i718 h719 =>
      (t0).bind fun q720 =>
      ((h719).ldM q720.1 (q720.2 + 1)).bind fun x721 =>
      mapSet Try.prog h719 62 (V.m x721) (V.agg [(V.i .u16 t500010_0),(V.i .u32 t500010_1)]) (V.p (some (i718,0))) fun u723 h722 =>
      kN t0 (some (i718,0)) t500005_0 t500005_1 t500005_2 t500005_3 t500010_0 t500010_1 h722) (
      sel (Option.isNone t11) (
        g23 R t0 t500010_0 t500010_1 H fun h724 =>
        kR (Sl.mk none 0 (.ex 0)) false (6:Int) h724) (
        (t11).bind fun q725 =>
        ((H).ldI .u8 q725.1 (q725.2 + 1)).bind fun x726 =>
        sel (x726 != t500005_2) (
          g23 R t0 t500010_0 t500010_1 H fun h727 =>
          kR (Sl.mk none 0 (.ex 0)) false (6:Int) h727) (
          kN t0 t11 t500005_0 t500005_1 t500005_2 t500005_3 t500010_0 t500010_1 H))))
theorem g13_p1_eq {R:Type} (c2:Code) (t0:Option (Nat × Nat)) (t11:Option (Nat × Nat)) (t500005_0:Int) (t500005_1:Bool) (t500005_2:Int) (t500005_3:Sl) (t500010_0:Int) (t500010_1:Int) (H:Heap) (K:Ex→Fr→Heap→Option R):ev2 Try.prog (E13) loopLim lv13 Try.f13.ntmps kp13 (.seq (.block 0 (.seq (codeAt [1,1,1,1,1,1,0,0,0] b13) (.cond (.tmp 32) (.seq (codeAt [1,1,1,1,1,1,0,0,1,0,0] b13) .ret) (.seq (codeAt [1,1,1,1,1,1,0,0,1,1,0] b13) (.cond (.tmp 52) (.seq (codeAt [1,1,1,1,1,1,0,0,1,1,1,0,0] b13) (.seq (codeAt [1,1,1,1,1,1,0,0,1,1,1,0,1,0] b13) (codeAt [1,1,1,1,1,1,0,0,1,1,1,0,1,1] b13))) (.seq (codeAt [1,1,1,1,1,1,0,0,1,1,1,1,0] b13) (.cond (.tmp 68) (.seq (codeAt [1,1,1,1,1,1,0,0,1,1,1,1,1,0,0] b13) (.seq (codeAt [1,1,1,1,1,1,0,0,1,1,1,1,1,0,1,0] b13) .ret)) .skip))))))) c2) [(0,(V.p t0)),(11,(V.p t11)),(500005,(V.agg [(V.i .u32 t500005_0),(V.b t500005_1),(V.i .u8 t500005_2),(V.sl t500005_3)])),(500010,(V.agg [(V.i .u16 t500010_0),(V.i .u32 t500010_1)])),(1000005,(V.p (some (5,0)))),(1000010,(V.p (some (10,0))))] H K = g13_p1 R t0 t11 t500005_0 t500005_1 t500005_2 t500005_3 t500010_0 t500010_1 H (fun t0 t11 t500005_0 t500005_1 t500005_2 t500005_3 t500010_0 t500010_1 H=>ev2 Try.prog (E13) loopLim lv13 Try.f13.ntmps kp13 c2 [(0,(V.p t0)),(11,(V.p t11)),(500005,(V.agg [(V.i .u32 t500005_0),(V.b t500005_1),(V.i .u8 t500005_2),(V.sl t500005_3)])),(500010,(V.agg [(V.i .u16 t500010_0),(V.i .u32 t500010_1)])),(1000005,(V.p (some (5,0)))),(1000010,(V.p (some (10,0))))] H K) (fun t6 t7 t8 H=>K .ret [(6,(V.sl t6)),(7,(V.b t7)),(8,(V.i .i64 t8))] H):=by kernel_rfl
theorem g13_p1_lin {R S:Type} {k:S→Option R} {t0:Option (Nat × Nat)} {t11:Option (Nat × Nat)} {t500005_0:Int} {t500005_1:Bool} {t500005_2:Int} {t500005_3:Sl} {t500010_0:Int} {t500010_1:Int} {H:Heap} {fkN:Option (Nat × Nat)→Option (Nat × Nat)→Int→Bool→Int→Sl→Int→Int→Heap→Option R} {gkN:Option (Nat × Nat)→Option (Nat × Nat)→Int→Bool→Int→Sl→Int→Int→Heap→Option S} {fkR:Sl→Bool→Int→Heap→Option R} {gkR:Sl→Bool→Int→Heap→Option S} (hkN:∀ t0 t11 t500005_0 t500005_1 t500005_2 t500005_3 t500010_0 t500010_1 H,fkN t0 t11 t500005_0 t500005_1 t500005_2 t500005_3 t500010_0 t500010_1 H = (gkN t0 t11 t500005_0 t500005_1 t500005_2 t500005_3 t500010_0 t500010_1 H).bind k) (hkR:∀ t6 t7 t8 H,fkR t6 t7 t8 H = (gkR t6 t7 t8 H).bind k):g13_p1 R t0 t11 t500005_0 t500005_1 t500005_2 t500005_3 t500010_0 t500010_1 H fkN fkR = (g13_p1 S t0 t11 t500005_0 t500005_1 t500005_2 t500005_3 t500010_0 t500010_1 H gkN gkR).bind k:=by
  delta g13_p1
  repeat' (first | with_reducible (first | exact hkR _ _ _ _ | exact hkN _ _ _ _ _ _ _ _ _ | refine sl_lin ?_ ?_ | refine g23_lin.l fun _=>?_ | refine alo_lin fun _ _=>?_ | refine mapSet_lin fun _ _=>?_ | refine bl fun _=>?_) | exact (rfl:(none:Option R) = (none:Option S).bind k))
noncomputable def g13_p2 (R:Type) (t0:Option (Nat × Nat)) (t11:Option (Nat × Nat)) (t500005_0:Int) (t500005_1:Bool) (t500005_2:Int) (t500005_3:Sl) (t500010_0:Int) (t500010_1:Int) (H:Heap) (kR:Sl→Bool→Int→Heap→Option R):Option R :=
  (t11).bind fun q728 =>
  ((H).ldSl q728.1 (q728.2 + 0)).bind fun x729 =>
  ((slCells H 1 t500005_3)).bind fun vs732 =>
  appendV H 5 1 1 x729 t500005_3.len vs732 fun s730 h731 =>
  (t11).bind fun q733 =>
  ((h731).st q733.1 (q733.2 + 0) (V.sl s730)).bind fun h735 =>
  (t11).bind fun q736 =>
  ((h735).ldI .u8 q736.1 (q736.2 + 1)).bind fun x737 =>
  (t11).bind fun q738 =>
  ((h735).st q738.1 (q738.2 + 1) (V.i .u8 (IntKind.wrap .u8 (x737 - (1:Int))))).bind fun h740 =>
  (t0).bind fun q741 =>
  ((h740).ldI .i64 q741.1 (q741.2 + 0)).bind fun x742 =>
  (t11).bind fun q743 =>
  ((h740).st q743.1 (q743.2 + 2) (V.i .i64 x742)).bind fun h745 =>
  sel (decide (t500005_2 > (0:Int))) (
    kR (Sl.mk none 0 (.ex 0)) false (0:Int) h745) (
    (t0).bind fun q746 =>
    ((h745).ldM q746.1 (q746.2 + 1)).bind fun x747 =>
    evBuiltin Try.prog h745 .delete [62,57] [(V.m x747),(V.agg [(V.i .u16 t500010_0),(V.i .u32 t500010_1)])] fun u748 h749 =>
    (t11).bind fun q750 =>
    ((h749).ldSl q750.1 (q750.2 + 0)).bind fun x751 =>
    g31 R x751 h749 fun x752 h753 =>
    kR x752 true (0:Int) h753)
theorem g13_p2_eq {R:Type} (t0:Option (Nat × Nat)) (t11:Option (Nat × Nat)) (t500005_0:Int) (t500005_1:Bool) (t500005_2:Int) (t500005_3:Sl) (t500010_0:Int) (t500010_1:Int) (H:Heap) (K:Ex→Fr→Heap→Option R):ev2 Try.prog (E13) loopLim lv13 Try.f13.ntmps kp13 c13_0 [(0,(V.p t0)),(11,(V.p t11)),(500005,(V.agg [(V.i .u32 t500005_0),(V.b t500005_1),(V.i .u8 t500005_2),(V.sl t500005_3)])),(500010,(V.agg [(V.i .u16 t500010_0),(V.i .u32 t500010_1)])),(1000005,(V.p (some (5,0)))),(1000010,(V.p (some (10,0))))] H K = g13_p2 R t0 t11 t500005_0 t500005_1 t500005_2 t500005_3 t500010_0 t500010_1 H (fun t6 t7 t8 H=>K .ret [(6,(V.sl t6)),(7,(V.b t7)),(8,(V.i .i64 t8))] H):=by kernel_rfl
theorem g13_p2_lin {R S:Type} {k:S→Option R} {t0:Option (Nat × Nat)} {t11:Option (Nat × Nat)} {t500005_0:Int} {t500005_1:Bool} {t500005_2:Int} {t500005_3:Sl} {t500010_0:Int} {t500010_1:Int} {H:Heap} {fkR:Sl→Bool→Int→Heap→Option R} {gkR:Sl→Bool→Int→Heap→Option S} (hkR:∀ t6 t7 t8 H,fkR t6 t7 t8 H = (gkR t6 t7 t8 H).bind k):g13_p2 R t0 t11 t500005_0 t500005_1 t500005_2 t500005_3 t500010_0 t500010_1 H fkR = (g13_p2 S t0 t11 t500005_0 t500005_1 t500005_2 t500005_3 t500010_0 t500010_1 H gkR).bind k:=by
  delta g13_p2
  repeat' (first | with_reducible (first | exact hkR _ _ _ _ | refine appendV_lin fun _ _=>?_ | refine sl_lin ?_ ?_ | refine evBuiltin_lin fun _ _=>?_ | refine g31_lin.l fun _ _=>?_ | refine bl fun _=>?_) | exact (rfl:(none:Option R) = (none:Option S).bind k))
noncomputable def g13_p3 (R:Type) (t0:Option (Nat × Nat)) (t11:Option (Nat × Nat)) (t500005_0:Int) (t500005_1:Bool) (t500005_2:Int) (t500005_3:Sl) (t500010_0:Int) (t500010_1:Int) (H:Heap) (kR:Sl→Bool→Int→Heap→Option R):Option R :=
  g13_p1 R t0 t11 t500005_0 t500005_1 t500005_2 t500005_3 t500010_0 t500010_1 H (fun t0 t11 t500005_0 t500005_1 t500005_2 t500005_3 t500010_0 t500010_1 H=>g13_p2 R t0 t11 t500005_0 t500005_1 t500005_2 t500005_3 t500010_0 t500010_1 H (fun t6 t7 t8 H=>kR t6 t7 t8 H)) (fun t6 t7 t8 H=>kR t6 t7 t8 H)
theorem g13_p3_lin {R S:Type} {k:S→Option R} {t0:Option (Nat × Nat)} {t11:Option (Nat × Nat)} {t500005_0:Int} {t500005_1:Bool} {t500005_2:Int} {t500005_3:Sl} {t500010_0:Int} {t500010_1:Int} {H:Heap} {fkR:Sl→Bool→Int→Heap→Option R} {gkR:Sl→Bool→Int→Heap→Option S} (hkR:∀ t6 t7 t8 H,fkR t6 t7 t8 H = (gkR t6 t7 t8 H).bind k):g13_p3 R t0 t11 t500005_0 t500005_1 t500005_2 t500005_3 t500010_0 t500010_1 H fkR = (g13_p3 S t0 t11 t500005_0 t500005_1 t500005_2 t500005_3 t500010_0 t500010_1 H gkR).bind k:=by
  exact g13_p1_lin (fun _ _ _ _ _ _ _ _ _=>g13_p2_lin (fun _ _ _ _=>hkR _ _ _ _)) (fun _ _ _ _=>hkR _ _ _ _)
theorem g13_p3_eq {R:Type} (t0:Option (Nat × Nat)) (t11:Option (Nat × Nat)) (t500005_0:Int) (t500005_1:Bool) (t500005_2:Int) (t500005_3:Sl) (t500010_0:Int) (t500010_1:Int) (H:Heap) (K:Ex→Fr→Heap→Option R):ev2 Try.prog (E13) loopLim lv13 Try.f13.ntmps kp13 c13_1 [(0,(V.p t0)),(11,(V.p t11)),(500005,(V.agg [(V.i .u32 t500005_0),(V.b t500005_1),(V.i .u8 t500005_2),(V.sl t500005_3)])),(500010,(V.agg [(V.i .u16 t500010_0),(V.i .u32 t500010_1)])),(1000005,(V.p (some (5,0)))),(1000010,(V.p (some (10,0))))] H K = g13_p3 R t0 t11 t500005_0 t500005_1 t500005_2 t500005_3 t500010_0 t500010_1 H (fun t6 t7 t8 H=>K .ret [(6,(V.sl t6)),(7,(V.b t7)),(8,(V.i .i64 t8))] H):=by
  delta c13_1
  delta g13_p3
  exact (g13_p1_eq _ t0 t11 t500005_0 t500005_1 t500005_2 t500005_3 t500010_0 t500010_1 H K).trans (congr (congrArg (g13_p1 R t0 t11 t500005_0 t500005_1 t500005_2 t500005_3 t500010_0 t500010_1 H) (funext fun t0=>funext fun t11=>funext fun t500005_0=>funext fun t500005_1=>funext fun t500005_2=>funext fun t500005_3=>funext fun t500010_0=>funext fun t500010_1=>funext fun H=>g13_p2_eq t0 t11 t500005_0 t500005_1 t500005_2 t500005_3 t500010_0 t500010_1 H K)) rfl)
noncomputable def g13_p4 (R:Type) (t0:Option (Nat × Nat)) (t1:Int) (t2_0:Int) (t2_1:Bool) (t2_2:Int) (t2_3:Sl) (H:Heap) (kR:Sl→Bool→Int→Heap→Option R):Option R :=
  g13_p0 R t0 t1 t2_0 t2_1 t2_2 t2_3 H (fun t0 t11 t500005_0 t500005_1 t500005_2 t500005_3 t500010_0 t500010_1 H=>g13_p3 R t0 t11 t500005_0 t500005_1 t500005_2 t500005_3 t500010_0 t500010_1 H (fun t6 t7 t8 H=>kR t6 t7 t8 H)) (fun t6 t7 t8 H=>kR t6 t7 t8 H)
theorem g13_p4_lin {R S:Type} {k:S→Option R} {t0:Option (Nat × Nat)} {t1:Int} {t2_0:Int} {t2_1:Bool} {t2_2:Int} {t2_3:Sl} {H:Heap} {fkR:Sl→Bool→Int→Heap→Option R} {gkR:Sl→Bool→Int→Heap→Option S} (hkR:∀ t6 t7 t8 H,fkR t6 t7 t8 H = (gkR t6 t7 t8 H).bind k):g13_p4 R t0 t1 t2_0 t2_1 t2_2 t2_3 H fkR = (g13_p4 S t0 t1 t2_0 t2_1 t2_2 t2_3 H gkR).bind k:=by
  exact g13_p0_lin (fun _ _ _ _ _ _ _ _ _=>g13_p3_lin (fun _ _ _ _=>hkR _ _ _ _)) (fun _ _ _ _=>hkR _ _ _ _)
theorem g13_p4_eq {R:Type} (t0:Option (Nat × Nat)) (t1:Int) (t2_0:Int) (t2_1:Bool) (t2_2:Int) (t2_3:Sl) (H:Heap) (K:Ex→Fr→Heap→Option R):ev2 Try.prog (E13) loopLim lv13 Try.f13.ntmps kp13 c13_2 [(0,(V.p t0)),(1,(V.i .u16 t1)),(2,(V.agg [(V.i .u32 t2_0),(V.b t2_1),(V.i .u8 t2_2),(V.sl t2_3)]))] H K = g13_p4 R t0 t1 t2_0 t2_1 t2_2 t2_3 H (fun t6 t7 t8 H=>K .ret [(6,(V.sl t6)),(7,(V.b t7)),(8,(V.i .i64 t8))] H):=by
  delta c13_2
  delta g13_p4
  exact (g13_p0_eq _ t0 t1 t2_0 t2_1 t2_2 t2_3 H K).trans (congr (congrArg (g13_p0 R t0 t1 t2_0 t2_1 t2_2 t2_3 H) (funext fun t0=>funext fun t11=>funext fun t500005_0=>funext fun t500005_1=>funext fun t500005_2=>funext fun t500005_3=>funext fun t500010_0=>funext fun t500010_1=>funext fun H=>g13_p3_eq t0 t11 t500005_0 t500005_1 t500005_2 t500005_3 t500010_0 t500010_1 H K)) rfl)
noncomputable def g13_r:T13:=fun R t0 t1 t2_0 t2_1 t2_2 t2_3 H K =>
  g13_p4 R t0 t1 t2_0 t2_1 t2_2 t2_3 H (fun t6 t7 t8 H =>
    K t6 t7 t8 H)
theorem g13_r_lin:Lin13 (g13_r):=by
  constructor
  intro R S k t0 t1 t2_0 t2_1 t2_2 t2_3 H f g h
  exact g13_p4_lin (fun t6 t7 t8 H =>
    h _ _ _ _)
theorem g13_fn {R:Type} (t0:Option (Nat × Nat)) (t1:Int) (t2_0:Int) (t2_1:Bool) (t2_2:Int) (t2_3:Sl) (H:Heap) (K:V→Heap→Option R):evFn2 Try.prog (E13) loopLim lv13 Try.f13 kp13 [(V.p t0),(V.i .u16 t1),(V.agg [(V.i .u32 t2_0),(V.b t2_1),(V.i .u8 t2_2),(V.sl t2_3)])] H K = g13_r R t0 t1 t2_0 t2_1 t2_2 t2_3 H (fun r0 r1 r2 H=>K (V.tup [(V.sl r0),(V.b r1),(V.i .i64 r2)]) H):=by
  have h0 : ∀ (t6 : Sl) (t7 : Bool) (t8 : Int) (H : Heap), kFn2 Try.prog Try.f13.results.toList K .ret [(6, (V.sl t6)), (7, (V.b t7)), (8, (V.i .i64 t8))] H =
      K (V.tup [(V.sl t6),(V.b t7),(V.i .i64 t8)]) H:=by intros; kernel_rfl
  have e0:=evFn2_code2 (P:=Try.prog) (c:=c13_2) (E:=(E13)) (lr:=loopLim) (lv:=lv13) (kp:=kp13) (fn:=Try.f13) (args:=[(V.p t0),(V.i .u16 t1),(V.agg [(V.i .u32 t2_0),(V.b t2_1),(V.i .u8 t2_2),(V.sl t2_3)])]) H K (by kernel_rfl) (Nat.le_of_ble_eq_true (by kernel_rfl)) (by kernel_rfl) (by kernel_rfl)
  have e1:ev2 Try.prog (E13) loopLim lv13 Try.f13.ntmps kp13 c13_2 (argFr 0 [(V.p t0),(V.i .u16 t1),(V.agg [(V.i .u32 t2_0),(V.b t2_1),(V.i .u8 t2_2),(V.sl t2_3)])]) H (kFn2 Try.prog Try.f13.results.toList K) = ev2 Try.prog (E13) loopLim lv13 Try.f13.ntmps kp13 c13_2 [(0,(V.p t0)),(1,(V.i .u16 t1)),(2,(V.agg [(V.i .u32 t2_0),(V.b t2_1),(V.i .u8 t2_2),(V.sl t2_3)]))] H (kFn2 Try.prog Try.f13.results.toList K):=by kernel_rfl
  refine (e0.trans e1).trans ?_
  delta g13_r
  exact (g13_p4_eq t0 t1 t2_0 t2_1 t2_2 t2_3 H (kFn2 Try.prog Try.f13.results.toList K)).trans (congrArg (g13_p4 R t0 t1 t2_0 t2_1 t2_2 t2_3 H) (funext fun t6=>funext fun t7=>funext fun t8=>funext fun H=>h0 t6 t7 t8 H))
theorem g13_ok:FunOK Try.prog 13 (w13 (g13_r)):=by
  refine (runF2_ok (E13_good) mixed lim_ok Try.func13 (by kernel_rfl) lv13 kp13).of_le fun R args H K r hk=>?_
  unfold w13 at hk
  split at hk
  · exact (g13_fn _ _ _ _ _ _ H K).trans hk
  · cases hk
noncomputable def g13:T13:=g13_r
theorem g13_lin:Lin13 g13:=g13_r_lin
theorem ok13:FunOK Try.prog 13 (w13 g13):=g13_ok
def kp10:Nat→Option (List Nat):=kpOf [(0,[0]),(1,[0,4]),(2,[2,3]),(3,[0,7]),(4,[2,3]),(5,[2,3]),(100000,[0]),(200000,[0]),(300000,[2,3]),(400004,[0]),(400007,[0])]
def E10:FEnv:=[]
theorem E10_good:EnvGood Try.prog E10:=(EnvGood.nil _)
def lv10:Nat→Bool:=lvOf []
noncomputable def b10:Code:=Try.f10.body.getD .skip
noncomputable def c10_0:Code:=(.seq (codeAt [0] b10) (.seq (.block 0 (.seq (codeAt [1,0,0,0] b10) (.cond (.tmp 4) (.seq (codeAt [1,0,0,1,0,0] b10) .ret) (.seq (codeAt [1,0,0,1,1,0] b10) (.cond (.tmp 7) (.seq (codeAt [1,0,0,1,1,1,0,0] b10) .ret) .skip))))) (.seq (codeAt [1,1,0] b10) .ret)))
noncomputable def g10_p0 (R:Type) (t0:Int) (H:Heap) (kR:Option (Nat × Nat)→Int→Heap→Option R):Option R :=
  sel (decide (t0 < (1:Int))) (
    kR none (1:Int) H) (
    sel (decide (t0 > (1048576:Int))) (
      kR none (3:Int) H) (
      alo H (.map [] 0) fun i1 h2 =>
      alo h2 (.cells [(V.i .i64 t0),(V.m (some i1)),(V.sl (Sl.mk none 0 (.ex 0)))] 64 false) fun i3 h4 =>
      kR (some (i3,0)) (0:Int) h4))
theorem g10_p0_eq {R:Type} (t0:Int) (H:Heap) (K:Ex→Fr→Heap→Option R):ev2 Try.prog E10 loopLim lv10 Try.f10.ntmps kp10 c10_0 [(0,(V.i .i64 t0))] H K = g10_p0 R t0 H (fun t2 t3 H=>K .ret [(2,(V.p t2)),(3,(V.i .i64 t3))] H):=by kernel_rfl
theorem g10_p0_lin {R S:Type} {k:S→Option R} {t0:Int} {H:Heap} {fkR:Option (Nat × Nat)→Int→Heap→Option R} {gkR:Option (Nat × Nat)→Int→Heap→Option S} (hkR:∀ t2 t3 H,fkR t2 t3 H = (gkR t2 t3 H).bind k):g10_p0 R t0 H fkR = (g10_p0 S t0 H gkR).bind k:=by
  delta g10_p0; exact (
    sl_lin (
      hkR _ _ _) (
      sl_lin (
        hkR _ _ _) (
        alo_lin fun i1 h2 =>
        alo_lin fun i3 h4 =>
        hkR _ _ _)))
noncomputable def g10_r:T10:=fun R t0 H K =>
  g10_p0 R t0 H (fun t2 t3 H =>
    K t2 t3 H)
theorem g10_r_lin:Lin10 (g10_r):=by
  constructor
  intro R S k t0 H f g h
  exact g10_p0_lin (fun t2 t3 H =>
    h _ _ _)
theorem g10_fn {R:Type} (t0:Int) (H:Heap) (K:V→Heap→Option R):evFn2 Try.prog E10 loopLim lv10 Try.f10 kp10 [(V.i .i64 t0)] H K = g10_r R t0 H (fun r0 r1 H=>K (V.tup [(V.p r0),(V.i .i64 r1)]) H):=by
  have h0 : ∀ (t2 : Option (Nat × Nat)) (t3 : Int) (H : Heap), kFn2 Try.prog Try.f10.results.toList K .ret [(2, (V.p t2)), (3, (V.i .i64 t3))] H =
      K (V.tup [(V.p t2),(V.i .i64 t3)]) H:=by intros; kernel_rfl
  have e0:=evFn2_code2 (P:=Try.prog) (c:=c10_0) (E:=E10) (lr:=loopLim) (lv:=lv10) (kp:=kp10) (fn:=Try.f10) (args:=[(V.i .i64 t0)]) H K (by kernel_rfl) (Nat.le_of_ble_eq_true (by kernel_rfl)) (by kernel_rfl) (by kernel_rfl)
  have e1:ev2 Try.prog E10 loopLim lv10 Try.f10.ntmps kp10 c10_0 (argFr 0 [(V.i .i64 t0)]) H (kFn2 Try.prog Try.f10.results.toList K) = ev2 Try.prog E10 loopLim lv10 Try.f10.ntmps kp10 c10_0 [(0,(V.i .i64 t0))] H (kFn2 Try.prog Try.f10.results.toList K):=by kernel_rfl
  refine (e0.trans e1).trans ?_
  delta g10_r
  exact (g10_p0_eq t0 H (kFn2 Try.prog Try.f10.results.toList K)).trans (congrArg (g10_p0 R t0 H) (funext fun t2=>funext fun t3=>funext fun H=>h0 t2 t3 H))
theorem g10_ok:FunOK Try.prog 10 (w10 (g10_r)):=by
  refine (runF2_ok (E10_good) mixed lim_ok Try.func10 (by kernel_rfl) lv10 kp10).of_le fun R args H K r hk=>?_
  unfold w10 at hk
  split at hk
  · exact (g10_fn _ H K).trans hk
  · cases hk
noncomputable def g10:T10:=g10_r
theorem g10_lin:Lin10 g10:=g10_r_lin
theorem ok10:FunOK Try.prog 10 (w10 g10):=g10_ok
def kp14:Nat→Option (List Nat):=kpOf [(0,[0]),(1,[0,5]),(2,[2]),(3,[2]),(300000,[2]),(400005,[0])]
noncomputable def E14:FEnv:=[(22,w22 g22)]
theorem E14_good:EnvGood Try.prog (E14):=((EnvGood.nil _).cons ok22 (w22_lin g22_lin))
def lv14:Nat→Bool:=lvOf []
noncomputable def b14:Code:=Try.f14.body.getD .skip
noncomputable def c14_0:Code:=(.seq (codeAt [0] b14) (.seq (codeAt [1,0,0] b14) (.seq (.cond (.tmp 5) (.seq (codeAt [1,0,1,0,0] b14) .ret) .skip) (.seq (codeAt [1,1,0] b14) .ret))))
noncomputable def g14_p0 (R:Type) (t0:Option (Nat × Nat)) (H:Heap) (kR:Int→Heap→Option R):Option R :=
  g22 R t0 H fun x1 h2 =>
  sel (!x1) (
    kR (0:Int) h2) (
    (t0).bind fun q3 =>
    ((h2).ldM q3.1 (q3.2 + 1)).bind fun x4 =>
    ((getMap h2 x4)).bind fun m5 =>
    kR ((m5.1.length:Nat):Int) h2)
theorem g14_p0_eq {R:Type} (t0:Option (Nat × Nat)) (H:Heap) (K:Ex→Fr→Heap→Option R):ev2 Try.prog (E14) loopLim lv14 Try.f14.ntmps kp14 c14_0 [(0,(V.p t0))] H K = g14_p0 R t0 H (fun t2 H=>K .ret [(2,(V.i .i64 t2))] H):=by kernel_rfl
theorem g14_p0_lin {R S:Type} {k:S→Option R} {t0:Option (Nat × Nat)} {H:Heap} {fkR:Int→Heap→Option R} {gkR:Int→Heap→Option S} (hkR:∀ t2 H,fkR t2 H = (gkR t2 H).bind k):g14_p0 R t0 H fkR = (g14_p0 S t0 H gkR).bind k:=by
  delta g14_p0; exact (
    g22_lin.l fun x1 h2 =>
    sl_lin (
      hkR _ _) (
      bl fun q3 =>
      bl fun x4 =>
      bl fun m5 =>
      hkR _ _))
noncomputable def g14_r:T14:=fun R t0 H K =>
  g14_p0 R t0 H (fun t2 H =>
    K t2 H)
theorem g14_r_lin:Lin14 (g14_r):=by
  constructor
  intro R S k t0 H f g h
  exact g14_p0_lin (fun t2 H =>
    h _ _)
theorem g14_fn {R:Type} (t0:Option (Nat × Nat)) (H:Heap) (K:V→Heap→Option R):evFn2 Try.prog (E14) loopLim lv14 Try.f14 kp14 [(V.p t0)] H K = g14_r R t0 H (fun r0 H=>K (V.i .i64 r0) H):=by
  have h0 : ∀ (t2 : Int) (H : Heap), kFn2 Try.prog Try.f14.results.toList K .ret [(2, (V.i .i64 t2))] H =
      K (V.i .i64 t2) H:=by intros; kernel_rfl
  have e0:=evFn2_code2 (P:=Try.prog) (c:=c14_0) (E:=(E14)) (lr:=loopLim) (lv:=lv14) (kp:=kp14) (fn:=Try.f14) (args:=[(V.p t0)]) H K (by kernel_rfl) (Nat.le_of_ble_eq_true (by kernel_rfl)) (by kernel_rfl) (by kernel_rfl)
  have e1:ev2 Try.prog (E14) loopLim lv14 Try.f14.ntmps kp14 c14_0 (argFr 0 [(V.p t0)]) H (kFn2 Try.prog Try.f14.results.toList K) = ev2 Try.prog (E14) loopLim lv14 Try.f14.ntmps kp14 c14_0 [(0,(V.p t0))] H (kFn2 Try.prog Try.f14.results.toList K):=by kernel_rfl
  refine (e0.trans e1).trans ?_
  delta g14_r
  exact (g14_p0_eq t0 H (kFn2 Try.prog Try.f14.results.toList K)).trans (congrArg (g14_p0 R t0 H) (funext fun t2=>funext fun H=>h0 t2 H))
theorem g14_ok:FunOK Try.prog 14 (w14 (g14_r)):=by
  refine (runF2_ok (E14_good) mixed lim_ok Try.func14 (by kernel_rfl) lv14 kp14).of_le fun R args H K r hk=>?_
  unfold w14 at hk
  split at hk
  · exact (g14_fn _ H K).trans hk
  · cases hk
noncomputable def g14:T14:=g14_r
theorem g14_lin:Lin14 g14:=g14_r_lin
theorem ok14:FunOK Try.prog 14 (w14 g14):=g14_ok
def kp32:Nat→Option (List Nat):=kpOf [(0,[0]),(1,[0,4]),(2,[2]),(3,[2]),(300000,[2]),(400004,[0])]
def E32:FEnv:=[]
theorem E32_good:EnvGood Try.prog E32:=(EnvGood.nil _)
def lv32:Nat→Bool:=lvOf []
noncomputable def b32:Code:=Try.f32.body.getD .skip
noncomputable def c32_0:Code:=(.seq (codeAt [0] b32) (.seq (codeAt [1,0,0] b32) (.seq (.cond (.tmp 4) (.seq (codeAt [1,0,1,0,0] b32) .ret) .skip) (.seq (codeAt [1,1,0] b32) .ret))))
noncomputable def g32_p0 (R:Type) (t0:Sl) (H:Heap) (kR:Sl→Heap→Option R):Option R :=
  sel (Option.isNone t0.a) (
    kR (Sl.mk none 0 (.ex 0)) H) (
    alo H (.cells [] 5 false) fun i1 h2 =>
    ((slCells h2 1 t0)).bind fun vs5 =>
    appendV h2 5 1 1 (Sl.mk (some (i1,0)) 0 (.ex 0)) t0.len vs5 fun s3 h4 =>
    kR s3 h4)
theorem g32_p0_eq {R:Type} (t0:Sl) (H:Heap) (K:Ex→Fr→Heap→Option R):ev2 Try.prog E32 loopLim lv32 Try.f32.ntmps kp32 c32_0 [(0,(V.sl t0))] H K = g32_p0 R t0 H (fun t2 H=>K .ret [(2,(V.sl t2))] H):=by kernel_rfl
theorem g32_p0_lin {R S:Type} {k:S→Option R} {t0:Sl} {H:Heap} {fkR:Sl→Heap→Option R} {gkR:Sl→Heap→Option S} (hkR:∀ t2 H,fkR t2 H = (gkR t2 H).bind k):g32_p0 R t0 H fkR = (g32_p0 S t0 H gkR).bind k:=by
  delta g32_p0; exact (
    sl_lin (
      hkR _ _) (
      alo_lin fun i1 h2 =>
      bl fun vs5 =>
      appendV_lin fun s3 h4 =>
      hkR _ _))
noncomputable def g32_r:T32:=fun R t0 H K =>
  g32_p0 R t0 H (fun t2 H =>
    K t2 H)
theorem g32_r_lin:Lin32 (g32_r):=by
  constructor
  intro R S k t0 H f g h
  exact g32_p0_lin (fun t2 H =>
    h _ _)
theorem g32_fn {R:Type} (t0:Sl) (H:Heap) (K:V→Heap→Option R):evFn2 Try.prog E32 loopLim lv32 Try.f32 kp32 [(V.sl t0)] H K = g32_r R t0 H (fun r0 H=>K (V.sl r0) H):=by
  have h0 : ∀ (t2 : Sl) (H : Heap), kFn2 Try.prog Try.f32.results.toList K .ret [(2, (V.sl t2))] H =
      K (V.sl t2) H:=by intros; kernel_rfl
  have e0:=evFn2_code2 (P:=Try.prog) (c:=c32_0) (E:=E32) (lr:=loopLim) (lv:=lv32) (kp:=kp32) (fn:=Try.f32) (args:=[(V.sl t0)]) H K (by kernel_rfl) (Nat.le_of_ble_eq_true (by kernel_rfl)) (by kernel_rfl) (by kernel_rfl)
  have e1:ev2 Try.prog E32 loopLim lv32 Try.f32.ntmps kp32 c32_0 (argFr 0 [(V.sl t0)]) H (kFn2 Try.prog Try.f32.results.toList K) = ev2 Try.prog E32 loopLim lv32 Try.f32.ntmps kp32 c32_0 [(0,(V.sl t0))] H (kFn2 Try.prog Try.f32.results.toList K):=by kernel_rfl
  refine (e0.trans e1).trans ?_
  delta g32_r
  exact (g32_p0_eq t0 H (kFn2 Try.prog Try.f32.results.toList K)).trans (congrArg (g32_p0 R t0 H) (funext fun t2=>funext fun H=>h0 t2 H))
theorem g32_ok:FunOK Try.prog 32 (w32 (g32_r)):=by
  refine (runF2_ok (E32_good) mixed lim_ok Try.func32 (by kernel_rfl) lv32 kp32).of_le fun R args H K r hk=>?_
  unfold w32 at hk
  split at hk
  · exact (g32_fn _ H K).trans hk
  · cases hk
noncomputable def g32:T32:=g32_r
theorem g32_lin:Lin32 g32:=g32_r_lin
theorem ok32:FunOK Try.prog 32 (w32 g32):=g32_ok
end Go.Proofs.Ytobebcfkddimkaa

