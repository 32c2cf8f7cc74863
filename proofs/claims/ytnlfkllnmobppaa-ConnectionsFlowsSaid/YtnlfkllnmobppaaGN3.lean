/- Printed: functions as the machine runs them. -/
import Derived.Test.YtnlfkllnmobppaaGN2
namespace Go.Proofs.Ytnlfkllnmobppaa
open Go AM Go.RowKit
set_option linter.unusedVariables false
def kp21:Nat→Option (List Nat):=kpOf [(0,[0,3,500003,1000003]),(1,[3,5,500003,1000003]),(2,[3,5,10,500003,1000003]),(3,[4]),(4,[3,5,21,500003,1000003]),(5,[4]),(6,[4]),(300000,[4]),(400010,[3,5,500003,1000003]),(400021,[3,5,500003,1000003])]
noncomputable def E21:FEnv:=[(20,w20 g20)]
theorem E21_good:EnvGood Try.prog (E21):=((EnvGood.nil _).cons ok20 (w20_lin g20_lin))
theorem E21_lin:EnvLin (E21):=by
  intro g F h
  simp only [E21,List.mem_cons,List.not_mem_nil,or_false] at h
  rcases h with h
  · cases h; exact w20_lin g20_lin
def lv21:Nat→Bool:=lvOf [3]
noncomputable def b21:Code:=Try.f21.body.getD .skip
noncomputable def c21_0:Code:=(.seq (codeAt [0] b21) (.seq (codeAt [1,0] b21) (.seq (codeAt [1,1,0,0] b21) (.seq (.cond (.tmp 10) (.seq (codeAt [1,1,0,1,0,0] b21) .ret) .skip) (.seq (codeAt [1,1,1,0,0] b21) (.seq (.cond (.tmp 21) (.seq (codeAt [1,1,1,0,1,0,0] b21) .ret) .skip) (.seq (codeAt [1,1,1,1,0] b21) .ret)))))))
noncomputable def g21_p0 (R:Type) (t0:Option (Nat × Nat)) (t1_0:Int) (t1_1:Int) (t1_2:Int) (t1_3:Int) (t1_4:Int) (t1_5:Sl) (H:Heap) (kR:Bool→Heap→Option R):Option R :=
  g20 R t0 H fun x1 h2 =>
  sel (t1_1 == (0:Int)) (
    kR (((x1.len:Nat):Int) == (0:Int)) h2) (
    sel (((x1.len:Nat):Int) != (1:Int)) (
      kR false h2) (
      capK x1.cap fun c3 =>
      sel (((c3:Nat):Int) != (1:Int)) (
        kR false h2) (
        if 0 ≤ (0:Int)∧(0:Int) < ((x1.len:Nat):Int) then (
          (x1.a).bind fun q4 =>
          ((h2).ldI .u32 q4.1 ((q4.2 + Int.toNat (0:Int) * 6) + 0)).bind fun x5 =>
          sel (x5 == t1_0) (
            if 0 ≤ (0:Int)∧(0:Int) < ((x1.len:Nat):Int) then (
              (x1.a).bind fun q6 =>
              ((h2).ldI .u8 q6.1 ((q6.2 + Int.toNat (0:Int) * 6) + 1)).bind fun x7 =>
              sel (x7 == t1_1) (
                if 0 ≤ (0:Int)∧(0:Int) < ((x1.len:Nat):Int) then (
                  (x1.a).bind fun q8 =>
                  ((h2).ldI .u16 q8.1 ((q8.2 + Int.toNat (0:Int) * 6) + 2)).bind fun x9 =>
                  sel (x9 == t1_2) (
                    if 0 ≤ (0:Int)∧(0:Int) < ((x1.len:Nat):Int) then (
                      (x1.a).bind fun q10 =>
                      ((h2).ldI .u8 q10.1 ((q10.2 + Int.toNat (0:Int) * 6) + 3)).bind fun x11 =>
                      sel (x11 == t1_3) (
                        if 0 ≤ (0:Int)∧(0:Int) < ((x1.len:Nat):Int) then (
                          (x1.a).bind fun q12 =>
                          ((h2).ldI .u8 q12.1 ((q12.2 + Int.toNat (0:Int) * 6) + 4)).bind fun x13 =>
                          sel (x13 == t1_4) (
                            if 0 ≤ (0:Int)∧(0:Int) < ((x1.len:Nat):Int) then (
                              (x1.a).bind fun q14 =>
                              ((h2).ldSl q14.1 ((q14.2 + Int.toNat (0:Int) * 6) + 5)).bind fun x15 =>
                              ((slBytes h2 x15)).bind fun x16 =>
                              ((slBytes h2 t1_5)).bind fun x17 =>
                              kR (strEq x16 x17) h2)
                            else (
                              none)) (
                            kR false h2))
                        else (
                          none)) (
                        kR false h2))
                    else (
                      none)) (
                    kR false h2))
                else (
                  none)) (
                kR false h2))
            else (
              none)) (
            kR false h2))
        else (
          none))))
theorem g21_p0_eq {R:Type} (t0:Option (Nat × Nat)) (t1_0:Int) (t1_1:Int) (t1_2:Int) (t1_3:Int) (t1_4:Int) (t1_5:Sl) (H:Heap) (K:Ex→Fr→Heap→Option R):ev2 Try.prog (E21) loopLim lv21 Try.f21.ntmps kp21 c21_0 [(0,(V.p t0)),(1,(V.agg [(V.i .u32 t1_0),(V.i .u8 t1_1),(V.i .u16 t1_2),(V.i .u8 t1_3),(V.i .u8 t1_4),(V.sl t1_5)]))] H K = g21_p0 R t0 t1_0 t1_1 t1_2 t1_3 t1_4 t1_5 H (fun t4 H=>K .ret [(4,(V.b t4))] H):=by kernel_rfl
theorem g21_p0_lin {R S:Type} {k:S→Option R} {t0:Option (Nat × Nat)} {t1_0:Int} {t1_1:Int} {t1_2:Int} {t1_3:Int} {t1_4:Int} {t1_5:Sl} {H:Heap} {fkR:Bool→Heap→Option R} {gkR:Bool→Heap→Option S} (hkR:∀ t4 H,fkR t4 H = (gkR t4 H).bind k):g21_p0 R t0 t1_0 t1_1 t1_2 t1_3 t1_4 t1_5 H fkR = (g21_p0 S t0 t1_0 t1_1 t1_2 t1_3 t1_4 t1_5 H gkR).bind k:=by
  delta g21_p0
  repeat' (first | with_reducible (first | exact hkR _ _ | refine g20_lin.l fun _ _=>?_ | refine sl_lin ?_ ?_ | refine capK_lin fun _=>?_ | refine il ?_ ?_ | refine bl fun _=>?_) | exact (rfl:(none:Option R) = (none:Option S).bind k))
noncomputable def g21_r:T21:=fun R t0 t1_0 t1_1 t1_2 t1_3 t1_4 t1_5 H K =>
  g21_p0 R t0 t1_0 t1_1 t1_2 t1_3 t1_4 t1_5 H (fun t4 H =>
    K t4 H)
theorem g21_r_lin:Lin21 (g21_r):=by
  constructor
  intro R S k t0 t1_0 t1_1 t1_2 t1_3 t1_4 t1_5 H f g h
  exact g21_p0_lin (fun t4 H =>
    h _ _)
theorem g21_fn {R:Type} (t0:Option (Nat × Nat)) (t1_0:Int) (t1_1:Int) (t1_2:Int) (t1_3:Int) (t1_4:Int) (t1_5:Sl) (H:Heap) (K:V→Heap→Option R):evFn2 Try.prog (E21) loopLim lv21 Try.f21 kp21 [(V.p t0),(V.agg [(V.i .u32 t1_0),(V.i .u8 t1_1),(V.i .u16 t1_2),(V.i .u8 t1_3),(V.i .u8 t1_4),(V.sl t1_5)])] H K = g21_r R t0 t1_0 t1_1 t1_2 t1_3 t1_4 t1_5 H (fun r0 H=>K (V.b r0) H):=by
  have h0 : ∀ (t4 : Bool) (H : Heap), kFn2 Try.prog Try.f21.results.toList K .ret [(4, (V.b t4))] H =
      K (V.b t4) H:=by intros; kernel_rfl
  have e0:=evFn2_code2 (P:=Try.prog) (c:=c21_0) (E:=(E21)) (lr:=loopLim) (lv:=lv21) (kp:=kp21) (fn:=Try.f21) (args:=[(V.p t0),(V.agg [(V.i .u32 t1_0),(V.i .u8 t1_1),(V.i .u16 t1_2),(V.i .u8 t1_3),(V.i .u8 t1_4),(V.sl t1_5)])]) H K (by kernel_rfl) (Nat.le_of_ble_eq_true (by kernel_rfl)) (by kernel_rfl) (by kernel_rfl)
  have e1:ev2 Try.prog (E21) loopLim lv21 Try.f21.ntmps kp21 c21_0 (argFr 0 [(V.p t0),(V.agg [(V.i .u32 t1_0),(V.i .u8 t1_1),(V.i .u16 t1_2),(V.i .u8 t1_3),(V.i .u8 t1_4),(V.sl t1_5)])]) H (kFn2 Try.prog Try.f21.results.toList K) = ev2 Try.prog (E21) loopLim lv21 Try.f21.ntmps kp21 c21_0 [(0,(V.p t0)),(1,(V.agg [(V.i .u32 t1_0),(V.i .u8 t1_1),(V.i .u16 t1_2),(V.i .u8 t1_3),(V.i .u8 t1_4),(V.sl t1_5)]))] H (kFn2 Try.prog Try.f21.results.toList K):=by kernel_rfl
  refine (e0.trans e1).trans ?_
  delta g21_r
  exact (g21_p0_eq t0 t1_0 t1_1 t1_2 t1_3 t1_4 t1_5 H (kFn2 Try.prog Try.f21.results.toList K)).trans (congrArg (g21_p0 R t0 t1_0 t1_1 t1_2 t1_3 t1_4 t1_5 H) (funext fun t4=>funext fun H=>h0 t4 H))
theorem g21_ok:FunOK Try.prog 21 (w21 (g21_r)):=by
  refine (runF2_ok (E21_good) mixed lim_ok Try.func21 (by kernel_rfl) lv21 kp21).of_le fun R args H K r hk=>?_
  unfold w21 at hk
  split at hk
  · exact (g21_fn _ _ _ _ _ _ _ H K).trans hk
  · cases hk
noncomputable def g21:T21:=g21_r
theorem g21_lin:Lin21 g21:=g21_r_lin
theorem ok21:FunOK Try.prog 21 (w21 g21):=g21_ok
def kp72:Nat→Option (List Nat):=kpOf [(0,[0,1]),(1,[0,1,7,8]),(2,[0,1,7,8,9]),(3,[0,1,5,7,8]),(4,[0,1,5,7,8,16]),(5,[4]),(6,[0,1,7,8]),(7,[4]),(100000,[]),(100001,[0,1,7,8]),(200000,[0,1,7,8]),(200001,[0,1,7,8]),(300000,[4]),(400009,[0,1,7,8]),(400016,[0,1,7,8])]
def E72:FEnv:=[]
theorem E72_good:EnvGood Try.prog E72:=(EnvGood.nil _)
theorem E72_lin:EnvLin E72:=fun g F h=>by cases h
def lv72:Nat→Bool:=lvOf []
noncomputable def b72:Code:=Try.f72.body.getD .skip
noncomputable def c72_0:Code:=(.seq (codeAt [1,0,1,0,0,0] b72) (.seq (.cond (.tmp 9) .skip (.exit 0)) (.seq (.block 1 (.seq (codeAt [1,0,1,0,0,1,1,0,0,0] b72) (.seq (codeAt [1,0,1,0,0,1,1,0,0,1,0] b72) (.cond (.tmp 16) (.seq (codeAt [1,0,1,0,0,1,1,0,0,1,1,0,0] b72) .ret) .skip)))) (codeAt [1,0,1,0,0,1,1,1] b72))))
noncomputable def c72_1:Code:=(.loop c72_0)
noncomputable def c72_2:Code:=(.block 0 c72_1)
noncomputable def c72_3:Code:=(.seq (codeAt [1,1,0] b72) .ret)
noncomputable def c72_4:Code:=(.seq c72_2 c72_3)
noncomputable def c72_5:Code:=(.seq (codeAt [0] b72) (.seq (codeAt [1,0,0] b72) c72_4))
noncomputable def g72_p0 (R:Type) (t0:Sl) (t1:Int) (H:Heap) (kN:Sl→Int→Int→Int→Heap→Option R):Option R :=
  kN t0 t1 ((t0.len:Nat):Int) (0:Int) H
theorem g72_p0_eq {R:Type} (c2:Code) (t0:Sl) (t1:Int) (H:Heap) (K:Ex→Fr→Heap→Option R):ev2 Try.prog E72 loopLim lv72 Try.f72.ntmps kp72 (.seq (codeAt [0] b72) (.seq (codeAt [1,0,0] b72) c2)) [(0,(V.sl t0)),(1,(V.i .u8 t1))] H K = g72_p0 R t0 t1 H (fun t0 t1 t7 t8 H=>ev2 Try.prog E72 loopLim lv72 Try.f72.ntmps kp72 c2 [(0,(V.sl t0)),(1,(V.i .u8 t1)),(7,(V.i .i64 t7)),(8,(V.i .i64 t8))] H K):=by kernel_rfl
theorem g72_p0_lin {R S:Type} {k:S→Option R} {t0:Sl} {t1:Int} {H:Heap} {fkN:Sl→Int→Int→Int→Heap→Option R} {gkN:Sl→Int→Int→Int→Heap→Option S} (hkN:∀ t0 t1 t7 t8 H,fkN t0 t1 t7 t8 H = (gkN t0 t1 t7 t8 H).bind k):g72_p0 R t0 t1 H fkN = (g72_p0 S t0 t1 H gkN).bind k:=by
  delta g72_p0; exact (
    hkN _ _ _ _ _)
noncomputable def g72_p1 (R:Type) (t0:Sl) (t1:Int) (t7:Int) (t8:Int) (H:Heap) (kN:Sl→Int→Int→Int→Heap→Option R) (kE0:Heap→Option R) (kR:Int→Heap→Option R):Option R :=
  sel (decide (t8 < t7)) (
    if 0 ≤ t8∧t8 < ((t0.len:Nat):Int) then (
      (t0.a).bind fun q1 =>
      ((H).ldI .u8 q1.1 (q1.2 + Int.toNat t8 * 1)).bind fun x2 =>
      sel (t1 == x2) (
        kR t8 H) (
        kN t0 t1 t7 (IntKind.wrap .i64 (t8 + (1:Int))) H))
    else (
      none)) (
    kE0 H)
theorem g72_p1_eq {R:Type} (t0:Sl) (t1:Int) (t7:Int) (t8:Int) (H:Heap) (K:Ex→Fr→Heap→Option R):ev2 Try.prog E72 loopLim lv72 Try.f72.ntmps kp72 c72_0 [(0,(V.sl t0)),(1,(V.i .u8 t1)),(7,(V.i .i64 t7)),(8,(V.i .i64 t8))] H K = g72_p1 R t0 t1 t7 t8 H (fun t0 t1 t7 t8 H=>K .normal [(0,(V.sl t0)),(1,(V.i .u8 t1)),(7,(V.i .i64 t7)),(8,(V.i .i64 t8))] H) (fun H=>K (.exit 0) [] H) (fun t4 H=>K .ret [(4,(V.i .i64 t4))] H):=by kernel_rfl
theorem g72_p1_lin {R S:Type} {k:S→Option R} {t0:Sl} {t1:Int} {t7:Int} {t8:Int} {H:Heap} {fkN:Sl→Int→Int→Int→Heap→Option R} {gkN:Sl→Int→Int→Int→Heap→Option S} {fkE0:Heap→Option R} {gkE0:Heap→Option S} {fkR:Int→Heap→Option R} {gkR:Int→Heap→Option S} (hkN:∀ t0 t1 t7 t8 H,fkN t0 t1 t7 t8 H = (gkN t0 t1 t7 t8 H).bind k) (hkE0:∀ H,fkE0 H = (gkE0 H).bind k) (hkR:∀ t4 H,fkR t4 H = (gkR t4 H).bind k):g72_p1 R t0 t1 t7 t8 H fkN fkE0 fkR = (g72_p1 S t0 t1 t7 t8 H gkN gkE0 gkR).bind k:=by
  delta g72_p1; exact (
    sl_lin (
      il (
        bl fun q1 =>
        bl fun x2 =>
        sl_lin (
          hkR _ _) (
          hkN _ _ _ _ _)) (
        rfl)) (
      hkE0 _))
abbrev g72_p2_S:=Sl × Int × Int × Int
abbrev g72_p2_O:=Sum (Unit) (Int)
def g72_p2_es (s:g72_p2_S):Fr:=[(0,(V.sl s.1)),(1,(V.i .u8 s.2.1)),(7,(V.i .i64 s.2.2.1)),(8,(V.i .i64 s.2.2.2))]
def g72_p2_er:g72_p2_O→Ex × Fr
  | (.inl r)=>((.exit 0),[])
  | (.inr r)=>(.ret,[(4,(V.i .i64 r))])
noncomputable def g72_p2_b (s:g72_p2_S) (H:Heap):Option (Rd g72_p2_S g72_p2_O × Heap) :=
  g72_p1 _ s.1 s.2.1 s.2.2.1 s.2.2.2 H (fun t0 t1 t7 t8 H=>some (.go (t0,t1,t7,t8),H)) (fun H=>some (.up (.inl ()),H)) (fun t4 H=>some (.up (.inr t4),H))
noncomputable def g72_p2 (R:Type) (t0:Sl) (t1:Int) (t7:Int) (t8:Int) (H:Heap) (kE0:Heap→Option R) (kR:Int→Heap→Option R):Option R :=
  (tlim (g72_p2_b) (t0,t1,t7,t8) H).bind fun p=>cas p.1 (fun r=>kE0  p.2) (fun r0=>kR r0 p.2)
theorem g72_p2_lin {R S:Type} {k:S→Option R} {t0:Sl} {t1:Int} {t7:Int} {t8:Int} {H:Heap} {fkE0:Heap→Option R} {gkE0:Heap→Option S} {fkR:Int→Heap→Option R} {gkR:Int→Heap→Option S} (hkE0:∀ H,fkE0 H = (gkE0 H).bind k) (hkR:∀ t4 H,fkR t4 H = (gkR t4 H).bind k):g72_p2 R t0 t1 t7 t8 H fkE0 fkR = (g72_p2 S t0 t1 t7 t8 H gkE0 gkR).bind k:=by
  exact bl fun p=>cas_lin (fun _=>hkE0 _) (fun _=>hkR _ _)
theorem g72_p2_eq {R:Type} (t0:Sl) (t1:Int) (t7:Int) (t8:Int) (H:Heap) (K:Ex→Fr→Heap→Option R):ev2 Try.prog E72 loopLim lv72 Try.f72.ntmps kp72 c72_1 [(0,(V.sl t0)),(1,(V.i .u8 t1)),(7,(V.i .i64 t7)),(8,(V.i .i64 t8))] H K = g72_p2 R t0 t1 t7 t8 H (fun H=>K (.exit 0) [] H) (fun t4 H=>K .ret [(4,(V.i .i64 t4))] H):=by
  delta c72_1
  delta g72_p2
  refine (ev2_tlim (b:=g72_p2_b) (es:=g72_p2_es) (er:=g72_p2_er) (by rintro (r | r) <;> exact nofun) (fun s H=>?_) (t0,t1,t7,t8) H K).trans (bc fun p=>by rcases p with ⟨(r | r),H⟩ <;> rfl)
  exact (g72_p1_eq s.1 s.2.1 s.2.2.1 s.2.2.2 H ret3).trans (g72_p1_lin (fun _ _ _ _ _=>rfl) (fun _=>rfl) (fun _ _=>rfl))
noncomputable def g72_p3 (R:Type) (t0:Sl) (t1:Int) (t7:Int) (t8:Int) (H:Heap) (kN:Heap→Option R) (kR:Int→Heap→Option R):Option R :=
  g72_p2 R t0 t1 t7 t8 H (fun H=>kN  H) (fun t4 H=>kR t4 H)
theorem g72_p3_lin {R S:Type} {k:S→Option R} {t0:Sl} {t1:Int} {t7:Int} {t8:Int} {H:Heap} {fkN:Heap→Option R} {gkN:Heap→Option S} {fkR:Int→Heap→Option R} {gkR:Int→Heap→Option S} (hkN:∀ H,fkN H = (gkN H).bind k) (hkR:∀ t4 H,fkR t4 H = (gkR t4 H).bind k):g72_p3 R t0 t1 t7 t8 H fkN fkR = (g72_p3 S t0 t1 t7 t8 H gkN gkR).bind k:=by
  exact g72_p2_lin (fun _=>hkN _) (fun _ _=>hkR _ _)
theorem g72_p3_eq {R:Type} (t0:Sl) (t1:Int) (t7:Int) (t8:Int) (H:Heap) (K:Ex→Fr→Heap→Option R):ev2 Try.prog E72 loopLim lv72 Try.f72.ntmps kp72 c72_2 [(0,(V.sl t0)),(1,(V.i .u8 t1)),(7,(V.i .i64 t7)),(8,(V.i .i64 t8))] H K = g72_p3 R t0 t1 t7 t8 H (fun H=>K .normal [] H) (fun t4 H=>K .ret [(4,(V.i .i64 t4))] H):=by
  delta c72_2
  rw [ev2_block]
  delta g72_p3
  exact (g72_p2_eq t0 t1 t7 t8 H (kBlock kp72 0 K))
noncomputable def g72_p4 (R:Type) (H:Heap) (kR:Int→Heap→Option R):Option R :=
  kR (-1:Int) H
theorem g72_p4_eq {R:Type} (H:Heap) (K:Ex→Fr→Heap→Option R):ev2 Try.prog E72 loopLim lv72 Try.f72.ntmps kp72 c72_3 [] H K = g72_p4 R H (fun t4 H=>K .ret [(4,(V.i .i64 t4))] H):=by kernel_rfl
theorem g72_p4_lin {R S:Type} {k:S→Option R} {H:Heap} {fkR:Int→Heap→Option R} {gkR:Int→Heap→Option S} (hkR:∀ t4 H,fkR t4 H = (gkR t4 H).bind k):g72_p4 R H fkR = (g72_p4 S H gkR).bind k:=by
  delta g72_p4; exact (
    hkR _ _)
noncomputable def g72_p5 (R:Type) (t0:Sl) (t1:Int) (t7:Int) (t8:Int) (H:Heap) (kR:Int→Heap→Option R):Option R :=
  g72_p3 R t0 t1 t7 t8 H (fun H=>g72_p4 R H (fun t4 H=>kR t4 H)) (fun t4 H=>kR t4 H)
theorem g72_p5_lin {R S:Type} {k:S→Option R} {t0:Sl} {t1:Int} {t7:Int} {t8:Int} {H:Heap} {fkR:Int→Heap→Option R} {gkR:Int→Heap→Option S} (hkR:∀ t4 H,fkR t4 H = (gkR t4 H).bind k):g72_p5 R t0 t1 t7 t8 H fkR = (g72_p5 S t0 t1 t7 t8 H gkR).bind k:=by
  exact g72_p3_lin (fun _=>g72_p4_lin (fun _ _=>hkR _ _)) (fun _ _=>hkR _ _)
theorem g72_p5_eq {R:Type} (t0:Sl) (t1:Int) (t7:Int) (t8:Int) (H:Heap) (K:Ex→Fr→Heap→Option R):ev2 Try.prog E72 loopLim lv72 Try.f72.ntmps kp72 c72_4 [(0,(V.sl t0)),(1,(V.i .u8 t1)),(7,(V.i .i64 t7)),(8,(V.i .i64 t8))] H K = g72_p5 R t0 t1 t7 t8 H (fun t4 H=>K .ret [(4,(V.i .i64 t4))] H):=by
  delta c72_4
  rw [ev2_seq]
  delta g72_p5
  exact (g72_p3_eq t0 t1 t7 t8 H (kSeq (fun fr H=>ev2 Try.prog E72 loopLim lv72 Try.f72.ntmps kp72 c72_3 fr H K) K)).trans (congr (congrArg (g72_p3 R t0 t1 t7 t8 H) (funext fun H=>(kSeq_n _ _ _ _).trans (g72_p4_eq H K))) rfl)
noncomputable def g72_p6 (R:Type) (t0:Sl) (t1:Int) (H:Heap) (kR:Int→Heap→Option R):Option R :=
  g72_p0 R t0 t1 H (fun t0 t1 t7 t8 H=>g72_p5 R t0 t1 t7 t8 H (fun t4 H=>kR t4 H))
theorem g72_p6_lin {R S:Type} {k:S→Option R} {t0:Sl} {t1:Int} {H:Heap} {fkR:Int→Heap→Option R} {gkR:Int→Heap→Option S} (hkR:∀ t4 H,fkR t4 H = (gkR t4 H).bind k):g72_p6 R t0 t1 H fkR = (g72_p6 S t0 t1 H gkR).bind k:=by
  exact g72_p0_lin (fun _ _ _ _ _=>g72_p5_lin (fun _ _=>hkR _ _))
theorem g72_p6_eq {R:Type} (t0:Sl) (t1:Int) (H:Heap) (K:Ex→Fr→Heap→Option R):ev2 Try.prog E72 loopLim lv72 Try.f72.ntmps kp72 c72_5 [(0,(V.sl t0)),(1,(V.i .u8 t1))] H K = g72_p6 R t0 t1 H (fun t4 H=>K .ret [(4,(V.i .i64 t4))] H):=by
  delta c72_5
  delta g72_p6
  exact (g72_p0_eq _ t0 t1 H K).trans (congrArg (g72_p0 R t0 t1 H) (funext fun t0=>funext fun t1=>funext fun t7=>funext fun t8=>funext fun H=>g72_p5_eq t0 t1 t7 t8 H K))
noncomputable def g72_r:T72:=fun R t0 t1 H K =>
  g72_p6 R t0 t1 H (fun t4 H =>
    K t4 H)
theorem g72_r_lin:Lin72 (g72_r):=by
  constructor
  intro R S k t0 t1 H f g h
  exact g72_p6_lin (fun t4 H =>
    h _ _)
theorem g72_fn {R:Type} (t0:Sl) (t1:Int) (H:Heap) (K:V→Heap→Option R):evFn2 Try.prog E72 loopLim lv72 Try.f72 kp72 [(V.sl t0),(V.i .u8 t1)] H K = g72_r R t0 t1 H (fun r0 H=>K (V.i .i64 r0) H):=by
  have h0 : ∀ (t4 : Int) (H : Heap), kFn2 Try.prog Try.f72.results.toList K .ret [(4, (V.i .i64 t4))] H =
      K (V.i .i64 t4) H:=by intros; kernel_rfl
  have e0:=evFn2_code2 (P:=Try.prog) (c:=c72_5) (E:=E72) (lr:=loopLim) (lv:=lv72) (kp:=kp72) (fn:=Try.f72) (args:=[(V.sl t0),(V.i .u8 t1)]) H K (by kernel_rfl) (Nat.le_of_ble_eq_true (by kernel_rfl)) (by kernel_rfl) (by kernel_rfl)
  have e1:ev2 Try.prog E72 loopLim lv72 Try.f72.ntmps kp72 c72_5 (argFr 0 [(V.sl t0),(V.i .u8 t1)]) H (kFn2 Try.prog Try.f72.results.toList K) = ev2 Try.prog E72 loopLim lv72 Try.f72.ntmps kp72 c72_5 [(0,(V.sl t0)),(1,(V.i .u8 t1))] H (kFn2 Try.prog Try.f72.results.toList K):=by kernel_rfl
  refine (e0.trans e1).trans ?_
  delta g72_r
  exact (g72_p6_eq t0 t1 H (kFn2 Try.prog Try.f72.results.toList K)).trans (congrArg (g72_p6 R t0 t1 H) (funext fun t4=>funext fun H=>h0 t4 H))
theorem g72_ok:FunOK Try.prog 72 (w72 (g72_r)):=by
  refine (runF2_ok (E72_good) mixed lim_ok Try.func72 (by kernel_rfl) lv72 kp72).of_le fun R args H K r hk=>?_
  unfold w72 at hk
  split at hk
  · exact (g72_fn _ _ H K).trans hk
  · cases hk
noncomputable def g72:T72:=g72_r
theorem g72_lin:Lin72 g72:=g72_r_lin
theorem ok72:FunOK Try.prog 72 (w72 g72):=g72_ok
def kp67:Nat→Option (List Nat):=kpOf [(0,[0,1]),(1,[4]),(300000,[4])]
noncomputable def E67:FEnv:=[(72,w72 g72)]
theorem E67_good:EnvGood Try.prog (E67):=((EnvGood.nil _).cons ok72 (w72_lin g72_lin))
theorem E67_lin:EnvLin (E67):=by
  intro g F h
  simp only [E67,List.mem_cons,List.not_mem_nil,or_false] at h
  rcases h with h
  · cases h; exact w72_lin g72_lin
def lv67:Nat→Bool:=lvOf []
noncomputable def b67:Code:=Try.f67.body.getD .skip
noncomputable def c67_0:Code:=(.seq (codeAt [0] b67) (.seq (codeAt [1,0] b67) .ret))
noncomputable def g67_p0 (R:Type) (t0:Sl) (t1:Int) (H:Heap) (kR:Bool→Heap→Option R):Option R :=
  g72 R t0 t1 H fun x1 h2 =>
  kR (decide (x1 ≥ (0:Int))) h2
theorem g67_p0_eq {R:Type} (t0:Sl) (t1:Int) (H:Heap) (K:Ex→Fr→Heap→Option R):ev2 Try.prog (E67) loopLim lv67 Try.f67.ntmps kp67 c67_0 [(0,(V.sl t0)),(1,(V.i .u8 t1))] H K = g67_p0 R t0 t1 H (fun t4 H=>K .ret [(4,(V.b t4))] H):=by kernel_rfl
theorem g67_p0_lin {R S:Type} {k:S→Option R} {t0:Sl} {t1:Int} {H:Heap} {fkR:Bool→Heap→Option R} {gkR:Bool→Heap→Option S} (hkR:∀ t4 H,fkR t4 H = (gkR t4 H).bind k):g67_p0 R t0 t1 H fkR = (g67_p0 S t0 t1 H gkR).bind k:=by
  delta g67_p0; exact (
    g72_lin.l fun x1 h2 =>
    hkR _ _)
noncomputable def g67_r:T67:=fun R t0 t1 H K =>
  g67_p0 R t0 t1 H (fun t4 H =>
    K t4 H)
theorem g67_r_lin:Lin67 (g67_r):=by
  constructor
  intro R S k t0 t1 H f g h
  exact g67_p0_lin (fun t4 H =>
    h _ _)
theorem g67_fn {R:Type} (t0:Sl) (t1:Int) (H:Heap) (K:V→Heap→Option R):evFn2 Try.prog (E67) loopLim lv67 Try.f67 kp67 [(V.sl t0),(V.i .u8 t1)] H K = g67_r R t0 t1 H (fun r0 H=>K (V.b r0) H):=by
  have h0 : ∀ (t4 : Bool) (H : Heap), kFn2 Try.prog Try.f67.results.toList K .ret [(4, (V.b t4))] H =
      K (V.b t4) H:=by intros; kernel_rfl
  have e0:=evFn2_code2 (P:=Try.prog) (c:=c67_0) (E:=(E67)) (lr:=loopLim) (lv:=lv67) (kp:=kp67) (fn:=Try.f67) (args:=[(V.sl t0),(V.i .u8 t1)]) H K (by kernel_rfl) (Nat.le_of_ble_eq_true (by kernel_rfl)) (by kernel_rfl) (by kernel_rfl)
  have e1:ev2 Try.prog (E67) loopLim lv67 Try.f67.ntmps kp67 c67_0 (argFr 0 [(V.sl t0),(V.i .u8 t1)]) H (kFn2 Try.prog Try.f67.results.toList K) = ev2 Try.prog (E67) loopLim lv67 Try.f67.ntmps kp67 c67_0 [(0,(V.sl t0)),(1,(V.i .u8 t1))] H (kFn2 Try.prog Try.f67.results.toList K):=by kernel_rfl
  refine (e0.trans e1).trans ?_
  delta g67_r
  exact (g67_p0_eq t0 t1 H (kFn2 Try.prog Try.f67.results.toList K)).trans (congrArg (g67_p0 R t0 t1 H) (funext fun t4=>funext fun H=>h0 t4 H))
theorem g67_ok:FunOK Try.prog 67 (w67 (g67_r)):=by
  refine (runF2_ok (E67_good) mixed lim_ok Try.func67 (by kernel_rfl) lv67 kp67).of_le fun R args H K r hk=>?_
  unfold w67 at hk
  split at hk
  · exact (g67_fn _ _ H K).trans hk
  · cases hk
noncomputable def g67:T67:=g67_r
theorem g67_lin:Lin67 g67:=g67_r_lin
theorem ok67:FunOK Try.prog 67 (w67 g67):=g67_ok
def kp50:Nat→Option (List Nat):=kpOf [(0,[0,1,2]),(1,[0,1,2,11]),(2,[6,7]),(3,[2,8]),(4,[2,8,18]),(5,[6,7]),(6,[8,21]),(7,[6,7]),(8,[6,7]),(100000,[8]),(200000,[2,8]),(300000,[6,7]),(400011,[0,1,2]),(400018,[8]),(400021,[8])]
noncomputable def E50:FEnv:=[(37,w37 g37),(67,w67 g67)]
theorem E50_good:EnvGood Try.prog (E50):=(((EnvGood.nil _).cons ok67 (w67_lin g67_lin)).cons ok37 (w37_lin g37_lin))
theorem E50_lin:EnvLin (E50):=by
  intro g F h
  simp only [E50,List.mem_cons,List.not_mem_nil,or_false] at h
  rcases h with h | h
  · cases h; exact w37_lin g37_lin
  · cases h; exact w67_lin g67_lin
def lv50:Nat→Bool:=lvOf []
noncomputable def b50:Code:=Try.f50.body.getD .skip
noncomputable def c50_0:Code:=(.seq (codeAt [0] b50) (.seq (codeAt [1,0,0] b50) (.seq (.cond (.tmp 11) (.seq (codeAt [1,0,1,0,0] b50) .ret) .skip) (.seq (codeAt [1,1,0] b50) (.seq (.block 0 (.seq (codeAt [1,1,1,0,0,0] b50) (.cond (.tmp 18) (.seq (codeAt [1,1,1,0,0,1,0,0] b50) .ret) (.seq (codeAt [1,1,1,0,0,1,1,0] b50) (.cond (.tmp 21) (.seq (codeAt [1,1,1,0,0,1,1,1,0,0] b50) .ret) .skip))))) (.seq (codeAt [1,1,1,1,0] b50) .ret))))))
noncomputable def g50_p0 (R:Type) (t0:Option (Nat × Nat)) (t1:Int) (t2:Sl) (H:Heap) (kR:Option (Nat × Nat)→Int→Heap→Option R):Option R :=
  g37 R t0 H fun x1 h2 =>
  sel (!x1) (
    kR none (2:Int) h2) (
    (t0).bind fun q3 =>
    ((h2).ldM q3.1 (q3.2 + 5)).bind fun x4 =>
    ((getMap h2 x4)).bind fun m5 =>
    ((findE Try.prog 23 (V.i .u32 t1) m5.1 0)).bind fun q6 =>
    fnd q6 (fun j7 x8 =>
      ((V.asP x8)).bind fun x9 =>
      sel (Option.isNone x9) (
        kR none (7:Int) h2) (
        (x9).bind fun q10 =>
        ((h2).ldI .u8 q10.1 (q10.2 + 4)).bind fun x11 =>
        g67 R t2 x11 h2 fun x12 h13 =>
        sel (!x12) (
          kR none (6:Int) h13) (
          kR x9 (0:Int) h13))) (
      kR none (7:Int) h2))
theorem g50_p0_eq {R:Type} (t0:Option (Nat × Nat)) (t1:Int) (t2:Sl) (H:Heap) (K:Ex→Fr→Heap→Option R):ev2 Try.prog (E50) loopLim lv50 Try.f50.ntmps kp50 c50_0 [(0,(V.p t0)),(1,(V.i .u32 t1)),(2,(V.sl t2))] H K = g50_p0 R t0 t1 t2 H (fun t6 t7 H=>K .ret [(6,(V.p t6)),(7,(V.i .i64 t7))] H):=by kernel_rfl
theorem g50_p0_lin {R S:Type} {k:S→Option R} {t0:Option (Nat × Nat)} {t1:Int} {t2:Sl} {H:Heap} {fkR:Option (Nat × Nat)→Int→Heap→Option R} {gkR:Option (Nat × Nat)→Int→Heap→Option S} (hkR:∀ t6 t7 H,fkR t6 t7 H = (gkR t6 t7 H).bind k):g50_p0 R t0 t1 t2 H fkR = (g50_p0 S t0 t1 t2 H gkR).bind k:=by
  delta g50_p0; exact (
    g37_lin.l fun x1 h2 =>
    sl_lin (
      hkR _ _ _) (
      bl fun q3 =>
      bl fun x4 =>
      bl fun m5 =>
      bl fun q6 =>
      fnd_lin (fun j7 x8 =>
        bl fun x9 =>
        sl_lin (
          hkR _ _ _) (
          bl fun q10 =>
          bl fun x11 =>
          g67_lin.l fun x12 h13 =>
          sl_lin (
            hkR _ _ _) (
            hkR _ _ _))) (
        hkR _ _ _)))
noncomputable def g50_r:T50:=fun R t0 t1 t2 H K =>
  g50_p0 R t0 t1 t2 H (fun t6 t7 H =>
    K t6 t7 H)
theorem g50_r_lin:Lin50 (g50_r):=by
  constructor
  intro R S k t0 t1 t2 H f g h
  exact g50_p0_lin (fun t6 t7 H =>
    h _ _ _)
theorem g50_fn {R:Type} (t0:Option (Nat × Nat)) (t1:Int) (t2:Sl) (H:Heap) (K:V→Heap→Option R):evFn2 Try.prog (E50) loopLim lv50 Try.f50 kp50 [(V.p t0),(V.i .u32 t1),(V.sl t2)] H K = g50_r R t0 t1 t2 H (fun r0 r1 H=>K (V.tup [(V.p r0),(V.i .i64 r1)]) H):=by
  have h0 : ∀ (t6 : Option (Nat × Nat)) (t7 : Int) (H : Heap), kFn2 Try.prog Try.f50.results.toList K .ret [(6, (V.p t6)), (7, (V.i .i64 t7))] H =
      K (V.tup [(V.p t6),(V.i .i64 t7)]) H:=by intros; kernel_rfl
  have e0:=evFn2_code2 (P:=Try.prog) (c:=c50_0) (E:=(E50)) (lr:=loopLim) (lv:=lv50) (kp:=kp50) (fn:=Try.f50) (args:=[(V.p t0),(V.i .u32 t1),(V.sl t2)]) H K (by kernel_rfl) (Nat.le_of_ble_eq_true (by kernel_rfl)) (by kernel_rfl) (by kernel_rfl)
  have e1:ev2 Try.prog (E50) loopLim lv50 Try.f50.ntmps kp50 c50_0 (argFr 0 [(V.p t0),(V.i .u32 t1),(V.sl t2)]) H (kFn2 Try.prog Try.f50.results.toList K) = ev2 Try.prog (E50) loopLim lv50 Try.f50.ntmps kp50 c50_0 [(0,(V.p t0)),(1,(V.i .u32 t1)),(2,(V.sl t2))] H (kFn2 Try.prog Try.f50.results.toList K):=by kernel_rfl
  refine (e0.trans e1).trans ?_
  delta g50_r
  exact (g50_p0_eq t0 t1 t2 H (kFn2 Try.prog Try.f50.results.toList K)).trans (congrArg (g50_p0 R t0 t1 t2 H) (funext fun t6=>funext fun t7=>funext fun H=>h0 t6 t7 H))
theorem g50_ok:FunOK Try.prog 50 (w50 (g50_r)):=by
  refine (runF2_ok (E50_good) mixed lim_ok Try.func50 (by kernel_rfl) lv50 kp50).of_le fun R args H K r hk=>?_
  unfold w50 at hk
  split at hk
  · exact (g50_fn _ _ _ H K).trans hk
  · cases hk
noncomputable def g50:T50:=g50_r
theorem g50_lin:Lin50 g50:=g50_r_lin
theorem ok50:FunOK Try.prog 50 (w50 g50):=g50_ok
def kp27:Nat→Option (List Nat):=kpOf [(0,[0,1]),(1,[0,5,6]),(2,[0,5,6,15]),(3,[4]),(4,[0,5]),(5,[]),(6,[4]),(300000,[4]),(400015,[0,5])]
noncomputable def E27:FEnv:=[(50,w50 g50),(51,w51 g51),(39,w39 g39)]
theorem E27_good:EnvGood Try.prog (E27):=((((EnvGood.nil _).cons ok39 (w39_lin g39_lin)).cons ok51 (w51_lin g51_lin)).cons ok50 (w50_lin g50_lin))
theorem E27_lin:EnvLin (E27):=by
  intro g F h
  simp only [E27,List.mem_cons,List.not_mem_nil,or_false] at h
  rcases h with h | h | h
  · cases h; exact w50_lin g50_lin
  · cases h; exact w51_lin g51_lin
  · cases h; exact w39_lin g39_lin
def lv27:Nat→Bool:=lvOf []
noncomputable def b27:Code:=Try.f27.body.getD .skip
noncomputable def c27_0:Code:=(.seq (codeAt [0] b27) (.seq (codeAt [1,0] b27) (.seq (codeAt [1,1,0,0] b27) (.seq (.cond (.tmp 15) (.seq (codeAt [1,1,0,1,0,0] b27) .ret) .skip) (.seq (codeAt [1,1,1,0] b27) (.seq (codeAt [1,1,1,1,0] b27) (.seq (codeAt [1,1,1,1,1,0] b27) .ret)))))))
noncomputable def g27_p0 (R:Type) (t0:Option (Nat × Nat)) (t1:Int) (H:Heap) (kR:Int→Heap→Option R):Option R :=
  alo H (.cells [(V.i .u8 (2:Int))] 96 false) fun i1 h2 =>
  g50 R t0 t1 (Sl.mk (some (i1,0)) 1 (.ex 1)) h2 fun x3 x4 h5 =>
  sel (x4 != (0:Int)) (
    kR x4 h5) (
    g51 R x3 (3:Int) h5 fun h6 =>
    g39 R t0 x3 (2:Int) (0:Int) (0:Int) (0:Int) (0:Int) (0:Int) (0:Int) (Sl.mk none 0 (.ex 0)) h6 fun h7 =>
    kR (0:Int) h7)
theorem g27_p0_eq {R:Type} (t0:Option (Nat × Nat)) (t1:Int) (H:Heap) (K:Ex→Fr→Heap→Option R):ev2 Try.prog (E27) loopLim lv27 Try.f27.ntmps kp27 c27_0 [(0,(V.p t0)),(1,(V.i .u32 t1))] H K = g27_p0 R t0 t1 H (fun t4 H=>K .ret [(4,(V.i .i64 t4))] H):=by kernel_rfl
theorem g27_p0_lin {R S:Type} {k:S→Option R} {t0:Option (Nat × Nat)} {t1:Int} {H:Heap} {fkR:Int→Heap→Option R} {gkR:Int→Heap→Option S} (hkR:∀ t4 H,fkR t4 H = (gkR t4 H).bind k):g27_p0 R t0 t1 H fkR = (g27_p0 S t0 t1 H gkR).bind k:=by
  delta g27_p0; exact (
    alo_lin fun i1 h2 =>
    g50_lin.l fun x3 x4 h5 =>
    sl_lin (
      hkR _ _) (
      g51_lin.l fun h6 =>
      g39_lin.l fun h7 =>
      hkR _ _))
noncomputable def g27_r:T27:=fun R t0 t1 H K =>
  g27_p0 R t0 t1 H (fun t4 H =>
    K t4 H)
theorem g27_r_lin:Lin27 (g27_r):=by
  constructor
  intro R S k t0 t1 H f g h
  exact g27_p0_lin (fun t4 H =>
    h _ _)
theorem g27_fn {R:Type} (t0:Option (Nat × Nat)) (t1:Int) (H:Heap) (K:V→Heap→Option R):evFn2 Try.prog (E27) loopLim lv27 Try.f27 kp27 [(V.p t0),(V.i .u32 t1)] H K = g27_r R t0 t1 H (fun r0 H=>K (V.i .i64 r0) H):=by
  have h0 : ∀ (t4 : Int) (H : Heap), kFn2 Try.prog Try.f27.results.toList K .ret [(4, (V.i .i64 t4))] H =
      K (V.i .i64 t4) H:=by intros; kernel_rfl
  have e0:=evFn2_code2 (P:=Try.prog) (c:=c27_0) (E:=(E27)) (lr:=loopLim) (lv:=lv27) (kp:=kp27) (fn:=Try.f27) (args:=[(V.p t0),(V.i .u32 t1)]) H K (by kernel_rfl) (Nat.le_of_ble_eq_true (by kernel_rfl)) (by kernel_rfl) (by kernel_rfl)
  have e1:ev2 Try.prog (E27) loopLim lv27 Try.f27.ntmps kp27 c27_0 (argFr 0 [(V.p t0),(V.i .u32 t1)]) H (kFn2 Try.prog Try.f27.results.toList K) = ev2 Try.prog (E27) loopLim lv27 Try.f27.ntmps kp27 c27_0 [(0,(V.p t0)),(1,(V.i .u32 t1))] H (kFn2 Try.prog Try.f27.results.toList K):=by kernel_rfl
  refine (e0.trans e1).trans ?_
  delta g27_r
  exact (g27_p0_eq t0 t1 H (kFn2 Try.prog Try.f27.results.toList K)).trans (congrArg (g27_p0 R t0 t1 H) (funext fun t4=>funext fun H=>h0 t4 H))
theorem g27_ok:FunOK Try.prog 27 (w27 (g27_r)):=by
  refine (runF2_ok (E27_good) mixed lim_ok Try.func27 (by kernel_rfl) lv27 kp27).of_le fun R args H K r hk=>?_
  unfold w27 at hk
  split at hk
  · exact (g27_fn _ _ H K).trans hk
  · cases hk
noncomputable def g27:T27:=g27_r
theorem g27_lin:Lin27 g27:=g27_r_lin
theorem ok27:FunOK Try.prog 27 (w27 g27):=g27_ok
def kp33:Nat→Option (List Nat):=kpOf [(0,[0,1,2]),(1,[0,2,7,8]),(2,[0,2,7,8,16]),(3,[6]),(4,[0,2,7,20]),(5,[6]),(6,[0,7]),(7,[]),(8,[6]),(100000,[0,2,7]),(200000,[0,2,7,8]),(300000,[6]),(400016,[0,2,7]),(400020,[0,2,7])]
noncomputable def E33:FEnv:=[(50,w50 g50),(39,w39 g39),(53,w53 g53)]
theorem E33_good:EnvGood Try.prog (E33):=((((EnvGood.nil _).cons ok53 (w53_lin g53_lin)).cons ok39 (w39_lin g39_lin)).cons ok50 (w50_lin g50_lin))
theorem E33_lin:EnvLin (E33):=by
  intro g F h
  simp only [E33,List.mem_cons,List.not_mem_nil,or_false] at h
  rcases h with h | h | h
  · cases h; exact w50_lin g50_lin
  · cases h; exact w39_lin g39_lin
  · cases h; exact w53_lin g53_lin
def lv33:Nat→Bool:=lvOf []
noncomputable def b33:Code:=Try.f33.body.getD .skip
noncomputable def c33_0:Code:=(.seq (codeAt [0] b33) (.seq (codeAt [1,0] b33) (.seq (.block 0 (.seq (codeAt [1,1,0,0,0] b33) (.cond (.tmp 16) (.seq (codeAt [1,1,0,0,1,0,0] b33) .ret) (.seq (codeAt [1,1,0,0,1,1,0] b33) (.cond (.tmp 20) (.seq (codeAt [1,1,0,0,1,1,1,0,0] b33) .ret) .skip))))) (.seq (codeAt [1,1,1,0] b33) (.seq (codeAt [1,1,1,1,0] b33) (.seq (codeAt [1,1,1,1,1,0] b33) .ret))))))
noncomputable def g33_p0 (R:Type) (t0:Option (Nat × Nat)) (t1:Int) (t2:Int) (H:Heap) (kR:Int→Heap→Option R):Option R :=
  alo H (.cells [(V.i .u8 (2:Int))] 96 false) fun i1 h2 =>
  g50 R t0 t1 (Sl.mk (some (i1,0)) 1 (.ex 1)) h2 fun x3 x4 h5 =>
  sel (x4 != (0:Int)) (
    kR x4 h5) (
    sel (decide (t2 < (16:Int))) (
      kR (1:Int) h5) (
      g39 R t0 x3 (3:Int) (0:Int) (0:Int) (0:Int) (0:Int) (0:Int) t2 (Sl.mk none 0 (.ex 0)) h5 fun h6 =>
      g53 R t0 x3 h6 fun h7 =>
      kR (0:Int) h7))
theorem g33_p0_eq {R:Type} (t0:Option (Nat × Nat)) (t1:Int) (t2:Int) (H:Heap) (K:Ex→Fr→Heap→Option R):ev2 Try.prog (E33) loopLim lv33 Try.f33.ntmps kp33 c33_0 [(0,(V.p t0)),(1,(V.i .u32 t1)),(2,(V.i .u8 t2))] H K = g33_p0 R t0 t1 t2 H (fun t6 H=>K .ret [(6,(V.i .i64 t6))] H):=by kernel_rfl
theorem g33_p0_lin {R S:Type} {k:S→Option R} {t0:Option (Nat × Nat)} {t1:Int} {t2:Int} {H:Heap} {fkR:Int→Heap→Option R} {gkR:Int→Heap→Option S} (hkR:∀ t6 H,fkR t6 H = (gkR t6 H).bind k):g33_p0 R t0 t1 t2 H fkR = (g33_p0 S t0 t1 t2 H gkR).bind k:=by
  delta g33_p0; exact (
    alo_lin fun i1 h2 =>
    g50_lin.l fun x3 x4 h5 =>
    sl_lin (
      hkR _ _) (
      sl_lin (
        hkR _ _) (
        g39_lin.l fun h6 =>
        g53_lin.l fun h7 =>
        hkR _ _)))
noncomputable def g33_r:T33:=fun R t0 t1 t2 H K =>
  g33_p0 R t0 t1 t2 H (fun t6 H =>
    K t6 H)
theorem g33_r_lin:Lin33 (g33_r):=by
  constructor
  intro R S k t0 t1 t2 H f g h
  exact g33_p0_lin (fun t6 H =>
    h _ _)
theorem g33_fn {R:Type} (t0:Option (Nat × Nat)) (t1:Int) (t2:Int) (H:Heap) (K:V→Heap→Option R):evFn2 Try.prog (E33) loopLim lv33 Try.f33 kp33 [(V.p t0),(V.i .u32 t1),(V.i .u8 t2)] H K = g33_r R t0 t1 t2 H (fun r0 H=>K (V.i .i64 r0) H):=by
  have h0 : ∀ (t6 : Int) (H : Heap), kFn2 Try.prog Try.f33.results.toList K .ret [(6, (V.i .i64 t6))] H =
      K (V.i .i64 t6) H:=by intros; kernel_rfl
  have e0:=evFn2_code2 (P:=Try.prog) (c:=c33_0) (E:=(E33)) (lr:=loopLim) (lv:=lv33) (kp:=kp33) (fn:=Try.f33) (args:=[(V.p t0),(V.i .u32 t1),(V.i .u8 t2)]) H K (by kernel_rfl) (Nat.le_of_ble_eq_true (by kernel_rfl)) (by kernel_rfl) (by kernel_rfl)
  have e1:ev2 Try.prog (E33) loopLim lv33 Try.f33.ntmps kp33 c33_0 (argFr 0 [(V.p t0),(V.i .u32 t1),(V.i .u8 t2)]) H (kFn2 Try.prog Try.f33.results.toList K) = ev2 Try.prog (E33) loopLim lv33 Try.f33.ntmps kp33 c33_0 [(0,(V.p t0)),(1,(V.i .u32 t1)),(2,(V.i .u8 t2))] H (kFn2 Try.prog Try.f33.results.toList K):=by kernel_rfl
  refine (e0.trans e1).trans ?_
  delta g33_r
  exact (g33_p0_eq t0 t1 t2 H (kFn2 Try.prog Try.f33.results.toList K)).trans (congrArg (g33_p0 R t0 t1 t2 H) (funext fun t6=>funext fun H=>h0 t6 H))
theorem g33_ok:FunOK Try.prog 33 (w33 (g33_r)):=by
  refine (runF2_ok (E33_good) mixed lim_ok Try.func33 (by kernel_rfl) lv33 kp33).of_le fun R args H K r hk=>?_
  unfold w33 at hk
  split at hk
  · exact (g33_fn _ _ _ H K).trans hk
  · cases hk
noncomputable def g33:T33:=g33_r
theorem g33_lin:Lin33 g33:=g33_r_lin
theorem ok33:FunOK Try.prog 33 (w33 g33):=g33_ok
def kp28:Nat→Option (List Nat):=kpOf [(0,[0,1,2]),(1,[0,2,7,8]),(2,[0,2,7,8,16]),(3,[6]),(4,[0,2,7,20]),(5,[6]),(6,[0,2,7,24]),(7,[6]),(8,[7]),(9,[7,67]),(10,[]),(11,[6]),(100000,[0,2,7]),(200000,[0,2,7,8]),(300000,[6]),(400016,[0,2,7]),(400020,[0,2,7]),(400024,[0,2,7]),(400067,[])]
noncomputable def E28:FEnv:=[(50,w50 g50),(36,w36 g36),(39,w39 g39)]
theorem E28_good:EnvGood Try.prog (E28):=((((EnvGood.nil _).cons ok39 (w39_lin g39_lin)).cons ok36 (w36_lin g36_lin)).cons ok50 (w50_lin g50_lin))
theorem E28_lin:EnvLin (E28):=by
  intro g F h
  simp only [E28,List.mem_cons,List.not_mem_nil,or_false] at h
  rcases h with h | h | h
  · cases h; exact w50_lin g50_lin
  · cases h; exact w36_lin g36_lin
  · cases h; exact w39_lin g39_lin
def lv28:Nat→Bool:=lvOf []
noncomputable def b28:Code:=Try.f28.body.getD .skip
noncomputable def c28_0:Code:=(.seq (codeAt [0] b28) (.seq (codeAt [1,0] b28) (.seq (.block 0 (.seq (codeAt [1,1,0,0,0] b28) (.cond (.tmp 16) (.seq (codeAt [1,1,0,0,1,0,0] b28) .ret) (.seq (codeAt [1,1,0,0,1,1,0] b28) (.cond (.tmp 20) (.seq (codeAt [1,1,0,0,1,1,1,0,0] b28) .ret) (.seq (codeAt [1,1,0,0,1,1,1,1,0] b28) (.cond (.tmp 24) (.seq (codeAt [1,1,0,0,1,1,1,1,1,0,0] b28) .ret) .skip))))))) (.seq (codeAt [1,1,1,0] b28) (.seq (codeAt [1,1,1,1,0,0] b28) (.seq (.cond (.tmp 67) (codeAt [1,1,1,1,0,1,0] b28) .skip) (.seq (codeAt [1,1,1,1,1,0] b28) .ret)))))))
noncomputable def g28_p0 (R:Type) (t0:Option (Nat × Nat)) (t1:Int) (t2:Sl) (H:Heap) (kR:Int→Heap→Option R):Option R :=
  alo H (.cells [(V.i .u8 (3:Int))] 96 false) fun i1 h2 =>
  g50 R t0 t1 (Sl.mk (some (i1,0)) 1 (.ex 1)) h2 fun x3 x4 h5 =>
  sel (x4 != (0:Int)) (
    kR x4 h5) (
    sel (decide (((t2.len:Nat):Int) > (200:Int))) (
      kR (3:Int) h5) (
      (x3).bind fun q6 =>
      ((h5).ldI .u8 q6.1 (q6.2 + 3)).bind fun x7 =>
      sel (x7 == (3:Int)) (
        (x3).bind fun q8 =>
        ((h5).ldI .u8 q8.1 (q8.2 + 8)).bind fun x9 =>
        (x3).bind fun q10 =>
        ((h5).ldI .u8 q10.1 (q10.2 + 9)).bind fun x11 =>
        (t0).bind fun q12 =>
        ((h5).ldI .i64 q12.1 ((q12.2 + 0) + 0)).bind fun x13 =>
        sel (decide ((Int.tmod (IntKind.wrap .i64 (IntKind.wrap .u8 (x9 - x11))) (128:Int)) ≥ x13)) (
          kR (14:Int) h5) (
          (x3).bind fun q14 =>
          ((h5).ldI .u8 q14.1 (q14.2 + 8)).bind fun x15 =>
          (x3).bind fun q16 =>
          ((h5).ldI .u8 q16.1 (q16.2 + 10)).bind fun x17 =>
          g36 R t2 h5 fun x18 h19 =>
          ((h19).ldI .u8 q16.1 (q16.2 + 10)).bind fun x20 =>
          if V.same (V.i .u8 x17) (V.i .u8 x20) = true then (
            ((h19).ldI .u8 q14.1 (q14.2 + 8)).bind fun x21 =>
            if V.same (V.i .u8 x15) (V.i .u8 x21) = true then (
              g39 R t0 x3 (4:Int) (0:Int) (0:Int) (0:Int) x15 x17 (0:Int) x18 h19 fun h22 =>
              (x3).bind fun q23 =>
              ((h22).ldI .u8 q23.1 (q23.2 + 3)).bind fun x24 =>
              sel (x24 == (3:Int)) (
                (x3).bind fun q25 =>
                ((h22).ldI .u8 q25.1 (q25.2 + 8)).bind fun x26 =>
                (x3).bind fun q27 =>
                ((h22).st q27.1 (q27.2 + 8) (V.i .u8 (Int.tmod (IntKind.wrap .u8 (x26 + (1:Int))) (128:Int)))).bind fun h29 =>
                kR (0:Int) h29) (
                kR (0:Int) h22))
            else (
              none))
          else (
            none))) (
        (x3).bind fun q30 =>
        ((h5).ldI .u8 q30.1 (q30.2 + 8)).bind fun x31 =>
        (x3).bind fun q32 =>
        ((h5).ldI .u8 q32.1 (q32.2 + 10)).bind fun x33 =>
        g36 R t2 h5 fun x34 h35 =>
        ((h35).ldI .u8 q32.1 (q32.2 + 10)).bind fun x36 =>
        if V.same (V.i .u8 x33) (V.i .u8 x36) = true then (
          ((h35).ldI .u8 q30.1 (q30.2 + 8)).bind fun x37 =>
          if V.same (V.i .u8 x31) (V.i .u8 x37) = true then (
            g39 R t0 x3 (4:Int) (0:Int) (0:Int) (0:Int) x31 x33 (0:Int) x34 h35 fun h38 =>
            (x3).bind fun q39 =>
            ((h38).ldI .u8 q39.1 (q39.2 + 3)).bind fun x40 =>
            sel (x40 == (3:Int)) (
              (x3).bind fun q41 =>
              ((h38).ldI .u8 q41.1 (q41.2 + 8)).bind fun x42 =>
              (x3).bind fun q43 =>
              ((h38).st q43.1 (q43.2 + 8) (V.i .u8 (Int.tmod (IntKind.wrap .u8 (x42 + (1:Int))) (128:Int)))).bind fun h45 =>
              kR (0:Int) h45) (
              kR (0:Int) h38))
          else (
            none))
        else (
          none))))
theorem g28_p0_eq {R:Type} (t0:Option (Nat × Nat)) (t1:Int) (t2:Sl) (H:Heap) (K:Ex→Fr→Heap→Option R):ev2 Try.prog (E28) loopLim lv28 Try.f28.ntmps kp28 c28_0 [(0,(V.p t0)),(1,(V.i .u32 t1)),(2,(V.sl t2))] H K = g28_p0 R t0 t1 t2 H (fun t6 H=>K .ret [(6,(V.i .i64 t6))] H):=by kernel_rfl
theorem g28_p0_lin {R S:Type} {k:S→Option R} {t0:Option (Nat × Nat)} {t1:Int} {t2:Sl} {H:Heap} {fkR:Int→Heap→Option R} {gkR:Int→Heap→Option S} (hkR:∀ t6 H,fkR t6 H = (gkR t6 H).bind k):g28_p0 R t0 t1 t2 H fkR = (g28_p0 S t0 t1 t2 H gkR).bind k:=by
  delta g28_p0
  repeat' (first | with_reducible (first | exact hkR _ _ | refine alo_lin fun _ _=>?_ | refine g50_lin.l fun _ _ _=>?_ | refine sl_lin ?_ ?_ | refine g36_lin.l fun _ _=>?_ | refine il ?_ ?_ | refine g39_lin.l fun _=>?_ | refine bl fun _=>?_) | exact (rfl:(none:Option R) = (none:Option S).bind k))
noncomputable def g28_r:T28:=fun R t0 t1 t2 H K =>
  g28_p0 R t0 t1 t2 H (fun t6 H =>
    K t6 H)
theorem g28_r_lin:Lin28 (g28_r):=by
  constructor
  intro R S k t0 t1 t2 H f g h
  exact g28_p0_lin (fun t6 H =>
    h _ _)
theorem g28_fn {R:Type} (t0:Option (Nat × Nat)) (t1:Int) (t2:Sl) (H:Heap) (K:V→Heap→Option R):evFn2 Try.prog (E28) loopLim lv28 Try.f28 kp28 [(V.p t0),(V.i .u32 t1),(V.sl t2)] H K = g28_r R t0 t1 t2 H (fun r0 H=>K (V.i .i64 r0) H):=by
  have h0 : ∀ (t6 : Int) (H : Heap), kFn2 Try.prog Try.f28.results.toList K .ret [(6, (V.i .i64 t6))] H =
      K (V.i .i64 t6) H:=by intros; kernel_rfl
  have e0:=evFn2_code2 (P:=Try.prog) (c:=c28_0) (E:=(E28)) (lr:=loopLim) (lv:=lv28) (kp:=kp28) (fn:=Try.f28) (args:=[(V.p t0),(V.i .u32 t1),(V.sl t2)]) H K (by kernel_rfl) (Nat.le_of_ble_eq_true (by kernel_rfl)) (by kernel_rfl) (by kernel_rfl)
  have e1:ev2 Try.prog (E28) loopLim lv28 Try.f28.ntmps kp28 c28_0 (argFr 0 [(V.p t0),(V.i .u32 t1),(V.sl t2)]) H (kFn2 Try.prog Try.f28.results.toList K) = ev2 Try.prog (E28) loopLim lv28 Try.f28.ntmps kp28 c28_0 [(0,(V.p t0)),(1,(V.i .u32 t1)),(2,(V.sl t2))] H (kFn2 Try.prog Try.f28.results.toList K):=by kernel_rfl
  refine (e0.trans e1).trans ?_
  delta g28_r
  exact (g28_p0_eq t0 t1 t2 H (kFn2 Try.prog Try.f28.results.toList K)).trans (congrArg (g28_p0 R t0 t1 t2 H) (funext fun t6=>funext fun H=>h0 t6 H))
theorem g28_ok:FunOK Try.prog 28 (w28 (g28_r)):=by
  refine (runF2_ok (E28_good) mixed lim_ok Try.func28 (by kernel_rfl) lv28 kp28).of_le fun R args H K r hk=>?_
  unfold w28 at hk
  split at hk
  · exact (g28_fn _ _ _ H K).trans hk
  · cases hk
noncomputable def g28:T28:=g28_r
theorem g28_lin:Lin28 g28:=g28_r_lin
theorem ok28:FunOK Try.prog 28 (w28 g28):=g28_ok
def kp32:Nat→Option (List Nat):=kpOf [(0,[0,1,2]),(1,[0,2,7,8]),(2,[0,2,7,8,16]),(3,[6]),(4,[0,2,7,20]),(5,[6]),(6,[0,2,7,23]),(7,[]),(8,[6]),(9,[7]),(10,[]),(11,[6]),(100000,[0,2,7]),(200000,[0,2,7,8]),(300000,[6]),(400016,[0,2,7]),(400020,[0,2,7]),(400023,[0,2,7])]
noncomputable def E32:FEnv:=[(50,w50 g50),(53,w53 g53),(39,w39 g39),(51,w51 g51)]
theorem E32_good:EnvGood Try.prog (E32):=(((((EnvGood.nil _).cons ok51 (w51_lin g51_lin)).cons ok39 (w39_lin g39_lin)).cons ok53 (w53_lin g53_lin)).cons ok50 (w50_lin g50_lin))
theorem E32_lin:EnvLin (E32):=by
  intro g F h
  simp only [E32,List.mem_cons,List.not_mem_nil,or_false] at h
  rcases h with h | h | h | h
  · cases h; exact w50_lin g50_lin
  · cases h; exact w53_lin g53_lin
  · cases h; exact w39_lin g39_lin
  · cases h; exact w51_lin g51_lin
def lv32:Nat→Bool:=lvOf []
noncomputable def b32:Code:=Try.f32.body.getD .skip
noncomputable def c32_0:Code:=(.seq (codeAt [0] b32) (.seq (codeAt [1,0] b32) (.seq (.block 0 (.seq (codeAt [1,1,0,0,0] b32) (.cond (.tmp 16) (.seq (codeAt [1,1,0,0,1,0,0] b32) .ret) (.seq (codeAt [1,1,0,0,1,1,0] b32) (.cond (.tmp 20) (.seq (codeAt [1,1,0,0,1,1,1,0,0] b32) .ret) (.seq (codeAt [1,1,0,0,1,1,1,1,0] b32) (.cond (.tmp 23) (.seq (codeAt [1,1,0,0,1,1,1,1,1,0,0] b32) (.seq (codeAt [1,1,0,0,1,1,1,1,1,0,1,0] b32) .ret)) .skip))))))) (.seq (codeAt [1,1,1,0] b32) (.seq (codeAt [1,1,1,1,0] b32) (.seq (codeAt [1,1,1,1,1,0] b32) .ret))))))
noncomputable def g32_p0 (R:Type) (t0:Option (Nat × Nat)) (t1:Int) (t2:Int) (H:Heap) (kR:Int→Heap→Option R):Option R :=
  alo H (.cells [(V.i .u8 (1:Int)),(V.i .u8 (3:Int))] 96 false) fun i1 h2 =>
  g50 R t0 t1 (Sl.mk (some (i1,0)) 2 (.ex 2)) h2 fun x3 x4 h5 =>
  sel (x4 != (0:Int)) (
    kR x4 h5) (
    sel (decide (t2 < (16:Int))) (
      kR (1:Int) h5) (
      (x3).bind fun q6 =>
      ((h5).ldI .u8 q6.1 (q6.2 + 4)).bind fun x7 =>
      sel (x7 == (1:Int)) (
        g53 R t0 x3 h5 fun h8 =>
        kR (0:Int) h8) (
        g39 R t0 x3 (7:Int) (0:Int) (0:Int) (0:Int) (0:Int) (0:Int) t2 (Sl.mk none 0 (.ex 0)) h5 fun h9 =>
        g51 R x3 (4:Int) h9 fun h10 =>
        kR (0:Int) h10)))
theorem g32_p0_eq {R:Type} (t0:Option (Nat × Nat)) (t1:Int) (t2:Int) (H:Heap) (K:Ex→Fr→Heap→Option R):ev2 Try.prog (E32) loopLim lv32 Try.f32.ntmps kp32 c32_0 [(0,(V.p t0)),(1,(V.i .u32 t1)),(2,(V.i .u8 t2))] H K = g32_p0 R t0 t1 t2 H (fun t6 H=>K .ret [(6,(V.i .i64 t6))] H):=by kernel_rfl
theorem g32_p0_lin {R S:Type} {k:S→Option R} {t0:Option (Nat × Nat)} {t1:Int} {t2:Int} {H:Heap} {fkR:Int→Heap→Option R} {gkR:Int→Heap→Option S} (hkR:∀ t6 H,fkR t6 H = (gkR t6 H).bind k):g32_p0 R t0 t1 t2 H fkR = (g32_p0 S t0 t1 t2 H gkR).bind k:=by
  delta g32_p0; exact (
    alo_lin fun i1 h2 =>
    g50_lin.l fun x3 x4 h5 =>
    sl_lin (
      hkR _ _) (
      sl_lin (
        hkR _ _) (
        bl fun q6 =>
        bl fun x7 =>
        sl_lin (
          g53_lin.l fun h8 =>
          hkR _ _) (
          g39_lin.l fun h9 =>
          g51_lin.l fun h10 =>
          hkR _ _))))
noncomputable def g32_r:T32:=fun R t0 t1 t2 H K =>
  g32_p0 R t0 t1 t2 H (fun t6 H =>
    K t6 H)
theorem g32_r_lin:Lin32 (g32_r):=by
  constructor
  intro R S k t0 t1 t2 H f g h
  exact g32_p0_lin (fun t6 H =>
    h _ _)
theorem g32_fn {R:Type} (t0:Option (Nat × Nat)) (t1:Int) (t2:Int) (H:Heap) (K:V→Heap→Option R):evFn2 Try.prog (E32) loopLim lv32 Try.f32 kp32 [(V.p t0),(V.i .u32 t1),(V.i .u8 t2)] H K = g32_r R t0 t1 t2 H (fun r0 H=>K (V.i .i64 r0) H):=by
  have h0 : ∀ (t6 : Int) (H : Heap), kFn2 Try.prog Try.f32.results.toList K .ret [(6, (V.i .i64 t6))] H =
      K (V.i .i64 t6) H:=by intros; kernel_rfl
  have e0:=evFn2_code2 (P:=Try.prog) (c:=c32_0) (E:=(E32)) (lr:=loopLim) (lv:=lv32) (kp:=kp32) (fn:=Try.f32) (args:=[(V.p t0),(V.i .u32 t1),(V.i .u8 t2)]) H K (by kernel_rfl) (Nat.le_of_ble_eq_true (by kernel_rfl)) (by kernel_rfl) (by kernel_rfl)
  have e1:ev2 Try.prog (E32) loopLim lv32 Try.f32.ntmps kp32 c32_0 (argFr 0 [(V.p t0),(V.i .u32 t1),(V.i .u8 t2)]) H (kFn2 Try.prog Try.f32.results.toList K) = ev2 Try.prog (E32) loopLim lv32 Try.f32.ntmps kp32 c32_0 [(0,(V.p t0)),(1,(V.i .u32 t1)),(2,(V.i .u8 t2))] H (kFn2 Try.prog Try.f32.results.toList K):=by kernel_rfl
  refine (e0.trans e1).trans ?_
  delta g32_r
  exact (g32_p0_eq t0 t1 t2 H (kFn2 Try.prog Try.f32.results.toList K)).trans (congrArg (g32_p0 R t0 t1 t2 H) (funext fun t6=>funext fun H=>h0 t6 H))
theorem g32_ok:FunOK Try.prog 32 (w32 (g32_r)):=by
  refine (runF2_ok (E32_good) mixed lim_ok Try.func32 (by kernel_rfl) lv32 kp32).of_le fun R args H K r hk=>?_
  unfold w32 at hk
  split at hk
  · exact (g32_fn _ _ _ H K).trans hk
  · cases hk
noncomputable def g32:T32:=g32_r
theorem g32_lin:Lin32 g32:=g32_r_lin
theorem ok32:FunOK Try.prog 32 (w32 g32):=g32_ok
end Go.Proofs.Ytnlfkllnmobppaa

