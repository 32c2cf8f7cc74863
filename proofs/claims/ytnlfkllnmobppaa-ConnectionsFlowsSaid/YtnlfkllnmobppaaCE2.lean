/- Two desks in the heap: settle, event, desks. -/
import Derived.Test.YtnlfkllnmobppaaCE1
namespace Go.Proofs.Ytnlfkllnmobppaa
open Go AM Go.RowKit
set_option linter.unusedVariables false
set_option linter.unusedSimpArgs false

theorem map_fst_isEmpty {α β:Type} {l:List (α × β)} {m:List α} (h:l.map (·.1) = m):decide (l.length ≠ 0) = !m.isEmpty:=by
  subst h; cases l <;> rfl
theorem to_rg {D:Dk} (h:D.Good) {l:Lt} (hl:l ∈ D.out):l.m.Ok:=h.o l hl
section
variable {n0:Nat} {H:Heap} {x y:Nat} {F G:Nat→Prop} {S T:Dk}
/-- one side's turn -/
theorem p19_9 {k : Int} (hk : k = 0 ∨ k = 1) {i3 : Nat} (t3 : Int) (t4 : Bool) (h : W2 n0 H x y F G S T) (hi : H.get i3 = some (.cells (dcells k x y) 40 false)) (hiF : ¬F i3 ∧ ¬G i3) {T' : Dk} (hd : deliver k S.out T = some T') (gS : S.Good) (gT : T.Good) {N : Nat} (lS : S.Le N) (lT : T.Le N) (hN : N ≤ 1000000) :
    ∃ H' F' G',(∀ (R:Type) (kN:Nat→Nat→Int→Bool→Int→Heap→Option R) (kR:Bool→Heap→Option R),g19_p9 R i3 0 t3 t4 k H kN kR = kN i3 0 t3 (t4 || !S.out.isEmpty) k H')∧W2 n0 H' x y F' G' S.take T'∧Mv n0 H F G H' F' G'∧T'.Good∧T'.Le (N + S.out.length):=by
  obtain ⟨k1,k2,k3,k4⟩:=k_w hk
  obtain ⟨r,H1,os,e1,d1,s1,r1,o1,q1,n1⟩:=s24 h.a lS.w
  have w1:=h.step d1 s1 (fun i hi=>.inl hi.1)
  have mv1:Mv n0 H F G H1 (fun i=>F i∧i ∉ sid r) G:=.of s1 (fun i hi=>.inl hi.1)
  obtain ⟨hi1,hi1F,hi1G⟩:=mv1.obj h.a.wf hi hiF
  have hlen:os.length = S.out.length:=by rw [← o1,List.length_map]
  have hto:∀ z ∈ os,z.1.m.Ok∧0 ≤ z.1.to∧z.1.to ≤ 65535:=by
    have key:∀ (l:List Lt) (D:Dk) (D':Dk),deliver k l D = some D'→∀ z ∈ l,z.to = 1 - k:=by
      intro l
      induction l with
      | nil=>intro D D' _ z hz; cases hz
      | cons a l ih =>
        intro D D' hd z hz
        simp only [deliver] at hd
        split at hd
        · rename_i hc
          rcases List.mem_cons.1 hz with rfl | hz
          · exact hc.1
          · exact ih _ _ hd z hz
        · cases hd
    intro z hz
    have hm:z.1 ∈ S.out:=by rw [← o1]; exact List.mem_map.2 ⟨z,hz,rfl⟩
    have:=key _ _ _ hd z.1 hm
    exact ⟨gS.o _ hm,by omega⟩
  obtain ⟨H2,G2,e2,w2,s2,f2,g2,l2⟩:=p19_i hk t3 (by rw [hlen]; have:=lS.o; omega) os.length 0 H1 G T T' N t4 (by omega) w1 r1 (fun q hq=>⟨fun hg=>h.dj q (q1 q hq).1 hg,(q1 q hq).2⟩) hi1 hiF.2 hto (by rw [List.drop_zero,o1]; exact hd) gT lT (by rw [hlen]; have:=lS.o; omega)
  refine ⟨H2,_,G2,fun R kN kR=>?_,w2,mv1.trans (Mv.of s2 f2).swap,g2,by rw [← hlen]; exact l2⟩
  simp only [g19_p9,g19_p8,g19_p4,g19_p7,g19_p6]
  rw [if_pos k3,(dc_ld hk hi).1,Option.bind_some]
  simp only [e1]
  rw [show ((0:Nat):Int) = 0 from rfl] at e2
  rw [e2,Option.bind_some,map_fst_isEmpty o1]
  rfl
/-- both sides' turns -/
theorem p19_18 {A B B1 A1 : Dk} {i3 : Nat} (t3 : Int) (h : W2 n0 H x y F G A B) (hi : H.get i3 = some (.cells (dcells 0 x y) 40 false)) (hiF : ¬F i3 ∧ ¬G i3) (h0 : deliver 0 A.out B = some B1) (h1 : deliver 1 B1.out A.take = some A1) (gA : A.Good) (gB : B.Good) {N : Nat} (lA : A.Le N) (lB : B.Le N) (hN : N ≤ 100000) :
    ∃ H' F' G',(∀ (R:Type) (kN:Nat→Nat→Int→Heap→Option R) (kR:Bool→Heap→Option R),g19_p18 R i3 0 t3 H kN kR = if (A.out.isEmpty && B1.out.isEmpty) = true then kR true H' else kN i3 0 t3 H')∧W2 n0 H' x y F' G' A1 B1.take∧Mv n0 H F G H' F' G'∧H'.get i3 = some (.cells (dcells 0 x y) 40 false)∧(¬F' i3∧¬G' i3)∧A1.Good∧A1.Le (N + A.out.length + B1.out.length)∧B1.Good∧B1.Le (N + A.out.length):=by
  have la:=lA.o
  obtain ⟨H1,F1,G1,e1,w1,m1,g1,l1⟩:=p19_9 (.inl rfl) t3 false h hi hiF h0 gA gB lA lB (by omega)
  obtain ⟨hi1,hi1F⟩:=m1.obj h.a.wf hi hiF
  have lb:=l1.o
  have lAt:A.take.Le (N + A.out.length):=⟨lA.w,by simp,by have:=lA.e; simp only [Dk.take_evs]; omega,by have:=lA.f; simp only [Dk.take_fro]; omega⟩
  obtain ⟨H2,G2,F2,e2,w2,m2,g2,l2⟩:=p19_9 (k:=1) (.inr rfl) t3 (false || !A.out.isEmpty) w1.swap hi1 ⟨hi1F.2,hi1F.1⟩ h1 g1 gA.take l1 lAt (by omega)
  have m12:=m1.trans m2.swap
  obtain ⟨hi2,hi2F⟩:=m12.obj h.a.wf hi hiF
  refine ⟨H2,F2,G2,fun R kN kR=>?_,w2.swap,m12,hi2,hi2F,g2,l2,g1,l1⟩
  simp only [g19_p18,g19_p17,g19_p2,g19_p16,g19_p14,g19_p13]
  have t0:g19_p13_b (i3,0,t3,false,0) H = some (.go (i3,0,t3,(false || !A.out.isEmpty),1),H1):=by
    unfold g19_p13_b g19_p12 g19_p3
    simp only
    rw [decide_eq_true (by omega),sel_true]
    unfold g19_p11
    rw [e1]
    rfl
  have t1:g19_p13_b (i3,0,t3,(false || !A.out.isEmpty),1) H1 = some (.go (i3,0,t3,((false || !A.out.isEmpty) || !B1.out.isEmpty),2),H2):=by
    unfold g19_p13_b g19_p12 g19_p3
    simp only
    rw [decide_eq_true (by omega),sel_true]
    unfold g19_p11
    rw [e2]
    rfl
  have t2:g19_p13_b (i3,0,t3,((false || !A.out.isEmpty) || !B1.out.isEmpty),2) H2 = some (.up (.inl (i3,0,t3,((false || !A.out.isEmpty) || !B1.out.isEmpty))),H2):=by
    unfold g19_p13_b g19_p12 g19_p3
    simp only
    rw [decide_eq_false (by omega),sel_false]
  rw [tlim_go t0,tlim_go t1,tlim_up t2,Option.bind_some]
  simp only [cas,g19_p15]
  cases A.out.isEmpty <;> cases B1.out.isEmpty <;> rfl
theorem settle_step {t3 : Int} {i3 : Nat} {H H' : Heap} (ht : 0 ≤ t3 ∧ t3 < 10) {b : Bool} (e : ∀ (R : Type) (kN : Nat → Nat → Int → Heap → Option R) (kR : Bool → Heap → Option R), g19_p18 R i3 0 t3 H kN kR = if b = true then kR true H' else kN i3 0 t3 H') :
    g19_p22_b (i3,0,t3) H = if b = true then some (.up (.inr true),H') else some (.go (i3,0,t3 + 1),H'):=by
  unfold g19_p22_b g19_p21 g19_p1
  simp only
  rw [decide_eq_true ht.2,sel_true]
  unfold g19_p20
  rw [e]
  cases b
  · simp only [Bool.false_eq_true,if_false,g19_p19]
    rw [w64 (by omega)]
  · rfl
/-- settle -/
theorem s19 {k : Int} (hk : k = 0 ∨ k = 1) (h : W2 n0 H x y F G S T) {S2 T2 : Dk} (ho : One k S T S2 T2) (gS : S.Good) (gT : T.Good) {N : Nat} (lS : S.Le N) (lT : T.Le N) (hN : N ≤ 1000) :
    ∃ H' F' G',(∀ (R:Type) (K:Bool→Heap→Option R),g19 R (if k = 0 then some (x,0) else some (y,0)) (if k = 0 then some (y,0) else some (x,0)) H K = K true H')∧W2 n0 H' x y F' G' S2 T2∧Mv n0 H F G H' F' G'∧S2.Good∧T2.Good:=by
  obtain ⟨l,T1,o1,o2,h1,h2,h3,rfl⟩:=ho
  have l1:=lS.o
  have hw1:=h.a.wf.new (.cells (dcells k x y) 40 false)
  have hx1:=Ext.new H (.cells (dcells k x y) 40 false)
  have hg1:=Heap.gnew H (.cells (dcells k x y) 40 false)
  have st0:∀ F,Stp n0 H (H.new (.cells (dcells k x y) 40 false)) F:=fun F=>.ext hx1
  have w0:W2 n0 (H.new (.cells (dcells k x y) 40 false)) x y F G S T:=⟨h.a.ext hw1 hx1,h.b.ext hw1 hx1,h.dj,fun i hi=>Nat.lt_of_lt_of_le (h.fl i hi) hx1.next,fun i hi=>Nat.lt_of_lt_of_le (h.gl i hi) hx1.next⟩
  have m0:Mv n0 H F G (H.new (.cells (dcells k x y) 40 false)) F G:=⟨st0 _,fun i hi=>.inl hi⟩
  have hn:¬F H.next∧¬G H.next:=⟨fun hf=>by have:=h.fl _ hf; omega,fun hf=>by have:=h.gl _ hf; omega⟩
  have core:∀ (R:Type) (K:Bool→Heap→Option R),g19 R (if k = 0 then some (x,0) else some (y,0)) (if k = 0 then some (y,0) else some (x,0)) H K = (tlim (g19_p22_b) (H.next,0,0) (H.new (.cells (dcells k x y) 40 false))).bind fun p=>cas p.1 (fun r=>K false p.2) (fun r0=>K r0 p.2):=fun R K=>by
    simp only [g19,g19_r,g19_p26,g19_p0,alo,g19_p25,g19_p24,g19_p23,g19_p22]
    rcases hk with rfl | rfl <;> rfl
  generalize hG1:H.new (.cells (dcells k x y) 40 false) = H1 at *
  rcases hk with rfl | rfl
  · -- side 0
    obtain ⟨H2,F2,G2,e2,w2,m2,i2,n2,g2,q2,g2',q2'⟩:=p19_18 0 w0 hg1 hn (B1:=T1) (A1:=S2) (by rw [o1]; exact h1) (by simpa using h2) gS gT (lS.mono (show N ≤ 1000 from hN)) (lT.mono hN) (by omega)
    have lt1:=q2'.o
    obtain ⟨H3,F3,G3,e3,w3,m3,i3,n3,g3,q3,g3',q3'⟩:=p19_18 1 w2 i2 n2 (B1:=T1.take) (A1:=S2.take) (by rw [h3]; rfl) (by simp [deliver]) g2 g2'.take (q2.mono (show _ ≤ 5000 by rw [o1]; simp only [List.length_cons,List.length_nil]; rw [o1] at lt1; simp only [List.length_cons,List.length_nil] at lt1; omega)) (⟨q2'.w,by simp,by have:=q2'.e; simp only [Dk.take_evs]; rw [o1] at this; simp only [List.length_cons,List.length_nil] at this; omega,by have:=q2'.f; simp only [Dk.take_fro]; rw [o1] at this; simp only [List.length_cons,List.length_nil] at this; omega⟩:T1.take.Le 5000) (by omega)
    refine ⟨H3,F3,G3,fun R K=>?_,?_,m0.trans (m2.trans m3),g2,g2'.take⟩
    · rw [core]
      have a1:=settle_step (t3:=0) (by omega) e2
      rw [o1] at a1
      simp only [List.isEmpty_cons,Bool.false_and,Bool.false_eq_true,if_false] at a1
      have a2:=settle_step (t3:=1) (by omega) e3
      rw [h3] at a2
      simp only [List.isEmpty_nil,Dk.take_out,Bool.and_self,if_true] at a2
      rw [tlim_go a1,show (0:Int) + 1 = 1 from rfl,tlim_up a2]
      rfl
    · rw [Dk.take_id h3] at w3; exact w3
  · -- side 1
    obtain ⟨H2,G2,F2,e2,w2,m2,i2,n2,g2,q2,g2',q2'⟩:=p19_18 0 w0.swap (by rw [hg1]; rfl) ⟨hn.2,hn.1⟩ (B1:=S) (A1:=T1) (by rw [o2]; rfl) (by rw [o1,Dk.take_id o2]; exact h1) gT gS (lT.mono hN) (lS.mono hN) (by omega)
    rw [o1,o2] at q2
    rw [o2] at q2'
    simp only [List.length_cons,List.length_nil] at q2 q2'
    have q5:S.take.Le 5000:=⟨q2'.w,by simp,by have:=q2'.e; simp only [Dk.take_evs]; omega,by have:=q2'.f; simp only [Dk.take_fro]; omega⟩
    obtain ⟨H3,G3,F3,e3,w3,m3,i3,n3,g3,q3,g3',q3'⟩:=p19_18 1 w2 i2 n2 (B1:=S2) (A1:=T1.take) (by simpa using h2) (by rw [h3]; rfl) g2 g2'.take (q2.mono (show _ ≤ 5000 by omega)) q5 (by omega)
    have a1:=settle_step (t3:=0) (by omega) e2
    rw [o1,o2] at a1
    simp only [List.isEmpty_cons,List.isEmpty_nil,Bool.and_false,Bool.false_eq_true,if_false] at a1
    have a2:=settle_step (t3:=1) (by omega) e3
    rw [h3] at a2
    simp only [List.isEmpty_nil,Bool.and_true] at a2
    have hS2:S2.take = S2:=Dk.take_id h3
    rw [hS2] at w3
    by_cases hb:T1.out.isEmpty = true
    · refine ⟨H3,F3,G3,fun R K=>?_,w3.swap,m0.trans (m2.trans m3).swap,g3',g3⟩
      rw [core,tlim_go a1,show (0:Int) + 1 = 1 from rfl]
      rw [hb,if_pos rfl] at a2
      rw [tlim_up a2]; rfl
    · have l3:=q3'.o
      have h3o:T1.out.length ≤ 2000:=by have:=q2.o; omega
      have q6:T1.take.Le 20000:=⟨q3.w,by simp,by have:=q3.e; rw [h3] at this; simp only [List.length_nil] at this; omega,by have:=q3.f; rw [h3] at this; simp only [List.length_nil] at this; omega⟩
      obtain ⟨H4,G4,F4,e4,w4,m4,i4,n4,g4,q4,g4',q4'⟩:=p19_18 2 w3 i3 n3 (B1:=S2) (A1:=T1.take) (by simp [deliver]) (by rw [h3]; rfl) g3 g3' q6 (q3'.mono (by omega)) (by omega)
      rw [hS2] at w4
      have a3:=settle_step (t3:=2) (by omega) e4
      rw [h3] at a3
      simp only [Dk.take_out,List.isEmpty_nil,Bool.and_true,if_true] at a3
      refine ⟨H4,F4,G4,fun R K=>?_,w4.swap,m0.trans (m2.trans (m3.trans m4)).swap,g3',g3⟩
      rw [core,tlim_go a1,show (0:Int) + 1 = 1 from rfl]
      rw [if_neg hb] at a2
      rw [tlim_go a2,show (1:Int) + 1 = 2 from rfl,tlim_up a3]; rfl
/-- settle, where there is nothing -/
theorem s19_idle {A B : Dk} (h : W2 n0 H x y F G A B) (oA : A.out = []) (oB : B.out = []) (gA : A.Good) (gB : B.Good) {N : Nat} (lA : A.Le N) (lB : B.Le N) (hN : N ≤ 1000) :
    ∃ H' F' G',(∀ (R:Type) (K:Bool→Heap→Option R),g19 R (some (x,0)) (some (y,0)) H K = K true H')∧W2 n0 H' x y F' G' A B∧Mv n0 H F G H' F' G':=by
  have hw1:=h.a.wf.new (.cells (dcells 0 x y) 40 false)
  have hx1:=Ext.new H (.cells (dcells 0 x y) 40 false)
  have hg1:=Heap.gnew H (.cells (dcells 0 x y) 40 false)
  have w0:W2 n0 (H.new (.cells (dcells 0 x y) 40 false)) x y F G A B:=⟨h.a.ext hw1 hx1,h.b.ext hw1 hx1,h.dj,fun i hi=>Nat.lt_of_lt_of_le (h.fl i hi) hx1.next,fun i hi=>Nat.lt_of_lt_of_le (h.gl i hi) hx1.next⟩
  have m0:Mv n0 H F G (H.new (.cells (dcells 0 x y) 40 false)) F G:=⟨.ext hx1,fun i hi=>.inl hi⟩
  have hn:¬F H.next∧¬G H.next:=⟨fun hf=>by have:=h.fl _ hf; omega,fun hf=>by have:=h.gl _ hf; omega⟩
  obtain ⟨H2,F2,G2,e2,w2,m2,i2,n2,g2,q2,g2',q2'⟩:=p19_18 0 w0 hg1 hn (B1:=B) (A1:=A) (by rw [oA]; rfl) (by rw [oB,Dk.take_id oA]; rfl) gA gB (lA.mono hN) (lB.mono hN) (by omega)
  rw [Dk.take_id oB] at w2
  have a1:=settle_step (t3:=0) (by omega) e2
  rw [oA,oB] at a1
  simp only [List.isEmpty_nil,Bool.and_self,if_true] at a1
  refine ⟨H2,F2,G2,fun R K=>?_,w2,m0.trans m2⟩
  have core:g19 R (some (x,0)) (some (y,0)) H K = (tlim (g19_p22_b) (H.next,0,0) (H.new (.cells (dcells 0 x y) 40 false))).bind fun p=>cas p.1 (fun r=>K false p.2) (fun r0=>K r0 p.2):=by
    simp only [g19,g19_r,g19_p26,g19_p0,alo,g19_p25,g19_p24,g19_p23,g19_p22]; rfl
  rw [core,tlim_up a1]; rfl
end
end Go.Proofs.Ytnlfkllnmobppaa

