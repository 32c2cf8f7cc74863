/- Two desks in the heap: flows. -/
import Derived.Test.YtnlfkllnmobppaaCE4
namespace Go.Proofs.Ytnlfkllnmobppaa
open Go AM Go.RowKit
set_option linter.unusedVariables false
set_option linter.unusedSimpArgs false

theorem DI.le {k:Int} {D:Dk} {l:List Gp} (h:DI k D l):D.Le l.length:=by
  have:=h.len; have:=h.w
  exact ⟨by omega,by rw [h.out]; simp,by rw [h.evs]; simp,by omega⟩
/-- what an act leaves -/
structure FlR (n0:Nat) (H:Heap) (x y:Nat) (F G:Nat→Prop) (k:Int) (l:List Gp) (i:Nat) (p:Gp) (q o:Nat) (vs:List V) (H':Heap) (F' G':Nat→Prop) (S' T':Dk) (p':Gp):Prop where
  w:W2 n0 H' x y F' G' S' T'
  ds:DI k S' (l.set i p')
  dt:DI (1 - k) T' (l.set i p')
  gs:S'.Good
  gt:T'.Good
  ok:p'.Ok
  by':p'.by' = p.by'
  cls:p'.cls = p.cls
  get:H'.get q = some (.cells (vs.set (o + 4) (.i .i64 p'.st)) 54 false)
  nq:¬F' q∧¬G' q
  kp:Kp n0 H H'
  sub:∀ i,F' i ∨ G' i→(F i ∨ G i) ∨ (H.next ≤ i∧i < H'.next)
  oth:∀ i o,H.get i = some o→¬F i→¬G i→i ≠ q→H'.get i = some o
section
variable {n0:Nat} {H:Heap} {x y:Nat} {F G:Nat→Prop} {S T:Dk} {l:List Gp} {i:Nat} {p:Gp}
theorem set_same {q o:Nat} {vs:List V} (h:PV H q o vs p i):vs.set (o + 4) (.i .i64 p.st) = vs:=by
  have h4:=h.v 4 (by omega)
  have hl:=h.len
  rw [List.getElem?_eq_getElem (by omega)] at h4
  have:vs[o + 4] = .i .i64 p.st:=Option.some.inj h4
  rw [← this,List.set_getElem_self]
theorem lset_same (hi:l[i]? = some p):l.set i p = l:=by
  obtain ⟨h1,h2⟩:=List.getElem?_eq_some_iff.1 hi
  rw [← h2,List.set_getElem_self]
/-- an act that was not done -/
theorem fl_no {k : Int} (hk : k = 0 ∨ k = 1) (h : W2 n0 H x y F G S T) (hS : DI k S l) (hT : DI (1 - k) T l) (hl : l.length ≤ 900) (hi : l[i]? = some p) (ok : p.Ok) (gS : S.Good) (gT : T.Good) {q o : Nat} {vs : List V} (hq : PV H q o vs p i) (hqF : ¬F q ∧ ¬G q)
    {H1 H2:Heap} (hH1:H1 = H.new (.cells (dcells k x y) 40 false)) (got:Got n0 H1 x F H2 S) {e:Int} (he:e ≠ 0) (t1:Option (Nat × Nat)) (t13 a b c d f:Int) (sl:Sl) :
    ∃ H' F' G' S' T' p',(∀ (R:Type) (K:Bool→Heap→Option R),g22_p9 R t1 k H.next 0 e t13 e a b c d f sl H2 K = K true H')∧FlR n0 H x y F G k l i p q o vs H' F' G' S' T' p':=by
  have hw1:=h.a.wf.new (.cells (dcells k x y) 40 false)
  have hx1:=Ext.new H (.cells (dcells k x y) 40 false)
  have hg1:=Heap.gnew H (.cells (dcells k x y) 40 false)
  have hn1:(H.new (.cells (dcells k x y) 40 false)).next = H.next + 1:=rfl
  rw [← hH1] at hw1 hx1 hg1 hn1
  have w0:W2 n0 H1 x y F G S T:=⟨h.a.ext hw1 hx1,h.b.ext hw1 hx1,h.dj,fun i hi=>Nat.lt_of_lt_of_le (h.fl i hi) hx1.next,fun i hi=>Nat.lt_of_lt_of_le (h.gl i hi) hx1.next⟩
  have m0:Mv n0 H F G H1 F G:=⟨.ext hx1,fun i hi=>.inl hi⟩
  have hn:¬F H.next∧¬G H.next:=⟨fun hf=>by have:=h.fl _ hf; omega,fun hf=>by have:=h.gl _ hf; omega⟩
  have w1:=w0.step got.da got.st (fun i hi=>hi)
  have m1:Mv n0 H1 F G H2 (grown F H1 H2) G:=.of got.st (fun i hi=>hi)
  obtain ⟨a2,a2F⟩:=m1.obj hw1 hg1 hn
  obtain ⟨H3,F3,G3,e3,w3,m3⟩:=p22_no hk w1 a2 a2F hS.out hT.out hS.evs hT.evs gS gT hS.le hT.le (by omega) he t1 t13 a b c d f sl
  have m:=m0.trans (m1.trans m3)
  obtain ⟨hq3,hq3F⟩:=m.obj h.a.wf hq.get hqF
  refine ⟨H3,F3,G3,S,T,p,e3,w3,by rw [lset_same hi]; exact hS,by rw [lset_same hi]; exact hT,gS,gT,ok,rfl,rfl,by rw [set_same hq]; exact hq3,hq3F,m.st.kp,m.sub,fun i o hio hf hg _=>(m.obj h.a.wf hio ⟨hf,hg⟩).1⟩
/-- an act that was done -/
theorem fl_ok {k : Int} (hk : k = 0 ∨ k = 1) (h : W2 n0 H x y F G S T) (hT : DI (1 - k) T l) (hl : l.length ≤ 900) (gT : T.Good) {q o : Nat} {vs : List V} (hq : PV H q o vs p i) (hqF : ¬F q ∧ ¬G q) (hqn : n0 ≤ q)
    {H1 H2:Heap} (hH1:H1 = H.new (.cells (dcells k x y) 40 false)) {S1 S2 T2:Dk} (got:Got n0 H1 x F H2 S1) (gS1:S1.Good) (lS1:S1.Le (l.length + 2)) (ho:One k S1 T S2 T2) {ref what fr cls cau:Int} {d:List Int} {sl:Sl} (hs:Dat n0 H sl d) (eT:T2.evs = [⟨ref,what,fr,cls,cau,d⟩]) (hwh:what ≠ 0) {p':Gp} (d1:DI k S2 (l.set i p')) (d2:DI (1 - k) T2.heard (l.set i p')) (ok':p'.Ok) (hb:p'.by' = p.by') (hc:p'.cls = p.cls) :
    ∃ H' F' G' S' T',(∀ (R:Type) (K:Bool→Heap→Option R),g22_p9 R (some (q,o)) k H.next 0 0 p'.st 0 ref what fr cls cau sl H2 K = K true H')∧FlR n0 H x y F G k l i p q o vs H' F' G' S' T' p':=by
  have hw1:=h.a.wf.new (.cells (dcells k x y) 40 false)
  have hx1:=Ext.new H (.cells (dcells k x y) 40 false)
  have hg1:=Heap.gnew H (.cells (dcells k x y) 40 false)
  have hn1:(H.new (.cells (dcells k x y) 40 false)).next = H.next + 1:=rfl
  rw [← hH1] at hw1 hx1 hg1 hn1
  have w0:W2 n0 H1 x y F G S T:=⟨h.a.ext hw1 hx1,h.b.ext hw1 hx1,h.dj,fun i hi=>Nat.lt_of_lt_of_le (h.fl i hi) hx1.next,fun i hi=>Nat.lt_of_lt_of_le (h.gl i hi) hx1.next⟩
  have m0:Mv n0 H F G H1 F G:=⟨.ext hx1,fun i hi=>.inl hi⟩
  have hn:¬F H.next∧¬G H.next:=⟨fun hf=>by have:=h.fl _ hf; omega,fun hf=>by have:=h.gl _ hf; omega⟩
  have w1:=w0.step got.da got.st (fun i hi=>hi)
  have m1:Mv n0 H1 F G H2 (grown F H1 H2) G:=.of got.st (fun i hi=>hi)
  obtain ⟨a2,a2F⟩:=m1.obj hw1 hg1 hn
  have m01:=m0.trans m1
  obtain ⟨hq2,hq2F⟩:=m01.obj h.a.wf hq.get hqF
  have hw2:0 < S2.w∧0 < T2.w:=⟨by have:=d1.w; omega,by have:=d2.w; simp only [Dk.heard_w] at this; omega⟩
  obtain ⟨H3,F3,G3,e3,w3,b1,b2,b3,b4,b5,b6,b7⟩:=p22_ok hk w1 a2 a2F ho gS1 gT lS1 (hT.le.mono (show l.length ≤ l.length + 2 by omega)) (by omega) hw2 (hs.kp m01.st.kp) d1.evs eT hwh (hq.keep (hq2.trans hq.get.symm)) hq2F hqn p'.st
  have n1:=m01.st.fr.next
  refine ⟨H3,F3,G3,S2,T2.heard,e3,w3,d1,d2,b3,b4.heard,ok',hb,hc,b1,b2,m01.st.kp.trans b5,fun j hj=>?_,fun j ob hj hf hg hne=>?_⟩
  · have:=b5.nx
    rcases b6 j hj with hj | hj
    · rcases m01.sub j hj with hj | hj
      · exact .inl hj
      · exact .inr (by omega)
    · exact .inr (by omega)
  · obtain ⟨c1,c2⟩:=m01.obj h.a.wf hj ⟨hf,hg⟩
    exact b7 j ob c1 c2.1 c2.2 hne
/-- flows -/
theorem s22 {k : Int} (hk : k = 0 ∨ k = 1) (h : W2 n0 H x y F G S T) (hS : DI k S l) (hT : DI (1 - k) T l) (hl : l.length ≤ 900) (hi : l[i]? = some p) (ok : p.Ok) (gS : S.Good) (gT : T.Good) {q o : Nat} {vs : List V} (hq : PV H q o vs p i) (hqF : ¬F q ∧ ¬G q) (hqn : n0 ≤ q) {w n m : Int} (hw : 0 ≤ w) (hm : 0 ≤ m ∧ m ≤ 255) (hn : 0 ≤ n) {sl : Sl} {d : List Int} (hd : Dat n0 H sl d) (hdl : d.length ≤ 200) :
    ∃ H' F' G' S' T' p',(∀ (R:Type) (K:Bool→Heap→Option R),g22 R (if k = 0 then some (x,0) else some (y,0)) (if k = 0 then some (y,0) else some (x,0)) (some (q,o)) k w n m sl H K = K true H')∧FlR n0 H x y F G k l i p q o vs H' F' G' S' T' p':=by
  obtain ⟨H1,hH1⟩:∃ H1,H1 = H.new (.cells (dcells k x y) 40 false):=⟨_,rfl⟩
  have hw1:=h.a.wf.new (.cells (dcells k x y) 40 false)
  have hx1:=Ext.new H (.cells (dcells k x y) 40 false)
  rw [← hH1] at hw1 hx1
  have da1:=h.a.ext hw1 hx1
  have bS:=hS.le.bd (by omega)
  have red:=fun (R:Type) (K:Bool→Heap→Option R)=>g22_red (x:=x) (y:=y) hk (w:=w) (n:=n) (m:=m) hw hm hn hq h.a.wf sl K
  rw [← hH1] at red
  have hs123:=ok.s
  have hm9:0 ≤ 16 + m % 9∧16 + m % 9 ≤ 255:=by omega
  have hl':l.length ≤ 1000:=by omega
  by_cases c1:w % 6 = 1
  · simp only [c1,if_true] at red
    obtain ⟨H2,e2,got⟩:=s27 da1 bS ((i:Int) + 1)
    simp only [e2] at red
    by_cases hz:p.st = 1∧p.by' ≠ k
    · obtain ⟨S1,S2,T2,f1,f2,f3,f4,f5⟩:=act_confirm hk hS hT hl' hi ok hz.1 hz.2
      have g1:=gS.confirm ((i:Int) + 1)
      have l1:=hS.le.confirm ((i:Int) + 1)
      rw [f1] at got red g1 l1
      have hA:wantA p k = 0:=by unfold wantA; rw [if_neg (by omega),if_neg (by omega),if_neg hz.2]
      rw [hA] at red
      obtain ⟨H',F',G',S',T',e3,r⟩:=fl_ok (p:=p) hk h hT hl gT hq hqF hqn hH1 got g1 (l1.mono (by omega)) f2 (sl:=nilS) (.nil _ _) f3 (by decide) f4 f5 ⟨ok.b,ok.c,.inr (.inl rfl),ok.a1,ok.a2,fun e=>by cases e⟩ rfl rfl
      exact ⟨H',F',G',S',T',_,fun R K=>(red R K).trans (e3 R K),r⟩
    · have hA : wantA p k ≠ 0 ∧ S.confirm ((i : Int) + 1) = (wantA p k, S) := by
        unfold wantA
        by_cases s3:p.st = 3
        · rw [if_pos s3]; exact ⟨by decide,(act_gone hk hS hT hl' hi ok s3 0 []).1⟩
        · rw [if_neg s3]
          have hx:p.st = 2 ∨ p.by' = k:=by
            rcases hs123 with e | e | e
            · exact .inr (Decidable.not_not.1 fun hb=>hz ⟨e,hb⟩)
            · exact .inl e
            · exact absurd e s3
          have:=(act_no12 hk hS hT hl' hi ok s3 hx 0).1
          by_cases s2:p.st = 2
          · rw [if_pos s2]; exact ⟨by decide,this⟩
          · rw [if_neg s2,if_pos (hx.resolve_left s2)]; exact ⟨by decide,this⟩
      rw [hA.2] at got red
      obtain ⟨H',F',G',S',T',p',e3,r⟩:=fl_no hk h hS hT hl hi ok gS gT hq hqF hH1 got hA.1 (some (q,o)) 2 ((i:Int) + 1) 2 k 0 0 nilS
      exact ⟨H',F',G',S',T',p',fun R K=>(red R K).trans (e3 R K),r⟩
  simp only [c1,if_false] at red
  by_cases c2:w % 6 = 2
  · simp only [c2,if_true] at red
    obtain ⟨H2,e2,got⟩:=s33 da1 bS ((i:Int) + 1) (16 + m % 9)
    simp only [e2] at red
    by_cases hz:p.st = 1∧p.by' ≠ k
    · obtain ⟨S1,S2,T2,f1,f2,f3,f4,f5⟩:=act_refuse hk hS hT hl' hi ok hz.1 hz.2 (u:=16 + m % 9) (by omega)
      have g1:=gS.refuse ((i:Int) + 1) hm9
      have l1:=hS.le.refuse ((i:Int) + 1) (16 + m % 9)
      rw [f1] at got red g1 l1
      have hA:wantA p k = 0:=by unfold wantA; rw [if_neg (by omega),if_neg (by omega),if_neg hz.2]
      rw [hA] at red
      obtain ⟨H',F',G',S',T',e3,r⟩:=fl_ok (p:=p) hk h hT hl gT hq hqF hqn hH1 got g1 l1 f2 (sl:=nilS) (.nil _ _) f3 (by decide) f4 f5 ⟨ok.b,ok.c,.inr (.inr rfl),ok.a1,ok.a2,fun e=>by cases e⟩ rfl rfl
      exact ⟨H',F',G',S',T',_,fun R K=>(red R K).trans (e3 R K),r⟩
    · have hA : wantA p k ≠ 0 ∧ S.refuse ((i : Int) + 1) (16 + m % 9) = (wantA p k, S) := by
        unfold wantA
        by_cases s3:p.st = 3
        · rw [if_pos s3]; exact ⟨by decide,(act_gone hk hS hT hl' hi ok s3 _ []).2.1⟩
        · rw [if_neg s3]
          have hx:p.st = 2 ∨ p.by' = k:=by
            rcases hs123 with e | e | e
            · exact .inr (Decidable.not_not.1 fun hb=>hz ⟨e,hb⟩)
            · exact .inl e
            · exact absurd e s3
          have:=(act_no12 hk hS hT hl' hi ok s3 hx (16 + m % 9)).2
          by_cases s2:p.st = 2
          · rw [if_pos s2]; exact ⟨by decide,this⟩
          · rw [if_neg s2,if_pos (hx.resolve_left s2)]; exact ⟨by decide,this⟩
      rw [hA.2] at got red
      obtain ⟨H',F',G',S',T',p',e3,r⟩:=fl_no hk h hS hT hl hi ok gS gT hq hqF hH1 got hA.1 (some (q,o)) 3 ((i:Int) + 1) 3 k 0 (16 + m % 9) nilS
      exact ⟨H',F',G',S',T',p',fun R K=>(red R K).trans (e3 R K),r⟩
  simp only [c2,if_false] at red
  by_cases c3:w % 6 = 3 ∨ w % 6 = 4
  · simp only [c3,if_true] at red
    obtain ⟨H2,e2,got⟩:=s28 da1 bS gS.num ((i:Int) + 1) (hd.kp (.ext hx1))
    simp only [e2] at red
    by_cases hz:p.st = 2
    · obtain ⟨S1,S2,T2,f1,f2,f3,f4,f5⟩:=act_send hk hS hT hl' hi ok hz hdl
      have g1:=gS.sendD ((i:Int) + 1) d
      have l1:=hS.le.sendD ((i:Int) + 1) d
      rw [f1] at got red g1 l1
      have hA:wantB p = 0:=by unfold wantB; rw [if_neg (by omega),if_neg (by omega)]
      rw [hA,← Gp.inc_st p k] at red
      obtain ⟨H',F',G',S',T',e3,r⟩:=fl_ok (p:=p) hk h hT hl gT hq hqF hqn hH1 got g1 (l1.mono (by omega)) f2 hd f3 (by decide) f4 f5 (ok.inc hz k) (Gp.inc_by p k) (Gp.inc_cls p k)
      exact ⟨H',F',G',S',T',_,fun R K=>(red R K).trans (e3 R K),r⟩
    · have hA : wantB p ≠ 0 ∧ S.sendD ((i : Int) + 1) d = (wantB p, S) := by
        unfold wantB
        by_cases s3:p.st = 3
        · rw [if_pos s3]; exact ⟨by decide,(act_gone hk hS hT hl' hi ok s3 0 d).2.2.1⟩
        · rw [if_neg s3,if_pos (by omega)]; exact ⟨by decide,act_no3 hk hS hT hl' hi ok (by omega) d⟩
      rw [hA.2] at got red
      obtain ⟨H',F',G',S',T',p',e3,r⟩:=fl_no hk h hS hT hl hi ok gS gT hq hqF hH1 got hA.1 (some (q,o)) p.st ((i:Int) + 1) 4 k 0 0 sl
      exact ⟨H',F',G',S',T',p',fun R K=>(red R K).trans (e3 R K),r⟩
  simp only [c3,if_false] at red
  by_cases c4:n % 3 > 0 ∨ (p.st = 1∧p.by' = k)
  · simp only [c4,if_true] at red
    have m0:Mv n0 H F G H1 F G:=⟨.ext hx1,fun i hi=>.inl hi⟩
    have w0:W2 n0 H1 x y F G S T:=⟨da1,h.b.ext hw1 hx1,h.dj,fun i hi=>Nat.lt_of_lt_of_le (h.fl i hi) hx1.next,fun i hi=>Nat.lt_of_lt_of_le (h.gl i hi) hx1.next⟩
    obtain ⟨hq3,hq3F⟩:=m0.obj h.a.wf hq.get hqF
    exact ⟨H1,F,G,S,T,p,red,w0,by rw [lset_same hi]; exact hS,by rw [lset_same hi]; exact hT,gS,gT,ok,rfl,rfl,by rw [set_same hq]; exact hq3,hq3F,m0.st.kp,m0.sub,fun i o hio hf hg _=>(m0.obj h.a.wf hio ⟨hf,hg⟩).1⟩
  simp only [c4,if_false] at red
  obtain ⟨H2,e2,got⟩:=s32 da1 bS ((i:Int) + 1) 200
  simp only [e2] at red
  by_cases hz:p.st = 2
  · obtain ⟨S1,S2,T2,f1,f2,f3,f4,f5⟩:=act_release hk hS hT hl' hi ok hz (u:=200) (by omega)
    have g1:=gS.release ((i:Int) + 1) (u:=200) (by omega)
    have l1:=hS.le.release ((i:Int) + 1) 200
    rw [f1] at got red g1 l1
    have hA:wantB p = 0:=by unfold wantB; rw [if_neg (by omega),if_neg (by omega)]
    rw [hA] at red
    obtain ⟨H',F',G',S',T',e3,r⟩:=fl_ok (p:=p) hk h hT hl gT hq hqF hqn hH1 got g1 l1 f2 (sl:=nilS) (.nil _ _) f3 (by decide) f4 f5 ⟨ok.b,ok.c,.inr (.inr rfl),ok.a1,ok.a2,fun e=>by cases e⟩ rfl rfl
    exact ⟨H',F',G',S',T',_,fun R K=>(red R K).trans (e3 R K),r⟩
  · have hA : wantB p ≠ 0 ∧ S.release ((i : Int) + 1) 200 = (wantB p, S) := by
      unfold wantB
      by_cases s3:p.st = 3
      · rw [if_pos s3]; exact ⟨by decide,(act_gone hk hS hT hl' hi ok s3 200 []).2.2.2⟩
      · rw [if_neg s3,if_pos (by omega)]
        exact ⟨by decide,act_no5 hk hS hT hl' hi ok (by omega) (fun e=>c4 (.inr ⟨by omega,e⟩)) 200⟩
    rw [hA.2] at got red
    obtain ⟨H',F',G',S',T',p',e3,r⟩:=fl_no hk h hS hT hl hi ok gS gT hq hqF hH1 got hA.1 (some (q,o)) 3 ((i:Int) + 1) 5 k 0 200 nilS
    exact ⟨H',F',G',S',T',p',fun R K=>(red R K).trans (e3 R K),r⟩
end
end Go.Proofs.Ytnlfkllnmobppaa

