/- Flows: refusing, sending, releasing; plain. -/
import Derived.Test.YtnlfkllnmobppaaCF1
namespace Go.Proofs.Ytnlfkllnmobppaa
set_option linter.unusedVariables false
set_option linter.unusedSimpArgs false
set_option linter.unusedSectionVars false

theorem Turned.over {D D1:Dk} {q:Int} {s:Sc} (h:Turned D D1 q s):∀ r,(D1.over q).find r = if r = q then none else D.find r:=fun r=>by
  rw [Dk.find_over,h.2]
  by_cases hr:r = q
  · subst hr; rw [if_pos rfl,if_pos rfl]
  · rw [if_neg (fun e=>hr e.symm),if_neg hr,if_neg hr]
theorem Turned.len_over {D D1:Dk} {q:Int} {s:Sc} (h:Turned D D1 q s) (hn:D.refs.Nodup) (hr:D1.refs = D.refs):(D1.over q).all.length + 1 = D.all.length:=by
  rw [← Dk.refs_len hr]
  exact Dk.len_over (s:=s) (by rw [hr]; exact hn) (by rw [h.2,if_pos rfl])
theorem Dk.mem_over {D D1:Dk} (hr:D1.refs = D.refs) (q:Int):∀ r ∈ (D1.over q).refs,r ∈ D.refs:=fun r h=>by
  rw [← hr]
  obtain ⟨b,hb,rfl⟩:=List.mem_map.1 h
  exact List.mem_map.2 ⟨b,(List.mem_filter.1 hb).1,rfl⟩
theorem Turned.tell {D D1:Dk} {q:Int} {s:Sc} (h:Turned D D1 q s) (s':Sc) (x:Et):Turned D (D1.tell s' x) q s:=h
theorem Turned.take {D D1:Dk} {q:Int} {s:Sc} (h:Turned D D1 q s):Turned D D1.take q s:=h
theorem act4_3 {D:Dk} {s:Sc} {m:Cm} (h:m.k = 4) (h1:s.st = 3) (h2:s.cls = 3) (h3:m.n = s.wan):D.act s m = ((D.put { s.acked m.x with wan:=(s.wan + 1) % 128 }).tell s { what:=4,d:=m.d }).send { s.acked m.x with wan:=(s.wan + 1) % 128 } { k:=5,x:=(s.wan + 1) % 128 }:=by
  unfold Dk.act
  rw [if_neg (by omega),if_neg (by omega),if_pos h,if_neg (by omega),if_neg (by omega),if_neg (by omega)]
theorem act5_3 {D:Dk} {s:Sc} {m:Cm} (h:m.k = 5) (h1:s.st = 3) (h2:s.cls = 3):D.act s m = D.put (s.acked m.x):=by
  unfold Dk.act
  rw [if_neg (by omega),if_neg (by omega),if_neg (by omega),if_pos (by omega),if_neg (by omega),if_neg (by omega)]
theorem acked_self (p:Gp) (k:Int) (i:Nat):(p.sec k i).acked (p.g k) = p.sec k i:=by
  unfold Sc.acked
  simp only [Gp.sec,Int.sub_self,Int.le_refl,if_true]
/-- one more in the direction of k -/
def Gp.inc (p:Gp) (k:Int):Gp:=if p.cls = 3 then (if k = 0 then { p with ga:=(p.ga + 1) % 128 } else { p with gb:=(p.gb + 1) % 128 }) else p
theorem Gp.inc_cls (p:Gp) (k:Int):(p.inc k).cls = p.cls:=by unfold Gp.inc; split <;> (try split) <;> rfl
theorem Gp.inc_st (p:Gp) (k:Int):(p.inc k).st = p.st:=by unfold Gp.inc; split <;> (try split) <;> rfl
theorem Gp.inc_by (p:Gp) (k:Int):(p.inc k).by' = p.by':=by unfold Gp.inc; split <;> (try split) <;> rfl
theorem Gp.Ok.inc {p:Gp} (h:p.Ok) (h2:p.st = 2) (k:Int):(p.inc k).Ok:=by
  have:=h.a1; have:=h.a2
  refine ⟨by rw [Gp.inc_by]; exact h.b,by rw [Gp.inc_cls]; exact h.c,by rw [Gp.inc_st]; exact h.s,?_,?_,fun e=>?_⟩
  · unfold Gp.inc; split <;> (try split) <;> (try simp only) <;> omega
  · unfold Gp.inc; split <;> (try split) <;> (try simp only) <;> omega
  · rw [Gp.inc_st] at e; omega
section
variable {k:Int} {S T:Dk} {l:List Gp} {i:Nat} {p:Gp} (hk:k = 0 ∨ k = 1) (hS:DI k S l) (hT:DI (1 - k) T l) (hl:l.length ≤ 1000) (hi:l[i]? = some p) (ok:p.Ok)
include hk hS hT hl hi ok
theorem act_refuse (h:p.st = 1) (hb:p.by' ≠ k) {u:Int} (hu:16 ≤ u):∃ S1 S2 T2,S.refuse ((i:Int) + 1) u = (0,S1)∧One k S1 T S2 T2∧T2.evs = [⟨(i:Int) + 1,3,k,0,u,[]⟩]∧DI k S2 (l.set i { p with st:=3 })∧DI (1 - k) T2.heard (l.set i { p with st:=3 }):=by
  have fS:=here_S hk hS hT hl hi ok (by omega)
  have fT:=here_T hk hS hT hl hi ok (by omega)
  have hp:=pos_i hk hS hT hl hi ok
  have hb2:p.by' = 1 - k:=by have:=ok.b; omega
  obtain ⟨S0,hS0⟩:∃ S0:Dk,S0 = S.send (p.sec k i) { k:=3,u:=u }:=⟨_,rfl⟩
  obtain ⟨T0,hT0⟩:∃ T0:Dk,T0 = (T.put { p.sec (1 - k) i with t1:=0 }).tell { p.sec (1 - k) i with t1:=0 } { what:=3,cau:=u }:=⟨_,rfl⟩
  have e1:S.refuse ((i:Int) + 1) u = (0,S0.over ((i:Int) + 1)):=by
    have hst:(p.sec k i).st = 2:=by simp only [Gp.sec,if_pos h,if_neg hb]
    simp only [Dk.refuse,fS,if_pos hst,hS0]
    rw [if_neg (by omega)]; rfl
  have e2:T.hear k { k:=3,f:=0,t:=(i:Int) + 1,u:=u } = (0,T0.over ((i:Int) + 1)):=by
    have hck:({ k:=3,f:=0,t:=(i:Int) + 1,u:=u }:Cm).ck = 0:=ck_ok (by simp) (by unfold Cm.Gd; simp; omega)
    have hbel:T.belongs k { k:=3,f:=0,t:=(i:Int) + 1,u:=u } = some (p.sec (1 - k) i):=by
      unfold Dk.belongs
      simp only [fT]
      rw [if_neg (by simp only [Gp.sec]; omega),if_pos (by simp only [Gp.sec,if_pos h,if_pos hb2]),if_pos (by simp)]
    rw [hear_known (by omega) hck (by simp) hbel,hT0]
    simp [Dk.act]; rfl
  have o1:(S0.over ((i:Int) + 1)).out = [⟨1 - k,{ k:=3,f:=0,t:=(i:Int) + 1,u:=u }⟩]:=by
    rw [hS0]
    simp only [Dk.over,Dk.send,Dk.post,Dk.put,hS.out,List.nil_append,Sc.lt,Gp.sec]
    simp [hb]
  have o2:(T0.over ((i:Int) + 1)).out = []:=by rw [hT0]; exact hT.out
  have uS:Turned S S0 ((i:Int) + 1) { p.sec k i with t2:=0 }:=by rw [hS0]; exact (Turned.start fS).send rfl _
  have uT:Turned T T0 ((i:Int) + 1) { p.sec (1 - k) i with t1:=0 }:=by rw [hT0]; exact (Turned.put fT (s:={ p.sec (1 - k) i with t1:=0 }) rfl).tell _ _
  have rS:S0.refs = S.refs:=by rw [hS0]; simp only [Dk.refs_send]
  have rT:T0.refs = T.refs:=by rw [hT0]; simp only [Dk.refs_tell,Dk.refs_put']
  refine ⟨_,(S0.over ((i:Int) + 1)).take,(T0.over ((i:Int) + 1)).take,e1,settleK_one hk o1 hT.out (deliver_one rfl e2) (by rw [o2]; rfl) rfl,?_,?_,?_⟩
  · rw [hT0]
    simp only [Dk.over,Dk.take,Dk.tell,Dk.put,hT.evs,List.nil_append,Gp.sec]
    simp only [show 1 - (1 - k) = k by omega]
  · refine hS.fin hi (by omega) (z:=S.fz) ?_ rfl ?_ uS.over ?_ (Dk.mem_over rS _) (uS.len_over hS.nd rS) ?_ ?_ rfl
    · simp [hS0]
    · rw [hS0]; exact hS.evs
    · exact Dk.refs_over (by rw [rS]; exact hS.nd) _
    · simp [hS0]
    · simp [hS0]
  · refine hT.fin hi (by omega) (z:=T.fz) ?_ rfl rfl (fun r=>(by rw [Dk.find_heard,Dk.find_take]; exact uT.over r)) ?_ (Dk.mem_over rT _) (uT.len_over hT.nd rT) ?_ ?_ rfl
    · simp [hT0]
    · exact Dk.refs_over (by rw [rT]; exact hT.nd) _
    · simp [hT0]
    · simp [hT0]
theorem act_release (h:p.st = 2) {u:Int} (hu:16 ≤ u):∃ S1 S2 T2,S.release ((i:Int) + 1) u = (0,S1)∧One k S1 T S2 T2∧T2.evs = [⟨(i:Int) + 1,5,k,0,u,[]⟩]∧DI k S2 (l.set i { p with st:=3 })∧DI (1 - k) T2.heard (l.set i { p with st:=3 }):=by
  have fS:=here_S hk hS hT hl hi ok (by omega)
  have fT:=here_T hk hS hT hl hi ok (by omega)
  have hp:=pos_i hk hS hT hl hi ok
  have h1:¬p.st = 1:=by omega
  have n1:∀ q:Prop,¬(p.st = 1∧q):=fun q e=>h1 e.1
  obtain ⟨S1,hS1⟩:∃ S1:Dk,S1 = (S.send (p.sec k i) { k:=7,u:=u }).put ({ p.sec k i with t2:=0 }.turn 4):=⟨_,rfl⟩
  obtain ⟨S0,hS0⟩:∃ S0:Dk,S0 = S1.take.put { ({ p.sec k i with t2:=0 }.turn 4) with t1:=0 }:=⟨_,rfl⟩
  obtain ⟨T0,hT0⟩:∃ T0:Dk,T0 = ((T.put { p.sec (1 - k) i with t1:=0 }).send { p.sec (1 - k) i with t1:=0 } { k:=8 }).tell { p.sec (1 - k) i with t1:=0 } { what:=5,cau:=u }:=⟨_,rfl⟩
  have e1:S.release ((i:Int) + 1) u = (0,S1):=by
    have hst:(p.sec k i).st = 3:=by simp only [Gp.sec,if_neg h1]
    simp only [Dk.release,fS]
    rw [if_pos (.inr hst),if_neg (by omega),if_neg (by omega),hS1]
  have uS1:Turned S S1 ((i:Int) + 1) ({ p.sec k i with t2:=0 }.turn 4):=by rw [hS1]; exact ((Turned.start fS).send rfl _).put' rfl
  have e2:T.hear k { k:=7,f:=(i:Int) + 1,t:=(i:Int) + 1,u:=u } = (0,T0.over ((i:Int) + 1)):=by
    have hck:({ k:=7,f:=(i:Int) + 1,t:=(i:Int) + 1,u:=u }:Cm).ck = 0:=ck_ok (by simp) (by unfold Cm.Gd; simp; omega)
    have hbel:T.belongs k { k:=7,f:=(i:Int) + 1,t:=(i:Int) + 1,u:=u } = some (p.sec (1 - k) i):=by
      unfold Dk.belongs
      simp only [fT]
      rw [if_neg (by simp only [Gp.sec]; omega),if_neg (by simp only [Gp.sec,if_neg h1]; decide),if_neg (by simp [Gp.sec,h1])]
    rw [hear_known (by omega) hck (by simp) hbel,hT0]
    simp [Dk.act,Gp.sec,h1]
  have o1:S1.out = [⟨1 - k,{ k:=7,f:=(i:Int) + 1,t:=(i:Int) + 1,u:=u }⟩]:=by
    rw [hS1]
    simp only [Dk.send,Dk.post,Dk.put,hS.out,List.nil_append,Sc.lt,Gp.sec]
    simp [h1]
  have o2:(T0.over ((i:Int) + 1)).out = [⟨k,{ k:=8,f:=(i:Int) + 1,t:=(i:Int) + 1 }⟩]:=by
    rw [hT0]
    simp only [Dk.over,Dk.send,Dk.tell,Dk.post,Dk.put,hT.out,List.nil_append,Sc.lt,Gp.sec]
    simp [h1]; omega
  have e3:S1.take.hear (1 - k) { k:=8,f:=(i:Int) + 1,t:=(i:Int) + 1 } = (0,S0.over ((i:Int) + 1)):=by
    have hck:({ k:=8,f:=(i:Int) + 1,t:=(i:Int) + 1 }:Cm).ck = 0:=ck_ok (by simp) (by unfold Cm.Gd; simp; omega)
    have hbel:S1.take.belongs (1 - k) { k:=8,f:=(i:Int) + 1,t:=(i:Int) + 1 } = some ({ p.sec k i with t2:=0 }.turn 4):=by
      unfold Dk.belongs
      simp only [Dk.find_take,uS1.2,if_true]
      rw [if_neg (by simp [Gp.sec,Sc.turn]),if_neg (by simp [Gp.sec,Sc.turn]),if_neg (by simp [Gp.sec,Sc.turn,h1])]
    rw [hear_known (by omega) hck (by simp) hbel,hS0]
    simp [Dk.act,Sc.turn,Gp.sec]
  have uS:Turned S S0 ((i:Int) + 1) { ({ p.sec k i with t2:=0 }.turn 4) with t1:=0 }:=by
    rw [hS0]
    exact uS1.take.put' rfl
  have uT:Turned T T0 ((i:Int) + 1) { p.sec (1 - k) i with t1:=0,t2:=0 }:=by rw [hT0]; exact ((Turned.put fT (s:={ p.sec (1 - k) i with t1:=0 }) rfl).send rfl { k:=8 }).tell _ _
  have rS:S0.refs = S.refs:=by rw [hS0,hS1]; simp only [Dk.refs_send,Dk.refs_take,Dk.refs_put']
  have rT:T0.refs = T.refs:=by rw [hT0]; simp only [Dk.refs_tell,Dk.refs_put',Dk.refs_send]
  refine ⟨S1,S0.over ((i:Int) + 1),(T0.over ((i:Int) + 1)).take,e1,settleK_one hk o1 hT.out (deliver_one rfl e2) (by rw [o2]; exact deliver_one (by simp only; omega) e3) (by simp [hS0,hS1]),?_,?_,?_⟩
  · rw [hT0]
    simp only [Dk.over,Dk.take,Dk.send,Dk.post,Dk.tell,Dk.put,hT.evs,List.nil_append,Gp.sec]
    simp only [show 1 - (1 - k) = k by omega]
  · refine hS.fin hi (by omega) (z:=S.fz) ?_ ?_ ?_ uS.over ?_ (Dk.mem_over rS _) (uS.len_over hS.nd rS) ?_ ?_ rfl
    · simp [hS0,hS1]
    · simp [hS0,hS1]
    · rw [hS0,hS1]; exact hS.evs
    · exact Dk.refs_over (by rw [rS]; exact hS.nd) _
    · simp [hS0,hS1]
    · simp [hS0,hS1]
  · refine hT.fin hi (by omega) (z:=T.fz) ?_ rfl rfl (fun r=>(by rw [Dk.find_heard,Dk.find_take]; exact uT.over r)) ?_ (Dk.mem_over rT _) (uT.len_over hT.nd rT) ?_ ?_ rfl
    · simp [hT0]
    · exact Dk.refs_over (by rw [rT]; exact hT.nd) _
    · simp [hT0]
    · simp [hT0]
theorem act_send (h:p.st = 2) {d:List Int} (hd:d.length ≤ 200):∃ S1 S2 T2,S.sendD ((i:Int) + 1) d = (0,S1)∧One k S1 T S2 T2∧T2.evs = [⟨(i:Int) + 1,4,k,0,0,d⟩]∧DI k S2 (l.set i (p.inc k))∧DI (1 - k) T2.heard (l.set i (p.inc k)):=by
  have fS:=here_S hk hS hT hl hi ok (by omega)
  have fT:=here_T hk hS hT hl hi ok (by omega)
  have hp:=pos_i hk hS hT hl hi ok
  have h1:¬p.st = 1:=by omega
  have ga:=ok.a1
  have gb:=ok.a2
  have gk:0 ≤ p.g k∧p.g k ≤ 127:=by unfold Gp.g; split <;> omega
  have gk':0 ≤ p.g (1 - k)∧p.g (1 - k) ≤ 127:=by unfold Gp.g; split <;> omega
  have hw:=hS.w
  have hst:(p.sec k i).st = 3:=by simp only [Gp.sec,if_neg h1]
  have hck:({ k:=4,f:=(i:Int) + 1,t:=(i:Int) + 1,n:=p.g k,x:=p.g (1 - k),d:=d }:Cm).ck = 0:=ck_ok (by simpa using hd) (by unfold Cm.Gd; simp; omega)
  have hbel:T.belongs k { k:=4,f:=(i:Int) + 1,t:=(i:Int) + 1,n:=p.g k,x:=p.g (1 - k),d:=d } = some (p.sec (1 - k) i):=by
    unfold Dk.belongs
    simp only [fT]
    rw [if_neg (by simp only [Gp.sec]; omega),if_neg (by simp only [Gp.sec,if_neg h1]; decide),if_neg (by simp [Gp.sec,h1])]
  have kk:1 - (1 - k) = k:=by omega
  rcases ok.c with c2 | c3
  · -- class 2
    have hinc:p.inc k = p:=by unfold Gp.inc; rw [if_neg (by omega)]
    rw [hinc]
    obtain ⟨S1,hS1⟩:∃ S1:Dk,S1 = S.send (p.sec k i) { k:=4,n:=p.g k,x:=p.g (1 - k),d:=d }:=⟨_,rfl⟩
    obtain ⟨T1,hT1⟩:∃ T1:Dk,T1 = (T.put { p.sec (1 - k) i with t1:=0 }).tell { p.sec (1 - k) i with t1:=0 } { what:=4,d:=d }:=⟨_,rfl⟩
    have e1:S.sendD ((i:Int) + 1) d = (0,S1):=by
      simp only [Dk.sendD,fS,if_pos hst]
      rw [if_neg (by omega),if_neg (by simp only [Gp.sec]; omega),if_neg (by simp only [Gp.sec]; omega),hS1]
      rfl
    have e2:T.hear k { k:=4,f:=(i:Int) + 1,t:=(i:Int) + 1,n:=p.g k,x:=p.g (1 - k),d:=d } = (0,T1):=by
      rw [hear_known (by omega) hck (by simp) hbel,hT1]
      simp [Dk.act,Gp.sec,h1,c2]
    have o1:S1.out = [⟨1 - k,{ k:=4,f:=(i:Int) + 1,t:=(i:Int) + 1,n:=p.g k,x:=p.g (1 - k),d:=d }⟩]:=by
      rw [hS1]
      simp only [Dk.send,Dk.post,Dk.put,hS.out,List.nil_append,Sc.lt,Gp.sec]
      simp [h1]
    have o2:T1.out = []:=by rw [hT1]; exact hT.out
    have uS:Turned S S1 ((i:Int) + 1) { p.sec k i with t2:=0 }:=by rw [hS1]; exact (Turned.start fS).send rfl _
    have uT:Turned T T1 ((i:Int) + 1) { p.sec (1 - k) i with t1:=0 }:=by rw [hT1]; exact (Turned.put fT (s:={ p.sec (1 - k) i with t1:=0 }) rfl).tell _ _
    refine ⟨S1,S1.take,T1.take,e1,settleK_one hk o1 hT.out (deliver_one rfl e2) (by rw [o2]; rfl) rfl,?_,?_,?_⟩
    · rw [hT1]
      simp only [Dk.take,Dk.tell,Dk.put,hT.evs,List.nil_append,Gp.sec,kk]
    · refine hS.upd hi (by omega) (by omega) ?_ rfl ?_ (fun r=>?_) ?_ ?_ ?_
      · simp [hS1]
      · rw [hS1]; exact hS.evs
      · rw [Dk.find_take,uS.2]; rfl
      · rw [hS1]; simp only [Dk.refs_take,Dk.refs_send]
      · simp [hS1]
      · simp [hS1]
    · refine hT.upd hi (by omega) (by omega) ?_ rfl rfl (fun r=>?_) ?_ ?_ ?_
      · simp [hT1]
      · rw [Dk.find_heard,Dk.find_take,uT.2]; rfl
      · rw [hT1]; simp only [Dk.refs_take,Dk.refs_heard,Dk.refs_tell,Dk.refs_put']
      · simp [hT1]
      · simp [hT1]
  · -- class 3
    obtain ⟨g',hg'⟩:∃ g',g' = (p.g k + 1) % 128:=⟨_,rfl⟩
    have hgr:0 ≤ g'∧g' ≤ 127:=by omega
    have i1:(p.inc k).g k = g':=by
      unfold Gp.inc; rw [if_pos c3]
      rcases hk with rfl | rfl <;> simp [Gp.g,hg']
    have i2:(p.inc k).g (1 - k) = p.g (1 - k):=by
      unfold Gp.inc; rw [if_pos c3]
      rcases hk with rfl | rfl <;> simp [Gp.g]
    obtain ⟨S1,hS1⟩:∃ S1:Dk,S1 = (S.send (p.sec k i) { k:=4,n:=p.g k,x:=p.g (1 - k),d:=d }).put { p.sec k i with t2:=0,giv:=g' }:=⟨_,rfl⟩
    obtain ⟨s1,hs1⟩:∃ s1:Sc,s1 = { p.sec k i with t2:=0,giv:=g' }:=⟨_,rfl⟩
    obtain ⟨t1,ht1⟩:∃ t1:Sc,t1 = { p.sec (1 - k) i with wan:=g' }:=⟨_,rfl⟩
    obtain ⟨T1,hT1⟩:∃ T1:Dk,T1 = (((T.put { p.sec (1 - k) i with t1:=0 }).put t1).tell t1 { what:=4,d:=d }).send t1 { k:=5,x:=g' }:=⟨_,rfl⟩
    obtain ⟨S0,hS0⟩:∃ S0:Dk,S0 = (S1.take.put { s1 with t1:=0 }).put ({ s1 with t1:=0 }.acked g'):=⟨_,rfl⟩
    have e1:S.sendD ((i:Int) + 1) d = (0,S1):=by
      simp only [Dk.sendD,fS,if_pos hst]
      rw [if_neg (by omega),if_neg (by simp only [Gp.sec]; omega),if_pos (by simp only [Gp.sec]; exact c3),hS1,hg']
      rfl
    have e2:T.hear k { k:=4,f:=(i:Int) + 1,t:=(i:Int) + 1,n:=p.g k,x:=p.g (1 - k),d:=d } = (0,T1):=by
      have hwan:(p.sec (1 - k) i).wan = p.g k:=by simp only [Gp.sec,kk]
      have e:(T.put { p.sec (1 - k) i with t1:=0 }).act (p.sec (1 - k) i) { k:=4,f:=(i:Int) + 1,t:=(i:Int) + 1,n:=p.g k,x:=p.g (1 - k),d:=d } = T1:=by
        rw [act4_3 rfl (by simp only [Gp.sec,if_neg h1]) (by simp only [Gp.sec]; exact c3) hwan.symm,hT1,ht1,hwan,← hg']
        simp only [acked_self]
        rfl
      rw [hear_known (by omega) hck (by simp) hbel]
      exact congrArg (Prod.mk 0) e
    have o1:S1.out = [⟨1 - k,{ k:=4,f:=(i:Int) + 1,t:=(i:Int) + 1,n:=p.g k,x:=p.g (1 - k),d:=d }⟩]:=by
      rw [hS1]
      simp only [Dk.send,Dk.post,Dk.put,hS.out,List.nil_append,Sc.lt,Gp.sec]
      simp [h1]
    have o2:T1.out = [⟨k,{ k:=5,f:=(i:Int) + 1,t:=(i:Int) + 1,x:=g' }⟩]:=by
      rw [hT1,ht1]
      simp only [Dk.send,Dk.post,Dk.put,Dk.tell,hT.out,List.nil_append,Sc.lt,Gp.sec]
      simp [h1,kk]
    have uS1:Turned S S1 ((i:Int) + 1) s1:=by rw [hS1,hs1]; exact ((Turned.start fS).send rfl _).put' rfl
    have hs1f:s1.ref = (i:Int) + 1∧s1.pt = 1 - k∧s1.oth = (i:Int) + 1∧s1.cls = p.cls∧s1.st = 3∧s1.giv = g'∧s1.ack = p.g k:=by
      rw [hs1]; simp [Gp.sec,h1]
    obtain ⟨f1,f2,f3,f4,f5,f6,f7⟩:=hs1f
    have e3:S1.take.hear (1 - k) { k:=5,f:=(i:Int) + 1,t:=(i:Int) + 1,x:=g' } = (0,S0):=by
      have hck:({ k:=5,f:=(i:Int) + 1,t:=(i:Int) + 1,x:=g' }:Cm).ck = 0:=ck_ok (by simp) (by unfold Cm.Gd; simp; omega)
      have hbel:S1.take.belongs (1 - k) { k:=5,f:=(i:Int) + 1,t:=(i:Int) + 1,x:=g' } = some s1:=by
        unfold Dk.belongs
        simp only [Dk.find_take,uS1.2,if_true]
        rw [if_neg (by simp [f2]),if_neg (by rw [f5]; decide),if_neg (by simp [f3])]
      rw [hear_known (by omega) hck (by simp) hbel,hS0,act5_3 (s:={ s1 with t1:=0 }) rfl f5 (f4.trans c3)]
    have hack:({ s1 with t1:=0 }:Sc).acked g' = (p.inc k).sec k i:=by
      unfold Sc.acked
      simp only [f6,f7]
      rw [if_pos (Int.le_refl _),hs1]
      have:=Gp.inc_st p k
      simp only [Gp.sec,i1,i2,Gp.inc_cls,Gp.inc_by,Gp.inc_st]
    have uS:Turned S S0 ((i:Int) + 1) ((p.inc k).sec k i):=by
      rw [hS0,← hack]
      have u0:Turned S S1.take ((i:Int) + 1) s1:=uS1.take
      refine (u0.put' (s:={ s1 with t1:=0 }) f1).put' ?_
      rw [hack]; rfl
    have uT:Turned T T1 ((i:Int) + 1) ((p.inc k).sec (1 - k) i):=by
      have u1:Turned T T1 ((i:Int) + 1) { t1 with t2:=0 }:=by
        rw [hT1]
        have u0:=(Turned.put fT (s:={ p.sec (1 - k) i with t1:=0 }) rfl).put' (s:=t1) (by rw [ht1]; rfl)
        exact (u0.tell _ _).send (by rw [ht1]; rfl) _
      have:{ t1 with t2:=0 } = (p.inc k).sec (1 - k) i:=by
        rw [ht1]
        simp only [Gp.sec,i1,i2,Gp.inc_cls,Gp.inc_by,Gp.inc_st,kk]
      rw [← this]; exact u1
    refine ⟨S1,S0,T1.take,e1,settleK_one hk o1 hT.out (deliver_one rfl e2) (by rw [o2]; exact deliver_one (by simp only; omega) e3) (by simp [hS0]),?_,?_,?_⟩
    · rw [hT1,ht1]
      simp only [Dk.take,Dk.tell,Dk.send,Dk.post,Dk.put,hT.evs,List.nil_append,Gp.sec,kk]
    · refine hS.upd hi (by omega) (by rw [Gp.inc_st]; omega) ?_ ?_ ?_ uS.2 ?_ ?_ ?_
      · simp [hS0,hS1]
      · simp [hS0]
      · rw [hS0,hS1]; exact hS.evs
      · rw [hS0,hS1]; simp only [Dk.refs_take,Dk.refs_send,Dk.refs_put']
      · simp [hS0,hS1]
      · simp [hS0,hS1]
    · refine hT.upd hi (by omega) (by rw [Gp.inc_st]; omega) ?_ rfl rfl (fun r=>?_) ?_ ?_ ?_
      · simp [hT1]
      · rw [Dk.find_heard,Dk.find_take]; exact uT.2 r
      · rw [hT1]; simp only [Dk.refs_take,Dk.refs_heard,Dk.refs_tell,Dk.refs_put',Dk.refs_send]
      · simp [hT1]
      · simp [hT1]
end
end Go.Proofs.Ytnlfkllnmobppaa

