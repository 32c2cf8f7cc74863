/- Flows: what the acts do; plain. -/
import Derived.Test.YtnlfkllnmobppaaCF0
namespace Go.Proofs.Ytnlfkllnmobppaa
set_option linter.unusedVariables false
set_option linter.unusedSimpArgs false
set_option linter.unusedSectionVars false

theorem Dk.refs_len {D D':Dk} (h:D'.refs = D.refs):D'.all.length = D.all.length:=by simpa [Dk.refs] using congrArg List.length h
@[simp] theorem Dk.refs_send (D:Dk) (s:Sc) (m:Cm):(D.send s m).refs = D.refs:=Dk.refs_put _
@[simp] theorem Dk.refs_tell (D:Dk) (s:Sc) (x:Et):(D.tell s x).refs = D.refs:=rfl
@[simp] theorem Dk.refs_take (D:Dk):D.take.refs = D.refs:=rfl
@[simp] theorem Dk.refs_heard (D:Dk):D.heard.refs = D.refs:=rfl
@[simp] theorem Dk.refs_put' (D:Dk) (s:Sc):(D.put s).refs = D.refs:=Dk.refs_put _
theorem Dk.find_send (D:Dk) (s:Sc) (m:Cm) (r:Int):(D.send s m).find r = if s.ref = r then (D.find r).map fun _=>{ s with t2:=0 } else D.find r:=Dk.find_put { s with t2:=0 } r
theorem sec_t2 (p:Gp) (k:Int) (i:Nat):{ p.sec k i with t2:=0 } = p.sec k i:=rfl
theorem sec_t1 (p:Gp) (k:Int) (i:Nat):{ p.sec k i with t1:=0 } = p.sec k i:=rfl
theorem sec_ref (p:Gp) (k:Int) (i:Nat):(p.sec k i).ref = (i:Int) + 1:=rfl
theorem ck_ok {m:Cm} (h:m.d.length ≤ 200) (g:m.Gd):m.ck = 0:=by unfold Cm.ck; rw [if_neg (by omega),if_pos g]
theorem hear_known {D:Dk} {fr:Int} {m:Cm} {s:Sc} (h1:fr ≤ 16383) (h2:m.ck = 0) (h3:m.k ≠ 1) (h4:D.belongs fr m = some s):D.hear fr m = (0,(D.put { s with t1:=0 }).act { s with t1:=0 } m):=by
  unfold Dk.hear
  rw [if_neg (by omega),if_neg (by omega),if_neg h3]
  simp only [h4]
theorem deliver_one {k:Int} {l:Lt} {D D':Dk} (h1:l.to = 1 - k) (h2:D.hear k l.m = (0,D')):deliver k [l] D = some D':=by
  simp only [deliver,h1,h2,and_self,if_true]
theorem Dk.put_post (D:Dk) (s:Sc) (l:Lt):(D.post l).put s = (D.put s).post l:=rfl
section
variable {k:Int} {S T:Dk} {l:List Gp}
theorem act_request (hk : k = 0 ∨ k = 1) (hS : DI k S l) (hT : DI (1 - k) T l) (hl : l.length ≤ 1000) {cls : Int} (hc : cls = 2 ∨ cls = 3) {d : List Int} (hd : d.length ≤ 200) :
    ∃ S1 S2 T2,S.request (1 - k) cls d = ((l.length:Int) + 1,0,S1)∧One k S1 T S2 T2∧T2.evs = [⟨(l.length:Int) + 1,1,k,cls,0,d⟩]∧DI k S2 (l ++ [{ by':=k,cls:=cls,st:=1 }])∧DI (1 - k) T2.heard (l ++ [{ by':=k,cls:=cls,st:=1 }]):=by
  have aS:=hS.add hl (1 - k) 0 cls 1
  have aT:=hT.add hl k ((l.length:Int) + 1) cls 2
  obtain ⟨S0,hS0⟩:∃ S0:Dk,S0 = { S with last:=(l.length:Int) + 1,all:=S.all ++ [{ ref:=(l.length:Int) + 1,pt:=1 - k,oth:=0,cls:=cls,st:=1 }] }:=⟨_,rfl⟩
  obtain ⟨T0,hT0⟩:∃ T0:Dk,T0 = { T with last:=(l.length:Int) + 1,all:=T.all ++ [{ ref:=(l.length:Int) + 1,pt:=k,oth:=(l.length:Int) + 1,cls:=cls,st:=2 }] }:=⟨_,rfl⟩
  obtain ⟨S1,hS1⟩:∃ S1:Dk,S1 = S0.send { ref:=(l.length:Int) + 1,pt:=1 - k,oth:=0,cls:=cls,st:=1 } { k:=1,c:=cls,d:=d }:=⟨_,rfl⟩
  obtain ⟨T1,hT1⟩:∃ T1:Dk,T1 = T0.tell { ref:=(l.length:Int) + 1,pt:=k,oth:=(l.length:Int) + 1,cls:=cls,st:=2 } { what:=1,cls:=cls,d:=d }:=⟨_,rfl⟩
  have e1:S.request (1 - k) cls d = ((l.length:Int) + 1,0,S1):=by
    unfold Dk.request
    rw [if_neg (by omega),if_neg (by omega),aS,hS1,hS0]
  have e2:T.hear k { k:=1,f:=(l.length:Int) + 1,c:=cls,d:=d } = (0,T1):=by
    have hck:({ k:=1,f:=(l.length:Int) + 1,c:=cls,d:=d }:Cm).ck = 0:=by exact ck_ok (by simp only; omega) (by unfold Cm.Gd; simp [hc]; omega)
    unfold Dk.hear
    rw [if_neg (by omega),hck,if_neg (by decide),if_pos rfl]
    unfold Dk.asked
    rw [aT,hT1,hT0]
  have o1:S1.out = [⟨1 - k,{ k:=1,f:=(l.length:Int) + 1,c:=cls,d:=d }⟩]:=by
    rw [hS1,hS0]
    simp only [Dk.send,Dk.post,Dk.put,hS.out,List.nil_append]
    rfl
  have o2:T1.out = []:=by rw [hT1,hT0]; exact hT.out
  refine ⟨S1,S1.take,T1.take,e1,settleK_one hk o1 hT.out (deliver_one rfl e2) (by rw [o2]; rfl) rfl,?_,?_,?_⟩
  · subst hT1; subst hT0
    simp only [Dk.tell,Dk.take,hT.evs,List.nil_append]
  · subst hS1; subst hS0
    refine hS.snoc (show (1:Int) ≠ 3 by decide) rfl rfl hS.evs (fun r=>?_) ?_ rfl rfl
    · simp only [Dk.find_take,Dk.find_send]
      have hn:=hS.none_at (r:=(l.length:Int) + 1) (by omega)
      by_cases hr:r = (l.length:Int) + 1
      · subst hr
        rw [if_pos rfl,if_pos rfl]
        unfold Dk.find at hn ⊢
        simp only [find?_app,hn,Option.none_or,List.find?_cons,decide_true,Option.map_some]
        rcases hk with rfl | rfl <;> simp [Gp.sec,Gp.g]
      · rw [if_neg (fun e=>hr e.symm),if_neg hr]
        unfold Dk.find
        simp only [find?_app,List.find?_cons,decide_eq_false (fun e:(l.length:Int) + 1 = r=>hr e.symm),List.find?_nil,Option.or_none]
    · simp only [Dk.refs_take,Dk.refs_send]
      simp only [Dk.refs,List.map_append,List.map_cons,List.map_nil]
  · subst hT1; subst hT0
    refine hT.snoc (show (1:Int) ≠ 3 by decide) rfl rfl rfl (fun r=>?_) ?_ rfl rfl
    · simp only [Dk.find_take,Dk.find_heard,Dk.find_tell]
      have hn:=hT.none_at (r:=(l.length:Int) + 1) (by omega)
      by_cases hr:r = (l.length:Int) + 1
      · subst hr
        rw [if_pos rfl]
        unfold Dk.find at hn ⊢
        simp only [find?_app,hn,Option.none_or,List.find?_cons,decide_true]
        rcases hk with rfl | rfl <;> simp [Gp.sec,Gp.g]
      · rw [if_neg hr]
        unfold Dk.find
        simp only [find?_app,List.find?_cons,decide_eq_false (fun e:(l.length:Int) + 1 = r=>hr e.symm),List.find?_nil,Option.or_none]
    · simp only [Dk.refs,Dk.take,Dk.heard,Dk.tell,List.map_append,List.map_cons,List.map_nil]
/-- a desk's finds, where one section has turned -/
def Turned (D D':Dk) (q:Int) (s:Sc):Prop:=(∃ s0,D.find q = some s0)∧∀ r,D'.find r = if r = q then some s else D.find r
theorem Turned.put {D:Dk} {q:Int} {s0:Sc} (h:D.find q = some s0) {s:Sc} (e:s.ref = q):Turned D (D.put s) q s:=⟨⟨s0,h⟩,fun r=>by
  rw [Dk.find_put,e]
  by_cases hr:r = q
  · subst hr; rw [if_pos rfl,if_pos rfl,h]; rfl
  · rw [if_neg (fun e=>hr e.symm),if_neg hr]⟩
theorem Turned.put' {D D1:Dk} {q:Int} {s0:Sc} (h:Turned D D1 q s0) {s:Sc} (e:s.ref = q):Turned D (D1.put s) q s:=⟨h.1,fun r=>by
  rw [Dk.find_put,e,h.2]
  by_cases hr:r = q
  · subst hr; rw [if_pos rfl,if_pos rfl,if_pos rfl]; rfl
  · rw [if_neg (fun e=>hr e.symm),if_neg hr,if_neg hr]⟩
theorem Turned.send {D D1:Dk} {q:Int} {s:Sc} (h:Turned D D1 q s) (e:s.ref = q) (m:Cm):Turned D (D1.send s m) q { s with t2:=0 } :=
  Turned.put' (s:={ s with t2:=0 }) h e
theorem Turned.start {D:Dk} {q:Int} {s0:Sc} (h:D.find q = some s0):Turned D D q s0:=⟨⟨s0,h⟩,fun r=>by
  by_cases hr:r = q
  · subst hr; rw [if_pos rfl,h]
  · rw [if_neg hr]⟩
section
variable {i:Nat} {p:Gp} (hk:k = 0 ∨ k = 1) (hS:DI k S l) (hT:DI (1 - k) T l) (hl:l.length ≤ 1000) (hi:l[i]? = some p) (ok:p.Ok)
include hk hS hT hl hi ok
theorem pos_i:(i:Int) + 1 ≤ 1000:=by have:=(List.getElem?_eq_some_iff.1 hi).1; omega
theorem gone_S (h:p.st = 3):S.find ((i:Int) + 1) = none:=by rw [hS.fnd i p hi,if_pos h]
theorem here_S (h:p.st ≠ 3):S.find ((i:Int) + 1) = some (p.sec k i):=by rw [hS.fnd i p hi,if_neg h]
theorem here_T (h:p.st ≠ 3):T.find ((i:Int) + 1) = some (p.sec (1 - k) i):=by rw [hT.fnd i p hi,if_neg h]
theorem act_gone (h:p.st = 3) (u:Int) (d:List Int):S.confirm ((i:Int) + 1) = (7,S)∧S.refuse ((i:Int) + 1) u = (7,S)∧S.sendD ((i:Int) + 1) d = (7,S)∧S.release ((i:Int) + 1) u = (7,S):=by
  have:=gone_S hk hS hT hl hi ok h
  simp only [Dk.confirm,Dk.refuse,Dk.sendD,Dk.release,this,and_self]
theorem act_no12 (h:p.st ≠ 3) (h2:p.st = 2 ∨ p.by' = k) (u:Int):S.confirm ((i:Int) + 1) = (6,S)∧S.refuse ((i:Int) + 1) u = (6,S):=by
  have:=here_S hk hS hT hl hi ok h
  have hst:(p.sec k i).st ≠ 2:=by
    simp only [Gp.sec]
    rcases h2 with h2 | h2
    · rw [if_neg (by omega)]; decide
    · split <;> simp [h2]
  simp only [Dk.confirm,Dk.refuse,this,if_neg hst,and_self]
theorem act_no3 (h:p.st = 1) (d:List Int):S.sendD ((i:Int) + 1) d = (6,S):=by
  have:=here_S hk hS hT hl hi ok (by omega)
  have hst:(p.sec k i).st ≠ 3:=by simp only [Gp.sec,if_pos h]; split <;> decide
  simp only [Dk.sendD,this,if_neg hst]
theorem act_no5 (h:p.st = 1) (hb:p.by' ≠ k) (u:Int):S.release ((i:Int) + 1) u = (6,S):=by
  have:=here_S hk hS hT hl hi ok (by omega)
  have hst:¬((p.sec k i).st = 1 ∨ (p.sec k i).st = 3):=by simp only [Gp.sec,if_pos h,if_neg hb]; decide
  simp only [Dk.release,this,if_neg hst]
theorem act_confirm (h:p.st = 1) (hb:p.by' ≠ k):∃ S1 S2 T2,S.confirm ((i:Int) + 1) = (0,S1)∧One k S1 T S2 T2∧T2.evs = [⟨(i:Int) + 1,2,k,0,0,[]⟩]∧DI k S2 (l.set i { p with st:=2 })∧DI (1 - k) T2.heard (l.set i { p with st:=2 }):=by
  have fS:=here_S hk hS hT hl hi ok (by omega)
  have fT:=here_T hk hS hT hl hi ok (by omega)
  have hp:=pos_i hk hS hT hl hi ok
  have hb2:p.by' = 1 - k:=by have:=ok.b; omega
  have z:=ok.z h
  obtain ⟨S1,hS1⟩:∃ S1:Dk,S1 = (S.put ((p.sec k i).turn 3)).send ((p.sec k i).turn 3) { k:=2 }:=⟨_,rfl⟩
  obtain ⟨T1,hT1⟩:∃ T1:Dk,T1 = ((T.put { p.sec (1 - k) i with t1:=0 }).put ({ { p.sec (1 - k) i with t1:=0 } with oth:=(i:Int) + 1 }.turn 3)).tell { p.sec (1 - k) i with t1:=0 } { what:=2 }:=⟨_,rfl⟩
  have e1:S.confirm ((i:Int) + 1) = (0,S1):=by
    have hst:(p.sec k i).st = 2:=by simp only [Gp.sec,if_pos h,if_neg hb]
    simp only [Dk.confirm,fS,if_pos hst,hS1]
  have e2:T.hear k { k:=2,f:=(i:Int) + 1,t:=(i:Int) + 1 } = (0,T1):=by
    have hck:({ k:=2,f:=(i:Int) + 1,t:=(i:Int) + 1 }:Cm).ck = 0:=ck_ok (by simp) (by unfold Cm.Gd; simp; omega)
    have hbel:T.belongs k { k:=2,f:=(i:Int) + 1,t:=(i:Int) + 1 } = some (p.sec (1 - k) i):=by
      unfold Dk.belongs
      simp only [fT]
      rw [if_neg (by simp only [Gp.sec]; omega),if_pos (by simp only [Gp.sec,if_pos h,if_pos hb2]),if_pos (by simp)]
    rw [hear_known (by omega) hck (by simp) hbel,hT1]
    simp only [Dk.act,if_true]
    rw [if_pos (by simp only [Gp.sec,if_pos h,if_pos hb2])]
  have o1:S1.out = [⟨1 - k,{ k:=2,f:=(i:Int) + 1,t:=(i:Int) + 1 }⟩]:=by
    rw [hS1]
    simp only [Dk.send,Dk.post,Dk.put,hS.out,List.nil_append,Sc.lt,Sc.turn,Gp.sec]
    simp [hb]
  have o2:T1.out = []:=by rw [hT1]; exact hT.out
  have uS:Turned S S1 ((i:Int) + 1) ({ (p.sec k i).turn 3 with t2:=0 }):=by rw [hS1]; exact (Turned.put fS rfl).send rfl _
  have uT:Turned T T1 ((i:Int) + 1) ({ { p.sec (1 - k) i with t1:=0 } with oth:=(i:Int) + 1 }.turn 3):=by rw [hT1]; exact (Turned.put fT (s:={ p.sec (1 - k) i with t1:=0 }) rfl).put' rfl
  refine ⟨S1,S1.take,T1.take,e1,settleK_one hk o1 hT.out (deliver_one rfl e2) (by rw [o2]; rfl) rfl,?_,?_,?_⟩
  · rw [hT1]
    simp only [Dk.take,Dk.tell,Dk.put,hT.evs,List.nil_append,Gp.sec]
    simp only [show 1 - (1 - k) = k by omega]
  · refine hS.upd hi (p:=p) (by omega) (show (2:Int) ≠ 3 by decide) ?_ rfl ?_ (fun r=>?_) ?_ ?_ ?_
    · rw [hS1]; rfl
    · rw [hS1]; exact hS.evs
    · rw [Dk.find_take,uS.2]
      congr 2
      simp only [Gp.sec,Sc.turn,Gp.g,h,z]
      simp [hb]
    · rw [hS1]; simp only [Dk.refs_take,Dk.refs_send,Dk.refs_put']
    · rw [hS1]; rfl
    · rw [hS1]; rfl
  · refine hT.upd hi (p:=p) (by omega) (show (2:Int) ≠ 3 by decide) ?_ rfl rfl (fun r=>?_) ?_ ?_ ?_
    · rw [hT1]; rfl
    · rw [Dk.find_heard,Dk.find_take,uT.2]
      congr 2 <;> simp [Gp.sec,Sc.turn,Gp.g,h,z]
    · rw [hT1]; simp only [Dk.refs_take,Dk.refs_heard,Dk.refs_tell,Dk.refs_put']
    · rw [hT1]; rfl
    · rw [hT1]; rfl
end
end
end Go.Proofs.Ytnlfkllnmobppaa

