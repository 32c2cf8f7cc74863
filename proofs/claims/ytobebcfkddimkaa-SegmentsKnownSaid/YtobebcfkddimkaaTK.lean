/- Tick: its contract. A range over a map goes any way; what is behind it is one thing. -/
import Derived.Test.YtobebcfkddimkaaTK1
import Derived.Test.YtobebcfkddimkaaAm46
import Derived.Test.YtobebcfkddimkaaAm32
namespace Go.Proofs.Ytobebcfkddimkaa
open Go AM Go.RowKit Go.Shelf Go.Sort
set_option linter.unusedVariables false
set_option linter.unusedSimpArgs false

def dec1 (w:Int):Int:=IntKind.wrap .i64 (w - 1)
def Pk.tick (u:Pk):Pk:={ u with wt:=dec1 u.wt }
def Pk.out (u:Pk):Bool:=dec1 u.wt == 0
/-- what Tick meets -/
structure TD where
  w:Int
  m:Nat
  s:Sl
  us:List Pk
  ck:Nat
  ls:List Ky
structure TickIs (H:Heap) (x:Nat) (t:TD):Prop where
  obj:H.get x = some (.cells (jc t.w t.m t.s) 64 false)
  map:H.get t.m = some (.map (t.us.map Pk.ent) t.ck)
  pcs:∀ u ∈ t.us,H.get u.p = some (.cells u.cells 76 false)
  own:Own H 57 2 t.s (ken t.ls)
  z:t.ls = []→t.s = nilS
  np:(t.us.map (·.p)).Nodup
  nk:(t.us.map (·.k)).Nodup
  nb:(t.us.map (·.born)).Nodup
  lt:∀ u ∈ t.us,u.born < t.ck
  sz:(t.ls.length + t.us.length) * 8 ≤ 140737488355328
def TD.dead (t:TD):List Ky:=(t.us.filter Pk.out).map (·.k)
def TD.live (t:TD):List Pk:=(t.us.filter fun u=>!u.out).map Pk.tick
def TD.gone (t:TD):List Ky:=t.ls ++ t.dead
/-- the pieces have grown older -/
def older (us:List Pk) (H:Heap):Heap:=us.foldl (fun H u=>H.put u.p (.cells u.tick.cells 76 false)) H
theorem older_next (us:List Pk) (H:Heap):(older us H).next = H.next:=by
  induction us generalizing H with
  | nil=>rfl
  | cons u us ih=>exact (ih _).trans rfl
theorem older_other {us:List Pk} {i:Nat} (h:∀ u ∈ us,u.p ≠ i) (H:Heap):(older us H).get i = H.get i:=by
  induction us generalizing H with
  | nil=>rfl
  | cons u us ih =>
    have:=ih (fun v hv=>h v (by simp [hv])) (H.put u.p (.cells u.tick.cells 76 false))
    refine this.trans ?_
    rw [Heap.get_put,if_neg (fun e=>h u (by simp) e.symm)]
theorem older_own {us:List Pk} (hn:(us.map (·.p)).Nodup) (H:Heap):∀ u ∈ us,(older us H).get u.p = some (.cells u.tick.cells 76 false):=by
  induction us generalizing H with
  | nil=>intro u hu; cases hu
  | cons v us ih =>
    simp only [List.map_cons,List.nodup_cons] at hn
    intro u hu
    rcases List.mem_cons.1 hu with e | hu'
    · subst e
      have:=older_other (us:=us) (i:=u.p) (fun w hw e=>hn.1 (List.mem_map.2 ⟨w,hw,e⟩)) (H.put u.p (.cells u.tick.cells 76 false))
      exact this.trans (Heap.gput _ _ _)
    · exact ih hn.2 _ u hu'
def outH0 (H:Heap) (x:Nat) (t:TD):Heap:=((older t.us H).put t.m (.map (t.live.map Pk.ent) t.ck)).put x (.cells (jc t.w t.m nilS) 64 false)
def outH1 (H:Heap) (x:Nat) (t:TD):Heap:=match t.s.a with
  | some (q,_)=>(outH0 H x t).drop q
  | none=>outH0 H x t
def outH (H:Heap) (x:Nat) (t:TD):Heap:=if t.gone = [] then outH1 H x t else (outH1 H x t).new (.cells (ken (sortBy cmpK t.gone)) 57 false)
def outS (H:Heap) (t:TD):Sl:=if t.gone = [] then nilS else ⟨some (H.next,0),t.gone.length,.ex t.gone.length⟩
section
variable {H:Heap} {x:Nat} {t:TD}
theorem outH1_next:(outH1 H x t).next = H.next:=by
  unfold outH1 outH0
  split <;> simp [older_next]
theorem TickIs.ids (h:TickIs H x t):x ≠ t.m∧x ∉ sid t.s∧t.m ∉ sid t.s∧(∀ u ∈ t.us,u.p ≠ x∧u.p ≠ t.m∧u.p ∉ sid t.s):=by
  have hs:∀ q ∈ sid t.s,H.get q = some (.cells (ken t.ls) 57 false):=by
    intro q hq
    rcases h.own.inv with ⟨e,_⟩ | ⟨id,n,e,g,_⟩
    · rw [e] at hq; cases hq
    · rw [e] at hq; simp [sid] at hq; subst hq; exact g
  refine ⟨fun e=>?_,fun hq=>?_,fun hq=>?_,fun u hu=>⟨fun e=>?_,fun e=>?_,fun hq=>?_⟩⟩
  · have:=h.obj; rw [e,h.map] at this; cases this
  · have g:=hs x hq; rw [h.obj] at g; simp at g
  · have g:=hs _ hq; rw [h.map] at g; cases g
  · have:=h.pcs u hu; rw [e,h.obj] at this; cases this
  · have:=h.pcs u hu; rw [e,h.map] at this; cases this
  · have g:=hs _ hq; rw [h.pcs u hu] at g; simp at g
theorem TickIs.nd (h:TickIs H x t):(x :: t.m :: sid t.s).Nodup:=by
  obtain ⟨a,b,c,_⟩:=h.ids
  simp only [List.nodup_cons,List.mem_cons,not_or]
  refine ⟨⟨a,b⟩,c,?_⟩
  unfold sid; split <;> simp
theorem outH1_get (h : TickIs H x t) (hw : H.Wf) : (outH1 H x t).get x = some (.cells (jc t.w t.m nilS) 64 false) ∧ (outH1 H x t).get t.m = some (.map (t.live.map Pk.ent) t.ck) ∧ (∀ u ∈ t.us, (outH1 H x t).get u.p = some (.cells u.tick.cells 76 false)) ∧ (∀ q ∈ sid t.s, (outH1 H x t).get q = none) ∧
    ∀ i,i ≠ x→i ≠ t.m→i ∉ sid t.s→(∀ u ∈ t.us,u.p ≠ i)→(outH1 H x t).get i = H.get i:=by
  obtain ⟨i1,i2,i3,i4⟩:=h.ids
  have key:∀ i,(outH0 H x t).get i = if i = x then some (.cells (jc t.w t.m nilS) 64 false) else if i = t.m then some (.map (t.live.map Pk.ent) t.ck) else (older t.us H).get i:=by
    intro i; unfold outH0; rw [Heap.get_put,Heap.get_put]
  have key2:∀ i,(outH1 H x t).get i = if i ∈ sid t.s then none else (outH0 H x t).get i:=by
    intro i
    unfold outH1 sid
    split
    · rename_i q o ha
      rw [Heap.get_drop]
      simp only [ha,List.mem_singleton]
    · rename_i ha; simp [ha]
  refine ⟨?_,?_,fun u hu=>?_,fun q hq=>?_,fun i h1 h2 h3 h4=>?_⟩
  · rw [key2,if_neg i2,key,if_pos rfl]
  · rw [key2,if_neg i3,key,if_neg (fun e=>i1 e.symm),if_pos rfl]
  · obtain ⟨a,b,c⟩:=i4 u hu
    rw [key2,if_neg c,key,if_neg a,if_neg b]
    exact older_own h.np H u hu
  · rw [key2,if_pos hq]
  · rw [key2,if_neg h3,key,if_neg h1,if_neg h2]
    exact older_other h4 H
theorem TickIs.unique {t':TD} (h:TickIs H x t) (h':TickIs H x t'):t = t':=by
  obtain ⟨w,m,s,us,ck,ls⟩:=t
  obtain ⟨w',m',s',us',ck',ls'⟩:=t'
  have e1:=h.obj.symm.trans h'.obj
  simp only [jc,Option.some.injEq,O.cells.injEq,List.cons.injEq,V.i.injEq,V.m.injEq,V.sl.injEq,and_true,true_and] at e1
  obtain ⟨rfl,rfl,rfl⟩:=e1
  have e2:=h.map.symm.trans h'.map
  simp only [Option.some.injEq,O.map.injEq] at e2
  obtain ⟨e2,rfl⟩:=e2
  have e3:us = us':=by
    have p1:=h.pcs
    have p2:=h'.pcs
    simp only at p1 p2
    clear h h'
    induction us generalizing us' with
    | nil=>cases us' with
      | nil=>rfl
      | cons u us'=>cases e2
    | cons u us ih =>
      cases us' with
      | nil=>cases e2
      | cons u' us' =>
        simp only [List.map_cons,List.cons.injEq] at e2
        obtain ⟨e2,e4⟩:=e2
        have:=ih us' e4 (fun v hv=>p1 v (by simp [hv])) (fun v hv=>p2 v (by simp [hv]))
        subst this
        congr 1
        obtain ⟨k,p,d,nx,wt,b⟩:=u
        obtain ⟨k',p',d',nx',wt',b'⟩:=u'
        simp only [Pk.ent,keyA,Prod.mk.injEq,V.agg.injEq,List.cons.injEq,V.i.injEq,V.p.injEq,Option.some.injEq,and_true,true_and] at e2
        obtain ⟨⟨k1,k2⟩,rfl,rfl⟩:=e2
        have q:=(p1 ⟨k,p,d,nx,wt,b⟩ List.mem_cons_self).symm.trans (p2 ⟨k',p,d',nx',wt',b⟩ List.mem_cons_self)
        simp only [Pk.cells,Option.some.injEq,O.cells.injEq,List.cons.injEq,V.i.injEq,V.sl.injEq,and_true,true_and] at q
        obtain ⟨rfl,rfl,rfl⟩:=q
        rw [Prod.ext k1 k2]
  subst e3
  have e5:ls = ls':=by
    have a:=h.own.slIs
    have b:=h'.own.slIs
    unfold SlIs at a b
    have:ken ls = ken ls':=Option.some.inj (a.symm.trans b)
    have c:=decL_enc ls
    rw [show (List.map encK ls).flatten = ken ls from rfl,this,show ken ls' = (List.map encK ls').flatten from rfl,decL_enc] at c
    exact (Option.some.inj c).symm
  rw [e5]
end
open Classical in
noncomputable def g11:T11:=fun R x H K=>match x with
  | none=>K nilS H
  | some (x,0)=>(H.ldI .i64 x 0).bind fun w=>if 0 < w then (if h:∃ t,TickIs H x t then K (outS H h.choose) (outH H x h.choose) else none) else K nilS H
  | _=>none
theorem g11_lin:Lin11 g11:=⟨fun {R S k x H f g} h=>by
  unfold g11
  split
  · exact h _ _
  · refine bl fun w=>?_
    split
    · split
      · exact h _ _
      · rfl
    · exact h _ _
  · rfl⟩

-- the code
noncomputable def bo (p:List Nat):List Oper:=match codeAt p b11 with
  | .region _ ops _=>ops.toList
  | _=>[]
noncomputable def bop (p:List Nat) (k:Nat):Oper:=(bo p).getD k ⟨none,.move (.tmp 0),0, "", #[],none⟩
abbrev R5:List Nat:=[1,1,1,0,1,0,0,0]
abbrev R6:List Nat:=[1,1,1,0,1,0,0,1,1,0,0]
abbrev RR:List Nat:=[1,1,1,0,1,0,0,1,1,0,1]
theorem bc_eq : b11 = .seq (codeAt [0] b11) (.seq (.seq (codeAt [1, 0, 0] b11) (.cond (.tmp 11) (.seq (codeAt [1, 0, 1, 0, 0] b11) .ret) .skip)) (.seq (codeAt [1, 1, 0] b11) (.seq (.seq (codeAt [1, 1, 1, 0, 0] b11)
    (.block 0 (.loop (.seq (.region 5 (bo R5).toArray false) (.seq (.cond (.tmp 18) .skip (.exit 0)) (.block 1 (.seq (.region 6 (bo R6).toArray false) (codeAt RR b11)))))))) (codeAt [1,1,1,1] b11)))):=by kernel_rfl
theorem tail_code:rassoc (codeAt [1,1,1,1] b11) = c11_5:=by kernel_rfl
noncomputable abbrev n11:Nat:=Try.f11.ntmps
noncomputable def EM:FEnv:=[(22,w22 g22)]
theorem EM_good:EnvGood Try.prog EM:=(EnvGood.nil _).cons ok22 (w22_lin g22_lin)
section
variable {R:Type} (H:Heap) (K:Ex→Fr→Heap→Option R) (xv:Option (Nat × Nat))
theorem q0:ev Try.prog EM loopLim n11 kp11 (codeAt [0] b11) [(0,.p xv)] H K = K .normal [(0,.p xv)] H:=by kernel_rfl
theorem q1:ev Try.prog EM loopLim n11 kp11 (codeAt [1,0,0] b11) [(0,.p xv)] H K = g22 R xv H fun b H=>K .normal [(0,.p xv),(11,.b (!b))] H:=by kernel_rfl
theorem q2:ev Try.prog EM loopLim n11 kp11 (.seq (codeAt [1,0,1,0,0] b11) .ret) [(0,.p xv),(11,.b true)] H K = K .ret [(2,.sl nilS)] H:=by kernel_rfl
theorem q3 (b:Bool):ev Try.prog EM loopLim n11 kp11 (codeAt [1,1,0] b11) [(0,.p xv),(11,.b b)] H K = K .normal [(0,.p xv),(3,.sl nilS)] H:=by kernel_rfl
theorem q4 (id:Nat) (ov:Sl):ev Try.prog EM loopLim n11 kp11 (codeAt [1,1,1,0,0] b11) [(0,.p (some (id,0))),(3,.sl ov)] H K = (H.ldM id (0 + 1)).bind fun m=>m.bind fun m=>(getMap H (some m)).bind fun q=>K .normal [(0,.p (some (id,0))),(3,.sl ov),(16,.p (some (H.next,0)))] (H.new (.miter (some m) q.2 [] q.2)):=by kernel_rfl
theorem q7 (id it i4 p:Nat) (ov:Sl):ev Try.prog EM loopLim n11 kp11 (codeAt RR b11) [(0,.p (some (id,0))),(3,.sl ov),(4,.p (some (i4,0))),(5,.p (some (p,0))),(16,.p (some (it,0)))] H K =
  (H.ldI .i64 p (0 + 2)).bind fun x1 =>
  (H.st p (0 + 2) (V.i .i64 (IntKind.wrap .i64 (x1 - (1:Int))))).bind fun h3 =>
  (h3.ldI .i64 p (0 + 2)).bind fun x4 =>
  sel (x4 == (0:Int)) (
    (h3.ldI .u16 i4 (0 + 0)).bind fun x5 =>
    (h3.ldI .u32 i4 (0 + 1)).bind fun x6 =>
    alo h3 (.cells [(V.i .u16 x5),(V.i .u32 x6)] 57 false) fun i7 h8 =>
    (slCells h8 2 (Sl.mk (some (i7,0)) 1 (.ex 1))).bind fun vs11 =>
    appendV h8 57 2 8 ov (Sl.mk (some (i7,0)) 1 (.ex 1)).len vs11 fun s9 h10 =>
    K .normal [(0,(V.p (some (id,0)))),(3,(V.sl s9)),(16,(V.p (some (it,0))))] h10) (
    K .normal [(0,(V.p (some (id,0)))),(3,(V.sl ov)),(16,(V.p (some (it,0))))] h3):=by kernel_rfl
end
section
variable {R:Type} (H:Heap)
theorem q5 (xv it:Option (Nat × Nat)) (ov:Sl) (b:Bool) (tv:V) (K:Fr→Heap→Option R) (h:tv = .tup [.b b] ∨ ∃ k v,tv = .tup [.b b,k,v]):evOps Try.prog EM n11 (bo R5) ((bo R5).drop 1) [(0,.p xv),(3,.sl ov),(16,.p it),(17,tv)] H K = K [(0,.p xv),(3,.sl ov),(16,.p it),(17,tv),(18,.b b)] H:=by
  rcases h with rfl | ⟨k,v,rfl⟩ <;> kernel_rfl
theorem q6 (xv it : Option (Nat × Nat)) (ov : Sl) (tv : V) (a c : Int) (p : Nat) (K : Fr → Heap → Option R) : evOps Try.prog EM n11 (bo R6) ((bo R6).drop 1) [(0, .p xv), (3, .sl ov), (16, .p it), (17, tv), (18, .b true), (19, .tup [.agg [.i .u16 a, .i .u32 c], .p (some (p, 0))])] H K =
    alo H (.cells [(V.i .u16 (0:Int)),(V.i .u32 (0:Int))] 57 false) fun i1 h2 =>
    ((h2).sts i1 0 [(V.i .u16 a),(V.i .u32 c)]).bind fun h3 =>
    K [(0,.p xv),(3,.sl ov),(16,.p it),(17,tv),(18,.b true),(19,.tup [.agg [.i .u16 a,.i .u32 c],.p (some (p,0))]),(20,.agg [.i .u16 a,.i .u32 c]),(21,.p (some (p,0))),(4,.p (some (i1,0))),(5,.p (some (p,0)))] h3:=by kernel_rfl
end
/-- in the range: what was seen -/
structure LI (H0:Heap) (x:Nat) (t:TD) (seen:List Pk) (os:Sl) (H:Heap):Prop where
  wf:H.Wf
  nxt:H0.next + 1 ≤ H.next
  it:H.get H0.next = some (.miter (some t.m) t.ck (seen.map (·.born)) t.ck)
  sub:∀ u ∈ seen,u ∈ t.us
  nd:(seen.map (·.born)).Nodup
  pcs:∀ u ∈ t.us,H.get u.p = some (.cells (if u.born ∈ seen.map (·.born) then u.tick.cells else u.cells) 76 false)
  own:Own H 57 2 os (ken ((seen.filter Pk.out).map (·.k)))
  ids:∀ i ∈ sid os,H0.next < i
  oth:∀ i,i < H0.next→(∀ u ∈ t.us,u.p ≠ i)→H.get i = H0.get i
theorem inj_born {us:List Pk} (hn:(us.map (·.born)).Nodup) {u v:Pk} (hu:u ∈ us) (hv:v ∈ us) (e:u.born = v.born):u = v:=by
  obtain ⟨i,hi⟩:=List.mem_iff_getElem?.1 hu
  obtain ⟨j,hj⟩:=List.mem_iff_getElem?.1 hv
  have hli:=(List.getElem?_eq_some_iff.1 hi).1
  have:i = j:=(List.getElem?_inj (i:=i) (j:=j) (by simpa using hli) hn).1 (by simp [hi,hj,e])
  subst this
  rw [hi] at hj
  exact Option.some.inj hj
theorem inj_p {us:List Pk} (hn:(us.map (·.p)).Nodup) {u v:Pk} (hu:u ∈ us) (hv:v ∈ us) (e:u.p = v.p):u = v:=by
  obtain ⟨i,hi⟩:=List.mem_iff_getElem?.1 hu
  obtain ⟨j,hj⟩:=List.mem_iff_getElem?.1 hv
  have hli:=(List.getElem?_eq_some_iff.1 hi).1
  have:i = j:=(List.getElem?_inj (i:=i) (j:=j) (by simpa using hli) hn).1 (by simp [hi,hj,e])
  subst this
  rw [hi] at hj
  exact Option.some.inj hj
theorem nodup_of_map {α β:Type} {f:α→β} {l:List α} (h:(l.map f).Nodup):l.Nodup:=by
  induction l with
  | nil=>exact List.nodup_nil
  | cons a l ih =>
    simp only [List.map_cons,List.nodup_cons] at h ⊢
    exact ⟨fun hm=>h.1 (List.mem_map.2 ⟨a,hm,rfl⟩),ih h.2⟩
theorem nodup_sub_len:∀ {l m:List Nat},l.Nodup→(∀ x ∈ l,x ∈ m)→l.length ≤ m.length:=by
  intro l
  induction l with
  | nil=>intro m _ _; exact Nat.zero_le _
  | cons a l ih =>
    intro m hn hs
    simp only [List.nodup_cons] at hn
    have ha:=hs a (by simp)
    have h1:=ih (m:=m.erase a) hn.2 fun x hx=>(List.mem_erase_of_ne (fun (e:x = a)=>hn.1 (e ▸ hx))).2 (hs x (by simp [hx]))
    rw [List.length_erase_of_mem ha] at h1
    have:=List.length_pos_of_mem ha
    simp only [List.length_cons]; omega
theorem sub_len {l m:List Pk} (hn:(l.map (·.born)).Nodup) (hs:∀ u ∈ l,u ∈ m):l.length ≤ m.length:=by
  have:=nodup_sub_len (m:=m.map (·.born)) hn (fun x hx=>by obtain ⟨u,hu,rfl⟩:=List.mem_map.1 hx; exact List.mem_map.2 ⟨u,hs u hu,rfl⟩)
  simpa using this
theorem LI.len {H0 H:Heap} {x:Nat} {t:TD} {seen:List Pk} {os:Sl} (h:LI H0 x t seen os H):seen.length ≤ t.us.length :=
  sub_len h.nd h.sub
/-- a step of the range -/
theorem LI.step {H0 H : Heap} {x : Nat} {t : TD} {seen : List Pk} {os : Sl} (h : LI H0 x t seen os H) (hw0 : H0.Wf) (ht : TickIs H0 x t) {u : Pk} (hu : u ∈ t.us) (hns : u.born ∉ seen.map (·.born)) :
    ∃ os' H',LI H0 x t (seen ++ [u]) os' H'∧∀ (R:Type) (K:Sl→Heap→Option R),
      (alo (H.put H0.next (.miter (some t.m) t.ck (seen.map (·.born) ++ [u.born]) t.ck)) (.cells [(V.i .u16 (0:Int)),(V.i .u32 (0:Int))] 57 false) fun i4 h2 =>
        ((h2).sts i4 0 [(V.i .u16 u.k.1),(V.i .u32 u.k.2)]).bind fun H =>
        (H.ldI .i64 u.p (0 + 2)).bind fun x1 =>
        (H.st u.p (0 + 2) (V.i .i64 (IntKind.wrap .i64 (x1 - (1:Int))))).bind fun h3 =>
        (h3.ldI .i64 u.p (0 + 2)).bind fun x4 =>
        sel (x4 == (0:Int)) (
          (h3.ldI .u16 i4 (0 + 0)).bind fun x5 =>
          (h3.ldI .u32 i4 (0 + 1)).bind fun x6 =>
          alo h3 (.cells [(V.i .u16 x5),(V.i .u32 x6)] 57 false) fun i7 h8 =>
          (slCells h8 2 (Sl.mk (some (i7,0)) 1 (.ex 1))).bind fun vs11 =>
          appendV h8 57 2 8 os (Sl.mk (some (i7,0)) 1 (.ex 1)).len vs11 fun s9 h10 =>
          K s9 h10) (K os h3)) = K os' H':=by
  obtain ⟨i1,i2,i3,i4⟩:=ht.ids
  have hup:u.p < H0.next:=hw0 _ _ (ht.pcs u hu)
  have hitn:u.p ≠ H0.next:=by omega
  have w1:=h.wf.put h.it (.miter (some t.m) t.ck (seen.map (·.born) ++ [u.born]) t.ck)
  have hlen:=h.len
  have hsz:=ht.sz
  have hnu:u ∉ seen:=fun hm=>hns (List.mem_map.2 ⟨u,hm,rfl⟩)
  have hlen2:seen.length < t.us.length:=by
    have:((u :: seen).map (·.born)).Nodup:=by rw [List.map_cons]; exact List.nodup_cons.2 ⟨hns,h.nd⟩
    have:=sub_len this (m:=t.us) (fun v hv=>by rcases List.mem_cons.1 hv with e | e; exact e ▸ hu; exact h.sub v e)
    simp only [List.length_cons] at this; omega
  have gp1:(H.put H0.next (.miter (some t.m) t.ck (seen.map (·.born) ++ [u.born]) t.ck)).get u.p = some (.cells u.cells 76 false):=by
    rw [Heap.get_put,if_neg hitn,h.pcs u hu,if_neg hns]
  have n1:(H.put H0.next (.miter (some t.m) t.ck (seen.map (·.born) ++ [u.born]) t.ck)).next = H.next:=rfl
  have git1:=Heap.gput H H0.next (.miter (some t.m) t.ck (seen.map (·.born) ++ [u.born]) t.ck)
  have k1:∀ i,i ≠ H0.next→(H.put H0.next (.miter (some t.m) t.ck (seen.map (·.born) ++ [u.born]) t.ck)).get i = H.get i:=fun i hi=>by rw [Heap.get_put,if_neg hi]
  generalize H.put H0.next (.miter (some t.m) t.ck (seen.map (·.born) ++ [u.born]) t.ck) = H1 at *
  have st2:=sts_of (H:=H1.new (.cells [(V.i .u16 (0:Int)),(V.i .u32 (0:Int))] 57 false)) (off:=0) (l:=encK u.k) (Heap.gnew _ _) (by simp [encK]) rfl
  rw [show splice [(V.i .u16 (0:Int)),(V.i .u32 (0:Int))] 0 (encK u.k) = encK u.k from rfl] at st2
  have hnx:=h.nxt
  have w2:=(w1.new (.cells [(V.i .u16 (0:Int)),(V.i .u32 (0:Int))] 57 false)).put (Heap.gnew _ _) (.cells (encK u.k) 57 false)
  have g2:=Heap.gput (H1.new (.cells [(V.i .u16 (0:Int)),(V.i .u32 (0:Int))] 57 false)) H1.next (.cells (encK u.k) 57 false)
  have n2:((H1.new (.cells [(V.i .u16 (0:Int)),(V.i .u32 (0:Int))] 57 false)).put H1.next (.cells (encK u.k) 57 false)).next = H1.next + 1:=rfl
  have k2:∀ i,i < H1.next→((H1.new (.cells [(V.i .u16 (0:Int)),(V.i .u32 (0:Int))] 57 false)).put H1.next (.cells (encK u.k) 57 false)).get i = H1.get i:=fun i hi=>by rw [Heap.get_put,if_neg (by omega),Heap.get_new,if_neg (by omega)]
  generalize (H1.new (.cells [(V.i .u16 (0:Int)),(V.i .u32 (0:Int))] 57 false)).put H1.next (.cells (encK u.k) 57 false) = H2 at *
  have gp2:H2.get u.p = some (.cells u.cells 76 false):=(k2 _ (by omega)).trans gp1
  have l2:H2.ldI .i64 u.p (0 + 2) = some u.wt:=ldI_of gp2 rfl
  have st3:=st_of (off:=0 + 2) (v:=.i .i64 (dec1 u.wt)) gp2 (by simp [Pk.cells]) rfl
  rw [show u.cells.set (0 + 2) (.i .i64 (dec1 u.wt)) = u.tick.cells from rfl] at st3
  have w3:=w2.put gp2 (.cells u.tick.cells 76 false)
  have g3:=Heap.gput H2 u.p (.cells u.tick.cells 76 false)
  have n3:(H2.put u.p (.cells u.tick.cells 76 false)).next = H2.next:=rfl
  have k3:∀ i,i ≠ u.p→(H2.put u.p (.cells u.tick.cells 76 false)).get i = H2.get i:=fun i hi=>by rw [Heap.get_put,if_neg hi]
  generalize hH3:H2.put u.p (.cells u.tick.cells 76 false) = H3 at *
  have l3:H3.ldI .i64 u.p (0 + 2) = some (dec1 u.wt):=ldI_of g3 rfl
  have g3k:H3.get H1.next = some (.cells (encK u.k) 57 false):=(k3 _ (by omega)).trans g2
  have l4:H3.ldI .u16 H1.next (0 + 0) = some u.k.1:=ldI_of g3k rfl
  have l5:H3.ldI .u32 H1.next (0 + 1) = some u.k.2:=ldI_of g3k rfl
  have k13:∀ i,i < H.next→i ≠ H0.next→i ≠ u.p→H3.get i = H.get i:=fun i h1 h2 h3=>(k3 i h3).trans ((k2 i (by omega)).trans (k1 i h2))
  have own3:Own H3 57 2 os (ken ((seen.filter Pk.out).map (·.k))):=h.own.mono fun id o ha ho=>by
    have hid:=h.ids id (by simp [sid,ha])
    rw [k13 id (h.wf _ _ ho) (by omega) (by omega)]; exact ho
  have it3:H3.get H0.next = some (.miter (some t.m) t.ck (seen.map (·.born) ++ [u.born]) t.ck):=(k3 _ (by omega)).trans ((k2 _ (by omega)).trans git1)
  have pcs3:∀ v ∈ t.us,H3.get v.p = some (.cells (if v.born ∈ (seen ++ [u]).map (·.born) then v.tick.cells else v.cells) 76 false):=fun v hv=>by
    by_cases e:v.p = u.p
    · obtain rfl:=inj_p ht.np hv hu e
      rw [if_pos (by simp),g3]
    · rw [k13 v.p (h.wf _ _ (h.pcs v hv)) (by have:=hw0 _ _ (ht.pcs v hv); omega) e,h.pcs v hv]
      have:(v.born ∈ (seen ++ [u]).map (·.born)) ↔ v.born ∈ seen.map (·.born):=by
        simp only [List.map_append,List.mem_append,List.map_cons,List.map_nil,List.mem_singleton]
        refine ⟨fun h2=>h2.resolve_right fun e2=>e ?_,.inl⟩
        rw [inj_born ht.nb hv hu e2]
      simp only [this]
  have oth3:∀ i,i < H0.next→(∀ v ∈ t.us,v.p ≠ i)→H3.get i = H0.get i:=fun i hi hv=>by
    rw [k13 i (by omega) (by omega) (fun e=>hv u hu e.symm),h.oth i hi hv]
  have nd3:((seen ++ [u]).map (·.born)).Nodup:=by
    rw [List.map_append,List.nodup_append]
    refine ⟨h.nd,by simp,fun a ha b hb=>?_⟩
    simp only [List.map_cons,List.map_nil,List.mem_singleton] at hb
    subst hb
    rintro rfl
    exact hns ha
  have sub3:∀ v ∈ seen ++ [u],v ∈ t.us:=fun v hv=>by
    rcases List.mem_append.1 hv with hv | hv
    · exact h.sub v hv
    · rw [List.mem_singleton.1 hv]; exact hu
  have bm:(seen ++ [u]).map (·.born) = seen.map (·.born) ++ [u.born]:=by simp
  have pre : ∀ (R : Type) (K : Sl → Heap → Option R), (alo H1 (.cells [(V.i .u16 (0 : Int)), (V.i .u32 (0 : Int))] 57 false) fun i4 h2 =>
        ((h2).sts i4 0 [(V.i .u16 u.k.1),(V.i .u32 u.k.2)]).bind fun H =>
        (H.ldI .i64 u.p (0 + 2)).bind fun x1 =>
        (H.st u.p (0 + 2) (V.i .i64 (IntKind.wrap .i64 (x1 - (1:Int))))).bind fun h3 =>
        (h3.ldI .i64 u.p (0 + 2)).bind fun x4 =>
        sel (x4 == (0:Int)) (
          (h3.ldI .u16 i4 (0 + 0)).bind fun x5 =>
          (h3.ldI .u32 i4 (0 + 1)).bind fun x6 =>
          alo h3 (.cells [(V.i .u16 x5),(V.i .u32 x6)] 57 false) fun i7 h8 =>
          (slCells h8 2 (Sl.mk (some (i7,0)) 1 (.ex 1))).bind fun vs11 =>
          appendV h8 57 2 8 os (Sl.mk (some (i7,0)) 1 (.ex 1)).len vs11 fun s9 h10 =>
          K s9 h10) (K os h3)) = sel (dec1 u.wt == 0) (alo H3 (.cells (encK u.k) 57 false) fun i7 h8 =>
          (slCells h8 2 (Sl.mk (some (i7,0)) 1 (.ex 1))).bind fun vs11 =>
          appendV h8 57 2 8 os (Sl.mk (some (i7,0)) 1 (.ex 1)).len vs11 fun s9 h10 =>
          K s9 h10) (K os H3):=fun R K=>by
    simp only [alo]
    rw [show [(V.i .u16 u.k.1),(V.i .u32 u.k.2)] = encK u.k from rfl,st2,Option.bind_some,l2,Option.bind_some,show IntKind.wrap .i64 (u.wt - 1) = dec1 u.wt from rfl,st3,Option.bind_some,l3,Option.bind_some,l4,Option.bind_some,l5,Option.bind_some]
    rfl
  by_cases hout:u.out = true
  · have hd:(dec1 u.wt == 0) = true:=hout
    have w4:=w3.new (.cells (encK u.k) 57 false)
    have x4:=Ext.new H3 (.cells (encK u.k) 57 false)
    have own4:Own (H3.new (.cells (encK u.k) 57 false)) 57 2 os (ken ((seen.filter Pk.out).map (·.k))):=own3.mono fun id o _ ho=>x4.get w3 ho
    have n4:(H3.new (.cells (encK u.k) 57 false)).next = H3.next + 1:=rfl
    have sl4:slCells (H3.new (.cells (encK u.k) 57 false)) 2 ⟨some (H3.next,0),1,.ex 1⟩ = some (encK u.k):=by
      have:=slIs_of (off:=0) (len:=1) (sz:=2) (c:=.ex 1) (Heap.gnew H3 (.cells (encK u.k) 57 false)) (by simp [encK])
      simpa [SlIs,encK] using this
    have hosl:os.len = (seen.filter Pk.out).length:=by have:=h.own.len; rw [ken_len,List.length_map] at this; omega
    have hfl:=List.length_filter_le Pk.out seen
    obtain ⟨r,H5,e5,o5,l5',a5,w5,n5,k5⟩:=own_append w4 own4 (n:=1) (new:=encK u.k) (bytes:=8) (by omega) (by omega) rfl rfl (by omega) (by omega)
    have k5':∀ i,i < H3.next→i ∉ sid os→H5.get i = H3.get i:=fun i hi hs=>by
      rw [k5 i (by omega) (fun ha=>hs (by simp [sid,ha])),Heap.get_new,if_neg (by omega)]
    have nos:∀ i,i ≤ H0.next→i ∉ sid os:=fun i hi hs=>by have:=h.ids i hs; omega
    refine ⟨r,H5,⟨w5,by omega,?_,sub3,nd3,fun v hv=>?_,?_,fun i hi=>?_,fun i hi hv=>?_⟩,fun R K=>?_⟩
    · rw [bm,k5' _ (by omega) (nos _ (Nat.le_refl _))]; exact it3
    · have:=hw0 _ _ (ht.pcs v hv)
      rw [k5' _ (by omega) (nos _ (by omega))]; exact pcs3 v hv
    · rw [List.filter_append,List.filter_cons,if_pos hout,List.filter_nil,List.map_append,ken_append]
      have:ken (List.map (·.k) [u]) = encK u.k:=by simp [ken]
      rw [this]; exact o5
    · simp only [sid,a5,List.mem_singleton] at hi; omega
    · rw [k5' _ (by omega) (nos _ (by omega))]; exact oth3 i hi hv
    · rw [pre,hd,sel_true]
      simp only [alo]
      rw [sl4,Option.bind_some]
      exact e5 R K
  · have hd:(dec1 u.wt == 0) = false:=by simpa [Pk.out] using hout
    refine ⟨os,H3,⟨w3,by omega,?_,sub3,nd3,pcs3,?_,h.ids,oth3⟩,fun R K=>?_⟩
    · rw [bm]; exact it3
    · rw [List.filter_append,List.filter_cons,if_neg hout,List.filter_nil,List.append_nil]; exact own3
    · rw [pre,hd,sel_false]
end Go.Proofs.Ytobebcfkddimkaa

