/- The joiner: what stands for it, and what its steps do to it. -/
import Derived.Test.YtobebcfkddimkaaSA
namespace Go.Proofs.Ytobebcfkddimkaa
open Go AM Go.RowKit
set_option linter.unusedVariables false
set_option linter.unusedSimpArgs false

def Foot (x:Nat) (t:TD) (i:Nat):Prop:=i = x ∨ i = t.m ∨ i ∈ sid t.s ∨ ∃ u ∈ t.us,i = u.p ∨ i ∈ sid u.d
structure JS (H:Heap) (x:Nat) (F:Nat→Prop) (t:TD) (bd:Nat→List Int):Prop where
  wf:H.Wf
  is:TickIs H x t
  dat:∀ u ∈ t.us,Own H 5 1 u.d (bcs (bd u.p))
  dis:∀ u ∈ t.us,∀ v ∈ t.us,∀ q,q ∈ sid u.d→q ∈ sid v.d→u.p = v.p
  foot:∀ i,Foot x t i→F i
/-- what a step may touch, and what it makes -/
def grown (F:Nat→Prop) (H H':Heap) (i:Nat):Prop:=F i ∨ H.next ≤ i∧i < H'.next
section
variable {H:Heap} {x:Nat} {F:Nat→Prop} {t:TD} {bd:Nat→List Int}
theorem AM.Own.sidg {e:TypeId} {sz:Nat} {s:Sl} {l:List V} (h:Own H e sz s l) {q:Nat} (hq:q ∈ sid s):s.a = some (q,0)∧H.get q = some (.cells l e false):=by
  rcases h.inv with ⟨e,_⟩ | ⟨id,n,e,g,_⟩
  · rw [e] at hq; cases hq
  · rw [e] at hq ⊢; simp [sid] at hq; subst hq; exact ⟨rfl,g⟩
theorem sid_of {s:Sl} {q:Nat} (h:s.a = some (q,0)):q ∈ sid s:=by simp [sid,h]
theorem JS.did (h:JS H x F t bd) {u:Pk} (hu:u ∈ t.us) {q:Nat} (hq:q ∈ sid u.d):q ≠ x∧q ≠ t.m∧q ∉ sid t.s∧(∀ v ∈ t.us,q ≠ v.p)∧q < H.next:=by
  obtain ⟨_,g⟩:=(h.dat u hu).sidg hq
  refine ⟨fun e=>?_,fun e=>?_,fun hs=>?_,fun v hv e=>?_,h.wf _ _ g⟩
  · rw [e,h.is.obj] at g; simp at g
  · rw [e,h.is.map] at g; simp at g
  · obtain ⟨_,g2⟩:=h.is.own.sidg hs
    rw [g2] at g; simp at g
  · rw [e,h.is.pcs v hv] at g; simp at g
theorem JS.flt (h:JS H x F t bd) {i:Nat} (hf:Foot x t i):i < H.next:=by
  rcases hf with rfl | rfl | hs | ⟨u,hu,rfl | hq⟩
  · exact h.wf _ _ h.is.obj
  · exact h.wf _ _ h.is.map
  · exact h.wf _ _ (h.is.own.sidg hs).2
  · exact h.wf _ _ (h.is.pcs u hu)
  · exact (h.did hu hq).2.2.2.2
/-- drop, of an open piece -/
theorem JS.drop (h : JS H x F t bd) {u : Pk} (hu : u ∈ t.us) : ∃ s' H', (∀ (R : Type) (K : Heap → Option R), g23 R (some (x, 0)) u.k.1 u.k.2 H K = K H') ∧
    JS H' x (grown F H H') { t with s:=s',us:=t.us.filter fun v=>decide (v.k ≠ u.k),ls:=t.ls ++ [u.k] } bd∧Fr' F H H':=by
  obtain ⟨i1,i2,i3,i4⟩:=h.is.ids
  have hsl:t.s.len = t.ls.length:=by have:=h.is.own.len; rw [ken_len] at this; omega
  have hsz:=h.is.sz
  have hlt:(t.us.filter fun v=>decide (v.k ≠ u.k)).length < t.us.length:=List.length_filter_lt_length_iff_exists.2 ⟨u,hu,by simp⟩
  obtain ⟨s',H',e1,e2,e3,e4,e5,e6,e7,e8⟩:=s23 h.wf h.is.obj h.is.map h.is.own h.is.nk hu h.is.nd (by omega)
  have hsub:∀ v,v ∈ (t.us.filter fun v=>decide (v.k ≠ u.k))→v ∈ t.us:=fun v hv=>(List.mem_filter.1 hv).1
  have sl:(t.us.filter fun v=>decide (v.k ≠ u.k)).Sublist t.us:=List.filter_sublist
  refine ⟨s',H',e1,⟨e7,⟨e2,e3,fun v hv=>?_,?_,fun e=>by simp at e,h.is.np.sublist (sl.map _),h.is.nk.sublist (sl.map _),h.is.nb.sublist (sl.map _),fun v hv=>h.is.lt v (hsub v hv),?_⟩,fun v hv=>?_,fun v hv v' hv'=>h.dis v (hsub v hv) v' (hsub v' hv'),fun i hi=>?_⟩,e8.mono fun i _ hi=>?_⟩
  · obtain ⟨a,b,c⟩:=i4 v (hsub v hv)
    exact e8.get h.wf (h.is.pcs v (hsub v hv)) (by simp only [List.mem_cons,not_or]; exact ⟨a,b,c⟩)
  · rw [ken_append]
    have:ken [u.k] = encK u.k:=by simp [ken]
    rw [this]; exact e4
  · simp only [List.length_append,List.length_cons,List.length_nil]; omega
  · refine (h.dat v (hsub v hv)).mono fun id o ha ho=>?_
    obtain ⟨a,b,c,_⟩:=h.did (hsub v hv) (sid_of ha)
    exact e8.get h.wf ho (by simp only [List.mem_cons,not_or]; exact ⟨a,b,c⟩)
  · rcases hi with rfl | rfl | hs | ⟨v,hv,hq⟩
    · exact .inl (h.foot _ (.inl rfl))
    · exact .inl (h.foot _ (.inr (.inl rfl)))
    · exact .inr ⟨e6 i hs,e7 _ _ (e4.sidg hs).2⟩
    · exact .inl (h.foot _ (.inr (.inr (.inr ⟨v,hsub v hv,hq⟩))))
  · simp only [List.mem_cons] at hi
    rcases hi with rfl | rfl | hi
    · exact h.foot _ (.inl rfl)
    · exact h.foot _ (.inr (.inl rfl))
    · exact h.foot _ (.inr (.inr (.inl hi)))
theorem JS.drop_none (h:JS H x F t bd) {k:Ky} (hk:∀ v ∈ t.us,v.k ≠ k) {R:Type} (K:Heap→Option R):g23 R (some (x,0)) k.1 k.2 H K = K H:=by
  obtain ⟨a0,a1,a2⟩:=ldJ h.is.obj
  simp only [g23,g23_r,g23_p0,Option.bind_some,a1,getMap,h.is.map]
  rw [show V.agg [V.i IntKind.u16 k.1,V.i IntKind.u32 k.2] = keyA k from rfl]
  simp only [find_at,Option.bind_some,at_none hk,fnd_none]
def newP (k:Ky) (p:Nat) (l:Int) (ck:Nat):Pk:=⟨k,p,nilS,l,0,ck⟩
/-- a new piece -/
theorem JS.add (h : JS H x F t bd) {k : Ky} (hk : ∀ v ∈ t.us, v.k ≠ k) (l : Int) (hsz : t.ls.length + t.us.length ≤ 1000000) :
    ∃ H', (∀ (R : Type) (K : Option (Nat × Nat) → Heap → Option R), (alo H (.cells [(V.sl (Sl.mk none 0 (.ex 0))), (V.i .u8 l), (V.i .i64 (0 : Int))] 76 false) fun i685 h686 =>
            ((h686).ldM x (0 + 1)).bind fun x688 =>
            mapSet Try.prog h686 62 (V.m x688) (V.agg [(V.i .u16 k.1),(V.i .u32 k.2)]) (V.p (some (i685,0))) fun u690 h689=>K (some (i685,0)) h689) = K (some (H.next,0)) H') ∧
      JS H' x (grown F H H') { t with us:=t.us ++ [newP k H.next l t.ck],ck:=t.ck + 1 } (fun i=>if i = H.next then [] else bd i)∧Fr' F H H':=by
  obtain ⟨i1,i2,i3,i4⟩:=h.is.ids
  have w1:=h.wf.new (.cells [.sl nilS,.i .u8 l,.i .i64 0] 76 false)
  have x1:=Ext.new H (.cells [.sl nilS,.i .u8 l,.i .i64 0] 76 false)
  have g1:=Heap.gnew H (.cells [.sl nilS,.i .u8 l,.i .i64 0] 76 false)
  have gx1:=x1.get h.wf h.is.obj
  have gm1:=x1.get h.wf h.is.map
  have n1:(H.new (.cells [.sl nilS,.i .u8 l,.i .i64 0] 76 false)).next = H.next + 1:=rfl
  generalize hH1:H.new (.cells [.sl nilS,.i .u8 l,.i .i64 0] 76 false) = H1 at *
  have hml:=h.wf _ _ h.is.map
  have hxl:=h.wf _ _ h.is.obj
  have w2:=w1.put gm1 (.map ((t.us ++ [newP k H.next l t.ck]).map Pk.ent) (t.ck + 1))
  have keep:∀ i,i < H.next→i ≠ t.m→(H1.put t.m (.map ((t.us ++ [newP k H.next l t.ck]).map Pk.ent) (t.ck + 1))).get i = H.get i:=fun i hi hm=>by
    rw [Heap.get_put,if_neg hm,x1.same i hi (fun h=>h)]
  have hpl:∀ u ∈ t.us,u.p < H.next:=fun u hu=>h.wf _ _ (h.is.pcs u hu)
  refine ⟨H1.put t.m (.map ((t.us ++ [newP k H.next l t.ck]).map Pk.ent) (t.ck + 1)),fun R K=>?_,⟨w2,⟨?_,Heap.gput _ _ _,fun u hu=>?_,?_,h.is.z,?_,?_,?_,fun u hu=>?_,?_⟩,fun u hu=>?_,fun u hu v hv q hq hq'=>?_,fun i hi=>?_⟩,⟨by rw [Heap.next_put,n1]; omega,fun i hi hf=>keep i hi fun e=>hf (h.foot _ (.inr (.inl e)))⟩⟩
  · simp only [alo]
    rw [show [(V.sl (Sl.mk none 0 (.ex 0))),(V.i .u8 l),(V.i .i64 (0:Int))] = [.sl nilS,.i .u8 l,.i .i64 0] from rfl,hH1,(ldJ gx1).2.1,Option.bind_some,show V.agg [V.i IntKind.u16 k.1,V.i IntKind.u32 k.2] = keyA k from rfl]
    simp only [mapSet,und62,keyOK,if_true,V.asM,Option.bind_some,getMap,gm1,find_at,at_none hk]
    rw [List.map_append]
    rfl
  · rw [keep x hxl i1]; exact h.is.obj
  · rcases List.mem_append.1 hu with hu | hu
    · rw [keep u.p (hpl u hu) (i4 u hu).2.1]; exact h.is.pcs u hu
    · rw [List.mem_singleton.1 hu]
      rw [Heap.get_put,if_neg (show (newP k H.next l t.ck).p ≠ t.m from (by omega:H.next ≠ t.m))]; exact g1
  · refine h.is.own.mono fun id o ha ho=>?_
    rw [keep id (h.wf _ _ ho) (fun e=>i3 (e ▸ sid_of ha))]; exact ho
  · rw [List.map_append,List.nodup_append]
    refine ⟨h.is.np,by simp,fun a ha b hb=>?_⟩
    obtain ⟨u,hu,rfl⟩:=List.mem_map.1 ha
    simp only [List.map_cons,List.map_nil,List.mem_singleton] at hb
    have:=hpl u hu
    have e:(newP k H.next l t.ck).p = H.next:=rfl
    omega
  · rw [List.map_append,List.nodup_append]
    refine ⟨h.is.nk,by simp,fun a ha b hb=>?_⟩
    obtain ⟨u,hu,rfl⟩:=List.mem_map.1 ha
    simp only [List.map_cons,List.map_nil,List.mem_singleton] at hb
    rw [hb]; exact hk u hu
  · rw [List.map_append,List.nodup_append]
    refine ⟨h.is.nb,by simp,fun a ha b hb=>?_⟩
    obtain ⟨u,hu,rfl⟩:=List.mem_map.1 ha
    simp only [List.map_cons,List.map_nil,List.mem_singleton] at hb
    have:=h.is.lt u hu
    have e:(newP k H.next l t.ck).born = t.ck:=rfl
    omega
  · rcases List.mem_append.1 hu with hu | hu
    · have:=h.is.lt u hu; show u.born < t.ck + 1; omega
    · rw [List.mem_singleton.1 hu]; show t.ck < t.ck + 1; omega
  · simp only [List.length_append,List.length_cons,List.length_nil]; omega
  · rcases List.mem_append.1 hu with hu | hu
    · rw [if_neg (by have:=hpl u hu; omega)]
      refine (h.dat u hu).mono fun id o ha ho=>?_
      obtain ⟨a,b,_⟩:=h.did hu (sid_of ha)
      rw [keep id (h.wf _ _ ho) b]; exact ho
    · rw [List.mem_singleton.1 hu]
      show Own _ 5 1 nilS (bcs (if H.next = H.next then [] else bd H.next))
      rw [if_pos rfl]
      exact .nil
  · rcases List.mem_append.1 hu with hu | hu <;> rcases List.mem_append.1 hv with hv | hv
    · exact h.dis u hu v hv q hq hq'
    · rw [List.mem_singleton.1 hv] at hq'; cases hq'
    · rw [List.mem_singleton.1 hu] at hq; cases hq
    · rw [List.mem_singleton.1 hu,List.mem_singleton.1 hv]
  · rcases hi with rfl | rfl | hs | ⟨v,hv,hq⟩
    · exact .inl (h.foot _ (.inl rfl))
    · exact .inl (h.foot _ (.inr (.inl rfl)))
    · exact .inl (h.foot _ (.inr (.inr (.inl hs))))
    · rcases List.mem_append.1 hv with hv | hv
      · exact .inl (h.foot _ (.inr (.inr (.inr ⟨v,hv,hq⟩))))
      · rw [List.mem_singleton.1 hv] at hq
        rcases hq with rfl | hq
        · exact .inr ⟨Nat.le_refl _,show H.next < _ by rw [Heap.next_put,n1]; omega⟩
        · cases hq
/-- a piece is gone, with no word -/
theorem JS.del (h : JS H x F t bd) (k : Ky) : ∃ H', (∀ (R : Type) (K : Heap → Option R), evBuiltin Try.prog H .delete [62, 57] [(V.m (some t.m)), keyA k] (fun _ H => K H) = K H') ∧
    JS H' x F { t with us:=t.us.filter fun v=>decide (v.k ≠ k) } bd∧H'.next = H.next∧∀ i,i ≠ t.m→H'.get i = H.get i:=by
  obtain ⟨i1,i2,i3,i4⟩:=h.is.ids
  have sl:(t.us.filter fun v=>decide (v.k ≠ k)).Sublist t.us:=List.filter_sublist
  have hsub:∀ v,v ∈ (t.us.filter fun v=>decide (v.k ≠ k))→v ∈ t.us:=fun v hv=>(List.mem_filter.1 hv).1
  have keep:∀ i,i ≠ t.m→(H.put t.m (.map ((t.us.filter fun v=>decide (v.k ≠ k)).map Pk.ent) t.ck)).get i = H.get i:=fun i hm=>by rw [Heap.get_put,if_neg hm]
  have hf:=List.length_filter_le (fun v:Pk=>decide (v.k ≠ k)) t.us
  have hsz:=h.is.sz
  refine ⟨H.put t.m (.map ((t.us.filter fun v=>decide (v.k ≠ k)).map Pk.ent) t.ck),fun R K=>?_,⟨h.wf.put h.is.map _,⟨?_,Heap.gput _ _ _,fun u hu=>?_,?_,h.is.z,h.is.np.sublist (sl.map _),h.is.nk.sublist (sl.map _),h.is.nb.sublist (sl.map _),fun v hv=>h.is.lt v (hsub v hv),?_⟩,fun u hu=>?_,fun v hv v' hv'=>h.dis v (hsub v hv) v' (hsub v' hv'),fun i hi=>?_⟩,rfl,keep⟩
  · rw [del_at h.is.map]
    by_cases hex:∃ u ∈ t.us,u.k = k
    · obtain ⟨u,hu,hk⟩:=hex
      obtain ⟨j,j1,j2,j3⟩:=at_some (i:=0) h.is.nk hu hk
      rw [Nat.zero_add] at j1
      rw [j1]
      show K _ = K _
      rw [j3]
    · have hno:∀ u ∈ t.us,u.k ≠ k:=fun u hu e=>hex ⟨u,hu,e⟩
      rw [at_none hno]
      rw [show (t.us.filter fun v=>decide (v.k ≠ k)) = t.us from List.filter_eq_self.2 fun v hv=>by simpa using hno v hv,Heap.put_self h.is.map]
  · rw [keep x i1]; exact h.is.obj
  · rw [keep u.p (i4 u (hsub u hu)).2.1]; exact h.is.pcs u (hsub u hu)
  · refine h.is.own.mono fun id o ha ho=>?_
    rw [keep id (fun e=>i3 (e ▸ sid_of ha))]; exact ho
  · simp only; omega
  · refine (h.dat u (hsub u hu)).mono fun id o ha ho=>?_
    rw [keep id (h.did (hsub u hu) (sid_of ha)).2.1]; exact ho
  · rcases hi with rfl | rfl | hs | ⟨v,hv,hq⟩
    · exact h.foot _ (.inl rfl)
    · exact h.foot _ (.inr (.inl rfl))
    · exact h.foot _ (.inr (.inr (.inl hs)))
    · exact h.foot _ (.inr (.inr (.inr ⟨v,hsub v hv,hq⟩)))
def Pk.put (u:Pk) (r:Sl) (nx wt:Int) (v:Pk):Pk:=if v.p = u.p then { v with d:=r,nx:=nx,wt:=wt } else v
theorem Pk.put_k (u:Pk) (r:Sl) (nx wt:Int) (v:Pk):(u.put r nx wt v).k = v.k:=by unfold Pk.put; split <;> rfl
theorem Pk.put_p (u:Pk) (r:Sl) (nx wt:Int) (v:Pk):(u.put r nx wt v).p = v.p:=by unfold Pk.put; split <;> rfl
theorem Pk.put_born (u:Pk) (r:Sl) (nx wt:Int) (v:Pk):(u.put r nx wt v).born = v.born:=by unfold Pk.put; split <;> rfl
theorem Pk.put_ent (u:Pk) (r:Sl) (nx wt:Int) (v:Pk):(u.put r nx wt v).ent = v.ent:=by unfold Pk.put; split <;> rfl
/-- a piece takes bytes in -/
theorem JS.app (h : JS H x F t bd) {u : Pk} (hu : u ∈ t.us) {s : Sl} {ds : List Int} (hs : BS H s ds) (hm : (bd u.p).length + ds.length ≤ 140737488355328) :
    ∃ r H', (∀ (R : Type) (K : Heap → Option R), ((H.ldSl u.p (0 + 0)).bind fun x729 => (slCells H 1 s).bind fun vs732 => appendV H 5 1 1 x729 s.len vs732 fun s730 h731 =>
        ((h731).st u.p (0 + 0) (V.sl s730)).bind fun h735=>((h735).ldI .u8 u.p (0 + 1)).bind fun x737=>((h735).st u.p (0 + 1) (V.i .u8 (IntKind.wrap .u8 (x737 - (1:Int))))).bind fun h740 =>
        ((h740).ldI .i64 x (0 + 0)).bind fun x742=>((h740).st u.p (0 + 2) (V.i .i64 x742)).bind fun h745=>K h745) = K H') ∧
      JS H' x (grown F H H') { t with us:=t.us.map (u.put r (IntKind.wrap .u8 (u.nx - 1)) t.w) } (fun i=>if i = u.p then bd u.p ++ ds else bd i)∧Fr' F H H':=by
  obtain ⟨i1,i2,i3,i4⟩:=h.is.ids
  have hpu:=h.is.pcs u hu
  have hpl:∀ u ∈ t.us,u.p < H.next:=fun u hu=>h.wf _ _ (h.is.pcs u hu)
  have hxl:=h.wf _ _ h.is.obj
  -- the append
  obtain ⟨r,H1,e1,o1,a1,w1,n1,k1⟩:∃ r H1,(∀ (R:Type) (K:Sl→Heap→Option R),appendV H 5 1 1 u.d s.len (bcs ds) K = K r H1)∧Own H1 5 1 r (bcs (bd u.p ++ ds))∧(∀ q ∈ sid r,q ∈ sid u.d ∨ H.next ≤ q)∧H1.Wf∧H.next ≤ H1.next∧∀ i,i < H.next→i ∉ sid u.d→H1.get i = H.get i:=by
    have hn:s.len = ds.length:=hs.len
    by_cases h0:ds.length = 0
    · have e0:ds = []:=List.length_eq_zero_iff.1 h0
      subst e0
      refine ⟨u.d,H,fun R K=>by rw [hn]; exact appendV_zero K _ _,by rw [List.append_nil]; exact h.dat u hu,fun q hq=>.inl hq,h.wf,Nat.le_refl _,fun _ _ _=>rfl⟩
    · have hl:=(h.dat u hu).len
      rw [bcs_length] at hl
      obtain ⟨r,H1,e,o,l,a,w,n,k⟩:=own_append h.wf (h.dat u hu) (n:=ds.length) (new:=bcs ds) (bytes:=1) (by omega) (by omega) (by simp) (bcs_ones _) (by omega) (by omega)
      refine ⟨r,H1,fun R K=>by rw [hn]; exact e R K,by rw [bcs_append]; exact o,fun q hq=>.inr ?_,w,by omega,fun i hi hni=>k i (by omega) (fun ha=>hni (sid_of ha))⟩
      simp only [sid,a,List.mem_singleton] at hq
      omega
  have hdu:=fun q (hq:q ∈ sid u.d)=>h.did hu hq
  have gp1:H1.get u.p = some (.cells u.cells 76 false):=by
    rw [k1 u.p (hpl u hu) (fun hq=>(hdu _ hq).2.2.2.1 u hu rfl)]; exact hpu
  have st1:=st_of (off:=0 + 0) (v:=.sl r) gp1 (by simp [Pk.cells]) rfl
  have g2:=Heap.gput H1 u.p (.cells (u.cells.set (0 + 0) (.sl r)) 76 false)
  have w2:=w1.put gp1 (.cells (u.cells.set (0 + 0) (.sl r)) 76 false)
  have k2:∀ i,i ≠ u.p→(H1.put u.p (.cells (u.cells.set (0 + 0) (.sl r)) 76 false)).get i = H1.get i:=fun i hi=>by rw [Heap.get_put,if_neg hi]
  have n2:(H1.put u.p (.cells (u.cells.set (0 + 0) (.sl r)) 76 false)).next = H1.next:=rfl
  generalize H1.put u.p (.cells (u.cells.set (0 + 0) (.sl r)) 76 false) = H2 at *
  have l2:H2.ldI .u8 u.p (0 + 1) = some u.nx:=ldI_of g2 rfl
  have st2:=st_of (off:=0 + 1) (v:=.i .u8 (IntKind.wrap .u8 (u.nx - 1))) g2 (by simp [Pk.cells]) rfl
  have g3:=Heap.gput H2 u.p (.cells ((u.cells.set (0 + 0) (.sl r)).set (0 + 1) (.i .u8 (IntKind.wrap .u8 (u.nx - 1)))) 76 false)
  have w3:=w2.put g2 (.cells ((u.cells.set (0 + 0) (.sl r)).set (0 + 1) (.i .u8 (IntKind.wrap .u8 (u.nx - 1)))) 76 false)
  have k3:∀ i,i ≠ u.p→(H2.put u.p (.cells ((u.cells.set (0 + 0) (.sl r)).set (0 + 1) (.i .u8 (IntKind.wrap .u8 (u.nx - 1)))) 76 false)).get i = H2.get i:=fun i hi=>by rw [Heap.get_put,if_neg hi]
  have n3:(H2.put u.p (.cells ((u.cells.set (0 + 0) (.sl r)).set (0 + 1) (.i .u8 (IntKind.wrap .u8 (u.nx - 1)))) 76 false)).next = H2.next:=rfl
  generalize H2.put u.p (.cells ((u.cells.set (0 + 0) (.sl r)).set (0 + 1) (.i .u8 (IntKind.wrap .u8 (u.nx - 1)))) 76 false) = H3 at *
  have gx3:H3.get x = some (.cells (jc t.w t.m t.s) 64 false):=by
    rw [k3 x (fun e=>(i4 u hu).1 e.symm),k2 x (fun e=>(i4 u hu).1 e.symm),k1 x hxl (fun hq=>(hdu _ hq).1 rfl)]; exact h.is.obj
  have l3:=(ldJ gx3).1
  have st3:=st_of (off:=0 + 2) (v:=.i .i64 t.w) g3 (by simp [Pk.cells]) rfl
  have g4:=Heap.gput H3 u.p (.cells (((u.cells.set (0 + 0) (.sl r)).set (0 + 1) (.i .u8 (IntKind.wrap .u8 (u.nx - 1)))).set (0 + 2) (.i .i64 t.w)) 76 false)
  have w4:=w3.put g3 (.cells (((u.cells.set (0 + 0) (.sl r)).set (0 + 1) (.i .u8 (IntKind.wrap .u8 (u.nx - 1)))).set (0 + 2) (.i .i64 t.w)) 76 false)
  have k4:∀ i,i ≠ u.p→(H3.put u.p (.cells (((u.cells.set (0 + 0) (.sl r)).set (0 + 1) (.i .u8 (IntKind.wrap .u8 (u.nx - 1)))).set (0 + 2) (.i .i64 t.w)) 76 false)).get i = H3.get i:=fun i hi=>by rw [Heap.get_put,if_neg hi]
  have n4:(H3.put u.p (.cells (((u.cells.set (0 + 0) (.sl r)).set (0 + 1) (.i .u8 (IntKind.wrap .u8 (u.nx - 1)))).set (0 + 2) (.i .i64 t.w)) 76 false)).next = H3.next:=rfl
  have hrun : ∀ (R : Type) (K : Heap → Option R), ((H.ldSl u.p (0 + 0)).bind fun x729 => (slCells H 1 s).bind fun vs732 => appendV H 5 1 1 x729 s.len vs732 fun s730 h731 =>
        ((h731).st u.p (0 + 0) (V.sl s730)).bind fun h735=>((h735).ldI .u8 u.p (0 + 1)).bind fun x737=>((h735).st u.p (0 + 1) (V.i .u8 (IntKind.wrap .u8 (x737 - (1:Int))))).bind fun h740 =>
        ((h740).ldI .i64 x (0 + 0)).bind fun x742=>((h740).st u.p (0 + 2) (V.i .i64 x742)).bind fun h745=>K h745) = K (H3.put u.p (.cells (((u.cells.set (0 + 0) (.sl r)).set (0 + 1) (.i .u8 (IntKind.wrap .u8 (u.nx - 1)))).set (0 + 2) (.i .i64 t.w)) 76 false)):=fun R K=>by
    rw [ldSl_of (x:=u.d) hpu rfl,Option.bind_some,hs.is,Option.bind_some,e1,st1,Option.bind_some,l2,Option.bind_some,st2,Option.bind_some,l3,Option.bind_some,st3,Option.bind_some]
  have hcells:((u.cells.set (0 + 0) (.sl r)).set (0 + 1) (.i .u8 (IntKind.wrap .u8 (u.nx - 1)))).set (0 + 2) (.i .i64 t.w) = [.sl r,.i .u8 (IntKind.wrap .u8 (u.nx - 1)),.i .i64 t.w]:=rfl
  rw [hcells] at hrun g4 w4 n4
  simp only [hcells] at k4
  generalize H3.put u.p (.cells [.sl r,.i .u8 (IntKind.wrap .u8 (u.nx - 1)),.i .i64 t.w] 76 false) = H4 at *
  have keep:∀ i,i < H.next→i ≠ u.p→i ∉ sid u.d→H4.get i = H.get i:=fun i hi hp hq=>by rw [k4 i hp,k3 i hp,k2 i hp,k1 i hi hq]
  have hmap:∀ {β:Type} (f:Pk→β),(∀ v,f (u.put r (IntKind.wrap .u8 (u.nx - 1)) t.w v) = f v)→(t.us.map (u.put r (IntKind.wrap .u8 (u.nx - 1)) t.w)).map f = t.us.map f:=fun f hf=>by
    rw [List.map_map]; exact List.map_congr_left fun v _=>hf v
  refine ⟨r,H4,hrun,⟨w4,⟨?_,?_,fun v hv=>?_,?_,h.is.z,?_,?_,?_,fun v hv=>?_,?_⟩,fun v hv=>?_,fun v hv v' hv' q hq hq'=>?_,fun i hi=>?_⟩,⟨by omega,fun i hi hf=>?_⟩⟩
  · rw [keep x hxl (fun e=>(i4 u hu).1 e.symm) (fun hq=>(hdu _ hq).1 rfl)]; exact h.is.obj
  · rw [hmap Pk.ent (u.put_ent _ _ _),keep t.m (h.wf _ _ h.is.map) (fun e=>(i4 u hu).2.1 e.symm) (fun hq=>(hdu _ hq).2.1 rfl)]; exact h.is.map
  · obtain ⟨v0,hv0,rfl⟩:=List.mem_map.1 hv
    rw [Pk.put_p]
    by_cases e:v0.p = u.p
    · rw [e,g4]
      have:v0 = u:=inj_p h.is.np hv0 hu e
      subst this
      unfold Pk.put
      rw [if_pos rfl]
      rfl
    · rw [keep v0.p (hpl v0 hv0) e (fun hq=>(hdu _ hq).2.2.2.1 v0 hv0 rfl)]
      unfold Pk.put
      rw [if_neg e]
      exact h.is.pcs v0 hv0
  · refine h.is.own.mono fun id o ha ho=>?_
    have hid:=sid_of ha
    rw [keep id (h.wf _ _ ho) (fun e=>(i4 u hu).2.2 (e ▸ hid)) (fun hq=>(hdu _ hq).2.2.1 hid)]; exact ho
  · rw [hmap (·.p) (u.put_p _ _ _)]; exact h.is.np
  · rw [hmap (·.k) (u.put_k _ _ _)]; exact h.is.nk
  · rw [hmap (·.born) (u.put_born _ _ _)]; exact h.is.nb
  · obtain ⟨v0,hv0,rfl⟩:=List.mem_map.1 hv
    rw [Pk.put_born]; exact h.is.lt v0 hv0
  · simp only [List.length_map]; exact h.is.sz
  · obtain ⟨v0,hv0,rfl⟩:=List.mem_map.1 hv
    simp only [Pk.put_p]
    by_cases e:v0.p = u.p
    · rw [if_pos e]
      unfold Pk.put
      rw [if_pos e]
      refine o1.mono fun id o ha ho=>?_
      have hidp:id ≠ u.p:=fun e2=>by have g:=(o1.sidg (sid_of ha)).2; rw [e2,gp1] at g; simp at g
      rw [k4 id hidp,k3 id hidp,k2 id hidp]; exact ho
    · rw [if_neg e]
      unfold Pk.put
      rw [if_neg e]
      refine (h.dat v0 hv0).mono fun id o ha ho=>?_
      have hid:=sid_of ha
      rw [keep id (h.wf _ _ ho) ((h.did hv0 hid).2.2.2.1 u hu) (fun hq=>e (h.dis v0 hv0 u hu _ hid hq))]; exact ho
  · obtain ⟨v0,hv0,rfl⟩:=List.mem_map.1 hv
    obtain ⟨v1,hv1,rfl⟩:=List.mem_map.1 hv'
    simp only [Pk.put_p]
    unfold Pk.put at hq hq'
    split at hq <;> split at hq'
    · rename_i e e'; rw [e,e']
    · rename_i e e'
      simp only at hq
      rcases a1 q hq with hq2 | hq2
      · have:=h.dis u hu v1 hv1 q hq2 hq'; rw [e,this]
      · have:=(h.did hv1 hq').2.2.2.2; omega
    · rename_i e e'
      simp only at hq'
      rcases a1 q hq' with hq2 | hq2
      · have:=h.dis u hu v0 hv0 q hq2 hq; rw [e',this]
      · have:=(h.did hv0 hq).2.2.2.2; omega
    · exact h.dis v0 hv0 v1 hv1 q hq hq'
  · rcases hi with rfl | rfl | hs' | ⟨v,hv,hq⟩
    · exact .inl (h.foot _ (.inl rfl))
    · exact .inl (h.foot _ (.inr (.inl rfl)))
    · exact .inl (h.foot _ (.inr (.inr (.inl hs'))))
    · obtain ⟨v0,hv0,rfl⟩:=List.mem_map.1 hv
      rw [Pk.put_p] at hq
      unfold Pk.put at hq
      split at hq
      · rename_i e
        rcases hq with rfl | hq
        · exact .inl (h.foot _ (.inr (.inr (.inr ⟨v0,hv0,.inl rfl⟩))))
        · simp only at hq
          rcases a1 i hq with hq2 | hq2
          · exact .inl (h.foot _ (.inr (.inr (.inr ⟨u,hu,.inr hq2⟩))))
          · have:=H1.get i
            refine .inr ⟨hq2,?_⟩
            have:=w1 _ _ (o1.sidg hq).2
            omega
      · exact .inl (h.foot _ (.inr (.inr (.inr ⟨v0,hv0,hq⟩))))
  · exact keep i hi (fun e=>hf (h.foot _ (.inr (.inr (.inr ⟨u,hu,.inl e⟩))))) (fun hq=>hf (h.foot _ (.inr (.inr (.inr ⟨u,hu,.inr hq⟩)))))
end
end Go.Proofs.Ytobebcfkddimkaa

