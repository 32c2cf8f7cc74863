/- New, Tick, Open, and the cutting of a piece. -/
import Derived.Test.YtobebcfkddimkaaJN2
namespace Go.Proofs.Ytobebcfkddimkaa
open Go AM Go.RowKit Go.Sort
set_option linter.unusedVariables false
set_option linter.unusedSimpArgs false

def Ab.due (a:Ab):Bool:=dec1 a.wt == 0
def Ab.old (a:Ab):Ab:={ a with wt:=dec1 a.wt }
def St.due (S:St):List Ky:=S.ls ++ (S.ps.filter Ab.due).map (·.k)
def St.tick (S:St):St:=⟨S.w,(S.ps.filter fun a=>!a.due).map Ab.old,[]⟩
section
variable {H:Heap} {x:Nat} {F:Nat→Prop}
theorem new_ok (hw:H.Wf) {w:Int} (hb:1 ≤ w∧w ≤ 1048576):∃ H',(∀ (R:Type) (K:Option (Nat × Nat)→Int→Heap→Option R),g10 R w H K = K (some (H.next + 1,0)) 0 H')∧JA H' (H.next + 1) (fun i=>H.next ≤ i∧i < H'.next) ⟨w,[],[]⟩∧Ext H H'∧H'.Wf:=by
  have w1:=hw.new (.map [] 0)
  have w2:=w1.new (.cells (jc w H.next nilS) 64 false)
  have x2:=(Ext.new H (.map [] 0)).trans (Ext.new (H.new (.map [] 0)) (.cells (jc w H.next nilS) 64 false))
  refine ⟨(H.new (.map [] 0)).new (.cells (jc w H.next nilS) 64 false),fun R K=>?_,⟨⟨w,H.next,nilS,[],0,[]⟩,fun _=>[],⟨w2,⟨Heap.gnew _ _,?_,fun u hu=>(by cases hu),.nil,fun _=>rfl,List.nodup_nil,List.nodup_nil,List.nodup_nil,fun u hu=>(by cases hu),by simp⟩,fun u hu=>(by cases hu),fun u hu=>(by cases hu),fun i hi=>?_⟩,rfl⟩,x2,w2⟩
  · simp only [g10,g10_r,g10_p0]
    rw [decide_eq_false (by omega),sel_false,decide_eq_false (by omega),sel_false]
    rfl
  · rw [Heap.get_new,if_neg (show H.next ≠ (H.new (.map [] 0)).next by simp)]; exact Heap.gnew _ _
  · rcases hi with rfl | rfl | hs | ⟨u,hu,_⟩
    · simp
    · simp; omega
    · cases hs
    · cases hu
theorem JA.wf {S:St} (h:JA H x F S):H.Wf:=by obtain ⟨t,bd,h,_⟩:=h; exact h.wf
theorem JA.nodup {S:St} (h:JA H x F S):(S.ps.map (·.k)).Nodup:=by
  obtain ⟨t,bd,h,rfl⟩:=h
  have:=h.is.nk
  simp only [stOf,List.map_map]
  exact this
theorem JA.open {S:St} (h:JA H x F S) (hpos:0 < S.w) {R:Type} (K:Int→Heap→Option R):g14 R (some (x,0)) H K = K (S.ps.length:Int) H:=by
  obtain ⟨t,bd,h,rfl⟩:=h
  simp only [g14,g14_r,g14_p0]
  rw [s22 h.is.obj,decide_eq_true (show 0 < t.w from hpos),Bool.not_true,sel_false,Option.bind_some,(ldJ h.is.obj).2.1,Option.bind_some]
  simp only [getMap,h.is.map,Option.bind_some,List.length_map,stOf]
/-- what is made beside the joiner does not touch it -/
theorem JA.ext {S:St} (h:JA H x F S) {G:Heap} (hw:G.Wf) (hx:Fr' (fun i=>¬F i) H G):JA G x F S:=by
  obtain ⟨t,bd,h,e⟩:=h
  have hg:∀ i o,Foot x t i→H.get i = some o→G.get i = some o:=fun i o hi ho=>hx.get h.wf ho (fun hn=>hn (h.foot i hi))
  refine ⟨t,bd,⟨hw,⟨hg _ _ (.inl rfl) h.is.obj,hg _ _ (.inr (.inl rfl)) h.is.map,fun u hu=>hg _ _ (.inr (.inr (.inr ⟨u,hu,.inl rfl⟩))) (h.is.pcs u hu),h.is.own.mono fun id o ha ho=>hg _ _ (.inr (.inr (.inl (sid_of ha)))) ho,h.is.z,h.is.np,h.is.nk,h.is.nb,h.is.lt,h.is.sz⟩,fun u hu=>(h.dat u hu).mono fun id o ha ho=>hg _ _ (.inr (.inr (.inr ⟨u,hu,.inr (sid_of ha)⟩))) ho,h.dis,h.foot⟩,e⟩
theorem JA.tick {S:St} (h:JA H x F S) (hpos:0 < S.w):∃ r H',(∀ (R:Type) (K:Sl→Heap→Option R),g11 R (some (x,0)) H K = K r H')∧JA H' x (grown F H H') S.tick∧Fr' F H H'∧r.len = S.due.length∧r.cap = .ex r.len∧SlIs H' 2 r (ken (sortBy cmpK S.due)):=by
  obtain ⟨t,bd,h,rfl⟩:=h
  have hw0:0 < t.w:=hpos
  obtain ⟨g1,g2,g3,g4,g5,g6,g7⟩:=outH_get h.wf h.is
  have hgone:(stOf t bd).due = t.gone:=by
    unfold St.due TD.gone TD.dead stOf
    simp only [List.append_cancel_left_eq]
    rw [List.filter_map,List.map_map]
    rfl
  have hnx:=outH_next (H:=H) (x:=x) (t:=t)
  have hnx2:H.next ≤ (outH H x t).next:=by rw [hnx]; split <;> omega
  have hsub:∀ v,v ∈ t.us.filter (fun u=>!u.out)→v ∈ t.us:=fun v hv=>(List.mem_filter.1 hv).1
  have sl:(t.us.filter fun u=>!u.out).Sublist t.us:=List.filter_sublist
  have mp:∀ {β:Type} (f:Pk→β),(∀ v:Pk,f v.tick = f v)→t.live.map f = (t.us.filter fun u=>!u.out).map f:=fun f hf=>by
    unfold TD.live; rw [List.map_map]; exact List.map_congr_left fun v _=>hf v
  have wf':(outH H x t).Wf:=fun i o ho=>by
    rcases g7 i o ho with h1 | ⟨h1,h2⟩
    · omega
    · rw [hnx,if_neg h2]; omega
  have keep:∀ i,i < H.next→¬F i→(outH H x t).get i = H.get i:=fun i hi hf =>
    g5 i hi (fun e=>hf (h.foot _ (.inl e))) (fun e=>hf (h.foot _ (.inr (.inl e)))) (fun e=>hf (h.foot _ (.inr (.inr (.inl e))))) (fun u hu e=>hf (h.foot _ (.inr (.inr (.inr ⟨u,hu,.inl e.symm⟩)))))
  refine ⟨outS H t,outH H x t,fun R K=>?_,⟨⟨t.w,t.m,nilS,t.live,t.ck,[]⟩,bd,⟨wf',⟨g1,g2,fun u hu=>?_,.nil,fun _=>rfl,?_,?_,?_,fun u hu=>?_,?_⟩,fun u hu=>?_,fun u hu v hv q hq hq'=>?_,fun i hi=>?_⟩,?_⟩,⟨hnx2,keep⟩,?_,?_,?_⟩
  · unfold g11
    simp only
    rw [show H.ldI .i64 x 0 = some t.w from (ldJ h.is.obj).1,Option.bind_some,if_pos hw0]
    have hex:∃ t,TickIs H x t:=⟨t,h.is⟩
    rw [dif_pos hex,hex.choose_spec.unique h.is]
  · obtain ⟨v,hv,rfl⟩:=List.mem_map.1 hu
    exact g3 v (hsub v hv)
  · show (t.live.map (·.p)).Nodup
    rw [mp (·.p) (fun _=>rfl)]; exact h.is.np.sublist (sl.map _)
  · show (t.live.map (·.k)).Nodup
    rw [mp (·.k) (fun _=>rfl)]; exact h.is.nk.sublist (sl.map _)
  · show (t.live.map (·.born)).Nodup
    rw [mp (·.born) (fun _=>rfl)]; exact h.is.nb.sublist (sl.map _)
  · obtain ⟨v,hv,rfl⟩:=List.mem_map.1 hu
    exact h.is.lt v (hsub v hv)
  · have:=List.length_filter_le (fun u:Pk=>!u.out) t.us
    have:=h.is.sz
    simp only [TD.live,List.length_map,List.length_nil]; omega
  · obtain ⟨v,hv,rfl⟩:=List.mem_map.1 hu
    refine (h.dat v (hsub v hv)).mono fun id o ha ho=>?_
    obtain ⟨a,b,c,d,e⟩:=h.did (hsub v hv) (sid_of ha)
    rw [g5 id e a b c (fun w hw e=>d w hw e.symm)]; exact ho
  · obtain ⟨v0,hv0,rfl⟩:=List.mem_map.1 hu
    obtain ⟨v1,hv1,rfl⟩:=List.mem_map.1 hv
    exact h.dis v0 (hsub v0 hv0) v1 (hsub v1 hv1) q hq hq'
  · rcases hi with rfl | rfl | hs | ⟨v,hv,hq⟩
    · exact .inl (h.foot _ (.inl rfl))
    · exact .inl (h.foot _ (.inr (.inl rfl)))
    · cases hs
    · obtain ⟨v0,hv0,rfl⟩:=List.mem_map.1 hv
      exact .inl (h.foot _ (.inr (.inr (.inr ⟨v0,hsub v0 hv0,hq⟩))))
  · unfold St.tick stOf TD.live
    simp only [St.mk.injEq,and_true,true_and]
    rw [List.filter_map,List.map_map,List.map_map]
    rfl
  · rw [hgone]; unfold outS
    split
    · rename_i e; rw [e]; rfl
    · rfl
  · unfold outS; split <;> rfl
  · rw [hgone]
    unfold outS
    by_cases hg:t.gone = []
    · rw [if_pos hg,hg,show sortBy cmpK [] = [] by simp [sortBy]]; exact .nil _ _
    · rw [if_neg hg]
      have hl:(ken (sortBy cmpK t.gone)).length = t.gone.length * 2:=by rw [ken_len,(sortBy_perm cmpK _).length_eq]
      have:=slIs_of (off:=0) (len:=t.gone.length) (sz:=2) (c:=.ex t.gone.length) (g6 hg) (by omega)
      rw [List.drop_zero,List.take_of_length_le (by omega)] at this
      exact this
/-- the segments of a piece of a law -/
theorem cut_ok (hw : H.Wf) {s : Sl} {d : List Int} (hd : BS H s d) (hc : CapOk s) {a b m : Int} (ha : 0 ≤ a ∧ a ≤ 255) (hb : 0 ≤ b ∧ b ≤ 255) (hm : 0 ≤ m ∧ m ≤ 255) :
    ∃ q H',(∀ (R:Type) (K:Int→Sl→ByteArray→Heap→Option R),g12 R a b s m H K = K (a % 4) ⟨some (q,0),cnt (d.take 60).length (4 + m % 16).toNat,.ex (cnt (d.take 60).length (4 + m % 16).toNat)⟩ (bsU (u8s (d.take 60))) H') ∧
      (∀ i,i < cnt (d.take 60).length (4 + m % 16).toNat→∃ s,Row H' q (part (b % 8) (d.take 60) (4 + m % 16).toNat (cnt (d.take 60).length (4 + m % 16).toNat) i) i s∧Up H.next (part (b % 8) (d.take 60) (4 + m % 16).toNat (cnt (d.take 60).length (4 + m % 16).toNat) i).d s)∧Ext H H'∧H'.Wf∧H.next ≤ q:=by
  have hn:s.len = d.length:=hd.len
  obtain ⟨s1,e1,b1,c1⟩:=slOf_mid hc hd (k:=0) (b:=min 60 d.length) (by omega) (by omega)
  have hb1:(d.drop 0).take (min 60 d.length - 0) = d.take 60:=by
    rw [List.drop_zero,Nat.sub_zero]
    by_cases h:d.length ≤ 60
    · rw [List.take_of_length_le (by omega),List.take_of_length_le (by omega)]
    · rw [show min 60 d.length = 60 by omega]
  rw [hb1] at b1
  have hl60:(d.take 60).length ≤ 60:=by simp; omega
  have hcnt:cnt (d.take 60).length (4 + m % 16).toNat ≤ 16:=by
    unfold cnt
    have:((d.take 60).length + (4 + m % 16).toNat - 1) / (4 + m % 16).toNat ≤ 16:=by
      have h4:4 ≤ (4 + m % 16).toNat:=by omega
      generalize (4 + m % 16).toNat = M at *
      rw [Nat.div_le_iff_le_mul (by omega)]
      omega
    split <;> omega
  obtain ⟨q,H',e2,r2,x2,w2,n2⟩:=s18 (r:=b % 8) hw b1 c1 (by omega) (m:=4 + m % 16) (by omega) hcnt
  refine ⟨q,H',fun R K=>?_,r2,x2,w2,n2⟩
  simp only [g12,g12_r,g12_p0]
  have em:(if (60:Int) < ((s.len:Nat):Int) then (60:Int) else ((s.len:Nat):Int)) = ((min 60 d.length:Nat):Int):=by split <;> omega
  have e1':=e1 R
  rw [show slOf 1 s none (some (if (60:Int) < ((s.len:Nat):Int) then (60:Int) else ((s.len:Nat):Int))) none = fun K=>slOf (R:=R) 1 s (some ((0:Nat):Int)) (some ((min 60 d.length:Nat):Int)) none K by rw [em]; rfl]
  simp only [e1']
  rw [tmodp hb.1,tmodp hm.1,tmodp ha.1,w32u (by omega),w64 (n:=m % 16) (by omega),w64 (by omega),w16u (by omega),e2,slB (b1.ext hw x2),Option.bind_some]
end
end Go.Proofs.Ytobebcfkddimkaa

