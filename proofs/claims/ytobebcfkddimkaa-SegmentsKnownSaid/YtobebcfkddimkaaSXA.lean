/- SegmentsActs: the law. -/
import Derived.Test.YtobebcfkddimkaaSX
namespace Go.Proofs.Ytobebcfkddimkaa
open Go AM Go.RowKit Go.Sort
set_option linter.unusedVariables false
set_option linter.unusedSimpArgs false

/-- a raw act -/
structure Rw where
  t:Bool
  fr:Int
  u:Sg
  s:Sl
structure Rw.Ok (H:Heap) (p:Rw):Prop where
  bs:BS H p.s p.u.d
  l:0 ≤ p.u.l∧p.u.l ≤ 255
structure RdR (H:Heap) (t:Sl) (l:List Rw):Prop where
  len:t.len = l.length
  rd:∀ i p,l[i]? = some p→∃ q,t.a = some q∧H.ldB q.1 (q.2 + i * 6 + 0) = some p.t∧H.ldI .u16 q.1 (q.2 + i * 6 + 1) = some p.fr∧H.ldI .u32 q.1 (q.2 + i * 6 + 2) = some p.u.r∧H.ldB q.1 (q.2 + i * 6 + 3) = some p.u.f∧H.ldI .u8 q.1 (q.2 + i * 6 + 4) = some p.u.l∧H.ldSl q.1 (q.2 + i * 6 + 5) = some p.s
  ok:∀ p ∈ l,p.Ok H
theorem RdR.ext {H G:Heap} {t:Sl} {l:List Rw} (h:RdR H t l) (hw:H.Wf) (hx:Ext H G):RdR G t l :=
  ⟨h.len,fun i p hp=>by
    obtain ⟨q,q0,q1,q2,q3,q4,q5,q6⟩:=h.rd i p hp
    exact ⟨q,q0,ldB_ext hw hx q1,ldI_ext hw hx q2,ldI_ext hw hx q3,ldB_ext hw hx q4,ldI_ext hw hx q5,ldSl_ext hw hx q6⟩,fun p hp=>⟨(h.ok p hp).bs.ext hw hx,(h.ok p hp).l⟩⟩
theorem sorted_pairs (l:List Ky):∀ i a b,(sortBy cmpK l)[i]? = some b→(sortBy cmpK l)[i + 1]? = some a→¬(a.1 < b.1 ∨ a.1 = b.1∧a.2 < b.2):=by
  have key:(sortBy cmpK l).Pairwise fun x y=>(!(ltOf cmpK) y x) = true:=by
    refine List.pairwise_mergeSort (fun a b c h1 h2=>?_) (fun a b=>?_) l
    · simp only [Bool.not_eq_true'] at h1 h2 ⊢
      exact cmpK_swo.ntrans c b a h2 h1
    · simp only [Bool.or_eq_true,Bool.not_eq_true']
      rw [cmpK_lt,cmpK_lt]
      simp only [decide_eq_false_iff_not]
      omega
  intro i a b hb ha
  obtain ⟨h1,e1⟩:=List.getElem?_eq_some_iff.1 hb
  obtain ⟨h2,e2⟩:=List.getElem?_eq_some_iff.1 ha
  have:=List.pairwise_iff_getElem.1 key i (i + 1) h1 h2 (by omega)
  rw [e1,e2] at this
  simp only [Bool.not_eq_true'] at this
  rw [cmpK_lt] at this
  exact of_decide_eq_false this
theorem mstep_mem {w:Int} {M:List Ab} {L:List Ky} {k:Ky} {u:Sg} {P:Ab→Prop} (h:∀ a ∈ M,P a) (hn:∀ d,(d = u.d ∨ ∃ a ∈ M,d = a.d ++ u.d)→¬256 < u.d.length→P ⟨k,d,u.l - 1,w⟩):∀ a ∈ (mstep w M L k u).1,P a:=by
  have hr:∀ a ∈ rmK M k,P a:=fun a ha=>h a (List.mem_filter.1 ha).1
  have he:¬256 < u.d.length→∀ M1 L1 d,(∀ a ∈ M1,P a)→(d = u.d ∨ ∃ a ∈ M,d = a.d ++ u.d)→∀ a ∈ (mend w M1 L1 k u d).1,P a:=fun h3 M1 L1 d h1 h2 a ha=>by
    unfold mend at ha
    split at ha
    · exact h1 a ha
    · rcases List.mem_append.1 ha with ha | ha
      · exact h1 a ha
      · rw [List.mem_singleton.1 ha]; exact hn d h2 h3
  unfold mstep
  split
  · exact h
  split
  · exact h
  rename_i h3
  split
  · split
    · exact he h3 _ _ _ h (.inl rfl)
    · exact h
  · rename_i b hb
    split
    · exact he h3 _ _ _ hr (.inl rfl)
    · split
      · exact he h3 _ _ _ hr (.inr ⟨b,List.mem_of_find?_eq_some hb,rfl⟩)
      · exact hr
section
variable {H0 G G':Heap} {x:Nat} {F:Nat→Prop} {S:St} {t8 t9 t8' t9':Sl} {M:List Ab} {L:List Ky}
theorem LInv.moved (h:LInv H0 G x F S) (hm:Moved G G' t8 t9 t8' t9') (hw:G'.Wf) (h8:∀ q ∈ sid t8,H0.next ≤ q∧¬F q) (h9:∀ q ∈ sid t9,H0.next ≤ q∧¬F q):LInv H0 G' x F S :=
  ⟨h.ja.ext hw (hm.fr.mono fun i _ hi=>by rcases hi with hi | hi; exact (h8 i hi).2; exact (h9 i hi).2),
    ⟨Nat.le_trans h.ext.next hm.fr.next,fun i hi _=>by
      rw [hm.fr.same i (Nat.lt_of_lt_of_le hi h.ext.next) (fun hq=>by rcases hq with hq | hq; have:=(h8 i hq).1; omega; have:=(h9 i hq).1; omega)]
      exact h.ext.same i hi (fun h=>h)⟩,h.lo,fun i hi=>Nat.lt_of_lt_of_le (h.hi i hi) hm.fr.next⟩
theorem Two.fr (h:Two G t8 t9 M L) (hf:Fr' F G G') (hw:G'.Wf) (h8:∀ q ∈ sid t8,¬F q) (h9:∀ q ∈ sid t9,¬F q):Two G' t8 t9 M L :=
  ⟨hw,h.m.mono hf.next fun id o ha ho=>hf.get h.wf ho (h8 _ (sid_of ha)),h.l.mono fun id o ha ho=>hf.get h.wf ho (h9 _ (sid_of ha)),h.dis⟩
structure AInv (H0 G:Heap) (x:Nat) (F:Nat→Prop) (S:St) (t8 t9:Sl) (M:List Ab) (L:List Ky) (W:Int) (i:Nat):Prop where
  li:LInv H0 G x F S
  two:Two G t8 t9 M L
  ps:S.ps.Perm M
  ls:S.ls.Perm L
  w:S.w = W
  wt:∀ a ∈ M,(1 ≤ a.wt∧a.wt ≤ W)∧a.d.length ≤ 256 * i
  len:M.length ≤ i∧L.length ≤ i
  lo8:∀ q ∈ sid t8,H0.next ≤ q∧¬F q
  lo9:∀ q ∈ sid t9,H0.next ≤ q∧¬F q
variable {t0:Sl} {l:List Rw} {W:Int} {i:Nat}
theorem acts_step (hw0 : H0.Wf) (h : AInv H0 G x F S t8 t9 M L W i) (hl : RdR H0 t0 l) (hl60 : l.length ≤ 60) (hi : i < l.length) (hW : 1 ≤ W ∧ W ≤ 5) :
    (∃ H' F' S' t8' t9' M' L',AInv H0 H' x F' S' t8' t9' M' L' W (i + 1)∧∀ (R:Type) (kN) (kE) (kR),g5_p18 R t0 W (some (x,0)) t8 t9 (i:Int) G kN kE kR = kN t0 W (some (x,0)) t8' t9' ((i + 1:Nat):Int) H') ∨
    (∃ H',Ext H0 H'∧H'.Wf∧∀ (R:Type) (kN) (kE) (kR),g5_p18 R t0 W (some (x,0)) t8 t9 (i:Int) G kN kE kR = kR true H'):=by
  have hpos:0 < S.w:=by have:=h.w; omega
  have hll:=hl.len
  have hia:l[i]? = some l[i]:=List.getElem?_eq_getElem hi
  generalize l[i] = a at hia
  obtain ⟨q,q0,q1,q2,q3,q4,q5,q6⟩:=(hl.ext hw0 h.li.ext).rd i a hia
  have hao0:=hl.ok a (List.mem_of_getElem? hia)
  have hao:=(hl.ext hw0 h.li.ext).ok a (List.mem_of_getElem? hia)
  have c1:0 ≤ (i:Int)∧(i:Int) < ((t0.len:Nat):Int):=by omega
  have wi:IntKind.wrap .i64 ((i:Int) + 1) = ((i + 1:Nat):Int):=by rw [w64 (by omega)]; rfl
  have hsl:a.s.len = a.u.d.length:=hao.bs.len
  have pre : ∀ (R : Type) (kN) (kE) (kR), g5_p18 R t0 W (some (x, 0)) t8 t9 (i : Int) G kN kE kR = sel (decide (((a.s.len : Nat) : Int) > (300 : Int))) (kR true G)
      (sel a.t (g5_p9 R t0 W (some (x,0)) t8 t9 (i:Int) a.t a.t a.fr a.u.r a.u.f a.u.l a.s G (fun t0 t5 t6 t8 t9 t10 H=>kN t0 t5 t6 t8 t9 (IntKind.wrap .i64 (t10 + (1:Int))) H) kR)
        (g5_p12 R t0 W (some (x,0)) t8 t9 (i:Int) a.t a.fr a.u.r a.u.f a.u.l a.s G (fun t0 t5 t6 t8 t9 t10 H=>kN t0 t5 t6 t8 t9 (IntKind.wrap .i64 (t10 + (1:Int))) H) kR)):=fun R kN kE kR=>by
    simp only [g5_p18,g5_p1,g5_p17,g5_p15,g5_p14,g5_p2,g5_p13,g5_p11,g5_p10,g5_p16]
    rw [show decide ((i:Int) < ((t0.len:Nat):Int)) = true by simp; omega,sel_true,if_pos c1,q0,Option.bind_some,Int.toNat_natCast,q1,Option.bind_some,q2,Option.bind_some,q3,Option.bind_some,q4,Option.bind_some,q5,Option.bind_some,q6,Option.bind_some]
    rfl
  by_cases hbig:a.u.d.length > 300
  · right
    refine ⟨G,h.li.ext,h.two.wf,fun R kN kE kR=>?_⟩
    rw [pre,show decide (((a.s.len:Nat):Int) > 300) = true by simp; omega,sel_true]
  left
  have nbig:decide (((a.s.len:Nat):Int) > 300) = false:=by simp; omega
  have hlen:=h.len
  cases htk:a.t with
  | true =>
    obtain ⟨s9,s12,G1,e1,two1,mv1⟩:=stay_ok h.two (fun b hb=>by have:=(h.wt b hb).1; omega) (by omega) (by omega) t0 W (some (x,0)) (i:Int)
    have li1:=h.li.moved mv1 two1.wf h.lo8 h.lo9
    obtain ⟨r,G2,e2,j2,f2,n2,cp2,sl2⟩:=li1.ja.tick hpos
    have li2:=li1.step j2 f2
    obtain ⟨hp2,hd2⟩:=acts_tick h.ps h.ls (fun b hb=>by have:=(h.wt b hb).1; omega)
    have n12:∀ q ∈ sid s12,H0.next ≤ q∧¬F q:=fun q hq=>by
      rcases mv1.m q hq with h1 | h1
      · exact h.lo8 q h1
      · exact ⟨by have:=h.li.ext.next; omega,fun hF=>by have:=h.li.hi q hF; omega⟩
    have n9:∀ q ∈ sid s9,H0.next ≤ q∧¬F q:=fun q hq=>by
      rcases mv1.l q hq with h1 | h1
      · exact h.lo9 q h1
      · exact ⟨by have:=h.li.ext.next; omega,fun hF=>by have:=h.li.hi q hF; omega⟩
    have two2:=two1.fr f2 li2.ja.wf (fun q hq=>(n12 q hq).2) (fun q hq=>(n9 q hq).2)
    have hsl9:s9.len = (L ++ mdead M).length:=by have:=two2.l.len; rw [ken_len] at this; omega
    have l12:s12.len = (mtick M).length:=by have:=two2.m.len; rw [mcs_len] at this; omega
    have hdl:(mdead M).length ≤ M.length:=by unfold mdead; rw [List.length_map]; exact List.length_filter_le _ _
    have hml:(mtick M).length ≤ M.length:=by unfold mtick; rw [List.length_map]; exact List.length_filter_le _ _
    have hdue:S.due.length ≤ 1000:=by rw [hd2.length_eq,List.length_append]; omega
    have elist:∀ (R:Type) (K:Bool→Heap→Option R),g15 R r s9 G2 K = K true G2:=fun R K=>listed_ok (got:=sortBy cmpK S.due) (want:=L ++ mdead M) (rdK_of sl2 (by rw [n2,(sortBy_perm cmpK _).length_eq])) (rdK_of two2.l.slIs hsl9) cp2 (by rw [(sortBy_perm cmpK _).length_eq]; omega) ((sortBy_perm cmpK _).trans hd2) (sorted_pairs _) K
    have eopen:=fun (R:Type) (K:Int→Heap→Option R)=>li2.ja.open (show 0 < S.tick.w from hpos) K
    have dis2:∀ q,q < G1.next→¬F q→¬grown F G1 G2 q:=fun q h1 h2 h3=>by rcases h3 with h3 | h3; exact h2 h3; omega
    refine ⟨G2,_,_,s12,nilS,mtick M,[],⟨li2,⟨two2.wf,two2.m,.nil,fun q _ hq=>(by cases hq)⟩,hp2,List.Perm.refl _,h.w,fun b hb=>?_,⟨by omega,Nat.zero_le _⟩,fun q hq=>⟨(n12 q hq).1,dis2 q (two1.m.sidlt two1.wf hq) (n12 q hq).2⟩,fun q hq=>(by cases hq)⟩,fun R kN kE kR=>?_⟩
    · unfold mtick at hb
      obtain ⟨c,hc,rfl⟩:=List.mem_map.1 hb
      obtain ⟨hc1,hc2⟩:=List.mem_filter.1 hc
      obtain ⟨h1,h2⟩:=h.wt c hc1
      have h3:0 < c.wt - 1:=of_decide_eq_true hc2
      exact ⟨⟨by show 1 ≤ c.wt - 1; omega,by show c.wt - 1 ≤ W; omega⟩,by show c.d.length ≤ _; omega⟩
    · rw [pre,nbig,sel_false,htk,sel_true]
      simp only [g5_p9,g5_p3,g5_p8]
      rw [show (Sl.mk none 0 (.ex 0)) = nilS from rfl,e1]
      simp only [g5_p7]
      rw [e2,elist,Bool.not_true,sel_false,eopen,l12,hp2.length_eq,bne_self_eq_false,sel_false,wi]
      rfl
  | false =>
    have ho:a.u.d = [] ∨ ∀ z,a.s.a = some z→¬F z.1∧z.1 < G.next:=by
      by_cases hd0:a.u.d = []
      · exact .inl hd0
      · right; intro z hz
        obtain ⟨z2,vs,e,ro,z1,z3,_⟩:=hao0.bs.there hd0
        rw [hz] at z1; cases z1
        have hlt:=hw0 _ _ z3
        exact ⟨fun hF=>by have:=h.li.lo _ hF; omega,by have:=h.li.ext.next; omega⟩
    have hnod:=h.li.ja.nodup
    have hpl:=h.ps.length_eq
    have hls:=h.ls.length_eq
    obtain ⟨r,H1,e1,j1,b1,cp1,f1,y1,_⟩:=h.li.ja.hear hpos (k:=(a.fr,a.u.r)) (u:=a.u) rfl hao.l.1 hao.bs ho (fun b hb=>by have:=(h.wt b (h.ps.mem_iff.1 hb)).2; omega) (by omega)
    have li1:=h.li.step j1 f1
    have two1:=h.two.fr f1 li1.ja.wf (fun q hq=>(h.lo8 q hq).2) (fun q hq=>(h.lo9 q hq).2)
    have hs1:BS H1 a.s a.u.d:=hao.bs.keep h.two.wf f1 (ho.imp id fun h z hz=>(h z hz).1)
    have hMn:(M.map (·.k)).Nodup:=(h.ps.map _).nodup_iff.1 hnod
    obtain ⟨s8,s9,H2,e2,two2,mv2⟩:=s16 (w:=W) two1 hMn (k:=(a.fr,a.u.r)) (u:=a.u) rfl (by omega) (by omega) hs1 hao.l (fun b hb=>by have:=(h.wt b hb).2; omega)
    obtain ⟨ho1,hp1,hl1⟩:=acts_hear h.ps h.ls hnod (by omega) (k:=(a.fr,a.u.r)) (u:=a.u) hao.l.1
    rw [h.w] at ho1 hp1 hl1
    have g8:∀ q ∈ sid t8,q < G.next:=fun q hq=>h.two.m.sidlt h.two.wf hq
    have g9':∀ q ∈ sid t9,q < G.next:=fun q hq=>h.two.wf _ _ (h.two.l.sidg hq).2
    have lo8:∀ q ∈ sid t8,H0.next ≤ q∧¬grown F G H1 q:=fun q hq=>⟨(h.lo8 q hq).1,fun hg=>by rcases hg with hg | hg; exact (h.lo8 q hq).2 hg; have:=g8 q hq; omega⟩
    have lo9:∀ q ∈ sid t9,H0.next ≤ q∧¬grown F G H1 q:=fun q hq=>⟨(h.lo9 q hq).1,fun hg=>by rcases hg with hg | hg; exact (h.lo9 q hq).2 hg; have:=g9' q hq; omega⟩
    have li2:=li1.moved mv2 two2.wf lo8 lo9
    have b2:BS H2 r (S.hear (a.fr,a.u.r) a.u).2.got:=b1.keep li1.ja.wf mv2.fr (.inr fun z hz hq=>by
      have hg:=y1 z hz
      rcases hq with hq | hq
      · exact (lo8 _ hq).2 hg
      · exact (lo9 _ hq).2 hg)
    obtain ⟨ml1,ml2⟩:=mstep_len W M L (a.fr,a.u.r) a.u
    have l8:s8.len = (mstep W M L (a.fr,a.u.r) a.u).1.length:=by have:=two2.m.len; rw [mcs_len] at this; omega
    have hw1:(S.hear (a.fr,a.u.r) a.u).1.w = W:=hear_w.trans h.w
    have eopen:=fun (R:Type) (K:Int→Heap→Option R)=>li2.ja.open (by omega) K
    have up:∀ q,H1.next ≤ q→H0.next ≤ q∧¬grown F G H1 q:=fun q hq=>⟨by have:=li1.ext.next; omega,fun hg=>by have:=li1.hi q hg; omega⟩
    refine ⟨H2,_,_,s8,s9,_,_,⟨li2,two2,hp1,hl1,hw1,?_,⟨by omega,by omega⟩,fun q hq=>?_,fun q hq=>?_⟩,fun R kN kE kR=>?_⟩
    · refine mstep_mem (P:=fun b=>(1 ≤ b.wt∧b.wt ≤ W)∧b.d.length ≤ 256 * (i + 1)) (fun b hb=>?_) (fun d hd hud=>?_)
      · obtain ⟨h1,h2⟩:=h.wt b hb
        exact ⟨h1,by omega⟩
      · refine ⟨⟨hW.1,Int.le_refl _⟩,?_⟩
        show d.length ≤ _
        rcases hd with rfl | ⟨b,hb,rfl⟩
        · omega
        · have:=(h.wt b hb).2
          rw [List.length_append]; omega
    · rcases mv2.m q hq with h1 | h1
      · exact lo8 q h1
      · exact up q h1
    · rcases mv2.l q hq with h1 | h1
      · exact lo9 q h1
      · exact up q h1
    · rw [pre,nbig,sel_false,htk,sel_false]
      simp only [g5_p12]
      refine (e1 R _).trans ?_
      refine (e2 R _).trans ?_
      rw [ho1,bne_self_eq_false,sel_false,beq_self_eq_true,Bool.not_true,sel_false]
      rw [ho1] at b2
      rw [slB b2,Option.bind_some,strEqU,decide_eq_true rfl,Bool.not_true,sel_false,eopen,hp1.length_eq,l8,bne_self_eq_false,sel_false,wi]
theorem acts_true (hw0:H0.Wf) (hl:RdR H0 t0 l) {w:Int} (hwt:0 ≤ w∧w ≤ 255):∃ H',Ext H0 H'∧H'.Wf∧∀ (R:Type) (K:Bool→Heap→Option R),g5 R t0 w H0 K = K true H':=by
  have hll:=hl.len
  have dd:∀ (R:Type) (K:Bool→Heap→Option R),g5 R t0 w H0 K = g5_p0 R t0 w H0 (fun t0 t5 t6 t8 t9 t10 H=>g5_p22 R t0 t5 t6 t8 t9 t10 H K) K:=fun R K=>rfl
  by_cases c1:l.length > 60
  · refine ⟨H0,.refl _ _,hw0,fun R K=>?_⟩
    rw [dd]; unfold g5_p0
    rw [show decide (((t0.len:Nat):Int) > 60) = true by simp; omega,sel_true]; rfl
  have ew:IntKind.wrap .i64 ((1:Int) + (IntKind.wrap .i64 (Int.tmod w (5:Int)))) = 1 + w % 5:=by rw [tmodp hwt.1,w64 (n:=w % 5) (by omega),w64 (by omega)]
  have hW:1 ≤ 1 + w % 5∧1 + w % 5 ≤ 5:=by omega
  generalize 1 + w % 5 = W at *
  obtain ⟨H1,e1,j1,x1,w1⟩:=new_ok hw0 (w:=W) (by omega)
  have l1:LInv H0 H1 (H0.next + 1) (fun i=>H0.next ≤ i∧i < H1.next) ⟨W,[],[]⟩:=⟨j1,x1,fun i hi=>hi.1,fun i hi=>hi.2⟩
  generalize H0.next + 1 = x at *
  have a1:AInv H0 H1 x (fun i=>H0.next ≤ i∧i < H1.next) ⟨W,[],[]⟩ nilS nilS [] [] W 0:=⟨l1,⟨w1,.inl .nil,.nil,fun q hq=>(by cases hq)⟩,List.Perm.refl _,List.Perm.refl _,rfl,fun a ha=>(by cases ha),⟨Nat.le_refl _,Nat.le_refl _⟩,fun q hq=>(by cases hq),fun q hq=>(by cases hq)⟩
  obtain ⟨rr,G2,e2,hr,hx2,hw2⟩:=tlim_inv (b:=g5_p19_b)
    (fun st H=>∃ (i:Nat) (F:Nat→Prop) (S1:St) (t8 t9:Sl) (M:List Ab) (L:List Ky),st = (t0,W,some (x,0),t8,t9,(i:Int))∧i ≤ l.length∧AInv H0 H x F S1 t8 t9 M L W i)
    (fun st=>l.length - st.2.2.2.2.2.toNat)
    (fun r H=>(r = .inl () ∨ r = .inr true)∧Ext H0 H∧H.Wf) (by
      rintro st H ⟨i,F1,S1,t8,t9,M,L,rfl,hi,h1⟩
      by_cases hlt:i < l.length
      · rcases acts_step hw0 h1 hl (by omega) hlt hW with ⟨H',F',S',t8',t9',M',L',h2,h3⟩ | ⟨H',hx,hw',h3⟩
        · left
          refine ⟨(t0,W,some (x,0),t8',t9',((i + 1:Nat):Int)),H',?_,⟨i + 1,F',S',t8',t9',M',L',rfl,by omega,h2⟩,by dsimp only; omega⟩
          simp only [g5_p19_b,h3]
        · right
          refine ⟨.inr true,H',?_,.inr rfl,hx,hw'⟩
          simp only [g5_p19_b,h3]
      · right
        refine ⟨.inl (),H,?_,.inl rfl,h1.li.ext,h1.two.wf⟩
        simp only [g5_p19_b,g5_p18,g5_p1]
        rw [show decide ((i:Int) < ((t0.len:Nat):Int)) = false by simp; omega,sel_false]) (t0,W,some (x,0),nilS,nilS,0) H1 ⟨0,_,_,nilS,nilS,[],[],rfl,Nat.zero_le _,a1⟩
  refine ⟨G2,hx2,hw2,fun R K=>?_⟩
  rw [dd]; unfold g5_p0
  rw [show decide (((t0.len:Nat):Int) > 60) = false by simp; omega,sel_false,ew,e1]
  simp only [bne_self_eq_false,sel_false,g5_p22,g5_p20,g5_p19]
  rw [show (Sl.mk none 0 (.ex 0)) = nilS from rfl,e2]
  rcases hr with rfl | rfl
  · simp only [Option.bind_some,cas,g5_p21]
    rfl
  · rfl
end
end Go.Proofs.Ytobebcfkddimkaa

