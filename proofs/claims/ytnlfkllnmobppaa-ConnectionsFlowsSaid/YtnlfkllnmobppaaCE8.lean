/- ConnectionsFlows: the law, whole. -/
import Derived.Test.YtnlfkllnmobppaaCE7
namespace Go.Proofs.Ytnlfkllnmobppaa
open Go AM Go.RowKit
set_option linter.unusedVariables false
set_option linter.unusedSimpArgs false

theorem s9 {R:Type} (H:Heap) (K:Bool→Heap→Option R):g9 R H K = K true H:=rfl
theorem cls_w {m:Int} (hm:0 ≤ m∧m ≤ 255):IntKind.wrap .u8 ((2:Int) + (Int.tmod (IntKind.wrap .u8 (Int.tdiv m (2:Int))) (2:Int))) = 2 + m / 2 % 2∧(2 + m / 2 % 2 = 2 ∨ 2 + m / 2 % 2 = 3):=by
  have e1:IntKind.wrap .u8 (m / 2) = m / 2:=w8u (by omega)
  rw [show Int.tdiv m 2 = m / 2 from Int.tdiv_eq_ediv_of_nonneg hm.1,e1,show Int.tmod (m / 2) 2 = m / 2 % 2 from tmodp (by omega),w8u (by omega)]
  exact ⟨rfl,by omega⟩
section
variable {n0:Nat} {H:Heap} {x y:Nat} {F G:Nat→Prop} {A B:Dk} {l:List Gp} {t7:Sl} {i3:Nat}
/-- one act -/
theorem act_step {H0 : Heap} {t0 : Sl} {acts : List Ak} (ha : RdAk H0 t0 acts) (hw0 : H0.Wf) (h : LW H0.next H 0 x y F G A B l t7 i3) (hk0 : Kp H0.next H0 H) {j : Nat} (hj : j < acts.length) (hl : l.length ≤ 900) :
    (∃ t7' H' F' G' A' B' l',(∀ (R:Type) (kN:Sl→Nat→Nat→Bool→Sl→Int→Heap→Option R) (kR:Bool→Heap→Option R),g4_p5 R t0 i3 0 true t7 (j:Int) H kN kR = kN t0 i3 0 true t7' (j:Int) H')∧LW H0.next H' 0 x y F' G' A' B' l' t7' i3∧Kp H0.next H0 H'∧l'.length ≤ l.length + 1) ∨
    (∀ (R:Type) (kN:Sl→Nat→Nat→Bool→Sl→Int→Heap→Option R) (kR:Bool→Heap→Option R),g4_p5 R t0 i3 0 true t7 (j:Int) H kN kR = kR true H):=by
  obtain ⟨a,haj⟩:∃ a,acts[j]? = some a:=⟨acts[j],by simp [hj]⟩
  have hok:=ha.ok a (List.mem_of_getElem? haj)
  obtain ⟨q,hq,l0,l1,l2,l3⟩:=ha.kp hw0 hk0 j a haj
  have hlen:=ha.len
  have hsl:a.s.len = a.d.length:=hok.s.len
  have hm:=hok.m
  obtain ⟨c1,c2⟩:=cls_w hm
  have hk:a.m % 2 = 0 ∨ a.m % 2 = 1:=by omega
  have hkw:IntKind.wrap .i64 (Int.tmod a.m 2) = a.m % 2:=by rw [tmodp hm.1,w64 (by omega)]
  obtain ⟨k1,k2,k3,k4⟩:=k_w hk
  have hk1w:IntKind.wrap .u16 (1 - a.m % 2) = 1 - a.m % 2:=w16u (by omega)
  have hdat:Dat H0.next H a.s a.d:=(hok.dat hw0).kp hk0
  have hn0:H0.next ≤ H.next:=hk0.nx
  -- the law in the view of the acting side
  obtain ⟨xs, ys, FS, GS, S, T, hv, hx0, hx1, hback⟩ : ∃ xs ys FS GS S T, LW H0.next H (a.m % 2) xs ys FS GS S T l t7 i3 ∧ (some (x, 0) = if a.m % 2 = 0 then some (xs, 0) else some (ys, 0)) ∧ (some (y, 0) = if a.m % 2 = 0 then some (ys, 0) else some (xs, 0)) ∧
      ∀ H' F' G' S' T' l' t',LW H0.next H' (a.m % 2) xs ys F' G' S' T' l' t' i3→∃ F2 G2 A2 B2,LW H0.next H' 0 x y F2 G2 A2 B2 l' t' i3:=by
    rcases hk with e | e
    · rw [e]
      exact ⟨x,y,F,G,A,B,h,rfl,rfl,fun H' F' G' S' T' l' t' hh=>⟨F',G',S',T',hh⟩⟩
    · rw [e]
      exact ⟨y,x,G,F,B,A,h.swap (.inl rfl),rfl,rfl,fun H' F' G' S' T' l' t' hh=>⟨G',F',T',S',hh.swap (.inr rfl)⟩⟩
  have start : ∀ (R : Type) (kN : Sl → Nat → Nat → Bool → Sl → Int → Heap → Option R) (kR : Bool → Heap → Option R), g4_p5 R t0 i3 0 true t7 (j : Int) H kN kR =
      if 200 < a.d.length then kR true H else if a.w % 6 = 0 then reqP R (a.m % 2) (2 + a.m / 2 % 2) a.s i3 t7 H (fun h=>kR false h) (fun s h=>kN t0 i3 0 true s (j:Int) h) else g4_p3 R t0 i3 0 true t7 (j:Int) (a.m % 2) (decide (((t7.len:Nat):Int) > 0)) a.w a.n a.m a.s H (fun t0 t5_0 t5_1 t6 t7 t8 H=>kN t0 t5_0 t5_1 t6 t7 t8 H):=fun R kN kR=>by
    simp only [g4_p5,g4_p4,g4_p2]
    rw [if_pos (by omega),hq,Option.bind_some,Int.toNat_natCast,l0,Option.bind_some,l1,Option.bind_some,l2,Option.bind_some,l3,Option.bind_some,selD]
    by_cases cd:200 < a.d.length
    · rw [if_pos (by omega),if_pos cd,s9]
    · rw [if_neg (by omega),if_neg cd,tmodp hok.w.1,selE]
      by_cases cw:a.w % 6 = 0
      · rw [if_pos cw,if_pos cw]
        simp only [hkw,c1,k1,k2,hk1w,if_pos k3,if_pos k4]
        rfl
      · rw [if_neg cw,if_neg cw]
        simp only [hkw]
  by_cases cd:200 < a.d.length
  · right
    intro R kN kR
    rw [start,if_pos cd]
  left
  by_cases cw:a.w % 6 = 0
  · obtain ⟨t7',H',F',G',S',T',e1,v1,kp1⟩:=step_req hk hv hn0 hl c2 hdat (by omega)
    obtain ⟨F2,G2,A2,B2,v2⟩:=hback _ _ _ _ _ _ _ v1
    exact ⟨t7',H',F2,G2,A2,B2,_,fun R kN kR=>by rw [start,if_neg cd,if_pos cw,e1],v2,hk0.trans kp1,by simp⟩
  · by_cases ct:l.length = 0
    · refine ⟨t7,H,F,G,A,B,l,fun R kN kR=>?_,h,hk0,by omega⟩
      rw [start,if_neg cd,if_neg cw]
      simp only [g4_p3]
      rw [h.tlen,decide_eq_false (by omega),sel_false]
    · -- the section
      have hidx:(a.n % (l.length:Int)).toNat < l.length:=by
        have:=Int.emod_lt_of_pos a.n (show (0:Int) < l.length by omega)
        have:=Int.emod_nonneg a.n (show (l.length:Int) ≠ 0 by omega)
        omega
      obtain ⟨p,hp⟩:∃ p,l[(a.n % (l.length:Int)).toNat]? = some p:=⟨l[(a.n % (l.length:Int)).toNat],by simp [hidx]⟩
      obtain ⟨q7,H',F',G',S',T',p',a7,e1,v1,kp1⟩:=step_flows hk hv hl hp hok.w.1 hm hok.n.1 hdat (by omega)
      obtain ⟨F2,G2,A2,B2,v2⟩:=hback _ _ _ _ _ _ _ v1
      refine ⟨t7,H',F2,G2,A2,B2,_,fun R kN kR=>?_,v2,hk0.trans kp1,by simp⟩
      rw [start,if_neg cd,if_neg cw]
      simp only [g4_p3]
      have hn:=hok.n
      have hem:Int.tmod (IntKind.wrap .i64 a.n) (l.length:Int) = a.n % (l.length:Int):=by rw [w64 (by omega),tmodp hn.1]
      have hem0:=Int.emod_nonneg a.n (show (l.length:Int) ≠ 0 by omega)
      have hem1:=Int.emod_lt_of_pos a.n (show (0:Int) < l.length by omega)
      have hp0:H.ldP i3 (0 + 0) = some (some (x,0))∧H.ldP i3 (0 + 1) = some (some (y,0)):=⟨ldP_of h.arr rfl,ldP_of h.arr rfl⟩
      rw [h.tlen,decide_eq_true (by omega),sel_true,hp0.1,Option.bind_some,hp0.2,Option.bind_some,if_neg (by omega),hem,if_pos ⟨hem0,hem1⟩,a7,Option.bind_some,hx0,hx1,e1]
/-- all acts -/
theorem acts_loop {H0 : Heap} {t0 : Sl} {acts : List Ak} (ha : RdAk H0 t0 acts) (hw0 : H0.Wf) (hal : acts.length ≤ 80) : ∀ (n j : Nat) (H : Heap) (F G : Nat → Prop) (A B : Dk) (l : List Gp) (t7 : Sl), j + n = acts.length → l.length ≤ j → LW H0.next H 0 x y F G A B l t7 i3 → Kp H0.next H0 H →
    (∃ H',tlim (g4_p9_b) (t0,i3,0,true,t7,(j:Int)) H = some (.inr true,H')) ∨
    (∃ t7' H' F' G' A' B' l',tlim (g4_p9_b) (t0,i3,0,true,t7,(j:Int)) H = some (.inl (i3,0,true,t7'),H')∧LW H0.next H' 0 x y F' G' A' B' l' t7' i3∧l'.length ≤ 80):=by
  have hlen:=ha.len
  intro n
  induction n with
  | zero =>
    intro j H F G A B l t7 hj hlj h hk0
    right
    refine ⟨t7,H,F,G,A,B,l,tlim_up ?_,h,by omega⟩
    unfold g4_p9_b g4_p8 g4_p1
    simp only
    rw [decide_eq_false (by omega),sel_false]
  | succ n ih =>
    intro j H F G A B l t7 hj hlj h hk0
    have body:g4_p9_b (t0,i3,0,true,t7,(j:Int)) H = g4_p5 _ t0 i3 0 true t7 (j:Int) H (fun t0 t5_0 t5_1 t6 t7 t8 H=>g4_p6 _ t0 t5_0 t5_1 t6 t7 t8 H (fun t0 t5_0 t5_1 t6 t7 t8 H=>some (.go (t0,t5_0,t5_1,t6,t7,t8),H))) (fun t4 H=>some (.up (.inr t4),H)):=by
      unfold g4_p9_b g4_p8 g4_p1
      simp only
      rw [decide_eq_true (by omega),sel_true,sel_true]
      rfl
    rcases act_step ha hw0 h hk0 (j:=j) (by omega) (by omega) with ⟨t7',H1,F1,G1,A1,B1,l1,e1,v1,kp1,hl1⟩ | e1
    · rw [e1] at body
      have body':g4_p9_b (t0,i3,0,true,t7,(j:Int)) H = some (.go (t0,i3,0,true,t7',((j + 1:Nat):Int)),H1):=by
        rw [body]
        simp only [g4_p6]
        rw [w64 (by omega)]; rfl
      rcases ih (j + 1) H1 F1 G1 A1 B1 l1 t7' (by omega) (by omega) v1 kp1 with ⟨H',e2⟩ | ⟨t7'',H',F',G',A',B',l',e2,v2,hl2⟩
      · exact .inl ⟨H',(tlim_go body').trans e2⟩
      · exact .inr ⟨t7'',H',F',G',A',B',l',(tlim_go body').trans e2,v2,hl2⟩
    · rw [e1] at body
      exact .inl ⟨H,tlim_up body⟩
/-- the sections that are not over -/
theorem count_loop (h:LW n0 H 0 x y F G A B l t7 i3) (hl:l.length ≤ 80):∀ (n j c:Nat),j + n = l.length→c + ((l.drop j).filter fun p=>decide (p.st ≠ 3)).length ≤ 1000→tlim (g4_p13_b) (i3,0,true,t7,(c:Int),(j:Int)) H = some ((i3,0,true,((c + ((l.drop j).filter fun p=>decide (p.st ≠ 3)).length:Nat):Int)),H):=by
  have htl:=h.tlen
  intro n
  induction n with
  | zero =>
    intro j c hj hc
    rw [List.drop_of_length_le (by omega)]
    refine tlim_up ?_
    unfold g4_p13_b g4_p12
    simp only
    rw [decide_eq_false (by omega),sel_false]
    simp
  | succ n ih =>
    intro j c hj hc
    have hjl:j < l.length:=by omega
    have hd:l.drop j = l[j] :: l.drop (j + 1):=List.drop_eq_getElem_cons hjl
    obtain ⟨p,hp⟩:∃ p,p = l[j]:=⟨_,rfl⟩
    have hpj:l[j]? = some p:=by simp [hp,hjl]
    rw [← hp] at hd
    have hz:l.zipIdx[j]? = some (p,j):=by simp [List.getElem?_zipIdx,hpj]
    obtain ⟨q,ha,hg⟩:=own_obj h.own (rows_ne pcs_len (by omega) (by
      intro e
      have:=congrArg List.length e
      simp at this
      rw [this] at hjl; simp at hjl))
    have hst:H.ldI .i64 q (0 + j * 5 + 4) = some p.st:=ldI_of hg (by rw [Nat.zero_add]; exact rows_get pcs pcs_len hz (by omega))
    have hok:=(h.ok p (List.mem_of_getElem? hpj)).s
    have step:∀ (R:Type) (kN:Nat→Nat→Bool→Sl→Int→Int→Heap→Option R) (kE:Nat→Nat→Bool→Int→Heap→Option R),g4_p12 R i3 0 true t7 (c:Int) (j:Int) H kN kE = if p.st ≠ 3 then kN i3 0 true t7 ((c + 1:Nat):Int) ((j + 1:Nat):Int) H else kN i3 0 true t7 (c:Int) ((j + 1:Nat):Int) H:=fun R kN kE=>by
      simp only [g4_p12]
      rw [decide_eq_true (by omega),sel_true,if_pos (by omega),ha,Option.bind_some,Int.toNat_natCast,hst,Option.bind_some,selD,w64 (n:=(c:Int) + 1) (by omega),w64 (n:=(j:Int) + 1) (by omega)]
      by_cases h3:p.st = 3
      · rw [if_neg (by omega),if_neg (by simpa using h3)]; rfl
      · rw [if_pos (by omega),if_pos h3]; rfl
    by_cases h3:p.st = 3
    · have hf:(p :: l.drop (j + 1)).filter (fun p=>decide (p.st ≠ 3)) = (l.drop (j + 1)).filter fun p=>decide (p.st ≠ 3):=by rw [List.filter_cons,if_neg (by simp [h3])]
      rw [hd,hf] at hc ⊢
      rw [← ih (j + 1) c (by omega) hc]
      refine tlim_go ?_
      unfold g4_p13_b
      simp only
      rw [step,if_neg (by simpa using h3)]
    · have hf:(p :: l.drop (j + 1)).filter (fun p=>decide (p.st ≠ 3)) = p :: (l.drop (j + 1)).filter fun p=>decide (p.st ≠ 3):=by rw [List.filter_cons,if_pos (by simp [h3])]
      rw [hd,hf] at hc ⊢
      simp only [List.length_cons] at hc ⊢
      have:=ih (j + 1) (c + 1) (by omega) (by omega)
      rw [show c + (((l.drop (j + 1)).filter fun p=>decide (p.st ≠ 3)).length + 1) = c + 1 + ((l.drop (j + 1)).filter fun p=>decide (p.st ≠ 3)).length by omega,← this]
      refine tlim_go ?_
      unfold g4_p13_b
      simp only
      rw [step,if_pos h3]
end
theorem connectionsFlows_true (H : Heap) (hw : H.Wf) (t0 : Sl) (w : Int) (k1 : ArgSl H [.i .u8, .i .u8, .i .u8, .sl [.i .u8]] t0) (k2 : (Lit.int .u8 w).wf = true) :
    g4 Bool t0 w H (fun r _=>some r) = some true:=by
  obtain ⟨acts,ha⟩:=rdAk_of k1
  have hwb:=wfU8 k2
  have hlen:=ha.len
  simp only [g4,g4_r,g4_p19,g4_p0]
  by_cases hc:acts.length > 80
  · rw [decide_eq_true (by omega),sel_true,s9]
  rw [decide_eq_false (by omega),sel_false]
  have hwin:IntKind.wrap .i64 ((1:Int) + (IntKind.wrap .i64 (Int.tmod w (4:Int)))) = 1 + w % 4:=by rw [tmodp hwb.1,w64 (n:=w % 4) (by omega),w64 (by omega)]
  rw [hwin]
  obtain ⟨x,y,H1,F,G,e1,w1,x1,wf1,fg1⟩:=s17 hw (Nat.le_refl _) (w:=1 + w % 4) (wt:=9) (idl:=9) (fz:=9) (by omega) (by omega)
  have n1:=x1.next
  rw [e1]
  simp only [alo]
  have hg2:=Heap.gnew H1 (.cells [(V.p none),(V.p none)] 40 false)
  have hw2:=wf1.new (.cells [(V.p none),(V.p none)] 40 false)
  have hx2:=Ext.new H1 (.cells [(V.p none),(V.p none)] 40 false)
  have est:(H1.new (.cells [(V.p none),(V.p none)] 40 false)).sts H1.next 0 [(V.p (some (x,0))),(V.p (some (y,0)))] = some ((H1.new (.cells [(V.p none),(V.p none)] 40 false)).put H1.next (.cells (dcells 0 x y) 40 false)):=by
    rw [sts_of hg2 (by show 0 + 2 ≤ 2; omega) rfl]; rfl
  rw [est,Option.bind_some]
  have hx3:Ext H1 ((H1.new (.cells [(V.p none),(V.p none)] 40 false)).put H1.next (.cells (dcells 0 x y) 40 false)):=hx2.above (Nat.le_refl _) _
  have hw3:=hw2.put hg2 (.cells (dcells 0 x y) 40 false)
  have hg3:=Heap.gput (H1.new (.cells [(V.p none),(V.p none)] 40 false)) H1.next (.cells (dcells 0 x y) 40 false)
  generalize (H1.new (.cells [(V.p none),(V.p none)] 40 false)).put H1.next (.cells (dcells 0 x y) 40 false) = H3 at *
  have nodi:∀ k:Int,DI k ({ w:=1 + w % 4,wt:=9,idl:=9,fz:=9 }:Dk) []:=fun k =>
    ⟨rfl,rfl,rfl,fun i p h=>by simp at h,fun r hr=>(by cases hr),fun e he=>(by cases he),rfl,rfl,List.nodup_nil,by show 1 ≤ 1 + w % 4; omega⟩
  have good:({ w:=1 + w % 4,wt:=9,idl:=9,fz:=9 }:Dk).Good:=⟨fun s hs=>(by cases hs),fun l hl=>(by cases hl),⟨Int.le_refl 0,by show (0:Int) ≤ 8191; omega⟩⟩
  have lw:LW H.next H3 0 x y F G { w:=1 + w % 4,wt:=9,idl:=9,fz:=9 } { w:=1 + w % 4,wt:=9,idl:=9,fz:=9 } [] nilS H1.next :=
    ⟨⟨w1.a.ext hw3 hx3,w1.b.ext hw3 hx3,w1.dj,fun i hi=>Nat.lt_of_lt_of_le (w1.fl i hi) hx3.next,fun i hi=>Nat.lt_of_lt_of_le (w1.gl i hi) hx3.next⟩,nodi _,nodi _,good,good,fun p hp=>(by cases hp),hg3,⟨fun hf=>by have:=w1.fl _ hf; omega,fun hf=>by have:=w1.gl _ hf; omega⟩,.nil,fun q hq=>(by cases hq)⟩
  simp only [g4_p18,g4_p10,g4_p9]
  rcases acts_loop ha hw (by omega) acts.length 0 H3 F G _ _ [] nilS (by omega) (by simp) lw (.ext (x1.trans hx3)) with ⟨H',e2⟩ | ⟨t7',H',F',G',A',B',l',e2,v2,hl2⟩
  · rw [show ((0:Nat):Int) = 0 from rfl] at e2
    rw [show (Sl.mk none 0 (.ex 0)) = nilS from rfl,e2]; rfl
  · rw [show ((0:Nat):Int) = 0 from rfl] at e2
    rw [show (Sl.mk none 0 (.ex 0)) = nilS from rfl,e2,Option.bind_some]
    simp only [cas,g4_p17,g4_p11,g4_p16,g4_p14,g4_p13]
    have hfl:((l'.drop 0).filter fun p=>decide (p.st ≠ 3)).length ≤ 80:=Nat.le_trans (List.length_filter_le _ _) (by rw [List.drop_zero]; omega)
    have e3:=count_loop v2 hl2 l'.length 0 0 (by omega) (by omega)
    rw [show ((0:Nat):Int) = 0 from rfl,List.drop_zero,Nat.zero_add] at e3
    rw [e3,Option.bind_some]
    have hp0:H'.ldP H1.next (0 + 0) = some (some (x,0))∧H'.ldP H1.next (0 + 1) = some (some (y,0)):=⟨ldP_of v2.arr rfl,ldP_of v2.arr rfl⟩
    have hwA:=v2.ds.w
    have hwB:=v2.dt.w
    simp only [g4_p15,sel_true]
    rw [hp0.1,Option.bind_some,s23 v2.w.a (by omega),v2.ds.opn,show (((l'.filter fun p=>decide (p.st ≠ 3)).length:Int) == ((l'.filter fun p=>decide (p.st ≠ 3)).length:Int)) = true by simp,sel_true,hp0.2,Option.bind_some,s23 v2.w.b (by omega),v2.dt.opn,show (((l'.filter fun p=>decide (p.st ≠ 3)).length:Int) == ((l'.filter fun p=>decide (p.st ≠ 3)).length:Int)) = true by simp,sel_true,s9]
end Go.Proofs.Ytnlfkllnmobppaa

