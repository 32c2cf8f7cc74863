/- The joiner as plain data: New, Hear, Tick, Open. -/
import Derived.Test.YtobebcfkddimkaaJN
namespace Go.Proofs.Ytobebcfkddimkaa
open Go AM Go.RowKit Go.Sort
set_option linter.unusedVariables false
set_option linter.unusedSimpArgs false

def Sg.ck (u:Sg):Int:=if u.l ≥ 16 then 1 else if u.d.length > 256 then 3 else 0
structure Ab where
  k:Ky
  d:List Int
  nx:Int
  wt:Int
structure St where
  w:Int
  ps:List Ab
  ls:List Ky
structure Out where
  got:List Int
  done:Bool
  err:Int
def St.find (S:St) (k:Ky):Option Ab:=S.ps.find? fun a=>decide (a.k = k)
def St.del (S:St) (k:Ky):St:=⟨S.w,S.ps.filter fun a=>decide (a.k ≠ k),S.ls⟩
def St.drop (S:St) (k:Ky):St:=⟨S.w,S.ps.filter fun a=>decide (a.k ≠ k),S.ls ++ [k]⟩
def St.new (S:St) (k:Ky) (l:Int):St:=⟨S.w,S.ps ++ [⟨k,[],l,0⟩],S.ls⟩
def St.fin (S:St) (k:Ky) (d0:List Int) (u:Sg):St × Out :=
  if 0 < u.l then (⟨S.w,S.ps.map fun b=>if b.k = k then ⟨k,d0 ++ u.d,u.l - 1,S.w⟩ else b,S.ls⟩,⟨[],false,0⟩) else (S.del k,⟨d0 ++ u.d,true,0⟩)
def St.hear (S:St) (k:Ky) (u:Sg):St × Out :=
  if 16383 < k.1 then (S,⟨[],false,1⟩) else if u.ck ≠ 0 then (S,⟨[],false,u.ck⟩) else
  match S.find k with
  | none=>if u.f = true then (if 0 < u.l∧4096 ≤ S.ps.length then (S,⟨[],false,9⟩) else (S.new k u.l).fin k [] u) else (S,⟨[],false,6⟩)
  | some a=>if u.f = true then ((S.drop k).new k u.l).fin k [] u else if a.nx = u.l then S.fin k a.d u else (S.drop k,⟨[],false,6⟩)
def ab (bd:Nat→List Int) (u:Pk):Ab:=⟨u.k,bd u.p,u.nx,u.wt⟩
def stOf (t:TD) (bd:Nat→List Int):St:=⟨t.w,t.us.map (ab bd),t.ls⟩
theorem inj_of {β:Type} {f:Pk→β} {us:List Pk} (hn:(us.map f).Nodup) {u v:Pk} (hu:u ∈ us) (hv:v ∈ us) (e:f u = f v):u = v:=by
  obtain ⟨i,hi⟩:=List.mem_iff_getElem?.1 hu
  obtain ⟨j,hj⟩:=List.mem_iff_getElem?.1 hv
  have hli:=(List.getElem?_eq_some_iff.1 hi).1
  have:i = j:=(List.getElem?_inj (i:=i) (j:=j) (by simpa using hli) hn).1 (by simp [hi,hj,e])
  subst this
  rw [hi] at hj
  exact Option.some.inj hj
section
variable {H:Heap} {x:Nat} {F:Nat→Prop} {t:TD} {bd:Nat→List Int}
theorem find_some (hn:(t.us.map (·.k)).Nodup) {u:Pk} (hu:u ∈ t.us):(stOf t bd).find u.k = some (ab bd u):=by
  unfold St.find stOf
  rw [List.find?_map]
  have:t.us.find? ((fun a:Ab=>decide (a.k = u.k)) ∘ ab bd) = some u:=by
    cases hf:t.us.find? ((fun a:Ab=>decide (a.k = u.k)) ∘ ab bd) with
    | none=>exact absurd (List.find?_eq_none.1 hf u hu) (by simp [ab])
    | some v =>
      have h1:=List.find?_some hf
      have h2:=List.mem_of_find?_eq_some hf
      simp only [Function.comp,ab,decide_eq_true_eq] at h1
      rw [inj_of hn h2 hu (of_decide_eq_true h1)]
  rw [this]; rfl
theorem find_none {k:Ky} (hk:∀ u ∈ t.us,u.k ≠ k):(stOf t bd).find k = none:=by
  unfold St.find stOf
  rw [List.find?_eq_none]
  intro a ha
  obtain ⟨u,hu,rfl⟩:=List.mem_map.1 ha
  show ¬decide (u.k = k) = true
  simpa using hk u hu
theorem filt_map (k:Ky):(t.us.filter fun v=>decide (v.k ≠ k)).map (ab bd) = (t.us.map (ab bd)).filter fun a=>decide (a.k ≠ k):=by
  rw [List.filter_map]; rfl
theorem JS.p2 (h : JS H x F t bd) {v : Pk} (hv : v ∈ t.us) {s : Sl} {u : Sg} (hs : BS H s u.d) (hl : 0 ≤ u.l ∧ u.l < 16) (hnx : v.nx = u.l) (hm : (bd v.p).length + u.d.length ≤ 140737488355328) :
    ∃ r H' t' bd',(∀ (R:Type) (K:Sl→Bool→Int→Heap→Option R),g13_p2 R (some (x,0)) (some (v.p,0)) u.r u.f u.l s v.k.1 v.k.2 H K = K r ((stOf t bd).fin v.k (bd v.p) u).2.done 0 H') ∧
      JS H' x (grown F H H') t' bd'∧Fr' F H H'∧BS H' r ((stOf t bd).fin v.k (bd v.p) u).2.got∧r.cap = .ex r.len∧stOf t' bd' = ((stOf t bd).fin v.k (bd v.p) u).1∧((stOf t bd).fin v.k (bd v.p) u).2.err = 0∧(∀ q,r.a = some q→grown F H H' q.1)∧∀ q,r.a = some q→¬Foot x t' q.1:=by
  obtain ⟨r,H1,e1,h1,f1⟩:=h.app hv hs hm
  have eqs : ∀ (R : Type) (K : Sl → Bool → Int → Heap → Option R), g13_p2 R (some (x, 0)) (some (v.p, 0)) u.r u.f u.l s v.k.1 v.k.2 H K =
      sel (decide (u.l > (0:Int))) (K (Sl.mk none 0 (.ex 0)) false (0:Int) H1) (
    ((H1).ldM x (0 + 1)).bind fun x747 =>
    evBuiltin Try.prog H1 .delete [62,57] [(V.m x747),keyA v.k] fun u748 h749 =>
    ((h749).ldSl v.p (0 + 0)).bind fun x751=>g31 R x751 h749 fun x752 h753=>K x752 true (0:Int) h753):=fun R K=>by
    have:=e1 R fun h745=>sel (decide (u.l > (0:Int))) (K (Sl.mk none 0 (.ex 0)) false (0:Int) h745) (
    ((h745).ldM x (0 + 1)).bind fun x747 =>
    evBuiltin Try.prog h745 .delete [62,57] [(V.m x747),keyA v.k] fun u748 h749 =>
    ((h749).ldSl v.p (0 + 0)).bind fun x751=>g31 R x751 h749 fun x752 h753=>K x752 true (0:Int) h753)
    rw [← this]
    rfl
  by_cases hl0:0 < u.l
  · have ef:(stOf t bd).fin v.k (bd v.p) u = (⟨t.w,(t.us.map (ab bd)).map fun b=>if b.k = v.k then ⟨v.k,bd v.p ++ u.d,u.l - 1,t.w⟩ else b,t.ls⟩,⟨[],false,0⟩):=by unfold St.fin; rw [if_pos hl0]; rfl
    refine ⟨nilS,H1,_,_,fun R K=>?_,h1,f1,?_,rfl,?_,by rw [ef],fun q hq=>(by cases hq),fun q hq=>by cases hq⟩
    · rw [eqs,decide_eq_true hl0,sel_true,ef]; rfl
    · rw [ef]; exact .nil _
    · rw [ef]
      unfold stOf
      simp only [St.mk.injEq,and_true,true_and]
      rw [List.map_map,List.map_map]
      refine List.map_congr_left fun w hw=>?_
      simp only [Function.comp]
      by_cases e:w.p = v.p
      · have hwv:=inj_of h.is.np hw hv e
        subst hwv
        have hwr:IntKind.wrap .u8 (w.nx - 1) = u.l - 1:=by rw [hnx,w8u (by omega)]
        rw [if_pos (show (ab bd w).k = w.k from rfl),hwr]
        simp only [ab,Pk.put,if_true]
      · have hk:w.k ≠ v.k:=fun e2=>e (by rw [inj_of h.is.nk hw hv e2])
        rw [if_neg (show ¬(ab bd w).k = v.k from hk)]
        simp only [ab,Pk.put,if_neg e]
  · have hl1:u.l = 0:=by omega
    have ef:(stOf t bd).fin v.k (bd v.p) u = (⟨t.w,(t.us.map (ab bd)).filter fun a=>decide (a.k ≠ v.k),t.ls⟩,⟨bd v.p ++ u.d,true,0⟩):=by unfold St.fin; rw [if_neg hl0]; rfl
    have hv1:v.put r (IntKind.wrap .u8 (v.nx - 1)) t.w v ∈ (t.us.map (v.put r (IntKind.wrap .u8 (v.nx - 1)) t.w)):=List.mem_map.2 ⟨v,hv,rfl⟩
    have hpv:v.put r (IntKind.wrap .u8 (v.nx - 1)) t.w v = { v with d:=r,nx:=IntKind.wrap .u8 (v.nx - 1),wt:=t.w }:=by unfold Pk.put; rw [if_pos rfl]
    obtain ⟨H2,e2,h2,n2,k2⟩:=h1.del v.k
    have g1:=h1.is.pcs _ hv1
    have d1:=h1.dat _ hv1
    have q1:=h1.is.ids.2.2.2 _ hv1
    have dm:∀ q ∈ sid r,q ≠ t.m:=fun q hq=>(h1.did hv1 (by rw [hpv]; exact hq)).2.1
    rw [hpv] at g1 d1 q1
    simp only [if_pos rfl] at d1
    have g2:H2.get v.p = some (.cells [.sl r,.i .u8 (IntKind.wrap .u8 (v.nx - 1)),.i .i64 t.w] 76 false):=by rw [k2 v.p q1.2.1]; exact g1
    have d2:Own H2 5 1 r (bcs (bd v.p ++ u.d)):=by
      refine Own.mono (H:=H1) ?_ fun id o ha ho=>?_
      · have:=d1; simpa using this
      · rw [k2 id (dm id (sid_of ha))]; exact ho
    refine ⟨⟨r.a,r.len,.ex r.len⟩,H2,_,(fun i=>if i = v.p then bd v.p ++ u.d else bd i),fun R K=>?_,⟨h2.wf,h2.is,h2.dat,h2.dis,fun i hi=>?_⟩,⟨by rw [n2]; exact f1.next,fun i hi hf=>?_⟩,?_,rfl,?_,by rw [ef],fun q hq=>?_,fun q hq hft=>?_⟩
    · rw [eqs,decide_eq_false (by omega),sel_false,ef,(ldJ h1.is.obj).2.1,Option.bind_some]
      have:=e2 R fun h749=>((h749).ldSl v.p (0 + 0)).bind fun x751=>g31 R x751 h749 fun x752 h753=>K x752 true (0:Int) h753
      refine this.trans ?_
      rw [ldSl_of (x:=r) g2 rfl,Option.bind_some,clip_ok d2.capOk]
    · have:=h2.foot i hi
      unfold grown at this ⊢
      rw [n2]; exact this
    · rw [k2 i (fun e=>hf (h.foot _ (.inr (.inl e)))),f1.same i hi hf]
    · rw [ef]; exact d2.toBS.clipped
    · rw [ef]
      unfold stOf
      simp only [St.mk.injEq,and_true,true_and]
      rw [List.filter_map,List.filter_map,List.map_map]
      have hfe:t.us.filter ((fun w:Pk=>decide (w.k ≠ v.k)) ∘ v.put r (IntKind.wrap .u8 (v.nx - 1)) t.w) = t.us.filter ((fun a:Ab=>decide (a.k ≠ v.k)) ∘ ab bd):=by
        refine List.filter_congr fun w _=>?_
        simp only [Function.comp,Pk.put_k]; rfl
      rw [hfe]
      refine List.map_congr_left fun w hw=>?_
      obtain ⟨hw1,hw2⟩:=List.mem_filter.1 hw
      simp only [Function.comp,ab,decide_eq_true_eq] at hw2
      have e:w.p ≠ v.p:=fun e2=>of_decide_eq_true hw2 (by rw [inj_of h.is.np hw1 hv e2])
      simp only [Function.comp,ab,Pk.put,if_neg e]
    · have hq':r.a = some q:=hq
      have hf:=h1.foot q.1 (.inr (.inr (.inr ⟨_,hv1,.inr (by rw [hpv]; show q.1 ∈ sid r; unfold sid; rw [hq']; simp)⟩)))
      unfold grown at hf ⊢
      rw [n2]; exact hf
    · have hq':r.a = some q:=hq
      have hqs:q.1 ∈ sid (v.put r (IntKind.wrap .u8 (v.nx - 1)) t.w v).d:=by rw [hpv]; show q.1 ∈ sid r; unfold sid; rw [hq']; simp
      obtain ⟨a1,a2,a3,a4,_⟩:=h1.did hv1 hqs
      rcases hft with e | e | e | ⟨w,hw,e | e⟩
      · exact a1 e
      · exact a2 e
      · exact a3 e
      · exact a4 w (List.mem_filter.1 hw).1 e
      · have h3:=h1.dis _ hv1 w (List.mem_filter.1 hw).1 _ hqs e
        have h4:=inj_of h1.is.np hv1 (List.mem_filter.1 hw).1 h3
        have h5:=(List.mem_filter.1 hw).2
        rw [← h4,Pk.put_k] at h5
        simp at h5
/-- the joiner at x is S; what it holds is in F -/
def JA (H:Heap) (x:Nat) (F:Nat→Prop) (S:St):Prop:=∃ t bd,JS H x F t bd∧S = stOf t bd
theorem AM.BS.keep {G:Heap} {s:Sl} {l:List Int} (h:BS H s l) (hw:H.Wf) (hf:Fr' F H G) (ho:l = [] ∨ ∀ q,s.a = some q→¬F q.1):BS G s l:=by
  rcases ho with rfl | ho
  · exact bs_empty h.len
  · exact h.mono fun id off o ha hg=>(hf.same id (hw _ _ hg) (ho _ ha)).trans hg
theorem JS.up {F':Nat→Prop} (h:JS H x F t bd) (hf:∀ i,i < H.next→F i→F' i):JS H x F' t bd:=⟨h.wf,h.is,h.dat,h.dis,fun i hi=>hf i (h.flt hi) (h.foot i hi)⟩
theorem AM.Fr'.join {G G':Heap} (h:Fr' F H G) (h':Fr' (grown F H G) G G'):Fr' F H G' :=
  ⟨Nat.le_trans h.next h'.next,fun i hi hf=>(h'.same i (Nat.lt_of_lt_of_le hi h.next) (fun hg=>by rcases hg with hg | hg; exact hf hg; omega)).trans (h.same i hi hf)⟩
theorem JA.hear {S : St} (h : JA H x F S) (hpos : 0 < S.w) {k : Ky} {u : Sg} (hk : k.2 = u.r) (hl : 0 ≤ u.l) {s : Sl} (hs : BS H s u.d) (ho : u.d = [] ∨ ∀ q, s.a = some q → ¬F q.1 ∧ q.1 < H.next) (hb : ∀ a ∈ S.ps, a.d.length ≤ 1000000) (hn : S.ps.length + S.ls.length ≤ 1000000) :
    ∃ r H',(∀ (R:Type) (K:Sl→Bool→Int→Heap→Option R),g13 R (some (x,0)) k.1 u.r u.f u.l s H K = K r (S.hear k u).2.done (S.hear k u).2.err H')∧JA H' x (grown F H H') (S.hear k u).1∧BS H' r (S.hear k u).2.got∧r.cap = .ex r.len∧Fr' F H H'∧(∀ q,r.a = some q→grown F H H' q.1)∧∃ F',JA H' x F' (S.hear k u).1∧(∀ i,F' i→grown F H H' i)∧∀ q,r.a = some q→¬F' q.1:=by
  obtain ⟨t,bd,h,rfl⟩:=h
  obtain ⟨i1,i2,i3,i4⟩:=h.is.ids
  have hw0:0 < t.w:=hpos
  have hsl:s.len = u.d.length:=hs.len
  have hn':t.us.length + t.ls.length ≤ 1000000:=by simpa [stOf] using hn
  have d0:∀ (R:Type) (K:Sl→Bool→Int→Heap→Option R),g13 R (some (x,0)) k.1 u.r u.f u.l s H K = g13_p0 R (some (x,0)) k.1 u.r u.f u.l s H (fun t0 t11 t500005_0 t500005_1 t500005_2 t500005_3 t500010_0 t500010_1 H=>g13_p1 R t0 t11 t500005_0 t500005_1 t500005_2 t500005_3 t500010_0 t500010_1 H (fun t0 t11 t500005_0 t500005_1 t500005_2 t500005_3 t500010_0 t500010_1 H=>g13_p2 R t0 t11 t500005_0 t500005_1 t500005_2 t500005_3 t500010_0 t500010_1 H K) K) K:=fun R K=>rfl
  have same:JA H x (grown F H H) (stOf t bd):=⟨t,bd,h.up fun i _ hf=>.inl hf,rfl⟩
  have start : ∀ (R : Type) (K : Sl → Bool → Int → Heap → Option R) (kN), g13_p0 R (some (x, 0)) k.1 u.r u.f u.l s H kN K =
      if 16383 < k.1 then K nilS false 1 H else if u.ck ≠ 0 then K nilS false u.ck H else (fnd (at_ k t.us 0) (fun j362 x363=>((V.asP x363)).bind fun x364=>kN (some (x,0)) x364 u.r u.f u.l s k.1 u.r H) (kN (some (x,0)) none u.r u.f u.l s k.1 u.r H)):=fun R K kN=>by
    unfold g13_p0
    rw [s22 h.is.obj,decide_eq_true hw0,Bool.not_true,sel_false,selD]
    by_cases h1:k.1 > 16383
    · rw [if_pos h1,if_pos h1]; rfl
    rw [if_neg h1,if_neg h1]
    have ck:∀ (K:Int→Heap→Option R),g30 R u.r u.f u.l s H K = K u.ck H:=fun K=>by
      simp only [g30,g30_r,g30_p0]
      unfold Sg.ck
      rw [selD,selD,hsl]
      by_cases c1:u.l ≥ 16
      · rw [if_pos c1,if_pos c1]
      · rw [if_neg c1,if_neg c1]
        by_cases c2:u.d.length > 256
        · rw [if_pos (by omega),if_pos c2]
        · rw [if_neg (by omega),if_neg c2]
    rw [ck,selN]
    by_cases h2:u.ck = 0
    · rw [if_pos h2,if_neg (by simpa using h2),Option.bind_some,(ldJ h.is.obj).2.1,Option.bind_some]
      simp only [getMap,h.is.map,Option.bind_some]
      rw [show V.agg [V.i IntKind.u16 k.1,V.i IntKind.u32 u.r] = keyA k by rw [← hk]; rfl,find_at,Option.bind_some]
    · rw [if_neg h2,if_pos h2]; rfl
  unfold St.hear
  by_cases h1:16383 < k.1
  · rw [if_pos h1]
    exact ⟨nilS,H,fun R K=>by rw [d0,start,if_pos h1],same,.nil _,rfl,.refl _ _,fun q hq=>(by cases hq),_,same,fun _ h=>h,fun q hq=>by cases hq⟩
  rw [if_neg h1]
  by_cases h2:u.ck ≠ 0
  · rw [if_pos h2]
    exact ⟨nilS,H,fun R K=>by rw [d0,start,if_neg h1,if_pos h2],same,.nil _,rfl,.refl _ _,fun q hq=>(by cases hq),_,same,fun _ h=>h,fun q hq=>by cases hq⟩
  rw [if_neg h2]
  have hck:u.l < 16∧u.d.length ≤ 256:=by
    unfold Sg.ck at h2
    by_cases c1:u.l ≥ 16
    · rw [if_pos c1] at h2; exact absurd (by decide) h2
    · rw [if_neg c1] at h2
      by_cases c2:u.d.length > 256
      · rw [if_pos c2] at h2; exact absurd (by decide) h2
      · omega
  -- a new piece, made in a joiner that has none of this key
  have fresh : ∀ (G : Heap) (t1 : TD) (bd1 : Nat → List Int), JS G x (grown F H G) t1 bd1 → Fr' F H G → (∀ w ∈ t1.us, w.k ≠ k) → t1.ls.length + t1.us.length ≤ 1000000 →
      ∃ r H', (∀ (R : Type) (K : Sl → Bool → Int → Heap → Option R), (alo G (.cells [(V.sl (Sl.mk none 0 (.ex 0))), (V.i .u8 u.l), (V.i .i64 (0 : Int))] 76 false) fun i685 h686 =>
            ((some (x,0):Option (Nat × Nat))).bind fun q687=>((h686).ldM q687.1 (q687.2 + 1)).bind fun x688 =>
            mapSet Try.prog h686 62 (V.m x688) (V.agg [(V.i .u16 k.1),(V.i .u32 u.r)]) (V.p (some (i685,0))) fun u690 h689=>g13_p2 R (some (x,0)) (some (i685,0)) u.r u.f u.l s k.1 u.r h689 K) = K r (((stOf t1 bd1).new k u.l).fin k [] u).2.done (((stOf t1 bd1).new k u.l).fin k [] u).2.err H') ∧
        JA H' x (grown F H H') (((stOf t1 bd1).new k u.l).fin k [] u).1∧BS H' r (((stOf t1 bd1).new k u.l).fin k [] u).2.got∧r.cap = .ex r.len∧Fr' F H H'∧(∀ q,r.a = some q→grown F H H' q.1)∧∃ F',JA H' x F' (((stOf t1 bd1).new k u.l).fin k [] u).1∧(∀ i,F' i→grown F H H' i)∧∀ q,r.a = some q→¬F' q.1:=by
    intro G t1 bd1 hG fG hno hsz
    obtain ⟨G2,e2,j2,f2⟩:=hG.add hno u.l (by omega)
    have fHG2:=fG.join f2
    have hs2:BS G2 s u.d:=hs.keep h.wf fHG2 (ho.imp id fun h q hq=>(h q hq).1)
    have hv:newP k G.next u.l t1.ck ∈ (t1.us ++ [newP k G.next u.l t1.ck]):=List.mem_append.2 (.inr (List.mem_singleton.2 rfl))
    have hbd:(if (newP k G.next u.l t1.ck).p = G.next then ([]:List Int) else bd1 (newP k G.next u.l t1.ck).p) = []:=if_pos rfl
    obtain ⟨r,H',t',bd',e3,j3,f3,b3,c3,s3,z3,y3,q3⟩:=j2.p2 hv hs2 ⟨hl,hck.1⟩ rfl (by rw [hbd]; simp; omega)
    have est:stOf { t1 with us:=t1.us ++ [newP k G.next u.l t1.ck],ck:=t1.ck + 1 } (fun i=>if i = G.next then [] else bd1 i) = (stOf t1 bd1).new k u.l:=by
      unfold stOf St.new
      simp only [List.map_append,List.map_cons,List.map_nil,St.mk.injEq,and_true,true_and]
      congr 1
      · refine List.map_congr_left fun w hw=>?_
        have:w.p ≠ G.next:=by have:=hG.wf _ _ (hG.is.pcs w hw); omega
        simp only [ab,if_neg this]
      · simp only [ab,newP,if_pos rfl]
        rfl
    rw [hbd,est] at e3 b3 s3 z3
    refine ⟨r,H',fun R K=>?_,⟨t',bd',j3.up fun i hi hg=>?_,s3.symm⟩,b3,c3,fHG2.join (f3.mono fun i hi hg=>?_),fun q hq=>?_,Foot x t',⟨t',bd',⟨j3.wf,j3.is,j3.dat,j3.dis,fun i hi=>hi⟩,s3.symm⟩,fun i hi=>?_,q3⟩
    · have:=e2 R fun p hh=>g13_p2 R (some (x,0)) p u.r u.f u.l s k.1 u.r hh K
      rw [show V.agg [V.i IntKind.u16 k.1,V.i IntKind.u32 k.2] = V.agg [V.i IntKind.u16 k.1,V.i IntKind.u32 u.r] by rw [hk]] at this
      refine Eq.trans ?_ (this.trans ?_)
      · rfl
      · have e4:=e3 R K
        rw [show (newP k G.next u.l t1.ck).k.2 = u.r from hk] at e4
        have z4:(((stOf t1 bd1).new k u.l).fin k [] u).2.err = 0:=z3
        rw [z4]; exact e4
    · unfold grown at hg ⊢
      have:=f3.next; have:=f2.next; have:=fG.next
      rcases hg with (((hg | hg) | hg) | hg)
      · exact .inl hg
      · exact .inr (by omega)
      · exact .inr (by omega)
      · exact .inr (by omega)
    · unfold grown at hg ⊢
      have:=f2.next; have:=fG.next
      rcases hg with ((hg | hg) | hg)
      · exact .inl hg
      · exact .inr (by omega)
      · exact .inr (by omega)
    · have hg:=y3 q hq
      unfold grown at hg ⊢
      have:=f3.next; have:=f2.next; have:=fG.next
      rcases hg with (((hg | hg) | hg) | hg)
      · exact .inl hg
      · exact .inr (by omega)
      · exact .inr (by omega)
      · exact .inr (by omega)
    · have hg:=j3.foot i hi
      unfold grown at hg ⊢
      have:=f3.next; have:=f2.next; have:=fG.next
      rcases hg with (((hg | hg) | hg) | hg)
      · exact .inl hg
      · exact .inr (by omega)
      · exact .inr (by omega)
      · exact .inr (by omega)
  by_cases hex:∃ v ∈ t.us,v.k = k
  · obtain ⟨v,hv,rfl⟩:=hex
    obtain ⟨j,j1,j2,_⟩:=at_some (i:=0) h.is.nk hv rfl
    have pre:∀ (R:Type) (K:Sl→Bool→Int→Heap→Option R),g13 R (some (x,0)) v.k.1 u.r u.f u.l s H K = g13_p1 R (some (x,0)) (some (v.p,0)) u.r u.f u.l s v.k.1 u.r H (fun t0 t11 t500005_0 t500005_1 t500005_2 t500005_3 t500010_0 t500010_1 H=>g13_p2 R t0 t11 t500005_0 t500005_1 t500005_2 t500005_3 t500010_0 t500010_1 H K) K:=fun R K=>by
      rw [d0,start,if_neg h1,if_neg h2,j1,fnd_some]; rfl
    rw [find_some h.is.nk hv]
    simp only
    obtain ⟨s',H1,e1,jd,f1⟩:=h.drop hv
    rw [hk] at e1
    have estd:stOf { t with s:=s',us:=t.us.filter fun w=>decide (w.k ≠ v.k),ls:=t.ls ++ [v.k] } bd = (stOf t bd).drop v.k:=by
      unfold stOf St.drop
      simp only [St.mk.injEq,and_true,true_and]
      exact filt_map v.k
    cases hf:u.f with
    | true =>
      rw [if_pos rfl]
      have hlt:(t.us.filter fun w=>decide (w.k ≠ v.k)).length < t.us.length:=List.length_filter_lt_length_iff_exists.2 ⟨v,hv,by simp⟩
      obtain ⟨r,H',e2,a2,b2,c2,f2,y2⟩:=fresh H1 _ bd jd f1 (fun w hw=>by simpa using (List.mem_filter.1 hw).2) (by simp only [List.length_append,List.length_cons,List.length_nil]; omega)
      rw [estd] at e2 a2 b2 y2
      refine ⟨r,H',fun R K=>?_,a2,b2,c2,f2,y2⟩
      have hpre:=pre R K
      rw [hf] at hpre e2
      rw [hpre,← e2 R K]
      unfold g13_p1
      simp only [sel_true,Option.isNone_some,sel_false,e1]
    | false =>
      rw [if_neg (by simp)]
      have ldn:H.ldI .u8 v.p (0 + 1) = some v.nx:=ldI_of (h.is.pcs v hv) rfl
      by_cases hnx:v.nx = u.l
      · rw [if_pos (show (ab bd v).nx = u.l from hnx)]
        have hbl:(bd v.p).length ≤ 1000000:=hb (ab bd v) (List.mem_map.2 ⟨v,hv,rfl⟩)
        obtain ⟨r,H',t',bd',e3,j3,f3,b3,c3,s3,z3,y3,q3⟩:=h.p2 hv hs ⟨hl,hck.1⟩ hnx (by omega)
        refine ⟨r,H',fun R K=>?_,⟨t',bd',j3,s3.symm⟩,b3,c3,f3,y3,Foot x t',⟨t',bd',⟨j3.wf,j3.is,j3.dat,j3.dis,fun i hi=>hi⟩,s3.symm⟩,j3.foot,q3⟩
        have e4:=e3 R K
        rw [hk] at e4
        have hpre:=pre R K
        rw [hf] at hpre e4
        rw [hpre]
        unfold g13_p1
        simp only [sel_false,Option.isNone_some,Option.bind_some,ldn]
        rw [selN,if_pos hnx,e4]
        show K r _ 0 H' = K r _ ((stOf t bd).fin v.k (bd v.p) u).2.err H'
        rw [z3]; rfl
      · rw [if_neg (show ¬(ab bd v).nx = u.l from hnx)]
        refine ⟨nilS,H1,fun R K=>?_,⟨_,bd,jd,estd.symm⟩,.nil _,rfl,f1,fun q hq=>(by cases hq),_,⟨_,bd,jd,estd.symm⟩,fun _ h=>h,fun q hq=>by cases hq⟩
        have hpre:=pre R K
        rw [hf] at hpre
        rw [hpre]
        unfold g13_p1
        simp only [sel_false,Option.isNone_some,Option.bind_some,ldn]
        rw [selN,if_neg hnx,e1]; rfl
  · have hno:∀ v ∈ t.us,v.k ≠ k:=fun v hv e=>hex ⟨v,hv,e⟩
    have pre:∀ (R:Type) (K:Sl→Bool→Int→Heap→Option R),g13 R (some (x,0)) k.1 u.r u.f u.l s H K = g13_p1 R (some (x,0)) none u.r u.f u.l s k.1 u.r H (fun t0 t11 t500005_0 t500005_1 t500005_2 t500005_3 t500010_0 t500010_1 H=>g13_p2 R t0 t11 t500005_0 t500005_1 t500005_2 t500005_3 t500010_0 t500010_1 H K) K:=fun R K=>by
      rw [d0,start,if_neg h1,if_neg h2,at_none hno,fnd_none]
    rw [find_none hno]
    simp only
    have e1:∀ {R:Type} (K:Heap→Option R),g23 R (some (x,0)) k.1 u.r H K = K H:=fun K=>by rw [← hk]; exact h.drop_none hno K
    have hlen:(stOf t bd).ps.length = t.us.length:=by simp [stOf]
    cases hf:u.f with
    | true =>
      rw [if_pos rfl]
      by_cases hfull:0 < u.l∧4096 ≤ (stOf t bd).ps.length
      · rw [if_pos hfull]
        refine ⟨nilS,H,fun R K=>?_,same,.nil _,rfl,.refl _ _,fun q hq=>(by cases hq),_,same,fun _ h=>h,fun q hq=>by cases hq⟩
        have hpre:=pre R K
        rw [hf] at hpre
        rw [hpre]
        unfold g13_p1
        simp only [sel_true,Option.isNone_none,decide_eq_true hfull.1,Option.bind_some,(ldJ h.is.obj).2.1,getMap,h.is.map,List.length_map]
        rw [decide_eq_true (by omega),sel_true]; rfl
      · rw [if_neg hfull]
        obtain ⟨r,H',e2,a2,b2,c2,f2,y2⟩:=fresh H t bd (h.up fun i _ hg=>.inl hg) (.refl _ _) hno (by omega)
        refine ⟨r,H',fun R K=>?_,a2,b2,c2,f2,y2⟩
        have hpre:=pre R K
        rw [hf] at hpre e2
        rw [hpre,← e2 R K]
        unfold g13_p1
        by_cases hl0:0 < u.l
        · simp only [sel_true,Option.isNone_none,decide_eq_true hl0,Option.bind_some,(ldJ h.is.obj).2.1,getMap,h.is.map,List.length_map]
          rw [decide_eq_false (by omega),sel_false]
          simp only [e1]
        · simp only [sel_true,Option.isNone_none,decide_eq_false hl0,sel_false,e1]
    | false =>
      rw [if_neg (by simp)]
      refine ⟨nilS,H,fun R K=>?_,same,.nil _,rfl,.refl _ _,fun q hq=>(by cases hq),_,same,fun _ h=>h,fun q hq=>by cases hq⟩
      have hpre:=pre R K
      rw [hf] at hpre
      rw [hpre]
      unfold g13_p1
      simp only [sel_false,Option.isNone_none,sel_true,e1]
      rfl
end
end Go.Proofs.Ytobebcfkddimkaa

