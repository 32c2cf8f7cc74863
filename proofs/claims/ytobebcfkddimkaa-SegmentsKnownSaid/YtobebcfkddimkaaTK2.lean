/- Tick: its contract, joined. -/
import Derived.Test.YtobebcfkddimkaaTK
namespace Go.Proofs.Ytobebcfkddimkaa
open Go AM Go.RowKit Go.Shelf Go.Sort
set_option linter.unusedVariables false
set_option linter.unusedSimpArgs false

theorem E11_env:EnvGood Try.prog (E11 g23 g24 g25):=E11_good ok23 ok24 ok25 g23_lin g24_lin g25_lin
theorem kf {a b c d e f g h i j:V} {t:Nat} {v:V} (hv:fget [(0,a),(3,b),(4,c),(5,d),(16,e)] t = some v):fget [(0,a),(3,b),(16,e),(17,f),(18,g),(19,h),(20,i),(21,j),(4,c),(5,d)] t = some v:=by
  by_cases h0:t = 0
  · subst h0; exact hv
  by_cases h3:t = 3
  · subst h3; exact hv
  by_cases h4:t = 4
  · subst h4; exact hv
  by_cases h5:t = 5
  · subst h5; exact hv
  by_cases h16:t = 16
  · subst h16; exact hv
  simp [fget,h0,h3,h4,h5,h16] at hv
section
variable {N:Nat} {w0:Ref}
/-- the loop -/
theorem loop_ok {H0 : Heap} (hw0 : H0.Wf) {x : Nat} {t : TD} (ht : TickIs H0 x t) {fr : Fr} {H : Heap} (h : ∃ seen os, fr = [(0, .p (some (x, 0))), (3, .sl os), (16, .p (some (H0.next, 0)))] ∧ LI H0 x t seen os H) :
    DW Try.prog N w0 n11 (.loop (.seq (.region 5 (bo R5).toArray false) (.seq (.cond (.tmp 18) .skip (.exit 0)) (.block 1 (.seq (.region 6 (bo R6).toArray false) (codeAt RR b11)))))) fr H
      fun e fr' H'=>e = .exit 0∧∃ seen os tv,fr' = [(0,.p (some (x,0))),(3,.sl os),(16,.p (some (H0.next,0))),(17,tv),(18,.b false)]∧LI H0 x t seen os H'∧∀ u ∈ t.us,u.born ∈ seen.map (·.born):=by
  obtain ⟨i1,i2,i3,i4⟩:=ht.ids
  refine DW.loop (fun fr H=>∃ seen os,fr = [(0,.p (some (x,0))),(3,.sl os),(16,.p (some (H0.next,0)))]∧LI H0 x t seen os H)
    (fun fr H=>match H.get H0.next with
      | some (.miter _ _ s _)=>t.us.length - s.length
      | _=>0) (fun fr H hI=>?_) fr H h
  obtain ⟨seen,os,rfl,hI⟩:=hI
  have hmx:H.get t.m = some (.map (t.us.map Pk.ent) t.ck):=by
    rw [hI.oth t.m (hw0 _ _ ht.map) (fun u hu=>(i4 u hu).2.1)]; exact ht.map
  have hents:∀ e ∈ t.us.map Pk.ent,e.2.2 < t.ck:=fun e he=>by obtain ⟨u,hu,rfl⟩:=List.mem_map.1 he; exact ht.lt u hu
  have hbn:((t.us.map Pk.ent).map (·.2.2)).Nodup:=by rw [List.map_map]; exact ht.nb
  refine DW.seq (DW.region (DL.cons' (o:=bop R5 0) (rest':=(bo R5).drop 1) (by kernel_rfl) (by kernel_rfl) (by kernel_rfl)
    (DO.next (it:=.tmp 16) (i:=H0.next) (id:=t.m) (since:=t.ck) (stepped:=t.ck) (seen:=seen.map (·.born)) (es:=t.us.map Pk.ent) (clock:=t.ck) (by kernel_rfl) rfl hI.it hmx hents (Nat.le_refl _) (fun hall=>?_) fun e he hns=>?_)))
  · -- all were seen
    refine DL.ev EM_good.ok (q:=(_,_)) (q5 H (some (x,0)) (some (H0.next,0)) os false _ _ (.inl rfl)) ?_
    refine DW.seq (DW.cond (b:=false) rfl (DW.exit ?_))
    exact ⟨rfl,seen,os,_,rfl,hI,fun u hu=>hall u.ent (List.mem_map.2 ⟨u,hu,rfl⟩)⟩
  · obtain ⟨u,hu,rfl⟩:=List.mem_map.1 he
    have hns':u.born ∉ seen.map (·.born):=hns
    obtain ⟨os',H',hI',hK⟩:=hI.step hw0 ht hu hns'
    refine DL.ev EM_good.ok (q:=(_,_)) (q5 _ (some (x,0)) (some (H0.next,0)) os true _ _ (.inr ⟨_,_,rfl⟩)) ?_
    have hmx':(H.put H0.next (.miter (some t.m) t.ck (seen.map (·.born) ++ [u.born]) t.ck)).get t.m = some (.map (t.us.map Pk.ent) t.ck):=by
      have:=hw0 _ _ ht.map
      rw [Heap.get_put,if_neg (by omega)]; exact hmx
    refine DW.seq (DW.cond (b:=true) rfl (DW.skip (DW.block (DW.seq (DW.region (DL.cons' (o:=bop R6 0) (rest':=(bo R6).drop 1) (by kernel_rfl) (by kernel_rfl) (by kernel_rfl)
      (DO.entry (it:=.tmp 16) (i:=H0.next) (id:=t.m) (since:=t.ck) (seen:=seen.map (·.born)) (es:=t.us.map Pk.ent) (clock:=t.ck) (e:=u.ent) (by kernel_rfl) rfl (Heap.gput _ _ _) hmx' he hbn ?_)))))))
    -- the rest, as one equation
    have hst : ∃ H3 i4, (∀ (R : Type) (K : Fr → Heap → Option R), evOps Try.prog EM n11 (bo R6) ((bo R6).drop 1) [(0, .p (some (x, 0))), (3, .sl os), (16, .p (some (H0.next, 0))), (17, .tup [.b true, keyA u.k, .p (some (u.p, 0))]), (18, .b true), (19, .tup [keyA u.k, .p (some (u.p, 0))])] (H.put H0.next (.miter (some t.m) t.ck (seen.map (·.born) ++ [u.born]) t.ck)) K =
        K [(0,.p (some (x,0))),(3,.sl os),(16,.p (some (H0.next,0))),(17,.tup [.b true,keyA u.k,.p (some (u.p,0))]),(18,.b true),(19,.tup [keyA u.k,.p (some (u.p,0))]),(20,keyA u.k),(21,.p (some (u.p,0))),(4,.p (some (i4,0))),(5,.p (some (u.p,0)))] H3) ∧
        ev Try.prog EM loopLim n11 kp11 (codeAt RR b11) [(0,.p (some (x,0))),(3,.sl os),(4,.p (some (i4,0))),(5,.p (some (u.p,0))),(16,.p (some (H0.next,0)))] H3 ret3 = some (.normal,[(0,.p (some (x,0))),(3,.sl os'),(16,.p (some (H0.next,0)))],H'):=by
      obtain ⟨H3,st2⟩:∃ H3,((H.put H0.next (.miter (some t.m) t.ck (seen.map (·.born) ++ [u.born]) t.ck)).new (.cells [(V.i .u16 (0:Int)),(V.i .u32 (0:Int))] 57 false)).sts (H.put H0.next (.miter (some t.m) t.ck (seen.map (·.born) ++ [u.born]) t.ck)).next 0 (encK u.k) = some H3:=⟨_,sts_of (off:=0) (Heap.gnew _ _) (by simp [encK]) rfl⟩
      refine ⟨H3,(H.put H0.next (.miter (some t.m) t.ck (seen.map (·.born) ++ [u.born]) t.ck)).next,fun R K=>?_,?_⟩
      rotate_left
      · rw [q7]
        have:=hK (Ex × Fr × Heap) fun s h=>some (.normal,[(0,.p (some (x,0))),(3,.sl s),(16,.p (some (H0.next,0)))],h)
        simp only [alo] at this
        rw [show [(V.i .u16 u.k.1),(V.i .u32 u.k.2)] = encK u.k from rfl,st2,Option.bind_some] at this
        exact this
      · have:=q6 (H.put H0.next (.miter (some t.m) t.ck (seen.map (·.born) ++ [u.born]) t.ck)) (some (x,0)) (some (H0.next,0)) os (.tup [.b true,keyA u.k,.p (some (u.p,0))]) u.k.1 u.k.2 u.p K
        simp only [alo] at this
        rw [show [(V.i .u16 u.k.1),(V.i .u32 u.k.2)] = encK u.k from rfl,st2,Option.bind_some] at this
        exact this
    obtain ⟨H3,i4,e1,e2⟩:=hst
    refine DL.ev EM_good.ok (q:=(_,_)) (e1 _ _) ?_
    refine DW.keepF (fr2:=[(0,.p (some (x,0))),(3,.sl os),(4,.p (some (i4,0))),(5,.p (some (u.p,0))),(16,.p (some (H0.next,0)))]) (fun t v hv=>?_) (DW.ev EM_good.ok EM_good.lin (by kernel_rfl) lim_ok e2 ?_)
    · exact kf hv
    · refine ⟨⟨seen ++ [u],os',rfl,hI'⟩,?_⟩
      have hl:=hI'.len
      simp only [hI'.it,hI.it,List.length_map,List.length_append,List.length_cons,List.length_nil] at hl ⊢
      omega
/-- nothing waits -/
theorem body_idle {H : Heap} {xv : Option (Nat × Nat)} (h22 : ∀ (R : Type) (K : Bool → Heap → Option R), g22 R xv H K = K false H) :
    DW Try.prog N w0 n11 b11 [(0,.p xv)] H fun e fr' H'=>e = .ret∧fr' = [(2,.sl nilS)]∧H' = H:=by
  rw [bc_eq]
  refine DW.seq (DW.ev EM_good.ok EM_good.lin (by kernel_rfl) lim_ok (kp:=kp11) (q:=(.normal,[(0,.p xv)],H)) (q0 H ret3 xv) ?_)
  refine DW.seq (DW.seq (DW.ev EM_good.ok EM_good.lin (by kernel_rfl) lim_ok (kp:=kp11) (q:=(.normal,[(0,.p xv),(11,.b true)],H)) (by rw [q1,h22]; rfl) ?_))
  refine DW.cond (b:=true) rfl ?_
  exact DW.ev EM_good.ok EM_good.lin (by kernel_rfl) lim_ok (kp:=kp11) (q:=(.ret,[(2,.sl nilS)],H)) (q2 H ret3 xv) ⟨rfl,rfl,rfl⟩
/-- what Tick leaves -/
structure TickOut (H:Heap) (x:Nat) (t:TD) (v:V) (H':Heap):Prop where
  wf:H'.Wf
  nxt:H.next ≤ H'.next
  obj:H'.get x = some (.cells (jc t.w t.m nilS) 64 false)
  map:H'.get t.m = some (.map (t.live.map Pk.ent) t.ck)
  pcs:∀ u ∈ t.us,H'.get u.p = some (.cells u.tick.cells 76 false)
  oth:∀ i,i < H.next→i ≠ x→i ≠ t.m→i ∉ sid t.s→(∀ u ∈ t.us,u.p ≠ i)→H'.get i = H.get i
  res:t.gone = []∧v = .sl nilS ∨ ∃ q,t.gone ≠ []∧v = .sl ⟨some (q,0),t.gone.length,.ex t.gone.length⟩∧H'.get q = some (.cells (ken (sortBy cmpK t.gone)) 57 false)∧(q ∈ sid t.s ∨ H.next ≤ q)
theorem keys_filter {us:List Pk} (hk:(us.map (·.k)).Nodup) (f:Pk→Bool) {u:Pk} (hu:u ∈ us):u.k ∈ (us.filter f).map (·.k) ↔ f u = true:=by
  constructor
  · intro h
    obtain ⟨v,hv,e⟩:=List.mem_map.1 h
    obtain ⟨h1,h2⟩:=List.mem_filter.1 hv
    obtain ⟨i,hi⟩:=List.mem_iff_getElem?.1 hu
    obtain ⟨j,hj⟩:=List.mem_iff_getElem?.1 h1
    have hli:=(List.getElem?_eq_some_iff.1 hi).1
    have:i = j:=(List.getElem?_inj (i:=i) (j:=j) (by simpa using hli) hk).1 (by simp [hi,hj,e])
    subst this
    rw [hi] at hj
    rw [Option.some.inj hj]; exact h2
  · intro h
    exact List.mem_map.2 ⟨u,List.mem_filter.2 ⟨hu,h⟩,rfl⟩
theorem tail_out {H G : Heap} (hw : H.Wf) {x : Nat} {t : TD} (ht : TickIs H x t) {seen : List Pk} {os : Sl} (h : LI H x t seen os G) (hall : ∀ u ∈ t.us, u.born ∈ seen.map (·.born)) :
    ∃ r H',(∀ (R:Type) (K:Sl→Heap→Option R),g11_p6 g23 g24 g25 R (some (x,0)) os G K = K r H')∧TickOut H x t (.sl r) H':=by
  obtain ⟨i1,i2,i3,i4⟩:=ht.ids
  have hxl:=hw _ _ ht.obj
  have hml:=hw _ _ ht.map
  have hsl:∀ i ∈ sid t.s,i < H.next:=by
    intro q hq
    rcases ht.own.inv with ⟨e,_⟩ | ⟨id,n,e,g,_⟩
    · rw [e] at hq; cases hq
    · rw [e] at hq; simp [sid] at hq; subst hq; exact hw _ _ g
  have hperm:seen.Perm t.us:=(List.perm_ext_iff_of_nodup (nodup_of_map h.nd) (nodup_of_map ht.nb)).2 fun u=>⟨h.sub u,fun hu=>by
    obtain ⟨v,hv,e⟩:=List.mem_map.1 (hall u hu)
    rw [inj_born ht.nb hu (h.sub v hv) e.symm]; exact hv⟩
  have hov:((seen.filter Pk.out).map (·.k)).Perm t.dead:=(hperm.filter _).map _
  have hovn:((seen.filter Pk.out).map (·.k)).Nodup:=hov.nodup_iff.2 (ht.nk.sublist (List.Sublist.map _ List.filter_sublist))
  have hgone:(t.ls ++ (seen.filter Pk.out).map (·.k)).Perm t.gone:=hov.append_left _
  have gx:G.get x = some (.cells (jc t.w t.m t.s) 64 false):=by rw [h.oth x hxl (fun u hu=>(i4 u hu).1)]; exact ht.obj
  have gm:G.get t.m = some (.map (t.us.map Pk.ent) t.ck):=by rw [h.oth t.m hml (fun u hu=>(i4 u hu).2.1)]; exact ht.map
  have gs:Own G 57 2 t.s (ken t.ls):=ht.own.mono fun id o ha ho=>by
    rw [h.oth id (hw _ _ ho) (fun u hu e=>(i4 u hu).2.2 (by simp [sid,ha,e]))]; exact ho
  have hdead:=hov.length_eq
  have hfl:=List.length_filter_le Pk.out t.us
  have hsz:=ht.sz
  obtain ⟨r, H', e1, k1, k2, k3, k4, k5, k6⟩ := tail_ok h.wf gx gm gs h.own ht.nk hovn (fun k hk => by
      obtain ⟨u,hu,rfl⟩:=List.mem_map.1 hk
      exact ⟨u,h.sub u (List.mem_filter.1 hu).1,rfl⟩) ht.nd (fun i hi hm=>by
      have:=h.ids i hi
      simp only [List.mem_cons] at hm
      rcases hm with rfl | rfl | hm
      · omega
      · omega
      · have:=hsl i hm; omega) (by
      have:((seen.filter Pk.out).map (·.k)).length = t.dead.length:=hdead
      rw [this]
      have:t.dead.length = (t.us.filter Pk.out).length:=by simp [TD.dead]
      omega) ht.z
  have hnx:=h.nxt
  have hpne:∀ u ∈ t.us,u.p ∉ x :: t.m :: sid t.s:=fun u hu=>by
    obtain ⟨a,b,c⟩:=i4 u hu
    simp only [List.mem_cons,not_or]; exact ⟨a,b,c⟩
  have hlive:(t.us.filter fun v=>decide (v.k ∉ (seen.filter Pk.out).map (·.k))).map Pk.ent = t.live.map Pk.ent:=by
    have e2:(t.us.filter fun v=>decide (v.k ∉ (seen.filter Pk.out).map (·.k))) = t.us.filter fun u=>!u.out:=by
      refine List.filter_congr fun v hv=>?_
      have:=keys_filter ht.nk Pk.out hv
      rw [show (t.us.filter Pk.out).map (·.k) = t.dead from rfl,← hov.mem_iff] at this
      cases hvo:v.out with
      | true=>simp [this.2 hvo]
      | false=>simp only [Bool.not_false,decide_eq_true_eq]; intro hm; rw [this.1 hm] at hvo; cases hvo
    rw [e2,TD.live,List.map_map]
    rfl
  refine ⟨r,H',e1,k3,by omega,k1,by rw [k2,hlive],fun u hu=>?_,fun i hi h1 h2 h3 h4=>?_,?_⟩
  · rw [k5 u.p (h.wf _ _ (h.pcs u hu)) (hpne u hu),h.pcs u hu,if_pos (hall u hu)]
  · rw [k5 i (by omega) (by simp only [List.mem_cons,not_or]; exact ⟨h1,h2,h3⟩),h.oth i hi h4]
  · have hnil:(t.ls ++ (seen.filter Pk.out).map (·.k) = []) ↔ t.gone = []:=⟨fun e=>by rw [e] at hgone; exact hgone.symm.eq_nil,fun e=>by rw [e] at hgone; exact hgone.eq_nil⟩
    rcases k6 with ⟨e0,rfl⟩ | ⟨q,g0,rfl,g1,g2,g3⟩
    · exact .inl ⟨hnil.1 e0,rfl⟩
    · rw [sortBy_eq hgone] at g1
      exact .inr ⟨q,fun e=>g0 (hnil.2 e),by rw [hgone.length_eq],g1,by rcases g3 with g3 | g3; exact .inl g3; exact .inr (by omega)⟩
theorem body_tick {H : Heap} (hw : H.Wf) {x : Nat} {t : TD} (ht : TickIs H x t) (hpos : 0 < t.w) :
    DW Try.prog N w0 n11 b11 [(0,.p (some (x,0)))] H fun e fr' H'=>e = .ret∧∃ r,fr' = [(2,.sl r)]∧TickOut H x t (.sl r) H':=by
  obtain ⟨i1,i2,i3,i4⟩:=ht.ids
  rw [bc_eq]
  refine DW.seq (DW.ev EM_good.ok EM_good.lin (by kernel_rfl) lim_ok (kp:=kp11) (q:=(.normal,[(0,.p (some (x,0)))],H)) (q0 H ret3 _) ?_)
  refine DW.seq (DW.seq (DW.ev EM_good.ok EM_good.lin (by kernel_rfl) lim_ok (kp:=kp11) (q:=(.normal,[(0,.p (some (x,0))),(11,.b false)],H)) (by rw [q1,s22 ht.obj,decide_eq_true hpos]; rfl) ?_))
  refine DW.cond (b:=false) rfl (DW.skip ?_)
  refine DW.seq (DW.ev EM_good.ok EM_good.lin (by kernel_rfl) lim_ok (kp:=kp11) (q:=(.normal,[(0,.p (some (x,0))),(3,.sl nilS)],H)) (q3 H ret3 _ false) ?_)
  refine DW.seq (DW.seq (DW.ev EM_good.ok EM_good.lin (by kernel_rfl) lim_ok (kp:=kp11) (q:=(.normal,[(0,.p (some (x,0))),(3,.sl nilS),(16,.p (some (H.next,0)))],H.new (.miter (some t.m) t.ck [] t.ck))) (by
    rw [q4,(ldJ ht.obj).2.1]
    simp only [Option.bind_some,getMap,ht.map]
    rfl) ?_))
  have li0:LI H x t [] nilS (H.new (.miter (some t.m) t.ck [] t.ck)):=by
    refine ⟨hw.new _,Nat.le_refl _,Heap.gnew _ _,fun u hu=>(by cases hu),List.nodup_nil,fun u hu=>?_,.nil,fun i hi=>(by cases hi),fun i hi _=>?_⟩
    · rw [Heap.get_new,if_neg (by have:=hw _ _ (ht.pcs u hu); omega),if_neg (by simp)]; exact ht.pcs u hu
    · rw [Heap.get_new,if_neg (by omega)]
  refine DW.block ((loop_ok hw ht ⟨[],nilS,rfl,li0⟩).mono fun e fr' H' hp=>?_)
  obtain ⟨rfl,seen,os,tv,rfl,hI,hall⟩:=hp
  simp only [if_true]
  obtain ⟨r,H2,e1,e2⟩:=tail_out hw ht hI hall
  refine DW.keepF (fr2:=[(0,.p (some (x,0))),(3,.sl os)]) (fun t v hv=>?_) (DW.ev2 (lv:=lv11) (kp:=kp11) E11_env.ok E11_env.lin (by kernel_rfl) lim_ok (Nat.le_of_ble_eq_true (by kernel_rfl)) (q:=(.ret,[(2,.sl r)],H2)) (fun t v hv=>?_) ?_ ⟨rfl,r,rfl,e2⟩)
  · by_cases h0:t = 0
    · subst h0; exact hv
    by_cases h3:t = 3
    · subst h3; exact hv
    simp [fget,h0,h3] at hv
  · by_cases h0:t = 0
    · subst h0; exact (by decide:(0:Nat) < 500000)
    by_cases h3:t = 3
    · subst h3; exact (by decide:(3:Nat) < 500000)
    simp [fget,h0,h3] at hv
  · rw [← ev2_rassoc,tail_code,g11_p6_eq g23 g24 g25 g23_lin g24_lin g25_lin,e1]
    rfl
end
theorem outH_next {H:Heap} {x:Nat} {t:TD}:(outH H x t).next = if t.gone = [] then H.next else H.next + 1:=by
  unfold outH
  split
  · exact outH1_next
  · show (outH1 H x t).next + 1 = _
    rw [outH1_next]
theorem outH_get {H : Heap} (hw : H.Wf) {x : Nat} {t : TD} (h : TickIs H x t) : (outH H x t).get x = some (.cells (jc t.w t.m nilS) 64 false) ∧ (outH H x t).get t.m = some (.map (t.live.map Pk.ent) t.ck) ∧ (∀ u ∈ t.us, (outH H x t).get u.p = some (.cells u.tick.cells 76 false)) ∧ (∀ q ∈ sid t.s, (outH H x t).get q = none) ∧
    (∀ i,i < H.next→i ≠ x→i ≠ t.m→i ∉ sid t.s→(∀ u ∈ t.us,u.p ≠ i)→(outH H x t).get i = H.get i)∧(t.gone ≠ []→(outH H x t).get H.next = some (.cells (ken (sortBy cmpK t.gone)) 57 false))∧(∀ i o,(outH H x t).get i = some o→i < H.next ∨ i = H.next∧t.gone ≠ []):=by
  obtain ⟨g1,g2,g3,g4,g5⟩:=outH1_get h hw
  have key:∀ i,i < H.next→(outH H x t).get i = (outH1 H x t).get i:=fun i hi=>by
    unfold outH
    split
    · rfl
    · rw [Heap.get_new,outH1_next,if_neg (by omega)]
  have hxl:=hw _ _ h.obj
  have hml:=hw _ _ h.map
  have hsl:∀ i ∈ sid t.s,i < H.next:=by
    intro q hq
    rcases h.own.inv with ⟨e,_⟩ | ⟨id,n,e,g,_⟩
    · rw [e] at hq; cases hq
    · rw [e] at hq; simp [sid] at hq; subst hq; exact hw _ _ g
  refine ⟨(key _ hxl).trans g1,(key _ hml).trans g2,fun u hu=>(key _ (hw _ _ (h.pcs u hu))).trans (g3 u hu),fun q hq=>(key _ (hsl q hq)).trans (g4 q hq),fun i hi h1 h2 h3 h4=>(key i hi).trans (g5 i h1 h2 h3 h4),fun hg=>?_,fun i o ho=>?_⟩
  · unfold outH
    rw [if_neg hg,Heap.get_new,outH1_next,if_pos rfl]
  · by_cases hi:i < H.next
    · exact .inl hi
    · right
      have hnone:(outH1 H x t).get i = none:=by
        rw [g5 i (by omega) (by omega) (fun hm=>hi (hsl i hm)) (fun u hu=>by have:=hw _ _ (h.pcs u hu); omega)]
        cases hg:H.get i with
        | none=>rfl
        | some o'=>exact absurd (hw _ _ hg) hi
      unfold outH at ho
      split at ho
      · rw [hnone] at ho; cases ho
      · rename_i hg
        rw [Heap.get_new,outH1_next] at ho
        split at ho
        · rename_i e; exact ⟨e,hg⟩
        · rw [hnone] at ho; cases ho
theorem ok11:FunOK Try.prog 11 (w11 g11):=by
  refine .mk (fun args w=>enters_run (by kernel_rfl) args w) (fun R args H K r N w0 w ρ xs hk hr hh=>?_)
  unfold w11 at hk
  split at hk
  rotate_left
  · cases hk
  rename_i xv
  have hw:H.Wf:=fun id o ho=>hh.get_lt ho
  -- nothing waits
  have idle:(∀ (R:Type) (K:Bool→Heap→Option R),g22 R xv H K = K false H)→K (.sl nilS) H = some r→Calls Try.prog 11 xs.toArray w fun e w'=>∃ c,e = .returned c∧∃ v H' ρ',ρ.le ρ'∧Rel ρ' v c∧HR N w0 ρ' H' w'∧K v H' = some r:=fun h22 hkk=>by
    refine (calls_of_DW (P:=Try.prog) Try.func11 (c:=b11) (by kernel_rfl) (args:=[.p xv]) (Φ:=fun v H'=>v = .sl nilS∧H' = H) (Nat.le_of_ble_eq_true (by kernel_rfl)) ((body_idle h22).mono fun e fr' H' ⟨h1,h2,h3⟩=>?_) hr hh).mono fun e w' ⟨c,h1,v,H',ρ',h2,h3,h4,h5,h6⟩=>?_
    · subst h1 h2 h3
      exact ⟨(.sl nilS,H'),by kernel_rfl,rfl,rfl⟩
    · subst h5 h6
      exact ⟨c,h1,_,_,ρ',h2,h3,h4,hkk⟩
  unfold g11 at hk
  split at hk
  · exact idle (fun R K=>s22n K) hk
  · rename_i x
    obtain ⟨wt,hwt,hk⟩:=Option.bind_eq_some_iff.1 hk
    have hwt':H.ldI .i64 x (0 + 0) = some wt:=hwt
    split at hk
    rotate_left
    · rename_i hz
      refine idle (fun R K=>?_) hk
      simp only [g22,g22_r,g22_p0,Option.isNone_some,Bool.not_false,sel_true,Option.bind_some,hwt']
      rw [decide_eq_false (by omega)]
    rename_i hz
    split at hk
    rotate_left
    · cases hk
    rename_i hex
    generalize ht':hex.choose = t at hk
    have ht:TickIs H x t:=ht' ▸ hex.choose_spec
    clear ht' hex
    have htw:0 < t.w:=by
      have:=(ldJ ht.obj).1
      rw [hwt'] at this
      rw [← Option.some.inj this]; exact hz
    obtain ⟨i1,i2,i3,i4⟩:=ht.ids
    have hxl:=hw _ _ ht.obj
    have hml:=hw _ _ ht.map
    refine (calls_of_DW (P:=Try.prog) Try.func11 (c:=b11) (by kernel_rfl) (args:=[.p (some (x,0))]) (Φ:=fun v H'=>TickOut H x t v H') (Nat.le_of_ble_eq_true (by kernel_rfl)) ((body_tick hw ht htw).mono fun e fr' H' ⟨h1,r,h2,h3⟩=>?_) hr hh).mono fun e w' ⟨c,h1,v,H',ρ',h2,h3,h4,ho⟩=>?_
    · subst h1 h2
      exact ⟨(.sl r,H'),by kernel_rfl,h3⟩
    obtain ⟨q1,q2,q3,q4,q5,q6,q7⟩:=outH_get hw ht
    have onx:=outH_next (H:=H) (x:=x) (t:=t)
    -- the name of the list that is given back
    obtain ⟨qo,hqo,hq2,hq3⟩:∃ qo:Option Nat,(t.gone = []→qo = none)∧(∀ q,qo = some q→t.gone ≠ []∧v = .sl ⟨some (q,0),t.gone.length,.ex t.gone.length⟩∧H'.get q = some (.cells (ken (sortBy cmpK t.gone)) 57 false)∧(q ∈ sid t.s ∨ H.next ≤ q))∧(t.gone ≠ []→∃ q,qo = some q):=by
      rcases ho.res with ⟨e,_⟩ | ⟨q,e,hv,hg,hs⟩
      · exact ⟨none,fun _=>rfl,fun q hq=>by (cases hq),fun h=>absurd e h⟩
      · exact ⟨some q,fun h=>absurd h e,fun q' hq=>by cases hq; exact ⟨e,hv,hg,hs⟩,fun _=>⟨q,rfl⟩⟩
    have hqb:∀ q,qo = some q→∃ b,ρ' q = some b∧Rel ρ' (.sl ⟨some (q,0),t.gone.length,.ex t.gone.length⟩) c:=fun q hq=>by
      obtain ⟨e,hv,_,_⟩:=hq2 q hq
      subst hv
      have h3':=h3
      cases h3' with
      | sx _ _ _ _ b a hb _ _=>exact ⟨b,hb,h3⟩
    have f0:∀ id,id < H.next→(fun id=>if id < H.next then some id else if id = H.next then qo else none) id = some id:=fun id hi=>by simp [hi]
    have hnm:∀ u ∈ t.us,u.p < H.next:=fun u hu=>hw _ _ (ht.pcs u hu)
    obtain ⟨hc, hcl⟩ := HR.canon hh h2 h4 (Hc := outH H x t) (fun id => if id < H.next then some id else if id = H.next then qo else none) (by rw [onx]; split <;> omega) f0 (fun id hid => by
        rw [onx] at hid
        by_cases hg:t.gone = []
        · rw [if_pos hg] at hid
          rw [if_neg (by omega),hqo hg]; simp
        · rw [if_neg hg] at hid
          rw [if_neg (by omega),if_neg (by omega)]) (fun id id' hid he=>by
        rw [if_neg (by omega)] at he
        split at he
        · obtain ⟨b,hb,_⟩:=hqb _ he; exact ⟨b,hb⟩
        · cases he) (fun id o hid=>by
        rcases q7 id o hid with hlt | ⟨rfl,hg⟩
        · refine ⟨id,f0 id hlt,?_⟩
          by_cases e1:id = x
          · subst e1
            rw [q1] at hid; cases hid
            refine ⟨ho.obj,?_⟩
            rcases hh.known ht.obj with hres | hkn
            · exact .inl hres
            · right
              intro u hu
              simp only [O.vals,jc,List.mem_cons,List.not_mem_nil,or_false] at hu
              rcases hu with rfl | rfl | rfl
              · exact ⟨_,.i _ _⟩
              · exact hkn _ (by simp [O.vals,jc])
              · exact ⟨_,.sn⟩
          by_cases e2:id = t.m
          · subst e2
            rw [q2] at hid; cases hid
            refine ⟨ho.map,?_⟩
            rcases hh.known ht.map with hres | hkn
            · exact .inl hres
            · right
              intro u hu
              refine hkn u ?_
              simp only [O.vals,List.mem_flatMap,List.mem_map,TD.live] at hu ⊢
              obtain ⟨e,⟨u1,⟨u2,h5,rfl⟩,rfl⟩,h6⟩:=hu
              exact ⟨u2.ent,⟨u2,(List.mem_filter.1 h5).1,rfl⟩,h6⟩
          by_cases e3:id ∈ sid t.s
          · rw [q4 id e3] at hid; cases hid
          by_cases e4:∃ u ∈ t.us,u.p = id
          · obtain ⟨u,hu,rfl⟩:=e4
            rw [q3 u hu] at hid; cases hid
            refine ⟨ho.pcs u hu,?_⟩
            rcases hh.known (ht.pcs u hu) with hres | hkn
            · exact .inl hres
            · right
              intro v hv
              simp only [O.vals,Pk.cells,List.mem_cons,List.not_mem_nil,or_false] at hv
              rcases hv with rfl | rfl | rfl
              · exact hkn _ (by simp [O.vals,Pk.cells,Pk.tick])
              · exact ⟨_,.i _ _⟩
              · exact ⟨_,.i _ _⟩
          · have e5:∀ u ∈ t.us,u.p ≠ id:=fun u hu e=>e4 ⟨u,hu,e⟩
            rw [q5 id hlt e1 e2 e3 e5] at hid
            exact ⟨by rw [ho.oth id hlt e1 e2 e3 e5]; exact hid,hh.known hid⟩
        · rw [q6 hg] at hid
          cases hid
          obtain ⟨q,hq⟩:=hq3 hg
          obtain ⟨_,_,hgq,_⟩:=hq2 q hq
          refine ⟨q,by simp [hq],hgq,.inr fun v hv=>?_⟩
          simp only [O.vals] at hv
          obtain ⟨l,hl,hv⟩:=List.mem_flatten.1 hv
          obtain ⟨k,_,rfl⟩:=List.mem_map.1 hl
          simp only [encK,List.mem_cons,List.not_mem_nil,or_false] at hv
          rcases hv with rfl | rfl
          · exact ⟨_,.i _ _⟩
          · exact ⟨_,.i _ _⟩) (fun i j i' oi oj hi hj hoi hoj=>by
        have aux:∀ a b oa ob,a < H.next→b = H.next→(if a < H.next then some a else if a = H.next then qo else none) = some i'→(if b < H.next then some b else if b = H.next then qo else none) = some i'→(outH H x t).get a = some oa→(outH H x t).get b = some ob→False:=by
          intro a b oa ob h1 h2 h3 h4 h5 h6
          rw [if_pos h1] at h3
          rw [if_neg (by omega),if_pos h2] at h4
          cases h3
          obtain ⟨_,_,_,hs⟩:=hq2 _ h4
          rcases hs with hs | hs
          · rw [q4 _ hs] at h5; cases h5
          · omega
        rcases q7 i oi hoi with h1 | ⟨h1,_⟩ <;> rcases q7 j oj hoj with h2 | ⟨h2,_⟩
        · rw [if_pos h1] at hi; rw [if_pos h2] at hj
          rw [← hi] at hj; exact (Option.some.inj hj).symm
        · exact (aux i j oi oj h1 h2 hi hj hoi hoj).elim
        · exact (aux j i oj oi h2 h1 hj hi hoj hoi).elim
        · omega)
    refine ⟨c,h1,.sl (outS H t),outH H x t,_,hcl,?_,hc,hk⟩
    unfold outS
    by_cases hg:t.gone = []
    · rw [if_pos hg]
      rcases ho.res with ⟨_,hv⟩ | ⟨q,e,_⟩
      · subst hv
        cases h3 with
        | sn=>exact .sn
      · exact absurd hg e
    · rw [if_neg hg]
      obtain ⟨q,hq⟩:=hq3 hg
      obtain ⟨b,hb,hrel⟩:=hqb q hq
      cases hrel with
      | sx _ _ _ _ b' a hb' h5 h6 =>
        refine .sx _ _ _ _ b' a ?_ h5 h6
        simp only [Nat.lt_irrefl,if_false,if_true,hq,Option.bind_some]
        exact hb'
  · cases hk
end Go.Proofs.Ytobebcfkddimkaa

