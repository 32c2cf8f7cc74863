/- SegmentsActs: step. -/
import Derived.Test.YtobebcfkddimkaaSXW
namespace Go.Proofs.Ytobebcfkddimkaa
open Go AM Go.RowKit Go.Sort
set_option linter.unusedVariables false
set_option linter.unusedSimpArgs false

theorem bsU_app (a b:List Int):bsU (u8s a) ++ bsU (u8s b) = bsU (u8s (a ++ b)):=by
  apply ByteArray.ext
  rw [ByteArray.data_append]
  simp [bsU,u8s]
theorem rmK_erase {k:Ky}:∀ {M:List Ab} {j:Nat} {a:Ab},(M.map (·.k)).Nodup→M[j]? = some a→a.k = k→M.eraseIdx j = rmK M k:=by
  intro M
  induction M with
  | nil=>intro j a _ h; simp at h
  | cons x M ih =>
    intro j a hn h hk
    simp only [List.map_cons,List.nodup_cons] at hn
    cases j with
    | zero =>
      simp at h; subst h
      have hno:∀ c ∈ M,c.k ≠ k:=fun c hc e=>hn.1 (List.mem_map.2 ⟨c,hc,by rw [e,hk]⟩)
      unfold rmK
      rw [List.eraseIdx_cons_zero,List.filter_cons,if_neg (by simpa using hk)]
      exact (rmK_none hno).symm
    | succ j =>
      have hj:M[j]? = some a:=by simpa using h
      have hx:x.k ≠ k:=fun e=>hn.1 (List.mem_map.2 ⟨a,List.mem_of_getElem? hj,by rw [e,hk]⟩)
      unfold rmK
      rw [List.eraseIdx_cons_succ,List.filter_cons,if_pos (by simpa using hx),ih hn.2 hj hk]
      rfl
section
variable {H:Heap} {t8 t9:Sl} {M:List Ab} {L:List Ky} {k:Ky} {u:Sg} {s:Sl} {w:Int}
theorem ro_at (h:RO H 55 5 t8 (mcs M)) {j:Nat} {a:Ab} (hj:M[j]? = some a):Own H 55 5 t8 (mcs M)∧∃ id,t8.a = some (id,0)∧H.get id = some (.cells (mcs M) 55 false):=by
  rcases h with h | ⟨e,_⟩
  · refine ⟨h,?_⟩
    rcases h.inv with ⟨_,e⟩ | ⟨id,n,rfl,g,_⟩
    · have:=congrArg List.length e
      rw [mcs_len,List.length_nil] at this
      have:=(List.getElem?_eq_some_iff.1 hj).1; omega
    · exact ⟨id,rfl,g⟩
  · have:=congrArg List.length e
    rw [mcs_len,List.length_nil] at this
    have:=(List.getElem?_eq_some_iff.1 hj).1; omega
/-- the entry of a key -/
theorem s16_at (h : RO H 55 5 t8 (mcs M)) (hn : (M.map (·.k)).Nodup) (hk : k.2 = u.r) (hM : M.length ≤ 100000) : ∃ at_ : Int, (at_ = -1 ∧ (M.find? fun a => decide (a.k = k)) = none ∨ ∃ (j : Nat) (a : Ab), at_ = j ∧ M[j]? = some a ∧ a.k = k ∧ (M.find? fun a => decide (a.k = k)) = some a) ∧
    ∀ (R:Type) (K),g16_p3 R t8 t9 k.1 w (-1) 0 u.r u.f u.l s H K = K t8 t9 k.1 w at_ u.r u.f u.l s H:=by
  have hl:t8.len = M.length:=by have:=h.len; rw [mcs_len] at this; omega
  obtain ⟨rr,G,e,at_,rfl,hG,hat⟩:=tlim_inv (b:=g16_p2_b)
    (fun st G=>∃ (i:Nat) (at_:Int),st = (t8,t9,k.1,w,at_,(i:Int),u.r,u.f,u.l,s)∧G = H∧i ≤ M.length∧(at_ = -1∧(∀ (j:Nat) (a:Ab),j < i→M[j]? = some a→a.k ≠ k) ∨ ∃ (j:Nat) (a:Ab),at_ = j∧M[j]? = some a∧a.k = k))
    (fun st=>M.length - st.2.2.2.2.2.1.toNat)
    (fun r G=>∃ at_:Int,r = (t8,t9,k.1,w,at_,u.r,u.f,u.l,s)∧G = H∧(at_ = -1∧(∀ a ∈ M,a.k ≠ k) ∨ ∃ (j:Nat) (a:Ab),at_ = j∧M[j]? = some a∧a.k = k)) (by
      rintro st G ⟨i,at_,rfl,rfl,hi,hat⟩
      by_cases hlt:i < M.length
      · left
        have ha:M[i]? = some M[i]:=List.getElem?_eq_getElem hlt
        generalize M[i] = a at ha
        obtain ⟨_,id,hid,hg⟩:=ro_at h ha
        have ci:0 ≤ (i:Int)∧(i:Int) < ((t8.len:Nat):Int):=by omega
        have wi:IntKind.wrap .i64 ((i:Int) + 1) = ((i + 1:Nat):Int):=by rw [w64 (by omega)]; rfl
        have l0:G.ldI .u16 id (0 + i * 5 + 0) = some a.k.1:=ldI_of hg (by rw [Nat.zero_add]; exact mcs_get ha (by omega))
        have l1:G.ldI .u32 id (0 + i * 5 + 1) = some a.k.2:=ldI_of hg (by rw [Nat.zero_add]; exact mcs_get ha (by omega))
        have hpre:∀ {A:Type} (kN) (kE),g16_p1 A t8 t9 k.1 w at_ (i:Int) u.r u.f u.l s G kN kE = if a.k = k then kN t8 t9 k.1 w (i:Int) ((i + 1:Nat):Int) u.r u.f u.l s G else kN t8 t9 k.1 w at_ ((i + 1:Nat):Int) u.r u.f u.l s G:=by
          intro A kN kE
          unfold g16_p1
          rw [show decide ((i:Int) < ((t8.len:Nat):Int)) = true by simp; omega,sel_true]
          simp only [if_pos ci,hid,Option.bind_some,Int.toNat_natCast,l0,l1,selE,wi]
          by_cases e1:a.k.1 = k.1
          · rw [if_pos e1]
            by_cases e2:a.k.2 = u.r
            · rw [if_pos e2,if_pos (Prod.ext e1 (e2.trans hk.symm))]
            · rw [if_neg e2,if_neg (fun e=>e2 (by rw [e,hk]))]
          · rw [if_neg e1,if_neg (fun e=>e1 (by rw [e]))]
        by_cases hak:a.k = k
        · refine ⟨(t8,t9,k.1,w,(i:Int),((i + 1:Nat):Int),u.r,u.f,u.l,s),G,?_,⟨i + 1,(i:Int),rfl,rfl,by omega,.inr ⟨i,a,rfl,ha,hak⟩⟩,by dsimp only; omega⟩
          simp only [g16_p2_b,hpre,if_pos hak]
        · refine ⟨(t8,t9,k.1,w,at_,((i + 1:Nat):Int),u.r,u.f,u.l,s),G,?_,⟨i + 1,at_,rfl,rfl,by omega,?_⟩,by dsimp only; omega⟩
          · simp only [g16_p2_b,hpre,if_neg hak]
          · rcases hat with ⟨h1,h2⟩ | h1
            · refine .inl ⟨h1,fun j b hj hb=>?_⟩
              by_cases e:j = i
              · subst e; rw [ha] at hb; cases hb; exact hak
              · exact h2 j b (by omega) hb
            · exact .inr h1
      · right
        refine ⟨(t8,t9,k.1,w,at_,u.r,u.f,u.l,s),G,?_,at_,rfl,rfl,?_⟩
        · simp only [g16_p2_b,g16_p1]
          rw [show decide ((i:Int) < ((t8.len:Nat):Int)) = false by simp; omega,sel_false]
        · rcases hat with ⟨h1,h2⟩ | h1
          · refine .inl ⟨h1,fun b hb=>?_⟩
            obtain ⟨j,hj⟩:=List.mem_iff_getElem?.1 hb
            exact h2 j b (by have:=(List.getElem?_eq_some_iff.1 hj).1; omega) hj
          · exact .inr h1) (t8,t9,k.1,w,-1,0,u.r,u.f,u.l,s) H ⟨0,-1,rfl,rfl,Nat.zero_le _,.inl ⟨rfl,fun j a hj=>by omega⟩⟩
  rw [hG] at e
  refine ⟨at_,?_,fun R K=>?_⟩
  · rcases hat with ⟨h1,h2⟩ | ⟨j,a,h1,h2,h3⟩
    · exact .inl ⟨h1,List.find?_eq_none.2 fun a ha=>by simpa using h2 a ha⟩
    · refine .inr ⟨j,a,h1,h2,h3,?_⟩
      cases hf:M.find? (fun a=>decide (a.k = k)) with
      | none=>exact absurd (List.find?_eq_none.1 hf a (List.mem_of_getElem? h2)) (by simpa using h3)
      | some b =>
        have hb:=List.mem_of_find?_eq_some hf
        have hbk:b.k = k:=by simpa using List.find?_some hf
        obtain ⟨i,hi⟩:=List.mem_iff_getElem?.1 hb
        have hli:=(List.getElem?_eq_some_iff.1 hi).1
        have:i = j:=(List.getElem?_inj (i:=i) (j:=j) (by simpa using hli) hn).1 (by simp [hi,h2,hbk,h3])
        subst this
        rw [hi] at h2; exact h2
  · simp only [g16_p3,g16_p2]
    rw [e]
    rfl
/-- what the entry's place gives: the model and the lost ones, whether the segment fits, the bytes -/
def mmid (M:List Ab) (L:List Ky) (k:Ky) (u:Sg):List Ab × List Ky × Bool × List Int :=
  match M.find? fun a=>decide (a.k = k) with
  | none=>(M,L,false,u.d)
  | some a=>if u.f = false∧a.nx = u.l then (rmK M k,L,true,a.d ++ u.d) else (rmK M k,L ++ [k],false,u.d)
/-- the state of the law's own lists -/
structure Two (H:Heap) (t8 t9:Sl) (M:List Ab) (L:List Ky):Prop where
  wf:H.Wf
  m:RO H 55 5 t8 (mcs M)
  l:Own H 57 2 t9 (ken L)
  dis:∀ q ∈ sid t8,q ∉ sid t9
structure Moved (H H':Heap) (t8 t9 t8' t9':Sl):Prop where
  fr:Fr' (fun i=>i ∈ sid t8 ∨ i ∈ sid t9) H H'
  m:∀ q ∈ sid t8',q ∈ sid t8 ∨ H.next ≤ q
  l:∀ q ∈ sid t9',q ∈ sid t9 ∨ H.next ≤ q
theorem p_obj (H:Heap) (a:Ab):((H.new (.cells [(V.i .u16 (0:Int)),(V.i .u32 (0:Int)),(V.s str0),(V.i .i64 (0:Int)),(V.i .i64 (0:Int))] 55 false)).sts H.next 0 (mc a)) = some ((H.new (.cells [(V.i .u16 (0:Int)),(V.i .u32 (0:Int)),(V.s str0),(V.i .i64 (0:Int)),(V.i .i64 (0:Int))] 55 false)).put H.next (.cells (mc a) 55 false)):=by
  rw [sts_of (Heap.gnew _ _) (by simp [mc]) rfl]
  rfl
theorem p4_ok (h : Two H t8 t9 M L) (hn : (M.map (·.k)).Nodup) (hk : k.2 = u.r) (hM : M.length ≤ 10000) (hL : L.length ≤ 10000) (hs : BS H s u.d) (hu : 0 ≤ u.l ∧ u.l ≤ 255) (hd : ∀ a ∈ M, a.d.length ≤ 1000000) (hud : u.d.length ≤ 1000) {at_ : Int}
    (hat:at_ = -1∧(M.find? fun a=>decide (a.k = k)) = none ∨ ∃ (j:Nat) (a:Ab),at_ = j∧M[j]? = some a∧a.k = k∧(M.find? fun a=>decide (a.k = k)) = some a) :
    ∃ t8' t9' H' i,(∀ (R:Type) (K),g16_p4 R t8 t9 k.1 w at_ u.r u.f u.l s H K = K t8' t9' (mmid M L k u).2.2.1 i 0 u.r u.f u.l s H')∧Two H' t8' t9' (mmid M L k u).1 (mmid M L k u).2.1∧Moved H H' t8 t9 t8' t9'∧H'.get i = some (.cells (mc ⟨k,(mmid M L k u).2.2.2,u.l - 1,w⟩) 55 false)∧i ∉ sid t8'∧i ∉ sid t9':=by
  have wl:IntKind.wrap .i64 ((IntKind.wrap .i64 u.l) - 1) = u.l - 1:=by rw [w64 (n:=u.l) (by omega),w64 (by omega)]
  have wl0:IntKind.wrap .i64 u.l = u.l:=w64 (by omega)
  have po:=p_obj H ⟨k,u.d,u.l - 1,w⟩
  have w1:=h.wf.new (.cells [(V.i .u16 (0:Int)),(V.i .u32 (0:Int)),(V.s str0),(V.i .i64 (0:Int)),(V.i .i64 (0:Int))] 55 false)
  have x1:=Ext.new H (.cells [(V.i .u16 (0:Int)),(V.i .u32 (0:Int)),(V.s str0),(V.i .i64 (0:Int)),(V.i .i64 (0:Int))] 55 false)
  have w2:=w1.put (Heap.gnew _ _) (.cells (mc ⟨k,u.d,u.l - 1,w⟩) 55 false)
  have g2:=Heap.gput (H.new (.cells [(V.i .u16 (0:Int)),(V.i .u32 (0:Int)),(V.s str0),(V.i .i64 (0:Int)),(V.i .i64 (0:Int))] 55 false)) H.next (.cells (mc ⟨k,u.d,u.l - 1,w⟩) 55 false)
  have x2:Ext H ((H.new (.cells [(V.i .u16 (0:Int)),(V.i .u32 (0:Int)),(V.s str0),(V.i .i64 (0:Int)),(V.i .i64 (0:Int))] 55 false)).put H.next (.cells (mc ⟨k,u.d,u.l - 1,w⟩) 55 false)):=x1.above (Nat.le_refl _) _
  have n2:((H.new (.cells [(V.i .u16 (0:Int)),(V.i .u32 (0:Int)),(V.s str0),(V.i .i64 (0:Int)),(V.i .i64 (0:Int))] 55 false)).put H.next (.cells (mc ⟨k,u.d,u.l - 1,w⟩) 55 false)).next = H.next + 1:=rfl
  have hmc:∀ d,[(V.i .u16 k.1),(V.i .u32 u.r),(V.s (bsU (u8s d))),(V.i .i64 (u.l - 1)),(V.i .i64 w)] = mc ⟨k,d,u.l - 1,w⟩:=fun d=>by rw [← hk]; rfl
  generalize (H.new (.cells [(V.i .u16 (0:Int)),(V.i .u32 (0:Int)),(V.s str0),(V.i .i64 (0:Int)),(V.i .i64 (0:Int))] 55 false)).put H.next (.cells (mc ⟨k,u.d,u.l - 1,w⟩) 55 false) = H2 at *
  have t2:Two H2 t8 t9 M L:=⟨w2,h.m.mono (by omega) fun id o _ ho=>x2.get h.wf ho,h.l.mono fun id o _ ho=>x2.get h.wf ho,h.dis⟩
  have s8lt:∀ q ∈ sid t8,q < H.next:=fun q hq=>h.m.sidlt h.wf hq
  have s9lt:∀ q ∈ sid t9,q < H.next:=fun q hq=>h.wf _ _ (h.l.sidg hq).2
  rcases hat with ⟨rfl,hf⟩ | ⟨j,a,rfl,hj,hak,hf⟩
  · have em:mmid M L k u = (M,L,false,u.d):=by unfold mmid; rw [hf]
    rw [em]
    refine ⟨t8,t9,H2,H.next,fun R K=>?_,t2,⟨x2.fr,fun q hq=>.inl hq,fun q hq=>.inl hq⟩,g2,fun hq=>Nat.lt_irrefl _ (s8lt _ hq),fun hq=>Nat.lt_irrefl _ (s9lt _ hq)⟩
    unfold g16_p4
    rw [show decide ((-1:Int) ≥ 0) = false from rfl,sel_false,slB hs,Option.bind_some]
    simp only [alo]
    rw [wl,hmc,po,Option.bind_some,sel_false]
  · have hjl:=(List.getElem?_eq_some_iff.1 hj).1
    obtain ⟨hown,id,hid,hg⟩:=ro_at h.m hj
    have hl:t8.len = M.length:=by have:=h.m.len; rw [mcs_len] at this; omega
    have cj:0 ≤ (j:Int)∧(j:Int) < ((t8.len:Nat):Int):=by omega
    have ge:decide ((j:Int) ≥ 0) = true:=by simp
    have her:M.eraseIdx j = rmK M k:=rmK_erase hn hj hak
    -- the note and the removal, from H2
    have both : ∃ t8' t9' H', (∀ (R : Type) (K : Sl → Sl → Heap → Option R), (alo H2 (.cells [(V.i .u16 k.1), (V.i .u32 u.r)] 57 false) fun i242 h243 =>
            ((slCells h243 2 (Sl.mk (some (i242,0)) 1 (.ex 1)))).bind fun vs246 =>
            appendV h243 57 2 8 t9 (Sl.mk (some (i242,0)) 1 (.ex 1)).len vs246 fun s244 h245 =>
            alo h245 (.cells [] 55 false) fun i247 h248 =>
            slOf 5 t8 none (some (j:Int)) none fun s249 =>
            ((slCells h248 5 s249)).bind fun vs252 =>
            appendV h248 55 5 40 (Sl.mk (some (i247,0)) 0 (.ex 0)) s249.len vs252 fun s250 h251 =>
            slOf 5 t8 (some (IntKind.wrap .i64 ((j:Int) + (1:Int)))) none none fun s253 =>
            ((slCells h251 5 s253)).bind fun vs256 =>
            appendV h251 55 5 40 s250 s253.len vs256 fun s254 h255=>K s254 s244 h255) = K t8' t9' H')∧Two H' t8' t9' (rmK M k) (L ++ [k])∧Moved H H' t8 t9 t8' t9'∧H'.get H.next = some (.cells (mc ⟨k,u.d,u.l - 1,w⟩) 55 false)∧H.next ∉ sid t8'∧H.next ∉ sid t9':=by
      obtain ⟨r1,H3,e3,o3,f3,w3,n3⟩:=note_ok t2.wf t2.l k (by omega)
      have hown3:Own H3 55 5 t8 (mcs M):=hown.mono fun id o ha ho=>by
        have hq:=sid_of ha
        have hlt:=s8lt _ hq
        exact (f3.same id (by omega) (h.dis _ hq)).trans (x2.get h.wf ho)
      obtain ⟨r2,H4,e4,o4,f4,w4,n4⟩:=rm_ok w3 hown3 hjl (by omega)
      have own1:Own H4 57 2 r1 (ken (L ++ [k])):=o3.mono fun id o _ ho=>f4.get w3 ho
      have n23:=f3.next
      refine ⟨r2,r1,H4,fun R K=>?_,⟨w4,by rw [← her]; exact o4,own1,fun q hq hq'=>?_⟩,⟨⟨by have:=f4.next; omega,fun i hi hni=>?_⟩,fun q hq=>.inr ?_,fun q hq=>.inr ?_⟩,?_,fun hq=>?_,fun hq=>?_⟩
      · have := e3 R fun s244 h245 => alo h245 (.cells [] 55 false) fun i247 h248 =>
            slOf 5 t8 none (some (j:Int)) none fun s249 =>
            ((slCells h248 5 s249)).bind fun vs252 =>
            appendV h248 55 5 40 (Sl.mk (some (i247,0)) 0 (.ex 0)) s249.len vs252 fun s250 h251 =>
            slOf 5 t8 (some (IntKind.wrap .i64 ((j:Int) + (1:Int)))) none none fun s253 =>
            ((slCells h251 5 s253)).bind fun vs256 =>
            appendV h251 55 5 40 s250 s253.len vs256 fun s254 h255=>K s254 s244 h255
        rw [hk] at this
        exact this.trans (e4 R _)
      · have h1:=n4 q hq
        have h2:=w3 _ _ (o3.sidg hq').2
        omega
      · have hi2:i < H2.next:=by omega
        rw [f4.same i (by omega) (fun h=>h),f3.same i hi2 (fun h=>hni (.inr h)),x2.same i hi (fun h=>h)]
      · have:=n4 q hq; omega
      · have:=n3 q hq; omega
      · rw [f4.same _ (by omega) (fun h=>h),f3.same _ (by omega) (fun h=>Nat.lt_irrefl _ (s9lt _ h))]; exact g2
      · have:=n4 _ hq; omega
      · have:=n3 _ hq; omega
    obtain ⟨t8',t9',H',eb,tb,mb,gb,ib8,ib9⟩:=both
    cases hff:u.f with
    | true =>
      have em:mmid M L k u = (rmK M k,L ++ [k],false,u.d):=by unfold mmid; rw [hf]; simp only [hff]; rfl
      rw [em]
      refine ⟨t8',t9',H',H.next,fun R K=>?_,tb,mb,gb,ib8,ib9⟩
      unfold g16_p4
      rw [ge,sel_true,Bool.not_true,sel_false,slB hs,Option.bind_some]
      simp only [alo]
      rw [wl,hmc,po,Option.bind_some,sel_true]
      exact eb R fun a b c=>K a b false H.next 0 u.r true u.l s c
    | false =>
      have l3:H.ldI .i64 id (0 + j * 5 + 3) = some a.nx:=ldI_of hg (by rw [Nat.zero_add]; exact mcs_get hj (by omega))
      have hpre : ∀ (R : Type) (K), g16_p4 R t8 t9 k.1 w (j : Int) u.r false u.l s H K = sel (a.nx == u.l) (
            if 0 ≤ (j:Int)∧(j:Int) < ((t8.len:Nat):Int) then (
              (t8.a).bind fun q226 =>
              ((H2).ldS q226.1 ((q226.2 + Int.toNat (j:Int) * 5) + 2)).bind fun x227 =>
              ((H2).ldS H.next (0 + 2)).bind fun x228 =>
              catS x227 x228 fun z229 =>
              ((H2).st H.next (0 + 2) (V.s z229)).bind fun h231 =>
              alo h231 (.cells [] 55 false) fun i232 h233 =>
              slOf 5 t8 none (some (j:Int)) none fun s234 =>
              ((slCells h233 5 s234)).bind fun vs237 =>
              appendV h233 55 5 40 (Sl.mk (some (i232,0)) 0 (.ex 0)) s234.len vs237 fun s235 h236 =>
              slOf 5 t8 (some (IntKind.wrap .i64 ((j:Int) + (1:Int)))) none none fun s238 =>
              ((slCells h236 5 s238)).bind fun vs241 =>
              appendV h236 55 5 40 s235 s238.len vs241 fun s239 h240 =>
              K s239 t9 (a.nx == u.l) H.next 0 u.r false u.l s h240)
            else (
              none)) (
            alo H2 (.cells [(V.i .u16 k.1),(V.i .u32 u.r)] 57 false) fun i242 h243 =>
            ((slCells h243 2 (Sl.mk (some (i242,0)) 1 (.ex 1)))).bind fun vs246 =>
            appendV h243 57 2 8 t9 (Sl.mk (some (i242,0)) 1 (.ex 1)).len vs246 fun s244 h245 =>
            alo h245 (.cells [] 55 false) fun i247 h248 =>
            slOf 5 t8 none (some (j:Int)) none fun s249 =>
            ((slCells h248 5 s249)).bind fun vs252 =>
            appendV h248 55 5 40 (Sl.mk (some (i247,0)) 0 (.ex 0)) s249.len vs252 fun s250 h251 =>
            slOf 5 t8 (some (IntKind.wrap .i64 ((j:Int) + (1:Int)))) none none fun s253 =>
            ((slCells h251 5 s253)).bind fun vs256 =>
            appendV h251 55 5 40 s250 s253.len vs256 fun s254 h255 =>
            K s254 s244 (a.nx == u.l) H.next 0 u.r false u.l s h255):=fun R K=>by
        unfold g16_p4
        rw [ge,sel_true,Bool.not_false,sel_true,if_pos cj,hid,Option.bind_some,Int.toNat_natCast,l3,Option.bind_some,slB hs,Option.bind_some]
        simp only [alo]
        rw [wl,hmc,po,Option.bind_some,sel_true,wl0]
      by_cases hnx:a.nx = u.l
      · have em:mmid M L k u = (rmK M k,L,true,a.d ++ u.d):=by unfold mmid; rw [hf]; simp only [hff,hnx,and_self,if_true]
        rw [em]
        have hg2:=x2.get h.wf hg
        have l4:H2.ldS id (0 + j * 5 + 2) = some (bsU (u8s a.d)):=ldS_of hg2 (by rw [Nat.zero_add]; exact mcs_get hj (by omega))
        have l5:H2.ldS H.next (0 + 2) = some (bsU (u8s u.d)):=ldS_of g2 rfl
        have hda:=hd a (List.mem_of_getElem? hj)
        have hcat:∀ (R:Type) (K:ByteArray→Option R),catS (bsU (u8s a.d)) (bsU (u8s u.d)) K = K (bsU (u8s (a.d ++ u.d))):=fun R K=>by
          unfold catS
          rw [if_pos (by rw [bsU_size,bsU_size]; omega),bsU_app]
        have s5:=st_of (off:=0 + 2) (v:=.s (bsU (u8s (a.d ++ u.d)))) g2 (by simp [mc]) rfl
        rw [show (mc ⟨k,u.d,u.l - 1,w⟩).set (0 + 2) (.s (bsU (u8s (a.d ++ u.d)))) = mc ⟨k,a.d ++ u.d,u.l - 1,w⟩ from rfl] at s5
        have w5:=w2.put g2 (.cells (mc ⟨k,a.d ++ u.d,u.l - 1,w⟩) 55 false)
        have g5:=Heap.gput H2 H.next (.cells (mc ⟨k,a.d ++ u.d,u.l - 1,w⟩) 55 false)
        have x5:Ext H (H2.put H.next (.cells (mc ⟨k,a.d ++ u.d,u.l - 1,w⟩) 55 false)):=x2.above (Nat.le_refl _) _
        have n5:(H2.put H.next (.cells (mc ⟨k,a.d ++ u.d,u.l - 1,w⟩) 55 false)).next = H.next + 1:=n2
        generalize H2.put H.next (.cells (mc ⟨k,a.d ++ u.d,u.l - 1,w⟩) 55 false) = H5 at *
        have hown5:Own H5 55 5 t8 (mcs M):=hown.mono fun id o _ ho=>x5.get h.wf ho
        obtain ⟨r2,H6,e6,o6,f6,w6,n6⟩:=rm_ok w5 hown5 hjl (by omega)
        refine ⟨r2,t9,H6,H.next,fun R K=>?_,⟨w6,by rw [← her]; exact o6,h.l.mono fun id o _ ho=>f6.get w5 (x5.get h.wf ho),fun q hq hq'=>?_⟩,⟨Ext.fr (x5.trans f6),fun q hq=>.inr ?_,fun q hq=>.inl hq⟩,f6.get w5 g5,fun hq=>?_,fun hq=>Nat.lt_irrefl _ (s9lt _ hq)⟩
        · rw [hpre,show (a.nx == u.l) = true by simpa using hnx,sel_true,if_pos cj,hid,Option.bind_some,Int.toNat_natCast,l4,Option.bind_some,l5,Option.bind_some,hcat,s5,Option.bind_some]
          exact e6 R _
        · have:=n6 q hq; have:=s9lt _ hq'; omega
        · have:=n6 q hq; omega
        · have:=n6 _ hq; omega
      · have em:mmid M L k u = (rmK M k,L ++ [k],false,u.d):=by unfold mmid; rw [hf]; simp only [hff,hnx,and_false,if_false]
        rw [em]
        refine ⟨t8',t9',H',H.next,fun R K=>?_,tb,mb,gb,ib8,ib9⟩
        rw [hpre,show (a.nx == u.l) = false by simpa using hnx,sel_false]
        exact eb R fun a b c=>K a b false H.next 0 u.r false u.l s c
theorem s16 (h : Two H t8 t9 M L) (hn : (M.map (·.k)).Nodup) (hk : k.2 = u.r) (hM : M.length ≤ 10000) (hL : L.length ≤ 10000) (hs : BS H s u.d) (hu : 0 ≤ u.l ∧ u.l ≤ 255) (hd : ∀ a ∈ M, a.d.length ≤ 1000000) :
    ∃ t8' t9' H',(∀ (R:Type) (K:Sl→Sl→ByteArray→Bool→Int→Heap→Option R),g16 R t8 t9 k.1 u.r u.f u.l s w H K = K t8' t9' (bsU (u8s (mstep w M L k u).2.2.got)) (mstep w M L k u).2.2.done (mstep w M L k u).2.2.err H')∧Two H' t8' t9' (mstep w M L k u).1 (mstep w M L k u).2.1∧Moved H H' t8 t9 t8' t9':=by
  have hsl:s.len = u.d.length:=hs.len
  have same:Moved H H t8 t9 t8 t9:=⟨.refl _ _,fun q hq=>.inl hq,fun q hq=>.inl hq⟩
  have dd:∀ (R:Type) (K:Sl→Sl→ByteArray→Bool→Int→Heap→Option R),g16 R t8 t9 k.1 u.r u.f u.l s w H K = g16_p0 R t8 t9 k.1 u.r u.f u.l s w H (fun t0 t1 t2 t4 t15 t16 t500008_0 t500008_1 t500008_2 t500008_3 H=>g16_p7 R t0 t1 t2 t4 t15 t16 t500008_0 t500008_1 t500008_2 t500008_3 H K) K:=fun R K=>rfl
  by_cases h1:16383 < k.1
  · rw [show mstep w M L k u = (M,L,⟨[],false,1⟩) by unfold mstep; rw [if_pos (.inl h1)]]
    refine ⟨t8,t9,H,fun R K=>?_,h,same⟩
    rw [dd]; unfold g16_p0
    rw [decide_eq_true (show k.1 > 16383 from h1),sel_true]; rfl
  by_cases h2:15 < u.l
  · rw [show mstep w M L k u = (M,L,⟨[],false,1⟩) by unfold mstep; rw [if_pos (.inr h2)]]
    refine ⟨t8,t9,H,fun R K=>?_,h,same⟩
    rw [dd]; unfold g16_p0
    rw [decide_eq_false (show ¬k.1 > 16383 from h1),sel_false,decide_eq_true (show u.l > 15 from h2),sel_true]; rfl
  by_cases h3:256 < u.d.length
  · rw [show mstep w M L k u = (M,L,⟨[],false,3⟩) by unfold mstep; rw [if_neg (fun e=>e.elim h1 h2),if_pos h3]]
    refine ⟨t8,t9,H,fun R K=>?_,h,same⟩
    rw [dd]; unfold g16_p0
    rw [decide_eq_false (show ¬k.1 > 16383 from h1),sel_false,decide_eq_false (show ¬u.l > 15 from h2),sel_false,decide_eq_true (by omega),sel_true]; rfl
  obtain ⟨at_,hat,e3⟩:=s16_at (t9:=t9) (s:=s) (w:=w) h.m hn hk (by omega)
  obtain ⟨a8,a9,H1,i,e4,two,mv,hi,hi8,hi9⟩:=p4_ok (w:=w) h hn hk hM hL hs hu hd (by omega) hat
  have start:∀ (R:Type) (K:Sl→Sl→ByteArray→Bool→Int→Heap→Option R),g16 R t8 t9 k.1 u.r u.f u.l s w H K = g16_p5 R a8 a9 (mmid M L k u).2.2.1 i 0 u.r u.f u.l s H1 K:=fun R K=>by
    rw [dd]; unfold g16_p0
    rw [decide_eq_false (show ¬k.1 > 16383 from h1),sel_false,decide_eq_false (show ¬u.l > 15 from h2),sel_false,decide_eq_false (by omega),sel_false]
    simp only [g16_p7]
    rw [e3]
    simp only [g16_p6]
    rw [e4]
  -- how the plain step ends
  have hmid : mstep w M L k u =
      if u.f = false∧(mmid M L k u).2.2.1 = false then ((mmid M L k u).1,(mmid M L k u).2.1,⟨[],false,6⟩) else mend w (mmid M L k u).1 (mmid M L k u).2.1 k u (mmid M L k u).2.2.2:=by
    unfold mstep mmid
    rw [if_neg (fun e=>e.elim h1 h2),if_neg h3]
    cases M.find? fun a=>decide (a.k = k) with
    | none=>cases u.f <;> simp
    | some a =>
      cases u.f with
      | true=>simp
      | false=>by_cases hx:a.nx = u.l <;> simp [hx]
  rw [hmid]
  have hMl:(mmid M L k u).1.length ≤ M.length:=by
    have hr:=List.length_filter_le (fun a:Ab=>decide (a.k ≠ k)) M
    unfold mmid
    split
    · exact Nat.le_refl _
    · split
      · exact hr
      · exact hr
  have l0:H1.ldI .u16 i (0 + 0) = some k.1:=ldI_of hi rfl
  have l1:H1.ldI .u32 i (0 + 1) = some k.2:=ldI_of hi rfl
  have l2:H1.ldS i (0 + 2) = some (bsU (u8s (mmid M L k u).2.2.2)):=ldS_of hi rfl
  have l3:H1.ldI .i64 i (0 + 3) = some (u.l - 1):=ldI_of hi rfl
  have l4:H1.ldI .i64 i (0 + 4) = some w:=ldI_of hi rfl
  generalize (mmid M L k u).2.2.1 = good at *
  generalize (mmid M L k u).2.2.2 = d at *
  generalize (mmid M L k u).1 = M1 at *
  generalize (mmid M L k u).2.1 = L1 at *
  -- the end, behind the errors
  have fin : ∃ b8 b9 H2, (∀ (R : Type) (K : Sl → Sl → ByteArray → Bool → Int → Heap → Option R), sel (u.l == (0 : Int)) (
      ((H1).ldS i (0 + 2)).bind fun x306 =>
      K a8 a9 x306 true (0:Int) H1) (
      ((H1).ldI .u16 i (0 + 0)).bind fun x307 =>
      ((H1).ldI .u32 i (0 + 1)).bind fun x308 =>
      ((H1).ldS i (0 + 2)).bind fun x309 =>
      ((H1).ldI .i64 i (0 + 3)).bind fun x310 =>
      ((H1).ldI .i64 i (0 + 4)).bind fun x311 =>
      alo H1 (.cells [(V.i .u16 x307),(V.i .u32 x308),(V.s x309),(V.i .i64 x310),(V.i .i64 x311)] 55 false) fun i312 h313 =>
      ((slCells h313 5 (Sl.mk (some (i312,0)) 1 (.ex 1)))).bind fun vs316 =>
      appendV h313 55 5 40 a8 (Sl.mk (some (i312,0)) 1 (.ex 1)).len vs316 fun s314 h315 =>
      K s314 a9 str0 false (0:Int) h315) = K b8 b9 (bsU (u8s (mend w M1 L1 k u d).2.2.got)) (mend w M1 L1 k u d).2.2.done (mend w M1 L1 k u d).2.2.err H2)∧Two H2 b8 b9 (mend w M1 L1 k u d).1 (mend w M1 L1 k u d).2.1∧Moved H H2 t8 t9 b8 b9:=by
    unfold mend
    by_cases h0:u.l = 0
    · rw [if_pos h0]
      refine ⟨a8,a9,H1,fun R K=>?_,two,mv⟩
      rw [show (u.l == 0) = true by simpa using h0,sel_true,l2]; rfl
    · rw [if_neg h0]
      obtain ⟨r,H2,e5,o5,f5,w5,n5⟩:=put_ok two.wf two.m ⟨k,d,u.l - 1,w⟩ (by omega)
      have hnx:=f5.next
      have hnx1:=mv.fr.next
      refine ⟨r,a9,H2,fun R K=>?_,⟨w5,o5,two.l.mono fun id o ha ho=>f5.get two.wf ho (fun hq=>two.dis _ hq (sid_of ha)),fun q hq hq'=>?_⟩,⟨⟨by omega,fun z hz hnz=>?_⟩,fun q hq=>?_,mv.l⟩⟩
      · rw [show (u.l == 0) = false by simpa using h0,sel_false,l0,Option.bind_some,l1,Option.bind_some,l2,Option.bind_some,l3,Option.bind_some,l4,Option.bind_some]
        exact e5 R fun s h=>K s a9 str0 false 0 h
      · have:=n5 q hq
        have:=two.wf _ _ (two.l.sidg hq').2; omega
      · rw [f5.same z (by omega) (fun hq=>?_),mv.fr.same z hz hnz]
        rcases mv.m z hq with h | h
        · exact hnz (.inl h)
        · omega
      · have:=n5 q hq; exact .inr (by omega)
  by_cases hf:u.f = false
  · by_cases hg:good = false
    · rw [if_pos ⟨hf,hg⟩]
      refine ⟨a8,a9,H1,fun R K=>?_,two,mv⟩
      rw [start]
      unfold g16_p5
      rw [hf,hg,Bool.not_false,sel_true,sel_true]; rfl
    · rw [if_neg (fun h=>hg h.2)]
      obtain ⟨b8,b9,H2,e6,two2,mv2⟩:=fin
      refine ⟨b8,b9,H2,fun R K=>?_,two2,mv2⟩
      rw [start]
      unfold g16_p5
      have hgt:good = true:=by simpa using hg
      rw [hf,hgt,Bool.not_false,sel_true,Bool.not_true,sel_false]
      exact e6 R K
  · rw [if_neg (fun h=>hf h.1)]
    obtain ⟨b8,b9,H2,e6,two2,mv2⟩:=fin
    refine ⟨b8,b9,H2,fun R K=>?_,two2,mv2⟩
    rw [start]
    unfold g16_p5
    have hft:u.f = true:=by simpa using hf
    rw [hft,Bool.not_true,sel_false]
    exact e6 R K
end
end Go.Proofs.Ytobebcfkddimkaa

