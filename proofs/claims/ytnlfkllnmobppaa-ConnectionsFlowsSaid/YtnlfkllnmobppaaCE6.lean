/- ConnectionsFlows: the law. -/
import Derived.Test.YtnlfkllnmobppaaCE5
import Derived.Test.YtnlfkllnmobppaaAmC
namespace Go.Proofs.Ytnlfkllnmobppaa
open Go AM Go.RowKit
set_option linter.unusedVariables false
set_option linter.unusedSimpArgs false

/-- an act of the argument -/
structure Ak where
  w:Int
  n:Int
  m:Int
  s:Sl
  d:List Int
structure Ak.Ok (H:Heap) (a:Ak):Prop where
  w:0 ≤ a.w∧a.w ≤ 255
  n:0 ≤ a.n∧a.n ≤ 255
  m:0 ≤ a.m∧a.m ≤ 255
  s:BS H a.s a.d
  c:CapOk a.s
structure RdAk (H:Heap) (t:Sl) (l:List Ak):Prop where
  len:t.len = l.length
  at':∀ i a,l[i]? = some a→∃ q,t.a = some q∧H.ldI .u8 q.1 (q.2 + i * 4 + 0) = some a.w∧H.ldI .u8 q.1 (q.2 + i * 4 + 1) = some a.n∧H.ldI .u8 q.1 (q.2 + i * 4 + 2) = some a.m∧H.ldSl q.1 (q.2 + i * 4 + 3) = some a.s
  ok:∀ a ∈ l,a.Ok H
theorem exists_list {α:Type} (P:Nat→α→Prop):∀ n,(∀ i,i < n→∃ a,P i a)→∃ l:List α,l.length = n∧∀ i a,l[i]? = some a→P i a:=by
  intro n
  induction n with
  | zero=>intro _; exact ⟨[],rfl,fun i a h=>by simp at h⟩
  | succ n ih =>
    intro h
    obtain ⟨l,h1,h2⟩:=ih fun i hi=>h i (by omega)
    obtain ⟨a,ha⟩:=h n (by omega)
    refine ⟨l ++ [a],by simp [h1],fun i b hb=>?_⟩
    by_cases hi:i < n
    · rw [List.getElem?_append_left (by omega)] at hb; exact h2 i b hb
    · rw [List.getElem?_append_right (by omega)] at hb
      have:i = n:=by
        have:=(List.getElem?_eq_some_iff.1 hb).1
        simp at this; omega
      subst this
      simp [h1] at hb
      subst hb; exact ha
theorem arg_cells {H:Heap} {ks:List Dt} {s:Sl} (h:ArgSl H ks s) (hk:ks.length ≠ 0) {i:Nat} (hi:i < s.len):∃ q,s.a = some q∧∀ j d,ks[j]? = some d→∃ v,H.ld q.1 (q.2 + i * ks.length + j) = some v∧Fit H d v:=by
  rcases h with rfl | ⟨id,len,cap,vs,e,rfl,h1,h2,h3,h4,h5⟩
  · simp at hi
  · simp only at hi
    refine ⟨(id,0),rfl,fun j d hj=>?_⟩
    have hjl:=(List.getElem?_eq_some_iff.1 hj).1
    have hlt:i * ks.length + j < vs.length:=by
      rw [h3]
      have:(i + 1) * ks.length ≤ cap * ks.length:=Nat.mul_le_mul_right _ (by omega)
      rw [Nat.add_mul] at this; omega
    refine ⟨vs[i * ks.length + j],?_,h5 _ _ d (List.getElem?_eq_getElem hlt) ?_⟩
    · simp only [Heap.ld,h4 (by omega),Nat.zero_add]
      exact List.getElem?_eq_getElem hlt
    · rw [Nat.mul_add_mod_of_lt hjl]; exact hj
theorem rdAk_of {H:Heap} {t:Sl} (h:ArgSl H [.i .u8,.i .u8,.i .u8,.sl [.i .u8]] t):∃ l,RdAk H t l:=by
  obtain ⟨l,h1,h2⟩:=exists_list (fun i (p:Ak)=>p.Ok H∧∃ q,t.a = some q∧H.ldI .u8 q.1 (q.2 + i * 4 + 0) = some p.w∧H.ldI .u8 q.1 (q.2 + i * 4 + 1) = some p.n∧H.ldI .u8 q.1 (q.2 + i * 4 + 2) = some p.m∧H.ldSl q.1 (q.2 + i * 4 + 3) = some p.s) t.len fun i hi=>by
    obtain ⟨q,hq,hc⟩:=arg_cells h (by simp) hi
    obtain ⟨v0,l0,f0⟩:=hc 0 _ rfl
    obtain ⟨v1,l1,f1⟩:=hc 1 _ rfl
    obtain ⟨v2,l2,f2⟩:=hc 2 _ rfl
    obtain ⟨v3,l3,f3⟩:=hc 3 _ rfl
    obtain ⟨a,rfl,k0⟩:=Fit.int f0
    obtain ⟨b,rfl,k1⟩:=Fit.int f1
    obtain ⟨m,rfl,k3⟩:=Fit.int f2
    obtain ⟨s,rfl,k2⟩:=Fit.slice f3
    obtain ⟨d,hs,hb,hcap,_,_⟩:=bs_of_arg k2
    exact ⟨⟨a,b,m,s,d⟩,⟨wfU8 k0,wfU8 k1,wfU8 k3,hs,hcap⟩,q,hq,by unfold Heap.ldI; rw [show q.2 + i * 4 + 0 = q.2 + i * [Dt.i .u8,.i .u8,.i .u8,.sl [.i .u8]].length + 0 from rfl,l0]; rfl,by unfold Heap.ldI; rw [show q.2 + i * 4 + 1 = q.2 + i * [Dt.i .u8,.i .u8,.i .u8,.sl [.i .u8]].length + 1 from rfl,l1]; rfl,by unfold Heap.ldI; rw [show q.2 + i * 4 + 2 = q.2 + i * [Dt.i .u8,.i .u8,.i .u8,.sl [.i .u8]].length + 2 from rfl,l2]; rfl,by unfold Heap.ldSl; rw [show q.2 + i * 4 + 3 = q.2 + i * [Dt.i .u8,.i .u8,.i .u8,.sl [.i .u8]].length + 3 from rfl,l3]; rfl⟩
  exact ⟨l,h1.symm,fun i p hp=>(h2 i p hp).2,fun p hp=>by obtain ⟨i,hi⟩:=List.mem_iff_getElem?.1 hp; exact (h2 i p hi).1⟩
theorem Ak.Ok.dat {H:Heap} {a:Ak} (h:a.Ok H) (hw:H.Wf):Dat H.next H a.s a.d:=by
  refine ⟨h.s,?_,h.c⟩
  by_cases hl:a.d = []
  · exact .inl hl
  · obtain ⟨q,vs,e,ro,h1,h2,h3,h4⟩:=h.s.there hl
    exact .inr ⟨q,h1,hw _ _ h2,.inl (hw _ _ h2)⟩
theorem kp_ldI {n0:Nat} {H H':Heap} (h:Kp n0 H H') {q:Nat} (hq:q < n0) (hl:q < H.next) {kd:IntKind} {o:Nat} {v:Int} (hv:H.ldI kd q o = some v):H'.ldI kd q o = some v:=by
  unfold Heap.ldI Heap.ld at *
  rw [h.at' q hl (.inl hq)]; exact hv
theorem kp_ldSl {n0:Nat} {H H':Heap} (h:Kp n0 H H') {q:Nat} (hq:q < n0) (hl:q < H.next) {o:Nat} {v:Sl} (hv:H.ldSl q o = some v):H'.ldSl q o = some v:=by
  unfold Heap.ldSl Heap.ld at *
  rw [h.at' q hl (.inl hq)]; exact hv
theorem ldI_lt {H:Heap} (hw:H.Wf) {kd:IntKind} {q o:Nat} {v:Int} (h:H.ldI kd q o = some v):q < H.next:=by
  unfold Heap.ldI Heap.ld at h
  cases hg:H.get q with
  | none=>rw [hg] at h; cases h
  | some ob=>exact hw _ _ hg
theorem RdAk.kp {H H':Heap} {t:Sl} {l:List Ak} (h:RdAk H t l) (hw:H.Wf) (hk:Kp H.next H H'):∀ i a,l[i]? = some a→∃ q,t.a = some q∧H'.ldI .u8 q.1 (q.2 + i * 4 + 0) = some a.w∧H'.ldI .u8 q.1 (q.2 + i * 4 + 1) = some a.n∧H'.ldI .u8 q.1 (q.2 + i * 4 + 2) = some a.m∧H'.ldSl q.1 (q.2 + i * 4 + 3) = some a.s:=fun i a ha=>by
  obtain ⟨q,hq,l0,l1,l2,l3⟩:=h.at' i a ha
  have hl:=ldI_lt hw l0
  exact ⟨q,hq,kp_ldI hk hl hl l0,kp_ldI hk hl hl l1,kp_ldI hk hl hl l2,kp_ldSl hk hl hl l3⟩
/-- between two acts -/
structure LW (n0:Nat) (H:Heap) (k:Int) (x y:Nat) (F G:Nat→Prop) (S T:Dk) (l:List Gp) (t7:Sl) (i3:Nat):Prop where
  w:W2 n0 H x y F G S T
  ds:DI k S l
  dt:DI (1 - k) T l
  gs:S.Good
  gt:T.Good
  ok:∀ p ∈ l,p.Ok
  arr:H.get i3 = some (.cells (dcells k x y) 40 false)
  arrF:¬F i3∧¬G i3
  own:Own H 54 5 t7 (rows pcs l.zipIdx)
  ids:∀ q ∈ sid t7,¬F q∧¬G q∧n0 ≤ q
theorem LW.swap {n0:Nat} {H:Heap} {k:Int} (hk:k = 0 ∨ k = 1) {x y:Nat} {F G:Nat→Prop} {S T:Dk} {l:List Gp} {t7:Sl} {i3:Nat} (h:LW n0 H k x y F G S T l t7 i3):LW n0 H (1 - k) y x G F T S l t7 i3 :=
  ⟨h.w.swap,h.dt,by rw [show 1 - (1 - k) = k by omega]; exact h.ds,h.gt,h.gs,h.ok,by rw [dc_flip hk]; exact h.arr,⟨h.arrF.2,h.arrF.1⟩,h.own,fun q hq=>⟨(h.ids q hq).2.1,(h.ids q hq).1,(h.ids q hq).2.2⟩⟩
theorem pcs_len (z:Gp × Nat):(pcs z).length = 5:=rfl
theorem pcs_one (z:Gp × Nat):(pcs z).all V.one = true:=rfl
section
variable {n0:Nat} {H:Heap} {k:Int} {x y:Nat} {F G:Nat→Prop} {S T:Dk} {l:List Gp} {t7:Sl} {i3:Nat}
theorem LW.tlen (h:LW n0 H k x y F G S T l t7 i3):t7.len = l.length:=by
  have:=own_rlen pcs pcs_len (by omega) h.own
  simpa using this
theorem rows_set {l:List Gp} {i:Nat} {p p':Gp} (hi:l[i]? = some p) (hb:p'.by' = p.by') (hc:p'.cls = p.cls):(rows pcs l.zipIdx).set (5 * i + 4) (.i .i64 p'.st) = rows pcs (l.set i p').zipIdx:=by
  have key:∀ (l:List Gp) (i n:Nat),l[i]? = some p→(rows pcs (l.zipIdx n)).set (5 * i + 4) (.i .i64 p'.st) = rows pcs ((l.set i p').zipIdx n):=by
    intro l
    induction l with
    | nil=>intro i n h; simp at h
    | cons a l ih =>
      intro i n h
      have e:∀ (z:Gp × Nat) (m:List (Gp × Nat)),rows pcs (z :: m) = pcs z ++ rows pcs m:=fun _ _=>rfl
      cases i with
      | zero =>
        simp at h; subst h
        rw [List.set_cons_zero,List.zipIdx_cons,List.zipIdx_cons,e,e]
        rw [List.set_append_left _ _ (by rw [pcs_len]; omega)]
        congr 1
        simp only [pcs,hb,hc]; rfl
      | succ i =>
        rw [List.set_cons_succ,List.zipIdx_cons,List.zipIdx_cons,e,e]
        rw [List.set_append_right _ _ (by rw [pcs_len]; omega),pcs_len]
        congr 1
        rw [show 5 * (i + 1) + 4 - 5 = 5 * i + 4 by omega]
        exact ih i (n + 1) (by simpa using h)
  exact key l i 0 hi
/-- an act on a section -/
theorem step_flows (hk : k = 0 ∨ k = 1) (h : LW n0 H k x y F G S T l t7 i3) (hl : l.length ≤ 900) {i : Nat} {p : Gp} (hi : l[i]? = some p) {w n m : Int} (hw : 0 ≤ w) (hm : 0 ≤ m ∧ m ≤ 255) (hn : 0 ≤ n) {sl : Sl} {d : List Int} (hd : Dat n0 H sl d) (hdl : d.length ≤ 200) :
    ∃ q H' F' G' S' T' p',t7.a = some (q,0)∧(∀ (R:Type) (K:Bool→Heap→Option R),g22 R (if k = 0 then some (x,0) else some (y,0)) (if k = 0 then some (y,0) else some (x,0)) (some (q,0 + i * 5)) k w n m sl H K = K true H')∧LW n0 H' k x y F' G' S' T' (l.set i p') t7 i3∧Kp n0 H H':=by
  have hil:=(List.getElem?_eq_some_iff.1 hi).1
  have htl:=h.tlen
  have ht7:t7 = ⟨t7.a,t7.len,t7.cap⟩:=rfl
  obtain ⟨q,ha,hg⟩:=own_obj h.own (rows_ne pcs_len (by omega) (by
    intro e
    have:=congrArg List.length e
    simp at this
    rw [this] at hil; simp at hil))
  have hz:l.zipIdx[i]? = some (p,i):=by simp [List.getElem?_zipIdx,hi]
  have hrl:=rows_len pcs pcs_len l.zipIdx
  rw [List.length_zipIdx] at hrl
  have pv:PV H q (0 + i * 5) (rows pcs l.zipIdx) p i:=⟨hg,by rw [hrl]; omega,fun c hc=>by rw [Nat.zero_add]; exact rows_get pcs pcs_len hz hc⟩
  have hids:=h.ids q (sid_of ha)
  obtain ⟨H',F',G',S',T',p',e1,r⟩:=s22 hk h.w h.ds h.dt hl hi (h.ok p (List.mem_of_getElem? hi)) h.gs h.gt pv ⟨hids.1,hids.2.1⟩ hids.2.2 hw hm hn hd hdl
  have hq':=r.get
  rw [show 0 + i * 5 + 4 = 5 * i + 4 by omega,rows_set hi r.by' r.cls] at hq'
  have hne:i3 ≠ q:=ne_of_get h.arr hg (ne_ty (by decide))
  refine ⟨q,H',F',G',S',T',p',ha,e1,⟨r.w,r.ds,r.dt,r.gs,r.gt,fun p2 hp2=>?_,r.oth i3 _ h.arr h.arrF.1 h.arrF.2 hne,⟨fun hf=>?_,fun hf=>?_⟩,?_,fun q2 hq2=>?_⟩,r.kp⟩
  · rcases List.mem_or_eq_of_mem_set hp2 with e | e
    · exact h.ok p2 e
    · rw [e]; exact r.ok
  · have:=h.w.a.wf _ _ h.arr
    rcases r.sub i3 (.inl hf) with (hf | hf) | hf
    · exact h.arrF.1 hf
    · exact h.arrF.2 hf
    · omega
  · have:=h.w.a.wf _ _ h.arr
    rcases r.sub i3 (.inr hf) with (hf | hf) | hf
    · exact h.arrF.1 hf
    · exact h.arrF.2 hf
    · omega
  · rcases h.own.inv with ⟨e,_⟩ | ⟨id,n,e,g,hlen⟩
    · rw [e] at ha; cases ha
    · rw [e] at ha ⊢
      simp at ha; subst ha
      refine .op _ _ _ hq' ?_ (rows_ones pcs pcs_one _)
      have:=rows_len pcs pcs_len (l.set i p').zipIdx
      rw [List.length_zipIdx,List.length_set] at this
      rw [this,← hlen,hrl]
  · have : q2 = q := by
      have:=(h.own.sidg hq2).1
      rw [ha] at this; simp at this; exact this.symm
    subst this
    exact ⟨r.nq.1,r.nq.2,hids.2.2⟩
end
end Go.Proofs.Ytnlfkllnmobppaa

