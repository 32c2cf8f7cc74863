/- SegmentsKnown: a round of the loop that builds the lists. -/
import Derived.Test.YtobebcfkddimkaaKN1
namespace Go.Proofs.Ytobebcfkddimkaa
open Go AM Go.RowKit Go.Sort
set_option linter.unusedVariables false
set_option linter.unusedSimpArgs false

theorem own_ne {H:Heap} {e e':TypeId} {n n':Nat} {s s':Sl} {l l':List V} (h:Own H e n s l) (h':Own H e' n' s' l') (hne:e ≠ e') {q:Nat} (hq:q ∈ sid s):q ∉ sid s':=fun hq'=>by
  have g:=(h.sidg hq).2
  rw [(h'.sidg hq').2] at g
  simp only [Option.some.injEq,O.cells.injEq] at g
  exact hne g.2.1.symm
/-- the lists under way -/
structure BInv (G:Heap) (l:List PP) (cs:List Ac) (rs:List Rw) (bs:List Int) (t15 t16 t17 t18:Sl):Prop where
  wf:G.Wf
  o15:Own G 35 4 t15 ((l.map pcf).flatten)
  o16:Own G 30 3 t16 ((cs.map acf).flatten)
  o17:Own G 53 6 t17 ((rs.map rcf).flatten)
  o18:Own G 5 1 t18 ((bs.map bcf).flatten)
  pk:∀ p ∈ l,p.Ok G
  rk:∀ r ∈ rs,r.Ok G
  ak:∀ a ∈ cs,(0 ≤ a.pc∧a.pc ≤ 255)∧(0 ≤ a.pt∧a.pt ≤ 255)
  bt:Byt bs
  pq:∀ p ∈ l,∀ q,p.s.a = some q→q.1 < G.next∧q.1 ∉ sid t15∧q.1 ∉ sid t16∧q.1 ∉ sid t17∧q.1 ∉ sid t18
  rq:∀ r ∈ rs,∀ q,r.s.a = some q→q.1 < G.next∧q.1 ∉ sid t15∧q.1 ∉ sid t16∧q.1 ∉ sid t17∧q.1 ∉ sid t18
theorem PP.Ok.keep {H G:Heap} {p:PP} (h:p.Ok H) (hw:H.Wf) {F:Nat→Prop} (hf:Fr' F H G) (hq:∀ q,p.s.a = some q→¬F q.1):p.Ok G:=⟨h.bs.keep hw hf (.inr hq),h.cap,h.a,h.b,h.m⟩
theorem Rw.Ok.keep {H G:Heap} {p:Rw} (h:p.Ok H) (hw:H.Wf) {F:Nat→Prop} (hf:Fr' F H G) (hq:∀ q,p.s.a = some q→¬F q.1):p.Ok G:=⟨h.bs.keep hw hf (.inr hq),h.l⟩
section
variable {G:Heap} {l:List PP} {cs:List Ac} {rs:List Rw} {bs:List Int} {t15 t16 t17 t18:Sl}
theorem BInv.new (h:BInv G l cs rs bs t15 t16 t17 t18) (o:O):BInv (G.new o) l cs rs bs t15 t16 t17 t18:=by
  have x:=Ext.new G o
  have n:(G.new o).next = G.next + 1:=rfl
  exact ⟨h.wf.new o,h.o15.mono fun id o _ ho=>x.get h.wf ho,h.o16.mono fun id o _ ho=>x.get h.wf ho,h.o17.mono fun id o _ ho=>x.get h.wf ho,h.o18.mono fun id o _ ho=>x.get h.wf ho,
    fun p hp=>(h.pk p hp).keep h.wf x (fun _ _ h=>h),fun r hr=>(h.rk r hr).keep h.wf x (fun _ _ h=>h),h.ak,h.bt,
    fun p hp q hq=>by obtain ⟨a,b⟩:=h.pq p hp q hq; exact ⟨by omega,b⟩,fun p hp q hq=>by obtain ⟨a,b⟩:=h.rq p hp q hq; exact ⟨by omega,b⟩⟩
theorem BInv.p15 (h : BInv G l cs rs bs t15 t16 t17 t18) (p : PP) (hp : p.Ok G) (hq : ∀ q, p.s.a = some q → q.1 < G.next ∧ q.1 ∉ sid t15 ∧ q.1 ∉ sid t16 ∧ q.1 ∉ sid t17 ∧ q.1 ∉ sid t18) (hl : l.length ≤ 1000) :
    ∃ r G',(∀ (R:Type) (K:Sl→Heap→Option R),(alo G (.cells (pcf p) 35 false) fun i h1=>((slCells h1 4 (Sl.mk (some (i,0)) 1 (.ex 1)))).bind fun vs=>appendV h1 35 4 40 t15 (Sl.mk (some (i,0)) 1 (.ex 1)).len vs K) = K r G')∧BInv G' (l ++ [p]) cs rs bs r t16 t17 t18:=by
  obtain ⟨r,G',e,o,w,f,s⟩:=push (f:=pcf) (n:=4) (fun _=>rfl) (by omega) h.wf h.o15 p rfl hl (bytes:=40) (by omega)
  have hn:=f.next
  have ns:∀ q,q < G.next→q ∉ sid r:=fun q h1 h2=>by have:=s q h2; omega
  refine ⟨r,G',e,⟨w,o,h.o16.mono fun id o ha ho=>f.get h.wf ho (own_ne h.o16 h.o15 (by decide) (sid_of ha)),h.o17.mono fun id o ha ho=>f.get h.wf ho (own_ne h.o17 h.o15 (by decide) (sid_of ha)),h.o18.mono fun id o ha ho=>f.get h.wf ho (own_ne h.o18 h.o15 (by decide) (sid_of ha)),fun p' hp'=>?_,fun r' hr'=>?_,h.ak,h.bt,fun p' hp' q hq'=>?_,fun r' hr' q hq'=>?_⟩⟩
  · rcases List.mem_append.1 hp' with hp' | hp'
    · exact (h.pk p' hp').keep h.wf f (fun q hq=>(h.pq p' hp' q hq).2.1)
    · rw [List.mem_singleton.1 hp']; exact hp.keep h.wf f (fun q hq'=>(hq q hq').2.1)
  · exact (h.rk r' hr').keep h.wf f (fun q hq=>(h.rq r' hr' q hq).2.1)
  · rcases List.mem_append.1 hp' with hp' | hp'
    · obtain ⟨a,b,c⟩:=h.pq p' hp' q hq'; exact ⟨by omega,ns _ a,c⟩
    · rw [List.mem_singleton.1 hp'] at hq'; obtain ⟨a,b,c⟩:=hq q hq'; exact ⟨by omega,ns _ a,c⟩
  · obtain ⟨a,b,c⟩:=h.rq r' hr' q hq'; exact ⟨by omega,ns _ a,c⟩
theorem BInv.p16 (h : BInv G l cs rs bs t15 t16 t17 t18) (x : Ac) (hx : (0 ≤ x.pc ∧ x.pc ≤ 255) ∧ (0 ≤ x.pt ∧ x.pt ≤ 255)) (hl : cs.length ≤ 1000) :
    ∃ r G',(∀ (R:Type) (K:Sl→Heap→Option R),(alo G (.cells (acf x) 30 false) fun i h1=>((slCells h1 3 (Sl.mk (some (i,0)) 1 (.ex 1)))).bind fun vs=>appendV h1 30 3 3 t16 (Sl.mk (some (i,0)) 1 (.ex 1)).len vs K) = K r G')∧BInv G' l (cs ++ [x]) rs bs t15 r t17 t18:=by
  obtain ⟨r,G',e,o,w,f,s⟩:=push (f:=acf) (n:=3) (fun _=>rfl) (by omega) h.wf h.o16 x rfl hl (bytes:=3) (by omega)
  have hn:=f.next
  have ns:∀ q,q < G.next→q ∉ sid r:=fun q h1 h2=>by have:=s q h2; omega
  refine ⟨r,G',e,⟨w,h.o15.mono fun id o ha ho=>f.get h.wf ho (own_ne h.o15 h.o16 (by decide) (sid_of ha)),o,h.o17.mono fun id o ha ho=>f.get h.wf ho (own_ne h.o17 h.o16 (by decide) (sid_of ha)),h.o18.mono fun id o ha ho=>f.get h.wf ho (own_ne h.o18 h.o16 (by decide) (sid_of ha)),fun p' hp'=>(h.pk p' hp').keep h.wf f (fun q hq=>(h.pq p' hp' q hq).2.2.1),fun r' hr'=>(h.rk r' hr').keep h.wf f (fun q hq=>(h.rq r' hr' q hq).2.2.1),fun a ha=>?_,h.bt,fun p' hp' q hq'=>?_,fun r' hr' q hq'=>?_⟩⟩
  · rcases List.mem_append.1 ha with ha | ha
    · exact h.ak a ha
    · rw [List.mem_singleton.1 ha]; exact hx
  · obtain ⟨a,b,c,d⟩:=h.pq p' hp' q hq'; exact ⟨by omega,b,ns _ a,d⟩
  · obtain ⟨a,b,c,d⟩:=h.rq r' hr' q hq'; exact ⟨by omega,b,ns _ a,d⟩
theorem BInv.p17 (h : BInv G l cs rs bs t15 t16 t17 t18) (x : Rw) (hx : x.Ok G) (hq : ∀ q, x.s.a = some q → q.1 < G.next ∧ q.1 ∉ sid t15 ∧ q.1 ∉ sid t16 ∧ q.1 ∉ sid t17 ∧ q.1 ∉ sid t18) (hl : rs.length ≤ 1000) :
    ∃ r G',(∀ (R:Type) (K:Sl→Heap→Option R),(alo G (.cells (rcf x) 53 false) fun i h1=>((slCells h1 6 (Sl.mk (some (i,0)) 1 (.ex 1)))).bind fun vs=>appendV h1 53 6 40 t17 (Sl.mk (some (i,0)) 1 (.ex 1)).len vs K) = K r G')∧BInv G' l cs (rs ++ [x]) bs t15 t16 r t18:=by
  obtain ⟨r,G',e,o,w,f,s⟩:=push (f:=rcf) (n:=6) (fun _=>rfl) (by omega) h.wf h.o17 x rfl hl (bytes:=40) (by omega)
  have hn:=f.next
  have ns:∀ q,q < G.next→q ∉ sid r:=fun q h1 h2=>by have:=s q h2; omega
  refine ⟨r,G',e,⟨w,h.o15.mono fun id o ha ho=>f.get h.wf ho (own_ne h.o15 h.o17 (by decide) (sid_of ha)),h.o16.mono fun id o ha ho=>f.get h.wf ho (own_ne h.o16 h.o17 (by decide) (sid_of ha)),o,h.o18.mono fun id o ha ho=>f.get h.wf ho (own_ne h.o18 h.o17 (by decide) (sid_of ha)),fun p' hp'=>(h.pk p' hp').keep h.wf f (fun q hq=>(h.pq p' hp' q hq).2.2.2.1),fun r' hr'=>?_,h.ak,h.bt,fun p' hp' q hq'=>?_,fun r' hr' q hq'=>?_⟩⟩
  · rcases List.mem_append.1 hr' with hr' | hr'
    · exact (h.rk r' hr').keep h.wf f (fun q hq=>(h.rq r' hr' q hq).2.2.2.1)
    · rw [List.mem_singleton.1 hr']; exact hx.keep h.wf f (fun q hq'=>(hq q hq').2.2.2.1)
  · obtain ⟨a,b,c,d,d2⟩:=h.pq p' hp' q hq'; exact ⟨by omega,b,c,ns _ a,d2⟩
  · rcases List.mem_append.1 hr' with hr' | hr'
    · obtain ⟨a,b,c,d,d2⟩:=h.rq r' hr' q hq'; exact ⟨by omega,b,c,ns _ a,d2⟩
    · rw [List.mem_singleton.1 hr'] at hq'; obtain ⟨a,b,c,d,d2⟩:=hq q hq'; exact ⟨by omega,b,c,ns _ a,d2⟩
theorem BInv.p18 (h : BInv G l cs rs bs t15 t16 t17 t18) (x : Int) (hx : 0 ≤ x ∧ x ≤ 255) (hl : bs.length ≤ 1000) :
    ∃ r G',(∀ (R:Type) (K:Sl→Heap→Option R),(alo G (.cells (bcf x) 5 false) fun i h1=>((slCells h1 1 (Sl.mk (some (i,0)) 1 (.ex 1)))).bind fun vs=>appendV h1 5 1 1 t18 (Sl.mk (some (i,0)) 1 (.ex 1)).len vs K) = K r G')∧BInv G' l cs rs (bs ++ [x]) t15 t16 t17 r:=by
  obtain ⟨r,G',e,o,w,f,s⟩:=push (f:=bcf) (n:=1) (fun _=>rfl) (by omega) h.wf h.o18 x rfl hl (bytes:=1) (by omega)
  have hn:=f.next
  have ns:∀ q,q < G.next→q ∉ sid r:=fun q h1 h2=>by have:=s q h2; omega
  refine ⟨r,G',e,⟨w,h.o15.mono fun id o ha ho=>f.get h.wf ho (own_ne h.o15 h.o18 (by decide) (sid_of ha)),h.o16.mono fun id o ha ho=>f.get h.wf ho (own_ne h.o16 h.o18 (by decide) (sid_of ha)),h.o17.mono fun id o ha ho=>f.get h.wf ho (own_ne h.o17 h.o18 (by decide) (sid_of ha)),o,fun p' hp'=>(h.pk p' hp').keep h.wf f (fun q hq=>(h.pq p' hp' q hq).2.2.2.2),fun r' hr'=>(h.rk r' hr').keep h.wf f (fun q hq=>(h.rq r' hr' q hq).2.2.2.2),h.ak,fun a ha=>?_,fun p' hp' q hq'=>?_,fun r' hr' q hq'=>?_⟩⟩
  · rcases List.mem_append.1 ha with ha | ha
    · exact h.bt a ha
    · rw [List.mem_singleton.1 ha]; exact hx
  · obtain ⟨a,b,c,d,d2⟩:=h.pq p' hp' q hq'; exact ⟨by omega,b,c,d,ns _ a⟩
  · obtain ⟨a,b,c,d,d2⟩:=h.rq r' hr' q hq'; exact ⟨by omega,b,c,d,ns _ a⟩
end
end Go.Proofs.Ytobebcfkddimkaa

