/- SegmentsKnown: lists that are built by append. -/
import Derived.Test.YtobebcfkddimkaaKN0
import Derived.Test.YtobebcfkddimkaaSF
import Derived.Test.YtobebcfkddimkaaSJ
import Derived.Test.YtobebcfkddimkaaSXA
namespace Go.Proofs.Ytobebcfkddimkaa
open Go AM Go.RowKit Go.Sort
set_option linter.unusedVariables false
set_option linter.unusedSimpArgs false

section
variable {α:Type} {f:α→List V} {n:Nat}
theorem flat_get (hf:∀ x,(f x).length = n):∀ {l:List α} {i c:Nat} {x:α},l[i]? = some x→c < n→((l.map f).flatten)[i * n + c]? = (f x)[c]?:=by
  intro l
  induction l with
  | nil=>intro i c x h; simp at h
  | cons y l ih =>
    intro i c x h hc
    simp only [List.map_cons,List.flatten_cons]
    cases i with
    | zero =>
      simp at h; subst h
      rw [List.getElem?_append_left (by rw [hf]; omega),Nat.zero_mul,Nat.zero_add]
    | succ i =>
      rw [List.getElem?_append_right (by rw [hf,Nat.add_mul]; omega),hf,show (i + 1) * n + c - n = i * n + c by rw [Nat.add_mul]; omega]
      exact ih (by simpa using h) hc
theorem flat_len (hf:∀ x,(f x).length = n) (l:List α):((l.map f).flatten).length = l.length * n:=by
  induction l with
  | nil=>simp
  | cons y l ih=>simp only [List.map_cons,List.flatten_cons,List.length_append,ih,hf,List.length_cons,Nat.add_mul]; omega
variable {H:Heap} {e:TypeId} {t:Sl} {l:List α}
theorem own_rd (hf:∀ x,(f x).length = n) (hn:0 < n) (h:Own H e n t ((l.map f).flatten)) {i:Nat} {x:α} (hx:l[i]? = some x):∃ q,t.a = some q∧∀ c,c < n→H.ld q.1 (q.2 + i * n + c) = (f x)[c]?:=by
  rcases h.inv with ⟨_,e0⟩ | ⟨id,m,rfl,g,_⟩
  · have:=congrArg List.length e0
    rw [flat_len hf,List.length_nil] at this
    have hi:=(List.getElem?_eq_some_iff.1 hx).1
    have h1:l.length * n ≠ 0:=Nat.mul_ne_zero (by omega) (by omega)
    exact absurd this h1
  · refine ⟨(id,0),rfl,fun c hc=>?_⟩
    simp only [Heap.ld,g,Nat.zero_add]
    exact flat_get hf hx hc
/-- one more -/
theorem push (hf : ∀ x, (f x).length = n) (hn : 0 < n ∧ n ≤ 10) (hw : H.Wf) (h : Own H e n t ((l.map f).flatten)) (x : α) (ho : (f x).all V.one = true) (hl : l.length ≤ 1000) {bytes : Nat} (hb : bytes ≤ 1000) :
    ∃ r H',(∀ (R:Type) (K:Sl→Heap→Option R),(alo H (.cells (f x) e false) fun i h1=>((slCells h1 n (Sl.mk (some (i,0)) 1 (.ex 1)))).bind fun vs=>appendV h1 e n bytes t (Sl.mk (some (i,0)) 1 (.ex 1)).len vs K) = K r H') ∧
      Own H' e n r (((l ++ [x]).map f).flatten)∧H'.Wf∧Fr' (fun i=>i ∈ sid t) H H'∧(∀ q ∈ sid r,H.next ≤ q):=by
  have w1:=hw.new (.cells (f x) e false)
  have x1:=Ext.new H (.cells (f x) e false)
  have n1:(H.new (.cells (f x) e false)).next = H.next + 1:=rfl
  have h1:Own (H.new (.cells (f x) e false)) e n t ((l.map f).flatten):=h.mono fun id o _ ho=>x1.get hw ho
  have htl:t.len = l.length:=by
    have:=h.len
    rw [flat_len hf] at this
    exact (Nat.mul_right_cancel hn.1 this).symm
  have sl:slCells (H.new (.cells (f x) e false)) n ⟨some (H.next,0),1,.ex 1⟩ = some (f x):=by
    have:=slIs_of (off:=0) (len:=1) (sz:=n) (c:=.ex 1) (Heap.gnew H (.cells (f x) e false)) (by rw [hf]; omega)
    rw [List.drop_zero,List.take_of_length_le (by rw [hf]; omega)] at this
    exact this
  have hbb:(t.len + 1) * bytes ≤ 140737488355328:=Nat.le_trans (Nat.mul_le_mul (show t.len + 1 ≤ 1001 by omega) hb) (by decide)
  obtain ⟨r,G,a1,a2,a3,a4,a5,a6,a7⟩:=own_append w1 h1 (n:=1) (new:=f x) (bytes:=bytes) (by omega) hn.1 (by rw [hf]; omega) ho hbb (by omega)
  refine ⟨r,G,fun R K=>?_,?_,a5,⟨by rw [a6,n1]; omega,fun i hi hni=>?_⟩,fun q hq=>?_⟩
  · simp only [alo]
    rw [sl,Option.bind_some]
    exact a1 R K
  · rw [List.map_append,List.flatten_append]
    simpa using a2
  · rw [a7 i (by rw [n1]; omega) (fun ha=>hni (sid_of ha))]; exact x1.same i hi (fun h=>h)
  · simp only [sid,a4,List.mem_singleton] at hq; rw [n1] at hq; omega
end
def pcf (p:PP):List V:=[.i .u8 p.a,.i .u8 p.b,.sl p.s,.i .u8 p.m]
def acf (a:Ac):List V:=[.b a.t,.i .u8 a.pc,.i .u8 a.pt]
def rcf (r:Rw):List V:=[.b r.t,.i .u16 r.fr,.i .u32 r.u.r,.b r.u.f,.i .u8 r.u.l,.sl r.s]
def bcf (b:Int):List V:=[.i .u8 b]
theorem bcf_flat (l:List Int):(l.map bcf).flatten = bcs l:=by
  induction l with
  | nil=>rfl
  | cons a l ih=>simp only [List.map_cons,List.flatten_cons,ih]; rfl
theorem rdP_own {H:Heap} {t:Sl} {l:List PP} (h:Own H 35 4 t ((l.map pcf).flatten)) (hok:∀ p ∈ l,p.Ok H):RdP H t l:=by
  refine ⟨by have:=h.len; rw [flat_len (f:=pcf) (n:=4) (fun _=>rfl)] at this; omega,fun i p hp=>?_,hok⟩
  obtain ⟨q,q0,hc⟩:=own_rd (f:=pcf) (fun _=>rfl) (by omega) h hp
  have c0:=hc 0 (by omega); have c1:=hc 1 (by omega); have c2:=hc 2 (by omega); have c3:=hc 3 (by omega)
  exact ⟨q,q0,by unfold Heap.ldI; rw [c0]; rfl,by unfold Heap.ldI; rw [c1]; rfl,by unfold Heap.ldSl; rw [c2]; rfl,by unfold Heap.ldI; rw [c3]; rfl⟩
theorem rdA_own {H:Heap} {t:Sl} {l:List Ac} (h:Own H 30 3 t ((l.map acf).flatten)) (hok:∀ a ∈ l,(0 ≤ a.pc∧a.pc ≤ 255)∧(0 ≤ a.pt∧a.pt ≤ 255)):RdA H t l:=by
  refine ⟨by have:=h.len; rw [flat_len (f:=acf) (n:=3) (fun _=>rfl)] at this; omega,fun i p hp=>?_,hok⟩
  obtain ⟨q,q0,hc⟩:=own_rd (f:=acf) (fun _=>rfl) (by omega) h hp
  have c0:=hc 0 (by omega); have c1:=hc 1 (by omega); have c2:=hc 2 (by omega)
  exact ⟨q,q0,by unfold Heap.ldB; rw [c0]; rfl,by unfold Heap.ldI; rw [c1]; rfl,by unfold Heap.ldI; rw [c2]; rfl⟩
theorem rdR_own {H:Heap} {t:Sl} {l:List Rw} (h:Own H 53 6 t ((l.map rcf).flatten)) (hok:∀ p ∈ l,p.Ok H):RdR H t l:=by
  refine ⟨by have:=h.len; rw [flat_len (f:=rcf) (n:=6) (fun _=>rfl)] at this; omega,fun i p hp=>?_,hok⟩
  obtain ⟨q,q0,hc⟩:=own_rd (f:=rcf) (fun _=>rfl) (by omega) h hp
  have c0:=hc 0 (by omega); have c1:=hc 1 (by omega); have c2:=hc 2 (by omega); have c3:=hc 3 (by omega); have c4:=hc 4 (by omega); have c5:=hc 5 (by omega)
  exact ⟨q,q0,by unfold Heap.ldB; rw [c0]; rfl,by unfold Heap.ldI; rw [c1]; rfl,by unfold Heap.ldI; rw [c2]; rfl,by unfold Heap.ldB; rw [c3]; rfl,by unfold Heap.ldI; rw [c4]; rfl,by unfold Heap.ldSl; rw [c5]; rfl⟩
end Go.Proofs.Ytobebcfkddimkaa

