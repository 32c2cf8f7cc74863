/- SegmentsActs: the model's step. -/
import Derived.Test.YtobebcfkddimkaaSXP
namespace Go.Proofs.Ytobebcfkddimkaa
open Go AM Go.RowKit Go.Sort
set_option linter.unusedVariables false
set_option linter.unusedSimpArgs false

def mc (a:Ab):List V:=[.i .u16 a.k.1,.i .u32 a.k.2,.s (bsU (u8s a.d)),.i .i64 a.nx,.i .i64 a.wt]
def mcs (M:List Ab):List V:=(M.map mc).flatten
theorem mcs_len (M:List Ab):(mcs M).length = M.length * 5:=by
  induction M with
  | nil=>rfl
  | cons a M ih=>simp only [mcs,List.map_cons,List.flatten_cons,List.length_append] at *; rw [ih]; simp only [mc,List.length_cons,List.length_nil]; omega
theorem mcs_app (M N:List Ab):mcs (M ++ N) = mcs M ++ mcs N:=by simp [mcs]
theorem mcs_one (M:List Ab):(mcs M).all V.one = true:=by
  induction M with
  | nil=>rfl
  | cons a M ih=>simp only [mcs,List.map_cons,List.flatten_cons,List.all_append,Bool.and_eq_true] at *; exact ⟨rfl,ih⟩
theorem mcs_get {M:List Ab} {j c:Nat} {a:Ab} (h:M[j]? = some a) (hc:c < 5):(mcs M)[j * 5 + c]? = (mc a)[c]?:=by
  induction M generalizing j with
  | nil=>simp at h
  | cons x M ih =>
    have hl:(mc x).length = 5:=rfl
    simp only [mcs,List.map_cons,List.flatten_cons]
    cases j with
    | zero =>
      simp at h; subst h
      rw [List.getElem?_append_left (by omega),Nat.zero_mul,Nat.zero_add]
    | succ j =>
      rw [List.getElem?_append_right (by omega),hl,show (j + 1) * 5 + c - 5 = j * 5 + c by omega]
      exact ih (by simpa using h)
theorem mcs_take (M:List Ab) (j:Nat) (hj:j ≤ M.length):(mcs M).take (j * 5) = mcs (M.take j):=by
  conv=>lhs; rw [← List.take_append_drop j M,mcs_app]
  rw [List.take_append_of_le_length (by rw [mcs_len,List.length_take]; omega),List.take_of_length_le (by rw [mcs_len,List.length_take]; omega)]
theorem mcs_drop (M:List Ab) (j:Nat) (hj:j ≤ M.length):(mcs M).drop (j * 5) = mcs (M.drop j):=by
  conv=>lhs; rw [← List.take_append_drop j M,mcs_app]
  rw [List.drop_append,List.drop_of_length_le (by rw [mcs_len,List.length_take]; omega),List.nil_append,mcs_len,List.length_take,show j * 5 - min j M.length * 5 = 0 by omega,List.drop_zero]
/-- rows of one's own, or an empty slice that is not nil -/
def RO (H:Heap) (e:TypeId) (sz:Nat) (s:Sl) (l:List V):Prop:=Own H e sz s l ∨ (l = []∧∃ id,s = ⟨some (id,0),0,.ex 0⟩∧id < H.next)
section
variable {H:Heap} {e:TypeId} {sz:Nat} {s:Sl} {l:List V}
theorem RO.len (h:RO H e sz s l):l.length = s.len * sz:=by
  rcases h with h | ⟨rfl,id,rfl,_⟩
  · exact h.len
  · simp
theorem RO.sidlt (h:RO H e sz s l) (hw:H.Wf) {q:Nat} (hq:q ∈ sid s):q < H.next:=by
  rcases h with h | ⟨rfl,id,rfl,hl⟩
  · exact hw _ _ (h.sidg hq).2
  · simp [sid] at hq; subst hq; exact hl
theorem RO.mono {G:Heap} (h:RO H e sz s l) (hn:H.next ≤ G.next) (hg:∀ id o,s.a = some (id,0)→H.get id = some o→G.get id = some o):RO G e sz s l:=by
  rcases h with h | ⟨rfl,id,rfl,hl⟩
  · exact .inl (h.mono hg)
  · exact .inr ⟨rfl,id,rfl,by omega⟩
theorem ro_append (hw : H.Wf) {bytes : Nat} (h : RO H e sz s l) {n : Nat} {new : List V} (hn : 0 < n) (hz : 0 < sz) (hl : new.length = n * sz) (ho : new.all V.one = true) (hb : (s.len + n) * bytes ≤ 140737488355328) (hm : s.len + n ≤ 9223372036854775807) :
    ∃ r H',(∀ (R:Type) (K:Sl→Heap→Option R),appendV H e sz bytes s n new K = K r H')∧Own H' e sz r (l ++ new)∧r.len = s.len + n∧r.a = some (H.next,0)∧H'.Wf∧H'.next = H.next + 1∧∀ i,i ≠ H.next→s.a ≠ some (i,0)→H'.get i = H.get i:=by
  rcases h with h | ⟨rfl,id,rfl,_⟩
  · exact own_append hw h hn hz hl ho hb hm
  · refine ⟨⟨some (H.next,0),0 + n,.op sz⟩,H.new (.cells new e false),fun R K=>?_,?_,rfl,rfl,hw.new _,rfl,fun i hi _=>by rw [Heap.get_new,if_neg hi]⟩
    · have hsl:slCells H sz ⟨some (id,0),0,.ex 0⟩ = some []:=by simp [slCells]
      simp only [appendV]
      rw [if_neg (by omega),if_neg (by omega),if_neg (by omega),if_pos ⟨hb,hm⟩,hsl]
      rfl
    · rw [List.nil_append,Nat.zero_add]
      exact .op _ _ _ (by simp) hl ho
/-- a part of rows of one's own -/
theorem own_part (h:Own H e sz s l) (hz:0 < sz) {lo hi:Nat} (h1:lo ≤ hi) (h2:hi ≤ s.len) (hs:s.a ≠ none):∃ s',(∀ (R:Type) (K:Sl→Option R),slOf sz s (some (lo:Int)) (some (hi:Int)) none K = K s')∧slCells H sz s' = some ((l.drop (lo * sz)).take ((hi - lo) * sz))∧s'.len = hi - lo:=by
  rcases h.inv with ⟨rfl,_⟩ | ⟨id,n,rfl,g,hl⟩
  · exact absurd rfl hs
  · simp only at h2
    have hm:lo * sz ≤ n * sz:=Nat.mul_le_mul_right _ (by omega)
    have hm2:hi * sz ≤ n * sz:=Nat.mul_le_mul_right _ (by omega)
    have hm3:(hi - lo) * sz = hi * sz - lo * sz:=Nat.sub_mul _ _ _
    have hm4:lo * sz ≤ hi * sz:=Nat.mul_le_mul_right _ h1
    refine ⟨⟨some (id,0 + lo * sz),hi - lo,.op sz⟩,fun R K=>?_,?_,rfl⟩
    · unfold slOf
      simp only [Option.getD_some,Option.isSome_none,Bool.false_and,Bool.false_eq_true,if_false,if_true]
      rw [if_pos (by omega)]
      simp only [Option.map_some,Int.toNat_natCast]
      rw [show ((hi:Int) - (lo:Int)).toNat = hi - lo by omega]
    · have:=slIs_of (off:=0 + lo * sz) (len:=hi - lo) (sz:=sz) (c:=.op sz) g (by omega)
      rw [Nat.zero_add] at this ⊢
      exact this
end
section
variable {H:Heap} {t8:Sl} {M:List Ab} {j:Nat}
/-- the model without an entry -/
theorem rm_ok (hw : H.Wf) (h : Own H 55 5 t8 (mcs M)) (hj : j < M.length) (hM : M.length ≤ 100000) : ∃ r H', (∀ (R : Type) (K : Sl → Heap → Option R), (alo H (.cells [] 55 false) fun i232 h233 => slOf 5 t8 none (some (j : Int)) none fun s234 => (slCells h233 5 s234).bind fun vs237 =>
      appendV h233 55 5 40 (Sl.mk (some (i232,0)) 0 (.ex 0)) s234.len vs237 fun s235 h236=>slOf 5 t8 (some (IntKind.wrap .i64 ((j:Int) + (1:Int)))) none none fun s238=>(slCells h236 5 s238).bind fun vs241=>appendV h236 55 5 40 s235 s238.len vs241 K) = K r H') ∧
      RO H' 55 5 r (mcs (M.eraseIdx j))∧Ext H H'∧H'.Wf∧(∀ q ∈ sid r,H.next ≤ q):=by
  have htl:t8.len = M.length:=by have:=h.len; rw [mcs_len] at this; omega
  have hsa:t8.a ≠ none:=by
    rcases h.inv with ⟨_,e⟩ | ⟨id,n,rfl,_⟩
    · have:=congrArg List.length e; rw [mcs_len,List.length_nil] at this; omega
    · simp
  have w1:=hw.new (.cells [] 55 false)
  have x1:=Ext.new H (.cells [] 55 false)
  have n1:(H.new (.cells [] 55 false)).next = H.next + 1:=rfl
  have h1:Own (H.new (.cells [] 55 false)) 55 5 t8 (mcs M):=h.mono fun id o _ ho=>x1.get hw ho
  obtain ⟨s1,e1,c1,l1⟩:=own_part h1 (by omega) (lo:=0) (hi:=j) (by omega) (by omega) hsa
  rw [Nat.zero_mul,List.drop_zero,Nat.sub_zero,mcs_take M j (by omega)] at c1
  rw [Nat.sub_zero] at l1
  have ro0:RO (H.new (.cells [] 55 false)) 55 5 ⟨some (H.next,0),0,.ex 0⟩ []:=.inr ⟨rfl,H.next,rfl,by rw [n1]; omega⟩
  -- the first append
  obtain ⟨s2,G2,e2,o2,w2,nx2,k2,f2⟩:∃ s2 G2,(∀ (R:Type) (K:Sl→Heap→Option R),appendV (H.new (.cells [] 55 false)) 55 5 40 ⟨some (H.next,0),0,.ex 0⟩ j (mcs (M.take j)) K = K s2 G2)∧RO G2 55 5 s2 (mcs (M.take j))∧G2.Wf∧H.next ≤ G2.next∧(∀ i,i < H.next→G2.get i = H.get i)∧(∀ q ∈ sid s2,H.next ≤ q):=by
    by_cases hj0:j = 0
    · subst hj0
      refine ⟨_,_,fun R K=>appendV_zero K _ _,by rw [List.take_zero]; exact ro0,w1,by rw [n1]; omega,fun i hi=>x1.same i hi (fun h=>h),fun q hq=>by simp [sid] at hq; omega⟩
    · obtain ⟨r,G,a1,a2,a3,a4,a5,a6,a7⟩:=ro_append w1 (bytes:=40) ro0 (n:=j) (new:=mcs (M.take j)) (by omega) (by omega) (by rw [mcs_len,List.length_take]; omega) (mcs_one _) (by simp only; omega) (by simp only; omega)
      refine ⟨r,G,a1,.inl a2,a5,by rw [a6,n1]; omega,fun i hi=>?_,fun q hq=>?_⟩
      · rw [a7 i (by rw [n1]; omega) (by simp; omega)]; exact x1.same i hi (fun h=>h)
      · simp only [sid,a4,List.mem_singleton] at hq; rw [n1] at hq; omega
  have h2:Own G2 55 5 t8 (mcs M):=h.mono fun id o _ ho=>by rw [k2 id (hw _ _ ho)]; exact ho
  obtain ⟨s3,e3,c3,l3⟩:=own_part h2 (by omega) (lo:=j + 1) (hi:=t8.len) (by omega) (Nat.le_refl _) hsa
  rw [mcs_drop M (j + 1) (by omega),List.take_of_length_le (by rw [mcs_len,List.length_drop]; omega)] at c3
  have hwj:IntKind.wrap .i64 ((j:Int) + 1) = ((j + 1:Nat):Int):=by rw [w64 (by omega)]; rfl
  have s2l:s2.len = j:=by have:=o2.len; rw [mcs_len,List.length_take] at this; omega
  have start : ∀ (R : Type) (K : Sl → Heap → Option R), (alo H (.cells [] 55 false) fun i232 h233 => slOf 5 t8 none (some (j : Int)) none fun s234 => (slCells h233 5 s234).bind fun vs237 =>
      appendV h233 55 5 40 (Sl.mk (some (i232,0)) 0 (.ex 0)) s234.len vs237 fun s235 h236=>slOf 5 t8 (some (IntKind.wrap .i64 ((j:Int) + (1:Int)))) none none fun s238=>(slCells h236 5 s238).bind fun vs241=>appendV h236 55 5 40 s235 s238.len vs241 K) = appendV G2 55 5 40 s2 (t8.len - (j + 1)) (mcs (M.drop (j + 1))) K:=fun R K=>by
    simp only [alo]
    have e1':∀ K,slOf (R:=R) 5 t8 none (some (j:Int)) none K = K s1:=fun K=>(show slOf 5 t8 none (some (j:Int)) none K = slOf 5 t8 (some ((0:Nat):Int)) (some (j:Int)) none K from rfl).trans (e1 R K)
    have e3':∀ K,slOf (R:=R) 5 t8 (some ((j + 1:Nat):Int)) none none K = K s3:=fun K=>(show slOf 5 t8 (some ((j + 1:Nat):Int)) none none K = slOf 5 t8 (some ((j + 1:Nat):Int)) (some ((t8.len:Nat):Int)) none K from rfl).trans (e3 R K)
    simp only [e1',c1,l1,Option.bind_some,e2,hwj,e3',c3,l3]
  have her:M.eraseIdx j = M.take j ++ M.drop (j + 1):=List.eraseIdx_eq_take_drop_succ _ _
  by_cases h0:t8.len - (j + 1) = 0
  · have hdr:M.drop (j + 1) = []:=List.drop_of_length_le (by omega)
    refine ⟨s2,G2,fun R K=>by rw [start,h0]; exact appendV_zero K _ _,by rw [her,hdr,List.append_nil]; exact o2,⟨nx2,fun i hi _=>k2 i hi⟩,w2,f2⟩
  · obtain ⟨r,G,a1,a2,a3,a4,a5,a6,a7⟩:=ro_append w2 (bytes:=40) o2 (n:=t8.len - (j + 1)) (new:=mcs (M.drop (j + 1))) (by omega) (by omega) (by rw [mcs_len,List.length_drop]; omega) (mcs_one _) (by omega) (by omega)
    refine ⟨r,G,fun R K=>by rw [start]; exact a1 R K,.inl (by rw [her,mcs_app]; exact a2),⟨by omega,fun i hi _=>?_⟩,a5,fun q hq=>?_⟩
    · rw [a7 i (by omega) (fun ha=>by have:=f2 i (sid_of ha); omega)]; exact k2 i hi
    · simp only [sid,a4,List.mem_singleton] at hq; omega
/-- a lost piece is noted -/
theorem note_ok (hw : H.Wf) {t9 : Sl} {L : List Ky} (h : Own H 57 2 t9 (ken L)) (k : Ky) (hL : L.length ≤ 100000) : ∃ r H', (∀ (R : Type) (K : Sl → Heap → Option R), (alo H (.cells [(V.i .u16 k.1), (V.i .u32 k.2)] 57 false) fun i242 h243 => ((slCells h243 2 (Sl.mk (some (i242, 0)) 1 (.ex 1)))).bind fun vs246 => appendV h243 57 2 8 t9 (Sl.mk (some (i242, 0)) 1 (.ex 1)).len vs246 K) = K r H') ∧
    Own H' 57 2 r (ken (L ++ [k]))∧Fr' (fun i=>i ∈ sid t9) H H'∧H'.Wf∧(∀ q ∈ sid r,H.next ≤ q):=by
  have w1:=hw.new (.cells (encK k) 57 false)
  have x1:=Ext.new H (.cells (encK k) 57 false)
  have n1:(H.new (.cells (encK k) 57 false)).next = H.next + 1:=rfl
  have h1:Own (H.new (.cells (encK k) 57 false)) 57 2 t9 (ken L):=h.mono fun id o _ ho=>x1.get hw ho
  have hl:t9.len = L.length:=by have:=h.len; rw [ken_len] at this; omega
  have sl:slCells (H.new (.cells (encK k) 57 false)) 2 ⟨some (H.next,0),1,.ex 1⟩ = some (encK k):=by
    have:=slIs_of (off:=0) (len:=1) (sz:=2) (c:=.ex 1) (Heap.gnew H (.cells (encK k) 57 false)) (by simp [encK])
    simpa [SlIs,encK] using this
  obtain ⟨r,G,a1,a2,a3,a4,a5,a6,a7⟩:=own_append w1 h1 (n:=1) (new:=encK k) (bytes:=8) (by omega) (by omega) rfl rfl (by omega) (by omega)
  refine ⟨r,G,fun R K=>?_,?_,⟨by rw [a6,n1]; omega,fun i hi hni=>?_⟩,a5,fun q hq=>?_⟩
  · simp only [alo]
    rw [show [(V.i .u16 k.1),(V.i .u32 k.2)] = encK k from rfl,sl,Option.bind_some]
    exact a1 R K
  · rw [ken_append]
    have:ken [k] = encK k:=by simp [ken]
    rw [this]; exact a2
  · rw [a7 i (by rw [n1]; omega) (fun ha=>hni (sid_of ha))]; exact x1.same i hi (fun h=>h)
  · simp only [sid,a4,List.mem_singleton] at hq; rw [n1] at hq; omega
/-- an entry is added -/
theorem put_ok (hw : H.Wf) (h : RO H 55 5 t8 (mcs M)) (a : Ab) (hM : M.length ≤ 100000) : ∃ r H', (∀ (R : Type) (K : Sl → Heap → Option R), (alo H (.cells (mc a) 55 false) fun i301 h302 => ((slCells h302 5 (Sl.mk (some (i301, 0)) 1 (.ex 1)))).bind fun vs305 => appendV h302 55 5 40 t8 (Sl.mk (some (i301, 0)) 1 (.ex 1)).len vs305 K) = K r H') ∧
    RO H' 55 5 r (mcs (M ++ [a]))∧Fr' (fun i=>i ∈ sid t8) H H'∧H'.Wf∧(∀ q ∈ sid r,H.next ≤ q):=by
  have w1:=hw.new (.cells (mc a) 55 false)
  have x1:=Ext.new H (.cells (mc a) 55 false)
  have n1:(H.new (.cells (mc a) 55 false)).next = H.next + 1:=rfl
  have h1:RO (H.new (.cells (mc a) 55 false)) 55 5 t8 (mcs M):=h.mono (by rw [n1]; omega) fun id o _ ho=>x1.get hw ho
  have hl:t8.len = M.length:=by have:=h.len; rw [mcs_len] at this; omega
  have sl:slCells (H.new (.cells (mc a) 55 false)) 5 ⟨some (H.next,0),1,.ex 1⟩ = some (mc a):=by
    have:=slIs_of (off:=0) (len:=1) (sz:=5) (c:=.ex 1) (Heap.gnew H (.cells (mc a) 55 false)) (by simp [mc])
    simpa [SlIs,mc] using this
  obtain ⟨r,G,a1,a2,a3,a4,a5,a6,a7⟩:=ro_append w1 h1 (n:=1) (new:=mc a) (bytes:=40) (by omega) (by omega) rfl rfl (by omega) (by omega)
  refine ⟨r,G,fun R K=>?_,.inl ?_,⟨by rw [a6,n1]; omega,fun i hi hni=>?_⟩,a5,fun q hq=>?_⟩
  · simp only [alo]
    rw [sl,Option.bind_some]
    exact a1 R K
  · rw [mcs_app]
    have:mcs [a] = mc a:=by simp [mcs]
    rw [this]; exact a2
  · rw [a7 i (by rw [n1]; omega) (fun ha=>hni (sid_of ha))]; exact x1.same i hi (fun h=>h)
  · simp only [sid,a4,List.mem_singleton] at hq; rw [n1] at hq; omega
end
end Go.Proofs.Ytobebcfkddimkaa

