/- Flows: two desks that hear each other at once; plain. -/
import Derived.Test.YtnlfkllnmobppaaCD1
namespace Go.Proofs.Ytnlfkllnmobppaa
set_option linter.unusedVariables false
set_option linter.unusedSimpArgs false

/-- the letters of side k, heard by the other -/
def deliver (k:Int):List Lt→Dk→Option Dk
  | [],D=>some D
  | l :: ls,D=>if l.to = 1 - k∧(D.hear k l.m).1 = 0 then deliver k ls (D.hear k l.m).2 else none
theorem Dk.take_id {D:Dk} (h:D.out = []):D.take = D:=by
  obtain ⟨⟩:=D
  simp only at h
  subst h; rfl
/-- one letter goes over, and what it calls forth comes back -/
def One (k:Int) (S T S2 T2:Dk):Prop:=∃ l T1,S.out = [l]∧T.out = []∧deliver k [l] T = some T1∧deliver (1 - k) T1.out S.take = some S2∧S2.out = []∧T2 = T1.take
theorem settleK_one {k:Int} (hk:k = 0 ∨ k = 1) {S T T1 S1:Dk} {l:Lt} (hs:S.out = [l]) (ht:T.out = []) (h1:deliver k [l] T = some T1) (h2:deliver (1 - k) T1.out S.take = some S1) (h3:S1.out = []):One k S T S1 T1.take :=
  ⟨l,T1,hs,ht,h1,h2,h3,rfl⟩

/-- a section of two sides -/
structure Gp where
  by':Int
  cls:Int
  st:Int
  ga:Int:=0
  gb:Int:=0
structure Gp.Ok (p:Gp):Prop where
  b:p.by' = 0 ∨ p.by' = 1
  c:p.cls = 2 ∨ p.cls = 3
  s:p.st = 1 ∨ p.st = 2 ∨ p.st = 3
  a1:0 ≤ p.ga∧p.ga ≤ 127
  a2:0 ≤ p.gb∧p.gb ≤ 127
  z:p.st = 1→p.ga = 0∧p.gb = 0
def Gp.g (p:Gp) (k:Int):Int:=if k = 0 then p.ga else p.gb
def Gp.sec (p:Gp) (k:Int) (i:Nat):Sc where
  ref:=i + 1
  pt:=1 - k
  oth:=if p.st = 1∧p.by' = k then 0 else i + 1
  cls:=p.cls
  st:=if p.st = 1 then (if p.by' = k then 1 else 2) else 3
  giv:=p.g k
  ack:=p.g k
  wan:=p.g (1 - k)
/-- a desk between two acts -/
structure DI (k:Int) (D:Dk) (l:List Gp):Prop where
  last:D.last = l.length
  out:D.out = []
  evs:D.evs = []
  fnd:∀ (i:Nat) (p:Gp),l[i]? = some p→D.find ((i:Int) + 1) = if p.st = 3 then none else some (p.sec k i)
  lt:∀ r ∈ D.refs,1 ≤ r∧r ≤ l.length
  flt:∀ e ∈ D.fro,1 ≤ e.1∧e.1 ≤ l.length
  len:D.all.length + D.fro.length = l.length
  opn:D.all.length = (l.filter fun p=>decide (p.st ≠ 3)).length
  nd:D.refs.Nodup
  w:1 ≤ D.w
theorem getElem?_set_some {α:Type} {l:List α} {i j:Nat} {a b p:α} (hi:l[i]? = some p) (h:(l.set i a)[j]? = some b):(j = i∧b = a) ∨ (j ≠ i∧l[j]? = some b):=by
  rw [List.getElem?_set] at h
  split at h
  · rename_i e
    subst e
    split at h
    · exact .inl ⟨rfl,(Option.some.inj h).symm⟩
    · cases h
  · rename_i e
    exact .inr ⟨fun e2=>e e2.symm,h⟩
theorem filter_set_len {l:List Gp} {i:Nat} {p a:Gp} (hi:l[i]? = some p) (f:Gp→Bool):((l.set i a).filter f).length + (if f p then 1 else 0) = (l.filter f).length + (if f a then 1 else 0):=by
  induction l generalizing i with
  | nil=>simp at hi
  | cons b l ih =>
    cases i with
    | zero =>
      simp only [List.getElem?_cons_zero,Option.some.injEq] at hi
      subst hi
      simp only [List.set_cons_zero,List.filter_cons]
      cases f b <;> cases f a <;> simp
    | succ i =>
      simp only [List.getElem?_cons_succ] at hi
      have:=ih hi
      simp only [List.set_cons_succ,List.filter_cons]
      split
      · simp only [List.length_cons]; omega
      · exact this
section
variable {k:Int} {D D':Dk} {l:List Gp} {i:Nat} {p p':Gp}
theorem DI.upd (h:DI k D l) (hi:l[i]? = some p) (hp:p.st ≠ 3) (hp':p'.st ≠ 3) (e1:D'.last = D.last) (e2:D'.out = []) (e3:D'.evs = []) (e4:∀ r,D'.find r = if r = (i:Int) + 1 then some (p'.sec k i) else D.find r) (e5:D'.refs = D.refs) (e6:D'.fro = D.fro) (e7:D'.w = D.w):DI k D' (l.set i p'):=by
  have el:D'.all.length = D.all.length:=by have:=congrArg List.length e5; simpa [Dk.refs] using this
  refine ⟨by rw [e1,h.last]; simp,e2,e3,fun j q hq=>?_,fun r hr=>?_,fun e he=>?_,?_,?_,by rw [e5]; exact h.nd,by rw [e7]; exact h.w⟩
  · rw [e4]
    rcases getElem?_set_some hi hq with ⟨rfl,rfl⟩ | ⟨hne,hq'⟩
    · rw [if_pos rfl,if_neg hp']
    · rw [if_neg (by omega)]; exact h.fnd j q hq'
  · rw [e5] at hr; have:=h.lt r hr; simpa using this
  · rw [e6] at he; have:=h.flt e he; simpa using this
  · rw [el,e6]; have:=h.len; simpa using this
  · rw [el,h.opn]
    have:=filter_set_len hi (a:=p') (fun p=>decide (p.st ≠ 3))
    simp only [hp,hp',ne_eq,not_false_eq_true,decide_true,if_true] at this
    simp only [ne_eq]
    omega
theorem DI.fin (h:DI k D l) (hi:l[i]? = some p) (hp:p.st ≠ 3) (e1:D'.last = D.last) (e2:D'.out = []) (e3:D'.evs = []) {z:Int} (e4:∀ r,D'.find r = if r = (i:Int) + 1 then none else D.find r) (e5:D'.refs.Nodup) (e8:∀ r ∈ D'.refs,r ∈ D.refs) (e9:D'.all.length + 1 = D.all.length) (e6:D'.fro = D.fro ++ [((i:Int) + 1,z)]) (e7:D'.w = D.w) (hp':p'.st = 3):DI k D' (l.set i p'):=by
  have hil:i < l.length:=(List.getElem?_eq_some_iff.1 hi).1
  refine ⟨by rw [e1,h.last]; simp,e2,e3,fun j q hq=>?_,fun r hr=>?_,fun e he=>?_,?_,?_,e5,by rw [e7]; exact h.w⟩
  · rw [e4]
    rcases getElem?_set_some hi hq with ⟨rfl,rfl⟩ | ⟨hne,hq'⟩
    · rw [if_pos rfl,if_pos hp']
    · rw [if_neg (by omega)]; exact h.fnd j q hq'
  · have:=h.lt r (e8 r hr); simpa using this
  · rw [e6] at he
    rcases List.mem_append.1 he with he | he
    · have:=h.flt e he; simpa using this
    · rw [List.mem_singleton.1 he]; simp only [List.length_set]; omega
  · rw [e6]; have:=h.len; simp only [List.length_append,List.length_cons,List.length_nil,List.length_set]; omega
  · have:=filter_set_len hi (a:=p') (fun p=>decide (p.st ≠ 3))
    have:=h.opn
    simp only [hp,hp',ne_eq,not_false_eq_true,decide_true,not_true_eq_false,decide_false,Bool.false_eq_true,if_true,if_false] at *
    omega
theorem DI.none_at (h:DI k D l) {r:Int} (hr:l.length < r):D.find r = none:=by
  cases hf:D.find r with
  | none=>rfl
  | some s =>
    have:=(h.lt r (Dk.mem_refs.2 (by rw [hf]; simp))).2
    omega
theorem DI.isf_at (h:DI k D l) {r:Int} (hr:l.length < r):D.isf r = false:=by
  unfold Dk.isf
  rw [List.any_eq_false]
  intro e he
  have:=h.flt e he
  simp only [decide_eq_true_eq]
  omega
theorem DI.add (h:DI k D l) (hl:l.length ≤ 1000) (pt oth cls st:Int):D.add pt oth cls st = some ({ D with last:=(l.length:Int) + 1,all:=D.all ++ [{ ref:=(l.length:Int) + 1,pt:=pt,oth:=oth,cls:=cls,st:=st }] },{ ref:=(l.length:Int) + 1,pt:=pt,oth:=oth,cls:=cls,st:=st }):=by
  have h1:=h.len
  have hs:D.seek 8191 D.last = (l.length:Int) + 1:=by
    have hn:nxt1 D.last = (l.length:Int) + 1:=by unfold nxt1; rw [h.last]; omega
    have hf:D.free (nxt1 D.last) = true:=by
      unfold Dk.free
      rw [hn,h.none_at (by omega),h.isf_at (by omega)]; rfl
    rw [Dk.seek,if_pos hf,hn]
  unfold Dk.add
  rw [if_neg (by omega),hs]
theorem DI.snoc (h:DI k D l) (hp':p'.st ≠ 3) (e1:D'.last = (l.length:Int) + 1) (e2:D'.out = []) (e3:D'.evs = []) (e4:∀ r,D'.find r = if r = (l.length:Int) + 1 then some (p'.sec k l.length) else D.find r) (e5:D'.refs = D.refs ++ [(l.length:Int) + 1]) (e6:D'.fro = D.fro) (e7:D'.w = D.w):DI k D' (l ++ [p']):=by
  have el:D'.all.length = D.all.length + 1:=by have:=congrArg List.length e5; simpa [Dk.refs] using this
  refine ⟨by rw [e1]; simp,e2,e3,fun j q hq=>?_,fun r hr=>?_,fun e he=>?_,?_,?_,?_,by rw [e7]; exact h.w⟩
  · rw [e4]
    rw [List.getElem?_append] at hq
    split at hq
    · rename_i hj
      rw [if_neg (by omega)]; exact h.fnd j q hq
    · rename_i hj
      have:j - l.length = 0:=by
        cases hjl:j - l.length with
        | zero=>rfl
        | succ n=>rw [hjl] at hq; simp at hq
      rw [this] at hq
      simp only [List.getElem?_cons_zero,Option.some.injEq] at hq
      obtain rfl:j = l.length:=by omega
      subst hq
      rw [if_pos rfl,if_neg hp']
  · rw [e5] at hr
    simp only [List.length_append,List.length_cons,List.length_nil]
    rcases List.mem_append.1 hr with hr | hr
    · have:=h.lt r hr; omega
    · rw [List.mem_singleton.1 hr]; omega
  · rw [e6] at he; have:=h.flt e he
    simp only [List.length_append,List.length_cons,List.length_nil]; omega
  · rw [el,e6]; have:=h.len; simp only [List.length_append,List.length_cons,List.length_nil]; omega
  · rw [el,h.opn,List.filter_append,List.filter_cons,if_pos (by simpa using hp')]
    simp
  · rw [e5,List.nodup_append]
    refine ⟨h.nd,by simp,fun a ha b hb=>?_⟩
    simp only [List.mem_singleton] at hb
    have:=h.lt a ha; omega
end
end Go.Proofs.Ytnlfkllnmobppaa

