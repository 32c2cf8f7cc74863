/- A joiner beside what was there at first. -/
import Derived.Test.YtobebcfkddimkaaSP
namespace Go.Proofs.Ytobebcfkddimkaa
open Go AM Go.RowKit Go.Sort
set_option linter.unusedVariables false
set_option linter.unusedSimpArgs false

/-- a joiner beside what was there at first -/
structure LInv (H0 G:Heap) (x:Nat) (F:Nat→Prop) (S:St):Prop where
  ja:JA G x F S
  ext:Ext H0 G
  lo:∀ i,F i→H0.next ≤ i
  hi:∀ i,F i→i < G.next
section
variable {H0 G H':Heap} {x:Nat} {F:Nat→Prop} {S S':St}
theorem LInv.beside (h:LInv H0 G x F S) (hx:Ext G H') (hw:H'.Wf):LInv H0 H' x F S :=
  ⟨h.ja.ext hw hx.fr,h.ext.trans hx,h.lo,fun i hi=>Nat.lt_of_lt_of_le (h.hi i hi) hx.next⟩
theorem LInv.step (h:LInv H0 G x F S) (hj:JA H' x (grown F G H') S') (hf:Fr' F G H'):LInv H0 H' x (grown F G H') S':=by
  refine ⟨hj,⟨Nat.le_trans h.ext.next hf.next,fun i hi _=>?_⟩,fun i hi=>?_,fun i hi=>?_⟩
  · rw [hf.same i (Nat.lt_of_lt_of_le hi h.ext.next) (fun hF=>by have:=h.lo i hF; omega)]
    exact h.ext.same i hi (fun h=>h)
  · rcases hi with hi | hi
    · exact h.lo i hi
    · have:=h.ext.next; omega
  · rcases hi with hi | hi
    · exact Nat.lt_of_lt_of_le (h.hi i hi) hf.next
    · exact hi.2
end
/-- an act -/
structure Ac where
  t:Bool
  pc:Int
  pt:Int
structure RdA (H:Heap) (t:Sl) (l:List Ac):Prop where
  len:t.len = l.length
  rd:∀ i a,l[i]? = some a→∃ q,t.a = some q∧H.ldB q.1 (q.2 + i * 3 + 0) = some a.t∧H.ldI .u8 q.1 (q.2 + i * 3 + 1) = some a.pc∧H.ldI .u8 q.1 (q.2 + i * 3 + 2) = some a.pt
  ok:∀ a ∈ l,(0 ≤ a.pc∧a.pc ≤ 255)∧(0 ≤ a.pt∧a.pt ≤ 255)
theorem RdA.ext {H G:Heap} {t:Sl} {l:List Ac} (h:RdA H t l) (hw:H.Wf) (hx:Ext H G):RdA G t l :=
  ⟨h.len,fun i p hp=>by
    obtain ⟨q,q0,q1,q2,q3⟩:=h.rd i p hp
    exact ⟨q,q0,ldB_ext hw hx q1,ldI_ext hw hx q2,ldI_ext hw hx q3⟩,h.ok⟩
theorem bsU_size (l:List Int):(bsU (u8s l)).size = l.length:=by simp [bsU,u8s,ByteArray.size]
end Go.Proofs.Ytobebcfkddimkaa

