/- SegmentsActs: the walk. -/
import Derived.Test.YtobebcfkddimkaaSXS
import Derived.Test.YtobebcfkddimkaaSXL
import Derived.Test.YtobebcfkddimkaaSR
namespace Go.Proofs.Ytobebcfkddimkaa
open Go AM Go.RowKit Go.Sort
set_option linter.unusedVariables false
set_option linter.unusedSimpArgs false

theorem mcs_set {N:List Ab} {j:Nat} {a:Ab} {wt:Int} (h:N[j]? = some a):(mcs N).set (j * 5 + 4) (.i .i64 wt) = mcs (N.set j { a with wt:=wt }):=by
  induction N generalizing j with
  | nil=>simp at h
  | cons x N ih =>
    have hl:(mc x).length = 5:=rfl
    simp only [mcs,List.map_cons,List.flatten_cons]
    cases j with
    | zero =>
      simp at h; subst h
      rfl
    | succ j =>
      rw [List.set_append_right _ _ (by omega),hl,show (j + 1) * 5 + 4 - 5 = j * 5 + 4 by omega]
      have:=ih (j:=j) (by simpa using h)
      simp only [mcs] at this
      rw [this]
      simp
theorem mtick_snoc {M:List Ab} {k:Nat} {a:Ab} (h:M[k]? = some a):mtick (M.take (k + 1)) = mtick (M.take k) ++ (if 0 < a.wt - 1 then [mold a] else [])∧mdead (M.take (k + 1)) = mdead (M.take k) ++ (if 0 < a.wt - 1 then [] else [a.k]):=by
  have e:M.take (k + 1) = M.take k ++ [a]:=by rw [List.take_add_one,h]; rfl
  rw [e]
  unfold mtick mdead
  rw [List.filter_append,List.filter_append,List.map_append,List.map_append]
  by_cases h0:0 < a.wt - 1
  · have e1:([a].filter fun a=>decide (0 < a.wt - 1)) = [a]:=by rw [List.filter_cons,if_pos (decide_eq_true h0),List.filter_nil]
    have e2:([a].filter fun a=>!decide (0 < a.wt - 1)) = []:=by rw [List.filter_cons,if_neg (by rw [decide_eq_true h0]; decide),List.filter_nil]
    rw [if_pos h0,if_pos h0,e1,e2]
    exact ⟨rfl,rfl⟩
  · have e1:([a].filter fun a=>decide (0 < a.wt - 1)) = []:=by rw [List.filter_cons,if_neg (by rw [decide_eq_false h0]; decide),List.filter_nil]
    have e2:([a].filter fun a=>!decide (0 < a.wt - 1)) = [a]:=by rw [List.filter_cons,if_pos (by rw [decide_eq_false h0]; decide),List.filter_nil]
    rw [if_neg h0,if_neg h0,e1,e2]
    exact ⟨rfl,rfl⟩
section
variable {H:Heap} {t8 t9:Sl} {M:List Ab} {L:List Ky}
/-- the model's tick -/
theorem stay_ok (h : Two H t8 t9 M L) (hw : ∀ a ∈ M, 1 ≤ a.wt ∧ a.wt ≤ 1048576) (hM : M.length ≤ 1000) (hL : L.length ≤ 1000) (t0 : Sl) (t5 : Int) (t6 : Option (Nat × Nat)) (t10 : Int) :
    ∃ t9' t12 H',(∀ (R:Type) (K),g5_p6 R t0 t5 t6 t8 t9 t10 nilS 0 H K = K t0 t5 t6 t9' t10 t12 H')∧Two H' t12 t9' (mtick M) (L ++ mdead M)∧Moved H H' t8 t9 t12 t9':=by
  have hl8:t8.len = M.length:=by have:=h.m.len; rw [mcs_len] at this; omega
  have s8lt:∀ q ∈ sid t8,q < H.next:=fun q hq=>h.m.sidlt h.wf hq
  have s9lt:∀ q ∈ sid t9,q < H.next:=fun q hq=>h.wf _ _ (h.l.sidg hq).2
  obtain ⟨rr,G,e,t9',t12,rfl,two,mv⟩:=tlim_inv (b:=g5_p5_b)
    (fun st G=>∃ (k:Nat) (t9' t12:Sl) (N:List Ab),st = (t0,t5,t6,t8,t9',t10,t12,(k:Int))∧k ≤ M.length∧N.length = M.length∧(∀ j,k ≤ j→N[j]? = M[j]?)∧RO G 55 5 t8 (mcs N) ∧
      Two G t12 t9' (mtick (M.take k)) (L ++ mdead (M.take k))∧Fr' (fun i=>i ∈ sid t8 ∨ i ∈ sid t9) H G∧(∀ q ∈ sid t12,H.next ≤ q)∧(∀ q ∈ sid t9',q ∈ sid t9 ∨ H.next ≤ q))
    (fun st=>M.length - st.2.2.2.2.2.2.2.toNat)
    (fun r G=>∃ t9' t12,r = (t0,t5,t6,t9',t10,t12)∧Two G t12 t9' (mtick M) (L ++ mdead M)∧Moved H G t8 t9 t12 t9') (by
      rintro st G ⟨k,t9',t12,N,rfl,hk,hN,hNj,hro,two,hfr,hs12,hs9⟩
      by_cases hlt:k < M.length
      · left
        have ha:M[k]? = some M[k]:=List.getElem?_eq_getElem hlt
        generalize M[k] = a at ha
        have hNa:N[k]? = some a:=(hNj k (Nat.le_refl _)).trans ha
        have hwa:=hw a (List.mem_of_getElem? ha)
        obtain ⟨hown,id,hid,hg⟩:=ro_at hro hNa
        have hidlt:id < H.next:=s8lt _ (sid_of hid)
        have ck:0 ≤ (k:Int)∧(k:Int) < ((t8.len:Nat):Int):=by omega
        have wk:IntKind.wrap .i64 ((k:Int) + 1) = ((k + 1:Nat):Int):=by rw [w64 (by omega)]; rfl
        have ww:IntKind.wrap .i64 (a.wt - 1) = a.wt - 1:=w64 (by omega)
        have l4:G.ldI .i64 id (0 + k * 5 + 4) = some a.wt:=ldI_of hg (by rw [Nat.zero_add]; exact mcs_get hNa (by omega))
        have s4:G.st id (0 + k * 5 + 4) (.i .i64 (a.wt - 1)) = some (G.put id (.cells (mcs (N.set k (mold a))) 55 false)):=by
          rw [st_of hg (by rw [mcs_len]; omega) rfl,Nat.zero_add,mcs_set hNa]; rfl
        have w2:=two.wf.put hg (.cells (mcs (N.set k (mold a))) 55 false)
        have g2:=Heap.gput G id (.cells (mcs (N.set k (mold a))) 55 false)
        have k2:∀ i,i ≠ id→(G.put id (.cells (mcs (N.set k (mold a))) 55 false)).get i = G.get i:=fun i hi=>by rw [Heap.get_put,if_neg hi]
        have n2:(G.put id (.cells (mcs (N.set k (mold a))) 55 false)).next = G.next:=rfl
        generalize G.put id (.cells (mcs (N.set k (mold a))) 55 false) = G2 at *
        have hN2:(N.set k (mold a))[k]? = some (mold a):=List.getElem?_set_self (by omega)
        have m0:G2.ldI .u16 id (0 + k * 5 + 0) = some a.k.1:=ldI_of g2 (by rw [Nat.zero_add]; exact mcs_get (a:=mold a) hN2 (by omega))
        have m1:G2.ldI .u32 id (0 + k * 5 + 1) = some a.k.2:=ldI_of g2 (by rw [Nat.zero_add]; exact mcs_get (a:=mold a) hN2 (by omega))
        have m2:G2.ldS id (0 + k * 5 + 2) = some (bsU (u8s a.d)):=ldS_of g2 (by rw [Nat.zero_add]; exact mcs_get (a:=mold a) hN2 (by omega))
        have m3:G2.ldI .i64 id (0 + k * 5 + 3) = some a.nx:=ldI_of g2 (by rw [Nat.zero_add]; exact mcs_get (a:=mold a) hN2 (by omega))
        have m4:G2.ldI .i64 id (0 + k * 5 + 4) = some (a.wt - 1):=ldI_of g2 (by rw [Nat.zero_add]; exact mcs_get (a:=mold a) hN2 (by omega))
        have id12:id ∉ sid t12:=fun hq=>by have:=hs12 _ hq; omega
        have id9:id ∉ sid t9':=fun hq=>by
          rcases hs9 _ hq with h1 | h1
          · exact h.dis _ (sid_of hid) h1
          · omega
        have two2:Two G2 t12 t9' (mtick (M.take k)) (L ++ mdead (M.take k)):=⟨w2,two.m.mono (by omega) fun i o ha' ho=>by rw [k2 i (fun e=>id12 (e ▸ sid_of ha'))]; exact ho,two.l.mono fun i o ha' ho=>by rw [k2 i (fun e=>id9 (e ▸ sid_of ha'))]; exact ho,two.dis⟩
        have own2:Own G2 55 5 t8 (mcs (N.set k (mold a))):=by
          rcases hown.inv with ⟨rfl,_⟩ | ⟨id',n,rfl,_,hn⟩
          · cases hid
          · simp only [Option.some.injEq,Prod.mk.injEq,and_true] at hid; subst hid
            exact .op _ _ _ g2 (by rw [mcs_len,List.length_set,← mcs_len,hn]) (mcs_one _)
        have fr2:Fr' (fun i=>i ∈ sid t8 ∨ i ∈ sid t9) H G2:=⟨by have:=hfr.next; omega,fun i hi hni=>by rw [k2 i (fun e=>hni (.inl (e ▸ sid_of hid)))]; exact hfr.same i hi hni⟩
        obtain ⟨tk1,tk2⟩:=mtick_snoc ha
        have hNj2:∀ j,k + 1 ≤ j→(N.set k (mold a))[j]? = M[j]?:=fun j hj=>by rw [List.getElem?_set_ne (by omega)]; exact hNj j (by omega)
        have hml:(mtick (M.take k)).length ≤ M.length:=by
          unfold mtick; have h1:=List.length_filter_le (fun a:Ab=>decide (0 < a.wt - 1)) (M.take k); simp only [List.length_map]; rw [List.length_take] at h1; omega
        have hdl:(mdead (M.take k)).length ≤ M.length:=by
          unfold mdead; have h1:=List.length_filter_le (fun a:Ab=>!decide (0 < a.wt - 1)) (M.take k); simp only [List.length_map]; rw [List.length_take] at h1; omega
        have hfn:=hfr.next
        by_cases hpos:0 < a.wt - 1
        · rw [if_pos hpos] at tk1 tk2
          rw [List.append_nil] at tk2
          obtain ⟨r,G3,e3,o3,f3,w3,n3⟩:=put_ok w2 two2.m (mold a) (by omega)
          have hn3:=f3.next
          have h8r:id ∉ sid t12:=id12
          refine ⟨(t0,t5,t6,t8,t9',t10,r,((k + 1:Nat):Int)),G3,?_,⟨k + 1,t9',r,N.set k (mold a),rfl,by omega,by rw [List.length_set]; exact hN,hNj2,.inl (own2.mono fun i o ha' ho=>f3.get w2 ho (fun hq=>?_)),⟨w3,by rw [tk1]; exact o3,?_,fun q hq hq'=>?_⟩,⟨by omega,fun i hi hni=>?_⟩,fun q hq=>?_,hs9⟩,by dsimp only; omega⟩
          · simp only [g5_p5_b,g5_p4]
            rw [show decide ((k:Int) < ((t8.len:Nat):Int)) = true by simp; omega,sel_true]
            simp only [if_pos ck,hid,Option.bind_some,Int.toNat_natCast,l4,ww,s4,m4,decide_eq_true (show a.wt - 1 > 0 from hpos),sel_true,m0,m1,m2,m3,wk]
            exact e3 _ fun s82 h83=>some (Rd.go (ρ:=g5_p5_O) (t0,t5,t6,t8,t9',t10,s82,((k + 1:Nat):Int)),h83)
          · rw [hid] at ha'; cases ha'; exact id12 hq
          · rw [tk2]; exact two2.l.mono fun i o ha' ho=>f3.get w2 ho (fun hq=>two2.dis _ hq (sid_of ha'))
          · have:=n3 q hq
            have:=w2 _ _ (two2.l.sidg hq').2; omega
          · rw [f3.same i (by omega) (fun hq=>by have:=hs12 _ hq; omega)]; exact fr2.same i hi hni
          · have:=n3 q hq; omega
        · rw [if_neg hpos] at tk1 tk2
          rw [List.append_nil] at tk1
          obtain ⟨r,G3,e3,o3,f3,w3,n3⟩:=note_ok w2 two2.l a.k (by simp only [List.length_append]; omega)
          have hn3:=f3.next
          refine ⟨(t0,t5,t6,t8,r,t10,t12,((k + 1:Nat):Int)),G3,?_,⟨k + 1,r,t12,N.set k (mold a),rfl,by omega,by rw [List.length_set]; exact hN,hNj2,.inl (own2.mono fun i o ha' ho=>f3.get w2 ho (fun hq=>?_)),⟨w3,?_,?_,fun q hq hq'=>?_⟩,⟨by omega,fun i hi hni=>?_⟩,hs12,fun q hq=>.inr ?_⟩,by dsimp only; omega⟩
          · simp only [g5_p5_b,g5_p4]
            rw [show decide ((k:Int) < ((t8.len:Nat):Int)) = true by simp; omega,sel_true]
            simp only [if_pos ck,hid,Option.bind_some,Int.toNat_natCast,l4,ww,s4,m4,decide_eq_false (show ¬a.wt - 1 > 0 from hpos),sel_false,m0,m1,wk]
            exact e3 _ fun s91 h92=>some (Rd.go (ρ:=g5_p5_O) (t0,t5,t6,t8,s91,t10,t12,((k + 1:Nat):Int)),h92)
          · rw [hid] at ha'; cases ha'; exact id9 hq
          · rw [tk1]
            exact two2.m.mono (by omega) fun i o ha' ho=>f3.get w2 ho (fun hq=>two2.dis _ (sid_of ha') hq)
          · rw [tk2,← List.append_assoc]; exact o3
          · have:=n3 q hq'
            have:=two2.m.sidlt w2 hq; omega
          · rw [f3.same i (by omega) (fun hq=>?_)]
            · exact fr2.same i hi hni
            · rcases hs9 _ hq with h1 | h1
              · exact hni (.inr h1)
              · omega
          · have:=n3 q hq; omega
      · right
        have hk':k = M.length:=by omega
        subst hk'
        rw [List.take_length] at two
        refine ⟨(t0,t5,t6,t9',t10,t12),G,?_,t9',t12,rfl,two,⟨hfr,fun q hq=>.inr (hs12 q hq),hs9⟩⟩
        simp only [g5_p5_b,g5_p4]
        rw [show decide (((M.length:Nat):Int) < ((t8.len:Nat):Int)) = false by simp; omega,sel_false]) (t0,t5,t6,t8,t9,t10,nilS,0) H ⟨0,t9,nilS,M,rfl,Nat.zero_le _,rfl,fun _ _=>rfl,h.m,⟨h.wf,.inl .nil,by simpa [mdead] using h.l,fun q hq=>(by cases hq)⟩,.refl _ _,fun q hq=>(by cases hq),fun q hq=>.inl hq⟩
  refine ⟨t9',t12,G,fun R K=>?_,two,mv⟩
  simp only [g5_p6,g5_p5]
  rw [e]
  rfl
end
end Go.Proofs.Ytobebcfkddimkaa

