/- Tick behind the range: what is due is given up, and the lost ones are sorted. -/
import Derived.Test.YtobebcfkddimkaaTS
namespace Go.Proofs.Ytobebcfkddimkaa
open Go AM Go.RowKit Go.Shelf Go.Sort
set_option linter.unusedVariables false
set_option linter.unusedSimpArgs false

abbrev ken (l:List Ky):List V:=(l.map encK).flatten
theorem ken_append (l m:List Ky):ken (l ++ m) = ken l ++ ken m:=by simp [ken]
theorem ken_len (l:List Ky):(ken l).length = l.length * 2:=CK.lens l
theorem ken_get {l:List Ky} {i:Nat} {k:Ky} (h:l[i]? = some k):(ken l)[i * 2]? = some (.i .u16 k.1)∧(ken l)[i * 2 + 1]? = some (.i .u32 k.2):=by
  induction l generalizing i with
  | nil=>simp at h
  | cons x l ih =>
    cases i with
    | zero=>simp at h; subst h; exact ⟨rfl,rfl⟩
    | succ i =>
      have:=ih (i:=i) (by simpa using h)
      simp only [ken,List.map_cons,List.flatten_cons]
      rw [show (i + 1) * 2 = i * 2 + 2 by omega]
      exact ⟨by simpa [encK] using this.1,by rw [show i * 2 + 2 + 1 = (i * 2 + 1) + 2 by omega]; simpa [encK] using this.2⟩
/-- the result of a sort is all that counts of a row's order -/
theorem sortBy_eq {l l':List Ky} (h:l.Perm l'):sortBy cmpK l = sortBy cmpK l':=by
  have key:∀ l:List Ky,(sortBy cmpK l).Pairwise fun x y=>(!(ltOf cmpK) y x) = true:=fun l=>by
    refine List.pairwise_mergeSort (fun a b c h1 h2=>?_) (fun a b=>?_) l
    · simp only [Bool.not_eq_true'] at h1 h2 ⊢
      exact cmpK_swo.ntrans c b a h2 h1
    · simp only [Bool.or_eq_true,Bool.not_eq_true']
      rw [cmpK_lt,cmpK_lt]
      simp only [decide_eq_false_iff_not]
      omega
  refine List.Perm.eq_of_pairwise (le:=fun x y=>(!(ltOf cmpK) y x) = true) (fun a b _ _ h1 h2=>?_) (key l) (key l') ((sortBy_perm cmpK l).trans (h.trans (sortBy_perm cmpK l').symm))
  simp only [Bool.not_eq_true'] at h1 h2
  exact cmpK_tot a b h2 h1
theorem filter_filter_mem (us:List Pk) (a:List Ky) (k:Ky):((us.filter fun v=>decide (v.k ∉ a)).filter fun v=>decide (v.k ≠ k)) = us.filter fun v=>decide (v.k ∉ a ++ [k]):=by
  rw [List.filter_filter]
  congr 1
  funext v
  simp only [List.mem_append,List.mem_singleton,not_or,decide_eq_decide,ne_eq]
  by_cases h1:v.k ∈ a <;> by_cases h2:v.k = k <;> simp [h1,h2]

/-- behind the range -/
theorem tail_ok {G : Heap} (hw : G.Wf) {x m ck : Nat} {w : Int} {s : Sl} {us : List Pk} {ls ov : List Ky} {os : Sl} (hx : G.get x = some (.cells (jc w m s) 64 false)) (hm : G.get m = some (.map (us.map Pk.ent) ck)) (hs : Own G 57 2 s (ken ls)) (ho : Own G 57 2 os (ken ov))
    (hn:(us.map (·.k)).Nodup) (hov:ov.Nodup) (hin:∀ k ∈ ov,∃ u ∈ us,u.k = k) (hd:(x :: m :: sid s).Nodup) (hdo:∀ i ∈ sid os,i ∉ x :: m :: sid s) (hsz:(ls.length + ov.length) * 8 ≤ 140737488355328) (hz:ls = []→s = nilS) :
    ∃ r H',(∀ (R:Type) (K:Sl→Heap→Option R),g11_p6 g23 g24 g25 R (some (x,0)) os G K = K r H')∧H'.get x = some (.cells (jc w m nilS) 64 false)∧H'.get m = some (.map ((us.filter fun v=>decide (v.k ∉ ov)).map Pk.ent) ck)∧H'.Wf ∧
      G.next ≤ H'.next∧(∀ i,i < G.next→i ∉ x :: m :: sid s→H'.get i = G.get i) ∧
      (ls ++ ov = []∧r = nilS ∨ ∃ q,ls ++ ov ≠ []∧r = ⟨some (q,0),(ls ++ ov).length,.ex (ls ++ ov).length⟩∧H'.get q = some (.cells (ken (sortBy cmpK (ls ++ ov))) 57 false)∧q ∉ [x,m]∧(q ∈ sid s ∨ G.next ≤ q)):=by
  have hol:os.len = ov.length:=by have:=ho.len; rw [ken_len] at this; omega
  have hsl:s.len = ls.length:=by have:=hs.len; rw [ken_len] at this; omega
  -- the loop
  obtain ⟨rr,H1,e1,hrr,si,k1,k2,k3,k4,k5,k6,k7,k8⟩:=tlim_inv (b:=g11_p2_b g23 g24 g25)
    (fun st H=>∃ i s',i ≤ ov.length∧st = (some (x,0),os,(ov.length:Int),(i:Int))∧H.get x = some (.cells (jc w m s') 64 false)∧H.get m = some (.map ((us.filter fun v=>decide (v.k ∉ ov.take i)).map Pk.ent) ck)∧Own H 57 2 s' (ken (ls ++ ov.take i))∧H.Wf∧G.next ≤ H.next ∧
      (∀ j,j < G.next→j ∉ x :: m :: sid s→H.get j = G.get j)∧(∀ j ∈ sid s',j ∈ sid s ∨ G.next ≤ j)∧(i = 0→s' = s))
    (fun st=>ov.length - st.2.2.2.toNat)
    (fun rr H=>rr = some (x,0)∧∃ s',H.get x = some (.cells (jc w m s') 64 false)∧H.get m = some (.map ((us.filter fun v=>decide (v.k ∉ ov)).map Pk.ent) ck)∧Own H 57 2 s' (ken (ls ++ ov))∧H.Wf∧G.next ≤ H.next ∧
      (∀ j,j < G.next→j ∉ x :: m :: sid s→H.get j = G.get j)∧(∀ j ∈ sid s',j ∈ sid s ∨ G.next ≤ j)∧(ov = []→s' = s)) (by
      rintro st H ⟨i,s',hi,rfl,a1,a2,a3,a4,a5,a6,a7,a8⟩
      by_cases hlt:i < ov.length
      · left
        have hk:ov[i]? = some ov[i]:=List.getElem?_eq_getElem hlt
        generalize hkk:ov[i] = k at hk
        obtain ⟨u,hu,huk⟩:=hin k (List.mem_of_getElem? hk)
        subst huk
        -- the cells of the list
        rcases ho.inv with ⟨_,hnil⟩ | ⟨id,n,rfl,ho1,ho2⟩
        · have:=congrArg List.length hnil; rw [ken_len] at this; simp only [List.length_nil] at this; omega
        have hido:id ∉ x :: m :: sid s:=hdo id (by simp [sid])
        have hG:H.get id = some (.cells (ken ov) 57 false):=by rw [a6 id (hw _ _ ho1) hido]; exact ho1
        obtain ⟨c1,c2⟩:=ken_get hk
        have l1:H.ldI .u16 id ((0 + Int.toNat (i:Int) * 2) + 0) = some u.k.1:=ldI_of hG (by rw [Int.toNat_natCast,Nat.zero_add,Nat.add_zero]; exact c1)
        have l2:H.ldI .u32 id ((0 + Int.toNat (i:Int) * 2) + 1) = some u.k.2:=ldI_of hG (by rw [Int.toNat_natCast,Nat.zero_add]; exact c2)
        have hnot:u.k ∉ ov.take i:=by
          intro hmem
          obtain ⟨j,hj⟩:=List.mem_iff_getElem?.1 hmem
          have hji:j < i:=by have:=(List.getElem?_eq_some_iff.1 hj).1; simp at this; omega
          rw [List.getElem?_take_of_lt hji] at hj
          have:=(List.getElem?_inj (i:=j) (j:=i) (by omega) hov).1 (hj.trans hk.symm)
          omega
        have hnd:(((us.filter fun v=>decide (v.k ∉ ov.take i))).map (·.k)).Nodup:=hn.sublist (List.Sublist.map _ (List.filter_sublist))
        have hxlt:x < G.next:=hw _ _ hx
        have hmlt:m < G.next:=hw _ _ hm
        have hd':(x :: m :: sid s').Nodup:=by
          have hxm:x ≠ m:=by intro e; subst e; rw [hx] at hm; cases hm
          cases hsi:s'.a with
          | none=>simp [sid,hsi,hxm]
          | some q =>
            have hq:=a7 q.1 (by simp [sid,hsi])
            simp only [sid,hsi,List.nodup_cons,List.mem_cons,List.not_mem_nil,or_false,not_or,not_false_eq_true,List.nodup_nil,and_true]
            rcases hq with hq | hq
            · simp only [List.nodup_cons,List.mem_cons,not_or] at hd
              exact ⟨⟨hxm,fun e=>hd.1.2 (e ▸ hq)⟩,fun e=>hd.2.1 (e ▸ hq)⟩
            · exact ⟨⟨hxm,by omega⟩,by omega⟩
        have hlen':s'.len = ls.length + i:=by
          have:=a3.len
          rw [ken_len,List.length_append,List.length_take] at this
          omega
        obtain ⟨s2,H2,b1,b2,b3,b4,b5,b6,b7,b8⟩:=s23 a4 a1 a2 a3 hnd (u:=u) (List.mem_filter.2 ⟨hu,by simpa using hnot⟩) hd' (by omega)
        have wk:IntKind.wrap .i64 ((i:Int) + 1) = ((i + 1:Nat):Int):=by
          have:ov.length ≤ 17592186044416:=by omega
          rw [w64 (by omega)]; rfl
        have htake:ov.take (i + 1) = ov.take i ++ [u.k]:=by rw [List.take_add_one,hk]; rfl
        refine ⟨(some (x,0),⟨some (id,0),n,.op 2⟩,(ov.length:Int),((i + 1:Nat):Int)),H2,?_,⟨i + 1,s2,by omega,rfl,b2,?_,?_,b7,Nat.le_trans a5 b8.next,fun j hj hjn=>?_,fun j hj=>?_,fun h=>by omega⟩,by dsimp only; omega⟩
        · simp only [g11_p2_b,g11_p1]
          rw [show decide ((i:Int) < (ov.length:Int)) = true by simp; omega,sel_true]
          rw [if_pos (by simp only at hol; omega),Option.bind_some,l1,Option.bind_some,l2,Option.bind_some,b1,wk]
        · rw [b3,filter_filter_mem,htake]
        · rw [htake,← List.append_assoc,ken_append]
          have:ken [u.k] = encK u.k:=by simp [ken]
          rw [this]; exact b4
        · rw [b8.same j (by omega) ?_,a6 j hj hjn]
          simp only [List.mem_cons,not_or] at hjn ⊢
          refine ⟨hjn.1,hjn.2.1,fun hmem=>?_⟩
          rcases a7 j hmem with h | h
          · exact hjn.2.2 h
          · omega
        · have:=b6 j hj; right; omega
      · right
        have hi':i = ov.length:=by omega
        subst hi'
        rw [List.take_length] at a2 a3
        refine ⟨some (x,0),H,?_,rfl,s',a1,a2,a3,a4,a5,a6,a7,fun h=>a8 (by rw [h]; rfl)⟩
        simp only [g11_p2_b,g11_p1]
        rw [show decide ((ov.length:Int) < (ov.length:Int)) = false by simp,sel_false]) (some (x,0),os,(ov.length:Int),0) G ⟨0,s,by omega,rfl,hx,by rw [List.take_zero,List.filter_eq_self.2 (fun v _=>by simp)]; exact hm,by simpa using hs,hw,Nat.le_refl _,fun _ _ _=>rfl,fun j hj=>.inl hj,fun _=>rfl⟩
  subst hrr
  have hxm:x ≠ m:=by intro e; subst e; rw [hx] at hm; cases hm
  have hxlt:x < G.next:=hw _ _ hx
  have hmlt:m < G.next:=hw _ _ hm
  have l3:=(ldJ k1).2.2
  have st:=st_of (off:=0 + 2) (v:=V.sl nilS) k1 (by simp [jc]) rfl
  rw [show (jc w m si).set (0 + 2) (.sl nilS) = jc w m nilS from rfl] at st
  have hlen:si.len = (ls ++ ov).length:=by
    have:=k3.len
    rw [ken_len] at this; omega
  have hqd:∀ q,si.a = some (q,0)→q ≠ x∧q ≠ m:=by
    intro q hq
    have hmem:q ∈ sid si:=by simp [sid,hq]
    rcases k7 q hmem with h | h
    · simp only [List.nodup_cons,List.mem_cons,not_or] at hd
      exact ⟨fun e=>hd.1.2 (e ▸ h),fun e=>hd.2.1 (e ▸ h)⟩
    · exact ⟨by omega,by omega⟩
  have start:∀ (R:Type) (K:Sl→Heap→Option R),g11_p6 g23 g24 g25 R (some (x,0)) os G K = g25 R ⟨si.a,si.len,.ex si.len⟩ (H1.put x (.cells (jc w m nilS) 64 false)) fun h12=>K ⟨si.a,si.len,.ex si.len⟩ h12:=fun R K=>by
    simp only [g11_p6,g11_p0,g11_p5,g11_p3,g11_p2,hol]
    rw [e1]
    simp only [Option.bind_some,g11_p4,l3,s24 k3]
    rw [show Sl.mk none 0 (.ex 0) = nilS from rfl,st]
    rfl
  have gmx:(H1.put x (.cells (jc w m nilS) 64 false)).get m = some (.map ((us.filter fun v=>decide (v.k ∉ ov)).map Pk.ent) ck):=by rw [Heap.get_put,if_neg hxm.symm]; exact k2
  have wx:(H1.put x (.cells (jc w m nilS) 64 false)).Wf:=k4.put k1 _
  by_cases h0:ls ++ ov = []
  · obtain ⟨h1,h2⟩:=List.append_eq_nil_iff.1 h0
    have hsi:si = nilS:=(k8 h2).trans (hz h1)
    subst hsi
    refine ⟨nilS,_,fun R K=>?_,Heap.gput _ _ _,gmx,wx,k5,fun i hi hin=>?_,.inl ⟨h0,rfl⟩⟩
    · rw [start]
      unfold g25
      rw [if_pos (show (Sl.mk nilS.a nilS.len (.ex nilS.len)).len = 0 from rfl)]
      rfl
    · simp only [List.mem_cons,not_or] at hin
      rw [Heap.get_put,if_neg hin.1]
      exact k6 i hi (by simp only [List.mem_cons,not_or]; exact hin)
  · rcases k3.inv with ⟨_,h1⟩ | ⟨q,n,rfl,g1,g2⟩
    · exact absurd (by have:=congrArg List.length h1; rw [ken_len,List.length_nil] at this; exact List.length_eq_zero_iff.1 (by omega)) h0
    · simp only at hlen
      subst hlen
      have hpos:(ls ++ ov).length ≠ 0:=by simpa using h0
      obtain ⟨hqx,hqm⟩:=hqd q rfl
      have gq:(H1.put x (.cells (jc w m nilS) 64 false)).get q = some (.cells (ken (ls ++ ov)) 57 false):=by rw [Heap.get_put,if_neg hqx]; exact g1
      have hsp:splice (ken (ls ++ ov)) 0 (ken (sortBy cmpK (ls ++ ov))) = ken (sortBy cmpK (ls ++ ov)):=by
        unfold splice
        rw [List.take_zero,List.nil_append,Nat.zero_add,List.drop_of_length_le (by rw [ken_len,ken_len,(sortBy_perm cmpK _).length_eq]; exact Nat.le_refl _),List.append_nil]
      refine ⟨⟨some (q,0),(ls ++ ov).length,.ex (ls ++ ov).length⟩,(H1.put x (.cells (jc w m nilS) 64 false)).put q (.cells (ken (sortBy cmpK (ls ++ ov))) 57 false),fun R K=>?_,?_,?_,wx.put gq _,k5,fun i hi hin=>?_,.inr ⟨q,h0,rfl,Heap.gput _ _ _,by simp [hqx,hqm],k7 q (by simp [sid])⟩⟩
      · rw [start]
        unfold g25
        simp only
        rw [if_neg hpos]
        simp only [gq]
        rw [if_pos ⟨by rw [ken_len]; omega,by simp only [List.length_append]; omega⟩,List.drop_zero,List.take_of_length_le (by rw [ken_len]; exact Nat.le_refl _),decL_enc,Option.bind_some]
        rw [show (List.map encK (sortBy cmpK (ls ++ ov))).flatten = ken (sortBy cmpK (ls ++ ov)) from rfl,hsp]
      · rw [Heap.get_put,if_neg (fun e=>hqx e.symm)]; exact Heap.gput _ _ _
      · rw [Heap.get_put,if_neg (fun e=>hqm e.symm)]; exact gmx
      · have hq2 : i ≠ q := by
          rintro rfl
          rcases k7 i (by simp [sid]) with h | h
          · exact hin (by simp [h])
          · omega
        rw [Heap.get_put,if_neg hq2]
        simp only [List.mem_cons,not_or] at hin
        rw [Heap.get_put,if_neg hin.1]
        exact k6 i hi (by simp only [List.mem_cons,not_or]; exact hin)
end Go.Proofs.Ytobebcfkddimkaa

