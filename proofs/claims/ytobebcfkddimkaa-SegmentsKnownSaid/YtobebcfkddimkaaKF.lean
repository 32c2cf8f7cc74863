/- SegmentsKnown: full. -/
import Derived.Test.YtobebcfkddimkaaSL
import Derived.Test.YtobebcfkddimkaaSXL
import Derived.Test.YtobebcfkddimkaaSXP
namespace Go.Proofs.Ytobebcfkddimkaa
open Go AM Go.RowKit Go.Sort
set_option linter.unusedVariables false
set_option linter.unusedSimpArgs false

theorem hear_first {S : St} {k : Ky} {u : Sg} (hk : ¬16383 < k.1) (hck : u.ck = 0) (hf : u.f = true) (hno : ∀ a ∈ S.ps, a.k ≠ k) :
    S.hear k u = if 0 < u.l∧4096 ≤ S.ps.length then (S,⟨[],false,9⟩) else if 0 < u.l then (⟨S.w,S.ps ++ [⟨k,u.d,u.l - 1,S.w⟩],S.ls⟩,⟨[],false,0⟩) else (S,⟨u.d,true,0⟩):=by
  have hnone:S.find k = none:=List.find?_eq_none.2 fun a ha=>by simpa using hno a ha
  have hmap:(S.ps.map fun b=>if b.k = k then (⟨k,[] ++ u.d,u.l - 1,S.w⟩:Ab) else b) = S.ps:=by
    conv=>rhs; rw [← List.map_id S.ps]
    exact List.map_congr_left fun c hc=>if_neg (hno c hc)
  unfold St.hear
  rw [if_neg hk,if_neg (by simpa using hck),hnone]
  simp only
  rw [if_pos hf]
  by_cases h1:0 < u.l∧4096 ≤ S.ps.length
  · rw [if_pos h1,if_pos h1]
  · rw [if_neg h1,if_neg h1]
    unfold St.fin
    by_cases h0:0 < u.l
    · rw [if_pos h0,if_pos h0]
      have hps:(S.new k u.l).ps = S.ps ++ [⟨k,[],u.l,0⟩]:=rfl
      have hw:(S.new k u.l).w = S.w:=rfl
      have hls:(S.new k u.l).ls = S.ls:=rfl
      rw [hps,hw,hls,List.map_append,hmap]
      simp
    · rw [if_neg h0,if_neg h0]
      have:(S.new k u.l).del k = S:=by
        unfold St.del St.new
        rw [List.filter_append,List.filter_cons,if_neg (by simp),List.filter_nil,List.append_nil]
        rw [List.filter_eq_self.2 fun a ha=>by simpa using hno a ha]
      rw [this]
      rfl
/-- a first segment of an open piece: what was there is given up -/
theorem hear_again {S : St} {k : Ky} {u : Sg} (hk : ¬16383 < k.1) (hck : u.ck = 0) (hf : u.f = true) (hl : 0 < u.l) {a : Ab} (ha : a ∈ S.ps) (hak : a.k = k) :
    S.hear k u = (⟨S.w,(S.ps.filter fun a=>decide (a.k ≠ k)) ++ [⟨k,u.d,u.l - 1,S.w⟩],S.ls ++ [k]⟩,⟨[],false,0⟩):=by
  have hmap:((S.ps.filter fun a=>decide (a.k ≠ k)).map fun b=>if b.k = k then (⟨k,[] ++ u.d,u.l - 1,S.w⟩:Ab) else b) = (S.ps.filter fun a=>decide (a.k ≠ k)):=by
    conv=>rhs; rw [← List.map_id (S.ps.filter fun a=>decide (a.k ≠ k))]
    exact List.map_congr_left fun c hc=>if_neg (by simpa using (List.mem_filter.1 hc).2)
  unfold St.hear
  rw [if_neg hk,if_neg (by simpa using hck)]
  cases hfd:S.find k with
  | none=>exact absurd hak (find_not hfd a ha)
  | some b =>
    simp only
    rw [if_pos hf]
    unfold St.fin
    rw [if_pos hl]
    have hps:((S.drop k).new k u.l).ps = (S.ps.filter fun a=>decide (a.k ≠ k)) ++ [⟨k,[],u.l,0⟩]:=rfl
    have hw:((S.drop k).new k u.l).w = S.w:=rfl
    have hls:((S.drop k).new k u.l).ls = S.ls ++ [k]:=rfl
    rw [hps,hw,hls,List.map_append,hmap]
    simp
/-- how a joiner stands that has heard i first segments -/
structure FInv (S:St) (i:Nat):Prop where
  w:S.w = 3
  ls:S.ls = []
  len:S.ps.length = i
  ps:∀ a ∈ S.ps,0 ≤ a.k.1∧a.k.1 ≤ 6∧a.k.2 < i∧a.wt = 3∧a.d = []
  has:∀ j:Nat,j < i→∃ a ∈ S.ps,a.k = ((j:Int) % 7,(j:Int))
theorem FInv.next {S:St} {i:Nat} (h:FInv S i) (hi:i < 4096):S.hear ((i:Int) % 7,(i:Int)) ⟨i,true,1,[]⟩ = (⟨3,S.ps ++ [⟨((i:Int) % 7,(i:Int)),[],0,3⟩],[]⟩,⟨[],false,0⟩)∧FInv ⟨3,S.ps ++ [⟨((i:Int) % 7,(i:Int)),[],0,3⟩],[]⟩ (i + 1):=by
  have e:=hear_first (S:=S) (k:=((i:Int) % 7,(i:Int))) (u:=⟨i,true,1,[]⟩) (by show ¬16383 < (i:Int) % 7; omega) rfl rfl (fun a ha e=>by
    have:=(h.ps a ha).2.2.1
    rw [e] at this
    exact absurd this (by show ¬(i:Int) < i; omega))
  rw [if_neg (by rw [h.len]; omega),if_pos (show (0:Int) < 1 by decide),h.w,h.ls] at e
  refine ⟨e,rfl,rfl,by simp [h.len],fun a ha=>?_,fun j hj=>?_⟩
  · rcases List.mem_append.1 ha with ha | ha
    · obtain ⟨h1,h2,h3,h4⟩:=h.ps a ha
      exact ⟨h1,h2,by omega,h4⟩
    · rw [List.mem_singleton.1 ha]
      refine ⟨?_,?_,?_,rfl,rfl⟩
      · show 0 ≤ (i:Int) % 7; omega
      · show (i:Int) % 7 ≤ 6; omega
      · show (i:Int) < ((i + 1:Nat):Int); omega
  · by_cases hji:j = i
    · subst hji
      exact ⟨_,List.mem_append.2 (.inr (List.mem_singleton.2 rfl)),rfl⟩
    · obtain ⟨a,ha,hk⟩:=h.has j (by omega)
      exact ⟨a,List.mem_append.2 (.inl ha),hk⟩
section
variable {H0:Heap}
theorem full_ok (hw0:H0.Wf):∃ H',∀ (R:Type) (K:Bool→Heap→Option R),g17 R H0 K = K true H':=by
  obtain ⟨H1,e1,j1,x1,w1⟩:=new_ok hw0 (w:=3) (by omega)
  have l1:LInv H0 H1 (H0.next + 1) (fun i=>H0.next ≤ i∧i < H1.next) ⟨3,[],[]⟩:=⟨j1,x1,fun i hi=>hi.1,fun i hi=>hi.2⟩
  generalize H0.next + 1 = x at *
  have noD:∀ (G:Heap) (F:Nat→Prop),BS G nilS []:=fun G F=>.nil G
  obtain ⟨rr,G,e2,F,S,rfl,l2,f2⟩:=tlim_inv (b:=g17_p2_b)
    (fun st H=>∃ (i:Nat) (F:Nat→Prop) (S1:St),st = (some (x,0),(i:Int))∧i ≤ 4096∧LInv H0 H x F S1∧FInv S1 i)
    (fun st=>4096 - st.2.toNat)
    (fun r H=>∃ F S1,r = .inl (some (x,0))∧LInv H0 H x F S1∧FInv S1 4096) (by
      rintro st H ⟨i,F1,S1,rfl,hi,h1,h2⟩
      by_cases hlt:i < 4096
      · left
        obtain ⟨e,f⟩:=h2.next hlt
        obtain ⟨r,H',eh,ja,_,_,fr,_⟩:=h1.ja.hear (by rw [h2.w]; decide) (k:=((i:Int) % 7,(i:Int))) (u:=⟨i,true,1,[]⟩) rfl (show (0:Int) ≤ 1 by decide) (s:=nilS) (.nil H) (.inl rfl) (fun a ha=>by rw [(h2.ps a ha).2.2.2.2]; exact Nat.zero_le _) (by rw [h2.len,h2.ls]; simp; omega)
        rw [e] at eh ja
        have w7:IntKind.wrap .u16 (Int.tmod (i:Int) 7) = (i:Int) % 7:=by rw [tmodp (by omega),w16u (by omega)]
        have w32:IntKind.wrap .u32 (i:Int) = (i:Int):=w32u (by omega)
        have wi:IntKind.wrap .i64 ((i:Int) + 1) = ((i + 1:Nat):Int):=by rw [w64 (by omega)]; rfl
        refine ⟨(some (x,0),((i + 1:Nat):Int)),H',?_,⟨i + 1,_,_,rfl,by omega,h1.step ja fr,f⟩,by dsimp only; omega⟩
        simp only [g17_p2_b,g17_p1]
        rw [show decide ((i:Int) < 4096) = true by simp; omega,sel_true,w7,w32]
        refine (eh _ _).trans ?_
        rw [show ((0:Int) != 0) = false from rfl,sel_false,wi]
      · right
        have:i = 4096:=by omega
        subst this
        refine ⟨.inl (some (x,0)),H,?_,F1,S1,rfl,h1,h2⟩
        simp only [g17_p2_b,g17_p1]
        rw [show decide (((4096:Nat):Int) < 4096) = false from rfl,sel_false]) (some (x,0),0) H1 ⟨0,_,_,rfl,by omega,l1,⟨rfl,rfl,rfl,fun a ha=>(by cases ha),fun j hj=>by omega⟩⟩
  -- behind it
  have hno9:∀ a ∈ S.ps,a.k ≠ ((9,9):Ky):=fun a ha e=>by have:=(f2.ps a ha).2.1; rw [e] at this; exact absurd this (by decide)
  have hd:∀ a ∈ S.ps,a.d.length ≤ 1000000:=fun a ha=>by rw [(f2.ps a ha).2.2.2.2]; exact Nat.zero_le _
  have hlen:=f2.len
  have hls:=f2.ls
  have hpos:0 < S.w:=by rw [f2.w]; decide
  have o1:=hear_first (k:=((9,9):Ky)) (u:=⟨9,true,1,[]⟩) (by decide) rfl rfl hno9
  rw [if_pos ⟨by decide,by omega⟩] at o1
  obtain ⟨r3,G3,e3,j3,_,_,x3,_⟩:=l2.ja.hear hpos (k:=((9,9):Ky)) (u:=⟨9,true,1,[]⟩) rfl (by decide) (s:=nilS) (.nil G) (.inl rfl) hd (by rw [hls]; simp; omega)
  rw [o1] at e3 j3
  have l3:=l2.step j3 x3
  have l3':=l3.beside (Ext.new G3 (.cells [(V.i .u8 (5:Int))] 5 false)) (l3.ja.wf.new _)
  have b5:BS (G3.new (.cells [(V.i .u8 (5:Int))] 5 false)) ⟨some (G3.next,0),1,.ex 1⟩ [5]:=BS.obj (l:=[5]) (Heap.gnew G3 _)
  have o2:=hear_first (k:=((9,9):Ky)) (u:=⟨9,true,0,[5]⟩) (by decide) rfl rfl hno9
  rw [if_neg (fun h=>absurd h.1 (by decide)),if_neg (by decide)] at o2
  obtain ⟨r4,G4,e4,_,b4,_,x4,y4,F4,j4,sub4,no4⟩:=l3'.ja.hear hpos (k:=((9,9):Ky)) (u:=⟨9,true,0,[5]⟩) rfl (by decide) b5 (.inr fun q hq=>by
    cases hq
    exact ⟨fun hF=>by have:=l3.hi _ hF; omega,Nat.lt_succ_self _⟩) hd (by rw [hls]; simp; omega)
  rw [o2] at e4 j4 b4
  have l4:LInv H0 G4 x F4 S:=⟨j4,⟨Nat.le_trans l3'.ext.next x4.next,fun z hz _=>(x4.same z (Nat.lt_of_lt_of_le hz l3'.ext.next) (fun hF=>by have:=l3'.lo _ hF; omega)).trans (l3'.ext.same z hz (fun h=>h))⟩,fun z hz=>by
    have:=l3'.ext.next
    rcases sub4 z hz with h | h
    · exact l3'.lo z h
    · omega,fun z hz=>by
    rcases sub4 z hz with h | h
    · exact Nat.lt_of_lt_of_le (l3'.hi z h) x4.next
    · exact h.2⟩
  obtain ⟨q4,hq4,hlt4⟩:∃ q,r4.a = some q∧q.1 < G4.next:=by
    obtain ⟨q,vs,e,ro,h1,h2,_⟩:=b4.there (by simp)
    exact ⟨q,h1,j4.wf _ _ h2⟩
  have nF4:¬F4 q4.1:=no4 q4 hq4
  obtain ⟨a3,ha3,hk3⟩:=f2.has 3 (by omega)
  have hk3':a3.k = ((3,3):Ky):=hk3
  have o3:=hear_again (k:=((3,3):Ky)) (u:=⟨3,true,2,[]⟩) (by decide) rfl rfl (by decide) ha3 hk3'
  obtain ⟨r5,G5,e5,j5,_,_,x5,_⟩:=l4.ja.hear hpos (k:=((3,3):Ky)) (u:=⟨3,true,2,[]⟩) rfl (by decide) (s:=nilS) (.nil G4) (.inl rfl) hd (by rw [hls]; simp; omega)
  rw [o3,hls] at e5 j5
  have l5:=l4.step j5 x5
  have b5':=b4.keep l4.ja.wf x5 (.inr fun z hz=>by rw [hq4] at hz; cases hz; exact nF4)
  have nF5:¬grown F4 G4 G5 q4.1:=fun h=>by
    rcases h with h | h
    · exact nF4 h
    · omega
  obtain ⟨r6,G6,e6,j6,x6,n6,c6,s6⟩:=l5.ja.tick (show 0 < S.w from hpos)
  have l6:=l5.step j6 x6
  have b6:=b5'.keep l5.ja.wf x6 (.inr fun z hz=>by rw [hq4] at hz; cases hz; exact nF5)
  have hallw:∀ a ∈ (S.ps.filter fun a=>decide (a.k ≠ ((3,3):Ky))) ++ [(⟨((3,3):Ky),[],2 - 1,S.w⟩:Ab)],a.due = false:=fun a ha=>by
    have hw3:a.wt = 3:=by
      rcases List.mem_append.1 ha with ha | ha
      · exact (f2.ps a (List.mem_filter.1 ha).1).2.2.2.1
      · rw [List.mem_singleton.1 ha]; exact f2.w
    unfold Ab.due dec1
    rw [hw3]; rfl
  have hdue:(⟨S.w,(S.ps.filter fun a=>decide (a.k ≠ ((3,3):Ky))) ++ [(⟨((3,3):Ky),[],2 - 1,S.w⟩:Ab)],[((3,3):Ky)]⟩:St).due = [((3,3):Ky)]:=by
    unfold St.due
    simp only
    rw [List.filter_eq_nil_iff.2 fun a ha=>by rw [hallw a ha]; decide]
    rfl
  have hstay:((⟨S.w,(S.ps.filter fun a=>decide (a.k ≠ ((3,3):Ky))) ++ [(⟨((3,3):Ky),[],2 - 1,S.w⟩:Ab)],[((3,3):Ky)]⟩:St).tick).ps.length = 4096:=by
    unfold St.tick
    simp only
    rw [List.filter_eq_self.2 fun a ha=>by rw [hallw a ha]; rfl,List.length_map]
    have hp:=(map_one (n:=a3) l2.ja.nodup ha3 hk3').length_eq
    rw [List.length_map,hlen] at hp
    rw [List.length_append] at hp ⊢
    exact hp.symm
  have n6':r6.len = 1:=n6.trans (congrArg List.length hdue)
  have s6':SlIs G6 2 r6 (ken [((3,3):Ky)]):=by
    have e:sortBy cmpK [((3,3):Ky)] = [((3,3):Ky)]:=List.perm_singleton.1 (sortBy_perm cmpK _)
    rw [← e]
    have:=s6
    rw [show ([] ++ [((3,3):Ky)]:List Ky) = [((3,3):Ky)] from rfl,hdue] at this
    exact this
  obtain ⟨q6,z0,z1,z2⟩:=(rdK_of s6' n6').rd 0 ((3,3):Ky) rfl
  have eopen:=fun (R:Type) (K:Int→Heap→Option R)=>l6.ja.open (show 0 < S.w from hpos) K
  refine ⟨G6,fun R K=>?_⟩
  have dd:g17 R H0 K = g17_p0 R H0 (fun t1 t3 H=>g17_p5 R t1 t3 H K) K:=rfl
  rw [dd]; unfold g17_p0
  rw [e1]
  simp only [bne_self_eq_false,sel_false,g17_p5,g17_p3,g17_p2]
  rw [e2]
  simp only [Option.bind_some,cas,g17_p4]
  refine (e3 R _).trans ?_
  simp only [alo]
  refine (e4 R _).trans ?_
  refine (e5 R _).trans ?_
  rw [e6]
  have sb:=slB b6
  simp only [beq_self_eq_true,sel_true,sb,Option.bind_some]
  rw [show strEq (bsU (u8s [5])) str1 = true by rw [show str1 = bsU (u8s [5]) from rfl,strEqU]; rfl,sel_true,eopen]
  rw [show ([] ++ [((3,3):Ky)]:List Ky) = [((3,3):Ky)] from rfl,hstay,n6']
  rw [show (((4096:Nat):Int) == 4096) = true from rfl,sel_true,show (((1:Nat):Int) == 1) = true from rfl,sel_true,if_pos (by decide),z0,Option.bind_some]
  rw [show G6.ldI .u16 q6.1 (q6.2 + Int.toNat 0 * 2 + 0) = some 3 from z1,Option.bind_some,show G6.ldI .u32 q6.1 (q6.2 + Int.toNat 0 * 2 + 1) = some 3 from z2,Option.bind_some]
  rfl
end
end Go.Proofs.Ytobebcfkddimkaa

