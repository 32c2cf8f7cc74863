/- The joiner's plain law: what Hear keeps. -/
import Derived.Test.YtobebcfkddimkaaJN3
namespace Go.Proofs.Ytobebcfkddimkaa
open Go AM Go.RowKit Go.Sort
set_option linter.unusedVariables false
set_option linter.unusedSimpArgs false

section
variable {H G:Heap}
theorem ldI_ext (hw:H.Wf) (hx:Ext H G) {k:IntKind} {i o:Nat} {n:Int} (h:H.ldI k i o = some n):G.ldI k i o = some n:=by
  cases hg:H.get i with
  | none=>simp [Heap.ldI,Heap.ld,hg] at h
  | some ob=>have:=hx.get hw hg; simpa [Heap.ldI,Heap.ld,hg,this] using h
theorem ldB_ext (hw:H.Wf) (hx:Ext H G) {i o:Nat} {n:Bool} (h:H.ldB i o = some n):G.ldB i o = some n:=by
  cases hg:H.get i with
  | none=>simp [Heap.ldB,Heap.ld,hg] at h
  | some ob=>have:=hx.get hw hg; simpa [Heap.ldB,Heap.ld,hg,this] using h
theorem ldSl_ext (hw:H.Wf) (hx:Ext H G) {i o:Nat} {n:Sl} (h:H.ldSl i o = some n):G.ldSl i o = some n:=by
  cases hg:H.get i with
  | none=>simp [Heap.ldSl,Heap.ld,hg] at h
  | some ob=>have:=hx.get hw hg; simpa [Heap.ldSl,Heap.ld,hg,this] using h
end
/-- a piece of a law's argument -/
structure PP where
  a:Int
  b:Int
  m:Int
  s:Sl
  d:List Int
def PP.key (p:PP):Ky:=(p.a % 4,p.b % 8)
def PP.data (p:PP):List Int:=p.d.take 60
def PP.most (p:PP):Nat:=(4 + p.m % 16).toNat
def PP.n (p:PP):Nat:=cnt p.data.length p.most
def PP.seg (p:PP) (i:Nat):Sg:=part (p.b % 8) p.data p.most p.n i
structure PP.Ok (H:Heap) (p:PP):Prop where
  bs:BS H p.s p.d
  cap:CapOk p.s
  a:0 ≤ p.a∧p.a ≤ 255
  b:0 ≤ p.b∧p.b ≤ 255
  m:0 ≤ p.m∧p.m ≤ 255
theorem PP.most_pos (p:PP):4 ≤ p.most∧p.most ≤ 19:=by unfold PP.most; omega
theorem PP.data_len (p:PP):p.data.length ≤ 60:=by unfold PP.data; simp; omega
theorem PP.n_b (p:PP):1 ≤ p.n∧p.n ≤ 16:=by
  refine ⟨cnt_pos _ _,?_⟩
  unfold PP.n cnt
  have h1:=p.most_pos
  have h2:=p.data_len
  generalize p.most = M at *
  generalize p.data.length = D at *
  have:(D + M - 1) / M ≤ 16:=by rw [Nat.div_le_iff_le_mul (by omega)]; omega
  split <;> omega
theorem PP.seg_ck (p:PP) {i:Nat} (hi:i < p.n):(p.seg i).ck = 0:=by
  have h1:=p.most_pos
  have h2:=p.n_b
  unfold PP.seg part Sg.ck
  simp only
  rw [if_neg (by omega),if_neg (by simp only [List.length_take,List.length_drop]; omega)]
/-- how a slice of pieces reads -/
structure RdP (H:Heap) (t:Sl) (l:List PP):Prop where
  len:t.len = l.length
  rd:∀ i p,l[i]? = some p→∃ q,t.a = some q∧H.ldI .u8 q.1 (q.2 + i * 4 + 0) = some p.a∧H.ldI .u8 q.1 (q.2 + i * 4 + 1) = some p.b∧H.ldSl q.1 (q.2 + i * 4 + 2) = some p.s∧H.ldI .u8 q.1 (q.2 + i * 4 + 3) = some p.m
  ok:∀ p ∈ l,p.Ok H
theorem RdP.ext {H G:Heap} {t:Sl} {l:List PP} (h:RdP H t l) (hw:H.Wf) (hx:Ext H G):RdP G t l :=
  ⟨h.len,fun i p hp=>by
    obtain ⟨q,q0,q1,q2,q3,q4⟩:=h.rd i p hp
    exact ⟨q,q0,ldI_ext hw hx q1,ldI_ext hw hx q2,ldSl_ext hw hx q3,ldI_ext hw hx q4⟩,fun p hp=>by
    obtain ⟨a,b,c,d,e⟩:=h.ok p hp
    exact ⟨a.ext hw hx,b,c,d,e⟩⟩
/-- j is the first with the key of i -/
def First (l:List PP) (k:Ky) (j:Nat) (p:PP):Prop:=l[j]? = some p∧p.key = k∧∀ j' p',j' < j→l[j']? = some p'→p'.key ≠ k
theorem First.uniq {l:List PP} {k:Ky} {j j':Nat} {p p':PP} (h:First l k j p) (h':First l k j' p'):p = p':=by
  have:j = j':=by
    rcases Nat.lt_trichotomy j j' with hlt | he | hlt
    · exact absurd h.2.1 (h'.2.2 j p hlt h.1)
    · exact he
    · exact absurd h'.2.1 (h.2.2 j' p' hlt h'.1)
  subst this
  have:=h.1.symm.trans h'.1
  exact Option.some.inj this
section
variable {S:St} {k:Ky} {u:Sg}
theorem fin_mem {d0:List Int} {a:Ab} (h:a ∈ (S.fin k d0 u).1.ps):(0 < u.l∧a = ⟨k,d0 ++ u.d,u.l - 1,S.w⟩) ∨ (a ∈ S.ps∧a.k ≠ k):=by
  unfold St.fin at h
  split at h
  · rename_i hl
    obtain ⟨b,hb,rfl⟩:=List.mem_map.1 h
    by_cases e:b.k = k
    · rw [if_pos e]; exact .inl ⟨hl,rfl⟩
    · rw [if_neg e]; exact .inr ⟨hb,e⟩
  · obtain ⟨h1,h2⟩:=List.mem_filter.1 h
    exact .inr ⟨h1,by simpa using h2⟩
theorem find_mem {a:Ab} (h:S.find k = some a):a ∈ S.ps∧a.k = k:=⟨List.mem_of_find?_eq_some h,by simpa using List.find?_some h⟩
theorem find_not (h:S.find k = none):∀ a ∈ S.ps,a.k ≠ k:=fun a ha=>by simpa using List.find?_eq_none.1 h a ha
/-- the pieces after a segment -/
theorem hear_mem {a:Ab} (h:a ∈ (S.hear k u).1.ps):a ∈ S.ps ∨ (u.ck = 0∧0 < u.l∧(S.hear k u).2.err = 0∧(u.f = true∧a = ⟨k,[] ++ u.d,u.l - 1,S.w⟩ ∨ u.f ≠ true∧∃ b ∈ S.ps,b.k = k∧b.nx = u.l∧a = ⟨k,b.d ++ u.d,u.l - 1,S.w⟩)):=by
  unfold St.hear at h ⊢
  by_cases h1:16383 < k.1
  · rw [if_pos h1] at h; exact .inl h
  rw [if_neg h1] at h ⊢
  by_cases h2:u.ck ≠ 0
  · rw [if_pos h2] at h; exact .inl h
  rw [if_neg h2] at h ⊢
  have hck:u.ck = 0:=by simpa using h2
  have new_mem:∀ (S1:St),S1.w = S.w→(∀ b ∈ S1.ps,b ∈ S.ps)→a ∈ ((S1.new k u.l).fin k [] u).1.ps→a ∈ S.ps ∨ 0 < u.l∧a = ⟨k,[] ++ u.d,u.l - 1,S.w⟩:=fun S1 hw hs hm=>by
    rcases fin_mem hm with ⟨hl,e⟩ | ⟨hm,hk⟩
    · right; rw [← hw]; exact ⟨hl,e⟩
    · left
      rcases List.mem_append.1 hm with hm | hm
      · exact hs a hm
      · rw [List.mem_singleton.1 hm] at hk; exact absurd rfl hk
  have fin_err:∀ (S1:St) (d0:List Int),(S1.fin k d0 u).2.err = 0:=fun S1 d0=>by unfold St.fin; split <;> rfl
  cases hf:S.find k with
  | none =>
    rw [hf] at h
    simp only at h ⊢
    by_cases h3:u.f = true
    · rw [if_pos h3] at h ⊢
      by_cases h4:0 < u.l∧4096 ≤ S.ps.length
      · rw [if_pos h4] at h; exact .inl h
      · rw [if_neg h4] at h ⊢
        rcases new_mem S rfl (fun _ h=>h) h with h | ⟨hl,h⟩
        · exact .inl h
        · exact .inr ⟨hck,hl,fin_err _ _,.inl ⟨h3,h⟩⟩
    · rw [if_neg h3] at h; exact .inl h
  | some b =>
    rw [hf] at h
    simp only at h ⊢
    obtain ⟨hb,hbk⟩:=find_mem hf
    by_cases h3:u.f = true
    · rw [if_pos h3] at h ⊢
      rcases new_mem (S.drop k) rfl (fun b hb=>(List.mem_filter.1 hb).1) h with h | ⟨hl,h⟩
      · exact .inl h
      · exact .inr ⟨hck,hl,fin_err _ _,.inl ⟨h3,h⟩⟩
    · rw [if_neg h3] at h ⊢
      by_cases h4:b.nx = u.l
      · rw [if_pos h4] at h ⊢
        rcases fin_mem h with ⟨hl,e⟩ | ⟨hm,_⟩
        · exact .inr ⟨hck,hl,fin_err _ _,.inr ⟨h3,b,hb,hbk,h4,e⟩⟩
        · exact .inl hm
      · rw [if_neg h4] at h
        exact .inl (List.mem_filter.1 h).1
theorem hear_ls:(S.hear k u).1.ls = S.ls ∨ (S.hear k u).1.ls = S.ls ++ [k]:=by
  have fl:∀ (S1:St) (d0:List Int),(S1.fin k d0 u).1.ls = S1.ls:=fun S1 d0=>by unfold St.fin; split <;> rfl
  unfold St.hear
  split
  · exact .inl rfl
  split
  · exact .inl rfl
  split
  · split
    · split
      · exact .inl rfl
      · exact .inl (fl _ _)
    · exact .inl rfl
  · split
    · exact .inr (fl _ _)
    · split
      · exact .inl (fl _ _)
      · exact .inr rfl
theorem hear_w:(S.hear k u).1.w = S.w:=by
  have fl:∀ (S1:St) (d0:List Int),(S1.fin k d0 u).1.w = S1.w:=fun S1 d0=>by unfold St.fin; split <;> rfl
  unfold St.hear
  split
  · rfl
  split
  · rfl
  split
  · split
    · split
      · rfl
      · exact fl _ _
    · rfl
  · split
    · exact fl _ _
    · split
      · exact fl _ _
      · rfl
/-- what Hear answers to a good segment -/
theorem hear_out (h1 : ¬16383 < k.1) (h2 : u.ck = 0) (h3 : S.ps.length < 4096) :
    (S.hear k u).2 = ⟨[],false,6⟩∧u.f ≠ true∧(∀ b,S.find k = some b→b.nx ≠ u.l) ∨
    (S.hear k u).2 = (if 0 < u.l then ⟨[],false,0⟩ else ⟨u.d,true,0⟩)∧u.f = true ∨
    ∃ b ∈ S.ps,b.k = k∧b.nx = u.l∧u.f ≠ true∧(S.hear k u).2 = if 0 < u.l then ⟨[],false,0⟩ else ⟨b.d ++ u.d,true,0⟩:=by
  have fo:∀ (S1:St) (d0:List Int),(S1.fin k d0 u).2 = if 0 < u.l then ⟨[],false,0⟩ else ⟨d0 ++ u.d,true,0⟩:=fun S1 d0=>by unfold St.fin; split <;> rfl
  unfold St.hear
  rw [if_neg h1,if_neg (by simpa using h2)]
  cases hf:S.find k with
  | none =>
    simp only
    by_cases h4:u.f = true
    · rw [if_pos h4,if_neg (by omega),fo]; exact .inr (.inl ⟨rfl,h4⟩)
    · rw [if_neg h4]; exact .inl ⟨rfl,h4,fun b hb=>by cases hb⟩
  | some b =>
    obtain ⟨hb,hbk⟩:=find_mem hf
    simp only
    by_cases h4:u.f = true
    · rw [if_pos h4,fo]; exact .inr (.inl ⟨rfl,h4⟩)
    · rw [if_neg h4]
      by_cases h5:b.nx = u.l
      · rw [if_pos h5,fo]; exact .inr (.inr ⟨b,hb,hbk,h5,h4,rfl⟩)
      · rw [if_neg h5]; exact .inl ⟨rfl,h4,fun b' hb'=>by cases hb'; exact h5⟩
end
/-- what SegmentsSafe keeps -/
structure SInv (l:List PP) (S:St):Prop where
  ps:∀ a ∈ S.ps,1 ≤ a.wt∧a.wt ≤ S.w∧∃ j p c,First l a.k j p∧0 < c∧c < p.n∧a.nx = (p.n:Int) - 1 - c∧a.d = p.data.take (c * p.most)
  w:1 ≤ S.w∧S.w ≤ 6
theorem take_more (d:List Int) (c m:Nat):d.take (c * m) ++ (d.drop (c * m)).take m = d.take ((c + 1) * m):=by
  rw [Nat.add_mul,Nat.one_mul,List.take_add]
theorem SInv.hear {l : List PP} {S : St} (h : SInv l S) {k : Ky} {j : Nat} {p : PP} (hp : First l k j p) {i : Nat} (hi : i < p.n) (hfull : S.ps.length < 4096) (hk : ¬16383 < k.1) :
    SInv l (S.hear k (p.seg i)).1∧((S.hear k (p.seg i)).2 = ⟨[],false,6⟩ ∨ (S.hear k (p.seg i)).2 = ⟨[],false,0⟩ ∨ (S.hear k (p.seg i)).2 = ⟨p.data,true,0⟩):=by
  have hck:=p.seg_ck hi
  have hn:=p.n_b
  have hl:(p.seg i).l = (p.n:Int) - 1 - i:=rfl
  have hd:(p.seg i).d = (p.data.drop (i * p.most)).take p.most:=rfl
  have hf:(p.seg i).f = decide (i = 0):=rfl
  have hend:p.data.take (p.n * p.most) = p.data:=List.take_of_length_le (cnt_end (by have:=p.most_pos; omega))
  refine ⟨⟨fun a ha=>?_,by rw [hear_w]; exact h.w⟩,?_⟩
  · rw [hear_w]
    rcases hear_mem ha with ha | ⟨_,hl0,_,⟨hf1,rfl⟩ | ⟨hf1,b,hb,hbk,hbn,rfl⟩⟩
    · exact h.ps a ha
    · rw [hf] at hf1
      have hi0:i = 0:=of_decide_eq_true hf1
      subst hi0
      refine ⟨h.w.1,Int.le_refl _,j,p,1,hp,by omega,by omega,by rw [hl]; show (p.n:Int) - 1 - ((0:Nat):Int) - 1 = (p.n:Int) - 1 - ((1:Nat):Int); omega,?_⟩
      rw [hd]; simp
    · obtain ⟨_,_,j',p',c,hp',c1,c2,c3,c4⟩:=h.ps b hb
      rw [hbk] at hp'
      obtain rfl:=hp.uniq hp'
      have hci:c = i:=by omega
      subst hci
      refine ⟨h.w.1,Int.le_refl _,j,p,c + 1,hp,by omega,by omega,by rw [hl]; show (p.n:Int) - 1 - (c:Int) - 1 = (p.n:Int) - 1 - ((c + 1:Nat):Int); omega,?_⟩
      rw [hd,c4]; exact take_more _ _ _
  · rcases hear_out (S:=S) hk hck hfull with ⟨e,_⟩ | ⟨e,hf1⟩ | ⟨b,hb,hbk,hbn,_,e⟩
    · exact .inl e
    · rw [hf] at hf1
      have hi0:i = 0:=of_decide_eq_true hf1
      subst hi0
      rw [e]
      split
      · exact .inr (.inl rfl)
      · right; right
        have h1:p.n = 1:=by omega
        have:(p.seg 0).d = p.data:=by
          rw [hd]
          rw [h1,Nat.one_mul] at hend
          simpa using hend
        rw [this]
    · obtain ⟨_,_,j',p',c,hp',c1,c2,c3,c4⟩:=h.ps b hb
      rw [hbk] at hp'
      obtain rfl:=hp.uniq hp'
      rw [e]
      split
      · exact .inr (.inl rfl)
      · right; right
        have hci:c = i:=by omega
        subst hci
        have h1:c + 1 = p.n:=by omega
        rw [hd,c4,take_more,h1,hend]
theorem dec1_of {w:Int} (h:1 ≤ w∧w ≤ 1048576):dec1 w = w - 1:=by unfold dec1; exact w64 (by omega)
theorem tick_mem {S:St} {a:Ab} (h:a ∈ S.tick.ps):∃ b ∈ S.ps,a = b.old∧b.due = false:=by
  obtain ⟨b,hb,rfl⟩:=List.mem_map.1 h
  obtain ⟨h1,h2⟩:=List.mem_filter.1 hb
  exact ⟨b,h1,rfl,by simpa using h2⟩
theorem tick_wt {S:St} {a:Ab} {W:Int} (hw:∀ b ∈ S.ps,1 ≤ b.wt∧b.wt ≤ W) (hW:W ≤ 1048576) (h:a ∈ S.tick.ps):∃ b ∈ S.ps,a = { b with wt:=b.wt - 1 }∧1 ≤ a.wt∧a.wt ≤ W - 1:=by
  obtain ⟨b,hb,rfl,hd⟩:=tick_mem h
  have hb1:=hw b hb
  have e:=dec1_of (w:=b.wt) (by omega)
  have hne:b.wt - 1 ≠ 0:=by
    unfold Ab.due at hd
    rw [e] at hd
    simpa using hd
  refine ⟨b,hb,by unfold Ab.old; rw [e],?_,?_⟩
  · show 1 ≤ dec1 b.wt; rw [e]; omega
  · show dec1 b.wt ≤ W - 1; rw [e]; omega
theorem SInv.tick {l:List PP} {S:St} (h:SInv l S):SInv l S.tick:=by
  refine ⟨fun a ha=>?_,h.w⟩
  have hw:=h.w
  obtain ⟨b,hb,rfl,h1,h2⟩:=tick_wt (W:=S.w) (fun b hb=>⟨(h.ps b hb).1,(h.ps b hb).2.1⟩) (by omega) ha
  obtain ⟨_,_,r⟩:=h.ps b hb
  have hw2:S.tick.w = S.w:=rfl
  exact ⟨h1,by rw [hw2]; omega,r⟩
theorem SInv.few {l:List PP} {S:St} (h:SInv l S) (hn:(S.ps.map (·.k)).Nodup):S.ps.length ≤ l.length:=by
  have key:∀ (ks:List Ky) (m:List Ky),ks.Nodup→(∀ k ∈ ks,k ∈ m)→ks.length ≤ m.length:=by
    intro ks
    induction ks with
    | nil=>intro m _ _; exact Nat.zero_le _
    | cons a ks ih =>
      intro m hn hs
      simp only [List.nodup_cons] at hn
      have ha:=hs a (by simp)
      have h1:=ih (m.erase a) hn.2 fun x hx=>(List.mem_erase_of_ne (fun (e:x = a)=>hn.1 (e ▸ hx))).2 (hs x (by simp [hx]))
      rw [List.length_erase_of_mem ha] at h1
      have:=List.length_pos_of_mem ha
      simp only [List.length_cons]; omega
  have:=key (S.ps.map (·.k)) (l.map PP.key) hn fun k hk=>by
    obtain ⟨a,ha,rfl⟩:=List.mem_map.1 hk
    obtain ⟨_,_,j,p,c,hp,_⟩:=h.ps a ha
    exact List.mem_map.2 ⟨p,List.mem_of_getElem? hp.1,hp.2.1⟩
  simpa using this
end Go.Proofs.Ytobebcfkddimkaa

