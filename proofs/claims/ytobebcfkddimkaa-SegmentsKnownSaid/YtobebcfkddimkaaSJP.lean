/- SegmentsJoins: the plain law. -/
import Derived.Test.YtobebcfkddimkaaSL
namespace Go.Proofs.Ytobebcfkddimkaa
open Go AM Go.RowKit Go.Sort
set_option linter.unusedVariables false
set_option linter.unusedSimpArgs false

section
variable {S:St} {k:Ky} {u:Sg}
theorem fin_keep {d0:List Int} {b:Ab} (h:b ∈ S.ps) (hk:b.k ≠ k):b ∈ (S.fin k d0 u).1.ps:=by
  unfold St.fin
  split
  · exact List.mem_map.2 ⟨b,h,if_neg hk⟩
  · exact List.mem_filter.2 ⟨h,by simpa using hk⟩
theorem fin_new {d0:List Int} {b:Ab} (h:b ∈ S.ps) (hk:b.k = k) (hl:0 < u.l):∃ a ∈ (S.fin k d0 u).1.ps,a.k = k:=by
  unfold St.fin
  rw [if_pos hl]
  exact ⟨_,List.mem_map.2 ⟨b,h,if_pos hk⟩,rfl⟩
theorem fin_ls {d0:List Int}:(S.fin k d0 u).1.ls = S.ls:=by unfold St.fin; split <;> rfl
theorem fin_w {d0:List Int}:(S.fin k d0 u).1.w = S.w:=by unfold St.fin; split <;> rfl
theorem fin_out {d0:List Int}:(S.fin k d0 u).2 = if 0 < u.l then ⟨[],false,0⟩ else ⟨d0 ++ u.d,true,0⟩:=by unfold St.fin; split <;> rfl
end
/-- what SegmentsJoins keeps -/
structure JInv (l:List PP) (S:St) (nx:List Nat) (ticks:Nat):Prop where
  w:S.w = 100
  ls:S.ls = []
  len:nx.length = l.length
  ps:∀ a ∈ S.ps,100 - (ticks:Int) ≤ a.wt∧a.wt ≤ 100∧∃ j p c,First l a.k j p∧nx[j]? = some c∧0 < c∧c < p.n∧a.nx = (p.n:Int) - 1 - c∧a.d = p.data.take (c * p.most)
  go:∀ j p,First l p.key j p→∃ c,nx[j]? = some c∧c ≤ p.n∧(0 < c→c < p.n→∃ a ∈ S.ps,a.k = p.key)
section
variable {l:List PP} {S:St} {nx:List Nat} {ticks:Nat}
theorem JInv.tick (h:JInv l S nx ticks) (ht:ticks < 99):S.due = []∧JInv l S.tick nx (ticks + 1):=by
  have hd:∀ a ∈ S.ps,dec1 a.wt = a.wt - 1∧a.due = false:=fun a ha=>by
    obtain ⟨h1,h2,_⟩:=h.ps a ha
    have e:=dec1_of (w:=a.wt) (by omega)
    refine ⟨e,?_⟩
    unfold Ab.due
    rw [e,beq_eq_false_iff_ne]; omega
  have hf:S.ps.filter Ab.due = []:=List.filter_eq_nil_iff.2 fun a ha=>by rw [(hd a ha).2]; simp
  have hf2:(S.ps.filter fun a=>!a.due) = S.ps:=List.filter_eq_self.2 fun a ha=>by rw [(hd a ha).2]; rfl
  refine ⟨by unfold St.due; rw [hf,h.ls]; rfl,⟨h.w,rfl,h.len,fun a ha=>?_,fun j p hp=>?_⟩⟩
  · obtain ⟨b,hb,rfl,_⟩:=tick_mem ha
    obtain ⟨h1,h2,r⟩:=h.ps b hb
    have e:=(hd b hb).1
    refine ⟨?_,?_,r⟩
    · show 100 - ((ticks + 1:Nat):Int) ≤ dec1 b.wt; omega
    · show dec1 b.wt ≤ 100; omega
  · obtain ⟨c,h1,h2,h3⟩:=h.go j p hp
    refine ⟨c,h1,h2,fun h4 h5=>?_⟩
    obtain ⟨a,ha,hk⟩:=h3 h4 h5
    refine ⟨a.old,?_,hk⟩
    unfold St.tick
    simp only
    rw [hf2]
    exact List.mem_map.2 ⟨a,ha,rfl⟩
theorem JInv.few (h:JInv l S nx ticks) (hn:(S.ps.map (·.k)).Nodup):S.ps.length ≤ l.length:=by
  have key:∀ (ks:List Ky) (m:List Ky),ks.Nodup→(∀ k ∈ ks,k ∈ m)→ks.length ≤ m.length:=by
    intro ks
    induction ks with
    | nil=>intro m _ _; exact Nat.zero_le _
    | cons a ks ih =>
      intro m hn hs
      simp only [List.nodup_cons] at hn
      have ha:=hs a (by simp)
      have h1:=ih (m.erase a) hn.2 fun x hx=>(List.mem_erase_of_ne (fun (e:x = a)=>hn.1 (e ▸ hx))).2 (hs x (by simp [hx]))
      rw [List.length_erase_of_mem ha] at h1
      have:=List.length_pos_of_mem ha
      simp only [List.length_cons]; omega
  have:=key (S.ps.map (·.k)) (l.map PP.key) hn fun k hk=>by
    obtain ⟨a,ha,rfl⟩:=List.mem_map.1 hk
    obtain ⟨_,_,j,p,c,hp,_⟩:=h.ps a ha
    exact List.mem_map.2 ⟨p,List.mem_of_getElem? hp.1,hp.2.1⟩
  simpa using this
theorem First.refl {k:Ky} {j:Nat} {p:PP} (h:First l k j p):First l p.key j p:=⟨h.1,rfl,fun j' p' h1 h2=>by rw [h.2.1]; exact h.2.2 j' p' h1 h2⟩
theorem First.uniqj {k:Ky} {j j':Nat} {p p':PP} (h:First l k j p) (h':First l k j' p'):j = j':=by
  rcases Nat.lt_trichotomy j j' with hlt | he | hlt
  · exact absurd h.2.1 (h'.2.2 j p hlt h.1)
  · exact he
  · exact absurd h'.2.1 (h.2.2 j' p' hlt h'.1)
/-- the next segment of a piece -/
theorem JInv.hear (h : JInv l S nx ticks) {k : Ky} {j : Nat} {p : PP} (hp : First l k j p) {c : Nat} (hc : nx[j]? = some c) (hcn : c < p.n) (hfull : S.ps.length < 4096) (hk : ¬16383 < k.1) :
    JInv l (S.hear k (p.seg c)).1 (nx.set j (c + 1)) ticks∧(S.hear k (p.seg c)).2 = if c + 1 < p.n then ⟨[],false,0⟩ else ⟨p.data,true,0⟩:=by
  have hck:=p.seg_ck hcn
  have hn:=p.n_b
  have hkey:p.key = k:=hp.2.1
  have hl:(p.seg c).l = (p.n:Int) - 1 - c:=rfl
  have hd:(p.seg c).d = (p.data.drop (c * p.most)).take p.most:=rfl
  have hf:(p.seg c).f = decide (c = 0):=rfl
  have hend:p.data.take (p.n * p.most) = p.data:=List.take_of_length_le (cnt_end (by have:=p.most_pos; omega))
  have hjl:j < nx.length:=(List.getElem?_eq_some_iff.1 hc).1
  have hold:∀ a ∈ S.ps,a.k = k→a.nx = (p.n:Int) - 1 - c∧a.d = p.data.take (c * p.most)∧0 < c:=fun a ha hak=>by
    obtain ⟨_,_,j',p',c',hp',h1,h2,h3,h4,h5⟩:=h.ps a ha
    rw [hak] at hp'
    obtain rfl:=hp.uniq hp'
    obtain rfl:=hp.uniqj hp'
    rw [hc] at h1; cases h1
    exact ⟨h4,h5,h2⟩
  -- the state after
  obtain ⟨S1,d0,e,hw1,hls1,hsub,hkeep,hhas,hd0⟩:∃ (S1:St) (d0:List Int),S.hear k (p.seg c) = S1.fin k d0 (p.seg c)∧S1.w = S.w∧S1.ls = S.ls∧(∀ a ∈ S1.ps,a.k ≠ k→a ∈ S.ps)∧(∀ a ∈ S.ps,a ∈ S1.ps)∧(∃ b ∈ S1.ps,b.k = k)∧d0 ++ (p.seg c).d = p.data.take ((c + 1) * p.most):=by
    unfold St.hear
    rw [if_neg hk,if_neg (by simpa using hck)]
    by_cases hc0:c = 0
    · subst hc0
      have hnone:S.find k = none:=by
        cases hfd:S.find k with
        | none=>rfl
        | some b =>
          obtain ⟨h1,h2⟩:=find_mem hfd
          have:=(hold b h1 h2).2.2; omega
      rw [hnone]
      simp only
      rw [if_pos (show (p.seg 0).f = true by rw [hf]; rfl),if_neg (by omega)]
      refine ⟨S.new k (p.seg 0).l,[],rfl,rfl,rfl,fun a ha hak=>?_,fun a ha=>List.mem_append.2 (.inl ha),⟨_,List.mem_append.2 (.inr (List.mem_singleton.2 rfl)),rfl⟩,?_⟩
      · rcases List.mem_append.1 ha with ha | ha
        · exact ha
        · rw [List.mem_singleton.1 ha] at hak; exact absurd rfl hak
      · rw [hd]; simp
    · obtain ⟨c',h1,h2,h3⟩:=h.go j p hp.refl
      rw [hc] at h1; cases h1
      obtain ⟨b,hb,hbk⟩:=h3 (by omega) hcn
      cases hfd:S.find k with
      | none=>exact absurd (hbk.trans hkey) (find_not hfd b hb)
      | some b' =>
        obtain ⟨hb',hbk'⟩:=find_mem hfd
        obtain ⟨h4,h5,_⟩:=hold b' hb' hbk'
        simp only
        rw [if_neg (by rw [hf]; simpa using hc0),if_pos (by rw [h4,hl])]
        exact ⟨S,b'.d,rfl,rfl,rfl,fun a ha _=>ha,fun a ha=>ha,⟨b',hb',hbk'⟩,by rw [hd,h5]; exact take_more _ _ _⟩
  have setn:∀ j',j' ≠ j→(nx.set j (c + 1))[j']? = nx[j']?:=fun j' hj=>List.getElem?_set_ne (fun e=>hj e.symm)
  have sets:(nx.set j (c + 1))[j]? = some (c + 1):=by rw [List.getElem?_set_self hjl]
  rw [e]
  refine ⟨⟨fin_w.trans (hw1.trans h.w),fin_ls.trans (hls1.trans h.ls),by rw [List.length_set]; exact h.len,fun a ha=>?_,fun j' p' hp'=>?_⟩,?_⟩
  · rcases fin_mem ha with ⟨hl0,rfl⟩ | ⟨ha1,hak⟩
    · have h100:S1.w = 100:=hw1.trans h.w
      refine ⟨by simp only; rw [h100]; omega,by simp only; rw [h100]; omega,j,p,c + 1,hp,sets,by omega,by omega,?_,hd0⟩
      show (p.seg c).l - 1 = (p.n:Int) - 1 - ((c + 1:Nat):Int)
      rw [hl]; omega
    · obtain ⟨h1,h2,j',p',c',hp',h3,h4⟩:=h.ps a (hsub a ha1 hak)
      have:j' ≠ j:=fun e=>hak (by
        subst e
        have:=hp'.1.symm.trans hp.1
        rw [← hp'.2.1,Option.some.inj this,hkey])
      exact ⟨h1,h2,j',p',c',hp',by rw [setn j' this]; exact h3,h4⟩
  · by_cases hj:j' = j
    · subst hj
      have:=hp'.1.symm.trans hp.1
      obtain rfl:=Option.some.inj this
      refine ⟨c + 1,sets,hcn,fun _ hlt=>?_⟩
      obtain ⟨b,hb,hbk⟩:=hhas
      rw [hkey]
      exact fin_new hb hbk (by rw [hl]; omega)
    · obtain ⟨c',h1,h2,h3⟩:=h.go j' p' hp'
      refine ⟨c',by rw [setn j' hj]; exact h1,h2,fun h4 h5=>?_⟩
      obtain ⟨a,ha,hak⟩:=h3 h4 h5
      refine ⟨a,fin_keep (hkeep a ha) (fun e2=>hj ?_),hak⟩
      have hp'':First l k j' p':=by rw [← e2,hak]; exact hp'
      exact hp''.uniqj hp
  · rw [fin_out,hd0]
    by_cases hlt:c + 1 < p.n
    · rw [if_pos (by rw [hl]; omega),if_pos hlt]
    · rw [if_neg (by rw [hl]; omega),if_neg hlt,show c + 1 = p.n by omega,hend]
/-- how far the last turns have brought the pieces: n pieces, T turns given, r turns beyond -/
def Far (l:List PP) (nx:List Nat) (T r:Nat):Prop:=∀ j p,First l p.key j p→∃ c s,nx[j]? = some c∧s < l.length∧(T + s) % l.length = j∧(p.n ≤ c ∨ r ≤ s + l.length * c)
theorem far_start (h:JInv l S nx ticks) (T:Nat):Far l nx T 0:=fun j p hp=>by
  obtain ⟨c,h1,_⟩:=h.go j p hp
  have hj:j < l.length:=(List.getElem?_eq_some_iff.1 hp.1).1
  have ha:T % l.length < l.length:=Nat.mod_lt _ (by omega)
  refine ⟨c,if T % l.length ≤ j then j - T % l.length else j + l.length - T % l.length,h1,by split <;> omega,?_,.inr (Nat.zero_le _)⟩
  rw [Nat.add_mod]
  split
  · rw [Nat.mod_eq_of_lt (a:=j - T % l.length) (by omega),show T % l.length + (j - T % l.length) = j by omega,Nat.mod_eq_of_lt hj]
  · rw [Nat.mod_eq_of_lt (a:=j + l.length - T % l.length) (by omega),show T % l.length + (j + l.length - T % l.length) = j + l.length by omega,Nat.add_mod_right,Nat.mod_eq_of_lt hj]
/-- a turn at which nothing is heard, for the piece is complete -/
theorem Far.idle {T r j:Nat} {p:PP} {k0:Nat} {p0:PP} (h:Far l nx T r) (hk0:l[k0]? = some p0) (hr:(T + r) % l.length = k0) (hp:First l p0.key j p) {c:Nat} (hc:nx[j]? = some c) (hcn:p.n ≤ c):Far l nx T (r + 1):=fun j' p' hp'=>by
  obtain ⟨c',s,h1,h2,h3,h4⟩:=h j' p' hp'
  refine ⟨c',s,h1,h2,h3,?_⟩
  rcases h4 with h4 | h4
  · exact .inl h4
  · by_cases he:r = s + l.length * c'
    · left
      have hj:j' = k0:=by rw [← hr,he,← Nat.add_assoc,Nat.add_mul_mod_self_left,h3]
      have hpp:p' = p0:=by
        have:=hp'.1; rw [hj,hk0] at this; exact (Option.some.inj this).symm
      subst hpp
      obtain rfl:=hp.uniqj hp'
      obtain rfl:=hp.uniq hp'
      rw [hc] at h1; cases h1
      exact hcn
    · right; omega
theorem Far.heard {T r j:Nat} {p:PP} {k0:Nat} {p0:PP} (h:Far l nx T r) (hk0:l[k0]? = some p0) (hr:(T + r) % l.length = k0) (hp:First l p0.key j p) {c:Nat} (hc:nx[j]? = some c):Far l (nx.set j (c + 1)) T (r + 1):=fun j' p' hp'=>by
  obtain ⟨c',s,h1,h2,h3,h4⟩:=h j' p' hp'
  have hjl:j < nx.length:=(List.getElem?_eq_some_iff.1 hc).1
  have hpos:0 < l.length:=by omega
  by_cases hj:j' = j
  · subst hj
    rw [hc] at h1; cases h1
    refine ⟨c + 1,s,by rw [List.getElem?_set_self hjl],h2,h3,?_⟩
    rcases h4 with h4 | h4
    · exact .inl (by omega)
    · right; rw [Nat.mul_add,Nat.mul_one]; omega
  · refine ⟨c',s,by rw [List.getElem?_set_ne (fun e=>hj e.symm)]; exact h1,h2,h3,?_⟩
    rcases h4 with h4 | h4
    · exact .inl h4
    · by_cases he:r = s + l.length * c'
      · exfalso
        have hj2:j' = k0:=by rw [← hr,he,← Nat.add_assoc,Nat.add_mul_mod_self_left,h3]
        have hpp:p' = p0:=by
          have:=hp'.1; rw [hj2,hk0] at this; exact (Option.some.inj this).symm
        subst hpp
        exact hj (hp'.uniqj hp)
      · right; omega
/-- a turn that a given list makes -/
theorem Far.given {T j c:Nat} (h:Far l nx T 0) (hc:nx[j]? = some c):Far l (nx.set j (c + 1)) T 0:=fun j' p' hp'=>by
  obtain ⟨c',s,h1,h2,h3,h4⟩:=h j' p' hp'
  have hjl:j < nx.length:=(List.getElem?_eq_some_iff.1 hc).1
  by_cases hj:j' = j
  · subst hj
    exact ⟨c + 1,s,by rw [List.getElem?_set_self hjl],h2,h3,.inr (Nat.zero_le _)⟩
  · exact ⟨c',s,by rw [List.getElem?_set_ne (fun e=>hj e.symm)]; exact h1,h2,h3,.inr (Nat.zero_le _)⟩
theorem far_end {T:Nat} (h:JInv l S nx ticks) (hf:Far l nx T 200) (hl:l.length ≤ 8):S.ps = []:=by
  cases hps:S.ps with
  | nil=>rfl
  | cons a r =>
    exfalso
    obtain ⟨_,_,j,p,c,hp,h1,h2,h3,_⟩:=h.ps a (by rw [hps]; simp)
    obtain ⟨c',s,h4,h5,_,h6⟩:=hf j p hp.refl
    rw [h1] at h4; cases h4
    have hn:=p.n_b
    rcases h6 with h6 | h6
    · omega
    · have:l.length * c ≤ 8 * 15:=Nat.mul_le_mul hl (by omega)
      omega
end
end Go.Proofs.Ytobebcfkddimkaa

