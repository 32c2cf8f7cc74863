/- SegmentsActs: the plain law: the joiner and the model go together. -/
import Derived.Test.YtobebcfkddimkaaSL
namespace Go.Proofs.Ytobebcfkddimkaa
open Go AM Go.RowKit Go.Sort
set_option linter.unusedVariables false
set_option linter.unusedSimpArgs false

def rmK (M:List Ab) (k:Ky):List Ab:=M.filter fun a=>decide (a.k ≠ k)
/-- the model's end: what is open then, and the answer -/
def mend (w:Int) (M:List Ab) (L:List Ky) (k:Ky) (u:Sg) (d:List Int):List Ab × List Ky × Out :=
  if u.l = 0 then (M,L,⟨d,true,0⟩) else (M ++ [⟨k,d,u.l - 1,w⟩],L,⟨[],false,0⟩)
def mstep (w:Int) (M:List Ab) (L:List Ky) (k:Ky) (u:Sg):List Ab × List Ky × Out :=
  if 16383 < k.1 ∨ 15 < u.l then (M,L,⟨[],false,1⟩) else if 256 < u.d.length then (M,L,⟨[],false,3⟩) else
  match M.find? fun a=>decide (a.k = k) with
  | none=>if u.f = true then mend w M L k u u.d else (M,L,⟨[],false,6⟩)
  | some a=>if u.f = true then mend w (rmK M k) (L ++ [k]) k u u.d else if a.nx = u.l then mend w (rmK M k) L k u (a.d ++ u.d) else (rmK M k,L ++ [k],⟨[],false,6⟩)
theorem map_one {n:Ab} {k:Ky}:∀ {ps:List Ab} {b:Ab},(ps.map (·.k)).Nodup→b ∈ ps→b.k = k→(ps.map fun a=>if a.k = k then n else a).Perm (rmK ps k ++ [n]):=by
  intro ps
  induction ps with
  | nil=>intro b _ h; cases h
  | cons a ps ih =>
    intro b hn hb hk
    simp only [List.map_cons,List.nodup_cons] at hn
    unfold rmK
    by_cases e:a.k = k
    · have hno:∀ c ∈ ps,c.k ≠ k:=fun c hc e2=>hn.1 (List.mem_map.2 ⟨c,hc,by rw [e2,e]⟩)
      rw [List.map_cons,if_pos e,List.filter_cons,if_neg (by simpa using e)]
      have h1:(ps.map fun a=>if a.k = k then n else a) = ps:=by
        conv=>rhs; rw [← List.map_id ps]
        exact List.map_congr_left fun c hc=>if_neg (hno c hc)
      have h2:(ps.filter fun a=>decide (a.k ≠ k)) = ps:=List.filter_eq_self.2 fun c hc=>by simpa using hno c hc
      rw [h1,h2]
      exact (List.perm_append_singleton n ps).symm
    · rw [List.map_cons,if_neg e,List.filter_cons,if_pos (by simpa using e)]
      have hb':b ∈ ps:=by
        rcases List.mem_cons.1 hb with rfl | h
        · exact absurd hk e
        · exact h
      exact (ih hn.2 hb' hk).cons a
theorem find_perm {ps M:List Ab} (hp:ps.Perm M) (hn:(ps.map (·.k)).Nodup) (k:Ky):(ps.find? fun a=>decide (a.k = k)) = M.find? fun a=>decide (a.k = k):=by
  cases h1:ps.find? (fun a=>decide (a.k = k)) with
  | none =>
    symm
    rw [List.find?_eq_none] at h1 ⊢
    exact fun a ha=>h1 a (hp.mem_iff.2 ha)
  | some a =>
    have a1:=List.mem_of_find?_eq_some h1
    have a2:a.k = k:=by simpa using List.find?_some h1
    cases h2:M.find? (fun a=>decide (a.k = k)) with
    | none=>exact absurd (List.find?_eq_none.1 h2 a (hp.mem_iff.1 a1)) (by simpa using a2)
    | some b =>
      have b1:=hp.mem_iff.2 (List.mem_of_find?_eq_some h2)
      have b2:b.k = k:=by simpa using List.find?_some h2
      obtain ⟨i,hi⟩:=List.mem_iff_getElem?.1 a1
      obtain ⟨j,hj⟩:=List.mem_iff_getElem?.1 b1
      have hli:=(List.getElem?_eq_some_iff.1 hi).1
      have:i = j:=(List.getElem?_inj (i:=i) (j:=j) (by simpa using hli) hn).1 (by simp [hi,hj,a2,b2])
      subst this
      rw [hi] at hj; exact hj
theorem rmK_none {M:List Ab} {k:Ky} (h:∀ a ∈ M,a.k ≠ k):rmK M k = M:=List.filter_eq_self.2 fun a ha=>by simpa using h a ha
theorem acts_hear {S : St} {M : List Ab} {L : List Ky} (hp : S.ps.Perm M) (hl : S.ls.Perm L) (hn : (S.ps.map (·.k)).Nodup) (hfull : S.ps.length < 4096) {k : Ky} {u : Sg} (hu : 0 ≤ u.l) :
    (S.hear k u).2 = (mstep S.w M L k u).2.2∧(S.hear k u).1.ps.Perm (mstep S.w M L k u).1∧(S.hear k u).1.ls.Perm (mstep S.w M L k u).2.1:=by
  unfold St.hear mstep
  by_cases h1:16383 < k.1
  · rw [if_pos h1,if_pos (.inl h1)]; exact ⟨rfl,hp,hl⟩
  rw [if_neg h1]
  by_cases h2:15 < u.l
  · have hck:u.ck = 1:=by unfold Sg.ck; rw [if_pos (by omega)]
    rw [if_pos (show 16383 < k.1 ∨ 15 < u.l from .inr h2),if_pos (by rw [hck]; decide),hck]; exact ⟨rfl,hp,hl⟩
  rw [if_neg (show ¬(16383 < k.1 ∨ 15 < u.l) from fun h=>h.elim h1 h2)]
  by_cases h3:256 < u.d.length
  · have hck:u.ck = 3:=by unfold Sg.ck; rw [if_neg (by omega),if_pos h3]
    rw [if_pos (by rw [hck]; decide),if_pos h3,hck]; exact ⟨rfl,hp,hl⟩
  have hck:u.ck = 0:=by unfold Sg.ck; rw [if_neg (by omega),if_neg h3]
  rw [if_neg (by simpa using hck),if_neg h3,← find_perm hp hn k]
  have hfin:∀ (S1:St) (M1:List Ab) (L1:List Ky),S1.ps.Perm M1→S1.ls.Perm L1→S1.w = S.w→(∀ a ∈ S1.ps,a.k ≠ k)→((S1.new k u.l).fin k [] u).2 = (mend S.w M1 L1 k u u.d).2.2∧((S1.new k u.l).fin k [] u).1.ps.Perm (mend S.w M1 L1 k u u.d).1∧((S1.new k u.l).fin k [] u).1.ls.Perm (mend S.w M1 L1 k u u.d).2.1:=by
    intro S1 M1 L1 hp1 hl1 hw1 hno
    have hpsn:(S1.ps.map fun b=>if b.k = k then (⟨k,[] ++ u.d,u.l - 1,S1.w⟩:Ab) else b) = S1.ps:=by
      conv=>rhs; rw [← List.map_id S1.ps]
      exact List.map_congr_left fun c hc=>if_neg (hno c hc)
    unfold St.fin mend
    by_cases h0:u.l = 0
    · rw [if_neg (by omega),if_pos h0]
      refine ⟨rfl,?_,hl1⟩
      show ((S1.ps ++ [_]).filter _).Perm M1
      rw [List.filter_append,List.filter_cons,if_neg (by simp),List.filter_nil,List.append_nil]
      rw [show (S1.ps.filter fun a=>decide (a.k ≠ k)) = S1.ps from rmK_none hno]
      exact hp1
    · rw [if_pos (by omega),if_neg h0]
      refine ⟨rfl,?_,hl1⟩
      show ((S1.ps ++ [(⟨k,[],u.l,0⟩:Ab)]).map _).Perm _
      rw [List.map_append]
      have hw2:(S1.new k u.l).w = S1.w:=rfl
      rw [hw2,hpsn]
      simp only [List.map_cons,List.map_nil,if_true,List.nil_append,hw1]
      exact hp1.append_right _
  have hdel:∀ a ∈ (S.drop k).ps,a.k ≠ k:=fun a ha=>by simpa using (List.mem_filter.1 ha).2
  cases hf:S.find k with
  | none =>
    have hf':(S.ps.find? fun a=>decide (a.k = k)) = none:=hf
    rw [hf']
    simp only
    by_cases h4:u.f = true
    · rw [if_pos h4,if_pos h4,if_neg (by omega)]
      exact hfin S M L hp hl rfl (find_not hf)
    · rw [if_neg h4,if_neg h4]; exact ⟨rfl,hp,hl⟩
  | some a =>
    have hf':(S.ps.find? fun a=>decide (a.k = k)) = some a:=hf
    obtain ⟨ha,hak⟩:=find_mem hf
    rw [hf']
    simp only
    by_cases h4:u.f = true
    · rw [if_pos h4,if_pos h4]
      exact hfin (S.drop k) _ _ (hp.filter _) (hl.append_right _) rfl hdel
    · rw [if_neg h4,if_neg h4]
      by_cases h5:a.nx = u.l
      · rw [if_pos h5,if_pos h5]
        unfold St.fin mend
        by_cases h0:u.l = 0
        · rw [if_neg (by omega),if_pos h0]
          exact ⟨rfl,hp.filter _,hl⟩
        · rw [if_pos (by omega),if_neg h0]
          exact ⟨rfl,(map_one hn ha hak).trans ((hp.filter _).append_right _),hl⟩
      · rw [if_neg h5,if_neg h5]
        exact ⟨rfl,hp.filter _,hl.append_right _⟩
theorem mstep_len (w:Int) (M:List Ab) (L:List Ky) (k:Ky) (u:Sg):(mstep w M L k u).1.length ≤ M.length + 1∧(mstep w M L k u).2.1.length ≤ L.length + 1:=by
  have hr:=List.length_filter_le (fun a:Ab=>decide (a.k ≠ k)) M
  have he:∀ M1 L1 d,(mend w M1 L1 k u d).1.length ≤ M1.length + 1∧(mend w M1 L1 k u d).2.1.length = L1.length:=fun M1 L1 d=>by unfold mend; split <;> simp
  have hr2:(rmK M k).length ≤ M.length:=hr
  -- an entry that is found is taken out
  have hlt:∀ a,(M.find? fun a=>decide (a.k = k)) = some a→(rmK M k).length < M.length:=fun a ha=>by
    have h1:a.k = k:=by simpa using List.find?_some ha
    exact List.length_filter_lt_length_iff_exists.2 ⟨a,List.mem_of_find?_eq_some ha,by simp [h1]⟩
  unfold mstep
  split
  · exact ⟨Nat.le_succ _,Nat.le_succ _⟩
  split
  · exact ⟨Nat.le_succ _,Nat.le_succ _⟩
  split
  · split
    · have:=he M L u.d; exact ⟨this.1,by omega⟩
    · exact ⟨Nat.le_succ _,Nat.le_succ _⟩
  · rename_i a ha
    have:=hlt a ha
    split
    · have:=he (rmK M k) (L ++ [k]) u.d; simp only [List.length_append,List.length_cons,List.length_nil] at this; exact ⟨by omega,by omega⟩
    · split
      · have:=he (rmK M k) L (a.d ++ u.d); exact ⟨by omega,by omega⟩
      · simp only [List.length_append,List.length_cons,List.length_nil]; exact ⟨by omega,by omega⟩
/-- a tick of the model -/
def mold (a:Ab):Ab:={ a with wt:=a.wt - 1 }
def mtick (M:List Ab):List Ab:=(M.filter fun a=>decide (0 < a.wt - 1)).map mold
def mdead (M:List Ab):List Ky:=(M.filter fun a=>!decide (0 < a.wt - 1)).map (·.k)
theorem acts_tick {S:St} {M:List Ab} {L:List Ky} (hp:S.ps.Perm M) (hl:S.ls.Perm L) (hw:∀ a ∈ M,1 ≤ a.wt∧a.wt ≤ 1048576):S.tick.ps.Perm (mtick M)∧S.due.Perm (L ++ mdead M):=by
  have hd:∀ a ∈ M,a.due = !decide (0 < a.wt - 1)∧a.old = mold a:=fun a ha=>by
    have h:=hw a ha
    have e:=dec1_of h
    refine ⟨?_,by unfold Ab.old mold; rw [e]⟩
    unfold Ab.due
    rw [e]
    by_cases h1:a.wt - 1 = 0
    · rw [h1]; decide
    · rw [show (a.wt - 1 == 0) = false by simpa using h1,show decide (0 < a.wt - 1) = true by simp; omega]; rfl
  refine ⟨?_,?_⟩
  · unfold St.tick mtick
    refine ((hp.filter _).map _).trans ?_
    rw [show (M.filter fun a=>!a.due) = M.filter fun a=>decide (0 < a.wt - 1) from List.filter_congr fun a ha=>by rw [(hd a ha).1,Bool.not_not]]
    rw [List.map_congr_left (g:=mold) fun a ha=>(hd a (List.mem_filter.1 ha).1).2]
  · unfold St.due mdead
    refine hl.append (((hp.filter _).map _).trans ?_)
    rw [show (M.filter Ab.due) = M.filter fun a=>!decide (0 < a.wt - 1) from List.filter_congr fun a ha=>(hd a ha).1]
end Go.Proofs.Ytobebcfkddimkaa

