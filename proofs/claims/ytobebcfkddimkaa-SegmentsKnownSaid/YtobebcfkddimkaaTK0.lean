/- The joiner's functions below Tick: drop, Clip, made, the comparison. -/
import Derived.Test.YtobebcfkddimkaaGJ0
import Derived.Test.YtobebcfkddimkaaAmC
namespace Go.Proofs.Ytobebcfkddimkaa
open Go AM Go.RowKit
set_option linter.unusedVariables false
set_option linter.unusedSimpArgs false

abbrev Ky:=Int × Int
def encK (k:Ky):List V:=[.i .u16 k.1,.i .u32 k.2]
def keyA (k:Ky):V:=.agg [.i .u16 k.1,.i .u32 k.2]
/-- an open piece, as it lies -/
structure Pk where
  k:Ky
  p:Nat
  d:Sl
  nx:Int
  wt:Int
  born:Nat
def Pk.ent (u:Pk):V × V × Nat:=(keyA u.k,.p (some (u.p,0)),u.born)
def Pk.cells (u:Pk):List V:=[.sl u.d,.i .u8 u.nx,.i .i64 u.wt]
def nilS:Sl:=⟨none,0,.ex 0⟩
theorem eqK (k k':Ky):eqV Try.prog 30 57 (keyA k) (keyA k') = some ((k.1 == k'.1) && ((k.2 == k'.2) && true)):=by kernel_rfl
theorem eqK_t (k k':Ky):((k.1 == k'.1) && ((k.2 == k'.2) && true)) = decide (k = k'):=by
  obtain ⟨a,b⟩:=k; obtain ⟨c,d⟩:=k'
  by_cases h1:a = c <;> by_cases h2:b = d <;> simp [h1,h2]
/-- the place of a key -/
def at_ (k:Ky):List Pk→Nat→Option (Nat × V)
  | [],_=>none
  | u :: us,i=>if k = u.k then some (i,.p (some (u.p,0))) else at_ k us (i + 1)
theorem find_at (k:Ky):∀ (us:List Pk) (i:Nat),findE Try.prog 57 (keyA k) (us.map Pk.ent) i = some (at_ k us i):=by
  intro us
  induction us with
  | nil=>intro i; rfl
  | cons u us ih =>
    intro i
    simp only [List.map_cons,at_]
    unfold Pk.ent findE
    rw [eqK,eqK_t,Option.bind_some]
    by_cases h:k = u.k
    · rw [if_pos h,if_pos (by simpa using h)]
    · rw [if_neg h,if_neg (by simpa using h)]; exact ih (i + 1)
theorem at_none {k:Ky}:∀ {us:List Pk} {i:Nat},(∀ u ∈ us,u.k ≠ k)→at_ k us i = none:=by
  intro us
  induction us with
  | nil=>intro i _; rfl
  | cons u us ih =>
    intro i h
    unfold at_
    rw [if_neg (fun e=>h u (by simp) e.symm)]
    exact ih fun u hu=>h u (by simp [hu])
theorem at_some {k:Ky} {u:Pk}:∀ {us:List Pk} {i:Nat},(us.map (·.k)).Nodup→u ∈ us→u.k = k→∃ j,at_ k us i = some (i + j,.p (some (u.p,0)))∧us[j]? = some u∧us.eraseIdx j = us.filter fun v=>decide (v.k ≠ k):=by
  intro us
  induction us with
  | nil=>intro i _ h; cases h
  | cons v us ih =>
    intro i hn hu hk
    simp only [List.map_cons,List.nodup_cons] at hn
    unfold at_
    by_cases h:k = v.k
    · rw [if_pos h]
      have:u = v:=by
        rcases List.mem_cons.1 hu with e | e
        · exact e
        · exact absurd (List.mem_map.2 ⟨u,e,by rw [hk,h]⟩) hn.1
      subst this
      refine ⟨0,rfl,rfl,?_⟩
      rw [List.eraseIdx_cons_zero,List.filter_cons,if_neg (by simp [h])]
      refine (List.filter_eq_self.2 fun w hw=>?_).symm
      simp only [decide_eq_true_eq,ne_eq]
      intro e
      exact hn.1 (List.mem_map.2 ⟨w,hw,by rw [e,h]⟩)
    · rw [if_neg h]
      have hu':u ∈ us:=by
        rcases List.mem_cons.1 hu with e | e
        · subst e; exact absurd hk.symm h
        · exact e
      obtain ⟨j,h1,h2,h3⟩:=ih (i:=i + 1) hn.2 hu' hk
      refine ⟨j + 1,by rw [h1]; congr 2; omega,by simpa using h2,?_⟩
      rw [List.eraseIdx_cons_succ,List.filter_cons,if_pos (by simpa using fun e=>h e.symm),h3]
theorem ents_erase (us:List Pk) (j:Nat):(us.map Pk.ent).eraseIdx j = (us.eraseIdx j).map Pk.ent:=by
  induction us generalizing j with
  | nil=>rfl
  | cons u us ih=>cases j with
    | zero=>rfl
    | succ j=>simp [ih]
theorem und62:Try.prog.underlying 62 = some (.map 57 74):=by kernel_rfl
theorem keyOK (k:Ky):keyV Try.prog 57 (keyA k) = true:=by kernel_rfl
theorem del_at {R : Type} {H : Heap} {m ck : Nat} {us : List Pk} (hm : H.get m = some (.map (us.map Pk.ent) ck)) (k : Ky) (K : V → Heap → Option R) :
    evBuiltin Try.prog H .delete [62,57] [.m (some m),keyA k] K = match at_ k us 0 with
      | some (j,_)=>K (.tup []) (H.put m (.map ((us.eraseIdx j).map Pk.ent) ck))
      | none=>K (.tup []) H:=by
  simp only [evBuiltin,und62,keyOK,if_true,V.asM,Option.bind_some,getMap,hm,find_at]
  cases at_ k us 0 with
  | none=>rfl
  | some q=>obtain ⟨j,v⟩:=q; simp only [ents_erase]
/-- a joiner's own cells -/
def jc (w:Int) (m:Nat) (s:Sl):List V:=[.i .i64 w,.m (some m),.sl s]
theorem ldJ {H:Heap} {x m:Nat} {w:Int} {s:Sl} (h:H.get x = some (.cells (jc w m s) 64 false)):H.ldI .i64 x (0 + 0) = some w∧H.ldM x (0 + 1) = some (some m)∧H.ldSl x (0 + 2) = some s :=
  ⟨ldI_of h rfl,ldM_of h rfl,ldSl_of h rfl⟩
theorem s22 {R:Type} {H:Heap} {x m:Nat} {w:Int} {s:Sl} (h:H.get x = some (.cells (jc w m s) 64 false)) (K:Bool→Heap→Option R):g22 R (some (x,0)) H K = K (decide (w > 0)) H:=by
  simp only [g22,g22_r,g22_p0,Option.isNone_some,Bool.not_false,sel_true,Option.bind_some,(ldJ h).1]
theorem s22n {R:Type} {H:Heap} (K:Bool→Heap→Option R):g22 R none H K = K false H:=rfl
theorem s24 {R:Type} {H:Heap} {s:Sl} {l:List V} (h:Own H 57 2 s l) (K:Sl→Heap→Option R):g24 R s H K = K ⟨s.a,s.len,.ex s.len⟩ H:=by
  simp only [g24,g24_r,g24_p0]
  cases h with
  | nil=>rfl
  | op id n _ h hl hv =>
    simp only [slOf,Option.getD_none,Option.getD_some,Option.isSome_some,Option.isNone_some,Bool.and_false,Bool.false_eq_true,if_false,if_true]
    rw [if_pos (by omega)]
    congr 1
    simp only [Int.sub_zero,Int.toNat_natCast]
    split <;> simp
/-- the ids of a slice's object -/
def sid (s:Sl):List Nat:=match s.a with
  | some (q,_)=>[q]
  | none=>[]
/-- drop gives an open piece up -/
theorem s23 {H : Heap} (hw : H.Wf) {x m ck : Nat} {w : Int} {s : Sl} {us : List Pk} {l : List V} {u : Pk} (hx : H.get x = some (.cells (jc w m s) 64 false)) (hm : H.get m = some (.map (us.map Pk.ent) ck)) (hs : Own H 57 2 s l) (hn : (us.map (·.k)).Nodup) (hu : u ∈ us)
    (hd:(x :: m :: sid s).Nodup) (hsz:(s.len + 1) * 8 ≤ 140737488355328) :
    ∃ s' H',(∀ (R:Type) (K:Heap→Option R),g23 R (some (x,0)) u.k.1 u.k.2 H K = K H')∧H'.get x = some (.cells (jc w m s') 64 false)∧H'.get m = some (.map ((us.filter fun v=>decide (v.k ≠ u.k)).map Pk.ent) ck)∧Own H' 57 2 s' (l ++ encK u.k) ∧
      s'.len = s.len + 1∧(∀ i ∈ sid s',H.next ≤ i)∧H'.Wf∧Fr' (fun i=>i ∈ x :: m :: sid s) H H':=by
  obtain ⟨a0,a1,a2⟩:=ldJ hx
  obtain ⟨j,j1,j2,j3⟩:=at_some (i:=0) hn hu rfl
  rw [Nat.zero_add] at j1
  have hxm:x ≠ m:=by intro e; subst e; rw [hx] at hm; cases hm
  -- the map without it
  have w1:(H.put m (.map ((us.filter fun v=>decide (v.k ≠ u.k)).map Pk.ent) ck)).Wf:=hw.put hm _
  have gx1:(H.put m (.map ((us.filter fun v=>decide (v.k ≠ u.k)).map Pk.ent) ck)).get x = some (.cells (jc w m s) 64 false):=by rw [Heap.get_put,if_neg hxm]; exact hx
  have gm1:=Heap.gput H m (.map ((us.filter fun v=>decide (v.k ≠ u.k)).map Pk.ent) ck)
  have n1:(H.put m (.map ((us.filter fun v=>decide (v.k ≠ u.k)).map Pk.ent) ck)).next = H.next:=rfl
  have o1:Own (H.put m (.map ((us.filter fun v=>decide (v.k ≠ u.k)).map Pk.ent) ck)) 57 2 s l:=hs.mono fun id o ha ho=>by
    rw [Heap.get_put,if_neg]; exact ho
    rintro rfl
    simp only [sid,ha,List.nodup_cons,List.mem_cons] at hd
    exact hd.2.1 (by simp)
  have f1:Fr' (fun i=>i ∈ x :: m :: sid s) H (H.put m (.map ((us.filter fun v=>decide (v.k ≠ u.k)).map Pk.ent) ck)):=Fr'.put H (by simp) _
  generalize hH1:H.put m (.map ((us.filter fun v=>decide (v.k ≠ u.k)).map Pk.ent) ck) = H1 at *
  have w2:=w1.new (.cells (encK u.k) 57 false)
  have x2:=Ext.new H1 (.cells (encK u.k) 57 false)
  have gx2:=x2.get w1 gx1
  have gm2:=x2.get w1 gm1
  have gi2:=Heap.gnew H1 (.cells (encK u.k) 57 false)
  have o2:Own (H1.new (.cells (encK u.k) 57 false)) 57 2 s l:=o1.mono fun id o _ ho=>x2.get w1 ho
  have n2:(H1.new (.cells (encK u.k) 57 false)).next = H1.next + 1:=rfl
  have f2:=f1.trans (x2.fr (S:=fun i=>i ∈ x :: m :: sid s))
  have sl2:slCells (H1.new (.cells (encK u.k) 57 false)) 2 ⟨some (H1.next,0),1,.ex 1⟩ = some (encK u.k):=by
    have:=slIs_of (off:=0) (len:=1) (sz:=2) (c:=.ex 1) gi2 (by simp [encK])
    simpa [SlIs,encK] using this
  generalize hi:H1.next = i at *
  generalize hH2:H1.new (.cells (encK u.k) 57 false) = H2 at *
  obtain ⟨r,H3,e3,o3,l3,a3,w3,n3,k3⟩:=own_append w2 o2 (n:=1) (new:=encK u.k) (bytes:=8) (by omega) (by omega) rfl rfl hsz (by omega)
  have hsx:∀ y,y ∈ x :: m :: []→s.a ≠ some (y,0):=by
    intro y hy ha
    simp only [sid,ha,List.nodup_cons,List.mem_cons,List.not_mem_nil,or_false,not_or] at hd hy
    rcases hy with rfl | rfl
    · exact hd.1.2 rfl
    · exact hd.2.1 rfl
  have hx2:x < H2.next:=w2 _ _ gx2
  have hm2:m < H2.next:=w2 _ _ gm2
  have gx3:H3.get x = some (.cells (jc w m s) 64 false):=by rw [k3 x (by omega) (hsx x (by simp))]; exact gx2
  have gm3:H3.get m = some (.map ((us.filter fun v=>decide (v.k ≠ u.k)).map Pk.ent) ck):=by rw [k3 m (by omega) (hsx m (by simp))]; exact gm2
  have st3:H3.st x (0 + 2) (.sl r) = some (H3.put x (.cells (jc w m r) 64 false)):=st_of gx3 (by simp [jc]) rfl
  have ld2:=(ldJ gx2).2.2
  have same:V.same (.sl s) (.sl s) = true:=same_sl s
  have hr2:sid r = [H2.next]:=by simp [sid,a3]
  refine ⟨r,H3.put x (.cells (jc w m r) 64 false),fun R K=>?_,Heap.gput _ _ _,?_,?_,l3,?_,w3.put gx3 _,?_⟩
  · simp only [g23,g23_r,g23_p0,Option.bind_some,a1,getMap,hm]
    rw [show V.agg [V.i IntKind.u16 u.k.1,V.i IntKind.u32 u.k.2] = keyA u.k from rfl]
    simp only [find_at,Option.bind_some,j1,fnd_some,V.asP,Option.isNone_some,Bool.not_false,sel_true,del_at hm]
    rw [j3,hH1]
    simp only [(ldJ gx1).2.2,Option.bind_some,alo,hi]
    rw [show [V.i IntKind.u16 u.k.1,V.i IntKind.u32 u.k.2] = encK u.k from rfl,hH2]
    simp only [ld2,Option.bind_some,same,if_true,sl2,e3,st3]
  · rw [Heap.get_put,if_neg hxm.symm]; exact gm3
  · refine o3.mono fun id o ha ho=>?_
    rw [Heap.get_put,if_neg]; exact ho
    rw [a3] at ha; cases ha; omega
  · intro y hy
    rw [hr2] at hy
    simp only [List.mem_singleton] at hy
    have:=f2.next; omega
  · refine ⟨by rw [Heap.next_put]; have:=f2.next; omega,fun y hy hs'=>?_⟩
    simp only [List.mem_cons,not_or] at hs'
    have:=f2.next
    rw [Heap.get_put,if_neg hs'.1,k3 y (by omega) (fun ha=>hs'.2.2 (by simp [sid,ha]))]
    exact f2.same y hy (by simp only [List.mem_cons,not_or]; exact hs')
end Go.Proofs.Ytobebcfkddimkaa

