/- SegmentsJoins: the walk. -/
import Derived.Test.YtobebcfkddimkaaSJP
import Derived.Test.YtobebcfkddimkaaSR
namespace Go.Proofs.Ytobebcfkddimkaa
open Go AM Go.RowKit Go.Sort
set_option linter.unusedVariables false
set_option linter.unusedSimpArgs false

def ncs (nx:List Nat):List V:=nx.map fun (c:Nat)=>V.i .i64 (c:Int)
theorem zeros3 (n:Nat):zeroCellsV Try.prog 3 n = some (ncs (List.replicate n 0)):=by
  have h1:Try.prog.cellsOf 3 = 1:=by kernel_rfl
  have h2:zeroV Try.prog 3 = some (.i .i64 0):=by kernel_rfl
  unfold zeroCellsV
  rw [h1,h2,Nat.mul_one]
  split
  · rename_i h; subst h; rfl
  · simp only [Option.bind_some]
    rw [if_pos (by simp [V.cells])]
    refine congrArg some ?_
    simp [V.cells,ncs]
theorem ncs_get {nx:List Nat} {j c:Nat} (h:nx[j]? = some c):(ncs nx)[j]? = some (.i .i64 (c:Int)):=by simp [ncs,h]
theorem ncs_set (nx:List Nat) (j c:Nat):(ncs nx).set j (.i .i64 (c:Int)) = ncs (nx.set j c):=by simp [ncs,List.map_set]
section
variable {H0 G H':Heap} {x:Nat} {F:Nat→Prop} {S S':St}
theorem LInv.put (h:LInv H0 G x F S) {q:Nat} {o o':O} (hg:G.get q = some o) (hq:¬F q) (hlo:H0.next ≤ q):LInv H0 (G.put q o') x F S :=
  ⟨h.ja.ext (h.ja.wf.put hg _) (Fr'.put G hq _),h.ext.above hlo _,h.lo,h.hi⟩
end
/-- the hearing of the next segment -/
noncomputable def jHear (R:Type) (t7:Option (Nat × Nat)) (t9:Sl) (t12:Int) (x210:Int) (x211:Sl) (h:Heap) (K:Sl→Bool→Int→Heap→Option R):Option R :=
  if 0 ≤ t12∧t12 < ((t9.len:Nat):Int) then (
    (t9.a).bind fun q218 =>
    ((h).ldI .i64 q218.1 (q218.2 + Int.toNat t12 * 1)).bind fun x219 =>
    if 0 ≤ x219∧x219 < ((x211.len:Nat):Int) then (
      (x211.a).bind fun q220 =>
      ((h).ldI .u32 q220.1 ((q220.2 + Int.toNat x219 * 4) + 0)).bind fun x221 =>
      ((h).ldB q220.1 ((q220.2 + Int.toNat x219 * 4) + 1)).bind fun x222 =>
      ((h).ldI .u8 q220.1 ((q220.2 + Int.toNat x219 * 4) + 2)).bind fun x223 =>
      ((h).ldSl q220.1 ((q220.2 + Int.toNat x219 * 4) + 3)).bind fun x224 =>
      g13 R t7 x210 x221 x222 x223 x224 h K)
    else (
      none))
  else (
    none)
theorem j6_eq {R:Type} (t0 t1:Sl) (t2:Int) (t7:Option (Nat × Nat)) (t9:Sl) (t10 t11 t12:Int) (H:Heap) (kN:Sl→Sl→Int→Option (Nat × Nat)→Sl→Int→Int→Int→Sl→ByteArray→Sl→Bool→Int→Heap→Option R) (kE1:Sl→Sl→Int→Option (Nat × Nat)→Sl→Int→Int→Heap→Option R) (kR:Bool→Heap→Option R) :
  g4_p6 R t0 t1 t2 t7 t9 t10 t11 t12 H kN kE1 kR = if 0 ≤ t12∧t12 < ((t0.len:Nat):Int) then (
    (t0.a).bind fun q205 =>
    ((H).ldI .u8 q205.1 ((q205.2 + Int.toNat t12 * 4) + 0)).bind fun x206 =>
    ((H).ldI .u8 q205.1 ((q205.2 + Int.toNat t12 * 4) + 1)).bind fun x207 =>
    ((H).ldSl q205.1 ((q205.2 + Int.toNat t12 * 4) + 2)).bind fun x208 =>
    ((H).ldI .u8 q205.1 ((q205.2 + Int.toNat t12 * 4) + 3)).bind fun x209 =>
    g12 R x206 x207 x208 x209 H fun x210 x211 x212 h213 =>
    if 0 ≤ t12∧t12 < ((t9.len:Nat):Int) then (
      (t9.a).bind fun q214 =>
      ((h213).ldI .i64 q214.1 (q214.2 + Int.toNat t12 * 1)).bind fun x215 =>
      sel (decide (x215 ≥ ((x211.len:Nat):Int))) (
        kE1 t0 t1 t2 t7 t9 t10 t11 h213) (
        sel ((Int.tmod (IntKind.wrap .i64 (t11 + (IntKind.wrap .i64 t2))) (5:Int)) == (0:Int)) (
          sel (decide (t10 < (99:Int))) (
            g11 R t7 h213 fun x216 h217 =>
            sel (decide (((x216.len:Nat):Int) > (0:Int))) (
              kR false h217) (
              jHear R t7 t9 t12 x210 x211 h217 fun x225 x226 x227 h228=>kN t0 t1 t2 t7 t9 (IntKind.wrap .i64 (t10 + (1:Int))) t11 t12 x211 x212 x225 x226 x227 h228)) (
            jHear R t7 t9 t12 x210 x211 h213 fun x225 x226 x227 h228=>kN t0 t1 t2 t7 t9 t10 t11 t12 x211 x212 x225 x226 x227 h228)) (
          jHear R t7 t9 t12 x210 x211 h213 fun x225 x226 x227 h228=>kN t0 t1 t2 t7 t9 t10 t11 t12 x211 x212 x225 x226 x227 h228)))
    else (
      none))
  else (
    none):=rfl
section
variable {R:Type} {G:Heap} {t0 t1:Sl} {l:List PP}
/-- the first piece with the key -/
theorem jfirst_ok (h:RdP G t0 l) {k0:Nat} {p0:PP} (hk:l[k0]? = some p0) (hb8:l.length ≤ 1000) (t2:Int) (t7:Option (Nat × Nat)) (t9:Sl) (t10 t11:Int):∃ (j:Nat) (p:PP),First l p0.key j p∧∀ (R:Type) (K:Sl→Sl→Int→Option (Nat × Nat)→Sl→Int→Int→Int→Heap→Option R),g4_p5 R t0 t1 t2 t7 t9 t10 t11 (k0:Int) 0 G K = K t0 t1 t2 t7 t9 t10 t11 (j:Int) G:=by
  have hk0:k0 < l.length:=(List.getElem?_eq_some_iff.1 hk).1
  have hlen:=h.len
  obtain ⟨rr,G',e,j,p,rfl,rfl,hfirst⟩:=tlim_inv (b:=g4_p4_b)
    (fun st H=>∃ k m:Nat,∃ p,st = (t0,t1,t2,t7,t9,t10,t11,(k:Int),(m:Int))∧H = G∧k ≤ k0∧l[k]? = some p∧p.key = p0.key∧m ≤ k + 1∧∀ j' p',j' < k→j' < m→l[j']? = some p'→p'.key ≠ p0.key)
    (fun st=>k0 + 1 - st.2.2.2.2.2.2.2.2.toNat)
    (fun r H=>∃ (j:Nat) (p:PP),r = (t0,t1,t2,t7,t9,t10,t11,(j:Int))∧H = G∧First l p0.key j p) (by
      rintro st H ⟨k,m,p,rfl,rfl,hkk,hp,hpk,hm,hno⟩
      obtain ⟨q,q0,q1,q2,_,_⟩:=h.rd k p hp
      have hkl:k < l.length:=(List.getElem?_eq_some_iff.1 hp).1
      by_cases hmk:m < k
      · left
        have hml:m < l.length:=by omega
        have hpm:l[m]? = some l[m]:=List.getElem?_eq_getElem hml
        generalize l[m] = pm at hpm
        obtain ⟨q',q0',q1',q2',_,_⟩:=h.rd m pm hpm
        rw [q0] at q0'; cases q0'
        have hpo:=h.ok p (List.mem_of_getElem? hp)
        have hpmo:=h.ok pm (List.mem_of_getElem? hpm)
        have wm:IntKind.wrap .i64 ((m:Int) + 1) = ((m + 1:Nat):Int):=by rw [w64 (by omega)]; rfl
        have c1:0 ≤ (m:Int)∧(m:Int) < ((t0.len:Nat):Int):=by omega
        have c2:0 ≤ (k:Int)∧(k:Int) < ((t0.len:Nat):Int):=by omega
        have hpre:∀ {A:Type} (kN:Sl→Sl→Int→Option (Nat × Nat)→Sl→Int→Int→Int→Int→Heap→Option A) (kE),g4_p3 A t0 t1 t2 t7 t9 t10 t11 (k:Int) (m:Int) H kN kE = if pm.key = p.key then kN t0 t1 t2 t7 t9 t10 t11 (m:Int) ((m + 1:Nat):Int) H else kN t0 t1 t2 t7 t9 t10 t11 (k:Int) ((m + 1:Nat):Int) H:=by
          intro A kN kE
          simp only [g4_p3]
          rw [show decide ((m:Int) < (k:Int)) = true by simp; omega,sel_true]
          simp only [if_pos c1,if_pos c2,q0,Option.bind_some,Int.toNat_natCast,q1,q1',q2,q2',tmodp hpo.a.1,tmodp hpo.b.1,tmodp hpmo.a.1,tmodp hpmo.b.1,selE,wm]
          by_cases e1:pm.a % 4 = p.a % 4
          · rw [if_pos e1]
            by_cases e2:pm.b % 8 = p.b % 8
            · rw [if_pos e2,if_pos (by unfold PP.key; rw [e1,e2])]
            · rw [if_neg e2,if_neg (fun e=>e2 (congrArg Prod.snd e))]
          · rw [if_neg e1,if_neg (fun e=>e1 (congrArg Prod.fst e))]
        by_cases hkey:pm.key = p.key
        · refine ⟨(t0,t1,t2,t7,t9,t10,t11,(m:Int),((m + 1:Nat):Int)),H,?_,⟨m,m + 1,pm,rfl,rfl,by omega,hpm,hkey.trans hpk,by omega,fun j' p' h1 _ h3=>hno j' p' (by omega) h1 h3⟩,by dsimp only; omega⟩
          simp only [g4_p4_b,hpre,if_pos hkey]
        · refine ⟨(t0,t1,t2,t7,t9,t10,t11,(k:Int),((m + 1:Nat):Int)),H,?_,⟨k,m + 1,p,rfl,rfl,hkk,hp,hpk,by omega,fun j' p' h1 h2 h3=>?_⟩,by dsimp only; omega⟩
          · simp only [g4_p4_b,hpre,if_neg hkey]
          · by_cases e:j' = m
            · subst e; rw [hpm] at h3; cases h3; exact fun e=>hkey (e.trans hpk.symm)
            · exact hno j' p' h1 (by omega) h3
      · right
        refine ⟨(t0,t1,t2,t7,t9,t10,t11,(k:Int)),H,?_,k,p,rfl,rfl,hp,hpk,fun j' p' h1 h3=>hno j' p' h1 (by omega) h3⟩
        simp only [g4_p4_b,g4_p3]
        rw [show decide ((m:Int) < (k:Int)) = false by simp; omega,sel_false]) (t0,t1,t2,t7,t9,t10,t11,(k0:Int),0) G ⟨k0,0,p0,rfl,rfl,Nat.le_refl _,hk,rfl,by omega,fun _ _ _ h=>by omega⟩
  refine ⟨j,p,hfirst,fun R K=>?_⟩
  simp only [g4_p5,g4_p4,e,Option.bind_some]
/-- behind the hearing -/
theorem j7_ok {G : Heap} (hw : G.Wf) {q n c N : Nat} {nx : List Nat} (hn : nx.length = n) {j : Nat} (hj : nx[j]? = some c) (hg : G.get q = some (.cells (ncs nx) 3 false)) {r : Sl} {d got : List Int} {done : Bool} (hb : BS G r got) (hrc : r.cap = .ex r.len) (hrq : ∀ z, r.a = some z → z.1 ≠ q) (hc : c < N) (hN : N ≤ 16) {parts : Sl} (hp : parts.len = N) (hout : (got, done) = if c + 1 < N then ([], false) else (d, true))
    (t1:Sl) (t2:Int) (t7:Option (Nat × Nat)) (t10 t11:Int) (kN:Sl→Sl→Int→Option (Nat × Nat)→Sl→Int→Int→Heap→Option R) (kR:Bool→Heap→Option R) :
    g4_p7 R t0 t1 t2 t7 ⟨some (q,0),n,.ex n⟩ t10 t11 (j:Int) parts (bsU (u8s d)) r done 0 G kN kR = kN t0 t1 t2 t7 ⟨some (q,0),n,.ex n⟩ t10 t11 (G.put q (.cells (ncs (nx.set j (c + 1))) 3 false)):=by
  have hjl:j < nx.length:=(List.getElem?_eq_some_iff.1 hj).1
  have c1:0 ≤ (j:Int)∧(j:Int) < ((n:Nat):Int):=by omega
  have l1:G.ldI .i64 q (0 + j * 1) = some (c:Int):=ldI_of hg (by rw [Nat.zero_add,Nat.mul_one]; exact ncs_get hj)
  have wc:IntKind.wrap .i64 ((c:Int) + 1) = ((c + 1:Nat):Int):=by rw [w64 (by omega)]; rfl
  have s1:G.st q (0 + j * 1) (.i .i64 ((c + 1:Nat):Int)) = some (G.put q (.cells (ncs (nx.set j (c + 1))) 3 false)):=by
    rw [st_of hg (by simp [ncs]; omega) rfl,Nat.zero_add,Nat.mul_one,ncs_set]
  have l2:(G.put q (.cells (ncs (nx.set j (c + 1))) 3 false)).ldI .i64 q (0 + j * 1) = some ((c + 1:Nat):Int):=ldI_of (Heap.gput _ _ _) (by rw [Nat.zero_add,Nat.mul_one]; exact ncs_get (by rw [List.getElem?_set_self hjl]))
  have hb2:BS (G.put q (.cells (ncs (nx.set j (c + 1))) 3 false)) r got:=hb.mono fun id off o ha ho=>by
    rw [Heap.get_put,if_neg (hrq _ ha)]; exact ho
  have hrl:r.len = got.length:=hb.len
  unfold g4_p7
  simp only [if_pos c1,Option.bind_some,Int.toNat_natCast,l1,wc,s1,bne_self_eq_false,sel_false,l2,hp]
  by_cases hlt:c + 1 < N
  · rw [if_pos hlt] at hout
    obtain ⟨rfl,rfl⟩:=Prod.mk.injEq _ _ _ _ ▸ hout
    rw [show (((c + 1:Nat):Int) == (N:Int)) = false by simp; omega]
    simp only [beq_self_eq_true,Bool.not_true,sel_false,Bool.not_false,sel_true,hrl,List.length_nil]
    rfl
  · rw [if_neg hlt] at hout
    obtain ⟨rfl,rfl⟩:=Prod.mk.injEq _ _ _ _ ▸ hout
    rw [show (((c + 1:Nat):Int) == (N:Int)) = true by simp; omega]
    simp only [beq_self_eq_true,Bool.not_true,sel_false,sel_true,slB hb2,Option.bind_some,strEqU,decide_true,hrc,capK,bne_self_eq_false]
end
theorem Row.fr {H G:Heap} {F:Nat→Prop} {q i:Nat} {u:Sg} {s:Sl} (h:Row H q u i s) (hw:H.Wf) (hf:Fr' F H G) (hq:¬F q) (hs:u.d = [] ∨ ∀ z,s.a = some z→¬F z.1):Row G q u i s:=by
  obtain ⟨vs,h1,h2,h3⟩:=h.at_
  exact ⟨h.bs.keep hw hf hs,h.cap,h.off,vs,hf.get hw h1 hq,h2,h3⟩
section
variable {H0 G:Heap} {x:Nat} {F:Nat→Prop} {S:St} {t0 t1:Sl} {l:List PP} {turns:List Int}
theorem joins_step (hw0 : H0.Wf) (h : LInv H0 G x F S) {nx : List Nat} {ticks : Nat} (hs : JInv l S nx ticks) (hl : RdP H0 t0 l) (ht : BS H0 t1 turns) (hbt : Byt turns) (hl8 : l.length ≤ 8) (hl0 : 0 < l.length) (ht200 : turns.length ≤ 200) {i : Nat} (hi : i < turns.length + 200) {q : Nat} (hg : G.get q = some (.cells (ncs nx) 3 false)) (hq : ¬F q) (hqlo : H0.next ≤ q) (hticks : ticks ≤ 99)
    (hfar:Far l nx turns.length (i - turns.length)) {w:Int} (hwt:0 ≤ w∧w ≤ 255) :
    ∃ H' F' S' nx' ticks',LInv H0 H' x F' S'∧JInv l S' nx' ticks'∧H'.get q = some (.cells (ncs nx') 3 false)∧¬F' q∧ticks' ≤ 99∧Far l nx' turns.length (i + 1 - turns.length) ∧
      ∀ (R:Type) (kN:Sl→Sl→Int→Option (Nat × Nat)→Sl→Int→Int→Heap→Option R) (kE) (kR),g4_p14 R t0 t1 w (some (x,0)) ⟨some (q,0),l.length,.ex l.length⟩ (ticks:Int) (i:Int) G kN kE kR = kN t0 t1 w (some (x,0)) ⟨some (q,0),l.length,.ex l.length⟩ (ticks':Int) ((i + 1:Nat):Int) H':=by
  have hpos:0 < S.w:=by have:=hs.w; omega
  have hll:=hl.len
  have htl:t1.len = turns.length:=ht.len
  have hqn:q < G.next:=h.ja.wf _ _ hg
  -- whose turn it is
  obtain ⟨k0,hk0l,hturn,e2⟩:∃ k0:Nat,k0 < l.length∧(turns.length ≤ i→(turns.length + (i - turns.length)) % l.length = k0)∧∀ (R:Type) (kN),g4_p2 R t0 t1 w (some (x,0)) ⟨some (q,0),l.length,.ex l.length⟩ (ticks:Int) (i:Int) G kN = kN t0 t1 w (some (x,0)) ⟨some (q,0),l.length,.ex l.length⟩ (ticks:Int) (i:Int) (k0:Int) 0 G:=by
    have c0:((t0.len:Nat):Int) ≠ 0:=by omega
    by_cases hlt:i < turns.length
    · obtain ⟨qt,a0,a1⟩:=(ht.ext hw0 h.ext).at (by intro e; rw [e] at hlt; simp at hlt)
      have hv:=hbt.getD i
      have c1:0 ≤ (i:Int)∧(i:Int) < ((t1.len:Nat):Int):=by omega
      have hm:0 ≤ turns.getD i 0 % (l.length:Int)∧turns.getD i 0 % (l.length:Int) < l.length:=⟨Int.emod_nonneg _ (by omega),Int.emod_lt_of_pos _ (by omega)⟩
      obtain ⟨k0,hk0⟩:=Int.eq_ofNat_of_zero_le hm.1
      refine ⟨k0,by omega,fun hle=>by omega,fun R kN=>?_⟩
      unfold g4_p2
      rw [if_neg c0,show decide ((i:Int) < ((t1.len:Nat):Int)) = true by simp; omega,sel_true,if_pos c1,a0,Option.bind_some,Int.toNat_natCast,a1 i hlt,Option.bind_some,if_neg c0,w64 (n:=turns.getD i 0) (by omega),tmodp hv.1,hll,hk0]
    · refine ⟨i % l.length,Nat.mod_lt _ hl0,fun hle=>by rw [Nat.add_sub_cancel' hle],fun R kN=>?_⟩
      unfold g4_p2
      rw [if_neg c0,show decide ((i:Int) < ((t1.len:Nat):Int)) = false by simp; omega,sel_false,hll]
      rfl
  have hp0:l[k0]? = some l[k0]:=List.getElem?_eq_getElem hk0l
  generalize l[k0] = p0 at hp0
  obtain ⟨j,p,hfirst,efirst⟩:=jfirst_ok (t1:=t1) (hl.ext hw0 h.ext) hp0 (by omega) w (some (x,0)) ⟨some (q,0),l.length,.ex l.length⟩ (ticks:Int) (i:Int)
  have hjl:j < l.length:=(List.getElem?_eq_some_iff.1 hfirst.1).1
  have hpmem:=List.mem_of_getElem? hfirst.1
  obtain ⟨qp,p1,p2,p3,p4,p5⟩:=(hl.ext hw0 h.ext).rd j p hfirst.1
  have hpo:=(hl.ext hw0 h.ext).ok p hpmem
  obtain ⟨qq,H1,ecut,rows,xcut,wcut,hqq⟩:=cut_ok h.ja.wf hpo.bs hpo.cap hpo.a hpo.b hpo.m
  have hn:=p.n_b
  have hN:cnt (p.d.take 60).length (4 + p.m % 16).toNat = p.n:=rfl
  rw [hN] at ecut rows
  have hkey:p.key = p0.key:=hfirst.2.1
  obtain ⟨c,hc,hcn,_⟩:=hs.go j p hfirst.refl
  have hb1:=h.beside xcut wcut
  have hg1:=xcut.get h.ja.wf hg
  have c3:0 ≤ (j:Int)∧(j:Int) < ((t0.len:Nat):Int):=by omega
  have c3':0 ≤ (j:Int)∧(j:Int) < ((l.length:Nat):Int):=by omega
  have lc:∀ {G:Heap},G.get q = some (.cells (ncs nx) 3 false)→G.ldI .i64 q (0 + j * 1) = some (c:Int):=fun hg=>ldI_of hg (by rw [Nat.zero_add,Nat.mul_one]; exact ncs_get hc)
  have wi:IntKind.wrap .i64 ((i:Int) + 1) = ((i + 1:Nat):Int):=by rw [w64 (by omega)]; rfl
  have wn:IntKind.wrap .i64 (((t1.len:Nat):Int) + 200) = ((turns.length + 200:Nat):Int):=by rw [w64 (by omega)]; omega
  have pre : ∀ (R : Type) (kN : Sl → Sl → Int → Option (Nat × Nat) → Sl → Int → Int → Heap → Option R) (kE) (kR), g4_p14 R t0 t1 w (some (x, 0)) ⟨some (q, 0), l.length, .ex l.length⟩ (ticks : Int) (i : Int) G kN kE kR =
      g4_p8 R t0 t1 w (some (x,0)) ⟨some (q,0),l.length,.ex l.length⟩ (ticks:Int) (i:Int) (j:Int) G (fun t0 t1 t2 t7 t9 t10 t11 H=>kN t0 t1 t2 t7 t9 t10 (IntKind.wrap .i64 (t11 + (1:Int))) H) (fun t0 t1 t2 t7 t9 t10 t11 H=>kN t0 t1 t2 t7 t9 t10 (IntKind.wrap .i64 (t11 + (1:Int))) H) kR:=fun R kN kE kR=>by
    simp only [g4_p14,g4_p1,g4_p13,g4_p11,g4_p10,g4_p12,g4_p9]
    rw [show decide (((t0.len:Nat):Int) > 0) = true by simp; omega,sel_true,wn,show decide ((i:Int) < ((turns.length + 200:Nat):Int)) = true by simp; omega,sel_true,e2,efirst]
  -- up to the number of the next segment
  have pre6 : ∀ (R : Type) (kN) (kE1) (kR), g4_p6 R t0 t1 w (some (x, 0)) ⟨some (q, 0), l.length, .ex l.length⟩ (ticks : Int) (i : Int) (j : Int) G kN kE1 kR =
      sel (decide ((c:Int) ≥ ((p.n:Nat):Int))) (kE1 t0 t1 w (some (x,0)) ⟨some (q,0),l.length,.ex l.length⟩ (ticks:Int) (i:Int) H1) (
        sel ((Int.tmod (IntKind.wrap .i64 ((i:Int) + (IntKind.wrap .i64 w))) (5:Int)) == (0:Int)) (
          sel (decide ((ticks:Int) < (99:Int))) (
            g11 R (some (x,0)) H1 fun x216 h217 =>
            sel (decide (((x216.len:Nat):Int) > (0:Int))) (
              kR false h217) (
              jHear R (some (x,0)) ⟨some (q,0),l.length,.ex l.length⟩ (j:Int) (p.a % 4) ⟨some (qq,0),p.n,.ex p.n⟩ h217 fun x225 x226 x227 h228=>kN t0 t1 w (some (x,0)) ⟨some (q,0),l.length,.ex l.length⟩ (IntKind.wrap .i64 ((ticks:Int) + (1:Int))) (i:Int) (j:Int) ⟨some (qq,0),p.n,.ex p.n⟩ (bsU (u8s p.data)) x225 x226 x227 h228)) (
            jHear R (some (x,0)) ⟨some (q,0),l.length,.ex l.length⟩ (j:Int) (p.a % 4) ⟨some (qq,0),p.n,.ex p.n⟩ H1 fun x225 x226 x227 h228=>kN t0 t1 w (some (x,0)) ⟨some (q,0),l.length,.ex l.length⟩ (ticks:Int) (i:Int) (j:Int) ⟨some (qq,0),p.n,.ex p.n⟩ (bsU (u8s p.data)) x225 x226 x227 h228)) (
          jHear R (some (x,0)) ⟨some (q,0),l.length,.ex l.length⟩ (j:Int) (p.a % 4) ⟨some (qq,0),p.n,.ex p.n⟩ H1 fun x225 x226 x227 h228=>kN t0 t1 w (some (x,0)) ⟨some (q,0),l.length,.ex l.length⟩ (ticks:Int) (i:Int) (j:Int) ⟨some (qq,0),p.n,.ex p.n⟩ (bsU (u8s p.data)) x225 x226 x227 h228)):=fun R kN kE1 kR=>by
    rw [j6_eq,if_pos c3,p1,Option.bind_some,Int.toNat_natCast,p2,Option.bind_some,p3,Option.bind_some,p4,Option.bind_some,p5,Option.bind_some,ecut]
    simp only [if_pos c3',Option.bind_some,Int.toNat_natCast,lc hg1]
    rfl
  by_cases hcc:p.n ≤ c
  · refine ⟨H1,F,S,nx,ticks,hb1,hs,hg1,hq,hticks,?_,fun R kN kE kR=>?_⟩
    · by_cases hlt:i < turns.length
      · rw [show i + 1 - turns.length = i - turns.length by omega]; exact hfar
      · rw [show i + 1 - turns.length = (i - turns.length) + 1 by omega]
        exact hfar.idle hp0 (hturn (by omega)) hfirst hc hcc
    · rw [pre]
      simp only [g4_p8]
      rw [pre6,show decide ((c:Int) ≥ ((p.n:Nat):Int)) = true by simp; omega,sel_true,wi]
  have hcn':c < p.n:=by omega
  have hfar':Far l (nx.set j (c + 1)) turns.length (i + 1 - turns.length):=by
    by_cases hlt:i < turns.length
    · rw [show i + 1 - turns.length = 0 by omega]
      rw [show i - turns.length = 0 by omega] at hfar
      exact hfar.given hc
    · rw [show i + 1 - turns.length = (i - turns.length) + 1 by omega]
      exact hfar.heard hp0 (hturn (by omega)) hfirst hc
  obtain ⟨sg,row,hup⟩:=rows c hcn'
  have hk1:¬16383 < p.key.1:=by have:=hpo.a; show ¬16383 < p.a % 4; omega
  have hfirst':First l p.key j p:=hfirst.refl
  -- the hearing, from any such heap
  have hearing : ∀ (G2 : Heap) (F2 : Nat → Prop) (S2 : St) (tk : Nat), LInv H0 G2 x F2 S2 → JInv l S2 nx tk → G2.get q = some (.cells (ncs nx) 3 false) → ¬F2 q → Row G2 qq (p.seg c) c sg → ((p.seg c).d = [] ∨ ∀ z, sg.a = some z → ¬F2 z.1) →
      ∃ H' F' S',LInv H0 H' x F' S'∧JInv l S' (nx.set j (c + 1)) tk∧H'.get q = some (.cells (ncs (nx.set j (c + 1))) 3 false)∧¬F' q∧∀ (R:Type) (t10:Int) (kN:Sl→Sl→Int→Option (Nat × Nat)→Sl→Int→Int→Heap→Option R) (kR),
        (jHear R (some (x,0)) ⟨some (q,0),l.length,.ex l.length⟩ (j:Int) (p.a % 4) ⟨some (qq,0),p.n,.ex p.n⟩ G2 fun x225 x226 x227 h228=>g4_p7 R t0 t1 w (some (x,0)) ⟨some (q,0),l.length,.ex l.length⟩ t10 (i:Int) (j:Int) ⟨some (qq,0),p.n,.ex p.n⟩ (bsU (u8s p.data)) x225 x226 x227 h228 kN kR) = kN t0 t1 w (some (x,0)) ⟨some (q,0),l.length,.ex l.length⟩ t10 (i:Int) H':=by
    intro G2 F2 S2 tk h2 hs2 hg2 hq2 row2 hup2
    obtain ⟨r0,r1,r2,r3⟩:=row2.ld
    have hfew:=hs2.few h2.ja.nodup
    obtain ⟨hs',hout⟩:=hs2.hear hfirst' hc hcn' (by omega) hk1
    obtain ⟨r,H2,ehear,j2,b2,cp2,f2,y2,_⟩:=h2.ja.hear (by have:=hs2.w; omega) (k:=p.key) (u:=p.seg c) rfl (by show (0:Int) ≤ (p.n:Int) - 1 - c; omega) row2.bs (by
      by_cases hd0:(p.seg c).d = []
      · exact .inl hd0
      rcases hup2 with hup2 | hup2
      · exact .inl hup2
      · right; intro z hz
        refine ⟨hup2 z hz,?_⟩
        obtain ⟨z2,vs,e,ro,z1,z3,_⟩:=row2.bs.there hd0
        rw [hz] at z1; cases z1
        exact h2.ja.wf _ _ z3) (fun b hb=>by
      obtain ⟨_,_,_,p',c',_,_,_,_,_,hd⟩:=hs2.ps b hb
      rw [hd]; have:=p'.data_len; simp only [List.length_take]; omega) (by rw [hs2.ls]; simp; omega)
    have l3:=h2.step j2 f2
    have hq2n:q < G2.next:=h2.ja.wf _ _ hg2
    have hq3:¬grown F2 G2 H2 q:=fun hgr=>by rcases hgr with hgr | hgr; exact hq2 hgr; omega
    have hg3:=f2.get h2.ja.wf hg2 hq2
    refine ⟨H2.put q (.cells (ncs (nx.set j (c + 1))) 3 false),_,_,l3.put hg3 hq3 hqlo,hs',Heap.gput _ _ _,hq3,fun R t10 kN kR=>?_⟩
    unfold jHear
    have c5:0 ≤ (c:Int)∧(c:Int) < ((p.n:Nat):Int):=by omega
    simp only [if_pos c3',Option.bind_some,Int.toNat_natCast,lc hg2,if_pos c5]
    rw [r0,Option.bind_some,r1,Option.bind_some,r2,Option.bind_some,r3,Option.bind_some]
    refine (ehear R _).trans ?_
    have herr:(S2.hear p.key (p.seg c)).2.err = 0:=by rw [hout]; split <;> rfl
    rw [herr]
    exact j7_ok l3.ja.wf (by rw [hs2.len]) hc hg3 b2 cp2 (fun z hz e=>hq3 (e ▸ y2 z hz)) hcn' hn.2 rfl (by rw [hout]; split <;> rfl) t1 w (some (x,0)) t10 (i:Int) kN kR
  have hsegd:∀ z,sg.a = some z→(p.seg c).d = [] ∨ ¬F z.1:=fun z hz=>by
    rcases hup with hup | hup
    · exact .inl hup
    · right; intro hF; have:=h.hi _ hF; have:=hup z hz; omega
  have hup1:(p.seg c).d = [] ∨ ∀ z,sg.a = some z→¬F z.1:=by
    by_cases hd:(p.seg c).d = []
    · exact .inl hd
    · exact .inr fun z hz=>(hsegd z hz).resolve_left hd
  have hqF:¬F qq:=fun hF=>by have:=h.hi _ hF; omega
  by_cases hdo:Int.tmod (IntKind.wrap .i64 ((i:Int) + (IntKind.wrap .i64 w))) (5:Int) = 0∧ticks < 99
  · obtain ⟨r,G2,et,j2,f2,n2,_⟩:=hb1.ja.tick hpos
    obtain ⟨hdue,hs2⟩:=hs.tick hdo.2
    rw [hdue] at n2
    have h2:=hb1.step j2 f2
    have hq1n:q < H1.next:=wcut _ _ hg1
    have hq2:¬grown F H1 G2 q:=fun hgr=>by rcases hgr with hgr | hgr; exact hq hgr; omega
    have hqq1:qq < H1.next:=by obtain ⟨vs,h1,_⟩:=row.at_; exact wcut _ _ h1
    obtain ⟨H',F',S',a1,a2,a3,a4,a5⟩:=hearing G2 _ _ (ticks + 1) h2 hs2 (f2.get wcut hg1 hq) hq2 (row.fr wcut f2 hqF hup1) (by
      by_cases hd:(p.seg c).d = []
      · exact .inl hd
      · right; intro z hz hgr
        obtain ⟨z2,vs,e,ro,z1,z3,_⟩:=row.bs.there hd
        rw [hz] at z1; cases z1
        have hzn:=wcut _ _ z3
        rcases hgr with hgr | hgr
        · exact (hsegd z hz).resolve_left hd hgr
        · omega)
    refine ⟨H',F',S',_,ticks + 1,a1,a2,a3,a4,by omega,hfar',fun R kN kE kR=>?_⟩
    rw [pre]
    simp only [g4_p8]
    rw [pre6,show decide ((c:Int) ≥ ((p.n:Nat):Int)) = false by simp; omega,sel_false,selE,if_pos hdo.1,show decide ((ticks:Int) < 99) = true by simp; omega,sel_true,et,n2,show decide (((([]:List Ky).length:Nat):Int) > 0) = false from rfl,sel_false,a5,wi,w64 (n:=(ticks:Int) + 1) (by omega)]
    rfl
  · obtain ⟨H',F',S',a1,a2,a3,a4,a5⟩:=hearing H1 F S ticks hb1 hs hg1 hq row hup1
    refine ⟨H',F',S',_,ticks,a1,a2,a3,a4,hticks,hfar',fun R kN kE kR=>?_⟩
    rw [pre]
    simp only [g4_p8]
    rw [pre6,show decide ((c:Int) ≥ ((p.n:Nat):Int)) = false by simp; omega,sel_false,selE]
    by_cases h5:Int.tmod (IntKind.wrap .i64 ((i:Int) + (IntKind.wrap .i64 w))) (5:Int) = 0
    · rw [if_pos h5,show decide ((ticks:Int) < 99) = false by simp; omega,sel_false,a5,wi]
    · rw [if_neg h5,a5,wi]
theorem joins_true (hw0:H0.Wf) (hl:RdP H0 t0 l) (ht:BS H0 t1 turns) (hbt:Byt turns) {w:Int} (hwt:0 ≤ w∧w ≤ 255):∃ H',Ext H0 H'∧H'.Wf∧∀ (R:Type) (K:Bool→Heap→Option R),g4 R t0 t1 w H0 K = K true H':=by
  have hll:=hl.len
  have htl:t1.len = turns.length:=ht.len
  have dd:∀ (R:Type) (K:Bool→Heap→Option R),g4 R t0 t1 w H0 K = g4_p0 R t0 t1 w H0 (fun t0 t1 t2 t7 t9 t10 t11 H=>g4_p18 R t0 t1 t2 t7 t9 t10 t11 H K) K:=fun R K=>rfl
  by_cases c1:l.length > 8
  · refine ⟨H0,.refl _ _,hw0,fun R K=>?_⟩
    rw [dd]; unfold g4_p0
    rw [show decide (((t0.len:Nat):Int) > 8) = true by simp; omega,sel_true]; rfl
  by_cases c2:turns.length > 200
  · refine ⟨H0,.refl _ _,hw0,fun R K=>?_⟩
    rw [dd]; unfold g4_p0
    rw [show decide (((t0.len:Nat):Int) > 8) = false by simp; omega,sel_false,show decide (((t1.len:Nat):Int) > 200) = true by simp; omega,sel_true]; rfl
  obtain ⟨H1,e1,j1,x1,w1⟩:=new_ok hw0 (w:=100) (by omega)
  have l1:LInv H0 H1 (H0.next + 1) (fun i=>H0.next ≤ i∧i < H1.next) ⟨100,[],[]⟩:=⟨j1,x1,fun i hi=>hi.1,fun i hi=>hi.2⟩
  generalize H0.next + 1 = x at *
  have l2:=l1.beside (Ext.new H1 (.cells (ncs (List.replicate l.length 0)) 3 false)) (w1.new _)
  have g2:=Heap.gnew H1 (.cells (ncs (List.replicate l.length 0)) 3 false)
  have hqF:¬(fun i=>H0.next ≤ i∧i < H1.next) H1.next:=fun h=>Nat.lt_irrefl _ h.2
  have s1:JInv l ⟨100,[],[]⟩ (List.replicate l.length 0) 0:=⟨rfl,rfl,by simp,fun a ha=>(by cases ha),fun j p hp=>⟨0,by
    have:=(List.getElem?_eq_some_iff.1 hp.1).1
    simp [this],Nat.zero_le _,fun h=>by omega⟩⟩
  have start:∀ (R:Type) (K:Bool→Heap→Option R),g4 R t0 t1 w H0 K = g4_p18 R t0 t1 w (some (x,0)) ⟨some (H1.next,0),l.length,.ex l.length⟩ 0 0 (H1.new (.cells (ncs (List.replicate l.length 0)) 3 false)) K:=fun R K=>by
    rw [dd]; unfold g4_p0
    rw [show decide (((t0.len:Nat):Int) > 8) = false by simp; omega,sel_false,show decide (((t1.len:Nat):Int) > 200) = false by simp; omega,sel_false,e1]
    simp only [bne_self_eq_false,sel_false,hll,Int.toNat_natCast,zeros3,Option.bind_some,alo]
    rw [if_pos (by omega)]
  generalize hG:H1.new (.cells (ncs (List.replicate l.length 0)) 3 false) = G at *
  generalize hq:H1.next = q at *
  have hqlo:H0.next ≤ q:=by have:=x1.next; omega
  -- the loop
  obtain ⟨rr,G2,e2,F2,S2,rfl,l3,p3⟩:=tlim_inv (b:=g4_p15_b)
    (fun st H=>∃ (i:Nat) (F:Nat→Prop) (S1:St) (nx:List Nat) (ticks:Nat),st = (t0,t1,w,some (x,0),⟨some (q,0),l.length,.ex l.length⟩,(ticks:Int),(i:Int))∧i ≤ turns.length + 200∧LInv H0 H x F S1∧JInv l S1 nx ticks∧H.get q = some (.cells (ncs nx) 3 false)∧¬F q∧ticks ≤ 99∧Far l nx turns.length (i - turns.length))
    (fun st=>turns.length + 200 - st.2.2.2.2.2.2.toNat)
    (fun r H=>∃ F S1,r = .inl (some (x,0))∧LInv H0 H x F S1∧S1.ps = []∧S1.w = 100) (by
      rintro st H ⟨i,F1,S1,nx,ticks,rfl,hi,h1,h2,h3,h4,h5,h6⟩
      have wn:IntKind.wrap .i64 (((t1.len:Nat):Int) + 200) = ((turns.length + 200:Nat):Int):=by rw [w64 (by omega)]; omega
      by_cases hl0:l.length = 0
      · right
        refine ⟨.inl (some (x,0)),H,?_,F1,S1,rfl,h1,?_,h2.w⟩
        · simp only [g4_p15_b,g4_p14,g4_p1]
          rw [show decide (((t0.len:Nat):Int) > 0) = false by simp; omega,sel_false]
        · have:=h2.few h1.ja.nodup
          exact List.length_eq_zero_iff.1 (by omega)
      by_cases hlt:i < turns.length + 200
      · left
        obtain ⟨H',F',S',nx',ticks',a1,a2,a3,a4,a5,a6,a7⟩:=joins_step hw0 h1 h2 hl ht hbt (by omega) (by omega) (by omega) hlt h3 h4 hqlo h5 h6 hwt
        refine ⟨(t0,t1,w,some (x,0),⟨some (q,0),l.length,.ex l.length⟩,(ticks':Int),((i + 1:Nat):Int)),H',?_,⟨i + 1,F',S',nx',ticks',rfl,by omega,a1,a2,a3,a4,a5,a6⟩,by dsimp only; omega⟩
        simp only [g4_p15_b,a7]
      · right
        refine ⟨.inl (some (x,0)),H,?_,F1,S1,rfl,h1,?_,h2.w⟩
        · simp only [g4_p15_b,g4_p14,g4_p1]
          rw [show decide (((t0.len:Nat):Int) > 0) = true by simp; omega,sel_true,wn,show decide ((i:Int) < ((turns.length + 200:Nat):Int)) = false by simp; omega,sel_false]
        · rw [show i - turns.length = 200 by omega] at h6
          exact far_end h2 h6 (by omega)) (t0,t1,w,some (x,0),⟨some (q,0),l.length,.ex l.length⟩,0,0) G ⟨0,_,_,_,0,rfl,by omega,l2,s1,g2,hqF,by omega,by rw [Nat.zero_sub]; exact far_start s1 _⟩
  refine ⟨G2,l3.ext,l3.ja.wf,fun R K=>?_⟩
  obtain ⟨p3,w3⟩:=p3
  rw [start]
  simp only [g4_p18,g4_p16,g4_p15]
  rw [e2]
  simp only [Option.bind_some,cas,g4_p17]
  rw [l3.ja.open (by omega),p3]
  rfl
end
end Go.Proofs.Ytobebcfkddimkaa

