/- SegmentsSafe: the walk. -/
import Derived.Test.YtobebcfkddimkaaSL
namespace Go.Proofs.Ytobebcfkddimkaa
open Go AM Go.RowKit Go.Sort
set_option linter.unusedVariables false
set_option linter.unusedSimpArgs false

section
variable {R:Type} {G:Heap} {t0 t1:Sl} {l:List PP}
/-- the first piece with the key -/
theorem first_ok (h:RdP G t0 l) {k0:Nat} {p0:PP} (hk:l[k0]? = some p0) (hb8:l.length ≤ 1000) (t7:Option (Nat × Nat)) (t9:Int):∃ (j:Nat) (p:PP),First l p0.key j p∧∀ (R:Type) (K:Sl→Sl→Option (Nat × Nat)→Int→Int→Heap→Option R),g3_p5 R t0 t1 t7 t9 (k0:Int) 0 G K = K t0 t1 t7 t9 (j:Int) G:=by
  have hk0:k0 < l.length:=(List.getElem?_eq_some_iff.1 hk).1
  have hlen:=h.len
  obtain ⟨rr,G',e,j,p,rfl,rfl,hfirst⟩:=tlim_inv (b:=g3_p4_b)
    (fun st H=>∃ k m:Nat,∃ p,st = (t0,t1,t7,t9,(k:Int),(m:Int))∧H = G∧k ≤ k0∧l[k]? = some p∧p.key = p0.key∧m ≤ k + 1∧∀ j' p',j' < k→j' < m→l[j']? = some p'→p'.key ≠ p0.key)
    (fun st=>k0 + 1 - st.2.2.2.2.2.toNat)
    (fun r H=>∃ (j:Nat) (p:PP),r = (t0,t1,t7,t9,(j:Int))∧H = G∧First l p0.key j p) (by
      rintro st H ⟨k,m,p,rfl,rfl,hkk,hp,hpk,hm,hno⟩
      obtain ⟨q,q0,q1,q2,_,_⟩:=h.rd k p hp
      have hkl:k < l.length:=(List.getElem?_eq_some_iff.1 hp).1
      by_cases hmk:m < k
      · left
        have hml:m < l.length:=by omega
        have hpm:l[m]? = some l[m]:=List.getElem?_eq_getElem hml
        generalize l[m] = pm at hpm
        obtain ⟨q',q0',q1',q2',_,_⟩:=h.rd m pm hpm
        rw [q0] at q0'; cases q0'
        have hpo:=h.ok p (List.mem_of_getElem? hp)
        have hpmo:=h.ok pm (List.mem_of_getElem? hpm)
        have wm:IntKind.wrap .i64 ((m:Int) + 1) = ((m + 1:Nat):Int):=by rw [w64 (by omega)]; rfl
        have c1:0 ≤ (m:Int)∧(m:Int) < ((t0.len:Nat):Int):=by omega
        have c2:0 ≤ (k:Int)∧(k:Int) < ((t0.len:Nat):Int):=by omega
        have hpre:∀ {A:Type} (kN:Sl→Sl→Option (Nat × Nat)→Int→Int→Int→Heap→Option A) (kE),g3_p3 A t0 t1 t7 t9 (k:Int) (m:Int) H kN kE = if pm.key = p.key then kN t0 t1 t7 t9 (m:Int) ((m + 1:Nat):Int) H else kN t0 t1 t7 t9 (k:Int) ((m + 1:Nat):Int) H:=by
          intro A kN kE
          simp only [g3_p3]
          rw [show decide ((m:Int) < (k:Int)) = true by simp; omega,sel_true]
          simp only [if_pos c1,if_pos c2,q0,Option.bind_some,Int.toNat_natCast,q1,q1',q2,q2',tmodp hpo.a.1,tmodp hpo.b.1,tmodp hpmo.a.1,tmodp hpmo.b.1,selE,wm]
          by_cases e1:pm.a % 4 = p.a % 4
          · rw [if_pos e1]
            by_cases e2:pm.b % 8 = p.b % 8
            · rw [if_pos e2,if_pos (by unfold PP.key; rw [e1,e2])]
            · rw [if_neg e2,if_neg (fun e=>e2 (congrArg Prod.snd e))]
          · rw [if_neg e1,if_neg (fun e=>e1 (congrArg Prod.fst e))]
        by_cases hkey:pm.key = p.key
        · refine ⟨(t0,t1,t7,t9,(m:Int),((m + 1:Nat):Int)),H,?_,⟨m,m + 1,pm,rfl,rfl,by omega,hpm,hkey.trans hpk,by omega,fun j' p' h1 _ h3=>hno j' p' (by omega) h1 h3⟩,by dsimp only; omega⟩
          simp only [g3_p4_b,hpre,if_pos hkey]
        · refine ⟨(t0,t1,t7,t9,(k:Int),((m + 1:Nat):Int)),H,?_,⟨k,m + 1,p,rfl,rfl,hkk,hp,hpk,by omega,fun j' p' h1 h2 h3=>?_⟩,by dsimp only; omega⟩
          · simp only [g3_p4_b,hpre,if_neg hkey]
          · by_cases e:j' = m
            · subst e; rw [hpm] at h3; cases h3; exact fun e=>hkey (e.trans hpk.symm)
            · exact hno j' p' h1 (by omega) h3
      · right
        refine ⟨(t0,t1,t7,t9,(k:Int)),H,?_,k,p,rfl,rfl,hp,hpk,fun j' p' h1 h3=>hno j' p' h1 (by omega) h3⟩
        simp only [g3_p4_b,g3_p3]
        rw [show decide ((m:Int) < (k:Int)) = false by simp; omega,sel_false]) (t0,t1,t7,t9,(k0:Int),0) G ⟨k0,0,p0,rfl,rfl,Nat.le_refl _,hk,rfl,by omega,fun _ _ _ h=>by omega⟩
  refine ⟨j,p,hfirst,fun R K=>?_⟩
  simp only [g3_p5,g3_p4,e,Option.bind_some]
end
section
variable {H0 G:Heap} {x:Nat} {F:Nat→Prop} {S:St} {t0 t1:Sl} {l:List PP} {acts:List Ac}
/-- what SegmentsSafe looks at behind Hear -/
noncomputable def safeC (R:Type) (x154:Sl) (x155:Bool) (x156:Int) (x145:ByteArray) (h157:Heap) (kN:Bool→Heap→Option R):Option R :=
  sel (x156 != (0 : Int)) (
              sel (x156 != (6:Int)) (
                kN true h157) (
                sel (x156 == (0:Int)) (
                  sel (((x154.len:Nat):Int) == ((x145.size:Nat):Int)) (
                    ((slBytes h157 x154)).bind fun x158 =>
                    sel (strEq x158 x145) (
                      sel (decide (((x145.size:Nat):Int) > (0:Int))) (
                        sel (!(x155 == true)) (
                          kN true h157) (
                          sel (!x155) (
                            kN (decide (((x154.len:Nat):Int) > (0:Int))) h157) (
                            kN false h157))) (
                        sel (!(x155 == x155)) (
                          kN true h157) (
                          sel (!x155) (
                            kN (decide (((x154.len:Nat):Int) > (0:Int))) h157) (
                            kN false h157)))) (
                      sel (!(x155 == false)) (
                        kN true h157) (
                        sel (!x155) (
                          kN (decide (((x154.len:Nat):Int) > (0:Int))) h157) (
                          kN false h157)))) (
                    sel (!(x155 == false)) (
                      kN true h157) (
                      sel (!x155) (
                        kN (decide (((x154.len:Nat):Int) > (0:Int))) h157) (
                        kN false h157)))) (
                  sel (!(x155 == false)) (
                    kN true h157) (
                    sel (!x155) (
                      kN (decide (((x154.len:Nat):Int) > (0:Int))) h157) (
                      kN false h157))))) (
              sel (x156 == (0:Int)) (
                sel (((x154.len:Nat):Int) == ((x145.size:Nat):Int)) (
                  ((slBytes h157 x154)).bind fun x159 =>
                  sel (strEq x159 x145) (
                    sel (decide (((x145.size:Nat):Int) > (0:Int))) (
                      sel (!(x155 == true)) (
                        kN true h157) (
                        sel (!x155) (
                          kN (decide (((x154.len:Nat):Int) > (0:Int))) h157) (
                          kN false h157))) (
                      sel (!(x155 == x155)) (
                        kN true h157) (
                        sel (!x155) (
                          kN (decide (((x154.len:Nat):Int) > (0:Int))) h157) (
                          kN false h157)))) (
                    sel (!(x155 == false)) (
                      kN true h157) (
                      sel (!x155) (
                        kN (decide (((x154.len:Nat):Int) > (0:Int))) h157) (
                        kN false h157)))) (
                  sel (!(x155 == false)) (
                    kN true h157) (
                    sel (!x155) (
                      kN (decide (((x154.len:Nat):Int) > (0:Int))) h157) (
                      kN false h157)))) (
                sel (!(x155 == false)) (
                  kN true h157) (
                  sel (!x155) (
                    kN (decide (((x154.len:Nat):Int) > (0:Int))) h157) (
                    kN false h157))))
theorem safeC_no {R:Type} {r:Sl} {d:List Int} {G:Heap} (h:BS G r []) (e:Int) (he:e = 6 ∨ e = 0) (kN:Bool→Heap→Option R):safeC R r false e (bsU (u8s d)) G kN = kN false G:=by
  have hl:r.len = 0:=h.len
  unfold safeC
  rcases he with rfl | rfl
  · simp [hl]
  · simp only [hl,bsU_size,slB h,Option.bind_some,strEqU]
    cases d with
    | nil=>simp [u8s]
    | cons a d=>simp; rw [selE,if_neg (by omega)]
theorem safeC_yes {R:Type} {r:Sl} {d:List Int} {G:Heap} (h:BS G r d) (kN:Bool→Heap→Option R):safeC R r true 0 (bsU (u8s d)) G kN = kN false G:=by
  have hl:r.len = d.length:=h.len
  unfold safeC
  simp only [hl,bsU_size,slB h,Option.bind_some,strEqU]
  simp
  cases decide (0 < d.length) <;> rfl
/-- an act -/
theorem safe_step (hw0 : H0.Wf) (h : LInv H0 G x F S) (hs : SInv l S) (hl : RdP H0 t0 l) (ha : RdA H0 t1 acts) (hl8 : l.length ≤ 8) (hl0 : 0 < l.length) (ha80 : acts.length ≤ 80) {i : Nat} (hi : i < acts.length) (hls : S.ls.length ≤ 1000) :
    ∃ H' F' S',LInv H0 H' x F' S'∧SInv l S'∧S'.ls.length ≤ S.ls.length + 1∧∀ (R:Type) (kN:Sl→Sl→Option (Nat × Nat)→Int→Heap→Option R) (kE) (kR),g3_p14 R t0 t1 (some (x,0)) (i:Int) G kN kE kR = kN t0 t1 (some (x,0)) ((i + 1:Nat):Int) H':=by
  have hpos:0 < S.w:=by have:=hs.w; omega
  have hia:acts[i]? = some acts[i]:=List.getElem?_eq_getElem hi
  generalize acts[i] = a at hia
  obtain ⟨qa,a0,a1,a2,a3⟩:=(ha.ext hw0 h.ext).rd i a hia
  have hao:=ha.ok a (List.mem_of_getElem? hia)
  have hal:=ha.len
  have hll:=hl.len
  have c1:0 ≤ (i:Int)∧(i:Int) < ((t1.len:Nat):Int):=by omega
  have wi:IntKind.wrap .i64 ((i:Int) + 1) = ((i + 1:Nat):Int):=by rw [w64 (by omega)]; rfl
  cases htk:a.t with
  | true =>
    obtain ⟨r,H',e,j,f,_⟩:=h.ja.tick hpos
    refine ⟨H',_,_,h.step j f,hs.tick,by simp [St.tick],fun R kN kE kR=>?_⟩
    simp only [g3_p14,g3_p1,g3_p13,g3_p11,g3_p10,g3_p2,g3_p12]
    rw [show decide ((i:Int) < ((t1.len:Nat):Int)) = true by simp; omega,sel_true,if_pos c1,a0,Option.bind_some,Int.toNat_natCast,a1,Option.bind_some,htk,sel_true,e,wi]
  | false =>
    have hmod:0 ≤ a.pc % (l.length:Int)∧a.pc % (l.length:Int) < l.length:=⟨Int.emod_nonneg _ (by omega),Int.emod_lt_of_pos _ (by omega)⟩
    obtain ⟨k0,hk0⟩:=Int.eq_ofNat_of_zero_le hmod.1
    have hk0l:k0 < l.length:=by omega
    have hp0:l[k0]? = some l[k0]:=List.getElem?_eq_getElem hk0l
    generalize l[k0] = p0 at hp0
    obtain ⟨j,p,hfirst,efirst⟩:=first_ok (t1:=t1) (hl.ext hw0 h.ext) hp0 (by omega) (some (x,0)) (i:Int)
    have hjl:j < l.length:=(List.getElem?_eq_some_iff.1 hfirst.1).1
    have hpmem:=List.mem_of_getElem? hfirst.1
    obtain ⟨qp,p1,p2,p3,p4,p5⟩:=(hl.ext hw0 h.ext).rd j p hfirst.1
    have hpo:=(hl.ext hw0 h.ext).ok p hpmem
    obtain ⟨q,H1,ecut,rows,xcut,wcut,_⟩:=cut_ok h.ja.wf hpo.bs hpo.cap hpo.a hpo.b hpo.m
    have hn:=p.n_b
    have hN:cnt (p.d.take 60).length (4 + p.m % 16).toNat = p.n:=rfl
    rw [hN] at ecut rows
    have hmod2:0 ≤ a.pt % (p.n:Int)∧a.pt % (p.n:Int) < p.n:=⟨Int.emod_nonneg _ (by omega),Int.emod_lt_of_pos _ (by omega)⟩
    obtain ⟨ix,hix⟩:=Int.eq_ofNat_of_zero_le hmod2.1
    have hixn:ix < p.n:=by omega
    obtain ⟨sg,row,hup⟩:=rows ix hixn
    obtain ⟨r0,r1,r2,r3⟩:=row.ld
    have hb1:=h.beside xcut wcut
    have hfew:=hs.few h.ja.nodup
    have hkey:p.key = p0.key:=hfirst.2.1
    have hk1:¬16383 < p.key.1:=by have:=hpo.a; show ¬16383 < p.a % 4; omega
    obtain ⟨hs',hout⟩:=hs.hear hfirst hixn (by omega) (by rw [← hkey]; exact hk1)
    rw [← hkey] at hs' hout
    have hsb:BS H1 sg (p.seg ix).d:=row.bs
    obtain ⟨r,H2,ehear,j2,b2,c2,f2,_⟩:=hb1.ja.hear hpos (k:=p.key) (u:=p.seg ix) rfl (by show (0:Int) ≤ (p.n:Int) - 1 - ix; omega) hsb (by
      by_cases hd0:(p.seg ix).d = []
      · exact .inl hd0
      rcases hup with hup | hup
      · exact .inl hup
      · right; intro q' hq'
        have h1:=hup q' hq'
        refine ⟨fun hF=>by have:=h.hi _ hF; omega,?_⟩
        obtain ⟨q2,vs,e,ro,z1,z2,_⟩:=hsb.there hd0
        rw [hq'] at z1; cases z1
        exact wcut _ _ z2) (fun b hb=>by
      obtain ⟨_,_,_,p',c,_,_,_,_,hd⟩:=hs.ps b hb
      rw [hd]; have:=p'.data_len; simp only [List.length_take]; omega) (by omega)
    have b2l:r.len = (S.hear p.key (p.seg ix)).2.got.length:=b2.len
    refine ⟨H2,_,_,hb1.step j2 f2,hs',by rcases hear_ls (S:=S) (k:=p.key) (u:=p.seg ix) with e | e <;> rw [e] <;> simp,fun R kN kE kR=>?_⟩
    have c0:((t0.len:Nat):Int) ≠ 0:=by omega
    have c3:0 ≤ (j:Int)∧(j:Int) < ((t0.len:Nat):Int):=by omega
    have c4:((p.n:Nat):Int) ≠ 0:=by omega
    have c5:0 ≤ (ix:Int)∧(ix:Int) < ((p.n:Nat):Int):=by omega
    obtain ⟨_,a1',a2',a3'⟩:∃ _:Unit,H1.ldB qa.1 (qa.2 + i * 3 + 0) = some a.t∧H1.ldI .u8 qa.1 (qa.2 + i * 3 + 1) = some a.pc∧H1.ldI .u8 qa.1 (qa.2 + i * 3 + 2) = some a.pt:=⟨(),ldB_ext h.ja.wf xcut a1,ldI_ext h.ja.wf xcut a2,ldI_ext h.ja.wf xcut a3⟩
    have wpc:IntKind.wrap .i64 a.pc = a.pc:=w64 (by omega)
    have wpt:IntKind.wrap .i64 a.pt = a.pt:=w64 (by omega)
    have hC:∀ (kN:Bool→Heap→Option R),safeC R r (S.hear p.key (p.seg ix)).2.done (S.hear p.key (p.seg ix)).2.err (bsU (u8s p.data)) H2 kN = kN false H2:=fun kN=>by
      rcases hout with e | e | e <;> rw [e] at b2 ⊢
      · exact safeC_no b2 6 (.inl rfl) kN
      · exact safeC_no b2 0 (.inr rfl) kN
      · exact safeC_yes b2 kN
    have e6:∀ (kN:Sl→Sl→Option (Nat × Nat)→Int→Bool→Heap→Option R) (kR:Bool→Heap→Option R),g3_p6 R t0 t1 (some (x,0)) (i:Int) (j:Int) G kN kR = kN t0 t1 (some (x,0)) (i:Int) false H2:=fun kN kR=>by
      have dd:g3_p6 R t0 t1 (some (x,0)) (i:Int) (j:Int) G kN kR = if 0 ≤ (j:Int)∧(j:Int) < ((t0.len:Nat):Int) then (
    (t0.a).bind fun q138 =>
    ((G).ldI .u8 q138.1 ((q138.2 + Int.toNat (j:Int) * 4) + 0)).bind fun x139 =>
    ((G).ldI .u8 q138.1 ((q138.2 + Int.toNat (j:Int) * 4) + 1)).bind fun x140 =>
    ((G).ldSl q138.1 ((q138.2 + Int.toNat (j:Int) * 4) + 2)).bind fun x141 =>
    ((G).ldI .u8 q138.1 ((q138.2 + Int.toNat (j:Int) * 4) + 3)).bind fun x142 =>
    g12 R x139 x140 x141 x142 G fun x143 x144 x145 h146 =>
    sel (((x144.len:Nat):Int) == (0:Int)) (
      kR false h146) (
      if 0 ≤ (i:Int)∧(i:Int) < ((t1.len:Nat):Int) then (
        (t1.a).bind fun q147 =>
        ((h146).ldI .u8 q147.1 ((q147.2 + Int.toNat (i:Int) * 3) + 2)).bind fun x148 =>
        if ((x144.len:Nat):Int) = 0 then (
          none)
        else (
          if 0 ≤ (Int.tmod (IntKind.wrap .i64 x148) ((x144.len:Nat):Int))∧(Int.tmod (IntKind.wrap .i64 x148) ((x144.len:Nat):Int)) < ((x144.len:Nat):Int) then (
            (x144.a).bind fun q149 =>
            ((h146).ldI .u32 q149.1 ((q149.2 + Int.toNat (Int.tmod (IntKind.wrap .i64 x148) ((x144.len:Nat):Int)) * 4) + 0)).bind fun x150 =>
            ((h146).ldB q149.1 ((q149.2 + Int.toNat (Int.tmod (IntKind.wrap .i64 x148) ((x144.len:Nat):Int)) * 4) + 1)).bind fun x151 =>
            ((h146).ldI .u8 q149.1 ((q149.2 + Int.toNat (Int.tmod (IntKind.wrap .i64 x148) ((x144.len:Nat):Int)) * 4) + 2)).bind fun x152 =>
            ((h146).ldSl q149.1 ((q149.2 + Int.toNat (Int.tmod (IntKind.wrap .i64 x148) ((x144.len:Nat):Int)) * 4) + 3)).bind fun x153 =>
            g13 R (some (x,0)) x143 x150 x151 x152 x153 h146 fun x154 x155 x156 h157=>safeC R x154 x155 x156 x145 h157 fun b h=>kN t0 t1 (some (x,0)) (i:Int) b h)
          else (
            none)))
      else (
        none)))
  else (
    none):=rfl
      rw [dd,if_pos c3,p1,Option.bind_some,Int.toNat_natCast,p2,Option.bind_some,p3,Option.bind_some,p4,Option.bind_some,p5,Option.bind_some,ecut]
      simp only [selE,if_neg c4,if_pos c1,a0,Option.bind_some,Int.toNat_natCast,a3',wpt,tmodp hao.2.1,hix,if_pos c5]
      rw [r0,Option.bind_some,r1,Option.bind_some,r2,Option.bind_some,r3,Option.bind_some]
      refine (ehear R _).trans ?_
      exact hC _
    have e8:∀ (kN:Sl→Sl→Option (Nat × Nat)→Int→Heap→Option R) (kR:Bool→Heap→Option R),g3_p8 R t0 t1 (some (x,0)) (i:Int) (j:Int) G kN kR = kN t0 t1 (some (x,0)) (i:Int) H2:=fun kN kR=>by
      simp only [g3_p8]
      rw [e6]
      simp only [g3_p7,sel_false]
    simp only [g3_p14,g3_p1,g3_p13,g3_p11,g3_p10,g3_p2,g3_p12]
    rw [show decide ((i:Int) < ((t1.len:Nat):Int)) = true by simp; omega,sel_true,if_pos c1,a0,Option.bind_some,Int.toNat_natCast,a1,Option.bind_some,htk,sel_false,if_pos c1,Option.bind_some,a2,Option.bind_some,if_neg c0,wpc,tmodp hao.1.1,hll,hk0]
    simp only [g3_p9]
    rw [efirst,e8,wi]
/-- the six ticks -/
theorem safe_ticks (h:LInv H0 G x F S) (hw:1 ≤ S.w∧S.w ≤ 1048576) (ha:∀ a ∈ S.ps,1 ≤ a.wt∧a.wt ≤ 6):∃ H' F' S',LInv H0 H' x F' S'∧S'.w = S.w∧S'.ps = []∧S'.ls = []∧∀ (R:Type) (K:Option (Nat × Nat)→Heap→Option R),g3_p20 R (some (x,0)) 0 G K = K (some (x,0)) H':=by
  obtain ⟨rr,G',e,rfl,F',S',h1,h2,h3,h4⟩:=tlim_inv (b:=g3_p19_b)
    (fun st H=>∃ (i:Nat) (F:Nat→Prop) (S1:St),st = (some (x,0),(i:Int))∧i ≤ 6∧LInv H0 H x F S1∧S1.w = S.w∧(∀ a ∈ S1.ps,1 ≤ a.wt∧a.wt ≤ 6 - (i:Int))∧(i = 0 ∨ S1.ls = []))
    (fun st=>6 - st.2.toNat)
    (fun r H=>r = some (x,0)∧∃ F S1,LInv H0 H x F S1∧S1.w = S.w∧S1.ps = []∧S1.ls = []) (by
      rintro st H ⟨i,F1,S1,rfl,hi,h1,h2,h3,h4⟩
      by_cases hlt:i < 6
      · left
        obtain ⟨r,H',e,j,f,_⟩:=h1.ja.tick (by omega)
        have wi:IntKind.wrap .i64 ((i:Int) + 1) = ((i + 1:Nat):Int):=by rw [w64 (by omega)]; rfl
        refine ⟨(some (x,0),((i + 1:Nat):Int)),H',?_,⟨i + 1,_,_,rfl,by omega,h1.step j f,h2,fun a ha=>?_,.inr rfl⟩,by dsimp only; omega⟩
        · simp only [g3_p19_b,g3_p18]
          rw [show decide ((i:Int) < 6) = true by simp; omega,sel_true,e,wi]
        · obtain ⟨b,hb,_,h5,h6⟩:=tick_wt (W:=6 - (i:Int)) h3 (by omega) ha
          exact ⟨h5,by omega⟩
      · right
        have:i = 6:=by omega
        subst this
        refine ⟨some (x,0),H,?_,rfl,F1,S1,h1,h2,?_,h4.resolve_left (by omega)⟩
        · simp only [g3_p19_b,g3_p18]
          rw [show decide (((6:Nat):Int) < 6) = false by simp,sel_false]
        · cases hps:S1.ps with
          | nil=>rfl
          | cons a l=>have:=h3 a (by rw [hps]; simp); omega) (some (x,0),0) G ⟨0,F,S,rfl,by omega,h,rfl,fun a ha'=>by have:=ha a ha'; omega,.inl rfl⟩
  refine ⟨G',F',S',h1,h2,h3,h4,fun R K=>?_⟩
  simp only [g3_p20,g3_p19,e,Option.bind_some]
theorem safe_true (hw0:H0.Wf) (hl:RdP H0 t0 l) (ha:RdA H0 t1 acts) {w:Int} (hwt:0 ≤ w∧w ≤ 255):∃ H',Ext H0 H'∧H'.Wf∧∀ (R:Type) (K:Bool→Heap→Option R),g3 R t0 t1 w H0 K = K true H':=by
  have hll:=hl.len
  have hal:=ha.len
  have dd:∀ (R:Type) (K:Bool→Heap→Option R),g3 R t0 t1 w H0 K = g3_p0 R t0 t1 w H0 (fun t0 t1 t7 t9 H=>g3_p24 R t0 t1 t7 t9 H K) K:=fun R K=>rfl
  by_cases c1:l.length > 8
  · refine ⟨H0,.refl _ _,hw0,fun R K=>?_⟩
    rw [dd]; unfold g3_p0
    rw [show decide (((t0.len:Nat):Int) > 8) = true by simp; omega,sel_true]; rfl
  by_cases c2:acts.length > 80
  · refine ⟨H0,.refl _ _,hw0,fun R K=>?_⟩
    rw [dd]; unfold g3_p0
    rw [show decide (((t0.len:Nat):Int) > 8) = false by simp; omega,sel_false,show decide (((t1.len:Nat):Int) > 80) = true by simp; omega,sel_true]; rfl
  by_cases c3:l.length = 0
  · refine ⟨H0,.refl _ _,hw0,fun R K=>?_⟩
    rw [dd]; unfold g3_p0
    rw [show decide (((t0.len:Nat):Int) > 8) = false by simp; omega,sel_false,show decide (((t1.len:Nat):Int) > 80) = false by simp; omega,sel_false,selE,if_pos (by omega)]; rfl
  have ew:IntKind.wrap .i64 ((1:Int) + (IntKind.wrap .i64 (Int.tmod w (6:Int)))) = 1 + w % 6:=by rw [tmodp hwt.1,w64 (n:=w % 6) (by omega),w64 (by omega)]
  obtain ⟨H1,e1,j1,x1,w1⟩:=new_ok hw0 (w:=1 + w % 6) (by omega)
  have l1:LInv H0 H1 (H0.next + 1) (fun i=>H0.next ≤ i∧i < H1.next) ⟨1 + w % 6,[],[]⟩:=⟨j1,x1,fun i hi=>hi.1,fun i hi=>hi.2⟩
  generalize H0.next + 1 = x at *
  have s1:SInv l ⟨1 + w % 6,[],[]⟩:=⟨fun a ha=>by (cases ha),by simp only; omega⟩
  obtain ⟨rr,G2,e2,F2,S2,rfl,l2,s2⟩:=tlim_inv (b:=g3_p15_b)
    (fun st H=>∃ (i:Nat) (F:Nat→Prop) (S1:St),st = (t0,t1,some (x,0),(i:Int))∧i ≤ acts.length∧LInv H0 H x F S1∧SInv l S1∧S1.ls.length ≤ i)
    (fun st=>acts.length - st.2.2.2.toNat)
    (fun r H=>∃ F S1,r = .inl (some (x,0))∧LInv H0 H x F S1∧SInv l S1) (by
      rintro st H ⟨i,F1,S1,rfl,hi,h1,h2,h3⟩
      by_cases hlt:i < acts.length
      · left
        obtain ⟨H',F',S',h4,h5,h6,h7⟩:=safe_step hw0 h1 h2 hl ha (by omega) (by omega) (by omega) hlt (by omega)
        refine ⟨(t0,t1,some (x,0),((i + 1:Nat):Int)),H',?_,⟨i + 1,F',S',rfl,by omega,h4,h5,by omega⟩,by dsimp only; omega⟩
        simp only [g3_p15_b,h7]
      · right
        refine ⟨.inl (some (x,0)),H,?_,F1,S1,rfl,h1,h2⟩
        simp only [g3_p15_b,g3_p14,g3_p1]
        rw [show decide ((i:Int) < ((t1.len:Nat):Int)) = false by simp; omega,sel_false]) (t0,t1,some (x,0),0) H1 ⟨0,_,_,rfl,by omega,l1,s1,by simp⟩
  obtain ⟨G3,F3,S3,l3,w3,p3,z3,e3⟩:=safe_ticks l2 (by have:=s2.w; omega) (fun a ha=>by obtain ⟨h1,h2,_⟩:=s2.ps a ha; have h3:=s2.w; exact ⟨h1,by omega⟩)
  obtain ⟨r,G4,e4,j4,f4,n4,_⟩:=l3.ja.tick (by have:=s2.w; omega)
  have hdue:S3.due = []:=by unfold St.due; rw [p3,z3]; rfl
  rw [hdue] at n4
  refine ⟨G4,(l3.step j4 f4).ext,j4.wf,fun R K=>?_⟩
  rw [dd]; unfold g3_p0
  rw [show decide (((t0.len:Nat):Int) > 8) = false by simp; omega,sel_false,show decide (((t1.len:Nat):Int) > 80) = false by simp; omega,sel_false,selE,if_neg (by omega),ew,e1]
  simp only [bne_self_eq_false,sel_false,g3_p24,g3_p16,g3_p15]
  rw [e2]
  simp only [Option.bind_some,cas,g3_p23,g3_p17,g3_p22]
  rw [e3]
  simp only [g3_p21]
  rw [l3.ja.open (by have:=s2.w; omega),p3]
  simp only [List.length_nil]
  rw [show (((0:Nat):Int) == 0) = true from rfl,sel_true,e4,n4,show ((([]:List Ky).length:Int) == 0) = true from rfl,sel_true]
  rfl
end
end Go.Proofs.Ytobebcfkddimkaa

