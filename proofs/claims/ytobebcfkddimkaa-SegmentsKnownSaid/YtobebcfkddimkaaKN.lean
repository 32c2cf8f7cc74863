/- SegmentsKnown: the law. -/
import Derived.Test.YtobebcfkddimkaaKN2
namespace Go.Proofs.Ytobebcfkddimkaa
open Go AM Go.RowKit Go.Sort
set_option linter.unusedVariables false
set_option linter.unusedSimpArgs false

theorem zeros5 (n:Nat):zeroCellsV Try.prog 5 n = some (bcs (List.replicate n 0)):=by
  have h1:Try.prog.cellsOf 5 = 1:=by kernel_rfl
  have h2:zeroV Try.prog 5 = some (.i .u8 0):=by kernel_rfl
  unfold zeroCellsV
  rw [h1,h2,Nat.mul_one]
  split
  · rename_i h; subst h; rfl
  · simp only [Option.bind_some]
    rw [if_pos (by simp [V.cells])]
    refine congrArg some ?_
    simp [V.cells,bcs]
theorem wr8r (n:Int):0 ≤ IntKind.wrap .u8 n∧IntKind.wrap .u8 n ≤ 255:=by rw [wr8]; omega
section
variable {G:Heap} {l:List PP} {cs:List Ac} {rs:List Rw} {bs:List Int} {t15 t16 t17 t18:Sl}
theorem BInv.low (h:BInv G l cs rs bs t15 t16 t17 t18):∀ q,G.next ≤ q→q ∉ sid t15∧q ∉ sid t16∧q ∉ sid t17∧q ∉ sid t18:=fun q hq =>
  ⟨fun e=>by have:=h.wf _ _ (h.o15.sidg e).2; omega,fun e=>by have:=h.wf _ _ (h.o16.sidg e).2; omega,fun e=>by have:=h.wf _ _ (h.o17.sidg e).2; omega,fun e=>by have:=h.wf _ _ (h.o18.sidg e).2; omega⟩
theorem k_rest (h : BInv G l cs rs bs t15 t16 t17 t18) (k i : Int) (hc : cs.length ≤ 100) (hr : rs.length ≤ 100) (hb : bs.length ≤ 100) :
    ∃ s16 s17 s18 G' cs' rs' bs',cs'.length = cs.length + 1∧rs'.length = rs.length + 1∧bs'.length = bs.length + 1∧BInv G' l cs' rs' bs' t15 s16 s17 s18∧∀ (R:Type) (K:Sl→Sl→Sl→Heap→Option R),
      (alo G (.cells [(V.b ((Int.tmod k (7:Int)) == (0:Int))),(V.i .u8 (IntKind.wrap .u8 k)),(V.i .u8 (IntKind.wrap .u8 i))] 30 false) fun i80 h81 =>
        ((slCells h81 3 (Sl.mk (some (i80,0)) 1 (.ex 1)))).bind fun vs84 =>
        appendV h81 30 3 3 t16 (Sl.mk (some (i80,0)) 1 (.ex 1)).len vs84 fun s82 h83 =>
        alo h83 (.cells [(V.i .u8 (IntKind.wrap .u8 k))] 5 false) fun i85 h86 =>
        alo h86 (.cells [(V.b ((Int.tmod k (5:Int)) == (0:Int))),(V.i .u16 (IntKind.wrap .u16 (Int.tmod k (3:Int)))),(V.i .u32 (IntKind.wrap .u32 (Int.tmod k (2:Int)))),(V.b (decide ((Int.tmod k (11:Int)) < (4:Int)))),(V.i .u8 (IntKind.wrap .u8 (Int.tmod k (3:Int)))),(V.sl (Sl.mk (some (i85,0)) 1 (.ex 1)))] 53 false) fun i87 h88 =>
        ((slCells h88 6 (Sl.mk (some (i87,0)) 1 (.ex 1)))).bind fun vs91 =>
        appendV h88 53 6 40 t17 (Sl.mk (some (i87,0)) 1 (.ex 1)).len vs91 fun s89 h90 =>
        alo h90 (.cells [(V.i .u8 (IntKind.wrap .u8 (IntKind.wrap .i64 (Int.tdiv k (3:Int)))))] 5 false) fun i92 h93 =>
        ((slCells h93 1 (Sl.mk (some (i92,0)) 1 (.ex 1)))).bind fun vs96 =>
        appendV h93 5 1 1 t18 (Sl.mk (some (i92,0)) 1 (.ex 1)).len vs96 fun s94 h95=>K s82 s89 s94 h95) = K s16 s17 s18 G':=by
  obtain ⟨r1,G1,e1,b1⟩:=h.p16 ⟨(Int.tmod k 7) == 0,IntKind.wrap .u8 k,IntKind.wrap .u8 i⟩ ⟨wr8r _,wr8r _⟩ (by omega)
  have b2:=b1.new (.cells [(V.i .u8 (IntKind.wrap .u8 k))] 5 false)
  have hbs:BS (G1.new (.cells [(V.i .u8 (IntKind.wrap .u8 k))] 5 false)) ⟨some (G1.next,0),1,.ex 1⟩ [IntKind.wrap .u8 k]:=BS.obj (l:=[IntKind.wrap .u8 k]) (Heap.gnew G1 _)
  obtain ⟨r3,G3,e3,b3⟩:=b2.p17 ⟨(Int.tmod k 5) == 0,IntKind.wrap .u16 (Int.tmod k 3),⟨IntKind.wrap .u32 (Int.tmod k 2),decide ((Int.tmod k 11) < 4),IntKind.wrap .u8 (Int.tmod k 3),[IntKind.wrap .u8 k]⟩,⟨some (G1.next,0),1,.ex 1⟩⟩ ⟨hbs,wr8r _⟩ (fun q hq=>by
    cases hq
    exact ⟨Nat.lt_succ_self _,b1.low _ (Nat.le_refl _)⟩) (by omega)
  obtain ⟨r4,G4,e4,b4⟩:=b3.p18 (IntKind.wrap .u8 (IntKind.wrap .i64 (Int.tdiv k 3))) (wr8r _) (by omega)
  refine ⟨r1,r3,r4,G4,_,_,_,by simp,by simp,by simp,b4,fun R K=>?_⟩
  refine (e1 R _).trans ?_
  refine Eq.trans ?_ (e4 R fun s h=>K r1 r3 s h)
  exact e3 R _
/-- a round -/
theorem k_round (h : BInv G l cs rs bs t15 t16 t17 t18) {k n : Int} (hk : 0 ≤ k ∧ k < 100003) {i : Nat} (hi : i < 24) (hl : l.length ≤ i) (hc : cs.length = i) (hr : rs.length = i) (hb : bs.length = i) :
    ∃ k' s15 s16 s17 s18 G' l' cs' rs' bs',(0 ≤ k'∧k' < 100003)∧l'.length ≤ i + 1∧cs'.length = i + 1∧rs'.length = i + 1∧bs'.length = i + 1∧BInv G' l' cs' rs' bs' s15 s16 s17 s18∧∀ (R:Type) (kN) (kE),g6_p4 R k n t15 t16 t17 t18 (i:Int) G kN kE = kN k' n s15 s16 s17 s18 ((i + 1:Nat):Int) G':=by
  have wi:IntKind.wrap .i64 ((i:Int) + 1) = ((i + 1:Nat):Int):=by rw [w64 (by omega)]; rfl
  have wk:Int.tmod (IntKind.wrap .i64 ((IntKind.wrap .i64 ((IntKind.wrap .i64 (k * (31:Int))) + (IntKind.wrap .i64 ((7:Int) * (i:Int))))) + (11:Int))) (100003:Int) = (k * 31 + 7 * i + 11) % 100003:=by
    rw [w64 (n:=k * 31) (by omega),w64 (n:=7 * (i:Int)) (by omega),w64 (n:=k * 31 + 7 * (i:Int)) (by omega),w64 (by omega),tmodp (by omega)]
  have hk':0 ≤ (k * 31 + 7 * (i:Int) + 11) % 100003∧(k * 31 + 7 * (i:Int) + 11) % 100003 < 100003:=by omega
  by_cases hlt:(i:Int) < Int.tmod n 9
  · have h50:Int.tmod k 50 = k % 50:=tmodp hk.1
    have hz:=zeros5 (k % 50).toNat
    have b1:=h.new (.cells (bcs (List.replicate (k % 50).toNat 0)) 5 false)
    have hbs:BS (G.new (.cells (bcs (List.replicate (k % 50).toNat 0)) 5 false)) ⟨some (G.next,0),(k % 50).toNat,.ex (k % 50).toNat⟩ (List.replicate (k % 50).toNat 0):=by
      have:=BS.obj (c:=.ex (k % 50).toNat) (Heap.gnew G (.cells (bcs (List.replicate (k % 50).toNat 0)) 5 false))
      rw [List.length_replicate] at this
      exact this
    obtain ⟨r2,G2,e2,b2⟩:=b1.p15 ⟨IntKind.wrap .u8 k,IntKind.wrap .u8 (IntKind.wrap .i64 (Int.tdiv k 4)),IntKind.wrap .u8 i,⟨some (G.next,0),(k % 50).toNat,.ex (k % 50).toNat⟩,List.replicate (k % 50).toNat 0⟩ ⟨hbs,Nat.le_refl _,wr8r _,wr8r _,wr8r _⟩ (fun q hq=>by
      cases hq
      exact ⟨Nat.lt_succ_self _,h.low _ (Nat.le_refl _)⟩) (by omega)
    obtain ⟨s16,s17,s18,G3,cs',rs',bs',c1,c2,c3,b3,e3⟩:=k_rest b2 k i (by omega) (by omega) (by omega)
    refine ⟨_,r2,s16,s17,s18,G3,_,cs',rs',bs',hk',by simp; omega,by omega,by omega,by omega,b3,fun R kN kE=>?_⟩
    unfold g6_p4
    rw [show decide ((i:Int) < 24) = true by simp; omega,sel_true,decide_eq_true hlt,sel_true,h50,if_pos (by omega),hz,Option.bind_some,wk,wi]
    refine (e2 R _).trans ?_
    exact e3 R fun a b c h=>kN ((k * 31 + 7 * (i:Int) + 11) % 100003) n r2 a b c ((i + 1:Nat):Int) h
  · obtain ⟨s16,s17,s18,G3,cs',rs',bs',c1,c2,c3,b3,e3⟩:=k_rest h k i (by omega) (by omega) (by omega)
    refine ⟨_,t15,s16,s17,s18,G3,l,cs',rs',bs',hk',by omega,by omega,by omega,by omega,b3,fun R kN kE=>?_⟩
    unfold g6_p4
    rw [show decide ((i:Int) < 24) = true by simp; omega,sel_true,decide_eq_false hlt,sel_false,wk,wi]
    exact e3 R fun a b c h=>kN ((k * 31 + 7 * (i:Int) + 11) % 100003) n t15 a b c ((i + 1:Nat):Int) h
theorem k_lists (hw:G.Wf) {k n:Int} (hk:0 ≤ k∧k < 100003):∃ k' s15 s16 s17 s18 G' l cs rs bs,(0 ≤ k'∧k' < 100003)∧BInv G' l cs rs bs s15 s16 s17 s18∧∀ (R:Type) (K),g6_p6 R k n nilS nilS nilS nilS 0 G K = K k' n s15 s16 s17 s18 G':=by
  obtain ⟨rr,G',e,k',s15,s16,s17,s18,l,cs,rs,bs,rfl,h1,h2⟩:=tlim_inv (b:=g6_p5_b)
    (fun st H=>∃ (i:Nat) (k':Int) (s15 s16 s17 s18:Sl) (l:List PP) (cs:List Ac) (rs:List Rw) (bs:List Int),st = (k',n,s15,s16,s17,s18,(i:Int))∧i ≤ 24∧(0 ≤ k'∧k' < 100003)∧l.length ≤ i∧cs.length = i∧rs.length = i∧bs.length = i∧BInv H l cs rs bs s15 s16 s17 s18)
    (fun st=>24 - st.2.2.2.2.2.2.toNat)
    (fun r H=>∃ (k':Int) (s15 s16 s17 s18:Sl) (l:List PP) (cs:List Ac) (rs:List Rw) (bs:List Int),r = (k',n,s15,s16,s17,s18)∧(0 ≤ k'∧k' < 100003)∧BInv H l cs rs bs s15 s16 s17 s18) (by
      rintro st H ⟨i,k',s15,s16,s17,s18,l,cs,rs,bs,rfl,hi,hk',c0,c1,c2,c3,hb⟩
      by_cases hlt:i < 24
      · left
        obtain ⟨k2,r15,r16,r17,r18,G2,l2,cs2,rs2,bs2,d0,d1,d2,d3,d4,d5,e⟩:=k_round (n:=n) hb hk' hlt c0 c1 c2 c3
        refine ⟨(k2,n,r15,r16,r17,r18,((i + 1:Nat):Int)),G2,?_,⟨i + 1,k2,r15,r16,r17,r18,l2,cs2,rs2,bs2,rfl,by omega,d0,d1,d2,d3,d4,d5⟩,by dsimp only; omega⟩
        simp only [g6_p5_b,e]
      · right
        refine ⟨(k',n,s15,s16,s17,s18),H,?_,k',s15,s16,s17,s18,l,cs,rs,bs,rfl,hk',hb⟩
        simp only [g6_p5_b,g6_p4]
        rw [show decide ((i:Int) < 24) = false by simp; omega,sel_false]) (k,n,nilS,nilS,nilS,nilS,0) G ⟨0,k,nilS,nilS,nilS,nilS,[],[],[],[],rfl,by omega,hk,Nat.le_refl _,rfl,rfl,rfl,⟨hw,.nil,.nil,.nil,.nil,fun p hp=>(by cases hp),fun p hp=>(by cases hp),fun p hp=>(by cases hp),fun p hp=>(by cases hp),fun p hp=>(by cases hp),fun p hp=>(by cases hp)⟩⟩
  refine ⟨k',s15,s16,s17,s18,G',l,cs,rs,bs,h1,h2,fun R K=>?_⟩
  simp only [g6_p6,g6_p5]
  rw [e]
  rfl
end
end Go.Proofs.Ytobebcfkddimkaa

