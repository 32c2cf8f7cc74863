/- Two desks in the heap: event, desks, flows. -/
import Derived.Test.YtnlfkllnmobppaaCE2
import Derived.Test.YtnlfkllnmobppaaLByt
namespace Go.Proofs.Ytnlfkllnmobppaa
open Go AM Go.RowKit
set_option linter.unusedVariables false
set_option linter.unusedSimpArgs false

theorem heard_id {D:Dk} (h:D.evs = []):D.heard = D:=by
  obtain ⟨⟩:=D
  simp only at h
  subst h; rfl
section
variable {n0:Nat} {H:Heap} {x y:Nat} {F G:Nat→Prop} {S T D:Dk}
theorem s21_none (h:DA n0 H x F D) (hw:0 < D.w) (he:D.evs = []):∃ H' F',(∀ (R:Type) (K:Bool→Heap→Option R),g21 R (some (x,0)) 0 0 0 0 0 nilS H K = K true H')∧DA n0 H' x F' D∧Stp n0 H H' F∧∀ i,F' i→F i:=by
  obtain ⟨r,H',es,e1,d1,s1,r1,o1,q1,n1⟩:=s20 h hw
  rw [heard_id he] at d1
  have hl:r.len = 0:=by
    rw [r1.len]
    have:=congrArg List.length o1
    rw [he] at this
    simpa using this
  refine ⟨H',_,fun R K=>?_,d1,s1,fun i hi=>hi.1⟩
  simp only [g21,g21_r,g21_p0,e1,hl]
  rfl
theorem s21_one (h:DA n0 H x F D) (hw:0 < D.w) {ref what fr cls cau:Int} {d:List Int} (he:D.evs = [⟨ref,what,fr,cls,cau,d⟩]) (hwh:what ≠ 0) {sl:Sl} (hs:Dat n0 H sl d):∃ H' F',(∀ (R:Type) (K:Bool→Heap→Option R),g21 R (some (x,0)) ref what fr cls cau sl H K = K true H')∧DA n0 H' x F' D.heard∧Stp n0 H H' F∧∀ i,F' i→F i:=by
  obtain ⟨r,H',es,e1,d1,s1,r1,o1,q1,n1⟩:=s20 h hw
  rw [he] at o1
  obtain ⟨z,rfl⟩:∃ z,es = [z]:=by
    cases es with
    | nil=>cases o1
    | cons z es =>
      cases es with
      | nil=>exact ⟨z,rfl⟩
      | cons _ _=>simp at o1
  simp only [List.map_cons,List.map_nil,List.cons.injEq,and_true] at o1
  obtain ⟨q,a,b0,b1,b2,b3,b4,b5⟩:=r1.ld (j:=0) (z:=z) rfl
  have hl:r.len = 1:=r1.len
  have hd:=r1.dat z (by simp)
  rw [o1] at b0 b1 b2 b3 b4 hd
  refine ⟨H',_,fun R K=>?_,d1,s1,fun i hi=>hi.1⟩
  simp only [g21,g21_r,g21_p0,e1,hl]
  rw [show (what == 0) = false by simpa using hwh,sel_false]
  rw [show ((((1:Nat):Int)) != 1) = false by decide,sel_false,r1.cap,hl]
  rw [show ∀ (K:Nat→Option R),capK (.ex 1) K = K 1 from fun _=>rfl]
  rw [show ((((1:Nat):Int)) != 1) = false by decide,sel_false,if_pos (by omega),a,Option.bind_some]
  simp only [show Int.toNat (0:Int) = 0 from rfl,b0,b1,b2,b3,b4,b5,Option.bind_some,slB hd.bs,slB (hs.kp s1.kp).bs,beq_self_eq_true,sel_true,strEqU,decide_true]
  rw [if_pos (by omega),if_pos (by omega),if_pos (by omega),if_pos (by omega),if_pos (by omega)]
/-- the two desks of a law -/
theorem s17 (hw : H.Wf) (hn : n0 ≤ H.next) {w wt idl fz : Int} (h : 1 ≤ w ∧ 1 ≤ wt ∧ 1 ≤ idl ∧ 1 ≤ fz) (h2 : w ≤ 63 ∧ wt ≤ 1048576 ∧ idl ≤ 1048576 ∧ fz ≤ 1048576) :
    ∃ x y H' F G,(∀ (R:Type) (K:Option (Nat × Nat)→Option (Nat × Nat)→Bool→Heap→Option R),g17 R w wt idl fz H K = K (some (x,0)) (some (y,0)) true H')∧W2 n0 H' x y F G { w:=w,wt:=wt,idl:=idl,fz:=fz } { w:=w,wt:=wt,idl:=idl,fz:=fz }∧Ext H H'∧H'.Wf∧(∀ i,F i ∨ G i→H.next ≤ i):=by
  obtain ⟨H1,e1,d1,x1,w1⟩:=s31_ok hw hn h h2
  obtain ⟨H2,e2,d2,x2,w2⟩:=s31_ok w1 (Nat.le_trans hn x1.next) h h2
  have n1:=x1.next
  have n2:=x2.next
  refine ⟨_,_,H2,_,_,fun R K=>?_,⟨d1.ext w2 x2,d2,fun i hi hg=>by omega,fun i hi=>by omega,fun i hi=>hi.2⟩,x1.trans x2,w2,fun i hi=>by omega⟩
  simp only [g17,g17_r,g17_p0,e1,e2]
  rfl
/-- the cells of a section of a law's -/
def pcs (z:Gp × Nat):List V:=[.i .i64 z.1.by',.i .u32 ((z.2:Int) + 1),.i .u32 ((z.2:Int) + 1),.i .u8 z.1.cls,.i .i64 z.1.st]
structure PV (H:Heap) (q o:Nat) (vs:List V) (p:Gp) (i:Nat):Prop where
  get:H.get q = some (.cells vs 54 false)
  len:o + 5 ≤ vs.length
  v:∀ c,c < 5→vs[o + c]? = (pcs (p,i))[c]?
theorem PV.ld {q o:Nat} {vs:List V} {p:Gp} {i:Nat} (h:PV H q o vs p i) {k:Int} (hk:k = 0 ∨ k = 1):H.ldI .i64 q (o + 0) = some p.by'∧H.ldI .u32 q ((o + 1) + Int.toNat k * 1) = some ((i:Int) + 1)∧H.ldI .u32 q ((o + 1) + Int.toNat (1 - k) * 1) = some ((i:Int) + 1)∧H.ldI .i64 q (o + 4) = some p.st:=by
  refine ⟨ldI_of h.get (h.v 0 (by omega)),ldI_of h.get ?_,ldI_of h.get ?_,ldI_of h.get (h.v 4 (by omega))⟩
  · rcases hk with rfl | rfl
    · exact h.v 1 (by omega)
    · exact h.v 2 (by omega)
  · rcases hk with rfl | rfl
    · exact h.v 2 (by omega)
    · exact h.v 1 (by omega)
theorem PV.keep {q o:Nat} {vs:List V} {p:Gp} {i:Nat} (h:PV H q o vs p i) {H':Heap} (hg:H'.get q = H.get q):PV H' q o vs p i:=⟨hg.trans h.get,h.len,h.v⟩
theorem Mv.step1 {H':Heap} {F':Nat→Prop} (h:Stp n0 H H' F) (hF:∀ i,F' i→F i):Mv n0 H F G H' F' G:=.of h fun i hi=>.inl (hF i hi)
/-- the end of an act that was not done -/
theorem p22_no {k : Int} (hk : k = 0 ∨ k = 1) (h : W2 n0 H x y F G S T) {i4 : Nat} (hi : H.get i4 = some (.cells (dcells k x y) 40 false)) (hiF : ¬F i4 ∧ ¬G i4) (oS : S.out = []) (oT : T.out = []) (eS : S.evs = []) (eT : T.evs = []) (gS : S.Good) (gT : T.Good) {N : Nat} (lS : S.Le N) (lT : T.Le N) (hN : N ≤ 1000) {e : Int} (he : e ≠ 0) (t1 : Option (Nat × Nat)) (t13 a b c d f : Int) (sl : Sl) :
    ∃ H' F' G',(∀ (R:Type) (K:Bool→Heap→Option R),g22_p9 R t1 k i4 0 e t13 e a b c d f sl H K = K true H')∧W2 n0 H' x y F' G' S T∧Mv n0 H F G H' F' G':=by
  obtain ⟨k1,k2,k3,k4⟩:=k_w hk
  obtain ⟨dl1,dl2⟩:=dc_ld hk hi
  -- settle
  obtain ⟨H1,F1,G1,e1,w1,m1⟩:∃ H' F' G',(∀ (R:Type) (K:Bool→Heap→Option R),g19 R (if k = 0 then some (x,0) else some (y,0)) (if k = 0 then some (y,0) else some (x,0)) H K = K true H')∧W2 n0 H' x y F' G' S T∧Mv n0 H F G H' F' G':=by
    rcases hk with rfl | rfl
    · obtain ⟨H',F',G',e,w,m⟩:=s19_idle h oS oT gS gT lS lT hN
      exact ⟨H',F',G',e,w,m⟩
    · obtain ⟨H',G',F',e,w,m⟩:=s19_idle h.swap oT oS gT gS lT lS hN
      exact ⟨H',F',G',e,w.swap,m.swap⟩
  obtain ⟨hi1,hi1F⟩:=m1.obj h.a.wf hi hiF
  obtain ⟨H2,G2,e2,d2,s2,f2⟩:=s21_none w1.b lT.w eT
  have w2:=w1.swap.step d2 s2 (fun i hi=>.inl (f2 i hi))
  have m2:Mv n0 H1 F1 G1 H2 F1 G2:=(Mv.step1 s2 f2).swap
  obtain ⟨hi2,hi2F⟩:=m2.obj w1.a.wf hi1 hi1F
  obtain ⟨H3,F3,e3,d3,s3,f3⟩:=s21_none w2.b lS.w eS
  have w3:=w2.swap.step d3 s3 (fun i hi=>.inl (f3 i hi))
  refine ⟨H3,F3,G2,fun R K=>?_,w3,m1.trans (m2.trans (Mv.step1 s3 f3))⟩
  have hp:∀ (c:Int),c = 0 ∨ c = 1→H.ldP i4 (0 + 0) = some (if k = 0 then some (x,0) else some (y,0))∧H.ldP i4 (0 + 1) = some (if k = 0 then some (y,0) else some (x,0)):=fun c _=>by
    rcases hk with rfl | rfl
    · exact ⟨ldP_of hi rfl,ldP_of hi rfl⟩
    · exact ⟨ldP_of hi rfl,ldP_of hi rfl⟩
  obtain ⟨hp0,hp1⟩:=hp 0 (.inl rfl)
  simp only [g22_p9]
  rw [show (e != e) = false by simp,sel_false,hp0,Option.bind_some,hp1,Option.bind_some,e1,Bool.not_true,sel_false,show (e != 0) = true by simpa using he,sel_true,k1,if_pos k4,(dc_ld hk hi1).2,Option.bind_some,show (Sl.mk none 0 (.ex 0)) = nilS from rfl,e2,sel_true,if_pos k3,(dc_ld hk hi2).1,Option.bind_some,e3]
theorem stp_put {q:Nat} {vs:List V} {e:TypeId} {r:Bool} (hg:H.get q = some (.cells vs e r)) (he:e ≠ 5) (hn:n0 ≤ q) (o:O):Stp n0 H (H.put q o) (fun i=>i = q) :=
  ⟨Fr'.put (S:=fun i=>i = q) H rfl _,⟨Nat.le_refl _,fun i hi hc=>by
    have:i ≠ q:=by
      rintro rfl
      rcases hc with hc | ⟨us,ro,hc⟩
      · omega
      · rw [hg] at hc; cases hc; exact he rfl
    rw [Heap.get_put,if_neg this]⟩⟩
theorem W2.other (h:W2 n0 H x y F G S T) {H':Heap} {E:Nat→Prop} (hw:H'.Wf) (st:Stp n0 H H' E) (hE:∀ i,E i→¬F i∧¬G i):W2 n0 H' x y F G S T :=
  ⟨h.a.keep hw st fun i hi=>(hE i hi).1,h.b.keep hw st fun i hi=>(hE i hi).2,h.dj,fun i hi=>Nat.lt_of_lt_of_le (h.fl i hi) st.fr.next,fun i hi=>Nat.lt_of_lt_of_le (h.gl i hi) st.fr.next⟩
/-- the end of an act that was done -/
theorem p22_ok {k : Int} (hk : k = 0 ∨ k = 1) (h : W2 n0 H x y F G S T) {i4 : Nat} (hi : H.get i4 = some (.cells (dcells k x y) 40 false)) (hiF : ¬F i4 ∧ ¬G i4) {S2 T2 : Dk} (ho : One k S T S2 T2) (gS : S.Good) (gT : T.Good) {N : Nat} (lS : S.Le N) (lT : T.Le N) (hN : N ≤ 1000) (hw2 : 0 < S2.w ∧ 0 < T2.w)
    {ref what fr cls cau:Int} {d:List Int} {sl:Sl} (hs:Dat n0 H sl d) (eS:S2.evs = []) (eT:T2.evs = [⟨ref,what,fr,cls,cau,d⟩]) (hwh:what ≠ 0) {q o:Nat} {vs:List V} {p:Gp} {i:Nat} (hq:PV H q o vs p i) (hqF:¬F q∧¬G q) (hqn:n0 ≤ q) (after:Int) :
    ∃ H' F' G',(∀ (R:Type) (K:Bool→Heap→Option R),g22_p9 R (some (q,o)) k i4 0 0 after 0 ref what fr cls cau sl H K = K true H')∧W2 n0 H' x y F' G' S2 T2.heard∧H'.get q = some (.cells (vs.set (o + 4) (.i .i64 after)) 54 false)∧(¬F' q∧¬G' q)∧S2.Good∧T2.Good ∧
      Kp n0 H H'∧(∀ i,F' i ∨ G' i→(F i ∨ G i) ∨ (H.next ≤ i∧i < H'.next))∧∀ i o,H.get i = some o→¬F i→¬G i→i ≠ q→H'.get i = some o:=by
  obtain ⟨k1,k2,k3,k4⟩:=k_w hk
  obtain ⟨H1,F1,G1,e1,w1,m1,g1,g1'⟩:=s19 hk h ho gS gT lS lT hN
  obtain ⟨hi1,hi1F⟩:=m1.obj h.a.wf hi hiF
  obtain ⟨hq1,hq1F⟩:=m1.obj h.a.wf hq.get hqF
  have hlt:=w1.a.wf _ _ hq1
  have hiq:i4 ≠ q:=fun e=>by rw [e,hq1] at hi1; cases hi1
  -- the state
  have est:H1.st q (o + 4) (.i .i64 after) = some (H1.put q (.cells (vs.set (o + 4) (.i .i64 after)) 54 false)):=st_of hq1 (by have:=hq.len; omega) rfl
  have wp:=w1.a.wf.put hq1 (.cells (vs.set (o + 4) (.i .i64 after)) 54 false)
  have hkeep:∀ i,i ≠ q→(H1.put q (.cells (vs.set (o + 4) (.i .i64 after)) 54 false)).get i = H1.get i:=fun i hi=>by rw [Heap.get_put,if_neg hi]
  have hgq:=Heap.gput H1 q (.cells (vs.set (o + 4) (.i .i64 after)) 54 false)
  have sp:=stp_put (n0:=n0) hq1 (by decide) hqn (.cells (vs.set (o + 4) (.i .i64 after)) 54 false)
  have w1p:=w1.other wp sp (fun i hi=>by subst hi; exact hq1F)
  have hi1p:=(hkeep _ hiq).trans hi1
  generalize H1.put q (.cells (vs.set (o + 4) (.i .i64 after)) 54 false) = P at *
  -- the events
  obtain ⟨H2,G2,e2,d2,s2,f2⟩:=s21_one w1p.b hw2.2 eT hwh ((hs.kp m1.st.kp).kp sp.kp)
  have w2:=w1p.swap.step d2 s2 (fun i hi=>.inl (f2 i hi))
  have m2:Mv n0 P F1 G1 H2 F1 G2:=(Mv.step1 s2 f2).swap
  obtain ⟨hi2,hi2F⟩:=m2.obj wp hi1p hi1F
  obtain ⟨H3,F3,e3,d3,s3,f3⟩:=s21_none w2.b hw2.1 eS
  have w3:=w2.swap.step d3 s3 (fun i hi=>.inl (f3 i hi))
  have m23:=m2.trans (Mv.step1 (G:=G2) s3 f3)
  obtain ⟨hq3,hq3F⟩:=m23.obj wp hgq hq1F
  have hpn:=sp.fr.next
  refine ⟨H3,F3,G2,fun R K=>?_,w3,hq3,hq3F,g1,g1',m1.st.kp.trans (sp.kp.trans m23.st.kp),fun i hi=>?_,fun i ob hio hf hg hne=>?_⟩
  · have hp0 : H.ldP i4 (0 + 0) = some (if k = 0 then some (x, 0) else some (y, 0)) ∧ H.ldP i4 (0 + 1) = some (if k = 0 then some (y, 0) else some (x, 0)) := by
      rcases hk with rfl | rfl
      · exact ⟨ldP_of hi rfl,ldP_of hi rfl⟩
      · exact ⟨ldP_of hi rfl,ldP_of hi rfl⟩
    simp only [g22_p9]
    rw [show ((0:Int) != 0) = false from rfl,sel_false,hp0.1,Option.bind_some,hp0.2,Option.bind_some,e1,Bool.not_true,sel_false,sel_false,Option.bind_some]
    simp only [est,Option.bind_some]
    rw [k1,if_pos k4,(dc_ld hk hi1p).2,Option.bind_some,e2,sel_true,if_pos k3,(dc_ld hk hi2).1,Option.bind_some,show (Sl.mk none 0 (.ex 0)) = nilS from rfl,e3]
  · have n1:=m1.st.fr.next
    have n2:=m23.st.fr.next
    rcases m23.sub i hi with hi | hi
    · rcases m1.sub i hi with hi | hi
      · exact .inl hi
      · exact .inr (by omega)
    · exact .inr (by omega)
  · obtain ⟨a1,a2⟩:=m1.obj h.a.wf hio ⟨hf,hg⟩
    have a3:=(hkeep i hne).trans a1
    exact (m23.obj wp a3 a2).1
end
end Go.Proofs.Ytnlfkllnmobppaa

