/- ConnectionsFlows: a request; the law. -/
import Derived.Test.YtnlfkllnmobppaaCE6
namespace Go.Proofs.Ytnlfkllnmobppaa
open Go AM Go.RowKit
set_option linter.unusedVariables false
set_option linter.unusedSimpArgs false

section
variable {n0:Nat} {H:Heap} {k:Int} {x y:Nat} {F G:Nat→Prop} {S T:Dk} {l:List Gp} {t7:Sl} {i3:Nat}
/-- what the law does at a request, behind its checks -/
noncomputable def reqP (R:Type) (k cls:Int) (sl:Sl) (i3:Nat) (t7:Sl) (H:Heap) (kF:Heap→Option R) (kE:Sl→Heap→Option R):Option R :=
  (H.ldP i3 (0 + Int.toNat k * 1)).bind fun x448 =>
  g18 R x448 (1 - k) cls sl H fun x449 x450 h451 =>
  alo h451 (.cells [(V.i .i64 (0:Int)),(V.i .u32 (0:Int)),(V.i .u32 (0:Int)),(V.i .u8 (0:Int)),(V.i .i64 (0:Int))] 54 false) fun i452 h453 =>
  ((h453).sts i452 0 [(V.i .i64 k),(V.i .u32 (0:Int)),(V.i .u32 (0:Int)),(V.i .u8 cls),(V.i .i64 (1:Int))]).bind fun h454 =>
  ((h454).st i452 ((0 + 1) + Int.toNat k * 1) (V.i .u32 x449)).bind fun h456 =>
  sel (x450 != (0:Int)) (kF h456) (
    ((h456).ldP i3 (0 + 0)).bind fun x457 =>
    ((h456).ldP i3 (0 + 1)).bind fun x458 =>
    g19 R x457 x458 h456 fun x459 h460 =>
    sel (!x459) (kF h460) (
      ((h460).ldP i3 (0 + Int.toNat (1 - k) * 1)).bind fun x461 =>
      g20 R x461 h460 fun x462 h463 =>
      sel (((x462.len:Nat):Int) != (1:Int)) (kF h463) (
        if 0 ≤ (0:Int)∧(0:Int) < ((x462.len:Nat):Int) then (
          (x462.a).bind fun q464 =>
          ((h463).ldI .u8 q464.1 ((q464.2 + Int.toNat (0:Int) * 6) + 1)).bind fun x465 =>
          sel (x465 != (1:Int)) (kF h463) (
            if 0 ≤ (0:Int)∧(0:Int) < ((x462.len:Nat):Int) then (
              (x462.a).bind fun q466 =>
              ((h463).ldI .u8 q466.1 ((q466.2 + Int.toNat (0:Int) * 6) + 3)).bind fun x467 =>
              sel (x467 != cls) (kF h463) (
                if 0 ≤ (0:Int)∧(0:Int) < ((x462.len:Nat):Int) then (
                  (x462.a).bind fun q468 =>
                  ((h463).ldSl q468.1 ((q468.2 + Int.toNat (0:Int) * 6) + 5)).bind fun x469 =>
                  ((slBytes h463 x469)).bind fun x470 =>
                  ((slBytes h463 sl)).bind fun x471 =>
                  sel (!strEq x470 x471) (kF h463) (
                    if 0 ≤ (0:Int)∧(0:Int) < ((x462.len:Nat):Int) then (
                      (x462.a).bind fun q472 =>
                      ((h463).ldI .u16 q472.1 ((q472.2 + Int.toNat (0:Int) * 6) + 2)).bind fun x473 =>
                      sel (x473 != k) (kF h463) (
                        ((h463).ldP i3 (0 + Int.toNat k * 1)).bind fun x474 =>
                        g21 R x474 (0:Int) (0:Int) (0:Int) (0:Int) (0:Int) (Sl.mk none 0 (.ex 0)) h463 fun x475 h476 =>
                        sel (!x475) (kF h476) (
                          if 0 ≤ (0:Int)∧(0:Int) < ((x462.len:Nat):Int) then (
                            (x462.a).bind fun q477 =>
                            ((h476).ldI .u32 q477.1 ((q477.2 + Int.toNat (0:Int) * 6) + 0)).bind fun x478 =>
                            ((h476).st i452 ((0 + 1) + Int.toNat (1 - k) * 1) (V.i .u32 x478)).bind fun h480 =>
                            ((h480).ldI .i64 i452 (0 + 0)).bind fun x481 =>
                            ((h480).ldI .u32 i452 (0 + 1)).bind fun x482 =>
                            ((h480).ldI .u32 i452 (0 + 2)).bind fun x483 =>
                            ((h480).ldI .u8 i452 (0 + 3)).bind fun x484 =>
                            ((h480).ldI .i64 i452 (0 + 4)).bind fun x485 =>
                            alo h480 (.cells [(V.i .i64 x481),(V.i .u32 x482),(V.i .u32 x483),(V.i .u8 x484),(V.i .i64 x485)] 54 false) fun i486 h487 =>
                            ((slCells h487 5 (Sl.mk (some (i486,0)) 1 (.ex 1)))).bind fun vs490 =>
                            appendV h487 54 5 32 t7 (Sl.mk (some (i486,0)) 1 (.ex 1)).len vs490 fun s488 h489 =>
                            kE s488 h489)
                          else none))) else none)) else none)) else none)) else none)))
theorem step_req (hk : k = 0 ∨ k = 1) (h : LW n0 H k x y F G S T l t7 i3) (hn0 : n0 ≤ H.next) (hl : l.length ≤ 900) {cls : Int} (hc : cls = 2 ∨ cls = 3) {sl : Sl} {d : List Int} (hd : Dat n0 H sl d) (hdl : d.length ≤ 200) :
    ∃ t7' H' F' G' S' T',(∀ (R:Type) (kF:Heap→Option R) (kE:Sl→Heap→Option R),reqP R k cls sl i3 t7 H kF kE = kE t7' H')∧LW n0 H' k x y F' G' S' T' (l ++ [{ by':=k,cls:=cls,st:=1 }]) t7' i3∧Kp n0 H H':=by
  obtain ⟨k1,k2,k3,k4⟩:=k_w hk
  have bS:=h.ds.le.bd (by omega)
  have htl:=h.tlen
  obtain ⟨S1,S2,T2,f1,f2,f3,f4,f5⟩:=act_request hk h.ds h.dt (by omega) hc hdl
  have g1:=h.gs.request (to:=1 - k) (cls:=cls) d
  have l1:=h.ds.le.request (1 - k) cls d
  obtain ⟨H1,e1,got⟩:=s18 h.w.a bS (to:=1 - k) (cls:=cls) (by omega) hd
  rw [f1] at got g1 l1 e1
  have w1:=h.w.step got.da got.st (fun i hi=>hi)
  have m1:Mv n0 H F G H1 (grown F H H1) G:=.of got.st (fun i hi=>hi)
  -- the pair
  obtain ⟨vs,hvs⟩:∃ vs:List V,vs = [.i .i64 k,.i .u32 0,.i .u32 0,.i .u8 cls,.i .i64 1]:=⟨_,rfl⟩
  obtain ⟨vs2,hvs2⟩:∃ vs2:List V,vs2 = vs.set (0 + 1 + Int.toNat k * 1) (.i .u32 ((l.length:Int) + 1)):=⟨_,rfl⟩
  have hx1:=Ext.new H1 (.cells [(V.i .i64 (0:Int)),(V.i .u32 (0:Int)),(V.i .u32 (0:Int)),(V.i .u8 (0:Int)),(V.i .i64 (0:Int))] 54 false)
  have hw1:=w1.a.wf.new (.cells [(V.i .i64 (0:Int)),(V.i .u32 (0:Int)),(V.i .u32 (0:Int)),(V.i .u8 (0:Int)),(V.i .i64 (0:Int))] 54 false)
  have hg1:=Heap.gnew H1 (.cells [(V.i .i64 (0:Int)),(V.i .u32 (0:Int)),(V.i .u32 (0:Int)),(V.i .u8 (0:Int)),(V.i .i64 (0:Int))] 54 false)
  have n1:(H1.new (.cells [(V.i .i64 (0:Int)),(V.i .u32 (0:Int)),(V.i .u32 (0:Int)),(V.i .u8 (0:Int)),(V.i .i64 (0:Int))] 54 false)).next = H1.next + 1:=rfl
  obtain ⟨A1,hA1⟩:∃ A1,A1 = H1.new (.cells [(V.i .i64 (0:Int)),(V.i .u32 (0:Int)),(V.i .u32 (0:Int)),(V.i .u8 (0:Int)),(V.i .i64 (0:Int))] 54 false):=⟨_,rfl⟩
  rw [← hA1] at hx1 hw1 hg1 n1
  have est1:A1.sts H1.next 0 [(V.i .i64 k),(V.i .u32 (0:Int)),(V.i .u32 (0:Int)),(V.i .u8 cls),(V.i .i64 (1:Int))] = some (A1.put H1.next (.cells vs 54 false)):=by
    rw [sts_of hg1 (by show 0 + 5 ≤ 5; omega) rfl,hvs]; rfl
  have hg2:=Heap.gput A1 H1.next (.cells vs 54 false)
  have hw2:=hw1.put hg1 (.cells vs 54 false)
  have hx2:Ext H1 (A1.put H1.next (.cells vs 54 false)):=hx1.above (Nat.le_refl _) _
  obtain ⟨A2,hA2⟩:∃ A2,A2 = A1.put H1.next (.cells vs 54 false):=⟨_,rfl⟩
  have n2:A2.next = H1.next + 1:=by rw [hA2]; exact n1
  rw [← hA2] at est1 hg2 hw2 hx2
  have hk5:0 + 1 + Int.toNat k * 1 < vs.length:=by rw [hvs]; rcases hk with rfl | rfl <;> simp
  have est2:A2.st H1.next (0 + 1 + Int.toNat k * 1) (V.i .u32 ((l.length:Int) + 1)) = some (A2.put H1.next (.cells vs2 54 false)):=by rw [st_of hg2 hk5 rfl,hvs2]
  have hg3:=Heap.gput A2 H1.next (.cells vs2 54 false)
  have hw3:=hw2.put hg2 (.cells vs2 54 false)
  have hx3:Ext H1 (A2.put H1.next (.cells vs2 54 false)):=hx2.above (Nat.le_refl _) _
  obtain ⟨A3,hA3⟩:∃ A3,A3 = A2.put H1.next (.cells vs2 54 false):=⟨_,rfl⟩
  have n3:A3.next = H1.next + 1:=by rw [hA3]; exact n2
  rw [← hA3] at est2 hg3 hw3 hx3
  have w3:W2 n0 A3 x y (grown F H H1) G S1 T:=⟨w1.a.ext hw3 hx3,w1.b.ext hw3 hx3,w1.dj,fun i hi=>Nat.lt_of_lt_of_le (w1.fl i hi) hx3.next,fun i hi=>Nat.lt_of_lt_of_le (w1.gl i hi) hx3.next⟩
  have m3:Mv n0 H1 (grown F H H1) G A3 (grown F H H1) G:=⟨.ext hx3,fun i hi=>.inl hi⟩
  have hpF:¬grown F H H1 H1.next∧¬G H1.next:=⟨fun hf=>by have:=w1.fl _ hf; omega,fun hf=>by have:=w1.gl _ hf; omega⟩
  have m13:=m1.trans m3
  obtain ⟨ar3,ar3F⟩:=m13.obj h.w.a.wf h.arr h.arrF
  -- settle
  obtain ⟨H4,F4,G4,e4,w4,m4,g4,g4'⟩:=s19 hk w3 f2 g1 h.gt (l1.mono (show l.length + 1 ≤ 1000 by omega)) (h.dt.le.mono (show l.length ≤ 1000 by omega)) (by omega)
  obtain ⟨pr4,pr4F⟩:=m4.obj hw3 hg3 hpF
  obtain ⟨ar4,ar4F⟩:=m4.obj hw3 ar3 ar3F
  have hTw:0 < T2.w:=by have:=f5.w; simp only [Dk.heard_w] at this; omega
  have hSw:0 < S2.w:=by have:=f4.w; omega
  -- the events
  obtain ⟨r,H5,es,e5,d5,s5,r5,o5,q5,nx5⟩:=s20 w4.b hTw
  have w5:=w4.swap.step d5 s5 (fun i hi=>.inl hi.1)
  have m5:Mv n0 H4 F4 G4 H5 F4 (fun i=>G4 i∧i ∉ sid r):=(Mv.of s5 (fun i hi=>.inl hi.1)).swap
  obtain ⟨pr5,pr5F⟩:=m5.obj w4.a.wf pr4 pr4F
  obtain ⟨ar5,ar5F⟩:=m5.obj w4.a.wf ar4 ar4F
  rw [f3] at o5
  obtain ⟨z,rfl⟩:∃ z,es = [z]:=by
    cases es with
    | nil=>cases o5
    | cons z es =>
      cases es with
      | nil=>exact ⟨z,rfl⟩
      | cons _ _=>simp at o5
  simp only [List.map_cons,List.map_nil,List.cons.injEq,and_true] at o5
  obtain ⟨q,a,b0,b1,b2,b3,b4,b5⟩:=r5.ld (j:=0) (z:=z) rfl
  have hrl:r.len = 1:=r5.len
  have hdz:=r5.dat z (by simp)
  rw [o5] at b0 b1 b2 b3 b4 hdz
  obtain ⟨H6,F6,e6,d6,s6,f6⟩:=s21_none w5.b hSw f4.evs
  have w6:=w5.swap.step d6 s6 (fun i hi=>.inl (f6 i hi))
  have m6:Mv n0 H5 F4 (fun i=>G4 i∧i ∉ sid r) H6 F6 (fun i=>G4 i∧i ∉ sid r):=Mv.step1 s6 f6
  obtain ⟨pr6,pr6F⟩:=m6.obj w5.a.wf pr5 pr5F
  obtain ⟨ar6,ar6F⟩:=m6.obj w5.a.wf ar5 ar5F
  have hqr:q ∈ sid r:=sid_of a
  have hqF4:¬F4 q:=fun hf=>w4.dj q hf (q5 q hqr).1
  have b0':H6.ldI .u32 q (0 + 0 * 6 + 0) = some ((l.length:Int) + 1):=by
    obtain ⟨q',a',gq'⟩:=r5.at' (by simp)
    rw [a] at a'; simp at a'; subst a'
    have:=s6.fr.get w5.a.wf gq' hqF4
    unfold Heap.ldI Heap.ld at b0 ⊢
    rw [this]; rw [gq'] at b0; exact b0
  -- the second reference
  obtain ⟨vs3,hvs3⟩:∃ vs3:List V,vs3 = vs2.set (0 + 1 + Int.toNat (1 - k) * 1) (.i .u32 ((l.length:Int) + 1)):=⟨_,rfl⟩
  have hvs3':vs3 = pcs ({ by':=k,cls:=cls,st:=1 },l.length):=by
    rw [hvs3,hvs2,hvs]
    rcases hk with rfl | rfl <;> rfl
  have hk6:0 + 1 + Int.toNat (1 - k) * 1 < vs2.length:=by rw [hvs2,hvs]; rcases hk with rfl | rfl <;> simp
  have est3:H6.st H1.next (0 + 1 + Int.toNat (1 - k) * 1) (V.i .u32 ((l.length:Int) + 1)) = some (H6.put H1.next (.cells vs3 54 false)):=by rw [st_of pr6 hk6 rfl,hvs3]
  have hqn:n0 ≤ H1.next:=Nat.le_trans hn0 got.st.fr.next
  have sp:=stp_put (n0:=n0) pr6 (by decide) hqn (.cells vs3 54 false)
  have wp:=w6.a.wf.put pr6 (.cells vs3 54 false)
  have hgp:=Heap.gput H6 H1.next (.cells vs3 54 false)
  have w7:=w6.other wp sp (fun i hi=>by subst hi; exact pr6F)
  have hi3:i3 < H.next:=h.w.a.wf _ _ h.arr
  have hn01:=got.st.fr.next
  have hne3:i3 ≠ H1.next:=by omega
  have ar7:(H6.put H1.next (.cells vs3 54 false)).get i3 = some (.cells (dcells k x y) 40 false):=by rw [Heap.get_put,if_neg hne3]; exact ar6
  have npx:(H6.put H1.next (.cells vs3 54 false)).next = H6.next:=rfl
  -- the row
  have m16:=m13.trans (m4.trans (m5.trans m6))
  have ownK:Own (H6.put H1.next (.cells vs3 54 false)) 54 5 t7 (rows pcs l.zipIdx):=h.own.mono fun id o ha ho=>by
    have hid:=h.ids id (sid_of ha)
    have:=(m16.obj h.w.a.wf ho ⟨hid.1,hid.2.1⟩).1
    rw [Heap.get_put,if_neg (by have:=h.w.a.wf _ _ ho; omega)]; exact this
  obtain ⟨P,hP⟩:∃ P,P = H6.put H1.next (.cells vs3 54 false):=⟨_,rfl⟩
  rw [← hP] at est3 sp wp hgp w7 ar7 ownK npx
  obtain ⟨t7',H7,e7,o7,f7,w7',i7⟩:=row_push pcs pcs_len pcs_one wp (bytes:=32) ownK (({ by':=k,cls:=cls,st:=1 }:Gp),l.length) (by omega) (by omega) (by rw [List.length_zipIdx]; omega)
  have hzip:l.zipIdx ++ [(({ by':=k,cls:=cls,st:=1 }:Gp),l.length)] = (l ++ [({ by':=k,cls:=cls,st:=1 }:Gp)]).zipIdx:=by
    rw [List.zipIdx_append]; simp
  rw [hzip] at o7
  have n16:=m16.st.fr.next
  have np:=sp.fr.next
  have sid7:∀ i,i ∈ sid t7→¬F6 i∧¬(G4 i∧i ∉ sid r):=fun i hi=>by
    have hid:=h.ids i hi
    exact (m16.obj h.w.a.wf (h.own.sidg hi).2 ⟨hid.1,hid.2.1⟩).2
  have st7:Stp n0 P H7 (fun i=>i ∈ sid t7):=⟨f7,⟨f7.next,fun i hi hc=>f7.same i hi fun hs=>by
    have hid:=h.ids i hs
    rcases hc with hc | ⟨vs',ro,hc⟩
    · omega
    · rw [(ownK.sidg hs).2] at hc; cases hc⟩⟩
  have w8:=w7.other w7' st7 (fun i hi=>sid7 i hi)
  have ar8:H7.get i3 = some (.cells (dcells k x y) 40 false):=f7.get wp ar7 fun hs=>by
    have:=ownK.sidg hs
    rw [ar7] at this
    exact ne_ty (by decide) (Option.some.inj this.2)
  refine ⟨t7',H7,F6,_,S2,T2.heard,fun R kF kE=>?_,⟨w8,f4,f5,g4,g4'.heard,fun p hp=>?_,ar8,ar6F,o7,fun q2 hq2=>?_⟩,m16.st.kp.trans (sp.kp.trans st7.kp)⟩
  · have hp0 : A3.ldP i3 (0 + 0) = some (if k = 0 then some (x, 0) else some (y, 0)) ∧ A3.ldP i3 (0 + 1) = some (if k = 0 then some (y, 0) else some (x, 0)) := by
      rcases hk with rfl | rfl
      · exact ⟨ldP_of ar3 rfl,ldP_of ar3 rfl⟩
      · exact ⟨ldP_of ar3 rfl,ldP_of ar3 rfl⟩
    unfold reqP
    rw [(dc_ld hk h.arr).1,Option.bind_some,e1]
    simp only [alo]
    rw [← hA1,est1,Option.bind_some,est2,Option.bind_some,show ((0:Int) != 0) = false from rfl,sel_false,hp0.1,Option.bind_some,hp0.2,Option.bind_some,e4,Bool.not_true,sel_false,(dc_ld hk ar4).2,Option.bind_some,e5,hrl]
    rw [show ((((1:Nat):Int)) != 1) = false by decide,sel_false,if_pos (by omega),a,Option.bind_some]
    simp only [show Int.toNat (0:Int) = 0 from rfl,b1,b2,b3,b5,Option.bind_some,slB hdz.bs,slB ((hd.kp (m13.st.kp.trans (m4.st.kp.trans m5.st.kp)))).bs,strEqU,decide_true,Bool.not_true,sel_false]
    rw [show ((1:Int) != 1) = false from rfl,sel_false,if_pos (by omega),show (cls != cls) = false by simp,sel_false,if_pos (by omega),if_pos (by omega),show (k != k) = false by simp,sel_false,(dc_ld hk ar5).1,Option.bind_some]
    rw [show (Sl.mk none 0 (.ex 0)) = nilS from rfl,e6,Bool.not_true,sel_false,if_pos (by omega),b0',Option.bind_some,est3,Option.bind_some]
    rw [hvs3'] at hgp
    rw [ldI_of (n:=k) hgp rfl,Option.bind_some,ldI_of (n:=(l.length:Int) + 1) hgp rfl,Option.bind_some,ldI_of (n:=(l.length:Int) + 1) hgp rfl,Option.bind_some,ldI_of (n:=cls) hgp rfl,Option.bind_some,ldI_of (n:=(1:Int)) hgp rfl,Option.bind_some]
    exact e7 R kE
  · rcases List.mem_append.1 hp with hp | hp
    · exact h.ok p hp
    · rw [List.mem_singleton.1 hp]
      exact ⟨hk,hc,.inl rfl,⟨Int.le_refl 0,by show (0:Int) ≤ 127; omega⟩,⟨Int.le_refl 0,by show (0:Int) ≤ 127; omega⟩,fun _=>⟨rfl,rfl⟩⟩
  · obtain ⟨q3,q4⟩:=i7 q2 hq2
    refine ⟨fun hf=>?_,fun hf=>?_,by omega⟩
    · have:=w7.fl _ hf; omega
    · have:=w7.gl _ hf; omega
end
end Go.Proofs.Ytnlfkllnmobppaa

