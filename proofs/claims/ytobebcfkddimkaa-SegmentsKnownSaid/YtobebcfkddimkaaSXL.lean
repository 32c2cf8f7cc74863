/- SegmentsActs: a list that is in order and has the elements of another one. -/
import Derived.Test.YtobebcfkddimkaaSL
namespace Go.Proofs.Ytobebcfkddimkaa
open Go AM Go.RowKit Go.Sort
set_option linter.unusedVariables false
set_option linter.unusedSimpArgs false

structure RdK (H:Heap) (t:Sl) (l:List Ky):Prop where
  len:t.len = l.length
  rd:∀ i k,l[i]? = some k→∃ q,t.a = some q∧H.ldI .u16 q.1 (q.2 + i * 2 + 0) = some k.1∧H.ldI .u32 q.1 (q.2 + i * 2 + 1) = some k.2
theorem rdK_of {H:Heap} {t:Sl} {l:List Ky} (h:SlIs H 2 t (ken l)) (hl:t.len = l.length):RdK H t l:=by
  refine ⟨hl,fun i k hk=>?_⟩
  have hi:=(List.getElem?_eq_some_iff.1 hk).1
  unfold SlIs slCells at h
  rw [if_neg (by omega)] at h
  cases ha:t.a with
  | none=>rw [ha] at h; cases h
  | some q =>
    rw [ha] at h
    unfold Heap.lds at h
    simp only at h
    cases hg:H.get q.1 with
    | none=>rw [hg] at h; cases h
    | some o =>
      rw [hg] at h
      cases o with
      | cells vs e ro =>
        simp only at h
        split at h
        · have hv:=Option.some.inj h
          obtain ⟨c1,c2⟩:=ken_get hk
          have at_:∀ j,j < t.len * 2→vs[q.2 + j]? = (ken l)[j]?:=fun j hj=>by
            rw [← hv,List.getElem?_take_of_lt hj,List.getElem?_drop]
          refine ⟨q,rfl,ldI_of hg ?_,ldI_of hg ?_⟩
          · rw [Nat.add_zero,at_ _ (by omega)]; exact c1
          · rw [Nat.add_assoc,at_ _ (by omega)]; exact c2
        · cases h
      | map es c=>cases h
      | siter s p=>cases h
      | miter m a b c=>cases h
theorem count_take {l:List Ky} {i:Nat} {k x:Ky} (h:l[i]? = some k):(l.take (i + 1)).count x = (l.take i).count x + if k = x then 1 else 0:=by
  rw [List.take_add_one,h,List.count_append]
  by_cases e:k = x
  · subst e; simp
  · rw [if_neg e]; simp [e]
section
variable {H:Heap} {t0 t1:Sl} {got want:List Ky}
theorem listed_in (h0 : RdK H t0 got) (h1 : RdK H t1 want) (hl : got.length = want.length) (hb : got.length ≤ 100000) {i : Nat} {x : Ky} (hx : got[i]? = some x) (hp : got.Perm want) :
    ∀ (R:Type) (K:Sl→Sl→Int→Int→Heap→Option R),g15_p6 R t0 t1 (i:Int) 0 0 H K = K t0 t1 (i:Int) 0 H:=by
  have hi:=(List.getElem?_eq_some_iff.1 hx).1
  obtain ⟨q,q0,qx1,qx2⟩:=h0.rd i x hx
  have l0:=h0.len
  have l1:=h1.len
  have ci:0 ≤ (i:Int)∧(i:Int) < ((t0.len:Nat):Int):=by omega
  obtain ⟨rr,G,e,rfl,rfl⟩:=tlim_inv (b:=g15_p5_b)
    (fun st G=>∃ k:Nat,st = (t0,t1,(i:Int),((got.take k).count x:Int) - ((want.take k).count x:Int),(k:Int))∧G = H∧k ≤ got.length)
    (fun st=>got.length - st.2.2.2.2.toNat)
    (fun r G=>r = (t0,t1,(i:Int),0)∧G = H) (by
      rintro st G ⟨k,rfl,rfl,hk⟩
      by_cases hlt:k < got.length
      · left
        have ha:got[k]? = some got[k]:=List.getElem?_eq_getElem hlt
        have hb':want[k]? = some (want[k]'(by omega)):=List.getElem?_eq_getElem (by omega)
        generalize got[k] = a at ha
        generalize want[k]'(by omega) = b at hb'
        obtain ⟨qa,qa0,qa1,qa2⟩:=h0.rd k a ha
        rw [q0] at qa0; cases qa0
        obtain ⟨qb,qb0,qb1,qb2⟩:=h1.rd k b hb'
        have ck:0 ≤ (k:Int)∧(k:Int) < ((t0.len:Nat):Int):=by omega
        have ck1:0 ≤ (k:Int)∧(k:Int) < ((t1.len:Nat):Int):=by omega
        have wk:IntKind.wrap .i64 ((k:Int) + 1) = ((k + 1:Nat):Int):=by rw [w64 (by omega)]; rfl
        have c1:=List.count_le_length (a:=x) (l:=got.take k)
        have c2:=List.count_le_length (a:=x) (l:=want.take k)
        rw [List.length_take] at c1 c2
        have t1':=count_take (x:=x) ha
        have t2':=count_take (x:=x) hb'
        refine ⟨(t0,t1,(i:Int),((got.take (k + 1)).count x:Int) - ((want.take (k + 1)).count x:Int),((k + 1:Nat):Int)),G,?_,⟨k + 1,rfl,rfl,by omega⟩,by dsimp only; omega⟩
        rw [t1',t2']
        generalize (got.take k).count x = n1 at *
        generalize (want.take k).count x = n2 at *
        simp only [g15_p5_b,g15_p4]
        rw [show decide ((k:Int) < ((t0.len:Nat):Int)) = true by simp; omega,sel_true]
        simp only [if_pos ck,if_pos ck1,if_pos ci,q0,qb0,Option.bind_some,Int.toNat_natCast,qa1,qa2,qx1,qx2,qb1,qb2,eqK_t,wk,selD]
        by_cases e1:a = x <;> by_cases e2:b = x
        · rw [if_pos e1,if_pos e2,if_pos e1,if_pos e2,w64 (n:=(n1:Int) - n2 + 1) (by omega),w64 (by omega)]
          rw [show (n1:Int) - n2 + 1 - 1 = ((n1 + 1:Nat):Int) - ((n2 + 1:Nat):Int) by omega]
        · rw [if_pos e1,if_neg e2,if_pos e1,if_neg e2,w64 (by omega)]
          rw [show (n1:Int) - n2 + 1 = ((n1 + 1:Nat):Int) - ((n2 + 0:Nat):Int) by omega]
        · rw [if_neg e1,if_pos e2,if_neg e1,if_pos e2,w64 (by omega)]
          rw [show (n1:Int) - n2 - 1 = ((n1 + 0:Nat):Int) - ((n2 + 1:Nat):Int) by omega]
        · rw [if_neg e1,if_neg e2,if_neg e1,if_neg e2]
          rfl
      · right
        have hk':k = got.length:=by omega
        subst hk'
        refine ⟨(t0,t1,(i:Int),0),G,?_,rfl,rfl⟩
        rw [List.take_length,List.take_of_length_le (by omega),hp.count_eq,Int.sub_self]
        simp only [g15_p5_b,g15_p4]
        rw [show decide (((got.length:Nat):Int) < ((t0.len:Nat):Int)) = false by simp; omega,sel_false]) (t0,t1,(i:Int),0,0) H ⟨0,by simp,rfl,Nat.zero_le _⟩
  intro R K
  simp only [g15_p6,g15_p5]
  rw [e]
  rfl
theorem listed_ok (h0:RdK H t0 got) (h1:RdK H t1 want) (hc:t0.cap = .ex t0.len) (hb:got.length ≤ 100000) (hp:got.Perm want) (hs:∀ i a b,got[i]? = some b→got[i + 1]? = some a→¬(a.1 < b.1 ∨ a.1 = b.1∧a.2 < b.2)) {R:Type} (K:Bool→Heap→Option R):g15 R t0 t1 H K = K true H:=by
  have l0:=h0.len
  have l1:=h1.len
  have hl:=hp.length_eq
  obtain ⟨rr,G,e,rfl,hG⟩:=tlim_inv (b:=g15_p15_b)
    (fun st G=>∃ i:Nat,st = (t0,t1,(i:Int))∧G = H∧i ≤ got.length)
    (fun st=>got.length - st.2.2.toNat)
    (fun r G=>r = .inl ()∧G = H) (by
      rintro st G ⟨i,rfl,rfl,hi⟩
      by_cases hlt:i < got.length
      · left
        have hx:got[i]? = some got[i]:=List.getElem?_eq_getElem hlt
        generalize got[i] = x at hx
        obtain ⟨q,q0,qx1,qx2⟩:=h0.rd i x hx
        have ci:0 ≤ (i:Int)∧(i:Int) < ((t0.len:Nat):Int):=by omega
        have wi:IntKind.wrap .i64 ((i:Int) + 1) = ((i + 1:Nat):Int):=by rw [w64 (by omega)]; rfl
        refine ⟨(t0,t1,((i + 1:Nat):Int)),G,?_,⟨i + 1,rfl,rfl,by omega⟩,by dsimp only; omega⟩
        have h2:∀ {A:Type} (kN:Sl→Sl→Int→Bool→Heap→Option A),g15_p2 A t0 t1 (i:Int) G kN = kN t0 t1 (i:Int) false G:=by
          intro A kN
          unfold g15_p2
          by_cases hz:i = 0
          · subst hz; rw [show decide (((0:Nat):Int) > 0) = false from rfl,sel_false]
          · rw [show decide ((i:Int) > 0) = true by simp; omega,sel_true]
            have wm:IntKind.wrap .i64 ((i:Int) - 1) = ((i - 1:Nat):Int):=by rw [w64 (by omega)]; omega
            have hy:got[i - 1]? = some (got[i - 1]'(by omega)):=List.getElem?_eq_getElem (by omega)
            generalize got[i - 1]'(by omega) = y at hy
            obtain ⟨qy,qy0,qy1,qy2⟩:=h0.rd (i - 1) y hy
            rw [q0] at qy0; cases qy0
            have cm:0 ≤ ((i - 1:Nat):Int)∧((i - 1:Nat):Int) < ((t0.len:Nat):Int):=by omega
            have hno:=hs (i - 1) x y hy (by rw [show i - 1 + 1 = i by omega]; exact hx)
            simp only [if_pos ci,wm,if_pos cm,q0,Option.bind_some,Int.toNat_natCast,qx1,qx2,qy1,qy2,selD,selE]
            rw [if_neg (fun h=>hno (.inl h))]
            by_cases e1:x.1 = y.1
            · rw [if_pos e1,decide_eq_false (fun h=>hno (.inr ⟨e1,h⟩))]
            · rw [if_neg e1]
        simp only [g15_p15_b,g15_p14,g15_p1,g15_p13,g15_p11,g15_p10,h2,g15_p9,g15_p3,sel_false,g15_p8,g15_p12]
        rw [show decide ((i:Int) < ((t0.len:Nat):Int)) = true by simp; omega,sel_true,listed_in h0 h1 hl hb hx hp]
        simp only [g15_p7,bne_self_eq_false,sel_false,wi]
      · right
        refine ⟨.inl (),G,?_,rfl,rfl⟩
        simp only [g15_p15_b,g15_p14,g15_p1]
        rw [show decide ((i:Int) < ((t0.len:Nat):Int)) = false by simp; omega,sel_false]) (t0,t1,0) H ⟨0,rfl,rfl,Nat.zero_le _⟩
  rw [hG] at e
  have dd:g15 R t0 t1 H K = g15_p0 R t0 t1 H (fun t0 t1 t5 H=>g15_p18 R t0 t1 t5 H K) K:=rfl
  rw [dd]
  unfold g15_p0
  rw [selN,if_pos (by omega),hc]
  simp only [capK,bne_self_eq_false,sel_false,g15_p18,g15_p16,g15_p15]
  rw [e]
  rfl
end
end Go.Proofs.Ytobebcfkddimkaa

