/- SegmentsKnown: the law, joined. -/
import Derived.Test.YtobebcfkddimkaaKN
namespace Go.Proofs.Ytobebcfkddimkaa
open Go AM Go.RowKit Go.Sort
set_option linter.unusedVariables false
set_option linter.unusedSimpArgs false

theorem segmentsKnown_true (H:Heap) (hw:H.Wf):g6 Bool H (fun r _=>some r) = some true:=by
  have dd:g6 Bool H (fun r _=>some r) = g6_p0 Bool H (fun t73 H=>g6_p18 Bool t73 H (fun r _=>some r)):=rfl
  rw [dd,k0_ok]
  have w1:=hw.new (.cells zj 64 false)
  generalize H.new (.cells zj 64 false) = G0 at *
  obtain ⟨rr,G,e,rfl,wG⟩:=tlim_inv (b:=g6_p14_b)
    (fun st H=>∃ (n:Nat) (k:Int),st = (k,(n:Int))∧n ≤ 20∧(0 ≤ k∧k < 100003)∧H.Wf)
    (fun st=>20 - st.2.toNat)
    (fun r H=>r = .inl ()∧H.Wf) (by
      rintro st H ⟨n,k,rfl,hn,hk,hw⟩
      by_cases hlt:n < 20
      · left
        obtain ⟨k',s15,s16,s17,s18,G1,l,cs,rs,bs,hk',hb,e1⟩:=k_lists (n:=(n:Int)) hw hk
        have w8:IntKind.wrap .u8 (n:Int) = (n:Int):=w8u (by omega)
        have hP:=rdP_own hb.o15 hb.pk
        have hA:=rdA_own hb.o16 hb.ak
        have hR:=rdR_own hb.o17 hb.rk
        have hB:BS G1 s18 bs:=Own.toBS (by have:=hb.o18; rw [bcf_flat] at this; exact this)
        obtain ⟨G2,x2,w2,e2⟩:=safe_true hb.wf hP hA (w:=(n:Int)) (by omega)
        obtain ⟨G3,x3,w3,e3⟩:=joins_true w2 (hP.ext hb.wf x2) (hB.ext hb.wf x2) hb.bt (w:=(n:Int)) (by omega)
        obtain ⟨G4,x4,w4,e4⟩:=acts_true w3 ((hR.ext hb.wf x2).ext w2 x3) (w:=(n:Int)) (by omega)
        have wi:IntKind.wrap .i64 ((n:Int) + 1) = ((n + 1:Nat):Int):=by rw [w64 (by omega)]; rfl
        refine ⟨(k',((n + 1:Nat):Int)),G4,?_,⟨n + 1,k',rfl,by omega,hk',w4⟩,by dsimp only; omega⟩
        simp only [g6_p14_b,g6_p13,g6_p2,g6_p12,g6_p10,g6_p9,g6_p3,g6_p8]
        rw [show decide ((n:Int) < 20) = true by simp; omega,sel_true,show (Sl.mk none 0 (.ex 0)) = nilS from rfl,e1]
        simp only [g6_p7]
        rw [w8,e2,Bool.not_true,sel_false,e3,Bool.not_true,sel_false,e4,Bool.not_true,sel_false]
        simp only [g6_p11]
        rw [wi]
      · right
        refine ⟨.inl (),H,?_,rfl,hw⟩
        simp only [g6_p14_b,g6_p13,g6_p2]
        rw [show decide ((n:Int) < 20) = false by simp; omega,sel_false]) (1,0) G0 ⟨0,1,rfl,by omega,by omega,w1⟩
  obtain ⟨G5,e5⟩:=full_ok wG
  simp only [g6_p18,g6_p1,sel_false,g6_p17,g6_p15,g6_p14]
  rw [e]
  simp only [Option.bind_some,cas,g6_p16]
  rw [e5,sel_true]
  rfl
end Go.Proofs.Ytobebcfkddimkaa

