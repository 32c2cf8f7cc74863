/- ConnectionsBytes: the law. -/
import Derived.Test.YtnlfkllnmobppaaCB4
namespace Go.Proofs.Ytnlfkllnmobppaa
open Go AM Go.RowKit
set_option linter.unusedVariables false
set_option linter.unusedSimpArgs false

theorem capX (c : Nat) {R : Type} (K : Nat → Option R) : capK (.ex c) K = K c := rfl
theorem p2_law {G : Heap} (hw : G.Wf) {t : Sl} {l : List Int} (ht : BS G t l) (hb : Byt l) (hc : CapOk t) (hl : l.length ≤ 300) : (g3_p2 g9 g10 g11 g12 g13 g14 g15 g16 Bool t G fun r _ => some r) = some true := by
  obtain ⟨s5, H5, e5, bs5, x5, w5⟩ := s13 hw ht hb hc (by omega)
  unfold g3_p2
  rw [e5]
  unfold alo
  rw [show [V.i IntKind.u8 0, V.i IntKind.u32 0, V.i IntKind.u32 0, V.i IntKind.u8 0, V.i IntKind.u8 0, V.i IntKind.u8 0, V.i IntKind.u8 0, V.sl (Sl.mk none 0 (.ex 0))] = Cm.zero.cells nilS from rfl]
  rw [show [V.i IntKind.u8 (Cm.dec l).1.k, V.i IntKind.u32 (Cm.dec l).1.f, V.i IntKind.u32 (Cm.dec l).1.t, V.i IntKind.u8 (Cm.dec l).1.c, V.i IntKind.u8 (Cm.dec l).1.n, V.i IntKind.u8 (Cm.dec l).1.x, V.i IntKind.u8 (Cm.dec l).1.u, V.sl s5] = (Cm.dec l).1.cells s5 from rfl]
  have g6 := Heap.gnew H5 (.cells (Cm.zero.cells nilS) 26 false)
  have w6 := w5.new (.cells (Cm.zero.cells nilS) 26 false)
  have p6 := sts_m (v := (Cm.dec l).1) (t := s5) g6
  have gP := Heap.gput (H5.new (.cells (Cm.zero.cells nilS) 26 false)) H5.next (.cells ((Cm.dec l).1.cells s5) 26 false)
  have wP := w6.put g6 (.cells ((Cm.dec l).1.cells s5) 26 false)
  have xP : Ext G ((H5.new (.cells (Cm.zero.cells nilS) 26 false)).put H5.next (.cells ((Cm.dec l).1.cells s5) 26 false)) := (x5.trans (Ext.new H5 _)).above x5.next _
  have bsP := bs5.ext w5 ((Ext.new H5 (.cells (Cm.zero.cells nilS) 26 false)).above (Nat.le_refl _) (.cells ((Cm.dec l).1.cells s5) 26 false))
  simp only [p6, Option.bind_some, Nat.zero_add]
  generalize hi : H5.next = i at *
  generalize hP : (H5.new (.cells (Cm.zero.cells nilS) 26 false)).put i (.cells ((Cm.dec l).1.cells s5) 26 false) = P at *
  obtain ⟨a0, a1, a2, a3, a4, a5, a6, a7⟩ := ldM gP
  have htP := ht.ext hw xP
  simp only [a0, a1, a2, a3, a4, a5, a6, a7, Option.bind_some]
  by_cases hbad : l.length < 9 ∨ (Cm.de l).ck ≠ 0
  · have ed : Cm.dec l = (.zero, 4) := by unfold Cm.dec; rw [if_pos hbad]
    rw [ed] at bsP ⊢
    have e15 := s15 (R := Bool) wP (a := .zero) (b := .zero) (s := s5) (t := nilS) bsP (.nil _)
    have wQ := (wP.new (.cells (Cm.zero.cells s5) 26 false)).new (.cells (Cm.zero.cells nilS) 26 false)
    have xQ : Ext P ((P.new (.cells (Cm.zero.cells s5) 26 false)).new (.cells (Cm.zero.cells nilS) 26 false)) := (Ext.new _ _).trans (Ext.new _ _)
    generalize (P.new (.cells (Cm.zero.cells s5) 26 false)).new (.cells (Cm.zero.cells nilS) 26 false) = Q at *
    obtain ⟨H7, e16, x7, w7⟩ := s16 wQ (htP.ext wP xQ) hb hc
    simp only [show (Cm.zero).k = 0 from rfl, show (Cm.zero).f = 0 from rfl, show (Cm.zero).t = 0 from rfl, show (Cm.zero).c = 0 from rfl, show (Cm.zero).n = 0 from rfl, show (Cm.zero).x = 0 from rfl, show (Cm.zero).u = 0 from rfl] at e15 ⊢
    rw [show ((4 : Int) != 0) = true from rfl, sel_true, show ((4 : Int) == 4) = true from rfl, sel_true]
    rw [show (Sl.mk none 0 (.ex 0)) = nilS from rfl, e15, Cm.same_self, sel_true, e16]
    have : (decide (9 ≤ l.length) && (Cm.de l).ck == 0) = false := by
      rcases hbad with h | h
      · rw [decide_eq_false (by omega), Bool.false_and]
      · rw [show ((Cm.de l).ck == 0) = false by simpa using h, Bool.and_false]
    rw [this, Bool.not_false, sel_true, s9]
  · have h9 : ¬l.length < 9 := fun e => hbad (.inl e)
    have hk : (Cm.de l).ck = 0 := Classical.not_not.1 fun e => hbad (.inr e)
    have ed : Cm.dec l = (Cm.de l, 0) := by unfold Cm.dec; rw [if_neg hbad]
    rw [ed] at bsP gP ⊢
    have hok := Cm.de_ok hb
    obtain ⟨H7, e10, x7, w7⟩ := s10 wP hok (s := s5) bsP.len
    have gi7 := x7.get wP gP
    obtain ⟨b0, b1, b2, b3, b4, b5, b6, b7⟩ := ldM gi7
    have bs7 := bsP.ext wP x7
    obtain ⟨H8, e14, x8, w8⟩ := s14 w7 hok bs7 (by simp [Cm.de]; omega)
    have t7 := htP.ext wP x7
    have t8 := t7.ext w7 x8
    simp only at ⊢
    rw [show ((0 : Int) != 0) = false from rfl, sel_false, e10, hk, show ((0 : Int) == 0) = true from rfl, sel_true]
    simp only [b0, b1, b2, b3, b4, b5, b6, b7, Option.bind_some]
    rw [e14, slB t8, Option.bind_some, slB t7, Option.bind_some, if_pos (same_s _), strEqU, Cm.de_enc hb (by omega), decide_eq_true rfl, sel_true, s9]
theorem connectionsBytes_true (H : Heap) (hw : H.Wf) (x1 x2 x3 x4 x5 x6 x7 : Int) (s t : Sl) (k1 : (Lit.int .u8 x1).wf = true) (k2 : (Lit.int .u32 x2).wf = true) (k3 : (Lit.int .u32 x3).wf = true) (k4 : (Lit.int .u8 x4).wf = true) (k5 : (Lit.int .u8 x5).wf = true) (k6 : (Lit.int .u8 x6).wf = true) (k7 : (Lit.int .u8 x7).wf = true) (k8 : ArgSl H [.i .u8] s) (k9 : ArgSl H [.i .u8] t) :
    g3 Bool x1 x2 x3 x4 x5 x6 x7 s t H (fun r _ => some r) = some true := by
  obtain ⟨d, hs, hbd, hcd, _, _⟩ := bs_of_arg k8
  obtain ⟨l, ht, hb, hc, _, _⟩ := bs_of_arg k9
  obtain ⟨m, rfl, rfl, rfl, rfl, rfl, rfl, rfl, rfl⟩ : ∃ m : Cm, m.k = x1 ∧ m.f = x2 ∧ m.t = x3 ∧ m.c = x4 ∧ m.n = x5 ∧ m.x = x6 ∧ m.u = x7 ∧ m.d = d := ⟨⟨x1, x2, x3, x4, x5, x6, x7, d⟩, rfl, rfl, rfl, rfl, rfl, rfl, rfl, rfl⟩
  have hm : m.Ok := ⟨wfU8 k1, wfU32 k2, wfU32 k3, wfU8 k4, wfU8 k5, wfU8 k6, wfU8 k7, hbd⟩
  have hn : s.len = m.d.length := hs.len
  have hnt : t.len = l.length := ht.len
  have g1 := Heap.gnew H (.cells (m.cells s) 26 false)
  have w1 := hw.new (.cells (m.cells s) 26 false)
  have y1 := Ext.new H (.cells (m.cells s) 26 false)
  show g3_p0 g9 g10 g11 g12 g13 g14 g15 g16 Bool m.k m.f m.t m.c m.n m.x m.u s t H (fun t1 t2_0 t2_1 t6 t7 t46 H => g3_p3 g9 g10 g11 g12 g13 g14 g15 g16 Bool t1 t2_0 t2_1 t6 t7 t46 H (fun r _ => some r)) (fun r _ => some r) = _
  unfold g3_p0 alo
  rw [show [V.i IntKind.u8 m.k, V.i IntKind.u32 m.f, V.i IntKind.u32 m.t, V.i IntKind.u8 m.c, V.i IntKind.u8 m.n, V.i IntKind.u8 m.x, V.i IntKind.u8 m.u, V.sl s] = m.cells s from rfl]
  simp only [Nat.zero_add]
  generalize hi : H.next = i at *
  generalize hG1 : H.new (.cells (m.cells s) 26 false) = G1 at *
  obtain ⟨a0, a1, a2, a3, a4, a5, a6, a7⟩ := ldM g1
  simp only [a0, a1, a2, a3, a4, a5, a6, a7, Option.bind_some, s9]
  by_cases h1 : m.d.length > 300
  · rw [decide_eq_true (by omega), sel_true]
  rw [decide_eq_false (by omega), sel_false]
  by_cases h2 : l.length > 300
  · rw [decide_eq_true (by omega), sel_true]
  rw [decide_eq_false (by omega), sel_false]
  obtain ⟨G2, e2, y2, w2⟩ := s10 w1 hm (s := s) hn
  have g2 := y2.get w1 g1
  obtain ⟨b0, b1, b2, b3, b4, b5, b6, b7⟩ := ldM g2
  have hs2 := hs.ext hw (y1.trans y2)
  obtain ⟨s2, G3, e3, bs3, cap3, y3, w3⟩ := s11 w2 hm hs2
  have g3' := y3.get w2 g2
  obtain ⟨c0, c1, c2, c3, c4, c5, c6, c7⟩ := ldM g3'
  have e4 := fun K => s12 (R := Bool) (H := G3) hm hn K
  have y4 := Ext.new G3 (.cells (m.cells s) 26 false)
  have w4 := w3.new (.cells (m.cells s) 26 false)
  have g4 := y4.get w3 g3'
  have yy4 : Ext H (G3.new (.cells (m.cells s) 26 false)) := ((y1.trans y2).trans y3).trans y4
  have bs4 := bs3.ext w3 y4
  rw [e2]
  simp only [b0, b1, b2, b3, b4, b5, b6, b7, Option.bind_some]
  rw [e3]
  simp only [c0, c1, c2, c3, c4, c5, c6, c7, Option.bind_some]
  rw [e4]
  generalize G3.new (.cells (m.cells s) 26 false) = G4 at *
  rw [show (m.ck != m.ck) = false from bne_self_eq_false _, sel_false, sel_false]
  have ht4 := ht.ext hw yy4
  have hs4 := hs.ext hw yy4
  obtain ⟨d0, d1, d2, d3, d4, d5, d6, d7⟩ := ldM g4
  have rest : g3_p3 g9 g10 g11 g12 g13 g14 g15 g16 Bool t i 0 s2 m.ck false G4 (fun r _ => some r) = some true := by
    unfold g3_p3 g3_p1
    rw [sel_false]
    by_cases hk : m.ck = 0
    · rw [if_pos hk] at bs4
      have gd : m.Gd ∧ m.d.length ≤ 200 := by
        unfold Cm.ck at hk
        split at hk
        · omega
        · split at hk
          · rename_i h; exact ⟨h, by omega⟩
          · omega
      obtain ⟨gd, hlen⟩ := gd
      have hf := hm.f; have htt := hm.t
      have f1 : m.f ≤ 8191 := gd.2.2.1
      have f2 : m.t ≤ 8191 := gd.2.2.2.1
      have ede : Cm.de m.enc = m := m.enc_de (by omega) (by omega)
      have bye : Byt m.enc := by
        refine Byt.append ?_ hm.d
        intro n hn
        simp only [Cm.hd, List.mem_cons, List.not_mem_nil, or_false] at hn
        have := hm.k; have := hm.c; have := hm.n; have := hm.x; have := hm.u
        rcases hn with rfl | rfl | rfl | rfl | rfl | rfl | rfl | rfl | rfl <;> omega
      have el := m.enc_len
      have edc : Cm.dec m.enc = (m, 0) := by
        unfold Cm.dec
        rw [if_neg (by rw [ede]; exact fun h => h.elim (fun h => by omega) (fun h => h hk)), ede]
      obtain ⟨s6, H5, e5, bs5, x5, w5⟩ := s13 w4 bs4 bye (by unfold CapOk; rw [cap3]; exact Nat.le_refl _) (by omega)
      rw [edc] at bs5 e5
      simp only at bs5 e5
      rw [hk, show ((0 : Int) == 0) = true from rfl, sel_true, e5]
      unfold alo
      rw [show [V.i IntKind.u8 0, V.i IntKind.u32 0, V.i IntKind.u32 0, V.i IntKind.u8 0, V.i IntKind.u8 0, V.i IntKind.u8 0, V.i IntKind.u8 0, V.sl (Sl.mk none 0 (.ex 0))] = Cm.zero.cells nilS from rfl]
      rw [show [V.i IntKind.u8 m.k, V.i IntKind.u32 m.f, V.i IntKind.u32 m.t, V.i IntKind.u8 m.c, V.i IntKind.u8 m.n, V.i IntKind.u8 m.x, V.i IntKind.u8 m.u, V.sl s6] = m.cells s6 from rfl]
      have g6 := Heap.gnew H5 (.cells (Cm.zero.cells nilS) 26 false)
      have w6 := w5.new (.cells (Cm.zero.cells nilS) 26 false)
      have p6 := sts_m (v := m) (t := s6) g6
      have gP := Heap.gput (H5.new (.cells (Cm.zero.cells nilS) 26 false)) H5.next (.cells (m.cells s6) 26 false)
      have wP := w6.put g6 (.cells (m.cells s6) 26 false)
      have x5P : Ext H5 ((H5.new (.cells (Cm.zero.cells nilS) 26 false)).put H5.next (.cells (m.cells s6) 26 false)) := (Ext.new H5 _).above (Nat.le_refl _) _
      have xP : Ext G4 ((H5.new (.cells (Cm.zero.cells nilS) 26 false)).put H5.next (.cells (m.cells s6) 26 false)) := x5.trans x5P
      have bsP := bs5.ext w5 x5P
      simp only [p6, Option.bind_some, Nat.zero_add]
      generalize H5.next = j at *
      generalize (H5.new (.cells (Cm.zero.cells nilS) 26 false)).put j (.cells (m.cells s6) 26 false) = P at *
      have giP := xP.get w4 g4
      obtain ⟨u0, u1, u2, u3, u4, u5, u6, u7⟩ := ldM giP
      have encP := bs4.ext w4 xP
      have hsP := hs4.ext w4 xP
      obtain ⟨Q, e14, x7, w7⟩ := s14 wP hm hsP (by omega)
      have encQ := encP.ext wP x7
      obtain ⟨v0, v1, v2, v3, v4, v5, v6, v7⟩ := ldM (x7.get wP gP)
      obtain ⟨z0, z1, z2, z3, z4, z5, z6, z7⟩ := ldM (x7.get wP giP)
      rw [slB encP, Option.bind_some]
      simp only [u0, u1, u2, u3, u4, u5, u6, u7, Option.bind_some]
      rw [e14, slB encQ, Option.bind_some, if_pos (same_s _), strEqU, decide_eq_true rfl, Bool.not_true, sel_false, cap3, capX, show (((s2.len : Nat) : Int) != ((s2.len : Nat) : Int)) = false from bne_self_eq_false _, sel_false, show ((0 : Int) != 0) = false from rfl, sel_false]
      simp only [v0, v1, v2, v3, v4, v5, v6, v7, z0, z1, z2, z3, z4, z5, z6, z7, Option.bind_some]
      rw [s15 w7 (a := m) (b := m) (s := s6) (t := s) (bsP.ext wP x7) (hsP.ext wP x7), Cm.same_self, Bool.not_true, sel_false]
      have x9 : Ext Q ((Q.new (.cells (m.cells s6) 26 false)).new (.cells (m.cells s) 26 false)) := (Ext.new _ _).trans (Ext.new _ _)
      have w9 := (w7.new (.cells (m.cells s6) 26 false)).new (.cells (m.cells s) 26 false)
      exact p2_law w9 (((ht4.ext w4 xP).ext wP x7).ext w7 x9) hb hc (by omega)
    · rw [show (m.ck == 0) = false by simpa using hk, sel_false]
      exact p2_law w4 ht4 hb hc (by omega)
  by_cases hk : m.ck = 0
  · rw [hk] at rest ⊢
    rw [show ((0 : Int) != 0) = false from rfl, sel_false]
    exact rest
  · rw [if_neg hk] at bs4
    have n2 : s2.len = 0 := bs4.len
    rw [show (m.ck != 0) = true by simpa using hk, sel_true, show decide (((s2.len : Nat) : Int) > 0) = false by rw [n2]; rfl]
    exact rest
end Go.Proofs.Ytnlfkllnmobppaa

