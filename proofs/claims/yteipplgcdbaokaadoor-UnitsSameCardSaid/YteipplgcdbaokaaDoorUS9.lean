/- UnitsSame: the law. -/
import Derived.Test.YteipplgcdbaokaaDoorUS7
namespace Go.Proofs.YteipplgcdbaokaaDoor
open Go AM Go.RowKit
set_option linter.unusedVariables false
set_option linter.unusedSimpArgs false

set_option maxHeartbeats 1000000 in
theorem unitsSame_true (H : Heap) (hw : H.Wf) (x1 : Int) (x2 : Bool) (x3 : Int) (x4 : Bool) (x5 x6 : Int) (s : Sl) (y1 : Int) (y2 : Bool) (y3 : Int) (y4 : Bool) (y5 y6 : Int) (t : Sl)
    (k1 : (Lit.int .u8 x1).wf = true) (k3 : (Lit.int .u8 x3).wf = true) (k5 : (Lit.int .u8 x5).wf = true) (k6 : (Lit.int .u8 x6).wf = true) (k7 : ArgSl H [.i .u8] s)
    (j1 : (Lit.int .u8 y1).wf = true) (j3 : (Lit.int .u8 y3).wf = true) (j5 : (Lit.int .u8 y5).wf = true) (j6 : (Lit.int .u8 y6).wf = true) (j7 : ArgSl H [.i .u8] t) :
    g5 Bool x1 x2 x3 x4 x5 x6 s y1 y2 y3 y4 y5 y6 t H (fun r _ => some r) = some true := by
  obtain ⟨l, hs, hbl, hc, _, _⟩ := bs_of_arg k7
  obtain ⟨m, ht, hbm, hd, _, _⟩ := bs_of_arg j7
  obtain ⟨a, rfl, rfl, rfl, rfl, rfl, rfl, rfl⟩ : ∃ u : Un, u.b = x1 ∧ u.bb = x2 ∧ u.f = x3 ∧ u.fb = x4 ∧ u.k = x5 ∧ u.st = x6 ∧ u.ld = l := ⟨⟨x1, x2, x3, x4, x5, x6, l⟩, rfl, rfl, rfl, rfl, rfl, rfl, rfl⟩
  obtain ⟨b, rfl, rfl, rfl, rfl, rfl, rfl, rfl⟩ : ∃ u : Un, u.b = y1 ∧ u.bb = y2 ∧ u.f = y3 ∧ u.fb = y4 ∧ u.k = y5 ∧ u.st = y6 ∧ u.ld = m := ⟨⟨y1, y2, y3, y4, y5, y6, m⟩, rfl, rfl, rfl, rfl, rfl, rfl, rfl⟩
  have ua : a.Ok := ⟨wfU8 k1, wfU8 k3, wfU8 k5, wfU8 k6, hbl⟩
  have ub : b.Ok := ⟨wfU8 j1, wfU8 j3, wfU8 j5, wfU8 j6, hbm⟩
  have na : s.len = a.ld.length := hs.len
  have nb : t.len = b.ld.length := ht.len
  have g1 := Heap.gnew H (.cells (a.cells s) 25 false)
  have w1 := hw.new (.cells (a.cells s) 25 false)
  have x1 := Ext.new H (.cells (a.cells s) 25 false)
  have x2 := Ext.new (H.new (.cells (a.cells s) 25 false)) (.cells (b.cells t) 25 false)
  have w2 := w1.new (.cells (b.cells t) 25 false)
  have ga2 := x2.get w1 g1
  have gb2 := Heap.gnew (H.new (.cells (a.cells s) 25 false)) (.cells (b.cells t) 25 false)
  have hs2 := hs.ext hw (x1.trans x2)
  have ht2 := ht.ext hw (x1.trans x2)
  show g5_p6 g8 g18 g16 g9 g12 Bool a.b a.bb a.f a.fb a.k a.st s b.b b.bb b.f b.fb b.k b.st t H _ = _
  unfold g5_p6 g5_p0 alo
  rw [show [V.i IntKind.u8 a.b, V.b a.bb, V.i IntKind.u8 a.f, V.b a.fb, V.i IntKind.u8 a.k, V.i IntKind.u8 a.st, V.sl s] = a.cells s from rfl, show [V.i IntKind.u8 b.b, V.b b.bb, V.i IntKind.u8 b.f, V.b b.fb, V.i IntKind.u8 b.k, V.i IntKind.u8 b.st, V.sl t] = b.cells t from rfl]
  simp only [Nat.zero_add]
  generalize hi : H.next = i at *
  generalize hj : (H.new (.cells (a.cells s) 25 false)).next = j at *
  generalize hG2 : (H.new (.cells (a.cells s) 25 false)).new (.cells (b.cells t) 25 false) = G2 at *
  obtain ⟨a0, a1, a2, a3, a4, a5, a6⟩ := ldU (H0 := H) ga2
  obtain ⟨b0, b1, b2, b3, b4, b5, b6⟩ := ldU (H0 := H) gb2
  simp only [Nat.zero_add, a0, a1, a2, a3, a4, a5, a6, b0, b1, b2, b3, b4, b5, b6, Option.bind_some, selD, s8]
  split
  · rfl
  split
  · rfl
  rename_i hla hlb
  obtain ⟨G3, e3, x3, w3⟩ := s18 w2 hs2 ht2 (by omega)
  have ga3 := x3.get w2 ga2; have gb3 := x3.get w2 gb2
  obtain ⟨c0, c1, c2, c3, c4, c5, c6⟩ := ldU (H0 := H) ga3
  obtain ⟨d0, d1, d2, d3, d4, d5, d6⟩ := ldU (H0 := H) gb3
  obtain ⟨G4, e4, x4, w4⟩ := s16 w3 (hs2.ext w2 x3) (ht2.ext w2 x3) (by omega)
  have ga4 := x4.get w3 ga3; have gb4 := x4.get w3 gb3
  have hs4 := hs2.ext w2 (x3.trans x4); have ht4 := ht2.ext w2 (x3.trans x4)
  obtain ⟨f0, f1, f2, f3, f4, f5, f6⟩ := ldU (H0 := H) ga4
  obtain ⟨G5, e5, x5, w5⟩ := s18 w4 hs4 hs4 (by omega)
  have ga5 := x5.get w4 ga4; have gb5 := x5.get w4 gb4
  have hs5 := hs4.ext w4 x5; have ht5 := ht4.ext w4 x5
  simp only [e3, c0, c1, c2, c3, c4, c5, c6, d0, d1, d2, d3, d4, d5, d6, Option.bind_some, same_cells, if_true, e4, beq_self_eq_true, Bool.not_true, sel_false, f0, f1, f2, f3, f4, f5, f6, e5, sameU_refl, g5_p5, g5_p1, g5_p4, g5_p2, g5_p3, Nat.zero_add]
  obtain ⟨h0, h1, h2, h3, h4, h5, h6⟩ := ldU (H0 := H) ga5
  have e9a := fun (R : Type) (H : Heap) K => @s9 R H s a na K
  have e9b := fun (R : Type) (H : Heap) K => @s9 R H t b nb K
  have x6 := Ext.new G5 (.cells (a.cells s) 25 false)
  have w6 := w5.new (.cells (a.cells s) 25 false)
  have ga6 := x6.get w5 ga5; have gb6 := x6.get w5 gb5
  obtain ⟨i0, i1, i2, i3, i4, i5, i6⟩ := ldU (H0 := H) gb6
  have x7 := Ext.new (G5.new (.cells (a.cells s) 25 false)) (.cells (b.cells t) 25 false)
  have w7 := w6.new (.cells (b.cells t) 25 false)
  have ga7 := x7.get w6 ga6; have gb7 := x7.get w6 gb6
  have hs7 := hs5.ext w5 (x6.trans x7); have ht7 := ht5.ext w5 (x6.trans x7)
  simp only [h0, h1, h2, h3, h4, h5, h6, Option.bind_some]
  rw [e9a]
  by_cases ca : a.ck = 0
  · rw [ca, show ((0 : Int) != 0) = false from rfl, sel_false]
    simp only [i0, i1, i2, i3, i4, i5, i6, Option.bind_some]
    rw [e9b]
    by_cases cb : b.ck = 0
    · rw [cb, show ((0 : Int) != 0) = false from rfl, sel_false]
      generalize hG7 : (G5.new (.cells (a.cells s) 25 false)).new (.cells (b.cells t) 25 false) = G7 at *
      obtain ⟨j0, j1, j2, j3, j4, j5, j6⟩ := ldU (H0 := H) ga7
      obtain ⟨k0, k1, k2, k3, k4, k5, k6⟩ := ldU (H0 := H) gb7
      obtain ⟨G8, e8, x8, w8⟩ := s12 w7 ua hs7 (by omega)
      have ga8 := x8.get w7 ga7; have gb8 := x8.get w7 gb7
      obtain ⟨l0, l1, l2, l3, l4, l5, l6⟩ := ldU (H0 := H) ga8
      obtain ⟨m0, m1, m2, m3, m4, m5, m6⟩ := ldU (H0 := H) gb8
      have hs8 := hs7.ext w7 x8; have ht8 := ht7.ext w7 x8
      obtain ⟨G9, e9, x9, w9⟩ := s12 w8 ub ht8 (by omega)
      have ga9 := x9.get w8 ga8; have gb9 := x9.get w8 gb8
      obtain ⟨n0, n1, n2, n3, n4, n5, n6⟩ := ldU (H0 := H) ga9
      obtain ⟨o0, o1, o2, o3, o4, o5, o6⟩ := ldU (H0 := H) gb9
      obtain ⟨G10, e10, x10, w10⟩ := s16 w9 (hs8.ext w8 x9) (ht8.ext w8 x9) (by omega)
      have hq : (strEq (bsU a.text) (bsU b.text) == sameU a b) = true := by
        rw [strEqU]
        by_cases hab : a = b
        · subst hab; simp [sameU_refl]
        · have h1 : sameU a b = false := by
            cases hx : sameU a b
            · rfl
            · exact absurd ((sameU_iff a b).1 hx) hab
          have h2 : decide (a.text = b.text) = false := by simpa using fun e => hab (Un.text_inj ua ub ca cb e)
          rw [h1, h2]; rfl
      simp only [j0, j1, j2, j3, j4, j5, j6, k0, k1, k2, k3, k4, k5, k6, l0, l1, l2, l3, l4, l5, l6, m0, m1, m2, m3, m4, m5, m6, n0, n1, n2, n3, n4, n5, n6, o0, o1, o2, o3, o4, o5, o6, Option.bind_some, e8, e9, same_cells, if_true, e10, hq, sel_true, s8]
    · rw [show (b.ck != 0) = true by simpa using cb, sel_true, s8]
  · rw [show (a.ck != 0) = true by simpa using ca, sel_true, s8]
end Go.Proofs.YteipplgcdbaokaaDoor

