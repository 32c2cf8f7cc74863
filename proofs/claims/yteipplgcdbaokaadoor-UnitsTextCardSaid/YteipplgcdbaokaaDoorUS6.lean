/- UnitsCheck. -/
import Derived.Test.YteipplgcdbaokaaDoorUS5
namespace Go.Proofs.YteipplgcdbaokaaDoor
open Go AM Go.RowKit
set_option linter.unusedVariables false
set_option linter.unusedSimpArgs false

theorem strEqU (a b : List UInt8) : strEq (bsU a) (bsU b) = decide (a = b) := by
  unfold strEq
  rw [ByteArray.toList_eq, ByteArray.toList_eq]
  by_cases h : a = b
  · subst h; simp
  · rw [show decide (a = b) = false by simpa using h]
    exact beq_false_of_ne fun e => h (by simpa [bsU] using e)
theorem Un.text_ne {u : Un} (h : u.ck = 0) : u.text ≠ [] := by
  unfold Un.text
  rw [if_pos h]
  unfold Un.head
  simp
theorem ldU {H0 G : Heap} {i : Nat} {u : Un} {s : Sl} (hG : G.get i = some (.cells (u.cells s) 25 false)) : G.ldI .u8 i 0 = some u.b ∧ G.ldB i 1 = some u.bb ∧ G.ldI .u8 i 2 = some u.f ∧ G.ldB i 3 = some u.fb ∧ G.ldI .u8 i 4 = some u.k ∧ G.ldI .u8 i 5 = some u.st ∧ G.ldSl i 6 = some s :=
  ⟨ldI_of hG rfl, ldB_of hG rfl, ldI_of hG rfl, ldB_of hG rfl, ldI_of hG rfl, ldI_of hG rfl, ldSl_of hG rfl⟩
theorem unitsCheck_true (H : Heap) (hw : H.Wf) (x1 : Int) (x2 : Bool) (x3 : Int) (x4 : Bool) (x5 x6 : Int) (s : Sl) (k1 : (Lit.int .u8 x1).wf = true) (k3 : (Lit.int .u8 x3).wf = true) (k5 : (Lit.int .u8 x5).wf = true) (k6 : (Lit.int .u8 x6).wf = true) (k7 : ArgSl H [.i .u8] s) :
    g3 Bool x1 x2 x3 x4 x5 x6 s H (fun r _ => some r) = some true := by
  obtain ⟨l, hs, hb, hc, _, _⟩ := bs_of_arg k7
  obtain ⟨u, rfl, rfl, rfl, rfl, rfl, rfl, rfl⟩ : ∃ u : Un, u.b = x1 ∧ u.bb = x2 ∧ u.f = x3 ∧ u.fb = x4 ∧ u.k = x5 ∧ u.st = x6 ∧ u.ld = l := ⟨⟨x1, x2, x3, x4, x5, x6, l⟩, rfl, rfl, rfl, rfl, rfl, rfl, rfl⟩
  have hu : u.Ok := ⟨wfU8 k1, wfU8 k3, wfU8 k5, wfU8 k6, hb⟩
  have hn : s.len = u.ld.length := hs.len
  have g1 := Heap.gnew H (.cells (u.cells s) 25 false)
  have w1 := hw.new (.cells (u.cells s) 25 false)
  have x1 := Ext.new H (.cells (u.cells s) 25 false)
  obtain ⟨a0, a1, a2, a3, a4, a5, a6⟩ := ldU (H0 := H) g1
  have e9 := fun (R : Type) (H : Heap) K => @s9 R H s u hn K
  have e11 := fun (R : Type) (H : Heap) K => @s11 R H s u hn K
  have hs1 := hs.ext hw x1
  show g3_p0 g8 g9 g10 g11 g12 g14 g13 Bool u.b u.bb u.f u.fb u.k u.st s H _ = _
  unfold g3_p0 alo
  rw [show [V.i IntKind.u8 u.b, V.b u.bb, V.i IntKind.u8 u.f, V.b u.fb, V.i IntKind.u8 u.k, V.i IntKind.u8 u.st, V.sl s] = u.cells s from rfl]
  generalize hG1 : H.new (.cells (u.cells s) 25 false) = G1 at *
  simp only [Nat.zero_add, a0, a1, a2, a3, a4, a5, a6, Option.bind_some, selD, s8, e9]
  split
  · rfl
  rename_i hlen
  have x2 := Ext.new G1 (.cells (u.cells s) 25 false)
  have w2 := w1.new (.cells (u.cells s) 25 false)
  have hs2 := hs1.ext w1 x2
  obtain ⟨b0, b1, b2, b3, b4, b5, b6⟩ := ldU (H0 := H) (x2.get w1 g1)
  have g2 := x2.get w1 g1
  generalize hG2 : G1.new (.cells (u.cells s) 25 false) = G2 at *
  obtain ⟨s3, G3, e3, r3, c3, x3, w3⟩ := s10 w2 hu hs2 hc (by omega)
  have g3' := x3.get w2 g2
  obtain ⟨d0, d1, d2, d3, d4, d5, d6⟩ := ldU (H0 := H) g3'
  have hs3 := hs2.ext w2 x3
  have x4 := Ext.new G3 (.cells (u.cells s) 25 false)
  have w4 := w3.new (.cells (u.cells s) 25 false)
  have g4 := x4.get w3 g3'
  have hs4 := hs3.ext w3 x4
  have r4 := r3.ext w3 x4
  obtain ⟨f0, f1, f2, f3, f4, f5, f6⟩ := ldU (H0 := H) g4
  simp only [b0, b1, b2, b3, b4, b5, b6, Option.bind_some, e3, d0, d1, d2, d3, d4, d5, d6, e11]
  generalize hG4 : G3.new (.cells (u.cells s) 25 false) = G4 at *
  simp only [selN, if_true]
  by_cases hk : u.ck = 0
  · rw [if_pos hk] at r4
    obtain ⟨s5, G5, e5, r5, x5, w5⟩ := s14 w4 hu hk hs4
    have g5 := x5.get w4 g4
    obtain ⟨h0, h1, h2, h3, h4, h5, h6⟩ := ldU (H0 := H) g5
    obtain ⟨G6, e6, x6, w6⟩ := s12 w5 hu (hs4.ext w4 x5) (by omega)
    have hbs : u.enc.length ≤ 1000000 := by
      have := Un.rest_len (u := u)
      simp [Un.enc]; omega
    have ht : strEq (bsU u.text) str2 = false := by
      rw [show str2 = bsU [] from rfl, strEqU]
      simpa using Un.text_ne hk
    simp only [hk, if_true, f0, f1, f2, f3, f4, f5, f6, Option.bind_some, e5, s13 c3 (r4.ext w4 x5) r5 hbs, selE, h0, h1, h2, h3, h4, h5, h6, e6, ht, Bool.not_false, sel_true]
  · rw [if_neg hk] at r4
    have hl0 : s3.len = 0 := r4.len
    obtain ⟨G6, e6, x6, w6⟩ := s12 w4 hu hs4 (by omega)
    have ht : strEq (bsU u.text) str2 = true := by
      rw [show str2 = bsU [] from rfl, strEqU]
      simp [Un.text, hk]
    simp only [hk, if_false, hl0, selE, f0, f1, f2, f3, f4, f5, f6, Option.bind_some, e6, ht, sel_true]
    simp
end Go.Proofs.YteipplgcdbaokaaDoor

