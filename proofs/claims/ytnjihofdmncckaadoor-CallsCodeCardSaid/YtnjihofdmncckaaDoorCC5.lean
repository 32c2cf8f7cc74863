/- CallsCode: the law. -/
import Derived.Test.YtnjihofdmncckaaDoorCC4
namespace Go.Proofs.YtnjihofdmncckaaDoor
open Go AM Go.RowKit
set_option linter.unusedVariables false
set_option linter.unusedSimpArgs false

theorem capX (c : Nat) {R : Type} (K : Nat → Option R) : capK (.ex c) K = K c := rfl
/-- a message is laid into a new block -/
theorem lay {G : Heap} (hw : G.Wf) (m : Ca) : (G.new (.cells Ca.zero.cells 24 false)).sts G.next 0 m.cells = some ((G.new (.cells Ca.zero.cells 24 false)).put G.next (.cells m.cells 24 false)) ∧ Ext G ((G.new (.cells Ca.zero.cells 24 false)).put G.next (.cells m.cells 24 false)) ∧ ((G.new (.cells Ca.zero.cells 24 false)).put G.next (.cells m.cells 24 false)).Wf :=
  ⟨sts_c (Heap.gnew _ _), (Ext.new G _).above (Nat.le_refl _) _, (hw.new _).put (Heap.gnew _ _) _⟩
theorem p2_law {G : Heap} (hw : G.Wf) {t : Sl} {l : List Int} (ht : BS G t l) (hb : Byt l) (hc : CapOk t) (hl : l.length ≤ 60) : (g3_p2 g5 g6 g7 g8 Bool t G fun r _ => some r) = some true := by
  obtain ⟨H5, e5, x5, w5⟩ := s8 hw ht hb hc (by omega)
  obtain ⟨p6, x6, w6⟩ := lay w5 ((Ca.de l).getD .zero)
  unfold g3_p2
  rw [e5]
  unfold alo
  rw [zc, show [V.i IntKind.u8 ((Ca.de l).getD Ca.zero).k, V.i IntKind.i64 ((Ca.de l).getD Ca.zero).c, V.s (bsU ((Ca.de l).getD Ca.zero).a), V.s (bsU ((Ca.de l).getD Ca.zero).b), V.i IntKind.u8 ((Ca.de l).getD Ca.zero).u] = ((Ca.de l).getD Ca.zero).cells from rfl]
  have gP := Heap.gput (H5.new (.cells Ca.zero.cells 24 false)) H5.next (.cells ((Ca.de l).getD .zero).cells 24 false)
  have xP : Ext G ((H5.new (.cells Ca.zero.cells 24 false)).put H5.next (.cells ((Ca.de l).getD .zero).cells 24 false)) := x5.trans x6
  simp only [p6, Option.bind_some, Nat.zero_add]
  generalize H5.next = i at *
  generalize (H5.new (.cells Ca.zero.cells 24 false)).put i (.cells ((Ca.de l).getD .zero).cells 24 false) = P at *
  obtain ⟨a0, a1, a2, a3, a4⟩ := ldC' gP
  simp only [a0, a1, a2, a3, a4, Option.bind_some]
  cases hd : Ca.de l with
  | none =>
    rw [show (if (none : Option Ca).isSome = true then (0 : Int) else 4) = 4 from rfl, show ((4 : Int) != 0) = true from rfl, sel_true, show ((4 : Int) == 4) = true from rfl, sel_true]
    rw [show (none : Option Ca).getD Ca.zero = Ca.zero from rfl]
    rw [show ((Ca.zero.k == 0) && ((Ca.zero.c == 0) && ((strEq (bsU Ca.zero.a) str0) && ((strEq (bsU Ca.zero.b) str0) && ((Ca.zero.u == 0) && true))))) = true by
      rw [strE, strE]; rfl]
    rw [sel_true, s5]
  | some m =>
    obtain ⟨ok, en, hm⟩ := de_some hb hd
    rw [show (if (some m : Option Ca).isSome = true then (0 : Int) else 4) = 0 from rfl, show ((0 : Int) != 0) = false from rfl, sel_false]
    rw [show (some m : Option Ca).getD Ca.zero = m from rfl]
    obtain ⟨s7, H7, e7, b7, c7, x7, w7⟩ := s6 w6 hm
    rw [if_pos ok] at b7
    have ht7 := (ht.ext hw xP).ext w6 x7
    rw [e7, if_pos ok, show ((0 : Int) == 0) = true from rfl, sel_true, slB b7, Option.bind_some, slB ht7, Option.bind_some, strEqU, en, decide_eq_true rfl, sel_true, s5]
theorem code_true (H : Heap) (hw : H.Wf) (m : Ca) (hm : m.Ok) (t : Sl) (k6 : ArgSl H [.i .u8] t) : g3 Bool m.k m.c (bsU m.a) (bsU m.b) m.u t H (fun r _ => some r) = some true := by
  obtain ⟨l, ht, hb, hc, _, _⟩ := bs_of_arg k6
  have hnt : t.len = l.length := ht.len
  have g1 := Heap.gnew H (.cells m.cells 24 false)
  have w1 := hw.new (.cells m.cells 24 false)
  have y1 := Ext.new H (.cells m.cells 24 false)
  show g3_p0 g5 g6 g7 g8 Bool m.k m.c (bsU m.a) (bsU m.b) m.u t H (fun t1 t2_0 t2_1 t5 t6 t43 H => g3_p3 g5 g6 g7 g8 Bool t1 t2_0 t2_1 t5 t6 t43 H (fun r _ => some r)) (fun r _ => some r) = _
  unfold g3_p0 alo
  rw [show [V.i IntKind.u8 m.k, V.i IntKind.i64 m.c, V.s (bsU m.a), V.s (bsU m.b), V.i IntKind.u8 m.u] = m.cells from rfl]
  simp only [Nat.zero_add]
  generalize hi : H.next = i at *
  generalize hG1 : H.new (.cells m.cells 24 false) = G1 at *
  obtain ⟨a0, a1, a2, a3, a4⟩ := ldC' g1
  by_cases h1 : l.length > 60
  · rw [decide_eq_true (by omega), sel_true, s5]
  rw [decide_eq_false (by omega), sel_false]
  obtain ⟨s2, G2, e2, bs2, cap2, y2, w2⟩ := s6 w1 hm
  have g2 := y2.get w1 g1
  obtain ⟨b0, b1, b2, b3, b4⟩ := ldC' g2
  simp only [a0, a1, a2, a3, a4, Option.bind_some]
  rw [e2]
  simp only [b0, b1, b2, b3, b4, Option.bind_some]
  rw [s7]
  have y3 := Ext.new G2 (.cells m.cells 24 false)
  have w3 := w2.new (.cells m.cells 24 false)
  have g3' := y3.get w2 g2
  have yy : Ext H (G2.new (.cells m.cells 24 false)) := (y1.trans y2).trans y3
  have bs3 := bs2.ext w2 y3
  have ht3 := ht.ext hw yy
  generalize G2.new (.cells m.cells 24 false) = G3 at *
  have h2 := p2_law w3 ht3 hb hc (by omega)
  by_cases hk : m.ok = true
  · rw [if_pos hk] at bs3 ⊢
    rw [hk, show (!(((0 : Int) == 0) == true)) = false from rfl, sel_false, show ((0 : Int) != 0) = false from rfl, sel_false]
    unfold g3_p3 g3_p1
    have hl := enc_len hk
    have hn2 : s2.len = m.enc.length := bs3.len
    have hby := enc_byt hm hk
    have hc2 : CapOk s2 := by unfold CapOk; rw [cap2]; exact Nat.le_refl _
    rw [sel_false, show ((0 : Int) == 0) = true from rfl, sel_true, show (((s2.len : Nat) : Int) == 0) = false by simp; omega, sel_false, sel_true]
    -- the bytes
    obtain ⟨G4, e4, x4, w4⟩ := s8 w3 bs3 hby hc2 (by omega)
    rw [de_enc hk] at e4
    simp only [Option.getD_some, Option.isSome_some, if_true] at e4
    obtain ⟨p5, x5, w5⟩ := lay w4 m
    have gj := Heap.gput (G4.new (.cells Ca.zero.cells 24 false)) G4.next (.cells m.cells 24 false)
    have x45 : Ext G3 ((G4.new (.cells Ca.zero.cells 24 false)).put G4.next (.cells m.cells 24 false)) := x4.trans x5
    rw [e4]
    simp only [alo, zc, Nat.zero_add]
    rw [show [V.i IntKind.u8 m.k, V.i IntKind.i64 m.c, V.s (bsU m.a), V.s (bsU m.b), V.i IntKind.u8 m.u] = m.cells from rfl, p5, Option.bind_some]
    generalize hj : G4.next = j at *
    generalize (G4.new (.cells Ca.zero.cells 24 false)).put j (.cells m.cells 24 false) = G5 at *
    have bs5 := bs3.ext w3 x45
    -- and one more
    rw [bs5.is, Option.bind_some, hn2]
    have ap := fun (K : Sl → Heap → Option Bool) => appendV_nil (H := G5) (e := 5) (n := m.enc.length) (R := Bool) (by omega) (by omega) K (bcs m.enc)
    rw [ap]
    have o6 : OS G5 (G5.new (.cells (bcs m.enc) 5 false)) 5 ⟨some (G5.next, 0), m.enc.length, .op 1⟩ m.enc G5.next := OS.make w5 (.refl _ _) (.inr rfl)
    obtain ⟨s7', G7, q7, e7, o7, _⟩ := o6.push 0 (by omega)
    rw [e7]
    have x7 : Ext G5 G7 := o7.ext
    obtain ⟨G8, e8, x8, w8⟩ := s8 o7.wf o7.bs (hby.append (fun n hn => by simp at hn; omega)) o7.capOk (by simp; omega)
    rw [de_more hk] at e8
    simp only [Option.getD_none, Option.isSome_none, Bool.false_eq_true, if_false] at e8
    rw [e8]
    obtain ⟨p9, x9, w9⟩ := lay w8 .zero
    rw [show [V.i IntKind.u8 Ca.zero.k, V.i IntKind.i64 Ca.zero.c, V.s (bsU Ca.zero.a), V.s (bsU Ca.zero.b), V.i IntKind.u8 Ca.zero.u] = Ca.zero.cells from rfl, p9, Option.bind_some]
    have x59 : Ext G5 ((G8.new (.cells Ca.zero.cells 24 false)).put G8.next (.cells Ca.zero.cells 24 false)) := (x7.trans x8).trans x9
    generalize (G8.new (.cells Ca.zero.cells 24 false)).put G8.next (.cells Ca.zero.cells 24 false) = G9 at *
    -- and one less
    have bs9 := bs5.ext w5 x59
    obtain ⟨s10, e10, b10, c10, _⟩ := slOf_to hc2 bs9 (k := m.enc.length - 1) (by omega)
    have ew : IntKind.wrap .i64 (((m.enc.length : Nat) : Int) - 1) = ((m.enc.length - 1 : Nat) : Int) := by rw [w64 (by omega)]; omega
    rw [ew, e10]
    obtain ⟨G11, e11, x11, w11⟩ := s8 w9 b10 (hby.take _) c10 (by simp; omega)
    rw [de_less hk] at e11
    simp only [Option.getD_none, Option.isSome_none, Bool.false_eq_true, if_false] at e11
    rw [e11]
    obtain ⟨p12, x12, w12⟩ := lay w11 .zero
    rw [show [V.i IntKind.u8 Ca.zero.k, V.i IntKind.i64 Ca.zero.c, V.s (bsU Ca.zero.a), V.s (bsU Ca.zero.b), V.i IntKind.u8 Ca.zero.u] = Ca.zero.cells from rfl, p12, Option.bind_some]
    have x512 : Ext G5 ((G11.new (.cells Ca.zero.cells 24 false)).put G11.next (.cells Ca.zero.cells 24 false)) := (x59.trans x11).trans x12
    generalize (G11.new (.cells Ca.zero.cells 24 false)).put G11.next (.cells Ca.zero.cells 24 false) = G12 at *
    obtain ⟨u0, u1, u2, u3, u4⟩ := ldC' (x512.get w5 gj)
    obtain ⟨v0, v1, v2, v3, v4⟩ := ldC' (x512.get w5 (x45.get w3 g3'))
    have bcap : s2.cap = .ex m.enc.length := by rw [cap2, hn2]
    simp only [u0, u1, u2, u3, u4, v0, v1, v2, v3, v4, Option.bind_some, bne_self_eq_false, beq_self_eq_true, strEqU, decide_true, Bool.and_true, Bool.not_true, sel_false, bcap, capX]
    exact p2_law w12 ((ht3.ext w3 x45).ext w5 x512) hb hc (by omega)
  · rw [if_neg hk] at bs3 ⊢
    have hkf : m.ok = false := by simpa using hk
    have n2 : s2.len = 0 := bs3.len
    rw [hkf, show (!(((1 : Int) == 0) == false)) = false from rfl, sel_false, show ((1 : Int) != 0) = true from rfl, sel_true, show ((1 : Int) != 1) = false from rfl, sel_false, n2, show (((0 : Nat) : Int) != 0) = false from rfl]
    unfold g3_p3 g3_p1
    rw [sel_false, show ((1 : Int) == 0) = false from rfl, sel_false, sel_false]
    exact h2
theorem callsCode_true (H : Heap) (hw : H.Wf) (x1 x2 : Int) (x3 x4 : ByteArray) (x5 : Int) (t : Sl) (k1 : (Lit.int .u8 x1).wf = true) (k2 : (Lit.int .i64 x2).wf = true) (k3 : x3.size ≤ reachBytes) (k4 : x4.size ≤ reachBytes) (k5 : (Lit.int .u8 x5).wf = true) (k6 : ArgSl H [.i .u8] t) : g3 Bool x1 x2 x3 x4 x5 t H (fun r _ => some r) = some true := by
  rw [bsU_of x3, bsU_of x4]
  exact code_true H hw ⟨x1, x2, x3.data.toList, x4.data.toList, x5⟩ ⟨wfU8 k1, wfU8 k5⟩ t k6
end Go.Proofs.YtnjihofdmncckaaDoor

