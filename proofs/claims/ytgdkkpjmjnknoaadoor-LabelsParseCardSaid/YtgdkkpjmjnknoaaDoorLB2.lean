/- Labels: the order of links. -/
import Derived.Test.YtgdkkpjmjnknoaaDoorLB1
namespace Go.Proofs.YtgdkkpjmjnknoaaDoor
open Go AM Go.RowKit
set_option linter.unusedVariables false
set_option linter.unusedSimpArgs false

theorem same_u16 {a b : Int} : V.same (.i .u16 a) (.i .u16 b) = true ↔ a = b := by simp [V.same, V.same1]
theorem same_u8 {a b : Int} : V.same (.i .u8 a) (.i .u8 b) = true ↔ a = b := by simp [V.same, V.same1]
theorem s28 {H : Heap} (hw : H.Wf) (a b c a' b' c' : Int) : ∃ H', (∀ (R : Type) (K : Int → Heap → Option R), g28 R a b c a' b' c' H K = K (cmpL a b c a' b' c') H') ∧ Ext H H' ∧ H'.Wf := by
  have g1 := Heap.gnew H (oL a b c)
  have w1 := hw.new (oL a b c)
  have x1 := Ext.new H (oL a b c)
  have n1 : (H.new (oL a b c)).next = H.next + 1 := rfl
  simp only [g28, g28_r, g28_p0, alo]
  generalize H.new (oL a b c) = X at *
  have g2 := Heap.gnew X (oL a' b' c')
  have w2 := w1.new (oL a' b' c')
  have x2 := x1.trans (Ext.new X (oL a' b' c'))
  have g1' := (Ext.new X (oL a' b' c')).get w1 g1
  generalize X.new (oL a' b' c') = Y at *
  obtain ⟨l0, l1, l2⟩ := oL_ld g1'
  obtain ⟨m0, m1, m2⟩ := oL_ld g2
  have g3 := Heap.gnew Y (.cells [.i .i64 (cmpF a a'), .i .i64 (cmpF b b'), .i .i64 (cmpF c c')] 3 false)
  refine ⟨Y.new (.cells [.i .i64 (cmpF a a'), .i .i64 (cmpF b b'), .i .i64 (cmpF c c')] 3 false), fun R K => ?_, x2.trans (Ext.new _ _), w2.new _⟩
  simp only [Nat.zero_add, l0, m0, Option.bind_some, s36, l1, same_u16.2, m1, l2, same_u8.2, m2, s37, if_true, s35 g3]
  rfl
theorem cmpF_cases (a b : Int) : (a < b ∧ cmpF a b = -1) ∨ (a = b ∧ cmpF a b = 0) ∨ (b < a ∧ cmpF a b = 1) := by
  unfold cmpF
  rcases Int.lt_trichotomy a b with h | h | h
  · exact .inl ⟨h, if_pos h⟩
  · exact .inr (.inl ⟨h, by rw [if_neg (by omega), if_neg (by omega)]⟩)
  · exact .inr (.inr ⟨h, by rw [if_neg (by omega), if_pos h]⟩)
/-- the order, in words -/
theorem cmpL_lt {a b c a' b' c' : Int} : (cmpL a b c a' b' c' = -1 ∧ (a < a' ∨ a = a' ∧ (b < b' ∨ b = b' ∧ c < c'))) ∨ (cmpL a b c a' b' c' = 0 ∧ a = a' ∧ b = b' ∧ c = c') ∨ (cmpL a b c a' b' c' = 1 ∧ (a' < a ∨ a = a' ∧ (b' < b ∨ b = b' ∧ c' < c))) := by
  unfold cmpL
  rcases cmpF_cases a a' with ⟨h, e⟩ | ⟨h, e⟩ | ⟨h, e⟩
  · rw [e, if_pos (by omega)]; exact .inl ⟨rfl, .inl h⟩
  · rw [e, if_neg (by omega)]
    rcases cmpF_cases b b' with ⟨h2, e2⟩ | ⟨h2, e2⟩ | ⟨h2, e2⟩
    · rw [e2, if_pos (by omega)]; exact .inl ⟨rfl, .inr ⟨h, .inl h2⟩⟩
    · rw [e2, if_neg (by omega)]
      rcases cmpF_cases c c' with ⟨h3, e3⟩ | ⟨h3, e3⟩ | ⟨h3, e3⟩
      · rw [e3]; exact .inl ⟨rfl, .inr ⟨h, .inr ⟨h2, h3⟩⟩⟩
      · rw [e3]; exact .inr (.inl ⟨rfl, h, h2, h3⟩)
      · rw [e3]; exact .inr (.inr ⟨rfl, .inr ⟨h, .inr ⟨h2, h3⟩⟩⟩)
    · rw [e2, if_pos (by omega)]; exact .inr (.inr ⟨rfl, .inr ⟨h, .inl h2⟩⟩)
  · rw [e, if_pos (by omega)]; exact .inr (.inr ⟨rfl, .inl h⟩)
theorem labelsOrder_true (H : Heap) (hw : H.Wf) (a b c a' b' c' a2 b2 c2 : Int) (_ : (Lit.int .u16 a).wf = true) (_ : (Lit.int .u16 b).wf = true) (_ : (Lit.int .u8 c).wf = true) (_ : (Lit.int .u16 a').wf = true) (_ : (Lit.int .u16 b').wf = true) (_ : (Lit.int .u8 c').wf = true) (_ : (Lit.int .u16 a2).wf = true) (_ : (Lit.int .u16 b2).wf = true) (_ : (Lit.int .u8 c2).wf = true) :
    g10 Bool a b c a' b' c' a2 b2 c2 H (fun r _ => some r) = some true := by
  have p0 := Heap.gnew H (oL a b c)
  have w1 := hw.new (oL a b c)
  simp only [g10, g10_r, g10_p4, g10_p0, alo]
  have n1 : (H.new (oL a b c)).next = H.next + 1 := rfl
  generalize H.new (oL a b c) = X1 at *
  have p1 := Heap.gnew X1 (oL a' b' c')
  have w2 := w1.new (oL a' b' c')
  have p0' := (Ext.new X1 (oL a' b' c')).get w1 p0
  generalize X1.new (oL a' b' c') = X2 at *
  have p2 := Heap.gnew X2 (oL a2 b2 c2)
  have w3 := w2.new (oL a2 b2 c2)
  have p0'' := (Ext.new X2 (oL a2 b2 c2)).get w2 p0'
  have p1' := (Ext.new X2 (oL a2 b2 c2)).get w2 p1
  generalize X2.new (oL a2 b2 c2) = X3 at *
  obtain ⟨k0, k1, k2⟩ := oL_ld p0''
  obtain ⟨l0, l1, l2⟩ := oL_ld p1'
  obtain ⟨Y1, e1, x1, v1⟩ := s28 w3 a b c a' b' c'
  have q0 := x1.get w3 p0''
  have q1 := x1.get w3 p1'
  have q2 := x1.get w3 p2
  obtain ⟨m0, m1, m2⟩ := oL_ld q1
  obtain ⟨n0, n1', n2⟩ := oL_ld q2
  obtain ⟨Y2, e2, x2, v2⟩ := s28 v1 a' b' c' a2 b2 c2
  have r0 := x2.get v1 q0
  have r1 := x2.get v1 q1
  have r2 := x2.get v1 q2
  obtain ⟨i0, i1, i2⟩ := oL_ld r0
  obtain ⟨j0, j1, j2⟩ := oL_ld r1
  obtain ⟨Y3, e3, x3, v3⟩ := s28 v2 a' b' c' a b c
  have t0 := x3.get v2 r0
  have t2 := x3.get v2 r2
  obtain ⟨f0, f1, f2⟩ := oL_ld t0
  obtain ⟨h0, h1, h2⟩ := oL_ld t2
  obtain ⟨Y4, e4, x4, v4⟩ := s28 v3 a b c a2 b2 c2
  simp only [Nat.zero_add, k0, k1, k2, l0, l1, l2, Option.bind_some, e1, m0, m1, m2, n0, n1', n2, e2, i0, i1, i2, j0, j1, j2]
  have hneg : cmpL a' b' c' a b c = 0 - cmpL a b c a' b' c' := by
    rcases cmpL_lt (a := a) (b := b) (c := c) (a' := a') (b' := b') (c' := c') with ⟨s1, s2⟩ | ⟨s1, s2⟩ | ⟨s1, s2⟩ <;>
    rcases cmpL_lt (a := a') (b := b') (c := c') (a' := a) (b' := b) (c' := c) with ⟨t1, t2⟩ | ⟨t1, t2⟩ | ⟨t1, t2⟩ <;> omega
  have hlast : (g10_p2 g28 g12 Bool H.next 0 X1.next 0 X2.next 0 (cmpL a b c a' b' c') (cmpL a' b' c' a2 b2 c2) (cmpL a b c a' b' c') Y2 fun t6 H => some t6) = some true := by
    have hwr : IntKind.wrap .i64 (0 - cmpL a b c a' b' c') = cmpL a' b' c' a b c := by
      rw [w64 (by rcases cmpL_lt (a := a) (b := b) (c := c) (a' := a') (b' := b') (c' := c') with ⟨s1, s2⟩ | ⟨s1, s2⟩ | ⟨s1, s2⟩ <;> omega), hneg]
    simp only [g10_p2, beq_self_eq_true, sel_true, Nat.zero_add, i0, i1, i2, j0, j1, j2, Option.bind_some, e3, hwr, f0, f1, f2, h0, h1, h2, e4, lv]
    by_cases c1 : cmpL a b c a' b' c' > 0
    · rw [decide_eq_true c1, sel_true]
    · rw [decide_eq_false c1, sel_false]
      by_cases c2' : cmpL a' b' c' a2 b2 c2 > 0
      · rw [decide_eq_true c2', sel_true]
      · rw [decide_eq_false c2', sel_false]
        have : cmpL a b c a2 b2 c2 ≤ 0 := by
          rcases cmpL_lt (a := a) (b := b) (c := c) (a' := a') (b' := b') (c' := c') with ⟨s1, s2⟩ | ⟨s1, s2⟩ | ⟨s1, s2⟩ <;>
          rcases cmpL_lt (a := a') (b := b') (c := c') (a' := a2) (b' := b2) (c' := c2) with ⟨t1, t2⟩ | ⟨t1, t2⟩ | ⟨t1, t2⟩ <;>
          rcases cmpL_lt (a := a) (b := b) (c := c) (a' := a2) (b' := b2) (c' := c2) with ⟨u1, u2⟩ | ⟨u1, u2⟩ | ⟨u1, u2⟩ <;> omega
        rw [decide_eq_true this, sel_true]
  have hp : ∀ t : Bool, t = decide (a < a' ∨ a = a' ∧ (b < b' ∨ b = b' ∧ c < c')) → (g10_p3 g28 g12 Bool H.next 0 X1.next 0 X2.next 0 (cmpL a b c a' b' c') (cmpL a' b' c' a2 b2 c2) 0 t Y2 fun t6 H => some t6) = some true := by
    intro t ht
    subst ht
    rcases cmpL_lt (a := a) (b := b) (c := c) (a' := a') (b' := b') (c' := c') with ⟨s1, s2⟩ | ⟨s1, s2⟩ | ⟨s1, s2⟩
    · rw [decide_eq_true s2]
      rw [s1] at hlast ⊢
      simp only [g10_p3, g10_p1, sel_true]
      exact hlast
    · rw [decide_eq_false (by omega)]
      rw [s1] at hlast ⊢
      simp only [g10_p3, g10_p1, sel_false, Nat.zero_add, i0, i1, i2, j0, j1, j2, Option.bind_some, s2.1, s2.2.1, s2.2.2, beq_self_eq_true, Bool.and_self, Bool.not_true]
      exact hlast
    · rw [decide_eq_false (by omega)]
      rw [s1] at hlast ⊢
      have hne : ((a == a') && ((b == b') && ((c == c') && true))) = false := by
        by_cases z1 : a = a'
        · by_cases z2 : b = b'
          · have : ¬ c = c' := by omega
            simp [this]
          · simp [z2]
        · simp [z1]
      simp only [g10_p3, g10_p1, sel_false, Nat.zero_add, i0, i1, i2, j0, j1, j2, Option.bind_some, hne, Bool.not_false, sel_true]
      exact hlast
  by_cases z0 : a < a'
  · rw [decide_eq_true z0, sel_true]
    exact hp true (by simp [z0])
  · rw [decide_eq_false z0, sel_false]
    by_cases z1 : a = a'
    · rw [show (a == a') = true by simp [z1], sel_true]
      by_cases z2 : b < b'
      · rw [decide_eq_true z2, sel_true]
        exact hp true (by simp [z1, z2])
      · rw [decide_eq_false z2, sel_false]
        by_cases z3 : b = b'
        · rw [show (b == b') = true by simp [z3], sel_true]
          exact hp _ (by simp [z1, z3])
        · rw [show (b == b') = false by simp [z3], sel_false]
          exact hp false (by simp [z1, z2, z3])
    · rw [show (a == a') = false by simp [z1], sel_false]
      exact hp false (by simp [z0, z1])
end Go.Proofs.YtgdkkpjmjnknoaaDoor

