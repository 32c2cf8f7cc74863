/- Connections: Decode. -/
import Derived.Test.YtnlfkllnmobppaaCB3
namespace Go.Proofs.Ytnlfkllnmobppaa
open Go AM Go.RowKit
set_option linter.unusedVariables false
set_option linter.unusedSimpArgs false

theorem AM.CopyOf.keep {H H' : Heap} {e : TypeId} {s' : Sl} {l : List Int} (h : CopyOf H H' e s' l) {H'' : Heap} (hf : ∀ id o, H.next ≤ id → H'.get id = some o → H''.get id = some o) : BS H'' ⟨s'.a, s'.len, .ex s'.len⟩ l := by
  rcases h.own with e | ⟨id', e1, e2, e3⟩
  · subst e
    have hl4 : s'.len = 0 := by have := h.bs.len; simpa using this
    rw [hl4]
    exact ⟨rfl, by simp [slCells]⟩
  · refine (h.bs.clipped).mono fun id off o hid ho => ?_
    have hid' : s'.a = some (id, off) := hid
    rw [e1] at hid'; cases hid'
    exact hf _ _ e2 ho
open Classical in
noncomputable def Cm.dec (l : List Int) : Cm × Int := if l.length < 9 ∨ (Cm.de l).ck ≠ 0 then (.zero, 4) else (Cm.de l, 0)
theorem s36 {H : Heap} (hw : H.Wf) {s : Sl} {l : List Int} (h : BS H s l) (hl : l.length ≤ 140737488355328) :
    ∃ s' H', (∀ (R : Type) (K : Sl → Heap → Option R), g36 R s H K = K ⟨s'.a, s'.len, .ex s'.len⟩ H') ∧ CopyOf H H' 5 s' l := by
  obtain ⟨s', H', e, c⟩ := clone_ok hw h hl
  refine ⟨s', H', fun R K => ?_, c⟩
  simp only [g36, g36_r, g36_p0, e, clip_ok c.cap]
theorem sts_m {H : Heap} {i : Nat} {u v : Cm} {s t : Sl} (h : H.get i = some (.cells (u.cells s) 26 false)) : H.sts i 0 (v.cells t) = some (H.put i (.cells (v.cells t) 26 false)) := by
  rw [sts_of h (by simp [Cm.cells]) (by simp [Cm.cells, V.one])]
  rfl
theorem s13 {H : Heap} (hw : H.Wf) {t : Sl} {l : List Int} (h : BS H t l) (hb : Byt l) (hc : CapOk t) (hm : l.length ≤ 100000) :
    ∃ s' H', (∀ (R : Type) (K : Int → Int → Int → Int → Int → Int → Int → Sl → Int → Heap → Option R), g13 R t H K = K (Cm.dec l).1.k (Cm.dec l).1.f (Cm.dec l).1.t (Cm.dec l).1.c (Cm.dec l).1.n (Cm.dec l).1.x (Cm.dec l).1.u s' (Cm.dec l).2 H') ∧ BS H' s' (Cm.dec l).1.d ∧ Ext H H' ∧ H'.Wf := by
  have hn : t.len = l.length := h.len
  have g1 := Heap.gnew H (.cells (Cm.zero.cells nilS) 26 false)
  have w1 := hw.new (.cells (Cm.zero.cells nilS) 26 false)
  have x1 := Ext.new H (.cells (Cm.zero.cells nilS) 26 false)
  have hd : ∀ (R : Type) (K : Int → Int → Int → Int → Int → Int → Int → Sl → Int → Heap → Option R), g13 R t H K = g13_p0 g36 g12 R t H (fun t2_0 t2_1 t4_0 t4_1 H => g13_p1 g36 g12 R t2_0 t2_1 t4_0 t4_1 H fun t2_0 t2_1 t3 G => (G.ldI .u8 t2_0 (t2_1 + 0)).bind fun x0 => (G.ldI .u32 t2_0 (t2_1 + 1)).bind fun x1 => (G.ldI .u32 t2_0 (t2_1 + 2)).bind fun x2 => (G.ldI .u8 t2_0 (t2_1 + 3)).bind fun x3 => (G.ldI .u8 t2_0 (t2_1 + 4)).bind fun x4 => (G.ldI .u8 t2_0 (t2_1 + 5)).bind fun x5 => (G.ldI .u8 t2_0 (t2_1 + 6)).bind fun x6 => (G.ldSl t2_0 (t2_1 + 7)).bind fun x7 => K x0 x1 x2 x3 x4 x5 x6 x7 t3 G) (fun t2_0 t2_1 t3 G => (G.ldI .u8 t2_0 (t2_1 + 0)).bind fun x0 => (G.ldI .u32 t2_0 (t2_1 + 1)).bind fun x1 => (G.ldI .u32 t2_0 (t2_1 + 2)).bind fun x2 => (G.ldI .u8 t2_0 (t2_1 + 3)).bind fun x3 => (G.ldI .u8 t2_0 (t2_1 + 4)).bind fun x4 => (G.ldI .u8 t2_0 (t2_1 + 5)).bind fun x5 => (G.ldI .u8 t2_0 (t2_1 + 6)).bind fun x6 => (G.ldSl t2_0 (t2_1 + 7)).bind fun x7 => K x0 x1 x2 x3 x4 x5 x6 x7 t3 G) := fun _ _ => rfl
  generalize hi : H.next = i at *
  have fin : ∀ {R : Type} (K : Int → Int → Int → Int → Int → Int → Int → Sl → Int → Heap → Option R) (G : Heap) (u : Cm) (s : Sl) (e : Int), G.get i = some (.cells (u.cells s) 26 false) →
      ((G.ldI .u8 i (0 + 0)).bind fun x0 => (G.ldI .u32 i (0 + 1)).bind fun x1 => (G.ldI .u32 i (0 + 2)).bind fun x2 => (G.ldI .u8 i (0 + 3)).bind fun x3 => (G.ldI .u8 i (0 + 4)).bind fun x4 => (G.ldI .u8 i (0 + 5)).bind fun x5 => (G.ldI .u8 i (0 + 6)).bind fun x6 => (G.ldSl i (0 + 7)).bind fun x7 => K x0 x1 x2 x3 x4 x5 x6 x7 e G) = K u.k u.f u.t u.c u.n u.x u.u s e G := by
    intro R K G u s e hG
    obtain ⟨a0, a1, a2, a3, a4, a5, a6, a7⟩ := ldM hG
    simp only [Nat.zero_add, a0, a1, a2, a3, a4, a5, a6, a7, Option.bind_some]
  generalize hG1 : H.new (.cells (Cm.zero.cells nilS) 26 false) = G1 at *
  have hz : [V.i IntKind.u8 0, V.i IntKind.u32 0, V.i IntKind.u32 0, V.i IntKind.u8 0, V.i IntKind.u8 0, V.i IntKind.u8 0, V.i IntKind.u8 0, V.sl (Sl.mk none 0 (.ex 0))] = Cm.zero.cells nilS := rfl
  by_cases c1 : l.length < 9
  · have ed : Cm.dec l = (.zero, 4) := by unfold Cm.dec; rw [if_pos (.inl c1)]
    rw [ed]
    refine ⟨nilS, G1.put i (.cells (Cm.zero.cells nilS) 26 false), fun R K => ?_, .nil _, x1.above (by omega) _, w1.put g1 _⟩
    rw [hd]
    unfold g13_p0 alo
    rw [hz]
    simp only [hi, hG1]
    rw [decide_eq_true (by omega), sel_true, sts_m g1, Option.bind_some]
    exact fin K _ .zero nilS 4 (Heap.gput _ _ _)
  have hl0 : l ≠ [] := by intro e; rw [e] at c1; simp at c1
  have g2 := Heap.gnew G1 (.cells (Cm.zero.cells nilS) 26 false)
  have w2 := w1.new (.cells (Cm.zero.cells nilS) 26 false)
  have x12 := Ext.new G1 (.cells (Cm.zero.cells nilS) 26 false)
  have gi2 := x12.get w1 g1
  have x2 : Ext H (G1.new (.cells (Cm.zero.cells nilS) 26 false)) := x1.trans x12
  have hn2 : (G1.new (.cells (Cm.zero.cells nilS) 26 false)).next = G1.next + 1 := rfl
  have hij : i < G1.next := w1 _ _ g1
  have hin : H.next ≤ i := by omega
  generalize hj : G1.next = j at *
  generalize hG2 : G1.new (.cells (Cm.zero.cells nilS) 26 false) = G2 at *
  have h2 := h.ext hw x2
  obtain ⟨q, aq, rd⟩ := h2.at hl0
  obtain ⟨s3, e3, bs3, cap3, _⟩ := slOf_from hc h2 (k := 9) (by omega)
  obtain ⟨s4, G4, e4, c4⟩ := s36 w2 bs3 (by simp; omega)
  have x4 : Ext H G4 := x2.trans c4.ext
  have h4 := h.ext hw x4
  have gi4 := c4.ext.get w2 gi2
  have gj4 := c4.ext.get w2 g2
  have rd4 : ∀ k : Nat, k < l.length → G4.ldI .u8 q.1 (q.2 + k * 1) = some (l.getD k 0) := fun k hk => by
    obtain ⟨q2, aq2, rdq⟩ := h4.at hl0
    have : q2 = q := by rw [aq] at aq2; cases aq2; rfl
    subst this; exact rdq k hk
  have w4 := c4.wf
  generalize hs : (Sl.mk s4.a s4.len (.ex s4.len)) = s5 at *
  have P5 : ∀ o, (G4.put j o).get i = some (.cells (Cm.zero.cells nilS) 26 false) := fun o => by rw [Heap.get_put, if_neg (by omega)]; exact gi4
  have bsd : (Cm.de l).d = l.drop 9 := rfl
  have hln : s5.len = (Cm.de l).d.length := by rw [bsd, ← hs]; exact c4.bs.len
  have pj := Heap.gput G4 j (.cells ((Cm.de l).cells s5) 26 false)
  have w5 := w4.put gj4 (.cells ((Cm.de l).cells s5) 26 false)
  have x5 : Ext H (G4.put j (.cells ((Cm.de l).cells s5) 26 false)) := x4.above (by omega) _
  have p5 := sts_m (v := Cm.de l) (t := s5) gj4
  have gi5 := P5 (.cells ((Cm.de l).cells s5) 26 false)
  have nx5 : (G4.put j (.cells ((Cm.de l).cells s5) 26 false)).next = G4.next := rfl
  have f5 : ∀ id o, G2.next ≤ id → G4.get id = some o → (G4.put j (.cells ((Cm.de l).cells s5) 26 false)).get id = some o := fun id o hid ho => by rw [Heap.get_put, if_neg (by omega)]; exact ho
  generalize hG5 : G4.put j (.cells ((Cm.de l).cells s5) 26 false) = G5 at *
  obtain ⟨a0, a1, a2, a3, a4, a5, a6, a7⟩ := ldM pj
  have x56 := Ext.new G5 (.cells ((Cm.de l).cells s5) 26 false)
  have w6 := w5.new (.cells ((Cm.de l).cells s5) 26 false)
  have pj6 := x56.get w5 pj
  have gi6 := x56.get w5 gi5
  have x6 : Ext H (G5.new (.cells ((Cm.de l).cells s5) 26 false)) := x5.trans x56
  have e12 := fun (R : Type) K => s12 (R := R) (H := G5) (Cm.de_ok hb) hln K
  have f6 : ∀ id o, G2.next ≤ id → G4.get id = some o → (G5.new (.cells ((Cm.de l).cells s5) 26 false)).get id = some o := fun id o hid ho => x56.get w5 (f5 id o hid ho)
  generalize hG6 : G5.new (.cells ((Cm.de l).cells s5) 26 false) = G6 at *
  obtain ⟨b0, b1, b2, b3, b4, b5, b6, b7⟩ := ldM pj6
  have start : ∀ (R : Type) (kN : Nat → Nat → Nat → Nat → Heap → Option R) (kR : Nat → Nat → Int → Heap → Option R), g13_p0 g36 g12 R t H kN kR = if (Cm.de l).ck = 0 then kN i 0 j 0 G6 else kR i 0 4 (G6.put i (.cells (Cm.zero.cells nilS) 26 false)) := fun R kN kR => by
    have r0 : G2.ldI .u8 q.1 (q.2 + Int.toNat 0 * 1) = some (l.getD 0 0) := rd 0 (by omega)
    have r1 : G2.ldI .u8 q.1 (q.2 + Int.toNat 1 * 1) = some (l.getD 1 0) := rd 1 (by omega)
    have r2 : G2.ldI .u8 q.1 (q.2 + Int.toNat 2 * 1) = some (l.getD 2 0) := rd 2 (by omega)
    have r3 : G2.ldI .u8 q.1 (q.2 + Int.toNat 3 * 1) = some (l.getD 3 0) := rd 3 (by omega)
    have r4 : G2.ldI .u8 q.1 (q.2 + Int.toNat 4 * 1) = some (l.getD 4 0) := rd 4 (by omega)
    have r5 : G2.ldI .u8 q.1 (q.2 + Int.toNat 5 * 1) = some (l.getD 5 0) := rd 5 (by omega)
    have r6 : G2.ldI .u8 q.1 (q.2 + Int.toNat 6 * 1) = some (l.getD 6 0) := rd 6 (by omega)
    have r7 : G2.ldI .u8 q.1 (q.2 + Int.toNat 7 * 1) = some (l.getD 7 0) := rd 7 (by omega)
    have r8 : G2.ldI .u8 q.1 (q.2 + Int.toNat 8 * 1) = some (l.getD 8 0) := rd 8 (by omega)
    have t0 : G4.ldI .u8 q.1 (q.2 + Int.toNat 0 * 1) = some (l.getD 0 0) := rd4 0 (by omega)
    have t1 : G4.ldI .u8 q.1 (q.2 + Int.toNat 1 * 1) = some (l.getD 1 0) := rd4 1 (by omega)
    have t2 : G4.ldI .u8 q.1 (q.2 + Int.toNat 2 * 1) = some (l.getD 2 0) := rd4 2 (by omega)
    have t3 : G4.ldI .u8 q.1 (q.2 + Int.toNat 3 * 1) = some (l.getD 3 0) := rd4 3 (by omega)
    have t4 : G4.ldI .u8 q.1 (q.2 + Int.toNat 4 * 1) = some (l.getD 4 0) := rd4 4 (by omega)
    have t5 : G4.ldI .u8 q.1 (q.2 + Int.toNat 5 * 1) = some (l.getD 5 0) := rd4 5 (by omega)
    have t6 : G4.ldI .u8 q.1 (q.2 + Int.toNat 6 * 1) = some (l.getD 6 0) := rd4 6 (by omega)
    have t7 : G4.ldI .u8 q.1 (q.2 + Int.toNat 7 * 1) = some (l.getD 7 0) := rd4 7 (by omega)
    have t8 : G4.ldI .u8 q.1 (q.2 + Int.toNat 8 * 1) = some (l.getD 8 0) := rd4 8 (by omega)
    have i0 : 0 ≤ (0 : Int) ∧ (0 : Int) < ((t.len : Nat) : Int) := by omega
    have i1 : 0 ≤ (1 : Int) ∧ (1 : Int) < ((t.len : Nat) : Int) := by omega
    have i2 : 0 ≤ (2 : Int) ∧ (2 : Int) < ((t.len : Nat) : Int) := by omega
    have i3 : 0 ≤ (3 : Int) ∧ (3 : Int) < ((t.len : Nat) : Int) := by omega
    have i4 : 0 ≤ (4 : Int) ∧ (4 : Int) < ((t.len : Nat) : Int) := by omega
    have i5 : 0 ≤ (5 : Int) ∧ (5 : Int) < ((t.len : Nat) : Int) := by omega
    have i6 : 0 ≤ (6 : Int) ∧ (6 : Int) < ((t.len : Nat) : Int) := by omega
    have i7 : 0 ≤ (7 : Int) ∧ (7 : Int) < ((t.len : Nat) : Int) := by omega
    have i8 : 0 ≤ (8 : Int) ∧ (8 : Int) < ((t.len : Nat) : Int) := by omega
    have h5 := hb.getD 5; have h6 := hb.getD 6; have h7 := hb.getD 7; have h8 := hb.getD 8
    have e3' := e3 R
    rw [show ((9 : Nat) : Int) = 9 from rfl] at e3'
    have vf : bvOr .u32 (IntKind.wrap .u32 (l.getD 5 0)) (shlI .u32 (IntKind.wrap .u32 (l.getD 6 0)) 8) = (Cm.de l).f := by
      rw [sl8 h6, wr32, show l.getD 5 0 % 4294967296 = l.getD 5 0 by omega, orI (p := 256) (j := 8) rfl (by omega) h6.1 (by omega)]
      simp only [Cm.de]; omega
    have vt : bvOr .u32 (IntKind.wrap .u32 (l.getD 7 0)) (shlI .u32 (IntKind.wrap .u32 (l.getD 8 0)) 8) = (Cm.de l).t := by
      rw [sl8 h8, wr32, show l.getD 7 0 % 4294967296 = l.getD 7 0 by omega, orI (p := 256) (j := 8) rfl (by omega) h8.1 (by omega)]
      simp only [Cm.de]; omega
    unfold g13_p0 alo
    rw [hz]
    simp only [hi, hG1]
    rw [decide_eq_false (by omega), sel_false]
    simp only [hj, hG2, if_pos i0, if_pos i1, if_pos i2, if_pos i3, if_pos i4, if_pos i5, if_pos i6, if_pos i7, if_pos i8, aq, Option.bind_some, r0, r1, r2, r3, r4, r5, r6, r7, r8, e3', e4, hs, t0, t1, t2, t3, t4, t5, t6, t7, t8, same_i, if_true, vf, vt]
    rw [show [V.i IntKind.u8 (l.getD 0 0), V.i IntKind.u32 (Cm.de l).f, V.i IntKind.u32 (Cm.de l).t, V.i IntKind.u8 (l.getD 1 0), V.i IntKind.u8 (l.getD 2 0), V.i IntKind.u8 (l.getD 3 0), V.i IntKind.u8 (l.getD 4 0), V.sl s5] = (Cm.de l).cells s5 from rfl, p5, Option.bind_some]
    simp only [Nat.zero_add, a0, a1, a2, a3, a4, a5, a6, a7, Option.bind_some, e12, selN]
    rw [sts_m gi6, Option.bind_some]
  by_cases hk : (Cm.de l).ck = 0
  · have ed : Cm.dec l = (Cm.de l, 0) := by unfold Cm.dec; rw [if_neg (by simp only [not_or, Classical.not_not]; exact ⟨c1, hk⟩)]
    rw [ed]
    refine ⟨s5, G6.put i (.cells ((Cm.de l).cells s5) 26 false), fun R K => ?_, ?_, x6.above (by omega) _, w6.put gi6 _⟩
    · rw [hd, start, if_pos hk]
      simp only [g13_p1, Nat.zero_add, b0, b1, b2, b3, b4, b5, b6, b7, Option.bind_some]
      rw [show [V.i IntKind.u8 (Cm.de l).k, V.i IntKind.u32 (Cm.de l).f, V.i IntKind.u32 (Cm.de l).t, V.i IntKind.u8 (Cm.de l).c, V.i IntKind.u8 (Cm.de l).n, V.i IntKind.u8 (Cm.de l).x, V.i IntKind.u8 (Cm.de l).u, V.sl s5] = (Cm.de l).cells s5 from rfl, sts_m gi6, Option.bind_some]
      exact fin K _ (Cm.de l) s5 0 (Heap.gput _ _ _)
    · rw [← hs]
      exact c4.keep fun id o hid ho => by rw [Heap.get_put, if_neg (by omega)]; exact f6 id o hid ho
  · have ed : Cm.dec l = (.zero, 4) := by unfold Cm.dec; rw [if_pos (.inr hk)]
    rw [ed]
    refine ⟨nilS, G6.put i (.cells (Cm.zero.cells nilS) 26 false), fun R K => ?_, .nil _, x6.above (by omega) _, w6.put gi6 _⟩
    rw [hd, start, if_neg hk]
    exact fin K _ .zero nilS 4 (Heap.gput _ _ _)
end Go.Proofs.Ytnlfkllnmobppaa

