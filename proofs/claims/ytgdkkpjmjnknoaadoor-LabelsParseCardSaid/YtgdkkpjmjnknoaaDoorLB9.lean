/- LabelsSame. -/
import Derived.Test.YtgdkkpjmjnknoaaDoorLB8
namespace Go.Proofs.YtgdkkpjmjnknoaaDoor
open Go AM Go.RowKit
set_option linter.unusedVariables false
set_option linter.unusedSimpArgs false

theorem same_sl (s : Sl) : V.same1 (.sl s) (.sl s) = true := by
  obtain ⟨a, l, c⟩ := s
  cases c <;> simp [V.same1]
theorem same_ms (m : Ms) (s : Sl) : V.same (.agg (m.cells s)) (.agg (m.cells s)) = true := by
  simp only [V.same, Ms.cells, sames, same_sl]
  simp [V.same1]
/-- three messages at three places -/
structure At3 (X : Heap) (i j k : Nat) (a b : Ms) (s t r : Sl) : Prop where
  wf : X.Wf
  ga : X.get i = some (.cells (a.cells s) 38 false)
  gb : X.get j = some (.cells (b.cells t) 38 false)
  gc : X.get k = some (.cells (a.cells r) 38 false)
  ba : BS X s a.d
  bb : BS X t b.d
  bc : BS X r a.d
theorem At3.ext {X Y : Heap} {i j k : Nat} {a b : Ms} {s t r : Sl} (h : At3 X i j k a b s t r) (x : Ext X Y) (w : Y.Wf) : At3 Y i j k a b s t r :=
  ⟨w, x.get h.wf h.ga, x.get h.wf h.gb, x.get h.wf h.gc, h.ba.ext h.wf x, h.bb.ext h.wf x, h.bc.ext h.wf x⟩
theorem eqb_ne {a b : Ms} (h : ¬ (a.sv = b.sv ∧ a.nw = b.nw ∧ a.pr = b.pr ∧ a.dt = b.dt ∧ a.fr = b.fr ∧ a.sl = b.sl ∧ a.d = b.d)) : a.eqb b = false := decide_eq_false h
section
variable {X : Heap} {i j k : Nat} {a b : Ms} {s t r : Sl}
theorem same_p1 (h : At3 X i j k a b s t r) (ha : Byt a.d) (hb : Byt b.d) (hl : a.d.length ≤ 600) (hcap : r.cap = .ex r.len) (z : Int) (K : Int → Nat → Nat → Nat → Nat → Bool → Heap → Option Bool) :
    ∃ Y, g9_p1 g12 g26 g25 g27 Bool z i 0 j 0 k 0 X K = K z i 0 k 0 false Y ∧ Ext X Y ∧ Y.Wf := by
  obtain ⟨a0, a1, a2, a3, a4, a5, a6⟩ := ldM h.ga
  obtain ⟨c0, c1, c2, c3, c4, c5, c6⟩ := ldM h.gc
  obtain ⟨X1, p1, x1, w1⟩ := s25 (a := a) (b := a) h.wf ha ha h.ba h.bc
  have h1 := h.ext x1 w1
  obtain ⟨d0, d1, d2, d3, d4, d5, d6⟩ := ldM h1.ga
  obtain ⟨e0, e1, e2, e3, e4, e5, e6⟩ := ldM h1.gc
  obtain ⟨X2, p2, x2, w2⟩ := s27 (a := a) (b := a) w1 h1.ba h1.bc (by omega)
  have h2 := h1.ext x2 w2
  obtain ⟨f0, f1, f2, f3, f4, f5, f6⟩ := ldM h2.ga
  obtain ⟨y0, y1, y2, y3, y4, y5, y6⟩ := ldM h2.gb
  obtain ⟨X3, p3, x3, w3⟩ := s27 (a := a) (b := b) w2 h2.ba h2.bb (by omega)
  have h3 := h2.ext x3 w3
  obtain ⟨l0, l1, l2, l3, l4, l5, l6⟩ := ldM h3.ga
  obtain ⟨m0, m1, m2, m3, m4, m5, m6⟩ := ldM h3.gb
  obtain ⟨X4, p4, x4, w4⟩ := s25 (a := a) (b := b) w3 ha hb h3.ba h3.bb
  have h4 := h3.ext x4 w4
  obtain ⟨_, _, _, _, _, _, n6⟩ := ldM h4.gc
  refine ⟨X4, ?_, (((x1.trans x2).trans x3).trans x4), w4⟩
  simp only [g9_p1, Nat.zero_add, a0, a1, a2, a3, a4, a5, a6, c0, c1, c2, c3, c4, c5, c6, Option.bind_some]
  rw [p1, Ms.eqb_self, Bool.not_true, sel_false]
  simp only [d0, d1, d2, d3, d4, d5, d6, e0, e1, e2, e3, e4, e5, e6, Option.bind_some]
  rw [p2, Ms.eqb_self, Bool.not_true, sel_false]
  simp only [f0, f1, f2, f3, f4, f5, f6, y0, y1, y2, y3, y4, y5, y6, Option.bind_some]
  rw [p3]
  simp only [l0, l1, l2, l3, l4, l5, l6, m0, m1, m2, m3, m4, m5, m6, Option.bind_some]
  rw [cells_eq a s, cells_eq b t, if_pos (same_ms a s), if_pos (same_ms b t), p4, beq_self_eq_true, Bool.not_true, sel_false]
  simp only [n6, Option.bind_some]
  rw [hcap, capK_ex]
  simp only [bne_self_eq_false]
theorem same_p3 {F : Heap} (w : F.Wf) (ga : F.get i = some (.cells (a.cells s) 38 false)) (ba : BS F s a.d) (ha : a.Ok) (hl : a.d.length ≤ 600) : (g9_p3 g12 g26 g25 g27 Bool i 0 F fun t6 H => some t6) = some true := by
  have hsl := ha.sl; have hpr := ha.pr
  obtain ⟨a0, a1, a2, a3, a4, a5, a6⟩ := ldM ga
  have hi := w _ _ ga
  -- the first copy
  have g1 := Heap.gnew F (.cells (Ms.zero.cells nilS) 38 false)
  have st1 := stsM (v := a) (s' := s) g1
  have g2 := Heap.gput (F.new (.cells (Ms.zero.cells nilS) 38 false)) F.next (.cells (a.cells s) 38 false)
  have w1 : ((F.new (.cells (Ms.zero.cells nilS) 38 false)).put F.next (.cells (a.cells s) 38 false)).Wf := (w.new _).put g1 _
  have x1 : Ext F ((F.new (.cells (Ms.zero.cells nilS) 38 false)).put F.next (.cells (a.cells s) 38 false)) := (Ext.new _ _).above (Nat.le_refl _) _
  obtain ⟨d, hd⟩ : ∃ d : Ms, d = { a with sl := IntKind.wrap .u8 (a.sl + 1) } := ⟨_, rfl⟩
  have hdne : a.eqb d = false := eqb_ne (by subst hd; dsimp only; rw [wr8]; omega)
  have hdd : d.d = a.d := by rw [hd]
  simp only [g9_p3, alo]
  rw [← Ms.zero_cells]
  simp only [Nat.zero_add, a0, a1, a2, a3, a4, a5, a6, Option.bind_some]
  rw [cells_eq a s, st1, Option.bind_some]
  generalize hX1 : (F.new (.cells (Ms.zero.cells nilS) 38 false)).put F.next (.cells (a.cells s) 38 false) = X1 at *
  have st2 : X1.st F.next 5 (.i .u8 (IntKind.wrap .u8 (a.sl + 1))) = some (X1.put F.next (.cells (d.cells s) 38 false)) := by rw [st_of g2 (by simp [Ms.cells]) rfl, hd]; rfl
  have g3 := Heap.gput X1 F.next (.cells (d.cells s) 38 false)
  have w2 : (X1.put F.next (.cells (d.cells s) 38 false)).Wf := w1.put g2 _
  have x2 : Ext F (X1.put F.next (.cells (d.cells s) 38 false)) := x1.above (Nat.le_refl _) _
  simp only [Nat.reduceAdd, (ldM g2).2.2.2.2.2.1, Option.bind_some, st2]
  generalize X1.put F.next (.cells (d.cells s) 38 false) = X2 at *
  have ga2 := x2.get w ga
  obtain ⟨b0, b1, b2, b3, b4, b5, b6⟩ := ldM ga2
  have h2lt := w2 _ _ g3
  -- the second copy
  have g4 := Heap.gnew X2 (.cells (Ms.zero.cells nilS) 38 false)
  have st3 := stsM (v := a) (s' := s) g4
  have g5 := Heap.gput (X2.new (.cells (Ms.zero.cells nilS) 38 false)) X2.next (.cells (a.cells s) 38 false)
  have w3 : ((X2.new (.cells (Ms.zero.cells nilS) 38 false)).put X2.next (.cells (a.cells s) 38 false)).Wf := (w2.new _).put g4 _
  have x3 : Ext X2 ((X2.new (.cells (Ms.zero.cells nilS) 38 false)).put X2.next (.cells (a.cells s) 38 false)) := (Ext.new _ _).above (Nat.le_refl _) _
  obtain ⟨e, he⟩ : ∃ e : Ms, e = { a with pr := IntKind.wrap .u8 (a.pr + 1) } := ⟨_, rfl⟩
  have hene : a.eqb e = false := eqb_ne (by subst he; dsimp only; rw [wr8]; omega)
  have hee : e.d = a.d := by rw [he]
  simp only [b0, b1, b2, b3, b4, b5, b6, Option.bind_some]
  rw [cells_eq a s, st3, Option.bind_some]
  generalize hX3 : (X2.new (.cells (Ms.zero.cells nilS) 38 false)).put X2.next (.cells (a.cells s) 38 false) = X3 at *
  have st4 : X3.st X2.next 2 (.i .u8 (IntKind.wrap .u8 (a.pr + 1))) = some (X3.put X2.next (.cells (e.cells s) 38 false)) := by rw [st_of g5 (by simp [Ms.cells]) rfl, he]; rfl
  have g6 := Heap.gput X3 X2.next (.cells (e.cells s) 38 false)
  have w4 : (X3.put X2.next (.cells (e.cells s) 38 false)).Wf := w3.put g5 _
  have x4 : Ext X2 (X3.put X2.next (.cells (e.cells s) 38 false)) := x3.above (Nat.le_refl _) _
  simp only [(ldM g5).2.2.1, Option.bind_some, st4]
  generalize X3.put X2.next (.cells (e.cells s) 38 false) = X4 at *
  have ga4 := x4.get w2 ga2
  have gd4 := x4.get w2 g3
  have ba4 : BS X4 s a.d := (ba.ext w x2).ext w2 x4
  obtain ⟨c0, c1, c2, c3, c4, c5, c6⟩ := ldM ga4
  obtain ⟨f0, f1, f2, f3, f4, f5, f6⟩ := ldM gd4
  obtain ⟨X5, p5, x5, w5⟩ := s27 (a := a) (b := d) w4 ba4 (by rw [hdd]; exact ba4) (by omega)
  have ga5 := x5.get w4 ga4
  have ge5 := x5.get w4 g6
  have ba5 := ba4.ext w4 x5
  obtain ⟨k0, k1, k2, k3, k4, k5, k6⟩ := ldM ga5
  obtain ⟨m0, m1, m2, m3, m4, m5, m6⟩ := ldM ge5
  obtain ⟨X6, p6, x6, w6⟩ := s27 (a := a) (b := e) w5 ba5 (by rw [hee]; exact ba5) (by omega)
  simp only [c0, c1, c2, c3, c4, c5, c6, f0, f1, f2, f3, f4, f5, f6, Option.bind_some]
  rw [p5, hdne, Bool.not_false, sel_true]
  simp only [k0, k1, k2, k3, k4, k5, k6, m0, m1, m2, m3, m4, m5, m6, Option.bind_some]
  rw [p6, hene, Bool.not_false, sel_true, lv]
theorem same_p4 (h : At3 X i j k a b s t r) (ha : a.Ok) (hl : a.d.length ≤ 600) {z : Int} (hz : 0 ≤ z ∧ z ≤ 65535) (own : a.d = [] ∨ ∃ id, r.a = some (id, 0) ∧ X.get id = some (.cells (bcs a.d) 5 false) ∧ id ≠ i ∧ id ≠ k ∧ ∀ o off, s.a = some (o, off) → o ≠ id) :
    (g9_p4 g12 g26 g25 g27 Bool z i 0 k 0 false X fun t6 H => some t6) = some true := by
  obtain ⟨_, _, _, _, _, _, c6⟩ := ldM h.gc
  have hn : r.len = a.d.length := h.bc.len
  by_cases h0 : a.d = []
  · have hp := same_p3 h.wf h.ga h.ba ha hl
    simp only [g9_p4, g9_p2, sel_false, Nat.zero_add, c6, Option.bind_some]
    rw [decide_eq_false (show ¬ ((r.len : Nat) : Int) > 0 by rw [hn, h0]; simp), sel_false]
    exact hp
  · rcases own with own | ⟨id, o1, o2, o3, o4, o5⟩
    · exact absurd own h0
    have hpos : 0 < a.d.length := List.length_pos_iff.2 h0
    obtain ⟨n, hn'⟩ : ∃ n : Nat, z % (a.d.length : Int) = n := ⟨(z % (a.d.length : Int)).toNat, by have := Int.emod_nonneg z (show (a.d.length : Int) ≠ 0 by omega); omega⟩
    have hnl : n < a.d.length := by have := Int.emod_lt_of_pos z (show 0 < (a.d.length : Int) by omega); omega
    have hw : IntKind.wrap .i64 z = z := w64 (by omega)
    have ht : Int.tmod z ((a.d.length : Nat) : Int) = n := by rw [tmodp hz.1]; exact hn'
    have hv := ha.d.getD n
    obtain ⟨v, hvv⟩ : ∃ v, v = a.d.getD n 0 := ⟨_, rfl⟩
    have hld : X.ldI .u8 id (0 + n * 1) = some v := by rw [hvv]; exact ldN o2 hnl
    have hst := stN o2 hnl (IntKind.wrap .u8 (v + 1))
    obtain ⟨c, hc⟩ : ∃ c : Ms, c = { a with d := a.d.set n (IntKind.wrap .u8 (v + 1)) } := ⟨_, rfl⟩
    have hget : a.d.getD n 0 = a.d[n]'hnl := by simp [List.getD_eq_getElem?_getD, List.getElem?_eq_getElem hnl]
    have hcne : a.eqb c = false := eqb_ne (by
      rintro ⟨_, _, _, _, _, _, e⟩
      rw [hc] at e
      have := congrArg (fun l => l.getD n 0) e
      simp only at this
      rw [List.getD_eq_getElem?_getD, List.getD_eq_getElem?_getD, List.getElem?_set_self hnl] at this
      rw [List.getElem?_eq_getElem hnl] at this
      simp only [Option.getD_some] at this
      rw [← hget, ← hvv, wr8] at this
      rw [← hvv] at hv
      omega)
    have hcd : c.d = a.d.set n (IntKind.wrap .u8 (v + 1)) := by rw [hc]
    have hcb : Byt c.d := by
      rw [hcd]
      intro x hx
      rcases List.mem_or_eq_of_mem_set hx with hx | rfl
      · exact ha.d x hx
      · rw [wr8]; omega
    have w2 : (X.put id (.cells (bcs (a.d.set n (IntKind.wrap .u8 (v + 1)))) 5 false)).Wf := h.wf.put o2 _
    have ga2 : (X.put id (.cells (bcs (a.d.set n (IntKind.wrap .u8 (v + 1)))) 5 false)).get i = some (.cells (a.cells s) 38 false) := by rw [Heap.get_put, if_neg (fun e => o3 e.symm)]; exact h.ga
    have gc2 : (X.put id (.cells (bcs (a.d.set n (IntKind.wrap .u8 (v + 1)))) 5 false)).get k = some (.cells (a.cells r) 38 false) := by rw [Heap.get_put, if_neg (fun e => o4 e.symm)]; exact h.gc
    have ba2 : BS (X.put id (.cells (bcs (a.d.set n (IntKind.wrap .u8 (v + 1)))) 5 false)) s a.d := h.ba.mono fun o off ob hid ho => by rw [Heap.get_put, if_neg (o5 o off hid)]; exact ho
    have bc2 : BS (X.put id (.cells (bcs (a.d.set n (IntKind.wrap .u8 (v + 1)))) 5 false)) r c.d := by
      rw [hcd]
      have := BS.obj (c := r.cap) (Heap.gput X id (.cells (bcs (a.d.set n (IntKind.wrap .u8 (v + 1)))) 5 false))
      rw [List.length_set, ← hn, ← o1] at this
      exact this
    obtain ⟨X3, p3, x3, w3⟩ := s27 (a := a) (b := c) w2 ba2 bc2 (by omega)
    have ga3 := x3.get w2 ga2
    have gc3 := x3.get w2 gc2
    obtain ⟨X4, p4, x4, w4⟩ := s25 (a := a) (b := c) w3 ha.d hcb (ba2.ext w2 x3) (bc2.ext w2 x3)
    have hp := same_p3 w4 (x4.get w3 ga3) ((ba2.ext w2 x3).ext w3 x4) ha hl
    obtain ⟨d0, d1, d2, d3, d4, d5, d6⟩ := ldM ga2
    obtain ⟨e0, e1, e2, e3, e4, e5, e6⟩ := ldM gc2
    obtain ⟨f0, f1, f2, f3, f4, f5, f6⟩ := ldM ga3
    obtain ⟨k0, k1, k2, k3, k4, k5, k6⟩ := ldM gc3
    simp only [g9_p4, g9_p2, sel_false, Nat.zero_add, c6, Option.bind_some, hn]
    rw [decide_eq_true (show ((a.d.length : Nat) : Int) > 0 by omega), sel_true, if_neg (by omega), hw, ht, if_pos (by omega), o1, Option.bind_some, Int.toNat_natCast, hld, Option.bind_some, if_pos (by omega), Option.bind_some, hst, Option.bind_some]
    simp only [d0, d1, d2, d3, d4, d5, d6, e0, e1, e2, e3, e4, e5, e6, Option.bind_some]
    have q1 : ∀ K : Bool → Heap → Option Bool, g27 Bool a.sv a.nw a.pr a.dt a.fr a.sl s a.sv a.nw a.pr a.dt a.fr a.sl r (X.put id (.cells (bcs (a.d.set n (IntKind.wrap .u8 (v + 1)))) 5 false)) K = K false X3 := fun K => by
      have := p3 Bool K
      rw [hcne, hc] at this
      exact this
    have q2 : ∀ K : Bool → Heap → Option Bool, g25 Bool a.sv a.nw a.pr a.dt a.fr a.sl s a.sv a.nw a.pr a.dt a.fr a.sl r X3 K = K false X4 := fun K => by
      have := p4 Bool K
      rw [hcne, hc] at this
      exact this
    rw [q1, sel_false]
    simp only [f0, f1, f2, f3, f4, f5, f6, k0, k1, k2, k3, k4, k5, k6, Option.bind_some]
    rw [q2, sel_false]
    exact hp
end
theorem same_true (H : Heap) (hw : H.Wf) {a b : Ms} (ha : a.Ok) (hb : b.Ok) {s t : Sl} (h1 : BS H s a.d) (h2 : BS H t b.d) (hs : a.d ≠ [] → ∀ o off, s.a = some (o, off) → o < H.next) {z : Int} (hz : 0 ≤ z ∧ z ≤ 65535) :
    g9 Bool a.sv a.nw a.pr a.dt a.fr a.sl s b.sv b.nw b.pr b.dt b.fr b.sl t z H (fun r _ => some r) = some true := by
  obtain ⟨g1, g2, x, w⟩ := two_ms hw a b s t
  have k1 := h1.ext hw x
  have k2 := h2.ext hw x
  have dd : g9 Bool a.sv a.nw a.pr a.dt a.fr a.sl s b.sv b.nw b.pr b.dt b.fr b.sl t z H (fun r _ => some r) = g9_p0 g12 g26 g25 g27 Bool a.sv a.nw a.pr a.dt a.fr a.sl s b.sv b.nw b.pr b.dt b.fr b.sl t z H (fun t2 t3_0 t3_1 t4_0 t4_1 t7_0 t7_1 H => g9_p5 g12 g26 g25 g27 Bool t2 t3_0 t3_1 t4_0 t4_1 t7_0 t7_1 H (fun t6 H => some t6)) (fun t6 H => some t6) := rfl
  rw [dd]
  simp only [g9_p0, alo]
  rw [cells_eq a s, cells_eq b t, ← Ms.zero_cells]
  have hn1 : (H.new (.cells (a.cells s) 38 false)).next = H.next + 1 := rfl
  have hn2 : ((H.new (.cells (a.cells s) 38 false)).new (.cells (b.cells t) 38 false)).next = H.next + 2 := rfl
  rw [hn1]
  generalize (H.new (.cells (a.cells s) 38 false)).new (.cells (b.cells t) 38 false) = X at *
  obtain ⟨a0, a1, a2, a3, a4, a5, a6⟩ := ldM g1
  obtain ⟨_, _, _, _, _, _, b6⟩ := ldM g2
  have l1 := h1.len; have l2 := h2.len
  simp only [Nat.zero_add, a6, b6, Option.bind_some]
  by_cases c0 : ((s.len : Nat) : Int) > 600
  · rw [decide_eq_true c0, sel_true, lv]
  rw [decide_eq_false c0, sel_false]
  by_cases c1 : ((t.len : Nat) : Int) > 600
  · rw [decide_eq_true c1, sel_true, lv]
  rw [decide_eq_false c1, sel_false]
  obtain ⟨r, X2, p2, b2, cp2, x2, w2, own⟩ := s26 w k1 (by omega)
  have g3 := Heap.gnew X2 (.cells (Ms.zero.cells nilS) 38 false)
  have st3 := stsM (v := a) (s' := r) g3
  have g4 := Heap.gput (X2.new (.cells (Ms.zero.cells nilS) 38 false)) X2.next (.cells (a.cells r) 38 false)
  have w3 : ((X2.new (.cells (Ms.zero.cells nilS) 38 false)).put X2.next (.cells (a.cells r) 38 false)).Wf := (w2.new _).put g3 _
  have x3 : Ext X2 ((X2.new (.cells (Ms.zero.cells nilS) 38 false)).put X2.next (.cells (a.cells r) 38 false)) := (Ext.new _ _).above (Nat.le_refl _) _
  simp only [a0, a1, a2, a3, a4, a5, Option.bind_some]
  rw [p2, cells_eq a r, st3, Option.bind_some]
  generalize (X2.new (.cells (Ms.zero.cells nilS) 38 false)).put X2.next (.cells (a.cells r) 38 false) = X3 at *
  have h3 : At3 X3 H.next (H.next + 1) X2.next a b s t r := ⟨w3, x3.get w2 (x2.get w g1), x3.get w2 (x2.get w g2), g4, (k1.ext w x2).ext w2 x3, (k2.ext w x2).ext w2 x3, b2.ext w2 x3⟩
  obtain ⟨Y, q1, y1, v1⟩ := same_p1 h3 ha.d hb.d (by omega) cp2 z (fun t2 t3_0 t3_1 t7_0 t7_1 t51 H => g9_p4 g12 g26 g25 g27 Bool t2 t3_0 t3_1 t7_0 t7_1 t51 H (fun t6 H => some t6))
  have h4 := h3.ext y1 v1
  have hx2 := w2 _ _ (x2.get w g1)
  refine (show g9_p5 g12 g26 g25 g27 Bool z H.next 0 (H.next + 1) 0 X2.next 0 X3 (fun t6 H => some t6) = _ from q1).trans ?_
  refine same_p4 h4 ha (by omega) hz ?_
  rcases own with h0 | ⟨id, o1, o2, o3⟩
  · exact .inl h0
  · have o3lt := w2 _ _ o3
    rw [hn2] at o2
    by_cases h0 : a.d = []
    · exact .inl h0
    refine .inr ⟨id, o1, y1.get w3 (x3.get w2 o3), by omega, by omega, fun o off hso => ?_⟩
    have := hs h0 o off hso; omega
theorem labelsSame_true (H : Heap) (hw : H.Wf) (a b c d e f : Int) (s : Sl) (a' b' c' d' e' f' : Int) (t : Sl) (z : Int) (h0 : (Lit.int .u8 a).wf = true) (h1 : (Lit.int .u8 b).wf = true) (h2 : (Lit.int .u8 c).wf = true) (h3 : (Lit.int .u16 d).wf = true) (h4 : (Lit.int .u16 e).wf = true) (h5 : (Lit.int .u8 f).wf = true) (hs : ArgSl H [.i .u8] s)
    (h0' : (Lit.int .u8 a').wf = true) (h1' : (Lit.int .u8 b').wf = true) (h2' : (Lit.int .u8 c').wf = true) (h3' : (Lit.int .u16 d').wf = true) (h4' : (Lit.int .u16 e').wf = true) (h5' : (Lit.int .u8 f').wf = true) (hs' : ArgSl H [.i .u8] t) (hz : (Lit.int .u16 z).wf = true) :
    g9 Bool a b c d e f s a' b' c' d' e' f' t z H (fun r _ => some r) = some true := by
  obtain ⟨m, ok, b1, c1, rfl, rfl, rfl, rfl, rfl, rfl⟩ := ms_of_args hw h0 h1 h2 h3 h4 h5 hs
  obtain ⟨m', ok', b1', c1', rfl, rfl, rfl, rfl, rfl, rfl⟩ := ms_of_args hw h0' h1' h2' h3' h4' h5' hs'
  refine same_true H hw ok ok' b1 b1' (fun h0 o off hso => ?_) (wfU16 hz)
  obtain ⟨q, vs, e, ro, y1, y2, _⟩ := b1.there h0
  rw [y1] at hso; cases hso; exact hw _ _ y2
end Go.Proofs.YtgdkkpjmjnknoaaDoor

