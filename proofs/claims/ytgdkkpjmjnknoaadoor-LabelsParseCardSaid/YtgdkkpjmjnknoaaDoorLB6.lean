/- LabelsCheck, LabelsBack, LabelsSame. -/
import Derived.Test.YtgdkkpjmjnknoaaDoorLB5
namespace Go.Proofs.YtgdkkpjmjnknoaaDoor
open Go AM Go.RowKit
set_option linter.unusedVariables false
set_option linter.unusedSimpArgs false

theorem cells_eq (m : Ms) (s : Sl) : [V.i IntKind.u8 m.sv, V.i .u8 m.nw, V.i .u8 m.pr, V.i .u16 m.dt, V.i .u16 m.fr, V.i .u8 m.sl, V.sl s] = m.cells s := rfl
theorem selB2 {R : Type} {c : Bool} (x : Option R) : sel c x x = x := by cases c <;> rfl
/-! LabelsCheck -/
theorem byt_zeros (n : Nat) : Byt (List.replicate n 0) := fun x hx => by have := List.eq_of_mem_replicate hx; omega
theorem check_p3 {X4 : Heap} (w4 : X4.Wf) {m' : Ms} (hok : m'.Ok) {s3 : Sl} {i : Nat} (g4 : X4.get i = some (.cells (m'.cells s3) 38 false)) (b4 : BS X4 s3 m'.d) (hlen : m'.d.length ≤ 10000) (t : Bool) (ht : t = decide (m'.sv > 15 ∨ m'.nw > 3 ∨ m'.pr > 3 ∨ m'.dt > 16383 ∨ m'.fr > 16383 ∨ m'.sl > 15)) :
    (g5_p3 g12 g17 g18 Bool i 0 0 t X4 fun t4 H => some t4) = some true := by
  obtain ⟨c0', c1', c2', c3', c4', c5', c6'⟩ := ldM g4
  obtain ⟨s5, X5, p5, b5, cp5, x5, w5⟩ := s17 w4 hok b4 (by omega)
  have g5 := x5.get w4 g4
  obtain ⟨e0, e1, e2, e3, e4, e5, e6⟩ := ldM g5
  have hn3 : s3.len = m'.d.length := b4.len
  have e18 := fun (K : Int → Heap → Option Bool) => s18 (R := Bool) (H := X5) hn3 K
  have l5 := b5.len
  -- the end, whatever was found
  have fin : (g5_p2 g12 g17 g18 Bool i 0 m'.ck s5 m'.ck X5 fun t4 H => some t4) = some true := by
    simp only [g5_p2, Nat.zero_add, e0, e1, e2, e3, e4, e5, e6, Option.bind_some, e18, beq_self_eq_true, sel_true]
    by_cases hc : m'.ck = 0
    · obtain ⟨k0, k1, k2, k3, k4, k5, k6⟩ := ck0 hc
      rw [if_pos hc] at l5
      rw [hc]
      have g6 := (Ext.new X5 (.cells (m'.cells s3) 38 false)).get w5 g5
      have hl : ((s5.len : Nat) : Int) = IntKind.wrap .i64 (5 + ((s3.len : Nat) : Int)) := by
        rw [l5, hn3, w64 (by omega)]; simp [Ms.enc, Ms.hd]; omega
      simp only [beq_self_eq_true, sel_true, (ldM g6).2.2.2.2.2.2, Option.bind_some, ← hl, lv]
    · rw [if_neg hc] at l5
      have b : (m'.ck == 0) = false := by simp [hc]
      have b' : (m'.ck != 0) = true := by simp [hc]
      simp [b, b', l5, lv]
  by_cases hv : m'.sv > 15 ∨ m'.nw > 3 ∨ m'.pr > 3 ∨ m'.dt > 16383 ∨ m'.fr > 16383 ∨ m'.sl > 15
  · have hc : m'.ck = 1 := if_pos hv
    rw [decide_eq_true hv] at ht
    subst ht
    rw [hc] at fin p5
    simp only [g5_p3, g5_p1, sel_true, Nat.zero_add, c0', c1', c2', c3', c4', c5', c6', Option.bind_some, p5]
    exact fin
  · rw [decide_eq_false hv] at ht
    subst ht
    by_cases hl : m'.d.length > 268
    · have hc : m'.ck = 3 := by unfold Ms.ck; rw [if_neg hv, if_pos hl]
      rw [hc] at fin p5
      simp only [g5_p3, g5_p1, sel_false, Nat.zero_add, c0', c1', c2', c3', c4', c5', c6', Option.bind_some, p5, hn3]
      rw [decide_eq_true (show ((m'.d.length : Nat) : Int) > 268 by omega), sel_true]
      exact fin
    · have hc : m'.ck = 0 := by unfold Ms.ck; rw [if_neg hv, if_neg hl]
      rw [hc] at fin p5
      simp only [g5_p3, g5_p1, sel_false, Nat.zero_add, c0', c1', c2', c3', c4', c5', c6', Option.bind_some, p5, hn3]
      rw [decide_eq_false (show ¬ ((m'.d.length : Nat) : Int) > 268 by omega), sel_false]
      exact fin
set_option maxHeartbeats 1000000 in
theorem check_true (H : Heap) (hw : H.Wf) {m : Ms} (hm : m.Ok) {s : Sl} (h : BS H s m.d) {more : Int} (hr : 0 ≤ more ∧ more ≤ 65535) : g5 Bool m.sv m.nw m.pr m.dt m.fr m.sl s more H (fun r _ => some r) = some true := by
  have hn := h.len
  have g1 := Heap.gnew H (.cells (m.cells s) 38 false)
  have x1 := Ext.new H (.cells (m.cells s) 38 false)
  have w1 := hw.new (.cells (m.cells s) 38 false)
  have b1 := h.ext hw x1
  have dd : g5 Bool m.sv m.nw m.pr m.dt m.fr m.sl s more H (fun r _ => some r) = g5_p0 g12 g17 g18 Bool m.sv m.nw m.pr m.dt m.fr m.sl s more H (fun t2_0 t2_1 t5 t51 H => g5_p3 g12 g17 g18 Bool t2_0 t2_1 t5 t51 H (fun t4 H => some t4)) (fun t4 H => some t4) := rfl
  rw [dd]
  simp only [g5_p0, alo]
  rw [cells_eq]
  have hil : H.next < (H.new (.cells (m.cells s) 38 false)).next := by simp
  generalize H.new (.cells (m.cells s) 38 false) = X1 at *
  obtain ⟨a0, a1, a2, a3, a4, a5, a6⟩ := ldM g1
  simp only [Nat.zero_add, a6, Option.bind_some]
  by_cases c0 : ((s.len : Nat) : Int) > 600
  · rw [decide_eq_true c0, sel_true, lv]
  rw [decide_eq_false c0, sel_false, b1.is, Option.bind_some, hn]
  obtain ⟨s2, X2, p2, o2, ab2, x2, w2, k2⟩ := own_more (H0 := X1) (x := nilS) (l := []) w1 (Fr'.refl _ _) .nil (fun _ _ h => by cases h) m.d (by simp; omega)
  rw [List.nil_append] at o2
  rw [p2]
  obtain ⟨k, hk⟩ : ∃ k : Nat, Int.tmod more 300 = k := ⟨(more % 300).toNat, by rw [tmodp hr.1]; omega⟩
  have hk300 : k < 300 := by rw [tmodp hr.1] at hk; omega
  have hwr : IntKind.wrap .i64 (Int.tmod more 300) = (k : Int) := by rw [hk, w64 (by omega)]
  rw [hwr, if_pos (by omega), Int.toNat_natCast, zeros5, Option.bind_some]
  obtain ⟨s3, X3, p3, o3, ab3, x3, w3, k3⟩ := own_more (H0 := X1) w2 x2 o2 ab2 (List.replicate k 0) (by simp; omega)
  rw [List.length_replicate] at p3
  rw [p3]
  have g3 := x3.get w1 g1
  obtain ⟨m', hm'⟩ : ∃ m' : Ms, m' = ⟨m.sv, m.nw, m.pr, m.dt, m.fr, m.sl, m.d ++ List.replicate k 0⟩ := ⟨_, rfl⟩
  have st : X3.st H.next 6 (.sl s3) = some (X3.put H.next (.cells (m'.cells s3) 38 false)) := by rw [st_of g3 (by simp [Ms.cells]) rfl, hm']; rfl
  have g4 := Heap.gput X3 H.next (.cells (m'.cells s3) 38 false)
  have w4 : (X3.put H.next (.cells (m'.cells s3) 38 false)).Wf := w3.put g3 _
  have b4 : BS (X3.put H.next (.cells (m'.cells s3) 38 false)) s3 m'.d := by
    subst hm'
    refine o3.toBS.mono fun id off o hid ho => ?_
    have := ab3 id off hid
    rw [Heap.get_put, if_neg (by omega)]; exact ho
  have hok : m'.Ok := by subst hm'; exact ⟨hm.sv, hm.nw, hm.pr, hm.dt, hm.fr, hm.sl, hm.d.append (byt_zeros k)⟩
  have hlen : m'.d.length = m.d.length + k := by subst hm'; simp
  rw [st, Option.bind_some]
  generalize X3.put H.next (.cells (m'.cells s3) 38 false) = X4 at *
  obtain ⟨c0', c1', c2', c3', c4', c5', c6'⟩ := ldM g4
  have hp := fun t ht => check_p3 w4 hok g4 b4 (by omega) t ht
  simp only [Nat.add_zero, Nat.reduceAdd, c0', c1', c2', c3', c4', c5', Option.bind_some]
  by_cases v0 : m'.sv > 15
  · rw [decide_eq_true v0, sel_true]; exact hp true (by simp [v0])
  rw [decide_eq_false v0, sel_false]
  by_cases v1 : m'.nw > 3
  · rw [decide_eq_true v1, sel_true]; exact hp true (by simp [v1])
  rw [decide_eq_false v1, sel_false]
  by_cases v2 : m'.pr > 3
  · rw [decide_eq_true v2, sel_true]; exact hp true (by simp [v2])
  rw [decide_eq_false v2, sel_false]
  by_cases v3 : m'.dt > 16383
  · rw [decide_eq_true v3, sel_true]; exact hp true (by simp [v3])
  rw [decide_eq_false v3, sel_false]
  by_cases v4 : m'.fr > 16383
  · rw [decide_eq_true v4, sel_true]; exact hp true (by simp [v4])
  rw [decide_eq_false v4, sel_false]
  exact hp _ (by simp [v0, v1, v2, v3, v4])
theorem ms_of_args {H : Heap} (hw : H.Wf) {a b c d e f : Int} {s : Sl} (h0 : (Lit.int .u8 a).wf = true) (h1 : (Lit.int .u8 b).wf = true) (h2 : (Lit.int .u8 c).wf = true) (h3 : (Lit.int .u16 d).wf = true) (h4 : (Lit.int .u16 e).wf = true) (h5 : (Lit.int .u8 f).wf = true) (hs : ArgSl H [.i .u8] s) :
    ∃ m : Ms, m.Ok ∧ BS H s m.d ∧ CapOk s ∧ a = m.sv ∧ b = m.nw ∧ c = m.pr ∧ d = m.dt ∧ e = m.fr ∧ f = m.sl := by
  obtain ⟨l, b1, b2, b3, _, _⟩ := bs_of_arg hs
  exact ⟨⟨a, b, c, d, e, f, l⟩, ⟨wfU8 h0, wfU8 h1, wfU8 h2, wfU16 h3, wfU16 h4, wfU8 h5, b2⟩, b1, b3, rfl, rfl, rfl, rfl, rfl, rfl⟩
theorem labelsCheck_true (H : Heap) (hw : H.Wf) (a b c d e f : Int) (s : Sl) (more : Int) (h0 : (Lit.int .u8 a).wf = true) (h1 : (Lit.int .u8 b).wf = true) (h2 : (Lit.int .u8 c).wf = true) (h3 : (Lit.int .u16 d).wf = true) (h4 : (Lit.int .u16 e).wf = true) (h5 : (Lit.int .u8 f).wf = true) (hs : ArgSl H [.i .u8] s) (hr : (Lit.int .u16 more).wf = true) :
    g5 Bool a b c d e f s more H (fun r _ => some r) = some true := by
  obtain ⟨m, ok, b1, _, rfl, rfl, rfl, rfl, rfl, rfl⟩ := ms_of_args hw h0 h1 h2 h3 h4 h5 hs
  exact check_true H hw ok b1 (wfU16 hr)

end Go.Proofs.YtgdkkpjmjnknoaaDoor

