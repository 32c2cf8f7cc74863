/- LabelsBack. -/
import Derived.Test.YtgdkkpjmjnknoaaDoorLB6
namespace Go.Proofs.YtgdkkpjmjnknoaaDoor
open Go AM Go.RowKit
set_option linter.unusedVariables false
set_option linter.unusedSimpArgs false

/-! LabelsBack -/
theorem enc_byt {m : Ms} (h : m.Ok) (hk : m.ck = 0) : Byt m.enc := by
  obtain ⟨k0, k1, k2, k3, k4, k5, k6⟩ := ck0 hk
  have h0 := h.sv; have h1 := h.nw; have h2 := h.pr
  have nb := n_bd h hk
  refine Byt.append (fun n hn => ?_) h.d
  simp only [Ms.hd, List.mem_cons, List.not_mem_nil, or_false] at hn
  rcases hn with rfl | rfl | rfl | rfl | rfl <;> omega
theorem enc_len (m : Ms) : m.enc.length = m.d.length + 5 := by simp [Ms.enc, Ms.hd]
theorem dec_enc {m : Ms} (h : m.Ok) (hk : m.ck = 0) : Ms.dec m.enc = (m, 0) := by
  obtain ⟨k0, k1, k2, k3, k4, k5, k6⟩ := ck0 hk
  have h0 := h.sv; have h1 := h.nw; have h2 := h.pr; have h3 := h.dt; have h4 := h.fr; have h5 := h.sl
  have nb := n_bd h hk
  have hl := enc_len m
  unfold Ms.dec
  rw [if_neg (by omega), if_neg (by omega)]
  have e0 : m.enc.getD 0 0 = m.sv + 16 * m.pr + 64 * m.nw := rfl
  have en : num4 m.enc = m.n := by
    have : num4 m.enc = m.n % 256 * 1 + m.n / 256 % 256 * 256 + m.n / 65536 % 256 * 65536 + m.n / 16777216 * 16777216 := rfl
    rw [this]; omega
  have ed : m.enc.drop 5 = m.d := rfl
  rw [e0, en, ed]
  have q0 : (m.sv + 16 * m.pr + 64 * m.nw) % 16 = m.sv := by omega
  have q1 : (m.sv + 16 * m.pr + 64 * m.nw) / 64 = m.nw := by omega
  have q2 : (m.sv + 16 * m.pr + 64 * m.nw) / 16 % 4 = m.pr := by omega
  have q3 : m.n % 16384 = m.dt := by unfold Ms.n; omega
  have q4 : m.n / 16384 % 16384 = m.fr := by unfold Ms.n; omega
  have q5 : m.n / 268435456 = m.sl := by unfold Ms.n; omega
  rw [q0, q1, q2, q3, q4, q5]
theorem dec_ok {l : List Int} (hb : Byt l) (h5 : 5 ≤ l.length) (hl : l.length ≤ 273) : (Ms.dec l).1.Ok ∧ (Ms.dec l).1.ck = 0 ∧ (Ms.dec l).2 = 0 ∧ (Ms.dec l).1.enc = l := by
  have nb := num4_bd hb
  have b0 := hb.getD 0; have b1 := hb.getD 1; have b2 := hb.getD 2; have b3 := hb.getD 3; have b4 := hb.getD 4
  have ed : Ms.dec l = (⟨l.getD 0 0 % 16, l.getD 0 0 / 64, l.getD 0 0 / 16 % 4, num4 l % 16384, num4 l / 16384 % 16384, num4 l / 268435456, l.drop 5⟩, 0) := by unfold Ms.dec; rw [if_neg (by omega), if_neg (by omega)]
  rw [ed]
  refine ⟨⟨by dsimp only; omega, by dsimp only; omega, by dsimp only; omega, by dsimp only; omega, by dsimp only; omega, by dsimp only; omega, hb.drop 5⟩, ?_, rfl, ?_⟩
  · unfold Ms.ck
    rw [if_neg (by dsimp only; omega), if_neg (by simp; omega)]
  · match l, h5 with
    | x0 :: x1 :: x2 :: x3 :: x4 :: r, _ =>
      simp only [List.getD_cons_zero, List.getD_cons_succ] at b0 b1 b2 b3 b4
      have en : num4 (x0 :: x1 :: x2 :: x3 :: x4 :: r) = x1 * 1 + x2 * 256 + x3 * 65536 + x4 * 16777216 := rfl
      have e0 : (x0 :: x1 :: x2 :: x3 :: x4 :: r).getD 0 0 = x0 := rfl
      have hn : (⟨x0 % 16, x0 / 64, x0 / 16 % 4, num4 (x0 :: x1 :: x2 :: x3 :: x4 :: r) % 16384, num4 (x0 :: x1 :: x2 :: x3 :: x4 :: r) / 16384 % 16384, num4 (x0 :: x1 :: x2 :: x3 :: x4 :: r) / 268435456, r⟩ : Ms).n = x1 * 1 + x2 * 256 + x3 * 65536 + x4 * 16777216 := by
        unfold Ms.n
        rw [en]; dsimp only; omega
      rw [e0]
      unfold Ms.enc Ms.hd
      rw [show (x0 :: x1 :: x2 :: x3 :: x4 :: r).drop 5 = r from rfl, hn]
      simp only [List.cons_append, List.nil_append, List.cons.injEq, and_true]
      exact ⟨by omega, by omega, by omega, by omega, by omega⟩
theorem same_s {a : ByteArray} : V.same (.s a) (.s a) = true := by simp [V.same, V.same1]
set_option maxHeartbeats 1000000 in
theorem back_p1 {X9 : Heap} (w9 : X9.Wf) {t : Sl} {l : List Int} (hbt : BS X9 t l) (hby : Byt l) (hct : CapOk t) : (g8_p1 g22 g17 g23 g24 g25 g12 Bool t false X9 fun t4 H => some t4) = some true := by
  have hl := hbt.len
  simp only [g8_p1, sel_false, alo]
  by_cases c600 : ((t.len : Nat) : Int) > 600
  · rw [decide_eq_true c600, sel_true, lv]
  rw [decide_eq_false c600, sel_false]
  obtain ⟨q1, Y1, r1, z1, cz1, y1, v1⟩ := s24 w9 hbt hby hct (by omega)
  rw [← Ms.zero_cells]
  have h1 := Heap.gnew Y1 (.cells (Ms.zero.cells nilS) 38 false)
  have st1 := stsM (v := (Ms.dec l).1) (s' := q1) h1
  have v2 : ((Y1.new (.cells (Ms.zero.cells nilS) 38 false)).put Y1.next (.cells ((Ms.dec l).1.cells q1) 38 false)).Wf := (v1.new _).put h1 _
  have y2 : Ext Y1 ((Y1.new (.cells (Ms.zero.cells nilS) 38 false)).put Y1.next (.cells ((Ms.dec l).1.cells q1) 38 false)) := (Ext.new _ _).above (Nat.le_refl _) _
  have h2 := Heap.gput (Y1.new (.cells (Ms.zero.cells nilS) 38 false)) Y1.next (.cells ((Ms.dec l).1.cells q1) 38 false)
  rw [r1, cells_eq (Ms.dec l).1 q1, st1, Option.bind_some]
  have z2 := z1.ext v1 y2
  generalize (Y1.new (.cells (Ms.zero.cells nilS) 38 false)).put Y1.next (.cells ((Ms.dec l).1.cells q1) 38 false) = Y2 at *
  obtain ⟨i0, i1, i2, i3, i4, i5, i6⟩ := ldM h2
  by_cases c5' : l.length < 5
  · have ed : Ms.dec l = (.zero, 4) := if_pos c5'
    rw [decide_eq_true (show ((t.len : Nat) : Int) < 5 by omega), sel_true, decide_eq_false (show ¬ ((t.len : Nat) : Int) > 5 by omega), sel_false]
    rw [ed] at i0 i1 i2 i3 i4 i5 z2 ⊢
    obtain ⟨Y3, r3, y3, v3⟩ := s25 (a := .zero) (b := .zero) v2 (fun n hn => by cases hn) (fun n hn => by cases hn) z2 (BS.nil Y2)
    simp only [beq_self_eq_true, sel_true, i0, i1, i2, i3, i4, i5, i6, Option.bind_some]
    have := r3 Bool fun x446 h447 => sel x446 (g12 Bool h447 fun x448 h449 => some x448) (some false)
    refine this.trans ?_
    simp only [Ms.eqb_self, sel_true, lv]
  · rw [decide_eq_false (show ¬ ((t.len : Nat) : Int) < 5 by omega), sel_false]
    by_cases c273 : l.length > 273
    · have ed : Ms.dec l = (.zero, 3) := by unfold Ms.dec; rw [if_neg c5', if_pos c273]
      rw [decide_eq_true (show ((t.len : Nat) : Int) > 273 by omega), sel_true, decide_eq_true (show ((t.len : Nat) : Int) > 5 by omega), sel_true]
      rw [ed] at i0 i1 i2 i3 i4 i5 z2 ⊢
      obtain ⟨Y3, r3, y3, v3⟩ := s25 (a := .zero) (b := .zero) v2 (fun n hn => by cases hn) (fun n hn => by cases hn) z2 (BS.nil Y2)
      simp only [beq_self_eq_true, sel_true, i0, i1, i2, i3, i4, i5, i6, Option.bind_some]
      have := r3 Bool fun x446 h447 => sel x446 (g12 Bool h447 fun x448 h449 => some x448) (some false)
      refine this.trans ?_
      simp only [Ms.eqb_self, sel_true, lv]
    · rw [decide_eq_false (show ¬ ((t.len : Nat) : Int) > 273 by omega), sel_false]
      obtain ⟨dok, dck, de, denc⟩ := dec_ok hby (by omega) (by omega)
      obtain ⟨q3, Y3, r3, z3, cz3, y3, v3⟩ := s17 v2 dok z2 (by
        have := congrArg List.length denc; rw [enc_len] at this; omega)
      rw [if_pos dck, denc] at z3
      rw [dck] at r3
      have hb3 := ((hbt.ext w9 y1).ext v1 y2).ext v2 y3
      rw [de]
      simp only [i0, i1, i2, i3, i4, i5, i6, Option.bind_some, r3, beq_self_eq_true, sel_true, slB z3, slB hb3, strEq_byt hby hby, decide_true, lv]
end Go.Proofs.YtgdkkpjmjnknoaaDoor

