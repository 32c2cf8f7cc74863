/- LabelsBack. -/
import Derived.Test.YtgdkkpjmjnknoaaDoorLB7
namespace Go.Proofs.YtgdkkpjmjnknoaaDoor
open Go AM Go.RowKit
set_option linter.unusedVariables false
set_option linter.unusedSimpArgs false

theorem capK_ex {R : Type} (c : Nat) (K : Nat → Option R) : capK (.ex c) K = K c := rfl
set_option maxHeartbeats 400000 in
theorem back_true (H : Heap) (hw : H.Wf) {m : Ms} (hm : m.Ok) {s : Sl} (h : BS H s m.d) (hc : CapOk s) {t : Sl} {l : List Int} (hb : BS H t l) (hby : Byt l) (hct : CapOk t) : g8 Bool m.sv m.nw m.pr m.dt m.fr m.sl s t H (fun r _ => some r) = some true := by
  have g1 := Heap.gnew H (.cells (m.cells s) 55 false)
  have x1 := Ext.new H (.cells (m.cells s) 55 false)
  have w1 := hw.new (.cells (m.cells s) 55 false)
  have dd : g8 Bool m.sv m.nw m.pr m.dt m.fr m.sl s t H (fun r _ => some r) = g8_p0 g22 g17 g23 g24 g25 g12 Bool m.sv m.nw m.pr m.dt m.fr m.sl s t H (fun t1 t60 H => g8_p1 g22 g17 g23 g24 g25 g12 Bool t1 t60 H (fun t4 H => some t4)) (fun t4 H => some t4) := rfl
  rw [dd]
  simp only [g8_p0, alo]
  rw [cells_eq m s, ← Ms.zero_cells]
  generalize H.new (.cells (m.cells s) 55 false) = X1 at *
  obtain ⟨a0, a1, a2, a3, a4, a5, a6⟩ := ldM g1
  obtain ⟨s2, X2, p2, b2, x2, w2⟩ := s22 w1 hm (h.ext hw x1) hc
  obtain ⟨ok, ck⟩ := Ms.of_ok hm
  have l40 : m.of.d.length ≤ 40 := by simp [Ms.of]; omega
  simp only [Nat.zero_add, a0, a1, a2, a3, a4, a5, a6, Option.bind_some, p2]
  generalize m.of = u at *
  -- the message
  have g3 := Heap.gnew X2 (.cells (Ms.zero.cells nilS) 38 false)
  have st3 := stsM (v := u) (s' := s2) g3
  have w3 : ((X2.new (.cells (Ms.zero.cells nilS) 38 false)).put X2.next (.cells (u.cells s2) 38 false)).Wf := (w2.new _).put g3 _
  have x3 : Ext X2 ((X2.new (.cells (Ms.zero.cells nilS) 38 false)).put X2.next (.cells (u.cells s2) 38 false)) := (Ext.new _ _).above (Nat.le_refl _) _
  have g4 := Heap.gput (X2.new (.cells (Ms.zero.cells nilS) 38 false)) X2.next (.cells (u.cells s2) 38 false)
  rw [cells_eq u s2, st3, Option.bind_some]
  generalize (X2.new (.cells (Ms.zero.cells nilS) 38 false)).put X2.next (.cells (u.cells s2) 38 false) = X3 at *
  have b3 := b2.ext w2 x3
  obtain ⟨c0, c1, c2, c3, c4, c5, c6⟩ := ldM g4
  obtain ⟨s4, X4, p4, b4, cp4, x4, w4⟩ := s17 w3 ok b3 (by omega)
  rw [if_pos ck] at b4
  rw [ck] at p4
  have g5 := x4.get w3 g4
  obtain ⟨d0, d1, d2, d3, d4, d5, d6⟩ := ldM g5
  have b5 := b3.ext w3 x4
  obtain ⟨s6, X6, p6, b6, x6, w6⟩ := s23 w4 ok ck b5
  have b4' := b4.ext w4 x6
  have eb := enc_byt ok ck
  obtain ⟨s7, X7, p7, b7, cp7, x7, w7⟩ := s24 w6 b4' eb (by unfold CapOk; rw [cp4]; exact Nat.le_refl _) (by rw [enc_len]; omega)
  rw [dec_enc ok ck] at p7 b7
  simp only [c0, c1, c2, c3, c4, c5, c6, Option.bind_some]
  rw [p4]
  rw [bne_self_eq_false, sel_false, cp4, capK_ex, bne_self_eq_false, sel_false]
  rw [slB b4]
  simp only [d0, d1, d2, d3, d4, d5, d6, Option.bind_some]
  rw [p6]
  simp only [slB b4', Option.bind_some]
  rw [if_pos same_s, slB b6, Option.bind_some, strEq_byt eb eb, decide_eq_true rfl, Bool.not_true, sel_false]
  rw [p7]
  -- what was decoded
  have g8 := Heap.gnew X7 (.cells (Ms.zero.cells nilS) 38 false)
  have st8 := stsM (v := u) (s' := s7) g8
  have w8 : ((X7.new (.cells (Ms.zero.cells nilS) 38 false)).put X7.next (.cells (u.cells s7) 38 false)).Wf := (w7.new _).put g8 _
  have x8 : Ext X7 ((X7.new (.cells (Ms.zero.cells nilS) 38 false)).put X7.next (.cells (u.cells s7) 38 false)) := (Ext.new _ _).above (Nat.le_refl _) _
  have g9 := Heap.gput (X7.new (.cells (Ms.zero.cells nilS) 38 false)) X7.next (.cells (u.cells s7) 38 false)
  rw [cells_eq u s7, st8, Option.bind_some]
  have g5' := x8.get w7 (x7.get w6 (x6.get w4 g5))
  have xall : Ext H ((X7.new (.cells (Ms.zero.cells nilS) 38 false)).put X7.next (.cells (u.cells s7) 38 false)) := ((((((x1.trans x2).trans x3).trans x4).trans x6).trans x7).trans x8)
  generalize (X7.new (.cells (Ms.zero.cells nilS) 38 false)).put X7.next (.cells (u.cells s7) 38 false) = X8 at *
  obtain ⟨e0, e1, e2, e3, e4, e5, e6⟩ := ldM g9
  obtain ⟨f0, f1, f2, f3, f4, f5, f6⟩ := ldM g5'
  have b8 := b7.ext w7 x8
  have b9 : BS X8 s2 u.d := (((b5.ext w4 x6).ext w6 x7).ext w7 x8)
  obtain ⟨X9, p9, x9, w9⟩ := s25 (a := u) (b := u) w8 ok.d ok.d b8 b9
  have g10 := x9.get w8 g9
  simp only [e0, e1, e2, e3, e4, e5, e6, f0, f1, f2, f3, f4, f5, f6, Option.bind_some, p9, Ms.eqb_self, Bool.not_true, sel_false, (ldM g10).2.2.2.2.2.2]
  rw [cp7, capK_ex]
  simp only [bne_self_eq_false]
  have xt := xall.trans x9
  exact back_p1 w9 (hb.ext hw xt) hby hct
theorem labelsBack_true (H : Heap) (hw : H.Wf) (a b c d e f : Int) (s t : Sl) (h0 : (Lit.int .u8 a).wf = true) (h1 : (Lit.int .u8 b).wf = true) (h2 : (Lit.int .u8 c).wf = true) (h3 : (Lit.int .u16 d).wf = true) (h4 : (Lit.int .u16 e).wf = true) (h5 : (Lit.int .u8 f).wf = true) (hs : ArgSl H [.i .u8] s) (ht : ArgSl H [.i .u8] t) :
    g8 Bool a b c d e f s t H (fun r _ => some r) = some true := by
  obtain ⟨m, ok, b1, c1, rfl, rfl, rfl, rfl, rfl, rfl⟩ := ms_of_args hw h0 h1 h2 h3 h4 h5 hs
  obtain ⟨l, b2, b3, b4, _, _⟩ := bs_of_arg ht
  exact back_true H hw ok b1 c1 b2 b3 b4
end Go.Proofs.YtgdkkpjmjnknoaaDoor

