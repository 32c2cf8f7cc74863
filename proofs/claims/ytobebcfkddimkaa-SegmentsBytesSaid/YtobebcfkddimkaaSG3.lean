/- SegmentsBytes: the law. -/
import Derived.Test.YtobebcfkddimkaaSG2
namespace Go.Proofs.Ytobebcfkddimkaa
open Go AM Go.RowKit
set_option linter.unusedVariables false
set_option linter.unusedSimpArgs false

theorem Sg.dec_good {m : List Int} (hb : Byt m) (h1 : ¬m.length < 5) (h2 : ¬m.getD 4 0 % 128 ≥ 16) (h3 : ¬m.length > 261) : (Sg.dec m).2 = 0 ∧ (Sg.dec m).1.Ok ∧ (Sg.dec m).1.ck = 0 ∧ (Sg.dec m).1.enc = m := by
  have ed : Sg.dec m = (⟨ref4 m, decide (m.getD 4 0 ≥ 128), m.getD 4 0 % 128, m.drop 5⟩, 0) := by unfold Sg.dec; rw [if_neg h1, if_neg h2, if_neg h3]
  rw [ed]
  obtain ⟨a, b, c, d, e, r, rfl⟩ : ∃ a b c d e r, m = a :: b :: c :: d :: e :: r := by
    match m, h1 with
    | [], h => simp at h
    | [_], h => simp at h
    | [_, _], h => simp at h
    | [_, _, _], h => simp at h
    | [_, _, _, _], h => simp at h
    | a :: b :: c :: d :: e :: r, _ => exact ⟨a, b, c, d, e, r, rfl⟩
  have ha := hb a (by simp); have hbb := hb b (by simp); have hcc := hb c (by simp); have hdd := hb d (by simp); have hee := hb e (by simp)
  have e4 : (a :: b :: c :: d :: e :: r).getD 4 0 = e := rfl
  have er : ref4 (a :: b :: c :: d :: e :: r) = a * 1 + b * 256 + c * 65536 + d * 16777216 := rfl
  rw [e4] at h2
  rw [e4, er]
  have hl : r.length ≤ 256 := by simp at h3; omega
  refine ⟨rfl, ⟨by simp only; omega, by simp only; omega, fun n hn => hb n (by simp only [List.drop_succ_cons, List.drop_zero] at hn; simp [hn])⟩, ?_, ?_⟩
  · unfold Sg.ck; simp only [List.drop_succ_cons, List.drop_zero]
    rw [if_neg (by omega), if_neg (by omega)]
  · simp only [Sg.enc, Sg.hd, List.drop_succ_cons, List.drop_zero, List.cons_append, List.nil_append, List.cons.injEq, and_true, decide_eq_true_eq]
    refine ⟨by omega, by omega, by omega, by omega, ?_⟩
    split <;> omega
theorem Sg.enc_len (u : Sg) : u.enc.length = 5 + u.d.length := by simp [Sg.enc, Sg.hd]; omega
section
variable {H : Heap} {t : Sl} {m : List Int}
theorem bytes_p2 {G : Heap} (hw : G.Wf) (ht : BS G t m) (hb : Byt m) (hc : CapOk t) (hm : m.length ≤ 300) : g8_p2 g9 g19 g20 Bool t G (fun r _ => some r) = some true := by
  have hn : t.len = m.length := ht.len
  obtain ⟨s5, H5, e5, bs5, cap5, x5, w5⟩ := s20 hw ht hb hc (by omega)
  unfold g8_p2
  rw [e5]
  unfold alo
  rw [show [V.i IntKind.u32 0, V.b false, V.i IntKind.u8 0, V.sl (Sl.mk none 0 (.ex 0))] = Sg.zero.cells nilS from rfl]
  rw [show [V.i IntKind.u32 (Sg.dec m).1.r, V.b (Sg.dec m).1.f, V.i IntKind.u8 (Sg.dec m).1.l, V.sl s5] = (Sg.dec m).1.cells s5 from rfl]
  have g6 := Heap.gnew H5 (.cells (Sg.zero.cells nilS) 45 false)
  have w6 := w5.new (.cells (Sg.zero.cells nilS) 45 false)
  have p6 : (H5.new (.cells (Sg.zero.cells nilS) 45 false)).sts H5.next 0 ((Sg.dec m).1.cells s5) = some ((H5.new (.cells (Sg.zero.cells nilS) 45 false)).put H5.next (.cells ((Sg.dec m).1.cells s5) 45 false)) := sts_all g6
  have gP := Heap.gput (H5.new (.cells (Sg.zero.cells nilS) 45 false)) H5.next (.cells ((Sg.dec m).1.cells s5) 45 false)
  have wP := w6.put g6 (.cells ((Sg.dec m).1.cells s5) 45 false)
  have xP : Ext G ((H5.new (.cells (Sg.zero.cells nilS) 45 false)).put H5.next (.cells ((Sg.dec m).1.cells s5) 45 false)) := (x5.trans (Ext.new H5 _)).above x5.next _
  have bsP := bs5.ext w5 ((Ext.new H5 (.cells (Sg.zero.cells nilS) 45 false)).above (Nat.le_refl _) (.cells ((Sg.dec m).1.cells s5) 45 false))
  simp only [p6, Option.bind_some, Nat.zero_add]
  generalize hi : H5.next = i at *
  generalize hP : (H5.new (.cells (Sg.zero.cells nilS) 45 false)).put i (.cells ((Sg.dec m).1.cells s5) 45 false) = P at *
  obtain ⟨a0, a1, a2, a3⟩ := ldS gP
  have htP := ht.ext hw xP
  have z4 : ((4 : Int) == 4) = true := rfl
  have z3 : ((3 : Int) == 3) = true := rfl
  have z0 : ((0 : Int) == 0) = true := rfl
  by_cases h1 : m.length < 5
  · have ed : Sg.dec m = (.zero, 4) := by unfold Sg.dec; rw [if_pos h1]
    rw [ed] at a0
    rw [show decide (((t.len : Nat) : Int) < 5) = true by simp; omega, sel_true, ed, z4, sel_true, a0, Option.bind_some, show (Sg.zero.r == 0) = true from rfl, sel_true, s9]
  rw [show decide (((t.len : Nat) : Int) < 5) = false by simp; omega, sel_false, if_pos (by omega)]
  have hl0 : m ≠ [] := by intro e; rw [e] at h1; simp at h1
  obtain ⟨q, aq, rd⟩ := htP.at hl0
  have r4 : P.ldI .u8 q.1 (q.2 + Int.toNat 4 * 1) = some (m.getD 4 0) := rd 4 (by omega)
  have hb4 := hb.getD 4
  rw [aq, Option.bind_some, r4, Option.bind_some, tmodp hb4.1]
  by_cases h2 : m.getD 4 0 % 128 ≥ 16
  · have ed : Sg.dec m = (.zero, 4) := by unfold Sg.dec; rw [if_neg h1, if_pos h2]
    rw [ed] at a0
    rw [show decide (m.getD 4 0 % 128 > 15) = true by simp only [decide_eq_true_eq]; omega, sel_true, ed, z4, sel_true, a0, Option.bind_some, show (Sg.zero.r == 0) = true from rfl, sel_true, s9]
  rw [show decide (m.getD 4 0 % 128 > 15) = false by simp only [decide_eq_false_iff_not]; omega, sel_false]
  by_cases h3 : m.length > 261
  · have ed : Sg.dec m = (.zero, 3) := by unfold Sg.dec; rw [if_neg h1, if_neg h2, if_pos h3]
    rw [ed] at a0
    rw [show decide (((t.len : Nat) : Int) > 261) = true by simp; omega, sel_true, ed, z3, sel_true, a0, Option.bind_some, show (Sg.zero.r == 0) = true from rfl, sel_true, s9]
  rw [show decide (((t.len : Nat) : Int) > 261) = false by simp; omega, sel_false]
  obtain ⟨d1, d2, d3, d4⟩ := Sg.dec_good hb h1 h2 h3
  generalize (Sg.dec m).1 = v at *
  obtain ⟨s7, H7, e7, bs7, cap7, x7, w7⟩ := s19 wP d2 bsP (by have := v.enc_len; rw [d4] at this; omega)
  rw [if_pos d3, d4] at bs7
  rw [a0, Option.bind_some, a1, Option.bind_some, a2, Option.bind_some, a3, Option.bind_some, e7, d1, z0, sel_true, d3, z0, sel_true, slB bs7, Option.bind_some, slB (htP.ext wP x7), Option.bind_some, strEqU, decide_eq_true rfl, sel_true, s9]
theorem segmentsBytes_true (H : Heap) (hw : H.Wf) (x1 : Int) (x2 : Bool) (x3 : Int) (s : Sl) (t : Sl) (k1 : (Lit.int .u32 x1).wf = true) (k3 : (Lit.int .u8 x3).wf = true) (k4 : ArgSl H [.i .u8] s) (k5 : ArgSl H [.i .u8] t) :
    g8 Bool x1 x2 x3 s t H (fun r _ => some r) = some true := by
  obtain ⟨l, hs, hbl, hc, _, _⟩ := bs_of_arg k4
  obtain ⟨m, ht, hbm, hcm, _, _⟩ := bs_of_arg k5
  obtain ⟨u, rfl, rfl, rfl, rfl⟩ : ∃ u : Sg, u.r = x1 ∧ u.f = x2 ∧ u.l = x3 ∧ u.d = l := ⟨⟨x1, x2, x3, l⟩, rfl, rfl, rfl, rfl⟩
  have hu : u.Ok := ⟨wfU32 k1, wfU8 k3, hbl⟩
  have hn : s.len = u.d.length := hs.len
  have hnt : t.len = m.length := ht.len
  have g1 := Heap.gnew H (.cells (u.cells s) 45 false)
  have w1 := hw.new (.cells (u.cells s) 45 false)
  have y1 := Ext.new H (.cells (u.cells s) 45 false)
  show g8_p0 g9 g19 g20 Bool u.r u.f u.l s t H (fun t1 t2_0 t2_1 t5 t6 t47 H => g8_p3 g9 g19 g20 Bool t1 t2_0 t2_1 t5 t6 t47 H (fun r _ => some r)) (fun r _ => some r) = _
  unfold g8_p0 alo
  rw [show [V.i IntKind.u32 u.r, V.b u.f, V.i IntKind.u8 u.l, V.sl s] = u.cells s from rfl]
  simp only [Nat.zero_add]
  generalize hi : H.next = i at *
  generalize hG1 : H.new (.cells (u.cells s) 45 false) = G1 at *
  obtain ⟨a0, a1, a2, a3⟩ := ldS g1
  simp only [a3, Option.bind_some, s9, a0, a1, a2]
  rw [selD, selD]
  by_cases h1 : ((s.len : Nat) : Int) > 300
  · rw [if_pos h1]
  rw [if_neg h1]
  by_cases h2 : ((t.len : Nat) : Int) > 300
  · rw [if_pos h2]
  rw [if_neg h2]
  obtain ⟨s2, G2, e2, bs2, cap2, y2, w2⟩ := s19 w1 hu (hs.ext hw y1) (by omega)
  have gi2 := y2.get w1 g1
  obtain ⟨b0, b1, b2, b3⟩ := ldS gi2
  have ht2 := ht.ext hw (y1.trans y2)
  have hu1 := hu.r; have hu2 := hu.l
  rw [e2, b2, Option.bind_some, b3, Option.bind_some]
  -- what stands behind
  have rest : g8_p3 g9 g19 g20 Bool t i 0 s2 u.ck false G2 (fun r _ => some r) = some true := by
    have p2 := bytes_p2 w2 ht2 hbm hcm (by omega)
    unfold g8_p3 g8_p1
    rw [sel_false]
    by_cases hk : u.ck = 0
    · rw [if_pos hk] at bs2
      have hl16 : u.l < 16 := by unfold Sg.ck at hk; split at hk <;> omega
      have n2 : s2.len = 5 + u.d.length := by rw [bs2.len, u.enc_len]
      obtain ⟨q, aq, rd⟩ := bs2.at (by intro e; have := u.enc_len; rw [e] at this; simp at this; omega)
      have el := u.enc_len
      have r0 : G2.ldI .u8 q.1 (q.2 + Int.toNat 0 * 1) = some (u.r % 256) := rd 0 (by omega)
      have r1 : G2.ldI .u8 q.1 (q.2 + Int.toNat 1 * 1) = some (u.r / 256 % 256) := rd 1 (by omega)
      have r2 : G2.ldI .u8 q.1 (q.2 + Int.toNat 2 * 1) = some (u.r / 65536 % 256) := rd 2 (by omega)
      have r3 : G2.ldI .u8 q.1 (q.2 + Int.toNat 3 * 1) = some (u.r / 16777216) := rd 3 (by omega)
      have r4 : G2.ldI .u8 q.1 (q.2 + Int.toNat 4 * 1) = some (if u.f then u.l + 128 else u.l) := rd 4 (by omega)
      have c0 : 0 ≤ (0 : Int) ∧ (0 : Int) < ((s2.len : Nat) : Int) := by omega
      have c1 : 0 ≤ (1 : Int) ∧ (1 : Int) < ((s2.len : Nat) : Int) := by omega
      have c2 : 0 ≤ (2 : Int) ∧ (2 : Int) < ((s2.len : Nat) : Int) := by omega
      have c3 : 0 ≤ (3 : Int) ∧ (3 : Int) < ((s2.len : Nat) : Int) := by omega
      have c4 : 0 ≤ (4 : Int) ∧ (4 : Int) < ((s2.len : Nat) : Int) := by omega
      have wl : IntKind.wrap .i64 ((5 : Int) + ((s.len : Nat) : Int)) = ((s2.len : Nat) : Int) := by rw [w64 (by omega)]; omega
      have sum : IntKind.wrap .u32 ((IntKind.wrap .u32 ((IntKind.wrap .u32 ((IntKind.wrap .u32 (u.r % 256)) + (IntKind.wrap .u32 ((256 : Int) * (IntKind.wrap .u32 (u.r / 256 % 256)))))) + (IntKind.wrap .u32 ((65536 : Int) * (IntKind.wrap .u32 (u.r / 65536 % 256)))))) + (IntKind.wrap .u32 ((16777216 : Int) * (IntKind.wrap .u32 (u.r / 16777216))))) = u.r := by
        simp only [wr32]; omega
      have v4 : Int.tmod (if u.f then u.l + 128 else u.l) 128 = u.l := by
        rw [tmodp (by split <;> omega)]; split <;> omega
      have f4 : decide ((if u.f then u.l + 128 else u.l) ≥ 128) = u.f := by
        cases u.f
        · simp; omega
        · simp; omega
      obtain ⟨s3, e3, bs3, _, _⟩ := slOf_from (by unfold CapOk; rw [cap2]; exact Nat.le_refl _) bs2 (k := 5) (by omega)
      have e3' := e3 Bool
      rw [show ((5 : Nat) : Int) = 5 from rfl] at e3'
      rw [show u.enc.drop 5 = u.d from rfl] at bs3
      rw [hk, show ((0 : Int) == 0) = true from rfl, sel_true]
      simp only [Nat.zero_add, b3, Option.bind_some, wl, bne_self_eq_false, sel_false, aq, r0, r1, r2, r3, r4, if_pos c0, if_pos c1, if_pos c2, if_pos c3, if_pos c4, b0, sum, b2, v4, b1, f4, beq_self_eq_true, Bool.not_true, e3', slB bs3, slB (hs.ext hw (y1.trans y2)), strEqU, decide_true]
      exact p2
    · rw [show (u.ck == 0) = false by simpa using hk, sel_false]
      exact p2
  have z0 : ((0 : Int) != 0) = false := rfl
  by_cases h3 : u.l > 15
  · have hk : u.ck = 1 := by unfold Sg.ck; rw [if_pos (by omega)]
    rw [hk, if_neg (by omega)] at bs2
    have n2 : s2.len = 0 := bs2.len
    rw [show decide (u.l > 15) = true by simpa using h3, sel_true]
    rw [hk] at rest ⊢
    rw [show ((1 : Int) != 1) = false from rfl, sel_false, show ((1 : Int) != 0) = true from rfl, sel_true, show decide (((s2.len : Nat) : Int) > 0) = false by rw [n2]; rfl]
    exact rest
  rw [show decide (u.l > 15) = false by simpa using h3, sel_false]
  by_cases h4 : u.d.length > 256
  · have hk : u.ck = 3 := by unfold Sg.ck; rw [if_neg (by omega), if_pos h4]
    rw [hk, if_neg (by omega)] at bs2
    have n2 : s2.len = 0 := bs2.len
    rw [show decide (((s.len : Nat) : Int) > 256) = true by simp; omega, sel_true]
    rw [hk] at rest ⊢
    rw [show ((3 : Int) != 3) = false from rfl, sel_false, show ((3 : Int) != 0) = true from rfl, sel_true, show decide (((s2.len : Nat) : Int) > 0) = false by rw [n2]; rfl]
    exact rest
  have hk : u.ck = 0 := by unfold Sg.ck; rw [if_neg (by omega), if_neg h4]
  rw [show decide (((s.len : Nat) : Int) > 256) = false by simp; omega, sel_false]
  rw [hk] at rest ⊢
  rw [z0, sel_false, sel_false]
  exact rest
end
end Go.Proofs.Ytobebcfkddimkaa

