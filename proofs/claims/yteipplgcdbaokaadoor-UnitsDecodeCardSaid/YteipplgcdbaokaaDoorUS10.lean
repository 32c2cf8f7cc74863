/- UnitsDecode: the law. -/
import Derived.Test.YteipplgcdbaokaaDoorUS8
namespace Go.Proofs.YteipplgcdbaokaaDoor
open Go AM Go.RowKit
set_option linter.unusedVariables false
set_option linter.unusedSimpArgs false

theorem dec_len {l : List Int} (h : l.length < 3 ∨ l.length > 276) : dec l = (.zero, 5) := by unfold dec; rw [if_pos h]
theorem dec_head {l : List Int} (h : ¬(l.length < 3 ∨ l.length > 276)) (h2 : l.getD 2 0 ≠ min ((l.length : Int) - 3) 63) : dec l = (.zero, 4) := by unfold dec; rw [if_neg h, if_pos h2]
theorem dec_step {l : List Int} (h : l.length = 4) (h3 : l.getD 3 0 > 5) : (dec l) = (.zero, 4) := by
  unfold dec
  repeat' split
  all_goals first | rfl | (exfalso; omega)
theorem hi7_b {n : Int} (h : 0 ≤ n ∧ n ≤ 255) : hi7 (n % 128) (decide (n ≥ 128)) = n := by
  unfold hi7
  by_cases c : n ≥ 128
  · simp only [c, decide_true, if_true]; omega
  · simp only [c, decide_false]; rw [if_neg (by simp)]; omega
theorem dec_good {l : List Int} (hb : Byt l) (h : ¬(l.length < 3 ∨ l.length > 276)) (h2 : l.getD 2 0 = min ((l.length : Int) - 3) 63) (h3 : l.length = 4 → l.getD 3 0 ≤ 5) :
    (dec l).2 = 0 ∧ (dec l).1.Ok ∧ (dec l).1.ck = 0 ∧ (dec l).1.enc = l := by
  obtain ⟨a, b, c, r, rfl⟩ : ∃ a b c r, l = a :: b :: c :: r := by
    match l, h with
    | [], h => simp at h
    | [_], h => simp at h
    | [_, _], h => simp at h
    | a :: b :: c :: r, _ => exact ⟨a, b, c, r, rfl⟩
  have ha := hb a (by simp); have hbb := hb b (by simp)
  have hr : Byt r := fun n hn => hb n (by simp [hn])
  have hc : c = min (r.length : Int) 63 := by
    simp only [List.length_cons, List.getD_cons_succ, List.getD_cons_zero] at h2
    omega
  have e0 : (a :: b :: c :: r).getD 0 0 = a := rfl
  have e1 : (a :: b :: c :: r).getD 1 0 = b := rfl
  have e3 : (a :: b :: c :: r).getD 3 0 = r.getD 0 0 := rfl
  have hdh : Un.hd (a :: b :: c :: r) = ⟨a % 128, decide (a ≥ 128), b % 128, decide (b ≥ 128), 0, 0, []⟩ := rfl
  have hn : (a :: b :: c :: r).length = r.length + 3 := rfl
  have hd : dec (a :: b :: c :: r) = if r.length = 0 then (.hd (a :: b :: c :: r), 0) else if r.length = 1 then ({ Un.hd (a :: b :: c :: r) with k := 1, st := r.getD 0 0 }, 0) else ({ Un.hd (a :: b :: c :: r) with k := 2, ld := r }, 0) := by
    unfold dec
    rw [if_neg h, if_neg (by simpa using h2)]
    by_cases c0 : r.length = 0
    · rw [if_pos (by omega), if_pos c0]
    rw [if_neg (by omega), if_neg c0]
    by_cases c1 : r.length = 1
    · rw [if_pos (by omega), if_pos c1, e3, if_neg (by have := h3 (by omega); rw [e3] at this; omega)]
    · rw [if_neg (by omega), if_neg c1]; rfl
  rw [hd, hdh]
  by_cases c0 : r.length = 0
  · have : r = [] := List.length_eq_zero_iff.1 c0
    rw [if_pos c0]
    subst this
    refine ⟨rfl, ⟨by simp only; omega, by simp only; omega, by simp, by simp, fun n hn => by simp at hn⟩, ?_, ?_⟩
    · unfold Un.ck; simp only
      rw [if_neg (by omega), if_neg (by simp)]
    · simp only [Un.enc, Un.rest, hi7_b ha, hi7_b hbb, hc]; rfl
  rw [if_neg c0]
  by_cases c1 : r.length = 1
  · obtain ⟨x, rfl⟩ := List.length_eq_one_iff.1 c1
    have h5 : x ≤ 5 := h3 (by simp)
    have hx := hr x (by simp)
    rw [if_pos c1]
    refine ⟨rfl, ⟨by simp only; omega, by simp only; omega, by simp, hx, fun n hn => by simp at hn⟩, ?_, ?_⟩
    · unfold Un.ck; simp only [List.getD_cons_zero]
      rw [if_neg (by omega), if_neg (by simp)]
    · simp only [Un.enc, Un.rest, hi7_b ha, hi7_b hbb, hc]; rfl
  rw [if_neg c1]
  have hm : r.length ≤ 273 := by simp at h; omega
  refine ⟨rfl, ⟨by simp only; omega, by simp only; omega, by simp, by simp, hr⟩, ?_, ?_⟩
  · unfold Un.ck; simp only
    rw [if_neg (by omega), if_neg (by omega)]
  · simp only [Un.enc, Un.rest, hi7_b ha, hi7_b hbb, hc]; rfl
theorem zero_true {H G : Heap} {i : Nat} {s : Sl} (hw : G.Wf) (g : G.get i = some (.cells (Un.zero.cells s) 25 false)) (h : BS G s []) :
    ((G.ldI .u8 i 0).bind fun x0 => (G.ldB i 1).bind fun x1 => (G.ldI .u8 i 2).bind fun x2 => (G.ldB i 3).bind fun x3 => (G.ldI .u8 i 4).bind fun x4 => (G.ldI .u8 i 5).bind fun x5 => (G.ldSl i 6).bind fun x6 =>
      g16 Bool x0 x1 x2 x3 x4 x5 x6 0 false 0 false 0 0 (Sl.mk none 0 (.ex 0)) G fun x h => sel x (g8 Bool h fun x h => some x) (some false)) = some true := by
  obtain ⟨a0, a1, a2, a3, a4, a5, a6⟩ := ldU (H0 := H) g
  obtain ⟨G', e, _, _⟩ := @s16 G s nilS .zero .zero hw h (.nil _) (by simp [Un.zero])
  simp only [a0, a1, a2, a3, a4, a5, a6, Option.bind_some]
  rw [show g16 Bool Un.zero.b Un.zero.bb Un.zero.f Un.zero.fb Un.zero.k Un.zero.st s 0 false 0 false 0 0 (Sl.mk none 0 (.ex 0)) G (fun x h => sel x (g8 Bool h fun x h => some x) (some false)) = _ from e Bool _, sameU_refl, sel_true, s8]
theorem unitsDecode_true (H : Heap) (hw : H.Wf) (t : Sl) (k : ArgSl H [.i .u8] t) : g4 Bool t H (fun r _ => some r) = some true := by
  obtain ⟨l, ht, hb, hc, _, _⟩ := bs_of_arg k
  have hn : t.len = l.length := ht.len
  show g4_p0 g8 g15 g16 g10 g9 g13 g14 g17 Bool t H (fun t0 t3_0 t3_1 t4 t6 H => g4_p1 g8 g15 g16 g10 g9 g13 g14 g17 Bool t0 t3_0 t3_1 t4 t6 H _) _ = _
  unfold g4_p0
  rw [selD, s8]
  split
  · rfl
  rename_i hl
  obtain ⟨s, H1, e15, bs, cap, x1, w1⟩ := s15 hw ht hb hc (by omega)
  rw [e15]
  unfold alo
  have g2 := Heap.gnew H1 (.cells (Un.zero.cells nilS) 25 false)
  have w2 := w1.new (.cells (Un.zero.cells nilS) 25 false)
  have x2 := x1.trans (Ext.new H1 (.cells (Un.zero.cells nilS) 25 false))
  have bs2 := bs.ext w1 (Ext.new H1 (.cells (Un.zero.cells nilS) 25 false))
  have hnn : H.next ≤ H1.next := x1.next
  generalize hi : H1.next = i at *
  rw [show [V.i IntKind.u8 0, V.b false, V.i IntKind.u8 0, V.b false, V.i IntKind.u8 0, V.i IntKind.u8 0, V.sl (Sl.mk none 0 (.ex 0))] = Un.zero.cells nilS from rfl]
  simp only [Nat.zero_add]
  have p1 : (H1.new (.cells (Un.zero.cells nilS) 25 false)).sts i 0 ((dec l).1.cells s) = some ((H1.new (.cells (Un.zero.cells nilS) 25 false)).put i (.cells ((dec l).1.cells s) 25 false)) := sts_all g2
  rw [show [V.i IntKind.u8 (dec l).1.b, V.b (dec l).1.bb, V.i IntKind.u8 (dec l).1.f, V.b (dec l).1.fb, V.i IntKind.u8 (dec l).1.k, V.i IntKind.u8 (dec l).1.st, V.sl s] = (dec l).1.cells s from rfl, p1, Option.bind_some]
  have gP := Heap.gput (H1.new (.cells (Un.zero.cells nilS) 25 false)) i (.cells ((dec l).1.cells s) 25 false)
  have wP := w2.put g2 (.cells ((dec l).1.cells s) 25 false)
  have xP : Ext H ((H1.new (.cells (Un.zero.cells nilS) 25 false)).put i (.cells ((dec l).1.cells s) 25 false)) := x2.above hnn _
  have bsP : BS ((H1.new (.cells (Un.zero.cells nilS) 25 false)).put i (.cells ((dec l).1.cells s) 25 false)) s (dec l).1.ld := bs.ext w1 ((Ext.new H1 _).above (by omega) _)
  generalize hP : (H1.new (.cells (Un.zero.cells nilS) 25 false)).put i (.cells ((dec l).1.cells s) 25 false) = P at *
  have htP := ht.ext hw xP
  have zt : (dec l).1 = .zero → _ := fun hz => zero_true (H := H) (s := s) wP (hz ▸ gP) (show BS P s Un.zero.ld from hz ▸ bsP)
  by_cases c1 : l.length < 3
  · have hd := dec_len (.inl c1)
    have zt := zt (by rw [hd])
    rw [selD, if_pos (by omega), hd, show ((5 : Int) == 5) = true from rfl, sel_true]
    exact zt
  rw [selD, if_neg (by omega)]
  by_cases c2 : l.length > 276
  · have hd := dec_len (.inr c2)
    have zt := zt (by rw [hd])
    rw [selD, if_pos (by omega), hd, show ((5 : Int) == 5) = true from rfl, sel_true]
    exact zt
  rw [selD, if_neg (by omega)]
  have hl0 : l ≠ [] := by intro e; rw [e] at c1; simp at c1
  obtain ⟨q, aq, rd⟩ := htP.at hl0
  have r2 : P.ldI .u8 q.1 (q.2 + Int.toNat 2 * 1) = some (l.getD 2 0) := rd 2 (by omega)
  have b2 : 0 ≤ (2 : Int) ∧ (2 : Int) < ((t.len : Nat) : Int) := by omega
  have hb2 := hb.getD 2
  have v2 : IntKind.wrap .i64 (l.getD 2 0) = l.getD 2 0 := w64 (by omega)
  have v3 : IntKind.wrap .i64 (((t.len : Nat) : Int) - 3) = (l.length : Int) - 3 := by rw [w64 (by omega)]; omega
  have v1 : IntKind.wrap .i64 (((t.len : Nat) : Int) - 1) = (l.length : Int) - 1 := by rw [w64 (by omega)]; omega
  have mn : (if (63 : Int) < (l.length : Int) - 3 then (63 : Int) else (l.length : Int) - 3) = min ((l.length : Int) - 3) 63 := by split <;> omega
  rw [if_pos b2, aq, Option.bind_some, r2, Option.bind_some, v2, v3, v1, mn]
  -- the second part, where it is refused
  have bad : dec l = (.zero, 4) → g4_p1 g8 g15 g16 g10 g9 g13 g14 g17 Bool t i 0 (dec l).2 false P (fun r _ => some r) = some true := fun hd => by
    have zt := zt (by rw [hd])
    unfold g4_p1
    rw [Bool.not_false, sel_true, hd, show ((4 : Int) == 4) = true from rfl, sel_true]
    simp only [Nat.zero_add]
    exact zt
  have good : (dec l).2 = 0 ∧ (dec l).1.Ok ∧ (dec l).1.ck = 0 ∧ (dec l).1.enc = l → (dec l).1.ld.length ≤ 1000 → g4_p1 g8 g15 g16 g10 g9 g13 g14 g17 Bool t i 0 (dec l).2 true P (fun r _ => some r) = some true := fun hd hl1 => by
    obtain ⟨d1, d2, d3, d4⟩ := hd
    generalize (dec l).1 = u at *
    unfold g4_p1
    rw [Bool.not_true, sel_false, d1]
    obtain ⟨a0, a1, a2, a3, a4, a5, a6⟩ := ldU (H0 := H) gP
    obtain ⟨s2, P2, e2, bs2', cp2, x3, w3⟩ := s10 wP d2 bsP cap hl1
    have gP2 := x3.get wP gP
    obtain ⟨b0, b1, b2, b3, b4, b5, b6⟩ := ldU (H0 := H) gP2
    have e9 := fun (R : Type) K => @s9 R P2 s u bsP.len K
    have x4 := Ext.new P2 (.cells (u.cells s) 25 false)
    have w4 := w3.new (.cells (u.cells s) 25 false)
    have gP3 := x4.get w3 gP2
    obtain ⟨c0, c1, c2, c3, c4, c5, c6⟩ := ldU (H0 := H) gP3
    have htP3 := htP.ext wP (x3.trans x4)
    have bs3 := bs2'.ext w3 x4
    obtain ⟨s4, P4, e4, bs4, x5, w5⟩ := s14 w4 d2 d3 (bsP.ext wP (x3.trans x4))
    have htP4 := htP3.ext w4 x5
    rw [if_pos d3, d4] at bs3
    rw [d4] at bs4
    have e13 := fun (R : Type) K => s13 (R := R) cp2 bs3 htP3 (by omega) K
    have e17 := fun (R : Type) K => refSame_ok (R := R) bs4 htP4 (by omega) K
    have z0 : ((0 : Int) == 0) = true := rfl
    simp only [Nat.zero_add, a0, a1, a2, a3, a4, a5, a6, Option.bind_some, e2, d3, z0, sel_true, b0, b1, b2, b3, b4, b5, b6]
    rw [e9, d3, z0, sel_true, e13, if_pos rfl, z0, sel_true]
    simp only [c0, c1, c2, c3, c4, c5, c6, Option.bind_some]
    rw [e4, e17, decide_eq_true rfl, sel_true, s8]
  by_cases c3 : l.getD 2 0 = min ((l.length : Int) - 3) 63
  · rw [show (l.getD 2 0 == min ((l.length : Int) - 3) 63) = true by simpa using c3, sel_true]
    have hl1 : (dec l).1.ld.length ≤ 1000 := by
      unfold dec
      repeat' split
      all_goals first | (simp [Un.zero, Un.hd]; done) | (simp; omega)
    by_cases c4 : l.length = 4
    · rw [show ((l.length : Int) - 3 != 1) = false by rw [c4]; rfl, sel_false]
      have b3 : 0 ≤ (l.length : Int) - 1 ∧ (l.length : Int) - 1 < ((t.len : Nat) : Int) := by omega
      have r3 : P.ldI .u8 q.1 (q.2 + Int.toNat ((l.length : Int) - 1) * 1) = some (l.getD 3 0) := by
        rw [show Int.toNat ((l.length : Int) - 1) = 3 by omega]; exact rd 3 (by omega)
      rw [if_pos b3, Option.bind_some, r3, Option.bind_some]
      by_cases c5 : l.getD 3 0 ≤ 5
      · rw [decide_eq_true c5]
        exact good (dec_good hb (by omega) c3 fun _ => c5) hl1
      · rw [decide_eq_false c5]
        exact bad (dec_step c4 (by omega))
    · rw [show ((l.length : Int) - 3 != 1) = true by simp; omega, sel_true]
      exact good (dec_good hb (by omega) c3 fun h => absurd h c4) hl1
  · rw [show (l.getD 2 0 == min ((l.length : Int) - 3) 63) = false by simpa using c3, sel_false]
    exact bad (dec_head (by omega) c3)
end Go.Proofs.YteipplgcdbaokaaDoor

