/- Labels: Decode, Copy, Same; a law's message. -/
import Derived.Test.YtgdkkpjmjnknoaaDoorLB3
namespace Go.Proofs.YtgdkkpjmjnknoaaDoor
open Go AM Go.RowKit
set_option linter.unusedVariables false
set_option linter.unusedSimpArgs false

theorem Ms.zero_cells : Ms.zero.cells nilS = [V.i .u8 0, V.i .u8 0, V.i .u8 0, V.i .u16 0, V.i .u16 0, V.i .u8 0, V.sl ⟨none, 0, .ex 0⟩] := rfl
/-- a copy of octets, without room -/
theorem s33 {H : Heap} (hw : H.Wf) {s : Sl} {l : List Int} (h : BS H s l) (hl : l.length ≤ 140737488355328) : ∃ s' H', (∀ (R : Type) (K : Sl → Heap → Option R), g33 R s H K = K s' H') ∧ BS H' s' l ∧ s'.cap = .ex s'.len ∧ Ext H H' ∧ H'.Wf ∧ (l = [] ∨ ∃ id, s'.a = some (id, 0) ∧ H.next ≤ id ∧ H'.get id = some (.cells (bcs l) 5 false)) := by
  obtain ⟨s1, H1, e1, c1⟩ := clone_ok hw h hl
  refine ⟨⟨s1.a, s1.len, .ex s1.len⟩, H1, fun R K => ?_, c1.bs.clipped, rfl, c1.ext, c1.wf, c1.own⟩
  simp only [g33, g33_r, g33_p0, e1, clip_ok c1.cap]
def num4 (l : List Int) : Int := l.getD 1 0 * 1 + l.getD 2 0 * 256 + l.getD 3 0 * 65536 + l.getD 4 0 * 16777216
def Ms.dec (l : List Int) : Ms × Int :=
  if l.length < 5 then (.zero, 4)
  else if l.length > 273 then (.zero, 3)
  else (⟨l.getD 0 0 % 16, l.getD 0 0 / 64, l.getD 0 0 / 16 % 4, num4 l % 16384, num4 l / 16384 % 16384, num4 l / 268435456, l.drop 5⟩, 0)
theorem b0_all : ∀ n : Fin 256, bvAnd .u8 ((n.val : Nat) : Int) 15 = ((n.val : Nat) : Int) % 16 ∧ shrI .u8 ((n.val : Nat) : Int) 6 = ((n.val : Nat) : Int) / 64 ∧ bvAnd .u8 (shrI .u8 ((n.val : Nat) : Int) 4) 3 = ((n.val : Nat) : Int) / 16 % 4 := by decide +kernel
theorem b0_eq {n : Int} (h : 0 ≤ n ∧ n ≤ 255) : bvAnd .u8 n 15 = n % 16 ∧ shrI .u8 n 6 = n / 64 ∧ bvAnd .u8 (shrI .u8 n 4) 3 = n / 16 % 4 := by
  have := b0_all ⟨n.toNat, by omega⟩
  simp only at this
  rwa [show ((n.toNat : Nat) : Int) = n by omega] at this
theorem and14 {n : Int} (h : 0 ≤ n ∧ n ≤ 4294967295) : bvAnd .u32 n 16383 = n % 16384 := by
  obtain ⟨k, rfl⟩ := Int.eq_ofNat_of_zero_le h.1
  have hk : k < 4294967296 := by omega
  unfold bvAnd
  have : (BitVec.ofInt (IntKind.bits .u32) ((k : Nat) : Int) &&& BitVec.ofInt (IntKind.bits .u32) 16383).toNat = k % 16384 := by
    rw [BitVec.ofInt_natCast, show (16383 : Int) = ((16383 : Nat) : Int) from rfl, BitVec.ofInt_natCast]
    show (BitVec.ofNat 32 k &&& BitVec.ofNat 32 16383).toNat = _
    rw [BitVec.toNat_and, BitVec.toNat_ofNat, BitVec.toNat_ofNat, Nat.mod_eq_of_lt (by omega), Nat.mod_eq_of_lt (by omega)]
    exact Nat.and_two_pow_sub_one_eq_mod k 14
  rw [this, wr32]; omega
theorem shr14 {n : Int} (h : 0 ≤ n ∧ n ≤ 4294967295) : shrI .u32 n 14 = n / 16384 := by
  show n.fdiv 16384 = _; rw [Int.fdiv_eq_ediv_of_nonneg _ (by omega)]
theorem shr28 {n : Int} (h : 0 ≤ n ∧ n ≤ 4294967295) : shrI .u32 n 28 = n / 268435456 := by
  show n.fdiv 268435456 = _; rw [Int.fdiv_eq_ediv_of_nonneg _ (by omega)]
theorem num4_bd {l : List Int} (hb : Byt l) : 0 ≤ num4 l ∧ num4 l ≤ 4294967295 := by
  have h1 := hb.getD 1; have h2 := hb.getD 2; have h3 := hb.getD 3; have h4 := hb.getD 4
  unfold num4; omega
theorem same_agg3 {a b : Int} {c : Int} : V.same (.agg [.i .u16 a, .i .u16 b, .i .u8 c]) (.agg [.i .u16 a, .i .u16 b, .i .u8 c]) = true := by
  simp [V.same, sames, V.same1]
theorem s24 {H : Heap} (hw : H.Wf) {t : Sl} {l : List Int} (h : BS H t l) (hb : Byt l) (hc : CapOk t) (hm : l.length ≤ 100000) :
    ∃ s' H', (∀ (R : Type) (K : Int → Int → Int → Int → Int → Int → Sl → Int → Heap → Option R), g24 R t H K = K (Ms.dec l).1.sv (Ms.dec l).1.nw (Ms.dec l).1.pr (Ms.dec l).1.dt (Ms.dec l).1.fr (Ms.dec l).1.sl s' (Ms.dec l).2 H') ∧ BS H' s' (Ms.dec l).1.d ∧ s'.cap = .ex s'.len ∧ Ext H H' ∧ H'.Wf := by
  have hn : t.len = l.length := h.len
  have g1 := Heap.gnew H (.cells (Ms.zero.cells nilS) 38 false)
  have w1 := hw.new (.cells (Ms.zero.cells nilS) 38 false)
  have x1 := Ext.new H (.cells (Ms.zero.cells nilS) 38 false)
  have hil : H.next < (H.new (.cells (Ms.zero.cells nilS) 38 false)).next := by simp
  have hd : ∀ (R : Type) (K : Int → Int → Int → Int → Int → Int → Sl → Int → Heap → Option R), g24 R t H K = g24_p6 g33 R t H fun t2_0 t2_1 t3 G => (G.ldI .u8 t2_0 (t2_1 + 0)).bind fun x39 => (G.ldI .u8 t2_0 (t2_1 + 1)).bind fun x40 => (G.ldI .u8 t2_0 (t2_1 + 2)).bind fun x41 => (G.ldI .u16 t2_0 (t2_1 + 3)).bind fun x42 => (G.ldI .u16 t2_0 (t2_1 + 4)).bind fun x43 => (G.ldI .u8 t2_0 (t2_1 + 5)).bind fun x44 => (G.ldSl t2_0 (t2_1 + 6)).bind fun x45 => K x39 x40 x41 x42 x43 x44 x45 t3 G := fun _ _ => rfl
  generalize hi : H.next = i at *
  have fin : ∀ {R : Type} (K : Int → Int → Int → Int → Int → Int → Sl → Int → Heap → Option R) (G : Heap) (m : Ms) (s : Sl) (e : Int), G.get i = some (.cells (m.cells s) 38 false) →
      ((G.ldI .u8 i (0 + 0)).bind fun x39 => (G.ldI .u8 i (0 + 1)).bind fun x40 => (G.ldI .u8 i (0 + 2)).bind fun x41 => (G.ldI .u16 i (0 + 3)).bind fun x42 => (G.ldI .u16 i (0 + 4)).bind fun x43 => (G.ldI .u8 i (0 + 5)).bind fun x44 => (G.ldSl i (0 + 6)).bind fun x45 => K x39 x40 x41 x42 x43 x44 x45 e G) = K m.sv m.nw m.pr m.dt m.fr m.sl s e G := by
    intro R K G m s e hG
    obtain ⟨a0, a1, a2, a3, a4, a5, a6⟩ := ldM hG
    simp only [Nat.zero_add, a0, a1, a2, a3, a4, a5, a6, Option.bind_some]
  generalize hG1 : H.new (.cells (Ms.zero.cells nilS) 38 false) = G1 at *
  have p1 := stsM (v := Ms.zero) (s' := nilS) g1
  have gz := Heap.gput G1 i (.cells (Ms.zero.cells nilS) 38 false)
  have xz : Ext H (G1.put i (.cells (Ms.zero.cells nilS) 38 false)) := x1.above (by omega) _
  have hz := Ms.zero_cells
  by_cases c1 : l.length < 5
  · have ed : Ms.dec l = (.zero, 4) := if_pos c1
    refine ⟨nilS, G1.put i (.cells (Ms.zero.cells nilS) 38 false), fun R K => ?_, by rw [ed]; exact .nil _, rfl, xz, w1.put g1 _⟩
    rw [hd, ed]
    simp only [g24_p6, g24_p0, alo]
    rw [← hz, hi, hG1, show decide (((t.len : Nat) : Int) < 5) = true by simp; omega, sel_true, p1, Option.bind_some]
    exact fin K _ Ms.zero nilS 4 gz
  by_cases c2 : l.length > 273
  · have ed : Ms.dec l = (.zero, 3) := by unfold Ms.dec; rw [if_neg c1, if_pos c2]
    refine ⟨nilS, G1.put i (.cells (Ms.zero.cells nilS) 38 false), fun R K => ?_, by rw [ed]; exact .nil _, rfl, xz, w1.put g1 _⟩
    rw [hd, ed]
    simp only [g24_p6, g24_p0, alo]
    rw [← hz, hi, hG1, show decide (((t.len : Nat) : Int) < 5) = false by simp; omega, sel_false, show decide (((t.len : Nat) : Int) > 273) = true by simp; omega, sel_true, p1, Option.bind_some]
    exact fin K _ Ms.zero nilS 3 gz
  have ed : Ms.dec l = (⟨l.getD 0 0 % 16, l.getD 0 0 / 64, l.getD 0 0 / 16 % 4, num4 l % 16384, num4 l / 16384 % 16384, num4 l / 268435456, l.drop 5⟩, 0) := by unfold Ms.dec; rw [if_neg c1, if_neg c2]
  have hne : l ≠ [] := by rintro rfl; simp at c1
  have h1 := h.ext hw x1
  obtain ⟨q, hq, hrd⟩ := h1.at hne
  have bd := fun j => hb.getD j
  -- the number
  have step : ∀ (k : Nat) (n n' : Int), k < 4 → bvOr .u32 n (shlI .u32 (IntKind.wrap .u32 (l.getD (1 + k) 0)) (8 * (k : Int))) = n' →
      g24_p2_b g33 (t, i, 0, n, (k : Int)) G1 = some (.go (t, i, 0, n', ((k + 1 : Nat) : Int)), G1) := by
    intro k n n' hk hn'
    have e1 : IntKind.wrap .i64 (1 + (k : Int)) = ((1 + k : Nat) : Int) := by rw [w64 (by omega)]; omega
    have e2 : IntKind.wrap .i64 (8 * (k : Int)) = 8 * (k : Int) := w64 (by omega)
    have e3 : IntKind.wrap .i64 ((k : Int) + 1) = ((k + 1 : Nat) : Int) := by rw [w64 (by omega)]; rfl
    simp only [g24_p2_b, g24_p1, e1, e2, e3]
    rw [show decide ((k : Int) < 4) = true by simp; omega, sel_true, if_pos (by omega), hq, Option.bind_some, Int.toNat_natCast, hrd _ (by omega), Option.bind_some, if_neg (by omega), hn']
  have b1 := bd 1; have b2 := bd 2; have b3 := bd 3; have b4 := bd 4
  have tl : tlim (g24_p2_b g33) (t, i, 0, 0, 0) G1 = some ((t, i, 0, num4 l), G1) := by
    refine (tlim_go (step 0 0 (l.getD 1 0 * 1) (by omega) (by
      rw [show (8 : Int) * ((0 : Nat) : Int) = 0 from rfl, sl0 b1]
      have := orI (r := 0) (b := l.getD 1 0) (j := 0) (p := 1) rfl (by omega) b1.1 (by omega)
      omega))).trans ?_
    refine (tlim_go (step 1 (l.getD 1 0 * 1) (l.getD 1 0 * 1 + l.getD 2 0 * 256) (by omega) (by
      rw [show (8 : Int) * ((1 : Nat) : Int) = 8 from rfl, sl8 b2]
      exact orI (j := 8) (p := 256) rfl (by omega) b2.1 (by omega)))).trans ?_
    refine (tlim_go (step 2 (l.getD 1 0 * 1 + l.getD 2 0 * 256) (l.getD 1 0 * 1 + l.getD 2 0 * 256 + l.getD 3 0 * 65536) (by omega) (by
      rw [show (8 : Int) * ((2 : Nat) : Int) = 16 from rfl, sl16 b3]
      exact orI (j := 16) (p := 65536) rfl (by omega) b3.1 (by omega)))).trans ?_
    refine (tlim_go (step 3 (l.getD 1 0 * 1 + l.getD 2 0 * 256 + l.getD 3 0 * 65536) (num4 l) (by omega) (by
      rw [show (8 : Int) * ((3 : Nat) : Int) = 24 from rfl, sl24 b4]
      exact orI (j := 24) (p := 16777216) rfl (by omega) b4.1 (by omega)))).trans ?_
    refine tlim_up ?_
    simp only [g24_p2_b, g24_p1]
    rw [show decide (((3 + 1 : Nat) : Int) < 4) = false from rfl, sel_false]
  have nb := num4_bd hb
  have v1 : IntKind.wrap .u16 (bvAnd .u32 (num4 l) 16383) = num4 l % 16384 := by rw [and14 nb, wr16]; omega
  have v2 : IntKind.wrap .u16 (bvAnd .u32 (shrI .u32 (num4 l) 14) 16383) = num4 l / 16384 % 16384 := by rw [shr14 nb, and14 (by omega), wr16]; omega
  have v3 : IntKind.wrap .u8 (shrI .u32 (num4 l) 28) = num4 l / 268435456 := by rw [shr28 nb, wr8]; omega
  obtain ⟨z1, z2, z3⟩ := b0_eq (bd 0)
  -- the label
  have gL := Heap.gnew G1 (.cells [V.i .u16 0, V.i .u16 0, V.i .u8 0] 35 false)
  have xL := Ext.new G1 (.cells [V.i .u16 0, V.i .u16 0, V.i .u8 0] 35 false)
  have wL := w1.new (.cells [V.i .u16 0, V.i .u16 0, V.i .u8 0] 35 false)
  have stL : (G1.new (.cells [V.i .u16 0, V.i .u16 0, V.i .u8 0] 35 false)).sts G1.next 0 [.i .u16 (num4 l % 16384), .i .u16 (num4 l / 16384 % 16384), .i .u8 (num4 l / 268435456)] = some ((G1.new (.cells [V.i .u16 0, V.i .u16 0, V.i .u8 0] 35 false)).put G1.next (.cells [.i .u16 (num4 l % 16384), .i .u16 (num4 l / 16384 % 16384), .i .u8 (num4 l / 268435456)] 35 false)) := by rw [sts_of gL (by simp) rfl]; rfl
  have gL2 := Heap.gput (G1.new (.cells [V.i .u16 0, V.i .u16 0, V.i .u8 0] 35 false)) G1.next (.cells [.i .u16 (num4 l % 16384), .i .u16 (num4 l / 16384 % 16384), .i .u8 (num4 l / 268435456)] 35 false)
  have xL2 : Ext G1 ((G1.new (.cells [V.i .u16 0, V.i .u16 0, V.i .u8 0] 35 false)).put G1.next (.cells [.i .u16 (num4 l % 16384), .i .u16 (num4 l / 16384 % 16384), .i .u8 (num4 l / 268435456)] 35 false)) := xL.above (Nat.le_refl _) _
  have wL2 : ((G1.new (.cells [V.i .u16 0, V.i .u16 0, V.i .u8 0] 35 false)).put G1.next (.cells [.i .u16 (num4 l % 16384), .i .u16 (num4 l / 16384 % 16384), .i .u8 (num4 l / 268435456)] 35 false)).Wf := wL.put gL _
  generalize hG2 : (G1.new (.cells [V.i .u16 0, V.i .u16 0, V.i .u8 0] 35 false)).put G1.next (.cells [.i .u16 (num4 l % 16384), .i .u16 (num4 l / 16384 % 16384), .i .u8 (num4 l / 268435456)] 35 false) = G2 at *
  have h2 := h1.ext w1 xL2
  obtain ⟨q2, hq2, hrd2⟩ := h2.at hne
  rw [hq] at hq2; cases hq2
  have k0 : G2.ldI .u16 G1.next 0 = some (num4 l % 16384) := ldI_of gL2 rfl
  have k1 : G2.ldI .u16 G1.next 1 = some (num4 l / 16384 % 16384) := ldI_of gL2 rfl
  have k2 : G2.ldI .u8 G1.next 2 = some (num4 l / 268435456) := ldI_of gL2 rfl
  obtain ⟨t', f1, f2, f3, _, _⟩ := slOf_from hc h2 (k := 5) (by omega)
  obtain ⟨s', G3, e33, bs, cs, x3, w3, own⟩ := s33 wL2 f2 (by rw [List.length_drop]; omega)
  have gL3 := x3.get wL2 gL2
  have m0 : G3.ldI .u16 G1.next 0 = some (num4 l % 16384) := ldI_of gL3 rfl
  have m1 : G3.ldI .u16 G1.next 1 = some (num4 l / 16384 % 16384) := ldI_of gL3 rfl
  have m2 : G3.ldI .u8 G1.next 2 = some (num4 l / 268435456) := ldI_of gL3 rfl
  have h3 := h2.ext wL2 x3
  obtain ⟨q3, hq3, hrd3⟩ := h3.at hne
  rw [hq] at hq3; cases hq3
  have d2 := hrd2 0 (by omega)
  have d3 := hrd3 0 (by omega)
  have gi3 : G3.get i = some (.cells (Ms.zero.cells nilS) 38 false) := x3.get wL2 (xL2.get w1 g1)
  have st := stsM (v := (Ms.dec l).1) (s' := s') gi3
  have gi4 := Heap.gput G3 i (.cells ((Ms.dec l).1.cells s') 38 false)
  refine ⟨s', G3.put i (.cells ((Ms.dec l).1.cells s') 38 false), fun R K => ?_, ?_, cs, ?_, w3.put gi3 _⟩
  · rw [hd]
    simp only [g24_p6, g24_p0, alo]
    rw [← hz, hi, hG1, show decide (((t.len : Nat) : Int) < 5) = false by simp; omega, sel_false, show decide (((t.len : Nat) : Int) > 273) = false by simp; omega, sel_false]
    simp only [g24_p5, g24_p3, g24_p2, tl, Option.bind_some, g24_p4, alo, v1, v2, v3, stL]
    have c0 : 0 ≤ (0 : Int) ∧ (0 : Int) < ((t.len : Nat) : Int) := by omega
    simp only [if_pos c0, hq, Option.bind_some, show Int.toNat (0 : Int) = 0 from rfl, d2, Nat.zero_add, k0, k1, k2]
    rw [show (some (5 : Int)) = some ((5 : Nat) : Int) from rfl, f1]
    simp only [e33, m0, m1, m2, Option.bind_some, same_agg3, if_true, d3, same_u8.2, z1, z2, z3]
    have st' : G3.sts i 0 [V.i .u8 (l.getD 0 0 % 16), V.i .u8 (l.getD 0 0 / 64), V.i .u8 (l.getD 0 0 / 16 % 4), V.i .u16 (num4 l % 16384), V.i .u16 (num4 l / 16384 % 16384), V.i .u8 (num4 l / 268435456), V.sl s'] = some (G3.put i (.cells ((Ms.dec l).1.cells s') 38 false)) := by
      rw [← st, ed]; rfl
    rw [st', Option.bind_some]
    have := fin K _ (Ms.dec l).1 s' 0 gi4
    simp only [Nat.zero_add] at this
    rw [this, ed]
  · rw [ed]
    rcases own with h0 | ⟨id, a1, a2, a3⟩
    · show BS _ s' (l.drop 5)
      rw [h0] at bs ⊢
      exact ⟨bs.len, by have : s'.len = 0 := bs.len; simp [slCells, this]⟩
    · refine bs.mono fun id' off o hid ho => ?_
      have hin : i < G2.next := wL2 _ _ (xL2.get w1 g1)
      rw [a1] at hid; cases hid
      rw [Heap.get_put, if_neg (by omega)]; exact ho
  · exact ((x1.trans xL2).trans x3).above (by omega) _
end Go.Proofs.YtgdkkpjmjnknoaaDoor

