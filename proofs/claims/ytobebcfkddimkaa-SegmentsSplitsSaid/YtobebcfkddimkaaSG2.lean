/- Segments: Decode. -/
import Derived.Test.YtobebcfkddimkaaSG1
namespace Go.Proofs.Ytobebcfkddimkaa
open Go AM Go.RowKit
set_option linter.unusedVariables false
set_option linter.unusedSimpArgs false

theorem bvOr_add {n m : Nat} {j : Nat} (hn : n < 2 ^ j) (hm : n + m * 2 ^ j < 4294967296) : bvOr .u32 (n : Int) ((m * 2 ^ j : Nat) : Int) = ((n + m * 2 ^ j : Nat) : Int) := by
  unfold bvOr
  have : (BitVec.ofInt (IntKind.bits .u32) (n : Int) ||| BitVec.ofInt (IntKind.bits .u32) ((m * 2 ^ j : Nat) : Int)).toNat = n + m * 2 ^ j := by
    rw [BitVec.ofInt_natCast, BitVec.ofInt_natCast]
    show (BitVec.ofNat 32 n ||| BitVec.ofNat 32 (m * 2 ^ j)).toNat = _
    rw [BitVec.toNat_or, BitVec.toNat_ofNat, BitVec.toNat_ofNat, Nat.mod_eq_of_lt (by omega), Nat.mod_eq_of_lt (by omega), Nat.or_comm, ← Nat.shiftLeft_eq, ← Nat.shiftLeft_add_eq_or_of_lt hn, Nat.add_comm]
  rw [this, wr32]; omega
theorem orI {r b : Int} {j : Nat} {p : Int} (hp : p = ((2 ^ j : Nat) : Int)) (hr : 0 ≤ r ∧ r < p) (hb : 0 ≤ b) (hm : r + b * p < 4294967296) : bvOr .u32 r (b * p) = r + b * p := by
  obtain ⟨n, rfl⟩ := Int.eq_ofNat_of_zero_le hr.1
  obtain ⟨m, rfl⟩ := Int.eq_ofNat_of_zero_le hb
  subst hp
  have h1 : n < 2 ^ j := by exact_mod_cast hr.2
  have h2 : n + m * 2 ^ j < 4294967296 := by
    have : ((n + m * 2 ^ j : Nat) : Int) < 4294967296 := by rw [Int.natCast_add, Int.natCast_mul]; exact hm
    omega
  have := bvOr_add h1 h2
  rw [Int.natCast_add, Int.natCast_mul] at this
  exact this
theorem sl0 {b : Int} (h : 0 ≤ b ∧ b ≤ 255) : shlI .u32 (IntKind.wrap .u32 b) 0 = b * 1 := by
  show IntKind.wrap .u32 ((IntKind.wrap .u32 b) * 1) = _; rw [wr32, wr32]; omega
theorem sl8 {b : Int} (h : 0 ≤ b ∧ b ≤ 255) : shlI .u32 (IntKind.wrap .u32 b) 8 = b * 256 := by
  show IntKind.wrap .u32 ((IntKind.wrap .u32 b) * 256) = _; rw [wr32, wr32]; omega
theorem sl16 {b : Int} (h : 0 ≤ b ∧ b ≤ 255) : shlI .u32 (IntKind.wrap .u32 b) 16 = b * 65536 := by
  show IntKind.wrap .u32 ((IntKind.wrap .u32 b) * 65536) = _; rw [wr32, wr32]; omega
theorem sl24 {b : Int} (h : 0 ≤ b ∧ b ≤ 255) : shlI .u32 (IntKind.wrap .u32 b) 24 = b * 16777216 := by
  show IntKind.wrap .u32 ((IntKind.wrap .u32 b) * 16777216) = _; rw [wr32, wr32]; omega
def ref4 (l : List Int) : Int := l.getD 0 0 * 1 + l.getD 1 0 * 256 + l.getD 2 0 * 65536 + l.getD 3 0 * 16777216
def Sg.dec (l : List Int) : Sg × Int :=
  if l.length < 5 then (.zero, 4)
  else if l.getD 4 0 % 128 ≥ 16 then (.zero, 4)
  else if l.length > 261 then (.zero, 3)
  else (⟨ref4 l, decide (l.getD 4 0 ≥ 128), l.getD 4 0 % 128, l.drop 5⟩, 0)
theorem sts_all {H : Heap} {i : Nat} {u v : Sg} {s t : Sl} (h : H.get i = some (.cells (u.cells s) 45 false)) : H.sts i 0 (v.cells t) = some (H.put i (.cells (v.cells t) 45 false)) := by
  rw [sts_of h (by simp [Sg.cells]) (by simp [Sg.cells, V.one])]
  rfl
theorem s20 {H : Heap} (hw : H.Wf) {t : Sl} {l : List Int} (h : BS H t l) (hb : Byt l) (hc : CapOk t) (hm : l.length ≤ 100000) :
    ∃ s' H', (∀ (R : Type) (K : Int → Bool → Int → Sl → Int → Heap → Option R), g20 R t H K = K (Sg.dec l).1.r (Sg.dec l).1.f (Sg.dec l).1.l s' (Sg.dec l).2 H') ∧ BS H' s' (Sg.dec l).1.d ∧ s'.cap = .ex s'.len ∧ Ext H H' ∧ H'.Wf := by
  have hn : t.len = l.length := h.len
  have g1 := Heap.gnew H (.cells (Sg.zero.cells nilS) 45 false)
  have w1 := hw.new (.cells (Sg.zero.cells nilS) 45 false)
  have x1 := Ext.new H (.cells (Sg.zero.cells nilS) 45 false)
  have hd : ∀ (R : Type) (K : Int → Bool → Int → Sl → Int → Heap → Option R), g20 R t H K = g20_p6 g32 g31 R t H fun t2_0 t2_1 t3 G => (G.ldI .u32 t2_0 (t2_1 + 0)).bind fun x108 => (G.ldB t2_0 (t2_1 + 1)).bind fun x109 => (G.ldI .u8 t2_0 (t2_1 + 2)).bind fun x110 => (G.ldSl t2_0 (t2_1 + 3)).bind fun x111 => K x108 x109 x110 x111 t3 G := fun _ _ => rfl
  generalize hi : H.next = i at *
  have fin : ∀ {R : Type} (K : Int → Bool → Int → Sl → Int → Heap → Option R) (G : Heap) (u : Sg) (s : Sl) (e : Int), G.get i = some (.cells (u.cells s) 45 false) →
      ((G.ldI .u32 i (0 + 0)).bind fun x108 => (G.ldB i (0 + 1)).bind fun x109 => (G.ldI .u8 i (0 + 2)).bind fun x110 => (G.ldSl i (0 + 3)).bind fun x111 => K x108 x109 x110 x111 e G) = K u.r u.f u.l s e G := by
    intro R K G u s e hG
    obtain ⟨a0, a1, a2, a3⟩ := ldS hG
    simp only [Nat.zero_add, a0, a1, a2, a3, Option.bind_some]
  generalize hG1 : H.new (.cells (Sg.zero.cells nilS) 45 false) = G1 at *
  have hz : [V.i IntKind.u32 0, V.b false, V.i IntKind.u8 0, V.sl (Sl.mk none 0 (.ex 0))] = Sg.zero.cells nilS := rfl
  have p1 := sts_all (v := Sg.zero) (t := nilS) g1
  have gz := Heap.gput G1 i (.cells (Sg.zero.cells nilS) 45 false)
  have xz : Ext H (G1.put i (.cells (Sg.zero.cells nilS) 45 false)) := x1.above (by omega) _
  have wz := w1.put g1 (.cells (Sg.zero.cells nilS) 45 false)
  by_cases c1 : l.length < 5
  · have ed : Sg.dec l = (.zero, 4) := by unfold Sg.dec; rw [if_pos c1]
    rw [ed]
    refine ⟨nilS, _, fun R K => ?_, .nil _, rfl, xz, wz⟩
    rw [hd]
    unfold g20_p6 g20_p0 alo
    rw [hz]
    simp only [hi, hG1, p1, Option.bind_some]
    rw [show decide (((t.len : Nat) : Int) < 5) = true by simp; omega, sel_true]
    exact fin K _ .zero nilS 4 gz
  have hl0 : l ≠ [] := by intro e; rw [e] at c1; simp at c1
  obtain ⟨q, aq, rd1⟩ := (h.ext hw x1).at hl0
  have r4 : G1.ldI .u8 q.1 (q.2 + Int.toNat 4 * 1) = some (l.getD 4 0) := rd1 4 (by omega)
  have b4 : 0 ≤ (4 : Int) ∧ (4 : Int) < ((t.len : Nat) : Int) := by omega
  have hb4 := hb.getD 4
  have g2 := Heap.gnew G1 (.cells (Sg.zero.cells nilS) 45 false)
  have w2 := w1.new (.cells (Sg.zero.cells nilS) 45 false)
  have x2 := x1.trans (Ext.new G1 (.cells (Sg.zero.cells nilS) 45 false))
  have gi2 : (G1.new (.cells (Sg.zero.cells nilS) 45 false)).get i = some (.cells (Sg.zero.cells nilS) 45 false) := (Ext.new G1 _).get w1 g1
  have hij : i < G1.next := w1 _ _ g1
  have hnn : H.next ≤ G1.next := by omega
  generalize hj : G1.next = j at *
  generalize hG2 : G1.new (.cells (Sg.zero.cells nilS) 45 false) = G2 at *
  have rdx : ∀ {G : Heap}, Ext H G → ∀ k : Nat, k < l.length → G.ldI .u8 q.1 (q.2 + k * 1) = some (l.getD k 0) := fun hx k hk => by
    obtain ⟨q2, aq2, rd⟩ := (h.ext hw hx).at hl0
    have : q2 = q := by rw [aq] at aq2; cases aq2; rfl
    subst this; exact rd k hk
  have r4' : G2.ldI .u8 q.1 (q.2 + Int.toNat 4 * 1) = some (l.getD 4 0) := rdx x2 4 (by omega)
  let v : Sg := ⟨0, decide (l.getD 4 0 ≥ 128), l.getD 4 0 % 128, []⟩
  have p2 : G2.sts j 0 (v.cells nilS) = some (G2.put j (.cells (v.cells nilS) 45 false)) := sts_all g2
  have XP : ∀ o : O, Ext H (G2.put j o) := fun o => x2.above (by omega) o
  have PI : ∀ o : O, (G2.put j o).get i = some (.cells (Sg.zero.cells nilS) 45 false) := fun o => by rw [Heap.get_put, if_neg (by omega)]; exact gi2
  have PJ : ∀ (u : Sg) (s : Sl), (G2.put j (.cells (u.cells s) 45 false)).get j = some (.cells (u.cells s) 45 false) := fun u s => Heap.gput _ _ _
  have PZ : ∀ (o : O) (u : Sg) (s : Sl), (G2.put j o).sts i 0 (u.cells s) = some ((G2.put j o).put i (.cells (u.cells s) 45 false)) := fun o u s => sts_all (PI o)
  have WP : ∀ o : O, (G2.put j o).Wf := fun o => w2.put g2 o
  have start : ∀ (R : Type) (K : Nat → Nat → Int → Heap → Option R), g20_p6 g32 g31 R t H K = if l.getD 4 0 % 128 ≥ 16 then (((G2.put j (.cells (v.cells nilS) 45 false)).sts i 0 (Sg.zero.cells nilS)).bind fun h => K i 0 4 h) else if ((t.len : Nat) : Int) > 261 then (((G2.put j (.cells (v.cells nilS) 45 false)).sts i 0 (Sg.zero.cells nilS)).bind fun h => K i 0 3 h) else g20_p5 g32 g31 R t i 0 j 0 0 (G2.put j (.cells (v.cells nilS) 45 false)) K := fun R K => by
    unfold g20_p6 g20_p0 alo
    rw [hz]
    simp only [hi, hG1]
    rw [show decide (((t.len : Nat) : Int) < 5) = false by simp; omega, sel_false, if_pos b4, aq, Option.bind_some, r4, Option.bind_some, if_pos b4, Option.bind_some]
    simp only [r4, Option.bind_some, hj, hG2, r4', same_i, if_true, andNot128' hb4]
    rw [show [V.i IntKind.u32 0, V.b (decide (l.getD 4 0 ≥ 128)), V.i IntKind.u8 (l.getD 4 0 % 128), V.sl (Sl.mk none 0 (.ex 0))] = v.cells nilS from rfl, p2, Option.bind_some, (ldS (PJ v nilS)).2.2.1, Option.bind_some, selD, selD]
  by_cases c2 : l.getD 4 0 % 128 ≥ 16
  · have ed : Sg.dec l = (.zero, 4) := by unfold Sg.dec; rw [if_neg c1, if_pos c2]
    rw [ed]
    refine ⟨nilS, (G2.put j (.cells (v.cells nilS) 45 false)).put i (.cells (Sg.zero.cells nilS) 45 false), fun R K => ?_, .nil _, rfl, (XP _).above (by omega) _, (WP _).put (PI _) _⟩
    rw [hd, start, if_pos c2, PZ, Option.bind_some]
    exact fin K _ .zero nilS 4 (Heap.gput _ _ _)
  by_cases c3 : l.length > 261
  · have ed : Sg.dec l = (.zero, 3) := by unfold Sg.dec; rw [if_neg c1, if_neg c2, if_pos c3]
    rw [ed]
    refine ⟨nilS, (G2.put j (.cells (v.cells nilS) 45 false)).put i (.cells (Sg.zero.cells nilS) 45 false), fun R K => ?_, .nil _, rfl, (XP _).above (by omega) _, (WP _).put (PI _) _⟩
    rw [hd, start, if_neg c2, if_pos (by omega), PZ, Option.bind_some]
    exact fin K _ .zero nilS 3 (Heap.gput _ _ _)
  have ed : Sg.dec l = (⟨ref4 l, decide (l.getD 4 0 ≥ 128), l.getD 4 0 % 128, l.drop 5⟩, 0) := by unfold Sg.dec; rw [if_neg c1, if_neg c2, if_neg c3]
  rw [ed]
  have tk : ∀ (k : Nat) (r r' : Int), k < 4 → bvOr .u32 r (shlI .u32 (IntKind.wrap .u32 (l.getD k 0)) (8 * (k : Int))) = r' → g20_p2_b g32 g31 (t, i, 0, j, 0, (k : Int)) (G2.put j (.cells (({ v with r := r } : Sg).cells nilS) 45 false)) = some (.go (t, i, 0, j, 0, ((k + 1 : Nat) : Int)), G2.put j (.cells (({ v with r := r' } : Sg).cells nilS) 45 false)) := fun k r r' hk4 hr => by
    have e : IntKind.wrap .i64 (8 * (k : Int)) = 8 * k := w64 (by omega)
    have e' : IntKind.wrap .i64 ((k : Int) + 1) = ((k + 1 : Nat) : Int) := by rw [w64 (by omega)]; rfl
    have p := st_of (off := 0) (v := .i .u32 r') (PJ { v with r := r } nilS) (by simp [Sg.cells]) rfl
    rw [Heap.put_put] at p
    simp only [g20_p2_b, g20_p1, Nat.zero_add, (ldS (PJ { v with r := r } nilS)).1, Option.bind_some, e, aq]
    rw [show decide ((k : Int) < 4) = true by simp; omega, sel_true, if_pos (by omega), Int.toNat_natCast, rdx (XP _) k (by omega), Option.bind_some, if_neg (by omega), hr, p, Option.bind_some, e']
    rfl
  have t4 : ∀ o, g20_p2_b g32 g31 (t, i, 0, j, 0, 4) (G2.put j o) = some (.up (t, i, 0, j, 0), G2.put j o) := fun o => by
    simp only [g20_p2_b, g20_p1]
    rw [show decide ((4 : Int) < 4) = false from rfl, sel_false]
  have h0 := hb.getD 0; have h1 := hb.getD 1; have h2 := hb.getD 2; have h3 := hb.getD 3
  have tl : tlim (g20_p2_b g32 g31) (t, i, 0, j, 0, 0) (G2.put j (.cells (v.cells nilS) 45 false)) = some ((t, i, 0, j, 0), G2.put j (.cells (({ v with r := ref4 l } : Sg).cells nilS) 45 false)) := by
    refine (tlim_go (tk 0 0 (0 + l.getD 0 0 * 1) (by omega) (by rw [show (8 * ((0 : Nat) : Int)) = 0 from rfl, sl0 h0, orI (p := 1) (j := 0) rfl (by omega) h0.1 (by omega)]))).trans ?_
    refine (tlim_go (tk 1 _ (0 + l.getD 0 0 * 1 + l.getD 1 0 * 256) (by omega) (by rw [show (8 * ((1 : Nat) : Int)) = 8 from rfl, sl8 h1, orI (p := 256) (j := 8) rfl (by omega) h1.1 (by omega)]))).trans ?_
    refine (tlim_go (tk 2 _ (0 + l.getD 0 0 * 1 + l.getD 1 0 * 256 + l.getD 2 0 * 65536) (by omega) (by rw [show (8 * ((2 : Nat) : Int)) = 16 from rfl, sl16 h2, orI (p := 65536) (j := 16) rfl (by omega) h2.1 (by omega)]))).trans ?_
    refine (tlim_go (tk 3 _ (ref4 l) (by omega) (by rw [show (8 * ((3 : Nat) : Int)) = 24 from rfl, sl24 h3, orI (p := 16777216) (j := 24) rfl (by omega) h3.1 (by omega)]; unfold ref4; omega))).trans ?_
    exact tlim_up (t4 _)
  obtain ⟨s3, e3, bs3, cap3, _⟩ := slOf_from hc (h.ext hw (XP (.cells (({ v with r := ref4 l } : Sg).cells nilS) 45 false))) (k := 5) (by omega)
  have w3 := WP (.cells (({ v with r := ref4 l } : Sg).cells nilS) 45 false)
  obtain ⟨s4, H4, e4, c4k⟩ := bclone_ok w3 bs3 (by simp; omega)
  have e5 := fun (R : Type) K => clip_ok (R := R) c4k.cap H4 K
  have gj : H4.get j = some (.cells (({ v with r := ref4 l } : Sg).cells nilS) 45 false) := c4k.ext.get w3 (PJ _ _)
  have gi : H4.get i = some (.cells (Sg.zero.cells nilS) 45 false) := c4k.ext.get w3 (PI _)
  have T3 : H4.st j 3 (.sl ⟨s4.a, s4.len, .ex s4.len⟩) = some (H4.put j (.cells (({ v with r := ref4 l, d := l.drop 5 } : Sg).cells ⟨s4.a, s4.len, .ex s4.len⟩) 45 false)) := by
    rw [st_of gj (by simp [Sg.cells]) rfl]; rfl
  obtain ⟨a0, a1, a2, a3⟩ := ldS (Heap.gput H4 j (.cells (({ v with r := ref4 l, d := l.drop 5 } : Sg).cells ⟨s4.a, s4.len, .ex s4.len⟩) 45 false))
  have gi5 : (H4.put j (.cells (({ v with r := ref4 l, d := l.drop 5 } : Sg).cells ⟨s4.a, s4.len, .ex s4.len⟩) 45 false)).get i = some (.cells (Sg.zero.cells nilS) 45 false) := by rw [Heap.get_put, if_neg (by omega)]; exact gi
  have x4 : Ext H H4 := (XP _).trans c4k.ext
  refine ⟨⟨s4.a, s4.len, .ex s4.len⟩, (H4.put j (.cells (({ v with r := ref4 l, d := l.drop 5 } : Sg).cells ⟨s4.a, s4.len, .ex s4.len⟩) 45 false)).put i (.cells (({ v with r := ref4 l, d := l.drop 5 } : Sg).cells ⟨s4.a, s4.len, .ex s4.len⟩) 45 false), fun R K => ?_, ?_, rfl, (x4.above (by omega) _).above (by omega) _, (c4k.wf.put gj _).put gi5 _⟩
  · rw [hd, start, if_neg c2, if_neg (by omega)]
    have e3' := e3 R
    rw [show ((5 : Nat) : Int) = 5 from rfl] at e3'
    simp only [g20_p5, g20_p3, g20_p2, tl, Option.bind_some, g20_p4, e3', e4, e5, Nat.zero_add, T3, a0, a1, a2, a3]
    rw [show [V.i IntKind.u32 (ref4 l), V.b v.f, V.i IntKind.u8 v.l, V.sl ⟨s4.a, s4.len, .ex s4.len⟩] = ({ v with r := ref4 l, d := l.drop 5 } : Sg).cells ⟨s4.a, s4.len, .ex s4.len⟩ from rfl, sts_all gi5, Option.bind_some]
    exact fin K _ { v with r := ref4 l, d := l.drop 5 } ⟨s4.a, s4.len, .ex s4.len⟩ 0 (Heap.gput _ _ _)
  · by_cases h5 : l.length = 5
    · have e0 : l.drop 5 = [] := List.drop_of_length_le (by omega)
      have hl4 : s4.len = 0 := by have := c4k.bs.len; rw [e0] at this; simpa using this
      show BS _ ⟨s4.a, s4.len, .ex s4.len⟩ (l.drop 5)
      rw [e0, hl4]
      exact ⟨rfl, by simp [slCells]⟩
    refine (c4k.bs.clipped).mono fun id off o hid ho => ?_
    have hid' : s4.a = some (id, off) := hid
    rcases c4k.own with e | ⟨id', e1, e2, e3⟩
    · have := congrArg List.length e; simp at this; omega
    · rw [e1] at hid'; cases hid'
      have hnx : (G2.put j (.cells (({ v with r := ref4 l } : Sg).cells nilS) 45 false)).next = G2.next := rfl
      have hlt := w2 _ _ g2
      rw [Heap.get_put, if_neg (by omega), Heap.get_put, if_neg (by omega)]
      exact ho
end Go.Proofs.Ytobebcfkddimkaa

