/- Calls: text, Decode. -/
import Derived.Test.YtnjihofdmncckaaDoorCC2
namespace Go.Proofs.YtnjihofdmncckaaDoor
open Go AM Go.RowKit
set_option linter.unusedVariables false
set_option linter.unusedSimpArgs false

theorem slOf_mid {H : Heap} {s : Sl} {l : List Int} (hc : CapOk s) (h : BS H s l) {i j : Nat} (hij : i ≤ j) (hj : j ≤ l.length) : ∃ s', (∀ (R : Type) (K : Sl → Option R), slOf 1 s (some (i : Int)) (some (j : Int)) none K = K s') ∧ BS H s' ((l.take j).drop i) := by
  obtain ⟨a, n, c⟩ := s
  have hn : n = l.length := h.len
  have main : ∀ a' c', (∀ p, a = some p → i < j → a' = some (p.1, p.2 + i)) → BS H ⟨a', j - i, c'⟩ ((l.take j).drop i) := by
    intro a' c' ha
    refine ⟨by simp; omega, ?_⟩
    by_cases hkl : i < j
    · have hl : l ≠ [] := by intro e; subst e; simp at hj; omega
      obtain ⟨q, vs, e, ro, h1, h2, h3, h4⟩ := h.there hl
      rw [ha q h1 hkl]
      unfold slCells
      simp only [Nat.mul_one]
      rw [if_neg (by omega), lds_of h2 (by omega)]
      have h5 : bcs ((l.take j).drop i) = ((bcs l).take j).drop i := by simp [bcs, List.map_drop, List.map_take]
      rw [h5, ← h4, List.take_take, Nat.min_eq_left hj, List.drop_take, List.drop_drop]
    · unfold slCells
      simp only [Nat.mul_one]
      rw [if_pos (by omega), List.drop_of_length_le (by simp; omega)]; rfl
  cases c with
  | ex c =>
    have hc' : n ≤ c := hc
    refine ⟨⟨if ((c : Nat) : Int) = (i : Int) then a else a.map fun p => (p.1, p.2 + i), j - i, .ex (c - i)⟩, fun R K => ?_, main _ _ fun p hp hkl => ?_⟩
    · simp only [slOf, Option.getD_none, Option.getD_some, Option.isSome_none, Bool.false_and, Bool.false_eq_true, if_false, Int.toNat_natCast, Nat.mul_one]
      rw [if_pos (by omega)]
      congr 1
      rw [show ((j : Int) - (i : Int)).toNat = j - i by omega, show ((c : Int) - (i : Int)).toNat = c - i by omega]
    · rw [if_neg (by omega), hp]; rfl
  | op z =>
    have hc' : z = 1 := hc
    subst hc'
    refine ⟨⟨a.map fun p => (p.1, p.2 + i), j - i, .op 1⟩, fun R K => ?_, main _ _ fun p hp hkl => by rw [hp]; rfl⟩
    simp only [slOf, Option.getD_none, Option.getD_some, Option.isSome_none, Bool.false_and, Bool.false_eq_true, if_false, if_true, Int.toNat_natCast, Nat.mul_one]
    rw [if_pos (by omega)]
    congr 1
    rw [show ((j : Int) - (i : Int)).toNat = j - i by omega]
theorem or64_all : ∀ (a b : Fin 256), bvOr .i64 (IntKind.wrap .i64 ((a.val : Nat) : Int)) (shlI .i64 (IntKind.wrap .i64 ((b.val : Nat) : Int)) 8) = ((a.val : Nat) : Int) + 256 * ((b.val : Nat) : Int) := by decide +kernel
theorem or64 {a b : Int} (ha : 0 ≤ a ∧ a ≤ 255) (hb : 0 ≤ b ∧ b ≤ 255) : bvOr .i64 (IntKind.wrap .i64 a) (shlI .i64 (IntKind.wrap .i64 b) 8) = a + 256 * b := by
  have := or64_all ⟨a.toNat, by omega⟩ ⟨b.toNat, by omega⟩
  simp only at this
  rwa [show ((a.toNat : Nat) : Int) = a by omega, show ((b.toNat : Nat) : Int) = b by omega] at this
def txtF : List Int → Option (List Int × List Int)
  | [] => none
  | n :: r => if n ≥ ((r.length + 1 : Nat) : Int) then none else some (r.take n.toNat, r.drop n.toNat)
theorem s22 {H G : Heap} (hw : H.Wf) (hx : Ext H G) {s : Sl} {l : List Int} (h : BS H s l) (hb : Byt l) (hc : CapOk s) (hl : l.length ≤ 100000) :
    match txtF l with
    | none => ∀ (R : Type) (K : ByteArray → Sl → Bool → Heap → Option R), g22 R s G K = K str0 nilS false G
    | some (a, r) => ∃ s', (∀ (R : Type) (K : ByteArray → Sl → Bool → Heap → Option R), g22 R s G K = K (bsU (u8s a)) s' true G) ∧ BS H s' r ∧ CapOk s' := by
  have hn : s.len = l.length := h.len
  match l, h, hb, hl, hn with
  | [], h, hb, hl, hn =>
    simp only [txtF]
    intro R K
    simp only [g22, g22_r, g22_p0]
    rw [show (((s.len : Nat) : Int) == 0) = true by rw [hn]; rfl, sel_true]; rfl
  | n :: r, h, hb, hl, hn =>
    have hG := h.ext hw hx
    obtain ⟨q, aq, rd⟩ := hG.at (by simp)
    have r0 : G.ldI .u8 q.1 (q.2 + Int.toNat 0 * 1) = some n := rd 0 (by simp)
    have hbn := hb n (by simp)
    have wn : IntKind.wrap .i64 n = n := w64 (by omega)
    have hn' : s.len = r.length + 1 := hn
    have i0 : 0 ≤ (0 : Int) ∧ (0 : Int) < ((s.len : Nat) : Int) := by omega
    have e0 : (((s.len : Nat) : Int) == 0) = false := by simp; omega
    simp only [txtF]
    by_cases hge : n ≥ ((r.length + 1 : Nat) : Int)
    · rw [if_pos hge]
      intro R K
      simp only [g22, g22_r, g22_p0]
      rw [e0, sel_false, if_pos i0, aq, Option.bind_some, r0, Option.bind_some, wn, decide_eq_true (by omega), sel_true]; rfl
    · rw [if_neg hge]
      obtain ⟨m, rfl⟩ := Int.eq_ofNat_of_zero_le hbn.1
      have hm : m ≤ r.length := by omega
      obtain ⟨s1, e1, b1⟩ := slOf_mid hc hG (i := 1) (j := 1 + m) (by omega) (by simp; omega)
      obtain ⟨s2, e2, b2, c2, _⟩ := slOf_from hc h (k := 1 + m) (by simp; omega)
      refine ⟨s2, fun R K => ?_, ?_, c2⟩
      · have w1 : IntKind.wrap .i64 ((1 : Int) + ((m : Nat) : Int)) = ((1 + m : Nat) : Int) := by rw [w64 (by omega)]; omega
        have e1' := e1 R; have e2' := e2 R
        rw [show ((1 : Nat) : Int) = 1 from rfl] at e1'
        have tk : ((((m : Nat) : Int) :: r).take (1 + m)).drop 1 = r.take m := by rw [Nat.add_comm]; rfl
        rw [tk] at b1
        simp only [g22, g22_r, g22_p0]
        rw [e0, sel_false, if_pos i0, aq, Option.bind_some, r0, Option.bind_some, wn, decide_eq_false (by omega), sel_false, if_pos i0, Option.bind_some, r0, Option.bind_some, wn, w1, e1', slB b1, Option.bind_some, e2']
        rw [Int.toNat_natCast]
      · have : (((m : Nat) : Int) :: r).drop (1 + m) = r.drop m := by rw [Nat.add_comm]; rfl
        rw [this] at b2
        rw [Int.toNat_natCast]; exact b2
def Ca.fin (m : Ca) (r : List Int) : Option Ca := if r = [] ∧ m.ok = true then some m else none
def Ca.de (l : List Int) : Option Ca :=
  if l.length < 3 then none
  else if l.getD 0 0 = 1 then match txtF (l.drop 3) with
    | none => none
    | some (a, r) => match txtF r with
      | none => none
      | some (b, r) => Ca.fin ⟨l.getD 0 0, l.getD 1 0 + 256 * l.getD 2 0, u8s a, u8s b, 0⟩ r
  else if l.getD 0 0 = 4 then match l.drop 3 with
    | [] => none
    | u :: r => Ca.fin ⟨l.getD 0 0, l.getD 1 0 + 256 * l.getD 2 0, [], [], u⟩ r
  else Ca.fin ⟨l.getD 0 0, l.getD 1 0 + 256 * l.getD 2 0, [], [], 0⟩ (l.drop 3)
theorem sts_c {H : Heap} {i : Nat} {u v : Ca} (h : H.get i = some (.cells u.cells 24 false)) : H.sts i 0 v.cells = some (H.put i (.cells v.cells 24 false)) := by
  rw [sts_of h (by simp [Ca.cells]) (by simp [Ca.cells, V.one])]
  rfl
theorem zc : [V.i IntKind.u8 0, V.i IntKind.i64 0, V.s str0, V.s str0, V.i IntKind.u8 0] = Ca.zero.cells := rfl
/-- the end of Decode -/
theorem fin8 {H G : Heap} (hx : Ext H G) (hw : G.Wf) {i j : Nat} (hij : i ≠ j) (hi : H.next ≤ i) {m : Ca} (gi : G.get i = some (.cells Ca.zero.cells 24 false)) (gj : G.get j = some (.cells m.cells 24 false)) {s : Sl} {r : List Int} (hs : s.len = r.length) :
    ∃ G', (∀ (R : Type) (kR : Nat → Nat → Int → Heap → Option R), g8_p1 g22 g19 R i 0 j 0 s true G kR = kR i 0 (if (m.fin r).isSome then 0 else 4) G') ∧ G'.get i = some (.cells ((m.fin r).getD .zero).cells 24 false) ∧ Ext H G' ∧ G'.Wf := by
  by_cases hr : r = []
  · obtain ⟨G2, e2, x2, w2⟩ := s19 hw m
    have gi2 := x2.get hw gi
    have gj2 := x2.get hw gj
    obtain ⟨a0, a1, a2, a3, a4⟩ := ldC' gj
    obtain ⟨b0, b1, b2, b3, b4⟩ := ldC' gj2
    have hxx : Ext H G2 := hx.trans x2
    have hl : s.len = 0 := by rw [hs, hr]; rfl
    by_cases hk : m.ok = true
    · rw [show m.fin r = some m by unfold Ca.fin; rw [if_pos ⟨hr, hk⟩]]
      refine ⟨G2.put i (.cells m.cells 24 false), fun R kR => ?_, Heap.gput _ _ _, hxx.above hi _, w2.put gi2 _⟩
      simp only [g8_p1, Nat.zero_add]
      rw [Bool.not_true, sel_false, decide_eq_false (by omega), sel_false]
      simp only [a0, a1, a2, a3, a4, Option.bind_some]
      rw [e2, hk, Bool.not_true, sel_false]
      simp only [b0, b1, b2, b3, b4, Option.bind_some]
      rw [show [V.i IntKind.u8 m.k, V.i IntKind.i64 m.c, V.s (bsU m.a), V.s (bsU m.b), V.i IntKind.u8 m.u] = m.cells from rfl, sts_c gi2, Option.bind_some]
      rfl
    · rw [show m.fin r = none by unfold Ca.fin; rw [if_neg (fun e => hk e.2)]]
      refine ⟨G2.put i (.cells Ca.zero.cells 24 false), fun R kR => ?_, Heap.gput _ _ _, hxx.above hi _, w2.put gi2 _⟩
      simp only [g8_p1, Nat.zero_add]
      rw [Bool.not_true, sel_false, decide_eq_false (by omega), sel_false]
      simp only [a0, a1, a2, a3, a4, Option.bind_some]
      rw [e2, show m.ok = false by simpa using hk, Bool.not_false, sel_true, zc, sts_c gi2, Option.bind_some]
      rfl
  · rw [show m.fin r = none by unfold Ca.fin; rw [if_neg (fun e => hr e.1)]]
    have hl : 0 < s.len := by rw [hs]; exact List.length_pos_iff.2 hr
    refine ⟨G.put i (.cells Ca.zero.cells 24 false), fun R kR => ?_, Heap.gput _ _ _, hx.above hi _, hw.put gi _⟩
    simp only [g8_p1, Nat.zero_add]
    rw [Bool.not_true, sel_false, decide_eq_true (by omega), sel_true, zc, sts_c gi, Option.bind_some]
    rfl
theorem bad8 {R : Type} {G : Heap} {i j : Nat} (gi : G.get i = some (.cells Ca.zero.cells 24 false)) (s : Sl) (kR : Nat → Nat → Int → Heap → Option R) : g8_p1 g22 g19 R i 0 j 0 s false G kR = kR i 0 4 (G.put i (.cells Ca.zero.cells 24 false)) := by
  simp only [g8_p1]
  rw [Bool.not_false, sel_true, zc, sts_c gi, Option.bind_some]
theorem stC {G : Heap} {j k : Nat} {l : List V} {v : V} (hk : k < l.length) (hv : V.one v = true) : (G.put j (.cells l 24 false)).st j k v = some (G.put j (.cells (l.set k v) 24 false)) := by
  rw [st_of (Heap.gput _ _ _) hk hv, Heap.put_put]
theorem s8 {H : Heap} (hw : H.Wf) {t : Sl} {l : List Int} (h : BS H t l) (hb : Byt l) (hc : CapOk t) (hm : l.length ≤ 100000) :
    ∃ H', (∀ (R : Type) (K : Int → Int → ByteArray → ByteArray → Int → Int → Heap → Option R), g8 R t H K = K ((Ca.de l).getD .zero).k ((Ca.de l).getD .zero).c (bsU ((Ca.de l).getD .zero).a) (bsU ((Ca.de l).getD .zero).b) ((Ca.de l).getD .zero).u (if (Ca.de l).isSome then 0 else 4) H') ∧ Ext H H' ∧ H'.Wf := by
  have hn : t.len = l.length := h.len
  have hd : ∀ (R : Type) (K : Int → Int → ByteArray → ByteArray → Int → Int → Heap → Option R), g8 R t H K = g8_p0 g22 g19 R t H (fun t2_0 t2_1 t4_0 t4_1 t5 t6 H => g8_p1 g22 g19 R t2_0 t2_1 t4_0 t4_1 t5 t6 H fun t2_0 t2_1 t3 G => (G.ldI .u8 t2_0 (t2_1 + 0)).bind fun x0 => (G.ldI .i64 t2_0 (t2_1 + 1)).bind fun x1 => (G.ldS t2_0 (t2_1 + 2)).bind fun x2 => (G.ldS t2_0 (t2_1 + 3)).bind fun x3 => (G.ldI .u8 t2_0 (t2_1 + 4)).bind fun x4 => K x0 x1 x2 x3 x4 t3 G) (fun t2_0 t2_1 t3 G => (G.ldI .u8 t2_0 (t2_1 + 0)).bind fun x0 => (G.ldI .i64 t2_0 (t2_1 + 1)).bind fun x1 => (G.ldS t2_0 (t2_1 + 2)).bind fun x2 => (G.ldS t2_0 (t2_1 + 3)).bind fun x3 => (G.ldI .u8 t2_0 (t2_1 + 4)).bind fun x4 => K x0 x1 x2 x3 x4 t3 G) := fun _ _ => rfl
  -- a run of the two parts suffices
  suffices main : ∃ (G' : Heap), (∀ (R : Type) (kR : Nat → Nat → Int → Heap → Option R), g8_p0 g22 g19 R t H (fun t2_0 t2_1 t4_0 t4_1 t5 t6 H => g8_p1 g22 g19 R t2_0 t2_1 t4_0 t4_1 t5 t6 H kR) kR = kR H.next 0 (if (Ca.de l).isSome then 0 else 4) G') ∧ G'.get H.next = some (.cells ((Ca.de l).getD .zero).cells 24 false) ∧ Ext H G' ∧ G'.Wf by
    obtain ⟨G', e, g, x, w⟩ := main
    refine ⟨G', fun R K => ?_, x, w⟩
    rw [hd, e]
    obtain ⟨a0, a1, a2, a3, a4⟩ := ldC' g
    simp only [Nat.zero_add, a0, a1, a2, a3, a4, Option.bind_some]
  have g1 := Heap.gnew H (.cells Ca.zero.cells 24 false)
  have w1 := hw.new (.cells Ca.zero.cells 24 false)
  have x1 := Ext.new H (.cells Ca.zero.cells 24 false)
  generalize hi : H.next = i at *
  generalize hG1 : H.new (.cells Ca.zero.cells 24 false) = G1 at *
  by_cases c1 : l.length < 3
  · have ed : Ca.de l = none := by unfold Ca.de; rw [if_pos c1]
    rw [ed]
    refine ⟨G1.put i (.cells Ca.zero.cells 24 false), fun R kR => ?_, Heap.gput _ _ _, x1.above (by omega) _, w1.put g1 _⟩
    simp only [g8_p0, alo, zc, hi, hG1]
    rw [decide_eq_true (by omega), sel_true, sts_c g1, Option.bind_some]
    rfl
  have hl0 : l ≠ [] := by intro e; rw [e] at c1; simp at c1
  have g2 := Heap.gnew G1 (.cells Ca.zero.cells 24 false)
  have w2 := w1.new (.cells Ca.zero.cells 24 false)
  have x12 := Ext.new G1 (.cells Ca.zero.cells 24 false)
  have gi2 := x12.get w1 g1
  have x2 : Ext H (G1.new (.cells Ca.zero.cells 24 false)) := x1.trans x12
  have hij : i < G1.next := w1 _ _ g1
  generalize hj : G1.next = j at *
  generalize hG2 : G1.new (.cells Ca.zero.cells 24 false) = G2 at *
  obtain ⟨q, aq, rd⟩ := (h.ext hw x1).at hl0
  have rd2 : ∀ k : Nat, k < l.length → G2.ldI .u8 q.1 (q.2 + k * 1) = some (l.getD k 0) := fun k hk => by
    obtain ⟨q2, aq2, rdq⟩ := (h.ext hw x2).at hl0
    have : q2 = q := by rw [aq] at aq2; cases aq2; rfl
    subst this; exact rdq k hk
  obtain ⟨s3, e3, bs3, cap3, _⟩ := slOf_from hc h (k := 3) (by omega)
  have h0 := hb.getD 0; have h1 := hb.getD 1; have h2 := hb.getD 2
  -- the head
  have XP : ∀ o, Ext H (G2.put j o) := fun o => x2.above (by omega) o
  have WP : ∀ o, (G2.put j o).Wf := fun o => w2.put g2 o
  have PI : ∀ o, (G2.put j o).get i = some (.cells Ca.zero.cells 24 false) := fun o => by rw [Heap.get_put, if_neg (by omega)]; exact gi2
  have PJ : ∀ m : Ca, (G2.put j (.cells m.cells 24 false)).get j = some (.cells m.cells 24 false) := fun m => Heap.gput _ _ _
  generalize hk0 : l.getD 0 0 = k0 at *
  generalize hc0 : l.getD 1 0 + 256 * l.getD 2 0 = c0 at *
  have start : ∀ (R : Type) (kN : Nat → Nat → Nat → Nat → Sl → Bool → Heap → Option R) (kR : Nat → Nat → Int → Heap → Option R), g8_p0 g22 g19 R t H kN kR = sel (k0 == 1) (g22 R s3 (G2.put j (.cells (Ca.cells ⟨k0, c0, [], [], 0⟩) 24 false)) fun x186 x187 x188 h189 => ((h189).st j 2 (V.s x186)).bind fun h191 => sel x188 (g22 R x187 h191 fun x192 x193 x194 h195 => ((h195).st j 3 (V.s x192)).bind fun h197 => kN i 0 j 0 x193 x194 h197) (kN i 0 j 0 x187 x188 h191)) (sel (k0 == 4) (sel (decide (((s3.len : Nat) : Int) > (0 : Int))) (if 0 ≤ (0 : Int) ∧ (0 : Int) < ((s3.len : Nat) : Int) then ((s3.a).bind fun q198 => ((G2.put j (.cells (Ca.cells ⟨k0, c0, [], [], 0⟩) 24 false)).ldI .u8 q198.1 (q198.2 + Int.toNat (0 : Int) * 1)).bind fun x199 => slOf 1 s3 (some (1 : Int)) none none fun s200 => ((G2.put j (.cells (Ca.cells ⟨k0, c0, [], [], 0⟩) 24 false)).st j 4 (V.i .u8 x199)).bind fun h202 => kN i 0 j 0 s200 (decide (((s3.len : Nat) : Int) > (0 : Int))) h202) else none) (kN i 0 j 0 s3 (decide (((s3.len : Nat) : Int) > (0 : Int))) (G2.put j (.cells (Ca.cells ⟨k0, c0, [], [], 0⟩) 24 false)))) (kN i 0 j 0 s3 true (G2.put j (.cells (Ca.cells ⟨k0, c0, [], [], 0⟩) 24 false)))) := fun R kN kR => by
    have r0 : G1.ldI .u8 q.1 (q.2 + Int.toNat 0 * 1) = some (l.getD 0 0) := rd 0 (by omega)
    have r1 : G1.ldI .u8 q.1 (q.2 + Int.toNat 1 * 1) = some (l.getD 1 0) := rd 1 (by omega)
    have r2 : G1.ldI .u8 q.1 (q.2 + Int.toNat 2 * 1) = some (l.getD 2 0) := rd 2 (by omega)
    have t0 : G2.ldI .u8 q.1 (q.2 + Int.toNat 0 * 1) = some (l.getD 0 0) := rd2 0 (by omega)
    have t1 : G2.ldI .u8 q.1 (q.2 + Int.toNat 1 * 1) = some (l.getD 1 0) := rd2 1 (by omega)
    have t2 : G2.ldI .u8 q.1 (q.2 + Int.toNat 2 * 1) = some (l.getD 2 0) := rd2 2 (by omega)
    have i0 : 0 ≤ (0 : Int) ∧ (0 : Int) < ((t.len : Nat) : Int) := by omega
    have i1 : 0 ≤ (1 : Int) ∧ (1 : Int) < ((t.len : Nat) : Int) := by omega
    have i2 : 0 ≤ (2 : Int) ∧ (2 : Int) < ((t.len : Nat) : Int) := by omega
    have vc : bvOr .i64 (IntKind.wrap .i64 (l.getD 1 0)) (shlI .i64 (IntKind.wrap .i64 (l.getD 2 0)) 8) = c0 := by
      rw [← hc0]; exact or64 h1 h2
    have e3' := e3 R
    rw [show ((3 : Nat) : Int) = 3 from rfl] at e3'
    simp only [g8_p0, alo, zc, hi, hG1]
    rw [decide_eq_false (by omega), sel_false, if_pos i0, aq, Option.bind_some, r0, Option.bind_some, if_pos i1, Option.bind_some, r1, Option.bind_some, if_pos i2, Option.bind_some, r2, Option.bind_some]
    simp only [hj, hG2]
    rw [t2, Option.bind_some, if_pos (same_i _ _), t1, Option.bind_some, if_pos (same_i _ _), t0, Option.bind_some, if_pos (same_i _ _), vc, hk0]
    rw [show [V.i IntKind.u8 k0, V.i IntKind.i64 c0, V.s str0, V.s str0, V.i IntKind.u8 0] = Ca.cells ⟨k0, c0, [], [], 0⟩ from rfl, sts_c g2, Option.bind_some, e3']
    simp only [Nat.zero_add]
    rw [(ldC' (PJ ⟨k0, c0, [], [], 0⟩)).1, Option.bind_some]
  have edl : Ca.de l = if k0 = 1 then (match txtF (l.drop 3) with
    | none => none
    | some (a, r) => match txtF r with
      | none => none
      | some (b, r) => Ca.fin ⟨k0, c0, u8s a, u8s b, 0⟩ r)
    else if k0 = 4 then (match l.drop 3 with
      | [] => none
      | u :: r => Ca.fin ⟨k0, c0, [], [], u⟩ r)
    else Ca.fin ⟨k0, c0, [], [], 0⟩ (l.drop 3) := by
    unfold Ca.de
    rw [if_neg c1, hk0, hc0]
  have none_ : ∀ o, Ca.de l = none → ∃ (G' : Heap), G' = (G2.put j o).put i (.cells Ca.zero.cells 24 false) ∧ G'.get i = some (.cells ((Ca.de l).getD .zero).cells 24 false) ∧ Ext H G' ∧ G'.Wf := fun o ed => by
    rw [ed]
    exact ⟨_, rfl, Heap.gput _ _ _, (XP o).above (by omega) _, (WP o).put (PI o) _⟩
  by_cases k1 : k0 = 1
  · rw [if_pos k1] at edl
    have b1 : (k0 == 1) = true := by simp [k1]
    have t1 := s22 hw (XP (.cells (Ca.cells ⟨k0, c0, [], [], 0⟩) 24 false)) bs3 (hb.drop 3) cap3 (by simp; omega)
    cases ht : txtF (l.drop 3) with
    | none =>
      rw [ht] at edl t1
      obtain ⟨G', eG, a, b, c⟩ := none_ (.cells (Ca.cells ⟨k0, c0, [], [], 0⟩) 24 false) edl
      refine ⟨G', fun R kR => ?_, a, b, c⟩
      rw [start, b1, sel_true, t1]
      rw [stC (by simp [Ca.cells]) rfl, Option.bind_some, sel_false]
      rw [show (Ca.cells ⟨k0, c0, [], [], 0⟩).set 2 (.s str0) = Ca.cells ⟨k0, c0, [], [], 0⟩ from rfl, bad8 (PI _), eG, edl]
      rfl
    | some p =>
      obtain ⟨a, r⟩ := p
      rw [ht] at edl t1
      obtain ⟨s4, e4, bs4, cap4⟩ := t1
      have hbr : Byt r ∧ r.length ≤ l.length := by
        cases hl3 : l.drop 3 with
        | nil => rw [hl3] at ht; cases ht
        | cons n r' =>
          rw [hl3] at ht
          simp only [txtF] at ht
          split at ht
          · cases ht
          · simp only [Option.some.injEq, Prod.mk.injEq] at ht
            have hb3 := hb.drop 3
            rw [hl3] at hb3
            have hl3' := congrArg List.length hl3
            simp at hl3'
            rw [← ht.2]
            exact ⟨fun x hx => hb3 x (List.mem_cons_of_mem _ (List.mem_of_mem_drop hx)), by simp; omega⟩
      have t2 := s22 hw (XP (.cells (Ca.cells ⟨k0, c0, u8s a, [], 0⟩) 24 false)) bs4 hbr.1 cap4 (by omega)
      have head : ∀ (R : Type) (kN : Nat → Nat → Nat → Nat → Sl → Bool → Heap → Option R) (kR : Nat → Nat → Int → Heap → Option R), g8_p0 g22 g19 R t H kN kR = g22 R s4 (G2.put j (.cells (Ca.cells ⟨k0, c0, u8s a, [], 0⟩) 24 false)) fun x192 x193 x194 h195 => ((h195).st j 3 (V.s x192)).bind fun h197 => kN i 0 j 0 x193 x194 h197 := fun R kN kR => by
        rw [start, b1, sel_true, e4, stC (by simp [Ca.cells]) rfl, Option.bind_some, sel_true]
        rfl
      cases ht2 : txtF r with
      | none =>
        simp only [ht2] at edl t2
        obtain ⟨G', eG, a', b', c'⟩ := none_ (.cells (Ca.cells ⟨k0, c0, u8s a, [], 0⟩) 24 false) edl
        refine ⟨G', fun R kR => ?_, a', b', c'⟩
        rw [head, t2, stC (by simp [Ca.cells]) rfl, Option.bind_some]
        rw [show (Ca.cells ⟨k0, c0, u8s a, [], 0⟩).set 3 (.s str0) = Ca.cells ⟨k0, c0, u8s a, [], 0⟩ from rfl, bad8 (PI _), eG, edl]
        rfl
      | some p2 =>
        obtain ⟨b, r2⟩ := p2
        simp only [ht2] at edl t2
        obtain ⟨s5, e5, bs5, cap5⟩ := t2
        obtain ⟨G', e8, g8', x8, w8⟩ := fin8 (XP (.cells (Ca.cells ⟨k0, c0, u8s a, u8s b, 0⟩) 24 false)) (WP _) (by omega) (by omega) (PI _) (PJ ⟨k0, c0, u8s a, u8s b, 0⟩) bs5.len
        rw [edl]
        refine ⟨G', fun R kR => ?_, g8', x8, w8⟩
        rw [head, e5, stC (by simp [Ca.cells]) rfl, Option.bind_some]
        exact e8 R kR
  rw [if_neg k1] at edl
  have b1 : (k0 == 1) = false := by simp [k1]
  by_cases k4 : k0 = 4
  · rw [if_pos k4] at edl
    have b4 : (k0 == 4) = true := by simp [k4]
    cases hl3 : l.drop 3 with
    | nil =>
      rw [hl3] at edl bs3
      have hs3 : s3.len = 0 := bs3.len
      obtain ⟨G', eG, a, b, c⟩ := none_ (.cells (Ca.cells ⟨k0, c0, [], [], 0⟩) 24 false) edl
      refine ⟨G', fun R kR => ?_, a, b, c⟩
      rw [start, b1, sel_false, b4, sel_true, show decide (((s3.len : Nat) : Int) > 0) = false by rw [hs3]; rfl, sel_false, bad8 (PI _), eG, edl]
      rfl
    | cons u r =>
      rw [hl3] at edl bs3
      have hs3 : s3.len = r.length + 1 := bs3.len
      obtain ⟨q3, aq3, rd3⟩ := (bs3.ext hw (XP (.cells (Ca.cells ⟨k0, c0, [], [], 0⟩) 24 false))).at (by simp)
      have r0 : (G2.put j (.cells (Ca.cells ⟨k0, c0, [], [], 0⟩) 24 false)).ldI .u8 q3.1 (q3.2 + Int.toNat 0 * 1) = some u := rd3 0 (by simp)
      obtain ⟨s5, e5, bs5, cap5, _⟩ := slOf_from cap3 bs3 (k := 1) (by simp)
      obtain ⟨G', e8, g8', x8, w8⟩ := fin8 (XP (.cells (Ca.cells ⟨k0, c0, [], [], u⟩) 24 false)) (WP _) (by omega) (by omega) (PI _) (PJ ⟨k0, c0, [], [], u⟩) (r := r) bs5.len
      rw [edl]
      refine ⟨G', fun R kR => ?_, g8', x8, w8⟩
      have e5' := e5 R
      rw [show ((1 : Nat) : Int) = 1 from rfl] at e5'
      rw [start, b1, sel_false, b4, sel_true, show decide (((s3.len : Nat) : Int) > 0) = true by rw [hs3]; simp, sel_true, if_pos (by omega), aq3, Option.bind_some, r0, Option.bind_some, e5', stC (by simp [Ca.cells]) rfl, Option.bind_some]
      exact e8 R kR
  · rw [if_neg k4] at edl
    have b4 : (k0 == 4) = false := by simp [k4]
    obtain ⟨G', e8, g8', x8, w8⟩ := fin8 (XP (.cells (Ca.cells ⟨k0, c0, [], [], 0⟩) 24 false)) (WP _) (by omega) (by omega) (PI _) (PJ ⟨k0, c0, [], [], 0⟩) bs3.len
    rw [edl]
    refine ⟨G', fun R kR => ?_, g8', x8, w8⟩
    rw [start, b1, sel_false, b4, sel_false]
    exact e8 R kR
end Go.Proofs.YtnjihofdmncckaaDoor

