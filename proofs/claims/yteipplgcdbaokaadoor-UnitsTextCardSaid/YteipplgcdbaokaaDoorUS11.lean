/- UnitsText. -/
import Derived.Test.YteipplgcdbaokaaDoorUS8
namespace Go.Proofs.YteipplgcdbaokaaDoor
open Go AM Go.RowKit
set_option linter.unusedVariables false
set_option linter.unusedSimpArgs false

theorem Byt.set {l : List Int} (h : Byt l) (k : Nat) {n : Int} (hn : 0 ≤ n ∧ n ≤ 255) : Byt (l.set k n) := fun x hx => by
  rcases List.mem_or_eq_of_mem_set hx with q | rfl
  · exact h x q
  · exact hn
theorem Byt.zeros (n : Nat) : Byt (List.replicate n 0) := fun x hx => by rw [List.eq_of_mem_replicate hx]; omega
/-- Message: 2 octets and more, no more than 273 -/
theorem s34 {H : Heap} (hw : H.Wf) {n : Int} (hn : 0 ≤ n ∧ n ≤ 65535) {t : Sl} {l : List Int} (ht : BS H t l) (hb : Byt l) (hm : l.length ≤ maxLen) :
    ∃ s' H' m, (∀ (R : Type) (K : Sl → Heap → Option R), g34 R n t H K = K s' H') ∧ BS H' s' m ∧ Byt m ∧ 2 ≤ m.length ∧ m.length ≤ 273 ∧ CapOk s' ∧ (∃ q, s'.a = some (q, 0) ∧ H.next ≤ q) ∧ Ext H H' ∧ H'.Wf := by
  have htl : t.len = l.length := ht.len
  have hm' : l.length ≤ 9223372036854775807 := Nat.le_trans hm (by simp [maxLen])
  have hN : IntKind.wrap .i64 ((2 : Int) + (IntKind.wrap .i64 (Int.tmod n 272))) = ((2 + (n % 272).toNat : Nat) : Int) := by
    rw [tmodp hn.1, w64 (n := n % 272) (by omega), w64 (by omega)]; omega
  have hNb : 2 + (n % 272).toNat ≤ 273 := by omega
  have hN2 : 2 ≤ 2 + (n % 272).toNat := by omega
  generalize 2 + (n % 272).toNat = N at *
  have os := OS.make (H0 := H) (e := 5) (vs := List.replicate N 0) hw (.refl _ H) (c := .ex N) (.inl (by simp))
  rw [List.length_replicate] at os
  obtain ⟨r, H', e, rfl, m, k1, k2, k3⟩ := tlim_inv (b := g34_p2_b) (fun st G => ∃ (k : Nat) (cur : List Int), st = (t, ⟨some (H.next, 0), N, .ex N⟩, (k : Int)) ∧ k ≤ N ∧ cur.length = N ∧ Byt cur ∧ OS H G 5 ⟨some (H.next, 0), N, .ex N⟩ cur H.next) (fun st => N - st.2.2.toNat)
    (fun r G => r = ⟨some (H.next, 0), N, .ex N⟩ ∧ ∃ m, m.length = N ∧ Byt m ∧ OS H G 5 ⟨some (H.next, 0), N, .ex N⟩ m H.next) (by
      rintro st G ⟨k, cur, rfl, hk, hc, hcb, hO⟩
      by_cases hkN : k < N
      · by_cases h0 : l = []
        · right
          refine ⟨_, G, ?_, rfl, cur, hc, hcb, hO⟩
          have c2 : decide (((t.len : Nat) : Int) > 0) = false := by rw [htl, h0]; rfl
          have c1 : decide ((k : Int) < ((N : Nat) : Int)) = true := by simp; omega
          simp only [g34_p2_b, g34_p1, c1, sel_true, c2, sel_false]
        · left
          have hpos := List.length_pos_iff.2 h0
          obtain ⟨q, aq, rd⟩ := (ht.ext hw hO.ext).at h0
          have c1 : decide ((k : Int) < ((N : Nat) : Int)) = true := by simp; omega
          have c2 : decide (((t.len : Nat) : Int) > 0) = true := by simp; omega
          have c3 : ¬((t.len : Nat) : Int) = 0 := by omega
          have hmod : Int.tmod (k : Int) ((t.len : Nat) : Int) = ((k % l.length : Nat) : Int) := by rw [htl]; rfl
          have hlt := Nat.mod_lt k hpos
          have c4 : 0 ≤ ((k % l.length : Nat) : Int) ∧ ((k % l.length : Nat) : Int) < ((t.len : Nat) : Int) := by omega
          have c5 : 0 ≤ (k : Int) ∧ (k : Int) < ((N : Nat) : Int) := by omega
          have w1 : IntKind.wrap .i64 ((k : Int) + 1) = ((k + 1 : Nat) : Int) := by rw [w64 (by omega)]; rfl
          obtain ⟨G2, e2, hO2, _, _⟩ := hO.set (k := k) (by omega) (l.getD (k % l.length) 0)
          refine ⟨_, G2, ?_, ⟨k + 1, cur.set k (l.getD (k % l.length) 0), rfl, by omega, by simpa using hc, Byt.set hcb k (hb.getD _), hO2⟩, by dsimp only; omega⟩
          simp only [g34_p2_b, g34_p1, c1, sel_true, c2]
          rw [if_neg c3, hmod, if_pos c4, aq, Option.bind_some, Int.toNat_natCast, rd _ hlt, Option.bind_some, if_pos c5, Option.bind_some, Int.toNat_natCast]
          simp only [e2, Option.bind_some, w1]
      · right
        have c1 : decide ((k : Int) < ((N : Nat) : Int)) = false := by simp; omega
        exact ⟨_, G, by simp only [g34_p2_b, g34_p1, c1, sel_false], rfl, cur, hc, hcb, hO⟩) (t, ⟨some (H.next, 0), N, .ex N⟩, 0) _ ⟨0, _, rfl, by omega, by simp, Byt.zeros N, os⟩
  refine ⟨_, H', m, fun R K => ?_, k3.bs, k2, by omega, by omega, k3.capOk, ⟨_, rfl, Nat.le_refl _⟩, k3.ext, k3.wf⟩
  have c0 : 0 ≤ (N : Int) ∧ (N : Int) ≤ (N : Int) ∧ (N : Int) ≤ 9223372036854775807 ∧ (N : Int) * ((1 : Nat) : Int) ≤ 281474976710656 := by omega
  simp only [g34, g34_r, g34_p6, g34_p0, hN, Int.toNat_natCast]
  rw [if_pos c0, zeros5, Option.bind_some]
  simp only [alo, g34_p5, g34_p3, g34_p2, e, Option.bind_some, g34_p4]
/-- Of: a valid unit -/
theorem s21 {H : Heap} (hw : H.Wf) {a b c d f : Int} (ha : 0 ≤ a ∧ a ≤ 255) (hb : 0 ≤ b ∧ b ≤ 255) (hc : 0 ≤ c ∧ c ≤ 255) (hd : 0 ≤ d ∧ d ≤ 255) (hf : 0 ≤ f ∧ f ≤ 65535) {t : Sl} {l : List Int} (ht : BS H t l) (hbl : Byt l) (hm : l.length ≤ maxLen) :
    ∃ (u : Un) (s' : Sl) (H' : Heap), (∀ (R : Type) (K : Int → Bool → Int → Bool → Int → Int → Sl → Heap → Option R), g21 R a b c d f t H K = K u.b u.bb u.f u.fb u.k u.st s' H') ∧ u.Ok ∧ u.ck = 0 ∧ BS H' s' u.ld ∧ CapOk s' ∧ Ext H H' ∧ H'.Wf := by
  have fin : ∀ {R : Type} {i : Nat} (K : Int → Bool → Int → Bool → Int → Int → Sl → Heap → Option R) (G : Heap) (u : Un) (s : Sl), G.get i = some (.cells (u.cells s) 25 false) →
      ((G.ldI .u8 i 0).bind fun x74 => (G.ldB i 1).bind fun x75 => (G.ldI .u8 i 2).bind fun x76 => (G.ldB i 3).bind fun x77 => (G.ldI .u8 i 4).bind fun x78 => (G.ldI .u8 i 5).bind fun x79 => (G.ldSl i 6).bind fun x80 => K x74 x75 x76 x77 x78 x79 x80 G) = K u.b u.bb u.f u.fb u.k u.st s G := by
    intro R i K G u s hG
    obtain ⟨a0, a1, a2, a3, a4, a5, a6⟩ := ldU (H0 := H) hG
    simp only [a0, a1, a2, a3, a4, a5, a6, Option.bind_some]
  have gC := Heap.gnew H (.cells [.i .u8 a, .i .u8 b, .i .u8 c, .i .u8 d, .i .u16 f, .sl t] 46 false)
  have wC := hw.new (.cells [.i .u8 a, .i .u8 b, .i .u8 c, .i .u8 d, .i .u16 f, .sl t] 46 false)
  have xC := Ext.new H (.cells [.i .u8 a, .i .u8 b, .i .u8 c, .i .u8 d, .i .u16 f, .sl t] 46 false)
  have dG : ∀ (R : Type) (K : Int → Bool → Int → Bool → Int → Int → Sl → Heap → Option R), g21 R a b c d f t H K = g21_p0 g34 R a b c d f t H fun t2_0 t2_1 G => (G.ldI .u8 t2_0 (t2_1 + 0)).bind fun x74 => (G.ldB t2_0 (t2_1 + 1)).bind fun x75 => (G.ldI .u8 t2_0 (t2_1 + 2)).bind fun x76 => (G.ldB t2_0 (t2_1 + 3)).bind fun x77 => (G.ldI .u8 t2_0 (t2_1 + 4)).bind fun x78 => (G.ldI .u8 t2_0 (t2_1 + 5)).bind fun x79 => (G.ldSl t2_0 (t2_1 + 6)).bind fun x80 => K x74 x75 x76 x77 x78 x79 x80 G := fun _ _ => rfl
  generalize hi1 : H.next = i1 at *
  generalize hH1 : H.new (.cells [.i .u8 a, .i .u8 b, .i .u8 c, .i .u8 d, .i .u16 f, .sl t] 46 false) = H1 at *
  have g3 := Heap.gnew H1 (.cells (Un.zero.cells nilS) 25 false)
  have w2 := wC.new (.cells (Un.zero.cells nilS) 25 false)
  have x2 := Ext.new H1 (.cells (Un.zero.cells nilS) 25 false)
  have gC2 := x2.get wC gC
  generalize hi3 : H1.next = i3 at *
  generalize hH2 : H1.new (.cells (Un.zero.cells nilS) 25 false) = H2 at *
  have g10 := Heap.gnew H2 (.cells (Un.zero.cells nilS) 25 false)
  have w3 := w2.new (.cells (Un.zero.cells nilS) 25 false)
  have x3 := Ext.new H2 (.cells (Un.zero.cells nilS) 25 false)
  have gC3 := x3.get w2 gC2
  have g33 := x3.get w2 g3
  have n13 : i1 < i3 := by have := wC _ _ gC; omega
  have n310 : i3 < H2.next := w2 _ _ g3
  generalize hi10 : H2.next = i10 at *
  generalize hH3 : H2.new (.cells (Un.zero.cells nilS) 25 false) = H3 at *
  have hnn : H.next ≤ i3 := by omega
  have xx3 : Ext H H3 := xC.trans (x2.trans x3)
  -- what is made
  let v : Un := ⟨a % 128, decide (a ≥ 128), b % 128, decide (b ≥ 128), c % 3, 0, []⟩
  have P : ∀ (u : Un) (s : Sl), (H3.put i10 (.cells (u.cells s) 25 false)).get i10 = some (.cells (u.cells s) 25 false) := fun u s => Heap.gput _ _ _
  have PC : ∀ (o : O), (H3.put i10 o).get i1 = some (.cells [.i .u8 a, .i .u8 b, .i .u8 c, .i .u8 d, .i .u16 f, .sl t] 46 false) := fun o => by rw [Heap.get_put, if_neg (by omega)]; exact gC3
  have P3 : ∀ (o : O), (H3.put i10 o).get i3 = some (.cells (Un.zero.cells nilS) 25 false) := fun o => by rw [Heap.get_put, if_neg (by omega)]; exact g33
  have rC : ∀ {G : Heap}, G.get i1 = some (.cells [.i .u8 a, .i .u8 b, .i .u8 c, .i .u8 d, .i .u16 f, .sl t] 46 false) → G.ldI .u8 i1 0 = some a ∧ G.ldI .u8 i1 1 = some b ∧ G.ldI .u8 i1 2 = some c ∧ G.ldI .u8 i1 3 = some d ∧ G.ldI .u16 i1 4 = some f ∧ G.ldSl i1 5 = some t := fun h =>
    ⟨ldI_of h rfl, ldI_of h rfl, ldI_of h rfl, ldI_of h rfl, ldI_of h rfl, ldSl_of h rfl⟩
  obtain ⟨a0, a1, a2, _, _, _⟩ := rC gC2
  obtain ⟨_, _, _, b3, b4, b5⟩ := rC (PC (.cells (v.cells nilS) 25 false))
  obtain ⟨c0, c1, c2, c3, c4, c5, c6⟩ := ldU (H0 := H) (P v nilS)
  have w4 := w3.put g10 (.cells (v.cells nilS) 25 false)
  have start : ∀ (R : Type) (K : Int → Bool → Int → Bool → Int → Int → Sl → Heap → Option R), g21 R a b c d f t H K = sel (v.k == 1) (((H3.put i10 (.cells (v.cells nilS) 25 false)).st i10 5 (V.i .u8 (Int.tmod d 6))).bind fun h16 =>
      (h16.ldI .u8 i10 0).bind fun x17 => (h16.ldB i10 1).bind fun x18 => (h16.ldI .u8 i10 2).bind fun x19 => (h16.ldB i10 3).bind fun x20 => (h16.ldI .u8 i10 4).bind fun x21 => (h16.ldI .u8 i10 5).bind fun x22 => (h16.ldSl i10 6).bind fun x23 =>
        (h16.sts i3 0 [(V.i .u8 x17), (V.b x18), (V.i .u8 x19), (V.b x20), (V.i .u8 x21), (V.i .u8 x22), (V.sl x23)]).bind fun G => (G.ldI .u8 i3 0).bind fun x74 => (G.ldB i3 1).bind fun x75 => (G.ldI .u8 i3 2).bind fun x76 => (G.ldB i3 3).bind fun x77 => (G.ldI .u8 i3 4).bind fun x78 => (G.ldI .u8 i3 5).bind fun x79 => (G.ldSl i3 6).bind fun x80 => K x74 x75 x76 x77 x78 x79 x80 G)
      (sel (v.k == 2) (g34 R f t (H3.put i10 (.cells (v.cells nilS) 25 false)) fun x27 h28 => (h28.st i10 6 (V.sl x27)).bind fun h16 =>
      (h16.ldI .u8 i10 0).bind fun x17 => (h16.ldB i10 1).bind fun x18 => (h16.ldI .u8 i10 2).bind fun x19 => (h16.ldB i10 3).bind fun x20 => (h16.ldI .u8 i10 4).bind fun x21 => (h16.ldI .u8 i10 5).bind fun x22 => (h16.ldSl i10 6).bind fun x23 =>
        (h16.sts i3 0 [(V.i .u8 x17), (V.b x18), (V.i .u8 x19), (V.b x20), (V.i .u8 x21), (V.i .u8 x22), (V.sl x23)]).bind fun G => (G.ldI .u8 i3 0).bind fun x74 => (G.ldB i3 1).bind fun x75 => (G.ldI .u8 i3 2).bind fun x76 => (G.ldB i3 3).bind fun x77 => (G.ldI .u8 i3 4).bind fun x78 => (G.ldI .u8 i3 5).bind fun x79 => (G.ldSl i3 6).bind fun x80 => K x74 x75 x76 x77 x78 x79 x80 G)
      (((H3.put i10 (.cells (v.cells nilS) 25 false)).sts i3 0 (v.cells nilS)).bind fun G => (G.ldI .u8 i3 0).bind fun x74 => (G.ldB i3 1).bind fun x75 => (G.ldI .u8 i3 2).bind fun x76 => (G.ldB i3 3).bind fun x77 => (G.ldI .u8 i3 4).bind fun x78 => (G.ldI .u8 i3 5).bind fun x79 => (G.ldSl i3 6).bind fun x80 => K x74 x75 x76 x77 x78 x79 x80 G)) := by
    intro R K
    rw [dG]
    unfold g21_p0 alo
    rw [show [V.i IntKind.u8 0, V.b false, V.i IntKind.u8 0, V.b false, V.i IntKind.u8 0, V.i IntKind.u8 0, V.sl (Sl.mk none 0 (.ex 0))] = Un.zero.cells nilS from rfl]
    have q1 : H3.sts i10 0 (v.cells nilS) = some (H3.put i10 (.cells (v.cells nilS) 25 false)) := sts_all g10
    simp only [Nat.zero_add, hi1, hH1, hi3, hH2, hi10, hH3, a0, a1, a2, Option.bind_some, tmodp ha.1, tmodp hb.1, tmodp hc.1]
    rw [show [V.i IntKind.u8 (a % 128), V.b (decide (a ≥ 128)), V.i IntKind.u8 (b % 128), V.b (decide (b ≥ 128)), V.i IntKind.u8 (c % 3), V.i IntKind.u8 0, V.sl ⟨none, 0, .ex 0⟩] = v.cells nilS from rfl, q1, Option.bind_some]
    simp only [c0, c1, c2, c3, c4, c5, c6, b3, b4, b5, Option.bind_some]
    rfl
  have hv : v.Ok := ⟨by show 0 ≤ a % 128 ∧ a % 128 ≤ 255; omega, by show 0 ≤ b % 128 ∧ b % 128 ≤ 255; omega, by show 0 ≤ c % 3 ∧ c % 3 ≤ 255; omega, by show (0 : Int) ≤ 0 ∧ (0 : Int) ≤ 255; omega, fun n hn => by cases hn⟩
  have vb : v.b ≤ 127 := by show a % 128 ≤ 127; omega
  have vf : v.f ≤ 127 := by show b % 128 ≤ 127; omega
  have vk : v.k ≤ 2 := by show c % 3 ≤ 2; omega
  have vst : v.st = 0 := rfl
  have vld : v.ld = [] := rfl
  generalize v = v at *
  by_cases h1 : v.k = 1
  · have p1 : (H3.put i10 (.cells (v.cells nilS) 25 false)).st i10 5 (V.i .u8 (Int.tmod d 6)) = some (H3.put i10 (.cells (({ v with st := d % 6 } : Un).cells nilS) 25 false)) := by
      rw [tmodp hd.1, st_of (P v nilS) (by simp [Un.cells]) rfl, Heap.put_put]; rfl
    obtain ⟨d0, d1, d2, d3, d4, d5, d6⟩ := ldU (H0 := H) (P { v with st := d % 6 } nilS)
    have p2 : (H3.put i10 (.cells (({ v with st := d % 6 } : Un).cells nilS) 25 false)).sts i3 0 (({ v with st := d % 6 } : Un).cells nilS) = some ((H3.put i10 (.cells (({ v with st := d % 6 } : Un).cells nilS) 25 false)).put i3 (.cells (({ v with st := d % 6 } : Un).cells nilS) 25 false)) := sts_all (P3 _)
    refine ⟨{ v with st := d % 6 }, nilS, (H3.put i10 (.cells (({ v with st := d % 6 } : Un).cells nilS) 25 false)).put i3 (.cells (({ v with st := d % 6 } : Un).cells nilS) 25 false), fun R K => ?_, ⟨hv.b, hv.f, hv.k, by simp only; omega, hv.ld⟩, ?_, ?_, Nat.le_refl _, (xx3.above (by omega) _).above (by omega) _, (w3.put g10 _).put (P3 _) _⟩
    · rw [start, show (v.k == 1) = true by simpa using h1, sel_true, p1, Option.bind_some]
      simp only [d0, d1, d2, d3, d4, d5, d6, Option.bind_some]
      rw [show [V.i IntKind.u8 v.b, V.b v.bb, V.i IntKind.u8 v.f, V.b v.fb, V.i IntKind.u8 v.k, V.i IntKind.u8 (d % 6), V.sl nilS] = ({ v with st := d % 6 } : Un).cells nilS from rfl, p2, Option.bind_some]
      exact fin K _ { v with st := d % 6 } nilS (Heap.gput _ _ _)
    · unfold Un.ck; simp only [vld, List.length_nil]
      rw [if_neg (by omega), if_neg (by omega)]
    · show BS _ nilS v.ld
      rw [vld]; exact .nil _
  by_cases h2 : v.k = 2
  · obtain ⟨s', H4, m, e4, bs4, bm, l2, l3, cap4, ⟨q4, hq4, nq4⟩, x4, w5⟩ := s34 w4 hf (ht.ext hw (xx3.above (id := i10) (by omega) _)) hbl hm
    have gi10 := x4.get w4 (P v nilS)
    have gi3 := x4.get w4 (P3 (.cells (v.cells nilS) 25 false))
    have p1 : H4.st i10 6 (V.sl s') = some (H4.put i10 (.cells (({ v with ld := m } : Un).cells s') 25 false)) := by
      rw [st_of gi10 (by simp [Un.cells]) rfl]; rfl
    obtain ⟨d0, d1, d2, d3, d4, d5, d6⟩ := ldU (H0 := H) (Heap.gput H4 i10 (.cells (({ v with ld := m } : Un).cells s') 25 false))
    have gi3' : (H4.put i10 (.cells (({ v with ld := m } : Un).cells s') 25 false)).get i3 = some (.cells (Un.zero.cells nilS) 25 false) := by rw [Heap.get_put, if_neg (by omega)]; exact gi3
    have p2 : (H4.put i10 (.cells (({ v with ld := m } : Un).cells s') 25 false)).sts i3 0 (({ v with ld := m } : Un).cells s') = some ((H4.put i10 (.cells (({ v with ld := m } : Un).cells s') 25 false)).put i3 (.cells (({ v with ld := m } : Un).cells s') 25 false)) := sts_all gi3'
    have xH4 : Ext H H4 := (xx3.above (id := i10) (by omega) _).trans x4
    refine ⟨{ v with ld := m }, s', (H4.put i10 (.cells (({ v with ld := m } : Un).cells s') 25 false)).put i3 (.cells (({ v with ld := m } : Un).cells s') 25 false), fun R K => ?_, ⟨hv.b, hv.f, hv.k, hv.st, bm⟩, ?_, ?_, cap4, (xH4.above (by omega) _).above (by omega) _, (w5.put gi10 _).put gi3' _⟩
    · rw [start, show (v.k == 1) = false by simpa using h1, sel_false, show (v.k == 2) = true by simpa using h2, sel_true, e4, p1, Option.bind_some]
      simp only [d0, d1, d2, d3, d4, d5, d6, Option.bind_some]
      rw [show [V.i IntKind.u8 v.b, V.b v.bb, V.i IntKind.u8 v.f, V.b v.fb, V.i IntKind.u8 v.k, V.i IntKind.u8 v.st, V.sl s'] = ({ v with ld := m } : Un).cells s' from rfl, p2, Option.bind_some]
      exact fin K _ { v with ld := m } s' (Heap.gput _ _ _)
    · unfold Un.ck; simp only [vst]
      rw [if_neg (by omega), if_neg (by omega)]
    · refine bs4.mono fun id off o hid ho => ?_
      rw [hq4] at hid; cases hid
      have hnx : (H3.put i10 (.cells (v.cells nilS) 25 false)).next = H3.next := rfl
      have hlt := w3 _ _ g10
      rw [Heap.get_put, if_neg (by omega), Heap.get_put, if_neg (by omega)]
      exact ho
  · have p2 : (H3.put i10 (.cells (v.cells nilS) 25 false)).sts i3 0 (v.cells nilS) = some ((H3.put i10 (.cells (v.cells nilS) 25 false)).put i3 (.cells (v.cells nilS) 25 false)) := sts_all (P3 _)
    refine ⟨v, nilS, (H3.put i10 (.cells (v.cells nilS) 25 false)).put i3 (.cells (v.cells nilS) 25 false), fun R K => ?_, hv, ?_, ?_, Nat.le_refl _, (xx3.above (by omega) _).above (by omega) _, w4.put (P3 _) _⟩
    · rw [start, show (v.k == 1) = false by simpa using h1, sel_false, show (v.k == 2) = false by simpa using h2, sel_false, p2, Option.bind_some]
      exact fin K _ v nilS (Heap.gput _ _ _)
    · unfold Un.ck; simp only [vst, vld, List.length_nil]
      rw [if_neg (by omega), if_neg (by omega)]
    · rw [vld]; exact .nil _
end Go.Proofs.YteipplgcdbaokaaDoor

