/- UnitsText: the law. -/
import Derived.Test.YteipplgcdbaokaaDoorUS11
namespace Go.Proofs.YteipplgcdbaokaaDoor
open Go AM Go.RowKit
set_option linter.unusedVariables false
set_option linter.unusedSimpArgs false

theorem subHex : ∀ n : Fin 16, (subS str9 ((n.val : Nat) : Int) ((n.val : Nat) + 1 : Int)).data.toList = u8s [hexd ((n.val : Nat) : Int)] := by decide +kernel
theorem subHex' {n : Int} (h : 0 ≤ n ∧ n < 16) : subS str9 n (n + 1) = bsU (u8s [hexd n]) := by
  have := subHex ⟨n.toNat, by omega⟩
  simp only at this
  rw [show ((n.toNat : Nat) : Int) = n by omega] at this
  rw [bsU_of (subS str9 n (n + 1)), this]
theorem s23 {R : Type} (b : Bool) (H : Heap) (K : ByteArray → Heap → Option R) : g23 R b H K = K (bsU (sg b)) H := by
  have h3 : str3 = bsU [43] := rfl
  have h4 : str4 = bsU [45] := rfl
  cases b
  · simp only [g23, g23_r, g23_p0, sel_false, h4]; rfl
  · simp only [g23, g23_r, g23_p0, sel_true, h3]; rfl
theorem u8s_append (a b : List Int) : u8s (a ++ b) = u8s a ++ u8s b := by simp [u8s]
theorem u8s_length (a : List Int) : (u8s a).length = a.length := by simp [u8s]
/-- the loop over a load -/
theorem loop7 {P : Heap} {i : Nat} {u : Un} {s : Sl} (g : P.get i = some (.cells (u.cells s) 25 false)) (hu : u.Ok) (h : BS P s u.ld) (h0 : u.ld ≠ []) (hl : u.ld.length ≤ 1000) (z : ByteArray) (R : Type) (K : Nat → Nat → ByteArray → ByteArray → Heap → Option R) :
    g7_p7 g21 g22 g23 g12 g8 R i 0 z str2 0 P K = K i 0 z (bsU (u8s (hex u.ld))) P := by
  have hs : s.len = u.ld.length := h.len
  obtain ⟨_, _, _, _, _, _, a6⟩ := ldU (H0 := P) g
  obtain ⟨q, aq, rd⟩ := h.at h0
  have hz : ((str9.size : Nat) : Int) = 16 := by decide +kernel
  obtain ⟨r, H', e, rfl, rfl⟩ := tlim_inv (b := g7_p7_b g21 g22 g23 g12 g8) (fun st G => ∃ k : Nat, st = (i, 0, z, bsU (u8s (hex (u.ld.take k))), (k : Int)) ∧ k ≤ u.ld.length ∧ G = P) (fun st => u.ld.length - st.2.2.2.2.toNat)
    (fun r G => r = (i, 0, z, bsU (u8s (hex u.ld))) ∧ G = P) (by
      rintro st G ⟨k, rfl, hk, rfl⟩
      by_cases hkl : k < u.ld.length
      · left
        have hx := hu.ld.getD k
        have hlen := hex_length (u.ld.take k)
        rw [List.length_take, Nat.min_eq_left hk] at hlen
        have c1 : decide ((k : Int) < ((s.len : Nat) : Int)) = true := by simp; omega
        have c2 : 0 ≤ (k : Int) ∧ (k : Int) < ((s.len : Nat) : Int) := by omega
        have w1 : IntKind.wrap .i64 ((k : Int) + 1) = ((k + 1 : Nat) : Int) := by rw [w64 (by omega)]; rfl
        have v1 : IntKind.wrap .u8 (Int.tdiv (u.ld.getD k 0) 16) = u.ld.getD k 0 / 16 := by rw [tdivp hx.1, w8u (by omega)]
        have v2 : IntKind.wrap .u8 (u.ld.getD k 0 / 16 + 1) = u.ld.getD k 0 / 16 + 1 := w8u (by omega)
        have v3 : Int.tmod (u.ld.getD k 0) 16 = u.ld.getD k 0 % 16 := tmodp hx.1
        have v4 : IntKind.wrap .u8 (u.ld.getD k 0 % 16 + 1) = u.ld.getD k 0 % 16 + 1 := w8u (by omega)
        have c3 : 0 ≤ u.ld.getD k 0 / 16 ∧ u.ld.getD k 0 / 16 ≤ u.ld.getD k 0 / 16 + 1 ∧ u.ld.getD k 0 / 16 + 1 ≤ ((str9.size : Nat) : Int) := by rw [hz]; omega
        have c4 : 0 ≤ u.ld.getD k 0 % 16 ∧ u.ld.getD k 0 % 16 ≤ u.ld.getD k 0 % 16 + 1 ∧ u.ld.getD k 0 % 16 + 1 ≤ ((str9.size : Nat) : Int) := by rw [hz]; omega
        have s1 := subHex' (n := u.ld.getD k 0 / 16) (by omega)
        have s2 := subHex' (n := u.ld.getD k 0 % 16) (by omega)
        have r1 := rd k hkl
        generalize hgx : u.ld.getD k 0 = x at *
        refine ⟨(i, 0, z, bsU (u8s (hex (u.ld.take k)) ++ u8s [hexd (x / 16)] ++ u8s [hexd (x % 16)]), ((k + 1 : Nat) : Int)), G, ?_, ⟨k + 1, ?_, by omega, rfl⟩, by dsimp only; omega⟩
        · simp only [g7_p7_b, g7_p6, Nat.zero_add, a6, Option.bind_some, c1, sel_true, if_pos c2, aq, Int.toNat_natCast, r1, v1, v2, v3, v4, if_pos c3, if_pos c4, s1, s2, w1]
          rw [catU (by simp [u8s_length]; omega), catU (by simp [u8s_length]; omega)]
        · rw [List.take_add_one, List.getElem?_eq_getElem hkl, hex_append]
          simp only [Option.toList_some, hex]
          have : x = u.ld[k] := by rw [← hgx]; simp [List.getD_eq_getElem?_getD, List.getElem?_eq_getElem hkl]
          rw [← this, u8s_append]
          simp [u8s]
      · right
        have c1 : decide ((k : Int) < ((s.len : Nat) : Int)) = false := by simp; omega
        refine ⟨(i, 0, z, bsU (u8s (hex u.ld))), G, ?_, rfl, rfl⟩
        simp only [g7_p7_b, g7_p6, Nat.zero_add, a6, Option.bind_some, c1, sel_false]
        rw [List.take_of_length_le (by omega)]) (i, 0, z, str2, 0) P ⟨0, rfl, by omega, rfl⟩
  unfold g7_p7
  rw [e, Option.bind_some]
theorem unitsText_true (H : Heap) (hw : H.Wf) (x1 x2 x3 x4 x5 : Int) (t : Sl) (k1 : (Lit.int .u8 x1).wf = true) (k2 : (Lit.int .u8 x2).wf = true) (k3 : (Lit.int .u8 x3).wf = true) (k4 : (Lit.int .u8 x4).wf = true) (k5 : (Lit.int .u16 x5).wf = true) (k6 : ArgSl H [.i .u8] t) :
    g7 Bool x1 x2 x3 x4 x5 t H (fun r _ => some r) = some true := by
  obtain ⟨l, ht, hbl, hc, hm, _⟩ := bs_of_arg k6
  have gC := Heap.gnew H (.cells [.i .u8 x1, .i .u8 x2, .i .u8 x3, .i .u8 x4, .i .u16 x5, .sl t] 46 false)
  have wC := hw.new (.cells [.i .u8 x1, .i .u8 x2, .i .u8 x3, .i .u8 x4, .i .u16 x5, .sl t] 46 false)
  have xC := Ext.new H (.cells [.i .u8 x1, .i .u8 x2, .i .u8 x3, .i .u8 x4, .i .u16 x5, .sl t] 46 false)
  have htC := ht.ext hw xC
  show g7_p0 g21 g22 g23 g12 g8 Bool x1 x2 x3 x4 x5 t H (fun t3_0 t3_1 t4 t29 H => g7_p18 g21 g22 g23 g12 g8 Bool t3_0 t3_1 t4 t29 H (fun r _ => some r)) = _
  unfold g7_p0 alo
  simp only [Nat.zero_add]
  generalize hi1 : H.next = i1 at *
  generalize hH1 : H.new (.cells [.i .u8 x1, .i .u8 x2, .i .u8 x3, .i .u8 x4, .i .u16 x5, .sl t] 46 false) = H1 at *
  have a0 : H1.ldI .u8 i1 0 = some x1 := ldI_of gC rfl
  have a1 : H1.ldI .u8 i1 1 = some x2 := ldI_of gC rfl
  have a2 : H1.ldI .u8 i1 2 = some x3 := ldI_of gC rfl
  have a3 : H1.ldI .u8 i1 3 = some x4 := ldI_of gC rfl
  have a4 : H1.ldI .u16 i1 4 = some x5 := ldI_of gC rfl
  have a5 : H1.ldSl i1 5 = some t := ldSl_of gC rfl
  obtain ⟨u, s, H2, e21, hu, hk, bs2, cap2, xx2, w2⟩ := s21 wC (wfU8 k1) (wfU8 k2) (wfU8 k3) (wfU8 k4) (wfU16 k5) htC hbl hm
  simp only [a0, a1, a2, a3, a4, a5, Option.bind_some, e21]
  have g3 := Heap.gnew H2 (.cells (Un.zero.cells nilS) 25 false)
  have w3 := w2.new (.cells (Un.zero.cells nilS) 25 false)
  rw [show [V.i IntKind.u8 0, V.b false, V.i IntKind.u8 0, V.b false, V.i IntKind.u8 0, V.i IntKind.u8 0, V.sl (Sl.mk none 0 (.ex 0))] = Un.zero.cells nilS from rfl]
  rw [show [V.i IntKind.u8 u.b, V.b u.bb, V.i IntKind.u8 u.f, V.b u.fb, V.i IntKind.u8 u.k, V.i IntKind.u8 u.st, V.sl s] = u.cells s from rfl]
  generalize hi : H2.next = i at *
  have p1 : (H2.new (.cells (Un.zero.cells nilS) 25 false)).sts i 0 (u.cells s) = some ((H2.new (.cells (Un.zero.cells nilS) 25 false)).put i (.cells (u.cells s) 25 false)) := sts_all g3
  rw [p1, Option.bind_some]
  have gP := Heap.gput (H2.new (.cells (Un.zero.cells nilS) 25 false)) i (.cells (u.cells s) 25 false)
  have wP := w3.put g3 (.cells (u.cells s) 25 false)
  have bsP : BS ((H2.new (.cells (Un.zero.cells nilS) 25 false)).put i (.cells (u.cells s) 25 false)) s u.ld := bs2.ext w2 ((Ext.new H2 _).above (by omega) _)
  generalize hP : (H2.new (.cells (Un.zero.cells nilS) 25 false)).put i (.cells (u.cells s) 25 false) = P at *
  obtain ⟨b0, b1, b2, b3, b4, b5, b6⟩ := ldU (H0 := H) gP
  obtain ⟨c1, c2, c3, c4, c5, c6, c7⟩ := Un.ck_b hk
  have hub := hu.b; have huf := hu.f; have hust := hu.st; have huk := hu.k
  have l1 := decI_len' hub; have l2 := decI_len' huf; have l3 := decI_len' hust
  have ls : ∀ b, (sg b).length = 1 := by intro b; cases b <;> rfl
  have v1 : IntKind.wrap .i64 u.b = u.b := w64 (by omega)
  have v2 : IntKind.wrap .i64 u.f = u.f := w64 (by omega)
  have v3 : IntKind.wrap .i64 u.st = u.st := w64 (by omega)
  have e22b := fun (R : Type) H K => s22 (R := R) (n := u.b) (by omega) H K
  have e22f := fun (R : Type) H K => s22 (R := R) (n := u.f) (by omega) H K
  have e22s := fun (R : Type) H K => s22 (R := R) (n := u.st) (by omega) H K
  have e5 : str5 = bsU [98, 97, 99, 107, 32] := rfl
  have e6 : str6 = bsU [32, 102, 111, 114, 101, 32] := rfl
  have e7 : str7 = bsU [32, 115, 116, 97, 116, 101, 32] := rfl
  have e8 : str8 = bsU [32, 108, 111, 97, 100, 32] := rfl
  have e10 : str10 = bsU [32, 102, 105, 108, 108] := rfl
  have hhd := Un.head_len hu
  simp only [b0, b1, b2, b3, b4, Option.bind_some, v1, v2, e22b, e22f, e5, e6, s23, same_i, same_b, if_true]
  rw [catU (by simp; omega), catU (by simp [ls]; omega), catU (by simp [ls]; omega), catU (by simp [ls]; omega), catU (by simp [ls]; omega)]
  rw [show [98, 97, 99, 107, 32] ++ decI u.b ++ sg u.bb ++ [32, 102, 111, 114, 101, 32] ++ decI u.f ++ sg u.fb = u.head by simp [Un.head]]
  -- the end
  have hl : u.ld.length ≤ 1000 := by
    by_cases h : u.k = 2
    · have := c6 h; omega
    · have := c7 h; omega
  obtain ⟨P2, e12, _, _⟩ := s12 wP hu bsP hl
  have fin : g7_p17 g21 g22 g23 g12 g8 Bool i 0 (bsU u.text) P (fun r _ => some r) = some true := by
    unfold g7_p17
    simp only [Nat.zero_add, b0, b1, b2, b3, b4, b5, b6, Option.bind_some, e12, strEqU, decide_true, sel_true, s8]
  simp only [g7_p18, g7_p16, g7_p15, g7_p1, g7_p14]
  by_cases q0 : u.k = 0
  · rw [show (u.k == 0) = true by simpa using q0, sel_true]
    unfold g7_p2
    rw [e10, catU (by simp; omega), show u.head ++ [32, 102, 105, 108, 108] = u.text by simp [Un.text, hk, Un.tail, q0]]
    exact fin
  rw [show (u.k == 0) = false by simpa using q0, sel_false]
  simp only [g7_p13, g7_p3, g7_p12]
  by_cases q1 : u.k = 1
  · rw [show (u.k == 1) = true by simpa using q1, sel_true]
    unfold g7_p4
    simp only [Nat.zero_add]
    rw [e7, catU (by simp; omega), b5, Option.bind_some, v3, e22s, catU (by simp; omega), show u.head ++ [32, 115, 116, 97, 116, 101, 32] ++ decI u.st = u.text by simp [Un.text, hk, Un.tail, q1]]
    exact fin
  rw [show (u.k == 1) = false by simpa using q1, sel_false]
  have q2 : u.k = 2 := by omega
  have hne : u.ld ≠ [] := by
    intro e
    have := c6 q2
    rw [e] at this; simp at this
  have hh := hex_length u.ld
  simp only [g7_p11, g7_p5, g7_p10, g7_p8]
  rw [loop7 gP hu bsP hne hl]
  unfold g7_p9
  rw [e8, catU (by simp; omega), catU (by simp [u8s_length]; omega), show u.head ++ [32, 108, 111, 97, 100, 32] ++ u8s (hex u.ld) = u.text by simp [Un.text, hk, Un.tail, q2]]
  exact fin
end Go.Proofs.YteipplgcdbaokaaDoor

