/- Units: the text. -/
import Derived.Test.YteipplgcdbaokaaDoorUS4
import Derived.Test.YteipplgcdbaokaaDoorLBld
namespace Go.Proofs.YteipplgcdbaokaaDoor
open Go AM Go.RowKit
set_option linter.unusedVariables false
set_option linter.unusedSimpArgs false

def hexd (n : Int) : Int := if n < 10 then 48 + n else 87 + n
def hex : List Int → List Int
  | [] => []
  | x :: l => hexd (x / 16) :: hexd (x % 16) :: hex l
theorem hex_append (a b : List Int) : hex (a ++ b) = hex a ++ hex b := by
  induction a with
  | nil => rfl
  | cons x a ih => simp [hex, ih]
theorem hex_length (a : List Int) : (hex a).length = 2 * a.length := by
  induction a with
  | nil => rfl
  | cons x a ih => simp [hex, ih]; omega
theorem digs : ∀ x : Fin 256, 0 ≤ shrI .u8 (x.val : Int) 4 ∧ shrI .u8 (x.val : Int) 4 < 16 ∧ btAt str9 (shrI .u8 (x.val : Int) 4) = hexd ((x.val : Int) / 16) ∧ 0 ≤ bvAnd .u8 (x.val : Int) 15 ∧ bvAnd .u8 (x.val : Int) 15 < 16 ∧ btAt str9 (bvAnd .u8 (x.val : Int) 15) = hexd ((x.val : Int) % 16) := by decide +kernel
theorem digs' {x : Int} (h : 0 ≤ x ∧ x ≤ 255) : 0 ≤ shrI .u8 x 4 ∧ shrI .u8 x 4 < 16 ∧ btAt str9 (shrI .u8 x 4) = hexd (x / 16) ∧ 0 ≤ bvAnd .u8 x 15 ∧ bvAnd .u8 x 15 < 16 ∧ btAt str9 (bvAnd .u8 x 15) = hexd (x % 16) := by
  have := digs ⟨x.toNat, by omega⟩
  simp only at this
  rwa [show ((x.toNat : Nat) : Int) = x by omega] at this
theorem s30 {H : Heap} (hw : H.Wf) {s : Sl} {l : List Int} (h : BS H s l) (hb : Byt l) (h0 : l ≠ []) (hl : l.length ≤ 1000) : ∃ H', (∀ (R : Type) (K : ByteArray → Heap → Option R), g30 R s H K = K (bsU (u8s (hex l))) H') ∧ Ext H H' ∧ H'.Wf := by
  have hs : s.len = l.length := h.len
  have k0 := BOk.make hw (.refl _ H)
  have hz : ((str9.size : Nat) : Int) = 16 := by decide +kernel
  obtain ⟨r, H', e, rfl, k1⟩ := tlim_inv (b := g30_p2_b g37 g38) (fun st G => ∃ k : Nat, st = (H.next, 0, s, ((s.len : Nat) : Int), (k : Int)) ∧ k ≤ l.length ∧ BOk H G H.next (hex (l.take k))) (fun st => l.length - st.2.2.2.2.toNat)
    (fun r G => r = (H.next, 0) ∧ BOk H G H.next (hex l)) (by
      rintro st G ⟨k, rfl, hk, hB⟩
      by_cases hkl : k < l.length
      · left
        obtain ⟨q, a1, r1⟩ := (h.ext hw hB.ext).at h0
        have hx := hb.getD k
        obtain ⟨d1, d2, d3, d4, d5, d6⟩ := digs' hx
        have hlen := hex_length (l.take k)
        rw [List.length_take, Nat.min_eq_left hk] at hlen
        obtain ⟨G1, e1, k1⟩ := writeByte_ok hB (hexd (l.getD k 0 / 16)) (by omega)
        obtain ⟨G2, e2, k2⟩ := writeByte_ok k1 (hexd (l.getD k 0 % 16)) (by simp; omega)
        have c1 : decide ((k : Int) < ((s.len : Nat) : Int)) = true := by simp; omega
        have c2 : 0 ≤ (k : Int) ∧ (k : Int) < ((s.len : Nat) : Int) := by omega
        have w1 : IntKind.wrap .i64 ((k : Int) + 1) = ((k + 1 : Nat) : Int) := by rw [w64 (by omega)]; rfl
        refine ⟨_, G2, ?_, ⟨k + 1, rfl, by omega, ?_⟩, by dsimp only; omega⟩
        · have c3 : 0 ≤ shrI .u8 (l.getD k 0) 4 ∧ shrI .u8 (l.getD k 0) 4 < ((str9.size : Nat) : Int) := by rw [hz]; exact ⟨d1, d2⟩
          have c4 : 0 ≤ bvAnd .u8 (l.getD k 0) 15 ∧ bvAnd .u8 (l.getD k 0) 15 < ((str9.size : Nat) : Int) := by rw [hz]; exact ⟨d4, d5⟩
          simp only [g30_p2_b, g30_p1, c1, sel_true]
          rw [if_pos c2]
          simp only [a1, Option.bind_some, Int.toNat_natCast, r1 k hkl]
          have v1 : V.one .nilI = true := rfl
          rw [if_pos c3, d3, e1, if_pos v1, if_pos c4, d6, e2, if_pos v1, w1]
        · rw [List.take_add_one, List.getElem?_eq_getElem hkl, hex_append]
          simp only [Option.toList_some, hex]
          have : l.getD k 0 = l[k] := by simp [List.getD_eq_getElem?_getD, List.getElem?_eq_getElem hkl]
          rw [← this]
          simpa using k2
      · right
        have c1 : decide ((k : Int) < ((s.len : Nat) : Int)) = false := by simp; omega
        refine ⟨(H.next, 0), G, by simp only [g30_p2_b, g30_p1, c1, sel_false], rfl, ?_⟩
        rwa [List.take_of_length_le (by omega)] at hB) (H.next, 0, s, ((s.len : Nat) : Int), 0) _ ⟨0, rfl, by omega, by simpa [hex] using k0⟩
  have hh0 : hex l ≠ [] := by
    intro e
    have h1 := congrArg List.length e
    rw [hex_length] at h1
    have := List.length_pos_iff.2 h0
    rw [List.length_nil] at h1
    omega
  obtain ⟨H2, e2, x2, w2⟩ := bString_ok k1 hh0 (by rw [hex_length]; omega)
  refine ⟨H2, fun R K => ?_, x2, w2⟩
  simp only [g30, g30_r, g30_p6, g30_p0, alo, g30_p5, g30_p3, g30_p2, e, Option.bind_some, g30_p4, e2]
/-- a number's text -/
theorem s22 {R : Type} {n : Int} (h : 0 ≤ n ∧ n ≤ 1000000) (H : Heap) (K : ByteArray → Heap → Option R) : g22 R n H K = K (bsU (decI n)) H := by
  simp only [g22]
  rw [if_pos ⟨by omega, by omega⟩]
  rfl
def sg (b : Bool) : List UInt8 := if b then [43] else [45]
theorem decI_len : ∀ n : Fin 256, (decI ((n.val : Nat) : Int)).length ≤ 3 := by decide +kernel
theorem decI_len' {n : Int} (h : 0 ≤ n ∧ n ≤ 255) : (decI n).length ≤ 3 := by
  have := decI_len ⟨n.toNat, by omega⟩
  simp only at this
  rwa [show ((n.toNat : Nat) : Int) = n by omega] at this
theorem s29 {R : Type} {n : Int} (h : 0 ≤ n ∧ n ≤ 255) (b : Bool) (H : Heap) (K : ByteArray → Heap → Option R) : g29 R n b H K = K (bsU (decI n ++ sg b)) H := by
  have hl := decI_len' h
  have w : IntKind.wrap .i64 n = n := w64 (by omega)
  have h3 : str3 = bsU [43] := rfl
  have h4 : str4 = bsU [45] := rfl
  cases b
  · simp only [g29, g29_r, g29_p0, sel_false, w, s22 (show 0 ≤ n ∧ n ≤ 1000000 by omega), h4]
    rw [catU (by simp; omega)]; rfl
  · simp only [g29, g29_r, g29_p0, sel_true, w, s22 (show 0 ≤ n ∧ n ≤ 1000000 by omega), h3]
    rw [catU (by simp; omega)]; rfl
/-- the text of a unit -/
def Un.head (u : Un) : List UInt8 := [98, 97, 99, 107, 32] ++ (decI u.b ++ sg u.bb) ++ [32, 102, 111, 114, 101, 32] ++ (decI u.f ++ sg u.fb)
def Un.tail (u : Un) : List UInt8 := if u.k = 1 then [32, 115, 116, 97, 116, 101, 32] ++ decI u.st else if u.k = 2 then [32, 108, 111, 97, 100, 32] ++ u8s (hex u.ld) else [32, 102, 105, 108, 108]
def Un.text (u : Un) : List UInt8 := if u.ck = 0 then u.head ++ u.tail else []
theorem Un.head_len {u : Un} (hu : u.Ok) : u.head.length ≤ 30 := by
  have := decI_len' hu.b; have := decI_len' hu.f
  have : ∀ b, (sg b).length = 1 := by intro b; cases b <;> rfl
  simp [Un.head, this]; omega
theorem s12 {H : Heap} {s : Sl} {u : Un} (hw : H.Wf) (hu : u.Ok) (h : BS H s u.ld) (hl : u.ld.length ≤ 1000) : ∃ H', (∀ (R : Type) (K : ByteArray → Heap → Option R), g12 R u.b u.bb u.f u.fb u.k u.st s H K = K (bsU u.text) H') ∧ Ext H H' ∧ H'.Wf := by
  have hn : s.len = u.ld.length := h.len
  have g := Heap.gnew H (.cells (u.cells s) 25 false)
  have hw1 := hw.new (.cells (u.cells s) 25 false)
  have x1 := Ext.new H (.cells (u.cells s) 25 false)
  have ld : ∀ G : Heap, G.get H.next = some (.cells (u.cells s) 25 false) → G.ldI .u8 H.next 0 = some u.b ∧ G.ldB H.next 1 = some u.bb ∧ G.ldI .u8 H.next 2 = some u.f ∧ G.ldB H.next 3 = some u.fb ∧ G.ldI .u8 H.next 4 = some u.k ∧ G.ldI .u8 H.next 5 = some u.st ∧ G.ldSl H.next 6 = some s := fun G hG =>
    ⟨ldI_of hG rfl, ldB_of hG rfl, ldI_of hG rfl, ldB_of hG rfl, ldI_of hG rfl, ldI_of hG rfl, ldSl_of hG rfl⟩
  obtain ⟨a0, a1, a2, a3, a4, a5, a6⟩ := ld _ g
  have e11 := fun (R : Type) (H : Heap) K => @s11 R H s u hn K
  have x2 := Ext.new (H.new (.cells (u.cells s) 25 false)) (.cells (u.cells s) 25 false)
  have hw2 := hw1.new (.cells (u.cells s) 25 false)
  have g2 := x2.get hw1 g
  obtain ⟨b0, b1, b2, b3, b4, b5, b6⟩ := ld _ g2
  have hs2 := h.ext hw (x1.trans x2)
  have e5 : str5 = bsU [98, 97, 99, 107, 32] := rfl
  have e6 : str6 = bsU [32, 102, 111, 114, 101, 32] := rfl
  have e7 : str7 = bsU [32, 115, 116, 97, 116, 101, 32] := rfl
  have e8 : str8 = bsU [32, 108, 111, 97, 100, 32] := rfl
  have e10 : str10 = bsU [32, 102, 105, 108, 108] := rfl
  have hb := hu.b; have hf := hu.f; have hst := hu.st
  have l1 := decI_len' hb; have l2 := decI_len' hf; have l3 := decI_len' hst
  have ls : ∀ b, (sg b).length = 1 := by intro b; cases b <;> rfl
  have s29b := fun (R : Type) H K => @s29 R u.b hb u.bb H K
  have s29f := fun (R : Type) H K => @s29 R u.f hf u.fb H K
  generalize hG2 : (H.new (.cells (u.cells s) 25 false)).new (.cells (u.cells s) 25 false) = G2 at *
  have hhd := Un.head_len hu
  have start : ∀ (R : Type) (K : ByteArray → Heap → Option R), g12 R u.b u.bb u.f u.fb u.k u.st s H K = if u.ck = 0 then (if u.k = 1 then catS (bsU u.head) str7 fun z => g22 R (IntKind.wrap .i64 u.st) G2 fun x h => catS z x fun z => K z h else if u.k = 2 then catS (bsU u.head) str8 fun z => g30 R s G2 fun x h => catS z x fun z => K z h else catS (bsU u.head) str10 fun z => K z G2) else K (bsU []) G2 := fun R K => by
    show g12_p0 g11 g29 g22 g30 R u.b u.bb u.f u.fb u.k u.st s H _ = _
    unfold g12_p0 alo
    rw [show [V.i IntKind.u8 u.b, V.b u.bb, V.i IntKind.u8 u.f, V.b u.fb, V.i IntKind.u8 u.k, V.i IntKind.u8 u.st, V.sl s] = u.cells s from rfl]
    simp only [Nat.zero_add, a0, a1, a2, a3, a4, a5, a6, Option.bind_some, e11, hG2, selN]
    split
    · simp only [b0, b1, b2, b3, b4, b5, b6, Option.bind_some, s29b, s29f, e5, e6, same_i, same_b, if_true, selE]
      rw [catU (by simp [ls]; omega), catU (by simp [ls]; omega), catU (by simp [ls]; omega)]
      rfl
    · rfl
  by_cases hk : u.ck = 0
  · by_cases h1 : u.k = 1
    · refine ⟨G2, fun R K => ?_, x1.trans x2, hw2⟩
      rw [start, if_pos hk, if_pos h1, e7, catU (by simp; omega), w64 (by omega), s22 (by omega), catU (by simp; omega)]
      rw [show u.text = u.head ++ [32, 115, 116, 97, 116, 101, 32] ++ decI u.st by simp [Un.text, hk, Un.tail, h1]]
    · by_cases h2 : u.k = 2
      · have hne : u.ld ≠ [] := by
          intro e
          have := (Un.ck_b hk).2.2.2.2.2.1 h2
          rw [e] at this; simp at this
        obtain ⟨G3, e3, x3, w3⟩ := s30 hw2 hs2 hu.ld hne hl
        have hh := hex_length u.ld
        refine ⟨G3, fun R K => ?_, x1.trans (x2.trans x3), w3⟩
        rw [start, if_pos hk, if_neg h1, if_pos h2, e8, catU (by simp; omega), e3, catU (by simp [u8s]; omega)]
        rw [show u.text = u.head ++ [32, 108, 111, 97, 100, 32] ++ u8s (hex u.ld) by simp [Un.text, hk, Un.tail, h1, h2]]
      · refine ⟨G2, fun R K => ?_, x1.trans x2, hw2⟩
        rw [start, if_pos hk, if_neg h1, if_neg h2, e10, catU (by simp; omega)]
        rw [show u.text = u.head ++ [32, 102, 105, 108, 108] by simp [Un.text, hk, Un.tail, h1, h2]]
  · refine ⟨G2, fun R K => ?_, x1.trans x2, hw2⟩
    rw [start, if_neg hk, show u.text = [] by simp [Un.text, hk]]
end Go.Proofs.YteipplgcdbaokaaDoor

