/- Units: Encode, octets, Bytes. -/
import Derived.Test.YteipplgcdbaokaaDoorUS3
import Derived.Test.YteipplgcdbaokaaDoorAmC
namespace Go.Proofs.YteipplgcdbaokaaDoor
open Go AM Go.RowKit
set_option linter.unusedVariables false
set_option linter.unusedSimpArgs false

def hi7 (n : Int) (b : Bool) : Int := if b then n + 128 else n
/-- the octets of a unit -/
def Un.enc (u : Un) : List Int := [hi7 u.b u.bb, hi7 u.f u.fb, min (u.rest.length : Int) 63] ++ u.rest
theorem Un.rest_byt {u : Un} (h : u.Ok) : Byt u.rest := by
  unfold Un.rest
  split
  · intro n hn; simp at hn; subst hn; exact h.st
  · exact h.ld
theorem Un.ck_b {u : Un} (h : u.ck = 0) : u.b ≤ 127 ∧ u.f ≤ 127 ∧ u.k ≤ 2 ∧ u.st ≤ 5 ∧ (u.k ≠ 1 → u.st = 0) ∧ (u.k = 2 → 2 ≤ u.ld.length ∧ u.ld.length ≤ 273) ∧ (u.k ≠ 2 → u.ld.length = 0) := by
  unfold Un.ck at h
  grind
theorem Un.rest_len {u : Un} : u.rest.length ≤ u.ld.length + 1 := by
  unfold Un.rest; split <;> simp
section
variable {H : Heap} {s : Sl} {u : Un}
theorem s10 (hw : H.Wf) (hu : u.Ok) (h : BS H s u.ld) (hc : CapOk s) (hl : u.ld.length ≤ 1000) :
    ∃ s' H', (∀ (R : Type) (K : Sl → Int → Heap → Option R), g10 R u.b u.bb u.f u.fb u.k u.st s H K = K s' u.ck H') ∧ BS H' s' (if u.ck = 0 then u.enc else []) ∧ s'.cap = .ex s'.len ∧ Ext H H' ∧ H'.Wf := by
  have hn : s.len = u.ld.length := h.len
  have g := Heap.gnew H (.cells (u.cells s) 25 false)
  have hw1 := hw.new (.cells (u.cells s) 25 false)
  have x1 := Ext.new H (.cells (u.cells s) 25 false)
  have hd : ∀ (R : Type) (K : Sl → Int → Heap → Option R), g10 R u.b u.bb u.f u.fb u.k u.st s H K = g10_p0 g11 g25 g26 g24 g28 g27 R u.b u.bb u.f u.fb u.k u.st s H K := fun _ _ => rfl
  have ld : ∀ G : Heap, G.get H.next = some (.cells (u.cells s) 25 false) → G.ldI .u8 H.next 0 = some u.b ∧ G.ldB H.next 1 = some u.bb ∧ G.ldI .u8 H.next 2 = some u.f ∧ G.ldB H.next 3 = some u.fb ∧ G.ldI .u8 H.next 4 = some u.k ∧ G.ldI .u8 H.next 5 = some u.st ∧ G.ldSl H.next 6 = some s := fun G hG =>
    ⟨ldI_of hG rfl, ldB_of hG rfl, ldI_of hG rfl, ldB_of hG rfl, ldI_of hG rfl, ldI_of hG rfl, ldSl_of hG rfl⟩
  obtain ⟨a0, a1, a2, a3, a4, a5, a6⟩ := ld _ g
  have e11 := fun (R : Type) (H : Heap) K => @s11 R H s u hn K
  have x2 := Ext.new (H.new (.cells (u.cells s) 25 false)) (.cells (u.cells s) 25 false)
  have hw2 := hw1.new (.cells (u.cells s) 25 false)
  have g2 := x2.get hw1 g
  obtain ⟨b0, b1, b2, b3, b4, b5, b6⟩ := ld _ g2
  have hs2 := h.ext hw (x1.trans x2)
  have start : ∀ (R : Type) (K : Sl → Int → Heap → Option R), g10_p0 g11 g25 g26 g24 g28 g27 R u.b u.bb u.f u.fb u.k u.st s H K = sel (u.ck != 0) (K ⟨none, 0, .ex 0⟩ u.ck ((H.new (.cells (u.cells s) 25 false)).new (.cells (u.cells s) 25 false)))
      (g25 R u.b u.bb u.f u.fb u.k u.st s ((H.new (.cells (u.cells s) 25 false)).new (.cells (u.cells s) 25 false)) fun x19 h20 => g26 R ((x19.len : Nat) : Int) 63 h20 fun x21 h22 => (h22.ldI .u8 H.next 0).bind fun x23 => (h22.ldB H.next 1).bind fun x24 => g24 R x23 x24 h22 fun x25 h26 =>
        (h26.ldI .u8 H.next 2).bind fun x27 => (h22.ldI .u8 H.next 2).bind fun x28 => if V.same (V.i .u8 x27) (V.i .u8 x28) = true then ((h26.ldB H.next 3).bind fun x29 => (h22.ldB H.next 3).bind fun x30 => if V.same (V.b x29) (V.b x30) = true then
          (g24 R x27 x29 h26 fun x31 h32 => alo h32 (.cells [(V.i .u8 x25), (V.i .u8 x31), (V.i .u8 (IntKind.wrap .u8 x21))] 5 false) fun i33 h34 => alo h34 (.cells [(V.sl (Sl.mk (some (i33, 0)) 3 (.ex 3))), (V.sl x19)] 23 false) fun i35 h36 =>
            g28 R (Sl.mk (some (i35, 0)) 2 (.ex 2)) h36 fun x37 h38 => g27 R x37 h38 fun x39 h40 => K x39 0 h40) else none) else none) := fun R K => by
    unfold g10_p0 alo
    rw [show [V.i IntKind.u8 u.b, V.b u.bb, V.i IntKind.u8 u.f, V.b u.fb, V.i IntKind.u8 u.k, V.i IntKind.u8 u.st, V.sl s] = u.cells s from rfl]
    simp only [Nat.zero_add, a0, a1, a2, a3, a4, a5, a6, Option.bind_some, e11, b0, b1, b2, b3, b4, b5, b6]
  by_cases hk : u.ck = 0
  · have hb : (u.ck != 0) = false := by rw [hk]; rfl
    obtain ⟨c1, c2, c3, c4, c5, c6, c7⟩ := Un.ck_b hk
    obtain ⟨s3, H3, e25, r3, x3, hw3, cap3⟩ := s25 hw2 hs2 hc
    have g3 := x3.get hw2 g2
    obtain ⟨d0, d1, d2, d3, d4, d5, d6⟩ := ld _ g3
    have hrl : u.rest.length ≤ 1001 := by have := Un.rest_len (u := u); omega
    have n3 : s3.len = u.rest.length := r3.len
    have w8 : IntKind.wrap .u8 (min ((u.rest.length : Nat) : Int) 63) = min ((u.rest.length : Nat) : Int) 63 := w8u (by omega)
    have e24 := fun (R : Type) (H : Heap) K => @s24 R H u.b (by have := hu.b; omega) u.bb K
    have e24' := fun (R : Type) (H : Heap) K => @s24 R H u.f (by have := hu.f; omega) u.fb K
    have x4 := Ext.new H3 (.cells (bcs [hi7 u.b u.bb, hi7 u.f u.fb, min ((u.rest.length : Nat) : Int) 63]) 5 false)
    have hw4 := hw3.new (.cells (bcs [hi7 u.b u.bb, hi7 u.f u.fb, min ((u.rest.length : Nat) : Int) 63]) 5 false)
    have g4 := Heap.gnew H3 (.cells (bcs [hi7 u.b u.bb, hi7 u.f u.fb, min ((u.rest.length : Nat) : Int) 63]) 5 false)
    have r4 := r3.ext hw3 x4
    generalize hG4 : H3.new (.cells (bcs [hi7 u.b u.bb, hi7 u.f u.fb, min ((u.rest.length : Nat) : Int) 63]) 5 false) = G4 at *
    have x5 := Ext.new G4 (.cells [.sl ⟨some (H3.next, 0), 3, .ex 3⟩, .sl s3] 23 false)
    have hw5 := hw4.new (.cells [.sl ⟨some (H3.next, 0), 3, .ex 3⟩, .sl s3] 23 false)
    have g5 := Heap.gnew G4 (.cells [.sl ⟨some (H3.next, 0), 3, .ex 3⟩, .sl s3] 23 false)
    have r5 := r4.ext hw4 x5
    have hd3 : BS (G4.new (.cells [.sl ⟨some (H3.next, 0), 3, .ex 3⟩, .sl s3] 23 false)) ⟨some (H3.next, 0), 3, .ex 3⟩ [hi7 u.b u.bb, hi7 u.f u.fb, min ((u.rest.length : Nat) : Int) 63] :=
      BS.obj (c := .ex 3) (x5.get hw4 g4)
    obtain ⟨s6, H6, e28, c6', ne6⟩ := s28 hw5 g5 hd3 r5 (by simp) (by simp; omega)
    have e27 := fun (R : Type) K => clip_ok (R := R) c6'.cap H6 K
    refine ⟨⟨s6.a, s6.len, .ex s6.len⟩, H6, fun R K => ?_, ?_, rfl, x1.trans (x2.trans (x3.trans (x4.trans (x5.trans c6'.ext)))), c6'.wf⟩
    · rw [hd, start, hb, hk]
      simp only [sel_false, e25, n3, s26, d0, d1, d2, d3, Option.bind_some, e24, same_i, same_b, if_true, e24', w8, alo]
      rw [show H3.new (.cells [V.i .u8 (if u.bb = true then u.b + 128 else u.b), V.i .u8 (if u.fb = true then u.f + 128 else u.f), V.i .u8 (min ((u.rest.length : Nat) : Int) 63)] 5 false) = G4 from hG4]
      simp only [e28, e27]
    · rw [if_pos hk]; exact c6'.bs.clipped
  · have hb : (u.ck != 0) = true := by simpa using hk
    refine ⟨⟨none, 0, .ex 0⟩, _, fun R K => by rw [hd, start, hb, sel_true], by rw [if_neg hk]; exact .nil _, rfl, x1.trans x2, hw2⟩
/-- Bytes: 0 where the two are the same and the first has no room beyond -/
theorem s13 {R : Type} {s t : Sl} {l m : List Int} (hc : s.cap = .ex s.len) (h1 : BS H s l) (h2 : BS H t m) (hl : l.length ≤ 1000000) (K : Int → Heap → Option R) : g13 R s t H K = K (if l = m then 0 else 1) H := by
  have c1 : decide (((s.len : Nat) : Int) > ((s.len : Nat) : Int)) = false := by simp
  simp only [g13, g13_r, g13_p0, hc, capK_ex, c1, sel_false, refSame_ok h1 h2 (by omega)]
  by_cases h : l = m <;> simp [h]
/-- octets of a valid unit -/
theorem s14 (hw : H.Wf) (hu : u.Ok) (hk : u.ck = 0) (h : BS H s u.ld) : ∃ s' H', (∀ (R : Type) (K : Sl → Heap → Option R), g14 R u.b u.bb u.f u.fb u.k u.st s H K = K s' H') ∧ BS H' s' u.enc ∧ Ext H H' ∧ H'.Wf := by
  obtain ⟨c1, c2, c3, c4, c5, c6, c7⟩ := Un.ck_b hk
  have hn : s.len = u.ld.length := h.len
  have g := Heap.gnew H (.cells (u.cells s) 25 false)
  have hw1 := hw.new (.cells (u.cells s) 25 false)
  have x1 := Ext.new H (.cells (u.cells s) 25 false)
  have ld : ∀ G : Heap, G.get H.next = some (.cells (u.cells s) 25 false) → G.ldI .u8 H.next 0 = some u.b ∧ G.ldB H.next 1 = some u.bb ∧ G.ldI .u8 H.next 2 = some u.f ∧ G.ldB H.next 3 = some u.fb ∧ G.ldI .u8 H.next 4 = some u.k ∧ G.ldI .u8 H.next 5 = some u.st ∧ G.ldSl H.next 6 = some s := fun G hG =>
    ⟨ldI_of hG rfl, ldB_of hG rfl, ldI_of hG rfl, ldB_of hG rfl, ldI_of hG rfl, ldI_of hG rfl, ldSl_of hG rfl⟩
  obtain ⟨a0, a1, a2, a3, a4, a5, a6⟩ := ld _ g
  have hub := hu.b; have huf := hu.f
  -- the head
  have o0 := OS.make (H0 := H.new (.cells (u.cells s) 25 false)) (e := 5) (vs := [u.b, u.f, 0]) hw1 (.refl _ _) (c := .ex 3) (.inl rfl)
  have keep0 := (Ext.new (H.new (.cells (u.cells s) 25 false)) (.cells (bcs [u.b, u.f, 0]) 5 false)).get hw1 g
  have wb : IntKind.wrap .u8 (u.b + 128) = u.b + 128 := w8u (by omega)
  have wf' : IntKind.wrap .u8 (u.f + 128) = u.f + 128 := w8u (by omega)
  have head : ∃ H2, (∀ (R : Type) (K : Nat → Nat → Sl → Heap → Option R), g14_p0 R u.b u.bb u.f u.fb u.k u.st s H K = K H.next 0 ⟨some ((H.new (.cells (u.cells s) 25 false)).next, 0), 3, .ex 3⟩ H2) ∧
      OS (H.new (.cells (u.cells s) 25 false)) H2 5 ⟨some ((H.new (.cells (u.cells s) 25 false)).next, 0), 3, .ex 3⟩ [hi7 u.b u.bb, hi7 u.f u.fb, 0] (H.new (.cells (u.cells s) 25 false)).next := by
    have b0 : 0 ≤ (0 : Int) ∧ (0 : Int) < ((3 : Nat) : Int) := by omega
    have b1 : 0 ≤ (1 : Int) ∧ (1 : Int) < ((3 : Nat) : Int) := by omega
    have unf : ∀ (R : Type) (K : Nat → Nat → Sl → Heap → Option R), g14_p0 R u.b u.bb u.f u.fb u.k u.st s H K = g14_p0 R u.b u.bb u.f u.fb u.k u.st s H K := fun _ _ => rfl
    generalize hG1 : H.new (.cells (u.cells s) 25 false) = G1 at *
    have l0 := ld _ keep0
    generalize hG2 : G1.new (.cells (bcs [u.b, u.f, 0]) 5 false) = G2 at *
    have r0 : G2.ldI .u8 G1.next (0 + (0 : Int).toNat * 1) = some u.b := ldI_of o0.obj rfl
    have r1 : G2.ldI .u8 G1.next (0 + (1 : Int).toNat * 1) = some u.f := ldI_of o0.obj rfl
    have step : ∀ (R : Type) (K : Nat → Nat → Sl → Heap → Option R), g14_p0 R u.b u.bb u.f u.fb u.k u.st s H K = sel u.bb
        ((G2.st G1.next (0 + (0 : Int).toNat * 1) (.i .u8 (u.b + 128))).bind fun h161 => (h161.ldB H.next 3).bind fun x162 => sel x162 ((h161.ldI .u8 G1.next (0 + (1 : Int).toNat * 1)).bind fun x164 => (h161.st G1.next (0 + (1 : Int).toNat * 1) (.i .u8 (IntKind.wrap .u8 (x164 + 128)))).bind fun h167 => K H.next 0 ⟨some (G1.next, 0), 3, .ex 3⟩ h167) (K H.next 0 ⟨some (G1.next, 0), 3, .ex 3⟩ h161))
        (sel u.fb ((G2.st G1.next (0 + (1 : Int).toNat * 1) (.i .u8 (u.f + 128))).bind fun h173 => K H.next 0 ⟨some (G1.next, 0), 3, .ex 3⟩ h173) (K H.next 0 ⟨some (G1.next, 0), 3, .ex 3⟩ G2)) := fun R K => by
      unfold g14_p0 alo
      rw [show H.new (.cells [V.i IntKind.u8 u.b, V.b u.bb, V.i IntKind.u8 u.f, V.b u.fb, V.i IntKind.u8 u.k, V.i IntKind.u8 u.st, V.sl s] 25 false) = G1 from hG1]
      simp only [Nat.zero_add, a0, a2, Option.bind_some]
      rw [show G1.new (.cells [V.i .u8 u.b, V.i .u8 u.f, V.i .u8 0] 5 false) = G2 from hG2]
      simp only [Nat.zero_add] at r0 r1
      simp only [l0.2.1, l0.2.2.2.1, Option.bind_some, b0, b1, if_true, r0, r1, wb, wf', and_self]
    obtain ⟨G3, t1, o1, n1, k1⟩ := o0.set (k := 0) (by simp) (u.b + 128)
    have keep3 : G3.get H.next = some (.cells (u.cells s) 25 false) := by rw [k1 _ (by have := hw1 _ _ g; omega)]; exact keep0
    have l3 := ld _ keep3
    obtain ⟨G4, t2, o2, n2, k2⟩ := o1.set (k := 1) (by simp) (u.f + 128)
    obtain ⟨G5, t3, o3, n3, k3⟩ := o0.set (k := 1) (by simp) (u.f + 128)
    have r3 : G3.ldI .u8 G1.next (0 + (1 : Int).toNat * 1) = some u.f := ldI_of o1.obj rfl
    have t1' : G2.st G1.next (0 + (0 : Int).toNat * 1) (.i .u8 (u.b + 128)) = some G3 := t1
    have t2' : G3.st G1.next (0 + (1 : Int).toNat * 1) (.i .u8 (u.f + 128)) = some G4 := t2
    have t3' : G2.st G1.next (0 + (1 : Int).toNat * 1) (.i .u8 (u.f + 128)) = some G5 := t3
    have hbt : ∀ b : Bool, b = false ∨ b = true := by decide
    rcases hbt u.bb with hbb | hbb <;> rcases hbt u.fb with hfb | hfb
    · exact ⟨G2, fun R K => by rw [step, hbb, hfb]; rfl, by simpa [hi7, hbb, hfb] using o0⟩
    · exact ⟨G5, fun R K => by rw [step, hbb, hfb]; simp only [sel_true, sel_false, t3', Option.bind_some], by simpa [hi7, hbb, hfb] using o3⟩
    · exact ⟨G3, fun R K => by rw [step, hbb]; simp only [sel_true, t1', Option.bind_some, l3.2.2.2.1, hfb, sel_false], by simpa [hi7, hbb, hfb] using o1⟩
    · exact ⟨G4, fun R K => by rw [step, hbb]; simp only [sel_true, t1', Option.bind_some, l3.2.2.2.1, hfb, r3, wf', t2'], by simpa [hi7, hbb, hfb] using o2⟩
  obtain ⟨H2, e0, o2⟩ := head
  have hlt := hw1 _ _ g
  have k2 : H2.get H.next = some (.cells (u.cells s) 25 false) := o2.ext.get hw1 g
  obtain ⟨d0, d1, d2, d3, d4, d5, d6⟩ := ld _ k2
  -- what is written at the end
  have fin : ∀ {G : Heap} {s' : Sl} {q : Nat} {l : List Int}, OS (H.new (.cells (u.cells s) 25 false)) G 5 s' l q → l.length ≤ 1000 → 3 ≤ l.length → ∃ G', (∀ (R : Type) (K : Sl → Heap → Option R),
      (if 0 ≤ (2 : Int) ∧ (2 : Int) < ((s'.len : Nat) : Int) then ((s'.a).bind fun q => (G.st q.1 (q.2 + Int.toNat (2 : Int) * 1) (V.i .u8 (IntKind.wrap .u8 (if (IntKind.wrap .i64 (((s'.len : Nat) : Int) - (3 : Int))) < (63 : Int) then (IntKind.wrap .i64 (((s'.len : Nat) : Int) - (3 : Int))) else (63 : Int))))).bind fun h => K s' h) else none) = K s' G') ∧
      BS G' s' (l.set 2 (min ((l.length : Int) - 3) 63)) ∧ Ext H G' ∧ G'.Wf := by
    intro G s' q l o hl h3
    have hlen : s'.len = l.length := o.len
    obtain ⟨G', t1, o1, _⟩ := o.set (k := 2) (by omega) (min ((l.length : Int) - 3) 63)
    refine ⟨G', fun R K => ?_, o1.bs, x1.trans o1.ext, o1.wf⟩
    have hv : IntKind.wrap .u8 (if (IntKind.wrap .i64 (((s'.len : Nat) : Int) - (3 : Int))) < (63 : Int) then (IntKind.wrap .i64 (((s'.len : Nat) : Int) - (3 : Int))) else (63 : Int)) = min ((l.length : Int) - 3) 63 := by
      rw [w64 (by omega), hlen]
      split
      · rw [w8u (by omega), Int.min_eq_left (by omega)]
      · rw [w8u (by omega), Int.min_eq_right (by omega)]
    rw [if_pos (by omega), hv, o.a]
    simp only [Option.bind_some]
    rw [show G.st q (0 + Int.toNat 2 * 1) (V.i .u8 (min ((l.length : Int) - 3) 63)) = some G' from t1]
    rfl
  by_cases h1 : u.k = 1
  · have hld : u.ld = [] := List.length_eq_zero_iff.1 (c7 (by omega))
    have hst : u.rest = [u.st] := by simp [Un.rest, h1]
    have x3 := Ext.new H2 (.cells (bcs [u.st]) 5 false)
    have hw3 := o2.wf.new (.cells (bcs [u.st]) 5 false)
    have o3 := o2.frame x3 hw3
    have b3 : BS (H2.new (.cells (bcs [u.st]) 5 false)) ⟨some (H2.next, 0), 1, .ex 1⟩ [u.st] := BS.obj (c := .ex 1) (Heap.gnew _ _)
    have k3 := x3.get o2.wf k2
    have hn2 := o2.new
    obtain ⟨s4, H4, q4, e4, o4, n4, m4, f4⟩ := o3.append [u.st] (by simp)
    have k4 : H4.get H.next = some (.cells (u.cells s) 25 false) := by rw [f4 _ (by have := o2.wf _ _ k2; simp; omega) (by omega)]; exact k3
    obtain ⟨G', e5, b5, x5, w5⟩ := fin o4 (by simp) (by simp)
    refine ⟨s4, G', fun R K => ?_, ?_, x5, w5⟩
    · show g14_p2 R u.b u.bb u.f u.fb u.k u.st s H _ = _
      unfold g14_p2
      rw [e0]
      have hs0 : slCells H4 1 s = some [] := by
        unfold slCells; rw [if_pos (by rw [hn, hld]; rfl)]
      have hsl0 : s.len = 0 := by rw [hn, hld]; rfl
      have hk1 : (u.k == 1) = true := by simp [h1]
      simp only [g14_p1, Nat.zero_add, d4, d5, Option.bind_some, hk1, sel_true, alo]
      rw [show H2.new (.cells [V.i .u8 u.st] 5 false) = H2.new (.cells (bcs [u.st]) 5 false) from rfl, b3.is]
      have e4' := e4 R
      simp only [List.length_cons, List.length_nil, Nat.zero_add] at e4'
      simp only [Option.bind_some, e4', (ld _ k4).2.2.2.2.2.2, hs0, hsl0, appendV_zero]
      exact e5 R K
    · rw [show u.enc = ([hi7 u.b u.bb, hi7 u.f u.fb, 0] ++ [u.st]).set 2 (min ((([hi7 u.b u.bb, hi7 u.f u.fb, 0] ++ [u.st]).length : Int) - 3) 63) by simp [Un.enc, hst]]
      exact b5
  · have hst : u.rest = u.ld := by simp [Un.rest, h1]
    have hl : u.ld.length ≤ 273 := by
      by_cases h2 : u.k = 2
      · exact (c6 h2).2
      · rw [c7 h2]; omega
    obtain ⟨s4, H4, q4, e4, o4, n4, m4, f4⟩ := o2.append u.ld (by simp; omega)
    obtain ⟨G', e5, b5, x5, w5⟩ := fin o4 (by simp; omega) (by simp)
    refine ⟨s4, G', fun R K => ?_, ?_, x5, w5⟩
    · show g14_p2 R u.b u.bb u.f u.fb u.k u.st s H _ = _
      unfold g14_p2
      rw [e0]
      have hs2 := h.ext hw (x1.trans o2.ext)
      have hk1 : (u.k == 1) = false := by simp [h1]
      simp only [g14_p1, Nat.zero_add, d4, d6, Option.bind_some, hk1, sel_false, hs2.is, hn, e4]
      exact e5 R K
    · rw [show u.enc = ([hi7 u.b u.bb, hi7 u.f u.fb, 0] ++ u.ld).set 2 (min ((([hi7 u.b u.bb, hi7 u.f u.fb, 0] ++ u.ld).length : Int) - 3) 63) by
        simp only [Un.enc, hst, List.cons_append, List.nil_append, List.set_cons_succ, List.set_cons_zero, List.length_cons]
        congr 3
        congr 1
        omega]
      exact b5
end
end Go.Proofs.YteipplgcdbaokaaDoor

