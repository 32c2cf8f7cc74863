/- Functions of package slices over bytes. -/
import Derived.Test.YtgdkkpjmjnknoaaDoorGJ
import Derived.Test.YtgdkkpjmjnknoaaDoorAmC
namespace Go.Proofs.YtgdkkpjmjnknoaaDoor
open Go AM Go.RowKit
set_option linter.unusedVariables false
set_option linter.unusedSimpArgs false

theorem clip_ok {R : Type} {s : Sl} (hc : CapOk s) (H : Heap) (K : Sl → Heap → Option R) : g45 R s H K = K ⟨s.a, s.len, .ex s.len⟩ H := by
  simp only [g45, g45_r, g45_p0, slOf_clip hc]
theorem AM.BS.clipped {H : Heap} {s : Sl} {l : List Int} (h : BS H s l) : BS H ⟨s.a, s.len, .ex s.len⟩ l := ⟨h.len, h.is⟩
theorem clone_ok {H : Heap} (hw : H.Wf) {s : Sl} {l : List Int} (h : BS H s l) (hl : l.length ≤ 140737488355328) : ∃ s' H', (∀ (R : Type) (K : Sl → Heap → Option R), g46 R s H K = K s' H') ∧ CopyOf H H' 5 s' l := by
  by_cases ha : s.a = none
  · have h0 : l = [] := by
      by_cases h0 : l = []
      · exact h0
      · obtain ⟨q, vs, e, ro, h1, _⟩ := h.there h0
        rw [ha] at h1; cases h1
    subst h0
    refine ⟨⟨none, 0, .ex 0⟩, H, fun R K => ?_, ⟨.nil _, .refl _ _, hw, Nat.le_refl _, .inl rfl⟩⟩
    simp only [g46, g46_r, g46_p0, ha, Option.isNone_none, sel_true]
  · have hi : Option.isNone s.a = false := by cases hs : s.a with | none => exact absurd hs ha | some _ => rfl
    have h2 := h.ext hw (Ext.new H (.cells [] 5 false))
    have hw2 := hw.new (.cells [] 5 false)
    by_cases h0 : l = []
    · subst h0
      have hn : s.len = 0 := h.len
      refine ⟨⟨some (H.next, 0), 0, .ex 0⟩, H.new (.cells [] 5 false), fun R K => ?_, ⟨⟨rfl, by simp [slCells]⟩, Ext.new _ _, hw2, Nat.le_refl _, .inl rfl⟩⟩
      simp only [g46, g46_r, g46_p0, hi, sel_false, alo, h2.is, Option.bind_some, hn, appendV_zero]
    · have hn : s.len = l.length := h.len
      have hn0 : l.length ≠ 0 := by simpa using h0
      refine ⟨⟨some (H.next + 1, 0), l.length, .op 1⟩, (H.new (.cells [] 5 false)).new (.cells (bcs l) 5 false), fun R K => ?_, ⟨?_, (Ext.new _ _).trans (Ext.new _ _), hw2.new _, rfl, .inr ⟨H.next + 1, rfl, by omega, ?_⟩⟩⟩
      · simp only [g46, g46_r, g46_p0, hi, sel_false, alo, h2.is, Option.bind_some, hn]
        rw [appendV_fresh hn0 hl]; rfl
      · exact BS.obj (Heap.gnew (H.new (.cells [] 5 false)) _)
      · exact Heap.gnew (H.new (.cells [] 5 false)) _
theorem equal_ok {R : Type} {H : Heap} {s t : Sl} {l m : List Int} (h1 : BS H s l) (h2 : BS H t m) (hl : l.length ≤ 9223372036854775806) (K : Bool → Heap → Option R) : g34 R s t H K = K (decide (l = m)) H := by
  have hs : s.len = l.length := h1.len
  have ht : t.len = m.length := h2.len
  by_cases hne : l.length = m.length
  · have hc : (((s.len : Nat) : Int) != ((t.len : Nat) : Int)) = false := by simp; omega
    simp only [g34, g34_r, g34_p6, g34_p0, hc, sel_false, g34_p5, g34_p3, g34_p2, g34_p4]
    obtain ⟨r, H', e, rfl, hr⟩ := tlim_inv (b := g34_p2_b) (fun st G => ∃ k : Nat, st = (s, t, ((s.len : Nat) : Int), (k : Int)) ∧ k ≤ l.length ∧ l.take k = m.take k ∧ G = H) (fun st => l.length - st.2.2.2.toNat)
      (fun r G => G = H ∧ r = if l = m then .inl () else .inr false) (by
        rintro st G ⟨k, rfl, hk, htk, rfl⟩
        by_cases hkl : k < l.length
        · have hl0 : l ≠ [] := by intro e; subst e; simp at hkl
          have hm0 : m ≠ [] := by
            intro e
            have : m.length = 0 := by rw [e]; rfl
            omega
          obtain ⟨q1, a1, r1⟩ := h1.at hl0
          obtain ⟨q2, a2, r2⟩ := h2.at hm0
          have c1 : decide ((k : Int) < ((s.len : Nat) : Int)) = true := by simp; omega
          have c2 : 0 ≤ (k : Int) ∧ (k : Int) < ((s.len : Nat) : Int) := by omega
          have c3 : 0 ≤ (k : Int) ∧ (k : Int) < ((t.len : Nat) : Int) := by omega
          have w1 : IntKind.wrap .i64 ((k : Int) + 1) = ((k + 1 : Nat) : Int) := by rw [w64 (by omega)]; rfl
          by_cases hv : l.getD k 0 = m.getD k 0
          · left
            have c4 : (l.getD k 0 != m.getD k 0) = false := by rw [hv]; exact bne_self_eq_false _
            refine ⟨_, G, ?_, ⟨k + 1, rfl, by omega, ?_, rfl⟩, ?_⟩
            · simp only [g34_p2_b, g34_p1, c1, sel_true, c2, c3, if_true, a1, a2, Option.bind_some, Int.toNat_natCast, r1 k hkl, r2 k (by omega), c4, sel_false, w1]
              simp
            · rw [List.take_add_one, List.take_add_one, htk, List.getElem?_eq_getElem hkl, List.getElem?_eq_getElem (by omega : k < m.length)]
              have : l[k] = m[k]'(by omega) := by simpa [List.getD_eq_getElem?_getD, List.getElem?_eq_getElem hkl, List.getElem?_eq_getElem (by omega : k < m.length)] using hv
              rw [this]
            · dsimp only; omega
          · right
            have c4 : (l.getD k 0 != m.getD k 0) = true := by simpa using hv
            refine ⟨.inr false, G, ?_, rfl, ?_⟩
            · simp only [g34_p2_b, g34_p1, c1, sel_true, c2, c3, if_true, a1, a2, Option.bind_some, Int.toNat_natCast, r1 k hkl, r2 k (by omega), c4]
              simp
            · rw [if_neg (fun e => hv (by rw [e]))]
        · right
          have c1 : decide ((k : Int) < ((s.len : Nat) : Int)) = false := by simp; omega
          refine ⟨.inl (), G, by simp only [g34_p2_b, g34_p1, c1, sel_false], rfl, ?_⟩
          rw [List.take_of_length_le (by omega), List.take_of_length_le (by omega)] at htk
          rw [if_pos htk]) (s, t, ((s.len : Nat) : Int), 0) H ⟨0, rfl, by omega, by simp, rfl⟩
    rw [e]
    by_cases hlm : l = m
    · simp [hlm, hr]
    · simp [hlm, hr]
  · have hc : (((s.len : Nat) : Int) != ((t.len : Nat) : Int)) = true := by simp; omega
    simp only [g34, g34_r, g34_p6, g34_p0, hc, sel_true]
    rw [show decide (l = m) = false by simp; intro e; exact hne (by rw [e])]
end Go.Proofs.YtgdkkpjmjnknoaaDoor

