/- Functions of package slices over bytes. -/
import Derived.Test.YtnlfkllnmobppaaGJ
import Derived.Test.YtnlfkllnmobppaaAmC
namespace Go.Proofs.Ytnlfkllnmobppaa
open Go AM Go.RowKit
set_option linter.unusedVariables false
set_option linter.unusedSimpArgs false

theorem clip_ok {R : Type} {s : Sl} (hc : CapOk s) (H : Heap) (K : Sl → Heap → Option R) : g54 R s H K = K ⟨s.a, s.len, .ex s.len⟩ H := by
  simp only [g54, g54_r, g54_p0, slOf_clip hc]
theorem AM.BS.clipped {H : Heap} {s : Sl} {l : List Int} (h : BS H s l) : BS H ⟨s.a, s.len, .ex s.len⟩ l := ⟨h.len, h.is⟩
theorem clone_ok {H : Heap} (hw : H.Wf) {s : Sl} {l : List Int} (h : BS H s l) (hl : l.length ≤ 140737488355328) : ∃ s' H', (∀ (R : Type) (K : Sl → Heap → Option R), g55 R s H K = K s' H') ∧ CopyOf H H' 5 s' l := by
  by_cases ha : s.a = none
  · have h0 : l = [] := by
      by_cases h0 : l = []
      · exact h0
      · obtain ⟨q, vs, e, ro, h1, _⟩ := h.there h0
        rw [ha] at h1; cases h1
    subst h0
    refine ⟨⟨none, 0, .ex 0⟩, H, fun R K => ?_, ⟨.nil _, .refl _ _, hw, Nat.le_refl _, .inl rfl⟩⟩
    simp only [g55, g55_r, g55_p0, ha, Option.isNone_none, sel_true]
  · have hi : Option.isNone s.a = false := by cases hs : s.a with | none => exact absurd hs ha | some _ => rfl
    have h2 := h.ext hw (Ext.new H (.cells [] 5 false))
    have hw2 := hw.new (.cells [] 5 false)
    by_cases h0 : l = []
    · subst h0
      have hn : s.len = 0 := h.len
      refine ⟨⟨some (H.next, 0), 0, .ex 0⟩, H.new (.cells [] 5 false), fun R K => ?_, ⟨⟨rfl, by simp [slCells]⟩, Ext.new _ _, hw2, Nat.le_refl _, .inl rfl⟩⟩
      simp only [g55, g55_r, g55_p0, hi, sel_false, alo, h2.is, Option.bind_some, hn, appendV_zero]
    · have hn : s.len = l.length := h.len
      have hn0 : l.length ≠ 0 := by simpa using h0
      refine ⟨⟨some (H.next + 1, 0), l.length, .op 1⟩, (H.new (.cells [] 5 false)).new (.cells (bcs l) 5 false), fun R K => ?_, ⟨?_, (Ext.new _ _).trans (Ext.new _ _), hw2.new _, rfl, .inr ⟨H.next + 1, rfl, by omega, ?_⟩⟩⟩
      · simp only [g55, g55_r, g55_p0, hi, sel_false, alo, h2.is, Option.bind_some, hn]
        rw [appendV_fresh hn0 hl]; rfl
      · exact BS.obj (Heap.gnew (H.new (.cells [] 5 false)) _)
      · exact Heap.gnew (H.new (.cells [] 5 false)) _
end Go.Proofs.Ytnlfkllnmobppaa

