/- How arguments read. -/
import Derived.Test.YtobebcfkddimkaaSL
namespace Go.Proofs.Ytobebcfkddimkaa
open Go AM Go.RowKit Go.Sort
set_option linter.unusedVariables false
set_option linter.unusedSimpArgs false

theorem exists_list {α : Type} (P : Nat → α → Prop) : ∀ n, (∀ i, i < n → ∃ a, P i a) → ∃ l : List α, l.length = n ∧ ∀ i a, l[i]? = some a → P i a := by
  intro n
  induction n with
  | zero => intro _; exact ⟨[], rfl, fun i a h => by simp at h⟩
  | succ n ih =>
    intro h
    obtain ⟨l, h1, h2⟩ := ih fun i hi => h i (by omega)
    obtain ⟨a, ha⟩ := h n (by omega)
    refine ⟨l ++ [a], by simp [h1], fun i b hb => ?_⟩
    by_cases hi : i < n
    · rw [List.getElem?_append_left (by omega)] at hb; exact h2 i b hb
    · rw [List.getElem?_append_right (by omega)] at hb
      have : i = n := by
        have := (List.getElem?_eq_some_iff.1 hb).1
        simp at this; omega
      subst this
      simp [h1] at hb
      subst hb; exact ha
/-- the cells of an argument -/
theorem arg_cells {H : Heap} {ks : List Dt} {s : Sl} (h : ArgSl H ks s) (hk : ks.length ≠ 0) {i : Nat} (hi : i < s.len) : ∃ q, s.a = some q ∧ ∀ j d, ks[j]? = some d → ∃ v, H.ld q.1 (q.2 + i * ks.length + j) = some v ∧ Fit H d v := by
  rcases h with rfl | ⟨id, len, cap, vs, e, rfl, h1, h2, h3, h4, h5⟩
  · simp at hi
  · simp only at hi
    refine ⟨(id, 0), rfl, fun j d hj => ?_⟩
    have hjl := (List.getElem?_eq_some_iff.1 hj).1
    have hlt : i * ks.length + j < vs.length := by
      rw [h3]
      have : (i + 1) * ks.length ≤ cap * ks.length := Nat.mul_le_mul_right _ (by omega)
      rw [Nat.add_mul] at this; omega
    refine ⟨vs[i * ks.length + j], ?_, h5 _ _ d (List.getElem?_eq_getElem hlt) ?_⟩
    · simp only [Heap.ld, h4 (by omega), Nat.zero_add]
      exact List.getElem?_eq_getElem hlt
    · rw [Nat.mul_add_mod_of_lt hjl]; exact hj
theorem rdP_of {H : Heap} {t : Sl} (h : ArgSl H [.i .u8, .i .u8, .sl [.i .u8], .i .u8] t) : ∃ l, RdP H t l := by
  obtain ⟨l, h1, h2⟩ := exists_list (fun i (p : PP) => p.Ok H ∧ ∃ q, t.a = some q ∧ H.ldI .u8 q.1 (q.2 + i * 4 + 0) = some p.a ∧ H.ldI .u8 q.1 (q.2 + i * 4 + 1) = some p.b ∧ H.ldSl q.1 (q.2 + i * 4 + 2) = some p.s ∧ H.ldI .u8 q.1 (q.2 + i * 4 + 3) = some p.m) t.len fun i hi => by
    obtain ⟨q, hq, hc⟩ := arg_cells h (by simp) hi
    obtain ⟨v0, l0, f0⟩ := hc 0 _ rfl
    obtain ⟨v1, l1, f1⟩ := hc 1 _ rfl
    obtain ⟨v2, l2, f2⟩ := hc 2 _ rfl
    obtain ⟨v3, l3, f3⟩ := hc 3 _ rfl
    obtain ⟨a, rfl, k0⟩ := Fit.int f0
    obtain ⟨b, rfl, k1⟩ := Fit.int f1
    obtain ⟨s, rfl, k2⟩ := Fit.slice f2
    obtain ⟨m, rfl, k3⟩ := Fit.int f3
    obtain ⟨d, hs, hb, hcap, _, _⟩ := bs_of_arg k2
    exact ⟨⟨a, b, m, s, d⟩, ⟨hs, hcap, wfU8 k0, wfU8 k1, wfU8 k3⟩, q, hq, by unfold Heap.ldI; rw [show q.2 + i * 4 + 0 = q.2 + i * [Dt.i .u8, .i .u8, .sl [.i .u8], .i .u8].length + 0 from rfl, l0]; rfl, by unfold Heap.ldI; rw [show q.2 + i * 4 + 1 = q.2 + i * [Dt.i .u8, .i .u8, .sl [.i .u8], .i .u8].length + 1 from rfl, l1]; rfl, by unfold Heap.ldSl; rw [show q.2 + i * 4 + 2 = q.2 + i * [Dt.i .u8, .i .u8, .sl [.i .u8], .i .u8].length + 2 from rfl, l2]; rfl, by unfold Heap.ldI; rw [show q.2 + i * 4 + 3 = q.2 + i * [Dt.i .u8, .i .u8, .sl [.i .u8], .i .u8].length + 3 from rfl, l3]; rfl⟩
  exact ⟨l, h1.symm, fun i p hp => (h2 i p hp).2, fun p hp => by obtain ⟨i, hi⟩ := List.mem_iff_getElem?.1 hp; exact (h2 i p hi).1⟩
theorem rdA_of {H : Heap} {t : Sl} (h : ArgSl H [.b, .i .u8, .i .u8] t) : ∃ l, RdA H t l := by
  obtain ⟨l, h1, h2⟩ := exists_list (fun i (p : Ac) => ((0 ≤ p.pc ∧ p.pc ≤ 255) ∧ (0 ≤ p.pt ∧ p.pt ≤ 255)) ∧ ∃ q, t.a = some q ∧ H.ldB q.1 (q.2 + i * 3 + 0) = some p.t ∧ H.ldI .u8 q.1 (q.2 + i * 3 + 1) = some p.pc ∧ H.ldI .u8 q.1 (q.2 + i * 3 + 2) = some p.pt) t.len fun i hi => by
    obtain ⟨q, hq, hc⟩ := arg_cells h (by simp) hi
    obtain ⟨v0, l0, f0⟩ := hc 0 _ rfl
    obtain ⟨v1, l1, f1⟩ := hc 1 _ rfl
    obtain ⟨v2, l2, f2⟩ := hc 2 _ rfl
    obtain ⟨a, rfl⟩ := Fit.bool f0
    obtain ⟨b, rfl, k1⟩ := Fit.int f1
    obtain ⟨m, rfl, k2⟩ := Fit.int f2
    exact ⟨⟨a, b, m⟩, ⟨wfU8 k1, wfU8 k2⟩, q, hq, by unfold Heap.ldB; rw [show q.2 + i * 3 + 0 = q.2 + i * [Dt.b, .i .u8, .i .u8].length + 0 from rfl, l0]; rfl, by unfold Heap.ldI; rw [show q.2 + i * 3 + 1 = q.2 + i * [Dt.b, .i .u8, .i .u8].length + 1 from rfl, l1]; rfl, by unfold Heap.ldI; rw [show q.2 + i * 3 + 2 = q.2 + i * [Dt.b, .i .u8, .i .u8].length + 2 from rfl, l2]; rfl⟩
  exact ⟨l, h1.symm, fun i p hp => (h2 i p hp).2, fun p hp => by obtain ⟨i, hi⟩ := List.mem_iff_getElem?.1 hp; exact (h2 i p hi).1⟩
end Go.Proofs.Ytobebcfkddimkaa

