/- Arguments taken apart; a law's end. -/
import Derived.Test.YteipplgcdbaokaaDoorAm29
namespace Go.Proofs.YteipplgcdbaokaaDoor.AM
open Go Go.RowKit

theorem Fits.uncons {H : Heap} {d : Dt} {ds : List Dt} {vs : List V} (h : Fits H (d :: ds) vs) : ∃ v vs', vs = v :: vs' ∧ Fit H d v ∧ Fits H ds vs' := by
  obtain ⟨h1, h2⟩ := h
  cases vs with
  | nil => simp at h1
  | cons v vs => exact ⟨v, vs, rfl, h2 0 v d rfl rfl, by simpa using h1, fun j u e a b => h2 (j + 1) u e (by simpa using a) (by simpa using b)⟩
theorem Fits.unnil {H : Heap} {vs : List V} (h : Fits H [] vs) : vs = [] := by
  obtain ⟨h1, _⟩ := h
  cases vs with
  | nil => rfl
  | cons v vs => simp at h1
theorem FitsA.uncons {H : Heap} {d : Da} {ds : List Da} {vs : List V} (h : FitsA H (d :: ds) vs) : ∃ v vs', vs = v :: vs' ∧ FitA H d v ∧ FitsA H ds vs' := by
  cases h with | cons _ v _ vs h1 h2 => exact ⟨v, vs, rfl, h1, h2⟩
theorem FitsA.unnil {H : Heap} {vs : List V} (h : FitsA H [] vs) : vs = [] := by cases h; rfl
theorem FitA.unone {H : Heap} {d : Dt} {v : V} (h : FitA H (.one d) v) : Fit H d v := by cases h; assumption
theorem FitA.unagg {H : Heap} {ks : List Dt} {v : V} (h : FitA H (.agg ks) v) : ∃ vs, v = .agg vs ∧ Fits H ks vs := by cases h with | agg _ vs h => exact ⟨vs, rfl, h⟩
theorem Fit.int {H : Heap} {k : IntKind} {v : V} (h : Fit H (.i k) v) : ∃ n, v = .i k n ∧ (Lit.int k n).wf = true := by cases h with | i _ n h => exact ⟨n, rfl, h⟩
theorem Fit.bool {H : Heap} {v : V} (h : Fit H .b v) : ∃ x, v = .b x := by cases h with | b x => exact ⟨x, rfl⟩
theorem Fit.str {H : Heap} {v : V} (h : Fit H .s v) : ∃ x, v = .s x ∧ x.size ≤ reachBytes := by cases h with | s x h => exact ⟨x, rfl, h⟩
/-- what a slice argument is -/
def ArgSl (H : Heap) (ks : List Dt) (s : Sl) : Prop := s = ⟨none, 0, .ex 0⟩ ∨ ∃ id len cap vs e, s = ⟨some (id, 0), len, .ex cap⟩ ∧ len ≤ cap ∧ cap ≤ maxLen ∧ vs.length = cap * ks.length ∧ (cap ≠ 0 → H.get id = some (.cells vs e true)) ∧
  ∀ (j : Nat) (v : V) (d : Dt), vs[j]? = some v → ks[j % ks.length]? = some d → Fit H d v
theorem Fit.slice {H : Heap} {ks : List Dt} {v : V} (h : Fit H (.sl ks) v) : ∃ s, v = .sl s ∧ ArgSl H ks s := by
  cases h with
  | sn => exact ⟨_, rfl, .inl rfl⟩
  | sl _ id len cap vs e h1 h2 h3 h4 h5 h6 => exact ⟨_, rfl, .inr ⟨id, len, cap, vs, e, rfl, h1, h2, h4, h5, h6⟩⟩
theorem wfI64 {n : Int} (h : (Lit.int .i64 n).wf = true) : -9223372036854775808 ≤ n ∧ n ≤ 9223372036854775807 := by
  simp [Lit.wf, IntKind.min, IntKind.max, IntKind.bits, IntKind.signed] at h; omega
theorem wfU8 {n : Int} (h : (Lit.int .u8 n).wf = true) : 0 ≤ n ∧ n ≤ 255 := by
  simp [Lit.wf, IntKind.min, IntKind.max, IntKind.bits, IntKind.signed] at h; omega
theorem wfU16 {n : Int} (h : (Lit.int .u16 n).wf = true) : 0 ≤ n ∧ n ≤ 65535 := by
  simp [Lit.wf, IntKind.min, IntKind.max, IntKind.bits, IntKind.signed] at h; omega
theorem wfU32 {n : Int} (h : (Lit.int .u32 n).wf = true) : 0 ≤ n ∧ n ≤ 4294967295 := by
  simp [Lit.wf, IntKind.min, IntKind.max, IntKind.bits, IntKind.signed] at h; omega
theorem HR.wf {N : Nat} {w0 w : World} {ρ : Env} {H : Heap} (h : HR N w0 ρ H w) : H.Wf := fun _ _ ho => h.get_lt ho
theorem ds_len0 {α : Type} (ds : List α) (h : ds.length = 0) : ds = [] := List.length_eq_zero_iff.1 h
theorem ds_len1 {α : Type} (ds : List α) (h : ds.length = 1) : ∃ a, ds = [a] := List.length_eq_one_iff.1 h
theorem ds_len2 {α : Type} (ds : List α) (h : ds.length = 2) : ∃ a b, ds = [a, b] := by
  match ds, h with
  | [a, b], _ => exact ⟨a, b, rfl⟩
theorem ds_len3 {α : Type} (ds : List α) (h : ds.length = 3) : ∃ a b c, ds = [a, b, c] := by
  match ds, h with
  | [a, b, c], _ => exact ⟨a, b, c, rfl⟩
theorem ds_len4 {α : Type} (ds : List α) (h : ds.length = 4) : ∃ a b c d, ds = [a, b, c, d] := by
  match ds, h with
  | [a, b, c, d], _ => exact ⟨a, b, c, d, rfl⟩
theorem ds_len5 {α : Type} (ds : List α) (h : ds.length = 5) : ∃ a b c d e, ds = [a, b, c, d, e] := by
  match ds, h with
  | [a, b, c, d, e], _ => exact ⟨a, b, c, d, e, rfl⟩
end Go.Proofs.YteipplgcdbaokaaDoor.AM
