/- Units: what Check, check, content and the parts of Encode do. -/
import Derived.Test.YteipplgcdbaokaaDoorUS1
import Derived.Test.YteipplgcdbaokaaDoorLSl
namespace Go.Proofs.YteipplgcdbaokaaDoor
open Go AM Go.RowKit
set_option linter.unusedVariables false
set_option linter.unusedSimpArgs false

/-- a unit as data -/
structure Un where
  b : Int
  bb : Bool
  f : Int
  fb : Bool
  k : Int
  st : Int
  ld : List Int
def Un.ck (u : Un) : Int := if u.b > 127 ∨ u.f > 127 ∨ u.k > 2 ∨ u.st > 5 ∨ (u.st ≠ 0 ∧ u.k ≠ 1) then 1 else if (u.k = 2 ∧ (u.ld.length < 2 ∨ u.ld.length > 273)) ∨ (u.k ≠ 2 ∧ u.ld.length > 0) then 5 else 0
structure Un.Ok (u : Un) : Prop where
  b : 0 ≤ u.b ∧ u.b ≤ 255
  f : 0 ≤ u.f ∧ u.f ≤ 255
  k : 0 ≤ u.k ∧ u.k ≤ 255
  st : 0 ≤ u.st ∧ u.st ≤ 255
  ld : Byt u.ld
def Un.cells (u : Un) (s : Sl) : List V := [.i .u8 u.b, .b u.bb, .i .u8 u.f, .b u.fb, .i .u8 u.k, .i .u8 u.st, .sl s]
section
variable {R : Type} {H : Heap} {s : Sl} {u : Un}
theorem s11 (hn : s.len = u.ld.length) (K : Int → Heap → Option R) : g11 R u.b u.bb u.f u.fb u.k u.st s H K = K u.ck (H.new (.cells (u.cells s) 25 false)) := by
  have g := Heap.gnew H (.cells (u.cells s) 25 false)
  have e0 : (H.new (.cells (u.cells s) 25 false)).ldI .u8 H.next 0 = some u.b := ldI_of g rfl
  have e2 : (H.new (.cells (u.cells s) 25 false)).ldI .u8 H.next 2 = some u.f := ldI_of g rfl
  have e4 : (H.new (.cells (u.cells s) 25 false)).ldI .u8 H.next 4 = some u.k := ldI_of g rfl
  have e5 : (H.new (.cells (u.cells s) 25 false)).ldI .u8 H.next 5 = some u.st := ldI_of g rfl
  have e6 : (H.new (.cells (u.cells s) 25 false)).ldSl H.next 6 = some s := ldSl_of g rfl
  show g11_p0 R u.b u.bb u.f u.fb u.k u.st s H _ = _
  unfold g11_p0 alo
  rw [show [V.i IntKind.u8 u.b, V.b u.bb, V.i IntKind.u8 u.f, V.b u.fb, V.i IntKind.u8 u.k, V.i IntKind.u8 u.st, V.sl s] = u.cells s from rfl]
  simp only [Nat.zero_add, e0, e2, e4, e5, e6, Option.bind_some, selD, selN, selE, hn]
  generalize H.new (.cells (u.cells s) 25 false) = H'
  have hk : ∀ (c : Prop) [Decidable c] (a b : Int), (if c then K a H' else K b H') = K (if c then a else b) H' := fun c _ a b => by split <;> rfl
  simp only [hk]
  congr 1
  unfold Un.ck
  grind
theorem s9 (hn : s.len = u.ld.length) (K : Int → Heap → Option R) : g9 R u.b u.bb u.f u.fb u.k u.st s H K = K u.ck (H.new (.cells (u.cells s) 25 false)) := by
  have g := Heap.gnew H (.cells (u.cells s) 25 false)
  have e0 : (H.new (.cells (u.cells s) 25 false)).ldI .u8 H.next 0 = some u.b := ldI_of g rfl
  have e2 : (H.new (.cells (u.cells s) 25 false)).ldI .u8 H.next 2 = some u.f := ldI_of g rfl
  have e4 : (H.new (.cells (u.cells s) 25 false)).ldI .u8 H.next 4 = some u.k := ldI_of g rfl
  have e5 : (H.new (.cells (u.cells s) 25 false)).ldI .u8 H.next 5 = some u.st := ldI_of g rfl
  have e6 : (H.new (.cells (u.cells s) 25 false)).ldSl H.next 6 = some s := ldSl_of g rfl
  show g9_p0 R u.b u.bb u.f u.fb u.k u.st s H _ = _
  unfold g9_p0 alo
  rw [show [V.i IntKind.u8 u.b, V.b u.bb, V.i IntKind.u8 u.f, V.b u.fb, V.i IntKind.u8 u.k, V.i IntKind.u8 u.st, V.sl s] = u.cells s from rfl]
  simp only [Nat.zero_add, e0, e2, e4, e5, e6, Option.bind_some, selD, selN, selE, hn]
  generalize H.new (.cells (u.cells s) 25 false) = H'
  have hk : ∀ (c : Prop) [Decidable c] (a b : Int), (if c then K a H' else K b H') = K (if c then a else b) H' := fun c _ a b => by split <;> rfl
  simp only [hk]
  congr 1
  unfold Un.ck
  grind
theorem s26 {a b : Int} (K : Int → Heap → Option R) : g26 R a b H K = K (min a b) H := by
  simp only [g26, g26_r, g26_p0, selD]
  split
  · rw [Int.min_eq_left (by omega)]
  · rw [Int.min_eq_right (by omega)]
theorem bvOr128 : ∀ n : Fin 128, bvOr .u8 ((n.val : Nat) : Int) 128 = (n.val : Nat) + 128 := by decide +kernel
theorem s24 {n : Int} (hn : 0 ≤ n ∧ n ≤ 127) {b : Bool} (K : Int → Heap → Option R) : g24 R n b H K = K (if b then n + 128 else n) H := by
  have h := bvOr128 ⟨n.toNat, by omega⟩
  simp only at h
  rw [show ((n.toNat : Nat) : Int) = n by omega] at h
  simp only [g24, g24_r, g24_p0, h]
  cases b <;> rfl
/-- what comes behind the head -/
def Un.rest (u : Un) : List Int := if u.k = 1 then [u.st] else u.ld
theorem s25 (hw : H.Wf) (h : BS H s u.ld) (hc : CapOk s) : ∃ s' H', (∀ (R : Type) (K : Sl → Heap → Option R), g25 R u.b u.bb u.f u.fb u.k u.st s H K = K s' H') ∧ BS H' s' u.rest ∧ Ext H H' ∧ H'.Wf ∧ CapOk s' := by
  have g := Heap.gnew H (.cells (u.cells s) 25 false)
  have e4 : (H.new (.cells (u.cells s) 25 false)).ldI .u8 H.next 4 = some u.k := ldI_of g rfl
  have e5 : (H.new (.cells (u.cells s) 25 false)).ldI .u8 H.next 5 = some u.st := ldI_of g rfl
  have e6 : (H.new (.cells (u.cells s) 25 false)).ldSl H.next 6 = some s := ldSl_of g rfl
  have hx := Ext.new H (.cells (u.cells s) 25 false)
  have hw1 := hw.new (.cells (u.cells s) 25 false)
  have hd : ∀ (R : Type) (K : Sl → Heap → Option R), g25 R u.b u.bb u.f u.fb u.k u.st s H K = if u.k = 1 then K ⟨some (H.next + 1, 0), 1, .ex 1⟩ ((H.new (.cells (u.cells s) 25 false)).new (.cells [.i .u8 u.st] 5 false)) else K s (H.new (.cells (u.cells s) 25 false)) := fun R K => by
    show g25_p0 R u.b u.bb u.f u.fb u.k u.st s H _ = _
    unfold g25_p0 alo
    rw [show [V.i IntKind.u8 u.b, V.b u.bb, V.i IntKind.u8 u.f, V.b u.fb, V.i IntKind.u8 u.k, V.i IntKind.u8 u.st, V.sl s] = u.cells s from rfl]
    simp only [Nat.zero_add, e4, e5, e6, Option.bind_some, selE]
    rfl
  by_cases h1 : u.k = 1
  · refine ⟨_, _, fun R K => by rw [hd, if_pos h1], ?_, hx.trans (Ext.new _ _), hw1.new _, Nat.le_refl _⟩
    have := BS.obj (c := .ex 1) (l := [u.st]) (Heap.gnew (H.new (.cells (u.cells s) 25 false)) (.cells (bcs [u.st]) 5 false))
    rw [show u.rest = [u.st] by simp [Un.rest, h1]]
    exact this
  · refine ⟨_, _, fun R K => by rw [hd, if_neg h1], ?_, hx, hw1, hc⟩
    rw [show u.rest = u.ld by simp [Un.rest, h1]]
    exact h.ext hw hx
end
end Go.Proofs.YteipplgcdbaokaaDoor

