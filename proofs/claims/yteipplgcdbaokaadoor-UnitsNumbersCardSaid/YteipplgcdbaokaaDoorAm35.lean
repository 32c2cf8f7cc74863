/- Small facts for reasoning about printed functions. -/
import Derived.Test.YteipplgcdbaokaaDoorAm29
namespace Go.Proofs.YteipplgcdbaokaaDoor.AM
open Go Go.RowKit
set_option linter.unusedVariables false

theorem wr64 {n : Int} (h0 : -9223372036854775808 ≤ n) (h1 : n ≤ 9223372036854775807) : IntKind.wrap .i64 n = n := w64 ⟨h0, h1⟩
theorem wr8 (n : Int) : IntKind.wrap .u8 n = n % 256 := by simp [IntKind.wrap, IntKind.signed, IntKind.bits]
theorem wr16 (n : Int) : IntKind.wrap .u16 n = n % 65536 := by simp [IntKind.wrap, IntKind.signed, IntKind.bits]
theorem wr32 (n : Int) : IntKind.wrap .u32 n = n % 4294967296 := by simp [IntKind.wrap, IntKind.signed, IntKind.bits]
theorem wru64 (n : Int) : IntKind.wrap .u64 n = n % 18446744073709551616 := by simp [IntKind.wrap, IntKind.signed, IntKind.bits]
theorem tmodp {a b : Int} (h : 0 ≤ a) : Int.tmod a b = a % b := Int.tmod_eq_emod_of_nonneg h
theorem tmodn {a b : Int} (h : a ≤ 0) : Int.tmod a b = -((-a) % b) := by
  have h1 : 0 ≤ -a := by omega
  have := tmodp (b := b) h1
  rw [Int.neg_tmod] at this
  omega
theorem tdivp {a b : Int} (h : 0 ≤ a) : Int.tdiv a b = a / b := Int.tdiv_eq_ediv_of_nonneg h
theorem selD {R : Type} {p : Prop} [Decidable p] (a b : Option R) : sel (decide p) a b = if p then a else b := by by_cases h : p <;> simp [h]
theorem selE {R : Type} (x y : Int) (a b : Option R) : sel (x == y) a b = if x = y then a else b := by
  by_cases h : x = y
  · simp [h]
  · rw [if_neg h, show (x == y) = false by simpa using h]; rfl
theorem selN {R : Type} (x y : Int) (a b : Option R) : sel (x != y) a b = if x = y then b else a := by
  by_cases h : x = y
  · simp [h]
  · rw [if_neg h, show (x != y) = true by simpa using h]; rfl
theorem selI {R : Type} (c : Bool) (a b : Option R) : sel c a b = if c = true then a else b := by cases c <;> simp
theorem sel_t {R : Type} {c : Bool} {a b : Option R} (h : c = true) : sel c a b = a := by rw [h]; rfl
theorem sel_f {R : Type} {c : Bool} {a b : Option R} (h : c = false) : sel c a b = b := by rw [h]; rfl
end Go.Proofs.YteipplgcdbaokaaDoor.AM
