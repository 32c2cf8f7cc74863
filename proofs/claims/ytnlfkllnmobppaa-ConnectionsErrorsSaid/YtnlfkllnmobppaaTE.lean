/- Tick of a desk that New has not made: a contract that knows no more. -/
import Derived.Test.YtnlfkllnmobppaaGJ0
import Derived.Test.YtnlfkllnmobppaaAm46
namespace Go.Proofs.Ytnlfkllnmobppaa
open Go AM Go.RowKit
set_option linter.unusedVariables false
set_option linter.unusedSimpArgs false

noncomputable def g26 : T26 := fun R x H K => match x with
  | none => K H
  | some (x, o) => (H.ldI .i64 x (o + 0 + 0)).bind fun w => if 0 < w then none else K H
theorem g26_lin : Lin26 g26 := ⟨fun {R S k x H f g} h => by
  unfold g26
  split
  · exact h _
  · refine bl fun w => ?_
    split
    · rfl
    · exact h _⟩
noncomputable def b26 : Code := match Try.f26.body with
  | some c => c
  | none => .skip
def kpE : Nat → Option (List Nat) := fun i => if i = 0 then some [0, 7] else none
theorem bc_eq : b26 = .seq (.seq (codeAt [0, 0] b26) (.cond (.tmp 7) (codeAt [0, 1, 0] b26) .skip)) (codeAt [1] b26) := by kernel_rfl
noncomputable abbrev n26 : Nat := Try.f26.ntmps
noncomputable def EM : FEnv := [(37, w37 g37)]
theorem EM_good : EnvGood Try.prog EM := (EnvGood.nil _).cons ok37 (w37_lin g37_lin)
section
variable {R : Type} (H : Heap) (K : Ex → Fr → Heap → Option R) (xv : Option (Nat × Nat))
theorem q0 : ev Try.prog EM loopLim n26 kpE (codeAt [0, 0] b26) [(0, .p xv)] H K = g37 R xv H fun b H => K .normal [(0, .p xv), (7, .b (!b))] H := by kernel_rfl
theorem q1 : ev Try.prog EM loopLim n26 kpE (codeAt [0, 1, 0] b26) [(0, .p xv), (7, .b true)] H K = K .ret [(0, .p xv), (7, .b true)] H := by kernel_rfl
end
section
variable {N : Nat} {w0 : Ref}
theorem body_idle {H : Heap} {xv : Option (Nat × Nat)} (h22 : ∀ (R : Type) (K : Bool → Heap → Option R), g37 R xv H K = K false H) :
    DW Try.prog N w0 n26 b26 [(0, .p xv)] H fun e fr' H' => e = .ret ∧ fr' = [(0, .p xv), (7, .b true)] ∧ H' = H := by
  rw [bc_eq]
  refine DW.seq (DW.seq (DW.ev EM_good.ok EM_good.lin (by kernel_rfl) lim_ok (kp := kpE) (q := (.normal, [(0, .p xv), (7, .b true)], H)) (by rw [q0, h22]; rfl) ?_))
  refine DW.cond (b := true) rfl ?_
  exact DW.ev EM_good.ok EM_good.lin (by kernel_rfl) lim_ok (kp := kpE) (q := (.ret, [(0, .p xv), (7, .b true)], H)) (q1 H ret3 xv) ⟨rfl, rfl, rfl⟩
end
theorem ok26 : FunOK Try.prog 26 (w26 g26) := by
  refine .mk (fun args w => enters_run (by kernel_rfl) args w) (fun R args H K r N w0 w ρ xs hk hr hh => ?_)
  unfold w26 at hk
  split at hk
  rotate_left
  · cases hk
  rename_i xv
  have idle : (∀ (R : Type) (K : Bool → Heap → Option R), g37 R xv H K = K false H) → K (.tup []) H = some r → Calls Try.prog 26 xs.toArray w fun e w' => ∃ c, e = .returned c ∧ ∃ v H' ρ', ρ.le ρ' ∧ Rel ρ' v c ∧ HR N w0 ρ' H' w' ∧ K v H' = some r := fun h22 hkk => by
    refine (calls_of_DW (P := Try.prog) Try.func26 (c := b26) (by kernel_rfl) (args := [.p xv]) (Φ := fun v H' => v = .tup [] ∧ H' = H) (Nat.le_of_ble_eq_true (by kernel_rfl)) ((body_idle h22).mono fun e fr' H' ⟨h1, h2, h3⟩ => ?_) hr hh).mono fun e w' ⟨c, h1, v, H', ρ', h2, h3, h4, h5, h6⟩ => ?_
    · subst h1 h2 h3
      exact ⟨(.tup [], H'), by kernel_rfl, rfl, rfl⟩
    · subst h5 h6
      exact ⟨c, h1, _, _, ρ', h2, h3, h4, hkk⟩
  unfold g26 at hk
  split at hk
  · exact idle (fun R K => rfl) hk
  · rename_i x o
    obtain ⟨wt, hwt, hk⟩ := Option.bind_eq_some_iff.1 hk
    split at hk
    · cases hk
    rename_i hz
    refine idle (fun R K => ?_) hk
    simp only [g37, g37_r, g37_p0, Option.isNone_some, Bool.not_false, sel_true, Option.bind_some, hwt]
    rw [decide_eq_false (by omega)]
end Go.Proofs.Ytnlfkllnmobppaa

