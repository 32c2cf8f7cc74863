/- The chapter's examples hold of the program: the kernel runs them. -/
import Derived.Test.YtbkncpmgpogakaaGT
namespace Go.Proofs.Ytbkncpmgpogakaa
open Go AM Go.RowKit
noncomputable def g9 : T9 := fun R H K => K true H
theorem g9_lin : Lin9 g9 := ⟨fun h => h _ _⟩
noncomputable def tabL : List (FuncId × Func) := [(11, Try.f11), (43, Try.f43), (42, Try.f42), (38, Try.f38), (40, Try.f40), (44, Try.f44), (46, Try.f46), (14, Try.f14), (22, Try.f22), (20, Try.f20), (21, Try.f21), (19, Try.f19), (15, Try.f15), (16, Try.f16), (17, Try.f17), (39, Try.f39), (18, Try.f18), (41, Try.f41), (45, Try.f45), (47, Try.f47)]
theorem tabL_ok : ∀ g fn, (g, fn) ∈ tabL → Try.prog.funcs[g]? = some fn ∧ enters Try.prog g = true := by
  intro g fn h
  simp only [tabL, List.mem_cons, List.not_mem_nil, or_false] at h
  rcases h with h | h | h | h | h | h | h | h | h | h | h | h | h | h | h | h | h | h | h | h
  · cases h; exact ⟨Try.func11, by kernel_rfl⟩
  · cases h; exact ⟨Try.func43, by kernel_rfl⟩
  · cases h; exact ⟨Try.func42, by kernel_rfl⟩
  · cases h; exact ⟨Try.func38, by kernel_rfl⟩
  · cases h; exact ⟨Try.func40, by kernel_rfl⟩
  · cases h; exact ⟨Try.func44, by kernel_rfl⟩
  · cases h; exact ⟨Try.func46, by kernel_rfl⟩
  · cases h; exact ⟨Try.func14, by kernel_rfl⟩
  · cases h; exact ⟨Try.func22, by kernel_rfl⟩
  · cases h; exact ⟨Try.func20, by kernel_rfl⟩
  · cases h; exact ⟨Try.func21, by kernel_rfl⟩
  · cases h; exact ⟨Try.func19, by kernel_rfl⟩
  · cases h; exact ⟨Try.func15, by kernel_rfl⟩
  · cases h; exact ⟨Try.func16, by kernel_rfl⟩
  · cases h; exact ⟨Try.func17, by kernel_rfl⟩
  · cases h; exact ⟨Try.func39, by kernel_rfl⟩
  · cases h; exact ⟨Try.func18, by kernel_rfl⟩
  · cases h; exact ⟨Try.func41, by kernel_rfl⟩
  · cases h; exact ⟨Try.func45, by kernel_rfl⟩
  · cases h; exact ⟨Try.func47, by kernel_rfl⟩
def LRL : LRun := fun g => loopIter g 3000
noncomputable def EL : FEnv := envD Try.prog LRL (fun _ _ => none) tabL 12
theorem EL_good : EnvGood Try.prog EL := envD_good mixed (iter_ok 3000) _ tabL_ok 12
theorem lives_true : evFn Try.prog EL LRL Try.f9 (fun _ => none) [] noHeap (fun v _ => v.asB) = some true := by kernel_rfl
theorem ok9 : FunOK Try.prog 9 (w9 g9) := by
  have h1 := evFn_lin (P := Try.prog) EL_good.lin (lr := LRL) (fn := Try.f9) (kp := fun _ => none) (args := []) (H := noHeap) (f := fun v _ => v.asB) (g := ret2) (k := fun p => p.1.asB) (fun v H => rfl)
  rw [lives_true] at h1
  obtain ⟨⟨v, H1⟩, h2, h3⟩ := Option.bind_eq_some_iff.1 h1.symm
  obtain rfl := V.asB_eq h3
  refine (knownF_ok (F := runF Try.prog EL LRL Try.f9 (fun _ => none)) (runF_ok EL_good mixed (iter_ok 3000) Try.func9 (by kernel_rfl) _) (v := .b true) rfl h2).of_le fun R args H K r hk => ?_
  unfold w9 at hk
  split at hk
  · exact hk
  · cases hk
end Go.Proofs.Ytbkncpmgpogakaa
