/- Closed functions of the program: the kernel runs them. -/
import Derived.Test.YtkldpkemnmmbgaaGC
namespace Go.Proofs.Ytkldpkemnmmbgaa
open Go AM Go.RowKit
noncomputable def g16 : T16 := fun R H K => K true H
theorem g16_lin : Lin16 g16 := ⟨fun h => h _ _⟩
noncomputable def tabL16 : List (FuncId × Func) := [(26, Try.f26), (37, Try.f37), (27, Try.f27), (10, Try.f10), (28, Try.f28), (40, Try.f40), (39, Try.f39), (38, Try.f38), (29, Try.f29), (11, Try.f11), (12, Try.f12), (13, Try.f13), (15, Try.f15), (32, Try.f32), (33, Try.f33), (17, Try.f17), (18, Try.f18), (61, Try.f61), (60, Try.f60), (56, Try.f56), (58, Try.f58), (19, Try.f19), (30, Try.f30), (31, Try.f31)]
theorem tabL16_ok : ∀ g fn, (g, fn) ∈ tabL16 → Try.prog.funcs[g]? = some fn ∧ enters Try.prog g = true := by
  intro g fn h
  simp only [tabL16, List.mem_cons, List.not_mem_nil, or_false] at h
  rcases h with h | h | h | h | h | h | h | h | h | h | h | h | h | h | h | h | h | h | h | h | h | h | h | h
  · cases h; exact ⟨Try.func26, by kernel_rfl⟩
  · cases h; exact ⟨Try.func37, by kernel_rfl⟩
  · cases h; exact ⟨Try.func27, by kernel_rfl⟩
  · cases h; exact ⟨Try.func10, by kernel_rfl⟩
  · cases h; exact ⟨Try.func28, by kernel_rfl⟩
  · cases h; exact ⟨Try.func40, by kernel_rfl⟩
  · cases h; exact ⟨Try.func39, by kernel_rfl⟩
  · cases h; exact ⟨Try.func38, by kernel_rfl⟩
  · cases h; exact ⟨Try.func29, by kernel_rfl⟩
  · cases h; exact ⟨Try.func11, by kernel_rfl⟩
  · cases h; exact ⟨Try.func12, by kernel_rfl⟩
  · cases h; exact ⟨Try.func13, by kernel_rfl⟩
  · cases h; exact ⟨Try.func15, by kernel_rfl⟩
  · cases h; exact ⟨Try.func32, by kernel_rfl⟩
  · cases h; exact ⟨Try.func33, by kernel_rfl⟩
  · cases h; exact ⟨Try.func17, by kernel_rfl⟩
  · cases h; exact ⟨Try.func18, by kernel_rfl⟩
  · cases h; exact ⟨Try.func61, by kernel_rfl⟩
  · cases h; exact ⟨Try.func60, by kernel_rfl⟩
  · cases h; exact ⟨Try.func56, by kernel_rfl⟩
  · cases h; exact ⟨Try.func58, by kernel_rfl⟩
  · cases h; exact ⟨Try.func19, by kernel_rfl⟩
  · cases h; exact ⟨Try.func30, by kernel_rfl⟩
  · cases h; exact ⟨Try.func31, by kernel_rfl⟩
def LRL16 : LRun := fun g => loopIter g 3000
noncomputable def EL16 : FEnv := envB Try.prog LRL16 (fun _ _ => none) baseE tabL16 14
theorem EL16_good : EnvGood Try.prog EL16 := envB_good mixed (iter_ok 3000) _ baseE_good tabL16_ok 14
theorem known16_true : evFn Try.prog EL16 LRL16 Try.f16 (fun _ => none) [] noHeap (fun v _ => v.asB) = some true := by kernel_rfl
theorem ok16 : FunOK Try.prog 16 (w16 g16) := by
  have h1 := evFn_lin (P := Try.prog) EL16_good.lin (lr := LRL16) (fn := Try.f16) (kp := fun _ => none) (args := []) (H := noHeap) (f := fun v _ => v.asB) (g := ret2) (k := fun p => p.1.asB) (fun v H => rfl)
  rw [known16_true] at h1
  obtain ⟨⟨v, H1⟩, h2, h3⟩ := Option.bind_eq_some_iff.1 h1.symm
  obtain rfl := V.asB_eq h3
  refine (knownF_ok (F := runF Try.prog EL16 LRL16 Try.f16 (fun _ => none)) (runF_ok EL16_good mixed (iter_ok 3000) Try.func16 (by kernel_rfl) _) (v := .b true) rfl h2).of_le fun R args H K r hk => ?_
  unfold w16 at hk
  split at hk
  · exact hk
  · cases hk
end Go.Proofs.Ytkldpkemnmmbgaa

