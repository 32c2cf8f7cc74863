/- Closed functions of the program: the kernel runs them. -/
import Derived.Test.YtnlfkllnmobppaaGC
namespace Go.Proofs.Ytnlfkllnmobppaa
open Go AM Go.RowKit
noncomputable def g9 : T9 := fun _ H K => K true H
theorem g9_lin : Lin9 g9 := ⟨fun h => h _ _⟩
noncomputable def tabL9 : List (FuncId × Func) := [(12, Try.f12), (11, Try.f11), (15, Try.f15), (54, Try.f54), (55, Try.f55), (36, Try.f36), (37, Try.f37), (38, Try.f38), (39, Try.f39), (18, Try.f18), (40, Try.f40), (20, Try.f20), (21, Try.f21), (23, Try.f23), (41, Try.f41), (24, Try.f24), (56, Try.f56), (42, Try.f42), (43, Try.f43), (51, Try.f51), (57, Try.f57), (53, Try.f53), (58, Try.f58), (66, Try.f66), (68, Try.f68), (59, Try.f59), (60, Try.f60), (61, Try.f61), (62, Try.f62), (44, Try.f44), (25, Try.f25), (72, Try.f72), (67, Try.f67), (50, Try.f50), (27, Try.f27), (28, Try.f28), (31, Try.f31)]
theorem tabL9_ok : ∀ g fn, (g, fn) ∈ tabL9 → Try.prog.funcs[g]? = some fn ∧ enters Try.prog g = true := by
  intro g fn h
  simp only [tabL9, List.mem_cons, List.not_mem_nil, or_false] at h
  rcases h with h | h | h | h | h | h | h | h | h | h | h | h | h | h | h | h | h | h | h | h | h | h | h | h | h | h | h | h | h | h | h | h | h | h | h | h | h
  · cases h; exact ⟨Try.func12, by kernel_rfl⟩
  · cases h; exact ⟨Try.func11, by kernel_rfl⟩
  · cases h; exact ⟨Try.func15, by kernel_rfl⟩
  · cases h; exact ⟨Try.func54, by kernel_rfl⟩
  · cases h; exact ⟨Try.func55, by kernel_rfl⟩
  · cases h; exact ⟨Try.func36, by kernel_rfl⟩
  · cases h; exact ⟨Try.func37, by kernel_rfl⟩
  · cases h; exact ⟨Try.func38, by kernel_rfl⟩
  · cases h; exact ⟨Try.func39, by kernel_rfl⟩
  · cases h; exact ⟨Try.func18, by kernel_rfl⟩
  · cases h; exact ⟨Try.func40, by kernel_rfl⟩
  · cases h; exact ⟨Try.func20, by kernel_rfl⟩
  · cases h; exact ⟨Try.func21, by kernel_rfl⟩
  · cases h; exact ⟨Try.func23, by kernel_rfl⟩
  · cases h; exact ⟨Try.func41, by kernel_rfl⟩
  · cases h; exact ⟨Try.func24, by kernel_rfl⟩
  · cases h; exact ⟨Try.func56, by kernel_rfl⟩
  · cases h; exact ⟨Try.func42, by kernel_rfl⟩
  · cases h; exact ⟨Try.func43, by kernel_rfl⟩
  · cases h; exact ⟨Try.func51, by kernel_rfl⟩
  · cases h; exact ⟨Try.func57, by kernel_rfl⟩
  · cases h; exact ⟨Try.func53, by kernel_rfl⟩
  · cases h; exact ⟨Try.func58, by kernel_rfl⟩
  · cases h; exact ⟨Try.func66, by kernel_rfl⟩
  · cases h; exact ⟨Try.func68, by kernel_rfl⟩
  · cases h; exact ⟨Try.func59, by kernel_rfl⟩
  · cases h; exact ⟨Try.func60, by kernel_rfl⟩
  · cases h; exact ⟨Try.func61, by kernel_rfl⟩
  · cases h; exact ⟨Try.func62, by kernel_rfl⟩
  · cases h; exact ⟨Try.func44, by kernel_rfl⟩
  · cases h; exact ⟨Try.func25, by kernel_rfl⟩
  · cases h; exact ⟨Try.func72, by kernel_rfl⟩
  · cases h; exact ⟨Try.func67, by kernel_rfl⟩
  · cases h; exact ⟨Try.func50, by kernel_rfl⟩
  · cases h; exact ⟨Try.func27, by kernel_rfl⟩
  · cases h; exact ⟨Try.func28, by kernel_rfl⟩
  · cases h; exact ⟨Try.func31, by kernel_rfl⟩
def LRL9 : LRun := fun g => loopIter g 3000
noncomputable def EL9 : FEnv := envB Try.prog LRL9 (fun _ _ => none) baseE tabL9 14
theorem EL9_good : EnvGood Try.prog EL9 := envB_good mixed (iter_ok 3000) _ baseE_good tabL9_ok 14
theorem known9_true : evFn Try.prog EL9 LRL9 Try.f9 (fun _ => none) [] noHeap (fun v _ => v.asB) = some true := by kernel_rfl
theorem ok9 : FunOK Try.prog 9 (w9 g9) := by
  have h1 := evFn_lin (P := Try.prog) EL9_good.lin (lr := LRL9) (fn := Try.f9) (kp := fun _ => none) (args := []) (H := noHeap) (f := fun v _ => v.asB) (g := ret2) (k := fun p => p.1.asB) (fun v H => rfl)
  rw [known9_true] at h1
  obtain ⟨⟨v, H1⟩, h2, h3⟩ := Option.bind_eq_some_iff.1 h1.symm
  obtain rfl := V.asB_eq h3
  refine (knownF_ok (F := runF Try.prog EL9 LRL9 Try.f9 (fun _ => none)) (runF_ok EL9_good mixed (iter_ok 3000) Try.func9 (by kernel_rfl) _) (v := .b true) rfl h2).of_le fun R args H K r hk => ?_
  unfold w9 at hk
  split at hk
  · exact hk
  · cases hk
end Go.Proofs.Ytnlfkllnmobppaa

