/- Closed functions of the program: the kernel runs them. -/
import Derived.Test.YteipplgcdbaokaaDoorGC
namespace Go.Proofs.YteipplgcdbaokaaDoor
open Go AM Go.RowKit
noncomputable def g8 : T8 := fun R H K => K true H
theorem g8_lin : Lin8 g8 := ⟨fun h => h _ _⟩
noncomputable def tabL8 : List (FuncId × Func) := [(11, Tryd.f11), (24, Tryd.f24), (25, Tryd.f25), (26, Tryd.f26), (27, Tryd.f27), (36, Tryd.f36), (28, Tryd.f28), (10, Tryd.f10), (41, Tryd.f41), (46, Tryd.f46), (47, Tryd.f47), (48, Tryd.f48), (42, Tryd.f42), (43, Tryd.f43), (49, Tryd.f49), (51, Tryd.f51), (52, Tryd.f52), (50, Tryd.f50), (44, Tryd.f44), (39, Tryd.f39), (35, Tryd.f35), (29, Tryd.f29), (37, Tryd.f37), (38, Tryd.f38), (30, Tryd.f30), (12, Tryd.f12), (17, Tryd.f17), (13, Tryd.f13), (31, Tryd.f31), (32, Tryd.f32), (15, Tryd.f15), (33, Tryd.f33), (18, Tryd.f18), (19, Tryd.f19), (20, Tryd.f20)]
theorem tabL8_ok : ∀ g fn, (g, fn) ∈ tabL8 → Tryd.prog.funcs[g]? = some fn ∧ enters Tryd.prog g = true := by
  intro g fn h
  simp only [tabL8, List.mem_cons, List.not_mem_nil, or_false] at h
  rcases h with h | h | h | h | h | h | h | h | h | h | h | h | h | h | h | h | h | h | h | h | h | h | h | h | h | h | h | h | h | h | h | h | h | h | h
  · cases h; exact ⟨Tryd.func11, by kernel_rfl⟩
  · cases h; exact ⟨Tryd.func24, by kernel_rfl⟩
  · cases h; exact ⟨Tryd.func25, by kernel_rfl⟩
  · cases h; exact ⟨Tryd.func26, by kernel_rfl⟩
  · cases h; exact ⟨Tryd.func27, by kernel_rfl⟩
  · cases h; exact ⟨Tryd.func36, by kernel_rfl⟩
  · cases h; exact ⟨Tryd.func28, by kernel_rfl⟩
  · cases h; exact ⟨Tryd.func10, by kernel_rfl⟩
  · cases h; exact ⟨Tryd.func41, by kernel_rfl⟩
  · cases h; exact ⟨Tryd.func46, by kernel_rfl⟩
  · cases h; exact ⟨Tryd.func47, by kernel_rfl⟩
  · cases h; exact ⟨Tryd.func48, by kernel_rfl⟩
  · cases h; exact ⟨Tryd.func42, by kernel_rfl⟩
  · cases h; exact ⟨Tryd.func43, by kernel_rfl⟩
  · cases h; exact ⟨Tryd.func49, by kernel_rfl⟩
  · cases h; exact ⟨Tryd.func51, by kernel_rfl⟩
  · cases h; exact ⟨Tryd.func52, by kernel_rfl⟩
  · cases h; exact ⟨Tryd.func50, by kernel_rfl⟩
  · cases h; exact ⟨Tryd.func44, by kernel_rfl⟩
  · cases h; exact ⟨Tryd.func39, by kernel_rfl⟩
  · cases h; exact ⟨Tryd.func35, by kernel_rfl⟩
  · cases h; exact ⟨Tryd.func29, by kernel_rfl⟩
  · cases h; exact ⟨Tryd.func37, by kernel_rfl⟩
  · cases h; exact ⟨Tryd.func38, by kernel_rfl⟩
  · cases h; exact ⟨Tryd.func30, by kernel_rfl⟩
  · cases h; exact ⟨Tryd.func12, by kernel_rfl⟩
  · cases h; exact ⟨Tryd.func17, by kernel_rfl⟩
  · cases h; exact ⟨Tryd.func13, by kernel_rfl⟩
  · cases h; exact ⟨Tryd.func31, by kernel_rfl⟩
  · cases h; exact ⟨Tryd.func32, by kernel_rfl⟩
  · cases h; exact ⟨Tryd.func15, by kernel_rfl⟩
  · cases h; exact ⟨Tryd.func33, by kernel_rfl⟩
  · cases h; exact ⟨Tryd.func18, by kernel_rfl⟩
  · cases h; exact ⟨Tryd.func19, by kernel_rfl⟩
  · cases h; exact ⟨Tryd.func20, by kernel_rfl⟩
def LRL8 : LRun := fun g => loopIter g 3000
noncomputable def EL8 : FEnv := envB Tryd.prog LRL8 (fun _ _ => none) baseE tabL8 14
theorem EL8_good : EnvGood Tryd.prog EL8 := envB_good mixed (iter_ok 3000) _ baseE_good tabL8_ok 14
theorem known8_true : evFn Tryd.prog EL8 LRL8 Tryd.f8 (fun _ => none) [] noHeap (fun v _ => v.asB) = some true := by kernel_rfl
theorem ok8 : FunOK Tryd.prog 8 (w8 g8) := by
  have h1 := evFn_lin (P := Tryd.prog) EL8_good.lin (lr := LRL8) (fn := Tryd.f8) (kp := fun _ => none) (args := []) (H := noHeap) (f := fun v _ => v.asB) (g := ret2) (k := fun p => p.1.asB) (fun v H => rfl)
  rw [known8_true] at h1
  obtain ⟨⟨v, H1⟩, h2, h3⟩ := Option.bind_eq_some_iff.1 h1.symm
  obtain rfl := V.asB_eq h3
  refine (knownF_ok (F := runF Tryd.prog EL8 LRL8 Tryd.f8 (fun _ => none)) (runF_ok EL8_good mixed (iter_ok 3000) Tryd.func8 (by kernel_rfl) _) (v := .b true) rfl h2).of_le fun R args H K r hk => ?_
  unfold w8 at hk
  split at hk
  · exact hk
  · cases hk
end Go.Proofs.YteipplgcdbaokaaDoor

