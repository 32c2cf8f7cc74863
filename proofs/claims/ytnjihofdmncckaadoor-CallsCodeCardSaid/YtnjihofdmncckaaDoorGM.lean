/- Closed functions of the program: the kernel runs them. -/
import Derived.Test.YtnjihofdmncckaaDoorGC
namespace Go.Proofs.YtnjihofdmncckaaDoor
open Go AM Go.RowKit
noncomputable def g5 : T5 := fun R H K => K true H
theorem g5_lin : Lin5 g5 := ⟨fun h => h _ _⟩
noncomputable def tabL5 : List (FuncId × Func) := [(66, Tryd.f66), (67, Tryd.f67), (68, Tryd.f68), (87, Tryd.f87), (69, Tryd.f69), (70, Tryd.f70), (97, Tryd.f97), (88, Tryd.f88), (105, Tryd.f105), (101, Tryd.f101), (102, Tryd.f102), (103, Tryd.f103), (98, Tryd.f98), (89, Tryd.f89), (71, Tryd.f71), (99, Tryd.f99), (90, Tryd.f90), (72, Tryd.f72), (56, Tryd.f56), (42, Tryd.f42), (25, Tryd.f25), (19, Tryd.f19), (20, Tryd.f20), (6, Tryd.f6), (23, Tryd.f23), (9, Tryd.f9), (24, Tryd.f24), (29, Tryd.f29), (73, Tryd.f73), (74, Tryd.f74), (57, Tryd.f57), (43, Tryd.f43), (44, Tryd.f44), (58, Tryd.f58), (45, Tryd.f45), (26, Tryd.f26), (27, Tryd.f27), (10, Tryd.f10), (28, Tryd.f28), (11, Tryd.f11), (46, Tryd.f46), (47, Tryd.f47), (30, Tryd.f30), (41, Tryd.f41), (37, Tryd.f37), (59, Tryd.f59), (48, Tryd.f48), (60, Tryd.f60), (49, Tryd.f49), (52, Tryd.f52), (50, Tryd.f50), (61, Tryd.f61), (51, Tryd.f51), (31, Tryd.f31), (32, Tryd.f32), (33, Tryd.f33), (75, Tryd.f75), (62, Tryd.f62), (53, Tryd.f53), (34, Tryd.f34), (35, Tryd.f35), (13, Tryd.f13), (14, Tryd.f14), (65, Tryd.f65), (55, Tryd.f55), (39, Tryd.f39), (40, Tryd.f40), (18, Tryd.f18)]
theorem tabL5_ok : ∀ g fn, (g, fn) ∈ tabL5 → Tryd.prog.funcs[g]? = some fn ∧ enters Tryd.prog g = true := by
  intro g fn h
  simp only [tabL5, List.mem_cons, List.not_mem_nil, or_false] at h
  rcases h with h | h | h | h | h | h | h | h | h | h | h | h | h | h | h | h | h | h | h | h | h | h | h | h | h | h | h | h | h | h | h | h | h | h | h | h | h | h | h | h | h | h | h | h | h | h | h | h | h | h | h | h | h | h | h | h | h | h | h | h | h | h | h | h | h | h | h | h
  · cases h; exact ⟨Tryd.func66, by kernel_rfl⟩
  · cases h; exact ⟨Tryd.func67, by kernel_rfl⟩
  · cases h; exact ⟨Tryd.func68, by kernel_rfl⟩
  · cases h; exact ⟨Tryd.func87, by kernel_rfl⟩
  · cases h; exact ⟨Tryd.func69, by kernel_rfl⟩
  · cases h; exact ⟨Tryd.func70, by kernel_rfl⟩
  · cases h; exact ⟨Tryd.func97, by kernel_rfl⟩
  · cases h; exact ⟨Tryd.func88, by kernel_rfl⟩
  · cases h; exact ⟨Tryd.func105, by kernel_rfl⟩
  · cases h; exact ⟨Tryd.func101, by kernel_rfl⟩
  · cases h; exact ⟨Tryd.func102, by kernel_rfl⟩
  · cases h; exact ⟨Tryd.func103, by kernel_rfl⟩
  · cases h; exact ⟨Tryd.func98, by kernel_rfl⟩
  · cases h; exact ⟨Tryd.func89, by kernel_rfl⟩
  · cases h; exact ⟨Tryd.func71, by kernel_rfl⟩
  · cases h; exact ⟨Tryd.func99, by kernel_rfl⟩
  · cases h; exact ⟨Tryd.func90, by kernel_rfl⟩
  · cases h; exact ⟨Tryd.func72, by kernel_rfl⟩
  · cases h; exact ⟨Tryd.func56, by kernel_rfl⟩
  · cases h; exact ⟨Tryd.func42, by kernel_rfl⟩
  · cases h; exact ⟨Tryd.func25, by kernel_rfl⟩
  · cases h; exact ⟨Tryd.func19, by kernel_rfl⟩
  · cases h; exact ⟨Tryd.func20, by kernel_rfl⟩
  · cases h; exact ⟨Tryd.func6, by kernel_rfl⟩
  · cases h; exact ⟨Tryd.func23, by kernel_rfl⟩
  · cases h; exact ⟨Tryd.func9, by kernel_rfl⟩
  · cases h; exact ⟨Tryd.func24, by kernel_rfl⟩
  · cases h; exact ⟨Tryd.func29, by kernel_rfl⟩
  · cases h; exact ⟨Tryd.func73, by kernel_rfl⟩
  · cases h; exact ⟨Tryd.func74, by kernel_rfl⟩
  · cases h; exact ⟨Tryd.func57, by kernel_rfl⟩
  · cases h; exact ⟨Tryd.func43, by kernel_rfl⟩
  · cases h; exact ⟨Tryd.func44, by kernel_rfl⟩
  · cases h; exact ⟨Tryd.func58, by kernel_rfl⟩
  · cases h; exact ⟨Tryd.func45, by kernel_rfl⟩
  · cases h; exact ⟨Tryd.func26, by kernel_rfl⟩
  · cases h; exact ⟨Tryd.func27, by kernel_rfl⟩
  · cases h; exact ⟨Tryd.func10, by kernel_rfl⟩
  · cases h; exact ⟨Tryd.func28, by kernel_rfl⟩
  · cases h; exact ⟨Tryd.func11, by kernel_rfl⟩
  · cases h; exact ⟨Tryd.func46, by kernel_rfl⟩
  · cases h; exact ⟨Tryd.func47, by kernel_rfl⟩
  · cases h; exact ⟨Tryd.func30, by kernel_rfl⟩
  · cases h; exact ⟨Tryd.func41, by kernel_rfl⟩
  · cases h; exact ⟨Tryd.func37, by kernel_rfl⟩
  · cases h; exact ⟨Tryd.func59, by kernel_rfl⟩
  · cases h; exact ⟨Tryd.func48, by kernel_rfl⟩
  · cases h; exact ⟨Tryd.func60, by kernel_rfl⟩
  · cases h; exact ⟨Tryd.func49, by kernel_rfl⟩
  · cases h; exact ⟨Tryd.func52, by kernel_rfl⟩
  · cases h; exact ⟨Tryd.func50, by kernel_rfl⟩
  · cases h; exact ⟨Tryd.func61, by kernel_rfl⟩
  · cases h; exact ⟨Tryd.func51, by kernel_rfl⟩
  · cases h; exact ⟨Tryd.func31, by kernel_rfl⟩
  · cases h; exact ⟨Tryd.func32, by kernel_rfl⟩
  · cases h; exact ⟨Tryd.func33, by kernel_rfl⟩
  · cases h; exact ⟨Tryd.func75, by kernel_rfl⟩
  · cases h; exact ⟨Tryd.func62, by kernel_rfl⟩
  · cases h; exact ⟨Tryd.func53, by kernel_rfl⟩
  · cases h; exact ⟨Tryd.func34, by kernel_rfl⟩
  · cases h; exact ⟨Tryd.func35, by kernel_rfl⟩
  · cases h; exact ⟨Tryd.func13, by kernel_rfl⟩
  · cases h; exact ⟨Tryd.func14, by kernel_rfl⟩
  · cases h; exact ⟨Tryd.func65, by kernel_rfl⟩
  · cases h; exact ⟨Tryd.func55, by kernel_rfl⟩
  · cases h; exact ⟨Tryd.func39, by kernel_rfl⟩
  · cases h; exact ⟨Tryd.func40, by kernel_rfl⟩
  · cases h; exact ⟨Tryd.func18, by kernel_rfl⟩
def LRL5 : LRun := fun g => loopIter g 3000
noncomputable def EL5 : FEnv := envB Tryd.prog LRL5 (fun _ _ => none) baseE tabL5 14
theorem EL5_good : EnvGood Tryd.prog EL5 := envB_good mixed (iter_ok 3000) _ baseE_good tabL5_ok 14
theorem known5_true : evFn Tryd.prog EL5 LRL5 Tryd.f5 (fun _ => none) [] noHeap (fun v _ => v.asB) = some true := by kernel_rfl
theorem ok5 : FunOK Tryd.prog 5 (w5 g5) := by
  have h1 := evFn_lin (P := Tryd.prog) EL5_good.lin (lr := LRL5) (fn := Tryd.f5) (kp := fun _ => none) (args := []) (H := noHeap) (f := fun v _ => v.asB) (g := ret2) (k := fun p => p.1.asB) (fun v H => rfl)
  rw [known5_true] at h1
  obtain ⟨⟨v, H1⟩, h2, h3⟩ := Option.bind_eq_some_iff.1 h1.symm
  obtain rfl := V.asB_eq h3
  refine (knownF_ok (F := runF Tryd.prog EL5 LRL5 Tryd.f5 (fun _ => none)) (runF_ok EL5_good mixed (iter_ok 3000) Tryd.func5 (by kernel_rfl) _) (v := .b true) rfl h2).of_le fun R args H K r hk => ?_
  unfold w5 at hk
  split at hk
  · exact hk
  · cases hk
end Go.Proofs.YtnjihofdmncckaaDoor

