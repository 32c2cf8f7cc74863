/- Closed functions of the program: the kernel runs them. -/
import Derived.Test.YtgdkkpjmjnknoaaDoorGC
namespace Go.Proofs.YtgdkkpjmjnknoaaDoor
open Go AM Go.RowKit
noncomputable def g12 : T12 := fun R H K => K true H
theorem g12_lin : Lin12 g12 := ⟨fun h => h _ _⟩
noncomputable def tabL12 : List (FuncId × Func) := [(56, Tryd.f56), (67, Tryd.f67), (68, Tryd.f68), (69, Tryd.f69), (57, Tryd.f57), (58, Tryd.f58), (70, Tryd.f70), (74, Tryd.f74), (75, Tryd.f75), (71, Tryd.f71), (59, Tryd.f59), (49, Tryd.f49), (38, Tryd.f38), (51, Tryd.f51), (39, Tryd.f39), (40, Tryd.f40), (41, Tryd.f41), (30, Tryd.f30), (11, Tryd.f11), (52, Tryd.f52), (62, Tryd.f62), (53, Tryd.f53), (42, Tryd.f42), (63, Tryd.f63), (65, Tryd.f65), (73, Tryd.f73), (66, Tryd.f66), (55, Tryd.f55), (44, Tryd.f44), (43, Tryd.f43), (32, Tryd.f32), (31, Tryd.f31), (13, Tryd.f13), (18, Tryd.f18), (17, Tryd.f17), (19, Tryd.f19)]
theorem tabL12_ok : ∀ g fn, (g, fn) ∈ tabL12 → Tryd.prog.funcs[g]? = some fn ∧ enters Tryd.prog g = true := by
  intro g fn h
  simp only [tabL12, List.mem_cons, List.not_mem_nil, or_false] at h
  rcases h with h | h | h | h | h | h | h | h | h | h | h | h | h | h | h | h | h | h | h | h | h | h | h | h | h | h | h | h | h | h | h | h | h | h | h | h
  · cases h; exact ⟨Tryd.func56, by kernel_rfl⟩
  · cases h; exact ⟨Tryd.func67, by kernel_rfl⟩
  · cases h; exact ⟨Tryd.func68, by kernel_rfl⟩
  · cases h; exact ⟨Tryd.func69, by kernel_rfl⟩
  · cases h; exact ⟨Tryd.func57, by kernel_rfl⟩
  · cases h; exact ⟨Tryd.func58, by kernel_rfl⟩
  · cases h; exact ⟨Tryd.func70, by kernel_rfl⟩
  · cases h; exact ⟨Tryd.func74, by kernel_rfl⟩
  · cases h; exact ⟨Tryd.func75, by kernel_rfl⟩
  · cases h; exact ⟨Tryd.func71, by kernel_rfl⟩
  · cases h; exact ⟨Tryd.func59, by kernel_rfl⟩
  · cases h; exact ⟨Tryd.func49, by kernel_rfl⟩
  · cases h; exact ⟨Tryd.func38, by kernel_rfl⟩
  · cases h; exact ⟨Tryd.func51, by kernel_rfl⟩
  · cases h; exact ⟨Tryd.func39, by kernel_rfl⟩
  · cases h; exact ⟨Tryd.func40, by kernel_rfl⟩
  · cases h; exact ⟨Tryd.func41, by kernel_rfl⟩
  · cases h; exact ⟨Tryd.func30, by kernel_rfl⟩
  · cases h; exact ⟨Tryd.func11, by kernel_rfl⟩
  · cases h; exact ⟨Tryd.func52, by kernel_rfl⟩
  · cases h; exact ⟨Tryd.func62, by kernel_rfl⟩
  · cases h; exact ⟨Tryd.func53, by kernel_rfl⟩
  · cases h; exact ⟨Tryd.func42, by kernel_rfl⟩
  · cases h; exact ⟨Tryd.func63, by kernel_rfl⟩
  · cases h; exact ⟨Tryd.func65, by kernel_rfl⟩
  · cases h; exact ⟨Tryd.func73, by kernel_rfl⟩
  · cases h; exact ⟨Tryd.func66, by kernel_rfl⟩
  · cases h; exact ⟨Tryd.func55, by kernel_rfl⟩
  · cases h; exact ⟨Tryd.func44, by kernel_rfl⟩
  · cases h; exact ⟨Tryd.func43, by kernel_rfl⟩
  · cases h; exact ⟨Tryd.func32, by kernel_rfl⟩
  · cases h; exact ⟨Tryd.func31, by kernel_rfl⟩
  · cases h; exact ⟨Tryd.func13, by kernel_rfl⟩
  · cases h; exact ⟨Tryd.func18, by kernel_rfl⟩
  · cases h; exact ⟨Tryd.func17, by kernel_rfl⟩
  · cases h; exact ⟨Tryd.func19, by kernel_rfl⟩
def LRL12 : LRun := fun g => loopIter g 3000
noncomputable def EL12 : FEnv := envB Tryd.prog LRL12 (fun _ _ => none) baseE tabL12 14
theorem EL12_good : EnvGood Tryd.prog EL12 := envB_good mixed (iter_ok 3000) _ baseE_good tabL12_ok 14
theorem known12_true : evFn Tryd.prog EL12 LRL12 Tryd.f12 (fun _ => none) [] noHeap (fun v _ => v.asB) = some true := by kernel_rfl
theorem ok12 : FunOK Tryd.prog 12 (w12 g12) := by
  have h1 := evFn_lin (P := Tryd.prog) EL12_good.lin (lr := LRL12) (fn := Tryd.f12) (kp := fun _ => none) (args := []) (H := noHeap) (f := fun v _ => v.asB) (g := ret2) (k := fun p => p.1.asB) (fun v H => rfl)
  rw [known12_true] at h1
  obtain ⟨⟨v, H1⟩, h2, h3⟩ := Option.bind_eq_some_iff.1 h1.symm
  obtain rfl := V.asB_eq h3
  refine (knownF_ok (F := runF Tryd.prog EL12 LRL12 Tryd.f12 (fun _ => none)) (runF_ok EL12_good mixed (iter_ok 3000) Tryd.func12 (by kernel_rfl) _) (v := .b true) rfl h2).of_le fun R args H K r hk => ?_
  unfold w12 at hk
  split at hk
  · exact hk
  · cases hk
end Go.Proofs.YtgdkkpjmjnknoaaDoor

