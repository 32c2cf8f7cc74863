/- Closed functions of the program: the kernel runs them. -/
import Derived.Test.YtobebcfkddimkaaGC
namespace Go.Proofs.Ytobebcfkddimkaa
open Go AM Go.RowKit
noncomputable def g9:T9:=fun R H K=>K true H
theorem g9_lin:Lin9 g9:=⟨fun h=>h _ _⟩
noncomputable def tabL9:List (FuncId × Func):=[(10,Try.f10),(22,Try.f22),(23,Try.f23),(24,Try.f24),(37,Try.f37),(47,Try.f47),(38,Try.f38),(45,Try.f45),(46,Try.f46),(34,Try.f34),(48,Try.f48),(49,Try.f49),(39,Try.f39),(52,Try.f52),(51,Try.f51),(50,Try.f50),(40,Try.f40),(41,Try.f41),(42,Try.f42),(43,Try.f43),(44,Try.f44),(33,Try.f33),(25,Try.f25),(27,Try.f27),(35,Try.f35),(28,Try.f28),(36,Try.f36),(29,Try.f29),(26,Try.f26),(11,Try.f11),(30,Try.f30),(31,Try.f31),(13,Try.f13),(32,Try.f32),(18,Try.f18),(19,Try.f19)]
theorem tabL9_ok:∀ g fn,(g,fn) ∈ tabL9→Try.prog.funcs[g]? = some fn∧enters Try.prog g = true:=by
  intro g fn h
  simp only [tabL9,List.mem_cons,List.not_mem_nil,or_false] at h
  rcases h with h | h | h | h | h | h | h | h | h | h | h | h | h | h | h | h | h | h | h | h | h | h | h | h | h | h | h | h | h | h | h | h | h | h | h | h
  · cases h; exact ⟨Try.func10,by kernel_rfl⟩
  · cases h; exact ⟨Try.func22,by kernel_rfl⟩
  · cases h; exact ⟨Try.func23,by kernel_rfl⟩
  · cases h; exact ⟨Try.func24,by kernel_rfl⟩
  · cases h; exact ⟨Try.func37,by kernel_rfl⟩
  · cases h; exact ⟨Try.func47,by kernel_rfl⟩
  · cases h; exact ⟨Try.func38,by kernel_rfl⟩
  · cases h; exact ⟨Try.func45,by kernel_rfl⟩
  · cases h; exact ⟨Try.func46,by kernel_rfl⟩
  · cases h; exact ⟨Try.func34,by kernel_rfl⟩
  · cases h; exact ⟨Try.func48,by kernel_rfl⟩
  · cases h; exact ⟨Try.func49,by kernel_rfl⟩
  · cases h; exact ⟨Try.func39,by kernel_rfl⟩
  · cases h; exact ⟨Try.func52,by kernel_rfl⟩
  · cases h; exact ⟨Try.func51,by kernel_rfl⟩
  · cases h; exact ⟨Try.func50,by kernel_rfl⟩
  · cases h; exact ⟨Try.func40,by kernel_rfl⟩
  · cases h; exact ⟨Try.func41,by kernel_rfl⟩
  · cases h; exact ⟨Try.func42,by kernel_rfl⟩
  · cases h; exact ⟨Try.func43,by kernel_rfl⟩
  · cases h; exact ⟨Try.func44,by kernel_rfl⟩
  · cases h; exact ⟨Try.func33,by kernel_rfl⟩
  · cases h; exact ⟨Try.func25,by kernel_rfl⟩
  · cases h; exact ⟨Try.func27,by kernel_rfl⟩
  · cases h; exact ⟨Try.func35,by kernel_rfl⟩
  · cases h; exact ⟨Try.func28,by kernel_rfl⟩
  · cases h; exact ⟨Try.func36,by kernel_rfl⟩
  · cases h; exact ⟨Try.func29,by kernel_rfl⟩
  · cases h; exact ⟨Try.func26,by kernel_rfl⟩
  · cases h; exact ⟨Try.func11,by kernel_rfl⟩
  · cases h; exact ⟨Try.func30,by kernel_rfl⟩
  · cases h; exact ⟨Try.func31,by kernel_rfl⟩
  · cases h; exact ⟨Try.func13,by kernel_rfl⟩
  · cases h; exact ⟨Try.func32,by kernel_rfl⟩
  · cases h; exact ⟨Try.func18,by kernel_rfl⟩
  · cases h; exact ⟨Try.func19,by kernel_rfl⟩
def LRL9:LRun:=fun g=>loopIter g 3000
noncomputable def EL9:FEnv:=envB Try.prog LRL9 (fun _ _=>none) baseE tabL9 14
theorem EL9_good:EnvGood Try.prog EL9:=envB_good mixed (iter_ok 3000) _ baseE_good tabL9_ok 14
theorem known9_true:evFn Try.prog EL9 LRL9 Try.f9 (fun _=>none) [] noHeap (fun v _=>v.asB) = some true:=by kernel_rfl
theorem ok9:FunOK Try.prog 9 (w9 g9):=by
  have h1:=evFn_lin (P:=Try.prog) EL9_good.lin (lr:=LRL9) (fn:=Try.f9) (kp:=fun _=>none) (args:=[]) (H:=noHeap) (f:=fun v _=>v.asB) (g:=ret2) (k:=fun p=>p.1.asB) (fun v H=>rfl)
  rw [known9_true] at h1
  obtain ⟨⟨v,H1⟩,h2,h3⟩:=Option.bind_eq_some_iff.1 h1.symm
  obtain rfl:=V.asB_eq h3
  refine (knownF_ok (F:=runF Try.prog EL9 LRL9 Try.f9 (fun _=>none)) (runF_ok EL9_good mixed (iter_ok 3000) Try.func9 (by kernel_rfl) _) (v:=.b true) rfl h2).of_le fun R args H K r hk=>?_
  unfold w9 at hk
  split at hk
  · exact hk
  · cases hk
end Go.Proofs.Ytobebcfkddimkaa

