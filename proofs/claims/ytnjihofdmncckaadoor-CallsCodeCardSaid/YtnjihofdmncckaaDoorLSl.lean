/- Functions of package slices over bytes. -/
import Derived.Test.YtnjihofdmncckaaDoorGJ
import Derived.Test.YtnjihofdmncckaaDoorAmC
namespace Go.Proofs.YtnjihofdmncckaaDoor
open Go AM Go.RowKit
set_option linter.unusedVariables false
set_option linter.unusedSimpArgs false

theorem clip_ok {R : Type} {s : Sl} (hc : CapOk s) (H : Heap) (K : Sl → Heap → Option R) : g20 R s H K = K ⟨s.a, s.len, .ex s.len⟩ H := by
  simp only [g20, g20_r, g20_p0, slOf_clip hc]
theorem AM.BS.clipped {H : Heap} {s : Sl} {l : List Int} (h : BS H s l) : BS H ⟨s.a, s.len, .ex s.len⟩ l := ⟨h.len, h.is⟩
end Go.Proofs.YtnjihofdmncckaaDoor

