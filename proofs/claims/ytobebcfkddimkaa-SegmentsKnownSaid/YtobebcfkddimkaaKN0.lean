/- SegmentsKnown: joiners that New has not made. -/
import Derived.Test.YtobebcfkddimkaaKF
namespace Go.Proofs.Ytobebcfkddimkaa
open Go AM Go.RowKit Go.Sort
set_option linter.unusedVariables false
set_option linter.unusedSimpArgs false

def zj:List V:=[.i .i64 0,.m none,.sl nilS]
section
variable {H:Heap} {z:Nat}
theorem z22 (h:H.get z = some (.cells zj 64 false)) {R:Type} (K:Bool→Heap→Option R):g22 R (some (z,0)) H K = K false H:=by
  have l:H.ldI .i64 z (0 + 0) = some 0:=ldI_of h rfl
  simp only [g22,g22_r,g22_p0,Option.isNone_some,Bool.not_false,sel_true,Option.bind_some,l]
  rfl
theorem u13 {x:Option (Nat × Nat)} (h22:∀ (R:Type) (K:Bool→Heap→Option R),g22 R x H K = K false H) (a b:Int) (f:Bool) (l:Int) (s:Sl) {R:Type} (K:Sl→Bool→Int→Heap→Option R):g13 R x a b f l s H K = K nilS false 2 H:=by
  have dd:g13 R x a b f l s H K = g13_p0 R x a b f l s H (fun t0 t11 t500005_0 t500005_1 t500005_2 t500005_3 t500010_0 t500010_1 H=>g13_p3 R t0 t11 t500005_0 t500005_1 t500005_2 t500005_3 t500010_0 t500010_1 H K) K:=rfl
  rw [dd]
  unfold g13_p0
  rw [h22,Bool.not_false,sel_true]
  rfl
theorem u14 {x:Option (Nat × Nat)} (h22:∀ (R:Type) (K:Bool→Heap→Option R),g22 R x H K = K false H) {R:Type} (K:Int→Heap→Option R):g14 R x H K = K 0 H:=by
  simp only [g14,g14_r,g14_p0]
  rw [h22,Bool.not_false,sel_true]
theorem z11 (h:H.get z = some (.cells zj 64 false)) {R:Type} (K:Sl→Heap→Option R):g11 R (some (z,0)) H K = K nilS H:=by
  unfold g11
  simp only
  rw [show H.ldI .i64 z 0 = some 0 from ldI_of h rfl,Option.bind_some,if_neg (by decide)]
theorem u10 {w e:Int} (h:w < 1∧e = 1 ∨ w > 1048576∧e = 3) {R:Type} (K:Option (Nat × Nat)→Int→Heap→Option R):g10 R w H K = K none e H:=by
  simp only [g10,g10_r,g10_p0]
  rcases h with ⟨h,rfl⟩ | ⟨h,rfl⟩
  · rw [decide_eq_true h,sel_true]
  · rw [decide_eq_false (by omega),sel_false,decide_eq_true h,sel_true]
/-- the beginning of SegmentsKnown -/
theorem k0_ok {R:Type} (kN:Bool→Heap→Option R):g6_p0 R H kN = kN false (H.new (.cells zj 64 false)):=by
  unfold g6_p0
  simp only [alo]
  have g:=Heap.gnew H (.cells zj 64 false)
  rw [show [(V.i .i64 (0:Int)),(V.m none),(V.sl (Sl.mk none 0 (.ex 0)))] = zj from rfl]
  generalize H.new (.cells zj 64 false) = G at *
  rw [u13 (fun R K=>s22n K),u13 (fun R K=>z22 g K),u10 (.inl ⟨by decide,rfl⟩),u10 (.inr ⟨by decide,rfl⟩)]
  simp only [bne_self_eq_false,sel_false]
  rw [show g11 R none G = fun K=>K nilS G from rfl]
  simp only
  rw [z11 g,u14 (fun R K=>s22n K),u14 (fun R K=>z22 g K)]
  rfl
end
end Go.Proofs.Ytobebcfkddimkaa

