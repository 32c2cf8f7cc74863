/- strings.Builder. -/
import Derived.Test.YtgdkkpjmjnknoaaDoorLSl
import Derived.Test.YtgdkkpjmjnknoaaDoorAmC
import Derived.Test.YtgdkkpjmjnknoaaDoorGC
import Derived.Test.YtgdkkpjmjnknoaaDoorLByt
namespace Go.Proofs.YtgdkkpjmjnknoaaDoor
open Go AM Go.RowKit
set_option linter.unusedVariables false
set_option linter.unusedSimpArgs false

theorem bsU_append (a b : List UInt8) : bsU a ++ bsU b = bsU (a ++ b) := by
  apply ByteArray.ext
  rw [ByteArray.data_append]
  simp [bsU]
@[simp] theorem bsU_size (a : List UInt8) : (bsU a).size = a.length := by simp [bsU, ByteArray.size]
theorem bsU_inj {a b : List UInt8} (h : bsU a = bsU b) : a = b := by
  have := congrArg (fun x => x.data.toList) h
  simpa [bsU] using this
theorem bsU_of (s : ByteArray) : s = bsU s.data.toList := by cases s; simp [bsU]
theorem catS_ok {R : Type} {x y : ByteArray} (h : x.size + y.size ≤ 9223372036854775807) (K : ByteArray → Option R) : catS x y K = K (x ++ y) := by
  unfold catS; rw [if_pos h]
theorem catU {R : Type} {x y : List UInt8} (h : x.length + y.length ≤ 9223372036854775807) (K : ByteArray → Option R) : catS (bsU x) (bsU y) K = K (bsU (x ++ y)) := by
  rw [catS_ok (by simpa using h), bsU_append]
theorem cells_bsU (l : List Int) (h : Byt l) : cellsOfBytes (bsU (u8s l)) = bcs l := by
  simp only [cellsOfBytes, bsU, u8s, bcs, List.map_map]
  apply List.map_congr_left
  intro n hn
  have := h n hn
  simp only [Function.comp]
  congr 1
  simp only [UInt8.toNat_ofNat']
  omega
/-- a Builder that the call itself has made holds these bytes -/
structure BOk (H0 H : Heap) (b : Nat) (l : List Int) : Prop where
  obj : ∃ a x, H.get b = some (.cells [.p a, .sl x] 82 false) ∧ (a = none ∨ a = some (b, 0)) ∧ Own H 5 1 x (bcs l) ∧ (∀ off, x.a ≠ some (b, off)) ∧ x.above H0.next
  new : H0.next ≤ b
  ext : Ext H0 H
  wf : H.Wf
theorem BOk.make {H0 H : Heap} (hw : H.Wf) (hx : Ext H0 H) : BOk H0 (H.new (.cells [.p none, .sl ⟨none, 0, .ex 0⟩] 82 false)) H.next [] :=
  ⟨⟨none, _, Heap.gnew _ _, .inl rfl, .nil, fun _ h => (by cases h), fun _ _ h => (by cases h)⟩, hx.next, hx.trans (Ext.new _ _), hw.new _⟩
/-- what the check of a copy leaves -/
theorem BOk.check {H0 H : Heap} {b : Nat} {l : List Int} (h : BOk H0 H b l) : ∃ H' x, (∀ (R : Type) (K : Heap → Option R), g50 R (some (b, 0)) H K = K H') ∧ H'.get b = some (.cells [.p (some (b, 0)), .sl x] 82 false) ∧ Own H' 5 1 x (bcs l) ∧ (∀ off, x.a ≠ some (b, off)) ∧ x.above H0.next ∧ Ext H0 H' ∧ H'.Wf := by
  obtain ⟨a, x, hg, ha, ho, hb, hab⟩ := h.obj
  rcases ha with rfl | rfl
  · refine ⟨H.put b (.cells [.p (some (b, 0)), .sl x] 82 false), x, fun R K => ?_, Heap.gput _ _ _, ho.mono fun id o hid hgo => ?_, hb, hab, h.ext.above h.new _, h.wf.put hg _⟩
    · simp only [g50, copyCk, hg, if_true]
    · rw [Heap.get_put, if_neg (by rintro rfl; exact hb 0 hid)]; exact hgo
  · refine ⟨H, x, fun R K => ?_, hg, ho, hb, hab, h.ext, h.wf⟩
    simp only [g50, copyCk, hg, and_self, if_true]
theorem BOk.grow {H0 G : Heap} {b : Nat} {x : Sl} {l : List Int} (hg : G.get b = some (.cells [.p (some (b, 0)), .sl x] 82 false)) (ho : Own G 5 1 x (bcs l)) (hb : ∀ off, x.a ≠ some (b, off)) (hab : x.above H0.next) (hx : Ext H0 G) (hw : G.Wf) (hn : H0.next ≤ b)
    (m : List Int) (hm : l.length + m.length ≤ 140737488355328) : ∃ s' G' G'', (∀ (R : Type) (K : Sl → Heap → Option R), appendV G 5 1 1 x m.length (bcs m) K = K s' G') ∧ G'.st b (0 + 1) (.sl s') = some G'' ∧ BOk H0 G'' b (l ++ m) := by
  have hlx : x.len = l.length := by have := ho.len; simpa using this.symm
  by_cases h0 : m = []
  · subst h0
    refine ⟨x, G, G.put b (.cells [.p (some (b, 0)), .sl x] 82 false), fun R K => by simp only [List.length_nil, appendV_zero], st_of hg (by simp) rfl, ?_⟩
    rw [List.append_nil]
    exact ⟨⟨_, x, Heap.gput _ _ _, .inr rfl, ho.mono fun id o hid hgo => by rw [Heap.get_put, if_neg (by rintro rfl; exact hb 0 hid)]; exact hgo, hb, hab⟩, hn, hx.above hn _, hw.put hg _⟩
  · have hm0 : 0 < m.length := List.length_pos_iff.2 h0
    have hblt := hw _ _ hg
    obtain ⟨r, G', e1, o1, l1, a1, w1, n1, f1⟩ := own_append (bytes := 1) hw ho (n := m.length) (new := bcs m) hm0 (by omega) (by simp) (bcs_ones _) (by omega) (by omega)
    have hgb : G'.get b = some (.cells [.p (some (b, 0)), .sl x] 82 false) := by rw [f1 b (by omega) (hb 0)]; exact hg
    have hxn := hx.next
    have hx' : Ext H0 G' := ⟨by omega, fun i hi hs => by
      rw [f1 i (by omega) (fun e => by have := hab _ _ e; omega)]; exact hx.same i hi hs⟩
    refine ⟨r, G', G'.put b (.cells [.p (some (b, 0)), .sl r] 82 false), e1, st_of hgb (by simp) rfl, ⟨_, r, Heap.gput _ _ _, .inr rfl, ?_, fun off e => ?_, fun id off e => ?_⟩, hn, hx'.above hn _, w1.put hgb _⟩
    · rw [bcs_append]
      refine o1.mono fun id o hid hgo => ?_
      rw [Heap.get_put, if_neg (by rintro rfl; rw [a1] at hid; cases hid; omega)]; exact hgo
    · rw [a1] at e; cases e; omega
    · rw [a1] at e; cases e; omega
theorem writeString_ok {H0 H : Heap} {b : Nat} {l m : List Int} (h : BOk H0 H b l) (hb : Byt m) (hm : l.length + m.length ≤ 140737488355328) : ∃ H', (∀ (R : Type) (K : Int → V → Heap → Option R), g40 R (some (b, 0)) (bsU (u8s m)) H K = K (m.length : Int) .nilI H') ∧ BOk H0 H' b (l ++ m) := by
  obtain ⟨H1, x, e1, g1, o1, hb1, hab, x1, w1⟩ := h.check
  obtain ⟨s', G', G'', e3, t3, k3⟩ := BOk.grow (H0 := H0) g1 o1 hb1 hab x1 w1 h.new m hm
  have l1 : H1.ldSl b (0 + 1) = some x := ldSl_of g1 rfl
  have hz : (bsU (u8s m)).size = m.length := by simp [u8s]
  refine ⟨G'', fun R K => ?_, k3⟩
  have t3' : G'.st b (0 + 1) (.sl s') = some G'' := t3
  simp only [g40, g40_r, g40_p0, e1, Option.bind_some, l1, cells_bsU m hb, hz, e3, t3']
theorem bString_ok {H0 H : Heap} {b : Nat} {l : List Int} (h : BOk H0 H b l) (hl : l ≠ []) (hm : l.length ≤ 140737488355328) : ∃ H', (∀ (R : Type) (K : ByteArray → Heap → Option R), g41 R (some (b, 0)) H K = K (bsU (u8s l)) H') ∧ Ext H0 H' ∧ H'.Wf := by
  obtain ⟨a, x, hg, ha, ho, hb, hab⟩ := h.obj
  have l1 : H.ldSl b (0 + 1) = some x := ldSl_of hg rfl
  rcases ho.inv with ⟨rfl, e⟩ | ⟨id, n, rfl, hgo, hlen⟩
  · exact absurd (show l = [] by simpa [bcs] using e) hl
  · have hn : n = l.length := by simpa using hlen.symm
    subst hn
    have hn0 : l.length ≠ 0 := by simpa using hl
    refine ⟨H.drop id, fun R K => ?_, ⟨h.ext.next, fun i hi hs => ?_⟩, h.wf.drop id⟩
    · have hc : Tryd.prog.cellsOf 5 = 1 := by kernel_rfl
      have hu : ∀ K : ByteArray → Heap → Option R, unsafeStr Tryd.prog H 93 (some (id, 0)) ((l.length : Nat) : Int) K = K (bsU (u8s l)) (H.drop id) := fun K => by
        have hp : Tryd.prog.underlying 93 = some (.pointer 5) := by kernel_rfl
        unfold unsafeStr
        rw [if_neg (by omega)]
        simp only [hp]
        have : unsafeBytes Tryd.prog H 5 id 0 ((l.length : Nat) : Int).toNat = some (bsU (u8s l)) := by
          unfold unsafeBytes
          rw [hgo]
          simp only [hc, true_and, Int.toNat_natCast]
          rw [if_pos (by simp), List.drop_zero, List.take_of_length_le (by simp), bytesOf_bcs]
          rfl
        rw [this]
        simp only [Option.bind_some]
        rw [if_pos ⟨by omega, by omega⟩]
      simp only [g41, g41_r, g41_p0, Option.bind_some, l1, sliceData, if_neg hn0, same_sl, same_i, if_true, hu]
    · rw [Heap.get_drop, if_neg (by have := hab id 0 rfl; omega)]; exact h.ext.same i hi hs
end Go.Proofs.YtgdkkpjmjnknoaaDoor

