/- Ranges over maps. -/
import Derived.Test.YtobebcfkddimkaaAmC
import Derived.Maps.RangeRun
namespace Go.Proofs.Ytobebcfkddimkaa.AM
open Go Go.RowKit
set_option linter.unusedVariables false

section
variable {P : Program} {N : Nat} {w0 : Ref} {n : Nat} {E : FEnv}
theorem DO.range {o : Oper} {fr : Fr} {H : Heap} {Ψ : V → Heap → Prop} {t kt vt : TypeId} {x : Operand} {id : Nat} {es : List (V × V × Nat)} {clock : Nat} (ho : o.op = .range t x) (hv : evalO fr x = some (.m (some id))) (ht : P.underlying t = some (.map kt vt))
    (hg : H.get id = some (.map es clock)) (hq : Ψ (.p (some (H.next, 0))) (H.new (.miter (some id) clock [] clock))) : DO P N w0 n o fr H Ψ := by
  intro ρ a w hs
  obtain ⟨dst, op, ty, pos, after, guard⟩ := o
  simp only at ho
  subst ho
  have hr := SR.eval hs.fr x _ hv
  generalize hx : a.eval x = cx at hr
  cases hr with
  | m id b hb =>
    obtain ⟨hN, l, h1, h2, h3⟩ := hs.hr.base hg hb
    have hb' : (fun i => if i = H.next then some (⟨w.heap.size, 0, 0⟩ : Base) else ρ i) id = some b := by
      have := hs.hr.name_lt hb
      show (if id = H.next then _ else ρ id) = some b
      rw [if_neg (by omega)]; exact hb
    obtain ⟨g1, g2⟩ := hs.hr.alloc (.mapIter (some b.blk) clock #[] clock) (.miter (some id) clock [] clock) ⟨w.heap.size, 0, 0⟩ rfl ⟨hs.hr.nle, rfl, some b.blk, ⟨b, hb', rfl⟩, heap_alloc_new w _⟩ rfl
    refine does_val (c := .pointer (some ⟨w.heap.size, 0, none⟩)) (w' := w.alloc (.mapIter (some b.blk) clock #[] clock)) ?_ ⟨_, _, _, g2, ?_, g1, hq⟩
    · rw [hx]
      simp [Instr.range, run_underlying ht, run_getObj_map h1]
    · have : (fun i => if i = H.next then some (⟨w.heap.size, 0, 0⟩ : Base) else ρ i) H.next = some ⟨w.heap.size, 0, 0⟩ := by simp
      exact Rel.p (ρ := fun i => if i = H.next then some (⟨w.heap.size, 0, 0⟩ : Base) else ρ i) H.next 0 ⟨w.heap.size, 0, 0⟩ this
/-- the entries of a map in the world -/
theorem ORel.entries {ρ : Env} {w : World} {b : Base} {es : List (V × V × Nat)} {clock : Nat} (h : ORel N ρ w b (.map es clock)) : ∃ l : List MapEntry, w.heap[b.blk]? = some (.map l.toArray clock) ∧ (∀ x ∈ l, ∃ e ∈ es, Rel ρ e.1 x.key ∧ Rel ρ e.2.1 x.val ∧ x.born = e.2.2) ∧ ∀ e ∈ es, ∃ x ∈ l, x.born = e.2.2 := by
  obtain ⟨hN, l, h1, h2, h3⟩ := h
  refine ⟨l, h1, fun x hx => ?_, fun e he => by
    obtain ⟨j, hj⟩ := List.mem_iff_getElem?.1 he
    obtain ⟨x, hx, _, _, hb⟩ := h3 j e.1 e.2.1 e.2.2 hj
    exact ⟨x, List.mem_of_getElem? hx, hb⟩⟩
  obtain ⟨j, hj⟩ := List.mem_iff_getElem?.1 hx
  have hlt := (List.getElem?_eq_some_iff.1 hj).1
  have hj' : j < es.length := by omega
  obtain ⟨y, hy, r1, r2, r3⟩ := h3 j _ _ _ (List.getElem?_eq_getElem hj')
  rw [hj] at hy
  cases hy
  exact ⟨es[j], List.getElem_mem hj', r1, r2, r3⟩
theorem DO.next {o : Oper} {fr : Fr} {H : Heap} {Ψ : V → Heap → Prop} {it : Operand} {i id since stepped clock : Nat} {seen : List Nat} {es : List (V × V × Nat)} (ho : o.op = .next it false) (hv : evalO fr it = some (.p (some (i, 0)))) (hi : H.get i = some (.miter (some id) since seen stepped))
    (hg : H.get id = some (.map es clock)) (hold : ∀ e ∈ es, e.2.2 < since) (hsc : since ≤ stepped)
    (hover : (∀ e ∈ es, e.2.2 ∈ seen) → Ψ (.tup [.b false]) H)
    (hstep : ∀ e ∈ es, e.2.2 ∉ seen → Ψ (.tup [.b true, e.1, e.2.1]) (H.put i (.miter (some id) since (seen ++ [e.2.2]) clock))) : DO P N w0 n o fr H Ψ := by
  intro ρ a w hs
  obtain ⟨dst, op, ty, pos, after, guard⟩ := o
  simp only at ho
  subst ho
  have hr := SR.eval hs.fr it _ hv
  obtain ⟨bi, hbi, hxi⟩ := Rel.p' hr
  obtain ⟨hNi, hoff, mb, ⟨bm, hbm, rfl⟩, hheap⟩ := hs.hr.base hi hbi
  have hmap := hs.hr.base hg hbm
  obtain ⟨l, h1, hin, hout⟩ := hmap.entries
  have hold' : ∀ x ∈ l.toArray.toList, x.born < since := fun x hx => by
    obtain ⟨e, he, _, _, hb⟩ := hin x (by simpa using hx)
    rw [hb]; exact hold e he
  rw [hoff] at hxi
  rcases run_next_at (P := P) w ty bi.blk bm.blk since stepped seen.toArray l.toArray clock hheap h1 hold' hsc with ⟨hz, hrun⟩ | ⟨x, hx, w1, hw1, hrun⟩
  · refine does_val (c := .tuple #[.bool false]) (w' := w) (by rw [hxi]; exact hrun) ⟨.tup [.b false], H, ρ, ρ.le_refl, .tup [.b false] [.bool false] (.cons _ _ _ _ (.b false) .nil), hs.hr, hover fun e he => ?_⟩
    obtain ⟨x, hx, hb⟩ := hout e he
    have hnil := Array.eq_empty_of_size_eq_zero hz
    by_cases hmem : e.2.2 ∈ seen
    · exact hmem
    · exfalso
      have : x ∈ leftOf l.toArray seen.toArray := by
        unfold leftOf
        rw [Array.mem_filter]
        refine ⟨by simpa using hx, ?_⟩
        rw [hb]; simpa using hmem
      rw [hnil] at this
      simp at this
  · have hx' : x ∈ leftOf l.toArray seen.toArray := by simpa using hx
    unfold leftOf at hx'
    rw [Array.mem_filter] at hx'
    obtain ⟨hxl, hxs⟩ := hx'
    obtain ⟨e, he, r1, r2, hb⟩ := hin x (by simpa using hxl)
    have hns : e.2.2 ∉ seen := by rw [hb] at hxs; simpa using hxs
    have hh1 : HR N w0 ρ H w1 := by rcases hw1 with rfl | rfl; exact hs.hr; exact hs.hr.drawn _
    have hheap1 : w1.heap[bi.blk]? = w.heap[bi.blk]? := by rcases hw1 with rfl | rfl <;> rfl
    have hlt : bi.blk < w1.heap.size := by rw [hheap] at hheap1; exact (Array.getElem?_eq_some_iff.1 hheap1).1
    refine does_val (c := .tuple #[.bool true, x.key, x.val]) (w' := ChangeMaps.setBlock w1 bi.blk (.mapIter (some bm.blk) since (seen.toArray.push x.born) clock)) (by rw [hxi]; exact hrun)
      ⟨.tup [.b true, e.1, e.2.1], H.put i (.miter (some id) since (seen ++ [e.2.2]) clock), ρ, ρ.le_refl, .tup [.b true, e.1, e.2.1] [.bool true, x.key, x.val] (.cons _ _ _ _ (.b true) (.cons _ _ _ _ r1 (.cons _ _ _ _ r2 .nil))), ?_, hstep e he hns⟩
    refine hh1.write hi hbi rfl rfl (by simp [ChangeMaps.setBlock]) rfl rfl rfl (fun k hk => ?_) ⟨hNi, hoff, some bm.blk, ⟨bm, hbm, rfl⟩, ?_⟩
    · simp only [ChangeMaps.setBlock, Array.getElem?_setIfInBounds]
      rw [if_neg (fun e => hk e.symm)]
    · simp only [ChangeMaps.setBlock, Array.getElem?_setIfInBounds, if_true]
      rw [if_pos hlt, hb]
      simp
theorem DO.entry {o : Oper} {fr : Fr} {H : Heap} {Ψ : V → Heap → Prop} {it : Operand} {i id since clock : Nat} {seen : List Nat} {es : List (V × V × Nat)} {e : V × V × Nat} (ho : o.op = .entry it) (hv : evalO fr it = some (.p (some (i, 0)))) (hi : H.get i = some (.miter (some id) since (seen ++ [e.2.2]) clock))
    (hg : H.get id = some (.map es clock)) (he : e ∈ es) (hn : (es.map (·.2.2)).Nodup) (hq : Ψ (.tup [e.1, e.2.1]) H) : DO P N w0 n o fr H Ψ := by
  intro ρ a w hs
  obtain ⟨dst, op, ty, pos, after, guard⟩ := o
  simp only at ho
  subst ho
  have hr := SR.eval hs.fr it _ hv
  obtain ⟨bi, hbi, hxi⟩ := Rel.p' hr
  obtain ⟨hNi, hoff, mb, ⟨bm, hbm, rfl⟩, hheap⟩ := hs.hr.base hi hbi
  obtain ⟨hN, l, h1, h2, h3⟩ := hs.hr.base hg hbm
  obtain ⟨j, hj⟩ := List.mem_iff_getElem?.1 he
  obtain ⟨x, hx, r1, r2, hb⟩ := h3 j e.1 e.2.1 e.2.2 hj
  have hmap : l.map (·.born) = es.map (·.2.2) := by
    apply List.ext_getElem?
    intro k
    simp only [List.getElem?_map]
    by_cases hk : k < es.length
    · obtain ⟨y, hy, _, _, hyb⟩ := h3 k _ _ _ (List.getElem?_eq_getElem hk)
      rw [hy, List.getElem?_eq_getElem hk]; simp [hyb]
    · rw [List.getElem?_eq_none (by omega), List.getElem?_eq_none (by omega)]; rfl
  rw [hoff] at hxi
  have hheap' : w.heap[bi.blk]? = some (.mapIter (some bm.blk) since (seen.toArray.push x.born) clock) := by rw [hheap, hb]; simp
  have hrun := run_entry_at (P := P) w bi.blk bm.blk since seen.toArray l.toArray clock x hheap' h1 (by simpa using List.mem_of_getElem? hx) (by simpa [hmap] using hn)
  exact does_val (c := .tuple #[x.key, x.val]) (w' := w) (by rw [hxi]; exact hrun) ⟨.tup [e.1, e.2.1], H, ρ, ρ.le_refl, .tup [e.1, e.2.1] [x.key, x.val] (.cons _ _ _ _ r1 (.cons _ _ _ _ r2 .nil)), hs.hr, hq⟩
end
end Go.Proofs.Ytobebcfkddimkaa.AM

