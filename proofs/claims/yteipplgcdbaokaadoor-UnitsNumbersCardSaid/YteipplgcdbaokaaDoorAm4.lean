/- What the machine's stores and new objects stand for. -/
import Derived.Test.YteipplgcdbaokaaDoorAm3
namespace Go.Proofs.YteipplgcdbaokaaDoor.AM
open Go Go.RowKit

theorem splice_get (vs l : List V) (off : Nat) (h : off + l.length ≤ vs.length) (j : Nat) :
    (splice vs off l)[j]? = if j < off then vs[j]? else if j < off + l.length then l[j - off]? else vs[j]? := by
  unfold splice
  have hm : min off vs.length = off := by omega
  simp only [List.getElem?_append, List.length_append, List.length_take, hm, List.getElem?_take, List.getElem?_drop]
  by_cases h1 : j < off
  · simp [h1, show j < off + l.length by omega]
  · by_cases h2 : j < off + l.length
    · simp [h1, h2]
    · simp only [h1, h2, if_false]
      congr 1
      omega
theorem splice_length (vs l : List V) (off : Nat) (h : off + l.length ≤ vs.length) : (splice vs off l).length = vs.length := by
  unfold splice; simp; omega

section
variable {P : Program} {N : Nat} {w0 w : World} {ρ : Env} {H : Heap}

theorem size_setRow (w : World) (g : Nat) (cs : Array Value) : (w.setRow g cs).heap.size = w.heap.size := by simp [World.setRow]
theorem tape_setRow (w : World) (g : Nat) (cs : Array Value) : (w.setRow g cs).tape = w.tape := rfl

theorem sts_sound (h : HR N w0 ρ H w) {id off : Nat} {l : List V} {xs : List Value} {H' : Heap} {b : Base} (hs : H.sts id off l = some H') (hb : ρ id = some b) (hr : Rels ρ l xs) :
    ∃ w', (storeCells ⟨b.blk, b.off + off, none⟩ xs).run P w = .ok () w' ∧ HR N w0 ρ H' w' := by
  unfold Heap.sts at hs
  split at hs
  · rename_i vs e ho
    split at hs
    · rename_i hle
      split at hs
      · rename_i hone
        obtain rfl : H.put id (.cells (splice vs off l) e false) = H' := by simpa using hs
        obtain ⟨c, fz, h1, h2, h3, h4⟩ := h.base ho hb
        obtain ⟨hN, hsz, hfz, hex⟩ := h4 rfl
        have hlen := hr.length
        have hx1 : ∀ x ∈ xs, x.oneCell' = true := by
          intro x hx
          obtain ⟨j, hj⟩ := List.mem_iff_getElem?.1 hx
          have hjl : j < l.length := by have := (List.getElem?_eq_some_iff.1 hj).1; omega
          obtain ⟨y, hy, hrel⟩ := hr.get j l[j] (List.getElem?_eq_getElem hjl)
          rw [hj] at hy; cases hy
          rw [hrel.one]
          exact (List.all_eq_true.1 hone) _ (List.getElem_mem hjl)
        refine ⟨_, run_storeCells_own (P := P) b.blk (b.off + off) e fz xs 0 c w h1 (fun k hk hh => by rcases hfz with q | q <;> omega) (by omega) hx1, ?_⟩
        refine h.write ho hb rfl rfl (size_setRow _ _ _) rfl rfl rfl (fun k hk => setRow_other w b.blk k _ hk) ?_
        refine ⟨_, fz, setRow_heap w b.blk c _ e fz h1, ?_, ?_, fun _ => ⟨hN, ?_, ?_, fun q => by have := hex q; rw [splice_length _ _ _ hle]; simp; omega⟩⟩
        · rw [splice_length _ _ _ hle]; simp; omega
        · intro j v hj
          rw [splice_get _ _ _ hle] at hj
          have hm : min (b.off + off) c.size = b.off + off := by omega
          simp only [List.getElem?_toArray, List.getElem?_append, List.length_append, List.length_take, Array.length_toList, Nat.add_zero, hm, List.getElem?_take, List.getElem?_drop]
          by_cases c1 : j < off
          · rw [if_pos c1] at hj
            obtain ⟨x, hx, hrel⟩ := h3 j v hj
            refine ⟨x, ?_, hrel⟩
            rw [if_pos (by omega), if_pos (by omega), if_pos (by omega)]; simpa using hx
          · rw [if_neg c1] at hj
            by_cases c2 : j < off + l.length
            · rw [if_pos c2] at hj
              obtain ⟨x, hx, hrel⟩ := hr.get _ _ hj
              refine ⟨x, ?_, hrel⟩
              rw [if_pos (by omega), if_neg (by omega)]
              rw [show b.off + j - (b.off + off) = j - off by omega]; exact hx
            · rw [if_neg c2] at hj
              obtain ⟨x, hx, hrel⟩ := h3 j v hj
              refine ⟨x, ?_, hrel⟩
              rw [if_neg (by omega), show b.off + off + xs.length + (b.off + j - (b.off + off + xs.length)) = b.off + j by omega]
              simpa using hx
        · simp; omega
        · rcases hfz with q | q
          · exact .inl q
          · refine .inr ?_; simp; omega
      · cases hs
    · cases hs
  · cases hs

theorem splice_one (vs : List V) (off : Nat) (v : V) (h : off < vs.length) : splice vs off [v] = vs.set off v := by
  apply List.ext_getElem?
  intro j
  rw [splice_get _ _ _ (by simp; omega), List.getElem?_set]
  by_cases h1 : j < off
  · simp [h1, show ¬ off = j by omega]
  · by_cases h2 : j = off
    · subst h2; simp [h]
    · simp [h1, show ¬ j < off + 1 by omega, show ¬ off = j by omega]

theorem st_sts (id off : Nat) (v : V) (H' : Heap) (hs : H.st id off v = some H') : H.sts id off [v] = some H' := by
  unfold Heap.st at hs
  unfold Heap.sts
  split at hs
  · rename_i vs e ho
    split at hs
    · rename_i hlt
      split at hs
      · rename_i hone
        rw [if_pos (by simp; omega), if_pos (by simpa using hone), splice_one _ _ _ hlt]; exact hs
      · cases hs
    · cases hs
  · cases hs

/-- a variable is written -/
theorem stT_sound {R : Type} {r : R} (h : HR N w0 ρ H w) {t : TypeId} {id off : Nat} {b : Base} {v : V} {x : Value} {K : Heap → Option R} (hs : stT P H t id off v K = some r) (hb : ρ id = some b) (hr : Rel ρ v x) :
    ∃ w' H', (storeVar t ⟨b.blk, b.off + off, none⟩ x).run P w = .ok () w' ∧ HR N w0 ρ H' w' ∧ K H' = some r := by
  unfold stT at hs
  split at hs
  · cases hs
  rename_i dd hu
  have hsz := fun w => run_size (P := P) hu w
  have go : ∀ (l : List V) (H' : Heap), H.sts id off l = some H' → l = v.cells → l.length = P.cellsOf t → K H' = some r →
      ∃ w' H', (storeVar t ⟨b.blk, b.off + off, none⟩ x).run P w = .ok () w' ∧ HR N w0 ρ H' w' ∧ K H' = some r := by
    intro l H' hl hlv hlt hk
    have hc := hr.cells
    rw [← hlv] at hc
    obtain ⟨w', hw', hh⟩ := sts_sound (P := P) h hl hb hc
    refine ⟨w', H', ?_, hh, hk⟩
    have hlen := hc.length
    unfold storeVar
    simp only [Sem.run_bind, hsz, Result.andThen_ok]
    have hne : ¬ (x.cells.size ≠ P.cellsOf t) := by simp at hlen; omega
    simp only [hne, if_false]
    simp [hw']
  split at hs
  · rename_i l
    split at hs
    · rename_i hlen
      cases hq : H.sts id off l with
      | none => rw [hq] at hs; simp at hs
      | some H' => rw [hq] at hs; exact go l H' hq rfl hlen hs
    · cases hs
  · rename_i hagg
    split at hs
    · rename_i hlen
      cases hq : H.st id off v with
      | none => rw [hq] at hs; simp at hs
      | some H' =>
        rw [hq] at hs
        have hv : v.cells = [v] := by cases v <;> first | rfl | (exact absurd rfl (hagg _))
        exact go [v] H' (st_sts _ _ _ _ hq) hv.symm (by simpa using hlen.symm) hs
    · cases hs

/-- a new object of cells -/
theorem new_sound (h : HR N w0 ρ H w) {vs : List V} {c : Array Value} {e : TypeId} (hr : ∀ (j : Nat) (v : V), vs[j]? = some v → ∃ x, c[j]? = some x ∧ Rel ρ v x) (hlen : vs.length ≤ c.size) (hex : exactT e = true → c.size = vs.length) :
    ∃ ρ', ρ.le ρ' ∧ HR N w0 ρ' (H.new (.cells vs e false)) (w.alloc (.cells c e)) ∧ ρ' H.next = some ⟨w.heap.size, 0, c.size⟩ := by
  refine ⟨fun id => if id = H.next then some ⟨w.heap.size, 0, c.size⟩ else ρ id, ?_⟩
  have hle : ρ.le (fun id => if id = H.next then some ⟨w.heap.size, 0, c.size⟩ else ρ id) := by
    intro id b' hb'
    have := h.name_lt hb'
    show (if id = H.next then _ else ρ id) = some b'
    rw [if_neg (by omega)]; exact hb'
  obtain ⟨h1, _⟩ := h.alloc (.cells c e) (.cells vs e false) ⟨w.heap.size, 0, c.size⟩ rfl
    ⟨c, (0, 0), heap_alloc_new w _, by simpa using hlen, fun j v hj => by
      obtain ⟨x, hx, hrel⟩ := hr j v hj
      exact ⟨x, by simpa using hx, hrel.mono hle⟩, fun _ => ⟨h.nle, rfl, .inl rfl, fun q => ⟨rfl, hex q⟩⟩⟩ rfl
  exact ⟨hle, h1, by simp⟩

theorem new_sound' (h : HR N w0 ρ H w) {vs : List V} {xs : List Value} {e : TypeId} (hr : Rels ρ vs xs) :
    ∃ ρ', ρ.le ρ' ∧ HR N w0 ρ' (H.new (.cells vs e false)) (w.alloc (.cells xs.toArray e)) ∧ ρ' H.next = some ⟨w.heap.size, 0, xs.length⟩ := by
  have := new_sound h (vs := vs) (c := xs.toArray) (e := e) (fun j v hj => by simpa using hr.get j v hj) (by simpa using Nat.le_of_eq hr.length) (fun _ => by simpa using hr.length.symm)
  simpa using this

/-- zeros -/
theorem ofCell_sound {x : Value} {v : V} (h : ofCell x = some v) : Rel ρ v x := by
  unfold ofCell at h
  split at h <;> simp at h <;> subst h <;> constructor
theorem ofCells_sound : ∀ (xs : List Value) (vs : List V), ofCells xs = some vs → Rels ρ vs xs := by
  intro xs
  induction xs with
  | nil => intro vs h; simp [ofCells] at h; subst h; exact .nil
  | cons x xs ih =>
    intro vs h
    simp only [ofCells] at h
    cases h1 : ofCell x with
    | none => simp [h1] at h
    | some v =>
      cases h2 : ofCells xs with
      | none => simp [h1, h2] at h
      | some us => simp [h1, h2] at h; subst h; exact .cons _ _ _ _ (ofCell_sound h1) (ih us h2)
theorem ofValue_sound {x : Value} {v : V} (h : ofValue x = some v) : Rel ρ v x := by
  unfold ofValue at h
  split at h
  · rename_i cs
    cases h1 : ofCells cs.toList with
    | none => simp [h1] at h
    | some vs =>
      simp [h1] at h; subst h
      have := Rel.agg _ _ (ofCells_sound (ρ := ρ) _ _ h1)
      simpa using this
  · rename_i cs
    cases h1 : ofCells cs.toList with
    | none => simp [h1] at h
    | some vs =>
      simp [h1] at h; subst h
      have := Rel.tup _ _ (ofCells_sound (ρ := ρ) _ _ h1)
      simpa using this
  · rename_i f a b
    split at h
    · rename_i h1 h2
      simp at h; subst h
      have := Rel.fn (ρ := ρ) f [] [] a.toList b.toList (h1 ▸ .nil) (h2 ▸ .nil)
      simpa using this
    · cases h
  · exact ofCell_sound h

theorem zeroV_sound {t : TypeId} {v : V} (h : zeroV P t = some v) : ∃ x, (∀ w, (zeroValue t).run P w = .ok x w) ∧ Rel ρ v x ∧ (P.info? t).bind (·.zero) = some x := by
  unfold zeroV at h
  cases h1 : (P.info? t).bind (·.zero) with
  | none => simp [h1] at h
  | some x =>
    simp [h1] at h
    refine ⟨x, fun w => ?_, ofValue_sound h, rfl⟩
    cases hi : P.info? t with
    | none => simp [hi] at h1
    | some i =>
      simp [hi] at h1
      simp [zeroValue, typeInfo, hi, h1]

end
end Go.Proofs.YteipplgcdbaokaaDoor.AM
