/- What the machine's building, making and converting stand for. -/
import Derived.Test.YteipplgcdbaokaaDoorAm8
namespace Go.Proofs.YteipplgcdbaokaaDoor.AM
open Go Go.RowKit

theorem foldl_set (off : Nat) : ∀ (xs : List Value) (j : Nat) (arr : Array Value), off + j + xs.length ≤ arr.size →
    ((xs.zipIdx j).foldl (fun cs (p : Value × Nat) => cs.setIfInBounds (off + p.2) p.1) arr) = (arr.toList.take (off + j) ++ xs ++ arr.toList.drop (off + j + xs.length)).toArray := by
  intro xs
  induction xs with
  | nil => intro j arr h; simp
  | cons x xs ih =>
    intro j arr h
    have hl : (x :: xs).length = xs.length + 1 := rfl
    simp only [List.zipIdx_cons, List.foldl_cons]
    rw [ih (j + 1) _ (by simp; omega)]
    apply congrArg
    apply List.ext_getElem?
    intro k
    have hm : min (off + j) arr.size = off + j := by omega
    have hm2 : min (off + (j + 1)) arr.size = off + (j + 1) := by omega
    simp only [Array.toList_setIfInBounds, List.getElem?_append, List.length_append, List.length_take, List.length_set, Array.length_toList, List.getElem?_take, List.getElem?_set, List.getElem?_drop, hm, hm2, hl]
    by_cases a : k < off + j
    · simp [a, show k < off + (j + 1) by omega, show k < off + (j + 1) + xs.length by omega, show ¬ off + j = k by omega, show k < off + j + (xs.length + 1) by omega]
    · by_cases c : k = off + j
      · subst c
        simp [show off + j < off + (j + 1) by omega, show off + j < off + (j + 1) + xs.length by omega, show off + j < arr.size by omega]
      · by_cases d : k < off + (j + 1) + xs.length
        · obtain ⟨m, rfl⟩ : ∃ m, k = off + (j + 1) + m := ⟨k - (off + (j + 1)), by omega⟩
          simp [d, show ¬ off + (j + 1) + m < off + (j + 1) by omega, show ¬ off + (j + 1) + m < off + j by omega, show off + (j + 1) + m < off + j + (xs.length + 1) by omega,
            show off + (j + 1) + m - (off + j) = m + 1 by omega]
        · rw [if_neg d, if_neg (by omega), if_neg (by omega)]
          congr 1; omega

section
variable {P : Program} {N : Nat} {w0 w : World} {ρ : Env} {H : Heap}

def PRel (ρ : Env) : List (Nat × V) → List (Nat × Value) → Prop
  | [], [] => True
  | (i, v) :: ps, (j, x) :: xs => i = j ∧ Rel ρ v x ∧ PRel ρ ps xs
  | _, _ => False

theorem fillV_sound {place place' : Nat → Option (Nat × Nat)} (hp : ∀ i, place i = place' i) : ∀ (ps : List (Nat × V)) (qs : List (Nat × Value)) (cells : List V) (xs : List Value) (res : List V), PRel ρ ps qs → Rels ρ cells xs → fillV place cells ps = some res →
    ∃ ys, Instr.fill place' xs.toArray qs = some ys.toArray ∧ Rels ρ res ys ∧ res.length = cells.length := by
  intro ps
  induction ps with
  | nil =>
    intro qs cells xs res hpr hrs h
    cases qs with
    | nil => simp [fillV] at h; subst h; exact ⟨xs, rfl, hrs, rfl⟩
    | cons _ _ => exact hpr.elim
  | cons p ps ih =>
    intro qs cells xs res hpr hrs h
    obtain ⟨i, v⟩ := p
    cases qs with
    | nil => exact hpr.elim
    | cons q qs =>
      obtain ⟨j, x⟩ := q
      obtain ⟨rfl, hr, hrest⟩ := hpr
      simp only [fillV] at h
      split at h
      · cases h
      · rename_i off size hpl
        split at h
        · cases h
        · rename_i hc
          simp only [Bool.or_eq_true, decide_eq_true_eq, not_or, ne_eq, Decidable.not_not] at hc
          obtain ⟨hc1, hc2⟩ := hc
          have hcl := hr.cells.length
          simp at hcl
          have hl := hrs.length
          have hle : off + v.cells.length ≤ cells.length := by omega
          obtain ⟨ys, h1, h2, h3⟩ := ih qs (splice cells off v.cells) (xs.take off ++ x.cells.toList ++ xs.drop (off + x.cells.toList.length)) res hrest (by
            unfold splice
            have e : v.cells.length = x.cells.toList.length := by simpa using hcl
            rw [e]
            exact (((hrs.take off).append hr.cells).append (hrs.drop _))) h
          refine ⟨ys, ?_, h2, by rw [h3, splice_length _ _ _ hle]⟩
          simp only [Instr.fill, ← hp, hpl]
          have e1 : ¬ ((decide (x.cells.size ≠ size) || decide (off + x.cells.size > xs.toArray.size)) = true) := by
            simp only [Bool.or_eq_true, decide_eq_true_eq, not_or, ne_eq, Decidable.not_not, List.size_toArray]
            omega
          rw [if_neg e1]
          have e2 := foldl_set off x.cells.toList 0 xs.toArray (by simp; omega)
          simp only [Nat.add_zero] at e2
          rw [← Array.foldl_toList, Array.toList_zipIdx]
          rw [show (fun (cs : Array Value) (x : Value × Nat) => match x with | (c, j) => cs.setIfInBounds (off + j) c) = (fun cs p => cs.setIfInBounds (off + p.2) p.1) from rfl]
          rw [e2]
          simpa using h1

theorem evalP_sound {val : Operand → Option V} {e : Operand → Value} (hv : ∀ x v, val x = some v → Rel ρ v (e x)) : ∀ (l : List (Nat × Operand)) (ps : List (Nat × V)), evalP val l = some ps → PRel ρ ps (l.map fun (i, x) => (i, e x)) := by
  intro l
  induction l with
  | nil => intro ps h; simp [evalP] at h; subst h; trivial
  | cons p l ih =>
    intro ps h
    obtain ⟨i, x⟩ := p
    simp only [evalP] at h
    obtain ⟨v, h1, h2⟩ := Option.bind_eq_some_iff.1 h
    obtain ⟨vs, h3, h4⟩ := Option.bind_eq_some_iff.1 h2
    simp at h4; subst h4
    exact ⟨rfl, hv _ _ h1, ih _ h3⟩
theorem evalL_sound {val : Operand → Option V} {e : Operand → Value} (hv : ∀ x v, val x = some v → Rel ρ v (e x)) : ∀ (l : List Operand) (vs : List V), evalL val l = some vs → Rels ρ vs (l.map e) := by
  intro l
  induction l with
  | nil => intro ps h; simp [evalL] at h; subst h; exact .nil
  | cons x l ih =>
    intro ps h
    simp only [evalL] at h
    obtain ⟨v, h1, h2⟩ := Option.bind_eq_some_iff.1 h
    obtain ⟨vs, h3, h4⟩ := Option.bind_eq_some_iff.1 h2
    simp at h4; subst h4
    exact .cons _ _ _ _ (hv _ _ h1) (ih _ h3)

theorem range_mod (z : List Value) (n : Nat) : (Array.range (n * z.length)).map (fun i => z.toArray[i % z.toArray.size]!) = ((List.replicate n z).flatten).toArray := by
  apply Array.ext'
  apply List.ext_getElem?
  intro k
  rcases Nat.eq_zero_or_pos z.length with hz | hz
  · have : z = [] := List.eq_nil_of_length_eq_zero hz
    subst this; simp
  · by_cases hk : k < n * z.length
    · have h1 : k / z.length < n := Nat.div_lt_of_lt_mul (by rw [Nat.mul_comm]; exact hk)
      have h2 : k % z.length < z.length := Nat.mod_lt _ hz
      have e : ((List.replicate n z).flatten)[k]? = z[k % z.length]? := by
        clear h1
        induction n generalizing k with
        | zero => omega
        | succ n ih =>
          simp only [List.replicate_succ, List.flatten_cons, List.getElem?_append]
          split
          · rename_i h; rw [Nat.mod_eq_of_lt h]
          · rename_i h
            rw [Nat.add_mul, Nat.one_mul] at hk
            rw [ih (k - z.length) (by omega) (Nat.mod_lt _ hz), Nat.mod_eq_sub_mod (a := k) (by omega)]
      rw [e]
      simp only [Array.toList_map, Array.toList_range, List.getElem?_map, List.getElem?_range hk, Option.map_some, List.size_toArray]
      simp [h2]
    · have : ((List.replicate n z).flatten).length = n * z.length := by simp
      rw [List.getElem?_eq_none (by simpa using hk), List.getElem?_eq_none (by simpa using hk)]

theorem Rels.flatten {vs : List V} {xs : List Value} (h : Rels ρ vs xs) (n : Nat) : Rels ρ (List.replicate n vs).flatten (List.replicate n xs).flatten := by
  induction n with
  | zero => simp; exact .nil
  | succ n ih => simp only [List.replicate_succ, List.flatten_cons]; exact h.append ih

theorem zeroCellsV_sound {e : TypeId} {n : Nat} {vs : List V} (h : zeroCellsV P e n = some vs) : ∃ xs : List Value, Rels ρ vs xs ∧ xs.length = n * P.cellsOf e ∧
    ((n * P.cellsOf e = 0 ∧ xs = []) ∨ ∃ z, (∀ w : World, (zeroValue e).run P w = .ok z w) ∧ z.cells.size = P.cellsOf e ∧ (Array.range (n * P.cellsOf e)).map (fun i => z.cells[i % z.cells.size]!) = xs.toArray ∧ Builtin.zeroCells z.cells n = xs.toArray) := by
  unfold zeroCellsV at h
  split at h
  · rename_i h0
    simp at h; subst h
    exact ⟨[], .nil, by simp [h0], .inl ⟨h0, rfl⟩⟩
  · obtain ⟨z, hz, h1⟩ := Option.bind_eq_some_iff.1 h
    split at h1
    · rename_i hlen
      simp at h1; subst h1
      obtain ⟨x, hx, hr, _⟩ := zeroV_sound (ρ := ρ) hz
      have hcl := hr.cells.length
      have hcl' : x.cells.size = P.cellsOf e := by simp at hcl; omega
      refine ⟨(List.replicate n x.cells.toList).flatten, hr.cells.flatten n, by simp [hcl'], .inr ⟨x, hx, hcl', ?_, ?_⟩⟩
      · have := range_mod x.cells.toList n
        simpa [hcl'] using this
      · have := range_mod x.cells.toList n
        simpa [Builtin.zeroCells] using this
    · cases h1

theorem bytesOfCells_sound : ∀ (vs : List V) (xs : List Value) (l : List UInt8), Rels ρ vs xs → bytesOfCells vs = some l → ∃ ns : List Int, xs = ns.map (Value.int .u8) ∧ l = ns.map fun n => UInt8.ofNat n.toNat := by
  intro vs
  induction vs with
  | nil =>
    intro xs l hr h
    cases hr
    simp [bytesOfCells] at h; subst h
    exact ⟨[], rfl, rfl⟩
  | cons v vs ih =>
    intro xs l hr h
    cases hr with
    | cons _ x _ xs h1 h2 =>
    unfold bytesOfCells at h
    split at h
    · rename_i heq; cases heq
    · rename_i n us heq
      cases heq
      obtain ⟨r, hr1, hr2⟩ := Option.bind_eq_some_iff.1 h
      simp at hr2; subst hr2
      cases h1
      obtain ⟨ns, rfl, rfl⟩ := ih xs r h2 hr1
      exact ⟨n :: ns, rfl, rfl⟩
    · cases h
theorem foldl_push (ns : List Int) : ∀ (s : ByteArray), ns.foldl (fun r n => r.push (UInt8.ofNat n.toNat)) s = ⟨(s.data.toList ++ ns.map fun n => UInt8.ofNat n.toNat).toArray⟩ := by
  induction ns with
  | nil => intro s; simp
  | cons n ns ih =>
    intro s
    simp only [List.foldl_cons]
    rw [ih]
    congr 1
    apply Array.ext'
    show (s.push (UInt8.ofNat n.toNat)).data.toList ++ _ = _
    rw [show (s.push (UInt8.ofNat n.toNat)).data = s.data.push (UInt8.ofNat n.toNat) from rfl]
    simp

end
end Go.Proofs.YteipplgcdbaokaaDoor.AM
