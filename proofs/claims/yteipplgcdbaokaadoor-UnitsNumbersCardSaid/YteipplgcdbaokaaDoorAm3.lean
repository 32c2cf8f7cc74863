/- What the machine's loads, stores and new objects stand for. -/
import Derived.Test.YteipplgcdbaokaaDoorAm2
namespace Go.Proofs.YteipplgcdbaokaaDoor.AM
open Go Go.RowKit

section
variable {P : Program} {N : Nat} {w0 w : World} {ρ : Env} {H : Heap}

theorem info_of {t : TypeId} {d : TypeDesc} (h : P.underlying t = some d) : ∃ i, P.info? t = some i ∧ P.cellsOf t = i.size ∧ P.bytesOf t = i.bytes := by
  unfold Program.underlying at h
  cases hi : P.info? t with
  | none => rw [hi] at h; simp at h
  | some i => exact ⟨i, rfl, by simp [Program.cellsOf, hi], by simp [Program.bytesOf, hi]⟩

theorem run_size {t : TypeId} {d : TypeDesc} (h : P.underlying t = some d) (w : World) : (sizeOf t).run P w = .ok (P.cellsOf t) w := by
  obtain ⟨i, hi, hs, _⟩ := info_of h
  simp [sizeOf, typeInfo, hi, hs]
theorem run_isAggD {t : TypeId} {d : TypeDesc} (h : P.underlying t = some d) (w : World) : (isAgg t).run P w = .ok (isAggD d) w := by
  unfold isAgg
  simp only [Sem.run_bind, run_underlying h, Result.andThen_ok]
  cases d <;> rfl

theorem HR.base (h : HR N w0 ρ H w) {id : Nat} {o : O} {b : Base} (ho : H.get id = some o) (hb : ρ id = some b) : ORel N ρ w b o := by
  obtain ⟨b', hb', hr⟩ := h.obj id o ho
  rw [hb] at hb'; cases hb'; exact hr

theorem ORel.cell {b : Base} {vs : List V} {e : TypeId} {ro : Bool} (h : ORel N ρ w b (.cells vs e ro)) {j : Nat} {v : V} (hj : vs[j]? = some v) :
    ∃ x, w.cell? ⟨b.blk, b.off + j, none⟩ = some x ∧ Rel ρ v x := by
  obtain ⟨c, fz, h1, _, h3, _⟩ := h
  obtain ⟨x, hx, hr⟩ := h3 j v hj
  exact ⟨x, by simp [World.cell?, h1, hx], hr⟩

theorem ld_sound (h : HR N w0 ρ H w) {id off : Nat} {v : V} {b : Base} (hl : H.ld id off = some v) (hb : ρ id = some b) :
    ∃ x, w.cell? ⟨b.blk, b.off + off, none⟩ = some x ∧ Rel ρ v x := by
  unfold Heap.ld at hl
  split at hl
  · rename_i vs e ro ho
    exact (h.base ho hb).cell hl
  · cases hl

theorem ldC_sound {R : Type} {r : R} (h : HR N w0 ρ H w) {c : CK} {id off : Nat} {b : Base} {K : V → Option R} (hl : ldC H c id off K = some r) (hb : ρ id = some b) :
    ∃ v x, w.cell? ⟨b.blk, b.off + off, none⟩ = some x ∧ Rel ρ v x ∧ v.one = true ∧ K v = some r := by
  have key : ∀ {T : Type} (as : V → Option T) (mk : T → V), (∀ v t, as v = some t → v = mk t) → (∀ t, (mk t).one = true) →
      (((H.ld id off).bind as).bind fun x => K (mk x)) = some r → ∃ v x, w.cell? ⟨b.blk, b.off + off, none⟩ = some x ∧ Rel ρ v x ∧ v.one = true ∧ K v = some r := by
    intro T as mk has hone hk
    cases hv : H.ld id off with
    | none => rw [hv] at hk; simp at hk
    | some v =>
      rw [hv] at hk
      simp only [Option.bind_some] at hk
      cases ht : as v with
      | none => rw [ht] at hk; simp at hk
      | some t =>
        rw [ht] at hk
        obtain rfl := has v t ht
        obtain ⟨x, hx, hr⟩ := ld_sound h hv hb
        exact ⟨_, x, hx, hr, hone t, hk⟩
  cases c with
  | int k => exact key (V.asI k) (V.i k) (fun v t ht => by cases v <;> simp [V.asI] at ht; obtain ⟨rfl, rfl⟩ := ht; rfl) (fun _ => rfl) hl
  | bool => exact key V.asB V.b (fun v t ht => by cases v <;> simp [V.asB] at ht; subst ht; rfl) (fun _ => rfl) hl
  | str => exact key V.asS V.s (fun v t ht => by cases v <;> simp [V.asS] at ht; subst ht; rfl) (fun _ => rfl) hl
  | ptr => exact key V.asP V.p (fun v t ht => by cases v <;> simp [V.asP] at ht; subst ht; rfl) (fun _ => rfl) hl
  | sl => exact key V.asSl V.sl (fun v t ht => by cases v <;> simp [V.asSl] at ht; subst ht; rfl) (fun _ => rfl) hl
  | map => exact key V.asM V.m (fun v t ht => by cases v <;> simp [V.asM] at ht; subst ht; rfl) (fun _ => rfl) hl
  | any =>
    simp only [ldC] at hl
    cases hv : H.ld id off with
    | none => rw [hv] at hl; simp at hl
    | some v =>
      rw [hv] at hl
      simp only [Option.bind_some] at hl
      split at hl
      · rename_i h1
        obtain ⟨x, hx, hr⟩ := ld_sound h hv hb
        exact ⟨v, x, hx, hr, h1, hl⟩
      · cases hl

theorem ldCs_sound {R : Type} {r : R} (h : HR N w0 ρ H w) {id : Nat} {b : Base} (hb : ρ id = some b) (cs : List CK) : ∀ (off : Nat) {K : List V → Option R}, ldCs H cs id off K = some r →
    ∃ vs xs, Rels ρ vs xs ∧ xs.length = cs.length ∧ (∀ (j : Nat) (x : Value), xs[j]? = some x → w.cell? ⟨b.blk, b.off + off + j, none⟩ = some x) ∧ K vs = some r := by
  induction cs with
  | nil => intro off K hl; exact ⟨[], [], .nil, rfl, fun j x hj => by simp at hj, hl⟩
  | cons c cs ih =>
    intro off K hl
    obtain ⟨v, x, hx, hr, _, hk⟩ := ldC_sound h hl hb
    obtain ⟨vs, xs, hrs, hlen, hcells, hk'⟩ := ih (off + 1) hk
    refine ⟨v :: vs, x :: xs, .cons _ _ _ _ hr hrs, by simp [hlen], fun j y hj => ?_, hk'⟩
    cases j with
    | zero => simp at hj; subst hj; exact hx
    | succ j =>
      have := hcells j y (by simpa using hj)
      rw [show b.off + off + (j + 1) = b.off + (off + 1) + j from by omega]; exact this

theorem lds_sound (h : HR N w0 ρ H w) {id off n : Nat} {vs : List V} {b : Base} (hl : H.lds id off n = some vs) (hb : ρ id = some b) :
    vs.length = n ∧ ∃ xs, Rels ρ vs xs ∧ xs.length = n ∧ ∀ (j : Nat) (x : Value), xs[j]? = some x → w.cell? ⟨b.blk, b.off + off + j, none⟩ = some x := by
  unfold Heap.lds at hl
  split at hl
  · rename_i us e ro ho
    split at hl
    · rename_i hle
      obtain rfl : List.take n (us.drop off) = vs := by simpa using hl
      have hlen : (List.take n (us.drop off)).length = n := by simp; omega
      refine ⟨hlen, ?_⟩
      obtain ⟨c, fz, h1, h2, h3, _⟩ := h.base ho hb
      refine ⟨(List.range n).map fun j => c.getD (b.off + off + j) undef, ?_, by simp, ?_⟩
      · refine Rels.of_get _ _ (by simp; omega) fun j v hj => ?_
        have hjn : j < n := by have := (List.getElem?_eq_some_iff.1 hj).1; omega
        rw [List.getElem?_take_of_lt hjn, List.getElem?_drop] at hj
        obtain ⟨x, hx, hr⟩ := h3 (off + j) v hj
        refine ⟨x, ?_, hr⟩
        simp only [List.getElem?_map, List.getElem?_range hjn, Option.map_some]
        rw [← Nat.add_assoc] at hx
        simp [Array.getD_eq_getD_getElem?, hx]
      · intro j x hj
        have hjn : j < n := by have := (List.getElem?_eq_some_iff.1 hj).1; simpa using this
        simp only [List.getElem?_map, List.getElem?_range hjn, Option.map_some, Option.some.injEq] at hj
        have hlt : b.off + off + j < c.size := by omega
        simp [Array.getD_eq_getD_getElem?, hlt] at hj
        simp [World.cell?, h1, hlt, hj]
    · cases hl
  · cases hl

theorem run_cells {b : Base} {off : Nat} {xs : List Value} (hc : ∀ (j : Nat) (x : Value), xs[j]? = some x → w.cell? ⟨b.blk, b.off + off + j, none⟩ = some x) :
    (loadCells ⟨b.blk, b.off + off, none⟩ xs.length).run P w = .ok xs.toArray w :=
  run_loadCells_list w ⟨b.blk, b.off + off, none⟩ xs fun j v hj => by rw [Addr.add_lit]; exact hc j v hj

/-- a variable is read -/
theorem ldT_sound {R : Type} {r : R} (h : HR N w0 ρ H w) {t : TypeId} {id off : Nat} {b : Base} {K : V → Option R} (hl : ldT P H t id off K = some r) (hb : ρ id = some b) :
    ∃ v x, (loadVar t ⟨b.blk, b.off + off, none⟩).run P w = .ok x w ∧ Rel ρ v x ∧ K v = some r := by
  unfold ldT at hl
  split at hl
  · rename_i d hu
    unfold loadVar
    simp only [Sem.run_bind, run_isAggD hu, Result.andThen_ok, Sem.run_ite]
    split at hl
    · rename_i hagg
      simp only [hagg, if_true]
      split at hl
      · rename_i ks hks
        split at hl
        · rename_i hlen
          have fin : ∀ (vs : List V) (xs : List Value), Rels ρ vs xs → xs.length = ks.length → (∀ (j : Nat) (x : Value), xs[j]? = some x → w.cell? ⟨b.blk, b.off + off + j, none⟩ = some x) → K (.agg vs) = some r →
              ∃ v x, ((sizeOf t).run P w).andThen (fun a w' => ((loadCells ⟨b.blk, b.off + off, none⟩ a).run P w').andThen fun a w' => Result.ok (Value.agg a) w') = .ok x w ∧ Rel ρ v x ∧ K v = some r := by
            intro vs xs hrs hxl hc hk
            refine ⟨.agg vs, .agg xs.toArray, ?_, .agg _ _ hrs, hk⟩
            rw [run_size hu, Result.andThen_ok, ← hlen, ← hxl, run_cells hc]
            rfl
          split at hl
          · obtain ⟨vs, xs, hrs, hxl, hc, hk⟩ := ldCs_sound h hb ks off hl
            obtain ⟨v, x, h1, h2, h3⟩ := fin vs xs hrs hxl hc hk
            exact ⟨v, x, by simpa using h1, h2, h3⟩
          · cases hls : H.lds id off ks.length with
            | none => rw [hls] at hl; simp at hl
            | some vs =>
              rw [hls] at hl
              obtain ⟨_, xs, hrs, hxl, hc⟩ := lds_sound h hls hb
              obtain ⟨v, x, h1, h2, h3⟩ := fin vs xs hrs hxl hc hl
              exact ⟨v, x, by simpa using h1, h2, h3⟩
        · cases hl
      · cases hl
    · rename_i hagg
      have : isAggD d = false := by simpa using hagg
      simp only [this]
      obtain ⟨v, x, hx, hr, _, hk⟩ := ldC_sound h hl hb
      exact ⟨v, x, by simp [hx], hr, hk⟩
  · cases hl

/-- cells are written, where nothing is frozen -/
theorem run_storeCells_own (g o : Nat) (t : TypeId) (fz : Nat × Nat) : ∀ (vs : List Value) (i : Nat) (cur : Array Value) (w : World), w.heap[g]? = some (.cells cur t fz) →
    (∀ k, k < cur.size → ¬ (fz.1 ≤ k ∧ k < fz.2)) → o + i + vs.length ≤ cur.size → (∀ v ∈ vs, v.oneCell' = true) →
    (storeCells ⟨g, o, none⟩ vs i).run P w = .ok () (w.setRow g (cur.toList.take (o + i) ++ vs ++ cur.toList.drop (o + i + vs.length)).toArray)
  | [], i, cur, w, hg, _, _, _ => by
    simp only [storeCells, List.append_nil, List.length_nil, Nat.add_zero, List.take_append_drop, Array.toArray_toList]
    rw [setRow_self w g cur t fz hg]
    rfl
  | v :: rest, i, cur, w, hg, hfz, hl, h1 => by
    have hll : (v :: rest).length = rest.length + 1 := rfl
    have hi : o + i < cur.size := by omega
    have hadd : (⟨g, o, none⟩ : Addr).add i = ⟨g, o + i, none⟩ := Addr.add_lit _ _ _
    have hcell : w.cell? ⟨g, o + i, none⟩ = some cur[o + i] := by simp [World.cell?, hg, hi]
    have hfr : w.frozen? ⟨g, o + i, none⟩ = false := by
      have := hfz (o + i) hi
      simp only [World.frozen?, hg]
      simp only [Bool.and_eq_false_iff, decide_eq_false_iff_not]
      omega
    have hst : (store ((⟨g, o, none⟩ : Addr).add i) v).run P w = .ok () (w.setRow g (cur.setIfInBounds (o + i) v)) := by
      rw [hadd, run_store P w _ v _ (h1 v (by simp)), hcell]
      simp only [hfr, Bool.false_eq_true, if_false]
      rw [setCell_eq_setRow w g (o + i) cur t fz v hg]
    have ih := run_storeCells_own g o t fz rest (i + 1) (cur.setIfInBounds (o + i) v) (w.setRow g (cur.setIfInBounds (o + i) v)) (setRow_heap w g cur _ t _ hg) (by simpa using hfz) (by simp at hl ⊢; omega) (fun x hx => h1 x (by simp [hx]))
    simp only [storeCells, Sem.run_bind, hst, Result.andThen_ok, ih]
    congr 1
    rw [setRow_setRow w g _ _]
    congr 1
    apply congrArg
    apply List.ext_getElem?
    intro k
    simp only [Array.toList_setIfInBounds, List.getElem?_append, List.length_take, List.length_set, Array.length_toList, List.getElem?_take, List.getElem?_set, List.getElem?_drop, List.length_cons]
    simp only [List.length_append, List.length_take, List.length_set, Array.length_toList]
    have : min (o + i) cur.size = o + i := by omega
    have h2 : min (o + (i + 1)) cur.size = o + i + 1 := by simp at hl; omega
    rw [this, h2]
    by_cases a : k < o + i
    · simp [a, show k < o + i + 1 by omega, show ¬ o + i = k by omega, show k < o + (i + 1) by omega, show k < o + i + 1 + rest.length by omega, show k < o + i + (rest.length + 1) by omega]
    · by_cases c : k = o + i
      · subst c; simp [hi]; intro h; omega
      · obtain ⟨m, hm⟩ : ∃ m, k = o + i + 1 + m := ⟨k - (o + i + 1), by omega⟩
        subst hm
        simp only [show ¬ (o + i + 1 + m < o + i + 1) by omega, show ¬ (o + i + 1 + m < o + i) by omega, if_false]
        by_cases d : m < rest.length
        · simp [show o + i + 1 + m < o + i + 1 + rest.length by omega, show o + i + 1 + m < o + i + (rest.length + 1) by omega, show o + i + 1 + m - (o + i) = m + 1 by omega, show o + i + 1 + m - (o + i + 1) = m by omega]
        · simp only [show ¬ (o + i + 1 + m < o + i + 1 + rest.length) by omega, if_false]
          split
          · omega
          · split
            · omega
            · congr 1
              simp only [List.length_cons]
              omega

end
end Go.Proofs.YteipplgcdbaokaaDoor.AM
