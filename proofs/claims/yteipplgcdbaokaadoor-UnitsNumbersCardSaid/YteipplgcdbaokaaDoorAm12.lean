/- What each operation of the machine stands for: all of them. -/
import Derived.Test.YteipplgcdbaokaaDoorAm11
namespace Go.Proofs.YteipplgcdbaokaaDoor.AM
open Go Go.RowKit

section
variable {P : Program} {N : Nat} {w0 w : World} {ρ : Env} {H : Heap}

theorem does_val {s : Sem Value} {Φ : Value → World → Prop} {c : Value} {w' : World} (hs : s.run P w = .ok c w') (hp : Φ c w') : Does P w (do pure (.value (← s))) Φ :=
  .inl ⟨c, w', by simp [hs], hp⟩
theorem does_unit {s : Sem Unit} {Φ : Value → World → Prop} {w' : World} (hs : s.run P w = .ok () w') (hp : Φ undef w') : Does P w (do s; pure .skip) Φ :=
  .inr (.inl ⟨w', by simp [hs], hp⟩)
theorem rel_undef : Rel ρ (.tup []) undef := .tup [] [] .nil

theorem Rel.p' {q : Nat × Nat} {x : Value} (h : Rel ρ (.p (some q)) x) : ∃ b, ρ q.1 = some b ∧ x = .pointer (some ⟨b.blk, b.off + q.2, none⟩) := by
  cases h with | p id off b hb => exact ⟨b, hb, rfl⟩
theorem Rel.m' {id : Nat} {x : Value} (h : Rel ρ (.m (some id)) x) : ∃ b, ρ id = some b ∧ x = .map (some b.blk) := by
  cases h with | m id b hb => exact ⟨b, hb, rfl⟩

theorem ev_load {R : Type} {r : R} {K : V → Heap → Option R} (h : HR N w0 ρ H w) {t : TypeId} {a : V} {ax : Value} (hr : Rel ρ a ax)
    (hk : (match (generalizing := false) a with | .p x => (x : Option (Nat × Nat)).bind fun q => ldT P H t q.1 q.2 fun v => K v H | _ => none) = some r) :
    ∃ c, (Instr.loadAt t ax).run P w = .ok c w ∧ Post N w0 ρ K r c w := by
  cases a with
  | p x =>
    obtain ⟨q, h1, h2⟩ := Option.bind_eq_some_iff.1 hk
    subst h1
    obtain ⟨b, hb, rfl⟩ := hr.p'
    obtain ⟨v, x, e1, e2, e3⟩ := ldT_sound (K := fun v => K v H) h h2 hb
    exact ⟨x, by simp [Instr.loadAt, Instr.sureAddr, e1], Post.same h e2 e3⟩
  | _ => cases hk

theorem ev_store {R : Type} {r : R} {K : V → Heap → Option R} (h : HR N w0 ρ H w) {t : TypeId} {a v : V} {ax x : Value} (hr : Rel ρ a ax) (hv : Rel ρ v x)
    (hk : (match (generalizing := false) a with | .p x => (x : Option (Nat × Nat)).bind fun q => stT P H t q.1 q.2 v fun H => K (.tup []) H | _ => none) = some r) :
    ∃ w', (Instr.storeAt t ax x).run P w = .ok () w' ∧ Post N w0 ρ K r undef w' := by
  cases a with
  | p x =>
    obtain ⟨q, h1, h2⟩ := Option.bind_eq_some_iff.1 hk
    subst h1
    obtain ⟨b, hb, rfl⟩ := hr.p'
    obtain ⟨w', H', e1, e2, e3⟩ := stT_sound (P := P) h h2 hb hv
    exact ⟨w', by simp [Instr.storeAt, Instr.sureAddr, e1], _, H', ρ, ρ.le_refl, rel_undef, e2, e3⟩
  | _ => cases hk

theorem new_post {R : Type} {r : R} {K : V → Heap → Option R} (h : HR N w0 ρ H w) {vs : List V} {xs : List Value} {e : TypeId} (hr : Rels ρ vs xs) {v : V} {c : Value} (hk : K v (H.new (.cells vs e false)) = some r)
    (hv : ∀ ρ' : Env, ρ'  H.next = some ⟨w.heap.size, 0, xs.length⟩ → Rel ρ' v c) : Post N w0 ρ K r c (w.alloc (.cells xs.toArray e)) := by
  obtain ⟨ρ', h1, h2, h3⟩ := new_sound' (e := e) h hr
  exact ⟨v, _, ρ', h1, hv ρ' h3, h2, hk⟩

theorem run_placesOf (w : World) : ∀ (fs : List Field) (pl : List (Nat × Nat)), placesOf P fs = some pl → (fs.mapM fun f => Prod.mk f.offset <$> sizeOf f.type).run P w = .ok pl w := by
  intro fs
  induction fs with
  | nil => intro pl h; simp [placesOf] at h; subst h; simp
  | cons f fs ih =>
    intro pl h
    simp only [placesOf] at h
    obtain ⟨i, h1, h2⟩ := Option.bind_eq_some_iff.1 h
    obtain ⟨r, h3, h4⟩ := Option.bind_eq_some_iff.1 h2
    simp at h4; subst h4
    have hs : (sizeOf f.type).run P w = .ok i.size w := by simp [sizeOf, typeInfo, h1]
    simp [List.mapM_cons, hs, ih r h3]

theorem ev_build {R : Type} {r : R} {K : V → Heap → Option R} (h : HR N w0 ρ H w) {t : TypeId} {parts : Array (Nat × Operand)} {val : Operand → Option V} {e : Operand → Value} (hv : ∀ x v, val x = some v → Rel ρ v (e x))
    (hk : ((zeroV P t).bind fun z => (evalP val parts.toList).bind fun ps =>
      match P.underlying t with
      | some (.struct fs) => (placesOf P fs.toList).bind fun pl => (fillV (fun i => pl[i]?) z.cells ps).bind fun cs => K (.agg cs) H
      | some (.array _ e) => if (P.underlying e).isNone then none else (fillV (fun i => some (i * P.cellsOf e, P.cellsOf e)) z.cells ps).bind fun cs => K (.agg cs) H
      | _ => none) = some r) :
    ∃ c, (Instr.build t (parts.map fun (i, x) => (i, e x))).run P w = .ok c w ∧ Post N w0 ρ K r c w := by
  obtain ⟨z, h1, h2⟩ := Option.bind_eq_some_iff.1 hk
  obtain ⟨ps, h3, h4⟩ := Option.bind_eq_some_iff.1 h2
  obtain ⟨zx, z1, z2, _⟩ := zeroV_sound (ρ := ρ) h1
  have hp := evalP_sound hv _ _ h3
  have hzc := z2.cells
  split at h4
  · rename_i fs hu
    obtain ⟨pl, h0, h4'⟩ := Option.bind_eq_some_iff.1 h4
    obtain ⟨cs, h5, h6⟩ := Option.bind_eq_some_iff.1 h4'
    obtain ⟨ys, y1, y2, _⟩ := fillV_sound (place' := fun i => pl.toArray[i]?) (fun i => by simp) ps _ _ _ _ hp hzc h5
    refine ⟨.agg ys.toArray, ?_, Post.same h (.agg _ _ y2) h6⟩
    have y1' : Instr.fill (fun i => pl.toArray[i]?) zx.cells (parts.map fun (i, x) => (i, e x)).toList = some ys.toArray := by simpa using y1
    simp [Instr.build, z1, run_underlying hu, Array.mapM_eq_mapM_toList, run_placesOf w _ _ h0]
    simp at y1'
    rw [y1']
    rfl
  · rename_i n x hu
    split at h4
    · cases h4
    rename_i hd0
    obtain ⟨d, hd⟩ : ∃ d, P.underlying x = some d := by cases hx : P.underlying x with | none => simp [hx] at hd0 | some d => exact ⟨d, rfl⟩
    obtain ⟨cs, h5, h6⟩ := Option.bind_eq_some_iff.1 h4
    obtain ⟨ys, y1, y2, _⟩ := fillV_sound (place' := fun i => some (i * P.cellsOf x, P.cellsOf x)) (fun i => rfl) ps _ _ _ _ hp hzc h5
    refine ⟨.agg ys.toArray, ?_, Post.same h (.agg _ _ y2) h6⟩
    simp only [Instr.build, Sem.run_bind, z1, Result.andThen_ok, run_underlying hu, run_size hd]
    have y1' : Instr.fill (fun i => some (i * P.cellsOf x, P.cellsOf x)) zx.cells (parts.map fun (i, x) => (i, e x)).toList = some ys.toArray := by simpa using y1
    rw [y1']
    rfl
  · cases h4

theorem ev_buildSlice {R : Type} {r : R} {K : V → Heap → Option R} (h : HR N w0 ρ H w) {t : TypeId} {len : Nat} {parts : Array (Nat × Operand)} {val : Operand → Option V} {e : Operand → Value} (hv : ∀ x v, val x = some v → Rel ρ v (e x))
    (hk : (match P.underlying t with
      | some (.slice e) => if (P.underlying e).isNone then none else if len * P.cellsOf e > 2 ^ 24 then none else
        (zeroCellsV P e len).bind fun z => (evalP val parts.toList).bind fun ps =>
        (fillV (fun i => some (i * P.cellsOf e, P.cellsOf e)) z ps).bind fun cs => K (.sl ⟨some (H.next, 0), len, .ex len⟩) (H.new (.cells cs e false))
      | _ => none) = some r) :
    ∃ c w', (Instr.buildSlice t len (parts.map fun (i, x) => (i, e x))).run P w = .ok c w' ∧ Post N w0 ρ K r c w' := by
  split at hk
  · rename_i el hu
    split at hk
    · cases hk
    rename_i hd0
    obtain ⟨d, hd⟩ : ∃ d, P.underlying el = some d := by cases hx : P.underlying el with | none => simp [hx] at hd0 | some d => exact ⟨d, rfl⟩
    split at hk
    · cases hk
    rename_i hlim
    obtain ⟨z, h1, h2⟩ := Option.bind_eq_some_iff.1 hk
    obtain ⟨ps, h3, h4⟩ := Option.bind_eq_some_iff.1 h2
    obtain ⟨cs, h5, h6⟩ := Option.bind_eq_some_iff.1 h4
    have hp := evalP_sound hv _ _ h3
    obtain ⟨xs, x1, x2, x3⟩ := zeroCellsV_sound (ρ := ρ) h1
    obtain ⟨ys, y1, y2, y3⟩ := fillV_sound (place' := fun i => some (i * P.cellsOf el, P.cellsOf el)) (fun i => rfl) ps _ _ _ _ hp x1 h5
    have y1' : Instr.fill (fun i => some (i * P.cellsOf el, P.cellsOf el)) xs.toArray (parts.map fun (i, x) => (i, e x)).toList = some ys.toArray := by simpa using y1
    refine ⟨.slice (some ⟨w.heap.size, 0, none⟩) len len, w.alloc (.cells ys.toArray el), ?_, new_post h y2 h6 fun ρ' hρ => .sx _ _ _ _ _ _ hρ (Nat.le_refl _) (fun _ => rfl)⟩
    simp only [Instr.buildSlice, Sem.run_bind, run_underlying hu, Result.andThen_ok, run_size hd]
    rw [if_neg hlim]
    have e0 : (Array.range 0).map (fun i => (#[] : Array Value)[i % (#[] : Array Value).size]!) = ([] : List Value).toArray := by simp [Array.range]
    by_cases h0 : len * P.cellsOf el = 0
    · have hx0 : xs = [] := List.eq_nil_of_length_eq_zero (by omega)
      subst hx0
      rw [if_pos h0, h0, Sem.run_bind, Sem.run_pure, Result.andThen_ok, e0, y1']
      simp [newRow]
    · rcases x3 with ⟨h1, rfl⟩ | ⟨z, z1, z2, z3, _⟩
      · exact absurd h1 h0
      · rw [if_neg h0]
        simp only [Sem.run_bind, z1, Sem.run_pure, Result.andThen_ok, z3]
        rw [y1']
        simp [newRow]
  · cases hk

end
end Go.Proofs.YteipplgcdbaokaaDoor.AM
