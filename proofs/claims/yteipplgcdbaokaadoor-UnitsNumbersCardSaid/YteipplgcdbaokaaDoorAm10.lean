/- What the machine's maps and methods stand for. -/
import Derived.Test.YteipplgcdbaokaaDoorAm9
namespace Go.Proofs.YteipplgcdbaokaaDoor.AM
open Go Go.RowKit

section
variable {P : Program} {N : Nat} {w0 w : World} {ρ : Env} {H : Heap}

theorem checkKey_sound : ∀ (d n : Nat) (t : TypeId) (v : V) (x : Value) (em : Bool) (w : World), keyOk P d t = true → (∀ fs, P.underlying t = some (.struct fs) → ∃ vs, v = .agg vs ∧ vs.length = P.cellsOf t) → Rel ρ v x → d ≤ n →
    (Instr.checkKey em n t x).run P w = .ok () w := by
  intro d
  induction d with
  | zero => intro n t v x em w h; simp [keyOk] at h
  | succ d ih =>
    intro n t v x em w h hv hr hn
    obtain ⟨n, rfl⟩ : ∃ k, n = k + 1 := ⟨n - 1, by omega⟩
    unfold keyOk at h
    split at h
    · rename_i hu
      cases hr <;> simp [Instr.checkKey, run_underlying hu]
    · rename_i k hu
      cases hr <;> simp [Instr.checkKey, run_underlying hu]
    · rename_i hu
      cases hr <;> simp [Instr.checkKey, run_underlying hu]
    · rename_i fs hu
      obtain ⟨vs, rfl, hlen⟩ := hv fs hu
      cases hr with
      | agg _ xs hrs =>
      simp only [Instr.checkKey, Sem.run_bind, run_underlying hu, Result.andThen_ok]
      rw [← Array.forIn_toList]
      rw [List.all_eq_true] at h
      generalize fs.toList = l at h
      clear hu hv
      induction l with
      | nil => simp
      | cons f l ihl =>
        have hf := h f (by simp)
        simp only [Bool.and_eq_true, decide_eq_true_eq, bne_iff_ne, ne_eq] at hf
        obtain ⟨⟨⟨h1, h2⟩, h3⟩, h4⟩ := hf
        have ihl' := ihl (fun g hg => h g (by simp [hg]))
        simp only [List.forIn_cons, Sem.run_bind]
        have hpart : ∃ (y : Value) (u : V), (part f.type xs.toArray f.offset).run P w = .ok y w ∧ Rel ρ u y ∧ (∀ gs, P.underlying f.type = some (.struct gs) → ∃ us, u = .agg us ∧ us.length = P.cellsOf f.type) := by
          have hk := h2
          cases d with
          | zero => simp [keyOk] at hk
          | succ d =>
          unfold keyOk at hk
          cases hfu : P.underlying f.type with
          | none => rw [hfu] at hk; simp at hk
          | some dd =>
            by_cases hagg : isAggD dd = true
            · obtain ⟨y, hy, hry⟩ := partAgg hrs hfu hagg (by omega : f.offset + P.cellsOf f.type ≤ vs.length) w
              exact ⟨y, _, hy, hry, fun gs _ => ⟨_, rfl, by simp; omega⟩⟩
            · have hlt : f.offset < vs.length := by omega
              obtain ⟨y, hy, hry⟩ := partGet hrs hfu (by simpa using hagg) (List.getElem?_eq_getElem hlt) w
              refine ⟨y, _, hy, hry, fun gs hgs => ?_⟩
              rw [Option.some.inj hgs] at hagg
              simp [isAggD] at hagg
        obtain ⟨y, u, hy, hry, hsh⟩ := hpart
        rw [if_pos h1]
        simp only [Sem.run_bind, hy, Result.andThen_ok, ih n f.type u y em w h2 hsh hry (by omega), Sem.run_pure]
        exact ihl'
    · cases h

theorem keyV_check {t : TypeId} {v : V} {x : Value} (h : keyV P t v = true) (hr : Rel ρ v x) (em : Bool) (w : World) : (Instr.checkKey em 10000 t x).run P w = .ok () w := by
  unfold keyV at h
  simp only [Bool.and_eq_true] at h
  obtain ⟨h1, h2⟩ := h
  refine checkKey_sound 30 10000 t v x em w h1 (fun fs hfs => ?_) hr (by decide)
  rw [hfs] at h2
  cases v <;> simp at h2
  exact ⟨_, rfl, h2⟩

/-- entries as the machine has them and as they stand -/
def ERel (ρ : Env) : List (V × V × Nat) → List MapEntry → Prop
  | [], [] => True
  | (k, v, b) :: es, x :: xs => Rel ρ k x.key ∧ Rel ρ v x.val ∧ x.born = b ∧ ERel ρ es xs
  | _, _ => False
theorem ERel.length : ∀ {es : List (V × V × Nat)} {l : List MapEntry}, ERel ρ es l → es.length = l.length := by
  intro es
  induction es with
  | nil => intro l h; cases l with | nil => rfl | cons _ _ => exact h.elim
  | cons e es ih => intro l h; cases l with | nil => exact h.elim | cons x l => simp [ih h.2.2.2]
theorem ERel.get : ∀ {es : List (V × V × Nat)} {l : List MapEntry}, ERel ρ es l → ∀ (j : Nat) (k v : V) (b : Nat), es[j]? = some (k, v, b) → ∃ x, l[j]? = some x ∧ Rel ρ k x.key ∧ Rel ρ v x.val ∧ x.born = b := by
  intro es
  induction es with
  | nil => intro l h j k v b hj; simp at hj
  | cons e es ih =>
    intro l h j k v b hj
    cases l with
    | nil => exact h.elim
    | cons x l =>
      obtain ⟨k', v', b'⟩ := e
      cases j with
      | zero => simp at hj; obtain ⟨rfl, rfl, rfl⟩ := hj; exact ⟨x, rfl, h.1, h.2.1, h.2.2.1⟩
      | succ j => simp at hj; obtain ⟨y, hy, r⟩ := ih h.2.2.2 j k v b hj; exact ⟨y, by simpa using hy, r⟩
theorem ERel.of_get : ∀ {es : List (V × V × Nat)} {l : List MapEntry}, es.length = l.length → (∀ (j : Nat) (k v : V) (b : Nat), es[j]? = some (k, v, b) → ∃ x : MapEntry, l[j]? = some x ∧ Rel ρ k x.key ∧ Rel ρ v x.val ∧ x.born = b) → ERel ρ es l := by
  intro es
  induction es with
  | nil => intro l hl h; cases l with | nil => trivial | cons _ _ => simp at hl
  | cons e es ih =>
    intro l hl h
    cases l with
    | nil => simp at hl
    | cons x l =>
      obtain ⟨k, v, b⟩ := e
      obtain ⟨y, hy, h1, h2, h3⟩ := h 0 k v b rfl
      simp at hy; subst hy
      exact ⟨h1, h2, h3, ih (by simpa using hl) fun j k v b hj => by obtain ⟨y, hy, r⟩ := h (j + 1) k v b (by simpa using hj); exact ⟨y, by simpa using hy, r⟩⟩
theorem ERel.set {es : List (V × V × Nat)} {l : List MapEntry} (h : ERel ρ es l) (j : Nat) {k v : V} {b : Nat} {x : MapEntry} (h1 : Rel ρ k x.key) (h2 : Rel ρ v x.val) (h3 : x.born = b) : ERel ρ (es.set j (k, v, b)) (l.set j x) := by
  have hl := h.length
  refine ERel.of_get (by simp [hl]) fun i k' v' b' hi => ?_
  rw [List.getElem?_set] at hi ⊢
  split at hi
  · rename_i e; subst e
    split at hi
    · rename_i hlt
      obtain ⟨rfl, rfl, rfl⟩ : k = k' ∧ v = v' ∧ b = b' := by simpa using hi
      exact ⟨x, by rw [if_pos rfl, if_pos (by omega)], h1, h2, h3⟩
    · cases hi
  · rename_i e
    rw [if_neg e]; exact h.get i k' v' b' hi
theorem ERel.push {es : List (V × V × Nat)} {l : List MapEntry} (h : ERel ρ es l) {k v : V} {b : Nat} {x : MapEntry} (h1 : Rel ρ k x.key) (h2 : Rel ρ v x.val) (h3 : x.born = b) : ERel ρ (es ++ [(k, v, b)]) (l ++ [x]) := by
  induction es generalizing l with
  | nil => cases l with | nil => exact ⟨h1, h2, h3, trivial⟩ | cons _ _ => exact h.elim
  | cons e es ih => cases l with | nil => exact h.elim | cons y l => obtain ⟨k', v', b'⟩ := e; exact ⟨h.1, h.2.1, h.2.2.1, ih h.2.2.2⟩
theorem ERel.erase {es : List (V × V × Nat)} {l : List MapEntry} (h : ERel ρ es l) (j : Nat) : ERel ρ (es.eraseIdx j) (l.eraseIdx j) := by
  induction es generalizing l j with
  | nil => cases l with | nil => simpa using h | cons _ _ => exact h.elim
  | cons e es ih =>
    cases l with
    | nil => exact h.elim
    | cons y l =>
      obtain ⟨k', v', b'⟩ := e
      cases j with
      | zero => simpa using h.2.2.2
      | succ j => simp only [List.eraseIdx_cons_succ]; exact ⟨h.1, h.2.1, h.2.2.1, ih h.2.2.2 j⟩

def QRel (ρ : Env) : Option (Nat × V) → Option (Nat × Value) → Prop
  | none, none => True
  | some (i, v), some (j, x) => i = j ∧ Rel ρ v x
  | _, _ => False

theorem findAsking_sound {kt : TypeId} {k : V} {kx : Value} (hk : Rel ρ k kx) : ∀ (es : List (V × V × Nat)) (l : List MapEntry) (i : Nat) (q : Option (Nat × V)), ERel ρ es l → findE P kt k es i = some q →
    ∃ q', (∀ w : World, (Instr.findAsking kt kx l i).run P w = .ok q' w) ∧ QRel ρ q q' := by
  intro es
  induction es with
  | nil => intro l i q hr h; cases l with
    | nil => simp [findE] at h; subst h; exact ⟨none, fun w => by simp [Instr.findAsking], trivial⟩
    | cons _ _ => exact hr.elim
  | cons e es ih =>
    intro l i q hr h
    cases l with
    | nil => exact hr.elim
    | cons x l =>
      obtain ⟨k', v', b'⟩ := e
      simp only [findE] at h
      obtain ⟨r, h1, h2⟩ := Option.bind_eq_some_iff.1 h
      have he : ∀ w : World, (Op.equal kt kx x.key).run P w = .ok r w := fun w => eqV_sound 30 Op.maxDepth kt k k' kx x.key r w h1 hk hr.1 (by decide)
      cases r with
      | true =>
        simp at h2; subst h2
        exact ⟨some (i, x.val), fun w => by simp [Instr.findAsking, he w], rfl, hr.2.1⟩
      | false =>
        simp at h2
        obtain ⟨q', hq, hrel⟩ := ih l (i + 1) q hr.2.2.2 h2
        exact ⟨q', fun w => by simp [Instr.findAsking, he w, hq w], hrel⟩

theorem sameNow_sound {kt : TypeId} {kind : TypeDesc} (hu : P.underlying kt = some kind) {k k' : V} {x y : Value} {b r : Bool} (hk : Rel ρ k x) (hk' : Rel ρ k' y) (h : Instr.sameNow kind x y = some b) (he : eqV P 30 kt k k' = some r) : b = r := by
  unfold eqV at he
  rw [hu] at he
  unfold Instr.sameNow at h
  split at h
  · cases hk; cases hk'
    simp only at he
    obtain ⟨p, hp, h1⟩ := Option.bind_eq_some_iff.1 he
    obtain ⟨q, hq, h2⟩ := Option.bind_eq_some_iff.1 h1
    obtain ⟨_, rfl⟩ : _ ∧ _ = p := by simpa [V.asI] using hp
    obtain ⟨_, rfl⟩ : _ ∧ _ = q := by simpa [V.asI] using hq
    split at h
    · simp at h h2; rw [← h, ← h2]
    · cases h
  · cases hk; cases hk'
    simp [V.asS, strEq] at he
    simp [beq_toListBytes] at h
    rw [← h, ← he]
  · cases hk; cases hk'
    simp [V.asB] at he
    simp at h
    rw [← h, ← he]
  · cases h

theorem findNow_sound {kt : TypeId} {kind : TypeDesc} (hu : P.underlying kt = some kind) {k : V} {kx : Value} (hk : Rel ρ k kx) : ∀ (es : List (V × V × Nat)) (l : List MapEntry) (i : Nat) (q : Option (Nat × V)) (q' : Option (Nat × Value)), ERel ρ es l → findE P kt k es i = some q →
    Instr.findNow kind kx l i = some q' → QRel ρ q q' := by
  intro es
  induction es with
  | nil => intro l i q q' hr h h'; cases l with
    | nil => simp [findE] at h; subst h; simp [Instr.findNow] at h'; subst h'; trivial
    | cons _ _ => exact hr.elim
  | cons e es ih =>
    intro l i q q' hr h h'
    cases l with
    | nil => exact hr.elim
    | cons x l =>
      obtain ⟨kk, v', b'⟩ := e
      simp only [findE] at h
      obtain ⟨r, h1, h2⟩ := Option.bind_eq_some_iff.1 h
      unfold Instr.findNow at h'
      split at h'
      · rename_i hs
        have := sameNow_sound hu hk hr.1 hs h1
        subst this
        simp at h2 h'; subst h2; subst h'
        exact ⟨rfl, hr.2.1⟩
      · rename_i hs
        have := sameNow_sound hu hk hr.1 hs h1
        subst this
        simp at h2
        exact ih l (i + 1) q q' hr.2.2.2 h2 h'
      · cases h'

theorem findKey_sound {kt : TypeId} {kind : TypeDesc} (hu : P.underlying kt = some kind) {k : V} {kx : Value} (hk : Rel ρ k kx) {es : List (V × V × Nat)} {l : List MapEntry} {q : Option (Nat × V)} (hr : ERel ρ es l) (h : findE P kt k es 0 = some q) :
    ∃ q', (∀ w : World, (Instr.findKey kt kx l).run P w = .ok q' w) ∧ QRel ρ q q' := by
  cases hn : Instr.findNow kind kx l 0 with
  | some q' => exact ⟨q', fun w => by simp [Instr.findKey, run_underlying hu, hn], findNow_sound hu hk es l 0 q q' hr h hn⟩
  | none =>
    obtain ⟨q', h1, h2⟩ := findAsking_sound hk es l 0 q hr h
    exact ⟨q', fun w => by simp [Instr.findKey, run_underlying hu, hn, h1 w], h2⟩

theorem findE_at {kt : TypeId} {k : V} : ∀ (es : List (V × V × Nat)) (i j : Nat) (v : V), findE P kt k es i = some (some (j, v)) → i ≤ j ∧ ∃ k' b, es[j - i]? = some (k', v, b) ∧ eqV P 30 kt k k' = some true := by
  intro es
  induction es with
  | nil => intro i j v h; simp [findE] at h
  | cons e es ih =>
    intro i j v h
    obtain ⟨k', v', b'⟩ := e
    simp only [findE] at h
    obtain ⟨r, h1, h2⟩ := Option.bind_eq_some_iff.1 h
    cases r with
    | true =>
      simp at h2
      obtain ⟨rfl, rfl⟩ := h2
      exact ⟨Nat.le_refl _, k', b', by simp, h1⟩
    | false =>
      simp at h2
      obtain ⟨hle, k2, b2, h3, h4⟩ := ih (i + 1) j v h2
      refine ⟨by omega, k2, b2, ?_, h4⟩
      rw [show j - i = (j - (i + 1)) + 1 by omega]; simpa using h3

theorem keySames_bits : ∀ (vs us : List V) (xs ys : List Value), keySames vs us = true → Rels ρ vs xs → Rels ρ us ys → ∀ n, (ys.toArray.size == xs.toArray.size && (ys.toArray.toList.zip xs.toArray.toList).all fun (x, y) => Instr.sameBits n x y) = true := by
  intro vs us
  induction vs generalizing us with
  | nil =>
    intro xs ys h h1 h2 n
    cases us with
    | nil => cases h1; cases h2; simp
    | cons _ _ => simp [keySames] at h
  | cons v vs ih =>
    intro xs ys h h1 h2 n
    cases us with
    | nil => cases v <;> simp [keySames] at h
    | cons u us =>
      cases h1 with
      | cons _ x _ xs r1 h1 =>
      cases h2 with
      | cons _ y _ ys r2 h2 =>
      have key : ∀ (hh : keySames vs us = true), Instr.sameBits n y x = true → ((y :: ys).toArray.size == (x :: xs).toArray.size && ((y :: ys).toArray.toList.zip (x :: xs).toArray.toList).all fun (x, y) => Instr.sameBits n x y) = true := by
        intro hh hb
        have := ih us xs ys hh h1 h2 n
        simp only [List.size_toArray, Bool.and_eq_true, beq_iff_eq] at this ⊢
        simp only [List.length_cons, List.zip_cons_cons, List.all_cons, hb, Bool.true_and]
        exact ⟨by omega, this.2⟩
      cases v <;> cases u <;> simp [keySames] at h <;> cases r1 <;> cases r2
      · obtain ⟨rfl, hh⟩ := h; exact key hh (by simp [Instr.sameBits])
      · obtain ⟨⟨rfl, rfl⟩, hh⟩ := h; exact key hh (by simp [Instr.sameBits])
      · obtain ⟨rfl, hh⟩ := h; exact key hh (by simp [Instr.sameBits, beq_toListBytes])

/-- equal keys: the one that stays is the new one -/
theorem keyThatStays_sound {kt : TypeId} {k k' : V} {x y : Value} (hk : Rel ρ k x) (hk' : Rel ρ k' y) (he : eqV P 30 kt k k' = some true) (hs : keySame k k' = true) (hok : keyOk P 30 kt = true) (w : World) : (Instr.keyThatStays y x).run P w = .ok x w := by
  have hb : Instr.sameBits 10000 y x = true := by
    unfold eqV at he
    unfold keyOk at hok
    cases hu : P.underlying kt with
    | none => rw [hu] at hok; simp at hok
    | some d =>
      rw [hu] at he hok
      cases d <;> simp only at hok he <;> try (cases hok; done)
      case bool =>
        obtain ⟨p, hp, h1⟩ := Option.bind_eq_some_iff.1 he
        obtain ⟨q, hq, h2⟩ := Option.bind_eq_some_iff.1 h1
        obtain rfl := V.asB_eq hp; obtain rfl := V.asB_eq hq
        cases hk; cases hk'
        simp at h2; subst h2
        simp [Instr.sameBits]
      case int kk =>
        obtain ⟨p, hp, h1⟩ := Option.bind_eq_some_iff.1 he
        obtain ⟨q, hq, h2⟩ := Option.bind_eq_some_iff.1 h1
        obtain rfl := V.asI_eq hp; obtain rfl := V.asI_eq hq
        cases hk; cases hk'
        simp at h2; subst h2
        simp [Instr.sameBits]
      case string =>
        obtain ⟨p, hp, h1⟩ := Option.bind_eq_some_iff.1 he
        obtain ⟨q, hq, h2⟩ := Option.bind_eq_some_iff.1 h1
        obtain rfl := V.asS_eq hp; obtain rfl := V.asS_eq hq
        cases hk; cases hk'
        simp [strEq] at h2
        simp only [Instr.sameBits]
        rw [beq_toListBytes]; simp [h2]
      case struct fs =>
        split at he
        · cases he
        · obtain ⟨p, hp, h1⟩ := Option.bind_eq_some_iff.1 he
          obtain ⟨q, hq, h2⟩ := Option.bind_eq_some_iff.1 h1
          obtain rfl := V.asAgg_eq hp; obtain rfl := V.asAgg_eq hq
          cases hk with
          | agg _ xs hxs =>
          cases hk' with
          | agg _ ys hys =>
          have := keySames_bits (ρ := ρ) p q xs ys hs hxs hys 9999
          exact this
  simp [Instr.keyThatStays, hb]

end
end Go.Proofs.YteipplgcdbaokaaDoor.AM
