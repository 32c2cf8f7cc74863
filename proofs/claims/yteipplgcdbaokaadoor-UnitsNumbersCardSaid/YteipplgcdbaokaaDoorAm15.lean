/- Every operation of the machine stands for the model's: maps, calls, and all together. -/
import Derived.Test.YteipplgcdbaokaaDoorAm14
namespace Go.Proofs.YteipplgcdbaokaaDoor.AM
open Go Go.RowKit

section
variable {P : Program} {N : Nat} {w0 w : World} {ρ : Env} {H : Heap}

theorem keyV_kind {kt : TypeId} {k : V} (h : keyV P kt k = true) : ∃ kind, P.underlying kt = some kind := by
  unfold keyV keyOk at h
  cases hx : P.underlying kt with
  | none => simp [hx] at h
  | some d => exact ⟨d, rfl⟩
theorem keyV_ok {kt : TypeId} {k : V} (h : keyV P kt k = true) : keyOk P 30 kt = true := by
  unfold keyV at h; simp only [Bool.and_eq_true] at h; exact h.1

/-- where a key stands in a map -/
theorem find_sound (h : HR N w0 ρ H w) {id : Nat} {mm : List (V × V × Nat) × Nat} {b : Base} (hg : getMap H (some id) = some mm) (hb : ρ id = some b) {kt : TypeId} {k : V} {kx : Value} (hkv : keyV P kt k = true) (hkr : Rel ρ k kx)
    {q : Option (Nat × V)} (hq : findE P kt k mm.1 0 = some q) :
    ∃ (l : List MapEntry) (q' : Option (Nat × Value)), w.heap[b.blk]? = some (.map l.toArray mm.2) ∧ ERel ρ mm.1 l ∧ (∀ w' : World, (Instr.findKey kt kx l).run P w' = .ok q' w') ∧ QRel ρ q q' := by
  obtain ⟨l, hl, he⟩ := map_obj h (getMap_some hg) hb
  obtain ⟨kind, hk⟩ := keyV_kind hkv
  obtain ⟨q', h1, h2⟩ := findKey_sound hk hkr he hq
  exact ⟨l, q', hl, he, h1, h2⟩

theorem ev_lookup {R : Type} {r : R} {K : V → Heap → Option R} (h : HR N w0 ρ H w) {t : TypeId} {ok : Bool} {m k : V} {mx kx : Value} (hm : Rel ρ m mx) (hkr : Rel ρ k kx)
    (hk : (match P.underlying t with
      | some (.map kt et) => if keyV P kt k then m.asM.bind fun r => (getMap H r).bind fun mm => (findE P kt k mm.1 0).bind fun q => match q with
        | some (_, v) => exT P et v fun v => K (if ok then .tup [v, .b true] else v) H
        | none => (zeroV P et).bind fun z => K (if ok then .tup [z, .b false] else z) H
        else none
      | _ => none) = some r) :
    ∃ c, (Instr.lookup t mx kx ok).run P w = .ok c w ∧ Post N w0 ρ K r c w := by
  split at hk
  · rename_i kt et hu
    split at hk
    · rename_i hkv
      obtain ⟨rr, h1, h2⟩ := Option.bind_eq_some_iff.1 hk
      obtain rfl := V.asM_eq h1
      obtain ⟨mm, h3, h4⟩ := Option.bind_eq_some_iff.1 h2
      obtain ⟨q, h5, h6⟩ := Option.bind_eq_some_iff.1 h4
      have fin : ∀ (es : Array MapEntry) (q' : Option (Nat × Value)), (∀ w' : World, (Instr.findKey kt kx es.toList).run P w' = .ok q' w') → QRel ρ q q' →
          (mx = .map none ∧ es = #[] ∨ ∃ rr ck, mx = .map (some rr) ∧ w.heap[rr]? = some (.map es ck)) → ∃ c, (Instr.lookup t mx kx ok).run P w = .ok c w ∧ Post N w0 ρ K r c w := by
        intro es q' hq hrel hmx
        cases q with
        | some p =>
          obtain ⟨j, v⟩ := p
          cases q' with
          | none => exact hrel.elim
          | some p' =>
            obtain ⟨j', x⟩ := p'
            obtain ⟨rfl, hvx⟩ := hrel
            have h7 := exT_sound h6
            cases ok
            · refine ⟨x, ?_, Post.same h hvx h7⟩
              rcases hmx with ⟨rfl, rfl⟩ | ⟨rr', ck, rfl, hl⟩
              · simp at hq; simp [Instr.lookup, run_underlying hu, keyV_check hkv hkr, hq]
              · simp [Instr.lookup, run_underlying hu, keyV_check hkv hkr, hq, run_getObj_map hl]
            · refine ⟨.tuple #[x, .bool true], ?_, Post.same h (.tup _ [x, .bool true] (.cons _ _ _ _ hvx (.cons _ _ _ _ (.b _) .nil))) h7⟩
              rcases hmx with ⟨rfl, rfl⟩ | ⟨rr', ck, rfl, hl⟩
              · simp at hq; simp [Instr.lookup, run_underlying hu, keyV_check hkv hkr, hq]
              · simp [Instr.lookup, run_underlying hu, keyV_check hkv hkr, hq, run_getObj_map hl]
        | none =>
          cases q' with
          | some _ => exact hrel.elim
          | none =>
            obtain ⟨z, h7, h8⟩ := Option.bind_eq_some_iff.1 h6
            obtain ⟨x, hx, hxr, _⟩ := zeroV_sound (ρ := ρ) h7
            cases ok
            · refine ⟨x, ?_, Post.same h hxr h8⟩
              rcases hmx with ⟨rfl, rfl⟩ | ⟨rr', ck, rfl, hl⟩
              · simp at hq; simp [Instr.lookup, run_underlying hu, keyV_check hkv hkr, hq, hx]
              · simp [Instr.lookup, run_underlying hu, keyV_check hkv hkr, hq, hx, run_getObj_map hl]
            · refine ⟨.tuple #[x, .bool false], ?_, Post.same h (.tup _ [x, .bool false] (.cons _ _ _ _ hxr (.cons _ _ _ _ (.b _) .nil))) h8⟩
              rcases hmx with ⟨rfl, rfl⟩ | ⟨rr', ck, rfl, hl⟩
              · simp at hq; simp [Instr.lookup, run_underlying hu, keyV_check hkv hkr, hq, hx]
              · simp [Instr.lookup, run_underlying hu, keyV_check hkv hkr, hq, hx, run_getObj_map hl]
      cases rr with
      | none =>
        cases hm
        simp [getMap] at h3; subst h3
        obtain ⟨kind, hkd⟩ := keyV_kind hkv
        obtain ⟨q', q1, q2⟩ := findKey_sound (P := P) (ρ := ρ) hkd hkr (es := []) (l := []) trivial h5
        exact fin #[] q' q1 q2 (.inl ⟨rfl, rfl⟩)
      | some id =>
        obtain ⟨b, hb, rfl⟩ := hm.m'
        obtain ⟨l, q', hl, _, q1, q2⟩ := find_sound h h3 hb hkv hkr h5
        exact fin l.toArray q' q1 q2 (.inr ⟨_, _, rfl, hl⟩)
    · cases hk
  · cases hk

theorem modify_set {l : List MapEntry} {j : Nat} {x : MapEntry} (f : MapEntry → MapEntry) (hx : l[j]? = some x) : l.modify j f = l.set j (f x) := by
  apply List.ext_getElem?
  intro i
  rw [List.getElem?_modify, List.getElem?_set]
  by_cases h : j = i
  · subst h
    obtain ⟨hlt, hxx⟩ := List.getElem?_eq_some_iff.1 hx
    simp [hlt, hxx]
  · simp [h]

theorem mapSet_sound {R : Type} {r : R} {K : V → Heap → Option R} (h : HR N w0 ρ H w) {t : TypeId} {m k v : V} {mx kx x : Value} (hm : Rel ρ m mx) (hkr : Rel ρ k kx) (hv : Rel ρ v x) (hk : mapSet P H t m k v K = some r) :
    ∃ w', (Instr.mapUpdate t mx kx x).run P w = .ok () w' ∧ Post N w0 ρ K r undef w' := by
  unfold mapSet at hk
  split at hk
  · rename_i kt et hu
    split at hk
    · rename_i hkv
      obtain ⟨rr, h1, h2⟩ := Option.bind_eq_some_iff.1 hk
      obtain rfl := V.asM_eq h1
      split at h2
      · cases h2
      rename_i id
      obtain ⟨b, hb, rfl⟩ := hm.m'
      obtain ⟨mm, h3, h4⟩ := Option.bind_eq_some_iff.1 h2
      obtain ⟨q, h5, h6⟩ := Option.bind_eq_some_iff.1 h4
      obtain ⟨l, q', hl, he, q1, q2⟩ := find_sound h h3 hb hkv hkr h5
      have ho := getMap_some h3
      cases q with
      | some p =>
        obtain ⟨j, v0⟩ := p
        cases q' with
        | none => exact q2.elim
        | some p' =>
          obtain ⟨j', x0⟩ := p'
          obtain ⟨rfl, _⟩ := q2
          simp only at h6
          split at h6
          · rename_i k' v1 born hj
            split at h6
            · rename_i hks
              obtain ⟨_, k2, b2, hj2, heq⟩ := findE_at _ _ _ _ h5
              rw [Nat.sub_zero, hj] at hj2
              obtain ⟨rfl, rfl, rfl⟩ : k' = k2 ∧ v1 = v0 ∧ born = b2 := by simpa using hj2
              obtain ⟨y, hy, y1, y2, y3⟩ := he.get j _ _ _ hj
              have hst := keyThatStays_sound hkr y1 heq hks (keyV_ok hkv) w
              have hset := he.set j (k := k) (v := v) (b := born) (x := { y with key := kx, val := x }) hkr hv y3
              have hw := map_write (P := P) h ho hb hset (ck' := mm.2)
              refine ⟨_, ?_, _, _, ρ, ρ.le_refl, rel_undef, hw.2, h6⟩
              have hmod := modify_set (l := l) (j := j) (fun e => { e with key := kx, val := x }) hy
              simp [Instr.mapUpdate, run_underlying hu, run_getObj_map hl, keyV_check hkv hkr, q1, hy, hst, hmod, hw.1]
            · cases h6
          · cases h6
      | none =>
        cases q' with
        | some _ => exact q2.elim
        | none =>
          have hp := he.push (k := k) (v := v) (b := mm.2) (x := { key := kx, val := x, born := mm.2 }) hkr hv rfl
          have hw := map_write (P := P) h ho hb hp (ck' := mm.2 + 1)
          refine ⟨_, ?_, _, _, ρ, ρ.le_refl, rel_undef, hw.2, h6⟩
          simp [Instr.mapUpdate, run_underlying hu, run_getObj_map hl, keyV_check hkv hkr, q1]
          exact hw.1
    · cases hk
  · cases hk

theorem ev_mapEntry {R : Type} {r : R} {K : V → Heap → Option R} (h : HR N w0 ρ H w) {t : TypeId} {m k : V} {mx kx : Value} (hm : Rel ρ m mx) (hkr : Rel ρ k kx)
    (hk : (match P.underlying t with
    | some (.map kt et) => if keyV P kt k then m.asM.bind fun r => match r with
      | none => none
      | some id => (getMap H (some id)).bind fun mm => (findE P kt k mm.1 0).bind fun q => match q with
        | some (j, v) => match mm.1[j]? with
          | some (k', _, born) => if keySame k k' then exT P et v fun v => K (.tup [v, .i .i64 born]) (H.put id (.map (mm.1.set j (k, v, born)) mm.2)) else none
          | none => none
        | none => (zeroV P et).bind fun z => K (.tup [z, .i .i64 mm.2]) (H.put id (.map (mm.1 ++ [(k, z, mm.2)]) (mm.2 + 1)))
      else none
    | _ => none) = some r) :
    ∃ c w', (Instr.mapEntry t mx kx).run P w = .ok c w' ∧ Post N w0 ρ K r c w' := by
  split at hk
  · rename_i kt et hu
    split at hk
    · rename_i hkv
      obtain ⟨rr, h1, h2⟩ := Option.bind_eq_some_iff.1 hk
      obtain rfl := V.asM_eq h1
      split at h2
      · cases h2
      rename_i id
      obtain ⟨b, hb, rfl⟩ := hm.m'
      obtain ⟨mm, h3, h4⟩ := Option.bind_eq_some_iff.1 h2
      obtain ⟨q, h5, h6⟩ := Option.bind_eq_some_iff.1 h4
      obtain ⟨l, q', hl, he, q1, q2⟩ := find_sound h h3 hb hkv hkr h5
      have ho := getMap_some h3
      cases q with
      | some p =>
        obtain ⟨j, v0⟩ := p
        cases q' with
        | none => exact q2.elim
        | some p' =>
          obtain ⟨j', x0⟩ := p'
          obtain ⟨rfl, hvx⟩ := q2
          simp only at h6
          split at h6
          · rename_i k' v1 born hj
            split at h6
            · rename_i hks
              obtain ⟨_, k2, b2, hj2, heq⟩ := findE_at _ _ _ _ h5
              rw [Nat.sub_zero, hj] at hj2
              obtain ⟨rfl, rfl, rfl⟩ : k' = k2 ∧ v1 = v0 ∧ born = b2 := by simpa using hj2
              obtain ⟨y, hy, y1, y2, y3⟩ := he.get j _ _ _ hj
              subst y3
              have hst := keyThatStays_sound hkr y1 heq hks (keyV_ok hkv) w
              have hset := he.set j (k := k) (v := v1) (b := y.born) (x := { y with key := kx }) hkr y2 rfl
              have hw := map_write (P := P) h ho hb hset (ck' := mm.2)
              refine ⟨.tuple #[x0, .int .i64 y.born], _, ?_, _, _, ρ, ρ.le_refl, .tup _ [x0, .int .i64 y.born] (.cons _ _ _ _ hvx (.cons _ _ _ _ (.i _ _) .nil)), hw.2, exT_sound h6⟩
              have hmod := modify_set (l := l) (j := j) (fun e => { e with key := kx }) hy
              simp [Instr.mapEntry, run_underlying hu, run_getObj_map hl, keyV_check hkv hkr, q1, hy, hst, hmod, hw.1, goInt]
            · cases h6
          · cases h6
      | none =>
        cases q' with
        | some _ => exact q2.elim
        | none =>
          obtain ⟨z, h7, h8⟩ := Option.bind_eq_some_iff.1 h6
          obtain ⟨zx, z1, z2, _⟩ := zeroV_sound (ρ := ρ) h7
          have hp := he.push (k := k) (v := z) (b := mm.2) (x := { key := kx, val := zx, born := mm.2 }) hkr z2 rfl
          have hw := map_write (P := P) h ho hb hp (ck' := mm.2 + 1)
          refine ⟨.tuple #[zx, .int .i64 mm.2], _, ?_, _, _, ρ, ρ.le_refl, .tup _ [zx, .int .i64 mm.2] (.cons _ _ _ _ z2 (.cons _ _ _ _ (.i _ _) .nil)), hw.2, h8⟩
          simp [Instr.mapEntry, run_underlying hu, run_getObj_map hl, keyV_check hkv hkr, q1, z1, hw.1, goInt]
    · cases hk
  · cases hk

theorem findBorn_sound {n : Int} : ∀ (es : List (V × V × Nat)) (l : List MapEntry) (i j : Nat), ERel ρ es l → findBorn n es i = some j → i ≤ j ∧ l.findIdx? (fun e => (e.born : Int) == n) = some (j - i) ∧ j - i < es.length := by
  intro es
  induction es with
  | nil => intro l i j _ h; simp [findBorn] at h
  | cons e es ih =>
    intro l i j hr h
    cases l with
    | nil => exact hr.elim
    | cons x l =>
      obtain ⟨k, v, b⟩ := e
      simp only [findBorn] at h
      have hb := hr.2.2.1
      split at h
      · rename_i hbn
        obtain rfl : i = j := by simpa using h
        refine ⟨Nat.le_refl _, ?_, by simp⟩
        simp [List.findIdx?_cons, hb, hbn]
      · rename_i hbn
        obtain ⟨h1, h2, h3⟩ := ih l (i + 1) j hr.2.2.2 h
        refine ⟨by omega, ?_, by simp; omega⟩
        simp only [List.findIdx?_cons, hb]
        have : ((b : Int) == n) = false := by simpa using hbn
        simp only [this, Bool.false_eq_true, if_false, h2, Option.map_some]
        congr 1; omega

theorem ev_entryStore {R : Type} {r : R} {K : V → Heap → Option R} (h : HR N w0 ρ H w) {t : TypeId} {m s v : V} {mx sx x : Value} (hm : Rel ρ m mx) (hs : Rel ρ s sx) (hv : Rel ρ v x)
    (hk : (m.asM.bind fun r => match (generalizing := false) r, s with
    | some id, .i _ n => (getMap H (some id)).bind fun mm => (findBorn n mm.1 0).bind fun j => match mm.1[j]? with
      | some (k, _, born) => K (.tup []) (H.put id (.map (mm.1.set j (k, v, born)) mm.2))
      | none => none
    | _, _ => none) = some r) :
    ∃ w', (Instr.entryStore t mx sx x).run P w = .ok () w' ∧ Post N w0 ρ K r undef w' := by
  obtain ⟨rr, h1, h2⟩ := Option.bind_eq_some_iff.1 hk
  obtain rfl := V.asM_eq h1
  split at h2
  · rename_i id kk n
    cases hs
    obtain ⟨b, hb, rfl⟩ := hm.m'
    obtain ⟨mm, h3, h4⟩ := Option.bind_eq_some_iff.1 h2
    obtain ⟨j, h5, h6⟩ := Option.bind_eq_some_iff.1 h4
    have ho := getMap_some h3
    obtain ⟨l, hl, he⟩ := map_obj h ho hb
    obtain ⟨_, hf, _⟩ := findBorn_sound _ _ _ _ he h5
    rw [Nat.sub_zero] at hf
    split at h6
    · rename_i k v0 born hj
      obtain ⟨y, hy, y1, y2, y3⟩ := he.get j _ _ _ hj
      have hset := he.set j (k := k) (v := v) (b := born) (x := { y with val := x }) y1 hv y3
      have hw := map_write (P := P) h ho hb hset (ck' := mm.2)
      refine ⟨_, ?_, _, _, ρ, ρ.le_refl, rel_undef, hw.2, h6⟩
      have hmod := modify_set (l := l) (j := j) (fun e => { e with val := x }) hy
      have hf' : l.toArray.findIdx? (fun e => (e.born : Int) == n) = some j := by simpa using hf
      simp [Instr.entryStore, run_getObj_map hl, asInt, asIntOf, hf', hmod, hw.1]
    · cases h6
  · cases h2

end
end Go.Proofs.YteipplgcdbaokaaDoor.AM
