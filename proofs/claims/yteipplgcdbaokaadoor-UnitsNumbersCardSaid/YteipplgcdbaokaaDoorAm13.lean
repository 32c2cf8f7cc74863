/- What the machine's built-in functions and maps stand for. -/
import Derived.Test.YteipplgcdbaokaaDoorAm12
import Derived.Lib.UnsafeStr
namespace Go.Proofs.YteipplgcdbaokaaDoor.AM
open Go Go.RowKit

section
variable {P : Program} {N : Nat} {w0 w : World} {ρ : Env} {H : Heap}

theorem getMap_some {id : Nat} {mm : List (V × V × Nat) × Nat} (h : getMap H (some id) = some mm) : H.get id = some (.map mm.1 mm.2) := by
  simp only [getMap] at h
  split at h
  · rename_i es c ho
    simp at h; subst h; exact ho
  · cases h

theorem minV_sound {R : Type} {r : R} {mx : Bool} : ∀ (vs : List V) (v : V) (x : Value) (xs : List Value) (K : V → Option R), minV mx v vs K = some r → Rel ρ v x → Rels ρ vs xs →
    ∃ u y, (xs.foldlM (if mx then Builtin.max2 else Builtin.min2) x).run P w = .ok y w ∧ Rel ρ u y ∧ K u = some r := by
  intro vs
  induction vs with
  | nil =>
    intro v x xs K h hr hrs
    cases hrs
    have h' : K v = some r := by cases v <;> simpa [minV] using h
    exact ⟨v, x, by simp, hr, h'⟩
  | cons u vs ih =>
    intro v x xs K h hr hrs
    cases hrs with
    | cons _ y _ ys h1 h2 =>
    unfold minV at h
    split at h
    · rename_i heq; cases heq
    · rename_i k n j m us heq
      cases heq
      cases hr; cases h1
      obtain ⟨u', y', e1, e2, e3⟩ := ih _ _ _ _ h (.i k _) h2
      refine ⟨u', y', ?_, e2, e3⟩
      cases mx
      · simp only [Bool.false_eq_true, if_false, List.foldlM_cons, Sem.run_bind, Builtin.min2, Sem.run_pure, Result.andThen_ok] at e1 ⊢
        exact e1
      · simp only [if_true, List.foldlM_cons, Sem.run_bind, Builtin.max2, Sem.run_pure, Result.andThen_ok] at e1 ⊢
        exact e1
    · cases h

theorem rels_one {a : V} {xs : List Value} (h : Rels ρ [a] xs) : ∃ x, xs = [x] ∧ Rel ρ a x := by
  cases h with | cons _ x _ _ h1 h2 => cases h2; exact ⟨x, rfl, h1⟩
theorem rels_two {a b : V} {xs : List Value} (h : Rels ρ [a, b] xs) : ∃ x y, xs = [x, y] ∧ Rel ρ a x ∧ Rel ρ b y := by
  cases h with | cons _ x _ _ h1 h2 => obtain ⟨y, rfl, h3⟩ := rels_one h2; exact ⟨x, y, rfl, h1, h3⟩

theorem Rel.shorter {y : Sl} {a : Option Addr} {len cap n : Nat} (h : Rel ρ (.sl y) (.slice a len cap)) (hn : n ≤ len) : Rel ρ (.sl ⟨y.a, n, y.cap⟩) (.slice a n cap) := by
  cases h with
  | sn => obtain rfl : n = 0 := by omega
          exact .sn
  | sx id off _ _ b a hb hle ha => exact .sx id off n cap b a hb (by omega) ha
  | so id off _ sz _ b a hb hle hml hsz ha => exact .so id off n sz cap b a hb (by omega) hml hsz ha

theorem rels_bytes (l : List UInt8) : Rels ρ (l.map fun x => V.i .u8 x.toNat) (l.map fun x => Value.int .u8 x.toNat) := by
  induction l with
  | nil => exact .nil
  | cons x l ih => exact .cons _ _ _ _ (.i _ _) ih

theorem firstCells_str (s : ByteArray) (n : Nat) (sz : Nat) (w : World) : (Builtin.firstCells sz n (.string s)).run P w = .ok ((s.data.toList.take n).map fun x => Value.int .u8 x.toNat).toArray w := by
  simp only [Builtin.firstCells, Sem.run_pure]
  congr 1
  apply Array.ext'
  simp [ByteArray.data_extract, List.extract_eq_take_drop]

/-- zeros appended: within the capacity -/
theorem run_append_fit0 {t u ty e : TypeId} {k k' : IntKind} {i : TypeInfo} {n : Int} {zs : List Value} (ht : P.underlying t = some (.slice e)) (hu : P.underlying u = some (.int k)) (hi : P.info? e = some i)
    (base : Option Addr) (len cap : Nat) (h0 : 0 ≤ n) (h63 : n ≤ 9223372036854775807) (h48 : n * i.bytes ≤ 281474976710656)
    (hz : (n.toNat * i.size = 0 ∧ zs = []) ∨ ∃ z, (∀ w : World, (zeroValue e).run P w = .ok z w) ∧ Builtin.zeroCells z.cells n.toNat = zs.toArray ∧ n.toNat * i.size ≠ 0) (hfit : len + n.toNat ≤ cap) :
    (Builtin.append_ #[t, u] ty #[.slice base len cap, .int k' n]).run P w = match base with
      | some a => ((storeCells (a.add (len * i.size)) zs).run P w).andThen fun _ w' => .ok (.slice base (len + n.toNat) cap) w'
      | none => .ok (.slice none (len + n.toNat) cap) w := by
  have hw : IntKind.i64.wrap n = n := by
    unfold IntKind.wrap IntKind.bits IntKind.signed
    simp only []
    rw [Int.emod_eq_of_lt h0 (by omega)]
    simp; omega
  have h1 : ¬ n < 0 := by omega
  have h2 : ¬ (281474976710656 < n * (i.bytes : Int)) := by omega
  rcases hz with ⟨z0, rfl⟩ | ⟨z, z1, z2, z3⟩
  · cases base <;> simp [Builtin.append_, run_underlying ht, run_underlying hu, sizeOf, typeInfo, hi, asInt, asIntOf, hw, h1, h2, hfit, z0]
  · cases base <;> simp [Builtin.append_, run_underlying ht, run_underlying hu, sizeOf, typeInfo, hi, asInt, asIntOf, hw, h1, h2, hfit, z1, z2, z3]

theorem run_append_over0 {t u ty e : TypeId} {k k' : IntKind} {i : TypeInfo} {z0 : Value} {n : Int} {zs olds : List Value} (ht : P.underlying t = some (.slice e)) (hu : P.underlying u = some (.int k)) (hi : P.info? e = some i) (hiz : i.zero = some z0)
    (base : Option Addr) (len cap : Nat) (h0 : 0 ≤ n) (h63n : n ≤ 9223372036854775807) (h48 : n * i.bytes ≤ 281474976710656)
    (hz : (n.toNat * i.size = 0 ∧ zs = []) ∨ ∃ z, (∀ w : World, (zeroValue e).run P w = .ok z w) ∧ Builtin.zeroCells z.cells n.toNat = zs.toArray ∧ n.toNat * i.size ≠ 0)
    (ho : ∀ w' : World, w'.heap = w.heap → (Builtin.firstCells i.size len (.slice base len cap)).run P w' = .ok olds.toArray w')
    (hover : cap < len + n.toNat) (h63 : len + n.toNat ≤ 9223372036854775807) (hb : (len + n.toNat) * i.bytes ≤ 140737488355328) :
    (Builtin.append_ #[t, u] ty #[.slice base len cap, .int k' n]).run P w =
      .ok (.slice (some ⟨w.heap.size, 0, none⟩) (len + n.toNat) (grownCap w (len + n.toNat) cap e))
        (w.drew.alloc (.cells (olds.toArray ++ zs.toArray ++ Builtin.zeroCells z0.cells (grownCap w (len + n.toNat) cap e - (len + n.toNat))) e)) := by
  have hw : IntKind.i64.wrap n = n := by
    unfold IntKind.wrap IntKind.bits IntKind.signed
    simp only []
    rw [Int.emod_eq_of_lt h0 (by omega)]
    simp; omega
  have h1 : ¬ n < 0 := by omega
  have h2 : ¬ (281474976710656 < n * (i.bytes : Int)) := by omega
  have hnf : ¬ (len + n.toNat ≤ cap) := by omega
  have h63' : ¬ (9223372036854775807 < ((len : Int) + (n.toNat : Int))) := by omega
  have h63'' : ¬ (9223372036854775807 < ((len : Int) + max n 0)) := by omega
  have hfit := growslice_fits hover hb
  have h48' : ¬ (281474976710656 < Builtin.nextslicecap (len + n.toNat) cap * i.bytes) := by omega
  have ho' := ho w.drew rfl
  have fin : ∀ (Z : Array Value), olds.toArray ++ (zs.toArray ++ Z) = (olds ++ zs).toArray ++ Z := by intro Z; rw [← Array.append_assoc]; simp
  rcases hz with ⟨z0, rfl⟩ | ⟨z, z1, z2, z3⟩
  · simp [Builtin.append_, run_underlying ht, run_underlying hu, sizeOf, typeInfo, zeroValue, hi, hiz, asInt, asIntOf, hw, h1, h2, hnf, z0, h63'', h48', Question.forced, ho', newRow, grownCap]
  · have hzz : z = z0 := by
      have := z1 w
      simp [zeroValue, typeInfo, hi, hiz] at this
      exact this.symm
    subst hzz
    simp [Builtin.append_, run_underlying ht, run_underlying hu, sizeOf, typeInfo, zeroValue, hi, hiz, asInt, asIntOf, hw, h1, h2, hnf, z2, z3, h63'', h48', Question.forced, ho', newRow, grownCap, fin]

/-- what a builtin gives, given its arguments -/
def DoesB (P : Program) (w : World) (b : Builtin) (ts : Array TypeId) (ty : TypeId) (cs : Array Bool) (xs : List Value) (Φ : Value → World → Prop) : Prop :=
  ∃ c w', (builtin b ts ty cs xs.toArray).run P w = .ok (.value c) w' ∧ Φ c w'

theorem doesB_of {b : Builtin} {ts : Array TypeId} {ty : TypeId} {cs : Array Bool} {xs : List Value} {Φ : Value → World → Prop} {s : Sem Value} (hb : builtin b ts ty cs xs.toArray = (do pure (.value (← s)))) {c : Value} {w' : World} (hs : s.run P w = .ok c w') (hp : Φ c w') : DoesB P w b ts ty cs xs Φ :=
  ⟨c, w', by rw [hb]; simp [hs], hp⟩

theorem delete_sound {R : Type} {r : R} {K : V → Heap → Option R} (h : HR N w0 ρ H w) {t : TypeId} {ts : Array TypeId} (hts : ts[0]? = some t) {m k : V} {mx kx : Value} (hm : Rel ρ m mx) (hkr : Rel ρ k kx)
    (hk : (match P.underlying t with
      | some (.map kt _) => if keyV P kt k then m.asM.bind fun r => match r with
        | none => K (.tup []) H
        | some id => (getMap H (some id)).bind fun mm => (findE P kt k mm.1 0).bind fun q => match q with
          | some (j, _) => K (.tup []) (H.put id (.map (mm.1.eraseIdx j) mm.2))
          | none => K (.tup []) H
        else none
      | _ => none) = some r) (ty : TypeId) :
    ∃ c w', (Builtin.delete_ ts ty #[mx, kx]).run P w = .ok c w' ∧ Post N w0 ρ K r c w' := by
  split at hk
  · rename_i kt et hu
    split at hk
    · rename_i hkv
      obtain ⟨rr, h1, h2⟩ := Option.bind_eq_some_iff.1 hk
      obtain rfl := V.asM_eq h1
      cases rr with
      | none =>
        cases hm
        refine ⟨.tuple #[], w, ?_, Post.same h rel_undef h2⟩
        simp [Builtin.delete_, hts, run_underlying hu, keyV_check hkv hkr]
      | some id =>
        obtain ⟨b, hb, rfl⟩ := hm.m'
        obtain ⟨mm, h3, h4⟩ := Option.bind_eq_some_iff.1 h2
        obtain ⟨q, h5, h6⟩ := Option.bind_eq_some_iff.1 h4
        have ho := getMap_some h3
        obtain ⟨l, hl, he⟩ := map_obj h ho hb
        have hkind : ∃ kind, P.underlying kt = some kind := by
          unfold keyV keyOk at hkv
          cases hx : P.underlying kt with
          | none => simp [hx] at hkv
          | some d => exact ⟨d, rfl⟩
        obtain ⟨kind, hkind⟩ := hkind
        obtain ⟨q', q1, q2⟩ := findKey_sound hkind hkr he h5
        cases q with
        | none =>
          cases q' with
          | some _ => exact q2.elim
          | none =>
            have hw := map_write (P := P) h ho hb he (ck' := mm.2)
            refine ⟨.tuple #[], _, ?_, _, _, ρ, ρ.le_refl, rel_undef, hw.2.forget (by simp) ?_, h6⟩
            · simp [Builtin.delete_, hts, run_underlying hu, run_getObj_map hl, keyV_check hkv hkr, q1, hw.1]
            · intro j o hj
              rw [Heap.get_put]
              split
              · rename_i e; subst e; rw [ho] at hj; exact hj
              · exact hj
        | some p =>
          obtain ⟨j, v⟩ := p
          cases q' with
          | none => exact q2.elim
          | some p' =>
            obtain ⟨j', x⟩ := p'
            obtain ⟨rfl, _⟩ := q2
            have hw := map_write (P := P) h ho hb (he.erase j) (ck' := mm.2)
            refine ⟨.tuple #[], _, ?_, _, _, ρ, ρ.le_refl, rel_undef, hw.2, h6⟩
            have e : l.toArray.eraseIdxIfInBounds j = (l.eraseIdx j).toArray := by simp
            simp [Builtin.delete_, hts, run_underlying hu, run_getObj_map hl, keyV_check hkv hkr, q1, hw.1]
    · cases hk
  · cases hk

theorem liesAt_bytes_off {e : TypeId} (hc : P.cellsOf e = 1) (count off n : Nat) (hn : off + n ≤ count) : liesAt P P.depth e count off e n = true := by
  have hd : P.depth = (2 * (P.types.size + Made.depth) + 1) + 1 := rfl
  rw [hd]
  simp only [liesAt, Bool.or_eq_true]
  left
  rw [hd]
  simp [rowAt, hc, hn, sameLayout, Nat.mod_one]
theorem run_loadBytesN : ∀ (ns : List Int) (a : Addr) (acc : ByteArray), (∀ j n, ns[j]? = some n → w.cell? (a.add j) = some (.int .u8 n)) →
    (loadBytes a acc ns.length).run P w = .ok ⟨acc.data ++ (ns.map fun n => UInt8.ofNat n.toNat).toArray⟩ w
  | [], a, acc, _ => by simp [loadBytes]
  | x :: l, a, acc, h => by
    have h0 : w.cell? a = some (.int .u8 x) := by
      have := h 0 x rfl
      simpa [Addr.add] using this
    have ih := run_loadBytesN l (a.add 1) (acc.push x.toNat.toUInt8) (fun j y hy => by
      have := h (j + 1) y (by simpa using hy)
      have e : (a.add 1).add j = a.add (j + 1) := by
        unfold Addr.add
        by_cases hj : j = 0
        · subst hj; simp
        · simp [hj]; omega
      rw [e]; exact this)
    simp only [List.length_cons, loadBytes, Sem.run_bind, run_load, h0, Result.andThen]
    rw [ih]
    congr 1
    apply ByteArray.ext
    simp [ByteArray.push]
theorem unsafeString_sound (h : HR N w0 ρ H w) {pt it ty e' : TypeId} (hp : P.underlying pt = some (.pointer e')) {id off : Nat} {n : Int} {s : ByteArray} {b : Base} (hb : ρ id = some b)
    (hs : unsafeBytes P H e' id off n.toNat = some s) (h0 : 0 < n) (h63 : n ≤ 9223372036854775807) :
    ∃ w', (Builtin.unsafeString_ #[pt, it] ty #[.pointer (some ⟨b.blk, b.off + off, none⟩), .int .i64 n]).run P w = .ok (.string s) w' ∧ HR N w0 ρ (H.drop id) w' := by
  unfold unsafeBytes at hs
  split at hs
  · rename_i vs e hg
    split at hs
    · rename_i hc
      obtain ⟨rfl, hcell, hle⟩ := hc
      obtain ⟨l, h1, h2⟩ := Option.bind_eq_some_iff.1 hs
      obtain rfl : (⟨l.toArray⟩ : ByteArray) = s := by simpa using h2
      have hlds : H.lds id off n.toNat = some ((vs.drop off).take n.toNat) := by
        unfold Heap.lds; rw [hg]; simp only []; rw [if_pos hle]
      obtain ⟨_, xs, hro, hol, hcells⟩ := lds_sound h hlds hb
      obtain ⟨ns, rfl, rfl⟩ := bytesOfCells_sound _ _ _ hro h1
      obtain ⟨c, fz, g1, g2, g3, g4⟩ := h.base hg hb
      have hnl : ns.length = n.toNat := by simpa using hol
      have hlt : b.blk < w.heap.size := (Array.getElem?_eq_some_iff.1 g1).1
      have hsh : w.shape? b.blk = some (e, c.size) := by simp only [World.shape?, g1]
      have hlies := liesAt_bytes_off (P := P) hcell (c.size / P.cellsOf e) (b.off + off) ns.length (by rw [hcell, Nat.div_one]; omega)
      have hlb := run_loadBytesN (P := P) (w := w) ns ⟨b.blk, b.off + off, none⟩ .empty (fun j x hx => by
        have := hcells j (.int .u8 x) (by simp [hx])
        simpa [Addr.add_lit] using this)
      obtain ⟨m, rfl⟩ : ∃ m : Nat, n = (m : Int) := ⟨n.toNat, by omega⟩
      have hm : ns.length = m := by simpa using hnl
      subst hm
      have hl : ns.length ≠ 0 := by omega
      have h63' : ¬ (9223372036854775807 : Int) < (ns.length : Int) := by omega
      have hneg : ¬ (ns.length : Int) < 0 := by omega
      have hmax : IntKind.i64.max = 9223372036854775807 := rfl
      refine ⟨w.freeze ⟨b.blk, b.off + off, none⟩ ns.length, ?_, ?_⟩
      · have hdef : Builtin.unsafeString_ #[pt, it] ty #[.pointer (some ⟨b.blk, b.off + off, none⟩), .int .i64 ns.length] =
          (do
            let n ← asInt (.int .i64 ns.length)
            if n < 0 then runtimePanic (.error "unsafe.String: len out of range")
            if n > IntKind.i64.max then unsupported (.unsafePointer "String: a length above the largest int")
            if n = 0 then pure (.string .empty)
            else if ← variablesAt ⟨b.blk, b.off + off, none⟩ (← elemOf pt) n.toNat then do
              let s ← loadBytes ⟨b.blk, b.off + off, none⟩ .empty n.toNat
              freeze ⟨b.blk, b.off + off, none⟩ n.toNat
              pure (.string s)
            else unsupported (.unsafePointer "String: not so many bytes at ptr")) := rfl
        rw [hdef]
        simp [asInt, asIntOf, hmax, h63', hneg, hl, variablesAt, hsh, elemOf, run_underlying hp, hlies, hlb]
      · refine h.spoil hg hb rfl (by unfold World.freeze; split <;> simp) (by unfold World.freeze; split <;> rfl) (by unfold World.freeze; split <;> rfl) (by unfold World.freeze; split <;> rfl) fun k hk => ?_
        · unfold World.freeze
          split
          · rfl
          · simp only [Array.getElem?_modify]
            rw [if_neg (fun e => hk e.symm)]
    · cases hs
  · cases hs

theorem evBuiltin_sound {R : Type} {r : R} {K : V → Heap → Option R} (h : HR N w0 ρ H w) {b : Builtin} {ts : Array TypeId} {args : List V} {xs : List Value} (hr : Rels ρ args xs)
    (hk : evBuiltin P H b ts.toList args K = some r) (ty : TypeId) (cs : Array Bool) : DoesB P w b ts ty cs xs (Post N w0 ρ K r) := by
  unfold evBuiltin at hk
  split at hk
  · -- len
    rename_i t x hts
    obtain ⟨y, rfl, hx⟩ := rels_one hr
    have ht : ts[0]? = some t := by rw [← Array.getElem?_toList, hts]; rfl
    refine (?_ : ∃ c, (Builtin.len_ ts ty [y].toArray).run P w = .ok c w ∧ Post N w0 ρ K r c w).elim fun c hc => doesB_of rfl hc.1 hc.2
    split at hk
    · rename_i hu
      obtain ⟨s, h1, h2⟩ := Option.bind_eq_some_iff.1 hk
      obtain rfl := V.asS_eq h1
      cases hx
      exact ⟨.int .i64 s.size, by simp [Builtin.len_, ht, run_underlying hu, goInt], Post.same h (.i _ _) h2⟩
    · rename_i e hu
      obtain ⟨s, h1, h2⟩ := Option.bind_eq_some_iff.1 hk
      obtain rfl := V.asSl_eq h1
      obtain ⟨a, l, c, rfl, _, rfl⟩ := hx.slNil
      exact ⟨.int .i64 s.len, by simp [Builtin.len_, ht, run_underlying hu, goInt], Post.same h (.i _ _) h2⟩
    · rename_i n e hu
      exact ⟨.int .i64 n, by simp [Builtin.len_, ht, run_underlying hu, goInt], Post.same h (.i _ _) hk⟩
    · rename_i kt et hu
      obtain ⟨s, h1, h2⟩ := Option.bind_eq_some_iff.1 hk
      obtain rfl := V.asM_eq h1
      obtain ⟨mm, h3, h4⟩ := Option.bind_eq_some_iff.1 h2
      cases s with
      | none =>
        cases hx
        simp [getMap] at h3; subst h3
        exact ⟨.int .i64 0, by simp [Builtin.len_, ht, run_underlying hu, goInt], Post.same h (.i _ _) (by simpa using h4)⟩
      | some id =>
        obtain ⟨b, hb, rfl⟩ := hx.m'
        obtain ⟨l, hl, he⟩ := map_obj h (getMap_some h3) hb
        refine ⟨.int .i64 l.length, by simp [Builtin.len_, ht, run_underlying hu, goInt, run_getObj_map hl], Post.same h (.i _ _) (by rw [← he.length]; exact h4)⟩
    · cases hk
  · -- cap
    rename_i t x hts
    obtain ⟨y, rfl, hx⟩ := rels_one hr
    have ht : ts[0]? = some t := by rw [← Array.getElem?_toList, hts]; rfl
    split at hk
    · rename_i e hu
      obtain ⟨s, h1, h2⟩ := Option.bind_eq_some_iff.1 hk
      obtain rfl := V.asSl_eq h1
      split at h2
      · rename_i c hc
        obtain ⟨sa, sl, sc⟩ := s
        simp only at hc; subst hc
        have key : ∃ a l, y = .slice a l c := by cases hx <;> exact ⟨_, _, rfl⟩
        obtain ⟨a, l, rfl⟩ := key
        exact doesB_of rfl (c := .int .i64 c) (w' := w) (by simp [Builtin.cap_, ht, run_underlying hu, goInt]) (Post.same h (.i _ _) h2)
      · cases h2
    · cases hk
  · -- append
    rename_i t u x y hts
    obtain ⟨cx, cy, rfl, hx, hy⟩ := rels_two hr
    have hts' : ts = #[t, u] := by rw [← Array.toArray_toList (xs := ts), hts]
    subst hts'
    split at hk
    · rename_i e hu
      have ht0 := hu
      split at hk
      · rename_i hz0
        have hz : zOk P e = true := by rw [Bool.and_eq_true] at hz0; exact hz0.1
        have hxe : exactT e = false := by rw [Bool.and_eq_true] at hz0; simpa using hz0.2
        obtain ⟨i, z, vz, hi, hiz, his, hib, _, _, _, hzs⟩ := zOk_sound hz
        obtain ⟨s, h1, h2⟩ := Option.bind_eq_some_iff.1 hk
        obtain rfl := V.asSl_eq h1
        have fin : ∀ (du : TypeDesc) (n : Nat) (new : List V) (zs : List Value), P.underlying u = some du → (∀ k, du ≠ .int k) → Rels ρ new zs → zs.length = n * P.cellsOf e → (∀ w' : World, (Builtin.lenOf cy).run P w' = .ok n w') →
            (∀ w' : World, w'.heap = w.heap → (Builtin.firstCells (P.cellsOf e) n cy).run P w' = .ok zs.toArray w') → appendV H e (P.cellsOf e) (P.bytesOf e) s n new (fun r H => K (.sl r) H) = some r →
            DoesB P w .append #[t, u] ty cs [cx, cy] (Post N w0 ρ K r) := by
          intro du n new zs hud hnz hnew hnl hn hf ha
          obtain ⟨s', H', c', w', ρ', e1, e2, e3, e4, e5⟩ := appendV_sound (P := P) h ha hz hxe hx hnew hnl #[t, u] ty cy
            (fun base len cap hc hfit => by subst hc; rw [← his]; exact run_append_fit hu hud hnz hi base len cap n cy zs hn (by rw [his]; exact hf) hfit)
            (fun base len cap z' olds hc hz' hzi ho hov h63 hb => by
              subst hc
              have : z' = z := by simp [hi, hiz] at hzi; exact hzi.symm
              subst this
              exact run_append_over hu hud hnz hi hiz base len cap n cy zs olds hn (by rw [his]; exact hf) (by rw [his]; exact ho) hov h63 (by rw [hib]; exact hb))
          exact doesB_of rfl e1 ⟨_, H', ρ', e2, e3, e4, e5⟩
        split at h2
        · rename_i e2 hu2
          obtain ⟨y', h3, h4⟩ := Option.bind_eq_some_iff.1 h2
          obtain rfl := V.asSl_eq h3
          obtain ⟨new, h5, h6⟩ := Option.bind_eq_some_iff.1 h4
          obtain ⟨a, cap, zs, rfl, z1, z2, z3⟩ := slCells_sound h h5 hy
          exact fin _ _ new zs hu2 (fun k => by simp) z1 z2 (fun w' => by simp [Builtin.lenOf]) z3 h6
        · rename_i hu2
          split at h2
          · cases h2
          rename_i h1c
          have h1c : P.cellsOf e = 1 := by omega
          obtain ⟨y', h3, h4⟩ := Option.bind_eq_some_iff.1 h2
          obtain rfl := V.asS_eq h3
          cases hy
          refine fin _ y'.size _ (y'.data.toList.map fun x => Value.int .u8 x.toNat) hu2 (fun k => by simp) (rels_bytes _) (by rw [h1c]; simp) (fun w' => by simp [Builtin.lenOf]) (fun w' _ => ?_) h4
          rw [firstCells_str]
          congr 3
          rw [List.take_of_length_le]
          simp
        · rename_i kk hu2
          cases y with
          | i kn n =>
            simp only [] at h2
            split at h2
            · rename_i hb
              obtain ⟨hb0, hb1, hb2⟩ := hb
              obtain ⟨new, h5, h6⟩ := Option.bind_eq_some_iff.1 h2
              obtain ⟨zs, z1, z2, z3⟩ := zeroCellsV_sound (ρ := ρ) h5
              cases hy
              have hzz : (n.toNat * i.size = 0 ∧ zs = []) ∨ ∃ z, (∀ w : World, (zeroValue e).run P w = .ok z w) ∧ Builtin.zeroCells z.cells n.toNat = zs.toArray ∧ n.toNat * i.size ≠ 0 := by
                rw [his]
                by_cases h0 : n.toNat * P.cellsOf e = 0
                · exact .inl ⟨h0, List.eq_nil_of_length_eq_zero (by omega)⟩
                · rcases z3 with ⟨z0, _⟩ | ⟨z, q1, q2, q3, q4⟩
                  · exact absurd z0 h0
                  · exact .inr ⟨z, q1, q4, h0⟩
              obtain ⟨s', H', c', w', ρ', e1, e2, e3, e4, e5⟩ := appendV_sound (P := P) h h6 hz hxe hx z1 z2 #[t, u] ty (.int kn n)
                (fun base len cap hc hfit => by subst hc; rw [← his]; exact run_append_fit0 ht0 hu2 hi base len cap hb0 hb1 (by rw [hib]; exact hb2) hzz hfit)
                (fun base len cap z' olds hc hz' hzi ho hov h63 hb => by
                  subst hc
                  have : z' = z := by simp [hi, hiz] at hzi; exact hzi.symm
                  subst this
                  exact run_append_over0 ht0 hu2 hi hiz base len cap hb0 hb1 (by rw [hib]; exact hb2) hzz (by rw [his]; exact ho) hov h63 (by rw [hib]; exact hb))
              exact doesB_of rfl e1 ⟨_, H', ρ', e2, e3, e4, e5⟩
            · cases h2
          | _ => cases h2
        · cases h2
      · cases hk
    · cases hk
  · -- copy
    rename_i t u x y hts
    obtain ⟨cx, cy, rfl, hx, hy⟩ := rels_two hr
    have hts' : ts = #[t, u] := by rw [← Array.toArray_toList (xs := ts), hts]
    subst hts'
    split at hk
    · rename_i e hu
      split at hk
      · cases hk
      rename_i hd0
      obtain ⟨d, hd⟩ : ∃ d, P.underlying e = some d := by cases hx : P.underlying e with | none => simp [hx] at hd0 | some d => exact ⟨d, rfl⟩
      obtain ⟨s, h1, h2⟩ := Option.bind_eq_some_iff.1 hk
      obtain rfl := V.asSl_eq h1
      have fin : ∀ (n : Nat) (new : List V) (zs : List Value), Rels ρ new zs → zs.length = n * P.cellsOf e → n ≤ s.len → (∃ m, (Builtin.lenOf cy).run P w = .ok m w ∧ Nat.min m s.len = n) →
          (Builtin.firstCells (P.cellsOf e) n cy).run P w = .ok zs.toArray w →
          (match s.a with
            | some (id, off) => if new.length = 0 then K (.i .i64 n) H else (H.sts id off new).bind fun H' => K (.i .i64 n) H'
            | none => K (.i .i64 n) H) = some r → DoesB P w .copy #[t, u] ty cs [cx, cy] (Post N w0 ρ K r) := by
        intro n new zs hnew hzl hns hlen hf hkk
        obtain ⟨m, hm, hmn⟩ := hlen
        obtain ⟨a, l, c, rfl, hn, rfl⟩ := hx.slNil
        have hl := hnew.length
        have noth : zs = [] → K (.i .i64 n) H = some r → DoesB P w .copy #[t, u] ty cs [.slice a s.len c, cy] (Post N w0 ρ K r) := by
          intro hz hk'
          subst hz
          refine doesB_of (c := .int .i64 n) (w' := w) rfl ?_ (Post.same h (.i _ _) hk')
          cases a <;> simp [Builtin.copy_, run_underlying hu, run_size hd, hm, hmn, hf, goInt, storeCells]
        split at hkk
        · rename_i id off hsa
          split at hkk
          · rename_i h0
            exact noth (List.eq_nil_of_length_eq_zero (by omega)) hkk
          · rename_i h0
            obtain ⟨H', h5, h6⟩ := Option.bind_eq_some_iff.1 hkk
            have hpos : 0 < s.len := by
              rcases Nat.eq_zero_or_pos s.len with e0 | e0
              · exfalso; apply h0; rw [hl, hzl, show n = 0 by omega]; simp
              · exact e0
            obtain ⟨sa, sl, sc⟩ := s
            simp only at hsa hpos hns hmn h5 h0 hx ⊢
            subst hsa
            have key : ∃ b, ρ id = some b ∧ a = some ⟨b.blk, b.off + off, none⟩ := by
              cases hx with
              | sx _ _ _ _ b ad hb hle ha => exact ⟨b, hb, by rw [ha (by omega)]⟩
              | so _ _ _ _ _ b ad hb hle _ _ ha => exact ⟨b, hb, by rw [ha (by omega)]⟩
            obtain ⟨b, hb, rfl⟩ := key
            obtain ⟨w', hw', hh⟩ := sts_sound (P := P) h h5 hb hnew
            refine doesB_of (c := .int .i64 n) (w' := w') rfl ?_ ⟨_, H', ρ, ρ.le_refl, .i _ _, hh, h6⟩
            simp [Builtin.copy_, run_underlying hu, run_size hd, hm, hmn, hf, goInt, hw']
        · rename_i hsa
          have ha : a = none := by simpa [hsa] using hn
          subst ha
          refine doesB_of (c := .int .i64 n) (w' := w) rfl ?_ (Post.same h (.i _ _) hkk)
          simp [Builtin.copy_, run_underlying hu, run_size hd, hm, hmn, hf, goInt]
      split at h2
      · rename_i e2 hu2
        obtain ⟨y', h3, h4⟩ := Option.bind_eq_some_iff.1 h2
        obtain rfl := V.asSl_eq h3
        obtain ⟨new, h5, h6⟩ := Option.bind_eq_some_iff.1 h4
        obtain ⟨ya, yl, yc, rfl, _, rfl⟩ := hy.slNil
        have hsh := hy.shorter (n := min y'.len s.len) (Nat.min_le_left _ _)
        obtain ⟨a, cap, zs, he, z1, z2, z3⟩ := slCells_sound h h5 hsh
        exact fin _ new zs z1 z2 (Nat.min_le_right _ _) ⟨y'.len, by simp [Builtin.lenOf], rfl⟩ (by have := z3 w rfl; cases ya <;> exact this) h6
      · rename_i hu2
        split at h2
        · cases h2
        rename_i h1c
        have h1c : P.cellsOf e = 1 := by omega
        obtain ⟨y', h3, h4⟩ := Option.bind_eq_some_iff.1 h2
        obtain rfl := V.asS_eq h3
        cases hy
        have hcb : (cellsOfBytes y').take (min y'.size s.len) = (y'.data.toList.take (min y'.size s.len)).map fun x => V.i .u8 x.toNat := by simp [cellsOfBytes, List.map_take]
        refine fin (min y'.size s.len) ((cellsOfBytes y').take (min y'.size s.len)) ((y'.data.toList.take (min y'.size s.len)).map fun x => Value.int .u8 x.toNat) (by rw [hcb]; exact rels_bytes _) (by rw [h1c]; simp) (Nat.min_le_right _ _)
          ⟨y'.size, by simp [Builtin.lenOf], rfl⟩ (firstCells_str _ _ _ _) ?_
        have hlen0 : ((cellsOfBytes y').take (min y'.size s.len)).length = min y'.size s.len := by simp [cellsOfBytes]
        rw [hlen0]; exact h4
      · cases h2
    · cases hk
  · -- min
    rename_i x vs
    cases hr with
    | cons _ y _ ys h1 h2 =>
    obtain ⟨u, z, e1, e2, e3⟩ := minV_sound (P := P) (w := w) vs x y ys (fun v => K v H) hk h1 h2
    exact doesB_of rfl (by simpa [Builtin.min_] using e1) (Post.same h e2 e3)
  · -- max
    rename_i x vs
    cases hr with
    | cons _ y _ ys h1 h2 =>
    obtain ⟨u, z, e1, e2, e3⟩ := minV_sound (P := P) (w := w) vs x y ys (fun v => K v H) hk h1 h2
    exact doesB_of rfl (by simpa [Builtin.max_] using e1) (Post.same h e2 e3)
  · -- delete
    rename_i t m k hts
    obtain ⟨mx, kx, rfl, hm, hkr⟩ := rels_two hr
    have ht : ts[0]? = some t := by rw [← Array.getElem?_toList, hts]; rfl
    obtain ⟨c, w', e1, e2⟩ := delete_sound h ht hm hkr hk ty
    exact doesB_of rfl e1 e2
  · -- delete
    rename_i t t2 m k hts
    obtain ⟨mx, kx, rfl, hm, hkr⟩ := rels_two hr
    have ht : ts[0]? = some t := by rw [← Array.getElem?_toList, hts]; rfl
    obtain ⟨c, w', e1, e2⟩ := delete_sound h ht hm hkr hk ty
    exact doesB_of rfl e1 e2
  · cases hk
  · -- unsafe.SliceData
    rename_i t x hts
    obtain ⟨y, rfl, hx⟩ := rels_one hr
    obtain ⟨s, h1, h2⟩ := Option.bind_eq_some_iff.1 hk
    obtain rfl := V.asSl_eq h1
    obtain ⟨sa, sl, sc⟩ := s
    simp only [sliceData] at h2
    split at h2
    · cases hx
      exact doesB_of rfl (c := .pointer none) (w' := w) rfl (Post.same h .pn h2)
    · rename_i q
      have key : ∀ (a : Addr) (l c : Nat), y = .slice (some a) l c → c ≠ 0 → (Builtin.unsafeSliceData_ ts ty [y].toArray).run P w = .ok (.pointer (some a)) w := by
        rintro a l c rfl hc
        exact Lib.run_unsafeSliceData_row _ _ _ _ _ _ hc
      split at h2
      · rename_i c
        split at h2
        · cases h2
        · rename_i hc
          cases hx with
          | sx id off len c b a hb hle haddr =>
            obtain rfl := haddr hc
            exact doesB_of rfl (key _ _ _ rfl hc) (Post.same h (.p _ _ _ hb) h2)
      · rename_i sz
        split at h2
        · cases h2
        · rename_i hc
          cases hx with
          | so id off len sz cap b a hb hle hml hsz haddr =>
            have hc' : cap ≠ 0 := by omega
            obtain rfl := haddr hc'
            exact doesB_of rfl (key _ _ _ rfl hc') (Post.same h (.p _ _ _ hb) h2)
  · -- unsafe.String
    rename_i t t2 p n hts
    obtain ⟨cp, cx, rfl, hp, hx⟩ := rels_two hr
    have hts' : ts = #[t, t2] := by rw [← Array.toArray_toList (xs := ts), hts]
    subst hts'
    split at hk
    · rename_i n
      cases hx
      obtain ⟨q, h1, h2⟩ := Option.bind_eq_some_iff.1 hk
      obtain rfl := V.asP_eq h1
      simp only [unsafeStr] at h2
      split at h2
      · rename_i h0
        subst h0
        have key : ∃ a, cp = .pointer a := by cases hp <;> exact ⟨_, rfl⟩
        obtain ⟨a, rfl⟩ := key
        exact doesB_of rfl (c := .string ByteArray.empty) (w' := w) (Lib.run_unsafeString_none w t t2 ty a) (Post.same h (.s _) h2)
      · split at h2
        · cases h2
        · rename_i q
          split at h2
          · rename_i e' hu
            obtain ⟨s, h3, h4⟩ := Option.bind_eq_some_iff.1 h2
            split at h4
            · rename_i hn
              obtain ⟨b, hb, rfl⟩ := hp.p'
              obtain ⟨w', e1, e2⟩ := unsafeString_sound h hu (it := t2) (ty := ty) hb h3 hn.1 hn.2
              exact doesB_of rfl e1 ⟨_, _, ρ, ρ.le_refl, .s _, e2, h4⟩
            · cases h4
          · cases h2
    · cases hk
  · cases hk

end
end Go.Proofs.YteipplgcdbaokaaDoor.AM
