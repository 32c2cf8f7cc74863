/- The machine. -/
import Derived.Test.YtnlfkllnmobppaaAmA
import Derived.Lib.UnsafeStr
import Derived.Maps.RangeRun
/- What the machine's built-in functions and maps stand for. -/
namespace Go.Proofs.Ytnlfkllnmobppaa.AM
open Go Go.RowKit

section
variable {P : Program} {N : Nat} {w0 : Ref} {w : World} {ρ : Env} {H : Heap}

theorem getMap_some {id : Nat} {mm : List (V × V × Nat) × Nat} (h : getMap H (some id) = some mm) : H.get id = some (.map mm.1 mm.2) := by
  simp only [getMap] at h
  split at h
  · rename_i es c ho
    simp at h; subst h; exact ho
  · cases h

theorem minV_sound {R : Type} {r : R} {mx : Bool} : ∀ (vs : List V) (v : V) (x : Value) (xs : List Value) (K : V → Option R), minV mx v vs K = some r → Rel ρ v x → Rels ρ vs xs →
    ∃ u y, (xs.foldlM (if mx then Builtin.max2 else Builtin.min2) x).run P w = .ok y w ∧ Rel ρ u y ∧ K u = some r := by
  intro vs
  induction vs with
  | nil =>
    intro v x xs K h hr hrs
    cases hrs
    have h' : K v = some r := by cases v <;> simpa [minV] using h
    exact ⟨v, x, by simp, hr, h'⟩
  | cons u vs ih =>
    intro v x xs K h hr hrs
    cases hrs with
    | cons _ y _ ys h1 h2 =>
    unfold minV at h
    split at h
    · rename_i heq; cases heq
    · rename_i k n j m us heq
      cases heq
      cases hr; cases h1
      obtain ⟨u', y', e1, e2, e3⟩ := ih _ _ _ _ h (.i k _) h2
      refine ⟨u', y', ?_, e2, e3⟩
      cases mx
      · simp only [Bool.false_eq_true, if_false, List.foldlM_cons, Sem.run_bind, Builtin.min2, Sem.run_pure, Result.andThen_ok] at e1 ⊢
        exact e1
      · simp only [if_true, List.foldlM_cons, Sem.run_bind, Builtin.max2, Sem.run_pure, Result.andThen_ok] at e1 ⊢
        exact e1
    · cases h

theorem rels_one {a : V} {xs : List Value} (h : Rels ρ [a] xs) : ∃ x, xs = [x] ∧ Rel ρ a x := by
  cases h with | cons _ x _ _ h1 h2 => cases h2; exact ⟨x, rfl, h1⟩
theorem rels_two {a b : V} {xs : List Value} (h : Rels ρ [a, b] xs) : ∃ x y, xs = [x, y] ∧ Rel ρ a x ∧ Rel ρ b y := by
  cases h with | cons _ x _ _ h1 h2 => obtain ⟨y, rfl, h3⟩ := rels_one h2; exact ⟨x, y, rfl, h1, h3⟩

theorem Rel.shorter {y : Sl} {a : Option Addr} {len cap n : Nat} (h : Rel ρ (.sl y) (.slice a len cap)) (hn : n ≤ len) : Rel ρ (.sl ⟨y.a, n, y.cap⟩) (.slice a n cap) := by
  cases h with
  | sn => obtain rfl : n = 0 := by omega
          exact .sn
  | sx id off _ _ b a hb hle ha => exact .sx id off n cap b a hb (by omega) ha
  | so id off _ sz _ b a hb hle hml hsz ha => exact .so id off n sz cap b a hb (by omega) hml hsz ha

theorem rels_bytes (l : List UInt8) : Rels ρ (l.map fun x => V.i .u8 x.toNat) (l.map fun x => Value.int .u8 x.toNat) := by
  induction l with
  | nil => exact .nil
  | cons x l ih => exact .cons _ _ _ _ (.i _ _) ih

theorem firstCells_str (s : ByteArray) (n : Nat) (sz : Nat) (w : World) : (Builtin.firstCells sz n (.string s)).run P w = .ok ((s.data.toList.take n).map fun x => Value.int .u8 x.toNat).toArray w := by
  simp only [Builtin.firstCells, Sem.run_pure]
  congr 1
  apply Array.ext'
  simp [ByteArray.data_extract, List.extract_eq_take_drop]

/-- zeros appended: within the capacity -/
theorem run_append_fit0 {t u ty e : TypeId} {k k' : IntKind} {i : TypeInfo} {n : Int} {zs : List Value} (ht : P.underlying t = some (.slice e)) (hu : P.underlying u = some (.int k)) (hi : P.info? e = some i)
    (base : Option Addr) (len cap : Nat) (h0 : 0 ≤ n) (h63 : n ≤ 9223372036854775807) (h48 : n * i.bytes ≤ 281474976710656)
    (hz : (n.toNat * i.size = 0 ∧ zs = []) ∨ ∃ z, (∀ w : World, (zeroValue e).run P w = .ok z w) ∧ Builtin.zeroCells z.cells n.toNat = zs.toArray ∧ n.toNat * i.size ≠ 0) (hfit : len + n.toNat ≤ cap) :
    (Builtin.append_ #[t, u] ty #[.slice base len cap, .int k' n]).run P w = match base with
      | some a => ((storeCells (a.add (len * i.size)) zs).run P w).andThen fun _ w' => .ok (.slice base (len + n.toNat) cap) w'
      | none => .ok (.slice none (len + n.toNat) cap) w := by
  have hw : IntKind.i64.wrap n = n := by
    unfold IntKind.wrap IntKind.bits IntKind.signed
    simp only []
    rw [Int.emod_eq_of_lt h0 (by omega)]
    simp; omega
  have h1 : ¬ n < 0 := by omega
  have h2 : ¬ (281474976710656 < n * (i.bytes : Int)) := by omega
  rcases hz with ⟨z0, rfl⟩ | ⟨z, z1, z2, z3⟩
  · cases base <;> simp [Builtin.append_, run_underlying ht, run_underlying hu, sizeOf, typeInfo, hi, asInt, asIntOf, hw, h1, h2, hfit, z0]
  · cases base <;> simp [Builtin.append_, run_underlying ht, run_underlying hu, sizeOf, typeInfo, hi, asInt, asIntOf, hw, h1, h2, hfit, z1, z2, z3]

theorem run_append_over0 {t u ty e : TypeId} {k k' : IntKind} {i : TypeInfo} {z0 : Value} {n : Int} {zs olds : List Value} (ht : P.underlying t = some (.slice e)) (hu : P.underlying u = some (.int k)) (hi : P.info? e = some i) (hiz : i.zero = some z0)
    (base : Option Addr) (len cap : Nat) (h0 : 0 ≤ n) (h63n : n ≤ 9223372036854775807) (h48 : n * i.bytes ≤ 281474976710656)
    (hz : (n.toNat * i.size = 0 ∧ zs = []) ∨ ∃ z, (∀ w : World, (zeroValue e).run P w = .ok z w) ∧ Builtin.zeroCells z.cells n.toNat = zs.toArray ∧ n.toNat * i.size ≠ 0)
    (ho : ∀ w' : World, w'.heap = w.heap → (Builtin.firstCells i.size len (.slice base len cap)).run P w' = .ok olds.toArray w')
    (hover : cap < len + n.toNat) (h63 : len + n.toNat ≤ 9223372036854775807) (hb : (len + n.toNat) * i.bytes ≤ 140737488355328) :
    (Builtin.append_ #[t, u] ty #[.slice base len cap, .int k' n]).run P w =
      .ok (.slice (some ⟨w.heap.size, 0, none⟩) (len + n.toNat) (grownCap w (len + n.toNat) cap e))
        (w.drew.alloc (.cells (olds.toArray ++ zs.toArray ++ Builtin.zeroCells z0.cells (grownCap w (len + n.toNat) cap e - (len + n.toNat))) e)) := by
  have hw : IntKind.i64.wrap n = n := by
    unfold IntKind.wrap IntKind.bits IntKind.signed
    simp only []
    rw [Int.emod_eq_of_lt h0 (by omega)]
    simp; omega
  have h1 : ¬ n < 0 := by omega
  have h2 : ¬ (281474976710656 < n * (i.bytes : Int)) := by omega
  have hnf : ¬ (len + n.toNat ≤ cap) := by omega
  have h63' : ¬ (9223372036854775807 < ((len : Int) + (n.toNat : Int))) := by omega
  have h63'' : ¬ (9223372036854775807 < ((len : Int) + max n 0)) := by omega
  have hfit := growslice_fits hover hb
  have h48' : ¬ (281474976710656 < Builtin.nextslicecap (len + n.toNat) cap * i.bytes) := by omega
  have ho' := ho w.drew rfl
  have fin : ∀ (Z : Array Value), olds.toArray ++ (zs.toArray ++ Z) = (olds ++ zs).toArray ++ Z := by intro Z; rw [← Array.append_assoc]; simp
  rcases hz with ⟨z0, rfl⟩ | ⟨z, z1, z2, z3⟩
  · simp [Builtin.append_, run_underlying ht, run_underlying hu, sizeOf, typeInfo, zeroValue, hi, hiz, asInt, asIntOf, hw, h1, h2, hnf, z0, h63'', h48', Question.forced, ho', newRow, grownCap]
  · have hzz : z = z0 := by
      have := z1 w
      simp [zeroValue, typeInfo, hi, hiz] at this
      exact this.symm
    subst hzz
    simp [Builtin.append_, run_underlying ht, run_underlying hu, sizeOf, typeInfo, zeroValue, hi, hiz, asInt, asIntOf, hw, h1, h2, hnf, z2, z3, h63'', h48', Question.forced, ho', newRow, grownCap, fin]

/-- what a builtin gives, given its arguments -/
def DoesB (P : Program) (w : World) (b : Builtin) (ts : Array TypeId) (ty : TypeId) (cs : Array Bool) (xs : List Value) (Φ : Value → World → Prop) : Prop :=
  ∃ c w', (builtin b ts ty cs xs.toArray).run P w = .ok (.value c) w' ∧ Φ c w'

theorem doesB_of {b : Builtin} {ts : Array TypeId} {ty : TypeId} {cs : Array Bool} {xs : List Value} {Φ : Value → World → Prop} {s : Sem Value} (hb : builtin b ts ty cs xs.toArray = (do pure (.value (← s)))) {c : Value} {w' : World} (hs : s.run P w = .ok c w') (hp : Φ c w') : DoesB P w b ts ty cs xs Φ :=
  ⟨c, w', by rw [hb]; simp [hs], hp⟩

theorem delete_sound {R : Type} {r : R} {K : V → Heap → Option R} (h : HR N w0 ρ H w) {t : TypeId} {ts : Array TypeId} (hts : ts[0]? = some t) {m k : V} {mx kx : Value} (hm : Rel ρ m mx) (hkr : Rel ρ k kx)
    (hk : (match P.underlying t with
      | some (.map kt _) => if keyV P kt k then m.asM.bind fun r => match r with
        | none => K (.tup []) H
        | some id => (getMap H (some id)).bind fun mm => (findE P kt k mm.1 0).bind fun q => match q with
          | some (j, _) => K (.tup []) (H.put id (.map (mm.1.eraseIdx j) mm.2))
          | none => K (.tup []) H
        else none
      | _ => none) = some r) (ty : TypeId) :
    ∃ c w', (Builtin.delete_ ts ty #[mx, kx]).run P w = .ok c w' ∧ Post N w0 ρ K r c w' := by
  split at hk
  · rename_i kt et hu
    split at hk
    · rename_i hkv
      obtain ⟨rr, h1, h2⟩ := Option.bind_eq_some_iff.1 hk
      obtain rfl := V.asM_eq h1
      cases rr with
      | none =>
        cases hm
        refine ⟨.tuple #[], w, ?_, Post.same h rel_undef h2⟩
        simp [Builtin.delete_, hts, run_underlying hu, keyV_check hkv hkr]
      | some id =>
        obtain ⟨b, hb, rfl⟩ := hm.m'
        obtain ⟨mm, h3, h4⟩ := Option.bind_eq_some_iff.1 h2
        obtain ⟨q, h5, h6⟩ := Option.bind_eq_some_iff.1 h4
        have ho := getMap_some h3
        obtain ⟨l, hl, he⟩ := map_obj h ho hb
        have hkind : ∃ kind, P.underlying kt = some kind := by
          unfold keyV keyOk at hkv
          cases hx : P.underlying kt with
          | none => simp [hx] at hkv
          | some d => exact ⟨d, rfl⟩
        obtain ⟨kind, hkind⟩ := hkind
        obtain ⟨q', q1, q2⟩ := findKey_sound hkind hkr he h5
        cases q with
        | none =>
          cases q' with
          | some _ => exact q2.elim
          | none =>
            have hw := map_write (P := P) h ho hb he (ck' := mm.2)
            refine ⟨.tuple #[], _, ?_, _, _, ρ, ρ.le_refl, rel_undef, hw.2.forget (by simp) ?_, h6⟩
            · simp [Builtin.delete_, hts, run_underlying hu, run_getObj_map hl, keyV_check hkv hkr, q1, hw.1]
            · intro j o hj
              rw [Heap.get_put]
              split
              · rename_i e; subst e; rw [ho] at hj; exact hj
              · exact hj
        | some p =>
          obtain ⟨j, v⟩ := p
          cases q' with
          | none => exact q2.elim
          | some p' =>
            obtain ⟨j', x⟩ := p'
            obtain ⟨rfl, _⟩ := q2
            have hw := map_write (P := P) h ho hb (he.erase j) (ck' := mm.2)
            refine ⟨.tuple #[], _, ?_, _, _, ρ, ρ.le_refl, rel_undef, hw.2, h6⟩
            have e : l.toArray.eraseIdxIfInBounds j = (l.eraseIdx j).toArray := by simp
            simp [Builtin.delete_, hts, run_underlying hu, run_getObj_map hl, keyV_check hkv hkr, q1, hw.1]
    · cases hk
  · cases hk

theorem liesAt_bytes_off {e : TypeId} (hc : P.cellsOf e = 1) (count off n : Nat) (hn : off + n ≤ count) : liesAt P P.depth e count off e n = true := by
  have hd : P.depth = (2 * (P.types.size + Made.depth) + 1) + 1 := rfl
  rw [hd]
  simp only [liesAt, Bool.or_eq_true]
  left
  rw [hd]
  simp [rowAt, hc, hn, sameLayout, Nat.mod_one]
theorem run_loadBytesN : ∀ (ns : List Int) (a : Addr) (acc : ByteArray), (∀ j n, ns[j]? = some n → w.cell? (a.add j) = some (.int .u8 n)) →
    (loadBytes a acc ns.length).run P w = .ok ⟨acc.data ++ (ns.map fun n => UInt8.ofNat n.toNat).toArray⟩ w
  | [], a, acc, _ => by simp [loadBytes]
  | x :: l, a, acc, h => by
    have h0 : w.cell? a = some (.int .u8 x) := by
      have := h 0 x rfl
      simpa [Addr.add] using this
    have ih := run_loadBytesN l (a.add 1) (acc.push x.toNat.toUInt8) (fun j y hy => by
      have := h (j + 1) y (by simpa using hy)
      have e : (a.add 1).add j = a.add (j + 1) := by
        unfold Addr.add
        by_cases hj : j = 0
        · subst hj; simp
        · simp [hj]; omega
      rw [e]; exact this)
    simp only [List.length_cons, loadBytes, Sem.run_bind, run_load, h0, Result.andThen]
    rw [ih]
    congr 1
    apply ByteArray.ext
    simp [ByteArray.push]
theorem unsafeString_sound (h : HR N w0 ρ H w) {pt it ty e' : TypeId} (hp : P.underlying pt = some (.pointer e')) {id off : Nat} {n : Int} {s : ByteArray} {b : Base} (hb : ρ id = some b)
    (hs : unsafeBytes P H e' id off n.toNat = some s) (h0 : 0 < n) (h63 : n ≤ 9223372036854775807) :
    ∃ w', (Builtin.unsafeString_ #[pt, it] ty #[.pointer (some ⟨b.blk, b.off + off, none⟩), .int .i64 n]).run P w = .ok (.string s) w' ∧ HR N w0 ρ (H.drop id) w' := by
  unfold unsafeBytes at hs
  split at hs
  · rename_i vs e hg
    split at hs
    · rename_i hc
      obtain ⟨rfl, hcell, hle⟩ := hc
      obtain ⟨l, h1, h2⟩ := Option.bind_eq_some_iff.1 hs
      obtain rfl : (⟨l.toArray⟩ : ByteArray) = s := by simpa using h2
      have hlds : H.lds id off n.toNat = some ((vs.drop off).take n.toNat) := by
        unfold Heap.lds; rw [hg]; simp only []; rw [if_pos hle]
      obtain ⟨_, xs, hro, hol, hcells⟩ := lds_sound h hlds hb
      obtain ⟨ns, rfl, rfl⟩ := bytesOfCells_sound _ _ _ hro h1
      obtain ⟨c, fz, g1, g2, g3, g4⟩ := h.base hg hb
      have hnl : ns.length = n.toNat := by simpa using hol
      have hlt : b.blk < w.heap.size := (Array.getElem?_eq_some_iff.1 g1).1
      have hsh : w.shape? b.blk = some (e, c.size) := by simp only [World.shape?, g1]
      have hlies := liesAt_bytes_off (P := P) hcell (c.size / P.cellsOf e) (b.off + off) ns.length (by rw [hcell, Nat.div_one]; omega)
      have hlb := run_loadBytesN (P := P) (w := w) ns ⟨b.blk, b.off + off, none⟩ .empty (fun j x hx => by
        have := hcells j (.int .u8 x) (by simp [hx])
        simpa [Addr.add_lit] using this)
      obtain ⟨m, rfl⟩ : ∃ m : Nat, n = (m : Int) := ⟨n.toNat, by omega⟩
      have hm : ns.length = m := by simpa using hnl
      subst hm
      have hl : ns.length ≠ 0 := by omega
      have h63' : ¬ (9223372036854775807 : Int) < (ns.length : Int) := by omega
      have hneg : ¬ (ns.length : Int) < 0 := by omega
      have hmax : IntKind.i64.max = 9223372036854775807 := rfl
      refine ⟨w.freeze ⟨b.blk, b.off + off, none⟩ ns.length, ?_, ?_⟩
      · have hdef : Builtin.unsafeString_ #[pt, it] ty #[.pointer (some ⟨b.blk, b.off + off, none⟩), .int .i64 ns.length] =
          (do
            let n ← asInt (.int .i64 ns.length)
            if n < 0 then runtimePanic (.error "unsafe.String: len out of range")
            if n > IntKind.i64.max then unsupported (.unsafePointer "String: a length above the largest int")
            if n = 0 then pure (.string .empty)
            else if ← variablesAt ⟨b.blk, b.off + off, none⟩ (← elemOf pt) n.toNat then do
              let s ← loadBytes ⟨b.blk, b.off + off, none⟩ .empty n.toNat
              freeze ⟨b.blk, b.off + off, none⟩ n.toNat
              pure (.string s)
            else unsupported (.unsafePointer "String: not so many bytes at ptr")) := rfl
        rw [hdef]
        simp [asInt, asIntOf, hmax, h63', hneg, hl, variablesAt, hsh, elemOf, run_underlying hp, hlies, hlb]
      · refine h.spoil hg hb rfl (by unfold World.freeze; split <;> simp) (by unfold World.freeze; split <;> rfl) (by unfold World.freeze; split <;> rfl) (by unfold World.freeze; split <;> rfl) fun k hk => ?_
        · unfold World.freeze
          split
          · rfl
          · simp only [Array.getElem?_modify]
            rw [if_neg (fun e => hk e.symm)]
    · cases hs
  · cases hs

theorem evBuiltin_sound {R : Type} {r : R} {K : V → Heap → Option R} (h : HR N w0 ρ H w) {b : Builtin} {ts : Array TypeId} {args : List V} {xs : List Value} (hr : Rels ρ args xs)
    (hk : evBuiltin P H b ts.toList args K = some r) (ty : TypeId) (cs : Array Bool) : DoesB P w b ts ty cs xs (Post N w0 ρ K r) := by
  unfold evBuiltin at hk
  split at hk
  · -- len
    rename_i t x hts
    obtain ⟨y, rfl, hx⟩ := rels_one hr
    have ht : ts[0]? = some t := by rw [← Array.getElem?_toList, hts]; rfl
    refine (?_ : ∃ c, (Builtin.len_ ts ty [y].toArray).run P w = .ok c w ∧ Post N w0 ρ K r c w).elim fun c hc => doesB_of rfl hc.1 hc.2
    split at hk
    · rename_i hu
      obtain ⟨s, h1, h2⟩ := Option.bind_eq_some_iff.1 hk
      obtain rfl := V.asS_eq h1
      cases hx
      exact ⟨.int .i64 s.size, by simp [Builtin.len_, ht, run_underlying hu, goInt], Post.same h (.i _ _) h2⟩
    · rename_i e hu
      obtain ⟨s, h1, h2⟩ := Option.bind_eq_some_iff.1 hk
      obtain rfl := V.asSl_eq h1
      obtain ⟨a, l, c, rfl, _, rfl⟩ := hx.slNil
      exact ⟨.int .i64 s.len, by simp [Builtin.len_, ht, run_underlying hu, goInt], Post.same h (.i _ _) h2⟩
    · rename_i n e hu
      exact ⟨.int .i64 n, by simp [Builtin.len_, ht, run_underlying hu, goInt], Post.same h (.i _ _) hk⟩
    · rename_i kt et hu
      obtain ⟨s, h1, h2⟩ := Option.bind_eq_some_iff.1 hk
      obtain rfl := V.asM_eq h1
      obtain ⟨mm, h3, h4⟩ := Option.bind_eq_some_iff.1 h2
      cases s with
      | none =>
        cases hx
        simp [getMap] at h3; subst h3
        exact ⟨.int .i64 0, by simp [Builtin.len_, ht, run_underlying hu, goInt], Post.same h (.i _ _) (by simpa using h4)⟩
      | some id =>
        obtain ⟨b, hb, rfl⟩ := hx.m'
        obtain ⟨l, hl, he⟩ := map_obj h (getMap_some h3) hb
        refine ⟨.int .i64 l.length, by simp [Builtin.len_, ht, run_underlying hu, goInt, run_getObj_map hl], Post.same h (.i _ _) (by rw [← he.length]; exact h4)⟩
    · cases hk
  · -- cap
    rename_i t x hts
    obtain ⟨y, rfl, hx⟩ := rels_one hr
    have ht : ts[0]? = some t := by rw [← Array.getElem?_toList, hts]; rfl
    split at hk
    · rename_i e hu
      obtain ⟨s, h1, h2⟩ := Option.bind_eq_some_iff.1 hk
      obtain rfl := V.asSl_eq h1
      split at h2
      · rename_i c hc
        obtain ⟨sa, sl, sc⟩ := s
        simp only at hc; subst hc
        have key : ∃ a l, y = .slice a l c := by cases hx <;> exact ⟨_, _, rfl⟩
        obtain ⟨a, l, rfl⟩ := key
        exact doesB_of rfl (c := .int .i64 c) (w' := w) (by simp [Builtin.cap_, ht, run_underlying hu, goInt]) (Post.same h (.i _ _) h2)
      · cases h2
    · cases hk
  · -- append
    rename_i t u x y hts
    obtain ⟨cx, cy, rfl, hx, hy⟩ := rels_two hr
    have hts' : ts = #[t, u] := by rw [← Array.toArray_toList (xs := ts), hts]
    subst hts'
    split at hk
    · rename_i e hu
      have ht0 := hu
      split at hk
      · rename_i hz0
        have hz : zOk P e = true := by rw [Bool.and_eq_true] at hz0; exact hz0.1
        have hxe : exactT e = false := by rw [Bool.and_eq_true] at hz0; simpa using hz0.2
        obtain ⟨i, z, vz, hi, hiz, his, hib, _, _, _, hzs⟩ := zOk_sound hz
        obtain ⟨s, h1, h2⟩ := Option.bind_eq_some_iff.1 hk
        obtain rfl := V.asSl_eq h1
        have fin : ∀ (du : TypeDesc) (n : Nat) (new : List V) (zs : List Value), P.underlying u = some du → (∀ k, du ≠ .int k) → Rels ρ new zs → zs.length = n * P.cellsOf e → (∀ w' : World, (Builtin.lenOf cy).run P w' = .ok n w') →
            (∀ w' : World, w'.heap = w.heap → (Builtin.firstCells (P.cellsOf e) n cy).run P w' = .ok zs.toArray w') → appendV H e (P.cellsOf e) (P.bytesOf e) s n new (fun r H => K (.sl r) H) = some r →
            DoesB P w .append #[t, u] ty cs [cx, cy] (Post N w0 ρ K r) := by
          intro du n new zs hud hnz hnew hnl hn hf ha
          obtain ⟨s', H', c', w', ρ', e1, e2, e3, e4, e5⟩ := appendV_sound (P := P) h ha hz hxe hx hnew hnl #[t, u] ty cy
            (fun base len cap hc hfit => by subst hc; rw [← his]; exact run_append_fit hu hud hnz hi base len cap n cy zs hn (by rw [his]; exact hf) hfit)
            (fun base len cap z' olds hc hz' hzi ho hov h63 hb => by
              subst hc
              have : z' = z := by simp [hi, hiz] at hzi; exact hzi.symm
              subst this
              exact run_append_over hu hud hnz hi hiz base len cap n cy zs olds hn (by rw [his]; exact hf) (by rw [his]; exact ho) hov h63 (by rw [hib]; exact hb))
          exact doesB_of rfl e1 ⟨_, H', ρ', e2, e3, e4, e5⟩
        split at h2
        · rename_i e2 hu2
          obtain ⟨y', h3, h4⟩ := Option.bind_eq_some_iff.1 h2
          obtain rfl := V.asSl_eq h3
          obtain ⟨new, h5, h6⟩ := Option.bind_eq_some_iff.1 h4
          obtain ⟨a, cap, zs, rfl, z1, z2, z3⟩ := slCells_sound h h5 hy
          exact fin _ _ new zs hu2 (fun k => by simp) z1 z2 (fun w' => by simp [Builtin.lenOf]) z3 h6
        · rename_i hu2
          split at h2
          · cases h2
          rename_i h1c
          have h1c : P.cellsOf e = 1 := by omega
          obtain ⟨y', h3, h4⟩ := Option.bind_eq_some_iff.1 h2
          obtain rfl := V.asS_eq h3
          cases hy
          refine fin _ y'.size _ (y'.data.toList.map fun x => Value.int .u8 x.toNat) hu2 (fun k => by simp) (rels_bytes _) (by rw [h1c]; simp) (fun w' => by simp [Builtin.lenOf]) (fun w' _ => ?_) h4
          rw [firstCells_str]
          congr 3
          rw [List.take_of_length_le]
          simp
        · rename_i kk hu2
          cases y with
          | i kn n =>
            simp only [] at h2
            split at h2
            · rename_i hb
              obtain ⟨hb0, hb1, hb2⟩ := hb
              obtain ⟨new, h5, h6⟩ := Option.bind_eq_some_iff.1 h2
              obtain ⟨zs, z1, z2, z3⟩ := zeroCellsV_sound (ρ := ρ) h5
              cases hy
              have hzz : (n.toNat * i.size = 0 ∧ zs = []) ∨ ∃ z, (∀ w : World, (zeroValue e).run P w = .ok z w) ∧ Builtin.zeroCells z.cells n.toNat = zs.toArray ∧ n.toNat * i.size ≠ 0 := by
                rw [his]
                by_cases h0 : n.toNat * P.cellsOf e = 0
                · exact .inl ⟨h0, List.eq_nil_of_length_eq_zero (by omega)⟩
                · rcases z3 with ⟨z0, _⟩ | ⟨z, q1, q2, q3, q4⟩
                  · exact absurd z0 h0
                  · exact .inr ⟨z, q1, q4, h0⟩
              obtain ⟨s', H', c', w', ρ', e1, e2, e3, e4, e5⟩ := appendV_sound (P := P) h h6 hz hxe hx z1 z2 #[t, u] ty (.int kn n)
                (fun base len cap hc hfit => by subst hc; rw [← his]; exact run_append_fit0 ht0 hu2 hi base len cap hb0 hb1 (by rw [hib]; exact hb2) hzz hfit)
                (fun base len cap z' olds hc hz' hzi ho hov h63 hb => by
                  subst hc
                  have : z' = z := by simp [hi, hiz] at hzi; exact hzi.symm
                  subst this
                  exact run_append_over0 ht0 hu2 hi hiz base len cap hb0 hb1 (by rw [hib]; exact hb2) hzz (by rw [his]; exact ho) hov h63 (by rw [hib]; exact hb))
              exact doesB_of rfl e1 ⟨_, H', ρ', e2, e3, e4, e5⟩
            · cases h2
          | _ => cases h2
        · cases h2
      · cases hk
    · cases hk
  · -- copy
    rename_i t u x y hts
    obtain ⟨cx, cy, rfl, hx, hy⟩ := rels_two hr
    have hts' : ts = #[t, u] := by rw [← Array.toArray_toList (xs := ts), hts]
    subst hts'
    split at hk
    · rename_i e hu
      split at hk
      · cases hk
      rename_i hd0
      obtain ⟨d, hd⟩ : ∃ d, P.underlying e = some d := by cases hx : P.underlying e with | none => simp [hx] at hd0 | some d => exact ⟨d, rfl⟩
      obtain ⟨s, h1, h2⟩ := Option.bind_eq_some_iff.1 hk
      obtain rfl := V.asSl_eq h1
      have fin : ∀ (n : Nat) (new : List V) (zs : List Value), Rels ρ new zs → zs.length = n * P.cellsOf e → n ≤ s.len → (∃ m, (Builtin.lenOf cy).run P w = .ok m w ∧ Nat.min m s.len = n) →
          (Builtin.firstCells (P.cellsOf e) n cy).run P w = .ok zs.toArray w →
          (match s.a with
            | some (id, off) => if new.length = 0 then K (.i .i64 n) H else (H.sts id off new).bind fun H' => K (.i .i64 n) H'
            | none => K (.i .i64 n) H) = some r → DoesB P w .copy #[t, u] ty cs [cx, cy] (Post N w0 ρ K r) := by
        intro n new zs hnew hzl hns hlen hf hkk
        obtain ⟨m, hm, hmn⟩ := hlen
        obtain ⟨a, l, c, rfl, hn, rfl⟩ := hx.slNil
        have hl := hnew.length
        have noth : zs = [] → K (.i .i64 n) H = some r → DoesB P w .copy #[t, u] ty cs [.slice a s.len c, cy] (Post N w0 ρ K r) := by
          intro hz hk'
          subst hz
          refine doesB_of (c := .int .i64 n) (w' := w) rfl ?_ (Post.same h (.i _ _) hk')
          cases a <;> simp [Builtin.copy_, run_underlying hu, run_size hd, hm, hmn, hf, goInt, storeCells]
        split at hkk
        · rename_i id off hsa
          split at hkk
          · rename_i h0
            exact noth (List.eq_nil_of_length_eq_zero (by omega)) hkk
          · rename_i h0
            obtain ⟨H', h5, h6⟩ := Option.bind_eq_some_iff.1 hkk
            have hpos : 0 < s.len := by
              rcases Nat.eq_zero_or_pos s.len with e0 | e0
              · exfalso; apply h0; rw [hl, hzl, show n = 0 by omega]; simp
              · exact e0
            obtain ⟨sa, sl, sc⟩ := s
            simp only at hsa hpos hns hmn h5 h0 hx ⊢
            subst hsa
            have key : ∃ b, ρ id = some b ∧ a = some ⟨b.blk, b.off + off, none⟩ := by
              cases hx with
              | sx _ _ _ _ b ad hb hle ha => exact ⟨b, hb, by rw [ha (by omega)]⟩
              | so _ _ _ _ _ b ad hb hle _ _ ha => exact ⟨b, hb, by rw [ha (by omega)]⟩
            obtain ⟨b, hb, rfl⟩ := key
            obtain ⟨w', hw', hh⟩ := sts_sound (P := P) h h5 hb hnew
            refine doesB_of (c := .int .i64 n) (w' := w') rfl ?_ ⟨_, H', ρ, ρ.le_refl, .i _ _, hh, h6⟩
            simp [Builtin.copy_, run_underlying hu, run_size hd, hm, hmn, hf, goInt, hw']
        · rename_i hsa
          have ha : a = none := by simpa [hsa] using hn
          subst ha
          refine doesB_of (c := .int .i64 n) (w' := w) rfl ?_ (Post.same h (.i _ _) hkk)
          simp [Builtin.copy_, run_underlying hu, run_size hd, hm, hmn, hf, goInt]
      split at h2
      · rename_i e2 hu2
        obtain ⟨y', h3, h4⟩ := Option.bind_eq_some_iff.1 h2
        obtain rfl := V.asSl_eq h3
        obtain ⟨new, h5, h6⟩ := Option.bind_eq_some_iff.1 h4
        obtain ⟨ya, yl, yc, rfl, _, rfl⟩ := hy.slNil
        have hsh := hy.shorter (n := min y'.len s.len) (Nat.min_le_left _ _)
        obtain ⟨a, cap, zs, he, z1, z2, z3⟩ := slCells_sound h h5 hsh
        exact fin _ new zs z1 z2 (Nat.min_le_right _ _) ⟨y'.len, by simp [Builtin.lenOf], rfl⟩ (by have := z3 w rfl; cases ya <;> exact this) h6
      · rename_i hu2
        split at h2
        · cases h2
        rename_i h1c
        have h1c : P.cellsOf e = 1 := by omega
        obtain ⟨y', h3, h4⟩ := Option.bind_eq_some_iff.1 h2
        obtain rfl := V.asS_eq h3
        cases hy
        have hcb : (cellsOfBytes y').take (min y'.size s.len) = (y'.data.toList.take (min y'.size s.len)).map fun x => V.i .u8 x.toNat := by simp [cellsOfBytes, List.map_take]
        refine fin (min y'.size s.len) ((cellsOfBytes y').take (min y'.size s.len)) ((y'.data.toList.take (min y'.size s.len)).map fun x => Value.int .u8 x.toNat) (by rw [hcb]; exact rels_bytes _) (by rw [h1c]; simp) (Nat.min_le_right _ _)
          ⟨y'.size, by simp [Builtin.lenOf], rfl⟩ (firstCells_str _ _ _ _) ?_
        have hlen0 : ((cellsOfBytes y').take (min y'.size s.len)).length = min y'.size s.len := by simp [cellsOfBytes]
        rw [hlen0]; exact h4
      · cases h2
    · cases hk
  · -- min
    rename_i x vs
    cases hr with
    | cons _ y _ ys h1 h2 =>
    obtain ⟨u, z, e1, e2, e3⟩ := minV_sound (P := P) (w := w) vs x y ys (fun v => K v H) hk h1 h2
    exact doesB_of rfl (by simpa [Builtin.min_] using e1) (Post.same h e2 e3)
  · -- max
    rename_i x vs
    cases hr with
    | cons _ y _ ys h1 h2 =>
    obtain ⟨u, z, e1, e2, e3⟩ := minV_sound (P := P) (w := w) vs x y ys (fun v => K v H) hk h1 h2
    exact doesB_of rfl (by simpa [Builtin.max_] using e1) (Post.same h e2 e3)
  · -- delete
    rename_i t m k hts
    obtain ⟨mx, kx, rfl, hm, hkr⟩ := rels_two hr
    have ht : ts[0]? = some t := by rw [← Array.getElem?_toList, hts]; rfl
    obtain ⟨c, w', e1, e2⟩ := delete_sound h ht hm hkr hk ty
    exact doesB_of rfl e1 e2
  · -- delete
    rename_i t t2 m k hts
    obtain ⟨mx, kx, rfl, hm, hkr⟩ := rels_two hr
    have ht : ts[0]? = some t := by rw [← Array.getElem?_toList, hts]; rfl
    obtain ⟨c, w', e1, e2⟩ := delete_sound h ht hm hkr hk ty
    exact doesB_of rfl e1 e2
  · cases hk
  · -- unsafe.SliceData
    rename_i t x hts
    obtain ⟨y, rfl, hx⟩ := rels_one hr
    obtain ⟨s, h1, h2⟩ := Option.bind_eq_some_iff.1 hk
    obtain rfl := V.asSl_eq h1
    obtain ⟨sa, sl, sc⟩ := s
    simp only [sliceData] at h2
    split at h2
    · cases hx
      exact doesB_of rfl (c := .pointer none) (w' := w) rfl (Post.same h .pn h2)
    · rename_i q
      have key : ∀ (a : Addr) (l c : Nat), y = .slice (some a) l c → c ≠ 0 → (Builtin.unsafeSliceData_ ts ty [y].toArray).run P w = .ok (.pointer (some a)) w := by
        rintro a l c rfl hc
        exact Lib.run_unsafeSliceData_row _ _ _ _ _ _ hc
      split at h2
      · rename_i c
        split at h2
        · cases h2
        · rename_i hc
          cases hx with
          | sx id off len c b a hb hle haddr =>
            obtain rfl := haddr hc
            exact doesB_of rfl (key _ _ _ rfl hc) (Post.same h (.p _ _ _ hb) h2)
      · rename_i sz
        split at h2
        · cases h2
        · rename_i hc
          cases hx with
          | so id off len sz cap b a hb hle hml hsz haddr =>
            have hc' : cap ≠ 0 := by omega
            obtain rfl := haddr hc'
            exact doesB_of rfl (key _ _ _ rfl hc') (Post.same h (.p _ _ _ hb) h2)
  · -- unsafe.String
    rename_i t t2 p n hts
    obtain ⟨cp, cx, rfl, hp, hx⟩ := rels_two hr
    have hts' : ts = #[t, t2] := by rw [← Array.toArray_toList (xs := ts), hts]
    subst hts'
    split at hk
    · rename_i n
      cases hx
      obtain ⟨q, h1, h2⟩ := Option.bind_eq_some_iff.1 hk
      obtain rfl := V.asP_eq h1
      simp only [unsafeStr] at h2
      split at h2
      · rename_i h0
        subst h0
        have key : ∃ a, cp = .pointer a := by cases hp <;> exact ⟨_, rfl⟩
        obtain ⟨a, rfl⟩ := key
        exact doesB_of rfl (c := .string ByteArray.empty) (w' := w) (Lib.run_unsafeString_none w t t2 ty a) (Post.same h (.s _) h2)
      · split at h2
        · cases h2
        · rename_i q
          split at h2
          · rename_i e' hu
            obtain ⟨s, h3, h4⟩ := Option.bind_eq_some_iff.1 h2
            split at h4
            · rename_i hn
              obtain ⟨b, hb, rfl⟩ := hp.p'
              obtain ⟨w', e1, e2⟩ := unsafeString_sound h hu (it := t2) (ty := ty) hb h3 hn.1 hn.2
              exact doesB_of rfl e1 ⟨_, _, ρ, ρ.le_refl, .s _, e2, h4⟩
            · cases h4
          · cases h2
    · cases hk
  · cases hk

end
end Go.Proofs.Ytnlfkllnmobppaa.AM

/- Every operation of the machine stands for the model's. -/
namespace Go.Proofs.Ytnlfkllnmobppaa.AM
open Go Go.RowKit

section
variable {P : Program} {N : Nat} {w0 : Ref} {w : World} {ρ : Env} {H : Heap}

theorem under_of {t : TypeId} (h : ¬ (P.underlying t).isNone = true) : ∃ d, P.underlying t = some d := by cases hx : P.underlying t with | none => simp [hx] at h | some d => exact ⟨d, rfl⟩

theorem wrap_i64 {n : Int} (h0 : 0 ≤ n) (h1 : n ≤ 9223372036854775807) : IntKind.i64.wrap n = n := by
  unfold IntKind.wrap IntKind.bits IntKind.signed
  simp only []
  rw [Int.emod_eq_of_lt h0 (by omega)]
  simp; omega

theorem ev_makeSlice {R : Type} {r : R} {K : V → Heap → Option R} (h : HR N w0 ρ H w) {t e : TypeId} {kl kc : IntKind} {l c : Int} (hu : P.underlying t = some (.slice e)) {d : TypeDesc} (hd : P.underlying e = some d) (h0 : 0 ≤ l) (h1 : l ≤ c) (h2 : c ≤ 9223372036854775807) (h3 : c * P.bytesOf e ≤ 281474976710656)
    (hk : ((zeroCellsV P e c.toNat).bind fun z => K (.sl ⟨some (H.next, 0), l.toNat, .ex c.toNat⟩) (H.new (.cells z e false))) = some r) :
    ∃ x w', (Instr.makeSlice t (.int kl l) (.int kc c)).run P w = .ok x w' ∧ Post N w0 ρ K r x w' := by
  obtain ⟨z, h5, h6⟩ := Option.bind_eq_some_iff.1 hk
  obtain ⟨xs, x1, x2, x3⟩ := zeroCellsV_sound (ρ := ρ) h5
  obtain ⟨i, hi, hs, hb⟩ := info_of hd
  have wl := wrap_i64 h0 (by omega)
  have wc := wrap_i64 (n := c) (by omega) h2
  refine ⟨.slice (some ⟨w.heap.size, 0, none⟩) l.toNat c.toNat, w.alloc (.cells xs.toArray e), ?_, new_post h x1 h6 fun ρ' hρ => .sx _ _ _ _ _ _ hρ (by omega) (fun _ => rfl)⟩
  have hbb : ¬ (281474976710656 < (i.bytes : Int) * c) := by rw [hb] at h3; rw [Int.mul_comm]; omega
  have e0 : (Array.range 0).map (fun i => (#[] : Array Value)[i % (#[] : Array Value).size]!) = ([] : List Value).toArray := by simp [Array.range]
  have c1 : ¬ c < 0 := by omega
  have c2 : ¬ l < 0 := by omega
  have c3 : ¬ c < l := by omega
  by_cases hz0 : c.toNat * i.size = 0
  · have hx0 : xs = [] := List.eq_nil_of_length_eq_zero (by rw [x2, hs]; exact hz0)
    subst hx0
    simp only [Instr.makeSlice, Sem.run_bind, run_underlying hu, Result.andThen_ok, asInt, asIntOf, Sem.run_pure, typeInfo, run_program, hi]
    simp [wl, wc, c1, c2, c3, hbb, sizeOf, typeInfo, hi, hz0, newRow]
    congr 1
    simp [Array.range]
  · rcases x3 with ⟨hh, _⟩ | ⟨zz, z1, z2, z3, _⟩
    · rw [hs] at hh; exact absurd hh hz0
    · rw [hs] at z3
      simp only [Instr.makeSlice, Sem.run_bind, run_underlying hu, Result.andThen_ok, asInt, asIntOf, Sem.run_pure, typeInfo, run_program, hi]
      have hz1 : ¬ (c.toNat = 0 ∨ i.size = 0) := by intro hh; apply hz0; rcases hh with hh | hh <;> simp [hh]
      simp only [not_or] at hz1
      simp [wl, wc, c1, c2, c3, hbb, sizeOf, typeInfo, hi, hz0, newRow, z1, z3]

theorem intOpt_sound {val : Operand → Option V} {e : Operand → Value} (hv : ∀ x v, val x = some v → Rel ρ v (e x)) {o : Option Operand} {q : Option Int} (h : intOpt val o = some q) : IO1 q (o.map e) := by
  unfold intOpt at h
  split at h
  · simp at h; subst h; trivial
  · rename_i x
    split at h
    · rename_i k n hx
      simp at h; subst h
      have := hv _ _ hx
      cases hex : e x <;> rw [hex] at this <;> cases this
      simp [IO1, hex]
    · cases h

theorem ev_slice {R : Type} {r : R} {K : V → Heap → Option R} (h : HR N w0 ρ H w) {t : TypeId} {v : V} {x : Value} {l hh m : Option Int} {vl vh vm : Option Value} (hx : Rel ρ v x) (hl : IO1 l vl) (hhi : IO1 hh vh) (hm : IO1 m vm)
    (hk : (match P.underlying t with
      | some .string => match (generalizing := false) m with
        | none => v.asS.bind fun s => if 0 ≤ l.getD 0 ∧ l.getD 0 ≤ hh.getD s.size ∧ hh.getD s.size ≤ s.size then K (.s (subS s (l.getD 0) (hh.getD s.size))) H else none
        | some _ => none
      | some (.slice e) => if (P.underlying e).isNone then none else v.asSl.bind fun s => slOf (P.cellsOf e) s l hh m fun r => K (.sl r) H
      | some (.array n e) => if (P.underlying e).isNone then none else match (generalizing := false) v with
        | .p x => (x : Option (Nat × Nat)).bind fun q => slOf (P.cellsOf e) ⟨some q, n, .ex n⟩ l hh m fun r => K (.sl r) H
        | _ => none
      | _ => none) = some r) :
    ∃ c, (Instr.sliceAt t x vl vh vm).run P w = .ok c w ∧ Post N w0 ρ K r c w := by
  split at hk
  · rename_i hu
    cases m with
    | none =>
      obtain ⟨s, h1, h2⟩ := Option.bind_eq_some_iff.1 hk
      obtain rfl := V.asS_eq h1
      cases hx
      split at h2
      · rename_i hc
        obtain ⟨c0, c1, c2⟩ := hc
        have hvm : vm = none := by cases vm <;> simp [IO1] at hm ⊢
        subst hvm
        have hb := run_sliceBounds (P := P) (isS := false) (len := s.size) (cap := s.size) (mx := none) (vm := none) hl hhi trivial (by simp) c0 c1 (by simpa using c2) (by simp) w
        refine ⟨.string (subS s (l.getD 0) (hh.getD s.size)), ?_, Post.same h (.s _) h2⟩
        simp [Instr.sliceAt, Instr.slice, run_underlying hu, hb, subS]
      · cases h2
    | some _ => cases hk
  · rename_i e hu
    split at hk
    · cases hk
    rename_i hd0
    obtain ⟨d, hd⟩ := under_of hd0
    obtain ⟨s, h1, h2⟩ := Option.bind_eq_some_iff.1 hk
    obtain rfl := V.asSl_eq h1
    obtain ⟨a, len, cap, rfl, _, _⟩ := hx.slNil
    obtain ⟨s', l', h', m', e1, e2, e3⟩ := slOf_sound (P := P) h2 hx hl hhi hm true w
    refine ⟨_, ?_, Post.same h e2 e3⟩
    simp [Instr.sliceAt, Instr.slice, run_underlying hu, e1, run_size hd]
  · rename_i n e hu
    split at hk
    · cases hk
    rename_i hd0
    obtain ⟨d, hd⟩ := under_of hd0
    cases v with
    | p q =>
      obtain ⟨q, h1, h2⟩ := Option.bind_eq_some_iff.1 hk
      subst h1
      obtain ⟨b, hb, rfl⟩ := hx.p'
      have hx' : Rel ρ (.sl ⟨some q, n, .ex n⟩) (.slice (some ⟨b.blk, b.off + q.2, none⟩) n n) := .sx q.1 q.2 n n b _ hb (Nat.le_refl _) (fun _ => rfl)
      obtain ⟨s', l', h', m', e1, e2, e3⟩ := slOf_sound (P := P) h2 hx' hl hhi hm false w
      refine ⟨_, ?_, Post.same h e2 e3⟩
      simp only [Instr.sliceAt, Sem.run_bind, run_underlying hu, Result.andThen_ok, Instr.sureAddr, Sem.run_pure, e1, run_size hd]
      congr 2
      split <;> simp
    | _ => cases hk
  · cases hk

theorem ev_indexAddr {R : Type} {r : R} {K : V → Heap → Option R} (h : HR N w0 ρ H w) {t : TypeId} {v i : V} {x ix : Value} (hx : Rel ρ v x) (hi : Rel ρ i ix)
    (hk : (match (generalizing := false) i with
      | .i _ n => match P.underlying t with
        | some (.slice e) => if (P.underlying e).isNone then none else v.asSl.bind fun s => if 0 ≤ n ∧ n < s.len then s.a.bind fun q => K (.p (some (q.1, q.2 + n.toNat * P.cellsOf e))) H else none
        | some (.array len e) => if (P.underlying e).isNone then none else match (generalizing := false) v with
          | .p x => (x : Option (Nat × Nat)).bind fun q => if 0 ≤ n ∧ n < len then K (.p (some (q.1, q.2 + n.toNat * P.cellsOf e))) H else none
          | _ => none
        | _ => none
      | _ => none) = some r) :
    ∃ c, (Instr.indexAt t x ix).run P w = .ok c w ∧ Post N w0 ρ K r c w := by
  cases i with
  | i k n =>
    cases hi
    simp only at hk
    split at hk
    · rename_i e hu
      split at hk
      · cases hk
      rename_i hd0
      obtain ⟨d, hd⟩ := under_of hd0
      obtain ⟨s, h1, h2⟩ := Option.bind_eq_some_iff.1 hk
      obtain rfl := V.asSl_eq h1
      split at h2
      · rename_i hn
        obtain ⟨q, h3, h4⟩ := Option.bind_eq_some_iff.1 h2
        obtain ⟨sa, sl, sc⟩ := s
        simp only at h3 hn
        subst h3
        have key : ∃ b cap, ρ q.1 = some b ∧ x = .slice (some ⟨b.blk, b.off + q.2, none⟩) sl cap := by
          cases hx with
          | sx _ _ _ c b ad hb hle ha => exact ⟨b, c, hb, by rw [ha (by omega)]⟩
          | so _ _ _ _ c b ad hb hle _ _ ha => exact ⟨b, c, hb, by rw [ha (by omega)]⟩
        obtain ⟨b, cap, hb, rfl⟩ := key
        refine ⟨.pointer (some ⟨b.blk, b.off + (q.2 + n.toNat * P.cellsOf e), none⟩), ?_, Post.same h (.p _ _ b hb) h4⟩
        simp [Instr.indexAt, asIntOf, run_underlying hu, hn.1, hn.2, run_size hd, Addr.add_lit, Nat.add_assoc]
      · cases h2
    · rename_i len e hu
      split at hk
      · cases hk
      rename_i hd0
      obtain ⟨d, hd⟩ := under_of hd0
      cases v with
      | p q =>
        obtain ⟨q, h1, h2⟩ := Option.bind_eq_some_iff.1 hk
        subst h1
        obtain ⟨b, hb, rfl⟩ := hx.p'
        split at h2
        · rename_i hn
          refine ⟨.pointer (some ⟨b.blk, b.off + (q.2 + n.toNat * P.cellsOf e), none⟩), ?_, Post.same h (.p _ _ b hb) h2⟩
          simp [Instr.indexAt, asIntOf, run_underlying hu, Instr.sureAddr, hn.1, hn.2, run_size hd, Addr.add_lit, Nat.add_assoc]
        · cases h2
      | _ => cases hk
    · cases hk
  | _ => cases hk

theorem ev_index {R : Type} {r : R} {K : V → Heap → Option R} (h : HR N w0 ρ H w) {t : TypeId} {v i : V} {x ix : Value} (hx : Rel ρ v x) (hi : Rel ρ i ix)
    (hk : (match (generalizing := false) i with
      | .i _ n => match P.underlying t with
        | some .string => v.asS.bind fun s => if 0 ≤ n ∧ n < s.size then K (.i .u8 (btAt s n)) H else none
        | some (.array len e) => v.asAgg.bind fun cs => if 0 ≤ n ∧ n < len then partV P e cs (n.toNat * P.cellsOf e) fun v => exT P e v fun v => K v H else none
        | _ => none
      | _ => none) = some r) :
    ∃ c, (Instr.index t x ix).run P w = .ok c w ∧ Post N w0 ρ K r c w := by
  cases i with
  | i k n =>
    cases hi
    simp only at hk
    split at hk
    · rename_i hu
      obtain ⟨s, h1, h2⟩ := Option.bind_eq_some_iff.1 hk
      obtain rfl := V.asS_eq h1
      cases hx
      split at h2
      · rename_i hn
        refine ⟨.int .u8 (btAt s n), ?_, Post.same h (.i _ _) h2⟩
        have hlt : n.toNat < s.size := by omega
        have hg : s[n.toNat]? = some s[n.toNat] := by simp [hlt]
        have hb : btAt s n = (s[n.toNat].toNat : Int) := by
          unfold btAt
          rw [List.getD_eq_getElem?_getD, List.getElem?_eq_getElem (by simpa using hlt)]
          rfl
        simp [Instr.index, asIntOf, run_underlying hu, hn.1, hg, hb]
      · cases h2
    · rename_i len e hu
      obtain ⟨cs, h1, h2⟩ := Option.bind_eq_some_iff.1 hk
      obtain rfl := V.asAgg_eq h1
      cases hx with
      | agg _ xs hrs =>
      split at h2
      · rename_i hn
        obtain ⟨u, y, e1, e2, e3⟩ := partV_sound hrs h2
        refine ⟨y, ?_, Post.same h e2 (exT_sound e3)⟩
        have hsz : (sizeOf e).run P w = .ok (P.cellsOf e) w := by
          unfold partV at h2
          split at h2
          · rename_i hd; exact run_size hd w
          · cases h2
        simp [Instr.index, asIntOf, run_underlying hu, hn.1, hn.2, hsz, e1]
      · cases h2
    · cases hk
  | _ => cases hk

end
end Go.Proofs.Ytnlfkllnmobppaa.AM

/- Every operation of the machine stands for the model's: maps, calls, and all together. -/
namespace Go.Proofs.Ytnlfkllnmobppaa.AM
open Go Go.RowKit

section
variable {P : Program} {N : Nat} {w0 : Ref} {w : World} {ρ : Env} {H : Heap}

theorem keyV_kind {kt : TypeId} {k : V} (h : keyV P kt k = true) : ∃ kind, P.underlying kt = some kind := by
  unfold keyV keyOk at h
  cases hx : P.underlying kt with
  | none => simp [hx] at h
  | some d => exact ⟨d, rfl⟩
theorem keyV_ok {kt : TypeId} {k : V} (h : keyV P kt k = true) : keyOk P 30 kt = true := by
  unfold keyV at h; simp only [Bool.and_eq_true] at h; exact h.1

/-- where a key stands in a map -/
theorem find_sound (h : HR N w0 ρ H w) {id : Nat} {mm : List (V × V × Nat) × Nat} {b : Base} (hg : getMap H (some id) = some mm) (hb : ρ id = some b) {kt : TypeId} {k : V} {kx : Value} (hkv : keyV P kt k = true) (hkr : Rel ρ k kx)
    {q : Option (Nat × V)} (hq : findE P kt k mm.1 0 = some q) :
    ∃ (l : List MapEntry) (q' : Option (Nat × Value)), w.heap[b.blk]? = some (.map l.toArray mm.2) ∧ ERel ρ mm.1 l ∧ (∀ w' : World, (Instr.findKey kt kx l).run P w' = .ok q' w') ∧ QRel ρ q q' := by
  obtain ⟨l, hl, he⟩ := map_obj h (getMap_some hg) hb
  obtain ⟨kind, hk⟩ := keyV_kind hkv
  obtain ⟨q', h1, h2⟩ := findKey_sound hk hkr he hq
  exact ⟨l, q', hl, he, h1, h2⟩

theorem ev_lookup {R : Type} {r : R} {K : V → Heap → Option R} (h : HR N w0 ρ H w) {t : TypeId} {ok : Bool} {m k : V} {mx kx : Value} (hm : Rel ρ m mx) (hkr : Rel ρ k kx)
    (hk : (match P.underlying t with
      | some (.map kt et) => if keyV P kt k then m.asM.bind fun r => (getMap H r).bind fun mm => (findE P kt k mm.1 0).bind fun q => match q with
        | some (_, v) => exT P et v fun v => K (if ok then .tup [v, .b true] else v) H
        | none => (zeroV P et).bind fun z => K (if ok then .tup [z, .b false] else z) H
        else none
      | _ => none) = some r) :
    ∃ c, (Instr.lookup t mx kx ok).run P w = .ok c w ∧ Post N w0 ρ K r c w := by
  split at hk
  · rename_i kt et hu
    split at hk
    · rename_i hkv
      obtain ⟨rr, h1, h2⟩ := Option.bind_eq_some_iff.1 hk
      obtain rfl := V.asM_eq h1
      obtain ⟨mm, h3, h4⟩ := Option.bind_eq_some_iff.1 h2
      obtain ⟨q, h5, h6⟩ := Option.bind_eq_some_iff.1 h4
      have fin : ∀ (es : Array MapEntry) (q' : Option (Nat × Value)), (∀ w' : World, (Instr.findKey kt kx es.toList).run P w' = .ok q' w') → QRel ρ q q' →
          (mx = .map none ∧ es = #[] ∨ ∃ rr ck, mx = .map (some rr) ∧ w.heap[rr]? = some (.map es ck)) → ∃ c, (Instr.lookup t mx kx ok).run P w = .ok c w ∧ Post N w0 ρ K r c w := by
        intro es q' hq hrel hmx
        cases q with
        | some p =>
          obtain ⟨j, v⟩ := p
          cases q' with
          | none => exact hrel.elim
          | some p' =>
            obtain ⟨j', x⟩ := p'
            obtain ⟨rfl, hvx⟩ := hrel
            have h7 := exT_sound h6
            cases ok
            · refine ⟨x, ?_, Post.same h hvx h7⟩
              rcases hmx with ⟨rfl, rfl⟩ | ⟨rr', ck, rfl, hl⟩
              · simp at hq; simp [Instr.lookup, run_underlying hu, keyV_check hkv hkr, hq]
              · simp [Instr.lookup, run_underlying hu, keyV_check hkv hkr, hq, run_getObj_map hl]
            · refine ⟨.tuple #[x, .bool true], ?_, Post.same h (.tup _ [x, .bool true] (.cons _ _ _ _ hvx (.cons _ _ _ _ (.b _) .nil))) h7⟩
              rcases hmx with ⟨rfl, rfl⟩ | ⟨rr', ck, rfl, hl⟩
              · simp at hq; simp [Instr.lookup, run_underlying hu, keyV_check hkv hkr, hq]
              · simp [Instr.lookup, run_underlying hu, keyV_check hkv hkr, hq, run_getObj_map hl]
        | none =>
          cases q' with
          | some _ => exact hrel.elim
          | none =>
            obtain ⟨z, h7, h8⟩ := Option.bind_eq_some_iff.1 h6
            obtain ⟨x, hx, hxr, _⟩ := zeroV_sound (ρ := ρ) h7
            cases ok
            · refine ⟨x, ?_, Post.same h hxr h8⟩
              rcases hmx with ⟨rfl, rfl⟩ | ⟨rr', ck, rfl, hl⟩
              · simp at hq; simp [Instr.lookup, run_underlying hu, keyV_check hkv hkr, hq, hx]
              · simp [Instr.lookup, run_underlying hu, keyV_check hkv hkr, hq, hx, run_getObj_map hl]
            · refine ⟨.tuple #[x, .bool false], ?_, Post.same h (.tup _ [x, .bool false] (.cons _ _ _ _ hxr (.cons _ _ _ _ (.b _) .nil))) h8⟩
              rcases hmx with ⟨rfl, rfl⟩ | ⟨rr', ck, rfl, hl⟩
              · simp at hq; simp [Instr.lookup, run_underlying hu, keyV_check hkv hkr, hq, hx]
              · simp [Instr.lookup, run_underlying hu, keyV_check hkv hkr, hq, hx, run_getObj_map hl]
      cases rr with
      | none =>
        cases hm
        simp [getMap] at h3; subst h3
        obtain ⟨kind, hkd⟩ := keyV_kind hkv
        obtain ⟨q', q1, q2⟩ := findKey_sound (P := P) (ρ := ρ) hkd hkr (es := []) (l := []) trivial h5
        exact fin #[] q' q1 q2 (.inl ⟨rfl, rfl⟩)
      | some id =>
        obtain ⟨b, hb, rfl⟩ := hm.m'
        obtain ⟨l, q', hl, _, q1, q2⟩ := find_sound h h3 hb hkv hkr h5
        exact fin l.toArray q' q1 q2 (.inr ⟨_, _, rfl, hl⟩)
    · cases hk
  · cases hk

theorem modify_set {l : List MapEntry} {j : Nat} {x : MapEntry} (f : MapEntry → MapEntry) (hx : l[j]? = some x) : l.modify j f = l.set j (f x) := by
  apply List.ext_getElem?
  intro i
  rw [List.getElem?_modify, List.getElem?_set]
  by_cases h : j = i
  · subst h
    obtain ⟨hlt, hxx⟩ := List.getElem?_eq_some_iff.1 hx
    simp [hlt, hxx]
  · simp [h]

theorem mapSet_sound {R : Type} {r : R} {K : V → Heap → Option R} (h : HR N w0 ρ H w) {t : TypeId} {m k v : V} {mx kx x : Value} (hm : Rel ρ m mx) (hkr : Rel ρ k kx) (hv : Rel ρ v x) (hk : mapSet P H t m k v K = some r) :
    ∃ w', (Instr.mapUpdate t mx kx x).run P w = .ok () w' ∧ Post N w0 ρ K r undef w' := by
  unfold mapSet at hk
  split at hk
  · rename_i kt et hu
    split at hk
    · rename_i hkv
      obtain ⟨rr, h1, h2⟩ := Option.bind_eq_some_iff.1 hk
      obtain rfl := V.asM_eq h1
      split at h2
      · cases h2
      rename_i id
      obtain ⟨b, hb, rfl⟩ := hm.m'
      obtain ⟨mm, h3, h4⟩ := Option.bind_eq_some_iff.1 h2
      obtain ⟨q, h5, h6⟩ := Option.bind_eq_some_iff.1 h4
      obtain ⟨l, q', hl, he, q1, q2⟩ := find_sound h h3 hb hkv hkr h5
      have ho := getMap_some h3
      cases q with
      | some p =>
        obtain ⟨j, v0⟩ := p
        cases q' with
        | none => exact q2.elim
        | some p' =>
          obtain ⟨j', x0⟩ := p'
          obtain ⟨rfl, _⟩ := q2
          simp only at h6
          split at h6
          · rename_i k' v1 born hj
            split at h6
            · rename_i hks
              obtain ⟨_, k2, b2, hj2, heq⟩ := findE_at _ _ _ _ h5
              rw [Nat.sub_zero, hj] at hj2
              obtain ⟨rfl, rfl, rfl⟩ : k' = k2 ∧ v1 = v0 ∧ born = b2 := by simpa using hj2
              obtain ⟨y, hy, y1, y2, y3⟩ := he.get j _ _ _ hj
              have hst := keyThatStays_sound hkr y1 heq hks (keyV_ok hkv) w
              have hset := he.set j (k := k) (v := v) (b := born) (x := { y with key := kx, val := x }) hkr hv y3
              have hw := map_write (P := P) h ho hb hset (ck' := mm.2)
              refine ⟨_, ?_, _, _, ρ, ρ.le_refl, rel_undef, hw.2, h6⟩
              have hmod := modify_set (l := l) (j := j) (fun e => { e with key := kx, val := x }) hy
              simp [Instr.mapUpdate, run_underlying hu, run_getObj_map hl, keyV_check hkv hkr, q1, hy, hst, hmod, hw.1]
            · cases h6
          · cases h6
      | none =>
        cases q' with
        | some _ => exact q2.elim
        | none =>
          have hp := he.push (k := k) (v := v) (b := mm.2) (x := { key := kx, val := x, born := mm.2 }) hkr hv rfl
          have hw := map_write (P := P) h ho hb hp (ck' := mm.2 + 1)
          refine ⟨_, ?_, _, _, ρ, ρ.le_refl, rel_undef, hw.2, h6⟩
          simp [Instr.mapUpdate, run_underlying hu, run_getObj_map hl, keyV_check hkv hkr, q1]
          exact hw.1
    · cases hk
  · cases hk

theorem ev_mapEntry {R : Type} {r : R} {K : V → Heap → Option R} (h : HR N w0 ρ H w) {t : TypeId} {m k : V} {mx kx : Value} (hm : Rel ρ m mx) (hkr : Rel ρ k kx)
    (hk : (match P.underlying t with
    | some (.map kt et) => if keyV P kt k then m.asM.bind fun r => match r with
      | none => none
      | some id => (getMap H (some id)).bind fun mm => (findE P kt k mm.1 0).bind fun q => match q with
        | some (j, v) => match mm.1[j]? with
          | some (k', _, born) => if keySame k k' then exT P et v fun v => K (.tup [v, .i .i64 born]) (H.put id (.map (mm.1.set j (k, v, born)) mm.2)) else none
          | none => none
        | none => (zeroV P et).bind fun z => K (.tup [z, .i .i64 mm.2]) (H.put id (.map (mm.1 ++ [(k, z, mm.2)]) (mm.2 + 1)))
      else none
    | _ => none) = some r) :
    ∃ c w', (Instr.mapEntry t mx kx).run P w = .ok c w' ∧ Post N w0 ρ K r c w' := by
  split at hk
  · rename_i kt et hu
    split at hk
    · rename_i hkv
      obtain ⟨rr, h1, h2⟩ := Option.bind_eq_some_iff.1 hk
      obtain rfl := V.asM_eq h1
      split at h2
      · cases h2
      rename_i id
      obtain ⟨b, hb, rfl⟩ := hm.m'
      obtain ⟨mm, h3, h4⟩ := Option.bind_eq_some_iff.1 h2
      obtain ⟨q, h5, h6⟩ := Option.bind_eq_some_iff.1 h4
      obtain ⟨l, q', hl, he, q1, q2⟩ := find_sound h h3 hb hkv hkr h5
      have ho := getMap_some h3
      cases q with
      | some p =>
        obtain ⟨j, v0⟩ := p
        cases q' with
        | none => exact q2.elim
        | some p' =>
          obtain ⟨j', x0⟩ := p'
          obtain ⟨rfl, hvx⟩ := q2
          simp only at h6
          split at h6
          · rename_i k' v1 born hj
            split at h6
            · rename_i hks
              obtain ⟨_, k2, b2, hj2, heq⟩ := findE_at _ _ _ _ h5
              rw [Nat.sub_zero, hj] at hj2
              obtain ⟨rfl, rfl, rfl⟩ : k' = k2 ∧ v1 = v0 ∧ born = b2 := by simpa using hj2
              obtain ⟨y, hy, y1, y2, y3⟩ := he.get j _ _ _ hj
              subst y3
              have hst := keyThatStays_sound hkr y1 heq hks (keyV_ok hkv) w
              have hset := he.set j (k := k) (v := v1) (b := y.born) (x := { y with key := kx }) hkr y2 rfl
              have hw := map_write (P := P) h ho hb hset (ck' := mm.2)
              refine ⟨.tuple #[x0, .int .i64 y.born], _, ?_, _, _, ρ, ρ.le_refl, .tup _ [x0, .int .i64 y.born] (.cons _ _ _ _ hvx (.cons _ _ _ _ (.i _ _) .nil)), hw.2, exT_sound h6⟩
              have hmod := modify_set (l := l) (j := j) (fun e => { e with key := kx }) hy
              simp [Instr.mapEntry, run_underlying hu, run_getObj_map hl, keyV_check hkv hkr, q1, hy, hst, hmod, hw.1, goInt]
            · cases h6
          · cases h6
      | none =>
        cases q' with
        | some _ => exact q2.elim
        | none =>
          obtain ⟨z, h7, h8⟩ := Option.bind_eq_some_iff.1 h6
          obtain ⟨zx, z1, z2, _⟩ := zeroV_sound (ρ := ρ) h7
          have hp := he.push (k := k) (v := z) (b := mm.2) (x := { key := kx, val := zx, born := mm.2 }) hkr z2 rfl
          have hw := map_write (P := P) h ho hb hp (ck' := mm.2 + 1)
          refine ⟨.tuple #[zx, .int .i64 mm.2], _, ?_, _, _, ρ, ρ.le_refl, .tup _ [zx, .int .i64 mm.2] (.cons _ _ _ _ z2 (.cons _ _ _ _ (.i _ _) .nil)), hw.2, h8⟩
          simp [Instr.mapEntry, run_underlying hu, run_getObj_map hl, keyV_check hkv hkr, q1, z1, hw.1, goInt]
    · cases hk
  · cases hk

theorem findBorn_sound {n : Int} : ∀ (es : List (V × V × Nat)) (l : List MapEntry) (i j : Nat), ERel ρ es l → findBorn n es i = some j → i ≤ j ∧ l.findIdx? (fun e => (e.born : Int) == n) = some (j - i) ∧ j - i < es.length := by
  intro es
  induction es with
  | nil => intro l i j _ h; simp [findBorn] at h
  | cons e es ih =>
    intro l i j hr h
    cases l with
    | nil => exact hr.elim
    | cons x l =>
      obtain ⟨k, v, b⟩ := e
      simp only [findBorn] at h
      have hb := hr.2.2.1
      split at h
      · rename_i hbn
        obtain rfl : i = j := by simpa using h
        refine ⟨Nat.le_refl _, ?_, by simp⟩
        simp [List.findIdx?_cons, hb, hbn]
      · rename_i hbn
        obtain ⟨h1, h2, h3⟩ := ih l (i + 1) j hr.2.2.2 h
        refine ⟨by omega, ?_, by simp; omega⟩
        simp only [List.findIdx?_cons, hb]
        have : ((b : Int) == n) = false := by simpa using hbn
        simp only [this, Bool.false_eq_true, if_false, h2, Option.map_some]
        congr 1; omega

theorem ev_entryStore {R : Type} {r : R} {K : V → Heap → Option R} (h : HR N w0 ρ H w) {t : TypeId} {m s v : V} {mx sx x : Value} (hm : Rel ρ m mx) (hs : Rel ρ s sx) (hv : Rel ρ v x)
    (hk : (m.asM.bind fun r => match (generalizing := false) r, s with
    | some id, .i _ n => (getMap H (some id)).bind fun mm => (findBorn n mm.1 0).bind fun j => match mm.1[j]? with
      | some (k, _, born) => K (.tup []) (H.put id (.map (mm.1.set j (k, v, born)) mm.2))
      | none => none
    | _, _ => none) = some r) :
    ∃ w', (Instr.entryStore t mx sx x).run P w = .ok () w' ∧ Post N w0 ρ K r undef w' := by
  obtain ⟨rr, h1, h2⟩ := Option.bind_eq_some_iff.1 hk
  obtain rfl := V.asM_eq h1
  split at h2
  · rename_i id kk n
    cases hs
    obtain ⟨b, hb, rfl⟩ := hm.m'
    obtain ⟨mm, h3, h4⟩ := Option.bind_eq_some_iff.1 h2
    obtain ⟨j, h5, h6⟩ := Option.bind_eq_some_iff.1 h4
    have ho := getMap_some h3
    obtain ⟨l, hl, he⟩ := map_obj h ho hb
    obtain ⟨_, hf, _⟩ := findBorn_sound _ _ _ _ he h5
    rw [Nat.sub_zero] at hf
    split at h6
    · rename_i k v0 born hj
      obtain ⟨y, hy, y1, y2, y3⟩ := he.get j _ _ _ hj
      have hset := he.set j (k := k) (v := v) (b := born) (x := { y with val := x }) y1 hv y3
      have hw := map_write (P := P) h ho hb hset (ck' := mm.2)
      refine ⟨_, ?_, _, _, ρ, ρ.le_refl, rel_undef, hw.2, h6⟩
      have hmod := modify_set (l := l) (j := j) (fun e => { e with val := x }) hy
      have hf' : l.toArray.findIdx? (fun e => (e.born : Int) == n) = some j := by simpa using hf
      simp [Instr.entryStore, run_getObj_map hl, asInt, asIntOf, hf', hmod, hw.1]
    · cases h6
  · cases h2

end
end Go.Proofs.Ytnlfkllnmobppaa.AM

/- Every operation of the machine stands for the model's: the theorem. -/
namespace Go.Proofs.Ytnlfkllnmobppaa.AM
open Go Go.RowKit

section
variable {P : Program} {N : Nat} {w0 : Ref} {w : World} {ρ : Env} {H : Heap}

theorem arr_map {α β : Type} (f : α → β) (a : Array α) : (a.toList.map f).toArray = a.map f := by apply Array.ext'; simp
theorem cons_get (a : Value) (b : Array Value) : (#[a] ++ b)[0]? = some a := by rw [Array.getElem?_append_left (by simp)]; rfl
theorem cons_extract (a : Value) (b : Array Value) : (#[a] ++ b).extract 1 (#[a] ++ b).size = b := by
  apply Array.ext'
  simp [List.extract_eq_take_drop]

theorem nilCheck_ok {v : V} {x : Value} (hr : Rel ρ v x) {o : Oper} {e : Operand → Value} {y : Operand} (ho : o.op = .nilCheck y) (hy : e y = x)
    (h : (∃ q, v = .p (some q)) ∨ (∃ t u, v = .ifc t u) ∨ (∃ f a c, v = .fn (.func f) a c)) : (execOp e o).run P w = .ok (.value x) w := by
  unfold execOp
  simp only [ho, hy]
  rcases h with ⟨q, rfl⟩ | ⟨t, u, rfl⟩ | ⟨f, a, c, rfl⟩ <;> cases hr <;> rfl

theorem methNotNil_sound {r : V} {x : Value} {name : String} (h : methNotNil P r name = true) (hr : Rel ρ r x) (n : Nat) : ∃ t y, x = .iface t y ∧ (nilAhead (n + 1) t y name).run P w = .ok (some false) w := by
  unfold methNotNil at h
  split at h
  · rename_i t v
    cases hr with
    | ifc _ _ y hy =>
    refine ⟨t, y, rfl, ?_⟩
    split at h
    · rename_i m hm
      cases hi : P.info? t with
      | none => simp [hi] at hm
      | some i =>
        simp only [hi, Option.bind_some] at hm
        split at h
        · rename_i f hfun hpath
          simp [nilAhead, typeInfo, hi, hm, hpath, followBlind, hfun]
        · rename_i f hfun hpath
          split at h
          · cases h
          · rename_i d hnp hu
            have : ∀ z : Option Value, (match d, z with
              | .pointer _, some (.pointer none) => pure (some true)
              | .pointer _, some _ => pure (some false)
              | .pointer _, none => pure none
              | _, _ => pure (some false) : Sem (Option Bool)) = pure (some false) := by
              intro z
              cases d <;> first | rfl | (exact absurd rfl (hnp _))
            simp only [nilAhead, typeInfo, Sem.run_bind, run_program, Result.andThen_ok, hi, Sem.run_pure, hm, hpath, followBlind, hfun, run_underlying hu]
            cases d <;> first | rfl | (exact absurd rfl (hnp _))
          · cases h
        · rename_i f s hfun hpath
          simp only [Bool.and_eq_true] at h
          obtain ⟨hder, h⟩ := h
          split at h
          · rename_i fs hus
            split at h
            · rename_i fd hfd
              split at h
              · rename_i q
                obtain ⟨b, hb, rfl⟩ := hy.p'
                simp [nilAhead, typeInfo, hi, hm, hpath, followBlind, hfun, hder, run_underlying hus, hfd]
              · cases h
            · cases h
          · cases h
        · cases h
    · cases h
  · cases h

theorem strBytes_sound (h : HR N w0 ρ H w) (p : ByteArray) (el : TypeId) (hge : p.size ≤ grownCap w p.size 0 el) (hcm : grownCap w p.size 0 el ≤ maxLen) (hne : exactT el = false) :
    ∃ w' ρ', (Conv.stringToBytes el p).run P w = .ok (.slice (some ⟨w.heap.size, 0, none⟩) p.size (grownCap w p.size 0 el)) w' ∧ ρ.le ρ' ∧ Rel ρ' (.sl ⟨some (H.next, 0), p.size, .op 1⟩) (.slice (some ⟨w.heap.size, 0, none⟩) p.size (grownCap w p.size 0 el)) ∧
      HR N w0 ρ' (H.new (.cells (cellsOfBytes p) el false)) w' := by
  have hrun0 : grownCap w p.size 0 el = (Question.appendCap p.size 0 el).cut (w.tape w.drawn (.appendCap p.size 0 el)) := rfl
  generalize hg : grownCap w p.size 0 el = g at hge hcm hrun0 ⊢
  let c : Array Value := (p.data.map fun b => .int .u8 b.toNat) ++ Array.replicate (g - p.size) (.int .u8 0)
  have hcs : c.size = g := by simp [c]; omega
  have hcg : ∀ (j : Nat) (v : V), (cellsOfBytes p)[j]? = some v → ∃ x, c[j]? = some x ∧ Rel ρ v x := by
    intro j v hj
    have hb := (rels_bytes (ρ := ρ) p.data.toList).get j v hj
    obtain ⟨x, hx, hr⟩ := hb
    refine ⟨x, ?_, hr⟩
    have hjl : j < p.data.toList.length := by simpa using (List.getElem?_eq_some_iff.1 hx).1
    simp only [c]
    rw [Array.getElem?_append_left (by simpa using hjl)]
    simpa using hx
  obtain ⟨ρ', h1, h2, h3⟩ := new_sound (h.drawn (w.drawn + 1)) (vs := cellsOfBytes p) (c := c) (e := el) hcg (by rw [hcs]; simp [cellsOfBytes]; exact hge) (fun q => by rw [hne] at q; cases q)
  have hblk : (w.drew.alloc (.cells c el)).heap[w.heap.size]? = some (.cells c el (0, 0)) := heap_alloc_new w.drew _
  refine ⟨(w.drew.alloc (.cells c el)).freeze ⟨w.heap.size, c.size, none⟩ 1, ρ', ?_, h1, ?_, ?_⟩
  · have hsh : (w.drew.alloc (.cells c el)).shape? w.heap.size = some (el, c.size) := by simp only [World.shape?, hblk]
    simp only [Conv.stringToBytes, Sem.run_bind, run_choose, Question.forced, Bool.false_eq_true, if_false, Result.andThen_ok, ← hrun0, newRow, run_newObj, Sem.run_pure]
    simp only [markStringish, Sem.run_bind, run_shape, Result.andThen_ok]
    have hsh' : World.shape? { heap := w.heap.push (.cells c el), tape := w.tape, drawn := w.drawn + 1, os := w.os, output := w.output } w.heap.size = some (el, c.size) := hsh
    rw [hsh']
    rfl
  · refine .so H.next 0 p.size 1 g _ _ h3 hge hcm (by simp [hcs]) (fun _ => rfl)
  · have hfz : ((w.drew.alloc (.cells c el)).freeze ⟨w.heap.size, c.size, none⟩ 1).heap = (w.drew.alloc (.cells c el)).heap.setIfInBounds w.heap.size (.cells c el (c.size, c.size + 1)) := by
      unfold World.freeze
      simp only [Nat.one_ne_zero, if_false]
      apply Array.ext'
      apply List.ext_getElem?
      intro k
      simp only [Array.getElem?_toList, Array.getElem?_modify, Array.getElem?_setIfInBounds]
      by_cases hk : w.heap.size = k
      · subst hk
        rw [if_pos rfl, if_pos rfl, hblk]
        have : w.heap.size < (w.drew.alloc (.cells c el)).heap.size := by simp
        rw [if_pos this]
        simp
      · rw [if_neg hk, if_neg hk]
    have hget : (H.new (.cells (cellsOfBytes p) el false)).get H.next = some (.cells (cellsOfBytes p) el false) := by simp
    have hw := h2.write (o' := .cells (cellsOfBytes p) el false) hget h3 rfl rfl (w' := (w.drew.alloc (.cells c el)).freeze ⟨w.heap.size, c.size, none⟩ 1) (by rw [hfz]; simp) (by simp [World.freeze]) (by simp [World.freeze]) (by simp [World.freeze])
      (fun k hk => by rw [hfz]; simp only [Array.getElem?_setIfInBounds]; rw [if_neg (fun e => hk e.symm)]; rfl)
      ⟨c, (c.size, c.size + 1), by rw [hfz]; simp, by simp [cellsOfBytes, hcs]; exact hge, fun j v hj => by
        obtain ⟨x, hx, hr⟩ := hcg j v hj
        exact ⟨x, by simpa using hx, hr.mono h1⟩, fun _ => ⟨h.nle, rfl, .inr (Nat.le_refl _), fun q => by rw [hne] at q; cases q⟩⟩
    refine hw.forget rfl fun j o hj => ?_
    rw [Heap.get_put]
    split
    · rename_i e; subst e; rw [hget] at hj; exact hj
    · exact hj

theorem mark_sound (h : HR N w0 ρ H w) {x : Sl} {cx : Value} (hr : Rel ρ (.sl x) cx) (hh : x.here H = true) : ∃ a len cap w', cx = .slice (some a) len cap ∧ (markStringish a).run P w = .ok () w' ∧ HR N w0 ρ H w' := by
  have key : ∀ (id : Nat) (b : Base) (off : Nat), ρ id = some b → (match H.get id with | some (.cells _ _ false) => true | _ => false) = true → ∃ w', (markStringish ⟨b.blk, off, none⟩).run P w = .ok () w' ∧ HR N w0 ρ H w' := by
    intro id b off hb hm
    split at hm
    · rename_i vs e hg
      obtain ⟨c, fz, h1, h2, h3, h4⟩ := h.base hg hb
      obtain ⟨hN, hsz, hfz, hex⟩ := h4 rfl
      have hsh : w.shape? b.blk = some (e, c.size) := by simp only [World.shape?, h1]
      have hlt : b.blk < w.heap.size := (Array.getElem?_eq_some_iff.1 h1).1
      have hheap : (w.freeze ⟨b.blk, c.size, none⟩ 1).heap = w.heap.setIfInBounds b.blk (.cells c e (if fz.1 == fz.2 then (c.size, c.size + 1) else (min fz.1 c.size, max fz.2 (c.size + 1)))) := by
        unfold World.freeze
        simp only [Nat.one_ne_zero, if_false]
        apply Array.ext'
        apply List.ext_getElem?
        intro k
        simp only [Array.getElem?_toList, Array.getElem?_modify, Array.getElem?_setIfInBounds]
        by_cases hk : b.blk = k
        · subst hk
          rw [if_pos rfl, if_pos rfl, h1, if_pos hlt]
          rfl
        · rw [if_neg hk, if_neg hk]
      refine ⟨w.freeze ⟨b.blk, c.size, none⟩ 1, ?_, ?_⟩
      · simp only [markStringish, Sem.run_bind, run_shape, Result.andThen_ok]
        rw [hsh]
        rfl
      · have hw := h.write (o' := .cells vs e false) hg hb rfl rfl (w' := w.freeze ⟨b.blk, c.size, none⟩ 1) (by rw [hheap]; simp) (by simp [World.freeze]) (by simp [World.freeze]) (by simp [World.freeze])
          (fun k hk => by rw [hheap]; simp only [Array.getElem?_setIfInBounds]; rw [if_neg (fun e => hk e.symm)])
          ⟨c, (if fz.1 == fz.2 then (c.size, c.size + 1) else (min fz.1 c.size, max fz.2 (c.size + 1))), by rw [hheap]; simp [hlt], h2, h3, fun _ => ⟨hN, hsz, by
            by_cases q : fz.1 = fz.2
            · simp [q]
            · have : (fz.1 == fz.2) = false := by simp [q]
              simp only [this]
              refine .inr ?_
              have : c.size ≤ fz.1 := by rcases hfz with r | r; exact absurd r q; exact r
              simp; omega, hex⟩⟩
        refine hw.forget rfl fun j o hj => ?_
        rw [Heap.get_put]
        split
        · rename_i e2; subst e2; rw [hg] at hj; exact hj
        · exact hj
    · cases hm
  unfold Sl.here at hh
  rw [Bool.and_eq_true] at hh
  obtain ⟨hc, hm⟩ := hh
  cases hr with
  | sn => simp at hm
  | sx id off len c b a hb hl ha =>
    have hc' : c ≠ 0 := by simpa using hc
    obtain rfl := ha hc'
    obtain ⟨w', r1, r2⟩ := key id b (b.off + off) hb hm
    exact ⟨_, _, _, w', rfl, r1, r2⟩
  | so id off len sz cap b a hb hl hcm hsz ha =>
    have hl' : len ≠ 0 := by simpa using hc
    obtain rfl := ha (by omega)
    obtain ⟨w', r1, r2⟩ := key id b (b.off + off) hb hm
    exact ⟨_, _, _, w', rfl, r1, r2⟩

theorem map_entries {b : Base} {es : List (V × V × Nat)} {clock : Nat} (h : ORel N ρ w b (.map es clock)) : ∃ l : List MapEntry, w.heap[b.blk]? = some (.map l.toArray clock) ∧ l.map (·.born) = es.map (·.2.2) ∧
    ∀ (j : Nat) (e : V × V × Nat), es[j]? = some e → ∃ x : MapEntry, l[j]? = some x ∧ Rel ρ e.1 x.key ∧ Rel ρ e.2.1 x.val ∧ x.born = e.2.2 := by
  obtain ⟨hN, l, h1, h2, h3⟩ := h
  refine ⟨l, h1, ?_, fun j e he => h3 j e.1 e.2.1 e.2.2 he⟩
  apply List.ext_getElem?
  intro k
  simp only [List.getElem?_map]
  by_cases hk : k < es.length
  · obtain ⟨y, hy, _, _, hyb⟩ := h3 k _ _ _ (List.getElem?_eq_getElem hk)
    rw [hy, List.getElem?_eq_getElem hk]; simp [hyb]
  · rw [List.getElem?_eq_none (by omega), List.getElem?_eq_none (by omega)]; rfl
theorem getMap_get {id : Nat} {mm : List (V × V × Nat) × Nat} (h : getMap H (some id) = some mm) : H.get id = some (.map mm.1 mm.2) := getMap_some h
theorem range_sound {R : Type} {r : R} {K : V → Heap → Option R} (h : HR N w0 ρ H w) {t kt vt : TypeId} {id : Nat} {b : Base} {mm : List (V × V × Nat) × Nat} (hb : ρ id = some b) (ht : P.underlying t = some (.map kt vt))
    (hg : getMap H (some id) = some mm) (hk : K (.p (some (H.next, 0))) (H.new (.miter (some id) mm.2 [] mm.2)) = some r) :
    (Instr.range t (.map (some b.blk))).run P w = .ok (.pointer (some ⟨w.heap.size, 0, none⟩)) (w.alloc (.mapIter (some b.blk) mm.2 #[] mm.2)) ∧ Post N w0 ρ K r (.pointer (some ⟨w.heap.size, 0, none⟩)) (w.alloc (.mapIter (some b.blk) mm.2 #[] mm.2)) := by
  obtain ⟨hN, l, h1, h2, h3⟩ := h.base (getMap_get hg) hb
  have hb' : (fun i => if i = H.next then some (⟨w.heap.size, 0, 0⟩ : Base) else ρ i) id = some b := by
    have := h.name_lt hb
    show (if id = H.next then _ else ρ id) = some b
    rw [if_neg (by omega)]; exact hb
  obtain ⟨g1, g2⟩ := h.alloc (.mapIter (some b.blk) mm.2 #[] mm.2) (.miter (some id) mm.2 [] mm.2) ⟨w.heap.size, 0, 0⟩ rfl ⟨h.nle, rfl, some b.blk, ⟨b, hb', rfl⟩, heap_alloc_new w _⟩ rfl
  refine ⟨by simp [Instr.range, run_underlying ht, run_getObj_map h1], _, _, _, g2, ?_, g1, hk⟩
  have : (fun i => if i = H.next then some (⟨w.heap.size, 0, 0⟩ : Base) else ρ i) H.next = some ⟨w.heap.size, 0, 0⟩ := by simp
  exact Rel.p (ρ := fun i => if i = H.next then some (⟨w.heap.size, 0, 0⟩ : Base) else ρ i) H.next 0 ⟨w.heap.size, 0, 0⟩ this
theorem next_sound {R : Type} {r : R} {K : V → Heap → Option R} (h : HR N w0 ρ H w) {i : Nat} {bi : Base} (hbi : ρ i = some bi) (ty : TypeId) (hk : nextV H i K = some r) :
    ∃ c w', (Instr.next (.pointer (some ⟨bi.blk, bi.off, none⟩)) false ty).run P w = .ok c w' ∧ Post N w0 ρ K r c w' := by
  unfold nextV at hk
  split at hk
  · rename_i id since seen stepped hi
    obtain ⟨mm, hg, hk⟩ := Option.bind_eq_some_iff.1 hk
    split at hk
    · rename_i hc
      obtain ⟨hold, hsc⟩ := hc
      obtain ⟨hNi, hoff, mb, ⟨bm, hbm, rfl⟩, hheap⟩ := h.base hi hbi
      obtain ⟨l, h1, hborn, hent⟩ := map_entries (h.base (getMap_get hg) hbm)
      have hlen : l.length = mm.1.length := by have := congrArg List.length hborn; simpa using this
      have hold' : ∀ x ∈ l.toArray.toList, x.born < since := fun x hx => by
        obtain ⟨j, hj⟩ := List.mem_iff_getElem?.1 (show x ∈ l by simpa using hx)
        have hjl : j < mm.1.length := by have := (List.getElem?_eq_some_iff.1 hj).1; omega
        obtain ⟨y, hy, _, _, hb⟩ := hent j _ (List.getElem?_eq_getElem hjl)
        rw [hj] at hy; cases hy
        rw [hb]
        have := List.all_eq_true.1 hold mm.1[j] (List.getElem_mem hjl)
        simpa using this
      rw [hoff]
      rcases run_next_at (P := P) w ty bi.blk bm.blk since stepped seen.toArray l.toArray mm.2 hheap h1 hold' hsc with ⟨hz, hrun⟩ | ⟨x, hx, w1, hw1, hrun⟩
      · -- nothing is left
        have hnil : mm.1.filter (fun e => !seen.contains e.2.2) = [] := by
          rw [List.filter_eq_nil_iff]
          intro e he
          obtain ⟨j, hj⟩ := List.mem_iff_getElem?.1 he
          obtain ⟨y, hy, _, _, hb⟩ := hent j e hj
          intro hne
          have hmem : y ∈ leftOf l.toArray seen.toArray := by
            unfold leftOf
            rw [Array.mem_filter]
            refine ⟨by simpa using List.mem_of_getElem? hy, ?_⟩
            rw [hb]; simpa using hne
          rw [Array.eq_empty_of_size_eq_zero hz] at hmem
          simp at hmem
        rw [hnil] at hk
        exact ⟨_, w, hrun, Post.same h (.tup [.b false] [.bool false] (.cons _ _ _ _ (.b false) .nil)) hk⟩
      · have hx' : x ∈ leftOf l.toArray seen.toArray := by simpa using hx
        unfold leftOf at hx'
        rw [Array.mem_filter] at hx'
        obtain ⟨hxl, hxs⟩ := hx'
        obtain ⟨j, hj⟩ := List.mem_iff_getElem?.1 (show x ∈ l by simpa using hxl)
        have hjl : j < mm.1.length := by have := (List.getElem?_eq_some_iff.1 hj).1; omega
        obtain ⟨y, hy, r1, r2, hb⟩ := hent j _ (List.getElem?_eq_getElem hjl)
        rw [hj] at hy; cases hy
        have hmem : mm.1[j] ∈ mm.1.filter (fun e => !seen.contains e.2.2) := by
          rw [List.mem_filter]
          refine ⟨List.getElem_mem hjl, ?_⟩
          rw [← hb]; simpa using hxs
        split at hk
        · rename_i hf; rw [hf] at hmem; cases hmem
        · rename_i e hf
          rw [hf] at hmem
          obtain rfl : mm.1[j] = e := by simpa using hmem
          have hh1 : HR N w0 ρ H w1 := by rcases hw1 with rfl | rfl; exact h; exact h.drawn _
          have hheap1 : w1.heap[bi.blk]? = w.heap[bi.blk]? := by rcases hw1 with rfl | rfl <;> rfl
          have hlt : bi.blk < w1.heap.size := by rw [hheap] at hheap1; exact (Array.getElem?_eq_some_iff.1 hheap1).1
          refine ⟨_, _, hrun, _, _, ρ, ρ.le_refl, .tup [.b true, mm.1[j].1, mm.1[j].2.1] [.bool true, x.key, x.val] (.cons _ _ _ _ (.b true) (.cons _ _ _ _ r1 (.cons _ _ _ _ r2 .nil))), ?_, hk⟩
          refine hh1.write hi hbi rfl rfl (by simp [ChangeMaps.setBlock]) rfl rfl rfl (fun k hk => ?_) ⟨hNi, hoff, some bm.blk, ⟨bm, hbm, rfl⟩, ?_⟩
          · simp only [ChangeMaps.setBlock, Array.getElem?_setIfInBounds]
            rw [if_neg (fun e => hk e.symm)]
          · simp only [ChangeMaps.setBlock, Array.getElem?_setIfInBounds, if_true]
            rw [if_pos hlt, hb]
            simp
        · cases hk
    · cases hk
  · cases hk
theorem uniqB_nodup : ∀ (l : List Nat), uniqB l = true → l.Nodup := by
  intro l
  induction l with
  | nil => intro _; exact List.nodup_nil
  | cons x xs ih =>
    intro h
    simp only [uniqB, Bool.and_eq_true] at h
    exact List.nodup_cons.2 ⟨by simpa using h.1, ih h.2⟩
theorem entry_sound {R : Type} {r : R} {K : V → Heap → Option R} (h : HR N w0 ρ H w) {i : Nat} {bi : Base} (hbi : ρ i = some bi) (hk : entryV H i K = some r) :
    ∃ c, (Instr.entry (.pointer (some ⟨bi.blk, bi.off, none⟩))).run P w = .ok c w ∧ Post N w0 ρ K r c w := by
  unfold entryV at hk
  split at hk
  · rename_i id since seen stepped hi
    obtain ⟨mm, hg, hk⟩ := Option.bind_eq_some_iff.1 hk
    split at hk
    · rename_i hc
      obtain ⟨hclk, hun⟩ := hc
      split at hk
      · rename_i bn rest hrev
        split at hk
        · rename_i e hfind
          have he := List.mem_of_find?_eq_some hfind
          have heb : e.2.2 = bn := by have := List.find?_some hfind; simpa using this
          have hseen : seen = rest.reverse ++ [e.2.2] := by
            have := congrArg List.reverse hrev
            simpa [heb] using this
          obtain ⟨hNi, hoff, mb, ⟨bm, hbm, rfl⟩, hheap⟩ := h.base hi hbi
          obtain ⟨l, h1, hborn, hent⟩ := map_entries (h.base (getMap_get hg) hbm)
          obtain ⟨j, hj⟩ := List.mem_iff_getElem?.1 he
          obtain ⟨x, hx, r1, r2, hb⟩ := hent j e hj
          have hheap' : w.heap[bi.blk]? = some (.mapIter (some bm.blk) since (rest.reverse.toArray.push x.born) mm.2) := by rw [hheap, hseen, hb, hclk]; simp
          have hrun := run_entry_at (P := P) w bi.blk bm.blk since rest.reverse.toArray l.toArray mm.2 x hheap' h1 (by simpa using List.mem_of_getElem? hx) (by simpa [hborn] using uniqB_nodup _ hun)
          rw [hoff]
          exact ⟨_, hrun, Post.same h (.tup [e.1, e.2.1] [x.key, x.val] (.cons _ _ _ _ r1 (.cons _ _ _ _ r2 .nil))) hk⟩
        · cases hk
      · cases hk
    · cases hk
  · cases hk
theorem evOp_sound {R : Type} {r : R} {E : FEnv} (hE : EnvOK P E) (h : HR N w0 ρ H w) {val : Operand → Option V} {e : Operand → Value} (hv : ∀ x v, val x = some v → Rel ρ v (e x)) (o : Oper) {K : V → Heap → Option R}
    (hk : evOp P E val H o.op o.type K = some r) : Does P w (execOp e o) (Post N w0 ρ K r) := by
  obtain ⟨dst, op, ty, pos, after, guard⟩ := o
  simp only at hk
  cases op with
  | move x =>
    obtain ⟨v, h1, h2⟩ := Option.bind_eq_some_iff.1 hk
    exact .inl ⟨_, w, rfl, Post.same h (hv _ _ h1) h2⟩
  | assign x =>
    obtain ⟨v, h1, h2⟩ := Option.bind_eq_some_iff.1 hk
    exact .inl ⟨_, w, rfl, Post.same h (hv _ _ h1) h2⟩
  | pick c a b =>
    obtain ⟨vc, c1, h4⟩ := Option.bind_eq_some_iff.1 hk
    have hc := hv _ _ c1
    cases vc with
    | b x =>
      generalize hcx : e c = cx at hc
      cases hc
      have run : (execOp e ⟨dst, .pick c a b, ty, pos, after, guard⟩).run P w = .ok (.value (if x then e a else e b)) w := by
        simp [execOp, hcx, asBool]
      simp only at h4
      split at h4
      · rename_i p q hpa hqb
        refine .inl ⟨_, w, run, Post.same h ?_ h4⟩
        cases x
        · simpa [selB] using hv _ _ hqb
        · simpa [selB] using hv _ _ hpa
      · rcases sel_some h4 with ⟨rfl, h5⟩ | ⟨rfl, h5⟩
        · obtain ⟨va, a1, h6⟩ := Option.bind_eq_some_iff.1 h5
          exact .inl ⟨_, w, run, Post.same h (hv _ _ a1) h6⟩
        · obtain ⟨vb, b1, h6⟩ := Option.bind_eq_some_iff.1 h5
          exact .inl ⟨_, w, run, Post.same h (hv _ _ b1) h6⟩
    | _ => cases h4
  | alloc el =>
    obtain ⟨z, h1, h2⟩ := Option.bind_eq_some_iff.1 hk
    obtain ⟨x, hx, hr, _⟩ := zeroV_sound (ρ := ρ) h1
    have hc := hr.cells
    refine does_val (c := .pointer (some ⟨w.heap.size, 0, none⟩)) (w' := w.alloc (.cells x.cells el)) (by simp [Instr.alloc, hx w, newVar, newRow]) ?_
    have := new_post (K := K) (e := el) h hc h2 (c := .pointer (some ⟨w.heap.size, 0, none⟩)) fun ρ' hρ => .p _ _ _ hρ
    simpa using this
  | box el x =>
    obtain ⟨v, h1, h2⟩ := Option.bind_eq_some_iff.1 hk
    have hr := hv _ _ h1
    refine does_val (c := .pointer (some ⟨w.heap.size, 0, none⟩)) (w' := w.alloc (.cells (e x).cells el)) (by simp [Instr.box, newVar, newRow]) ?_
    have := new_post (K := K) (e := el) h hr.cells h2 (c := .pointer (some ⟨w.heap.size, 0, none⟩)) fun ρ' hρ => .p _ _ _ hρ
    simpa using this
  | build t parts =>
    obtain ⟨c, h1, h2⟩ := ev_build h hv hk
    exact does_val h1 h2
  | buildSlice t len parts =>
    obtain ⟨c, w', h1, h2⟩ := ev_buildSlice h hv hk
    exact does_val h1 h2
  | insert t m k x =>
    obtain ⟨vm, m1, h2⟩ := Option.bind_eq_some_iff.1 hk
    obtain ⟨vk, k1, h3⟩ := Option.bind_eq_some_iff.1 h2
    obtain ⟨vx, x1, h4⟩ := Option.bind_eq_some_iff.1 h3
    obtain ⟨w', e1, e2⟩ := mapSet_sound h (hv _ _ m1) (hv _ _ k1) (hv _ _ x1) h4
    exact does_unit e1 e2
  | mapUpdate t m k x =>
    obtain ⟨vm, m1, h2⟩ := Option.bind_eq_some_iff.1 hk
    obtain ⟨vk, k1, h3⟩ := Option.bind_eq_some_iff.1 h2
    obtain ⟨vx, x1, h4⟩ := Option.bind_eq_some_iff.1 h3
    obtain ⟨w', e1, e2⟩ := mapSet_sound h (hv _ _ m1) (hv _ _ k1) (hv _ _ x1) h4
    exact does_unit e1 e2
  | load t a =>
    obtain ⟨v, h1, h2⟩ := Option.bind_eq_some_iff.1 hk
    obtain ⟨c, e1, e2⟩ := ev_load h (hv _ _ h1) h2
    exact does_val e1 e2
  | store t a x =>
    obtain ⟨v, h1, h2⟩ := Option.bind_eq_some_iff.1 hk
    obtain ⟨u, h3, h4⟩ := Option.bind_eq_some_iff.1 h2
    obtain ⟨w', e1, e2⟩ := ev_store h (hv _ _ h1) (hv _ _ h3) h4
    exact does_unit e1 e2
  | nilCheck x =>
    obtain ⟨v, h1, h2⟩ := Option.bind_eq_some_iff.1 hk
    have hr := hv _ _ h1
    unfold nilCk at h2
    split at h2
    · obtain ⟨q, h5, h6⟩ := Option.bind_eq_some_iff.1 h2
      subst h5
      exact .inl ⟨e x, w, nilCheck_ok hr rfl rfl (.inl ⟨_, rfl⟩), Post.same h hr h6⟩
    · rename_i name rcv c
      split at h2
      · rename_i hn
        refine .inl ⟨e x, w, ?_, Post.same h hr h2⟩
        generalize hx : e x = cx at hr
        cases hr with
        | fn _ _ _ xs ys r1 r2 =>
        obtain ⟨rx, rfl, hrx⟩ := rels_one r1
        obtain ⟨t, y, rfl, hna⟩ := methNotNil_sound (P := P) (w := w) hn hrx (P.types.size + Made.depth - 1)
        have hd : P.types.size + Made.depth - 1 + 1 = P.types.size + Made.depth := by simp [Made.depth]
        rw [hd] at hna
        simp only [execOp, hx]
        simp only [show ([Value.iface t y].toArray[0]? : Option Value) = some (.iface t y) from rfl, Sem.run_bind, run_program, Result.andThen_ok, hna]
        simp
      · cases h2
    · split at h2
      · rename_i hn
        refine .inl ⟨e x, w, nilCheck_ok hr rfl rfl ?_, Post.same h hr h2⟩
        unfold notNil at hn
        split at hn
        · exact .inr (.inl ⟨_, _, rfl⟩)
        · exact .inr (.inr ⟨_, _, _, rfl⟩)
        · cases hn
      · cases h2
  | binOp op t x y yt =>
    obtain ⟨a, h1, h2⟩ := Option.bind_eq_some_iff.1 hk
    obtain ⟨b, h3, h4⟩ := Option.bind_eq_some_iff.1 h2
    obtain ⟨v, c, e1, e2, e3⟩ := evBin_sound (P := P) h4 (hv _ _ h1) (hv _ _ h3) x y (fun hc => hc) w
    exact does_val e1 (Post.same h e2 e3)
  | unOp op t x =>
    obtain ⟨v, h1, h2⟩ := Option.bind_eq_some_iff.1 hk
    have hr := hv _ _ h1
    split at h2
    · obtain ⟨p, h3, h4⟩ := Option.bind_eq_some_iff.1 h2
      obtain rfl := V.asB_eq h3
      generalize hx : e x = cx at hr
      cases hr
      exact does_val (c := .bool (!p)) (by rw [hx]; rfl) (Post.same h (.b _) h4)
    · split at h2
      · obtain ⟨p, h3, h4⟩ := Option.bind_eq_some_iff.1 h2
        obtain rfl := V.asI_eq h3
        generalize hx : e x = cx at hr
        cases hr
        exact does_val (c := .int _ _) (by rw [hx]; rfl) (Post.same h (.i _ _) h4)
      · cases h2
    · split at h2
      · obtain ⟨p, h3, h4⟩ := Option.bind_eq_some_iff.1 h2
        obtain rfl := V.asI_eq h3
        generalize hx : e x = cx at hr
        cases hr
        exact does_val (c := .int _ _) (by rw [hx]; rfl) (Post.same h (.i _ _) h4)
      · cases h2
    · cases h2
  | convert src dst x =>
    obtain ⟨v, h1, h2⟩ := Option.bind_eq_some_iff.1 hk
    have hr := hv _ _ h1
    split at h2
    · rename_i k0 k hs hd
      obtain ⟨p, h3, h4⟩ := Option.bind_eq_some_iff.1 h2
      obtain rfl := V.asI_eq h3
      generalize hx : e x = cx at hr
      cases hr
      exact does_val (c := .int k (k.wrap p)) (w' := w) (by rw [hx]; simp [convert, run_underlying hs, run_underlying hd, Conv.intToInt]) (Post.same h (.i _ _) h4)
    · rename_i hs hd
      obtain ⟨p, h3, h4⟩ := Option.bind_eq_some_iff.1 h2
      obtain rfl := V.asS_eq h3
      generalize hx : e x = cx at hr
      cases hr
      exact does_val (c := .string p) (w' := w) (by rw [hx]; simp [convert, run_underlying hs, run_underlying hd]) (Post.same h (.s _) h4)
    · rename_i el hs hd
      split at h2
      · rename_i hel hxe
        obtain ⟨p, h3, h4⟩ := Option.bind_eq_some_iff.1 h2
        obtain rfl := V.asS_eq h3
        split at h4
        · rename_i hsz
          generalize hx : e x = cx at hr
          cases hr
          have hge := grownCap_ge w p.size 0 el
          have hcm := grownCap_le_maxLen w p.size 0 el (by unfold maxLen; omega)
          have hconv : (convert src dst (.string p)).run P w = (Conv.stringToBytes el p).run P w := by simp [convert, run_underlying hs, run_underlying hd, run_underlying hel]
          obtain ⟨w', ρ', g1, g2, g3, g4⟩ := strBytes_sound (P := P) h p el hge hcm hxe
          exact does_val (by rw [hx]; exact hconv.trans g1) ⟨_, _, ρ', g2, g3, g4, h4⟩
        · cases h4
      · cases h2
    · rename_i el hs hd
      split at h2
      · rename_i hel
        obtain ⟨p, h3, h4⟩ := Option.bind_eq_some_iff.1 h2
        obtain rfl := V.asSl_eq h3
        obtain ⟨s, h5, h6⟩ := Option.bind_eq_some_iff.1 h4
        unfold slBytes at h5
        obtain ⟨vs, h7, h8⟩ := Option.bind_eq_some_iff.1 h5
        obtain ⟨l, h9, h10⟩ := Option.bind_eq_some_iff.1 h8
        simp at h10; subst h10
        obtain ⟨a, cap, xs, hxe, x1, x2, x3⟩ := slCells_sound h h7 hr
        obtain ⟨ns, rfl, rfl⟩ := bytesOfCells_sound _ _ _ x1 h9
        refine does_val (c := .string ⟨(ns.map fun n => UInt8.ofNat n.toNat).toArray⟩) (w' := w) ?_ (Post.same h (.s _) h6)
        rw [hxe] at x3 ⊢
        rw [run_convert_bytes_string w src dst el a _ _ hs hel hd]
        have x4 := x3 w rfl
        cases a with
        | none =>
          simp [Builtin.firstCells] at x4
          subst x4
          simp [Conv.bytesToString]
          rfl
        | some a =>
          simp only [Builtin.firstCells, Nat.mul_one] at x4
          rw [run_bytesToString w a _ _ ns x4, foldl_push]
          rfl
      · cases h2
    · rename_i el0 el hs hd
      split at h2
      · rename_i hel
        obtain ⟨p, h3, h4⟩ := Option.bind_eq_some_iff.1 h2
        obtain rfl := V.asSl_eq h3
        split at h4
        · rename_i hc
          obtain ⟨rfl, hh⟩ := hc
          obtain ⟨a, len, cap, w', e1, e2, e3⟩ := mark_sound (P := P) h hr hh
          refine does_val (c := e x) (w' := w') ?_ ⟨_, _, ρ, ρ.le_refl, hr, e3, h4⟩
          obtain rfl : el0 = el := by rw [hs] at hd; simpa using hd
          rw [e1]
          simp [convert, run_underlying hs, run_underlying hel, e2]
        · cases h4
      · cases h2
    · cases h2
  | makeInterface t x =>
    obtain ⟨v, h1, h2⟩ := Option.bind_eq_some_iff.1 hk
    split at h2
    · cases h2
    · rename_i d hni hu
      refine does_val (c := .iface t (e x)) (w' := w) ?_ (Post.same h (.ifc _ _ _ (hv _ _ h1)) h2)
      unfold Instr.makeInterface
      simp only [Sem.run_bind, run_underlying hu, Result.andThen_ok]
      cases d <;> first | rfl | (exact absurd rfl (hni _))
    · cases h2
  | makeFunc fn first captured =>
    obtain ⟨a, h1, h2⟩ := Option.bind_eq_some_iff.1 hk
    obtain ⟨c, h3, h4⟩ := Option.bind_eq_some_iff.1 h2
    have r1 := evalL_sound hv _ _ h1
    have r2 := evalL_sound hv _ _ h3
    refine does_val (c := .func fn (first.map e) (captured.map e)) (w' := w) rfl (Post.same h ?_ h4)
    have := Rel.fn (ρ := ρ) fn a c _ _ r1 r2
    have e1 : (first.toList.map e).toArray = first.map e := by apply Array.ext'; simp
    have e2 : (captured.toList.map e).toArray = captured.map e := by apply Array.ext'; simp
    rw [e1, e2] at this
    exact this
  | makeMap t rsv =>
    have fin : ∀ {s : Sem Value}, s.run P w = .ok (.map (some w.heap.size)) (w.alloc (.map #[] 0)) → K (.m (some H.next)) (H.new (.map [] 0)) = some r → Does P w (do pure (.value (← s))) (Post N w0 ρ K r) := by
      intro s hs hkk
      refine does_val hs ?_
      have hal := h.alloc (.map #[] 0) (.map [] 0) ⟨w.heap.size, 0, 0⟩ rfl ⟨h.nle, [], heap_alloc_new w _, rfl, fun j k v born hj => by simp at hj⟩ rfl
      exact ⟨_, _, _, hal.2, .m _ ⟨w.heap.size, 0, 0⟩ (by simp), hal.1, hkk⟩
    cases rsv with
    | none => exact fin (s := Instr.makeMap t none) (by simp [Instr.makeMap]) hk
    | some x =>
      obtain ⟨v, h1, h2⟩ := Option.bind_eq_some_iff.1 hk
      have hr := hv _ _ h1
      split at h2
      · rename_i kk n kt et hu
        generalize hx : e x = cx at hr
        cases hr
        refine fin (s := Instr.makeMap t (some (e x))) ?_ h2
        rw [hx]
        simp [Instr.makeMap, run_underlying hu, asInt, asIntOf]
      · cases h2
  | makeSlice t l c =>
    obtain ⟨vl, h1, h2⟩ := Option.bind_eq_some_iff.1 hk
    obtain ⟨vc, h3, h4⟩ := Option.bind_eq_some_iff.1 h2
    have r1 := hv _ _ h1
    have r2 := hv _ _ h3
    split at h4
    · rename_i kl l' kc c' el hu
      split at h4
      · cases h4
      rename_i hd0
      obtain ⟨d, hd⟩ := under_of hd0
      split at h4
      · rename_i hb
        obtain ⟨b0, b1, b2, b3⟩ := hb
        generalize hx : e l = cl at r1
        generalize hy : e c = cc at r2
        cases r1; cases r2
        obtain ⟨x, w', e1, e2⟩ := ev_makeSlice h hu hd b0 b1 b2 b3 h4 (kl := kl) (kc := kc)
        exact does_val (s := Instr.makeSlice t (e l) (e c)) (by rw [hx, hy]; exact e1) e2
      · cases h4
    · cases h4
  | slice t x lo hi mx =>
    obtain ⟨v, h1, h2⟩ := Option.bind_eq_some_iff.1 hk
    obtain ⟨l, h3, h4⟩ := Option.bind_eq_some_iff.1 h2
    obtain ⟨hh, h5, h6⟩ := Option.bind_eq_some_iff.1 h4
    obtain ⟨m, h7, h8⟩ := Option.bind_eq_some_iff.1 h6
    obtain ⟨c, e1, e2⟩ := ev_slice h (hv _ _ h1) (intOpt_sound hv h3) (intOpt_sound hv h5) (intOpt_sound hv h7) h8
    exact does_val e1 e2
  | fieldAddr s x f =>
    obtain ⟨v, h1, h2⟩ := Option.bind_eq_some_iff.1 hk
    have hr := hv _ _ h1
    split at h2
    · rename_i fs hu
      split at h2
      · rename_i fd hfd
        split at h2
        · cases h2
        rename_i hsz
        cases v with
        | p q =>
          obtain ⟨q, h3, h4⟩ := Option.bind_eq_some_iff.1 h2
          subst h3
          obtain ⟨b, hb, hx⟩ := hr.p'
          refine does_val (c := .pointer (some ⟨b.blk, b.off + (q.2 + fd.offset), none⟩)) (w' := w) ?_ (Post.same h (.p _ _ b hb) h4)
          have hsz' : (sizeOf fd.type).run P w = .ok (P.cellsOf fd.type) w := by
            cases hi : P.info? fd.type with
            | none => simp [Program.cellsOf, hi] at hsz
            | some i => simp [sizeOf, typeInfo, hi, Program.cellsOf]
          have hfd' : fs[f]? = some fd := by simpa using hfd
          rw [hx]
          simp [Instr.fieldAt, run_underlying hu, hfd', Instr.sureAddr, fieldPlace, hsz', hsz, Addr.add_lit, Nat.add_assoc]
        | _ => cases h2
      · cases h2
    · cases h2
  | field t x f =>
    obtain ⟨v, h1, h2⟩ := Option.bind_eq_some_iff.1 hk
    have hr := hv _ _ h1
    split at h2
    · rename_i fs hu
      split at h2
      · rename_i fd hfd
        obtain ⟨cs, h3, h4⟩ := Option.bind_eq_some_iff.1 h2
        obtain rfl := V.asAgg_eq h3
        generalize hx : e x = cx at hr
        cases hr with
        | agg _ xs hrs =>
        obtain ⟨u, y, e1, e2, e3⟩ := partV_sound hrs h4
        have hfd' : fs[f]? = some fd := by simpa using hfd
        refine does_val (c := y) (w' := w) ?_ (Post.same h e2 e3)
        rw [hx]
        simp [Instr.field, run_underlying hu, hfd', asAgg, e1]
      · cases h2
    · cases h2
  | indexAddr t x ix =>
    obtain ⟨v, h1, h2⟩ := Option.bind_eq_some_iff.1 hk
    obtain ⟨i, h3, h4⟩ := Option.bind_eq_some_iff.1 h2
    obtain ⟨c, e1, e2⟩ := ev_indexAddr h (hv _ _ h1) (hv _ _ h3) h4
    exact does_val e1 e2
  | index t x ix =>
    obtain ⟨v, h1, h2⟩ := Option.bind_eq_some_iff.1 hk
    obtain ⟨i, h3, h4⟩ := Option.bind_eq_some_iff.1 h2
    obtain ⟨c, e1, e2⟩ := ev_index h (hv _ _ h1) (hv _ _ h3) h4
    exact does_val e1 e2
  | lookup t m k ok =>
    obtain ⟨v, h1, h2⟩ := Option.bind_eq_some_iff.1 hk
    obtain ⟨i, h3, h4⟩ := Option.bind_eq_some_iff.1 h2
    obtain ⟨c, e1, e2⟩ := ev_lookup h (hv _ _ h1) (hv _ _ h3) h4
    exact does_val e1 e2
  | mapEntry t m k =>
    obtain ⟨v, h1, h2⟩ := Option.bind_eq_some_iff.1 hk
    obtain ⟨i, h3, h4⟩ := Option.bind_eq_some_iff.1 h2
    obtain ⟨c, w', e1, e2⟩ := ev_mapEntry h (hv _ _ h1) (hv _ _ h3) h4
    exact does_val e1 e2
  | entryStore t m s x =>
    obtain ⟨vm, m1, h2⟩ := Option.bind_eq_some_iff.1 hk
    obtain ⟨vs, s1, h3⟩ := Option.bind_eq_some_iff.1 h2
    obtain ⟨vx, x1, h4⟩ := Option.bind_eq_some_iff.1 h3
    obtain ⟨w', e1, e2⟩ := ev_entryStore (t := t) h (hv _ _ m1) (hv _ _ s1) (hv _ _ x1) h4
    exact does_unit e1 e2
  | extract t i =>
    obtain ⟨v, h1, h2⟩ := Option.bind_eq_some_iff.1 hk
    have hr := hv _ _ h1
    split at h2
    · rename_i vs
      split at h2
      · rename_i u hu
        generalize hx : e t = cx at hr
        cases hr with
        | tup _ xs hrs =>
        obtain ⟨y, hy, hyr⟩ := hrs.get _ _ hu
        refine does_val (c := y) (w' := w) ?_ (Post.same h hyr h2)
        rw [hx]
        simp [Instr.extract, hy]
      · cases h2
    · cases h2
  | call c =>
    obtain ⟨callee, cargs, cts⟩ := c
    obtain ⟨args, h1, h2⟩ := Option.bind_eq_some_iff.1 hk
    have hargs := evalL_sound hv _ _ h1
    simp only at h2 hargs
    cases callee with
    | builtin b =>
      obtain ⟨x, w', e1, e2⟩ := evBuiltin_sound h hargs h2 ty (cargs.map fun | .const _ => true | _ => false)
      refine .inl ⟨x, w', ?_, e2⟩
      rw [arr_map] at e1
      simp only [execOp, resolve, Sem.run_bind, Sem.run_pure, Result.andThen_ok, invoke]
      exact e1
    | invoke rcv name =>
      obtain ⟨v, h3, h4⟩ := Option.bind_eq_some_iff.1 h2
      have hr := hv _ _ h3
      unfold invk at h4
      split at h4
      · rename_i t x
        split at h4
        · rename_i f rv hm
          generalize hx : e rcv = cx at hr
          cases hr with
          | ifc _ _ y hy =>
          obtain ⟨rx, r1, r2⟩ := methodV_sound (P := P) (w := w) hm hy (P.types.size + Made.depth - 1)
          have hd : P.types.size + Made.depth - 1 + 1 = P.types.size + Made.depth := by simp [Made.depth]
          rw [hd] at r2
          have := (call_sound h hE h4 (.cons _ _ _ _ r1 hargs)).post fun c w' ⟨v, H', ρ', q1, q2, q3, q4⟩ => (⟨v, H', ρ', q1, q2, q3, exR_sound q4⟩ : Post N w0 ρ K r c w')
          have hrun : (execOp e ⟨dst, .call ⟨.invoke rcv name, cargs, cts⟩, ty, pos, after, guard⟩).run P w = (callFunc f (#[rx] ++ cargs.map e)).run P w := by
            simp only [execOp, resolve, Sem.run_bind, Sem.run_pure, Result.andThen_ok, invoke, hx, cons_get, cons_extract]
            simp only [callMethod, Sem.run_bind, run_program, Result.andThen_ok, r2]
          have harr : (rx :: cargs.toList.map e).toArray = #[rx] ++ cargs.map e := by
            apply Array.ext'; simp
          rw [harr] at this
          unfold Does at this ⊢
          rw [hrun]
          exact this
        · cases h4
      · cases h4
    | value f =>
      obtain ⟨v, h3, h4⟩ := Option.bind_eq_some_iff.1 h2
      have hr := hv _ _ h3
      unfold callV at h4
      split at h4
      · rename_i g first captured
        generalize hx : e f = cx at hr
        cases hr with
        | fn _ _ _ xs ys r1 r2 =>
        have := (call_sound h hE h4 ((r1.append hargs).append r2)).post fun c w' ⟨v, H', ρ', q1, q2, q3, q4⟩ => (⟨v, H', ρ', q1, q2, q3, exR_sound q4⟩ : Post N w0 ρ K r c w')
        have hrun : (execOp e ⟨dst, .call ⟨.value f, cargs, cts⟩, ty, pos, after, guard⟩).run P w = (callFunc g (xs.toArray ++ cargs.map e ++ ys.toArray)).run P w := by
          simp only [execOp, resolve, Sem.run_bind, hx, Deferred.ofValue, Sem.run_pure, Result.andThen_ok, invoke]
        have harr : (xs ++ cargs.toList.map e ++ ys).toArray = xs.toArray ++ cargs.map e ++ ys.toArray := by
          apply Array.ext'; simp
        rw [harr] at this
        unfold Does at this ⊢
        rw [hrun]
        exact this
      · cases h4
  | range t x =>
    obtain ⟨v, h1, h2⟩ := Option.bind_eq_some_iff.1 hk
    split at h2
    · rename_i kt vt hu
      obtain ⟨r0, h3, h4⟩ := Option.bind_eq_some_iff.1 h2
      obtain rfl := V.asM_eq h3
      obtain ⟨id, h5, h6⟩ := Option.bind_eq_some_iff.1 h4
      cases h5
      obtain ⟨mm, h7, h8⟩ := Option.bind_eq_some_iff.1 h6
      obtain ⟨b, hb, hx⟩ := (hv _ _ h1).m'
      obtain ⟨e1, e2⟩ := range_sound h hb hu h7 h8
      exact does_val (by rw [hx]; exact e1) e2
    · cases h2
  | next it s =>
    cases s with
    | true => cases hk
    | false =>
      obtain ⟨v, h1, h2⟩ := Option.bind_eq_some_iff.1 hk
      obtain ⟨p, h3, h4⟩ := Option.bind_eq_some_iff.1 h2
      obtain rfl := V.asP_eq h3
      obtain ⟨q, h5, h6⟩ := Option.bind_eq_some_iff.1 h4
      cases h5
      split at h6
      · rename_i hq
        obtain ⟨i, o⟩ := q
        simp only at hq; subst hq
        obtain ⟨b, hb, hx⟩ := (hv _ _ h1).p'
        rw [Nat.add_zero] at hx
        obtain ⟨c, w', e1, e2⟩ := next_sound (P := P) h hb ty h6
        exact does_val (by rw [hx]; exact e1) e2
      · cases h6
  | entry it =>
    obtain ⟨v, h1, h2⟩ := Option.bind_eq_some_iff.1 hk
    obtain ⟨p, h3, h4⟩ := Option.bind_eq_some_iff.1 h2
    obtain rfl := V.asP_eq h3
    obtain ⟨q, h5, h6⟩ := Option.bind_eq_some_iff.1 h4
    cases h5
    split at h6
    · rename_i hq
      obtain ⟨i, o⟩ := q
      simp only at hq; subst hq
      obtain ⟨b, hb, hx⟩ := (hv _ _ h1).p'
      rw [Nat.add_zero] at hx
      obtain ⟨c, e1, e2⟩ := entry_sound (P := P) h hb h6
      exact does_val (by rw [hx]; exact e1) e2
    · cases h6
  | _ => cases hk

end
end Go.Proofs.Ytnlfkllnmobppaa.AM

/- Regions in the order of the text, code, functions. -/
namespace Go.Proofs.Ytnlfkllnmobppaa.AM
open Go Go.RowKit

def FR (ρ : Env) (fr : Fr) (tmps : Array Value) : Prop := ∀ t v, fget fr t = some v → ∃ c, tmps[t]? = some c ∧ Rel ρ v c
structure SR (N : Nat) (w0 : Ref) (n : Nat) (ρ : Env) (fr : Fr) (H : Heap) (a : Act) (w : World) : Prop where
  fr : FR ρ fr a.tmps
  size : a.tmps.size = n
  defers : a.defers = []
  hr : HR N w0 ρ H w

theorem fget_fset (fr : Fr) (t : Nat) (v : V) (u : Nat) : fget (fset fr t v) u = if u = t then some v else fget fr u := by
  induction fr with
  | nil => simp [fset, fget]
  | cons p fr ih =>
    obtain ⟨k, x⟩ := p
    simp only [fset]
    split
    · rename_i h; subst h
      simp only [fget]
      split <;> rfl
    · rename_i h
      simp only [fget]
      split
      · rename_i hu; subst hu; rw [if_neg (fun e => h e.symm)]
      · exact ih
theorem fget_fdel (fr : Fr) (t : Nat) (u : Nat) : fget (fdel fr t) u = if u = t then none else fget fr u := by
  induction fr with
  | nil => simp [fdel, fget]
  | cons p fr ih =>
    obtain ⟨k, x⟩ := p
    simp only [fdel]
    split
    · rename_i h; subst h
      rw [ih]
      simp only [fget]
      split <;> rfl
    · rename_i h
      simp only [fget]
      split
      · rename_i hu; subst hu; rw [if_neg (fun e => h e.symm)]
      · exact ih
theorem fget_fkeep (fr : Fr) (l : List Nat) (u : Nat) (v : V) (h : fget (fkeep fr l) u = some v) : fget fr u = some v := by
  induction l with
  | nil => simp [fkeep, fget] at h
  | cons t l ih =>
    simp only [fkeep] at h
    split at h
    · rename_i x hx
      simp only [fget] at h
      split at h
      · rename_i hu; subst hu; rw [hx]; exact h
      · exact ih h
    · exact ih h

section
variable {P : Program} {N : Nat} {w0 : Ref} {w : World} {ρ : Env} {H : Heap} {n : Nat} {fr : Fr} {a : Act}

theorem FR.mono {ρ' : Env} (hl : ρ.le ρ') {tmps : Array Value} (h : FR ρ fr tmps) : FR ρ' fr tmps := fun t v hv => let ⟨c, hc, hr⟩ := h t v hv; ⟨c, hc, hr.mono hl⟩
theorem SR.eval (h : FR ρ fr a.tmps) (x : Operand) (v : V) (hv : evalO fr x = some v) : Rel ρ v (a.eval x) := by
  cases x with
  | tmp t =>
    obtain ⟨c, hc, hr⟩ := h t v hv
    simpa [Act.eval, Array.getD_eq_getD_getElem?, hc] using hr
  | const c => exact ofValue_sound hv
  | global g => cases hv
  | func f =>
    simp [evalO] at hv; subst hv
    exact .fn (.func f) [] [] [] [] .nil .nil

theorem SR.put (h : SR N w0 n ρ fr H a w) {ρ' : Env} {H' : Heap} {w' : World} (hl : ρ.le ρ') (hh : HR N w0 ρ' H' w') {d : Option Tmp} (hd : dstOk n d = true) {v : V} {c : Value} (hr : Rel ρ' v c) :
    SR N w0 n ρ' (fput fr d v) H' (a.put d c) w' := by
  cases d with
  | none => exact ⟨h.fr.mono hl, h.size, h.defers, hh⟩
  | some d =>
    have hdn : d < n := by simpa [dstOk] using hd
    refine ⟨fun t u hu => ?_, by simpa [Act.put] using h.size, h.defers, hh⟩
    simp only [fput, fget_fset] at hu
    simp only [Act.put, Array.getElem?_setIfInBounds]
    split at hu
    · rename_i ht; subst ht
      obtain rfl : v = u := by simpa using hu
      exact ⟨c, by rw [if_pos rfl, if_pos (by rw [h.size]; exact hdn)], hr⟩
    · rename_i ht
      rw [if_neg (fun e => ht e.symm)]
      exact h.fr.mono hl t u hu
theorem SR.skip (h : SR N w0 n ρ fr H a w) (d : Option Tmp) (hd : dstOk n d = true) : SR N w0 n ρ (fskip fr d) H (a.put d undef) w := by
  cases d with
  | none => exact h
  | some d =>
    refine ⟨fun t u hu => ?_, by simpa [Act.put] using h.size, h.defers, h.hr⟩
    have hdn : d < n := by simpa [dstOk] using hd
    simp only [fskip, fget_fset] at hu
    simp only [Act.put, Array.getElem?_setIfInBounds]
    split at hu
    · rename_i ht
      subst ht
      obtain rfl : V.tup [] = u := by simpa using hu
      exact ⟨undef, by rw [if_pos rfl, if_pos (by rw [h.size]; exact hdn)], .tup _ _ .nil⟩
    · rename_i ht
      rw [if_neg (fun e => ht e.symm)]
      exact h.fr t u hu
/-- a slot known to hold a bool: its value may be written out -/
theorem SR.lit (h : SR N w0 n ρ fr H a w) {d : Nat} {x : Bool} (hx : fget fr d = some (.b x)) : SR N w0 n ρ (fset fr d (.b x)) H a w := by
  refine ⟨fun t u hu => ?_, h.size, h.defers, h.hr⟩
  rw [fget_fset] at hu
  split at hu
  · rename_i ht; subst ht
    obtain rfl : V.b x = u := by simpa using hu
    exact h.fr _ _ hx
  · exact h.fr _ _ hu
theorem SR.keep (h : SR N w0 n ρ fr H a w) (kp : Nat → Option (List Nat)) (id : Nat) : SR N w0 n ρ (fkp kp id fr) H a w := by
  unfold fkp
  split
  · exact ⟨fun t v hv => h.fr t v (fget_fkeep _ _ _ _ hv), h.size, h.defers, h.hr⟩
  · exact h

theorem Does.wp {o : Oper} {Φ : Value → World → Prop} (h : Does P w (execOp a.eval o) Φ) {next : Act → World → Prop} {Q : Exit → Act → World → Prop} (hn : ∀ c w', Φ c w' → next (a.put o.dst c) w') : o.wp P a w next Q := by
  unfold Oper.wp
  rcases h with ⟨c, w', h1, h2⟩ | ⟨w', h1, h2⟩ | ⟨f, args, w', h1, h2⟩
  · rw [h1]; exact hn c w' h2
  · rw [h1]; exact hn _ w' h2
  · rw [h1, Oper.upon_enter]
    refine h2.mono fun e w'' ⟨c, he, hp⟩ => ?_
    subst he
    exact hn c w'' hp

theorem wanted_none {o : Oper} {y : Nat → Option Bool} (h : o.guard = none) : Region.wanted o y = true := by simp [Region.wanted, h]
theorem yielded_of {ops : Array Oper} {tmps : Array Value} {j d : Nat} {x : Bool} (hd : (ops[j]?).bind (·.dst) = some d) (hx : tmps[d]? = some (.bool x)) : yielded ops tmps j = some x := by
  simp [yielded, hd, hx]

theorem yielded_none {ops : Array Oper} {tmps : Array Value} {j d : Nat} (hd : (ops[j]?).bind (·.dst) = some d) (hx : tmps[d]? = some (.tuple #[])) : yielded ops tmps j = none := by
  simp [yielded, hd, hx]

theorem SR.guard (h : SR N w0 n ρ fr H a w) {all : List Oper} {j d : Nat} {x : Bool} (hd : (all[j]?).bind (·.dst) = some d) (hx : fget fr d = some (.b x)) : yielded all.toArray a.tmps j = some x := by
  obtain ⟨c, hc, hr⟩ := h.fr d _ hx
  cases hr
  exact yielded_of (by simpa using hd) hc

theorem SR.unyielded (h : SR N w0 n ρ fr H a w) {all : List Oper} {j d : Nat} (hd : (all[j]?).bind (·.dst) = some d) (hx : fget fr d = some (.tup [])) : yielded all.toArray a.tmps j = none := by
  obtain ⟨c, hc, hr⟩ := h.fr d _ hx
  cases hr with
  | tup _ xs hrs =>
  cases hrs
  exact yielded_none (by simpa using hd) hc

theorem evOps_sound {R : Type} {r : R} {E : FEnv} (hE : EnvOK P E) {all : List Oper} {Q : Exit → Act → World → Prop} {K : Fr → Heap → Option R} : ∀ (rest : List Oper) (fr : Fr) (H : Heap) (ρ : Env) (a : Act) (w : World), evOps P E n all rest fr H K = some r → SR N w0 n ρ fr H a w →
    (∀ ρ' fr' H' a' w', ρ.le ρ' → SR N w0 n ρ' fr' H' a' w' → K fr' H' = some r → Q .normal a' w') → wpList P all.toArray Q rest a w := by
  intro rest
  induction rest with
  | nil => intro fr H ρ a w hk h hQ; exact hQ ρ fr H a w ρ.le_refl h hk
  | cons o rest ih =>
    intro fr H ρ a w hk h hQ
    unfold evOps at hk
    by_cases hdst : dstOk n o.dst = false
    · rw [if_pos hdst] at hk; cases hk
    rw [if_neg hdst] at hk
    have hdst : dstOk n o.dst = true := by simpa using hdst
    have go : ∀ (fr : Fr), SR N w0 n ρ fr H a w → (evOp P E (evalO fr) H o.op o.type fun v H => evOps P E n all rest (fput fr o.dst v) H K) = some r → o.wp P a w (wpList P all.toArray Q rest) Q := by
      intro fr hs hk'
      refine (evOp_sound hE hs.hr (e := a.eval) (SR.eval hs.fr) o hk').wp fun c w' hp => ?_
      obtain ⟨v, H', ρ', h1, h2, h3, h4⟩ := hp
      exact ih _ _ ρ' _ _ h4 (hs.put h1 h3 hdst h2) fun ρ'' fr'' H'' a'' w'' hl => hQ ρ'' fr'' H'' a'' w'' (h1.trans hl)
    have skip : ∀ (fr : Fr), SR N w0 n ρ fr H a w → evOps P E n all rest (fskip fr o.dst) H K = some r → wpList P all.toArray Q rest (a.put o.dst undef) w :=
      fun fr hs hk' => ih _ _ ρ _ _ hk' (hs.skip _ hdst) hQ
    unfold wpList
    split at hk
    · rename_i hg
      rw [if_pos (wanted_none hg)]
      exact .inl (go fr h hk)
    · rename_i j want hg
      split at hk
      · rename_i d hd
        split at hk
        · rename_i x hx
          have hy := h.guard hd hx
          have hs := h.lit hx
          have hw : Region.wanted o (yielded all.toArray a.tmps) = (x == want) := by simp [Region.wanted, hg, hy]
          rcases sel_some hk with ⟨rfl, hk'⟩ | ⟨rfl, hk'⟩
          · split at hk'
            · rename_i hwant
              rw [if_pos (by rw [hw]; simp [hwant])]
              exact .inl (go _ hs hk')
            · rename_i hwant
              rw [if_neg (by rw [hw]; simp [hwant])]
              exact skip _ hs hk'
          · split at hk'
            · rename_i hwant
              rw [if_neg (by rw [hw]; simp [hwant])]
              exact skip _ hs hk'
            · rename_i hwant
              rw [if_pos (by rw [hw]; simp at hwant; simp [hwant])]
              exact .inl (go _ hs hk')
        · rename_i hx
          have hy := h.unyielded hd hx
          rw [if_neg (by simp [Region.wanted, hg, hy])]
          exact skip _ h hk
        · cases hk
      · cases hk

/-- the end of a machine's run, as the model has it -/
def exOf : Ex → Exit
  | .normal => .normal
  | .exit i => .exit i
  | .ret => .ret

theorem loop_wp {c : Code} {Q : Exit → Act → World → Prop} {a : Act} {w : World}
    (h : ∀ (b : Frame) (k : List Item) (cs : List Frame), ∃ e a' w', Q e a' w' ∧ Arrives P (lone (b.at a (.code c :: .inLoop c :: k)) cs w) b k cs e a' w') : (Code.loop c).wp P Q a w :=
  fun b k cs => let ⟨e, a', w', q, arr⟩ := h b k cs; ⟨e, a', w', q, .of_steps (.one step_loop) arr⟩

end
end Go.Proofs.Ytnlfkllnmobppaa.AM

/- An operation's answer is handed on once: 'evOp .. K' is K of what the operation gives. -/
namespace Go.Proofs.Ytnlfkllnmobppaa.AM
open Go Go.RowKit

section
variable {R S : Type} {P : Program} {H : Heap}

theorem bl {α : Type} {x : Option α} {f : α → Option R} {g : α → Option S} {k : S → Option R} (h : ∀ a, f a = (g a).bind k) : x.bind f = (x.bind g).bind k := by
  cases x <;> simp [h]
theorem il {c : Prop} [Decidable c] {a a' : Option R} {b b' : Option S} {k : S → Option R} (h : a = b.bind k) (h' : a' = b'.bind k) : (if c then a else a') = (if c then b else b').bind k := by
  split <;> assumption
theorem il0 {c : Prop} [Decidable c] {a : Option R} {b : Option S} {k : S → Option R} (h : a = b.bind k) : (if c then a else none) = (if c then b else none).bind k := il h rfl
theorem il1 {c : Prop} [Decidable c] {a : Option R} {b : Option S} {k : S → Option R} (h : a = b.bind k) : (if c then none else a) = (if c then none else b).bind k := il rfl h
theorem sl_lin {x : Bool} {a a' : Option R} {b b' : Option S} {k : S → Option R} (h : a = b.bind k) (h' : a' = b'.bind k) : sel x a a' = (sel x b b').bind k := by
  cases x <;> assumption

theorem exC_lin {c : CK} {v : V} {f : V → Option R} {g : V → Option S} {k : S → Option R} (h : ∀ v, f v = (g v).bind k) : exC c v f = (exC c v g).bind k := by
  cases c <;> first | exact bl fun a => h _ | exact il0 (h _)
theorem ldC_lin {c : CK} {id off : Nat} {f : V → Option R} {g : V → Option S} {k : S → Option R} (h : ∀ v, f v = (g v).bind k) : ldC H c id off f = (ldC H c id off g).bind k := by
  cases c <;> first | exact bl fun a => h _ | exact bl fun a => il0 (h _)
theorem ldCs_lin {id : Nat} : ∀ (cs : List CK) (off : Nat) {f : List V → Option R} {g : List V → Option S} {k : S → Option R}, (∀ v, f v = (g v).bind k) → ldCs H cs id off f = (ldCs H cs id off g).bind k := by
  intro cs
  induction cs with
  | nil => intro off f g k h; exact h _
  | cons c cs ih => intro off f g k h; exact ldC_lin fun v => ih _ fun vs => h _
theorem ldT_lin {t : TypeId} {id off : Nat} {f : V → Option R} {g : V → Option S} {k : S → Option R} (h : ∀ v, f v = (g v).bind k) : ldT P H t id off f = (ldT P H t id off g).bind k := by
  unfold ldT
  split
  · split
    · split
      · exact il0 (il (ldCs_lin _ _ fun vs => h _) (bl fun vs => h _))
      · rfl
    · exact ldC_lin h
  · rfl
theorem exCs_lin : ∀ (cs : List CK) (vs : List V) {f : List V → Option R} {g : List V → Option S} {k : S → Option R}, (∀ v, f v = (g v).bind k) → exCs cs vs f = (exCs cs vs g).bind k := by
  intro cs
  induction cs with
  | nil => intro vs f g k h; cases vs with | nil => exact h _ | cons _ _ => rfl
  | cons c cs ih => intro vs f g k h; cases vs with | nil => rfl | cons v vs => exact exC_lin fun v => ih _ fun vs => h _
theorem exT_lin {t : TypeId} {v : V} {f : V → Option R} {g : V → Option S} {k : S → Option R} (h : ∀ v, f v = (g v).bind k) : exT P t v f = (exT P t v g).bind k := by
  unfold exT
  split
  · split
    · split
      · exact il (bl fun vs => exCs_lin _ _ fun vs => h _) (bl fun vs => h _)
      · rfl
    · exact exC_lin h
  · rfl
theorem exRs_lin : ∀ (ts : List TypeId) (vs : List V) {f : List V → Option R} {g : List V → Option S} {k : S → Option R}, (∀ v, f v = (g v).bind k) → exRs P ts vs f = (exRs P ts vs g).bind k := by
  intro ts
  induction ts with
  | nil => intro vs f g k h; cases vs <;> first | exact h _ | rfl
  | cons t ts ih => intro vs f g k h; cases vs <;> first | rfl | exact exT_lin fun v => ih _ fun vs => h _
theorem exR_lin {t : TypeId} {v : V} {f : V → Option R} {g : V → Option S} {k : S → Option R} (h : ∀ v, f v = (g v).bind k) : exR P t v f = (exR P t v g).bind k := by
  unfold exR
  split
  · split
    · exact exRs_lin _ _ fun vs => h _
    · rfl
  · exact exT_lin h
theorem stT_lin {t : TypeId} {id off : Nat} {v : V} {f : Heap → Option R} {g : Heap → Option S} {k : S → Option R} (h : ∀ v, f v = (g v).bind k) : stT P H t id off v f = (stT P H t id off v g).bind k := by
  unfold stT
  split
  · rfl
  · cases v <;> exact il0 (bl fun vs => h _)
theorem evInt_lin {op : BinOp} {k0 : IntKind} {n m : Int} {f : V → Option R} {g : V → Option S} {k : S → Option R} (h : ∀ v, f v = (g v).bind k) : evInt op k0 n m f = (evInt op k0 n m g).bind k := by
  cases op <;> first | exact h _ | exact il1 (h _) | rfl
theorem catS_lin {x y : ByteArray} {f : ByteArray → Option R} {g : ByteArray → Option S} {k : S → Option R} (h : ∀ v, f v = (g v).bind k) : catS x y f = (catS x y g).bind k := il0 (h _)
theorem evStr_lin {op : BinOp} {x y : ByteArray} {f : V → Option R} {g : V → Option S} {k : S → Option R} (h : ∀ v, f v = (g v).bind k) : evStr op x y f = (evStr op x y g).bind k := by
  cases op <;> first | exact h _ | exact il1 (h _) | exact catS_lin fun z => h _ | rfl
theorem evBin_lin {op : BinOp} {t : TypeId} {c : Bool} {a b : V} {f : V → Option R} {g : V → Option S} {k : S → Option R} (h : ∀ v, f v = (g v).bind k) : evBin P op t c a b f = (evBin P op t c a b g).bind k := by
  unfold evBin
  split
  · split
    · refine bl fun n => ?_
      cases b <;> first | exact il1 (h _) | rfl
    · refine bl fun n => ?_
      cases b <;> first | exact il1 (h _) | rfl
    · exact bl fun n => bl fun m => evInt_lin h
  · exact bl fun n => bl fun m => evStr_lin h
  · split
    · exact bl fun n => il0 (bl fun m => h _)
    · exact bl fun n => il0 (bl fun m => h _)
    · rfl
  · split
    · exact il1 (bl fun m => h _)
    · exact il1 (bl fun m => h _)
    · rfl
  · rfl
theorem slOf_lin {sz : Nat} {x : Sl} {lo hi mx : Option Int} {f : Sl → Option R} {g : Sl → Option S} {k : S → Option R} (h : ∀ v, f v = (g v).bind k) : slOf sz x lo hi mx f = (slOf sz x lo hi mx g).bind k := by
  unfold slOf
  refine il1 ?_
  split
  · exact il0 (h _)
  · refine il0 ?_
    split
    · exact il0 (h _)
    · exact il0 (h _)
theorem appendV_lin {e : TypeId} {sz bytes : Nat} {x : Sl} {n : Nat} {new : List V} {f : Sl → Heap → Option R} {g : Sl → Heap → Option S} {k : S → Option R} (h : ∀ v H, f v H = (g v H).bind k) : appendV H e sz bytes x n new f = (appendV H e sz bytes x n new g).bind k := by
  unfold appendV
  refine il (h _ _) (il1 ?_)
  split
  · exact il0 (h _ _)
  · split
    · exact il (bl fun H' => h _ _) (il0 (bl fun o => h _ _))
    · refine il0 ?_
      split
      · exact il0 (il (bl fun H' => h _ _) (il0 (h _ _)))
      · rfl
theorem partV_lin {t : TypeId} {cs : List V} {off : Nat} {f : V → Option R} {g : V → Option S} {k : S → Option R} (h : ∀ v, f v = (g v).bind k) : partV P t cs off f = (partV P t cs off g).bind k := by
  unfold partV
  split
  · split
    · exact il0 (h _)
    · split
      · exact h _
      · rfl
  · rfl
theorem minV_lin {mx : Bool} : ∀ (vs : List V) (v : V) {f : V → Option R} {g : V → Option S} {k : S → Option R}, (∀ v, f v = (g v).bind k) → minV mx v vs f = (minV mx v vs g).bind k := by
  intro vs
  induction vs with
  | nil => intro v f g k h; cases v <;> exact h _
  | cons u vs ih =>
    intro v f g k h
    cases v <;> cases u <;> first | rfl | exact ih _ h
theorem mapDel_lin {kt : TypeId} {kk : V} {m : V} {f : V → Heap → Option R} {g : V → Heap → Option S} {k : S → Option R} (h : ∀ v H, f v H = (g v H).bind k) :
    (if keyV P kt kk then m.asM.bind fun r => match r with
      | none => f (.tup []) H
      | some id => (getMap H (some id)).bind fun mm => (findE P kt kk mm.1 0).bind fun q => match q with
        | some (j, _) => f (.tup []) (H.put id (.map (mm.1.eraseIdx j) mm.2))
        | none => f (.tup []) H
      else none) = (if keyV P kt kk then m.asM.bind fun r => match r with
      | none => g (.tup []) H
      | some id => (getMap H (some id)).bind fun mm => (findE P kt kk mm.1 0).bind fun q => match q with
        | some (j, _) => g (.tup []) (H.put id (.map (mm.1.eraseIdx j) mm.2))
        | none => g (.tup []) H
      else none).bind k := by
  refine il0 (bl fun r => ?_)
  cases r with
  | none => exact h _ _
  | some id => refine bl fun mm => bl fun q => ?_; cases q <;> exact h _ _
theorem sliceData_lin {s : Sl} {f : Option (Nat × Nat) → Heap → Option R} {g : Option (Nat × Nat) → Heap → Option S} {k : S → Option R} (h : ∀ v H, f v H = (g v H).bind k) : sliceData s H f = (sliceData s H g).bind k := by
  unfold sliceData
  split
  · exact h _ _
  · split
    · exact il1 (h _ _)
    · exact il1 (h _ _)
theorem unsafeStr_lin {t : TypeId} {p : Option (Nat × Nat)} {n : Int} {f : ByteArray → Heap → Option R} {g : ByteArray → Heap → Option S} {k : S → Option R} (h : ∀ v H, f v H = (g v H).bind k) : unsafeStr P H t p n f = (unsafeStr P H t p n g).bind k := by
  unfold unsafeStr
  refine il (h _ _) ?_
  split
  · rfl
  · split
    · exact bl fun s => il0 (h _ _)
    · rfl
theorem evBuiltin_lin {b : Builtin} {ts : List TypeId} {args : List V} {f : V → Heap → Option R} {g : V → Heap → Option S} {k : S → Option R} (h : ∀ v H, f v H = (g v H).bind k) : evBuiltin P H b ts args f = (evBuiltin P H b ts args g).bind k := by
  unfold evBuiltin
  split
  · split
    · exact bl fun a => h _ _
    · exact bl fun a => h _ _
    · exact h _ _
    · exact bl fun a => bl fun m => h _ _
    · rfl
  · split
    · refine bl fun a => ?_
      split
      · exact h _ _
      · rfl
    · rfl
  · split
    · refine il0 (bl fun a => ?_)
      split
      · exact bl fun a => bl fun m => appendV_lin fun v H => h _ _
      · exact il1 (bl fun a => appendV_lin fun v H => h _ _)
      · split
        · exact il0 (bl fun a => appendV_lin fun v H => h _ _)
        · rfl
      · rfl
    · rfl
  · split
    · refine il1 (bl fun a => ?_)
      split
      · refine bl fun a => bl fun m => ?_
        split
        · exact il (h _ _) (bl fun a => h _ _)
        · exact h _ _
      · refine il1 (bl fun a => ?_)
        split
        · exact il (h _ _) (bl fun a => h _ _)
        · exact h _ _
      · rfl
    · rfl
  · exact minV_lin _ _ fun v => h _ _
  · exact minV_lin _ _ fun v => h _ _
  · split
    · exact mapDel_lin h
    · rfl
  · split
    · exact mapDel_lin h
    · rfl
  · rfl
  · exact bl fun s => sliceData_lin fun p H => h _ _
  · split
    · exact bl fun p => unsafeStr_lin fun s H => h _ _
    · rfl
  · rfl

/-- functions by number, whose answers are handed on once -/
def FunLin (F : Fun) : Prop := ∀ (R S : Type) (args : List V) (H : Heap) (f : V → Heap → Option R) (g : V → Heap → Option S) (k : S → Option R), (∀ v H, f v H = (g v H).bind k) → F R args H f = (F S args H g).bind k
def EnvLin (E : FEnv) : Prop := ∀ g F, (g, F) ∈ E → FunLin F

theorem call_lin {E : FEnv} (hE : EnvLin E) {fi : FuncId} {args : List V} {f : V → Heap → Option R} {g : V → Heap → Option S} {k : S → Option R} (h : ∀ v H, f v H = (g v H).bind k) : E.call fi args H f = (E.call fi args H g).bind k := by
  induction E with
  | nil => rfl
  | cons p E ih =>
    obtain ⟨n, F⟩ := p
    exact il (hE n F (by simp) R S args H f g k h) (ih fun g' F' hm => hE g' F' (by simp [hm]))

theorem mapSet_lin {t : TypeId} {m kk v : V} {f : V → Heap → Option R} {g : V → Heap → Option S} {k : S → Option R} (h : ∀ v H, f v H = (g v H).bind k) : mapSet P H t m kk v f = (mapSet P H t m kk v g).bind k := by
  unfold mapSet
  split
  · refine il0 (bl fun r => ?_)
    cases r with
    | none => rfl
    | some id =>
      refine bl fun mm => bl fun q => ?_
      cases q with
      | none => exact h _ _
      | some p =>
        simp only
        split
        · exact il0 (h _ _)
        · rfl
  · rfl

theorem invk_lin {E : FEnv} (hE : EnvLin E) {v : V} {name : String} {args : List V} {f : V → Heap → Option R} {g : V → Heap → Option S} {k : S → Option R} (h : ∀ v H, f v H = (g v H).bind k) : invk P E v name args H f = (invk P E v name args H g).bind k := by
  unfold invk
  split
  · split
    · exact call_lin hE h
    · rfl
  · rfl
theorem callV_lin {E : FEnv} (hE : EnvLin E) {v : V} {args : List V} {f : V → Heap → Option R} {g : V → Heap → Option S} {k : S → Option R} (h : ∀ v H, f v H = (g v H).bind k) : callV E v args H f = (callV E v args H g).bind k := by
  unfold callV
  split
  · exact call_lin hE h
  · rfl
theorem nextV_lin {i : Nat} {f : V → Heap → Option R} {g : V → Heap → Option S} {k : S → Option R} (h : ∀ v H, f v H = (g v H).bind k) : nextV H i f = (nextV H i g).bind k := by
  unfold nextV
  split
  · refine bl fun mm => il0 ?_
    split
    · exact h _ _
    · exact h _ _
    · rfl
  · rfl
theorem entryV_lin {i : Nat} {f : V → Heap → Option R} {g : V → Heap → Option S} {k : S → Option R} (h : ∀ v H, f v H = (g v H).bind k) : entryV H i f = (entryV H i g).bind k := by
  unfold entryV
  split
  · refine bl fun mm => il0 ?_
    split
    · split
      · exact h _ _
      · rfl
    · rfl
  · rfl
theorem evOp_lin {E : FEnv} (hE : EnvLin E) {val : Operand → Option V} {o : Op} {ty : TypeId} {f : V → Heap → Option R} {g : V → Heap → Option S} {k : S → Option R} (h : ∀ v H, f v H = (g v H).bind k) : evOp P E val H o ty f = (evOp P E val H o ty g).bind k := by
  cases o with
  | move x => exact bl fun v => h _ _
  | assign x => exact bl fun v => h _ _
  | pick c a b =>
    refine bl fun c => ?_
    cases c with
    | b x =>
      simp only
      split
      · exact h _ _
      · exact sl_lin (bl fun a => h _ _) (bl fun b => h _ _)
    | _ => rfl
  | alloc e => exact bl fun v => h _ _
  | box e x => exact bl fun v => h _ _
  | build t parts =>
    refine bl fun z => bl fun ps => ?_
    split
    · exact bl fun pl => bl fun cs => h _ _
    · exact il1 (bl fun cs => h _ _)
    · rfl
  | buildSlice t len parts =>
    simp only [evOp]
    split
    · exact il1 (il1 (bl fun z => bl fun ps => bl fun cs => h _ _))
    · rfl
  | load t a =>
    refine bl fun a => ?_
    cases a with
    | p x => exact bl fun q => ldT_lin fun v => h _ _
    | _ => rfl
  | store t a x =>
    refine bl fun a => bl fun v => ?_
    cases a with
    | p x => exact bl fun q => stT_lin fun v => h _ _
    | _ => rfl
  | nilCheck x =>
    refine bl fun v => ?_
    unfold nilCk
    split
    · exact bl fun q => h _ _
    · exact il0 (h _ _)
    · exact il0 (h _ _)
  | binOp op t x y yt => exact bl fun a => bl fun b => evBin_lin fun v => h _ _
  | unOp op t x =>
    refine bl fun v => ?_
    split
    · exact bl fun b => h _ _
    · split
      · exact bl fun b => h _ _
      · rfl
    · split
      · exact bl fun b => h _ _
      · rfl
    · rfl
  | convert src dst x =>
    refine bl fun v => ?_
    split
    · exact bl fun b => h _ _
    · exact bl fun b => h _ _
    · split
      · exact bl fun b => il0 (h _ _)
      · rfl
    · split
      · exact bl fun b => bl fun s => h _ _
      · rfl
    · split
      · exact bl fun b => il0 (h _ _)
      · rfl
    · rfl
  | makeInterface t x =>
    refine bl fun v => ?_
    split
    · rfl
    · exact h _ _
    · rfl
  | makeFunc fn a b => exact bl fun a => bl fun c => h _ _
  | makeMap t r =>
    cases r with
    | none => exact h _ _
    | some x =>
      refine bl fun v => ?_
      split
      · exact h _ _
      · rfl
  | makeSlice t l c =>
    refine bl fun l => bl fun c => ?_
    split
    · exact il1 (il0 (bl fun z => h _ _))
    · rfl
  | slice t x lo hi mx =>
    refine bl fun v => bl fun l => bl fun hh => bl fun m => ?_
    split
    · cases m with
      | none => exact bl fun s => il0 (h _ _)
      | some _ => rfl
    · exact il1 (bl fun s => slOf_lin fun r => h _ _)
    · refine il1 ?_
      cases v with
      | p x => exact bl fun q => slOf_lin fun r => h _ _
      | _ => rfl
    · rfl
  | fieldAddr s x f =>
    refine bl fun v => ?_
    split
    · split
      · refine il1 ?_
        cases v with
        | p x => exact bl fun q => h _ _
        | _ => rfl
      · rfl
    · rfl
  | field t x f =>
    refine bl fun v => ?_
    split
    · split
      · exact bl fun cs => partV_lin fun v => h _ _
      · rfl
    · rfl
  | indexAddr t x ix =>
    refine bl fun v => bl fun i => ?_
    cases i with
    | i kk n =>
      simp only
      split
      · exact il1 (bl fun s => il0 (bl fun q => h _ _))
      · refine il1 ?_
        cases v with
        | p x => exact bl fun q => il0 (h _ _)
        | _ => rfl
      · rfl
    | _ => rfl
  | index t x ix =>
    refine bl fun v => bl fun i => ?_
    cases i with
    | i kk n =>
      simp only
      split
      · exact bl fun s => il0 (h _ _)
      · exact bl fun cs => il0 (partV_lin fun v => exT_lin fun v => h _ _)
      · rfl
    | _ => rfl
  | lookup t m kk ok =>
    refine bl fun m => bl fun kk => ?_
    split
    · refine il0 (bl fun r => bl fun mm => bl fun q => ?_)
      cases q with
      | none => exact bl fun z => h _ _
      | some p => exact exT_lin fun v => h _ _
    · rfl
  | mapUpdate t m kk x => exact bl fun m => bl fun kk => bl fun v => mapSet_lin h
  | insert t m kk x => exact bl fun m => bl fun kk => bl fun v => mapSet_lin h
  | mapEntry t m kk =>
    refine bl fun m => bl fun kk => ?_
    split
    · refine il0 (bl fun r => ?_)
      cases r with
      | none => rfl
      | some id =>
        refine bl fun mm => bl fun q => ?_
        cases q with
        | none => exact bl fun z => h _ _
        | some p =>
          simp only
          split
          · exact il0 (exT_lin fun v => h _ _)
          · rfl
    · rfl
  | entryStore t m s x =>
    refine bl fun m => bl fun s => bl fun v => bl fun r => ?_
    split
    · refine bl fun mm => bl fun j => ?_
      split
      · exact h _ _
      · rfl
    · rfl
  | extract t i =>
    refine bl fun v => ?_
    cases v with
    | tup vs =>
      simp only
      split
      · exact h _ _
      · rfl
    | _ => rfl
  | call c =>
    refine bl fun args => ?_
    split
    · exact evBuiltin_lin h
    · refine bl fun v => ?_
      unfold invk
      split
      · split
        · exact call_lin hE fun v H => exR_lin fun v => h v H
        · rfl
      · rfl
    · refine bl fun v => ?_
      unfold callV
      split
      · exact call_lin hE fun v H => exR_lin fun v => h v H
      · rfl
  | range t x =>
    refine bl fun v => ?_
    split
    · exact bl fun r => bl fun id => bl fun mm => h _ _
    · rfl
  | next it s =>
    cases s with
    | false => exact bl fun v => bl fun p => bl fun q => il0 (nextV_lin h)
    | true => rfl
  | entry it => exact bl fun v => bl fun p => bl fun q => il0 (entryV_lin h)
  | _ => rfl

end
end Go.Proofs.Ytnlfkllnmobppaa.AM

/- A region whose order is drawn: what the machine's run in the order of the text shows. -/
namespace Go.Proofs.Ytnlfkllnmobppaa.AM
open Go Go.RowKit

def ret2 (v : V) (H : Heap) : Option (V × Heap) := some (v, H)

section
variable {R : Type} {P : Program} {E : FEnv}

theorem op_split (hL : EnvLin E) {val : Operand → Option V} {H : Heap} {o : Op} {ty : TypeId} {K : V → Heap → Option R} {r : R} (h : evOp P E val H o ty K = some r) :
    ∃ v H', evOp P E val H o ty ret2 = some (v, H') ∧ K v H' = some r := by
  rw [evOp_lin (f := K) (g := ret2) (k := fun p => K p.1 p.2) hL (fun v H => rfl)] at h
  obtain ⟨p, h1, h2⟩ := Option.bind_eq_some_iff.1 h
  exact ⟨p.1, p.2, h1, h2⟩

theorem noneff_same {val : Operand → Option V} {H : Heap} {o : Op} {ty : TypeId} (he : effO P o = false) (K : V → Heap → Option R) : evOp P E val H o ty K = evOp P E val H o ty (fun v _ => K v H) := by
  cases o with
  | convert src dst x =>
    simp only [effO] at he
    split at he
    · rename_i k hk
      simp only [evOp, hk]
      congr 1; funext v
      split <;> first | rfl | (exfalso; simp_all; done)
    · rename_i hk
      simp only [evOp, hk]
      congr 1; funext v
      split <;> first | rfl | (exfalso; simp_all; done) | (split <;> rfl)
    · cases he
  | call c =>
    obtain ⟨callee, args, ts⟩ := c
    cases callee with
    | builtin b =>
      simp only [evOp]
      congr 1; funext vs
      cases b <;> simp [effO, effOp] at he <;> (unfold evBuiltin; split <;> first | contradiction | rfl)
    | _ => simp [effO, effOp] at he
  | _ => first | (simp [effO, effOp] at he; done) | rfl

theorem pure_same {val : Operand → Option V} {H H' : Heap} {o : Op} {ty : TypeId} (he : effO P o = false) (hr : readO P o = false) (K : V → Option R) : evOp P E val H o ty (fun v _ => K v) = evOp P E val H' o ty (fun v _ => K v) := by
  cases o with
  | convert src dst x =>
    simp only [effO] at he
    split at he
    · rename_i k hk
      simp only [evOp, hk]
      congr 1; funext v
      split <;> first | rfl | (exfalso; simp_all; done)
    · rename_i hk
      simp [readO, hk] at hr
    · cases he
  | _ => first | (simp [effO, effOp] at he; done) | (simp [readO, readOp] at hr; done) | rfl

theorem noneff_heap (hL : EnvLin E) {val : Operand → Option V} {H H' : Heap} {o : Op} {ty : TypeId} {v : V} (he : effO P o = false) (h : evOp P E val H o ty ret2 = some (v, H')) : H' = H := by
  rw [noneff_same he] at h
  obtain ⟨v', H2, h1, h2⟩ := op_split hL h
  simp [ret2] at h2
  exact h2.2.symm
theorem pure_heap (hL : EnvLin E) {val : Operand → Option V} {H H' H2 : Heap} {o : Op} {ty : TypeId} {v : V} (he : effO P o = false) (hr : readO P o = false) (h : evOp P E val H o ty ret2 = some (v, H')) : evOp P E val H2 o ty ret2 = some (v, H2) := by
  have hH := noneff_heap hL he h
  subst hH
  have h' : evOp P E val H' o ty (fun v _ => some v) = some v := by
    rw [evOp_lin (f := fun v _ => some v) (g := ret2) (k := fun p => some p.1) hL (fun v H => rfl), h]; rfl
  rw [pure_same (H' := H2) he hr] at h'
  rw [noneff_same he]
  rw [evOp_lin (f := fun v _ => ret2 v H2) (g := fun v _ => some v) (k := fun v => ret2 v H2) hL (fun v H => rfl), h']; rfl

theorem same1_eq {v u : V} (h : V.same1 v u = true) : v = u := by
  unfold V.same1 at h
  split at h <;> simp at h <;> simp [h]
theorem sames_eq : ∀ (vs us : List V), sames vs us = true → vs = us := by
  intro vs
  induction vs with
  | nil => intro us h; cases us <;> simp [sames] at h; rfl
  | cons v vs ih =>
    intro us h
    cases us with
    | nil => simp [sames] at h
    | cons u us =>
      simp only [sames, Bool.and_eq_true] at h
      rw [same1_eq h.1, ih us h.2]
theorem same_eq {v u : V} (h : V.same v u = true) : v = u := by
  unfold V.same at h
  split at h
  · rw [sames_eq _ _ h]
  · exact same1_eq h

theorem chkHeaps_sound (hL : EnvLin E) {fr : Fr} {o : Op} {ty : TypeId} {v : V} (he : effO P o = false) : ∀ (hs : List Heap) {K : Unit → Option R} {r : R}, chkHeaps P E fr o ty v hs K = some r → K () = some r ∧ ∀ H ∈ hs, evOp P E (evalO fr) H o ty ret2 = some (v, H) := by
  intro hs
  induction hs with
  | nil => intro K r h; exact ⟨h, by simp⟩
  | cons H hs ih =>
    intro K r h
    simp only [chkHeaps] at h
    obtain ⟨v', H', h1, h2⟩ := op_split hL h
    split at h2
    · rename_i hs'
      obtain rfl := same_eq hs'
      have := noneff_heap hL he h1
      subst this
      obtain ⟨h3, h4⟩ := ih h2
      exact ⟨h3, fun H2 hm => by rcases List.mem_cons.1 hm with rfl | hm; exact h1; exact h4 _ hm⟩
    · cases h2
theorem chkPends_sound (hL : EnvLin E) {H : Heap} {c : Nat} : ∀ (ps : List Pend) {K : Unit → Option R} {r : R}, (∀ p ∈ ps, effO P p.o = false) → chkPends P E H c ps K = some r → K () = some r ∧ ∀ p ∈ ps, c ≤ p.hi → evOp P E (evalO p.fr) H p.o p.ty ret2 = some (p.v, H) := by
  intro ps
  induction ps with
  | nil => intro K r _ h; exact ⟨h, by simp⟩
  | cons p ps ih =>
    intro K r he h
    simp only [chkPends] at h
    split at h
    · obtain ⟨v', H', h1, h2⟩ := op_split hL h
      split at h2
      · rename_i hs'
        have hv := same_eq hs'
        have := noneff_heap hL (he p (by simp)) h1
        subst this
        obtain ⟨h3, h4⟩ := ih (fun q hq => he q (by simp [hq])) h2
        exact ⟨h3, fun q hm hc => by rcases List.mem_cons.1 hm with rfl | hm; rw [hv]; exact h1; exact h4 _ hm hc⟩
      · cases h2
    · rename_i hc
      obtain ⟨h3, h4⟩ := ih (fun q hq => he q (by simp [hq])) h
      exact ⟨h3, fun q hm hc' => by rcases List.mem_cons.1 hm with rfl | hm; exact absurd hc' hc; exact h4 _ hm hc'⟩

def cnt (P : Program) (all : List Oper) (i : Nat) : Nat := ((List.range i).filter (effAt P all)).length
theorem cnt_succ (P : Program) (all : List Oper) (i : Nat) : cnt P all (i + 1) = cnt P all i + if effAt P all i then 1 else 0 := by
  unfold cnt
  rw [List.range_succ, List.filter_append, List.length_append]
  cases h : effAt P all i <;> simp [h]

/-- the run in the order of the text: of the operation at i -/
structure Step1 (P : Program) (E : FEnv) (n : Nat) (all : List Oper) (tbl : List Nat) (HS : Nat → Heap) (top : Nat) (i : Nat) (o : Oper) (F fr : Fr) (run : Bool) (v : V) : Prop where
  dst : dstOk n o.dst = true
  same : ∀ t, fget fr t = fget F t
  guard : (o.guard = none ∧ run = true) ∨ (∃ j want d x, o.guard = some (j, want) ∧ (all[j]?).bind (·.dst) = some d ∧ fget F d = some (.b x) ∧ run = (x == want)) ∨ ∃ j want d, o.guard = some (j, want) ∧ (all[j]?).bind (·.dst) = some d ∧ fget F d = some (.tup []) ∧ run = false
  eff : run = true → effO P o.op = true → evOp P E (evalO fr) (HS (cnt P all i)) o.op o.type ret2 = some (v, HS (cnt P all i + 1))
  skip : run = false → effO P o.op = true → HS (cnt P all i + 1) = HS (cnt P all i)
  read : run = true → effO P o.op = false → ∀ q, loOf P all tbl i ≤ q → q ≤ hiOf P all tbl i → q ≤ top → evOp P E (evalO fr) (HS q) o.op o.type ret2 = some (v, HS q)

inductive DT (P : Program) (E : FEnv) (n : Nat) (all : List Oper) (tbl : List Nat) (HS : Nat → Heap) (top : Nat) : Nat → List Oper → Fr → Fr → Prop
  | nil (i : Nat) (F : Fr) : DT P E n all tbl HS top i [] F F
  | cons (i : Nat) (o : Oper) (rest : List Oper) (F fr F' : Fr) (run : Bool) (v : V) : Step1 P E n all tbl HS top i o F fr run v →
      DT P E n all tbl HS top (i + 1) rest (if run then fput fr o.dst v else fskip fr o.dst) F' → DT P E n all tbl HS top i (o :: rest) F F'

/-- heaps seen so far, and those to come -/
def HSof (hs : List Heap) (H : Heap) (more : Nat → Heap) (q : Nat) : Heap := if h : q < hs.length then hs[q] else if q = hs.length then H else more q

theorem evD_trace (hL : EnvLin E) {n : Nat} {all : List Oper} {tbl : List Nat} {K : Fr → Heap → Option R} {r : R} : ∀ (rest : List Oper) (i : Nat) (fr : Fr) (H : Heap) (hs : List Heap) (ps : List Pend),
    (∀ (k : Nat) (o : Oper), rest[k]? = some o → all[i + k]? = some o) → hs.length = cnt P all i → (∀ p ∈ ps, effO P p.o = false) → evD P E n all tbl rest i fr H hs ps K = some r →
    ∃ (HS : Nat → Heap) (frF : Fr), (∀ (q : Nat) (h : q < hs.length), HS q = hs[q]) ∧ HS hs.length = H ∧ K frF (HS (cnt P all (i + rest.length))) = some r ∧
      (∀ p ∈ ps, ∀ q, hs.length < q → q ≤ p.hi → q ≤ cnt P all (i + rest.length) → evOp P E (evalO p.fr) (HS q) p.o p.ty ret2 = some (p.v, HS q)) ∧
      DT P E n all tbl HS (cnt P all (i + rest.length)) i rest fr frF := by
  intro rest
  induction rest with
  | nil =>
    intro i fr H hs ps _ hc hp h
    refine ⟨fun q => if h : q < hs.length then hs[q] else H, fr, fun q hq => by simp [hq], by simp, ?_, ?_, .nil _ _⟩
    · simp only [List.length_nil, Nat.add_zero, ← hc]; simpa [evD] using h
    · intro p _ q h1 _ h3
      simp only [List.length_nil, Nat.add_zero, ← hc] at h3
      omega
  | cons o rest ih =>
    intro i fr H hs ps hall hc hp h
    have ho : all[i]? = some o := by have := hall 0 o rfl; simpa using this
    have heff : effAt P all i = effO P o.op := by simp [effAt, ho]
    have hlen : i + (o :: rest).length = (i + 1) + rest.length := by simp; omega
    have hall' : ∀ (k : Nat) (o' : Oper), rest[k]? = some o' → all[i + 1 + k]? = some o' := fun k o' hk => by
      have := hall (k + 1) o' (by simpa using hk)
      rw [show i + 1 + k = i + (k + 1) by omega]; exact this
    rw [hlen]
    have hmono : cnt P all (i + 1) ≤ cnt P all (i + 1 + rest.length) := by
      generalize rest.length = m
      induction m with
      | zero => exact Nat.le_refl _
      | succ m ihm => rw [show i + 1 + (m + 1) = (i + 1 + m) + 1 by omega]; have := cnt_succ P all (i + 1 + m); split at this <;> omega
    have hcs := cnt_succ P all i
    rw [heff] at hcs
    -- one operation, performed
    have one : ∀ (fr1 : Fr) (hfr : ∀ t, fget fr1 t = fget fr t) (hd : dstOk n o.dst = true) (hg : (o.guard = none ∧ true = true) ∨ (∃ j want d x, o.guard = some (j, want) ∧ (all[j]?).bind (·.dst) = some d ∧ fget fr d = some (.b x) ∧ true = (x == want)) ∨ ∃ j want d, o.guard = some (j, want) ∧ (all[j]?).bind (·.dst) = some d ∧ fget fr d = some (.tup []) ∧ true = false),
        (dOne P E all tbl o i fr1 H hs ps fun fr H hs ps => evD P E n all tbl rest (i + 1) fr H hs ps K) = some r →
        ∃ (HS : Nat → Heap) (frF : Fr), (∀ (q : Nat) (h : q < hs.length), HS q = hs[q]) ∧ HS hs.length = H ∧ K frF (HS (cnt P all (i + 1 + rest.length))) = some r ∧
          (∀ p ∈ ps, ∀ q, hs.length < q → q ≤ p.hi → q ≤ cnt P all (i + 1 + rest.length) → evOp P E (evalO p.fr) (HS q) p.o p.ty ret2 = some (p.v, HS q)) ∧
          DT P E n all tbl HS (cnt P all (i + 1 + rest.length)) i (o :: rest) fr frF := by
      intro fr1 hfr hd hg hk
      unfold dOne at hk
      split at hk
      · rename_i he
        obtain ⟨v, H', h1, h2⟩ := op_split hL hk
        obtain ⟨h3, h4⟩ := chkPends_sound hL ps hp h2
        rw [he, if_pos rfl] at hcs
        obtain ⟨HS, frF, g1, g2, g3, g4, g5⟩ := ih (i + 1) _ H' (hs ++ [H]) ps hall' (by simp [hc, hcs]) hp h3
        have e1 : HS hs.length = H := by have := g1 hs.length (by simp); simpa using this
        have e2 : HS (hs.length + 1) = H' := by simpa using g2
        refine ⟨HS, frF, fun q hq => ?_, e1, g3, ?_, ?_⟩
        · have := g1 q (by simp; omega); rw [List.getElem_append_left hq] at this; exact this
        · intro p hpm q h5 h6 h7
          by_cases hq : q = hs.length + 1
          · subst hq; rw [e2]; exact h4 p hpm h6
          · exact g4 p hpm q (by simp; omega) h6 h7
        · refine .cons i o rest fr fr1 frF true v ⟨hd, hfr, hg, fun _ _ => ?_, fun hf => (by cases hf), fun _ hf => (by rw [he] at hf; cases hf)⟩ (by simpa using g5)
          rw [← hc, e1, e2]; exact h1
      · rename_i he
        have he' : effO P o.op = false := by simpa using he
        rw [he'] at hcs
        simp only [Bool.false_eq_true, if_false, Nat.add_zero] at hcs
        split at hk
        · obtain ⟨v, H', h1, h2⟩ := op_split hL hk
          have hH := noneff_heap hL he' h1
          subst hH
          obtain ⟨h3, h4⟩ := chkHeaps_sound hL he' _ h2
          obtain ⟨HS, frF, g1, g2, g3, g4, g5⟩ := ih (i + 1) _ H' hs _ hall' (by rw [hc, hcs]) (by
            intro p hpm
            split at hpm
            · rcases List.mem_cons.1 hpm with rfl | hpm
              · exact he'
              · exact hp p hpm
            · exact hp p hpm) h3
          refine ⟨HS, frF, g1, g2, g3, ?_, ?_⟩
          · intro p hpm q h5 h6 h7
            refine g4 p ?_ q h5 h6 h7
            split
            · exact List.mem_cons_of_mem _ hpm
            · exact hpm
          · refine .cons i o rest fr fr1 frF true v ⟨hd, hfr, hg, fun _ hf => (by rw [he'] at hf; cases hf), fun hf => (by cases hf), fun _ _ q q1 q2 q3 => ?_⟩ (by simpa using g5)
            rcases Nat.lt_trichotomy q hs.length with hq | hq | hq
            · rw [g1 q hq]
              refine h4 _ ?_
              rw [List.mem_iff_getElem?]
              refine ⟨q - loOf P all tbl i, ?_⟩
              rw [List.getElem?_drop, show loOf P all tbl i + (q - loOf P all tbl i) = q by omega, List.getElem?_eq_getElem hq]
            · subst hq; rw [g2]; exact h1
            · have := g4 ⟨fr1, o.op, o.type, v, hiOf P all tbl i⟩ (by rw [if_pos (by omega)]; simp) q hq q2 q3
              exact this
        · rename_i hr
          have hr' : readO P o.op = false := by simpa using hr
          obtain ⟨v, H', h1, h2⟩ := op_split hL hk
          have hH := noneff_heap hL he' h1
          subst hH
          obtain ⟨HS, frF, g1, g2, g3, g4, g5⟩ := ih (i + 1) _ H' hs _ hall' (by rw [hc, hcs]) hp h2
          refine ⟨HS, frF, g1, g2, g3, g4, ?_⟩
          exact .cons i o rest fr fr1 frF true v ⟨hd, hfr, hg, fun _ hf => (by rw [he'] at hf; cases hf), fun hf => (by cases hf), fun _ _ q _ _ _ => pure_heap hL he' hr' h1⟩ (by simpa using g5)
    have non : ∀ (fr1 : Fr) (hfr : ∀ t, fget fr1 t = fget fr t) (hd : dstOk n o.dst = true) (hg : (o.guard = none ∧ false = true) ∨ (∃ j want d x, o.guard = some (j, want) ∧ (all[j]?).bind (·.dst) = some d ∧ fget fr d = some (.b x) ∧ false = (x == want)) ∨ ∃ j want d, o.guard = some (j, want) ∧ (all[j]?).bind (·.dst) = some d ∧ fget fr d = some (.tup []) ∧ false = false),
        (dSkip P E o fr1 H hs ps fun fr H hs ps => evD P E n all tbl rest (i + 1) fr H hs ps K) = some r →
        ∃ (HS : Nat → Heap) (frF : Fr), (∀ (q : Nat) (h : q < hs.length), HS q = hs[q]) ∧ HS hs.length = H ∧ K frF (HS (cnt P all (i + 1 + rest.length))) = some r ∧
          (∀ p ∈ ps, ∀ q, hs.length < q → q ≤ p.hi → q ≤ cnt P all (i + 1 + rest.length) → evOp P E (evalO p.fr) (HS q) p.o p.ty ret2 = some (p.v, HS q)) ∧
          DT P E n all tbl HS (cnt P all (i + 1 + rest.length)) i (o :: rest) fr frF := by
      intro fr1 hfr hd hg hk
      unfold dSkip at hk
      split at hk
      · rename_i he
        obtain ⟨h3, h4⟩ := chkPends_sound hL ps hp hk
        rw [he, if_pos rfl] at hcs
        obtain ⟨HS, frF, g1, g2, g3, g4, g5⟩ := ih (i + 1) _ H (hs ++ [H]) ps hall' (by simp [hc, hcs]) hp h3
        have e1 : HS hs.length = H := by have := g1 hs.length (by simp); simpa using this
        have e2 : HS (hs.length + 1) = H := by simpa using g2
        refine ⟨HS, frF, fun q hq => ?_, e1, g3, ?_, ?_⟩
        · have := g1 q (by simp; omega); rw [List.getElem_append_left hq] at this; exact this
        · intro p hpm q h5 h6 h7
          by_cases hq : q = hs.length + 1
          · subst hq; rw [e2]; exact h4 p hpm h6
          · exact g4 p hpm q (by simp; omega) h6 h7
        · exact .cons i o rest fr fr1 frF false (.b true) ⟨hd, hfr, hg, fun hf => (by cases hf), fun _ _ => (by rw [← hc, e1, e2]), fun hf => (by cases hf)⟩ (by simpa using g5)
      · rename_i he
        have he' : effO P o.op = false := by simpa using he
        rw [he'] at hcs
        simp only [Bool.false_eq_true, if_false, Nat.add_zero] at hcs
        obtain ⟨HS, frF, g1, g2, g3, g4, g5⟩ := ih (i + 1) _ H hs _ hall' (by rw [hc, hcs]) hp hk
        exact ⟨HS, frF, g1, g2, g3, g4, .cons i o rest fr fr1 frF false (.b true) ⟨hd, hfr, hg, fun hf => (by cases hf), fun _ hf => (by rw [he'] at hf; cases hf), fun hf => (by cases hf)⟩ (by simpa using g5)⟩
    unfold evD at h
    by_cases hdst : dstOk n o.dst = false
    · rw [if_pos hdst] at h; cases h
    rw [if_neg hdst] at h
    have hdst : dstOk n o.dst = true := by simpa using hdst
    split at h
    · rename_i hg
      exact one fr (fun _ => rfl) hdst (.inl ⟨hg, rfl⟩) h
    · rename_i j want hg
      split at h
      · rename_i d hd
        split at h
        · rename_i x hx
          have hlit : ∀ t, fget (fset fr d (.b x)) t = fget fr t := by
            intro t
            rw [fget_fset]
            split
            · rename_i e; subst e; exact hx.symm
            · rfl
          rcases sel_some h with ⟨rfl, h'⟩ | ⟨rfl, h'⟩
          · split at h'
            · rename_i hw
              exact one _ hlit hdst (.inr (.inl ⟨j, want, d, true, hg, hd, hx, by simp [hw]⟩)) h'
            · rename_i hw
              exact non _ hlit hdst (.inr (.inl ⟨j, want, d, true, hg, hd, hx, by simp at hw; simp [hw]⟩)) h'
          · split at h'
            · rename_i hw
              exact non _ hlit hdst (.inr (.inl ⟨j, want, d, false, hg, hd, hx, by simp [hw]⟩)) h'
            · rename_i hw
              exact one _ hlit hdst (.inr (.inl ⟨j, want, d, false, hg, hd, hx, by simp at hw; simp [hw]⟩)) h'
        · rename_i hx
          exact non _ (fun _ => rfl) hdst (.inr (.inr ⟨j, want, d, hg, hd, hx, rfl⟩)) h
        · cases h
      · cases h

end
end Go.Proofs.Ytnlfkllnmobppaa.AM

/- A region whose order is drawn: every order gives what the order of the text gives. -/
namespace Go.Proofs.Ytnlfkllnmobppaa.AM
open Go Go.RowKit

/-- how many numbers below 'len' meet p -/
def num (len : Nat) (p : Nat → Bool) : Nat := ((List.range len).filter p).length
theorem num_succ (len : Nat) (p : Nat → Bool) : num (len + 1) p = num len p + if p len then 1 else 0 := by
  unfold num
  rw [List.range_succ, List.filter_append, List.length_append]
  cases h : p len <;> simp [h]
theorem num_le {len : Nat} {p q : Nat → Bool} (h : ∀ j, j < len → p j = true → q j = true) : num len p ≤ num len q := by
  induction len with
  | zero => simp [num]
  | succ len ih =>
    rw [num_succ, num_succ]
    have := ih fun j hj => h j (by omega)
    have h2 := h len (by omega)
    cases hp : p len <;> cases hq : q len <;> simp_all <;> omega
theorem num_congr {len : Nat} {p q : Nat → Bool} (h : ∀ j, j < len → p j = q j) : num len p = num len q := by
  have h1 := num_le (p := p) (q := q) fun j hj hp => by rw [← h j hj]; exact hp
  have h2 := num_le (p := q) (q := p) fun j hj hp => by rw [h j hj]; exact hp
  omega
theorem num_set {len i : Nat} {p q : Nat → Bool} (hi : i < len) (hp : p i = false) (hq : q i = true) (h : ∀ j, j ≠ i → q j = p j) : num len q = num len p + 1 := by
  induction len with
  | zero => omega
  | succ len ih =>
    rw [num_succ, num_succ]
    by_cases hil : i = len
    · subst hil
      rw [num_congr (p := q) (q := p) fun j hj => h j (by omega), hp, hq]
      simp
    · rw [ih (by omega), h len (fun e => hil e.symm)]
      omega
theorem num_lt {len m : Nat} {p : Nat → Bool} (hm : m ≤ len) : num len (fun j => p j && decide (j < m)) = num m p := by
  induction len with
  | zero => obtain rfl : m = 0 := by omega
            simp [num]
  | succ len ih =>
    rw [num_succ]
    by_cases h : m = len + 1
    · subst h
      rw [num_succ, num_congr (q := p) fun j hj => by simp; intro _; omega]
      simp
    · rw [ih (by omega)]
      have : decide (len < m) = false := by simp; omega
      simp [this]
theorem num_all {len : Nat} {p : Nat → Bool} (h : num len p = len) : ∀ j, j < len → p j = true := by
  intro j hj
  rcases hp : p j with _ | _
  · exfalso
    have h1 : num len (fun k => if k = j then true else p k) = num len p + 1 := num_set hj hp (by simp) (fun k hk => by simp [hk])
    have h2 : num len (fun k => if k = j then true else p k) ≤ num len (fun _ => true) := num_le fun _ _ _ => rfl
    have h3 : num len (fun _ => true) = len := by unfold num; rw [List.filter_eq_self.2 (fun _ _ => rfl), List.length_range]
    omega
  · rfl

section
variable {P : Program} {E : FEnv} {n : Nat} {all : List Oper} {tbl : List Nat} {HS : Nat → Heap} {top : Nat} {N : Nat} {w0 : Ref}

theorem evalL_congr {val val' : Operand → Option V} : ∀ (l : List Operand), (∀ x ∈ l, val x = val' x) → evalL val l = evalL val' l := by
  intro l
  induction l with
  | nil => intro _; rfl
  | cons x l ih => intro h; simp only [evalL, h x (by simp), ih fun y hy => h y (by simp [hy])]
theorem evalP_congr {val val' : Operand → Option V} : ∀ (l : List (Nat × Operand)), (∀ x ∈ l.map (·.2), val x = val' x) → evalP val l = evalP val' l := by
  intro l
  induction l with
  | nil => intro _; rfl
  | cons p l ih =>
    obtain ⟨i, x⟩ := p
    intro h; simp only [evalP, h x (by simp), ih fun y hy => h y (by simp at hy ⊢; exact .inr hy)]
theorem intOpt_congr {val val' : Operand → Option V} (o : Option Operand) (h : ∀ x, o = some x → val x = val' x) : intOpt val o = intOpt val' o := by
  cases o with
  | none => rfl
  | some x => simp only [intOpt, h x rfl]

theorem evOp_congr {R : Type} {val val' : Operand → Option V} {H : Heap} {o : Op} {ty : TypeId} {K : V → Heap → Option R} (h : ∀ x ∈ o.operands.toList, val x = val' x) : evOp P E val H o ty K = evOp P E val' H o ty K := by
  cases o with
  | build t parts => simp only [evOp, evalP_congr parts.toList (val := val) (val' := val') fun x hx => h x (by simpa [Op.operands] using hx)]
  | buildSlice t len parts => simp only [evOp, evalP_congr parts.toList (val := val) (val' := val') fun x hx => h x (by simpa [Op.operands] using hx)]
  | makeFunc fn a b =>
    simp only [evOp, evalL_congr a.toList (val := val) (val' := val') fun x hx => h x (by simp [Op.operands]; exact .inl (by simpa using hx)), evalL_congr b.toList (val := val) (val' := val') fun x hx => h x (by simp [Op.operands]; exact .inr (by simpa using hx))]
  | makeMap t r =>
    cases r with
    | none => rfl
    | some x => simp only [evOp, h x (by simp [Op.operands])]
  | slice t x lo hi mx =>
    simp only [evOp, h x (by simp [Op.operands]), intOpt_congr lo (val := val) (val' := val') fun y hy => h y (by subst hy; simp [Op.operands]), intOpt_congr hi (val := val) (val' := val') fun y hy => h y (by subst hy; simp [Op.operands]),
      intOpt_congr mx (val := val) (val' := val') fun y hy => h y (by subst hy; simp [Op.operands])]
  | call c =>
    obtain ⟨callee, args, ts⟩ := c
    have ha := evalL_congr args.toList (val := val) (val' := val') fun x hx => h x (by simp [Op.operands, Call.operands]; exact .inr (by simpa using hx))
    cases callee with
    | builtin b => simp only [evOp, ha]
    | invoke r m => simp only [evOp, ha, h r (by simp [Op.operands, Call.operands])]
    | value f => simp only [evOp, ha, h f (by simp [Op.operands, Call.operands])]
  | move x => simp only [evOp, h x (by simp [Op.operands])]
  | assign x => simp only [evOp, h x (by simp [Op.operands])]
  | pick c a b => simp only [evOp, h c (by simp [Op.operands]), h a (by simp [Op.operands]), h b (by simp [Op.operands])]
  | box e x => simp only [evOp, h x (by simp [Op.operands])]
  | insert t m k x => simp only [evOp, h m (by simp [Op.operands]), h k (by simp [Op.operands]), h x (by simp [Op.operands])]
  | mapUpdate t m k x => simp only [evOp, h m (by simp [Op.operands]), h k (by simp [Op.operands]), h x (by simp [Op.operands])]
  | entryStore t m k x => simp only [evOp, h m (by simp [Op.operands]), h k (by simp [Op.operands]), h x (by simp [Op.operands])]
  | load t x => simp only [evOp, h x (by simp [Op.operands])]
  | store t m k => simp only [evOp, h m (by simp [Op.operands]), h k (by simp [Op.operands])]
  | nilCheck x => simp only [evOp, h x (by simp [Op.operands])]
  | binOp op t m k yt => simp only [evOp, h m (by simp [Op.operands]), h k (by simp [Op.operands])]
  | unOp op t x => simp only [evOp, h x (by simp [Op.operands])]
  | convert s d x => simp only [evOp, h x (by simp [Op.operands])]
  | makeInterface t x => simp only [evOp, h x (by simp [Op.operands])]
  | makeSlice t m k => simp only [evOp, h m (by simp [Op.operands]), h k (by simp [Op.operands])]
  | fieldAddr t x f => simp only [evOp, h x (by simp [Op.operands])]
  | field t x f => simp only [evOp, h x (by simp [Op.operands])]
  | indexAddr t m k => simp only [evOp, h m (by simp [Op.operands]), h k (by simp [Op.operands])]
  | index t m k => simp only [evOp, h m (by simp [Op.operands]), h k (by simp [Op.operands])]
  | lookup t m k ok => simp only [evOp, h m (by simp [Op.operands]), h k (by simp [Op.operands])]
  | mapEntry t m k => simp only [evOp, h m (by simp [Op.operands]), h k (by simp [Op.operands])]
  | extract x i => simp only [evOp, h x (by simp [Op.operands])]
  | range t x => simp only [evOp, h x (by simp [Op.operands])]
  | next x s => cases s <;> simp only [evOp, h x (by simp [Op.operands])]
  | entry x => simp only [evOp, h x (by simp [Op.operands])]
  | _ => rfl

theorem DT.data {i : Nat} {rest : List Oper} {F F' : Fr} (h : DT P E n all tbl HS top i rest F F') : ∃ (Fs fs : Nat → Fr) (run : Nat → Bool) (v : Nat → V), Fs i = F ∧ Fs (i + rest.length) = F' ∧
    ∀ (k : Nat) (o : Oper), rest[k]? = some o → Step1 P E n all tbl HS top (i + k) o (Fs (i + k)) (fs (i + k)) (run (i + k)) (v (i + k)) ∧
      ∀ t, fget (Fs (i + k + 1)) t = if o.dst = some t then (if run (i + k) then some (v (i + k)) else some (.tup [])) else fget (Fs (i + k)) t := by
  induction h with
  | nil i F => exact ⟨fun _ => F, fun _ => F, fun _ => true, fun _ => .b true, rfl, rfl, fun k o hk => by simp at hk⟩
  | cons i o rest F fr F' run v hs _ ih =>
    obtain ⟨Fs, fs, runs, vs, h1, h2, h3⟩ := ih
    refine ⟨fun k => if k = i then F else Fs k, fun k => if k = i then fr else fs k, fun k => if k = i then run else runs k, fun k => if k = i then v else vs k, by simp, ?_, ?_⟩
    · have e1 : i + (o :: rest).length = i + 1 + rest.length := by simp only [List.length_cons]; omega
      rw [e1]
      simp only [show ¬ (i + 1 + rest.length = i) by omega, if_false]
      exact h2
    · intro k o' hk
      cases k with
      | zero =>
        obtain rfl : o = o' := by simpa using hk
        simp only [Nat.add_zero, if_true]
        refine ⟨hs, fun t => ?_⟩
        rw [if_neg (by omega), h1]
        cases run with
        | true =>
          simp only [if_true]
          cases hd : o.dst with
          | none => simp [fput, hs.same]
          | some d =>
            simp only [fput, fget_fset]
            by_cases e : t = d
            · subst e; simp
            · rw [if_neg e, if_neg (fun h => e (Option.some.inj h).symm)]; exact hs.same t
        | false =>
          simp only [Bool.false_eq_true, if_false]
          cases hd : o.dst with
          | none => simp [fskip, hs.same]
          | some d =>
            simp only [fskip, fget_fset]
            by_cases e : t = d
            · subst e; simp
            · rw [if_neg e, if_neg (fun h => e (Option.some.inj h).symm)]; exact hs.same t
      | succ k =>
        have := h3 k o' (by simpa using hk)
        rw [show i + 1 + k = i + (k + 1) by omega] at this
        simp only [show ¬ (i + (k + 1) = i) by omega, show ¬ (i + (k + 1) + 1 = i) by omega, if_false]
        exact this

/-- slot t, behind those of the first k operations that S holds -/
def G (all : List Oper) (run : Nat → Bool) (v : Nat → V) (fr0 : Fr) (S : Nat → Bool) : Nat → Nat → Option V
  | 0, t => fget fr0 t
  | k + 1, t => if S k = true ∧ (all[k]?).bind (·.dst) = some t then (if run k then some (v k) else some (.tup [])) else G all run v fr0 S k t

theorem G_same {run : Nat → Bool} {v : Nat → V} {fr0 : Fr} {S S' : Nat → Bool} {t : Nat} : ∀ (k : Nat), (∀ j, j < k → (all[j]?).bind (·.dst) = some t → S j = S' j) → G all run v fr0 S k t = G all run v fr0 S' k t := by
  intro k
  induction k with
  | zero => intro _; rfl
  | succ k ih =>
    intro h
    simp only [G]
    rw [ih fun j hj => h j (by omega)]
    by_cases hd : (all[k]?).bind (·.dst) = some t
    · rw [h k (by omega) hd]
    · simp [hd]
theorem G_later {run : Nat → Bool} {v : Nat → V} {fr0 : Fr} {S : Nat → Bool} {t : Nat} (i : Nat) : ∀ (m : Nat), (∀ j, i ≤ j → j < i + m → (all[j]?).bind (·.dst) = some t → S j = false) → G all run v fr0 S (i + m) t = G all run v fr0 S i t := by
  intro m
  induction m with
  | zero => intro _; rfl
  | succ m ih =>
    intro h
    rw [show i + (m + 1) = (i + m) + 1 by omega]
    simp only [G]
    rw [ih fun j hj hjm => h j hj (by omega)]
    by_cases hd : (all[i + m]?).bind (·.dst) = some t
    · rw [h (i + m) (by omega) (by omega) hd]; simp
    · simp [hd]

theorem tbl_spec (h : tblOk all tbl = true) {j : Nat} {o : Oper} (ho : all[j]? = some o) : (∀ e ∈ anyEdges o, e < j) ∧ ∀ i, i < all.length → hasBit tbl j i = true → ∃ e ∈ anyEdges o, e = i ∨ hasBit tbl e i = true := by
  have hj : j < all.length := (List.getElem?_eq_some_iff.1 ho).1
  unfold tblOk at h
  rw [List.all_eq_true] at h
  have := h j (by simpa using hj)
  rw [ho] at this
  simp only [Bool.and_eq_true, List.all_eq_true, decide_eq_true_eq] at this
  refine ⟨this.1, fun i hi hb => ?_⟩
  have h2 := this.2 i (by simpa using hi)
  simp only [hb, Bool.not_true, Bool.false_or, List.any_eq_true, Bool.or_eq_true, decide_eq_true_eq] at h2
  exact h2
theorem stat_spec (h : statOk P all tbl = true) : tblOk all tbl = true ∧ ∀ i j x y, i < j → all[i]? = some x → all[j]? = some y → hasBit tbl j i = true ∨ (clash all x y = false ∧ (effO P x.op && effO P y.op) = false) := by
  unfold statOk at h
  simp only [Bool.and_eq_true] at h
  refine ⟨h.1, fun i j x y hij hx hy => ?_⟩
  have hj : j < all.length := (List.getElem?_eq_some_iff.1 hy).1
  have h2 := List.all_eq_true.1 h.2 j (by simpa using hj)
  have h3 := List.all_eq_true.1 h2 i (by simpa using hij)
  rw [hx, hy] at h3
  simp only [Bool.or_eq_true, Bool.not_eq_true', Bool.or_eq_false_iff] at h3
  exact h3

/-- what has been listed is closed under what it waits for -/
def Closed (all : List Oper) (listed : Array Bool) : Prop := ∀ j o, all[j]? = some o → listed.getD j false = true → ∀ e ∈ anyEdges o, listed.getD e false = true
theorem Closed.bit {listed : Array Bool} (ht : tblOk all tbl = true) (h : Closed all listed) : ∀ (j i : Nat) (o : Oper), all[j]? = some o → i < all.length → (∀ e ∈ anyEdges o, listed.getD e false = true) → hasBit tbl j i = true → listed.getD i false = true := by
  intro j
  induction j using Nat.strongRecOn with
  | _ j ih =>
    intro i o ho hi hd hb
    obtain ⟨h1, h2⟩ := tbl_spec ht ho
    obtain ⟨e, he, h3⟩ := h2 i hi hb
    rcases h3 with rfl | h3
    · exact hd e he
    · have hej := h1 e he
      have hel : e < all.length := by have := (List.getElem?_eq_some_iff.1 ho).1; omega
      exact ih e hej i all[e] (List.getElem?_eq_getElem hel) hi (h e all[e] (List.getElem?_eq_getElem hel) (hd e he)) h3

theorem mem_ready' {listed : Array Bool} {i : Nat} (h : i ∈ Region.ready .any all.toArray listed) : ∃ o, all[i]? = some o ∧ listed.getD i true = false ∧ ∀ e ∈ anyEdges o, listed.getD e false = true := by
  unfold Region.ready at h
  rw [List.mem_filter] at h
  obtain ⟨h1, h2⟩ := h
  have hi : i < all.length := by simpa using h1
  simp only [Bool.and_eq_true, Bool.not_eq_true'] at h2
  obtain ⟨h3, h4⟩ := h2
  have ho : all[i]? = some all[i] := List.getElem?_eq_getElem hi
  have ho' : all.toArray[i]? = some all[i] := by simp
  rw [ho'] at h4
  refine ⟨all[i], ho, h3, fun e he => ?_⟩
  simp only [anyEdges, List.mem_map, List.mem_filter] at he
  obtain ⟨ed, ⟨hed, hb⟩, rfl⟩ := he
  simp only [Option.map_some, Option.getD_some] at h4
  have := (Array.all_eq_true_iff_forall_mem.1 h4) ed (by simpa using hed)
  simpa [hb] using this
theorem ready_of {listed : Array Bool} {i : Nat} {o : Oper} (ho : all[i]? = some o) (h1 : listed.getD i true = false) (h2 : ∀ e ∈ anyEdges o, listed.getD e false = true) : i ∈ Region.ready .any all.toArray listed := by
  unfold Region.ready
  rw [List.mem_filter]
  have hi : i < all.length := (List.getElem?_eq_some_iff.1 ho).1
  refine ⟨by simpa using hi, ?_⟩
  have ho' : all.toArray[i]? = some o := by simpa using ho
  rw [ho']
  simp only [h1, Bool.not_false, Bool.true_and, Option.map_some, Option.getD_some]
  rw [Array.all_eq_true_iff_forall_mem]
  intro ed hed
  by_cases hb : Region.binds .any ed = true
  · have := h2 ed.on (by simp only [anyEdges, List.mem_map, List.mem_filter]; exact ⟨ed, ⟨by simpa using hed, hb⟩, rfl⟩)
    simp [this]
  · simp at hb; simp [hb]

theorem clash_dst {x y : Oper} {d : Nat} (h : clash all x y = false) (hd : x.dst = some d) : d ∉ namesOf all y ∧ y.dst ≠ some d := by
  unfold clash at h
  rw [hd] at h
  simp only [Bool.or_eq_false_iff] at h
  obtain ⟨⟨h1, h2⟩, _⟩ := h
  refine ⟨fun hm => ?_, fun e => ?_⟩
  · rw [List.contains_iff_mem.2 hm] at h1; cases h1
  · rw [e] at h2; simp at h2
theorem clash_dst' {x y : Oper} {d : Nat} (h : clash all x y = false) (hd : y.dst = some d) : d ∉ namesOf all x ∧ x.dst ≠ some d := by
  unfold clash at h
  rw [hd] at h
  simp only [Bool.or_eq_false_iff] at h
  obtain ⟨h1, h3⟩ := h
  refine ⟨fun hm => ?_, fun e => ?_⟩
  · rw [List.contains_iff_mem.2 hm] at h3; cases h3
  · rw [e] at h1; simp at h1

/-- every order -/
theorem draw_sound (hE : EnvOK P E) {fr0 frF : Fr} (hD : DT P E n all tbl HS top 0 all fr0 frF) (htop : top = cnt P all all.length) (hst : statOk P all tbl = true) {ρ0 : Env} {Q : Exit → Act → World → Prop}
    (hQ : ∀ ρ' a' w', ρ0.le ρ' → SR N w0 n ρ' frF (HS top) a' w' → Q .normal a' w') {a0 : Act} {w1 : World} (h0 : SR N w0 n ρ0 fr0 (HS 0) a0 w1) :
    wpAny P .any all.toArray Q all.length (Array.replicate all.length false) a0 w1 := by
  obtain ⟨ht, hs⟩ := stat_spec hst
  obtain ⟨Fs, fs, run, v, e1, e2, hstep⟩ := hD.data
  simp only [Nat.zero_add] at e1 e2 hstep
  -- the text's frames
  have hF : ∀ k, k ≤ all.length → ∀ t, fget (Fs k) t = G all run v fr0 (fun _ => true) k t := by
    intro k
    induction k with
    | zero => intro _ t; rw [e1]; rfl
    | succ k ih =>
      intro hk t
      have hlt : k < all.length := by omega
      have := (hstep k all[k] (List.getElem?_eq_getElem hlt)).2 t
      rw [this]
      simp only [G, List.getElem?_eq_getElem hlt, Option.bind_some, true_and]
      rw [ih (by omega) t]
  have main : ∀ (fuel : Nat) (listed : Array Bool) (a : Act) (w : World) (ρ : Env), listed.size = all.length → Closed all listed → fuel + num all.length (fun j => listed.getD j false) = all.length → a.tmps.size = n → a.defers = [] → ρ0.le ρ →
      HR N w0 ρ (HS (num all.length fun j => effAt P all j && listed.getD j false)) w → (∀ t u, G all run v fr0 (fun j => listed.getD j false) all.length t = some u → ∃ c, a.tmps[t]? = some c ∧ Rel ρ u c) →
      wpAny P .any all.toArray Q fuel listed a w := by
    intro fuel
    induction fuel with
    | zero =>
      intro listed a w ρ hsz hcl hnum hn hdf hle hh hg
      have hall := num_all (len := all.length) (p := fun j => listed.getD j false) (by omega)
      have hready : Region.ready .any all.toArray listed = [] := by
        rw [List.eq_nil_iff_forall_not_mem]
        intro i hi
        obtain ⟨o, ho, h1, _⟩ := mem_ready' hi
        have hil := (List.getElem?_eq_some_iff.1 ho).1
        have := hall i hil
        simp only [Array.getD_eq_getD_getElem?] at this h1
        have hlt : i < listed.size := by omega
        simp [hlt] at this h1
        rw [this] at h1; cases h1
      have fin : Q .normal a w := by
        refine hQ ρ a w hle ⟨fun t u hu => ?_, hn, hdf, ?_⟩
        · refine hg t u ?_
          rw [G_same (S' := fun _ => true) all.length (fun j hj _ => hall j hj), ← hF all.length (Nat.le_refl _), e2]; exact hu
        · have : (num all.length fun j => effAt P all j && listed.getD j false) = top := by
            rw [htop]; unfold cnt
            exact num_congr (q := effAt P all) fun j hj => by rw [hall j hj]; simp
          rw [← this]; exact hh
      exact ⟨hready, fin⟩
    | succ fuel ih =>
      intro listed a w ρ hsz hcl hnum hn hdf hle hh hg
      refine ⟨fun hready => ?_, fun i hi => ?_⟩
      · -- nothing is ready: all is listed: but something is left
        exfalso
        have hall : ∀ j, j < all.length → listed.getD j false = true := by
          intro j
          induction j using Nat.strongRecOn with
          | _ j ihj =>
            intro hj
            rcases hlj : listed.getD j false with _ | _
            · exfalso
              have hor : all[j]? = some all[j] := List.getElem?_eq_getElem hj
              have hlt : j < listed.size := by omega
              have h1 : listed.getD j true = false := by simp [Array.getD_eq_getD_getElem?, hlt] at hlj ⊢; exact hlj
              have := ready_of hor h1 fun e he => ihj e ((tbl_spec ht hor).1 e he) (by have := (tbl_spec ht hor).1 e he; omega)
              rw [hready] at this; cases this
            · rfl
        have : num all.length (fun j => listed.getD j false) = num all.length (fun _ => true) := num_congr fun j hj => hall j hj
        have h3 : num all.length (fun _ => true) = all.length := by unfold num; rw [List.filter_eq_self.2 (fun _ _ => rfl), List.length_range]
        omega
      · obtain ⟨o, ho, hnl, hdeps⟩ := mem_ready' hi
        have hil := (List.getElem?_eq_some_iff.1 ho).1
        have hils : i < listed.size := by omega
        have hnl' : listed.getD i false = false := by simp [Array.getD_eq_getD_getElem?, hils] at hnl ⊢; exact hnl
        obtain ⟨st, hnext⟩ := hstep i o ho
        -- what stands behind and ahead
        have back : ∀ j, j < all.length → hasBit tbl i j = true → listed.getD j false = true := fun j hj hb => hcl.bit ht i j o ho hj hdeps hb
        have ahead : ∀ j, j < all.length → hasBit tbl j i = true → listed.getD j false = false := by
          intro j hj hb
          rcases hlj : listed.getD j false with _ | _
          · rfl
          · have := hcl.bit ht j i all[j] (List.getElem?_eq_getElem hj) hil (hcl j all[j] (List.getElem?_eq_getElem hj) hlj) hb
            rw [this] at hnl'; cases hnl'
        -- slots that the operation names read as in the text
        have slot : ∀ t, t ∈ namesOf all o → G all run v fr0 (fun j => listed.getD j false) all.length t = fget (Fs i) t := by
          intro t htn
          rw [hF i (by omega), show all.length = i + (all.length - i) by omega, G_later i (all.length - i), G_same (S' := fun _ => true) i]
          · intro j hj hd
            have hjl : j < all.length := by omega
            have hdj : all[j].dst = some t := by simpa [List.getElem?_eq_getElem hjl] using hd
            rcases hs j i all[j] o hj (List.getElem?_eq_getElem hjl) ho with hb | ⟨hc, _⟩
            · exact back j hjl hb
            · exact absurd htn (clash_dst hc hdj).1
          · intro j hij hj hd
            by_cases hji : j = i
            · subst hji; exact hnl'
            have hjl : j < all.length := by omega
            have hdj : all[j].dst = some t := by simpa [List.getElem?_eq_getElem hjl] using hd
            rcases hs i j o all[j] (by omega) ho (List.getElem?_eq_getElem hjl) with hb | ⟨hc, _⟩
            · exact ahead j hjl hb
            · exact absurd htn (clash_dst' hc hdj).1
        -- the slot that it writes is written by none that is listed behind it
        have later : ∀ d, o.dst = some d → ∀ j, i < j → j < all.length → (all[j]?).bind (·.dst) = some d → listed.getD j false = false := by
          intro d hd j hij hjl hdj
          have hdj' : all[j].dst = some d := by simpa [List.getElem?_eq_getElem hjl] using hdj
          rcases hs i j o all[j] hij ho (List.getElem?_eq_getElem hjl) with hb | ⟨hc, _⟩
          · exact ahead j hjl hb
          · exact absurd hdj' (clash_dst hc hd).2
        have hset : ∀ j, (listed.setIfInBounds i true).getD j false = if j = i then true else listed.getD j false := by
          intro j
          simp only [Array.getD_eq_getD_getElem?, Array.getElem?_setIfInBounds]
          by_cases e : j = i
          · subst e; simp [hils]
          · rw [if_neg (fun h => e h.symm), if_neg e]
        have hcl' : Closed all (listed.setIfInBounds i true) := by
          intro j oj hoj hlj e he
          rw [hset] at hlj ⊢
          split
          · rfl
          · split at hlj
            · rename_i _ hji; subst hji
              rw [ho] at hoj; cases hoj
              exact hdeps e he
            · exact hcl j oj hoj hlj e he
        have hnum' : fuel + num all.length (fun j => (listed.setIfInBounds i true).getD j false) = all.length := by
          rw [num_set (p := fun j => listed.getD j false) hil hnl' (by rw [hset]; simp) (fun j hj => by rw [hset, if_neg hj])]
          omega
        -- the heap's place
        have hplace : effO P o.op = true → (num all.length fun j => effAt P all j && listed.getD j false) = cnt P all i := by
          intro he
          have heff : effAt P all i = true := by simp [effAt, ho, he]
          have h1 : cnt P all i = num i (effAt P all) := rfl
          rw [h1, ← num_lt (len := all.length) (m := i) (by omega)]
          refine num_congr fun j hj => ?_
          rcases hej : effAt P all j with _ | _
          · rfl
          · simp only [Bool.true_and]
            have hoj : all[j]? = some all[j] := List.getElem?_eq_getElem hj
            have hej' : effO P all[j].op = true := by simpa [effAt, hoj] using hej
            rcases Nat.lt_trichotomy j i with h | h | h
            · simp only [h, decide_true]
              rcases hs j i all[j] o h hoj ho with hb | ⟨_, hc⟩
              · exact back j hj hb
              · rw [hej', he] at hc; cases hc
            · subst h; rw [hnl']; simp
            · have : decide (j < i) = false := by simp; omega
              rw [this]
              rcases hs i j o all[j] h ho hoj with hb | ⟨_, hc⟩
              · exact ahead j hj hb
              · rw [hej', he] at hc; cases hc
        have hplace1 : effO P o.op = true → (num all.length fun j => effAt P all j && (listed.setIfInBounds i true).getD j false) = cnt P all i + 1 := by
          intro he
          rw [← hplace he]
          exact num_set hil (by rw [hnl']; simp) (by rw [hset]; simp [effAt, ho, he]) (fun j hj => by rw [hset, if_neg hj])
        have hplace0 : effO P o.op = false → (num all.length fun j => effAt P all j && (listed.setIfInBounds i true).getD j false) = (num all.length fun j => effAt P all j && listed.getD j false) := by
          intro he
          refine num_congr fun j hj => ?_
          rw [hset]
          by_cases e : j = i
          · subst e; simp [effAt, ho, he]
          · rw [if_neg e]
        -- what the frame holds behind it
        have frame : ∀ (ρ' : Env) (a' : Act), ρ.le ρ' → (∀ t, o.dst ≠ some t → a'.tmps[t]? = a.tmps[t]?) → (∀ d, o.dst = some d → run i = true → ∃ c, a'.tmps[d]? = some c ∧ Rel ρ' (v i) c) → (∀ d, o.dst = some d → run i = false → a'.tmps[d]? = some undef) →
            ∀ t u, G all run v fr0 (fun j => (listed.setIfInBounds i true).getD j false) all.length t = some u → ∃ c, a'.tmps[t]? = some c ∧ Rel ρ' u c := by
          intro ρ' a' hl ho1 hd1 hd0 t u hu
          by_cases hdt : o.dst = some t
          · rw [show all.length = (i + 1) + (all.length - (i + 1)) by omega, G_later (i + 1) (all.length - (i + 1)) (fun j hj hjl hdj => by rw [hset, if_neg (by omega)]; exact later t hdt j (by omega) (by omega) hdj)] at hu
            simp only [G] at hu
            rw [if_pos ⟨by rw [hset]; simp, by simp [ho, hdt]⟩] at hu
            split at hu
            · rename_i hr
              obtain rfl : v i = u := by simpa using hu
              exact hd1 t hdt hr
            · rename_i hr
              obtain rfl : V.tup [] = u := by simpa using hu
              exact ⟨undef, hd0 t hdt (by simpa using hr), .tup _ _ .nil⟩
          · rw [G_same (S' := fun j => listed.getD j false) all.length (fun j hj hdj => by
              rw [hset]
              by_cases e : j = i
              · subst e; exact absurd (by simpa [ho] using hdj) hdt
              · rw [if_neg e])] at hu
            obtain ⟨c, hc, hr⟩ := hg t u hu
            exact ⟨c, by rw [ho1 t hdt]; exact hc, hr.mono hl⟩
        -- is it wanted?
        have hwanted : Region.wanted o (yielded all.toArray a.tmps) = run i := by
          rcases st.guard with ⟨g1, g2⟩ | ⟨j, want, d, x, g1, g2, g3, g4⟩ | ⟨j, want, d, g1, g2, g3, g4⟩
          · rw [g2]; exact wanted_none g1
          · have hdn : d ∈ namesOf all o := by simp [namesOf, g1, g2]
            have := slot d hdn
            rw [g3] at this
            obtain ⟨c, hc, hr⟩ := hg d _ this
            cases hr
            have hy := yielded_of (ops := all.toArray) (j := j) (by simpa using g2) hc
            simp [Region.wanted, g1, hy, g4]
          · have hdn : d ∈ namesOf all o := by simp [namesOf, g1, g2]
            have := slot d hdn
            rw [g3] at this
            obtain ⟨c, hc, hr⟩ := hg d _ this
            cases hr with
            | tup _ xs hrs =>
            cases hrs
            have hy : yielded all.toArray a.tmps j = none := yielded_none (by simpa using g2) hc
            simp [Region.wanted, g1, hy, g4]
        have ho' : all.toArray[i]? = some o := by simpa using ho
        unfold wpOp
        rw [ho']
        simp only [hwanted]
        cases hrun : run i with
        | false =>
          simp only [Bool.false_eq_true, if_false]
          have hput : ∀ t, o.dst ≠ some t → (a.put o.dst undef).tmps[t]? = a.tmps[t]? := by
            intro t htd
            cases hd : o.dst with
            | none => rfl
            | some d =>
              simp only [Act.put, Array.getElem?_setIfInBounds]
              rw [if_neg (fun e => htd (by rw [hd, e]))]
          refine ih _ _ w ρ (by simpa using hsz) hcl' hnum' (by cases o.dst <;> simpa [Act.put] using hn) (by cases o.dst <;> simpa [Act.put] using hdf) hle ?_ (frame ρ _ ρ.le_refl hput (fun d _ hr => by rw [hrun] at hr; cases hr) (fun d hd _ => by
            have hdn : d < n := by have := st.dst; rw [hd] at this; simpa [dstOk] using this
            rw [hd]; simp [Act.put, hn, hdn]))
          cases he : effO P o.op with
          | true =>
            rw [hplace1 he, st.skip hrun he, ← hplace he]; exact hh
          | false => rw [hplace0 he]; exact hh
        | true =>
          simp only [if_true]
          -- the operation, at the heap that stands now
          have hev : ∃ H', evOp P E (evalO (fs i)) (HS (num all.length fun j => effAt P all j && listed.getD j false)) o.op o.type ret2 = some (v i, H') ∧ H' = HS (num all.length fun j => effAt P all j && (listed.setIfInBounds i true).getD j false) := by
            cases he : effO P o.op with
            | true => exact ⟨_, by rw [hplace he]; exact st.eff hrun he, by rw [hplace1 he]⟩
            | false =>
              refine ⟨_, st.read hrun he _ ?_ ?_ ?_, by rw [hplace0 he]⟩
              · refine num_le (p := fun j => effAt P all j && hasBit tbl i j) fun j hj hp => ?_
                simp only [Bool.and_eq_true] at hp ⊢
                exact ⟨hp.1, back j hj hp.2⟩
              · refine num_le (q := fun j => effAt P all j && !hasBit tbl j i) fun j hj hp => ?_
                simp only [Bool.and_eq_true, Bool.not_eq_true'] at hp ⊢
                refine ⟨hp.1, ?_⟩
                rcases hb : hasBit tbl j i with _ | _
                · rfl
                · have := ahead j hj hb; rw [this] at hp; cases hp.2
              · rw [htop]
                exact num_le (q := effAt P all) fun j hj hp => by simp only [Bool.and_eq_true] at hp; exact hp.1
          obtain ⟨H', hev, hH'⟩ := hev
          have hops : ∀ x ∈ o.op.operands.toList, ∀ u, evalO (fs i) x = some u → Rel ρ u (a.eval x) := by
            intro x hx u hu
            cases x with
            | tmp t =>
              have htn : t ∈ namesOf all o := by
                simp only [namesOf, tmpsOf, List.mem_append, List.mem_filterMap]
                exact .inl ⟨.tmp t, hx, rfl⟩
              have h1 : fget (fs i) t = some u := hu
              rw [st.same t, ← slot t htn] at h1
              obtain ⟨c, hc, hr⟩ := hg t u h1
              simpa [Act.eval, Array.getD_eq_getD_getElem?, hc] using hr
            | const c => exact ofValue_sound hu
            | global g => cases hu
            | func f =>
              simp [evalO] at hu; subst hu
              exact .fn (.func f) [] [] [] [] .nil .nil
          have hcon : evOp P E (fun x => open Classical in if x ∈ o.op.operands.toList then evalO (fs i) x else none) (HS (num all.length fun j => effAt P all j && listed.getD j false)) o.op o.type ret2 = some (v i, H') := by
            rw [← hev]; exact evOp_congr fun x hx => by simp [hx]
          have hdoes := evOp_sound hE hh (e := a.eval) (val := fun x => open Classical in if x ∈ o.op.operands.toList then evalO (fs i) x else none) (fun x u hu => by
            by_cases hx : x ∈ o.op.operands.toList
            · simp only [hx, if_true] at hu; exact hops x hx u hu
            · simp only [hx, if_false] at hu; cases hu) o hcon
          refine .inl (hdoes.wp fun c w' hp => ?_)
          obtain ⟨u, H2, ρ', h1, h2, h3, h4⟩ := hp
          obtain ⟨rfl, rfl⟩ : u = v i ∧ H2 = H' := by simpa [ret2] using h4
          subst hH'
          have hput : ∀ t, o.dst ≠ some t → (a.put o.dst c).tmps[t]? = a.tmps[t]? := by
            intro t htd
            cases hd : o.dst with
            | none => rfl
            | some d =>
              simp only [Act.put, Array.getElem?_setIfInBounds]
              rw [if_neg (fun e => htd (by rw [hd, e]))]
          refine ih _ _ w' ρ' (by simpa using hsz) hcl' hnum' (by cases o.dst <;> simpa [Act.put] using hn) (by cases o.dst <;> simpa [Act.put] using hdf) (hle.trans h1) h3 (frame ρ' _ h1 hput (fun d hd _ => ⟨c, ?_, h2⟩) (fun d _ hr => by rw [hrun] at hr; cases hr))
          have hdn : d < n := by have := st.dst; rw [hd] at this; simpa [dstOk] using this
          rw [hd]
          simp [Act.put, hn, hdn]
  refine main all.length _ a0 w1 ρ0 (by simp) ?_ ?_ h0.size h0.defers ρ0.le_refl ?_ ?_
  · intro j o ho hl
    simp only [Array.getD_eq_getD_getElem?, Array.getElem?_replicate] at hl
    split at hl <;> simp at hl
  · have : num all.length (fun j => (Array.replicate all.length false).getD j false) = num all.length (fun _ => false) := num_congr fun j hj => by simp [Array.getD_eq_getD_getElem?, hj]
    rw [this]
    have h0' : num all.length (fun _ => false) = 0 := by unfold num; simp
    omega
  · have : (num all.length fun j => effAt P all j && (Array.replicate all.length false).getD j false) = num all.length (fun _ => false) := num_congr fun j hj => by simp [Array.getD_eq_getD_getElem?, hj]
    have h0' : num all.length (fun _ => false) = 0 := by unfold num; simp
    rw [this, h0']; exact h0.hr
  · intro t u hu
    rw [show all.length = 0 + all.length by omega, G_later 0 all.length (fun j _ hj _ => by simp [Array.getD_eq_getD_getElem?, show j < all.length by omega])] at hu
    exact h0.fr t u hu

end
end Go.Proofs.Ytnlfkllnmobppaa.AM

/- A region whose order is drawn, in which variables are made and functions called in no fixed order: the machine makes the variables ahead. -/
namespace Go.Proofs.Ytnlfkllnmobppaa.AM
open Go Go.RowKit
set_option linter.unusedVariables false
set_option linter.unusedSimpArgs false

theorem flat1_rel {ρ ρ' : Env} {v : V} {x : Value} (h : v.flat1 = true) (hr : Rel ρ v x) : Rel ρ' v x := by
  cases hr
  case fn f a b xs ys r1 r2 =>
    cases f <;> first | (simp [V.flat1] at h; done) | skip
    cases a <;> cases b <;> first | (simp [V.flat1] at h; done) | skip
    cases r1
    cases r2
    exact .fn _ _ _ _ _ .nil .nil
  all_goals first | (simp [V.flat1] at h; done) | constructor
theorem flats_rel {ρ ρ' : Env} : ∀ {vs : List V} {xs : List Value}, vs.all V.flat1 = true → Rels ρ vs xs → Rels ρ' vs xs := by
  intro vs
  induction vs with
  | nil => intro xs _ h; cases h; exact .nil
  | cons v vs ih =>
    intro xs h hr
    simp only [List.all_cons, Bool.and_eq_true] at h
    cases hr with
    | cons _ x _ xs r1 r2 => exact .cons _ _ _ _ (flat1_rel h.1 r1) (ih h.2 r2)
theorem flat_rel {ρ ρ' : Env} {v : V} {x : Value} (h : v.flat = true) (hr : Rel ρ v x) : Rel ρ' v x := by
  unfold V.flat at h
  split at h
  · cases hr with | agg _ xs r => exact .agg _ _ (flats_rel h r)
  · cases hr with | tup _ xs r => exact .tup _ _ (flats_rel h r)
  · exact flat1_rel h hr

def noHeap : Heap := ⟨0, .nil⟩
def noEnv : Env := fun _ => none
theorem HR.void (w : World) (hg : GOk w.heap.size w) : HR w.heap.size w noEnv noHeap w :=
  ⟨Below.refl _ _, Nat.le_refl _, hg, fun _ _ _ h => h.elim, fun _ _ => rfl, fun id o h => by simp [noHeap, Heap.get, Tr.get] at h, fun id b vs e h => by simp [noHeap, Heap.get, Tr.get] at h, fun i j bi bj oi oj _ h => by simp [noHeap, Heap.get, Tr.get] at h, Nat.le_refl _, fun _ h => h.elim⟩

/-- what stands goes on standing where nothing that was there has turned -/
def Goes (w w' : World) : Prop := Below w.heap.size w w' ∧ w.drawn ≤ w'.drawn
theorem Goes.refl (w : World) : Goes w w := ⟨Below.refl _ _, Nat.le_refl _⟩
theorem HR.over {N : Nat} {w0 : Ref} {w w' : World} {ρ : Env} {H : Heap} (h : HR N w0 ρ H w) (hg : Goes w w') : HR N w0 ρ H w' := by
  obtain ⟨hb, hd⟩ := hg
  refine ⟨h.below.trans (hb.mono h.nle), Nat.le_trans h.nle hb.size, h.glob, h.resv, h.fresh, fun id o ho => (h.obj id o ho).imp (fun x => x) fun ⟨b, h1, h2⟩ => ⟨b, h1, h2.same (hb.block _ h2.lt)⟩, h.roN, h.apart, Nat.le_trans h.drew hd, fun k hk => ?_⟩
  obtain ⟨a1, a2, a3⟩ := h.kept k hk
  exact ⟨Nat.lt_of_lt_of_le a1 hb.size, (hb.block _ a1).trans a2, a3⟩


/-- names that stand for blocks to come: those of ids that S does not hold -/
def Ref.plus (r : Ref) (ids : Nat → Option (Nat × List V × TypeId)) (S : Nat → Bool) : Ref := ⟨r.w, fun id vs e => (∃ k, ids k = some (id, vs, e) ∧ S k = false) ∨ r.resv id vs e, r.keep⟩

section
variable {N : Nat} {w0 : Ref} {w : World} {ρ : Env} {H : Heap}
theorem HR.ref (h : HR N w0 ρ H w) {r : Ref} (hw : r.w = w0.w) (hr : ∀ id vs e, r.resv id vs e ↔ w0.resv id vs e) (hk : r.keep = w0.keep := by rfl) : HR N r ρ H w :=
  ⟨hw ▸ h.below, h.nle, hw ▸ h.glob, fun id vs e hv => h.resv id vs e ((hr id vs e).1 hv), h.fresh, fun id o ho => (h.obj id o ho).imp (fun ⟨vs, e, hv⟩ => ⟨vs, e, (hr id vs e).2 hv⟩) (fun x => x), h.roN, h.apart, hw ▸ h.drew, fun k hk' => by rw [hk] at hk'; rw [hw]; exact h.kept k hk'⟩
/-- a name for a block to come -/
theorem HR.reserve (h : HR N w0 ρ H w) (vs : List V) (e : TypeId) : HR N ⟨w0.w, fun id vs' e' => (id = H.next ∧ vs' = vs ∧ e' = e) ∨ w0.resv id vs' e', w0.keep⟩ ρ (H.new (.cells vs e false)) w := by
  refine ⟨h.below, h.nle, h.glob, fun id vs' e' hv => ?_, fun id hid => h.fresh id (by simp only [Heap.next_new] at hid; omega), fun id o ho => ?_, fun id b vs' e' hg hb => ?_, fun i j bi bj oi oj hij hi hj hoi hoj hbi hbj => ?_, h.drew, fun k hk => ?_⟩
  · rcases hv with ⟨rfl, rfl, rfl⟩ | hv
    · refine ⟨by simp, h.fresh _ (Nat.le_refl _), fun o ho => ?_⟩
      rw [Heap.get_new, if_pos rfl] at ho; exact (Option.some.inj ho).symm
    · obtain ⟨a, c, d⟩ := h.resv id vs' e' hv
      refine ⟨by simp only [Heap.next_new]; omega, c, fun o ho => ?_⟩
      rw [Heap.get_new, if_neg (by omega)] at ho; exact d o ho
  · rw [Heap.get_new] at ho
    by_cases hid : id = H.next
    · exact .inl ⟨vs, e, .inl ⟨hid, rfl, rfl⟩⟩
    · rw [if_neg hid] at ho
      exact (h.obj id o ho).imp (fun ⟨vs, e, hv⟩ => ⟨vs, e, .inr hv⟩) (fun x => x)
  · have := h.name_lt hb
    rw [Heap.get_new, if_neg (by omega)] at hg; exact h.roN id b vs' e' hg hb
  · have h1 := h.name_lt hbi
    have h2 := h.name_lt hbj
    rw [Heap.get_new, if_neg (by omega)] at hi hj
    exact h.apart i j bi bj oi oj hij hi hj hoi hoj hbi hbj
  · obtain ⟨a1, a2, a3⟩ := h.kept k hk
    refine ⟨a1, a2, fun j oj bj hj hoj hbj => ?_⟩
    have := h.name_lt hbj
    rw [Heap.get_new, if_neg (by omega)] at hj
    exact a3 j oj bj hj hoj hbj
/-- the block has come -/
theorem HR.arrive (h : HR N w0 ρ H w) {r : Ref} {id : Nat} {vs : List V} {e : TypeId} (hv : w0.resv id vs e) {b : Base} (hb : ORel N ρ w b (.cells vs e false)) (hnew : ∀ j o bj, H.get j = some o → ρ j = some bj → bj.blk ≠ b.blk)
    (hw : r.w = w0.w) (h1 : ∀ j vs e, r.resv j vs e → w0.resv j vs e ∧ j ≠ id) (h2 : ∀ j vs e, w0.resv j vs e → j = id ∨ r.resv j vs e) (hkk : r.keep = w0.keep) (hkb : ∀ k, w0.keep k → b.blk ≠ k) :
    HR N r (fun j => if j = id then some b else ρ j) H w ∧ ρ.le (fun j => if j = id then some b else ρ j) := by
  obtain ⟨a, c, d⟩ := h.resv id vs e hv
  have hle : ρ.le (fun j => if j = id then some b else ρ j) := by
    intro j b' hj
    show (if j = id then some b else ρ j) = some b'
    rw [if_neg (by rintro rfl; rw [c] at hj; cases hj)]; exact hj
  refine ⟨⟨hw ▸ h.below, h.nle, hw ▸ h.glob, fun j vs' e' hj => ?_, fun j hj => ?_, fun j o ho => ?_, fun j b' vs' e' hg hb' => ?_, fun i j bi bj oi oj hij hi hj hoi hoj hbi hbj => ?_, hw ▸ h.drew, fun k hk => ?_⟩, hle⟩
  · obtain ⟨k1, k2⟩ := h1 j vs' e' hj
    obtain ⟨a', c', d'⟩ := h.resv j vs' e' k1
    exact ⟨a', by show (if j = id then some b else ρ j) = none; rw [if_neg k2]; exact c', d'⟩
  · show (if j = id then some b else ρ j) = none
    rw [if_neg (by omega)]; exact h.fresh j hj
  · by_cases hji : j = id
    · subst hji
      have := d o ho
      subst this
      exact .inr ⟨b, by simp, hb.mono hle⟩
    · rcases h.obj j o ho with ⟨vs', e', hv'⟩ | ⟨b', hb', hr⟩
      · rcases h2 j vs' e' hv' with rfl | h3
        · exact absurd rfl hji
        · exact .inl ⟨vs', e', h3⟩
      · exact .inr ⟨b', hle _ _ hb', hr.mono hle⟩
  · by_cases hji : j = id
    · subst hji
      have := d _ hg
      cases this
    · exact h.roN j b' vs' e' hg (by simpa [hji] using hb')
  · by_cases hi1 : i = id
    · have hj1 : j ≠ id := fun e => hij (hi1.trans e.symm)
      have e1 : some b = some bi := by simpa [hi1] using hbi
      cases e1
      exact fun e => hnew j oj bj hj (by simpa [hj1] using hbj) e.symm
    · have hbi' : ρ i = some bi := by simpa [hi1] using hbi
      by_cases hj1 : j = id
      · have e1 : some b = some bj := by simpa [hj1] using hbj
        cases e1
        exact hnew i oi bi hi hbi'
      · exact h.apart i j bi bj oi oj hij hi hj hoi hoj hbi' (by simpa [hj1] using hbj)
  · rw [hkk] at hk
    obtain ⟨a1, a2, a3⟩ := h.kept k hk
    refine ⟨a1, by rw [hw]; exact a2, fun j oj bj hj hoj hbj => ?_⟩
    by_cases hji : j = id
    · have e1 : some b = some bj := by simpa [hji] using hbj
      cases e1
      exact hkb k hk
    · exact a3 j oj bj hj hoj (by simpa [hji] using hbj)
end

theorem earlyOp_dst (n j : Nat) (o : Oper) : (earlyOp n j o).dst = o.dst := by unfold earlyOp; split <;> rfl
theorem earlyOp_guard (n j : Nat) (o : Oper) : (earlyOp n j o).guard = o.guard := by unfold earlyOp; split <;> rfl
theorem earlyOp_edges (n j : Nat) (o : Oper) : anyEdges (earlyOp n j o) = anyEdges o := by unfold earlyOp; split <;> rfl
theorem earlyOp_type (n j : Nat) (o : Oper) : (earlyOp n j o).type = o.type := by unfold earlyOp; split <;> rfl
theorem earlyOps_length (n : Nat) : ∀ (ops : List Oper) (j : Nat), (earlyOps n ops j).length = ops.length := by
  intro ops
  induction ops with
  | nil => intro j; rfl
  | cons o ops ih => intro j; simp [earlyOps, ih]
theorem earlyOps_get (n : Nat) : ∀ (ops : List Oper) (j k : Nat), (earlyOps n ops j)[k]? = (ops[k]?).map (earlyOp n (j + k)) := by
  intro ops
  induction ops with
  | nil => intro j k; simp [earlyOps]
  | cons o ops ih =>
    intro j k
    cases k with
    | zero => simp [earlyOps]
    | succ k => simp only [earlyOps, List.getElem?_cons_succ, ih]; rw [show j + 1 + k = j + (k + 1) by omega]
theorem earlyOp_cases (n j : Nat) (o : Oper) : (∃ e, o.op = .alloc e ∧ o.guard = none ∧ (earlyOp n j o).op = .move (.tmp (n + j))) ∨ (earlyOp n j o = o ∧ (o.guard ≠ none ∨ ∀ e, o.op ≠ .alloc e)) := by
  unfold earlyOp
  split
  · rename_i e h1 h2; exact .inl ⟨e, h1, h2, rfl⟩
  · rename_i hno
    refine .inr ⟨rfl, ?_⟩
    by_cases hg : o.guard = none
    · exact .inr fun e he => hno e he hg
    · exact .inl hg
theorem blt_iff {a b : Nat} : Nat.blt a b = true ↔ a < b := by rw [Nat.blt_eq]
theorem fget_fcut (n : Nat) : ∀ (fr : Fr) (t : Nat), fget (fcut n fr) t = if t < n then fget fr t else none := by
  intro fr
  induction fr with
  | nil => intro t; simp [fcut, fget]
  | cons p fr ih =>
    obtain ⟨k, v⟩ := p
    intro t
    unfold fcut
    split
    · rename_i hk
      have hk' : k < n := blt_iff.1 hk
      simp only [fget]
      by_cases e : t = k
      · subst e; simp [hk']
      · rw [if_neg e, ih, if_neg e]
    · rename_i hk
      have hk' : ¬ k < n := fun h => by rw [blt_iff.2 h] at hk; cases hk
      rw [ih]
      by_cases ht : t < n
      · rw [if_pos ht, if_pos ht]
        simp only [fget]
        rw [if_neg (by omega)]
      · rw [if_neg ht, if_neg ht]

theorem newE_trace {P : Program} {n : Nat} {N : Nat} {w : World} {ρ : Env} {R : Type} {r : R} {K : Fr → Heap → Option R} : ∀ (ops : List Oper) (j : Nat) (fr : Fr) (H : Heap) (w0 : Ref), newE P n ops j fr H K = some r → HR N w0 ρ H w →
    ∃ (fr' : Fr) (H' : Heap) (ids : Nat → Option (Nat × List V × TypeId)), K fr' H' = some r ∧ (∀ t, t < n + j → fget fr' t = fget fr t) ∧
      (∀ k o e, ops[k]? = some o → o.op = .alloc e → o.guard = none → ∃ id z, zeroV P e = some z ∧ z.cells.all V.flat1 = true ∧ ids (j + k) = some (id, z.cells, e) ∧ fget fr' (n + (j + k)) = some (.p (some (id, 0)))) ∧
      (∀ k id vs e, ids k = some (id, vs, e) → H.next ≤ id ∧ j ≤ k ∧ ∃ o e, ops[k - j]? = some o ∧ o.op = .alloc e ∧ o.guard = none) ∧
      (∀ k k' x x', ids k = some x → ids k' = some x' → x.1 = x'.1 → k = k') ∧ HR N (w0.plus ids fun _ => false) ρ H' w := by
  intro ops
  induction ops with
  | nil =>
    intro j fr H w0 h hh
    exact ⟨fr, H, fun _ => none, h, fun _ _ => rfl, fun k o e hk => (by simp at hk), fun k id vs e hk => (by cases hk), fun k k' x x' hk => (by cases hk), hh.ref rfl fun id vs e => ⟨fun h => (Or.elim h (fun ⟨k, hk, _⟩ => by cases hk) (fun x => x)), fun h => Or.inr h⟩⟩
  | cons o ops ih =>
    intro j fr H w0 h hh
    have plain : newE P n ops (j + 1) fr H K = some r → (¬ ∃ e, o.op = .alloc e ∧ o.guard = none) → ∃ (fr' : Fr) (H' : Heap) (ids : Nat → Option (Nat × List V × TypeId)), K fr' H' = some r ∧ (∀ t, t < n + j → fget fr' t = fget fr t) ∧
      (∀ k o' e, (o :: ops)[k]? = some o' → o'.op = .alloc e → o'.guard = none → ∃ id z, zeroV P e = some z ∧ z.cells.all V.flat1 = true ∧ ids (j + k) = some (id, z.cells, e) ∧ fget fr' (n + (j + k)) = some (.p (some (id, 0)))) ∧
      (∀ k id vs e, ids k = some (id, vs, e) → H.next ≤ id ∧ j ≤ k ∧ ∃ o' e, (o :: ops)[k - j]? = some o' ∧ o'.op = .alloc e ∧ o'.guard = none) ∧
      (∀ k k' x x', ids k = some x → ids k' = some x' → x.1 = x'.1 → k = k') ∧ HR N (w0.plus ids fun _ => false) ρ H' w := fun h' hno => by
      obtain ⟨fr', H', ids, a1, a2, a3, a4, a5, a6⟩ := ih (j + 1) fr H w0 h' hh
      refine ⟨fr', H', ids, a1, fun t ht => a2 t (by omega), fun k o' e hk he hg => ?_, fun k id vs e hk => ?_, a5, a6⟩
      · cases k with
        | zero =>
          obtain rfl : o = o' := by simpa using hk
          exact absurd ⟨e, he, hg⟩ hno
        | succ k =>
          have := a3 k o' e (by simpa using hk) he hg
          rwa [show j + 1 + k = j + (k + 1) by omega] at this
      · obtain ⟨b1, b2, b3⟩ := a4 k id vs e hk
        exact ⟨b1, by omega, by rw [show k - j = (k - (j + 1)) + 1 by omega, List.getElem?_cons_succ]; exact b3⟩
    unfold newE at h
    split at h
    · rename_i e he hg
      obtain ⟨z, hz, h⟩ := Option.bind_eq_some_iff.1 h
      split at h
      · rename_i hflat
        obtain ⟨fr', H', ids, a1, a2, a3, a4, a5, a6⟩ := ih (j + 1) _ _ _ h (hh.reserve z.cells e)
        have nj : ids j = none := by
          cases hj : ids j with
          | none => rfl
          | some x => obtain ⟨_, b2, _⟩ := a4 j x.1 x.2.1 x.2.2 hj; omega
        refine ⟨fr', H', fun k => if k = j then some (H.next, z.cells, e) else ids k, a1, fun t ht => ?_, fun k o' e' hk he' hg' => ?_, fun k id vs e' hk => ?_, fun k k' x x' hk hk' hx => ?_, a6.ref rfl fun id vs e' => ⟨?_, ?_⟩⟩
        · rw [a2 t (by omega), fget_fset, if_neg (by omega)]
        · cases k with
          | zero =>
            obtain rfl : o = o' := by simpa using hk
            rw [he] at he'
            cases he'
            refine ⟨H.next, z, hz, hflat, by simp, ?_⟩
            rw [Nat.add_zero, a2 _ (by omega), fget_fset, if_pos rfl]
          | succ k =>
            obtain ⟨id, z', b1, b2, b3, b4⟩ := a3 k o' e' (by simpa using hk) he' hg'
            rw [show j + 1 + k = j + (k + 1) by omega] at b3 b4
            exact ⟨id, z', b1, b2, by simp only [show ¬ (j + (k + 1) = j) by omega, if_false]; exact b3, b4⟩
        · by_cases hkj : k = j
          · simp only [hkj, if_true, Option.some.injEq, Prod.mk.injEq] at hk
            exact ⟨by omega, by omega, o, e, by rw [hkj, Nat.sub_self]; rfl, he, hg⟩
          · simp only [hkj, if_false] at hk
            obtain ⟨b1, b2, b3⟩ := a4 k id vs e' hk
            simp only [Heap.next_new] at b1
            exact ⟨by omega, by omega, by rw [show k - j = (k - (j + 1)) + 1 by omega, List.getElem?_cons_succ]; exact b3⟩
        · by_cases hkj : k = j
          · simp only [hkj, if_true, Option.some.injEq] at hk
            by_cases hkj' : k' = j
            · rw [hkj, hkj']
            · simp only [hkj', if_false] at hk'
              obtain ⟨b1, _, _⟩ := a4 k' x'.1 x'.2.1 x'.2.2 hk'
              simp only [Heap.next_new] at b1
              rw [← hx, ← hk] at b1
              simp only at b1
              omega
          · simp only [hkj, if_false] at hk
            by_cases hkj' : k' = j
            · simp only [hkj', if_true, Option.some.injEq] at hk'
              obtain ⟨b1, _, _⟩ := a4 k x.1 x.2.1 x.2.2 hk
              simp only [Heap.next_new] at b1
              rw [hx, ← hk'] at b1
              simp only at b1
              omega
            · simp only [hkj', if_false] at hk'
              exact a5 k k' x x' hk hk' hx
        · rintro (⟨k, hk, _⟩ | hr)
          · by_cases hkj : k = j
            · simp only [hkj, if_true, Option.some.injEq, Prod.mk.injEq] at hk
              exact .inr (.inl ⟨hk.1.symm, hk.2.1.symm, hk.2.2.symm⟩)
            · simp only [hkj, if_false] at hk
              exact .inl ⟨k, hk, rfl⟩
          · exact .inr (.inr hr)
        · rintro (⟨k, hk, _⟩ | ⟨h1, h2, h3⟩ | hr)
          · refine .inl ⟨k, ?_, rfl⟩
            have hkj : k ≠ j := by rintro rfl; rw [nj] at hk; cases hk
            simp only [hkj, if_false]; exact hk
          · exact .inl ⟨j, by simp [h1, h2, h3], rfl⟩
          · exact .inr hr
      · cases h
    · rename_i hno
      exact plain h fun ⟨e, h1, h2⟩ => hno e h1 h2

section
variable {P : Program} {E : FEnv} {n : Nat} {ops : List Oper} {tbl : List Nat} {HS : Nat → Heap} {top : Nat} {N : Nat} {w0 : Ref}
/-- every order -/
theorem draw_soundE (hE : EnvOK P E) {fr1 frF : Fr} {ids : Nat → Option (Nat × List V × TypeId)} (hD : DT P E n (earlyOps n ops 0) tbl HS top 0 (earlyOps n ops 0) fr1 frF) (htop : top = cnt P (earlyOps n ops 0) (earlyOps n ops 0).length) (hst : statOk P (earlyOps n ops 0) tbl = true) (hnm : namesLt n ops = true)
    (hids : ∀ k o e, ops[k]? = some o → o.op = .alloc e → o.guard = none → ∃ id z, zeroV P e = some z ∧ z.cells.all V.flat1 = true ∧ ids k = some (id, z.cells, e) ∧ fget fr1 (n + k) = some (.p (some (id, 0))))
    (hall1 : ∀ k x, ids k = some x → ∃ o e, ops[k]? = some o ∧ o.op = .alloc e ∧ o.guard = none) (hinj : ∀ k k' x x', ids k = some x → ids k' = some x' → x.1 = x'.1 → k = k') (hout : ∀ k id vs e vs' e', ids k = some (id, vs, e) → ¬ w0.resv id vs' e')
    {ρ0 : Env} {Q : Exit → Act → World → Prop}
    (hQ : ∀ ρ' a' w', ρ0.le ρ' → SR N w0 n ρ' (fcut n frF) (HS top) a' w' → Q .normal a' w') {a0 : Act} {w1 : World} (hsz0 : a0.tmps.size = n) (hdf0 : a0.defers = []) (hh0 : HR N (w0.plus ids fun _ => false) ρ0 (HS 0) w1)
    (hfr0 : ∀ t u, t < n → fget fr1 t = some u → ∃ c, a0.tmps[t]? = some c ∧ Rel ρ0 u c) :
    wpAny P .any ops.toArray Q ops.length (Array.replicate ops.length false) a0 w1 := by
  obtain ⟨ht, hs⟩ := stat_spec hst
  obtain ⟨Fs, fs, run, v, e1, e2, hstep⟩ := hD.data
  simp only [Nat.zero_add] at e1 e2 hstep
  have hal : (earlyOps n ops 0).length = ops.length := earlyOps_length n ops 0
  have hget : ∀ k : Nat, (earlyOps n ops 0)[k]? = (ops[k]?).map (earlyOp n k) := fun k => by rw [earlyOps_get]; simp
  generalize hall0 : earlyOps n ops 0 = all at *
  have hdsts : ∀ k : Nat, (all[k]?).bind (·.dst) = (ops[k]?).bind (·.dst) := fun k => by
    rw [hget]; cases ops[k]? with
    | none => rfl
    | some o => exact earlyOp_dst n k o
  have hnames : ∀ (o : Oper), namesOf all o = namesOf ops o := fun o => by
    unfold namesOf
    split
    · rename_i g b hg; rw [hdsts]
    · rfl
  have hlen : ∀ k id vs e, ids k = some (id, vs, e) → k < ops.length := fun k id vs e hk => by
    obtain ⟨o, _, h, _⟩ := hall1 k _ hk
    exact (List.getElem?_eq_some_iff.1 h).1
  have hlow : ∀ (j d : Nat), (all[j]?).bind (·.dst) = some d → d < n := fun j d h => by
    cases hj : all[j]? with
    | none => rw [hj] at h; cases h
    | some o =>
      rw [hj] at h
      have h' : o.dst = some d := h
      have := (hstep j o hj).1.dst
      rw [h'] at this
      simpa [dstOk] using this
  -- the text's frames
  have hF : ∀ k, k ≤ all.length → ∀ t, fget (Fs k) t = G all run v fr1 (fun _ => true) k t := by
    intro k
    induction k with
    | zero => intro _ t; rw [e1]; rfl
    | succ k ih =>
      intro hk t
      have hlt : k < all.length := by omega
      have := (hstep k all[k] (List.getElem?_eq_getElem hlt)).2 t
      rw [this]
      simp only [G, List.getElem?_eq_getElem hlt, Option.bind_some, true_and]
      rw [ih (by omega) t]
  have main : ∀ (fuel : Nat) (listed : Array Bool) (a : Act) (w : World) (ρ : Env), listed.size = all.length → Closed all listed → fuel + num all.length (fun j => listed.getD j false) = all.length → a.tmps.size = n → a.defers = [] → ρ0.le ρ →
      HR N (w0.plus ids fun j => listed.getD j false) ρ (HS (num all.length fun j => effAt P all j && listed.getD j false)) w → (∀ t u, t < n → G all run v fr1 (fun j => listed.getD j false) all.length t = some u → ∃ c, a.tmps[t]? = some c ∧ Rel ρ u c) →
      wpAny P .any ops.toArray Q fuel listed a w := by
    intro fuel
    induction fuel with
    | zero =>
      intro listed a w ρ hsz hcl hnum hn hdf hle hh hg
      have hall := num_all (len := all.length) (p := fun j => listed.getD j false) (by omega)
      have hready : Region.ready .any ops.toArray listed = [] := by
        rw [List.eq_nil_iff_forall_not_mem]
        intro i hi
        obtain ⟨o, ho, h1, _⟩ := mem_ready' hi
        have hil : i < all.length := by rw [hal]; exact (List.getElem?_eq_some_iff.1 ho).1
        have := hall i hil
        simp only [Array.getD_eq_getD_getElem?] at this h1
        have hlt : i < listed.size := by omega
        simp [hlt] at this h1
        rw [this] at h1; cases h1
      have fin : Q .normal a w := by
        refine hQ ρ a w hle ⟨fun t u hu => ?_, hn, hdf, ?_⟩
        · rw [fget_fcut] at hu
          split at hu
          case isFalse => cases hu
          rename_i htn
          refine hg t u htn ?_
          rw [G_same (S' := fun _ => true) all.length (fun j hj _ => hall j hj), ← hF all.length (Nat.le_refl _), e2]; exact hu
        · have : (num all.length fun j => effAt P all j && listed.getD j false) = top := by
            rw [htop]; unfold cnt
            exact num_congr (q := effAt P all) fun j hj => by rw [hall j hj]; simp
          rw [← this]
          exact hh.ref rfl fun id vs e => ⟨.inr, fun h => h.elim (fun ⟨k, hk, hf⟩ => by
            have := hall k (by rw [hal]; exact hlen k id vs e hk)
            simp only at hf
            rw [this] at hf; cases hf) (fun x => x)⟩
      exact ⟨hready, fin⟩
    | succ fuel ih =>
      intro listed a w ρ hsz hcl hnum hn hdf hle hh hg
      refine ⟨fun hready => ?_, fun i hi => ?_⟩
      · -- nothing is ready: all is listed: but something is left
        exfalso
        have hall : ∀ j, j < all.length → listed.getD j false = true := by
          intro j
          induction j using Nat.strongRecOn with
          | _ j ihj =>
            intro hj
            rcases hlj : listed.getD j false with _ | _
            · exfalso
              have hor : all[j]? = some all[j] := List.getElem?_eq_getElem hj
              have hlt : j < listed.size := by omega
              have h1 : listed.getD j true = false := by simp [Array.getD_eq_getD_getElem?, hlt] at hlj ⊢; exact hlj
              have hol : j < ops.length := by omega
              have hoe : anyEdges ops[j] = anyEdges all[j] := by
                have := hget j
                rw [hor, List.getElem?_eq_getElem hol] at this
                simp only [Option.map_some, Option.some.injEq] at this
                rw [this, earlyOp_edges]
              have := ready_of (List.getElem?_eq_getElem hol) h1 fun e he => ihj e ((tbl_spec ht hor).1 e (hoe ▸ he)) (by have := (tbl_spec ht hor).1 e (hoe ▸ he); omega)
              rw [hready] at this; cases this
            · rfl
        have : num all.length (fun j => listed.getD j false) = num all.length (fun _ => true) := num_congr fun j hj => hall j hj
        have h3 : num all.length (fun _ => true) = all.length := by unfold num; rw [List.filter_eq_self.2 (fun _ _ => rfl), List.length_range]
        omega
      · obtain ⟨o1, ho1, hnl, hdeps1⟩ := mem_ready' hi
        have ho0 : all[i]? = some (earlyOp n i o1) := by rw [hget, ho1]; rfl
        have hcase := earlyOp_cases n i o1
        have hdo : o1.dst = (earlyOp n i o1).dst := (earlyOp_dst n i o1).symm
        have hgo : o1.guard = (earlyOp n i o1).guard := (earlyOp_guard n i o1).symm
        have hdeps0 : ∀ e ∈ anyEdges (earlyOp n i o1), listed.getD e false = true := by rw [earlyOp_edges]; exact hdeps1
        obtain ⟨o, hoo⟩ : ∃ o, o = earlyOp n i o1 := ⟨_, rfl⟩
        rw [← hoo] at ho0 hcase hdo hgo hdeps0
        have ho := ho0
        have hdeps := hdeps0
        have hil := (List.getElem?_eq_some_iff.1 ho).1
        have hils : i < listed.size := by omega
        have hnl' : listed.getD i false = false := by simp [Array.getD_eq_getD_getElem?, hils] at hnl ⊢; exact hnl
        obtain ⟨st, hnext⟩ := hstep i o ho
        -- what stands behind and ahead
        have back : ∀ j, j < all.length → hasBit tbl i j = true → listed.getD j false = true := fun j hj hb => hcl.bit ht i j o ho hj hdeps hb
        have ahead : ∀ j, j < all.length → hasBit tbl j i = true → listed.getD j false = false := by
          intro j hj hb
          rcases hlj : listed.getD j false with _ | _
          · rfl
          · have := hcl.bit ht j i all[j] (List.getElem?_eq_getElem hj) hil (hcl j all[j] (List.getElem?_eq_getElem hj) hlj) hb
            rw [this] at hnl'; cases hnl'
        -- slots that the operation names read as in the text
        have slot : ∀ t, t ∈ namesOf all o → G all run v fr1 (fun j => listed.getD j false) all.length t = fget (Fs i) t := by
          intro t htn
          rw [hF i (by omega), show all.length = i + (all.length - i) by omega, G_later i (all.length - i), G_same (S' := fun _ => true) i]
          · intro j hj hd
            have hjl : j < all.length := by omega
            have hdj : all[j].dst = some t := by simpa [List.getElem?_eq_getElem hjl] using hd
            rcases hs j i all[j] o hj (List.getElem?_eq_getElem hjl) ho with hb | ⟨hc, _⟩
            · exact back j hjl hb
            · exact absurd htn (clash_dst hc hdj).1
          · intro j hij hj hd
            by_cases hji : j = i
            · subst hji; exact hnl'
            have hjl : j < all.length := by omega
            have hdj : all[j].dst = some t := by simpa [List.getElem?_eq_getElem hjl] using hd
            rcases hs i j o all[j] (by omega) ho (List.getElem?_eq_getElem hjl) with hb | ⟨hc, _⟩
            · exact ahead j hjl hb
            · exact absurd htn (clash_dst' hc hdj).1
        -- the slot that it writes is written by none that is listed behind it
        have later : ∀ d, o.dst = some d → ∀ j, i < j → j < all.length → (all[j]?).bind (·.dst) = some d → listed.getD j false = false := by
          intro d hd j hij hjl hdj
          have hdj' : all[j].dst = some d := by simpa [List.getElem?_eq_getElem hjl] using hdj
          rcases hs i j o all[j] hij ho (List.getElem?_eq_getElem hjl) with hb | ⟨hc, _⟩
          · exact ahead j hjl hb
          · exact absurd hdj' (clash_dst hc hd).2
        have hset : ∀ j, (listed.setIfInBounds i true).getD j false = if j = i then true else listed.getD j false := by
          intro j
          simp only [Array.getD_eq_getD_getElem?, Array.getElem?_setIfInBounds]
          by_cases e : j = i
          · subst e; simp [hils]
          · rw [if_neg (fun h => e h.symm), if_neg e]
        have hcl' : Closed all (listed.setIfInBounds i true) := by
          intro j oj hoj hlj e he
          rw [hset] at hlj ⊢
          split
          · rfl
          · split at hlj
            · rename_i _ hji; subst hji
              rw [ho] at hoj; cases hoj
              exact hdeps e he
            · exact hcl j oj hoj hlj e he
        have hnum' : fuel + num all.length (fun j => (listed.setIfInBounds i true).getD j false) = all.length := by
          rw [num_set (p := fun j => listed.getD j false) hil hnl' (by rw [hset]; simp) (fun j hj => by rw [hset, if_neg hj])]
          omega
        -- the heap's place
        have hplace : effO P o.op = true → (num all.length fun j => effAt P all j && listed.getD j false) = cnt P all i := by
          intro he
          have heff : effAt P all i = true := by simp [effAt, ho, he]
          have h1 : cnt P all i = num i (effAt P all) := rfl
          rw [h1, ← num_lt (len := all.length) (m := i) (by omega)]
          refine num_congr fun j hj => ?_
          rcases hej : effAt P all j with _ | _
          · rfl
          · simp only [Bool.true_and]
            have hoj : all[j]? = some all[j] := List.getElem?_eq_getElem hj
            have hej' : effO P all[j].op = true := by simpa [effAt, hoj] using hej
            rcases Nat.lt_trichotomy j i with h | h | h
            · simp only [h, decide_true]
              rcases hs j i all[j] o h hoj ho with hb | ⟨_, hc⟩
              · exact back j hj hb
              · rw [hej', he] at hc; cases hc
            · subst h; rw [hnl']; simp
            · have : decide (j < i) = false := by simp; omega
              rw [this]
              rcases hs i j o all[j] h ho hoj with hb | ⟨_, hc⟩
              · exact ahead j hj hb
              · rw [hej', he] at hc; cases hc
        have hplace1 : effO P o.op = true → (num all.length fun j => effAt P all j && (listed.setIfInBounds i true).getD j false) = cnt P all i + 1 := by
          intro he
          rw [← hplace he]
          exact num_set hil (by rw [hnl']; simp) (by rw [hset]; simp [effAt, ho, he]) (fun j hj => by rw [hset, if_neg hj])
        have hplace0 : effO P o.op = false → (num all.length fun j => effAt P all j && (listed.setIfInBounds i true).getD j false) = (num all.length fun j => effAt P all j && listed.getD j false) := by
          intro he
          refine num_congr fun j hj => ?_
          rw [hset]
          by_cases e : j = i
          · subst e; simp [effAt, ho, he]
          · rw [if_neg e]
        -- what the frame holds behind it
        have frame : ∀ (ρ' : Env) (a' : Act), ρ.le ρ' → (∀ t, o.dst ≠ some t → a'.tmps[t]? = a.tmps[t]?) → (∀ d, o.dst = some d → run i = true → ∃ c, a'.tmps[d]? = some c ∧ Rel ρ' (v i) c) → (∀ d, o.dst = some d → run i = false → a'.tmps[d]? = some undef) →
            ∀ t u, t < n → G all run v fr1 (fun j => (listed.setIfInBounds i true).getD j false) all.length t = some u → ∃ c, a'.tmps[t]? = some c ∧ Rel ρ' u c := by
          intro ρ' a' hl ho2 hd1 hd0 t u htn hu
          by_cases hdt : o.dst = some t
          · rw [show all.length = (i + 1) + (all.length - (i + 1)) by omega, G_later (i + 1) (all.length - (i + 1)) (fun j hj hjl hdj => by rw [hset, if_neg (by omega)]; exact later t hdt j (by omega) (by omega) hdj)] at hu
            simp only [G] at hu
            rw [if_pos ⟨by rw [hset]; simp, by simp [ho, hdt]⟩] at hu
            split at hu
            · rename_i hr
              obtain rfl : v i = u := by simpa using hu
              exact hd1 t hdt hr
            · rename_i hr
              obtain rfl : V.tup [] = u := by simpa using hu
              exact ⟨undef, hd0 t hdt (by simpa using hr), .tup _ _ .nil⟩
          · rw [G_same (S' := fun j => listed.getD j false) all.length (fun j hj hdj => by
              rw [hset]
              by_cases e : j = i
              · subst e; exact absurd (by simpa [ho] using hdj) hdt
              · rw [if_neg e])] at hu
            obtain ⟨c, hc, hr⟩ := hg t u htn hu
            exact ⟨c, by rw [ho2 t hdt]; exact hc, hr.mono hl⟩
        -- is it wanted?
        have hwanted : Region.wanted o1 (yielded ops.toArray a.tmps) = run i := by
          rcases st.guard with ⟨g1, g2⟩ | ⟨j, want, d, x, g1, g2, g3, g4⟩ | ⟨j, want, d, g1, g2, g3, g4⟩
          · rw [g2]; exact wanted_none (hgo.trans g1)
          · have hdn : d ∈ namesOf all o := by simp [namesOf, g1, g2]
            have := slot d hdn
            rw [g3] at this
            obtain ⟨c, hc, hr⟩ := hg d _ (hlow j d g2) this
            cases hr
            have hy := yielded_of (ops := ops.toArray) (j := j) (by rw [hdsts] at g2; simpa using g2) hc
            simp [Region.wanted, hgo, g1, hy, g4]
          · have hdn : d ∈ namesOf all o := by simp [namesOf, g1, g2]
            have := slot d hdn
            rw [g3] at this
            obtain ⟨c, hc, hr⟩ := hg d _ (hlow j d g2) this
            cases hr with
            | tup _ xs hrs =>
            cases hrs
            have hy : yielded ops.toArray a.tmps j = none := yielded_none (by rw [hdsts] at g2; simpa using g2) hc
            simp [Region.wanted, hgo, g1, hy, g4]
        have ho' : ops.toArray[i]? = some o1 := by simpa using ho1
        -- the names that are left open
        have hopen : ids i = none → HR N (w0.plus ids fun j => listed.getD j false) = HR N (w0.plus ids fun j => (listed.setIfInBounds i true).getD j false) := fun hn => by
          refine congrArg _ ?_
          unfold Ref.plus
          congr 1
          funext id vs e
          refine propext ⟨?_, ?_⟩
          · rintro (⟨k, hk, hS⟩ | h)
            · have hki : k ≠ i := by rintro rfl; rw [hn] at hk; cases hk
              exact .inl ⟨k, hk, by show (listed.setIfInBounds i true).getD k false = false; rw [hset, if_neg hki]; exact hS⟩
            · exact .inr h
          · rintro (⟨k, hk, hS⟩ | h)
            · have hki : k ≠ i := by rintro rfl; rw [hn] at hk; cases hk
              exact .inl ⟨k, hk, by have hS' : (listed.setIfInBounds i true).getD k false = false := hS; rw [hset, if_neg hki] at hS'; exact hS'⟩
            · exact .inr h
        have hnone : (o1.guard ≠ none ∨ ∀ e, o1.op ≠ .alloc e) → ids i = none := fun h => by
          cases hi' : ids i with
          | none => rfl
          | some x =>
            obtain ⟨o2, e, k1, k2, k3⟩ := hall1 i x hi'
            rw [ho1] at k1; cases k1
            exact (h.elim (fun h => (h k3).elim) fun h => (h e k2).elim)
        unfold wpOp
        rw [ho']
        simp only [hwanted, hdo]
        cases hrun : run i with
        | false =>
          simp only [Bool.false_eq_true, if_false]
          have hid : ids i = none := hnone (.inl (by
            rcases st.guard with ⟨g1, g2⟩ | ⟨j, want, d, x, g1, _⟩ | ⟨j, want, d, g1, _⟩
            · rw [hrun] at g2; cases g2
            · rw [hgo, g1]; simp
            · rw [hgo, g1]; simp))
          rw [hopen hid] at hh
          have hput : ∀ t, o.dst ≠ some t → (a.put o.dst undef).tmps[t]? = a.tmps[t]? := by
            intro t htd
            cases hd : o.dst with
            | none => rfl
            | some d =>
              simp only [Act.put, Array.getElem?_setIfInBounds]
              rw [if_neg (fun e => htd (by rw [hd, e]))]
          refine ih _ _ w ρ (by simpa using hsz) hcl' hnum' (by cases o.dst <;> simpa [Act.put] using hn) (by cases o.dst <;> simpa [Act.put] using hdf) hle ?_ (frame ρ _ ρ.le_refl hput (fun d _ hr => by rw [hrun] at hr; cases hr) (fun d hd _ => by
            have hdn : d < n := by have := st.dst; rw [hd] at this; simpa [dstOk] using this
            rw [hd]; simp [Act.put, hn, hdn]))
          cases he : effO P o.op with
          | true =>
            rw [hplace1 he, st.skip hrun he, ← hplace he]; exact hh
          | false => rw [hplace0 he]; exact hh
        | true =>
          simp only [if_true]
          rcases hcase with ⟨e, he1, he2, he3⟩ | hcase
          · -- a variable that the machine has made ahead
            obtain ⟨id, z, z1, z2, z3, z4⟩ := hids i o1 e ho1 he1 he2
            have he : effO P o.op = false := by rw [he3]; rfl
            have hvi : v i = .p (some (id, 0)) := by
              have hq : loOf P all tbl i ≤ hiOf P all tbl i ∧ loOf P all tbl i ≤ top := by
                refine ⟨num_le (p := fun j => effAt P all j && hasBit tbl i j) (q := fun j => effAt P all j && !hasBit tbl j i) fun j hj hp => ?_, by rw [htop]; exact num_le (p := fun j => effAt P all j && hasBit tbl i j) (q := effAt P all) fun j hj hp => by simp only [Bool.and_eq_true] at hp; exact hp.1⟩
                simp only [Bool.and_eq_true, Bool.not_eq_true'] at hp ⊢
                refine ⟨hp.1, ?_⟩
                rcases hb : hasBit tbl j i with _ | _
                · rfl
                · have a1 := back j hj hp.2
                  rw [ahead j hj hb] at a1; cases a1
              have h1 := st.read hrun he (loOf P all tbl i) (Nat.le_refl _) hq.1 hq.2
              rw [he3] at h1
              have h2 : fget (fs i) (n + i) = some (.p (some (id, 0))) := by
                rw [st.same, hF i (by omega), show i = 0 + i by omega, G_later 0 i (fun j _ hj hd => by have := hlow j _ hd; omega)]
                simpa [G] using z4
              simp only [evOp, evalO, Nat.zero_add, h2, Option.bind_some, ret2, Option.some.injEq, Prod.mk.injEq] at h1
              exact h1.1.symm
            have hal1 : evOp P E (fun _ => none) noHeap o1.op o1.type ret2 = some (.p (some (0, 0)), noHeap.new (.cells z.cells e false)) := by
              rw [he1]; simp [evOp, z1, ret2, noHeap]
            have hdoes := evOp_sound hE (HR.void w (hh.glob.below hh.below hh.nle)) (e := a.eval) (val := fun _ => none) (fun x u hu => by cases hu) o1 hal1
            refine .inl ?_
            refine hdoes.wp fun c w' hp => ?_
            rw [hdo]
            obtain ⟨u, H2, ρ2, h1, h2, h3, h4⟩ := hp
            obtain ⟨rfl, rfl⟩ : u = .p (some (0, 0)) ∧ H2 = noHeap.new (.cells z.cells e false) := by
              simp only [ret2, Option.some.injEq, Prod.mk.injEq] at h4; exact h4
            have hbel : Below w.heap.size w w' := h3.below
            rcases h3.obj 0 (.cells z.cells e false) (by simp [noHeap]) with ⟨_, _, hF0⟩ | ⟨b, hb, hor⟩
            · exact hF0.elim
            obtain ⟨b2, hb2, rfl⟩ := h2.p'
            rw [hb] at hb2; cases hb2
            have hobN : w.heap.size ≤ b.blk := hor.ownN rfl
            have hor' : ORel N ρ w' b (.cells z.cells e false) := by
              obtain ⟨cc, fz, k1, k2, k3, k4⟩ := hor
              refine ⟨cc, fz, k1, k2, fun j v hj => ?_, fun hf => ⟨Nat.le_trans hh.nle (k4 hf).1, (k4 hf).2⟩⟩
              obtain ⟨x, x1, x2⟩ := k3 j v hj
              exact ⟨x, x1, flat1_rel (List.all_eq_true.1 z2 v (List.mem_of_getElem? hj)) x2⟩
            have hh' := hh.over ⟨hbel, h3.drew⟩
            obtain ⟨ha, hle'⟩ := hh'.arrive (r := w0.plus ids fun j => (listed.setIfInBounds i true).getD j false) (id := id) (vs := z.cells) (e := e) (.inl ⟨i, z3, hnl'⟩) hor'
              (fun j oj bj hj hbj => by have := (hh.rel hj hbj).lt; omega) rfl
              (fun j vs' e' hj => by
                rcases hj with ⟨k, hk, hS⟩ | hj
                · have hki : k ≠ i := by
                    rintro rfl
                    simp only [hset, if_true] at hS; cases hS
                  refine ⟨.inl ⟨k, hk, by simp only [hset, if_neg hki] at hS; exact hS⟩, ?_⟩
                  rintro rfl
                  exact hki (hinj k i _ _ hk z3 rfl)
                · refine ⟨.inr hj, ?_⟩
                  rintro rfl
                  exact hout i _ _ _ _ _ z3 hj)
              (fun j vs' e' hj => by
                rcases hj with ⟨k, hk, hS⟩ | hj
                · by_cases hki : k = i
                  · subst hki
                    rw [z3] at hk
                    simp only [Option.some.injEq, Prod.mk.injEq] at hk
                    exact .inl hk.1.symm
                  · exact .inr (.inl ⟨k, hk, by simp only [hset, if_neg hki]; exact hS⟩)
                · exact .inr (.inr hj))
              rfl (fun k hk => by have := (hh.kept k hk).1; omega)
            have hput : ∀ t, o.dst ≠ some t → (a.put o.dst (.pointer (some ⟨b.blk, b.off + 0, none⟩))).tmps[t]? = a.tmps[t]? := by
              intro t htd
              cases hd : o.dst with
              | none => rfl
              | some d =>
                simp only [Act.put, Array.getElem?_setIfInBounds]
                rw [if_neg (fun e => htd (by rw [hd, e]))]
            refine ih _ _ w' _ (by simpa using hsz) hcl' hnum' (by cases o.dst <;> simpa [Act.put] using hn) (by cases o.dst <;> simpa [Act.put] using hdf) (hle.trans hle') ?_ (frame _ _ hle' hput (fun d hd _ => ⟨.pointer (some ⟨b.blk, b.off + 0, none⟩), ?_, ?_⟩) (fun d _ hr => by rw [hrun] at hr; cases hr))
            · rw [hplace0 he]; exact ha
            · have hdn : d < n := hlow i d (by rw [ho]; exact hd)
              rw [hd]
              simp [Act.put, hn, hdn]
            · rw [hvi]; exact .p id 0 b (by simp)
          have hoo1 : o = o1 := by rw [hoo] at hcase ⊢; exact hcase.1
          have hid : ids i = none := hnone hcase.2
          have hin : ∀ t ∈ namesOf all o, t < n := by
            intro t ht
            rw [hnames, hoo1] at ht
            have h1 := List.all_eq_true.1 hnm o1 (List.mem_of_getElem? ho1)
            exact blt_iff.1 (List.all_eq_true.1 h1 t ht)
          rw [hopen hid] at hh
          -- the operation, at the heap that stands now
          have hev : ∃ H', evOp P E (evalO (fs i)) (HS (num all.length fun j => effAt P all j && listed.getD j false)) o.op o.type ret2 = some (v i, H') ∧ H' = HS (num all.length fun j => effAt P all j && (listed.setIfInBounds i true).getD j false) := by
            cases he : effO P o.op with
            | true => exact ⟨_, by rw [hplace he]; exact st.eff hrun he, by rw [hplace1 he]⟩
            | false =>
              refine ⟨_, st.read hrun he _ ?_ ?_ ?_, by rw [hplace0 he]⟩
              · refine num_le (p := fun j => effAt P all j && hasBit tbl i j) fun j hj hp => ?_
                simp only [Bool.and_eq_true] at hp ⊢
                exact ⟨hp.1, back j hj hp.2⟩
              · refine num_le (q := fun j => effAt P all j && !hasBit tbl j i) fun j hj hp => ?_
                simp only [Bool.and_eq_true, Bool.not_eq_true'] at hp ⊢
                refine ⟨hp.1, ?_⟩
                rcases hb : hasBit tbl j i with _ | _
                · rfl
                · have := ahead j hj hb; rw [this] at hp; cases hp.2
              · rw [htop]
                exact num_le (q := effAt P all) fun j hj hp => by simp only [Bool.and_eq_true] at hp; exact hp.1
          obtain ⟨H', hev, hH'⟩ := hev
          have hops : ∀ x ∈ o.op.operands.toList, ∀ u, evalO (fs i) x = some u → Rel ρ u (a.eval x) := by
            intro x hx u hu
            cases x with
            | tmp t =>
              have htn : t ∈ namesOf all o := by
                simp only [namesOf, tmpsOf, List.mem_append, List.mem_filterMap]
                exact .inl ⟨.tmp t, hx, rfl⟩
              have h1 : fget (fs i) t = some u := hu
              rw [st.same t, ← slot t htn] at h1
              obtain ⟨c, hc, hr⟩ := hg t u (hin t htn) h1
              simpa [Act.eval, Array.getD_eq_getD_getElem?, hc] using hr
            | const c => exact ofValue_sound hu
            | global g => cases hu
            | func f =>
              simp [evalO] at hu; subst hu
              exact .fn (.func f) [] [] [] [] .nil .nil
          have hcon : evOp P E (fun x => open Classical in if x ∈ o.op.operands.toList then evalO (fs i) x else none) (HS (num all.length fun j => effAt P all j && listed.getD j false)) o.op o.type ret2 = some (v i, H') := by
            rw [← hev]; exact evOp_congr fun x hx => by simp [hx]
          have hdoes := evOp_sound hE hh (e := a.eval) (val := fun x => open Classical in if x ∈ o.op.operands.toList then evalO (fs i) x else none) (fun x u hu => by
            by_cases hx : x ∈ o.op.operands.toList
            · simp only [hx, if_true] at hu; exact hops x hx u hu
            · simp only [hx, if_false] at hu; cases hu) o hcon
          rw [hoo1] at hdoes
          refine .inl (hdoes.wp fun c w' hp => ?_)
          rw [hdo]
          obtain ⟨u, H2, ρ', h1, h2, h3, h4⟩ := hp
          obtain ⟨rfl, rfl⟩ : u = v i ∧ H2 = H' := by simpa [ret2] using h4
          subst hH'
          have hput : ∀ t, o.dst ≠ some t → (a.put o.dst c).tmps[t]? = a.tmps[t]? := by
            intro t htd
            cases hd : o.dst with
            | none => rfl
            | some d =>
              simp only [Act.put, Array.getElem?_setIfInBounds]
              rw [if_neg (fun e => htd (by rw [hd, e]))]
          refine ih _ _ w' ρ' (by simpa using hsz) hcl' hnum' (by cases o.dst <;> simpa [Act.put] using hn) (by cases o.dst <;> simpa [Act.put] using hdf) (hle.trans h1) h3 (frame ρ' _ h1 hput (fun d hd _ => ⟨c, ?_, h2⟩) (fun d _ hr => by rw [hrun] at hr; cases hr))
          have hdn : d < n := by have := st.dst; rw [hd] at this; simpa [dstOk] using this
          rw [hd]
          simp [Act.put, hn, hdn]
  rw [← hal]
  refine main all.length _ a0 w1 ρ0 (by simp) ?_ ?_ hsz0 hdf0 ρ0.le_refl ?_ ?_
  · intro j o ho hl
    simp only [Array.getD_eq_getD_getElem?, Array.getElem?_replicate] at hl
    split at hl <;> simp at hl
  · have : num all.length (fun j => (Array.replicate all.length false).getD j false) = num all.length (fun _ => false) := num_congr fun j hj => by simp [Array.getD_eq_getD_getElem?, hj]
    rw [this]
    have h0' : num all.length (fun _ => false) = 0 := by unfold num; simp
    omega
  · have : (num all.length fun j => effAt P all j && (Array.replicate all.length false).getD j false) = num all.length (fun _ => false) := num_congr fun j hj => by simp [Array.getD_eq_getD_getElem?, hj]
    have h0' : num all.length (fun _ => false) = 0 := by unfold num; simp
    rw [this, h0']
    have e0 : (w0.plus ids fun j => (Array.replicate all.length false).getD j false) = w0.plus ids fun _ => false := by
      unfold Ref.plus
      congr 1
      funext id vs e
      refine propext ⟨fun h => h.imp (fun ⟨k, hk, _⟩ => ⟨k, hk, rfl⟩) (fun x => x), fun h => h.imp (fun ⟨k, hk, _⟩ => ⟨k, hk, by simp only [Array.getD_eq_getD_getElem?, Array.getElem?_replicate]; split <;> rfl⟩) (fun x => x)⟩
    rw [e0]; exact hh0
  · intro t u htn hu
    rw [show all.length = 0 + all.length by omega, G_later 0 all.length (fun j _ hj _ => by simp [Array.getD_eq_getD_getElem?, show j < all.length by omega])] at hu
    exact hfr0 t u htn hu

end
end Go.Proofs.Ytnlfkllnmobppaa.AM

/- Code and functions of the machine stand for the model's. -/
namespace Go.Proofs.Ytnlfkllnmobppaa.AM
open Go Go.RowKit

section
variable {P : Program} {N : Nat} {w0 : Ref} {n : Nat} {E : FEnv}

theorem ev_sound (hE : EnvOK P E) (hL : EnvLin E) (hm : P.follows .mixedOrders = true) {lr : LRun} (hlr : lr.ok) {kp : Nat → Option (List Nat)} : ∀ (c : Code) {R : Type} (r : R) (fr : Fr) (H : Heap) (K : Ex → Fr → Heap → Option R) (ρ : Env) (a : Act) (w : World) (Q : Exit → Act → World → Prop),
    ev P E lr n kp c fr H K = some r → SR N w0 n ρ fr H a w → (∀ e fr' H' ρ' a' w', ρ.le ρ' → SR N w0 n ρ' fr' H' a' w' → K e fr' H' = some r → Q (exOf e) a' w') → c.wp P Q a w := by
  intro c
  induction c with
  | skip => intro R r fr H K ρ a w Q hk h hQ; exact wp_skip (hQ .normal fr H ρ a w ρ.le_refl h hk)
  | exit id => intro R r fr H K ρ a w Q hk h hQ; exact wp_exit (hQ (.exit id) _ H ρ a w ρ.le_refl (h.keep kp _) hk)
  | ret => intro R r fr H K ρ a w Q hk h hQ; exact wp_ret (hQ .ret _ H ρ a w ρ.le_refl (h.keep kp _) hk)
  | region id ops draw =>
    intro R r fr H K ρ a w Q hk h hQ
    cases draw with
    | false =>
      refine wp_region_list ?_
      have := evOps_sound hE (all := ops.toList) (Q := Q) ops.toList fr H ρ a w hk h fun ρ' fr' H' a' w' hl hs hk' => hQ .normal _ H' ρ' a' w' hl (hs.keep kp id) hk'
      simpa using this
    | true =>
      simp only [ev] at hk
      split at hk
      · rename_i hst
        refine wp_region_any hm ?_
        obtain ⟨HS, frF, h1, h2, h3, _, h5⟩ := evD_trace hL ops.toList 0 fr H [] [] (fun k o ho => by simpa using ho) rfl (fun p hp => by cases hp) hk
        simp only [Nat.zero_add] at h3 h5
        have h2' : HS 0 = H := h2
        have := draw_sound (N := N) (w0 := w0) hE h5 rfl hst (ρ0 := ρ) (Q := Q) (fun ρ' a' w' hl hs => hQ .normal _ _ ρ' a' w' hl (hs.keep kp id) h3) (a0 := a) (w1 := { w with drawn := w.drawn + 1 })
          (by rw [h2']; exact ⟨h.fr, h.size, h.defers, h.hr.drawn _⟩)
        simpa using this
      · refine wp_region_any hm ?_
        unfold evE at hk
        split at hk
        · rename_i hc
          simp only [Bool.and_eq_true] at hc
          have hh1 := h.hr.drawn (w.drawn + 1)
          obtain ⟨fr1, H1, ids, h1, h2, h3, h4, h5, h6⟩ := newE_trace ops.toList 0 fr H w0 hk hh1
          obtain ⟨HS, frF, g1, g2, g3, _, g5⟩ := evD_trace hL _ 0 fr1 H1 [] [] (fun k o ho => by simpa using ho) rfl (fun p hp => by cases hp) h1
          simp only [Nat.zero_add] at g3 g5
          have g2' : HS 0 = H1 := g2
          have := draw_soundE (N := N) (w0 := w0) hE g5 rfl hc.2 hc.1 (fun k o e a b c => by
              obtain ⟨id, z, q1, q2, q3, q4⟩ := h3 k o e a b c
              exact ⟨id, z, q1, q2, by simpa using q3, by simpa using q4⟩)
            (fun k x hx => by
              obtain ⟨_, _, o, e, q⟩ := h4 k x.1 x.2.1 x.2.2 hx
              exact ⟨o, e, by simpa using q⟩) h5
            (fun k id vs e vs' e' hk hr => by
              have q1 := (h4 k id vs e hk).1
              have q2 := (h.hr.resv id vs' e' hr).1
              omega) (ρ0 := ρ) (Q := Q) (fun ρ' a' w' hl hs => hQ .normal _ _ ρ' a' w' hl (hs.keep kp id) g3) (a0 := a) (w1 := { w with drawn := w.drawn + 1 }) h.size h.defers
            (by rw [g2']; exact h6) (fun t u ht hu => by rw [h2 t (by omega)] at hu; exact h.fr t u hu)
          simpa using this
        · cases hk
  | seq x y ihx ihy =>
    intro R r fr H K ρ a w Q hk h hQ
    refine wp_seq (ihx r fr H _ ρ a w _ hk h fun e fr' H' ρ' a' w' hl hs hk' => ?_)
    cases e with
    | normal => exact ihy r fr' H' K ρ' a' w' Q hk' hs fun e fr2 H2 ρ2 a2 w2 hl2 => hQ e fr2 H2 ρ2 a2 w2 (hl.trans hl2)
    | exit i => exact hQ (.exit i) fr' H' ρ' a' w' hl hs hk'
    | ret => exact hQ .ret fr' H' ρ' a' w' hl hs hk'
  | cond c x y ihx ihy =>
    intro R r fr H K ρ a w Q hk h hQ
    simp only [ev] at hk
    split at hk
    · rename_i b hb
      have hr := SR.eval h.fr c _ hb
      have hc : a.eval c = .bool b := by cases hx : a.eval c <;> rw [hx] at hr <;> cases hr; rfl
      have hE : ∀ e fr' H' ρ' a' w', ρ.le ρ' → SR N w0 n ρ' fr' H' a' w' → kEnd kp (condId c) K e fr' H' = some r → Q (exOf e) a' w' := by
        intro e fr' H' ρ' a' w' hl hs hk2
        cases e with
        | normal => exact hQ .normal _ H' ρ' a' w' hl (hs.keep kp _) hk2
        | exit i => exact hQ (.exit i) fr' H' ρ' a' w' hl hs hk2
        | ret => exact hQ .ret fr' H' ρ' a' w' hl hs hk2
      rcases sel_some hk with ⟨rfl, hk'⟩ | ⟨rfl, hk'⟩
      · exact wp_cond hc (ihx r fr H _ ρ a w Q hk' h hE)
      · exact wp_cond hc (ihy r fr H _ ρ a w Q hk' h hE)
    · cases hk
  | block id x ih =>
    intro R r fr H K ρ a w Q hk h hQ
    refine wp_block (ih r _ H _ ρ a w _ hk (h.keep kp (200000 + id)) fun e fr' H' ρ' a' w' hl hs hk' => ?_)
    cases e with
    | normal => exact hQ .normal _ H' ρ' a' w' hl (hs.keep kp _) hk'
    | exit i =>
      simp only [kBlock] at hk'
      simp only [exOf, Exit.inBlock]
      split at hk'
      · rename_i e; rw [if_pos e]; exact hQ .normal _ H' ρ' a' w' hl hs hk'
      · rename_i e; rw [if_neg e]; exact hQ (.exit i) fr' H' ρ' a' w' hl hs hk'
    | ret => exact hQ .ret fr' H' ρ' a' w' hl hs hk'
  | loop x ih =>
    intro R r fr H K ρ a w Q hk h hQ
    simp only [ev] at hk
    obtain ⟨q, hq, hk'⟩ := Option.bind_eq_some_iff.1 hk
    obtain ⟨m, hm'⟩ := hlr _ _ _ hq
    clear hq hk
    refine loop_wp ?_
    induction m generalizing fr H ρ a w with
    | zero => simp [loopIter] at hm'
    | succ m ihm =>
      simp only [loopIter] at hm'
      obtain ⟨q1, hq1, hq2⟩ := Option.bind_eq_some_iff.1 hm'
      have hb := ih q1 fr H ret3 ρ a w (fun e a' w' => ∃ ρ', ρ.le ρ' ∧ SR N w0 n ρ' q1.2.1 q1.2.2 a' w' ∧ e = exOf q1.1) hq1 h fun e fr' H' ρ' a' w' hl hs hk2 => by
        simp only [ret3, Option.some.injEq] at hk2
        subst hk2
        exact ⟨ρ', hl, hs, rfl⟩
      intro b k cs
      obtain ⟨e, a1, w1, ⟨ρ1, hl, hs, he⟩, harr⟩ := hb b (.inLoop x :: k) cs
      cases hx : q1.1 with
      | normal =>
        rw [hx] at hq2 he
        subst he
        obtain ⟨e2, a2, w2, hq3, harr2⟩ := ihm q1.2.1 q1.2.2 ρ1 a1 w1 hs (fun e fr' H' ρ' a' w' hl2 => hQ e fr' H' ρ' a' w' (hl.trans hl2)) hq2 b k cs
        exact ⟨e2, a2, w2, hq3, .of_steps (Steps.trans harr (.one step_inLoop)) harr2⟩
      | exit i =>
        rw [hx] at hq2 he
        subst he
        have hq2' : (Ex.exit i, q1.2) = q := by simpa using hq2
        subst hq2'
        exact ⟨.exit i, a1, w1, hQ (.exit i) _ _ ρ1 a1 w1 hl hs hk', .pass (x := .inLoop x) rfl (fun _ _ => .inl (by simp)) harr⟩
      | ret =>
        rw [hx] at hq2 he
        subst he
        have hq2' : (Ex.ret, q1.2) = q := by simpa using hq2
        subst hq2'
        exact ⟨.ret, a1, w1, hQ .ret _ _ ρ1 a1 w1 hl hs hk', .pass (x := .inLoop x) rfl (fun _ _ => .inl (by simp)) harr⟩
  | _ => intro R r fr H K ρ a w Q hk h hQ; cases hk

theorem resOne_sound {R : Type} {r : R} {ρ : Env} {fr : Fr} {H : Heap} {w : World} {tmps : Array Value} (hf : FR ρ fr tmps) (hh : HR N w0 ρ H w) {rv : ResultVar} {K : V → Option R} (h : resOne P fr H rv K = some r) :
    ∃ v x, (match rv with | .tmp t => pure (tmps.getD t undef) | .cell a t => do loadVar t (← asAddr (tmps.getD a undef)) : Sem Value).run P w = .ok x w ∧ Rel ρ v x ∧ K v = some r := by
  cases rv with
  | tmp t =>
    obtain ⟨v, h1, h2⟩ := Option.bind_eq_some_iff.1 h
    obtain ⟨c, hc, hr⟩ := hf t v h1
    exact ⟨v, c, by simp [Array.getD_eq_getD_getElem?, hc], hr, h2⟩
  | cell a t =>
    obtain ⟨v, h1, h2⟩ := Option.bind_eq_some_iff.1 h
    obtain ⟨c, hc, hr⟩ := hf a v h1
    split at h2
    · rename_i id off
      obtain ⟨b, hb, rfl⟩ := hr.p'
      obtain ⟨v, x, e1, e2, e3⟩ := ldT_sound hh h2 hb
      refine ⟨v, x, ?_, e2, e3⟩
      have hg : tmps.getD a undef = .pointer (some ⟨b.blk, b.off + off, none⟩) := by simp [Array.getD_eq_getD_getElem?, hc]
      simp only [hg, asAddr, Sem.run_bind, Sem.run_pure, Result.andThen_ok]
      exact e1
    · cases h2

theorem resAll_sound {R : Type} {r : R} {ρ : Env} {fr : Fr} {H : Heap} {w : World} {tmps : Array Value} (hf : FR ρ fr tmps) (hh : HR N w0 ρ H w) : ∀ (rs : List ResultVar) {K : List V → Option R}, resAll P fr H rs K = some r →
    ∃ vs xs, (rs.mapM fun | .tmp t => pure (tmps.getD t undef) | .cell a t => do loadVar t (← asAddr (tmps.getD a undef)) : Sem (List Value)).run P w = .ok xs w ∧ Rels ρ vs xs ∧ K vs = some r := by
  intro rs
  induction rs with
  | nil => intro K h; exact ⟨[], [], by simp, .nil, h⟩
  | cons rv rs ih =>
    intro K h
    obtain ⟨v, x, e1, e2, e3⟩ := resOne_sound hf hh h
    obtain ⟨vs, xs, g1, g2, g3⟩ := ih e3
    refine ⟨v :: vs, x :: xs, ?_, .cons _ _ _ _ e2 g2, g3⟩
    rw [List.mapM_cons]
    simp only [Sem.run_bind, Sem.run_pure]
    rw [e1]
    simp only [Result.andThen_ok]
    rw [g1]
    rfl

theorem res_sound {R : Type} {r : R} {ρ : Env} {fr : Fr} {H : Heap} {w : World} {tmps : Array Value} (hf : FR ρ fr tmps) (hh : HR N w0 ρ H w) {fn : Func} {K : V → Heap → Option R} (h : res P fr H fn.results.toList K = some r) :
    ∃ v x, (results fn tmps).run P w = .ok x w ∧ Rel ρ v x ∧ K v H = some r := by
  unfold res at h
  obtain ⟨vs, xs, e1, e2, e3⟩ := resAll_sound (P := P) hf hh _ h
  have hrun : (results fn tmps).run P w = .ok (if h : xs.toArray.size = 1 then xs.toArray[0] else .tuple xs.toArray) w := by
    unfold results
    rw [Array.mapM_eq_mapM_toList]
    simp only [Sem.run_bind, Sem.run_map, Sem.run_pure]
    erw [e1]
    rfl
  split at e3
  · rename_i v
    obtain ⟨x, rfl, hr⟩ := rels_one e2
    exact ⟨v, x, by rw [hrun]; rfl, hr, e3⟩
  · rename_i hne
    refine ⟨.tup vs, .tuple xs.toArray, ?_, .tup _ _ e2, e3⟩
    rw [hrun, dif_neg]
    intro hsz
    have hl := e2.length
    simp only [List.size_toArray] at hsz
    match vs, hl with
    | [v], _ => exact hne v rfl
    | [], hl => simp [hsz] at hl
    | _ :: _ :: _, hl => simp [hsz] at hl

theorem argFr_get : ∀ (args : List V) (i t : Nat), fget (argFr i args) t = if i ≤ t then args[t - i]? else none := by
  intro args
  induction args with
  | nil => intro i t; simp [argFr, fget]
  | cons v args ih =>
    intro i t
    simp only [argFr, fget]
    split
    · rename_i h; subst h; simp
    · rename_i h
      rw [ih]
      by_cases h1 : i + 1 ≤ t
      · rw [if_pos h1, if_pos (by omega), show t - i = (t - (i + 1)) + 1 by omega]; simp
      · rw [if_neg h1, if_neg (by omega)]

/-- a function -/
theorem evFn_sound (hE : EnvOK P E) (hL : EnvLin E) (hm : P.follows .mixedOrders = true) {lr : LRun} (hlr : lr.ok) {kp : Nat → Option (List Nat)} {f : FuncId} {fn : Func} (hf : P.funcs[f]? = some fn) {R : Type} {r : R} {args : List V} {H : Heap} {K : V → Heap → Option R}
    (hk : evFn P E lr fn kp args H K = some r) {ρ : Env} {w : World} {xs : List Value} (hr : Rels ρ args xs) (hh : HR N w0 ρ H w) :
    Calls P f xs.toArray w fun e w' => ∃ c, e = .returned c ∧ ∃ v H' ρ', ρ.le ρ' ∧ Rel ρ' v c ∧ HR N w0 ρ' H' w' ∧ K v H' = some r := by
  unfold evFn at hk
  split at hk
  · rename_i hlen
    split at hk
    · rename_i c hb
      refine calls_of_wp hf hb ?_
      have hxl := hr.length
      refine ev_sound (N := N) (w0 := w0) hE hL hm hlr c r (argFr 0 args) H _ ρ _ w _ hk ⟨fun t v hv => ?_, ?_, rfl, hh⟩ ?_
      · rw [argFr_get, if_pos (Nat.zero_le _), Nat.sub_zero] at hv
        obtain ⟨x, hx, hrel⟩ := hr.get t v hv
        have hlt := (List.getElem?_eq_some_iff.1 hx).1
        exact ⟨x, by rw [Array.getElem?_append_left (by simpa using hlt)]; simpa using hx, hrel⟩
      · simp; omega
      · intro e fr' H' ρ' a' w' hl hs hkk
        cases e with
        | normal =>
          obtain ⟨v, x, e1, e2, e3⟩ := res_sound hs.fr hs.hr hkk
          exact ⟨hs.defers, x, e1, x, rfl, v, H', ρ', hl, e2, hs.hr, e3⟩
        | ret =>
          obtain ⟨v, x, e1, e2, e3⟩ := res_sound hs.fr hs.hr hkk
          exact ⟨hs.defers, x, e1, x, rfl, v, H', ρ', hl, e2, hs.hr, e3⟩
        | exit i => cases hkk
    · cases hk
  · cases hk

end
end Go.Proofs.Ytnlfkllnmobppaa.AM

