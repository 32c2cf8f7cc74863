/- Every operation of the machine stands for the model's. -/
import Derived.Test.YteipplgcdbaokaaDoorAm13
namespace Go.Proofs.YteipplgcdbaokaaDoor.AM
open Go Go.RowKit

section
variable {P : Program} {N : Nat} {w0 w : World} {ρ : Env} {H : Heap}

theorem under_of {t : TypeId} (h : ¬ (P.underlying t).isNone = true) : ∃ d, P.underlying t = some d := by cases hx : P.underlying t with | none => simp [hx] at h | some d => exact ⟨d, rfl⟩

theorem wrap_i64 {n : Int} (h0 : 0 ≤ n) (h1 : n ≤ 9223372036854775807) : IntKind.i64.wrap n = n := by
  unfold IntKind.wrap IntKind.bits IntKind.signed
  simp only []
  rw [Int.emod_eq_of_lt h0 (by omega)]
  simp; omega

theorem ev_makeSlice {R : Type} {r : R} {K : V → Heap → Option R} (h : HR N w0 ρ H w) {t e : TypeId} {kl kc : IntKind} {l c : Int} (hu : P.underlying t = some (.slice e)) {d : TypeDesc} (hd : P.underlying e = some d) (h0 : 0 ≤ l) (h1 : l ≤ c) (h2 : c ≤ 9223372036854775807) (h3 : c * P.bytesOf e ≤ 281474976710656)
    (hk : ((zeroCellsV P e c.toNat).bind fun z => K (.sl ⟨some (H.next, 0), l.toNat, .ex c.toNat⟩) (H.new (.cells z e false))) = some r) :
    ∃ x w', (Instr.makeSlice t (.int kl l) (.int kc c)).run P w = .ok x w' ∧ Post N w0 ρ K r x w' := by
  obtain ⟨z, h5, h6⟩ := Option.bind_eq_some_iff.1 hk
  obtain ⟨xs, x1, x2, x3⟩ := zeroCellsV_sound (ρ := ρ) h5
  obtain ⟨i, hi, hs, hb⟩ := info_of hd
  have wl := wrap_i64 h0 (by omega)
  have wc := wrap_i64 (n := c) (by omega) h2
  refine ⟨.slice (some ⟨w.heap.size, 0, none⟩) l.toNat c.toNat, w.alloc (.cells xs.toArray e), ?_, new_post h x1 h6 fun ρ' hρ => .sx _ _ _ _ _ _ hρ (by omega) (fun _ => rfl)⟩
  have hbb : ¬ (281474976710656 < (i.bytes : Int) * c) := by rw [hb] at h3; rw [Int.mul_comm]; omega
  have e0 : (Array.range 0).map (fun i => (#[] : Array Value)[i % (#[] : Array Value).size]!) = ([] : List Value).toArray := by simp [Array.range]
  have c1 : ¬ c < 0 := by omega
  have c2 : ¬ l < 0 := by omega
  have c3 : ¬ c < l := by omega
  by_cases hz0 : c.toNat * i.size = 0
  · have hx0 : xs = [] := List.eq_nil_of_length_eq_zero (by rw [x2, hs]; exact hz0)
    subst hx0
    simp only [Instr.makeSlice, Sem.run_bind, run_underlying hu, Result.andThen_ok, asInt, asIntOf, Sem.run_pure, typeInfo, run_program, hi]
    simp [wl, wc, c1, c2, c3, hbb, sizeOf, typeInfo, hi, hz0, newRow]
    congr 1
    simp [Array.range]
  · rcases x3 with ⟨hh, _⟩ | ⟨zz, z1, z2, z3, _⟩
    · rw [hs] at hh; exact absurd hh hz0
    · rw [hs] at z3
      simp only [Instr.makeSlice, Sem.run_bind, run_underlying hu, Result.andThen_ok, asInt, asIntOf, Sem.run_pure, typeInfo, run_program, hi]
      have hz1 : ¬ (c.toNat = 0 ∨ i.size = 0) := by intro hh; apply hz0; rcases hh with hh | hh <;> simp [hh]
      simp only [not_or] at hz1
      simp [wl, wc, c1, c2, c3, hbb, sizeOf, typeInfo, hi, hz0, newRow, z1, z3]

theorem intOpt_sound {val : Operand → Option V} {e : Operand → Value} (hv : ∀ x v, val x = some v → Rel ρ v (e x)) {o : Option Operand} {q : Option Int} (h : intOpt val o = some q) : IO1 q (o.map e) := by
  unfold intOpt at h
  split at h
  · simp at h; subst h; trivial
  · rename_i x
    split at h
    · rename_i k n hx
      simp at h; subst h
      have := hv _ _ hx
      cases hex : e x <;> rw [hex] at this <;> cases this
      simp [IO1, hex]
    · cases h

theorem ev_slice {R : Type} {r : R} {K : V → Heap → Option R} (h : HR N w0 ρ H w) {t : TypeId} {v : V} {x : Value} {l hh m : Option Int} {vl vh vm : Option Value} (hx : Rel ρ v x) (hl : IO1 l vl) (hhi : IO1 hh vh) (hm : IO1 m vm)
    (hk : (match P.underlying t with
      | some .string => match (generalizing := false) m with
        | none => v.asS.bind fun s => if 0 ≤ l.getD 0 ∧ l.getD 0 ≤ hh.getD s.size ∧ hh.getD s.size ≤ s.size then K (.s (subS s (l.getD 0) (hh.getD s.size))) H else none
        | some _ => none
      | some (.slice e) => if (P.underlying e).isNone then none else v.asSl.bind fun s => slOf (P.cellsOf e) s l hh m fun r => K (.sl r) H
      | some (.array n e) => if (P.underlying e).isNone then none else match (generalizing := false) v with
        | .p x => (x : Option (Nat × Nat)).bind fun q => slOf (P.cellsOf e) ⟨some q, n, .ex n⟩ l hh m fun r => K (.sl r) H
        | _ => none
      | _ => none) = some r) :
    ∃ c, (Instr.sliceAt t x vl vh vm).run P w = .ok c w ∧ Post N w0 ρ K r c w := by
  split at hk
  · rename_i hu
    cases m with
    | none =>
      obtain ⟨s, h1, h2⟩ := Option.bind_eq_some_iff.1 hk
      obtain rfl := V.asS_eq h1
      cases hx
      split at h2
      · rename_i hc
        obtain ⟨c0, c1, c2⟩ := hc
        have hvm : vm = none := by cases vm <;> simp [IO1] at hm ⊢
        subst hvm
        have hb := run_sliceBounds (P := P) (isS := false) (len := s.size) (cap := s.size) (mx := none) (vm := none) hl hhi trivial (by simp) c0 c1 (by simpa using c2) (by simp) w
        refine ⟨.string (subS s (l.getD 0) (hh.getD s.size)), ?_, Post.same h (.s _) h2⟩
        simp [Instr.sliceAt, Instr.slice, run_underlying hu, hb, subS]
      · cases h2
    | some _ => cases hk
  · rename_i e hu
    split at hk
    · cases hk
    rename_i hd0
    obtain ⟨d, hd⟩ := under_of hd0
    obtain ⟨s, h1, h2⟩ := Option.bind_eq_some_iff.1 hk
    obtain rfl := V.asSl_eq h1
    obtain ⟨a, len, cap, rfl, _, _⟩ := hx.slNil
    obtain ⟨s', l', h', m', e1, e2, e3⟩ := slOf_sound (P := P) h2 hx hl hhi hm true w
    refine ⟨_, ?_, Post.same h e2 e3⟩
    simp [Instr.sliceAt, Instr.slice, run_underlying hu, e1, run_size hd]
  · rename_i n e hu
    split at hk
    · cases hk
    rename_i hd0
    obtain ⟨d, hd⟩ := under_of hd0
    cases v with
    | p q =>
      obtain ⟨q, h1, h2⟩ := Option.bind_eq_some_iff.1 hk
      subst h1
      obtain ⟨b, hb, rfl⟩ := hx.p'
      have hx' : Rel ρ (.sl ⟨some q, n, .ex n⟩) (.slice (some ⟨b.blk, b.off + q.2, none⟩) n n) := .sx q.1 q.2 n n b _ hb (Nat.le_refl _) (fun _ => rfl)
      obtain ⟨s', l', h', m', e1, e2, e3⟩ := slOf_sound (P := P) h2 hx' hl hhi hm false w
      refine ⟨_, ?_, Post.same h e2 e3⟩
      simp only [Instr.sliceAt, Sem.run_bind, run_underlying hu, Result.andThen_ok, Instr.sureAddr, Sem.run_pure, e1, run_size hd]
      congr 2
      split <;> simp
    | _ => cases hk
  · cases hk

theorem ev_indexAddr {R : Type} {r : R} {K : V → Heap → Option R} (h : HR N w0 ρ H w) {t : TypeId} {v i : V} {x ix : Value} (hx : Rel ρ v x) (hi : Rel ρ i ix)
    (hk : (match (generalizing := false) i with
      | .i _ n => match P.underlying t with
        | some (.slice e) => if (P.underlying e).isNone then none else v.asSl.bind fun s => if 0 ≤ n ∧ n < s.len then s.a.bind fun q => K (.p (some (q.1, q.2 + n.toNat * P.cellsOf e))) H else none
        | some (.array len e) => if (P.underlying e).isNone then none else match (generalizing := false) v with
          | .p x => (x : Option (Nat × Nat)).bind fun q => if 0 ≤ n ∧ n < len then K (.p (some (q.1, q.2 + n.toNat * P.cellsOf e))) H else none
          | _ => none
        | _ => none
      | _ => none) = some r) :
    ∃ c, (Instr.indexAt t x ix).run P w = .ok c w ∧ Post N w0 ρ K r c w := by
  cases i with
  | i k n =>
    cases hi
    simp only at hk
    split at hk
    · rename_i e hu
      split at hk
      · cases hk
      rename_i hd0
      obtain ⟨d, hd⟩ := under_of hd0
      obtain ⟨s, h1, h2⟩ := Option.bind_eq_some_iff.1 hk
      obtain rfl := V.asSl_eq h1
      split at h2
      · rename_i hn
        obtain ⟨q, h3, h4⟩ := Option.bind_eq_some_iff.1 h2
        obtain ⟨sa, sl, sc⟩ := s
        simp only at h3 hn
        subst h3
        have key : ∃ b cap, ρ q.1 = some b ∧ x = .slice (some ⟨b.blk, b.off + q.2, none⟩) sl cap := by
          cases hx with
          | sx _ _ _ c b ad hb hle ha => exact ⟨b, c, hb, by rw [ha (by omega)]⟩
          | so _ _ _ _ c b ad hb hle _ _ ha => exact ⟨b, c, hb, by rw [ha (by omega)]⟩
        obtain ⟨b, cap, hb, rfl⟩ := key
        refine ⟨.pointer (some ⟨b.blk, b.off + (q.2 + n.toNat * P.cellsOf e), none⟩), ?_, Post.same h (.p _ _ b hb) h4⟩
        simp [Instr.indexAt, asIntOf, run_underlying hu, hn.1, hn.2, run_size hd, Addr.add_lit, Nat.add_assoc]
      · cases h2
    · rename_i len e hu
      split at hk
      · cases hk
      rename_i hd0
      obtain ⟨d, hd⟩ := under_of hd0
      cases v with
      | p q =>
        obtain ⟨q, h1, h2⟩ := Option.bind_eq_some_iff.1 hk
        subst h1
        obtain ⟨b, hb, rfl⟩ := hx.p'
        split at h2
        · rename_i hn
          refine ⟨.pointer (some ⟨b.blk, b.off + (q.2 + n.toNat * P.cellsOf e), none⟩), ?_, Post.same h (.p _ _ b hb) h2⟩
          simp [Instr.indexAt, asIntOf, run_underlying hu, Instr.sureAddr, hn.1, hn.2, run_size hd, Addr.add_lit, Nat.add_assoc]
        · cases h2
      | _ => cases hk
    · cases hk
  | _ => cases hk

theorem ev_index {R : Type} {r : R} {K : V → Heap → Option R} (h : HR N w0 ρ H w) {t : TypeId} {v i : V} {x ix : Value} (hx : Rel ρ v x) (hi : Rel ρ i ix)
    (hk : (match (generalizing := false) i with
      | .i _ n => match P.underlying t with
        | some .string => v.asS.bind fun s => if 0 ≤ n ∧ n < s.size then K (.i .u8 (btAt s n)) H else none
        | some (.array len e) => v.asAgg.bind fun cs => if 0 ≤ n ∧ n < len then partV P e cs (n.toNat * P.cellsOf e) fun v => exT P e v fun v => K v H else none
        | _ => none
      | _ => none) = some r) :
    ∃ c, (Instr.index t x ix).run P w = .ok c w ∧ Post N w0 ρ K r c w := by
  cases i with
  | i k n =>
    cases hi
    simp only at hk
    split at hk
    · rename_i hu
      obtain ⟨s, h1, h2⟩ := Option.bind_eq_some_iff.1 hk
      obtain rfl := V.asS_eq h1
      cases hx
      split at h2
      · rename_i hn
        refine ⟨.int .u8 (btAt s n), ?_, Post.same h (.i _ _) h2⟩
        have hlt : n.toNat < s.size := by omega
        have hg : s[n.toNat]? = some s[n.toNat] := by simp [hlt]
        have hb : btAt s n = (s[n.toNat].toNat : Int) := by
          unfold btAt
          rw [List.getD_eq_getElem?_getD, List.getElem?_eq_getElem (by simpa using hlt)]
          rfl
        simp [Instr.index, asIntOf, run_underlying hu, hn.1, hg, hb]
      · cases h2
    · rename_i len e hu
      obtain ⟨cs, h1, h2⟩ := Option.bind_eq_some_iff.1 hk
      obtain rfl := V.asAgg_eq h1
      cases hx with
      | agg _ xs hrs =>
      split at h2
      · rename_i hn
        obtain ⟨u, y, e1, e2, e3⟩ := partV_sound hrs h2
        refine ⟨y, ?_, Post.same h e2 (exT_sound e3)⟩
        have hsz : (sizeOf e).run P w = .ok (P.cellsOf e) w := by
          unfold partV at h2
          split at h2
          · rename_i hd; exact run_size hd w
          · cases h2
        simp [Instr.index, asIntOf, run_underlying hu, hn.1, hn.2, hsz, e1]
      · cases h2
    · cases hk
  | _ => cases hk

end
end Go.Proofs.YteipplgcdbaokaaDoor.AM
