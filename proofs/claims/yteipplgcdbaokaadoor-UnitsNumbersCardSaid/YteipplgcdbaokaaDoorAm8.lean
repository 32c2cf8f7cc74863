/- What the machine's appending stands for. -/
import Derived.Test.YteipplgcdbaokaaDoorAm7
namespace Go.Proofs.YteipplgcdbaokaaDoor.AM
open Go Go.RowKit

theorem Tr.get_del (f : Nat) : ∀ (t : Tr) (n m : Nat), n < f → (Tr.del f t n).get m = if m = n then none else t.get m := by
  induction f with
  | zero => intro t n m h; omega
  | succ f ih =>
    intro t n m h
    cases t with
    | nil => simp [Tr.del, Tr.get]
    | node x l r =>
      cases n with
      | zero => cases m <;> simp [Tr.del, Tr.get]
      | succ n =>
        cases m with
        | zero => simp only [Tr.del]; split <;> simp [Tr.get]
        | succ m =>
          simp only [Tr.del]
          split
          · simp only [Tr.get]
            split
            · rw [ih _ _ _ (by omega)]
              have : (m / 2 = n / 2) ↔ (m + 1 = n + 1) := by omega
              simp [this]
            · rw [if_neg (by omega)]
          · simp only [Tr.get]
            split
            · rw [if_neg (by omega)]
            · rw [ih _ _ _ (by omega)]
              have : (m / 2 = n / 2) ↔ (m + 1 = n + 1) := by omega
              simp [this]
@[simp] theorem Heap.get_drop (H : Heap) (id j : Nat) : (H.drop id).get j = if j = id then none else H.get j := by
  simp only [Heap.get, Heap.drop]; exact Tr.get_del _ _ _ _ (by omega)
@[simp] theorem Heap.next_drop (H : Heap) (id : Nat) : (H.drop id).next = H.next := rfl

section
variable {P : Program} {N : Nat} {w0 w : World} {ρ : Env} {H : Heap}

theorem HR.dropped (h : HR N w0 ρ H w) (id : Nat) : HR N w0 ρ (H.drop id) w :=
  h.forget rfl fun j o hj => by rw [Heap.get_drop] at hj; split at hj; cases hj; exact hj

/-- an own object's block turns, and the object is forgotten -/
theorem HR.spoil (h : HR N w0 ρ H w) {id : Nat} {o : O} {b : Base} (ho : H.get id = some o) (hb : ρ id = some b) (hown : o.own = true)
    {w' : World} (hs : w'.heap.size = w.heap.size) (hos : w'.os = w.os) (htape : w'.tape = w.tape) (hout : w'.output = w.output)
    (hblk : ∀ k, k ≠ b.blk → w'.heap[k]? = w.heap[k]?) : HR N w0 ρ (H.drop id) w' := by
  have hN := (h.base ho hb).ownN hown
  refine ⟨⟨hos.trans h.below.os, htape.trans h.below.tape, hout.trans h.below.output, hs ▸ h.below.size, fun k hk => (hblk k (by omega)).trans (h.below.block k hk)⟩, hs ▸ h.nle, h.glob, fun j hj => h.fresh j hj, ?_, ?_, ?_⟩
  · intro j oj hj
    rw [Heap.get_drop] at hj
    split at hj
    · cases hj
    · rename_i hji
      obtain ⟨bj, hbj, hrj⟩ := h.obj j oj hj
      refine ⟨bj, hbj, hrj.same (hblk _ ?_)⟩
      by_cases hoj : oj.own = true
      · exact fun e => h.apart j id bj b oj o hji hj ho hoj hown hbj hb e
      · cases oj with
        | cells vs e ro =>
          have : ro = true := by simpa [O.own] using hoj
          subst this
          have := h.roN j bj vs e hj hbj
          omega
        | map _ _ => simp [O.own] at hoj
        | siter _ _ => simp [O.own] at hoj
        | miter _ _ _ _ => simp [O.own] at hoj
  · intro j bj vs e hj hbj
    rw [Heap.get_drop] at hj
    split at hj
    · cases hj
    · exact h.roN j bj vs e hj hbj
  · intro i j bi bj oi oj hij hi hj hoi hoj hbi hbj
    rw [Heap.get_drop] at hi hj
    split at hi
    · cases hi
    · split at hj
      · cases hj
      · exact h.apart i j bi bj oi oj hij hi hj hoi hoj hbi hbj

/-- an object is written, and goes on under a new name -/
theorem HR.move (h : HR N w0 ρ H w) {id : Nat} {o o' : O} {b b' : Base} (ho : H.get id = some o) (hb : ρ id = some b) (hown : o.own = true) (hown' : o'.own = true) (hbb : b'.blk = b.blk)
    {w' : World} (hs : w'.heap.size = w.heap.size) (hos : w'.os = w.os) (htape : w'.tape = w.tape) (hout : w'.output = w.output)
    (hblk : ∀ k, k ≠ b.blk → w'.heap[k]? = w.heap[k]?) (hr : ORel N ρ w' b' o') :
    ρ.le (fun j => if j = H.next then some b' else ρ j) ∧ HR N w0 (fun j => if j = H.next then some b' else ρ j) ((H.drop id).new o') w' := by
  have hN := (h.base ho hb).ownN hown
  have hidlt := h.get_lt ho
  have hle : ρ.le (fun j => if j = H.next then some b' else ρ j) := by
    intro j c hc
    have := h.name_lt hc
    show (if j = H.next then some b' else ρ j) = some c
    rw [if_neg (by omega)]; exact hc
  have old : ∀ (j : Nat) (oj : O), ((H.drop id).new o').get j = some oj → j ≠ H.next → j ≠ id ∧ H.get j = some oj := by
    intro j oj hj hjn
    rw [Heap.get_new, Heap.next_drop, if_neg hjn, Heap.get_drop] at hj
    split at hj
    · cases hj
    · rename_i hji; exact ⟨hji, hj⟩
  have apart0 : ∀ (j : Nat) (oj : O) (bj : Base), j ≠ id → H.get j = some oj → oj.own = true → ρ j = some bj → bj.blk ≠ b.blk :=
    fun j oj bj hji hj hoj hbj => h.apart j id bj b oj o hji hj ho hoj hown hbj hb
  refine ⟨hle, ⟨⟨hos.trans h.below.os, htape.trans h.below.tape, hout.trans h.below.output, hs ▸ h.below.size, fun k hk => (hblk k (by omega)).trans (h.below.block k hk)⟩, hs ▸ h.nle, h.glob, ?_, ?_, ?_, ?_⟩⟩
  · intro j hj
    simp only [Heap.next_new, Heap.next_drop] at hj
    show (if j = H.next then some b' else ρ j) = none
    rw [if_neg (by omega)]; exact h.fresh j (by omega)
  · intro j oj hj
    by_cases hjn : j = H.next
    · rw [Heap.get_new, Heap.next_drop, if_pos hjn] at hj
      obtain rfl : o' = oj := by simpa using hj
      exact ⟨b', by simp [hjn], hr.mono hle⟩
    · obtain ⟨hji, hj'⟩ := old j oj hj hjn
      obtain ⟨bj, hbj, hrj⟩ := h.obj j oj hj'
      refine ⟨bj, by simp [hjn, hbj], (hrj.mono hle).same (hblk _ ?_)⟩
      by_cases hoj : oj.own = true
      · exact apart0 j oj bj hji hj' hoj hbj
      · cases oj with
        | cells vs e ro =>
          have : ro = true := by simpa [O.own] using hoj
          subst this
          have := h.roN j bj vs e hj' hbj
          omega
        | map _ _ => simp [O.own] at hoj
        | siter _ _ => simp [O.own] at hoj
        | miter _ _ _ _ => simp [O.own] at hoj
  · intro j bj vs e hj hbj
    by_cases hjn : j = H.next
    · rw [Heap.get_new, Heap.next_drop, if_pos hjn] at hj
      obtain rfl : o' = _ := by simpa using hj
      simp [O.own] at hown'
    · obtain ⟨_, hj'⟩ := old j _ hj hjn
      exact h.roN j bj vs e hj' (by simpa [hjn] using hbj)
  · intro i j bi bj oi oj hij hi hj hoi hoj hbi hbj
    by_cases h1 : i = H.next
    · have h2 : j ≠ H.next := fun e => hij (h1.trans e.symm)
      obtain ⟨hji, hj'⟩ := old j oj hj h2
      have e1 : b' = bi := by simpa [h1] using hbi
      have e2 : ρ j = some bj := by simpa [h2] using hbj
      rw [← e1, hbb]
      exact fun e => apart0 j oj bj hji hj' hoj e2 e.symm
    · obtain ⟨hii, hi'⟩ := old i oi hi h1
      have e1 : ρ i = some bi := by simpa [h1] using hbi
      by_cases h2 : j = H.next
      · have e2 : b' = bj := by simpa [h2] using hbj
        rw [← e2, hbb]
        exact apart0 i oi bi hii hi' hoi e1
      · obtain ⟨hji, hj'⟩ := old j oj hj h2
        have e2 : ρ j = some bj := by simpa [h2] using hbj
        exact h.apart i j bi bj oi oj hij hi' hj' hoi hoj e1 e2

theorem zOk_sound {e : TypeId} (h : zOk P e = true) : ∃ i z v, P.info? e = some i ∧ i.zero = some z ∧ i.size = P.cellsOf e ∧ i.bytes = P.bytesOf e ∧ zeroV P e = some v ∧ (∀ ρ, Rel ρ v z) ∧ v.cells.length = P.cellsOf e ∧ z.cells.size = P.cellsOf e := by
  unfold zOk at h
  split at h
  · rename_i v hv
    obtain ⟨x, _, _, hx⟩ := zeroV_sound (ρ := fun _ => none) hv
    cases hi : P.info? e with
    | none => simp [hi] at hx
    | some i =>
      simp [hi] at hx
      have hrel : ∀ ρ, Rel ρ v x := by
        intro ρ
        obtain ⟨y, _, hr, hy⟩ := zeroV_sound (ρ := ρ) hv
        simp [hi, hx] at hy; subst hy; exact hr
      refine ⟨i, x, v, rfl, hx, by simp [Program.cellsOf, hi], by simp [Program.bytesOf, hi], hv, hrel, by simpa using h, ?_⟩
      have := (hrel ρ₀).cells.length
      simp at this
      rw [← this]; simpa using h
  · cases h
where ρ₀ : Env := fun _ => none

/-- within the capacity -/
theorem run_append_fit {t u ty e : TypeId} {du : TypeDesc} {i : TypeInfo} (ht : P.underlying t = some (.slice e)) (hu : P.underlying u = some du) (hnz : ∀ k, du ≠ .int k) (hi : P.info? e = some i)
    (base : Option Addr) (len cap n : Nat) (y : Value) (xs : List Value) (hn : ∀ w' : World, (Builtin.lenOf y).run P w' = .ok n w')
    (hf : ∀ w' : World, w'.heap = w.heap → (Builtin.firstCells i.size n y).run P w' = .ok xs.toArray w') (hfit : len + n ≤ cap) :
    (Builtin.append_ #[t, u] ty #[.slice base len cap, y]).run P w = match base with
      | some a => ((storeCells (a.add (len * i.size)) xs).run P w).andThen fun _ w' => .ok (.slice base (len + n) cap) w'
      | none => .ok (.slice none (len + n) cap) w := by
  cases base <;> simp [Builtin.append_, run_underlying ht, run_underlying hu, sizeOf, typeInfo, hi, hn, hfit, hf w rfl]

/-- beyond it -/
theorem run_append_over {t u ty e : TypeId} {du : TypeDesc} {i : TypeInfo} {z : Value} (ht : P.underlying t = some (.slice e)) (hu : P.underlying u = some du) (hnz : ∀ k, du ≠ .int k) (hi : P.info? e = some i) (hz : i.zero = some z)
    (base : Option Addr) (len cap n : Nat) (y : Value) (xs olds : List Value) (hn : ∀ w' : World, (Builtin.lenOf y).run P w' = .ok n w')
    (hf : ∀ w' : World, w'.heap = w.heap → (Builtin.firstCells i.size n y).run P w' = .ok xs.toArray w')
    (ho : ∀ w' : World, w'.heap = w.heap → (Builtin.firstCells i.size len (.slice base len cap)).run P w' = .ok olds.toArray w')
    (hover : cap < len + n) (h63 : len + n ≤ 9223372036854775807) (hb : (len + n) * i.bytes ≤ 140737488355328) :
    (Builtin.append_ #[t, u] ty #[.slice base len cap, y]).run P w =
      .ok (.slice (some ⟨w.heap.size, 0, none⟩) (len + n) (grownCap w (len + n) cap e))
        (w.drew.alloc (.cells (olds.toArray ++ xs.toArray ++ Builtin.zeroCells z.cells (grownCap w (len + n) cap e - (len + n))) e)) := by
  have hnf : ¬ (len + n ≤ cap) := by omega
  have h63' : ¬ (9223372036854775807 < ((len : Int) + (n : Int))) := by omega
  have hfit := growslice_fits hover hb
  have h48' : ¬ (281474976710656 < Builtin.nextslicecap (len + n) cap * i.bytes) := by omega
  have hf' := hf w.drew rfl
  have ho' := ho w.drew rfl
  have fin : ∀ (Z : Array Value), olds.toArray ++ (xs.toArray ++ Z) = (olds ++ xs).toArray ++ Z := by intro Z; rw [← Array.append_assoc]; simp
  simp [Builtin.append_, run_underlying ht, run_underlying hu, sizeOf, typeInfo, zeroValue, hi, hz, hn, hnf, h63', h48', Question.forced, hf', ho', newRow, grownCap, fin]

/-- 'append', where the machine gives an answer -/
theorem appendV_sound {R : Type} {r : R} (h : HR N w0 ρ H w) {e : TypeId} {x : Sl} {c : Value} {n : Nat} {new : List V} {xs : List Value} {K : Sl → Heap → Option R}
    (ha : appendV H e (P.cellsOf e) (P.bytesOf e) x n new K = some r) (hz : zOk P e = true) (hxe : exactT e = false) (hx : Rel ρ (.sl x) c) (hnew : Rels ρ new xs) (hnl : xs.length = n * P.cellsOf e) (args : Array TypeId) (ty : TypeId) (y : Value)
    (hfit : ∀ (base : Option Addr) (len cap : Nat), c = .slice base len cap → len + n ≤ cap → (Builtin.append_ args ty #[c, y]).run P w = match base with
      | some a => ((storeCells (a.add (len * P.cellsOf e)) xs).run P w).andThen fun _ w' => .ok (.slice base (len + n) cap) w'
      | none => .ok (.slice none (len + n) cap) w)
    (hover : ∀ (base : Option Addr) (len cap : Nat) (z : Value) (olds : List Value), c = .slice base len cap → z.cells.size = P.cellsOf e → (P.info? e).bind (·.zero) = some z → (∀ w' : World, w'.heap = w.heap → (Builtin.firstCells (P.cellsOf e) len c).run P w' = .ok olds.toArray w') →
      cap < len + n → len + n ≤ 9223372036854775807 → (len + n) * P.bytesOf e ≤ 140737488355328 → (Builtin.append_ args ty #[c, y]).run P w =
      .ok (.slice (some ⟨w.heap.size, 0, none⟩) (len + n) (grownCap w (len + n) cap e))
        (w.drew.alloc (.cells (olds.toArray ++ xs.toArray ++ Builtin.zeroCells z.cells (grownCap w (len + n) cap e - (len + n))) e))) :
    ∃ s H' c' w' ρ', (Builtin.append_ args ty #[c, y]).run P w = .ok c' w' ∧ ρ.le ρ' ∧ Rel ρ' (.sl s) c' ∧ HR N w0 ρ' H' w' ∧ K s H' = some r := by
  obtain ⟨i, z, vz, hi, hiz, his, hib, _, _, _, hzs⟩ := zOk_sound hz
  have hzi : (P.info? e).bind (·.zero) = some z := by simp [hi, hiz]
  -- a new row
  have grow : ∀ (base : Option Addr) (len cap : Nat) (old : List V) (olds : List Value), c = .slice base len cap → Rels ρ old olds → olds.length = len * P.cellsOf e →
      (∀ w' : World, w'.heap = w.heap → (Builtin.firstCells (P.cellsOf e) len c).run P w' = .ok olds.toArray w') → cap < len + n → len + n ≤ 9223372036854775807 → (len + n) * P.bytesOf e ≤ 140737488355328 →
      ∀ (HH : Heap), HR N w0 ρ HH w → HH.next = H.next → ∃ c' w' ρ', (Builtin.append_ args ty #[c, y]).run P w = .ok c' w' ∧ ρ.le ρ' ∧ Rel ρ' (.sl ⟨some (H.next, 0), len + n, .op (P.cellsOf e)⟩) c' ∧ HR N w0 ρ' (HH.new (.cells (old ++ new) e false)) w' := by
    intro base len cap old olds hc hro hol hf hov h63 hb HH hHH hnx
    have hrun := hover base len cap z olds hc hzs hzi hf hov h63 hb
    have hge := grownCap_ge w (len + n) cap e
    have hcm := grownCap_le_maxLen w (len + n) cap e (by unfold maxLen; omega)
    generalize grownCap w (len + n) cap e = g at hrun hge hcm
    have hrs := hro.append hnew
    have hdr : HR N w0 ρ HH w.drew := hHH.drawn _
    obtain ⟨ρ', hle, hh, hb'⟩ := new_sound hdr (vs := old ++ new) (c := olds.toArray ++ xs.toArray ++ Builtin.zeroCells z.cells (g - (len + n))) (e := e)
      (fun j v hj => by
        obtain ⟨u, hu, hr⟩ := hrs.get j v hj
        refine ⟨u, ?_, hr⟩
        have hjl : j < (olds ++ xs).length := (List.getElem?_eq_some_iff.1 hu).1
        rw [Array.getElem?_append_left (by simpa using hjl)]
        simpa using hu)
      (by have := hrs.length; simp only [List.length_append] at this; simp only [List.length_append, Array.size_append, List.size_toArray]; omega)
      (fun q => by rw [hxe] at q; cases q)
    refine ⟨_, _, ρ', hrun, hle, ?_, hh⟩
    rw [← hnx]
    refine .so HH.next 0 (len + n) (P.cellsOf e) g _ _ hb' hge hcm ?_ (fun _ => rfl)
    simp only [Array.size_append, List.size_toArray, size_zeroCells, hzs, hol, hnl, Nat.zero_add, ← Nat.add_mul]
    congr 1; omega
  unfold appendV at ha
  split at ha
  · rename_i hn0
    subst hn0
    have hxs : xs = [] := List.eq_nil_of_length_eq_zero (by simpa using hnl)
    subst hxs
    obtain ⟨a, len, cap, rfl, _, hlen⟩ := hx.slNil
    have hle : len ≤ cap := by cases hx <;> first | omega | assumption
    refine ⟨x, H, _, w, ρ, ?_, ρ.le_refl, hx, h, ha⟩
    rw [hfit a len cap rfl (by simpa using hle)]
    cases a <;> simp [storeCells]
  · split at ha
    · cases ha
    rename_i hn0 hsz0
    have hpos : 0 < n * P.cellsOf e := Nat.mul_pos (by omega) (by omega)
    obtain ⟨xa, xl, xc⟩ := x
    simp only at ha
    split at ha
    · split at ha
      · rename_i hb
        obtain ⟨hb1, hb2⟩ := hb
        cases hx with
        | sn =>
          obtain ⟨c', w', ρ', h1, h2, h3, h4⟩ := grow none 0 0 [] [] rfl .nil (by simp) (fun w' _ => by simp [Builtin.firstCells]) (by omega) hb2 hb1 H h rfl
          exact ⟨_, _, c', w', ρ', h1, h2, h3, by simpa using h4, ha⟩
      · cases ha
    · rename_i id off
      split at ha
      · rename_i cc
        split at ha
        · rename_i hfits
          cases hx with
          | sx _ _ _ _ b a hb hle haddr =>
            obtain rfl := haddr (by omega)
            cases hq : H.sts id (off + xl * P.cellsOf e) new with
            | none => rw [hq] at ha; simp at ha
            | some H' =>
              rw [hq] at ha
              obtain ⟨w', hw', hh⟩ := sts_sound (P := P) h hq hb hnew
              refine ⟨_, H', _, w', ρ, ?_, ρ.le_refl, .sx id off (xl + n) cc b _ hb hfits (fun _ => rfl), hh, ha⟩
              rw [hfit _ _ _ rfl hfits]
              simp only [Addr.add_lit]
              rw [show b.off + off + xl * P.cellsOf e = b.off + (off + xl * P.cellsOf e) by omega, hw']
              rfl
        · split at ha
          · rename_i hnf hb
            obtain ⟨hb1, hb2⟩ := hb
            obtain ⟨old, hq, ha'⟩ := Option.bind_eq_some_iff.1 ha
            obtain ⟨a, cap, olds, rfl, hro, hol, hf⟩ := slCells_sound h hq hx
            have hcap : cap = cc := by cases hx; rfl
            obtain ⟨c', w', ρ', h1, h2, h3, h4⟩ := grow a xl cap old olds rfl hro hol hf (by omega) hb2 hb1 H h rfl
            exact ⟨_, _, c', w', ρ', h1, h2, h3, h4, ha'⟩
          · cases ha
      · rename_i s
        split at ha
        · rename_i hb
          obtain ⟨rfl, hb1, hb2⟩ := hb
          split at ha
          · rename_i vs e' ho
            split at ha
            · rename_i hee
              subst hee
              cases hx with
              | so _ _ _ _ cap b a hb hle hml hsz haddr =>
                have hor := h.base ho hb
                obtain ⟨cur, fz, g1, g2, g3, g4⟩ := hor
                obtain ⟨gN, gsz, gfz, _⟩ := g4 rfl
                split at ha
                · rename_i hin
                  have hcap : xl + n ≤ cap := by
                    have : (xl + n) * P.cellsOf e' ≤ cap * P.cellsOf e' := by omega
                    exact Nat.le_of_mul_le_mul_right this (by omega)
                  obtain rfl := haddr (by omega)
                  cases hq : H.sts id (off + xl * P.cellsOf e') new with
                  | none => rw [hq] at ha; simp at ha
                  | some H' =>
                    rw [hq] at ha
                    obtain ⟨w', hw', hh⟩ := sts_sound (P := P) h hq hb hnew
                    refine ⟨_, H', _, w', ρ, ?_, ρ.le_refl, .so id off (xl + n) _ cap b _ hb hcap hml hsz (fun _ => rfl), hh, ha⟩
                    rw [hfit _ _ _ rfl hcap]
                    simp only [Addr.add_lit]
                    rw [show b.off + off + xl * P.cellsOf e' = b.off + (off + xl * P.cellsOf e') by omega, hw']
                    rfl
                · split at ha
                  · rename_i hout hfr
                    obtain ⟨hfront, hone⟩ := hfr
                    have hlds : H.lds id off (xl * P.cellsOf e') = some ((vs.drop off).take (xl * P.cellsOf e')) := by
                      unfold Heap.lds; rw [ho]; simp only []; rw [if_pos hfront]
                    obtain ⟨_, olds, hro, hol, hcells⟩ := lds_sound h hlds hb
                    by_cases hroom : xl + n ≤ cap
                    · obtain rfl := haddr (by omega)
                      have hroom' : (xl + n) * P.cellsOf e' ≤ cap * P.cellsOf e' := Nat.mul_le_mul_right _ hroom
                      have hx1 : ∀ v ∈ xs, v.oneCell' = true := by
                        intro x hx
                        obtain ⟨j, hj⟩ := List.mem_iff_getElem?.1 hx
                        have hnn := hnew.length
                        have hjl : j < new.length := by have := (List.getElem?_eq_some_iff.1 hj).1; omega
                        obtain ⟨y, hy, hrel⟩ := hnew.get j new[j] (List.getElem?_eq_getElem hjl)
                        rw [hj] at hy; cases hy
                        rw [hrel.one]
                        exact (List.all_eq_true.1 hone) _ (List.getElem_mem hjl)
                      have hspace : b.off + (off + xl * P.cellsOf e') + 0 + xs.length ≤ cur.size := by rw [hnl]; rw [Nat.add_mul] at hroom'; omega
                      have hst := run_storeCells_own (P := P) b.blk (b.off + (off + xl * P.cellsOf e')) e' fz xs 0 cur w g1 (fun k hk hh => by rcases gfz with q | q <;> omega) hspace hx1
                      have hnn := hnew.length
                      have hvl : ((vs.drop off).take (xl * P.cellsOf e')).length = xl * P.cellsOf e' := by simp; omega
                      generalize hcs : (cur.toList.take (b.off + (off + xl * P.cellsOf e') + 0) ++ xs ++ cur.toList.drop (b.off + (off + xl * P.cellsOf e') + 0 + xs.length)).toArray = cs at hst
                      have hcsz : cs.size = cur.size := by rw [← hcs]; simp; omega
                      have hcsg : ∀ j, cs[j]? = if j < b.off + (off + xl * P.cellsOf e') then cur[j]? else if j < b.off + (off + xl * P.cellsOf e') + xs.length then xs[j - (b.off + (off + xl * P.cellsOf e'))]? else cur[j]? := by
                        intro j
                        have hm : min (b.off + (off + xl * P.cellsOf e')) cur.size = b.off + (off + xl * P.cellsOf e') := by omega
                        rw [← hcs]
                        simp only [List.getElem?_toArray, List.getElem?_append, List.length_append, List.length_take, Array.length_toList, Nat.add_zero, hm, List.getElem?_take, List.getElem?_drop, Array.getElem?_toList]
                        by_cases c1 : j < b.off + (off + xl * P.cellsOf e')
                        · rw [if_pos (by omega), if_pos c1, if_pos c1, if_pos c1]
                        · by_cases c2 : j < b.off + (off + xl * P.cellsOf e') + xs.length
                          · rw [if_pos c2, if_neg c1, if_neg c1, if_pos c2]
                          · rw [if_neg c2, if_neg c1, if_neg c2]
                            congr 1; omega
                      have hmv := h.move (o' := .cells ((vs.drop off).take (xl * P.cellsOf e') ++ new) e' false) (b' := ⟨b.blk, b.off + off, b.size⟩) (w' := w.setRow b.blk cs) ho hb rfl rfl rfl (size_setRow w b.blk _) rfl rfl rfl (fun k hk => setRow_other w b.blk k _ hk)
                        ⟨cs, fz, setRow_heap w b.blk cur _ e' fz g1, by
                            show b.off + off + _ ≤ cs.size
                            rw [Nat.add_mul] at hroom'
                            simp only [List.length_append, hvl]; omega, by
                            intro j v hj
                            rw [List.getElem?_append, hvl] at hj
                            show ∃ x, cs[b.off + off + j]? = some x ∧ _
                            rw [hcsg]
                            by_cases c1 : j < xl * P.cellsOf e'
                            · rw [if_pos c1, List.getElem?_take_of_lt c1, List.getElem?_drop] at hj
                              obtain ⟨x, hx, hr⟩ := g3 _ v hj
                              refine ⟨x, ?_, hr⟩
                              rw [if_pos (by omega), ← hx]
                              congr 1; omega
                            · rw [if_neg c1] at hj
                              obtain ⟨x, hx, hr⟩ := hnew.get _ v hj
                              have hjl := (List.getElem?_eq_some_iff.1 hx).1
                              refine ⟨x, ?_, hr⟩
                              rw [if_neg (by omega), if_pos (by omega), ← hx]
                              congr 1; omega, fun _ => ⟨gN, by rw [hcsz]; exact gsz, by rw [hcsz]; exact gfz, fun q => by rw [hxe] at q; cases q⟩⟩
                      refine ⟨_, _, .slice (some ⟨b.blk, b.off + off, none⟩) (xl + n) cap, _, _, ?_, hmv.1, ?_, hmv.2, ha⟩
                      · rw [hfit _ _ _ rfl hroom]
                        simp only [Addr.add_lit]
                        rw [show b.off + off + xl * P.cellsOf e' = b.off + (off + xl * P.cellsOf e') by omega, hst]
                        rfl
                      · exact .so H.next 0 (xl + n) _ cap ⟨b.blk, b.off + off, b.size⟩ _ (by simp) hroom hml (by simpa using hsz) (fun _ => rfl)
                    · obtain ⟨c', w', ρ', h1, h2, h3, h4⟩ := grow (some a) xl cap _ olds rfl hro hol (fun w' hw' => by
                        simp only [Builtin.firstCells]
                        by_cases hx0 : xl * P.cellsOf e' = 0
                        · have : olds = [] := List.eq_nil_of_length_eq_zero (by omega)
                          subst this; simp [hx0, loadCells, loadCellsFrom]
                        · have hc0 : cap ≠ 0 := by intro e0; subst e0; apply hx0; rw [show xl = 0 by omega]; simp
                          obtain rfl := haddr hc0
                          rw [← hol]
                          exact run_cells (w := w') fun j v hj => by have := hcells j v hj; simpa [World.cell?, hw'] using this) (by omega) hb2 hb1 (H.drop id) (h.dropped id) rfl
                      exact ⟨_, _, c', w', ρ', h1, h2, h3, h4, ha⟩
                  · cases ha
            · cases ha
          · cases ha
        · cases ha

end
end Go.Proofs.YteipplgcdbaokaaDoor.AM
