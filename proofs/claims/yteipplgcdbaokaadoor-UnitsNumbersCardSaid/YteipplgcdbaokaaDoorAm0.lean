/- A machine over values with block names of its own: values, heaps, and what it means that they stand for a world. -/
import Derived.Test.YteipplgcdbaokaaDoorAmG
namespace Go.Proofs.YteipplgcdbaokaaDoor.AM
open Go Go.RowKit

/-- capacity of a slice: known, or up to the end of its block -/
inductive Cap where
  | ex (c : Nat)
  | op (sz : Nat)

structure Sl where
  a : Option (Nat × Nat)
  len : Nat
  cap : Cap

inductive V where
  | b (x : Bool)
  | i (k : IntKind) (n : Int)
  | s (x : ByteArray)
  | p (a : Option (Nat × Nat))
  | sl (x : Sl)
  | m (r : Option Nat)
  | fn (f : Fn) (first captured : List V)
  | nilFn
  | ifc (t : TypeId) (v : V)
  | nilI
  | agg (cs : List V)
  | tup (vs : List V)

/-- where a block of the machine lies: block, first cell, cells of the block -/
structure Base where
  blk : Nat
  off : Nat
  size : Nat

abbrev Env := Nat → Option Base

mutual
inductive Rel (ρ : Env) : V → Value → Prop
  | b (x : Bool) : Rel ρ (.b x) (.bool x)
  | i (k : IntKind) (n : Int) : Rel ρ (.i k n) (.int k n)
  | s (x : ByteArray) : Rel ρ (.s x) (.string x)
  | pn : Rel ρ (.p none) (.pointer none)
  | p (id off : Nat) (b : Base) : ρ id = some b → Rel ρ (.p (some (id, off))) (.pointer (some ⟨b.blk, b.off + off, none⟩))
  | sn : Rel ρ (.sl ⟨none, 0, .ex 0⟩) (.slice none 0 0)
  | sx (id off len c : Nat) (b : Base) (a : Addr) : ρ id = some b → len ≤ c → (c ≠ 0 → a = ⟨b.blk, b.off + off, none⟩) → Rel ρ (.sl ⟨some (id, off), len, .ex c⟩) (.slice (some a) len c)
  | so (id off len sz cap : Nat) (b : Base) (a : Addr) : ρ id = some b → len ≤ cap → cap ≤ maxLen → b.off + off + cap * sz = b.size → (cap ≠ 0 → a = ⟨b.blk, b.off + off, none⟩) →
      Rel ρ (.sl ⟨some (id, off), len, .op sz⟩) (.slice (some a) len cap)
  | mn : Rel ρ (.m none) (.map none)
  | m (id : Nat) (b : Base) : ρ id = some b → Rel ρ (.m (some id)) (.map (some b.blk))
  | fn (f : Fn) (first captured : List V) (xs ys : List Value) : Rels ρ first xs → Rels ρ captured ys → Rel ρ (.fn f first captured) (.func f xs.toArray ys.toArray)
  | nilFn : Rel ρ .nilFn .nilFunc
  | ifc (t : TypeId) (v : V) (x : Value) : Rel ρ v x → Rel ρ (.ifc t v) (.iface t x)
  | nilI : Rel ρ .nilI .nilIface
  | agg (cs : List V) (xs : List Value) : Rels ρ cs xs → Rel ρ (.agg cs) (.agg xs.toArray)
  | tup (cs : List V) (xs : List Value) : Rels ρ cs xs → Rel ρ (.tup cs) (.tuple xs.toArray)
inductive Rels (ρ : Env) : List V → List Value → Prop
  | nil : Rels ρ [] []
  | cons (v : V) (x : Value) (vs : List V) (xs : List Value) : Rel ρ v x → Rels ρ vs xs → Rels ρ (v :: vs) (x :: xs)
end

/-- ρ' knows what ρ knows -/
def Env.le (ρ ρ' : Env) : Prop := ∀ id b, ρ id = some b → ρ' id = some b
theorem Env.le_refl (ρ : Env) : ρ.le ρ := fun _ _ h => h
theorem Env.le.trans {ρ ρ' ρ'' : Env} (h : ρ.le ρ') (h' : ρ'.le ρ'') : ρ.le ρ'' := fun _ _ k => h' _ _ (h _ _ k)

theorem Rel.mono {ρ ρ' : Env} (hl : ρ.le ρ') {v : V} {x : Value} (h : Rel ρ v x) : Rel ρ' v x := by
  refine Rel.rec (motive_1 := fun v x _ => Rel ρ' v x) (motive_2 := fun vs xs _ => Rels ρ' vs xs)
    ?_ ?_ ?_ ?_ ?_ ?_ ?_ ?_ ?_ ?_ ?_ ?_ ?_ ?_ ?_ ?_ ?_ ?_ h
  · exact fun x => .b x
  · exact fun k n => .i k n
  · exact fun x => .s x
  · exact .pn
  · exact fun id off b h => .p id off b (hl _ _ h)
  · exact .sn
  · exact fun id off len c b a h h1 h2 => .sx id off len c b a (hl _ _ h) h1 h2
  · exact fun id off len sz cap b a h h1 h2 h3 h4 => .so id off len sz cap b a (hl _ _ h) h1 h2 h3 h4
  · exact .mn
  · exact fun id b h => .m id b (hl _ _ h)
  · exact fun f a b xs ys _ _ h1 h2 => .fn f a b xs ys h1 h2
  · exact .nilFn
  · exact fun t v x _ h => .ifc t v x h
  · exact .nilI
  · exact fun cs xs _ h => .agg cs xs h
  · exact fun cs xs _ h => .tup cs xs h
  · exact .nil
  · exact fun v x vs xs _ _ h1 h2 => .cons v x vs xs h1 h2

theorem Rels.mono {ρ ρ' : Env} (hl : ρ.le ρ') {vs : List V} {xs : List Value} (h : Rels ρ vs xs) : Rels ρ' vs xs := by
  induction vs generalizing xs with
  | nil => cases h; exact .nil
  | cons v vs ih => cases h with | cons _ x _ xs h1 h2 => exact .cons _ _ _ _ (h1.mono hl) (ih h2)

theorem Rels.length {ρ : Env} {vs : List V} {xs : List Value} (h : Rels ρ vs xs) : vs.length = xs.length := by
  induction vs generalizing xs with
  | nil => cases h; rfl
  | cons v vs ih => cases h with | cons _ x _ xs h1 h2 => simp [ih h2]

theorem Rels.get {ρ : Env} {vs : List V} {xs : List Value} (h : Rels ρ vs xs) (j : Nat) (v : V) (hv : vs[j]? = some v) : ∃ x, xs[j]? = some x ∧ Rel ρ v x := by
  induction vs generalizing xs j with
  | nil => simp at hv
  | cons u vs ih =>
    cases h with
    | cons _ x _ xs h1 h2 =>
      cases j with
      | zero => simp at hv; subst hv; exact ⟨x, rfl, h1⟩
      | succ j => simp at hv; obtain ⟨y, hy, hr⟩ := ih h2 j hv; exact ⟨y, by simpa using hy, hr⟩

theorem Rels.append {ρ : Env} {vs us : List V} {xs ys : List Value} (h : Rels ρ vs xs) (h' : Rels ρ us ys) : Rels ρ (vs ++ us) (xs ++ ys) := by
  induction vs generalizing xs with
  | nil => cases h; exact h'
  | cons v vs ih => cases h with | cons _ x _ xs h1 h2 => exact .cons _ _ _ _ h1 (ih h2)

theorem Rels.take {ρ : Env} {vs : List V} {xs : List Value} (h : Rels ρ vs xs) (n : Nat) : Rels ρ (vs.take n) (xs.take n) := by
  induction n generalizing vs xs with
  | zero => simp; exact .nil
  | succ n ih =>
    cases h with
    | nil => simp; exact .nil
    | cons v x vs xs h1 h2 => exact .cons _ _ _ _ h1 (ih h2)

theorem Rels.drop {ρ : Env} {vs : List V} {xs : List Value} (h : Rels ρ vs xs) (n : Nat) : Rels ρ (vs.drop n) (xs.drop n) := by
  induction n generalizing vs xs with
  | zero => simpa using h
  | succ n ih =>
    cases h with
    | nil => simp; exact .nil
    | cons v x vs xs h1 h2 => exact ih h2

theorem Rels.set {ρ : Env} {vs : List V} {xs : List Value} (h : Rels ρ vs xs) (n : Nat) {v : V} {x : Value} (hv : Rel ρ v x) : Rels ρ (vs.set n v) (xs.set n x) := by
  induction n generalizing vs xs with
  | zero => cases h with
    | nil => exact .nil
    | cons _ _ vs xs _ h2 => exact .cons _ _ _ _ hv h2
  | succ n ih =>
    cases h with
    | nil => exact .nil
    | cons u y vs xs h1 h2 => exact .cons _ _ _ _ h1 (ih h2)

theorem Rels.replicate {ρ : Env} {v : V} {x : Value} (hv : Rel ρ v x) (n : Nat) : Rels ρ (List.replicate n v) (List.replicate n x) := by
  induction n with
  | zero => exact .nil
  | succ n ih => simp only [List.replicate_succ]; exact .cons _ _ _ _ hv ih

theorem Rels.of_get {ρ : Env} (vs : List V) (xs : List Value) (hl : vs.length = xs.length) (h : ∀ (j : Nat) (v : V), vs[j]? = some v → ∃ x, xs[j]? = some x ∧ Rel ρ v x) : Rels ρ vs xs := by
  induction vs generalizing xs with
  | nil => cases xs with | nil => exact .nil | cons _ _ => simp at hl
  | cons v vs ih =>
    cases xs with
    | nil => simp at hl
    | cons x xs =>
      obtain ⟨y, hy, hr⟩ := h 0 v rfl
      simp at hy; subst hy
      refine .cons _ _ _ _ hr (ih xs (by simpa using hl) fun j u hu => ?_)
      obtain ⟨y, hy, hr⟩ := h (j + 1) u (by simpa using hu)
      exact ⟨y, by simpa using hy, hr⟩

/-- one cell's value -/
def V.one : V → Bool
  | .agg _ | .tup _ => false
  | _ => true
/-- the cells of a value -/
def V.cells : V → List V
  | .agg cs => cs
  | v => [v]

theorem Rel.one {ρ : Env} {v : V} {x : Value} (h : Rel ρ v x) : x.oneCell' = v.one := by cases h <;> rfl
theorem Rel.cells {ρ : Env} {v : V} {x : Value} (h : Rel ρ v x) : Rels ρ v.cells x.cells.toList := by
  cases h
  case agg cs xs h => simpa [Value.cells, V.cells] using h
  case fn f a b xs ys h1 h2 => simp only [Value.cells, V.cells]; exact .cons _ _ _ _ (.fn _ _ _ _ _ h1 h2) .nil
  case ifc t v x h => simp only [Value.cells, V.cells]; exact .cons _ _ _ _ (.ifc _ _ _ h) .nil
  case tup cs xs h => simp only [Value.cells, V.cells]; exact .cons _ _ _ _ (.tup _ _ h) .nil
  case p id off b h => simp only [Value.cells, V.cells]; exact .cons _ _ _ _ (.p _ _ _ h) .nil
  case sx id off len c b a h h1 h2 => simp only [Value.cells, V.cells]; exact .cons _ _ _ _ (.sx _ _ _ _ _ _ h h1 h2) .nil
  case so id off len sz cap b a h h1 h2 h3 h4 => simp only [Value.cells, V.cells]; exact .cons _ _ _ _ (.so _ _ _ _ _ _ _ h h1 h2 h3 h4) .nil
  case m id b h => simp only [Value.cells, V.cells]; exact .cons _ _ _ _ (.m _ _ h) .nil
  all_goals simp only [Value.cells, V.cells]; exact .cons _ _ _ _ (by constructor) .nil

/-- the objects of the machine's heap -/
inductive O where
  | cells (vs : List V) (e : TypeId) (ro : Bool)
  | map (es : List (V × V × Nat)) (clock : Nat)
  | siter (s : ByteArray) (pos : Nat)
  | miter (m : Option Nat) (since : Nat) (seen : List Nat) (stepped : Nat)

inductive Tr where
  | nil
  | node (o : Option O) (l r : Tr)
def Tr.get : Tr → Nat → Option O
  | .nil, _ => none
  | .node o l r, n => match n with
    | 0 => o
    | n + 1 => if n % 2 = 0 then l.get (n / 2) else r.get (n / 2)
def Tr.set (o : O) : Nat → Tr → Nat → Tr
  | 0, t, _ => t
  | f + 1, .nil, n => match n with
    | 0 => .node (some o) .nil .nil
    | n + 1 => if n % 2 = 0 then .node none (Tr.set o f .nil (n / 2)) .nil else .node none .nil (Tr.set o f .nil (n / 2))
  | f + 1, .node x l r, n => match n with
    | 0 => .node (some o) l r
    | n + 1 => if n % 2 = 0 then .node x (Tr.set o f l (n / 2)) r else .node x l (Tr.set o f r (n / 2))

theorem Tr.get_set (o : O) (f : Nat) : ∀ (t : Tr) (n m : Nat), n < f → (Tr.set o f t n).get m = if m = n then some o else t.get m := by
  induction f with
  | zero => intro t n m h; omega
  | succ f ih =>
    intro t n m h
    cases t with
    | nil =>
      cases n with
      | zero => cases m <;> simp [Tr.set, Tr.get]
      | succ n =>
        cases m with
        | zero => simp only [Tr.set]; split <;> simp [Tr.get]
        | succ m =>
          simp only [Tr.set]
          split
          · simp only [Tr.get]
            split
            · rw [ih _ _ _ (by omega)]
              have : (m / 2 = n / 2) ↔ (m + 1 = n + 1) := by omega
              simp [this, Tr.get]
            · rw [if_neg (by omega)]
          · simp only [Tr.get]
            split
            · rw [if_neg (by omega)]
            · rw [ih _ _ _ (by omega)]
              have : (m / 2 = n / 2) ↔ (m + 1 = n + 1) := by omega
              simp [this, Tr.get]
    | node x l r =>
      cases n with
      | zero => cases m <;> simp [Tr.set, Tr.get]
      | succ n =>
        cases m with
        | zero => simp only [Tr.set]; split <;> simp [Tr.get]
        | succ m =>
          simp only [Tr.set]
          split
          · simp only [Tr.get]
            split
            · rw [ih _ _ _ (by omega)]
              have : (m / 2 = n / 2) ↔ (m + 1 = n + 1) := by omega
              simp [this]
            · rw [if_neg (by omega)]
          · simp only [Tr.get]
            split
            · rw [if_neg (by omega)]
            · rw [ih _ _ _ (by omega)]
              have : (m / 2 = n / 2) ↔ (m + 1 = n + 1) := by omega
              simp [this]

structure Heap where
  next : Nat
  tr : Tr
def Heap.get (H : Heap) (id : Nat) : Option O := H.tr.get id
def Heap.put (H : Heap) (id : Nat) (o : O) : Heap := ⟨H.next, Tr.set o (id + 1) H.tr id⟩
/-- a new object: its name is the old 'next' -/
def Heap.new (H : Heap) (o : O) : Heap := ⟨H.next + 1, Tr.set o (H.next + 1) H.tr H.next⟩
@[simp] theorem Heap.get_put (H : Heap) (id j : Nat) (o : O) : (H.put id o).get j = if j = id then some o else H.get j := by
  simp only [Heap.get, Heap.put]; exact Tr.get_set o _ _ _ _ (by omega)
@[simp] theorem Heap.get_new (H : Heap) (j : Nat) (o : O) : (H.new o).get j = if j = H.next then some o else H.get j := by
  simp only [Heap.get, Heap.new]; exact Tr.get_set o _ _ _ _ (by omega)
@[simp] theorem Heap.next_put (H : Heap) (id : Nat) (o : O) : (H.put id o).next = H.next := rfl
@[simp] theorem Heap.next_new (H : Heap) (o : O) : (H.new o).next = H.next + 1 := rfl

/-- what an object stands for -/
def ORel (N : Nat) (ρ : Env) (w : World) (b : Base) : O → Prop
  | .cells vs e ro => ∃ c fz, w.heap[b.blk]? = some (.cells c e fz) ∧ b.off + vs.length ≤ c.size ∧ (∀ (j : Nat) (v : V), vs[j]? = some v → ∃ x, c[b.off + j]? = some x ∧ Rel ρ v x) ∧
      (ro = false → N ≤ b.blk ∧ b.size = c.size ∧ (fz.1 = fz.2 ∨ c.size ≤ fz.1) ∧ (exactT e = true → b.off = 0 ∧ c.size = vs.length))
  | .map es clock => N ≤ b.blk ∧ ∃ l : List MapEntry, w.heap[b.blk]? = some (.map l.toArray clock) ∧ l.length = es.length ∧
      ∀ (j : Nat) (k v : V) (born : Nat), es[j]? = some (k, v, born) → ∃ x : MapEntry, l[j]? = some x ∧ Rel ρ k x.key ∧ Rel ρ v x.val ∧ x.born = born
  | .siter s pos => N ≤ b.blk ∧ w.heap[b.blk]? = some (.stringIter s pos)
  | .miter m since seen stepped => N ≤ b.blk ∧ b.off = 0 ∧ ∃ mb : Option Nat, (match m with
      | none => mb = none
      | some id => ∃ b', ρ id = some b' ∧ mb = some b'.blk) ∧ w.heap[b.blk]? = some (.mapIter mb since seen.toArray stepped)

def O.own : O → Bool
  | .cells _ _ ro => !ro
  | _ => true

structure HR (N : Nat) (w0 : World) (ρ : Env) (H : Heap) (w : World) : Prop where
  below : Below N w0 w
  nle : N ≤ w.heap.size
  glob : GOk N w0
  fresh : ∀ id, H.next ≤ id → ρ id = none
  obj : ∀ id o, H.get id = some o → ∃ b, ρ id = some b ∧ ORel N ρ w b o
  roN : ∀ id b vs e, H.get id = some (.cells vs e true) → ρ id = some b → b.blk < N
  apart : ∀ i j bi bj oi oj, i ≠ j → H.get i = some oi → H.get j = some oj → oi.own = true → oj.own = true → ρ i = some bi → ρ j = some bj → bi.blk ≠ bj.blk

theorem ORel.mono {N : Nat} {ρ ρ' : Env} {w : World} {b : Base} {o : O} (hl : ρ.le ρ') (h : ORel N ρ w b o) : ORel N ρ' w b o := by
  cases o with
  | cells vs e ro =>
    obtain ⟨c, fz, h1, h2, h3, h4⟩ := h
    exact ⟨c, fz, h1, h2, fun j v hv => let ⟨x, a, r⟩ := h3 j v hv; ⟨x, a, r.mono hl⟩, h4⟩
  | map es clock =>
    obtain ⟨h0, l, h1, h2, h3⟩ := h
    exact ⟨h0, l, h1, h2, fun j k v born hv => let ⟨x, a, r, s, t⟩ := h3 j k v born hv; ⟨x, a, r.mono hl, s.mono hl, t⟩⟩
  | siter s pos => exact h
  | miter m since seen stepped =>
    obtain ⟨h0, h00, mb, h1, h2⟩ := h
    refine ⟨h0, h00, mb, ?_, h2⟩
    cases m with
    | none => exact h1
    | some id => obtain ⟨b', e1, e2⟩ := h1; exact ⟨b', hl _ _ e1, e2⟩

/-- an object reads as it did where its block is as it was -/
theorem ORel.same {N : Nat} {ρ : Env} {w w' : World} {b : Base} {o : O} (hb : w'.heap[b.blk]? = w.heap[b.blk]?) (h : ORel N ρ w b o) : ORel N ρ w' b o := by
  cases o <;> simp only [ORel, hb] at h ⊢ <;> exact h

theorem ORel.ownN {N : Nat} {ρ : Env} {w : World} {b : Base} {o : O} (h : ORel N ρ w b o) (ho : o.own = true) : N ≤ b.blk := by
  cases o with
  | cells vs e ro => obtain ⟨c, fz, _, _, _, h4⟩ := h; simp [O.own] at ho; exact (h4 ho).1
  | map es clock => exact h.1
  | siter s pos => exact h.1
  | miter m since seen stepped => exact h.1

theorem ORel.lt {N : Nat} {ρ : Env} {w : World} {b : Base} {o : O} (h : ORel N ρ w b o) : b.blk < w.heap.size := by
  cases o with
  | cells vs e ro => obtain ⟨c, fz, h, _⟩ := h; exact (Array.getElem?_eq_some_iff.1 h).1
  | map es clock => obtain ⟨_, l, h, _⟩ := h; exact (Array.getElem?_eq_some_iff.1 h).1
  | siter s pos => exact (Array.getElem?_eq_some_iff.1 h.2).1
  | miter m since seen stepped => obtain ⟨_, _, mb, _, h⟩ := h; exact (Array.getElem?_eq_some_iff.1 h).1

section
variable {N : Nat} {w0 w : World} {ρ : Env} {H : Heap}

theorem HR.name_lt (h : HR N w0 ρ H w) {id : Nat} {b : Base} (hb : ρ id = some b) : id < H.next := by
  rcases Nat.lt_or_ge id H.next with h' | h'
  · exact h'
  · rw [h.fresh id h'] at hb; cases hb

theorem HR.get_lt (h : HR N w0 ρ H w) {id : Nat} {o : O} (ho : H.get id = some o) : id < H.next := by
  obtain ⟨b, hb, _⟩ := h.obj id o ho; exact h.name_lt hb

/-- a draw turns nothing -/
theorem HR.drawn (h : HR N w0 ρ H w) (n : Nat) : HR N w0 ρ H { w with drawn := n } :=
  ⟨⟨h.below.os, h.below.tape, h.below.output, h.below.size, h.below.block⟩, h.nle, h.glob, h.fresh, fun id o ho => let ⟨b, hb, hr⟩ := h.obj id o ho; ⟨b, hb, hr.same rfl⟩, h.roN, h.apart⟩

/-- a new block -/
theorem HR.alloc (h : HR N w0 ρ H w) (x : Obj) (o : O) (b : Base) (hb : b.blk = w.heap.size)
    (ho : ORel N (fun id => if id = H.next then some b else ρ id) (w.alloc x) b o) (hown : o.own = true) :
    HR N w0 (fun id => if id = H.next then some b else ρ id) (H.new o) (w.alloc x) ∧ ρ.le (fun id => if id = H.next then some b else ρ id) := by
  have hle : ρ.le (fun id => if id = H.next then some b else ρ id) := by
    intro id b' hb'
    have := h.name_lt hb'
    show (if id = H.next then some b else ρ id) = some b'
    rw [if_neg (by omega)]; exact hb'
  refine ⟨⟨h.below.alloc h.nle x, by simp; have := h.nle; omega, h.glob, ?_, ?_, ?_, ?_⟩, hle⟩
  · intro id hid
    simp only [Heap.next_new] at hid
    show (if id = H.next then some b else ρ id) = none
    rw [if_neg (by omega)]; exact h.fresh id (by omega)
  · intro id o' ho'
    rw [Heap.get_new] at ho'
    by_cases hid : id = H.next
    · rw [if_pos hid] at ho'
      obtain rfl : o = o' := by simpa using ho'
      exact ⟨b, by simp [hid], ho⟩
    · rw [if_neg hid] at ho'
      obtain ⟨b', hb', hr⟩ := h.obj id o' ho'
      refine ⟨b', by simp [hid, hb'], (hr.mono hle).same ?_⟩
      exact Below.heap_alloc _ _ _ hr.lt
  · intro id b' vs e hg hb'
    rw [Heap.get_new] at hg
    by_cases hid : id = H.next
    · rw [if_pos hid] at hg
      obtain rfl : o = _ := by simpa using hg
      simp [O.own] at hown
    · rw [if_neg hid] at hg
      have hb2 : ρ id = some b' := by simpa [hid] using hb'
      exact h.roN id b' vs e hg hb2
  · intro i j bi bj oi oj hij hi hj hoi hoj hbi hbj
    rw [Heap.get_new] at hi hj
    have key : ∀ (k : Nat) (bk : Base) (ok : O), k ≠ H.next → H.get k = some ok → ρ k = some bk → bk.blk < w.heap.size := by
      intro k bk ok _ hk hbk
      obtain ⟨b', hb', hr⟩ := h.obj k ok hk
      rw [hbk] at hb'; cases hb'; exact hr.lt
    by_cases h1 : i = H.next
    · have h2 : j ≠ H.next := fun e => hij (h1.trans e.symm)
      rw [if_neg h2] at hj
      have hbi' : some b = some bi := by simpa [h1] using hbi
      have hbj' : ρ j = some bj := by simpa [h2] using hbj
      cases hbi'
      have := key j bj oj h2 hj hbj'
      rw [hb]; omega
    · rw [if_neg h1] at hi
      have hbi' : ρ i = some bi := by simpa [h1] using hbi
      by_cases h2 : j = H.next
      · have hbj' : some b = some bj := by simpa [h2] using hbj
        cases hbj'
        have := key i bi oi h1 hi hbi'
        rw [hb]; omega
      · rw [if_neg h2] at hj
        have hbj' : ρ j = some bj := by simpa [h2] using hbj
        exact h.apart i j bi bj oi oj hij hi hj hoi hoj hbi' hbj'

/-- an own object is written: its block alone turns -/
theorem HR.write (h : HR N w0 ρ H w) {id : Nat} {o o' : O} {b : Base} (ho : H.get id = some o) (hb : ρ id = some b) (hown : o.own = true) (hown' : o'.own = true)
    {w' : World} (hs : w'.heap.size = w.heap.size) (hos : w'.os = w.os) (htape : w'.tape = w.tape) (hout : w'.output = w.output)
    (hblk : ∀ k, k ≠ b.blk → w'.heap[k]? = w.heap[k]?) (hr : ORel N ρ w' b o') : HR N w0 ρ (H.put id o') w' := by
  obtain ⟨b1, hb1, hr1⟩ := h.obj id o ho
  obtain rfl : b = b1 := by rw [hb] at hb1; exact Option.some.inj hb1
  have hN := hr1.ownN hown
  refine ⟨⟨hos.trans h.below.os, htape.trans h.below.tape, hout.trans h.below.output, hs ▸ h.below.size, fun k hk => (hblk k (by omega)).trans (h.below.block k hk)⟩, hs ▸ h.nle, h.glob, h.fresh, ?_, ?_, ?_⟩
  · intro j oj hj
    rw [Heap.get_put] at hj
    by_cases hij : j = id
    · rw [if_pos hij] at hj
      obtain rfl : o' = oj := by simpa using hj
      exact ⟨b, hij ▸ hb, hr⟩
    · rw [if_neg hij] at hj
      obtain ⟨bj, hbj, hrj⟩ := h.obj j oj hj
      refine ⟨bj, hbj, hrj.same (hblk _ ?_)⟩
      by_cases hoj : oj.own = true
      · exact fun e => h.apart j id bj b oj o hij hj ho hoj hown hbj hb e
      · cases oj with
        | cells vs e ro =>
          have : ro = true := by simpa [O.own] using hoj
          subst this
          have := h.roN j bj vs e hj hbj
          omega
        | map _ _ => simp [O.own] at hoj
        | siter _ _ => simp [O.own] at hoj
        | miter _ _ _ _ => simp [O.own] at hoj
  · intro j bj vs e hj hbj
    rw [Heap.get_put] at hj
    by_cases hij : j = id
    · rw [if_pos hij] at hj
      obtain rfl : o' = _ := by simpa using hj
      simp [O.own] at hown'
    · rw [if_neg hij] at hj; exact h.roN j bj vs e hj hbj
  · intro i j bi bj oi oj hij hi hj hoi hoj hbi hbj
    rw [Heap.get_put] at hi hj
    have fix : ∀ (k : Nat) (ok : O), (if k = id then some o' else H.get k) = some ok → ok.own = true → ∃ ok', H.get k = some ok' ∧ ok'.own = true := by
      intro k ok hk hok
      by_cases hki : k = id
      · subst hki; exact ⟨o, ho, hown⟩
      · rw [if_neg hki] at hk; exact ⟨ok, hk, hok⟩
    obtain ⟨oi', hi', hoi'⟩ := fix i oi hi hoi
    obtain ⟨oj', hj', hoj'⟩ := fix j oj hj hoj
    exact h.apart i j bi bj oi' oj' hij hi' hj' hoi' hoj' hbi hbj

/-- an object may be forgotten: here, that a heap with fewer objects stands as well -/
theorem HR.forget (h : HR N w0 ρ H w) {H' : Heap} (hn : H'.next = H.next) (hsub : ∀ id o, H'.get id = some o → H.get id = some o) : HR N w0 ρ H' w :=
  ⟨h.below, h.nle, h.glob, fun id hid => h.fresh id (hn ▸ hid), fun id o ho => h.obj id o (hsub id o ho), fun id b vs e hg hb => h.roN id b vs e (hsub _ _ hg) hb,
    fun i j bi bj oi oj hij hi hj hoi hoj hbi hbj => h.apart i j bi bj oi oj hij (hsub _ _ hi) (hsub _ _ hj) hoi hoj hbi hbj⟩
end

end Go.Proofs.YteipplgcdbaokaaDoor.AM
