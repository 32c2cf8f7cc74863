/- Facts about heaps, slices and loops, for reasoning about printed functions. -/
import Derived.Test.YteipplgcdbaokaaDoorAm28
namespace Go.Proofs.YteipplgcdbaokaaDoor.AM
open Go Go.RowKit

/-- every object has a name below the next one -/
def Heap.Wf (H : Heap) : Prop := ∀ id o, H.get id = some o → id < H.next
theorem Heap.Wf.new {H : Heap} (h : H.Wf) (o : O) : (H.new o).Wf := by
  intro id x hx
  rw [Heap.get_new] at hx
  rw [Heap.next_new]
  split at hx
  · omega
  · have := h id x hx; omega
theorem Heap.Wf.put {H : Heap} (h : H.Wf) {id : Nat} {x : O} (hx : H.get id = some x) (o : O) : (H.put id o).Wf := by
  intro j y hy
  rw [Heap.get_put] at hy
  rw [Heap.next_put]
  split at hy
  · rename_i e; subst e; exact h _ _ hx
  · exact h j y hy
theorem noHeap_Wf : noHeap.Wf := fun id o h => by simp [noHeap, Heap.get, Tr.get] at h
@[simp] theorem noHeap_next : noHeap.next = 0 := rfl

theorem Heap.Wf.drop {H : Heap} (h : H.Wf) (id : Nat) : (H.drop id).Wf := by
  intro j y hy
  rw [Heap.get_drop] at hy
  split at hy
  · cases hy
  · exact h j y hy

theorem Tr.set_set (o1 o2 : O) : ∀ (f : Nat) (t : Tr) (n : Nat), Tr.set o2 f (Tr.set o1 f t n) n = Tr.set o2 f t n := by
  intro f
  induction f with
  | zero => intro t n; rfl
  | succ f ih =>
    intro t n
    cases t with
    | nil =>
      cases n with
      | zero => rfl
      | succ n => simp only [Tr.set]; split <;> simp_all [Tr.set]
    | node x l r =>
      cases n with
      | zero => rfl
      | succ n => simp only [Tr.set]; split <;> simp_all [Tr.set]
theorem Tr.set_self {o : O} : ∀ (f : Nat) (t : Tr) (n : Nat), t.get n = some o → Tr.set o f t n = t := by
  intro f
  induction f with
  | zero => intro t n _; rfl
  | succ f ih =>
    intro t n h
    cases t with
    | nil => simp [Tr.get] at h
    | node x l r =>
      cases n with
      | zero => simp [Tr.get] at h; simp [Tr.set, h]
      | succ n =>
        simp only [Tr.get] at h
        simp only [Tr.set]
        split at h
        · rename_i hn; rw [if_pos hn, ih _ _ h]
        · rename_i hn; rw [if_neg hn, ih _ _ h]
@[simp] theorem Heap.put_put (H : Heap) (id : Nat) (o1 o2 : O) : (H.put id o1).put id o2 = H.put id o2 := by
  simp only [Heap.put, Tr.set_set]
theorem Heap.put_self {H : Heap} {id : Nat} {o : O} (h : H.get id = some o) : H.put id o = H := by
  simp only [Heap.put]; rw [Tr.set_self _ _ _ h]

theorem Heap.gput (H : Heap) (id : Nat) (o : O) : (H.put id o).get id = some o := by simp
theorem Heap.gnew (H : Heap) (o : O) : (H.new o).get H.next = some o := by simp
section
variable {H : Heap} {id off : Nat} {vs : List V} {e : TypeId} {ro : Bool}
theorem ld_of (h : H.get id = some (.cells vs e ro)) : H.ld id off = vs[off]? := by simp [Heap.ld, h]
theorem ldI_of (h : H.get id = some (.cells vs e ro)) {k : IntKind} {n : Int} (hv : vs[off]? = some (.i k n)) : H.ldI k id off = some n := by simp [Heap.ldI, ld_of h, hv, V.asI]
theorem ldB_of (h : H.get id = some (.cells vs e ro)) {x : Bool} (hv : vs[off]? = some (.b x)) : H.ldB id off = some x := by simp [Heap.ldB, ld_of h, hv, V.asB]
theorem ldS_of (h : H.get id = some (.cells vs e ro)) {x : ByteArray} (hv : vs[off]? = some (.s x)) : H.ldS id off = some x := by simp [Heap.ldS, ld_of h, hv, V.asS]
theorem ldP_of (h : H.get id = some (.cells vs e ro)) {x : Option (Nat × Nat)} (hv : vs[off]? = some (.p x)) : H.ldP id off = some x := by simp [Heap.ldP, ld_of h, hv, V.asP]
theorem ldSl_of (h : H.get id = some (.cells vs e ro)) {x : Sl} (hv : vs[off]? = some (.sl x)) : H.ldSl id off = some x := by simp [Heap.ldSl, ld_of h, hv, V.asSl]
theorem ldM_of (h : H.get id = some (.cells vs e ro)) {x : Option Nat} (hv : vs[off]? = some (.m x)) : H.ldM id off = some x := by simp [Heap.ldM, ld_of h, hv, V.asM]
theorem st_of (h : H.get id = some (.cells vs e false)) {v : V} (ho : off < vs.length) (hv : v.one = true) : H.st id off v = some (H.put id (.cells (vs.set off v) e false)) := by simp [Heap.st, h, ho, hv]
theorem sts_of (h : H.get id = some (.cells vs e false)) {l : List V} (ho : off + l.length ≤ vs.length) (hv : l.all V.one = true) : H.sts id off l = some (H.put id (.cells (splice vs off l) e false)) := by
  simp only [Heap.sts, h, ho, if_true, hv]
theorem lds_of (h : H.get id = some (.cells vs e ro)) {n : Nat} (ho : off + n ≤ vs.length) : H.lds id off n = some ((vs.drop off).take n) := by simp [Heap.lds, h, ho]
end

/-- nothing that was there has turned, except what S names -/
structure Fr' (S : Nat → Prop) (H H' : Heap) : Prop where
  next : H.next ≤ H'.next
  same : ∀ i, i < H.next → ¬ S i → H'.get i = H.get i
abbrev Ext (H H' : Heap) : Prop := Fr' (fun _ => False) H H'
theorem Fr'.refl (S : Nat → Prop) (H : Heap) : Fr' S H H := ⟨Nat.le_refl _, fun _ _ _ => rfl⟩
theorem Fr'.trans {S : Nat → Prop} {H H' H'' : Heap} (h : Fr' S H H') (h' : Fr' S H' H'') : Fr' S H H'' :=
  ⟨Nat.le_trans h.next h'.next, fun i hi hs => (h'.same i (Nat.lt_of_lt_of_le hi h.next) hs).trans (h.same i hi hs)⟩
theorem Fr'.mono {S T : Nat → Prop} {H H' : Heap} (h : Fr' S H H') (hst : ∀ i, i < H.next → S i → T i) : Fr' T H H' := ⟨h.next, fun i hi ht => h.same i hi fun hs => ht (hst i hi hs)⟩
theorem Fr'.get {S : Nat → Prop} {H H' : Heap} (h : Fr' S H H') (hw : H.Wf) {i : Nat} {o : O} (ho : H.get i = some o) (hs : ¬ S i) : H'.get i = some o := (h.same i (hw _ _ ho) hs).trans ho
theorem Ext.get {H H' : Heap} (h : Ext H H') (hw : H.Wf) {i : Nat} {o : O} (ho : H.get i = some o) : H'.get i = some o := Fr'.get h hw ho fun h => h
theorem Ext.fr {S : Nat → Prop} {H H' : Heap} (h : Ext H H') : Fr' S H H' := h.mono fun _ _ h => h.elim
theorem Ext.new (H : Heap) (o : O) : Ext H (H.new o) := ⟨by simp, fun i hi _ => by rw [Heap.get_new, if_neg (by omega)]⟩
theorem Fr'.put {S : Nat → Prop} (H : Heap) {id : Nat} (hs : S id) (o : O) : Fr' S H (H.put id o) := ⟨Nat.le_refl _, fun i _ hn => by rw [Heap.get_put, if_neg (by rintro rfl; exact hn hs)]⟩
/-- what is written above all that was there -/
theorem Fr'.above {S : Nat → Prop} {H0 H : Heap} (h : Fr' S H0 H) {id : Nat} (hs : H0.next ≤ id) (o : O) : Fr' S H0 (H.put id o) := ⟨h.next, fun i hi hn => by rw [Heap.get_put, if_neg (by omega)]; exact h.same i hi hn⟩

/-- a loop by an invariant and a measure -/
theorem tlim_inv {σ ρ : Type} {b : σ → Heap → Option (Rd σ ρ × Heap)} (I : σ → Heap → Prop) (m : σ → Nat) (Q : ρ → Heap → Prop)
    (step : ∀ s H, I s H → (∃ s' H', b s H = some (.go s', H') ∧ I s' H' ∧ m s' < m s) ∨ (∃ r H', b s H = some (.up r, H') ∧ Q r H')) :
    ∀ s H, I s H → ∃ r H', tlim b s H = some (r, H') ∧ Q r H' := by
  have : ∀ (n : Nat) s H, m s < n → I s H → ∃ r H', tlim b s H = some (r, H') ∧ Q r H' := by
    intro n
    induction n with
    | zero => intro s H h; omega
    | succ n ih =>
      intro s H hm hi
      rcases step s H hi with ⟨s', H', h1, h2, h3⟩ | ⟨r, H', h1, h2⟩
      · obtain ⟨r, H'', h4, h5⟩ := ih s' H' (by omega) h2
        exact ⟨r, H'', (tlim_go h1).trans h4, h5⟩
      · exact ⟨r, H', tlim_up h1, h2⟩
  exact fun s H hi => this (m s + 1) s H (by omega) hi

/-- the cells of a slice -/
def SlIs (H : Heap) (sz : Nat) (s : Sl) (l : List V) : Prop := slCells H sz s = some l
theorem SlIs.nil (H : Heap) (sz : Nat) : SlIs H sz ⟨none, 0, .ex 0⟩ [] := by simp [SlIs, slCells]
theorem slIs_of {H : Heap} {sz id off len : Nat} {c : Cap} {vs : List V} {e : TypeId} {ro : Bool} (h : H.get id = some (.cells vs e ro)) (ho : off + len * sz ≤ vs.length) : SlIs H sz ⟨some (id, off), len, c⟩ ((vs.drop off).take (len * sz)) := by
  unfold SlIs slCells
  split
  · rename_i h0; rw [show len * sz = 0 from h0]; simp
  · simp only [lds_of h ho]
/-- a slice that has been built by appending: nil, or all of an object of its own from its beginning -/
inductive Own (H : Heap) (e : TypeId) (sz : Nat) : Sl → List V → Prop
  | nil : Own H e sz ⟨none, 0, .ex 0⟩ []
  | op (id n : Nat) (l : List V) : H.get id = some (.cells l e false) → l.length = n * sz → l.all V.one = true → Own H e sz ⟨some (id, 0), n, .op sz⟩ l
theorem Own.slIs {H : Heap} {e : TypeId} {sz : Nat} {s : Sl} {l : List V} (h : Own H e sz s l) : SlIs H sz s l := by
  cases h with
  | nil => exact .nil _ _
  | op id n _ h hl _ =>
    have := slIs_of (off := 0) (len := n) (sz := sz) (c := .op sz) h (by omega)
    rw [List.drop_zero, List.take_of_length_le (by omega)] at this
    exact this
theorem Own.mono {H H' : Heap} {e : TypeId} {sz : Nat} {s : Sl} {l : List V} (h : Own H e sz s l) (hg : ∀ id o, s.a = some (id, 0) → H.get id = some o → H'.get id = some o) : Own H' e sz s l := by
  cases h with
  | nil => exact .nil
  | op id n _ h hl hv => exact .op id n _ (hg id _ rfl h) hl hv
theorem Own.len {H : Heap} {e : TypeId} {sz : Nat} {s : Sl} {l : List V} (h : Own H e sz s l) : l.length = s.len * sz := by
  cases h with
  | nil => simp
  | op id n _ h hl _ => exact hl
theorem Own.ones {H : Heap} {e : TypeId} {sz : Nat} {s : Sl} {l : List V} (h : Own H e sz s l) : l.all V.one = true := by
  cases h with
  | nil => rfl
  | op id n _ h hl hv => exact hv
theorem Own.lt {H : Heap} (hw : H.Wf) {e : TypeId} {sz : Nat} {s : Sl} {l : List V} (h : Own H e sz s l) {id off : Nat} (ha : s.a = some (id, off)) : id < H.next := by
  cases h with
  | nil => cases ha
  | op id' n _ h hl hv => cases ha; exact hw _ _ h
/-- the name of a slice's object, if it has one, is not below n -/
def Sl.above (n : Nat) (s : Sl) : Prop := ∀ id off, s.a = some (id, off) → n ≤ id
theorem own_append {H : Heap} (hw : H.Wf) {e : TypeId} {sz bytes : Nat} {x : Sl} {l : List V} (h : Own H e sz x l) {n : Nat} {new : List V} (hn : 0 < n) (hz : 0 < sz) (hl : new.length = n * sz) (ho : new.all V.one = true)
    (hb : (x.len + n) * bytes ≤ 140737488355328) (hm : x.len + n ≤ 9223372036854775807) :
    ∃ r H', (∀ (R : Type) (K : Sl → Heap → Option R), appendV H e sz bytes x n new K = K r H') ∧ Own H' e sz r (l ++ new) ∧ r.len = x.len + n ∧ r.a = some (H.next, 0) ∧ H'.Wf ∧ H'.next = H.next + 1 ∧
      ∀ i, i ≠ H.next → x.a ≠ some (i, 0) → H'.get i = H.get i := by
  cases h with
  | nil =>
    refine ⟨⟨some (H.next, 0), 0 + n, .op sz⟩, H.new (.cells new e false), fun R K => ?_, ?_, rfl, rfl, hw.new _, rfl, fun i hi _ => by rw [Heap.get_new, if_neg hi]⟩
    · simp only [appendV]
      rw [if_neg (by omega), if_neg (by omega)]
      rw [if_pos ⟨by simpa using hb, by simpa using hm⟩]
    · rw [List.nil_append, Nat.zero_add]
      exact .op _ _ _ (by simp) hl ho
  | op id k _ hg hlen hones =>
    refine ⟨⟨some (H.next, 0), k + n, .op sz⟩, (H.drop id).new (.cells (l ++ new) e false), fun R K => ?_, ?_, rfl, rfl, (hw.drop id).new _, rfl, fun i hi hx => ?_⟩
    · simp only [appendV]
      have h2 : ¬ (0 + (k + n) * sz ≤ l.length) := by rw [hlen, Nat.add_mul]; have := Nat.mul_pos hn hz; omega
      have h3 : 0 + k * sz ≤ l.length := by omega
      simp only at hb hm
      rw [if_neg (by omega), if_neg (by omega)]
      simp only [true_and]
      rw [if_pos ⟨hb, hm⟩]
      simp only [hg, if_true, h2, if_false, h3, ho, true_and, List.drop_zero]
      rw [List.take_of_length_le (by omega)]
    · refine .op _ _ _ (by simp) (by simp [hlen, hl, Nat.add_mul]) (by simp [hones, ho])
    · have hne : i ≠ id := fun e => hx (by rw [e])
      rw [Heap.get_new, if_neg (by simpa using hi), Heap.get_drop, if_neg hne]

theorem w64 {n : Int} (h : -9223372036854775808 ≤ n ∧ n ≤ 9223372036854775807) : IntKind.wrap .i64 n = n := by
  simp [IntKind.wrap, IntKind.bits, IntKind.signed]
  split <;> omega
theorem w8u {n : Int} (h : 0 ≤ n ∧ n ≤ 255) : IntKind.wrap .u8 n = n := by
  simp [IntKind.wrap, IntKind.bits, IntKind.signed]
  omega
theorem w16u {n : Int} (h : 0 ≤ n ∧ n ≤ 65535) : IntKind.wrap .u16 n = n := by
  simp [IntKind.wrap, IntKind.bits, IntKind.signed]
  omega
theorem w32u {n : Int} (h : 0 ≤ n ∧ n ≤ 4294967295) : IntKind.wrap .u32 n = n := by
  simp [IntKind.wrap, IntKind.bits, IntKind.signed]
  omega
theorem V.same_refl1 (v : V) : V.same1 v v = true ∨ V.same1 v v = false := by cases V.same1 v v <;> simp
@[simp] theorem same_i (k : IntKind) (n : Int) : V.same (.i k n) (.i k n) = true := by simp [V.same, V.same1]
@[simp] theorem same_b (x : Bool) : V.same (.b x) (.b x) = true := by simp [V.same, V.same1]
@[simp] theorem same_s (x : ByteArray) : V.same (.s x) (.s x) = true := by simp [V.same, V.same1]
@[simp] theorem same_p (x : Option (Nat × Nat)) : V.same (.p x) (.p x) = true := by simp [V.same, V.same1]
@[simp] theorem same_m (x : Option Nat) : V.same (.m x) (.m x) = true := by simp [V.same, V.same1]
@[simp] theorem same_sl (x : Sl) : V.same (.sl x) (.sl x) = true := by
  obtain ⟨a, l, c⟩ := x
  cases c <;> simp [V.same, V.same1]
end Go.Proofs.YteipplgcdbaokaaDoor.AM
