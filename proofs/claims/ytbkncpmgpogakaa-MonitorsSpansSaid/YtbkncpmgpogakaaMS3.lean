/- The law's helpers over the machine's heap: units and arguments. -/
import Derived.Test.YtbkncpmgpogakaaMS2
namespace Go.Proofs.Ytbkncpmgpogakaa
open Go AM Go.RowKit
set_option linter.unusedVariables false
set_option linter.unusedSimpArgs false

/-- the units of a text -/
def unitsL (t : ByteArray) : List Bool := t.data.toList.map fun c => decide (c ≠ 120)
theorem unitsL_length (t : ByteArray) : (unitsL t).length = t.size := by simp [unitsL]
theorem unit_at {t : ByteArray} {i : Nat} (h : i < t.size) : (btAt t (i : Int) != 120) = (unitsL t)[i]'(by rw [unitsL_length]; exact h) := by
  have h' : i < t.data.toList.length := by simpa using h
  simp only [btAt, unitsL, Int.toNat_natCast, List.getElem_map]
  rw [List.getD_eq_getElem?_getD, List.getElem?_eq_getElem h', Option.getD_some]
  generalize t.data.toList[i] = c
  by_cases hc : c = 120
  · subst hc; decide
  · have : c.toNat ≠ 120 := fun e => hc (UInt8.toNat_inj.1 (by rw [e]; rfl))
    have h2 : ((c.toNat : Int) != 120) = true := by simp; omega
    simp [h2, hc]
theorem s11 {H : Heap} (hw : H.Wf) {t : ByteArray} (ht : t.size ≤ 1000) : ∃ s H', (∀ (R : Type) (K : Sl → Heap → Option R), g11 R t H K = K s H') ∧ Own H' 4 1 s ((unitsL t).map V.b) ∧ H'.Wf ∧ Ext H H' ∧ s.above H.next := by
  obtain ⟨r, H', e, h1, h2, h3, h4⟩ := tlim_inv (b := g11_p2_b) (fun s G => ∃ (i : Nat), s.1 = t ∧ s.2.2 = (i : Int) ∧ i ≤ t.size ∧ Own G 4 1 s.2.1 (((unitsL t).take i).map V.b) ∧ G.Wf ∧ Ext H G ∧ s.2.1.above H.next)
    (fun s => t.size - s.2.2.toNat) (fun s G => Own G 4 1 s ((unitsL t).map V.b) ∧ G.Wf ∧ Ext H G ∧ s.above H.next) (by
      rintro ⟨t', s, i'⟩ G ⟨i, h1, h2, h3, h4, h5, h6, h7⟩
      dsimp only at h1 h2 h3 h4 h5 h6 h7
      subst h1
      subst h2
      by_cases hi : i < t'.size
      · left
        have hlt : i < (unitsL t').length := by rw [unitsL_length]; exact hi
        have hd : decide ((i : Int) < ((t'.size : Nat) : Int)) = true := by simp; omega
        have hlen := h4.len
        simp only [List.length_map, List.length_take, Nat.mul_one] at hlen
        have h4' : Own (G.new (.cells [V.b (unitsL t')[i]] 4 false)) 4 1 s (((unitsL t').take i).map V.b) := h4.mono fun id o ha ho => by
          rw [Heap.get_new, if_neg (by have := h5 _ _ ho; omega)]; exact ho
        obtain ⟨r, H', e1, e2, e3, e4, e5, e6, e7⟩ := own_append (h5.new (.cells [V.b (unitsL t')[i]] 4 false)) (bytes := 1) h4' (n := 1) (new := [V.b (unitsL t')[i]]) (by omega) (by omega) rfl rfl (by omega) (by omega)
        refine ⟨(t', r, ((i + 1 : Nat) : Int)), H', ?_, ⟨i + 1, rfl, rfl, by omega, ?_, e5, ?_, ?_⟩, by dsimp only; omega⟩
        · simp only [g11_p2_b, g11_p1, hd, sel_true]
          rw [if_pos (by omega), unit_at hi]
          simp only [alo]
          rw [show slCells (G.new (.cells [V.b (unitsL t')[i]] 4 false)) 1 ⟨some (G.next, 0), 1, .ex 1⟩ = some [V.b (unitsL t')[i]] by simp [slCells, Heap.lds]]
          simp only [Option.bind_some]
          rw [e1, w64 (by omega)]
          rfl
        · rw [List.take_add_one, List.getElem?_eq_getElem hlt, List.map_append]; exact e2
        · refine ⟨by rw [e6]; have := h6.next; simp; omega, fun j hj _ => ?_⟩
          have hn := h6.next
          rw [e7 j (by simp; omega) (fun hx => by have := h7 _ _ hx; omega), Heap.get_new, if_neg (by omega)]
          exact h6.same j hj fun h => h
        · intro id off ha
          rw [e4] at ha
          cases ha
          have := h6.next
          simp; omega
      · right
        have hd : decide ((i : Int) < ((t'.size : Nat) : Int)) = false := by simp; omega
        obtain rfl : i = t'.size := by omega
        refine ⟨s, G, ?_, ?_, h5, h6, h7⟩
        · simp only [g11_p2_b, g11_p1, hd, sel_false]
        · rw [List.take_of_length_le (by rw [unitsL_length]; exact Nat.le_refl _)] at h4; exact h4) (t, ⟨none, 0, .ex 0⟩, 0) H ⟨0, rfl, rfl, by omega, by simpa using Own.nil, hw, Fr'.refl _ _, fun _ _ h => by cases h⟩
  refine ⟨r, H', fun R K => ?_, h1, h2, h3, h4⟩
  simp only [g11, g11_r, g11_p6, g11_p0, g11_p5, g11_p3, g11_p2, g11_p4, e, Option.bind_some]

/-- the arguments of the law's monitor -/
structure Args where
  k : Int
  l : Int
  s : Int
  u : Int
  d : Int
def Args.cells (a : Args) : List V := [.i .u8 a.k, .i .u8 a.l, .i .u8 a.s, .i .u8 a.u, .i .u8 a.d]
structure Args.Ok (a : Args) : Prop where
  k : 0 ≤ a.k ∧ a.k ≤ 255
  l : 0 ≤ a.l ∧ a.l ≤ 255
  s : 0 ≤ a.s ∧ a.s ≤ 255
  u : 0 ≤ a.u ∧ a.u ≤ 255
  d : 0 ≤ a.d ∧ a.d ≤ 255
def Args.lim (a : Args) : Int := 1 + a.l % 40
def Args.sz (a : Args) : Int := 1 + a.s % 20
def Args.up (a : Args) : Int := 1 + a.u % 20
def Args.dn (a : Args) : Int := 1 + a.d % 20
/-- its monitor -/
def Args.mon (a : Args) : Ms := if a.k % 3 = 0 then ⟨0, 0, a.lim, a.sz, 1, 1, 0, false⟩ else if a.k % 3 = 1 then ⟨1, 0, a.lim, 1, 1, 1, 0, false⟩ else ⟨2, 0, a.lim, a.sz, a.up, a.dn, 0, false⟩
theorem Args.mon_ok {a : Args} (h : a.Ok) : a.mon.Ok := by
  have h1 := h.l; have h2 := h.s; have h3 := h.u; have h4 := h.d
  unfold Args.mon Args.lim Args.sz Args.up Args.dn
  split
  · exact ⟨by dsimp only; omega, by dsimp only; omega, by dsimp only; omega, by dsimp only; omega, by dsimp only; omega, by dsimp only; omega, by dsimp only; omega⟩
  · split
    · exact ⟨by dsimp only; omega, by dsimp only; omega, by dsimp only; omega, by dsimp only; omega, by dsimp only; omega, by dsimp only; omega, by dsimp only; omega⟩
    · exact ⟨by dsimp only; omega, by dsimp only; omega, by dsimp only; omega, by dsimp only; omega, by dsimp only; omega, by dsimp only; omega, by dsimp only; omega⟩
theorem Args.mon_new (a : Args) : a.mon.New := by unfold Args.mon Ms.New; split <;> (try split) <;> exact ⟨rfl, rfl⟩
theorem tmodI {a b : Int} (h : 0 ≤ a) : Int.tmod a b = a % b := Int.tmod_eq_emod_of_nonneg h
section
variable {R : Type} {H : Heap} {a : Args}
theorem s12 (ha : a.Ok) (K : Int → Int → Int → Int → Heap → Option R) : g12 R a.k a.l a.s a.u a.d H K = K a.lim a.sz a.up a.dn (H.new (.cells a.cells 23 false)) := by
  have h1 := ha.l; have h2 := ha.s; have h3 := ha.u; have h4 := ha.d
  have g := Heap.gnew H (.cells a.cells 23 false)
  simp only [Args.cells] at g
  simp only [g12, g12_r, g12_p0, alo, Nat.zero_add, ldI_of (off := 1) g rfl, ldI_of (off := 2) g rfl, ldI_of (off := 3) g rfl, ldI_of (off := 4) g rfl, Option.bind_some]
  rw [tmodI h1.1, tmodI h2.1, tmodI h3.1, tmodI h4.1]
  simp only [w64 (n := a.l % 40) (by omega), w64 (n := a.s % 20) (by omega), w64 (n := a.u % 20) (by omega), w64 (n := a.d % 20) (by omega)]
  rw [w64 (by omega), w64 (by omega), w64 (by omega), w64 (by omega)]
  rfl
end

/-! the checks of arguments -/
def okA (n : Int) : Bool := decide (1 ≤ n) && decide (n ≤ 1048576)
section
variable {R : Type} {H : Heap}
theorem s21 (n : Int) (K : Bool → Heap → Option R) : g21 R n H K = K (!okA n) H := by
  simp only [g21, g21_r, g21_p0]
  unfold okA
  by_cases h1 : n < 1
  · have : ¬ 1 ≤ n := by omega
    simp [h1, this]
  · have h2 : 1 ≤ n := by omega
    by_cases h3 : n > 1048576
    · have : ¬ n ≤ 1048576 := by omega
      simp [h1, h2, h3, this]
    · have : n ≤ 1048576 := by omega
      simp [h1, h2, h3, this]
theorem s22 {id : Nat} {l : List Int} {e : TypeId} {ro : Bool} (h : H.get id = some (.cells (l.map (V.i .i64)) e ro)) (hl : l.length ≤ 1000) {c : Cap} (K : Int → Heap → Option R) :
    g22 R ⟨some (id, 0), l.length, c⟩ H K = K (match l.findIdx? (fun x => !okA x) with | none => -1 | some j => (j : Int)) H := by
  obtain ⟨r, H', e1, e2⟩ := tlim_inv (b := g22_p2_b g21) (fun s G => G = H ∧ ∃ i : Nat, s = (⟨some (id, 0), l.length, c⟩, (l.length : Int), (i : Int)) ∧ i ≤ l.length ∧ (l.take i).all okA = true)
    (fun s => l.length - s.2.2.toNat) (fun r G => G = H ∧ r = match l.findIdx? (fun x => !okA x) with | none => .inl () | some j => .inr (j : Int)) (by
      rintro s G ⟨rfl, i, rfl, h2, h3⟩
      by_cases hi : i < l.length
      · have hd : decide ((i : Int) < (l.length : Int)) = true := by simp; omega
        have hld : G.ldI .i64 id (0 + (i : Int).toNat * 1) = some l[i] := ldI_of h (by simp [hi])
        by_cases ho : okA l[i] = true
        · left
          refine ⟨(⟨some (id, 0), l.length, c⟩, (l.length : Int), ((i + 1 : Nat) : Int)), G, ?_, ⟨rfl, i + 1, rfl, by omega, ?_⟩, by dsimp only; omega⟩
          · simp only [g22_p2_b, g22_p1, hd, sel_true]
            rw [if_pos (by omega)]
            simp only [Option.bind_some, hld, s21, ho, Bool.not_true, sel_false]
            rw [w64 (by omega)]
            rfl
          · rw [List.take_add_one, List.getElem?_eq_getElem hi, List.all_append, h3]; simp [ho]
        · right
          refine ⟨.inr (i : Int), G, ?_, rfl, ?_⟩
          · simp only [g22_p2_b, g22_p1, hd, sel_true]
            rw [if_pos (by omega)]
            simp only [Option.bind_some, hld, s21, ho, Bool.not_false, sel_true]
          · have : l.findIdx? (fun x => !okA x) = some i := by
              rw [List.findIdx?_eq_some_iff_getElem]
              refine ⟨hi, by simpa using ho, fun j hj => ?_⟩
              have := List.all_eq_true.1 h3 l[j] (by rw [List.mem_take_iff_getElem]; exact ⟨j, by omega, rfl⟩)
              simp [this]
            rw [this]
      · right
        have hd : decide ((i : Int) < (l.length : Int)) = false := by simp; omega
        refine ⟨.inl (), G, ?_, rfl, ?_⟩
        · simp only [g22_p2_b, g22_p1, hd, sel_false]
        · rw [List.take_of_length_le (by omega)] at h3
          have : l.findIdx? (fun x => !okA x) = none := by
            rw [List.findIdx?_eq_none_iff]; intro x hx; simp [List.all_eq_true.1 h3 x hx]
          rw [this]) (⟨some (id, 0), l.length, c⟩, (l.length : Int), 0) H ⟨rfl, 0, rfl, by omega, rfl⟩
  obtain ⟨rfl, e3⟩ := e2
  subst e3
  simp only [g22, g22_r, g22_p6, g22_p0, g22_p5, g22_p3, g22_p2, g22_p4, e1, Option.bind_some]
  cases l.findIdx? (fun x => !okA x) with
  | none => rfl
  | some j => rfl
theorem s19 {id : Nat} {l : List Int} {e : TypeId} {ro : Bool} (h : H.get id = some (.cells (l.map (V.i .i64)) e ro)) (hl : l.length ≤ 1000) {c : Cap} (K : Bool → Heap → Option R) :
    g19 R ⟨some (id, 0), l.length, c⟩ H K = K (l.all okA) H := by
  simp only [g19, g19_r, g19_p0, g20, g20_r, g20_p0, s22 h hl]
  congr 1
  cases hf : l.findIdx? (fun x => !okA x) with
  | none =>
    rw [List.findIdx?_eq_none_iff] at hf
    have : l.all okA = true := by rw [List.all_eq_true]; intro x hx; simpa using hf x hx
    rw [this]; rfl
  | some j =>
    obtain ⟨hj, h1, _⟩ := List.findIdx?_eq_some_iff_getElem.1 hf
    have : l.all okA = false := by
      rw [← Bool.not_eq_true]; intro hall
      rw [List.all_eq_true.1 hall l[j] (List.getElem_mem hj)] at h1; cases h1
    rw [this]; simp
theorem s16 (l s : Int) (K : V → Int → Heap → Option R) : g16 R l s H K = if (okA l && okA s) = true then K (.ifc 54 (.p (some (H.next + 1, 0)))) 0 ((H.new (.cells [.i .i64 l, .i .i64 s] 3 false)).new (.cells [.i .i64 0, .i .i64 l, .i .i64 s, .i .i64 0] 56 false))
    else K .nilI 1 (H.new (.cells [.i .i64 l, .i .i64 s] 3 false)) := by
  have := s19 (R := R) (l := [l, s]) (c := .ex 2) (Heap.gnew H (.cells [.i .i64 l, .i .i64 s] 3 false)) (by simp)
  simp only [List.length_cons, List.length_nil, Nat.zero_add, Nat.reduceAdd, List.all_cons, List.all_nil, Bool.and_true] at this
  simp only [g16, g16_r, g16_p0, alo, this]
  cases okA l <;> cases okA s <;> rfl
theorem s15 (l : Int) (K : V → Int → Heap → Option R) : g15 R l H K = if okA l = true then K (.ifc 49 (.p (some (H.next + 1, 0)))) 0 ((H.new (.cells [.i .i64 l] 3 false)).new (.cells [.i .i64 0, .i .i64 l] 53 false))
    else K .nilI 1 (H.new (.cells [.i .i64 l] 3 false)) := by
  have := s19 (R := R) (l := [l]) (c := .ex 1) (Heap.gnew H (.cells [.i .i64 l] 3 false)) (by simp)
  simp only [List.length_cons, List.length_nil, Nat.zero_add, Nat.reduceAdd, List.all_cons, List.all_nil, Bool.and_true] at this
  simp only [g15, g15_r, g15_p0, alo, this]
  cases okA l <;> rfl
theorem s17 (l s u d : Int) (K : V → Int → Heap → Option R) : g17 R l s u d H K = if (okA l && okA s && okA u && okA d) = true then K (.ifc 57 (.p (some (H.next + 1, 0)))) 0 ((H.new (.cells [.i .i64 l, .i .i64 s, .i .i64 u, .i .i64 d] 3 false)).new (.cells [.i .i64 0, .i .i64 l, .i .i64 s, .i .i64 u, .i .i64 d, .i .i64 0, .b false] 59 false))
    else K .nilI 1 (H.new (.cells [.i .i64 l, .i .i64 s, .i .i64 u, .i .i64 d] 3 false)) := by
  have := s19 (R := R) (l := [l, s, u, d]) (c := .ex 4) (Heap.gnew H (.cells [.i .i64 l, .i .i64 s, .i .i64 u, .i .i64 d] 3 false)) (by simp)
  simp only [List.length_cons, List.length_nil, Nat.zero_add, Nat.reduceAdd, List.all_cons, List.all_nil, Bool.and_true] at this
  simp only [g17, g17_r, g17_p0, alo, this]
  cases okA l <;> cases okA s <;> cases okA u <;> cases okA d <;> rfl
end
end Go.Proofs.Ytbkncpmgpogakaa
