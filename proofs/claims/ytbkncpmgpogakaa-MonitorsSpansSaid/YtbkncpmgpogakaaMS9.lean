/- MonitorsRate. -/
import Derived.Test.YtbkncpmgpogakaaMS8
namespace Go.Proofs.Ytbkncpmgpogakaa
open Go AM Go.RowKit
set_option linter.unusedVariables false
set_option linter.unusedSimpArgs false

/-- how many of the first i units are wrong -/
def wrongs (l : List Bool) (i : Nat) : Nat := (l.take i).countP (fun b => !b)
theorem wrongs_succ {l : List Bool} {i : Nat} (h : i < l.length) : wrongs l (i + 1) = wrongs l i + (if l[i] then 0 else 1) := by
  unfold wrongs
  rw [List.take_add_one, List.getElem?_eq_getElem h, List.countP_append]
  cases l[i] <;> simp
theorem wrongs_mono (l : List Bool) {i j : Nat} (h : i ≤ j) : wrongs l i ≤ wrongs l j := by
  unfold wrongs
  have : l.take i = (l.take j).take i := by rw [List.take_take, Nat.min_eq_left h]
  rw [this]
  exact List.Sublist.countP_le (List.take_sublist _ _)
theorem ediv_succ {i s : Int} (hs : 1 ≤ s) (hi : 0 ≤ i) : (i + 1) / s = if i % s + 1 = s then i / s + 1 else i / s := by
  have h1 := Int.emod_nonneg i (show s ≠ 0 by omega)
  have h2 := Int.emod_lt_of_pos i (show 0 < s by omega)
  have h3 := Int.emod_add_mul_ediv i s
  have e : i + 1 = (i % s + 1) + s * (i / s) := by omega
  rw [e, Int.add_mul_ediv_left _ _ (show s ≠ 0 by omega)]
  split
  · rename_i h; rw [h, Int.ediv_self (by omega)]; omega
  · rw [Int.ediv_eq_zero_of_lt (by omega) (by omega)]; omega
theorem rate_le {x0 : Ms} (h : x0.Ok) (h0 : x0.lv = 0) (hk : x0.kind = 0 ∨ x0.kind = 1) (l : List Bool) : ∀ i, i ≤ l.length → (x0.run (l.take i)).lv ≤ (wrongs l i : Int) := by
  intro i
  induction i with
  | zero => intro _; simp [Ms.run_nil, h0, wrongs]
  | succ i ih =>
    intro hi
    have hil : i < l.length := by omega
    have := ih (by omega)
    have hok := h.run (l.take i)
    have hlike := x0.run_like (l.take i)
    rw [Ms.run_take hil, wrongs_succ hil]
    generalize x0.run (l.take i) = y at *
    have hlv := hok.lv
    have c1 : clampI (y.lv + 1) y.lim ≤ y.lv + 1 := by unfold clampI; split <;> (try split) <;> omega
    have c2 : ∀ v, 0 ≤ v → clampI (v - 1) y.lim ≤ v := fun v hv => by unfold clampI; split <;> (try split) <;> omega
    have c3 := clampI_b (y.lv + 1) (hi := y.lim) (by omega)
    unfold Ms.count
    split
    · split
      · split <;> omega
      · dsimp only
        split
        · dsimp only
          cases l[i] with
          | true =>
            simp only [if_true]
            split
            · omega
            · have := c2 y.lv (by omega); omega
          | false =>
            simp only [Bool.false_eq_true, if_false]
            split
            · omega
            · have := c2 (clampI (y.lv + 1) y.lim) (by omega); omega
        · dsimp only
          cases l[i] with
          | true => simp; omega
          | false => simp; omega
    · cases l[i] with
      | true => simp; omega
      | false => simp; omega
    · rename_i k1 k2
      rw [hlike.kind] at k1 k2
      rcases hk with hk | hk
      · exact absurd hk k1
      · exact absurd hk k2
theorem rate_ge {x0 : Ms} (h : x0.Ok) (hn : x0.New) (h0 : x0.lv = 0) (hk : x0.kind = 0) (l : List Bool) : ∀ i, i ≤ l.length → (∀ j, 1 ≤ j → j ≤ i → ¬ x0.OverAt l j) → (wrongs l i : Int) - (i : Int) / x0.sz ≤ (x0.run (l.take i)).lv := by
  intro i
  induction i with
  | zero => intro _ _; simp [Ms.run_nil, h0, wrongs]
  | succ i ih =>
    intro hi hno
    have hil : i < l.length := by omega
    have h1 := ih (by omega) fun j a b => hno j a (by omega)
    have hnow := hno (i + 1) (by omega) (by omega)
    have hok := h.run (l.take i)
    have hlike := x0.run_like (l.take i)
    have hat := Ms.at_all h hn l i (by omega)
    unfold Ms.At at hat
    unfold Ms.OverAt at hnow
    have hbefore : (x0.run (l.take i)).lv < x0.lim := by
      rcases Nat.eq_zero_or_pos i with hi0 | hi0
      · subst hi0; simp [Ms.run_nil, h0]; have := h.lim; omega
      · have := hno i hi0 (by omega); unfold Ms.OverAt at this; have h2 := hok.lv; have h3 := hlike.lim; omega
    rw [Ms.run_take hil] at hnow ⊢
    rw [wrongs_succ hil, show ((i + 1 : Nat) : Int) = (i : Int) + 1 by omega, ediv_succ h.sz.1 (by omega)]
    have hun := (hat hbefore).1 (by omega)
    generalize x0.run (l.take i) = y at *
    have hne : ¬ y.lv = y.lim := by have := hlike.lim; omega
    have hlv := hok.lv
    have hll := hlike.lim
    have c1 : clampI (y.lv + 1) y.lim = y.lv + 1 := by unfold clampI; rw [if_neg (by omega), if_pos (by omega)]
    have c2 : ∀ v, v ≤ y.lim → v - 1 ≤ clampI (v - 1) y.lim := fun v hv => by unfold clampI; split <;> (try split) <;> omega
    have hk' : y.kind = 0 := by rw [hlike.kind, hk]
    unfold Ms.count at hnow ⊢
    simp only [hk', hne, if_false, c1, hlike.sz, hun] at hnow ⊢
    by_cases hz : (i : Int) % x0.sz + 1 = x0.sz
    · simp only [hz, if_true] at hnow ⊢
      cases hb : l[i] with
      | true =>
        simp only [hb, if_true, hne, if_false] at hnow ⊢
        have := c2 y.lv (by omega)
        omega
      | false =>
        simp only [hb, Bool.false_eq_true, if_false] at hnow ⊢
        split
        · omega
        · have := c2 (y.lv + 1) (by omega)
          omega
    · simp only [hz, if_false] at hnow ⊢
      cases hb : l[i] with
      | true => simp only [if_true]; omega
      | false => simp only [Bool.false_eq_true, if_false]; omega
section
variable {p m : Nat} {a : Args} {s : Sl} {l : List Bool} {y : Ms}
theorem count_loop {v : V} {t u : Int} (hlen : l.length ≤ 1000) (X : Heap) (h : BSl X s l) : tlim (g6_p2_b g9 g10 g12 g11 g14) (v, t, u, s, 0, 0) X = some ((v, t, u, s, (wrongs l l.length : Int)), X) := by
  obtain ⟨r, X', e, rfl, rfl⟩ := tlim_inv (b := g6_p2_b g9 g10 g12 g11 g14) (fun st G => G = X ∧ ∃ i : Nat, st = (v, t, u, s, (wrongs l i : Int), (i : Int)) ∧ i ≤ l.length) (fun st => l.length - st.2.2.2.2.2.toNat)
    (fun r G => G = X ∧ r = (v, t, u, s, (wrongs l l.length : Int))) (by
      rintro st G ⟨rfl, i, rfl, hi⟩
      have hle : wrongs l i ≤ l.length := by unfold wrongs; exact Nat.le_trans List.countP_le_length (by simp; omega)
      by_cases hil : i < l.length
      · left
        have hd : decide ((i : Int) < ((s.len : Nat) : Int)) = true := by have := h.1; simp; omega
        obtain ⟨id, off, e1, e2⟩ := h.at hil
        refine ⟨(v, t, u, s, (wrongs l (i + 1) : Int), ((i + 1 : Nat) : Int)), G, ?_, ⟨rfl, i + 1, rfl, by omega⟩, by dsimp only; omega⟩
        simp only [g6_p2_b, g6_p1, hd, sel_true]
        rw [if_pos (by have := h.1; omega)]
        simp only [e1, Option.bind_some, Int.toNat_natCast, Nat.mul_one, e2]
        rw [w64 (n := (wrongs l i : Int) + 1) (by omega), w64 (n := (i : Int) + 1) (by omega), wrongs_succ hil]
        cases l[i] <;> simp
      · right
        obtain rfl : i = l.length := by omega
        have hd : decide (((l.length : Nat) : Int) < ((s.len : Nat) : Int)) = false := by have := h.1; simp; omega
        exact ⟨_, G, by simp only [g6_p2_b, g6_p1, hd, sel_false], rfl, rfl⟩) (v, t, u, s, 0, 0) X ⟨rfl, 0, by simp [wrongs], by omega⟩
  exact e
end
theorem w9_1 {R : Type} (H : Heap) (K : Bool → Heap → Option R) : g9 R H K = K true H := rfl
theorem rate_true (H : Heap) (hw : H.Wf) {b : Args} (hb : b.Ok) (t : ByteArray) : g6 Bool b.k b.l b.s b.u b.d t H (fun r _ => some r) = some true := by
  have e1 : (H.new (.cells [.i .u8 b.k, .i .u8 b.l, .i .u8 b.s, .i .u8 b.u, .i .u8 b.d] 23 false)) = H.new (.cells b.cells 23 false) := rfl
  simp only [g6, g6_r, g6_p6, g6_p0, alo, e1]
  by_cases ht : t.size > 300
  · have hd : decide (((t.size : Nat) : Int) > 300) = true := by simp; omega
    simp only [hd, sel_true]
    rfl
  · have hd : decide (((t.size : Nat) : Int) > 300) = false := by simp; omega
    obtain ⟨a, hadef⟩ : ∃ a : Args, a = { b with k := 0 } := ⟨_, rfl⟩
    have ha : a.Ok := by subst hadef; exact ⟨by dsimp only; omega, hb.l, hb.s, hb.u, hb.d⟩
    have hst : (H.new (.cells b.cells 23 false)).st H.next (0 + 0) (V.i .u8 0) = some ((H.new (.cells b.cells 23 false)).put H.next (.cells a.cells 23 false)) := by
      have := st_of (v := V.i .u8 0) (off := 0) (Heap.gnew H (.cells b.cells 23 false)) (by simp [Args.cells]) rfl
      subst hadef
      simpa [Args.cells] using this
    have hw1 : ((H.new (.cells b.cells 23 false)).put H.next (.cells a.cells 23 false)).Wf := (hw.new _).put (Heap.gnew _ _) _
    have g := Heap.gput (H.new (.cells b.cells 23 false)) H.next (.cells a.cells 23 false)
    have hn1 : ((H.new (.cells b.cells 23 false)).put H.next (.cells a.cells 23 false)).next = H.next + 1 := rfl
    simp only [hd, sel_false, hst, Option.bind_some, Nat.zero_add]
    generalize (H.new (.cells b.cells 23 false)).put H.next (.cells a.cells 23 false) = G at *
    have L0 : G.ldI .u8 H.next 0 = some a.k := ldI_of g rfl
    have L1 : G.ldI .u8 H.next 1 = some a.l := ldI_of g rfl
    have L2 : G.ldI .u8 H.next 2 = some a.s := ldI_of g rfl
    have L3 : G.ldI .u8 H.next 3 = some a.u := ldI_of g rfl
    have L4 : G.ldI .u8 H.next 4 = some a.d := ldI_of g rfl
    obtain ⟨m, X1, f1, f2, f3, f4, f5⟩ := s10 hw1 ha
    have hp1 : X1.get H.next = some (.cells a.cells 23 false) := f4.get hw1 g
    have M0 : X1.ldI .u8 H.next 0 = some a.k := ldI_of hp1 rfl
    have M1 : X1.ldI .u8 H.next 1 = some a.l := ldI_of hp1 rfl
    have M2 : X1.ldI .u8 H.next 2 = some a.s := ldI_of hp1 rfl
    have M3 : X1.ldI .u8 H.next 3 = some a.u := ldI_of hp1 rfl
    have M4 : X1.ldI .u8 H.next 4 = some a.d := ldI_of hp1 rfl
    have hok := Args.mon_ok ha
    have hz := mon_zero a
    simp only [L0, L1, L2, L3, L4, M0, M1, M2, M3, M4, Option.bind_some, f1, val_one, if_true, bne_self_eq_false, sel_false, val_ifNil]
    rw [s12 ha]
    obtain ⟨s, X2, k1, k2, k3, k4, k5⟩ := s11 (f3.new (.cells a.cells 23 false)) (t := t) (by omega)
    have x2 : Ext X1 X2 := (Ext.new X1 (.cells a.cells 23 false)).trans k4
    have hli : LI X2 H.next m a s (unitsL t) a.mon := ⟨k3, Ext.get x2 f3 hp1, Ext.get x2 f3 f2, k2, by omega, fun id off h => by have h1 := k5 _ _ h; have h2 := f3 _ _ f2; rw [Heap.next_new] at h1; omega⟩
    have hlen : (unitsL t).length ≤ 1000 := by rw [unitsL_length]; omega
    have hno : a.mon.lv ≠ a.mon.lim := by have := hok.lim; omega
    obtain ⟨r, X4, m1, m2, m3⟩ := s14 hli hok hno hlen
    simp only [k1, g6_p5, g6_p3, g6_p2, count_loop hlen X2 hli.bsl, Option.bind_some, g6_p4, m1]
    have hsz : 1 ≤ a.sz ∧ a.sz ≤ 20 := by have := ha.s; unfold Args.sz; omega
    have hlim : 1 ≤ a.lim ∧ a.lim ≤ 40 := by have := ha.l; unfold Args.lim; omega
    have hk0 : a.mon.kind = 0 := by subst hadef; simp [Args.mon]
    have hmsz : a.mon.sz = a.sz := by subst hadef; simp [Args.mon, Args.sz]
    rw [if_neg (by omega)]
    have hsl : s.len = (unitsL t).length := hli.bsl.1
    have hq : 0 ≤ (((unitsL t).length : Nat) : Int) / a.sz ∧ (((unitsL t).length : Nat) : Int) / a.sz ≤ 1000 := by
      refine ⟨Int.ediv_nonneg (by omega) (by omega), ?_⟩
      have := Int.ediv_le_self (a := (((unitsL t).length : Nat) : Int)) a.sz (by omega)
      omega
    rw [Int.tdiv_eq_ediv_of_nonneg (by omega), hsl, w64 (n := (((unitsL t).length : Nat) : Int) / a.sz) (by omega), w64 (by omega)]
    have hle := rate_le hok hz.1 (.inl hk0) (unitsL t)
    have fin : ∀ (b1 b2 : Bool) (A B C : Option Bool), True := fun _ _ _ _ _ => trivial
    rcases m3 with ⟨rfl, h1⟩ | ⟨n, rfl, a1, a2, a3, a4⟩
    · have hge := rate_ge hok a.mon_new hz.1 hk0 (unitsL t) _ (Nat.le_refl _) h1
      rw [hmsz, List.take_length] at hge
      have hlv : (a.mon.run (unitsL t)).lv < a.lim := by
        rcases Nat.eq_zero_or_pos (unitsL t).length with h0 | h0
        · have : unitsL t = [] := List.length_eq_zero_iff.1 h0
          rw [this, Ms.run_nil, hz.1]; omega
        · have := h1 _ h0 (Nat.le_refl _)
          unfold Ms.OverAt at this
          rw [List.take_length, mon_lim] at this
          have h2 := (hok.run (unitsL t)).lv
          have h3 := (a.mon.run_like (unitsL t)).lim
          rw [mon_lim] at h3
          omega
      have d1 : decide ((wrongs (unitsL t) (unitsL t).length : Int) ≥ a.lim + (((unitsL t).length : Nat) : Int) / a.sz) = false := by
        simp only [decide_eq_false_iff_not]; omega
      simp only [d1, sel_false, show decide ((-1 : Int) ≥ 0) = false from rfl, w9_1]
      cases decide ((wrongs (unitsL t) (unitsL t).length : Int) < a.lim) <;> rfl
    · have h1 := hle n a2
      unfold Ms.OverAt at a3
      rw [mon_lim] at a3
      have h2 := wrongs_mono (unitsL t) a2
      have d1 : decide ((wrongs (unitsL t) (unitsL t).length : Int) < a.lim) = false := by simp; omega
      have d2 : decide ((n : Int) < 0) = false := by simp
      simp only [d1, d2, sel_false, w9_1]
      cases decide ((wrongs (unitsL t) (unitsL t).length : Int) ≥ a.lim + (((unitsL t).length : Nat) : Int) / a.sz) <;> rfl
theorem monitorsRate_true (H : Heap) (hw : H.Wf) (x1 x2 x3 x4 x5 : Int) (x6 : ByteArray) (k1 : (Lit.int .u8 x1).wf = true) (k2 : (Lit.int .u8 x2).wf = true) (k3 : (Lit.int .u8 x3).wf = true) (k4 : (Lit.int .u8 x4).wf = true) (k5 : (Lit.int .u8 x5).wf = true) (k6 : x6.size ≤ reachBytes) :
    g6 Bool x1 x2 x3 x4 x5 x6 H (fun r _ => some r) = some true :=
  rate_true H hw (b := ⟨x1, x2, x3, x4, x5⟩) ⟨wfU8 k1, wfU8 k2, wfU8 k3, wfU8 k4, wfU8 k5⟩ x6
end Go.Proofs.Ytbkncpmgpogakaa
