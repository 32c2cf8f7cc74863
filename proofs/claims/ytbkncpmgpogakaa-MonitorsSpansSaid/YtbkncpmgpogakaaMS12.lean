/- MonitorsSpans: the law's own run. -/
import Derived.Test.YtbkncpmgpogakaaMS11
namespace Go.Proofs.Ytbkncpmgpogakaa
open Go AM Go.RowKit
set_option linter.unusedVariables false
set_option linter.unusedSimpArgs false

theorem zb (n : Nat) : zeroCellsV Try.prog 4 n = some (List.replicate n (.b false)) := by
  have h1 : Try.prog.cellsOf 4 = 1 := by kernel_rfl
  have h2 : zeroV Try.prog 4 = some (.b false) := by kernel_rfl
  unfold zeroCellsV
  rw [h1, h2]
  by_cases h : n * 1 = 0
  · rw [if_pos h]; have : n = 0 := by omega
    subst this; rfl
  · rw [if_neg h]
    have : (V.b false).cells = [V.b false] := rfl
    simp only [Option.bind_some, this, List.length_singleton, if_true]
    congr 1
    clear h
    induction n with
    | zero => rfl
    | succ n ih => rw [List.replicate_succ, List.flatten_cons, ih, List.replicate_succ]; rfl
theorem E7c : (Calls1 (E7 g9 g12 g11 g10 g15 g14 g39 g38 g44 g46 g40) 38 (w38 g38) ∧ Calls1 (E7 g9 g12 g11 g10 g15 g14 g39 g38 g44 g46 g40) 44 (w44 g44) ∧ Calls1 (E7 g9 g12 g11 g10 g15 g14 g39 g38 g44 g46 g40) 46 (w46 g46)) ∧
    Calls1 (E7 g9 g12 g11 g10 g15 g14 g39 g38 g44 g46 g40) 39 (w39 g39) ∧ Calls1 (E7 g9 g12 g11 g10 g15 g14 g39 g38 g44 g46 g40) 40 (w40 g40) := by
  refine ⟨⟨?_, ?_, ?_⟩, ?_, ?_⟩ <;> · intro R args H K; simp [E7, FEnv.call]
/-- the cells of the rotated units, the first i of them written -/
def turnC (l : List Bool) (z b i : Nat) : List V := ((turnL l z b).take i).map V.b ++ List.replicate (l.length - i) (.b false)
theorem turnC_set {l : List Bool} {z b i : Nat} (hi : i < l.length) : (turnC l z b i).set i (.b ((turnL l z b)[i]'(by rw [turnL_length]; exact hi))) = turnC l z b (i + 1) := by
  have hl := turnL_length l z b
  unfold turnC
  rw [List.set_append, if_neg (by simp; omega)]
  have e1 : (List.map V.b (List.take i (turnL l z b))).length = i := by simp; omega
  rw [e1, Nat.sub_self, show l.length - i = (l.length - (i + 1)) + 1 by omega, List.replicate_succ, List.set_cons_zero, List.take_succ_eq_append_getElem (by omega), List.map_append, List.append_assoc]
  rfl
section
variable {X : Heap} {p u : Nat} {s : Sl} {l : List Bool}
theorem turn_loop {by_ lim : Int} {z b : Nat} {c : Cap} (hby : by_ = (b : Int)) (hb255 : b ≤ 255) (hz : 1 ≤ z ∧ z ≤ 20) (hlen : l.length ≤ 1000) (hb : BSl X s l) (hs : ∀ id off, s.a = some (id, off) → id ≠ u) :
    tlim (g7_p2_b g9 g12 g11 g10 g15 g14 g39 g38 g44 g46 g40) (by_, p, 0, lim, (z : Int), s, ⟨some (u, 0), l.length, c⟩, 0) (X.put u (.cells (turnC l z b 0) 4 false)) =
      some ((p, 0, lim, s, ⟨some (u, 0), l.length, c⟩), X.put u (.cells (turnC l z b l.length) 4 false)) := by
  obtain ⟨r, X', e, rfl, rfl⟩ := tlim_inv (b := g7_p2_b g9 g12 g11 g10 g15 g14 g39 g38 g44 g46 g40)
    (fun st G => ∃ i : Nat, st = (by_, p, 0, lim, (z : Int), s, ⟨some (u, 0), l.length, c⟩, (i : Int)) ∧ i ≤ l.length ∧ G = X.put u (.cells (turnC l z b i) 4 false)) (fun st => l.length - st.2.2.2.2.2.2.2.toNat)
    (fun r G => r = (p, 0, lim, s, ⟨some (u, 0), l.length, c⟩) ∧ G = X.put u (.cells (turnC l z b l.length) 4 false)) (by
      rintro st G ⟨i, rfl, hi, rfl⟩
      by_cases hil : i < l.length
      · left
        have hd : decide ((i : Int) < ((l.length : Nat) : Int)) = true := by simp; omega
        have hsl : ((s.len : Nat) : Int) = (l.length : Int) := by rw [hb.1]
        have hlt := turnAt_lt (b := b) hz.1 hil
        have hbG : BSl (X.put u (.cells (turnC l z b i) 4 false)) s l := hb.mono fun id off ha => by rw [Heap.get_put, if_neg (hs _ _ ha)]
        obtain ⟨id, off, e1, e2⟩ := hbG.at hlt
        have hat : turnAt z b l.length i = i / z * z + (i - i / z * z + b) % min (l.length - i / z * z) z := rfl
        have d1 : Int.tdiv (i : Int) (z : Int) = ((i / z : Nat) : Int) := by rw [Int.tdiv_eq_ediv_of_nonneg (by omega)]; exact (Int.natCast_ediv i z).symm
        have b1 := Nat.div_le_self i z
        have b2 := Nat.div_mul_le_self i z
        have d2 : ((i / z : Nat) : Int) * (z : Int) = ((i / z * z : Nat) : Int) := (Int.natCast_mul _ _).symm
        have hmod := Nat.mod_lt (i - i / z * z + b) (show 0 < min (l.length - i / z * z) z by omega)
        generalize hf : i / z * z = f at *
        generalize i / z = q at *
        have w1 : IntKind.wrap .i64 (q : Int) = (q : Int) := w64 (by omega)
        have w2 : IntKind.wrap .i64 (f : Int) = (f : Int) := w64 (by omega)
        have d7 : Int.tmod ((i - f + b : Nat) : Int) ((min (l.length - f) z : Nat) : Int) = (((i - f + b) % min (l.length - f) z : Nat) : Int) := by rw [tmodI (by omega)]; exact (Int.natCast_emod _ _).symm
        generalize (i - f + b) % min (l.length - f) z = r at *
        have d3 : IntKind.wrap .i64 ((l.length : Int) - (f : Int)) = ((l.length - f : Nat) : Int) := by rw [w64 (by omega)]; omega
        have d4 : (if ((l.length - f : Nat) : Int) < (z : Int) then ((l.length - f : Nat) : Int) else (z : Int)) = ((min (l.length - f) z : Nat) : Int) := by split <;> omega
        have d5 : IntKind.wrap .i64 ((i : Int) - (f : Int)) = ((i - f : Nat) : Int) := by rw [w64 (by omega)]; omega
        have d6 : IntKind.wrap .i64 (((i - f : Nat) : Int) + (b : Int)) = ((i - f + b : Nat) : Int) := by rw [w64 (by omega)]; omega
        have d8 : IntKind.wrap .i64 ((f : Int) + ((r : Nat) : Int)) = ((turnAt z b l.length i : Nat) : Int) := by rw [w64 (by omega), hat]; omega
        have wb : IntKind.wrap .i64 (b : Int) = (b : Int) := w64 (by omega)
        have wi : IntKind.wrap .i64 ((i : Int) + 1) = ((i + 1 : Nat) : Int) := by rw [w64 (by omega)]; rfl
        have hst : (X.put u (.cells (turnC l z b i) 4 false)).st u (0 + i) (.b l[turnAt z b l.length i]) = some (X.put u (.cells (turnC l z b (i + 1)) 4 false)) := by
          have hle : (turnC l z b i).length = l.length := by have := turnL_length l z b; simp [turnC]; omega
          rw [st_of (Heap.gput _ _ _) (by omega) rfl, Heap.put_put, Nat.zero_add, ← turnC_set hil, turnL_at hz.1 hil]
        refine ⟨(by_, p, 0, lim, (z : Int), s, ⟨some (u, 0), l.length, c⟩, ((i + 1 : Nat) : Int)), _, ?_, ⟨i + 1, rfl, by omega, rfl⟩, by dsimp only; omega⟩
        subst hby
        simp only [g7_p2_b, g7_p1, hsl, hd, sel_true, d1, w1, d2, w2, d3, d4, d5, wb, d6, d7, d8]
        rw [if_neg (by omega), if_neg (by omega), if_pos (by omega)]
        simp only [e1, Option.bind_some, Int.toNat_natCast, Nat.mul_one, e2]
        rw [if_pos (by omega)]
        simp only [hst, Option.bind_some, wi]
      · right
        obtain rfl : i = l.length := by omega
        have hd : decide (((l.length : Nat) : Int) < ((s.len : Nat) : Int)) = false := by have := hb.1; simp; omega
        exact ⟨_, X.put u (.cells (turnC l z b l.length) 4 false), by simp only [g7_p2_b, g7_p1, hd, sel_false], rfl, rfl⟩) (by_, p, 0, lim, (z : Int), s, ⟨some (u, 0), l.length, c⟩, 0) _ ⟨0, rfl, by omega, rfl⟩
  exact e
theorem sum_loop {m : Nat} {lim : Int} (hlim : 1 ≤ lim ∧ lim ≤ 40) (hlen : l.length ≤ 1000) (hb : BSl X s l) (hs : ∀ id off, s.a = some (id, off) → id ≠ m) (hm : X.get m = some (⟨1, 0, lim, 1, 1, 1, 0, false⟩ : Ms).obj) :
    ∃ X', tlim (g7_p7_b g9 g12 g11 g10 g15 g14 g39 g38 g44 g46 g40) (lim, s, (⟨1, 0, lim, 1, 1, 1, 0, false⟩ : Ms).val m, 0, 0) X = some (.inl (), X') := by
  have hok0 : (⟨1, 0, lim, 1, 1, 1, 0, false⟩ : Ms).Ok := ⟨by dsimp only; omega, by dsimp only; omega, by dsimp only; omega, by dsimp only; omega, by dsimp only; omega, by dsimp only; omega, by dsimp only; omega⟩
  have hlv := sum_lv (lim := lim) (by omega) l
  have hl0 : (⟨1, 0, lim, 1, 1, 1, 0, false⟩ : Ms).lim = lim := rfl
  generalize (⟨1, 0, lim, 1, 1, 1, 0, false⟩ : Ms) = x0 at *
  obtain ⟨r, X', e, rfl⟩ := tlim_inv (b := g7_p7_b g9 g12 g11 g10 g15 g14 g39 g38 g44 g46 g40)
    (fun st G => ∃ i : Nat, st = (lim, s, x0.val m, (wrongs l i : Int), (i : Int)) ∧ i ≤ l.length ∧ G = X.put m (x0.run (l.take i)).obj) (fun st => l.length - st.2.2.2.2.toNat)
    (fun r G => r = .inl ()) (by
      rintro st G ⟨i, rfl, hi, rfl⟩
      have hok := hok0.run (l.take i)
      have hlike := x0.run_like (l.take i)
      have hbG : ∀ o, BSl (X.put m o) s l := fun o => hb.mono fun id off ha => by rw [Heap.get_put, if_neg (hs _ _ ha)]
      have hmG : ∀ o, (X.put m o).get m = some o := fun o => Heap.gput _ _ _
      by_cases hil : i < l.length
      · left
        have hd : decide ((i : Int) < ((s.len : Nat) : Int)) = true := by have := hb.1; simp; omega
        have hr : 0 ≤ (i : Int) ∧ (i : Int) < ((s.len : Nat) : Int) := by have := hb.1; omega
        obtain ⟨id, off, e1, e2⟩ := (hbG (x0.run (l.take i)).obj).at hil
        obtain ⟨id', off', e1', e2'⟩ := (hbG (x0.run (l.take (i + 1))).obj).at hil
        obtain ⟨rfl, rfl⟩ : id' = id ∧ off' = off := by rw [e1] at e1'; simpa using e1'.symm
        have hok2 := hok0.run (l.take (i + 1))
        have hlike2 := x0.run_like (l.take (i + 1))
        have wi : IntKind.wrap .i64 ((i : Int) + 1) = ((i + 1 : Nat) : Int) := by rw [w64 (by omega)]; rfl
        have hle : wrongs l i ≤ l.length := by unfold wrongs; exact Nat.le_trans List.countP_le_length (by simp; omega)
        have ww : IntKind.wrap .i64 ((wrongs l i : Int) + 1) = ((wrongs l i + 1 : Nat) : Int) := by rw [w64 (by omega)]; rfl
        have hover : ((x0.run (l.take (i + 1))).lv == (x0.run (l.take (i + 1))).lim) = decide ((wrongs l (i + 1) : Int) ≥ lim) := by
          rw [hlv (i + 1) (by omega), hlike2.lim, hl0]
          rw [Bool.eq_iff_iff]; simp; omega
        refine ⟨(lim, s, x0.val m, (wrongs l (i + 1) : Int), ((i + 1 : Nat) : Int)), X.put m (x0.run (l.take (i + 1))).obj, ?_, ⟨i + 1, rfl, by omega, rfl⟩, by dsimp only; omega⟩
        simp only [g7_p7_b, g7_p6, hd, sel_true]
        rw [if_pos hr]
        simp only [e1, Option.bind_some, Int.toNat_natCast, Nat.mul_one, e2]
        rw [if_pos (mnn _ hok0.kind _), ← hlike.val m, m_count E7c.1.1 E7c.1.2.1 E7c.1.2.2 hok (hmG _), exR0, ← Ms.run_take hil, Heap.put_put, if_pos hr]
        simp only [e2', Option.bind_some]
        have hws := wrongs_succ hil
        cases hq : l[i] with
        | false =>
          rw [hq] at hws; simp only [Bool.false_eq_true, if_false] at hws
          simp only [Bool.not_false, sel_true]
          rw [hlike.val m, ← hlike2.val m, m_over E7c.2.2 hok2.kind (hmG _), hover]
          simp only [V.asB, Option.bind_some, ww, wi, hws, beq_self_eq_true, Bool.not_true, sel_false, hlike2.val m]
        | true =>
          rw [hq] at hws; simp only [if_true, Nat.add_zero] at hws
          simp only [Bool.not_true, sel_false]
          rw [hlike.val m, ← hlike2.val m, m_over E7c.2.2 hok2.kind (hmG _), hover]
          simp only [V.asB, Option.bind_some, wi, hws, beq_self_eq_true, Bool.not_true, sel_false, hlike2.val m]
      · right
        obtain rfl : i = l.length := by omega
        have hd : decide (((l.length : Nat) : Int) < ((s.len : Nat) : Int)) = false := by have := hb.1; simp; omega
        exact ⟨_, X.put m (x0.run (l.take l.length)).obj, by simp only [g7_p7_b, g7_p6, hd, sel_false], rfl⟩) (lim, s, x0.val m, 0, 0) X ⟨0, by simp [wrongs], by omega, by rw [List.take_zero, Ms.run_nil, Heap.put_self hm]⟩
  exact ⟨X', e⟩
end
theorem turnC0 (l : List Bool) (z b : Nat) : turnC l z b 0 = List.replicate l.length (.b false) := by simp [turnC]
theorem turnCn (l : List Bool) (z b : Nat) : turnC l z b l.length = (turnL l z b).map V.b := by
  have := turnL_length l z b
  unfold turnC; rw [List.take_of_length_le (by omega)]; simp
theorem spans_true (H : Heap) (hw : H.Wf) {b : Args} (hb : b.Ok) (t : ByteArray) {y : Int} (hy : 0 ≤ y ∧ y ≤ 255) : g7 Bool b.k b.l b.s b.u b.d t y H (fun r _ => some r) = some true := by
  have e1 : (H.new (.cells [.i .u8 b.k, .i .u8 b.l, .i .u8 b.s, .i .u8 b.u, .i .u8 b.d] 23 false)) = H.new (.cells b.cells 23 false) := rfl
  simp only [g7, g7_r, g7_p14, g7_p0, alo, e1]
  by_cases ht : t.size > 300
  · have hd : decide (((t.size : Nat) : Int) > 300) = true := by simp; omega
    simp only [hd, sel_true]
    rfl
  · have hd : decide (((t.size : Nat) : Int) > 300) = false := by simp; omega
    obtain ⟨yb, rfl⟩ : ∃ n : Nat, y = (n : Int) := ⟨y.toNat, by omega⟩
    obtain ⟨a, hadef⟩ : ∃ a : Args, a = { b with k := 2 } := ⟨_, rfl⟩
    have ha : a.Ok := by subst hadef; exact ⟨by dsimp only; omega, hb.l, hb.s, hb.u, hb.d⟩
    have hst : (H.new (.cells b.cells 23 false)).st H.next (0 + 0) (V.i .u8 2) = some ((H.new (.cells b.cells 23 false)).put H.next (.cells a.cells 23 false)) := by
      have := st_of (v := V.i .u8 2) (off := 0) (Heap.gnew H (.cells b.cells 23 false)) (by simp [Args.cells]) rfl
      subst hadef
      simpa [Args.cells] using this
    have hw1 : ((H.new (.cells b.cells 23 false)).put H.next (.cells a.cells 23 false)).Wf := (hw.new _).put (Heap.gnew _ _) _
    have g := Heap.gput (H.new (.cells b.cells 23 false)) H.next (.cells a.cells 23 false)
    have hn1 : ((H.new (.cells b.cells 23 false)).put H.next (.cells a.cells 23 false)).next = H.next + 1 := rfl
    simp only [hd, sel_false, hst, Option.bind_some, Nat.zero_add]
    generalize (H.new (.cells b.cells 23 false)).put H.next (.cells a.cells 23 false) = G at *
    have L0 : G.ldI .u8 H.next 0 = some a.k := ldI_of g rfl
    have L1 : G.ldI .u8 H.next 1 = some a.l := ldI_of g rfl
    have L2 : G.ldI .u8 H.next 2 = some a.s := ldI_of g rfl
    have L3 : G.ldI .u8 H.next 3 = some a.u := ldI_of g rfl
    have L4 : G.ldI .u8 H.next 4 = some a.d := ldI_of g rfl
    have hok := Args.mon_ok ha
    have hz0 := mon_zero a
    have hk2 : a.mon.kind = 2 := by subst hadef; simp [Args.mon]
    have hmsz : a.mon.sz = a.sz := by subst hadef; simp [Args.mon, Args.sz]
    have hsz : 1 ≤ a.sz ∧ a.sz ≤ 20 := by have := ha.s; unfold Args.sz; omega
    have hlim : 1 ≤ a.lim ∧ a.lim ≤ 40 := by have := ha.l; unfold Args.lim; omega
    obtain ⟨z, hz⟩ : ∃ n : Nat, a.sz = (n : Int) := ⟨a.sz.toNat, by omega⟩
    have hwG' := hw1.new (.cells a.cells 23 false)
    obtain ⟨s, X2, k1, k2, k3, k4, k5⟩ := s11 hwG' (t := t) (by omega)
    have hlen : (unitsL t).length ≤ 1000 := by rw [unitsL_length]; omega
    have hbs : BSl X2 s (unitsL t) := .of_own k2
    have hsl : s.len = (unitsL t).length := hbs.1
    have xx2 : Ext G X2 := (Ext.new G (.cells a.cells 23 false)).trans k4
    have hsid : ∀ id off, s.a = some (id, off) → id < X2.next := fun id off h => k2.lt k3 h
    have g2 := Heap.gnew X2 (.cells (List.replicate (unitsL t).length (.b false)) 4 false)
    have hw3 := k3.new (.cells (List.replicate (unitsL t).length (.b false)) 4 false)
    have x3 : Ext G (X2.new (.cells (List.replicate (unitsL t).length (.b false)) 4 false)) := xx2.trans (Ext.new _ _)
    have hn3 : (X2.new (.cells (List.replicate (unitsL t).length (.b false)) 4 false)).next = X2.next + 1 := rfl
    have hbs3 : BSl (X2.new (.cells (List.replicate (unitsL t).length (.b false)) 4 false)) s (unitsL t) := hbs.mono fun id off h => by rw [Heap.get_new, if_neg (by have := hsid _ _ h; omega)]
    simp only [L0, L1, L2, L3, L4, Option.bind_some]
    rw [s12 ha]
    simp only [k1, hsl]
    rw [if_pos (by omega)]
    simp only [Int.toNat_natCast, zb, Option.bind_some]
    rw [← turnC0 (unitsL t) z yb] at g2 hw3 x3 hn3 hbs3 ⊢
    generalize X2.new (.cells (turnC (unitsL t) z yb 0) 4 false) = X3 at *
    have tl := turn_loop (X := X3) (p := H.next) (u := X2.next) (by_ := (yb : Int)) (lim := a.lim) (z := z) (b := yb) (c := .ex (unitsL t).length) rfl (by omega) (by omega) hlen hbs3 (fun id off h => by have := hsid _ _ h; omega)
    rw [Heap.put_self g2] at tl
    have hw4 : (X3.put X2.next (.cells (turnC (unitsL t) z yb (unitsL t).length) 4 false)).Wf := hw3.put g2 _
    have x4 : Ext G (X3.put X2.next (.cells (turnC (unitsL t) z yb (unitsL t).length) 4 false)) := x3.above (by have := xx2.next; omega) _
    have hbs4 : BSl (X3.put X2.next (.cells (turnC (unitsL t) z yb (unitsL t).length) 4 false)) s (unitsL t) := hbs3.mono fun id off h => by rw [Heap.get_put, if_neg (by have := hsid _ _ h; omega)]
    have g4 := Heap.gput X3 X2.next (.cells (turnC (unitsL t) z yb (unitsL t).length) 4 false)
    have hn4 : (X3.put X2.next (.cells (turnC (unitsL t) z yb (unitsL t).length) 4 false)).next = X3.next := rfl
    generalize X3.put X2.next (.cells (turnC (unitsL t) z yb (unitsL t).length) 4 false) = X4 at *
    rw [turnCn] at g4
    have hbt4 : BSl X4 ⟨some (X2.next, 0), (unitsL t).length, .ex (unitsL t).length⟩ (turnL (unitsL t) z yb) := ⟨by rw [turnL_length], fun _ => ⟨X2.next, 0, rfl, fun j hj => ldB_of g4 (by simp [hj])⟩⟩
    have hp4 : X4.get H.next = some (.cells a.cells 23 false) := x4.get hw1 g
    obtain ⟨m1, X5, c1, c2, c3, c4, c5⟩ := s10 hw4 ha
    have hp5 : X5.get H.next = some (.cells a.cells 23 false) := c4.get hw4 hp4
    obtain ⟨m2, X6, d1, d2, d3, d4, d5⟩ := s10 c3 ha
    have hm1 := c3 _ _ c2
    have hm2 := d3 _ _ d2
    have M0 : X4.ldI .u8 H.next 0 = some a.k := ldI_of hp4 rfl
    have M1 : X4.ldI .u8 H.next 1 = some a.l := ldI_of hp4 rfl
    have M2 : X4.ldI .u8 H.next 2 = some a.s := ldI_of hp4 rfl
    have M3 : X4.ldI .u8 H.next 3 = some a.u := ldI_of hp4 rfl
    have M4 : X4.ldI .u8 H.next 4 = some a.d := ldI_of hp4 rfl
    have N0 : X5.ldI .u8 H.next 0 = some a.k := ldI_of hp5 rfl
    have N1 : X5.ldI .u8 H.next 1 = some a.l := ldI_of hp5 rfl
    have N2 : X5.ldI .u8 H.next 2 = some a.s := ldI_of hp5 rfl
    have N3 : X5.ldI .u8 H.next 3 = some a.u := ldI_of hp5 rfl
    have N4 : X5.ldI .u8 H.next 4 = some a.d := ldI_of hp5 rfl
    have hokl : okA a.lim = true := by unfold okA; simp; omega
    have h15 := fun (R : Type) (K : V → Int → Heap → Option R) => s15 (H := X6) a.lim K
    simp only [hokl, if_true] at h15
    have x7 : Ext X6 ((X6.new (.cells [.i .i64 a.lim] 3 false)).new (.cells [.i .i64 0, .i .i64 a.lim] 53 false)) := (Ext.new _ _).trans (Ext.new _ _)
    have hw7 : ((X6.new (.cells [.i .i64 a.lim] 3 false)).new (.cells [.i .i64 0, .i .i64 a.lim] 53 false)).Wf := (d3.new _).new _
    have g7' : ((X6.new (.cells [.i .i64 a.lim] 3 false)).new (.cells [.i .i64 0, .i .i64 a.lim] 53 false)).get (X6.next + 1) = some (.cells [.i .i64 0, .i .i64 a.lim] 53 false) := Heap.gnew _ _
    generalize (X6.new (.cells [.i .i64 a.lim] 3 false)).new (.cells [.i .i64 0, .i .i64 a.lim] 53 false) = X7 at *
    have hgl : ∀ {o : O} {i : Nat}, X4.get i = some o → X7.get i = some o := fun h => x7.get d3 (d4.get c3 (c4.get hw4 h))
    have hbs7 : BSl X7 s (unitsL t) := hbs4.mono fun id off h => by
      have := hsid _ _ h
      exact ((c4.trans d4).trans x7).same id (by omega) (fun f => f)
    have hbt7 : BSl X7 ⟨some (X2.next, 0), (unitsL t).length, .ex (unitsL t).length⟩ (turnL (unitsL t) z yb) := hbt4.mono fun id off h => by
      cases h; exact ((c4.trans d4).trans x7).same _ (by omega) (fun f => f)
    have hno : a.mon.lv ≠ a.mon.lim := by have := hok.lim; omega
    obtain ⟨r1, q1, q2⟩ := s14' (x7.get d3 (d4.get c3 c2)) hbs7 (fun id off h => by have := hsid _ _ h; omega) hok hno hlen
    have hbt8 : BSl (X7.put m1 (a.mon.run (unitsL t)).obj) ⟨some (X2.next, 0), (unitsL t).length, .ex (unitsL t).length⟩ (turnL (unitsL t) z yb) := hbt7.mono fun id off h => by
      cases h; rw [Heap.get_put, if_neg (by omega)]
    have hg8 : (X7.put m1 (a.mon.run (unitsL t)).obj).get m2 = some a.mon.obj := by rw [Heap.get_put, if_neg (by omega)]; exact x7.get d3 d2
    obtain ⟨r2, p1, p2⟩ := s14' hg8 hbt8 (fun id off h => by cases h; omega) hok hno (by rw [turnL_length]; exact hlen)
    have hlv := span_lv hok a.mon_new hk2 (l := unitsL t) (l' := turnL (unitsL t) z yb) (turnL_length _ _ _) (z := z) (by rw [hmsz, hz]) (fun q hq => turn_span (by omega) hq)
    obtain rfl := IsFirst.uniq (isFirst_congr (turnL_length _ _ _) hlv p2) q2
    have hlv2 := hlv _ (Nat.le_refl _)
    rw [List.take_length, List.take_of_length_le (by rw [turnL_length]; exact Nat.le_refl _)] at hlv2
    have ok1 := hok.run (unitsL t)
    have ok2 := hok.run (turnL (unitsL t) z yb)
    have hl1 := a.mon.run_like (unitsL t)
    have hl2 := a.mon.run_like (turnL (unitsL t) z yb)
    have gm1 : ((X7.put m1 (a.mon.run (unitsL t)).obj).put m2 (a.mon.run (turnL (unitsL t) z yb)).obj).get m1 = some (a.mon.run (unitsL t)).obj := by rw [Heap.get_put, if_neg (by omega)]; exact Heap.gput _ _ _
    have gm2 : ((X7.put m1 (a.mon.run (unitsL t)).obj).put m2 (a.mon.run (turnL (unitsL t) z yb)).obj).get m2 = some (a.mon.run (turnL (unitsL t) z yb)).obj := Heap.gput _ _ _
    have gm3 : ((X7.put m1 (a.mon.run (unitsL t)).obj).put m2 (a.mon.run (turnL (unitsL t) z yb)).obj).get (X6.next + 1) = some (⟨1, 0, a.lim, 1, 1, 1, 0, false⟩ : Ms).obj := by
      rw [Heap.get_put, if_neg (by omega), Heap.get_put, if_neg (by have := d4.next; omega), g7']; rfl
    have hbs9 : BSl ((X7.put m1 (a.mon.run (unitsL t)).obj).put m2 (a.mon.run (turnL (unitsL t) z yb)).obj) s (unitsL t) := hbs7.mono fun id off h => by
      have := hsid _ _ h
      rw [Heap.get_put, if_neg (by omega), Heap.get_put, if_neg (by omega)]
    have hvo : ifNil (V.ifc 49 (.p (some (X6.next + 1, 0)))) = some false := rfl
    have hv1 : (V.ifc 49 (.p (some (X6.next + 1, 0)))).one = true := rfl
    have hv2 : V.ifc 49 (.p (some (X6.next + 1, 0))) = (⟨1, 0, a.lim, 1, 1, 1, 0, false⟩ : Ms).val (X6.next + 1) := rfl
    rw [hz]
    simp only [g7_p13, g7_p3, g7_p2, tl, Option.bind_some, g7_p12, g7_p4, Nat.zero_add, M0, M1, M2, M3, M4, c1, N0, N1, N2, N3, N4, d1, val_one, if_true, h15, hv1, bne_self_eq_false, sel_false, val_ifNil, hvo, q1, p1]
    generalize (X7.put m1 (a.mon.run (unitsL t)).obj).put m2 (a.mon.run (turnL (unitsL t) z yb)).obj = X9 at *
    rw [← hl1.val m1, m_level E7c.2.1 ok1.kind gm1]
    simp only [V.asI, if_true, Option.bind_some]
    rw [← hl2.val m2, m_level E7c.2.1 ok2.kind gm2]
    obtain ⟨X10, z1⟩ := sum_loop hlim hlen hbs9 (fun id off h => by have := hsid _ _ h; have := c4.next; have := d4.next; omega) gm3
    rw [← hv2] at z1
    simp only [V.asI, if_true, Option.bind_some, hlv2, bne_self_eq_false, g7_p11, g7_p5, sel_false, g7_p10, g7_p8, g7_p7, z1, cas_inl, g7_p9]
    rfl
theorem monitorsSpans_true (H : Heap) (hw : H.Wf) (x1 x2 x3 x4 x5 : Int) (x6 : ByteArray) (x7 : Int) (k1 : (Lit.int .u8 x1).wf = true) (k2 : (Lit.int .u8 x2).wf = true) (k3 : (Lit.int .u8 x3).wf = true) (k4 : (Lit.int .u8 x4).wf = true) (k5 : (Lit.int .u8 x5).wf = true) (k6 : x6.size ≤ reachBytes) (k7 : (Lit.int .u8 x7).wf = true) :
    g7 Bool x1 x2 x3 x4 x5 x6 x7 H (fun r _ => some r) = some true :=
  spans_true H hw (b := ⟨x1, x2, x3, x4, x5⟩) ⟨wfU8 k1, wfU8 k2, wfU8 k3, wfU8 k4, wfU8 k5⟩ x6 (wfU8 k7)
end Go.Proofs.Ytbkncpmgpogakaa
