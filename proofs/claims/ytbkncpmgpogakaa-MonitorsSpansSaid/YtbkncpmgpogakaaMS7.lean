/- MonitorsLevel: the law's own run. -/
import Derived.Test.YtbkncpmgpogakaaMS6
import Derived.Test.YtbkncpmgpogakaaGM
import Derived.Test.YtbkncpmgpogakaaAm30
namespace Go.Proofs.Ytbkncpmgpogakaa
open Go AM Go.RowKit
set_option linter.unusedVariables false
set_option linter.unusedSimpArgs false

/-- what stands in memory while a law runs: its arguments, a monitor, the units -/
structure LI (X : Heap) (p m : Nat) (a : Args) (s : Sl) (l : List Bool) (y : Ms) : Prop where
  wf : X.Wf
  args : X.get p = some (.cells a.cells 23 false)
  mon : X.get m = some y.obj
  own : Own X 4 1 s (l.map V.b)
  pm : p ≠ m
  sm : ∀ id off, s.a = some (id, off) → id ≠ m
section
variable {X : Heap} {p m : Nat} {a : Args} {s : Sl} {l : List Bool} {y : Ms}
theorem LI.put (h : LI X p m a s l y) (y' : Ms) : LI (X.put m y'.obj) p m a s l y' :=
  ⟨h.wf.put h.mon _, by rw [Heap.get_put, if_neg h.pm]; exact h.args, Heap.gput _ _ _, h.own.mono fun id o ha ho => by rw [Heap.get_put, if_neg (h.sm _ _ ha)]; exact ho, h.pm, h.sm⟩
theorem LI.ext (h : LI X p m a s l y) {X' : Heap} (hw : X'.Wf) (he : Ext X X') : LI X' p m a s l y :=
  ⟨hw, he.get h.wf h.args, he.get h.wf h.mon, h.own.mono fun id o _ ho => he.get h.wf ho, h.pm, h.sm⟩
theorem LI.bsl (h : LI X p m a s l y) : BSl X s l := .of_own h.own
theorem LI.lt (h : LI X p m a s l y) : ∀ id off, s.a = some (id, off) → id < X.next := fun id off ha => h.own.lt h.wf ha
theorem LI.ld (h : LI X p m a s l y) : X.ldI .u8 p 0 = some a.k ∧ X.ldI .u8 p 1 = some a.l ∧ X.ldI .u8 p 2 = some a.s ∧ X.ldI .u8 p 3 = some a.u ∧ X.ldI .u8 p 4 = some a.d :=
  ⟨ldI_of h.args rfl, ldI_of h.args rfl, ldI_of h.args rfl, ldI_of h.args rfl, ldI_of h.args rfl⟩
/-- the first k units -/
theorem slo_take (ho : Own X 4 1 s (l.map V.b)) {k : Nat} (hk : k ≤ l.length) (h0 : 0 < k) : ∃ s', (∀ (R : Type) (K : Sl → Option R), slOf 1 s none (some (k : Int)) none K = K s') ∧ BSl X s' (l.take k) ∧ ∀ id off, s'.a = some (id, off) → ∃ off', s.a = some (id, off') := by
  have hb : BSl X s l := .of_own ho
  generalize hm : l.map V.b = vs at ho
  cases ho with
  | nil => simp at hm; subst hm; simp at hk; omega
  | op id n _ hg hl hv =>
    have hn : n = l.length := by rw [← hm] at hl; simpa using hl.symm
    refine ⟨⟨some (id, 0), k, .op 1⟩, fun R K => ?_, ?_, fun i off h => ?_⟩
    · simp [slOf]
      intro h; omega
    · refine ⟨by simp; omega, fun _ => ⟨id, 0, rfl, fun j hj => ?_⟩⟩
      simp only [List.length_take] at hj
      obtain ⟨id', off', e1, e2⟩ := hb.at (j := j) (by omega)
      cases e1
      rw [List.getElem_take]; exact e2
    · cases h; exact ⟨0, rfl⟩
theorem mnn (y : Ms) (hk : y.kind < 3) (id : Nat) : methNotNil Try.prog (y.val id) "Count" = true := by
  obtain ⟨k, lv, lim, sz, up, dn, un, wr⟩ := y
  match k, hk with
  | 0, _ => show methNotNil Try.prog (.ifc 54 (.p (some (id, 0)))) "Count" = true; kernel_rfl
  | 1, _ => show methNotNil Try.prog (.ifc 49 (.p (some (id, 0)))) "Count" = true; kernel_rfl
  | 2, _ => show methNotNil Try.prog (.ifc 57 (.p (some (id, 0)))) "Count" = true; kernel_rfl
end

theorem E3c : (Calls1 (E3 g9 g10 g39 g40 g11 g38 g44 g46 g41 g45 g47 g12 g13) 38 (w38 g38) ∧ Calls1 (E3 g9 g10 g39 g40 g11 g38 g44 g46 g41 g45 g47 g12 g13) 44 (w44 g44) ∧ Calls1 (E3 g9 g10 g39 g40 g11 g38 g44 g46 g41 g45 g47 g12 g13) 46 (w46 g46)) ∧
    Calls1 (E3 g9 g10 g39 g40 g11 g38 g44 g46 g41 g45 g47 g12 g13) 39 (w39 g39) ∧ Calls1 (E3 g9 g10 g39 g40 g11 g38 g44 g46 g41 g45 g47 g12 g13) 40 (w40 g40) ∧
    Calls1 (E3 g9 g10 g39 g40 g11 g38 g44 g46 g41 g45 g47 g12 g13) 41 (w41 g41) ∧ Calls1 (E3 g9 g10 g39 g40 g11 g38 g44 g46 g41 g45 g47 g12 g13) 45 (w45 g45) ∧ Calls1 (E3 g9 g10 g39 g40 g11 g38 g44 g46 g41 g45 g47 g12 g13) 47 (w47 g47) := by
  refine ⟨⟨?_, ?_, ?_⟩, ?_, ?_, ?_, ?_, ?_⟩ <;> · intro R args H K; simp [E3, FEnv.call]

noncomputable abbrev E3' : FEnv := E3 g9 g10 g39 g40 g11 g38 g44 g46 g41 g45 g47 g12 g13
section
variable {p m : Nat} {a : Args} {s : Sl} {l : List Bool}
/-- counting before the reset -/
theorem level_loop1 (ha : a.Ok) (hlen : l.length ≤ 1000) (b : Int) (hb : 0 ≤ b ∧ b ≤ 255) (X : Heap) (h : LI X p m a s l a.mon) : ∃ X' y, a.mon.Like y ∧ y.Ok ∧ LI X' p m a s l y ∧
    tlim (g3_p3_b g9 g10 g39 g40 g11 g38 g44 g46 g41 g45 g47 g12 g13) (b, p, 0, a.mon.val m, s, 0) X = some ((p, 0, a.mon.val m, s), X') := by
  obtain ⟨r, X', e, y, h1, h2, h3, rfl⟩ := tlim_inv (b := g3_p3_b g9 g10 g39 g40 g11 g38 g44 g46 g41 g45 g47 g12 g13) (fun st G => ∃ i : Nat, st = (b, p, 0, a.mon.val m, s, (i : Int)) ∧ i ≤ l.length ∧ LI G p m a s l (a.mon.run (l.take i))) (fun st => l.length - st.2.2.2.2.2.toNat)
    (fun r G => ∃ y, a.mon.Like y ∧ y.Ok ∧ LI G p m a s l y ∧ r = (p, 0, a.mon.val m, s)) (by
      rintro st G ⟨i, rfl, hi, hG⟩
      have hok := (Args.mon_ok ha).run (l.take i)
      have hlike := a.mon.run_like (l.take i)
      have hw : IntKind.wrap .i64 b = b := w64 (by omega)
      by_cases hil : i < l.length
      · have hd : decide ((i : Int) < ((s.len : Nat) : Int)) = true := by have := hG.bsl.1; simp; omega
        by_cases hib : (i : Int) < b
        · left
          have hd2 : decide ((i : Int) < b) = true := by simpa using hib
          obtain ⟨id, off, e1, e2⟩ := hG.bsl.at hil
          refine ⟨(b, p, 0, a.mon.val m, s, ((i + 1 : Nat) : Int)), G.put m ((a.mon.run (l.take i)).count l[i]).obj, ?_, ⟨i + 1, rfl, by omega, ?_⟩, by dsimp only; omega⟩
          · simp only [g3_p3_b, g3_p2, hw, hd, hd2, sel_true]
            rw [if_pos (by have := hG.bsl.1; omega)]
            simp only [e1, Option.bind_some, Int.toNat_natCast, Nat.mul_one, e2]
            rw [if_pos (mnn _ (Args.mon_ok ha).kind _), ← hlike.val m, m_count E3c.1.1 E3c.1.2.1 E3c.1.2.2 hok hG.mon, exR0, w64 (by omega)]
            rfl
          · rw [Ms.run_take hil]; exact hG.put _
        · right
          have hd2 : decide ((i : Int) < b) = false := by simpa using hib
          exact ⟨_, G, by simp only [g3_p3_b, g3_p2, hw, hd, hd2, sel_true, sel_false], _, hlike, hok, hG, rfl⟩
      · right
        have hd : decide ((i : Int) < ((s.len : Nat) : Int)) = false := by have := hG.bsl.1; simp; omega
        exact ⟨_, G, by simp only [g3_p3_b, g3_p2, hd, sel_false], _, hlike, hok, hG, rfl⟩) (b, p, 0, a.mon.val m, s, 0) X ⟨0, rfl, by omega, by simpa [Ms.run_nil] using h⟩
  exact ⟨X', y, h1, h2, h3, e⟩
theorem reset_obj {x y : Ms} (h : x.Like y) (hn : x.lv = 0 ∧ x.un = 0 ∧ x.wr = false) (hk : x.kind < 3) : y.reset.obj = x.obj := by
  obtain ⟨k, lv, lim, sz, up, dn, un, wr⟩ := x
  obtain ⟨k', lv', lim', sz', up', dn', un', wr'⟩ := y
  obtain ⟨e1, e2, e3, e4, e5⟩ := h
  dsimp only at *
  subst e1; subst e2; subst e3; subst e4; subst e5
  obtain ⟨rfl, rfl, rfl⟩ := hn
  match k', hk with
  | 0, _ => rfl
  | 1, _ => rfl
  | 2, _ => rfl
theorem mon_zero (a : Args) : a.mon.lv = 0 ∧ a.mon.un = 0 ∧ a.mon.wr = false := by unfold Args.mon; split <;> (try split) <;> exact ⟨rfl, rfl, rfl⟩

/-- counting behind the reset -/
theorem level_loop2 (ha : a.Ok) (hlen : l.length ≤ 1000) (X : Heap) (h : LI X p m a s l a.mon) : ∃ X',
    tlim (g3_p7_b g9 g10 g39 g40 g11 g38 g44 g46 g41 g45 g47 g12 g13) (p, 0, a.mon.val m, s, a.lim, 0) X = some (.inl (), X') := by
  obtain ⟨r, X', e, rfl⟩ := tlim_inv (b := g3_p7_b g9 g10 g39 g40 g11 g38 g44 g46 g41 g45 g47 g12 g13) (fun st G => ∃ i : Nat, st = (p, 0, a.mon.val m, s, a.lim, (i : Int)) ∧ i ≤ l.length ∧ LI G p m a s l (a.mon.run (l.take i))) (fun st => l.length - st.2.2.2.2.2.toNat)
    (fun r G => r = .inl ()) (by
      rintro st G ⟨i, rfl, hi, hG⟩
      have hok := (Args.mon_ok ha).run (l.take i)
      have hlike := a.mon.run_like (l.take i)
      by_cases hil : i < l.length
      · have hd : decide ((i : Int) < ((s.len : Nat) : Int)) = true := by have := hG.bsl.1; simp; omega
        left
        obtain ⟨id, off, e1, e2⟩ := hG.bsl.at hil
        have h2 := hG.put ((a.mon.run (l.take i)).count l[i])
        rw [← Ms.run_take hil] at h2
        have hok2 := (Args.mon_ok ha).run (l.take (i + 1))
        have hlike2 := a.mon.run_like (l.take (i + 1))
        obtain ⟨q0, q1, q2, q3, q4⟩ := h2.ld
        obtain ⟨s', f1, f2, f3⟩ := slo_take h2.own (k := i + 1) (by omega) (by omega)
        obtain ⟨X', g1, g2, g3⟩ := s13 h2.wf f2 ha (by simp; omega) (fun id off h => by obtain ⟨o', ho'⟩ := f3 _ _ h; exact h2.lt _ _ ho')
        have h3 := h2.ext g2 g3
        have hlv := hok2.lv
        have hl2 := hlike2.lim
        rw [mon_lim] at hl2
        refine ⟨(p, 0, a.mon.val m, s, a.lim, ((i + 1 : Nat) : Int)), X', ?_, ⟨i + 1, rfl, by omega, h3⟩, by dsimp only; omega⟩
        simp only [g3_p7_b, g3_p6, hd, sel_true]
        rw [if_pos (by have := hG.bsl.1; omega)]
        simp only [e1, Option.bind_some, Int.toNat_natCast, Nat.mul_one, e2, Nat.zero_add, Nat.add_zero]
        rw [if_pos (mnn _ (Args.mon_ok ha).kind _), ← hlike.val m, m_count E3c.1.1 E3c.1.2.1 E3c.1.2.2 hok hG.mon, exR0, ← Ms.run_take hil]
        have w1 : IntKind.wrap .i64 ((i : Int) + 1) = ((i + 1 : Nat) : Int) := by rw [w64 (by omega)]; rfl
        simp only [q0, q1, q2, q3, q4, Option.bind_some, w1, f1, g1]
        rw [hlike.val m, ← hlike2.val m, m_level E3c.2.1 hok2.kind h3.mon]
        simp only [V.asI, if_true, Option.bind_some, bne_self_eq_false, sel_false]
        rw [m_over E3c.2.2.1 hok2.kind h3.mon]
        simp only [V.asB, Option.bind_some, hl2, beq_self_eq_true, Bool.not_true, sel_false]
        have d1 : decide ((a.mon.run (l.take (i + 1))).lv < 0) = false := by simp; omega
        have d2 : decide ((a.mon.run (l.take (i + 1))).lv > a.lim) = false := by simp; omega
        simp only [d1, d2, sel_false]
      · right
        have hd : decide ((i : Int) < ((s.len : Nat) : Int)) = false := by have := hG.bsl.1; simp; omega
        exact ⟨_, G, by simp only [g3_p7_b, g3_p6, hd, sel_false], rfl⟩) (p, 0, a.mon.val m, s, a.lim, 0) X ⟨0, rfl, by omega, by simpa [Ms.run_nil] using h⟩
  exact ⟨X', e⟩
end

theorem level_true (H : Heap) (hw : H.Wf) {a : Args} (ha : a.Ok) (t : ByteArray) (b : Int) (hb : 0 ≤ b ∧ b ≤ 255) : g3 Bool a.k a.l a.s a.u a.d t b H (fun r _ => some r) = some true := by
  have e1 : (H.new (.cells [.i .u8 a.k, .i .u8 a.l, .i .u8 a.s, .i .u8 a.u, .i .u8 a.d] 23 false)) = H.new (.cells a.cells 23 false) := rfl
  have g := Heap.gnew H (.cells a.cells 23 false)
  have L0 : (H.new (.cells a.cells 23 false)).ldI .u8 H.next 0 = some a.k := ldI_of g rfl
  have L1 : (H.new (.cells a.cells 23 false)).ldI .u8 H.next 1 = some a.l := ldI_of g rfl
  have L2 : (H.new (.cells a.cells 23 false)).ldI .u8 H.next 2 = some a.s := ldI_of g rfl
  have L3 : (H.new (.cells a.cells 23 false)).ldI .u8 H.next 3 = some a.u := ldI_of g rfl
  have L4 : (H.new (.cells a.cells 23 false)).ldI .u8 H.next 4 = some a.d := ldI_of g rfl
  simp only [g3, g3_r, g3_p14, g3_p0, alo, e1]
  by_cases ht : t.size > 300
  · have hd : decide (((t.size : Nat) : Int) > 300) = true := by simp; omega
    simp only [hd, sel_true]
    rfl
  · have hd : decide (((t.size : Nat) : Int) > 300) = false := by simp; omega
    obtain ⟨m, X1, f1, f2, f3, f4, f5⟩ := s10 (hw.new (.cells a.cells 23 false)) ha
    simp only [hd, sel_false, Nat.zero_add, L0, L1, L2, L3, L4, Option.bind_some, f1, val_one, if_true, bne_self_eq_false, val_ifNil]
    have hok := Args.mon_ok ha
    have hz := mon_zero a
    rw [m_level E3c.2.1 hok.kind f2]
    simp only [V.asI, if_true, Option.bind_some, hz.1, bne_self_eq_false, sel_false]
    rw [m_over E3c.2.2.1 hok.kind f2]
    have hne : (a.mon.lv == a.mon.lim) = false := by have := hok.lim; simp; omega
    simp only [V.asB, Option.bind_some, hne, g3_p13, g3_p1, sel_false]
    obtain ⟨s, X2, k1, k2, k3, k4, k5⟩ := s11 f3 (t := t) (by omega)
    have hp1 : X1.get H.next = some (.cells a.cells 23 false) := f4.get (hw.new _) g
    have hli : LI X2 H.next m a s (unitsL t) a.mon := ⟨k3, k4.get f3 hp1, k4.get f3 f2, k2, by simp at f5; omega, fun id off h => by have := k5 _ _ h; have := f3 _ _ f2; omega⟩
    have hlen : (unitsL t).length ≤ 1000 := by rw [unitsL_length]; omega
    obtain ⟨X3, y, n1, n2, n3, n4⟩ := level_loop1 ha hlen b hb X2 hli
    simp only [k1, g3_p12, g3_p4, g3_p3, n4, Option.bind_some, g3_p11, g3_p5]
    rw [← n1.val m, m_reset E3c.2.2.2.2.1 E3c.2.2.2.1 E3c.2.2.2.2.2 n2.kind n3.mon, exR0, reset_obj n1 hz hok.kind]
    have n5 := n3.put a.mon
    obtain ⟨q0, q1, q2, q3, q4⟩ := n5.ld
    simp only [Nat.zero_add, q0, q1, q2, q3, q4, Option.bind_some]
    rw [s12 ha]
    have n6 := n5.ext (n5.wf.new (.cells a.cells 23 false)) (Ext.new _ _)
    obtain ⟨X4, e4⟩ := level_loop2 ha hlen _ n6
    rw [n1.val m]
    simp only [g3_p10, g3_p8, g3_p7, e4, Option.bind_some, cas_inl, g3_p9]
    rfl
theorem monitorsLevel_true (H : Heap) (hw : H.Wf) (x1 x2 x3 x4 x5 : Int) (x6 : ByteArray) (x7 : Int) (k1 : (Lit.int .u8 x1).wf = true) (k2 : (Lit.int .u8 x2).wf = true) (k3 : (Lit.int .u8 x3).wf = true) (k4 : (Lit.int .u8 x4).wf = true) (k5 : (Lit.int .u8 x5).wf = true) (k6 : x6.size ≤ reachBytes) (k7 : (Lit.int .u8 x7).wf = true) :
    g3 Bool x1 x2 x3 x4 x5 x6 x7 H (fun r _ => some r) = some true :=
  level_true H hw (a := ⟨x1, x2, x3, x4, x5⟩) ⟨wfU8 k1, wfU8 k2, wfU8 k3, wfU8 k4, wfU8 k5⟩ x6 x7 (wfU8 k7)
end Go.Proofs.Ytbkncpmgpogakaa
