/- First, and MonitorsFirst. -/
import Derived.Test.YtbkncpmgpogakaaMS7
namespace Go.Proofs.Ytbkncpmgpogakaa
open Go AM Go.RowKit
set_option linter.unusedVariables false
set_option linter.unusedSimpArgs false

/-- over behind so many units -/
def Ms.OverAt (y : Ms) (l : List Bool) (i : Nat) : Prop := (y.run (l.take i)).lv = y.lim
/-- the number of units after which it is over -/
def IsFirst (y : Ms) (l : List Bool) (r : Int) : Prop := (r = -1 ∧ ∀ j, 1 ≤ j → j ≤ l.length → ¬ y.OverAt l j) ∨ ∃ n : Nat, r = (n : Int) ∧ 1 ≤ n ∧ n ≤ l.length ∧ y.OverAt l n ∧ ∀ j, 1 ≤ j → j < n → ¬ y.OverAt l j
theorem IsFirst.uniq {y : Ms} {l : List Bool} {r r' : Int} (h : IsFirst y l r) (h' : IsFirst y l r') : r = r' := by
  rcases h with ⟨rfl, h1⟩ | ⟨n, rfl, a1, a2, a3, a4⟩
  · rcases h' with ⟨rfl, _⟩ | ⟨n', rfl, b1, b2, b3, b4⟩
    · rfl
    · exact absurd b3 (h1 _ b1 b2)
  · rcases h' with ⟨rfl, h1⟩ | ⟨n', rfl, b1, b2, b3, b4⟩
    · exact absurd a3 (h1 _ a1 a2)
    · rcases Nat.lt_trichotomy n n' with c | c | c
      · exact absurd a3 (b4 _ a1 c)
      · rw [c]
      · exact absurd b3 (a4 _ b1 c)
theorem E14c : (Calls1 (E14 g40 g38 g44 g46) 38 (w38 g38) ∧ Calls1 (E14 g40 g38 g44 g46) 44 (w44 g44) ∧ Calls1 (E14 g40 g38 g44 g46) 46 (w46 g46)) ∧ Calls1 (E14 g40 g38 g44 g46) 40 (w40 g40) := by
  refine ⟨⟨?_, ?_, ?_⟩, ?_⟩ <;> · intro R args H K; simp [E14, FEnv.call]
theorem s14_nil {R : Type} (s : Sl) (H : Heap) (K : Int → Heap → Option R) : g14 R .nilI s H K = K (-1) H := by
  simp [g14, g14_r, g14_p6, g14_p0, ifNil]
section
variable {X : Heap} {p m : Nat} {a : Args} {s : Sl} {l : List Bool} {y : Ms}
theorem s14_over (h : LI X p m a s l y) (hy : y.Ok) (ho : y.lv = y.lim) {R : Type} (K : Int → Heap → Option R) : g14 R (y.val m) s X K = K 0 X := by
  simp only [g14, g14_r, g14_p6, g14_p0, val_ifNil, Option.bind_some, sel_false]
  rw [m_over E14c.2 hy.kind h.mon]
  simp [V.asB, ho]
theorem s14 (h : LI X p m a s l y) (hy : y.Ok) (ho : y.lv ≠ y.lim) (hlen : l.length ≤ 1000) : ∃ r X', (∀ (R : Type) (K : Int → Heap → Option R), g14 R (y.val m) s X K = K r X') ∧ LI X' p m a s l (y.run l) ∧ IsFirst y l r := by
  obtain ⟨r, X', e, h1, r', h2, h3⟩ := tlim_inv (b := g14_p2_b g40 g38 g44 g46) (fun st G => ∃ i : Nat, st = (y.val m, s, (l.length : Int), (i : Int)) ∧ i ≤ l.length ∧ LI G p m a s l (y.run (l.take i)) ∧ ∀ j, 1 ≤ j → j ≤ i → ¬ y.OverAt l j)
    (fun st => l.length - st.2.2.2.toNat) (fun r G => LI G p m a s l (y.run l) ∧ ∃ r' : Int, IsFirst y l r' ∧ ((r = .inl () ∧ r' = -1) ∨ r = .inr r')) (by
      rintro st G ⟨i, rfl, hi, hG, hno⟩
      have hok := hy.run (l.take i)
      have hlike := y.run_like (l.take i)
      by_cases hil : i < l.length
      · have hd : decide ((i : Int) < (l.length : Int)) = true := by simp; omega
        obtain ⟨id, off, e1, e2⟩ := hG.bsl.at hil
        have h2 := hG.put ((y.run (l.take i)).count l[i])
        rw [← Ms.run_take hil] at h2
        have hok2 := hy.run (l.take (i + 1))
        have hlike2 := y.run_like (l.take (i + 1))
        have hw : IntKind.wrap .i64 ((i : Int) + 1) = ((i + 1 : Nat) : Int) := by rw [w64 (by omega)]; rfl
        have hbody : ∀ (R : Type) (kN : V → Sl → Int → Int → Heap → Option R) (kE0 : Heap → Option R) (kR : Int → Heap → Option R), g14_p1 g40 g38 g44 g46 R (y.val m) s (l.length : Int) (i : Int) G kN kE0 kR =
            sel ((y.run (l.take (i + 1))).lv == (y.run (l.take (i + 1))).lim) (kR ((i + 1 : Nat) : Int) (G.put m (y.run (l.take (i + 1))).obj)) (kN (y.val m) s (l.length : Int) ((i + 1 : Nat) : Int) (G.put m (y.run (l.take (i + 1))).obj)) := by
          intro R kN kE0 kR
          simp only [g14_p1, hd, sel_true]
          rw [if_pos (by have := hG.bsl.1; omega)]
          simp only [e1, Option.bind_some, Int.toNat_natCast, Nat.mul_one, e2]
          rw [← hlike.val m, m_count E14c.1.1 E14c.1.2.1 E14c.1.2.2 hok hG.mon, exR0, ← Ms.run_take hil, hlike.val m, ← hlike2.val m, m_over E14c.2 hok2.kind h2.mon]
          simp only [V.asB, Option.bind_some, hw]
        by_cases hov : (y.run (l.take (i + 1))).lv = (y.run (l.take (i + 1))).lim
        · right
          have hall : y.run l = y.run (l.take (i + 1)) := by
            conv => lhs; rw [← List.take_append_drop (i + 1) l, Ms.run_append, Ms.run_over hok2 hov]
          refine ⟨.inr ((i + 1 : Nat) : Int), G.put m (y.run (l.take (i + 1))).obj, ?_, ?_, ((i + 1 : Nat) : Int), .inr ⟨i + 1, rfl, by omega, by omega, by unfold Ms.OverAt; rw [hov, hlike2.lim], fun j hj hji => hno j hj (by omega)⟩, .inr rfl⟩
          · simp only [g14_p2_b, hbody, hov, beq_self_eq_true, sel_true]
          · rw [hall]; exact h2
        · left
          have hb : ((y.run (l.take (i + 1))).lv == (y.run (l.take (i + 1))).lim) = false := by simpa using hov
          refine ⟨(y.val m, s, (l.length : Int), ((i + 1 : Nat) : Int)), G.put m (y.run (l.take (i + 1))).obj, ?_, ⟨i + 1, rfl, by omega, h2, fun j hj hji => ?_⟩, by dsimp only; omega⟩
          · simp only [g14_p2_b, hbody, hb, sel_false]
          · by_cases hj2 : j = i + 1
            · subst hj2; unfold Ms.OverAt; rw [← hlike2.lim]; exact hov
            · exact hno j hj (by omega)
      · right
        obtain rfl : i = l.length := by omega
        have hd : decide (((l.length : Nat) : Int) < (l.length : Int)) = false := by simp
        rw [List.take_length] at hG
        exact ⟨.inl (), G, by simp only [g14_p2_b, g14_p1, hd, sel_false], hG, -1, .inl ⟨rfl, fun j a b => hno j a b⟩, .inl ⟨rfl, rfl⟩⟩) (y.val m, s, (l.length : Int), 0) X ⟨0, rfl, by omega, by simpa [Ms.run_nil] using h, fun j a b => by omega⟩
  refine ⟨r', X', fun R K => ?_, h1, h2⟩
  have hne : (y.lv == y.lim) = false := by simpa using ho
  simp only [g14, g14_r, g14_p6, g14_p0, val_ifNil, Option.bind_some, sel_false]
  rw [m_over E14c.2 hy.kind h.mon]
  simp only [V.asB, Option.bind_some, hne, sel_false, g14_p5, g14_p3, g14_p2, h.bsl.1, e]
  rcases h3 with ⟨rfl, rfl⟩ | rfl
  · simp [g14_p4]
  · simp
end

theorem E4c : Calls1 (E4 g9 g10 g12 g11 g13 g14 g39) 39 (w39 g39) := by
  intro R args H K; simp [E4, FEnv.call]
section
variable {p m : Nat} {a : Args} {s : Sl} {l : List Bool}
theorem first_loop (ha : a.Ok) (hlen : l.length ≤ 1000) (X : Heap) (h : LI X p m a s l a.mon) : ∃ X' r, LI X' p m a s l a.mon ∧ IsFirst a.mon l r ∧
    tlim (g4_p2_b g9 g10 g12 g11 g13 g14 g39) (p, 0, a.mon.val m, a.lim, s, -1, (l.length : Int)) X = some ((p, 0, a.mon.val m, s, r), X') := by
  obtain ⟨r, X', e, r', h1, h2, rfl⟩ := tlim_inv (b := g4_p2_b g9 g10 g12 g11 g13 g14 g39) (fun st G => ∃ (i : Nat) (w : Int), st = (p, 0, a.mon.val m, a.lim, s, w, (i : Int)) ∧ i ≤ l.length ∧ LI G p m a s l a.mon ∧
      ((w = -1 ∧ ∀ j, i < j → j ≤ l.length → ¬ a.mon.OverAt l j) ∨ ∃ n : Nat, w = (n : Int) ∧ i < n ∧ n ≤ l.length ∧ a.mon.OverAt l n ∧ ∀ j, i < j → j < n → ¬ a.mon.OverAt l j)) (fun st => st.2.2.2.2.2.2.toNat)
    (fun r G => ∃ r', LI G p m a s l a.mon ∧ IsFirst a.mon l r' ∧ r = (p, 0, a.mon.val m, s, r')) (by
      rintro st G ⟨i, w, rfl, hi, hG, hw⟩
      cases i with
      | zero =>
        right
        refine ⟨(p, 0, a.mon.val m, s, w), G, by simp [g4_p2_b, g4_p1], w, hG, ?_, rfl⟩
        rcases hw with ⟨rfl, h1⟩ | ⟨n, rfl, a1, a2, a3, a4⟩
        · exact .inl ⟨rfl, fun j x y => h1 j (by omega) y⟩
        · exact .inr ⟨n, rfl, by omega, a2, a3, fun j x y => a4 j (by omega) y⟩
      | succ i =>
        left
        have hd : decide (((i + 1 : Nat) : Int) > 0) = true := by simp
        obtain ⟨q0, q1, q2, q3, q4⟩ := hG.ld
        obtain ⟨s', f1, f2, f3⟩ := slo_take hG.own (k := i + 1) (by omega) (by omega)
        obtain ⟨G', g1, g2, g3⟩ := s13 hG.wf f2 ha (by simp; omega) (fun id off h => by obtain ⟨o', ho'⟩ := f3 _ _ h; exact hG.lt _ _ ho')
        have hw1 : IntKind.wrap .i64 (((i + 1 : Nat) : Int) - 1) = (i : Int) := by rw [w64 (by omega)]; omega
        have hbody : g4_p2_b g9 g10 g12 g11 g13 g14 g39 (p, 0, a.mon.val m, a.lim, s, w, ((i + 1 : Nat) : Int)) G = some (.go (p, 0, a.mon.val m, a.lim, s, if (a.mon.run (l.take (i + 1))).lv = a.lim then ((i + 1 : Nat) : Int) else w, (i : Int)), G') := by
          simp only [g4_p2_b, g4_p1, hd, sel_true, Nat.zero_add, q0, q1, q2, q3, q4, Option.bind_some, f1, g1, hw1]
          by_cases hov : (a.mon.run (l.take (i + 1))).lv = a.lim
          · simp [hov]
          · have : ((a.mon.run (l.take (i + 1))).lv == a.lim) = false := by simpa using hov
            simp [this, hov]
        refine ⟨_, G', hbody, ⟨i, _, rfl, by omega, hG.ext g2 g3, ?_⟩, by dsimp only; omega⟩
        have hP : a.mon.OverAt l (i + 1) ↔ (a.mon.run (l.take (i + 1))).lv = a.lim := by unfold Ms.OverAt; rw [mon_lim]
        split
        · rename_i hov
          exact .inr ⟨i + 1, rfl, by omega, by omega, hP.2 hov, fun j x y => by omega⟩
        · rename_i hov
          rcases hw with ⟨rfl, h1⟩ | ⟨n, rfl, a1, a2, a3, a4⟩
          · refine .inl ⟨rfl, fun j x y => ?_⟩
            by_cases hj : j = i + 1
            · subst hj; exact fun h => hov (hP.1 h)
            · exact h1 j (by omega) y
          · refine .inr ⟨n, rfl, by omega, a2, a3, fun j x y => ?_⟩
            by_cases hj : j = i + 1
            · subst hj; exact fun h => hov (hP.1 h)
            · exact a4 j (by omega) y) (p, 0, a.mon.val m, a.lim, s, -1, (l.length : Int)) X ⟨l.length, -1, rfl, by omega, h, .inl ⟨rfl, fun j x y => by omega⟩⟩
  exact ⟨X', r', h1, h2, e⟩
end
theorem first_true (H : Heap) (hw : H.Wf) {a : Args} (ha : a.Ok) (t : ByteArray) : g4 Bool a.k a.l a.s a.u a.d t H (fun r _ => some r) = some true := by
  have e1 : (H.new (.cells [.i .u8 a.k, .i .u8 a.l, .i .u8 a.s, .i .u8 a.u, .i .u8 a.d] 23 false)) = H.new (.cells a.cells 23 false) := rfl
  have g := Heap.gnew H (.cells a.cells 23 false)
  have L0 : (H.new (.cells a.cells 23 false)).ldI .u8 H.next 0 = some a.k := ldI_of g rfl
  have L1 : (H.new (.cells a.cells 23 false)).ldI .u8 H.next 1 = some a.l := ldI_of g rfl
  have L2 : (H.new (.cells a.cells 23 false)).ldI .u8 H.next 2 = some a.s := ldI_of g rfl
  have L3 : (H.new (.cells a.cells 23 false)).ldI .u8 H.next 3 = some a.u := ldI_of g rfl
  have L4 : (H.new (.cells a.cells 23 false)).ldI .u8 H.next 4 = some a.d := ldI_of g rfl
  simp only [g4, g4_r, g4_p6, g4_p0, alo, e1]
  by_cases ht : t.size > 300
  · have hd : decide (((t.size : Nat) : Int) > 300) = true := by simp; omega
    simp only [hd, sel_true]
    rfl
  · have hd : decide (((t.size : Nat) : Int) > 300) = false := by simp; omega
    obtain ⟨m, X1, f1, f2, f3, f4, f5⟩ := s10 (hw.new (.cells a.cells 23 false)) ha
    have hp1 : X1.get H.next = some (.cells a.cells 23 false) := f4.get (hw.new _) g
    have M0 : X1.ldI .u8 H.next 0 = some a.k := ldI_of hp1 rfl
    have M1 : X1.ldI .u8 H.next 1 = some a.l := ldI_of hp1 rfl
    have M2 : X1.ldI .u8 H.next 2 = some a.s := ldI_of hp1 rfl
    have M3 : X1.ldI .u8 H.next 3 = some a.u := ldI_of hp1 rfl
    have M4 : X1.ldI .u8 H.next 4 = some a.d := ldI_of hp1 rfl
    have hok := Args.mon_ok ha
    have hz := mon_zero a
    simp only [hd, sel_false, Nat.zero_add, L0, L1, L2, L3, L4, M0, M1, M2, M3, M4, Option.bind_some, f1, val_one, if_true, bne_self_eq_false, val_ifNil]
    rw [s12 ha]
    obtain ⟨s, X2, k1, k2, k3, k4, k5⟩ := s11 (f3.new (.cells a.cells 23 false)) (t := t) (by omega)
    have x2 : Ext X1 X2 := (Ext.new X1 (.cells a.cells 23 false)).trans k4
    have hli : LI X2 H.next m a s (unitsL t) a.mon := ⟨k3, Ext.get x2 f3 hp1, Ext.get x2 f3 f2, k2, by simp at f5; omega, fun id off h => by have h1 := k5 _ _ h; have h2 := f3 _ _ f2; rw [Heap.next_new] at h1; omega⟩
    have hlen : (unitsL t).length ≤ 1000 := by rw [unitsL_length]; omega
    have hsl : s.len = (unitsL t).length := hli.bsl.1
    obtain ⟨X3, r, n1, n2, n3⟩ := first_loop ha hlen X2 hli
    have hno : a.mon.lv ≠ a.mon.lim := by have := hok.lim; omega
    obtain ⟨r2, X4, m1, m2, m3⟩ := s14 n1 hok hno hlen
    obtain rfl := IsFirst.uniq m3 n2
    simp only [k1, g4_p5, g4_p3, g4_p2, hsl, n3, Option.bind_some, g4_p4, m1, bne_self_eq_false, sel_false]
    have hok2 := hok.run (unitsL t)
    have hlike2 := a.mon.run_like (unitsL t)
    rw [← hlike2.val m, m_level E4c hok2.kind m2.mon]
    obtain ⟨q0, q1, q2, q3, q4⟩ := m2.ld
    obtain ⟨X5, c1, c2, c3⟩ := s13 m2.wf m2.bsl ha hlen m2.lt
    have m3' := m2.ext c2 c3
    have hsame : V.same (.agg [.i .u8 a.k, .i .u8 a.l, .i .u8 a.s, .i .u8 a.u, .i .u8 a.d]) (.agg [.i .u8 a.k, .i .u8 a.l, .i .u8 a.s, .i .u8 a.u, .i .u8 a.d]) = true := by simp [V.same, sames, V.same1]
    simp only [V.asI, if_true, Option.bind_some, Nat.zero_add, q0, q1, q2, q3, q4, hsame, c1, bne_self_eq_false, sel_false, s14_nil]
    rcases n2 with ⟨rfl, h1⟩ | ⟨n, rfl, a1, a2, a3, a4⟩
    · simp only [show decide ((-1 : Int) < 0) = true from rfl, sel_true, beq_self_eq_true]
      rfl
    · have hn : decide ((n : Int) < 0) = false := by simp
      have hover : (a.mon.run (unitsL t)).lv = (a.mon.run (unitsL t)).lim := by
        have hokn := hok.run ((unitsL t).take n)
        have hov : (a.mon.run ((unitsL t).take n)).lv = (a.mon.run ((unitsL t).take n)).lim := by rw [(a.mon.run_like _).lim]; exact a3
        have : a.mon.run (unitsL t) = a.mon.run ((unitsL t).take n) := by
          conv => lhs; rw [← List.take_append_drop n (unitsL t), Ms.run_append, Ms.run_over hokn hov]
        rw [this]; exact hov
      simp only [hn, sel_false, s14_over m3' hok2 hover, beq_self_eq_true, sel_true]
      rfl
theorem monitorsFirst_true (H : Heap) (hw : H.Wf) (x1 x2 x3 x4 x5 : Int) (x6 : ByteArray) (k1 : (Lit.int .u8 x1).wf = true) (k2 : (Lit.int .u8 x2).wf = true) (k3 : (Lit.int .u8 x3).wf = true) (k4 : (Lit.int .u8 x4).wf = true) (k5 : (Lit.int .u8 x5).wf = true) (k6 : x6.size ≤ reachBytes) :
    g4 Bool x1 x2 x3 x4 x5 x6 H (fun r _ => some r) = some true :=
  first_true H hw (a := ⟨x1, x2, x3, x4, x5⟩) ⟨wfU8 k1, wfU8 k2, wfU8 k3, wfU8 k4, wfU8 k5⟩ x6
end Go.Proofs.Ytbkncpmgpogakaa
