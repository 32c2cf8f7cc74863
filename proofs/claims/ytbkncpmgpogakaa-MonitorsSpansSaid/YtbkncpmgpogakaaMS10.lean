/- MonitorsMore. -/
import Derived.Test.YtbkncpmgpogakaaMS9
namespace Go.Proofs.Ytbkncpmgpogakaa
open Go AM Go.RowKit
set_option linter.unusedVariables false
set_option linter.unusedSimpArgs false

/-- y2 has seen no fewer wrong units -/
structure Ms.Le (y1 y2 : Ms) : Prop where
  like : y1.Like y2
  lv : y1.lv ≤ y2.lv
  rest : y2.lv = y2.lim ∨ (y1.un = y2.un ∧ (y1.wr = true → y2.wr = true))
theorem clampI_mono {v w hi : Int} (h : v ≤ w) (h0 : 0 ≤ hi) : clampI v hi ≤ clampI w hi := by unfold clampI; split <;> split <;> (try split) <;> (try split) <;> omega
theorem Ms.Le.count {y1 y2 : Ms} (h : y1.Le y2) (h1 : y1.Ok) (h2 : y2.Ok) {b1 b2 : Bool} (hb : b2 = true → b1 = true) : (y1.count b1).Le (y2.count b2) := by
  have l1 := y1.count_like b1
  have l2 := y2.count_like b2
  have ok1 := h1.count b1
  have ok2 := h2.count b2
  have like' : (y1.count b1).Like (y2.count b2) := ⟨by rw [l2.kind, h.like.kind, l1.kind], by rw [l2.lim, h.like.lim, l1.lim], by rw [l2.sz, h.like.sz, l1.sz], by rw [l2.up, h.like.up, l1.up], by rw [l2.dn, h.like.dn, l1.dn]⟩
  by_cases ho2 : y2.lv = y2.lim
  · rw [Ms.count_over h2 ho2] at like' ⊢
    have := ok1.lv; have := l1.lim; have := h.like.lim
    exact ⟨like', by omega, .inl ho2⟩
  · have hlim := h.like.lim
    have hk := h.like.kind
    have hsz := h.like.sz
    have hup := h.like.up
    have hdn := h.like.dn
    have hlv := h.lv
    have ho1 : ¬ y1.lv = y1.lim := by have := h1.lv; have := h2.lv; omega
    obtain ⟨hu, hw⟩ : y1.un = y2.un ∧ (y1.wr = true → y2.wr = true) := by rcases h.rest with r | r; exact absurd r ho2; exact r
    refine ⟨like', ?_, ?_⟩
    · have hv1 := h1.lv; have hv2 := h2.lv
      have w1 : (if b1 = true then y1.lv else clampI (y1.lv + 1) y1.lim) ≤ (if b2 = true then y2.lv else clampI (y2.lv + 1) y2.lim) := by
        rw [← hlim]
        cases b1 <;> cases b2 <;> simp only [if_true, Bool.false_eq_true, if_false]
        · exact clampI_mono (by omega) (by omega)
        · simp at hb
        · unfold clampI; split <;> (try split) <;> omega
        · exact hlv
      have w1b : (if b1 = true then y1.lv else clampI (y1.lv + 1) y1.lim) ≤ y1.lim := by have := clampI_b (y1.lv + 1) (hi := y1.lim) (by omega); split <;> omega
      have w2b : (if b2 = true then y2.lv else clampI (y2.lv + 1) y2.lim) ≤ y2.lim := by have := clampI_b (y2.lv + 1) (hi := y2.lim) (by omega); split <;> omega
      have hc := fun v => clampI_b v (hi := y1.lim) (by omega)
      unfold Ms.count
      split
      · rename_i hk1
        have hk2 : y2.kind = 0 := by omega
        simp only [hk2, ho1, ho2, if_false, ← hu, hsz]
        generalize (if b1 = true then y1.lv else clampI (y1.lv + 1) y1.lim) = v1 at *
        generalize (if b2 = true then y2.lv else clampI (y2.lv + 1) y2.lim) = v2 at *
        split
        · dsimp only
          have q1 := hc (v1 - 1)
          by_cases r2 : v2 = y2.lim
          · rw [if_pos r2]
            by_cases r1 : v1 = y1.lim
            · rw [if_pos r1]; exact w1
            · rw [if_neg r1]; omega
          · rw [if_neg r2, if_neg (by omega), hlim]
            exact clampI_mono (by omega) (by omega)
        · exact w1
      · rename_i hk1
        have hk2 : y2.kind = 1 := by omega
        simp only [hk2]
        cases b1 <;> cases b2 <;> simp only [if_true, Bool.false_eq_true, if_false] at w1 ⊢
        · exact w1
        · exact w1
        · exact w1
        · exact w1
      · rename_i hk0 hk1
        have hk2 : y2.kind = 2 := by have := h2.kind; have a0 : y1.kind ≠ 0 := hk0; have a1 : y1.kind ≠ 1 := hk1; omega
        simp only [hk2, ho1, ho2, if_false, ← hu, hsz]
        split
        · exact hlv
        · dsimp only
          rw [hlim, hup, hdn]
          have imp : (y1.wr || !b1) = true → (y2.wr || !b2) = true := by
            cases hx : y1.wr with
            | true => intro _; simp [hw hx]
            | false => cases b1 <;> cases b2 <;> simp at hb ⊢
          have hup1 := h1.up; have hdn1 := h1.dn
          by_cases q1 : (y1.wr || !b1) = true
          · rw [if_pos q1, if_pos (imp q1)]; exact clampI_mono (by omega) (by omega)
          · rw [if_neg q1]
            split
            · exact clampI_mono (by omega) (by omega)
            · exact clampI_mono (by omega) (by omega)
    · right
      unfold Ms.count
      split
      · rename_i hk1
        have hk2 : y2.kind = 0 := by omega
        simp only [hk2, ho1, ho2, if_false, ← hu, hsz]
        split
        · exact ⟨rfl, hw⟩
        · exact ⟨rfl, hw⟩
      · rename_i hk1
        have hk2 : y2.kind = 1 := by omega
        simp only [hk2]
        cases b1 <;> cases b2 <;> exact ⟨hu, hw⟩
      · rename_i hk0 hk1
        have hk2 : y2.kind = 2 := by have := h2.kind; have a0 : y1.kind ≠ 0 := hk0; have a1 : y1.kind ≠ 1 := hk1; omega
        simp only [hk2, ho1, ho2, if_false, ← hu, hsz]
        split
        · refine ⟨rfl, fun hx => ?_⟩
          dsimp only at hx ⊢
          cases hx1 : y1.wr with
          | true => simp [hw hx1]
          | false => rw [hx1] at hx; cases b1 <;> cases b2 <;> simp at hb hx ⊢
        · exact ⟨rfl, fun hx => hx⟩

/-- what the second monitor counts -/
def mv (t : ByteArray) (i : Nat) (x : Bool) : Bool := x && (decide (t.size = 0) || (btAt t ((i : Int) % ((t.size : Nat) : Int)) != 120))
def moreL (t : ByteArray) (l : List Bool) : List Bool := l.mapIdx fun i x => mv t i x
theorem moreL_length (t : ByteArray) (l : List Bool) : (moreL t l).length = l.length := by simp [moreL]
theorem moreL_at {t : ByteArray} {l : List Bool} {i : Nat} (h : i < l.length) : (moreL t l)[i]'(by rw [moreL_length]; exact h) = mv t i l[i] := by simp [moreL]
theorem E5c : (Calls1 (E5 g9 g10 g11 g38 g44 g46 g39 g40) 38 (w38 g38) ∧ Calls1 (E5 g9 g10 g11 g38 g44 g46 g39 g40) 44 (w44 g44) ∧ Calls1 (E5 g9 g10 g11 g38 g44 g46 g39 g40) 46 (w46 g46)) ∧
    Calls1 (E5 g9 g10 g11 g38 g44 g46 g39 g40) 39 (w39 g39) ∧ Calls1 (E5 g9 g10 g11 g38 g44 g46 g39 g40) 40 (w40 g40) := by
  refine ⟨⟨?_, ?_, ?_⟩, ?_, ?_⟩ <;> · intro R args H K; simp [E5, FEnv.call]
structure L2 (X : Heap) (m1 m2 : Nat) (s : Sl) (l : List Bool) (y1 y2 : Ms) : Prop where
  wf : X.Wf
  mon1 : X.get m1 = some y1.obj
  mon2 : X.get m2 = some y2.obj
  own : Own X 4 1 s (l.map V.b)
  ne : m1 ≠ m2
  s1 : ∀ id off, s.a = some (id, off) → id ≠ m1
  s2 : ∀ id off, s.a = some (id, off) → id ≠ m2
section
variable {X : Heap} {m1 m2 : Nat} {s : Sl} {l : List Bool} {y1 y2 : Ms}
theorem L2.put1 (h : L2 X m1 m2 s l y1 y2) (y : Ms) : L2 (X.put m1 y.obj) m1 m2 s l y y2 :=
  ⟨h.wf.put h.mon1 _, Heap.gput _ _ _, by rw [Heap.get_put, if_neg (Ne.symm h.ne)]; exact h.mon2, h.own.mono fun id o ha ho => by rw [Heap.get_put, if_neg (h.s1 _ _ ha)]; exact ho, h.ne, h.s1, h.s2⟩
theorem L2.put2 (h : L2 X m1 m2 s l y1 y2) (y : Ms) : L2 (X.put m2 y.obj) m1 m2 s l y1 y :=
  ⟨h.wf.put h.mon2 _, by rw [Heap.get_put, if_neg h.ne]; exact h.mon1, Heap.gput _ _ _, h.own.mono fun id o ha ho => by rw [Heap.get_put, if_neg (h.s2 _ _ ha)]; exact ho, h.ne, h.s1, h.s2⟩
theorem L2.bsl (h : L2 X m1 m2 s l y1 y2) : BSl X s l := .of_own h.own

theorem more_loop {x0 : Ms} (hx : x0.Ok) (t : ByteArray) (hlen : l.length ≤ 1000) (h : L2 X m1 m2 s l x0 x0) : ∃ X', tlim (g5_p3_b g9 g10 g11 g38 g44 g46 g39 g40) (t, x0.val m1, x0.val m2, s, 0) X = some (.inl (), X') := by
  obtain ⟨r, X', e, rfl⟩ := tlim_inv (b := g5_p3_b g9 g10 g11 g38 g44 g46 g39 g40) (fun st G => ∃ i : Nat, st = (t, x0.val m1, x0.val m2, s, (i : Int)) ∧ i ≤ l.length ∧ L2 G m1 m2 s l (x0.run (l.take i)) (x0.run ((moreL t l).take i)) ∧ (x0.run (l.take i)).Le (x0.run ((moreL t l).take i))) (fun st => l.length - st.2.2.2.2.toNat)
    (fun r G => r = .inl ()) (by
      rintro st G ⟨i, rfl, hi, hG, hle⟩
      by_cases hil : i < l.length
      · left
        have hil2 : i < (moreL t l).length := by rw [moreL_length]; exact hil
        have hd : decide ((i : Int) < ((s.len : Nat) : Int)) = true := by have := hG.bsl.1; simp; omega
        have hrange : 0 ≤ (i : Int) ∧ (i : Int) < ((s.len : Nat) : Int) := by have := hG.bsl.1; omega
        have ok1 := hx.run (l.take i)
        have ok2 := hx.run ((moreL t l).take i)
        have k1 := x0.run_like (l.take i)
        have k2 := x0.run_like ((moreL t l).take i)
        have ok1' := hx.run (l.take (i + 1))
        have ok2' := hx.run ((moreL t l).take (i + 1))
        have k1' := x0.run_like (l.take (i + 1))
        have k2' := x0.run_like ((moreL t l).take (i + 1))
        obtain ⟨id, off, e1, e2⟩ := hG.bsl.at hil
        have h1 := hG.put1 ((x0.run (l.take i)).count l[i])
        rw [← Ms.run_take hil] at h1
        obtain ⟨id', off', e1', e2'⟩ := h1.bsl.at hil
        obtain ⟨rfl, rfl⟩ : id' = id ∧ off' = off := by rw [e1] at e1'; simpa using e1'.symm
        have h2 := h1.put2 ((x0.run ((moreL t l).take i)).count (mv t i l[i]))
        rw [← moreL_at hil, ← Ms.run_take hil2] at h2
        have hle' : (x0.run (l.take (i + 1))).Le (x0.run ((moreL t l).take (i + 1))) := by
          rw [Ms.run_take hil, Ms.run_take hil2]
          refine hle.count ok1 ok2 fun hb => ?_
          rw [moreL_at hil] at hb
          unfold mv at hb
          cases hq : l[i] with
          | true => rfl
          | false => rw [hq] at hb; simp at hb
        have w1 : IntKind.wrap .i64 ((i : Int) + 1) = ((i + 1 : Nat) : Int) := by rw [w64 (by omega)]; rfl
        have d1 : decide ((x0.run ((moreL t l).take (i + 1))).lv < (x0.run (l.take (i + 1))).lv) = false := by have := hle'.lv; simp; omega
        have d2 : ((x0.run (l.take (i + 1))).lv == (x0.run (l.take (i + 1))).lim) = true → ((x0.run ((moreL t l).take (i + 1))).lv == (x0.run ((moreL t l).take (i + 1))).lim) = true := by
          intro hq
          simp only [beq_iff_eq] at hq ⊢
          have a1 := hle'.lv; have a2 := hle'.like.lim; have a3 := ok2'.lv
          omega
        refine ⟨(t, x0.val m1, x0.val m2, s, ((i + 1 : Nat) : Int)), (G.put m1 (x0.run (l.take (i + 1))).obj).put m2 (x0.run ((moreL t l).take (i + 1))).obj, ?_, ⟨i + 1, rfl, by omega, h2, hle'⟩, by dsimp only; omega⟩
        simp only [g5_p3_b, g5_p2, hd, sel_true]
        rw [if_pos hrange]
        simp only [e1, Option.bind_some, Int.toNat_natCast, Nat.mul_one, e2]
        rw [if_pos (mnn _ hx.kind _), ← k1.val m1, m_count E5c.1.1 E5c.1.2.1 E5c.1.2.2 ok1 hG.mon1, exR0, ← Ms.run_take hil, if_pos hrange]
        simp only [e2', Option.bind_some]
        have tail : ∀ bv : Bool, bv = mv t i l[i] →
            (if methNotNil Try.prog (x0.val m2) "Count" = true then
              invk Try.prog (E5 g9 g10 g11 g38 g44 g46 g39 g40) (x0.val m2) "Count" [.b bv] (G.put m1 (x0.run (l.take (i + 1))).obj) fun x74 h75 =>
                exR Try.prog 0 x74 fun x76 =>
                invk Try.prog (E5 g9 g10 g11 g38 g44 g46 g39 g40) (x0.val m2) "Level" [] h75 fun x77 h78 =>
                (V.asI .i64 x77).bind fun x79 =>
                invk Try.prog (E5 g9 g10 g11 g38 g44 g46 g39 g40) ((x0.run (l.take i)).val m1) "Level" [] h78 fun x80 h81 =>
                (V.asI .i64 x80).bind fun x82 =>
                sel (decide (x79 < x82)) (some (Rd.up (Sum.inr false), h81)) (
                  invk Try.prog (E5 g9 g10 g11 g38 g44 g46 g39 g40) ((x0.run (l.take i)).val m1) "Over" [] h81 fun x83 h84 =>
                  (V.asB x83).bind fun x85 =>
                  sel x85 (
                    invk Try.prog (E5 g9 g10 g11 g38 g44 g46 g39 g40) (x0.val m2) "Over" [] h84 fun x86 h87 =>
                    (V.asB x86).bind fun x88 =>
                    sel (!x88) (some (Rd.up (Sum.inr false), h87)) (some (Rd.go (t, (x0.run (l.take i)).val m1, x0.val m2, s, IntKind.wrap .i64 ((i : Int) + 1)), h87))) (
                    some (Rd.go (t, (x0.run (l.take i)).val m1, x0.val m2, s, IntKind.wrap .i64 ((i : Int) + 1)), h84)))
              else none : Option (Rd g5_p3_S g5_p3_O × Heap)) = some (.go (t, (x0.run (l.take i)).val m1, x0.val m2, s, ((i + 1 : Nat) : Int)), (G.put m1 (x0.run (l.take (i + 1))).obj).put m2 (x0.run ((moreL t l).take (i + 1))).obj) := by
          rintro bv rfl
          rw [if_pos (mnn _ hx.kind _), ← k2.val m2, m_count E5c.1.1 E5c.1.2.1 E5c.1.2.2 ok2 h1.mon2, exR0, ← moreL_at hil, ← Ms.run_take hil2, k2.val m2, ← k2'.val m2, m_level E5c.2.1 ok2'.kind h2.mon2]
          simp only [V.asI, if_true, Option.bind_some]
          rw [k1.val m1, ← k1'.val m1, m_level E5c.2.1 ok1'.kind h2.mon1]
          simp only [V.asI, if_true, Option.bind_some, d1, sel_false]
          rw [m_over E5c.2.2 ok1'.kind h2.mon1]
          simp only [V.asB, Option.bind_some, w1]
          cases hq : ((x0.run (l.take (i + 1))).lv == (x0.run (l.take (i + 1))).lim) with
          | false => simp only [sel_false, k1.val m1, k1'.val m1, k2'.val m2]
          | true =>
            simp only [sel_true]
            rw [m_over E5c.2.2 ok2'.kind h2.mon2, d2 hq]
            simp only [V.asB, Option.bind_some, Bool.not_true, sel_false, k1.val m1, k1'.val m1, k2'.val m2]
        cases hq : l[i] with
        | false =>
          simp only [sel_false]
          exact tail false (by rw [hq]; rfl)
        | true =>
          simp only [sel_true]
          by_cases hs0 : t.size = 0
          · have : (((t.size : Nat) : Int) == 0) = true := by simp [hs0]
            rw [this, sel_true]
            exact tail true (by rw [hq]; simp [mv, hs0])
          · have : (((t.size : Nat) : Int) == 0) = false := by simp [hs0]
            rw [this, sel_false, if_neg (by omega)]
            have hm : Int.tmod (i : Int) ((t.size : Nat) : Int) = (i : Int) % ((t.size : Nat) : Int) := tmodI (by omega)
            have hm1 := Int.emod_nonneg (i : Int) (show ((t.size : Nat) : Int) ≠ 0 by omega)
            have hm2 := Int.emod_lt_of_pos (i : Int) (show 0 < ((t.size : Nat) : Int) by omega)
            rw [hm, if_pos ⟨hm1, hm2⟩]
            exact tail (btAt t ((i : Int) % ((t.size : Nat) : Int)) != 120) (by rw [hq]; simp [mv, hs0])
      · right
        obtain rfl : i = l.length := by omega
        have hd : decide (((l.length : Nat) : Int) < ((s.len : Nat) : Int)) = false := by have := hG.bsl.1; simp; omega
        exact ⟨.inl (), G, by simp only [g5_p3_b, g5_p2, hd, sel_false], rfl⟩) (t, x0.val m1, x0.val m2, s, 0) X ⟨0, rfl, by omega, by simpa [Ms.run_nil] using h, by
          simp only [List.take_zero, Ms.run_nil]
          exact ⟨.refl _, Int.le_refl _, .inr ⟨rfl, fun h => h⟩⟩⟩
  exact ⟨X', e⟩
end
theorem more_true (H : Heap) (hw : H.Wf) {a : Args} (ha : a.Ok) (t t2 : ByteArray) : g5 Bool a.k a.l a.s a.u a.d t t2 H (fun r _ => some r) = some true := by
  have e1 : (H.new (.cells [.i .u8 a.k, .i .u8 a.l, .i .u8 a.s, .i .u8 a.u, .i .u8 a.d] 23 false)) = H.new (.cells a.cells 23 false) := rfl
  have g := Heap.gnew H (.cells a.cells 23 false)
  have L0 : (H.new (.cells a.cells 23 false)).ldI .u8 H.next 0 = some a.k := ldI_of g rfl
  have L1 : (H.new (.cells a.cells 23 false)).ldI .u8 H.next 1 = some a.l := ldI_of g rfl
  have L2' : (H.new (.cells a.cells 23 false)).ldI .u8 H.next 2 = some a.s := ldI_of g rfl
  have L3 : (H.new (.cells a.cells 23 false)).ldI .u8 H.next 3 = some a.u := ldI_of g rfl
  have L4 : (H.new (.cells a.cells 23 false)).ldI .u8 H.next 4 = some a.d := ldI_of g rfl
  simp only [g5, g5_r, g5_p8, g5_p0, alo, e1]
  by_cases ht : t.size > 300
  · have hd : decide (((t.size : Nat) : Int) > 300) = true := by simp; omega
    simp only [hd, sel_true]
    rfl
  · have hd : decide (((t.size : Nat) : Int) > 300) = false := by simp; omega
    obtain ⟨m1, X1, f1, f2, f3, f4, f5⟩ := s10 (hw.new (.cells a.cells 23 false)) ha
    have hp1 : X1.get H.next = some (.cells a.cells 23 false) := f4.get (hw.new _) g
    have M0 : X1.ldI .u8 H.next 0 = some a.k := ldI_of hp1 rfl
    have M1 : X1.ldI .u8 H.next 1 = some a.l := ldI_of hp1 rfl
    have M2 : X1.ldI .u8 H.next 2 = some a.s := ldI_of hp1 rfl
    have M3 : X1.ldI .u8 H.next 3 = some a.u := ldI_of hp1 rfl
    have M4 : X1.ldI .u8 H.next 4 = some a.d := ldI_of hp1 rfl
    have hok := Args.mon_ok ha
    obtain ⟨m2, X2, c1, c2, c3, c4, c5⟩ := s10 f3 ha
    simp only [hd, sel_false, Nat.zero_add, L0, L1, L2', L3, L4, M0, M1, M2, M3, M4, Option.bind_some, f1, c1, val_one, if_true, bne_self_eq_false, val_ifNil, g5_p7, g5_p1]
    obtain ⟨s, X3, k1, k2, k3, k4, k5⟩ := s11 c3 (t := t) (by omega)
    have hm1 := f3 _ _ f2
    have hl2 : L2 X3 m1 m2 s (unitsL t) a.mon a.mon := ⟨k3, Ext.get k4 c3 (Ext.get c4 f3 f2), Ext.get k4 c3 c2, k2, by omega, fun id off h => by have h1 := k5 _ _ h; have := c4.next; omega, fun id off h => by have h1 := k5 _ _ h; have := c3 _ _ c2; omega⟩
    obtain ⟨X4, e4⟩ := more_loop hok t2 (by rw [unitsL_length]; omega) hl2
    simp only [k1, g5_p6, g5_p4, g5_p3, e4, Option.bind_some, cas_inl, g5_p5]
    rfl
theorem monitorsMore_true (H : Heap) (hw : H.Wf) (x1 x2 x3 x4 x5 : Int) (x6 x7 : ByteArray) (k1 : (Lit.int .u8 x1).wf = true) (k2 : (Lit.int .u8 x2).wf = true) (k3 : (Lit.int .u8 x3).wf = true) (k4 : (Lit.int .u8 x4).wf = true) (k5 : (Lit.int .u8 x5).wf = true) (k6 : x6.size ≤ reachBytes) (k7 : x7.size ≤ reachBytes) :
    g5 Bool x1 x2 x3 x4 x5 x6 x7 H (fun r _ => some r) = some true :=
  more_true H hw (a := ⟨x1, x2, x3, x4, x5⟩) ⟨wfU8 k1, wfU8 k2, wfU8 k3, wfU8 k4, wfU8 k5⟩ x6 x7
end Go.Proofs.Ytbkncpmgpogakaa
