/- Calls: messages; valid, Encode. -/
import Derived.Test.YtnjihofdmncckaaDoorCC1
namespace Go.Proofs.YtnjihofdmncckaaDoor
open Go AM Go.RowKit
set_option linter.unusedVariables false
set_option linter.unusedSimpArgs false

def i8s (l : List UInt8) : List Int := l.map fun b => (b.toNat : Int)
theorem u8s_i8s (l : List UInt8) : u8s (i8s l) = l := by
  unfold u8s i8s
  rw [List.map_map]
  have : ∀ b : UInt8, UInt8.ofNat ((b.toNat : Int)).toNat = b := fun b => by
    apply UInt8.toNat_inj.1; rw [UInt8.toNat_ofNat']; have := u8lt b; omega
  conv => rhs; rw [← List.map_id l]
  exact List.map_congr_left fun b _ => this b
theorem i8s_byt (l : List UInt8) : Byt (i8s l) := fun n hn => by
  simp only [i8s, List.mem_map] at hn
  obtain ⟨b, _, rfl⟩ := hn
  have := u8lt b; omega
@[simp] theorem i8s_len (l : List UInt8) : (i8s l).length = l.length := by simp [i8s]
theorem i8s_u8s {l : List Int} (h : Byt l) : i8s (u8s l) = l := by
  unfold u8s i8s
  rw [List.map_map]
  conv => rhs; rw [← List.map_id l]
  refine List.map_congr_left fun n hn => ?_
  have := h n hn
  simp only [Function.comp, UInt8.toNat_ofNat', id]
  omega
/-- a message -/
structure Ca where
  k : Int
  c : Int
  a : List UInt8
  b : List UInt8
  u : Int
structure Ca.Ok (m : Ca) : Prop where
  k : 0 ≤ m.k ∧ m.k ≤ 255
  u : 0 ≤ m.u ∧ m.u ≤ 255
def Ca.cells (m : Ca) : List V := [.i .u8 m.k, .i .i64 m.c, .s (bsU m.a), .s (bsU m.b), .i .u8 m.u]
def Ca.zero : Ca := ⟨0, 0, [], [], 0⟩
def nilS : Sl := ⟨none, 0, .ex 0⟩
theorem ldC' {G : Heap} {i : Nat} {m : Ca} (hG : G.get i = some (.cells m.cells 24 false)) : G.ldI .u8 i 0 = some m.k ∧ G.ldI .i64 i 1 = some m.c ∧ G.ldS i 2 = some (bsU m.a) ∧ G.ldS i 3 = some (bsU m.b) ∧ G.ldI .u8 i 4 = some m.u :=
  ⟨ldI_of hG rfl, ldI_of hG rfl, ldS_of hG rfl, ldS_of hG rfl, ldI_of hG rfl⟩
theorem s5 {R : Type} (H : Heap) (K : Bool → Heap → Option R) : g5 R H K = K true H := rfl
def Ca.ok (m : Ca) : Bool := decide (1 ≤ m.k ∧ m.k ≤ 5 ∧ 0 ≤ m.c ∧ m.c ≤ 255) && (if m.k = 1 then num m.a && (num m.b && (m.u == 0)) else decide (m.a = []) && (decide (m.b = []) && (m.k == 4 || m.u == 0)))
theorem s19 {H : Heap} (hw : H.Wf) (m : Ca) : ∃ H', (∀ (R : Type) (K : Bool → Heap → Option R), g19 R m.k m.c (bsU m.a) (bsU m.b) m.u H K = K m.ok H') ∧ Ext H H' ∧ H'.Wf := by
  have g1 := Heap.gnew H (.cells m.cells 24 false)
  have w1 := hw.new (.cells m.cells 24 false)
  have x1 := Ext.new H (.cells m.cells 24 false)
  obtain ⟨a0, a1, a2, a3, a4⟩ := ldC' g1
  obtain ⟨H2, e2, x2, w2⟩ := s25 w1 m.a
  obtain ⟨H3, e3, x3, w3⟩ := s25 w2 m.b
  obtain ⟨b0, b1, b2, b3, b4⟩ := ldC' (x2.get w1 g1)
  obtain ⟨c0, c1, c2, c3, c4⟩ := ldC' (x3.get w2 (x2.get w1 g1))
  have x12 : Ext H H2 := x1.trans x2
  have x13 : Ext H H3 := x12.trans x3
  by_cases hr : 1 ≤ m.k ∧ m.k ≤ 5 ∧ 0 ≤ m.c ∧ m.c ≤ 255
  · have main : ∀ (R : Type) (K : Bool → Heap → Option R), g19 R m.k m.c (bsU m.a) (bsU m.b) m.u H K = if m.k = 1 then (if num m.a = true then (if num m.b = true then K (m.u == 0) H3 else K false H3) else K false H2) else K (decide (m.a = []) && (decide (m.b = []) && (m.k == 4 || m.u == 0))) (H.new (.cells m.cells 24 false)) := fun R K => by
      simp only [g19, g19_r, g19_p0, alo, Nat.zero_add]
      rw [show [V.i IntKind.u8 m.k, V.i IntKind.i64 m.c, V.s (bsU m.a), V.s (bsU m.b), V.i IntKind.u8 m.u] = m.cells from rfl]
      generalize H.next = i at *
      generalize H.new (.cells m.cells 24 false) = H1 at *
      simp only [a0, a1, a2, a3, a4, Option.bind_some]
      rw [decide_eq_false (by omega), sel_false, decide_eq_false (by omega), sel_false, decide_eq_false (by omega), sel_false, decide_eq_false (by omega), sel_false, selE]
      by_cases hk : m.k = 1
      · rw [if_pos hk, if_pos hk, e2, selI]
        by_cases ha : num m.a = true
        · rw [if_pos ha, if_pos ha, b3, Option.bind_some, e3, selI]
          by_cases hb : num m.b = true
          · rw [if_pos hb, if_pos hb, c4, Option.bind_some]
          · rw [if_neg hb, if_neg hb]
        · rw [if_neg ha, if_neg ha]
      · rw [if_neg hk, if_neg hk]
        simp only [strE]
        generalize decide (m.a = []) = pa
        generalize decide (m.b = []) = pb
        generalize (m.k == 4) = k4
        cases pa <;> cases pb <;> cases k4 <;> rfl
    unfold Ca.ok
    rw [decide_eq_true hr, Bool.true_and]
    by_cases hk : m.k = 1
    · rw [if_pos hk]
      by_cases ha : num m.a = true
      · by_cases hb : num m.b = true
        · refine ⟨H3, fun R K => ?_, x13, w3⟩
          rw [main, if_pos hk, if_pos ha, if_pos hb, ha, hb, Bool.true_and, Bool.true_and]
        · refine ⟨H3, fun R K => ?_, x13, w3⟩
          rw [main, if_pos hk, if_pos ha, if_neg hb, show num m.b = false by simpa using hb, Bool.false_and, Bool.and_false]
      · refine ⟨H2, fun R K => ?_, x12, w2⟩
        rw [main, if_pos hk, if_neg ha, show num m.a = false by simpa using ha, Bool.false_and]
    · rw [if_neg hk]
      refine ⟨_, fun R K => ?_, x1, w1⟩
      rw [main, if_neg hk]
  · refine ⟨_, fun R K => ?_, x1, w1⟩
    unfold Ca.ok
    rw [decide_eq_false hr, Bool.false_and]
    simp only [g19, g19_r, g19_p0, alo, Nat.zero_add]
    rw [show [V.i IntKind.u8 m.k, V.i IntKind.i64 m.c, V.s (bsU m.a), V.s (bsU m.b), V.i IntKind.u8 m.u] = m.cells from rfl]
    generalize H.next = i at *
    generalize H.new (.cells m.cells 24 false) = H1 at *
    simp only [a0, a1, a2, a3, a4, Option.bind_some]
    by_cases h1 : m.k < 1
    · rw [decide_eq_true h1, sel_true]
    rw [decide_eq_false h1, sel_false]
    by_cases h2 : m.k > 5
    · rw [decide_eq_true h2, sel_true]
    rw [decide_eq_false h2, sel_false]
    by_cases h3 : m.c < 0
    · rw [decide_eq_true h3, sel_true]
    rw [decide_eq_false h3, sel_false, decide_eq_true (by omega), sel_true]
theorem s7 {R : Type} {H : Heap} (m : Ca) (K : Bool → Heap → Option R) : g7 R m.k m.c (bsU m.a) (bsU m.b) m.u H K = K m.ok (H.new (.cells m.cells 24 false)) := by
  have g1 := Heap.gnew H (.cells m.cells 24 false)
  obtain ⟨a0, a1, a2, a3, a4⟩ := ldC' g1
  simp only [g7, g7_r, g7_p0, alo, Nat.zero_add]
  rw [show [V.i IntKind.u8 m.k, V.i IntKind.i64 m.c, V.s (bsU m.a), V.s (bsU m.b), V.i IntKind.u8 m.u] = m.cells from rfl]
  generalize H.next = i at *
  generalize H.new (.cells m.cells 24 false) = H1 at *
  simp only [a0, a1, a2, a3, a4, Option.bind_some, s21, strE, selE]
  unfold Ca.ok
  by_cases hr : 1 ≤ m.k ∧ m.k ≤ 5 ∧ 0 ≤ m.c ∧ m.c ≤ 255
  · rw [decide_eq_true hr, Bool.true_and, decide_eq_false (by omega), sel_false, decide_eq_false (by omega), sel_false, decide_eq_false (by omega), sel_false, decide_eq_false (by omega), sel_false]
    by_cases hk : m.k = 1
    · rw [if_pos hk, if_pos hk]
      cases num m.a <;> cases num m.b <;> rfl
    · rw [if_neg hk, if_neg hk]
      by_cases h4 : m.k = 4
      · rw [if_pos h4, show (m.k == 4) = true by simp [h4]]
        generalize decide (m.a = []) = pa
        generalize decide (m.b = []) = pb
        cases pa <;> cases pb <;> rfl
      · rw [if_neg h4, show (m.k == 4) = false by simp [h4]]
        generalize decide (m.a = []) = pa
        generalize decide (m.b = []) = pb
        cases pa <;> cases pb <;> rfl
  · rw [decide_eq_false hr, Bool.false_and]
    by_cases h1 : m.k < 1
    · rw [decide_eq_true h1, sel_true]
    rw [decide_eq_false h1, sel_false]
    by_cases h2 : m.k > 5
    · rw [decide_eq_true h2, sel_true]
    rw [decide_eq_false h2, sel_false]
    by_cases h3 : m.c < 0
    · rw [decide_eq_true h3, sel_true]
    rw [decide_eq_false h3, sel_false, decide_eq_true (by omega), sel_true]

/-! Encode -/
def Ca.enc (m : Ca) : List Int := [m.k, m.c, 0] ++ (if m.k = 1 then ((m.a.length : Int) :: i8s m.a) ++ ((m.b.length : Int) :: i8s m.b) else if m.k = 4 then [m.u] else [])
theorem put_txt {H0 H : Heap} {s : Sl} {l : List Int} {q : Nat} (h : OS H0 H 5 s l q) {t : List UInt8} (ht : t.length ≤ 100) (hl : l.length ≤ 1000) :
    ∃ s' H' q', (∀ (R : Type) (K : Sl → Heap → Option R), ((slCells (H.new (.cells [.i .u8 (IntKind.wrap .u8 ((t.length : Nat) : Int))] 5 false)) 1 ⟨some (H.next, 0), 1, .ex 1⟩).bind fun vs => appendV (H.new (.cells [.i .u8 (IntKind.wrap .u8 ((t.length : Nat) : Int))] 5 false)) 5 1 1 s 1 vs fun s58 h59 => appendV h59 5 1 1 s58 t.length (cellsOfBytes (bsU t)) K) = K s' H') ∧ OS H0 H' 5 s' (l ++ ((t.length : Int) :: i8s t)) q' ∧ ∀ i o, i ≠ q → (∀ z, o ≠ .cells z 5 false) → H.get i = some o → H'.get i = some o := by
  have e8 : IntKind.wrap .u8 ((t.length : Nat) : Int) = (t.length : Int) := by rw [wr8]; omega
  rw [e8]
  obtain ⟨s1, H1, q1, e1, o1, f1⟩ := h.push (t.length : Int) (by omega)
  obtain ⟨s2, H2, q2, e2, o2, l2, n2, f2⟩ := o1.append (i8s t) (by simp; omega)
  refine ⟨s2, H2, q2, fun R K => ?_, by rw [List.append_assoc] at o2; exact o2, fun i o hi hz hg => ?_⟩
  · rw [e1 R (fun s58 h59 => appendV h59 5 1 1 s58 t.length (cellsOfBytes (bsU t)) K)]
    have hc : cellsOfBytes (bsU t) = bcs (i8s t) := by
      have := cells_bsU (i8s t) (i8s_byt t)
      rwa [u8s_i8s] at this
    have := e2 R K
    rw [i8s_len] at this
    rw [hc]; exact this
  · have g1 := f1 i o hi hg
    have hq : i ≠ q1 := by
      rintro rfl
      have := o1.obj
      rw [g1] at this
      exact hz _ (by simpa using this)
    rw [f2 i (o1.wf _ _ g1) hq]; exact g1
theorem s6 {H : Heap} (hw : H.Wf) {m : Ca} (hm : m.Ok) :
    ∃ s' H', (∀ (R : Type) (K : Sl → Int → Heap → Option R), g6 R m.k m.c (bsU m.a) (bsU m.b) m.u H K = K s' (if m.ok = true then 0 else 1) H') ∧ BS H' s' (if m.ok = true then m.enc else []) ∧ s'.cap = .ex s'.len ∧ Ext H H' ∧ H'.Wf := by
  have dd : ∀ (R : Type) (K : Sl → Int → Heap → Option R), g6 R m.k m.c (bsU m.a) (bsU m.b) m.u H K = g6_p0 g19 g20 R m.k m.c (bsU m.a) (bsU m.b) m.u H (fun t1_0 t1_1 t4 t21 H => g6_p12 g19 g20 R t1_0 t1_1 t4 t21 H K) K := fun _ _ => rfl
  have g1 := Heap.gnew H (.cells m.cells 24 false)
  have w1 := hw.new (.cells m.cells 24 false)
  have x1 := Ext.new H (.cells m.cells 24 false)
  obtain ⟨a0, a1, a2, a3, a4⟩ := ldC' g1
  obtain ⟨H2, e2, x2, w2⟩ := s19 w1 m
  have g2 := x2.get w1 g1
  obtain ⟨b0, b1, b2, b3, b4⟩ := ldC' g2
  have x12 : Ext H H2 := x1.trans x2
  by_cases hk : m.ok = true
  · rw [if_pos hk]
    simp only [if_pos hk]
    have hr : 1 ≤ m.k ∧ m.k ≤ 5 ∧ 0 ≤ m.c ∧ m.c ≤ 255 := by
      unfold Ca.ok at hk
      simp only [Bool.and_eq_true, decide_eq_true_eq] at hk
      exact hk.1
    have o3 : OS H (H2.new (.cells (bcs [m.k, m.c, 0]) 5 false)) 5 ⟨some (H2.next, 0), 3, .ex 3⟩ [m.k, m.c, 0] H2.next := OS.make (vs := [m.k, m.c, 0]) w2 x12 (.inl rfl)
    have x3 := Ext.new H2 (.cells (bcs [m.k, m.c, 0]) 5 false)
    have g3 := x3.get w2 g2
    have hiq : H.next ≠ H2.next := by have := w2 _ _ g2; omega
    have st : ∀ (R : Type) (kN : Nat → Nat → Sl → Int → Heap → Option R) (kR : Sl → Int → Heap → Option R), g6_p0 g19 g20 R m.k m.c (bsU m.a) (bsU m.b) m.u H kN kR = kN H.next 0 ⟨some (H2.next, 0), 3, .ex 3⟩ m.k (H2.new (.cells (bcs [m.k, m.c, 0]) 5 false)) := fun R kN kR => by
      have v1 : IntKind.wrap .u8 m.c = m.c := by rw [wr8]; omega
      have v2 : IntKind.wrap .u8 (shrI .i64 m.c 8) = 0 := by
        rw [wr8]; show (m.c.fdiv 256) % 256 = _; rw [Int.fdiv_eq_ediv_of_nonneg _ (by omega)]; omega
      simp only [g6_p0, alo, Nat.zero_add]
      rw [show [V.i IntKind.u8 m.k, V.i IntKind.i64 m.c, V.s (bsU m.a), V.s (bsU m.b), V.i IntKind.u8 m.u] = m.cells from rfl]
      simp only [a0, a1, a2, a3, a4, Option.bind_some]
      rw [e2, hk, Bool.not_true, sel_false]
      simp only [b0, b1, Option.bind_some, v1, v2]
      rw [show [V.i IntKind.u8 m.k, V.i IntKind.u8 m.c, V.i IntKind.u8 0] = bcs [m.k, m.c, 0] from rfl, (ldC' g3).1, Option.bind_some]
    generalize hi : H.next = i at *
    generalize hG3 : H2.new (.cells (bcs [m.k, m.c, 0]) 5 false) = G3 at *
    have fin : ∀ {s : Sl} {l : List Int} {q : Nat} {F : Heap}, OS H F 5 s l q → ∀ (R : Type) (K : Sl → Int → Heap → Option R), g6_p11 g19 g20 R s F K = K ⟨s.a, s.len, .ex s.len⟩ 0 F := fun ho R K => by
      simp only [g6_p11]
      rw [clip_ok ho.capOk]
    by_cases k1 : m.k = 1
    · have hn : m.a.length ≤ 15 ∧ m.b.length ≤ 15 := by
        unfold Ca.ok num at hk
        rw [if_pos k1] at hk
        simp only [Bool.and_eq_true, decide_eq_true_eq] at hk
        omega
      have gA := Heap.gnew G3 (.cells [.s (bsU m.a), .s (bsU m.b)] 9 false)
      have xA := Ext.new G3 (.cells [.s (bsU m.a), .s (bsU m.b)] 9 false)
      have wA := o3.wf.new (.cells [.s (bsU m.a), .s (bsU m.b)] 9 false)
      have o4 := o3.frame xA wA
      have hAq : G3.next ≠ H2.next := by have := o3.wf _ _ o3.obj; omega
      generalize hj : G3.next = j at *
      generalize hG4 : G3.new (.cells [.s (bsU m.a), .s (bsU m.b)] 9 false) = G4 at *
      obtain ⟨s5', G5, q5, e5, o5, f5⟩ := put_txt o4 (t := m.a) (by omega) (by simp)
      have gA5 := f5 j _ hAq (fun z e => by cases e) gA
      have hAq5 : j ≠ q5 := by rintro rfl; have := o5.obj; rw [gA5] at this; cases this
      obtain ⟨s6', G6, q6, e6, o6, f6⟩ := put_txt o5 (t := m.b) (by omega) (by simp; omega)
      have tl : tlim (g6_p4_b g19 g20) (⟨some (H2.next, 0), 3, .ex 3⟩, ⟨some (j, 0), 2, .ex 2⟩, 2, 0) G4 = some (s6', G6) := by
        have t0 : g6_p4_b g19 g20 (⟨some (H2.next, 0), 3, .ex 3⟩, ⟨some (j, 0), 2, .ex 2⟩, 2, 0) G4 = some (.go (s5', ⟨some (j, 0), 2, .ex 2⟩, 2, 1), G5) := by
          simp only [g6_p4_b, g6_p3, alo]
          rw [show decide ((0 : Int) < 2) = true from rfl, sel_true, if_pos (show 0 ≤ (0 : Int) ∧ (0 : Int) < ((2 : Nat) : Int) by omega), Option.bind_some, show Int.toNat (0 : Int) = 0 from rfl, ldS_of gA (show [V.s (bsU m.a), V.s (bsU m.b)][0 + 0 * 1]? = some (.s (bsU m.a)) from rfl), Option.bind_some, bsU_size, e5]
          rfl
        have t1 : g6_p4_b g19 g20 (s5', ⟨some (j, 0), 2, .ex 2⟩, 2, 1) G5 = some (.go (s6', ⟨some (j, 0), 2, .ex 2⟩, 2, 2), G6) := by
          simp only [g6_p4_b, g6_p3, alo]
          rw [show decide ((1 : Int) < 2) = true from rfl, sel_true, if_pos (show 0 ≤ (1 : Int) ∧ (1 : Int) < ((2 : Nat) : Int) by omega), Option.bind_some, show Int.toNat (1 : Int) = 1 from rfl, ldS_of gA5 (show [V.s (bsU m.a), V.s (bsU m.b)][0 + 1 * 1]? = some (.s (bsU m.b)) from rfl), Option.bind_some, bsU_size, e6]
          rfl
        refine (tlim_go t0).trans ((tlim_go t1).trans (tlim_up ?_))
        simp only [g6_p4_b, g6_p3]
        rw [show decide ((2 : Int) < 2) = false from rfl, sel_false]
      have eenc : [m.k, m.c, 0] ++ ((m.a.length : Int) :: i8s m.a) ++ ((m.b.length : Int) :: i8s m.b) = m.enc := by
        unfold Ca.enc; rw [if_pos k1, List.append_assoc]
      rw [eenc] at o6
      refine ⟨⟨s6'.a, s6'.len, .ex s6'.len⟩, G6, fun R K => ?_, o6.bs.clipped, rfl, o6.ext, o6.wf⟩
      rw [dd, st]
      simp only [g6_p12, g6_p10, g6_p9, g6_p1, g6_p8]
      rw [show (m.k == 1) = true by simp [k1], sel_true]
      simp only [g6_p6, g6_p2, Nat.zero_add, (ldC' g3).2.2.1, (ldC' g3).2.2.2.1, Option.bind_some, alo, hj, hG4, g6_p5, g6_p4]
      rw [show (((2 : Nat) : Int)) = 2 from rfl, tl, Option.bind_some]
      exact fin o6 R K
    · by_cases k4 : m.k = 4
      · obtain ⟨s5', G5, q5, e5, o5, f5⟩ := o3.push m.u (by simp)
        have eenc : [m.k, m.c, 0] ++ [m.u] = m.enc := by unfold Ca.enc; rw [if_neg k1, if_pos k4]
        rw [eenc] at o5
        refine ⟨⟨s5'.a, s5'.len, .ex s5'.len⟩, G5, fun R K => ?_, o5.bs.clipped, rfl, o5.ext, o5.wf⟩
        rw [dd, st]
        simp only [g6_p12, g6_p10, g6_p9, g6_p1, g6_p8]
        rw [show (m.k == 1) = false by simp [k1], sel_false]
        simp only [g6_p7]
        rw [show (m.k == 4) = true by simp [k4], sel_true, Nat.zero_add, (ldC' g3).2.2.2.2, Option.bind_some]
        simp only [alo]
        rw [e5]
        exact fin o5 R K
      · have eenc : [m.k, m.c, 0] = m.enc := by unfold Ca.enc; rw [if_neg k1, if_neg k4]; rfl
        rw [eenc] at o3
        refine ⟨⟨some (H2.next, 0), 3, .ex 3⟩, G3, fun R K => ?_, o3.bs, rfl, o3.ext, o3.wf⟩
        rw [dd, st]
        simp only [g6_p12, g6_p10, g6_p9, g6_p1, g6_p8]
        rw [show (m.k == 1) = false by simp [k1], sel_false]
        simp only [g6_p7]
        rw [show (m.k == 4) = false by simp [k4], sel_false]
        exact fin o3 R K
  · rw [if_neg hk]
    simp only [if_neg hk]
    refine ⟨nilS, H2, fun R K => ?_, .nil _, rfl, x12, w2⟩
    rw [dd]
    simp only [g6_p0, alo, Nat.zero_add]
    rw [show [V.i IntKind.u8 m.k, V.i IntKind.i64 m.c, V.s (bsU m.a), V.s (bsU m.b), V.i IntKind.u8 m.u] = m.cells from rfl]
    simp only [a0, a1, a2, a3, a4, Option.bind_some]
    rw [e2, show m.ok = false by simpa using hk, Bool.not_false, sel_true]
    rfl
end Go.Proofs.YtnjihofdmncckaaDoor

