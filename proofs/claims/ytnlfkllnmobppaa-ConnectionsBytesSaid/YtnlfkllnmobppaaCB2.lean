/- Connections: the law's check. -/
import Derived.Test.YtnlfkllnmobppaaCB1
namespace Go.Proofs.Ytnlfkllnmobppaa
open Go AM Go.RowKit
set_option linter.unusedVariables false
set_option linter.unusedSimpArgs false

open Classical in
/-- what is left of a message -/
noncomputable def Cm.z (m : Cm) : Cm :=
  if m.k = 1 then ⟨0, 0, m.t, if m.c = 2 ∨ m.c = 3 then 0 else m.c, m.n, m.x, m.u, []⟩
  else if m.k = 3 then ⟨0, m.f, 0, m.c, m.n, m.x, 0, []⟩
  else ⟨0, 0, 0, m.c, if m.k = 4 ∨ m.k = 6 then 0 else m.n, if m.k = 4 ∨ m.k = 5 ∨ m.k = 6 then 0 else m.x, if m.k = 7 then 0 else m.u, []⟩
theorem stP {G : Heap} {j k : Nat} {l : List V} {v : V} (hk : k < l.length) (hv : V.one v = true) : (G.put j (.cells l 26 false)).st j k v = some (G.put j (.cells (l.set k v) 26 false)) := by
  rw [st_of (Heap.gput _ _ _) hk hv, Heap.put_put]
theorem Cm.z_d (m : Cm) : m.z.d = [] := by
  unfold Cm.z
  split
  · rfl
  · split <;> rfl
theorem Cm.z_k (m : Cm) : m.z.k = 0 := by
  unfold Cm.z
  split
  · rfl
  · split <;> rfl
def Cm.B10 (m z : Cm) : Bool :=
  (z.same .zero && (((((m.d.length : Nat) : Int) == 0) || (m.k == 4 || m.k == 1)) && (decide (m.n < 128) && decide (m.x < 128)))) &&
  ((m.k == 3 || (decide (m.f > 0) && decide (m.f ≤ 8191))) &&
  ((m.k == 1 || (decide (m.t > 0) && decide (m.t ≤ 8191))) &&
  ((!(m.k == 3) && !(m.k == 7) || decide (m.u > 0)) &&
  (!(m.k == 1) || (m.c == 2 || m.c == 3)))))
theorem tail10 {G : Heap} (hw : G.Wf) {i j : Nat} {m z : Cm} {s : Sl} (gi : G.get i = some (.cells (m.cells s) 26 false)) (gj : G.get j = some (.cells (z.cells nilS) 26 false)) (hz : z.d = []) (hs : s.len = m.d.length) :
    ∃ H', (∀ (R : Type) (kR : Int → Heap → Option R), g10_p23 g15 R i 0 j 0 G kR = kR (if m.B10 z = true then 0 else 1) H') ∧ Ext G H' ∧ H'.Wf := by
  have x1 := (Ext.new G (.cells (z.cells nilS) 26 false)).trans (Ext.new (G.new (.cells (z.cells nilS) 26 false)) (.cells (Cm.zero.cells nilS) 26 false))
  have w1 := (hw.new (.cells (z.cells nilS) 26 false)).new (.cells (Cm.zero.cells nilS) 26 false)
  have e15 := fun (R : Type) (K : Bool → Heap → Option R) => s15 (R := R) hw (a := z) (b := .zero) (s := nilS) (t := nilS) (by rw [hz]; exact .nil _) (.nil _) K
  have gi' := Ext.get (x1 : Ext G _) hw gi
  obtain ⟨z0, z1, z2, z3, z4, z5, z6, z7⟩ := ldM gj
  generalize (G.new (.cells (z.cells nilS) 26 false)).new (.cells (Cm.zero.cells nilS) 26 false) = P at *
  obtain ⟨a0, a1, a2, a3, a4, a5, a6, a7⟩ := ldM gi'
  refine ⟨P, fun R kR => ?_, x1, w1⟩
  have e19 : ∀ (b : Bool) (t5 t6 : Bool), g10_p21 g15 R i 0 b t5 t6 P kR = kR (if (b && (t5 && (t6 && ((!(m.k == 3) && !(m.k == 7) || decide (m.u > 0)) && (!(m.k == 1) || (m.c == 2 || m.c == 3)))))) = true then 0 else 1) P := fun b t5 t6 => by
    simp only [g10_p21, g10_p19, g10_p20, Nat.zero_add, a0, a3, a6, Option.bind_some, bne]
    generalize (m.k == 3) = b3
    generalize (m.k == 7) = b7
    generalize (m.k == 1) = b1
    generalize (m.c == 2) = c2
    generalize (m.c == 3) = c3
    generalize decide (m.u > 0) = pu
    cases b
    · cases b3 <;> cases b7 <;> cases b1 <;> cases c2 <;> rfl
    cases t5
    · cases b3 <;> cases b7 <;> cases b1 <;> cases c2 <;> rfl
    cases t6
    · cases b3 <;> cases b7 <;> cases b1 <;> cases c2 <;> rfl
    cases b3 <;> cases b7 <;> cases b1 <;> cases c2 <;> cases c3 <;> cases pu <;> rfl
  have e18 : ∀ (b : Bool), g10_p22 g15 R i 0 b P kR = kR (if (b && ((m.k == 3 || (decide (m.f > 0) && decide (m.f ≤ 8191))) && ((m.k == 1 || (decide (m.t > 0) && decide (m.t ≤ 8191))) && ((!(m.k == 3) && !(m.k == 7) || decide (m.u > 0)) && (!(m.k == 1) || (m.c == 2 || m.c == 3)))))) = true then 0 else 1) P := fun b => by
    have p18 : ∀ (kN : Nat → Nat → Bool → Bool → Bool → Heap → Option R), g10_p18 g15 R i 0 b P kN = kN i 0 b (m.k == 3 || (decide (m.f > 0) && decide (m.f ≤ 8191))) (m.k == 1 || (decide (m.t > 0) && decide (m.t ≤ 8191))) P := fun kN => by
      simp only [g10_p18, Nat.zero_add, a0, a1, a2, Option.bind_some]
      generalize (m.k == 3) = b3
      generalize (m.k == 1) = b1
      generalize decide (m.f > 0) = pf
      generalize decide (m.t > 0) = pt
      generalize decide (m.f ≤ 8191) = qf
      generalize decide (m.t ≤ 8191) = qt
      cases b3 <;> cases b1 <;> cases pf <;> cases pt <;> rfl
    unfold g10_p22
    rw [p18, e19]
  unfold g10_p23 g10_p17
  simp only [Nat.zero_add, z0, z1, z2, z3, z4, z5, z6, z7, Option.bind_some]
  have e15' := e15 R
  rw [show (Cm.zero).k = 0 from rfl, show (Cm.zero).f = 0 from rfl, show (Cm.zero).t = 0 from rfl, show (Cm.zero).c = 0 from rfl, show (Cm.zero).n = 0 from rfl, show (Cm.zero).x = 0 from rfl, show (Cm.zero).u = 0 from rfl] at e15'
  rw [show (Sl.mk none 0 (.ex 0)) = nilS from rfl, e15']
  simp only [Nat.zero_add, a0, a4, a5, a7, Option.bind_some, e18, hs]
  rw [show m.B10 z = ((z.same .zero && (((((m.d.length : Nat) : Int) == 0) || (m.k == 4 || m.k == 1)) && (decide (m.n < 128) && decide (m.x < 128)))) && ((m.k == 3 || (decide (m.f > 0) && decide (m.f ≤ 8191))) && ((m.k == 1 || (decide (m.t > 0) && decide (m.t ≤ 8191))) && ((!(m.k == 3) && !(m.k == 7) || decide (m.u > 0)) && (!(m.k == 1) || (m.c == 2 || m.c == 3)))))) from rfl]
  generalize z.same Cm.zero = zz
  generalize (((m.d.length : Nat) : Int) == 0) = l0
  generalize decide (m.n < 128) = pn
  generalize decide (m.x < 128) = px
  generalize ((m.k == 3 || (decide (m.f > 0) && decide (m.f ≤ 8191))) && ((m.k == 1 || (decide (m.t > 0) && decide (m.t ≤ 8191))) && ((!(m.k == 3) && !(m.k == 7) || decide (m.u > 0)) && (!(m.k == 1) || (m.c == 2 || m.c == 3))))) = rest
  generalize (m.k == 4) = b4
  generalize (m.k == 1) = b1
  cases zz <;> cases l0 <;> cases b4 <;> cases b1 <;> cases pn <;> rfl
theorem Cm.ck_10 (m : Cm) (hm : m.Ok) (h : ¬m.d.length > 200) (hk : 1 ≤ m.k ∧ m.k ≤ 8) : (if m.B10 m.z = true then (0 : Int) else 1) = m.ck := by
  unfold Cm.ck
  rw [if_neg h]
  have h1 := hm.f; have h2 := hm.t; have h3 := hm.u; have h4 := hm.n; have h5 := hm.x; have h6 := hm.c
  have key : m.B10 m.z = true ↔ m.Gd := by
    have e : m.z.same .zero = decide (m.z.f = 0 ∧ m.z.t = 0 ∧ m.z.c = 0 ∧ m.z.n = 0 ∧ m.z.x = 0 ∧ m.z.u = 0) := by
      unfold Cm.same
      rw [m.z_k, m.z_d]
      simp only [Cm.zero, eqD, ← Bool.decide_and]
      exact decide_eq_decide.2 (by simp)
    unfold Cm.B10
    rw [e]
    simp only [eqD, ← decide_not, ← Bool.decide_or, ← Bool.decide_and, beqD, decide_eq_true_eq, decide_eq_false_iff_not]
    unfold Cm.Gd Cm.z
    by_cases k1 : m.k = 1
    · rw [if_pos k1]; simp only
      by_cases hc : m.c = 2 ∨ m.c = 3
      · rw [if_pos hc]; first | (simp only [ne_eq, true_and]; omega) | grind
      · rw [if_neg hc]; first | (simp only [ne_eq, true_and]; omega) | grind
    rw [if_neg k1]
    by_cases k3 : m.k = 3
    · rw [if_pos k3]; simp only [ne_eq, true_and]; first | omega | grind
    rw [if_neg k3]; simp only
    by_cases k7 : m.k = 7
    · rw [if_pos k7, if_neg (by omega), if_neg (by omega)]; first | (simp only [ne_eq, true_and]; omega) | grind
    rw [if_neg k7]
    by_cases k46 : m.k = 4 ∨ m.k = 6
    · rw [if_pos k46, if_pos (by omega)]; first | (simp only [ne_eq, true_and]; omega) | grind
    rw [if_neg k46]
    by_cases k5 : m.k = 5
    · rw [if_pos (by omega)]; first | (simp only [ne_eq, true_and]; omega) | grind
    · rw [if_neg (by omega)]; first | (simp only [ne_eq, true_and]; omega) | grind
  by_cases hb : m.B10 m.z = true
  · rw [if_pos hb, if_pos (key.1 hb)]
  · rw [if_neg hb, if_neg (fun e => hb (key.2 e))]
theorem stI {G : Heap} {j k : Nat} {l : List V} {q : IntKind} {n : Int} (hk : k < l.length) : (G.put j (.cells l 26 false)).st j k (.i q n) = some (G.put j (.cells (l.set k (.i q n)) 26 false)) := stP hk rfl
/-- the switch -/
theorem switch10 {G : Heap} {i j : Nat} (hij : i ≠ j) {m : Cm} {s : Sl} (gi : G.get i = some (.cells (m.cells s) 26 false)) {R : Type} (kN : Nat → Nat → Nat → Nat → Heap → Option R) (kR : Int → Heap → Option R) :
    g10_p16 g15 R i 0 j 0 m.k (G.put j (.cells (({ m with k := 0, d := [] } : Cm).cells nilS) 26 false)) kN kR = if 1 ≤ m.k ∧ m.k ≤ 8 then kN i 0 j 0 (G.put j (.cells (m.z.cells nilS) 26 false)) else kR 1 (G.put j (.cells (({ m with k := 0, d := [] } : Cm).cells nilS) 26 false)) := by
  have li : ∀ o, (G.put j o).ldI .u8 i 0 = some m.k := fun o => by
    have : (G.put j o).get i = some (.cells (m.cells s) 26 false) := by rw [Heap.get_put, if_neg hij]; exact gi
    exact (ldM this).1
  obtain ⟨k, f, t, c, n, x, u, d⟩ := m
  have lj : ∀ (a : Int), (G.put j (.cells [.i .u8 0, .i .u32 a, .i .u32 t, .i .u8 c, .i .u8 n, .i .u8 x, .i .u8 u, .sl nilS] 26 false)).ldI .u8 j 3 = some c := fun a => ldI_of (Heap.gput _ _ _) rfl
  simp only at li
  by_cases hk : 1 ≤ k ∧ k ≤ 8
  · rw [if_pos hk]
    have : k = 1 ∨ k = 2 ∨ k = 3 ∨ k = 4 ∨ k = 5 ∨ k = 6 ∨ k = 7 ∨ k = 8 := by omega
    rcases this with rfl | rfl | rfl | rfl | rfl | rfl | rfl | rfl
    · simp only [Cm.cells, g10_p16, g10_p15, g10_p1, g10_p14, g10_p2, beq_self_eq_true, sel_true, Nat.zero_add]
      rw [stP (by simp) rfl, Option.bind_some]
      simp only [List.set, lj, Option.bind_some]
      by_cases c2 : c = 2
      · subst c2
        rw [show ((2 : Int) == 2) = true from rfl, sel_true, stP (by simp) rfl]; simp [Cm.z, List.set]
      · by_cases c3 : c = 3
        · subst c3
          rw [show ((3 : Int) == 2) = false from rfl, sel_false, show ((3 : Int) == 3) = true from rfl, sel_true, stP (by simp) rfl]; simp [Cm.z, List.set]
        · rw [show (c == 2) = false by simp [c2], sel_false, show (c == 3) = false by simp [c3], sel_false]; simp [Cm.z, c2, c3]
    all_goals simp [Cm.cells, g10_p16, g10_p15, g10_p1, g10_p14, g10_p13, g10_p3, g10_p12, g10_p4, g10_p11, g10_p5, g10_p10, g10_p8, g10_p6, g10_p7, stI, li, List.set, Cm.z, V.one]
  · rw [if_neg hk]
    have q : ∀ a : Int, (1 ≤ a ∧ a ≤ 8) → (k == a) = false := fun a ha => by
      have : k ≠ a := by omega
      simpa using this
    simp [Cm.cells, g10_p16, g10_p15, g10_p1, g10_p14, g10_p13, g10_p3, g10_p12, g10_p11, g10_p5, g10_p10, g10_p9, q 1 (by omega), q 2 (by omega), q 3 (by omega), q 4 (by omega), q 5 (by omega), q 6 (by omega), q 7 (by omega), q 8 (by omega)]
theorem s10 {H : Heap} (hw : H.Wf) {m : Cm} (hm : m.Ok) {s : Sl} (hs : s.len = m.d.length) :
    ∃ H', (∀ (R : Type) (K : Int → Heap → Option R), g10 R m.k m.f m.t m.c m.n m.x m.u s H K = K m.ck H') ∧ Ext H H' ∧ H'.Wf := by
  have g1 := Heap.gnew H (.cells (m.cells s) 26 false)
  have w1 := hw.new (.cells (m.cells s) 26 false)
  have x1 := Ext.new H (.cells (m.cells s) 26 false)
  have dd : ∀ (R : Type) (K : Int → Heap → Option R), g10 R m.k m.f m.t m.c m.n m.x m.u s H K = g10_p0 g15 R m.k m.f m.t m.c m.n m.x m.u s H (fun t1_0 t1_1 t3_0 t3_1 t17 H => g10_p24 g15 R t1_0 t1_1 t3_0 t3_1 t17 H K) K := fun _ _ => rfl
  have start : ∀ (R : Type) (kN : Nat → Nat → Nat → Nat → Int → Heap → Option R) (kR : Int → Heap → Option R), g10_p0 g15 R m.k m.f m.t m.c m.n m.x m.u s H kN kR = if m.d.length > 200 then kR 3 (H.new (.cells (m.cells s) 26 false)) else kN H.next 0 (H.next + 1) 0 m.k (((H.new (.cells (m.cells s) 26 false)).new (.cells (Cm.zero.cells nilS) 26 false)).put (H.next + 1) (.cells (({ m with k := 0, d := [] } : Cm).cells nilS) 26 false)) := fun R kN kR => by
    simp only [g10_p0, alo, Nat.zero_add]
    rw [show [V.i IntKind.u8 m.k, V.i IntKind.u32 m.f, V.i IntKind.u32 m.t, V.i IntKind.u8 m.c, V.i IntKind.u8 m.n, V.i IntKind.u8 m.x, V.i IntKind.u8 m.u, V.sl s] = m.cells s from rfl]
    obtain ⟨a0, a1, a2, a3, a4, a5, a6, a7⟩ := ldM g1
    simp only [a0, a1, a2, a3, a4, a5, a6, a7, Option.bind_some, hs]
    by_cases h : m.d.length > 200
    · rw [if_pos h, decide_eq_true (by omega), sel_true]
    rw [if_neg h, decide_eq_false (by omega), sel_false]
    have g2 := Heap.gnew (H.new (.cells (m.cells s) 26 false)) (.cells (Cm.zero.cells nilS) 26 false)
    have x2 := Ext.new (H.new (.cells (m.cells s) 26 false)) (.cells (Cm.zero.cells nilS) 26 false)
    have g1' := x2.get w1 g1
    have hn : (H.new (.cells (m.cells s) 26 false)).next = H.next + 1 := rfl
    rw [hn] at g2
    rw [hn]
    rw [show (Sl.mk none 0 (.ex 0)) = nilS from rfl]
    rw [show [V.i IntKind.u8 0, V.i IntKind.u32 0, V.i IntKind.u32 0, V.i IntKind.u8 0, V.i IntKind.u8 0, V.i IntKind.u8 0, V.i IntKind.u8 0, V.sl nilS] = Cm.zero.cells nilS from rfl]
    rw [show [V.i IntKind.u8 m.k, V.i IntKind.u32 m.f, V.i IntKind.u32 m.t, V.i IntKind.u8 m.c, V.i IntKind.u8 m.n, V.i IntKind.u8 m.x, V.i IntKind.u8 m.u, V.sl s] = m.cells s from rfl]
    generalize (H.new (.cells (m.cells s) 26 false)).new (.cells (Cm.zero.cells nilS) 26 false) = Q at *
    rw [sts_of g2 (by simp [Cm.cells]) rfl, Option.bind_some]
    rw [show splice (Cm.zero.cells nilS) 0 (m.cells s) = m.cells s from rfl, stP (by simp [Cm.cells]) rfl, Option.bind_some, stP (by simp [Cm.cells]) rfl, Option.bind_some]
    have gi : ∀ o, (Q.put (H.next + 1) o).get H.next = some (.cells (m.cells s) 26 false) := fun o => by rw [Heap.get_put, if_neg (by omega)]; exact g1'
    rw [(ldM (gi _)).1, Option.bind_some]
    rfl
  by_cases h : m.d.length > 200
  · refine ⟨_, fun R K => ?_, x1, w1⟩
    rw [dd, start, if_pos h, show m.ck = 3 by unfold Cm.ck; rw [if_pos h]]
  have g2 := Heap.gnew (H.new (.cells (m.cells s) 26 false)) (.cells (Cm.zero.cells nilS) 26 false)
  have x2 := Ext.new (H.new (.cells (m.cells s) 26 false)) (.cells (Cm.zero.cells nilS) 26 false)
  have w2 := w1.new (.cells (Cm.zero.cells nilS) 26 false)
  have g1' := x2.get w1 g1
  have xx : Ext H ((H.new (.cells (m.cells s) 26 false)).new (.cells (Cm.zero.cells nilS) 26 false)) := x1.trans x2
  have hn : (H.new (.cells (m.cells s) 26 false)).next = H.next + 1 := rfl
  rw [hn] at g2
  generalize (H.new (.cells (m.cells s) 26 false)).new (.cells (Cm.zero.cells nilS) 26 false) = Q at *
  by_cases hk : 1 ≤ m.k ∧ m.k ≤ 8
  · have gi : (Q.put (H.next + 1) (.cells (m.z.cells nilS) 26 false)).get H.next = some (.cells (m.cells s) 26 false) := by rw [Heap.get_put, if_neg (by omega)]; exact g1'
    obtain ⟨H', e1, x3, w3⟩ := tail10 (w2.put g2 _) gi (Heap.gput _ _ _) m.z_d hs
    refine ⟨H', fun R K => ?_, (xx.above (by omega) _).trans x3, w3⟩
    rw [dd, start, if_neg h]
    simp only [g10_p24]
    rw [switch10 (by omega) g1', if_pos hk, e1, m.ck_10 hm h hk]
  · refine ⟨Q.put (H.next + 1) (.cells (({ m with k := 0, d := [] } : Cm).cells nilS) 26 false), fun R K => ?_, xx.above (show H.next ≤ H.next + 1 by omega) _, w2.put g2 _⟩
    · rw [dd, start, if_neg h]
      simp only [g10_p24]
      rw [switch10 (by omega) g1', if_neg hk, show m.ck = 1 by unfold Cm.ck; rw [if_neg h, if_neg (fun e => hk ⟨e.1, e.2.1⟩)]]
end Go.Proofs.Ytnlfkllnmobppaa

