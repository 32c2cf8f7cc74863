/- Connections: the law's check of a message (over the new printing). -/
import Derived.Test.YtnlfkllnmobppaaCD10
import Derived.Test.YtnlfkllnmobppaaLByt
namespace Go.Proofs.Ytnlfkllnmobppaa
open Go AM Go.RowKit
set_option linter.unusedVariables false
set_option linter.unusedSimpArgs false

theorem sel_and {R : Type} {b v : Bool} {K : Bool → Heap → Option R} {h : Heap} : sel b (K v h) (K false h) = K (b && v) h := by cases b <;> rfl
def Cm.same (a b : Cm) : Bool := a.k == b.k && (a.f == b.f && (a.t == b.t && (a.c == b.c && (a.n == b.n && (a.x == b.x && (a.u == b.u && decide (u8s a.d = u8s b.d)))))))
theorem s15 {R : Type} {H : Heap} {a b : Cm} {s t : Sl} (ha : BS H s a.d) (hb : BS H t b.d) (K : Bool → Heap → Option R) :
    g15 R a.k a.f a.t a.c a.n a.x a.u s b.k b.f b.t b.c b.n b.x b.u t H K = K (a.same b) H := by
  simp only [g15, g15_r, g15_p0, slB ha, slB hb, Option.bind_some, strEqU, sel_and]
  rfl
/-- what is left of a message -/
def Cm.z (m : Cm) : Cm :=
  if m.k = 1 then ⟨0, 0, m.t, if m.c = 2 ∨ m.c = 3 then 0 else m.c, m.n, m.x, m.u, []⟩
  else if m.k = 3 then ⟨0, m.f, 0, m.c, m.n, m.x, 0, []⟩
  else ⟨0, 0, 0, m.c, if m.k = 4 ∨ m.k = 6 then 0 else m.n, if m.k = 4 ∨ m.k = 5 ∨ m.k = 6 then 0 else m.x, if m.k = 7 then 0 else m.u, []⟩
theorem Cm.z_d (m : Cm) : m.z.d = [] := by
  unfold Cm.z
  split
  · rfl
  · split <;> rfl
theorem Cm.z_k (m : Cm) : m.z.k = 0 := by
  unfold Cm.z
  split
  · rfl
  · split <;> rfl
def Cm.B10 (m z : Cm) : Bool :=
  (z.same {} && (((((m.d.length : Nat) : Int) == 0) || (m.k == 4 || m.k == 1)) && (decide (m.n < 128) && decide (m.x < 128)))) &&
  ((m.k == 3 || (decide (m.f > 0) && decide (m.f ≤ 8191))) &&
  ((m.k == 1 || (decide (m.t > 0) && decide (m.t ≤ 8191))) &&
  ((!(m.k == 3) && !(m.k == 7) || decide (m.u > 0)) &&
  (!(m.k == 1) || (m.c == 2 || m.c == 3)))))
theorem tail10 {G : Heap} {m z : Cm} {s : Sl} (hz : z.d = []) (hs : s.len = m.d.length) {R : Type} (kR : Int → Heap → Option R) :
    g10_p17 R m.k m.f m.t m.c m.n m.x m.u s z.k z.f z.t z.c z.n z.x z.u nilS G kR = kR (if m.B10 z = true then 0 else 1) G := by
  have e19 : ∀ (b : Bool) (t5 t6 : Bool), g10_p15 R b t5 t6 m.k m.f m.t m.c m.n m.x m.u s G kR = kR (if (b && (t5 && (t6 && ((!(m.k == 3) && !(m.k == 7) || decide (m.u > 0)) && (!(m.k == 1) || (m.c == 2 || m.c == 3)))))) = true then 0 else 1) G := by
    intro b t5 t6
    simp only [g10_p15, bne]
    generalize (m.k == 3) = b3
    generalize (m.k == 7) = b7
    generalize (m.k == 1) = b1
    generalize (m.c == 2) = c2
    generalize (m.c == 3) = c3
    generalize decide (m.u > 0) = pu
    cases b
    · cases b3 <;> cases b7 <;> cases b1 <;> cases c2 <;> rfl
    cases t5
    · cases b3 <;> cases b7 <;> cases b1 <;> cases c2 <;> rfl
    cases t6
    · cases b3 <;> cases b7 <;> cases b1 <;> cases c2 <;> rfl
    cases b3 <;> cases b7 <;> cases b1 <;> cases c2 <;> cases c3 <;> cases pu <;> rfl
  have p18 : ∀ (b : Bool) (kN : Bool → Bool → Bool → Int → Int → Int → Int → Int → Int → Int → Sl → Heap → Option R), g10_p14 R b m.k m.f m.t m.c m.n m.x m.u s G kN = kN b (m.k == 3 || (decide (m.f > 0) && decide (m.f ≤ 8191))) (m.k == 1 || (decide (m.t > 0) && decide (m.t ≤ 8191))) m.k m.f m.t m.c m.n m.x m.u s G := by
    intro b kN
    simp only [g10_p14]
    generalize (m.k == 3) = b3
    generalize (m.k == 1) = b1
    generalize decide (m.f > 0) = pf
    generalize decide (m.t > 0) = pt
    generalize decide (m.f ≤ 8191) = qf
    generalize decide (m.t ≤ 8191) = qt
    cases b3 <;> cases b1 <;> cases pf <;> cases pt <;> rfl
  have e15 : ∀ K : Bool → Heap → Option R, g15 R z.k z.f z.t z.c z.n z.x z.u nilS 0 0 0 0 0 0 0 nilS G K = K (z.same {}) G := fun K => s15 (a := z) (b := {}) (s := nilS) (t := nilS) (by rw [hz]; exact .nil _) (.nil _) K
  simp only [g10_p17, g10_p13]
  rw [show (Sl.mk none 0 (.ex 0)) = nilS from rfl, e15, hs]
  simp only [g10_p16, p18, e19]
  rw [show m.B10 z = ((z.same {} && (((((m.d.length : Nat) : Int) == 0) || (m.k == 4 || m.k == 1)) && (decide (m.n < 128) && decide (m.x < 128)))) && ((m.k == 3 || (decide (m.f > 0) && decide (m.f ≤ 8191))) &&
  ((m.k == 1 || (decide (m.t > 0) && decide (m.t ≤ 8191))) &&
  ((!(m.k == 3) && !(m.k == 7) || decide (m.u > 0)) &&
  (!(m.k == 1) || (m.c == 2 || m.c == 3)))))) from rfl]
  generalize z.same {} = zz
  generalize (((m.d.length : Nat) : Int) == 0) = l0
  generalize decide (m.n < 128) = pn
  generalize decide (m.x < 128) = px
  generalize ((m.k == 3 || (decide (m.f > 0) && decide (m.f ≤ 8191))) && ((m.k == 1 || (decide (m.t > 0) && decide (m.t ≤ 8191))) && ((!(m.k == 3) && !(m.k == 7) || decide (m.u > 0)) && (!(m.k == 1) || (m.c == 2 || m.c == 3))))) = rest
  generalize (m.k == 4) = b4
  generalize (m.k == 1) = b1
  cases zz <;> cases l0 <;> cases b4 <;> cases b1 <;> cases pn <;> rfl
theorem Cm.ck_10 (m : Cm) (hm : m.Ok) (h : ¬m.d.length > 200) (hk : 1 ≤ m.k ∧ m.k ≤ 8) : (if m.B10 m.z = true then (0 : Int) else 1) = m.ck := by
  unfold Cm.ck
  rw [if_neg h]
  have h1 := hm.f; have h2 := hm.t; have h3 := hm.u; have h4 := hm.n; have h5 := hm.x; have h6 := hm.c
  have key : m.B10 m.z = true ↔ m.Gd := by
    have e : m.z.same {} = decide (m.z.f = 0 ∧ m.z.t = 0 ∧ m.z.c = 0 ∧ m.z.n = 0 ∧ m.z.x = 0 ∧ m.z.u = 0) := by
      unfold Cm.same
      rw [m.z_k, m.z_d]
      simp only [eqD, ← Bool.decide_and]
      exact decide_eq_decide.2 (by simp)
    unfold Cm.B10
    rw [e]
    simp only [eqD, ← decide_not, ← Bool.decide_or, ← Bool.decide_and, beqD, decide_eq_true_eq, decide_eq_false_iff_not]
    unfold Cm.Gd Cm.z
    by_cases k1 : m.k = 1
    · rw [if_pos k1]; simp only
      by_cases hc : m.c = 2 ∨ m.c = 3
      · rw [if_pos hc]; first | (simp only [ne_eq, true_and]; omega) | grind
      · rw [if_neg hc]; first | (simp only [ne_eq, true_and]; omega) | grind
    rw [if_neg k1]
    by_cases k3 : m.k = 3
    · rw [if_pos k3]; simp only [ne_eq, true_and]; first | omega | grind
    rw [if_neg k3]; simp only
    by_cases k7 : m.k = 7
    · rw [if_pos k7, if_neg (by omega), if_neg (by omega)]; first | (simp only [ne_eq, true_and]; omega) | grind
    rw [if_neg k7]
    by_cases k46 : m.k = 4 ∨ m.k = 6
    · rw [if_pos k46, if_pos (by omega)]; first | (simp only [ne_eq, true_and]; omega) | grind
    rw [if_neg k46]
    by_cases k5 : m.k = 5
    · rw [if_pos (by omega)]; first | (simp only [ne_eq, true_and]; omega) | grind
    · rw [if_neg (by omega)]; first | (simp only [ne_eq, true_and]; omega) | grind
  by_cases hb : m.B10 m.z = true
  · rw [if_pos hb, if_pos (key.1 hb)]
  · rw [if_neg hb, if_neg (fun e => hb (key.2 e))]
/-- the switch -/
theorem switch10 {G : Heap} {m : Cm} {s : Sl} {R : Type} (kN : Int → Int → Int → Int → Int → Int → Int → Sl → Int → Int → Int → Int → Int → Int → Int → Sl → Heap → Option R) (kR : Int → Heap → Option R) :
    g10_p12 R m.k m.k m.f m.t m.c m.n m.x m.u s 0 m.f m.t m.c m.n m.x m.u nilS G kN kR = if 1 ≤ m.k ∧ m.k ≤ 8 then kN m.k m.f m.t m.c m.n m.x m.u s m.z.k m.z.f m.z.t m.z.c m.z.n m.z.x m.z.u nilS G else kR 1 G := by
  obtain ⟨k, f, t, c, n, x, u, d⟩ := m
  by_cases hk : 1 ≤ k ∧ k ≤ 8
  · rw [if_pos hk]
    have : k = 1 ∨ k = 2 ∨ k = 3 ∨ k = 4 ∨ k = 5 ∨ k = 6 ∨ k = 7 ∨ k = 8 := by omega
    rcases this with rfl | rfl | rfl | rfl | rfl | rfl | rfl | rfl
    · simp only [g10_p12, g10_p11, g10_p1, g10_p10, g10_p2, beq_self_eq_true, sel_true]
      by_cases c2 : c = 2
      · subst c2; simp [Cm.z]
      · by_cases c3 : c = 3
        · subst c3; simp [Cm.z]
        · rw [show (c == 2) = false by simp [c2], sel_false, show (c == 3) = false by simp [c3], sel_false]; simp [Cm.z, c2, c3]
    all_goals rfl
  · rw [if_neg hk]
    have q : ∀ a : Int, (1 ≤ a ∧ a ≤ 8) → (k == a) = false := fun a ha => by
      have : k ≠ a := by omega
      simpa using this
    simp only [g10_p12, g10_p11, g10_p1, g10_p10, g10_p9, g10_p3, g10_p8, g10_p7, g10_p5, g10_p6, q 1 (by omega), q 2 (by omega), q 3 (by omega), q 4 (by omega), q 5 (by omega), q 6 (by omega), q 7 (by omega), q 8 (by omega), sel_false]
theorem s10 {H : Heap} {m : Cm} (hm : m.Ok) {s : Sl} (hs : s.len = m.d.length) {R : Type} (K : Int → Heap → Option R) : g10 R m.k m.f m.t m.c m.n m.x m.u s H K = K m.ck H := by
  simp only [g10, g10_r, g10_p19, g10_p0, hs]
  by_cases h : m.d.length > 200
  · rw [decide_eq_true (by omega), sel_true, show m.ck = 3 by unfold Cm.ck; rw [if_pos h]]
  rw [decide_eq_false (by omega), sel_false]
  simp only [g10_p18]
  rw [show (Sl.mk none 0 (.ex 0)) = nilS from rfl, switch10]
  by_cases hk : 1 ≤ m.k ∧ m.k ≤ 8
  · rw [if_pos hk, tail10 m.z_d hs, m.ck_10 hm h hk]
  · rw [if_neg hk, show m.ck = 1 by unfold Cm.ck; rw [if_neg h, if_neg (fun e => hk ⟨e.1, e.2.1⟩)]]
end Go.Proofs.Ytnlfkllnmobppaa

