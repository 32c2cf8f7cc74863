/- Connections: messages; Check. -/
import Derived.Test.YtnlfkllnmobppaaLSl
import Derived.Test.YtnlfkllnmobppaaLByt
namespace Go.Proofs.Ytnlfkllnmobppaa
open Go AM Go.RowKit
set_option linter.unusedVariables false
set_option linter.unusedSimpArgs false

/-- a message -/
structure Cm where
  k : Int
  f : Int
  t : Int
  c : Int
  n : Int
  x : Int
  u : Int
  d : List Int
structure Cm.Ok (m : Cm) : Prop where
  k : 0 ≤ m.k ∧ m.k ≤ 255
  f : 0 ≤ m.f ∧ m.f ≤ 4294967295
  t : 0 ≤ m.t ∧ m.t ≤ 4294967295
  c : 0 ≤ m.c ∧ m.c ≤ 255
  n : 0 ≤ m.n ∧ m.n ≤ 255
  x : 0 ≤ m.x ∧ m.x ≤ 255
  u : 0 ≤ m.u ∧ m.u ≤ 255
  d : Byt m.d
def Cm.cells (m : Cm) (s : Sl) : List V := [.i .u8 m.k, .i .u32 m.f, .i .u32 m.t, .i .u8 m.c, .i .u8 m.n, .i .u8 m.x, .i .u8 m.u, .sl s]
def nilS : Sl := ⟨none, 0, .ex 0⟩
def Cm.zero : Cm := ⟨0, 0, 0, 0, 0, 0, 0, []⟩
def Cm.Gd (m : Cm) : Prop := 1 ≤ m.k ∧ m.k ≤ 8 ∧ m.f ≤ 8191 ∧ m.t ≤ 8191 ∧ m.n < 128 ∧ m.x < 128 ∧ ((m.k = 1 ∧ (m.c = 2 ∨ m.c = 3)) ∨ (m.k ≠ 1 ∧ m.c = 0)) ∧ (0 < m.f ↔ m.k ≠ 3) ∧ (0 < m.t ↔ m.k ≠ 1) ∧ (0 < m.u ↔ (m.k = 3 ∨ m.k = 7)) ∧ (m.k = 4 ∨ m.k = 6 ∨ m.n = 0) ∧ (m.k = 4 ∨ m.k = 6 ∨ m.k = 5 ∨ m.x = 0) ∧ (m.k = 4 ∨ m.k = 1 ∨ m.d.length = 0)
open Classical in
noncomputable def Cm.ck (m : Cm) : Int := if m.d.length > 200 then 3 else if m.Gd then 0 else 1
theorem ldM {G : Heap} {i : Nat} {m : Cm} {s : Sl} (hG : G.get i = some (.cells (m.cells s) 26 false)) : G.ldI .u8 i 0 = some m.k ∧ G.ldI .u32 i 1 = some m.f ∧ G.ldI .u32 i 2 = some m.t ∧ G.ldI .u8 i 3 = some m.c ∧ G.ldI .u8 i 4 = some m.n ∧ G.ldI .u8 i 5 = some m.x ∧ G.ldI .u8 i 6 = some m.u ∧ G.ldSl i 7 = some s :=
  ⟨ldI_of hG rfl, ldI_of hG rfl, ldI_of hG rfl, ldI_of hG rfl, ldI_of hG rfl, ldI_of hG rfl, ldI_of hG rfl, ldSl_of hG rfl⟩
theorem s9 {R : Type} (H : Heap) (K : Bool → Heap → Option R) : g9 R H K = K true H := rfl
theorem sel_and {R : Type} {b v : Bool} {K : Bool → Heap → Option R} {h : Heap} : sel b (K v h) (K false h) = K (b && v) h := by cases b <;> rfl
def Cm.same (a b : Cm) : Bool := a.k == b.k && (a.f == b.f && (a.t == b.t && (a.c == b.c && (a.n == b.n && (a.x == b.x && (a.u == b.u && decide (u8s a.d = u8s b.d)))))))
theorem Cm.same_self (a : Cm) : a.same a = true := by simp [Cm.same]
theorem s15 {R : Type} {H : Heap} (hw : H.Wf) {a b : Cm} {s t : Sl} (ha : BS H s a.d) (hb : BS H t b.d) (K : Bool → Heap → Option R) :
    g15 R a.k a.f a.t a.c a.n a.x a.u s b.k b.f b.t b.c b.n b.x b.u t H K = K (a.same b) ((H.new (.cells (a.cells s) 26 false)).new (.cells (b.cells t) 26 false)) := by
  have g1 := Heap.gnew H (.cells (a.cells s) 26 false)
  have w1 := hw.new (.cells (a.cells s) 26 false)
  have x1 := Ext.new H (.cells (a.cells s) 26 false)
  have g2 := Heap.gnew (H.new (.cells (a.cells s) 26 false)) (.cells (b.cells t) 26 false)
  have x2 := Ext.new (H.new (.cells (a.cells s) 26 false)) (.cells (b.cells t) 26 false)
  have g1' := x2.get w1 g1
  have ha2 := ha.ext hw (x1.trans x2)
  have hb2 := hb.ext hw (x1.trans x2)
  simp only [g15, g15_r, g15_p0, alo, Nat.zero_add]
  rw [show [V.i IntKind.u8 a.k, V.i IntKind.u32 a.f, V.i IntKind.u32 a.t, V.i IntKind.u8 a.c, V.i IntKind.u8 a.n, V.i IntKind.u8 a.x, V.i IntKind.u8 a.u, V.sl s] = a.cells s from rfl]
  rw [show [V.i IntKind.u8 b.k, V.i IntKind.u32 b.f, V.i IntKind.u32 b.t, V.i IntKind.u8 b.c, V.i IntKind.u8 b.n, V.i IntKind.u8 b.x, V.i IntKind.u8 b.u, V.sl t] = b.cells t from rfl]
  generalize H.next = i at *
  generalize H.new (.cells (a.cells s) 26 false) = H1 at *
  generalize H1.next = j at *
  generalize H1.new (.cells (b.cells t) 26 false) = H2 at *
  obtain ⟨a0, a1, a2, a3, a4, a5, a6, a7⟩ := ldM g1'
  obtain ⟨b0, b1, b2, b3, b4, b5, b6, b7⟩ := ldM g2
  simp only [a0, a1, a2, a3, a4, a5, a6, a7, b0, b1, b2, b3, b4, b5, b6, b7, Option.bind_some, slB ha2, slB hb2, strEqU, sel_and]
  rfl

/-! Check -/
theorem q12_0 {R : Type} {b v : Bool} {i : Nat} {K : Nat → Nat → Bool → Heap → Option R} {h : Heap} : sel b (K i 0 true h) (K i 0 v h) = K i 0 (b || v) h := by cases b <;> rfl
def Cm.B1 (m : Cm) : Bool := (if m.k == 1 then m.c == 2 || m.c == 3 else m.c == 0) && ((decide (m.f > 0) == !(m.k == 3)) && ((decide (m.t > 0) == !(m.k == 1)) && (decide (m.u > 0) == (m.k == 3 || m.k == 7))))
theorem q12_1 {R : Type} {G : Heap} {i : Nat} {m : Cm} {s : Sl} (hG : G.get i = some (.cells (m.cells s) 26 false)) (b : Bool) (kN : Nat → Nat → Bool → Bool → Bool → Heap → Option R) (kR : Int → Heap → Option R) :
    g12_p1 R i 0 b G kN kR = if b = true then kR 1 G else kN i 0 (m.k == 4) (m.k == 6) m.B1 G := by
  obtain ⟨a0, a1, a2, a3, a4, a5, a6, a7⟩ := ldM hG
  simp only [g12_p1, Nat.zero_add, a0, a1, a2, a3, a4, a5, a6, a7, Option.bind_some, Cm.B1, bne]
  generalize (m.k == 4) = b4
  generalize (m.k == 6) = b6
  generalize (m.k == 7) = b7
  generalize (m.k == 1) = b1
  generalize (m.k == 3) = b3
  generalize (m.c == 2) = c2
  generalize (m.c == 3) = c3
  generalize (m.c == 0) = c0
  generalize decide (m.f > 0) = pf
  generalize decide (m.t > 0) = pt
  generalize decide (m.u > 0) = pu
  cases b
  · cases b1 <;> cases c2 <;> cases c3 <;> cases c0 <;> cases pf <;> cases b3 <;> cases pt <;> cases b7 <;> rfl
  · rfl
def Cm.B2 (m : Cm) (t3 t4 t6 : Bool) : Bool := t6 && ((t3 || t4 || m.n == 0) && ((t3 || t4 || m.k == 5 || m.x == 0) && (t3 || m.k == 1 || ((m.d.length : Nat) : Int) == 0)))
theorem q12_2 {R : Type} {G : Heap} {i : Nat} {m : Cm} {s : Sl} (hG : G.get i = some (.cells (m.cells s) 26 false)) (hs : s.len = m.d.length) (t3 t4 t6 : Bool) (kN : Bool → Heap → Option R) :
    g12_p2 R i 0 t3 t4 t6 G kN = kN (m.B2 t3 t4 t6) G := by
  obtain ⟨a0, a1, a2, a3, a4, a5, a6, a7⟩ := ldM hG
  simp only [g12_p2, Nat.zero_add, a0, a1, a2, a3, a4, a5, a6, a7, Option.bind_some, Cm.B2, hs]
  generalize (m.k == 5) = b5
  generalize (m.k == 1) = b1
  generalize (m.n == 0) = n0
  generalize (m.x == 0) = x0
  generalize (((m.d.length : Nat) : Int) == 0) = l0
  cases t6
  · rfl
  · cases t3 <;> cases t4 <;> cases b5 <;> cases b1 <;> cases n0 <;> cases x0 <;> rfl
def Cm.B0 (m : Cm) : Bool := decide (m.k < 1) || (decide (m.k > 8) || (decide (m.f > 8191) || (decide (m.t > 8191) || (decide (m.n ≥ 128) || decide (m.x ≥ 128)))))
theorem beqD (p q : Prop) [Decidable p] [Decidable q] : (decide p == decide q) = decide (p ↔ q) := by
  by_cases hp : p <;> by_cases hq : q <;> simp [hp, hq]
theorem eqD (a b : Int) : (a == b) = decide (a = b) := by
  by_cases h : a = b <;> simp [h]
theorem Cm.ck_12 (m : Cm) (hm : m.Ok) : (if m.d.length > 200 then (3 : Int) else if m.B0 = true then 1 else if m.B2 (m.k == 4) (m.k == 6) m.B1 = true then 0 else 1) = m.ck := by
  unfold Cm.ck
  by_cases h : m.d.length > 200
  · rw [if_pos h, if_pos h]
  rw [if_neg h, if_neg h]
  have key : (m.B0 = false ∧ m.B2 (m.k == 4) (m.k == 6) m.B1 = true) ↔ m.Gd := by
    unfold Cm.B0 Cm.B2 Cm.B1 Cm.Gd
    have : (if (m.k == 1) = true then m.c == 2 || m.c == 3 else m.c == 0) = decide ((m.k = 1 ∧ (m.c = 2 ∨ m.c = 3)) ∨ (m.k ≠ 1 ∧ m.c = 0)) := by
      by_cases h1 : m.k = 1
      · simp [h1, eqD]
      · simp [h1, eqD]
    rw [this]
    simp only [eqD, ← decide_not, ← Bool.decide_or, ← Bool.decide_and, beqD, decide_eq_true_eq, decide_eq_false_iff_not]
    have := hm.f; have := hm.t; have := hm.u
    omega
  by_cases h0 : m.B0 = true
  · rw [if_pos h0, if_neg (fun e => by have := (key.2 e).1; rw [h0] at this; cases this)]
  · rw [if_neg h0]
    have h0' : m.B0 = false := by simpa using h0
    by_cases h2 : m.B2 (m.k == 4) (m.k == 6) m.B1 = true
    · rw [if_pos h2, if_pos (key.1 ⟨h0', h2⟩)]
    · rw [if_neg h2, if_neg (fun e => h2 (key.2 e).2)]
theorem s12 {R : Type} {H : Heap} {m : Cm} (hm : m.Ok) {s : Sl} (hs : s.len = m.d.length) (K : Int → Heap → Option R) :
    g12 R m.k m.f m.t m.c m.n m.x m.u s H K = K m.ck (H.new (.cells (m.cells s) 26 false)) := by
  have g1 := Heap.gnew H (.cells (m.cells s) 26 false)
  rw [← m.ck_12 hm]
  simp only [g12, g12_r, g12_p6, g12_p0, alo, Nat.zero_add]
  rw [show [V.i IntKind.u8 m.k, V.i IntKind.u32 m.f, V.i IntKind.u32 m.t, V.i IntKind.u8 m.c, V.i IntKind.u8 m.n, V.i IntKind.u8 m.x, V.i IntKind.u8 m.u, V.sl s] = m.cells s from rfl]
  generalize H.next = i at *
  generalize H.new (.cells (m.cells s) 26 false) = G at *
  obtain ⟨a0, a1, a2, a3, a4, a5, a6, a7⟩ := ldM g1
  simp only [a0, a1, a2, a3, a4, a5, a6, a7, Option.bind_some, hs]
  by_cases h : m.d.length > 200
  · rw [if_pos h, decide_eq_true (by omega), sel_true]
  rw [if_neg h, decide_eq_false (by omega), sel_false]
  have fin : ∀ b : Bool, g12_p5 R i 0 b G (fun t2 H => K t2 H) = K (if b = true then 1 else if m.B2 (m.k == 4) (m.k == 6) m.B1 = true then 0 else 1) G := fun b => by
    simp only [g12_p5]
    rw [q12_1 g1]
    cases b
    · simp only [Bool.false_eq_true, if_false, g12_p4]
      rw [q12_2 g1 hs]
      simp only [g12_p3]
      cases m.B2 (m.k == 4) (m.k == 6) m.B1 <;> rfl
    · rfl
  simp only [fin]
  unfold Cm.B0
  generalize decide (m.k < 1) = d0
  generalize decide (m.k > 8) = d1
  generalize decide (m.f > 8191) = d2
  generalize decide (m.t > 8191) = d3
  generalize decide (m.n ≥ 128) = d4
  generalize decide (m.x ≥ 128) = d5
  cases d0 <;> cases d1 <;> cases d2 <;> cases d3 <;> cases d4 <;> rfl
end Go.Proofs.Ytnlfkllnmobppaa

