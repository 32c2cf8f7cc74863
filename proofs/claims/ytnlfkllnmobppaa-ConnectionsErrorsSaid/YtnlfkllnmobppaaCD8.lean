/- A desk in the heap: what is done with messages. -/
import Derived.Test.YtnlfkllnmobppaaCD7
namespace Go.Proofs.Ytnlfkllnmobppaa
open Go AM Go.RowKit
set_option linter.unusedVariables false
set_option linter.unusedSimpArgs false

structure Cm.Ok (m : Cm) : Prop where
  k : 0 ≤ m.k ∧ m.k ≤ 255
  f : 0 ≤ m.f ∧ m.f ≤ 4294967295
  t : 0 ≤ m.t ∧ m.t ≤ 4294967295
  c : 0 ≤ m.c ∧ m.c ≤ 255
  n : 0 ≤ m.n ∧ m.n ≤ 255
  x : 0 ≤ m.x ∧ m.x ≤ 255
  u : 0 ≤ m.u ∧ m.u ≤ 255
/-! Check -/
def Cm.B1 (m : Cm) : Bool := (if m.k == 1 then m.c == 2 || m.c == 3 else m.c == 0) && ((decide (m.f > 0) == !(m.k == 3)) && ((decide (m.t > 0) == !(m.k == 1)) && (decide (m.u > 0) == (m.k == 3 || m.k == 7))))
theorem q12_1 {R : Type} {G : Heap} {m : Cm} {s : Sl} (b : Bool) (kN : Bool → Bool → Bool → Int → Int → Int → Int → Int → Int → Int → Sl → Heap → Option R) (kR : Int → Heap → Option R) :
    g12_p1 R b m.k m.f m.t m.c m.n m.x m.u s G kN kR = if b = true then kR 1 G else kN (m.k == 4) (m.k == 6) m.B1 m.k m.f m.t m.c m.n m.x m.u s G := by
  simp only [g12_p1, Cm.B1, bne]
  generalize (m.k == 4) = b4
  generalize (m.k == 6) = b6
  generalize (m.k == 7) = b7
  generalize (m.k == 1) = b1
  generalize (m.k == 3) = b3
  generalize (m.c == 2) = c2
  generalize (m.c == 3) = c3
  generalize (m.c == 0) = c0
  generalize decide (m.f > 0) = pf
  generalize decide (m.t > 0) = pt
  generalize decide (m.u > 0) = pu
  cases b
  · cases b1 <;> cases c2 <;> cases c3 <;> cases c0 <;> cases pf <;> cases b3 <;> cases pt <;> cases b7 <;> rfl
  · rfl
def Cm.B2 (m : Cm) (t3 t4 t6 : Bool) : Bool := t6 && ((t3 || t4 || m.n == 0) && ((t3 || t4 || m.k == 5 || m.x == 0) && (t3 || m.k == 1 || ((m.d.length : Nat) : Int) == 0)))
theorem q12_2 {R : Type} {G : Heap} {m : Cm} {s : Sl} (hs : s.len = m.d.length) (t3 t4 t6 : Bool) (kN : Bool → Heap → Option R) :
    g12_p2 R t3 t4 t6 m.k m.f m.t m.c m.n m.x m.u s G kN = kN (m.B2 t3 t4 t6) G := by
  simp only [g12_p2, Cm.B2, hs]
  generalize (m.k == 5) = b5
  generalize (m.k == 1) = b1
  generalize (m.n == 0) = n0
  generalize (m.x == 0) = x0
  generalize (((m.d.length : Nat) : Int) == 0) = l0
  cases t6
  · rfl
  · cases t3 <;> cases t4 <;> cases b5 <;> cases b1 <;> cases n0 <;> cases x0 <;> rfl
def Cm.B0 (m : Cm) : Bool := decide (m.k < 1) || (decide (m.k > 8) || (decide (m.f > 8191) || (decide (m.t > 8191) || (decide (m.n ≥ 128) || decide (m.x ≥ 128)))))
theorem beqD (p q : Prop) [Decidable p] [Decidable q] : (decide p == decide q) = decide (p ↔ q) := by
  by_cases hp : p <;> by_cases hq : q <;> simp [hp, hq]
theorem eqD (a b : Int) : (a == b) = decide (a = b) := by
  by_cases h : a = b <;> simp [h]
theorem Cm.ck_12 (m : Cm) (hm : m.Ok) : (if m.d.length > 200 then (3 : Int) else if m.B0 = true then 1 else if m.B2 (m.k == 4) (m.k == 6) m.B1 = true then 0 else 1) = m.ck := by
  unfold Cm.ck
  by_cases h : m.d.length > 200
  · rw [if_pos h, if_pos h]
  rw [if_neg h, if_neg h]
  have key : (m.B0 = false ∧ m.B2 (m.k == 4) (m.k == 6) m.B1 = true) ↔ m.Gd := by
    unfold Cm.B0 Cm.B2 Cm.B1 Cm.Gd
    have : (if (m.k == 1) = true then m.c == 2 || m.c == 3 else m.c == 0) = decide ((m.k = 1 ∧ (m.c = 2 ∨ m.c = 3)) ∨ (m.k ≠ 1 ∧ m.c = 0)) := by
      by_cases h1 : m.k = 1
      · simp [h1, eqD]
      · simp [h1, eqD]
    rw [this]
    simp only [eqD, ← decide_not, ← Bool.decide_or, ← Bool.decide_and, beqD, decide_eq_true_eq, decide_eq_false_iff_not]
    have := hm.f; have := hm.t; have := hm.u
    omega
  by_cases h0 : m.B0 = true
  · rw [if_pos h0, if_neg (fun e => by have := (key.2 e).1; rw [h0] at this; cases this)]
  · rw [if_neg h0]
    have h0' : m.B0 = false := by simpa using h0
    by_cases h2 : m.B2 (m.k == 4) (m.k == 6) m.B1 = true
    · rw [if_pos h2, if_pos (key.1 ⟨h0', h2⟩)]
    · rw [if_neg h2, if_neg (fun e => h2 (key.2 e).2)]
theorem s12 {R : Type} {H : Heap} {m : Cm} (hm : m.Ok) {s : Sl} (hs : s.len = m.d.length) (K : Int → Heap → Option R) :
    g12 R m.k m.f m.t m.c m.n m.x m.u s H K = K m.ck H := by
  rw [← m.ck_12 hm]
  simp only [g12, g12_r, g12_p6, g12_p0, hs]
  by_cases h : m.d.length > 200
  · rw [if_pos h, decide_eq_true (by omega), sel_true]
  rw [if_neg h, decide_eq_false (by omega), sel_false]
  have fin : ∀ b : Bool, g12_p5 R b m.k m.f m.t m.c m.n m.x m.u s H (fun t2 H => K t2 H) = K (if b = true then 1 else if m.B2 (m.k == 4) (m.k == 6) m.B1 = true then 0 else 1) H := fun b => by
    simp only [g12_p5]
    rw [q12_1]
    cases b
    · simp only [Bool.false_eq_true, if_false, g12_p4]
      rw [q12_2 hs]
      simp only [g12_p3]
      cases m.B2 (m.k == 4) (m.k == 6) m.B1 <;> rfl
    · rfl
  simp only [fin]
  unfold Cm.B0
  generalize decide (m.k < 1) = d0
  generalize decide (m.k > 8) = d1
  generalize decide (m.f > 8191) = d2
  generalize decide (m.t > 8191) = d3
  generalize decide (m.n ≥ 128) = d4
  generalize decide (m.x ≥ 128) = d5
  cases d0 <;> cases d1 <;> cases d2 <;> cases d3 <;> cases d4 <;> cases d5 <;> rfl
section
variable {n0 : Nat} {H : Heap} {x : Nat} {F : Nat → Prop} {D : Dk} {p : Nat} {s : Sc} {us : List Pz}
theorem s43 (h : DQ n0 H x F D us) (fr : Int) (m : Cm) (sl : Sl) :
    (D.belongs fr m = none ∧ ∀ (R : Type) (K : Option (Nat × Nat) → Heap → Option R), g43 R (some (x, 0)) fr m.k m.f m.t m.c m.n m.x m.u sl H K = K none H) ∨
    ∃ u ∈ us, D.belongs fr m = some u.s ∧ ∀ (R : Type) (K : Option (Nat × Nat) → Heap → Option R), g43 R (some (x, 0)) fr m.k m.f m.t m.c m.n m.x m.u sl H K = K (some (u.p, 0)) H := by
  obtain ⟨ma, es, ck, b1, b2, b3, b4⟩ := h.look
  unfold Dk.belongs
  rcases b4 m.t with ⟨f1, f2⟩ | ⟨u, hu, hur, f1, j, f2⟩
  · left
    refine ⟨by rw [f1], fun R K => ?_⟩
    simp only [g43, g43_r, g43_p0, Option.bind_some, Nat.zero_add, b1, b2, f2, fnd_none]
  · rw [f1]
    simp only
    have ld := ldSc (h.sc hu)
    have core : ∀ (R : Type) (K : Option (Nat × Nat) → Heap → Option R), g43 R (some (x, 0)) fr m.k m.f m.t m.c m.n m.x m.u sl H K = if u.s.pt ≠ fr then K none H else if u.s.st = 1 then (if m.k = 3 ∨ m.k = 2 then K (some (u.p, 0)) H else K none H) else if m.k = 3 ∨ u.s.oth ≠ m.f then K none H else K (some (u.p, 0)) H := fun R K => by
      simp only [g43, g43_r, g43_p0, Option.bind_some, Nat.zero_add, b1, b2, f2, fnd_some, V.asP, Option.isNone_some, sel_false, ld.2.1, ld.2.2.1, ld.2.2.2.2.1, selE, selN]
      by_cases c1 : u.s.pt = fr
      · rw [if_pos c1, if_neg (show ¬(u.s.pt ≠ fr) from fun h => h c1)]
        by_cases c2 : m.k = 3 <;> by_cases c3 : m.k = 2 <;> by_cases c4 : u.s.st = 1 <;> by_cases c5 : u.s.oth = m.f <;> simp [c2, c3, c4, c5]
      · rw [if_neg c1, if_pos c1]
    by_cases c1 : u.s.pt = fr
    · simp only [c1, ne_eq, not_true_eq_false, if_false] at core ⊢
      by_cases c4 : u.s.st = 1
      · simp only [c4, if_true] at core ⊢
        by_cases c2 : m.k = 3 ∨ m.k = 2
        · simp only [c2, if_true] at core ⊢
          exact .inr ⟨u, hu, rfl, core⟩
        · simp only [c2, if_false] at core ⊢
          exact .inl ⟨by first | rfl | trivial, core⟩
      · simp only [c4, if_false] at core ⊢
        by_cases c2 : m.k = 3 ∨ ¬u.s.oth = m.f
        · simp only [c2, if_true] at core ⊢
          exact .inl ⟨by first | rfl | trivial, core⟩
        · simp only [c2, if_false] at core ⊢
          exact .inr ⟨u, hu, rfl, core⟩
    · simp only [ne_eq, c1, not_false_eq_true, if_true] at core ⊢
      exact .inl ⟨by first | rfl | trivial, core⟩
/-- acknowledge -/
theorem s68 (h : DP n0 H x F D p s) (nx : Int) : ∃ H', (∀ (R : Type) (K : Heap → Option R), g68 R (some (p, 0)) nx H K = K H') ∧ DP n0 H' x F (D.put (s.acked nx)) p (s.acked nx) ∧ Stp n0 H H' F := by
  have ld := ldSc h.sc
  have start : ∀ (R : Type) (K : Heap → Option R), g68 R (some (p, 0)) nx H K = if (nx - s.ack) % 256 % 128 ≤ (s.giv - s.ack) % 256 % 128 then (H.st p 9 (.i .u8 nx)).bind K else K H := fun R K => by
    simp only [g68, g68_r, g68_p0, Option.bind_some, Nat.zero_add, ld.2.2.2.2.2.2.2.2.1, ld.2.2.2.2.2.2.2.2.2.1, gap_w', selD]
  unfold Sc.acked
  by_cases c : (nx - s.ack) % 256 % 128 ≤ (s.giv - s.ack) % 256 % 128
  · rw [if_pos c]
    obtain ⟨a1, a2, a3⟩ := h.st (k := 9) (v := .i .u8 nx) (s' := { s with ack := nx }) rfl (by decide) rfl rfl
    exact ⟨_, fun R K => by rw [start, if_pos c, a1]; rfl, a2, a3⟩
  · rw [if_neg c]
    obtain ⟨a2, a3⟩ := h.write (s' := s) rfl
    rw [Heap.put_self h.sc] at a2 a3
    exact ⟨_, fun R K => by rw [start, if_neg c], a2, a3⟩
/-- a few steps -/
theorem Stp.two {G G' : Heap} (h : Stp n0 H G F) (h' : Stp n0 G G' (grown F H G)) : Stp n0 H G' F ∧ ∀ i, grown (grown F H G) G G' i → grown F H G' i := ⟨h.trans h', fun i hi => hi.mono h.fr.next h'.fr.next⟩
/-- close -/
theorem s66 (h : DP n0 H x F D p s) (ho : D.out.length ≤ 10000000) (he : D.evs.length ≤ 10000000) (cause : Int) : ∃ H', (∀ (R : Type) (K : Heap → Option R), g66 R (some (x, 0)) (some (p, 0)) cause H K = K H') ∧ DA n0 H' x (grown F H H') (D.close s cause) ∧ Stp n0 H H' F := by
  obtain ⟨H1, e1, d1, s1⟩ := s56 h { what := 5, cau := cause } (sl := nilS) (.nil _ _) (by omega)
  obtain ⟨H2, e2, d2, s2⟩ := s39 d1 { k := 7, u := cause } (sl := nilS) (.nil _ _) (by simp only [Dk.tell_out]; omega)
  obtain ⟨H3, e3, d3, s3⟩ := s51 d2 4
  obtain ⟨st2, g2⟩ := s1.two s2
  refine ⟨H3, fun R K => ?_, d3.da.up fun i hi => ?_, ⟨st2.fr.join (s3.fr.mono fun i _ hi => g2 i hi), st2.kp.trans s3.kp⟩⟩
  · simp only [g66, g66_r, g66_p0]
    rw [show (Sl.mk none 0 (.ex 0)) = nilS from rfl, e1, e2, e3]
  · have := g2 i hi
    have := s3.fr.next
    rcases g2 i hi with hi | hi
    · exact .inl hi
    · exact .inr (by omega)
theorem grown.le {G G' : Heap} (hn : G.next ≤ G'.next) {i : Nat} (h : grown F H G i) : grown F H G' i := by
  rcases h with h | h
  · exact .inl h
  · exact .inr (by omega)
/-- the functions of the messages -/
theorem s57 (h : DP n0 H x F D p s) (hB : D.Bd) {m : Cm} (hk : m.k = 2) (sl : Sl) : ∃ H', (∀ (R : Type) (K : Heap → Option R), g57 R (some (x, 0)) (some (p, 0)) m.k m.f m.t m.c m.n m.x m.u sl H K = K H') ∧ DA n0 H' x (grown F H H') (D.act s m) ∧ Stp n0 H H' F := by
  have ld := ldSc h.sc
  have ea : D.act s m = if s.st = 1 then (D.put ({ s with oth := m.f }.turn 3)).tell s { what := 2 } else D := by unfold Dk.act; rw [if_pos hk]
  rw [ea]
  by_cases c : s.st = 1
  · rw [if_pos c]
    obtain ⟨a1, a2, a3⟩ := h.st (k := 2) (v := .i .u32 m.f) (s' := { s with oth := m.f }) rfl (by decide) rfl rfl
    obtain ⟨H2, e2, d2, s2⟩ := s51 a2 3
    obtain ⟨H3, e3, d3, s3⟩ := s56 d2 { what := 2 } (sl := nilS) (.nil _ _) (by have := hB.e; simp only [Dk.put_evs]; omega)
    have hpp : (D.put { s with oth := m.f }).put ({ s with oth := m.f }.turn 3) = D.put ({ s with oth := m.f }.turn 3) := by
      unfold Dk.put
      simp only [List.map_map, Dk.mk.injEq, and_true, true_and]
      refine List.map_congr_left fun b _ => ?_
      simp only [Function.comp, Sc.turn]
      by_cases hb : b.ref = s.ref
      · simp [hb]
      · simp [hb]
    refine ⟨H3, fun R K => ?_, ?_, ⟨a3.fr.trans (s2.fr.trans s3.fr), a3.kp.trans (s2.kp.trans s3.kp)⟩⟩
    · simp only [g57, g57_r, g57_p0, Option.bind_some, Nat.zero_add, ld.2.2.2.2.1]
      rw [show (s.st == 1) = true by simp [c], sel_true, a1, Option.bind_some, e2]
      exact e3 R _
    · have := d3.da
      rw [hpp] at this
      exact this.up fun i hi => (hi.ext_left s2.fr.next).ext_left a3.fr.next
  · rw [if_neg c]
    refine ⟨H, fun R K => ?_, h.da.up fun i hi => .inl hi, .refl _ _ _⟩
    simp only [g57, g57_r, g57_p0, Option.bind_some, Nat.zero_add, ld.2.2.2.2.1]
    rw [show (s.st == 1) = false by simpa using c, sel_false]
theorem s58 (h : DP n0 H x F D p s) (hB : D.Bd) {m : Cm} (hk : m.k = 3) (sl : Sl) : ∃ H', (∀ (R : Type) (K : Heap → Option R), g58 R (some (x, 0)) (some (p, 0)) m.k m.f m.t m.c m.n m.x m.u sl H K = K H') ∧ DA n0 H' x (grown F H H') (D.act s m) ∧ Stp n0 H H' F := by
  have ea : D.act s m = (D.tell s { what := 3, cau := m.u }).over s.ref := by unfold Dk.act; rw [if_neg (by omega), if_pos hk]
  rw [ea]
  obtain ⟨H1, e1, d1, s1⟩ := s56 h { what := 3, cau := m.u } (sl := nilS) (.nil _ _) (by have := hB.e; omega)
  obtain ⟨H2, e2, d2, s2⟩ := s53 d1
  refine ⟨H2, fun R K => ?_, d2.up fun i hi => hi.le s2.fr.next, ⟨s1.fr.join s2.fr, s1.kp.trans s2.kp⟩⟩
  simp only [g58, g58_r, g58_p0]
  rw [show (Sl.mk none 0 (.ex 0)) = nilS from rfl, e1, e2]
theorem s61 (h : DP n0 H x F D p s) (hB : D.Bd) {m : Cm} (hk : m.k = 7) (sl : Sl) : ∃ H', (∀ (R : Type) (K : Heap → Option R), g61 R (some (x, 0)) (some (p, 0)) m.k m.f m.t m.c m.n m.x m.u sl H K = K H') ∧ DA n0 H' x (grown F H H') (D.act s m) ∧ Stp n0 H H' F := by
  have ea : D.act s m = (if s.st ≠ 4 then (D.send s { k := 8 }).tell s { what := 5, cau := m.u } else D.send s { k := 8 }).over s.ref := by unfold Dk.act; rw [if_neg (by omega), if_neg (by omega), if_neg (by omega), if_neg (by omega), if_pos hk]
  rw [ea]
  obtain ⟨H1, e1, d1, s1⟩ := s39 h { k := 8 } (sl := nilS) (.nil _ _) (by have := hB.o; omega)
  have ld1 := ldSc d1.sc
  by_cases c : s.st = 4
  · rw [if_neg (by simpa using c)]
    obtain ⟨H2, e2, d2, s2⟩ := s53 d1
    refine ⟨H2, fun R K => ?_, d2.up fun i hi => hi.le s2.fr.next, ⟨s1.fr.join s2.fr, s1.kp.trans s2.kp⟩⟩
    simp only [g61, g61_r, g61_p0]
    rw [show (Sl.mk none 0 (.ex 0)) = nilS from rfl, e1]
    simp only [Option.bind_some, Nat.zero_add, ld1.2.2.2.2.1]
    rw [show (s.st != 4) = false by simp [c], sel_false, e2]
  · rw [if_pos c]
    obtain ⟨H2, e2, d2, s2⟩ := s56 d1 { what := 5, cau := m.u } (sl := nilS) (.nil _ _) (by have := hB.e; simp only [Dk.send_evs]; omega)
    obtain ⟨H3, e3, d3, s3⟩ := s53 d2
    obtain ⟨st2, g2⟩ := s1.two s2
    refine ⟨H3, fun R K => ?_, d3.up fun i hi => (g2 i hi).le s3.fr.next, ⟨st2.fr.join (s3.fr.mono fun i _ hi => g2 i hi), st2.kp.trans s3.kp⟩⟩
    simp only [g61, g61_r, g61_p0]
    rw [show (Sl.mk none 0 (.ex 0)) = nilS from rfl, e1]
    simp only [Option.bind_some, Nat.zero_add, ld1.2.2.2.2.1]
    rw [show (s.st != 4) = true by simpa using c, sel_true, e2, e3]
theorem s62 (h : DP n0 H x F D p s) {m : Cm} (hk : m.k = 8) (sl : Sl) : ∃ H', (∀ (R : Type) (K : Heap → Option R), g62 R (some (x, 0)) (some (p, 0)) m.k m.f m.t m.c m.n m.x m.u sl H K = K H') ∧ DA n0 H' x (grown F H H') (D.act s m) ∧ Stp n0 H H' F := by
  have ea : D.act s m = if s.st = 4 then D.over s.ref else D := by unfold Dk.act; rw [if_neg (by omega), if_neg (by omega), if_neg (by omega), if_neg (by omega), if_neg (by omega), if_pos hk]
  rw [ea]
  have ld := ldSc h.sc
  by_cases c : s.st = 4
  · rw [if_pos c]
    obtain ⟨H1, e1, d1, s1⟩ := s53 h
    refine ⟨H1, fun R K => ?_, d1.up fun i hi => .inl hi, s1⟩
    simp only [g62, g62_r, g62_p0, Option.bind_some, Nat.zero_add, ld.2.2.2.2.1]
    rw [show (s.st == 4) = true by simp [c], sel_true, e1]
  · rw [if_neg c]
    refine ⟨H, fun R K => ?_, h.da.up fun i hi => .inl hi, .refl _ _ _⟩
    simp only [g62, g62_r, g62_p0, Option.bind_some, Nat.zero_add, ld.2.2.2.2.1]
    rw [show (s.st == 4) = false by simpa using c, sel_false]
end
end Go.Proofs.Ytnlfkllnmobppaa

