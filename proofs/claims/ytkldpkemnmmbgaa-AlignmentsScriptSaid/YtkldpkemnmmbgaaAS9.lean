/- The law's model of an alignment: what its methods do. -/
import Derived.Test.YtkldpkemnmmbgaaAS8
namespace Go.Proofs.Ytkldpkemnmmbgaa
open Go AM Go.RowKit
set_option linter.unusedVariables false
set_option linter.unusedSimpArgs false

/-- the model's object -/
abbrev Al.M (A : Al) (w : Int) : O := .cells (A.cells (.i .i64 w)) 46 false
section
variable {Y : Heap} {m : Nat} {A : Al} {w : Int}
theorem mL0 : (Y.put m (A.M w)).ldI .i64 m 0 = some A.seek := ldI_of (Heap.gput _ _ _) rfl
theorem mL1 : (Y.put m (A.M w)).ldI .i64 m 1 = some A.hold := ldI_of (Heap.gput _ _ _) rfl
theorem mL2 : (Y.put m (A.M w)).ldI .i64 m 2 = some A.norm := ldI_of (Heap.gput _ _ _) rfl
theorem mL3 : (Y.put m (A.M w)).ldI .i64 m 3 = some A.emer := ldI_of (Heap.gput _ _ _) rfl
theorem mL4 : (Y.put m (A.M w)).ldI .i64 m 4 = some A.few := ldI_of (Heap.gput _ _ _) rfl
theorem mL5 : (Y.put m (A.M w)).ldI .i64 m 5 = some A.fewer := ldI_of (Heap.gput _ _ _) rfl
theorem mL6 : (Y.put m (A.M w)).ldI .i64 m 6 = some A.most := ldI_of (Heap.gput _ _ _) rfl
theorem mL7 : (Y.put m (A.M w)).ldI .u8 m 7 = some A.ph := ldI_of (Heap.gput _ _ _) rfl
theorem mL8 : (Y.put m (A.M w)).ldI .i64 m 8 = some A.left := ldI_of (Heap.gput _ _ _) rfl
theorem mL9 : (Y.put m (A.M w)).ldB m 9 = some A.own := ldB_of (Heap.gput _ _ _) rfl
theorem mL10 : (Y.put m (A.M w)).ldB m 10 = some A.urg := ldB_of (Heap.gput _ _ _) rfl
theorem mL11 : (Y.put m (A.M w)).ldI .i64 m 11 = some A.prov := ldI_of (Heap.gput _ _ _) rfl
theorem mL12 : (Y.put m (A.M w)).ldI .i64 m 12 = some w := ldI_of (Heap.gput _ _ _) rfl
theorem mS {B : Al} {w' : Int} (k : Nat) (v : V) (hk : k < 13) (hv : v.one = true) (h : (A.cells (.i .i64 w)).set k v = B.cells (.i .i64 w')) : (Y.put m (A.M w)).st m k v = some (Y.put m (B.M w')) := by
  rw [st_of (Heap.gput _ _ _) (by simpa [Al.cells] using hk) hv, Heap.put_put, h]
theorem mS7 (n : Int) : (Y.put m (A.M w)).st m 7 (.i .u8 n) = some (Y.put m ({ A with ph := n }.M w)) := mS 7 _ (by omega) rfl rfl
theorem mS8 (n : Int) : (Y.put m (A.M w)).st m 8 (.i .i64 n) = some (Y.put m ({ A with left := n }.M w)) := mS 8 _ (by omega) rfl rfl
theorem mS9 (n : Bool) : (Y.put m (A.M w)).st m 9 (.b n) = some (Y.put m ({ A with own := n }.M w)) := mS 9 _ (by omega) rfl rfl
theorem mS10 (n : Bool) : (Y.put m (A.M w)).st m 10 (.b n) = some (Y.put m ({ A with urg := n }.M w)) := mS 10 _ (by omega) rfl rfl
theorem mS11 (n : Int) : (Y.put m (A.M w)).st m 11 (.i .i64 n) = some (Y.put m ({ A with prov := n }.M w)) := mS 11 _ (by omega) rfl rfl
theorem mS12 (n : Int) : (Y.put m (A.M w)).st m 12 (.i .i64 n) = some (Y.put m (A.M n)) := mS 12 _ (by omega) rfl rfl
theorem m34 (p : Int) {R : Type} (K : Heap → Option R) : g34 R (some (m, 0)) p (Y.put m (A.M w)) K = K (Y.put m ({ A with ph := p, left := 0 }.M w)) := by
  simp only [g34, g34_r, g34_p0, Option.bind_some, Nat.zero_add, mS7, mS8]
theorem m34e (p : Int) (hp : p ≠ 1 ∧ p ≠ 2 ∧ p ≠ 3) {R : Type} (K : Heap → Option R) : g34 R (some (m, 0)) p (Y.put m (A.M w)) K = K (Y.put m ((A.enter p).M w)) := by
  rw [m34]; unfold Al.enter; rw [if_neg hp.1, if_neg hp.2.1, if_neg hp.2.2]
theorem m35 (h : -1 ≤ A.prov ∧ A.prov ≤ 999999999) {R : Type} (K : Heap → Option R) : g35 R (some (m, 0)) (Y.put m (A.M w)) K = K (Y.put m ((A.enter 3).M 0)) := by
  have w1 : IntKind.wrap .i64 (A.prov + 1) = A.prov + 1 := w64 (by omega)
  simp only [g35, g35_r, g35_p0, Option.bind_some, Nat.zero_add, mS7, mL11, w1, mS11, mS12, mL2, mS8, mL10, mL3]
  have e : ∀ (B : Al), B.cells = (A.enter 3).cells → Y.put m (B.M 0) = Y.put m ((A.enter 3).M 0) := fun B hB => by simp only [Al.M, hB]
  cases hu : A.urg with
  | true => rw [sel_true]; congr 1; exact e _ (by simp [Al.enter, hu]; rfl)
  | false => rw [sel_false]; congr 1; exact e _ (by simp [Al.enter, hu]; rfl)
theorem m36 {R : Type} (K : Heap → Option R) : g36 R (some (m, 0)) (Y.put m (A.M w)) K = K (Y.put m ((A.enter 2).M w)) := by
  simp only [g36, g36_r, g36_p0, Option.bind_some, Nat.zero_add, mS7, mL1, mS8]; rfl
theorem m23 {R : Type} (K : Int → Heap → Option R) : g23 R (some (m, 0)) (Y.put m (A.M w)) K = K A.sends (Y.put m (A.M w)) := by
  simp only [g23, g23_r, g23_p0, Option.bind_some, Nat.zero_add, mL7, mL9]
  unfold Al.sends
  by_cases h1 : A.ph = 1
  · simp [h1]
  · have b1 : (A.ph == 1) = false := by simp [h1]
    by_cases h2 : A.ph = 2
    · cases ho : A.own <;> simp [h2]
    · have b2 : (A.ph == 2) = false := by simp [h2]
      by_cases h3 : A.ph = 3
      · cases ho : A.own <;> simp [h3]
      · have b3 : (A.ph == 3) = false := by simp [h3]
        by_cases h5 : A.ph = 5
        · simp [h5]
        · have b5 : (A.ph == 5) = false := by simp [h5]
          simp [b1, b2, b3, b5, h1, h2, h3, h5]
theorem m21_pre (a : Int) {R : Type} (K : Int → Heap → Option R) : g21 R (some (m, 0)) a (Y.put m (A.M w)) K =
    g21_p34 g34 g35 g36 R (some (m, 0)) a (IntKind.wrap .u8 (a - 8)) A.ph (A.urg || IntKind.wrap .u8 (a - 8) == 2) (Y.put m (A.M w)) K := by
  simp only [g21, g21_r, g21_p35, g21_p0, Option.bind_some, Nat.zero_add, mL7, mL10]
  cases A.urg <;> rfl
local macro "m21p" : tactic => `(tactic| simp only [m21_pre, g21_p34, g21_p33, g21_p32, g21_p31, g21_p30, g21_p29, g21_p28, g21_p27, g21_p26, g21_p25, g21_p24, g21_p23, g21_p22, g21_p21, g21_p20, g21_p19, g21_p18, g21_p17, g21_p15, g21_p13, g21_p11, g21_p9, g21_p7, g21_p5, g21_p3, g21_p1])
def MAct (Y : Heap) (m : Nat) (A : Al) (w a : Int) : Prop := ∃ w', (∀ (R : Type) (K : Int → Heap → Option R), g21 R (some (m, 0)) a (Y.put m (A.M w)) K = K (A.act a).2 (Y.put m ((A.act a).1.M w'))) ∧ ((A.act a).1.ph = 3 → w' = (A.act a).1.elv)
theorem m21_start (hw : A.ph = 3 → w = A.elv) {a : Int} (h2 : a < 2) : MAct Y m A w a := by
  have b2 : decide (a < 2) = true := by simpa using h2
  have et : A.act a = A.start (a == 1) := by unfold Al.act; rw [if_pos h2]
  refine ⟨w, fun R K => ?_, ?_⟩
  · rw [et]; m21p
    simp only [b2, sel_true, g21_p2]
    unfold Al.start
    by_cases h0 : A.ph = 0
    · have b0 : (A.ph != 0) = false := by simp [h0]
      rw [if_neg (by omega)]
      simp only [b0, sel_false, Option.bind_some, Nat.zero_add, mS9, mL9, mS10, mS11, mS7, mL0, mS8]
      rfl
    · have b0 : (A.ph != 0) = true := by simp [h0]
      by_cases h5 : A.ph = 5
      · have b5 : (A.ph != 5) = false := by simp [h5]
        rw [if_neg (by omega)]
        simp only [b0, b5, sel_true, sel_false, Option.bind_some, Nat.zero_add, mS9, mL9, mS10, mS11, mS7, mL0, mS8]
        rfl
      · have b5 : (A.ph != 5) = true := by simp [h5]
        rw [if_pos ⟨h0, h5⟩]
        simp only [b0, b5, sel_true]
  · rw [et]; unfold Al.start
    split
    · exact hw
    · intro h; simp [Al.enter] at h
theorem m21_stop {a : Int} (h2 : a = 2) : MAct Y m A w a := by
  subst h2
  have et : A.act 2 = (A.enter 0, 0) := rfl
  refine ⟨w, fun R K => ?_, ?_⟩
  · rw [et]; m21p
    simp only [show decide ((2 : Int) < 2) = false from rfl, sel_false, beq_self_eq_true, sel_true, g21_p4]
    rw [m34e 0 (by omega)]
  · rw [et]; intro h; simp [Al.enter] at h
theorem m21_wrong (hA : A.Ok) (hp : A.prov ≤ 999999999) (hw : A.ph = 3 → w = A.elv) {a : Int} (h3 : a = 3) : MAct Y m A w a := by
  subst h3
  have et : A.act 3 = (A.wrong, 0) := rfl
  by_cases p3 : A.ph = 3
  · have b3 : (A.ph == 3) = true := by simp [p3]
    obtain ⟨q1, q2, q3⟩ := hA.er p3
    have hwe := hw p3
    have hlim : A.elim ≤ 1048576 := by rw [q3]; have := hA.few; have := hA.fewer; split <;> omega
    have w1 : IntKind.wrap .i64 (w + 1) = w + 1 := w64 (by omega)
    have hpr := hA.prov
    by_cases c1 : A.elv + 1 = A.elim
    · by_cases c2 : A.prov < A.most
      · have b2 : decide (A.prov < A.most) = true := by simpa using c2
        have ew : A.wrong = A.enter 3 := by unfold Al.wrong; rw [if_pos p3, if_pos c1, if_pos c2]
        refine ⟨0, fun R K => ?_, fun _ => by rw [et, ew]; simp [Al.enter]⟩
        rw [et, ew]; m21p
        simp only [show decide ((3 : Int) < 2) = false from rfl, show ((3 : Int) == 2) = false from rfl, sel_false, beq_self_eq_true, sel_true, b3, g21_p6, Option.bind_some, Nat.zero_add, mL12, w1, mS12, mL10, mL5, mL4, mL11, mL6, b2, m35 (A := A) (w := w + 1) ⟨by omega, hp⟩]
        cases hu : A.urg with
        | true =>
          rw [hu] at q3; simp only [if_true] at q3
          have : (w + 1 == A.fewer) = true := by simp; omega
          simp only [this, sel_true]
        | false =>
          rw [hu] at q3; simp only [Bool.false_eq_true, if_false] at q3
          have : (w + 1 == A.few) = true := by simp; omega
          simp only [this, sel_true, sel_false, Bool.not_false]
      · have b2 : decide (A.prov < A.most) = false := by simpa using c2
        have ew : A.wrong = A.enter 5 := by unfold Al.wrong; rw [if_pos p3, if_pos c1, if_neg c2]
        refine ⟨w + 1, fun R K => ?_, fun h => by rw [et, ew] at h; simp [Al.enter] at h⟩
        rw [et, ew]; m21p
        simp only [show decide ((3 : Int) < 2) = false from rfl, show ((3 : Int) == 2) = false from rfl, sel_false, beq_self_eq_true, sel_true, b3, g21_p6, Option.bind_some, Nat.zero_add, mL12, w1, mS12, mL10, mL5, mL4, mL11, mL6, b2, m34e (A := A) (w := w + 1) 5 (by omega)]
        cases hu : A.urg with
        | true =>
          rw [hu] at q3; simp only [if_true] at q3
          have : (w + 1 == A.fewer) = true := by simp; omega
          simp only [this, sel_true]
        | false =>
          rw [hu] at q3; simp only [Bool.false_eq_true, if_false] at q3
          have : (w + 1 == A.few) = true := by simp; omega
          simp only [this, sel_true, sel_false, Bool.not_false]
    · have ew : A.wrong = { A with elv := A.elv + 1 } := by unfold Al.wrong; rw [if_pos p3, if_neg c1]
      refine ⟨w + 1, fun R K => ?_, fun h => by rw [et, ew, hwe]⟩
      rw [et, ew]
      show _ = K 0 (Y.put m (A.M (w + 1)))
      m21p
      simp only [show decide ((3 : Int) < 2) = false from rfl, show ((3 : Int) == 2) = false from rfl, sel_false, beq_self_eq_true, sel_true, b3, g21_p6, Option.bind_some, Nat.zero_add, mL12, w1, mS12, mL10, mL5, mL4, mL11, mL6]
      cases hu : A.urg with
      | true =>
        rw [hu] at q3; simp only [if_true] at q3
        have : (w + 1 == A.fewer) = false := by simp; omega
        simp only [this, sel_true, sel_false, Bool.not_true]
      | false =>
        rw [hu] at q3; simp only [Bool.false_eq_true, if_false] at q3
        have : (w + 1 == A.few) = false := by simp; omega
        simp only [this, sel_true, sel_false, Bool.not_false]
  · have b3 : (A.ph == 3) = false := by simp [p3]
    have ew : A.wrong = A := by unfold Al.wrong; rw [if_neg p3]
    refine ⟨w, fun R K => ?_, fun h => by rw [et, ew] at h; exact absurd h p3⟩
    rw [et, ew]; m21p
    simp only [show decide ((3 : Int) < 2) = false from rfl, show ((3 : Int) == 2) = false from rfl, show ((3 : Int) == 4) = false from rfl, show decide ((3 : Int) < 8) = true from rfl, sel_false, beq_self_eq_true, sel_true, b3, g21_p10]
theorem m21_tick (hA : A.Ok) (hw : A.ph = 3 → w = A.elv) {a : Int} (h4 : a = 4) : MAct Y m A w a := by
  subst h4
  have et : A.act 4 = (A.tick, 0) := rfl
  have hl := hA.left
  by_cases h0 : A.left = 0
  · have ew : A.tick = A := by unfold Al.tick; rw [if_pos h0]
    refine ⟨w, fun R K => ?_, fun h => by rw [et, ew] at h ⊢; exact hw h⟩
    rw [et, ew]; m21p
    simp only [show decide ((4 : Int) < 2) = false from rfl, show ((4 : Int) == 2) = false from rfl, show ((4 : Int) == 3) = false from rfl, show decide ((4 : Int) < 8) = true from rfl, sel_false, beq_self_eq_true, sel_true, g21_p10, Option.bind_some, Nat.zero_add, mL8, h0, show decide ((0 : Int) > 0) = false from rfl]
  · have b0 : decide (A.left > 0) = true := by simp; omega
    have w1 : IntKind.wrap .i64 (A.left - 1) = A.left - 1 := w64 (by omega)
    by_cases h1 : A.left - 1 > 0
    · have ew : A.tick = { A with left := A.left - 1 } := by unfold Al.tick; rw [if_neg h0, if_pos h1]
      have b1 : (A.left - 1 == 0) = false := by simp; omega
      refine ⟨w, fun R K => ?_, fun h => by rw [et, ew] at h ⊢; exact hw h⟩
      rw [et, ew]; m21p
      simp only [show decide ((4 : Int) < 2) = false from rfl, show ((4 : Int) == 2) = false from rfl, show ((4 : Int) == 3) = false from rfl, sel_false, beq_self_eq_true, sel_true, Option.bind_some, Nat.zero_add, mL8, b0, g21_p8, w1, mS8, b1]
    · have ew : A.tick = { A with left := A.left - 1 }.enter (if A.ph = 3 then 4 else 5) := by unfold Al.tick; rw [if_neg h0, if_neg h1]
      have b1 : (A.left - 1 == 0) = true := by simp; omega
      refine ⟨w, fun R K => ?_, fun h => by rw [et, ew] at h; split at h <;> simp [Al.enter] at h⟩
      rw [et, ew]; m21p
      simp only [show decide ((4 : Int) < 2) = false from rfl, show ((4 : Int) == 2) = false from rfl, show ((4 : Int) == 3) = false from rfl, sel_false, beq_self_eq_true, sel_true, Option.bind_some, Nat.zero_add, mL8, b0, g21_p8, w1, mS8, b1]
      by_cases p3 : A.ph = 3
      · have b3 : (A.ph == 3) = true := by simp [p3]
        rw [if_pos p3]; simp only [b3, sel_true]; rw [m34e 4 (by omega)]
      · have b3 : (A.ph == 3) = false := by simp [p3]
        rw [if_neg p3]; simp only [b3, sel_false]; rw [m34e 5 (by omega)]
theorem m21_hear (hA : A.Ok) (hp : A.prov ≤ 999999999) (hw : A.ph = 3 → w = A.elv) {a : Int} (h8 : 8 ≤ a ∧ a ≤ 255) : MAct Y m A w a := by
  have et : A.act a = A.hear (a - 8) := by unfold Al.act; rw [if_neg (by omega), if_neg (by omega), if_neg (by omega), if_neg (by omega)]
  have w8 : IntKind.wrap .u8 (a - 8) = a - 8 := w8u (by omega)
  have c2 : decide (a < 2) = false := by simp; omega
  have c3 : (a == 2) = false := by simp; omega
  have c4 : (a == 3) = false := by simp; omega
  have c5 : (a == 4) = false := by simp; omega
  have c8 : decide (a < 8) = false := by simp; omega
  have hpr := hA.prov
  unfold MAct
  rw [et]
  have hpre : ∀ (R : Type) (K : Int → Heap → Option R), g21 R (some (m, 0)) a (Y.put m (A.M w)) K = sel (decide (a - 8 > 5)) (K 1 (Y.put m (A.M w))) (g21_p19 g34 g35 g36 R (some (m, 0)) (a - 8) A.ph (A.urg || a - 8 == 2) (decide (a - 8 > 5)) (Y.put m (A.M w)) (fun H => K 0 H)) := by
    intro R K; m21p
    simp only [w8, c2, c3, c4, c5, c8, sel_false, g21_p12]
  have hs0 : 0 ≤ a - 8 := by omega
  generalize a - 8 = s at *
  by_cases h5 : s > 5
  · have b5 : decide (s > 5) = true := by simpa using h5
    have e : A.hear s = (A, 1) := by unfold Al.hear; rw [if_pos h5]
    rw [e]
    exact ⟨w, fun R K => by rw [hpre, b5, sel_true], hw⟩
  have b5 : decide (s > 5) = false := by simpa using h5
  have hpre2 : ∀ (R : Type) (K : Int → Heap → Option R), g21 R (some (m, 0)) a (Y.put m (A.M w)) K = g21_p19 g34 g35 g36 R (some (m, 0)) s A.ph (A.urg || s == 2) false (Y.put m (A.M w)) (fun H => K 0 H) := fun R K => by rw [hpre, b5, sel_false]
  by_cases p1 : A.ph = 1
  · have q1 : (A.ph == 1) = true := by simp [p1]
    by_cases h2 : s ≤ 2
    · have b2 : decide (s ≤ 2) = true := by simpa using h2
      have e : A.hear s = ({ A with urg := A.urg || s == 2 }.enter 2, 0) := by unfold Al.hear; rw [if_neg h5, if_pos p1, if_pos h2]
      rw [e]
      refine ⟨w, fun R K => ?_, fun h => by simp [Al.enter] at h⟩
      rw [hpre2]; simp only [g21_p19, g21_p18, g21_p14, g21_p13, q1, sel_true, b2, Option.bind_some, Nat.zero_add, mS10, m36]
    · have b2 : decide (s ≤ 2) = false := by simpa using h2
      have e : A.hear s = (A, 0) := by unfold Al.hear; rw [if_neg h5, if_pos p1, if_neg h2]
      rw [e]
      refine ⟨w, fun R K => ?_, hw⟩
      rw [hpre2]; simp only [g21_p19, g21_p18, g21_p17, g21_p16, g21_p15, g21_p14, g21_p13, q1, sel_true, b2, sel_false, p1, beq_self_eq_true, show ((1 : Int) == 2) = false from rfl, show ((1 : Int) == 3) = false from rfl]
  have q1 : (A.ph == 1) = false := by simp [p1]
  by_cases p2 : A.ph = 2
  · have e : A.hear s = (A.hearA s, 0) := by unfold Al.hear; rw [if_neg h5, if_neg p1, if_pos p2]
    rw [e]
    by_cases z0 : s = 0
    · have e2 : A.hearA s = A := by unfold Al.hearA; rw [if_pos z0]
      rw [e2]
      refine ⟨w, fun R K => ?_, hw⟩
      rw [hpre2, z0]; simp only [g21_p19, g21_p18, g21_p17, g21_p16, g21_p15, g21_p14, g21_p13, q1, sel_false, p2, show ((2 : Int) == 1) = false from rfl, show ((2 : Int) == 3) = false from rfl, beq_self_eq_true, sel_true, show ((0 : Int) == 3) = false from rfl, bne_self_eq_false]
    · have d0 : (s != 0) = true := by simp [z0]
      by_cases z3 : s = 3
      · have e2 : A.hearA s = A.enter 5 := by unfold Al.hearA; rw [if_neg z0, if_pos z3]
        rw [e2]
        refine ⟨w, fun R K => ?_, fun h => by simp [Al.enter] at h⟩
        rw [hpre2, z3]; simp only [g21_p19, g21_p18, g21_p17, g21_p16, g21_p15, g21_p14, g21_p13, q1, sel_false, p2, show ((2 : Int) == 1) = false from rfl, show ((2 : Int) == 3) = false from rfl, beq_self_eq_true, sel_true]
        rw [m34e 5 (by omega)]
      · have d3 : (s == 3) = false := by simp [z3]
        have e2 : A.hearA s = { A with urg := A.urg || s == 2 }.enter 3 := by unfold Al.hearA; rw [if_neg z0, if_neg z3]
        rw [e2]
        refine ⟨0, fun R K => ?_, fun h => by simp [Al.enter]⟩
        have q2' : (A.ph == 2) = true := by simp [p2]
        rw [hpre2]; simp only [g21_p19, g21_p18, g21_p17, g21_p16, g21_p15, g21_p14, g21_p13, q1, sel_false, q2', sel_true, d3, d0, Option.bind_some, Nat.zero_add, mS10]
        rw [m35 (A := { A with urg := A.urg || s == 2 }) ⟨by dsimp only; omega, hp⟩]
  have q2 : (A.ph == 2) = false := by simp [p2]
  by_cases p3 : A.ph = 3
  · have e : A.hear s = (A.hearP s, 0) := by unfold Al.hear; rw [if_neg h5, if_neg p1, if_neg p2, if_pos p3]
    rw [e]
    by_cases z0 : s = 0
    · have e2 : A.hearP s = A.enter 2 := by unfold Al.hearP; rw [if_pos z0]
      rw [e2]
      refine ⟨w, fun R K => ?_, fun h => by simp [Al.enter] at h⟩
      rw [hpre2, z0]; simp only [g21_p19, g21_p18, g21_p17, g21_p16, g21_p15, g21_p14, g21_p13, q1, sel_false, p3, show ((3 : Int) == 1) = false from rfl, show ((3 : Int) == 2) = false from rfl, beq_self_eq_true, sel_true, show ((0 : Int) == 3) = false from rfl, m36]
    · have d0 : (s == 0) = false := by simp [z0]
      by_cases z3 : s = 3
      · have e2 : A.hearP s = A.enter 5 := by unfold Al.hearP; rw [if_neg z0, if_pos z3]
        rw [e2]
        refine ⟨w, fun R K => ?_, fun h => by simp [Al.enter] at h⟩
        rw [hpre2, z3]; simp only [g21_p19, g21_p18, g21_p17, g21_p16, g21_p15, g21_p14, g21_p13, q1, q2, sel_false, p3, show ((3 : Int) == 1) = false from rfl, show ((3 : Int) == 2) = false from rfl, beq_self_eq_true, sel_true]
        rw [m34e 5 (by omega)]
      · have d3 : (s == 3) = false := by simp [z3]
        by_cases z2 : s = 2 ∧ A.urg = false
        · have e2 : A.hearP s = { A with urg := true }.enter 3 := by unfold Al.hearP; rw [if_neg z0, if_neg z3, if_pos z2]
          rw [e2]
          have d2 : (s == 2) = true := by simp [z2.1]
          refine ⟨0, fun R K => ?_, fun h => by simp [Al.enter]⟩
          have q3' : (A.ph == 3) = true := by simp [p3]
          rw [hpre2]; simp only [g21_p19, g21_p18, g21_p17, g21_p16, g21_p15, g21_p14, g21_p13, q1, q2, q3', sel_false, sel_true, d3, d0, d2, Option.bind_some, Nat.zero_add, mL10, z2.2, Bool.not_false, mS10]
          rw [m35 (A := { A with urg := true }) ⟨by dsimp only; omega, hp⟩]
        · have e2 : A.hearP s = A := by unfold Al.hearP; rw [if_neg z0, if_neg z3, if_neg z2]
          rw [e2]
          refine ⟨w, fun R K => ?_, hw⟩
          rw [hpre2]; simp only [g21_p19, g21_p18, g21_p17, g21_p16, g21_p15, g21_p14, g21_p13, q1, q2, sel_false, p3, show ((3 : Int) == 1) = false from rfl, show ((3 : Int) == 2) = false from rfl, beq_self_eq_true, sel_true, d3, d0, Option.bind_some, Nat.zero_add, mL10]
          by_cases z22 : s = 2
          · have hu : A.urg = true := by rcases (by cases A.urg <;> simp : A.urg = true ∨ A.urg = false) with hu | hu; exact hu; exact absurd ⟨z22, hu⟩ z2
            simp [z22, hu]
          · have : (s == 2) = false := by simp [z22]
            simp only [this, sel_false]
  have q3 : (A.ph == 3) = false := by simp [p3]
  have e : A.hear s = (A, 0) := by unfold Al.hear; rw [if_neg h5, if_neg p1, if_neg p2, if_neg p3]
  rw [e]
  refine ⟨w, fun R K => ?_, hw⟩
  rw [hpre2]; simp only [g21_p19, g21_p18, g21_p17, g21_p16, g21_p15, g21_p14, g21_p13, q1, q2, q3, sel_false]
theorem m21_act (hA : A.Ok) (hp : A.prov ≤ 999999999) (hw : A.ph = 3 → w = A.elv) {a : Int} (ha : 0 ≤ a ∧ a ≤ 255) (h4 : a ≤ 4 ∨ 8 ≤ a) : MAct Y m A w a := by
  by_cases h : a < 2
  · exact m21_start hw h
  by_cases h2 : a = 2
  · exact m21_stop h2
  by_cases h3 : a = 3
  · exact m21_wrong hA hp hw h3
  by_cases h5 : a = 4
  · exact m21_tick hA hw h5
  · exact m21_hear hA hp hw (by omega)
end
end Go.Proofs.Ytkldpkemnmmbgaa
