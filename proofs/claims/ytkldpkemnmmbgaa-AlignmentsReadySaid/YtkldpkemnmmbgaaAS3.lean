/- An alignment hears, counts wrong units, and tells. -/
import Derived.Test.YtkldpkemnmmbgaaAS2
namespace Go.Proofs.Ytkldpkemnmmbgaa
open Go AM Go.RowKit
set_option linter.unusedVariables false
set_option linter.unusedSimpArgs false

section
variable {X : Heap} {F : Nat → Prop} {x : Nat} {A : Al}
def Al.hearA (A : Al) (s : Int) : Al := if s = 0 then A else if s = 3 then A.enter 5 else { A with urg := A.urg || s == 2 }.enter 3
def Al.hearP (A : Al) (s : Int) : Al := if s = 0 then A.enter 2 else if s = 3 then A.enter 5 else if s = 2 ∧ A.urg = false then { A with urg := true }.enter 3 else A
theorem urg_tok {A : Al} (ht : A.TOk) (b : Bool) : ({ A with urg := b } : Al).TOk := ⟨ht.seek, ht.hold, ht.norm, ht.emer, ht.few, ht.fewer, ht.most, ht.left, ht.prov⟩
theorem a_aligned (h : AlS X F x A) (ht : A.Ok) (hp : A.prov ≤ 999999999) (hph : A.ph = 2) (s : Int) : ∃ X', (∀ (R : Type) (K : Heap → Option R), g32 R (some (x, 0)) s X K = K X') ∧ AlS X' F x (A.hearA s) ∧ Keep F X X' ∧ (A.hearA s).Ok := by
  obtain ⟨_, _, _, _, _, _, _, _, _, _, l10, _⟩ := h.ld
  by_cases h0 : s = 0
  · refine ⟨X, fun R K => ?_, by simpa [Al.hearA, h0] using h, Keep.refl _ _, by simpa [Al.hearA, h0] using ht⟩
    simp [g32, g32_r, g32_p0, h0]
  have b0 : (s == 0) = false := by simp [h0]
  by_cases h3 : s = 3
  · obtain ⟨X1, s1, t1, k1⟩ := a_enter h ht.toTOk 5
    refine ⟨X1, fun R K => ?_, by simpa [Al.hearA, h3] using t1, k1, by simpa [Al.hearA, h3] using enter_ok ht.toTOk hp 5 (by omega)⟩
    simp [g32, g32_r, g32_p0, h3, s1]
  have b3 : (s == 3) = false := by simp [h3]
  obtain ⟨X1, s1, t1, k1⟩ := h.set (B := { A with urg := A.urg || s == 2 }) 10 (.b (A.urg || s == 2)) rfl (fun ev => rfl) (by omega) (fun e => by dsimp only at e; omega) ⟨rfl, rfl⟩
  obtain ⟨X2, s2, t2, k2⟩ := a_enter t1 (urg_tok ht.toTOk _) 3
  have et : A.hearA s = { A with urg := A.urg || s == 2 }.enter 3 := by unfold Al.hearA; rw [if_neg h0, if_neg h3]
  refine ⟨X2, fun R K => ?_, by rw [et]; exact t2, k1.trans k2, by rw [et]; exact enter_ok (urg_tok ht.toTOk (A.urg || s == 2)) hp 3 (by omega)⟩
  simp only [g32, g32_r, g32_p0, b0, b3, sel_false, Option.bind_some, Nat.zero_add, l10]
  rcases (by cases A.urg <;> simp : A.urg = true ∨ A.urg = false) with hu | hu
  · rw [hu, Bool.true_or] at s1
    simp [hu, s1, s2]
  · rw [hu, Bool.false_or] at s1
    simp [hu, s1, s2]
theorem a_proving (h : AlS X F x A) (ht : A.Ok) (hp : A.prov ≤ 999999999) (s : Int) : ∃ X', (∀ (R : Type) (K : Heap → Option R), g33 R (some (x, 0)) s X K = K X') ∧ AlS X' F x (A.hearP s) ∧ Keep F X X' ∧ (A.hearP s).Ok := by
  obtain ⟨_, _, _, _, _, _, _, _, _, _, l10, _⟩ := h.ld
  by_cases h0 : s = 0
  · obtain ⟨X1, s1, t1, k1⟩ := a_enter h ht.toTOk 2
    refine ⟨X1, fun R K => ?_, by simpa [Al.hearP, h0] using t1, k1, by simpa [Al.hearP, h0] using enter_ok ht.toTOk hp 2 (by omega)⟩
    simp [g33, g33_r, g33_p0, h0, s1]
  have b0 : (s == 0) = false := by simp [h0]
  by_cases h3 : s = 3
  · obtain ⟨X1, s1, t1, k1⟩ := a_enter h ht.toTOk 5
    refine ⟨X1, fun R K => ?_, by simpa [Al.hearP, h3] using t1, k1, by simpa [Al.hearP, h3] using enter_ok ht.toTOk hp 5 (by omega)⟩
    simp [g33, g33_r, g33_p0, h3, s1]
  have b3 : (s == 3) = false := by simp [h3]
  by_cases h2 : s = 2 ∧ A.urg = false
  · obtain ⟨X1, s1, t1, k1⟩ := h.set (B := { A with urg := true }) 10 (.b true) rfl (fun ev => rfl) (by omega) (fun e => e) ⟨rfl, rfl⟩
    obtain ⟨X2, s2, t2, k2⟩ := a_enter t1 (urg_tok ht.toTOk _) 3
    have et : A.hearP s = { A with urg := true }.enter 3 := by unfold Al.hearP; rw [if_neg h0, if_neg h3, if_pos h2]
    refine ⟨X2, fun R K => ?_, by rw [et]; exact t2, k1.trans k2, by rw [et]; exact enter_ok (urg_tok ht.toTOk true) hp 3 (by omega)⟩
    simp only [g33, g33_r, g33_p0, b0, b3, sel_false, Option.bind_some, Nat.zero_add, l10, h2.1, h2.2, beq_self_eq_true, sel_true, Bool.not_false, s1, s2]
    rfl
  · have et : A.hearP s = A := by unfold Al.hearP; rw [if_neg h0, if_neg h3, if_neg h2]
    refine ⟨X, fun R K => ?_, by rw [et]; exact h, Keep.refl _ _, by rw [et]; exact ht⟩
    simp only [g33, g33_r, g33_p0, b0, b3, sel_false, Option.bind_some, Nat.zero_add, l10]
    by_cases h22 : s = 2
    · have hu : A.urg = true := by rcases (by cases A.urg <;> simp : A.urg = true ∨ A.urg = false) with hu | hu; exact hu; exact absurd ⟨h22, hu⟩ h2
      simp [h22, hu]
    · have : (s == 2) = false := by simp [h22]
      simp [this]
def Al.hear (A : Al) (s : Int) : Al × Int :=
  if s > 5 then (A, 1) else
  if A.ph = 1 then (if s ≤ 2 then ({ A with urg := A.urg || s == 2 }.enter 2, 0) else (A, 0))
  else if A.ph = 2 then (A.hearA s, 0)
  else if A.ph = 3 then (A.hearP s, 0)
  else (A, 0)
theorem a_hear (h : AlS X F x A) (ht : A.Ok) (hp : A.prov ≤ 999999999) (s : Int) : ∃ X', (∀ (R : Type) (K : Int → Heap → Option R), g17 R (some (x, 0)) s X K = K (A.hear s).2 X') ∧ AlS X' F x (A.hear s).1 ∧ Keep F X X' ∧ (A.hear s).1.Ok := by
  have hn := fun (R : Type) K => a_none h ht.toTOk (R := R) K
  obtain ⟨_, _, _, _, _, _, _, l7, _, _, l10, _⟩ := h.ld
  by_cases h5 : s > 5
  · have b5 : decide (s > 5) = true := by simpa using h5
    refine ⟨X, fun R K => ?_, by simpa [Al.hear, h5] using h, Keep.refl _ _, by simpa [Al.hear, h5] using ht⟩
    simp only [g17, g17_r, g17_p0, hn, sel_false, b5, sel_true]
    simp [Al.hear, h5]
  have b5 : decide (s > 5) = false := by simpa using h5
  by_cases p1 : A.ph = 1
  · by_cases h2 : s ≤ 2
    · have b2 : decide (s ≤ 2) = true := by simpa using h2
      obtain ⟨X1, s1, t1, k1⟩ := h.set (B := { A with urg := A.urg || s == 2 }) 10 (.b (A.urg || s == 2)) rfl (fun ev => rfl) (by omega) (fun e => e) ⟨rfl, rfl⟩
      obtain ⟨X2, s2, t2, k2⟩ := a_enter t1 (urg_tok ht.toTOk _) 2
      have et : A.hear s = ({ A with urg := A.urg || s == 2 }.enter 2, 0) := by unfold Al.hear; rw [if_neg h5, if_pos p1, if_pos h2]
      refine ⟨X2, fun R K => ?_, by rw [et]; exact t2, k1.trans k2, by rw [et]; exact enter_ok (urg_tok ht.toTOk (A.urg || s == 2)) hp 2 (by omega)⟩
      rw [et]
      simp only [g17, g17_r, g17_p0, hn, sel_false, b5, Option.bind_some, Nat.zero_add, l7, p1, beq_self_eq_true, sel_true, b2, l10]
      rcases (by cases A.urg <;> simp : A.urg = true ∨ A.urg = false) with hu | hu
      · rw [hu, Bool.true_or] at s1
        simp [hu, s1, s2]
      · rw [hu, Bool.false_or] at s1
        simp [hu, s1, s2]
    · have b2 : decide (s ≤ 2) = false := by simpa using h2
      have et : A.hear s = (A, 0) := by unfold Al.hear; rw [if_neg h5, if_pos p1, if_neg h2]
      refine ⟨X, fun R K => ?_, by rw [et]; exact h, Keep.refl _ _, by rw [et]; exact ht⟩
      rw [et]
      simp only [g17, g17_r, g17_p0, hn, sel_false, b5, Option.bind_some, Nat.zero_add, l7, p1, beq_self_eq_true, sel_true, b2]
  have b1 : (A.ph == 1) = false := by simp [p1]
  by_cases p2 : A.ph = 2
  · obtain ⟨X1, s1, t1, k1, o1⟩ := a_aligned h ht hp p2 s
    have et : A.hear s = (A.hearA s, 0) := by unfold Al.hear; rw [if_neg h5, if_neg p1, if_pos p2]
    refine ⟨X1, fun R K => ?_, by rw [et]; exact t1, k1, by rw [et]; exact o1⟩
    rw [et]
    simp only [g17, g17_r, g17_p0, hn, sel_false, b5, Option.bind_some, Nat.zero_add, l7, b1]
    simp [p2, s1]
  have b2 : (A.ph == 2) = false := by simp [p2]
  by_cases p3 : A.ph = 3
  · obtain ⟨X1, s1, t1, k1, o1⟩ := a_proving h ht hp s
    have et : A.hear s = (A.hearP s, 0) := by unfold Al.hear; rw [if_neg h5, if_neg p1, if_neg p2, if_pos p3]
    refine ⟨X1, fun R K => ?_, by rw [et]; exact t1, k1, by rw [et]; exact o1⟩
    rw [et]
    simp only [g17, g17_r, g17_p0, hn, sel_false, b5, Option.bind_some, Nat.zero_add, l7, b1, b2]
    simp [p3, s1]
  have b3 : (A.ph == 3) = false := by simp [p3]
  have et : A.hear s = (A, 0) := by unfold Al.hear; rw [if_neg h5, if_neg p1, if_neg p2, if_neg p3]
  refine ⟨X, fun R K => ?_, by rw [et]; exact h, Keep.refl _ _, by rw [et]; exact ht⟩
  rw [et]
  simp only [g17, g17_r, g17_p0, hn, sel_false, b5, Option.bind_some, Nat.zero_add, l7, b1, b2, b3]
def Al.wrong (A : Al) : Al := if A.ph = 3 then (if A.elv + 1 = A.elim then (if A.prov < A.most then A.enter 3 else A.enter 5) else { A with elv := A.elv + 1 }) else A
theorem E19c : ∀ (R : Type) (args : List V) (H : Heap) (K : V → Heap → Option R), (E19 g28 g56 g58 g29).call 56 args H K = w56 g56 R args H K ∧ (E19 g28 g56 g58 g29).call 58 args H K = w58 g58 R args H K := by
  intro R args H K; simp [E19, FEnv.call]
theorem a_wrong (h : AlS X F x A) (ht : A.Ok) (hp : A.prov ≤ 999999999) : ∃ X', (∀ (R : Type) (K : Int → Heap → Option R), g19 R (some (x, 0)) X K = K 0 X') ∧ AlS X' F x A.wrong ∧ Keep F X X' ∧ A.wrong.Ok := by
  have hn := fun (R : Type) K => a_none h ht.toTOk (R := R) K
  obtain ⟨_, _, _, _, _, _, _, l7, _, _, _, _⟩ := h.ld
  by_cases p3 : A.ph = 3
  · obtain ⟨ev, g, h1, h2⟩ := h.obj
    obtain ⟨e, rfl, a2, a3, a4⟩ := h2 p3
    obtain ⟨q1, q2, q3⟩ := ht.er p3
    have hlim : A.elim ≤ 1048576 := by rw [q3]; have := ht.few; have := ht.fewer; split <;> omega
    have L12 : X.ld x 12 = some (.ifc 73 (.p (some (e, 0)))) := by rw [ld_of g]; rfl
    have g' : (X.put e (.cells [.i .i64 (A.elv + 1), .i .i64 A.elim] 77 false)).get x = some (.cells (A.cells (.ifc 73 (.p (some (e, 0))))) 58 false) := by rw [Heap.get_put, if_neg (Ne.symm a2)]; exact g
    have L12' : (X.put e (.cells [.i .i64 (A.elv + 1), .i .i64 A.elim] 77 false)).ld x 12 = some (.ifc 73 (.p (some (e, 0)))) := by rw [ld_of g']; rfl
    have g58' := Heap.gput X e (.cells [.i .i64 (A.elv + 1), .i .i64 A.elim] 77 false)
    have hput : AlS (X.put e (.cells [.i .i64 (A.elv + 1), .i .i64 A.elim] 77 false)) F x { A with elv := A.elv + 1 } :=
      ⟨h.wf.put a4 _, fun i hi => h.fin i hi, h.nx, _, g', rfl, fun _ => ⟨e, rfl, a2, a3, Heap.gput _ _ _⟩⟩
    have hkeep : Keep F X (X.put e (.cells [.i .i64 (A.elv + 1), .i .i64 A.elim] 77 false)) := fun i hi => by rw [Heap.get_put, if_neg (by rintro rfl; exact a3 hi)]
    have hpre : ∀ (R : Type) (K : Int → Heap → Option R), g19 R (some (x, 0)) X K = sel (!(A.elv + 1 == A.elim)) (K 0 (X.put e (.cells [.i .i64 (A.elv + 1), .i .i64 A.elim] 77 false)))
        (sel (decide (A.prov < A.most)) (g29 R (some (x, 0)) 3 (X.put e (.cells [.i .i64 (A.elv + 1), .i .i64 A.elim] 77 false)) fun h => K 0 h) (g29 R (some (x, 0)) 5 (X.put e (.cells [.i .i64 (A.elv + 1), .i .i64 A.elim] 77 false)) fun h => K 0 h)) := by
      intro R K
      obtain ⟨_, _, _, _, _, _, m6, _, _, _, _, m11⟩ := hput.ld
      simp only [g19, g19_r, g19_p0, hn, sel_false, Option.bind_some, Nat.zero_add, l7, p3, bne_self_eq_false, L12, V.one, if_true, invk, mv73c, (E19c R _ _ _).1, w56]
      rw [s56 a4 (by omega), exR0]
      simp only [L12', Option.bind_some, V.one, if_true, invk, mv73o, (E19c R _ _ _).2, w58]
      rw [s58 g58']
      simp only [V.asB, Option.bind_some, m6, m11]
    by_cases c1 : A.elv + 1 = A.elim
    · have b1 : (A.elv + 1 == A.elim) = true := by simp [c1]
      have htk : ({ A with elv := A.elv + 1 } : Al).TOk := ⟨ht.seek, ht.hold, ht.norm, ht.emer, ht.few, ht.fewer, ht.most, ht.left, ht.prov⟩
      by_cases c2 : A.prov < A.most
      · have b2 : decide (A.prov < A.most) = true := by simpa using c2
        obtain ⟨X2, s2, t2, k2⟩ := a_enter hput htk 3
        have et : A.wrong = { A with elv := A.elv + 1 }.enter 3 := by unfold Al.wrong; rw [if_pos p3, if_pos c1, if_pos c2]; rfl
        refine ⟨X2, fun R K => ?_, by rw [et]; exact t2, hkeep.trans k2, by rw [et]; exact enter_ok htk hp 3 (by omega)⟩
        rw [hpre, b1, b2]; simp only [Bool.not_true, sel_false, sel_true, s2]
      · have b2 : decide (A.prov < A.most) = false := by simpa using c2
        obtain ⟨X2, s2, t2, k2⟩ := a_enter hput htk 5
        have et : AlS X2 F x A.wrong := by
          have : A.wrong = A.enter 5 := by unfold Al.wrong; rw [if_pos p3, if_pos c1, if_neg c2]
          rw [this]
          obtain ⟨z1, z2, z3, ev, z4, z5, z6⟩ := t2
          exact ⟨z1, z2, z3, ev, z4, z5, fun e => by simp [Al.enter] at e⟩
        refine ⟨X2, fun R K => ?_, et, hkeep.trans k2, ?_⟩
        · rw [hpre, b1, b2]; simp only [Bool.not_true, sel_false, s2]
        · have : A.wrong = A.enter 5 := by unfold Al.wrong; rw [if_pos p3, if_pos c1, if_neg c2]
          rw [this]; exact enter_ok ht.toTOk hp 5 (by omega)
    · have b1 : (A.elv + 1 == A.elim) = false := by simp [c1]
      have et : A.wrong = { A with elv := A.elv + 1 } := by unfold Al.wrong; rw [if_pos p3, if_neg c1]
      refine ⟨_, fun R K => ?_, by rw [et]; exact hput, hkeep, by
        rw [et]; exact ⟨⟨ht.seek, ht.hold, ht.norm, ht.emer, ht.few, ht.fewer, ht.most, ht.left, ht.prov⟩, ht.ph, fun _ => ⟨by dsimp only; omega, by dsimp only; omega, q3⟩⟩⟩
      rw [hpre, b1]; rfl
  · have b3 : (A.ph != 3) = true := by simp [p3]
    have et : A.wrong = A := by unfold Al.wrong; rw [if_neg p3]
    refine ⟨X, fun R K => ?_, by rw [et]; exact h, Keep.refl _ _, by rw [et]; exact ht⟩
    simp only [g19, g19_r, g19_p0, hn, sel_false, Option.bind_some, Nat.zero_add, l7, b3, sel_true]
theorem a_phase (h : AlS X F x A) {R : Type} (K : Int → Heap → Option R) : g13 R (some (x, 0)) X K = K A.ph X := by
  obtain ⟨_, _, _, _, _, _, _, l7, _⟩ := h.ld
  simp only [g13, g13_r, g13_p0, Option.isNone_some, sel_false, Option.bind_some, Nat.zero_add, l7]
theorem a_prov (h : AlS X F x A) {R : Type} (K : Int → Heap → Option R) : g15 R (some (x, 0)) X K = K A.prov X := by
  obtain ⟨_, _, _, _, _, _, _, _, _, _, _, l11⟩ := h.ld
  simp only [g15, g15_r, g15_p0, Option.isNone_some, sel_false, Option.bind_some, Nat.zero_add, l11]
theorem a_left (h : AlS X F x A) {R : Type} (K : Int → Heap → Option R) : g18 R (some (x, 0)) X K = K A.left X := by
  obtain ⟨_, _, _, _, _, _, _, _, l8, _⟩ := h.ld
  simp only [g18, g18_r, g18_p0, Option.isNone_some, sel_false, Option.bind_some, Nat.zero_add, l8]
def Al.sends (A : Al) : Int := if A.ph = 1 then 0 else if A.ph = 2 ∨ A.ph = 3 then (if A.own then 2 else 1) else if A.ph = 5 then 3 else 9
end
end Go.Proofs.Ytkldpkemnmmbgaa

