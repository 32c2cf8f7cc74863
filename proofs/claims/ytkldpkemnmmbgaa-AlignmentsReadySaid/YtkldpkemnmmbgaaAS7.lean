/- AlignmentsErrors. -/
import Derived.Test.YtkldpkemnmmbgaaAS6
namespace Go.Proofs.Ytkldpkemnmmbgaa
open Go AM Go.RowKit
set_option linter.unusedVariables false
set_option linter.unusedSimpArgs false

section
variable {R : Type} {X : Heap} {p : Option (Nat × Nat)}
/-- a pointer that is nil, or points to the zero alignment -/
def NoAl (X : Heap) (p : Option (Nat × Nat)) : Prop := ∀ (R : Type) (K : Bool → Heap → Option R), g28 R p X K = K true X
theorem noAl_nil (X : Heap) : NoAl X none := fun R K => by simp only [g28, g28_r, g28_p0, Option.isNone_none, sel_true]
def Al.zero : Al := ⟨0, 0, 0, 0, 0, 0, 0, 0, 0, false, false, 0, 0, 0⟩
theorem noAl_zero {F : Nat → Prop} {x : Nat} (h : AlS X F x Al.zero) : NoAl X (some (x, 0)) := fun R K => by
  obtain ⟨l0, l1, l2, l3, l4, l5, l6, _⟩ := h.ld
  simp only [g28, g28_r, g28_p0, Option.isNone_some, sel_false, Option.bind_some, Nat.zero_add, l0, l1, l2, l3, l4, l5, l6, Al.zero, beq_self_eq_true, Bool.and_self]
theorem n20 (h : NoAl X p) (a : Int) (K : Int → Heap → Option R) : g20 R p a X K = K 2 X := by
  simp only [g20, g20_r, g20_p0, g11, g11_r, g11_p0, g24, g24_r, g24_p0, g19, g19_r, g19_p0, g12, g12_r, g12_p0, g17, g17_r, g17_p0, h R, sel_true]
  cases decide (a < 2) <;> cases a == 2 <;> cases a == 3 <;> cases decide (a < 8) <;> rfl
theorem n13 (K : Int → Heap → Option R) : g13 R none X K = K 0 X := rfl
theorem n15 (K : Int → Heap → Option R) : g15 R none X K = K 0 X := rfl
theorem n18 (K : Int → Heap → Option R) : g18 R none X K = K 0 X := rfl
theorem n22 (K : Int → Heap → Option R) : g22 R none X K = K 9 X := rfl
end
theorem hear_code (A : Al) (s : Int) : (A.hear s).2 = if s > 5 then 1 else 0 := by
  unfold Al.hear
  split
  · rename_i h; rfl
  · split
    · split <;> rfl
    · split
      · rfl
      · split <;> rfl
theorem zero_loop {x : Nat} {X : Heap} (h : NoAl X (some (x, 0))) :
    tlim (g8_p7_b g10 g17 g20 g13 g22 g15 g18 g16) (none, x, 0, 0) X = some (.inl (none, x, 0), X) := by
  obtain ⟨r, X', e, rfl, rfl⟩ := tlim_inv (b := g8_p7_b g10 g17 g20 g13 g22 g15 g18 g16)
    (fun st G => G = X ∧ ∃ i : Nat, st = (none, x, 0, (i : Int)) ∧ i ≤ 12) (fun st => 12 - st.2.2.2.toNat)
    (fun r G => r = .inl (none, x, 0) ∧ G = X) (by
      rintro st G ⟨rfl, i, rfl, hi⟩
      by_cases hil : i < 12
      · left
        have hd : decide ((i : Int) < 12) = true := by simp; omega
        have w1 : IntKind.wrap .u8 ((i : Int) + 1) = ((i + 1 : Nat) : Int) := by rw [w8u (by omega)]; rfl
        refine ⟨_, G, ?_, ⟨rfl, i + 1, rfl, by omega⟩, by dsimp only; omega⟩
        simp only [g8_p7_b, g8_p6, hd, sel_true, n20 (noAl_nil G), n20 h, bne_self_eq_false, sel_false, w1]
      · right
        have hd : decide ((i : Int) < 12) = false := by simp; omega
        exact ⟨_, G, by simp only [g8_p7_b, g8_p6, hd, sel_false], rfl, rfl⟩) (none, x, 0, 0) X ⟨rfl, 0, rfl, by omega⟩
  exact e
theorem want_loop {y z : Nat} {t1 : Int} {l : List Int} {X : Heap} {e : TypeId} {ro : Bool} {c : Cap} (hl : l.length ≤ 1000) (h : X.get z = some (.cells (l.map (V.i .i64)) e ro)) :
    tlim (g8_p2_b g10 g17 g20 g13 g22 g15 g18 g16) (t1, y, 0, ⟨some (z, 0), l.length, c⟩, 0, 0) X = some ((t1, y, 0, if l.all okA then 0 else 1), X) := by
  obtain ⟨r, X', e, rfl, rfl⟩ := tlim_inv (b := g8_p2_b g10 g17 g20 g13 g22 g15 g18 g16)
    (fun st G => G = X ∧ ∃ i : Nat, st = (t1, y, 0, ⟨some (z, 0), l.length, c⟩, if (l.take i).all okA then 0 else 1, (i : Int)) ∧ i ≤ l.length) (fun st => l.length - st.2.2.2.2.2.toNat)
    (fun r G => r = (t1, y, 0, if l.all okA then 0 else 1) ∧ G = X) (by
      rintro st G ⟨rfl, i, rfl, hi⟩
      by_cases hil : i < l.length
      · left
        have hd : decide ((i : Int) < ((l.length : Nat) : Int)) = true := by simp; omega
        have w1 : IntKind.wrap .i64 ((i : Int) + 1) = ((i + 1 : Nat) : Int) := by rw [w64 (by omega)]; rfl
        have hld : G.ldI .i64 z (0 + (i : Int).toNat * 1) = some l[i] := ldI_of h (by simp [hil])
        have hs : (l.take (i + 1)).all okA = ((l.take i).all okA && okA l[i]) := by rw [List.take_succ_eq_append_getElem hil, List.all_append]; simp
        refine ⟨(t1, y, 0, ⟨some (z, 0), l.length, c⟩, if (l.take (i + 1)).all okA then 0 else 1, ((i + 1 : Nat) : Int)), G, ?_, ⟨rfl, i + 1, rfl, by omega⟩, by dsimp only; omega⟩
        simp only [g8_p2_b, g8_p1, hd, sel_true]
        rw [if_pos (by omega)]
        simp only [Option.bind_some, hld, w1]
        by_cases h1 : l[i] < 1
        · have b1 : decide (l[i] < 1) = true := by simpa using h1
          have : okA l[i] = false := by unfold okA; simp; omega
          simp only [b1, sel_true, hs, this, Bool.and_false]; rfl
        · have b1 : decide (l[i] < 1) = false := by simpa using h1
          simp only [b1, sel_false]
          rw [if_pos (by omega)]
          by_cases h2 : l[i] > 1048576
          · have b2 : decide (l[i] > 1048576) = true := by simpa using h2
            have : okA l[i] = false := by unfold okA; simp; omega
            simp only [b2, sel_true, hs, this, Bool.and_false]; rfl
          · have b2 : decide (l[i] > 1048576) = false := by simpa using h2
            have : okA l[i] = true := by unfold okA; simp; omega
            simp only [b2, sel_false, hs, this, Bool.and_true]
      · right
        have hd : decide ((i : Int) < ((l.length : Nat) : Int)) = false := by simp; omega
        have : l.take i = l := List.take_of_length_le (by omega)
        exact ⟨_, G, by simp only [g8_p2_b, g8_p1, hd, sel_false, this], rfl, rfl⟩) (t1, y, 0, ⟨some (z, 0), l.length, c⟩, 0, 0) X ⟨rfl, 0, rfl, by omega⟩
  exact e
theorem errors_tail {X : Heap} (hw : X.Wf) {b : Bool} (hb : b = false) :
    g8_p11 g10 g17 g20 g13 g22 g15 g18 g16 Bool b X (fun r _ => some r) = some true := by
  subst hb
  have hz : AlS (X.new (.cells (Al.zero.cells .nilI) 58 false)) (fun _ => False) X.next Al.zero := ⟨hw.new _, fun i hi => hi.elim, fun h => h, .nilI, Heap.gnew _ _, rfl, fun h => by simp [Al.zero] at h⟩
  have e1 : X.new (.cells [(V.i .i64 (0 : Int)), (V.i .i64 (0 : Int)), (V.i .i64 (0 : Int)), (V.i .i64 (0 : Int)), (V.i .i64 (0 : Int)), (V.i .i64 (0 : Int)), (V.i .i64 (0 : Int)), (V.i .u8 (0 : Int)), (V.i .i64 (0 : Int)), (V.b false), (V.b false), (V.i .i64 (0 : Int)), V.nilI] 58 false) = X.new (.cells (Al.zero.cells .nilI) 58 false) := rfl
  simp only [g8_p11, g8_p10, g8_p9, g8_p8, g8_p7, g8_p5, sel_false, alo, e1]
  rw [zero_loop (noAl_zero hz)]
  have q1 : Al.zero.ph = 0 := rfl
  have q2 : Al.zero.sends = 9 := rfl
  have q3 : Al.zero.prov = 0 := rfl
  have q4 : Al.zero.left = 0 := rfl
  have w0 : ∀ k, IntKind.wrap k (0 + 0) = 0 := fun k => by cases k <;> rfl
  simp only [Option.bind_some, cas, n13, n15, n18, n22, a_phase hz, a_prov hz, a_left hz, s22 hz, q1, q2, q3, q4, w0, beq_self_eq_true, sel_true, lv]
theorem errors_true (H : Heap) (hw : H.Wf) (A : Al) (hA : A.ph = 0 ∧ A.left = 0 ∧ A.own = false ∧ A.urg = false ∧ A.prov = 0) {s : Int} :
    g8 Bool A.seek A.hold A.norm A.emer A.few A.fewer A.most s H (fun r _ => some r) = some true := by
  have g1 := Heap.gnew H (.cells [.i .i64 A.seek, .i .i64 A.hold, .i .i64 A.norm, .i .i64 A.emer, .i .i64 A.few, .i .i64 A.fewer, .i .i64 A.most] 28 false)
  have hw1 := hw.new (.cells [.i .i64 A.seek, .i .i64 A.hold, .i .i64 A.norm, .i .i64 A.emer, .i .i64 A.few, .i .i64 A.fewer, .i .i64 A.most] 28 false)
  have hn1 : (H.new (.cells [.i .i64 A.seek, .i .i64 A.hold, .i .i64 A.norm, .i .i64 A.emer, .i .i64 A.few, .i .i64 A.fewer, .i .i64 A.most] 28 false)).next = H.next + 1 := rfl
  simp only [g8, g8_r, g8_p14, g8_p0, alo]
  generalize H.new (.cells [.i .i64 A.seek, .i .i64 A.hold, .i .i64 A.norm, .i .i64 A.emer, .i .i64 A.few, .i .i64 A.fewer, .i .i64 A.most] 28 false) = G at *
  have g2 := Heap.gnew G (.cells [.i .i64 A.seek, .i .i64 A.hold, .i .i64 A.norm, .i .i64 A.emer, .i .i64 A.few, .i .i64 A.fewer, .i .i64 A.most] 3 false)
  have hw2 := hw1.new (.cells [.i .i64 A.seek, .i .i64 A.hold, .i .i64 A.norm, .i .i64 A.emer, .i .i64 A.few, .i .i64 A.fewer, .i .i64 A.most] 3 false)
  have g1' : (G.new (.cells [.i .i64 A.seek, .i .i64 A.hold, .i .i64 A.norm, .i .i64 A.emer, .i .i64 A.few, .i .i64 A.fewer, .i .i64 A.most] 3 false)).get H.next = some (.cells [.i .i64 A.seek, .i .i64 A.hold, .i .i64 A.norm, .i .i64 A.emer, .i .i64 A.few, .i .i64 A.fewer, .i .i64 A.most] 28 false) := by
    rw [Heap.get_new, if_neg (by omega)]; exact g1
  simp only [Nat.zero_add, ldI_of (off := 0) g1 rfl, ldI_of (off := 1) g1 rfl, ldI_of (off := 2) g1 rfl, ldI_of (off := 3) g1 rfl, ldI_of (off := 4) g1 rfl, ldI_of (off := 5) g1 rfl, ldI_of (off := 6) g1 rfl, Option.bind_some]
  generalize G.new (.cells [.i .i64 A.seek, .i .i64 A.hold, .i .i64 A.norm, .i .i64 A.emer, .i .i64 A.few, .i .i64 A.fewer, .i .i64 A.most] 3 false) = Y at *
  have hl := want_loop (y := H.next) (t1 := s) (l := [A.seek, A.hold, A.norm, A.emer, A.few, A.fewer, A.most]) (c := .ex 7) (X := Y) (z := G.next) (by simp) g2
  simp only [List.length_cons, List.length_nil, Nat.zero_add, Nat.reduceAdd] at hl
  simp only [g8_p13, g8_p3, g8_p2, hl, Option.bind_some, g8_p12, g8_p4, Nat.zero_add, ldI_of (off := 0) g1' rfl, ldI_of (off := 1) g1' rfl, ldI_of (off := 2) g1' rfl, ldI_of (off := 3) g1' rfl, ldI_of (off := 4) g1' rfl, ldI_of (off := 5) g1' rfl, ldI_of (off := 6) g1' rfl]
  have h10 := s10 (F := fun _ => False) hw2 (fun i hi => hi.elim) A hA
  by_cases hok : [A.seek, A.hold, A.norm, A.emer, A.few, A.fewer, A.most].all okA = true
  · rw [if_pos hok] at h10
    obtain ⟨x, Z, e10, a10, _, _⟩ := h10
    have hO : ∀ n ∈ [A.seek, A.hold, A.norm, A.emer, A.few, A.fewer, A.most], 1 ≤ n ∧ n ≤ 1048576 := fun n hn => by
      have := List.all_eq_true.1 hok n hn; unfold okA at this; simpa using this
    have hAok : A.Ok := ⟨⟨hO _ (by simp), hO _ (by simp), hO _ (by simp), hO _ (by simp), hO _ (by simp), hO _ (by simp), hO _ (by simp), by omega, by omega⟩, by omega, fun h => by omega⟩
    obtain ⟨V, t1, t2, t3, t4⟩ := a_hear a10 hAok (by omega) s
    simp only [e10, hok, if_true, bne_self_eq_false, sel_false, Option.isNone_some, Bool.not_false, beq_self_eq_true, Bool.not_true, sel_true, t1, hear_code]
    by_cases h5 : s > 5
    · have b5 : decide (s > 5) = true := by simpa using h5
      simp only [b5, sel_true, if_pos h5, bne_self_eq_false]
      exact errors_tail t2.wf rfl
    · have b5 : decide (s > 5) = false := by simpa using h5
      simp only [b5, sel_false, if_neg h5, bne_self_eq_false]
      exact errors_tail t2.wf rfl
  · rw [if_neg hok] at h10
    obtain ⟨Z, e10, a10, _⟩ := h10
    have hf : [A.seek, A.hold, A.norm, A.emer, A.few, A.fewer, A.most].all okA = false := by simpa using hok
    simp only [e10, hf, Bool.false_eq_true, if_false, bne_self_eq_false, sel_false, Option.isNone_none, Bool.not_true]
    have : ((!(false == ((1 : Int) == 0)))) = false := rfl
    simp only [this, sel_false]
    cases decide (s > 5)
    · simp only [sel_false]; exact errors_tail a10 rfl
    · simp only [sel_true]; exact errors_tail a10 rfl
theorem alignmentsErrors_true (H : Heap) (hw : H.Wf) (a b c d e f g s : Int) (h1 : (Lit.int .i64 a).wf = true) (h2 : (Lit.int .i64 b).wf = true) (h3 : (Lit.int .i64 c).wf = true) (h4 : (Lit.int .i64 d).wf = true) (h5 : (Lit.int .i64 e).wf = true) (h6 : (Lit.int .i64 f).wf = true) (h7 : (Lit.int .i64 g).wf = true)
    (h8 : (Lit.int .u8 s).wf = true) : g8 Bool a b c d e f g s H (fun r _ => some r) = some true :=
  errors_true H hw ⟨a, b, c, d, e, f, g, 0, 0, false, false, 0, 0, 0⟩ ⟨rfl, rfl, rfl, rfl, rfl⟩
end Go.Proofs.Ytkldpkemnmmbgaa

