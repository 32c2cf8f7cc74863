/- AlignmentsReady. -/
import Derived.Test.YtkldpkemnmmbgaaAS11
namespace Go.Proofs.Ytkldpkemnmmbgaa
open Go AM Go.RowKit
set_option linter.unusedVariables false
set_option linter.unusedSimpArgs false

/-- an alignment's times with a hold of two ticks and more -/
def Tm.alR (t : Tm) : Al := { t.al with hold := if 2 > t.al.hold then 2 else t.al.hold }
abbrev Tm.oR (t : Tm) : O := .cells [.i .i64 t.alR.seek, .i .i64 t.alR.hold, .i .i64 t.alR.norm, .i .i64 t.alR.emer, .i .i64 t.alR.few, .i .i64 t.alR.fewer, .i .i64 t.alR.most] 28 false
theorem Tm.alR_tok {t : Tm} (ht : t.Ok) : t.alR.TOk := by
  obtain ⟨⟨h1, h2, h3, h4, h5, h6, h7, h8, h9⟩, _⟩ := Tm.al_ok ht
  refine ⟨h1, ?_, h3, h4, h5, h6, h7, h8, h9⟩
  show 1 ≤ (if 2 > t.al.hold then (2 : Int) else t.al.hold) ∧ (if 2 > t.al.hold then (2 : Int) else t.al.hold) ≤ 1048576
  split <;> omega
/-- started, and some ticks on -/
def Tm.go (t : Tm) (u : Bool) (l : Int) : Al := { t.alR with own := u, urg := u, prov := 0, ph := 1, left := l }
theorem Tm.go_ok {t : Tm} (ht : t.Ok) {u : Bool} {l : Int} (hl : 0 ≤ l ∧ l ≤ 1048576) : (t.go u l).Ok := by
  obtain ⟨h1, h2, h3, h4, h5, h6, h7, h8, h9⟩ := Tm.alR_tok ht
  exact ⟨⟨h1, h2, h3, h4, h5, h6, h7, hl, by show (0 : Int) ≤ 0 ∧ (0 : Int) ≤ 1000000000; omega⟩, by show (0 : Int) ≤ 1 ∧ (1 : Int) ≤ 5; omega, fun e => by have : (1 : Int) = 3 := e; omega⟩
theorem Tm.alR_ok {t : Tm} (ht : t.Ok) : t.alR.Ok := ⟨Tm.alR_tok ht, by show (0 : Int) ≤ 0 ∧ (0 : Int) ≤ 5; omega, fun e => by have : (0 : Int) = 3 := e; omega⟩
theorem go_start {t : Tm} {u : Bool} : t.alR.start u = (t.go u t.al.seek, 0) := by
  unfold Al.start
  rw [if_neg (by rintro ⟨h, _⟩; exact h rfl)]
  rfl
theorem go_tick {t : Tm} {u : Bool} {l : Int} (h : 2 ≤ l) : (t.go u l).tick = t.go u (l - 1) := by
  unfold Al.tick
  rw [if_neg (by show ¬ l = 0; omega), if_pos (by show l - 1 > 0; omega)]
  rfl
theorem go_I1 {t : Tm} {u : Bool} {l : Int} (h : 1 ≤ l) : I1 (t.go u l) := by
  refine ⟨rfl, h, rfl, ?_, rfl⟩
  show 2 ≤ if 2 > t.al.hold then (2 : Int) else t.al.hold
  split <;> omega
/-- rounds done -/
def Ph (u : Bool) (n : Nat) (A : Al) : Prop := if n = 0 then I1 A else if n = 1 then I2 u A else I3 u n A
theorem ph0 {u : Bool} {A : Al} : Ph u 0 A ↔ I1 A := by unfold Ph; rw [if_pos rfl]
theorem ph1 {u : Bool} {A : Al} : Ph u 1 A ↔ I2 u A := by unfold Ph; rw [if_neg (by omega), if_pos rfl]
theorem ph2 {u : Bool} {n : Nat} {A : Al} : Ph u (n + 2) A ↔ I3 u ((n + 2 : Nat) : Int) A := by unfold Ph; rw [if_neg (by omega), if_neg (by omega)]
theorem ph_round {A B : Al} (hA : A.Ok) (hB : B.Ok) {u : Bool} (hu : u = (A.own || B.own)) {n : Nat} (ha : Ph u n A) (hb : Ph u n B) :
    Ph u (n + 1) (exA A B) ∧ Ph u (n + 1) (exB A B) ∧ Tms A (exA A B) ∧ Tms B (exB A B) ∧ (A.from B).prov ≤ 1000 ∧ (B.from (A.from B)).prov ≤ 1000 ∧ A.prov ≤ 999 ∧ B.prov ≤ 999 := by
  match n with
  | 0 =>
    have ha := ph0.1 ha
    have hb := ph0.1 hb
    subst hu
    obtain ⟨q1, q2, q3, q4, q5, q6⟩ := round1 ha hb
    have := ha.prov; have := hb.prov
    exact ⟨ph1.2 q1, ph1.2 q2, q3, q4, q5, q6, by omega, by omega⟩
  | 1 =>
    have ha := ph1.1 ha
    have hb := ph1.1 hb
    subst hu
    obtain ⟨q1, q2, q3, q4, q5, q6⟩ := round2 hA hB ha hb
    have := ha.prov; have := hb.prov
    exact ⟨(ph2 (n := 0)).2 q1, (ph2 (n := 0)).2 q2, q3, q4, q5, q6, by omega, by omega⟩
  | n + 2 =>
    have ha := ph2.1 ha
    have hb := ph2.1 hb
    obtain ⟨q1, q2, q3, q4, q5, q6⟩ := round3 ha hb
    have := ha.prov; have := hb.prov
    exact ⟨(ph2 (n := n + 1)).2 (by rw [show ((n + 1 + 2 : Nat) : Int) = ((n + 2 : Nat) : Int) + 1 by omega]; exact q1), (ph2 (n := n + 1)).2 (by rw [show ((n + 1 + 2 : Nat) : Int) = ((n + 2 : Nat) : Int) + 1 by omega]; exact q2), q3, q4, q5, q6, by omega, by omega⟩
theorem ph_check {A : Al} {u : Bool} {n : Nat} (h : Ph u (n + 1) A) (hd : 1 ≤ A.dur u) : (A.ph == 4) = decide (((n + 1 : Nat) : Int) ≥ A.dur u + 1) := by
  unfold Ph at h
  rw [if_neg (by omega)] at h
  by_cases h1 : n = 0
  · subst h1
    rw [if_pos rfl] at h
    rw [h.ph]
    have : decide (((0 + 1 : Nat) : Int) ≥ A.dur u + 1) = false := by simp; omega
    rw [this]; rfl
  · rw [if_neg (by omega)] at h
    by_cases hk : ((n + 1 : Nat) : Int) < A.dur u + 1
    · rw [(h.run hk).1]
      have : decide (((n + 1 : Nat) : Int) ≥ A.dur u + 1) = false := by simpa using hk
      rw [this]; rfl
    · rw [(h.done (by omega)).1]
      have : decide (((n + 1 : Nat) : Int) ≥ A.dur u + 1) = true := by simpa using by omega
      rw [this]; rfl
theorem dur_pos {A : Al} (h : A.Ok) (u : Bool) : 1 ≤ A.dur u ∧ A.dur u ≤ 1048576 := by
  have h1 := h.norm; have h2 := h.emer
  unfold Al.dur; split <;> omega
theorem Tms.dur {A B : Al} (h : Tms A B) (u : Bool) : B.dur u = A.dur u := by unfold Al.dur; rw [h.norm, h.emer]

abbrev oT (t t' : Tm) : O := .cells [.i .u8 t.a, .i .u8 t.b, .i .u8 t.c, .i .u8 t.d, .i .u8 t.e, .i .u8 t.f, .i .u8 t.g, .i .u8 t'.a, .i .u8 t'.b, .i .u8 t'.c, .i .u8 t'.d, .i .u8 t'.e, .i .u8 t'.f, .i .u8 t'.g] 24 false
abbrev oU (u u' : Bool) : O := .cells [.b u, .b u'] 25 false
abbrev oZ (z z' : Int) : O := .cells [.i .u8 z, .i .u8 z'] 26 false
/-- what the law has laid before its first tick -/
structure Laid (X : Heap) (F : Nat → Prop) (p : Nat) (t t' : Tm) (u u' : Bool) (z z' : Int) : Prop where
  f : ∀ i, i < p + 5 → F i
  u : X.get (p + 1) = some (oU u u')
  z : X.get (p + 2) = some (oZ z z')
  a : X.get (p + 3) = some t.oR
  b : X.get (p + 4) = some t'.oR
theorem Laid.keep {X X' : Heap} {F : Nat → Prop} {p : Nat} {t t' : Tm} {u u' : Bool} {z z' : Int} (h : Laid X F p t t' u u' z z') (k : Keep F X X') : Laid X' F p t t' u u' z z' :=
  ⟨h.f, (k _ (h.f _ (by omega))).trans h.u, (k _ (h.f _ (by omega))).trans h.z, (k _ (h.f _ (by omega))).trans h.a, (k _ (h.f _ (by omega))).trans h.b⟩
section
variable {F : Nat → Prop} {p x y : Nat} {t t' : Tm} {u u' : Bool} {z z' : Int}
theorem ready_early (ht : t.Ok) (hz : 0 ≤ z ∧ z ≤ 255) {B : Al} {X : Heap} (h : Al2 X F x (t.go u t.al.seek) y B) (hl : Laid X F p t t' u u' z z') :
    ∃ l X', tlim (g3_p3_b g9 g10 g11 g12 g13 g14 g15 g16) (p + 1, 0, p + 2, 0, p + 3, 0, p + 4, 0, some (x, 0), some (y, 0), 0) X = some ((p + 1, 0, p + 2, 0, p + 3, 0, p + 4, 0, some (x, 0), some (y, 0)), X') ∧ 1 ≤ l ∧ l ≤ 12 ∧ Al2 X' F x (t.go u l) y B ∧ Laid X' F p t t' u u' z z' := by
  have hsk := Tm.seek ht
  obtain ⟨r, X', e, ⟨l, rfl, h1⟩⟩ := tlim_inv (b := g3_p3_b g9 g10 g11 g12 g13 g14 g15 g16)
    (fun st G => ∃ (i : Nat), st = (p + 1, 0, p + 2, 0, p + 3, 0, p + 4, 0, some (x, 0), some (y, 0), (i : Int)) ∧ (i : Int) ≤ z % t.al.seek ∧ Al2 G F x (t.go u (t.al.seek - i)) y B ∧ Laid G F p t t' u u' z z') (fun st => 13 - st.2.2.2.2.2.2.2.2.2.2.toNat)
    (fun r G => ∃ l : Int, r = (p + 1, 0, p + 2, 0, p + 3, 0, p + 4, 0, some (x, 0), some (y, 0)) ∧ 1 ≤ l ∧ l ≤ 12 ∧ Al2 G F x (t.go u l) y B ∧ Laid G F p t t' u u' z z') (by
      rintro st G ⟨i, rfl, hi, hG, hL⟩
      have l0 : G.ldI .u8 (p + 2) 0 = some z := ldI_of hL.z rfl
      have l1 : G.ldI .i64 (p + 3) 0 = some t.al.seek := ldI_of hL.a rfl
      have hmod := Int.emod_lt_of_pos z (show 0 < t.al.seek by omega)
      have hmod0 := Int.emod_nonneg z (show t.al.seek ≠ 0 by omega)
      have hne : ¬ t.al.seek = 0 := by omega
      have hw : IntKind.wrap .i64 z = z := w64 (by omega)
      by_cases hil : (i : Int) < z % t.al.seek
      · left
        obtain ⟨Y, s1, t1, k1, o1⟩ := two_tick hG (Tm.go_ok ht (by omega)) (by show (0 : Int) ≤ 999999999; omega)
        rw [go_tick (by omega)] at t1
        have hd : decide ((i : Int) < z % t.al.seek) = true := by simpa using hil
        have w1 : IntKind.wrap .i64 ((i : Int) + 1) = ((i + 1 : Nat) : Int) := by rw [w64 (by omega)]; rfl
        refine ⟨_, Y, ?_, ⟨i + 1, rfl, by omega, by rw [show t.al.seek - ((i + 1 : Nat) : Int) = t.al.seek - i - 1 by omega]; exact t1, hL.keep k1⟩, by dsimp only; omega⟩
        simp only [g3_p3_b, g3_p2, Nat.zero_add, l0, l1, Option.bind_some, if_neg hne, tmodI hz.1, hw, hd, sel_true, s1, w1]
      · right
        have hd : decide ((i : Int) < z % t.al.seek) = false := by simpa using hil
        refine ⟨_, G, ?_, ⟨t.al.seek - i, rfl, by omega, by omega, hG, hL⟩⟩
        simp only [g3_p3_b, g3_p2, Nat.zero_add, l0, l1, Option.bind_some, if_neg hne, tmodI hz.1, hw, hd, sel_false]) _ X ⟨0, rfl, by have := Int.emod_nonneg z (show t.al.seek ≠ 0 by omega); simpa using this, by simpa using h, hl⟩
  exact ⟨l, X', e, h1⟩
theorem ready_loop (hz : 0 ≤ z' ∧ z' ≤ 255) {A0 B0 : Al} {X : Heap} (hA : A0.Ok) (hB : B0.Ok) (h : Al2 X F x A0 y B0) (ha : I1 A0) (hb : I1 B0) (hl : Laid X F p t t' u u' z z') :
    ∃ A B X', tlim (g3_p7_b g9 g10 g11 g12 g13 g14 g15 g16) (p + 2, 0, some (x, 0), some (y, 0), A0.dur (A0.own || B0.own) + 1, B0.dur (A0.own || B0.own) + 1, 1) X = some (.inl (some (x, 0), some (y, 0)), X') ∧ Al2 X' F x A y B ∧ A.prov = 1 ∧ B.prov = 1 := by
  obtain ⟨w, hw⟩ : ∃ w, w = (A0.own || B0.own) := ⟨_, rfl⟩
  rw [← hw]
  have dA := dur_pos hA w
  have dB := dur_pos hB w
  obtain ⟨r, X', e, ⟨A, B, rfl, h1⟩⟩ := tlim_inv (b := g3_p7_b g9 g10 g11 g12 g13 g14 g15 g16)
    (fun st G => ∃ (n : Nat) (A B : Al), st = (p + 2, 0, some (x, 0), some (y, 0), A0.dur w + 1, B0.dur w + 1, ((n + 1 : Nat) : Int)) ∧ n ≤ 14 ∧ Al2 G F x A y B ∧ A.Ok ∧ B.Ok ∧ Tms A0 A ∧ Tms B0 B ∧ Ph w n A ∧ Ph w n B ∧ Laid G F p t t' u u' z z') (fun st => 15 - st.2.2.2.2.2.2.toNat)
    (fun r G => ∃ A B, r = .inl (some (x, 0), some (y, 0)) ∧ Al2 G F x A y B ∧ A.prov = 1 ∧ B.prov = 1) (by
      rintro st G ⟨n, A, B, rfl, hn, hG, oA, oB, tA, tB, pA, pB, hL⟩
      have l0 : G.ldI .u8 (p + 2) 1 = some z' := ldI_of hL.z rfl
      by_cases hil : n < 14
      · left
        have hu : w = (A.own || B.own) := by rw [hw, tA.own, tB.own]
        have hd : decide (((n + 1 : Nat) : Int) ≤ 14) = true := by simp; omega
        have w1 : IntKind.wrap .i64 (((n + 1 : Nat) : Int) + 1) = ((n + 1 + 1 : Nat) : Int) := by rw [w64 (by omega)]; rfl
        by_cases hev : z' % 2 = 0
        · obtain ⟨q1, q2, q3, q4, q5, q6, q7, q8⟩ := ph_round oA oB hu pA pB
          obtain ⟨Y, s1, t1, k1, o1, o2⟩ := two_exchange hG oA oB q7 q8 q5 q6
          have cA := ph_check q1 (dur_pos o1 w).1
          have cB := ph_check q2 (dur_pos o2 w).1
          rw [(tA.trans q3).dur] at cA
          rw [(tB.trans q4).dur] at cB
          have b2 : (z' % 2 == 0) = true := by simp [hev]
          refine ⟨_, Y, ?_, ⟨n + 1, exA A B, exB A B, rfl, by omega, t1, o1, o2, tA.trans q3, tB.trans q4, q1, q2, hL.keep k1⟩, by dsimp only; omega⟩
          simp only [g3_p7_b, g3_p6, Nat.zero_add, hd, sel_true, l0, Option.bind_some, tmodI hz.1, b2, s1, a_phase t1.hx, a_phase t1.hy, cA, cB, beq_self_eq_true, Bool.not_true, sel_false, w1]
        · obtain ⟨q1, q2, q3, q4, q5, q6, q7, q8⟩ := ph_round oB oA (hu.trans (Bool.or_comm _ _)) pB pA
          obtain ⟨Y, s1, t1, k1, o1, o2⟩ := two_exchange hG.symm oB oA q7 q8 q5 q6
          have cA := ph_check q2 (dur_pos o2 w).1
          have cB := ph_check q1 (dur_pos o1 w).1
          rw [(tA.trans q4).dur] at cA
          rw [(tB.trans q3).dur] at cB
          have b2 : (z' % 2 == 0) = false := by simp [hev]
          refine ⟨_, Y, ?_, ⟨n + 1, exB B A, exA B A, rfl, by omega, t1.symm, o2, o1, tA.trans q4, tB.trans q3, q2, q1, hL.keep k1⟩, by dsimp only; omega⟩
          simp only [g3_p7_b, g3_p6, Nat.zero_add, hd, sel_true, l0, Option.bind_some, tmodI hz.1, b2, s1, a_phase t1.hx, a_phase t1.hy, cA, cB, beq_self_eq_true, Bool.not_true, sel_false, w1]
      · right
        have hd : decide (((n + 1 : Nat) : Int) ≤ 14) = false := by simp; omega
        have e14 : n = 14 := by omega
        subst e14
        have i1 : I3 w 14 A := by simpa [Ph] using pA
        have i2 : I3 w 14 B := by simpa [Ph] using pB
        exact ⟨_, G, by simp only [g3_p7_b, g3_p6, hd, sel_false], ⟨A, B, rfl, hG, i1.prov, i2.prov⟩⟩) _ X ⟨0, A0, B0, rfl, by omega, h, hA, hB, .refl _, .refl _, by simpa [Ph] using ha, by simpa [Ph] using hb, hl⟩
  exact ⟨A, B, X', e, h1⟩
end
theorem oR_ld {Z : Heap} {y : Nat} {t : Tm} (h : Z.get y = some t.oR) : Z.ldI .i64 y 0 = some t.alR.seek ∧ Z.ldI .i64 y 1 = some t.alR.hold ∧ Z.ldI .i64 y 2 = some t.alR.norm ∧ Z.ldI .i64 y 3 = some t.alR.emer ∧ Z.ldI .i64 y 4 = some t.alR.few ∧ Z.ldI .i64 y 5 = some t.alR.fewer ∧ Z.ldI .i64 y 6 = some t.alR.most :=
  ⟨ldI_of h rfl, ldI_of h rfl, ldI_of h rfl, ldI_of h rfl, ldI_of h rfl, ldI_of h rfl, ldI_of h rfl⟩
theorem oT_ld {Z : Heap} {y : Nat} {t t' : Tm} (h : Z.get y = some (oT t t')) : (Z.ldI .u8 y 0 = some t.a ∧ Z.ldI .u8 y 1 = some t.b ∧ Z.ldI .u8 y 2 = some t.c ∧ Z.ldI .u8 y 3 = some t.d ∧ Z.ldI .u8 y 4 = some t.e ∧ Z.ldI .u8 y 5 = some t.f ∧ Z.ldI .u8 y 6 = some t.g) ∧
    Z.ldI .u8 y 7 = some t'.a ∧ Z.ldI .u8 y (7 + 1) = some t'.b ∧ Z.ldI .u8 y (7 + 2) = some t'.c ∧ Z.ldI .u8 y (7 + 3) = some t'.d ∧ Z.ldI .u8 y (7 + 4) = some t'.e ∧ Z.ldI .u8 y (7 + 5) = some t'.f ∧ Z.ldI .u8 y (7 + 6) = some t'.g :=
  ⟨⟨ldI_of h rfl, ldI_of h rfl, ldI_of h rfl, ldI_of h rfl, ldI_of h rfl, ldI_of h rfl, ldI_of h rfl⟩, ldI_of h rfl, ldI_of h rfl, ldI_of h rfl, ldI_of h rfl, ldI_of h rfl, ldI_of h rfl, ldI_of h rfl⟩
theorem same_agg7 {a b c d e f g : Int} : V.same (.agg [.i .u8 a, .i .u8 b, .i .u8 c, .i .u8 d, .i .u8 e, .i .u8 f, .i .u8 g]) (.agg [.i .u8 a, .i .u8 b, .i .u8 c, .i .u8 d, .i .u8 e, .i .u8 f, .i .u8 g]) = true := by
  simp [V.same, sames, V.same1]
theorem ready_true (H : Heap) (hw : H.Wf) {t t' : Tm} (ht : t.Ok) (ht' : t'.Ok) (u u' : Bool) {z z' : Int} (hz : 0 ≤ z ∧ z ≤ 255) (hz' : 0 ≤ z' ∧ z' ≤ 255) :
    g3 Bool t.a t.b t.c t.d t.e t.f t.g t'.a t'.b t'.c t'.d t'.e t'.f t'.g u u' z z' H (fun r _ => some r) = some true := by
  -- the variables
  have hw5 := ((((hw.new (oT t t')).new (oU u u')).new (oZ z z')).new Tm.z).new Tm.z
  have hn5 : (((((H.new (oT t t')).new (oU u u')).new (oZ z z')).new Tm.z).new Tm.z).next = H.next + 5 := rfl
  have q0 : (((((H.new (oT t t')).new (oU u u')).new (oZ z z')).new Tm.z).new Tm.z).get H.next = some (oT t t') := by simp only [Heap.get_new, Heap.next_new]; repeat (first | rw [if_pos trivial] | rw [if_pos (by omega)] | rw [if_neg (by omega)])
  have q1 : (((((H.new (oT t t')).new (oU u u')).new (oZ z z')).new Tm.z).new Tm.z).get (H.next + 1) = some (oU u u') := by simp only [Heap.get_new, Heap.next_new]; repeat (first | rw [if_pos trivial] | rw [if_pos (by omega)] | rw [if_neg (by omega)])
  have q2 : (((((H.new (oT t t')).new (oU u u')).new (oZ z z')).new Tm.z).new Tm.z).get (H.next + 2) = some (oZ z z') := by simp only [Heap.get_new, Heap.next_new]; repeat (first | rw [if_pos trivial] | rw [if_pos (by omega)] | rw [if_neg (by omega)])
  have q3 : (((((H.new (oT t t')).new (oU u u')).new (oZ z z')).new Tm.z).new Tm.z).get (H.next + 3) = some Tm.z := by simp only [Heap.get_new, Heap.next_new]; repeat (first | rw [if_pos trivial] | rw [if_pos (by omega)] | rw [if_neg (by omega)])
  have q4 : (((((H.new (oT t t')).new (oU u u')).new (oZ z z')).new Tm.z).new Tm.z).get (H.next + 4) = some Tm.z := by simp only [Heap.get_new, Heap.next_new]; repeat (first | rw [if_pos trivial] | rw [if_pos (by omega)] | rw [if_neg (by omega)])
  simp only [g3, g3_r, g3_p14, g3_p0, alo]
  simp only [Heap.next_new, Nat.zero_add, Nat.add_zero, Nat.add_assoc, Nat.reduceAdd]
  generalize ((((H.new (oT t t')).new (oU u u')).new (oZ z z')).new Tm.z).new Tm.z = X0 at *
  obtain ⟨⟨a0, a1, a2, a3, a4, a5, a6⟩, b0, b1, b2, b3, b4, b5, b6⟩ := oT_ld q0
  obtain ⟨X1, e1, hw1, x1⟩ := s9 hw5 ht
  obtain ⟨X2, e2, hw2, x2⟩ := s9 hw1 ht'
  have q0' := x1.get hw5 q0
  obtain ⟨_, c0, c1, c2, c3, c4, c5, c6⟩ := oT_ld q0'
  have x12 : Ext X0 X2 := x1.trans x2
  simp only [Nat.reduceAdd] at b1 b2 b3 b4 b5 b6 c1 c2 c3 c4 c5 c6
  simp only [a0, a1, a2, a3, a4, a5, a6, b0, b1, b2, b3, b4, b5, b6, Option.bind_some, e1, c0, c1, c2, c3, c4, c5, c6, same_agg7, if_true, e2]
  have g1 := x12.get hw5 q1
  have g2 := x12.get hw5 q2
  have g3' := x12.get hw5 q3
  have g4 := x12.get hw5 q4
  have hn2 : H.next + 5 ≤ X2.next := by have := x12.next; omega
  -- the times are stored
  have st1 : X2.sts (H.next + 3) 0 [.i .i64 t.al.seek, .i .i64 t.al.hold, .i .i64 t.al.norm, .i .i64 t.al.emer, .i .i64 t.al.few, .i .i64 t.al.fewer, .i .i64 t.al.most] = some (X2.put (H.next + 3) t.o) := by rw [sts_of g3' (by simp) rfl]; rfl
  have g4' : (X2.put (H.next + 3) t.o).get (H.next + 4) = some Tm.z := by rw [Heap.get_put, if_neg (by omega)]; exact g4
  have st2 : (X2.put (H.next + 3) t.o).sts (H.next + 4) 0 [.i .i64 t'.al.seek, .i .i64 t'.al.hold, .i .i64 t'.al.norm, .i .i64 t'.al.emer, .i .i64 t'.al.few, .i .i64 t'.al.fewer, .i .i64 t'.al.most] = some ((X2.put (H.next + 3) t.o).put (H.next + 4) t'.o) := by rw [sts_of g4' (by simp) rfl]; rfl
  have hw3 : ((X2.put (H.next + 3) t.o).put (H.next + 4) t'.o).Wf := (hw2.put g3' _).put g4' _
  have r1 : ((X2.put (H.next + 3) t.o).put (H.next + 4) t'.o).get (H.next + 1) = some (oU u u') := by rw [Heap.get_put, if_neg (by omega), Heap.get_put, if_neg (by omega)]; exact g1
  have r2 : ((X2.put (H.next + 3) t.o).put (H.next + 4) t'.o).get (H.next + 2) = some (oZ z z') := by rw [Heap.get_put, if_neg (by omega), Heap.get_put, if_neg (by omega)]; exact g2
  have r3 : ((X2.put (H.next + 3) t.o).put (H.next + 4) t'.o).get (H.next + 3) = some t.o := by rw [Heap.get_put, if_neg (by omega), Heap.get_put, if_pos rfl]
  have r4 : ((X2.put (H.next + 3) t.o).put (H.next + 4) t'.o).get (H.next + 4) = some t'.o := Heap.gput _ _ _
  have hn3 : ((X2.put (H.next + 3) t.o).put (H.next + 4) t'.o).next = X2.next := rfl
  simp only [st1, st2, Option.bind_some]
  generalize (X2.put (H.next + 3) t.o).put (H.next + 4) t'.o = X3 at *
  have l1 : X3.ldI .i64 (H.next + 3) 1 = some t.al.hold := ldI_of r3 rfl
  have st3 : X3.st (H.next + 3) 1 (.i .i64 (if 2 > t.al.hold then 2 else t.al.hold)) = some (X3.put (H.next + 3) t.oR) := by rw [st_of r3 (by simp) rfl]; rfl
  have r4' : (X3.put (H.next + 3) t.oR).get (H.next + 4) = some t'.o := by rw [Heap.get_put, if_neg (by omega)]; exact r4
  have l2 : (X3.put (H.next + 3) t.oR).ldI .i64 (H.next + 4) 1 = some t'.al.hold := ldI_of r4' rfl
  have st4 : (X3.put (H.next + 3) t.oR).st (H.next + 4) 1 (.i .i64 (if 2 > t'.al.hold then 2 else t'.al.hold)) = some ((X3.put (H.next + 3) t.oR).put (H.next + 4) t'.oR) := by rw [st_of r4' (by simp) rfl]; rfl
  have hw4 : ((X3.put (H.next + 3) t.oR).put (H.next + 4) t'.oR).Wf := (hw3.put r3 _).put r4' _
  have s1 : ((X3.put (H.next + 3) t.oR).put (H.next + 4) t'.oR).get (H.next + 1) = some (oU u u') := by rw [Heap.get_put, if_neg (by omega), Heap.get_put, if_neg (by omega)]; exact r1
  have s2 : ((X3.put (H.next + 3) t.oR).put (H.next + 4) t'.oR).get (H.next + 2) = some (oZ z z') := by rw [Heap.get_put, if_neg (by omega), Heap.get_put, if_neg (by omega)]; exact r2
  have s3 : ((X3.put (H.next + 3) t.oR).put (H.next + 4) t'.oR).get (H.next + 3) = some t.oR := by rw [Heap.get_put, if_neg (by omega), Heap.get_put, if_pos rfl]
  have s4 : ((X3.put (H.next + 3) t.oR).put (H.next + 4) t'.oR).get (H.next + 4) = some t'.oR := Heap.gput _ _ _
  have hn4 : ((X3.put (H.next + 3) t.oR).put (H.next + 4) t'.oR).next = X2.next := hn3
  simp only [l1, st3, l2, st4, Option.bind_some]
  generalize (X3.put (H.next + 3) t.oR).put (H.next + 4) t'.oR = U at *
  obtain ⟨o0, o1, o2, o3, o4, o5, o6⟩ := oR_ld s3
  simp only [o0, o1, o2, o3, o4, o5, o6, Option.bind_some]
  -- the first one
  have n1 := s10 hw4 (F := fun i => i < U.next) (fun i hi => hi) t.alR ⟨rfl, rfl, rfl, rfl, rfl⟩
  rw [if_pos (al_all (Tm.alR_tok ht))] at n1
  obtain ⟨x, W1, m1, hA, k1, hx1⟩ := n1
  have s4' := k1.get hw4 s4
  obtain ⟨p0, p1, p2, p3, p4, p5, p6⟩ := oR_ld s4'
  simp only [m1, p0, p1, p2, p3, p4, p5, p6, Option.bind_some]
  have n2 := s10 hA.wf (F := fun i => i < W1.next) (fun i hi => hi) t'.alR ⟨rfl, rfl, rfl, rfl, rfl⟩
  rw [if_pos (al_all (Tm.alR_tok ht'))] at n2
  obtain ⟨y, W2, m2, hB, k2, hx2⟩ := n2
  have hxl := hA.lt
  obtain ⟨ev1, ge1, on1, _⟩ := hA.obj
  have ge1' := k2.get hA.wf ge1
  have nox : ∀ i, ¬ ownN W2 x i := fun i h => by
    have : W2.ldI .u8 x 7 = some 0 := ldI_of ge1' rfl
    rw [h.1] at this; cases this
  have noy : ∀ i, ¬ ownN W2 y i := fun i h => by
    obtain ⟨ev2, ge2, _⟩ := hB.obj
    have : W2.ldI .u8 y 7 = some 0 := ldI_of ge2 rfl
    rw [h.1] at this; cases this
  have two : Al2 W2 (fun i => i < U.next) x t.alR y t'.alR := by
    refine ⟨⟨hB.wf, fun i hi => ?_, fun hi => ?_, ev1, ge1', on1, fun e => by have : (0 : Int) = 3 := e; omega⟩, ⟨hB.wf, fun i hi => ?_, fun hi => ?_, ?_⟩⟩
    · rcases hi with hi | rfl | hi
      · have := k1.next; have := k2.next; omega
      · exact hB.lt
      · exact absurd hi (noy i)
    · rcases hi with hi | rfl | hi
      · omega
      · omega
      · exact noy _ hi
    · rcases hi with hi | rfl | hi
      · have := k1.next; have := k2.next; omega
      · have := k2.next; omega
      · exact absurd hi (nox i)
    · rcases hi with hi | rfl | hi
      · have := k1.next; omega
      · omega
      · exact nox _ hi
    · obtain ⟨ev2, ge2, on2, _⟩ := hB.obj
      exact ⟨ev2, ge2, on2, fun e => by have : (0 : Int) = 3 := e; omega⟩
  have k12 : Ext U W2 := k1.trans k2
  have laid : Laid W2 (fun i => i < U.next) H.next t t' u u' z z' := ⟨fun i hi => by omega, k12.get hw4 s1, k12.get hw4 s2, k12.get hw4 s3, k12.get hw4 s4⟩
  have lu : W2.ldB (H.next + 1) 0 = some u := ldB_of laid.u rfl
  obtain ⟨W3, m3, two3, k3, ok3⟩ := two_start two (Tm.alR_ok ht) u
  rw [go_start] at m3 two3 ok3
  have laid3 := laid.keep k3
  simp only [m2, bne_self_eq_false, sel_false, Option.isNone_some, lu, Option.bind_some, m3, g3_p13, g3_p1, g3_p12, g3_p4, g3_p3]
  obtain ⟨l, W4, m4, hl1, hl2, two4, laid4⟩ := ready_early ht hz two3 laid3
  rw [m4]
  simp only [Option.bind_some, g3_p11, g3_p5, a_phase two4.hx]
  have lu4 : W4.ldB (H.next + 1) 1 = some u' := ldB_of laid4.u rfl
  obtain ⟨W5, m5, two5, k5, ok5⟩ := two_start two4.symm (Tm.alR_ok ht') u'
  rw [go_start] at m5 two5 ok5
  have laid5 := laid4.keep k5
  have eph : (t.go u l).ph = 1 := rfl
  obtain ⟨_, _, d2, d3, _⟩ := oR_ld laid5.a
  obtain ⟨_, _, d4, d5, _⟩ := oR_ld laid5.b
  have d6 : W5.ldB (H.next + 1) 0 = some u := ldB_of laid5.u rfl
  have d7 : W5.ldB (H.next + 1) 1 = some u' := ldB_of laid5.u rfl
  have hsk := Tm.seek ht'
  have okA := Tm.go_ok (u := u) ht (l := l) (by omega)
  have okB := Tm.go_ok (u := u') ht' (l := t'.al.seek) (by omega)
  have wd : ∀ (A : Al), A.Ok → ∀ n : Int, (n = A.norm ∨ n = A.emer) → IntKind.wrap .i64 (n + 1) = n + 1 := fun A h n hn => by
    have := h.norm; have := h.emer
    exact w64 (by omega)
  have w1 := wd _ okA t.alR.norm (.inl rfl)
  have w2 := wd _ okA t.alR.emer (.inr rfl)
  have w3 := wd _ okB t'.alR.norm (.inl rfl)
  have w4 := wd _ okB t'.alR.emer (.inr rfl)
  obtain ⟨A, B, W6, m6, two6, pA, pB⟩ := ready_loop hz' okA okB two5.symm (go_I1 hl1) (go_I1 hsk.1) laid5
  have fin : (g3_p10 g9 g10 g11 g12 g13 g14 g15 g16 Bool (H.next + 2) 0 (some (x, 0)) (some (y, 0)) ((t.go u l).dur (u || u') + 1) ((t'.go u' t'.al.seek).dur (u || u') + 1) 1 W5 fun t6 H => some t6) = some true := by
    have m6' : tlim (g3_p7_b g9 g10 g11 g12 g13 g14 g15 g16) (H.next + 2, 0, some (x, 0), some (y, 0), (t.go u l).dur (u || u') + 1, (t'.go u' t'.al.seek).dur (u || u') + 1, 1) W5 = some (.inl (some (x, 0), some (y, 0)), W6) := m6
    simp only [g3_p10, g3_p8, g3_p7, m6', Option.bind_some, cas, g3_p9, a_prov two6.hx, a_prov two6.hy, pA, pB, lv]
    rfl
  simp only [eph, bne_self_eq_false, sel_false, lu4, Option.bind_some, m5, d2, d3, d4, d5, d6, d7, w1, w2, w3, w4]
  cases u with
  | true => simpa [Al.dur, Tm.go] using fin
  | false =>
    cases u' with
    | true => simpa [Al.dur, Tm.go] using fin
    | false => simpa [Al.dur, Tm.go] using fin
theorem alignmentsReady_true (H : Heap) (hw : H.Wf) (a b c d e f g a' b' c' d' e' f' g' : Int) (u u' : Bool) (z z' : Int)
    (h1 : (Lit.int .u8 a).wf = true) (h2 : (Lit.int .u8 b).wf = true) (h3 : (Lit.int .u8 c).wf = true) (h4 : (Lit.int .u8 d).wf = true) (h5 : (Lit.int .u8 e).wf = true) (h6 : (Lit.int .u8 f).wf = true) (h7 : (Lit.int .u8 g).wf = true)
    (k1 : (Lit.int .u8 a').wf = true) (k2 : (Lit.int .u8 b').wf = true) (k3 : (Lit.int .u8 c').wf = true) (k4 : (Lit.int .u8 d').wf = true) (k5 : (Lit.int .u8 e').wf = true) (k6 : (Lit.int .u8 f').wf = true) (k7 : (Lit.int .u8 g').wf = true)
    (hz : (Lit.int .u8 z).wf = true) (hz' : (Lit.int .u8 z').wf = true) : g3 Bool a b c d e f g a' b' c' d' e' f' g' u u' z z' H (fun r _ => some r) = some true :=
  ready_true H hw (t := ⟨a, b, c, d, e, f, g⟩) (t' := ⟨a', b', c', d', e', f', g'⟩) ⟨wfU8 h1, wfU8 h2, wfU8 h3, wfU8 h4, wfU8 h5, wfU8 h6, wfU8 h7⟩ ⟨wfU8 k1, wfU8 k2, wfU8 k3, wfU8 k4, wfU8 k5, wfU8 k6, wfU8 k7⟩ u u' (wfU8 hz) (wfU8 hz')
end Go.Proofs.Ytkldpkemnmmbgaa

