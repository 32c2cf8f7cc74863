/- Two alignments over one heap. -/
import Derived.Test.YtkldpkemnmmbgaaAS7
namespace Go.Proofs.Ytkldpkemnmmbgaa
open Go AM Go.RowKit
set_option linter.unusedVariables false
set_option linter.unusedSimpArgs false

/-- the counter that an alignment at y holds while it proves -/
def ownN (X : Heap) (y i : Nat) : Prop := X.ldI .u8 y 7 = some 3 ∧ X.ld y 12 = some (.ifc 73 (.p (some (i, 0))))
theorem ownN_same {X X' : Heap} {y : Nat} (h : X'.get y = X.get y) : ownN X' y = ownN X y := by
  funext i; unfold ownN Heap.ldI Heap.ld; rw [h]
structure Al2 (X : Heap) (F : Nat → Prop) (x : Nat) (A : Al) (y : Nat) (B : Al) : Prop where
  hx : AlS X (fun i => F i ∨ i = y ∨ ownN X y i) x A
  hy : AlS X (fun i => F i ∨ i = x ∨ ownN X x i) y B
section
variable {X : Heap} {F : Nat → Prop} {x y : Nat} {A B : Al}
theorem Al2.symm (h : Al2 X F x A y B) : Al2 X F y B x A := ⟨h.hy, h.hx⟩
theorem AlS.ownE (h : AlS X F x A) {i : Nat} (ho : ownN X x i) : A.ph = 3 ∧ ¬ F i ∧ i < X.next := by
  obtain ⟨ev, g, h1, h2⟩ := h.obj
  obtain ⟨o1, o2⟩ := ho
  have l7 : X.ldI .u8 x 7 = some A.ph := ldI_of g rfl
  have l12 : X.ld x 12 = some ev := by rw [ld_of g]; rfl
  rw [l7] at o1
  rw [l12] at o2
  cases o1' : A.ph == 3 with
  | false => simp at o1 o1'; exact absurd o1 o1'
  | true =>
    have hp : A.ph = 3 := by simpa using o1'
    obtain ⟨e, rfl, a2, a3, a4⟩ := h2 hp
    obtain rfl : e = i := by simpa using o2
    exact ⟨hp, a3, h.wf _ _ a4⟩
theorem AlS.lt (h : AlS X F x A) : x < X.next := by
  obtain ⟨ev, g, h1, h2⟩ := h.obj; exact h.wf _ _ g
theorem Al2.step (h : Al2 X F x A y B) {X' : Heap} {A' : Al} (h1 : AlS X' (fun i => F i ∨ i = y ∨ ownN X y i) x A') (k : Keep (fun i => F i ∨ i = y ∨ ownN X y i) X X') : Al2 X' F x A' y B ∧ Keep F X X' := by
  have ey : X'.get y = X.get y := k y (.inr (.inl rfl))
  have eo := ownN_same ey
  refine ⟨⟨by rw [eo]; exact h1, ?_⟩, fun i hi => k i (.inl hi)⟩
  obtain ⟨wf, fin, nx, ev, g, one, he⟩ := h.hy
  refine ⟨h1.wf, fun i hi => ?_, fun hi => ?_, ev, by rw [ey]; exact g, one, fun hB => ?_⟩
  · rcases hi with hi | rfl | hi
    · exact h1.fin i (.inl hi)
    · exact h1.lt
    · exact (h1.ownE hi).2.2
  · rcases hi with hi | hi | hi
    · exact nx (.inl hi)
    · exact nx (.inr (.inl hi))
    · exact (h1.ownE hi).2.1 (.inr (.inl rfl))
  · obtain ⟨e, q1, q2, q3, q4⟩ := he hB
    have oe : ownN X y e := ⟨by rw [ldI_of g rfl, hB], by rw [ld_of g, ← q1]; rfl⟩
    refine ⟨e, q1, q2, fun hi => ?_, by rw [k e (.inr (.inr oe))]; exact q4⟩
    rcases hi with hi | hi | hi
    · exact q3 (.inl hi)
    · exact q3 (.inr (.inl hi))
    · exact (h1.ownE hi).2.1 (.inr (.inr oe))
theorem two_start (h : Al2 X F x A y B) (ht : A.Ok) (b : Bool) : ∃ X', (∀ (R : Type) (K : Int → Heap → Option R), g11 R (some (x, 0)) b X K = K (A.start b).2 X') ∧ Al2 X' F x (A.start b).1 y B ∧ Keep F X X' ∧ (A.start b).1.Ok := by
  obtain ⟨X1, s1, t1, k1, o1⟩ := a_start h.hx ht b
  exact ⟨X1, s1, (h.step t1 k1).1, (h.step t1 k1).2, o1⟩
theorem two_tick (h : Al2 X F x A y B) (ht : A.Ok) (hp : A.prov ≤ 999999999) : ∃ X', (∀ (R : Type) (K : Int → Heap → Option R), g12 R (some (x, 0)) X K = K 0 X') ∧ Al2 X' F x A.tick y B ∧ Keep F X X' ∧ A.tick.Ok := by
  obtain ⟨X1, s1, t1, k1, o1⟩ := a_tick h.hx ht hp
  exact ⟨X1, s1, (h.step t1 k1).1, (h.step t1 k1).2, o1⟩
theorem two_hear (h : Al2 X F x A y B) (ht : A.Ok) (hp : A.prov ≤ 999999999) (s : Int) : ∃ X', (∀ (R : Type) (K : Int → Heap → Option R), g17 R (some (x, 0)) s X K = K (A.hear s).2 X') ∧ Al2 X' F x (A.hear s).1 y B ∧ Keep F X X' ∧ (A.hear s).1.Ok := by
  obtain ⟨X1, s1, t1, k1, o1⟩ := a_hear h.hx ht hp s
  exact ⟨X1, s1, (h.step t1 k1).1, (h.step t1 k1).2, o1⟩
/-- what is sent, and whether -/
theorem a_sends (h : AlS X F x A) {R : Type} (K : Int → Bool → Heap → Option R) : ∃ s, g30 R (some (x, 0)) X K = K s (decide (A.ph = 1 ∨ A.ph = 2 ∨ A.ph = 3 ∨ A.ph = 5)) X ∧ ((A.ph = 1 ∨ A.ph = 2 ∨ A.ph = 3 ∨ A.ph = 5) → s = A.sends) := by
  obtain ⟨_, _, _, _, _, _, _, _, _, l9, _⟩ := h.ld
  simp only [g30, g30_r, g30_p0, a_phase h, Option.bind_some, Nat.zero_add, l9]
  unfold Al.sends
  by_cases h1 : A.ph = 1
  · exact ⟨0, by simp [h1], by simp [h1]⟩
  · have b1 : (A.ph == 1) = false := by simp [h1]
    by_cases h2 : A.ph = 2
    · cases ho : A.own
      · exact ⟨1, by simp [h2], by simp [h2]⟩
      · exact ⟨2, by simp [h2], by simp [h2]⟩
    · have b2 : (A.ph == 2) = false := by simp [h2]
      by_cases h3 : A.ph = 3
      · cases ho : A.own
        · exact ⟨1, by simp [h3], by simp [h3]⟩
        · exact ⟨2, by simp [h3], by simp [h3]⟩
      · have b3 : (A.ph == 3) = false := by simp [h3]
        by_cases h5 : A.ph = 5
        · exact ⟨3, by simp [h5], by simp [h5]⟩
        · have b5 : (A.ph == 5) = false := by simp [h5]
          exact ⟨0, by simp [b1, b2, b3, b5, h1, h2, h3, h5], by simp [h1, h2, h3, h5]⟩
end
/-- what an alignment does with what the other one sends -/
def Al.on (A : Al) : Prop := A.ph = 1 ∨ A.ph = 2 ∨ A.ph = 3 ∨ A.ph = 5
instance (A : Al) : Decidable A.on := by unfold Al.on; infer_instance
def Al.from (A B : Al) : Al := if B.on then (A.hear B.sends).1 else A
def exA (A B : Al) : Al := (A.from B).tick
def exB (A B : Al) : Al := (B.from (A.from B)).tick
section
variable {X : Heap} {F : Nat → Prop} {x y : Nat} {A B : Al}
theorem two_exchange (h : Al2 X F x A y B) (ha : A.Ok) (hb : B.Ok) (pa : A.prov ≤ 999) (pb : B.prov ≤ 999) (pa' : (A.from B).prov ≤ 1000) (pb' : (B.from (A.from B)).prov ≤ 1000) : ∃ X', (∀ (R : Type) (K : Heap → Option R), g14 R (some (x, 0)) (some (y, 0)) X K = K X') ∧ Al2 X' F x (exA A B) y (exB A B) ∧ Keep F X X' ∧ (exA A B).Ok ∧ (exB A B).Ok := by
  -- the first one hears
  have h1 : ∃ X1, (∀ (R : Type) (K : Heap → Option R), (g30 R (some (y, 0)) X fun s is H => sel is (g17 R (some (x, 0)) s H fun _ H => K H) (K H)) = K X1) ∧ Al2 X1 F x (A.from B) y B ∧ Keep F X X1 ∧ (A.from B).Ok := by
    unfold Al.from
    by_cases ho : B.on
    · rw [if_pos ho]
      obtain ⟨X1, s1, t1, k1, o1⟩ := two_hear h ha (by omega) B.sends
      refine ⟨X1, fun R K => ?_, t1, k1, o1⟩
      obtain ⟨s, e1, e2⟩ := a_sends h.hy (fun s is H => sel is (g17 R (some (x, 0)) s H fun _ H => K H) (K H))
      rw [e1, e2 ho, decide_eq_true (p := B.ph = 1 ∨ B.ph = 2 ∨ B.ph = 3 ∨ B.ph = 5) ho, sel_true, s1]
    · rw [if_neg ho]
      refine ⟨X, fun R K => ?_, h, .refl _ _, ha⟩
      obtain ⟨s, e1, e2⟩ := a_sends h.hy (fun s is H => sel is (g17 R (some (x, 0)) s H fun _ H => K H) (K H))
      rw [e1, decide_eq_false (p := B.ph = 1 ∨ B.ph = 2 ∨ B.ph = 3 ∨ B.ph = 5) ho, sel_false]
  obtain ⟨X1, e1, t1, k1, o1⟩ := h1
  have h2 : ∃ X2, (∀ (R : Type) (K : Heap → Option R), (g30 R (some (x, 0)) X1 fun s is H => sel is (g17 R (some (y, 0)) s H fun _ H => K H) (K H)) = K X2) ∧ Al2 X2 F x (A.from B) y (B.from (A.from B)) ∧ Keep F X1 X2 ∧ (B.from (A.from B)).Ok := by
    generalize A.from B = C at *
    unfold Al.from
    by_cases ho : C.on
    · rw [if_pos ho]
      obtain ⟨X2, s1, t2, k2, o2⟩ := two_hear t1.symm hb (by omega) C.sends
      refine ⟨X2, fun R K => ?_, t2.symm, k2, o2⟩
      obtain ⟨s, e1, e2⟩ := a_sends t1.hx (fun s is H => sel is (g17 R (some (y, 0)) s H fun _ H => K H) (K H))
      rw [e1, e2 ho, decide_eq_true (p := C.ph = 1 ∨ C.ph = 2 ∨ C.ph = 3 ∨ C.ph = 5) ho, sel_true, s1]
    · rw [if_neg ho]
      refine ⟨X1, fun R K => ?_, t1, .refl _ _, hb⟩
      obtain ⟨s, e1, e2⟩ := a_sends t1.hx (fun s is H => sel is (g17 R (some (y, 0)) s H fun _ H => K H) (K H))
      rw [e1, decide_eq_false (p := C.ph = 1 ∨ C.ph = 2 ∨ C.ph = 3 ∨ C.ph = 5) ho, sel_false]
  obtain ⟨X2, e2, t2, k2, o2⟩ := h2
  obtain ⟨X3, e3, t3, k3, o3⟩ := two_tick t2 o1 (by omega)
  obtain ⟨X4, e4, t4, k4, o4⟩ := two_tick t3.symm o2 (by omega)
  refine ⟨X4, fun R K => ?_, t4.symm, (k1.trans k2).trans (k3.trans k4), o3, o4⟩
  have key : g14 R (some (x, 0)) (some (y, 0)) X K = (g30 R (some (y, 0)) X fun s is H => sel is (g17 R (some (x, 0)) s H fun _ H => g30 R (some (x, 0)) H fun s is H => sel is (g17 R (some (y, 0)) s H fun _ H => g12 R (some (x, 0)) H fun _ H => g12 R (some (y, 0)) H fun _ H => K H) (g12 R (some (x, 0)) H fun _ H => g12 R (some (y, 0)) H fun _ H => K H)) (g30 R (some (x, 0)) H fun s is H => sel is (g17 R (some (y, 0)) s H fun _ H => g12 R (some (x, 0)) H fun _ H => g12 R (some (y, 0)) H fun _ H => K H) (g12 R (some (x, 0)) H fun _ H => g12 R (some (y, 0)) H fun _ H => K H))) := by
    simp only [g14, g14_r, g14_p0]
  rw [key, e1 R fun H => g30 R (some (x, 0)) H fun s is H => sel is (g17 R (some (y, 0)) s H fun _ H => g12 R (some (x, 0)) H fun _ H => g12 R (some (y, 0)) H fun _ H => K H) (g12 R (some (x, 0)) H fun _ H => g12 R (some (y, 0)) H fun _ H => K H)]
  rw [e2 R fun H => g12 R (some (x, 0)) H fun _ H => g12 R (some (y, 0)) H fun _ H => K H, e3, e4]
end
/-- the phases of two alignments that hear each other -/
structure I1 (A : Al) : Prop where
  ph : A.ph = 1
  left : 1 ≤ A.left
  urg : A.urg = A.own
  hold : 2 ≤ A.hold
  prov : A.prov = 0
structure I2 (u : Bool) (A : Al) : Prop where
  ph : A.ph = 2
  left : 1 ≤ A.left
  ou : A.own = true → A.urg = true
  uu : A.urg = true → u = true
  prov : A.prov = 0
def Al.dur (A : Al) (u : Bool) : Int := if u then A.emer else A.norm
structure I3 (u : Bool) (k : Int) (A : Al) : Prop where
  urg : A.urg = u
  ou : A.own = true → u = true
  prov : A.prov = 1
  run : k < A.dur u + 1 → A.ph = 3 ∧ A.left = A.dur u + 1 - k
  done : A.dur u + 1 ≤ k → A.ph = 4 ∧ A.left = 0
/-- the times stay -/
structure Tms (A B : Al) : Prop where
  own : B.own = A.own
  hold : B.hold = A.hold
  norm : B.norm = A.norm
  emer : B.emer = A.emer
theorem Tms.trans {A B C : Al} (h : Tms A B) (h' : Tms B C) : Tms A C := ⟨h'.own.trans h.own, h'.hold.trans h.hold, h'.norm.trans h.norm, h'.emer.trans h.emer⟩
theorem Tms.refl (A : Al) : Tms A A := ⟨rfl, rfl, rfl, rfl⟩
theorem enter_tms (A : Al) (p : Int) : Tms A (A.enter p) := by
  unfold Al.enter
  split
  · exact ⟨rfl, rfl, rfl, rfl⟩
  · split
    · exact ⟨rfl, rfl, rfl, rfl⟩
    · split
      · exact ⟨rfl, rfl, rfl, rfl⟩
      · exact ⟨rfl, rfl, rfl, rfl⟩
theorem tick_tms (A : Al) : Tms A A.tick := by
  unfold Al.tick
  split
  · exact .refl _
  · split
    · exact ⟨rfl, rfl, rfl, rfl⟩
    · exact Tms.trans (B := { A with left := A.left - 1 }) ⟨rfl, rfl, rfl, rfl⟩ (enter_tms _ _)
theorem r1_from {A : Al} (h : I1 A) {s : Int} (hs : s ≤ 2) {u : Bool} (h1 : A.own = true → u = true) (h2 : s = 2 → u = true) : I2 u (A.hear s).1.tick ∧ Tms A (A.hear s).1.tick ∧ (A.hear s).1.prov = 0 ∧ (A.hear s).1.ph = 2 ∧ (A.hear s).1.own = A.own := by
  obtain ⟨a1, a2, a3, a4, a5⟩ := h
  have e : (A.hear s).1 = { A with urg := A.urg || s == 2, ph := 2, left := A.hold } := by unfold Al.hear; rw [if_neg (by omega), if_pos a1, if_pos hs]; simp [Al.enter]
  have et : ({ A with urg := A.urg || s == 2, ph := 2, left := A.hold } : Al).tick = { A with urg := A.urg || s == 2, ph := 2, left := A.hold - 1 } := by
    unfold Al.tick
    rw [if_neg (by show ¬ A.hold = 0; omega), if_pos (by show A.hold - 1 > 0; omega)]
  rw [e, et]
  refine ⟨⟨rfl, by show 1 ≤ A.hold - 1; omega, fun ho => ?_, fun hu => ?_, a5⟩, ⟨rfl, rfl, rfl, rfl⟩, a5, rfl, rfl⟩
  · show (A.urg || s == 2) = true
    rw [a3, show A.own = true from ho]; rfl
  · have hu' : (A.urg || s == 2) = true := hu
    rw [a3] at hu'
    cases ho : A.own with
    | true => exact h1 ho
    | false => rw [ho] at hu'; exact h2 (by simpa using hu')
theorem r2_from {A : Al} (hok : A.Ok) {u : Bool} (h : I2 u A) {s : Int} (hs : s = 1 ∨ s = 2) (hu : u = (A.own || s == 2)) : I3 u 2 (A.hear s).1.tick ∧ Tms A (A.hear s).1.tick ∧ (A.hear s).1.prov = 1 ∧ (A.hear s).1.ph = 3 ∧ (A.hear s).1.own = A.own := by
  obtain ⟨a1, a2, a3, a4, a5⟩ := h
  have hn := hok.norm
  have he := hok.emer
  have eu : (A.urg || s == 2) = u := by
    cases ho : A.own with
    | true => rw [hu, ho, a3 ho]
    | false =>
      rw [ho] at hu
      cases hg : A.urg with
      | true => simp [a4 hg]
      | false => rw [hu]
  have e : (A.hear s).1 = { A with urg := u, ph := 3, prov := A.prov + 1, left := A.dur u, elv := 0, elim := if u then A.fewer else A.few } := by
    unfold Al.hear Al.hearA
    rw [if_neg (by omega), if_neg (by omega), if_pos a1]
    simp only
    rw [if_neg (by omega), if_neg (by omega), eu]
    simp [Al.enter, Al.dur]
  have hd : 1 ≤ A.dur u := by unfold Al.dur; split <;> omega
  rw [e]
  refine ⟨?_, ?_, by show A.prov + 1 = 1; omega, rfl, rfl⟩
  · by_cases h1 : A.dur u - 1 > 0
    · have et : ({ A with urg := u, ph := 3, prov := A.prov + 1, left := A.dur u, elv := 0, elim := if u then A.fewer else A.few } : Al).tick = { A with urg := u, ph := 3, prov := A.prov + 1, left := A.dur u - 1, elv := 0, elim := if u then A.fewer else A.few } := by
        unfold Al.tick
        rw [if_neg (by show ¬ A.dur u = 0; omega), if_pos h1]
      rw [et]
      exact ⟨rfl, fun ho => by rw [hu, show A.own = true from ho]; rfl, by show A.prov + 1 = 1; omega, fun _ => ⟨rfl, by show A.dur u - 1 = A.dur u + 1 - 2; omega⟩, fun hk => by have : A.dur u + 1 ≤ 2 := hk; omega⟩
    · have et : ({ A with urg := u, ph := 3, prov := A.prov + 1, left := A.dur u, elv := 0, elim := if u then A.fewer else A.few } : Al).tick = { A with urg := u, ph := 4, prov := A.prov + 1, left := 0, elv := 0, elim := if u then A.fewer else A.few } := by
        unfold Al.tick
        rw [if_neg (by show ¬ A.dur u = 0; omega), if_neg h1]
        simp [Al.enter]
      rw [et]
      exact ⟨rfl, fun ho => by rw [hu, show A.own = true from ho]; rfl, by show A.prov + 1 = 1; omega, fun hk => by have : 2 < A.dur u + 1 := hk; omega, fun _ => ⟨rfl, rfl⟩⟩
  · exact Tms.trans (B := { A with urg := u, ph := 3, prov := A.prov + 1, left := A.dur u, elv := 0, elim := if u then A.fewer else A.few }) ⟨rfl, rfl, rfl, rfl⟩ (tick_tms _)
theorem r3_hear {A : Al} {u : Bool} {k : Int} (h : I3 u k A) {s : Int} (hs : s = 1 ∨ s = 2) (h2 : s = 2 → u = true) : (A.hear s).1 = A := by
  have hp : A.ph = 3 ∨ A.ph = 4 := by
    by_cases hk : k < A.dur u + 1
    · exact .inl (h.run hk).1
    · exact .inr (h.done (by omega)).1
  unfold Al.hear
  rw [if_neg (by omega), if_neg (by omega), if_neg (by omega)]
  rcases hp with hp | hp
  · rw [if_pos hp]
    unfold Al.hearP
    simp only
    rw [if_neg (by omega), if_neg (by omega), if_neg]
    rintro ⟨e2, hu⟩
    rw [h.urg, h2 e2] at hu; cases hu
  · rw [if_neg (by omega)]
theorem r3_tick {A : Al} {u : Bool} {k : Int} (h : I3 u k A) : I3 u (k + 1) A.tick ∧ Tms A A.tick := by
  obtain ⟨a1, a2, a3, a4, a5⟩ := h
  by_cases hk : k < A.dur u + 1
  · obtain ⟨p1, p2⟩ := a4 hk
    by_cases h1 : A.left - 1 > 0
    · have et : A.tick = { A with left := A.left - 1 } := by unfold Al.tick; rw [if_neg (by omega), if_pos h1]
      rw [et]
      exact ⟨⟨a1, a2, a3, fun _ => ⟨p1, by show A.left - 1 = A.dur u + 1 - (k + 1); omega⟩, fun hk' => by have : A.dur u + 1 ≤ k + 1 := hk'; omega⟩, rfl, rfl, rfl, rfl⟩
    · have et : A.tick = { A with ph := 4, left := 0 } := by unfold Al.tick; rw [if_neg (by omega), if_neg h1, if_pos p1]; simp [Al.enter]
      rw [et]
      exact ⟨⟨a1, a2, a3, fun hk' => by have : k + 1 < A.dur u + 1 := hk'; omega, fun _ => ⟨rfl, rfl⟩⟩, rfl, rfl, rfl, rfl⟩
  · obtain ⟨p1, p2⟩ := a5 (by omega)
    have et : A.tick = A := by unfold Al.tick; rw [if_pos p2]
    rw [et]
    exact ⟨⟨a1, a2, a3, fun hk' => by omega, fun _ => ⟨p1, p2⟩⟩, .refl _⟩
theorem sends12 {A : Al} (h : A.ph = 2 ∨ A.ph = 3) : A.sends = if A.own then 2 else 1 := by unfold Al.sends; rw [if_neg (by omega), if_pos h]
theorem sends_s {A : Al} (h : A.ph = 2 ∨ A.ph = 3) : (A.sends = 1 ∨ A.sends = 2) ∧ (A.sends == 2) = A.own ∧ A.on := by
  rw [sends12 h]
  refine ⟨by split <;> simp, by cases A.own <;> rfl, by unfold Al.on; omega⟩
/-- one round -/
theorem round1 {A B : Al} (ha : I1 A) (hb : I1 B) : I2 (A.own || B.own) (exA A B) ∧ I2 (A.own || B.own) (exB A B) ∧ Tms A (exA A B) ∧ Tms B (exB A B) ∧ (A.from B).prov ≤ 1000 ∧ (B.from (A.from B)).prov ≤ 1000 := by
  have on : B.on := .inl hb.ph
  have sb : B.sends = 0 := by unfold Al.sends; rw [if_pos hb.ph]
  have ef : A.from B = (A.hear 0).1 := by unfold Al.from; rw [if_pos on, sb]
  obtain ⟨q1, q2, q3, q4, q5⟩ := r1_from ha (s := 0) (u := A.own || B.own) (by omega) (fun h => by rw [h]; rfl) (fun h => by omega)
  obtain ⟨s1, s2, s3⟩ := sends_s (A := (A.hear 0).1) (.inl q4)
  have ef2 : B.from (A.from B) = (B.hear (A.hear 0).1.sends).1 := by rw [ef]; unfold Al.from; rw [if_pos s3]
  obtain ⟨q6, q7, q8, _, _⟩ := r1_from hb (s := (A.hear 0).1.sends) (u := A.own || B.own) (by omega) (fun h => by rw [h]; simp) (fun h => by
    rw [h] at s2; rw [← q5, ← s2]; rfl)
  unfold exA exB
  rw [ef2, ef]
  exact ⟨q1, q6, q2, q7, by omega, by omega⟩
theorem round2 {A B : Al} (hA : A.Ok) (hB : B.Ok) (ha : I2 (A.own || B.own) A) (hb : I2 (A.own || B.own) B) : I3 (A.own || B.own) 2 (exA A B) ∧ I3 (A.own || B.own) 2 (exB A B) ∧ Tms A (exA A B) ∧ Tms B (exB A B) ∧ (A.from B).prov ≤ 1000 ∧ (B.from (A.from B)).prov ≤ 1000 := by
  obtain ⟨s1, s2, s3⟩ := sends_s (A := B) (.inl hb.ph)
  have ef : A.from B = (A.hear B.sends).1 := by unfold Al.from; rw [if_pos s3]
  obtain ⟨q1, q2, q3, q4, q5⟩ := r2_from hA ha s1 (by rw [s2])
  obtain ⟨t1, t2, t3⟩ := sends_s (A := (A.hear B.sends).1) (.inr q4)
  have ef2 : B.from (A.from B) = (B.hear (A.hear B.sends).1.sends).1 := by rw [ef]; unfold Al.from; rw [if_pos t3]
  obtain ⟨q6, q7, q8, _, _⟩ := r2_from hB hb t1 (by rw [t2, q5]; cases A.own <;> cases B.own <;> rfl)
  unfold exA exB
  rw [ef2, ef]
  exact ⟨q1, q6, q2, q7, by omega, by omega⟩
theorem from3 {A B : Al} {u : Bool} {k : Int} (ha : I3 u k A) (hb : I3 u k B) : A.from B = A := by
  unfold Al.from
  by_cases ho : B.on
  · rw [if_pos ho]
    have hp : B.ph = 3 := by
      by_cases hk : k < B.dur u + 1
      · exact (hb.run hk).1
      · have := (hb.done (by omega)).1; unfold Al.on at ho; omega
    obtain ⟨s1, s2, s3⟩ := sends_s (A := B) (.inr hp)
    exact r3_hear ha s1 fun h => hb.ou (by rw [h] at s2; rw [← s2]; rfl)
  · rw [if_neg ho]
theorem round3 {A B : Al} {u : Bool} {k : Int} (ha : I3 u k A) (hb : I3 u k B) : I3 u (k + 1) (exA A B) ∧ I3 u (k + 1) (exB A B) ∧ Tms A (exA A B) ∧ Tms B (exB A B) ∧ (A.from B).prov ≤ 1000 ∧ (B.from (A.from B)).prov ≤ 1000 := by
  unfold exA exB
  rw [from3 ha hb, from3 hb ha]
  have := ha.prov; have := hb.prov
  exact ⟨(r3_tick ha).1, (r3_tick hb).1, (r3_tick ha).2, (r3_tick hb).2, by omega, by omega⟩
end Go.Proofs.Ytkldpkemnmmbgaa

