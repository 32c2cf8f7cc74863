/- AlignmentsProving. -/
import Derived.Test.YtkldpkemnmmbgaaAS7
namespace Go.Proofs.Ytkldpkemnmmbgaa
open Go AM Go.RowKit
set_option linter.unusedVariables false
set_option linter.unusedSimpArgs false

def Tm.dur (t : Tm) (u : Bool) : Int := if u then t.al.emer else t.al.norm
def Tm.lim (t : Tm) (u : Bool) : Int := if u then t.al.fewer else t.al.few
/-- an alignment in its proving i, with l ticks left, after w wrong units -/
def Tm.prv (t : Tm) (u : Bool) (i l w : Int) : Al := { t.al with ph := 3, left := l, own := u, urg := u, prov := i + 1, elv := w, elim := t.lim u }
section
variable {t : Tm} {u : Bool}
theorem Tm.durR (ht : t.Ok) : 1 ≤ t.dur u ∧ t.dur u ≤ 12 := by
  have := ht.c; have := ht.d; cases u <;> simp only [Tm.dur, Tm.al] <;> simp <;> omega
theorem Tm.limR (ht : t.Ok) : 1 ≤ t.lim u ∧ t.lim u ≤ 12 := by
  have := ht.e; have := ht.f; cases u <;> simp only [Tm.lim, Tm.al] <;> simp <;> omega
theorem Tm.mostR (ht : t.Ok) : 1 ≤ t.al.most ∧ t.al.most ≤ 12 := by have := ht.g; simp only [Tm.al]; omega
theorem prv_ok (ht : t.Ok) {i l w : Int} (hi : 0 ≤ i ∧ i ≤ 12) (hl : 0 ≤ l ∧ l ≤ 12) (hw : 0 ≤ w ∧ w < t.lim u) : (t.prv u i l w).Ok := by
  obtain ⟨⟨h1, h2, h3, h4, h5, h6, h7, h8, h9⟩, _⟩ := Tm.al_ok ht
  exact ⟨⟨h1, h2, h3, h4, h5, h6, h7, by dsimp only [Tm.prv]; omega, by dsimp only [Tm.prv]; omega⟩, by dsimp only [Tm.prv]; omega, fun _ => ⟨hw.1, hw.2, rfl⟩⟩
theorem prv_wrong {i l w : Int} (h : w + 1 < t.lim u) : (t.prv u i l w).wrong = t.prv u i l (w + 1) := by
  unfold Al.wrong
  have h1 : (t.prv u i l w).ph = 3 := rfl
  have h2 : (t.prv u i l w).elv = w := rfl
  have h3 : (t.prv u i l w).elim = t.lim u := rfl
  rw [if_pos h1, h2, h3, if_neg (by omega)]; rfl
theorem prv_wrongL {i l w : Int} (h : w + 1 = t.lim u) : (t.prv u i l w).wrong = if i + 1 < t.al.most then t.prv u (i + 1) (t.dur u) 0 else (t.prv u i l w).enter 5 := by
  unfold Al.wrong
  have h1 : (t.prv u i l w).ph = 3 := rfl
  have h2 : (t.prv u i l w).elv = w := rfl
  have h3 : (t.prv u i l w).elim = t.lim u := rfl
  have h4 : (t.prv u i l w).prov = i + 1 := rfl
  have h5 : (t.prv u i l w).most = t.al.most := rfl
  rw [if_pos h1, h2, h3, if_pos h, h4, h5]
  split
  · cases u <;> rfl
  · rfl
theorem prv_tick {i l w : Int} (h : 2 ≤ l) : (t.prv u i l w).tick = t.prv u i (l - 1) w := by
  unfold Al.tick
  have h1 : (t.prv u i l w).left = l := rfl
  rw [h1, if_neg (by omega), if_pos (by omega)]; rfl
theorem prv_tick1 {i w : Int} : (t.prv u i 1 w).tick = (t.prv u i 0 w).enter 4 := by
  unfold Al.tick
  have h1 : (t.prv u i 1 w).left = 1 := rfl
  rw [h1, if_neg (by omega), if_neg (by omega)]; rfl
theorem prv_begin : (((t.al.start u).1.hear 0).1.hear 1).1 = t.prv u 0 (t.dur u) 0 := by
  cases u <;> simp [Al.start, Al.hear, Al.hearA, Al.enter, Tm.al, Tm.prv, Tm.dur, Tm.lim]
theorem prv_begin0 : (t.al.start u).1.prov = 0 := by simp [Al.start, Al.enter, Tm.al]
theorem prv_begin1 : ((t.al.start u).1.hear 0).1.prov = 0 := by simp [Al.start, Al.hear, Al.enter, Tm.al]
/-- after k wrong units of proving i -/
def Tm.pw (t : Tm) (u : Bool) (i : Int) (k : Int) : Al := if k < t.lim u then t.prv u i (t.dur u) k else if i + 1 < t.al.most then t.prv u (i + 1) (t.dur u) 0 else (t.prv u i (t.dur u) (t.lim u - 1)).enter 5
theorem pw_next {i k : Int} (h : k < t.lim u) : (t.pw u i k).wrong = t.pw u i (k + 1) := by
  unfold Tm.pw
  rw [if_pos h]
  by_cases h1 : k + 1 < t.lim u
  · rw [if_pos h1, prv_wrong h1]
  · rw [if_neg h1, prv_wrongL (by omega), show t.lim u - 1 = k by omega]
theorem pw_ok (ht : t.Ok) {i k : Int} (hi : 0 ≤ i ∧ i ≤ 11) (hk : 0 ≤ k) : (t.pw u i k).Ok := by
  have := Tm.durR ht (u := u); have := Tm.limR ht (u := u)
  unfold Tm.pw
  split
  · exact prv_ok ht (by omega) (by omega) (by omega)
  · split
    · exact prv_ok ht (by omega) (by omega) (by omega)
    · exact enter_ok (prv_ok ht (by omega) (by omega) (by omega)).toTOk (by dsimp only [Tm.prv]; omega) 5 (by omega)
theorem pw_prov {i k : Int} : (t.pw u i k).prov ≤ i + 2 := by
  unfold Tm.pw
  split
  · simp [Tm.prv]; try omega
  · split
    · simp [Tm.prv]; try omega
    · simp [Tm.prv, Al.enter]; try omega
end
section
variable {x y : Nat} {F : Nat → Prop} {s : Sl} {l : List Int} {t : Tm} {u : Bool}
theorem prv_wrongs (ht : t.Ok) {i n : Int} (hi : 0 ≤ i ∧ i ≤ 11) (hn : 0 ≤ n ∧ n ≤ t.lim u) {X : Heap} (h : AlS X F x (t.pw u i 0)) :
    ∃ X', tlim (g4_p4_b g16 g9 g10 g11 g17 g13 g15 g18 g19 g12) (s, y, 0, some (x, 0), t.lim u, t.dur u, i, n, 0) X = some ((s, y, 0, some (x, 0), t.lim u, t.dur u, i, n), X') ∧ AlS X' F x (t.pw u i n) ∧ Keep F X X' := by
  have hlim := Tm.limR ht (u := u)
  obtain ⟨r, X', e, rfl, h1⟩ := tlim_inv (b := g4_p4_b g16 g9 g10 g11 g17 g13 g15 g18 g19 g12)
    (fun st G => ∃ k : Nat, st = (s, y, 0, some (x, 0), t.lim u, t.dur u, i, n, (k : Int)) ∧ (k : Int) ≤ n ∧ AlS G F x (t.pw u i k) ∧ Keep F X G) (fun st => n.toNat - st.2.2.2.2.2.2.2.2.toNat)
    (fun r G => r = (s, y, 0, some (x, 0), t.lim u, t.dur u, i, n) ∧ AlS G F x (t.pw u i n) ∧ Keep F X G) (by
      rintro st G ⟨k, rfl, hk, hG, hkp⟩
      by_cases hil : (k : Int) < n
      · left
        have hd : decide ((k : Int) < n) = true := by simpa using hil
        have w1 : IntKind.wrap .i64 ((k : Int) + 1) = ((k + 1 : Nat) : Int) := by rw [w64 (by omega)]; rfl
        obtain ⟨Y, t1, t2, t3, t4⟩ := a_wrong hG (pw_ok ht hi (by omega)) (by have := pw_prov (t := t) (u := u) (i := i) (k := k); omega)
        rw [pw_next (by omega)] at t2
        refine ⟨_, Y, ?_, ⟨k + 1, rfl, by omega, t2, hkp.trans t3⟩, by dsimp only; omega⟩
        simp only [g4_p4_b, g4_p3, hd, sel_true, t1, w1]
      · right
        have hd : decide ((k : Int) < n) = false := by simpa using hil
        refine ⟨_, G, by simp only [g4_p4_b, g4_p3, hd, sel_false], rfl, ?_, hkp⟩
        rw [show n = (k : Int) by omega]; exact hG) (s, y, 0, some (x, 0), t.lim u, t.dur u, i, n, 0) X ⟨0, rfl, by omega, h, .refl _ _⟩
  exact ⟨X', e, h1⟩
def Tm.pt (t : Tm) (u : Bool) (i w : Int) (k : Int) : Al := if k < t.dur u then t.prv u i (t.dur u - k) w else (t.prv u i 0 w).enter 4
theorem prv_ticks (ht : t.Ok) {i w : Int} (hi : 0 ≤ i ∧ i ≤ 11) (hw : 0 ≤ w ∧ w < t.lim u) {X : Heap} (h : AlS X F x (t.pt u i w 0)) :
    ∃ X', tlim (g4_p9_b g16 g9 g10 g11 g17 g13 g15 g18 g19 g12) (some (x, 0), t.dur u, i, 0) X = some (.inl (some (x, 0), i), X') ∧ AlS X' F x ((t.prv u i 0 w).enter 4) ∧ Keep F X X' := by
  have hdur := Tm.durR ht (u := u)
  obtain ⟨r, X', e, rfl, h1⟩ := tlim_inv (b := g4_p9_b g16 g9 g10 g11 g17 g13 g15 g18 g19 g12)
    (fun st G => ∃ k : Nat, st = (some (x, 0), t.dur u, i, (k : Int)) ∧ (k : Int) ≤ t.dur u ∧ AlS G F x (t.pt u i w k) ∧ Keep F X G) (fun st => (t.dur u).toNat - st.2.2.2.toNat)
    (fun r G => r = .inl (some (x, 0), i) ∧ AlS G F x ((t.prv u i 0 w).enter 4) ∧ Keep F X G) (by
      rintro st G ⟨k, rfl, hk, hG, hkp⟩
      by_cases hil : (k : Int) < t.dur u
      · left
        have hd : decide ((k : Int) < t.dur u) = true := by simpa using hil
        have w1 : IntKind.wrap .i64 ((k : Int) + 1) = ((k + 1 : Nat) : Int) := by rw [w64 (by omega)]; rfl
        unfold Tm.pt at hG; rw [if_pos hil] at hG
        obtain ⟨Y, t1, t2, t3, t4⟩ := a_tick hG (prv_ok ht (by omega) (by omega) hw) (by dsimp only [Tm.prv]; omega)
        have e1 : (t.prv u i (t.dur u - k) w).tick = t.pt u i w ((k + 1 : Nat) : Int) := by
          unfold Tm.pt
          by_cases h2 : t.dur u - k = 1
          · rw [h2, prv_tick1, if_neg (by omega)]
          · rw [prv_tick (by omega), if_pos (by omega)]; congr 1; omega
        rw [e1] at t2
        have q : (t.prv u i (t.dur u - k) w).ph = 3 := rfl
        refine ⟨_, Y, ?_, ⟨k + 1, rfl, by omega, t2, hkp.trans t3⟩, by dsimp only; omega⟩
        simp only [g4_p9_b, g4_p8, hd, sel_true, a_phase hG, q, bne_self_eq_false, sel_false, t1, w1]
      · right
        have hd : decide ((k : Int) < t.dur u) = false := by simpa using hil
        refine ⟨_, G, by simp only [g4_p9_b, g4_p8, hd, sel_false], rfl, ?_, hkp⟩
        unfold Tm.pt at hG; rw [if_neg hil] at hG; exact hG) (some (x, 0), t.dur u, i, 0) X ⟨0, rfl, by omega, h, .refl _ _⟩
  exact ⟨X', e, h1⟩
/-- a proving, after its checks -/
noncomputable def g4t (s : Sl) (y x : Nat) (L D i n : Int) (G : Heap) : Option (Rd g4_p23_S g4_p23_O × Heap) :=
  g4_p17 g16 g9 g10 g11 g17 g13 g15 g18 g19 g12 _ s y 0 (some (x, 0)) L D i n 0 G (fun t2 t7_0 t7_1 t8 t10 t11 t12 H => g4_p20 g16 g9 g10 g11 g17 g13 g15 g18 g19 g12 _ t2 t7_0 t7_1 t8 t10 t11 t12 H (fun t2 t7_0 t7_1 t8 t10 t11 t12 H => some (.go (t2, t7_0, t7_1, t8, t10, t11, t12), H))) (fun t6 H => some (.up (.inr t6), H))
/-- before proving i -/
def Tm.pi (t : Tm) (u : Bool) (i : Int) : Al := if i < t.al.most then t.prv u i (t.dur u) 0 else (t.prv u (t.al.most - 1) (t.dur u) (t.lim u - 1)).enter 5
theorem prv_out (ht : t.Ok) {X : Heap} (h : AlS X F x (t.pi u 0)) (hb : ByR X F s l) (hlen : l.length ≤ 40) (hy : X.get y = some t.o) (hF : F y) :
    ∃ r X', tlim (g4_p23_b g16 g9 g10 g11 g17 g13 g15 g18 g19 g12) (s, y, 0, some (x, 0), t.lim u, t.dur u, 0) X = some (r, X') ∧ (r = .inr true ∨ r = .inl (y, 0, some (x, 0)) ∧ AlS X' F x (t.pi u t.al.most) ∧ Keep F X X') := by
  have hlim := Tm.limR ht (u := u)
  have hdur := Tm.durR ht (u := u)
  have hmost := Tm.mostR ht
  refine tlim_inv (b := g4_p23_b g16 g9 g10 g11 g17 g13 g15 g18 g19 g12)
    (fun st G => ∃ i : Nat, st = (s, y, 0, some (x, 0), t.lim u, t.dur u, (i : Int)) ∧ (i : Int) ≤ t.al.most ∧ AlS G F x (t.pi u i) ∧ Keep F X G) (fun st => (t.al.most).toNat - st.2.2.2.2.2.2.toNat)
    (fun r G => r = .inr true ∨ r = .inl (y, 0, some (x, 0)) ∧ AlS G F x (t.pi u t.al.most) ∧ Keep F X G) (by
      rintro st G ⟨i, rfl, hi, hG, hkp⟩
      have hbl := hb.len
      obtain ⟨_, _, _, _, _, _, l6⟩ := o_ld ((hkp y hF).trans hy)
      by_cases hil : (i : Int) < t.al.most
      · have hd : decide ((i : Int) < t.al.most) = true := by simpa using hil
        have w1 : IntKind.wrap .i64 ((i : Int) + 1) = ((i + 1 : Nat) : Int) := by rw [w64 (by omega)]; rfl
        unfold Tm.pi at hG; rw [if_pos hil] at hG
        have q1 : (t.prv u i (t.dur u) 0).ph = 3 := rfl
        have q2 : (t.prv u i (t.dur u) 0).prov = ((i + 1 : Nat) : Int) := rfl
        have q3 : (t.prv u i (t.dur u) 0).left = t.dur u := rfl
        have key : ∀ n : Int, 0 ≤ n ∧ n ≤ t.lim u →
            (∃ s' H', g4t s y x (t.lim u) (t.dur u) (i : Int) n G = some (Rd.go s', H') ∧ (∃ i : Nat, s' = (s, y, 0, some (x, 0), t.lim u, t.dur u, (i : Int)) ∧ (i : Int) ≤ t.al.most ∧ AlS H' F x (t.pi u i) ∧ Keep F X H') ∧ (t.al.most).toNat - s'.2.2.2.2.2.2.toNat < (t.al.most).toNat - i) ∨
            (∃ (r : g4_p23_O) (H' : Heap), g4t s y x (t.lim u) (t.dur u) (i : Int) n G = some (Rd.up r, H') ∧ (r = .inr true ∨ r = .inl (y, 0, some (x, 0)) ∧ AlS H' F x (t.pi u t.al.most) ∧ Keep F X H')) := by
          intro n hn
          have hG0 : AlS G F x (t.pw u i 0) := by unfold Tm.pw; rw [if_pos (by omega)]; exact hG
          obtain ⟨Y, c1, c2, c3⟩ := prv_wrongs (s := s) (y := y) ht (i := i) (n := n) (by omega) hn hG0
          by_cases hnl : n < t.lim u
          · right
            have hd2 : decide (n < t.lim u) = true := by simpa using hnl
            have hG1 : AlS Y F x (t.pt u i n 0) := by
              unfold Tm.pw at c2; rw [if_pos hnl] at c2
              unfold Tm.pt; rw [if_pos (by omega), Int.sub_zero]; exact c2
            obtain ⟨Z, d1, d2, d3⟩ := prv_ticks ht (i := i) (w := n) (by omega) (by omega) hG1
            have p1 : ((t.prv u i 0 n).enter 4).ph = 4 := rfl
            have p2 : ((t.prv u i 0 n).enter 4).prov = ((i + 1 : Nat) : Int) := rfl
            refine ⟨.inr true, Z, ?_, .inl rfl⟩
            simp only [g4t, g4_p17, g4_p16, g4_p15, g4_p13, g4_p12, g4_p11, g4_p10, g4_p9, g4_p7, g4_p6, g4_p5, g4_p4, c1, Option.bind_some, hd2, sel_true, d1, cas, a_phase d2, a_prov d2, p1, p2, w1, beq_self_eq_true, lv]
          · left
            have hd2 : decide (n < t.lim u) = false := by simpa using hnl
            refine ⟨(s, y, 0, some (x, 0), t.lim u, t.dur u, ((i + 1 : Nat) : Int)), Y, ?_, ⟨i + 1, rfl, by omega, ?_, hkp.trans c3⟩, by dsimp only; omega⟩
            · simp only [g4t, g4_p17, g4_p16, g4_p15, g4_p14, g4_p6, g4_p5, g4_p4, c1, Option.bind_some, hd2, sel_false, g4_p20, w1]
            · unfold Tm.pw at c2; rw [if_neg hnl] at c2
              unfold Tm.pi
              by_cases hm : (i : Int) + 1 < t.al.most
              · rw [if_pos hm] at c2; rw [if_pos (by omega)]; exact c2
              · rw [if_neg hm] at c2; rw [if_neg (by omega), show t.al.most - 1 = (i : Int) by omega]; exact c2
        have hpre : ∀ n : Int, (if decide ((i : Int) < ((s.len : Nat) : Int)) = true then ∃ id off a, s.a = some (id, off) ∧ G.ldI .u8 id (off + i) = some a ∧ n = a % (t.lim u + 1) ∧ 0 ≤ a ∧ a ≤ 255 else n = 0) →
            g4_p23_b g16 g9 g10 g11 g17 g13 g15 g18 g19 g12 (s, y, 0, some (x, 0), t.lim u, t.dur u, (i : Int)) G = g4t s y x (t.lim u) (t.dur u) (i : Int) n G := by
          intro n hn
          simp only [g4t, g4_p23_b, g4_p22, g4_p21, g4_p19, g4_p18, g4_p2, g4_p1, Nat.zero_add, l6, Option.bind_some, hd, sel_true, a_phase hG, a_prov hG, a_left hG, q1, q2, q3, w1, bne_self_eq_false, sel_false]
          cases hc : decide ((i : Int) < ((s.len : Nat) : Int)) with
          | false =>
            rw [hc] at hn; simp only [Bool.false_eq_true, if_false] at hn
            subst hn; simp only [sel_false]
          | true =>
            rw [hc] at hn; simp only [if_true] at hn
            obtain ⟨id, off, a, e1, e2, rfl, ha⟩ := hn
            have wl : IntKind.wrap .i64 (t.lim u + 1) = t.lim u + 1 := w64 (by omega)
            have wa : IntKind.wrap .i64 a = a := w64 (by omega)
            simp only [sel_true]
            rw [if_pos (by have := of_decide_eq_true hc; omega)]
            simp only [e1, Option.bind_some, Int.toNat_natCast, Nat.mul_one, e2, wl, wa]
            rw [if_neg (by omega), tmodI ha.1]
        cases hc : decide ((i : Int) < ((s.len : Nat) : Int)) with
        | false =>
          have h0 := hpre 0 (by rw [hc]; simp)
          rcases key 0 (by omega) with ⟨s', H', k1, k2, k3⟩ | ⟨r, H', k1, k2⟩
          · exact .inl ⟨s', H', h0.trans k1, k2, k3⟩
          · exact .inr ⟨r, H', h0.trans k1, k2⟩
        | true =>
          have hil2 : i < l.length := by have := of_decide_eq_true hc; omega
          obtain ⟨id, off, e1, e2, _⟩ := (hb.keep hkp).rd i hil2
          have hbt := hb.byt l[i] (List.getElem_mem hil2)
          have h0 := hpre (l[i] % (t.lim u + 1)) (by rw [hc]; simp only [if_true]; exact ⟨id, off, l[i], e1, e2, rfl, hbt⟩)
          have m1 := Int.emod_nonneg l[i] (show t.lim u + 1 ≠ 0 by omega)
          have m2 := Int.emod_lt_of_pos l[i] (show 0 < t.lim u + 1 by omega)
          rcases key (l[i] % (t.lim u + 1)) (by omega) with ⟨s', H', k1, k2, k3⟩ | ⟨r, H', k1, k2⟩
          · exact .inl ⟨s', H', h0.trans k1, k2, k3⟩
          · exact .inr ⟨r, H', h0.trans k1, k2⟩
      · right
        have hd : decide ((i : Int) < t.al.most) = false := by simpa using hil
        refine ⟨.inl (y, 0, some (x, 0)), G, by simp only [g4_p23_b, g4_p22, g4_p1, Nat.zero_add, l6, Option.bind_some, hd, sel_false], .inr ⟨rfl, ?_, hkp⟩⟩
        rw [show t.al.most = (i : Int) by omega]; exact hG) (s, y, 0, some (x, 0), t.lim u, t.dur u, 0) X ⟨0, rfl, by omega, h, .refl _ _⟩
end
theorem proving_true (H : Heap) (hw : H.Wf) {t : Tm} (ht : t.Ok) (u : Bool) {s1 : Sl} (h1 : ArgSl H [.i .u8] s1) :
    g4 Bool t.a t.b t.c t.d t.e t.f t.g u s1 H (fun r _ => some r) = some true := by
  obtain ⟨l1, b1⟩ := byR_of hw h1
  obtain ⟨Y, Z, x, W, e1, e2, e3, hA, hk, hn, gW, gZ, hy⟩ := pre hw ht
  obtain ⟨u0, u1, u2, u3, u4, u5, u6⟩ := us_ld H t
  obtain ⟨o0, o1, o2, o3, o4, o5, o6⟩ := o_ld gZ
  obtain ⟨V1, a1, a2, a3, a4⟩ := a_start hA (Tm.al_ok ht) u
  obtain ⟨V2, b1', b2, b3, b4⟩ := a_hear a2 a4 (by rw [prv_begin0]; omega) 0
  obtain ⟨V3, c1, c2, c3, c4⟩ := a_hear b2 b4 (by rw [prv_begin1]; omega) 1
  rw [prv_begin] at c2
  have hkk := (a3.trans b3).trans c3
  have hb := ((b1.keep hk).mono (G := fun i => i < Z.next) (fun i hi => by omega)).keep hkk
  have hyV : V3.get Y.next = some t.o := (hkk _ hy).trans gW
  obtain ⟨v0, v1, v2, v3, v4, v5, v6⟩ := o_ld hyV
  have hbl := b1.len
  have hmost := Tm.mostR ht
  simp only [g4, g4_r, g4_p27, g4_p26, g4_p24, g4_p23, g4_p0, alo]
  by_cases c : s1.len > 40
  · have hd : decide (((s1.len : Nat) : Int) > 40) = true := by simp; omega
    simp only [hd, sel_true, lv]
  have hd : decide (((s1.len : Nat) : Int) > 40) = false := by simp; omega
  have hst : AlS V3 (fun i => i < Z.next) x (t.pi u 0) := by unfold Tm.pi; rw [if_pos (by omega)]; exact c2
  obtain ⟨r, V4, d1, d2⟩ := prv_out ht hst hb (by omega) hyV hy
  have main : (tlim (g4_p23_b g16 g9 g10 g11 g17 g13 g15 g18 g19 g12) (s1, Y.next, 0, some (x, 0), t.lim u, t.dur u, 0) V3).bind (fun p => cas p.1 (fun r => g4_p25 g16 g9 g10 g11 g17 g13 g15 g18 g19 g12 Bool r.1 r.2.1 r.2.2 p.2 (fun r _ => some r)) (fun r0 => some r0)) = some true := by
    rw [d1]
    rcases d2 with rfl | ⟨rfl, d3, d4⟩
    · rfl
    · unfold Tm.pi at d3; rw [if_neg (by omega)] at d3
      obtain ⟨_, _, _, _, _, _, w6⟩ := o_ld ((d4 _ hy).trans hyV)
      have p1 : ((t.prv u (t.al.most - 1) (t.dur u) (t.lim u - 1)).enter 5).ph = 5 := rfl
      have p2 : ((t.prv u (t.al.most - 1) (t.dur u) (t.lim u - 1)).enter 5).prov = t.al.most := by simp [Al.enter, Tm.prv]
      simp only [Option.bind_some, cas, g4_p25, a_phase d3, a_prov d3, p1, p2, beq_self_eq_true, sel_true, Nat.zero_add, w6, same_i, if_true, lv]
  simp only [hd, sel_false, Nat.zero_add, Nat.add_zero, u0, u1, u2, u3, u4, u5, u6, Option.bind_some, e1, e2, o0, o1, o2, o3, o4, o5, o6, e3, bne_self_eq_false, Option.isNone_some, a1, b1', c1, v2, v3, v4, v5]
  cases u with
  | true => simp only [sel_true]; exact main
  | false => simp only [sel_false]; exact main
theorem alignmentsProving_true (H : Heap) (hw : H.Wf) (a b c d e f g : Int) (u : Bool) (s1 : Sl) (h1 : (Lit.int .u8 a).wf = true) (h2 : (Lit.int .u8 b).wf = true) (h3 : (Lit.int .u8 c).wf = true) (h4 : (Lit.int .u8 d).wf = true) (h5 : (Lit.int .u8 e).wf = true) (h6 : (Lit.int .u8 f).wf = true) (h7 : (Lit.int .u8 g).wf = true)
    (k1 : ArgSl H [.i .u8] s1) : g4 Bool a b c d e f g u s1 H (fun r _ => some r) = some true :=
  proving_true H hw (t := ⟨a, b, c, d, e, f, g⟩) ⟨wfU8 h1, wfU8 h2, wfU8 h3, wfU8 h4, wfU8 h5, wfU8 h6, wfU8 h7⟩ u k1
end Go.Proofs.Ytkldpkemnmmbgaa
