/- ConnectionsErrors: the law, whole. -/
import Derived.Test.YtnlfkllnmobppaaCG4
namespace Go.Proofs.Ytnlfkllnmobppaa
open Go AM Go.RowKit
set_option linter.unusedVariables false
set_option linter.unusedSimpArgs false

abbrev D0 : Dk := { w := 1, wt := 9, idl := 9, fz := 9 }
theorem add0 (p o c st : Int) : D0.add p o c st = some ({ D0 with last := 1, all := [{ ref := 1, pt := p, oth := o, cls := c, st := st }] }, { ref := 1, pt := p, oth := o, cls := c, st := st }) := by kernel_rfl
theorem req0 (to cls : Int) (d : List Int) : ∃ r e D', D0.request to cls d = (r, e, D') ∧ e = (if 16383 < to then 1 else if cls ≠ 2 then (if cls ≠ 3 then 1 else if 200 < d.length then 3 else 0) else if 200 < d.length then 3 else 0) ∧ ((r == 1) == (e == 0)) = true ∧ (D'.all.length : Int) = r ∧ 0 < D'.w ∧ 0 ≤ r ∧ r ≤ 1 := by
  have key : D0.request to cls d = if 16383 < to ∨ (cls ≠ 2 ∧ cls ≠ 3) then (0, 1, D0) else if 200 < d.length then (0, 3, D0) else (1, 0, ({ D0 with last := 1, all := [{ ref := 1, pt := to, oth := 0, cls := cls, st := 1 }] } : Dk).send { ref := 1, pt := to, oth := 0, cls := cls, st := 1 } { k := 1, c := cls, d := d }) := by
    unfold Dk.request
    rw [add0]
  rw [key]
  by_cases h1 : 16383 < to
  · rw [if_pos (.inl h1)]
    exact ⟨_, _, _, rfl, by rw [if_pos h1], rfl, rfl, by decide, by decide, by decide⟩
  by_cases h2 : cls ≠ 2
  · by_cases h3 : cls ≠ 3
    · rw [if_pos (.inr ⟨h2, h3⟩)]
      exact ⟨_, _, _, rfl, by rw [if_neg h1, if_pos h2, if_pos h3], rfl, rfl, by decide, by decide, by decide⟩
    · rw [if_neg (by omega)]
      by_cases h4 : 200 < d.length
      · rw [if_pos h4]
        exact ⟨_, _, _, rfl, by rw [if_neg h1, if_pos h2, if_neg h3, if_pos h4], rfl, rfl, by decide, by decide, by decide⟩
      · rw [if_neg h4]
        exact ⟨_, _, _, rfl, by rw [if_neg h1, if_pos h2, if_neg h3, if_neg h4], rfl, rfl, by show (0 : Int) < 1; decide, by decide, by decide⟩
  · rw [if_neg (by omega)]
    by_cases h4 : 200 < d.length
    · rw [if_pos h4]
      exact ⟨_, _, _, rfl, by rw [if_neg h1, if_neg h2, if_pos h4], rfl, rfl, by decide, by decide, by decide⟩
    · rw [if_neg h4]
      exact ⟨_, _, _, rfl, by rw [if_neg h1, if_neg h2, if_neg h4], rfl, rfl, by show (0 : Int) < 1; decide, by decide, by decide⟩
section
variable {n0 : Nat} {H : Heap} {s : Sl} {d : List Int}
/-- a desk that holds nothing -/
theorem quiet {y : Nat} {G : Nat → Prop} (h : DA n0 H y G D0) : ∃ H', Kp n0 H H' ∧ H'.Wf ∧ ∀ (R : Type) (kN : Bool → Heap → Option R), (g23 R (some (y, 0)) H fun a h1 => g24 R (some (y, 0)) h1 fun b h2 => g20 R (some (y, 0)) h2 fun c h3 => if V.same (V.i .i64 ((b.len : Nat) : Int)) (V.i .i64 ((b.len : Nat) : Int)) = true then kN (decide ((IntKind.wrap .i64 ((IntKind.wrap .i64 (a + ((b.len : Nat) : Int))) + ((c.len : Nat) : Int))) > (0 : Int))) h3 else none) = kN false H' := by
  obtain ⟨r1, H1, os, e1, d1, s1, l1, o1, _, _⟩ := s24 h (by decide)
  obtain ⟨r2, H2, es, e2, d2, s2, l2, o2, _, _⟩ := s20 d1 (by decide)
  have z1 : r1.len = 0 := by rw [l1.len, ← List.length_map (f := (·.1)), o1]; rfl
  have z2 : r2.len = 0 := by rw [l2.len, ← List.length_map (f := (·.1)), o2]; rfl
  refine ⟨H2, s1.kp.trans s2.kp, d2.wf, fun R kN => ?_⟩
  rw [s23 h (by decide), e1, e2, z1, z2, if_pos (by simp [V.same, V.same1])]
  rfl
theorem same_i (k : IntKind) (n : Int) : V.same (V.i k n) (V.i k n) = true := by simp [V.same, V.same1]
/-- the second part -/
theorem p2_law {x y : Nat} {F G : Nat → Prop} (h : W2 n0 H x y F G D0 D0) (hs : Dat n0 H s d) {m : Cm} (hm : m.Ok) {sm : Sl} (hdm : Dat n0 H sm m.d) (z0 z1 z2 z3 : Int) (hz0 : 0 ≤ z0 ∧ z0 ≤ 65535) (hz2 : 0 ≤ z2 ∧ z2 ≤ 65535) (e : Int)
    (he : e = (if 16383 < z0 then 1 else if z2 % 256 ≠ 2 then (if z2 % 256 ≠ 3 then 1 else if 200 < d.length then 3 else 0) else if 200 < d.length then 3 else 0)) :
    ∃ H', Kp n0 H H' ∧ H'.Wf ∧ ∀ (R : Type) kN kR, g7_p2 g9 g31 g17 g18 g23 g10 g25 g24 g20 g28 g32 g33 g27 g26 R s e m.k m.f m.t m.c m.n m.x m.u sm z0 z1 z2 z3 (some (x, 0)) (some (y, 0)) H kN kR = kN s false m.k m.f m.t m.c m.n m.x m.u sm z0 z1 z2 z3 H' := by
  have bd0 : D0.Bd := ⟨by decide, by decide, by decide, by decide⟩
  obtain ⟨r, e', D', er, ee, hr, hall, hw', hr0, hr1⟩ := req0 z0 (z2 % 256) d
  rw [← ee] at he
  subst he
  obtain ⟨H1, e1, g1⟩ := s18 h.a bd0 (to := z0) (cls := z2 % 256) hz0.1 hs
  rw [er] at e1 g1
  have hy := h.b.keep g1.da.wf g1.st h.dj
  have hdm1 := hdm.kp g1.st.kp
  obtain ⟨H2, e2, g2⟩ := s25 hy bd0 (fun s hs => (by cases hs)) (fr := z0) hm hdm1
  have start : ∀ (R : Type) kN kR, g7_p2 g9 g31 g17 g18 g23 g10 g25 g24 g20 g28 g32 g33 g27 g26 R s e m.k m.f m.t m.c m.n m.x m.u sm z0 z1 z2 z3 (some (x, 0)) (some (y, 0)) H kN kR =
      if 16383 < z0 then (sel ((D0.hear z0 m).1 != 1) (kN s true m.k m.f m.t m.c m.n m.x m.u sm z0 z1 z2 z3 H2) (g23 R (some (y, 0)) H2 fun a h1 => g24 R (some (y, 0)) h1 fun b h2 => g20 R (some (y, 0)) h2 fun c h3 => if V.same (V.i .i64 ((b.len : Nat) : Int)) (V.i .i64 ((b.len : Nat) : Int)) = true then kN s (decide ((IntKind.wrap .i64 ((IntKind.wrap .i64 (a + ((b.len : Nat) : Int))) + ((c.len : Nat) : Int))) > (0 : Int))) m.k m.f m.t m.c m.n m.x m.u sm z0 z1 z2 z3 h3 else none))
      else sel ((D0.hear z0 m).1 != m.ck) (kN s true m.k m.f m.t m.c m.n m.x m.u sm z0 z1 z2 z3 H2) (sel (m.ck != 0) (g23 R (some (y, 0)) H2 fun a h1 => g24 R (some (y, 0)) h1 fun b h2 => g20 R (some (y, 0)) h2 fun c h3 => if V.same (V.i .i64 ((b.len : Nat) : Int)) (V.i .i64 ((b.len : Nat) : Int)) = true then kN s (decide ((IntKind.wrap .i64 ((IntKind.wrap .i64 (a + ((b.len : Nat) : Int))) + ((c.len : Nat) : Int))) > (0 : Int))) m.k m.f m.t m.c m.n m.x m.u sm z0 z1 z2 z3 h3 else none) (kN s false m.k m.f m.t m.c m.n m.x m.u sm z0 z1 z2 z3 H2)) := by
    intro R kN kR
    simp only [g7_p2]
    rw [wr8, e1, bne_self_eq_false, sel_false, hr, Bool.not_true, sel_false, s23 g1.da hw', hall, w64 (by omega), bne_self_eq_false, sel_false, s10 hm hdm.bs.len, e2, e2, selD]
  by_cases hz : 16383 < z0
  · have hh : D0.hear z0 m = (1, D0) := by unfold Dk.hear; rw [if_pos hz]
    rw [hh] at g2
    obtain ⟨H3, k3, w3, e3⟩ := quiet g2.da
    refine ⟨H3, (g1.st.kp.trans g2.st.kp).trans k3, w3, fun R kN kR => ?_⟩
    rw [start, if_pos hz, hh, bne_self_eq_false, sel_false]
    exact e3 R fun b h => kN s b m.k m.f m.t m.c m.n m.x m.u sm z0 z1 z2 z3 h
  · by_cases hc : m.ck = 0
    · have hh : (D0.hear z0 m).1 = m.ck := by
        unfold Dk.hear
        rw [if_neg hz, hc, if_neg (by simp)]
        split
        · rfl
        · split <;> rfl
      refine ⟨H2, g1.st.kp.trans g2.st.kp, g2.da.wf, fun R kN kR => ?_⟩
      rw [start, if_neg hz, hh, bne_self_eq_false, sel_false, hc, show ((0 : Int) != 0) = false from rfl, sel_false]
    · have hh : D0.hear z0 m = (m.ck, D0) := by unfold Dk.hear; rw [if_neg hz, if_pos hc]
      rw [hh] at g2
      obtain ⟨H3, k3, w3, e3⟩ := quiet g2.da
      refine ⟨H3, (g1.st.kp.trans g2.st.kp).trans k3, w3, fun R kN kR => ?_⟩
      rw [start, if_neg hz, hh, bne_self_eq_false, sel_false, show (m.ck != 0) = true by simpa using hc, sel_true]
      exact e3 R fun b h => kN s b m.k m.f m.t m.c m.n m.x m.u sm z0 z1 z2 z3 h
/-- the first part -/
theorem p1_law (hw : H.Wf) {m : Cm} {sm : Sl} (hm : m.Ok) (hdm : Dat H.next H sm m.d) (o0 o1 o2 o3 : Int) (z0 z1 z2 z3 : Int) (hz0 : 0 ≤ z0 ∧ z0 ≤ 65535) (hz1 : 0 ≤ z1 ∧ z1 ≤ 65535) (hz2 : 0 ≤ z2 ∧ z2 ≤ 65535) (hz3 : 0 ≤ z3 ∧ z3 ≤ 65535) (t7 : Int) (H1 : Heap) (k1 : Kp H.next H H1) (w1 : H1.Wf) (e1 : ∀ (R : Type), ∃ a, ∀ (K : Option (Nat × Nat) → Int → Heap → Option R), g31 R o0 o1 o2 o3 H K = K a t7 H1) :
    g7_p11 g9 g31 g17 g18 g23 g10 g25 g24 g20 g28 g32 g33 g27 g26 Bool t7 o0 o1 o2 o3 m.k m.f m.t m.c m.n m.x m.u sm z0 z1 z2 z3 H (fun r _ => some r) = some true := by
  obtain ⟨a, e1⟩ := e1 Bool
  obtain ⟨x, y, H2, F, G, e2, d2, x2, w2⟩ := s17 w1 k1.nx (w := 1) (wt := 9) (idl := 9) (fz := 9) (by omega) (by omega)
  obtain ⟨dz, xz, wz⟩ := zeros_dat (n0 := H.next) w2 (Int.toNat (z1 % 300))
  have k3 : Kp H.next H (H2.new (.cells (bcs (List.replicate (Int.toNat (z1 % 300)) 0)) 5 false)) := (k1.trans (.ext x2)).trans (.ext xz)
  obtain ⟨H4, k4, w4, e4⟩ := p2_law (h := ⟨d2.a.ext wz xz, d2.b.ext wz xz, d2.dj⟩) dz hm (hdm.kp k3) z0 z1 z2 z3 hz0 hz2 _ rfl
  have ez : IntKind.wrap .i64 (Int.tmod z1 300) = z1 % 300 := by rw [tmodp hz1.1, w64 (by omega)]
  have p1 : ∀ kN kR, g7_p1 g9 g31 g17 g18 g23 g10 g25 g24 g20 g28 g32 g33 g27 g26 Bool t7 o0 o1 o2 o3 m.k m.f m.t m.c m.n m.x m.u sm z0 z1 z2 z3 H kN kR = kN ⟨some (H2.next, 0), Int.toNat (z1 % 300), .ex (Int.toNat (z1 % 300))⟩ (if 16383 < z0 then 1 else if z2 % 256 ≠ 2 then (if z2 % 256 ≠ 3 then 1 else if 200 < (List.replicate (Int.toNat (z1 % 300)) (0 : Int)).length then 3 else 0) else if 200 < (List.replicate (Int.toNat (z1 % 300)) (0 : Int)).length then 3 else 0) m.k m.f m.t m.c m.n m.x m.u sm z0 z1 z2 z3 (some (x, 0)) (some (y, 0)) (H2.new (.cells (bcs (List.replicate (Int.toNat (z1 % 300)) 0)) 5 false)) := by
    intro kN kR
    simp only [g7_p1]
    rw [e1, e2, bne_self_eq_false, sel_false, Bool.not_true, sel_false, ez, mk5 H2 (z1 % 300) (by omega), selD, tmodp hz2.1, List.length_replicate]
    by_cases c1 : 16383 < z0
    · rw [if_pos c1, if_pos c1]
    rw [if_neg c1, if_neg c1, bne_sel, bne_sel, selD]
    by_cases c4 : 200 < Int.toNat (z1 % 300)
    · rw [if_pos c4, if_pos (show (((Int.toNat (z1 % 300)) : Nat) : Int) > 200 by omega)]
      by_cases c2 : z2 % 256 = 2
      · rw [if_pos c2, if_neg (by simpa using c2)]
      · rw [if_neg c2, if_pos c2]
        by_cases c3 : z2 % 256 = 3
        · rw [if_pos c3, if_neg (by simpa using c3)]
        · rw [if_neg c3, if_pos c3]
    · rw [if_neg c4, if_neg (show ¬(((Int.toNat (z1 % 300)) : Nat) : Int) > 200 by omega)]
      by_cases c2 : z2 % 256 = 2
      · rw [if_pos c2, if_neg (by simpa using c2)]
      · rw [if_neg c2, if_pos c2]
        by_cases c3 : z2 % 256 = 3
        · rw [if_pos c3, if_neg (by simpa using c3)]
        · rw [if_neg c3, if_pos c3]
  simp only [g7_p11, p1, g7_p10, e4]
  exact p9_law w4 (k3.trans k4).nx (dz.kp k4) m.k m.f m.t m.c m.n m.x m.u sm z0 z1 z2 z3 hz3
end
theorem want (o0 o1 o2 o3 m0 m1 m2 m3 m4 m5 m6 : Int) (m7 : Sl) (z0 z1 z2 z3 : Int) (H : Heap) (hl : ¬m7.len > 300) (kN) (kR) :
    g7_p0 g9 g31 g17 g18 g23 g10 g25 g24 g20 g28 g32 g33 g27 g26 Bool o0 o1 o2 o3 m0 m1 m2 m3 m4 m5 m6 m7 z0 z1 z2 z3 H kN kR = kN (if o0 < 1 ∨ o1 < 1 ∨ o2 < 1 ∨ o3 < 1 then 1 else if o0 > 63 ∨ o1 > 1048576 ∨ o2 > 1048576 ∨ o3 > 1048576 then 3 else 0) o0 o1 o2 o3 m0 m1 m2 m3 m4 m5 m6 m7 z0 z1 z2 z3 H := by
  simp only [g7_p0]
  rw [selD, if_neg (by omega)]
  simp only [selD]
  by_cases a0 : o0 < 1
  · rw [if_pos a0, if_pos (by omega)]
  by_cases a1 : o1 < 1
  · rw [if_neg a0, if_pos a1, if_pos (by omega)]
  by_cases a2 : o2 < 1
  · rw [if_neg a0, if_neg a1, if_pos a2, if_pos (by omega)]
  by_cases a3 : o3 < 1
  · rw [if_neg a0, if_neg a1, if_neg a2, if_pos a3, if_pos (by omega)]
  rw [if_neg a0, if_neg a1, if_neg a2, if_neg a3, if_neg (show ¬(o0 < 1 ∨ o1 < 1 ∨ o2 < 1 ∨ o3 < 1) by omega)]
  by_cases b0 : o0 > 63
  · rw [if_pos b0, if_pos (by omega)]
  by_cases b1 : o1 > 1048576
  · rw [if_neg b0, if_pos b1, if_pos (by omega)]
  by_cases b2 : o2 > 1048576
  · rw [if_neg b0, if_neg b1, if_pos b2, if_pos (by omega)]
  by_cases b3 : o3 > 1048576
  · rw [if_neg b0, if_neg b1, if_neg b2, if_pos b3, if_pos (by omega)]
  rw [if_neg b0, if_neg b1, if_neg b2, if_neg b3, if_neg (by omega)]
theorem connectionsErrors_true (H : Heap) (hw : H.Wf) (o0 o1 o2 o3 m0 m1 m2 m3 m4 m5 m6 : Int) (m7 : Sl) (z0 z1 z2 z3 : Int)
    (k1 : (Lit.int .i64 o0).wf = true) (k2 : (Lit.int .i64 o1).wf = true) (k3 : (Lit.int .i64 o2).wf = true) (k4 : (Lit.int .i64 o3).wf = true)
    (k5 : (Lit.int .u8 m0).wf = true) (k6 : (Lit.int .u32 m1).wf = true) (k7 : (Lit.int .u32 m2).wf = true) (k8 : (Lit.int .u8 m3).wf = true) (k9 : (Lit.int .u8 m4).wf = true) (k10 : (Lit.int .u8 m5).wf = true) (k11 : (Lit.int .u8 m6).wf = true) (k12 : ArgSl H [.i .u8] m7)
    (k13 : (Lit.int .u16 z0).wf = true) (k14 : (Lit.int .u16 z1).wf = true) (k15 : (Lit.int .u16 z2).wf = true) (k16 : (Lit.int .u16 z3).wf = true) :
    g7 Bool o0 o1 o2 o3 m0 m1 m2 m3 m4 m5 m6 m7 z0 z1 z2 z3 H (fun r _ => some r) = some true := by
  simp only [g7, g7_r, g7_p12]
  by_cases hl : m7.len > 300
  · simp only [g7_p0]
    rw [decide_eq_true (by omega), sel_true, s9]
  rw [want _ _ _ _ _ _ _ _ _ _ _ _ _ _ _ _ _ hl]
  obtain ⟨d, hs, hb, hcap, _, _⟩ := bs_of_arg k12
  have hdat : Dat H.next H m7 d := by
    refine ⟨hs, ?_, hcap⟩
    by_cases hl : d = []
    · exact .inl hl
    · obtain ⟨q, vs, e, ro, h1, h2, h3, h4⟩ := hs.there hl
      exact .inr ⟨q, h1, hw _ _ h2, .inl (hw _ _ h2)⟩
  have hok : (⟨m0, m1, m2, m3, m4, m5, m6, d⟩ : Cm).Ok := ⟨wfU8 k5, wfU32 k6, wfU32 k7, wfU8 k8, wfU8 k9, wfU8 k10, wfU8 k11⟩
  have fin := fun t7 H1 a b c => p1_law hw hok hdat o0 o1 o2 o3 z0 z1 z2 z3 (wfU16 k13) (wfU16 k14) (wfU16 k15) (wfU16 k16) t7 H1 a b c
  by_cases c1 : o0 < 1 ∨ o1 < 1 ∨ o2 < 1 ∨ o3 < 1
  · rw [if_pos c1]
    exact fin _ H (.refl _ _) hw fun R => ⟨none, fun K => s31_arg c1 K⟩
  rw [if_neg c1]
  by_cases c2 : o0 > 63 ∨ o1 > 1048576 ∨ o2 > 1048576 ∨ o3 > 1048576
  · rw [if_pos c2]
    exact fin _ H (.refl _ _) hw fun R => ⟨none, fun K => s31_lim c1 c2 K⟩
  rw [if_neg c2]
  obtain ⟨H1, e1, _, x1, w1⟩ := s31_ok (n0 := H.next) hw (Nat.le_refl _) (w := o0) (wt := o1) (idl := o2) (fz := o3) (by omega) (by omega)
  exact fin _ H1 (.ext x1) w1 fun R => ⟨_, fun K => e1 R K⟩
end Go.Proofs.Ytnlfkllnmobppaa

