/- A law's times and its alignment at once; AlignmentsAlone. -/
import Derived.Test.YtkldpkemnmmbgaaAS5
namespace Go.Proofs.Ytkldpkemnmmbgaa
open Go AM Go.RowKit
set_option linter.unusedVariables false
set_option linter.unusedSimpArgs false

abbrev Tm.us (t : Tm) : O := .cells [.i .u8 t.a, .i .u8 t.b, .i .u8 t.c, .i .u8 t.d, .i .u8 t.e, .i .u8 t.f, .i .u8 t.g] 23 false
abbrev Tm.z : O := .cells [.i .i64 0, .i .i64 0, .i .i64 0, .i .i64 0, .i .i64 0, .i .i64 0, .i .i64 0] 28 false
abbrev Tm.o (t : Tm) : O := .cells [.i .i64 t.al.seek, .i .i64 t.al.hold, .i .i64 t.al.norm, .i .i64 t.al.emer, .i .i64 t.al.few, .i .i64 t.al.fewer, .i .i64 t.al.most] 28 false
theorem pre {H : Heap} (hw : H.Wf) {t : Tm} (ht : t.Ok) : ∃ Y Z x W, (∀ (R : Type) (K : Int → Int → Int → Int → Int → Int → Int → Heap → Option R), g9 R t.a t.b t.c t.d t.e t.f t.g (H.new t.us) K = K t.al.seek t.al.hold t.al.norm t.al.emer t.al.few t.al.fewer t.al.most Y) ∧
    (Y.new Tm.z).sts Y.next 0 [.i .i64 t.al.seek, .i .i64 t.al.hold, .i .i64 t.al.norm, .i .i64 t.al.emer, .i .i64 t.al.few, .i .i64 t.al.fewer, .i .i64 t.al.most] = some Z ∧
    (∀ (R : Type) (K : Option (Nat × Nat) → Int → Heap → Option R), g10 R t.al.seek t.al.hold t.al.norm t.al.emer t.al.few t.al.fewer t.al.most Z K = K (some (x, 0)) 0 W) ∧
    AlS W (fun i => i < Z.next) x t.al ∧ Keep (fun i => i < H.next) H W ∧ H.next ≤ Z.next ∧ W.get Y.next = some t.o ∧ Z.get Y.next = some t.o ∧ Y.next < Z.next := by
  have hw1 := hw.new t.us
  have x1 := Ext.new H t.us
  obtain ⟨Y, e9, hwY, xY⟩ := s9 hw1 ht
  have xY' := x1.trans xY
  have g2 := Heap.gnew Y Tm.z
  have hst : (Y.new Tm.z).sts Y.next 0 [.i .i64 t.al.seek, .i .i64 t.al.hold, .i .i64 t.al.norm, .i .i64 t.al.emer, .i .i64 t.al.few, .i .i64 t.al.fewer, .i .i64 t.al.most] = some ((Y.new Tm.z).put Y.next t.o) := by
    rw [sts_of g2 (by simp) rfl]; rfl
  have hwZ : ((Y.new Tm.z).put Y.next t.o).Wf := (hwY.new _).put g2 _
  have xZ : Ext H ((Y.new Tm.z).put Y.next t.o) := (xY'.trans (Ext.new Y Tm.z)).above (by have := xY'.next; omega) _
  have gZ := Heap.gput (Y.new Tm.z) Y.next t.o
  have hn : ((Y.new Tm.z).put Y.next t.o).next = Y.next + 1 := rfl
  generalize (Y.new Tm.z).put Y.next t.o = Z at *
  have h10 := s10 (F := fun i => i < Z.next) hwZ (fun i hi => hi) t.al ⟨rfl, rfl, rfl, rfl, rfl⟩
  rw [if_pos (al_all (Tm.al_ok ht).toTOk)] at h10
  obtain ⟨x, W, e10, a10, x10, _⟩ := h10
  exact ⟨Y, Z, x, W, e9, hst, e10, a10, Ext.keep (xZ.trans x10), by have := xY'.next; omega, x10.get hwZ gZ, gZ, by omega⟩
theorem us_ld (H : Heap) (t : Tm) : (H.new t.us).ldI .u8 H.next 0 = some t.a ∧ (H.new t.us).ldI .u8 H.next 1 = some t.b ∧ (H.new t.us).ldI .u8 H.next 2 = some t.c ∧ (H.new t.us).ldI .u8 H.next 3 = some t.d ∧ (H.new t.us).ldI .u8 H.next 4 = some t.e ∧ (H.new t.us).ldI .u8 H.next 5 = some t.f ∧ (H.new t.us).ldI .u8 H.next 6 = some t.g :=
  ⟨ldI_of (Heap.gnew _ _) rfl, ldI_of (Heap.gnew _ _) rfl, ldI_of (Heap.gnew _ _) rfl, ldI_of (Heap.gnew _ _) rfl, ldI_of (Heap.gnew _ _) rfl, ldI_of (Heap.gnew _ _) rfl, ldI_of (Heap.gnew _ _) rfl⟩
theorem o_ld {Z : Heap} {y : Nat} {t : Tm} (h : Z.get y = some t.o) : Z.ldI .i64 y 0 = some t.al.seek ∧ Z.ldI .i64 y 1 = some t.al.hold ∧ Z.ldI .i64 y 2 = some t.al.norm ∧ Z.ldI .i64 y 3 = some t.al.emer ∧ Z.ldI .i64 y 4 = some t.al.few ∧ Z.ldI .i64 y 5 = some t.al.fewer ∧ Z.ldI .i64 y 6 = some t.al.most :=
  ⟨ldI_of h rfl, ldI_of h rfl, ldI_of h rfl, ldI_of h rfl, ldI_of h rfl, ldI_of h rfl, ldI_of h rfl⟩
/-- an alignment with the law's times that has not yet proved -/
def Tm.at (t : Tm) (p l : Int) : Al := { t.al with ph := p, left := l }
theorem Tm.at_ok {t : Tm} (ht : t.Ok) {p l : Int} (hp : 0 ≤ p ∧ p ≤ 5) (h3 : p ≠ 3) (hl : 0 ≤ l ∧ l ≤ 1048576) : (t.at p l).Ok := by
  obtain ⟨⟨h1, h2, h3, h4, h5, h6, h7, h8, h9⟩, _⟩ := Tm.al_ok ht
  exact ⟨⟨h1, h2, h3, h4, h5, h6, h7, hl, h9⟩, hp, fun e => absurd e (by simpa [Tm.at] using by assumption)⟩
theorem Tm.seek {t : Tm} (ht : t.Ok) : 1 ≤ t.al.seek ∧ t.al.seek ≤ 12 := by have := ht.a; simp only [Tm.al]; omega
theorem at_start {t : Tm} {p : Int} (h : p = 0 ∨ p = 5) : (t.at p 0).start false = (t.at 1 t.al.seek, 0) := by
  unfold Al.start; rw [if_neg (by simp [Tm.at]; omega)]; simp [Tm.at, Al.enter, Tm.al]
theorem at_start1 {t : Tm} {l : Int} : (t.at 1 l).start false = (t.at 1 l, 6) := by
  unfold Al.start; rw [if_pos (by simp [Tm.at])]
theorem at_tick0 {t : Tm} : t.al.tick = t.al := by unfold Al.tick; rw [if_pos (show t.al.left = 0 from rfl)]
theorem at_tick {t : Tm} {l : Int} (h : 1 ≤ l) : (t.at 1 l).tick = if l = 1 then t.at 5 0 else t.at 1 (l - 1) := by
  unfold Al.tick
  have hl : (t.at 1 l).left = l := rfl
  have hp : (t.at 1 l).ph = 1 := rfl
  rw [hl, hp, if_neg (by omega)]
  by_cases h1 : l = 1
  · rw [if_pos h1, if_neg (by omega), if_neg (by omega)]; simp [Tm.at, Al.enter]
  · rw [if_neg h1, if_pos (by omega)]; rfl
theorem at_wrong {t : Tm} {l : Int} : (t.at 1 l).wrong = t.at 1 l := by unfold Al.wrong; rw [if_neg (by simp [Tm.at])]
theorem al_at {t : Tm} : t.al = t.at 0 0 := rfl
def Tm.al1 (t : Tm) (k : Nat) : Al := if (k : Int) < t.al.seek then t.at 1 (t.al.seek - k) else t.at 5 0
theorem al1_lt {t : Tm} {k : Nat} (h : (k : Int) < t.al.seek) : t.al1 k = t.at 1 (t.al.seek - k) := if_pos h
theorem al1_next {t : Tm} {k : Nat} (h : (k : Int) < t.al.seek) : (t.al1 k).tick = t.al1 (k + 1) := by
  rw [al1_lt h, at_tick (by omega)]
  unfold Tm.al1
  split
  · rw [if_neg (by omega)]
  · rw [if_pos (by omega)]; congr 1; omega
theorem al1_ok {t : Tm} (ht : t.Ok) (k : Nat) : (t.al1 k).Ok := by
  have := Tm.seek ht
  unfold Tm.al1
  split
  · exact Tm.at_ok ht (by omega) (by omega) (by omega)
  · exact Tm.at_ok ht (by omega) (by omega) (by omega)
section
variable {x y : Nat} {F : Nat → Prop} {s1 : Sl} {l1 : List Bool} {t : Tm}
theorem alone_in (ht : t.Ok) {X : Heap} (h : AlS X F x (t.al1 0)) (hb : BoR X F s1 l1) (hy : X.get y = some t.o) (hF : F y) (rnd : Int) :
    ∃ X', tlim (g6_p5_b g9 g10 g12 g13 g11 g18 g19 g15 g24 g22 g16) (s1, y, 0, some (x, 0), rnd, 0) X = some (.inl (s1, y, 0, some (x, 0), rnd), X') ∧ AlS X' F x (t.at 5 0) ∧ Keep F X X' := by
  have hsk := Tm.seek ht
  obtain ⟨r, X', e, rfl, h1⟩ := tlim_inv (b := g6_p5_b g9 g10 g12 g13 g11 g18 g19 g15 g24 g22 g16)
    (fun st G => ∃ (i : Nat), st = (s1, y, 0, some (x, 0), rnd, (i : Int)) ∧ (i : Int) ≤ t.al.seek ∧ AlS G F x (t.al1 i) ∧ Keep F X G) (fun st => t.al.seek.toNat - st.2.2.2.2.2.toNat)
    (fun r G => r = .inl (s1, y, 0, some (x, 0), rnd) ∧ AlS G F x (t.at 5 0) ∧ Keep F X G) (by
      rintro st G ⟨i, rfl, hi, hG, hk⟩
      have hbl := hb.len
      obtain ⟨l0, _⟩ := o_ld ((hk y hF).trans hy)
      by_cases hil : (i : Int) < t.al.seek
      · left
        have hG' := hG
        rw [al1_lt hil] at hG'
        have hok := Tm.at_ok ht (p := 1) (l := t.al.seek - i) (by omega) (by omega) (by omega)
        have hd : decide ((i : Int) < t.al.seek) = true := by simpa using hil
        have w1 : IntKind.wrap .i64 ((i : Int) + 1) = ((i + 1 : Nat) : Int) := by rw [w64 (by omega)]; rfl
        have w2 : IntKind.wrap .i64 (t.al.seek - (i : Int)) = t.al.seek - (i : Int) := w64 (by omega)
        obtain ⟨Y, t1, t2, t3, t4⟩ := a_tick hG (al1_ok ht i) (by rw [al1_lt hil]; simp [Tm.at, Tm.al])
        rw [al1_next hil] at t2 t4
        have p1 : (t.at 1 (t.al.seek - i)).ph = 1 := rfl
        have p2 : (t.at 1 (t.al.seek - i)).left = t.al.seek - i := rfl
        have mG : t.al.seek.toNat - (i + 1) < t.al.seek.toNat - i := by omega
        by_cases c1 : i < l1.length
        · have hd1 : decide ((i : Int) < ((s1.len : Nat) : Int)) = true := by simp; omega
          obtain ⟨id, off, e1, e2, _⟩ := (hb.keep hk).rd i c1
          cases hq : l1[i] with
          | false =>
            rw [hq] at e2
            refine ⟨_, Y, ?_, ⟨i + 1, rfl, by omega, t2, hk.trans t3⟩, mG⟩
            simp only [g6_p5_b, g6_p4, Nat.zero_add, l0, Option.bind_some, hd, sel_true, a_phase hG', p1, bne_self_eq_false, sel_false, a_left hG', p2, w2, same_i, if_true, hd1]
            rw [if_pos (by omega)]
            simp only [e1, Option.bind_some, Int.toNat_natCast, Nat.mul_one, e2, sel_false, t1, w1]
          | true =>
            rw [hq] at e2
            obtain ⟨Q, q1, q2, q3, q4⟩ := a_wrong hG' hok (by simp [Tm.at, Tm.al])
            rw [at_wrong, ← al1_lt hil] at q2
            obtain ⟨Y', t1', t2', t3', t4'⟩ := a_tick q2 (al1_ok ht i) (by rw [al1_lt hil]; simp [Tm.at, Tm.al])
            rw [al1_next hil] at t2'
            refine ⟨_, Y', ?_, ⟨i + 1, rfl, by omega, t2', (hk.trans q3).trans t3'⟩, mG⟩
            simp only [g6_p5_b, g6_p4, Nat.zero_add, l0, Option.bind_some, hd, sel_true, a_phase hG', p1, bne_self_eq_false, sel_false, a_left hG', p2, w2, same_i, if_true, hd1]
            rw [if_pos (by omega)]
            simp only [e1, Option.bind_some, Int.toNat_natCast, Nat.mul_one, e2, sel_true, q1, t1', w1]
        · have hd1 : decide ((i : Int) < ((s1.len : Nat) : Int)) = false := by simp; omega
          refine ⟨_, Y, ?_, ⟨i + 1, rfl, by omega, t2, hk.trans t3⟩, mG⟩
          simp only [g6_p5_b, g6_p4, Nat.zero_add, l0, Option.bind_some, hd, sel_true, a_phase hG', p1, bne_self_eq_false, sel_false, a_left hG', p2, w2, same_i, if_true, hd1, t1, w1]
      · right
        have hd : decide ((i : Int) < t.al.seek) = false := by simpa using hil
        refine ⟨_, G, by simp only [g6_p5_b, g6_p4, Nat.zero_add, l0, Option.bind_some, hd, sel_false], rfl, ?_, hk⟩
        unfold Tm.al1 at hG; rw [if_neg hil] at hG; exact hG) (s1, y, 0, some (x, 0), rnd, 0) X ⟨0, rfl, by omega, h, .refl _ _⟩
  exact ⟨X', e, h1⟩
theorem alone_out (ht : t.Ok) {X : Heap} (h : AlS X F x (t.at 0 0)) (hb : BoR X F s1 l1) (hy : X.get y = some t.o) (hF : F y) :
    ∃ X', tlim (g6_p14_b g9 g10 g12 g13 g11 g18 g19 g15 g24 g22 g16) (s1, y, 0, some (x, 0), 0) X = some (.inl (some (x, 0)), X') ∧ AlS X' F x (t.at 5 0) := by
  have hsk := Tm.seek ht
  obtain ⟨r, X', e, rfl, h1⟩ := tlim_inv (b := g6_p14_b g9 g10 g12 g13 g11 g18 g19 g15 g24 g22 g16)
    (fun st G => ∃ (i : Nat) (p : Int), st = (s1, y, 0, some (x, 0), (i : Int)) ∧ i ≤ 2 ∧ (p = 0 ∨ p = 5) ∧ (i = 2 → p = 5) ∧ AlS G F x (t.at p 0) ∧ Keep F X G) (fun st => 2 - st.2.2.2.2.toNat)
    (fun r G => r = .inl (some (x, 0)) ∧ AlS G F x (t.at 5 0)) (by
      rintro st G ⟨i, p, rfl, hi, hp, hp2, hG, hk⟩
      by_cases hil : i < 2
      · left
        have hok := Tm.at_ok ht (p := p) (l := 0) (by omega) (by omega) (by omega)
        obtain ⟨Y1, a1, a2, a3, a4⟩ := a_start hG hok false
        rw [at_start hp] at a1 a2 a4
        obtain ⟨Y2, b1, b2, b3, b4⟩ := a_start a2 a4 false
        rw [at_start1] at b1 b2 b4
        have hk2 := (hk.trans a3).trans b3
        have e0 : t.at 1 t.al.seek = t.al1 0 := by rw [al1_lt (by omega)]; congr 1; simp
        rw [e0] at b2
        obtain ⟨Y3, c1, c2, c3⟩ := alone_in ht b2 (hb.keep hk2) ((hk2 y hF).trans hy) hF (i : Int)
        have w1 : IntKind.wrap .i64 ((i : Int) + 1) = ((i + 1 : Nat) : Int) := by rw [w64 (by omega)]; rfl
        have hd : decide ((i : Int) < 2) = true := by simp; omega
        refine ⟨_, Y3, ?_, ⟨i + 1, 5, rfl, by omega, .inr rfl, fun _ => rfl, c2, hk2.trans c3⟩, by dsimp only; omega⟩
        have q1 : (t.at 5 0).ph = 5 := rfl
        have q2 : (t.at 5 0).left = 0 := rfl
        have q3 : (t.at 5 0).prov = 0 := rfl
        simp only [g6_p14_b, g6_p13, g6_p12, g6_p11, g6_p10, g6_p9, g6_p8, g6_p7, g6_p6, g6_p5, g6_p3, g6_p2, hd, sel_true, a1, b1, bne_self_eq_false, sel_false, c1, Option.bind_some, cas, a_phase c2, a_left c2, a_prov c2, q1, q2, q3, w1]
      · right
        have hd : decide ((i : Int) < 2) = false := by simp; omega
        refine ⟨_, G, by simp only [g6_p14_b, g6_p13, g6_p2, hd, sel_false], rfl, ?_⟩
        rw [hp2 (by omega)] at hG; exact hG) (s1, y, 0, some (x, 0), 0) X ⟨0, 0, rfl, by omega, .inl rfl, fun h => absurd h (by omega), h, .refl _ _⟩
  exact ⟨X', e, h1⟩
end
theorem alone_true (H : Heap) (hw : H.Wf) {t : Tm} (ht : t.Ok) {s1 : Sl} (h1 : ArgSl H [.b] s1) :
    g6 Bool t.a t.b t.c t.d t.e t.f t.g s1 H (fun r _ => some r) = some true := by
  obtain ⟨l1, b1⟩ := boR_of hw h1
  obtain ⟨Y, Z, x, W, e1, e2, e3, hA, hk, hn, gW, gZ, hy⟩ := pre hw ht
  obtain ⟨u0, u1, u2, u3, u4, u5, u6⟩ := us_ld H t
  obtain ⟨o0, o1, o2, o3, o4, o5, o6⟩ := o_ld gZ
  obtain ⟨V, t1, t2, t3, t4⟩ := a_tick hA (Tm.al_ok ht) (by simp [Tm.al])
  rw [at_tick0, al_at] at t2
  have hb := ((b1.keep hk).mono (G := fun i => i < Z.next) (fun i hi => by omega)).keep t3
  obtain ⟨V2, c1, c2⟩ := alone_out ht t2 hb ((t3 _ hy).trans gW) hy
  obtain ⟨V3, d1, d2, d3, d4⟩ := a_stop c2 (Tm.at_ok ht (by omega) (by omega) (by omega)) (by simp [Tm.at, Tm.al])
  have q1 : ((t.at 5 0).enter 0).ph = 0 := rfl
  have q2 : ((t.at 5 0).enter 0).sends = 9 := rfl
  have q3 : (t.at 0 0).ph = 0 := rfl
  simp only [g6, g6_r, g6_p19, g6_p18, g6_p17, g6_p16, g6_p15, g6_p14, g6_p1, g6_p0, alo, Nat.zero_add, Nat.add_zero, u0, u1, u2, u3, u4, u5, u6, Option.bind_some, e1, e2, o0, o1, o2, o3, o4, o5, o6, e3, bne_self_eq_false, sel_false, Option.isNone_some, t1, a_phase t2, q3, c1, cas, d1, a_phase d2, q1, beq_self_eq_true, sel_true, s22 d2, q2, lv]
theorem alignmentsAlone_true (H : Heap) (hw : H.Wf) (a b c d e f g : Int) (s1 : Sl) (h1 : (Lit.int .u8 a).wf = true) (h2 : (Lit.int .u8 b).wf = true) (h3 : (Lit.int .u8 c).wf = true) (h4 : (Lit.int .u8 d).wf = true) (h5 : (Lit.int .u8 e).wf = true) (h6 : (Lit.int .u8 f).wf = true) (h7 : (Lit.int .u8 g).wf = true)
    (k1 : ArgSl H [.b] s1) : g6 Bool a b c d e f g s1 H (fun r _ => some r) = some true :=
  alone_true H hw (t := ⟨a, b, c, d, e, f, g⟩) ⟨wfU8 h1, wfU8 h2, wfU8 h3, wfU8 h4, wfU8 h5, wfU8 h6, wfU8 h7⟩ k1
end Go.Proofs.Ytkldpkemnmmbgaa

