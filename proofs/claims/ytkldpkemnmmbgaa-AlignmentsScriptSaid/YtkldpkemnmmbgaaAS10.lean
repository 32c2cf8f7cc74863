/- AlignmentsScript. -/
import Derived.Test.YtkldpkemnmmbgaaAS9
namespace Go.Proofs.Ytkldpkemnmmbgaa
open Go AM Go.RowKit
set_option linter.unusedVariables false
set_option linter.unusedSimpArgs false

theorem AlS.lt {X : Heap} {F : Nat → Prop} {x : Nat} {A : Al} (h : AlS X F x A) : x < X.next := by obtain ⟨_, g, _⟩ := h.obj; exact h.wf _ _ g
/-- more is there, of which one is foreign too -/
theorem AlS.more {X X' : Heap} {F : Nat → Prop} {x m : Nat} {A : Al} (h : AlS X F x A) (hx : Ext X X') (hw : X'.Wf) (h1 : X.next ≤ m) (h2 : m < X'.next) : AlS X' (fun i => F i ∨ i = m) x A := by
  have hl := h.lt
  obtain ⟨ev, g, e1, e2⟩ := h.obj
  refine ⟨hw, fun i hi => ?_, fun hf => ?_, ev, hx.get h.wf g, e1, fun hp => ?_⟩
  · rcases hi with hi | rfl
    · have := h.fin i hi; have := hx.next; omega
    · exact h2
  · rcases hf with hf | rfl
    · exact h.nx hf
    · omega
  · obtain ⟨e, a1, a2, a3, a4⟩ := e2 hp
    have := h.wf _ _ a4
    exact ⟨e, a1, a2, fun hf => by rcases hf with hf | rfl; exact a3 hf; omega, hx.get h.wf a4⟩
/-- a foreign object is written -/
theorem AlS.putF {X : Heap} {F : Nat → Prop} {x m : Nat} {A : Al} (h : AlS X F x A) (hm : F m) {o : O} (hg : X.get m = some o) (o' : O) : AlS (X.put m o') F x A := by
  obtain ⟨ev, g, e1, e2⟩ := h.obj
  have hx : x ≠ m := fun e => h.nx (e ▸ hm)
  refine ⟨h.wf.put hg _, fun i hi => h.fin i hi, h.nx, ev, by rw [Heap.get_put, if_neg hx, g], e1, fun hp => ?_⟩
  obtain ⟨e, a1, a2, a3, a4⟩ := e2 hp
  exact ⟨e, a1, a2, a3, by rw [Heap.get_put, if_neg (fun (q : e = m) => a3 (q ▸ hm)), a4]⟩
section
variable {x m : Nat} {N : Nat} {s : Sl} {l : List Int}
theorem script_loop {A : Al} {w : Int} (hA : A.Ok) (hN : A.Nice) (hP : A.prov ≤ 0) (hp3 : A.ph ≠ 3) (hlen : l.length ≤ 200) (hNm : N ≤ m) {X : Heap} (h : AlS X (fun i => i < N ∨ i = m) x A) (hb : ByR X (fun i => i < N) s l) (hm : X.get m = some (A.M w)) :
    ∃ X', tlim (g5_p9_b g16 g9 g10 g20 g21 g13 g18 g15 g22 g23) (s, some (x, 0), m, 0, 0) X = some (.inl (), X') := by
  obtain ⟨r, X', e, rfl⟩ := tlim_inv (b := g5_p9_b g16 g9 g10 g20 g21 g13 g18 g15 g22 g23)
    (fun st G => ∃ (i : Nat) (B : Al) (w : Int), st = (s, some (x, 0), m, 0, (i : Int)) ∧ i ≤ l.length ∧ AlS G (fun i => i < N ∨ i = m) x B ∧ Keep (fun i => i < N) X G ∧ B.Ok ∧ B.Nice ∧ B.prov ≤ i ∧ G.get m = some (B.M w) ∧ (B.ph = 3 → w = B.elv)) (fun st => l.length - st.2.2.2.2.toNat)
    (fun r G => r = .inl ()) (by
      rintro st G ⟨i, B, w, rfl, hi, hG, hk, hB, hN, hP, hgm, hw⟩
      have hbl := hb.len
      by_cases hil : i < l.length
      · left
        obtain ⟨id, off, e1, e2, _⟩ := (hb.keep hk).rd i hil
        have hbt := hb.byt l[i] (List.getElem_mem hil)
        have hd : decide ((i : Int) < ((s.len : Nat) : Int)) = true := by simp; omega
        have w1 : IntKind.wrap .i64 ((i : Int) + 1) = ((i + 1 : Nat) : Int) := by rw [w64 (by omega)]; rfl
        have key : ∀ a : Int, 0 ≤ a ∧ a ≤ 255 → (a ≤ 4 ∨ 8 ≤ a) → ∃ (G2 : Heap) (B' : Al) (c : Int) (G1 : Heap) (w' : Int), (∀ (R : Type) (K : Int → Heap → Option R), g20 R (some (x, 0)) a G K = K c G1) ∧ (∀ (R : Type) (K : Int → Heap → Option R), g21 R (some (m, 0)) a G1 K = K c G2) ∧
            AlS G2 (fun i => i < N ∨ i = m) x B' ∧ Keep (fun i => i < N) X G2 ∧ B'.Ok ∧ B'.Nice ∧ B'.prov ≤ (i + 1 : Nat) ∧ G2.get m = some (B'.M w') ∧ (B'.ph = 3 → w' = B'.elv) ∧ (∀ (R : Type) (K : Int → Heap → Option R), g23 R (some (m, 0)) G2 K = K B'.sends G2) := by
          intro a ha ha4
          obtain ⟨G1, t1, t2, t3, t4⟩ := s20 hG hB (by omega) ha
          obtain ⟨n1, n2⟩ := act_nice hN hB.left.1 a
          have hg1 : G1.get m = some (B.M w) := (t3 m (.inr rfl)).trans hgm
          obtain ⟨w', m1, m2⟩ := m21_act (Y := G1) (m := m) (w := w) hB (by omega) hw ha ha4
          rw [Heap.put_self hg1] at m1
          refine ⟨G1.put m ((B.act a).1.M w'), (B.act a).1, (B.act a).2, G1, w', t1, m1, t2.putF (.inr rfl) hg1 _, ?_, t4, n1, by have := hB.prov.1; omega, Heap.gput _ _ _, m2, fun R K => m23 K⟩
          intro j hj
          rw [Heap.get_put, if_neg (by omega)]
          exact (t3 j (.inl hj)).trans (hk j hj)
        have hgo : ∀ (a : Int) (k : Int → Heap → (Int → Int → Bool → Heap → Option (Rd g5_p9_S g5_p9_O × Heap)) → Option (Rd g5_p9_S g5_p9_O × Heap)), True := fun _ _ => trivial
        have main : ∃ (G2 : Heap) (B' : Al) (w' : Int), g5_p9_b g16 g9 g10 g20 g21 g13 g18 g15 g22 g23 (s, some (x, 0), m, 0, (i : Int)) G = some (.go (s, some (x, 0), m, 0, ((i + 1 : Nat) : Int)), G2) ∧
            AlS G2 (fun i => i < N ∨ i = m) x B' ∧ Keep (fun i => i < N) X G2 ∧ B'.Ok ∧ B'.Nice ∧ B'.prov ≤ (i + 1 : Nat) ∧ G2.get m = some (B'.M w') ∧ (B'.ph = 3 → w' = B'.elv) := by
          by_cases c1 : l[i] > 4
          · have d1 : decide (l[i] > 4) = true := by simpa using c1
            by_cases c2 : l[i] < 8
            · have d2 : decide (l[i] < 8) = true := by simpa using c2
              obtain ⟨G2, B', c, G1, w', k1, k2, k3, k4, k5, k6, k7, k8, k9, k10⟩ := key 4 (by omega) (by omega)
              refine ⟨G2, B', w', ?_, k3, k4, k5, k6, k7, k8, k9⟩
              simp only [g5_p9_b, g5_p8, g5_p7, g5_p6, g5_p5, g5_p4, g5_p3, g5_p2, g5_p1, hd, sel_true]
              rw [if_pos (by omega)]
              simp only [e1, Option.bind_some, Int.toNat_natCast, Nat.mul_one, e2, d1, d2, sel_true, k1, k2, bne_self_eq_false, sel_false, a_phase k3, a_left k3, a_prov k3, s22 k3, k10, Nat.zero_add, ldI_of (off := 7) k8 rfl, ldI_of (off := 8) k8 rfl, ldI_of (off := 11) k8 rfl, same_i, if_true, w1]
            · have d2 : decide (l[i] < 8) = false := by simpa using c2
              obtain ⟨G2, B', c, G1, w', k1, k2, k3, k4, k5, k6, k7, k8, k9, k10⟩ := key l[i] hbt (by omega)
              refine ⟨G2, B', w', ?_, k3, k4, k5, k6, k7, k8, k9⟩
              simp only [g5_p9_b, g5_p8, g5_p7, g5_p6, g5_p5, g5_p4, g5_p3, g5_p2, g5_p1, hd, sel_true]
              rw [if_pos (by omega)]
              simp only [e1, Option.bind_some, Int.toNat_natCast, Nat.mul_one, e2, d1, d2, sel_true, k1, k2, bne_self_eq_false, sel_false, a_phase k3, a_left k3, a_prov k3, s22 k3, k10, Nat.zero_add, ldI_of (off := 7) k8 rfl, ldI_of (off := 8) k8 rfl, ldI_of (off := 11) k8 rfl, same_i, if_true, w1]
          · have d1 : decide (l[i] > 4) = false := by simpa using c1
            obtain ⟨G2, B', c, G1, w', k1, k2, k3, k4, k5, k6, k7, k8, k9, k10⟩ := key l[i] hbt (by omega)
            refine ⟨G2, B', w', ?_, k3, k4, k5, k6, k7, k8, k9⟩
            simp only [g5_p9_b, g5_p8, g5_p7, g5_p6, g5_p5, g5_p4, g5_p3, g5_p2, g5_p1, hd, sel_true]
            rw [if_pos (by omega)]
            simp only [e1, Option.bind_some, Int.toNat_natCast, Nat.mul_one, e2, d1, sel_false, k1, k2, bne_self_eq_false, a_phase k3, a_left k3, a_prov k3, s22 k3, k10, Nat.zero_add, ldI_of (off := 7) k8 rfl, ldI_of (off := 8) k8 rfl, ldI_of (off := 11) k8 rfl, same_i, if_true, w1]
        obtain ⟨G2, B', w', q1, q2, q3, q4, q5, q6, q7, q8⟩ := main
        exact ⟨_, G2, q1, ⟨i + 1, B', w', rfl, by omega, q2, q3, q4, q5, q6, q7, q8⟩, by dsimp only; omega⟩
      · right
        have hd : decide ((i : Int) < ((s.len : Nat) : Int)) = false := by simp; omega
        exact ⟨_, G, by simp only [g5_p9_b, g5_p8, g5_p1, hd, sel_false], rfl⟩) (s, some (x, 0), m, 0, 0) X ⟨0, A, w, rfl, by omega, h, .refl _ _, hA, hN, hP, hm, fun e => absurd e hp3⟩
  exact ⟨X', e⟩
end
abbrev mz : O := .cells [(V.i .i64 (0 : Int)), (V.i .i64 (0 : Int)), (V.i .i64 (0 : Int)), (V.i .i64 (0 : Int)), (V.i .i64 (0 : Int)), (V.i .i64 (0 : Int)), (V.i .i64 (0 : Int)), (V.i .u8 (0 : Int)), (V.i .i64 (0 : Int)), (V.b false), (V.b false), (V.i .i64 (0 : Int)), (V.i .i64 (0 : Int))] 46 false
theorem script_true (H : Heap) (hw : H.Wf) {t : Tm} (ht : t.Ok) {s1 : Sl} (h1 : ArgSl H [.i .u8] s1) :
    g5 Bool t.a t.b t.c t.d t.e t.f t.g s1 H (fun r _ => some r) = some true := by
  obtain ⟨l1, b1⟩ := byR_of hw h1
  have hbl := b1.len
  have hw1 := hw.new t.us
  have x1 := Ext.new H t.us
  have g1 := Heap.gnew H t.us
  obtain ⟨u0, u1, u2, u3, u4, u5, u6⟩ := us_ld H t
  simp only [g5, g5_r, g5_p13, g5_p12, g5_p11, g5_p10, g5_p9, g5_p0, alo]
  by_cases c : s1.len > 200
  · have hd : decide (((s1.len : Nat) : Int) > 200) = true := by simp; omega
    simp only [hd, sel_true, lv]
  have hd : decide (((s1.len : Nat) : Int) > 200) = false := by simp; omega
  obtain ⟨Y, e9, hwY, xY⟩ := s9 hw1 ht
  have h10 := s10 (F := fun i => i < H.next) hwY (fun i hi => by have := (x1.trans xY).next; omega) t.al ⟨rfl, rfl, rfl, rfl, rfl⟩
  rw [if_pos (al_all (Tm.al_ok ht).toTOk)] at h10
  obtain ⟨x, Z, e10, a10, x10, _⟩ := h10
  have gZ : Z.get H.next = some t.us := Ext.get (xY.trans x10) hw1 g1
  obtain ⟨Q, e9', hwQ, xQ⟩ := s9 a10.wf ht
  have g2 := Heap.gnew Q mz
  have hst : (Q.new mz).sts Q.next 0 [.i .i64 t.al.seek, .i .i64 t.al.hold, .i .i64 t.al.norm, .i .i64 t.al.emer, .i .i64 t.al.few, .i .i64 t.al.fewer, .i .i64 t.al.most, (.i .u8 (0 : Int)), (.i .i64 (0 : Int)), (.b false), (.b false), (.i .i64 (0 : Int)), (.i .i64 (0 : Int))] = some ((Q.new mz).put Q.next (t.al.M 0)) := by
    rw [sts_of g2 (by simp) rfl]; rfl
  have xW : Ext Z ((Q.new mz).put Q.next (t.al.M 0)) := (xQ.trans (Ext.new Q mz)).above (by have := xQ.next; omega) _
  have aW := a10.more xW ((hwQ.new mz).put g2 _) (m := Q.next) (by have := xQ.next; omega) (by simp)
  have xH : Ext H ((Q.new mz).put Q.next (t.al.M 0)) := ((x1.trans xY).trans x10).trans xW
  have gm : ((Q.new mz).put Q.next (t.al.M 0)).get Q.next = some (t.al.M 0) := Heap.gput _ _ _
  generalize (Q.new mz).put Q.next (t.al.M 0) = W at *
  obtain ⟨X', e⟩ := script_loop (w := 0) (Tm.al_ok ht) (fun _ => rfl) (Int.le_refl _) (by simp [Tm.al]) (by omega) (by have := xQ.next; have := ((x1.trans xY).trans x10).next; omega) aW (b1.keep (Ext.keep xH)) gm
  simp only [hd, sel_false, Nat.zero_add, Nat.add_zero, u0, u1, u2, u3, u4, u5, u6, Option.bind_some, e9, e10, bne_self_eq_false, Option.isNone_some,
    ldI_of (off := 0) gZ rfl, ldI_of (off := 1) gZ rfl, ldI_of (off := 2) gZ rfl, ldI_of (off := 3) gZ rfl, ldI_of (off := 4) gZ rfl, ldI_of (off := 5) gZ rfl, ldI_of (off := 6) gZ rfl, e9', hst, e, cas, lv]
theorem alignmentsScript_true (H : Heap) (hw : H.Wf) (a b c d e f g : Int) (s1 : Sl) (h1 : (Lit.int .u8 a).wf = true) (h2 : (Lit.int .u8 b).wf = true) (h3 : (Lit.int .u8 c).wf = true) (h4 : (Lit.int .u8 d).wf = true) (h5 : (Lit.int .u8 e).wf = true) (h6 : (Lit.int .u8 f).wf = true) (h7 : (Lit.int .u8 g).wf = true)
    (k1 : ArgSl H [.i .u8] s1) : g5 Bool a b c d e f g s1 H (fun r _ => some r) = some true :=
  script_true H hw (t := ⟨a, b, c, d, e, f, g⟩) ⟨wfU8 h1, wfU8 h2, wfU8 h3, wfU8 h4, wfU8 h5, wfU8 h6, wfU8 h7⟩ k1
end Go.Proofs.Ytkldpkemnmmbgaa
