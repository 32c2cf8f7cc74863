/- Argument slices read; AlignmentsFinal. -/
import Derived.Test.YtkldpkemnmmbgaaAS4
import Derived.Test.YtkldpkemnmmbgaaAmC
namespace Go.Proofs.Ytkldpkemnmmbgaa
open Go AM Go.RowKit
set_option linter.unusedVariables false
set_option linter.unusedSimpArgs false

/-- a slice of bytes reads as l -/
structure ByR (X : Heap) (F : Nat → Prop) (s : Sl) (l : List Int) : Prop where
  len : s.len = l.length
  rd : ∀ i (h : i < l.length), ∃ id off, s.a = some (id, off) ∧ X.ldI .u8 id (off + i) = some l[i] ∧ F id
  byt : ∀ n ∈ l, 0 ≤ n ∧ n ≤ 255
/-- a slice of booleans reads as l -/
structure BoR (X : Heap) (F : Nat → Prop) (s : Sl) (l : List Bool) : Prop where
  len : s.len = l.length
  rd : ∀ i (h : i < l.length), ∃ id off, s.a = some (id, off) ∧ X.ldB id (off + i) = some l[i] ∧ F id
theorem Keep.ldI {F : Nat → Prop} {X X' : Heap} (h : Keep F X X') {id : Nat} (hf : F id) (k : IntKind) (off : Nat) : X'.ldI k id off = X.ldI k id off := by
  simp only [Heap.ldI, Heap.ld, h id hf]
theorem Keep.ldB {F : Nat → Prop} {X X' : Heap} (h : Keep F X X') {id : Nat} (hf : F id) (off : Nat) : X'.ldB id off = X.ldB id off := by
  simp only [Heap.ldB, Heap.ld, h id hf]
theorem ByR.keep {X X' : Heap} {F : Nat → Prop} {s : Sl} {l : List Int} (h : ByR X F s l) (k : Keep F X X') : ByR X' F s l :=
  ⟨h.len, fun i hi => by obtain ⟨id, off, h1, h2, h3⟩ := h.rd i hi; exact ⟨id, off, h1, by rw [k.ldI h3, h2], h3⟩, h.byt⟩
theorem BoR.keep {X X' : Heap} {F : Nat → Prop} {s : Sl} {l : List Bool} (h : BoR X F s l) (k : Keep F X X') : BoR X' F s l :=
  ⟨h.len, fun i hi => by obtain ⟨id, off, h1, h2, h3⟩ := h.rd i hi; exact ⟨id, off, h1, by rw [k.ldB h3, h2], h3⟩⟩
theorem ByR.mono {X : Heap} {F G : Nat → Prop} {s : Sl} {l : List Int} (h : ByR X F s l) (hg : ∀ i, F i → G i) : ByR X G s l :=
  ⟨h.len, fun i hi => by obtain ⟨id, off, h1, h2, h3⟩ := h.rd i hi; exact ⟨id, off, h1, h2, hg _ h3⟩, h.byt⟩
theorem BoR.mono {X : Heap} {F G : Nat → Prop} {s : Sl} {l : List Bool} (h : BoR X F s l) (hg : ∀ i, F i → G i) : BoR X G s l :=
  ⟨h.len, fun i hi => by obtain ⟨id, off, h1, h2, h3⟩ := h.rd i hi; exact ⟨id, off, h1, h2, hg _ h3⟩⟩
theorem Ext.keep {H H' : Heap} (h : Ext H H') : Keep (fun i => i < H.next) H H' := fun i hi => h.same i hi fun f => f
theorem Keep.mono {F G : Nat → Prop} {X X' : Heap} (h : Keep G X X') (hg : ∀ i, F i → G i) : Keep F X X' := fun i hi => h i (hg i hi)
theorem byR_of {H : Heap} (hw : H.Wf) {s : Sl} (h : ArgSl H [.i .u8] s) : ∃ l, ByR H (fun i => i < H.next) s l := by
  rcases h with rfl | ⟨id, len, cap, vs, e, rfl, h1, h2, h3, h4, h5⟩
  · exact ⟨[], rfl, fun i hi => absurd hi (by simp), fun n hn => absurd hn (by simp)⟩
  · have hv : ∀ (i : Nat) (hi : i < vs.length), ∃ n, vs[i] = .i .u8 n ∧ 0 ≤ n ∧ n ≤ 255 := fun i hi => by
      obtain ⟨n, hn, hk⟩ := Fit.int (h5 i vs[i] (.i .u8) (by simp [hi]) (by simp [Nat.mod_one]))
      exact ⟨n, hn, wfU8 hk⟩
    have hlen : vs.length = cap := by simpa using h3
    refine ⟨(vs.take len).map fun v => match v with | .i _ n => n | _ => 0, by simp; omega, fun i hi => ?_, fun n hn => ?_⟩
    · have hi' : i < len := by simp at hi; omega
      have hc : cap ≠ 0 := by omega
      have g := h4 hc
      obtain ⟨n, hn, _⟩ := hv i (by omega)
      refine ⟨id, 0, rfl, ?_, hw _ _ g⟩
      rw [ldI_of g (n := n) (by rw [Nat.zero_add, List.getElem?_eq_getElem (by omega), hn])]
      simp [hn]
    · simp only [List.mem_map] at hn
      obtain ⟨v, hv1, rfl⟩ := hn
      obtain ⟨i, hi, rfl⟩ := List.getElem_of_mem (List.mem_of_mem_take hv1)
      obtain ⟨n, hn, hb⟩ := hv i hi
      rw [hn]; exact hb
theorem boR_of {H : Heap} (hw : H.Wf) {s : Sl} (h : ArgSl H [.b] s) : ∃ l, BoR H (fun i => i < H.next) s l := by
  rcases h with rfl | ⟨id, len, cap, vs, e, rfl, h1, h2, h3, h4, h5⟩
  · exact ⟨[], rfl, fun i hi => absurd hi (by simp)⟩
  · have hv : ∀ (i : Nat) (hi : i < vs.length), ∃ n, vs[i] = .b n := fun i hi => Fit.bool (h5 i vs[i] .b (by simp [hi]) (by simp [Nat.mod_one]))
    have hlen : vs.length = cap := by simpa using h3
    refine ⟨(vs.take len).map fun v => match v with | .b n => n | _ => false, by simp; omega, fun i hi => ?_⟩
    have hi' : i < len := by simp at hi; omega
    have hc : cap ≠ 0 := by omega
    have g := h4 hc
    obtain ⟨n, hn⟩ := hv i (by omega)
    refine ⟨id, 0, rfl, ?_, hw _ _ g⟩
    rw [ldB_of g (x := n) (by rw [Nat.zero_add, List.getElem?_eq_getElem (by omega), hn])]
    simp [hn]

/-- in a phase without ticks none is left -/
def Al.Nice (A : Al) : Prop := (A.ph = 0 ∨ A.ph = 4 ∨ A.ph = 5) → A.left = 0
theorem enter_nice (A : Al) {p : Int} : (A.enter p).Nice := by
  intro h
  unfold Al.enter at h ⊢
  split
  · simp_all
  · split
    · simp_all
    · split
      · simp_all
      · rfl
theorem enter_prov (A : Al) (p : Int) : A.prov ≤ (A.enter p).prov ∧ (A.enter p).prov ≤ A.prov + 1 := by
  unfold Al.enter; repeat' split
  all_goals simp <;> omega
theorem act_nice {A : Al} (h : A.Nice) (hl : 0 ≤ A.left) (a : Int) : (A.act a).1.Nice ∧ (A.act a).1.prov ≤ max 0 A.prov + 1 := by
  unfold Al.act
  split
  · unfold Al.start
    split
    · exact ⟨h, by dsimp only; omega⟩
    · exact ⟨enter_nice _, by have := (enter_prov { A with own := a == 1, urg := a == 1, prov := 0 } 1).2; dsimp only at this ⊢; omega⟩
  split
  · exact ⟨enter_nice _, by have := (enter_prov A 0).2; dsimp only at this ⊢; omega⟩
  split
  · unfold Al.wrong
    split
    · split
      · split
        · exact ⟨enter_nice _, by have := (enter_prov A 3).2; dsimp only at this ⊢; omega⟩
        · exact ⟨enter_nice _, by have := (enter_prov A 5).2; dsimp only at this ⊢; omega⟩
      · rename_i h3 _; exact ⟨fun hp => by dsimp only at hp; omega, by dsimp only; omega⟩
    · exact ⟨h, by dsimp only; omega⟩
  split
  · unfold Al.tick
    split
    · exact ⟨h, by dsimp only; omega⟩
    · split
      · refine ⟨fun hp => ?_, by dsimp only; omega⟩
        have := h hp; dsimp only at this ⊢; omega
      · exact ⟨enter_nice _, by have := (enter_prov { A with left := A.left - 1 } (if A.ph = 3 then 4 else 5)).2; dsimp only at this ⊢; omega⟩
  · unfold Al.hear
    have e1 : ∀ (b : Bool) p, ({ A with urg := b }.enter p).prov ≤ max 0 A.prov + 1 := fun b p => by have := (enter_prov { A with urg := b } p).2; dsimp only at this ⊢; omega
    have e2 : ∀ p, (A.enter p).prov ≤ max 0 A.prov + 1 := fun p => e1 A.urg p
    have e0 : A.prov ≤ max 0 A.prov + 1 := by omega
    split
    · exact ⟨h, e0⟩
    split
    · split
      · exact ⟨enter_nice _, e1 _ _⟩
      · exact ⟨h, e0⟩
    split
    · unfold Al.hearA
      split
      · exact ⟨h, e0⟩
      · split
        · exact ⟨enter_nice _, e2 _⟩
        · exact ⟨enter_nice _, e1 _ _⟩
    split
    · unfold Al.hearP
      split
      · exact ⟨enter_nice _, e2 _⟩
      · split
        · exact ⟨enter_nice _, e2 _⟩
        · split
          · exact ⟨enter_nice _, e1 _ _⟩
          · exact ⟨h, e0⟩
    · exact ⟨h, e0⟩
theorem act_final {A : Al} (h : A.Nice) (hp : A.ph = 0 ∨ A.ph = 4 ∨ A.ph = 5) {a : Int} (ha : 3 ≤ a ∧ a ≤ 13) : (A.act a).1 = A := by
  have hl := h hp
  unfold Al.act
  rw [if_neg (by omega), if_neg (by omega)]
  split
  · unfold Al.wrong; rw [if_neg (by omega)]
  split
  · unfold Al.tick; rw [if_pos hl]
  · unfold Al.hear; rw [if_neg (by omega), if_neg (by omega), if_neg (by omega), if_neg (by omega)]
/-- a script -/
def Al.acts (A : Al) (l : List Int) : Al := l.foldl (fun A a => (A.act a).1) A
theorem acts_take {A : Al} {l : List Int} {i : Nat} (h : i < l.length) : A.acts (l.take (i + 1)) = ((A.acts (l.take i)).act l[i]).1 := by
  unfold Al.acts; rw [List.take_succ_eq_append_getElem h, List.foldl_append]; rfl
section
variable {x : Nat} {F : Nat → Prop} {s1 s2 : Sl} {l1 l2 : List Int}
theorem final_loop {A : Al} (hA : A.Ok) (hN : A.Nice) (hP : A.prov ≤ 0) (hlen : l1.length ≤ 100) {X : Heap} (h : AlS X F x A) (hb : ByR X F s1 l1) :
    ∃ B X', tlim (g7_p2_b g16 g9 g10 g20 g13 g15 g18) (s1, s2, some (x, 0), 0) X = some ((s2, some (x, 0)), X') ∧ AlS X' F x B ∧ Keep F X X' ∧ B.Ok ∧ B.Nice ∧ B.prov ≤ 100 := by
  obtain ⟨r, X', e, rfl, B, h1⟩ := tlim_inv (b := g7_p2_b g16 g9 g10 g20 g13 g15 g18)
    (fun st G => ∃ (i : Nat) (B : Al), st = (s1, s2, some (x, 0), (i : Int)) ∧ i ≤ l1.length ∧ AlS G F x B ∧ Keep F X G ∧ B.Ok ∧ B.Nice ∧ B.prov ≤ i) (fun st => l1.length - st.2.2.2.toNat)
    (fun r G => r = (s2, some (x, 0)) ∧ ∃ B : Al, AlS G F x B ∧ Keep F X G ∧ B.Ok ∧ B.Nice ∧ B.prov ≤ 100) (by
      rintro st G ⟨i, B, rfl, hi, hG, hk, hB, hN, hP⟩
      have hbl := hb.len
      by_cases hil : i < l1.length
      · left
        obtain ⟨id, off, e1, e2, _⟩ := (hb.keep hk).rd i hil
        have hbt := hb.byt l1[i] (List.getElem_mem hil)
        obtain ⟨Y, t1, t2, t3, t4⟩ := s20 hG hB (by omega) hbt
        obtain ⟨n1, n2⟩ := act_nice hN hB.left.1 l1[i]
        have hd : decide ((i : Int) < ((s1.len : Nat) : Int)) = true := by simp; omega
        have w1 : IntKind.wrap .i64 ((i : Int) + 1) = ((i + 1 : Nat) : Int) := by rw [w64 (by omega)]; rfl
        refine ⟨_, Y, ?_, ⟨i + 1, _, rfl, by omega, t2, hk.trans t3, t4, n1, by have := hB.prov.1; omega⟩, by dsimp only; omega⟩
        simp only [g7_p2_b, g7_p1, hd, sel_true]
        rw [if_pos (by omega)]
        simp only [e1, Option.bind_some, Int.toNat_natCast, Nat.mul_one, e2, t1, w1]
      · right
        have hd : decide ((i : Int) < ((s1.len : Nat) : Int)) = false := by simp; omega
        exact ⟨_, G, by simp only [g7_p2_b, g7_p1, hd, sel_false], rfl, B, hG, hk, hB, hN, by omega⟩) (s1, s2, some (x, 0), 0) X ⟨0, A, rfl, by omega, h, .refl _ _, hA, hN, hP⟩
  exact ⟨B, X', e, h1⟩
theorem final_loop2 {A : Al} (hA : A.Ok) (hN : A.Nice) (hf : A.ph = 0 ∨ A.ph = 4 ∨ A.ph = 5) (hP : A.prov ≤ 100) (hlen : l2.length ≤ 40) {X : Heap} (h : AlS X F x A) (hb : ByR X F s2 l2) :
    ∃ X', tlim (g7_p6_b g16 g9 g10 g20 g13 g15 g18) (s2, some (x, 0), A.ph, A.prov, 0) X = some (.inl (), X') := by
  obtain ⟨r, X', e, rfl⟩ := tlim_inv (b := g7_p6_b g16 g9 g10 g20 g13 g15 g18)
    (fun st G => ∃ (i : Nat), st = (s2, some (x, 0), A.ph, A.prov, (i : Int)) ∧ i ≤ l2.length ∧ AlS G F x A ∧ Keep F X G) (fun st => l2.length - st.2.2.2.2.toNat)
    (fun r G => r = .inl ()) (by
      rintro st G ⟨i, rfl, hi, hG, hk⟩
      have hbl := hb.len
      by_cases hil : i < l2.length
      · left
        obtain ⟨id, off, e1, e2, _⟩ := (hb.keep hk).rd i hil
        have hbt := hb.byt l2[i] (List.getElem_mem hil)
        obtain ⟨Y, t1, t2, t3, t4⟩ := s20 hG hA (by omega) (a := 3 + l2[i] % 11) (by omega)
        have hfin := act_final hN hf (a := 3 + l2[i] % 11) (by omega)
        rw [hfin] at t2 t4
        have hd : decide ((i : Int) < ((s2.len : Nat) : Int)) = true := by simp; omega
        have w1 : IntKind.wrap .i64 ((i : Int) + 1) = ((i + 1 : Nat) : Int) := by rw [w64 (by omega)]; rfl
        have hl := hN hf
        refine ⟨_, Y, ?_, ⟨i + 1, rfl, by omega, t2, hk.trans t3⟩, by dsimp only; omega⟩
        simp only [g7_p6_b, g7_p5, hd, sel_true]
        rw [if_pos (by omega)]
        simp only [e1, Option.bind_some, Int.toNat_natCast, Nat.mul_one, e2, w1]
        rw [tmodI hbt.1, w8u (by omega)]
        simp only [t1, a_phase t2, a_left t2, a_prov t2, hl, bne_self_eq_false, sel_false]
      · right
        have hd : decide ((i : Int) < ((s2.len : Nat) : Int)) = false := by simp; omega
        exact ⟨_, G, by simp only [g7_p6_b, g7_p5, hd, sel_false], rfl⟩) (s2, some (x, 0), A.ph, A.prov, 0) X ⟨0, rfl, by omega, h, .refl _ _⟩
  exact ⟨X', e⟩
end
theorem lv {R : Type} (H : Heap) (K : Bool → Heap → Option R) : g16 R H K = K true H := rfl
theorem final_true (H : Heap) (hw : H.Wf) {t : Tm} (ht : t.Ok) {s1 s2 : Sl} (h1 : ArgSl H [.i .u8] s1) (h2 : ArgSl H [.i .u8] s2) :
    g7 Bool t.a t.b t.c t.d t.e t.f t.g s1 s2 H (fun r _ => some r) = some true := by
  obtain ⟨l1, b1⟩ := byR_of hw h1
  obtain ⟨l2, b2⟩ := byR_of hw h2
  have g1 := Heap.gnew H (.cells [.i .u8 t.a, .i .u8 t.b, .i .u8 t.c, .i .u8 t.d, .i .u8 t.e, .i .u8 t.f, .i .u8 t.g] 23 false)
  have hw1 := hw.new (.cells [.i .u8 t.a, .i .u8 t.b, .i .u8 t.c, .i .u8 t.d, .i .u8 t.e, .i .u8 t.f, .i .u8 t.g] 23 false)
  have x1 := Ext.new H (.cells [.i .u8 t.a, .i .u8 t.b, .i .u8 t.c, .i .u8 t.d, .i .u8 t.e, .i .u8 t.f, .i .u8 t.g] 23 false)
  have hn1 : (H.new (.cells [.i .u8 t.a, .i .u8 t.b, .i .u8 t.c, .i .u8 t.d, .i .u8 t.e, .i .u8 t.f, .i .u8 t.g] 23 false)).next = H.next + 1 := rfl
  simp only [g7, g7_r, g7_p12, g7_p11, g7_p3, g7_p2, g7_p10, g7_p9, g7_p7, g7_p6, g7_p8, g7_p4, g7_p0, alo]
  generalize H.new (.cells [.i .u8 t.a, .i .u8 t.b, .i .u8 t.c, .i .u8 t.d, .i .u8 t.e, .i .u8 t.f, .i .u8 t.g] 23 false) = G at *
  have hb1 := b1.len
  have hb2 := b2.len
  by_cases c1 : s1.len > 100
  · have hd : decide (((s1.len : Nat) : Int) > 100) = true := by simp; omega
    simp only [hd, sel_true, lv]
  have hd1 : decide (((s1.len : Nat) : Int) > 100) = false := by simp; omega
  by_cases c2 : s2.len > 40
  · have hd : decide (((s2.len : Nat) : Int) > 40) = true := by simp; omega
    simp only [hd1, hd, sel_true, sel_false, lv]
  have hd2 : decide (((s2.len : Nat) : Int) > 40) = false := by simp; omega
  obtain ⟨Y, e9, hw9, x9⟩ := s9 hw1 ht
  have x9' := x1.trans x9
  have h10 := s10 (F := fun i => i < H.next) hw9 (fun i hi => by have := x9'.next; omega) t.al ⟨rfl, rfl, rfl, rfl, rfl⟩
  rw [if_pos (al_all (Tm.al_ok ht).toTOk)] at h10
  obtain ⟨x, Z, e10, a10, x10, _⟩ := h10
  have k1 : Keep (fun i => i < H.next) H Z := Ext.keep (x9'.trans x10)
  obtain ⟨B, Z1, e2, a2, k2, okB, nB, pB⟩ := final_loop (s2 := s2) (Tm.al_ok ht) (fun _ => rfl) (Int.le_refl _) (by omega) a10 (b1.keep k1)
  simp only [hd1, hd2, sel_false, Nat.zero_add, Nat.add_zero, ldI_of (off := 0) g1 rfl, ldI_of (off := 1) g1 rfl, ldI_of (off := 2) g1 rfl, ldI_of (off := 3) g1 rfl, ldI_of (off := 4) g1 rfl, ldI_of (off := 5) g1 rfl, ldI_of (off := 6) g1 rfl, Option.bind_some,
    e9, e10, bne_self_eq_false, Option.isNone_some, e2, a_phase a2, a_prov a2, lv]
  have fin : ∀ (hf : B.ph = 0 ∨ B.ph = 4 ∨ B.ph = 5), (tlim (g7_p6_b g16 g9 g10 g20 g13 g15 g18) (s2, some (x, 0), B.ph, B.prov, 0) Z1).bind (fun p => cas p.1 (fun r => some true) (fun r0 => some r0)) = some true := fun hf => by
    obtain ⟨Z2, e3⟩ := final_loop2 okB nB hf pB (by omega) a2 (b2.keep (k1.trans k2))
    rw [e3]; rfl
  by_cases p4 : B.ph = 4
  · simp only [fin (.inr (.inl p4))]; simp [p4]
  · have b4 : (B.ph != 4) = true := by simp [p4]
    by_cases p0 : B.ph = 0
    · simp only [fin (.inl p0)]; simp [p0]
    · have b0 : (B.ph != 0) = true := by simp [p0]
      by_cases p5 : B.ph = 5
      · simp only [fin (.inr (.inr p5))]; simp [p5]
      · have b5 : (B.ph != 5) = true := by simp [p5]
        simp only [b4, b0, b5, sel_true]
theorem alignmentsFinal_true (H : Heap) (hw : H.Wf) (a b c d e f g : Int) (s1 s2 : Sl) (h1 : (Lit.int .u8 a).wf = true) (h2 : (Lit.int .u8 b).wf = true) (h3 : (Lit.int .u8 c).wf = true) (h4 : (Lit.int .u8 d).wf = true) (h5 : (Lit.int .u8 e).wf = true) (h6 : (Lit.int .u8 f).wf = true) (h7 : (Lit.int .u8 g).wf = true)
    (k1 : ArgSl H [.i .u8] s1) (k2 : ArgSl H [.i .u8] s2) : g7 Bool a b c d e f g s1 s2 H (fun r _ => some r) = some true :=
  final_true H hw (t := ⟨a, b, c, d, e, f, g⟩) ⟨wfU8 h1, wfU8 h2, wfU8 h3, wfU8 h4, wfU8 h5, wfU8 h6, wfU8 h7⟩ k1 k2
end Go.Proofs.Ytkldpkemnmmbgaa

