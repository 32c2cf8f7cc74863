/- The law's times, a new alignment, its status, and the acts of a script. -/
import Derived.Test.YtkldpkemnmmbgaaAS3
import Derived.Test.YtkldpkemnmmbgaaGM
namespace Go.Proofs.Ytkldpkemnmmbgaa
open Go AM Go.RowKit
set_option linter.unusedVariables false
set_option linter.unusedSimpArgs false

/-- the law's times -/
structure Tm where
  a : Int
  b : Int
  c : Int
  d : Int
  e : Int
  f : Int
  g : Int
structure Tm.Ok (t : Tm) : Prop where
  a : 0 ≤ t.a ∧ t.a ≤ 255
  b : 0 ≤ t.b ∧ t.b ≤ 255
  c : 0 ≤ t.c ∧ t.c ≤ 255
  d : 0 ≤ t.d ∧ t.d ≤ 255
  e : 0 ≤ t.e ∧ t.e ≤ 255
  f : 0 ≤ t.f ∧ t.f ≤ 255
  g : 0 ≤ t.g ∧ t.g ≤ 255
def Tm.al (t : Tm) : Al := ⟨1 + t.a % 12, 1 + t.b % 12, 1 + t.c % 12, 1 + t.d % 12, 1 + t.e % 12, 1 + t.f % 12, 1 + t.g % 12, 0, 0, false, false, 0, 0, 0⟩
theorem Tm.al_ok {t : Tm} (h : t.Ok) : t.al.Ok := by
  obtain ⟨h1, h2, h3, h4, h5, h6, h7⟩ := h
  exact ⟨⟨by dsimp only [Tm.al]; omega, by dsimp only [Tm.al]; omega, by dsimp only [Tm.al]; omega, by dsimp only [Tm.al]; omega, by dsimp only [Tm.al]; omega, by dsimp only [Tm.al]; omega, by dsimp only [Tm.al]; omega, by dsimp only [Tm.al]; omega, by dsimp only [Tm.al]; omega⟩, by dsimp only [Tm.al]; omega, fun e => by simp [Tm.al] at e⟩
theorem tmodI {a b : Int} (h : 0 ≤ a) : Int.tmod a b = a % b := Int.tmod_eq_emod_of_nonneg h
theorem s25 {R : Type} {n : Int} (hn : 0 ≤ n ∧ n ≤ 255) (H : Heap) (K : Int → Heap → Option R) : g25 R n H K = K (1 + n % 12) H := by
  simp only [g25, g25_r, g25_p0]
  rw [tmodI hn.1, w64 (n := n % 12) (by omega), w64 (by omega)]
theorem s9 {H : Heap} (hw : H.Wf) {t : Tm} (ht : t.Ok) : ∃ H', (∀ (R : Type) (K : Int → Int → Int → Int → Int → Int → Int → Heap → Option R), g9 R t.a t.b t.c t.d t.e t.f t.g H K = K t.al.seek t.al.hold t.al.norm t.al.emer t.al.few t.al.fewer t.al.most H') ∧ H'.Wf ∧ Ext H H' := by
  have g1 := Heap.gnew H (.cells [.i .u8 t.a, .i .u8 t.b, .i .u8 t.c, .i .u8 t.d, .i .u8 t.e, .i .u8 t.f, .i .u8 t.g] 23 false)
  have hw1 := hw.new (.cells [.i .u8 t.a, .i .u8 t.b, .i .u8 t.c, .i .u8 t.d, .i .u8 t.e, .i .u8 t.f, .i .u8 t.g] 23 false)
  have x1 := Ext.new H (.cells [.i .u8 t.a, .i .u8 t.b, .i .u8 t.c, .i .u8 t.d, .i .u8 t.e, .i .u8 t.f, .i .u8 t.g] 23 false)
  have hn1 : (H.new (.cells [.i .u8 t.a, .i .u8 t.b, .i .u8 t.c, .i .u8 t.d, .i .u8 t.e, .i .u8 t.f, .i .u8 t.g] 23 false)).next = H.next + 1 := rfl
  simp only [g9, g9_r, g9_p0, alo]
  generalize H.new (.cells [.i .u8 t.a, .i .u8 t.b, .i .u8 t.c, .i .u8 t.d, .i .u8 t.e, .i .u8 t.f, .i .u8 t.g] 23 false) = G at *
  have g2 := Heap.gnew G (.cells [.i .i64 0, .i .i64 0, .i .i64 0, .i .i64 0, .i .i64 0, .i .i64 0, .i .i64 0] 28 false)
  have hw2 := hw1.new (.cells [.i .i64 0, .i .i64 0, .i .i64 0, .i .i64 0, .i .i64 0, .i .i64 0, .i .i64 0] 28 false)
  have x2 := x1.trans (Ext.new G (.cells [.i .i64 0, .i .i64 0, .i .i64 0, .i .i64 0, .i .i64 0, .i .i64 0, .i .i64 0] 28 false))
  have g1' : (G.new (.cells [.i .i64 0, .i .i64 0, .i .i64 0, .i .i64 0, .i .i64 0, .i .i64 0, .i .i64 0] 28 false)).get H.next = some (.cells [.i .u8 t.a, .i .u8 t.b, .i .u8 t.c, .i .u8 t.d, .i .u8 t.e, .i .u8 t.f, .i .u8 t.g] 23 false) := by
    rw [Heap.get_new, if_neg (by omega)]; exact g1
  generalize G.new (.cells [.i .i64 0, .i .i64 0, .i .i64 0, .i .i64 0, .i .i64 0, .i .i64 0, .i .i64 0] 28 false) = Y at *
  have l0 : Y.ldI .u8 H.next 0 = some t.a := ldI_of g1' rfl
  have l1 : Y.ldI .u8 H.next 1 = some t.b := ldI_of g1' rfl
  have l2 : Y.ldI .u8 H.next 2 = some t.c := ldI_of g1' rfl
  have l3 : Y.ldI .u8 H.next 3 = some t.d := ldI_of g1' rfl
  have l4 : Y.ldI .u8 H.next 4 = some t.e := ldI_of g1' rfl
  have l5 : Y.ldI .u8 H.next 5 = some t.f := ldI_of g1' rfl
  have l6 : Y.ldI .u8 H.next 6 = some t.g := ldI_of g1' rfl
  have hst : Y.sts G.next 0 [.i .i64 t.al.seek, .i .i64 t.al.hold, .i .i64 t.al.norm, .i .i64 t.al.emer, .i .i64 t.al.few, .i .i64 t.al.fewer, .i .i64 t.al.most] = some (Y.put G.next (.cells [.i .i64 t.al.seek, .i .i64 t.al.hold, .i .i64 t.al.norm, .i .i64 t.al.emer, .i .i64 t.al.few, .i .i64 t.al.fewer, .i .i64 t.al.most] 28 false)) := by
    rw [sts_of g2 (by simp) rfl]; rfl
  have g3 := Heap.gput Y G.next (.cells [.i .i64 t.al.seek, .i .i64 t.al.hold, .i .i64 t.al.norm, .i .i64 t.al.emer, .i .i64 t.al.few, .i .i64 t.al.fewer, .i .i64 t.al.most] 28 false)
  refine ⟨Y.put G.next (.cells [.i .i64 t.al.seek, .i .i64 t.al.hold, .i .i64 t.al.norm, .i .i64 t.al.emer, .i .i64 t.al.few, .i .i64 t.al.fewer, .i .i64 t.al.most] 28 false), fun R K => ?_, hw2.put g2 _, x2.above (by omega) _⟩
  simp only [Nat.zero_add, l0, l1, l2, l3, l4, l5, l6, Option.bind_some, s25 ht.a, s25 ht.b, s25 ht.c, s25 ht.d, s25 ht.e, s25 ht.f, s25 ht.g, same_i, if_true]
  have hst' : Y.sts G.next 0 [.i .i64 (1 + t.a % 12), .i .i64 (1 + t.b % 12), .i .i64 (1 + t.c % 12), .i .i64 (1 + t.d % 12), .i .i64 (1 + t.e % 12), .i .i64 (1 + t.f % 12), .i .i64 (1 + t.g % 12)] = _ := hst
  rw [hst']
  simp only [Option.bind_some, ldI_of (off := 0) g3 rfl, ldI_of (off := 1) g3 rfl, ldI_of (off := 2) g3 rfl, ldI_of (off := 3) g3 rfl, ldI_of (off := 4) g3 rfl, ldI_of (off := 5) g3 rfl, ldI_of (off := 6) g3 rfl]
/-- a new alignment, or none -/
theorem s10 {H : Heap} (hw : H.Wf) {F : Nat → Prop} (hF : ∀ i, F i → i < H.next) (A : Al) (hA : A.ph = 0 ∧ A.left = 0 ∧ A.own = false ∧ A.urg = false ∧ A.prov = 0) :
    if [A.seek, A.hold, A.norm, A.emer, A.few, A.fewer, A.most].all okA = true then
      ∃ x H', (∀ (R : Type) (K : Option (Nat × Nat) → Int → Heap → Option R), g10 R A.seek A.hold A.norm A.emer A.few A.fewer A.most H K = K (some (x, 0)) 0 H') ∧ AlS H' F x A ∧ Ext H H' ∧ H.next ≤ x
    else ∃ H', (∀ (R : Type) (K : Option (Nat × Nat) → Int → Heap → Option R), g10 R A.seek A.hold A.norm A.emer A.few A.fewer A.most H K = K none 1 H') ∧ H'.Wf ∧ Ext H H' := by
  have g1 := Heap.gnew H (.cells [.i .i64 A.seek, .i .i64 A.hold, .i .i64 A.norm, .i .i64 A.emer, .i .i64 A.few, .i .i64 A.fewer, .i .i64 A.most] 28 false)
  have hw1 := hw.new (.cells [.i .i64 A.seek, .i .i64 A.hold, .i .i64 A.norm, .i .i64 A.emer, .i .i64 A.few, .i .i64 A.fewer, .i .i64 A.most] 28 false)
  have x1 := Ext.new H (.cells [.i .i64 A.seek, .i .i64 A.hold, .i .i64 A.norm, .i .i64 A.emer, .i .i64 A.few, .i .i64 A.fewer, .i .i64 A.most] 28 false)
  have hn1 : (H.new (.cells [.i .i64 A.seek, .i .i64 A.hold, .i .i64 A.norm, .i .i64 A.emer, .i .i64 A.few, .i .i64 A.fewer, .i .i64 A.most] 28 false)).next = H.next + 1 := rfl
  simp only [g10, g10_r, g10_p0, alo]
  generalize H.new (.cells [.i .i64 A.seek, .i .i64 A.hold, .i .i64 A.norm, .i .i64 A.emer, .i .i64 A.few, .i .i64 A.fewer, .i .i64 A.most] 28 false) = G at *
  have g2 := Heap.gnew G (.cells [.i .i64 A.seek, .i .i64 A.hold, .i .i64 A.norm, .i .i64 A.emer, .i .i64 A.few, .i .i64 A.fewer, .i .i64 A.most] 3 false)
  have hw2 := hw1.new (.cells [.i .i64 A.seek, .i .i64 A.hold, .i .i64 A.norm, .i .i64 A.emer, .i .i64 A.few, .i .i64 A.fewer, .i .i64 A.most] 3 false)
  have x2 := x1.trans (Ext.new G (.cells [.i .i64 A.seek, .i .i64 A.hold, .i .i64 A.norm, .i .i64 A.emer, .i .i64 A.few, .i .i64 A.fewer, .i .i64 A.most] 3 false))
  have hn2 : (G.new (.cells [.i .i64 A.seek, .i .i64 A.hold, .i .i64 A.norm, .i .i64 A.emer, .i .i64 A.few, .i .i64 A.fewer, .i .i64 A.most] 3 false)).next = H.next + 2 := by rw [Heap.next_new, hn1]
  have g1' : (G.new (.cells [.i .i64 A.seek, .i .i64 A.hold, .i .i64 A.norm, .i .i64 A.emer, .i .i64 A.few, .i .i64 A.fewer, .i .i64 A.most] 3 false)).get H.next = some (.cells [.i .i64 A.seek, .i .i64 A.hold, .i .i64 A.norm, .i .i64 A.emer, .i .i64 A.few, .i .i64 A.fewer, .i .i64 A.most] 28 false) := by
    rw [Heap.get_new, if_neg (by omega)]; exact g1
  have hall := fun (R : Type) (K : Bool → Heap → Option R) => s27 (R := R) (l := [A.seek, A.hold, A.norm, A.emer, A.few, A.fewer, A.most]) (c := .ex 7) g2 (by simp) K
  simp only [List.length_cons, List.length_nil, Nat.zero_add, Nat.reduceAdd] at hall
  simp only [Nat.zero_add, ldI_of (off := 0) g1 rfl, ldI_of (off := 1) g1 rfl, ldI_of (off := 2) g1 rfl, ldI_of (off := 3) g1 rfl, ldI_of (off := 4) g1 rfl, ldI_of (off := 5) g1 rfl, ldI_of (off := 6) g1 rfl, Option.bind_some, hall,
    ldI_of (off := 0) g1' rfl, ldI_of (off := 1) g1' rfl, ldI_of (off := 2) g1' rfl, ldI_of (off := 3) g1' rfl, ldI_of (off := 4) g1' rfl, ldI_of (off := 5) g1' rfl, ldI_of (off := 6) g1' rfl]
  generalize G.new (.cells [.i .i64 A.seek, .i .i64 A.hold, .i .i64 A.norm, .i .i64 A.emer, .i .i64 A.few, .i .i64 A.fewer, .i .i64 A.most] 3 false) = Y at *
  split
  · rename_i hok
    refine ⟨Y.next, Y.new (.cells (A.cells .nilI) 58 false), fun R K => ?_, ⟨hw2.new _, fun i hi => ?_, fun hf => ?_, .nilI, Heap.gnew _ _, rfl, fun e => ?_⟩, x2.trans (Ext.new _ _), by omega⟩
    · simp only [hok, Bool.not_true, sel_false]
      obtain ⟨h1, h2, h3, h4, h5⟩ := hA
      simp [Al.cells, h1, h2, h3, h4, h5]
    · have := hF i hi; simp; omega
    · have := hF _ hf; omega
    · omega
  · rename_i hok
    have hf : [A.seek, A.hold, A.norm, A.emer, A.few, A.fewer, A.most].all okA = false := by simpa using hok
    refine ⟨Y, fun R K => ?_, hw2, x2⟩
    simp only [hf, Bool.not_false, sel_true]
theorem al_all {A : Al} (h : A.TOk) : [A.seek, A.hold, A.norm, A.emer, A.few, A.fewer, A.most].all okA = true := by
  simp only [List.all_cons, List.all_nil, Bool.and_true, okA_of h.seek, okA_of h.hold, okA_of h.norm, okA_of h.emer, okA_of h.few, okA_of h.fewer, okA_of h.most, Bool.and_self]
/-- what sends answers -/
theorem s22 {X : Heap} {F : Nat → Prop} {x : Nat} {A : Al} (h : AlS X F x A) {R : Type} (K : Int → Heap → Option R) : g22 R (some (x, 0)) X K = K A.sends X := by
  obtain ⟨_, _, _, _, _, _, _, _, _, l9, _⟩ := h.ld
  simp only [g22, g22_r, g22_p0, g30, g30_r, g30_p0, a_phase h, Option.bind_some, Nat.zero_add, l9]
  unfold Al.sends
  by_cases h1 : A.ph = 1
  · simp [h1]
  · have b1 : (A.ph == 1) = false := by simp [h1]
    by_cases h2 : A.ph = 2
    · cases ho : A.own <;> simp [h2]
    · have b2 : (A.ph == 2) = false := by simp [h2]
      by_cases h3 : A.ph = 3
      · cases ho : A.own <;> simp [h3]
      · have b3 : (A.ph == 3) = false := by simp [h3]
        by_cases h5 : A.ph = 5
        · simp [h5]
        · have b5 : (A.ph == 5) = false := by simp [h5]
          simp [b1, b2, b3, b5, h1, h2, h3, h5]
/-- an act of a script -/
def Al.act (A : Al) (a : Int) : Al × Int :=
  if a < 2 then A.start (a == 1) else if a = 2 then (A.enter 0, 0) else if a = 3 then (A.wrong, 0) else if a < 8 then (A.tick, 0) else A.hear (a - 8)
theorem s20 {X : Heap} {F : Nat → Prop} {x : Nat} {A : Al} (h : AlS X F x A) (ht : A.Ok) (hp : A.prov ≤ 999999999) {a : Int} (ha : 0 ≤ a ∧ a ≤ 255) : ∃ X', (∀ (R : Type) (K : Int → Heap → Option R), g20 R (some (x, 0)) a X K = K (A.act a).2 X') ∧ AlS X' F x (A.act a).1 ∧ Keep F X X' ∧ (A.act a).1.Ok := by
  by_cases h2 : a < 2
  · have et : A.act a = A.start (a == 1) := by unfold Al.act; rw [if_pos h2]
    obtain ⟨X1, s1, t1, k1, o1⟩ := a_start h ht (a == 1)
    refine ⟨X1, fun R K => ?_, by rw [et]; exact t1, k1, by rw [et]; exact o1⟩
    have b2 : decide (a < 2) = true := by simpa using h2
    rw [et]; simp only [g20, g20_r, g20_p0, b2, sel_true, s1]
  have b2 : decide (a < 2) = false := by simpa using h2
  by_cases h3 : a = 2
  · have et : A.act a = (A.enter 0, 0) := by unfold Al.act; rw [if_neg h2, if_pos h3]
    obtain ⟨X1, s1, t1, k1, o1⟩ := a_stop h ht hp
    refine ⟨X1, fun R K => ?_, by rw [et]; exact t1, k1, by rw [et]; exact o1⟩
    have b3 : (a == 2) = true := by simp [h3]
    rw [et]; simp only [g20, g20_r, g20_p0, b2, b3, sel_false, sel_true, s1]
  have b3 : (a == 2) = false := by simp [h3]
  by_cases h4 : a = 3
  · have et : A.act a = (A.wrong, 0) := by unfold Al.act; rw [if_neg h2, if_neg h3, if_pos h4]
    obtain ⟨X1, s1, t1, k1, o1⟩ := a_wrong h ht hp
    refine ⟨X1, fun R K => ?_, by rw [et]; exact t1, k1, by rw [et]; exact o1⟩
    have b4 : (a == 3) = true := by simp [h4]
    rw [et]; simp only [g20, g20_r, g20_p0, b2, b3, b4, sel_false, sel_true, s1]
  have b4 : (a == 3) = false := by simp [h4]
  by_cases h8 : a < 8
  · have et : A.act a = (A.tick, 0) := by unfold Al.act; rw [if_neg h2, if_neg h3, if_neg h4, if_pos h8]
    obtain ⟨X1, s1, t1, k1, o1⟩ := a_tick h ht hp
    refine ⟨X1, fun R K => ?_, by rw [et]; exact t1, k1, by rw [et]; exact o1⟩
    have b8 : decide (a < 8) = true := by simpa using h8
    rw [et]; simp only [g20, g20_r, g20_p0, b2, b3, b4, b8, sel_false, sel_true, s1]
  · have b8 : decide (a < 8) = false := by simpa using h8
    have et : A.act a = A.hear (a - 8) := by unfold Al.act; rw [if_neg h2, if_neg h3, if_neg h4, if_neg h8]
    obtain ⟨X1, s1, t1, k1, o1⟩ := a_hear h ht hp (a - 8)
    refine ⟨X1, fun R K => ?_, by rw [et]; exact t1, k1, by rw [et]; exact o1⟩
    rw [et]; simp only [g20, g20_r, g20_p0, b2, b3, b4, b8, sel_false]
    rw [w8u (by omega), s1]
end Go.Proofs.Ytkldpkemnmmbgaa

