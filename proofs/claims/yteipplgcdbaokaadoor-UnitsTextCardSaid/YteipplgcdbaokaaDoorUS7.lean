/- UnitsSame: two valid units have the same text exactly if they are equal. -/
import Derived.Test.YteipplgcdbaokaaDoorUS6
namespace Go.Proofs.YteipplgcdbaokaaDoor
open Go AM Go.RowKit
set_option linter.unusedVariables false
set_option linter.unusedSimpArgs false

def sameU (a b : Un) : Bool := a.b == b.b && a.bb == b.bb && a.f == b.f && a.fb == b.fb && a.k == b.k && a.st == b.st && decide (a.ld = b.ld)
theorem sameU_iff (a b : Un) : sameU a b = true ↔ a = b := by
  unfold sameU
  simp only [Bool.and_eq_true, beq_iff_eq, decide_eq_true_eq]
  constructor
  · rintro ⟨⟨⟨⟨⟨⟨h1, h2⟩, h3⟩, h4⟩, h5⟩, h6⟩, h7⟩
    cases a; cases b
    simp only at h1 h2 h3 h4 h5 h6 h7
    subst h1; subst h2; subst h3; subst h4; subst h5; subst h6; subst h7; rfl
  · rintro rfl; simp
theorem sameU_refl (a : Un) : sameU a a = true := (sameU_iff a a).2 rfl
/-- where the first sign that is not of the kind p stands, texts part -/
theorem span_uniq {p : UInt8 → Bool} {x y : UInt8} (hx : p x = false) (hy : p y = false) : ∀ {a b r q : List UInt8}, a.all p = true → b.all p = true → a ++ x :: r = b ++ y :: q → a = b ∧ x = y ∧ r = q := by
  intro a
  induction a with
  | nil =>
    intro b r q _ hb h
    cases b with
    | nil => simpa using h
    | cons z b =>
      simp only [List.nil_append, List.cons_append, List.cons.injEq] at h
      obtain ⟨rfl, _⟩ := h
      simp [hx] at hb
  | cons z a ih =>
    intro b r q ha hb h
    cases b with
    | nil =>
      simp only [List.nil_append, List.cons_append, List.cons.injEq] at h
      obtain ⟨rfl, _⟩ := h
      simp [hy] at ha
    | cons w b =>
      simp only [List.cons_append, List.cons.injEq] at h
      obtain ⟨rfl, h⟩ := h
      simp only [List.all_cons, Bool.and_eq_true] at ha hb
      obtain ⟨h1, h2, h3⟩ := ih ha.2 hb.2 h
      exact ⟨by rw [h1], h2, h3⟩
def isDig (x : UInt8) : Bool := decide (48 ≤ x) && decide (x ≤ 57)
def valD (l : List UInt8) : Int := l.foldl (fun v x => 10 * v + ((x.toNat : Int) - 48)) 0
theorem decI_good : ∀ n : Fin 256, (decI ((n.val : Nat) : Int)).all isDig = true ∧ valD (decI ((n.val : Nat) : Int)) = (n.val : Nat) := by decide +kernel
theorem decI_good' {n : Int} (h : 0 ≤ n ∧ n ≤ 255) : (decI n).all isDig = true ∧ valD (decI n) = n := by
  have := decI_good ⟨n.toNat, by omega⟩
  simp only at this
  rwa [show ((n.toNat : Nat) : Int) = n by omega] at this
theorem decI_inj {n m : Int} (hn : 0 ≤ n ∧ n ≤ 255) (hm : 0 ≤ m ∧ m ≤ 255) (h : decI n = decI m) : n = m := by
  rw [← (decI_good' hn).2, ← (decI_good' hm).2, h]
def vh (x : UInt8) : Int := if x < 60 then (x.toNat : Int) - 48 else (x.toNat : Int) - 87
theorem hexd_v : ∀ n : Fin 16, vh (UInt8.ofNat (hexd ((n.val : Nat) : Int)).toNat) = (n.val : Nat) := by decide +kernel
theorem hexd_v' {n : Int} (h : 0 ≤ n ∧ n < 16) : vh (UInt8.ofNat (hexd n).toNat) = n := by
  have := hexd_v ⟨n.toNat, by omega⟩
  simp only at this
  rwa [show ((n.toNat : Nat) : Int) = n by omega] at this
theorem hex_inj : ∀ {a b : List Int}, Byt a → Byt b → u8s (hex a) = u8s (hex b) → a = b := by
  intro a
  induction a with
  | nil =>
    intro b _ _ h
    cases b with
    | nil => rfl
    | cons y b => simp [hex, u8s] at h
  | cons x a ih =>
    intro b ha hb h
    cases b with
    | nil => simp [hex, u8s] at h
    | cons y b =>
      simp only [hex, u8s, List.map_cons, List.cons.injEq] at h
      obtain ⟨h1, h2, h3⟩ := h
      have hx := ha x (by simp); have hy := hb y (by simp)
      have e1 := congrArg vh h1
      have e2 := congrArg vh h2
      rw [hexd_v' (by omega), hexd_v' (by omega)] at e1 e2
      rw [ih (fun n hn => ha n (by simp [hn])) (fun n hn => hb n (by simp [hn])) h3, show x = y by omega]
theorem sg_nd : ∀ b, ∃ x, sg b = [x] ∧ isDig x = false := by
  intro b; cases b
  · exact ⟨45, rfl, by decide⟩
  · exact ⟨43, rfl, by decide⟩
theorem sg_inj {a b : Bool} (h : sg a = sg b) : a = b := by cases a <;> cases b <;> first | rfl | (simp [sg] at h)
theorem num_inj {n m : Int} (hn : 0 ≤ n ∧ n ≤ 255) (hm : 0 ≤ m ∧ m ≤ 255) {a b : Bool} {r q : List UInt8} (h : decI n ++ (sg a ++ r) = decI m ++ (sg b ++ q)) : n = m ∧ a = b ∧ r = q := by
  obtain ⟨x, hx, nx⟩ := sg_nd a
  obtain ⟨y, hy, ny⟩ := sg_nd b
  rw [hx, hy] at h
  obtain ⟨h1, h2, h3⟩ := span_uniq nx ny (decI_good' hn).1 (decI_good' hm).1 h
  exact ⟨decI_inj hn hm h1, sg_inj (by rw [hx, hy, h2]), h3⟩
theorem Un.text_inj {a b : Un} (ha : a.Ok) (hb : b.Ok) (ca : a.ck = 0) (cb : b.ck = 0) (h : a.text = b.text) : a = b := by
  have h' : decI a.b ++ (sg a.bb ++ ([32, 102, 111, 114, 101, 32] ++ (decI a.f ++ (sg a.fb ++ a.tail)))) = decI b.b ++ (sg b.bb ++ ([32, 102, 111, 114, 101, 32] ++ (decI b.f ++ (sg b.fb ++ b.tail)))) := by
    simpa [Un.text, ca, cb, Un.head] using h
  obtain ⟨e1, e2, h2⟩ := num_inj ha.b hb.b h'
  have h3 : decI a.f ++ (sg a.fb ++ a.tail) = decI b.f ++ (sg b.fb ++ b.tail) := by simpa using h2
  obtain ⟨e3, e4, h4⟩ := num_inj ha.f hb.f h3
  obtain ⟨_, _, a3, _, a5, a6, a7⟩ := Un.ck_b ca
  obtain ⟨_, _, b3, _, b5, b6, b7⟩ := Un.ck_b cb
  have hka := ha.k; have hkb := hb.k
  have key : a.k = b.k ∧ a.st = b.st ∧ a.ld = b.ld := by
    unfold Un.tail at h4
    by_cases p1 : a.k = 1
    · rw [if_pos p1] at h4
      by_cases q1 : b.k = 1
      · rw [if_pos q1] at h4
        have : decI a.st = decI b.st := by simpa using h4
        refine ⟨by omega, decI_inj ha.st hb.st this, ?_⟩
        rw [List.length_eq_zero_iff.1 (a7 (by omega)), List.length_eq_zero_iff.1 (b7 (by omega))]
      · rw [if_neg q1] at h4
        split at h4 <;> simp at h4
    · rw [if_neg p1] at h4
      by_cases q1 : b.k = 1
      · rw [if_pos q1] at h4
        split at h4 <;> simp at h4
      · rw [if_neg q1] at h4
        have est : a.st = b.st := by rw [a5 p1, b5 q1]
        by_cases p2 : a.k = 2
        · rw [if_pos p2] at h4
          by_cases q2 : b.k = 2
          · rw [if_pos q2] at h4
            have : u8s (hex a.ld) = u8s (hex b.ld) := by simpa using h4
            exact ⟨by omega, est, hex_inj ha.ld hb.ld this⟩
          · rw [if_neg q2] at h4; simp at h4
        · rw [if_neg p2] at h4
          by_cases q2 : b.k = 2
          · rw [if_pos q2] at h4; simp at h4
          · exact ⟨by omega, est, by rw [List.length_eq_zero_iff.1 (a7 p2), List.length_eq_zero_iff.1 (b7 q2)]⟩
  obtain ⟨e5, e6, e7⟩ := key
  exact (sameU_iff a b).1 (by simp [sameU, e1, e2, e3, e4, e5, e6, e7])
theorem same1_sl (x : Sl) : V.same1 (.sl x) (.sl x) = true := by
  obtain ⟨a, l, c⟩ := x
  cases c <;> simp [V.same1]
theorem same_cells (u : Un) (s : Sl) : V.same (.agg [.i .u8 u.b, .b u.bb, .i .u8 u.f, .b u.fb, .i .u8 u.k, .i .u8 u.st, .sl s]) (.agg [.i .u8 u.b, .b u.bb, .i .u8 u.f, .b u.fb, .i .u8 u.k, .i .u8 u.st, .sl s]) = true := by
  simp only [V.same, sames, same1_sl]
  simp [V.same1]
section
variable {H : Heap} {s t : Sl} {a b : Un}
theorem s18 (hw : H.Wf) (ha : BS H s a.ld) (hb : BS H t b.ld) (hl : a.ld.length ≤ 1000) : ∃ H', (∀ (R : Type) (K : Bool → Heap → Option R), g18 R a.b a.bb a.f a.fb a.k a.st s b.b b.bb b.f b.fb b.k b.st t H K = K (sameU a b) H') ∧ Ext H H' ∧ H'.Wf := by
  have g1 := Heap.gnew H (.cells (a.cells s) 25 false)
  have w1 := hw.new (.cells (a.cells s) 25 false)
  have x1 := Ext.new H (.cells (a.cells s) 25 false)
  have x2 := Ext.new (H.new (.cells (a.cells s) 25 false)) (.cells (b.cells t) 25 false)
  have w2 := w1.new (.cells (b.cells t) 25 false)
  have ga := x2.get w1 g1
  have gb := Heap.gnew (H.new (.cells (a.cells s) 25 false)) (.cells (b.cells t) 25 false)
  obtain ⟨a0, a1, a2, a3, a4, a5, a6⟩ := ldU (H0 := H) ga
  obtain ⟨b0, b1, b2, b3, b4, b5, b6⟩ := ldU (H0 := H) gb
  have e := fun (R : Type) K => equal_ok (R := R) (ha.ext hw (x1.trans x2)) (hb.ext hw (x1.trans x2)) (by omega) K
  refine ⟨_, fun R K => ?_, x1.trans x2, w2⟩
  show g18_p0 g33 R a.b a.bb a.f a.fb a.k a.st s b.b b.bb b.f b.fb b.k b.st t H _ = _
  unfold g18_p0 alo
  rw [show [V.i IntKind.u8 a.b, V.b a.bb, V.i IntKind.u8 a.f, V.b a.fb, V.i IntKind.u8 a.k, V.i IntKind.u8 a.st, V.sl s] = a.cells s from rfl, show [V.i IntKind.u8 b.b, V.b b.bb, V.i IntKind.u8 b.f, V.b b.fb, V.i IntKind.u8 b.k, V.i IntKind.u8 b.st, V.sl t] = b.cells t from rfl]
  simp only [Nat.zero_add, a0, a1, a2, a3, a4, a5, a6, b0, b1, b2, b3, b4, b5, b6, Option.bind_some, e]
  unfold sameU
  generalize (a.b == b.b) = p1; generalize (a.bb == b.bb) = p2; generalize (a.f == b.f) = p3; generalize (a.fb == b.fb) = p4; generalize (a.k == b.k) = p5; generalize (a.st == b.st) = p6; generalize decide (a.ld = b.ld) = p7
  cases p1 <;> cases p2 <;> cases p3 <;> cases p4 <;> cases p5 <;> cases p6 <;> cases p7 <;> rfl
theorem s16 (hw : H.Wf) (ha : BS H s a.ld) (hb : BS H t b.ld) (hl : a.ld.length ≤ 1000) : ∃ H', (∀ (R : Type) (K : Bool → Heap → Option R), g16 R a.b a.bb a.f a.fb a.k a.st s b.b b.bb b.f b.fb b.k b.st t H K = K (sameU a b) H') ∧ Ext H H' ∧ H'.Wf := by
  have g1 := Heap.gnew H (.cells (a.cells s) 25 false)
  have w1 := hw.new (.cells (a.cells s) 25 false)
  have x1 := Ext.new H (.cells (a.cells s) 25 false)
  have x2 := Ext.new (H.new (.cells (a.cells s) 25 false)) (.cells (b.cells t) 25 false)
  have w2 := w1.new (.cells (b.cells t) 25 false)
  have ga := x2.get w1 g1
  have gb := Heap.gnew (H.new (.cells (a.cells s) 25 false)) (.cells (b.cells t) 25 false)
  obtain ⟨a0, a1, a2, a3, a4, a5, a6⟩ := ldU (H0 := H) ga
  obtain ⟨b0, b1, b2, b3, b4, b5, b6⟩ := ldU (H0 := H) gb
  have e := fun (R : Type) K => refSame_ok (R := R) (ha.ext hw (x1.trans x2)) (hb.ext hw (x1.trans x2)) (by omega) K
  refine ⟨_, fun R K => ?_, x1.trans x2, w2⟩
  show g16_p0 g17 R a.b a.bb a.f a.fb a.k a.st s b.b b.bb b.f b.fb b.k b.st t H _ = _
  unfold g16_p0 alo
  rw [show [V.i IntKind.u8 a.b, V.b a.bb, V.i IntKind.u8 a.f, V.b a.fb, V.i IntKind.u8 a.k, V.i IntKind.u8 a.st, V.sl s] = a.cells s from rfl, show [V.i IntKind.u8 b.b, V.b b.bb, V.i IntKind.u8 b.f, V.b b.fb, V.i IntKind.u8 b.k, V.i IntKind.u8 b.st, V.sl t] = b.cells t from rfl]
  simp only [Nat.zero_add, a0, a1, a2, a3, a4, a5, a6, b0, b1, b2, b3, b4, b5, b6, Option.bind_some, e]
  unfold sameU
  generalize (a.b == b.b) = p1; generalize (a.bb == b.bb) = p2; generalize (a.f == b.f) = p3; generalize (a.fb == b.fb) = p4; generalize (a.k == b.k) = p5; generalize (a.st == b.st) = p6; generalize decide (a.ld = b.ld) = p7
  cases p1 <;> cases p2 <;> cases p3 <;> cases p4 <;> cases p5 <;> cases p6 <;> cases p7 <;> rfl
end
end Go.Proofs.YteipplgcdbaokaaDoor

