/- Labels: checks, rotations, links. -/
import Derived.Test.YtgdkkpjmjnknoaaDoorAmC
import Derived.Test.YtgdkkpjmjnknoaaDoorGJ
namespace Go.Proofs.YtgdkkpjmjnknoaaDoor
open Go AM Go.RowKit
set_option linter.unusedVariables false
set_option linter.unusedSimpArgs false

theorem lv {R : Type} (H : Heap) (K : Bool → Heap → Option R) : g12 R H K = K true H := rfl

theorem natU8 {n : Int} (h : 0 ≤ n ∧ n ≤ 255) : ∃ m : Nat, n = m ∧ m < 256 := ⟨n.toNat, by omega, by omega⟩

/-! Rotate -/
def rotF (n : Int) : Int := bvOr .u8 (bvAnd .u8 (shlI .u8 n 2) 15) (bvAnd .u8 (shrI .u8 n 2) 3)
theorem rot_all : ∀ n : Nat, n < 256 → (rotF n == (IntKind.wrap .u8 ((IntKind.wrap .u8 ((4 : Int) * (Int.tmod n (4 : Int)))) + (Int.tmod (IntKind.wrap .u8 (Int.tdiv n (4 : Int))) (4 : Int))))) = true ∧ (rotF (rotF n) == Int.tmod n 16) = true := by
  decide +kernel
theorem labelsRotate_true (H : Heap) (hw : H.Wf) (n : Int) (h : (Lit.int .u8 n).wf = true) : g6 Bool n H (fun r _ => some r) = some true := by
  obtain ⟨m, rfl, hm⟩ := natU8 (wfU8 h)
  obtain ⟨h1, h2⟩ := rot_all m hm
  have e : ∀ (n : Int) (H : Heap) (K : Int → Heap → Option Bool), g19 Bool n H K = K (rotF n) H := fun n H K => rfl
  simp only [g6, g6_r, g6_p0, e, h1, h2, sel_true, lv]

/-! Links -/
def linkF (a b c : Int) : Int × Int × Int × Int := if a = b ∨ a > 16383 ∨ b > 16383 ∨ c > 15 then (0, 0, 0, 1) else (if b < a then b else a, if b > a then b else a, c, 0)
abbrev oL (a b c : Int) : O := .cells [.i .u16 a, .i .u16 b, .i .u8 c] 46 false
theorem oL_ld {X : Heap} {i : Nat} {a b c : Int} (h : X.get i = some (oL a b c)) : X.ldI .u16 i 0 = some a ∧ X.ldI .u16 i 1 = some b ∧ X.ldI .u8 i 2 = some c := ⟨ldI_of h rfl, ldI_of h rfl, ldI_of h rfl⟩
theorem oL_sts {X : Heap} {i : Nat} {a b c a' b' c' : Int} (h : X.get i = some (oL a b c)) : X.sts i 0 [.i .u16 a', .i .u16 b', .i .u8 c'] = some (X.put i (oL a' b' c')) := by rw [sts_of h (by simp) rfl]; rfl
theorem s20 {H : Heap} (hw : H.Wf) (a b c : Int) : ∃ H', (∀ (R : Type) (K : Int → Int → Int → Int → Heap → Option R), g20 R a b c H K = K (linkF a b c).1 (linkF a b c).2.1 (linkF a b c).2.2.1 (linkF a b c).2.2.2 H') ∧ Ext H H' ∧ H'.Wf := by
  have g1 := Heap.gnew H (oL 0 0 0)
  have x1 := Ext.new H (oL 0 0 0)
  have w1 := hw.new (oL 0 0 0)
  generalize hX : H.new (oL 0 0 0) = X at *
  have hx : ∀ p q r : Int, Ext H (X.put H.next (oL p q r)) ∧ (X.put H.next (oL p q r)).Wf := fun p q r => ⟨x1.above (Nat.le_refl _) _, w1.put g1 _⟩
  have key : ∀ (R : Type) (K : Int → Int → Int → Int → Heap → Option R), g20 R a b c H K = K (linkF a b c).1 (linkF a b c).2.1 (linkF a b c).2.2.1 (linkF a b c).2.2.2 (X.put H.next (oL (linkF a b c).1 (linkF a b c).2.1 (linkF a b c).2.2.1)) := by
    intro R K
    have g2 := fun p q r => Heap.gput X H.next (oL p q r)
    have l0 := fun p q r => (oL_ld (g2 p q r)).1
    have l1 := fun p q r => (oL_ld (g2 p q r)).2.1
    have l2 := fun p q r => (oL_ld (g2 p q r)).2.2
    have st := fun p q r => oL_sts (a' := p) (b' := q) (c' := r) g1
    simp only [g20, g20_r, g20_p0, alo, hX, st, Option.bind_some, Nat.zero_add, l0, l1, l2]
    unfold linkF
    by_cases h1 : a = b
    · simp [h1]
    · have b1 : (a == b) = false := by simp [h1]
      by_cases h2 : (if b > a then b else a) > 16383
      · have h2' : a > 16383 ∨ b > 16383 := by split at h2 <;> omega
        have : a = b ∨ a > 16383 ∨ b > 16383 ∨ c > 15 := by omega
        simp only [b1, sel_false, decide_eq_true h2, sel_true, if_pos this]
      · have h2' : ¬ a > 16383 ∧ ¬ b > 16383 := by split at h2 <;> omega
        by_cases h3 : c > 15
        · have : a = b ∨ a > 16383 ∨ b > 16383 ∨ c > 15 := by omega
          simp only [b1, sel_false, decide_eq_false h2, decide_eq_true h3, sel_true, if_pos this]
        · have : ¬ (a = b ∨ a > 16383 ∨ b > 16383 ∨ c > 15) := by omega
          simp only [b1, sel_false, decide_eq_false h2, decide_eq_false h3, if_neg this]
  exact ⟨_, key, (hx _ _ _).1, (hx _ _ _).2⟩
def otherF (a b p : Int) : Int × Bool := if a = b then (0, false) else if a = p then (b, true) else if b = p then (a, true) else (0, false)
theorem s21 {H : Heap} (hw : H.Wf) (a b c p : Int) : ∃ H', (∀ (R : Type) (K : Int → Bool → Heap → Option R), g21 R a b c p H K = K (otherF a b p).1 (otherF a b p).2 H') ∧ Ext H H' ∧ H'.Wf := by
  have g1 := Heap.gnew H (oL a b c)
  obtain ⟨l0, l1, l2⟩ := oL_ld g1
  refine ⟨H.new (oL a b c), fun R K => ?_, Ext.new _ _, hw.new _⟩
  simp only [g21, g21_r, g21_p0, alo, Nat.zero_add, l0, l1, Option.bind_some]
  unfold otherF
  by_cases h1 : a = b
  · rw [show (a == b) = true by simp [h1], sel_true, if_pos h1]
  · rw [show (a == b) = false by simp [h1], sel_false, if_neg h1]
    by_cases h2 : a = p
    · rw [show (a == p) = true by simp [h2], sel_true, if_pos h2]
    · rw [show (a == p) = false by simp [h2], sel_false, if_neg h2]
      by_cases h3 : b = p
      · rw [show (b == p) = true by simp [h3], sel_true, if_pos h3]
      · rw [show (b == p) = false by simp [h3], sel_false, if_neg h3]
theorem ofNat16 (z : BitVec 16) : BitVec.ofInt 16 (z.toNat : Int) = z := by
  apply BitVec.eq_of_toNat_eq
  rw [BitVec.toNat_ofInt]
  have := z.isLt
  show ((z.toNat : Int) % ((2 : Nat) ^ 16 : Nat)).toNat = z.toNat
  omega
theorem xor16 (x y : BitVec 16) : bvXor .u16 (x.toNat : Int) (y.toNat : Int) = ((x ^^^ y).toNat : Int) := by
  have h1 : bvXor .u16 (x.toNat : Int) (y.toNat : Int) = IntKind.wrap .u16 (((BitVec.ofInt 16 (x.toNat : Int)) ^^^ (BitVec.ofInt 16 (y.toNat : Int))).toNat : Int) := rfl
  rw [h1, ofNat16, ofNat16]
  exact w16u (by have := (x ^^^ y).isLt; omega)
theorem xor_lem {a b : Int} (ha : 0 ≤ a ∧ a ≤ 65535) (hb : 0 ≤ b ∧ b ≤ 65535) : bvXor .u16 (bvXor .u16 a b) a = b ∧ bvXor .u16 (bvXor .u16 a b) b = a := by
  obtain ⟨x, hx⟩ : ∃ x : BitVec 16, a = x.toNat := ⟨BitVec.ofInt 16 a, by rw [BitVec.toNat_ofInt]; omega⟩
  obtain ⟨y, hy⟩ : ∃ y : BitVec 16, b = y.toNat := ⟨BitVec.ofInt 16 b, by rw [BitVec.toNat_ofInt]; omega⟩
  subst hx; subst hy
  rw [xor16, xor16, xor16]
  constructor
  · rw [BitVec.xor_comm x y, BitVec.xor_assoc, BitVec.xor_self, BitVec.xor_zero]
  · rw [BitVec.xor_assoc, BitVec.xor_self, BitVec.xor_zero]
theorem labelsLinks_true (H : Heap) (hw : H.Wf) (a b c p la lb lc : Int) (ha : (Lit.int .u16 a).wf = true) (hb : (Lit.int .u16 b).wf = true) (hc : (Lit.int .u8 c).wf = true) (hp : (Lit.int .u16 p).wf = true) (hla : (Lit.int .u16 la).wf = true) (hlb : (Lit.int .u16 lb).wf = true) (hlc : (Lit.int .u8 lc).wf = true) :
    g7 Bool a b c p la lb lc H (fun r _ => some r) = some true := by
  have ha' := wfU16 ha; have hb' := wfU16 hb; have hla' := wfU16 hla; have hlb' := wfU16 hlb; have hp' := wfU16 hp
  have q0 := Heap.gnew H (.cells [.i .u8 c, .i .u16 p, .i .u16 la, .i .u16 lb, .i .u8 lc] 48 false)
  have w0 := hw.new (.cells [.i .u8 c, .i .u16 p, .i .u16 la, .i .u16 lb, .i .u8 lc] 48 false)
  have n0 : (H.new (.cells [.i .u8 c, .i .u16 p, .i .u16 la, .i .u16 lb, .i .u8 lc] 48 false)).next = H.next + 1 := rfl
  simp only [g7, g7_r, g7_p6, g7_p0, alo]
  generalize H.new (.cells [.i .u8 c, .i .u16 p, .i .u16 la, .i .u16 lb, .i .u8 lc] 48 false) = X0 at *
  have r0 : ∀ {X : Heap}, X.get H.next = some (.cells [.i .u8 c, .i .u16 p, .i .u16 la, .i .u16 lb, .i .u8 lc] 48 false) → X.ldI .u8 H.next 0 = some c ∧ X.ldI .u16 H.next 1 = some p ∧ X.ldI .u16 H.next 2 = some la ∧ X.ldI .u16 H.next (2 + 1) = some lb ∧ X.ldI .u8 H.next (2 + 2) = some lc := fun h => ⟨ldI_of h rfl, ldI_of h rfl, ldI_of h rfl, ldI_of h rfl, ldI_of h rfl⟩
  obtain ⟨X1, e1, x1, w1⟩ := s20 w0 a b c
  have q1 := x1.get w0 q0
  -- the first link
  have g1 := Heap.gnew X1 (oL 0 0 0)
  have q1' := (Ext.new X1 (oL 0 0 0)).get w1 q1
  have w1' := w1.new (oL 0 0 0)
  have q2 : ((X1.new (oL 0 0 0)).put X1.next (oL (linkF a b c).1 (linkF a b c).2.1 (linkF a b c).2.2.1)).get H.next = some (.cells [.i .u8 c, .i .u16 p, .i .u16 la, .i .u16 lb, .i .u8 lc] 48 false) := by
    have := w1 _ _ q1
    rw [Heap.get_put, if_neg (by omega)]; exact q1'
  have w2 : ((X1.new (oL 0 0 0)).put X1.next (oL (linkF a b c).1 (linkF a b c).2.1 (linkF a b c).2.2.1)).Wf := w1'.put g1 _
  have g2 := Heap.gput (X1.new (oL 0 0 0)) X1.next (oL (linkF a b c).1 (linkF a b c).2.1 (linkF a b c).2.2.1)
  obtain ⟨X3, e3, x3, w3⟩ := s20 w2 b a c
  have q3 := x3.get w2 q2
  have g3 := x3.get w2 g2
  have g4 := Heap.gnew X3 (oL 0 0 0)
  have w3' := w3.new (oL 0 0 0)
  have x4 := Ext.new X3 (oL 0 0 0)
  have hlt3 := w3 _ _ q3
  have hlt3' := w3 _ _ g3
  have q5 : ((X3.new (oL 0 0 0)).put X3.next (oL (linkF b a c).1 (linkF b a c).2.1 (linkF b a c).2.2.1)).get H.next = some (.cells [.i .u8 c, .i .u16 p, .i .u16 la, .i .u16 lb, .i .u8 lc] 48 false) := by
    rw [Heap.get_put, if_neg (by omega)]; exact x4.get w3 q3
  have g5 : ((X3.new (oL 0 0 0)).put X3.next (oL (linkF b a c).1 (linkF b a c).2.1 (linkF b a c).2.2.1)).get X1.next = some (oL (linkF a b c).1 (linkF a b c).2.1 (linkF a b c).2.2.1) := by
    rw [Heap.get_put, if_neg (by omega)]; exact x4.get w3 g3
  have g6 := Heap.gput (X3.new (oL 0 0 0)) X3.next (oL (linkF b a c).1 (linkF b a c).2.1 (linkF b a c).2.2.1)
  have w5 : ((X3.new (oL 0 0 0)).put X3.next (oL (linkF b a c).1 (linkF b a c).2.1 (linkF b a c).2.2.1)).Wf := w3'.put g4 _
  simp only [Nat.zero_add, (r0 q0).1, Option.bind_some, e1, oL_sts g1, (r0 q2).1, e3, oL_sts g4]
  generalize (X3.new (oL 0 0 0)).put X3.next (oL (linkF b a c).1 (linkF b a c).2.1 (linkF b a c).2.2.1) = X5 at *
  have hsym : linkF b a c = linkF a b c := by
    unfold linkF
    by_cases h : a = b ∨ a > 16383 ∨ b > 16383 ∨ c > 15
    · rw [if_pos h, if_pos (by omega)]
    · rw [if_neg h, if_neg (by omega)]
      have h1 : (if a < b then a else b) = (if b < a then b else a) := by split <;> split <;> omega
      have h2 : (if a > b then a else b) = (if b > a then b else a) := by split <;> split <;> omega
      rw [h1, h2]
  rw [hsym] at g6
  rw [hsym]
  obtain ⟨m0, m1, m2⟩ := oL_ld g5
  obtain ⟨m3, m4, m5⟩ := oL_ld g6
  obtain ⟨r1, r2, r3, r4, r5⟩ := r0 q5
  simp only [bne_self_eq_false, sel_false, m0, m1, m2, m3, m4, m5, r1, Option.bind_some, beq_self_eq_true, Bool.and_true, Bool.not_true]
  -- is it valid?
  by_cases hv : a = b ∨ a > 16383 ∨ b > 16383 ∨ c > 15
  · have el : linkF a b c = (0, 0, 0, 1) := if_pos hv
    have fin : ∀ k : Bool, k = true → (g7_p5 g20 g12 g21 Bool a b H.next 0 X1.next 0 (linkF a b c).2.2.2 k X5 fun t6 H => some t6) = some true := by
      intro k hk
      subst hk
      rw [el] at m0 m1 m2 ⊢
      simp only [g7_p5, g7_p1, sel_true, beq_self_eq_true, Nat.zero_add, m0, m1, m2, Option.bind_some, Bool.and_true, lv]
    by_cases h1 : a = b
    · have b1 : (a == b) = true := by simp [h1]
      rw [b1, sel_true]; exact fin _ rfl
    · have b1 : (a == b) = false := by simp [h1]
      rw [b1, sel_false]
      by_cases h2 : a > 16383
      · rw [decide_eq_true h2, sel_true]; exact fin _ rfl
      · rw [decide_eq_false h2, sel_false]
        by_cases h3 : b > 16383
        · rw [decide_eq_true h3, sel_true]; exact fin _ rfl
        · rw [decide_eq_false h3, sel_false]
          exact fin _ (by simp; omega)
  · have el : linkF a b c = (if b < a then b else a, if b > a then b else a, c, 0) := if_neg hv
    have b1 : (a == b) = false := by simp; omega
    have b2 : decide (a > 16383) = false := by simp; omega
    have b3 : decide (b > 16383) = false := by simp; omega
    have b4 : decide (c > 15) = false := by simp; omega
    rw [b1, sel_false, b2, sel_false, b3, sel_false, b4]
    obtain ⟨lo, hlo⟩ : ∃ lo, lo = if b < a then b else a := ⟨_, rfl⟩
    obtain ⟨hi, hhi⟩ : ∃ hi, hi = if b > a then b else a := ⟨_, rfl⟩
    rw [← hlo, ← hhi] at el
    rw [el] at m0 m1 m2 ⊢
    have hcase : (lo = a ∧ hi = b ∧ a < b) ∨ (lo = b ∧ hi = a ∧ b < a) := by
      rw [hlo, hhi]
      rcases Int.lt_or_lt_of_ne (show a ≠ b by omega) with h | h
      · left; rw [if_neg (by omega), if_pos (by omega)]; exact ⟨rfl, rfl, h⟩
      · right; rw [if_pos h, if_neg (by omega)]; exact ⟨rfl, rfl, h⟩
    have b5 : decide (lo ≥ hi) = false := by simp; omega
    have p1 : (g7_p5 g20 g12 g21 Bool a b H.next 0 X1.next 0 0 false X5 fun t6 H => some t6) = g7_p4 g20 g12 g21 Bool a b H.next 0 X1.next 0 false X5 fun t6 H => some t6 := by
      simp only [g7_p5, g7_p1, sel_false, bne_self_eq_false, Nat.zero_add, m0, m1, m2, r1, Option.bind_some, b5]
      rcases hcase with ⟨rfl, rfl, h⟩ | ⟨rfl, rfl, h⟩
      · have c1 : (hi != lo) = true := by simp; omega
        simp only [bne_self_eq_false, sel_false, c1, sel_true]
      · have c1 : (lo != hi) = true := by simp; omega
        simp only [bne_self_eq_false, sel_false, c1, sel_true]
    have p2 : (g7_p5 g20 g12 g21 Bool a b H.next 0 X1.next 0 0 false X5 fun t6 H => some t6) = some true := by
      rw [p1]
      obtain ⟨Y1, f1, y1, v1⟩ := s21 w5 lo hi c a
      have k1 := y1.get w5 g5
      rw [el] at k1
      obtain ⟨n0, n1, n2⟩ := oL_ld k1
      obtain ⟨Y2, f2, y2, v2⟩ := s21 v1 lo hi c b
      have k2 := y2.get v1 k1
      obtain ⟨o0, o1, o2⟩ := oL_ld k2
      obtain ⟨t1, t2, t3, t4, t5⟩ := r0 (y2.get v1 (y1.get w5 q5))
      obtain ⟨Y3, f3, y3, v3⟩ := s21 v2 lo hi c p
      have q8 := y3.get v2 (y2.get v1 (y1.get w5 q5))
      obtain ⟨u1, u2, u3, u4, u5⟩ := r0 q8
      obtain ⟨Y4, f4, y4, v4⟩ := s21 v3 la lb lc p
      obtain ⟨z1, z2, z3, z4, z5⟩ := r0 (y4.get v3 q8)
      have oa : otherF lo hi a = (b, true) := by
        unfold otherF
        rcases hcase with ⟨rfl, rfl, h⟩ | ⟨rfl, rfl, h⟩
        · rw [if_neg (by omega), if_pos rfl]
        · rw [if_neg (by omega), if_neg (by omega), if_pos rfl]
      have ob : otherF lo hi b = (a, true) := by
        unfold otherF
        rcases hcase with ⟨rfl, rfl, h⟩ | ⟨rfl, rfl, h⟩
        · rw [if_neg (by omega), if_neg (by omega), if_pos rfl]
        · rw [if_neg (by omega), if_pos rfl]
      have op : (otherF lo hi p).2 = decide (p = a ∨ p = b) := by
        unfold otherF
        rcases hcase with ⟨rfl, rfl, h⟩ | ⟨rfl, rfl, h⟩
        · rw [if_neg (by omega)]
          by_cases e1 : lo = p
          · rw [if_pos e1]; simp [e1]
          · rw [if_neg e1]
            by_cases e2 : hi = p
            · rw [if_pos e2]; simp [e2]
            · rw [if_neg e2]
              have : ¬ (p = lo ∨ p = hi) := by omega
              simp [this]
        · rw [if_neg (by omega)]
          by_cases e1 : lo = p
          · rw [if_pos e1]; simp [e1]
          · rw [if_neg e1]
            by_cases e2 : hi = p
            · rw [if_pos e2]; simp [e2]
            · rw [if_neg e2]
              have : ¬ (p = hi ∨ p = lo) := by omega
              simp [this]
      have e5 : (g7_p3 g20 g12 g21 Bool H.next 0 (otherF la lb p).1 (otherF la lb p).2 false Y4 fun t6 H => some t6) = some true := by
        simp only [g7_p3, sel_false, Nat.zero_add, z3, z4, Option.bind_some, z2]
        unfold otherF
        by_cases h1 : la = lb
        · have c1 : (la != lb) = false := by simp [h1]
          rw [c1, sel_false, if_pos h1]
          simp [lv]
        · have c1 : (la != lb) = true := by simp [h1]
          rw [c1, sel_true, if_neg h1]
          by_cases h2 : la = p
          · have c2 : (la == p) = true := by simp [h2]
            rw [c2, sel_true, if_pos h2]
            have := (xor_lem hla' hlb').1
            subst h2
            rw [this]
            simp [lv]
          · have c2 : (la == p) = false := by simp [h2]
            rw [c2, sel_false, if_neg h2]
            by_cases h3 : lb = p
            · have c3 : (lb == p) = true := by simp [h3]
              rw [c3, sel_true, if_pos h3]
              have := (xor_lem hla' hlb').2
              subst h3
              rw [this]
              simp [lv]
            · have c3 : (lb == p) = false := by simp [h3]
              rw [c3, sel_false, if_neg h3]
              simp [lv]
      simp only [g7_p4, g7_p2, sel_false, Nat.zero_add, m0, m1, m2, Option.bind_some, f1, n0, n1, n2, f2, o0, o1, o2, t2, f3, u2, u3, u4, u5, f4, oa, ob, op, bne_self_eq_false, Bool.not_true, z2]
      by_cases h1 : p = a
      · have c1 : (p == a) = true := by simp [h1]
        have d1 : decide (p = a ∨ p = b) = true := by simp [h1]
        rw [c1, sel_true, d1]; exact e5
      · have c1 : (p == a) = false := by simp [h1]
        have d1 : decide (p = a ∨ p = b) = (p == b) := by
          by_cases h2 : p = b
          · simp [h2]
          · have : ¬ (p = a ∨ p = b) := by omega
            simp [h1, h2]
        rw [c1, sel_false, d1]
        simp only [beq_self_eq_true, Bool.not_true]
        exact e5
    exact p2

/-! Compare -/
def cmpF (a b : Int) : Int := if a < b then -1 else if a > b then 1 else 0
def cmpL (a b c a' b' c' : Int) : Int := if cmpF a a' ≠ 0 then cmpF a a' else if cmpF b b' ≠ 0 then cmpF b b' else cmpF c c'
theorem s36 {R : Type} (a b : Int) (H : Heap) (K : Int → Heap → Option R) : g36 R a b H K = K (cmpF a b) H := by
  have e : ∀ (n : Int) (H : Heap) (K : Bool → Heap → Option R), g47 R n H K = K false H := fun n H K => by simp only [g47, g47_r, g47_p0, bne_self_eq_false]
  simp only [g36, g36_r, g36_p0, e, sel_false]
  unfold cmpF
  by_cases h : a < b
  · simp [h]
  · by_cases h2 : a > b
    · simp [h, h2]
    · simp [h, h2]
theorem s37 {R : Type} (a b : Int) (H : Heap) (K : Int → Heap → Option R) : g37 R a b H K = K (cmpF a b) H := by
  have e : ∀ (n : Int) (H : Heap) (K : Bool → Heap → Option R), g48 R n H K = K false H := fun n H K => by simp only [g48, g48_r, g48_p0, bne_self_eq_false]
  simp only [g37, g37_r, g37_p0, e, sel_false]
  unfold cmpF
  by_cases h : a < b
  · simp [h]
  · by_cases h2 : a > b
    · simp [h, h2]
    · simp [h, h2]
/-- the first that is not zero, of three -/
theorem s35 {R : Type} {X : Heap} {i : Nat} {x y z : Int} (h : X.get i = some (.cells [.i .i64 x, .i .i64 y, .i .i64 z] 3 false)) (K : Int → Heap → Option R) : g35 R ⟨some (i, 0), 3, .ex 3⟩ X K = K (if x ≠ 0 then x else if y ≠ 0 then y else z) X := by
  have l0 : X.ldI .i64 i 0 = some x := ldI_of h rfl
  have l1 : X.ldI .i64 i 1 = some y := ldI_of h rfl
  have l2 : X.ldI .i64 i 2 = some z := ldI_of h rfl
  have step : ∀ (n : Int) (v : Int), 0 ≤ n ∧ n < 3 → X.ldI .i64 i n.toNat = some v → (g35_p2_b (0, ⟨some (i, 0), 3, .ex 3⟩, 3, n) X) = if v = 0 then some (.go (0, ⟨some (i, 0), 3, .ex 3⟩, 3, n + 1), X) else some (.up (.inr v), X) := by
    intro n v hn hl
    have d : decide (n < 3) = true := by simp; omega
    simp only [g35_p2_b, g35_p1, d, sel_true]
    rw [if_pos (by show 0 ≤ n ∧ n < ((3 : Nat) : Int); omega)]
    simp only [Option.bind_some, Nat.zero_add, Nat.mul_one, hl]
    by_cases hv : v = 0
    · simp [hv, w64 (n := n + 1) (by omega)]
    · rw [show (v != 0) = true by simp [hv], sel_true, if_neg hv]
  have last : (g35_p2_b (0, ⟨some (i, 0), 3, .ex 3⟩, 3, 3) X) = some (.up (.inl 0), X) := by
    have d : decide ((3 : Int) < 3) = false := by simp
    simp only [g35_p2_b, g35_p1, d, sel_false]
  have e : g35 R ⟨some (i, 0), 3, .ex 3⟩ X K = (tlim g35_p2_b (0, ⟨some (i, 0), 3, .ex 3⟩, 3, 0) X).bind fun p => cas p.1 (fun r => K r p.2) (fun r0 => K r0 p.2) := rfl
  rw [e, tlim_eq, step 0 x (by omega) l0]
  by_cases hx : x = 0
  · rw [if_pos hx]
    simp only [Option.bind_some]
    rw [tlim_eq, show (0 : Int) + 1 = 1 from rfl, step 1 y (by omega) l1]
    by_cases hy : y = 0
    · rw [if_pos hy]
      simp only [Option.bind_some]
      rw [tlim_eq, show (1 : Int) + 1 = 2 from rfl, step 2 z (by omega) l2]
      by_cases hz : z = 0
      · rw [if_pos hz]
        simp only [Option.bind_some]
        rw [tlim_eq, show (2 : Int) + 1 = 3 from rfl, last]
        simp [cas, hx, hy, hz]
      · rw [if_neg hz]
        simp [cas, hx, hy]
    · rw [if_neg hy]
      simp [cas, hx, hy]
  · rw [if_neg hx]
    simp [cas, hx]
end Go.Proofs.YtgdkkpjmjnknoaaDoor

