/- MonitorsSpans. -/
import Derived.Test.YtbkncpmgpogakaaMS10
namespace Go.Proofs.Ytbkncpmgpogakaa
open Go AM Go.RowKit
set_option linter.unusedVariables false
set_option linter.unusedSimpArgs false

/-- First, of any slice of units -/
theorem s14' {X : Heap} {m : Nat} {s : Sl} {l : List Bool} {y : Ms} (hm : X.get m = some y.obj) (hb : BSl X s l) (hs : ∀ id off, s.a = some (id, off) → id ≠ m) (hy : y.Ok) (ho : y.lv ≠ y.lim) (hlen : l.length ≤ 1000) :
    ∃ r, (∀ (R : Type) (K : Int → Heap → Option R), g14 R (y.val m) s X K = K r (X.put m (y.run l).obj)) ∧ IsFirst y l r := by
  obtain ⟨r, X', e, rfl, r', h2, h3⟩ := tlim_inv (b := g14_p2_b g40 g38 g44 g46) (fun st G => ∃ i : Nat, st = (y.val m, s, (l.length : Int), (i : Int)) ∧ i ≤ l.length ∧ G = X.put m (y.run (l.take i)).obj ∧ ∀ j, 1 ≤ j → j ≤ i → ¬ y.OverAt l j)
    (fun st => l.length - st.2.2.2.toNat) (fun r G => G = X.put m (y.run l).obj ∧ ∃ r' : Int, IsFirst y l r' ∧ ((r = .inl () ∧ r' = -1) ∨ r = .inr r')) (by
      rintro st G ⟨i, rfl, hi, rfl, hno⟩
      have hok := hy.run (l.take i)
      have hlike := y.run_like (l.take i)
      have hbG : ∀ o, BSl (X.put m o) s l := fun o => hb.mono fun id off ha => by rw [Heap.get_put, if_neg (hs _ _ ha)]
      have hmG : ∀ o, (X.put m o).get m = some o := fun o => Heap.gput _ _ _
      by_cases hil : i < l.length
      · have hd : decide ((i : Int) < (l.length : Int)) = true := by simp; omega
        obtain ⟨id, off, e1, e2⟩ := (hbG (y.run (l.take i)).obj).at hil
        have hok2 := hy.run (l.take (i + 1))
        have hlike2 := y.run_like (l.take (i + 1))
        have hw : IntKind.wrap .i64 ((i : Int) + 1) = ((i + 1 : Nat) : Int) := by rw [w64 (by omega)]; rfl
        have hbody : ∀ (R : Type) (kN : V → Sl → Int → Int → Heap → Option R) (kE0 : Heap → Option R) (kR : Int → Heap → Option R), g14_p1 g40 g38 g44 g46 R (y.val m) s (l.length : Int) (i : Int) (X.put m (y.run (l.take i)).obj) kN kE0 kR =
            sel ((y.run (l.take (i + 1))).lv == (y.run (l.take (i + 1))).lim) (kR ((i + 1 : Nat) : Int) (X.put m (y.run (l.take (i + 1))).obj)) (kN (y.val m) s (l.length : Int) ((i + 1 : Nat) : Int) (X.put m (y.run (l.take (i + 1))).obj)) := by
          intro R kN kE0 kR
          simp only [g14_p1, hd, sel_true]
          rw [if_pos (by have := hb.1; omega)]
          simp only [e1, Option.bind_some, Int.toNat_natCast, Nat.mul_one, e2]
          rw [← hlike.val m, m_count E14c.1.1 E14c.1.2.1 E14c.1.2.2 hok (hmG _), exR0, ← Ms.run_take hil, hlike.val m, Heap.put_put, ← hlike2.val m, m_over E14c.2 hok2.kind (hmG _)]
          simp only [V.asB, Option.bind_some, hw]
        by_cases hov : (y.run (l.take (i + 1))).lv = (y.run (l.take (i + 1))).lim
        · right
          have hall : y.run l = y.run (l.take (i + 1)) := by
            conv => lhs; rw [← List.take_append_drop (i + 1) l, Ms.run_append, Ms.run_over hok2 hov]
          refine ⟨.inr ((i + 1 : Nat) : Int), _, ?_, by rw [hall], ((i + 1 : Nat) : Int), .inr ⟨i + 1, rfl, by omega, by omega, by unfold Ms.OverAt; rw [hov, hlike2.lim], fun j hj hji => hno j hj (by omega)⟩, .inr rfl⟩
          simp only [g14_p2_b, hbody, hov, beq_self_eq_true, sel_true]
        · left
          have hb' : ((y.run (l.take (i + 1))).lv == (y.run (l.take (i + 1))).lim) = false := by simpa using hov
          refine ⟨(y.val m, s, (l.length : Int), ((i + 1 : Nat) : Int)), _, ?_, ⟨i + 1, rfl, by omega, rfl, fun j hj hji => ?_⟩, by dsimp only; omega⟩
          · simp only [g14_p2_b, hbody, hb', sel_false]
          · by_cases hj2 : j = i + 1
            · subst hj2; unfold Ms.OverAt; rw [← hlike2.lim]; exact hov
            · exact hno j hj (by omega)
      · right
        obtain rfl : i = l.length := by omega
        have hd : decide (((l.length : Nat) : Int) < (l.length : Int)) = false := by simp
        refine ⟨.inl (), X.put m (y.run (l.take l.length)).obj, by simp only [g14_p2_b, g14_p1, hd, sel_false], by rw [List.take_length], -1, .inl ⟨rfl, fun j a b => hno j a b⟩, .inl ⟨rfl, rfl⟩⟩) (y.val m, s, (l.length : Int), 0) X ⟨0, rfl, by omega, by rw [List.take_zero, Ms.run_nil, Heap.put_self hm], fun j a b => by omega⟩
  refine ⟨r', fun R K => ?_, h2⟩
  have hne : (y.lv == y.lim) = false := by simpa using ho
  simp only [g14, g14_r, g14_p6, g14_p0, val_ifNil, Option.bind_some, sel_false]
  rw [m_over E14c.2 hy.kind hm]
  simp only [V.asB, Option.bind_some, hne, sel_false, g14_p5, g14_p3, g14_p2, hb.1, e]
  rcases h3 with ⟨rfl, rfl⟩ | rfl
  · simp [g14_p4]
  · simp

/-- the place that the unit at i comes from -/
def turnAt (z b n i : Nat) : Nat := i / z * z + (i - i / z * z + b) % min (n - i / z * z) z
/-- the units of each span are rotated -/
def turnL (l : List Bool) (z b : Nat) : List Bool := (List.range l.length).map fun i => l.getD (turnAt z b l.length i) false
theorem turnL_length (l : List Bool) (z b : Nat) : (turnL l z b).length = l.length := by simp [turnL]
theorem turnAt_lt {z b n i : Nat} (hz : 1 ≤ z) (hi : i < n) : turnAt z b n i < n := by
  unfold turnAt
  have h1 := Nat.div_mul_le_self i z
  have h2 := Nat.mod_lt (i - i / z * z + b) (show 0 < min (n - i / z * z) z by omega)
  omega
theorem turnL_at {l : List Bool} {z b i : Nat} (hz : 1 ≤ z) (hi : i < l.length) : (turnL l z b)[i]'(by rw [turnL_length]; exact hi) = l[turnAt z b l.length i]'(turnAt_lt hz hi) := by
  simp [turnL, List.getD_eq_getElem?_getD, List.getElem?_eq_getElem (turnAt_lt hz hi)]
theorem wrongIn_iff {l : List Bool} {a b : Nat} : wrongIn l a b = true ↔ ∃ k, ∃ h : k < l.length, a ≤ k ∧ k < b ∧ l[k] = false := by
  unfold wrongIn
  rw [List.any_eq_true]
  constructor
  · rintro ⟨x, hx, hf⟩
    obtain ⟨j, hj, rfl⟩ := List.getElem_of_mem hx
    simp only [List.length_drop, List.length_take] at hj
    refine ⟨a + j, by omega, by omega, by omega, ?_⟩
    simpa using hf
  · rintro ⟨k, h, h1, h2, h3⟩
    refine ⟨l[k], ?_, by simp [h3]⟩
    rw [List.mem_iff_getElem]
    refine ⟨k - a, by simp; omega, ?_⟩
    simp only [List.getElem_drop, List.getElem_take]
    congr 1; omega
theorem turn_span {l : List Bool} {z b q : Nat} (hz : 1 ≤ z) (hq : q * z + z ≤ l.length) : wrongIn (turnL l z b) (q * z) (q * z + z) = wrongIn l (q * z) (q * z + z) := by
  have hdiv : ∀ k, q * z ≤ k → k < q * z + z → k / z = q := fun k h1 h2 => by
    rw [Nat.div_eq_iff (by omega)]; constructor <;> omega
  rw [Bool.eq_iff_iff, wrongIn_iff, wrongIn_iff]
  constructor
  · rintro ⟨k, h, h1, h2, h3⟩
    rw [turnL_length] at h
    rw [turnL_at hz h] at h3
    refine ⟨_, turnAt_lt hz h, ?_, ?_, h3⟩
    · unfold turnAt; rw [hdiv k h1 h2]; omega
    · unfold turnAt; rw [hdiv k h1 h2]
      have := Nat.mod_lt (k - q * z + b) (show 0 < min (l.length - q * z) z by omega)
      omega
  · rintro ⟨j, h, h1, h2, h3⟩
    have hr := Nat.mod_lt b (show 0 < z by omega)
    have hm := Nat.mod_lt (j - q * z + (z - b % z)) (show 0 < z by omega)
    have hk : q * z + (j - q * z + (z - b % z)) % z < l.length := by omega
    refine ⟨q * z + (j - q * z + (z - b % z)) % z, by rw [turnL_length]; exact hk, by omega, by omega, ?_⟩
    rw [turnL_at hz hk]
    have e : turnAt z b l.length (q * z + (j - q * z + (z - b % z)) % z) = j := by
      unfold turnAt
      rw [hdiv _ (by omega) (by omega), Nat.add_sub_cancel_left, Nat.min_eq_right (by omega), Nat.mod_add_mod]
      have hb := Nat.mod_add_div b z
      have e2 : j - q * z + (z - b % z) + b = (j - q * z) + z * (1 + b / z) := by rw [Nat.mul_add]; omega
      rw [e2, Nat.add_mul_mod_self_left, Nat.mod_eq_of_lt (by omega)]
      omega
    rw [List.getElem_of_eq rfl] 
    simp only [e]; exact h3
/-- the level of a Span depends only on which spans have wrong units -/
theorem span_lv {x0 : Ms} (h : x0.Ok) (hn : x0.New) (hk : x0.kind = 2) {l l' : List Bool} (hl : l'.length = l.length) {z : Nat} (hz : x0.sz = (z : Int)) (hs : ∀ q, q * z + z ≤ l.length → wrongIn l' (q * z) (q * z + z) = wrongIn l (q * z) (q * z + z)) :
    ∀ i, i ≤ l.length → (x0.run (l'.take i)).lv = (x0.run (l.take i)).lv := by
  have hz1 : 1 ≤ z := by have := h.sz.1; omega
  intro i
  induction i with
  | zero => intro _; simp
  | succ i ih =>
    intro hi
    have hil : i < l.length := by omega
    have hil' : i < l'.length := by omega
    have e := ih (by omega)
    have a1 := Ms.at_all h hn l i (by omega)
    have a2 := Ms.at_all h hn l' i (by omega)
    have ok1 := h.run (l.take i)
    have ok2 := h.run (l'.take i)
    have k1 := x0.run_like (l.take i)
    have k2 := x0.run_like (l'.take i)
    rw [Ms.run_take hil, Ms.run_take hil']
    unfold Ms.At at a1 a2
    generalize x0.run (l.take i) = y at *
    generalize x0.run (l'.take i) = y' at *
    by_cases hov : y.lv = y.lim
    · rw [Ms.count_over ok1 hov, Ms.count_over ok2 (by rw [e, hov, k1.lim, k2.lim])]; exact e
    · have hlt : y.lv < x0.lim := by have := ok1.lv.2; have := k1.lim; omega
      obtain ⟨u1, w1⟩ := a1 hlt
      obtain ⟨u2, w2⟩ := a2 (by omega)
      have u1 := u1 (by omega)
      have u2 := u2 (by omega)
      have w1 := w1 (by omega) (by omega)
      have w2 := w2 (by omega) (by omega)
      have c1 : y.kind = 2 := by rw [k1.kind, hk]
      have c2 : y'.kind = 2 := by rw [k2.kind, hk]
      have hov' : ¬ y'.lv = y'.lim := by rw [e, k2.lim, ← k1.lim]; exact hov
      have hm : (i : Int) % x0.sz = ((i % z : Nat) : Int) := by rw [hz]; rfl
      unfold Ms.count
      simp only [c1, c2, hov, hov', if_false, u1, u2, k1.sz, k2.sz]
      by_cases hend : (i : Int) % x0.sz + 1 < x0.sz
      · simp only [hend, if_true]; exact e
      · simp only [hend, if_false]
        have hmz := Nat.mod_lt i (show 0 < z by omega)
        have hfull : i % z + 1 = z := by omega
        have hdm := Nat.mod_add_div i z
        have hfrom : i - i % z = i / z * z := by rw [Nat.mul_comm]; omega
        have hto : i + 1 = i / z * z + z := by rw [Nat.mul_comm]; omega
        have hwe : (y'.wr || !l'[i]) = (y.wr || !l[i]) := by
          rw [w1, w2, hm, Int.toNat_natCast, hfrom, ← wrongIn_succ (by omega) hil, ← wrongIn_succ (by omega) hil', hto]
          exact hs _ (by omega)
        rw [hwe, e, k1.lim, k1.up, k1.dn, k2.lim, k2.up, k2.dn]
theorem isFirst_congr {x0 : Ms} {l l' : List Bool} (hl : l'.length = l.length) (he : ∀ i, i ≤ l.length → (x0.run (l'.take i)).lv = (x0.run (l.take i)).lv) {r : Int} (h : IsFirst x0 l' r) : IsFirst x0 l r := by
  have ho : ∀ i, i ≤ l.length → (x0.OverAt l' i ↔ x0.OverAt l i) := fun i hi => by unfold Ms.OverAt; rw [he i hi]
  rcases h with ⟨rfl, h1⟩ | ⟨n, rfl, a1, a2, a3, a4⟩
  · exact .inl ⟨rfl, fun j x y => fun c => h1 j x (by omega) ((ho j y).2 c)⟩
  · exact .inr ⟨n, rfl, a1, by omega, (ho n (by omega)).1 a3, fun j x y => fun c => a4 j x y ((ho j (by omega)).2 c)⟩
/-- the level of a Sum -/
theorem sum_lv {lim : Int} (h0 : 0 ≤ lim) (l : List Bool) : ∀ i, i ≤ l.length → ((⟨1, 0, lim, 1, 1, 1, 0, false⟩ : Ms).run (l.take i)).lv = min (wrongs l i : Int) lim := by
  intro i
  induction i with
  | zero => intro _; simp [Ms.run_nil, wrongs]; omega
  | succ i ih =>
    intro hi
    have hil : i < l.length := by omega
    have e := ih (by omega)
    have k := (⟨1, 0, lim, 1, 1, 1, 0, false⟩ : Ms).run_like (l.take i)
    rw [Ms.run_take hil, wrongs_succ hil]
    generalize (⟨1, 0, lim, 1, 1, 1, 0, false⟩ : Ms).run (l.take i) = y at *
    have hk : y.kind = 1 := k.kind
    have hlim : y.lim = lim := k.lim
    unfold Ms.count
    simp only [hk]
    cases l[i] with
    | true => simp only [if_true]; rw [e]; simp
    | false =>
      simp only [Bool.false_eq_true, if_false]
      rw [e, hlim]
      unfold clampI
      split
      · omega
      · split <;> omega
end Go.Proofs.Ytbkncpmgpogakaa
