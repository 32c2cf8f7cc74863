/- Labels: pieces between dashes, numbers, texts of points. -/
import Derived.Test.YtgdkkpjmjnknoaaDoorLB10
namespace Go.Proofs.YtgdkkpjmjnknoaaDoor
open Go AM Go.RowKit
set_option linter.unusedVariables false
set_option linter.unusedSimpArgs false

/-! pieces -/
def spl1 (c : UInt8) : List UInt8 → List (List UInt8)
  | [] => [[]]
  | b :: l => if b = c then [] :: spl1 c l else match spl1 c l with
    | [] => [[b]]
    | x :: xs => (b :: x) :: xs
theorem spl1_ne (c : UInt8) : ∀ l, spl1 c l ≠ [] := by
  intro l
  cases l with
  | nil => simp [spl1]
  | cons b l =>
    unfold spl1
    split
    · simp
    · split <;> simp
theorem spl_eq (c : UInt8) : ∀ l : List UInt8, Lib.split l [c] = spl1 c l ∧ Lib.count l [c] + 1 = (spl1 c l).length := by
  intro l
  induction l with
  | nil => exact ⟨rfl, rfl⟩
  | cons b l ih =>
    obtain ⟨h1, h2⟩ := ih
    have hne : [c] ≠ [] := by simp
    have hidx : Lib.index (b :: l) [c] = if [c].isPrefixOf (b :: l) then 0 else if Lib.index l [c] == -1 then -1 else Lib.index l [c] + 1 := rfl
    by_cases hb : b = c
    · subst hb
      have hi : Lib.index (b :: l) [b] = ((0 : Nat) : Int) := by rw [hidx]; simp [List.isPrefixOf]
      have hc := Lib.count_hit hne hi
      simp only [List.length_cons, List.length_nil, Nat.zero_add, List.drop_succ_cons, List.drop_zero] at hc
      unfold Lib.split at h1 ⊢
      rw [hc, Nat.add_comm 1]
      unfold Lib.splitK spl1
      rw [hi, if_pos rfl]
      simp only [List.length_cons, List.length_nil, Nat.zero_add, List.drop_succ_cons, List.drop_zero, List.length_cons]
      rw [show ((((0 : Nat) : Int) == -1)) = false from rfl]
      simp only [Bool.false_eq_true, if_false, Int.toNat_natCast, Nat.add_zero, List.take_zero, Nat.zero_add, List.drop_succ_cons, List.drop_zero]
      exact ⟨by rw [h1], by omega⟩
    · have hp : [c].isPrefixOf (b :: l) = false := by simp [List.isPrefixOf]; exact fun e => hb e.symm
      rw [hp] at hidx
      simp only [Bool.false_eq_true, if_false] at hidx
      have hs : spl1 c (b :: l) = match spl1 c l with
        | [] => [[b]]
        | x :: xs => (b :: x) :: xs := by rw [spl1, if_neg hb]
      rcases Lib.index_spec l [c] with ⟨hm, _⟩ | ⟨i, hm, _⟩
      · have hi : Lib.index (b :: l) [c] = -1 := by rw [hidx, hm]; rfl
        have c1 := Lib.count_miss hi
        have c2 := Lib.count_miss hm
        have e1 : Lib.split l [c] = [l] := by unfold Lib.split; rw [c2]; rfl
        have e2 : Lib.split (b :: l) [c] = [b :: l] := by unfold Lib.split; rw [c1]; rfl
        rw [e1] at h1
        rw [hs, ← h1, e2, c1]
        exact ⟨rfl, rfl⟩
      · have hi : Lib.index (b :: l) [c] = ((i + 1 : Nat) : Int) := by
          rw [hidx, hm, show (((i : Nat) : Int) == -1) = false by rw [beq_eq_false_iff_ne]; omega]
          simp
        have c1 := Lib.count_hit hne hi
        have c2 := Lib.count_hit hne hm
        simp only [List.length_cons, List.length_nil, Nat.zero_add, List.drop_succ_cons] at c1 c2
        have e1 : Lib.split l [c] = l.take i :: Lib.splitK [c] 0 (Lib.count (l.drop (i + 1)) [c]) (l.drop (i + 1)) := by
          unfold Lib.split
          rw [c2, Nat.add_comm 1]
          rw [Lib.splitK, hm, show (((i : Nat) : Int) == -1) = false by rw [beq_eq_false_iff_ne]; omega]
          simp
        have e2 : Lib.split (b :: l) [c] = (b :: l.take i) :: Lib.splitK [c] 0 (Lib.count (l.drop (i + 1)) [c]) (l.drop (i + 1)) := by
          unfold Lib.split
          rw [c1, Nat.add_comm 1]
          rw [Lib.splitK, hi, show (((i + 1 : Nat) : Int) == -1) = false by rw [beq_eq_false_iff_ne]; omega]
          simp
        rw [e1] at h1
        rw [hs, ← h1, e2]
        refine ⟨rfl, ?_⟩
        rw [← h1] at h2
        simp only [List.length_cons] at h2 ⊢
        omega
theorem spl1_none {c : UInt8} : ∀ {x : List UInt8}, c ∉ x → spl1 c x = [x] := by
  intro x
  induction x with
  | nil => intro _; rfl
  | cons b x ih =>
    intro h
    simp only [List.mem_cons, not_or] at h
    rw [spl1, if_neg (fun e => h.1 e.symm), ih h.2]
theorem spl1_app {c : UInt8} {r : List UInt8} : ∀ {x : List UInt8}, c ∉ x → spl1 c (x ++ c :: r) = x :: spl1 c r := by
  intro x
  induction x with
  | nil => intro _; simp [spl1]
  | cons b x ih =>
    intro h
    simp only [List.mem_cons, not_or] at h
    rw [List.cons_append, spl1, if_neg (fun e => h.1 e.symm), ih h.2]
theorem spl1_one {c : UInt8} : ∀ {l x : List UInt8}, spl1 c l = [x] → l = x := by
  intro l
  induction l with
  | nil => intro x h; simpa [spl1] using h
  | cons b l ih =>
    intro x h
    rw [spl1] at h
    split at h
    · have := spl1_ne c l
      simp only [List.cons.injEq] at h
      exact absurd h.2 this
    · cases hs : spl1 c l with
      | nil => exact absurd hs (spl1_ne c l)
      | cons y ys =>
        rw [hs] at h
        simp only [List.cons.injEq] at h
        obtain ⟨h1, h2⟩ := h
        subst h2
        rw [ih hs, h1]
theorem spl1_cons {c : UInt8} : ∀ {l x : List UInt8} {xs : List (List UInt8)}, xs ≠ [] → spl1 c l = x :: xs → ∃ r, l = x ++ c :: r ∧ spl1 c r = xs := by
  intro l
  induction l with
  | nil => intro x xs hne h; simp [spl1] at h; exact absurd h.2 hne
  | cons b l ih =>
    intro x xs hne h
    rw [spl1] at h
    split at h
    · rename_i hb
      simp only [List.cons.injEq] at h
      exact ⟨l, by rw [← h.1, hb]; rfl, h.2⟩
    · cases hs : spl1 c l with
      | nil => exact absurd hs (spl1_ne c l)
      | cons y ys =>
        rw [hs] at h
        simp only [List.cons.injEq] at h
        obtain ⟨h1, h2⟩ := h
        subst h2
        obtain ⟨r, e1, e2⟩ := ih hne hs
        exact ⟨r, by rw [e1, ← h1]; rfl, e2⟩
theorem spl1_three {l x y z : List UInt8} (h : spl1 45 l = [x, y, z]) : l = x ++ [45] ++ y ++ [45] ++ z := by
  obtain ⟨r, e1, e2⟩ := spl1_cons (by simp) h
  obtain ⟨r2, e3, e4⟩ := spl1_cons (by simp) e2
  have := spl1_one e4
  subst this; subst e3; subst e1
  simp

/-! numbers -/
def goN : Int → List UInt8 → Option Int
  | n, [] => some n
  | n, b :: r => if 48 ≤ b.toNat ∧ b.toNat ≤ 57 then goN (10 * n + ((b.toNat : Int) - 48)) r else none
def badN (l : List UInt8) : Bool := decide (l.length = 0 ∨ l.length > 3 ∨ (l.length > 1 ∧ (l.getD 0 0).toNat = 48))
def numF (l : List UInt8) : Option Int := if badN l = true then none else goN 0 l
theorem btAt_bs (l : List UInt8) (k : Nat) : btAt (bsU l) (k : Int) = ((l.getD k 0).toNat : Int) := by simp [btAt, bsU]
theorem drop_k {l : List UInt8} {k : Nat} (h : k < l.length) : l.drop k = l.getD k 0 :: l.drop (k + 1) := by
  rw [List.drop_eq_getElem_cons h]
  congr 1
  simp [List.getD_eq_getElem?_getD, List.getElem?_eq_getElem h]
theorem u8lt (b : UInt8) : b.toNat < 256 := b.toNat_lt
theorem num_loop {l : List UInt8} (hl : l.length ≤ 3) (H : Heap) : ∀ (m k : Nat) (n : Int), k + m = l.length → 0 ≤ n → n < 10 ^ k → tlim g31_p3_b (bsU l, n, (l.length : Int), (k : Int)) H = some ((match goN n (l.drop k) with
      | some v => .inl v
      | none => .inr (0, false)), H) := by
  intro m
  induction m with
  | zero =>
    intro k n hk h0 h1
    rw [List.drop_of_length_le (by omega)]
    refine tlim_up ?_
    simp only [g31_p3_b, g31_p2]
    rw [decide_eq_false (show ¬ (k : Int) < (l.length : Int) by omega), sel_false]
    rfl
  | succ m ih =>
    intro k n hk h0 h1
    have hkl : k < l.length := by omega
    have hb := u8lt (l.getD k 0)
    have hsz : (bsU l).size = l.length := bsU_size l
    have hn10 : n < 1000 := by
      have : (10 : Int) ^ k ≤ 1000 := by
        have : k = 0 ∨ k = 1 ∨ k = 2 := by omega
        rcases this with rfl | rfl | rfl <;> decide
      omega
    rw [drop_k hkl, goN]
    by_cases hd : 48 ≤ (l.getD k 0).toNat ∧ (l.getD k 0).toNat ≤ 57
    · rw [if_pos hd]
      have e1 : IntKind.wrap .u8 (((l.getD k 0).toNat : Int) - 48) = ((l.getD k 0).toNat : Int) - 48 := w8u (by omega)
      have e2 : IntKind.wrap .i64 (((l.getD k 0).toNat : Int) - 48) = ((l.getD k 0).toNat : Int) - 48 := w64 (by omega)
      have e3 : IntKind.wrap .i64 (10 * n) = 10 * n := w64 (by omega)
      have e4 : IntKind.wrap .i64 (10 * n + (((l.getD k 0).toNat : Int) - 48)) = 10 * n + (((l.getD k 0).toNat : Int) - 48) := w64 (by omega)
      have e5 : IntKind.wrap .i64 ((k : Int) + 1) = ((k + 1 : Nat) : Int) := by rw [w64 (by omega)]; rfl
      refine (tlim_go (s' := (bsU l, 10 * n + (((l.getD k 0).toNat : Int) - 48), (l.length : Int), ((k + 1 : Nat) : Int))) (H' := H) ?_).trans (ih (k + 1) _ (by omega) (by omega) (by rw [Int.pow_succ]; omega))
      simp only [g31_p3_b, g31_p2, btAt_bs, hsz]
      rw [decide_eq_true (show (k : Int) < (l.length : Int) by omega), sel_true, if_pos (by omega), decide_eq_false (by omega), sel_false, if_pos (by omega), decide_eq_false (by omega), sel_false, if_pos (by omega), e1, e2, e3, e4, e5]
    · rw [if_neg hd]
      refine tlim_up ?_
      simp only [g31_p3_b, g31_p2, btAt_bs, hsz]
      rw [decide_eq_true (show (k : Int) < (l.length : Int) by omega), sel_true, if_pos (by omega)]
      by_cases h48 : (l.getD k 0).toNat < 48
      · rw [decide_eq_true (by omega), sel_true]
      · rw [decide_eq_false (by omega), sel_false, if_pos (by omega), decide_eq_true (by omega), sel_true]
theorem part_loop {l : List UInt8} (hl : l.length ≤ 3) (H : Heap) : ∀ (m k : Nat) (n : Int), k + m = l.length → 0 ≤ n → n < 10 ^ k → tlim g16_p3_b (bsU l, n, (k : Int)) H = some ((match goN n (l.drop k) with
      | some v => .inl v
      | none => .inr (-1)), H) := by
  intro m
  induction m with
  | zero =>
    intro k n hk h0 h1
    rw [List.drop_of_length_le (by omega)]
    refine tlim_up ?_
    simp only [g16_p3_b, g16_p2, bsU_size]
    rw [decide_eq_false (show ¬ (k : Int) < ((l.length : Nat) : Int) by omega), sel_false]
    rfl
  | succ m ih =>
    intro k n hk h0 h1
    have hkl : k < l.length := by omega
    have hb := u8lt (l.getD k 0)
    have hn10 : n < 1000 := by
      have : (10 : Int) ^ k ≤ 1000 := by
        have : k = 0 ∨ k = 1 ∨ k = 2 := by omega
        rcases this with rfl | rfl | rfl <;> decide
      omega
    rw [drop_k hkl, goN]
    by_cases hd : 48 ≤ (l.getD k 0).toNat ∧ (l.getD k 0).toNat ≤ 57
    · rw [if_pos hd]
      have e2 : IntKind.wrap .i64 ((l.getD k 0).toNat : Int) = ((l.getD k 0).toNat : Int) := w64 (by omega)
      have e3 : IntKind.wrap .i64 (10 * n) = 10 * n := w64 (by omega)
      have e4 : IntKind.wrap .i64 (10 * n + ((l.getD k 0).toNat : Int)) = 10 * n + ((l.getD k 0).toNat : Int) := w64 (by omega)
      have e6 : IntKind.wrap .i64 (10 * n + ((l.getD k 0).toNat : Int) - 48) = 10 * n + (((l.getD k 0).toNat : Int) - 48) := by rw [w64 (by omega)]; omega
      have e5 : IntKind.wrap .i64 ((k : Int) + 1) = ((k + 1 : Nat) : Int) := by rw [w64 (by omega)]; rfl
      refine (tlim_go (s' := (bsU l, 10 * n + (((l.getD k 0).toNat : Int) - 48), ((k + 1 : Nat) : Int))) (H' := H) ?_).trans (ih (k + 1) _ (by omega) (by omega) (by rw [Int.pow_succ]; omega))
      simp only [g16_p3_b, g16_p2, btAt_bs, bsU_size]
      rw [decide_eq_true (show (k : Int) < ((l.length : Nat) : Int) by omega), sel_true, if_pos (by omega), decide_eq_false (by omega), sel_false, if_pos (by omega), decide_eq_false (by omega), sel_false, if_pos (by omega), e2, e3, e4, e6, e5]
    · rw [if_neg hd]
      refine tlim_up ?_
      simp only [g16_p3_b, g16_p2, btAt_bs, bsU_size]
      rw [decide_eq_true (show (k : Int) < ((l.length : Nat) : Int) by omega), sel_true, if_pos (by omega)]
      by_cases h48 : (l.getD k 0).toNat < 48
      · rw [decide_eq_true (by omega), sel_true]
      · rw [decide_eq_false (by omega), sel_false, if_pos (by omega), decide_eq_true (by omega), sel_true]
theorem str0_eq : str0 = bsU [] := rfl
theorem s31 {R : Type} {l : List UInt8} (H : Heap) (K : Int → Bool → Heap → Option R) : g31 R (bsU l) H K = K ((numF l).getD 0) (numF l).isSome H := by
  have dd : g31 R (bsU l) H K = g31_p0 R (bsU l) H fun t0 t22 H => g31_p7 R t0 t22 H K := rfl
  have key : ∀ t : Bool, t = badN l → g31_p7 R (bsU l) t H K = K ((numF l).getD 0) (numF l).isSome H := by
    intro t ht
    subst ht
    unfold numF
    cases hb : badN l with
    | true => simp only [g31_p7, g31_p1, sel_true, if_true, Option.getD_none, Option.isSome_none]
    | false =>
      have hl : l.length ≤ 3 := by unfold badN at hb; simp only [decide_eq_false_iff_not] at hb; omega
      have tl := num_loop hl H l.length 0 0 (by omega) (by omega) (by decide)
      rw [List.drop_zero] at tl
      simp only [Bool.false_eq_true, if_false]
      simp only [g31_p7, g31_p1, sel_false, g31_p6, g31_p4, g31_p3, bsU_size]
      rw [show ((0 : Nat) : Int) = 0 from rfl] at tl
      rw [tl, Option.bind_some]
      cases goN 0 l with
      | some v => rfl
      | none => rfl
  rw [dd]
  simp only [g31_p0, bsU_size, str0_eq, strEqU]
  by_cases h0 : l = []
  · rw [decide_eq_true h0, sel_true]; exact key true (by simp [badN, h0])
  rw [decide_eq_false h0, sel_false]
  have hpos : 0 < l.length := List.length_pos_iff.2 h0
  by_cases h3 : l.length > 3
  · rw [decide_eq_true (by omega), sel_true]; exact key true (by unfold badN; exact (decide_eq_true (by omega)).symm)
  rw [decide_eq_false (by omega), sel_false]
  by_cases h1 : l.length > 1
  · rw [decide_eq_true (by omega), sel_true, if_pos (by omega)]
    have := btAt_bs l 0
    simp only [Int.natCast_zero] at this
    rw [show (0 : Int) = ((0 : Nat) : Int) from rfl, btAt_bs]
    refine key _ ?_
    unfold badN
    by_cases h48 : (l.getD 0 0).toNat = 48
    · rw [h48]; simp [h1]
    · rw [decide_eq_false (by omega)]
      rw [beq_eq_false_iff_ne]; omega
  · rw [decide_eq_false (by omega), sel_false]
    exact key false (by unfold badN; rw [decide_eq_false (by omega)])
theorem s16 {R : Type} {l : List UInt8} (H : Heap) (K : Int → Heap → Option R) : g16 R (bsU l) H K = K ((numF l).getD (-1)) H := by
  have dd : g16 R (bsU l) H K = g16_p0 R (bsU l) H fun t0 t22 H => g16_p7 R t0 t22 H K := rfl
  have key : ∀ t : Bool, t = badN l → g16_p7 R (bsU l) t H K = K ((numF l).getD (-1)) H := by
    intro t ht
    subst ht
    unfold numF
    cases hb : badN l with
    | true => simp only [g16_p7, g16_p1, sel_true, if_true, Option.getD_none]
    | false =>
      have hl : l.length ≤ 3 := by unfold badN at hb; simp only [decide_eq_false_iff_not] at hb; omega
      have tl := part_loop hl H l.length 0 0 (by omega) (by omega) (by decide)
      rw [List.drop_zero] at tl
      simp only [Bool.false_eq_true, if_false]
      simp only [g16_p7, g16_p1, sel_false, g16_p6, g16_p4, g16_p3]
      rw [show ((0 : Nat) : Int) = 0 from rfl] at tl
      rw [tl, Option.bind_some]
      cases goN 0 l with
      | some v => rfl
      | none => rfl
  rw [dd]
  simp only [g16_p0, bsU_size]
  by_cases h0 : l.length < 1
  · rw [decide_eq_true (by omega), sel_true]; exact key true (by unfold badN; exact (decide_eq_true (by omega)).symm)
  rw [decide_eq_false (by omega), sel_false]
  by_cases h3 : l.length > 3
  · rw [decide_eq_true (by omega), sel_true]; exact key true (by unfold badN; exact (decide_eq_true (by omega)).symm)
  rw [decide_eq_false (by omega), sel_false]
  by_cases h1 : l.length > 1
  · rw [decide_eq_true (by omega), sel_true, if_pos (by omega)]
    rw [show (0 : Int) = ((0 : Nat) : Int) from rfl, btAt_bs]
    refine key _ ?_
    unfold badN
    by_cases h48 : (l.getD 0 0).toNat = 48
    · rw [h48]; simp [h1]
    · rw [decide_eq_false (by omega)]
      rw [beq_eq_false_iff_ne]; omega
  · rw [decide_eq_false (by omega), sel_false]
    exact key false (by unfold badN; rw [decide_eq_false (by omega)])

/-! numerals -/
theorem dec_all : ∀ n : Fin 256, numF (decI (n.val : Nat)) = some ((n.val : Nat) : Int) ∧ (45 : UInt8) ∉ decI (n.val : Nat) ∧ (decI (n.val : Nat)).length ≤ 3 := by decide +kernel
theorem dec_num {n : Int} (h : 0 ≤ n ∧ n ≤ 255) : numF (decI n) = some n ∧ (45 : UInt8) ∉ decI n ∧ (decI n).length ≤ 3 := by
  have := dec_all ⟨n.toNat, by omega⟩
  simp only at this
  rwa [show ((n.toNat : Nat) : Int) = n by omega] at this
theorem dec1 : ∀ a : Fin 10, decI (a.val : Nat) = [UInt8.ofNat (48 + a.val)] := by decide +kernel
theorem dec2 : ∀ a b : Fin 10, a.val ≠ 0 → decI ((10 * a.val + b.val : Nat) : Int) = [UInt8.ofNat (48 + a.val), UInt8.ofNat (48 + b.val)] := by decide +kernel
theorem dec3 : ∀ a b c : Fin 10, a.val ≠ 0 → decI ((100 * a.val + 10 * b.val + c.val : Nat) : Int) = [UInt8.ofNat (48 + a.val), UInt8.ofNat (48 + b.val), UInt8.ofNat (48 + c.val)] := by decide +kernel
theorem u8_of (b : UInt8) (d : Nat) (h : b.toNat = 48 + d) : b = UInt8.ofNat (48 + d) := by
  apply UInt8.toNat_inj.1
  rw [UInt8.toNat_ofNat', h]
  have := u8lt b; omega
theorem num_dec {l : List UInt8} {n : Int} (h : numF l = some n) : decI n = l ∧ 0 ≤ n ∧ n ≤ 999 := by
  unfold numF at h
  split at h
  · cases h
  · rename_i hb
    have hb' : ¬ (l.length = 0 ∨ l.length > 3 ∨ (l.length > 1 ∧ (l.getD 0 0).toNat = 48)) := by simpa [badN] using hb
    match l, hb', h with
    | [x], hb', h =>
      simp only [goN] at h
      split at h
      · rename_i hx
        simp only [Option.some.injEq] at h
        obtain ⟨d, hd⟩ : ∃ d, x.toNat = 48 + d := ⟨x.toNat - 48, by omega⟩
        have := dec1 ⟨d, by omega⟩
        simp only at this
        rw [← h, show (10 : Int) * 0 + ((x.toNat : Int) - 48) = ((d : Nat) : Int) by omega, this, ← u8_of x d hd]
        exact ⟨rfl, by omega, by omega⟩
      · cases h
    | [x, y], hb', h =>
      simp only [goN] at h
      split at h
      · rename_i hx
        split at h
        · rename_i hy
          simp only [Option.some.injEq] at h
          simp only [List.length_cons, List.length_nil, List.getD_cons_zero] at hb'
          obtain ⟨d, hd⟩ : ∃ d, x.toNat = 48 + d := ⟨x.toNat - 48, by omega⟩
          obtain ⟨e, he⟩ : ∃ e, y.toNat = 48 + e := ⟨y.toNat - 48, by omega⟩
          have := dec2 ⟨d, by omega⟩ ⟨e, by omega⟩ (by simp only; omega)
          simp only at this
          rw [← h, show (10 : Int) * (10 * 0 + ((x.toNat : Int) - 48)) + ((y.toNat : Int) - 48) = ((10 * d + e : Nat) : Int) by omega, this, ← u8_of x d hd, ← u8_of y e he]
          exact ⟨rfl, by omega, by omega⟩
        · cases h
      · cases h
    | [x, y, z], hb', h =>
      simp only [goN] at h
      split at h
      · rename_i hx
        split at h
        · rename_i hy
          split at h
          · rename_i hz
            simp only [Option.some.injEq] at h
            simp only [List.length_cons, List.length_nil, List.getD_cons_zero] at hb'
            obtain ⟨d, hd⟩ : ∃ d, x.toNat = 48 + d := ⟨x.toNat - 48, by omega⟩
            obtain ⟨e, he⟩ : ∃ e, y.toNat = 48 + e := ⟨y.toNat - 48, by omega⟩
            obtain ⟨f, hf⟩ : ∃ f, z.toNat = 48 + f := ⟨z.toNat - 48, by omega⟩
            have := dec3 ⟨d, by omega⟩ ⟨e, by omega⟩ ⟨f, by omega⟩ (by simp only; omega)
            simp only at this
            rw [← h, show (10 : Int) * (10 * (10 * 0 + ((x.toNat : Int) - 48)) + ((y.toNat : Int) - 48)) + ((z.toNat : Int) - 48) = ((100 * d + 10 * e + f : Nat) : Int) by omega, this, ← u8_of x d hd, ← u8_of y e he, ← u8_of z f hf]
            exact ⟨rfl, by omega, by omega⟩
          · cases h
        · cases h
      · cases h
    | [], hb', h => exact absurd (.inl rfl) hb'
    | x :: y :: z :: w :: r, hb', h => exact absurd (.inr (.inl (by simp))) hb'
end Go.Proofs.YtgdkkpjmjnknoaaDoor

