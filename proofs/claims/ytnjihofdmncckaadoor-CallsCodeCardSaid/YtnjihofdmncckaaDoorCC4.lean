/- Calls: Encode and Decode are inverse (plain). -/
import Derived.Test.YtnjihofdmncckaaDoorCC3
namespace Go.Proofs.YtnjihofdmncckaaDoor
open Go AM Go.RowKit
set_option linter.unusedVariables false
set_option linter.unusedSimpArgs false

theorem txtF_app (a : List UInt8) (r : List Int) (ha : a.length ≤ 255) : txtF (((a.length : Int) :: i8s a) ++ r) = some (i8s a, r) := by
  simp only [List.cons_append, txtF, List.length_append, i8s_len]
  rw [if_neg (by omega), Int.toNat_natCast]
  congr 1
  rw [List.take_left' (by simp), List.drop_left' (by simp)]
theorem txtF_some {l a r : List Int} (hb : Byt l) (h : txtF l = some (a, r)) : l = ((a.length : Int) :: a) ++ r ∧ Byt a ∧ Byt r := by
  cases l with
  | nil => cases h
  | cons n l =>
    simp only [txtF] at h
    split at h
    · cases h
    · rename_i hge
      simp only [Option.some.injEq, Prod.mk.injEq] at h
      have hn := hb n (by simp)
      obtain ⟨m, rfl⟩ := Int.eq_ofNat_of_zero_le hn.1
      rw [Int.toNat_natCast] at h
      have hl : (l.take m).length = m := by rw [List.length_take]; omega
      obtain ⟨rfl, rfl⟩ := h
      have hb' : Byt l := fun x hx => hb x (List.mem_cons_of_mem _ hx)
      refine ⟨?_, hb'.take m, hb'.drop m⟩
      rw [hl, List.cons_append, List.take_append_drop]
theorem ok_fin {m : Ca} (h : m.ok = true) : m.fin [] = some m := by unfold Ca.fin; rw [if_pos ⟨rfl, h⟩]
theorem fin_ne {m : Ca} {x : Int} {r : List Int} : m.fin (x :: r) = none := by unfold Ca.fin; rw [if_neg (fun e => by cases e.1)]
theorem ok_range {m : Ca} (h : m.ok = true) : (1 ≤ m.k ∧ m.k ≤ 5 ∧ 0 ≤ m.c ∧ m.c ≤ 255) ∧ (if m.k = 1 then num m.a && (num m.b && (m.u == 0)) else decide (m.a = []) && (decide (m.b = []) && (m.k == 4 || m.u == 0))) = true := by
  unfold Ca.ok at h
  simpa only [Bool.and_eq_true, decide_eq_true_eq] using h
theorem num_len {l : List UInt8} (h : num l = true) : 1 ≤ l.length ∧ l.length ≤ 15 := by
  unfold num at h
  simp only [Bool.and_eq_true, decide_eq_true_eq] at h
  exact h.1
theorem de_cons (k c z : Int) (r : List Int) : Ca.de (k :: c :: z :: r) = if k = 1 then (match txtF r with
    | none => none
    | some (a, r) => match txtF r with
      | none => none
      | some (b, r) => Ca.fin ⟨k, c + 256 * z, u8s a, u8s b, 0⟩ r)
    else if k = 4 then (match r with
      | [] => none
      | u :: r => Ca.fin ⟨k, c + 256 * z, [], [], u⟩ r)
    else Ca.fin ⟨k, c + 256 * z, [], [], 0⟩ r := by
  unfold Ca.de
  rw [if_neg (by simp only [List.length_cons]; omega)]
  rfl
/-- the three forms of a valid message -/
theorem ok_forms {m : Ca} (h : m.ok = true) : (m.k = 1 ∧ num m.a = true ∧ num m.b = true ∧ m.u = 0) ∨ (m.k = 4 ∧ m.a = [] ∧ m.b = []) ∨ (m.k ≠ 1 ∧ m.k ≠ 4 ∧ m.a = [] ∧ m.b = [] ∧ m.u = 0) := by
  obtain ⟨_, h⟩ := ok_range h
  by_cases k1 : m.k = 1
  · rw [if_pos k1] at h
    simp only [Bool.and_eq_true, beq_iff_eq] at h
    exact .inl ⟨k1, h⟩
  · rw [if_neg k1] at h
    simp only [Bool.and_eq_true, Bool.or_eq_true, beq_iff_eq, decide_eq_true_eq] at h
    by_cases k4 : m.k = 4
    · exact .inr (.inl ⟨k4, h.1, h.2.1⟩)
    · exact .inr (.inr ⟨k1, k4, h.1, h.2.1, h.2.2.resolve_left k4⟩)
theorem enc_1 {m : Ca} (k1 : m.k = 1) : m.enc = m.k :: m.c :: 0 :: (((m.a.length : Int) :: i8s m.a) ++ ((m.b.length : Int) :: i8s m.b)) := by unfold Ca.enc; rw [if_pos k1]; rfl
theorem enc_4 {m : Ca} (k4 : m.k = 4) : m.enc = [m.k, m.c, 0, m.u] := by unfold Ca.enc; rw [if_neg (by omega), if_pos k4]; rfl
theorem enc_o {m : Ca} (k1 : m.k ≠ 1) (k4 : m.k ≠ 4) : m.enc = [m.k, m.c, 0] := by unfold Ca.enc; rw [if_neg k1, if_neg k4]; rfl
theorem de_enc {m : Ca} (h : m.ok = true) : Ca.de m.enc = some m := by
  rcases ok_forms h with ⟨k1, ha, hb, hu⟩ | ⟨k4, ha, hb⟩ | ⟨k1, k4, ha, hb, hu⟩
  · have la := num_len ha; have lb := num_len hb
    have e2 := txtF_app m.b [] (by omega)
    rw [List.append_nil] at e2
    rw [enc_1 k1, de_cons, if_pos k1, txtF_app _ _ (by omega)]
    simp only
    rw [e2]
    simp only
    rw [u8s_i8s, u8s_i8s, show (⟨m.k, m.c + 256 * 0, m.a, m.b, 0⟩ : Ca) = m by obtain ⟨k, c, a, b, u⟩ := m; simp only at hu; simp [hu], ok_fin h]
  · rw [enc_4 k4, de_cons, if_neg (by omega), if_pos k4]
    simp only
    rw [show (⟨m.k, m.c + 256 * 0, [], [], m.u⟩ : Ca) = m by obtain ⟨k, c, a, b, u⟩ := m; simp only at ha hb; simp [ha, hb], ok_fin h]
  · rw [enc_o k1 k4, de_cons, if_neg k1, if_neg k4]
    rw [show (⟨m.k, m.c + 256 * 0, [], [], 0⟩ : Ca) = m by obtain ⟨k, c, a, b, u⟩ := m; simp only at ha hb hu; simp [ha, hb, hu], ok_fin h]
theorem de_more {m : Ca} (h : m.ok = true) (x : Int) : Ca.de (m.enc ++ [x]) = none := by
  rcases ok_forms h with ⟨k1, ha, hb, hu⟩ | ⟨k4, ha, hb⟩ | ⟨k1, k4, ha, hb, hu⟩
  · have la := num_len ha; have lb := num_len hb
    rw [enc_1 k1, List.cons_append, List.cons_append, List.cons_append, List.append_assoc, de_cons, if_pos k1, txtF_app _ _ (by omega)]
    simp only
    rw [txtF_app _ _ (by omega)]
    simp only
    rw [fin_ne]
  · rw [enc_4 k4]
    show Ca.de (m.k :: m.c :: 0 :: [m.u, x]) = none
    rw [de_cons, if_neg (by omega), if_pos k4]
    exact fin_ne
  · rw [enc_o k1 k4]
    show Ca.de (m.k :: m.c :: 0 :: [x]) = none
    rw [de_cons, if_neg k1, if_neg k4]
    exact fin_ne
theorem enc_len {m : Ca} (h : m.ok = true) : 3 ≤ m.enc.length ∧ m.enc.length ≤ 100 := by
  rcases ok_forms h with ⟨k1, ha, hb, hu⟩ | ⟨k4, ha, hb⟩ | ⟨k1, k4, ha, hb, hu⟩
  · have la := num_len ha; have lb := num_len hb
    rw [enc_1 k1]; simp; omega
  · rw [enc_4 k4]; simp
  · rw [enc_o k1 k4]; simp
theorem de_less {m : Ca} (h : m.ok = true) : Ca.de (m.enc.take (m.enc.length - 1)) = none := by
  rw [← List.dropLast_eq_take]
  rcases ok_forms h with ⟨k1, ha, hb, hu⟩ | ⟨k4, ha, hb⟩ | ⟨k1, k4, ha, hb, hu⟩
  · have la := num_len ha; have lb := num_len hb
    obtain ⟨b', y, hby⟩ : ∃ b' y, i8s m.b = b' ++ [y] := ⟨(i8s m.b).dropLast, (i8s m.b).getLast (by intro e; have := congrArg List.length e; simp at this; rw [this] at lb; simp at lb), (List.dropLast_concat_getLast _).symm⟩
    have hbl : m.b.length = b'.length + 1 := by rw [← i8s_len m.b, hby]; simp
    have : m.enc = (m.k :: m.c :: 0 :: (((m.a.length : Int) :: i8s m.a) ++ ((m.b.length : Int) :: b'))) ++ [y] := by
      rw [enc_1 k1, hby]; simp
    rw [this, List.dropLast_concat, de_cons, if_pos k1, txtF_app _ _ (by omega)]
    simp only [txtF]
    rw [if_pos (by omega)]
  · rw [enc_4 k4]
    show Ca.de (m.k :: m.c :: 0 :: []) = none
    rw [de_cons, if_neg (by omega), if_pos k4]
  · rw [enc_o k1 k4]; rfl
theorem fin_some {m m' : Ca} {r : List Int} (h : m.fin r = some m') : m' = m ∧ r = [] ∧ m.ok = true := by
  unfold Ca.fin at h
  split at h
  · rename_i hh; simp only [Option.some.injEq] at h; exact ⟨h.symm, hh⟩
  · cases h
theorem de_some {l : List Int} {m : Ca} (hb : Byt l) (h : Ca.de l = some m) : m.ok = true ∧ m.enc = l ∧ m.Ok := by
  match l, hb, h with
  | [], _, h => cases h
  | [_], _, h => cases h
  | [_, _], _, h => cases h
  | k :: c :: z :: r, hb, h =>
    have bk := hb k (by simp); have bc := hb c (by simp); have bz := hb z (by simp)
    have br : Byt r := fun x hx => hb x (by simp [hx])
    rw [de_cons] at h
    by_cases k1 : k = 1
    · rw [if_pos k1] at h
      cases h1 : txtF r with
      | none => rw [h1] at h; cases h
      | some p =>
        obtain ⟨a, r1⟩ := p
        rw [h1] at h; simp only at h
        obtain ⟨er, ba, br1⟩ := txtF_some br h1
        cases h2 : txtF r1 with
        | none => rw [h2] at h; cases h
        | some p2 =>
          obtain ⟨b, r2⟩ := p2
          rw [h2] at h; simp only at h
          obtain ⟨er1, bb, br2⟩ := txtF_some br1 h2
          obtain ⟨rfl, rfl, ok⟩ := fin_some h
          have rg := (ok_range ok).1
          simp only at rg
          have z0 : z = 0 := by omega
          subst z0
          refine ⟨ok, ?_, bk, by simp only; omega⟩
          rw [enc_1 (m := ⟨k, c + 256 * 0, u8s a, u8s b, 0⟩) k1]
          simp only
          have la : (u8s a).length = a.length := by simp [u8s]
          have lb : (u8s b).length = b.length := by simp [u8s]
          rw [la, lb, i8s_u8s ba, i8s_u8s bb, er, er1, List.append_nil, show c + 256 * 0 = c by omega]
    rw [if_neg k1] at h
    by_cases k4 : k = 4
    · rw [if_pos k4] at h
      match r, br, h with
      | [], _, h => cases h
      | u :: r, br, h =>
        simp only at h
        obtain ⟨rfl, rfl, ok⟩ := fin_some h
        have rg := (ok_range ok).1
        simp only at rg
        have z0 : z = 0 := by omega
        subst z0
        refine ⟨ok, ?_, bk, br u (by simp)⟩
        rw [enc_4 (m := ⟨k, c + 256 * 0, [], [], u⟩) k4]
        simp only
        rw [show c + 256 * 0 = c by omega]
    · rw [if_neg k4] at h
      obtain ⟨rfl, rfl, ok⟩ := fin_some h
      have rg := (ok_range ok).1
      simp only at rg
      have z0 : z = 0 := by omega
      subst z0
      refine ⟨ok, ?_, bk, by simp only; omega⟩
      rw [enc_o (m := ⟨k, c + 256 * 0, [], [], 0⟩) k1 k4]
      simp only
      rw [show c + 256 * 0 = c by omega]
theorem enc_byt {m : Ca} (hm : m.Ok) (h : m.ok = true) : Byt m.enc := by
  obtain ⟨rg, _⟩ := ok_range h
  have hk := hm.k; have hu := hm.u
  intro n hn
  rcases ok_forms h with ⟨k1, ha, hb, hu'⟩ | ⟨k4, ha, hb⟩ | ⟨k1, k4, ha, hb, hu'⟩
  · have la := num_len ha; have lb := num_len hb
    rw [enc_1 k1] at hn
    simp only [List.mem_cons, List.mem_append] at hn
    rcases hn with rfl | rfl | rfl | (rfl | hn) | rfl | hn
    · omega
    · omega
    · omega
    · omega
    · exact i8s_byt _ n hn
    · omega
    · exact i8s_byt _ n hn
  · rw [enc_4 k4] at hn
    simp only [List.mem_cons, List.not_mem_nil, or_false] at hn
    rcases hn with rfl | rfl | rfl | rfl <;> omega
  · rw [enc_o k1 k4] at hn
    simp only [List.mem_cons, List.not_mem_nil, or_false] at hn
    rcases hn with rfl | rfl | rfl <;> omega
end Go.Proofs.YtnjihofdmncckaaDoor

