/- Monitors as plain data: what counting comes to. -/
import Derived.Test.YtbkncpmgpogakaaMS1
namespace Go.Proofs.Ytbkncpmgpogakaa
open Go AM Go.RowKit
set_option linter.unusedVariables false
set_option linter.unusedSimpArgs false

def Ms.run (x : Ms) (l : List Bool) : Ms := l.foldl Ms.count x
theorem Ms.run_nil (x : Ms) : x.run [] = x := rfl
theorem Ms.run_cons (x : Ms) (b : Bool) (l : List Bool) : x.run (b :: l) = (x.count b).run l := rfl
theorem Ms.run_append (x : Ms) (l m : List Bool) : x.run (l ++ m) = (x.run l).run m := by simp [Ms.run, List.foldl_append]
theorem Ms.run_take {x : Ms} {l : List Bool} {i : Nat} (h : i < l.length) : x.run (l.take (i + 1)) = (x.run (l.take i)).count l[i] := by
  rw [List.take_add_one, Ms.run_append, List.getElem?_eq_getElem h]; rfl
/-- what counting keeps -/
structure Ms.Like (x y : Ms) : Prop where
  kind : y.kind = x.kind
  lim : y.lim = x.lim
  sz : y.sz = x.sz
  up : y.up = x.up
  dn : y.dn = x.dn
theorem Ms.Like.refl (x : Ms) : x.Like x := ⟨rfl, rfl, rfl, rfl, rfl⟩
theorem Ms.Like.trans {x y z : Ms} (h : x.Like y) (h' : y.Like z) : x.Like z := ⟨h'.1.trans h.1, h'.2.trans h.2, h'.3.trans h.3, h'.4.trans h.4, h'.5.trans h.5⟩
theorem Ms.count_like (x : Ms) (b : Bool) : x.Like (x.count b) := by
  unfold Ms.count
  split
  · split
    · exact .refl _
    · dsimp only; split <;> exact ⟨rfl, rfl, rfl, rfl, rfl⟩
  · split <;> exact ⟨rfl, rfl, rfl, rfl, rfl⟩
  · split
    · exact .refl _
    · split <;> exact ⟨rfl, rfl, rfl, rfl, rfl⟩
theorem Ms.run_like (x : Ms) (l : List Bool) : x.Like (x.run l) := by
  induction l generalizing x with
  | nil => exact .refl _
  | cons b l ih => exact (x.count_like b).trans (ih _)
theorem clampI_b (v : Int) {hi : Int} (h : 0 ≤ hi) : 0 ≤ clampI v hi ∧ clampI v hi ≤ hi := by unfold clampI; split <;> (try split) <;> omega
theorem Ms.Ok.count {x : Ms} (h : x.Ok) (b : Bool) : (x.count b).Ok := by
  obtain ⟨hk, h1, h2, h3, h4, h5, h6⟩ := h
  unfold Ms.count
  have c := fun v => clampI_b v (hi := x.lim) (by omega)
  split
  · split
    · exact ⟨hk, h1, h2, h3, h4, h5, h6⟩
    · dsimp only
      split
      · refine ⟨hk, ?_, h2, h3, h4, h5, by dsimp only; omega⟩
        dsimp only
        have := c (x.lv + 1)
        cases b <;> simp only [if_true, Bool.false_eq_true, if_false]
        · split
          · omega
          · exact c _
        · split
          · omega
          · exact c _
      · refine ⟨hk, ?_, h2, h3, h4, h5, by dsimp only; omega⟩
        dsimp only
        split
        · exact h1
        · exact c _
  · split
    · exact ⟨hk, h1, h2, h3, h4, h5, h6⟩
    · exact ⟨hk, c _, h2, h3, h4, h5, h6⟩
  · split
    · exact ⟨hk, h1, h2, h3, h4, h5, h6⟩
    · split
      · exact ⟨hk, h1, h2, h3, h4, h5, by dsimp only; omega⟩
      · refine ⟨hk, ?_, h2, h3, h4, h5, by dsimp only; omega⟩
        dsimp only
        split <;> exact c _
theorem Ms.Ok.run {x : Ms} (h : x.Ok) (l : List Bool) : (x.run l).Ok := by
  induction l generalizing x with
  | nil => exact h
  | cons b l ih => exact ih (h.count b)
theorem Ms.count_over {x : Ms} (h : x.Ok) (ho : x.lv = x.lim) (b : Bool) : x.count b = x := by
  obtain ⟨hk, h1, h2, h3, h4, h5, h6⟩ := h
  obtain ⟨k, lv, lim, sz, up, dn, un, wr⟩ := x
  dsimp only at *
  subst ho
  unfold Ms.count
  dsimp only
  split
  · rw [if_pos rfl]
  · split
    · rfl
    · have : clampI (lv + 1) lv = lv := by unfold clampI; rw [if_pos (by omega)]
      rw [this]
  · rw [if_pos rfl]
theorem Ms.run_over {x : Ms} (h : x.Ok) (ho : x.lv = x.lim) (l : List Bool) : x.run l = x := by
  induction l with
  | nil => rfl
  | cons b l ih => rw [Ms.run_cons, Ms.count_over h ho, ih]

theorem emod_succ {i s : Int} (hs : 1 ≤ s) (hi : 0 ≤ i) : (i + 1) % s = if i % s + 1 = s then 0 else i % s + 1 := by
  have h1 := Int.emod_nonneg i (show s ≠ 0 by omega)
  have h2 := Int.emod_lt_of_pos i (show 0 < s by omega)
  have h3 := Int.emod_add_mul_ediv i s
  have e : i + 1 = (i % s + 1) + s * (i / s) := by omega
  rw [e, Int.add_mul_emod_self_left]
  split
  · rename_i h; rw [h]; exact Int.emod_self
  · exact Int.emod_eq_of_lt (by omega) (by omega)

/-- is there a wrong one among those from a on, before b? -/
def wrongIn (l : List Bool) (a b : Nat) : Bool := ((l.take b).drop a).any (!·)
theorem wrongIn_self (l : List Bool) (a : Nat) : wrongIn l a a = false := by
  unfold wrongIn; rw [List.drop_of_length_le (by simp; omega)]; rfl
theorem wrongIn_succ {l : List Bool} {a b : Nat} (hab : a ≤ b) (hb : b < l.length) : wrongIn l a (b + 1) = (wrongIn l a b || !l[b]) := by
  unfold wrongIn
  rw [List.take_add_one, List.getElem?_eq_getElem hb, List.drop_append_of_le_length (by simp; omega)]
  simp
/-- a counter that has begun anew: its place in the span -/
def Ms.New (x : Ms) : Prop := x.un = 0 ∧ x.wr = false
def Ms.At (x0 : Ms) (l : List Bool) (i : Nat) : Prop := (x0.run (l.take i)).lv < x0.lim → (x0.kind ≠ 1 → (x0.run (l.take i)).un = (i : Int) % x0.sz) ∧ (x0.kind ≠ 0 → x0.kind ≠ 1 → (x0.run (l.take i)).wr = wrongIn l (i - ((i : Int) % x0.sz).toNat) i)
theorem Ms.at_all {x0 : Ms} (h : x0.Ok) (hn : x0.New) (l : List Bool) : ∀ i, i ≤ l.length → x0.At l i := by
  intro i
  induction i with
  | zero =>
    intro _ _
    simp only [List.take_zero, Ms.run_nil, Int.natCast_zero, Int.zero_emod]
    exact ⟨fun _ => hn.1, fun _ _ => by rw [hn.2]; simp [wrongIn_self]⟩
  | succ i ih =>
    intro hi hlv
    have hil : i < l.length := by omega
    rw [Ms.run_take hil] at hlv ⊢
    have hok := h.run (l.take i)
    have hlike := x0.run_like (l.take i)
    have hm := emod_succ (i := (i : Int)) h.sz.1 (by omega)
    have hm0 := Int.emod_nonneg (i : Int) (show x0.sz ≠ 0 by have := h.sz.1; omega)
    have hm1 : (i : Int) % x0.sz ≤ i := by
      have e1 := Int.emod_add_mul_ediv (i : Int) x0.sz
      have e2 : 0 ≤ x0.sz * ((i : Int) / x0.sz) := Int.mul_nonneg (by have := h.sz.1; omega) (Int.ediv_nonneg (by omega) (by have := h.sz.1; omega))
      omega
    generalize hy : x0.run (l.take i) = y at *
    have hcase : y.lv < x0.lim := by
      rcases Int.lt_or_le y.lv x0.lim with h' | h'
      · exact h'
      · have : y.lv = y.lim := by have := hok.lv.2; have := hlike.lim; omega
        rw [Ms.count_over hok this] at hlv; exact hlv
    have hih := ih (by omega)
    unfold Ms.At at hih
    rw [hy] at hih
    obtain ⟨a1, a2⟩ := hih hcase
    have hne : ¬ y.lv = y.lim := by have := hlike.lim; omega
    have hpush : ((i + 1 : Nat) : Int) = (i : Int) + 1 := by omega
    rw [hpush, hm]
    have hk := hlike.kind
    constructor
    · intro hk1
      have hu := a1 hk1
      unfold Ms.count
      split
      · rw [if_neg hne]
        dsimp only
        rw [hlike.sz, hu]
        split <;> rename_i hs <;> simp [hs]
      · omega
      · rw [if_neg hne, hlike.sz, hu]
        have := Int.emod_lt_of_pos (i : Int) (show 0 < x0.sz by have := h.sz.1; omega)
        split
        · rename_i hs; rw [if_neg (by omega)]
        · rename_i hs
          have he : (i : Int) % x0.sz + 1 = x0.sz := by omega
          simp [he]
    · intro hk0 hk1
      have hu := a1 hk1
      have hw := a2 hk0 hk1
      unfold Ms.count
      split
      · omega
      · omega
      · rw [if_neg hne, hlike.sz, hu]
        have := Int.emod_lt_of_pos (i : Int) (show 0 < x0.sz by have := h.sz.1; omega)
        split
        · rename_i hs
          rw [if_neg (by omega)]
          dsimp only
          rw [hw, show i + 1 - ((i : Int) % x0.sz + 1).toNat = i - ((i : Int) % x0.sz).toNat by omega, wrongIn_succ (by omega) hil]
        · rename_i hs
          have he : (i : Int) % x0.sz + 1 = x0.sz := by omega
          simp [he, wrongIn_self]
end Go.Proofs.Ytbkncpmgpogakaa
