/- Loops over typed states; small words for printed functions. -/
import Derived.Test.YteipplgcdbaokaaDoorAm26
namespace Go.Proofs.YteipplgcdbaokaaDoor.AM
open Go Go.RowKit

/-- a round goes on, or the loop is left -/
inductive Rd (σ ρ : Type) where
  | go (s : σ)
  | up (r : ρ)
section
variable {σ ρ : Type}
def titer (b : σ → Heap → Option (Rd σ ρ × Heap)) : Nat → σ → Heap → Option (ρ × Heap)
  | 0, _, _ => none
  | n + 1, s, H => (b s H).bind fun p => match p.1 with
    | .go s' => titer b n s' p.2
    | .up r => some (r, p.2)
open Classical in
noncomputable def tlim (b : σ → Heap → Option (Rd σ ρ × Heap)) (s : σ) (H : Heap) : Option (ρ × Heap) := if h : ∃ r n, titer b n s H = some r then some h.choose else none
theorem titer_mono {b : σ → Heap → Option (Rd σ ρ × Heap)} {r : ρ × Heap} : ∀ (n m : Nat) (s : σ) (H : Heap), n ≤ m → titer b n s H = some r → titer b m s H = some r := by
  intro n
  induction n with
  | zero => intro m s H _ h; simp [titer] at h
  | succ n ih =>
    intro m s H hm h
    obtain ⟨m, rfl⟩ : ∃ k, m = k + 1 := ⟨m - 1, by omega⟩
    simp only [titer] at h ⊢
    cases hg : b s H with
    | none => rw [hg] at h; simp at h
    | some q =>
      rw [hg] at h
      simp only [Option.bind_some] at h ⊢
      cases hq : q.1 with
      | go s' => rw [hq] at h; exact ih m _ _ (by omega) h
      | up r' => rw [hq] at h; exact h
theorem tlim_of_iter {b : σ → Heap → Option (Rd σ ρ × Heap)} {s : σ} {H : Heap} {r : ρ × Heap} {n : Nat} (h : titer b n s H = some r) : tlim b s H = some r := by
  have hx : ∃ r n, titer b n s H = some r := ⟨r, n, h⟩
  unfold tlim
  rw [dif_pos hx]
  obtain ⟨m, hm⟩ := hx.choose_spec
  have a := titer_mono n (max n m) s H (by omega) h
  have b := titer_mono m (max n m) s H (by omega) hm
  rw [a] at b
  exact b.symm
theorem iter_of_tlim {b : σ → Heap → Option (Rd σ ρ × Heap)} {s : σ} {H : Heap} {r : ρ × Heap} (h : tlim b s H = some r) : ∃ n, titer b n s H = some r := by
  unfold tlim at h
  split at h
  · rename_i hx
    obtain ⟨m, hm⟩ := hx.choose_spec
    obtain rfl : hx.choose = r := by simpa using h
    exact ⟨m, hm⟩
  · cases h
theorem tlim_eq (b : σ → Heap → Option (Rd σ ρ × Heap)) (s : σ) (H : Heap) : tlim b s H = (b s H).bind fun p => match p.1 with
    | .go s' => tlim b s' p.2
    | .up r => some (r, p.2) := by
  cases hg : b s H with
  | none =>
    simp only [Option.bind_none]
    cases hl : tlim b s H with
    | none => rfl
    | some r =>
      obtain ⟨n, hn⟩ := iter_of_tlim hl
      cases n with
      | zero => simp [titer] at hn
      | succ n => simp [titer, hg] at hn
  | some q =>
    obtain ⟨q, H'⟩ := q
    simp only [Option.bind_some]
    cases q with
    | go s' =>
      simp only []
      cases hl : tlim b s' H' with
      | none =>
        cases hl2 : tlim b s H with
        | none => rfl
        | some r =>
          obtain ⟨n, hn⟩ := iter_of_tlim hl2
          cases n with
          | zero => simp [titer] at hn
          | succ n =>
            simp only [titer, hg, Option.bind_some] at hn
            rw [tlim_of_iter hn] at hl; cases hl
      | some r =>
        obtain ⟨n, hn⟩ := iter_of_tlim hl
        exact tlim_of_iter (n := n + 1) (by simp only [titer, hg, Option.bind_some]; exact hn)
    | up r => exact tlim_of_iter (n := 1) (by simp [titer, hg])
theorem tlim_go {b : σ → Heap → Option (Rd σ ρ × Heap)} {s : σ} {H : Heap} {s' : σ} {H' : Heap} (h : b s H = some (.go s', H')) : tlim b s H = tlim b s' H' := by rw [tlim_eq, h]; rfl
theorem tlim_up {b : σ → Heap → Option (Rd σ ρ × Heap)} {s : σ} {H : Heap} {r : ρ} {H' : Heap} (h : b s H = some (.up r, H')) : tlim b s H = some (r, H') := by rw [tlim_eq, h]; rfl

/-- how a typed round stands for a round -/
def rdEx (es : σ → Fr) (er : ρ → Ex × Fr) (p : Rd σ ρ × Heap) : Ex × LS := match p.1 with
  | .go s => (.normal, (es s, p.2))
  | .up r => ((er r).1, ((er r).2, p.2))
theorem titer_sim {g : LS → Option (Ex × LS)} {b : σ → Heap → Option (Rd σ ρ × Heap)} {es : σ → Fr} {er : ρ → Ex × Fr} (hx : ∀ r, (er r).1 ≠ .normal)
    (hb : ∀ s H, g (es s, H) = (b s H).bind fun p => some (rdEx es er p)) : ∀ (n : Nat) (s : σ) (H : Heap), loopIter g n (es s, H) = (titer b n s H).bind fun p => some ((er p.1).1, ((er p.1).2, p.2)) := by
  intro n
  induction n with
  | zero => intro s H; rfl
  | succ n ih =>
    intro s H
    simp only [loopIter, titer, hb]
    cases hq : b s H with
    | none => rfl
    | some q =>
      obtain ⟨q, H'⟩ := q
      simp only [Option.bind_some]
      cases q with
      | go s' => simp only [rdEx]; exact ih s' H'
      | up r =>
        simp only [rdEx, Option.bind_some]
        cases he : (er r).1 with
        | normal => exact absurd he (hx r)
        | exit i => rfl
        | ret => rfl
theorem tlim_sim {g : LS → Option (Ex × LS)} {b : σ → Heap → Option (Rd σ ρ × Heap)} {es : σ → Fr} {er : ρ → Ex × Fr} (hx : ∀ r, (er r).1 ≠ .normal)
    (hb : ∀ s H, g (es s, H) = (b s H).bind fun p => some (rdEx es er p)) (s : σ) (H : Heap) : loopLim g (es s, H) = (tlim b s H).bind fun p => some ((er p.1).1, ((er p.1).2, p.2)) := by
  cases hl : tlim b s H with
  | some r =>
    obtain ⟨n, hn⟩ := iter_of_tlim hl
    have := titer_sim hx hb n s H
    rw [hn] at this
    exact loopLim_of_iter this
  | none =>
    cases hl2 : loopLim g (es s, H) with
    | none => rfl
    | some r =>
      obtain ⟨n, hn⟩ := iter_of_loopLim hl2
      rw [titer_sim hx hb n s H] at hn
      cases ht : titer b n s H with
      | none => rw [ht] at hn; simp at hn
      | some q => rw [tlim_of_iter ht] at hl; cases hl
/-- a loop, as a typed one -/
theorem ev_tlim {R : Type} {P : Program} {E : FEnv} {n : Nat} {kp : Nat → Option (List Nat)} {c : Code} {b : σ → Heap → Option (Rd σ ρ × Heap)} {es : σ → Fr} {er : ρ → Ex × Fr} (hx : ∀ r, (er r).1 ≠ .normal)
    (hb : ∀ s H, ev P E loopLim n kp c (es s) H ret3 = (b s H).bind fun p => some (rdEx es er p)) (s : σ) (H : Heap) (K : Ex → Fr → Heap → Option R) :
    ev P E loopLim n kp (.loop c) (es s) H K = (tlim b s H).bind fun p => K (er p.1).1 (er p.1).2 p.2 := by
  show (loopLim (fun s => ev P E loopLim n kp c s.1 s.2 ret3) (es s, H)).bind (fun r => K r.1 r.2.1 r.2.2) = _
  rw [tlim_sim hx hb, Option.bind_assoc]
  rfl
end
theorem ev_seq {R : Type} {P : Program} {E : FEnv} {lr : LRun} {n : Nat} {kp : Nat → Option (List Nat)} (a b : Code) (fr : Fr) (H : Heap) (K : Ex → Fr → Heap → Option R) : ev P E lr n kp (.seq a b) fr H K = ev P E lr n kp a fr H (kSeq (fun fr H => ev P E lr n kp b fr H K) K) := rfl
theorem ev_block {R : Type} {P : Program} {E : FEnv} {lr : LRun} {n : Nat} {kp : Nat → Option (List Nat)} (i : Nat) (b : Code) (fr : Fr) (H : Heap) (K : Ex → Fr → Heap → Option R) : ev P E lr n kp (.block i b) fr H K = ev P E lr n kp b (fkp kp (200000 + i) fr) H (kBlock kp i K) := rfl
theorem ev_cond {R : Type} {P : Program} {E : FEnv} {lr : LRun} {n : Nat} {kp : Nat → Option (List Nat)} (c : Operand) (a b : Code) (fr : Fr) (H : Heap) (K : Ex → Fr → Heap → Option R) (x : Bool) (hx : evalO fr c = some (.b x)) :
    ev P E lr n kp (.cond c a b) fr H K = sel x (ev P E lr n kp a fr H (kEnd kp (condId c) K)) (ev P E lr n kp b fr H (kEnd kp (condId c) K)) := by
  simp only [ev, hx]

/-- a new object -/
def alo {R : Type} (H : Heap) (o : O) (K : Nat → Heap → Option R) : Option R := K H.next (H.new o)
theorem alo_lin {R S : Type} {H : Heap} {o : O} {f : Nat → Heap → Option R} {g : Nat → Heap → Option S} {k : S → Option R} (h : ∀ i H, f i H = (g i H).bind k) : alo H o f = (alo H o g).bind k := h _ _
/-- two ways out of a loop -/
def cas {α β : Type} {R : Type} (x : Sum α β) (f : α → Option R) (g : β → Option R) : Option R := match x with
  | .inl a => f a
  | .inr b => g b
theorem cas_lin {R S : Type} {α β : Type} {x : Sum α β} {f : α → Option R} {f' : β → Option R} {g : α → Option S} {g' : β → Option S} {k : S → Option R} (h : ∀ a, f a = (g a).bind k) (h' : ∀ a, f' a = (g' a).bind k) : cas x f f' = (cas x g g').bind k := by
  cases x with
  | inl a => exact h a
  | inr b => exact h' b
@[simp] theorem cas_inl {α β R : Type} (a : α) (f : α → Option R) (g : β → Option R) : cas (.inl a) f g = f a := rfl
@[simp] theorem cas_inr {α β R : Type} (a : β) (f : α → Option R) (g : β → Option R) : cas (.inr a) f g = g a := rfl
@[simp] theorem sel_true {R : Type} (a b : Option R) : sel true a b = a := rfl
@[simp] theorem sel_false {R : Type} (a b : Option R) : sel false a b = b := rfl
@[simp] theorem selB_true (a b : Bool) : selB true a b = a := rfl
@[simp] theorem selB_false (a b : Bool) : selB false a b = b := rfl
/-- equal parts -/
theorem bc {α R : Type} {x : Option α} {f g : α → Option R} (h : ∀ a, f a = g a) : x.bind f = x.bind g := congrArg _ (funext h)
theorem ic {R : Type} {c : Prop} [Decidable c] {a a' b b' : Option R} (h : a = b) (h' : a' = b') : (if c then a else a') = (if c then b else b') := by rw [h, h']
theorem sc {R : Type} {x : Bool} {a a' b b' : Option R} (h : a = b) (h' : a' = b') : sel x a a' = sel x b b' := by rw [h, h']
theorem sels {R : Type} {x : Bool} {a a' b b' : Option R} (h : a = b) (h' : a' = b') : sel x a a' = sel x b b' := by rw [h, h']
end Go.Proofs.YteipplgcdbaokaaDoor.AM
