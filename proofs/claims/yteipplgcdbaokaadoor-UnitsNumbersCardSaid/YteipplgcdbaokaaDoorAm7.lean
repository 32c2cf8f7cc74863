/- What the machine's slicing, appending and copying stand for. -/
import Derived.Test.YteipplgcdbaokaaDoorAm6
namespace Go.Proofs.YteipplgcdbaokaaDoor.AM
open Go Go.RowKit

def IO1 : Option Int → Option Value → Prop
  | none, none => True
  | some n, some (.int _ m) => n = m
  | _, _ => False

section
variable {P : Program} {N : Nat} {w0 w : World} {ρ : Env} {H : Heap}

theorem run_sliceBound {k : IntKind} {n : Int} {y : Nat} {code : BoundsCode} (h0 : 0 ≤ n) (h1 : n ≤ y) (w : World) : (Instr.sliceBound (.int k n) y code).run P w = .ok n.toNat w := by
  simp [Instr.sliceBound, asIntOf, h0, h1]

theorem run_sliceBounds {isS : Bool} {len cap : Nat} {lo hi mx : Option Int} {vl vh vm : Option Value} (hl : IO1 lo vl) (hh : IO1 hi vh) (hm : IO1 mx vm) (hx : (mx.isSome && hi.isNone) = false)
    (c0 : 0 ≤ lo.getD 0) (c1 : lo.getD 0 ≤ hi.getD len) (c2 : hi.getD len ≤ mx.getD cap) (c3 : mx.getD cap ≤ cap) (w : World) :
    (Instr.sliceBounds isS len cap vl vh vm).run P w = .ok ((lo.getD 0).toNat, (hi.getD len).toNat, (mx.getD cap).toNat) w := by
  have int : ∀ {o : Option Int} {v : Option Value}, IO1 o v → (o = none ∧ v = none) ∨ ∃ n k, o = some n ∧ v = some (.int k n) := by
    intro o v h
    cases o <;> cases v
    · exact .inl ⟨rfl, rfl⟩
    · exact h.elim
    · exact h.elim
    · rename_i n x
      cases x <;> simp [IO1] at h
      subst h
      exact .inr ⟨_, _, rfl, rfl⟩
  unfold Instr.sliceBounds
  rcases int hl with ⟨rfl, rfl⟩ | ⟨l, kl, rfl, rfl⟩ <;> rcases int hh with ⟨rfl, rfl⟩ | ⟨h, kh, rfl, rfl⟩ <;> rcases int hm with ⟨rfl, rfl⟩ | ⟨m, km, rfl, rfl⟩ <;>
    simp only [Option.getD_some, Option.getD_none, Option.isSome_some, Option.isSome_none, Option.isNone_some, Option.isNone_none, Bool.and_true, Bool.and_false, reduceCtorEq] at c0 c1 c2 c3 hx ⊢ <;>
    simp only [Sem.run_bind, Sem.run_pure, Result.andThen_ok]
  all_goals (repeat first
    | rw [run_sliceBound (by omega) (by omega)]
    | simp only [Result.andThen_ok, Int.toNat_natCast, Int.toNat_zero])

theorem slOf_sound {R : Type} {r : R} {sz : Nat} {x : Sl} {a : Option Addr} {len cap : Nat} {lo hi mx : Option Int} {vl vh vm : Option Value} {K : Sl → Option R}
    (h : slOf sz x lo hi mx K = some r) (hx : Rel ρ (.sl x) (.slice a len cap)) (hl : IO1 lo vl) (hh : IO1 hi vh) (hm : IO1 mx vm) (isS : Bool) (w : World) :
    ∃ (s : Sl) (l h m : Nat), (Instr.sliceBounds isS len cap vl vh vm).run P w = .ok (l, h, m) w ∧ Rel ρ (.sl s) (.slice (if m = l then a else a.map (·.add (l * sz))) (h - l) (m - l)) ∧ K s = some r := by
  unfold slOf at h
  simp only [] at h
  split at h
  · cases h
  rename_i hx0
  have hx0 : (mx.isSome && hi.isNone) = false := Bool.eq_false_iff.2 hx0
  cases hx with
  | sn =>
    simp only [] at h
    split at h
    · rename_i hc
      obtain ⟨c0, c1, c2, c3⟩ := hc
      refine ⟨_, _, _, _, run_sliceBounds hl hh hm hx0 (len := 0) (cap := 0) c0 c1 c2 c3 w, ?_, h⟩
      have e1 : lo.getD 0 = 0 := by omega
      have e2 : hi.getD ((0 : Nat) : Int) = 0 := by omega
      have e3 : mx.getD ((0 : Nat) : Int) = 0 := by omega
      simp only [e1, e2, e3]
      simp
      exact .sn
    · cases h
  | sx id off len cap b a hb hle ha =>
    simp only [] at h
    split at h
    · rename_i hc
      obtain ⟨c0, c1, c2, c3⟩ := hc
      refine ⟨_, _, _, _, run_sliceBounds hl hh hm hx0 (len := len) (cap := cap) c0 c1 c2 c3 w, ?_, h⟩
      generalize lo.getD 0 = l at *
      generalize hi.getD (len : Int) = hh' at *
      generalize mx.getD (cap : Int) = m at *
      by_cases e : m = l
      · subst e
        simp only [if_true]
        have e1 : hh' - m = 0 := by omega
        rw [show hh'.toNat - m.toNat = 0 by omega, show m.toNat - m.toNat = 0 by omega, show (hh' - m).toNat = 0 by omega, show (m - m).toNat = 0 by omega]
        exact .sx id off 0 0 b a hb (Nat.le_refl _) (fun h => absurd rfl h)
      · rw [if_neg e, if_neg (show ¬ m.toNat = l.toNat by omega)]
        have hc0 : cap ≠ 0 := by omega
        obtain rfl := ha hc0
        simp only [Option.map_some, Addr.add_lit]
        rw [show hh'.toNat - l.toNat = (hh' - l).toNat by omega, show m.toNat - l.toNat = (m - l).toNat by omega]
        exact .sx id _ _ _ b _ hb (by omega) (fun _ => by rw [Nat.add_assoc])
    · cases h
  | so id off len s cap b a hb hle hml hsz ha =>
    simp only [] at h
    split at h
    · rename_i hs
      subst hs
      split at h
      · split at h
        · rename_i hc
          obtain ⟨c0, c1, c2⟩ := hc
          refine ⟨_, _, _, _, run_sliceBounds hl hh hm hx0 (len := len) (cap := cap) c0 c1 (by simp only [Option.getD_none]; omega) (by simp) w, ?_, h⟩
          generalize lo.getD 0 = l at *
          generalize hi.getD (len : Int) = hh' at *
          simp only [Option.getD_none, Int.toNat_natCast, Option.map_some]
          rw [show hh'.toNat - l.toNat = (hh' - l).toNat by omega]
          by_cases e : cap = l.toNat
          · rw [if_pos e]
            refine .so id _ _ s _ b a hb (by omega) (by omega) ?_ (fun h => absurd (by omega) h)
            rw [← hsz, show cap - l.toNat = 0 by omega, ← e]; omega
          · rw [if_neg e]
            have hc0 : cap ≠ 0 := by omega
            obtain rfl := ha hc0
            simp only [Addr.add_lit]
            refine .so id _ _ s _ b _ hb (by omega) (by omega) ?_ (fun _ => by rw [Nat.add_assoc])
            have : l.toNat * s + (cap - l.toNat) * s = cap * s := by rw [← Nat.add_mul]; congr 1; omega
            omega
        · cases h
      · rename_i m _
        split at h
        · rename_i hc
          obtain ⟨c0, c1, c2, c3⟩ := hc
          refine ⟨_, _, _, _, run_sliceBounds hl hh hm hx0 (len := len) (cap := cap) c0 c1 (by simpa using c2) (by simp only [Option.getD_some]; omega) w, ?_, h⟩
          generalize lo.getD 0 = l at *
          generalize hi.getD (len : Int) = hh' at *
          simp only [Option.getD_some]
          by_cases e : m = l
          · subst e
            simp only [if_true]
            rw [show hh'.toNat - m.toNat = 0 by omega, show m.toNat - m.toNat = 0 by omega, show (hh' - m).toNat = 0 by omega, show (m - m).toNat = 0 by omega]
            exact .sx id off 0 0 b a hb (Nat.le_refl _) (fun h => absurd rfl h)
          · rw [if_neg e, if_neg (show ¬ m.toNat = l.toNat by omega)]
            have hc0 : cap ≠ 0 := by omega
            obtain rfl := ha hc0
            simp only [Option.map_some, Addr.add_lit]
            rw [show hh'.toNat - l.toNat = (hh' - l).toNat by omega, show m.toNat - l.toNat = (m - l).toNat by omega]
            exact .sx id _ _ _ b _ hb (by omega) (fun _ => by rw [Nat.add_assoc])
        · cases h
    · cases h

/-- the cells of a slice -/
theorem slCells_sound (h : HR N w0 ρ H w) {sz : Nat} {x : Sl} {vs : List V} {c : Value} (hs : slCells H sz x = some vs) (hx : Rel ρ (.sl x) c) :
    ∃ a cap xs, c = .slice a x.len cap ∧ Rels ρ vs xs ∧ xs.length = x.len * sz ∧ ∀ w' : World, w'.heap = w.heap → (Builtin.firstCells sz x.len c).run P w' = .ok xs.toArray w' := by
  obtain ⟨a, len, cap, rfl, hn, hlen⟩ := hx.slNil
  subst hlen
  unfold slCells at hs
  split at hs
  · rename_i h0
    simp at hs; subst hs
    refine ⟨a, cap, [], rfl, .nil, by simp [h0], fun w' _ => ?_⟩
    cases a <;> simp [Builtin.firstCells, h0, loadCells, loadCellsFrom]
  · rename_i h0
    split at hs
    · cases hs
    · rename_i id off hid
      have key : ∀ (b : Base) (ad : Addr), ρ id = some b → ad = ⟨b.blk, b.off + off, none⟩ → ∃ xs, Rels ρ vs xs ∧ xs.length = x.len * sz ∧ ∀ w' : World, w'.heap = w.heap → (Builtin.firstCells sz x.len (.slice (some ad) x.len cap)).run P w' = .ok xs.toArray w' := by
        intro b ad hb had
        subst had
        obtain ⟨_, xs, hrs, hxl, hc⟩ := lds_sound h hs hb
        refine ⟨xs, hrs, hxl, fun w' hw' => ?_⟩
        simp only [Builtin.firstCells]
        rw [← hxl]
        exact run_cells (w := w') fun j y hj => by have := hc j y hj; simpa [World.cell?, hw'] using this
      obtain ⟨xa, xl, xc⟩ := x
      simp only at hid h0 key ⊢
      cases hx with
      | sn => cases hid
      | sx id' off' _ _ b ad hb hle ha =>
        obtain ⟨rfl, rfl⟩ : id' = id ∧ off' = off := by simpa using hid
        have : cap ≠ 0 := by intro e; subst e; apply h0; rw [show xl = 0 by omega]; simp
        obtain ⟨xs, e1, e2, e3⟩ := key b ad hb (ha this)
        exact ⟨_, _, xs, rfl, e1, e2, e3⟩
      | so id' off' _ s _ b ad hb hle _ _ ha =>
        obtain ⟨rfl, rfl⟩ : id' = id ∧ off' = off := by simpa using hid
        have : cap ≠ 0 := by intro e; subst e; apply h0; rw [show xl = 0 by omega]; simp
        obtain ⟨xs, e1, e2, e3⟩ := key b ad hb (ha this)
        exact ⟨_, _, xs, rfl, e1, e2, e3⟩

end
end Go.Proofs.YteipplgcdbaokaaDoor.AM
