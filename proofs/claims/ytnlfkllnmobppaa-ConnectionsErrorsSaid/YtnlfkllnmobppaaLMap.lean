/- Maps whose keys are numbers of one kind, in general. -/
import Derived.Test.YtnlfkllnmobppaaAmC
namespace Go.Proofs.Ytnlfkllnmobppaa
open Go AM Go.RowKit
set_option linter.unusedVariables false
set_option linter.unusedSimpArgs false

section
variable {α : Type} (kd : IntKind) (key : α → Int) (val : α → V) (born : α → Nat)
def mEnt (a : α) : V × V × Nat := (.i kd (key a), val a, born a)
/-- the place of a key -/
def mAt (k : Int) : List α → Nat → Option (Nat × V)
  | [], _ => none
  | u :: us, i => if k = key u then some (i, val u) else mAt k us (i + 1)
theorem mAt_none {k : Int} : ∀ {us : List α} {i : Nat}, (∀ u ∈ us, key u ≠ k) → mAt key val k us i = none := by
  intro us
  induction us with
  | nil => intro i _; rfl
  | cons u us ih =>
    intro i h
    unfold mAt
    rw [if_neg (fun e => h u (by simp) e.symm)]
    exact ih fun u hu => h u (by simp [hu])
theorem mAt_some {k : Int} {u : α} : ∀ {us : List α} {i : Nat}, (us.map key).Nodup → u ∈ us → key u = k → ∃ j, mAt key val k us i = some (i + j, val u) ∧ us[j]? = some u ∧ (us.eraseIdx j = us.filter fun v => decide (key v ≠ k)) ∧ ∀ u', us.set j u' = us.map fun v => if key v = k then u' else v := by
  intro us
  induction us with
  | nil => intro i _ h; cases h
  | cons v us ih =>
    intro i hn hu hk
    simp only [List.map_cons, List.nodup_cons] at hn
    unfold mAt
    by_cases h : k = key v
    · rw [if_pos h]
      have : u = v := by
        rcases List.mem_cons.1 hu with e | e
        · exact e
        · exact absurd (List.mem_map.2 ⟨u, e, by rw [hk, h]⟩) hn.1
      subst this
      have hne : ∀ w ∈ us, key w ≠ k := fun w hw e => hn.1 (List.mem_map.2 ⟨w, hw, by rw [e, h]⟩)
      refine ⟨0, rfl, rfl, ?_, fun u' => ?_⟩
      · rw [List.eraseIdx_cons_zero, List.filter_cons, if_neg (by simp [h])]
        refine (List.filter_eq_self.2 fun w hw => ?_).symm
        simpa using hne w hw
      · rw [List.set_cons_zero, List.map_cons, if_pos h.symm]
        congr 1
        have : us.map (fun v => if key v = k then u' else v) = us.map id := List.map_congr_left fun w hw => if_neg (hne w hw)
        rw [this, List.map_id]
    · rw [if_neg h]
      have hu' : u ∈ us := by
        rcases List.mem_cons.1 hu with e | e
        · subst e; exact absurd hk.symm h
        · exact e
      obtain ⟨j, h1, h2, h3, h4⟩ := ih (i := i + 1) hn.2 hu' hk
      refine ⟨j + 1, by rw [h1]; congr 2; omega, by simpa using h2, ?_, fun u' => ?_⟩
      · rw [List.eraseIdx_cons_succ, List.filter_cons, if_pos (by simpa using fun e => h e.symm), h3]
      · rw [List.set_cons_succ, List.map_cons, if_neg (fun e => h e.symm), h4]
variable {P : Program} {kt mt vt : TypeId} (heq : ∀ a b : Int, eqV P 30 kt (.i kd a) (.i kd b) = some (a == b)) (hu : P.underlying mt = some (.map kt vt)) (hk : ∀ n : Int, keyV P kt (.i kd n) = true)
include heq in
theorem mfind_at (k : Int) : ∀ (us : List α) (i : Nat), findE P kt (.i kd k) (us.map (mEnt kd key val born)) i = some (mAt key val k us i) := by
  intro us
  induction us with
  | nil => intro i; rfl
  | cons u us ih =>
    intro i
    simp only [List.map_cons, mAt]
    unfold mEnt findE
    rw [heq, Option.bind_some]
    by_cases h : k = key u
    · rw [if_pos h, if_pos (by simpa using h)]
    · rw [if_neg h, if_neg (by simpa using h)]; exact ih (i + 1)
theorem ments_erase (us : List α) (j : Nat) : (us.map (mEnt kd key val born)).eraseIdx j = (us.eraseIdx j).map (mEnt kd key val born) := by
  induction us generalizing j with
  | nil => rfl
  | cons u us ih => cases j with
    | zero => rfl
    | succ j => simp [ih]
section
variable {R : Type} {H : Heap} {m ck : Nat} {us : List α} (hm : H.get m = some (.map (us.map (mEnt kd key val born)) ck))
include heq hu hk hm
theorem mdel {u : α} (hn : (us.map key).Nodup) (hmem : u ∈ us) (K : V → Heap → Option R) :
    evBuiltin P H .delete [mt, kt] [.m (some m), .i kd (key u)] K = K (.tup []) (H.put m (.map ((us.filter fun v => decide (key v ≠ key u)).map (mEnt kd key val born)) ck)) := by
  obtain ⟨j, h1, h2, h3, _⟩ := mAt_some key val (i := 0) hn hmem rfl
  simp only [evBuiltin, hu, hk, if_true, V.asM, Option.bind_some, getMap, hm, mfind_at kd key val born heq, h1, Nat.zero_add, ments_erase, h3]
theorem mset_new (k : Int) (hno : ∀ u ∈ us, key u ≠ k) (v : V) (K : V → Heap → Option R) :
    mapSet P H mt (.m (some m)) (.i kd k) v K = K (.tup []) (H.put m (.map (us.map (mEnt kd key val born) ++ [(.i kd k, v, ck)]) (ck + 1))) := by
  simp only [mapSet, hu, hk, if_true, V.asM, Option.bind_some, getMap, hm, mfind_at kd key val born heq, mAt_none key val hno]
theorem mset_old {u u' : α} (hn : (us.map key).Nodup) (hmem : u ∈ us) (hk' : key u' = key u) (hb : born u' = born u) (K : V → Heap → Option R) :
    mapSet P H mt (.m (some m)) (.i kd (key u)) (val u') K = K (.tup []) (H.put m (.map ((us.map fun w => if key w = key u then u' else w).map (mEnt kd key val born)) ck)) := by
  obtain ⟨j, h1, h2, _, h4⟩ := mAt_some key val (i := 0) hn hmem rfl
  have hks : keySame (.i kd (key u)) (.i kd (key u)) = true := by simp [keySame, same_i]
  have hj : (us.map (mEnt kd key val born))[j]? = some (mEnt kd key val born u) := by simp [h2]
  simp only [mapSet, hu, hk, if_true, V.asM, Option.bind_some, getMap, hm, mfind_at kd key val born heq, h1, Nat.zero_add, hj]
  rw [show mEnt kd key val born u = (.i kd (key u), val u, born u) from rfl]
  simp only [hks, if_true]
  rw [← h4 u', List.map_set, show mEnt kd key val born u' = (.i kd (key u), val u', born u) by rw [← hk', ← hb]; rfl]
end
end
end Go.Proofs.Ytnlfkllnmobppaa

