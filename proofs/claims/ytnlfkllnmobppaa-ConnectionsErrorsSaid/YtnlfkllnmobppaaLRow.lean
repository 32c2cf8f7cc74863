/- Rows of structs, in general; one's own. -/
import Derived.Test.YtnlfkllnmobppaaAmC
namespace Go.Proofs.Ytnlfkllnmobppaa
open Go AM Go.RowKit
set_option linter.unusedVariables false
set_option linter.unusedSimpArgs false

/-- the ids of a slice's object -/
def sid (s : Sl) : List Nat := match s.a with
  | some (q, _) => [q]
  | none => []
theorem sid_of {s : Sl} {q o : Nat} (h : s.a = some (q, o)) : q ∈ sid s := by simp [sid, h]
def nilS : Sl := ⟨none, 0, .ex 0⟩
theorem AM.Own.sidg {H : Heap} {e : TypeId} {sz : Nat} {s : Sl} {l : List V} (h : Own H e sz s l) {q : Nat} (hq : q ∈ sid s) : s.a = some (q, 0) ∧ H.get q = some (.cells l e false) := by
  rcases h.inv with ⟨e, _⟩ | ⟨id, n, e, g, _⟩
  · rw [e] at hq; cases hq
  · rw [e] at hq ⊢; simp [sid] at hq; subst hq; exact ⟨rfl, g⟩
section
variable {α : Type} (f : α → List V) {n : Nat} (hf : ∀ a, (f a).length = n) (ho : ∀ a, (f a).all V.one = true)
def rows (l : List α) : List V := (l.map f).flatten
theorem rows_app (l m : List α) : rows f (l ++ m) = rows f l ++ rows f m := by simp [rows]
@[simp] theorem rows_nil : rows f [] = [] := rfl
theorem rows_one (a : α) : rows f [a] = f a := by simp [rows]
include hf in
theorem rows_len (l : List α) : (rows f l).length = l.length * n := by
  induction l with
  | nil => simp
  | cons a l ih =>
    have e : rows f (a :: l) = f a ++ rows f l := rfl
    rw [e, List.length_append, hf, ih, List.length_cons, Nat.add_mul, Nat.one_mul, Nat.add_comm]
include ho in
theorem rows_ones (l : List α) : (rows f l).all V.one = true := by
  induction l with
  | nil => rfl
  | cons a l ih =>
    have e : rows f (a :: l) = f a ++ rows f l := rfl
    rw [e, List.all_append, ho, ih]; rfl
include hf in
theorem rows_get {l : List α} {j c : Nat} {a : α} (h : l[j]? = some a) (hc : c < n) : (rows f l)[j * n + c]? = (f a)[c]? := by
  induction l generalizing j with
  | nil => simp at h
  | cons x l ih =>
    have e : rows f (x :: l) = f x ++ rows f l := rfl
    rw [e]
    cases j with
    | zero =>
      simp at h; subst h
      rw [List.getElem?_append_left (by rw [hf]; omega), Nat.zero_mul, Nat.zero_add]
    | succ j =>
      have e2 : (j + 1) * n + c = n + (j * n + c) := by rw [Nat.add_mul]; omega
      rw [e2, List.getElem?_append_right (by rw [hf]; omega), hf, show n + (j * n + c) - n = j * n + c by omega]
      exact ih (by simpa using h)
theorem own_rlen {H : Heap} {e : TypeId} {s : Sl} {l : List α} (hf : ∀ a, (f a).length = n) (hn : 0 < n) (h : Own H e n s (rows f l)) : s.len = l.length := by
  have := h.len
  rw [rows_len f hf] at this
  exact (Nat.eq_of_mul_eq_mul_right hn this).symm
include hf ho in
/-- a row more: its own object, then an append -/
theorem row_push {H : Heap} (hw : H.Wf) {e : TypeId} {bytes : Nat} {s : Sl} {l : List α} (h : Own H e n s (rows f l)) (a : α) (hn : 0 < n) (hb : bytes ≤ 1000) (hl : l.length ≤ 100000000) :
    ∃ r H', (∀ (R : Type) (K : Sl → Heap → Option R), ((slCells (H.new (.cells (f a) e false)) n (Sl.mk (some (H.next, 0)) 1 (.ex 1)))).bind (fun vs => appendV (H.new (.cells (f a) e false)) e n bytes s (Sl.mk (some (H.next, 0)) 1 (.ex 1)).len vs K) = K r H') ∧
      Own H' e n r (rows f (l ++ [a])) ∧ Fr' (fun i => i ∈ sid s) H H' ∧ H'.Wf ∧ (∀ q ∈ sid r, H.next ≤ q ∧ q < H'.next) := by
  have w1 := hw.new (.cells (f a) e false)
  have x1 := Ext.new H (.cells (f a) e false)
  have n1 : (H.new (.cells (f a) e false)).next = H.next + 1 := rfl
  have h1 : Own (H.new (.cells (f a) e false)) e n s (rows f l) := h.mono fun id o _ ho => x1.get hw ho
  have hsl := own_rlen f hf hn h
  have sl : slCells (H.new (.cells (f a) e false)) n ⟨some (H.next, 0), 1, .ex 1⟩ = some (f a) := by
    have := slIs_of (off := 0) (len := 1) (sz := n) (c := .ex 1) (Heap.gnew H (.cells (f a) e false)) (by rw [hf]; omega)
    unfold SlIs at this
    rw [this, List.drop_zero, List.take_of_length_le (by rw [hf]; omega)]
  have hbb : (s.len + 1) * bytes ≤ 140737488355328 := Nat.le_trans (Nat.mul_le_mul (show s.len + 1 ≤ 100000001 by omega) hb) (by omega)
  obtain ⟨r, G, a1, a2, a3, a4, a5, a6, a7⟩ := own_append w1 h1 (n := 1) (new := f a) (bytes := bytes) (by omega) hn (by rw [hf]; omega) (ho a) hbb (by omega)
  refine ⟨r, G, fun R K => ?_, ?_, ⟨by rw [a6, n1]; omega, fun i hi hni => ?_⟩, a5, fun q hq => ?_⟩
  · rw [sl, Option.bind_some]
    exact a1 R K
  · rw [rows_app, rows_one]; exact a2
  · rw [a7 i (by rw [n1]; omega) (fun ha => hni (sid_of ha))]; exact x1.same i hi (fun h => h)
  · simp only [sid, a4, List.mem_singleton] at hq; rw [n1] at hq; omega
end
/-- s[:len:len] of rows of one's own -/
theorem own_clip {H : Heap} {e : TypeId} {sz : Nat} {s : Sl} {l : List V} (h : Own H e sz s l) {R : Type} (K : Sl → Option R) : slOf sz s none (some ((s.len : Nat) : Int)) (some ((s.len : Nat) : Int)) K = K ⟨s.a, s.len, .ex s.len⟩ := by
  cases h with
  | nil => rfl
  | op id n _ h hl hv =>
    simp only [slOf, Option.getD_none, Option.getD_some, Option.isSome_some, Option.isNone_some, Bool.and_false, Bool.false_eq_true, if_false, if_true]
    rw [if_pos (by omega)]
    congr 1
    simp only [Int.sub_zero, Int.toNat_natCast]
    split <;> simp
end Go.Proofs.Ytnlfkllnmobppaa

