/- What the monitors do: their methods over the machine's heap. -/
import Derived.Test.YtbkncpmgpogakaaGJ
import Derived.Test.YtbkncpmgpogakaaAm29
namespace Go.Proofs.Ytbkncpmgpogakaa
open Go AM Go.RowKit
set_option linter.unusedVariables false
set_option linter.unusedSimpArgs false

/-- a monitor's state -/
structure Ms where
  kind : Nat
  lv : Int
  lim : Int
  sz : Int
  up : Int
  dn : Int
  un : Int
  wr : Bool
def Ms.cells (x : Ms) : List V := match x.kind with
  | 0 => [.i .i64 x.lv, .i .i64 x.lim, .i .i64 x.sz, .i .i64 x.un]
  | 1 => [.i .i64 x.lv, .i .i64 x.lim]
  | _ => [.i .i64 x.lv, .i .i64 x.lim, .i .i64 x.sz, .i .i64 x.up, .i .i64 x.dn, .i .i64 x.un, .b x.wr]
def Ms.ty (x : Ms) : TypeId := match x.kind with
  | 0 => 56
  | 1 => 53
  | _ => 59
def Ms.val (x : Ms) (id : Nat) : V := match x.kind with
  | 0 => .ifc 54 (.p (some (id, 0)))
  | 1 => .ifc 49 (.p (some (id, 0)))
  | _ => .ifc 57 (.p (some (id, 0)))
def Ms.obj (x : Ms) : O := .cells x.cells x.ty false
/-- the numbers are small -/
structure Ms.Ok (x : Ms) : Prop where
  kind : x.kind < 3
  lv : 0 ≤ x.lv ∧ x.lv ≤ x.lim
  lim : 1 ≤ x.lim ∧ x.lim ≤ 1048576
  sz : 1 ≤ x.sz ∧ x.sz ≤ 1048576
  up : 1 ≤ x.up ∧ x.up ≤ 1048576
  dn : 1 ≤ x.dn ∧ x.dn ≤ 1048576
  un : 0 ≤ x.un ∧ x.un < x.sz
def clampI (v hi : Int) : Int := if v > hi then hi else if v > 0 then v else 0
def Ms.count (x : Ms) (ok : Bool) : Ms := match x.kind with
  | 0 => if x.lv = x.lim then x else
      let lv1 := if ok then x.lv else clampI (x.lv + 1) x.lim
      if x.un + 1 = x.sz then { x with lv := if lv1 = x.lim then lv1 else clampI (lv1 - 1) x.lim, un := 0 } else { x with lv := lv1, un := x.un + 1 }
  | 1 => if ok then x else { x with lv := clampI (x.lv + 1) x.lim }
  | _ => if x.lv = x.lim then x else
      if x.un + 1 < x.sz then { x with wr := x.wr || !ok, un := x.un + 1 } else { x with lv := if (x.wr || !ok) = true then clampI (x.lv + x.up) x.lim else clampI (x.lv - x.dn) x.lim, un := 0, wr := false }
def Ms.reset (x : Ms) : Ms := match x.kind with
  | 0 => { x with lv := 0, un := 0 }
  | 1 => { x with lv := 0 }
  | _ => { x with lv := 0, un := 0, wr := false }

section
variable {R : Type} {H : Heap} {id : Nat}
theorem s40 {lv lim : Int} {rest : List V} {e : TypeId} {ro : Bool} (h : H.get id = some (.cells (.i .i64 lv :: .i .i64 lim :: rest) e ro)) (K : Bool → Heap → Option R) : g40 R (some (id, 0)) H K = K (lv == lim) H := by
  simp [g40, g40_r, g40_p0, Heap.ldI, Heap.ld, h, V.asI]
theorem s39 {lv : Int} {rest : List V} {e : TypeId} {ro : Bool} (h : H.get id = some (.cells (.i .i64 lv :: rest) e ro)) (K : Int → Heap → Option R) : g39 R (some (id, 0)) H K = K lv H := by
  simp [g39, g39_r, g39_p0, Heap.ldI, Heap.ld, h, V.asI]
theorem s43 {a b c : Int} (hb : b ≤ c) (K : Int → Heap → Option R) (hl : b = 0) : g43 R a b c H K = K (clampI a c) H := by
  subst hl
  have : (if (if c < a then c else a) > 0 then (if c < a then c else a) else 0) = clampI a c := by
    unfold clampI
    split <;> split <;> first | rfl | omega
  simp only [g43, g43_r, g43_p0, this]
theorem s42 {lv lim n : Int} {rest : List V} {e : TypeId} (h : H.get id = some (.cells (.i .i64 lv :: .i .i64 lim :: rest) e false)) (hl : 0 ≤ lim) (hn : -9223372036854775808 ≤ lv + n ∧ lv + n ≤ 9223372036854775807) (K : Heap → Option R) :
    g42 R (some (id, 0)) n H K = K (H.put id (.cells (.i .i64 (clampI (lv + n) lim) :: .i .i64 lim :: rest) e false)) := by
  have e1 : H.ldI .i64 id 0 = some lv := ldI_of h rfl
  have e2 : H.ldI .i64 id 1 = some lim := ldI_of h rfl
  simp only [g42, g42_r, g42_p0, Option.bind_some, Nat.add_zero, Nat.zero_add, e1, e2]
  rw [w64 hn, s43 hl _ rfl]
  simp only [Heap.st, h, V.one]
  simp

theorem s44 {lv lim sz un : Int} (h : H.get id = some (.cells [.i .i64 lv, .i .i64 lim, .i .i64 sz, .i .i64 un] 56 false)) (ok : Bool) (hl : 0 ≤ lv ∧ lv ≤ lim ∧ lim ≤ 1048576) (hu : 0 ≤ un ∧ un ≤ 1048576) (K : Heap → Option R) :
    g44 R (some (id, 0)) ok H K = K (H.put id (.cells (Ms.count ⟨0, lv, lim, sz, 0, 0, un, false⟩ ok).cells 56 false)) := by
  simp only [g44, g44_r, g44_p0, Option.bind_some, Nat.add_zero, Nat.zero_add]
  rw [s40 h]
  by_cases ho : lv = lim
  · simp [ho, Ms.count, Ms.cells, sel]
    rw [Heap.put_self (by rw [h, ho])]
  · have hb : (lv == lim) = false := by simp [ho]
    simp only [hb, sel_false]
    have hc : 0 ≤ clampI (lv + 1) lim ∧ clampI (lv + 1) lim ≤ lim := by unfold clampI; split <;> (try split) <;> omega
    cases ok with
    | true =>
      simp only [Bool.not_true, sel_false]
      simp only [Heap.ldI, Heap.ld, h, Heap.st, V.one, V.asI, List.length_cons, List.length_nil, List.getElem?_cons_succ, List.getElem?_cons_zero, Option.bind_some, List.set_cons_succ, List.set_cons_zero, Heap.get_put, if_true, Nat.reduceAdd, Nat.reduceLT]
      rw [w64 (by omega)]
      by_cases hs : un + 1 = sz
      · simp only [hs, beq_self_eq_true, sel_true, Heap.put_put]
        rw [s40 (Heap.gput _ _ _)]
        simp only [hb, Bool.not_false, sel_true]
        rw [s42 (Heap.gput _ _ _) (by omega) (by omega)]
        simp [Ms.count, Ms.cells, ho, hs, Int.sub_eq_add_neg]
      · have : (un + 1 == sz) = false := by simp [hs]
        simp [this, Ms.count, Ms.cells, ho, hs]
    | false =>
      simp only [Bool.not_false, sel_true]
      rw [s42 h (by omega) (by omega)]
      simp only [Heap.ldI, Heap.ld, Heap.st, V.one, V.asI, List.length_cons, List.length_nil, List.getElem?_cons_succ, List.getElem?_cons_zero, Option.bind_some, List.set_cons_succ, List.set_cons_zero, Heap.get_put, if_true, Nat.reduceAdd, Nat.reduceLT]
      rw [w64 (by omega)]
      by_cases hs : un + 1 = sz
      · simp only [hs, beq_self_eq_true, sel_true, Heap.put_put]
        rw [s40 (Heap.gput _ _ _)]
        by_cases h2 : clampI (lv + 1) lim = lim
        · simp [Ms.count, Ms.cells, ho, hs, h2]
        · have : (clampI (lv + 1) lim == lim) = false := by simp [h2]
          simp only [this, Bool.not_false, sel_true]
          rw [s42 (Heap.gput _ _ _) (by omega) (by omega)]
          simp [Ms.count, Ms.cells, ho, hs, h2, Int.sub_eq_add_neg]
      · have : (un + 1 == sz) = false := by simp [hs]
        simp [this, Ms.count, Ms.cells, ho, hs]

theorem s38 {lv lim : Int} (h : H.get id = some (.cells [.i .i64 lv, .i .i64 lim] 53 false)) (ok : Bool) (hl : 0 ≤ lv ∧ lv ≤ lim ∧ lim ≤ 1048576) (K : Heap → Option R) :
    g38 R (some (id, 0)) ok H K = K (H.put id (.cells (Ms.count ⟨1, lv, lim, 0, 0, 0, 0, false⟩ ok).cells 53 false)) := by
  simp only [g38, g38_r, g38_p0, Option.bind_some, Nat.add_zero, Nat.zero_add]
  cases ok with
  | true =>
    simp [Ms.count, Ms.cells]
    rw [Heap.put_self h]
  | false =>
    simp only [Bool.not_false, sel_true]
    rw [s42 h (by omega) (by omega)]
    simp [Ms.count, Ms.cells]

theorem s46 {lv lim sz up dn un : Int} {wr : Bool} (h : H.get id = some (.cells [.i .i64 lv, .i .i64 lim, .i .i64 sz, .i .i64 up, .i .i64 dn, .i .i64 un, .b wr] 59 false)) (ok : Bool) (hl : 0 ≤ lv ∧ lv ≤ lim ∧ lim ≤ 1048576) (hu : 0 ≤ un ∧ un ≤ 1048576) (hup : 0 ≤ up ∧ up ≤ 1048576) (hdn : 0 ≤ dn ∧ dn ≤ 1048576) (K : Heap → Option R) :
    g46 R (some (id, 0)) ok H K = K (H.put id (.cells (Ms.count ⟨2, lv, lim, sz, up, dn, un, wr⟩ ok).cells 59 false)) := by
  simp only [g46, g46_r, g46_p0, Option.bind_some, Nat.add_zero, Nat.zero_add]
  rw [s40 h]
  by_cases ho : lv = lim
  · simp [ho, Ms.count, Ms.cells, sel]
    rw [Heap.put_self (by rw [h, ho])]
  · have hb : (lv == lim) = false := by simp [ho]
    simp only [hb, sel_false]
    have key : ∀ w : Bool, w = (wr || !ok) → (((H.st id 6 (V.b w)).bind fun h42 => (h42.ldI .i64 id 5).bind fun x44 => (h42.st id 5 (V.i .i64 (IntKind.wrap .i64 (x44 + 1)))).bind fun h47 => (h47.ldI .i64 id 5).bind fun x49 => (h47.ldI .i64 id 2).bind fun x51 =>
        sel (decide (x49 < x51)) (K h47) ((h47.ldB id 6).bind fun x53 => sel x53
          ((h47.ldI .i64 id 3).bind fun x56 => g42 R (some (id, 0)) x56 h47 fun h57 => (h57.st id 5 (V.i .i64 0)).bind fun h60 => (h60.st id 6 (V.b false)).bind fun h63 => K h63)
          ((h47.ldI .i64 id 4).bind fun x66 => g42 R (some (id, 0)) (IntKind.wrap .i64 (0 - x66)) h47 fun h67 => (h67.st id 5 (V.i .i64 0)).bind fun h70 => (h70.st id 6 (V.b false)).bind fun h73 => K h73))) : Option R) =
        K (H.put id (.cells (Ms.count ⟨2, lv, lim, sz, up, dn, un, wr⟩ ok).cells 59 false)) := by
      intro w hw
      simp only [Heap.ldI, Heap.ldB, Heap.ld, h, Heap.st, V.one, V.asI, V.asB, List.length_cons, List.length_nil, List.getElem?_cons_succ, List.getElem?_cons_zero, Option.bind_some, List.set_cons_succ, List.set_cons_zero, Heap.get_put, if_true, Nat.reduceAdd, Nat.reduceLT, Heap.put_put]
      rw [w64 (by omega)]
      by_cases hs : un + 1 < sz
      · simp [hs, Ms.count, Ms.cells, ho, hw]
      · simp only [hs, decide_false, sel_false]
        have hput : ∀ l : List V, (H.put id (.cells l 59 false)).get id = some (.cells l 59 false) := fun l => by simp
        cases w with
        | true =>
          simp only [sel_true]
          rw [s42 (Heap.gput _ _ _) (by omega) (by omega)]
          simp [Heap.get_put, Ms.count, Ms.cells, ho, hs, ← hw]
        | false =>
          simp only [sel_false]
          rw [w64 (by omega), s42 (Heap.gput _ _ _) (by omega) (by omega)]
          simp [Heap.get_put, Ms.count, Ms.cells, ho, hs, ← hw, Int.sub_eq_add_neg]
    have e6 : H.ldB id 6 = some wr := ldB_of h rfl
    simp only [e6, Option.bind_some]
    cases wr with
    | true => exact key true (by simp)
    | false => exact key (!ok) (by simp)

theorem s45 {lv lim sz un : Int} (h : H.get id = some (.cells [.i .i64 lv, .i .i64 lim, .i .i64 sz, .i .i64 un] 56 false)) (K : Heap → Option R) :
    g45 R (some (id, 0)) H K = K (H.put id (.cells [.i .i64 0, .i .i64 lim, .i .i64 sz, .i .i64 0] 56 false)) := by
  simp [g45, g45_r, g45_p0, Heap.st, h, V.one]
theorem s41 {lv lim : Int} (h : H.get id = some (.cells [.i .i64 lv, .i .i64 lim] 53 false)) (K : Heap → Option R) :
    g41 R (some (id, 0)) H K = K (H.put id (.cells [.i .i64 0, .i .i64 lim] 53 false)) := by
  simp [g41, g41_r, g41_p0, Heap.st, h, V.one]
theorem s47 {lv lim sz up dn un : Int} {wr : Bool} (h : H.get id = some (.cells [.i .i64 lv, .i .i64 lim, .i .i64 sz, .i .i64 up, .i .i64 dn, .i .i64 un, .b wr] 59 false)) (K : Heap → Option R) :
    g47 R (some (id, 0)) H K = K (H.put id (.cells [.i .i64 0, .i .i64 lim, .i .i64 sz, .i .i64 up, .i .i64 dn, .i .i64 0, .b false] 59 false)) := by
  simp [g47, g47_r, g47_p0, Heap.st, h, V.one]
end
end Go.Proofs.Ytbkncpmgpogakaa
