/- An alignment over the machine's heap: what its methods do. -/
import Derived.Test.YtkldpkemnmmbgaaAS1
namespace Go.Proofs.Ytkldpkemnmmbgaa
open Go AM Go.RowKit
set_option linter.unusedVariables false
set_option linter.unusedSimpArgs false

structure Al where
  seek : Int
  hold : Int
  norm : Int
  emer : Int
  few : Int
  fewer : Int
  most : Int
  ph : Int
  left : Int
  own : Bool
  urg : Bool
  prov : Int
  elv : Int
  elim : Int
def Al.cells (A : Al) (ev : V) : List V := [.i .i64 A.seek, .i .i64 A.hold, .i .i64 A.norm, .i .i64 A.emer, .i .i64 A.few, .i .i64 A.fewer, .i .i64 A.most, .i .u8 A.ph, .i .i64 A.left, .b A.own, .b A.urg, .i .i64 A.prov, ev]
structure Al.TOk (A : Al) : Prop where
  seek : 1 ≤ A.seek ∧ A.seek ≤ 1048576
  hold : 1 ≤ A.hold ∧ A.hold ≤ 1048576
  norm : 1 ≤ A.norm ∧ A.norm ≤ 1048576
  emer : 1 ≤ A.emer ∧ A.emer ≤ 1048576
  few : 1 ≤ A.few ∧ A.few ≤ 1048576
  fewer : 1 ≤ A.fewer ∧ A.fewer ≤ 1048576
  most : 1 ≤ A.most ∧ A.most ≤ 1048576
  left : 0 ≤ A.left ∧ A.left ≤ 1048576
  prov : 0 ≤ A.prov ∧ A.prov ≤ 1000000000
structure Al.Ok (A : Al) : Prop extends A.TOk where
  ph : 0 ≤ A.ph ∧ A.ph ≤ 5
  er : A.ph = 3 → 0 ≤ A.elv ∧ A.elv < A.elim ∧ A.elim = if A.urg then A.fewer else A.few
/-- an alignment lies at x; what F names is foreign to it -/
structure AlS (X : Heap) (F : Nat → Prop) (x : Nat) (A : Al) : Prop where
  wf : X.Wf
  fin : ∀ i, F i → i < X.next
  nx : ¬ F x
  obj : ∃ ev, X.get x = some (.cells (A.cells ev) 58 false) ∧ ev.one = true ∧ (A.ph = 3 → ∃ e, ev = .ifc 73 (.p (some (e, 0))) ∧ e ≠ x ∧ ¬ F e ∧ X.get e = some (.cells [.i .i64 A.elv, .i .i64 A.elim] 77 false))
def Keep (F : Nat → Prop) (X X' : Heap) : Prop := ∀ i, F i → X'.get i = X.get i
theorem Keep.refl (F : Nat → Prop) (X : Heap) : Keep F X X := fun _ _ => rfl
theorem Keep.trans {F : Nat → Prop} {X Y Z : Heap} (h : Keep F X Y) (h' : Keep F Y Z) : Keep F X Z := fun i hi => (h' i hi).trans (h i hi)

def Al.enter (A : Al) (p : Int) : Al :=
  if p = 1 then { A with ph := 1, left := A.seek }
  else if p = 2 then { A with ph := 2, left := A.hold }
  else if p = 3 then { A with ph := 3, prov := A.prov + 1, left := if A.urg then A.emer else A.norm, elv := 0, elim := if A.urg then A.fewer else A.few }
  else { A with ph := p, left := 0 }
section
variable {X : Heap} {F : Nat → Prop} {x : Nat} {A : Al}
theorem okA_of {n : Int} (h : 1 ≤ n ∧ n ≤ 1048576) : okA n = true := by unfold okA; simp; omega
/-- a cell that is not the errors' is written -/
theorem AlS.set (h : AlS X F x A) {B : Al} (k : Nat) (v : V) (hv : v.one = true) (hk : ∀ ev, (A.cells ev).set k v = B.cells ev) (hk13 : k < 13) (hp : B.ph = 3 → A.ph = 3) (he : B.elv = A.elv ∧ B.elim = A.elim) :
    ∃ X', X.st x k v = some X' ∧ AlS X' F x B ∧ Keep F X X' := by
  obtain ⟨ev, g, h1, h2⟩ := h.obj
  refine ⟨X.put x (.cells (B.cells ev) 58 false), ?_, ⟨h.wf.put g _, fun i hi => h.fin i hi, h.nx, ev, Heap.gput _ _ _, h1, fun hb => ?_⟩, fun i hi => ?_⟩
  · rw [st_of g (by simpa [Al.cells] using hk13) hv, hk]
  · obtain ⟨e, a1, a2, a3, a4⟩ := h2 (hp hb)
    exact ⟨e, a1, a2, a3, by rw [Heap.get_put, if_neg a2, a4, he.1, he.2]⟩
  · rw [Heap.get_put, if_neg (by rintro rfl; exact h.nx hi)]
theorem AlS.ld (h : AlS X F x A) : X.ldI .i64 x 0 = some A.seek ∧ X.ldI .i64 x 1 = some A.hold ∧ X.ldI .i64 x 2 = some A.norm ∧ X.ldI .i64 x 3 = some A.emer ∧ X.ldI .i64 x 4 = some A.few ∧ X.ldI .i64 x 5 = some A.fewer ∧ X.ldI .i64 x 6 = some A.most ∧
    X.ldI .u8 x 7 = some A.ph ∧ X.ldI .i64 x 8 = some A.left ∧ X.ldB x 9 = some A.own ∧ X.ldB x 10 = some A.urg ∧ X.ldI .i64 x 11 = some A.prov := by
  obtain ⟨ev, g, _⟩ := h.obj
  exact ⟨ldI_of g rfl, ldI_of g rfl, ldI_of g rfl, ldI_of g rfl, ldI_of g rfl, ldI_of g rfl, ldI_of g rfl, ldI_of g rfl, ldI_of g rfl, ldB_of g rfl, ldB_of g rfl, ldI_of g rfl⟩
theorem a_enter (h : AlS X F x A) (ht : A.TOk) (p : Int) : ∃ X', (∀ (R : Type) (K : Heap → Option R), g29 R (some (x, 0)) p X K = K X') ∧ AlS X' F x (A.enter p) ∧ Keep F X X' := by
  obtain ⟨ev, g, h1, h2⟩ := h.obj
  -- the phase is written while the errors' counter, if any, stays
  have e7 : X.st x 7 (.i .u8 p) = some (X.put x (.cells ({ A with ph := p }.cells ev) 58 false)) := by rw [st_of g (by simp [Al.cells]) rfl]; rfl
  have e8 : (X.put x (.cells ({ A with ph := p }.cells ev) 58 false)).st x 8 (.i .i64 0) = some (X.put x (.cells ({ A with ph := p, left := 0 }.cells ev) 58 false)) := by
    rw [st_of (Heap.gput _ _ _) (by simp [Al.cells]) rfl, Heap.put_put]; rfl
  have key : ∀ B : Al, ¬ B.ph = 3 → AlS (X.put x (.cells (B.cells ev) 58 false)) F x B ∧ Keep F X (X.put x (.cells (B.cells ev) 58 false)) := fun B hB =>
    ⟨⟨h.wf.put g _, fun i hi => h.fin i hi, h.nx, ev, Heap.gput _ _ _, h1, fun e => absurd e hB⟩, fun i hi => by rw [Heap.get_put, if_neg (by rintro rfl; exact h.nx hi)]⟩
  by_cases p1 : p = 1
  · subst p1
    have hL : (X.put x (.cells ({ A with ph := 1, left := 0 }.cells ev) 58 false)).ldI .i64 x 0 = some A.seek := ldI_of (Heap.gput _ _ _) rfl
    have e8' : (X.put x (.cells ({ A with ph := 1, left := 0 }.cells ev) 58 false)).st x 8 (.i .i64 A.seek) = some (X.put x (.cells ({ A with ph := 1, left := A.seek }.cells ev) 58 false)) := by
      rw [st_of (Heap.gput _ _ _) (by simp [Al.cells]) rfl, Heap.put_put]; rfl
    refine ⟨X.put x (.cells ((A.enter 1).cells ev) 58 false), fun R K => ?_, key _ (by simp [Al.enter])⟩
    simp only [g29, g29_r, g29_p0, Option.bind_some, Nat.zero_add, e7, e8, beq_self_eq_true, sel_true, hL, e8']
    simp [Al.enter]
  by_cases p2 : p = 2
  · subst p2
    have hL : (X.put x (.cells ({ A with ph := 2, left := 0 }.cells ev) 58 false)).ldI .i64 x 1 = some A.hold := ldI_of (Heap.gput _ _ _) rfl
    have e8' : (X.put x (.cells ({ A with ph := 2, left := 0 }.cells ev) 58 false)).st x 8 (.i .i64 A.hold) = some (X.put x (.cells ({ A with ph := 2, left := A.hold }.cells ev) 58 false)) := by
      rw [st_of (Heap.gput _ _ _) (by simp [Al.cells]) rfl, Heap.put_put]; rfl
    refine ⟨X.put x (.cells ((A.enter 2).cells ev) 58 false), fun R K => ?_, key _ (by simp [Al.enter])⟩
    simp only [g29, g29_r, g29_p0, Option.bind_some, Nat.zero_add, e7, e8, show ((2 : Int) == 1) = false from rfl, beq_self_eq_true, sel_true, sel_false, hL, e8']
    simp [Al.enter]
  by_cases p3 : p = 3
  · subst p3
    have L11 : (X.put x (.cells ({ A with ph := 3, left := 0 }.cells ev) 58 false)).ldI .i64 x 11 = some A.prov := ldI_of (Heap.gput _ _ _) rfl
    have S11 : (X.put x (.cells ({ A with ph := 3, left := 0 }.cells ev) 58 false)).st x 11 (.i .i64 (A.prov + 1)) = some (X.put x (.cells ({ A with ph := 3, left := 0, prov := A.prov + 1 }.cells ev) 58 false)) := by
      rw [st_of (Heap.gput _ _ _) (by simp [Al.cells]) rfl, Heap.put_put]; rfl
    have La : ∀ B : Al, (X.put x (.cells (B.cells ev) 58 false)).ldI .i64 x 4 = some B.few := fun B => ldI_of (Heap.gput _ _ _) rfl
    have Lb : ∀ B : Al, (X.put x (.cells (B.cells ev) 58 false)).ldI .i64 x 2 = some B.norm := fun B => ldI_of (Heap.gput _ _ _) rfl
    have Lc : ∀ B : Al, (X.put x (.cells (B.cells ev) 58 false)).ldI .i64 x 3 = some B.emer := fun B => ldI_of (Heap.gput _ _ _) rfl
    have Ld : ∀ B : Al, (X.put x (.cells (B.cells ev) 58 false)).ldI .i64 x 5 = some B.fewer := fun B => ldI_of (Heap.gput _ _ _) rfl
    have Le : ∀ B : Al, (X.put x (.cells (B.cells ev) 58 false)).ldB x 10 = some B.urg := fun B => ldB_of (Heap.gput _ _ _) rfl
    have S8 : ∀ (B : Al) (n : Int), (X.put x (.cells (B.cells ev) 58 false)).st x 8 (.i .i64 n) = some (X.put x (.cells ({ B with left := n }.cells ev) 58 false)) := fun B n => by
      rw [st_of (Heap.gput _ _ _) (by simp [Al.cells]) rfl, Heap.put_put]; rfl
    -- the new counter
    have fin : ∀ (B : Al) (n : Int), B.elv = 0 → B.elim = n → okA n = true → ∃ X', (∀ (R : Type) (K : Heap → Option R), (g38 R n (X.put x (.cells (B.cells ev) 58 false)) fun x38 x39 h40 => if V.one x38 = true then stT Try.prog h40 56 x 12 x38 fun h42 => K h42 else none) = K X') ∧ AlS X' F x B ∧ Keep F X X' := by
      intro B n hb1 hb2 hn
      have hw1 : (X.put x (.cells (B.cells ev) 58 false)).Wf := h.wf.put g _
      have hxl := h.wf _ _ g
      have gx : (X.put x (.cells (B.cells ev) 58 false)).get x = some (.cells (B.cells ev) 58 false) := Heap.gput _ _ _
      have hn1 : (X.put x (.cells (B.cells ev) 58 false)).next = X.next := rfl
      have hk1 : Keep F X (X.put x (.cells (B.cells ev) 58 false)) := fun i hi => by rw [Heap.get_put, if_neg (by rintro rfl; exact h.nx hi)]
      generalize X.put x (.cells (B.cells ev) 58 false) = Y at *
      have gx2 : ((Y.new (.cells [.i .i64 n] 3 false)).new (.cells [.i .i64 0, .i .i64 n] 77 false)).get x = some (.cells (B.cells ev) 58 false) := by
        rw [Heap.get_new, if_neg (by simp; omega), Heap.get_new, if_neg (by omega)]; exact gx
      refine ⟨((Y.new (.cells [.i .i64 n] 3 false)).new (.cells [.i .i64 0, .i .i64 n] 77 false)).put x (.cells (B.cells (.ifc 73 (.p (some (Y.next + 1, 0))))) 58 false), fun R K => ?_, ⟨((hw1.new _).new _).put gx2 _, fun i hi => ?_, h.nx, _, Heap.gput _ _ _, rfl, fun _ => ⟨Y.next + 1, rfl, by omega, fun hf => ?_, ?_⟩⟩, fun i hi => ?_⟩
      · rw [s38 _ hn]
        simp only [V.one, if_true]
        rw [stT56, st_of gx2 (by simp [Al.cells]) rfl]
        rfl
      · have := h.fin i hi; simp; omega
      · have := h.fin _ hf; omega
      · rw [Heap.get_put, if_neg (by omega), hb1, hb2]; simp
      · have := h.fin i hi
        rw [Heap.get_put, if_neg (by rintro rfl; exact h.nx hi), Heap.get_new, if_neg (by simp; omega), Heap.get_new, if_neg (by omega)]
        exact hk1 i hi
    have hw : IntKind.wrap .i64 (A.prov + 1) = A.prov + 1 := w64 (by have := ht.prov; omega)
    rcases (by cases A.urg <;> simp : A.urg = true ∨ A.urg = false) with hu | hu
    · obtain ⟨X', f1, f2, f3⟩ := fin (A.enter 3) A.fewer (by simp [Al.enter]) (by simp [Al.enter, hu]) (okA_of ht.fewer)
      refine ⟨X', fun R K => ?_, f2, f3⟩
      rw [← f1 R K]
      simp only [g29, g29_r, g29_p0, Option.bind_some, Nat.zero_add, e7, e8, show ((3 : Int) == 1) = false from rfl, show ((3 : Int) == 2) = false from rfl, beq_self_eq_true, sel_true, sel_false, L11, hw, S11, La, Lb, Lc, Ld, Le, S8]
      simp [Al.enter, hu]
      rfl
    · obtain ⟨X', f1, f2, f3⟩ := fin (A.enter 3) A.few (by simp [Al.enter]) (by simp [Al.enter, hu]) (okA_of ht.few)
      refine ⟨X', fun R K => ?_, f2, f3⟩
      rw [← f1 R K]
      simp only [g29, g29_r, g29_p0, Option.bind_some, Nat.zero_add, e7, e8, show ((3 : Int) == 1) = false from rfl, show ((3 : Int) == 2) = false from rfl, beq_self_eq_true, sel_true, sel_false, L11, hw, S11, La, Lb, Lc, Ld, Le, S8]
      simp [Al.enter, hu]
      rfl
  · have b1 : (p == 1) = false := by simp [p1]
    have b2 : (p == 2) = false := by simp [p2]
    have b3 : (p == 3) = false := by simp [p3]
    have he : A.enter p = { A with ph := p, left := 0 } := by simp [Al.enter, p1, p2, p3]
    refine ⟨X.put x (.cells ((A.enter p).cells ev) 58 false), fun R K => ?_, key _ (by rw [he]; exact p3)⟩
    simp only [g29, g29_r, g29_p0, Option.bind_some, Nat.zero_add, e7, e8, b1, b2, b3, sel_false, he]

theorem enter_ok {A : Al} (ht : A.TOk) (hp : A.prov ≤ 999999999) (p : Int) (h0 : 0 ≤ p ∧ p ≤ 5) : (A.enter p).Ok := by
  obtain ⟨h1, h2, h3, h4, h5, h6, h7, h8, h9⟩ := ht
  unfold Al.enter
  split
  · exact ⟨⟨h1, h2, h3, h4, h5, h6, h7, by dsimp only; omega, h9⟩, by dsimp only; omega, fun e => by dsimp only at e; omega⟩
  · split
    · exact ⟨⟨h1, h2, h3, h4, h5, h6, h7, by dsimp only; omega, h9⟩, by dsimp only; omega, fun e => by dsimp only at e; omega⟩
    · split
      · refine ⟨⟨h1, h2, h3, h4, h5, h6, h7, ?_, by dsimp only; omega⟩, by dsimp only; omega, fun _ => ⟨Int.le_refl _, ?_, rfl⟩⟩
        · dsimp only; split <;> omega
        · dsimp only; split <;> omega
      · exact ⟨⟨h1, h2, h3, h4, h5, h6, h7, by dsimp only; omega, h9⟩, h0, fun e => by dsimp only at e; omega⟩
theorem a_none (h : AlS X F x A) (ht : A.TOk) {R : Type} (K : Bool → Heap → Option R) : g28 R (some (x, 0)) X K = K false X := by
  obtain ⟨l0, l1, l2, l3, l4, l5, l6, _⟩ := h.ld
  have : (A.seek == 0) = false := by have := ht.seek; simp; omega
  simp only [g28, g28_r, g28_p0, Option.isNone_some, sel_false, Option.bind_some, Nat.zero_add, l0, l1, l2, l3, l4, l5, l6, this, Bool.false_and]
def Al.start (A : Al) (b : Bool) : Al × Int := if A.ph ≠ 0 ∧ A.ph ≠ 5 then (A, 6) else ({ A with own := b, urg := b, prov := 0 }.enter 1, 0)
theorem a_start (h : AlS X F x A) (ht : A.Ok) (b : Bool) : ∃ X', (∀ (R : Type) (K : Int → Heap → Option R), g11 R (some (x, 0)) b X K = K (A.start b).2 X') ∧ AlS X' F x (A.start b).1 ∧ Keep F X X' ∧ (A.start b).1.Ok := by
  have hn := fun (R : Type) K => a_none h ht.toTOk (R := R) K
  obtain ⟨_, _, _, _, _, _, _, l7, _⟩ := h.ld
  by_cases h0 : A.ph ≠ 0 ∧ A.ph ≠ 5
  · refine ⟨X, fun R K => ?_, by simpa [Al.start, h0] using h, Keep.refl _ _, by simpa [Al.start, h0] using ht⟩
    have b0 : (A.ph != 0) = true := by simp [h0.1]
    have b5 : (A.ph != 5) = true := by simp [h0.2]
    simp only [g11, g11_r, g11_p0, hn, sel_false, Option.bind_some, Nat.zero_add, l7, b0, b5, sel_true]
    simp [Al.start, h0]
  · have hph : ¬ A.ph = 3 := by omega
    obtain ⟨X1, s1, t1, k1⟩ := h.set (B := { A with own := b }) 9 (.b b) rfl (fun ev => rfl) (by omega) (fun e => absurd e hph) ⟨rfl, rfl⟩
    obtain ⟨X2, s2, t2, k2⟩ := t1.set (B := { A with own := b, urg := b }) 10 (.b b) rfl (fun ev => rfl) (by omega) (fun e => absurd e hph) ⟨rfl, rfl⟩
    obtain ⟨X3, s3, t3, k3⟩ := t2.set (B := { A with own := b, urg := b, prov := 0 }) 11 (.i .i64 0) rfl (fun ev => rfl) (by omega) (fun e => absurd e hph) ⟨rfl, rfl⟩
    have htk : ({ A with own := b, urg := b, prov := 0 } : Al).TOk := ⟨ht.seek, ht.hold, ht.norm, ht.emer, ht.few, ht.fewer, ht.most, ht.left, by dsimp only; omega⟩
    obtain ⟨X4, s4, t4, k4⟩ := a_enter t3 htk 1
    refine ⟨X4, fun R K => ?_, by simpa [Al.start, h0] using t4, (k1.trans k2).trans (k3.trans k4), by simpa [Al.start, h0] using enter_ok htk (by dsimp only; omega) 1 (by omega)⟩
    simp only [g11, g11_r, g11_p0, hn, sel_false, Option.bind_some, Nat.zero_add, l7, s1, s2, s3, s4]
    by_cases c0 : A.ph = 0
    · have b0 : (A.ph != 0) = false := by simp [c0]
      simp [b0, Al.start, h0]
    · have c5 : A.ph = 5 := by omega
      have b0 : (A.ph != 0) = true := by simp [c0]
      have b5 : (A.ph != 5) = false := by simp [c5]
      simp [b0, b5, Al.start, h0]
theorem a_stop (h : AlS X F x A) (ht : A.Ok) (hp : A.prov ≤ 999999999) : ∃ X', (∀ (R : Type) (K : Int → Heap → Option R), g24 R (some (x, 0)) X K = K 0 X') ∧ AlS X' F x (A.enter 0) ∧ Keep F X X' ∧ (A.enter 0).Ok := by
  have hn := fun (R : Type) K => a_none h ht.toTOk (R := R) K
  obtain ⟨X4, s4, t4, k4⟩ := a_enter h ht.toTOk 0
  exact ⟨X4, fun R K => by simp only [g24, g24_r, g24_p0, hn, sel_false, s4], t4, k4, enter_ok ht.toTOk hp 0 (by omega)⟩
def Al.tick (A : Al) : Al := if A.left = 0 then A else if A.left - 1 > 0 then { A with left := A.left - 1 } else { A with left := A.left - 1 }.enter (if A.ph = 3 then 4 else 5)
theorem a_tick (h : AlS X F x A) (ht : A.Ok) (hp : A.prov ≤ 999999999) : ∃ X', (∀ (R : Type) (K : Int → Heap → Option R), g12 R (some (x, 0)) X K = K 0 X') ∧ AlS X' F x A.tick ∧ Keep F X X' ∧ A.tick.Ok := by
  have hn := fun (R : Type) K => a_none h ht.toTOk (R := R) K
  obtain ⟨_, _, _, _, _, _, _, l7, l8, _⟩ := h.ld
  have hl := ht.left
  by_cases h0 : A.left = 0
  · refine ⟨X, fun R K => ?_, by simpa [Al.tick, h0] using h, Keep.refl _ _, by simpa [Al.tick, h0] using ht⟩
    simp only [g12, g12_r, g12_p0, hn, sel_false, Option.bind_some, Nat.zero_add, l8, h0, beq_self_eq_true, sel_true]
  · have b0 : (A.left == 0) = false := by simp [h0]
    obtain ⟨X1, s1, t1, k1⟩ := h.set (B := { A with left := A.left - 1 }) 8 (.i .i64 (A.left - 1)) rfl (fun ev => rfl) (by omega) (fun e => e) ⟨rfl, rfl⟩
    have htk : ({ A with left := A.left - 1 } : Al).TOk := ⟨ht.seek, ht.hold, ht.norm, ht.emer, ht.few, ht.fewer, ht.most, by dsimp only; omega, ht.prov⟩
    obtain ⟨_, _, _, _, _, _, _, m7, m8, _⟩ := t1.ld
    dsimp only at m7 m8
    have hw : IntKind.wrap .i64 (A.left - 1) = A.left - 1 := w64 (by omega)
    by_cases h1 : A.left - 1 > 0
    · have et : A.tick = { A with left := A.left - 1 } := by unfold Al.tick; rw [if_neg h0, if_pos h1]
      refine ⟨X1, fun R K => ?_, by rw [et]; exact t1, k1, by rw [et]; exact ⟨htk, ht.ph, ht.er⟩⟩
      have b1 : decide (A.left - 1 > 0) = true := by simpa using h1
      simp only [g12, g12_r, g12_p0, hn, sel_false, Option.bind_some, Nat.zero_add, l8, b0, hw, s1, m8, b1, sel_true]
    · have b1 : decide (A.left - 1 > 0) = false := by simpa using h1
      have et : A.tick = { A with left := A.left - 1 }.enter (if A.ph = 3 then 4 else 5) := by unfold Al.tick; rw [if_neg h0, if_neg h1]
      obtain ⟨X2, s2, t2, k2⟩ := a_enter t1 htk (if A.ph = 3 then 4 else 5)
      refine ⟨X2, fun R K => ?_, by rw [et]; exact t2, k1.trans k2, by rw [et]; exact enter_ok htk hp (if A.ph = 3 then 4 else 5) (by split <;> omega)⟩
      simp only [g12, g12_r, g12_p0, hn, sel_false, Option.bind_some, Nat.zero_add, l8, b0, hw, s1, m8, b1, m7]
      by_cases c3 : A.ph = 3
      · have := s2 R; rw [if_pos c3] at this; simp [c3, this]
      · have := s2 R; rw [if_neg c3] at this
        have b3 : (A.ph == 3) = false := by simp [c3]
        simp [b3, this]
end
end Go.Proofs.Ytkldpkemnmmbgaa

