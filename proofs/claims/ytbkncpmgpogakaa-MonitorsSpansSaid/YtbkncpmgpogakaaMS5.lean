/- Monitors behind an interface; the law's maker, levels, and First. -/
import Derived.Test.YtbkncpmgpogakaaMS3
namespace Go.Proofs.Ytbkncpmgpogakaa
open Go AM Go.RowKit
set_option linter.unusedVariables false
set_option linter.unusedSimpArgs false

theorem mv54c (id : Nat) : methodV Try.prog 54 (.p (some (id, 0))) "Count" = some (44, .p (some (id, 0))) := by kernel_rfl
theorem mv49c (id : Nat) : methodV Try.prog 49 (.p (some (id, 0))) "Count" = some (38, .p (some (id, 0))) := by kernel_rfl
theorem mv57c (id : Nat) : methodV Try.prog 57 (.p (some (id, 0))) "Count" = some (46, .p (some (id, 0))) := by kernel_rfl
theorem mv54o (id : Nat) : methodV Try.prog 54 (.p (some (id, 0))) "Over" = some (40, .p (some (id, 0))) := by kernel_rfl
theorem mv49o (id : Nat) : methodV Try.prog 49 (.p (some (id, 0))) "Over" = some (40, .p (some (id, 0))) := by kernel_rfl
theorem mv57o (id : Nat) : methodV Try.prog 57 (.p (some (id, 0))) "Over" = some (40, .p (some (id, 0))) := by kernel_rfl
theorem mv54l (id : Nat) : methodV Try.prog 54 (.p (some (id, 0))) "Level" = some (39, .p (some (id, 0))) := by kernel_rfl
theorem mv49l (id : Nat) : methodV Try.prog 49 (.p (some (id, 0))) "Level" = some (39, .p (some (id, 0))) := by kernel_rfl
theorem mv57l (id : Nat) : methodV Try.prog 57 (.p (some (id, 0))) "Level" = some (39, .p (some (id, 0))) := by kernel_rfl
theorem mv54r (id : Nat) : methodV Try.prog 54 (.p (some (id, 0))) "Reset" = some (45, .p (some (id, 0))) := by kernel_rfl
theorem mv49r (id : Nat) : methodV Try.prog 49 (.p (some (id, 0))) "Reset" = some (41, .p (some (id, 0))) := by kernel_rfl
theorem mv57r (id : Nat) : methodV Try.prog 57 (.p (some (id, 0))) "Reset" = some (47, .p (some (id, 0))) := by kernel_rfl

theorem obj0 (lv lim sz up dn un : Int) (wr b : Bool) : (Ms.count ⟨0, lv, lim, sz, up, dn, un, wr⟩ b).obj = .cells (Ms.count ⟨0, lv, lim, sz, 0, 0, un, false⟩ b).cells 56 false := by
  by_cases h1 : lv = lim
  · simp [Ms.count, h1, Ms.obj, Ms.cells, Ms.ty]
  · by_cases h2 : un + 1 = sz
    · simp [Ms.count, h1, h2, Ms.obj, Ms.cells, Ms.ty]
    · simp [Ms.count, h1, h2, Ms.obj, Ms.cells, Ms.ty]
theorem obj1 (lv lim sz up dn un : Int) (wr b : Bool) : (Ms.count ⟨1, lv, lim, sz, up, dn, un, wr⟩ b).obj = .cells (Ms.count ⟨1, lv, lim, 0, 0, 0, 0, false⟩ b).cells 53 false := by
  cases b <;> simp [Ms.count, Ms.obj, Ms.cells, Ms.ty]
theorem obj2 (lv lim sz up dn un : Int) (wr b : Bool) : (Ms.count ⟨2, lv, lim, sz, up, dn, un, wr⟩ b).obj = .cells (Ms.count ⟨2, lv, lim, sz, up, dn, un, wr⟩ b).cells 59 false := by
  by_cases h1 : lv = lim
  · simp [Ms.count, h1, Ms.obj, Ms.cells, Ms.ty]
  · by_cases h2 : un + 1 < sz
    · simp [Ms.count, h1, h2, Ms.obj, Ms.cells, Ms.ty]
    · simp [Ms.count, h1, h2, Ms.obj, Ms.cells, Ms.ty]
/-- E calls the function of this number so -/
def Calls1 (E : FEnv) (n : Nat) (F : Fun) : Prop := ∀ (R : Type) (args : List V) (H : Heap) (K : V → Heap → Option R), E.call n args H K = F R args H K
section
variable {R : Type} {H : Heap} {id : Nat} {E : FEnv} {x : Ms}
theorem m_count (h38 : Calls1 E 38 (w38 g38)) (h44 : Calls1 E 44 (w44 g44)) (h46 : Calls1 E 46 (w46 g46)) (hx : x.Ok) (h : H.get id = some x.obj) (b : Bool) (K : V → Heap → Option R) :
    invk Try.prog E (x.val id) "Count" [.b b] H K = K (.tup []) (H.put id (x.count b).obj) := by
  obtain ⟨hk, h1, h2, h3, h4, h5, h6⟩ := hx
  obtain ⟨k, lv, lim, sz, up, dn, un, wr⟩ := x
  dsimp only at *
  have e : (Ms.count ⟨k, lv, lim, sz, up, dn, un, wr⟩ b).kind = k := (Ms.count_like _ b).kind
  match k, hk with
  | 0, _ =>
    simp only [Ms.obj, Ms.cells, Ms.ty] at h
    simp only [Ms.val, invk, mv54c, h44 R, w44]
    rw [s44 h b (by omega) (by omega), obj0]
  | 1, _ =>
    simp only [Ms.obj, Ms.cells, Ms.ty] at h
    simp only [Ms.val, invk, mv49c, h38 R, w38]
    rw [s38 h b (by omega), obj1]
  | 2, _ =>
    simp only [Ms.obj, Ms.cells, Ms.ty] at h
    simp only [Ms.val, invk, mv57c, h46 R, w46]
    rw [s46 h b (by omega) (by omega) (by omega) (by omega), obj2]
theorem m_over (h40 : Calls1 E 40 (w40 g40)) (hk : x.kind < 3) (h : H.get id = some x.obj) (K : V → Heap → Option R) :
    invk Try.prog E (x.val id) "Over" [] H K = K (.b (x.lv == x.lim)) H := by
  obtain ⟨k, lv, lim, sz, up, dn, un, wr⟩ := x
  dsimp only at *
  match k, hk with
  | 0, _ => simp only [Ms.obj, Ms.cells, Ms.ty] at h; simp only [Ms.val, invk, mv54o, h40 R, w40]; rw [s40 h]
  | 1, _ => simp only [Ms.obj, Ms.cells, Ms.ty] at h; simp only [Ms.val, invk, mv49o, h40 R, w40]; rw [s40 h]
  | 2, _ => simp only [Ms.obj, Ms.cells, Ms.ty] at h; simp only [Ms.val, invk, mv57o, h40 R, w40]; rw [s40 h]
theorem m_level (h39 : Calls1 E 39 (w39 g39)) (hk : x.kind < 3) (h : H.get id = some x.obj) (K : V → Heap → Option R) :
    invk Try.prog E (x.val id) "Level" [] H K = K (.i .i64 x.lv) H := by
  obtain ⟨k, lv, lim, sz, up, dn, un, wr⟩ := x
  dsimp only at *
  match k, hk with
  | 0, _ => simp only [Ms.obj, Ms.cells, Ms.ty] at h; simp only [Ms.val, invk, mv54l, h39 R, w39]; rw [s39 h]
  | 1, _ => simp only [Ms.obj, Ms.cells, Ms.ty] at h; simp only [Ms.val, invk, mv49l, h39 R, w39]; rw [s39 h]
  | 2, _ => simp only [Ms.obj, Ms.cells, Ms.ty] at h; simp only [Ms.val, invk, mv57l, h39 R, w39]; rw [s39 h]
theorem m_reset (h45 : Calls1 E 45 (w45 g45)) (h41 : Calls1 E 41 (w41 g41)) (h47 : Calls1 E 47 (w47 g47)) (hk : x.kind < 3) (h : H.get id = some x.obj) (K : V → Heap → Option R) :
    invk Try.prog E (x.val id) "Reset" [] H K = K (.tup []) (H.put id x.reset.obj) := by
  obtain ⟨k, lv, lim, sz, up, dn, un, wr⟩ := x
  dsimp only at *
  match k, hk with
  | 0, _ => simp only [Ms.obj, Ms.cells, Ms.ty] at h; simp only [Ms.val, invk, mv54r, h45 R, w45]; rw [s45 h]; rfl
  | 1, _ => simp only [Ms.obj, Ms.cells, Ms.ty] at h; simp only [Ms.val, invk, mv49r, h41 R, w41]; rw [s41 h]; rfl
  | 2, _ => simp only [Ms.obj, Ms.cells, Ms.ty] at h; simp only [Ms.val, invk, mv57r, h47 R, w47]; rw [s47 h]; rfl
theorem exR0 (K : V → Option R) : exR Try.prog 0 (.tup []) K = K (.tup []) := by kernel_rfl
theorem val_ifNil (x : Ms) (id : Nat) : ifNil (x.val id) = some false := by unfold Ms.val; split <;> rfl
theorem val_one (x : Ms) (id : Nat) : (x.val id).one = true := by unfold Ms.val; split <;> rfl
theorem Ms.Like.val {x y : Ms} (h : x.Like y) (id : Nat) : y.val id = x.val id := by unfold Ms.val; rw [h.kind]
end

/-- the law's monitor, made -/
theorem s10 {H : Heap} (hw : H.Wf) {a : Args} (ha : a.Ok) : ∃ id H', (∀ (R : Type) (K : V → Int → Heap → Option R), g10 R a.k a.l a.s a.u a.d H K = K (a.mon.val id) 0 H') ∧ H'.get id = some a.mon.obj ∧ H'.Wf ∧ Ext H H' ∧ H.next ≤ id := by
  have h1 := ha.l; have h2 := ha.s; have h3 := ha.u; have h4 := ha.d; have h0 := ha.k
  have ol : okA a.lim = true := by unfold okA Args.lim; simp; omega
  have os : okA a.sz = true := by unfold okA Args.sz; simp; omega
  have ou : okA a.up = true := by unfold okA Args.up; simp; omega
  have od : okA a.dn = true := by unfold okA Args.dn; simp; omega
  have g := Heap.gnew H (.cells a.cells 23 false)
  have L0 : (H.new (.cells a.cells 23 false)).ldI .u8 H.next 0 = some a.k := ldI_of g rfl
  have L1 : (H.new (.cells a.cells 23 false)).ldI .u8 H.next 1 = some a.l := ldI_of g rfl
  have L2 : (H.new (.cells a.cells 23 false)).ldI .u8 H.next 2 = some a.s := ldI_of g rfl
  have L3 : (H.new (.cells a.cells 23 false)).ldI .u8 H.next 3 = some a.u := ldI_of g rfl
  have L4 : (H.new (.cells a.cells 23 false)).ldI .u8 H.next 4 = some a.d := ldI_of g rfl
  have hwn := hw.new (.cells a.cells 23 false)
  have hx := Ext.new H (.cells a.cells 23 false)
  have hg : ∀ (R : Type) (K : V → Int → Heap → Option R), g10 R a.k a.l a.s a.u a.d H K =
      if a.k % 3 = 0 then g16 R a.lim a.sz ((H.new (.cells a.cells 23 false)).new (.cells a.cells 23 false)) (fun x e H => if V.one x = true then K x e H else none)
      else if a.k % 3 = 1 then g15 R a.lim ((H.new (.cells a.cells 23 false)).new (.cells a.cells 23 false)) (fun x e H => if V.one x = true then K x e H else none)
      else g17 R a.lim a.sz a.up a.dn ((H.new (.cells a.cells 23 false)).new (.cells a.cells 23 false)) (fun x e H => if V.one x = true then K x e H else none) := by
    intro R K
    have g2 : ((H.new (.cells a.cells 23 false)).new (.cells a.cells 23 false)).ldI .u8 H.next 0 = some a.k := by
      refine ldI_of (vs := a.cells) (e := 23) (ro := false) ?_ rfl
      rw [Heap.get_new, if_neg (by simp)]; exact Heap.gnew _ _
    simp only [g10, g10_r, g10_p0, alo, Nat.zero_add]
    have e1 : (H.new (.cells [.i .u8 a.k, .i .u8 a.l, .i .u8 a.s, .i .u8 a.u, .i .u8 a.d] 23 false)) = H.new (.cells a.cells 23 false) := rfl
    simp only [e1, L0, L1, L2, L3, L4, Option.bind_some]
    rw [s12 ha]
    simp only [g2, Option.bind_some, tmodI h0.1]
    by_cases q0 : a.k % 3 = 0
    · simp [q0]
    · have : (a.k % 3 == 0) = false := by simp [q0]
      rw [this, sel_false, if_neg q0]
      by_cases q1 : a.k % 3 = 1
      · simp [q1]
      · have : (a.k % 3 == 1) = false := by simp [q1]
        rw [this, sel_false, if_neg q1]
  have hw2 := hwn.new (.cells a.cells 23 false)
  have hx2 := hx.trans (Ext.new (H.new (.cells a.cells 23 false)) (.cells a.cells 23 false))
  have hn2 : ((H.new (.cells a.cells 23 false)).new (.cells a.cells 23 false)).next = H.next + 2 := rfl
  generalize ((H.new (.cells a.cells 23 false)).new (.cells a.cells 23 false)) = G at *
  by_cases q0 : a.k % 3 = 0
  · refine ⟨G.next + 1, (G.new (.cells [.i .i64 a.lim, .i .i64 a.sz] 3 false)).new (.cells [.i .i64 0, .i .i64 a.lim, .i .i64 a.sz, .i .i64 0] 56 false), fun R K => ?_, ?_, (hw2.new _).new _, (hx2.trans (Ext.new _ _)).trans (Ext.new _ _), by omega⟩
    · rw [hg, if_pos q0, s16, ol, os]
      simp only [Bool.and_self, if_true, V.one, Args.mon, q0, Ms.val]
    · simp [Args.mon, q0, Ms.obj, Ms.cells, Ms.ty]
  · by_cases q1 : a.k % 3 = 1
    · refine ⟨G.next + 1, (G.new (.cells [.i .i64 a.lim] 3 false)).new (.cells [.i .i64 0, .i .i64 a.lim] 53 false), fun R K => ?_, ?_, (hw2.new _).new _, (hx2.trans (Ext.new _ _)).trans (Ext.new _ _), by omega⟩
      · rw [hg, if_neg q0, if_pos q1, s15, ol]
        simp only [if_true, V.one, Args.mon, q1, Ms.val]
        rw [if_neg (by decide)]
        rfl
      · simp [Args.mon, q1, Ms.obj, Ms.cells, Ms.ty]
    · refine ⟨G.next + 1, (G.new (.cells [.i .i64 a.lim, .i .i64 a.sz, .i .i64 a.up, .i .i64 a.dn] 3 false)).new (.cells [.i .i64 0, .i .i64 a.lim, .i .i64 a.sz, .i .i64 a.up, .i .i64 a.dn, .i .i64 0, .b false] 59 false), fun R K => ?_, ?_, (hw2.new _).new _, (hx2.trans (Ext.new _ _)).trans (Ext.new _ _), by omega⟩
      · rw [hg, if_neg q0, if_neg q1, s17, ol, os, ou, od]
        simp only [Bool.and_self, if_true, V.one, Args.mon, q0, q1, if_false, Ms.val]
      · simp [Args.mon, q0, q1, Ms.obj, Ms.cells, Ms.ty]
end Go.Proofs.Ytbkncpmgpogakaa
