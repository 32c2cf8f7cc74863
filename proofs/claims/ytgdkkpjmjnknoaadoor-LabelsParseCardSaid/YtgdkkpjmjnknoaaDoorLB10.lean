/- strings.Builder.Grow, strings.Join of three texts. -/
import Derived.Test.YtgdkkpjmjnknoaaDoorLB9
import Derived.Test.YtgdkkpjmjnknoaaDoorLBld2
namespace Go.Proofs.YtgdkkpjmjnknoaaDoor
open Go AM Go.RowKit
set_option linter.unusedVariables false
set_option linter.unusedSimpArgs false

theorem copy0 {R : Type} {H : Heap} {x y : Sl} (hy : y.len = 0) (K : V → Heap → Option R) : evBuiltin Tryd.prog H .copy [36, 36] [.sl x, .sl y] K = K (.i .i64 ((0 : Nat) : Int)) H := by
  have h1 : Tryd.prog.underlying 36 = some (.slice 5) := by kernel_rfl
  have h2 : (Tryd.prog.underlying 5).isNone = false := by kernel_rfl
  have h3 : Tryd.prog.cellsOf 5 = 1 := by kernel_rfl
  simp only [evBuiltin, h1, h2, Bool.false_eq_true, if_false, V.asSl, Option.bind_some, h3]
  have hm : min y.len x.len = 0 := by omega
  have hs : slCells H 1 ⟨y.a, min y.len x.len, y.cap⟩ = some [] := by rw [hm]; simp [slCells]
  rw [hs, Option.bind_some, hm]
  cases x.a with
  | none => rfl
  | some p => rfl
theorem sl_same (x : Sl) : V.same (.sl x) (.sl x) = true := same_sl x
theorem i_same (n : Int) : V.same (.i .i64 n) (.i .i64 n) = true := by simp [V.same, V.same1]
/-- Grow of an empty Builder -/
theorem grow_ok {H0 H : Heap} {b : Nat} (h : BOk H0 H b []) (hx : ∃ a, H.get b = some (.cells [.p a, .sl ⟨none, 0, .ex 0⟩] 82 false)) {n : Int} (hn : 0 ≤ n ∧ n ≤ 1000000) : ∃ H', (∀ (R : Type) (K : Heap → Option R), g39 R (some (b, 0)) n H K = K H') ∧ BOk H0 H' b [] := by
  obtain ⟨H1, x, e1, g1, o1, hb, hab, x1, w1⟩ := h.check
  -- the buffer is nil still
  have hx0 : x = ⟨none, 0, .ex 0⟩ := by
    obtain ⟨a, ha⟩ := hx
    obtain ⟨a', x', hg, hc, _⟩ := h.obj
    rw [ha] at hg
    simp only [Option.some.injEq, O.cells.injEq, List.cons.injEq, V.p.injEq, V.sl.injEq, and_true] at hg
    have e := e1 Heap some
    have hcases := hc
    rw [← hg.1] at hcases
    rcases hcases with rfl | rfl
    · simp only [g50, copyCk, ha, if_true, Option.some.injEq] at e
      rw [← e, Heap.gput] at g1
      simpa using g1.symm
    · simp only [g50, copyCk, ha, and_self, if_true, Option.some.injEq] at e
      rw [← e, ha] at g1
      simpa using g1.symm
  subst hx0
  have l1 : H1.ldSl b (0 + 1) = some ⟨none, 0, .ex 0⟩ := ldSl_of g1 rfl
  have d1 : decide (n < 0) = false := by simp; omega
  by_cases h0 : n = 0
  · subst h0
    refine ⟨H1, fun R K => ?_, ⟨⟨_, _, g1, .inr rfl, .nil, hb, hab⟩, h.new, x1, w1⟩⟩
    simp only [g39, g39_r, g39_p0, e1, d1, sel_false, Option.bind_some, l1]
    rw [capK_ex, show decide (IntKind.wrap .i64 (((0 : Nat) : Int) - ((0 : Nat) : Int)) < 0) = false from rfl, sel_false]
  · have hw2 : IntKind.wrap .i64 (((0 : Nat) : Int) - ((0 : Nat) : Int)) = 0 := rfl
    have d2 : decide ((0 : Int) < n) = true := by simp; omega
    have hw3 : IntKind.wrap .i64 (IntKind.wrap .i64 (2 * ((0 : Nat) : Int)) + n) = n := by
      rw [show IntKind.wrap .i64 (2 * ((0 : Nat) : Int)) = 0 from rfl, w64 (by omega)]; omega
    have g2 := Heap.gnew H1 (.cells [] 5 false)
    have x2 := Ext.new H1 (.cells [] 5 false)
    have w2 := w1.new (.cells [] 5 false)
    have g1' := x2.get w1 g1
    have hblt := w1 _ _ g1
    have l2 : (H1.new (.cells [] 5 false)).ldSl b (0 + 1) = some ⟨none, 0, .ex 0⟩ := ldSl_of g1' rfl
    have st : (H1.new (.cells [] 5 false)).st b (0 + 1) (.sl ⟨some (H1.next, 0), 0, .op 1⟩) = some ((H1.new (.cells [] 5 false)).put b (.cells [.p (some (b, 0)), .sl ⟨some (H1.next, 0), 0, .op 1⟩] 82 false)) := by rw [st_of g1' (by simp) rfl]; rfl
    have g61 : ∀ (R : Type) (K : Sl → Heap → Option R), g61 R n H1 K = K ⟨some (H1.next, 0), n.toNat, .op 1⟩ (H1.new (.cells [] 5 false)) := fun R K => if_pos (by omega)
    have hs : ∀ (R : Type) (K : Sl → Option R), slOf 1 ⟨some (H1.next, 0), n.toNat, .op 1⟩ none (some ((0 : Nat) : Int)) none K = K ⟨some (H1.next, 0), 0, .op 1⟩ := fun R K => by
      simp only [slOf, Option.getD_none, Option.getD_some, Option.isSome_none, Bool.false_and, Bool.false_eq_true, if_false, if_true]
      rw [if_pos (by omega)]
      rfl
    refine ⟨(H1.new (.cells [] 5 false)).put b (.cells [.p (some (b, 0)), .sl ⟨some (H1.next, 0), 0, .op 1⟩] 82 false), fun R K => ?_, ⟨⟨some (b, 0), ⟨some (H1.next, 0), 0, .op 1⟩, Heap.gput _ _ _, .inr rfl, ?_, fun off e => ?_, fun id off e => ?_⟩, h.new, (x1.trans x2).above h.new _, w2.put g1' _⟩⟩
    rotate_left
    · refine Own.op H1.next 0 [] ?_ rfl rfl
      rw [Heap.get_put, if_neg (by omega)]; exact g2
    · cases e; omega
    · cases e; exact x1.next
    · simp only [g39, g39_r, g39_p0, e1, d1, sel_false, Option.bind_some, l1]
      rw [capK_ex]
      simp only [hw2, d2, sel_true, g51, g51_r, g51_p0, Option.bind_some, l1]
      rw [capK_ex]
      rw [hw3, g61]
      simp only [l2, l1, Option.bind_some]
      rw [if_pos (sl_same _), if_pos (i_same _), hs, copy0 rfl, st]
      rfl
theorem str1_eq : str1 = bsU (u8s [45]) := rfl
/-- three texts with dashes between -/
theorem join3 {H : Heap} (hw : H.Wf) {id : Nat} {x y z : List Int} (hg : H.get id = some (.cells [.s (bsU (u8s x)), .s (bsU (u8s y)), .s (bsU (u8s z))] 9 false)) (hx : Byt x) (hy : Byt y) (hz : Byt z) (lx : x.length ≤ 1000) (ly : y.length ≤ 1000) (lz : z.length ≤ 1000) (c : Cap) (hc : c = .op 1) :
    ∃ H', (∀ (R : Type) (K : ByteArray → Heap → Option R), g30 R ⟨some (id, 0), 3, c⟩ str1 H K = K (bsU (u8s (x ++ [45] ++ y ++ [45] ++ z))) H') ∧ Ext H H' ∧ H'.Wf := by
  subst hc
  have l0 : H.ldS id 0 = some (bsU (u8s x)) := ldS_of hg rfl
  have l1 : H.ldS id 1 = some (bsU (u8s y)) := ldS_of hg rfl
  have l2 : H.ldS id 2 = some (bsU (u8s z)) := ldS_of hg rfl
  have zx : (bsU (u8s x)).size = x.length := by simp [u8s]
  have zy : (bsU (u8s y)).size = y.length := by simp [u8s]
  have zz : (bsU (u8s z)).size = z.length := by simp [u8s]
  -- the sizes are added up
  have step : ∀ (n : Nat) (v : ByteArray) (t : Nat), n < 3 → H.ldS id n = some v → t ≤ 10000 → v.size ≤ 1000 → g30_p2_b g39 g40 g41 (⟨some (id, 0), 3, .op 1⟩, str1, (t : Int), ⟨some (id, 0), 3, .op 1⟩, 3, (n : Int)) H = some (.go (⟨some (id, 0), 3, .op 1⟩, str1, ((t + v.size : Nat) : Int), ⟨some (id, 0), 3, .op 1⟩, 3, ((n + 1 : Nat) : Int)), H) := by
    intro n v t hn hv ht hvs
    have e1 : IntKind.wrap .i64 (9223372036854775807 - (t : Int)) = 9223372036854775807 - (t : Int) := w64 (by omega)
    have e2 : IntKind.wrap .i64 ((t : Int) + ((v.size : Nat) : Int)) = ((t + v.size : Nat) : Int) := by rw [w64 (by omega)]; omega
    have e3 : IntKind.wrap .i64 ((n : Int) + 1) = ((n + 1 : Nat) : Int) := by rw [w64 (by omega)]; rfl
    simp only [g30_p2_b, g30_p1]
    rw [decide_eq_true (show (n : Int) < 3 by omega), sel_true, if_pos (show 0 ≤ (n : Int) ∧ (n : Int) < ((3 : Nat) : Int) by omega)]
    simp only [Option.bind_some, Int.toNat_natCast, Nat.zero_add, Nat.mul_one, hv, e1]
    rw [decide_eq_false (by omega), sel_false, e2, e3]
  have tl : tlim (g30_p2_b g39 g40 g41) (⟨some (id, 0), 3, .op 1⟩, str1, 2, ⟨some (id, 0), 3, .op 1⟩, 3, 0) H = some ((⟨some (id, 0), 3, .op 1⟩, str1, ((2 + x.length + y.length + z.length : Nat) : Int)), H) := by
    refine (tlim_go (step 0 _ 2 (by omega) l0 (by omega) (by omega))).trans ?_
    refine (tlim_go (step 1 _ _ (by omega) l1 (by omega) (by omega))).trans ?_
    refine (tlim_go (step 2 _ _ (by omega) l2 (by omega) (by omega))).trans ?_
    refine tlim_up ?_
    simp only [g30_p2_b, g30_p1]
    rw [decide_eq_false (show ¬ ((2 + 1 : Nat) : Int) < 3 by omega), sel_false, zx, zy, zz]
  -- the builder
  have k0 := BOk.make hw (Fr'.refl (fun _ => False) H)
  obtain ⟨H1, p1, k1⟩ := grow_ok k0 ⟨none, Heap.gnew _ _⟩ (n := ((2 + x.length + y.length + z.length : Nat) : Int)) (by omega)
  obtain ⟨H2, p2, k2⟩ := writeString_ok k1 hx (by simp; omega)
  obtain ⟨H3, p3, k3⟩ := writeString_ok (m := [45]) k2 (fun n hn => by simp at hn; omega) (by simp; omega)
  obtain ⟨H4, p4, k4⟩ := writeString_ok k3 hy (by simp; omega)
  obtain ⟨H5, p5, k5⟩ := writeString_ok (m := [45]) k4 (fun n hn => by simp at hn; omega) (by simp; omega)
  obtain ⟨H6, p6, k6⟩ := writeString_ok k5 hz (by simp; omega)
  obtain ⟨H7, p7, x7, w7⟩ := bString_ok k6 (by simp) (by simp; omega)
  rw [List.nil_append] at p7
  have r1 := k1.ext.get hw hg
  have r2 := k2.ext.get hw hg
  have r4 := k4.ext.get hw hg
  have m0 : H1.ldS id 0 = some (bsU (u8s x)) := ldS_of r1 rfl
  have m1 : H2.ldS id 1 = some (bsU (u8s y)) := ldS_of r2 rfl
  have m2 : H4.ldS id 2 = some (bsU (u8s z)) := ldS_of r4 rfl
  refine ⟨H7, fun R K => ?_, x7, w7⟩
  have s1 : g30_p6_b g39 g40 g41 (str1, H.next, 0, ⟨some (id, 0 + 1 * 1), 2, .op 1⟩, 2, 0) H2 = some (.go (str1, H.next, 0, ⟨some (id, 0 + 1 * 1), 2, .op 1⟩, 2, 1), H4) := by
    simp only [g30_p6_b, g30_p5]
    rw [decide_eq_true (show (0 : Int) < 2 by omega), sel_true, if_pos (show 0 ≤ (0 : Int) ∧ (0 : Int) < ((2 : Nat) : Int) by omega)]
    simp only [Option.bind_some, show Int.toNat (0 : Int) = 0 from rfl, Nat.zero_add, Nat.zero_mul, Nat.add_zero, Nat.one_mul, m1]
    rw [str1_eq, p3]
    simp only [V.one, if_true]
    rw [p4]
    simp only [if_true]
    rfl
  have s2 : g30_p6_b g39 g40 g41 (str1, H.next, 0, ⟨some (id, 0 + 1 * 1), 2, .op 1⟩, 2, 1) H4 = some (.go (str1, H.next, 0, ⟨some (id, 0 + 1 * 1), 2, .op 1⟩, 2, 2), H6) := by
    simp only [g30_p6_b, g30_p5]
    rw [decide_eq_true (show (1 : Int) < 2 by omega), sel_true, if_pos (show 0 ≤ (1 : Int) ∧ (1 : Int) < ((2 : Nat) : Int) by omega)]
    simp only [Option.bind_some, show Int.toNat (1 : Int) = 1 from rfl, Nat.zero_add, Nat.one_mul, Nat.mul_one, Nat.reduceAdd, m2]
    rw [str1_eq, p5]
    simp only [V.one, if_true]
    rw [p6]
    simp only [if_true]
    rfl
  have s3 : g30_p6_b g39 g40 g41 (str1, H.next, 0, ⟨some (id, 0 + 1 * 1), 2, .op 1⟩, 2, 2) H6 = some (.up (H.next, 0), H6) := by
    simp only [g30_p6_b, g30_p5]
    rw [decide_eq_false (show ¬ (2 : Int) < 2 by omega), sel_false]
  have tl2 : tlim (g30_p6_b g39 g40 g41) (str1, H.next, 0, ⟨some (id, 0 + 1 * 1), 2, .op 1⟩, 2, 0) H2 = some ((H.next, 0), H6) := (tlim_go s1).trans ((tlim_go s2).trans (tlim_up s3))
  have hs : ∀ (R : Type) (K : Sl → Option R), slOf 1 ⟨some (id, 0), 3, .op 1⟩ (some 1) none none K = K ⟨some (id, 0 + 1 * 1), 2, .op 1⟩ := fun R K => by
    simp only [slOf, Option.getD_none, Option.getD_some, Option.isSome_none, Bool.false_and, Bool.false_eq_true, if_false, if_true]
    rw [if_pos (by omega)]
    rfl
  have z1 : ((str1.size : Nat) : Int) = 1 := rfl
  have dd : g30 R ⟨some (id, 0), 3, .op 1⟩ str1 H K = g30_p12 g39 g40 g41 R ⟨some (id, 0), 3, .op 1⟩ str1 H K := rfl
  rw [dd]
  simp only [g30_p12, g30_p0, z1]
  rw [show (((3 : Nat) : Int) == 0) = false from rfl, sel_false, show (((3 : Nat) : Int) == 1) = false from rfl, sel_false, decide_eq_true (show (1 : Int) > 0 by omega), sel_true]
  rw [show IntKind.wrap .i64 (((3 : Nat) : Int) - 1) = 2 from rfl, if_neg (by omega), decide_eq_false (show ¬ (1 : Int) ≥ IntKind.wrap .i64 (Int.tdiv 9223372036854775807 2) by decide +kernel), sel_false]
  rw [show IntKind.wrap .i64 (0 + IntKind.wrap .i64 (1 * 2)) = 2 from rfl]
  simp only [g30_p11, g30_p3, g30_p2, show (((3 : Nat) : Int)) = 3 from rfl, tl, Option.bind_some, g30_p10, g30_p4, alo]
  rw [p1, if_pos (by omega)]
  simp only [Option.bind_some, show Int.toNat (0 : Int) = 0 from rfl, Nat.zero_add, Nat.zero_mul, m0]
  rw [p2]
  simp only [V.one, if_true]
  rw [hs]
  simp only [g30_p9, g30_p7, g30_p6, show (((2 : Nat) : Int)) = 2 from rfl]
  rw [tl2]
  simp only [Option.bind_some, g30_p8]
  rw [p7]
end Go.Proofs.YtgdkkpjmjnknoaaDoor

