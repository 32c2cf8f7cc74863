/- Units: Concat, Encode, octets, Bytes. -/
import Derived.Test.YteipplgcdbaokaaDoorUS2
namespace Go.Proofs.YteipplgcdbaokaaDoor
open Go AM Go.RowKit
set_option linter.unusedVariables false
set_option linter.unusedSimpArgs false

theorem zeros5 (n : Nat) : zeroCellsV Tryd.prog 5 n = some (bcs (List.replicate n 0)) := by
  have h1 : Tryd.prog.cellsOf 5 = 1 := by kernel_rfl
  have h2 : zeroV Tryd.prog 5 = some (.i .u8 0) := by kernel_rfl
  unfold zeroCellsV
  rw [h1, h2, Nat.mul_one]
  split
  · rename_i h; subst h; rfl
  · simp only [Option.bind_some]
    rw [if_pos (by simp [V.cells])]
    congr 1
    simp only [V.cells, bcs]
    induction n with
    | zero => rfl
    | succ n ih => simp [List.replicate_succ]
theorem splice_bcs (a z b : List Int) (hb : b.length ≤ z.length) : splice (bcs (a ++ z)) a.length (bcs b) = bcs (a ++ b ++ z.drop b.length) := by
  simp only [splice, bcs, List.map_append, List.length_map, List.map_drop]
  rw [List.take_left' (by simp)]
  congr 1
  rw [List.drop_append, List.drop_of_length_le (by simp)]
  simp
/-- an append into an object that has room -/
theorem appendV_room {H : Heap} {id : Nat} {e : TypeId} {a z b : List Int} (hg : H.get id = some (.cells (bcs (a ++ z)) e false)) (hb : b.length ≤ z.length) (hm : a.length + b.length ≤ 140737488355328) {R : Type} (K : Sl → Heap → Option R) :
    appendV H e 1 1 ⟨some (id, 0), a.length, .op 1⟩ b.length (bcs b) K = K ⟨some (id, 0), (a ++ b).length, .op 1⟩ (H.put id (.cells (bcs (a ++ b ++ z.drop b.length)) e false)) := by
  by_cases h0 : b.length = 0
  · have : b = [] := List.length_eq_zero_iff.1 h0
    subst this
    simp only [List.length_nil, appendV_zero, List.append_nil, List.drop_zero]
    rw [Heap.put_self hg]
  · simp only [appendV]
    rw [if_neg h0, if_neg (by omega)]
    simp only [true_and]
    rw [if_pos ⟨by omega, by omega⟩]
    simp only [hg, if_true]
    rw [if_pos (by simp; omega), sts_of hg (by simp; omega) (bcs_ones _)]
    simp only [Option.bind_some, Nat.zero_add, Nat.mul_one]
    rw [splice_bcs _ _ _ hb]
    simp
theorem s36 {H : Heap} {n : Nat} (hn : 0 < n) (hm : n ≤ 1000000) {R : Type} (K : Sl → Heap → Option R) : g36 R ⟨none, 0, .ex 0⟩ (n : Int) H K = K ⟨some (H.next, 0), 0, .op 1⟩ (H.new (.cells (bcs (List.replicate n 0)) 5 false)) := by
  have c1 : decide ((n : Int) < 0) = false := by simp <;> omega
  have w0 : IntKind.wrap .i64 (((0 : Nat) : Int) - ((0 : Nat) : Int)) = 0 := w64 (by omega)
  have w1 : IntKind.wrap .i64 ((n : Int) - 0) = n := by rw [w64 (by omega)] <;> omega
  have c2 : decide ((n : Int) > 0) = true := by simp <;> omega
  simp only [g36, g36_r, g36_p0, c1, sel_false, capK_ex, w0, w1, c2, sel_true]
  have e1 : ∀ (K : Sl → Option R), slOf 1 ⟨none, 0, .ex 0⟩ none (some ((0 : Nat) : Int)) none K = K ⟨none, 0, .ex 0⟩ := fun K => by
    simp [slOf]
  rw [e1, if_pos ⟨by omega, by omega, by omega⟩]
  simp only [Int.toNat_natCast, zeros5, Option.bind_some]
  rw [appendV_nil (by omega) (by omega)]
  simp [slOf]
/-- Concat of two slices -/
theorem s28 {H : Heap} (hw : H.Wf) {id : Nat} {a b : Sl} {la lb : List Int} (hg : H.get id = some (.cells [.sl a, .sl b] 23 false)) (ha : BS H a la) (hb : BS H b lb) (h0 : 0 < la.length) (hm : la.length + lb.length ≤ 1000000) :
    ∃ s' H', (∀ (R : Type) (K : Sl → Heap → Option R), g28 R ⟨some (id, 0), 2, .ex 2⟩ H K = K s' H') ∧ CopyOf H H' 5 s' (la ++ lb) ∧ la ++ lb ≠ [] := by
  have n1 := ha.len
  have n2 := hb.len
  have l0 : H.ldSl id (0 + (0 : Int).toNat * 1) = some a := ldSl_of hg rfl
  have l1 : H.ldSl id (0 + (1 : Int).toNat * 1) = some b := ldSl_of hg rfl
  have w1 : IntKind.wrap .i64 (0 + ((la.length : Nat) : Int)) = (la.length : Int) := by rw [w64 (by omega)]; omega
  have w2 : IntKind.wrap .i64 (((la.length : Nat) : Int) + ((lb.length : Nat) : Int)) = ((la.length + lb.length : Nat) : Int) := by rw [w64 (by omega)] <;> omega
  have t1 : tlim (g28_p2_b g36) (⟨some (id, 0), 2, .ex 2⟩, 0, ⟨some (id, 0), 2, .ex 2⟩, 2, 0) H = some ((⟨some (id, 0), 2, .ex 2⟩, ((la.length + lb.length : Nat) : Int)), H) := by
    have w3 : IntKind.wrap .i64 ((0 : Int) + 1) = 1 := by rw [w64 (by omega)]; rfl
    have w4 : IntKind.wrap .i64 ((1 : Int) + 1) = 2 := by rw [w64 (by omega)]; rfl
    have c1 : decide (((la.length : Nat) : Int) < 0) = false := by simp <;> omega
    have c2 : decide (((la.length + lb.length : Nat) : Int) < 0) = false := by simp <;> omega
    rw [tlim_go (s' := (⟨some (id, 0), 2, .ex 2⟩, (la.length : Int), ⟨some (id, 0), 2, .ex 2⟩, 2, 1)) (H' := H)]
    · rw [tlim_go (s' := (⟨some (id, 0), 2, .ex 2⟩, ((la.length + lb.length : Nat) : Int), ⟨some (id, 0), 2, .ex 2⟩, 2, 2)) (H' := H)]
      · rw [tlim_up (r := (⟨some (id, 0), 2, .ex 2⟩, ((la.length + lb.length : Nat) : Int))) (H' := H)]
        simp only [g28_p2_b, g28_p1, show decide ((2 : Int) < 2) = false from rfl, sel_false]
      · simp only [g28_p2_b, g28_p1, show decide ((1 : Int) < 2) = true from rfl, sel_true, Option.bind_some, l1, n2, w2, c2, sel_false, w4]
        simp
    · simp only [g28_p2_b, g28_p1, show decide ((0 : Int) < 2) = true from rfl, sel_true, Option.bind_some, l0, n1, w1, c1, sel_false, w3]
      simp
  have x1 := Ext.new H (.cells (bcs (List.replicate (la.length + lb.length) 0)) 5 false)
  have hw1 := hw.new (.cells (bcs (List.replicate (la.length + lb.length) 0)) 5 false)
  have ha1 := ha.ext hw x1
  have hb1 := hb.ext hw x1
  have g1 := Heap.gnew H (.cells (bcs (List.replicate (la.length + lb.length) 0)) 5 false)
  have hlt := hw _ _ hg
  have gg1 : (H.new (.cells (bcs (List.replicate (la.length + lb.length) 0)) 5 false)).get id = some (.cells [.sl a, .sl b] 23 false) := x1.get hw hg
  have e36 := fun (R : Type) K => @s36 H (la.length + lb.length) (by omega) hm R K
  generalize hG : H.new (.cells (bcs (List.replicate (la.length + lb.length) 0)) 5 false) = G at *
  have hGn : G.next = H.next + 1 := by rw [← hG]; rfl
  -- the first
  have g1' : G.get H.next = some (.cells (bcs ([] ++ List.replicate (la.length + lb.length) 0)) 5 false) := by simpa using g1
  have a1 := fun (R : Type) K => @appendV_room G H.next 5 [] _ la g1' (by simp) (by simp; omega) R K
  simp only [List.nil_append, List.length_nil] at a1
  have hz : (List.replicate (la.length + lb.length) (0 : Int)).drop la.length = List.replicate lb.length 0 := by rw [List.drop_replicate]; congr 1; omega
  rw [hz] at a1
  have x2 : Ext H (G.put H.next (.cells (bcs (la ++ List.replicate lb.length 0)) 5 false)) := x1.above (Nat.le_refl _) _
  have hw2 := hw1.put g1 (.cells (bcs (la ++ List.replicate lb.length 0)) 5 false)
  have hb2 := hb.ext hw x2
  have g2 := Heap.gput G H.next (.cells (bcs (la ++ List.replicate lb.length 0)) 5 false)
  have gg2 : (G.put H.next (.cells (bcs (la ++ List.replicate lb.length 0)) 5 false)).get id = some (.cells [.sl a, .sl b] 23 false) := x2.get hw hg
  have a2 := fun (R : Type) K => @appendV_room (G.put H.next (.cells (bcs (la ++ List.replicate lb.length 0)) 5 false)) H.next 5 la _ lb g2 (by simp) (by omega) R K
  have hz2 : (List.replicate lb.length (0 : Int)).drop lb.length = [] := by rw [List.drop_of_length_le (by simp)]
  simp only [Heap.put_put, hz2, List.append_nil] at a2
  have m0 : G.ldSl id (0 + (0 : Int).toNat * 1) = some a := ldSl_of gg1 rfl
  have m1 : (G.put H.next (.cells (bcs (la ++ List.replicate lb.length 0)) 5 false)).ldSl id (0 + (1 : Int).toNat * 1) = some b := ldSl_of gg2 rfl
  have t2 : tlim (g28_p6_b g36) (⟨some (H.next, 0), 0, .op 1⟩, ⟨some (id, 0), 2, .ex 2⟩, 2, 0) G = some (⟨some (H.next, 0), (la ++ lb).length, .op 1⟩, G.put H.next (.cells (bcs (la ++ lb)) 5 false)) := by
    have w3 : IntKind.wrap .i64 ((0 : Int) + 1) = 1 := by rw [w64 (by omega)]; rfl
    have w4 : IntKind.wrap .i64 ((1 : Int) + 1) = 2 := by rw [w64 (by omega)]; rfl
    rw [tlim_go (s' := (⟨some (H.next, 0), la.length, .op 1⟩, ⟨some (id, 0), 2, .ex 2⟩, 2, 1)) (H' := G.put H.next (.cells (bcs (la ++ List.replicate lb.length 0)) 5 false))]
    · rw [tlim_go (s' := (⟨some (H.next, 0), (la ++ lb).length, .op 1⟩, ⟨some (id, 0), 2, .ex 2⟩, 2, 2)) (H' := G.put H.next (.cells (bcs (la ++ lb)) 5 false))]
      · rw [tlim_up (r := ⟨some (H.next, 0), (la ++ lb).length, .op 1⟩) (H' := G.put H.next (.cells (bcs (la ++ lb)) 5 false))]
        simp only [g28_p6_b, g28_p5, show decide ((2 : Int) < 2) = false from rfl, sel_false]
      · simp only [g28_p6_b, g28_p5, show decide ((1 : Int) < 2) = true from rfl, sel_true, Option.bind_some, m1, hb2.is, n2, a2, w4]
        simp
    · simp only [g28_p6_b, g28_p5, show decide ((0 : Int) < 2) = true from rfl, sel_true, Option.bind_some, m0, ha1.is, n1, a1, w3]
      simp
  refine ⟨⟨some (H.next, 0), (la ++ lb).length, .op 1⟩, G.put H.next (.cells (bcs (la ++ lb)) 5 false), fun R K => ?_, ⟨?_, x1.above (Nat.le_refl _) _, hw1.put g1 _, rfl, .inr ⟨H.next, rfl, Nat.le_refl _, Heap.gput _ _ _⟩⟩, by intro e; have := congrArg List.length e; rw [List.length_append, List.length_nil] at this; omega⟩
  · simp only [g28, g28_r, g28_p12, g28_p0, g28_p11, g28_p3, g28_p2]
    rw [show (((2 : Nat) : Int)) = 2 from rfl, t1]
    simp only [Option.bind_some, g28_p10, g28_p4, e36]
    rw [show (((2 : Nat) : Int)) = 2 from rfl]
    simp only [g28_p9, g28_p7, g28_p6, t2, Option.bind_some, g28_p8]
  · exact BS.obj (Heap.gput _ _ _)
end Go.Proofs.YteipplgcdbaokaaDoor

