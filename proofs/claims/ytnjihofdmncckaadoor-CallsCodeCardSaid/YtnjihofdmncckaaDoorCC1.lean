/- Calls: numbers (strings.Trim of digits). -/
import Derived.Test.YtnjihofdmncckaaDoorLSl
import Derived.Test.YtnjihofdmncckaaDoorLByt
namespace Go.Proofs.YtnjihofdmncckaaDoor
open Go AM Go.RowKit
set_option linter.unusedVariables false
set_option linter.unusedSimpArgs false

theorem bsU_append (a b : List UInt8) : bsU a ++ bsU b = bsU (a ++ b) := by
  apply ByteArray.ext
  rw [ByteArray.data_append]
  simp [bsU]
@[simp] theorem bsU_size (a : List UInt8) : (bsU a).size = a.length := by simp [bsU, ByteArray.size]
theorem bsU_inj {a b : List UInt8} (h : bsU a = bsU b) : a = b := by
  have := congrArg (fun x => x.data.toList) h
  simpa [bsU] using this
theorem bsU_of (s : ByteArray) : s = bsU s.data.toList := by cases s; simp [bsU]
theorem catS_ok {R : Type} {x y : ByteArray} (h : x.size + y.size ≤ 9223372036854775807) (K : ByteArray → Option R) : catS x y K = K (x ++ y) := by
  unfold catS; rw [if_pos h]
theorem catU {R : Type} {x y : List UInt8} (h : x.length + y.length ≤ 9223372036854775807) (K : ByteArray → Option R) : catS (bsU x) (bsU y) K = K (bsU (x ++ y)) := by
  rw [catS_ok (by simpa using h), bsU_append]
theorem cells_bsU (l : List Int) (h : Byt l) : cellsOfBytes (bsU (u8s l)) = bcs l := by
  simp only [cellsOfBytes, bsU, u8s, bcs, List.map_map]
  apply List.map_congr_left
  intro n hn
  have := h n hn
  simp only [Function.comp]
  congr 1
  simp only [UInt8.toNat_ofNat']
  omega
theorem u8lt (b : UInt8) : b.toNat < 256 := by have := b.toNat_lt; omega
theorem btAt_bs (l : List UInt8) (k : Nat) : btAt (bsU l) (k : Int) = ((l.getD k 0).toNat : Int) := by simp [btAt, bsU]
theorem subS_bs (l : List UInt8) (i j : Nat) : subS (bsU l) (i : Int) (j : Int) = bsU ((l.take j).drop i) := by
  apply ByteArray.ext
  simp [subS, bsU, ByteArray.data_extract, List.extract_eq_take_drop, List.drop_take]
theorem str0_eq : str0 = bsU [] := rfl
theorem strE (l : List UInt8) : strEq (bsU l) str0 = decide (l = []) := by rw [str0_eq, strEqU]
def dg (b : UInt8) : Bool := decide (48 ≤ b.toNat) && decide (b.toNat ≤ 57)
def Bs (k : Nat) : List Bool := (List.range 256).map fun n => decide (48 ≤ n) && decide (n < 48 + k)
theorem Bs_set : ∀ k : Fin 10, (Bs k.val).set (48 + k.val) true = Bs (k.val + 1) := by decide +kernel
theorem str1_at : ∀ k : Fin 10, btAt str1 ((k.val : Nat) : Int) = ((48 + k.val : Nat) : Int) := by decide +kernel
theorem Bs_at : ∀ n : Fin 256, (Bs 10)[n.val]? = some (decide (48 ≤ n.val) && decide (n.val ≤ 57)) := by decide +kernel
theorem Bs_len (k : Nat) : (Bs k).length = 256 := by simp [Bs]
def vb (l : List Bool) : List V := l.map V.b
@[simp] theorem vb_len (l : List Bool) : (vb l).length = l.length := by simp [vb]
theorem vb_one (l : List Bool) : (vb l).all V.one = true := by simp [vb, V.one]
theorem vb_set (l : List Bool) (i : Nat) (b : Bool) : (vb l).set i (.b b) = vb (l.set i b) := by simp [vb, List.map_set]
/-- the set of digits stands at an object -/
def Dset (H : Heap) (i : Nat) : Prop := H.get i = some (.cells (vb (Bs 10)) 114 false)
theorem lds_all {H : Heap} {i : Nat} {k : Nat} (h : H.get i = some (.cells (vb (Bs k)) 114 false)) : H.lds i 0 256 = some (vb (Bs k)) := by
  rw [lds_of h (by simp [Bs_len])]
  rw [List.drop_zero, List.take_of_length_le (by simp [Bs_len])]
theorem splice_all (a b : List V) (h : a.length = b.length) : splice a 0 b = b := by simp [splice, h]
theorem sts_vb {H : Heap} {i : Nat} {l : List V} {k : Nat} (h : H.get i = some (.cells l 114 false)) (hl : l.length = 256) : H.sts i 0 (vb (Bs k)) = some (H.put i (.cells (vb (Bs k)) 114 false)) := by
  rw [sts_of h (by simp [Bs_len, hl]) (vb_one _), splice_all _ _ (by simp [Bs_len, hl])]
theorem s87 {R : Type} {H : Heap} {i : Nat} (h : Dset H i) (b : UInt8) (K : Bool → Heap → Option R) : g87 R (some (i, 0)) ((b.toNat : Nat) : Int) H K = K (dg b) H := by
  have hb := u8lt b
  have e : H.ldB i (0 + b.toNat * 1) = some (dg b) := by
    rw [Nat.zero_add, Nat.mul_one]
    refine ldB_of h ?_
    have := Bs_at ⟨b.toNat, hb⟩
    simp only at this
    rw [vb, List.getElem?_map, this]; rfl
  simp only [g87, g87_r, g87_p0, Option.bind_some]
  rw [if_pos (by omega), Int.toNat_natCast, e]; rfl
set_option maxRecDepth 100000 in
theorem s68 {H : Heap} (hw : H.Wf) : ∃ H', (∀ (R : Type) (K : List V → Bool → Heap → Option R), g68 R str1 H K = K (vb (Bs 10)) true H') ∧ Ext H H' ∧ H'.Wf := by
  have g1 := Heap.gnew H (.cells (vb (Bs 0)) 114 false)
  have w1 := hw.new (.cells (vb (Bs 0)) 114 false)
  have x1 := Ext.new H (.cells (vb (Bs 0)) 114 false)
  have z : (List.replicate 256 (V.b false)) = vb (Bs 0) := by
    have : List.replicate 256 false = Bs 0 := by decide +kernel
    rw [← this, vb, List.map_replicate]
  have st : ∀ (R : Type) (kN : ByteArray → Nat → Nat → Int → Heap → Option R), g68_p0 R str1 H kN = kN str1 H.next 0 0 (H.new (.cells (vb (Bs 0)) 114 false)) := fun R kN => by
    have : g68_p0 R str1 H kN = alo H (.cells (List.replicate 256 (V.b false)) 114 false) fun i h => kN str1 i 0 0 h := rfl
    rw [this, z]; rfl
  generalize hi : H.next = i at *
  generalize H.new (.cells (vb (Bs 0)) 114 false) = X at *
  have step : ∀ k : Nat, k < 10 → g68_p2_b (str1, i, 0, ((k : Nat) : Int)) (X.put i (.cells (vb (Bs k)) 114 false)) = some (.go (str1, i, 0, ((k + 1 : Nat) : Int)), X.put i (.cells (vb (Bs (k + 1))) 114 false)) := fun k hk => by
    have ha := str1_at ⟨k, hk⟩
    have hs := Bs_set ⟨k, hk⟩
    simp only at ha hs
    have e5 : IntKind.wrap .i64 ((k : Int) + 1) = ((k + 1 : Nat) : Int) := by rw [w64 (by omega)]; rfl
    have hsz : ((str1.size : Nat) : Int) = 10 := rfl
    simp only [g68_p2_b, g68_p1, hsz, ha, e5]
    rw [decide_eq_true (by omega), sel_true, if_pos (by omega), decide_eq_false (by omega), sel_false, if_pos (by omega), Int.toNat_natCast, Nat.zero_add, Nat.mul_one, st_of (Heap.gput _ _ _) (by simp [Bs_len]; omega) rfl, Option.bind_some, vb_set, hs, Heap.put_put]
  have tl : ∀ n : Nat, n ≤ 10 → tlim g68_p2_b (str1, i, 0, (((10 - n : Nat) : Nat) : Int)) (X.put i (.cells (vb (Bs (10 - n))) 114 false)) = some (.inl (i, 0), X.put i (.cells (vb (Bs 10)) 114 false)) := fun n => by
    induction n with
    | zero =>
      intro _
      refine tlim_up ?_
      have hsz : ((str1.size : Nat) : Int) = 10 := rfl
      simp only [g68_p2_b, g68_p1, hsz]
      rw [decide_eq_false (by omega), sel_false]
    | succ n ih =>
      intro hn
      refine (tlim_go (step (10 - (n + 1)) (by omega))).trans ?_
      rw [show 10 - (n + 1) + 1 = 10 - n by omega]
      exact ih (by omega)
  have tl0 := tl 10 (Nat.le_refl _)
  rw [show 10 - 10 = 0 from rfl, Heap.put_self g1] at tl0
  have gF := Heap.gput X i (.cells (vb (Bs 10)) 114 false)
  refine ⟨X.put i (.cells (vb (Bs 10)) 114 false), fun R K => ?_, x1.above (by omega) _, w1.put g1 _⟩
  simp only [g68, g68_r, g68_p6]
  rw [st]
  simp only [g68_p5, g68_p3, g68_p2]
  rw [show ((0 : Int)) = ((0 : Nat) : Int) from rfl, tl0, Option.bind_some]
  simp only [cas, g68_p4]
  rw [lds_all gF, Option.bind_some, if_pos (by simp [Bs_len]), sts_vb gF (by simp [Bs_len]), Option.bind_some, Heap.put_put, lds_all gF, Option.bind_some]
theorem s69 {R : Type} {H : Heap} {i : Nat} (h : Dset H i) (l : List UInt8) (hl : l.length ≤ 1000) (K : ByteArray → Heap → Option R) : g69 R (bsU l) (some (i, 0)) H K = K (bsU (l.dropWhile dg)) H := by
  have tl : ∀ l : List UInt8, l.length ≤ 1000 → tlim (g69_p2_b g87) (bsU l, some (i, 0)) H = some (bsU (l.dropWhile dg), H) := fun l => by
    induction l with
    | nil =>
      intro _
      refine tlim_up ?_
      simp only [g69_p2_b, g69_p1, bsU_size]
      rw [decide_eq_false (by simp), sel_false]; rfl
    | cons a l ih =>
      intro hl
      have hb := btAt_bs (a :: l) 0
      rw [show ((0 : Nat) : Int) = 0 from rfl, show (a :: l).getD 0 0 = a from rfl] at hb
      have hsub := subS_bs (a :: l) 1 (a :: l).length
      rw [List.take_length, show List.drop 1 (a :: l) = l from rfl, show ((1 : Nat) : Int) = 1 from rfl] at hsub
      by_cases hd : dg a = true
      · rw [List.dropWhile_cons, if_pos hd]
        refine (tlim_go (s' := (bsU l, some (i, 0))) (H' := H) ?_).trans (ih (by simp only [List.length_cons] at hl; omega))
        simp only [g69_p2_b, g69_p1, bsU_size, hb]
        rw [decide_eq_true (by simp only [List.length_cons]; omega), sel_true, if_pos (by simp only [List.length_cons]; omega), s87 h, hd, Bool.not_true, sel_false, if_pos (by simp only [List.length_cons]; omega), hsub]
      · rw [List.dropWhile_cons, if_neg hd]
        refine tlim_up ?_
        simp only [g69_p2_b, g69_p1, bsU_size, hb]
        rw [decide_eq_true (by simp only [List.length_cons]; omega), sel_true, if_pos (by simp only [List.length_cons]; omega), s87 h, show dg a = false by simpa using hd, Bool.not_false, sel_true]
  simp only [g69, g69_r, g69_p6, g69_p0, g69_p5, g69_p3, g69_p2]
  rw [tl l hl, Option.bind_some]
  rfl
theorem s70 {H : Heap} {i : Nat} (h : Dset H i) (l : List UInt8) (hl : l.length ≤ 1000) : ∃ r : List UInt8, r.all dg = l.all dg ∧ r.length ≤ l.length ∧ ∀ (R : Type) (K : ByteArray → Heap → Option R), g70 R (bsU l) (some (i, 0)) H K = K (bsU r) H := by
  have tl : ∀ (n : Nat) (l : List UInt8), l.length = n → l.length ≤ 1000 → ∃ r : List UInt8, r.all dg = l.all dg ∧ r.length ≤ l.length ∧ tlim (g70_p2_b g87) (bsU l, some (i, 0)) H = some (bsU r, H) := fun n => by
    induction n with
    | zero =>
      intro l h0 _
      have : l = [] := List.length_eq_zero_iff.1 h0
      subst this
      refine ⟨[], rfl, Nat.le_refl _, tlim_up ?_⟩
      simp only [g70_p2_b, g70_p1, bsU_size]
      rw [decide_eq_false (by simp), sel_false]
    | succ n ih =>
      intro l hn hl
      obtain ⟨m, b, rfl⟩ : ∃ m b, l = m ++ [b] := ⟨l.dropLast, l.getLast (by intro e; rw [e] at hn; simp at hn), (List.dropLast_concat_getLast _).symm⟩
      have hm : m.length = n := by simpa using hn
      have hsz : (m ++ [b]).length = n + 1 := hn
      have hw : IntKind.wrap .i64 (((n + 1 : Nat) : Int) - 1) = ((n : Nat) : Int) := by rw [w64 (by omega)]; omega
      have hb := btAt_bs (m ++ [b]) n
      rw [show (m ++ [b]).getD n 0 = b by rw [← hm]; simp] at hb
      have hsub := subS_bs (m ++ [b]) 0 n
      rw [show ((m ++ [b]).take n).drop 0 = m by rw [← hm]; simp, show ((0 : Nat) : Int) = 0 from rfl] at hsub
      by_cases hdb : dg b = true
      · obtain ⟨r, hr, hrl, e⟩ := ih m hm (by omega)
        refine ⟨r, by rw [hr]; simp [hdb], by omega, (tlim_go (s' := (bsU m, some (i, 0))) (H' := H) ?_).trans e⟩
        simp only [g70_p2_b, g70_p1, bsU_size, hsz, hw, hb]
        rw [decide_eq_true (by omega), sel_true, if_pos (by omega), s87 h, hdb, Bool.not_true, sel_false, if_pos (by omega), hsub]
      · refine ⟨m ++ [b], rfl, Nat.le_refl _, tlim_up ?_⟩
        simp only [g70_p2_b, g70_p1, bsU_size, hsz, hw, hb]
        rw [decide_eq_true (by omega), sel_true, if_pos (by omega), s87 h, show dg b = false by simpa using hdb, Bool.not_false, sel_true]
  obtain ⟨r, hr, hrl, e⟩ := tl _ l rfl hl
  refine ⟨r, hr, hrl, fun R K => ?_⟩
  simp only [g70, g70_r, g70_p6, g70_p0, g70_p5, g70_p3, g70_p2]
  rw [e, Option.bind_some]
  rfl
theorem dw_nil (l : List UInt8) (h : l.all dg = true) : l.dropWhile dg = [] := by
  induction l with
  | nil => rfl
  | cons a l ih =>
    simp only [List.all_cons, Bool.and_eq_true] at h
    rw [List.dropWhile_cons, if_pos h.1]; exact ih h.2
set_option maxRecDepth 100000 in
theorem s56 {H : Heap} (hw : H.Wf) (l : List UInt8) (hl : l.length ≤ 1000) : ∃ (r : List UInt8) (H' : Heap), (r = [] ↔ l.all dg = true) ∧ (∀ (R : Type) (K : ByteArray → Heap → Option R), g56 R (bsU l) str1 H K = K (bsU r) H') ∧ Ext H H' ∧ H'.Wf := by
  have dd : ∀ (R : Type) (K : ByteArray → Heap → Option R), g56 R (bsU l) str1 H K = g56_p0 g67 g66 g68 g70 g69 R (bsU l) str1 H (fun t4 H => K t4 H) := fun _ _ => rfl
  by_cases h0 : l = []
  · subst h0
    refine ⟨[], H, by simp, fun R K => ?_, .refl _ _, hw⟩
    rw [dd]; unfold g56_p0
    rw [strE, decide_eq_true rfl, sel_true]
  obtain ⟨H1, e1, x1, w1⟩ := s68 hw
  have z : (List.replicate 256 (V.b false)) = vb (Bs 0) := by
    have : List.replicate 256 false = Bs 0 := by decide +kernel
    rw [← this, vb, List.map_replicate]
  have g2 := Heap.gnew H1 (.cells (vb (Bs 0)) 114 false)
  have w2 := w1.new (.cells (vb (Bs 0)) 114 false)
  have x2 := Ext.new H1 (.cells (vb (Bs 0)) 114 false)
  have x12 : Ext H (H1.new (.cells (vb (Bs 0)) 114 false)) := x1.trans x2
  have hn1 := x1.next
  have p2 := sts_vb (k := 10) g2 (by simp [Bs_len])
  have gS := Heap.gput (H1.new (.cells (vb (Bs 0)) 114 false)) H1.next (.cells (vb (Bs 10)) 114 false)
  have hS : Dset _ H1.next := gS
  obtain ⟨r, hr, hrl, e3⟩ := s70 hS l hl
  refine ⟨r.dropWhile dg, (H1.new (.cells (vb (Bs 0)) 114 false)).put H1.next (.cells (vb (Bs 10)) 114 false), ?_, fun R K => ?_, x12.above (by omega) _, w2.put g2 _⟩
  · rw [← hr]
    constructor
    · intro e
      have := List.takeWhile_append_dropWhile (p := dg) (l := r)
      rw [e, List.append_nil] at this
      rw [← this]; exact List.all_takeWhile
    · intro e
      exact dw_nil r e
  · have : ∀ (kR : ByteArray → Heap → Option R), g56_p0 g67 g66 g68 g70 g69 R (bsU l) str1 H kR = g68 R str1 H fun x15 x16 h17 => alo h17 (.cells (List.replicate 256 (V.b false)) 114 false) fun i18 h19 => if (x15).length = 256 then (((h19).sts i18 0 x15).bind fun h20 => sel x16 (g70 R (bsU l) (some (i18, 0)) h20 fun x21 h22 => g69 R x21 (some (i18, 0)) h22 fun x23 h24 => kR x23 h24) none) else none := fun kR => by
      unfold g56_p0
      rw [strE, decide_eq_false h0, sel_false, show strEq str1 str0 = false by rw [show str1 = bsU [48, 49, 50, 51, 52, 53, 54, 55, 56, 57] from rfl, strE]; rfl, sel_false, show (((str1.size : Nat) : Int) == 1) = false from rfl, sel_false]
      rfl
    rw [dd, this, e1, z]
    simp only [alo]
    rw [if_pos (by simp [Bs_len]), p2, Option.bind_some, sel_true, e3, s69 hS r (by omega)]
/-- a number -/
def num (l : List UInt8) : Bool := decide (1 ≤ l.length ∧ l.length ≤ 15) && l.all dg
theorem s25 {H : Heap} (hw : H.Wf) (l : List UInt8) : ∃ H', (∀ (R : Type) (K : Bool → Heap → Option R), g25 R (bsU l) H K = K (num l) H') ∧ Ext H H' ∧ H'.Wf := by
  by_cases h0 : l = []
  · refine ⟨H, fun R K => ?_, .refl _ _, hw⟩
    simp only [g25, g25_r, g25_p0]
    rw [strE, decide_eq_true h0, Bool.not_true, sel_false, show num l = false by subst h0; rfl]
  have hp : 1 ≤ l.length := List.length_pos_iff.2 h0
  by_cases h15 : l.length ≤ 15
  · obtain ⟨r, H', hr, e, x1, w1⟩ := s56 hw l (by omega)
    refine ⟨H', fun R K => ?_, x1, w1⟩
    simp only [g25, g25_r, g25_p0]
    rw [strE, decide_eq_false h0, Bool.not_false, sel_true]
    simp only [g42, g42_r, g42_p0, bsU_size]
    rw [decide_eq_true (by omega), sel_true, e, strE]
    have : decide (r = []) = num l := by
      unfold num
      rw [decide_eq_true (show 1 ≤ l.length ∧ l.length ≤ 15 from ⟨hp, h15⟩), Bool.true_and]
      by_cases hr0 : r = []
      · rw [decide_eq_true hr0, hr.1 hr0]
      · rw [decide_eq_false hr0]; symm; simpa using fun e => hr0 (hr.2 e)
    rw [this]
  · refine ⟨H, fun R K => ?_, .refl _ _, hw⟩
    simp only [g25, g25_r, g25_p0]
    rw [strE, decide_eq_false h0, Bool.not_false, sel_true]
    simp only [g42, g42_r, g42_p0, bsU_size]
    rw [decide_eq_false (by omega), sel_false, show num l = false by unfold num; rw [decide_eq_false (by omega), Bool.false_and]]
/-- the law's number -/
theorem s21 {R : Type} {H : Heap} (l : List UInt8) (K : Bool → Heap → Option R) : g21 R (bsU l) H K = K (num l) H := by
  simp only [g21, g21_r, g21_p6, g21_p0, bsU_size]
  by_cases h1 : l.length < 1
  · rw [decide_eq_true (by omega), sel_true, show num l = false by unfold num; rw [decide_eq_false (by omega), Bool.false_and]]
  rw [decide_eq_false (by omega), sel_false]
  by_cases h15 : l.length > 15
  · rw [decide_eq_true (by omega), sel_true, show num l = false by unfold num; rw [decide_eq_false (by omega), Bool.false_and]]
  rw [decide_eq_false (by omega), sel_false]
  have tl : ∀ (m : List UInt8) (k : Nat), l.drop k = m → k ≤ l.length → tlim g21_p2_b (bsU l, ((k : Nat) : Int)) H = some (if m.all dg = true then .inl () else .inr false, H) := fun m => by
    induction m with
    | nil =>
      intro k hk hkl
      have : l.length ≤ k := by simpa using hk
      rw [List.all_nil, if_pos rfl]
      refine tlim_up ?_
      simp only [g21_p2_b, g21_p1, bsU_size]
      rw [decide_eq_false (by omega), sel_false]
    | cons a m ih =>
      intro k hk hkl
      have hlt : k < l.length := by
        have := congrArg List.length hk
        simp at this; omega
      have hb := btAt_bs l k
      have hga : l.getD k 0 = a := by
        have := congrArg (fun x => x.getD 0 0) hk
        simpa [List.getD_eq_getElem?_getD] using this
      rw [hga] at hb
      have hm : l.drop (k + 1) = m := by
        have := congrArg (List.drop 1) hk
        simpa [List.drop_drop] using this
      have e5 : IntKind.wrap .i64 ((k : Int) + 1) = ((k + 1 : Nat) : Int) := by rw [w64 (by omega)]; rfl
      rw [List.all_cons]
      by_cases hd : dg a = true
      · rw [hd, Bool.true_and]
        have hd' : 48 ≤ a.toNat ∧ a.toNat ≤ 57 := by simpa [dg] using hd
        refine (tlim_go (s' := (bsU l, ((k + 1 : Nat) : Int))) (H' := H) ?_).trans (ih (k + 1) hm hlt)
        simp only [g21_p2_b, g21_p1, bsU_size, hb, e5]
        rw [decide_eq_true (by omega), sel_true, if_pos (by omega), decide_eq_false (by omega), sel_false, if_pos (by omega), decide_eq_false (by omega), sel_false]
      · rw [show dg a = false by simpa using hd, Bool.false_and, if_neg (by simp)]
        have hd' : ¬(48 ≤ a.toNat ∧ a.toNat ≤ 57) := by simpa [dg] using hd
        refine tlim_up ?_
        simp only [g21_p2_b, g21_p1, bsU_size, hb, e5]
        rw [decide_eq_true (by omega), sel_true, if_pos (by omega)]
        by_cases h48 : a.toNat < 48
        · rw [decide_eq_true (by omega), sel_true]
        · rw [decide_eq_false (by omega), sel_false, if_pos (by omega), decide_eq_true (by omega), sel_true]
  simp only [g21_p5, g21_p3, g21_p2]
  have t0 := tl l 0 rfl (Nat.zero_le _)
  rw [show ((0 : Nat) : Int) = 0 from rfl] at t0
  rw [t0, Option.bind_some]
  unfold num
  rw [decide_eq_true (show 1 ≤ l.length ∧ l.length ≤ 15 by omega), Bool.true_and]
  cases l.all dg <;> rfl
end Go.Proofs.YtnjihofdmncckaaDoor

