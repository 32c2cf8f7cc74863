/- The level by the chapter, and First. -/
import Derived.Test.YtbkncpmgpogakaaMS5
namespace Go.Proofs.Ytbkncpmgpogakaa
open Go AM Go.RowKit
set_option linter.unusedVariables false
set_option linter.unusedSimpArgs false

/-- a slice of truth values, seen -/
def BSl (H : Heap) (s : Sl) (l : List Bool) : Prop := s.len = l.length ∧ (l ≠ [] → ∃ id off, s.a = some (id, off) ∧ ∀ j (h : j < l.length), H.ldB id (off + j) = some l[j])
theorem BSl.at {H : Heap} {s : Sl} {l : List Bool} (h : BSl H s l) {j : Nat} (hj : j < l.length) : ∃ id off, s.a = some (id, off) ∧ H.ldB id (off + j) = some l[j] := by
  obtain ⟨_, h2⟩ := h
  obtain ⟨id, off, h3, h4⟩ := h2 (by intro e; subst e; simp at hj)
  exact ⟨id, off, h3, h4 j hj⟩
theorem BSl.of_own {H : Heap} {s : Sl} {l : List Bool} (h : Own H 4 1 s (l.map V.b)) : BSl H s l := by
  have hl := h.len
  simp only [List.length_map, Nat.mul_one] at hl
  refine ⟨hl.symm, fun hne => ?_⟩
  generalize hm : l.map V.b = m at h
  cases h with
  | nil => simp at hm; exact absurd hm hne
  | op id n _ hg hlen hones =>
    subst hm
    exact ⟨id, 0, rfl, fun j hj => ldB_of hg (by simp [hj])⟩
theorem BSl.mono {H H' : Heap} {s : Sl} {l : List Bool} (h : BSl H s l) (hg : ∀ id off, s.a = some (id, off) → H'.get id = H.get id) : BSl H' s l := by
  refine ⟨h.1, fun hne => ?_⟩
  obtain ⟨id, off, h3, h4⟩ := h.2 hne
  refine ⟨id, off, h3, fun j hj => ?_⟩
  have := h4 j hj
  simp only [Heap.ldB, Heap.ld] at this ⊢
  rw [hg id off h3]; exact this

/-- the state of the law's loop over units -/
def lvS (s : Sl) (p : Nat) (a : Args) (n i : Int) : g13_p24_S := (s, p, 0, a.lim, a.sz, a.up, a.dn, n, i)

theorem inner {H : Heap} {s : Sl} {l : List Bool} (hs : BSl H s l) {p : Nat} {a : Args} {n : Int} (i : Nat) (hi : i < l.length) (hlen : l.length ≤ 1000) (from_ : Nat) (hf : from_ ≤ i + 1) :
    tlim (g13_p9_b g12) (s, p, 0, a.lim, a.sz, a.up, a.dn, n, (i : Int), false, (from_ : Int)) H = some ((s, p, 0, a.lim, a.sz, a.up, a.dn, n, (i : Int), wrongIn l from_ (i + 1)), H) := by
  obtain ⟨r, H', e, rfl, rfl⟩ := tlim_inv (b := g13_p9_b g12) (fun st G => G = H ∧ ∃ k : Nat, st = (s, p, 0, a.lim, a.sz, a.up, a.dn, n, (i : Int), wrongIn l from_ k, (k : Int)) ∧ from_ ≤ k ∧ k ≤ i + 1) (fun st => i + 1 - st.2.2.2.2.2.2.2.2.2.2.toNat)
    (fun r G => G = H ∧ r = (s, p, 0, a.lim, a.sz, a.up, a.dn, n, (i : Int), wrongIn l from_ (i + 1))) (by
      rintro st G ⟨rfl, k, rfl, h1, h2⟩
      by_cases hk : k ≤ i
      · left
        have hd : decide ((k : Int) ≤ (i : Int)) = true := by simp; omega
        obtain ⟨id, off, ha, hl⟩ := hs.at (j := k) (by omega)
        refine ⟨(s, p, 0, a.lim, a.sz, a.up, a.dn, n, (i : Int), wrongIn l from_ (k + 1), ((k + 1 : Nat) : Int)), G, ?_, ⟨rfl, k + 1, rfl, by omega, by omega⟩, by dsimp only; omega⟩
        rw [wrongIn_succ h1 (by omega)]
        simp only [g13_p9_b, g13_p8, hd, sel_true]
        rw [w64 (by omega)]
        cases hw : wrongIn l from_ k with
        | true => simp
        | false =>
          simp only [sel_false]
          rw [if_pos (by have := hs.1; omega)]
          simp only [ha, Option.bind_some, Int.toNat_natCast, Nat.mul_one, hl]
          simp
      · right
        have hd : decide ((k : Int) ≤ (i : Int)) = false := by simp; omega
        obtain rfl : k = i + 1 := by omega
        refine ⟨_, G, ?_, rfl, rfl⟩
        simp only [g13_p9_b, g13_p8, hd, sel_false]) (s, p, 0, a.lim, a.sz, a.up, a.dn, n, (i : Int), false, (from_ : Int)) H ⟨rfl, from_, by rw [wrongIn_self], by omega, hf⟩
  exact e

theorem mon_lim (a : Args) : a.mon.lim = a.lim := by unfold Args.mon; split <;> (try split) <;> rfl
theorem lv_step {H : Heap} {s : Sl} {l : List Bool} (hs : BSl H s l) {p : Nat} {a : Args} (ha : a.Ok) (hp : H.get p = some (.cells a.cells 23 false)) (hlen : l.length ≤ 1000) (i : Nat) (hi : i < l.length) (hn : (a.mon.run (l.take i)).lv < a.lim) :
    g13_p24_b g12 (lvS s p a (a.mon.run (l.take i)).lv i) H = some (.go (lvS s p a (a.mon.run (l.take (i + 1))).lv ((i + 1 : Nat) : Int)), H) := by
  have h0 := ha.k; have h1 := ha.l; have h2 := ha.s; have h3 := ha.u; have h4 := ha.d
  have hok := (Args.mon_ok ha).run (l.take i)
  have hlike := a.mon.run_like (l.take i)
  have hat := Ms.at_all (Args.mon_ok ha) a.mon_new l i (by omega)
  unfold Ms.At at hat
  rw [mon_lim] at hat
  obtain ⟨a1, a2⟩ := hat hn
  rw [Ms.run_take hi]
  have hd : decide ((i : Int) < ((s.len : Nat) : Int)) = true := by have := hs.1; simp; omega
  have hdn : decide ((a.mon.run (l.take i)).lv < a.lim) = true := by simpa using hn
  have hld : H.ldI .u8 p 0 = some a.k := ldI_of hp rfl
  obtain ⟨id, off, hsa, hsl⟩ := hs.at hi
  have hlv := hok.lv
  have hll := hlike.lim
  rw [mon_lim] at hll
  have hne : ¬ (a.mon.run (l.take i)).lv = (a.mon.run (l.take i)).lim := by omega
  have hszp : 1 ≤ a.sz ∧ a.sz ≤ 20 := by unfold Args.sz; omega
  have hlimp : 1 ≤ a.lim ∧ a.lim ≤ 40 := by unfold Args.lim; omega
  have hupp : 1 ≤ a.up ∧ a.up ≤ 20 := by unfold Args.up; omega
  have hdnp : 1 ≤ a.dn ∧ a.dn ≤ 20 := by unfold Args.dn; omega
  have hrange : 0 ≤ (i : Int) ∧ (i : Int) < ((s.len : Nat) : Int) := by have := hs.1; omega
  have hsz0 : ¬ a.sz = 0 := by omega
  have w1 : IntKind.wrap .i64 ((i : Int) + 1) = (i : Int) + 1 := w64 (by omega)
  have wn : IntKind.wrap .i64 ((a.mon.run (l.take i)).lv + 1) = (a.mon.run (l.take i)).lv + 1 := w64 (by omega)
  have wn' : IntKind.wrap .i64 ((a.mon.run (l.take i)).lv + 1 - 1) = (a.mon.run (l.take i)).lv := by rw [w64 (by omega)]; omega
  have wm : IntKind.wrap .i64 ((a.mon.run (l.take i)).lv - 1) = (a.mon.run (l.take i)).lv - 1 := w64 (by omega)
  have hem := emod_succ (i := (i : Int)) hszp.1 (by omega)
  have hm0 := Int.emod_nonneg (i : Int) hsz0
  have hm1 := Int.emod_lt_of_pos (i : Int) (show 0 < a.sz by omega)
  have hmle : (i : Int) % a.sz ≤ i := by
    have e1 := Int.emod_add_mul_ediv (i : Int) a.sz
    have e2 : 0 ≤ a.sz * ((i : Int) / a.sz) := Int.mul_nonneg (by omega) (Int.ediv_nonneg (by omega) (by omega))
    omega
  unfold lvS
  simp only [g13_p24_b, g13_p23, g13_p1, hd, hdn, sel_true, g13_p22, g13_p20, g13_p19, g13_p2, Nat.add_zero, hld, Option.bind_some, tmodI h0.1, g13_p18, g13_p17, g13_p3, g13_p16, g13_p21, w1]
  by_cases q0 : a.k % 3 = 0
  · have qk : (a.mon.run (l.take i)).kind = 0 := by rw [hlike.kind]; simp [Args.mon, q0]
    have qsz : (a.mon.run (l.take i)).sz = a.sz := by rw [hlike.sz]; simp [Args.mon, q0]
    have qun : (a.mon.run (l.take i)).un = (i : Int) % a.sz := by have := a1 (by simp [Args.mon, q0]); rw [this]; simp [Args.mon, q0]
    simp only [q0, beq_self_eq_true, sel_true, g13_p4]
    rw [if_pos hrange]
    simp only [hsa, Option.bind_some, Int.toNat_natCast, Nat.mul_one, hsl, if_neg hsz0, w1, wn, wn', wm, tmodI (show (0 : Int) ≤ (i : Int) + 1 by omega), hem]
    generalize hy : a.mon.run (l.take i) = y at *
    have hy1 : clampI (y.lv + 1) y.lim = y.lv + 1 := by unfold clampI; rw [if_neg (by omega), if_pos (by omega)]
    have hy2 : ∀ v, 0 ≤ v → v ≤ y.lim → clampI (v - 1) y.lim = if v > 0 then v - 1 else 0 := fun v a b => by unfold clampI; rw [if_neg (by omega)]; split <;> split <;> omega
    unfold Ms.count
    simp only [qk, hne, if_false, qsz, qun, hy1]
    by_cases hz : (i : Int) % a.sz + 1 = a.sz
    · simp only [hz, if_true, beq_self_eq_true, sel_true]
      cases l[i] with
      | true =>
        simp only [Bool.not_true, sel_false, if_true, hne, if_false]
        rw [hy2 _ (by omega) (by omega)]
        by_cases g0 : y.lv > 0
        · have : decide (y.lv > 0) = true := by simpa using g0
          simp [this, g0, show y.lv < a.lim from hn]
        · have : decide (y.lv > 0) = false := by simpa using g0
          have : y.lv = 0 := by omega
          simp [this]
      | false =>
        simp only [Bool.not_false, sel_true, Bool.false_eq_true, if_false]
        have g1 : decide (y.lv + 1 > 0) = true := by simp; omega
        simp only [g1, sel_true]
        by_cases g2 : y.lv + 1 < a.lim
        · have : decide (y.lv + 1 < a.lim) = true := by simpa using g2
          rw [if_neg (by omega), hy2 _ (by omega) (by omega), if_pos (by omega)]
          simp [this]
        · have : decide (y.lv + 1 < a.lim) = false := by simpa using g2
          rw [if_pos (by omega)]
          simp [this]
    · have hz0 : ((i : Int) % a.sz + 1 == 0) = false := by simp; omega
      simp only [hz, if_false, hz0, sel_false]
      cases l[i] with
      | true => simp
      | false => simp
  · have b0 : (a.k % 3 == 0) = false := by simp [q0]
    simp only [b0, sel_false, g13_p15, g13_p5, g13_p14]
    by_cases q1 : a.k % 3 = 1
    · have qk : (a.mon.run (l.take i)).kind = 1 := by rw [hlike.kind]; simp [Args.mon, q1]
      simp only [q1, beq_self_eq_true, sel_true, g13_p6]
      rw [if_pos hrange]
      simp only [hsa, Option.bind_some, Int.toNat_natCast, Nat.mul_one, hsl, wn]
      generalize hy : a.mon.run (l.take i) = y at *
      have hy1 : clampI (y.lv + 1) y.lim = y.lv + 1 := by unfold clampI; rw [if_neg (by omega), if_pos (by omega)]
      unfold Ms.count
      simp only [qk, hy1]
      cases l[i] with
      | true => simp [w1]
      | false => simp [w1]
    · have b1 : (a.k % 3 == 1) = false := by simp [q1]
      have hk2 : a.mon.kind = 2 := by simp [Args.mon, q0, q1]
      have hmsz : a.mon.sz = a.sz := by simp [Args.mon, q0, q1]
      have hmup : a.mon.up = a.up := by simp [Args.mon, q0, q1]
      have hmdn : a.mon.dn = a.dn := by simp [Args.mon, q0, q1]
      have qk : (a.mon.run (l.take i)).kind = 2 := by rw [hlike.kind, hk2]
      have qsz : (a.mon.run (l.take i)).sz = a.sz := by rw [hlike.sz, hmsz]
      have qup : (a.mon.run (l.take i)).up = a.up := by rw [hlike.up, hmup]
      have qdn : (a.mon.run (l.take i)).dn = a.dn := by rw [hlike.dn, hmdn]
      have qun : (a.mon.run (l.take i)).un = (i : Int) % a.sz := by have := a1 (by omega); rw [this, hmsz]
      have qwr : (a.mon.run (l.take i)).wr = wrongIn l (i - ((i : Int) % a.sz).toNat) i := by have := a2 (by omega) (by omega); rw [this, hmsz]
      have e1 : ∀ v : Int, (if 0 > v then 0 else v) = if v > 0 then v else 0 := fun v => by split <;> split <;> omega
      have wup : IntKind.wrap .i64 ((a.mon.run (l.take i)).lv + a.up) = (a.mon.run (l.take i)).lv + a.up := w64 (by omega)
      have wdn : IntKind.wrap .i64 ((a.mon.run (l.take i)).lv - a.dn) = (a.mon.run (l.take i)).lv - a.dn := w64 (by omega)
      simp only [b1, sel_false, g13_p13, g13_p7, if_neg hsz0, w1, tmodI (show (0 : Int) ≤ (i : Int) + 1 by omega), hem]
      by_cases hz : (i : Int) % a.sz + 1 = a.sz
      · have hfrom : (i : Int) + 1 - a.sz = ((i + 1 - a.sz.toNat : Nat) : Int) := by omega
        have hfrom2 : i - ((i : Int) % a.sz).toNat = i + 1 - a.sz.toNat := by omega
        have wf : IntKind.wrap .i64 ((i : Int) + 1 - a.sz) = ((i + 1 - a.sz.toNat : Nat) : Int) := by rw [w64 (by omega), hfrom]
        have hin := inner (a := a) (p := p) (n := (a.mon.run (l.take i)).lv) hs i hi hlen (i + 1 - a.sz.toNat) (by omega)
        rw [wrongIn_succ (by omega) hi, ← hfrom2, ← qwr] at hin
        rw [hfrom2] at hin
        simp only [hz, if_true, bne_self_eq_false, sel_false, g13_p12, g13_p10, g13_p9, wf, hin, Option.bind_some, g13_p11, wup, wdn, e1]
        generalize hy : a.mon.run (l.take i) = y at *
        have hne' : ¬ y.lv = a.lim := by omega
        have hz2 : ¬ (i : Int) % a.sz + 1 < a.sz := by omega
        unfold Ms.count
        simp only [qk, hll, hne', if_false, qsz, qun, qup, qdn, hz2, w1]
        cases hw : (y.wr || !l[i]) with
        | true =>
          simp only [sel_true, if_true]
          have : clampI (y.lv + a.up) a.lim = if a.lim < y.lv + a.up then a.lim else y.lv + a.up := by
            unfold clampI; split
            · rfl
            · rw [if_pos (by omega)]
          rw [this]; rfl
        | false =>
          simp only [sel_false, Bool.false_eq_true, if_false]
          have : clampI (y.lv - a.dn) a.lim = if y.lv - a.dn > 0 then y.lv - a.dn else 0 := by
            unfold clampI; rw [if_neg (by omega)]
          rw [this]; rfl
      · have hz0 : ((i : Int) % a.sz + 1 != 0) = true := by simp; omega
        simp only [hz, if_false, hz0, sel_true]
        generalize hy : a.mon.run (l.take i) = y at *
        have hz2 : (i : Int) % a.sz + 1 < a.sz := by omega
        unfold Ms.count
        simp only [qk, hne, if_false, qsz, qun, hz2, if_true, w1]
        rfl

/-- the level by the chapter -/
theorem s13 {H : Heap} (hw : H.Wf) {s : Sl} {l : List Bool} (hs : BSl H s l) {a : Args} (ha : a.Ok) (hlen : l.length ≤ 1000) (hlt : ∀ id off, s.a = some (id, off) → id < H.next) : ∃ H', (∀ (R : Type) (K : Int → Heap → Option R), g13 R a.k a.l a.s a.u a.d s H K = K (a.mon.run l).lv H') ∧ H'.Wf ∧ Ext H H' := by
  have g := Heap.gnew H (.cells a.cells 23 false)
  have L0 : (H.new (.cells a.cells 23 false)).ldI .u8 H.next 0 = some a.k := ldI_of g rfl
  have L1 : (H.new (.cells a.cells 23 false)).ldI .u8 H.next 1 = some a.l := ldI_of g rfl
  have L2 : (H.new (.cells a.cells 23 false)).ldI .u8 H.next 2 = some a.s := ldI_of g rfl
  have L3 : (H.new (.cells a.cells 23 false)).ldI .u8 H.next 3 = some a.u := ldI_of g rfl
  have L4 : (H.new (.cells a.cells 23 false)).ldI .u8 H.next 4 = some a.d := ldI_of g rfl
  have e1 : (H.new (.cells [.i .u8 a.k, .i .u8 a.l, .i .u8 a.s, .i .u8 a.u, .i .u8 a.d] 23 false)) = H.new (.cells a.cells 23 false) := rfl
  have hx := (Ext.new H (.cells a.cells 23 false)).trans (Ext.new (H.new (.cells a.cells 23 false)) (.cells a.cells 23 false))
  have hwG := (hw.new (.cells a.cells 23 false)).new (.cells a.cells 23 false)
  have hp : ((H.new (.cells a.cells 23 false)).new (.cells a.cells 23 false)).get H.next = some (.cells a.cells 23 false) := by
    rw [Heap.get_new, if_neg (by simp)]; exact Heap.gnew _ _
  refine ⟨(H.new (.cells a.cells 23 false)).new (.cells a.cells 23 false), fun R K => ?_, hwG, hx⟩
  have hs2 : BSl ((H.new (.cells a.cells 23 false)).new (.cells a.cells 23 false)) s l := hs.mono fun id off h => hx.same id (hlt id off h) fun h => h
  simp only [g13, g13_r, g13_p28, g13_p0, alo, Nat.zero_add, e1, L0, L1, L2, L3, L4, Option.bind_some]
  rw [s12 ha]
  simp only [g13_p27, g13_p25, g13_p24, g13_p26]
  generalize ((H.new (.cells a.cells 23 false)).new (.cells a.cells 23 false)) = G at *
  have hok := Args.mon_ok ha
  have hnew : a.mon.lv = 0 := by unfold Args.mon; split <;> (try split) <;> rfl
  obtain ⟨r, H', e, rfl, rfl⟩ := tlim_inv (b := g13_p24_b g12) (fun st X => X = G ∧ ∃ i : Nat, st = lvS s H.next a (a.mon.run (l.take i)).lv i ∧ i ≤ l.length) (fun st => l.length - st.2.2.2.2.2.2.2.2.toNat)
    (fun r X => X = G ∧ r = (a.mon.run l).lv) (by
      rintro st X ⟨rfl, i, rfl, hi⟩
      by_cases hil : i < l.length
      · by_cases hn : (a.mon.run (l.take i)).lv < a.lim
        · left
          exact ⟨_, X, lv_step hs2 ha hp hlen i hil hn, ⟨rfl, i + 1, rfl, by omega⟩, by simp only [lvS]; omega⟩
        · right
          have hd : decide ((i : Int) < ((s.len : Nat) : Int)) = true := by have := hs2.1; simp; omega
          have hdn : decide ((a.mon.run (l.take i)).lv < a.lim) = false := by simpa using hn
          refine ⟨_, X, ?_, rfl, rfl⟩
          have hov : (a.mon.run (l.take i)).lv = (a.mon.run (l.take i)).lim := by
            have h1 := (hok.run (l.take i)).lv; have h2 := (a.mon.run_like (l.take i)).lim; rw [mon_lim] at h2; omega
          have : (a.mon.run l).lv = (a.mon.run (l.take i)).lv := by
            conv => lhs; rw [← List.take_append_drop i l, Ms.run_append, Ms.run_over (hok.run _) hov]
          rw [this]
          unfold lvS
          simp only [g13_p24_b, g13_p23, g13_p1, hd, hdn, sel_true, sel_false]
      · right
        obtain rfl : i = l.length := by omega
        have hd : decide (((l.length : Nat) : Int) < ((s.len : Nat) : Int)) = false := by have := hs2.1; simp; omega
        refine ⟨_, X, ?_, rfl, rfl⟩
        rw [List.take_length]
        unfold lvS
        simp only [g13_p24_b, g13_p23, g13_p1, hd, sel_false]) (lvS s H.next a 0 0) G ⟨rfl, 0, by simp [lvS, Ms.run_nil, hnew], by omega⟩
  have e' : tlim (g13_p24_b g12) (s, H.next, 0, a.lim, a.sz, a.up, a.dn, 0, 0) H' = some ((a.mon.run l).lv, H') := e
  rw [e']
  rfl
end Go.Proofs.Ytbkncpmgpogakaa
