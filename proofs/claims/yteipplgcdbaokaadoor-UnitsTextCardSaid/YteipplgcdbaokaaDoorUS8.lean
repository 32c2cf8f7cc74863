/- UnitsDecode. -/
import Derived.Test.YteipplgcdbaokaaDoorUS7
namespace Go.Proofs.YteipplgcdbaokaaDoor
open Go AM Go.RowKit
set_option linter.unusedVariables false
set_option linter.unusedSimpArgs false

def Un.zero : Un := ⟨0, false, 0, false, 0, 0, []⟩
def nilS : Sl := ⟨none, 0, .ex 0⟩
/-- the head of a unit, from octets -/
def Un.hd (l : List Int) : Un := ⟨l.getD 0 0 % 128, decide (l.getD 0 0 ≥ 128), l.getD 1 0 % 128, decide (l.getD 1 0 ≥ 128), 0, 0, []⟩
def dec (l : List Int) : Un × Int :=
  if l.length < 3 ∨ l.length > 276 then (.zero, 5)
  else if l.getD 2 0 ≠ min ((l.length : Int) - 3) 63 then (.zero, 4)
  else if l.length = 3 then (.hd l, 0)
  else if l.length = 4 then (if l.getD 3 0 > 5 then (.zero, 4) else ({ Un.hd l with k := 1, st := l.getD 3 0 }, 0))
  else ({ Un.hd l with k := 2, ld := l.drop 3 }, 0)
theorem sts_all {H : Heap} {i : Nat} {u v : Un} {s t : Sl} (h : H.get i = some (.cells (u.cells s) 25 false)) : H.sts i 0 (v.cells t) = some (H.put i (.cells (v.cells t) 25 false)) := by
  rw [sts_of h (by simp [Un.cells]) (by simp [Un.cells, V.one])]
  rfl
theorem s15 {H : Heap} (hw : H.Wf) {t : Sl} {l : List Int} (h : BS H t l) (hb : Byt l) (hc : CapOk t) (hm : l.length ≤ 1000) :
    ∃ s' H', (∀ (R : Type) (K : Int → Bool → Int → Bool → Int → Int → Sl → Int → Heap → Option R), g15 R t H K = K (dec l).1.b (dec l).1.bb (dec l).1.f (dec l).1.fb (dec l).1.k (dec l).1.st s' (dec l).2 H') ∧ BS H' s' (dec l).1.ld ∧ CapOk s' ∧ Ext H H' ∧ H'.Wf := by
  have hn : t.len = l.length := h.len
  have g1 := Heap.gnew H (.cells (Un.zero.cells nilS) 25 false)
  have w1 := hw.new (.cells (Un.zero.cells nilS) 25 false)
  have x1 := Ext.new H (.cells (Un.zero.cells nilS) 25 false)
  have hd : ∀ (R : Type) (K : Int → Bool → Int → Bool → Int → Int → Sl → Int → Heap → Option R), g15 R t H K = g15_p0 g26 g31 g32 g27 R t H fun t2_0 t2_1 t3 G => (G.ldI .u8 t2_0 (t2_1 + 0)).bind fun x74 => (G.ldB t2_0 (t2_1 + 1)).bind fun x75 => (G.ldI .u8 t2_0 (t2_1 + 2)).bind fun x76 => (G.ldB t2_0 (t2_1 + 3)).bind fun x77 => (G.ldI .u8 t2_0 (t2_1 + 4)).bind fun x78 => (G.ldI .u8 t2_0 (t2_1 + 5)).bind fun x79 => (G.ldSl t2_0 (t2_1 + 6)).bind fun x80 => K x74 x75 x76 x77 x78 x79 x80 t3 G := fun _ _ => rfl
  -- how it ends
  have fin : ∀ {R : Type} (K : Int → Bool → Int → Bool → Int → Int → Sl → Int → Heap → Option R) (G : Heap) (u : Un) (s : Sl) (e : Int), G.get H.next = some (.cells (u.cells s) 25 false) →
      ((G.ldI .u8 H.next (0 + 0)).bind fun x74 => (G.ldB H.next (0 + 1)).bind fun x75 => (G.ldI .u8 H.next (0 + 2)).bind fun x76 => (G.ldB H.next (0 + 3)).bind fun x77 => (G.ldI .u8 H.next (0 + 4)).bind fun x78 => (G.ldI .u8 H.next (0 + 5)).bind fun x79 => (G.ldSl H.next (0 + 6)).bind fun x80 => K x74 x75 x76 x77 x78 x79 x80 e G) = K u.b u.bb u.f u.fb u.k u.st s e G := by
    intro R K G u s e hG
    obtain ⟨a0, a1, a2, a3, a4, a5, a6⟩ := ldU (H0 := H) hG
    simp only [Nat.zero_add, a0, a1, a2, a3, a4, a5, a6, Option.bind_some]
  have e26 := fun (R : Type) (H : Heap) (a b : Int) K => @s26 R H a b K
  generalize hG1 : H.new (.cells (Un.zero.cells nilS) 25 false) = G1 at *
  have hz : [V.i IntKind.u8 0, V.b false, V.i IntKind.u8 0, V.b false, V.i IntKind.u8 0, V.i IntKind.u8 0, V.sl (Sl.mk none 0 (.ex 0))] = Un.zero.cells nilS := rfl
  have w3 : IntKind.wrap .i64 (((t.len : Nat) : Int) - 3) = (l.length : Int) - 3 := by rw [w64 (by omega)]; omega
  have zput := fun (e : Int) => (rfl : (0 : Int) = 0)
  have p1 := sts_all (v := Un.zero) (t := nilS) g1
  have gz := Heap.gput G1 H.next (.cells (Un.zero.cells nilS) 25 false)
  have xz : Ext H (G1.put H.next (.cells (Un.zero.cells nilS) 25 false)) := x1.above (Nat.le_refl _) _
  have wz := w1.put g1 (.cells (Un.zero.cells nilS) 25 false)
  by_cases c1 : l.length < 3
  · have c1' : decide ((l.length : Int) - 3 < 0) = true := by simp; omega
    have ed : dec l = (.zero, 5) := by unfold dec; rw [if_pos (.inl c1)]
    rw [ed]
    refine ⟨nilS, _, fun R K => ?_, .nil _, Nat.le_refl _, xz, wz⟩
    rw [hd]
    unfold g15_p0 alo
    simp only [hz, hG1, w3, c1', sel_true, p1, Option.bind_some]
    exact fin K _ .zero nilS 5 gz
  have c1' : decide ((l.length : Int) - 3 < 0) = false := by simp; omega
  by_cases c2 : l.length > 276
  · have c2' : decide ((l.length : Int) - 3 > 273) = true := by simp; omega
    have ed : dec l = (.zero, 5) := by unfold dec; rw [if_pos (.inr c2)]
    rw [ed]
    refine ⟨nilS, _, fun R K => ?_, .nil _, Nat.le_refl _, xz, wz⟩
    rw [hd]
    unfold g15_p0 alo
    simp only [hz, hG1, w3, c1', c2', sel_false, sel_true, p1, Option.bind_some]
    exact fin K _ .zero nilS 5 gz
  have c2' : decide ((l.length : Int) - 3 > 273) = false := by simp; omega
  have hl0 : l ≠ [] := by intro e; rw [e] at c1; simp at c1
  obtain ⟨q, aq, rd1⟩ := (h.ext hw x1).at hl0
  have r2 : G1.ldI .u8 q.1 (q.2 + Int.toNat 2 * 1) = some (l.getD 2 0) := rd1 2 (by omega)
  have b2 : 0 ≤ (2 : Int) ∧ (2 : Int) < ((t.len : Nat) : Int) := by omega
  have hb2 := hb.getD 2
  have v2 : IntKind.wrap .i64 (l.getD 2 0) = l.getD 2 0 := w64 (by omega)
  by_cases c3 : l.getD 2 0 = min ((l.length : Int) - 3) 63
  · have c3' : (l.getD 2 0 != min ((l.length : Int) - 3) 63) = false := by rw [← c3]; simp
    have g2 := Heap.gnew G1 (.cells (Un.zero.cells nilS) 25 false)
    have w2 := w1.new (.cells (Un.zero.cells nilS) 25 false)
    have x2 := x1.trans (Ext.new G1 (.cells (Un.zero.cells nilS) 25 false))
    have g12 : (G1.new (.cells (Un.zero.cells nilS) 25 false)).get H.next = some (.cells (Un.zero.cells nilS) 25 false) := (Ext.new G1 _).get w1 g1
    have hne : H.next ≠ G1.next := by have := w1 _ _ g1; omega
    have hnn : H.next ≤ G1.next := x1.next
    generalize hj : G1.next = j at *
    generalize hG2 : G1.new (.cells (Un.zero.cells nilS) 25 false) = G2 at *
    obtain ⟨q', aq', rd2⟩ := (h.ext hw x2).at hl0
    have hqq : q' = q := by rw [aq] at aq'; cases aq'; rfl
    subst hqq
    have s31 : ∀ {R : Type} (n : Int) (hn : 0 ≤ n ∧ n ≤ 255) (G : Heap) (K : Int → Bool → Heap → Option R), g31 R n G K = K (n % 128) (decide (n ≥ 128)) G := fun n hn G K => by
      simp only [g31, g31_r, g31_p0]; rw [tmodp hn.1]
    have hb0 := hb.getD 0; have hb1 := hb.getD 1; have hb3 := hb.getD 3
    -- puts at j
    have P : ∀ (u : Un) (s : Sl), (G2.put j (.cells (u.cells s) 25 false)).get j = some (.cells (u.cells s) 25 false) := fun u s => Heap.gput _ _ _
    have S0 : ∀ (u : Un) (s : Sl) (n : Int), (G2.put j (.cells (u.cells s) 25 false)).st j 0 (.i .u8 n) = some (G2.put j (.cells (({ u with b := n } : Un).cells s) 25 false)) := fun u s n => by rw [st_of (P u s) (by simp [Un.cells]) rfl, Heap.put_put]; rfl
    have S1 : ∀ (u : Un) (s : Sl) (n : Bool), (G2.put j (.cells (u.cells s) 25 false)).st j 1 (.b n) = some (G2.put j (.cells (({ u with bb := n } : Un).cells s) 25 false)) := fun u s n => by rw [st_of (P u s) (by simp [Un.cells]) rfl, Heap.put_put]; rfl
    have S2 : ∀ (u : Un) (s : Sl) (n : Int), (G2.put j (.cells (u.cells s) 25 false)).st j 2 (.i .u8 n) = some (G2.put j (.cells (({ u with f := n } : Un).cells s) 25 false)) := fun u s n => by rw [st_of (P u s) (by simp [Un.cells]) rfl, Heap.put_put]; rfl
    have S3 : ∀ (u : Un) (s : Sl) (n : Bool), (G2.put j (.cells (u.cells s) 25 false)).st j 3 (.b n) = some (G2.put j (.cells (({ u with fb := n } : Un).cells s) 25 false)) := fun u s n => by rw [st_of (P u s) (by simp [Un.cells]) rfl, Heap.put_put]; rfl
    have S4 : ∀ (u : Un) (s : Sl) (n : Int), (G2.put j (.cells (u.cells s) 25 false)).st j 4 (.i .u8 n) = some (G2.put j (.cells (({ u with k := n } : Un).cells s) 25 false)) := fun u s n => by rw [st_of (P u s) (by simp [Un.cells]) rfl, Heap.put_put]; rfl
    have S5 : ∀ (u : Un) (s : Sl) (n : Int), (G2.put j (.cells (u.cells s) 25 false)).st j 5 (.i .u8 n) = some (G2.put j (.cells (({ u with st := n } : Un).cells s) 25 false)) := fun u s n => by rw [st_of (P u s) (by simp [Un.cells]) rfl, Heap.put_put]; rfl
    have A0 : G2.st j 0 (.i .u8 (l.getD 0 0 % 128)) = some (G2.put j (.cells (({ Un.zero with b := l.getD 0 0 % 128 } : Un).cells nilS) 25 false)) := by rw [st_of g2 (by simp [Un.cells]) rfl]; rfl
    have XP : ∀ o : O, Ext H (G2.put j o) := fun o => x2.above hnn o
    have RD : ∀ (o : O) (i : Nat), i < l.length → (G2.put j o).ldI .u8 q'.1 (q'.2 + i * 1) = some (l.getD i 0) := fun o i hi => by
      obtain ⟨q2, aq2, rd⟩ := (h.ext hw (XP o)).at hl0
      have : q2 = q' := by rw [aq] at aq2; cases aq2; rfl
      subst this; exact rd i hi
    have r0 : G2.ldI .u8 q'.1 (q'.2 + Int.toNat 0 * 1) = some (l.getD 0 0) := rd2 0 (by omega)
    have r1 : ∀ o, (G2.put j o).ldI .u8 q'.1 (q'.2 + Int.toNat 1 * 1) = some (l.getD 1 0) := fun o => RD o 1 (by omega)
    have b0 : 0 ≤ (0 : Int) ∧ (0 : Int) < ((t.len : Nat) : Int) := by omega
    have b1 : 0 ≤ (1 : Int) ∧ (1 : Int) < ((t.len : Nat) : Int) := by omega
    have LU : ∀ (u : Un) (s : Sl), _ := fun u s => ldU (H0 := H) (P u s)
    have GI : ∀ (o : O), (G2.put j o).get H.next = some (.cells (Un.zero.cells nilS) 25 false) := fun o => by rw [Heap.get_put, if_neg hne]; exact g12
    have PI : ∀ (o : O) (v : Un) (s : Sl), (G2.put j o).sts H.next 0 (v.cells s) = some ((G2.put j o).put H.next (.cells (v.cells s) 25 false)) := fun o v s => sts_all (GI o)
    -- the way to the switch
    have start : ∀ {R : Type} (K : Nat → Nat → Int → Heap → Option R), g15_p0 g26 g31 g32 g27 R t H K = sel ((l.length : Int) - 3 == 0)
        (((G2.put j (.cells ((Un.hd l).cells nilS) 25 false)).sts H.next 0 ((Un.hd l).cells nilS)).bind fun h38 => K H.next 0 0 h38)
        (sel ((l.length : Int) - 3 == 1)
          (if 0 ≤ (3 : Int) ∧ (3 : Int) < ((t.len : Nat) : Int) then ((G2.put j (.cells ((Un.hd l).cells nilS) 25 false)).ldI .u8 q'.1 (q'.2 + Int.toNat 3 * 1)).bind fun x40 => sel (decide (x40 > 5))
              (((G2.put j (.cells ((Un.hd l).cells nilS) 25 false)).sts H.next 0 (Un.zero.cells nilS)).bind fun h41 => K H.next 0 4 h41)
              (((G2.put j (.cells ((Un.hd l).cells nilS) 25 false)).ldI .u8 q'.1 (q'.2 + Int.toNat 3 * 1)).bind fun x43 => ((G2.put j (.cells ((Un.hd l).cells nilS) 25 false)).st j 4 (.i .u8 1)).bind fun h45 => (h45.ldI .u8 q'.1 (q'.2 + Int.toNat 3 * 1)).bind fun x46 =>
                if V.same (V.i .u8 x43) (V.i .u8 x46) = true then ((h45.st j 5 (.i .u8 x43)).bind fun h48 => (h48.ldI .u8 j 0).bind fun x49 => (h48.ldB j 1).bind fun x50 => (h48.ldI .u8 j 2).bind fun x51 => (h48.ldB j 3).bind fun x52 => (h48.ldI .u8 j 4).bind fun x53 => (h48.ldI .u8 j 5).bind fun x54 => (h48.ldSl j 6).bind fun x55 =>
                  (h48.sts H.next 0 [(V.i .u8 x49), (V.b x50), (V.i .u8 x51), (V.b x52), (V.i .u8 x53), (V.i .u8 x54), (V.sl x55)]).bind fun h56 => K H.next 0 0 h56) else none) else none)
          (slOf 1 t (some 3) none none fun s57 => g32 R s57 (G2.put j (.cells ((Un.hd l).cells nilS) 25 false)) fun x58 h59 => g27 R x58 h59 fun x60 h61 => (h61.st j 4 (V.i .u8 2)).bind fun h63 => (h63.st j 6 (V.sl x60)).bind fun h65 => (h65.ldI .u8 j 0).bind fun x66 => (h65.ldB j 1).bind fun x67 => (h65.ldI .u8 j 2).bind fun x68 => (h65.ldB j 3).bind fun x69 => (h65.ldI .u8 j 4).bind fun x70 => (h65.ldI .u8 j 5).bind fun x71 => (h65.ldSl j 6).bind fun x72 =>
            (h65.sts H.next 0 [(V.i .u8 x66), (V.b x67), (V.i .u8 x68), (V.b x69), (V.i .u8 x70), (V.i .u8 x71), (V.sl x72)]).bind fun h73 => K H.next 0 0 h73)) := by
      intro R K
      unfold g15_p0 alo
      simp only [hz, hG1, w3, c1', c2', sel_false, aq, Option.bind_some, r2, e26, same_i, if_true, v2, c3', hG2, hj]
      rw [if_pos b2, if_pos b0]
      simp only [r0, Option.bind_some, s31 _ hb0, Nat.zero_add, A0, S1]
      rw [if_pos b1]
      simp only [r1, Option.bind_some, s31 _ hb1, S2, S3]
      rw [show ({ b := (l.getD 0 0 % 128), bb := decide (l.getD 0 0 ≥ 128), f := l.getD 1 0 % 128, fb := decide (l.getD 1 0 ≥ 128), k := Un.zero.k, st := Un.zero.st, ld := Un.zero.ld } : Un) = Un.hd l from rfl]
      obtain ⟨a0, a1, a2, a3, a4, a5, a6⟩ := LU (Un.hd l) nilS
      simp only [a0, a1, a2, a3, a4, a5, a6, Option.bind_some]
      rw [show [(V.i .u8 (Un.hd l).b), (V.b (Un.hd l).bb), (V.i .u8 (Un.hd l).f), (V.b (Un.hd l).fb), (V.i .u8 (Un.hd l).k), (V.i .u8 (Un.hd l).st), (V.sl nilS)] = (Un.hd l).cells nilS from rfl]
      by_cases c5 : 0 ≤ (3 : Int) ∧ (3 : Int) < ((t.len : Nat) : Int)
      · simp only [if_pos c5]
      · simp only [if_neg c5]
    by_cases c4 : l.length = 3
    · have ed : dec l = (.hd l, 0) := by unfold dec; rw [if_neg (by omega), if_neg (by simpa using c3), if_pos c4]
      have c4' : ((l.length : Int) - 3 == 0) = true := by rw [c4]; rfl
      rw [ed]
      refine ⟨nilS, _, fun R K => ?_, .nil _, Nat.le_refl _, (XP (.cells ((Un.hd l).cells nilS) 25 false)).above (Nat.le_refl _) (.cells ((Un.hd l).cells nilS) 25 false), ((w2.put g2 _).put (GI _) _)⟩
      rw [hd, start, c4', sel_true, PI, Option.bind_some]
      exact fin K _ (Un.hd l) nilS 0 (Heap.gput _ _ _)
    have c4' : ((l.length : Int) - 3 == 0) = false := by simp; omega
    by_cases c5 : l.length = 4
    · have c5' : ((l.length : Int) - 3 == 1) = true := by rw [c5]; rfl
      have r3 : ∀ o, (G2.put j o).ldI .u8 q'.1 (q'.2 + Int.toNat 3 * 1) = some (l.getD 3 0) := fun o => RD o 3 (by omega)
      have b3 : 0 ≤ (3 : Int) ∧ (3 : Int) < ((t.len : Nat) : Int) := by omega
      by_cases c6 : l.getD 3 0 > 5
      · have ed : dec l = (.zero, 4) := by unfold dec; rw [if_neg (by omega), if_neg (by simpa using c3), if_neg c4, if_pos c5, if_pos c6]
        have c6' : decide (l.getD 3 0 > 5) = true := by simpa using c6
        rw [ed]
        refine ⟨nilS, _, fun R K => ?_, .nil _, Nat.le_refl _, (XP (.cells ((Un.hd l).cells nilS) 25 false)).above (Nat.le_refl _) (.cells (Un.zero.cells nilS) 25 false), ((w2.put g2 _).put (GI _) _)⟩
        rw [hd, start, c4', sel_false, c5', sel_true, if_pos b3, r3, Option.bind_some, c6', sel_true, PI, Option.bind_some]
        exact fin K _ .zero nilS 4 (Heap.gput _ _ _)
      · have ed : dec l = ({ Un.hd l with k := 1, st := l.getD 3 0 }, 0) := by unfold dec; rw [if_neg (by omega), if_neg (by simpa using c3), if_neg c4, if_pos c5, if_neg c6]
        have c6' : decide (l.getD 3 0 > 5) = false := by simpa using c6
        rw [ed]
        obtain ⟨a0, a1, a2, a3, a4, a5, a6⟩ := LU { Un.hd l with k := 1, st := l.getD 3 0 } nilS
        refine ⟨nilS, _, fun R K => ?_, .nil _, Nat.le_refl _, (XP (.cells (({ Un.hd l with k := 1, st := l.getD 3 0 } : Un).cells nilS) 25 false)).above (Nat.le_refl _) (.cells (({ Un.hd l with k := 1, st := l.getD 3 0 } : Un).cells nilS) 25 false), ((w2.put g2 _).put (GI _) _)⟩
        rw [hd, start, c4', sel_false, c5', sel_true, if_pos b3, r3, Option.bind_some, c6', sel_false]
        simp only [S4, Option.bind_some, r3, same_i, if_true, S5, a0, a1, a2, a3, a4, a5, a6]
        rw [show [(V.i .u8 (Un.hd l).b), (V.b (Un.hd l).bb), (V.i .u8 (Un.hd l).f), (V.b (Un.hd l).fb), (V.i .u8 1), (V.i .u8 (l.getD 3 0)), (V.sl nilS)] = ({ Un.hd l with k := 1, st := l.getD 3 0 } : Un).cells nilS from rfl, PI, Option.bind_some]
        exact fin K _ { Un.hd l with k := 1, st := l.getD 3 0 } nilS 0 (Heap.gput _ _ _)
    · have c5' : ((l.length : Int) - 3 == 1) = false := by simp; omega
      have ed : dec l = ({ Un.hd l with k := 2, ld := l.drop 3 }, 0) := by unfold dec; rw [if_neg (by omega), if_neg (by simpa using c3), if_neg c4, if_neg c5]
      rw [ed]
      have w3' := w2.put g2 (.cells ((Un.hd l).cells nilS) 25 false)
      obtain ⟨s3, e3, bs3, cap3, _⟩ := slOf_from hc (h.ext hw (XP (.cells ((Un.hd l).cells nilS) 25 false))) (k := 3) (by omega)
      obtain ⟨s4, H4, e4, c4k⟩ := clone_ok w3' bs3 (by simp; omega)
      have e5 := fun (R : Type) K => clip_ok (R := R) c4k.cap H4 K
      have gj : H4.get j = some (.cells ((Un.hd l).cells nilS) 25 false) := c4k.ext.get w3' (P _ _)
      have gi : H4.get H.next = some (.cells (Un.zero.cells nilS) 25 false) := c4k.ext.get w3' (GI _)
      have T4 : H4.st j 4 (.i .u8 2) = some (H4.put j (.cells (({ Un.hd l with k := 2 } : Un).cells nilS) 25 false)) := by rw [st_of gj (by simp [Un.cells]) rfl]; rfl
      have T6 : (H4.put j (.cells (({ Un.hd l with k := 2 } : Un).cells nilS) 25 false)).st j 6 (.sl ⟨s4.a, s4.len, .ex s4.len⟩) = some (H4.put j (.cells (({ Un.hd l with k := 2, ld := l.drop 3 } : Un).cells ⟨s4.a, s4.len, .ex s4.len⟩) 25 false)) := by
        rw [st_of (Heap.gput _ _ _) (by simp [Un.cells]) rfl, Heap.put_put]; rfl
      obtain ⟨a0, a1, a2, a3, a4, a5, a6⟩ := ldU (H0 := H) (Heap.gput H4 j (.cells (({ Un.hd l with k := 2, ld := l.drop 3 } : Un).cells ⟨s4.a, s4.len, .ex s4.len⟩) 25 false))
      have gi5 : (H4.put j (.cells (({ Un.hd l with k := 2, ld := l.drop 3 } : Un).cells ⟨s4.a, s4.len, .ex s4.len⟩) 25 false)).get H.next = some (.cells (Un.zero.cells nilS) 25 false) := by rw [Heap.get_put, if_neg hne]; exact gi
      have x4 : Ext H H4 := (XP _).trans c4k.ext
      have w4 := c4k.wf
      refine ⟨⟨s4.a, s4.len, .ex s4.len⟩, (H4.put j (.cells (({ Un.hd l with k := 2, ld := l.drop 3 } : Un).cells ⟨s4.a, s4.len, .ex s4.len⟩) 25 false)).put H.next (.cells (({ Un.hd l with k := 2, ld := l.drop 3 } : Un).cells ⟨s4.a, s4.len, .ex s4.len⟩) 25 false), fun R K => ?_, ?_, Nat.le_refl _, (x4.above hnn _).above (Nat.le_refl _) _, (w4.put gj _).put gi5 _⟩
      · rw [hd, start, c4', sel_false, c5', sel_false]
        have e3' := e3 R
        rw [show ((3 : Nat) : Int) = 3 from rfl] at e3'
        simp only [e3', e4, e5, T4, Option.bind_some, T6, a0, a1, a2, a3, a4, a5, a6]
        rw [show [(V.i .u8 (Un.hd l).b), (V.b (Un.hd l).bb), (V.i .u8 (Un.hd l).f), (V.b (Un.hd l).fb), (V.i .u8 2), (V.i .u8 (Un.hd l).st), (V.sl ⟨s4.a, s4.len, .ex s4.len⟩)] = ({ Un.hd l with k := 2, ld := l.drop 3 } : Un).cells ⟨s4.a, s4.len, .ex s4.len⟩ from rfl, sts_all gi5, Option.bind_some]
        exact fin K _ { Un.hd l with k := 2, ld := l.drop 3 } ⟨s4.a, s4.len, .ex s4.len⟩ 0 (Heap.gput _ _ _)
      · refine (c4k.bs.clipped).mono fun id off o hid ho => ?_
        have hid' : s4.a = some (id, off) := hid
        rcases c4k.own with e | ⟨id', e1, e2, e3⟩
        · have := congrArg List.length e; simp at this; omega
        · rw [e1] at hid'; cases hid'
          have : (G2.put j (.cells ((Un.hd l).cells nilS) 25 false)).next = G2.next := rfl
          have hlt := w2 _ _ g2
          rw [Heap.get_put, if_neg (by have := w2 _ _ g12; omega), Heap.get_put, if_neg (by omega)]
          exact ho
  · have c3' : (l.getD 2 0 != min ((l.length : Int) - 3) 63) = true := by simpa using c3
    have ed : dec l = (.zero, 4) := by unfold dec; rw [if_neg (by omega), if_pos (by simpa using c3)]
    rw [ed]
    refine ⟨nilS, _, fun R K => ?_, .nil _, Nat.le_refl _, xz, wz⟩
    rw [hd]
    unfold g15_p0 alo
    simp only [hz, hG1, w3, c1', c2', sel_false, aq, Option.bind_some, r2, e26, same_i, if_true, v2, c3', sel_true, p1]
    rw [if_pos b2]
    exact fin K _ .zero nilS 4 gz
end Go.Proofs.YteipplgcdbaokaaDoor

