/- A desk in the heap: Request, Confirm, Refuse, Send, Release. -/
import Derived.Test.YtnlfkllnmobppaaCD6
namespace Go.Proofs.Ytnlfkllnmobppaa
open Go AM Go.RowKit
set_option linter.unusedVariables false
set_option linter.unusedSimpArgs false

theorem bne_sel {R : Type} (a b : Int) (f g : Option R) : sel (a != b) f g = if a = b then g else f := by
  by_cases h : a = b
  · rw [if_pos h, show (a != b) = false by simp [h], sel_false]
  · rw [if_neg h, show (a != b) = true by simp [h], sel_true]
section
variable {n0 : Nat} {H : Heap} {x : Nat} {F : Nat → Prop} {D : Dk} {p : Nat} {s : Sc} {us : List Pz}
/-- a step, and the desk behind it -/
structure Got (n0 : Nat) (H : Heap) (x : Nat) (F : Nat → Prop) (H' : Heap) (D' : Dk) : Prop where
  da : DA n0 H' x (grown F H H') D'
  st : Stp n0 H H' F
theorem DA.same (h : DA n0 H x F D) : Got n0 H x F H D := ⟨h.up fun i hi => .inl hi, .refl _ _ _⟩
theorem DA.ext (h : DA n0 H x F D) {G : Heap} (w : G.Wf) (hx : Ext H G) : DA n0 G x F D := by obtain ⟨us, hq⟩ := h.dq; exact (hq.ext w hx).da
/-- Request -/
theorem s18 (h : DA n0 H x F D) (hB : D.Bd) {to cls : Int} (hto : 0 ≤ to) {sl : Sl} {d : List Int} (hd : Dat n0 H sl d) : ∃ H', (∀ (R : Type) (K : Int → Int → Heap → Option R), g18 R (some (x, 0)) to cls sl H K = K (D.request to cls d).1 (D.request to cls d).2.1 H') ∧ Got n0 H x F H' (D.request to cls d).2.2 := by
  have hm := fun (R : Type) (K : Bool → Heap → Option R) => s37 h hB.w K
  have hsl : sl.len = d.length := hd.bs.len
  -- what follows the checks
  have core : ∀ (R : Type) (kR : Int → Int → Heap → Option R), g18_p0 R (some (x, 0)) to cls sl H kR = if 16383 < to ∨ (cls ≠ 2 ∧ cls ≠ 3) then kR 0 1 H else if 200 < d.length then kR 0 3 H else
      g38 R (some (x, 0)) to 0 cls 1 H fun x3 h4 => sel (Option.isNone x3) (kR 0 9 h4) (g36 R sl h4 fun x5 h6 => g39 R (some (x, 0)) x3 1 0 0 cls 0 0 0 x5 h6 fun h7 => x3.bind fun q8 => (h7.ldI .u32 q8.1 (q8.2 + 0)).bind fun x9 => kR x9 0 h7) := fun R kR => by
    simp only [g18_p0, hm, Bool.not_true, sel_false]
    rw [selD]
    by_cases h1 : to > 16383
    · rw [if_pos h1, if_pos (.inl h1)]
    · rw [if_neg h1, bne_sel]
      by_cases h2 : cls = 2
      · rw [if_pos h2, if_neg (by omega), selD]
        by_cases h3 : ((sl.len : Nat) : Int) > 200
        · rw [if_pos h3, if_pos (by omega)]
        · rw [if_neg h3, if_neg (by omega)]
      · rw [if_neg h2, bne_sel]
        by_cases h3 : cls = 3
        · rw [if_pos h3, if_neg (by omega), selD]
          by_cases h3 : ((sl.len : Nat) : Int) > 200
          · rw [if_pos h3, if_pos (by omega)]
          · rw [if_neg h3, if_neg (by omega)]
        · rw [if_neg h3, if_pos (.inr ⟨h2, h3⟩)]
  unfold Dk.request
  by_cases c1 : 16383 < to ∨ (cls ≠ 2 ∧ cls ≠ 3)
  · refine ⟨H, fun R K => ?_, ?_⟩
    · simp only [g18, g18_r]; rw [core, if_pos c1, if_pos c1]
    · rw [if_pos c1]; exact h.same
  by_cases c2 : 200 < d.length
  · refine ⟨H, fun R K => ?_, ?_⟩
    · simp only [g18, g18_r]; rw [core, if_neg c1, if_pos c2, if_neg c1, if_pos c2]
    · rw [if_neg c1, if_pos c2]; exact h.same
  rw [if_neg c1, if_neg c2]
  rcases s38 h (by have := hB.f; omega) to 0 cls 1 with ⟨e1, e2⟩ | ⟨D', s, p, H1, e1, e2, d1, st1⟩
  · refine ⟨H, fun R K => ?_, ?_⟩
    · simp only [g18, g18_r]; rw [core, if_neg c1, if_neg c2, e2, e1]; rfl
    · rw [e1]; exact h.same
  · obtain ⟨s', H2, e3, d2, x2, w2⟩ := s36 d1.da.wf (hd.kp st1.kp) (by omega)
    obtain ⟨us, hq, u, hu, hp, hs⟩ := d1.dq
    have d1' : DP n0 H2 x (grown F H H1) D' p s := by have := (hq.ext w2 x2).dp hu; rw [hp, hs] at this; exact this
    have hout : D'.out = D.out := by
      unfold Dk.add at e1
      split at e1
      · cases e1
      · simp only [Option.some.injEq, Prod.mk.injEq] at e1
        rw [← e1.1]
    obtain ⟨H3, e4, d3, st3⟩ := s39 d1' { k := 1, c := cls, d := d } (sl := s') d2 (by rw [hout]; have := hB.o; omega)
    refine ⟨H3, fun R K => ?_, ?_⟩
    · simp only [g18, g18_r]
      rw [core, if_neg c1, if_neg c2, e2, e1]
      simp only [Option.isNone_some, sel_false, e3, e4, Option.bind_some, Nat.zero_add]
      rw [(ldSc d3.sc).1, Option.bind_some]
    · rw [e1]
      refine ⟨d3.da.up fun i hi => ?_, st1.trans ⟨(x2.fr).trans st3.fr, (Kp.ext x2).trans st3.kp⟩⟩
      have := st1.fr.next; have := x2.next; have := st3.fr.next
      unfold grown at hi ⊢
      rcases hi with (hi | hi) | hi
      · exact .inl hi
      · exact .inr (by omega)
      · exact .inr (by omega)
/-- the states of a method -/
theorem st_ext (hw : H.Wf) (l : List Int) : (H.new (.cells (l.map (V.i .u8)) 96 false)).Wf ∧ Ext H (H.new (.cells (l.map (V.i .u8)) 96 false)) ∧ BS (H.new (.cells (l.map (V.i .u8)) 96 false)) ⟨some (H.next, 0), l.length, .ex l.length⟩ l :=
  ⟨hw.new _, Ext.new _ _, BS.obj (Heap.gnew _ _)⟩
/-- Confirm -/
theorem s27 (h : DA n0 H x F D) (hB : D.Bd) (r : Int) : ∃ H', (∀ (R : Type) (K : Int → Heap → Option R), g27 R (some (x, 0)) r H K = K (D.confirm r).1 H') ∧ Got n0 H x F H' (D.confirm r).2 := by
  obtain ⟨us, hq⟩ := h.dq
  obtain ⟨w0, x0, b0⟩ := st_ext h.wf [2]
  have q0 := hq.ext w0 x0
  have e0 : ∀ (R : Type) (K : Int → Heap → Option R), g27 R (some (x, 0)) r H K = g50 R (some (x, 0)) r ⟨some (H.next, 0), [(2 : Int)].length, .ex [(2 : Int)].length⟩ (H.new (.cells ([2].map (V.i .u8)) 96 false)) fun x3 x4 h5 => sel (x4 != 0) (K x4 h5) (g51 R x3 3 h5 fun h6 => g39 R (some (x, 0)) x3 2 0 0 0 0 0 0 nilS h6 fun h7 => K 0 h7) := fun R K => rfl
  have keep := (⟨(q0.da).up fun i hi => .inl hi, .ext x0⟩ : Got n0 H x F (H.new (.cells ([2].map (V.i .u8)) 96 false)) D)
  unfold Dk.confirm
  rcases s50 q0 hB.w b0 (by decide) r with ⟨f1, f2⟩ | ⟨u, hu, hur, f1, f2⟩
  · exact ⟨_, fun R K => by rw [e0, f2, f1]; rfl, by rw [f1]; exact keep⟩
  · rw [f1]
    simp only
    by_cases c : u.s.st = 2
    · obtain ⟨H1, e1, d1, st1⟩ := s51 (q0.dp hu) 3
      obtain ⟨H2, e2, d2, st2⟩ := s39 d1 { k := 2 } (sl := nilS) (.nil _ _) (by have := hB.o; simp only [Dk.put_out]; omega)
      refine ⟨H2, fun R K => ?_, ?_⟩
      · rw [e0, f2, if_pos (by simp [c]), if_pos c]
        simp only [show ((0 : Int) != 0) = false from rfl, sel_false, e1, e2]
      · rw [if_pos c]
        refine ⟨d2.da.up fun i hi => ?_, ⟨x0.fr.trans (st1.fr.trans st2.fr), (Kp.ext x0).trans (st1.kp.trans st2.kp)⟩⟩
        exact (hi.ext_left st1.fr.next).ext_left x0.next
    · rw [if_neg c]
      exact ⟨_, fun R K => by rw [e0, f2, if_neg (by simpa using c)]; rfl, keep⟩
/-- Refuse -/
theorem s33 (h : DA n0 H x F D) (hB : D.Bd) (r cause : Int) : ∃ H', (∀ (R : Type) (K : Int → Heap → Option R), g33 R (some (x, 0)) r cause H K = K (D.refuse r cause).1 H') ∧ Got n0 H x F H' (D.refuse r cause).2 := by
  obtain ⟨us, hq⟩ := h.dq
  obtain ⟨w0, x0, b0⟩ := st_ext h.wf [2]
  have q0 := hq.ext w0 x0
  have e0 : ∀ (R : Type) (K : Int → Heap → Option R), g33 R (some (x, 0)) r cause H K = g50 R (some (x, 0)) r ⟨some (H.next, 0), [(2 : Int)].length, .ex [(2 : Int)].length⟩ (H.new (.cells ([2].map (V.i .u8)) 96 false)) fun x3 x4 h5 => sel (x4 != 0) (K x4 h5) (sel (decide (cause < 16)) (K 1 h5) (g39 R (some (x, 0)) x3 3 0 0 0 0 0 cause nilS h5 fun h6 => g53 R (some (x, 0)) x3 h6 fun h7 => K 0 h7)) := fun R K => rfl
  have keep := (⟨(q0.da).up fun i hi => .inl hi, .ext x0⟩ : Got n0 H x F (H.new (.cells ([2].map (V.i .u8)) 96 false)) D)
  unfold Dk.refuse
  rcases s50 q0 hB.w b0 (by decide) r with ⟨f1, f2⟩ | ⟨u, hu, hur, f1, f2⟩
  · exact ⟨_, fun R K => by rw [e0, f2, f1]; rfl, by rw [f1]; exact keep⟩
  · rw [f1]
    simp only
    by_cases c : u.s.st = 2
    · rw [if_pos c]
      by_cases c2 : cause < 16
      · rw [if_pos c2]
        refine ⟨_, fun R K => ?_, keep⟩
        rw [e0, f2, if_pos (by simp [c])]
        simp only [show ((0 : Int) != 0) = false from rfl, sel_false, decide_eq_true c2, sel_true]
      · rw [if_neg c2]
        obtain ⟨H1, e1, d1, st1⟩ := s39 (q0.dp hu) { k := 3, u := cause } (sl := nilS) (.nil _ _) (by have := hB.o; omega)
        obtain ⟨H2, e2, d2, st2⟩ := s53 d1
        refine ⟨H2, fun R K => ?_, d2.up fun i hi => hi.ext_left (x0.next) |>.imp id fun hi => ⟨hi.1, Nat.lt_of_lt_of_le hi.2 st2.fr.next⟩, ?_⟩
        · rw [e0, f2, if_pos (by simp [c])]
          simp only [show ((0 : Int) != 0) = false from rfl, sel_false, decide_eq_false c2, e1, e2]
        · have st12 : Stp n0 (H.new (.cells ([2].map (V.i .u8)) 96 false)) H2 F := ⟨st1.fr.join st2.fr, st1.kp.trans st2.kp⟩
          exact .ext_left x0 st12
    · rw [if_neg c]
      exact ⟨_, fun R K => by rw [e0, f2, if_neg (by simpa using c)]; rfl, keep⟩
/-- Release -/
theorem s32 (h : DA n0 H x F D) (hB : D.Bd) (r cause : Int) : ∃ H', (∀ (R : Type) (K : Int → Heap → Option R), g32 R (some (x, 0)) r cause H K = K (D.release r cause).1 H') ∧ Got n0 H x F H' (D.release r cause).2 := by
  obtain ⟨us, hq⟩ := h.dq
  obtain ⟨w0, x0, b0⟩ := st_ext h.wf [1, 3]
  have q0 := hq.ext w0 x0
  have e0 : ∀ (R : Type) (K : Int → Heap → Option R), g32 R (some (x, 0)) r cause H K = g50 R (some (x, 0)) r ⟨some (H.next, 0), [(1 : Int), 3].length, .ex [(1 : Int), 3].length⟩ (H.new (.cells ([1, 3].map (V.i .u8)) 96 false)) fun x3 x4 h5 => sel (x4 != 0) (K x4 h5) (sel (decide (cause < 16)) (K 1 h5) (x3.bind fun q6 => (h5.ldI .u8 q6.1 (q6.2 + 4)).bind fun x7 => sel (x7 == 1) (g53 R (some (x, 0)) x3 h5 fun h8 => K 0 h8) (g39 R (some (x, 0)) x3 7 0 0 0 0 0 cause nilS h5 fun h9 => g51 R x3 4 h9 fun h10 => K 0 h10))) := fun R K => rfl
  have keep := (⟨(q0.da).up fun i hi => .inl hi, .ext x0⟩ : Got n0 H x F (H.new (.cells ([1, 3].map (V.i .u8)) 96 false)) D)
  unfold Dk.release
  rcases s50 q0 hB.w b0 (by decide) r with ⟨f1, f2⟩ | ⟨u, hu, hur, f1, f2⟩
  · exact ⟨_, fun R K => by rw [e0, f2, f1]; rfl, by rw [f1]; exact keep⟩
  · rw [f1]
    simp only
    have ld := (ldSc (q0.sc hu)).2.2.2.2.1
    by_cases c : u.s.st = 1 ∨ u.s.st = 3
    · rw [if_pos c]
      by_cases c2 : cause < 16
      · rw [if_pos c2]
        refine ⟨_, fun R K => ?_, keep⟩
        rw [e0, f2, if_pos (by simpa using c)]
        simp only [show ((0 : Int) != 0) = false from rfl, sel_false, decide_eq_true c2, sel_true]
      · rw [if_neg c2]
        have start : ∀ (R : Type) (K : Int → Heap → Option R), g32 R (some (x, 0)) r cause H K = if u.s.st = 1 then g53 R (some (x, 0)) (some (u.p, 0)) (H.new (.cells ([1, 3].map (V.i .u8)) 96 false)) (fun h8 => K 0 h8) else g39 R (some (x, 0)) (some (u.p, 0)) 7 0 0 0 0 0 cause nilS (H.new (.cells ([1, 3].map (V.i .u8)) 96 false)) fun h9 => g51 R (some (u.p, 0)) 4 h9 fun h10 => K 0 h10 := fun R K => by
          rw [e0, f2, if_pos (by simpa using c)]
          simp only [show ((0 : Int) != 0) = false from rfl, sel_false, decide_eq_false c2, Option.bind_some, Nat.zero_add]
          rw [ld, Option.bind_some, selE]
        by_cases c3 : u.s.st = 1
        · rw [if_pos c3]
          obtain ⟨H1, e1, d1, st1⟩ := s53 (q0.dp hu)
          exact ⟨H1, fun R K => by rw [start, if_pos c3, e1], d1.up fun i hi => .inl hi, .ext_left x0 st1⟩
        · rw [if_neg c3]
          obtain ⟨H1, e1, d1, st1⟩ := s39 (q0.dp hu) { k := 7, u := cause } (sl := nilS) (.nil _ _) (by have := hB.o; omega)
          obtain ⟨H2, e2, d2, st2⟩ := s51 d1 4
          refine ⟨H2, fun R K => ?_, d2.da.up fun i hi => hi.ext_left (x0.next) |>.imp id fun hi => ⟨hi.1, Nat.lt_of_lt_of_le hi.2 st2.fr.next⟩, ?_⟩
          · rw [start, if_neg c3]
            simp only [e1, e2]
          · have st12 : Stp n0 (H.new (.cells ([1, 3].map (V.i .u8)) 96 false)) H2 F := ⟨st1.fr.join st2.fr, st1.kp.trans st2.kp⟩
            exact .ext_left x0 st12
    · rw [if_neg c]
      exact ⟨_, fun R K => by rw [e0, f2, if_neg (by simpa using c)]; rfl, keep⟩
theorem give_w {a : Int} (h : 0 ≤ a ∧ a ≤ 255) : Int.tmod (IntKind.wrap .u8 (a + 1)) 128 = (a + 1) % 128 := by
  have e : IntKind.wrap .u8 (a + 1) = (a + 1) % 256 := by simp [IntKind.wrap, IntKind.bits, IntKind.signed]
  rw [e, tmodp (by omega)]; omega
theorem gap_w (a b : Int) : Int.tmod (IntKind.wrap .i64 (IntKind.wrap .u8 (a - b))) 128 = (a - b) % 256 % 128 := by
  have e : IntKind.wrap .u8 (a - b) = (a - b) % 256 := by simp [IntKind.wrap, IntKind.bits, IntKind.signed]
  rw [e, w64 (by omega), tmodp (by omega)]
theorem gap_w' (a b : Int) : Int.tmod (IntKind.wrap .u8 (a - b)) 128 = (a - b) % 256 % 128 := by
  have e : IntKind.wrap .u8 (a - b) = (a - b) % 256 := by simp [IntKind.wrap, IntKind.bits, IntKind.signed]
  rw [e, tmodp (by omega)]
/-- numbers of sections -/
def Dk.Num (D : Dk) : Prop := ∀ s ∈ D.all, (0 ≤ s.giv ∧ s.giv ≤ 127) ∧ (0 ≤ s.wan ∧ s.wan ≤ 127)
/-- Send -/
theorem s28 (h : DA n0 H x F D) (hB : D.Bd) (hN : D.Num) (r : Int) {sl : Sl} {d : List Int} (hd : Dat n0 H sl d) : ∃ H', (∀ (R : Type) (K : Int → Heap → Option R), g28 R (some (x, 0)) r sl H K = K (D.sendD r d).1 H') ∧ Got n0 H x F H' (D.sendD r d).2 := by
  obtain ⟨us, hq⟩ := h.dq
  obtain ⟨w0, x0, b0⟩ := st_ext h.wf [3]
  have q0 := hq.ext w0 x0
  have hsl : sl.len = d.length := hd.bs.len
  have hd0 : Dat n0 (H.new (.cells ([3].map (V.i .u8)) 96 false)) sl d := hd.kp (.ext x0)
  have keep := (⟨(q0.da).up fun i hi => .inl hi, .ext x0⟩ : Got n0 H x F (H.new (.cells ([3].map (V.i .u8)) 96 false)) D)
  have e0 : ∀ (R : Type) (K : Int → Heap → Option R), g28 R (some (x, 0)) r sl H K = g50 R (some (x, 0)) r ⟨some (H.next, 0), [(3 : Int)].length, .ex [(3 : Int)].length⟩ (H.new (.cells ([3].map (V.i .u8)) 96 false)) (fun x3 x4 h5 =>
    sel (x4 != (0 : Int)) (K x4 h5) (sel (decide (((sl.len : Nat) : Int) > (200 : Int))) (K (3 : Int) h5) (
      (x3).bind fun q6 => ((h5).ldI .u8 q6.1 (q6.2 + 3)).bind fun x7 =>
      sel (x7 == (3 : Int)) (
        (x3).bind fun q8 => ((h5).ldI .u8 q8.1 (q8.2 + 8)).bind fun x9 =>
        (x3).bind fun q10 => ((h5).ldI .u8 q10.1 (q10.2 + 9)).bind fun x11 =>
        (some (x, 0) : Option (Nat × Nat)).bind fun q12 => ((h5).ldI .i64 q12.1 ((q12.2 + 0) + 0)).bind fun x13 =>
        sel (decide ((Int.tmod (IntKind.wrap .i64 (IntKind.wrap .u8 (x9 - x11))) (128 : Int)) ≥ x13)) (K (14 : Int) h5) (
          (x3).bind fun q14 => ((h5).ldI .u8 q14.1 (q14.2 + 8)).bind fun x15 =>
          (x3).bind fun q16 => ((h5).ldI .u8 q16.1 (q16.2 + 10)).bind fun x17 =>
          g36 R sl h5 fun x18 h19 =>
          ((h19).ldI .u8 q16.1 (q16.2 + 10)).bind fun x20 =>
          if V.same (V.i .u8 x17) (V.i .u8 x20) = true then (
            ((h19).ldI .u8 q14.1 (q14.2 + 8)).bind fun x21 =>
            if V.same (V.i .u8 x15) (V.i .u8 x21) = true then (
              g39 R (some (x, 0)) x3 (4 : Int) (0 : Int) (0 : Int) (0 : Int) x15 x17 (0 : Int) x18 h19 fun h22 =>
              (x3).bind fun q23 => ((h22).ldI .u8 q23.1 (q23.2 + 3)).bind fun x24 =>
              sel (x24 == (3 : Int)) (
                (x3).bind fun q25 => ((h22).ldI .u8 q25.1 (q25.2 + 8)).bind fun x26 =>
                (x3).bind fun q27 => ((h22).st q27.1 (q27.2 + 8) (V.i .u8 (Int.tmod (IntKind.wrap .u8 (x26 + (1 : Int))) (128 : Int)))).bind fun h29 => K (0 : Int) h29) (
                K (0 : Int) h22)) else (none)) else (none))) (
        (x3).bind fun q30 => ((h5).ldI .u8 q30.1 (q30.2 + 8)).bind fun x31 =>
        (x3).bind fun q32 => ((h5).ldI .u8 q32.1 (q32.2 + 10)).bind fun x33 =>
        g36 R sl h5 fun x34 h35 =>
        ((h35).ldI .u8 q32.1 (q32.2 + 10)).bind fun x36 =>
        if V.same (V.i .u8 x33) (V.i .u8 x36) = true then (
          ((h35).ldI .u8 q30.1 (q30.2 + 8)).bind fun x37 =>
          if V.same (V.i .u8 x31) (V.i .u8 x37) = true then (
            g39 R (some (x, 0)) x3 (4 : Int) (0 : Int) (0 : Int) (0 : Int) x31 x33 (0 : Int) x34 h35 fun h38 =>
            (x3).bind fun q39 => ((h38).ldI .u8 q39.1 (q39.2 + 3)).bind fun x40 =>
            sel (x40 == (3 : Int)) (
              (x3).bind fun q41 => ((h38).ldI .u8 q41.1 (q41.2 + 8)).bind fun x42 =>
              (x3).bind fun q43 => ((h38).st q43.1 (q43.2 + 8) (V.i .u8 (Int.tmod (IntKind.wrap .u8 (x42 + (1 : Int))) (128 : Int)))).bind fun h45 => K (0 : Int) h45) (
              K (0 : Int) h38)) else (none)) else (none))))) := fun R K => rfl
  unfold Dk.sendD
  rcases s50 q0 hB.w b0 (by decide) r with ⟨f1, f2⟩ | ⟨u, hu, hur, f1, f2⟩
  · exact ⟨_, fun R K => by rw [e0, f2, f1]; rfl, by rw [f1]; exact keep⟩
  rw [f1]
  simp only
  by_cases c : ¬u.s.st = 3
  · rw [if_neg c]
    exact ⟨_, fun R K => by rw [e0, f2, if_neg (by simpa using c)]; rfl, keep⟩
  have c := Decidable.not_not.1 c
  rw [if_pos c]
  by_cases c2 : 200 < d.length
  · rw [if_pos c2]
    refine ⟨_, fun R K => ?_, keep⟩
    rw [e0, f2, if_pos (by simp [c])]
    simp only [show ((0 : Int) != 0) = false from rfl, sel_false]
    rw [decide_eq_true (by omega), sel_true]
  rw [if_neg c2]
  have ld := ldSc (q0.sc hu)
  have hnum := hN u.s (Dk.find_mem f1)
  obtain ⟨s', G1, e3, d3, x3, w3⟩ := s36 w0 hd0 (by omega)
  have q1 := q0.ext w3 x3
  have ld1 := ldSc (q1.sc hu)
  obtain ⟨G2, e4, d4, st4⟩ := s39 (q1.dp hu) { k := 4, n := u.s.giv, x := u.s.wan, d := d } (sl := s') d3 (by have := hB.o; omega)
  have ld2 := ldSc d4.sc
  obtain ⟨a1, a2, a3⟩ := d4.st (k := 8) (v := .i .u8 ((u.s.giv + 1) % 128)) (s' := { u.s with t2 := 0, giv := (u.s.giv + 1) % 128 }) rfl (by decide) rfl rfl
  have st2 : Stp n0 H G2 F := .ext_left x0 (.ext_left x3 st4)
  have up2 : ∀ {i : Nat}, grown F G1 G2 i → grown F H G2 i := fun hi => (hi.ext_left x3.next).ext_left x0.next
  by_cases c3 : u.s.cls = 3
  · by_cases c4 : D.w ≤ (u.s.giv - u.s.ack) % 256 % 128
    · rw [if_pos ⟨c3, c4⟩]
      refine ⟨_, fun R K => ?_, keep⟩
      rw [e0, f2, if_pos (by simp [c])]
      simp only [show ((0 : Int) != 0) = false from rfl, sel_false, Option.bind_some, Nat.zero_add]
      rw [decide_eq_false (by omega), sel_false, ld.2.2.2.1, Option.bind_some, show (u.s.cls == 3) = true by simp [c3], sel_true, ld.2.2.2.2.2.2.2.2.1, Option.bind_some, ld.2.2.2.2.2.2.2.2.2.1, Option.bind_some, q0.da.opts.1, Option.bind_some, gap_w, decide_eq_true c4, sel_true]
    · rw [if_neg (fun h => c4 h.2), if_pos c3]
      refine ⟨_, fun R K => ?_, a2.da.up fun i hi => ?_, ⟨st2.fr.join ?_, st2.kp.trans a3.kp⟩⟩
      · rw [e0, f2, if_pos (by simp [c])]
        simp only [show ((0 : Int) != 0) = false from rfl, sel_false, Option.bind_some, Nat.zero_add]
        rw [decide_eq_false (by omega), sel_false, ld.2.2.2.1, Option.bind_some, show (u.s.cls == 3) = true by simp [c3], sel_true, ld.2.2.2.2.2.2.2.2.1, Option.bind_some, ld.2.2.2.2.2.2.2.2.2.1, Option.bind_some, q0.da.opts.1, Option.bind_some, gap_w, decide_eq_false c4, sel_false, Option.bind_some, ld.2.2.2.2.2.2.2.2.2.2, Option.bind_some]
        simp only [e3, ld1.2.2.2.2.2.2.2.2.2.2, ld1.2.2.2.2.2.2.2.2.1, Option.bind_some, same_i, if_true, e4, ld2.2.2.2.1]
        rw [show (u.s.cls == 3) = true by simp [c3], sel_true, show G2.ldI .u8 u.p 8 = some u.s.giv from ld2.2.2.2.2.2.2.2.2.1, Option.bind_some, give_w (by omega), a1, Option.bind_some]
      · have := up2 hi
        unfold grown at this ⊢
        exact this
      · exact a3.fr.mono fun i _ hi => up2 hi
  · rw [if_neg (fun h => c3 h.1), if_neg c3]
    refine ⟨G2, fun R K => ?_, d4.da.up fun i hi => up2 hi, st2⟩
    rw [e0, f2, if_pos (by simp [c])]
    simp only [show ((0 : Int) != 0) = false from rfl, sel_false, Option.bind_some, Nat.zero_add]
    rw [decide_eq_false (by omega), sel_false, ld.2.2.2.1, Option.bind_some, show (u.s.cls == 3) = false by simpa using c3, sel_false, ld.2.2.2.2.2.2.2.2.1, Option.bind_some, ld.2.2.2.2.2.2.2.2.2.2, Option.bind_some]
    simp only [e3, ld1.2.2.2.2.2.2.2.2.2.2, ld1.2.2.2.2.2.2.2.2.1, Option.bind_some, same_i, if_true, e4, ld2.2.2.2.1]
    rw [show (u.s.cls == 3) = false by simpa using c3, sel_false]
end
end Go.Proofs.Ytnlfkllnmobppaa

