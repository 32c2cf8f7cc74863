/- A desk in the heap: Hear. -/
import Derived.Test.YtnlfkllnmobppaaCD8
namespace Go.Proofs.Ytnlfkllnmobppaa
open Go AM Go.RowKit
set_option linter.unusedVariables false
set_option linter.unusedSimpArgs false

theorem Dk.put_put (D : Dk) {s s' : Sc} (h : s'.ref = s.ref) : (D.put s).put s' = D.put s' := by
  unfold Dk.put
  simp only [List.map_map, Dk.mk.injEq, and_true, true_and]
  refine List.map_congr_left fun b _ => ?_
  simp only [Function.comp]
  by_cases hb : b.ref = s.ref
  · simp [hb, h]
  · simp [hb, h]
theorem Dk.tell_congr (D : Dk) {s s' : Sc} (h1 : s'.ref = s.ref) (h2 : s'.pt = s.pt) (e : Et) : D.tell s' e = D.tell s e := by
  unfold Dk.tell; rw [h1, h2]
theorem acked_f (s : Sc) (n : Int) : (s.acked n).ref = s.ref ∧ (s.acked n).pt = s.pt ∧ (s.acked n).wan = s.wan ∧ (s.acked n).cls = s.cls ∧ (s.acked n).st = s.st ∧ (s.acked n).giv = s.giv := by
  unfold Sc.acked; split <;> exact ⟨rfl, rfl, rfl, rfl, rfl, rfl⟩
section
variable {n0 : Nat} {H : Heap} {x : Nat} {F : Nat → Prop} {D : Dk} {p : Nat} {s : Sc} {us : List Pz}
theorem DP.ext (h : DP n0 H x F D p s) {G : Heap} (w : G.Wf) (hx : Ext H G) : DP n0 G x F D p s := by
  obtain ⟨us, hq, u, hu, hp, hs⟩ := h.dq
  have := (hq.ext w hx).dp hu
  rw [hp, hs] at this; exact this
theorem s59 (h : DP n0 H x F D p s) (hB : D.Bd) (hN : 0 ≤ s.wan ∧ s.wan ≤ 127) {m : Cm} (hk : m.k = 4) {sl : Sl} (hd : Dat n0 H sl m.d) (hl : m.d.length ≤ 1000) : ∃ H', (∀ (R : Type) (K : Heap → Option R), g59 R (some (x, 0)) (some (p, 0)) m.k m.f m.t m.c m.n m.x m.u sl H K = K H') ∧ DA n0 H' x (grown F H H') (D.act s m) ∧ Stp n0 H H' F := by
  have ld := ldSc h.sc
  have ea : D.act s m = if s.st ≠ 3 then D else if s.cls = 2 then D.tell s { what := 4, d := m.d } else if m.n ≠ s.wan then D.close s 5 else
      ((D.put { s.acked m.x with wan := (s.wan + 1) % 128 }).tell s { what := 4, d := m.d }).send { s.acked m.x with wan := (s.wan + 1) % 128 } { k := 5, x := (s.wan + 1) % 128 } := by unfold Dk.act; rw [if_neg (by omega), if_neg (by omega), if_pos hk]
  have hBo := hB.o
  have hBe := hB.e
  rw [ea]
  by_cases c1 : s.st = 3
  · rw [if_neg (fun h => h c1)]
    by_cases c2 : s.cls = 2
    · rw [if_pos c2]
      obtain ⟨s', G1, e1, d1, x1, w1⟩ := s36 h.da.wf hd (by omega)
      obtain ⟨H2, e2, d2, s2⟩ := s56 (h.ext w1 x1) { what := 4, d := m.d } (sl := s') d1 (by omega)
      refine ⟨H2, fun R K => ?_, d2.da.up fun i hi => hi.ext_left x1.next, .ext_left x1 s2⟩
      simp only [g59, g59_r, g59_p0, Option.bind_some, Nat.zero_add, ld.2.2.2.2.1, ld.2.2.2.1]
      rw [show (s.st != 3) = false by simp [c1], sel_false, show (s.cls == 2) = true by simp [c2], sel_true, e1, e2]
    · rw [if_neg c2]
      by_cases c3 : m.n = s.wan
      · rw [if_neg (fun h => h c3)]
        obtain ⟨H1, e1, d1, s1⟩ := s68 h m.x
        obtain ⟨f1, f2, f3, f4, f5, f6⟩ := acked_f s m.x
        have ld1 := ldSc d1.sc
        obtain ⟨a1, a2, a3⟩ := d1.st (k := 10) (v := .i .u8 ((s.wan + 1) % 128)) (s' := { s.acked m.x with wan := (s.wan + 1) % 128 }) rfl (by decide) rfl rfl
        rw [Dk.put_put D (show ({ s.acked m.x with wan := (s.wan + 1) % 128 } : Sc).ref = (s.acked m.x).ref from rfl)] at a2
        have hd2 := (hd.kp s1.kp).kp a3.kp
        obtain ⟨s', G3, e3, d3, x3, w3⟩ := s36 a2.da.wf hd2 (by omega)
        obtain ⟨H4, e4, d4, s4⟩ := s56 (a2.ext w3 x3) { what := 4, d := m.d } (sl := s') d3 (by simp only [Dk.put_evs]; omega)
        rw [Dk.tell_congr _ (s := s) (by exact f1) (by exact f2)] at d4
        have ld4 := ldSc d4.sc
        obtain ⟨H5, e5, d5, s5⟩ := s39 d4 { k := 5, x := (s.wan + 1) % 128 } (sl := nilS) (.nil _ _) (by simp only [Dk.tell_out, Dk.put_out]; omega)
        have st3 : Stp n0 H G3 F := ⟨s1.fr.trans (a3.fr.trans x3.fr), s1.kp.trans (a3.kp.trans (.ext x3))⟩
        have g4 : ∀ i, grown F G3 H4 i → grown F H H4 i := fun i hi => hi.ext_left st3.fr.next
        refine ⟨H5, fun R K => ?_, d5.da.up fun i hi => ?_, ⟨(st3.fr.trans s4.fr).join (s5.fr.mono fun i _ hi => g4 i hi), st3.kp.trans (s4.kp.trans s5.kp)⟩⟩
        · simp only [g59, g59_r, g59_p0, Option.bind_some, Nat.zero_add, ld.2.2.2.2.1, ld.2.2.2.1, ld.2.2.2.2.2.2.2.2.2.2]
          rw [show (s.st != 3) = false by simp [c1], sel_false, show (s.cls == 2) = false by simpa using c2, sel_false, show (m.n != s.wan) = false by simp [c3], sel_false, e1]
          rw [show H1.ldI .u8 p 10 = some s.wan from ld1.2.2.2.2.2.2.2.2.2.2.trans (congrArg some f3), Option.bind_some, give_w (by omega), a1, Option.bind_some, e3]
          rw [show (Sl.mk none 0 (.ex 0)) = nilS from rfl, e4, show H4.ldI .u8 p 10 = some ((s.wan + 1) % 128) from ld4.2.2.2.2.2.2.2.2.2.2, Option.bind_some]
          exact e5 R _
        · have hn4 := s4.fr.next
          have hn3 := st3.fr.next
          rcases hi with hi | hi
          · exact (g4 i hi).le s5.fr.next
          · exact .inr (by omega)
      · rw [if_pos c3]
        obtain ⟨H1, e1, d1, s1⟩ := s66 h (by omega) (by omega) 5
        refine ⟨H1, fun R K => ?_, d1, s1⟩
        simp only [g59, g59_r, g59_p0, Option.bind_some, Nat.zero_add, ld.2.2.2.2.1, ld.2.2.2.1, ld.2.2.2.2.2.2.2.2.2.2]
        rw [show (s.st != 3) = false by simp [c1], sel_false, show (s.cls == 2) = false by simpa using c2, sel_false, show (m.n != s.wan) = true by simpa using c3, sel_true, e1]
  · rw [if_pos c1]
    refine ⟨H, fun R K => ?_, h.da.up fun i hi => .inl hi, .refl _ _ _⟩
    simp only [g59, g59_r, g59_p0, Option.bind_some, Nat.zero_add, ld.2.2.2.2.1]
    rw [show (s.st != 3) = true by simpa using c1, sel_true]
theorem s60 (h : DP n0 H x F D p s) (hB : D.Bd) {m : Cm} (hk : m.k = 5 ∨ m.k = 6) (sl : Sl) : ∃ H', (∀ (R : Type) (K : Heap → Option R), g60 R (some (x, 0)) (some (p, 0)) m.k m.f m.t m.c m.n m.x m.u sl H K = K H') ∧ DA n0 H' x (grown F H H') (D.act s m) ∧ Stp n0 H H' F := by
  have ld := ldSc h.sc
  have ea : D.act s m = if s.st ≠ 3 ∨ s.cls = 2 then D else if m.k = 6 ∧ m.n ≠ s.wan then D.close s 5 else D.put (s.acked m.x) := by unfold Dk.act; rw [if_neg (by omega), if_neg (by omega), if_neg (by omega), if_pos hk]
  have hBo := hB.o
  have hBe := hB.e
  rw [ea]
  have start : ∀ (R : Type) (K : Heap → Option R), g60 R (some (x, 0)) (some (p, 0)) m.k m.f m.t m.c m.n m.x m.u sl H K = if s.st ≠ 3 ∨ s.cls = 2 then K H else if m.k = 6 ∧ m.n ≠ s.wan then g66 R (some (x, 0)) (some (p, 0)) 5 H K else g68 R (some (p, 0)) m.x H K := fun R K => by
    simp only [g60, g60_r, g60_p0, Option.bind_some, Nat.zero_add, ld.2.2.2.2.1, ld.2.2.2.1, ld.2.2.2.2.2.2.2.2.2.2, selE, selN]
    by_cases c1 : s.st = 3 <;> by_cases c2 : s.cls = 2 <;> by_cases c3 : m.k = 6 <;> by_cases c4 : m.n = s.wan <;> simp [c1, c2, c3, c4]
  by_cases c1 : s.st ≠ 3 ∨ s.cls = 2
  · rw [if_pos c1]
    exact ⟨H, fun R K => by rw [start, if_pos c1], h.da.up fun i hi => .inl hi, .refl _ _ _⟩
  · rw [if_neg c1]
    by_cases c2 : m.k = 6 ∧ m.n ≠ s.wan
    · rw [if_pos c2]
      obtain ⟨H1, e1, d1, s1⟩ := s66 h (by omega) (by omega) 5
      exact ⟨H1, fun R K => by rw [start, if_neg c1, if_pos c2, e1], d1, s1⟩
    · rw [if_neg c2]
      obtain ⟨H1, e1, d1, s1⟩ := s68 h m.x
      exact ⟨H1, fun R K => by rw [start, if_neg c1, if_neg c2, e1], d1.da.up fun i hi => .inl hi, s1⟩
/-- asked -/
theorem s42 (h : DA n0 H x F D) (hB : D.Bd) (fr : Int) (m : Cm) {sl : Sl} (hd : Dat n0 H sl m.d) (hl : m.d.length ≤ 1000) : ∃ H', (∀ (R : Type) (K : Heap → Option R), g42 R (some (x, 0)) fr m.k m.f m.t m.c m.n m.x m.u sl H K = K H') ∧ DA n0 H' x (grown F H H') (D.asked fr m) ∧ Stp n0 H H' F := by
  have hBo := hB.o
  have hBe := hB.e
  unfold Dk.asked
  rcases s38 h (by have := hB.f; omega) fr m.f m.c 2 with ⟨e1, e2⟩ | ⟨D', s, p, H1, e1, e2, d1, st1⟩
  · rw [e1]
    obtain ⟨us, hq⟩ := h.dq
    obtain ⟨so, H', b1, b2, b3, b4⟩ := hq.post ⟨fr, { k := 3, t := m.f, u := 3 }⟩ (sl := nilS) (.nil _ _) (by omega)
    refine ⟨H', fun R K => ?_, b3.da, b4⟩
    simp only [g42, g42_r, g42_p0, e2, Option.isNone_none, sel_true, Option.bind_some, Nat.zero_add, b1]
    exact b2 R K
  · rw [e1]
    simp only
    obtain ⟨s', G2, e3, d2, x2, w2⟩ := s36 d1.da.wf (hd.kp st1.kp) (by omega)
    have hev : D'.evs = D.evs := by
      unfold Dk.add at e1
      split at e1
      · cases e1
      · simp only [Option.some.injEq, Prod.mk.injEq] at e1
        rw [← e1.1]
    obtain ⟨H3, e4, d3, st3⟩ := s56 (d1.ext w2 x2) { what := 1, cls := m.c, d := m.d } (sl := s') d2 (by rw [hev]; omega)
    have n1 := st1.fr.next
    refine ⟨H3, fun R K => ?_, d3.da.up fun i hi => ?_, st1.trans ⟨x2.fr.trans st3.fr, (Kp.ext x2).trans st3.kp⟩⟩
    · simp only [g42, g42_r, g42_p0, e2, Option.isNone_some, sel_false, e3]
      exact e4 R K
    · have := x2.next; have := st3.fr.next
      unfold grown at hi ⊢
      rcases hi with (hi | hi) | hi
      · exact .inl hi
      · exact .inr (by omega)
      · exact .inr (by omega)
theorem eq22 (a b : Int) : eqV Try.prog 30 22 (.i .u8 a) (.i .u8 b) = some (a == b) := by kernel_rfl
theorem und106 : Try.prog.underlying 106 = some (.map 22 105) := by kernel_rfl
theorem key22 (n : Int) : keyV Try.prog 22 (.i .u8 n) = true := by kernel_rfl
abbrev Ac := Int × V × Nat
abbrev acs (l : List Ac) : List (V × V × Nat) := l.map (mEnt .u8 (fun a : Ac => a.1) (fun a => a.2.1) (fun a => a.2.2))
theorem ac_set {G : Heap} {m : Nat} {l : List Ac} (hm : G.get m = some (.map (acs l) l.length)) (hw : G.Wf) (hx : Ext H G) (hn : H.next ≤ m) (k : Int) (v : V) (hno : ∀ a ∈ l, a.1 ≠ k) : ∃ G', (∀ (R : Type) (K : V → Heap → Option R), mapSet Try.prog G 106 (.m (some m)) (.i .u8 k) v K = K (.tup []) G') ∧ G'.get m = some (.map (acs (l ++ [(k, v, l.length)])) (l ++ [(k, v, l.length)]).length) ∧ G'.Wf ∧ Ext H G' := by
  refine ⟨_, fun R K => ?_, Heap.gput G m _, hw.put hm _, hx.above hn _⟩
  have := mset_new (mt := 106) .u8 (fun a : Ac => a.1) (fun a => a.2.1) (fun a => a.2.2) eq22 und106 key22 hm k hno v K
  rw [this]
  simp only [acs, List.map_append, List.map_cons, List.map_nil, List.length_append, List.length_cons, List.length_nil]
  rfl
def acts7 : List Ac := [(2, .fn (.func 57) [] [], 0), (3, .fn (.func 58) [] [], 1), (4, .fn (.func 59) [] [], 2), (5, .fn (.func 60) [] [], 3), (6, .fn (.func 60) [] [], 4), (7, .fn (.func 61) [] [], 5), (8, .fn (.func 62) [] [], 6)]
/-- actions -/
theorem s44 (hw : H.Wf) : ∃ H', (∀ (R : Type) (K : Option Nat → Heap → Option R), g44 R H K = K (some H.next) H') ∧ getMap H' (some H.next) = some (acs acts7, 7) ∧ Ext H H' ∧ H'.Wf := by
  have w0 := hw.new (.map [] 0)
  have x0 := Ext.new H (.map [] 0)
  have g0 : (H.new (.map [] 0)).get H.next = some (.map (acs []) ([] : List Ac).length) := Heap.gnew _ _
  obtain ⟨G1, e1, g1, w1, x1⟩ := ac_set g0 w0 x0 (Nat.le_refl _) 2 (.fn (.func 57) [] []) (by simp)
  obtain ⟨G2, e2, g2, w2, x2⟩ := ac_set g1 w1 x1 (Nat.le_refl _) 3 (.fn (.func 58) [] []) (by simp)
  obtain ⟨G3, e3, g3, w3, x3⟩ := ac_set g2 w2 x2 (Nat.le_refl _) 4 (.fn (.func 59) [] []) (by simp)
  obtain ⟨G4, e4, g4, w4, x4⟩ := ac_set g3 w3 x3 (Nat.le_refl _) 5 (.fn (.func 60) [] []) (by simp)
  obtain ⟨G5, e5, g5, w5, x5⟩ := ac_set g4 w4 x4 (Nat.le_refl _) 6 (.fn (.func 60) [] []) (by simp)
  obtain ⟨G6, e6, g6, w6, x6⟩ := ac_set g5 w5 x5 (Nat.le_refl _) 7 (.fn (.func 61) [] []) (by simp)
  obtain ⟨G7, e7, g7, w7, x7⟩ := ac_set g6 w6 x6 (Nat.le_refl _) 8 (.fn (.func 62) [] []) (by simp)
  refine ⟨G7, fun R K => ?_, ?_, x7, w7⟩
  · simp only [g44, g44_r, g44_p0, alo, e1, e2, e3, e4, e5, e6, e7]
  · simp only [getMap, g7]; rfl
theorem find_act (k : Int) : findE Try.prog 22 (.i .u8 k) (acs acts7) 0 = some (mAt (fun a : Ac => a.1) (fun a => a.2.1) k acts7 0) := mfind_at .u8 _ _ _ eq22 k _ 0
theorem exR0 {R : Type} (K : V → Option R) : exR Try.prog 0 (.tup []) K = K (.tup []) := by kernel_rfl
section
variable {R : Type} (a b : Option (Nat × Nat)) (k f t c n y u : Int) (sl : Sl) (G : Heap) (K : V → Heap → Option R)
theorem cv57 : callV (E25) (.fn (.func 57) [] []) [.p a, .p b, .agg [.i .u8 k, .i .u32 f, .i .u32 t, .i .u8 c, .i .u8 n, .i .u8 y, .i .u8 u, .sl sl]] G K = g57 R a b k f t c n y u sl G (fun H => K (.tup []) H) := by kernel_rfl
theorem cv58 : callV (E25) (.fn (.func 58) [] []) [.p a, .p b, .agg [.i .u8 k, .i .u32 f, .i .u32 t, .i .u8 c, .i .u8 n, .i .u8 y, .i .u8 u, .sl sl]] G K = g58 R a b k f t c n y u sl G (fun H => K (.tup []) H) := by kernel_rfl
theorem cv59 : callV (E25) (.fn (.func 59) [] []) [.p a, .p b, .agg [.i .u8 k, .i .u32 f, .i .u32 t, .i .u8 c, .i .u8 n, .i .u8 y, .i .u8 u, .sl sl]] G K = g59 R a b k f t c n y u sl G (fun H => K (.tup []) H) := by kernel_rfl
theorem cv60 : callV (E25) (.fn (.func 60) [] []) [.p a, .p b, .agg [.i .u8 k, .i .u32 f, .i .u32 t, .i .u8 c, .i .u8 n, .i .u8 y, .i .u8 u, .sl sl]] G K = g60 R a b k f t c n y u sl G (fun H => K (.tup []) H) := by kernel_rfl
theorem cv61 : callV (E25) (.fn (.func 61) [] []) [.p a, .p b, .agg [.i .u8 k, .i .u32 f, .i .u32 t, .i .u8 c, .i .u8 n, .i .u8 y, .i .u8 u, .sl sl]] G K = g61 R a b k f t c n y u sl G (fun H => K (.tup []) H) := by kernel_rfl
theorem cv62 : callV (E25) (.fn (.func 62) [] []) [.p a, .p b, .agg [.i .u8 k, .i .u32 f, .i .u32 t, .i .u8 c, .i .u8 n, .i .u8 y, .i .u8 u, .sl sl]] G K = g62 R a b k f t c n y u sl G (fun H => K (.tup []) H) := by kernel_rfl
end
/-- the call of the function of a message -/
theorem call_act (h : DP n0 H x F D p s) (hB : D.Bd) (hN : 0 ≤ s.wan ∧ s.wan ≤ 127) {m : Cm} (hk : 2 ≤ m.k ∧ m.k ≤ 8) {sl : Sl} (hd : Dat n0 H sl m.d) (hl : m.d.length ≤ 1000) : ∃ f H', mAt (fun a : Ac => a.1) (fun a => a.2.1) m.k acts7 0 = some f ∧ V.one f.2 = true ∧ (∀ (R : Type) (K : V → Heap → Option R), callV (E25) f.2 [.p (some (x, 0)), .p (some (p, 0)), .agg [.i .u8 m.k, .i .u32 m.f, .i .u32 m.t, .i .u8 m.c, .i .u8 m.n, .i .u8 m.x, .i .u8 m.u, .sl sl]] H K = K (.tup []) H') ∧ DA n0 H' x (grown F H H') (D.act s m) ∧ Stp n0 H H' F := by
  have hm : m.k = 2 ∨ m.k = 3 ∨ m.k = 4 ∨ m.k = 5 ∨ m.k = 6 ∨ m.k = 7 ∨ m.k = 8 := by omega
  rcases hm with e | e | e | e | e | e | e
  · obtain ⟨H', e1, d1, s1⟩ := s57 h hB e sl
    exact ⟨(0, .fn (.func 57) [] []), H', by rw [e]; rfl, rfl, fun R K => (cv57 ..).trans (e1 R _), d1, s1⟩
  · obtain ⟨H', e1, d1, s1⟩ := s58 h hB e sl
    exact ⟨(1, .fn (.func 58) [] []), H', by rw [e]; rfl, rfl, fun R K => (cv58 ..).trans (e1 R _), d1, s1⟩
  · obtain ⟨H', e1, d1, s1⟩ := s59 h hB hN e hd hl
    exact ⟨(2, .fn (.func 59) [] []), H', by rw [e]; rfl, rfl, fun R K => (cv59 ..).trans (e1 R _), d1, s1⟩
  · obtain ⟨H', e1, d1, s1⟩ := s60 h hB (.inl e) sl
    exact ⟨(3, .fn (.func 60) [] []), H', by rw [e]; rfl, rfl, fun R K => (cv60 ..).trans (e1 R _), d1, s1⟩
  · obtain ⟨H', e1, d1, s1⟩ := s60 h hB (.inr e) sl
    exact ⟨(4, .fn (.func 60) [] []), H', by rw [e]; rfl, rfl, fun R K => (cv60 ..).trans (e1 R _), d1, s1⟩
  · obtain ⟨H', e1, d1, s1⟩ := s61 h hB e sl
    exact ⟨(5, .fn (.func 61) [] []), H', by rw [e]; rfl, rfl, fun R K => (cv61 ..).trans (e1 R _), d1, s1⟩
  · obtain ⟨H', e1, d1, s1⟩ := s62 h e sl
    exact ⟨(6, .fn (.func 62) [] []), H', by rw [e]; rfl, rfl, fun R K => (cv62 ..).trans (e1 R _), d1, s1⟩
/-- a stray message -/
theorem q25_1 (fr : Int) (m : Cm) (sl : Sl) {R : Type} (kN : Heap → Option R) : g25_p3 R (some (x, 0)) fr m.k m.k m.f m.t m.c m.n m.x m.u sl H kN = g25_p2 R (some (x, 0)) fr m.k (decide (m.k = 2 ∨ m.k = 4 ∨ m.k = 5 ∨ m.k = 6)) m.k m.f m.t m.c m.n m.x m.u sl H kN := by
  simp only [g25_p3, g25_p1, selE]
  by_cases h2 : m.k = 2
  · simp [h2]
  by_cases h4 : m.k = 4
  · simp [h4]
  by_cases h5 : m.k = 5
  · simp [h5]
  by_cases h6 : m.k = 6
  · simp [h6]
  · rw [if_neg h2, if_neg h4, if_neg h5, show (m.k == 6) = false by simpa using h6, decide_eq_false (by omega)]
theorem s25s (h : DA n0 H x F D) (hB : D.Bd) (fr : Int) (m : Cm) (sl : Sl) : ∃ H', (∀ (R : Type) (kN : Heap → Option R), g25_p3 R (some (x, 0)) fr m.k m.k m.f m.t m.c m.n m.x m.u sl H kN = kN H') ∧ DA n0 H' x (grown F H H') (D.stray fr m) ∧ Stp n0 H H' F := by
  have hBo := hB.o
  obtain ⟨us, hq⟩ := h.dq
  unfold Dk.stray
  by_cases c1 : m.k = 2 ∨ m.k = 4 ∨ m.k = 5 ∨ m.k = 6
  · rw [if_pos c1]
    obtain ⟨so, H', b1, b2, b3, b4⟩ := hq.post ⟨fr, { k := 7, f := m.t, t := m.f, u := 4 }⟩ (sl := nilS) (.nil _ _) (by omega)
    refine ⟨H', fun R K => ?_, b3.da, b4⟩
    rw [q25_1, decide_eq_true c1]
    simp only [g25_p2, sel_true, Option.bind_some, Nat.zero_add, b1]
    exact b2 R K
  · rw [if_neg c1]
    by_cases c2 : m.k = 7
    · rw [if_pos c2]
      obtain ⟨so, H', b1, b2, b3, b4⟩ := hq.post ⟨fr, { k := 8, f := m.t, t := m.f }⟩ (sl := nilS) (.nil _ _) (by omega)
      refine ⟨H', fun R K => ?_, b3.da, b4⟩
      rw [q25_1, decide_eq_false c1]
      simp only [g25_p2, sel_false, Option.bind_some, Nat.zero_add, b1]
      rw [show (m.k == 7) = true by simp [c2], sel_true]
      exact b2 R K
    · rw [if_neg c2]
      refine ⟨H, fun R K => ?_, h.up fun i hi => .inl hi, .refl _ _ _⟩
      rw [q25_1, decide_eq_false c1]
      simp only [g25_p2, sel_false]
      rw [show (m.k == 7) = false by simpa using c2, sel_false]
/-- Hear -/
theorem s25 (h : DA n0 H x F D) (hB : D.Bd) (hN : D.Num) {fr : Int} {m : Cm} (hm : m.Ok) {sl : Sl} (hd : Dat n0 H sl m.d) : ∃ H', (∀ (R : Type) (K : Int → Heap → Option R), g25 R (some (x, 0)) fr m.k m.f m.t m.c m.n m.x m.u sl H K = K (D.hear fr m).1 H') ∧ Got n0 H x F H' (D.hear fr m).2 := by
  obtain ⟨us, hq⟩ := h.dq
  have core : ∀ (R : Type) (K : Int → Heap → Option R), g25 R (some (x, 0)) fr m.k m.f m.t m.c m.n m.x m.u sl H K = if 16383 < fr then K 1 H else if m.ck ≠ 0 then K m.ck H else if m.k = 1 then g42 R (some (x, 0)) fr m.k m.f m.t m.c m.n m.x m.u sl H (fun h168 => K 0 h168) else
      g43 R (some (x, 0)) fr m.k m.f m.t m.c m.n m.x m.u sl H fun x169 h170 => sel (!(Option.isNone x169)) (
            (x169).bind fun q171 =>
            ((h170).st q171.1 ((q171.2 + 5) + 1) (V.i .i64 (0 : Int))).bind fun h173 =>
            g44 R h173 fun x174 h175 =>
            ((getMap h175 x174)).bind fun m176 =>
            ((findE Try.prog 22 (V.i .u8 m.k) m176.1 0)).bind fun q177 =>
            fnd q177 (fun j178 x179 =>
              if (V.one x179) = true then (
                callV (E25) x179 [(V.p (some (x, 0))), (V.p x169), (V.agg [(V.i .u8 m.k), (V.i .u32 m.f), (V.i .u32 m.t), (V.i .u8 m.c), (V.i .u8 m.n), (V.i .u8 m.x), (V.i .u8 m.u), (V.sl sl)])] h175 fun x180 h181 =>
                exR Try.prog 0 x180 fun x182 =>
                K (0 : Int) h181)
              else (none)) (none)) (g25_p3 R (some (x, 0)) fr m.k m.k m.f m.t m.c m.n m.x m.u sl h170 fun H => K 0 H) := fun R K => by
    simp only [g25, g25_r, g25_p7, g25_p0, g25_p6, g25_p5, g25_p4, s37 h hB.w, Bool.not_true, sel_false, s12 hm hd.bs.len, selD, selN, selE]
    by_cases c1 : 16383 < fr
    · rw [if_pos c1, if_pos c1]
    · rw [if_neg c1, if_neg c1]
      by_cases c2 : m.ck = 0
      · rw [if_pos c2, if_neg (show ¬(m.ck ≠ 0) from fun h => h c2)]
      · rw [if_neg c2, if_pos (show m.ck ≠ 0 from c2)]
  unfold Dk.hear
  by_cases c1 : 16383 < fr
  · rw [if_pos c1]
    exact ⟨H, fun R K => by rw [core, if_pos c1], h.same⟩
  rw [if_neg c1]
  by_cases c2 : m.ck ≠ 0
  · rw [if_pos c2]
    exact ⟨H, fun R K => by rw [core, if_neg c1, if_pos c2], h.same⟩
  rw [if_neg c2]
  have c2' : m.ck = 0 := Decidable.not_not.1 c2
  have hgd : m.d.length ≤ 200 ∧ m.Gd := by
    unfold Cm.ck at c2'
    by_cases h1 : m.d.length > 200
    · rw [if_pos h1] at c2'; cases c2'
    · rw [if_neg h1] at c2'
      by_cases h2 : m.Gd
      · exact ⟨by omega, h2⟩
      · rw [if_neg h2] at c2'; cases c2'
  by_cases c3 : m.k = 1
  · rw [if_pos c3]
    obtain ⟨H', e1, d1, s1⟩ := s42 h hB fr m hd (by omega)
    exact ⟨H', fun R K => by rw [core, if_neg c1, if_neg c2, if_pos c3, e1], d1, s1⟩
  rw [if_neg c3]
  rcases s43 hq fr m sl with ⟨f1, f2⟩ | ⟨u, hu, f1, f2⟩
  · rw [f1]
    obtain ⟨H', e1, d1, s1⟩ := s25s h hB fr m sl
    refine ⟨H', fun R K => ?_, d1, s1⟩
    rw [core, if_neg c1, if_neg c2, if_neg c3, f2]
    simp only [Option.isNone_none, Bool.not_true, sel_false]
    exact e1 R _
  · rw [f1]
    have hnum := hN u.s (by
      have := hq.dp hu
      exact Dk.find_mem this.found)
    obtain ⟨a1, a2, a3⟩ := (hq.dp hu).st (k := 6) (v := .i .i64 0) (s' := { u.s with t1 := 0 }) rfl (by decide) rfl rfl
    obtain ⟨G, e2, gm, x2, w2⟩ := s44 a2.da.wf
    obtain ⟨f, H', f3, f4, f5, d5, s5⟩ := call_act (a2.ext w2 x2) (show (D.put { u.s with t1 := 0 }).Bd from ⟨hB.w, hB.o, hB.e, hB.f⟩) hnum.2 (m := m) (by have := hgd.2.1; have := hgd.2.2.1; omega) ((hd.kp a3.kp).kp (.ext x2)) (by omega)
    refine ⟨H', fun R K => ?_, d5.up fun i hi => (hi.ext_left x2.next).ext_left a3.fr.next, ⟨a3.fr.trans (x2.fr.trans s5.fr), a3.kp.trans ((Kp.ext x2).trans s5.kp)⟩⟩
    rw [core, if_neg c1, if_neg c2, if_neg c3, f2]
    simp only [Option.isNone_some, Bool.not_false, sel_true, Option.bind_some, Nat.zero_add, Nat.reduceAdd, a1, e2, gm, find_act, f3]
    obtain ⟨j, fv⟩ := f
    simp only [fnd_some]
    rw [if_pos f4, f5, exR0]
end
end Go.Proofs.Ytnlfkllnmobppaa

