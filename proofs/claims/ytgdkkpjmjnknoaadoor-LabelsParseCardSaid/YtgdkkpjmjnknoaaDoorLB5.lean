/- Labels: equality, copies, a law's message; LabelsCheck, LabelsBack, LabelsSame. -/
import Derived.Test.YtgdkkpjmjnknoaaDoorLB4
namespace Go.Proofs.YtgdkkpjmjnknoaaDoor
open Go AM Go.RowKit
set_option linter.unusedVariables false
set_option linter.unusedSimpArgs false

theorem u8s_inj : ∀ {a b : List Int}, Byt a → Byt b → u8s a = u8s b → a = b := by
  intro a
  induction a with
  | nil => intro b _ _ h; cases b with | nil => rfl | cons _ _ => simp [u8s] at h
  | cons x a ih =>
    intro b ha hb h
    cases b with
    | nil => simp [u8s] at h
    | cons y b =>
      simp only [u8s, List.map_cons, List.cons.injEq] at h
      have h1 := ha x (by simp); have h2 := hb y (by simp)
      have : x.toNat = y.toNat := by
        have := congrArg UInt8.toNat h.1
        simp only [UInt8.toNat_ofNat'] at this
        omega
      rw [ih (fun n hn => ha n (by simp [hn])) (fun n hn => hb n (by simp [hn])) h.2, show x = y by omega]
theorem strEq_byt {a b : List Int} (ha : Byt a) (hb : Byt b) : strEq (bsU (u8s a)) (bsU (u8s b)) = decide (a = b) := by
  rw [strEqU]
  by_cases h : a = b
  · subst h; simp
  · rw [show decide (a = b) = false by simpa using h]
    simp only [decide_eq_false_iff_not]
    exact fun e => h (u8s_inj ha hb e)
def Ms.eqb (a b : Ms) : Bool := decide (a.sv = b.sv ∧ a.nw = b.nw ∧ a.pr = b.pr ∧ a.dt = b.dt ∧ a.fr = b.fr ∧ a.sl = b.sl ∧ a.d = b.d)
theorem Ms.eqb_self (a : Ms) : a.eqb a = true := by simp [Ms.eqb]
/-- two messages at hand -/
theorem two_ms {H : Heap} (hw : H.Wf) (a b : Ms) (s t : Sl) : ((H.new (.cells (a.cells s) 38 false)).new (.cells (b.cells t) 38 false)).get H.next = some (.cells (a.cells s) 38 false) ∧ ((H.new (.cells (a.cells s) 38 false)).new (.cells (b.cells t) 38 false)).get (H.next + 1) = some (.cells (b.cells t) 38 false) ∧ Ext H ((H.new (.cells (a.cells s) 38 false)).new (.cells (b.cells t) 38 false)) ∧ ((H.new (.cells (a.cells s) 38 false)).new (.cells (b.cells t) 38 false)).Wf :=
  ⟨by rw [Heap.get_new, if_neg (by simp), Heap.get_new, if_pos rfl], Heap.gnew (H.new (.cells (a.cells s) 38 false)) _, (Ext.new _ _).trans (Ext.new _ _), (hw.new _).new _⟩
theorem eqb_chain {R : Type} {a b : Ms} (x y : Option R) (f : Bool → Option R) (hx : f (decide (a.d = b.d)) = x) (hy : f false = y) :
    sel (a.sv == b.sv) (sel (a.nw == b.nw) (sel (a.pr == b.pr) (sel ((a.dt == b.dt) && ((a.fr == b.fr) && ((a.sl == b.sl) && true))) x y) y) y) y = f (a.eqb b) := by
  subst hx; subst hy
  unfold Ms.eqb
  by_cases h1 : a.sv = b.sv
  · by_cases h2 : a.nw = b.nw
    · by_cases h3 : a.pr = b.pr
      · by_cases h4 : a.dt = b.dt
        · by_cases h5 : a.fr = b.fr
          · by_cases h6 : a.sl = b.sl
            · simp [h1, h2, h3, h4, h5, h6]
            · have e : (a.sl == b.sl) = false := by simp [h6]
              simp [h1, h2, h3, h4, h5, h6, e]
          · have e : (a.fr == b.fr) = false := by simp [h5]
            simp [h1, h2, h3, h4, h5, e]
        · have e : (a.dt == b.dt) = false := by simp [h4]
          simp [h1, h2, h3, h4, e]
      · have e : (a.pr == b.pr) = false := by simp [h3]
        simp [h1, h2, h3, e]
    · have e : (a.nw == b.nw) = false := by simp [h2]
      simp [h1, h2, e]
  · have e : (a.sv == b.sv) = false := by simp [h1]
    simp [h1, e]
theorem s25 {H : Heap} (hw : H.Wf) {a b : Ms} {s t : Sl} (ha : Byt a.d) (hb : Byt b.d) (h1 : BS H s a.d) (h2 : BS H t b.d) :
    ∃ H', (∀ (R : Type) (K : Bool → Heap → Option R), g25 R a.sv a.nw a.pr a.dt a.fr a.sl s b.sv b.nw b.pr b.dt b.fr b.sl t H K = K (a.eqb b) H') ∧ Ext H H' ∧ H'.Wf := by
  obtain ⟨g1, g2, x, w⟩ := two_ms hw a b s t
  have k1 := h1.ext hw x
  have k2 := h2.ext hw x
  refine ⟨_, fun R K => ?_, x, w⟩
  obtain ⟨a0, a1, a2, a3, a4, a5, a6⟩ := ldM g1
  obtain ⟨b0, b1, b2, b3, b4, b5, b6⟩ := ldM g2
  simp only [g25, g25_r, g25_p0, alo]
  rw [show [V.i IntKind.u8 a.sv, V.i .u8 a.nw, V.i .u8 a.pr, V.i .u16 a.dt, V.i .u16 a.fr, V.i .u8 a.sl, V.sl s] = a.cells s from rfl, show [V.i IntKind.u8 b.sv, V.i .u8 b.nw, V.i .u8 b.pr, V.i .u16 b.dt, V.i .u16 b.fr, V.i .u8 b.sl, V.sl t] = b.cells t from rfl]
  have hn : (H.new (.cells (a.cells s) 38 false)).next = H.next + 1 := rfl
  simp only [hn, Nat.zero_add, Nat.add_zero, Nat.reduceAdd, a0, a1, a2, a3, a4, a5, a6, b0, b1, b2, b3, b4, b5, b6, Option.bind_some, slB k1, slB k2, strEq_byt ha hb]
  exact eqb_chain _ _ (fun c => K c _) rfl rfl
theorem s27 {H : Heap} (hw : H.Wf) {a b : Ms} {s t : Sl} (h1 : BS H s a.d) (h2 : BS H t b.d) (hl : a.d.length ≤ 100000) :
    ∃ H', (∀ (R : Type) (K : Bool → Heap → Option R), g27 R a.sv a.nw a.pr a.dt a.fr a.sl s b.sv b.nw b.pr b.dt b.fr b.sl t H K = K (a.eqb b) H') ∧ Ext H H' ∧ H'.Wf := by
  obtain ⟨g1, g2, x, w⟩ := two_ms hw a b s t
  have k1 := h1.ext hw x
  have k2 := h2.ext hw x
  refine ⟨_, fun R K => ?_, x, w⟩
  obtain ⟨a0, a1, a2, a3, a4, a5, a6⟩ := ldM g1
  obtain ⟨b0, b1, b2, b3, b4, b5, b6⟩ := ldM g2
  simp only [g27, g27_r, g27_p0, alo]
  rw [show [V.i IntKind.u8 a.sv, V.i .u8 a.nw, V.i .u8 a.pr, V.i .u16 a.dt, V.i .u16 a.fr, V.i .u8 a.sl, V.sl s] = a.cells s from rfl, show [V.i IntKind.u8 b.sv, V.i .u8 b.nw, V.i .u8 b.pr, V.i .u16 b.dt, V.i .u16 b.fr, V.i .u8 b.sl, V.sl t] = b.cells t from rfl]
  have hn : (H.new (.cells (a.cells s) 38 false)).next = H.next + 1 := rfl
  simp only [hn, Nat.zero_add, Nat.add_zero, Nat.reduceAdd, a0, a1, a2, a3, a4, a5, a6, b0, b1, b2, b3, b4, b5, b6, Option.bind_some, equal_ok k1 k2 (by omega)]
  exact eqb_chain _ _ (fun c => K c _) rfl rfl
/-- Copy -/
theorem s26 {H : Heap} (hw : H.Wf) {m : Ms} {s : Sl} (h : BS H s m.d) (hl : m.d.length ≤ 100000) :
    ∃ s' H', (∀ (R : Type) (K : Int → Int → Int → Int → Int → Int → Sl → Heap → Option R), g26 R m.sv m.nw m.pr m.dt m.fr m.sl s H K = K m.sv m.nw m.pr m.dt m.fr m.sl s' H') ∧ BS H' s' m.d ∧ s'.cap = .ex s'.len ∧ Ext H H' ∧ H'.Wf ∧ (m.d = [] ∨ ∃ id, s'.a = some (id, 0) ∧ H.next ≤ id ∧ H'.get id = some (.cells (bcs m.d) 5 false)) := by
  obtain ⟨g1, g2, x, w⟩ := two_ms hw m .zero s nilS
  have k1 := h.ext hw x
  obtain ⟨s', G, e33, bs, cs, x3, w3, own⟩ := s33 w k1 (by omega)
  have g1' := x3.get w g1
  have g2' := x3.get w g2
  have hn : (H.new (.cells (m.cells s) 38 false)).next = H.next + 1 := rfl
  have hn2 : ((H.new (.cells (m.cells s) 38 false)).new (.cells (Ms.zero.cells nilS) 38 false)).next = H.next + 2 := rfl
  have st1 : G.st H.next 6 (.sl s') = some (G.put H.next (.cells (m.cells s') 38 false)) := by rw [st_of g1' (by simp [Ms.cells]) rfl]; rfl
  have h1 := Heap.gput G H.next (.cells (m.cells s') 38 false)
  have h2 : (G.put H.next (.cells (m.cells s') 38 false)).get (H.next + 1) = some (.cells (Ms.zero.cells nilS) 38 false) := by rw [Heap.get_put, if_neg (by omega)]; exact g2'
  have st2 := stsM (v := m) (s' := s') h2
  have h3 := Heap.gput (G.put H.next (.cells (m.cells s') 38 false)) (H.next + 1) (.cells (m.cells s') 38 false)
  have xx : Ext H ((G.put H.next (.cells (m.cells s') 38 false)).put (H.next + 1) (.cells (m.cells s') 38 false)) := ((x.trans x3).above (Nat.le_refl _) _).above (by omega) _
  obtain ⟨_, _, _, _, _, _, a6⟩ := ldM g1
  refine ⟨s', _, fun R K => ?_, ?_, cs, xx, (w3.put g1' _).put h2 _, ?_⟩
  · simp only [g26, g26_r, g26_p0, alo]
    rw [← Ms.zero_cells, show [V.i IntKind.u8 m.sv, V.i .u8 m.nw, V.i .u8 m.pr, V.i .u16 m.dt, V.i .u16 m.fr, V.i .u8 m.sl, V.sl s] = m.cells s from rfl]
    obtain ⟨b0, b1, b2, b3, b4, b5, b6⟩ := ldM h1
    obtain ⟨c0, c1, c2, c3, c4, c5, c6⟩ := ldM h3
    simp only [hn, Nat.zero_add, a6, Option.bind_some, e33, st1, b0, b1, b2, b3, b4, b5, b6]
    rw [show [V.i IntKind.u8 m.sv, V.i .u8 m.nw, V.i .u8 m.pr, V.i .u16 m.dt, V.i .u16 m.fr, V.i .u8 m.sl, V.sl s'] = m.cells s' from rfl, st2]
    simp only [Option.bind_some, c0, c1, c2, c3, c4, c5, c6]
  · rcases own with h0 | ⟨id, a1, a2, a3⟩
    · rw [h0] at bs ⊢
      exact ⟨bs.len, by have : s'.len = 0 := bs.len; simp [slCells, this]⟩
    · refine bs.mono fun id' off o hid ho => ?_
      rw [a1] at hid; cases hid
      rw [hn2] at a2
      rw [Heap.get_put, if_neg (by omega), Heap.get_put, if_neg (by omega)]; exact ho
  · rcases own with h0 | ⟨id, a1, a2, a3⟩
    · exact .inl h0
    · rw [hn2] at a2
      exact .inr ⟨id, a1, by omega, by rw [Heap.get_put, if_neg (by omega), Heap.get_put, if_neg (by omega)]; exact a3⟩
/-- a law's message -/
def Ms.of (m : Ms) : Ms := ⟨m.sv % 16, m.nw % 4, m.pr % 4, m.dt % 16384, m.fr % 16384, m.sl % 16, m.d.take 40⟩
theorem Ms.of_ok {m : Ms} (h : m.Ok) : m.of.Ok ∧ m.of.ck = 0 := by
  have h0 := h.sv; have h1 := h.nw; have h2 := h.pr; have h3 := h.dt; have h4 := h.fr; have h5 := h.sl
  refine ⟨⟨?_, ?_, ?_, ?_, ?_, ?_, h.d.take 40⟩, ?_⟩
  · show 0 ≤ m.sv % 16 ∧ m.sv % 16 ≤ 255; omega
  · show 0 ≤ m.nw % 4 ∧ m.nw % 4 ≤ 255; omega
  · show 0 ≤ m.pr % 4 ∧ m.pr % 4 ≤ 255; omega
  · show 0 ≤ m.dt % 16384 ∧ m.dt % 16384 ≤ 65535; omega
  · show 0 ≤ m.fr % 16384 ∧ m.fr % 16384 ≤ 65535; omega
  · show 0 ≤ m.sl % 16 ∧ m.sl % 16 ≤ 255; omega
  · unfold Ms.ck
    rw [if_neg (by show ¬ (m.sv % 16 > 15 ∨ m.nw % 4 > 3 ∨ m.pr % 4 > 3 ∨ m.dt % 16384 > 16383 ∨ m.fr % 16384 > 16383 ∨ m.sl % 16 > 15); omega), if_neg (by show ¬ (m.d.take 40).length > 268; simp; omega)]
theorem s22 {H : Heap} (hw : H.Wf) {m : Ms} (hm : m.Ok) {s : Sl} (h : BS H s m.d) (hc : CapOk s) :
    ∃ s' H', (∀ (R : Type) (K : Int → Int → Int → Int → Int → Int → Sl → Heap → Option R), g22 R m.sv m.nw m.pr m.dt m.fr m.sl s H K = K m.of.sv m.of.nw m.of.pr m.of.dt m.of.fr m.of.sl s' H') ∧ BS H' s' m.of.d ∧ Ext H H' ∧ H'.Wf := by
  have hv0 := hm.sv; have hv1 := hm.nw; have hv2 := hm.pr; have hv3 := hm.dt; have hv4 := hm.fr; have hv5 := hm.sl
  have g1 := Heap.gnew H (.cells (m.cells s) 55 false)
  have x1 := Ext.new H (.cells (m.cells s) 55 false)
  have w1 := hw.new (.cells (m.cells s) 55 false)
  have n1 : (H.new (.cells (m.cells s) 55 false)).next = H.next + 1 := rfl
  have dd : ∀ (R : Type) (K : Int → Int → Int → Int → Int → Int → Sl → Heap → Option R), g22 R m.sv m.nw m.pr m.dt m.fr m.sl s H K = g22_p0 R m.sv m.nw m.pr m.dt m.fr m.sl s H fun t2_0 t2_1 H => (H.ldI .u8 t2_0 (t2_1 + 0)).bind fun x32 => (H.ldI .u8 t2_0 (t2_1 + 1)).bind fun x33 => (H.ldI .u8 t2_0 (t2_1 + 2)).bind fun x34 => (H.ldI .u16 t2_0 (t2_1 + 3)).bind fun x35 => (H.ldI .u16 t2_0 (t2_1 + 4)).bind fun x36 => (H.ldI .u8 t2_0 (t2_1 + 5)).bind fun x37 => (H.ldSl t2_0 (t2_1 + 6)).bind fun x38 => K x32 x33 x34 x35 x36 x37 x38 H := fun _ _ => rfl
  generalize hX1 : H.new (.cells (m.cells s) 55 false) = X1 at *
  have g2 := Heap.gnew X1 (.cells (Ms.zero.cells nilS) 38 false)
  have x2 := Ext.new X1 (.cells (Ms.zero.cells nilS) 38 false)
  have w2 := w1.new (.cells (Ms.zero.cells nilS) 38 false)
  have n2 : (X1.new (.cells (Ms.zero.cells nilS) 38 false)).next = H.next + 2 := by rw [Heap.next_new, n1]
  have g1' := x2.get w1 g1
  generalize hX2 : X1.new (.cells (Ms.zero.cells nilS) 38 false) = X2 at *
  have g3 := Heap.gnew X2 (.cells (Ms.zero.cells nilS) 38 false)
  have x3 := Ext.new X2 (.cells (Ms.zero.cells nilS) 38 false)
  have w3 := w2.new (.cells (Ms.zero.cells nilS) 38 false)
  have g1'' := x3.get w2 g1'
  have g2' := x3.get w2 g2
  have n3 : (X2.new (.cells (Ms.zero.cells nilS) 38 false)).next = H.next + 3 := by rw [Heap.next_new, n2]
  generalize hX3 : X2.new (.cells (Ms.zero.cells nilS) 38 false) = X3 at *
  obtain ⟨a0, a1, a2, _⟩ := ldM g1'
  -- the small numbers
  have st1 := stsM (v := ⟨m.sv % 16, m.nw % 4, m.pr % 4, 0, 0, 0, []⟩) (s' := nilS) g3
  have g4 := Heap.gput X3 X2.next (.cells ((⟨m.sv % 16, m.nw % 4, m.pr % 4, 0, 0, 0, []⟩ : Ms).cells nilS) 38 false)
  have w4 : (X3.put X2.next (.cells ((⟨m.sv % 16, m.nw % 4, m.pr % 4, 0, 0, 0, []⟩ : Ms).cells nilS) 38 false)).Wf := w3.put g3 _
  have x4 : Ext X2 (X3.put X2.next (.cells ((⟨m.sv % 16, m.nw % 4, m.pr % 4, 0, 0, 0, []⟩ : Ms).cells nilS) 38 false)) := x3.above (Nat.le_refl _) _
  generalize hX4 : X3.put X2.next (.cells ((⟨m.sv % 16, m.nw % 4, m.pr % 4, 0, 0, 0, []⟩ : Ms).cells nilS) 38 false) = X4 at *
  have e1 := x4.get w2 g1'
  obtain ⟨_, _, _, a3, a4, a5, _⟩ := ldM e1
  have st2 : X4.sts X2.next 3 [.i .u16 (m.dt % 16384), .i .u16 (m.fr % 16384), .i .u8 (m.sl % 16)] = some (X4.put X2.next (.cells (m.of.cells nilS) 38 false)) := by rw [sts_of g4 (by simp [Ms.cells]) rfl]; rfl
  have g5 := Heap.gput X4 X2.next (.cells (m.of.cells nilS) 38 false)
  have w5 : (X4.put X2.next (.cells (m.of.cells nilS) 38 false)).Wf := w4.put g4 _
  have x5 : Ext X2 (X4.put X2.next (.cells (m.of.cells nilS) 38 false)) := x4.above (Nat.le_refl _) _
  generalize hX5 : X4.put X2.next (.cells (m.of.cells nilS) 38 false) = X5 at *
  have e2 := x5.get w2 g1'
  have hx5 : Ext H X5 := (x1.trans x2).trans x5
  have b5 := h.ext hw hx5
  obtain ⟨t, f1, f2, f3, f4⟩ := slOf_to hc b5 (k := min 40 m.d.length) (by omega)
  have hmin : (if (40 : Int) < ((s.len : Nat) : Int) then (40 : Int) else ((s.len : Nat) : Int)) = ((min 40 m.d.length : Nat) : Int) := by
    have := h.len
    split <;> omega
  have htk : m.d.take (min 40 m.d.length) = m.d.take 40 := by
    by_cases h40 : 40 ≤ m.d.length
    · rw [Nat.min_eq_left h40]
    · rw [Nat.min_eq_right (by omega), List.take_of_length_le (Nat.le_refl _), List.take_of_length_le (by omega)]
  rw [htk] at f2
  have hl40 : (m.d.take 40).length = min 40 m.d.length := by simp
  obtain ⟨s6, X6, p6, o6, ab6, x6, w6, k6⟩ := own_more (H0 := X5) (x := nilS) (l := []) w5 (Fr'.refl _ _) .nil (fun _ _ h => by cases h) (m.d.take 40) (by simp; omega)
  rw [List.nil_append] at o6
  simp only [hl40] at p6
  have g6 := x6.get w5 g5
  have st3 : X6.st X2.next 6 (.sl s6) = some (X6.put X2.next (.cells (m.of.cells s6) 38 false)) := by rw [st_of g6 (by simp [Ms.cells]) rfl]; rfl
  have g7 := Heap.gput X6 X2.next (.cells (m.of.cells s6) 38 false)
  have h2lt := w5 _ _ g5
  have i8 : (X6.put X2.next (.cells (m.of.cells s6) 38 false)).get X1.next = some (.cells (Ms.zero.cells nilS) 38 false) := by
    rw [Heap.get_put, if_neg (by omega)]
    exact x6.get w5 (x5.get w2 g2)
  have st4 := stsM (v := m.of) (s' := s6) i8
  have g8 := Heap.gput (X6.put X2.next (.cells (m.of.cells s6) 38 false)) X1.next (.cells (m.of.cells s6) 38 false)
  have bs6 : BS X6 s6 (m.d.take 40) := o6.toBS
  have fin : BS ((X6.put X2.next (.cells (m.of.cells s6) 38 false)).put X1.next (.cells (m.of.cells s6) 38 false)) s6 m.of.d := by
    refine bs6.mono fun id off o hid ho => ?_
    have := ab6 id off hid
    rw [Heap.get_put, if_neg (by omega), Heap.get_put, if_neg (by omega)]; exact ho
  refine ⟨s6, _, fun R K => ?_, fin, ((hx5.trans x6).above (by omega) _).above (by omega) _, (w6.put g6 _).put i8 _⟩
  rw [dd]
  obtain ⟨c0, c1, c2, c3, c4, c5, c6⟩ := ldM g7
  obtain ⟨d0, d1, d2, d3, d4, d5, d6⟩ := ldM g8
  simp only [g22_p0, alo]
  rw [← Ms.zero_cells, show [V.i IntKind.u8 m.sv, V.i .u8 m.nw, V.i .u8 m.pr, V.i .u16 m.dt, V.i .u16 m.fr, V.i .u8 m.sl, V.sl s] = m.cells s from rfl]
  rw [hX1, hX2]
  simp only [Nat.zero_add, Nat.add_zero, a0, a1, a2, Option.bind_some, hX3, tmodp hv0.1, tmodp hv1.1, tmodp hv2.1, tmodp hv3.1, tmodp hv4.1, tmodp hv5.1]
  rw [show [V.i IntKind.u8 (m.sv % 16), V.i .u8 (m.nw % 4), V.i .u8 (m.pr % 4), V.i .u16 0, V.i .u16 0, V.i .u8 0, V.sl (Sl.mk none 0 (.ex 0))] = (⟨m.sv % 16, m.nw % 4, m.pr % 4, 0, 0, 0, []⟩ : Ms).cells nilS from rfl, st1]
  simp only [Option.bind_some, a3, a4, a5, tmodp hv3.1, tmodp hv4.1, tmodp hv5.1, st2, (ldM g5).2.2.2.2.2.2, (ldM e2).2.2.2.2.2.2, hmin, f1, f2.is, f4, p6, st3, c0, c1, c2, c3, c4, c5, c6]
  rw [show [V.i IntKind.u8 m.of.sv, V.i .u8 m.of.nw, V.i .u8 m.of.pr, V.i .u16 m.of.dt, V.i .u16 m.of.fr, V.i .u8 m.of.sl, V.sl s6] = m.of.cells s6 from rfl, st4]
  simp only [Option.bind_some, d0, d1, d2, d3, d4, d5, d6]
end Go.Proofs.YtgdkkpjmjnknoaaDoor

