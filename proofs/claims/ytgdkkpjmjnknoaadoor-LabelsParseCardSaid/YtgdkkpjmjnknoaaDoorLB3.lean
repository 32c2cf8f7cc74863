/- Labels: messages and their octets. -/
import Derived.Test.YtgdkkpjmjnknoaaDoorLB2
import Derived.Test.YtgdkkpjmjnknoaaDoorLSl
import Derived.Test.YtgdkkpjmjnknoaaDoorLByt
namespace Go.Proofs.YtgdkkpjmjnknoaaDoor
open Go AM Go.RowKit
set_option linter.unusedVariables false
set_option linter.unusedSimpArgs false

structure Ms where
  sv : Int
  nw : Int
  pr : Int
  dt : Int
  fr : Int
  sl : Int
  d : List Int
/-- any message -/
structure Ms.Ok (m : Ms) : Prop where
  sv : 0 ≤ m.sv ∧ m.sv ≤ 255
  nw : 0 ≤ m.nw ∧ m.nw ≤ 255
  pr : 0 ≤ m.pr ∧ m.pr ≤ 255
  dt : 0 ≤ m.dt ∧ m.dt ≤ 65535
  fr : 0 ≤ m.fr ∧ m.fr ≤ 65535
  sl : 0 ≤ m.sl ∧ m.sl ≤ 255
  d : Byt m.d
def Ms.cells (m : Ms) (s : Sl) : List V := [.i .u8 m.sv, .i .u8 m.nw, .i .u8 m.pr, .i .u16 m.dt, .i .u16 m.fr, .i .u8 m.sl, .sl s]
def Ms.ck (m : Ms) : Int := if m.sv > 15 ∨ m.nw > 3 ∨ m.pr > 3 ∨ m.dt > 16383 ∨ m.fr > 16383 ∨ m.sl > 15 then 1 else if m.d.length > 268 then 3 else 0
def Ms.n (m : Ms) : Int := m.dt + m.fr * 16384 + m.sl * 268435456
def Ms.hd (m : Ms) : List Int := [m.sv + 16 * m.pr + 64 * m.nw, m.n % 256, m.n / 256 % 256, m.n / 65536 % 256, m.n / 16777216]
def Ms.enc (m : Ms) : List Int := m.hd ++ m.d
def Ms.zero : Ms := ⟨0, 0, 0, 0, 0, 0, []⟩
abbrev nilS : Sl := ⟨none, 0, .ex 0⟩
theorem ldM {G : Heap} {i : Nat} {t : TypeId} {m : Ms} {s : Sl} (hG : G.get i = some (.cells (m.cells s) t false)) : G.ldI .u8 i 0 = some m.sv ∧ G.ldI .u8 i 1 = some m.nw ∧ G.ldI .u8 i 2 = some m.pr ∧ G.ldI .u16 i 3 = some m.dt ∧ G.ldI .u16 i 4 = some m.fr ∧ G.ldI .u8 i 5 = some m.sl ∧ G.ldSl i 6 = some s :=
  ⟨ldI_of hG rfl, ldI_of hG rfl, ldI_of hG rfl, ldI_of hG rfl, ldI_of hG rfl, ldI_of hG rfl, ldSl_of hG rfl⟩
theorem stsM {H : Heap} {i : Nat} {t : TypeId} {m v : Ms} {s s' : Sl} (h : H.get i = some (.cells (m.cells s) t false)) : H.sts i 0 (v.cells s') = some (H.put i (.cells (v.cells s') t false)) := by
  rw [sts_of h (by simp [Ms.cells]) (by simp [Ms.cells, V.one])]; rfl
theorem ck0 {m : Ms} (h : m.ck = 0) : m.sv ≤ 15 ∧ m.nw ≤ 3 ∧ m.pr ≤ 3 ∧ m.dt ≤ 16383 ∧ m.fr ≤ 16383 ∧ m.sl ≤ 15 ∧ m.d.length ≤ 268 := by
  unfold Ms.ck at h
  split at h
  · omega
  · split at h <;> omega
theorem s18 {R : Type} {H : Heap} {m : Ms} {s : Sl} (hn : s.len = m.d.length) (K : Int → Heap → Option R) : g18 R m.sv m.nw m.pr m.dt m.fr m.sl s H K = K m.ck (H.new (.cells (m.cells s) 38 false)) := by
  obtain ⟨a0, a1, a2, a3, a4, a5, a6⟩ := ldM (Heap.gnew H (.cells (m.cells s) 38 false))
  simp only [g18, g18_r, g18_p0, alo, Nat.zero_add, Nat.add_zero, Nat.reduceAdd]
  rw [show [V.i IntKind.u8 m.sv, V.i .u8 m.nw, V.i .u8 m.pr, V.i .u16 m.dt, V.i .u16 m.fr, V.i .u8 m.sl, V.sl s] = m.cells s from rfl]
  simp only [a0, a1, a2, a3, a4, a5, a6, Option.bind_some, selD]
  unfold Ms.ck
  by_cases c0 : m.sv > 15
  · rw [if_pos c0, if_pos (.inl c0)]
  rw [if_neg c0]
  by_cases c1 : m.nw > 3
  · rw [if_pos c1, if_pos (by omega)]
  rw [if_neg c1]
  by_cases c2 : m.pr > 3
  · rw [if_pos c2, if_pos (by omega)]
  rw [if_neg c2]
  by_cases c3 : m.dt > 16383
  · rw [if_pos c3, if_pos (by omega)]
  rw [if_neg c3]
  by_cases c4 : m.fr > 16383
  · rw [if_pos c4, if_pos (by omega)]
  rw [if_neg c4]
  by_cases c5 : m.sl > 15
  · rw [if_pos c5, if_pos (by omega)]
  have hv : ¬ (m.sv > 15 ∨ m.nw > 3 ∨ m.pr > 3 ∨ m.dt > 16383 ∨ m.fr > 16383 ∨ m.sl > 15) := by omega
  rw [if_neg c5, if_neg hv]
  by_cases c6 : m.d.length > 268
  · rw [if_pos c6, if_pos (show ((s.len : Nat) : Int) > 268 by omega)]
  · rw [if_neg c6, if_neg (show ¬ ((s.len : Nat) : Int) > 268 by omega)]
theorem head_all : ∀ (a : Fin 16) (b c : Fin 4), bvOr .u8 (bvOr .u8 ((a.val : Nat) : Int) (shlI .u8 ((b.val : Nat) : Int) 4)) (shlI .u8 ((c.val : Nat) : Int) 6) = (a.val : Nat) + 16 * ((b.val : Nat) : Int) + 64 * ((c.val : Nat) : Int) := by decide +kernel
theorem head_or {a b c : Int} (ha : 0 ≤ a ∧ a ≤ 15) (hb : 0 ≤ b ∧ b ≤ 3) (hc : 0 ≤ c ∧ c ≤ 3) : bvOr .u8 (bvOr .u8 a (shlI .u8 b 4)) (shlI .u8 c 6) = a + 16 * b + 64 * c := by
  have := head_all ⟨a.toNat, by omega⟩ ⟨b.toNat, by omega⟩ ⟨c.toNat, by omega⟩
  simp only at this
  rwa [show ((a.toNat : Nat) : Int) = a by omega, show ((b.toNat : Nat) : Int) = b by omega, show ((c.toNat : Nat) : Int) = c by omega] at this
theorem num_or {m : Ms} (h : m.Ok) (hk : m.ck = 0) : bvOr .u32 (bvOr .u32 (IntKind.wrap .u32 m.dt) (shlI .u32 (IntKind.wrap .u32 m.fr) 14)) (shlI .u32 (IntKind.wrap .u32 m.sl) 28) = m.n := by
  obtain ⟨k0, k1, k2, k3, k4, k5, k6⟩ := ck0 hk
  have t := h.dt; have f := h.fr; have s := h.sl
  have e1 : IntKind.wrap .u32 m.dt = m.dt := w32u (by omega)
  have e2 : shlI .u32 (IntKind.wrap .u32 m.fr) 14 = m.fr * 16384 := by
    show IntKind.wrap .u32 ((IntKind.wrap .u32 m.fr) * 16384) = _; rw [wr32, wr32]; omega
  have e3 : shlI .u32 (IntKind.wrap .u32 m.sl) 28 = m.sl * 268435456 := by
    show IntKind.wrap .u32 ((IntKind.wrap .u32 m.sl) * 268435456) = _; rw [wr32, wr32]; omega
  rw [e1, e2, e3, orI (j := 14) (p := 16384) rfl (by omega) (by omega) (by omega), orI (j := 28) (p := 268435456) rfl (by omega) (by omega) (by omega)]
  rfl
theorem n_bd {m : Ms} (h : m.Ok) (hk : m.ck = 0) : 0 ≤ m.n ∧ m.n ≤ 4294967295 := by
  obtain ⟨k0, k1, k2, k3, k4, k5, k6⟩ := ck0 hk
  have t := h.dt; have f := h.fr; have s := h.sl
  unfold Ms.n; omega
theorem s17 {H : Heap} (hw : H.Wf) {s : Sl} {m : Ms} (hm : m.Ok) (h : BS H s m.d) (hl : m.d.length ≤ 10000) :
    ∃ s' H', (∀ (R : Type) (K : Sl → Int → Heap → Option R), g17 R m.sv m.nw m.pr m.dt m.fr m.sl s H K = K s' m.ck H') ∧ BS H' s' (if m.ck = 0 then m.enc else []) ∧ s'.cap = .ex s'.len ∧ Ext H H' ∧ H'.Wf := by
  have hn : s.len = m.d.length := h.len
  have g1 := Heap.gnew H (.cells (m.cells s) 38 false)
  have w1 := hw.new (.cells (m.cells s) 38 false)
  have x1 := Ext.new H (.cells (m.cells s) 38 false)
  have e18 := fun (R : Type) (H : Heap) K => @s18 R H m s hn K
  have dd : ∀ (R : Type) (K : Sl → Int → Heap → Option R), g17 R m.sv m.nw m.pr m.dt m.fr m.sl s H K = g17_p6 g18 R m.sv m.nw m.pr m.dt m.fr m.sl s H K := fun _ _ => rfl
  have hcells : [V.i IntKind.u8 m.sv, V.i .u8 m.nw, V.i .u8 m.pr, V.i .u16 m.dt, V.i .u16 m.fr, V.i .u8 m.sl, V.sl s] = m.cells s := rfl
  generalize hi : H.next = i at *
  generalize hH1 : H.new (.cells (m.cells s) 38 false) = H1 at *
  obtain ⟨a0, a1, a2, a3, a4, a5, a6⟩ := ldM g1
  have x2 : Ext H (H1.new (.cells (m.cells s) 38 false)) := x1.trans (Ext.new H1 (.cells (m.cells s) 38 false))
  have w2 := w1.new (.cells (m.cells s) 38 false)
  have g2 := (Ext.new H1 (.cells (m.cells s) 38 false)).get w1 g1
  generalize hH2 : H1.new (.cells (m.cells s) 38 false) = H2 at *
  by_cases hk : m.ck = 0
  · rw [if_pos hk]
    obtain ⟨k0, k1, k2, k3, k4, k5, k6⟩ := ck0 hk
    have hN : IntKind.wrap .i64 ((5 : Int) + ((s.len : Nat) : Int)) = ((m.d.length + 5 : Nat) : Int) := by rw [hn, w64 (by omega)]; omega
    have c0 : 0 ≤ (0 : Int) ∧ (0 : Int) ≤ ((m.d.length + 5 : Nat) : Int) ∧ ((m.d.length + 5 : Nat) : Int) ≤ 9223372036854775807 ∧ ((m.d.length + 5 : Nat) : Int) * ((1 : Nat) : Int) ≤ 281474976710656 := by omega
    have r0 := Room.make w2 x2 (m.d.length + 5)
    have hiq : i < H2.next := w2 _ _ g2
    have g3 := (Ext.new H2 (.cells (bcs (List.replicate (m.d.length + 5) 0)) 5 false)).get w2 g2
    have start : ∀ (R : Type) (K : Sl → Int → Heap → Option R), g17 R m.sv m.nw m.pr m.dt m.fr m.sl s H K =
        ((slCells ((H2.new (.cells (bcs (List.replicate (m.d.length + 5) 0)) 5 false)).new (.cells [.i .u8 (m.sv + 16 * m.pr + 64 * m.nw)] 5 false)) 1 ⟨some ((H2.new (.cells (bcs (List.replicate (m.d.length + 5) 0)) 5 false)).next, 0), 1, .ex 1⟩).bind fun vs =>
          appendV ((H2.new (.cells (bcs (List.replicate (m.d.length + 5) 0)) 5 false)).new (.cells [.i .u8 (m.sv + 16 * m.pr + 64 * m.nw)] 5 false)) 5 1 1 ⟨some (H2.next, 0), 0, .ex (m.d.length + 5)⟩ 1 vs fun s120 h121 =>
            (h121.ldI .u16 i (3 + 0)).bind fun x123 => (h121.ldI .u16 i (3 + 1)).bind fun x124 => (h121.ldI .u8 i (3 + 2)).bind fun x125 =>
              g17_p5 g18 R i 0 s120 (bvOr .u32 (bvOr .u32 (IntKind.wrap .u32 x123) (shlI .u32 (IntKind.wrap .u32 x124) 14)) (shlI .u32 (IntKind.wrap .u32 x125) 28)) 0 h121 K) := by
      intro R K
      rw [dd]
      obtain ⟨b0, b1, b2, b3, b4, b5, b6⟩ := ldM g2
      obtain ⟨c0', c1', c2', c3', c4', c5', c6'⟩ := ldM g3
      unfold g17_p6 g17_p0 alo
      simp only [Nat.zero_add]
      rw [hcells]
      simp only [hi, hH1, a0, a1, a2, a3, a4, a5, a6, Option.bind_some, e18, hH2, hk, b6, hN]
      rw [show ((0 : Int) != 0) = false from rfl, sel_false, if_pos c0, Int.toNat_natCast, zeros5, Option.bind_some]
      simp only [c0', c1', c2', Option.bind_some, head_or (show 0 ≤ m.sv ∧ m.sv ≤ 15 from ⟨hm.sv.1, k0⟩) (show 0 ≤ m.pr ∧ m.pr ≤ 3 from ⟨hm.pr.1, k2⟩) (show 0 ≤ m.nw ∧ m.nw ≤ 3 from ⟨hm.nw.1, k1⟩)]
      rfl
    generalize hG3 : H2.new (.cells (bcs (List.replicate (m.d.length + 5) 0)) 5 false) = G3 at *
    generalize hq : H2.next = q at *
    have hne : i ≠ q := by omega
    obtain ⟨G4, p4, r4, f4⟩ := r0.push (m.sv + 16 * m.pr + 64 * m.nw) (by simp)
    have g4 := f4 i _ hne g3
    obtain ⟨G5, p5, r5, f5⟩ := r4.push (m.n % 256) (by simp)
    have g5 := f5 i _ hne g4
    obtain ⟨G6, p6, r6, f6⟩ := r5.push (m.n / 256 % 256) (by simp)
    have g6 := f6 i _ hne g5
    obtain ⟨G7, p7, r7, f7⟩ := r6.push (m.n / 65536 % 256) (by simp)
    have g7 := f7 i _ hne g6
    obtain ⟨G8, p8, r8, f8⟩ := r7.push (m.n / 16777216) (by simp)
    have g8 := f8 i _ hne g7
    have b8 : BS G8 s m.d := h.ext hw r8.ext
    obtain ⟨G9, p9, r9, _, _⟩ := r8.append m.d (by simp; omega)
    simp only [List.nil_append, List.cons_append, List.length_cons, List.length_nil, Nat.zero_add, Nat.reduceAdd] at p4 p5 p6 p7 p8 p9 r9
    obtain ⟨_, _, _, l3, l4, l5, _⟩ := ldM g4
    have hnb := n_bd hm hk
    have step : ∀ (k : Nat) (v : Int) (X X' : Heap) (len : Nat), k < 4 → IntKind.wrap .u8 (shrI .u32 m.n (8 * (k : Int))) = v →
        (∀ (R : Type) (K : Sl → Heap → Option R), ((slCells (X.new (.cells [.i .u8 v] 5 false)) 1 ⟨some (X.next, 0), 1, .ex 1⟩).bind fun vs => appendV (X.new (.cells [.i .u8 v] 5 false)) 5 1 1 ⟨some (q, 0), len, .ex (m.d.length + 5)⟩ 1 vs K) = K ⟨some (q, 0), len + 1, .ex (m.d.length + 5)⟩ X') →
        g17_p2_b g18 (i, 0, ⟨some (q, 0), len, .ex (m.d.length + 5)⟩, m.n, ((8 * k : Nat) : Int)) X = some (.go (i, 0, ⟨some (q, 0), len + 1, .ex (m.d.length + 5)⟩, m.n, ((8 * (k + 1) : Nat) : Int)), X') := by
      intro k v X X' len hk4 hv hp
      have e' : IntKind.wrap .i64 (((8 * k : Nat) : Int) + 8) = ((8 * (k + 1) : Nat) : Int) := by rw [w64 (by omega)]; omega
      have e2 : ((8 * k : Nat) : Int) = 8 * (k : Int) := by omega
      simp only [g17_p2_b, g17_p1, alo]
      rw [show decide (((8 * k : Nat) : Int) < 32) = true by simp; omega, sel_true, if_neg (by omega), e', e2, hv]
      exact hp _ _
    have t4 : ∀ X, g17_p2_b g18 (i, 0, ⟨some (q, 0), 5, .ex (m.d.length + 5)⟩, m.n, ((8 * 4 : Nat) : Int)) X = some (.up (i, 0, ⟨some (q, 0), 5, .ex (m.d.length + 5)⟩), X) := fun X => by
      simp only [g17_p2_b, g17_p1]
      rw [show decide (((8 * 4 : Nat) : Int) < 32) = false from rfl, sel_false]
    have tl : tlim (g17_p2_b g18) (i, 0, ⟨some (q, 0), 1, .ex (m.d.length + 5)⟩, m.n, 0) G4 = some ((i, 0, ⟨some (q, 0), 5, .ex (m.d.length + 5)⟩), G8) := by
      refine (tlim_go (step 0 _ G4 G5 1 (by omega) (sh0 hnb) p5)).trans ?_
      refine (tlim_go (step 1 _ G5 G6 2 (by omega) (sh8 hnb) p6)).trans ?_
      refine (tlim_go (step 2 _ G6 G7 3 (by omega) (sh16 hnb) p7)).trans ?_
      refine (tlim_go (step 3 _ G7 G8 4 (by omega) (sh24 hnb) p8)).trans ?_
      exact tlim_up (t4 _)
    have hlen : m.enc.length = m.d.length + 5 := by simp [Ms.enc, Ms.hd]
    refine ⟨⟨some (q, 0), m.d.length + 5, .ex (m.d.length + 5)⟩, G9, fun R K => ?_, ?_, rfl, r9.ext, r9.wf⟩
    · rw [start, p4]
      simp only [Nat.add_zero, Nat.reduceAdd, l3, l4, l5, Option.bind_some, num_or hm hk, hk]
      simp only [g17_p5, g17_p3, g17_p2, tl, Option.bind_some, g17_p4, Nat.zero_add, (ldM g8).2.2.2.2.2.2, b8.is, hn, p9]
    · have := r9.bs (by simp)
      have e : ((m.sv + 16 * m.pr + 64 * m.nw) :: (m.n % 256) :: (m.n / 256 % 256) :: (m.n / 65536 % 256) :: (m.n / 16777216) :: m.d) = m.enc := rfl
      rw [e, hlen] at this
      exact this
  · rw [if_neg hk]
    refine ⟨nilS, H2, fun R K => ?_, .nil _, rfl, x2, w2⟩
    rw [dd]
    unfold g17_p6 g17_p0 alo
    rw [hcells]
    simp only [Nat.zero_add, hi, hH1, a0, a1, a2, a3, a4, a5, a6, Option.bind_some, e18, hH2]
    rw [show (m.ck != 0) = true by simpa using hk, sel_true]
/-- the octets by definition -/
theorem s23 {H : Heap} (hw : H.Wf) {s : Sl} {m : Ms} (hm : m.Ok) (hk : m.ck = 0) (h : BS H s m.d) :
    ∃ s' H', (∀ (R : Type) (K : Sl → Heap → Option R), g23 R m.sv m.nw m.pr m.dt m.fr m.sl s H K = K s' H') ∧ BS H' s' m.enc ∧ Ext H H' ∧ H'.Wf := by
  obtain ⟨k0, k1, k2, k3, k4, k5, k6⟩ := ck0 hk
  have hn : s.len = m.d.length := h.len
  have hv0 := hm.sv; have hv1 := hm.nw; have hv2 := hm.pr; have hv3 := hm.dt; have hv4 := hm.fr; have hv5 := hm.sl
  have g1 := Heap.gnew H (.cells (m.cells s) 38 false)
  have w1 := hw.new (.cells (m.cells s) 38 false)
  have x1 := Ext.new H (.cells (m.cells s) 38 false)
  have hcells : [V.i IntKind.u8 m.sv, V.i .u8 m.nw, V.i .u8 m.pr, V.i .u16 m.dt, V.i .u16 m.fr, V.i .u8 m.sl, V.sl s] = m.cells s := rfl
  have hil : H.next < (H.new (.cells (m.cells s) 38 false)).next := by simp
  have dd : ∀ (R : Type) (K : Sl → Heap → Option R), g23 R m.sv m.nw m.pr m.dt m.fr m.sl s H K = g23_p6 R m.sv m.nw m.pr m.dt m.fr m.sl s H K := fun _ _ => rfl
  generalize hi : H.next = i at *
  generalize hH1 : H.new (.cells (m.cells s) 38 false) = H1 at *
  obtain ⟨a0, a1, a2, a3, a4, a5, a6⟩ := ldM g1
  have r1 := OS.make (e := 5) (vs := [m.sv + 16 * m.pr + 64 * m.nw]) w1 x1 (c := .ex 1) (.inl rfl)
  have g2 := (Ext.new H1 (.cells (bcs [m.sv + 16 * m.pr + 64 * m.nw]) 5 false)).get w1 g1
  generalize hX : H1.new (.cells (bcs [m.sv + 16 * m.pr + 64 * m.nw]) 5 false) = X1 at *
  have hq1 : H1.next ≠ i := by omega
  have e1 : IntKind.wrap .u8 ((IntKind.wrap .u8 (m.sv + (IntKind.wrap .u8 ((16 : Int) * m.pr)))) + (IntKind.wrap .u8 ((64 : Int) * m.nw))) = m.sv + 16 * m.pr + 64 * m.nw := by
    rw [wr8, wr8, wr8, wr8]; omega
  have e2 : IntKind.wrap .u64 ((IntKind.wrap .u64 ((IntKind.wrap .u64 m.dt) + (IntKind.wrap .u64 ((16384 : Int) * (IntKind.wrap .u64 m.fr))))) + (IntKind.wrap .u64 ((268435456 : Int) * (IntKind.wrap .u64 m.sl)))) = m.n := by
    rw [wru64, wru64, wru64, wru64, wru64, wru64, wru64]; unfold Ms.n; omega
  have hnb := n_bd hm hk
  obtain ⟨s2, X2, q2, p2, r2, f2⟩ := r1.push (m.n % 256) (by simp)
  have g3 := f2 i _ (by omega) g2
  have hq2 : q2 ≠ i := by rintro rfl; rw [r2.obj] at g3; simp at g3
  obtain ⟨s3, X3, q3, p3, r3, f3⟩ := r2.push (m.n / 256 % 256) (by simp)
  have g4 := f3 i _ (fun e => hq2 e.symm) g3
  have hq3 : q3 ≠ i := by rintro rfl; rw [r3.obj] at g4; simp at g4
  obtain ⟨s4, X4, q4, p4, r4, f4⟩ := r3.push (m.n / 65536 % 256) (by simp)
  have g5 := f4 i _ (fun e => hq3 e.symm) g4
  have hq4 : q4 ≠ i := by rintro rfl; rw [r4.obj] at g5; simp at g5
  obtain ⟨s5, X5, q5, p5, r5, f5⟩ := r4.push (m.n / 16777216) (by simp)
  have g6 := f5 i _ (fun e => hq4 e.symm) g5
  have b6 : BS X5 s m.d := h.ext hw r5.ext
  obtain ⟨s6, X6, q6, p6, r6, _, _, _⟩ := r5.append m.d (by simp; omega)
  have step : ∀ (k : Nat) (n v : Int) (S S' : Sl) (X X' : Heap), k < 4 → 0 ≤ n ∧ n ≤ 4294967295 → n % 256 = v →
      (∀ (R : Type) (K : Sl → Heap → Option R), ((slCells (X.new (.cells [.i .u8 v] 5 false)) 1 ⟨some (X.next, 0), 1, .ex 1⟩).bind fun vs => appendV (X.new (.cells [.i .u8 v] 5 false)) 5 1 1 S 1 vs K) = K S' X') →
      g23_p2_b (i, 0, S, n, (k : Int)) X = some (.go (i, 0, S', n / 256, ((k + 1 : Nat) : Int)), X') := by
    intro k n v S S' X X' hk4 hn hv hp
    have e' : IntKind.wrap .i64 ((k : Int) + 1) = ((k + 1 : Nat) : Int) := by rw [w64 (by omega)]; rfl
    have e3 : IntKind.wrap .u8 (Int.tmod n 256) = v := by rw [tmodp hn.1, wr8, ← hv]; omega
    have e4 : IntKind.wrap .u64 (Int.tdiv n 256) = n / 256 := by rw [tdivp hn.1, wru64]; omega
    simp only [g23_p2_b, g23_p1, alo]
    rw [show decide ((k : Int) < 4) = true by simp; omega, sel_true, e', e3, e4]
    exact hp _ _
  have tl : tlim g23_p2_b (i, 0, ⟨some (H1.next, 0), 1, .ex 1⟩, m.n, 0) X1 = some ((i, 0, s5), X5) := by
    refine (tlim_go (step 0 m.n _ _ _ X1 X2 (by omega) hnb rfl p2)).trans ?_
    refine (tlim_go (step 1 (m.n / 256) _ _ _ X2 X3 (by omega) (by omega) rfl p3)).trans ?_
    refine (tlim_go (step 2 (m.n / 256 / 256) _ _ _ X3 X4 (by omega) (by omega) (by omega) p4)).trans ?_
    refine (tlim_go (step 3 (m.n / 256 / 256 / 256) _ _ _ X4 X5 (by omega) (by omega) (by omega) p5)).trans ?_
    refine tlim_up ?_
    simp only [g23_p2_b, g23_p1]
    rw [show decide (((3 + 1 : Nat) : Int) < 4) = false from rfl, sel_false]
  refine ⟨s6, X6, fun R K => ?_, ?_, r6.ext, r6.wf⟩
  · rw [dd]
    unfold g23_p6 g23_p0 alo
    rw [hcells]
    simp only [Nat.zero_add, hi, hH1, a0, a1, a2, Option.bind_some, e1]
    rw [show H1.new (.cells [.i .u8 (m.sv + 16 * m.pr + 64 * m.nw)] 5 false) = X1 from hX]
    obtain ⟨_, _, _, c3, c4, c5, c6⟩ := ldM g2
    simp only [Nat.add_zero, Nat.reduceAdd, c3, c4, c5, Option.bind_some, e2, g23_p5, g23_p3, g23_p2, tl, g23_p4, Nat.zero_add, (ldM g6).2.2.2.2.2.2, b6.is, hn, p6]
  · have := r6.bs
    exact this
end Go.Proofs.YtgdkkpjmjnknoaaDoor

