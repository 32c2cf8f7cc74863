/- Connections: Encode, the law's bytes and is. -/
import Derived.Test.YtnlfkllnmobppaaCB2
namespace Go.Proofs.Ytnlfkllnmobppaa
open Go AM Go.RowKit
set_option linter.unusedVariables false
set_option linter.unusedSimpArgs false

theorem bsU_append (a b : List UInt8) : bsU a ++ bsU b = bsU (a ++ b) := by
  apply ByteArray.ext
  rw [ByteArray.data_append]
  simp [bsU]
@[simp] theorem bsU_size (a : List UInt8) : (bsU a).size = a.length := by simp [bsU, ByteArray.size]
theorem bsU_inj {a b : List UInt8} (h : bsU a = bsU b) : a = b := by
  have := congrArg (fun x => x.data.toList) h
  simpa [bsU] using this
theorem bsU_of (s : ByteArray) : s = bsU s.data.toList := by cases s; simp [bsU]
theorem catS_ok {R : Type} {x y : ByteArray} (h : x.size + y.size ≤ 9223372036854775807) (K : ByteArray → Option R) : catS x y K = K (x ++ y) := by
  unfold catS; rw [if_pos h]
theorem catU {R : Type} {x y : List UInt8} (h : x.length + y.length ≤ 9223372036854775807) (K : ByteArray → Option R) : catS (bsU x) (bsU y) K = K (bsU (x ++ y)) := by
  rw [catS_ok (by simpa using h), bsU_append]
def Cm.hd (m : Cm) : List Int := [m.k, m.c, m.n, m.x, m.u, m.f % 256, m.f / 256 % 256, m.t % 256, m.t / 256 % 256]
def Cm.enc (m : Cm) : List Int := m.hd ++ m.d
theorem Cm.enc_len (m : Cm) : m.enc.length = 9 + m.d.length := by simp [Cm.enc, Cm.hd]; omega
def Cm.de (l : List Int) : Cm := ⟨l.getD 0 0, l.getD 5 0 + 256 * l.getD 6 0, l.getD 7 0 + 256 * l.getD 8 0, l.getD 1 0, l.getD 2 0, l.getD 3 0, l.getD 4 0, l.drop 9⟩
theorem Cm.de_ok {l : List Int} (hb : Byt l) : (Cm.de l).Ok := by
  have h5 := hb.getD 5; have h6 := hb.getD 6; have h7 := hb.getD 7; have h8 := hb.getD 8
  exact ⟨hb.getD 0, by simp only [Cm.de]; omega, by simp only [Cm.de]; omega, hb.getD 1, hb.getD 2, hb.getD 3, hb.getD 4, hb.drop 9⟩
theorem Cm.de_enc {l : List Int} (hb : Byt l) (h : 9 ≤ l.length) : (Cm.de l).enc = l := by
  obtain ⟨a0, a1, a2, a3, a4, a5, a6, a7, a8, r, rfl⟩ : ∃ a0 a1 a2 a3 a4 a5 a6 a7 a8 r, l = a0 :: a1 :: a2 :: a3 :: a4 :: a5 :: a6 :: a7 :: a8 :: r := by
    match l, h with
    | a0 :: a1 :: a2 :: a3 :: a4 :: a5 :: a6 :: a7 :: a8 :: r, _ => exact ⟨a0, a1, a2, a3, a4, a5, a6, a7, a8, r, rfl⟩
  have h5 := hb a5 (by simp); have h6 := hb a6 (by simp); have h7 := hb a7 (by simp); have h8 := hb a8 (by simp)
  show [a0, a1, a2, a3, a4, (a5 + 256 * a6) % 256, (a5 + 256 * a6) / 256 % 256, (a7 + 256 * a8) % 256, (a7 + 256 * a8) / 256 % 256] ++ r = _
  simp only [List.cons_append, List.nil_append, List.cons.injEq, and_true, true_and]
  omega
theorem Cm.enc_de (m : Cm) (hf : 0 ≤ m.f ∧ m.f ≤ 65535) (ht : 0 ≤ m.t ∧ m.t ≤ 65535) : Cm.de m.enc = m := by
  obtain ⟨k, f, t, c, n, x, u, d⟩ := m
  simp only at hf ht
  show (⟨k, f % 256 + 256 * (f / 256 % 256), t % 256 + 256 * (t / 256 % 256), c, n, x, u, d⟩ : Cm) = _
  rw [show f % 256 + 256 * (f / 256 % 256) = f by omega, show t % 256 + 256 * (t / 256 % 256) = t by omega]
theorem copy9 {R : Type} {H : Heap} {q j : Nat} {l z : List Int} (hq : H.get q = some (.cells (bcs z) 5 false)) (hj : H.get j = some (.cells (bcs l) 5 false)) (hl : l.length = 9) (hz : 9 ≤ z.length) (c : Cap) (K : V → Heap → Option R) :
    evBuiltin Try.prog H .copy [24, 24] [.sl ⟨some (q, 0), 9, c⟩, .sl ⟨some (j, 0), 9, .ex 9⟩] K = K (.i .i64 ((9 : Nat) : Int)) (H.put q (.cells (bcs (l ++ z.drop 9)) 5 false)) := by
  have h1 : Try.prog.underlying 24 = some (.slice 5) := by kernel_rfl
  have h2 : (Try.prog.underlying 5).isNone = false := by kernel_rfl
  have h3 : Try.prog.cellsOf 5 = 1 := by kernel_rfl
  have hb := (BS.obj (c := .ex 9) hj).is
  rw [hl] at hb
  have hsp := splice_bcs [] z l (by omega)
  rw [List.nil_append, List.nil_append, hl] at hsp
  simp only [evBuiltin, h1, h2, Bool.false_eq_true, if_false, V.asSl, Option.bind_some, h3, Nat.min_self, hb]
  rw [if_neg (by simp [hl]), sts_of hq (by simp [hl]; omega) (bcs_ones _), Option.bind_some]
  rw [show splice (bcs z) 0 (bcs l) = bcs (l ++ List.drop 9 z) from hsp]
theorem s11 {H : Heap} (hw : H.Wf) {s : Sl} {m : Cm} (hm : m.Ok) (h : BS H s m.d) :
    ∃ s' H', (∀ (R : Type) (K : Sl → Int → Heap → Option R), g11 R m.k m.f m.t m.c m.n m.x m.u s H K = K s' m.ck H') ∧ BS H' s' (if m.ck = 0 then m.enc else []) ∧ s'.cap = .ex s'.len ∧ Ext H H' ∧ H'.Wf := by
  have hn : s.len = m.d.length := h.len
  have g1 := Heap.gnew H (.cells (m.cells s) 26 false)
  have w1 := hw.new (.cells (m.cells s) 26 false)
  have x1 := Ext.new H (.cells (m.cells s) 26 false)
  have e12 := fun (R : Type) (H : Heap) K => @s12 R H m hm s hn K
  have dd : ∀ (R : Type) (K : Sl → Int → Heap → Option R), g11 R m.k m.f m.t m.c m.n m.x m.u s H K = g11_p0 g12 R m.k m.f m.t m.c m.n m.x m.u s H K := fun _ _ => rfl
  have hcell : [V.i IntKind.u8 m.k, V.i IntKind.u32 m.f, V.i IntKind.u32 m.t, V.i IntKind.u8 m.c, V.i IntKind.u8 m.n, V.i IntKind.u8 m.x, V.i IntKind.u8 m.u, V.sl s] = m.cells s := rfl
  generalize hi : H.next = i at *
  generalize hH1 : H.new (.cells (m.cells s) 26 false) = H1 at *
  obtain ⟨a0, a1, a2, a3, a4, a5, a6, a7⟩ := ldM g1
  have x2 := Ext.new H1 (.cells (m.cells s) 26 false)
  have w2 := w1.new (.cells (m.cells s) 26 false)
  have g2 := x2.get w1 g1
  generalize hH2 : H1.new (.cells (m.cells s) 26 false) = H2 at *
  obtain ⟨b0, b1, b2, b3, b4, b5, b6, b7⟩ := ldM g2
  by_cases hk : m.ck = 0
  · rw [if_pos hk]
    have hl : m.d.length ≤ 200 := by unfold Cm.ck at hk; split at hk <;> omega
    have hN : IntKind.wrap .i64 ((9 : Int) + ((s.len : Nat) : Int)) = ((m.d.length + 9 : Nat) : Int) := by rw [hn, w64 (by omega)]; omega
    have c0 : 0 ≤ (9 : Int) ∧ (9 : Int) ≤ ((m.d.length + 9 : Nat) : Int) ∧ ((m.d.length + 9 : Nat) : Int) ≤ 9223372036854775807 ∧ ((m.d.length + 9 : Nat) : Int) * ((1 : Nat) : Int) ≤ 281474976710656 := by omega
    have g3 := Heap.gnew H2 (.cells (bcs (List.replicate (m.d.length + 9) 0)) 5 false)
    have w3 := w2.new (.cells (bcs (List.replicate (m.d.length + 9) 0)) 5 false)
    have x3 := Ext.new H2 (.cells (bcs (List.replicate (m.d.length + 9) 0)) 5 false)
    have gi3 := x3.get w2 g2
    have hiq : i < H2.next := w2 _ _ g2
    have hq0 : H.next ≤ H2.next := (x1.trans x2).next
    have hZ : (List.replicate (m.d.length + 9) (0 : Int)).length = m.d.length + 9 := by simp
    have hn3 : (H2.new (.cells (bcs (List.replicate (m.d.length + 9) 0)) 5 false)).next = H2.next + 1 := rfl
    have xx3 := x1.trans (x2.trans x3)
    generalize hZ0 : List.replicate (m.d.length + 9) (0 : Int) = Z at *
    generalize hG3 : H2.new (.cells (bcs Z) 5 false) = G3 at *
    generalize hq : H2.next = q at *
    obtain ⟨c0', c1, c2, c3, c4, c5, c6, c7⟩ := ldM gi3
    have g4 := Heap.gnew G3 (.cells (bcs m.hd) 5 false)
    have x4 := Ext.new G3 (.cells (bcs m.hd) 5 false)
    have w4 := w3.new (.cells (bcs m.hd) 5 false)
    have gq4 := x4.get w3 g3
    have gi4 := x4.get w3 gi3
    generalize hG4 : G3.new (.cells (bcs m.hd) 5 false) = G4 at *
    have xx4 : Ext H G4 := xx3.trans x4
    have cp := fun (R : Type) (K : V → Heap → Option R) => copy9 (R := R) gq4 g4 rfl (by omega) (.ex (m.d.length + 9)) K
    have gi5 : ∀ o, (G4.put q o).get i = some (.cells (m.cells s) 26 false) := fun o => by rw [Heap.get_put, if_neg (by omega)]; exact gi4
    have bs5 : ∀ o, BS (G4.put q o) s m.d := fun o => h.ext hw (xx4.above (by omega) o)
    have hu1 := hm.f; have hu2 := hm.t
    have hhd : [V.i IntKind.u8 m.k, V.i IntKind.u8 m.c, V.i IntKind.u8 m.n, V.i IntKind.u8 m.x, V.i IntKind.u8 m.u, V.i IntKind.u8 (m.f % 256), V.i IntKind.u8 (m.f / 256 % 256), V.i IntKind.u8 (m.t % 256), V.i IntKind.u8 (m.t / 256 % 256)] = bcs m.hd := rfl
    have hD : (Z.drop 9).length = m.d.length := by simp [hZ]
    refine ⟨⟨some (q, 0), 9 + m.d.length, .ex (m.d.length + 9)⟩, G4.put q (.cells (bcs m.enc) 5 false), fun R K => ?_, ?_, by rw [Nat.add_comm], xx4.above (by omega) _, w4.put gq4 _⟩
    · rw [dd]
      unfold g11_p0 alo
      rw [hcell]
      simp only [Nat.zero_add, hi, hH1, a0, a1, a2, a3, a4, a5, a6, a7, Option.bind_some, e12, hH2, hk, b7, hN]
      rw [show ((0 : Int) != 0) = false from rfl, sel_false, if_pos c0, Int.toNat_natCast, zeros5, Option.bind_some, hZ0]
      simp only [hq, hG3, c0', c1, c2, c3, c4, c5, c6, Option.bind_some, wr8, sh8 hu1, sh8 hu2]
      have q1 : shrI .u32 m.f 8 % 256 = m.f / 256 % 256 := by have := sh8 hu1; rwa [wr8] at this
      have q2 : shrI .u32 m.t 8 % 256 = m.t / 256 % 256 := by have := sh8 hu2; rwa [wr8] at this
      rw [q1, q2, hhd, hG4, show Int.toNat 9 = 9 from rfl, cp, (ldM (gi5 _)).2.2.2.2.2.2.2, Option.bind_some, (bs5 _).is, Option.bind_some, hn]
      have ap := appendV_ex (R := R) (a := m.hd) (z := Z.drop 9) (b := m.d) (c := m.d.length + 9) (Heap.gput G4 q (.cells (bcs (m.hd ++ Z.drop 9)) 5 false)) (by omega) (by show 9 + m.d.length ≤ m.d.length + 9; omega) (fun s' G => K s' 0 G)
      refine ap.trans ?_
      rw [Heap.put_put, List.drop_of_length_le (by omega), List.append_nil]; rfl
    · have := BS.obj (c := .ex (m.d.length + 9)) (Heap.gput G4 q (.cells (bcs m.enc) 5 false))
      rwa [m.enc_len] at this
  · rw [if_neg hk]
    refine ⟨nilS, H2, fun R K => ?_, .nil _, rfl, x1.trans x2, w2⟩
    rw [dd]
    unfold g11_p0 alo
    rw [hcell]
    simp only [Nat.zero_add, hi, hH1, a0, a1, a2, a3, a4, a5, a6, a7, Option.bind_some, e12, hH2]
    rw [show (m.ck != 0) = true by simpa using hk, sel_true]
    rfl

/-! the law's bytes -/
theorem s14 {H : Heap} (hw : H.Wf) {s : Sl} {m : Cm} (hm : m.Ok) (h : BS H s m.d) (hl : m.d.length ≤ 1000000) :
    ∃ H', (∀ (R : Type) (K : ByteArray → Heap → Option R), g14 R m.k m.f m.t m.c m.n m.x m.u s H K = K (bsU (u8s m.enc)) H') ∧ Ext H H' ∧ H'.Wf := by
  have g1 := Heap.gnew H (.cells (m.cells s) 26 false)
  have w1 := hw.new (.cells (m.cells s) 26 false)
  have x1 := Ext.new H (.cells (m.cells s) 26 false)
  have hcell : [V.i IntKind.u8 m.k, V.i IntKind.u32 m.f, V.i IntKind.u32 m.t, V.i IntKind.u8 m.c, V.i IntKind.u8 m.n, V.i IntKind.u8 m.x, V.i IntKind.u8 m.u, V.sl s] = m.cells s := rfl
  have dd : ∀ (R : Type) (K : ByteArray → Heap → Option R), g14 R m.k m.f m.t m.c m.n m.x m.u s H K = g14_p0 R m.k m.f m.t m.c m.n m.x m.u s H K := fun _ _ => rfl
  generalize hi : H.next = i at *
  generalize hH1 : H.new (.cells (m.cells s) 26 false) = H1 at *
  obtain ⟨a0, a1, a2, a3, a4, a5, a6, a7⟩ := ldM g1
  have g2 := Heap.gnew H1 (.cells (bcs m.hd) 5 false)
  have x2 := Ext.new H1 (.cells (bcs m.hd) 5 false)
  have w2 := w1.new (.cells (bcs m.hd) 5 false)
  have gi2 := x2.get w1 g1
  have h2 : BS (H1.new (.cells (bcs m.hd) 5 false)) s m.d := h.ext hw (x1.trans x2)
  have bh := slB (BS.obj (c := .ex 9) g2)
  have x12 : Ext H (H1.new (.cells (bcs m.hd) 5 false)) := x1.trans x2
  have hu1 := hm.f; have hu2 := hm.t
  have hhd : [V.i IntKind.u8 m.k, V.i IntKind.u8 m.c, V.i IntKind.u8 m.n, V.i IntKind.u8 m.x, V.i IntKind.u8 m.u, V.i IntKind.u8 (m.f % 256), V.i IntKind.u8 (m.f / 256 % 256), V.i IntKind.u8 (m.t % 256), V.i IntKind.u8 (m.t / 256 % 256)] = bcs m.hd := rfl
  refine ⟨H1.new (.cells (bcs m.hd) 5 false), fun R K => ?_, x12, w2⟩
  rw [dd]
  unfold g14_p0 alo
  rw [hcell]
  simp only [Nat.zero_add, hi, hH1, a0, a1, a2, a3, a4, a5, a6, a7, Option.bind_some, tmodp hu1.1, tmodp hu2.1, tdivp hu1.1, tdivp hu2.1, wr8, wr32]
  rw [show m.f % 256 % 256 = m.f % 256 by omega, show m.t % 256 % 256 = m.t % 256 by omega, show m.f / 256 % 4294967296 % 256 = m.f / 256 % 256 by omega, show m.t / 256 % 4294967296 % 256 = m.t / 256 % 256 by omega, hhd]
  rw [show (Sl.mk (some (H1.next, 0)) 9 (.ex 9)) = ⟨some (H1.next, 0), m.hd.length, .ex 9⟩ from rfl, bh, Option.bind_some, (ldM gi2).2.2.2.2.2.2.2, Option.bind_some, slB h2, Option.bind_some, catU (by simp [u8s, Cm.hd]; omega)]
  rw [show u8s m.hd ++ u8s m.d = u8s m.enc by simp [u8s, Cm.enc]]

/-! is -/
theorem s16 {H : Heap} (hw : H.Wf) {t : Sl} {l : List Int} (h : BS H t l) (hb : Byt l) (hc : CapOk t) :
    ∃ H', (∀ (R : Type) (K : Bool → Heap → Option R), g16 R t H K = K (decide (9 ≤ l.length) && (Cm.de l).ck == 0) H') ∧ Ext H H' ∧ H'.Wf := by
  have hn : t.len = l.length := h.len
  by_cases h9 : l.length < 9
  · refine ⟨H, fun R K => ?_, .refl _ _, hw⟩
    simp only [g16, g16_r, g16_p0]
    rw [decide_eq_true (by omega), sel_true, decide_eq_false (by omega), Bool.false_and]
  obtain ⟨q, aq, rd⟩ := h.at (by intro e; rw [e] at h9; simp at h9)
  obtain ⟨s3, e3, bs3, cap3, _⟩ := slOf_from hc h (k := 9) (by omega)
  obtain ⟨H', e10, x1, w1⟩ := s10 hw (Cm.de_ok hb) (s := s3) bs3.len
  refine ⟨H', fun R K => ?_, x1, w1⟩
  have r0 : H.ldI .u8 q.1 (q.2 + Int.toNat 0 * 1) = some (l.getD 0 0) := rd 0 (by omega)
  have r1 : H.ldI .u8 q.1 (q.2 + Int.toNat 1 * 1) = some (l.getD 1 0) := rd 1 (by omega)
  have r2 : H.ldI .u8 q.1 (q.2 + Int.toNat 2 * 1) = some (l.getD 2 0) := rd 2 (by omega)
  have r3 : H.ldI .u8 q.1 (q.2 + Int.toNat 3 * 1) = some (l.getD 3 0) := rd 3 (by omega)
  have r4 : H.ldI .u8 q.1 (q.2 + Int.toNat 4 * 1) = some (l.getD 4 0) := rd 4 (by omega)
  have r5 : H.ldI .u8 q.1 (q.2 + Int.toNat 5 * 1) = some (l.getD 5 0) := rd 5 (by omega)
  have r6 : H.ldI .u8 q.1 (q.2 + Int.toNat 6 * 1) = some (l.getD 6 0) := rd 6 (by omega)
  have r7 : H.ldI .u8 q.1 (q.2 + Int.toNat 7 * 1) = some (l.getD 7 0) := rd 7 (by omega)
  have r8 : H.ldI .u8 q.1 (q.2 + Int.toNat 8 * 1) = some (l.getD 8 0) := rd 8 (by omega)
  have i0 : 0 ≤ (0 : Int) ∧ (0 : Int) < ((t.len : Nat) : Int) := by omega
  have i1 : 0 ≤ (1 : Int) ∧ (1 : Int) < ((t.len : Nat) : Int) := by omega
  have i2 : 0 ≤ (2 : Int) ∧ (2 : Int) < ((t.len : Nat) : Int) := by omega
  have i3 : 0 ≤ (3 : Int) ∧ (3 : Int) < ((t.len : Nat) : Int) := by omega
  have i4 : 0 ≤ (4 : Int) ∧ (4 : Int) < ((t.len : Nat) : Int) := by omega
  have i5 : 0 ≤ (5 : Int) ∧ (5 : Int) < ((t.len : Nat) : Int) := by omega
  have i6 : 0 ≤ (6 : Int) ∧ (6 : Int) < ((t.len : Nat) : Int) := by omega
  have i7 : 0 ≤ (7 : Int) ∧ (7 : Int) < ((t.len : Nat) : Int) := by omega
  have i8 : 0 ≤ (8 : Int) ∧ (8 : Int) < ((t.len : Nat) : Int) := by omega
  have h5 := hb.getD 5; have h6 := hb.getD 6; have h7 := hb.getD 7; have h8 := hb.getD 8
  simp only [g16, g16_r, g16_p0]
  rw [decide_eq_false (by omega), sel_false, decide_eq_true (by omega), Bool.true_and]
  simp only [if_pos i0, if_pos i1, if_pos i2, if_pos i3, if_pos i4, if_pos i5, if_pos i6, if_pos i7, if_pos i8, aq, Option.bind_some, r0, r1, r2, r3, r4, r5, r6, r7, r8]
  have e3' := e3 R
  rw [show ((9 : Nat) : Int) = 9 from rfl] at e3'
  rw [e3', show IntKind.wrap .u32 (IntKind.wrap .u32 (l.getD 5 0) + IntKind.wrap .u32 (256 * IntKind.wrap .u32 (l.getD 6 0))) = (Cm.de l).f by simp only [wr32, Cm.de]; omega]
  rw [show IntKind.wrap .u32 (IntKind.wrap .u32 (l.getD 7 0) + IntKind.wrap .u32 (256 * IntKind.wrap .u32 (l.getD 8 0))) = (Cm.de l).t by simp only [wr32, Cm.de]; omega]
  exact e10 R _
end Go.Proofs.Ytnlfkllnmobppaa

