/- SegmentsSplits: the law. -/
import Derived.Test.YtobebcfkddimkaaSG4
namespace Go.Proofs.Ytobebcfkddimkaa
open Go AM Go.RowKit
set_option linter.unusedVariables false
set_option linter.unusedSimpArgs false

theorem Sg.encLen (u : Sg) : u.enc.length = 5 + u.d.length := by simp [Sg.enc, Sg.hd]; omega
theorem Sg.ck_b {u : Sg} (h : u.ck = 0) : u.l < 16 ∧ u.d.length ≤ 256 := by
  unfold Sg.ck at h
  split at h
  · omega
  · split at h <;> omega
theorem Sg.enc_byt {u : Sg} (hu : u.Ok) (h : u.ck = 0) : Byt u.enc := by
  have h1 := hu.r; have h2 := hu.l; have h3 := Sg.ck_b h
  intro n hn
  simp only [Sg.enc, Sg.hd, List.mem_append, List.mem_cons, List.not_mem_nil, or_false] at hn
  rcases hn with (rfl | rfl | rfl | rfl | rfl) | hn
  · omega
  · omega
  · omega
  · omega
  · split <;> omega
  · exact hu.d n hn
theorem Sg.dec_enc {u : Sg} (hu : u.Ok) (h : u.ck = 0) : Sg.dec u.enc = (u, 0) := by
  have h1 := hu.r; have h2 := hu.l; have h3 := Sg.ck_b h; have hl := u.encLen
  have e4 : u.enc.getD 4 0 = if u.f then u.l + 128 else u.l := rfl
  have e5 : u.enc.drop 5 = u.d := rfl
  have er : ref4 u.enc = u.r := by
    show u.r % 256 * 1 + u.r / 256 % 256 * 256 + u.r / 65536 % 256 * 65536 + u.r / 16777216 * 16777216 = u.r
    omega
  have el : (if u.f then u.l + 128 else u.l) % 128 = u.l := by split <;> omega
  have ef : decide ((if u.f then u.l + 128 else u.l) ≥ 128) = u.f := by
    cases u.f
    · simp; omega
    · simp; omega
  unfold Sg.dec
  rw [if_neg (by omega), e4, e5, er, el, ef, if_neg (by omega), if_neg (by omega)]
theorem s21 {R : Type} {H : Heap} {s t : Sl} {u : Sg} (hw : H.Wf) (hs : BS H s u.d) (ht : BS H t u.d) (K : Bool → Heap → Option R) :
    g21 R u.r u.f u.l s u.r u.f u.l t H K = K true ((H.new (.cells (u.cells s) 45 false)).new (.cells (u.cells t) 45 false)) := by
  have g1 := Heap.gnew H (.cells (u.cells s) 45 false)
  have w1 := hw.new (.cells (u.cells s) 45 false)
  have x1 := Ext.new H (.cells (u.cells s) 45 false)
  have x2 := Ext.new (H.new (.cells (u.cells s) 45 false)) (.cells (u.cells t) 45 false)
  have g2 := Heap.gnew (H.new (.cells (u.cells s) 45 false)) (.cells (u.cells t) 45 false)
  have g1' := x2.get w1 g1
  obtain ⟨a0, a1, a2, a3⟩ := ldS g1'
  obtain ⟨b0, b1, b2, b3⟩ := ldS g2
  simp only [g21, g21_r, g21_p0, alo, Nat.zero_add]
  rw [show [V.i IntKind.u32 u.r, V.b u.f, V.i IntKind.u8 u.l, V.sl s] = u.cells s from rfl, show [V.i IntKind.u32 u.r, V.b u.f, V.i IntKind.u8 u.l, V.sl t] = u.cells t from rfl]
  simp only [a0, a1, a2, a3, b0, b1, b2, b3, Option.bind_some, beq_self_eq_true, sel_true, slB (hs.ext hw (x1.trans x2)), slB (ht.ext hw (x1.trans x2)), strEqU, decide_true]
theorem s18_bad {R : Type} {H : Heap} {r : Int} {t : Sl} {m : Int} (hm : m < 1 ∨ m > 256) (K : Sl → Int → Heap → Option R) : g18 R r t m H K = K nilS 1 H := by
  have dd : g18 R r t m H K = g18_p6 g32 g31 R r t m H K := rfl
  rw [dd]
  unfold g18_p6 g18_p0
  rw [selD, selD]
  rcases hm with h | h
  · rw [if_pos h]; rfl
  · rw [if_neg (by omega), if_pos h]; rfl
theorem s18_many {R : Type} {H : Heap} {r : Int} {t : Sl} {m : Int} (hm : 1 ≤ m ∧ m ≤ 256) (hl : t.len ≤ 5000) (h : cnt t.len m.toNat > 16) (K : Sl → Int → Heap → Option R) : g18 R r t m H K = K nilS 3 H := by
  have dd : g18 R r t m H K = g18_p6 g32 g31 R r t m H K := rfl
  rw [dd]
  unfold g18_p6 g18_p0
  rw [cnt_i hm hl, selD, selD, if_neg (by omega), if_neg (by omega), if_neg (by omega), selD, if_pos (by omega)]
  rfl
theorem segmentsSplits_true (H : Heap) (hw : H.Wf) (r : Int) (t : Sl) (m : Int) (k1 : (Lit.int .u32 r).wf = true) (k2 : ArgSl H [.i .u8] t) (k3 : (Lit.int .i64 m).wf = true) :
    g7 Bool r t m H (fun r _ => some r) = some true := by
  obtain ⟨d, hd, hb, hc, _, _⟩ := bs_of_arg k2
  have hn : t.len = d.length := hd.len
  have hr := wfU32 k1
  have dd : g7 Bool r t m H (fun r _ => some r) = g7_p6 g9 g18 g19 g20 g21 Bool r t m H (fun r _ => some r) := rfl
  rw [dd]
  unfold g7_p6 g7_p0
  rw [selD]
  by_cases h1 : ((t.len : Nat) : Int) > 5000
  · rw [if_pos h1, s9]
  rw [if_neg h1]
  have z1 : ((1 : Int) == 1) = true := rfl
  have z3 : ((3 : Int) == 3) = true := rfl
  have zl : (((nilS.len : Nat) : Int) == 0) = true := rfl
  by_cases h2 : m < 1
  · rw [s18_bad (.inl h2), decide_eq_true h2, sel_true, z1, sel_true, zl, sel_true, s9]
  by_cases h3 : m > 256
  · rw [s18_bad (.inr h3), decide_eq_false h2, sel_false, decide_eq_true h3, sel_true, z1, sel_true, zl, sel_true, s9]
  have hm : 1 ≤ m ∧ m ≤ 256 := by omega
  have hcnt := cnt_i hm (n := t.len) (by omega)
  by_cases h4 : cnt t.len m.toNat > 16
  · rw [s18_many hm (by omega) h4, decide_eq_false h2, sel_false, decide_eq_false h3, sel_false, if_neg (by omega), hcnt, decide_eq_true (show ((cnt t.len m.toNat : Nat) : Int) > 16 by omega), sel_true, z3, sel_true, zl, sel_true, s9]
  rw [hn] at h4 hcnt
  obtain ⟨q, H1, e18, rows, x1, w1⟩ := s18 hw (r := r) hd hc (by omega) hm (by omega)
  have hp := cnt_pos d.length m.toNat
  have hle := fun i hi => @cnt_le d.length m.toNat i (by omega) hi
  have hend := @cnt_end d.length m.toNat (by omega)
  rw [e18, decide_eq_false h2, sel_false, decide_eq_false h3, sel_false, if_neg (by omega), hn, hcnt]
  have hmm : ((m.toNat : Nat) : Int) = m := by omega
  generalize hN : cnt d.length m.toNat = N at *
  generalize hmn : m.toNat = mn at *
  rw [decide_eq_false (show ¬((N : Nat) : Int) > 16 by omega), sel_false, show ((0 : Int) != 0) = false from rfl, sel_false]
  simp only [bne_self_eq_false, sel_false, capK_ex]
  obtain ⟨rr, H', e, hrr, wH'⟩ := tlim_inv (b := g7_p2_b g9 g18 g19 g20 g21) (fun st G => ∃ k : Nat, st = (r, t, m, ⟨some (q, 0), N, .ex N⟩, (N : Int), ((min (k * mn) d.length : Nat) : Int), (k : Int)) ∧ k ≤ N ∧ Ext H1 G ∧ G.Wf) (fun st => N - st.2.2.2.2.2.2.toNat)
    (fun rr G => rr = .inl (t, ((d.length : Nat) : Int)) ∧ G.Wf) (by
      rintro st G ⟨k, rfl, hk, hx, hwG⟩
      by_cases hkN : k < N
      · left
        obtain ⟨s, hrow⟩ := rows k hkN
        have hrG := hrow.ext w1 hx
        have hkm := hle k hkN
        rw [Nat.min_eq_left hkm]
        have hk1 : k * mn ≤ 4096 := Nat.mul_le_mul (show k ≤ 16 by omega) (show mn ≤ 256 by omega)
        -- numbers
        have wk : IntKind.wrap .i64 ((k : Int) + 1) = ((k + 1 : Nat) : Int) := by rw [w64 (by omega)]; rfl
        have wd : IntKind.wrap .i64 (((d.length : Nat) : Int) - ((k * mn : Nat) : Int)) = ((d.length - k * mn : Nat) : Int) := by rw [w64 (by omega)]; omega
        have wsz : (if ((d.length - k * mn : Nat) : Int) < m then ((d.length - k * mn : Nat) : Int) else m) = ((min mn (d.length - k * mn) : Nat) : Int) := by split <;> omega
        have wat : IntKind.wrap .i64 (((k * mn : Nat) : Int) + ((min mn (d.length - k * mn) : Nat) : Int)) = ((min ((k + 1) * mn) d.length : Nat) : Int) := by
          rw [Nat.succ_mul, w64 (by omega)]; omega
        have wl : IntKind.wrap .i64 ((IntKind.wrap .i64 ((N : Int) - 1)) - (k : Int)) = (N : Int) - 1 - k := by rw [w64 (n := (N : Int) - 1) (by omega), w64 (by omega)]
        have wl2 : IntKind.wrap .i64 ((N : Int) - 1 - k) = (N : Int) - 1 - k := w64 (by omega)
        -- the part
        have hud : (part r d mn N k).d = (d.drop (k * mn)).take mn := rfl
        have hul : (part r d mn N k).l = (N : Int) - 1 - k := rfl
        have hur : (part r d mn N k).r = r := rfl
        have huf : ((part r d mn N k).f == ((k : Int) == 0)) = true := by
          show (decide (k = 0) == ((k : Int) == 0)) = true
          by_cases h0 : k = 0
          · subst h0; rfl
          · rw [show ((k : Int) == 0) = false by simpa using h0, show decide (k = 0) = false by simpa using h0]; rfl
        have hulen : (part r d mn N k).d.length = min mn (d.length - k * mn) := by rw [hud]; simp
        have uok : (part r d mn N k).Ok := ⟨hr, by rw [hul]; omega, by rw [hud]; exact (hb.drop _).take _⟩
        have uck : (part r d mn N k).ck = 0 := by unfold Sg.ck; rw [if_neg (by rw [hul]; omega), if_neg (by omega)]
        have hpart : (d.drop (k * mn)).take (min ((k + 1) * mn) d.length - k * mn) = (part r d mn N k).d := by
          rw [hud, Nat.succ_mul]
          by_cases hh : d.length ≤ k * mn + mn
          · rw [List.take_of_length_le (by simp; omega), List.take_of_length_le (by simp; omega)]
          · rw [show min (k * mn + mn) d.length - k * mn = mn by omega]
        generalize part r d mn N k = u at *
        obtain ⟨l0, l1, l2, l3⟩ := hrG.ld
        -- a copy of the part
        have gz := Heap.gnew G (.cells (Sg.zero.cells nilS) 45 false)
        have wz := hwG.new (.cells (Sg.zero.cells nilS) 45 false)
        have pz : (G.new (.cells (Sg.zero.cells nilS) 45 false)).sts G.next 0 (u.cells s) = some ((G.new (.cells (Sg.zero.cells nilS) 45 false)).put G.next (.cells (u.cells s) 45 false)) := sts_all gz
        have gP := Heap.gput (G.new (.cells (Sg.zero.cells nilS) 45 false)) G.next (.cells (u.cells s) 45 false)
        have wP := wz.put gz (.cells (u.cells s) 45 false)
        have xP : Ext G ((G.new (.cells (Sg.zero.cells nilS) 45 false)).put G.next (.cells (u.cells s) 45 false)) := (Ext.new G _).above (Nat.le_refl _) _
        generalize hj : G.next = j at *
        generalize hP : (G.new (.cells (Sg.zero.cells nilS) 45 false)).put j (.cells (u.cells s) 45 false) = P at *
        obtain ⟨a0, a1, a2, a3⟩ := ldS gP
        have bsP := hrG.bs.ext hwG xP
        have xHP : Ext H P := x1.trans (hx.trans xP)
        obtain ⟨s7, e7, bs7, _⟩ := slOf_mid hc (hd.ext hw xHP) (k := k * mn) (b := min ((k + 1) * mn) d.length) (by rw [Nat.succ_mul]; omega) (by omega)
        rw [hpart] at bs7
        obtain ⟨s2, P2, e19, bs2, cap2, x2, w2⟩ := s19 wP uok bsP (by omega)
        rw [if_pos uck] at bs2
        obtain ⟨s3, P3, e20, bs3, cap3, x3, w3⟩ := s20 w2 bs2 (Sg.enc_byt uok uck) (by unfold CapOk; rw [cap2]; exact Nat.le_refl _) (by rw [u.encLen]; omega)
        rw [Sg.dec_enc uok uck] at e20 bs3
        have g4 := Heap.gnew P3 (.cells (Sg.zero.cells nilS) 45 false)
        have w4 := w3.new (.cells (Sg.zero.cells nilS) 45 false)
        have p4 : (P3.new (.cells (Sg.zero.cells nilS) 45 false)).sts P3.next 0 (u.cells s3) = some ((P3.new (.cells (Sg.zero.cells nilS) 45 false)).put P3.next (.cells (u.cells s3) 45 false)) := sts_all g4
        have g5 := Heap.gput (P3.new (.cells (Sg.zero.cells nilS) 45 false)) P3.next (.cells (u.cells s3) 45 false)
        have w5 := w4.put g4 (.cells (u.cells s3) 45 false)
        have x5 : Ext P3 ((P3.new (.cells (Sg.zero.cells nilS) 45 false)).put P3.next (.cells (u.cells s3) 45 false)) := (Ext.new P3 _).above (Nat.le_refl _) _
        generalize hj2 : P3.next = j2 at *
        generalize hP5 : (P3.new (.cells (Sg.zero.cells nilS) 45 false)).put j2 (.cells (u.cells s3) 45 false) = P5 at *
        have xP5 : Ext P P5 := x2.trans (x3.trans x5)
        obtain ⟨b0, b1, b2, b3⟩ := ldS (xP5.get wP gP)
        obtain ⟨c0, c1, c2, c3⟩ := ldS g5
        have e21 := fun (K : Bool → Heap → Option (Rd g7_p2_S g7_p2_O × Heap)) => s21 w5 (bsP.ext wP xP5) (bs3.ext w3 x5) K
        have n2 : s2.len = 5 + u.d.length := by rw [bs2.len, u.encLen]
        have w25 : IntKind.wrap .i64 ((5 : Int) + ((min mn (d.length - k * mn) : Nat) : Int)) = ((s2.len : Nat) : Int) := by rw [w64 (by omega)]; omega
        have x6 : Ext P5 ((P5.new (.cells (u.cells s) 45 false)).new (.cells (u.cells s3) 45 false)) := (Ext.new P5 _).trans (Ext.new _ _)
        refine ⟨(r, t, m, ⟨some (q, 0), N, .ex N⟩, (N : Int), ((min ((k + 1) * mn) d.length : Nat) : Int), ((k + 1 : Nat) : Int)), (P5.new (.cells (u.cells s) 45 false)).new (.cells (u.cells s3) 45 false), ?_, ⟨k + 1, rfl, by omega, hx.trans (xP.trans (xP5.trans x6)), (w5.new _).new _⟩, by dsimp only; omega⟩
        simp only [g7_p2_b, g7_p1]
        rw [show decide ((k : Int) < (N : Int)) = true by simp; omega, sel_true, if_pos (by omega), Option.bind_some, Int.toNat_natCast]
        rw [l0, Option.bind_some, l1, Option.bind_some, l2, Option.bind_some, l3, Option.bind_some]
        unfold alo
        rw [show [V.i IntKind.u32 0, V.b false, V.i IntKind.u8 0, V.sl (Sl.mk none 0 (.ex 0))] = Sg.zero.cells nilS from rfl, show [V.i IntKind.u32 u.r, V.b u.f, V.i IntKind.u8 u.l, V.sl s] = u.cells s from rfl]
        simp only [hj, pz, Option.bind_some, Nat.zero_add, a0, a1, a2, a3, hn, wd, wsz, wat, wl, wl2]
        rw [hur, bne_self_eq_false, sel_false, huf, Bool.not_true, sel_false, hul, wl2, bne_self_eq_false, sel_false, slB bsP, Option.bind_some, e7, slB bs7, Option.bind_some, strEqU, decide_eq_true rfl, Bool.not_true, sel_false, hrG.cap, capK_ex, bne_self_eq_false, sel_false]
        rw [← hul, ← hur]
        rw [e19, e20]
        rw [show [V.i IntKind.u32 u.r, V.b u.f, V.i IntKind.u8 u.l, V.sl s3] = u.cells s3 from rfl]
        simp only [hj2, p4, Option.bind_some, uck, bne_self_eq_false, sel_false, w25, cap2, capK_ex, b0, b1, b2, b3, c0, c1, c2, c3]
        rw [e21, Bool.not_true, sel_false, wk]
      · right
        have hkN' : k = N := by omega
        subst hkN'
        refine ⟨.inl (t, ((d.length : Nat) : Int)), G, ?_, rfl, hwG⟩
        simp only [g7_p2_b, g7_p1]
        rw [show decide ((k : Int) < (k : Int)) = false by simp, sel_false, Nat.min_eq_right hend]) (r, t, m, ⟨some (q, 0), N, .ex N⟩, (N : Int), 0, 0) H1 ⟨0, by simp, by omega, .refl _ _, w1⟩
  subst hrr
  simp only [g7_p5, g7_p3, g7_p2, e, Option.bind_some, g7_p4, cas, hn]
  rw [beq_self_eq_true, sel_true, s9]
end Go.Proofs.Ytobebcfkddimkaa

