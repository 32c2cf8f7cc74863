/- Labels: Text, Parse and their laws. -/
import Derived.Test.YtgdkkpjmjnknoaaDoorLB11
namespace Go.Proofs.YtgdkkpjmjnknoaaDoor
open Go AM Go.RowKit
set_option linter.unusedVariables false
set_option linter.unusedSimpArgs false

/-! Text -/
def i8s (l : List UInt8) : List Int := l.map fun b => (b.toNat : Int)
theorem u8s_i8s (l : List UInt8) : u8s (i8s l) = l := by
  unfold u8s i8s
  rw [List.map_map]
  have : ∀ b : UInt8, UInt8.ofNat ((b.toNat : Int)).toNat = b := fun b => by
    apply UInt8.toNat_inj.1; rw [UInt8.toNat_ofNat']; have := u8lt b; omega
  conv => rhs; rw [← List.map_id l]
  exact List.map_congr_left fun b _ => this b
theorem i8s_byt (l : List UInt8) : Byt (i8s l) := fun n hn => by
  simp only [i8s, List.mem_map] at hn
  obtain ⟨b, _, rfl⟩ := hn
  have := u8lt b; omega
theorem i8s_len (l : List UInt8) : (i8s l).length = l.length := by simp [i8s]
theorem s29 {R : Type} {x : Int} (h : -9223372036854775808 ≤ x ∧ x ≤ 9223372036854775807) (H : Heap) (K : ByteArray → Heap → Option R) : g29 R x H K = K (bsU (decI x)) H := if_pos h
theorem own_str {H0 H : Heap} {x : Sl} {l : List V} (hw : H.Wf) (hx : Ext H0 H) (ho : Own H 9 1 x l) (hab : x.above H0.next) (v : ByteArray) (hl : l.length ≤ 100) :
    ∃ s' H', (∀ (R : Type) (K : Sl → Heap → Option R), ((slCells (H.new (.cells [.s v] 9 false)) 1 ⟨some (H.next, 0), 1, .ex 1⟩).bind fun vs => appendV (H.new (.cells [.s v] 9 false)) 9 1 16 x 1 vs K) = K s' H') ∧ Own H' 9 1 s' (l ++ [.s v]) ∧ s'.above H0.next ∧ Ext H0 H' ∧ H'.Wf := by
  have x1 := Ext.new H (.cells [.s v] 9 false)
  have w1 := hw.new (.cells [.s v] 9 false)
  have g1 := Heap.gnew H (.cells [.s v] 9 false)
  have hs : slCells (H.new (.cells [.s v] 9 false)) 1 ⟨some (H.next, 0), 1, .ex 1⟩ = some [.s v] := by
    unfold slCells
    simp only [Nat.mul_one]
    rw [if_neg (by omega)]
    unfold Heap.lds
    rw [g1]
    rfl
  have hlx : x.len = l.length := by have := ho.len; simpa using this.symm
  have ho1 := ho.mono (H' := H.new (.cells [.s v] 9 false)) fun id o hid hgo => x1.get hw hgo
  obtain ⟨r, G', e1, o1, l1, a1, w2, n1, f1⟩ := own_append (bytes := 16) w1 ho1 (n := 1) (new := [.s v]) (by omega) (by omega) rfl rfl (by omega) (by omega)
  have hxn := hx.next
  have hn1 : (H.new (.cells [.s v] 9 false)).next = H.next + 1 := rfl
  refine ⟨r, G', fun R K => by rw [hs, Option.bind_some, e1], o1, fun id off e => by rw [a1] at e; cases e; omega, ⟨by omega, fun i hi hs => ?_⟩, w2⟩
  rw [f1 i (by omega) (fun e => by have := hab _ _ e; omega), Heap.get_new, if_neg (by omega)]; exact hx.same i hi hs
theorem part3 {R : Type} (a b c : Int) (K : V → Option R) : partV Tryd.prog 3 [.i .i64 a, .i .i64 b, .i .i64 c] (Int.toNat 0 * 1) K = K (.i .i64 a) ∧ partV Tryd.prog 3 [.i .i64 a, .i .i64 b, .i .i64 c] (Int.toNat 1 * 1) K = K (.i .i64 b) ∧ partV Tryd.prog 3 [.i .i64 a, .i .i64 b, .i .i64 c] (Int.toNat 2 * 1) K = K (.i .i64 c) := by
  have h1 : Tryd.prog.underlying 3 = some (.int .i64) := by kernel_rfl
  refine ⟨?_, ?_, ?_⟩ <;> (simp only [partV, h1]; rfl)
def txt (p : Int) : List UInt8 := decI (p / 2048) ++ [45] ++ decI (p / 8 % 256) ++ [45] ++ decI (p % 8)
theorem parts_all : ∀ (a : Fin 64) (b : Fin 256), IntKind.wrap .i64 (shrI .u16 ((256 * a.val + b.val : Nat) : Int) 11) = ((256 * a.val + b.val : Nat) : Int) / 2048 ∧ IntKind.wrap .i64 (bvAnd .u16 (shrI .u16 ((256 * a.val + b.val : Nat) : Int) 3) 255) = ((256 * a.val + b.val : Nat) : Int) / 8 % 256 ∧ IntKind.wrap .i64 (bvAnd .u16 ((256 * a.val + b.val : Nat) : Int) 7) = ((256 * a.val + b.val : Nat) : Int) % 8 := by decide +kernel
theorem parts_eq {p : Int} (h : 0 ≤ p ∧ p ≤ 16383) : IntKind.wrap .i64 (shrI .u16 p 11) = p / 2048 ∧ IntKind.wrap .i64 (bvAnd .u16 (shrI .u16 p 3) 255) = p / 8 % 256 ∧ IntKind.wrap .i64 (bvAnd .u16 p 7) = p % 8 := by
  have := parts_all ⟨p.toNat / 256, by omega⟩ ⟨p.toNat % 256, by omega⟩
  simp only at this
  rwa [show ((256 * (p.toNat / 256) + p.toNat % 256 : Nat) : Int) = p by omega] at this
theorem s11 {H : Heap} (hw : H.Wf) {p : Int} (hp : 0 ≤ p ∧ p ≤ 65535) : ∃ H', (∀ (R : Type) (K : ByteArray → Heap → Option R), g11 R p H K = K (bsU (if p > 16383 then [] else txt p)) H') ∧ Ext H H' ∧ H'.Wf := by
  have dd : ∀ (R : Type) (K : ByteArray → Heap → Option R), g11 R p H K = g11_p0 g29 g30 R p H (fun t4 t20_0 t20_1 t20_2 t21 H => g11_p5 g29 g30 R t4 t20_0 t20_1 t20_2 t21 H K) K := fun _ _ => rfl
  by_cases h1 : p > 16383
  · refine ⟨H, fun R K => ?_, Fr'.refl _ _, hw⟩
    rw [dd, if_pos h1]
    simp only [g11_p0]
    rw [decide_eq_true h1, sel_true]
    rfl
  · rw [if_neg h1]
    obtain ⟨e1, e2, e3⟩ := parts_eq (p := p) (by omega)
    have g1 := Heap.gnew H (.cells [.i .i64 0, .i .i64 0, .i .i64 0] 67 false)
    have w1 := hw.new (.cells [.i .i64 0, .i .i64 0, .i .i64 0] 67 false)
    have x1 := Ext.new H (.cells [.i .i64 0, .i .i64 0, .i .i64 0] 67 false)
    have st : (H.new (.cells [.i .i64 0, .i .i64 0, .i .i64 0] 67 false)).sts H.next 0 [.i .i64 (p / 2048), .i .i64 (p / 8 % 256), .i .i64 (p % 8)] = some ((H.new (.cells [.i .i64 0, .i .i64 0, .i .i64 0] 67 false)).put H.next (.cells [.i .i64 (p / 2048), .i .i64 (p / 8 % 256), .i .i64 (p % 8)] 67 false)) := by rw [sts_of g1 (by simp) rfl]; rfl
    have g2 := Heap.gput (H.new (.cells [.i .i64 0, .i .i64 0, .i .i64 0] 67 false)) H.next (.cells [.i .i64 (p / 2048), .i .i64 (p / 8 % 256), .i .i64 (p % 8)] 67 false)
    have w2 : ((H.new (.cells [.i .i64 0, .i .i64 0, .i .i64 0] 67 false)).put H.next (.cells [.i .i64 (p / 2048), .i .i64 (p / 8 % 256), .i .i64 (p % 8)] 67 false)).Wf := w1.put g1 _
    have x2 : Ext H ((H.new (.cells [.i .i64 0, .i .i64 0, .i .i64 0] 67 false)).put H.next (.cells [.i .i64 (p / 2048), .i .i64 (p / 8 % 256), .i .i64 (p % 8)] 67 false)) := x1.above (Nat.le_refl _) _
    generalize hX : (H.new (.cells [.i .i64 0, .i .i64 0, .i .i64 0] 67 false)).put H.next (.cells [.i .i64 (p / 2048), .i .i64 (p / 8 % 256), .i .i64 (p % 8)] 67 false) = X at *
    have l0 : X.ldI .i64 H.next 0 = some (p / 2048) := ldI_of g2 rfl
    have l1 : X.ldI .i64 H.next 1 = some (p / 8 % 256) := ldI_of g2 rfl
    have l2 : X.ldI .i64 H.next 2 = some (p % 8) := ldI_of g2 rfl
    -- the three texts
    obtain ⟨s1, Y1, p1, o1, ab1, y1, v1⟩ := own_str (H0 := H) (x := nilS) (l := []) w2 x2 .nil (fun _ _ h => by cases h) (bsU (decI (p / 2048))) (by simp)
    obtain ⟨s2, Y2, p2, o2, ab2, y2, v2⟩ := own_str (H0 := H) v1 y1 o1 ab1 (bsU (decI (p / 8 % 256))) (by simp)
    obtain ⟨s3, Y3, p3, o3, ab3, y3, v3⟩ := own_str (H0 := H) v2 y2 o2 ab2 (bsU (decI (p % 8))) (by simp)
    have b0 : -9223372036854775808 ≤ p / 2048 ∧ p / 2048 ≤ 9223372036854775807 := by omega
    have b1 : -9223372036854775808 ≤ p / 8 % 256 ∧ p / 8 % 256 ≤ 9223372036854775807 := by omega
    have b2 : -9223372036854775808 ≤ p % 8 ∧ p % 8 ≤ 9223372036854775807 := by omega
    have step : ∀ (k : Int) (v : Int) (s s' : Sl) (G G' : Heap), 0 ≤ k ∧ k < 3 → -9223372036854775808 ≤ v ∧ v ≤ 9223372036854775807 →
        (∀ (R : Type) (K : V → Option R), partV Tryd.prog 3 [.i .i64 (p / 2048), .i .i64 (p / 8 % 256), .i .i64 (p % 8)] (Int.toNat k * 1) K = K (.i .i64 v)) →
        (∀ (R : Type) (K : Sl → Heap → Option R), ((slCells (G.new (.cells [.s (bsU (decI v))] 9 false)) 1 ⟨some (G.next, 0), 1, .ex 1⟩).bind fun vs => appendV (G.new (.cells [.s (bsU (decI v))] 9 false)) 9 1 16 s 1 vs K) = K s' G') →
        g11_p2_b g29 g30 (s, p / 2048, p / 8 % 256, p % 8, k) G = some (.go (s', p / 2048, p / 8 % 256, p % 8, k + 1), G') := by
      intro k v s s' G G' hk hv hpt hpp
      simp only [g11_p2_b, g11_p1]
      rw [decide_eq_true hk.2, sel_true, if_pos (by omega), hpt]
      simp only [V.asI, if_true, Option.bind_some]
      rw [s29 hv, w64 (by omega)]
      exact hpp _ _
    have tl : tlim (g11_p2_b g29 g30) (nilS, p / 2048, p / 8 % 256, p % 8, 0) X = some (s3, Y3) := by
      refine (tlim_go (step 0 _ _ _ _ _ (by omega) b0 (fun R K => (part3 _ _ _ K).1) p1)).trans ?_
      refine (tlim_go (step (0 + 1) _ _ _ _ _ (by omega) b1 (fun R K => by rw [show (0 : Int) + 1 = 1 from rfl]; exact (part3 _ _ _ K).2.1) p2)).trans ?_
      refine (tlim_go (step (0 + 1 + 1) _ _ _ _ _ (by omega) b2 (fun R K => by rw [show (0 : Int) + 1 + 1 = 2 from rfl]; exact (part3 _ _ _ K).2.2) p3)).trans ?_
      refine tlim_up ?_
      simp only [g11_p2_b, g11_p1]
      rw [decide_eq_false (by omega), sel_false]
    obtain ⟨_, _, c1⟩ := dec_num (n := p / 2048) (by omega)
    obtain ⟨_, _, c2⟩ := dec_num (n := p / 8 % 256) (by omega)
    obtain ⟨_, _, c3⟩ := dec_num (n := p % 8) (by omega)
    rcases o3.inv with ⟨_, e⟩ | ⟨id, n, hs3, hg3, hl3⟩
    · simp at e
    · have hn3 : n = 3 := by simp at hl3; omega
      subst hn3
      have hg3' : Y3.get id = some (.cells [.s (bsU (u8s (i8s (decI (p / 2048))))), .s (bsU (u8s (i8s (decI (p / 8 % 256))))), .s (bsU (u8s (i8s (decI (p % 8)))))] 9 false) := by
        rw [u8s_i8s, u8s_i8s, u8s_i8s]; exact hg3
      obtain ⟨H', q1, z1, z2⟩ := join3 v3 hg3' (i8s_byt _) (i8s_byt _) (i8s_byt _) (by rw [i8s_len]; omega) (by rw [i8s_len]; omega) (by rw [i8s_len]; omega) (.op 1) rfl
      refine ⟨H', fun R K => ?_, y3.trans z1, z2⟩
      rw [dd]
      simp only [g11_p0, alo]
      rw [decide_eq_false h1, sel_false, e1, e2, e3, st]
      simp only [Option.bind_some, Nat.zero_add, l0, l1, l2, g11_p5, g11_p3, g11_p2]
      rw [show (Sl.mk none 0 (.ex 0)) = nilS from rfl, tl, Option.bind_some]
      simp only [g11_p4]
      rw [hs3, q1]
      congr 1
      simp only [u8s, List.map_append, txt]
      have hh : ∀ l : List UInt8, List.map (fun n : Int => UInt8.ofNat n.toNat) (i8s l) = l := u8s_i8s
      rw [hh, hh, hh]
      rfl
theorem s14 {R : Type} {p : Int} (hp : 0 ≤ p ∧ p ≤ 16383) (H : Heap) (K : ByteArray → Heap → Option R) : g14 R p H K = K (bsU (txt p)) H := by
  have w : IntKind.wrap .i64 p = p := w64 (by omega)
  have w2 : IntKind.wrap .i64 (p / 2048) = p / 2048 := w64 (by omega)
  have w3 : IntKind.wrap .i64 (p / 8) = p / 8 := w64 (by omega)
  obtain ⟨_, _, c1⟩ := dec_num (n := p / 2048) (by omega)
  obtain ⟨_, _, c2⟩ := dec_num (n := p / 8 % 256) (by omega)
  obtain ⟨_, _, c3⟩ := dec_num (n := p % 8) (by omega)
  simp only [g14, g14_r, g14_p0, w, tdivp hp.1, w2, w3, tmodp (show 0 ≤ p / 8 by omega), tmodp hp.1]
  rw [s29 (by omega), show str1 = bsU [45] from rfl, catU (by simp; omega)]
  rw [s29 (by omega), catU (by simp; omega), catU (by simp; omega)]
  rw [s29 (by omega), catU (by simp; omega)]
  rfl

/-! Parse -/
def parseF (l : List UInt8) : Int × Int := match spl1 45 l with
  | [x, y, z] => match numF x, numF y, numF z with
    | some a, some b, some c => if a > 7 ∨ b > 255 ∨ c > 7 then (0, 1) else (2048 * a + 8 * b + c, 0)
    | _, _, _ => (0, 4)
  | _ => (0, 4)
def pcs (l : List UInt8) : List V := (spl1 45 l).map fun x => .s (bsU x)
theorem s15 {R : Type} {l : List UInt8} (hl : l.length ≤ 1000) (H : Heap) (K : Sl → Heap → Option R) : g15 R (bsU l) str1 H K = K ⟨some (H.next, 0), (spl1 45 l).length, .ex (spl1 45 l).length⟩ (H.new (.cells (pcs l) 9 false)) := by
  obtain ⟨h1, h2⟩ := spl_eq 45 l
  have e1 : (bsU l).data.toList = l := by simp [bsU]
  have e2 : str1.data.toList = [45] := rfl
  have : g15 R (bsU l) str1 H K = if (bsU l).size < 4294967281 ∧ 1 ≤ str1.size then K ⟨some (H.next, 0), Lib.count (bsU l).data.toList str1.data.toList + 1, .ex (Lib.count (bsU l).data.toList str1.data.toList + 1)⟩ (H.new (.cells ((Lib.split (bsU l).data.toList str1.data.toList).map fun l => .s ⟨l.toArray⟩) 9 false)) else none := rfl
  rw [this, if_pos ⟨by rw [bsU_size]; omega, by decide⟩, e1, e2, h1, h2]
  rfl
theorem bits_all : ∀ (a c : Fin 8) (b : Fin 256), IntKind.wrap .u16 (bvOr .i64 (bvOr .i64 (shlI .i64 ((a.val : Nat) : Int) 11) (shlI .i64 ((b.val : Nat) : Int) 3)) ((c.val : Nat) : Int)) = 2048 * ((a.val : Nat) : Int) + 8 * ((b.val : Nat) : Int) + ((c.val : Nat) : Int) := by decide +kernel
theorem bits_eq {a b c : Int} (ha : 0 ≤ a ∧ a ≤ 7) (hb : 0 ≤ b ∧ b ≤ 255) (hc : 0 ≤ c ∧ c ≤ 7) : IntKind.wrap .u16 (bvOr .i64 (bvOr .i64 (shlI .i64 a 11) (shlI .i64 b 3)) c) = 2048 * a + 8 * b + c := by
  have := bits_all ⟨a.toNat, by omega⟩ ⟨c.toNat, by omega⟩ ⟨b.toNat, by omega⟩
  simp only at this
  rwa [show ((a.toNat : Nat) : Int) = a by omega, show ((b.toNat : Nat) : Int) = b by omega, show ((c.toNat : Nat) : Int) = c by omega] at this
theorem s13 {H : Heap} (hw : H.Wf) {l : List UInt8} (hl : l.length ≤ 1000) : ∃ H', (∀ (R : Type) (K : Int → Int → Heap → Option R), g13 R (bsU l) H K = K (parseF l).1 (parseF l).2 H') ∧ Ext H H' ∧ H'.Wf := by
  have dd : ∀ (R : Type) (K : Int → Int → Heap → Option R), g13 R (bsU l) H K = g13_p0 g15 g31 R (bsU l) H (fun t5_0 t5_1 t15 t16 t17 H => g13_p5 g15 g31 R t5_0 t5_1 t15 t16 t17 H K) K := fun _ _ => rfl
  have g1 := Heap.gnew H (.cells (pcs l) 9 false)
  have w1 := hw.new (.cells (pcs l) 9 false)
  have x1 := Ext.new H (.cells (pcs l) 9 false)
  have n1 : (H.new (.cells (pcs l) 9 false)).next = H.next + 1 := rfl
  have e15 := fun (R : Type) (K : Sl → Heap → Option R) => s15 hl H K
  generalize hX : H.new (.cells (pcs l) 9 false) = X at *
  by_cases h3 : (spl1 45 l).length = 3
  · obtain ⟨x, y, z, hs⟩ : ∃ x y z, spl1 45 l = [x, y, z] := by
      match h : spl1 45 l with
      | [x, y, z] => exact ⟨x, y, z, rfl⟩
      | [] => rw [h] at h3; simp at h3
      | [_] => rw [h] at h3; simp at h3
      | [_, _] => rw [h] at h3; simp at h3
      | _ :: _ :: _ :: _ :: _ => rw [h] at h3; simp at h3
    have hp : pcs l = [.s (bsU x), .s (bsU y), .s (bsU z)] := by unfold pcs; rw [hs]; rfl
    rw [hp] at g1
    have g2 := Heap.gnew X (.cells [.i .i64 0, .i .i64 0, .i .i64 0] 67 false)
    have w2 := w1.new (.cells [.i .i64 0, .i .i64 0, .i .i64 0] 67 false)
    have x2 := Ext.new X (.cells [.i .i64 0, .i .i64 0, .i .i64 0] 67 false)
    have g1' := x2.get w1 g1
    have hlt := w1 _ _ g1
    have n2 : X.next ≠ H.next := by omega
    generalize hY : X.new (.cells [.i .i64 0, .i .i64 0, .i .i64 0] 67 false) = Y at *
    have step : ∀ (k : Nat) (u : List UInt8) (a0 a1 a2 : Int) (G : Heap), k < 3 → G.get H.next = some (.cells [.s (bsU x), .s (bsU y), .s (bsU z)] 9 false) → [x, y, z][k]? = some u → G.get X.next = some (.cells [.i .i64 a0, .i .i64 a1, .i .i64 a2] 67 false) →
        g13_p2_b g15 g31 (X.next, 0, ⟨some (H.next, 0), 3, .ex 3⟩, 3, (k : Int)) G = match numF u with
          | some v => some (.go (X.next, 0, ⟨some (H.next, 0), 3, .ex 3⟩, 3, ((k + 1 : Nat) : Int)), G.put X.next (.cells ([V.i .i64 a0, .i .i64 a1, .i .i64 a2].set k (.i .i64 v)) 67 false))
          | none => some (.up (.inr (0, 4)), G) := by
      intro k u a0 a1 a2 G hk hG hu hA
      have hld : G.ldS H.next (0 + k * 1) = some (bsU u) := by
        refine ldS_of hG ?_
        have : k = 0 ∨ k = 1 ∨ k = 2 := by omega
        rcases this with rfl | rfl | rfl <;> simp_all
      have e5 : IntKind.wrap .i64 ((k : Int) + 1) = ((k + 1 : Nat) : Int) := by rw [w64 (by omega)]; rfl
      simp only [g13_p2_b, g13_p1]
      rw [decide_eq_true (show (k : Int) < 3 by omega), sel_true, if_pos (show 0 ≤ (k : Int) ∧ (k : Int) < ((3 : Nat) : Int) by omega), Option.bind_some, Int.toNat_natCast, hld, Option.bind_some, s31]
      cases hnu : numF u with
      | none => simp
      | some v =>
        simp only [Option.isSome_some, Bool.not_true, sel_false, Option.getD_some]
        rw [if_pos (show 0 ≤ (k : Int) ∧ (k : Int) < ((3 : Nat) : Int) by omega), Nat.zero_add, Nat.mul_one, st_of hA (by simpa using hk) rfl, Option.bind_some, e5]
    have up3 : ∀ G, g13_p2_b g15 g31 (X.next, 0, ⟨some (H.next, 0), 3, .ex 3⟩, 3, ((2 + 1 : Nat) : Int)) G = some (.up (.inl (X.next, 0)), G) := fun G => by
      simp only [g13_p2_b, g13_p1]
      rw [decide_eq_false (by omega), sel_false]
    have start : ∀ (R : Type) (K : Int → Int → Heap → Option R), g13 R (bsU l) H K = (tlim (g13_p2_b g15 g31) (X.next, 0, ⟨some (H.next, 0), 3, .ex 3⟩, 3, ((0 : Nat) : Int)) Y).bind fun p => cas p.1 (fun r => g13_p4 g15 g31 R r.1 r.2 p.2 K) (fun r0 => K r0.1 r0.2 p.2) := by
      intro R K
      rw [dd]
      simp only [g13_p0, alo]
      rw [e15, h3]
      rw [show (((3 : Nat) : Int) != 3) = false from rfl, sel_false, hY]
      rfl
    have ep : parseF l = match numF x, numF y, numF z with
        | some a, some b, some c => if a > 7 ∨ b > 255 ∨ c > 7 then (0, 1) else (2048 * a + 8 * b + c, 0)
        | _, _, _ => (0, 4) := by unfold parseF; rw [hs]
    have xY : Ext H Y := x1.trans x2
    have xP : ∀ o, Ext H (Y.put X.next o) := fun o => xY.above (by omega) o
    have keep : ∀ o, (Y.put X.next o).get H.next = some (.cells [.s (bsU x), .s (bsU y), .s (bsU z)] 9 false) := fun o => by rw [Heap.get_put, if_neg (fun e => n2 e.symm)]; exact g1'
    have t0 := step 0 x 0 0 0 Y (by omega) g1' rfl g2
    cases hx : numF x with
    | none =>
      rw [hx] at t0
      refine ⟨Y, fun R K => ?_, xY, w2⟩
      rw [start, tlim_up t0, ep, hx]
      rfl
    | some a =>
      rw [hx] at t0
      have t1 := step 1 y a 0 0 (Y.put X.next (.cells [.i .i64 a, .i .i64 0, .i .i64 0] 67 false)) (by omega) (keep _) rfl (Heap.gput _ _ _)
      cases hy : numF y with
      | none =>
        rw [hy] at t1
        refine ⟨Y.put X.next (.cells [.i .i64 a, .i .i64 0, .i .i64 0] 67 false), fun R K => ?_, xP _, w2.put g2 _⟩
        rw [start, tlim_go t0]
        rw [show (tlim (g13_p2_b g15 g31) (X.next, 0, ⟨some (H.next, 0), 3, .ex 3⟩, 3, ((0 + 1 : Nat) : Int)) (Y.put X.next (.cells ([V.i .i64 0, .i .i64 0, .i .i64 0].set 0 (.i .i64 a)) 67 false))) = _ from tlim_up t1, ep, hx, hy]
        rfl
      | some b =>
        rw [hy] at t1
        simp only [Heap.put_put] at t1
        have t2 := step 2 z a b 0 (Y.put X.next (.cells [.i .i64 a, .i .i64 b, .i .i64 0] 67 false)) (by omega) (keep _) rfl (Heap.gput _ _ _)
        cases hz : numF z with
        | none =>
          rw [hz] at t2
          refine ⟨Y.put X.next (.cells [.i .i64 a, .i .i64 b, .i .i64 0] 67 false), fun R K => ?_, xP _, w2.put g2 _⟩
          rw [start, tlim_go t0]
          rw [show (tlim (g13_p2_b g15 g31) (X.next, 0, ⟨some (H.next, 0), 3, .ex 3⟩, 3, ((0 + 1 : Nat) : Int)) (Y.put X.next (.cells ([V.i .i64 0, .i .i64 0, .i .i64 0].set 0 (.i .i64 a)) 67 false))) = _ from (tlim_go t1).trans (tlim_up t2), ep, hx, hy, hz]
          rfl
        | some c =>
          rw [hz] at t2
          simp only [Heap.put_put] at t2
          have gF := Heap.gput Y X.next (.cells [.i .i64 a, .i .i64 b, .i .i64 c] 67 false)
          have l0 : (Y.put X.next (.cells [.i .i64 a, .i .i64 b, .i .i64 c] 67 false)).ldI .i64 X.next 0 = some a := ldI_of gF rfl
          have l1 : (Y.put X.next (.cells [.i .i64 a, .i .i64 b, .i .i64 c] 67 false)).ldI .i64 X.next 1 = some b := ldI_of gF rfl
          have l2 : (Y.put X.next (.cells [.i .i64 a, .i .i64 b, .i .i64 c] 67 false)).ldI .i64 X.next 2 = some c := ldI_of gF rfl
          refine ⟨Y.put X.next (.cells [.i .i64 a, .i .i64 b, .i .i64 c] 67 false), fun R K => ?_, xP _, w2.put g2 _⟩
          rw [start, tlim_go t0]
          rw [show (tlim (g13_p2_b g15 g31) (X.next, 0, ⟨some (H.next, 0), 3, .ex 3⟩, 3, ((0 + 1 : Nat) : Int)) (Y.put X.next (.cells ([V.i .i64 0, .i .i64 0, .i .i64 0].set 0 (.i .i64 a)) 67 false))) = some (.inl (X.next, 0), Y.put X.next (.cells [.i .i64 a, .i .i64 b, .i .i64 c] 67 false)) from (tlim_go t1).trans ((tlim_go t2).trans (tlim_up (up3 _))), ep, hx, hy, hz]
          simp only [Option.bind_some, cas, g13_p4, Nat.zero_add, l0, l1, l2]
          by_cases ca : a > 7
          · rw [decide_eq_true ca, sel_true, if_pos (.inl ca)]
          rw [decide_eq_false ca, sel_false]
          by_cases cb : b > 255
          · rw [decide_eq_true cb, sel_true, if_pos (.inr (.inl cb))]
          rw [decide_eq_false cb, sel_false]
          by_cases cc : c > 7
          · rw [decide_eq_true cc, sel_true, if_pos (.inr (.inr cc))]
          rw [decide_eq_false cc, sel_false, if_neg (by omega)]
          obtain ⟨_, na, _⟩ := num_dec hx
          obtain ⟨_, nb, _⟩ := num_dec hy
          obtain ⟨_, nc, _⟩ := num_dec hz
          rw [bits_eq (by omega) (by omega) (by omega)]
  · have ep : parseF l = (0, 4) := by
      unfold parseF
      split
      · rename_i x y z hs; rw [hs] at h3; simp at h3
      · rfl
    refine ⟨X, fun R K => ?_, x1, w1⟩
    rw [dd, ep]
    simp only [g13_p0]
    rw [e15, show ((((spl1 45 l).length : Nat) : Int) != 3) = true by simp; omega, sel_true]
/-! the laws -/
theorem strEqB (a b : List UInt8) : strEq (bsU a) (bsU b) = decide (a = b) := strEqU a b
theorem txt_parse {p : Int} (hp : 0 ≤ p ∧ p ≤ 16383) : parseF (txt p) = (p, 0) := by
  obtain ⟨a1, a2, a3⟩ := dec_num (n := p / 2048) (by omega)
  obtain ⟨b1, b2, b3⟩ := dec_num (n := p / 8 % 256) (by omega)
  obtain ⟨c1, c2, c3⟩ := dec_num (n := p % 8) (by omega)
  have hs : spl1 45 (txt p) = [decI (p / 2048), decI (p / 8 % 256), decI (p % 8)] := by
    unfold txt
    rw [List.append_assoc, List.append_assoc, List.append_assoc, List.singleton_append, List.singleton_append, spl1_app a2, spl1_app b2, spl1_none c2]
  unfold parseF
  rw [hs]
  simp only [a1, b1, c1]
  rw [if_neg (by omega)]
  congr 1; omega
theorem txt_len {p : Int} (hp : 0 ≤ p ∧ p ≤ 16383) : (txt p).length ≤ 11 := by
  obtain ⟨_, _, a3⟩ := dec_num (n := p / 2048) (by omega)
  obtain ⟨_, _, b3⟩ := dec_num (n := p / 8 % 256) (by omega)
  obtain ⟨_, _, c3⟩ := dec_num (n := p % 8) (by omega)
  simp [txt]; omega
theorem labelsText_true (H : Heap) (hw : H.Wf) (p : Int) (h : (Lit.int .u16 p).wf = true) : g3 Bool p H (fun r _ => some r) = some true := by
  have hp := wfU16 h
  obtain ⟨X1, e1, x1, w1⟩ := s11 hw hp
  simp only [g3, g3_r, g3_p0]
  rw [e1]
  by_cases c : p > 16383
  · rw [decide_eq_true c, sel_true, if_pos c, str0_eq, strEqB, decide_eq_true rfl, sel_true, lv]
  · rw [decide_eq_false c, sel_false, if_neg c]
    have hp' : 0 ≤ p ∧ p ≤ 16383 := by omega
    have := txt_len hp'
    obtain ⟨X2, e2, x2, w2⟩ := s13 w1 (l := txt p) (by omega)
    rw [e2, s14 hp', strEqB, decide_eq_true rfl, sel_true, txt_parse hp', beq_self_eq_true, sel_true, beq_self_eq_true, sel_true, lv]
theorem parse_true (H : Heap) (hw : H.Wf) (l : List UInt8) : g4 Bool (bsU l) H (fun r _ => some r) = some true := by
  have dd : g4 Bool (bsU l) H (fun r _ => some r) = g4_p0 g12 g13 g15 g16 g11 Bool (bsU l) H (fun t0 t3 t4 t5 t6 t41 H => g4_p3 g12 g13 g15 g16 g11 Bool t0 t3 t4 t5 t6 t41 H (fun t2 H => some t2)) (fun t2 H => some t2) := rfl
  rw [dd]
  simp only [g4_p0, bsU_size]
  by_cases c : l.length > 100
  · rw [decide_eq_true (by omega), sel_true, lv]
  rw [decide_eq_false (by omega), sel_false]
  obtain ⟨X1, e1, x1, w1⟩ := s13 hw (l := l) (by omega)
  rw [e1, s15 (by omega)]
  have g1 := Heap.gnew X1 (.cells (pcs l) 9 false)
  have w2 := w1.new (.cells (pcs l) 9 false)
  generalize hX : X1.new (.cells (pcs l) 9 false) = X at *
  -- nothing was found
  have bad : ∀ (e : Int) (s : Sl), parseF l = (0, e) → e ≠ 0 → (g4_p2 g12 g13 g15 g16 g11 Bool (bsU l) (parseF l).1 (parseF l).2 s e X fun t2 H => some t2) = some true := by
    intro e s hp he
    rw [hp]
    simp only [g4_p2, bne_self_eq_false, sel_false]
    rw [show (e != 0) = true by simp [he], sel_true, beq_self_eq_true, sel_true, lv]
  by_cases h3 : (spl1 45 l).length = 3
  · obtain ⟨x, y, z, hs⟩ : ∃ x y z, spl1 45 l = [x, y, z] := by
      match h : spl1 45 l with
      | [x, y, z] => exact ⟨x, y, z, rfl⟩
      | [] => rw [h] at h3; simp at h3
      | [_] => rw [h] at h3; simp at h3
      | [_, _] => rw [h] at h3; simp at h3
      | _ :: _ :: _ :: _ :: _ => rw [h] at h3; simp at h3
    have hp : pcs l = [.s (bsU x), .s (bsU y), .s (bsU z)] := by unfold pcs; rw [hs]; rfl
    rw [hp] at g1
    have l0 : X.ldS X1.next 0 = some (bsU x) := ldS_of g1 rfl
    have l1 : X.ldS X1.next 1 = some (bsU y) := ldS_of g1 rfl
    have l2 : X.ldS X1.next 2 = some (bsU z) := ldS_of g1 rfl
    have ep : parseF l = match numF x, numF y, numF z with
        | some a, some b, some c => if a > 7 ∨ b > 255 ∨ c > 7 then (0, 1) else (2048 * a + 8 * b + c, 0)
        | _, _, _ => (0, 4) := by unfold parseF; rw [hs]
    have i0 : 0 ≤ (0 : Int) ∧ (0 : Int) < ((3 : Nat) : Int) := by omega
    have i1 : 0 ≤ (1 : Int) ∧ (1 : Int) < ((3 : Nat) : Int) := by omega
    have i2 : 0 ≤ (2 : Int) ∧ (2 : Int) < ((3 : Nat) : Int) := by omega
    have form : parseF l = (0, 4) → (g4_p3 g12 g13 g15 g16 g11 Bool (bsU l) (parseF l).1 (parseF l).2 ⟨some (X1.next, 0), 3, .ex 3⟩ 0 true X fun t2 H => some t2) = some true := fun hp => by
      simp only [g4_p3, g4_p1, sel_true]
      exact bad 4 _ hp (by omega)
    simp only [h3]
    rw [show (((3 : Nat) : Int) != 3) = false from rfl, sel_false]
    simp only [if_pos i0, if_pos i1, if_pos i2, Option.bind_some, show Int.toNat (0 : Int) = 0 from rfl, show Int.toNat (1 : Int) = 1 from rfl, show Int.toNat (2 : Int) = 2 from rfl, Nat.zero_add, Nat.mul_one, Nat.zero_mul, l0, l1, l2, s16]
    cases hx : numF x with
    | none =>
      rw [Option.getD_none, decide_eq_true (by omega), sel_true]
      exact form (by rw [ep, hx])
    | some a =>
      obtain ⟨da, na, _⟩ := num_dec hx
      rw [Option.getD_some, decide_eq_false (by omega), sel_false]
      cases hy : numF y with
      | none =>
        rw [Option.getD_none, decide_eq_true (by omega), sel_true]
        exact form (by rw [ep, hx, hy])
      | some b =>
        obtain ⟨db, nb, _⟩ := num_dec hy
        rw [Option.getD_some, decide_eq_false (by omega), sel_false]
        cases hz : numF z with
        | none =>
          rw [Option.getD_none, decide_eq_true (by omega)]
          exact form (by rw [ep, hx, hy, hz])
        | some d =>
          obtain ⟨dc, nc, _⟩ := num_dec hz
          rw [Option.getD_some, decide_eq_false (by omega)]
          rw [hx, hy, hz] at ep
          simp only at ep
          simp only [g4_p3, g4_p1, sel_false, if_pos i0, if_pos i1, if_pos i2, Option.bind_some, show Int.toNat (0 : Int) = 0 from rfl, show Int.toNat (1 : Int) = 1 from rfl, show Int.toNat (2 : Int) = 2 from rfl, Nat.zero_add, Nat.mul_one, Nat.zero_mul, l0, l1, l2, s16, hx, hy, hz, Option.getD_some]
          by_cases ca : a > 7
          · rw [decide_eq_true ca, sel_true]
            exact bad 1 _ (by rw [ep, if_pos (.inl ca)]) (by omega)
          rw [decide_eq_false ca, sel_false]
          by_cases cb : b > 255
          · rw [decide_eq_true cb, sel_true]
            exact bad 1 _ (by rw [ep, if_pos (.inr (.inl cb))]) (by omega)
          rw [decide_eq_false cb, sel_false]
          by_cases cc : d > 7
          · rw [decide_eq_true cc, sel_true]
            exact bad 1 _ (by rw [ep, if_pos (.inr (.inr cc))]) (by omega)
          rw [decide_eq_false cc, sel_false]
          rw [if_neg (by omega)] at ep
          have hpp : 0 ≤ 2048 * a + 8 * b + d ∧ 2048 * a + 8 * b + d ≤ 16383 := by omega
          obtain ⟨X3, e3, x3, w3⟩ := s11 w2 (p := 2048 * a + 8 * b + d) (by omega)
          rw [if_neg (by omega)] at e3
          have ht : txt (2048 * a + 8 * b + d) = l := by
            rw [spl1_three hs]
            unfold txt
            rw [show (2048 * a + 8 * b + d) / 2048 = a by omega, show (2048 * a + 8 * b + d) / 8 % 256 = b by omega, show (2048 * a + 8 * b + d) % 8 = d by omega, da, db, dc]
          rw [ep]
          simp only [g4_p2, bne_self_eq_false, sel_false, if_pos i0, if_pos i1, if_pos i2, Option.bind_some, show Int.toNat (0 : Int) = 0 from rfl, show Int.toNat (1 : Int) = 1 from rfl, show Int.toNat (2 : Int) = 2 from rfl, Nat.zero_add, Nat.mul_one, Nat.zero_mul, l0, l1, l2, s16, hx, hy, hz, Option.getD_some]
          rw [if_pos same_s, if_pos same_s, if_pos same_s]
          rw [w64 (n := 2048 * a) (by omega), w64 (n := 8 * b) (by omega), w64 (n := 2048 * a + 8 * b) (by omega), beq_self_eq_true, sel_true, e3, ht, strEqB, decide_eq_true rfl, sel_true, lv]
  · have ep : parseF l = (0, 4) := by
      unfold parseF
      split
      · rename_i x y z hs; rw [hs] at h3; simp at h3
      · rfl
    rw [show ((((spl1 45 l).length : Nat) : Int) != 3) = true by simp; omega, sel_true]
    simp only [g4_p3, g4_p1, sel_true]
    exact bad 4 _ ep (by omega)
theorem labelsParse_true (H : Heap) (hw : H.Wf) (s : ByteArray) (h : s.size ≤ maxLen) : g4 Bool s H (fun r _ => some r) = some true := by
  rw [bsU_of s]
  exact parse_true H hw _
end Go.Proofs.YtgdkkpjmjnknoaaDoor

