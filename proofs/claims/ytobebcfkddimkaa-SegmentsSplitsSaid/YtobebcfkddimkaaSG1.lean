/- Segments: Encode, Decode. -/
import Derived.Test.YtobebcfkddimkaaLSl
namespace Go.Proofs.Ytobebcfkddimkaa
open Go AM Go.RowKit
set_option linter.unusedVariables false
set_option linter.unusedSimpArgs false

/-- bytes as a text -/
def bsU (l : List UInt8) : ByteArray := ⟨l.toArray⟩
def u8s (l : List Int) : List UInt8 := l.map fun n => UInt8.ofNat n.toNat
theorem bytesOf_bcs : ∀ l : List Int, bytesOfCells (bcs l) = some (u8s l) := by
  intro l
  induction l with
  | nil => rfl
  | cons n l ih =>
    show (bytesOfCells (bcs l)).bind _ = _
    rw [ih]; rfl
theorem strEqU (a b : List UInt8) : strEq (bsU a) (bsU b) = decide (a = b) := by
  unfold strEq
  rw [ByteArray.toList_eq, ByteArray.toList_eq]
  by_cases h : a = b
  · subst h; simp
  · rw [show decide (a = b) = false by simpa using h]
    exact beq_false_of_ne fun e => h (by simpa [bsU] using e)
theorem slB {H : Heap} {s : Sl} {l : List Int} (h : BS H s l) : slBytes H s = some (bsU (u8s l)) := by
  simp only [slBytes, h.is, Option.bind_some, bytesOf_bcs, bsU]
theorem splice_bcs (a z b : List Int) (hb : b.length ≤ z.length) : splice (bcs (a ++ z)) a.length (bcs b) = bcs (a ++ b ++ z.drop b.length) := by
  simp only [splice, bcs, List.map_append, List.length_map, List.map_drop]
  rw [List.take_left' (by simp)]
  congr 1
  rw [List.drop_append, List.drop_of_length_le (by simp)]
  simp
theorem zeros5 (n : Nat) : zeroCellsV Try.prog 5 n = some (bcs (List.replicate n 0)) := by
  have h1 : Try.prog.cellsOf 5 = 1 := by kernel_rfl
  have h2 : zeroV Try.prog 5 = some (.i .u8 0) := by kernel_rfl
  unfold zeroCellsV
  rw [h1, h2, Nat.mul_one]
  split
  · rename_i h; subst h; rfl
  · simp only [Option.bind_some]
    rw [if_pos (by simp [V.cells])]
    refine congrArg some ?_
    simp only [V.cells, bcs]
    induction n with
    | zero => rfl
    | succ n ih => simp [List.replicate_succ]
/-- an append into a room that is left -/
theorem appendV_ex {H : Heap} {id : Nat} {e : TypeId} {a z b : List Int} {c : Nat} (hg : H.get id = some (.cells (bcs (a ++ z)) e false)) (hb : b.length ≤ z.length) (hc : a.length + b.length ≤ c) {R : Type} (K : Sl → Heap → Option R) :
    appendV H e 1 1 ⟨some (id, 0), a.length, .ex c⟩ b.length (bcs b) K = K ⟨some (id, 0), a.length + b.length, .ex c⟩ (H.put id (.cells (bcs (a ++ b ++ z.drop b.length)) e false)) := by
  by_cases h0 : b.length = 0
  · have : b = [] := List.length_eq_zero_iff.1 h0
    subst this
    simp only [List.length_nil, appendV_zero, List.append_nil, List.drop_zero]
    rw [Heap.put_self hg]; rfl
  · simp only [appendV]
    rw [if_neg h0, if_neg (by omega), if_pos hc, sts_of hg (by simp; omega) (bcs_ones _)]
    simp only [Option.bind_some, Nat.zero_add, Nat.mul_one]
    rw [splice_bcs _ _ _ hb]
/-- a segment -/
structure Sg where
  r : Int
  f : Bool
  l : Int
  d : List Int
structure Sg.Ok (u : Sg) : Prop where
  r : 0 ≤ u.r ∧ u.r ≤ 4294967295
  l : 0 ≤ u.l ∧ u.l ≤ 255
  d : Byt u.d
def Sg.ck (u : Sg) : Int := if u.l ≥ 16 then 1 else if u.d.length > 256 then 3 else 0
def Sg.cells (u : Sg) (s : Sl) : List V := [.i .u32 u.r, .b u.f, .i .u8 u.l, .sl s]
def Sg.hd (u : Sg) : List Int := [u.r % 256, u.r / 256 % 256, u.r / 65536 % 256, u.r / 16777216, if u.f then u.l + 128 else u.l]
def Sg.enc (u : Sg) : List Int := u.hd ++ u.d
def Sg.zero : Sg := ⟨0, false, 0, []⟩
def nilS : Sl := ⟨none, 0, .ex 0⟩
theorem ldS {G : Heap} {i : Nat} {u : Sg} {s : Sl} (hG : G.get i = some (.cells (u.cells s) 45 false)) : G.ldI .u32 i 0 = some u.r ∧ G.ldB i 1 = some u.f ∧ G.ldI .u8 i 2 = some u.l ∧ G.ldSl i 3 = some s :=
  ⟨ldI_of hG rfl, ldB_of hG rfl, ldI_of hG rfl, ldSl_of hG rfl⟩
theorem s9 {R : Type} (H : Heap) (K : Bool → Heap → Option R) : g9 R H K = K true H := rfl
theorem s30 {R : Type} {H : Heap} {s : Sl} {u : Sg} (hn : s.len = u.d.length) (K : Int → Heap → Option R) : g30 R u.r u.f u.l s H K = K u.ck (H.new (.cells (u.cells s) 45 false)) := by
  obtain ⟨a0, a1, a2, a3⟩ := ldS (Heap.gnew H (.cells (u.cells s) 45 false))
  simp only [g30, g30_r, g30_p0, alo, Nat.zero_add]
  rw [show [V.i IntKind.u32 u.r, V.b u.f, V.i IntKind.u8 u.l, V.sl s] = u.cells s from rfl]
  simp only [a2, a3, Option.bind_some, selD]
  unfold Sg.ck
  by_cases h1 : u.l ≥ 16
  · rw [if_pos h1, if_pos h1]
  · rw [if_neg h1, if_neg h1]
    by_cases h2 : u.d.length > 256
    · rw [if_pos h2, if_pos (by omega)]
    · rw [if_neg h2, if_neg (by omega)]
theorem or128 : ∀ n : Fin 128, bvOr .u8 ((n.val : Nat) : Int) 128 = (n.val : Nat) + 128 := by decide +kernel
theorem or128' {n : Int} (h : 0 ≤ n ∧ n < 128) : bvOr .u8 n 128 = n + 128 := by
  have := or128 ⟨n.toNat, by omega⟩
  simp only at this
  rwa [show ((n.toNat : Nat) : Int) = n by omega] at this
theorem andNot128 : ∀ n : Fin 256, bvAndNot .u8 ((n.val : Nat) : Int) 128 = ((n.val : Nat) : Int) % 128 := by decide +kernel
theorem andNot128' {n : Int} (h : 0 ≤ n ∧ n ≤ 255) : bvAndNot .u8 n 128 = n % 128 := by
  have := andNot128 ⟨n.toNat, by omega⟩
  simp only at this
  rwa [show ((n.toNat : Nat) : Int) = n by omega] at this
theorem sh0 {r : Int} (h : 0 ≤ r ∧ r ≤ 4294967295) : IntKind.wrap .u8 (shrI .u32 r 0) = r % 256 := by
  rw [wr8]; show (r.fdiv 1) % 256 = _; rw [Int.fdiv_eq_ediv_of_nonneg _ (by omega)]; omega
theorem sh8 {r : Int} (h : 0 ≤ r ∧ r ≤ 4294967295) : IntKind.wrap .u8 (shrI .u32 r 8) = r / 256 % 256 := by
  rw [wr8]; show (r.fdiv 256) % 256 = _; rw [Int.fdiv_eq_ediv_of_nonneg _ (by omega)]
theorem sh16 {r : Int} (h : 0 ≤ r ∧ r ≤ 4294967295) : IntKind.wrap .u8 (shrI .u32 r 16) = r / 65536 % 256 := by
  rw [wr8]; show (r.fdiv 65536) % 256 = _; rw [Int.fdiv_eq_ediv_of_nonneg _ (by omega)]
theorem sh24 {r : Int} (h : 0 ≤ r ∧ r ≤ 4294967295) : IntKind.wrap .u8 (shrI .u32 r 24) = r / 16777216 := by
  rw [wr8]; show (r.fdiv 16777216) % 256 = _; rw [Int.fdiv_eq_ediv_of_nonneg _ (by omega)]; omega
/-- the octets of a head are written one by one -/
theorem stN {H : Heap} {q : Nat} {l : List Int} {e : TypeId} (hg : H.get q = some (.cells (bcs l) e false)) {k : Nat} (hk : k < l.length) (n : Int) : H.st q (0 + k * 1) (.i .u8 n) = some (H.put q (.cells (bcs (l.set k n)) e false)) := by
  rw [Nat.zero_add, Nat.mul_one, st_of hg (by simpa using hk) rfl, bcs_set]
theorem ldN {H : Heap} {q : Nat} {l : List Int} {e : TypeId} (hg : H.get q = some (.cells (bcs l) e false)) {k : Nat} (hk : k < l.length) : H.ldI .u8 q (0 + k * 1) = some (l.getD k 0) := by
  rw [Nat.zero_add, Nat.mul_one]; exact ldI_of hg (bcs_get hk)
theorem s19 {H : Heap} (hw : H.Wf) {s : Sl} {u : Sg} (hu : u.Ok) (h : BS H s u.d) (hl : u.d.length ≤ 10000) :
    ∃ s' H', (∀ (R : Type) (K : Sl → Int → Heap → Option R), g19 R u.r u.f u.l s H K = K s' u.ck H') ∧ BS H' s' (if u.ck = 0 then u.enc else []) ∧ s'.cap = .ex s'.len ∧ Ext H H' ∧ H'.Wf := by
  have hn : s.len = u.d.length := h.len
  have g1 := Heap.gnew H (.cells (u.cells s) 45 false)
  have w1 := hw.new (.cells (u.cells s) 45 false)
  have x1 := Ext.new H (.cells (u.cells s) 45 false)
  have dd : ∀ (R : Type) (K : Sl → Int → Heap → Option R), g19 R u.r u.f u.l s H K = g19_p6 g30 R u.r u.f u.l s H K := fun _ _ => rfl
  have e30 := fun (R : Type) (H : Heap) K => @s30 R H s u hn K
  generalize hi : H.next = i at *
  generalize hH1 : H.new (.cells (u.cells s) 45 false) = H1 at *
  obtain ⟨a0, a1, a2, a3⟩ := ldS g1
  have x2 := Ext.new H1 (.cells (u.cells s) 45 false)
  have w2 := w1.new (.cells (u.cells s) 45 false)
  have g2 := x2.get w1 g1
  generalize hH2 : H1.new (.cells (u.cells s) 45 false) = H2 at *
  obtain ⟨b0, b1, b2, b3⟩ := ldS g2
  have hN : IntKind.wrap .i64 ((5 : Int) + ((s.len : Nat) : Int)) = ((u.d.length + 5 : Nat) : Int) := by rw [hn, w64 (by omega)]; omega
  have c0 : 0 ≤ (5 : Int) ∧ (5 : Int) ≤ ((u.d.length + 5 : Nat) : Int) ∧ ((u.d.length + 5 : Nat) : Int) ≤ 9223372036854775807 ∧ ((u.d.length + 5 : Nat) : Int) * ((1 : Nat) : Int) ≤ 281474976710656 := by omega
  by_cases hk : u.ck = 0
  · rw [if_pos hk]
    have hl16 : u.l < 16 := by unfold Sg.ck at hk; split at hk <;> omega
    have lb := hu.l
    have g3 := Heap.gnew H2 (.cells (bcs (0 :: 0 :: 0 :: 0 :: 0 :: List.replicate u.d.length 0)) 5 false)
    have w3 := w2.new (.cells (bcs (0 :: 0 :: 0 :: 0 :: 0 :: List.replicate u.d.length 0)) 5 false)
    have x3 := Ext.new H2 (.cells (bcs (0 :: 0 :: 0 :: 0 :: 0 :: List.replicate u.d.length 0)) 5 false)
    have gi3 := x3.get w2 g2
    have hiq : i < H2.next := w2 _ _ g2
    have hq0 : H.next ≤ H2.next := (x1.trans x2).next
    have hs3 := h.ext hw (x1.trans (x2.trans x3))
    have xx3 := x1.trans (x2.trans x3)
    generalize hZ : List.replicate u.d.length (0 : Int) = Z at *
    have hZl : Z.length = u.d.length := by rw [← hZ]; simp
    have start : ∀ (R : Type) (K : Sl → Int → Heap → Option R), g19 R u.r u.f u.l s H K = g19_p5 g30 R i 0 ⟨some (H2.next, 0), 5, .ex (u.d.length + 5)⟩ 0 (H2.new (.cells (bcs (0 :: 0 :: 0 :: 0 :: 0 :: Z)) 5 false)) K := fun R K => by
      rw [dd]
      unfold g19_p6 g19_p0 alo
      rw [show [V.i IntKind.u32 u.r, V.b u.f, V.i IntKind.u8 u.l, V.sl s] = u.cells s from rfl]
      simp only [Nat.zero_add, hi, hH1, a0, a1, a2, a3, Option.bind_some, e30, hH2, hk, b3, hN]
      rw [show ((0 : Int) != 0) = false from rfl, sel_false, if_pos c0, Int.toNat_natCast, zeros5, Option.bind_some]
      rw [show List.replicate (u.d.length + 5) (0 : Int) = 0 :: 0 :: 0 :: 0 :: 0 :: Z by rw [← hZ]; rfl]
      rfl
    generalize hG3 : H2.new (.cells (bcs (0 :: 0 :: 0 :: 0 :: 0 :: Z)) 5 false) = G3 at *
    generalize hq : H2.next = q at *
    have P : ∀ l, (G3.put q (.cells (bcs l) 5 false)).get q = some (.cells (bcs l) 5 false) := fun l => Heap.gput _ _ _
    have PI : ∀ o, (G3.put q o).get i = some (.cells (u.cells s) 45 false) := fun o => by rw [Heap.get_put, if_neg (by omega)]; exact gi3
    have PR : ∀ o, (G3.put q o).ldI .u32 i 0 = some u.r := fun o => (ldS (PI o)).1
    obtain ⟨r0, r1, r2, r3⟩ := ldS gi3
    have hu1 := hu.r
    have t0 : g19_p2_b g30 (i, 0, ⟨some (q, 0), 5, .ex (u.d.length + 5)⟩, 0) G3 = some (.go (i, 0, ⟨some (q, 0), 5, .ex (u.d.length + 5)⟩, 1), G3.put q (.cells (bcs (u.r % 256 :: 0 :: 0 :: 0 :: 0 :: Z)) 5 false)) := by
      have e : IntKind.wrap .i64 (8 * 0) = 0 := rfl
      have e' : IntKind.wrap .i64 (0 + 1) = 1 := rfl
      have p := stN g3 (k := 0) (by simp) (u.r % 256)
      simp only [g19_p2_b, g19_p1, Nat.zero_add, r0, Option.bind_some, e, sh0 hu1, e']
      rw [show decide ((0 : Int) < 4) = true from rfl, sel_true, if_neg (by omega), if_pos (by omega)]
      rw [show (0 : Int).toNat = 0 from rfl, show (0 : Nat) * 1 = 0 + 0 * 1 from rfl, p]; rfl
    have tk : ∀ (k : Nat) (l : List Int) (n : Int), 0 < k → k < 4 → 5 ≤ l.length → IntKind.wrap .u8 (shrI .u32 u.r (8 * (k : Int))) = n → g19_p2_b g30 (i, 0, ⟨some (q, 0), 5, .ex (u.d.length + 5)⟩, (k : Int)) (G3.put q (.cells (bcs l) 5 false)) = some (.go (i, 0, ⟨some (q, 0), 5, .ex (u.d.length + 5)⟩, ((k + 1 : Nat) : Int)), G3.put q (.cells (bcs (l.set k n)) 5 false)) := fun k l n hk0 hk4 hl hn => by
      have e : IntKind.wrap .i64 (8 * (k : Int)) = 8 * k := w64 (by omega)
      have e' : IntKind.wrap .i64 ((k : Int) + 1) = ((k + 1 : Nat) : Int) := by rw [w64 (by omega)]; rfl
      have p := stN (P l) (k := k) (by omega) n
      rw [Heap.put_put] at p
      simp only [g19_p2_b, g19_p1, PR, Option.bind_some, e, hn, e']
      rw [show decide ((k : Int) < 4) = true by simp; omega, sel_true, if_neg (by omega), if_pos (by omega), Int.toNat_natCast, p]; rfl
    have t4 : ∀ l, g19_p2_b g30 (i, 0, ⟨some (q, 0), 5, .ex (u.d.length + 5)⟩, 4) (G3.put q (.cells (bcs l) 5 false)) = some (.up (i, 0, ⟨some (q, 0), 5, .ex (u.d.length + 5)⟩), G3.put q (.cells (bcs l) 5 false)) := fun l => by
      simp only [g19_p2_b, g19_p1]
      rw [show decide ((4 : Int) < 4) = false from rfl, sel_false]
    have tl : tlim (g19_p2_b g30) (i, 0, ⟨some (q, 0), 5, .ex (u.d.length + 5)⟩, 0) G3 = some ((i, 0, ⟨some (q, 0), 5, .ex (u.d.length + 5)⟩), G3.put q (.cells (bcs (u.r % 256 :: u.r / 256 % 256 :: u.r / 65536 % 256 :: u.r / 16777216 :: 0 :: Z)) 5 false)) := by
      rw [tlim_go t0]
      refine (tlim_go (tk 1 _ (u.r / 256 % 256) (by omega) (by omega) (by simp) (sh8 hu1))).trans ?_
      refine (tlim_go (tk 2 _ (u.r / 65536 % 256) (by omega) (by omega) (by simp) (sh16 hu1))).trans ?_
      refine (tlim_go (tk 3 _ (u.r / 16777216) (by omega) (by omega) (by simp) (sh24 hu1))).trans ?_
      exact tlim_up (t4 _)
    have fin : ∀ (v : Int) (R : Type) (K : Sl → Int → Heap → Option R), appendV (G3.put q (.cells (bcs (u.r % 256 :: u.r / 256 % 256 :: u.r / 65536 % 256 :: u.r / 16777216 :: v :: Z)) 5 false)) 5 1 1 ⟨some (q, 0), 5, .ex (u.d.length + 5)⟩ s.len (bcs u.d) (fun s' G => K s' 0 G) = K ⟨some (q, 0), 5 + u.d.length, .ex (u.d.length + 5)⟩ 0 (G3.put q (.cells (bcs ([u.r % 256, u.r / 256 % 256, u.r / 65536 % 256, u.r / 16777216, v] ++ u.d)) 5 false)) := fun v R K => by
      rw [hn]
      have := appendV_ex (R := R) (a := [u.r % 256, u.r / 256 % 256, u.r / 65536 % 256, u.r / 16777216, v]) (z := Z) (b := u.d) (c := u.d.length + 5) (P _) (by omega) (by simp; omega) (fun s' G => K s' 0 G)
      refine this.trans ?_
      rw [Heap.put_put, List.drop_of_length_le (by omega), List.append_nil]; rfl
    have bsI : ∀ o, BS (G3.put q o) s u.d := fun o => h.ext hw (xx3.above (by omega) o)
    refine ⟨⟨some (q, 0), 5 + u.d.length, .ex (u.d.length + 5)⟩, G3.put q (.cells (bcs u.enc) 5 false), fun R K => ?_, ?_, by rw [Nat.add_comm], xx3.above (by omega) _, w3.put g3 _⟩
    · rw [start, hk]
      simp only [g19_p5, g19_p3, g19_p2, tl, Option.bind_some, g19_p4, Nat.zero_add]
      have q0 := (ldS (PI (.cells (bcs (u.r % 256 :: u.r / 256 % 256 :: u.r / 65536 % 256 :: u.r / 16777216 :: 0 :: Z)) 5 false))).2.2.1
      have p1 := stN (P (u.r % 256 :: u.r / 256 % 256 :: u.r / 65536 % 256 :: u.r / 16777216 :: 0 :: Z)) (k := 4) (by simp) u.l
      rw [Heap.put_put, Nat.zero_add] at p1
      have q1 := (ldS (PI (.cells (bcs (u.r % 256 :: u.r / 256 % 256 :: u.r / 65536 % 256 :: u.r / 16777216 :: u.l :: Z)) 5 false))).2.1
      rw [q0, Option.bind_some, if_pos (by omega)]
      rw [show Int.toNat 4 = 4 from rfl, p1, Option.bind_some]
      rw [show (u.r % 256 :: u.r / 256 % 256 :: u.r / 65536 % 256 :: u.r / 16777216 :: 0 :: Z).set 4 u.l = u.r % 256 :: u.r / 256 % 256 :: u.r / 65536 % 256 :: u.r / 16777216 :: u.l :: Z from rfl, q1, Option.bind_some]
      have e2 := ldN (P (u.r % 256 :: u.r / 256 % 256 :: u.r / 65536 % 256 :: u.r / 16777216 :: u.l :: Z)) (k := 4) (by simp)
      have p2 := stN (P (u.r % 256 :: u.r / 256 % 256 :: u.r / 65536 % 256 :: u.r / 16777216 :: u.l :: Z)) (k := 4) (by simp) (u.l + 128)
      rw [Heap.put_put, Nat.zero_add] at p2
      rw [Nat.zero_add] at e2
      cases hf : u.f
      · rw [sel_false, (ldS (PI _)).2.2.2, Option.bind_some, (bsI _).is, Option.bind_some, fin]
        rw [show [u.r % 256, u.r / 256 % 256, u.r / 65536 % 256, u.r / 16777216, u.l] ++ u.d = u.enc by simp [Sg.enc, Sg.hd, hf]]
      · rw [sel_true, if_pos (by omega), e2, Option.bind_some, if_pos (by omega)]
        rw [show (u.r % 256 :: u.r / 256 % 256 :: u.r / 65536 % 256 :: u.r / 16777216 :: u.l :: Z).getD 4 0 = u.l from rfl, or128' (by omega), p2, Option.bind_some]
        rw [show (u.r % 256 :: u.r / 256 % 256 :: u.r / 65536 % 256 :: u.r / 16777216 :: u.l :: Z).set 4 (u.l + 128) = u.r % 256 :: u.r / 256 % 256 :: u.r / 65536 % 256 :: u.r / 16777216 :: (u.l + 128) :: Z from rfl]
        rw [(ldS (PI _)).2.2.2, Option.bind_some, (bsI _).is, Option.bind_some, fin]
        rw [show [u.r % 256, u.r / 256 % 256, u.r / 65536 % 256, u.r / 16777216, u.l + 128] ++ u.d = u.enc by simp [Sg.enc, Sg.hd, hf]]
    · have := BS.obj (c := .ex (u.d.length + 5)) (P u.enc)
      rwa [show u.enc.length = 5 + u.d.length by simp [Sg.enc, Sg.hd]; omega] at this
  · rw [if_neg hk]
    refine ⟨nilS, H2, fun R K => ?_, .nil _, rfl, x1.trans x2, w2⟩
    rw [dd]
    unfold g19_p6 g19_p0 alo
    rw [show [V.i IntKind.u32 u.r, V.b u.f, V.i IntKind.u8 u.l, V.sl s] = u.cells s from rfl]
    simp only [Nat.zero_add, hi, hH1, a0, a1, a2, a3, Option.bind_some, e30, hH2]
    rw [show (u.ck != 0) = true by simpa using hk, sel_true]
    rfl
end Go.Proofs.Ytobebcfkddimkaa

