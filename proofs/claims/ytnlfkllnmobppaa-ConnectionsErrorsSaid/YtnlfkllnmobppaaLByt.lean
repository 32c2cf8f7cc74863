/- Octets: rows of octets that are written on, and numbers as octets. -/
import Derived.Test.YtnlfkllnmobppaaAmC
import Derived.Test.YtnlfkllnmobppaaGT
namespace Go.Proofs.Ytnlfkllnmobppaa
open Go AM Go.RowKit
set_option linter.unusedVariables false
set_option linter.unusedSimpArgs false

/-- bytes as a text -/
def bsU (l : List UInt8) : ByteArray := ⟨l.toArray⟩
def u8s (l : List Int) : List UInt8 := l.map fun n => UInt8.ofNat n.toNat
theorem bytesOf_bcs : ∀ l : List Int, bytesOfCells (bcs l) = some (u8s l) := by
  intro l
  induction l with
  | nil => rfl
  | cons n l ih =>
    show (bytesOfCells (bcs l)).bind _ = _
    rw [ih]; rfl
theorem strEqU (a b : List UInt8) : strEq (bsU a) (bsU b) = decide (a = b) := by
  unfold strEq
  rw [ByteArray.toList_eq, ByteArray.toList_eq]
  by_cases h : a = b
  · subst h; simp
  · rw [show decide (a = b) = false by simpa using h]
    exact beq_false_of_ne fun e => h (by simpa [bsU] using e)
theorem slB {H : Heap} {s : Sl} {l : List Int} (h : BS H s l) : slBytes H s = some (bsU (u8s l)) := by
  simp only [slBytes, h.is, Option.bind_some, bytesOf_bcs, bsU]
theorem splice_bcs (a z b : List Int) (hb : b.length ≤ z.length) : splice (bcs (a ++ z)) a.length (bcs b) = bcs (a ++ b ++ z.drop b.length) := by
  simp only [splice, bcs, List.map_append, List.length_map, List.map_drop]
  rw [List.take_left' (by simp)]
  congr 1
  rw [List.drop_append, List.drop_of_length_le (by simp)]
  simp
theorem zeros5 (n : Nat) : zeroCellsV Try.prog 5 n = some (bcs (List.replicate n 0)) := by
  have h1 : Try.prog.cellsOf 5 = 1 := by kernel_rfl
  have h2 : zeroV Try.prog 5 = some (.i .u8 0) := by kernel_rfl
  unfold zeroCellsV
  rw [h1, h2, Nat.mul_one]
  split
  · rename_i h; subst h; rfl
  · simp only [Option.bind_some]
    rw [if_pos (by simp [V.cells])]
    refine congrArg some ?_
    simp only [V.cells, bcs]
    induction n with
    | zero => rfl
    | succ n ih => simp [List.replicate_succ]
/-- an append into a room that is left -/
theorem appendV_ex {H : Heap} {id : Nat} {e : TypeId} {a z b : List Int} {c : Nat} (hg : H.get id = some (.cells (bcs (a ++ z)) e false)) (hb : b.length ≤ z.length) (hc : a.length + b.length ≤ c) {R : Type} (K : Sl → Heap → Option R) :
    appendV H e 1 1 ⟨some (id, 0), a.length, .ex c⟩ b.length (bcs b) K = K ⟨some (id, 0), a.length + b.length, .ex c⟩ (H.put id (.cells (bcs (a ++ b ++ z.drop b.length)) e false)) := by
  by_cases h0 : b.length = 0
  · have : b = [] := List.length_eq_zero_iff.1 h0
    subst this
    simp only [List.length_nil, appendV_zero, List.append_nil, List.drop_zero]
    rw [Heap.put_self hg]; rfl
  · simp only [appendV]
    rw [if_neg h0, if_neg (by omega), if_pos hc, sts_of hg (by simp; omega) (bcs_ones _)]
    simp only [Option.bind_some, Nat.zero_add, Nat.mul_one]
    rw [splice_bcs _ _ _ hb]
theorem sh0 {r : Int} (h : 0 ≤ r ∧ r ≤ 4294967295) : IntKind.wrap .u8 (shrI .u32 r 0) = r % 256 := by
  rw [wr8]; show (r.fdiv 1) % 256 = _; rw [Int.fdiv_eq_ediv_of_nonneg _ (by omega)]; omega
theorem sh8 {r : Int} (h : 0 ≤ r ∧ r ≤ 4294967295) : IntKind.wrap .u8 (shrI .u32 r 8) = r / 256 % 256 := by
  rw [wr8]; show (r.fdiv 256) % 256 = _; rw [Int.fdiv_eq_ediv_of_nonneg _ (by omega)]
theorem sh16 {r : Int} (h : 0 ≤ r ∧ r ≤ 4294967295) : IntKind.wrap .u8 (shrI .u32 r 16) = r / 65536 % 256 := by
  rw [wr8]; show (r.fdiv 65536) % 256 = _; rw [Int.fdiv_eq_ediv_of_nonneg _ (by omega)]
theorem sh24 {r : Int} (h : 0 ≤ r ∧ r ≤ 4294967295) : IntKind.wrap .u8 (shrI .u32 r 24) = r / 16777216 := by
  rw [wr8]; show (r.fdiv 16777216) % 256 = _; rw [Int.fdiv_eq_ediv_of_nonneg _ (by omega)]; omega
/-- the octets of a head are written one by one -/
theorem stN {H : Heap} {q : Nat} {l : List Int} {e : TypeId} (hg : H.get q = some (.cells (bcs l) e false)) {k : Nat} (hk : k < l.length) (n : Int) : H.st q (0 + k * 1) (.i .u8 n) = some (H.put q (.cells (bcs (l.set k n)) e false)) := by
  rw [Nat.zero_add, Nat.mul_one, st_of hg (by simpa using hk) rfl, bcs_set]
theorem ldN {H : Heap} {q : Nat} {l : List Int} {e : TypeId} (hg : H.get q = some (.cells (bcs l) e false)) {k : Nat} (hk : k < l.length) : H.ldI .u8 q (0 + k * 1) = some (l.getD k 0) := by
  rw [Nat.zero_add, Nat.mul_one]; exact ldI_of hg (bcs_get hk)
theorem bvOr_add {n m : Nat} {j : Nat} (hn : n < 2 ^ j) (hm : n + m * 2 ^ j < 4294967296) : bvOr .u32 (n : Int) ((m * 2 ^ j : Nat) : Int) = ((n + m * 2 ^ j : Nat) : Int) := by
  unfold bvOr
  have : (BitVec.ofInt (IntKind.bits .u32) (n : Int) ||| BitVec.ofInt (IntKind.bits .u32) ((m * 2 ^ j : Nat) : Int)).toNat = n + m * 2 ^ j := by
    rw [BitVec.ofInt_natCast, BitVec.ofInt_natCast]
    show (BitVec.ofNat 32 n ||| BitVec.ofNat 32 (m * 2 ^ j)).toNat = _
    rw [BitVec.toNat_or, BitVec.toNat_ofNat, BitVec.toNat_ofNat, Nat.mod_eq_of_lt (by omega), Nat.mod_eq_of_lt (by omega), Nat.or_comm, ← Nat.shiftLeft_eq, ← Nat.shiftLeft_add_eq_or_of_lt hn, Nat.add_comm]
  rw [this, wr32]; omega
theorem orI {r b : Int} {j : Nat} {p : Int} (hp : p = ((2 ^ j : Nat) : Int)) (hr : 0 ≤ r ∧ r < p) (hb : 0 ≤ b) (hm : r + b * p < 4294967296) : bvOr .u32 r (b * p) = r + b * p := by
  obtain ⟨n, rfl⟩ := Int.eq_ofNat_of_zero_le hr.1
  obtain ⟨m, rfl⟩ := Int.eq_ofNat_of_zero_le hb
  subst hp
  have h1 : n < 2 ^ j := by exact_mod_cast hr.2
  have h2 : n + m * 2 ^ j < 4294967296 := by
    have : ((n + m * 2 ^ j : Nat) : Int) < 4294967296 := by rw [Int.natCast_add, Int.natCast_mul]; exact hm
    omega
  have := bvOr_add h1 h2
  rw [Int.natCast_add, Int.natCast_mul] at this
  exact this
theorem sl0 {b : Int} (h : 0 ≤ b ∧ b ≤ 255) : shlI .u32 (IntKind.wrap .u32 b) 0 = b * 1 := by
  show IntKind.wrap .u32 ((IntKind.wrap .u32 b) * 1) = _; rw [wr32, wr32]; omega
theorem sl8 {b : Int} (h : 0 ≤ b ∧ b ≤ 255) : shlI .u32 (IntKind.wrap .u32 b) 8 = b * 256 := by
  show IntKind.wrap .u32 ((IntKind.wrap .u32 b) * 256) = _; rw [wr32, wr32]; omega
theorem sl16 {b : Int} (h : 0 ≤ b ∧ b ≤ 255) : shlI .u32 (IntKind.wrap .u32 b) 16 = b * 65536 := by
  show IntKind.wrap .u32 ((IntKind.wrap .u32 b) * 65536) = _; rw [wr32, wr32]; omega
theorem sl24 {b : Int} (h : 0 ≤ b ∧ b ≤ 255) : shlI .u32 (IntKind.wrap .u32 b) 24 = b * 16777216 := by
  show IntKind.wrap .u32 ((IntKind.wrap .u32 b) * 16777216) = _; rw [wr32, wr32]; omega

/-- octets laid into a row made for n of them -/
structure Room (H0 G : Heap) (q : Nat) (a : List Int) (n : Nat) : Prop where
  obj : ∃ z, G.get q = some (.cells (bcs (a ++ z)) 5 false) ∧ a.length + z.length = n
  new : H0.next ≤ q
  ext : Ext H0 G
  wf : G.Wf
theorem Room.make {H0 H : Heap} (hw : H.Wf) (hx : Ext H0 H) (n : Nat) : Room H0 (H.new (.cells (bcs (List.replicate n 0)) 5 false)) H.next [] n :=
  ⟨⟨List.replicate n 0, Heap.gnew _ _, by simp⟩, hx.next, hx.trans (Ext.new _ _), hw.new _⟩
theorem Room.append {H0 G : Heap} {q : Nat} {a : List Int} {n : Nat} (h : Room H0 G q a n) (b : List Int) (hb : a.length + b.length ≤ n) :
    ∃ G', (∀ (R : Type) (K : Sl → Heap → Option R), appendV G 5 1 1 ⟨some (q, 0), a.length, .ex n⟩ b.length (bcs b) K = K ⟨some (q, 0), (a ++ b).length, .ex n⟩ G') ∧ Room H0 G' q (a ++ b) n ∧ G'.next = G.next ∧ ∀ i, i ≠ q → G'.get i = G.get i := by
  obtain ⟨z, hz, hl⟩ := h.obj
  refine ⟨G.put q (.cells (bcs (a ++ b ++ z.drop b.length)) 5 false), fun R K => ?_, ⟨⟨z.drop b.length, Heap.gput _ _ _, by simp; omega⟩, h.new, h.ext.above h.new _, h.wf.put hz _⟩, rfl, fun i hi => by rw [Heap.get_put, if_neg hi]⟩
  rw [appendV_ex hz (by omega) (by omega), List.length_append]
theorem Room.push {H0 G : Heap} {q : Nat} {a : List Int} {n : Nat} (h : Room H0 G q a n) (v : Int) (hb : a.length + 1 ≤ n) :
    ∃ G', (∀ (R : Type) (K : Sl → Heap → Option R), ((slCells (G.new (.cells [.i .u8 v] 5 false)) 1 ⟨some (G.next, 0), 1, .ex 1⟩).bind fun vs => appendV (G.new (.cells [.i .u8 v] 5 false)) 5 1 1 ⟨some (q, 0), a.length, .ex n⟩ 1 vs K) = K ⟨some (q, 0), a.length + 1, .ex n⟩ G') ∧ Room H0 G' q (a ++ [v]) n ∧ ∀ i o, i ≠ q → G.get i = some o → G'.get i = some o := by
  obtain ⟨z, hz, hl⟩ := h.obj
  have x1 := Ext.new G (.cells [.i .u8 v] 5 false)
  have w1 := h.wf.new (.cells [.i .u8 v] 5 false)
  have b1 : BS (G.new (.cells (bcs [v]) 5 false)) ⟨some (G.next, 0), 1, .ex 1⟩ [v] := BS.obj (c := .ex 1) (Heap.gnew _ _)
  have h2 : Room H0 (G.new (.cells [.i .u8 v] 5 false)) q a n := ⟨⟨z, x1.get h.wf hz, hl⟩, h.new, h.ext.trans x1, w1⟩
  obtain ⟨G', e1, r1, n1, f1⟩ := h2.append [v] (by simpa using hb)
  refine ⟨G', fun R K => ?_, r1, fun i o hi ho => by rw [f1 i hi]; exact x1.get h.wf ho⟩
  rw [show G.new (.cells [.i .u8 v] 5 false) = G.new (.cells (bcs [v]) 5 false) from rfl, b1.is, Option.bind_some]
  have := e1 R K
  rw [List.length_append] at this
  exact this
theorem Room.bs {H0 G : Heap} {q : Nat} {a : List Int} {n : Nat} (h : Room H0 G q a n) (hn : a.length = n) : BS G ⟨some (q, 0), a.length, .ex n⟩ a := by
  obtain ⟨z, hz, hl⟩ := h.obj
  have : z = [] := List.length_eq_zero_iff.1 (by omega)
  subst this
  rw [List.append_nil] at hz
  exact BS.obj hz
/-- an own row of octets is written on, one by one -/
theorem AM.OS.push {H0 H : Heap} {s : Sl} {l : List Int} {q : Nat} (h : OS H0 H 5 s l q) (v : Int) (hm : l.length + 1 ≤ 140737488355328) :
    ∃ s' H' q', (∀ (R : Type) (K : Sl → Heap → Option R), ((slCells (H.new (.cells [.i .u8 v] 5 false)) 1 ⟨some (H.next, 0), 1, .ex 1⟩).bind fun vs => appendV (H.new (.cells [.i .u8 v] 5 false)) 5 1 1 s 1 vs K) = K s' H') ∧ OS H0 H' 5 s' (l ++ [v]) q' ∧ ∀ i o, i ≠ q → H.get i = some o → H'.get i = some o := by
  have x1 := Ext.new H (.cells [.i .u8 v] 5 false)
  have w1 := h.wf.new (.cells [.i .u8 v] 5 false)
  have b1 : BS (H.new (.cells (bcs [v]) 5 false)) ⟨some (H.next, 0), 1, .ex 1⟩ [v] := BS.obj (c := .ex 1) (Heap.gnew _ _)
  obtain ⟨s', H', q', e1, r1, _, _, f1⟩ := (h.frame x1 w1).append [v] (by simpa using hm)
  refine ⟨s', H', q', fun R K => ?_, r1, fun i o hi ho => ?_⟩
  · rw [show H.new (.cells [.i .u8 v] 5 false) = H.new (.cells (bcs [v]) 5 false) from rfl, b1.is, Option.bind_some]
    exact e1 R K
  · have := h.wf _ _ ho
    rw [f1 i (by simp; omega) hi]; exact x1.get h.wf ho
/-- s[:k] -/
theorem AM.slOf_to {H : Heap} {s : Sl} {l : List Int} (hc : CapOk s) (h : BS H s l) {k : Nat} (hk : k ≤ l.length) : ∃ s', (∀ (R : Type) (K : Sl → Option R), slOf 1 s none (some (k : Int)) none K = K s') ∧ BS H s' (l.take k) ∧ CapOk s' ∧ s'.len = k := by
  have hl : s.len = l.length := h.len
  have main : ∀ c, BS H ⟨s.a, k, c⟩ (l.take k) := fun c => by
    refine ⟨by simp; omega, ?_⟩
    by_cases h0 : k = 0
    · subst h0; simp [slCells]
    · obtain ⟨q, vs, e, ro, y1, y2, y3, y4⟩ := h.there (by rintro rfl; simp at hk; omega)
      obtain ⟨id, off⟩ := q
      simp only at y2 y3 y4
      unfold slCells
      simp only [y1, Nat.mul_one, if_neg h0]
      unfold Heap.lds
      rw [y2]
      simp only
      rw [if_pos (by omega)]
      congr 1
      have : (vs.drop off).take k = ((vs.drop off).take l.length).take k := by rw [List.take_take, Nat.min_eq_left hk]
      rw [this, y4]
      simp [bcs, List.map_take]
  obtain ⟨a, n, c⟩ := s
  simp only at hl
  cases c with
  | ex c =>
    have hc' : n ≤ c := hc
    refine ⟨⟨a, k, .ex c⟩, fun R K => ?_, main _, by show k ≤ c; omega, rfl⟩
    simp only [slOf, Option.getD_none, Option.getD_some, Option.isSome_none, Bool.false_and, Bool.false_eq_true, if_false]
    rw [if_pos (by omega)]
    congr 1
    simp only [Int.sub_zero, Int.toNat_natCast]
    split
    · rfl
    · cases a <;> simp
  | op z =>
    have hc' : z = 1 := hc
    subst hc'
    refine ⟨⟨a, k, .op 1⟩, fun R K => ?_, main _, rfl, rfl⟩
    simp only [slOf, Option.getD_none, Option.getD_some, Option.isSome_none, Bool.false_and, Bool.false_eq_true, if_false, if_true]
    rw [if_pos (by omega)]
    congr 1
    simp only [Int.sub_zero, Int.toNat_natCast]
    cases a <;> simp
/-- an own slice of octets is appended to -/
theorem own_more {H0 H : Heap} {x : Sl} {l : List Int} (hw : H.Wf) (hx : Ext H0 H) (ho : Own H 5 1 x (bcs l)) (hab : x.above H0.next) (m : List Int) (hm : l.length + m.length ≤ 140737488355328) :
    ∃ s' H', (∀ (R : Type) (K : Sl → Heap → Option R), appendV H 5 1 1 x m.length (bcs m) K = K s' H') ∧ Own H' 5 1 s' (bcs (l ++ m)) ∧ s'.above H0.next ∧ Ext H0 H' ∧ H'.Wf ∧ ∀ i o, x.a ≠ some (i, 0) → H.get i = some o → H'.get i = some o := by
  have hlx : x.len = l.length := by have := ho.len; simpa using this.symm
  by_cases h0 : m = []
  · subst h0
    refine ⟨x, H, fun R K => by simp only [List.length_nil, appendV_zero], by rw [List.append_nil]; exact ho, hab, hx, hw, fun i o _ h => h⟩
  · have hm0 : 0 < m.length := List.length_pos_iff.2 h0
    obtain ⟨r, G', e1, o1, l1, a1, w1, n1, f1⟩ := own_append (bytes := 1) hw ho (n := m.length) (new := bcs m) hm0 (by omega) (by simp) (bcs_ones _) (by omega) (by omega)
    have hxn := hx.next
    refine ⟨r, G', e1, by rw [bcs_append]; exact o1, fun id off e => by rw [a1] at e; cases e; omega, ⟨by omega, fun i hi hs => ?_⟩, w1, fun i o hi hg => ?_⟩
    · rw [f1 i (by omega) (fun e => by have := hab _ _ e; omega)]; exact hx.same i hi hs
    · have := hw _ _ hg
      rw [f1 i (by omega) hi]; exact hg
end Go.Proofs.Ytnlfkllnmobppaa

