/- slices.SortFunc over rows of structs, as the machine has it. -/
import Derived.Test.YtobebcfkddimkaaAmD
import Derived.Test.YtobebcfkddimkaaAmC
import Derived.Shelf.SlSortCmp.NoneTotal
namespace Go.Proofs.Ytobebcfkddimkaa.AM
open Go Go.RowKit Go.Shelf Go.Sort
set_option linter.unusedVariables false
set_option linter.unusedSimpArgs false

theorem putRow_at (w : World) (blk off : Nat) (F : Array Value) {c : Array Value} {e : TypeId} {fz : Nat × Nat} (h : w.heap[blk]? = some (.cells c e fz)) : (putRow id w blk off F).heap[blk]? = some (.cells (putCells id off F c) e fz) := by
  unfold putRow mapBlock
  simp only [Array.getElem?_modify, if_true, h, Option.map_some, onCells]
theorem putRow_off (w : World) (blk off : Nat) (F : Array Value) {k : Nat} (h : k ≠ blk) : (putRow id w blk off F).heap[k]? = w.heap[k]? := by
  unfold putRow mapBlock
  simp only [Array.getElem?_modify]
  rw [if_neg (fun e => h e.symm)]
theorem world_eq {w w' : World} (hb : Below w.heap.size w w') (hd : w.drawn ≤ w'.drawn) : ∃ q os, w' = grow (w.drewN q) os := by
  refine ⟨w'.drawn - w.drawn, w'.heap.extract w.heap.size w'.heap.size, ?_⟩
  obtain ⟨heap', tape', drawn', os', out'⟩ := w'
  obtain ⟨h1, h2, h3, h4, h5⟩ := hb
  simp only at h1 h2 h3 h4 h5 hd
  subst h1; subst h2; subst h3
  simp only [grow, World.drewN]
  congr 1
  · apply Array.ext_getElem?
    intro k
    by_cases hk : k < w.heap.size
    · rw [Array.getElem?_append_left hk]; exact h5 k hk
    · rw [Array.getElem?_append_right (by omega)]
      by_cases hk2 : k < heap'.size
      · rw [Array.getElem?_extract]
        rw [if_pos (by omega), show w.heap.size + (k - w.heap.size) = k by omega]
      · rw [Array.getElem?_eq_none (by omega), Array.getElem?_eq_none (by simp; omega)]
  · omega

section
variable {P : Program} {N : Nat} {w0 : Ref} {w : World} {ρ : Env} {H : Heap}
/-- a part of an own object is written anew, and blocks are laid -/
theorem HR.sorted (h : HR N w0 ρ H w) {id off : Nat} {vs us : List V} {e : TypeId} {b : Base} {F : Array Value} (hg : H.get id = some (.cells vs e false)) (hb : ρ id = some b) (hr : Rels ρ us F.toList) (hle : off + us.length ≤ vs.length) (m : Nat) (os : Array Obj) :
    HR N w0 ρ (H.put id (.cells (splice vs off us) e false)) (grow (putRow _root_.id (Go.Sort.ahead w m) b.blk (b.off + off) F) os) := by
  obtain ⟨c, fz, h1, h2, h3, h4⟩ := h.base hg hb
  obtain ⟨hN, hsz, hfz, hex⟩ := h4 rfl
  have hlen : us.length = F.size := by simpa using hr.length
  have h0 : HR N w0 ρ H (Go.Sort.ahead w m) := h.drawn (w.drawn + m) (Nat.le_add_right _ _)
  have h1' : (Go.Sort.ahead w m).heap[b.blk]? = some (.cells c e fz) := h1
  have hw : HR N w0 ρ (H.put id (.cells (splice vs off us) e false)) (putRow _root_.id (Go.Sort.ahead w m) b.blk (b.off + off) F) := by
    refine h0.write hg hb rfl rfl (by simp) rfl rfl rfl (fun k hk => putRow_off _ _ _ _ hk) ?_ (by simp)
    refine ⟨_, fz, putRow_at _ _ _ _ h1', ?_, fun j v hj => ?_, fun _ => ⟨hN, by simpa [putCells] using hsz, by simpa [putCells] using hfz, fun q => by have := hex q; rw [splice_length _ _ _ hle]; simpa [putCells] using this⟩⟩
    · rw [splice_length _ _ _ hle]; simpa [putCells] using h2
    · rw [splice_get _ _ _ hle] at hj
      simp only [putCells, Array.getElem?_mapIdx]
      by_cases c1 : j < off
      · rw [if_pos c1] at hj
        obtain ⟨x, hx, hrel⟩ := h3 j v hj
        exact ⟨x, by rw [hx, Option.map_some, if_neg (by omega)], hrel⟩
      · rw [if_neg c1] at hj
        by_cases c2 : j < off + us.length
        · rw [if_pos c2] at hj
          obtain ⟨x, hx, hrel⟩ := hr.get _ _ hj
          have hlt : b.off + j < c.size := by omega
          refine ⟨x, ?_, hrel⟩
          rw [Array.getElem?_eq_getElem hlt, Option.map_some, if_pos (by omega)]
          have hx' : F[j - off]? = some x := by simpa using hx
          have : b.off + j - (b.off + off) = j - off := by omega
          rw [this]
          have h5 := (Array.getElem?_eq_some_iff.1 hx')
          obtain ⟨h6, h7⟩ := h5
          rw [getElem!_pos F (j - off) h6, h7]; rfl
        · rw [if_neg c2] at hj
          obtain ⟨x, hx, hrel⟩ := h3 j v hj
          exact ⟨x, by rw [hx, Option.map_some, if_neg (by omega)], hrel⟩
  have hG : Goes (putRow _root_.id (Go.Sort.ahead w m) b.blk (b.off + off) F) (grow (putRow _root_.id (Go.Sort.ahead w m) b.blk (b.off + off) F) os) :=
    ⟨⟨rfl, rfl, rfl, by simp, fun k hk => by simp only [grow]; rw [Array.getElem?_append_left hk]⟩, Nat.le_refl _⟩
  exact hw.over hG
end

/-- how elements lie in cells -/
structure Enc (α : Type) (k : Nat) where
  enc : α → List Value
  encV : α → List V
  len : ∀ x, (enc x).length = k
  one : ∀ x, ∀ v ∈ enc x, v.oneCell' = true
  rel : ∀ (ρ : Env) x, Rels ρ (encV x) (enc x)
  only : ∀ (ρ : Env) x ys, Rels ρ (encV x) ys → ys = enc x
section
variable {α : Type} {k : Nat}
theorem Enc.lenV (C : Enc α k) (x : α) : (C.encV x).length = k := (C.rel (fun _ => none) x).length.trans (C.len x)
theorem flatK_list [Inhabited α] (C : Enc α k) : ∀ (l : List α), (flatK C.enc k l.toArray).toList = (l.map C.enc).flatten := by
  intro l
  by_cases hk0 : k = 0
  · subst hk0
    have h1 : ∀ l : List α, (l.map C.enc).flatten = [] := by
      intro l
      induction l with
      | nil => rfl
      | cons x l ih => simp only [List.map_cons, List.flatten_cons, ih, List.append_nil]; exact List.length_eq_zero_iff.1 (C.len x)
    rw [h1]; simp [flatK]
  induction l with
  | nil => simp [flatK]
  | cons x l ih =>
    have hk : 0 < k := by omega
    simp only [List.map_cons, List.flatten_cons]
    rw [← ih]
    apply List.ext_getElem?
    intro t
    have hlx := C.len x
    simp only [flatK, Array.toList_map, Array.toList_range, List.getElem?_map, List.size_toArray, List.length_cons]
    by_cases ht : t < k
    · rw [List.getElem?_append_left (by omega), List.getElem?_range (by rw [Nat.add_mul]; omega)]
      simp only [Option.map_some]
      rw [Nat.div_eq_of_lt ht, Nat.mod_eq_of_lt ht]
      have h0 : (x :: l).toArray[0]! = x := by simp
      rw [h0, List.getElem?_eq_getElem (by omega), getElem!_pos (C.enc x) t (by omega)]
    · rw [List.getElem?_append_right (by omega), hlx, List.getElem?_map]
      by_cases ht2 : t < (l.length + 1) * k
      · rw [List.getElem?_range ht2, List.getElem?_range (by rw [Nat.add_mul] at ht2; omega)]
        simp only [Option.map_some]
        have e1 : t / k = (t - k) / k + 1 := by
          rw [Nat.div_eq_sub_div hk (by omega)]
        have e2 : t % k = (t - k) % k := by
          rw [Nat.mod_eq_sub_mod (by omega)]
        have hlt : (t - k) / k < l.length := by
          rw [Nat.div_lt_iff_lt_mul hk]; rw [Nat.add_mul] at ht2; omega
        rw [e1, e2]
        have h2 : (x :: l).toArray[(t - k) / k + 1]! = l.toArray[(t - k) / k]! := by
          rw [getElem!_pos _ _ (by simpa using hlt), getElem!_pos _ _ (by simpa using hlt)]
          simp
        rw [h2]
      · rw [List.getElem?_eq_none (by simpa using ht2), List.getElem?_eq_none (by simp; rw [Nat.add_mul] at ht2; omega)]
        rfl
theorem Enc.rels (C : Enc α k) (ρ : Env) : ∀ (l : List α), Rels ρ (l.map C.encV).flatten (l.map C.enc).flatten := by
  intro l
  induction l with
  | nil => exact .nil
  | cons x l ih => simp only [List.map_cons, List.flatten_cons]; exact (C.rel ρ x).append ih
theorem Enc.onlys (C : Enc α k) {ρ : Env} : ∀ (l : List α) (ys : List Value), Rels ρ (l.map C.encV).flatten ys → ys = (l.map C.enc).flatten := by
  intro l
  induction l with
  | nil => intro ys h; cases h; rfl
  | cons x l ih =>
    intro ys h
    simp only [List.map_cons, List.flatten_cons] at h ⊢
    have h1 := h.take (C.encV x).length
    have h2 := h.drop (C.encV x).length
    rw [List.take_left] at h1
    rw [List.drop_left] at h2
    have e1 := C.only ρ x _ h1
    have e2 := ih _ h2
    rw [← List.take_append_drop (C.encV x).length ys, e1, e2]
theorem Enc.lens (C : Enc α k) : ∀ (l : List α), ((l.map C.encV).flatten).length = l.length * k := by
  intro l
  induction l with
  | nil => simp
  | cons x l ih => simp only [List.map_cons, List.flatten_cons, List.length_append, ih, C.lenV, List.length_cons, Nat.add_mul]; omega

/-- a comparison that the machine knows to be pure -/
theorem cmpLays_of [Inhabited α] {P : Program} {g : FuncId} {F : Fun} (hF : FunOK P g F) (he : enters P g = true) (hglob : ∀ w : World, GOk w.heap.size w) (C : Enc α k) (cf : α → α → Int)
    (h : ∀ x y, ∃ H', F (V × Heap) [.agg (C.encV x), .agg (C.encV y)] noHeap ret2 = some (.i .i64 (cf x y), H')) (blk off size : Nat) (w : World) : CmpLays P g #[] C.enc k cf blk off size w := by
  intro m os dk hdk x y
  obtain ⟨H', hF2⟩ := h x y
  have hr : Rels noEnv [.agg (C.encV x), .agg (C.encV y)] [.agg (C.enc x).toArray, .agg (C.enc y).toArray] := .cons _ _ _ _ (.agg _ _ (C.rel _ x)) (.cons _ _ _ _ (.agg _ _ (C.rel _ y)) .nil)
  generalize sortWorldK C.enc k w blk off m dk os = W
  have hd := hF _ _ noHeap ret2 _ W.heap.size W W noEnv _ hF2 hr (HR.void W (hglob W))
  have hc : Calls P g #[.agg (C.enc x).toArray, .agg (C.enc y).toArray] W fun e w' => ∃ c, e = .returned c ∧ Post W.heap.size W noEnv ret2 (V.i .i64 (cf x y), H') c w' := by
    have hrun := enters_run he #[.agg (C.enc x).toArray, .agg (C.enc y).toArray] W
    rcases hd with ⟨c, w', h1, h2⟩ | ⟨w', h1, h2⟩ | ⟨f, args, w', h1, h2⟩
    · rw [hrun] at h1; cases h1
    · rw [hrun] at h1; cases h1
    · rw [hrun] at h1; cases h1; exact h2
  refine hc.mono fun e w' ⟨c, he, v, H2, ρ', _, hv, hh, hkk⟩ => ?_
  simp only [ret2, Option.some.injEq, Prod.mk.injEq] at hkk
  obtain ⟨rfl, rfl⟩ := hkk
  cases hv
  exact ⟨he, world_eq hh.below hh.drew⟩
/-- the sorted row -/
def sortBy (cf : α → α → Int) (l : List α) : List α := l.mergeSort fun x y => !(ltOf cf) y x
theorem sortBy_perm (cf : α → α → Int) (l : List α) : (sortBy cf l).Perm l := List.mergeSort_perm _ _
theorem sort_sound [Inhabited α] {P : Program} {rn : Ren} {N : Nat} {w0 : Ref} {w : World} {ρ : Env} {H : Heap} (L : SlLaysF0.n6 P rn) (aE : ∀ w, (isAgg (rn.t 24)).run P w = .ok true w) (zE : ∀ w, (Go.sizeOf (rn.t 24)).run P w = .ok k w) (C : Enc α k) (cf : α → α → Int) (hO : SWO (ltOf cf))
    (hT : ∀ x y, (ltOf cf) x y = false → (ltOf cf) y x = false → x = y) {g : FuncId} (he : enters P g = true) (hcmp : ∀ (blk off size : Nat) (w : World), CmpLays P g #[] C.enc k cf blk off size w)
    (hh : HR N w0 ρ H w) {id off n cap : Nat} {vs : List V} {e : TypeId} {b : Base} (hg : H.get id = some (.cells vs e false)) (hb : ρ id = some b) {l : List α} (hl : (vs.drop off).take (n * k) = (l.map C.encV).flatten) (hn : l.length = n) (hle : off + n * k ≤ vs.length) (hsz : n < 4611686018427387904) :
    Calls P (rn.f 6) #[.slice (some ⟨b.blk, b.off + off, none⟩) n cap, .func (.func g) #[] #[]] w fun e' w' => e' = .returned (.tuple #[]) ∧ HR N w0 ρ (H.put id (.cells (splice vs off ((sortBy cf l).map C.encV).flatten) e false)) w' := by
  obtain ⟨c, fz, h1, h2, h3, h4⟩ := hh.base hg hb
  obtain ⟨hN, hbs, hfz, hex⟩ := h4 rfl
  have hsize : l.toArray.size = n := by simpa using hn
  have hH : HoldsK C.enc k w b.blk (b.off + off) l.toArray := by
    intro j hj
    rw [size_flatK] at hj
    have hj' : j < n * k := by simpa [hsize] using hj
    -- the cell
    have hxs : ∃ xs, Rels ρ ((vs.drop off).take (n * k)) xs ∧ xs.length = n * k ∧ ∀ (j : Nat) (x : Value), xs[j]? = some x → w.cell? ⟨b.blk, b.off + off + j, none⟩ = some x := (hh.base hg hb).part hle
    obtain ⟨xs, x1, x2, x3⟩ := hxs
    rw [hl] at x1
    have hx := C.onlys l xs x1
    have hfl : (flatK C.enc k l.toArray).toList = xs := by rw [flatK_list C l, hx]
    have hjx : j < xs.length := by omega
    refine ⟨?_, ?_⟩
    · have := x3 j xs[j] (List.getElem?_eq_getElem hjx)
      rw [this]
      have hs : j < (flatK C.enc k l.toArray).size := by rw [size_flatK]; exact hj
      rw [getElem!_pos _ j hs]
      have : (flatK C.enc k l.toArray)[j] = xs[j] := by
        have h5 : (flatK C.enc k l.toArray).toList[j]'(by simpa using hs) = xs[j] := by simp only [hfl]
        simpa using h5
      rw [this]; rfl
    · simp only [World.frozen?, h1]
      obtain ⟨lo, hi⟩ := fz
      simp only [Bool.and_eq_false_iff, decide_eq_false_iff_not]
      simp only at hfz
      omega
  have hblk : b.blk < w.heap.size := (Array.getElem?_eq_some_iff.1 h1).1
  have hcon := AnyQ.slices_SortFunc_total L k aE zE C.enc C.len C.one cf hO g #[] b.blk (b.off + off) cap l.toArray w (fun args w => enters_run he args w) (hcmp _ _ _ _) hH hblk (by rw [hsize]; exact hsz) hT
  rw [hsize] at hcon
  refine hcon.mono fun e' w' ⟨he', m, os, hw⟩ => ⟨he', ?_⟩
  subst hw
  have hrel : Rels ρ ((sortBy cf l).map C.encV).flatten (flatK C.enc k (l.mergeSort fun x y => !(ltOf cf) y x).toArray).toList := by
    rw [flatK_list C]; exact C.rels ρ _
  exact hh.sorted hg hb hrel (by rw [C.lens, (sortBy_perm cf l).length_eq, hn]; exact hle) m os
end
end Go.Proofs.Ytobebcfkddimkaa.AM

