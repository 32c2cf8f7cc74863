/- Every operation of the machine stands for the model's: the theorem. -/
import Derived.Test.YteipplgcdbaokaaDoorAm15
import Derived.Maps.RangeRun
namespace Go.Proofs.YteipplgcdbaokaaDoor.AM
open Go Go.RowKit

section
variable {P : Program} {N : Nat} {w0 w : World} {ρ : Env} {H : Heap}

theorem arr_map {α β : Type} (f : α → β) (a : Array α) : (a.toList.map f).toArray = a.map f := by apply Array.ext'; simp
theorem cons_get (a : Value) (b : Array Value) : (#[a] ++ b)[0]? = some a := by rw [Array.getElem?_append_left (by simp)]; rfl
theorem cons_extract (a : Value) (b : Array Value) : (#[a] ++ b).extract 1 (#[a] ++ b).size = b := by
  apply Array.ext'
  simp [List.extract_eq_take_drop]

theorem nilCheck_ok {v : V} {x : Value} (hr : Rel ρ v x) {o : Oper} {e : Operand → Value} {y : Operand} (ho : o.op = .nilCheck y) (hy : e y = x)
    (h : (∃ q, v = .p (some q)) ∨ (∃ t u, v = .ifc t u) ∨ (∃ f a c, v = .fn (.func f) a c)) : (execOp e o).run P w = .ok (.value x) w := by
  unfold execOp
  simp only [ho, hy]
  rcases h with ⟨q, rfl⟩ | ⟨t, u, rfl⟩ | ⟨f, a, c, rfl⟩ <;> cases hr <;> rfl

theorem methNotNil_sound {r : V} {x : Value} {name : String} (h : methNotNil P r name = true) (hr : Rel ρ r x) (n : Nat) : ∃ t y, x = .iface t y ∧ (nilAhead (n + 1) t y name).run P w = .ok (some false) w := by
  unfold methNotNil at h
  split at h
  · rename_i t v
    cases hr with
    | ifc _ _ y hy =>
    refine ⟨t, y, rfl, ?_⟩
    split at h
    · rename_i m hm
      cases hi : P.info? t with
      | none => simp [hi] at hm
      | some i =>
        simp only [hi, Option.bind_some] at hm
        split at h
        · rename_i f hfun hpath
          simp [nilAhead, typeInfo, hi, hm, hpath, followBlind, hfun]
        · rename_i f hfun hpath
          split at h
          · cases h
          · rename_i d hnp hu
            have : ∀ z : Option Value, (match d, z with
              | .pointer _, some (.pointer none) => pure (some true)
              | .pointer _, some _ => pure (some false)
              | .pointer _, none => pure none
              | _, _ => pure (some false) : Sem (Option Bool)) = pure (some false) := by
              intro z
              cases d <;> first | rfl | (exact absurd rfl (hnp _))
            simp only [nilAhead, typeInfo, Sem.run_bind, run_program, Result.andThen_ok, hi, Sem.run_pure, hm, hpath, followBlind, hfun, run_underlying hu]
            cases d <;> first | rfl | (exact absurd rfl (hnp _))
          · cases h
        · rename_i f s hfun hpath
          simp only [Bool.and_eq_true] at h
          obtain ⟨hder, h⟩ := h
          split at h
          · rename_i fs hus
            split at h
            · rename_i fd hfd
              split at h
              · rename_i q
                obtain ⟨b, hb, rfl⟩ := hy.p'
                simp [nilAhead, typeInfo, hi, hm, hpath, followBlind, hfun, hder, run_underlying hus, hfd]
              · cases h
            · cases h
          · cases h
        · cases h
    · cases h
  · cases h

theorem strBytes_sound (h : HR N w0 ρ H w) (p : ByteArray) (el : TypeId) (hge : p.size ≤ grownCap w p.size 0 el) (hcm : grownCap w p.size 0 el ≤ maxLen) (hne : exactT el = false) :
    ∃ w' ρ', (Conv.stringToBytes el p).run P w = .ok (.slice (some ⟨w.heap.size, 0, none⟩) p.size (grownCap w p.size 0 el)) w' ∧ ρ.le ρ' ∧ Rel ρ' (.sl ⟨some (H.next, 0), p.size, .op 1⟩) (.slice (some ⟨w.heap.size, 0, none⟩) p.size (grownCap w p.size 0 el)) ∧
      HR N w0 ρ' (H.new (.cells (cellsOfBytes p) el false)) w' := by
  have hrun0 : grownCap w p.size 0 el = (Question.appendCap p.size 0 el).cut (w.tape w.drawn (.appendCap p.size 0 el)) := rfl
  generalize hg : grownCap w p.size 0 el = g at hge hcm hrun0 ⊢
  let c : Array Value := (p.data.map fun b => .int .u8 b.toNat) ++ Array.replicate (g - p.size) (.int .u8 0)
  have hcs : c.size = g := by simp [c]; omega
  have hcg : ∀ (j : Nat) (v : V), (cellsOfBytes p)[j]? = some v → ∃ x, c[j]? = some x ∧ Rel ρ v x := by
    intro j v hj
    have hb := (rels_bytes (ρ := ρ) p.data.toList).get j v hj
    obtain ⟨x, hx, hr⟩ := hb
    refine ⟨x, ?_, hr⟩
    have hjl : j < p.data.toList.length := by simpa using (List.getElem?_eq_some_iff.1 hx).1
    simp only [c]
    rw [Array.getElem?_append_left (by simpa using hjl)]
    simpa using hx
  obtain ⟨ρ', h1, h2, h3⟩ := new_sound (h.drawn (w.drawn + 1)) (vs := cellsOfBytes p) (c := c) (e := el) hcg (by rw [hcs]; simp [cellsOfBytes]; exact hge) (fun q => by rw [hne] at q; cases q)
  have hblk : (w.drew.alloc (.cells c el)).heap[w.heap.size]? = some (.cells c el (0, 0)) := heap_alloc_new w.drew _
  refine ⟨(w.drew.alloc (.cells c el)).freeze ⟨w.heap.size, c.size, none⟩ 1, ρ', ?_, h1, ?_, ?_⟩
  · have hsh : (w.drew.alloc (.cells c el)).shape? w.heap.size = some (el, c.size) := by simp only [World.shape?, hblk]
    simp only [Conv.stringToBytes, Sem.run_bind, run_choose, Question.forced, Bool.false_eq_true, if_false, Result.andThen_ok, ← hrun0, newRow, run_newObj, Sem.run_pure]
    simp only [markStringish, Sem.run_bind, run_shape, Result.andThen_ok]
    have hsh' : World.shape? { heap := w.heap.push (.cells c el), tape := w.tape, drawn := w.drawn + 1, os := w.os, output := w.output } w.heap.size = some (el, c.size) := hsh
    rw [hsh']
    rfl
  · refine .so H.next 0 p.size 1 g _ _ h3 hge hcm (by simp [hcs]) (fun _ => rfl)
  · have hfz : ((w.drew.alloc (.cells c el)).freeze ⟨w.heap.size, c.size, none⟩ 1).heap = (w.drew.alloc (.cells c el)).heap.setIfInBounds w.heap.size (.cells c el (c.size, c.size + 1)) := by
      unfold World.freeze
      simp only [Nat.one_ne_zero, if_false]
      apply Array.ext'
      apply List.ext_getElem?
      intro k
      simp only [Array.getElem?_toList, Array.getElem?_modify, Array.getElem?_setIfInBounds]
      by_cases hk : w.heap.size = k
      · subst hk
        rw [if_pos rfl, if_pos rfl, hblk]
        have : w.heap.size < (w.drew.alloc (.cells c el)).heap.size := by simp
        rw [if_pos this]
        simp
      · rw [if_neg hk, if_neg hk]
    have hget : (H.new (.cells (cellsOfBytes p) el false)).get H.next = some (.cells (cellsOfBytes p) el false) := by simp
    have hw := h2.write (o' := .cells (cellsOfBytes p) el false) hget h3 rfl rfl (w' := (w.drew.alloc (.cells c el)).freeze ⟨w.heap.size, c.size, none⟩ 1) (by rw [hfz]; simp) (by simp [World.freeze]) (by simp [World.freeze]) (by simp [World.freeze])
      (fun k hk => by rw [hfz]; simp only [Array.getElem?_setIfInBounds]; rw [if_neg (fun e => hk e.symm)]; rfl)
      ⟨c, (c.size, c.size + 1), by rw [hfz]; simp, by simp [cellsOfBytes, hcs]; exact hge, fun j v hj => by
        obtain ⟨x, hx, hr⟩ := hcg j v hj
        exact ⟨x, by simpa using hx, hr.mono h1⟩, fun _ => ⟨h.nle, rfl, .inr (Nat.le_refl _), fun q => by rw [hne] at q; cases q⟩⟩
    refine hw.forget rfl fun j o hj => ?_
    rw [Heap.get_put]
    split
    · rename_i e; subst e; rw [hget] at hj; exact hj
    · exact hj

theorem mark_sound (h : HR N w0 ρ H w) {x : Sl} {cx : Value} (hr : Rel ρ (.sl x) cx) (hh : x.here H = true) : ∃ a len cap w', cx = .slice (some a) len cap ∧ (markStringish a).run P w = .ok () w' ∧ HR N w0 ρ H w' := by
  have key : ∀ (id : Nat) (b : Base) (off : Nat), ρ id = some b → (match H.get id with | some (.cells _ _ false) => true | _ => false) = true → ∃ w', (markStringish ⟨b.blk, off, none⟩).run P w = .ok () w' ∧ HR N w0 ρ H w' := by
    intro id b off hb hm
    split at hm
    · rename_i vs e hg
      obtain ⟨c, fz, h1, h2, h3, h4⟩ := h.base hg hb
      obtain ⟨hN, hsz, hfz, hex⟩ := h4 rfl
      have hsh : w.shape? b.blk = some (e, c.size) := by simp only [World.shape?, h1]
      have hlt : b.blk < w.heap.size := (Array.getElem?_eq_some_iff.1 h1).1
      have hheap : (w.freeze ⟨b.blk, c.size, none⟩ 1).heap = w.heap.setIfInBounds b.blk (.cells c e (if fz.1 == fz.2 then (c.size, c.size + 1) else (min fz.1 c.size, max fz.2 (c.size + 1)))) := by
        unfold World.freeze
        simp only [Nat.one_ne_zero, if_false]
        apply Array.ext'
        apply List.ext_getElem?
        intro k
        simp only [Array.getElem?_toList, Array.getElem?_modify, Array.getElem?_setIfInBounds]
        by_cases hk : b.blk = k
        · subst hk
          rw [if_pos rfl, if_pos rfl, h1, if_pos hlt]
          rfl
        · rw [if_neg hk, if_neg hk]
      refine ⟨w.freeze ⟨b.blk, c.size, none⟩ 1, ?_, ?_⟩
      · simp only [markStringish, Sem.run_bind, run_shape, Result.andThen_ok]
        rw [hsh]
        rfl
      · have hw := h.write (o' := .cells vs e false) hg hb rfl rfl (w' := w.freeze ⟨b.blk, c.size, none⟩ 1) (by rw [hheap]; simp) (by simp [World.freeze]) (by simp [World.freeze]) (by simp [World.freeze])
          (fun k hk => by rw [hheap]; simp only [Array.getElem?_setIfInBounds]; rw [if_neg (fun e => hk e.symm)])
          ⟨c, (if fz.1 == fz.2 then (c.size, c.size + 1) else (min fz.1 c.size, max fz.2 (c.size + 1))), by rw [hheap]; simp [hlt], h2, h3, fun _ => ⟨hN, hsz, by
            by_cases q : fz.1 = fz.2
            · simp [q]
            · have : (fz.1 == fz.2) = false := by simp [q]
              simp only [this]
              refine .inr ?_
              have : c.size ≤ fz.1 := by rcases hfz with r | r; exact absurd r q; exact r
              simp; omega, hex⟩⟩
        refine hw.forget rfl fun j o hj => ?_
        rw [Heap.get_put]
        split
        · rename_i e2; subst e2; rw [hg] at hj; exact hj
        · exact hj
    · cases hm
  unfold Sl.here at hh
  rw [Bool.and_eq_true] at hh
  obtain ⟨hc, hm⟩ := hh
  cases hr with
  | sn => simp at hm
  | sx id off len c b a hb hl ha =>
    have hc' : c ≠ 0 := by simpa using hc
    obtain rfl := ha hc'
    obtain ⟨w', r1, r2⟩ := key id b (b.off + off) hb hm
    exact ⟨_, _, _, w', rfl, r1, r2⟩
  | so id off len sz cap b a hb hl hcm hsz ha =>
    have hl' : len ≠ 0 := by simpa using hc
    obtain rfl := ha (by omega)
    obtain ⟨w', r1, r2⟩ := key id b (b.off + off) hb hm
    exact ⟨_, _, _, w', rfl, r1, r2⟩

theorem map_entries {b : Base} {es : List (V × V × Nat)} {clock : Nat} (h : ORel N ρ w b (.map es clock)) : ∃ l : List MapEntry, w.heap[b.blk]? = some (.map l.toArray clock) ∧ l.map (·.born) = es.map (·.2.2) ∧
    ∀ (j : Nat) (e : V × V × Nat), es[j]? = some e → ∃ x : MapEntry, l[j]? = some x ∧ Rel ρ e.1 x.key ∧ Rel ρ e.2.1 x.val ∧ x.born = e.2.2 := by
  obtain ⟨hN, l, h1, h2, h3⟩ := h
  refine ⟨l, h1, ?_, fun j e he => h3 j e.1 e.2.1 e.2.2 he⟩
  apply List.ext_getElem?
  intro k
  simp only [List.getElem?_map]
  by_cases hk : k < es.length
  · obtain ⟨y, hy, _, _, hyb⟩ := h3 k _ _ _ (List.getElem?_eq_getElem hk)
    rw [hy, List.getElem?_eq_getElem hk]; simp [hyb]
  · rw [List.getElem?_eq_none (by omega), List.getElem?_eq_none (by omega)]; rfl
theorem getMap_get {id : Nat} {mm : List (V × V × Nat) × Nat} (h : getMap H (some id) = some mm) : H.get id = some (.map mm.1 mm.2) := getMap_some h
theorem range_sound {R : Type} {r : R} {K : V → Heap → Option R} (h : HR N w0 ρ H w) {t kt vt : TypeId} {id : Nat} {b : Base} {mm : List (V × V × Nat) × Nat} (hb : ρ id = some b) (ht : P.underlying t = some (.map kt vt))
    (hg : getMap H (some id) = some mm) (hk : K (.p (some (H.next, 0))) (H.new (.miter (some id) mm.2 [] mm.2)) = some r) :
    (Instr.range t (.map (some b.blk))).run P w = .ok (.pointer (some ⟨w.heap.size, 0, none⟩)) (w.alloc (.mapIter (some b.blk) mm.2 #[] mm.2)) ∧ Post N w0 ρ K r (.pointer (some ⟨w.heap.size, 0, none⟩)) (w.alloc (.mapIter (some b.blk) mm.2 #[] mm.2)) := by
  obtain ⟨hN, l, h1, h2, h3⟩ := h.base (getMap_get hg) hb
  have hb' : (fun i => if i = H.next then some (⟨w.heap.size, 0, 0⟩ : Base) else ρ i) id = some b := by
    have := h.name_lt hb
    show (if id = H.next then _ else ρ id) = some b
    rw [if_neg (by omega)]; exact hb
  obtain ⟨g1, g2⟩ := h.alloc (.mapIter (some b.blk) mm.2 #[] mm.2) (.miter (some id) mm.2 [] mm.2) ⟨w.heap.size, 0, 0⟩ rfl ⟨h.nle, rfl, some b.blk, ⟨b, hb', rfl⟩, heap_alloc_new w _⟩ rfl
  refine ⟨by simp [Instr.range, run_underlying ht, run_getObj_map h1], _, _, _, g2, ?_, g1, hk⟩
  have : (fun i => if i = H.next then some (⟨w.heap.size, 0, 0⟩ : Base) else ρ i) H.next = some ⟨w.heap.size, 0, 0⟩ := by simp
  exact Rel.p (ρ := fun i => if i = H.next then some (⟨w.heap.size, 0, 0⟩ : Base) else ρ i) H.next 0 ⟨w.heap.size, 0, 0⟩ this
theorem next_sound {R : Type} {r : R} {K : V → Heap → Option R} (h : HR N w0 ρ H w) {i : Nat} {bi : Base} (hbi : ρ i = some bi) (ty : TypeId) (hk : nextV H i K = some r) :
    ∃ c w', (Instr.next (.pointer (some ⟨bi.blk, bi.off, none⟩)) false ty).run P w = .ok c w' ∧ Post N w0 ρ K r c w' := by
  unfold nextV at hk
  split at hk
  · rename_i id since seen stepped hi
    obtain ⟨mm, hg, hk⟩ := Option.bind_eq_some_iff.1 hk
    split at hk
    · rename_i hc
      obtain ⟨hold, hsc⟩ := hc
      obtain ⟨hNi, hoff, mb, ⟨bm, hbm, rfl⟩, hheap⟩ := h.base hi hbi
      obtain ⟨l, h1, hborn, hent⟩ := map_entries (h.base (getMap_get hg) hbm)
      have hlen : l.length = mm.1.length := by have := congrArg List.length hborn; simpa using this
      have hold' : ∀ x ∈ l.toArray.toList, x.born < since := fun x hx => by
        obtain ⟨j, hj⟩ := List.mem_iff_getElem?.1 (show x ∈ l by simpa using hx)
        have hjl : j < mm.1.length := by have := (List.getElem?_eq_some_iff.1 hj).1; omega
        obtain ⟨y, hy, _, _, hb⟩ := hent j _ (List.getElem?_eq_getElem hjl)
        rw [hj] at hy; cases hy
        rw [hb]
        have := List.all_eq_true.1 hold mm.1[j] (List.getElem_mem hjl)
        simpa using this
      rw [hoff]
      rcases run_next_at (P := P) w ty bi.blk bm.blk since stepped seen.toArray l.toArray mm.2 hheap h1 hold' hsc with ⟨hz, hrun⟩ | ⟨x, hx, w1, hw1, hrun⟩
      · -- nothing is left
        have hnil : mm.1.filter (fun e => !seen.contains e.2.2) = [] := by
          rw [List.filter_eq_nil_iff]
          intro e he
          obtain ⟨j, hj⟩ := List.mem_iff_getElem?.1 he
          obtain ⟨y, hy, _, _, hb⟩ := hent j e hj
          intro hne
          have hmem : y ∈ leftOf l.toArray seen.toArray := by
            unfold leftOf
            rw [Array.mem_filter]
            refine ⟨by simpa using List.mem_of_getElem? hy, ?_⟩
            rw [hb]; simpa using hne
          rw [Array.eq_empty_of_size_eq_zero hz] at hmem
          simp at hmem
        rw [hnil] at hk
        exact ⟨_, w, hrun, Post.same h (.tup [.b false] [.bool false] (.cons _ _ _ _ (.b false) .nil)) hk⟩
      · have hx' : x ∈ leftOf l.toArray seen.toArray := by simpa using hx
        unfold leftOf at hx'
        rw [Array.mem_filter] at hx'
        obtain ⟨hxl, hxs⟩ := hx'
        obtain ⟨j, hj⟩ := List.mem_iff_getElem?.1 (show x ∈ l by simpa using hxl)
        have hjl : j < mm.1.length := by have := (List.getElem?_eq_some_iff.1 hj).1; omega
        obtain ⟨y, hy, r1, r2, hb⟩ := hent j _ (List.getElem?_eq_getElem hjl)
        rw [hj] at hy; cases hy
        have hmem : mm.1[j] ∈ mm.1.filter (fun e => !seen.contains e.2.2) := by
          rw [List.mem_filter]
          refine ⟨List.getElem_mem hjl, ?_⟩
          rw [← hb]; simpa using hxs
        split at hk
        · rename_i hf; rw [hf] at hmem; cases hmem
        · rename_i e hf
          rw [hf] at hmem
          obtain rfl : mm.1[j] = e := by simpa using hmem
          have hh1 : HR N w0 ρ H w1 := by rcases hw1 with rfl | rfl; exact h; exact h.drawn _
          have hheap1 : w1.heap[bi.blk]? = w.heap[bi.blk]? := by rcases hw1 with rfl | rfl <;> rfl
          have hlt : bi.blk < w1.heap.size := by rw [hheap] at hheap1; exact (Array.getElem?_eq_some_iff.1 hheap1).1
          refine ⟨_, _, hrun, _, _, ρ, ρ.le_refl, .tup [.b true, mm.1[j].1, mm.1[j].2.1] [.bool true, x.key, x.val] (.cons _ _ _ _ (.b true) (.cons _ _ _ _ r1 (.cons _ _ _ _ r2 .nil))), ?_, hk⟩
          refine hh1.write hi hbi rfl rfl (by simp [ChangeMaps.setBlock]) rfl rfl rfl (fun k hk => ?_) ⟨hNi, hoff, some bm.blk, ⟨bm, hbm, rfl⟩, ?_⟩
          · simp only [ChangeMaps.setBlock, Array.getElem?_setIfInBounds]
            rw [if_neg (fun e => hk e.symm)]
          · simp only [ChangeMaps.setBlock, Array.getElem?_setIfInBounds, if_true]
            rw [if_pos hlt, hb]
            simp
        · cases hk
    · cases hk
  · cases hk
theorem uniqB_nodup : ∀ (l : List Nat), uniqB l = true → l.Nodup := by
  intro l
  induction l with
  | nil => intro _; exact List.nodup_nil
  | cons x xs ih =>
    intro h
    simp only [uniqB, Bool.and_eq_true] at h
    exact List.nodup_cons.2 ⟨by simpa using h.1, ih h.2⟩
theorem entry_sound {R : Type} {r : R} {K : V → Heap → Option R} (h : HR N w0 ρ H w) {i : Nat} {bi : Base} (hbi : ρ i = some bi) (hk : entryV H i K = some r) :
    ∃ c, (Instr.entry (.pointer (some ⟨bi.blk, bi.off, none⟩))).run P w = .ok c w ∧ Post N w0 ρ K r c w := by
  unfold entryV at hk
  split at hk
  · rename_i id since seen stepped hi
    obtain ⟨mm, hg, hk⟩ := Option.bind_eq_some_iff.1 hk
    split at hk
    · rename_i hc
      obtain ⟨hclk, hun⟩ := hc
      split at hk
      · rename_i bn rest hrev
        split at hk
        · rename_i e hfind
          have he := List.mem_of_find?_eq_some hfind
          have heb : e.2.2 = bn := by have := List.find?_some hfind; simpa using this
          have hseen : seen = rest.reverse ++ [e.2.2] := by
            have := congrArg List.reverse hrev
            simpa [heb] using this
          obtain ⟨hNi, hoff, mb, ⟨bm, hbm, rfl⟩, hheap⟩ := h.base hi hbi
          obtain ⟨l, h1, hborn, hent⟩ := map_entries (h.base (getMap_get hg) hbm)
          obtain ⟨j, hj⟩ := List.mem_iff_getElem?.1 he
          obtain ⟨x, hx, r1, r2, hb⟩ := hent j e hj
          have hheap' : w.heap[bi.blk]? = some (.mapIter (some bm.blk) since (rest.reverse.toArray.push x.born) mm.2) := by rw [hheap, hseen, hb, hclk]; simp
          have hrun := run_entry_at (P := P) w bi.blk bm.blk since rest.reverse.toArray l.toArray mm.2 x hheap' h1 (by simpa using List.mem_of_getElem? hx) (by simpa [hborn] using uniqB_nodup _ hun)
          rw [hoff]
          exact ⟨_, hrun, Post.same h (.tup [e.1, e.2.1] [x.key, x.val] (.cons _ _ _ _ r1 (.cons _ _ _ _ r2 .nil))) hk⟩
        · cases hk
      · cases hk
    · cases hk
  · cases hk
theorem evOp_sound {R : Type} {r : R} {E : FEnv} (hE : EnvOK P E) (h : HR N w0 ρ H w) {val : Operand → Option V} {e : Operand → Value} (hv : ∀ x v, val x = some v → Rel ρ v (e x)) (o : Oper) {K : V → Heap → Option R}
    (hk : evOp P E val H o.op o.type K = some r) : Does P w (execOp e o) (Post N w0 ρ K r) := by
  obtain ⟨dst, op, ty, pos, after, guard⟩ := o
  simp only at hk
  cases op with
  | move x =>
    obtain ⟨v, h1, h2⟩ := Option.bind_eq_some_iff.1 hk
    exact .inl ⟨_, w, rfl, Post.same h (hv _ _ h1) h2⟩
  | assign x =>
    obtain ⟨v, h1, h2⟩ := Option.bind_eq_some_iff.1 hk
    exact .inl ⟨_, w, rfl, Post.same h (hv _ _ h1) h2⟩
  | pick c a b =>
    obtain ⟨vc, c1, h4⟩ := Option.bind_eq_some_iff.1 hk
    have hc := hv _ _ c1
    cases vc with
    | b x =>
      generalize hcx : e c = cx at hc
      cases hc
      have run : (execOp e ⟨dst, .pick c a b, ty, pos, after, guard⟩).run P w = .ok (.value (if x then e a else e b)) w := by
        simp [execOp, hcx, asBool]
      simp only at h4
      split at h4
      · rename_i p q hpa hqb
        refine .inl ⟨_, w, run, Post.same h ?_ h4⟩
        cases x
        · simpa [selB] using hv _ _ hqb
        · simpa [selB] using hv _ _ hpa
      · rcases sel_some h4 with ⟨rfl, h5⟩ | ⟨rfl, h5⟩
        · obtain ⟨va, a1, h6⟩ := Option.bind_eq_some_iff.1 h5
          exact .inl ⟨_, w, run, Post.same h (hv _ _ a1) h6⟩
        · obtain ⟨vb, b1, h6⟩ := Option.bind_eq_some_iff.1 h5
          exact .inl ⟨_, w, run, Post.same h (hv _ _ b1) h6⟩
    | _ => cases h4
  | alloc el =>
    obtain ⟨z, h1, h2⟩ := Option.bind_eq_some_iff.1 hk
    obtain ⟨x, hx, hr, _⟩ := zeroV_sound (ρ := ρ) h1
    have hc := hr.cells
    refine does_val (c := .pointer (some ⟨w.heap.size, 0, none⟩)) (w' := w.alloc (.cells x.cells el)) (by simp [Instr.alloc, hx w, newVar, newRow]) ?_
    have := new_post (K := K) (e := el) h hc h2 (c := .pointer (some ⟨w.heap.size, 0, none⟩)) fun ρ' hρ => .p _ _ _ hρ
    simpa using this
  | box el x =>
    obtain ⟨v, h1, h2⟩ := Option.bind_eq_some_iff.1 hk
    have hr := hv _ _ h1
    refine does_val (c := .pointer (some ⟨w.heap.size, 0, none⟩)) (w' := w.alloc (.cells (e x).cells el)) (by simp [Instr.box, newVar, newRow]) ?_
    have := new_post (K := K) (e := el) h hr.cells h2 (c := .pointer (some ⟨w.heap.size, 0, none⟩)) fun ρ' hρ => .p _ _ _ hρ
    simpa using this
  | build t parts =>
    obtain ⟨c, h1, h2⟩ := ev_build h hv hk
    exact does_val h1 h2
  | buildSlice t len parts =>
    obtain ⟨c, w', h1, h2⟩ := ev_buildSlice h hv hk
    exact does_val h1 h2
  | insert t m k x =>
    obtain ⟨vm, m1, h2⟩ := Option.bind_eq_some_iff.1 hk
    obtain ⟨vk, k1, h3⟩ := Option.bind_eq_some_iff.1 h2
    obtain ⟨vx, x1, h4⟩ := Option.bind_eq_some_iff.1 h3
    obtain ⟨w', e1, e2⟩ := mapSet_sound h (hv _ _ m1) (hv _ _ k1) (hv _ _ x1) h4
    exact does_unit e1 e2
  | mapUpdate t m k x =>
    obtain ⟨vm, m1, h2⟩ := Option.bind_eq_some_iff.1 hk
    obtain ⟨vk, k1, h3⟩ := Option.bind_eq_some_iff.1 h2
    obtain ⟨vx, x1, h4⟩ := Option.bind_eq_some_iff.1 h3
    obtain ⟨w', e1, e2⟩ := mapSet_sound h (hv _ _ m1) (hv _ _ k1) (hv _ _ x1) h4
    exact does_unit e1 e2
  | load t a =>
    obtain ⟨v, h1, h2⟩ := Option.bind_eq_some_iff.1 hk
    obtain ⟨c, e1, e2⟩ := ev_load h (hv _ _ h1) h2
    exact does_val e1 e2
  | store t a x =>
    obtain ⟨v, h1, h2⟩ := Option.bind_eq_some_iff.1 hk
    obtain ⟨u, h3, h4⟩ := Option.bind_eq_some_iff.1 h2
    obtain ⟨w', e1, e2⟩ := ev_store h (hv _ _ h1) (hv _ _ h3) h4
    exact does_unit e1 e2
  | nilCheck x =>
    obtain ⟨v, h1, h2⟩ := Option.bind_eq_some_iff.1 hk
    have hr := hv _ _ h1
    unfold nilCk at h2
    split at h2
    · obtain ⟨q, h5, h6⟩ := Option.bind_eq_some_iff.1 h2
      subst h5
      exact .inl ⟨e x, w, nilCheck_ok hr rfl rfl (.inl ⟨_, rfl⟩), Post.same h hr h6⟩
    · rename_i name rcv c
      split at h2
      · rename_i hn
        refine .inl ⟨e x, w, ?_, Post.same h hr h2⟩
        generalize hx : e x = cx at hr
        cases hr with
        | fn _ _ _ xs ys r1 r2 =>
        obtain ⟨rx, rfl, hrx⟩ := rels_one r1
        obtain ⟨t, y, rfl, hna⟩ := methNotNil_sound (P := P) (w := w) hn hrx (P.types.size + Made.depth - 1)
        have hd : P.types.size + Made.depth - 1 + 1 = P.types.size + Made.depth := by simp [Made.depth]
        rw [hd] at hna
        simp only [execOp, hx]
        simp only [show ([Value.iface t y].toArray[0]? : Option Value) = some (.iface t y) from rfl, Sem.run_bind, run_program, Result.andThen_ok, hna]
        simp
      · cases h2
    · split at h2
      · rename_i hn
        refine .inl ⟨e x, w, nilCheck_ok hr rfl rfl ?_, Post.same h hr h2⟩
        unfold notNil at hn
        split at hn
        · exact .inr (.inl ⟨_, _, rfl⟩)
        · exact .inr (.inr ⟨_, _, _, rfl⟩)
        · cases hn
      · cases h2
  | binOp op t x y yt =>
    obtain ⟨a, h1, h2⟩ := Option.bind_eq_some_iff.1 hk
    obtain ⟨b, h3, h4⟩ := Option.bind_eq_some_iff.1 h2
    obtain ⟨v, c, e1, e2, e3⟩ := evBin_sound (P := P) h4 (hv _ _ h1) (hv _ _ h3) x y (fun hc => hc) w
    exact does_val e1 (Post.same h e2 e3)
  | unOp op t x =>
    obtain ⟨v, h1, h2⟩ := Option.bind_eq_some_iff.1 hk
    have hr := hv _ _ h1
    split at h2
    · obtain ⟨p, h3, h4⟩ := Option.bind_eq_some_iff.1 h2
      obtain rfl := V.asB_eq h3
      generalize hx : e x = cx at hr
      cases hr
      exact does_val (c := .bool (!p)) (by rw [hx]; rfl) (Post.same h (.b _) h4)
    · split at h2
      · obtain ⟨p, h3, h4⟩ := Option.bind_eq_some_iff.1 h2
        obtain rfl := V.asI_eq h3
        generalize hx : e x = cx at hr
        cases hr
        exact does_val (c := .int _ _) (by rw [hx]; rfl) (Post.same h (.i _ _) h4)
      · cases h2
    · split at h2
      · obtain ⟨p, h3, h4⟩ := Option.bind_eq_some_iff.1 h2
        obtain rfl := V.asI_eq h3
        generalize hx : e x = cx at hr
        cases hr
        exact does_val (c := .int _ _) (by rw [hx]; rfl) (Post.same h (.i _ _) h4)
      · cases h2
    · cases h2
  | convert src dst x =>
    obtain ⟨v, h1, h2⟩ := Option.bind_eq_some_iff.1 hk
    have hr := hv _ _ h1
    split at h2
    · rename_i k0 k hs hd
      obtain ⟨p, h3, h4⟩ := Option.bind_eq_some_iff.1 h2
      obtain rfl := V.asI_eq h3
      generalize hx : e x = cx at hr
      cases hr
      exact does_val (c := .int k (k.wrap p)) (w' := w) (by rw [hx]; simp [convert, run_underlying hs, run_underlying hd, Conv.intToInt]) (Post.same h (.i _ _) h4)
    · rename_i hs hd
      obtain ⟨p, h3, h4⟩ := Option.bind_eq_some_iff.1 h2
      obtain rfl := V.asS_eq h3
      generalize hx : e x = cx at hr
      cases hr
      exact does_val (c := .string p) (w' := w) (by rw [hx]; simp [convert, run_underlying hs, run_underlying hd]) (Post.same h (.s _) h4)
    · rename_i el hs hd
      split at h2
      · rename_i hel hxe
        obtain ⟨p, h3, h4⟩ := Option.bind_eq_some_iff.1 h2
        obtain rfl := V.asS_eq h3
        split at h4
        · rename_i hsz
          generalize hx : e x = cx at hr
          cases hr
          have hge := grownCap_ge w p.size 0 el
          have hcm := grownCap_le_maxLen w p.size 0 el (by unfold maxLen; omega)
          have hconv : (convert src dst (.string p)).run P w = (Conv.stringToBytes el p).run P w := by simp [convert, run_underlying hs, run_underlying hd, run_underlying hel]
          obtain ⟨w', ρ', g1, g2, g3, g4⟩ := strBytes_sound (P := P) h p el hge hcm hxe
          exact does_val (by rw [hx]; exact hconv.trans g1) ⟨_, _, ρ', g2, g3, g4, h4⟩
        · cases h4
      · cases h2
    · rename_i el hs hd
      split at h2
      · rename_i hel
        obtain ⟨p, h3, h4⟩ := Option.bind_eq_some_iff.1 h2
        obtain rfl := V.asSl_eq h3
        obtain ⟨s, h5, h6⟩ := Option.bind_eq_some_iff.1 h4
        unfold slBytes at h5
        obtain ⟨vs, h7, h8⟩ := Option.bind_eq_some_iff.1 h5
        obtain ⟨l, h9, h10⟩ := Option.bind_eq_some_iff.1 h8
        simp at h10; subst h10
        obtain ⟨a, cap, xs, hxe, x1, x2, x3⟩ := slCells_sound h h7 hr
        obtain ⟨ns, rfl, rfl⟩ := bytesOfCells_sound _ _ _ x1 h9
        refine does_val (c := .string ⟨(ns.map fun n => UInt8.ofNat n.toNat).toArray⟩) (w' := w) ?_ (Post.same h (.s _) h6)
        rw [hxe] at x3 ⊢
        rw [run_convert_bytes_string w src dst el a _ _ hs hel hd]
        have x4 := x3 w rfl
        cases a with
        | none =>
          simp [Builtin.firstCells] at x4
          subst x4
          simp [Conv.bytesToString]
          rfl
        | some a =>
          simp only [Builtin.firstCells, Nat.mul_one] at x4
          rw [run_bytesToString w a _ _ ns x4, foldl_push]
          rfl
      · cases h2
    · rename_i el0 el hs hd
      split at h2
      · rename_i hel
        obtain ⟨p, h3, h4⟩ := Option.bind_eq_some_iff.1 h2
        obtain rfl := V.asSl_eq h3
        split at h4
        · rename_i hc
          obtain ⟨rfl, hh⟩ := hc
          obtain ⟨a, len, cap, w', e1, e2, e3⟩ := mark_sound (P := P) h hr hh
          refine does_val (c := e x) (w' := w') ?_ ⟨_, _, ρ, ρ.le_refl, hr, e3, h4⟩
          obtain rfl : el0 = el := by rw [hs] at hd; simpa using hd
          rw [e1]
          simp [convert, run_underlying hs, run_underlying hd, run_underlying hel, e2]
        · cases h4
      · cases h2
    · cases h2
  | makeInterface t x =>
    obtain ⟨v, h1, h2⟩ := Option.bind_eq_some_iff.1 hk
    split at h2
    · cases h2
    · rename_i d hni hu
      refine does_val (c := .iface t (e x)) (w' := w) ?_ (Post.same h (.ifc _ _ _ (hv _ _ h1)) h2)
      unfold Instr.makeInterface
      simp only [Sem.run_bind, run_underlying hu, Result.andThen_ok]
      cases d <;> first | rfl | (exact absurd rfl (hni _))
    · cases h2
  | makeFunc fn first captured =>
    obtain ⟨a, h1, h2⟩ := Option.bind_eq_some_iff.1 hk
    obtain ⟨c, h3, h4⟩ := Option.bind_eq_some_iff.1 h2
    have r1 := evalL_sound hv _ _ h1
    have r2 := evalL_sound hv _ _ h3
    refine does_val (c := .func fn (first.map e) (captured.map e)) (w' := w) rfl (Post.same h ?_ h4)
    have := Rel.fn (ρ := ρ) fn a c _ _ r1 r2
    have e1 : (first.toList.map e).toArray = first.map e := by apply Array.ext'; simp
    have e2 : (captured.toList.map e).toArray = captured.map e := by apply Array.ext'; simp
    rw [e1, e2] at this
    exact this
  | makeMap t rsv =>
    have fin : ∀ {s : Sem Value}, s.run P w = .ok (.map (some w.heap.size)) (w.alloc (.map #[] 0)) → K (.m (some H.next)) (H.new (.map [] 0)) = some r → Does P w (do pure (.value (← s))) (Post N w0 ρ K r) := by
      intro s hs hkk
      refine does_val hs ?_
      have hal := h.alloc (.map #[] 0) (.map [] 0) ⟨w.heap.size, 0, 0⟩ rfl ⟨h.nle, [], heap_alloc_new w _, rfl, fun j k v born hj => by simp at hj⟩ rfl
      exact ⟨_, _, _, hal.2, .m _ ⟨w.heap.size, 0, 0⟩ (by simp), hal.1, hkk⟩
    cases rsv with
    | none => exact fin (s := Instr.makeMap t none) (by simp [Instr.makeMap]) hk
    | some x =>
      obtain ⟨v, h1, h2⟩ := Option.bind_eq_some_iff.1 hk
      have hr := hv _ _ h1
      split at h2
      · rename_i kk n kt et hu
        generalize hx : e x = cx at hr
        cases hr
        refine fin (s := Instr.makeMap t (some (e x))) ?_ h2
        rw [hx]
        simp [Instr.makeMap, run_underlying hu, asInt, asIntOf]
      · cases h2
  | makeSlice t l c =>
    obtain ⟨vl, h1, h2⟩ := Option.bind_eq_some_iff.1 hk
    obtain ⟨vc, h3, h4⟩ := Option.bind_eq_some_iff.1 h2
    have r1 := hv _ _ h1
    have r2 := hv _ _ h3
    split at h4
    · rename_i kl l' kc c' el hu
      split at h4
      · cases h4
      rename_i hd0
      obtain ⟨d, hd⟩ := under_of hd0
      split at h4
      · rename_i hb
        obtain ⟨b0, b1, b2, b3⟩ := hb
        generalize hx : e l = cl at r1
        generalize hy : e c = cc at r2
        cases r1; cases r2
        obtain ⟨x, w', e1, e2⟩ := ev_makeSlice h hu hd b0 b1 b2 b3 h4 (kl := kl) (kc := kc)
        exact does_val (s := Instr.makeSlice t (e l) (e c)) (by rw [hx, hy]; exact e1) e2
      · cases h4
    · cases h4
  | slice t x lo hi mx =>
    obtain ⟨v, h1, h2⟩ := Option.bind_eq_some_iff.1 hk
    obtain ⟨l, h3, h4⟩ := Option.bind_eq_some_iff.1 h2
    obtain ⟨hh, h5, h6⟩ := Option.bind_eq_some_iff.1 h4
    obtain ⟨m, h7, h8⟩ := Option.bind_eq_some_iff.1 h6
    obtain ⟨c, e1, e2⟩ := ev_slice h (hv _ _ h1) (intOpt_sound hv h3) (intOpt_sound hv h5) (intOpt_sound hv h7) h8
    exact does_val e1 e2
  | fieldAddr s x f =>
    obtain ⟨v, h1, h2⟩ := Option.bind_eq_some_iff.1 hk
    have hr := hv _ _ h1
    split at h2
    · rename_i fs hu
      split at h2
      · rename_i fd hfd
        split at h2
        · cases h2
        rename_i hsz
        cases v with
        | p q =>
          obtain ⟨q, h3, h4⟩ := Option.bind_eq_some_iff.1 h2
          subst h3
          obtain ⟨b, hb, hx⟩ := hr.p'
          refine does_val (c := .pointer (some ⟨b.blk, b.off + (q.2 + fd.offset), none⟩)) (w' := w) ?_ (Post.same h (.p _ _ b hb) h4)
          have hsz' : (sizeOf fd.type).run P w = .ok (P.cellsOf fd.type) w := by
            cases hi : P.info? fd.type with
            | none => simp [Program.cellsOf, hi] at hsz
            | some i => simp [sizeOf, typeInfo, hi, Program.cellsOf]
          have hfd' : fs[f]? = some fd := by simpa using hfd
          rw [hx]
          simp [Instr.fieldAt, run_underlying hu, hfd', Instr.sureAddr, fieldPlace, hsz', hsz, Addr.add_lit, Nat.add_assoc]
        | _ => cases h2
      · cases h2
    · cases h2
  | field t x f =>
    obtain ⟨v, h1, h2⟩ := Option.bind_eq_some_iff.1 hk
    have hr := hv _ _ h1
    split at h2
    · rename_i fs hu
      split at h2
      · rename_i fd hfd
        obtain ⟨cs, h3, h4⟩ := Option.bind_eq_some_iff.1 h2
        obtain rfl := V.asAgg_eq h3
        generalize hx : e x = cx at hr
        cases hr with
        | agg _ xs hrs =>
        obtain ⟨u, y, e1, e2, e3⟩ := partV_sound hrs h4
        have hfd' : fs[f]? = some fd := by simpa using hfd
        refine does_val (c := y) (w' := w) ?_ (Post.same h e2 e3)
        rw [hx]
        simp [Instr.field, run_underlying hu, hfd', asAgg, e1]
      · cases h2
    · cases h2
  | indexAddr t x ix =>
    obtain ⟨v, h1, h2⟩ := Option.bind_eq_some_iff.1 hk
    obtain ⟨i, h3, h4⟩ := Option.bind_eq_some_iff.1 h2
    obtain ⟨c, e1, e2⟩ := ev_indexAddr h (hv _ _ h1) (hv _ _ h3) h4
    exact does_val e1 e2
  | index t x ix =>
    obtain ⟨v, h1, h2⟩ := Option.bind_eq_some_iff.1 hk
    obtain ⟨i, h3, h4⟩ := Option.bind_eq_some_iff.1 h2
    obtain ⟨c, e1, e2⟩ := ev_index h (hv _ _ h1) (hv _ _ h3) h4
    exact does_val e1 e2
  | lookup t m k ok =>
    obtain ⟨v, h1, h2⟩ := Option.bind_eq_some_iff.1 hk
    obtain ⟨i, h3, h4⟩ := Option.bind_eq_some_iff.1 h2
    obtain ⟨c, e1, e2⟩ := ev_lookup h (hv _ _ h1) (hv _ _ h3) h4
    exact does_val e1 e2
  | mapEntry t m k =>
    obtain ⟨v, h1, h2⟩ := Option.bind_eq_some_iff.1 hk
    obtain ⟨i, h3, h4⟩ := Option.bind_eq_some_iff.1 h2
    obtain ⟨c, w', e1, e2⟩ := ev_mapEntry h (hv _ _ h1) (hv _ _ h3) h4
    exact does_val e1 e2
  | entryStore t m s x =>
    obtain ⟨vm, m1, h2⟩ := Option.bind_eq_some_iff.1 hk
    obtain ⟨vs, s1, h3⟩ := Option.bind_eq_some_iff.1 h2
    obtain ⟨vx, x1, h4⟩ := Option.bind_eq_some_iff.1 h3
    obtain ⟨w', e1, e2⟩ := ev_entryStore (t := t) h (hv _ _ m1) (hv _ _ s1) (hv _ _ x1) h4
    exact does_unit e1 e2
  | extract t i =>
    obtain ⟨v, h1, h2⟩ := Option.bind_eq_some_iff.1 hk
    have hr := hv _ _ h1
    split at h2
    · rename_i vs
      split at h2
      · rename_i u hu
        generalize hx : e t = cx at hr
        cases hr with
        | tup _ xs hrs =>
        obtain ⟨y, hy, hyr⟩ := hrs.get _ _ hu
        refine does_val (c := y) (w' := w) ?_ (Post.same h hyr h2)
        rw [hx]
        simp [Instr.extract, hy]
      · cases h2
    · cases h2
  | call c =>
    obtain ⟨callee, cargs, cts⟩ := c
    obtain ⟨args, h1, h2⟩ := Option.bind_eq_some_iff.1 hk
    have hargs := evalL_sound hv _ _ h1
    simp only at h2 hargs
    cases callee with
    | builtin b =>
      obtain ⟨x, w', e1, e2⟩ := evBuiltin_sound h hargs h2 ty (cargs.map fun | .const _ => true | _ => false)
      refine .inl ⟨x, w', ?_, e2⟩
      rw [arr_map] at e1
      simp only [execOp, resolve, Sem.run_bind, Sem.run_pure, Result.andThen_ok, invoke]
      exact e1
    | invoke rcv name =>
      obtain ⟨v, h3, h4⟩ := Option.bind_eq_some_iff.1 h2
      have hr := hv _ _ h3
      unfold invk at h4
      split at h4
      · rename_i t x
        split at h4
        · rename_i f rv hm
          generalize hx : e rcv = cx at hr
          cases hr with
          | ifc _ _ y hy =>
          obtain ⟨rx, r1, r2⟩ := methodV_sound (P := P) (w := w) hm hy (P.types.size + Made.depth - 1)
          have hd : P.types.size + Made.depth - 1 + 1 = P.types.size + Made.depth := by simp [Made.depth]
          rw [hd] at r2
          have := (call_sound h hE h4 (.cons _ _ _ _ r1 hargs)).post fun c w' ⟨v, H', ρ', q1, q2, q3, q4⟩ => (⟨v, H', ρ', q1, q2, q3, exR_sound q4⟩ : Post N w0 ρ K r c w')
          have hrun : (execOp e ⟨dst, .call ⟨.invoke rcv name, cargs, cts⟩, ty, pos, after, guard⟩).run P w = (callFunc f (#[rx] ++ cargs.map e)).run P w := by
            simp only [execOp, resolve, Sem.run_bind, Sem.run_pure, Result.andThen_ok, invoke, hx, cons_get, cons_extract]
            simp only [callMethod, Sem.run_bind, run_program, Result.andThen_ok, r2]
          have harr : (rx :: cargs.toList.map e).toArray = #[rx] ++ cargs.map e := by
            apply Array.ext'; simp
          rw [harr] at this
          unfold Does at this ⊢
          rw [hrun]
          exact this
        · cases h4
      · cases h4
    | value f =>
      obtain ⟨v, h3, h4⟩ := Option.bind_eq_some_iff.1 h2
      have hr := hv _ _ h3
      unfold callV at h4
      split at h4
      · rename_i g first captured
        generalize hx : e f = cx at hr
        cases hr with
        | fn _ _ _ xs ys r1 r2 =>
        have := (call_sound h hE h4 ((r1.append hargs).append r2)).post fun c w' ⟨v, H', ρ', q1, q2, q3, q4⟩ => (⟨v, H', ρ', q1, q2, q3, exR_sound q4⟩ : Post N w0 ρ K r c w')
        have hrun : (execOp e ⟨dst, .call ⟨.value f, cargs, cts⟩, ty, pos, after, guard⟩).run P w = (callFunc g (xs.toArray ++ cargs.map e ++ ys.toArray)).run P w := by
          simp only [execOp, resolve, Sem.run_bind, hx, Deferred.ofValue, Sem.run_pure, Result.andThen_ok, invoke]
        have harr : (xs ++ cargs.toList.map e ++ ys).toArray = xs.toArray ++ cargs.map e ++ ys.toArray := by
          apply Array.ext'; simp
        rw [harr] at this
        unfold Does at this ⊢
        rw [hrun]
        exact this
      · cases h4
  | range t x =>
    obtain ⟨v, h1, h2⟩ := Option.bind_eq_some_iff.1 hk
    split at h2
    · rename_i kt vt hu
      obtain ⟨r0, h3, h4⟩ := Option.bind_eq_some_iff.1 h2
      obtain rfl := V.asM_eq h3
      obtain ⟨id, h5, h6⟩ := Option.bind_eq_some_iff.1 h4
      cases h5
      obtain ⟨mm, h7, h8⟩ := Option.bind_eq_some_iff.1 h6
      obtain ⟨b, hb, hx⟩ := (hv _ _ h1).m'
      obtain ⟨e1, e2⟩ := range_sound h hb hu h7 h8
      exact does_val (by rw [hx]; exact e1) e2
    · cases h2
  | next it s =>
    cases s with
    | true => cases hk
    | false =>
      obtain ⟨v, h1, h2⟩ := Option.bind_eq_some_iff.1 hk
      obtain ⟨p, h3, h4⟩ := Option.bind_eq_some_iff.1 h2
      obtain rfl := V.asP_eq h3
      obtain ⟨q, h5, h6⟩ := Option.bind_eq_some_iff.1 h4
      cases h5
      split at h6
      · rename_i hq
        obtain ⟨i, o⟩ := q
        simp only at hq; subst hq
        obtain ⟨b, hb, hx⟩ := (hv _ _ h1).p'
        rw [Nat.add_zero] at hx
        obtain ⟨c, w', e1, e2⟩ := next_sound (P := P) h hb ty h6
        exact does_val (by rw [hx]; exact e1) e2
      · cases h6
  | entry it =>
    obtain ⟨v, h1, h2⟩ := Option.bind_eq_some_iff.1 hk
    obtain ⟨p, h3, h4⟩ := Option.bind_eq_some_iff.1 h2
    obtain rfl := V.asP_eq h3
    obtain ⟨q, h5, h6⟩ := Option.bind_eq_some_iff.1 h4
    cases h5
    split at h6
    · rename_i hq
      obtain ⟨i, o⟩ := q
      simp only at hq; subst hq
      obtain ⟨b, hb, hx⟩ := (hv _ _ h1).p'
      rw [Nat.add_zero] at hx
      obtain ⟨c, e1, e2⟩ := entry_sound (P := P) h hb h6
      exact does_val (by rw [hx]; exact e1) e2
    · cases h6
  | _ => cases hk

end
end Go.Proofs.YteipplgcdbaokaaDoor.AM
