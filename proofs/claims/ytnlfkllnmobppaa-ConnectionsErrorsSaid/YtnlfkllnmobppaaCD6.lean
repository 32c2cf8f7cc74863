/- A desk in the heap: New, Take, Events, Open; Request, Confirm, Refuse, Send, Release. -/
import Derived.Test.YtnlfkllnmobppaaCD5
namespace Go.Proofs.Ytnlfkllnmobppaa
open Go AM Go.RowKit
set_option linter.unusedVariables false
set_option linter.unusedSimpArgs false

/-- a desk that is not too big -/
structure Dk.Bd (D : Dk) : Prop where
  w : 0 < D.w
  o : D.out.length ≤ 10000000
  e : D.evs.length ≤ 10000000
  f : D.fro.length ≤ 10000000
/-- letters that were taken -/
structure LRow (n0 : Nat) (H : Heap) (r : Sl) (os : List (Lt × Sl)) : Prop where
  len : r.len = os.length
  cap : r.cap = .ex r.len
  at' : os ≠ [] → ∃ q, r.a = some (q, 0) ∧ H.get q = some (.cells (rows lts os) 71 false)
  dat : ∀ z ∈ os, Dat n0 H z.2 z.1.m.d
structure ERow (n0 : Nat) (H : Heap) (r : Sl) (es : List (Et × Sl)) : Prop where
  len : r.len = es.length
  cap : r.cap = .ex r.len
  at' : es ≠ [] → ∃ q, r.a = some (q, 0) ∧ H.get q = some (.cells (rows ets es) 60 false)
  dat : ∀ z ∈ es, Dat n0 H z.2 z.1.d
theorem own_obj {H : Heap} {e : TypeId} {sz : Nat} {s : Sl} {l : List V} (h : Own H e sz s l) (hl : l ≠ []) : ∃ q, s.a = some (q, 0) ∧ H.get q = some (.cells l e false) := by
  rcases h.inv with ⟨_, e⟩ | ⟨id, n, rfl, g, _⟩
  · exact absurd e hl
  · exact ⟨id, rfl, g⟩
theorem rows_ne {α : Type} {f : α → List V} {n : Nat} (hf : ∀ a, (f a).length = n) (hn : 0 < n) {l : List α} (h : l ≠ []) : rows f l ≠ [] := fun e => by
  have := rows_len f hf l
  rw [e, List.length_nil] at this
  have h2 : l.length ≠ 0 := by simpa using h
  have := Nat.mul_pos (Nat.pos_of_ne_zero h2) hn
  omega
section
variable {n0 : Nat} {H : Heap} {x : Nat} {F : Nat → Prop} {D : Dk} {p : Nat} {s : Sc} {us : List Pz}
theorem min_if (a b : Int) : (if b < a then b else a) < 1 ↔ (a < 1 ∨ b < 1) := by split <;> omega
theorem max_if (a b c : Int) : (if b > a then b else a) > c ↔ (a > c ∨ b > c) := by split <;> omega
/-- New -/
theorem s31_arg {w wt idl fz : Int} (h : w < 1 ∨ wt < 1 ∨ idl < 1 ∨ fz < 1) {R : Type} (K : Option (Nat × Nat) → Int → Heap → Option R) : g31 R w wt idl fz H K = K none 1 H := by
  simp only [g31, g31_r, g31_p0]
  rw [decide_eq_true (by rw [min_if, min_if, min_if]; omega), sel_true]
theorem s31_lim {w wt idl fz : Int} (h : ¬(w < 1 ∨ wt < 1 ∨ idl < 1 ∨ fz < 1)) (h2 : w > 63 ∨ wt > 1048576 ∨ idl > 1048576 ∨ fz > 1048576) {R : Type} (K : Option (Nat × Nat) → Int → Heap → Option R) : g31 R w wt idl fz H K = K none 3 H := by
  simp only [g31, g31_r, g31_p0]
  rw [decide_eq_false (by rw [min_if, min_if, min_if]; omega), sel_false, selD]
  by_cases h3 : w > 63
  · rw [if_pos h3]
  · rw [if_neg h3, decide_eq_true (by rw [max_if, max_if]; omega), sel_true]
theorem s31_ok (hw : H.Wf) (hn : n0 ≤ H.next) {w wt idl fz : Int} (h : 1 ≤ w ∧ 1 ≤ wt ∧ 1 ≤ idl ∧ 1 ≤ fz) (h2 : w ≤ 63 ∧ wt ≤ 1048576 ∧ idl ≤ 1048576 ∧ fz ≤ 1048576) :
    ∃ H', (∀ (R : Type) (K : Option (Nat × Nat) → Int → Heap → Option R), g31 R w wt idl fz H K = K (some (H.next + 2, 0)) 0 H') ∧ DA n0 H' (H.next + 2) (fun i => H.next ≤ i ∧ i < H'.next) { w := w, wt := wt, idl := idl, fz := fz } ∧ Ext H H' ∧ H'.Wf := by
  have w1 := hw.new (.map [] 0)
  have w2 := w1.new (.map [] 0)
  have w3 := w2.new (.cells [(V.i .i64 w), (V.i .i64 wt), (V.i .i64 idl), (V.i .i64 fz), (V.i .u32 (0 : Int)), (V.m (some H.next)), (V.m (some (H.next + 1))), (V.sl nilS), (V.sl nilS)] 90 false)
  have x3 := ((Ext.new H (.map [] 0)).trans (Ext.new _ (.map [] 0))).trans (Ext.new ((H.new (.map [] 0)).new (.map [] 0)) (.cells [(V.i .i64 w), (V.i .i64 wt), (V.i .i64 idl), (V.i .i64 fz), (V.i .u32 (0 : Int)), (V.m (some H.next)), (V.m (some (H.next + 1))), (V.sl nilS), (V.sl nilS)] 90 false))
  refine ⟨_, fun R K => ?_, ⟨⟨w, wt, idl, fz, 0, H.next, H.next + 1, nilS, nilS, [], 0, [], 0, [], []⟩, ⟨w3, Heap.gnew _ _, ?_, ?_, fun u hu => (by cases hu), .nil, .nil, by simp, List.nodup_nil, List.nodup_nil, List.nodup_nil, fun u hu => (by cases hu), List.nodup_nil, fun u hu => (by cases hu), List.nodup_nil, fun u hu => (by cases hu), fun u hu => (by cases hu), ⟨h.2.2.2, h2.2.2.2⟩, ⟨Int.le_refl 0, by show (0 : Int) ≤ 8191; omega⟩, fun u hu => (by cases hu), fun u hu => (by cases hu), fun i hi => ?_⟩, rfl, fun i hi => ?_⟩, x3, w3⟩
  · simp only [g31, g31_r, g31_p0]
    rw [decide_eq_false (by rw [min_if, min_if, min_if]; omega), sel_false, decide_eq_false (by omega), sel_false, decide_eq_false (by rw [max_if, max_if]; omega), sel_false]
    rfl
  · rw [Heap.get_new, if_neg (by simp; omega), Heap.get_new, if_neg (by simp)]; exact Heap.gnew _ _
  · rw [Heap.get_new, if_neg (by simp)]; exact Heap.gnew (H.new (.map [] 0)) _
  · rcases hi with rfl | rfl | rfl | ⟨u, hu, _⟩ | hs | hs
    · omega
    · exact hn
    · simp only; omega
    · cases hu
    · cases hs
    · cases hs
  · rcases hi with rfl | rfl | rfl | ⟨u, hu, _⟩ | hs | hs
    · simp
    · simp; omega
    · simp
    · cases hu
    · cases hs
    · cases hs
/-- Take -/
theorem s24 (h : DA n0 H x F D) (hw : 0 < D.w) : ∃ r H' os, (∀ (R : Type) (K : Sl → Heap → Option R), g24 R (some (x, 0)) H K = K r H') ∧ DA n0 H' x (fun i => F i ∧ i ∉ sid r) D.take ∧ Stp n0 H H' F ∧ LRow n0 H' r os ∧ os.map (·.1) = D.out ∧ (∀ q ∈ sid r, F q ∧ q < H'.next) ∧ H'.next = H.next := by
  have hm := fun (R : Type) (K : Bool → Heap → Option R) => s37 h hw K
  obtain ⟨t, h1, rfl, h3⟩ := h
  have lx := ldDT h1.obj
  have f : Fr' (fun i => i = x ∨ i ∈ sid t.so ∨ i ∈ sid t.se) H (H.put x (.cells ({ t with so := nilS, os := [] } : DT).cells 90 false)) := Fr'.put H (.inl rfl) _
  have kp := h1.kp (f.mono fun i _ hi => by
    rcases hi with rfl | hi | hi
    · exact .inl rfl
    · exact .inr (.inr (.inr (.inr (.inl hi))))
    · exact .inr (.inr (.inr (.inr (.inr hi)))))
  have keep : ∀ i, i ≠ x → (H.put x (.cells ({ t with so := nilS, os := [] } : DT).cells 90 false)).get i = H.get i := fun i hi => by rw [Heap.get_put, if_neg hi]
  have hsl := own_rlen lts lts_len (by omega) h1.so
  have hsid : sid (⟨t.so.a, t.so.len, .ex t.so.len⟩ : Sl) = sid t.so := rfl
  refine ⟨⟨t.so.a, t.so.len, .ex t.so.len⟩, _, t.os, fun R K => ?_, ⟨{ t with so := nilS, os := [] }, h1.modx (t' := { t with so := nilS, os := [] }) (h1.wf.put h1.obj _) f (Heap.gput _ _ _) rfl rfl rfl rfl rfl rfl rfl h1.la .nil ?_ (fun z hz => by cases hz) (fun z hz => (h1.ed z hz).kp kp) (fun i hi => by cases hi) (fun i hi => h1.base i (.inr (.inr (.inr (.inr (.inr hi)))))), rfl, fun i hi => ?_⟩, ⟨Fr'.put (S := F) H (h3 _ (.inl rfl)) _, kp⟩, ⟨hsl, rfl, fun hne => ?_, fun z hz => (h1.od z hz).kp kp⟩, rfl, fun q hq => ?_, rfl⟩
  · simp only [g24, g24_r, g24_p0, hm, Bool.not_true, sel_false, Option.bind_some, Nat.zero_add]
    rw [lx.2.2.2.2.2.2.2.1, Option.bind_some]
    simp only [g41, g41_r, g41_p0, own_clip h1.so]
    rw [st_of h1.obj (by show 7 < 9; decide) rfl]
    rfl
  · exact h1.se.mono fun id o ha ho => (keep id (fun e => h1.xne.2.2.2.2 (e ▸ sid_of ha))).trans ho
  · rw [hsid]
    rcases hi with rfl | rfl | rfl | ⟨u, hu, rfl⟩ | hs | hs
    · exact ⟨h3 _ (.inl rfl), h1.xne.2.2.2.1⟩
    · exact ⟨h3 _ (.inr (.inl rfl)), h1.ane.2.1⟩
    · exact ⟨h3 _ (.inr (.inr (.inl rfl))), h1.fne.2.1⟩
    · exact ⟨h3 _ (.inr (.inr (.inr (.inl ⟨u, hu, rfl⟩)))), (h1.sne.1 u hu).1⟩
    · cases hs
    · exact ⟨h3 _ (.inr (.inr (.inr (.inr (.inr hs))))), fun h => h1.sne.2 i h hs⟩
  · obtain ⟨q, ha, hg⟩ := own_obj h1.so (rows_ne lts_len (by omega) hne)
    exact ⟨q, ha, (keep q (fun e => h1.xne.2.2.2.1 (e ▸ sid_of ha))).trans hg⟩
  · exact ⟨h3 _ (.inr (.inr (.inr (.inr (.inl hq))))), h1.ltf (.inr (.inr (.inr (.inr (.inl hq)))))⟩
/-- Events -/
theorem s20 (h : DA n0 H x F D) (hw : 0 < D.w) : ∃ r H' es, (∀ (R : Type) (K : Sl → Heap → Option R), g20 R (some (x, 0)) H K = K r H') ∧ DA n0 H' x (fun i => F i ∧ i ∉ sid r) D.heard ∧ Stp n0 H H' F ∧ ERow n0 H' r es ∧ es.map (·.1) = D.evs ∧ (∀ q ∈ sid r, F q ∧ q < H'.next) ∧ H'.next = H.next := by
  have hm := fun (R : Type) (K : Bool → Heap → Option R) => s37 h hw K
  obtain ⟨t, h1, rfl, h3⟩ := h
  have lx := ldDT h1.obj
  have f : Fr' (fun i => i = x ∨ i ∈ sid t.so ∨ i ∈ sid t.se) H (H.put x (.cells ({ t with se := nilS, es := [] } : DT).cells 90 false)) := Fr'.put H (.inl rfl) _
  have kp := h1.kp (f.mono fun i _ hi => by
    rcases hi with rfl | hi | hi
    · exact .inl rfl
    · exact .inr (.inr (.inr (.inr (.inl hi))))
    · exact .inr (.inr (.inr (.inr (.inr hi)))))
  have keep : ∀ i, i ≠ x → (H.put x (.cells ({ t with se := nilS, es := [] } : DT).cells 90 false)).get i = H.get i := fun i hi => by rw [Heap.get_put, if_neg hi]
  have hsl := own_rlen ets ets_len (by omega) h1.se
  have hsid : sid (⟨t.se.a, t.se.len, .ex t.se.len⟩ : Sl) = sid t.se := rfl
  refine ⟨⟨t.se.a, t.se.len, .ex t.se.len⟩, _, t.es, fun R K => ?_, ⟨{ t with se := nilS, es := [] }, h1.modx (t' := { t with se := nilS, es := [] }) (h1.wf.put h1.obj _) f (Heap.gput _ _ _) rfl rfl rfl rfl rfl rfl rfl h1.la ?_ .nil (fun z hz => (h1.od z hz).kp kp) (fun z hz => by cases hz) (fun i hi => h1.base i (.inr (.inr (.inr (.inr (.inl hi)))))) (fun i hi => by cases hi), rfl, fun i hi => ?_⟩, ⟨Fr'.put (S := F) H (h3 _ (.inl rfl)) _, kp⟩, ⟨hsl, rfl, fun hne => ?_, fun z hz => (h1.ed z hz).kp kp⟩, rfl, fun q hq => ?_, rfl⟩
  · simp only [g20, g20_r, g20_p0, hm, Bool.not_true, sel_false, Option.bind_some, Nat.zero_add]
    rw [lx.2.2.2.2.2.2.2.2, Option.bind_some]
    simp only [g40, g40_r, g40_p0, own_clip h1.se]
    rw [st_of h1.obj (by show 8 < 9; decide) rfl]
    rfl
  · exact h1.so.mono fun id o ha ho => (keep id (fun e => h1.xne.2.2.2.1 (e ▸ sid_of ha))).trans ho
  · rw [hsid]
    rcases hi with rfl | rfl | rfl | ⟨u, hu, rfl⟩ | hs | hs
    · exact ⟨h3 _ (.inl rfl), h1.xne.2.2.2.2⟩
    · exact ⟨h3 _ (.inr (.inl rfl)), h1.ane.2.2⟩
    · exact ⟨h3 _ (.inr (.inr (.inl rfl))), h1.fne.2.2⟩
    · exact ⟨h3 _ (.inr (.inr (.inr (.inl ⟨u, hu, rfl⟩)))), (h1.sne.1 u hu).2⟩
    · exact ⟨h3 _ (.inr (.inr (.inr (.inr (.inl hs))))), fun h => h1.sne.2 i hs h⟩
    · cases hs
  · obtain ⟨q, ha, hg⟩ := own_obj h1.se (rows_ne ets_len (by omega) hne)
    exact ⟨q, ha, (keep q (fun e => h1.xne.2.2.2.2 (e ▸ sid_of ha))).trans hg⟩
  · exact ⟨h3 _ (.inr (.inr (.inr (.inr (.inr hq))))), h1.ltf (.inr (.inr (.inr (.inr (.inr hq)))))⟩
/-- Open -/
theorem s23 (h : DA n0 H x F D) (hw : 0 < D.w) {R : Type} (K : Int → Heap → Option R) : g23 R (some (x, 0)) H K = K (D.all.length : Int) H := by
  obtain ⟨us, hq⟩ := h.dq
  obtain ⟨ma, es, ck, b1, b2, b3, _⟩ := hq.look
  simp only [g23, g23_r, g23_p0, s37 h hw, Bool.not_true, sel_false, Option.bind_some, Nat.zero_add, b1, b2, b3]
/-- slices.Contains over states -/
theorem p72 {sl : Sl} {l : List Int} (h : BS H sl l) (hl : l.length ≤ 1000000) (v : Int) : ∀ (n j : Nat), j + n = l.length → tlim g72_p2_b (sl, v, (l.length : Int), (j : Int)) H = some (if v ∈ l.drop j then .inr ((l.drop j).idxOf v + j : Nat) else .inl (), H) := by
  intro n
  induction n with
  | zero =>
    intro j hj
    have hd : l.drop j = [] := List.drop_of_length_le (by omega)
    rw [hd]
    refine tlim_up ?_
    unfold g72_p2_b g72_p1
    simp only
    rw [decide_eq_false (by omega), sel_false]; rfl
  | succ n ih =>
    intro j hj
    have hjl : j < l.length := by omega
    have hd : l.drop j = l[j] :: l.drop (j + 1) := List.drop_eq_getElem_cons hjl
    obtain ⟨q, h1, h2⟩ := h.at (by intro e; rw [e] at hjl; simp at hjl)
    have hg : l.getD j 0 = l[j] := by simp [List.getD_eq_getElem?_getD, List.getElem?_eq_getElem hjl]
    have hlen := h.len
    have step : ∀ (R : Type) (kN : Sl → Int → Int → Int → Heap → Option R) (kE : Heap → Option R) (kR : Int → Heap → Option R), g72_p1 R sl v (l.length : Int) (j : Int) H kN kE kR = if v = l[j] then kR j H else kN sl v (l.length : Int) ((j + 1 : Nat) : Int) H := fun R kN kE kR => by
      simp only [g72_p1]
      rw [decide_eq_true (by omega), sel_true, if_pos (by omega), h1, Option.bind_some, Int.toNat_natCast, h2 j hjl, hg, Option.bind_some, w64 (by omega)]
      by_cases hv : v = l[j]
      · rw [if_pos hv, show (v == l[j]) = true by simpa using hv, sel_true]
      · rw [if_neg hv, show (v == l[j]) = false by simpa using hv, sel_false]; rfl
    generalize l[j] = a at *
    generalize hm0 : l.drop (j + 1) = m at *
    by_cases hv : v = a
    · rw [hd, if_pos (hv ▸ List.mem_cons_self), show (a :: m).idxOf v = 0 by simp [hv]]
      refine tlim_up ?_
      unfold g72_p2_b
      simp only
      rw [step, if_pos hv]; simp
    · rw [hd]
      have e : (if v ∈ a :: m then (Sum.inr (((a :: m).idxOf v + j : Nat) : Int) : g72_p2_O) else .inl ()) = if v ∈ m then .inr (((m).idxOf v + (j + 1) : Nat) : Int) else .inl () := by
        by_cases hm : v ∈ m
        · rw [if_pos (by simp [hm]), if_pos hm, List.idxOf_cons, show (a == v) = false by simpa using fun e => hv e.symm]
          simp only [cond_false]
          congr 2; omega
        · rw [if_neg (by simp [hv, hm]), if_neg hm]
      rw [e, ← hm0, ← ih (j + 1) (by omega)]
      refine tlim_go ?_
      unfold g72_p2_b
      simp only
      rw [step, if_neg hv]
theorem s67 {sl : Sl} {l : List Int} (h : BS H sl l) (hl : l.length ≤ 1000000) (v : Int) {R : Type} (K : Bool → Heap → Option R) : g67 R sl v H K = K (decide (v ∈ l)) H := by
  have e := p72 h hl v l.length 0 (by omega)
  simp only [g67, g67_r, g67_p0, g72, g72_r, g72_p6, g72_p0, g72_p5, g72_p3, g72_p2]
  rw [h.len]
  rw [show ((0 : Nat) : Int) = 0 from rfl] at e
  rw [e, Option.bind_some, List.drop_zero]
  by_cases hm : v ∈ l
  · rw [if_pos hm, decide_eq_true hm]
    simp only [cas]
    rw [decide_eq_true (by omega)]
  · rw [if_neg hm, decide_eq_false hm]
    rfl
/-- known -/
theorem s50 (h : DQ n0 H x F D us) (hw : 0 < D.w) {sl : Sl} {l : List Int} (hb : BS H sl l) (hl : l.length ≤ 1000000) (r : Int) :
    (D.find r = none ∧ ∀ (R : Type) (K : Option (Nat × Nat) → Int → Heap → Option R), g50 R (some (x, 0)) r sl H K = K none 7 H) ∨
    (∃ u ∈ us, u.s.ref = r ∧ D.find r = some u.s ∧ ∀ (R : Type) (K : Option (Nat × Nat) → Int → Heap → Option R), g50 R (some (x, 0)) r sl H K = if u.s.st ∈ l then K (some (u.p, 0)) 0 H else K none 6 H) := by
  obtain ⟨ma, es, ck, b1, b2, b3, b4⟩ := h.look
  rcases b4 r with ⟨f1, f2⟩ | ⟨u, hu, hur, f1, j, f2⟩
  · left
    refine ⟨f1, fun R K => ?_⟩
    simp only [g50, g50_r, g50_p0, s37 h.da hw, Bool.not_true, sel_false, Option.bind_some, Nat.zero_add, b1, b2, f2, fnd_none]
  · right
    refine ⟨u, hu, hur, f1, fun R K => ?_⟩
    simp only [g50, g50_r, g50_p0, s37 h.da hw, Bool.not_true, sel_false, Option.bind_some, Nat.zero_add, b1, b2, f2, fnd_some, V.asP, Option.isNone_some, (ldSc (h.sc hu)).2.2.2.2.1, s67 hb hl]
    by_cases hm : u.s.st ∈ l
    · rw [if_pos hm, decide_eq_true hm, Bool.not_true, sel_false]
    · rw [if_neg hm, decide_eq_false hm, Bool.not_false, sel_true]
end
end Go.Proofs.Ytnlfkllnmobppaa

