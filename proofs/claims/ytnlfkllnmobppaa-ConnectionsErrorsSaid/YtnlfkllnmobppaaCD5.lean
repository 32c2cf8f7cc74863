/- A desk in the heap: a new section; Take, Events, Open, New. -/
import Derived.Test.YtnlfkllnmobppaaCD4
namespace Go.Proofs.Ytnlfkllnmobppaa
open Go AM Go.RowKit
set_option linter.unusedVariables false
set_option linter.unusedSimpArgs false

def Dk.at (D : Dk) (l : Int) : Dk := { D with last := l }
theorem Dk.free_at (D : Dk) (l r : Int) : (D.at l).free r = D.free r := rfl
theorem Dk.seek_at (D : Dk) (l : Int) (n : Nat) : ∀ m, (D.at l).seek n m = D.seek n m := by
  induction n with
  | zero => intro m; rfl
  | succ n ih => intro m; simp only [Dk.seek, Dk.free_at, ih]
theorem Dk.seek_free (D : Dk) (n : Nat) : ∀ m : Int, 0 ≤ m → D.free (D.seek (n + 1) m) = true ∨ ∀ j : Nat, j < n + 1 → D.free ((m + j) % 8191 + 1) = false := by
  induction n with
  | zero =>
    intro m hm
    simp only [Dk.seek]
    by_cases h : D.free (nxt1 m) = true
    · rw [if_pos h]; exact .inl h
    · right
      intro j hj
      obtain rfl : j = 0 := by omega
      have : (m + (0 : Nat)) % 8191 + 1 = nxt1 m := by unfold nxt1; simp
      rw [this]; simpa using h
  | succ n ih =>
    intro m hm
    rw [Dk.seek]
    by_cases h : D.free (nxt1 m) = true
    · rw [if_pos h]; exact .inl h
    · rw [if_neg h]
      have h1 : 0 ≤ nxt1 m := by unfold nxt1; omega
      rcases ih (nxt1 m) h1 with h2 | h2
      · exact .inl h2
      · right
        intro j hj
        cases j with
        | zero =>
          have : (m + (0 : Nat)) % 8191 + 1 = nxt1 m := by unfold nxt1; simp
          rw [this]; simpa using h
        | succ j =>
          have := h2 j (by omega)
          have e : (m + ((j + 1 : Nat) : Int)) % 8191 + 1 = (nxt1 m + (j : Int)) % 8191 + 1 := by unfold nxt1; omega
          rw [e]; exact this
theorem nodup_sub_len' : ∀ {l m : List Int}, l.Nodup → (∀ x ∈ l, x ∈ m) → l.length ≤ m.length := by
  intro l
  induction l with
  | nil => intro m _ _; exact Nat.zero_le _
  | cons a l ih =>
    intro m hn hs
    simp only [List.nodup_cons] at hn
    have ha := hs a (by simp)
    have h1 := ih (m := m.erase a) hn.2 fun x hx => (List.mem_erase_of_ne (fun (e : x = a) => hn.1 (e ▸ hx))).2 (hs x (by simp [hx]))
    rw [List.length_erase_of_mem ha] at h1
    have := List.length_pos_of_mem ha
    simp only [List.length_cons]; omega
theorem nodup_map_on {α β : Type} {f : α → β} {l : List α} (hn : l.Nodup) (hf : ∀ a ∈ l, ∀ b ∈ l, f a = f b → a = b) : (l.map f).Nodup := by
  induction l with
  | nil => exact List.nodup_nil
  | cons a l ih =>
    simp only [List.nodup_cons, List.map_cons] at hn ⊢
    refine ⟨fun hm => ?_, ih hn.2 fun x hx y hy => hf x (by simp [hx]) y (by simp [hy])⟩
    obtain ⟨b, hb, e⟩ := List.mem_map.1 hm
    exact hn.1 (by rw [← hf b (by simp [hb]) a (by simp) e]; exact hb)
/-- there is room -/
theorem Dk.room (D : Dk) (hl : 0 ≤ D.last) (h : D.all.length + D.fro.length < 8191) : D.free (D.seek 8191 D.last) = true := by
  rcases D.seek_free 8190 D.last hl with h1 | h1
  · exact h1
  · exfalso
    have hn : ((List.range 8191).map fun j : Nat => (D.last + j) % 8191 + 1).Nodup := nodup_map_on List.nodup_range fun a ha b hb e => by
      rw [List.mem_range] at ha hb
      omega
    have := nodup_sub_len' hn (m := D.refs ++ D.fro.map (·.1)) fun y hy => by
      obtain ⟨j, hj, rfl⟩ := List.mem_map.1 hy
      have hf := h1 j (List.mem_range.1 hj)
      unfold Dk.free at hf
      rw [List.mem_append]
      by_cases hi : D.isf ((D.last + j) % 8191 + 1) = true
      · right
        unfold Dk.isf at hi
        rw [List.any_eq_true] at hi
        obtain ⟨e, he, h2⟩ := hi
        exact List.mem_map.2 ⟨e, he, by simpa using h2⟩
      · left
        rw [Dk.mem_refs]
        intro hn
        rw [hn] at hf
        simp [hi] at hf
    simp only [List.length_map, List.length_range, List.length_append, Dk.refs] at this
    omega
section
variable {n0 : Nat} {H : Heap} {x : Nat} {F : Nat → Prop} {D : Dk} {p : Nat} {s : Sc} {us : List Pz}
theorem DQ.setlast (h : DQ n0 H x F D us) {l : Int} (hl : 0 ≤ l ∧ l ≤ 8191) : ∃ H', H.st x 4 (.i .u32 l) = some H' ∧ DQ n0 H' x F (D.at l) us ∧ Stp n0 H H' F := by
  obtain ⟨t, h1, rfl, h3, rfl⟩ := h
  have e : H.st x 4 (.i .u32 l) = some (H.put x (.cells ({ t with last := l } : DT).cells 90 false)) := by rw [st_of h1.obj (by show 4 < 9; decide) rfl]; rfl
  have f : Fr' (fun i => i = x ∨ i ∈ sid t.so ∨ i ∈ sid t.se) H (H.put x (.cells ({ t with last := l } : DT).cells 90 false)) := Fr'.put H (.inl rfl) _
  have kp := h1.kp (f.mono fun i _ hi => by
    rcases hi with rfl | hi | hi
    · exact .inl rfl
    · exact .inr (.inr (.inr (.inr (.inl hi))))
    · exact .inr (.inr (.inr (.inr (.inr hi)))))
  have keep : ∀ i, i ≠ x → (H.put x (.cells ({ t with last := l } : DT).cells 90 false)).get i = H.get i := fun i hi => by rw [Heap.get_put, if_neg hi]
  refine ⟨_, e, ⟨{ t with last := l }, h1.modx (t' := { t with last := l }) (h1.wf.put h1.obj _) f (Heap.gput _ _ _) rfl rfl rfl rfl rfl rfl rfl hl ?_ ?_ (fun z hz => (h1.od z hz).kp kp) (fun z hz => (h1.ed z hz).kp kp) (fun i hi => h1.base i (.inr (.inr (.inr (.inr (.inl hi)))))) (fun i hi => h1.base i (.inr (.inr (.inr (.inr (.inr hi)))))), rfl, fun i hi => h3 i hi, rfl⟩, ⟨Fr'.put (S := F) H (h3 _ (.inl rfl)) _, kp⟩⟩
  · exact h1.so.mono fun id o ha ho => (keep id (fun e => h1.xne.2.2.2.1 (e ▸ sid_of ha))).trans ho
  · exact h1.se.mono fun id o ha ho => (keep id (fun e => h1.xne.2.2.2.2 (e ▸ sid_of ha))).trans ho
theorem nxt1_w {l : Int} (h : 0 ≤ l ∧ l ≤ 8191) : IntKind.wrap .u32 (Int.tmod l 8191 + 1) = nxt1 l ∧ 0 ≤ nxt1 l ∧ nxt1 l ≤ 8191 := by
  unfold nxt1
  rw [tmodp h.1, w32u (by omega)]
  exact ⟨rfl, by omega, by omega⟩
theorem p38_1 (h : DQ n0 H x F D us) (t1 t2 t3 t4 : Int) : ∃ H', DQ n0 H' x F (D.at (nxt1 D.last)) us ∧ Stp n0 H H' F ∧ ∀ (R : Type) (kN kE0 : Option (Nat × Nat) → Int → Int → Int → Int → Heap → Option R), g38_p1 R (some (x, 0)) t1 t2 t3 t4 H kN kE0 = if D.free (nxt1 D.last) = true then kE0 (some (x, 0)) t1 t2 t3 t4 H' else kN (some (x, 0)) t1 t2 t3 t4 H' := by
  obtain ⟨e1, e2, e3⟩ := nxt1_w h.da.lastb
  obtain ⟨H', a1, a2, a3⟩ := h.setlast ⟨e2, e3⟩
  obtain ⟨ma, es, ck, b1, b2, b3, b4⟩ := a2.look
  obtain ⟨mf, fs, cf, c1, c2, c3, c4⟩ := a2.lookF
  have l4 : H'.ldI .u32 x 4 = some (nxt1 D.last) := a2.da.opts.2.2.2.2
  have fr : ∀ r, D.free r = ((D.find r).isNone && !D.isf r) := fun r => rfl
  refine ⟨H', a2, a3, fun R kN kE0 => ?_⟩
  simp only [g38_p1, Option.bind_some, Nat.zero_add]
  rw [h.da.opts.2.2.2.2, Option.bind_some, e1, a1, Option.bind_some, b1, Option.bind_some, l4, Option.bind_some, b2, Option.bind_some, c1]
  simp only [l4, Option.bind_some, c2]
  have b5 := b4 (nxt1 D.last)
  have c5 := c4 (nxt1 D.last)
  simp only [show ∀ r, (D.at (nxt1 D.last)).find r = D.find r from fun _ => rfl, show ∀ r, (D.at (nxt1 D.last)).isf r = D.isf r from fun _ => rfl] at b5 c5
  rcases b5 with ⟨f1, f2⟩ | ⟨u, hu, hur, f1, j, f2⟩
  · rcases c5 with ⟨f3, f4⟩ | ⟨f3, j', v, hv, f4⟩
    · rw [f2, Option.bind_some, fnd_none, f4, Option.bind_some, fnd_none, fr, f1, f3, if_pos (by rfl)]
    · rw [f2, Option.bind_some, fnd_none, f4, Option.bind_some, fnd_some, fr, f1, f3, if_neg (by decide)]
      simp only [V.asI, if_true, Option.bind_some]
      rw [show (v == 0) = false by simpa using hv, sel_false]
  · rw [f2, Option.bind_some, fnd_some, fr, f1, if_neg (by simp)]
    simp only [V.asP, Option.bind_some, Option.isNone_some, sel_false]
theorem p38_loop (t1 t2 t3 t4 : Int) : ∀ (n : Nat) (H : Heap) (D : Dk), DQ n0 H x F D us → D.free (D.seek (n + 1) D.last) = true → ∃ H', tlim g38_p2_b (some (x, 0), t1, t2, t3, t4) H = some ((some (x, 0), t1, t2, t3, t4), H') ∧ DQ n0 H' x F (D.at (D.seek (n + 1) D.last)) us ∧ Stp n0 H H' F := by
  intro n
  induction n with
  | zero =>
    intro H D h hf
    obtain ⟨H', a1, a2, a3⟩ := p38_1 h t1 t2 t3 t4
    have e : D.seek (0 + 1) D.last = nxt1 D.last := by simp only [Dk.seek]; split <;> rfl
    rw [e] at hf ⊢
    refine ⟨H', tlim_up ?_, a1, a2⟩
    unfold g38_p2_b
    rw [a3, if_pos hf]
  | succ n ih =>
    intro H D h hf
    obtain ⟨H', a1, a2, a3⟩ := p38_1 h t1 t2 t3 t4
    rw [Dk.seek] at hf ⊢
    by_cases hb : D.free (nxt1 D.last) = true
    · rw [if_pos hb]
      refine ⟨H', tlim_up ?_, a1, a2⟩
      unfold g38_p2_b
      rw [a3, if_pos hb]
    · rw [if_neg hb] at hf ⊢
      obtain ⟨H2, b1, b2, b3⟩ := ih H' (D.at (nxt1 D.last)) a1 (by rw [Dk.free_at, Dk.seek_at]; exact hf)
      refine ⟨H2, ?_, ?_, ⟨a2.fr.trans b3.fr, a2.kp.trans b3.kp⟩⟩
      · rw [← b1]
        refine tlim_go ?_
        unfold g38_p2_b
        rw [a3, if_neg hb]
      · rw [Dk.seek_at] at b2; exact b2
/-- the section is made -/
theorem DQ.make (h : DQ n0 H x F D us) (hl : 0 ≤ D.last) (hf : D.free D.last = true) (pt oth cls st : Int) : ∃ H', (∀ (R : Type) (kR : Nat → Nat → Heap → Option R), g38_p4 R (some (x, 0)) pt oth cls st H kR = kR H.next 0 H') ∧
    DP n0 H' x (grown F H H') { D with all := D.all ++ [{ ref := D.last, pt := pt, oth := oth, cls := cls, st := st }] } H.next { ref := D.last, pt := pt, oth := oth, cls := cls, st := st } ∧ Stp n0 H H' F := by
  obtain ⟨t, h1, rfl, h3, rfl⟩ := h
  obtain ⟨x1, x2, x3, x4, x5⟩ := h1.xne
  obtain ⟨a1, a2, a3⟩ := h1.ane
  obtain ⟨f1, f2, f3⟩ := h1.fne
  have hnx : ∀ i, Foot x t i → i < H.next := fun i hi => h1.ltf hi
  have hfr : (t.dk.find t.last).isNone = true ∧ t.dk.isf t.last = false := by
    unfold Dk.free at hf
    simp only [Bool.and_eq_true, Bool.not_eq_true'] at hf
    exact hf
  have hno : ∀ u ∈ t.us, u.s.ref ≠ t.last := fun u hu e => Dk.find_none (by simpa using hfr.1) u.s (List.mem_map.2 ⟨u, hu, rfl⟩) e
  have hnf : ∀ f ∈ t.fs, f.r ≠ t.last := fun f hf' e => by
    have := hfr.2
    unfold Dk.isf DT.dk at this
    simp only [List.any_map, List.any_eq_false] at this
    exact this f hf' (by simpa using e)
  obtain ⟨s, hs⟩ : ∃ s : Sc, s = { ref := t.last, pt := pt, oth := oth, cls := cls, st := st } := ⟨_, rfl⟩
  have hsr : s.ref = t.last := by rw [hs]
  have w1 := h1.wf.new (.cells s.cells 100 false)
  have xn := Ext.new H (.cells s.cells 100 false)
  have g1 := Heap.gnew H (.cells s.cells 100 false)
  have nx1 : (H.new (.cells s.cells 100 false)).next = H.next + 1 := rfl
  have gx1 := xn.get h1.wf h1.obj
  have gm1 := xn.get h1.wf h1.mall
  have e0 : O.cells s.cells 100 false = .cells [(V.i .u32 t.last), (V.i .u16 pt), (V.i .u32 oth), (V.i .u8 cls), (V.i .u8 st), (V.i .i64 (0 : Int)), (V.i .i64 (0 : Int)), (V.i .i64 (0 : Int)), (V.i .u8 (0 : Int)), (V.i .u8 (0 : Int)), (V.i .u8 (0 : Int))] 100 false := by rw [hs]; rfl
  generalize hG1 : H.new (.cells s.cells 100 false) = G1 at *
  have es := fun (R : Type) (K : V → Heap → Option R) => mset_new (mt := 87) .u32 Pz.k Pz.pv Pz.b eq23 und87 key23 gm1 t.last hno (.p (some (H.next, 0))) K
  have w2 := w1.put gm1 (.map (t.us.map (mEnt .u32 Pz.k Pz.pv Pz.b) ++ [(.i .u32 t.last, .p (some (H.next, 0)), t.ck)]) (t.ck + 1))
  have gm2 := Heap.gput G1 t.ma (.map (t.us.map (mEnt .u32 Pz.k Pz.pv Pz.b) ++ [(.i .u32 t.last, .p (some (H.next, 0)), t.ck)]) (t.ck + 1))
  have k2 : ∀ i, i ≠ t.ma → (G1.put t.ma (.map (t.us.map (mEnt .u32 Pz.k Pz.pv Pz.b) ++ [(.i .u32 t.last, .p (some (H.next, 0)), t.ck)]) (t.ck + 1))).get i = G1.get i := fun i hi => by rw [Heap.get_put, if_neg hi]
  have nx2 : (G1.put t.ma (.map (t.us.map (mEnt .u32 Pz.k Pz.pv Pz.b) ++ [(.i .u32 t.last, .p (some (H.next, 0)), t.ck)]) (t.ck + 1))).next = H.next + 1 := nx1
  generalize hG2 : G1.put t.ma (.map (t.us.map (mEnt .u32 Pz.k Pz.pv Pz.b) ++ [(.i .u32 t.last, .p (some (H.next, 0)), t.ck)]) (t.ck + 1)) = G2 at *
  have hma : t.ma < H.next := hnx _ (.inr (.inl rfl))
  have keep : ∀ i, i < H.next → i ≠ t.ma → G2.get i = H.get i := fun i hi e => (k2 i e).trans (xn.same i hi (fun h => h))
  have hfr : Fr' (Foot x t) H G2 := ⟨by omega, fun i hi hn => keep i hi fun e => hn (.inr (.inl e))⟩
  have kp := h1.kp hfr
  have lx := ldDT h1.obj
  refine ⟨G2, fun R K => ?_, ⟨{ t with us := t.us ++ [⟨s, H.next, t.ck⟩], ck := t.ck + 1 }, ⟨w2, (keep x (hnx _ (.inl rfl)) x1).trans h1.obj, ?_, (keep _ (hnx _ (.inr (.inr (.inl rfl)))) (fun e => h1.mm e.symm)).trans h1.mfro, fun v hv => ?_, h1.so.mono fun id o ha ho => (keep id (h1.wf _ _ ho) (fun e => a2 (e ▸ sid_of ha))).trans ho, h1.se.mono fun id o ha ho => (keep id (h1.wf _ _ ho) (fun e => a3 (e ▸ sid_of ha))).trans ho, h1.mm, ?_, ?_, h1.nf, fun v hv f hf => ?_, ?_, fun v hv => ?_, h1.nc, h1.lc, h1.fv, h1.fz, h1.la, fun z hz => (h1.od z hz).kp kp, fun z hz => (h1.ed z hz).kp kp, fun i hi => ?_⟩, ?_, fun i hi => ?_, ⟨s, H.next, t.ck⟩, by simp, rfl, hs⟩, ⟨hfr.mono fun i _ hi => h3 i hi, kp⟩⟩
  · simp only [g38_p4, alo, Option.bind_some, Nat.zero_add]
    rw [lx.2.2.2.2.1, Option.bind_some, ← e0, hG1, (ldDT gx1).2.2.2.2.2.1, Option.bind_some, (ldSc g1).1, Option.bind_some, hsr]
    exact es R _
  · simp only [List.map_append, List.map_cons, List.map_nil]
    rw [show mEnt .u32 Pz.k Pz.pv Pz.b ⟨s, H.next, t.ck⟩ = (.i .u32 t.last, .p (some (H.next, 0)), t.ck) by simp only [mEnt, Pz.k, Pz.pv, hsr]]
    exact gm2
  · rcases List.mem_append.1 hv with hv | hv
    · exact (keep _ (hnx _ (.inr (.inr (.inr (.inl ⟨v, hv, rfl⟩))))) (a1 v hv)).trans (h1.scs v hv)
    · rw [List.mem_singleton.1 hv]
      exact (k2 _ (by simp only; omega)).trans g1
  · simp only [List.map_append, List.map_cons, List.map_nil, List.nodup_append]
    refine ⟨h1.np, by simp, fun a ha b hb => ?_⟩
    obtain ⟨u, hu, rfl⟩ := List.mem_map.1 ha
    rw [List.mem_singleton.1 hb]
    have := hnx _ (.inr (.inr (.inr (.inl ⟨u, hu, rfl⟩))))
    omega
  · simp only [List.map_append, List.map_cons, List.map_nil, List.nodup_append]
    refine ⟨h1.nk, by simp, fun a ha b hb => ?_⟩
    obtain ⟨u, hu, rfl⟩ := List.mem_map.1 ha
    rw [List.mem_singleton.1 hb]
    simp only [Pz.k, hsr]
    exact hno u hu
  · rcases List.mem_append.1 hv with hv | hv
    · exact h1.dj v hv f hf
    · rw [List.mem_singleton.1 hv]
      simp only [hsr]
      exact fun e => hnf f hf e.symm
  · simp only [List.map_append, List.map_cons, List.map_nil, List.nodup_append]
    refine ⟨h1.nb, by simp, fun a ha b hb => ?_⟩
    obtain ⟨u, hu, rfl⟩ := List.mem_map.1 ha
    rw [List.mem_singleton.1 hb]
    have := h1.lb u hu
    omega
  · rcases List.mem_append.1 hv with hv | hv
    · have := h1.lb v hv; simp only; omega
    · rw [List.mem_singleton.1 hv]; simp only; omega
  · rcases hi with hi | hi | hi | ⟨v, hv, rfl⟩ | hi | hi
    · exact h1.base i (.inl hi)
    · exact h1.base i (.inr (.inl hi))
    · exact h1.base i (.inr (.inr (.inl hi)))
    · rcases List.mem_append.1 hv with hv | hv
      · exact h1.base _ (.inr (.inr (.inr (.inl ⟨v, hv, rfl⟩))))
      · rw [List.mem_singleton.1 hv]
        have := h1.base x (.inl rfl); have := hnx x (.inl rfl)
        simp only; omega
    · exact h1.base i (.inr (.inr (.inr (.inr (.inl hi)))))
    · exact h1.base i (.inr (.inr (.inr (.inr (.inr hi)))))
  · unfold DT.dk
    simp only [List.map_append, List.map_cons, List.map_nil, hs]
  · rcases hi with hi | hi | hi | ⟨v, hv, rfl⟩ | hi | hi
    · exact .inl (h3 i (.inl hi))
    · exact .inl (h3 i (.inr (.inl hi)))
    · exact .inl (h3 i (.inr (.inr (.inl hi))))
    · rcases List.mem_append.1 hv with hv | hv
      · exact .inl (h3 _ (.inr (.inr (.inr (.inl ⟨v, hv, rfl⟩)))))
      · rw [List.mem_singleton.1 hv]
        exact .inr (by simp only; omega)
    · exact .inl (h3 i (.inr (.inr (.inr (.inr (.inl hi))))))
    · exact .inl (h3 i (.inr (.inr (.inr (.inr (.inr hi))))))
/-- add -/
theorem s38 (h : DA n0 H x F D) (hff : D.fro.length ≤ 100000000) (pt oth cls st : Int) : (D.add pt oth cls st = none ∧ ∀ (R : Type) (K : Option (Nat × Nat) → Heap → Option R), g38 R (some (x, 0)) pt oth cls st H K = K none H) ∨
    ∃ D' s p H', D.add pt oth cls st = some (D', s) ∧ (∀ (R : Type) (K : Option (Nat × Nat) → Heap → Option R), g38 R (some (x, 0)) pt oth cls st H K = K (some (p, 0)) H') ∧ DP n0 H' x (grown F H H') D' p s ∧ Stp n0 H H' F := by
  obtain ⟨us, hq⟩ := h.dq
  obtain ⟨ma, es, ck, b1, b2, b3, b4⟩ := hq.look
  obtain ⟨mf, fs, cf, c1, c2, c3, c4⟩ := hq.lookF
  have start : ∀ (R : Type) (K : Option (Nat × Nat) → Heap → Option R), g38 R (some (x, 0)) pt oth cls st H K = if 4096 ≤ D.all.length ∨ 8191 ≤ D.all.length + D.fro.length then K none H else g38_p5 R (some (x, 0)) pt oth cls st H (fun a b H => K (some (a, b)) H) := fun R K => by
    simp only [g38, g38_r, g38_p6, g38_p0, Option.bind_some, Nat.zero_add, b1, b2, b3, c1, c2, c3]
    rw [selD]
    by_cases h1 : (D.all.length : Int) ≥ 4096
    · rw [if_pos h1, if_pos (by omega)]
    · rw [if_neg h1, w64 (by omega), selD]
      by_cases h2 : (D.all.length : Int) + (D.fro.length : Int) ≥ 8191
      · rw [if_pos h2, if_pos (by omega)]
      · rw [if_neg h2, if_neg (by omega)]
  unfold Dk.add
  by_cases hc : 4096 ≤ D.all.length ∨ 8191 ≤ D.all.length + D.fro.length
  · left
    exact ⟨by rw [if_pos hc], fun R K => by rw [start, if_pos hc]⟩
  · right
    have hroom := D.room h.lastb.1 (by omega)
    obtain ⟨H1, e1, q1, s1⟩ := p38_loop pt oth cls st 8190 H D hq hroom
    have hlast : (D.at (D.seek (8190 + 1) D.last)).last = D.seek 8191 D.last := rfl
    obtain ⟨H2, e2, q2, s2⟩ := q1.make q1.da.lastb.1 (by rw [hlast, Dk.free_at]; exact hroom) pt oth cls st
    refine ⟨{ D with last := D.seek 8191 D.last, all := D.all ++ [{ ref := D.seek 8191 D.last, pt := pt, oth := oth, cls := cls, st := st }] }, { ref := D.seek 8191 D.last, pt := pt, oth := oth, cls := cls, st := st }, H1.next, H2, by rw [if_neg hc], fun R K => ?_, q2.up fun i hi => hi.ext_left s1.fr.next, ⟨s1.fr.trans s2.fr, s1.kp.trans s2.kp⟩⟩
    rw [start, if_neg hc]
    simp only [g38_p5, g38_p3, g38_p2]
    rw [e1, Option.bind_some]
    exact e2 R _
end
end Go.Proofs.Ytnlfkllnmobppaa

