/- A desk in the heap: its private functions. -/
import Derived.Test.YtnlfkllnmobppaaCD3
namespace Go.Proofs.Ytnlfkllnmobppaa
open Go AM Go.RowKit
set_option linter.unusedVariables false
set_option linter.unusedSimpArgs false

section
variable {n0 : Nat} {H : Heap} {x : Nat} {F : Nat → Prop} {D : Dk} {p : Nat} {s : Sc} {us : List Pz}
theorem DA.opts (h : DA n0 H x F D) : H.ldI .i64 x 0 = some D.w ∧ H.ldI .i64 x 1 = some D.wt ∧ H.ldI .i64 x 2 = some D.idl ∧ H.ldI .i64 x 3 = some D.fz ∧ H.ldI .u32 x 4 = some D.last := by
  obtain ⟨t, h1, rfl, _⟩ := h
  obtain ⟨a, b, c, d, e, _⟩ := ldDT h1.obj
  exact ⟨a, b, c, d, e⟩
theorem DA.lastb (h : DA n0 H x F D) : 0 ≤ D.last ∧ D.last ≤ 8191 := by obtain ⟨t, h1, rfl, _⟩ := h; exact h1.la
/-- the sections' map -/
theorem DQ.look (h : DQ n0 H x F D us) : ∃ ma es ck, H.ldM x 5 = some (some ma) ∧ getMap H (some ma) = some (es, ck) ∧ es.length = D.all.length ∧
    ∀ r : Int, (D.find r = none ∧ findE Try.prog 23 (.i .u32 r) es 0 = some none) ∨ (∃ u ∈ us, u.s.ref = r ∧ D.find r = some u.s ∧ ∃ j, findE Try.prog 23 (.i .u32 r) es 0 = some (some (j, .p (some (u.p, 0))))) := by
  have hq := h
  obtain ⟨t, h1, rfl, h3, rfl⟩ := h
  refine ⟨t.ma, t.us.map (mEnt .u32 Pz.k Pz.pv Pz.b), t.ck, (ldDT h1.obj).2.2.2.2.2.1, by simp only [getMap, h1.mall], by simp [DT.dk], fun r => ?_⟩
  by_cases hex : ∃ u ∈ t.us, u.s.ref = r
  · obtain ⟨u, hu, rfl⟩ := hex
    obtain ⟨j, j1, _⟩ := mAt_some Pz.k Pz.pv (i := 0) h1.nk hu rfl
    refine .inr ⟨u, hu, rfl, (hq.dp hu).found, 0 + j, ?_⟩
    rw [mfind_at .u32 Pz.k Pz.pv Pz.b eq23, j1]
  · have hno : ∀ u ∈ t.us, u.s.ref ≠ r := fun u hu e => hex ⟨u, hu, e⟩
    refine .inl ⟨Dk.find_no fun b hb => ?_, ?_⟩
    · obtain ⟨u, hu, rfl⟩ := List.mem_map.1 hb
      exact hno u hu
    · rw [mfind_at .u32 Pz.k Pz.pv Pz.b eq23, mAt_none Pz.k Pz.pv hno]
/-- the frozen references' map -/
theorem DQ.lookF (h : DQ n0 H x F D us) : ∃ mf es ck, H.ldM x 6 = some (some mf) ∧ getMap H (some mf) = some (es, ck) ∧ es.length = D.fro.length ∧
    ∀ r : Int, (D.isf r = false ∧ findE Try.prog 23 (.i .u32 r) es 0 = some none) ∨ (D.isf r = true ∧ ∃ j v, v ≠ 0 ∧ findE Try.prog 23 (.i .u32 r) es 0 = some (some (j, .i .i64 v))) := by
  obtain ⟨t, h1, rfl, h3, rfl⟩ := h
  refine ⟨t.mf, t.fs.map (mEnt .u32 Fz.r Fz.vv Fz.b), t.cf, (ldDT h1.obj).2.2.2.2.2.2.1, by simp only [getMap, h1.mfro], by simp [DT.dk], fun r => ?_⟩
  by_cases hex : ∃ u ∈ t.fs, u.r = r
  · obtain ⟨u, hu, rfl⟩ := hex
    obtain ⟨j, j1, _⟩ := mAt_some Fz.r Fz.vv (i := 0) h1.nf hu rfl
    refine .inr ⟨?_, 0 + j, u.v, by have := h1.fv u hu; omega, ?_⟩
    · unfold Dk.isf DT.dk
      simp only [List.any_map, List.any_eq_true]
      exact ⟨u, hu, by simp⟩
    · rw [mfind_at .u32 Fz.r Fz.vv Fz.b eq23, j1]
  · have hno : ∀ u ∈ t.fs, u.r ≠ r := fun u hu e => hex ⟨u, hu, e⟩
    refine .inl ⟨?_, ?_⟩
    · unfold Dk.isf DT.dk
      simp only [List.any_map, List.any_eq_false]
      exact fun u hu => by simpa using hno u hu
    · rw [mfind_at .u32 Fz.r Fz.vv Fz.b eq23, mAt_none Fz.r Fz.vv hno]
theorem s37 {R : Type} (h : DA n0 H x F D) (hw : 0 < D.w) (K : Bool → Heap → Option R) : g37 R (some (x, 0)) H K = K true H := by
  simp only [g37, g37_r, g37_p0, Option.isNone_some, Bool.not_false, sel_true, Option.bind_some, Nat.zero_add]
  rw [show H.ldI .i64 x 0 = some D.w from h.opts.1, Option.bind_some, decide_eq_true (by omega)]
theorem s37n {R : Type} (K : Bool → Heap → Option R) : g37 R none H K = K false H := rfl
/-- own: a copy -/
theorem s36 (hw : H.Wf) {sl : Sl} {l : List Int} (h : Dat n0 H sl l) (hl : l.length ≤ 140737488355328) : ∃ s' H', (∀ (R : Type) (K : Sl → Heap → Option R), g36 R sl H K = K s' H') ∧ Dat n0 H' s' l ∧ Ext H H' ∧ H'.Wf := by
  obtain ⟨s', H', e1, c⟩ := clone_ok hw h.bs hl
  refine ⟨⟨s'.a, s'.len, .ex s'.len⟩, H', fun R K => ?_, ⟨c.bs.clipped, ?_, Nat.le_refl _⟩, c.ext, c.wf⟩
  · simp only [g36, g36_r, g36_p0, e1, clip_ok c.cap]
  · rcases c.own with e | ⟨id, h1, h2, h3⟩
    · exact .inl e
    · exact .inr ⟨(id, 0), h1, c.wf _ _ h3, .inr ⟨_, _, h3⟩⟩
/-- turn -/
theorem s51 (h : DP n0 H x F D p s) (st : Int) : ∃ H', (∀ (R : Type) (K : Heap → Option R), g51 R (some (p, 0)) st H K = K H') ∧ DP n0 H' x F (D.put (s.turn st)) p (s.turn st) ∧ Stp n0 H H' F := by
  obtain ⟨h1, h2⟩ := h.write (s' := s.turn st) rfl
  refine ⟨_, fun R K => ?_, h1, h2⟩
  simp only [g51, g51_r, g51_p0, Option.bind_some, Nat.zero_add]
  rw [st_of h.sc (by show 4 < 11; decide) rfl, Option.bind_some, sts_of (Heap.gput _ _ _) (by show 5 + 3 ≤ 11; decide) rfl, Option.bind_some, Heap.put_put]
  rfl
/-- send -/
theorem s39 (h : DP n0 H x F D p s) (m : Cm) {sl : Sl} (hd : Dat n0 H sl m.d) (hlen : D.out.length ≤ 100000000) :
    ∃ H', (∀ (R : Type) (K : Heap → Option R), g39 R (some (x, 0)) (some (p, 0)) m.k m.f m.t m.c m.n m.x m.u sl H K = K H') ∧ DP n0 H' x (grown F H H') (D.send s m) p { s with t2 := 0 } ∧ Stp n0 H H' F := by
  have l0 := ldSc h.sc
  obtain ⟨a1, a2, a3⟩ := h.st (k := 7) (v := .i .i64 0) (s' := { s with t2 := 0 }) rfl (by decide) rfl rfl
  have gp := Heap.gput H p (.cells ({ s with t2 := 0 } : Sc).cells 100 false)
  obtain ⟨us', q', u', hu', hp', hs'⟩ := a2.dq
  obtain ⟨so, H', b1, b2, b3, b4⟩ := q'.post (s.lt m) (sl := sl) (hd.kp a3.kp) hlen
  have l1 := ldSc gp
  have hnx : H.next ≤ (H.put p (.cells ({ s with t2 := 0 } : Sc).cells 100 false)).next := Nat.le_refl _
  refine ⟨H', fun R K => ?_, ?_, ?_⟩
  · simp only [g39, g39_r, g39_p0, Option.bind_some, Nat.zero_add, Nat.reduceAdd]
    by_cases hk : m.k = 3
    · rw [show (m.k != 3) = false by simp [hk], l0.2.2.1, Option.bind_some, sel_false, a1, Option.bind_some, b1, Option.bind_some, l1.2.1, Option.bind_some]
      have e : lts (s.lt m, sl) = [V.i .u16 s.pt, V.i .u8 m.k, V.i .u32 m.f, V.i .u32 s.oth, V.i .u8 m.c, V.i .u8 m.n, V.i .u8 m.x, V.i .u8 m.u, V.sl sl] := by simp only [lts, Sc.lt, Cm.vs, if_pos hk]
      rw [e] at b2
      exact b2 R K
    · rw [show (m.k != 3) = true by simp [hk], l0.2.2.1, Option.bind_some, sel_true, l0.1, Option.bind_some, a1, Option.bind_some, b1, Option.bind_some, l1.2.1, Option.bind_some]
      have e : lts (s.lt m, sl) = [V.i .u16 s.pt, V.i .u8 m.k, V.i .u32 s.ref, V.i .u32 s.oth, V.i .u8 m.c, V.i .u8 m.n, V.i .u8 m.x, V.i .u8 m.u, V.sl sl] := by simp only [lts, Sc.lt, Cm.vs, if_neg hk]
      rw [e] at b2
      exact b2 R K
  · have := b3.dp hu'
    rw [hp', hs'] at this
    exact this.up fun i hi => hi.ext_left hnx
  · exact ⟨a3.fr.trans b4.fr, a3.kp.trans b4.kp⟩
/-- over -/
theorem s53 (h : DP n0 H x F D p s) : ∃ H', (∀ (R : Type) (K : Heap → Option R), g53 R (some (x, 0)) (some (p, 0)) H K = K H') ∧ DA n0 H' x F (D.over s.ref) ∧ Stp n0 H H' F := by
  obtain ⟨t, h1, rfl, h3, u, hu, rfl, rfl⟩ := h
  obtain ⟨x1, x2, x3, x4, x5⟩ := h1.xne
  obtain ⟨a1, a2, a3⟩ := h1.ane
  obtain ⟨f1, f2, f3⟩ := h1.fne
  obtain ⟨s1, s2⟩ := h1.sne
  have mm := h1.mm
  have l0 := ldSc (h1.scs u hu)
  have lx := ldDT h1.obj
  have hfr1 : Fr' (Foot x t) H (H.put t.ma (.map ((t.us.filter fun v => decide (v.k ≠ u.k)).map (mEnt .u32 Pz.k Pz.pv Pz.b)) t.ck)) := Fr'.put H (.inr (.inl rfl)) _
  have w1 := h1.wf.put h1.mall (.map ((t.us.filter fun v => decide (v.k ≠ u.k)).map (mEnt .u32 Pz.k Pz.pv Pz.b)) t.ck)
  have k1 : ∀ i, i ≠ t.ma → (H.put t.ma (.map ((t.us.filter fun v => decide (v.k ≠ u.k)).map (mEnt .u32 Pz.k Pz.pv Pz.b)) t.ck)).get i = H.get i := fun i hi => by rw [Heap.get_put, if_neg hi]
  have gm1 := Heap.gput H t.ma (.map ((t.us.filter fun v => decide (v.k ≠ u.k)).map (mEnt .u32 Pz.k Pz.pv Pz.b)) t.ck)
  have ed := fun (R : Type) (K : V → Heap → Option R) => mdel .u32 Pz.k Pz.pv Pz.b eq23 und87 key23 h1.mall h1.nk hu K
  have nx1 : (H.put t.ma (.map ((t.us.filter fun v => decide (v.k ≠ u.k)).map (mEnt .u32 Pz.k Pz.pv Pz.b)) t.ck)).next = H.next := rfl
  generalize hG1 : H.put t.ma (.map ((t.us.filter fun v => decide (v.k ≠ u.k)).map (mEnt .u32 Pz.k Pz.pv Pz.b)) t.ck) = G1 at *
  have gx1 : G1.get x = some (.cells t.cells 90 false) := (k1 x x1).trans h1.obj
  have gf1 : G1.get t.mf = some (.map (t.fs.map (mEnt .u32 Fz.r Fz.vv Fz.b)) t.cf) := (k1 _ (fun e => mm e.symm)).trans h1.mfro
  have gu1 := (k1 u.p (a1 u hu)).trans (h1.scs u hu)
  have es := fun (R : Type) (K : V → Heap → Option R) => mset_new (mt := 88) .u32 Fz.r Fz.vv Fz.b eq23 und88 key23 gf1 u.s.ref (fun f hf e => h1.dj u hu f hf e.symm) (.i .i64 t.fz) K
  have hfr2 : Fr' (Foot x t) G1 (G1.put t.mf (.map (t.fs.map (mEnt .u32 Fz.r Fz.vv Fz.b) ++ [(.i .u32 u.s.ref, .i .i64 t.fz, t.cf)]) (t.cf + 1))) := Fr'.put G1 (.inr (.inr (.inl rfl))) _
  have w2 := w1.put gf1 (.map (t.fs.map (mEnt .u32 Fz.r Fz.vv Fz.b) ++ [(.i .u32 u.s.ref, .i .i64 t.fz, t.cf)]) (t.cf + 1))
  have k2 : ∀ i, i ≠ t.mf → (G1.put t.mf (.map (t.fs.map (mEnt .u32 Fz.r Fz.vv Fz.b) ++ [(.i .u32 u.s.ref, .i .i64 t.fz, t.cf)]) (t.cf + 1))).get i = G1.get i := fun i hi => by rw [Heap.get_put, if_neg hi]
  have gf2 := Heap.gput G1 t.mf (.map (t.fs.map (mEnt .u32 Fz.r Fz.vv Fz.b) ++ [(.i .u32 u.s.ref, .i .i64 t.fz, t.cf)]) (t.cf + 1))
  generalize hG2 : G1.put t.mf (.map (t.fs.map (mEnt .u32 Fz.r Fz.vv Fz.b) ++ [(.i .u32 u.s.ref, .i .i64 t.fz, t.cf)]) (t.cf + 1)) = G2 at *
  have hfr := hfr1.trans hfr2
  have kp := h1.kp hfr
  have keep : ∀ i, i ≠ t.ma → i ≠ t.mf → G2.get i = H.get i := fun i e1 e2 => (k2 i e2).trans (k1 i e1)
  have sub : ∀ v, v ∈ (t.us.filter fun v => decide (v.k ≠ u.k)) → v ∈ t.us := fun v hv => (List.mem_filter.1 hv).1
  have sl : (t.us.filter fun v => decide (v.k ≠ u.k)).Sublist t.us := List.filter_sublist
  refine ⟨G2, fun R K => ?_, ⟨{ t with us := t.us.filter fun v => decide (v.k ≠ u.k), fs := t.fs ++ [⟨u.s.ref, t.fz, t.cf⟩], cf := t.cf + 1 }, ⟨w2, (keep x x1 x2).trans h1.obj, (k2 _ mm).trans gm1, ?_, fun v hv => (keep _ (a1 v (sub v hv)) (f1 v (sub v hv))).trans (h1.scs v (sub v hv)), h1.so.mono fun id o ha ho => (keep id (fun e => a2 (e ▸ sid_of ha)) (fun e => f2 (e ▸ sid_of ha))).trans ho, h1.se.mono fun id o ha ho => (keep id (fun e => a3 (e ▸ sid_of ha)) (fun e => f3 (e ▸ sid_of ha))).trans ho, mm, h1.np.sublist (sl.map _), h1.nk.sublist (sl.map _), ?_, fun v hv f hf => ?_, h1.nb.sublist (sl.map _), fun v hv => h1.lb v (sub v hv), ?_, fun f hf => ?_, fun f hf => ?_, h1.fz, h1.la, fun z hz => (h1.od z hz).kp kp, fun z hz => (h1.ed z hz).kp kp, fun i hi => ?_⟩, ?_, fun i hi => ?_⟩, ⟨hfr.mono fun i _ hi => h3 i hi, kp⟩⟩
  · simp only [g53, g53_r, g53_p0, Option.bind_some, Nat.zero_add]
    rw [lx.2.2.2.2.2.1, Option.bind_some, l0.1, Option.bind_some]
    refine (ed R _).trans ?_
    rw [(ldDT gx1).2.2.2.2.2.2.1, Option.bind_some, (ldSc gu1).1, Option.bind_some, (ldDT gx1).2.2.2.1, Option.bind_some]
    exact es R _
  · simp only [List.map_append, List.map_cons, List.map_nil]; exact gf2
  · simp only [List.map_append, List.map_cons, List.map_nil, List.nodup_append]
    refine ⟨h1.nf, by simp, fun a ha b hb => ?_⟩
    obtain ⟨f, hf, rfl⟩ := List.mem_map.1 ha
    rw [List.mem_singleton.1 hb]
    exact fun e => h1.dj u hu f hf e.symm
  · rcases List.mem_append.1 hf with hf | hf
    · exact h1.dj v (sub v hv) f hf
    · rw [List.mem_singleton.1 hf]
      simpa using (List.mem_filter.1 hv).2
  · simp only [List.map_append, List.map_cons, List.map_nil, List.nodup_append]
    refine ⟨h1.nc, by simp, fun a ha b hb => ?_⟩
    obtain ⟨f, hf, rfl⟩ := List.mem_map.1 ha
    rw [List.mem_singleton.1 hb]
    have := h1.lc f hf
    omega
  · rcases List.mem_append.1 hf with hf | hf
    · have := h1.lc f hf; simp only; omega
    · rw [List.mem_singleton.1 hf]; simp only; omega
  · rcases List.mem_append.1 hf with hf | hf
    · exact h1.fv f hf
    · rw [List.mem_singleton.1 hf]; exact h1.fz
  · refine h1.base i ?_
    rcases hi with hi | hi | hi | ⟨v, hv, rfl⟩ | hi | hi
    · exact .inl hi
    · exact .inr (.inl hi)
    · exact .inr (.inr (.inl hi))
    · exact .inr (.inr (.inr (.inl ⟨v, sub v hv, rfl⟩)))
    · exact .inr (.inr (.inr (.inr (.inl hi))))
    · exact .inr (.inr (.inr (.inr (.inr hi))))
  · unfold DT.dk Dk.over
    simp only [List.map_append, List.map_cons, List.map_nil, Dk.mk.injEq, and_true, true_and]
    rw [List.filter_map]; rfl
  · refine h3 i ?_
    rcases hi with hi | hi | hi | ⟨v, hv, rfl⟩ | hi | hi
    · exact .inl hi
    · exact .inr (.inl hi)
    · exact .inr (.inr (.inl hi))
    · exact .inr (.inr (.inr (.inl ⟨v, sub v hv, rfl⟩)))
    · exact .inr (.inr (.inr (.inr (.inl hi))))
    · exact .inr (.inr (.inr (.inr (.inr hi))))
end
end Go.Proofs.Ytnlfkllnmobppaa

