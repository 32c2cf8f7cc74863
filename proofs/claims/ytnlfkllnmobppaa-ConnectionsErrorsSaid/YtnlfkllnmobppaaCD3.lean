/- A desk in the heap: its small steps. -/
import Derived.Test.YtnlfkllnmobppaaCD2
import Derived.Test.YtnlfkllnmobppaaLSl
namespace Go.Proofs.Ytnlfkllnmobppaa
open Go AM Go.RowKit
set_option linter.unusedVariables false
set_option linter.unusedSimpArgs false

theorem eq23 (a b : Int) : eqV Try.prog 30 23 (.i .u32 a) (.i .u32 b) = some (a == b) := by kernel_rfl
theorem und87 : Try.prog.underlying 87 = some (.map 23 94) := by kernel_rfl
theorem und88 : Try.prog.underlying 88 = some (.map 23 3) := by kernel_rfl
theorem key23 (n : Int) : keyV Try.prog 23 (.i .u32 n) = true := by kernel_rfl
/-- the desk at x is D; what it holds is in F -/
def DA (n0 : Nat) (H : Heap) (x : Nat) (F : Nat → Prop) (D : Dk) : Prop := ∃ t, DS n0 H x t ∧ t.dk = D ∧ ∀ i, Foot x t i → F i
/-- .. and its section s is at p -/
def DP (n0 : Nat) (H : Heap) (x : Nat) (F : Nat → Prop) (D : Dk) (p : Nat) (s : Sc) : Prop := ∃ t, DS n0 H x t ∧ t.dk = D ∧ (∀ i, Foot x t i → F i) ∧ ∃ u ∈ t.us, u.p = p ∧ u.s = s
/-- .. and its sections are us -/
def DQ (n0 : Nat) (H : Heap) (x : Nat) (F : Nat → Prop) (D : Dk) (us : List Pz) : Prop := ∃ t, DS n0 H x t ∧ t.dk = D ∧ (∀ i, Foot x t i → F i) ∧ t.us = us
/-- a step: the heap after it, in the frame -/
structure Stp (n0 : Nat) (H H' : Heap) (F : Nat → Prop) : Prop where
  fr : Fr' F H H'
  kp : Kp n0 H H'
theorem Stp.trans {n0 : Nat} {H G G' : Heap} {F : Nat → Prop} (h : Stp n0 H G F) (h' : Stp n0 G G' (grown F H G)) : Stp n0 H G' F := ⟨h.fr.join h'.fr, h.kp.trans h'.kp⟩
theorem Stp.refl (n0 : Nat) (H : Heap) (F : Nat → Prop) : Stp n0 H H F := ⟨.refl _ _, .refl _ _⟩
theorem Stp.ext {n0 : Nat} {H G : Heap} {F : Nat → Prop} (h : Ext H G) : Stp n0 H G F := ⟨h.fr, .ext h⟩
section
variable {n0 : Nat} {H : Heap} {x : Nat} {F : Nat → Prop} {D : Dk} {p : Nat} {s : Sc}
theorem DP.da (h : DP n0 H x F D p s) : DA n0 H x F D := by obtain ⟨t, h1, h2, h3, _⟩ := h; exact ⟨t, h1, h2, h3⟩
theorem DA.wf (h : DA n0 H x F D) : H.Wf := by obtain ⟨t, h1, _⟩ := h; exact h1.wf
theorem DA.xF (h : DA n0 H x F D) : F x := by obtain ⟨t, h1, h2, h3⟩ := h; exact h3 _ (.inl rfl)
theorem DA.up {F' : Nat → Prop} (h : DA n0 H x F D) (hf : ∀ i, F i → F' i) : DA n0 H x F' D := by
  obtain ⟨t, h1, h2, h3⟩ := h; exact ⟨t, h1, h2, fun i hi => hf i (h3 i hi)⟩
theorem DP.up {F' : Nat → Prop} (h : DP n0 H x F D p s) (hf : ∀ i, F i → F' i) : DP n0 H x F' D p s := by
  obtain ⟨t, h1, h2, h3, h4⟩ := h; exact ⟨t, h1, h2, fun i hi => hf i (h3 i hi), h4⟩
theorem DA.joined {G : Heap} {D' : Dk} (hn : H.next ≤ G.next) {G' : Heap} (hn' : G.next ≤ G'.next) (h : DA n0 G' x (grown (grown F H G) G G') D') : DA n0 G' x (grown F H G') D' := h.up fun i hi => hi.mono hn hn'
theorem DP.joined {G : Heap} {D' : Dk} (hn : H.next ≤ G.next) {G' : Heap} (hn' : G.next ≤ G'.next) (h : DP n0 G' x (grown (grown F H G) G G') D' p s) : DP n0 G' x (grown F H G') D' p s := h.up fun i hi => hi.mono hn hn'
theorem ldDT {t : DT} (h : H.get x = some (.cells t.cells 90 false)) : H.ldI .i64 x 0 = some t.w ∧ H.ldI .i64 x 1 = some t.wt ∧ H.ldI .i64 x 2 = some t.idl ∧ H.ldI .i64 x 3 = some t.fz ∧ H.ldI .u32 x 4 = some t.last ∧ H.ldM x 5 = some (some t.ma) ∧ H.ldM x 6 = some (some t.mf) ∧ H.ldSl x 7 = some t.so ∧ H.ldSl x 8 = some t.se :=
  ⟨ldI_of h rfl, ldI_of h rfl, ldI_of h rfl, ldI_of h rfl, ldI_of h rfl, ldM_of h rfl, ldM_of h rfl, ldSl_of h rfl, ldSl_of h rfl⟩
theorem ldSc (h : H.get p = some (.cells s.cells 100 false)) : H.ldI .u32 p 0 = some s.ref ∧ H.ldI .u16 p 1 = some s.pt ∧ H.ldI .u32 p 2 = some s.oth ∧ H.ldI .u8 p 3 = some s.cls ∧ H.ldI .u8 p 4 = some s.st ∧ H.ldI .i64 p 5 = some s.t0 ∧ H.ldI .i64 p 6 = some s.t1 ∧ H.ldI .i64 p 7 = some s.t2 ∧ H.ldI .u8 p 8 = some s.giv ∧ H.ldI .u8 p 9 = some s.ack ∧ H.ldI .u8 p 10 = some s.wan :=
  ⟨ldI_of h rfl, ldI_of h rfl, ldI_of h rfl, ldI_of h rfl, ldI_of h rfl, ldI_of h rfl, ldI_of h rfl, ldI_of h rfl, ldI_of h rfl, ldI_of h rfl, ldI_of h rfl⟩
theorem DP.sc (h : DP n0 H x F D p s) : H.get p = some (.cells s.cells 100 false) := by
  obtain ⟨t, h1, _, _, u, hu, rfl, rfl⟩ := h; exact h1.scs u hu
theorem DP.found (h : DP n0 H x F D p s) : D.find s.ref = some s := by
  obtain ⟨t, h1, rfl, _, u, hu, rfl, rfl⟩ := h
  unfold Dk.find DT.dk
  simp only
  rw [List.find?_map]
  have : t.us.find? ((fun b : Sc => decide (b.ref = u.s.ref)) ∘ (·.s)) = some u := by
    cases hf : t.us.find? ((fun b : Sc => decide (b.ref = u.s.ref)) ∘ (·.s)) with
    | none => exact absurd (List.find?_eq_none.1 hf u hu) (by simp)
    | some v =>
      have h3 := List.find?_some hf
      have h4 := List.mem_of_find?_eq_some hf
      simp only [Function.comp, decide_eq_true_eq] at h3
      rw [inj_of' h1.nk h4 hu h3]
  rw [this]; rfl
theorem DA.nodup (h : DA n0 H x F D) : D.refs.Nodup := by
  obtain ⟨t, h1, rfl, _⟩ := h
  have := h1.nk
  unfold Dk.refs DT.dk
  simp only [List.map_map]
  exact this
/-- the section is written -/
theorem DP.write (h : DP n0 H x F D p s) {s' : Sc} (hr : s'.ref = s.ref) : DP n0 (H.put p (.cells s'.cells 100 false)) x F (D.put s') p s' ∧ Stp n0 H (H.put p (.cells s'.cells 100 false)) F := by
  obtain ⟨t, h1, rfl, h3, u, hu, rfl, rfl⟩ := h
  have hft : Foot x t u.p := .inr (.inr (.inr (.inl ⟨u, hu, rfl⟩)))
  refine ⟨⟨_, h1.mods hu hr, dk_turn t s', fun i hi => h3 i ?_, u.turn s', List.mem_map.2 ⟨u, hu, rfl⟩, Pz.turn_p _ _, ?_⟩, ⟨Fr'.put (S := F) H (h3 _ hft) _, h1.kp (Fr'.put (S := Foot x t) H hft _)⟩⟩
  · rcases hi with rfl | rfl | rfl | ⟨v, hv, rfl⟩ | hs | hs
    · exact .inl rfl
    · exact .inr (.inl rfl)
    · exact .inr (.inr (.inl rfl))
    · obtain ⟨v0, hv0, rfl⟩ := List.mem_map.1 hv
      rw [Pz.turn_p]; exact .inr (.inr (.inr (.inl ⟨v0, hv0, rfl⟩)))
    · exact .inr (.inr (.inr (.inr (.inl hs))))
    · exact .inr (.inr (.inr (.inr (.inr hs))))
  · unfold Pz.turn; rw [if_pos hr.symm]
/-- one field of the section is written -/
theorem DP.st (h : DP n0 H x F D p s) {k : Nat} {v : V} {s' : Sc} (hc : s.cells.set k v = s'.cells) (hk : k < 11) (hv : v.one = true) (hr : s'.ref = s.ref) :
    H.st p k v = some (H.put p (.cells s'.cells 100 false)) ∧ DP n0 (H.put p (.cells s'.cells 100 false)) x F (D.put s') p s' ∧ Stp n0 H (H.put p (.cells s'.cells 100 false)) F := by
  obtain ⟨h1, h2⟩ := h.write hr
  refine ⟨?_, h1, h2⟩
  rw [st_of h.sc (by exact hk) hv, hc]
/-- the desk's letters -/
theorem DS.push {t : DT} (h : DS n0 H x t) (l : Lt) {sl : Sl} (hd : Dat n0 H sl l.m.d) (hlen : t.os.length ≤ 100000000) :
    ∃ so' H', (∀ (R : Type) (K : Heap → Option R), alo H (.cells (lts (l, sl)) 71 false) (fun i12 h13 =>
      ((h13).ldSl x 7).bind fun x14 => if V.same (V.sl t.so) (V.sl x14) = true then (((slCells h13 9 (Sl.mk (some (i12, 0)) 1 (.ex 1)))).bind fun vs17 =>
      appendV h13 71 9 48 t.so (Sl.mk (some (i12, 0)) 1 (.ex 1)).len vs17 fun s15 h16 => ((h16).st x 7 (V.sl s15)).bind fun h20 => K h20) else none) = K H') ∧
      DS n0 H' x { t with so := so', os := t.os ++ [(l, sl)] } ∧ Fr' (fun i => i = x ∨ i ∈ sid t.so) H H' ∧ (∀ q ∈ sid so', H.next ≤ q ∧ q < H'.next) := by
  obtain ⟨x1, x2, x3, x4, x5⟩ := h.xne
  obtain ⟨r, G, e1, o1, f1, w1, n1⟩ := row_push lts lts_len lts_one h.wf (bytes := 48) h.so (l, sl) (by omega) (by omega) hlen
  have gx : G.get x = some (.cells t.cells 90 false) := f1.get h.wf h.obj x4
  have xn := Ext.new H (.cells (lts (l, sl)) 71 false)
  have gxn := xn.get h.wf h.obj
  have w2 := w1.put gx (.cells ({ t with so := r, os := t.os ++ [(l, sl)] } : DT).cells 90 false)
  have f2 : Fr' (fun i => i = x ∨ i ∈ sid t.so) H (G.put x (.cells ({ t with so := r, os := t.os ++ [(l, sl)] } : DT).cells 90 false)) :=
    (f1.mono fun i _ hi => .inr hi).trans (Fr'.put _ (.inl rfl) _)
  have kp := h.kp (f2.mono fun i _ hi => by
    rcases hi with rfl | hi
    · exact .inl rfl
    · exact .inr (.inr (.inr (.inr (.inl hi)))))
  have xlt := h.wf _ _ h.obj
  refine ⟨r, _, fun R K => ?_, h.modx (t' := { t with so := r, os := t.os ++ [(l, sl)] }) w2 (f2.mono fun i _ hi => by rcases hi with hi | hi; exact .inl hi; exact .inr (.inl hi)) (Heap.gput _ _ _) rfl rfl rfl rfl rfl rfl rfl h.la ?_ ?_ ?_ ?_ ?_ ?_, f2, fun q hq => n1 q hq⟩
  · simp only [alo]
    rw [(ldDT gxn).2.2.2.2.2.2.2.1, Option.bind_some, if_pos (same_sl _), e1, st_of gx (by show 7 < 9; decide) rfl]
    rfl
  · refine o1.mono fun id o ha ho => ?_
    rw [Heap.get_put, if_neg (by have := n1 id (sid_of ha); omega)]; exact ho
  · refine h.se.mono fun id o ha ho => f2.get h.wf ho ?_
    have := sid_of ha
    simp only [not_or]
    exact ⟨fun e => x5 (e ▸ this), fun e => h.sne.2 _ e this⟩
  · intro z hz
    rcases List.mem_append.1 hz with hz | hz
    · exact (h.od z hz).kp kp
    · rw [List.mem_singleton.1 hz]; exact hd.kp kp
  · exact fun z hz => (h.ed z hz).kp kp
  · intro i hi
    have := n1 i hi
    have := h.base x (.inl rfl)
    omega
  · exact fun i hi => h.base i (.inr (.inr (.inr (.inr (.inr hi)))))
/-- what is done elsewhere does not touch the desk -/
theorem DS.keep {t : DT} (h : DS n0 H x t) {G : Heap} (w : G.Wf) (hg : ∀ i, Foot x t i → G.get i = H.get i) (kp : Kp n0 H G) : DS n0 G x t :=
  ⟨w, (hg _ (.inl rfl)).trans h.obj, (hg _ (.inr (.inl rfl))).trans h.mall, (hg _ (.inr (.inr (.inl rfl)))).trans h.mfro, fun u hu => (hg _ (.inr (.inr (.inr (.inl ⟨u, hu, rfl⟩))))).trans (h.scs u hu),
    h.so.mono fun id o ha ho => (hg _ (.inr (.inr (.inr (.inr (.inl (sid_of ha))))))).trans ho, h.se.mono fun id o ha ho => (hg _ (.inr (.inr (.inr (.inr (.inr (sid_of ha))))))).trans ho,
    h.mm, h.np, h.nk, h.nf, h.dj, h.nb, h.lb, h.nc, h.lc, h.fv, h.fz, h.la, fun z hz => (h.od z hz).kp kp, fun z hz => (h.ed z hz).kp kp, h.base⟩
theorem DS.ext {t : DT} (h : DS n0 H x t) {G : Heap} (w : G.Wf) (hx : Ext H G) : DS n0 G x t := h.keep w (fun i hi => hx.same i (h.ltf hi) fun h => h) (.ext hx)
/-- the desk's events -/
theorem DS.note {t : DT} (h : DS n0 H x t) (e : Et) {sl : Sl} (hd : Dat n0 H sl e.d) (hlen : t.es.length ≤ 100000000) :
    ∃ se' H', (∀ (R : Type) (K : Heap → Option R), alo H (.cells (ets (e, sl)) 60 false) (fun i12 h13 =>
      ((h13).ldSl x 8).bind fun x14 => if V.same (V.sl t.se) (V.sl x14) = true then (((slCells h13 6 (Sl.mk (some (i12, 0)) 1 (.ex 1)))).bind fun vs17 =>
      appendV h13 60 6 40 t.se (Sl.mk (some (i12, 0)) 1 (.ex 1)).len vs17 fun s15 h16 => ((h16).st x 8 (V.sl s15)).bind fun h20 => K h20) else none) = K H') ∧
      DS n0 H' x { t with se := se', es := t.es ++ [(e, sl)] } ∧ Fr' (fun i => i = x ∨ i ∈ sid t.se) H H' ∧ (∀ q ∈ sid se', H.next ≤ q ∧ q < H'.next) := by
  obtain ⟨x1, x2, x3, x4, x5⟩ := h.xne
  obtain ⟨r, G, e1, o1, f1, w1, n1⟩ := row_push ets ets_len ets_one h.wf (bytes := 40) h.se (e, sl) (by omega) (by omega) hlen
  have gx : G.get x = some (.cells t.cells 90 false) := f1.get h.wf h.obj x5
  have xn := Ext.new H (.cells (ets (e, sl)) 60 false)
  have gxn := xn.get h.wf h.obj
  have w2 := w1.put gx (.cells ({ t with se := r, es := t.es ++ [(e, sl)] } : DT).cells 90 false)
  have f2 : Fr' (fun i => i = x ∨ i ∈ sid t.se) H (G.put x (.cells ({ t with se := r, es := t.es ++ [(e, sl)] } : DT).cells 90 false)) :=
    (f1.mono fun i _ hi => .inr hi).trans (Fr'.put _ (.inl rfl) _)
  have kp := h.kp (f2.mono fun i _ hi => by
    rcases hi with rfl | hi
    · exact .inl rfl
    · exact .inr (.inr (.inr (.inr (.inr hi)))))
  have xlt := h.wf _ _ h.obj
  refine ⟨r, _, fun R K => ?_, h.modx (t' := { t with se := r, es := t.es ++ [(e, sl)] }) w2 (f2.mono fun i _ hi => by rcases hi with hi | hi; exact .inl hi; exact .inr (.inr hi)) (Heap.gput _ _ _) rfl rfl rfl rfl rfl rfl rfl h.la ?_ ?_ ?_ ?_ ?_ ?_, f2, fun q hq => n1 q hq⟩
  · simp only [alo]
    rw [(ldDT gxn).2.2.2.2.2.2.2.2, Option.bind_some, if_pos (same_sl _), e1, st_of gx (by show 8 < 9; decide) rfl]
    rfl
  · refine h.so.mono fun id o ha ho => f2.get h.wf ho ?_
    have := sid_of ha
    simp only [not_or]
    exact ⟨fun e => x4 (e ▸ this), fun e => h.sne.2 _ this e⟩
  · refine o1.mono fun id o ha ho => ?_
    rw [Heap.get_put, if_neg (by have := n1 id (sid_of ha); omega)]; exact ho
  · exact fun z hz => (h.od z hz).kp kp
  · intro z hz
    rcases List.mem_append.1 hz with hz | hz
    · exact (h.ed z hz).kp kp
    · rw [List.mem_singleton.1 hz]; exact hd.kp kp
  · exact fun i hi => h.base i (.inr (.inr (.inr (.inr (.inl hi)))))
  · intro i hi
    have := n1 i hi
    have := h.base x (.inl rfl)
    omega
theorem foot_so {t : DT} {so : Sl} {os : List (Lt × Sl)} {H' : Heap} (hn : ∀ q ∈ sid so, H.next ≤ q ∧ q < H'.next) (hF : ∀ i, Foot x t i → F i) : ∀ i, Foot x { t with so := so, os := os } i → grown F H H' i := fun i hi => by
  rcases hi with h | h | h | h | h | h
  · exact .inl (hF _ (.inl h))
  · exact .inl (hF _ (.inr (.inl h)))
  · exact .inl (hF _ (.inr (.inr (.inl h))))
  · exact .inl (hF _ (.inr (.inr (.inr (.inl h)))))
  · exact .inr (hn i h)
  · exact .inl (hF _ (.inr (.inr (.inr (.inr (.inr h))))))
theorem foot_se {t : DT} {se : Sl} {es : List (Et × Sl)} {H' : Heap} (hn : ∀ q ∈ sid se, H.next ≤ q ∧ q < H'.next) (hF : ∀ i, Foot x t i → F i) : ∀ i, Foot x { t with se := se, es := es } i → grown F H H' i := fun i hi => by
  rcases hi with h | h | h | h | h | h
  · exact .inl (hF _ (.inl h))
  · exact .inl (hF _ (.inr (.inl h)))
  · exact .inl (hF _ (.inr (.inr (.inl h))))
  · exact .inl (hF _ (.inr (.inr (.inr (.inl h)))))
  · exact .inl (hF _ (.inr (.inr (.inr (.inr (.inl h))))))
  · exact .inr (hn i h)
theorem DA.dq (h : DA n0 H x F D) : ∃ us, DQ n0 H x F D us := by obtain ⟨t, h1, h2, h3⟩ := h; exact ⟨_, t, h1, h2, h3, rfl⟩
theorem DP.dq (h : DP n0 H x F D p s) : ∃ us, DQ n0 H x F D us ∧ ∃ u ∈ us, u.p = p ∧ u.s = s := by obtain ⟨t, h1, h2, h3, h4⟩ := h; exact ⟨_, ⟨t, h1, h2, h3, rfl⟩, h4⟩
theorem DQ.da {us : List Pz} (h : DQ n0 H x F D us) : DA n0 H x F D := by obtain ⟨t, h1, h2, h3, _⟩ := h; exact ⟨t, h1, h2, h3⟩
theorem DQ.dp {us : List Pz} (h : DQ n0 H x F D us) {u : Pz} (hu : u ∈ us) : DP n0 H x F D u.p u.s := by obtain ⟨t, h1, h2, h3, rfl⟩ := h; exact ⟨t, h1, h2, h3, u, hu, rfl, rfl⟩
/-- a letter more -/
theorem DQ.post {us : List Pz} (h : DQ n0 H x F D us) (l : Lt) {sl : Sl} (hd : Dat n0 H sl l.m.d) (hlen : D.out.length ≤ 100000000) :
    ∃ so H', H.ldSl x 7 = some so ∧ (∀ (R : Type) (K : Heap → Option R), alo H (.cells (lts (l, sl)) 71 false) (fun i12 h13 =>
      ((h13).ldSl x 7).bind fun x14 => if V.same (V.sl so) (V.sl x14) = true then (((slCells h13 9 (Sl.mk (some (i12, 0)) 1 (.ex 1)))).bind fun vs17 =>
      appendV h13 71 9 48 so (Sl.mk (some (i12, 0)) 1 (.ex 1)).len vs17 fun s15 h16 => ((h16).st x 7 (V.sl s15)).bind fun h20 => K h20) else none) = K H') ∧
      DQ n0 H' x (grown F H H') (D.post l) us ∧ Stp n0 H H' F := by
  obtain ⟨t, h1, rfl, h3, rfl⟩ := h
  obtain ⟨so', H', e1, d1, f1, n1⟩ := h1.push l hd (by simpa [DT.dk] using hlen)
  have fF : Fr' F H H' := f1.mono fun i _ hi => by
    rcases hi with rfl | hi
    · exact h3 _ (.inl rfl)
    · exact h3 _ (.inr (.inr (.inr (.inr (.inl hi)))))
  have kp := h1.kp (f1.mono fun i _ hi => by
    rcases hi with rfl | hi
    · exact .inl rfl
    · exact .inr (.inr (.inr (.inr (.inl hi)))))
  have edk : ({ t with so := so', os := t.os ++ [(l, sl)] } : DT).dk = t.dk.post l := by simp [DT.dk, Dk.post]
  exact ⟨t.so, H', (ldDT h1.obj).2.2.2.2.2.2.2.1, e1, ⟨_, d1, edk, foot_so n1 h3, rfl⟩, ⟨fF, kp⟩⟩
theorem DQ.ext {us : List Pz} (h : DQ n0 H x F D us) {G : Heap} (w : G.Wf) (hx : Ext H G) : DQ n0 G x F D us := by
  obtain ⟨t, h1, h2, h3, h4⟩ := h; exact ⟨t, h1.ext w hx, h2, h3, h4⟩
/-- an event more -/
theorem DQ.note {us : List Pz} (h : DQ n0 H x F D us) (e : Et) {sl : Sl} (hd : Dat n0 H sl e.d) (hlen : D.evs.length ≤ 100000000) :
    ∃ so H', H.ldSl x 8 = some so ∧ (∀ (R : Type) (K : Heap → Option R), alo H (.cells (ets (e, sl)) 60 false) (fun i12 h13 =>
      ((h13).ldSl x 8).bind fun x14 => if V.same (V.sl so) (V.sl x14) = true then (((slCells h13 6 (Sl.mk (some (i12, 0)) 1 (.ex 1)))).bind fun vs17 =>
      appendV h13 60 6 40 so (Sl.mk (some (i12, 0)) 1 (.ex 1)).len vs17 fun s15 h16 => ((h16).st x 8 (V.sl s15)).bind fun h20 => K h20) else none) = K H') ∧
      DQ n0 H' x (grown F H H') { D with evs := D.evs ++ [e] } us ∧ Stp n0 H H' F := by
  obtain ⟨t, h1, rfl, h3, rfl⟩ := h
  obtain ⟨se', H', e1, d1, f1, n1⟩ := h1.note e hd (by simpa [DT.dk] using hlen)
  have fF : Fr' F H H' := f1.mono fun i _ hi => by
    rcases hi with rfl | hi
    · exact h3 _ (.inl rfl)
    · exact h3 _ (.inr (.inr (.inr (.inr (.inr hi)))))
  have kp := h1.kp (f1.mono fun i _ hi => by
    rcases hi with rfl | hi
    · exact .inl rfl
    · exact .inr (.inr (.inr (.inr (.inr hi)))))
  have edk : ({ t with se := se', es := t.es ++ [(e, sl)] } : DT).dk = { t.dk with evs := t.dk.evs ++ [e] } := by simp [DT.dk]
  exact ⟨t.se, H', (ldDT h1.obj).2.2.2.2.2.2.2.2, e1, ⟨_, d1, edk, foot_se n1 h3, rfl⟩, ⟨fF, kp⟩⟩
theorem Stp.ext_left {G G' : Heap} (hx : Ext H G) (h : Stp n0 G G' F) : Stp n0 H G' F := ⟨hx.fr.trans h.fr, (Kp.ext hx).trans h.kp⟩
theorem grown.ext_left {G G' : Heap} (hn : H.next ≤ G.next) {i : Nat} (h : grown F G G' i) : grown F H G' i := by
  rcases h with h | h
  · exact .inl h
  · exact .inr (by omega)
theorem DQ.up {us : List Pz} {F' : Nat → Prop} (h : DQ n0 H x F D us) (hf : ∀ i, F i → F' i) : DQ n0 H x F' D us := by
  obtain ⟨t, h1, h2, h3, h4⟩ := h; exact ⟨t, h1, h2, fun i hi => hf i (h3 i hi), h4⟩
theorem DQ.wf {us : List Pz} (h : DQ n0 H x F D us) : H.Wf := h.da.wf
theorem DQ.sc {us : List Pz} (h : DQ n0 H x F D us) {u : Pz} (hu : u ∈ us) : H.get u.p = some (.cells u.s.cells 100 false) := (h.dp hu).sc
theorem DQ.write {us : List Pz} (h : DQ n0 H x F D us) {u : Pz} (hu : u ∈ us) {s' : Sc} (hr : s'.ref = u.s.ref) : DQ n0 (H.put u.p (.cells s'.cells 100 false)) x F (D.put s') (us.map (Pz.turn s')) ∧ Stp n0 H (H.put u.p (.cells s'.cells 100 false)) F ∧ u.turn s' ∈ us.map (Pz.turn s') ∧ u.turn s' = { u with s := s' } := by
  obtain ⟨t, h1, rfl, h3, rfl⟩ := h
  have hft : Foot x t u.p := .inr (.inr (.inr (.inl ⟨u, hu, rfl⟩)))
  refine ⟨⟨_, h1.mods hu hr, dk_turn t s', fun i hi => h3 i ?_, rfl⟩, ⟨Fr'.put (S := F) H (h3 _ hft) _, h1.kp (Fr'.put (S := Foot x t) H hft _)⟩, List.mem_map.2 ⟨u, hu, rfl⟩, by unfold Pz.turn; rw [if_pos hr.symm]⟩
  rcases hi with rfl | rfl | rfl | ⟨v, hv, rfl⟩ | hs | hs
  · exact .inl rfl
  · exact .inr (.inl rfl)
  · exact .inr (.inr (.inl rfl))
  · obtain ⟨v0, hv0, rfl⟩ := List.mem_map.1 hv
    rw [Pz.turn_p]; exact .inr (.inr (.inr (.inl ⟨v0, hv0, rfl⟩)))
  · exact .inr (.inr (.inr (.inr (.inl hs))))
  · exact .inr (.inr (.inr (.inr (.inr hs))))
/-- tell -/
theorem s56 (h : DP n0 H x F D p s) (e : Et) {sl : Sl} (hd : Dat n0 H sl e.d) (hlen : D.evs.length ≤ 100000000) :
    ∃ H', (∀ (R : Type) (K : Heap → Option R), g56 R (some (x, 0)) (some (p, 0)) e.ref e.what e.fr e.cls e.cau sl H K = K H') ∧ DP n0 H' x (grown F H H') (D.tell s e) p s ∧ Stp n0 H H' F := by
  obtain ⟨us, hq, u, hu, rfl, rfl⟩ := h.dq
  have w0 := hq.wf.new (.cells (ets (e, sl)) 60 false)
  have x0 := Ext.new H (.cells (ets (e, sl)) 60 false)
  have g0 := Heap.gnew H (.cells (ets (e, sl)) 60 false)
  have n0' : (H.new (.cells (ets (e, sl)) 60 false)).next = H.next + 1 := rfl
  generalize hG0 : H.new (.cells (ets (e, sl)) 60 false) = G0 at *
  have q0 := hq.ext w0 x0
  have l0 := ldSc (q0.sc hu)
  have hpl : u.p < H.next := hq.wf _ _ (hq.sc hu)
  have e1 : G0.st H.next 0 (.i .u32 u.s.ref) = some (G0.put H.next (.cells (ets ({ e with ref := u.s.ref }, sl)) 60 false)) := by rw [st_of g0 (by show 0 < 6; decide) rfl]; rfl
  have w1 := w0.put g0 (.cells (ets ({ e with ref := u.s.ref }, sl)) 60 false)
  have x1 : Ext H (G0.put H.next (.cells (ets ({ e with ref := u.s.ref }, sl)) 60 false)) := x0.above (Nat.le_refl _) _
  have g1 := Heap.gput G0 H.next (.cells (ets ({ e with ref := u.s.ref }, sl)) 60 false)
  have n1 : (G0.put H.next (.cells (ets ({ e with ref := u.s.ref }, sl)) 60 false)).next = H.next + 1 := n0'
  generalize hG1 : G0.put H.next (.cells (ets ({ e with ref := u.s.ref }, sl)) 60 false) = G1 at *
  have q1 := hq.ext w1 x1
  have l1 := ldSc (q1.sc hu)
  have e2 : G1.st H.next 2 (.i .u16 u.s.pt) = some (G1.put H.next (.cells (ets ({ e with ref := u.s.ref, fr := u.s.pt }, sl)) 60 false)) := by rw [st_of g1 (by show 2 < 6; decide) rfl]; rfl
  have w2 := w1.put g1 (.cells (ets ({ e with ref := u.s.ref, fr := u.s.pt }, sl)) 60 false)
  have x2 : Ext H (G1.put H.next (.cells (ets ({ e with ref := u.s.ref, fr := u.s.pt }, sl)) 60 false)) := x1.above (Nat.le_refl _) _
  have g2 := Heap.gput G1 H.next (.cells (ets ({ e with ref := u.s.ref, fr := u.s.pt }, sl)) 60 false)
  have n2 : (G1.put H.next (.cells (ets ({ e with ref := u.s.ref, fr := u.s.pt }, sl)) 60 false)).next = H.next + 1 := n1
  generalize hG2 : G1.put H.next (.cells (ets ({ e with ref := u.s.ref, fr := u.s.pt }, sl)) 60 false) = G2 at *
  have q2 := hq.ext w2 x2
  have hd2 : Dat n0 G2 sl e.d := hd.kp (.ext x2)
  obtain ⟨se, H', a1, a2, a3, a4⟩ := q2.note { e with ref := u.s.ref, fr := u.s.pt } (sl := sl) hd2 hlen
  refine ⟨H', fun R K => ?_, (a3.up fun i hi => hi.ext_left x2.next).dp hu, .ext_left x2 a4⟩
  simp only [g56, g56_r, g56_p0, alo, Option.bind_some, Nat.zero_add]
  rw [show [V.i IntKind.u32 e.ref, V.i IntKind.u8 e.what, V.i IntKind.u16 e.fr, V.i IntKind.u8 e.cls, V.i IntKind.u8 e.cau, V.sl sl] = ets (e, sl) from rfl, hG0]
  simp only [l0.1, l0.2.1, Option.bind_some, e1, l1.2.1, same_i, if_true, e2, a1]
  rw [ldI_of (n := u.s.ref) g2 rfl, ldI_of (n := e.what) g2 rfl, ldI_of (n := u.s.pt) g2 rfl, ldI_of (n := e.cls) g2 rfl, ldI_of (n := e.cau) g2 rfl, ldSl_of (x := sl) g2 rfl]
  exact a2 R K
end
end Go.Proofs.Ytnlfkllnmobppaa

