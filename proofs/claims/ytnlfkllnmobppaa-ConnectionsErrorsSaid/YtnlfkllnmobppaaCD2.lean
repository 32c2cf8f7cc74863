/- A desk in the heap. -/
import Derived.Test.YtnlfkllnmobppaaCD1
import Derived.Test.YtnlfkllnmobppaaLRow
import Derived.Test.YtnlfkllnmobppaaLMap
import Derived.Test.YtnlfkllnmobppaaGJ
namespace Go.Proofs.Ytnlfkllnmobppaa
open Go AM Go.RowKit
set_option linter.unusedVariables false
set_option linter.unusedSimpArgs false

def Cm.vs (m : Cm) (s : Sl) : List V := [.i .u8 m.k, .i .u32 m.f, .i .u32 m.t, .i .u8 m.c, .i .u8 m.n, .i .u8 m.x, .i .u8 m.u, .sl s]
def lts (x : Lt × Sl) : List V := .i .u16 x.1.to :: x.1.m.vs x.2
def ets (x : Et × Sl) : List V := [.i .u32 x.1.ref, .i .u8 x.1.what, .i .u16 x.1.fr, .i .u8 x.1.cls, .i .u8 x.1.cau, .sl x.2]
theorem lts_len (x : Lt × Sl) : (lts x).length = 9 := rfl
theorem ets_len (x : Et × Sl) : (ets x).length = 6 := rfl
theorem lts_one (x : Lt × Sl) : (lts x).all V.one = true := rfl
theorem ets_one (x : Et × Sl) : (ets x).all V.one = true := rfl
def Sc.cells (s : Sc) : List V := [.i .u32 s.ref, .i .u16 s.pt, .i .u32 s.oth, .i .u8 s.cls, .i .u8 s.st, .i .i64 s.t0, .i .i64 s.t1, .i .i64 s.t2, .i .u8 s.giv, .i .u8 s.ack, .i .u8 s.wan]
/-- a section, where it lies -/
structure Pz where
  s : Sc
  p : Nat
  b : Nat
structure Fz where
  r : Int
  v : Int
  b : Nat
/-- a desk, as it lies -/
structure DT where
  w : Int
  wt : Int
  idl : Int
  fz : Int
  last : Int
  ma : Nat
  mf : Nat
  so : Sl
  se : Sl
  us : List Pz
  ck : Nat
  fs : List Fz
  cf : Nat
  os : List (Lt × Sl)
  es : List (Et × Sl)
def DT.dk (t : DT) : Dk := ⟨t.w, t.wt, t.idl, t.fz, t.last, t.us.map (·.s), t.fs.map fun f => (f.r, f.v), t.os.map (·.1), t.es.map (·.1)⟩
def DT.cells (t : DT) : List V := [.i .i64 t.w, .i .i64 t.wt, .i .i64 t.idl, .i .i64 t.fz, .i .u32 t.last, .m (some t.ma), .m (some t.mf), .sl t.so, .sl t.se]
abbrev Pz.k (u : Pz) : Int := u.s.ref
abbrev Pz.pv (u : Pz) : V := .p (some (u.p, 0))
abbrev Fz.vv (f : Fz) : V := .i .i64 f.v
/-- what stays where it is -/
structure Kp (n0 : Nat) (H H' : Heap) : Prop where
  nx : H.next ≤ H'.next
  at' : ∀ i, i < H.next → (i < n0 ∨ ∃ vs ro, H.get i = some (.cells vs 5 ro)) → H'.get i = H.get i
theorem Kp.refl (n0 : Nat) (H : Heap) : Kp n0 H H := ⟨Nat.le_refl _, fun _ _ _ => rfl⟩
theorem Kp.trans {n0 : Nat} {H H' H'' : Heap} (h : Kp n0 H H') (h' : Kp n0 H' H'') : Kp n0 H H'' :=
  ⟨Nat.le_trans h.nx h'.nx, fun i hi hc => by
    have e := h.at' i hi hc
    exact (h'.at' i (Nat.lt_of_lt_of_le hi h.nx) (hc.imp id fun ⟨vs, ro, hg⟩ => ⟨vs, ro, e.trans hg⟩)).trans e⟩
theorem Kp.ext {n0 : Nat} {H H' : Heap} (h : Ext H H') : Kp n0 H H' := ⟨h.next, fun i hi _ => h.same i hi (fun h => h)⟩
/-- bytes that stay -/
structure Dat (n0 : Nat) (H : Heap) (s : Sl) (l : List Int) : Prop where
  bs : BS H s l
  at' : l = [] ∨ ∃ q, s.a = some q ∧ q.1 < H.next ∧ (q.1 < n0 ∨ ∃ vs ro, H.get q.1 = some (.cells vs 5 ro))
  cap : CapOk s
theorem bs_empty' {H : Heap} {s : Sl} (h : s.len = 0) : BS H s [] := ⟨h, by simp [slCells, h]⟩
theorem Dat.kp {n0 : Nat} {H H' : Heap} {s : Sl} {l : List Int} (h : Dat n0 H s l) (hk : Kp n0 H H') : Dat n0 H' s l := by
  rcases h.at' with rfl | ⟨q, h1, h2, h3⟩
  · exact ⟨bs_empty' h.bs.len, .inl rfl, h.cap⟩
  · have e := hk.at' q.1 h2 h3
    exact ⟨h.bs.mono fun id off o ha ho => by rw [h1] at ha; cases ha; exact e.trans ho, .inr ⟨q, h1, Nat.lt_of_lt_of_le h2 hk.nx, h3.imp id fun ⟨vs, ro, hg⟩ => ⟨vs, ro, e.trans hg⟩⟩, h.cap⟩
theorem Dat.nil (n0 : Nat) (H : Heap) : Dat n0 H nilS [] := ⟨.nil _, .inl rfl, Nat.le_refl _⟩
def Foot (x : Nat) (t : DT) (i : Nat) : Prop := i = x ∨ i = t.ma ∨ i = t.mf ∨ (∃ u ∈ t.us, i = u.p) ∨ i ∈ sid t.so ∨ i ∈ sid t.se
structure DS (n0 : Nat) (H : Heap) (x : Nat) (t : DT) : Prop where
  wf : H.Wf
  obj : H.get x = some (.cells t.cells 90 false)
  mall : H.get t.ma = some (.map (t.us.map (mEnt .u32 Pz.k Pz.pv Pz.b)) t.ck)
  mfro : H.get t.mf = some (.map (t.fs.map (mEnt .u32 Fz.r Fz.vv Fz.b)) t.cf)
  scs : ∀ u ∈ t.us, H.get u.p = some (.cells u.s.cells 100 false)
  so : Own H 71 9 t.so (rows lts t.os)
  se : Own H 60 6 t.se (rows ets t.es)
  mm : t.ma ≠ t.mf
  np : (t.us.map (·.p)).Nodup
  nk : (t.us.map Pz.k).Nodup
  nf : (t.fs.map Fz.r).Nodup
  dj : ∀ u ∈ t.us, ∀ f ∈ t.fs, u.s.ref ≠ f.r
  nb : (t.us.map (·.b)).Nodup
  lb : ∀ u ∈ t.us, u.b < t.ck
  nc : (t.fs.map (·.b)).Nodup
  lc : ∀ f ∈ t.fs, f.b < t.cf
  fv : ∀ f ∈ t.fs, 1 ≤ f.v ∧ f.v ≤ 1048576
  fz : 1 ≤ t.fz ∧ t.fz ≤ 1048576
  la : 0 ≤ t.last ∧ t.last ≤ 8191
  od : ∀ z ∈ t.os, Dat n0 H z.2 z.1.m.d
  ed : ∀ z ∈ t.es, Dat n0 H z.2 z.1.d
  base : ∀ i, Foot x t i → n0 ≤ i
/-- what a step may touch, and what it makes -/
def grown (F : Nat → Prop) (H H' : Heap) (i : Nat) : Prop := F i ∨ H.next ≤ i ∧ i < H'.next
theorem grown.mono {F : Nat → Prop} {H H' H'' : Heap} (h1 : H.next ≤ H'.next) (h2 : H'.next ≤ H''.next) {i : Nat} (h : grown (grown F H H') H' H'' i) : grown F H H'' i := by
  rcases h with (h | h) | h
  · exact .inl h
  · exact .inr (by omega)
  · exact .inr (by omega)
theorem AM.Fr'.join {F : Nat → Prop} {H G G' : Heap} (h : Fr' F H G) (h' : Fr' (grown F H G) G G') : Fr' F H G' :=
  ⟨Nat.le_trans h.next h'.next, fun i hi hf => (h'.same i (Nat.lt_of_lt_of_le hi h.next) (fun hg => by rcases hg with hg | hg; exact hf hg; omega)).trans (h.same i hi hf)⟩
section
variable {n0 : Nat} {H : Heap} {x : Nat} {t : DT}
theorem DS.ltf (h : DS n0 H x t) {i : Nat} (hf : Foot x t i) : i < H.next := by
  rcases hf with rfl | rfl | rfl | ⟨u, hu, rfl⟩ | hs | hs
  · exact h.wf _ _ h.obj
  · exact h.wf _ _ h.mall
  · exact h.wf _ _ h.mfro
  · exact h.wf _ _ (h.scs u hu)
  · exact h.wf _ _ (h.so.sidg hs).2
  · exact h.wf _ _ (h.se.sidg hs).2
theorem ne_of_get {i j : Nat} {a b : O} (h1 : H.get i = some a) (h2 : H.get j = some b) (h : a ≠ b) : i ≠ j := by
  rintro rfl; rw [h1] at h2; exact h (Option.some.inj h2)
theorem ne_ty {vs us : List V} {a b : TypeId} {r s : Bool} (h : a ≠ b) : O.cells vs a r ≠ O.cells us b s := fun e => h (by cases e; rfl)
theorem DS.xne (h : DS n0 H x t) : x ≠ t.ma ∧ x ≠ t.mf ∧ (∀ u ∈ t.us, x ≠ u.p) ∧ x ∉ sid t.so ∧ x ∉ sid t.se :=
  ⟨ne_of_get h.obj h.mall (by simp), ne_of_get h.obj h.mfro (by simp), fun u hu => ne_of_get h.obj (h.scs u hu) (ne_ty (by decide)), fun hs => ne_of_get h.obj (h.so.sidg hs).2 (ne_ty (by decide)) rfl, fun hs => ne_of_get h.obj (h.se.sidg hs).2 (ne_ty (by decide)) rfl⟩
theorem DS.ane (h : DS n0 H x t) : (∀ u ∈ t.us, u.p ≠ t.ma) ∧ t.ma ∉ sid t.so ∧ t.ma ∉ sid t.se :=
  ⟨fun u hu => ne_of_get (h.scs u hu) h.mall (by simp), fun hs => ne_of_get h.mall (h.so.sidg hs).2 (by simp) rfl, fun hs => ne_of_get h.mall (h.se.sidg hs).2 (by simp) rfl⟩
theorem DS.fne (h : DS n0 H x t) : (∀ u ∈ t.us, u.p ≠ t.mf) ∧ t.mf ∉ sid t.so ∧ t.mf ∉ sid t.se :=
  ⟨fun u hu => ne_of_get (h.scs u hu) h.mfro (by simp), fun hs => ne_of_get h.mfro (h.so.sidg hs).2 (by simp) rfl, fun hs => ne_of_get h.mfro (h.se.sidg hs).2 (by simp) rfl⟩
theorem DS.sne (h : DS n0 H x t) : (∀ u ∈ t.us, u.p ∉ sid t.so ∧ u.p ∉ sid t.se) ∧ ∀ i ∈ sid t.so, i ∉ sid t.se :=
  ⟨fun u hu => ⟨fun hs => ne_of_get (h.scs u hu) (h.so.sidg hs).2 (ne_ty (by decide)) rfl, fun hs => ne_of_get (h.scs u hu) (h.se.sidg hs).2 (ne_ty (by decide)) rfl⟩, fun i hi hs => ne_of_get (h.so.sidg hi).2 (h.se.sidg hs).2 (ne_ty (by decide)) rfl⟩
/-- what is at a place of the desk is no bytes -/
theorem DS.nobytes (h : DS n0 H x t) {i : Nat} (hf : Foot x t i) : ¬(i < n0 ∨ ∃ vs ro, H.get i = some (.cells vs 5 ro)) := by
  rintro (h1 | ⟨vs, ro, hg⟩)
  · have := h.base i hf; omega
  · rcases hf with rfl | rfl | rfl | ⟨u, hu, rfl⟩ | hs | hs
    · exact ne_of_get h.obj hg (ne_ty (by decide)) rfl
    · exact ne_of_get h.mall hg (by simp) rfl
    · exact ne_of_get h.mfro hg (by simp) rfl
    · exact ne_of_get (h.scs u hu) hg (ne_ty (by decide)) rfl
    · exact ne_of_get (h.so.sidg hs).2 hg (ne_ty (by decide)) rfl
    · exact ne_of_get (h.se.sidg hs).2 hg (ne_ty (by decide)) rfl
theorem DS.kp (h : DS n0 H x t) {H' : Heap} (hf : Fr' (Foot x t) H H') : Kp n0 H H' :=
  ⟨hf.next, fun i hi hc => hf.same i hi fun hft => h.nobytes hft hc⟩
/-- the desk's own cells, its letters and events turn -/
theorem DS.modx (h : DS n0 H x t) {H' : Heap} {t' : DT} (w : H'.Wf) (hfr : Fr' (fun i => i = x ∨ i ∈ sid t.so ∨ i ∈ sid t.se) H H') (hx : H'.get x = some (.cells t'.cells 90 false))
    (e1 : t'.ma = t.ma) (e2 : t'.mf = t.mf) (e3 : t'.us = t.us) (e4 : t'.ck = t.ck) (e5 : t'.fs = t.fs) (e6 : t'.cf = t.cf) (e7 : t'.fz = t.fz) (hl : 0 ≤ t'.last ∧ t'.last ≤ 8191)
    (so : Own H' 71 9 t'.so (rows lts t'.os)) (se : Own H' 60 6 t'.se (rows ets t'.es)) (od : ∀ z ∈ t'.os, Dat n0 H' z.2 z.1.m.d) (ed : ∀ z ∈ t'.es, Dat n0 H' z.2 z.1.d) (nso : ∀ i ∈ sid t'.so, n0 ≤ i) (nse : ∀ i ∈ sid t'.se, n0 ≤ i) : DS n0 H' x t' := by
  obtain ⟨x1, x2, x3, x4, x5⟩ := h.xne
  obtain ⟨a1, a2, a3⟩ := h.ane
  obtain ⟨f1, f2, f3⟩ := h.fne
  obtain ⟨s1, s2⟩ := h.sne
  have keep : ∀ i o, H.get i = some o → i ≠ x → i ∉ sid t.so → i ∉ sid t.se → H'.get i = some o := fun i o ho h1 h2 h3 => hfr.get h.wf ho (by simp only [not_or]; exact ⟨h1, h2, h3⟩)
  refine ⟨w, hx, ?_, ?_, fun u hu => ?_, so, se, ?_, ?_, ?_, ?_, ?_, ?_, ?_, ?_, ?_, ?_, ?_, hl, od, ed, fun i hi => ?_⟩
  · rw [e1, e3, e4]; exact keep _ _ h.mall x1.symm a2 a3
  · rw [e2, e5, e6]; exact keep _ _ h.mfro x2.symm f2 f3
  · rw [e3] at hu; exact keep _ _ (h.scs u hu) (x3 u hu).symm (s1 u hu).1 (s1 u hu).2
  · rw [e1, e2]; exact h.mm
  · rw [e3]; exact h.np
  · rw [e3]; exact h.nk
  · rw [e5]; exact h.nf
  · rw [e3, e5]; exact h.dj
  · rw [e3]; exact h.nb
  · rw [e3, e4]; exact h.lb
  · rw [e5]; exact h.nc
  · rw [e5, e6]; exact h.lc
  · rw [e5]; exact h.fv
  · rw [e7]; exact h.fz
  · rcases hi with rfl | rfl | rfl | ⟨u, hu, rfl⟩ | hs | hs
    · exact h.base _ (.inl rfl)
    · rw [e1]; exact h.base _ (.inr (.inl rfl))
    · rw [e2]; exact h.base _ (.inr (.inr (.inl rfl)))
    · rw [e3] at hu; exact h.base _ (.inr (.inr (.inr (.inl ⟨u, hu, rfl⟩))))
    · exact nso i hs
    · exact nse i hs
/-- a section turns -/
def Pz.turn (s' : Sc) (v : Pz) : Pz := if v.s.ref = s'.ref then { v with s := s' } else v
theorem Pz.turn_p (s' : Sc) (v : Pz) : (v.turn s').p = v.p := by unfold Pz.turn; split <;> rfl
theorem Pz.turn_b (s' : Sc) (v : Pz) : (v.turn s').b = v.b := by unfold Pz.turn; split <;> rfl
theorem Pz.turn_k (s' : Sc) (v : Pz) : (v.turn s').s.ref = v.s.ref := by
  unfold Pz.turn; split
  · rename_i h; exact h.symm
  · rfl
theorem inj_of' {α β : Type} {f : α → β} {us : List α} (hn : (us.map f).Nodup) {u v : α} (hu : u ∈ us) (hv : v ∈ us) (e : f u = f v) : u = v := by
  obtain ⟨i, hi⟩ := List.mem_iff_getElem?.1 hu
  obtain ⟨j, hj⟩ := List.mem_iff_getElem?.1 hv
  have hli := (List.getElem?_eq_some_iff.1 hi).1
  have : i = j := (List.getElem?_inj (i := i) (j := j) (by simpa using hli) hn).1 (by simp [hi, hj, e])
  subst this
  rw [hi] at hj
  exact Option.some.inj hj
theorem DS.mods (h : DS n0 H x t) {u : Pz} (hu : u ∈ t.us) {s' : Sc} (hr : s'.ref = u.s.ref) : DS n0 (H.put u.p (.cells s'.cells 100 false)) x { t with us := t.us.map (Pz.turn s') } := by
  obtain ⟨x1, x2, x3, x4, x5⟩ := h.xne
  obtain ⟨a1, a2, a3⟩ := h.ane
  obtain ⟨f1, f2, f3⟩ := h.fne
  obtain ⟨s1, s2⟩ := h.sne
  have keep : ∀ i o, H.get i = some o → i ≠ u.p → (H.put u.p (.cells s'.cells 100 false)).get i = some o := fun i o ho h1 => by rw [Heap.get_put, if_neg h1]; exact ho
  have hfr : Fr' (Foot x t) H (H.put u.p (.cells s'.cells 100 false)) := Fr'.put (S := Foot x t) H (.inr (.inr (.inr (.inl ⟨u, hu, rfl⟩)))) _
  have kp := h.kp hfr
  have mp : ∀ {β : Type} (f : Pz → β), (∀ v : Pz, f (v.turn s') = f v) → (t.us.map (Pz.turn s')).map f = t.us.map f := fun f hf => by
    rw [List.map_map]; exact List.map_congr_left fun v _ => hf v
  refine ⟨h.wf.put (h.scs u hu) _, keep _ _ h.obj (x3 u hu), ?_, keep _ _ h.mfro (fun e => f1 u hu e.symm), fun v hv => ?_, h.so.mono fun id o ha ho => keep _ _ ho (fun e => (s1 u hu).1 (e ▸ sid_of ha)), h.se.mono fun id o ha ho => keep _ _ ho (fun e => (s1 u hu).2 (e ▸ sid_of ha)), h.mm, ?_, ?_, h.nf, ?_, ?_, ?_, h.nc, h.lc, h.fv, h.fz, h.la, fun z hz => (h.od z hz).kp kp, fun z hz => (h.ed z hz).kp kp, fun i hi => ?_⟩
  · show _ = some (O.map ((t.us.map (Pz.turn s')).map (mEnt .u32 Pz.k Pz.pv Pz.b)) t.ck)
    rw [mp _ (fun v => by simp only [mEnt, Pz.k, Pz.pv, Pz.turn_k, Pz.turn_p, Pz.turn_b])]
    exact keep _ _ h.mall (fun e => a1 u hu e.symm)
  · obtain ⟨v0, hv0, rfl⟩ := List.mem_map.1 hv
    by_cases e : v0.s.ref = s'.ref
    · have : v0 = u := inj_of' h.nk hv0 hu (e.trans hr)
      subst this
      rw [show v0.turn s' = { v0 with s := s' } from if_pos e]
      exact Heap.gput _ _ _
    · rw [show v0.turn s' = v0 from if_neg e]
      exact keep _ _ (h.scs v0 hv0) fun e2 => e (by rw [inj_of' h.np hv0 hu e2]; exact hr.symm)
  · show ((t.us.map (Pz.turn s')).map (·.p)).Nodup
    rw [mp (·.p) (Pz.turn_p s')]; exact h.np
  · show ((t.us.map (Pz.turn s')).map Pz.k).Nodup
    rw [mp Pz.k (Pz.turn_k s')]; exact h.nk
  · intro v hv f hf
    obtain ⟨v0, hv0, rfl⟩ := List.mem_map.1 hv
    rw [Pz.turn_k]; exact h.dj v0 hv0 f hf
  · show ((t.us.map (Pz.turn s')).map (·.b)).Nodup
    rw [mp (·.b) (Pz.turn_b s')]; exact h.nb
  · intro v hv
    obtain ⟨v0, hv0, rfl⟩ := List.mem_map.1 hv
    rw [Pz.turn_b]; exact h.lb v0 hv0
  · rcases hi with rfl | rfl | rfl | ⟨v, hv, rfl⟩ | hs | hs
    · exact h.base _ (.inl rfl)
    · exact h.base _ (.inr (.inl rfl))
    · exact h.base _ (.inr (.inr (.inl rfl)))
    · obtain ⟨v0, hv0, rfl⟩ := List.mem_map.1 hv
      rw [Pz.turn_p]; exact h.base _ (.inr (.inr (.inr (.inl ⟨v0, hv0, rfl⟩))))
    · exact h.base _ (.inr (.inr (.inr (.inr (.inl hs)))))
    · exact h.base _ (.inr (.inr (.inr (.inr (.inr hs)))))
theorem dk_turn (t : DT) (s' : Sc) : ({ t with us := t.us.map (Pz.turn s') } : DT).dk = t.dk.put s' := by
  unfold DT.dk Dk.put
  simp only [List.map_map, Dk.mk.injEq, and_true, true_and]
  refine List.map_congr_left fun v _ => ?_
  simp only [Function.comp, Pz.turn]
  split <;> rfl
end
end Go.Proofs.Ytnlfkllnmobppaa

