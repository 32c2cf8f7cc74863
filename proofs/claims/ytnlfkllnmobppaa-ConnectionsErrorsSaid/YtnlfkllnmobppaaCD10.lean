/- Desks as plain data: what every step keeps. -/
import Derived.Test.YtnlfkllnmobppaaCD9
namespace Go.Proofs.Ytnlfkllnmobppaa
set_option linter.unusedVariables false
set_option linter.unusedSimpArgs false

/-- a section's numbers are in their ranges -/
structure Sc.Rg (s : Sc) : Prop where
  r : 0 ≤ s.ref ∧ s.ref ≤ 8191
  o : 0 ≤ s.oth ∧ s.oth ≤ 8191
  g : 0 ≤ s.giv ∧ s.giv ≤ 127
  w : 0 ≤ s.wan ∧ s.wan ≤ 127
structure Dk.Good (D : Dk) : Prop where
  s : ∀ s ∈ D.all, s.Rg
  o : ∀ l ∈ D.out, l.m.Ok
  l : 0 ≤ D.last ∧ D.last ≤ 8191
structure Dk.Le (D : Dk) (N : Nat) : Prop where
  w : 0 < D.w
  o : D.out.length ≤ N
  e : D.evs.length ≤ N
  f : D.fro.length ≤ N
theorem Dk.Good.num {D : Dk} (h : D.Good) : D.Num := fun s hs => ⟨(h.s s hs).g, (h.s s hs).w⟩
theorem Dk.Le.bd {D : Dk} {N : Nat} (h : D.Le N) (hN : N ≤ 10000000) : D.Bd := ⟨h.w, Nat.le_trans h.o hN, Nat.le_trans h.e hN, Nat.le_trans h.f hN⟩
theorem Dk.Le.mono {D : Dk} {N M : Nat} (h : D.Le N) (hN : N ≤ M) : D.Le M := ⟨h.w, Nat.le_trans h.o hN, Nat.le_trans h.e hN, Nat.le_trans h.f hN⟩
section
variable {D : Dk} {s : Sc} {m : Cm} {N : Nat}
theorem Dk.Good.find (h : D.Good) {r : Int} (hf : D.find r = some s) : s.Rg := h.s s (Dk.find_mem hf)
theorem Sc.Rg.turn (h : s.Rg) (st : Int) : (s.turn st).Rg := ⟨h.r, h.o, h.g, h.w⟩
theorem Sc.Rg.acked (h : s.Rg) (n : Int) : (s.acked n).Rg := by unfold Sc.acked; split; exact ⟨h.r, h.o, h.g, h.w⟩; exact h
theorem Dk.Good.put (h : D.Good) (hs : s.Rg) : (D.put s).Good := by
  refine ⟨fun b hb => ?_, h.o, h.l⟩
  obtain ⟨b0, hb0, rfl⟩ := List.mem_map.1 hb
  split
  · exact hs
  · exact h.s b0 hb0
theorem Dk.Good.post (h : D.Good) {l : Lt} (hl : l.m.Ok) : (D.post l).Good := by
  refine ⟨h.s, fun z hz => ?_, h.l⟩
  rcases List.mem_append.1 hz with hz | hz
  · exact h.o z hz
  · rw [List.mem_singleton.1 hz]; exact hl
theorem Sc.Rg.lt (h : s.Rg) (hm : m.Ok) : (s.lt m).m.Ok := by
  have := h.r; have := h.o
  refine ⟨hm.k, ?_, ?_, hm.c, hm.n, hm.x, hm.u⟩
  · show 0 ≤ (if m.k = 3 then m.f else s.ref) ∧ (if m.k = 3 then m.f else s.ref) ≤ 4294967295
    split
    · exact hm.f
    · omega
  · show 0 ≤ s.oth ∧ s.oth ≤ 4294967295
    omega
theorem Dk.Good.send (h : D.Good) (hs : s.Rg) (hm : m.Ok) : (D.send s m).Good := (h.put (s := { s with t2 := 0 }) ⟨hs.r, hs.o, hs.g, hs.w⟩).post (hs.lt hm)
theorem Dk.Good.tell (h : D.Good) (s : Sc) (x : Et) : (D.tell s x).Good := ⟨h.s, h.o, h.l⟩
theorem Dk.Good.over (h : D.Good) (r : Int) : (D.over r).Good := ⟨fun b hb => h.s b (List.mem_filter.1 hb).1, h.o, h.l⟩
theorem Dk.Good.take (h : D.Good) : D.take.Good := ⟨h.s, fun l hl => (by cases hl), h.l⟩
theorem Dk.Good.heard (h : D.Good) : D.heard.Good := ⟨h.s, h.o, h.l⟩
theorem Dk.seek_b (D : Dk) (n : Nat) : ∀ l : Int, 0 ≤ l ∧ l ≤ 8191 → 0 ≤ D.seek n l ∧ D.seek n l ≤ 8191 := by
  induction n with
  | zero => intro l h; exact h
  | succ n ih =>
    intro l h
    have h1 : 0 ≤ nxt1 l ∧ nxt1 l ≤ 8191 := by unfold nxt1; omega
    rw [Dk.seek]
    split
    · exact h1
    · exact ih _ h1
theorem Dk.Good.add (h : D.Good) {pt oth cls st : Int} (ho : 0 ≤ oth ∧ oth ≤ 8191) {D' : Dk} (e : D.add pt oth cls st = some (D', s)) : D'.Good ∧ s.Rg := by
  have hb := D.seek_b 8191 D.last h.l
  unfold Dk.add at e
  split at e
  · cases e
  · simp only [Option.some.injEq, Prod.mk.injEq] at e
    obtain ⟨rfl, rfl⟩ := e
    have hr : ({ ref := D.seek 8191 D.last, pt := pt, oth := oth, cls := cls, st := st } : Sc).Rg := ⟨hb, ho, ⟨Int.le_refl 0, by show (0 : Int) ≤ 127; omega⟩, ⟨Int.le_refl 0, by show (0 : Int) ≤ 127; omega⟩⟩
    refine ⟨⟨fun b hb => ?_, h.o, hb⟩, hr⟩
    rcases List.mem_append.1 hb with hb | hb
    · exact h.s b hb
    · rw [List.mem_singleton.1 hb]; exact hr
theorem Dk.Le.add (h : D.Le N) {pt oth cls st : Int} {D' : Dk} (e : D.add pt oth cls st = some (D', s)) : D'.Le N := by
  unfold Dk.add at e
  split at e
  · cases e
  · simp only [Option.some.injEq, Prod.mk.injEq] at e
    obtain ⟨rfl, rfl⟩ := e
    exact ⟨h.w, h.o, h.e, h.f⟩
/-- small messages -/
theorem ok_of {k f t c n x u : Int} (hk : 0 ≤ k ∧ k ≤ 255) (hf : 0 ≤ f ∧ f ≤ 8191) (ht : 0 ≤ t ∧ t ≤ 8191) (hc : 0 ≤ c ∧ c ≤ 255) (hn : 0 ≤ n ∧ n ≤ 255) (hx : 0 ≤ x ∧ x ≤ 255) (hu : 0 ≤ u ∧ u ≤ 255) (d : List Int) : (⟨k, f, t, c, n, x, u, d⟩ : Cm).Ok :=
  ⟨hk, ⟨hf.1, by show f ≤ 4294967295; omega⟩, ⟨ht.1, by show t ≤ 4294967295; omega⟩, hc, hn, hx, hu⟩
theorem Dk.Good.close (h : D.Good) (hs : s.Rg) {cause : Int} (hc : 0 ≤ cause ∧ cause ≤ 255) : (D.close s cause).Good :=
  ((h.tell s _).send hs (ok_of (by omega) (by omega) (by omega) (by omega) (by omega) (by omega) hc [])).put (Sc.Rg.turn (s := { s with t2 := 0 }) ⟨hs.r, hs.o, hs.g, hs.w⟩ 4)
theorem Dk.Good.act (h : D.Good) (hs : s.Rg) (hm : m.Ok) (hf : m.f ≤ 8191) : (D.act s m).Good := by
  have hw := hs.w
  have hw' : 0 ≤ (s.wan + 1) % 128 ∧ (s.wan + 1) % 128 ≤ 127 := by omega
  have hack := hs.acked m.x
  unfold Dk.act
  split
  · split
    · exact (h.put (Sc.Rg.turn (s := { s with oth := m.f }) ⟨hs.r, ⟨hm.f.1, hf⟩, hs.g, hs.w⟩ 3)).tell _ _
    · exact h
  split
  · exact (h.tell _ _).over _
  split
  · split
    · exact h
    split
    · exact h.tell _ _
    split
    · exact h.close hs (by omega)
    · refine Dk.Good.send (Dk.Good.tell (h.put ?_) _ _) ?_ (ok_of (by omega) (by omega) (by omega) (by omega) (by omega) (by omega) (by omega) [])
      · exact ⟨hack.r, hack.o, hack.g, hw'⟩
      · exact ⟨hack.r, hack.o, hack.g, hw'⟩
  split
  · split
    · exact h
    split
    · exact h.close hs (by omega)
    · exact h.put hack
  split
  · refine Dk.Good.over ?_ _
    split
    · exact (h.send hs (ok_of (by omega) (by omega) (by omega) (by omega) (by omega) (by omega) (by omega) [])).tell _ _
    · exact h.send hs (ok_of (by omega) (by omega) (by omega) (by omega) (by omega) (by omega) (by omega) [])
  split
  · split
    · exact h.over _
    · exact h
  · exact h
theorem Dk.Le.act (h : D.Le N) (s : Sc) (m : Cm) : (D.act s m).Le (N + 1) := by
  have h1 := h.w; have h2 := h.o; have h3 := h.e; have h4 := h.f
  unfold Dk.act
  repeat' split
  all_goals (refine ⟨?_, ?_, ?_, ?_⟩ <;> (try simp only [Dk.close, Dk.put_w, Dk.put_out, Dk.put_evs, Dk.put_fro, Dk.tell_w, Dk.tell_out, Dk.tell_evs, Dk.tell_fro, Dk.send_w, Dk.send_out, Dk.send_evs, Dk.send_fro, Dk.over_w, Dk.over_out, Dk.over_evs, Dk.over_fro, List.length_append, List.length_cons, List.length_nil]) <;> omega)
theorem gd_of_ck (h : m.ck = 0) : m.Gd := by
  unfold Cm.ck at h
  split at h
  · cases h
  split at h
  · assumption
  · cases h
theorem Dk.Good.hear (h : D.Good) (fr : Int) (hm : m.Ok) : (D.hear fr m).2.Good := by
  unfold Dk.hear
  split
  · exact h
  split
  · exact h
  rename_i hck
  have hg := gd_of_ck (Decidable.not_not.1 hck)
  have hf : m.f ≤ 8191 := hg.2.2.1
  have ht : m.t ≤ 8191 := hg.2.2.2.1
  have hf0 := hm.f; have ht0 := hm.t
  split
  · simp only [Dk.asked]
    split
    · exact h.post (ok_of (by omega) (by omega) (by omega) (by omega) (by omega) (by omega) (by omega) [])
    · rename_i e
      exact (h.add ⟨hf0.1, hf⟩ e).1.tell _ _
  · split
    · rename_i s e
      have hs : s.Rg := by
        unfold Dk.belongs at e
        split at e
        · cases e
        · rename_i s' hf'
          have := h.find hf'
          repeat' split at e
          all_goals first | (cases e; done) | (cases e; exact this)
      have hs1 : ({ s with t1 := 0 } : Sc).Rg := ⟨hs.r, hs.o, hs.g, hs.w⟩
      exact (h.put hs1).act hs1 hm hf
    · simp only [Dk.stray]
      split
      · exact h.post (ok_of (by omega) ⟨ht0.1, ht⟩ ⟨hf0.1, hf⟩ (by omega) (by omega) (by omega) (by omega) [])
      split
      · exact h.post (ok_of (by omega) ⟨ht0.1, ht⟩ ⟨hf0.1, hf⟩ (by omega) (by omega) (by omega) (by omega) [])
      · exact h
theorem Dk.Le.post (h : D.Le N) (l : Lt) : (D.post l).Le (N + 1) := ⟨h.w, by have := h.o; simp only [Dk.post_out, List.length_append, List.length_cons, List.length_nil]; omega, by have := h.e; simp only [Dk.post_evs]; omega, by have := h.f; simp only [Dk.post_fro]; omega⟩
theorem Dk.Le.put (h : D.Le N) (s : Sc) : (D.put s).Le N := ⟨h.w, h.o, h.e, h.f⟩
theorem Dk.Le.hear (h : D.Le N) (fr : Int) (m : Cm) : (D.hear fr m).2.Le (N + 1) := by
  have h1 := h.w; have h2 := h.o; have h3 := h.e; have h4 := h.f
  unfold Dk.hear
  split
  · exact h.mono (by omega)
  split
  · exact h.mono (by omega)
  split
  · simp only [Dk.asked]
    split
    · exact h.post _
    · rename_i e
      have := h.add e
      exact ⟨this.w, by have := this.o; simp only [Dk.tell_out]; omega, by have := this.e; simp only [Dk.tell_evs, List.length_append, List.length_cons, List.length_nil]; omega, by have := this.f; simp only [Dk.tell_fro]; omega⟩
  · split
    · exact (h.put _).act _ _
    · simp only [Dk.stray]
      split
      · exact h.post _
      split
      · exact h.post _
      · exact h.mono (by omega)
theorem Dk.Good.request (h : D.Good) {to cls : Int} (d : List Int) : (D.request to cls d).2.2.Good := by
  unfold Dk.request
  split
  · exact h
  split
  · exact h
  split
  · exact h
  · rename_i hc _ _ _ _ e
    obtain ⟨a, b⟩ := h.add (by omega) e
    exact a.send b (ok_of (by omega) (by omega) (by omega) (by omega) (by omega) (by omega) (by omega) d)
theorem Dk.Le.send (h : D.Le N) (s : Sc) (m : Cm) : (D.send s m).Le (N + 1) := (h.put _).post _
theorem Dk.Le.request (h : D.Le N) (to cls : Int) (d : List Int) : (D.request to cls d).2.2.Le (N + 1) := by
  unfold Dk.request
  split
  · exact h.mono (by omega)
  split
  · exact h.mono (by omega)
  split
  · exact h.mono (by omega)
  · rename_i e
    exact (h.add e).send _ _
theorem Dk.Good.confirm (h : D.Good) (r : Int) : (D.confirm r).2.Good := by
  unfold Dk.confirm
  split
  · exact h
  · rename_i s e
    have hs := h.find e
    split
    · exact (h.put (hs.turn 3)).send (hs.turn 3) (ok_of (by omega) (by omega) (by omega) (by omega) (by omega) (by omega) (by omega) [])
    · exact h
theorem Dk.Good.refuse (h : D.Good) (r : Int) {u : Int} (hu : 0 ≤ u ∧ u ≤ 255) : (D.refuse r u).2.Good := by
  unfold Dk.refuse
  split
  · exact h
  · rename_i s e
    have hs := h.find e
    split
    · split
      · exact h
      · exact (h.send hs (ok_of (by omega) (by omega) (by omega) (by omega) (by omega) (by omega) hu [])).over _
    · exact h
theorem Dk.Good.sendD (h : D.Good) (r : Int) (d : List Int) : (D.sendD r d).2.Good := by
  unfold Dk.sendD
  split
  · exact h
  · rename_i s e
    have hs := h.find e
    have hg := hs.g; have hw := hs.w
    split
    · split
      · exact h
      split
      · exact h
      · have a := h.send hs (m := { k := 4, n := s.giv, x := s.wan, d := d }) (ok_of (by omega) (by omega) (by omega) (by omega) (by omega) (by omega) (by omega) d)
        simp only
        split
        · exact a.put ⟨hs.r, hs.o, by show 0 ≤ (s.giv + 1) % 128 ∧ (s.giv + 1) % 128 ≤ 127; omega, hs.w⟩
        · exact a
    · exact h
theorem Dk.Good.release (h : D.Good) (r : Int) {u : Int} (hu : 0 ≤ u ∧ u ≤ 255) : (D.release r u).2.Good := by
  unfold Dk.release
  split
  · exact h
  · rename_i s e
    have hs := h.find e
    split
    · split
      · exact h
      split
      · exact h.over _
      · exact (h.send hs (ok_of (by omega) (by omega) (by omega) (by omega) (by omega) (by omega) hu [])).put (Sc.Rg.turn (s := { s with t2 := 0 }) ⟨hs.r, hs.o, hs.g, hs.w⟩ 4)
    · exact h
theorem Dk.Le.over (h : D.Le N) (r : Int) : (D.over r).Le (N + 1) := ⟨h.w, by have := h.o; simp only [Dk.over_out]; omega, by have := h.e; simp only [Dk.over_evs]; omega, by have := h.f; simp only [Dk.over_fro, List.length_append, List.length_cons, List.length_nil]; omega⟩
theorem Dk.Le.confirm (h : D.Le N) (r : Int) : (D.confirm r).2.Le (N + 1) := by
  unfold Dk.confirm
  split
  · exact h.mono (by omega)
  · split
    · exact (h.put _).send _ _
    · exact h.mono (by omega)
theorem Dk.Le.refuse (h : D.Le N) (r u : Int) : (D.refuse r u).2.Le (N + 2) := by
  unfold Dk.refuse
  split
  · exact h.mono (by omega)
  · split
    · split
      · exact h.mono (by omega)
      · exact (h.send _ _).over _
    · exact h.mono (by omega)
theorem Dk.Le.sendD (h : D.Le N) (r : Int) (d : List Int) : (D.sendD r d).2.Le (N + 1) := by
  unfold Dk.sendD
  split
  · exact h.mono (by omega)
  · split
    · split
      · exact h.mono (by omega)
      split
      · exact h.mono (by omega)
      · simp only
        split
        · exact (h.send _ _).put _
        · exact h.send _ _
    · exact h.mono (by omega)
theorem Dk.Le.release (h : D.Le N) (r u : Int) : (D.release r u).2.Le (N + 2) := by
  unfold Dk.release
  split
  · exact h.mono (by omega)
  · split
    · split
      · exact h.mono (by omega)
      split
      · exact (h.over _).mono (by omega)
      · exact ((h.send _ _).put _).mono (by omega)
    · exact h.mono (by omega)
end
end Go.Proofs.Ytnlfkllnmobppaa

