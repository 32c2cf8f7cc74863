/- Desks as plain data: finding, putting, removing. -/
import Derived.Test.YtnlfkllnmobppaaCD0
namespace Go.Proofs.Ytnlfkllnmobppaa
set_option linter.unusedVariables false
set_option linter.unusedSimpArgs false

theorem find?_ref {l : List Sc} {r : Int} {s : Sc} (h : l.find? (fun s => decide (s.ref = r)) = some s) : s.ref = r := by
  simpa using List.find?_some h
section
variable {D : Dk} {r : Int} {s : Sc}
theorem Dk.find_ref (h : D.find r = some s) : s.ref = r := find?_ref h
theorem Dk.find_mem (h : D.find r = some s) : s ∈ D.all := List.mem_of_find?_eq_some h
theorem Dk.find_none (h : D.find r = none) : ∀ b ∈ D.all, b.ref ≠ r := fun b hb => by simpa using List.find?_eq_none.1 h b hb
theorem Dk.find_no (h : ∀ b ∈ D.all, b.ref ≠ r) : D.find r = none := List.find?_eq_none.2 fun b hb => by simpa using h b hb
theorem find?_put {l : List Sc} {r : Int} {s : Sc} : (l.map fun b => if b.ref = s.ref then s else b).find? (fun b => decide (b.ref = r)) = if s.ref = r then (l.find? fun b => decide (b.ref = r)).map fun _ => s else l.find? fun b => decide (b.ref = r) := by
  induction l with
  | nil => simp
  | cons a l ih =>
    simp only [List.map_cons, List.find?_cons, ih]
    by_cases h : s.ref = r
    · by_cases ha : a.ref = s.ref
      · have har : a.ref = r := ha.trans h
        simp [ha, h]
      · have har : a.ref ≠ r := fun e => ha (e.trans h.symm)
        simp [ha, h, har]
    · by_cases ha : a.ref = s.ref
      · have har : a.ref ≠ r := fun e => h (ha.symm.trans e)
        simp [ha, h]
      · simp [ha, h]
theorem Dk.find_put (s : Sc) (r : Int) : (D.put s).find r = if s.ref = r then (D.find r).map fun _ => s else D.find r := find?_put
theorem Dk.find_put_self (h : D.find r = some s) (s' : Sc) (e : s'.ref = r) : (D.put s').find r = some s' := by
  rw [Dk.find_put, if_pos e, h]; rfl
theorem Dk.find_put_ne (s' : Sc) (e : s'.ref ≠ r) : (D.put s').find r = D.find r := by
  rw [Dk.find_put, if_neg e]
theorem find?_del {l : List Sc} {q r : Int} : (l.filter fun b => decide (b.ref ≠ q)).find? (fun b => decide (b.ref = r)) = if q = r then none else l.find? fun b => decide (b.ref = r) := by
  induction l with
  | nil => simp
  | cons a l ih =>
    simp only [List.filter_cons, List.find?_cons]
    by_cases h : q = r
    · subst h
      by_cases ha : a.ref = q
      · simp only [ha, ne_eq, not_true_eq_false, decide_false, Bool.false_eq_true, if_false]
        simp
      · simp only [ha, ne_eq, not_false_eq_true, decide_true, if_true, List.find?_cons, decide_false]
        simp
    · by_cases ha : a.ref = q
      · have : a.ref ≠ r := fun e => h (ha.symm.trans e)
        simp only [ha, ne_eq, not_true_eq_false, decide_false, Bool.false_eq_true, if_false, ih, if_neg h, decide_eq_false h]
      · simp only [ha, ne_eq, not_false_eq_true, decide_true, if_true, List.find?_cons, ih, if_neg h]
theorem Dk.find_over (q r : Int) : (D.over q).find r = if q = r then none else D.find r := find?_del
theorem find?_app {l m : List Sc} : (l ++ m).find? (fun b => decide (b.ref = r)) = ((l.find? fun b => decide (b.ref = r)).or (m.find? fun b => decide (b.ref = r))) := List.find?_append
/-- the names of the sections -/
def Dk.refs (D : Dk) : List Int := D.all.map (·.ref)
theorem Dk.refs_put (s : Sc) : (D.put s).refs = D.refs := by
  unfold Dk.refs Dk.put
  simp only [List.map_map]
  refine List.map_congr_left fun b _ => ?_
  simp only [Function.comp]
  split
  · rename_i h; exact h.symm
  · rfl
theorem Dk.len_put (s : Sc) : (D.put s).all.length = D.all.length := by simp [Dk.put]
theorem len_del {l : List Sc} (hn : (l.map (·.ref)).Nodup) {q : Int} (hq : ∃ b ∈ l, b.ref = q) : (l.filter fun b => decide (b.ref ≠ q)).length + 1 = l.length := by
  induction l with
  | nil => obtain ⟨b, hb, _⟩ := hq; cases hb
  | cons a l ih =>
    simp only [List.map_cons, List.nodup_cons] at hn
    by_cases ha : a.ref = q
    · have : (l.filter fun b => decide (b.ref ≠ q)) = l := List.filter_eq_self.2 fun b hb => by
        simp only [ne_eq, decide_eq_true_eq]
        exact fun e => hn.1 (List.mem_map.2 ⟨b, hb, e.trans ha.symm⟩)
      rw [List.filter_cons, if_neg (by simp [ha]), this, List.length_cons]
    · have hq' : ∃ b ∈ l, b.ref = q := by
        obtain ⟨b, hb, e⟩ := hq
        rcases List.mem_cons.1 hb with rfl | hb
        · exact absurd e ha
        · exact ⟨b, hb, e⟩
      have := ih hn.2 hq'
      simp only [List.filter_cons, ne_eq, ha, not_false_eq_true, decide_true, if_true, List.length_cons]
      simp only [ne_eq] at this
      omega
theorem Dk.len_over (hn : D.refs.Nodup) (h : D.find r = some s) : (D.over r).all.length + 1 = D.all.length :=
  len_del hn ⟨s, Dk.find_mem h, Dk.find_ref h⟩
theorem Dk.refs_over (hn : D.refs.Nodup) (q : Int) : (D.over q).refs.Nodup := by
  unfold Dk.refs Dk.over
  exact hn.sublist (List.filter_sublist.map _)
theorem Dk.mem_refs : r ∈ D.refs ↔ D.find r ≠ none := by
  unfold Dk.refs
  constructor
  · intro h e
    obtain ⟨b, hb, e2⟩ := List.mem_map.1 h
    exact Dk.find_none e b hb e2
  · intro h
    cases hf : D.find r with
    | none => exact absurd hf h
    | some s => exact List.mem_map.2 ⟨s, Dk.find_mem hf, Dk.find_ref hf⟩
@[simp] theorem Dk.find_tell (s : Sc) (x : Et) (r : Int) : (D.tell s x).find r = D.find r := rfl
@[simp] theorem Dk.find_post (l : Lt) (r : Int) : (D.post l).find r = D.find r := rfl
@[simp] theorem Dk.find_take (r : Int) : D.take.find r = D.find r := rfl
@[simp] theorem Dk.find_heard (r : Int) : D.heard.find r = D.find r := rfl
end
@[simp] theorem Dk.put_w (D : Dk) (s : Sc) : (D.put s).w = D.w := rfl
@[simp] theorem Dk.put_wt (D : Dk) (s : Sc) : (D.put s).wt = D.wt := rfl
@[simp] theorem Dk.put_idl (D : Dk) (s : Sc) : (D.put s).idl = D.idl := rfl
@[simp] theorem Dk.put_fz (D : Dk) (s : Sc) : (D.put s).fz = D.fz := rfl
@[simp] theorem Dk.put_last (D : Dk) (s : Sc) : (D.put s).last = D.last := rfl
@[simp] theorem Dk.put_fro (D : Dk) (s : Sc) : (D.put s).fro = D.fro := rfl
@[simp] theorem Dk.put_out (D : Dk) (s : Sc) : (D.put s).out = D.out := rfl
@[simp] theorem Dk.put_evs (D : Dk) (s : Sc) : (D.put s).evs = D.evs := rfl
@[simp] theorem Dk.post_w (D : Dk) (l : Lt) : (D.post l).w = D.w := rfl
@[simp] theorem Dk.post_wt (D : Dk) (l : Lt) : (D.post l).wt = D.wt := rfl
@[simp] theorem Dk.post_idl (D : Dk) (l : Lt) : (D.post l).idl = D.idl := rfl
@[simp] theorem Dk.post_fz (D : Dk) (l : Lt) : (D.post l).fz = D.fz := rfl
@[simp] theorem Dk.post_last (D : Dk) (l : Lt) : (D.post l).last = D.last := rfl
@[simp] theorem Dk.post_fro (D : Dk) (l : Lt) : (D.post l).fro = D.fro := rfl
@[simp] theorem Dk.post_out (D : Dk) (l : Lt) : (D.post l).out = D.out ++ [l] := rfl
@[simp] theorem Dk.post_evs (D : Dk) (l : Lt) : (D.post l).evs = D.evs := rfl
@[simp] theorem Dk.send_w (D : Dk) (s : Sc) (m : Cm) : (D.send s m).w = D.w := rfl
@[simp] theorem Dk.send_wt (D : Dk) (s : Sc) (m : Cm) : (D.send s m).wt = D.wt := rfl
@[simp] theorem Dk.send_idl (D : Dk) (s : Sc) (m : Cm) : (D.send s m).idl = D.idl := rfl
@[simp] theorem Dk.send_fz (D : Dk) (s : Sc) (m : Cm) : (D.send s m).fz = D.fz := rfl
@[simp] theorem Dk.send_last (D : Dk) (s : Sc) (m : Cm) : (D.send s m).last = D.last := rfl
@[simp] theorem Dk.send_fro (D : Dk) (s : Sc) (m : Cm) : (D.send s m).fro = D.fro := rfl
@[simp] theorem Dk.send_out (D : Dk) (s : Sc) (m : Cm) : (D.send s m).out = D.out ++ [s.lt m] := rfl
@[simp] theorem Dk.send_evs (D : Dk) (s : Sc) (m : Cm) : (D.send s m).evs = D.evs := rfl
@[simp] theorem Dk.tell_w (D : Dk) (s : Sc) (x : Et) : (D.tell s x).w = D.w := rfl
@[simp] theorem Dk.tell_wt (D : Dk) (s : Sc) (x : Et) : (D.tell s x).wt = D.wt := rfl
@[simp] theorem Dk.tell_idl (D : Dk) (s : Sc) (x : Et) : (D.tell s x).idl = D.idl := rfl
@[simp] theorem Dk.tell_fz (D : Dk) (s : Sc) (x : Et) : (D.tell s x).fz = D.fz := rfl
@[simp] theorem Dk.tell_last (D : Dk) (s : Sc) (x : Et) : (D.tell s x).last = D.last := rfl
@[simp] theorem Dk.tell_fro (D : Dk) (s : Sc) (x : Et) : (D.tell s x).fro = D.fro := rfl
@[simp] theorem Dk.tell_out (D : Dk) (s : Sc) (x : Et) : (D.tell s x).out = D.out := rfl
@[simp] theorem Dk.tell_evs (D : Dk) (s : Sc) (x : Et) : (D.tell s x).evs = D.evs ++ [{ x with ref := s.ref, fr := s.pt }] := rfl
@[simp] theorem Dk.over_w (D : Dk) (r : Int) : (D.over r).w = D.w := rfl
@[simp] theorem Dk.over_wt (D : Dk) (r : Int) : (D.over r).wt = D.wt := rfl
@[simp] theorem Dk.over_idl (D : Dk) (r : Int) : (D.over r).idl = D.idl := rfl
@[simp] theorem Dk.over_fz (D : Dk) (r : Int) : (D.over r).fz = D.fz := rfl
@[simp] theorem Dk.over_last (D : Dk) (r : Int) : (D.over r).last = D.last := rfl
@[simp] theorem Dk.over_fro (D : Dk) (r : Int) : (D.over r).fro = D.fro ++ [(r, D.fz)] := rfl
@[simp] theorem Dk.over_out (D : Dk) (r : Int) : (D.over r).out = D.out := rfl
@[simp] theorem Dk.over_evs (D : Dk) (r : Int) : (D.over r).evs = D.evs := rfl
@[simp] theorem Dk.take_w (D : Dk)  : D.take.w = D.w := rfl
@[simp] theorem Dk.take_wt (D : Dk)  : D.take.wt = D.wt := rfl
@[simp] theorem Dk.take_idl (D : Dk)  : D.take.idl = D.idl := rfl
@[simp] theorem Dk.take_fz (D : Dk)  : D.take.fz = D.fz := rfl
@[simp] theorem Dk.take_last (D : Dk)  : D.take.last = D.last := rfl
@[simp] theorem Dk.take_fro (D : Dk)  : D.take.fro = D.fro := rfl
@[simp] theorem Dk.take_out (D : Dk)  : D.take.out = [] := rfl
@[simp] theorem Dk.take_evs (D : Dk)  : D.take.evs = D.evs := rfl
@[simp] theorem Dk.heard_w (D : Dk)  : D.heard.w = D.w := rfl
@[simp] theorem Dk.heard_wt (D : Dk)  : D.heard.wt = D.wt := rfl
@[simp] theorem Dk.heard_idl (D : Dk)  : D.heard.idl = D.idl := rfl
@[simp] theorem Dk.heard_fz (D : Dk)  : D.heard.fz = D.fz := rfl
@[simp] theorem Dk.heard_last (D : Dk)  : D.heard.last = D.last := rfl
@[simp] theorem Dk.heard_fro (D : Dk)  : D.heard.fro = D.fro := rfl
@[simp] theorem Dk.heard_out (D : Dk)  : D.heard.out = D.out := rfl
@[simp] theorem Dk.heard_evs (D : Dk)  : D.heard.evs = [] := rfl
end Go.Proofs.Ytnlfkllnmobppaa

