/- What stands for a world stands for it under other names, too; code whose way is left open. -/
import Derived.Test.YtnlfkllnmobppaaAmD
import Derived.Test.YtnlfkllnmobppaaAmC
namespace Go.Proofs.Ytnlfkllnmobppaa.AM
open Go Go.RowKit
set_option linter.unusedVariables false
set_option linter.unusedSimpArgs false

/-- names that were known count alone -/
theorem Rel.agree {ρ0 ρ' ρ'' : Env} (hag : ∀ id b, ρ0 id = some b → ρ'' id = ρ' id) {v : V} {x : Value} (h : Rel ρ' v x) : ∀ y, Rel ρ0 v y → Rel ρ'' v x := by
  refine Rel.rec (motive_1 := fun v x _ => ∀ y, Rel ρ0 v y → Rel ρ'' v x) (motive_2 := fun vs xs _ => ∀ ys, Rels ρ0 vs ys → Rels ρ'' vs xs)
    ?_ ?_ ?_ ?_ ?_ ?_ ?_ ?_ ?_ ?_ ?_ ?_ ?_ ?_ ?_ ?_ ?_ ?_ h
  · exact fun x _ _ => .b x
  · exact fun k n _ _ => .i k n
  · exact fun x _ _ => .s x
  · exact fun _ _ => .pn
  · intro id off b h y hy; cases hy with | p _ _ b' h' => exact .p id off b (by rw [hag id b' h']; exact h)
  · exact fun _ _ => .sn
  · intro id off len c b a h h1 h2 y hy; cases hy with | sx _ _ _ _ b' _ h' _ _ => exact .sx id off len c b a (by rw [hag id b' h']; exact h) h1 h2
  · intro id off len sz cap b a h h1 h2 h3 h4 y hy; cases hy with | so _ _ _ _ _ b' _ h' _ _ _ _ => exact .so id off len sz cap b a (by rw [hag id b' h']; exact h) h1 h2 h3 h4
  · exact fun _ _ => .mn
  · intro id b h y hy; cases hy with | m _ b' h' => exact .m id b (by rw [hag id b' h']; exact h)
  · intro f a b xs ys _ _ h1 h2 y hy; cases hy with | fn _ _ _ xs' ys' g1 g2 => exact .fn f a b xs ys (h1 _ g1) (h2 _ g2)
  · exact fun _ _ => .nilFn
  · intro t v x _ h y hy; cases hy with | ifc _ _ x' g => exact .ifc t v x (h _ g)
  · exact fun _ _ => .nilI
  · intro cs xs _ h y hy; cases hy with | agg _ xs' g => exact .agg cs xs (h _ g)
  · intro cs xs _ h y hy; cases hy with | tup _ xs' g => exact .tup cs xs (h _ g)
  · exact fun _ _ => .nil
  · intro v x vs xs _ _ h1 h2 ys hy; cases hy with | cons _ y _ ys g1 g2 => exact .cons _ _ _ _ (h1 _ g1) (h2 _ g2)
/-- the values that an object holds -/
def O.vals : O → List V
  | .cells vs _ _ => vs
  | .map es _ => es.flatMap fun e => [e.1, e.2.1]
  | .siter _ _ => []
  | .miter m _ _ _ => [.m m]
theorem ORel.agree {N : Nat} {ρ0 ρ' ρ'' : Env} {w : World} {b : Base} (hag : ∀ id b, ρ0 id = some b → ρ'' id = ρ' id) {o : O} (hk : ∀ v ∈ o.vals, ∃ y, Rel ρ0 v y) (h : ORel N ρ' w b o) : ORel N ρ'' w b o := by
  cases o with
  | cells vs e ro =>
    obtain ⟨c, fz, h1, h2, h3, h4⟩ := h
    refine ⟨c, fz, h1, h2, fun j v hv => ?_, h4⟩
    obtain ⟨x, a, r⟩ := h3 j v hv
    obtain ⟨y, hy⟩ := hk v (List.mem_of_getElem? hv)
    exact ⟨x, a, r.agree hag y hy⟩
  | map es clock =>
    obtain ⟨h0, l, h1, h2, h3⟩ := h
    refine ⟨h0, l, h1, h2, fun j k v born hv => ?_⟩
    obtain ⟨x, a, r, s, t⟩ := h3 j k v born hv
    have hm := List.mem_of_getElem? hv
    obtain ⟨y1, hy1⟩ := hk k (List.mem_flatMap.2 ⟨_, hm, by simp⟩)
    obtain ⟨y2, hy2⟩ := hk v (List.mem_flatMap.2 ⟨_, hm, by simp⟩)
    exact ⟨x, a, r.agree hag _ hy1, s.agree hag _ hy2, t⟩
  | siter s pos => exact h
  | miter m since seen stepped =>
    obtain ⟨h0, h00, mb, h1, h2⟩ := h
    refine ⟨h0, h00, mb, ?_, h2⟩
    cases m with
    | none => exact h1
    | some id =>
      obtain ⟨b', e1, e2⟩ := h1
      obtain ⟨y, hy⟩ := hk (.m (some id)) (by simp [O.vals])
      cases hy with
      | m _ b2 hb2 => exact ⟨b', by rw [hag id b2 hb2]; exact e1, e2⟩

section
variable {P : Program} {N : Nat} {w0 : Ref} {n : Nat} {E : FEnv}
/-- another heap stands for the world, if each of its objects is one of the heap that stands for it -/
theorem HR.canon {ρ ρ' : Env} {H H' Hc : Heap} {w w' : World} (h : HR N w0 ρ H w) (hle : ρ.le ρ') (h' : HR N w0 ρ' H' w') (f : Nat → Option Nat) (hn : H.next ≤ Hc.next)
    (f0 : ∀ id, id < H.next → f id = some id) (f1 : ∀ id, Hc.next ≤ id → f id = none) (f2 : ∀ id id', H.next ≤ id → f id = some id' → ∃ b, ρ' id' = some b)
    (hobj : ∀ id o, Hc.get id = some o → ∃ id', f id = some id' ∧ H'.get id' = some o ∧ ((∃ vs e, w0.resv id' vs e) ∨ ∀ v ∈ o.vals, ∃ y, Rel ρ v y))
    (inj : ∀ i j i' oi oj, f i = some i' → f j = some i' → Hc.get i = some oi → Hc.get j = some oj → i = j) :
    HR N w0 (fun id => (f id).bind ρ') Hc w' ∧ ρ.le (fun id => (f id).bind ρ') := by
  have hle' : ρ.le (fun id => (f id).bind ρ') := by
    intro id b hb
    show (f id).bind ρ' = some b
    rw [f0 id (h.name_lt hb)]; exact hle id b hb
  have hag : ∀ id b, ρ id = some b → (fun id => (f id).bind ρ') id = ρ' id := fun id b hb => by
    show (f id).bind ρ' = _
    rw [f0 id (h.name_lt hb)]; rfl
  refine ⟨⟨h'.below, h'.nle, h'.glob, fun id vs e hr => ?_, fun id hid => ?_, fun id o ho => ?_, fun id b vs e ho hb => ?_, fun i j bi bj oi oj hij hi hj hoi hoj hbi hbj => ?_, h'.drew, fun k hk => ?_⟩, hle'⟩
  · have hlt := (h.resv id vs e hr).1
    obtain ⟨a, c, d⟩ := h'.resv id vs e hr
    refine ⟨by omega, ?_, fun o ho => ?_⟩
    · show (f id).bind ρ' = none
      rw [f0 id hlt]; exact c
    · obtain ⟨id', e1, e2, _⟩ := hobj id o ho
      rw [f0 id hlt] at e1; cases e1
      exact d o e2
  · show (f id).bind ρ' = none
    rw [f1 id hid]; rfl
  · obtain ⟨id', e1, e2, e3⟩ := hobj id o ho
    rcases h'.obj id' o e2 with ⟨vs, e, hr⟩ | ⟨b, hb, hr⟩
    · left
      have hlt := (h.resv id' vs e hr).1
      by_cases hid : id < H.next
      · rw [f0 id hid] at e1; cases e1; exact ⟨vs, e, hr⟩
      · obtain ⟨b, hb⟩ := f2 id id' (by omega) e1
        rw [(h'.resv id' vs e hr).2.1] at hb; cases hb
    · right
      rcases e3 with ⟨vs, e, hres⟩ | e3
      · rw [(h'.resv id' vs e hres).2.1] at hb; cases hb
      exact ⟨b, by show (f id).bind ρ' = some b; rw [e1]; exact hb, hr.agree hag e3⟩
  · obtain ⟨id', e1, e2, e3⟩ := hobj id _ ho
    have hb' : ρ' id' = some b := by have : (f id).bind ρ' = some b := hb; rw [e1] at this; exact this
    exact h'.roN id' b vs e e2 hb'
  · obtain ⟨i', a1, a2, _⟩ := hobj i oi hi
    obtain ⟨j', b1, b2, _⟩ := hobj j oj hj
    have hbi' : ρ' i' = some bi := by have : (f i).bind ρ' = some bi := hbi; rw [a1] at this; exact this
    have hbj' : ρ' j' = some bj := by have : (f j).bind ρ' = some bj := hbj; rw [b1] at this; exact this
    refine h'.apart i' j' bi bj oi oj (fun e => ?_) a2 b2 hoi hoj hbi' hbj'
    subst e
    exact hij (inj i j i' oi oj a1 b1 hi hj)
  · obtain ⟨a1, a2, a3⟩ := h'.kept k hk
    refine ⟨a1, a2, fun id o b ho hown hb => ?_⟩
    obtain ⟨id', e1, e2, e3⟩ := hobj id o ho
    have hb' : ρ' id' = some b := by have : (f id).bind ρ' = some b := hb; rw [e1] at this; exact this
    exact a3 id' o b e2 hown hb'

/-- the values in the heap are known -/
theorem HR.known {ρ : Env} {H : Heap} {w : World} (h : HR N w0 ρ H w) {id : Nat} {o : O} (ho : H.get id = some o) : (∃ vs e, w0.resv id vs e) ∨ ∀ v ∈ o.vals, ∃ y, Rel ρ v y := by
  rcases h.obj id o ho with hr | ⟨b, hb, hr⟩
  · exact .inl hr
  right
  intro v hv
  cases o with
  | cells vs e ro =>
    obtain ⟨c, fz, _, _, h3, _⟩ := hr
    obtain ⟨j, hj⟩ := List.mem_iff_getElem?.1 hv
    obtain ⟨x, _, hx⟩ := h3 j v hj
    exact ⟨x, hx⟩
  | map es clock =>
    obtain ⟨_, l, _, _, h3⟩ := hr
    obtain ⟨e, he, hve⟩ := List.mem_flatMap.1 hv
    obtain ⟨j, hj⟩ := List.mem_iff_getElem?.1 he
    obtain ⟨x, _, r1, r2, _⟩ := h3 j e.1 e.2.1 e.2.2 hj
    simp only [List.mem_cons, List.not_mem_nil, or_false] at hve
    rcases hve with rfl | rfl
    · exact ⟨_, r1⟩
    · exact ⟨_, r2⟩
  | siter s pos => cases hv
  | miter m since seen stepped =>
    obtain ⟨_, _, mb, h1, _⟩ := hr
    simp only [O.vals, List.mem_singleton] at hv
    subst hv
    cases m with
    | none => exact ⟨_, .mn⟩
    | some id => obtain ⟨b', e1, _⟩ := h1; exact ⟨_, .m id b' e1⟩
theorem DL.cons' {all rest rest' : List Oper} {o : Oper} {fr : Fr} {H : Heap} {Φ : Fr → Heap → Prop} (hr : rest = o :: rest') (hd : dstOk n o.dst = true) (hg : o.guard = none)
    (h : DO P N w0 n o fr H fun v H' => DL P N w0 n all rest' (fput fr o.dst v) H' Φ) : DL P N w0 n all rest fr H Φ := by
  subst hr; exact DL.cons hd hg h
/-- code that the machine with local variables runs -/
theorem DW.ev2 (hE : EnvOK P E) (hL : EnvLin E) (hm : P.follows .mixedOrders = true) {lr : LRun} (hlr : lr.ok) (hn : n ≤ 500000) {lv : Nat → Bool} {kp : Nat → Option (List Nat)} {c : Code} {fr : Fr} {H : Heap} {Φ : Ex → Fr → Heap → Prop} {q : Ex × Fr × Heap}
    (hfr : ∀ t v, fget fr t = some v → t < 500000) (h : AM.ev2 P E lr lv n kp c fr H ret3 = some q) (hq : Φ q.1 (nearOf q.2.1) q.2.2) : DW P N w0 n c fr H Φ := by
  intro ρ a w Q hs hQ
  refine ev2_sound hE hL hm hlr hn c q fr H ret3 ρ (fun _ => ⟨0, 0, 0⟩) a w Q h ⟨fun t v _ hv => hs.fr t v hv, fun k cs hk => ?_, fun k k' cs cs' hk => ?_, fun x q hx => ?_, hs.size, hs.defers, hs.hr⟩ fun e fr' H' ρ' A' a' w' hl hs' hk => ?_
  · have := hfr _ _ hk; omega
  · have := hfr _ _ hk; omega
  · have := hfr _ _ hx; omega
  · simp only [ret3, Option.some.injEq] at hk
    subst hk
    refine hQ _ _ _ ρ' a' w' hl ⟨fun t v hv => ?_, hs'.size, hs'.defers, hs'.hr⟩ hq
    rw [nearOf, fget_ffilt] at hv
    split at hv
    · rename_i ht; rw [Nat.blt_eq] at ht; exact hs'.slots t v ht hv
    · cases hv
end
end Go.Proofs.Ytnlfkllnmobppaa.AM

