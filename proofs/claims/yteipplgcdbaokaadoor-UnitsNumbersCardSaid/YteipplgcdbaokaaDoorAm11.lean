/- What each operation of the machine stands for. -/
import Derived.Test.YteipplgcdbaokaaDoorAm10
namespace Go.Proofs.YteipplgcdbaokaaDoor.AM
open Go Go.RowKit

def Does (P : Program) (w : World) (s : Sem Next) (Φ : Value → World → Prop) : Prop :=
  (∃ c w', s.run P w = .ok (.value c) w' ∧ Φ c w') ∨ (∃ w', s.run P w = .ok .skip w' ∧ Φ undef w') ∨
  ∃ f args w', s.run P w = .ok (.enter f args) w' ∧ Calls P f args w' fun e w'' => ∃ c, e = .returned c ∧ Φ c w''

/-- a function's number stands for what 'F' computes -/
def FunOK (P : Program) (g : FuncId) (F : Fun) : Prop :=
  (∀ args w, (callFunc g args).run P w = .ok (.enter g args) w) ∧
  ∀ (R : Type) (args : List V) (H : Heap) (K : V → Heap → Option R) (r : R) (N : Nat) (w0 w : World) (ρ : Env) (xs : List Value), F R args H K = some r → Rels ρ args xs → HR N w0 ρ H w →
    Calls P g xs.toArray w fun e w' => ∃ c, e = .returned c ∧ ∃ v H' ρ', ρ.le ρ' ∧ Rel ρ' v c ∧ HR N w0 ρ' H' w' ∧ K v H' = some r
def EnvOK (P : Program) (E : FEnv) : Prop := ∀ g F, (g, F) ∈ E → FunOK P g F

section
variable {P : Program} {N : Nat} {w0 w : World} {ρ : Env} {H : Heap}

def Post {R : Type} (N : Nat) (w0 : World) (ρ : Env) (K : V → Heap → Option R) (r : R) (c : Value) (w' : World) : Prop := ∃ v H' ρ', ρ.le ρ' ∧ Rel ρ' v c ∧ HR N w0 ρ' H' w' ∧ K v H' = some r

theorem Post.same {R : Type} {K : V → Heap → Option R} {r : R} (h : HR N w0 ρ H w) {v : V} {c : Value} (hr : Rel ρ v c) (hk : K v H = some r) : Post N w0 ρ K r c w := ⟨v, H, ρ, ρ.le_refl, hr, h, hk⟩

theorem Does.post {m : Sem Next} {Φ Ψ : Value → World → Prop} (h : Does P w m Φ) (hi : ∀ c w', Φ c w' → Ψ c w') : Does P w m Ψ := by
  rcases h with ⟨c, w', h1, h2⟩ | ⟨w', h1, h2⟩ | ⟨f, args, w', h1, h2⟩
  · exact .inl ⟨c, w', h1, hi _ _ h2⟩
  · exact .inr (.inl ⟨w', h1, hi _ _ h2⟩)
  · exact .inr (.inr ⟨f, args, w', h1, h2.mono fun e w'' ⟨c, he, hp⟩ => ⟨c, he, hi _ _ hp⟩⟩)
theorem call_sound {R : Type} {r : R} {K : V → Heap → Option R} (h : HR N w0 ρ H w) : ∀ {E : FEnv}, EnvOK P E → ∀ {f : FuncId} {args : List V} {xs : List Value}, E.call f args H K = some r → Rels ρ args xs →
    Does P w (callFunc f xs.toArray) (Post N w0 ρ K r) := by
  intro E
  induction E with
  | nil => intro _ f args xs hc; simp [FEnv.call] at hc
  | cons p E ih =>
    intro hE f args xs hc hr
    obtain ⟨g, F⟩ := p
    simp only [FEnv.call] at hc
    split at hc
    · rename_i hfg
      subst hfg
      obtain ⟨h1, h2⟩ := hE f F (by simp)
      exact .inr (.inr ⟨f, xs.toArray, w, h1 _ _, h2 R args H K r N w0 w ρ xs hc hr h⟩)
    · exact ih (fun g' F' hm => hE g' F' (by simp [hm])) hc hr

theorem exC_sound {R : Type} {r : R} {c : CK} {v : V} {K : V → Option R} (h : exC c v K = some r) : K v = some r ∧ v.one = true := by
  cases c <;> simp only [exC] at h
  case any => split at h; exact ⟨h, by assumption⟩; cases h
  all_goals
    obtain ⟨x, h1, h2⟩ := Option.bind_eq_some_iff.1 h
    first
      | (obtain rfl := V.asI_eq h1; exact ⟨h2, rfl⟩)
      | (obtain rfl := V.asB_eq h1; exact ⟨h2, rfl⟩)
      | (obtain rfl := V.asS_eq h1; exact ⟨h2, rfl⟩)
      | (obtain rfl := V.asP_eq h1; exact ⟨h2, rfl⟩)
      | (obtain rfl := V.asSl_eq h1; exact ⟨h2, rfl⟩)
      | (obtain rfl := V.asM_eq h1; exact ⟨h2, rfl⟩)
theorem exCs_sound {R : Type} {r : R} : ∀ (cs : List CK) (vs : List V) (K : List V → Option R), exCs cs vs K = some r → K vs = some r := by
  intro cs
  induction cs with
  | nil => intro vs K h; cases vs <;> simp [exCs] at h; exact h
  | cons c cs ih =>
    intro vs K h
    cases vs with
    | nil => simp [exCs] at h
    | cons v vs =>
      simp only [exCs] at h
      exact ih _ (fun vs => K (v :: vs)) (exC_sound h).1
theorem exT_sound {R : Type} {r : R} {t : TypeId} {v : V} {K : V → Option R} (h : exT P t v K = some r) : K v = some r := by
  unfold exT at h
  split at h
  · split at h
    · split at h
      · split at h
        · obtain ⟨vs, h1, h2⟩ := Option.bind_eq_some_iff.1 h
          obtain rfl := V.asAgg_eq h1
          exact exCs_sound _ _ _ h2
        · obtain ⟨vs, h1, h2⟩ := Option.bind_eq_some_iff.1 h
          obtain rfl := V.asAgg_eq h1
          exact h2
      · cases h
    · exact (exC_sound h).1
  · cases h

theorem exRs_sound {R : Type} {r : R} : ∀ (ts : List TypeId) (vs : List V) (K : List V → Option R), exRs P ts vs K = some r → K vs = some r := by
  intro ts
  induction ts with
  | nil => intro vs K h; cases vs <;> simp [exRs] at h; exact h
  | cons t ts ih =>
    intro vs K h
    cases vs with
    | nil => simp [exRs] at h
    | cons v vs =>
      simp only [exRs] at h
      exact ih _ (fun vs => K (v :: vs)) (exT_sound (P := P) h)
theorem exR_sound {R : Type} {r : R} {t : TypeId} {v : V} {K : V → Option R} (h : exR P t v K = some r) : K v = some r := by
  unfold exR at h
  split at h
  · split at h
    · exact exRs_sound (P := P) _ _ _ h
    · cases h
  · exact exT_sound h

theorem map_obj (h : HR N w0 ρ H w) {id : Nat} {es : List (V × V × Nat)} {ck : Nat} {b : Base} (ho : H.get id = some (.map es ck)) (hb : ρ id = some b) :
    ∃ l : List MapEntry, w.heap[b.blk]? = some (.map l.toArray ck) ∧ ERel ρ es l := by
  obtain ⟨_, l, h1, h2, h3⟩ := h.base ho hb
  exact ⟨l, h1, ERel.of_get h2.symm fun j k v b' hj => h3 j k v b' hj⟩

theorem map_write (h : HR N w0 ρ H w) {id : Nat} {es es' : List (V × V × Nat)} {ck ck' : Nat} {b : Base} (ho : H.get id = some (.map es ck)) (hb : ρ id = some b) {l' : List MapEntry} (hr : ERel ρ es' l') :
    (setObj b.blk (.map l'.toArray ck')).run P w = .ok () { w with heap := w.heap.setIfInBounds b.blk (.map l'.toArray ck') } ∧
    HR N w0 ρ (H.put id (.map es' ck')) { w with heap := w.heap.setIfInBounds b.blk (.map l'.toArray ck') } := by
  obtain ⟨l, h1, _⟩ := map_obj h ho hb
  have hlt := (Array.getElem?_eq_some_iff.1 h1).1
  have hN := (h.base ho hb).1
  constructor
  · simp [setObj, Sem.run, h1]
  · refine h.write ho hb rfl rfl (by simp) rfl rfl rfl (fun k hk => by simp [Ne.symm hk]) ⟨hN, l', by simp [hlt], hr.length.symm, fun j k v b' hj => hr.get j k v b' hj⟩

theorem run_getObj_map {r : Nat} {l : Array MapEntry} {ck : Nat} (h : w.heap[r]? = some (.map l ck)) : (getObj r).run P w = .ok (.map l ck) w := by
  simp [getObj, Sem.run, h]

theorem methodV_sound {t : TypeId} {v : V} {x : Value} {name : String} {f : FuncId} {rv : V} (h : methodV P t v name = some (f, rv)) (hr : Rel ρ v x) (n : Nat) :
    ∃ rx, Rel ρ rv rx ∧ (method (n + 1) t x name).run P w = .ok (f, rx) w := by
  unfold methodV at h
  split at h
  rotate_left
  · cases h
  rename_i m hm
  cases hi : P.info? t with
  | none => simp [hi] at hm
  | some i =>
    simp only [hi, Option.bind_some] at hm
    split at h
    · rename_i f' hfun
      split at h
      · rename_i hpath
        split at h
        · rename_i e hu
          obtain ⟨rfl, rfl⟩ : f' = f ∧ v = rv := by simpa using h
          refine ⟨x, hr, ?_⟩
          simp [method, typeInfo, hi, hm, hpath, follow, hfun, receiverAt, run_underlying hu, Place.get]
        · cases h
      · rename_i s hpath
        split at h
        rotate_left
        · cases h
        rename_i hder
        split at h
        rotate_left
        · cases h
        rename_i fs hus
        split at h
        rotate_left
        · cases h
        rename_i fd hfd
        split at h
        · cases h
        · rename_i d hnp hufd
          split at h
          · cases h
          rename_i hsz
          split at h
          rotate_left
          · cases h
          rename_i id off
          obtain ⟨rfl, rfl⟩ : f' = f ∧ V.p (some (id, off + fd.offset)) = rv := by simpa using h
          cases hr with
          | p _ _ b hb =>
          refine ⟨.pointer (some ⟨b.blk, b.off + (off + fd.offset), none⟩), .p _ _ b hb, ?_⟩
          have hne : ¬ P.cellsOf fd.type = 0 := hsz
          have hnp' : ∀ e, d ≠ .pointer e := fun e he => hnp e he
          have hrec : ∀ o, (receiverAt fd.type (.var ⟨b.blk, b.off + (off + fd.offset), none⟩) true o).run P w = .ok (.pointer (some ⟨b.blk, b.off + (off + fd.offset), none⟩)) w := by
            intro o
            unfold receiverAt
            simp only [Sem.run_bind, run_underlying hufd, Result.andThen_ok]
            cases d <;> first | rfl | (exact absurd rfl (hnp' _))
          simp [method, typeInfo, hi, hm, hpath, follow, hfun, hder, run_underlying hus, hfd, Place.get, asAddr, fieldPlace, run_size hufd, hne, Addr.add_lit]
          rw [Nat.add_assoc]
          rw [hrec]; rfl
        · cases h
      · cases h
    · rename_i f' hfun
      split at h
      · rename_i hpath
        split at h
        · cases h
        · rename_i d hnp hu
          obtain ⟨rfl, rfl⟩ : f' = f ∧ v = rv := by simpa using h
          refine ⟨x, hr, ?_⟩
          have hrec : ∀ o, (receiverAt t (.val x) false o).run P w = .ok x w := by
            intro o
            unfold receiverAt
            simp only [Sem.run_bind, run_underlying hu, Result.andThen_ok]
            cases d <;> first | rfl | (exact absurd rfl (hnp _))
          simp [method, typeInfo, hi, hm, hpath, follow, hfun, hrec]
        · cases h
      · cases h
    · cases h

end
end Go.Proofs.YteipplgcdbaokaaDoor.AM
