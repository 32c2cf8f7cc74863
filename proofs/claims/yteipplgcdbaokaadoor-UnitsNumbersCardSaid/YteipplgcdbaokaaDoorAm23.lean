/- Calls whose arguments and answer name no memory; and a law. -/
import Derived.Test.YteipplgcdbaokaaDoorAm22
namespace Go.Proofs.YteipplgcdbaokaaDoor.AM
open Go Go.RowKit

/-- a value that names no memory -/
def V.flat1 : V → Bool
  | .b _ | .i _ _ | .s _ | .p none | .m none | .nilFn | .nilI => true
  | .sl ⟨none, 0, .ex 0⟩ => true
  | .fn (.func _) [] [] => true
  | _ => false
def V.flat : V → Bool
  | .agg vs | .tup vs => vs.all V.flat1
  | v => V.flat1 v

theorem flat1_rel {ρ ρ' : Env} {v : V} {x : Value} (h : v.flat1 = true) (hr : Rel ρ v x) : Rel ρ' v x := by
  cases hr
  case fn f a b xs ys r1 r2 =>
    cases f <;> first | (simp [V.flat1] at h; done) | skip
    cases a <;> cases b <;> first | (simp [V.flat1] at h; done) | skip
    cases r1
    cases r2
    exact .fn _ _ _ _ _ .nil .nil
  all_goals first | (simp [V.flat1] at h; done) | constructor
theorem flats_rel {ρ ρ' : Env} : ∀ {vs : List V} {xs : List Value}, vs.all V.flat1 = true → Rels ρ vs xs → Rels ρ' vs xs := by
  intro vs
  induction vs with
  | nil => intro xs _ h; cases h; exact .nil
  | cons v vs ih =>
    intro xs h hr
    simp only [List.all_cons, Bool.and_eq_true] at h
    cases hr with
    | cons _ x _ xs r1 r2 => exact .cons _ _ _ _ (flat1_rel h.1 r1) (ih h.2 r2)
theorem flat_rel {ρ ρ' : Env} {v : V} {x : Value} (h : v.flat = true) (hr : Rel ρ v x) : Rel ρ' v x := by
  unfold V.flat at h
  split at h
  · cases hr with | agg _ xs r => exact .agg _ _ (flats_rel h r)
  · cases hr with | tup _ xs r => exact .tup _ _ (flats_rel h r)
  · exact flat1_rel h hr

def noHeap : Heap := ⟨0, .nil⟩
def noEnv : Env := fun _ => none
theorem HR.void (w : World) (hg : GOk w.heap.size w) : HR w.heap.size w noEnv noHeap w :=
  ⟨Below.refl _ _, Nat.le_refl _, hg, fun _ _ => rfl, fun id o h => by simp [noHeap, Heap.get, Tr.get] at h, fun id b vs e h => by simp [noHeap, Heap.get, Tr.get] at h, fun i j bi bj oi oj _ h => by simp [noHeap, Heap.get, Tr.get] at h⟩

/-- what stands goes on standing where nothing that was there has turned -/
theorem HR.over {N : Nat} {w0 w w' : World} {ρ : Env} {H : Heap} (h : HR N w0 ρ H w) (hb : Below w.heap.size w w') : HR N w0 ρ H w' := by
  refine ⟨h.below.trans (hb.mono h.nle), Nat.le_trans h.nle hb.size, h.glob, h.fresh, fun id o ho => ?_, h.roN, h.apart⟩
  obtain ⟨b, h1, h2⟩ := h.obj id o ho
  exact ⟨b, h1, h2.same (hb.block _ h2.lt)⟩

/-- a call whose arguments and answer name no memory: as it answers with nothing there, so it answers anywhere -/
def pureF (F : Fun) : Fun := fun _ args H K => if args.all V.flat then (F (V × Heap) args noHeap ret2).bind fun p => if p.1.flat then K p.1 H else none else none
theorem pureF_lin (F : Fun) : FunLin (pureF F) := fun _ _ _ _ _ _ _ h => il0 (bl fun _ => il0 (h _ _))
theorem flatsV_rel {ρ ρ' : Env} : ∀ {vs : List V} {xs : List Value}, vs.all V.flat = true → Rels ρ vs xs → Rels ρ' vs xs := by
  intro vs
  induction vs with
  | nil => intro xs _ h; cases h; exact .nil
  | cons v vs ih =>
    intro xs h hr
    simp only [List.all_cons, Bool.and_eq_true] at h
    cases hr with
    | cons _ x _ xs r1 r2 => exact .cons _ _ _ _ (flat_rel h.1 r1) (ih h.2 r2)
theorem pureF_ok {P : Program} {g : FuncId} {F : Fun} (hF : FunOK P g F) : FunOK P g (pureF F) := by
  refine ⟨hF.1, fun R args H K r N w0 w ρ xs hk hr hh => ?_⟩
  unfold pureF at hk
  split at hk
  · rename_i hflat
    obtain ⟨p, h1, h2⟩ := Option.bind_eq_some_iff.1 hk
    split at h2
    · rename_i hp
      refine (hF.2 _ args noHeap ret2 p w.heap.size w w noEnv xs h1 (flatsV_rel hflat hr) (HR.void w (hh.glob.below hh.below hh.nle))).mono fun e w' ⟨c, he, v, H', ρ', _, hv, hH, hkk⟩ => ?_
      obtain rfl : (v, H') = p := by simpa [ret2] using hkk
      exact ⟨c, he, v, H, ρ, ρ.le_refl, flat_rel hp hv, hh.over hH.below, h2⟩
    · cases h2
  · cases hk

/-- a call of fixed arguments that has been seen to answer -/
def knownF (v : V) : Fun := fun _ args H K => match args with
  | [] => K v H
  | _ => none
theorem knownF_ok {P : Program} {g : FuncId} {F : Fun} (hF : FunOK P g F) {v : V} {H1 : Heap} (hv : v.flat = true) (h : F (V × Heap) [] noHeap ret2 = some (v, H1)) : FunOK P g (knownF v) := by
  refine (pureF_ok hF).of_le fun R args H K r hk => ?_
  unfold knownF at hk
  split at hk
  · simp [pureF, h, hv, hk]
  · cases hk
theorem knownF_lin (v : V) : FunLin (knownF v) := by
  intro R S args H f g k h
  unfold knownF
  split
  · exact h _ _
  · rfl

/-- a law: where the machine answers true, the call does, and nothing that was there has turned -/
theorem law_calls {P : Program} {E : FEnv} (hE : EnvGood P E) (hm : P.follows .mixedOrders = true) {lr : LRun} (hlr : lr.ok) {kp : Nat → Option (List Nat)} {f : FuncId} {fn : Func} (hf : P.funcs[f]? = some fn) {args : List V} {xs : List Value} {H : Heap} {ρ : Env} {W : World}
    (hk : evFn P E lr fn kp args H (fun v _ => v.asB) = some true) (hr : Rels ρ args xs) (hh : HR W.heap.size W ρ H W) :
    Calls P f xs.toArray W fun e W' => e = .returned (.bool true) ∧ Below W.heap.size W W' :=
  (evFn_sound hE.ok hE.lin hm hlr hf hk hr hh).mono fun e W' ⟨c, he, v, H', ρ', _, hv, hH, hkk⟩ => by
    obtain rfl := V.asB_eq hkk
    cases hv
    exact ⟨he, hH.below⟩

end Go.Proofs.YteipplgcdbaokaaDoor.AM
