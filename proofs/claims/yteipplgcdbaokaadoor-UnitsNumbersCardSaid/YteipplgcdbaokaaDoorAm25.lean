/- From the machine to a row: a law whose arguments are numbers, truth values, texts, and rows of such. -/
import Derived.Test.YteipplgcdbaokaaDoorAm24
import Derived.Below
import Derived.Carry
import Derived.ChangeOld
namespace Go.Proofs.YteipplgcdbaokaaDoor.AM
open Go Go.RowKit Go.ChangeShapes

inductive Da where
  | one (d : Dt)
  | agg (ks : List Dt)
def argK (P : Program) (n : Nat) (t : TypeId) : Option Da := match P.underlying t with
  | some (.struct _) | some (.array _ _) => (dtsOf P n t).bind fun ks => some (.agg ks)
  | some .bool | some (.int _) | some .string | some (.slice _) => match dtsOf P n t with
    | some [d] => some (.one d)
    | _ => none
  | _ => none
def argsK (P : Program) (n : Nat) : List TypeId → Option (List Da)
  | [] => some []
  | t :: ts => (argK P n t).bind fun d => (argsK P n ts).bind fun ds => some (d :: ds)
inductive FitA (H : Heap) : Da → V → Prop
  | one (d : Dt) (v : V) : Fit H d v → FitA H (.one d) v
  | agg (ks : List Dt) (vs : List V) : Fits H ks vs → FitA H (.agg ks) (.agg vs)
inductive FitsA (H : Heap) : List Da → List V → Prop
  | nil : FitsA H [] []
  | cons (d : Da) (v : V) (ds : List Da) (vs : List V) : FitA H d v → FitsA H ds vs → FitsA H (d :: ds) (v :: vs)
theorem FitA.mono {H H' : Heap} (hs : H.sub H') {d : Da} {v : V} (h : FitA H d v) : FitA H' d v := by
  cases h with
  | one d v h => exact .one _ _ (h.mono hs)
  | agg ks vs h => exact .agg _ _ (h.mono hs)

section
variable {Hh : Type} {enc : TypeId × Value → Hh} {P : Program} {W : World}

theorem opened_arg {n : Nat} {t : TypeId} {da : Da} {v : Value} {d : DataW Hh} {ps : List MemPlace} {base held} {r b0} (hk : argK P n t = some da) (ht : DataW.Trod enc P W base (fun _ => true) held t v d ps)
    (hok : Value.okWide P W r b0 t v) (hw : ∀ m ∈ d.weights P t, m ≤ reachBytes) {ρ : Env} {H : Heap} (hh : HR W.heap.size W ρ H W) :
    ∃ (H' : Heap) (ρ' : Env) (u : V), H.sub H' ∧ ρ.le ρ' ∧ HR W.heap.size W ρ' H' W ∧ Rel ρ' u v ∧ FitA H' da u := by
  obtain ⟨fuel, ht⟩ := ht
  have scalar : ∀ dt, dtsOf P n t = some [dt] → (∀ cs, v ≠ .agg cs) → da = .one dt → v.cells.toList = [v] → ∃ (H' : Heap) (ρ' : Env) (u : V), H.sub H' ∧ ρ.le ρ' ∧ HR W.heap.size W ρ' H' W ∧ Rel ρ' u v ∧ FitA H' da u := by
    intro dt h1 _ h3 h4
    obtain ⟨H', ρ', vs, s, l, r', e, f⟩ := opened n t [dt] fuel _ _ h1 ht hw ρ H hh
    rw [h4] at e
    cases e with
    | cons u _ us _ e1 e2 =>
      cases e2
      exact ⟨H', ρ', u, s, l, r', e1, h3 ▸ .one _ _ (f.2 0 u dt rfl rfl)⟩
  have agg : ∀ ks, dtsOf P n t = some ks → (∃ cs, v = .agg cs) → da = .agg ks → ∃ (H' : Heap) (ρ' : Env) (u : V), H.sub H' ∧ ρ.le ρ' ∧ HR W.heap.size W ρ' H' W ∧ Rel ρ' u v ∧ FitA H' da u := by
    intro ks h1 ⟨cs, h2⟩ h3
    subst h2
    obtain ⟨H', ρ', vs, s, l, r', e, f⟩ := opened n t ks fuel _ _ h1 ht hw ρ H hh
    have e' : Rels ρ' vs cs.toList := by simpa [Value.cells] using e
    refine ⟨H', ρ', .agg vs, s, l, r', ?_, h3 ▸ .agg _ _ f⟩
    have := Rel.agg (ρ := ρ') vs cs.toList e'
    simpa using this
  unfold argK at hk
  split at hk
  · rename_i hu
    obtain ⟨ks, h1, h2⟩ := Option.bind_eq_some_iff.1 hk
    cases h2
    refine agg ks h1 ?_ rfl
    simp only [Value.okWide, hu] at hok
    obtain ⟨cs, h, _⟩ := hok; exact ⟨cs, h⟩
  · rename_i hu
    obtain ⟨ks, h1, h2⟩ := Option.bind_eq_some_iff.1 hk
    cases h2
    refine agg ks h1 ?_ rfl
    simp only [Value.okWide, hu] at hok
    obtain ⟨cs, h, _⟩ := hok; exact ⟨cs, h⟩
  all_goals first
    | (rename_i hu
       split at hk <;> first | (cases hk; done) | skip
       rename_i dt h1
       cases hk
       simp only [Value.okWide, hu, Cell.okWide] at hok
       refine scalar dt h1 ?_ rfl ?_
       · rintro cs rfl; simp [Cell.ok, hu] at hok
       · cases v <;> first | rfl | (simp [Cell.ok, hu] at hok; done))
    | cases hk

theorem opened_args {n : Nat} {base held} {r b0} : ∀ (ts : List TypeId) (das : List Da) (vs : List Value) (ds : List (DataW Hh)) (ps : List MemPlace), argsK P n ts = some das →
    DataW.TrodAll enc P W base (fun _ => true) held ts vs ds ps → (∀ (j : Nat) t v, ts[j]? = some t → vs[j]? = some v → Value.okWide P W r b0 t v) → (∀ m ∈ DataW.weightsEach P ts ds, m ≤ reachBytes) →
    ∀ (ρ : Env) (H : Heap), HR W.heap.size W ρ H W →
    ∃ (H' : Heap) (ρ' : Env) (us : List V), H.sub H' ∧ ρ.le ρ' ∧ HR W.heap.size W ρ' H' W ∧ Rels ρ' us vs ∧ FitsA H' das us := by
  intro ts
  induction ts with
  | nil =>
    intro das vs ds ps hk ht _ _ ρ H hh
    obtain ⟨rfl, rfl, rfl⟩ := trodAll_nil ht
    simp [argsK] at hk; subst hk
    exact ⟨H, ρ, [], fun _ _ h => h, ρ.le_refl, hh, .nil, .nil⟩
  | cons t ts ih =>
    intro das vs ds ps hk ht hok hw ρ H hh
    obtain ⟨v, vs', d, ds', p, q, rfl, rfl, rfl, h1, h2⟩ := trodAll_cons ht
    obtain ⟨da, k1, k2⟩ := Option.bind_eq_some_iff.1 hk
    obtain ⟨das', k3, k4⟩ := Option.bind_eq_some_iff.1 k2
    cases k4
    simp only [DataW.weightsEach, List.mem_append] at hw
    obtain ⟨H1, ρ1, u, s1, l1, r1, e1, f1⟩ := opened_arg k1 h1 (hok 0 t v rfl rfl) (fun m hm => hw m (.inl hm)) hh
    obtain ⟨H2, ρ2, us, s2, l2, r2, e2, f2⟩ := ih das' vs' ds' q k3 h2 (fun j t v a b => hok (j + 1) t v (by simpa using a) (by simpa using b)) (fun m hm => hw m (.inr hm)) ρ1 H1 r1
    exact ⟨H2, ρ2, u :: us, fun id o h => s2 _ _ (s1 _ _ h), l1.trans l2, r2, .cons _ _ _ _ (e1.mono l2) e2, .cons _ _ _ _ (f1.mono s2) f2⟩

theorem back_all (hl : laidOutB P = true) {W' : World} (hb : Below W.heap.size W W') : ∀ (ts : List TypeId) (vs : List Value) (ds : List (DataW Hh)) (ps : List MemPlace),
    (ts.all fun t => P.readableRec t && decide (t < P.types.size)) = true → DataW.TrodAll enc P W 0 (fun _ => true) true ts vs ds ps → DataW.TrodAll enc P W' 0 (fun b => decide (b < W.heap.size)) true ts vs ds ps := by
  intro ts
  induction ts with
  | nil => intro vs ds ps _ h; obtain ⟨rfl, rfl, rfl⟩ := trodAll_nil h; exact trodAll_mk0
  | cons t ts ih =>
    intro vs ds ps ha h
    obtain ⟨v, vs', d, ds', p, q, rfl, rfl, rfl, h1, h2⟩ := trodAll_cons h
    simp only [List.all_cons, Bool.and_eq_true, decide_eq_true_eq] at ha
    exact trodAll_cons_mk (Below.trod hl ha.1.1 ha.1.2 h1 hb (by obtain ⟨m, hm⟩ := h1; exact DataW.trod_lt m _ _ _ hm)) (ih _ _ _ (by simpa using ha.2) h2)
theorem trodAll_length : ∀ (ts : List TypeId) (vs : List Value) (ds : List (DataW Hh)) (ps : List MemPlace) {base spare held}, DataW.TrodAll enc P W base spare held ts vs ds ps → ds.length = ts.length := by
  intro ts
  induction ts with
  | nil => intro vs ds ps _ _ _ h; obtain ⟨_, rfl, _⟩ := trodAll_nil h; rfl
  | cons t ts ih =>
    intro vs ds ps _ _ _ h
    obtain ⟨v, vs', d, ds', p, q, rfl, rfl, rfl, h1, h2⟩ := trodAll_cons h
    simp [ih _ _ _ h2]
end

/-- what a law that answers true owes -/
theorem lift_law {C : Checked} {f : FuncId} {fn : Func} {s : ChangeSpec} {bt : TypeId} {das : List Da} {n : Nat} {os : Os} {H : Type} {enc : TypeId × Value → H}
    (started : os.Started) (own : ownKnob C.prog.godebug = none) (noInit : C.prog.inits.idxOf? f = none) (hfn : C.prog.funcs[f]? = some fn)
    (witness : ∃ (w : World) (tape : Tape) (i : Input), w.os = os ∧ (w.forCall tape i).Shaped C.prog ∧ i.vars = [] ∧ Input.okWide C.prog (w.forCall tape i) .any w.heap.size f i ∧
      s.pre6 enc C.prog fn [] false (w.forCall tape i).memory i.args ∧ ({} : Assume).holds C.prog (lone (Frame.enter C.prog f i.args .normal) [] (w.forCall tape i)))
    (hvars : s.vars = []) (hs : ∀ ds : List (DataW H), ds.length = fn.params.toList.length → s.fn H ds = { results := [.lit (.bool true)], args := ds })
    (hres : fn.resultTypes = #[bt]) (hbt : C.prog.underlying bt = some .bool) (hlaid : laidOutB C.prog = true)
    (hread : (fn.params.toList.all fun t => C.prog.readableRec t && decide (t < C.prog.types.size)) = true)
    (hk : argsK C.prog n fn.params.toList = some das)
    (hglob : ∀ W, GOk W.heap.size W)
    (walk : ∀ (W : World) (H : Heap) (ρ : Env) (us : List V) (args : Array Value), HR W.heap.size W ρ H W → Rels ρ us args.toList → FitsA H das us →
      Calls C.prog f args W fun e W' => e = .returned (.bool true) ∧ Below W.heap.size W W') :
    ReturnsInHanded {} C os f .any (s.pre6 enc C.prog fn [] false) (s.post enc C.prog fn false true false false) := by
  refine returnsInHanded_of_change_sized (C := C) own started noInit hfn witness ?_
  intro W base args ds gs before hval0 hW hcnd hsz0 _
  have hW' := hW
  obtain ⟨p, q, hA, hV, rfl, hfz, hnd⟩ := hW
  rw [hvars] at hV
  obtain ⟨rfl, rfl⟩ := trodVars_none hV
  have hvt : s.plain.varTypes C.prog = [] := by simp [ChangeSpec.plain, DataSpec.varTypes, hvars]
  rw [hvt, List.append_nil, List.append_nil] at hsz0
  have hlen := trodAll_length _ _ _ _ hA
  obtain ⟨H1, ρ1, us, s1, l1, r1, e1, f1⟩ := opened_args fn.params.toList das args.toList ds p hk hA (fun j t v a b => hval0 j t v (by simpa using a) (by simpa using b))
    (fun m hm => by simpa using List.all_eq_true.1 hsz0 m hm) noEnv noHeap (HR.void W (hglob W))
  refine (walk W H1 ρ1 us args r1 e1 f1).mono fun e W' ⟨he, bel⟩ => ?_
  subst he
  refine ⟨_, rfl, ds, [], p ++ [], [], p, [], hW', ?_, ?_, ?_, bel.frame _, fun h => by cases h⟩
  · rw [List.append_nil, hs ds hlen, hres]
    exact trodAll_mk1 (shut_bool hbt _)
  · rw [List.append_nil, hs ds hlen]
    exact back_all hlaid bel _ _ _ _ hread hA
  · rw [List.append_nil, hs ds hlen, hvars]
    rfl
end Go.Proofs.YteipplgcdbaokaaDoor.AM
