/- From the machine to a row that lists package variables. -/
import Derived.Test.YteipplgcdbaokaaDoorAm25
import Derived.Lib.LaidTab
import Derived.Handed
import Derived.Stop.Joined
namespace Go.Proofs.YteipplgcdbaokaaDoor.AM
open Go Go.RowKit Go.ChangeShapes

/-- what a law that answers true owes, where its row lists variables -/
theorem lift_law_laid {C : Checked} {f : FuncId} {fn : Func} {s : ChangeSpec} {bt : TypeId} {das : List Da} {n : Nat} {os : Os} {H : Type} {enc : TypeId × Value → H} {laid : List (String × DataW Unit)}
    (started : os.Started) (own : ownKnob C.prog.godebug = none) (noInit : C.prog.inits.idxOf? f = none) (hfn : C.prog.funcs[f]? = some fn)
    (witness : ∃ (w : World) (tape : Tape) (i : Input), w.os = os ∧ (w.forCall tape i).Shaped C.prog ∧ i.vars = [] ∧ Input.okWide C.prog (w.forCall tape i) .any w.heap.size f i ∧
      ((s.pre enc C.prog fn [] false (w.forCall tape i).memory i.args ∧ laidMetH C.prog laid (w.forCall tape i).memory) ∧ sizedMet enc C.prog fn (OpenSpec.ofChange s) false (w.forCall tape i).memory i.args) ∧ ({} : Assume).holds C.prog (lone (Frame.enter C.prog f i.args .normal) [] (w.forCall tape i)))
    (hvars : s.vars = []) (hs : ∀ ds : List (DataW H), ds.length = fn.params.toList.length → s.fn H ds = { results := [.lit (.bool true)], args := ds })
    (hres : fn.resultTypes = #[bt]) (hbt : C.prog.underlying bt = some .bool) (hlaid : laidOutB C.prog = true)
    (hread : (fn.params.toList.all fun t => C.prog.readableRec t && decide (t < C.prog.types.size)) = true)
    (hk : argsK C.prog n fn.params.toList = some das) (hglob : ∀ W, laidMetH C.prog laid W → GOk W.heap.size W)
    (walk : ∀ (W : World) (H : Heap) (ρ : Env) (us : List V) (args : Array Value), HR W.heap.size W ρ H W → Rels ρ us args.toList → FitsA H das us →
      Calls C.prog f args W fun e W' => e = .returned (.bool true) ∧ Below W.heap.size W W') :
    ReturnsInHanded {} C os f .any (fun w args => (s.pre enc C.prog fn [] false w args ∧ laidMetH C.prog laid w) ∧ sizedMet enc C.prog fn (OpenSpec.ofChange s) false w args) (s.post enc C.prog fn false true false false) := by
  refine returnsInHanded_of_change_and (C := C) (X := fun w _ => laidMetH C.prog laid w) (fun _ _ _ hh h => h.of_heap hh) own started noInit hfn witness ?_
  intro W base args ds gs before hval0 hW hcnd hsz0 hL _
  have hW' := hW
  obtain ⟨p, q, hA, hV, rfl, hfz, hnd⟩ := hW
  rw [hvars] at hV
  obtain ⟨rfl, rfl⟩ := trodVars_none hV
  have hvt : s.plain.varTypes C.prog = [] := by simp [ChangeSpec.plain, DataSpec.varTypes, hvars]
  rw [hvt, List.append_nil, List.append_nil] at hsz0
  have hlen := trodAll_length _ _ _ _ hA
  obtain ⟨H1, ρ1, us, s1, l1, r1, e1, f1⟩ := opened_args fn.params.toList das args.toList ds p hk hA (fun j t v a b => hval0 j t v (by simpa using a) (by simpa using b))
    (fun m hm => by simpa using List.all_eq_true.1 hsz0 m hm) noEnv noHeap (HR.void W (hglob W hL))
  refine (walk W H1 ρ1 us args r1 e1 f1).mono fun e W' ⟨he, bel⟩ => ?_
  subst he
  refine ⟨_, rfl, ds, [], p ++ [], [], p, [], hW', ?_, ?_, ?_, bel.frame _, fun h => by cases h⟩
  · rw [List.append_nil, hs ds hlen, hres]
    exact trodAll_mk1 (shut_bool hbt _)
  · rw [List.append_nil, hs ds hlen]
    exact back_all hlaid bel _ _ _ _ hread hA
  · rw [List.append_nil, hs ds hlen, hvars]
    rfl
/-- a listed table's cells, from the row's condition -/
theorem glob_of_tab {P : Program} {W : World} {name : String} {g : Nat} {k : IntKind} {zs : List Int} (hg : P.globalNamed name = some g) (h : Lib.TabIs P W name k zs) :
    g < W.heap.size ∧ ∃ e fz, W.heap[g]? = some (.cells (zs.map fun z => Value.int k z).toArray e fz) := by
  unfold Lib.TabIs World.var? at h
  rw [hg] at h
  simp only [Option.bind_some] at h
  split at h
  · rename_i cs e fz hx
    cases h
    exact ⟨(Array.getElem?_eq_some_iff.1 hx).1, e, fz, hx⟩
  · cases h
theorem tab_of_glob {P : Program} {N : Nat} {w0 w : World} {name : String} {g : Nat} {k : IntKind} {zs : List Int} (hg : P.globalNamed name = some g) (hm : (g, zs.map fun z => Value.int k z) ∈ globs) (h : GOk N w0) (hb : Below N w0 w) : Lib.TabIs P w name k zs := by
  obtain ⟨h1, e, fz, h2⟩ := h _ hm
  unfold Lib.TabIs World.var?
  rw [hg]
  simp only [Option.bind_some, hb.block _ h1, h2]
end Go.Proofs.YteipplgcdbaokaaDoor.AM
