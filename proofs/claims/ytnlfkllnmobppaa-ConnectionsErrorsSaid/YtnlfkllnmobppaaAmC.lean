/- The machine. -/
import Derived.Test.YtnlfkllnmobppaaAmB
import Derived.ProofKit
import Derived.OpenShut
import Derived.SizedLaws
import Derived.ChangeArms
import Derived.Below
import Derived.Carry
import Derived.ChangeOld
import Derived.Lib.LaidTab
import Derived.Handed
import Derived.Stop.Joined
import Derived.Lib.ItoaNum
import Derived.Lib.Builder
import Derived.Laws.Externs
import Derived.Sort.Grow
import Derived.Deep.Draws
/- A function's answer is handed on once. Environments of functions. -/
namespace Go.Proofs.Ytnlfkllnmobppaa.AM
open Go Go.RowKit

section
variable {R S : Type} {P : Program} {E : FEnv} {n : Nat}

theorem evOps_lin (hL : EnvLin E) {all : List Oper} {k : S → Option R} : ∀ (rest : List Oper) (fr : Fr) (H : Heap) {f : Fr → Heap → Option R} {g : Fr → Heap → Option S}, (∀ fr H, f fr H = (g fr H).bind k) → evOps P E n all rest fr H f = (evOps P E n all rest fr H g).bind k := by
  intro rest
  induction rest with
  | nil => intro fr H f g h; exact h _ _
  | cons o rest ih =>
    intro fr H f g h
    unfold evOps
    refine il1 ?_
    split
    · exact evOp_lin hL fun v H => ih _ _ h
    · split
      · split
        · exact sl_lin (il (evOp_lin hL fun v H => ih _ _ h) (ih _ _ h)) (il (ih _ _ h) (evOp_lin hL fun v H => ih _ _ h))
        · exact ih _ _ h
        · rfl
      · rfl
theorem chkHeaps_lin (hL : EnvLin E) {fr : Fr} {o : Op} {ty : TypeId} {v : V} {k : S → Option R} : ∀ (hs : List Heap) {f : Unit → Option R} {g : Unit → Option S}, (∀ u, f u = (g u).bind k) → chkHeaps P E fr o ty v hs f = (chkHeaps P E fr o ty v hs g).bind k := by
  intro hs
  induction hs with
  | nil => intro f g h; exact h _
  | cons H hs ih => intro f g h; exact evOp_lin hL fun v' _ => il0 (ih h)
theorem chkPends_lin (hL : EnvLin E) {H : Heap} {c : Nat} {k : S → Option R} : ∀ (ps : List Pend) {f : Unit → Option R} {g : Unit → Option S}, (∀ u, f u = (g u).bind k) → chkPends P E H c ps f = (chkPends P E H c ps g).bind k := by
  intro ps
  induction ps with
  | nil => intro f g h; exact h _
  | cons p ps ih => intro f g h; exact il (evOp_lin hL fun v' _ => il0 (ih h)) (ih h)
theorem dOne_lin (hL : EnvLin E) {all : List Oper} {tbl : List Nat} {o : Oper} {i : Nat} {fr : Fr} {H : Heap} {hs : List Heap} {ps : List Pend} {k : S → Option R} {f : Fr → Heap → List Heap → List Pend → Option R} {g : Fr → Heap → List Heap → List Pend → Option S}
    (h : ∀ a b c d, f a b c d = (g a b c d).bind k) : dOne P E all tbl o i fr H hs ps f = (dOne P E all tbl o i fr H hs ps g).bind k := by
  unfold dOne
  exact il (evOp_lin hL fun v H' => chkPends_lin hL _ fun _ => h _ _ _ _) (il (evOp_lin hL fun v _ => chkHeaps_lin hL _ fun _ => h _ _ _ _) (evOp_lin hL fun v _ => h _ _ _ _))
theorem dSkip_lin (hL : EnvLin E) {o : Oper} {fr : Fr} {H : Heap} {hs : List Heap} {ps : List Pend} {k : S → Option R} {f : Fr → Heap → List Heap → List Pend → Option R} {g : Fr → Heap → List Heap → List Pend → Option S}
    (h : ∀ a b c d, f a b c d = (g a b c d).bind k) : dSkip P E o fr H hs ps f = (dSkip P E o fr H hs ps g).bind k := by
  unfold dSkip
  exact il (chkPends_lin hL _ fun _ => h _ _ _ _) (h _ _ _ _)
theorem evD_lin (hL : EnvLin E) {all : List Oper} {tbl : List Nat} {k : S → Option R} : ∀ (rest : List Oper) (i : Nat) (fr : Fr) (H : Heap) (hs : List Heap) (ps : List Pend) {f : Fr → Heap → Option R} {g : Fr → Heap → Option S}, (∀ fr H, f fr H = (g fr H).bind k) →
    evD P E n all tbl rest i fr H hs ps f = (evD P E n all tbl rest i fr H hs ps g).bind k := by
  intro rest
  induction rest with
  | nil => intro i fr H hs ps f g h; exact h _ _
  | cons o rest ih =>
    intro i fr H hs ps f g h
    unfold evD
    refine il1 ?_
    split
    · exact dOne_lin hL fun a b c d => ih _ _ _ _ _ h
    · split
      · split
        · exact sl_lin (il (dOne_lin hL fun a b c d => ih _ _ _ _ _ h) (dSkip_lin hL fun a b c d => ih _ _ _ _ _ h)) (il (dSkip_lin hL fun a b c d => ih _ _ _ _ _ h) (dOne_lin hL fun a b c d => ih _ _ _ _ _ h))
        · exact dSkip_lin hL fun a b c d => ih _ _ _ _ _ h
        · rfl
      · rfl

theorem newE_lin {k : S → Option R} : ∀ (ops : List Oper) (j : Nat) (fr : Fr) (H : Heap) {f : Fr → Heap → Option R} {g : Fr → Heap → Option S}, (∀ fr H, f fr H = (g fr H).bind k) → newE P n ops j fr H f = (newE P n ops j fr H g).bind k := by
  intro ops
  induction ops with
  | nil => intro j fr H f g h; exact h _ _
  | cons o ops ih =>
    intro j fr H f g h
    unfold newE
    split
    · exact bl fun z => il0 (ih _ _ _ h)
    · exact ih _ _ _ h
theorem ev_lin (hL : EnvLin E) {lr : LRun} {kp : Nat → Option (List Nat)} : ∀ (c : Code) {R S : Type} {k : S → Option R} (fr : Fr) (H : Heap) {f : Ex → Fr → Heap → Option R} {g : Ex → Fr → Heap → Option S}, (∀ e fr H, f e fr H = (g e fr H).bind k) →
    ev P E lr n kp c fr H f = (ev P E lr n kp c fr H g).bind k := by
  intro c
  induction c with
  | skip => intro R S k fr H f g h; exact h _ _ _
  | exit id => intro R S k fr H f g h; exact h _ _ _
  | ret => intro R S k fr H f g h; exact h _ _ _
  | region id ops draw =>
    intro R S k fr H f g h
    cases draw with
    | false => exact evOps_lin hL _ _ _ fun fr H => h _ _ _
    | true => exact il (evD_lin hL _ _ _ _ _ _ fun fr H => h _ _ _) (il0 (newE_lin _ _ _ _ fun fr H => evD_lin hL _ _ _ _ _ _ fun fr H => h _ _ _))
  | seq x y ihx ihy =>
    intro R S k fr H f g h
    refine ihx fr H fun e fr' H' => ?_
    cases e with
    | normal => exact ihy fr' H' h
    | exit i => exact h _ _ _
    | ret => exact h _ _ _
  | cond c x y ihx ihy =>
    intro R S k fr H f g h
    simp only [ev]
    split
    · exact sl_lin (ihx fr H fun e _ _ => by cases e <;> exact h _ _ _) (ihy fr H fun e _ _ => by cases e <;> exact h _ _ _)
    · rfl
  | block id x ih =>
    intro R S k fr H f g h
    refine ih _ H fun e fr' H' => ?_
    cases e with
    | normal => exact h _ _ _
    | exit i => exact il (h _ _ _) (h _ _ _)
    | ret => exact h _ _ _
  | loop x ih =>
    intro R S k fr H f g h
    exact bl fun r => h _ _ _
  | _ => intro R S k fr H f g h; rfl

theorem resOne_lin {fr : Fr} {H : Heap} {rv : ResultVar} {k : S → Option R} {f : V → Option R} {g : V → Option S} (h : ∀ v, f v = (g v).bind k) : resOne P fr H rv f = (resOne P fr H rv g).bind k := by
  cases rv with
  | tmp t => exact bl h
  | cell a t =>
    refine bl fun v => ?_
    split
    · exact ldT_lin h
    · rfl
theorem resAll_lin {fr : Fr} {H : Heap} {k : S → Option R} : ∀ (rs : List ResultVar) {f : List V → Option R} {g : List V → Option S}, (∀ v, f v = (g v).bind k) → resAll P fr H rs f = (resAll P fr H rs g).bind k := by
  intro rs
  induction rs with
  | nil => intro f g h; exact h _
  | cons r rs ih => intro f g h; exact resOne_lin fun v => ih fun vs => h _
theorem res_lin {fr : Fr} {H : Heap} {rs : List ResultVar} {k : S → Option R} {f : V → Heap → Option R} {g : V → Heap → Option S} (h : ∀ v H, f v H = (g v H).bind k) : res P fr H rs f = (res P fr H rs g).bind k := by
  refine resAll_lin rs fun vs => ?_
  split
  · exact h _ _
  · exact h _ _
theorem evFn_lin (hL : EnvLin E) {lr : LRun} {fn : Func} {kp : Nat → Option (List Nat)} {args : List V} {H : Heap} {k : S → Option R} {f : V → Heap → Option R} {g : V → Heap → Option S} (h : ∀ v H, f v H = (g v H).bind k) :
    evFn P E lr fn kp args H f = (evFn P E lr fn kp args H g).bind k := by
  unfold evFn
  refine il0 ?_
  split
  · refine ev_lin hL _ _ _ fun e fr' H' => ?_
    cases e with
    | normal => exact res_lin h
    | ret => exact res_lin h
    | exit i => rfl
  · rfl
end

/-- an environment: each function stands for what its number computes, and hands on once -/
structure EnvGood (P : Program) (E : FEnv) : Prop where
  ok : EnvOK P E
  lin : EnvLin E
theorem EnvGood.nil (P : Program) : EnvGood P [] := ⟨fun g F h => (by cases h), fun g F h => (by cases h)⟩
theorem EnvGood.cons {P : Program} {E : FEnv} (h : EnvGood P E) {g : FuncId} {F : Fun} (h1 : FunOK P g F) (h2 : FunLin F) : EnvGood P ((g, F) :: E) :=
  ⟨fun g' F' hm => (by rcases List.mem_cons.1 hm with e | hm; cases e; exact h1; exact h.ok g' F' hm), fun g' F' hm => (by rcases List.mem_cons.1 hm with e | hm; cases e; exact h2; exact h.lin g' F' hm)⟩

/-- a call of this number enters the function -/
def enters (P : Program) (g : FuncId) : Bool := match P.funcs[g]? with
  | some fn => fn.name != "runtime.NumGoroutine" && fn.body.isSome
  | none => false
theorem enters_run {P : Program} {g : FuncId} (h : enters P g = true) (args : Array Value) (w : World) : (callFunc g args).run P w = .ok (.enter g args) w := by
  unfold enters at h
  split at h
  · rename_i fn hf
    simp only [Bool.and_eq_true, bne_iff_ne, ne_eq] at h
    obtain ⟨h1, h2⟩ := h
    have h3 : fn.body ≠ none := by intro hb; simp [hb] at h2
    simp [callFunc, hf, h1, h3]
  · cases h

/-- the machine's own run of a function -/
def runF (P : Program) (E : FEnv) (lr : LRun) (fn : Func) (kp : Nat → Option (List Nat)) : Fun := fun _ args H K => evFn P E lr fn kp args H K
theorem runF_ok {P : Program} {E : FEnv} (hE : EnvGood P E) (hm : P.follows .mixedOrders = true) {lr : LRun} (hlr : lr.ok) {g : FuncId} {fn : Func} (hf : P.funcs[g]? = some fn) (he : enters P g = true) (kp : Nat → Option (List Nat)) : FunOK P g (runF P E lr fn kp) :=
  .mk (fun args w => enters_run he args w) (fun _ _ _ _ _ _ _ _ _ _ hk hr hh => evFn_sound hE.ok hE.lin hm hlr hf hk hr hh)
theorem runF_lin {P : Program} {E : FEnv} (hE : EnvGood P E) (lr : LRun) (fn : Func) (kp : Nat → Option (List Nat)) : FunLin (runF P E lr fn kp) :=
  fun _ _ _ _ _ _ _ h => evFn_lin hE.lin h

/-- a table of functions, run to a depth of calls -/
noncomputable def envD (P : Program) (lr : LRun) (kp : FuncId → Nat → Option (List Nat)) (tab : List (FuncId × Func)) : Nat → FEnv
  | 0 => []
  | d + 1 => tab.map fun p => (p.1, runF P (envD P lr kp tab d) lr p.2 (kp p.1))
theorem envD_good {P : Program} (hm : P.follows .mixedOrders = true) {lr : LRun} (hlr : lr.ok) (kp : FuncId → Nat → Option (List Nat)) {tab : List (FuncId × Func)} (ht : ∀ g fn, (g, fn) ∈ tab → P.funcs[g]? = some fn ∧ enters P g = true) : ∀ d, EnvGood P (envD P lr kp tab d) := by
  intro d
  induction d with
  | zero => exact .nil P
  | succ d ih =>
    constructor
    · intro g F hm'
      simp only [envD, List.mem_map] at hm'
      obtain ⟨⟨g', fn⟩, hin, he⟩ := hm'
      cases he
      obtain ⟨h1, h2⟩ := ht g' fn hin
      exact runF_ok ih hm hlr h1 h2 _
    · intro g F hm'
      simp only [envD, List.mem_map] at hm'
      obtain ⟨⟨g', fn⟩, hin, he⟩ := hm'
      cases he
      exact runF_lin ih lr fn _

theorem EnvGood.append {P : Program} {E E' : FEnv} (h : EnvGood P E) (h' : EnvGood P E') : EnvGood P (E ++ E') :=
  ⟨fun g F hm => (by rcases List.mem_append.1 hm with hm | hm; exact h.ok g F hm; exact h'.ok g F hm), fun g F hm => (by rcases List.mem_append.1 hm with hm | hm; exact h.lin g F hm; exact h'.lin g F hm)⟩
/-- the same, with some functions whose contracts are known -/
noncomputable def envB (P : Program) (lr : LRun) (kp : FuncId → Nat → Option (List Nat)) (base : FEnv) (tab : List (FuncId × Func)) : Nat → FEnv
  | 0 => base
  | d + 1 => base ++ tab.map fun p => (p.1, runF P (envB P lr kp base tab d) lr p.2 (kp p.1))
theorem envB_good {P : Program} (hm : P.follows .mixedOrders = true) {lr : LRun} (hlr : lr.ok) (kp : FuncId → Nat → Option (List Nat)) {base : FEnv} (hb : EnvGood P base) {tab : List (FuncId × Func)} (ht : ∀ g fn, (g, fn) ∈ tab → P.funcs[g]? = some fn ∧ enters P g = true) : ∀ d, EnvGood P (envB P lr kp base tab d) := by
  intro d
  induction d with
  | zero => exact hb
  | succ d ih =>
    refine hb.append ?_
    constructor
    · intro g F hm'
      simp only [List.mem_map] at hm'
      obtain ⟨⟨g', fn⟩, hin, he⟩ := hm'
      cases he
      obtain ⟨h1, h2⟩ := ht g' fn hin
      exact runF_ok ih hm hlr h1 h2 _
    · intro g F hm'
      simp only [List.mem_map] at hm'
      obtain ⟨⟨g', fn⟩, hin, he⟩ := hm'
      cases he
      exact runF_lin ih lr fn _

/-- a function that gives less, or the same in other words -/
theorem FunOK.of_le {P : Program} {g : FuncId} {F F' : Fun} (h : FunOK P g F) (hle : ∀ (R : Type) (args : List V) (H : Heap) (K : V → Heap → Option R) (r : R), F' R args H K = some r → F R args H K = some r) : FunOK P g F' :=
  fun R args H K r N w0 w ρ xs hk => h R args H K r N w0 w ρ xs (hle R args H K r hk)

end Go.Proofs.Ytnlfkllnmobppaa.AM

/- Calls whose arguments and answer name no memory; and a law. -/
namespace Go.Proofs.Ytnlfkllnmobppaa.AM
open Go Go.RowKit

/-- a call whose arguments and answer name no memory: as it answers with nothing there, so it answers anywhere -/
def pureF (F : Fun) : Fun := fun _ args H K => if args.all V.flat then (F (V × Heap) args noHeap ret2).bind fun p => if p.1.flat then K p.1 H else none else none
theorem pureF_lin (F : Fun) : FunLin (pureF F) := fun _ _ _ _ _ _ _ h => il0 (bl fun _ => il0 (h _ _))
theorem flatsV_rel {ρ ρ' : Env} : ∀ {vs : List V} {xs : List Value}, vs.all V.flat = true → Rels ρ vs xs → Rels ρ' vs xs := by
  intro vs
  induction vs with
  | nil => intro xs _ h; cases h; exact .nil
  | cons v vs ih =>
    intro xs h hr
    simp only [List.all_cons, Bool.and_eq_true] at h
    cases hr with
    | cons _ x _ xs r1 r2 => exact .cons _ _ _ _ (flat_rel h.1 r1) (ih h.2 r2)
theorem pureF_ok {P : Program} {g : FuncId} {F : Fun} (hF : FunOK P g F) : FunOK P g (pureF F) := by
  intro R args H K r N w0 w ρ xs hk hr hh
  unfold pureF at hk
  split at hk
  · rename_i hflat
    obtain ⟨p, h1, h2⟩ := Option.bind_eq_some_iff.1 hk
    split at h2
    · rename_i hp
      refine (hF _ args noHeap ret2 p w.heap.size w w noEnv xs h1 (flatsV_rel hflat hr) (HR.void w (hh.glob.below hh.below hh.nle))).post fun c w' ⟨v, H', ρ', _, hv, hH, hkk⟩ => ?_
      obtain rfl : (v, H') = p := by simpa [ret2] using hkk
      exact ⟨v, H, ρ, ρ.le_refl, flat_rel hp hv, hh.over ⟨hH.below, hH.drew⟩, h2⟩
    · cases h2
  · cases hk

/-- a call of fixed arguments that has been seen to answer -/
def knownF (v : V) : Fun := fun _ args H K => match args with
  | [] => K v H
  | _ => none
theorem knownF_ok {P : Program} {g : FuncId} {F : Fun} (hF : FunOK P g F) {v : V} {H1 : Heap} (hv : v.flat = true) (h : F (V × Heap) [] noHeap ret2 = some (v, H1)) : FunOK P g (knownF v) := by
  refine (pureF_ok hF).of_le fun R args H K r hk => ?_
  unfold knownF at hk
  split at hk
  · simp [pureF, h, hv, hk]
  · cases hk
theorem knownF_lin (v : V) : FunLin (knownF v) := by
  intro R S args H f g k h
  unfold knownF
  split
  · exact h _ _
  · rfl

/-- a law: where the machine answers true, the call does, and nothing that was there has turned -/
theorem law_calls {P : Program} {E : FEnv} (hE : EnvGood P E) (hm : P.follows .mixedOrders = true) {lr : LRun} (hlr : lr.ok) {kp : Nat → Option (List Nat)} {f : FuncId} {fn : Func} (hf : P.funcs[f]? = some fn) {args : List V} {xs : List Value} {H : Heap} {ρ : Env} {W : World}
    (hk : evFn P E lr fn kp args H (fun v _ => v.asB) = some true) (hr : Rels ρ args xs) (hh : HR W.heap.size W ρ H W) :
    Calls P f xs.toArray W fun e W' => e = .returned (.bool true) ∧ Below W.heap.size W W' :=
  (evFn_sound hE.ok hE.lin hm hlr hf hk hr hh).mono fun e W' ⟨c, he, v, H', ρ', _, hv, hH, hkk⟩ => by
    obtain rfl := V.asB_eq hkk
    cases hv
    exact ⟨he, hH.below⟩

end Go.Proofs.Ytnlfkllnmobppaa.AM

/- What the arguments of a law stand for. -/
namespace Go.Proofs.Ytnlfkllnmobppaa.AM
open Go Go.RowKit

/-- the make of a cell -/
inductive Dt where
  | b
  | i (k : IntKind)
  | s
  | sl (ks : List Dt)

def fieldsK (P : Program) (g : TypeId → Option (List Dt)) : List Field → Nat → Option (List Dt)
  | [], _ => some []
  | f :: fs, off => if f.offset = off then (g f.type).bind fun ks => if ks.length = P.cellsOf f.type then (fieldsK P g fs (off + ks.length)).bind fun r => some (ks ++ r) else none else none

/-- the cells of a type -/
def dtsOf (P : Program) : Nat → TypeId → Option (List Dt)
  | 0, _ => none
  | f + 1, t => match P.underlying t with
    | some .bool => some [.b]
    | some (.int k) => some [.i k]
    | some .string => some [.s]
    | some (.slice e) => (dtsOf P f e).bind fun ks => if ks.length = P.cellsOf e ∧ ks.length ≠ 0 then some [.sl ks] else none
    | some (.struct fs) => (fieldsK P (dtsOf P f) fs.toList 0).bind fun ks => if ks.length = P.cellsOf t then some ks else none
    | some (.array n e) => (dtsOf P f e).bind fun ks => if ks.length = P.cellsOf e ∧ n * ks.length = P.cellsOf t then some (List.replicate n ks).flatten else none
    | _ => none

/-- a cell of that make -/
inductive Fit (H : Heap) : Dt → V → Prop
  | b (x : Bool) : Fit H .b (.b x)
  | i (k : IntKind) (n : Int) : (Lit.int k n).wf = true → Fit H (.i k) (.i k n)
  | s (x : ByteArray) : x.size ≤ reachBytes → Fit H .s (.s x)
  | sn (ks : List Dt) : Fit H (.sl ks) (.sl ⟨none, 0, .ex 0⟩)
  | sl (ks : List Dt) (id len cap : Nat) (vs : List V) (e : TypeId) : len ≤ cap → cap ≤ maxLen → ks.length ≠ 0 → vs.length = cap * ks.length → (cap ≠ 0 → H.get id = some (.cells vs e true)) →
      (∀ (j : Nat) (v : V) (d : Dt), vs[j]? = some v → ks[j % ks.length]? = some d → Fit H d v) → Fit H (.sl ks) (.sl ⟨some (id, 0), len, .ex cap⟩)
def Fits (H : Heap) (ks : List Dt) (vs : List V) : Prop := vs.length = ks.length ∧ ∀ (j : Nat) (v : V) (d : Dt), vs[j]? = some v → ks[j]? = some d → Fit H d v

/-- H' knows what H knows -/
def Heap.sub (H H' : Heap) : Prop := ∀ id o, H.get id = some o → H'.get id = some o
theorem Fit.mono {H H' : Heap} (hs : H.sub H') {d : Dt} {v : V} (h : Fit H d v) : Fit H' d v := by
  induction h with
  | b x => exact .b x
  | i k n h => exact .i k n h
  | s x h => exact .s x h
  | sn ks => exact .sn ks
  | sl ks id len cap vs e h1 h2 h3 h4 h5 _ ih => exact .sl ks id len cap vs e h1 h2 h3 h4 (fun h => hs _ _ (h5 h)) ih
theorem Fits.mono {H H' : Heap} (hs : H.sub H') {ks : List Dt} {vs : List V} (h : Fits H ks vs) : Fits H' ks vs := ⟨h.1, fun j v d h1 h2 => (h.2 j v d h1 h2).mono hs⟩
theorem Fits.append {H : Heap} {ks ks' : List Dt} {vs vs' : List V} (h : Fits H ks vs) (h' : Fits H ks' vs') : Fits H (ks ++ ks') (vs ++ vs') := by
  refine ⟨by simp [h.1, h'.1], fun j v d h1 h2 => ?_⟩
  by_cases hj : j < ks.length
  · rw [List.getElem?_append_left (by rw [h.1]; exact hj)] at h1
    rw [List.getElem?_append_left hj] at h2
    exact h.2 j v d h1 h2
  · rw [List.getElem?_append_right (by rw [h.1]; omega)] at h1
    rw [List.getElem?_append_right (by omega)] at h2
    rw [h.1] at h1
    exact h'.2 _ v d h1 h2

/-- cells that can be opened -/
def Opn (W : World) (ks : List Dt) (cs : List Value) : Prop := ∀ (ρ : Env) (H : Heap), HR W.heap.size W ρ H W →
  ∃ (H' : Heap) (ρ' : Env) (vs : List V), H.sub H' ∧ ρ.le ρ' ∧ HR W.heap.size W ρ' H' W ∧ Rels ρ' vs cs ∧ Fits H' ks vs

theorem Opn.nil (W : World) : Opn W [] [] := fun ρ H h => ⟨H, ρ, [], fun _ _ h => h, ρ.le_refl, h, .nil, rfl, fun j v d h => by simp at h⟩
theorem Opn.append {W : World} {ks ks' : List Dt} {cs cs' : List Value} (h : Opn W ks cs) (h' : Opn W ks' cs') : Opn W (ks ++ ks') (cs ++ cs') := by
  intro ρ H hh
  obtain ⟨H1, ρ1, vs1, s1, l1, r1, e1, f1⟩ := h ρ H hh
  obtain ⟨H2, ρ2, vs2, s2, l2, r2, e2, f2⟩ := h' ρ1 H1 r1
  exact ⟨H2, ρ2, vs1 ++ vs2, fun id o h => s2 _ _ (s1 _ _ h), l1.trans l2, r2, (e1.mono l2).append e2, (f1.mono s2).append f2⟩
theorem Opn.one {W : World} {d : Dt} {x : Value} {v : V} (hr : ∀ ρ, Rel ρ v x) (hf : ∀ H, Fit H d v) : Opn W [d] [x] := fun ρ H h =>
  ⟨H, ρ, [v], fun _ _ h => h, ρ.le_refl, h, .cons _ _ _ _ (hr ρ) .nil, rfl, fun j u e h1 h2 => by
    cases j with
    | zero => simp at h1 h2; subst h1; subst h2; exact hf H
    | succ j => simp at h1⟩
theorem Opn.rep {W : World} {ks : List Dt} {all : List Value} (n : Nat) (h : ∀ i, i < n → Opn W ks ((all.drop (i * ks.length)).take ks.length)) : Opn W (List.replicate n ks).flatten (all.take (n * ks.length)) := by
  induction n with
  | zero => simpa using Opn.nil W
  | succ n ih =>
    have e1 : (List.replicate (n + 1) ks).flatten = (List.replicate n ks).flatten ++ ks := by simp [List.replicate_succ']
    have e2 : all.take ((n + 1) * ks.length) = all.take (n * ks.length) ++ (all.drop (n * ks.length)).take ks.length := by rw [Nat.succ_mul, List.take_add]
    rw [e1, e2]
    exact (ih fun i hi => h i (by omega)).append (h n (by omega))

/-- a block of before, shown read-only -/
theorem HR.view {N : Nat} {w0 : Ref} {w : World} {ρ : Env} {H : Heap} (h : HR N w0 ρ H w) (vs : List V) (e : TypeId) (b : Base) (hb : b.blk < N) (ho : ORel N ρ w b (.cells vs e true)) :
    HR N w0 (fun id => if id = H.next then some b else ρ id) (H.new (.cells vs e true)) w ∧ ρ.le (fun id => if id = H.next then some b else ρ id) ∧ H.sub (H.new (.cells vs e true)) := by
  have hle : ρ.le (fun id => if id = H.next then some b else ρ id) := by
    intro id b' hb'
    have := h.name_lt hb'
    show (if id = H.next then some b else ρ id) = some b'
    rw [if_neg (by omega)]; exact hb'
  refine ⟨⟨h.below, h.nle, h.glob, fun id vs2 e2 hr => ?_, ?_, ?_, ?_, ?_, h.drew, fun k hk => ?_⟩, hle, ?_⟩
  · obtain ⟨a, c, d⟩ := h.resv id vs2 e2 hr
    refine ⟨by simp only [Heap.next_new]; omega, ?_, fun o2 ho2 => ?_⟩
    · show (if id = H.next then some b else ρ id) = none
      rw [if_neg (by omega)]; exact c
    · rw [Heap.get_new, if_neg (by omega)] at ho2; exact d o2 ho2
  · intro id hid
    simp only [Heap.next_new] at hid
    show (if id = H.next then some b else ρ id) = none
    rw [if_neg (by omega)]; exact h.fresh id (by omega)
  · intro id o' ho'
    rw [Heap.get_new] at ho'
    by_cases hid : id = H.next
    · rw [if_pos hid] at ho'
      obtain rfl := Option.some.inj ho'
      exact .inr ⟨b, by simp [hid], ho.mono hle⟩
    · rw [if_neg hid] at ho'
      rcases h.obj id o' ho' with hres | ⟨b', hb', hr⟩
      · exact .inl hres
      exact .inr ⟨b', by simp [hid, hb'], hr.mono hle⟩
  · intro id b' vs' e' hg hb'
    rw [Heap.get_new] at hg
    by_cases hid : id = H.next
    · have : some b = some b' := by simpa [hid] using hb'
      cases this; exact hb
    · rw [if_neg hid] at hg
      exact h.roN id b' vs' e' hg (by simpa [hid] using hb')
  · intro i j bi bj oi oj hij hi hj hoi hoj hbi hbj
    rw [Heap.get_new] at hi hj
    by_cases h1 : i = H.next
    · rw [if_pos h1] at hi; cases hi; simp [O.own] at hoi
    · by_cases h2 : j = H.next
      · rw [if_pos h2] at hj; cases hj; simp [O.own] at hoj
      · rw [if_neg h1] at hi; rw [if_neg h2] at hj
        exact h.apart i j bi bj oi oj hij hi hj hoi hoj (by simpa [h1] using hbi) (by simpa [h2] using hbj)
  · obtain ⟨a1, a2, a3⟩ := h.kept k hk
    refine ⟨a1, a2, fun j oj bj hj hoj hbj => ?_⟩
    rw [Heap.get_new] at hj
    by_cases h1 : j = H.next
    · rw [if_pos h1] at hj; cases hj; simp [O.own] at hoj
    · rw [if_neg h1] at hj
      exact a3 j oj bj hj hoj (by simpa [h1] using hbj)
  · intro id o ho'
    rw [Heap.get_new, if_neg (by have := h.get_lt ho'; omega)]
    exact ho'
/-- a name for nothing -/
theorem HR.skip {N : Nat} {w0 : Ref} {w : World} {ρ : Env} {H : Heap} (h : HR N w0 ρ H w) (b : Base) :
    HR N w0 (fun id => if id = H.next then some b else ρ id) ⟨H.next + 1, H.tr⟩ w ∧ ρ.le (fun id => if id = H.next then some b else ρ id) ∧ H.sub ⟨H.next + 1, H.tr⟩ := by
  have hle : ρ.le (fun id => if id = H.next then some b else ρ id) := by
    intro id b' hb'
    have := h.name_lt hb'
    show (if id = H.next then some b else ρ id) = some b'
    rw [if_neg (by omega)]; exact hb'
  have back : ∀ id o b', H.get id = some o → (if id = H.next then some b else ρ id) = some b' → ρ id = some b' := by
    intro id o b' ho hb'
    rwa [if_neg (by have := h.get_lt ho; omega)] at hb'
  refine ⟨⟨h.below, h.nle, h.glob, fun id vs2 e2 hr => ?_, ?_, ?_, ?_, ?_, h.drew, fun k hk => ?_⟩, hle, fun _ _ h => h⟩
  · obtain ⟨a, c, d⟩ := h.resv id vs2 e2 hr
    refine ⟨by show id < H.next + 1; omega, ?_, d⟩
    show (if id = H.next then some b else ρ id) = none
    rw [if_neg (by omega)]; exact c
  · intro id hid
    show (if id = H.next then some b else ρ id) = none
    simp only at hid
    rw [if_neg (by omega)]; exact h.fresh id (by omega)
  · intro id o' ho'
    rcases h.obj id o' ho' with hres | ⟨b', hb', hr⟩
    · exact .inl hres
    exact .inr ⟨b', hle _ _ hb', hr.mono hle⟩
  · intro id b' vs' e' hg hb'
    exact h.roN id b' vs' e' hg (back id _ b' hg hb')
  · intro i j bi bj oi oj hij hi hj hoi hoj hbi hbj
    exact h.apart i j bi bj oi oj hij hi hj hoi hoj (back i _ _ hi hbi) (back j _ _ hj hbj)
  · obtain ⟨a1, a2, a3⟩ := h.kept k hk
    exact ⟨a1, a2, fun j oj bj hj hoj hbj => a3 j oj bj hj hoj (back j _ _ hj hbj)⟩

theorem add_add (a : Addr) (x y : Nat) : (a.add x).add y = a.add (x + y) := by
  unfold Addr.add
  by_cases hx : x = 0
  · by_cases hy : y = 0
    · simp [hx, hy]
    · simp [hx, hy]
  · by_cases hy : y = 0
    · simp [hx, hy]
    · simp [hx, hy, Nat.add_assoc]

section
variable {Hh : Type} {enc : TypeId × Value → Hh} {P : Program} {W : World} {base : Nat} {held : Bool}

theorem weightsAll_mem {e : TypeId} : ∀ {ds : List (DataW Hh)} {d : DataW Hh}, d ∈ ds → ∀ n ∈ d.weights P e, n ∈ DataW.weightsAll P e ds
  | d0 :: ds, d, hd, n, hn => by
    simp only [DataW.weightsAll, List.mem_append]
    rcases List.mem_cons.1 hd with rfl | hd
    · exact .inl hn
    · exact .inr (weightsAll_mem hd n hn)

theorem cells?_get {a : Addr} {n : Nat} {cs : List Value} (h : W.cells? base a n = some cs) : cs.length = n ∧ ∀ k, k < n → W.cell? (a.add k) = cs[k]? := by
  unfold World.cells? at h
  split at h
  · exact ⟨by simpa using mapM_some_length h, fun k hk => mapM_some_get h k k (by simp [hk])⟩
  · cases h

/-- opening a row of cells -/
theorem opened (n : Nat) : ∀ (t : TypeId) (ks : List Dt) (fuel : Nat) (cs : List Value) (x : DataW Hh × List MemPlace), dtsOf P n t = some ks →
    DataW.trod enc P W base (fun _ => true) held fuel t cs = some x → (∀ m ∈ x.1.weights P t, m ≤ reachBytes) → Opn W ks cs := by
  induction n with
  | zero => intro t ks fuel cs x h; simp [dtsOf] at h
  | succ n ih =>
    intro t ks fuel cs x hk ht hw
    unfold dtsOf at hk
    split at hk
    · rename_i hu
      obtain rfl := Option.some.inj hk
      cases fuel with
      | zero => simp [DataW.trod] at ht
      | succ fuel =>
        unfold DataW.trod at ht
        rw [hu] at ht
        split at ht <;> simp_all
        all_goals exact Opn.one (fun _ => .b _) (fun _ => .b _)
    · rename_i k hu
      obtain rfl := Option.some.inj hk
      cases fuel with
      | zero => simp [DataW.trod] at ht
      | succ fuel =>
        unfold DataW.trod at ht
        rw [hu] at ht
        split at ht <;> simp_all
        exact Opn.one (fun _ => .i _ _) (fun _ => .i _ _ (by simp_all))
    · rename_i hu
      obtain rfl := Option.some.inj hk
      cases fuel with
      | zero => simp [DataW.trod] at ht
      | succ fuel =>
        unfold DataW.trod at ht
        rw [hu] at ht
        split at ht <;> simp_all
        obtain ⟨h1, h2⟩ := ht
        subst h2
        refine Opn.one (fun _ => .s _) (fun _ => .s _ ?_)
        simpa [DataW.weights] using hw
    · rename_i e hu
      obtain ⟨ks1, hk1, hk2⟩ := Option.bind_eq_some_iff.1 hk
      split at hk2
      · rename_i hc
        obtain rfl := Option.some.inj hk2
        obtain ⟨hc, hc0⟩ := hc
        rcases DataW.trod_slice hu ht with ⟨h0, _⟩ | ⟨a, len, cap, elems, rest, m, _, rfl, rfl, hb, hl, hm, hlen, hel, hsp, _⟩
        · subst h0; exact Opn.one (fun _ => .sn) (fun _ => .sn _)
        · obtain ⟨hrl, hr⟩ := hsp rfl
          rw [← hc] at hel hr
          have hel' : ∀ i, i < cap → ∃ y, y ∈ elems ++ rest ∧ (W.cells? base (a.add (i * ks1.length)) ks1.length).bind (DataW.trod enc P W base (fun _ => true) held m e) = some y := by
            intro i hi
            by_cases h : i < len
            · have h' : i < elems.length := by omega
              refine ⟨elems[i], List.mem_append_left _ (List.getElem_mem h'), ?_⟩
              rw [hel i h, List.getElem?_eq_getElem h']
            · have h' : i - len < rest.length := by omega
              refine ⟨rest[i - len], List.mem_append_right _ (List.getElem_mem h'), ?_⟩
              have := hr (i - len) (by omega)
              rw [show len + (i - len) = i by omega] at this
              rw [this, List.getElem?_eq_getElem h']
          have hwe : ∀ y ∈ elems ++ rest, ∀ m' ∈ y.1.weights P e, m' ≤ reachBytes := by
            intro y hy m' hm'
            refine hw m' ?_
            simp only [DataW.weights, hu, List.mem_cons, List.mem_append]
            right
            rcases List.mem_append.1 hy with h | h
            · exact .inl (weightsAll_mem (List.mem_map_of_mem (f := (·.1)) h) m' hm')
            · exact .inr (weightsAll_mem (List.mem_map_of_mem (f := (·.1)) h) m' hm')
          let all := (List.range (cap * ks1.length)).map fun j => (W.cell? (a.add j)).getD (.bool false)
          have hpiece : ∀ i, i < cap → ∃ csi, W.cells? base (a.add (i * ks1.length)) ks1.length = some csi ∧ (all.drop (i * ks1.length)).take ks1.length = csi ∧ Opn W ks1 csi := by
            intro i hi
            obtain ⟨y, hy, hbind⟩ := hel' i hi
            obtain ⟨csi, h1, h2⟩ := Option.bind_eq_some_iff.1 hbind
            refine ⟨csi, h1, ?_, ih e ks1 m csi y hk1 h2 (hwe y hy)⟩
            obtain ⟨g1, g2⟩ := cells?_get h1
            have hin : i * ks1.length + ks1.length ≤ cap * ks1.length := by
              have := Nat.mul_le_mul_right ks1.length (show i + 1 ≤ cap by omega)
              rwa [Nat.succ_mul] at this
            refine List.ext_getElem? fun k => ?_
            by_cases hk' : k < ks1.length
            · rw [List.getElem?_take_of_lt hk', List.getElem?_drop, ← g2 k hk', add_add]
              have h3 : csi[k]? = some (csi[k]'(by omega)) := List.getElem?_eq_getElem (by omega)
              rw [← g2 k hk', add_add] at h3
              rw [h3]
              simp only [all, List.getElem?_map]
              rw [List.getElem?_range (by omega)]
              simp [h3]
            · rw [List.getElem?_eq_none (by simp; omega), List.getElem?_eq_none (by omega)]
          have hopn : Opn W (List.replicate cap ks1).flatten (all.take (cap * ks1.length)) := Opn.rep cap fun i hi => by
            obtain ⟨csi, _, h2, h3⟩ := hpiece i hi
            rw [h2]; exact h3
          have hall : all.take (cap * ks1.length) = all := List.take_of_length_le (by simp [all])
          rw [hall] at hopn
          intro ρ H hh
          obtain ⟨H1, ρ1, vs, s1, l1, r1, e1, f1⟩ := hopn ρ H hh
          have hvl : vs.length = cap * ks1.length := by rw [f1.1]; simp
          have hfit : ∀ (H' : Heap), H1.sub H' → ∀ (j : Nat) (v : V) (d : Dt), vs[j]? = some v → ks1[j % ks1.length]? = some d → Fit H' d v := by
            intro H' hs j v d h1 h2
            refine ((f1.2 j v d h1 ?_)).mono hs
            have hj : j < cap * ks1.length := by rw [← hvl]; exact (List.getElem?_eq_some_iff.1 h1).1
            rw [← h2]
            clear h1 h2 hs
            have key : ∀ (n j : Nat), j < n * ks1.length → (List.replicate n ks1).flatten[j]? = ks1[j % ks1.length]? := by
              intro n
              induction n with
              | zero => intro j hj; simp at hj
              | succ n ihn =>
                intro j hj
                rw [List.replicate_succ, List.flatten_cons]
                by_cases h : j < ks1.length
                · rw [List.getElem?_append_left h, Nat.mod_eq_of_lt h]
                · rw [List.getElem?_append_right (by omega), ihn _ (by rw [Nat.succ_mul] at hj; omega), Nat.mod_eq_sub_mod (a := j) (by omega)]
            exact key cap j hj
          by_cases hcap : cap = 0
          · obtain ⟨g1, g2, g3⟩ := r1.skip ⟨0, 0, 0⟩
            refine ⟨_, _, [.sl ⟨some (H1.next, 0), len, .ex cap⟩], fun _ _ h => g3 _ _ (s1 _ _ h), l1.trans g2, g1, .cons _ _ _ _ (.sx _ _ _ _ ⟨0, 0, 0⟩ _ (by simp) hl (fun h => absurd hcap h)) .nil, rfl, fun j v d h1 h2 => ?_⟩
            cases j with
            | zero =>
              simp at h1 h2; subst h1; subst h2
              exact .sl ks1 _ _ _ vs 0 hl hm hc0 hvl (fun h => absurd hcap h) (hfit _ g3)
            | succ j => simp at h1
          · have hpos : 0 < cap * ks1.length := Nat.mul_pos (by omega) (by omega)
            have hcell : ∀ j, j < cap * ks1.length → ∃ y, W.cell? (a.add j) = some y ∧ all[j]? = some y := by
              intro j hj
              have hi : j / ks1.length < cap := Nat.div_lt_of_lt_mul (by rwa [Nat.mul_comm] at hj)
              obtain ⟨csi, h1, h2, _⟩ := hpiece (j / ks1.length) hi
              obtain ⟨g1, g2⟩ := cells?_get h1
              have hm' : j % ks1.length < ks1.length := Nat.mod_lt _ (by omega)
              have h3 := g2 _ hm'
              rw [add_add, Nat.mul_comm, Nat.div_add_mod, List.getElem?_eq_getElem (by omega)] at h3
              exact ⟨_, h3, by simp only [all, List.getElem?_map]; rw [List.getElem?_range hj]; simp [h3]⟩
            obtain ⟨y0, hy0, _⟩ := hcell 0 hpos
            have hspot := World.cell?_spot hy0
            simp [Addr.add] at hspot
            have hcl : ∃ c el fz, W.heap[a.block]? = some (.cells c el fz) := by
              simp [Addr.add] at hy0
              unfold World.cell? at hy0
              split at hy0
              · rename_i c el fz h; exact ⟨c, el, fz, h⟩
              · cases hy0
            obtain ⟨c, el, fz, hblk⟩ := hcl
            have hat : ∀ j, j < cap * ks1.length → c[a.off + j]? = all[j]? := by
              intro j hj
              obtain ⟨y, h1, h2⟩ := hcell j hj
              rw [h2, ← h1]
              by_cases hj0 : j = 0
              · subst hj0; simp [Addr.add, World.cell?, hblk, hspot]
              · simp [Addr.add, hj0, World.cell?, hblk]
            have hsz : a.off + cap * ks1.length ≤ c.size := by
              obtain ⟨y, h1, h2⟩ := hcell (cap * ks1.length - 1) (by omega)
              have := hat (cap * ks1.length - 1) (by omega)
              rw [h2] at this
              have := (Array.getElem?_eq_some_iff.1 this).1
              omega
            obtain ⟨g1, g2, g3⟩ := r1.view vs el ⟨a.block, a.off, c.size⟩ (Array.getElem?_eq_some_iff.1 hblk).1
              ⟨c, fz, hblk, by rw [hvl]; exact hsz, fun j v hv => by
                obtain ⟨y, hy, hrel⟩ := e1.get j v hv
                exact ⟨y, by rw [hat j (by rw [← hvl]; exact (List.getElem?_eq_some_iff.1 hv).1)]; exact hy, hrel⟩, fun h => by cases h⟩
            refine ⟨_, _, [.sl ⟨some (H1.next, 0), len, .ex cap⟩], fun _ _ h => g3 _ _ (s1 _ _ h), l1.trans g2, g1, .cons _ _ _ _ (.sx _ _ _ _ ⟨a.block, a.off, c.size⟩ _ (by simp) hl (fun _ => ?_)) .nil, rfl, fun j v d h1 h2 => ?_⟩
            · cases a; simp at hspot ⊢; exact hspot
            · cases j with
              | zero =>
                simp at h1 h2; subst h1; subst h2
                exact .sl ks1 _ _ _ vs el hl hm hc0 hvl (fun _ => by simp) (hfit _ g3)
              | succ j => simp at h1
      · cases hk2
    · rename_i fs hu
      obtain ⟨ks1, hk1, hk2⟩ := Option.bind_eq_some_iff.1 hk
      split at hk2
      · rename_i hc
        obtain rfl := Option.some.inj hk2
        obtain ⟨xs, m, _, rfl, hl, hlen, hf⟩ := DataW.trod_struct hu ht
        have key : ∀ (fl : List Field) (pre : List Field) (off : Nat) (ks : List Dt), fs.toList = pre ++ fl → fieldsK P (dtsOf P n) fl off = some ks → Opn W ks ((cs.drop off).take ks.length) := by
          intro fl
          induction fl with
          | nil => intro pre off ks _ h; simp [fieldsK] at h; subst h; simpa using Opn.nil W
          | cons f fl ihf =>
            intro pre off ks hpre h
            unfold fieldsK at h
            split at h
            · rename_i hoff
              obtain ⟨k1, h1, h2⟩ := Option.bind_eq_some_iff.1 h
              split at h2
              · rename_i hkl
                obtain ⟨k2, h3, h4⟩ := Option.bind_eq_some_iff.1 h2
                obtain rfl := Option.some.inj h4
                have hfi : fs[pre.length]? = some f := by rw [← Array.getElem?_toList, hpre]; simp
                have hx := hf pre.length f hfi
                have hxi : ∃ y, xs[pre.length]? = some y := by
                  refine ⟨xs[pre.length]'?_, List.getElem?_eq_getElem _⟩
                  rw [hlen]; exact (Array.getElem?_eq_some_iff.1 hfi).1
                obtain ⟨y, hy⟩ := hxi
                rw [hy, hoff, ← hkl] at hx
                have o1 : Opn W k1 ((cs.drop off).take k1.length) := ih f.type k1 m _ y h1 hx fun m' hm' => by
                  refine hw m' ?_
                  simp only [DataW.weights, hu]
                  refine DataW.weights_mem_each (j := pre.length) (t := f.type) (d := y.1) ?_ ?_ m' hm'
                  · simp [hfi]
                  · simp [hy]
                have o2 := ihf (pre ++ [f]) (off + k1.length) k2 (by simp [hpre]) h3
                have := o1.append o2
                rw [List.length_append, List.take_add, List.drop_drop]
                exact this
              · cases h2
            · cases h
        have := key fs.toList [] 0 ks1 rfl hk1
        rw [List.drop_zero, List.take_of_length_le (by omega)] at this
        exact this
      · cases hk2
    · rename_i cnt e hu
      obtain ⟨ks1, hk1, hk2⟩ := Option.bind_eq_some_iff.1 hk
      split at hk2
      · rename_i hc
        obtain rfl := Option.some.inj hk2
        obtain ⟨xs, m, _, rfl, hl, hlen, hf⟩ := DataW.trod_array hu ht
        have o : Opn W (List.replicate cnt ks1).flatten (cs.take (cnt * ks1.length)) := Opn.rep cnt fun i hi => by
          have hx := hf i hi
          have hi' : i < xs.length := by omega
          rw [← hc.1, List.getElem?_eq_getElem hi'] at hx
          refine ih e ks1 m _ _ hk1 hx fun m' hm' => hw m' ?_
          simp only [DataW.weights, hu]
          exact weightsAll_mem (List.mem_map_of_mem (f := (·.1)) (List.getElem_mem hi')) m' hm'
        rw [List.take_of_length_le (by omega)] at o
        exact o
      · cases hk2
    · cases hk
end
end Go.Proofs.Ytnlfkllnmobppaa.AM

/- From the machine to a row: a law whose arguments are numbers, truth values, texts, and rows of such. -/
namespace Go.Proofs.Ytnlfkllnmobppaa.AM
open Go Go.RowKit Go.ChangeShapes

inductive Da where
  | one (d : Dt)
  | agg (ks : List Dt)
def argK (P : Program) (n : Nat) (t : TypeId) : Option Da := match P.underlying t with
  | some (.struct _) | some (.array _ _) => (dtsOf P n t).bind fun ks => some (.agg ks)
  | some .bool | some (.int _) | some .string | some (.slice _) => match dtsOf P n t with
    | some [d] => some (.one d)
    | _ => none
  | _ => none
def argsK (P : Program) (n : Nat) : List TypeId → Option (List Da)
  | [] => some []
  | t :: ts => (argK P n t).bind fun d => (argsK P n ts).bind fun ds => some (d :: ds)
inductive FitA (H : Heap) : Da → V → Prop
  | one (d : Dt) (v : V) : Fit H d v → FitA H (.one d) v
  | agg (ks : List Dt) (vs : List V) : Fits H ks vs → FitA H (.agg ks) (.agg vs)
inductive FitsA (H : Heap) : List Da → List V → Prop
  | nil : FitsA H [] []
  | cons (d : Da) (v : V) (ds : List Da) (vs : List V) : FitA H d v → FitsA H ds vs → FitsA H (d :: ds) (v :: vs)
theorem FitA.mono {H H' : Heap} (hs : H.sub H') {d : Da} {v : V} (h : FitA H d v) : FitA H' d v := by
  cases h with
  | one d v h => exact .one _ _ (h.mono hs)
  | agg ks vs h => exact .agg _ _ (h.mono hs)

section
variable {Hh : Type} {enc : TypeId × Value → Hh} {P : Program} {W : World}

theorem opened_arg {n : Nat} {t : TypeId} {da : Da} {v : Value} {d : DataW Hh} {ps : List MemPlace} {base held} {r b0} (hk : argK P n t = some da) (ht : DataW.Trod enc P W base (fun _ => true) held t v d ps)
    (hok : Value.okWide P W r b0 t v) (hw : ∀ m ∈ d.weights P t, m ≤ reachBytes) {ρ : Env} {H : Heap} (hh : HR W.heap.size W ρ H W) :
    ∃ (H' : Heap) (ρ' : Env) (u : V), H.sub H' ∧ ρ.le ρ' ∧ HR W.heap.size W ρ' H' W ∧ Rel ρ' u v ∧ FitA H' da u := by
  obtain ⟨fuel, ht⟩ := ht
  have scalar : ∀ dt, dtsOf P n t = some [dt] → (∀ cs, v ≠ .agg cs) → da = .one dt → v.cells.toList = [v] → ∃ (H' : Heap) (ρ' : Env) (u : V), H.sub H' ∧ ρ.le ρ' ∧ HR W.heap.size W ρ' H' W ∧ Rel ρ' u v ∧ FitA H' da u := by
    intro dt h1 _ h3 h4
    obtain ⟨H', ρ', vs, s, l, r', e, f⟩ := opened n t [dt] fuel _ _ h1 ht hw ρ H hh
    rw [h4] at e
    cases e with
    | cons u _ us _ e1 e2 =>
      cases e2
      exact ⟨H', ρ', u, s, l, r', e1, h3 ▸ .one _ _ (f.2 0 u dt rfl rfl)⟩
  have agg : ∀ ks, dtsOf P n t = some ks → (∃ cs, v = .agg cs) → da = .agg ks → ∃ (H' : Heap) (ρ' : Env) (u : V), H.sub H' ∧ ρ.le ρ' ∧ HR W.heap.size W ρ' H' W ∧ Rel ρ' u v ∧ FitA H' da u := by
    intro ks h1 ⟨cs, h2⟩ h3
    subst h2
    obtain ⟨H', ρ', vs, s, l, r', e, f⟩ := opened n t ks fuel _ _ h1 ht hw ρ H hh
    have e' : Rels ρ' vs cs.toList := by simpa [Value.cells] using e
    refine ⟨H', ρ', .agg vs, s, l, r', ?_, h3 ▸ .agg _ _ f⟩
    have := Rel.agg (ρ := ρ') vs cs.toList e'
    simpa using this
  unfold argK at hk
  split at hk
  · rename_i hu
    obtain ⟨ks, h1, h2⟩ := Option.bind_eq_some_iff.1 hk
    cases h2
    refine agg ks h1 ?_ rfl
    simp only [Value.okWide, hu] at hok
    obtain ⟨cs, h, _⟩ := hok; exact ⟨cs, h⟩
  · rename_i hu
    obtain ⟨ks, h1, h2⟩ := Option.bind_eq_some_iff.1 hk
    cases h2
    refine agg ks h1 ?_ rfl
    simp only [Value.okWide, hu] at hok
    obtain ⟨cs, h, _⟩ := hok; exact ⟨cs, h⟩
  all_goals first
    | (rename_i hu
       split at hk <;> first | (cases hk; done) | skip
       rename_i dt h1
       cases hk
       simp only [Value.okWide, hu, Cell.okWide] at hok
       refine scalar dt h1 ?_ rfl ?_
       · rintro cs rfl; simp [Cell.ok, hu] at hok
       · cases v <;> first | rfl | (simp [Cell.ok, hu] at hok; done))
    | cases hk

theorem opened_args {n : Nat} {base held} {r b0} : ∀ (ts : List TypeId) (das : List Da) (vs : List Value) (ds : List (DataW Hh)) (ps : List MemPlace), argsK P n ts = some das →
    DataW.TrodAll enc P W base (fun _ => true) held ts vs ds ps → (∀ (j : Nat) t v, ts[j]? = some t → vs[j]? = some v → Value.okWide P W r b0 t v) → (∀ m ∈ DataW.weightsEach P ts ds, m ≤ reachBytes) →
    ∀ (ρ : Env) (H : Heap), HR W.heap.size W ρ H W →
    ∃ (H' : Heap) (ρ' : Env) (us : List V), H.sub H' ∧ ρ.le ρ' ∧ HR W.heap.size W ρ' H' W ∧ Rels ρ' us vs ∧ FitsA H' das us := by
  intro ts
  induction ts with
  | nil =>
    intro das vs ds ps hk ht _ _ ρ H hh
    obtain ⟨rfl, rfl, rfl⟩ := trodAll_nil ht
    simp [argsK] at hk; subst hk
    exact ⟨H, ρ, [], fun _ _ h => h, ρ.le_refl, hh, .nil, .nil⟩
  | cons t ts ih =>
    intro das vs ds ps hk ht hok hw ρ H hh
    obtain ⟨v, vs', d, ds', p, q, rfl, rfl, rfl, h1, h2⟩ := trodAll_cons ht
    obtain ⟨da, k1, k2⟩ := Option.bind_eq_some_iff.1 hk
    obtain ⟨das', k3, k4⟩ := Option.bind_eq_some_iff.1 k2
    cases k4
    simp only [DataW.weightsEach, List.mem_append] at hw
    obtain ⟨H1, ρ1, u, s1, l1, r1, e1, f1⟩ := opened_arg k1 h1 (hok 0 t v rfl rfl) (fun m hm => hw m (.inl hm)) hh
    obtain ⟨H2, ρ2, us, s2, l2, r2, e2, f2⟩ := ih das' vs' ds' q k3 h2 (fun j t v a b => hok (j + 1) t v (by simpa using a) (by simpa using b)) (fun m hm => hw m (.inr hm)) ρ1 H1 r1
    exact ⟨H2, ρ2, u :: us, fun id o h => s2 _ _ (s1 _ _ h), l1.trans l2, r2, .cons _ _ _ _ (e1.mono l2) e2, .cons _ _ _ _ (f1.mono s2) f2⟩

theorem back_all (hl : laidOutB P = true) {W' : World} (hb : Below W.heap.size W W') : ∀ (ts : List TypeId) (vs : List Value) (ds : List (DataW Hh)) (ps : List MemPlace),
    (ts.all fun t => P.readableRec t && decide (t < P.types.size)) = true → DataW.TrodAll enc P W 0 (fun _ => true) true ts vs ds ps → DataW.TrodAll enc P W' 0 (fun b => decide (b < W.heap.size)) true ts vs ds ps := by
  intro ts
  induction ts with
  | nil => intro vs ds ps _ h; obtain ⟨rfl, rfl, rfl⟩ := trodAll_nil h; exact trodAll_mk0
  | cons t ts ih =>
    intro vs ds ps ha h
    obtain ⟨v, vs', d, ds', p, q, rfl, rfl, rfl, h1, h2⟩ := trodAll_cons h
    simp only [List.all_cons, Bool.and_eq_true, decide_eq_true_eq] at ha
    exact trodAll_cons_mk (Below.trod hl ha.1.1 ha.1.2 h1 hb (by obtain ⟨m, hm⟩ := h1; exact DataW.trod_lt m _ _ _ hm)) (ih _ _ _ (by simpa using ha.2) h2)
theorem trodAll_length : ∀ (ts : List TypeId) (vs : List Value) (ds : List (DataW Hh)) (ps : List MemPlace) {base spare held}, DataW.TrodAll enc P W base spare held ts vs ds ps → ds.length = ts.length := by
  intro ts
  induction ts with
  | nil => intro vs ds ps _ _ _ h; obtain ⟨_, rfl, _⟩ := trodAll_nil h; rfl
  | cons t ts ih =>
    intro vs ds ps _ _ _ h
    obtain ⟨v, vs', d, ds', p, q, rfl, rfl, rfl, h1, h2⟩ := trodAll_cons h
    simp [ih _ _ _ h2]
end

/-- what a law that answers true owes -/
theorem lift_law {C : Checked} {f : FuncId} {fn : Func} {s : ChangeSpec} {bt : TypeId} {das : List Da} {n : Nat} {os : Os} {H : Type} {enc : TypeId × Value → H}
    (started : os.Started) (own : ownKnob C.prog.godebug = none) (noInit : C.prog.inits.idxOf? f = none) (hfn : C.prog.funcs[f]? = some fn)
    (witness : ∃ (w : World) (tape : Tape) (i : Input), w.os = os ∧ (w.forCall tape i).Shaped C.prog ∧ i.vars = [] ∧ Input.okWide C.prog (w.forCall tape i) .any w.heap.size f i ∧
      s.pre6 enc C.prog fn [] false (w.forCall tape i).memory i.args ∧ ({} : Assume).holds C.prog (lone (Frame.enter C.prog f i.args .normal) [] (w.forCall tape i)))
    (hvars : s.vars = []) (hs : ∀ ds : List (DataW H), ds.length = fn.params.toList.length → s.fn H ds = { results := [.lit (.bool true)], args := ds })
    (hres : fn.resultTypes = #[bt]) (hbt : C.prog.underlying bt = some .bool) (hlaid : laidOutB C.prog = true)
    (hread : (fn.params.toList.all fun t => C.prog.readableRec t && decide (t < C.prog.types.size)) = true)
    (hk : argsK C.prog n fn.params.toList = some das)
    (hglob : ∀ W, GOk W.heap.size W)
    (walk : ∀ (W : World) (H : Heap) (ρ : Env) (us : List V) (args : Array Value), HR W.heap.size W ρ H W → Rels ρ us args.toList → FitsA H das us →
      Calls C.prog f args W fun e W' => e = .returned (.bool true) ∧ Below W.heap.size W W') :
    ReturnsInHanded {} C os f .any (s.pre6 enc C.prog fn [] false) (s.post enc C.prog fn false true false false) := by
  refine returnsInHanded_of_change_sized (C := C) own started noInit hfn witness ?_
  intro W base args ds gs before hval0 hW hcnd hsz0 _
  have hW' := hW
  obtain ⟨p, q, hA, hV, rfl, hfz, hnd⟩ := hW
  rw [hvars] at hV
  obtain ⟨rfl, rfl⟩ := trodVars_none hV
  have hvt : s.plain.varTypes C.prog = [] := by simp [ChangeSpec.plain, DataSpec.varTypes, hvars]
  rw [hvt, List.append_nil, List.append_nil] at hsz0
  have hlen := trodAll_length _ _ _ _ hA
  obtain ⟨H1, ρ1, us, s1, l1, r1, e1, f1⟩ := opened_args fn.params.toList das args.toList ds p hk hA (fun j t v a b => hval0 j t v (by simpa using a) (by simpa using b))
    (fun m hm => by simpa using List.all_eq_true.1 hsz0 m hm) noEnv noHeap (HR.void W (hglob W))
  refine (walk W H1 ρ1 us args r1 e1 f1).mono fun e W' ⟨he, bel⟩ => ?_
  subst he
  refine ⟨_, rfl, ds, [], p ++ [], [], p, [], hW', ?_, ?_, ?_, bel.frame _, fun h => by cases h⟩
  · rw [List.append_nil, hs ds hlen, hres]
    exact trodAll_mk1 (shut_bool hbt _)
  · rw [List.append_nil, hs ds hlen]
    exact back_all hlaid bel _ _ _ _ hread hA
  · rw [List.append_nil, hs ds hlen, hvars]
    rfl
end Go.Proofs.Ytnlfkllnmobppaa.AM

/- Loops by name. -/
namespace Go.Proofs.Ytnlfkllnmobppaa.AM
open Go Go.RowKit

def codeKid : Code → Nat → Code
  | .seq a _, 0 => a
  | .seq _ b, _ => b
  | .cond _ a _, 0 => a
  | .cond _ _ b, _ => b
  | .block _ b, _ => b
  | .loop b, _ => b
  | c, _ => c
def codeAt : List Nat → Code → Code
  | [], c => c
  | n :: p, c => codeAt p (codeKid c n)
/-- what is kept behind each region -/
def kpOf : List (Nat × List Nat) → Nat → Option (List Nat)
  | [], _ => none
  | (k, l) :: r, i => if i = k then some l else kpOf r i
/-- the body of a loop -/
def loopB (P : Program) (E : FEnv) (lr : LRun) (fn : Func) (kp : Nat → Option (List Nat)) (p : List Nat) : LS → Option (Ex × LS) :=
  fun s => ev P E lr fn.ntmps kp (codeAt p (fn.body.getD .skip)) s.1 s.2 ret3
/-- one round more -/
theorem loopB_eq {P : Program} {E : FEnv} {fn : Func} {kp : Nat → Option (List Nat)} {p : List Nat} (s : LS) :
    loopLim (loopB P E loopLim fn kp p) s = (ev P E loopLim fn.ntmps kp (codeAt p (fn.body.getD .skip)) s.1 s.2 ret3).bind fun r => match r.1 with
      | .normal => loopLim (loopB P E loopLim fn kp p) r.2
      | .exit i => some (.exit i, r.2)
      | .ret => some (.ret, r.2) := loopLim_eq _ _
end Go.Proofs.Ytnlfkllnmobppaa.AM

/- Loops over typed states; small words for printed functions. -/
namespace Go.Proofs.Ytnlfkllnmobppaa.AM
open Go Go.RowKit

/-- a round goes on, or the loop is left -/
inductive Rd (σ ρ : Type) where
  | go (s : σ)
  | up (r : ρ)
section
variable {σ ρ : Type}
def titer (b : σ → Heap → Option (Rd σ ρ × Heap)) : Nat → σ → Heap → Option (ρ × Heap)
  | 0, _, _ => none
  | n + 1, s, H => (b s H).bind fun p => match p.1 with
    | .go s' => titer b n s' p.2
    | .up r => some (r, p.2)
open Classical in
noncomputable def tlim (b : σ → Heap → Option (Rd σ ρ × Heap)) (s : σ) (H : Heap) : Option (ρ × Heap) := if h : ∃ r n, titer b n s H = some r then some h.choose else none
theorem titer_mono {b : σ → Heap → Option (Rd σ ρ × Heap)} {r : ρ × Heap} : ∀ (n m : Nat) (s : σ) (H : Heap), n ≤ m → titer b n s H = some r → titer b m s H = some r := by
  intro n
  induction n with
  | zero => intro m s H _ h; simp [titer] at h
  | succ n ih =>
    intro m s H hm h
    obtain ⟨m, rfl⟩ : ∃ k, m = k + 1 := ⟨m - 1, by omega⟩
    simp only [titer] at h ⊢
    cases hg : b s H with
    | none => rw [hg] at h; simp at h
    | some q =>
      rw [hg] at h
      simp only [Option.bind_some] at h ⊢
      cases hq : q.1 with
      | go s' => rw [hq] at h; exact ih m _ _ (by omega) h
      | up r' => rw [hq] at h; exact h
theorem tlim_of_iter {b : σ → Heap → Option (Rd σ ρ × Heap)} {s : σ} {H : Heap} {r : ρ × Heap} {n : Nat} (h : titer b n s H = some r) : tlim b s H = some r := by
  have hx : ∃ r n, titer b n s H = some r := ⟨r, n, h⟩
  unfold tlim
  rw [dif_pos hx]
  obtain ⟨m, hm⟩ := hx.choose_spec
  have a := titer_mono n (max n m) s H (by omega) h
  have b := titer_mono m (max n m) s H (by omega) hm
  rw [a] at b
  exact b.symm
theorem iter_of_tlim {b : σ → Heap → Option (Rd σ ρ × Heap)} {s : σ} {H : Heap} {r : ρ × Heap} (h : tlim b s H = some r) : ∃ n, titer b n s H = some r := by
  unfold tlim at h
  split at h
  · rename_i hx
    obtain ⟨m, hm⟩ := hx.choose_spec
    obtain rfl : hx.choose = r := by simpa using h
    exact ⟨m, hm⟩
  · cases h
theorem tlim_eq (b : σ → Heap → Option (Rd σ ρ × Heap)) (s : σ) (H : Heap) : tlim b s H = (b s H).bind fun p => match p.1 with
    | .go s' => tlim b s' p.2
    | .up r => some (r, p.2) := by
  cases hg : b s H with
  | none =>
    simp only [Option.bind_none]
    cases hl : tlim b s H with
    | none => rfl
    | some r =>
      obtain ⟨n, hn⟩ := iter_of_tlim hl
      cases n with
      | zero => simp [titer] at hn
      | succ n => simp [titer, hg] at hn
  | some q =>
    obtain ⟨q, H'⟩ := q
    simp only [Option.bind_some]
    cases q with
    | go s' =>
      simp only []
      cases hl : tlim b s' H' with
      | none =>
        cases hl2 : tlim b s H with
        | none => rfl
        | some r =>
          obtain ⟨n, hn⟩ := iter_of_tlim hl2
          cases n with
          | zero => simp [titer] at hn
          | succ n =>
            simp only [titer, hg, Option.bind_some] at hn
            rw [tlim_of_iter hn] at hl; cases hl
      | some r =>
        obtain ⟨n, hn⟩ := iter_of_tlim hl
        exact tlim_of_iter (n := n + 1) (by simp only [titer, hg, Option.bind_some]; exact hn)
    | up r => exact tlim_of_iter (n := 1) (by simp [titer, hg])
theorem tlim_go {b : σ → Heap → Option (Rd σ ρ × Heap)} {s : σ} {H : Heap} {s' : σ} {H' : Heap} (h : b s H = some (.go s', H')) : tlim b s H = tlim b s' H' := by rw [tlim_eq, h]; rfl
theorem tlim_up {b : σ → Heap → Option (Rd σ ρ × Heap)} {s : σ} {H : Heap} {r : ρ} {H' : Heap} (h : b s H = some (.up r, H')) : tlim b s H = some (r, H') := by rw [tlim_eq, h]; rfl

/-- how a typed round stands for a round -/
def rdEx (es : σ → Fr) (er : ρ → Ex × Fr) (p : Rd σ ρ × Heap) : Ex × LS := match p.1 with
  | .go s => (.normal, (es s, p.2))
  | .up r => ((er r).1, ((er r).2, p.2))
theorem titer_sim {g : LS → Option (Ex × LS)} {b : σ → Heap → Option (Rd σ ρ × Heap)} {es : σ → Fr} {er : ρ → Ex × Fr} (hx : ∀ r, (er r).1 ≠ .normal)
    (hb : ∀ s H, g (es s, H) = (b s H).bind fun p => some (rdEx es er p)) : ∀ (n : Nat) (s : σ) (H : Heap), loopIter g n (es s, H) = (titer b n s H).bind fun p => some ((er p.1).1, ((er p.1).2, p.2)) := by
  intro n
  induction n with
  | zero => intro s H; rfl
  | succ n ih =>
    intro s H
    simp only [loopIter, titer, hb]
    cases hq : b s H with
    | none => rfl
    | some q =>
      obtain ⟨q, H'⟩ := q
      simp only [Option.bind_some]
      cases q with
      | go s' => simp only [rdEx]; exact ih s' H'
      | up r =>
        simp only [rdEx, Option.bind_some]
        cases he : (er r).1 with
        | normal => exact absurd he (hx r)
        | exit i => rfl
        | ret => rfl
theorem tlim_sim {g : LS → Option (Ex × LS)} {b : σ → Heap → Option (Rd σ ρ × Heap)} {es : σ → Fr} {er : ρ → Ex × Fr} (hx : ∀ r, (er r).1 ≠ .normal)
    (hb : ∀ s H, g (es s, H) = (b s H).bind fun p => some (rdEx es er p)) (s : σ) (H : Heap) : loopLim g (es s, H) = (tlim b s H).bind fun p => some ((er p.1).1, ((er p.1).2, p.2)) := by
  cases hl : tlim b s H with
  | some r =>
    obtain ⟨n, hn⟩ := iter_of_tlim hl
    have := titer_sim hx hb n s H
    rw [hn] at this
    exact loopLim_of_iter this
  | none =>
    cases hl2 : loopLim g (es s, H) with
    | none => rfl
    | some r =>
      obtain ⟨n, hn⟩ := iter_of_loopLim hl2
      rw [titer_sim hx hb n s H] at hn
      cases ht : titer b n s H with
      | none => rw [ht] at hn; simp at hn
      | some q => rw [tlim_of_iter ht] at hl; cases hl
/-- a loop, as a typed one -/
theorem ev_tlim {R : Type} {P : Program} {E : FEnv} {n : Nat} {kp : Nat → Option (List Nat)} {c : Code} {b : σ → Heap → Option (Rd σ ρ × Heap)} {es : σ → Fr} {er : ρ → Ex × Fr} (hx : ∀ r, (er r).1 ≠ .normal)
    (hb : ∀ s H, ev P E loopLim n kp c (es s) H ret3 = (b s H).bind fun p => some (rdEx es er p)) (s : σ) (H : Heap) (K : Ex → Fr → Heap → Option R) :
    ev P E loopLim n kp (.loop c) (es s) H K = (tlim b s H).bind fun p => K (er p.1).1 (er p.1).2 p.2 := by
  show (loopLim (fun s => ev P E loopLim n kp c s.1 s.2 ret3) (es s, H)).bind (fun r => K r.1 r.2.1 r.2.2) = _
  rw [tlim_sim hx hb, Option.bind_assoc]
  rfl
end
theorem ev_seq {R : Type} {P : Program} {E : FEnv} {lr : LRun} {n : Nat} {kp : Nat → Option (List Nat)} (a b : Code) (fr : Fr) (H : Heap) (K : Ex → Fr → Heap → Option R) : ev P E lr n kp (.seq a b) fr H K = ev P E lr n kp a fr H (kSeq (fun fr H => ev P E lr n kp b fr H K) K) := rfl
theorem ev_block {R : Type} {P : Program} {E : FEnv} {lr : LRun} {n : Nat} {kp : Nat → Option (List Nat)} (i : Nat) (b : Code) (fr : Fr) (H : Heap) (K : Ex → Fr → Heap → Option R) : ev P E lr n kp (.block i b) fr H K = ev P E lr n kp b (fkp kp (200000 + i) fr) H (kBlock kp i K) := rfl
theorem ev_cond {R : Type} {P : Program} {E : FEnv} {lr : LRun} {n : Nat} {kp : Nat → Option (List Nat)} (c : Operand) (a b : Code) (fr : Fr) (H : Heap) (K : Ex → Fr → Heap → Option R) (x : Bool) (hx : evalO fr c = some (.b x)) :
    ev P E lr n kp (.cond c a b) fr H K = sel x (ev P E lr n kp a fr H (kEnd kp (condId c) K)) (ev P E lr n kp b fr H (kEnd kp (condId c) K)) := by
  simp only [ev, hx]

/-- a new object -/
def alo {R : Type} (H : Heap) (o : O) (K : Nat → Heap → Option R) : Option R := K H.next (H.new o)
theorem alo_lin {R S : Type} {H : Heap} {o : O} {f : Nat → Heap → Option R} {g : Nat → Heap → Option S} {k : S → Option R} (h : ∀ i H, f i H = (g i H).bind k) : alo H o f = (alo H o g).bind k := h _ _
/-- two ways out of a loop -/
def cas {α β : Type} {R : Type} (x : Sum α β) (f : α → Option R) (g : β → Option R) : Option R := match x with
  | .inl a => f a
  | .inr b => g b
theorem cas_lin {R S : Type} {α β : Type} {x : Sum α β} {f : α → Option R} {f' : β → Option R} {g : α → Option S} {g' : β → Option S} {k : S → Option R} (h : ∀ a, f a = (g a).bind k) (h' : ∀ a, f' a = (g' a).bind k) : cas x f f' = (cas x g g').bind k := by
  cases x with
  | inl a => exact h a
  | inr b => exact h' b
@[simp] theorem cas_inl {α β R : Type} (a : α) (f : α → Option R) (g : β → Option R) : cas (.inl a) f g = f a := rfl
@[simp] theorem cas_inr {α β R : Type} (a : β) (f : α → Option R) (g : β → Option R) : cas (.inr a) f g = g a := rfl
@[simp] theorem sel_true {R : Type} (a b : Option R) : sel true a b = a := rfl
@[simp] theorem sel_false {R : Type} (a b : Option R) : sel false a b = b := rfl
@[simp] theorem selB_true (a b : Bool) : selB true a b = a := rfl
@[simp] theorem selB_false (a b : Bool) : selB false a b = b := rfl
/-- equal parts -/
theorem bc {α R : Type} {x : Option α} {f g : α → Option R} (h : ∀ a, f a = g a) : x.bind f = x.bind g := congrArg _ (funext h)
theorem ic {R : Type} {c : Prop} [Decidable c] {a a' b b' : Option R} (h : a = b) (h' : a' = b') : (if c then a else a') = (if c then b else b') := by rw [h, h']
theorem sc {R : Type} {x : Bool} {a a' b b' : Option R} (h : a = b) (h' : a' = b') : sel x a a' = sel x b b' := by rw [h, h']
theorem sels {R : Type} {x : Bool} {a a' b b' : Option R} (h : a = b) (h' : a' = b') : sel x a a' = sel x b b' := by rw [h, h']
end Go.Proofs.Ytnlfkllnmobppaa.AM

/- Code whose sequences are turned to the right runs as before; words for printed functions. -/
namespace Go.Proofs.Ytnlfkllnmobppaa.AM
open Go Go.RowKit

def seqTo : Code → Code → Code
  | .seq a b, c => seqTo a (seqTo b c)
  | a, c => .seq a c
/-- sequences to the right -/
def rassoc : Code → Code
  | .seq a b => seqTo (rassoc a) (rassoc b)
  | .cond c a b => .cond c (rassoc a) (rassoc b)
  | .block i b => .block i (rassoc b)
  | .loop b => .loop (rassoc b)
  | c => c

section
variable {P : Program} {E : FEnv} {lr : LRun} {n : Nat} {kp : Nat → Option (List Nat)}
theorem ev_seqTo : ∀ (a c : Code) {R : Type} (fr : Fr) (H : Heap) (K : Ex → Fr → Heap → Option R), ev P E lr n kp (seqTo a c) fr H K = ev P E lr n kp (.seq a c) fr H K := by
  intro a
  induction a with
  | seq a b iha ihb =>
    intro c R fr H K
    simp only [seqTo]
    rw [iha]
    show ev P E lr n kp a fr H _ = ev P E lr n kp a fr H _
    congr 1
    funext e fr' H'
    cases e with
    | normal => exact ihb c fr' H' K
    | exit i => rfl
    | ret => rfl
  | _ => intro c R fr H K; rfl
theorem ev_rassoc : ∀ (c : Code) {R : Type} (fr : Fr) (H : Heap) (K : Ex → Fr → Heap → Option R), ev P E lr n kp (rassoc c) fr H K = ev P E lr n kp c fr H K := by
  intro c
  induction c with
  | seq a b iha ihb =>
    intro R fr H K
    simp only [rassoc]
    rw [ev_seqTo]
    show ev P E lr n kp (rassoc a) fr H _ = ev P E lr n kp a fr H _
    rw [iha]
    congr 1
    funext e fr' H'
    cases e with
    | normal => exact ihb fr' H' K
    | exit i => rfl
    | ret => rfl
  | cond c a b iha ihb =>
    intro R fr H K
    simp only [rassoc, ev]
    split
    · rw [iha, ihb]
    · rfl
  | block i b ih => intro R fr H K; exact ih _ H _
  | loop b ih =>
    intro R fr H K
    have : (fun s : LS => ev P E lr n kp (rassoc b) s.1 s.2 ret3) = fun s => ev P E lr n kp b s.1 s.2 ret3 := by
      funext s; exact ih _ _ _
    simp only [rassoc, ev]
    rw [this]
  | _ => intro R fr H K; rfl
theorem kSeq_n {R : Type} (next : Fr → Heap → Option R) (K : Ex → Fr → Heap → Option R) (fr : Fr) (H : Heap) : kSeq next K .normal fr H = next fr H := rfl
/-- a function's code -/
def codeOf (fn : Func) : Code := rassoc (fn.body.getD .skip)
theorem evFn_code {R : Type} {fn : Func} {args : List V} (H : Heap) (K : V → Heap → Option R) (hb : fn.body.isSome = true) (hl : (args.length ≤ fn.ntmps)) :
    evFn P E lr fn kp args H K = ev P E lr fn.ntmps kp (codeOf fn) (argFr 0 args) H (kFn P fn.results.toList K) := by
  unfold evFn codeOf
  rw [if_pos hl, ev_rassoc]
  cases hx : fn.body with
  | none => rw [hx] at hb; cases hb
  | some c => rfl
theorem evFn_code2 {R : Type} {fn : Func} {args : List V} {c : Code} (H : Heap) (K : V → Heap → Option R) (hb : fn.body.isSome = true) (hl : (args.length ≤ fn.ntmps)) (hc : rassoc (fn.body.getD .skip) = c) :
    evFn P E lr fn kp args H K = ev P E lr fn.ntmps kp c (argFr 0 args) H (kFn P fn.results.toList K) := by
  rw [← hc]; exact evFn_code H K hb hl
end

/-- what is found in a map -/
def fnd {R : Type} (q : Option (Nat × V)) (f : Nat → V → Option R) (g : Option R) : Option R := match q with
  | some (j, v) => f j v
  | none => g
theorem fnd_lin {R S : Type} {q : Option (Nat × V)} {f : Nat → V → Option R} {f' : Option R} {g : Nat → V → Option S} {g' : Option S} {k : S → Option R} (h : ∀ j v, f j v = (g j v).bind k) (h' : f' = g'.bind k) : fnd q f f' = (fnd q g g').bind k := by
  cases q with
  | none => exact h'
  | some x => exact h x.1 x.2
@[simp] theorem fnd_some {R : Type} (j : Nat) (v : V) (f : Nat → V → Option R) (g : Option R) : fnd (some (j, v)) f g = f j v := rfl
@[simp] theorem fnd_none {R : Type} (f : Nat → V → Option R) (g : Option R) : fnd none f g = g := rfl
/-- the capacity of a slice, where it is known -/
def capK {R : Type} (c : Cap) (K : Nat → Option R) : Option R := match c with
  | .ex c => K c
  | _ => none
theorem capK_lin {R S : Type} {c : Cap} {f : Nat → Option R} {g : Nat → Option S} {k : S → Option R} (h : ∀ j, f j = (g j).bind k) : capK c f = (capK c g).bind k := by
  cases c with
  | ex c => exact h c
  | op s => rfl
@[simp] theorem capK_ex {R : Type} (c : Nat) (K : Nat → Option R) : capK (.ex c) K = K c := rfl
theorem mixedOf (P : Program) (h : P.follows .mixedOrders = true) : P.follows .mixedOrders = true := h
end Go.Proofs.Ytnlfkllnmobppaa.AM

/- Facts about heaps, slices and loops, for reasoning about printed functions. -/
namespace Go.Proofs.Ytnlfkllnmobppaa.AM
open Go Go.RowKit

/-- every object has a name below the next one -/
def Heap.Wf (H : Heap) : Prop := ∀ id o, H.get id = some o → id < H.next
theorem Heap.Wf.new {H : Heap} (h : H.Wf) (o : O) : (H.new o).Wf := by
  intro id x hx
  rw [Heap.get_new] at hx
  rw [Heap.next_new]
  split at hx
  · omega
  · have := h id x hx; omega
theorem Heap.Wf.put {H : Heap} (h : H.Wf) {id : Nat} {x : O} (hx : H.get id = some x) (o : O) : (H.put id o).Wf := by
  intro j y hy
  rw [Heap.get_put] at hy
  rw [Heap.next_put]
  split at hy
  · rename_i e; subst e; exact h _ _ hx
  · exact h j y hy
theorem noHeap_Wf : noHeap.Wf := fun id o h => by simp [noHeap, Heap.get, Tr.get] at h
@[simp] theorem noHeap_next : noHeap.next = 0 := rfl

theorem Heap.Wf.drop {H : Heap} (h : H.Wf) (id : Nat) : (H.drop id).Wf := by
  intro j y hy
  rw [Heap.get_drop] at hy
  split at hy
  · cases hy
  · exact h j y hy

theorem Tr.set_set (o1 o2 : O) : ∀ (f : Nat) (t : Tr) (n : Nat), Tr.set o2 f (Tr.set o1 f t n) n = Tr.set o2 f t n := by
  intro f
  induction f with
  | zero => intro t n; rfl
  | succ f ih =>
    intro t n
    cases t with
    | nil =>
      cases n with
      | zero => rfl
      | succ n => simp only [Tr.set]; split <;> simp_all [Tr.set]
    | node x l r =>
      cases n with
      | zero => rfl
      | succ n => simp only [Tr.set]; split <;> simp_all [Tr.set]
theorem Tr.set_self {o : O} : ∀ (f : Nat) (t : Tr) (n : Nat), t.get n = some o → Tr.set o f t n = t := by
  intro f
  induction f with
  | zero => intro t n _; rfl
  | succ f ih =>
    intro t n h
    cases t with
    | nil => simp [Tr.get] at h
    | node x l r =>
      cases n with
      | zero => simp [Tr.get] at h; simp [Tr.set, h]
      | succ n =>
        simp only [Tr.get] at h
        simp only [Tr.set]
        split at h
        · rename_i hn; rw [if_pos hn, ih _ _ h]
        · rename_i hn; rw [if_neg hn, ih _ _ h]
@[simp] theorem Heap.put_put (H : Heap) (id : Nat) (o1 o2 : O) : (H.put id o1).put id o2 = H.put id o2 := by
  simp only [Heap.put, Tr.set_set]
theorem Heap.put_self {H : Heap} {id : Nat} {o : O} (h : H.get id = some o) : H.put id o = H := by
  simp only [Heap.put]; rw [Tr.set_self _ _ _ h]

theorem Heap.gput (H : Heap) (id : Nat) (o : O) : (H.put id o).get id = some o := by simp
theorem Heap.gnew (H : Heap) (o : O) : (H.new o).get H.next = some o := by simp
section
variable {H : Heap} {id off : Nat} {vs : List V} {e : TypeId} {ro : Bool}
theorem ld_of (h : H.get id = some (.cells vs e ro)) : H.ld id off = vs[off]? := by simp [Heap.ld, h]
theorem ldI_of (h : H.get id = some (.cells vs e ro)) {k : IntKind} {n : Int} (hv : vs[off]? = some (.i k n)) : H.ldI k id off = some n := by simp [Heap.ldI, ld_of h, hv, V.asI]
theorem ldB_of (h : H.get id = some (.cells vs e ro)) {x : Bool} (hv : vs[off]? = some (.b x)) : H.ldB id off = some x := by simp [Heap.ldB, ld_of h, hv, V.asB]
theorem ldS_of (h : H.get id = some (.cells vs e ro)) {x : ByteArray} (hv : vs[off]? = some (.s x)) : H.ldS id off = some x := by simp [Heap.ldS, ld_of h, hv, V.asS]
theorem ldP_of (h : H.get id = some (.cells vs e ro)) {x : Option (Nat × Nat)} (hv : vs[off]? = some (.p x)) : H.ldP id off = some x := by simp [Heap.ldP, ld_of h, hv, V.asP]
theorem ldSl_of (h : H.get id = some (.cells vs e ro)) {x : Sl} (hv : vs[off]? = some (.sl x)) : H.ldSl id off = some x := by simp [Heap.ldSl, ld_of h, hv, V.asSl]
theorem ldM_of (h : H.get id = some (.cells vs e ro)) {x : Option Nat} (hv : vs[off]? = some (.m x)) : H.ldM id off = some x := by simp [Heap.ldM, ld_of h, hv, V.asM]
theorem st_of (h : H.get id = some (.cells vs e false)) {v : V} (ho : off < vs.length) (hv : v.one = true) : H.st id off v = some (H.put id (.cells (vs.set off v) e false)) := by simp [Heap.st, h, ho, hv]
theorem sts_of (h : H.get id = some (.cells vs e false)) {l : List V} (ho : off + l.length ≤ vs.length) (hv : l.all V.one = true) : H.sts id off l = some (H.put id (.cells (splice vs off l) e false)) := by
  simp only [Heap.sts, h, ho, if_true, hv]
theorem lds_of (h : H.get id = some (.cells vs e ro)) {n : Nat} (ho : off + n ≤ vs.length) : H.lds id off n = some ((vs.drop off).take n) := by simp [Heap.lds, h, ho]
end

/-- nothing that was there has turned, except what S names -/
structure Fr' (S : Nat → Prop) (H H' : Heap) : Prop where
  next : H.next ≤ H'.next
  same : ∀ i, i < H.next → ¬ S i → H'.get i = H.get i
abbrev Ext (H H' : Heap) : Prop := Fr' (fun _ => False) H H'
theorem Fr'.refl (S : Nat → Prop) (H : Heap) : Fr' S H H := ⟨Nat.le_refl _, fun _ _ _ => rfl⟩
theorem Fr'.trans {S : Nat → Prop} {H H' H'' : Heap} (h : Fr' S H H') (h' : Fr' S H' H'') : Fr' S H H'' :=
  ⟨Nat.le_trans h.next h'.next, fun i hi hs => (h'.same i (Nat.lt_of_lt_of_le hi h.next) hs).trans (h.same i hi hs)⟩
theorem Fr'.mono {S T : Nat → Prop} {H H' : Heap} (h : Fr' S H H') (hst : ∀ i, i < H.next → S i → T i) : Fr' T H H' := ⟨h.next, fun i hi ht => h.same i hi fun hs => ht (hst i hi hs)⟩
theorem Fr'.get {S : Nat → Prop} {H H' : Heap} (h : Fr' S H H') (hw : H.Wf) {i : Nat} {o : O} (ho : H.get i = some o) (hs : ¬ S i) : H'.get i = some o := (h.same i (hw _ _ ho) hs).trans ho
theorem Ext.get {H H' : Heap} (h : Ext H H') (hw : H.Wf) {i : Nat} {o : O} (ho : H.get i = some o) : H'.get i = some o := Fr'.get h hw ho fun h => h
theorem Ext.fr {S : Nat → Prop} {H H' : Heap} (h : Ext H H') : Fr' S H H' := h.mono fun _ _ h => h.elim
theorem Ext.new (H : Heap) (o : O) : Ext H (H.new o) := ⟨by simp, fun i hi _ => by rw [Heap.get_new, if_neg (by omega)]⟩
theorem Fr'.put {S : Nat → Prop} (H : Heap) {id : Nat} (hs : S id) (o : O) : Fr' S H (H.put id o) := ⟨Nat.le_refl _, fun i _ hn => by rw [Heap.get_put, if_neg (by rintro rfl; exact hn hs)]⟩
/-- what is written above all that was there -/
theorem Fr'.above {S : Nat → Prop} {H0 H : Heap} (h : Fr' S H0 H) {id : Nat} (hs : H0.next ≤ id) (o : O) : Fr' S H0 (H.put id o) := ⟨h.next, fun i hi hn => by rw [Heap.get_put, if_neg (by omega)]; exact h.same i hi hn⟩

/-- a loop by an invariant and a measure -/
theorem tlim_inv {σ ρ : Type} {b : σ → Heap → Option (Rd σ ρ × Heap)} (I : σ → Heap → Prop) (m : σ → Nat) (Q : ρ → Heap → Prop)
    (step : ∀ s H, I s H → (∃ s' H', b s H = some (.go s', H') ∧ I s' H' ∧ m s' < m s) ∨ (∃ r H', b s H = some (.up r, H') ∧ Q r H')) :
    ∀ s H, I s H → ∃ r H', tlim b s H = some (r, H') ∧ Q r H' := by
  have : ∀ (n : Nat) s H, m s < n → I s H → ∃ r H', tlim b s H = some (r, H') ∧ Q r H' := by
    intro n
    induction n with
    | zero => intro s H h; omega
    | succ n ih =>
      intro s H hm hi
      rcases step s H hi with ⟨s', H', h1, h2, h3⟩ | ⟨r, H', h1, h2⟩
      · obtain ⟨r, H'', h4, h5⟩ := ih s' H' (by omega) h2
        exact ⟨r, H'', (tlim_go h1).trans h4, h5⟩
      · exact ⟨r, H', tlim_up h1, h2⟩
  exact fun s H hi => this (m s + 1) s H (by omega) hi

/-- the cells of a slice -/
def SlIs (H : Heap) (sz : Nat) (s : Sl) (l : List V) : Prop := slCells H sz s = some l
theorem SlIs.nil (H : Heap) (sz : Nat) : SlIs H sz ⟨none, 0, .ex 0⟩ [] := by simp [SlIs, slCells]
theorem slIs_of {H : Heap} {sz id off len : Nat} {c : Cap} {vs : List V} {e : TypeId} {ro : Bool} (h : H.get id = some (.cells vs e ro)) (ho : off + len * sz ≤ vs.length) : SlIs H sz ⟨some (id, off), len, c⟩ ((vs.drop off).take (len * sz)) := by
  unfold SlIs slCells
  split
  · rename_i h0; rw [show len * sz = 0 from h0]; simp
  · simp only [lds_of h ho]
/-- a slice that has been built by appending: nil, or all of an object of its own from its beginning -/
inductive Own (H : Heap) (e : TypeId) (sz : Nat) : Sl → List V → Prop
  | nil : Own H e sz ⟨none, 0, .ex 0⟩ []
  | op (id n : Nat) (l : List V) : H.get id = some (.cells l e false) → l.length = n * sz → l.all V.one = true → Own H e sz ⟨some (id, 0), n, .op sz⟩ l
theorem Own.slIs {H : Heap} {e : TypeId} {sz : Nat} {s : Sl} {l : List V} (h : Own H e sz s l) : SlIs H sz s l := by
  cases h with
  | nil => exact .nil _ _
  | op id n _ h hl _ =>
    have := slIs_of (off := 0) (len := n) (sz := sz) (c := .op sz) h (by omega)
    rw [List.drop_zero, List.take_of_length_le (by omega)] at this
    exact this
theorem Own.mono {H H' : Heap} {e : TypeId} {sz : Nat} {s : Sl} {l : List V} (h : Own H e sz s l) (hg : ∀ id o, s.a = some (id, 0) → H.get id = some o → H'.get id = some o) : Own H' e sz s l := by
  cases h with
  | nil => exact .nil
  | op id n _ h hl hv => exact .op id n _ (hg id _ rfl h) hl hv
theorem Own.len {H : Heap} {e : TypeId} {sz : Nat} {s : Sl} {l : List V} (h : Own H e sz s l) : l.length = s.len * sz := by
  cases h with
  | nil => simp
  | op id n _ h hl _ => exact hl
theorem Own.ones {H : Heap} {e : TypeId} {sz : Nat} {s : Sl} {l : List V} (h : Own H e sz s l) : l.all V.one = true := by
  cases h with
  | nil => rfl
  | op id n _ h hl hv => exact hv
theorem Own.lt {H : Heap} (hw : H.Wf) {e : TypeId} {sz : Nat} {s : Sl} {l : List V} (h : Own H e sz s l) {id off : Nat} (ha : s.a = some (id, off)) : id < H.next := by
  cases h with
  | nil => cases ha
  | op id' n _ h hl hv => cases ha; exact hw _ _ h
/-- the name of a slice's object, if it has one, is not below n -/
def Sl.above (n : Nat) (s : Sl) : Prop := ∀ id off, s.a = some (id, off) → n ≤ id
theorem own_append {H : Heap} (hw : H.Wf) {e : TypeId} {sz bytes : Nat} {x : Sl} {l : List V} (h : Own H e sz x l) {n : Nat} {new : List V} (hn : 0 < n) (hz : 0 < sz) (hl : new.length = n * sz) (ho : new.all V.one = true)
    (hb : (x.len + n) * bytes ≤ 140737488355328) (hm : x.len + n ≤ 9223372036854775807) :
    ∃ r H', (∀ (R : Type) (K : Sl → Heap → Option R), appendV H e sz bytes x n new K = K r H') ∧ Own H' e sz r (l ++ new) ∧ r.len = x.len + n ∧ r.a = some (H.next, 0) ∧ H'.Wf ∧ H'.next = H.next + 1 ∧
      ∀ i, i ≠ H.next → x.a ≠ some (i, 0) → H'.get i = H.get i := by
  cases h with
  | nil =>
    refine ⟨⟨some (H.next, 0), 0 + n, .op sz⟩, H.new (.cells new e false), fun R K => ?_, ?_, rfl, rfl, hw.new _, rfl, fun i hi _ => by rw [Heap.get_new, if_neg hi]⟩
    · simp only [appendV]
      rw [if_neg (by omega), if_neg (by omega)]
      rw [if_pos ⟨by simpa using hb, by simpa using hm⟩]
    · rw [List.nil_append, Nat.zero_add]
      exact .op _ _ _ (by simp) hl ho
  | op id k _ hg hlen hones =>
    refine ⟨⟨some (H.next, 0), k + n, .op sz⟩, (H.drop id).new (.cells (l ++ new) e false), fun R K => ?_, ?_, rfl, rfl, (hw.drop id).new _, rfl, fun i hi hx => ?_⟩
    · simp only [appendV]
      have h2 : ¬ (0 + (k + n) * sz ≤ l.length) := by rw [hlen, Nat.add_mul]; have := Nat.mul_pos hn hz; omega
      have h3 : 0 + k * sz ≤ l.length := by omega
      simp only at hb hm
      rw [if_neg (by omega), if_neg (by omega)]
      simp only [true_and]
      rw [if_pos ⟨hb, hm⟩]
      simp only [hg, if_true, h2, if_false, h3, ho, true_and, List.drop_zero]
      rw [List.take_of_length_le (by omega)]
    · refine .op _ _ _ (by simp) (by simp [hlen, hl, Nat.add_mul]) (by simp [hones, ho])
    · have hne : i ≠ id := fun e => hx (by rw [e])
      rw [Heap.get_new, if_neg (by simpa using hi), Heap.get_drop, if_neg hne]

theorem w64 {n : Int} (h : -9223372036854775808 ≤ n ∧ n ≤ 9223372036854775807) : IntKind.wrap .i64 n = n := by
  simp [IntKind.wrap, IntKind.bits, IntKind.signed]
  split <;> omega
theorem w8u {n : Int} (h : 0 ≤ n ∧ n ≤ 255) : IntKind.wrap .u8 n = n := by
  simp [IntKind.wrap, IntKind.bits, IntKind.signed]
  omega
theorem w16u {n : Int} (h : 0 ≤ n ∧ n ≤ 65535) : IntKind.wrap .u16 n = n := by
  simp [IntKind.wrap, IntKind.bits, IntKind.signed]
  omega
theorem w32u {n : Int} (h : 0 ≤ n ∧ n ≤ 4294967295) : IntKind.wrap .u32 n = n := by
  simp [IntKind.wrap, IntKind.bits, IntKind.signed]
  omega
theorem V.same_refl1 (v : V) : V.same1 v v = true ∨ V.same1 v v = false := by cases V.same1 v v <;> simp
@[simp] theorem same_i (k : IntKind) (n : Int) : V.same (.i k n) (.i k n) = true := by simp [V.same, V.same1]
@[simp] theorem same_b (x : Bool) : V.same (.b x) (.b x) = true := by simp [V.same, V.same1]
@[simp] theorem same_s (x : ByteArray) : V.same (.s x) (.s x) = true := by simp [V.same, V.same1]
@[simp] theorem same_p (x : Option (Nat × Nat)) : V.same (.p x) (.p x) = true := by simp [V.same, V.same1]
@[simp] theorem same_m (x : Option Nat) : V.same (.m x) (.m x) = true := by simp [V.same, V.same1]
@[simp] theorem same_sl (x : Sl) : V.same (.sl x) (.sl x) = true := by
  obtain ⟨a, l, c⟩ := x
  cases c <;> simp [V.same, V.same1]
end Go.Proofs.Ytnlfkllnmobppaa.AM

/- Arguments taken apart; a law's end. -/
namespace Go.Proofs.Ytnlfkllnmobppaa.AM
open Go Go.RowKit

theorem Fits.uncons {H : Heap} {d : Dt} {ds : List Dt} {vs : List V} (h : Fits H (d :: ds) vs) : ∃ v vs', vs = v :: vs' ∧ Fit H d v ∧ Fits H ds vs' := by
  obtain ⟨h1, h2⟩ := h
  cases vs with
  | nil => simp at h1
  | cons v vs => exact ⟨v, vs, rfl, h2 0 v d rfl rfl, by simpa using h1, fun j u e a b => h2 (j + 1) u e (by simpa using a) (by simpa using b)⟩
theorem Fits.unnil {H : Heap} {vs : List V} (h : Fits H [] vs) : vs = [] := by
  obtain ⟨h1, _⟩ := h
  cases vs with
  | nil => rfl
  | cons v vs => simp at h1
theorem FitsA.uncons {H : Heap} {d : Da} {ds : List Da} {vs : List V} (h : FitsA H (d :: ds) vs) : ∃ v vs', vs = v :: vs' ∧ FitA H d v ∧ FitsA H ds vs' := by
  cases h with | cons _ v _ vs h1 h2 => exact ⟨v, vs, rfl, h1, h2⟩
theorem FitsA.unnil {H : Heap} {vs : List V} (h : FitsA H [] vs) : vs = [] := by cases h; rfl
theorem FitA.unone {H : Heap} {d : Dt} {v : V} (h : FitA H (.one d) v) : Fit H d v := by cases h; assumption
theorem FitA.unagg {H : Heap} {ks : List Dt} {v : V} (h : FitA H (.agg ks) v) : ∃ vs, v = .agg vs ∧ Fits H ks vs := by cases h with | agg _ vs h => exact ⟨vs, rfl, h⟩
theorem Fit.int {H : Heap} {k : IntKind} {v : V} (h : Fit H (.i k) v) : ∃ n, v = .i k n ∧ (Lit.int k n).wf = true := by cases h with | i _ n h => exact ⟨n, rfl, h⟩
theorem Fit.bool {H : Heap} {v : V} (h : Fit H .b v) : ∃ x, v = .b x := by cases h with | b x => exact ⟨x, rfl⟩
theorem Fit.str {H : Heap} {v : V} (h : Fit H .s v) : ∃ x, v = .s x ∧ x.size ≤ reachBytes := by cases h with | s x h => exact ⟨x, rfl, h⟩
/-- what a slice argument is -/
def ArgSl (H : Heap) (ks : List Dt) (s : Sl) : Prop := s = ⟨none, 0, .ex 0⟩ ∨ ∃ id len cap vs e, s = ⟨some (id, 0), len, .ex cap⟩ ∧ len ≤ cap ∧ cap ≤ maxLen ∧ vs.length = cap * ks.length ∧ (cap ≠ 0 → H.get id = some (.cells vs e true)) ∧
  ∀ (j : Nat) (v : V) (d : Dt), vs[j]? = some v → ks[j % ks.length]? = some d → Fit H d v
theorem Fit.slice {H : Heap} {ks : List Dt} {v : V} (h : Fit H (.sl ks) v) : ∃ s, v = .sl s ∧ ArgSl H ks s := by
  cases h with
  | sn => exact ⟨_, rfl, .inl rfl⟩
  | sl _ id len cap vs e h1 h2 h3 h4 h5 h6 => exact ⟨_, rfl, .inr ⟨id, len, cap, vs, e, rfl, h1, h2, h4, h5, h6⟩⟩
theorem wfI64 {n : Int} (h : (Lit.int .i64 n).wf = true) : -9223372036854775808 ≤ n ∧ n ≤ 9223372036854775807 := by
  simp [Lit.wf, IntKind.min, IntKind.max, IntKind.bits, IntKind.signed] at h; omega
theorem wfU8 {n : Int} (h : (Lit.int .u8 n).wf = true) : 0 ≤ n ∧ n ≤ 255 := by
  simp [Lit.wf, IntKind.min, IntKind.max, IntKind.bits, IntKind.signed] at h; omega
theorem wfU16 {n : Int} (h : (Lit.int .u16 n).wf = true) : 0 ≤ n ∧ n ≤ 65535 := by
  simp [Lit.wf, IntKind.min, IntKind.max, IntKind.bits, IntKind.signed] at h; omega
theorem wfU32 {n : Int} (h : (Lit.int .u32 n).wf = true) : 0 ≤ n ∧ n ≤ 4294967295 := by
  simp [Lit.wf, IntKind.min, IntKind.max, IntKind.bits, IntKind.signed] at h; omega
theorem HR.wf {N : Nat} {w0 : Ref} {w : World} {ρ : Env} {H : Heap} (h : HR N w0 ρ H w) : H.Wf := fun _ _ ho => h.get_lt ho
theorem ds_len0 {α : Type} (ds : List α) (h : ds.length = 0) : ds = [] := List.length_eq_zero_iff.1 h
theorem ds_len1 {α : Type} (ds : List α) (h : ds.length = 1) : ∃ a, ds = [a] := List.length_eq_one_iff.1 h
theorem ds_len2 {α : Type} (ds : List α) (h : ds.length = 2) : ∃ a b, ds = [a, b] := by
  match ds, h with
  | [a, b], _ => exact ⟨a, b, rfl⟩
theorem ds_len3 {α : Type} (ds : List α) (h : ds.length = 3) : ∃ a b c, ds = [a, b, c] := by
  match ds, h with
  | [a, b, c], _ => exact ⟨a, b, c, rfl⟩
theorem ds_len4 {α : Type} (ds : List α) (h : ds.length = 4) : ∃ a b c d, ds = [a, b, c, d] := by
  match ds, h with
  | [a, b, c, d], _ => exact ⟨a, b, c, d, rfl⟩
theorem ds_len5 {α : Type} (ds : List α) (h : ds.length = 5) : ∃ a b c d e, ds = [a, b, c, d, e] := by
  match ds, h with
  | [a, b, c, d, e], _ => exact ⟨a, b, c, d, e, rfl⟩
end Go.Proofs.Ytnlfkllnmobppaa.AM

/- What code brings about, as a condition on what follows: for code whose way is left open (ranges over maps, orders). -/
namespace Go.Proofs.Ytnlfkllnmobppaa.AM
open Go Go.RowKit
set_option linter.unusedVariables false

section
variable {P : Program} {N : Nat} {w0 : Ref} {n : Nat} {E : FEnv}

/-- from (fr, H), however the code goes, it ends, in what Φ allows -/
def DW (P : Program) (N : Nat) (w0 : Ref) (n : Nat) (c : Code) (fr : Fr) (H : Heap) (Φ : Ex → Fr → Heap → Prop) : Prop :=
  ∀ (ρ : Env) (a : Act) (w : World) (Q : Exit → Act → World → Prop), SR N w0 n ρ fr H a w →
    (∀ e fr' H' ρ' a' w', ρ.le ρ' → SR N w0 n ρ' fr' H' a' w' → Φ e fr' H' → Q (exOf e) a' w') → c.wp P Q a w
theorem DW.mono {c : Code} {fr : Fr} {H : Heap} {Φ Ψ : Ex → Fr → Heap → Prop} (h : DW P N w0 n c fr H Φ) (hi : ∀ e fr H, Φ e fr H → Ψ e fr H) : DW P N w0 n c fr H Ψ :=
  fun ρ a w Q hs hQ => h ρ a w Q hs fun e fr' H' ρ' a' w' hl hs' hp => hQ e fr' H' ρ' a' w' hl hs' (hi _ _ _ hp)
/-- code that the machine runs -/
theorem DW.ev (hE : EnvOK P E) (hL : EnvLin E) (hm : P.follows .mixedOrders = true) {lr : LRun} (hlr : lr.ok) {kp : Nat → Option (List Nat)} {c : Code} {fr : Fr} {H : Heap} {Φ : Ex → Fr → Heap → Prop} {q : Ex × Fr × Heap}
    (h : AM.ev P E lr n kp c fr H ret3 = some q) (hq : Φ q.1 q.2.1 q.2.2) : DW P N w0 n c fr H Φ := by
  intro ρ a w Q hs hQ
  refine ev_sound hE hL hm hlr c q fr H ret3 ρ a w Q h hs fun e fr' H' ρ' a' w' hl hs' hk => ?_
  simp only [ret3, Option.some.injEq] at hk
  subst hk
  exact hQ _ _ _ ρ' a' w' hl hs' hq
theorem DW.seq {x y : Code} {fr : Fr} {H : Heap} {Φ : Ex → Fr → Heap → Prop} (h : DW P N w0 n x fr H fun e fr' H' => match e with
    | .normal => DW P N w0 n y fr' H' Φ
    | e => Φ e fr' H') : DW P N w0 n (.seq x y) fr H Φ := by
  intro ρ a w Q hs hQ
  refine wp_seq (h ρ a w _ hs fun e fr' H' ρ' a' w' hl hs' hp => ?_)
  cases e with
  | normal => exact hp ρ' a' w' Q hs' fun e fr2 H2 ρ2 a2 w2 hl2 => hQ e fr2 H2 ρ2 a2 w2 (hl.trans hl2)
  | exit i => exact hQ (.exit i) fr' H' ρ' a' w' hl hs' hp
  | ret => exact hQ .ret fr' H' ρ' a' w' hl hs' hp
theorem DW.skip {fr : Fr} {H : Heap} {Φ : Ex → Fr → Heap → Prop} (h : Φ .normal fr H) : DW P N w0 n .skip fr H Φ :=
  fun ρ a w Q hs hQ => wp_skip (hQ .normal fr H ρ a w ρ.le_refl hs h)
theorem DW.exit {id : Nat} {fr : Fr} {H : Heap} {Φ : Ex → Fr → Heap → Prop} (h : Φ (.exit id) fr H) : DW P N w0 n (.exit id) fr H Φ :=
  fun ρ a w Q hs hQ => wp_exit (hQ (.exit id) fr H ρ a w ρ.le_refl hs h)
theorem DW.ret {fr : Fr} {H : Heap} {Φ : Ex → Fr → Heap → Prop} (h : Φ .ret fr H) : DW P N w0 n .ret fr H Φ :=
  fun ρ a w Q hs hQ => wp_ret (hQ .ret fr H ρ a w ρ.le_refl hs h)
theorem DW.cond {c : Operand} {x y : Code} {fr : Fr} {H : Heap} {Φ : Ex → Fr → Heap → Prop} {b : Bool} (hb : evalO fr c = some (.b b)) (h : DW P N w0 n (if b then x else y) fr H Φ) : DW P N w0 n (.cond c x y) fr H Φ := by
  intro ρ a w Q hs hQ
  have hr := SR.eval hs.fr c _ hb
  have hc : a.eval c = .bool b := by cases hx : a.eval c <;> rw [hx] at hr <;> cases hr; rfl
  refine wp_cond hc ?_
  have := h ρ a w Q hs hQ
  cases b
  · exact this
  · exact this
theorem DW.block {id : Nat} {x : Code} {fr : Fr} {H : Heap} {Φ : Ex → Fr → Heap → Prop} (h : DW P N w0 n x fr H fun e fr' H' => match e with
    | .normal => Φ .normal fr' H'
    | .exit i => if i = id then Φ .normal fr' H' else Φ (.exit i) fr' H'
    | .ret => Φ .ret fr' H') : DW P N w0 n (.block id x) fr H Φ := by
  intro ρ a w Q hs hQ
  refine wp_block (h ρ a w _ hs fun e fr' H' ρ' a' w' hl hs' hp => ?_)
  cases e with
  | normal => exact hQ .normal _ H' ρ' a' w' hl hs' hp
  | exit i =>
    simp only [exOf, Exit.inBlock]
    simp only at hp
    split at hp
    · rename_i e; rw [if_pos e]; exact hQ .normal _ H' ρ' a' w' hl hs' hp
    · rename_i e; rw [if_neg e]; exact hQ (.exit i) fr' H' ρ' a' w' hl hs' hp
  | ret => exact hQ .ret fr' H' ρ' a' w' hl hs' hp
theorem DW.loop {x : Code} {Φ : Ex → Fr → Heap → Prop} (I : Fr → Heap → Prop) (m : Fr → Heap → Nat)
    (step : ∀ fr H, I fr H → DW P N w0 n x fr H fun e fr' H' => match e with
      | .normal => I fr' H' ∧ m fr' H' < m fr H
      | e => Φ e fr' H') : ∀ fr H, I fr H → DW P N w0 n (.loop x) fr H Φ := by
  have key : ∀ (k : Nat) (fr : Fr) (H : Heap), I fr H → m fr H < k → ∀ (ρ : Env) (a : Act) (w : World) (Q : Exit → Act → World → Prop), SR N w0 n ρ fr H a w →
      (∀ e fr' H' ρ' a' w', ρ.le ρ' → SR N w0 n ρ' fr' H' a' w' → Φ e fr' H' → e ≠ .normal → Q (exOf e) a' w') →
      ∀ (b : Frame) (k : List Item) (cs : List Frame), ∃ e a' w', Q e a' w' ∧ Arrives P (lone (b.at a (.code x :: .inLoop x :: k)) cs w) b k cs e a' w' := by
    intro k
    induction k with
    | zero => intro fr H _ hm; omega
    | succ k ih =>
      intro fr H hI hm ρ a w Q hs hQ b k' cs
      have hb := step fr H hI ρ a w (fun e a' w' => ∃ ex fr' H' ρ', ρ.le ρ' ∧ SR N w0 n ρ' fr' H' a' w' ∧ e = exOf ex ∧ (match ex with
        | .normal => I fr' H' ∧ m fr' H' < m fr H
        | e => Φ e fr' H')) hs fun e fr' H' ρ' a' w' hl hs' hp => ⟨e, fr', H', ρ', hl, hs', rfl, hp⟩
      obtain ⟨e, a1, w1, ⟨ex, fr1, H1, ρ1, hl, hs1, he, hp⟩, harr⟩ := hb b (.inLoop x :: k') cs
      cases ex with
      | normal =>
        subst he
        obtain ⟨e2, a2, w2, hq3, harr2⟩ := ih fr1 H1 hp.1 (by omega) ρ1 a1 w1 Q hs1 (fun e fr' H' ρ' a' w' hl2 => hQ e fr' H' ρ' a' w' (hl.trans hl2)) b k' cs
        exact ⟨e2, a2, w2, hq3, .of_steps (Steps.trans harr (.one step_inLoop)) harr2⟩
      | exit i =>
        subst he
        exact ⟨.exit i, a1, w1, hQ (.exit i) _ _ ρ1 a1 w1 hl hs1 hp (by simp), .pass (x := .inLoop x) rfl (fun _ _ => .inl (by simp)) harr⟩
      | ret =>
        subst he
        exact ⟨.ret, a1, w1, hQ .ret _ _ ρ1 a1 w1 hl hs1 hp (by simp), .pass (x := .inLoop x) rfl (fun _ _ => .inl (by simp)) harr⟩
  intro fr H hI ρ a w Q hs hQ
  exact loop_wp (key (m fr H + 1) fr H hI (by omega) ρ a w Q hs fun e fr' H' ρ' a' w' hl hs' hp _ => hQ e fr' H' ρ' a' w' hl hs' hp)
/-- a function whose body's triple is known -/
theorem calls_of_DW {f : FuncId} {fn : Func} {c : Code} (hf : P.funcs[f]? = some fn) (hb : fn.body = some c) {args : List V} {H : Heap} {Φ : V → Heap → Prop} (hlen : args.length ≤ fn.ntmps)
    (h : DW P N w0 fn.ntmps c (argFr 0 args) H fun e fr' H' => ∃ q, kFn P fn.results.toList ret2 e fr' H' = some q ∧ Φ q.1 q.2)
    {ρ : Env} {w : World} {xs : List Value} (hr : Rels ρ args xs) (hh : HR N w0 ρ H w) :
    Calls P f xs.toArray w fun e w' => ∃ c, e = .returned c ∧ ∃ v H' ρ', ρ.le ρ' ∧ Rel ρ' v c ∧ HR N w0 ρ' H' w' ∧ Φ v H' := by
  refine calls_of_wp hf hb ?_
  have hxl := hr.length
  refine h ρ _ w _ ⟨fun t v hv => ?_, ?_, rfl, hh⟩ ?_
  · rw [argFr_get, if_pos (Nat.zero_le _), Nat.sub_zero] at hv
    obtain ⟨x, hx, hrel⟩ := hr.get t v hv
    have hlt := (List.getElem?_eq_some_iff.1 hx).1
    exact ⟨x, by rw [Array.getElem?_append_left (by simpa using hlt)]; simpa using hx, hrel⟩
  · simp; omega
  · intro e fr' H' ρ' a' w' hl hs hkk
    obtain ⟨q, hq, hp⟩ := hkk
    cases e with
    | normal =>
      obtain ⟨v, x, e1, e2, e3⟩ := res_sound hs.fr hs.hr hq
      simp only [ret2, Option.some.injEq] at e3
      subst e3
      exact ⟨hs.defers, x, e1, x, rfl, _, H', ρ', hl, e2, hs.hr, hp⟩
    | ret =>
      obtain ⟨v, x, e1, e2, e3⟩ := res_sound hs.fr hs.hr hq
      simp only [ret2, Option.some.injEq] at e3
      subst e3
      exact ⟨hs.defers, x, e1, x, rfl, _, H', ρ', hl, e2, hs.hr, hp⟩
    | exit i => cases hq
/-- one operation's triple -/
def DO (P : Program) (N : Nat) (w0 : Ref) (n : Nat) (o : Oper) (fr : Fr) (H : Heap) (Ψ : V → Heap → Prop) : Prop :=
  ∀ (ρ : Env) (a : Act) (w : World), SR N w0 n ρ fr H a w → Does P w (execOp a.eval o) fun c w' => ∃ v H' ρ', ρ.le ρ' ∧ Rel ρ' v c ∧ HR N w0 ρ' H' w' ∧ Ψ v H'
theorem DO.ev (hE : EnvOK P E) {o : Oper} {fr : Fr} {H : Heap} {Ψ : V → Heap → Prop} {q : V × Heap} (h : evOp P E (evalO fr) H o.op o.type ret2 = some q) (hq : Ψ q.1 q.2) : DO P N w0 n o fr H Ψ := by
  intro ρ a w hs
  refine (evOp_sound hE hs.hr (e := a.eval) (SR.eval hs.fr) o h).post fun c w' hp => ?_
  obtain ⟨v, H', ρ', h1, h2, h3, h4⟩ := hp
  simp only [ret2, Option.some.injEq] at h4
  subst h4
  exact ⟨_, _, ρ', h1, h2, h3, hq⟩
/-- the operations of a region, in the order of the text -/
def DL (P : Program) (N : Nat) (w0 : Ref) (n : Nat) (all rest : List Oper) (fr : Fr) (H : Heap) (Φ : Fr → Heap → Prop) : Prop :=
  ∀ (ρ : Env) (a : Act) (w : World) (Q : Exit → Act → World → Prop), SR N w0 n ρ fr H a w →
    (∀ fr' H' ρ' a' w', ρ.le ρ' → SR N w0 n ρ' fr' H' a' w' → Φ fr' H' → Q .normal a' w') → wpList P all.toArray Q rest a w
theorem DL.nil {all : List Oper} {fr : Fr} {H : Heap} {Φ : Fr → Heap → Prop} (h : Φ fr H) : DL P N w0 n all [] fr H Φ :=
  fun ρ a w Q hs hQ => hQ fr H ρ a w ρ.le_refl hs h
theorem DL.cons {all rest : List Oper} {o : Oper} {fr : Fr} {H : Heap} {Φ : Fr → Heap → Prop} (hd : dstOk n o.dst = true) (hg : o.guard = none)
    (h : DO P N w0 n o fr H fun v H' => DL P N w0 n all rest (fput fr o.dst v) H' Φ) : DL P N w0 n all (o :: rest) fr H Φ := by
  intro ρ a w Q hs hQ
  unfold wpList
  rw [if_pos (wanted_none hg)]
  refine .inl ((h ρ a w hs).wp fun c w' hp => ?_)
  obtain ⟨v, H', ρ', h1, h2, h3, h4⟩ := hp
  exact h4 ρ' _ _ Q (hs.put h1 h3 hd h2) fun fr2 H2 ρ2 a2 w2 hl2 => hQ fr2 H2 ρ2 a2 w2 (h1.trans hl2)
theorem DL.ev (hE : EnvOK P E) {all rest : List Oper} {fr : Fr} {H : Heap} {Φ : Fr → Heap → Prop} {q : Fr × Heap} (h : evOps P E n all rest fr H (fun fr H => some (fr, H)) = some q) (hq : Φ q.1 q.2) : DL P N w0 n all rest fr H Φ := by
  intro ρ a w Q hs hQ
  refine evOps_sound hE rest fr H ρ a w h hs fun ρ' fr' H' a' w' hl hs' hk => ?_
  simp only [Option.some.injEq] at hk
  subst hk
  exact hQ _ _ ρ' a' w' hl hs' hq
theorem DW.region {id : Nat} {ops : Array Oper} {fr : Fr} {H : Heap} {Φ : Ex → Fr → Heap → Prop} (h : DL P N w0 n ops.toList ops.toList fr H fun fr' H' => Φ .normal fr' H') : DW P N w0 n (.region id ops false) fr H Φ := by
  intro ρ a w Q hs hQ
  refine wp_region_list ?_
  have := h ρ a w Q hs fun fr' H' ρ' a' w' hl hs' hp => hQ .normal fr' H' ρ' a' w' hl hs' hp
  simpa using this
/-- less need be known -/
theorem DW.keepF {c : Code} {fr fr2 : Fr} {H : Heap} {Φ : Ex → Fr → Heap → Prop} (hf : ∀ t v, fget fr2 t = some v → fget fr t = some v) (h : DW P N w0 n c fr2 H Φ) : DW P N w0 n c fr H Φ :=
  fun ρ a w Q hs hQ => h ρ a w Q ⟨fun t v hv => hs.fr t v (hf t v hv), hs.size, hs.defers, hs.hr⟩ hQ
theorem DW.forget {c : Code} {fr : Fr} {H H2 : Heap} {Φ : Ex → Fr → Heap → Prop} (hn : H2.next = H.next) (hsub : ∀ id o, H2.get id = some o → H.get id = some o) (h : DW P N w0 n c fr H2 Φ) : DW P N w0 n c fr H Φ :=
  fun ρ a w Q hs hQ => h ρ a w Q ⟨hs.fr, hs.size, hs.defers, hs.hr.forget hn hsub⟩ hQ
end
end Go.Proofs.Ytnlfkllnmobppaa.AM

/- From the machine to a row that lists package variables. -/
namespace Go.Proofs.Ytnlfkllnmobppaa.AM
open Go Go.RowKit Go.ChangeShapes

/-- a change's row from its contract, with what the row lists and the world's shape -/
theorem handed_both {H : Type} {enc : TypeId × Value → H} {a : Assume} {C : Checked} {os : Os} {f : FuncId} {fn : Func} {s : ChangeSpec} {conds : List PathCond} {apart fresh handsOn again : Bool} {X : World → Array Value → Prop}
    (hX : ∀ (w w' : World) (args : Array Value), w.heap = w'.heap → X w args → X w' args)
    (own : ownKnob C.prog.godebug = none) (started : os.Started) (noInit : C.prog.inits.idxOf? f = none) (hfn : C.prog.funcs[f]? = some fn)
    (witness : ∃ (w : World) (tape : Tape) (i : Input), w.os = os ∧ (w.forCall tape i).Shaped C.prog ∧ i.vars = [] ∧ Input.okWide C.prog (w.forCall tape i) .any w.heap.size f i ∧
      ((s.pre enc C.prog fn conds apart (w.forCall tape i).memory i.args ∧ X (w.forCall tape i).memory i.args) ∧ sizedMet enc C.prog fn (OpenSpec.ofChange s) apart (w.forCall tape i).memory i.args) ∧ a.holds C.prog (lone (Frame.enter C.prog f i.args .normal) [] (w.forCall tape i)))
    (contract : ∀ (W : World) (base : Nat) (args : Array Value) (ds gs : List (DataW H)) (before : List MemPlace),
      (∀ (j : Nat) t v, fn.params[j]? = some t → args[j]? = some v → Value.okWide C.prog W .any base t v) →
      DataW.Whole enc C.prog fn.params.toList s.vars apart W args.toList ds gs before →
      conds.all (PathCond.test C.prog ⟨fn.params.toList, ds, s.plain.varTypes C.prog, gs⟩) = true →
      (DataW.weightsEach C.prog (fn.params.toList ++ s.plain.varTypes C.prog) (ds ++ gs)).all (· ≤ reachBytes) = true → X W args → W.ShapedOpen C.prog →
      a.holds C.prog (lone (Frame.enter C.prog f args .normal) [] W) →
      Calls C.prog f args W fun e W' => ∃ v, e = .returned v ∧ s.post enc C.prog fn apart fresh handsOn again W args v W') :
    ReturnsInHanded a C os f .any (fun w args => (s.pre enc C.prog fn conds apart w args ∧ X w args) ∧ sizedMet enc C.prog fn (OpenSpec.ofChange s) apart w args) (s.post enc C.prog fn apart fresh handsOn again) := by
  refine returnsInHanded_of_calls own started noInit witness ?_
  intro w tape i _ hsh _ hok hpre hholds
  obtain ⟨_, _, _, fn', hfn', _, _, _, _, hval⟩ := hok
  have e : fn' = fn := Option.some.inj (hfn'.symm.trans hfn)
  subst e
  obtain ⟨⟨⟨ds, gs, before, hw, hc⟩, hx⟩, hz⟩ := hpre
  have hw' := DataW.Whole.of_heap (w' := w.forCall tape i) (by rfl) hw
  refine (contract (w.forCall tape i) w.heap.size i.args ds gs before hval hw' hc (hz.weights hw) (hX _ _ _ (by rfl) hx) hsh hholds).mono fun e W' ⟨v, he, hp⟩ => ?_
  subst he
  exact ChangeSpec.post_blind hp
/-- what a law that answers true owes, where its row lists variables -/
theorem lift_law_laid {C : Checked} {f : FuncId} {fn : Func} {s : ChangeSpec} {bt : TypeId} {das : List Da} {n : Nat} {os : Os} {H : Type} {enc : TypeId × Value → H} {laid : List (String × DataW Unit)}
    (started : os.Started) (own : ownKnob C.prog.godebug = none) (noInit : C.prog.inits.idxOf? f = none) (hfn : C.prog.funcs[f]? = some fn)
    (witness : ∃ (w : World) (tape : Tape) (i : Input), w.os = os ∧ (w.forCall tape i).Shaped C.prog ∧ i.vars = [] ∧ Input.okWide C.prog (w.forCall tape i) .any w.heap.size f i ∧
      ((s.pre enc C.prog fn [] false (w.forCall tape i).memory i.args ∧ laidMetH C.prog laid (w.forCall tape i).memory) ∧ sizedMet enc C.prog fn (OpenSpec.ofChange s) false (w.forCall tape i).memory i.args) ∧ ({} : Assume).holds C.prog (lone (Frame.enter C.prog f i.args .normal) [] (w.forCall tape i)))
    (hvars : s.vars = []) (hs : ∀ ds : List (DataW H), ds.length = fn.params.toList.length → s.fn H ds = { results := [.lit (.bool true)], args := ds })
    (hres : fn.resultTypes = #[bt]) (hbt : C.prog.underlying bt = some .bool) (hlaid : laidOutB C.prog = true)
    (hread : (fn.params.toList.all fun t => C.prog.readableRec t && decide (t < C.prog.types.size)) = true)
    (hk : argsK C.prog n fn.params.toList = some das) (hglob : ∀ W, laidMetH C.prog laid W → W.ShapedOpen C.prog → GOk W.heap.size W)
    (walk : ∀ (W : World) (H : Heap) (ρ : Env) (us : List V) (args : Array Value), HR W.heap.size W ρ H W → Rels ρ us args.toList → FitsA H das us →
      Calls C.prog f args W fun e W' => e = .returned (.bool true) ∧ Below W.heap.size W W') :
    ReturnsInHanded {} C os f .any (fun w args => (s.pre enc C.prog fn [] false w args ∧ laidMetH C.prog laid w) ∧ sizedMet enc C.prog fn (OpenSpec.ofChange s) false w args) (s.post enc C.prog fn false true false false) := by
  refine handed_both (C := C) (X := fun w _ => laidMetH C.prog laid w) (fun _ _ _ hh h => h.of_heap hh) own started noInit hfn witness ?_
  intro W base args ds gs before hval0 hW hcnd hsz0 hL hSh _
  have hW' := hW
  obtain ⟨p, q, hA, hV, rfl, hfz, hnd⟩ := hW
  rw [hvars] at hV
  obtain ⟨rfl, rfl⟩ := trodVars_none hV
  have hvt : s.plain.varTypes C.prog = [] := by simp [ChangeSpec.plain, DataSpec.varTypes, hvars]
  rw [hvt, List.append_nil, List.append_nil] at hsz0
  have hlen := trodAll_length _ _ _ _ hA
  obtain ⟨H1, ρ1, us, s1, l1, r1, e1, f1⟩ := opened_args fn.params.toList das args.toList ds p hk hA (fun j t v a b => hval0 j t v (by simpa using a) (by simpa using b))
    (fun m hm => by simpa using List.all_eq_true.1 hsz0 m hm) noEnv noHeap (HR.void W (hglob W hL hSh))
  refine (walk W H1 ρ1 us args r1 e1 f1).mono fun e W' ⟨he, bel⟩ => ?_
  subst he
  refine ⟨_, rfl, ds, [], p ++ [], [], p, [], hW', ?_, ?_, ?_, bel.frame _, fun h => by cases h⟩
  · rw [List.append_nil, hs ds hlen, hres]
    exact trodAll_mk1 (shut_bool hbt _)
  · rw [List.append_nil, hs ds hlen]
    exact back_all hlaid bel _ _ _ _ hread hA
  · rw [List.append_nil, hs ds hlen, hvars]
    rfl
theorem gint_of_cell {W : World} {g : Nat} {m : Int} (h : W.cell? ⟨g, 0, none⟩ = some (.int .i64 m)) : g < W.heap.size ∧ ∃ c e fz m, W.heap[g]? = some (.cells c e fz) ∧ c[0]? = some (.int .i64 m) := by
  unfold World.cell? at h
  split at h
  · rename_i c e fz hx
    exact ⟨(Array.getElem?_eq_some_iff.1 hx).1, c, e, fz, m, hx, by simpa using h⟩
  · cases h
/-- a listed table's cells, from the row's condition -/
theorem glob_of_tab {P : Program} {W : World} {name : String} {g : Nat} {k : IntKind} {zs : List Int} (hg : P.globalNamed name = some g) (h : Lib.TabIs P W name k zs) :
    g < W.heap.size ∧ ∃ e fz, W.heap[g]? = some (.cells (zs.map fun z => Value.int k z).toArray e fz) := by
  unfold Lib.TabIs World.var? at h
  rw [hg] at h
  simp only [Option.bind_some] at h
  split at h
  · rename_i cs e fz hx
    cases h
    exact ⟨(Array.getElem?_eq_some_iff.1 hx).1, e, fz, hx⟩
  · cases h
theorem tab_of_glob {P : Program} {N : Nat} {w0 : Ref} {w : World} {name : String} {g : Nat} {k : IntKind} {zs : List Int} (hg : P.globalNamed name = some g) (hm : (g, zs.map fun z => Value.int k z) ∈ globs) (h : GOk N w0.w) (hb : Below N w0.w w) : Lib.TabIs P w name k zs := by
  obtain ⟨h1, e, fz, h2⟩ := h.1 _ hm
  unfold Lib.TabIs World.var?
  rw [hg]
  simp only [Option.bind_some, hb.block _ h1, h2]
end Go.Proofs.Ytnlfkllnmobppaa.AM

/- Contracts of functions of the library that the machine itself does not run: what they need. -/
namespace Go.Proofs.Ytnlfkllnmobppaa.AM
open Go Go.RowKit
set_option linter.unusedVariables false

/-- the numeral of a number, by rounds -/
def decF : Nat → Nat → List UInt8
  | 0, _ => []
  | f + 1, u => if u < 10 then [UInt8.ofNat (48 + u)] else decF f (u / 10) ++ [UInt8.ofNat (48 + u % 10)]
theorem decF_eq : ∀ (f u : Nat), u < 10 ^ (f + 1) → decF (f + 1) u = Lib.decDigits u := by
  intro f
  induction f with
  | zero => intro u h; rw [Lib.decDigits]; have h1 : u < 10 := by simpa using h
            simp [decF, h1]
  | succ f ih =>
    intro u h
    rw [Lib.decDigits]
    rw [decF]
    split
    · rfl
    · rw [ih _ (by rw [Nat.pow_succ] at h; omega)]
def decI (n : Int) : List UInt8 := if n < 0 then 45 :: decF 20 n.natAbs else decF 20 n.toNat
theorem decI_eq {n : Int} (h0 : -9223372036854775808 ≤ n) (h1 : n ≤ 9223372036854775807) : decI n = Lib.itoa n := by
  unfold decI Lib.itoa
  rw [decF_eq 19 _ (by omega), decF_eq 19 _ (by omega)]
def itoaS (n : Int) : ByteArray := ⟨(decI n).toArray⟩

section
variable {P : Program} {N : Nat} {w0 : Ref} {w : World} {ρ : Env} {H : Heap} {n : Nat} {E : FEnv}
theorem HR.grown (h : HR N w0 ρ H w) (k : Nat) (os : Array Obj) : HR N w0 ρ H (Sort.grow (w.drewN k) os) := by
  refine h.over ⟨⟨rfl, rfl, rfl, by simp [Sort.grow, World.drewN], fun i hi => ?_⟩, by simp [Sort.grow, World.drewN]⟩
  simp only [Sort.grow, World.drewN]
  rw [Array.getElem?_append_left hi]

theorem DL.go {all rest rest' : List Oper} {o : Oper} {fr fr' : Fr} {H' : Heap} {v : V} {Φ : Fr → Heap → Prop} (hr : rest = o :: rest') (hd : dstOk n o.dst = true) (hg : o.guard = none)
    (h : DO P N w0 n o fr H fun v' H'' => v' = v ∧ H'' = H') (hf : fput fr o.dst v = fr') (hn : DL P N w0 n all rest' fr' H' Φ) : DL P N w0 n all rest fr H Φ := by
  subst hr
  refine DL.cons hd hg fun ρ a w hs => (h ρ a w hs).post fun c w' hp => ?_
  obtain ⟨v', H'', ρ', h1, h2, h3, rfl, rfl⟩ := hp
  exact ⟨v', H'', ρ', h1, h2, h3, by subst hf; exact hn⟩
theorem DL.goEv (hE : EnvOK P E) {all rest rest' : List Oper} {o : Oper} {fr fr' : Fr} {H' : Heap} {v : V} {Φ : Fr → Heap → Prop} (hr : rest = o :: rest') (hd : dstOk n o.dst = true) (hg : o.guard = none)
    (h : evOp P E (evalO fr) H o.op o.type ret2 = some (v, H')) (hf : fput fr o.dst v = fr') (hn : DL P N w0 n all rest' fr' H' Φ) : DL P N w0 n all rest fr H Φ :=
  DL.go hr hd hg (DO.ev hE h ⟨rfl, rfl⟩) hf hn

/-- *T to unsafe.Pointer, of a variable that a block of its own holds -/
theorem DO.toUnsafe {o : Oper} {fr : Fr} {src dst t e : TypeId} {x : Operand} {j : TypeInfo} {id : Nat} {vs : List V} (ho : o.op = .convert src dst x) (hx : evalO fr x = some (.p (some (id, 0)))) (hs : P.underlying src = some (.pointer t)) (hd : P.underlying dst = some .unsafePointer)
    (ht : P.info? t = some j) (hj : j.size ≠ 0) (hg : H.get id = some (.cells vs e false)) (hex : exactT e = true) (hv : vs ≠ []) : DO P N w0 n o fr H fun v H' => v = .p (some (id, 0)) ∧ H' = H := by
  intro ρ a w hs'
  obtain ⟨dst', op, ty, pos, after, guard⟩ := o
  simp only at ho; subst ho
  have hr := SR.eval hs'.fr x _ hx
  obtain ⟨b, hb, hxx⟩ := hr.p'
  obtain ⟨c, fz, g1, g2, g3, g4⟩ := hs'.hr.base hg hb
  obtain ⟨_, _, _, gex⟩ := g4 rfl
  obtain ⟨g5, g6⟩ := gex hex
  have hsh : w.shape? b.blk = some (e, c.size) := by simp only [World.shape?, g1]
  have hl : 0 < vs.length := by cases vs with | nil => exact absurd rfl hv | cons _ _ => simp
  rw [g5] at hxx
  refine does_val (by rw [hxx]; exact Lib.run_to_unsafe w ⟨b.blk, 0, none⟩ hs hd ht hj hsh (by rw [g6]; exact hl)) ⟨.p (some (id, 0)), H, ρ, ρ.le_refl, ?_, hs'.hr, rfl, rfl⟩
  have := Rel.p (ρ := ρ) id 0 b hb
  rwa [g5] at this
theorem DO.fromUnsafe {o : Oper} {fr : Fr} {src dst u e : TypeId} {x : Operand} {j : TypeInfo} {id : Nat} {vs : List V} (ho : o.op = .convert src dst x) (hx : evalO fr x = some (.p (some (id, 0)))) (hs : P.underlying src = some .unsafePointer) (hd : P.underlying dst = some (.pointer u))
    (ht : P.info? u = some j) (hg : H.get id = some (.cells vs e false)) (hex : exactT e = true) (hl : liesAt P P.depth e (vs.length / P.cellsOf e) 0 u 1 = true) : DO P N w0 n o fr H fun v H' => v = .p (some (id, 0)) ∧ H' = H := by
  intro ρ a w hs'
  obtain ⟨dst', op, ty, pos, after, guard⟩ := o
  simp only at ho; subst ho
  have hr := SR.eval hs'.fr x _ hx
  obtain ⟨b, hb, hxx⟩ := hr.p'
  obtain ⟨c, fz, g1, g2, g3, g4⟩ := hs'.hr.base hg hb
  obtain ⟨_, _, _, gex⟩ := g4 rfl
  obtain ⟨g5, g6⟩ := gex hex
  have hsh : w.shape? b.blk = some (e, c.size) := by simp only [World.shape?, g1]
  rw [g5] at hxx
  refine does_val (by rw [hxx]; exact Lib.run_from_unsafe w ⟨b.blk, 0, none⟩ hs hd ht hsh (by rw [g6]; exact hl)) ⟨.p (some (id, 0)), H, ρ, ρ.le_refl, ?_, hs'.hr, rfl, rfl⟩
  have := Rel.p (ρ := ρ) id 0 b hb
  rwa [g5] at this
/-- a pointer is not other than itself -/
theorem DO.ptrSame {o : Oper} {fr : Fr} {t e yt : TypeId} {x y : Operand} {j : TypeInfo} {q : Nat × Nat} (ho : o.op = .binOp .neq t x y yt) (hx : evalO fr x = some (.p (some q))) (hy : evalO fr y = some (.p (some q))) (hs : P.underlying t = some (.pointer e))
    (ht : P.info? e = some j) (hgt : P.eqGuardType P.depth t = false) : DO P N w0 n o fr H fun v H' => v = .b false ∧ H' = H := by
  intro ρ a w hs'
  obtain ⟨dst', op, ty, pos, after, guard⟩ := o
  simp only at ho; subst ho
  obtain ⟨b, hb, hxx⟩ := (SR.eval hs'.fr x _ hx).p'
  obtain ⟨b2, hb2, hyy⟩ := (SR.eval hs'.fr y _ hy).p'
  rw [hb] at hb2; cases hb2
  have h1 := Lib.run_neq_ptr_same (P := P) w ⟨b.blk, b.off + q.2, none⟩ hs ht
  refine .inl ⟨.bool false, w, ?_, .b false, H, ρ, ρ.le_refl, .b false, hs'.hr, rfl, rfl⟩
  have h2 := eqGuard_ok (P := P) (op := .neq) x y (.pointer (some ⟨b.blk, b.off + q.2, none⟩)) (.pointer (some ⟨b.blk, b.off + q.2, none⟩)) hgt (fun e => by cases e.1) w
  simp [execOp, hxx, hyy, h2, h1]
/-- a function without a body that hands its argument back -/
theorem DO.noEscape {o : Oper} {fr : Fr} {f : FuncId} {fn : Func} {x : Operand} {ts : Array TypeId} {v : V} (ho : o.op = .call ⟨.value (.func f), #[x], ts⟩) (hx : evalO fr x = some v)
    (hf : P.funcs[f]? = some fn) (hname : (fn.name == "runtime.NumGoroutine") = false) (hb : fn.body.isNone = true) (hn : Extern.findNext fn = none) (he : Extern.find fn = some Extern.AbiNoEscape.same) : DO P N w0 n o fr H fun v' H' => v' = v ∧ H' = H := by
  intro ρ a w hs
  obtain ⟨dst', op, ty, pos, after, guard⟩ := o
  simp only at ho; subst ho
  have hr := SR.eval hs.fr x _ hx
  have h1 := run_callFunc_extern hf hname hb hn he #[a.eval x] w
  rw [Lib.run_noEscape] at h1
  have h1' : (callFunc f #[a.eval x]).run P w = .ok (.value (a.eval x)) w := h1
  have h2 : (execOp a.eval ⟨dst', .call ⟨.value (.func f), #[x], ts⟩, ty, pos, after, guard⟩).run P w = (callFunc f (#[] ++ #[x].map a.eval ++ #[])).run P w := by
    simp only [execOp, resolve, Sem.run_bind, Act.eval, Deferred.ofValue, Sem.run_pure, Result.andThen_ok, invoke]
  have h3 : (execOp a.eval ⟨dst', .call ⟨.value (.func f), #[x], ts⟩, ty, pos, after, guard⟩).run P w = .ok (.value (a.eval x)) w := by rw [h2]; simpa using h1'
  exact .inl ⟨a.eval x, w, h3, v, H, ρ, ρ.le_refl, hr, hs.hr, rfl, rfl⟩
end

/-- what 'copyCheck' of a strings.Builder does -/
def copyCk {R : Type} (B : TypeId) (p : Option (Nat × Nat)) (H : Heap) (K : Heap → Option R) : Option R :=
  match p with
  | some (id, 0) => match H.get id with
    | some (.cells [.p none, x] e false) => if e = B then K (H.put id (.cells [.p (some (id, 0)), x] e false)) else none
    | some (.cells [.p (some q), _] e false) => if q = (id, 0) ∧ e = B then K H else none
    | _ => none
  | _ => none
theorem copyCk_lin {R S : Type} {B : TypeId} {p : Option (Nat × Nat)} {H : Heap} {f : Heap → Option R} {g : Heap → Option S} {k : S → Option R} (h : ∀ H, f H = (g H).bind k) : copyCk B p H f = (copyCk B p H g).bind k := by
  unfold copyCk
  split
  · split
    · exact il0 (h _)
    · exact il0 (h _)
    · rfl
  · rfl
end Go.Proofs.Ytnlfkllnmobppaa.AM

/- Small facts for reasoning about printed functions. -/
namespace Go.Proofs.Ytnlfkllnmobppaa.AM
open Go Go.RowKit
set_option linter.unusedVariables false

theorem wr64 {n : Int} (h0 : -9223372036854775808 ≤ n) (h1 : n ≤ 9223372036854775807) : IntKind.wrap .i64 n = n := w64 ⟨h0, h1⟩
theorem wr8 (n : Int) : IntKind.wrap .u8 n = n % 256 := by simp [IntKind.wrap, IntKind.signed, IntKind.bits]
theorem wr16 (n : Int) : IntKind.wrap .u16 n = n % 65536 := by simp [IntKind.wrap, IntKind.signed, IntKind.bits]
theorem wr32 (n : Int) : IntKind.wrap .u32 n = n % 4294967296 := by simp [IntKind.wrap, IntKind.signed, IntKind.bits]
theorem wru64 (n : Int) : IntKind.wrap .u64 n = n % 18446744073709551616 := by simp [IntKind.wrap, IntKind.signed, IntKind.bits]
theorem tmodp {a b : Int} (h : 0 ≤ a) : Int.tmod a b = a % b := Int.tmod_eq_emod_of_nonneg h
theorem tmodn {a b : Int} (h : a ≤ 0) : Int.tmod a b = -((-a) % b) := by
  have h1 : 0 ≤ -a := by omega
  have := tmodp (b := b) h1
  rw [Int.neg_tmod] at this
  omega
theorem tdivp {a b : Int} (h : 0 ≤ a) : Int.tdiv a b = a / b := Int.tdiv_eq_ediv_of_nonneg h
theorem selD {R : Type} {p : Prop} [Decidable p] (a b : Option R) : sel (decide p) a b = if p then a else b := by by_cases h : p <;> simp [h]
theorem selE {R : Type} (x y : Int) (a b : Option R) : sel (x == y) a b = if x = y then a else b := by
  by_cases h : x = y
  · simp [h]
  · rw [if_neg h, show (x == y) = false by simpa using h]; rfl
theorem selN {R : Type} (x y : Int) (a b : Option R) : sel (x != y) a b = if x = y then b else a := by
  by_cases h : x = y
  · simp [h]
  · rw [if_neg h, show (x != y) = true by simpa using h]; rfl
theorem selI {R : Type} (c : Bool) (a b : Option R) : sel c a b = if c = true then a else b := by cases c <;> simp
theorem sel_t {R : Type} {c : Bool} {a b : Option R} (h : c = true) : sel c a b = a := by rw [h]; rfl
theorem sel_f {R : Type} {c : Bool} {a b : Option R} (h : c = false) : sel c a b = b := by rw [h]; rfl
end Go.Proofs.Ytnlfkllnmobppaa.AM

/- Slices of bytes. -/
namespace Go.Proofs.Ytnlfkllnmobppaa.AM
open Go Go.RowKit
set_option linter.unusedVariables false
set_option linter.unusedSimpArgs false

def bcs (l : List Int) : List V := l.map (V.i .u8)
@[simp] theorem bcs_length (l : List Int) : (bcs l).length = l.length := by simp [bcs]
@[simp] theorem bcs_nil : bcs [] = [] := rfl
theorem bcs_append (l m : List Int) : bcs (l ++ m) = bcs l ++ bcs m := by simp [bcs]
theorem bcs_ones (l : List Int) : (bcs l).all V.one = true := by simp [bcs, V.one]
theorem bcs_get {l : List Int} {i : Nat} (h : i < l.length) : (bcs l)[i]? = some (.i .u8 (l.getD i 0)) := by
  simp [bcs, List.getD_eq_getElem?_getD, List.getElem?_eq_getElem h]
theorem bcs_set (l : List Int) (i : Nat) (n : Int) : (bcs l).set i (.i .u8 n) = bcs (l.set i n) := by simp [bcs, List.map_set]
/-- a slice reads as these bytes -/
structure BS (H : Heap) (s : Sl) (l : List Int) : Prop where
  len : s.len = l.length
  is : slCells H 1 s = some (bcs l)
/-- numbers of a byte -/
def Byt (l : List Int) : Prop := ∀ n ∈ l, 0 ≤ n ∧ n ≤ 255
theorem Byt.getD {l : List Int} (h : Byt l) (i : Nat) : 0 ≤ l.getD i 0 ∧ l.getD i 0 ≤ 255 := by
  rw [List.getD_eq_getElem?_getD]
  cases hx : l[i]? with
  | none => simp
  | some n => simpa using h n (List.mem_of_getElem? hx)
theorem Byt.append {l m : List Int} (h : Byt l) (h' : Byt m) : Byt (l ++ m) := fun n hn => by
  rcases List.mem_append.1 hn with q | q
  · exact h n q
  · exact h' n q
theorem Byt.drop {l : List Int} (h : Byt l) (k : Nat) : Byt (l.drop k) := fun n hn => h n (List.mem_of_mem_drop hn)
theorem Byt.take {l : List Int} (h : Byt l) (k : Nat) : Byt (l.take k) := fun n hn => h n (List.mem_of_mem_take hn)
/-- a slice's capacity is no less than its length -/
def CapOk (s : Sl) : Prop := match s.cap with
  | .ex c => s.len ≤ c
  | .op z => z = 1
section
variable {H H' : Heap} {s : Sl} {l : List Int}
theorem BS.nil (H : Heap) : BS H ⟨none, 0, .ex 0⟩ [] := ⟨rfl, by simp [slCells]⟩
theorem BS.there (h : BS H s l) (hl : l ≠ []) : ∃ q vs e ro, s.a = some q ∧ H.get q.1 = some (.cells vs e ro) ∧ q.2 + l.length ≤ vs.length ∧ (vs.drop q.2).take l.length = bcs l := by
  obtain ⟨h1, h2⟩ := h
  unfold slCells at h2
  rw [h1, Nat.mul_one] at h2
  split at h2
  · rename_i h0; exact absurd (List.length_eq_zero_iff.1 h0) hl
  · split at h2
    · cases h2
    · rename_i id off ha
      unfold Heap.lds at h2
      split at h2
      · rename_i vs e ro hg
        split at h2
        · rename_i hle
          exact ⟨(id, off), vs, e, ro, ha, hg, hle, by simpa using h2⟩
        · cases h2
      · cases h2
theorem BS.mono (h : BS H s l) (hg : ∀ id off o, s.a = some (id, off) → H.get id = some o → H'.get id = some o) : BS H' s l := by
  by_cases hl : l = []
  · subst hl
    have := h.len
    exact ⟨h.len, by unfold slCells; rw [if_pos (by rw [this]; simp)]; rfl⟩
  · obtain ⟨q, vs, e, ro, h1, h2, h3, h4⟩ := h.there hl
    refine ⟨h.len, ?_⟩
    have hlen : l.length ≠ 0 := by simpa using hl
    unfold slCells
    rw [h.len, Nat.mul_one, if_neg hlen, h1]
    simp only [lds_of (hg q.1 q.2 _ h1 h2) h3, h4]
theorem BS.ext (h : BS H s l) (hw : H.Wf) (he : Ext H H') : BS H' s l := h.mono fun id off o _ ho => he.get hw ho
theorem BS.at (h : BS H s l) (hl : l ≠ []) : ∃ q, s.a = some q ∧ ∀ i : Nat, i < l.length → H.ldI .u8 q.1 (q.2 + i * 1) = some (l.getD i 0) := by
  obtain ⟨q, vs, e, ro, h1, h2, h3, h4⟩ := h.there hl
  refine ⟨q, h1, fun i hi => ldI_of h2 ?_⟩
  have h5 := bcs_get hi
  rw [← h4, List.getElem?_take_of_lt hi, List.getElem?_drop] at h5
  rw [Nat.mul_one]; exact h5
theorem BS.lt (h : BS H s l) (hw : H.Wf) (hl : l ≠ []) {q : Nat × Nat} (hq : s.a = some q) : q.1 < H.next := by
  obtain ⟨q', vs, e, ro, h1, h2, h3, h4⟩ := h.there hl
  rw [h1] at hq; cases hq
  exact hw _ _ h2
/-- an object of bytes, whole -/
theorem BS.obj {id : Nat} {e : TypeId} {ro : Bool} {c : Cap} (hg : H.get id = some (.cells (bcs l) e ro)) : BS H ⟨some (id, 0), l.length, c⟩ l := by
  refine ⟨rfl, ?_⟩
  have := slIs_of (off := 0) (len := l.length) (sz := 1) (c := c) hg (by simp)
  unfold SlIs at this
  rw [this]; simp [List.take_of_length_le]
theorem bs_of_arg (h : ArgSl H [.i .u8] s) : ∃ l, BS H s l ∧ Byt l ∧ CapOk s ∧ l.length ≤ maxLen ∧ (∃ c, s.cap = .ex c) := by
  rcases h with rfl | ⟨id, len, cap, vs, e, rfl, h1, h2, h3, h4, h5⟩
  · exact ⟨[], .nil _, (by intro n hn; cases hn), Nat.le_refl _, by simp [maxLen], 0, rfl⟩
  · have hv : ∀ (i : Nat) (hi : i < vs.length), ∃ n, vs[i] = .i .u8 n ∧ 0 ≤ n ∧ n ≤ 255 := fun i hi => by
      obtain ⟨n, hn, hk⟩ := Fit.int (h5 i vs[i] (.i .u8) (by simp [hi]) (by simp [Nat.mod_one]))
      exact ⟨n, hn, wfU8 hk⟩
    have hlen : vs.length = cap := by simpa using h3
    have hb : bcs ((vs.take len).map fun v => match v with | .i _ n => n | _ => 0) = vs.take len := by
      apply List.ext_getElem?
      intro i
      simp only [bcs, List.map_map, List.getElem?_map]
      by_cases hi : i < len
      · obtain ⟨n, hn, _⟩ := hv i (by omega)
        rw [List.getElem?_take_of_lt hi, List.getElem?_eq_getElem (by omega), hn]; rfl
      · rw [List.getElem?_eq_none (by simp; omega)]; rfl
    refine ⟨(vs.take len).map fun v => match v with | .i _ n => n | _ => 0, ⟨by simp; omega, ?_⟩, fun n hn => ?_, h1, by simp; omega, cap, rfl⟩
    · rw [hb]
      unfold slCells
      by_cases h0 : len = 0
      · simp [h0]
      · simp only [Nat.mul_one, if_neg h0]
        rw [lds_of (h4 (by omega)) (by omega)]; simp
    · simp only [List.mem_map] at hn
      obtain ⟨v, hv1, rfl⟩ := hn
      obtain ⟨i, hi, rfl⟩ := List.getElem_of_mem (List.mem_of_mem_take hv1)
      obtain ⟨n, hn, hb⟩ := hv i hi
      rw [hn]; exact hb
/-- s[:len:len] -/
theorem slOf_clip (hc : CapOk s) {R : Type} (K : Sl → Option R) : slOf 1 s none (some ((s.len : Nat) : Int)) (some ((s.len : Nat) : Int)) K = K ⟨s.a, s.len, .ex s.len⟩ := by
  obtain ⟨a, n, c⟩ := s
  cases c with
  | ex c =>
    have hc' : n ≤ c := hc
    simp only [slOf, Option.getD_none, Option.getD_some, Option.isSome_some, Option.isNone_some, Bool.and_false, Bool.false_eq_true, if_false]
    rw [if_pos (by omega)]
    congr 1
    simp only [Int.sub_zero, Int.toNat_natCast]
    split
    · rfl
    · cases a <;> simp
  | op z =>
    have hc' : z = 1 := hc
    subst hc'
    simp only [slOf, Option.getD_none, Option.getD_some, Option.isSome_some, Option.isNone_some, Bool.and_false, Bool.false_eq_true, if_false, if_true]
    rw [if_pos (by omega)]
    congr 1
    simp only [Int.sub_zero, Int.toNat_natCast]
    split
    · rfl
    · cases a <;> simp
/-- s[k:] -/
theorem slOf_from (hc : CapOk s) (h : BS H s l) {k : Nat} (hk : k ≤ l.length) : ∃ s', (∀ (R : Type) (K : Sl → Option R), slOf 1 s (some (k : Int)) none none K = K s') ∧ BS H s' (l.drop k) ∧ CapOk s' ∧ (∀ id off, s'.a = some (id, off) → ∃ off', s.a = some (id, off')) ∧ (s'.a = none → s.a = none) := by
  obtain ⟨a, n, c⟩ := s
  have hn : n = l.length := h.len
  have main : ∀ a' c', (∀ p, a = some p → k < l.length → a' = some (p.1, p.2 + k)) → BS H ⟨a', n - k, c'⟩ (l.drop k) := by
    intro a' c' ha
    refine ⟨by simp; omega, ?_⟩
    by_cases hkl : k < l.length
    · have hl : l ≠ [] := by intro e; subst e; simp at hkl
      obtain ⟨q, vs, e, ro, h1, h2, h3, h4⟩ := h.there hl
      rw [ha q h1 hkl]
      unfold slCells
      simp only [Nat.mul_one]
      rw [if_neg (by omega), lds_of h2 (by omega)]
      have h5 : (bcs l).drop k = bcs (l.drop k) := by simp [bcs, List.map_drop]
      rw [← h5, ← h4, List.drop_take, List.drop_drop, hn]
    · unfold slCells
      simp only [Nat.mul_one]
      rw [if_pos (by omega), List.drop_of_length_le (by omega)]; rfl
  cases c with
  | ex c =>
    have hc' : n ≤ c := hc
    refine ⟨⟨if ((c : Nat) : Int) = (k : Int) then a else a.map fun p => (p.1, p.2 + k), n - k, .ex (c - k)⟩, fun R K => ?_, main _ _ fun p hp hkl => ?_, by simp [CapOk]; omega, fun id off hx => ?_, fun hx => ?_⟩
    · simp only [slOf, Option.getD_none, Option.getD_some, Option.isSome_none, Bool.false_and, Bool.false_eq_true, if_false, Int.toNat_natCast, Nat.mul_one]
      rw [if_pos (by omega)]
      congr 1
      rw [show ((n : Int) - (k : Int)).toNat = n - k by omega, show ((c : Int) - (k : Int)).toNat = c - k by omega]
    · rw [if_neg (by omega), hp]; rfl
    · split at hx
      · exact ⟨off, hx⟩
      · cases a with
        | none => cases hx
        | some p => simp at hx; exact ⟨p.2, by rw [← hx.1]⟩
    · split at hx
      · exact hx
      · cases a with
        | none => rfl
        | some p => cases hx
  | op z =>
    have hc' : z = 1 := hc
    subst hc'
    refine ⟨⟨a.map fun p => (p.1, p.2 + k), n - k, .op 1⟩, fun R K => ?_, main _ _ fun p hp hkl => by rw [hp]; rfl, rfl, fun id off hx => ?_, fun hx => ?_⟩
    · simp only [slOf, Option.getD_none, Option.getD_some, Option.isSome_none, Bool.false_and, Bool.false_eq_true, if_false, if_true, Int.toNat_natCast, Nat.mul_one]
      rw [if_pos (by omega)]
      congr 1
      rw [show ((n : Int) - (k : Int)).toNat = n - k by omega]
    · cases a with
      | none => cases hx
      | some p => simp at hx; exact ⟨p.2, by rw [← hx.1]⟩
    · cases a with
      | none => rfl
      | some p => cases hx
/-- what a copy is: nil of nil, a new object else -/
structure CopyOf (H H' : Heap) (e : TypeId) (s' : Sl) (l : List Int) : Prop where
  bs : BS H' s' l
  ext : Ext H H'
  wf : H'.Wf
  cap : CapOk s'
  own : l = [] ∨ ∃ id, s'.a = some (id, 0) ∧ H.next ≤ id ∧ H'.get id = some (.cells (bcs l) e false)
theorem appendV_fresh {id : Nat} {e : TypeId} {n : Nat} {R : Type} (hn : n ≠ 0) (hm : n ≤ 140737488355328) (K : Sl → Heap → Option R) (new : List V) :
    appendV H e 1 1 ⟨some (id, 0), 0, .ex 0⟩ n new K = K ⟨some (H.next, 0), n, .op 1⟩ (H.new (.cells new e false)) := by
  simp only [appendV]
  rw [if_neg hn, if_neg (by omega), if_neg (by omega), if_pos ⟨by omega, by omega⟩]
  simp [slCells]
/-- append(nil.., ..) -/
theorem appendV_nil {e : TypeId} {n : Nat} {R : Type} (hn : n ≠ 0) (hm : n ≤ 140737488355328) (K : Sl → Heap → Option R) (new : List V) :
    appendV H e 1 1 ⟨none, 0, .ex 0⟩ n new K = K ⟨some (H.next, 0), n, .op 1⟩ (H.new (.cells new e false)) := by
  simp only [appendV]
  rw [if_neg hn, if_neg (by omega), if_pos ⟨by omega, by omega⟩]
  simp
theorem appendV_zero {e : TypeId} {sz by' : Nat} {R : Type} (K : Sl → Heap → Option R) (new : List V) (x : Sl) : appendV H e sz by' x 0 new K = K x H := by
  simp only [appendV]; rfl
theorem Own.toBS {e : TypeId} (h : Own H e 1 s (bcs l)) : BS H s l := ⟨by have := h.len; simpa using this.symm, h.slIs⟩
theorem Own.capOk {e : TypeId} {vs : List V} (h : Own H e 1 s vs) : CapOk s := by
  cases h with
  | nil => exact Nat.le_refl _
  | op => rfl
end
end Go.Proofs.Ytnlfkllnmobppaa.AM

/- A row of bytes that the call itself has made. -/
namespace Go.Proofs.Ytnlfkllnmobppaa.AM
open Go Go.RowKit
set_option linter.unusedVariables false
set_option linter.unusedSimpArgs false

theorem Own.inv {H : Heap} {e : TypeId} {sz : Nat} {s : Sl} {l : List V} (h : Own H e sz s l) : (s = ⟨none, 0, .ex 0⟩ ∧ l = []) ∨ ∃ id n, s = ⟨some (id, 0), n, .op sz⟩ ∧ H.get id = some (.cells l e false) ∧ l.length = n * sz := by
  cases h with
  | nil => exact .inl ⟨rfl, rfl⟩
  | op id n _ h1 h2 h3 => exact .inr ⟨id, n, rfl, h1, h2⟩
/-- the slice is all of an own object, made behind H0 -/
structure OS (H0 H : Heap) (e : TypeId) (s : Sl) (l : List Int) (q : Nat) : Prop where
  a : s.a = some (q, 0)
  len : s.len = l.length
  obj : H.get q = some (.cells (bcs l) e false)
  cap : s.cap = .ex s.len ∨ s.cap = .op 1
  new : H0.next ≤ q
  ext : Ext H0 H
  wf : H.Wf
section
variable {H0 H : Heap} {e : TypeId} {s : Sl} {l : List Int} {q : Nat}
theorem OS.bs (h : OS H0 H e s l q) : BS H s l := by
  obtain ⟨a, n, c⟩ := s
  have h1 := h.a; have h2 := h.len
  simp only at h1 h2
  subst h1; subst h2
  exact BS.obj h.obj
theorem OS.capOk (h : OS H0 H e s l q) : CapOk s := by
  unfold CapOk
  rcases h.cap with c | c <;> rw [c]
  exact Nat.le_refl _
theorem OS.make {vs : List Int} (hw : H.Wf) (hx : Ext H0 H) {c : Cap} (hc : c = .ex vs.length ∨ c = .op 1) : OS H0 (H.new (.cells (bcs vs) e false)) e ⟨some (H.next, 0), vs.length, c⟩ vs H.next :=
  ⟨rfl, rfl, Heap.gnew _ _, hc, hx.next, hx.trans (Ext.new _ _), hw.new _⟩
theorem OS.append (h : OS H0 H e s l q) (m : List Int) (hm : l.length + m.length ≤ 140737488355328) :
    ∃ s' H' q', (∀ (R : Type) (K : Sl → Heap → Option R), appendV H e 1 1 s m.length (bcs m) K = K s' H') ∧ OS H0 H' e s' (l ++ m) q' ∧ s'.len = s.len + m.length ∧ H.next ≤ H'.next ∧ ∀ i, i < H.next → i ≠ q → H'.get i = H.get i := by
  obtain ⟨a, n, c⟩ := s
  have h1 := h.a; have h2 := h.len; have hg := h.obj; have hc := h.cap
  simp only at h1 h2
  subst h1; subst h2
  by_cases h0 : m = []
  · subst h0
    refine ⟨⟨some (q, 0), l.length, c⟩, H, q, fun R K => ?_, by rw [List.append_nil]; exact h, by simp, Nat.le_refl _, fun _ _ _ => rfl⟩
    simp only [List.length_nil, appendV_zero]
  · have hm0 : m.length ≠ 0 := by simpa using h0
    rcases hc with hc | hc
    · simp only at hc; subst hc
      refine ⟨⟨some (H.next, 0), l.length + m.length, .op 1⟩, H.new (.cells (bcs (l ++ m)) e false), H.next, fun R K => ?_, ⟨rfl, by simp, Heap.gnew _ _, .inr rfl, h.ext.next, h.ext.trans (Ext.new _ _), h.wf.new _⟩, rfl, by simp, fun i hi _ => by rw [Heap.get_new, if_neg (by omega)]⟩
      simp only [appendV]
      rw [if_neg hm0, if_neg (by omega), if_neg (by omega), if_pos ⟨by omega, by omega⟩]
      rw [show slCells H 1 ⟨some (q, 0), l.length, .ex l.length⟩ = some (bcs l) from h.bs.is, bcs_append]
      rfl
    · simp only at hc; subst hc
      refine ⟨⟨some (H.next, 0), l.length + m.length, .op 1⟩, (H.drop q).new (.cells (bcs (l ++ m)) e false), H.next, fun R K => ?_, ⟨rfl, by simp, ?_, .inr rfl, h.ext.next, ?_, (h.wf.drop q).new _⟩, rfl, by simp, fun i hi hq => ?_⟩
      · simp only [appendV]
        rw [if_neg hm0, if_neg (by omega)]
        simp only [true_and]
        rw [if_pos ⟨by omega, by omega⟩]
        simp only [hg, if_true]
        rw [if_neg (by simp; omega), if_pos ⟨by simp, bcs_ones _⟩, bcs_append]
        simp [List.take_of_length_le]
      · exact Heap.gnew (H.drop q) _
      · refine ⟨by have := h.ext.next; simp; omega, fun i hi hs => ?_⟩
        have := h.new
        have := h.ext.next
        rw [Heap.get_new, if_neg (by simp; omega), Heap.get_drop, if_neg (by omega)]
        exact h.ext.same i hi hs
      · rw [Heap.get_new, if_neg (by simp; omega), Heap.get_drop, if_neg hq]
theorem OS.set (h : OS H0 H e s l q) {k : Nat} (hk : k < l.length) (n : Int) :
    ∃ H', H.st q (0 + k * 1) (.i .u8 n) = some H' ∧ OS H0 H' e s (l.set k n) q ∧ H'.next = H.next ∧ ∀ i, i ≠ q → H'.get i = H.get i := by
  refine ⟨H.put q (.cells (bcs (l.set k n)) e false), ?_, ⟨h.a, by rw [List.length_set]; exact h.len, Heap.gput _ _ _, h.cap, h.new, h.ext.above h.new _, h.wf.put h.obj _⟩, rfl, fun i hi => by rw [Heap.get_put, if_neg hi]⟩
  rw [Nat.zero_add, Nat.mul_one, st_of h.obj (by simpa using hk) rfl, bcs_set]
theorem OS.frame (h : OS H0 H e s l q) {H' : Heap} (hx : Ext H H') (hw : H'.Wf) : OS H0 H' e s l q :=
  ⟨h.a, h.len, hx.get h.wf h.obj, h.cap, h.new, h.ext.trans hx, hw⟩
end
end Go.Proofs.Ytnlfkllnmobppaa.AM

