/- A function's answer is handed on once. Environments of functions. -/
import Derived.Test.YteipplgcdbaokaaDoorAm21
namespace Go.Proofs.YteipplgcdbaokaaDoor.AM
open Go Go.RowKit

section
variable {R S : Type} {P : Program} {E : FEnv} {n : Nat}

theorem evOps_lin (hL : EnvLin E) {all : List Oper} {k : S → Option R} : ∀ (rest : List Oper) (fr : Fr) (H : Heap) {f : Fr → Heap → Option R} {g : Fr → Heap → Option S}, (∀ fr H, f fr H = (g fr H).bind k) → evOps P E n all rest fr H f = (evOps P E n all rest fr H g).bind k := by
  intro rest
  induction rest with
  | nil => intro fr H f g h; exact h _ _
  | cons o rest ih =>
    intro fr H f g h
    unfold evOps
    refine il1 ?_
    split
    · exact evOp_lin hL fun v H => ih _ _ h
    · split
      · split
        · exact sl_lin (il (evOp_lin hL fun v H => ih _ _ h) (ih _ _ h)) (il (ih _ _ h) (evOp_lin hL fun v H => ih _ _ h))
        · exact ih _ _ h
        · rfl
      · rfl
theorem chkHeaps_lin (hL : EnvLin E) {fr : Fr} {o : Op} {ty : TypeId} {v : V} {k : S → Option R} : ∀ (hs : List Heap) {f : Unit → Option R} {g : Unit → Option S}, (∀ u, f u = (g u).bind k) → chkHeaps P E fr o ty v hs f = (chkHeaps P E fr o ty v hs g).bind k := by
  intro hs
  induction hs with
  | nil => intro f g h; exact h _
  | cons H hs ih => intro f g h; exact evOp_lin hL fun v' _ => il0 (ih h)
theorem chkPends_lin (hL : EnvLin E) {H : Heap} {c : Nat} {k : S → Option R} : ∀ (ps : List Pend) {f : Unit → Option R} {g : Unit → Option S}, (∀ u, f u = (g u).bind k) → chkPends P E H c ps f = (chkPends P E H c ps g).bind k := by
  intro ps
  induction ps with
  | nil => intro f g h; exact h _
  | cons p ps ih => intro f g h; exact il (evOp_lin hL fun v' _ => il0 (ih h)) (ih h)
theorem dOne_lin (hL : EnvLin E) {all : List Oper} {tbl : List Nat} {o : Oper} {i : Nat} {fr : Fr} {H : Heap} {hs : List Heap} {ps : List Pend} {k : S → Option R} {f : Fr → Heap → List Heap → List Pend → Option R} {g : Fr → Heap → List Heap → List Pend → Option S}
    (h : ∀ a b c d, f a b c d = (g a b c d).bind k) : dOne P E all tbl o i fr H hs ps f = (dOne P E all tbl o i fr H hs ps g).bind k := by
  unfold dOne
  exact il (evOp_lin hL fun v H' => chkPends_lin hL _ fun _ => h _ _ _ _) (il (evOp_lin hL fun v _ => chkHeaps_lin hL _ fun _ => h _ _ _ _) (evOp_lin hL fun v _ => h _ _ _ _))
theorem dSkip_lin (hL : EnvLin E) {o : Oper} {fr : Fr} {H : Heap} {hs : List Heap} {ps : List Pend} {k : S → Option R} {f : Fr → Heap → List Heap → List Pend → Option R} {g : Fr → Heap → List Heap → List Pend → Option S}
    (h : ∀ a b c d, f a b c d = (g a b c d).bind k) : dSkip P E o fr H hs ps f = (dSkip P E o fr H hs ps g).bind k := by
  unfold dSkip
  exact il (chkPends_lin hL _ fun _ => h _ _ _ _) (h _ _ _ _)
theorem evD_lin (hL : EnvLin E) {all : List Oper} {tbl : List Nat} {k : S → Option R} : ∀ (rest : List Oper) (i : Nat) (fr : Fr) (H : Heap) (hs : List Heap) (ps : List Pend) {f : Fr → Heap → Option R} {g : Fr → Heap → Option S}, (∀ fr H, f fr H = (g fr H).bind k) →
    evD P E n all tbl rest i fr H hs ps f = (evD P E n all tbl rest i fr H hs ps g).bind k := by
  intro rest
  induction rest with
  | nil => intro i fr H hs ps f g h; exact h _ _
  | cons o rest ih =>
    intro i fr H hs ps f g h
    unfold evD
    refine il1 ?_
    split
    · exact dOne_lin hL fun a b c d => ih _ _ _ _ _ h
    · split
      · split
        · exact sl_lin (il (dOne_lin hL fun a b c d => ih _ _ _ _ _ h) (dSkip_lin hL fun a b c d => ih _ _ _ _ _ h)) (il (dSkip_lin hL fun a b c d => ih _ _ _ _ _ h) (dOne_lin hL fun a b c d => ih _ _ _ _ _ h))
        · exact dSkip_lin hL fun a b c d => ih _ _ _ _ _ h
        · rfl
      · rfl

theorem ev_lin (hL : EnvLin E) {lr : LRun} {kp : Nat → Option (List Nat)} : ∀ (c : Code) {R S : Type} {k : S → Option R} (fr : Fr) (H : Heap) {f : Ex → Fr → Heap → Option R} {g : Ex → Fr → Heap → Option S}, (∀ e fr H, f e fr H = (g e fr H).bind k) →
    ev P E lr n kp c fr H f = (ev P E lr n kp c fr H g).bind k := by
  intro c
  induction c with
  | skip => intro R S k fr H f g h; exact h _ _ _
  | exit id => intro R S k fr H f g h; exact h _ _ _
  | ret => intro R S k fr H f g h; exact h _ _ _
  | region id ops draw =>
    intro R S k fr H f g h
    cases draw with
    | false => exact evOps_lin hL _ _ _ fun fr H => h _ _ _
    | true => exact il0 (evD_lin hL _ _ _ _ _ _ fun fr H => h _ _ _)
  | seq x y ihx ihy =>
    intro R S k fr H f g h
    refine ihx fr H fun e fr' H' => ?_
    cases e with
    | normal => exact ihy fr' H' h
    | exit i => exact h _ _ _
    | ret => exact h _ _ _
  | cond c x y ihx ihy =>
    intro R S k fr H f g h
    simp only [ev]
    split
    · exact sl_lin (ihx fr H fun e _ _ => by cases e <;> exact h _ _ _) (ihy fr H fun e _ _ => by cases e <;> exact h _ _ _)
    · rfl
  | block id x ih =>
    intro R S k fr H f g h
    refine ih _ H fun e fr' H' => ?_
    cases e with
    | normal => exact h _ _ _
    | exit i => exact il (h _ _ _) (h _ _ _)
    | ret => exact h _ _ _
  | loop x ih =>
    intro R S k fr H f g h
    exact bl fun r => h _ _ _
  | _ => intro R S k fr H f g h; rfl

theorem resOne_lin {fr : Fr} {H : Heap} {rv : ResultVar} {k : S → Option R} {f : V → Option R} {g : V → Option S} (h : ∀ v, f v = (g v).bind k) : resOne P fr H rv f = (resOne P fr H rv g).bind k := by
  cases rv with
  | tmp t => exact bl h
  | cell a t =>
    refine bl fun v => ?_
    split
    · exact ldT_lin h
    · rfl
theorem resAll_lin {fr : Fr} {H : Heap} {k : S → Option R} : ∀ (rs : List ResultVar) {f : List V → Option R} {g : List V → Option S}, (∀ v, f v = (g v).bind k) → resAll P fr H rs f = (resAll P fr H rs g).bind k := by
  intro rs
  induction rs with
  | nil => intro f g h; exact h _
  | cons r rs ih => intro f g h; exact resOne_lin fun v => ih fun vs => h _
theorem res_lin {fr : Fr} {H : Heap} {rs : List ResultVar} {k : S → Option R} {f : V → Heap → Option R} {g : V → Heap → Option S} (h : ∀ v H, f v H = (g v H).bind k) : res P fr H rs f = (res P fr H rs g).bind k := by
  refine resAll_lin rs fun vs => ?_
  split
  · exact h _ _
  · exact h _ _
theorem evFn_lin (hL : EnvLin E) {lr : LRun} {fn : Func} {kp : Nat → Option (List Nat)} {args : List V} {H : Heap} {k : S → Option R} {f : V → Heap → Option R} {g : V → Heap → Option S} (h : ∀ v H, f v H = (g v H).bind k) :
    evFn P E lr fn kp args H f = (evFn P E lr fn kp args H g).bind k := by
  unfold evFn
  refine il0 ?_
  split
  · refine ev_lin hL _ _ _ fun e fr' H' => ?_
    cases e with
    | normal => exact res_lin h
    | ret => exact res_lin h
    | exit i => rfl
  · rfl
end

/-- an environment: each function stands for what its number computes, and hands on once -/
structure EnvGood (P : Program) (E : FEnv) : Prop where
  ok : EnvOK P E
  lin : EnvLin E
theorem EnvGood.nil (P : Program) : EnvGood P [] := ⟨fun g F h => (by cases h), fun g F h => (by cases h)⟩
theorem EnvGood.cons {P : Program} {E : FEnv} (h : EnvGood P E) {g : FuncId} {F : Fun} (h1 : FunOK P g F) (h2 : FunLin F) : EnvGood P ((g, F) :: E) :=
  ⟨fun g' F' hm => (by rcases List.mem_cons.1 hm with e | hm; cases e; exact h1; exact h.ok g' F' hm), fun g' F' hm => (by rcases List.mem_cons.1 hm with e | hm; cases e; exact h2; exact h.lin g' F' hm)⟩

/-- a call of this number enters the function -/
def enters (P : Program) (g : FuncId) : Bool := match P.funcs[g]? with
  | some fn => fn.name != "runtime.NumGoroutine" && fn.body.isSome
  | none => false
theorem enters_run {P : Program} {g : FuncId} (h : enters P g = true) (args : Array Value) (w : World) : (callFunc g args).run P w = .ok (.enter g args) w := by
  unfold enters at h
  split at h
  · rename_i fn hf
    simp only [Bool.and_eq_true, bne_iff_ne, ne_eq] at h
    obtain ⟨h1, h2⟩ := h
    have h3 : fn.body ≠ none := by intro hb; simp [hb] at h2
    simp [callFunc, hf, h1, h3]
  · cases h

/-- the machine's own run of a function -/
def runF (P : Program) (E : FEnv) (lr : LRun) (fn : Func) (kp : Nat → Option (List Nat)) : Fun := fun _ args H K => evFn P E lr fn kp args H K
theorem runF_ok {P : Program} {E : FEnv} (hE : EnvGood P E) (hm : P.follows .mixedOrders = true) {lr : LRun} (hlr : lr.ok) {g : FuncId} {fn : Func} (hf : P.funcs[g]? = some fn) (he : enters P g = true) (kp : Nat → Option (List Nat)) : FunOK P g (runF P E lr fn kp) :=
  ⟨fun args w => enters_run he args w, fun _ _ _ _ _ _ _ _ _ _ hk hr hh => evFn_sound hE.ok hE.lin hm hlr hf hk hr hh⟩
theorem runF_lin {P : Program} {E : FEnv} (hE : EnvGood P E) (lr : LRun) (fn : Func) (kp : Nat → Option (List Nat)) : FunLin (runF P E lr fn kp) :=
  fun _ _ _ _ _ _ _ h => evFn_lin hE.lin h

/-- a table of functions, run to a depth of calls -/
noncomputable def envD (P : Program) (lr : LRun) (kp : FuncId → Nat → Option (List Nat)) (tab : List (FuncId × Func)) : Nat → FEnv
  | 0 => []
  | d + 1 => tab.map fun p => (p.1, runF P (envD P lr kp tab d) lr p.2 (kp p.1))
theorem envD_good {P : Program} (hm : P.follows .mixedOrders = true) {lr : LRun} (hlr : lr.ok) (kp : FuncId → Nat → Option (List Nat)) {tab : List (FuncId × Func)} (ht : ∀ g fn, (g, fn) ∈ tab → P.funcs[g]? = some fn ∧ enters P g = true) : ∀ d, EnvGood P (envD P lr kp tab d) := by
  intro d
  induction d with
  | zero => exact .nil P
  | succ d ih =>
    constructor
    · intro g F hm'
      simp only [envD, List.mem_map] at hm'
      obtain ⟨⟨g', fn⟩, hin, he⟩ := hm'
      cases he
      obtain ⟨h1, h2⟩ := ht g' fn hin
      exact runF_ok ih hm hlr h1 h2 _
    · intro g F hm'
      simp only [envD, List.mem_map] at hm'
      obtain ⟨⟨g', fn⟩, hin, he⟩ := hm'
      cases he
      exact runF_lin ih lr fn _

theorem EnvGood.append {P : Program} {E E' : FEnv} (h : EnvGood P E) (h' : EnvGood P E') : EnvGood P (E ++ E') :=
  ⟨fun g F hm => (by rcases List.mem_append.1 hm with hm | hm; exact h.ok g F hm; exact h'.ok g F hm), fun g F hm => (by rcases List.mem_append.1 hm with hm | hm; exact h.lin g F hm; exact h'.lin g F hm)⟩
/-- the same, with some functions whose contracts are known -/
noncomputable def envB (P : Program) (lr : LRun) (kp : FuncId → Nat → Option (List Nat)) (base : FEnv) (tab : List (FuncId × Func)) : Nat → FEnv
  | 0 => base
  | d + 1 => base ++ tab.map fun p => (p.1, runF P (envB P lr kp base tab d) lr p.2 (kp p.1))
theorem envB_good {P : Program} (hm : P.follows .mixedOrders = true) {lr : LRun} (hlr : lr.ok) (kp : FuncId → Nat → Option (List Nat)) {base : FEnv} (hb : EnvGood P base) {tab : List (FuncId × Func)} (ht : ∀ g fn, (g, fn) ∈ tab → P.funcs[g]? = some fn ∧ enters P g = true) : ∀ d, EnvGood P (envB P lr kp base tab d) := by
  intro d
  induction d with
  | zero => exact hb
  | succ d ih =>
    refine hb.append ?_
    constructor
    · intro g F hm'
      simp only [List.mem_map] at hm'
      obtain ⟨⟨g', fn⟩, hin, he⟩ := hm'
      cases he
      obtain ⟨h1, h2⟩ := ht g' fn hin
      exact runF_ok ih hm hlr h1 h2 _
    · intro g F hm'
      simp only [List.mem_map] at hm'
      obtain ⟨⟨g', fn⟩, hin, he⟩ := hm'
      cases he
      exact runF_lin ih lr fn _

/-- a function that gives less, or the same in other words -/
theorem FunOK.of_le {P : Program} {g : FuncId} {F F' : Fun} (h : FunOK P g F) (hle : ∀ (R : Type) (args : List V) (H : Heap) (K : V → Heap → Option R) (r : R), F' R args H K = some r → F R args H K = some r) : FunOK P g F' :=
  ⟨h.1, fun R args H K r N w0 w ρ xs hk => h.2 R args H K r N w0 w ρ xs (hle R args H K r hk)⟩

end Go.Proofs.YteipplgcdbaokaaDoor.AM
