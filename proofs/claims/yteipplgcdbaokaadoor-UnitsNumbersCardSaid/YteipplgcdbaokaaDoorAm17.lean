/- Regions in the order of the text, code, functions. -/
import Derived.Test.YteipplgcdbaokaaDoorAm16
namespace Go.Proofs.YteipplgcdbaokaaDoor.AM
open Go Go.RowKit

def FR (ρ : Env) (fr : Fr) (tmps : Array Value) : Prop := ∀ t v, fget fr t = some v → ∃ c, tmps[t]? = some c ∧ Rel ρ v c
structure SR (N : Nat) (w0 : World) (n : Nat) (ρ : Env) (fr : Fr) (H : Heap) (a : Act) (w : World) : Prop where
  fr : FR ρ fr a.tmps
  size : a.tmps.size = n
  defers : a.defers = []
  hr : HR N w0 ρ H w

theorem fget_fset (fr : Fr) (t : Nat) (v : V) (u : Nat) : fget (fset fr t v) u = if u = t then some v else fget fr u := by
  induction fr with
  | nil => simp [fset, fget]
  | cons p fr ih =>
    obtain ⟨k, x⟩ := p
    simp only [fset]
    split
    · rename_i h; subst h
      simp only [fget]
      split <;> rfl
    · rename_i h
      simp only [fget]
      split
      · rename_i hu; subst hu; rw [if_neg (fun e => h e.symm)]
      · exact ih
theorem fget_fdel (fr : Fr) (t : Nat) (u : Nat) : fget (fdel fr t) u = if u = t then none else fget fr u := by
  induction fr with
  | nil => simp [fdel, fget]
  | cons p fr ih =>
    obtain ⟨k, x⟩ := p
    simp only [fdel]
    split
    · rename_i h; subst h
      rw [ih]
      simp only [fget]
      split <;> rfl
    · rename_i h
      simp only [fget]
      split
      · rename_i hu; subst hu; rw [if_neg (fun e => h e.symm)]
      · exact ih
theorem fget_fkeep (fr : Fr) (l : List Nat) (u : Nat) (v : V) (h : fget (fkeep fr l) u = some v) : fget fr u = some v := by
  induction l with
  | nil => simp [fkeep, fget] at h
  | cons t l ih =>
    simp only [fkeep] at h
    split at h
    · rename_i x hx
      simp only [fget] at h
      split at h
      · rename_i hu; subst hu; rw [hx]; exact h
      · exact ih h
    · exact ih h

section
variable {P : Program} {N : Nat} {w0 w : World} {ρ : Env} {H : Heap} {n : Nat} {fr : Fr} {a : Act}

theorem FR.mono {ρ' : Env} (hl : ρ.le ρ') {tmps : Array Value} (h : FR ρ fr tmps) : FR ρ' fr tmps := fun t v hv => let ⟨c, hc, hr⟩ := h t v hv; ⟨c, hc, hr.mono hl⟩
theorem SR.eval (h : FR ρ fr a.tmps) (x : Operand) (v : V) (hv : evalO fr x = some v) : Rel ρ v (a.eval x) := by
  cases x with
  | tmp t =>
    obtain ⟨c, hc, hr⟩ := h t v hv
    simpa [Act.eval, Array.getD_eq_getD_getElem?, hc] using hr
  | const c => exact ofValue_sound hv
  | global g => cases hv
  | func f =>
    simp [evalO] at hv; subst hv
    exact .fn (.func f) [] [] [] [] .nil .nil

theorem SR.put (h : SR N w0 n ρ fr H a w) {ρ' : Env} {H' : Heap} {w' : World} (hl : ρ.le ρ') (hh : HR N w0 ρ' H' w') {d : Option Tmp} (hd : dstOk n d = true) {v : V} {c : Value} (hr : Rel ρ' v c) :
    SR N w0 n ρ' (fput fr d v) H' (a.put d c) w' := by
  cases d with
  | none => exact ⟨h.fr.mono hl, h.size, h.defers, hh⟩
  | some d =>
    have hdn : d < n := by simpa [dstOk] using hd
    refine ⟨fun t u hu => ?_, by simpa [Act.put] using h.size, h.defers, hh⟩
    simp only [fput, fget_fset] at hu
    simp only [Act.put, Array.getElem?_setIfInBounds]
    split at hu
    · rename_i ht; subst ht
      obtain rfl : v = u := by simpa using hu
      exact ⟨c, by rw [if_pos rfl, if_pos (by rw [h.size]; exact hdn)], hr⟩
    · rename_i ht
      rw [if_neg (fun e => ht e.symm)]
      exact h.fr.mono hl t u hu
theorem SR.skip (h : SR N w0 n ρ fr H a w) (d : Option Tmp) (hd : dstOk n d = true) : SR N w0 n ρ (fskip fr d) H (a.put d undef) w := by
  cases d with
  | none => exact h
  | some d =>
    refine ⟨fun t u hu => ?_, by simpa [Act.put] using h.size, h.defers, h.hr⟩
    have hdn : d < n := by simpa [dstOk] using hd
    simp only [fskip, fget_fset] at hu
    simp only [Act.put, Array.getElem?_setIfInBounds]
    split at hu
    · rename_i ht
      subst ht
      obtain rfl : V.tup [] = u := by simpa using hu
      exact ⟨undef, by rw [if_pos rfl, if_pos (by rw [h.size]; exact hdn)], .tup _ _ .nil⟩
    · rename_i ht
      rw [if_neg (fun e => ht e.symm)]
      exact h.fr t u hu
/-- a slot known to hold a bool: its value may be written out -/
theorem SR.lit (h : SR N w0 n ρ fr H a w) {d : Nat} {x : Bool} (hx : fget fr d = some (.b x)) : SR N w0 n ρ (fset fr d (.b x)) H a w := by
  refine ⟨fun t u hu => ?_, h.size, h.defers, h.hr⟩
  rw [fget_fset] at hu
  split at hu
  · rename_i ht; subst ht
    obtain rfl : V.b x = u := by simpa using hu
    exact h.fr _ _ hx
  · exact h.fr _ _ hu
theorem SR.keep (h : SR N w0 n ρ fr H a w) (kp : Nat → Option (List Nat)) (id : Nat) : SR N w0 n ρ (fkp kp id fr) H a w := by
  unfold fkp
  split
  · exact ⟨fun t v hv => h.fr t v (fget_fkeep _ _ _ _ hv), h.size, h.defers, h.hr⟩
  · exact h

theorem Does.wp {o : Oper} {Φ : Value → World → Prop} (h : Does P w (execOp a.eval o) Φ) {next : Act → World → Prop} {Q : Exit → Act → World → Prop} (hn : ∀ c w', Φ c w' → next (a.put o.dst c) w') : o.wp P a w next Q := by
  unfold Oper.wp
  rcases h with ⟨c, w', h1, h2⟩ | ⟨w', h1, h2⟩ | ⟨f, args, w', h1, h2⟩
  · rw [h1]; exact hn c w' h2
  · rw [h1]; exact hn _ w' h2
  · rw [h1, Oper.upon_enter]
    refine h2.mono fun e w'' ⟨c, he, hp⟩ => ?_
    subst he
    exact hn c w'' hp

theorem wanted_none {o : Oper} {y : Nat → Option Bool} (h : o.guard = none) : Region.wanted o y = true := by simp [Region.wanted, h]
theorem yielded_of {ops : Array Oper} {tmps : Array Value} {j d : Nat} {x : Bool} (hd : (ops[j]?).bind (·.dst) = some d) (hx : tmps[d]? = some (.bool x)) : yielded ops tmps j = some x := by
  simp [yielded, hd, hx]

theorem yielded_none {ops : Array Oper} {tmps : Array Value} {j d : Nat} (hd : (ops[j]?).bind (·.dst) = some d) (hx : tmps[d]? = some (.tuple #[])) : yielded ops tmps j = none := by
  simp [yielded, hd, hx]

theorem SR.guard (h : SR N w0 n ρ fr H a w) {all : List Oper} {j d : Nat} {x : Bool} (hd : (all[j]?).bind (·.dst) = some d) (hx : fget fr d = some (.b x)) : yielded all.toArray a.tmps j = some x := by
  obtain ⟨c, hc, hr⟩ := h.fr d _ hx
  cases hr
  exact yielded_of (by simpa using hd) hc

theorem SR.unyielded (h : SR N w0 n ρ fr H a w) {all : List Oper} {j d : Nat} (hd : (all[j]?).bind (·.dst) = some d) (hx : fget fr d = some (.tup [])) : yielded all.toArray a.tmps j = none := by
  obtain ⟨c, hc, hr⟩ := h.fr d _ hx
  cases hr with
  | tup _ xs hrs =>
  cases hrs
  exact yielded_none (by simpa using hd) hc

theorem evOps_sound {R : Type} {r : R} {E : FEnv} (hE : EnvOK P E) {all : List Oper} {Q : Exit → Act → World → Prop} {K : Fr → Heap → Option R} : ∀ (rest : List Oper) (fr : Fr) (H : Heap) (ρ : Env) (a : Act) (w : World), evOps P E n all rest fr H K = some r → SR N w0 n ρ fr H a w →
    (∀ ρ' fr' H' a' w', ρ.le ρ' → SR N w0 n ρ' fr' H' a' w' → K fr' H' = some r → Q .normal a' w') → wpList P all.toArray Q rest a w := by
  intro rest
  induction rest with
  | nil => intro fr H ρ a w hk h hQ; exact hQ ρ fr H a w ρ.le_refl h hk
  | cons o rest ih =>
    intro fr H ρ a w hk h hQ
    unfold evOps at hk
    by_cases hdst : dstOk n o.dst = false
    · rw [if_pos hdst] at hk; cases hk
    rw [if_neg hdst] at hk
    have hdst : dstOk n o.dst = true := by simpa using hdst
    have go : ∀ (fr : Fr), SR N w0 n ρ fr H a w → (evOp P E (evalO fr) H o.op o.type fun v H => evOps P E n all rest (fput fr o.dst v) H K) = some r → o.wp P a w (wpList P all.toArray Q rest) Q := by
      intro fr hs hk'
      refine (evOp_sound hE hs.hr (e := a.eval) (SR.eval hs.fr) o hk').wp fun c w' hp => ?_
      obtain ⟨v, H', ρ', h1, h2, h3, h4⟩ := hp
      exact ih _ _ ρ' _ _ h4 (hs.put h1 h3 hdst h2) fun ρ'' fr'' H'' a'' w'' hl => hQ ρ'' fr'' H'' a'' w'' (h1.trans hl)
    have skip : ∀ (fr : Fr), SR N w0 n ρ fr H a w → evOps P E n all rest (fskip fr o.dst) H K = some r → wpList P all.toArray Q rest (a.put o.dst undef) w :=
      fun fr hs hk' => ih _ _ ρ _ _ hk' (hs.skip _ hdst) hQ
    unfold wpList
    split at hk
    · rename_i hg
      rw [if_pos (wanted_none hg)]
      exact .inl (go fr h hk)
    · rename_i j want hg
      split at hk
      · rename_i d hd
        split at hk
        · rename_i x hx
          have hy := h.guard hd hx
          have hs := h.lit hx
          have hw : Region.wanted o (yielded all.toArray a.tmps) = (x == want) := by simp [Region.wanted, hg, hy]
          rcases sel_some hk with ⟨rfl, hk'⟩ | ⟨rfl, hk'⟩
          · split at hk'
            · rename_i hwant
              rw [if_pos (by rw [hw]; simp [hwant])]
              exact .inl (go _ hs hk')
            · rename_i hwant
              rw [if_neg (by rw [hw]; simp [hwant])]
              exact skip _ hs hk'
          · split at hk'
            · rename_i hwant
              rw [if_neg (by rw [hw]; simp [hwant])]
              exact skip _ hs hk'
            · rename_i hwant
              rw [if_pos (by rw [hw]; simp at hwant; simp [hwant])]
              exact .inl (go _ hs hk')
        · rename_i hx
          have hy := h.unyielded hd hx
          rw [if_neg (by simp [Region.wanted, hg, hy])]
          exact skip _ h hk
        · cases hk
      · cases hk

/-- the end of a machine's run, as the model has it -/
def exOf : Ex → Exit
  | .normal => .normal
  | .exit i => .exit i
  | .ret => .ret

theorem loop_wp {c : Code} {Q : Exit → Act → World → Prop} {a : Act} {w : World}
    (h : ∀ (b : Frame) (k : List Item) (cs : List Frame), ∃ e a' w', Q e a' w' ∧ Arrives P (lone (b.at a (.code c :: .inLoop c :: k)) cs w) b k cs e a' w') : (Code.loop c).wp P Q a w :=
  fun b k cs => let ⟨e, a', w', q, arr⟩ := h b k cs; ⟨e, a', w', q, .of_steps (.one step_loop) arr⟩

end
end Go.Proofs.YteipplgcdbaokaaDoor.AM
