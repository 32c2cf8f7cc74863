/- A region whose order is drawn: what the machine's run in the order of the text shows. -/
import Derived.Test.YteipplgcdbaokaaDoorAm18
namespace Go.Proofs.YteipplgcdbaokaaDoor.AM
open Go Go.RowKit

def ret2 (v : V) (H : Heap) : Option (V × Heap) := some (v, H)

section
variable {R : Type} {P : Program} {E : FEnv}

theorem op_split (hL : EnvLin E) {val : Operand → Option V} {H : Heap} {o : Op} {ty : TypeId} {K : V → Heap → Option R} {r : R} (h : evOp P E val H o ty K = some r) :
    ∃ v H', evOp P E val H o ty ret2 = some (v, H') ∧ K v H' = some r := by
  rw [evOp_lin (f := K) (g := ret2) (k := fun p => K p.1 p.2) hL (fun v H => rfl)] at h
  obtain ⟨p, h1, h2⟩ := Option.bind_eq_some_iff.1 h
  exact ⟨p.1, p.2, h1, h2⟩

theorem noneff_same {val : Operand → Option V} {H : Heap} {o : Op} {ty : TypeId} (he : effO P o = false) (K : V → Heap → Option R) : evOp P E val H o ty K = evOp P E val H o ty (fun v _ => K v H) := by
  cases o with
  | convert src dst x =>
    simp only [effO] at he
    split at he
    · rename_i k hk
      simp only [evOp, hk]
      congr 1; funext v
      split <;> first | rfl | (exfalso; simp_all; done)
    · rename_i hk
      simp only [evOp, hk]
      congr 1; funext v
      split <;> first | rfl | (exfalso; simp_all; done) | (split <;> rfl)
    · cases he
  | call c =>
    obtain ⟨callee, args, ts⟩ := c
    cases callee with
    | builtin b =>
      simp only [evOp]
      congr 1; funext vs
      cases b <;> simp [effO, effOp] at he <;> (unfold evBuiltin; split <;> first | contradiction | rfl)
    | _ => simp [effO, effOp] at he
  | _ => first | (simp [effO, effOp] at he; done) | rfl

theorem pure_same {val : Operand → Option V} {H H' : Heap} {o : Op} {ty : TypeId} (he : effO P o = false) (hr : readO P o = false) (K : V → Option R) : evOp P E val H o ty (fun v _ => K v) = evOp P E val H' o ty (fun v _ => K v) := by
  cases o with
  | convert src dst x =>
    simp only [effO] at he
    split at he
    · rename_i k hk
      simp only [evOp, hk]
      congr 1; funext v
      split <;> first | rfl | (exfalso; simp_all; done)
    · rename_i hk
      simp [readO, hk] at hr
    · cases he
  | _ => first | (simp [effO, effOp] at he; done) | (simp [readO, readOp] at hr; done) | rfl

theorem noneff_heap (hL : EnvLin E) {val : Operand → Option V} {H H' : Heap} {o : Op} {ty : TypeId} {v : V} (he : effO P o = false) (h : evOp P E val H o ty ret2 = some (v, H')) : H' = H := by
  rw [noneff_same he] at h
  obtain ⟨v', H2, h1, h2⟩ := op_split hL h
  simp [ret2] at h2
  exact h2.2.symm
theorem pure_heap (hL : EnvLin E) {val : Operand → Option V} {H H' H2 : Heap} {o : Op} {ty : TypeId} {v : V} (he : effO P o = false) (hr : readO P o = false) (h : evOp P E val H o ty ret2 = some (v, H')) : evOp P E val H2 o ty ret2 = some (v, H2) := by
  have hH := noneff_heap hL he h
  subst hH
  have h' : evOp P E val H' o ty (fun v _ => some v) = some v := by
    rw [evOp_lin (f := fun v _ => some v) (g := ret2) (k := fun p => some p.1) hL (fun v H => rfl), h]; rfl
  rw [pure_same (H' := H2) he hr] at h'
  rw [noneff_same he]
  rw [evOp_lin (f := fun v _ => ret2 v H2) (g := fun v _ => some v) (k := fun v => ret2 v H2) hL (fun v H => rfl), h']; rfl

theorem same1_eq {v u : V} (h : V.same1 v u = true) : v = u := by
  unfold V.same1 at h
  split at h <;> simp at h <;> simp [h]
theorem sames_eq : ∀ (vs us : List V), sames vs us = true → vs = us := by
  intro vs
  induction vs with
  | nil => intro us h; cases us <;> simp [sames] at h; rfl
  | cons v vs ih =>
    intro us h
    cases us with
    | nil => simp [sames] at h
    | cons u us =>
      simp only [sames, Bool.and_eq_true] at h
      rw [same1_eq h.1, ih us h.2]
theorem same_eq {v u : V} (h : V.same v u = true) : v = u := by
  unfold V.same at h
  split at h
  · rw [sames_eq _ _ h]
  · exact same1_eq h

theorem chkHeaps_sound (hL : EnvLin E) {fr : Fr} {o : Op} {ty : TypeId} {v : V} (he : effO P o = false) : ∀ (hs : List Heap) {K : Unit → Option R} {r : R}, chkHeaps P E fr o ty v hs K = some r → K () = some r ∧ ∀ H ∈ hs, evOp P E (evalO fr) H o ty ret2 = some (v, H) := by
  intro hs
  induction hs with
  | nil => intro K r h; exact ⟨h, by simp⟩
  | cons H hs ih =>
    intro K r h
    simp only [chkHeaps] at h
    obtain ⟨v', H', h1, h2⟩ := op_split hL h
    split at h2
    · rename_i hs'
      obtain rfl := same_eq hs'
      have := noneff_heap hL he h1
      subst this
      obtain ⟨h3, h4⟩ := ih h2
      exact ⟨h3, fun H2 hm => by rcases List.mem_cons.1 hm with rfl | hm; exact h1; exact h4 _ hm⟩
    · cases h2
theorem chkPends_sound (hL : EnvLin E) {H : Heap} {c : Nat} : ∀ (ps : List Pend) {K : Unit → Option R} {r : R}, (∀ p ∈ ps, effO P p.o = false) → chkPends P E H c ps K = some r → K () = some r ∧ ∀ p ∈ ps, c ≤ p.hi → evOp P E (evalO p.fr) H p.o p.ty ret2 = some (p.v, H) := by
  intro ps
  induction ps with
  | nil => intro K r _ h; exact ⟨h, by simp⟩
  | cons p ps ih =>
    intro K r he h
    simp only [chkPends] at h
    split at h
    · obtain ⟨v', H', h1, h2⟩ := op_split hL h
      split at h2
      · rename_i hs'
        have hv := same_eq hs'
        have := noneff_heap hL (he p (by simp)) h1
        subst this
        obtain ⟨h3, h4⟩ := ih (fun q hq => he q (by simp [hq])) h2
        exact ⟨h3, fun q hm hc => by rcases List.mem_cons.1 hm with rfl | hm; rw [hv]; exact h1; exact h4 _ hm hc⟩
      · cases h2
    · rename_i hc
      obtain ⟨h3, h4⟩ := ih (fun q hq => he q (by simp [hq])) h
      exact ⟨h3, fun q hm hc' => by rcases List.mem_cons.1 hm with rfl | hm; exact absurd hc' hc; exact h4 _ hm hc'⟩

def cnt (P : Program) (all : List Oper) (i : Nat) : Nat := ((List.range i).filter (effAt P all)).length
theorem cnt_succ (P : Program) (all : List Oper) (i : Nat) : cnt P all (i + 1) = cnt P all i + if effAt P all i then 1 else 0 := by
  unfold cnt
  rw [List.range_succ, List.filter_append, List.length_append]
  cases h : effAt P all i <;> simp [h]

/-- the run in the order of the text: of the operation at i -/
structure Step1 (P : Program) (E : FEnv) (n : Nat) (all : List Oper) (tbl : List Nat) (HS : Nat → Heap) (top : Nat) (i : Nat) (o : Oper) (F fr : Fr) (run : Bool) (v : V) : Prop where
  dst : dstOk n o.dst = true
  same : ∀ t, fget fr t = fget F t
  guard : (o.guard = none ∧ run = true) ∨ (∃ j want d x, o.guard = some (j, want) ∧ (all[j]?).bind (·.dst) = some d ∧ fget F d = some (.b x) ∧ run = (x == want)) ∨ ∃ j want d, o.guard = some (j, want) ∧ (all[j]?).bind (·.dst) = some d ∧ fget F d = some (.tup []) ∧ run = false
  eff : run = true → effO P o.op = true → evOp P E (evalO fr) (HS (cnt P all i)) o.op o.type ret2 = some (v, HS (cnt P all i + 1))
  skip : run = false → effO P o.op = true → HS (cnt P all i + 1) = HS (cnt P all i)
  read : run = true → effO P o.op = false → ∀ q, loOf P all tbl i ≤ q → q ≤ hiOf P all tbl i → q ≤ top → evOp P E (evalO fr) (HS q) o.op o.type ret2 = some (v, HS q)

inductive DT (P : Program) (E : FEnv) (n : Nat) (all : List Oper) (tbl : List Nat) (HS : Nat → Heap) (top : Nat) : Nat → List Oper → Fr → Fr → Prop
  | nil (i : Nat) (F : Fr) : DT P E n all tbl HS top i [] F F
  | cons (i : Nat) (o : Oper) (rest : List Oper) (F fr F' : Fr) (run : Bool) (v : V) : Step1 P E n all tbl HS top i o F fr run v →
      DT P E n all tbl HS top (i + 1) rest (if run then fput fr o.dst v else fskip fr o.dst) F' → DT P E n all tbl HS top i (o :: rest) F F'

/-- heaps seen so far, and those to come -/
def HSof (hs : List Heap) (H : Heap) (more : Nat → Heap) (q : Nat) : Heap := if h : q < hs.length then hs[q] else if q = hs.length then H else more q

theorem evD_trace (hL : EnvLin E) {n : Nat} {all : List Oper} {tbl : List Nat} {K : Fr → Heap → Option R} {r : R} : ∀ (rest : List Oper) (i : Nat) (fr : Fr) (H : Heap) (hs : List Heap) (ps : List Pend),
    (∀ (k : Nat) (o : Oper), rest[k]? = some o → all[i + k]? = some o) → hs.length = cnt P all i → (∀ p ∈ ps, effO P p.o = false) → evD P E n all tbl rest i fr H hs ps K = some r →
    ∃ (HS : Nat → Heap) (frF : Fr), (∀ (q : Nat) (h : q < hs.length), HS q = hs[q]) ∧ HS hs.length = H ∧ K frF (HS (cnt P all (i + rest.length))) = some r ∧
      (∀ p ∈ ps, ∀ q, hs.length < q → q ≤ p.hi → q ≤ cnt P all (i + rest.length) → evOp P E (evalO p.fr) (HS q) p.o p.ty ret2 = some (p.v, HS q)) ∧
      DT P E n all tbl HS (cnt P all (i + rest.length)) i rest fr frF := by
  intro rest
  induction rest with
  | nil =>
    intro i fr H hs ps _ hc hp h
    refine ⟨fun q => if h : q < hs.length then hs[q] else H, fr, fun q hq => by simp [hq], by simp, ?_, ?_, .nil _ _⟩
    · simp only [List.length_nil, Nat.add_zero, ← hc]; simpa [evD] using h
    · intro p _ q h1 _ h3
      simp only [List.length_nil, Nat.add_zero, ← hc] at h3
      omega
  | cons o rest ih =>
    intro i fr H hs ps hall hc hp h
    have ho : all[i]? = some o := by have := hall 0 o rfl; simpa using this
    have heff : effAt P all i = effO P o.op := by simp [effAt, ho]
    have hlen : i + (o :: rest).length = (i + 1) + rest.length := by simp; omega
    have hall' : ∀ (k : Nat) (o' : Oper), rest[k]? = some o' → all[i + 1 + k]? = some o' := fun k o' hk => by
      have := hall (k + 1) o' (by simpa using hk)
      rw [show i + 1 + k = i + (k + 1) by omega]; exact this
    rw [hlen]
    have hmono : cnt P all (i + 1) ≤ cnt P all (i + 1 + rest.length) := by
      generalize rest.length = m
      induction m with
      | zero => exact Nat.le_refl _
      | succ m ihm => rw [show i + 1 + (m + 1) = (i + 1 + m) + 1 by omega]; have := cnt_succ P all (i + 1 + m); split at this <;> omega
    have hcs := cnt_succ P all i
    rw [heff] at hcs
    -- one operation, performed
    have one : ∀ (fr1 : Fr) (hfr : ∀ t, fget fr1 t = fget fr t) (hd : dstOk n o.dst = true) (hg : (o.guard = none ∧ true = true) ∨ (∃ j want d x, o.guard = some (j, want) ∧ (all[j]?).bind (·.dst) = some d ∧ fget fr d = some (.b x) ∧ true = (x == want)) ∨ ∃ j want d, o.guard = some (j, want) ∧ (all[j]?).bind (·.dst) = some d ∧ fget fr d = some (.tup []) ∧ true = false),
        (dOne P E all tbl o i fr1 H hs ps fun fr H hs ps => evD P E n all tbl rest (i + 1) fr H hs ps K) = some r →
        ∃ (HS : Nat → Heap) (frF : Fr), (∀ (q : Nat) (h : q < hs.length), HS q = hs[q]) ∧ HS hs.length = H ∧ K frF (HS (cnt P all (i + 1 + rest.length))) = some r ∧
          (∀ p ∈ ps, ∀ q, hs.length < q → q ≤ p.hi → q ≤ cnt P all (i + 1 + rest.length) → evOp P E (evalO p.fr) (HS q) p.o p.ty ret2 = some (p.v, HS q)) ∧
          DT P E n all tbl HS (cnt P all (i + 1 + rest.length)) i (o :: rest) fr frF := by
      intro fr1 hfr hd hg hk
      unfold dOne at hk
      split at hk
      · rename_i he
        obtain ⟨v, H', h1, h2⟩ := op_split hL hk
        obtain ⟨h3, h4⟩ := chkPends_sound hL ps hp h2
        rw [he, if_pos rfl] at hcs
        obtain ⟨HS, frF, g1, g2, g3, g4, g5⟩ := ih (i + 1) _ H' (hs ++ [H]) ps hall' (by simp [hc, hcs]) hp h3
        have e1 : HS hs.length = H := by have := g1 hs.length (by simp); simpa using this
        have e2 : HS (hs.length + 1) = H' := by simpa using g2
        refine ⟨HS, frF, fun q hq => ?_, e1, g3, ?_, ?_⟩
        · have := g1 q (by simp; omega); rw [List.getElem_append_left hq] at this; exact this
        · intro p hpm q h5 h6 h7
          by_cases hq : q = hs.length + 1
          · subst hq; rw [e2]; exact h4 p hpm h6
          · exact g4 p hpm q (by simp; omega) h6 h7
        · refine .cons i o rest fr fr1 frF true v ⟨hd, hfr, hg, fun _ _ => ?_, fun hf => (by cases hf), fun _ hf => (by rw [he] at hf; cases hf)⟩ (by simpa using g5)
          rw [← hc, e1, e2]; exact h1
      · rename_i he
        have he' : effO P o.op = false := by simpa using he
        rw [he'] at hcs
        simp only [Bool.false_eq_true, if_false, Nat.add_zero] at hcs
        split at hk
        · obtain ⟨v, H', h1, h2⟩ := op_split hL hk
          have hH := noneff_heap hL he' h1
          subst hH
          obtain ⟨h3, h4⟩ := chkHeaps_sound hL he' _ h2
          obtain ⟨HS, frF, g1, g2, g3, g4, g5⟩ := ih (i + 1) _ H' hs _ hall' (by rw [hc, hcs]) (by
            intro p hpm
            split at hpm
            · rcases List.mem_cons.1 hpm with rfl | hpm
              · exact he'
              · exact hp p hpm
            · exact hp p hpm) h3
          refine ⟨HS, frF, g1, g2, g3, ?_, ?_⟩
          · intro p hpm q h5 h6 h7
            refine g4 p ?_ q h5 h6 h7
            split
            · exact List.mem_cons_of_mem _ hpm
            · exact hpm
          · refine .cons i o rest fr fr1 frF true v ⟨hd, hfr, hg, fun _ hf => (by rw [he'] at hf; cases hf), fun hf => (by cases hf), fun _ _ q q1 q2 q3 => ?_⟩ (by simpa using g5)
            rcases Nat.lt_trichotomy q hs.length with hq | hq | hq
            · rw [g1 q hq]
              refine h4 _ ?_
              rw [List.mem_iff_getElem?]
              refine ⟨q - loOf P all tbl i, ?_⟩
              rw [List.getElem?_drop, show loOf P all tbl i + (q - loOf P all tbl i) = q by omega, List.getElem?_eq_getElem hq]
            · subst hq; rw [g2]; exact h1
            · have := g4 ⟨fr1, o.op, o.type, v, hiOf P all tbl i⟩ (by rw [if_pos (by omega)]; simp) q hq q2 q3
              exact this
        · rename_i hr
          have hr' : readO P o.op = false := by simpa using hr
          obtain ⟨v, H', h1, h2⟩ := op_split hL hk
          have hH := noneff_heap hL he' h1
          subst hH
          obtain ⟨HS, frF, g1, g2, g3, g4, g5⟩ := ih (i + 1) _ H' hs _ hall' (by rw [hc, hcs]) hp h2
          refine ⟨HS, frF, g1, g2, g3, g4, ?_⟩
          exact .cons i o rest fr fr1 frF true v ⟨hd, hfr, hg, fun _ hf => (by rw [he'] at hf; cases hf), fun hf => (by cases hf), fun _ _ q _ _ _ => pure_heap hL he' hr' h1⟩ (by simpa using g5)
    have non : ∀ (fr1 : Fr) (hfr : ∀ t, fget fr1 t = fget fr t) (hd : dstOk n o.dst = true) (hg : (o.guard = none ∧ false = true) ∨ (∃ j want d x, o.guard = some (j, want) ∧ (all[j]?).bind (·.dst) = some d ∧ fget fr d = some (.b x) ∧ false = (x == want)) ∨ ∃ j want d, o.guard = some (j, want) ∧ (all[j]?).bind (·.dst) = some d ∧ fget fr d = some (.tup []) ∧ false = false),
        (dSkip P E o fr1 H hs ps fun fr H hs ps => evD P E n all tbl rest (i + 1) fr H hs ps K) = some r →
        ∃ (HS : Nat → Heap) (frF : Fr), (∀ (q : Nat) (h : q < hs.length), HS q = hs[q]) ∧ HS hs.length = H ∧ K frF (HS (cnt P all (i + 1 + rest.length))) = some r ∧
          (∀ p ∈ ps, ∀ q, hs.length < q → q ≤ p.hi → q ≤ cnt P all (i + 1 + rest.length) → evOp P E (evalO p.fr) (HS q) p.o p.ty ret2 = some (p.v, HS q)) ∧
          DT P E n all tbl HS (cnt P all (i + 1 + rest.length)) i (o :: rest) fr frF := by
      intro fr1 hfr hd hg hk
      unfold dSkip at hk
      split at hk
      · rename_i he
        obtain ⟨h3, h4⟩ := chkPends_sound hL ps hp hk
        rw [he, if_pos rfl] at hcs
        obtain ⟨HS, frF, g1, g2, g3, g4, g5⟩ := ih (i + 1) _ H (hs ++ [H]) ps hall' (by simp [hc, hcs]) hp h3
        have e1 : HS hs.length = H := by have := g1 hs.length (by simp); simpa using this
        have e2 : HS (hs.length + 1) = H := by simpa using g2
        refine ⟨HS, frF, fun q hq => ?_, e1, g3, ?_, ?_⟩
        · have := g1 q (by simp; omega); rw [List.getElem_append_left hq] at this; exact this
        · intro p hpm q h5 h6 h7
          by_cases hq : q = hs.length + 1
          · subst hq; rw [e2]; exact h4 p hpm h6
          · exact g4 p hpm q (by simp; omega) h6 h7
        · exact .cons i o rest fr fr1 frF false (.b true) ⟨hd, hfr, hg, fun hf => (by cases hf), fun _ _ => (by rw [← hc, e1, e2]), fun hf => (by cases hf)⟩ (by simpa using g5)
      · rename_i he
        have he' : effO P o.op = false := by simpa using he
        rw [he'] at hcs
        simp only [Bool.false_eq_true, if_false, Nat.add_zero] at hcs
        obtain ⟨HS, frF, g1, g2, g3, g4, g5⟩ := ih (i + 1) _ H hs _ hall' (by rw [hc, hcs]) hp hk
        exact ⟨HS, frF, g1, g2, g3, g4, .cons i o rest fr fr1 frF false (.b true) ⟨hd, hfr, hg, fun hf => (by cases hf), fun _ hf => (by rw [he'] at hf; cases hf), fun hf => (by cases hf)⟩ (by simpa using g5)⟩
    unfold evD at h
    by_cases hdst : dstOk n o.dst = false
    · rw [if_pos hdst] at h; cases h
    rw [if_neg hdst] at h
    have hdst : dstOk n o.dst = true := by simpa using hdst
    split at h
    · rename_i hg
      exact one fr (fun _ => rfl) hdst (.inl ⟨hg, rfl⟩) h
    · rename_i j want hg
      split at h
      · rename_i d hd
        split at h
        · rename_i x hx
          have hlit : ∀ t, fget (fset fr d (.b x)) t = fget fr t := by
            intro t
            rw [fget_fset]
            split
            · rename_i e; subst e; exact hx.symm
            · rfl
          rcases sel_some h with ⟨rfl, h'⟩ | ⟨rfl, h'⟩
          · split at h'
            · rename_i hw
              exact one _ hlit hdst (.inr (.inl ⟨j, want, d, true, hg, hd, hx, by simp [hw]⟩)) h'
            · rename_i hw
              exact non _ hlit hdst (.inr (.inl ⟨j, want, d, true, hg, hd, hx, by simp at hw; simp [hw]⟩)) h'
          · split at h'
            · rename_i hw
              exact non _ hlit hdst (.inr (.inl ⟨j, want, d, false, hg, hd, hx, by simp [hw]⟩)) h'
            · rename_i hw
              exact one _ hlit hdst (.inr (.inl ⟨j, want, d, false, hg, hd, hx, by simp at hw; simp [hw]⟩)) h'
        · rename_i hx
          exact non _ (fun _ => rfl) hdst (.inr (.inr ⟨j, want, d, hg, hd, hx, rfl⟩)) h
        · cases h
      · cases h

end
end Go.Proofs.YteipplgcdbaokaaDoor.AM
