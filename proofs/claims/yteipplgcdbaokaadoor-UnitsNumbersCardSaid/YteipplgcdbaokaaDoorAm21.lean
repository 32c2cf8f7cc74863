/- Code and functions of the machine stand for the model's. -/
import Derived.Test.YteipplgcdbaokaaDoorAm20
namespace Go.Proofs.YteipplgcdbaokaaDoor.AM
open Go Go.RowKit

section
variable {P : Program} {N : Nat} {w0 : World} {n : Nat} {E : FEnv}

theorem ev_sound (hE : EnvOK P E) (hL : EnvLin E) (hm : P.follows .mixedOrders = true) {lr : LRun} (hlr : lr.ok) {kp : Nat → Option (List Nat)} : ∀ (c : Code) {R : Type} (r : R) (fr : Fr) (H : Heap) (K : Ex → Fr → Heap → Option R) (ρ : Env) (a : Act) (w : World) (Q : Exit → Act → World → Prop),
    ev P E lr n kp c fr H K = some r → SR N w0 n ρ fr H a w → (∀ e fr' H' ρ' a' w', ρ.le ρ' → SR N w0 n ρ' fr' H' a' w' → K e fr' H' = some r → Q (exOf e) a' w') → c.wp P Q a w := by
  intro c
  induction c with
  | skip => intro R r fr H K ρ a w Q hk h hQ; exact wp_skip (hQ .normal fr H ρ a w ρ.le_refl h hk)
  | exit id => intro R r fr H K ρ a w Q hk h hQ; exact wp_exit (hQ (.exit id) _ H ρ a w ρ.le_refl (h.keep kp _) hk)
  | ret => intro R r fr H K ρ a w Q hk h hQ; exact wp_ret (hQ .ret _ H ρ a w ρ.le_refl (h.keep kp _) hk)
  | region id ops draw =>
    intro R r fr H K ρ a w Q hk h hQ
    cases draw with
    | false =>
      refine wp_region_list ?_
      have := evOps_sound hE (all := ops.toList) (Q := Q) ops.toList fr H ρ a w hk h fun ρ' fr' H' a' w' hl hs hk' => hQ .normal _ H' ρ' a' w' hl (hs.keep kp id) hk'
      simpa using this
    | true =>
      simp only [ev] at hk
      split at hk
      · rename_i hst
        refine wp_region_any hm ?_
        obtain ⟨HS, frF, h1, h2, h3, _, h5⟩ := evD_trace hL ops.toList 0 fr H [] [] (fun k o ho => by simpa using ho) rfl (fun p hp => by cases hp) hk
        simp only [Nat.zero_add] at h3 h5
        have h2' : HS 0 = H := h2
        have := draw_sound (N := N) (w0 := w0) hE h5 rfl hst (ρ0 := ρ) (Q := Q) (fun ρ' a' w' hl hs => hQ .normal _ _ ρ' a' w' hl (hs.keep kp id) h3) (a0 := a) (w1 := { w with drawn := w.drawn + 1 })
          (by rw [h2']; exact ⟨h.fr, h.size, h.defers, h.hr.drawn _⟩)
        simpa using this
      · cases hk
  | seq x y ihx ihy =>
    intro R r fr H K ρ a w Q hk h hQ
    refine wp_seq (ihx r fr H _ ρ a w _ hk h fun e fr' H' ρ' a' w' hl hs hk' => ?_)
    cases e with
    | normal => exact ihy r fr' H' K ρ' a' w' Q hk' hs fun e fr2 H2 ρ2 a2 w2 hl2 => hQ e fr2 H2 ρ2 a2 w2 (hl.trans hl2)
    | exit i => exact hQ (.exit i) fr' H' ρ' a' w' hl hs hk'
    | ret => exact hQ .ret fr' H' ρ' a' w' hl hs hk'
  | cond c x y ihx ihy =>
    intro R r fr H K ρ a w Q hk h hQ
    simp only [ev] at hk
    split at hk
    · rename_i b hb
      have hr := SR.eval h.fr c _ hb
      have hc : a.eval c = .bool b := by cases hx : a.eval c <;> rw [hx] at hr <;> cases hr; rfl
      have hE : ∀ e fr' H' ρ' a' w', ρ.le ρ' → SR N w0 n ρ' fr' H' a' w' → kEnd kp (condId c) K e fr' H' = some r → Q (exOf e) a' w' := by
        intro e fr' H' ρ' a' w' hl hs hk2
        cases e with
        | normal => exact hQ .normal _ H' ρ' a' w' hl (hs.keep kp _) hk2
        | exit i => exact hQ (.exit i) fr' H' ρ' a' w' hl hs hk2
        | ret => exact hQ .ret fr' H' ρ' a' w' hl hs hk2
      rcases sel_some hk with ⟨rfl, hk'⟩ | ⟨rfl, hk'⟩
      · exact wp_cond hc (ihx r fr H _ ρ a w Q hk' h hE)
      · exact wp_cond hc (ihy r fr H _ ρ a w Q hk' h hE)
    · cases hk
  | block id x ih =>
    intro R r fr H K ρ a w Q hk h hQ
    refine wp_block (ih r _ H _ ρ a w _ hk (h.keep kp (200000 + id)) fun e fr' H' ρ' a' w' hl hs hk' => ?_)
    cases e with
    | normal => exact hQ .normal _ H' ρ' a' w' hl (hs.keep kp _) hk'
    | exit i =>
      simp only [kBlock] at hk'
      simp only [exOf, Exit.inBlock]
      split at hk'
      · rename_i e; rw [if_pos e]; exact hQ .normal _ H' ρ' a' w' hl hs hk'
      · rename_i e; rw [if_neg e]; exact hQ (.exit i) fr' H' ρ' a' w' hl hs hk'
    | ret => exact hQ .ret fr' H' ρ' a' w' hl hs hk'
  | loop x ih =>
    intro R r fr H K ρ a w Q hk h hQ
    simp only [ev] at hk
    obtain ⟨q, hq, hk'⟩ := Option.bind_eq_some_iff.1 hk
    obtain ⟨m, hm'⟩ := hlr _ _ _ hq
    clear hq hk
    refine loop_wp ?_
    induction m generalizing fr H ρ a w with
    | zero => simp [loopIter] at hm'
    | succ m ihm =>
      simp only [loopIter] at hm'
      obtain ⟨q1, hq1, hq2⟩ := Option.bind_eq_some_iff.1 hm'
      have hb := ih q1 fr H ret3 ρ a w (fun e a' w' => ∃ ρ', ρ.le ρ' ∧ SR N w0 n ρ' q1.2.1 q1.2.2 a' w' ∧ e = exOf q1.1) hq1 h fun e fr' H' ρ' a' w' hl hs hk2 => by
        simp only [ret3, Option.some.injEq] at hk2
        subst hk2
        exact ⟨ρ', hl, hs, rfl⟩
      intro b k cs
      obtain ⟨e, a1, w1, ⟨ρ1, hl, hs, he⟩, harr⟩ := hb b (.inLoop x :: k) cs
      cases hx : q1.1 with
      | normal =>
        rw [hx] at hq2 he
        subst he
        obtain ⟨e2, a2, w2, hq3, harr2⟩ := ihm q1.2.1 q1.2.2 ρ1 a1 w1 hs (fun e fr' H' ρ' a' w' hl2 => hQ e fr' H' ρ' a' w' (hl.trans hl2)) hq2 b k cs
        exact ⟨e2, a2, w2, hq3, .of_steps (Steps.trans harr (.one step_inLoop)) harr2⟩
      | exit i =>
        rw [hx] at hq2 he
        subst he
        have hq2' : (Ex.exit i, q1.2) = q := by simpa using hq2
        subst hq2'
        exact ⟨.exit i, a1, w1, hQ (.exit i) _ _ ρ1 a1 w1 hl hs hk', .pass (x := .inLoop x) rfl (fun _ _ => .inl (by simp)) harr⟩
      | ret =>
        rw [hx] at hq2 he
        subst he
        have hq2' : (Ex.ret, q1.2) = q := by simpa using hq2
        subst hq2'
        exact ⟨.ret, a1, w1, hQ .ret _ _ ρ1 a1 w1 hl hs hk', .pass (x := .inLoop x) rfl (fun _ _ => .inl (by simp)) harr⟩
  | _ => intro R r fr H K ρ a w Q hk h hQ; cases hk

theorem resOne_sound {R : Type} {r : R} {ρ : Env} {fr : Fr} {H : Heap} {w : World} {tmps : Array Value} (hf : FR ρ fr tmps) (hh : HR N w0 ρ H w) {rv : ResultVar} {K : V → Option R} (h : resOne P fr H rv K = some r) :
    ∃ v x, (match rv with | .tmp t => pure (tmps.getD t undef) | .cell a t => do loadVar t (← asAddr (tmps.getD a undef)) : Sem Value).run P w = .ok x w ∧ Rel ρ v x ∧ K v = some r := by
  cases rv with
  | tmp t =>
    obtain ⟨v, h1, h2⟩ := Option.bind_eq_some_iff.1 h
    obtain ⟨c, hc, hr⟩ := hf t v h1
    exact ⟨v, c, by simp [Array.getD_eq_getD_getElem?, hc], hr, h2⟩
  | cell a t =>
    obtain ⟨v, h1, h2⟩ := Option.bind_eq_some_iff.1 h
    obtain ⟨c, hc, hr⟩ := hf a v h1
    split at h2
    · rename_i id off
      obtain ⟨b, hb, rfl⟩ := hr.p'
      obtain ⟨v, x, e1, e2, e3⟩ := ldT_sound hh h2 hb
      refine ⟨v, x, ?_, e2, e3⟩
      have hg : tmps.getD a undef = .pointer (some ⟨b.blk, b.off + off, none⟩) := by simp [Array.getD_eq_getD_getElem?, hc]
      simp only [hg, asAddr, Sem.run_bind, Sem.run_pure, Result.andThen_ok]
      exact e1
    · cases h2

theorem resAll_sound {R : Type} {r : R} {ρ : Env} {fr : Fr} {H : Heap} {w : World} {tmps : Array Value} (hf : FR ρ fr tmps) (hh : HR N w0 ρ H w) : ∀ (rs : List ResultVar) {K : List V → Option R}, resAll P fr H rs K = some r →
    ∃ vs xs, (rs.mapM fun | .tmp t => pure (tmps.getD t undef) | .cell a t => do loadVar t (← asAddr (tmps.getD a undef)) : Sem (List Value)).run P w = .ok xs w ∧ Rels ρ vs xs ∧ K vs = some r := by
  intro rs
  induction rs with
  | nil => intro K h; exact ⟨[], [], by simp, .nil, h⟩
  | cons rv rs ih =>
    intro K h
    obtain ⟨v, x, e1, e2, e3⟩ := resOne_sound hf hh h
    obtain ⟨vs, xs, g1, g2, g3⟩ := ih e3
    refine ⟨v :: vs, x :: xs, ?_, .cons _ _ _ _ e2 g2, g3⟩
    rw [List.mapM_cons]
    simp only [Sem.run_bind, Sem.run_pure]
    rw [e1]
    simp only [Result.andThen_ok]
    rw [g1]
    rfl

theorem res_sound {R : Type} {r : R} {ρ : Env} {fr : Fr} {H : Heap} {w : World} {tmps : Array Value} (hf : FR ρ fr tmps) (hh : HR N w0 ρ H w) {fn : Func} {K : V → Heap → Option R} (h : res P fr H fn.results.toList K = some r) :
    ∃ v x, (results fn tmps).run P w = .ok x w ∧ Rel ρ v x ∧ K v H = some r := by
  unfold res at h
  obtain ⟨vs, xs, e1, e2, e3⟩ := resAll_sound (P := P) hf hh _ h
  have hrun : (results fn tmps).run P w = .ok (if h : xs.toArray.size = 1 then xs.toArray[0] else .tuple xs.toArray) w := by
    unfold results
    rw [Array.mapM_eq_mapM_toList]
    simp only [Sem.run_bind, Sem.run_map, Sem.run_pure]
    erw [e1]
    rfl
  split at e3
  · rename_i v
    obtain ⟨x, rfl, hr⟩ := rels_one e2
    exact ⟨v, x, by rw [hrun]; rfl, hr, e3⟩
  · rename_i hne
    refine ⟨.tup vs, .tuple xs.toArray, ?_, .tup _ _ e2, e3⟩
    rw [hrun, dif_neg]
    intro hsz
    have hl := e2.length
    simp only [List.size_toArray] at hsz
    match vs, hl with
    | [v], _ => exact hne v rfl
    | [], hl => simp [hsz] at hl
    | _ :: _ :: _, hl => simp [hsz] at hl

theorem argFr_get : ∀ (args : List V) (i t : Nat), fget (argFr i args) t = if i ≤ t then args[t - i]? else none := by
  intro args
  induction args with
  | nil => intro i t; simp [argFr, fget]
  | cons v args ih =>
    intro i t
    simp only [argFr, fget]
    split
    · rename_i h; subst h; simp
    · rename_i h
      rw [ih]
      by_cases h1 : i + 1 ≤ t
      · rw [if_pos h1, if_pos (by omega), show t - i = (t - (i + 1)) + 1 by omega]; simp
      · rw [if_neg h1, if_neg (by omega)]

/-- a function -/
theorem evFn_sound (hE : EnvOK P E) (hL : EnvLin E) (hm : P.follows .mixedOrders = true) {lr : LRun} (hlr : lr.ok) {kp : Nat → Option (List Nat)} {f : FuncId} {fn : Func} (hf : P.funcs[f]? = some fn) {R : Type} {r : R} {args : List V} {H : Heap} {K : V → Heap → Option R}
    (hk : evFn P E lr fn kp args H K = some r) {ρ : Env} {w : World} {xs : List Value} (hr : Rels ρ args xs) (hh : HR N w0 ρ H w) :
    Calls P f xs.toArray w fun e w' => ∃ c, e = .returned c ∧ ∃ v H' ρ', ρ.le ρ' ∧ Rel ρ' v c ∧ HR N w0 ρ' H' w' ∧ K v H' = some r := by
  unfold evFn at hk
  split at hk
  · rename_i hlen
    split at hk
    · rename_i c hb
      refine calls_of_wp hf hb ?_
      have hxl := hr.length
      refine ev_sound (N := N) (w0 := w0) hE hL hm hlr c r (argFr 0 args) H _ ρ _ w _ hk ⟨fun t v hv => ?_, ?_, rfl, hh⟩ ?_
      · rw [argFr_get, if_pos (Nat.zero_le _), Nat.sub_zero] at hv
        obtain ⟨x, hx, hrel⟩ := hr.get t v hv
        have hlt := (List.getElem?_eq_some_iff.1 hx).1
        exact ⟨x, by rw [Array.getElem?_append_left (by simpa using hlt)]; simpa using hx, hrel⟩
      · simp; omega
      · intro e fr' H' ρ' a' w' hl hs hkk
        cases e with
        | normal =>
          obtain ⟨v, x, e1, e2, e3⟩ := res_sound hs.fr hs.hr hkk
          exact ⟨hs.defers, x, e1, x, rfl, v, H', ρ', hl, e2, hs.hr, e3⟩
        | ret =>
          obtain ⟨v, x, e1, e2, e3⟩ := res_sound hs.fr hs.hr hkk
          exact ⟨hs.defers, x, e1, x, rfl, v, H', ρ', hl, e2, hs.hr, e3⟩
        | exit i => cases hkk
    · cases hk
  · cases hk

end
end Go.Proofs.YteipplgcdbaokaaDoor.AM
