/- What code brings about, as a condition on what follows: for code whose way is left open (ranges over maps, orders). -/
import Derived.Test.YteipplgcdbaokaaDoorAm30
namespace Go.Proofs.YteipplgcdbaokaaDoor.AM
open Go Go.RowKit
set_option linter.unusedVariables false

section
variable {P : Program} {N : Nat} {w0 : World} {n : Nat} {E : FEnv}

/-- from (fr, H), however the code goes, it ends, in what Φ allows -/
def DW (P : Program) (N : Nat) (w0 : World) (n : Nat) (c : Code) (fr : Fr) (H : Heap) (Φ : Ex → Fr → Heap → Prop) : Prop :=
  ∀ (ρ : Env) (a : Act) (w : World) (Q : Exit → Act → World → Prop), SR N w0 n ρ fr H a w →
    (∀ e fr' H' ρ' a' w', ρ.le ρ' → SR N w0 n ρ' fr' H' a' w' → Φ e fr' H' → Q (exOf e) a' w') → c.wp P Q a w
theorem DW.mono {c : Code} {fr : Fr} {H : Heap} {Φ Ψ : Ex → Fr → Heap → Prop} (h : DW P N w0 n c fr H Φ) (hi : ∀ e fr H, Φ e fr H → Ψ e fr H) : DW P N w0 n c fr H Ψ :=
  fun ρ a w Q hs hQ => h ρ a w Q hs fun e fr' H' ρ' a' w' hl hs' hp => hQ e fr' H' ρ' a' w' hl hs' (hi _ _ _ hp)
/-- code that the machine runs -/
theorem DW.ev (hE : EnvOK P E) (hL : EnvLin E) (hm : P.follows .mixedOrders = true) {lr : LRun} (hlr : lr.ok) {kp : Nat → Option (List Nat)} {c : Code} {fr : Fr} {H : Heap} {Φ : Ex → Fr → Heap → Prop} {q : Ex × Fr × Heap}
    (h : AM.ev P E lr n kp c fr H ret3 = some q) (hq : Φ q.1 q.2.1 q.2.2) : DW P N w0 n c fr H Φ := by
  intro ρ a w Q hs hQ
  refine ev_sound hE hL hm hlr c q fr H ret3 ρ a w Q h hs fun e fr' H' ρ' a' w' hl hs' hk => ?_
  simp only [ret3, Option.some.injEq] at hk
  subst hk
  exact hQ _ _ _ ρ' a' w' hl hs' hq
theorem DW.seq {x y : Code} {fr : Fr} {H : Heap} {Φ : Ex → Fr → Heap → Prop} (h : DW P N w0 n x fr H fun e fr' H' => match e with
    | .normal => DW P N w0 n y fr' H' Φ
    | e => Φ e fr' H') : DW P N w0 n (.seq x y) fr H Φ := by
  intro ρ a w Q hs hQ
  refine wp_seq (h ρ a w _ hs fun e fr' H' ρ' a' w' hl hs' hp => ?_)
  cases e with
  | normal => exact hp ρ' a' w' Q hs' fun e fr2 H2 ρ2 a2 w2 hl2 => hQ e fr2 H2 ρ2 a2 w2 (hl.trans hl2)
  | exit i => exact hQ (.exit i) fr' H' ρ' a' w' hl hs' hp
  | ret => exact hQ .ret fr' H' ρ' a' w' hl hs' hp
theorem DW.skip {fr : Fr} {H : Heap} {Φ : Ex → Fr → Heap → Prop} (h : Φ .normal fr H) : DW P N w0 n .skip fr H Φ :=
  fun ρ a w Q hs hQ => wp_skip (hQ .normal fr H ρ a w ρ.le_refl hs h)
theorem DW.exit {id : Nat} {fr : Fr} {H : Heap} {Φ : Ex → Fr → Heap → Prop} (h : Φ (.exit id) fr H) : DW P N w0 n (.exit id) fr H Φ :=
  fun ρ a w Q hs hQ => wp_exit (hQ (.exit id) fr H ρ a w ρ.le_refl hs h)
theorem DW.ret {fr : Fr} {H : Heap} {Φ : Ex → Fr → Heap → Prop} (h : Φ .ret fr H) : DW P N w0 n .ret fr H Φ :=
  fun ρ a w Q hs hQ => wp_ret (hQ .ret fr H ρ a w ρ.le_refl hs h)
theorem DW.cond {c : Operand} {x y : Code} {fr : Fr} {H : Heap} {Φ : Ex → Fr → Heap → Prop} {b : Bool} (hb : evalO fr c = some (.b b)) (h : DW P N w0 n (if b then x else y) fr H Φ) : DW P N w0 n (.cond c x y) fr H Φ := by
  intro ρ a w Q hs hQ
  have hr := SR.eval hs.fr c _ hb
  have hc : a.eval c = .bool b := by cases hx : a.eval c <;> rw [hx] at hr <;> cases hr; rfl
  refine wp_cond hc ?_
  have := h ρ a w Q hs hQ
  cases b
  · exact this
  · exact this
theorem DW.block {id : Nat} {x : Code} {fr : Fr} {H : Heap} {Φ : Ex → Fr → Heap → Prop} (h : DW P N w0 n x fr H fun e fr' H' => match e with
    | .normal => Φ .normal fr' H'
    | .exit i => if i = id then Φ .normal fr' H' else Φ (.exit i) fr' H'
    | .ret => Φ .ret fr' H') : DW P N w0 n (.block id x) fr H Φ := by
  intro ρ a w Q hs hQ
  refine wp_block (h ρ a w _ hs fun e fr' H' ρ' a' w' hl hs' hp => ?_)
  cases e with
  | normal => exact hQ .normal _ H' ρ' a' w' hl hs' hp
  | exit i =>
    simp only [exOf, Exit.inBlock]
    simp only at hp
    split at hp
    · rename_i e; rw [if_pos e]; exact hQ .normal _ H' ρ' a' w' hl hs' hp
    · rename_i e; rw [if_neg e]; exact hQ (.exit i) fr' H' ρ' a' w' hl hs' hp
  | ret => exact hQ .ret fr' H' ρ' a' w' hl hs' hp
theorem DW.loop {x : Code} {Φ : Ex → Fr → Heap → Prop} (I : Fr → Heap → Prop) (m : Fr → Heap → Nat)
    (step : ∀ fr H, I fr H → DW P N w0 n x fr H fun e fr' H' => match e with
      | .normal => I fr' H' ∧ m fr' H' < m fr H
      | e => Φ e fr' H') : ∀ fr H, I fr H → DW P N w0 n (.loop x) fr H Φ := by
  have key : ∀ (k : Nat) (fr : Fr) (H : Heap), I fr H → m fr H < k → ∀ (ρ : Env) (a : Act) (w : World) (Q : Exit → Act → World → Prop), SR N w0 n ρ fr H a w →
      (∀ e fr' H' ρ' a' w', ρ.le ρ' → SR N w0 n ρ' fr' H' a' w' → Φ e fr' H' → e ≠ .normal → Q (exOf e) a' w') →
      ∀ (b : Frame) (k : List Item) (cs : List Frame), ∃ e a' w', Q e a' w' ∧ Arrives P (lone (b.at a (.code x :: .inLoop x :: k)) cs w) b k cs e a' w' := by
    intro k
    induction k with
    | zero => intro fr H _ hm; omega
    | succ k ih =>
      intro fr H hI hm ρ a w Q hs hQ b k' cs
      have hb := step fr H hI ρ a w (fun e a' w' => ∃ ex fr' H' ρ', ρ.le ρ' ∧ SR N w0 n ρ' fr' H' a' w' ∧ e = exOf ex ∧ (match ex with
        | .normal => I fr' H' ∧ m fr' H' < m fr H
        | e => Φ e fr' H')) hs fun e fr' H' ρ' a' w' hl hs' hp => ⟨e, fr', H', ρ', hl, hs', rfl, hp⟩
      obtain ⟨e, a1, w1, ⟨ex, fr1, H1, ρ1, hl, hs1, he, hp⟩, harr⟩ := hb b (.inLoop x :: k') cs
      cases ex with
      | normal =>
        subst he
        obtain ⟨e2, a2, w2, hq3, harr2⟩ := ih fr1 H1 hp.1 (by omega) ρ1 a1 w1 Q hs1 (fun e fr' H' ρ' a' w' hl2 => hQ e fr' H' ρ' a' w' (hl.trans hl2)) b k' cs
        exact ⟨e2, a2, w2, hq3, .of_steps (Steps.trans harr (.one step_inLoop)) harr2⟩
      | exit i =>
        subst he
        exact ⟨.exit i, a1, w1, hQ (.exit i) _ _ ρ1 a1 w1 hl hs1 hp (by simp), .pass (x := .inLoop x) rfl (fun _ _ => .inl (by simp)) harr⟩
      | ret =>
        subst he
        exact ⟨.ret, a1, w1, hQ .ret _ _ ρ1 a1 w1 hl hs1 hp (by simp), .pass (x := .inLoop x) rfl (fun _ _ => .inl (by simp)) harr⟩
  intro fr H hI ρ a w Q hs hQ
  exact loop_wp (key (m fr H + 1) fr H hI (by omega) ρ a w Q hs fun e fr' H' ρ' a' w' hl hs' hp _ => hQ e fr' H' ρ' a' w' hl hs' hp)
/-- a function whose body's triple is known -/
theorem calls_of_DW {f : FuncId} {fn : Func} {c : Code} (hf : P.funcs[f]? = some fn) (hb : fn.body = some c) {args : List V} {H : Heap} {Φ : V → Heap → Prop} (hlen : args.length ≤ fn.ntmps)
    (h : DW P N w0 fn.ntmps c (argFr 0 args) H fun e fr' H' => ∃ q, kFn P fn.results.toList ret2 e fr' H' = some q ∧ Φ q.1 q.2)
    {ρ : Env} {w : World} {xs : List Value} (hr : Rels ρ args xs) (hh : HR N w0 ρ H w) :
    Calls P f xs.toArray w fun e w' => ∃ c, e = .returned c ∧ ∃ v H' ρ', ρ.le ρ' ∧ Rel ρ' v c ∧ HR N w0 ρ' H' w' ∧ Φ v H' := by
  refine calls_of_wp hf hb ?_
  have hxl := hr.length
  refine h ρ _ w _ ⟨fun t v hv => ?_, ?_, rfl, hh⟩ ?_
  · rw [argFr_get, if_pos (Nat.zero_le _), Nat.sub_zero] at hv
    obtain ⟨x, hx, hrel⟩ := hr.get t v hv
    have hlt := (List.getElem?_eq_some_iff.1 hx).1
    exact ⟨x, by rw [Array.getElem?_append_left (by simpa using hlt)]; simpa using hx, hrel⟩
  · simp; omega
  · intro e fr' H' ρ' a' w' hl hs hkk
    obtain ⟨q, hq, hp⟩ := hkk
    cases e with
    | normal =>
      obtain ⟨v, x, e1, e2, e3⟩ := res_sound hs.fr hs.hr hq
      simp only [ret2, Option.some.injEq] at e3
      subst e3
      exact ⟨hs.defers, x, e1, x, rfl, _, H', ρ', hl, e2, hs.hr, hp⟩
    | ret =>
      obtain ⟨v, x, e1, e2, e3⟩ := res_sound hs.fr hs.hr hq
      simp only [ret2, Option.some.injEq] at e3
      subst e3
      exact ⟨hs.defers, x, e1, x, rfl, _, H', ρ', hl, e2, hs.hr, hp⟩
    | exit i => cases hq
/-- one operation's triple -/
def DO (P : Program) (N : Nat) (w0 : World) (n : Nat) (o : Oper) (fr : Fr) (H : Heap) (Ψ : V → Heap → Prop) : Prop :=
  ∀ (ρ : Env) (a : Act) (w : World), SR N w0 n ρ fr H a w → Does P w (execOp a.eval o) fun c w' => ∃ v H' ρ', ρ.le ρ' ∧ Rel ρ' v c ∧ HR N w0 ρ' H' w' ∧ Ψ v H'
theorem DO.ev (hE : EnvOK P E) {o : Oper} {fr : Fr} {H : Heap} {Ψ : V → Heap → Prop} {q : V × Heap} (h : evOp P E (evalO fr) H o.op o.type ret2 = some q) (hq : Ψ q.1 q.2) : DO P N w0 n o fr H Ψ := by
  intro ρ a w hs
  refine (evOp_sound hE hs.hr (e := a.eval) (SR.eval hs.fr) o h).post fun c w' hp => ?_
  obtain ⟨v, H', ρ', h1, h2, h3, h4⟩ := hp
  simp only [ret2, Option.some.injEq] at h4
  subst h4
  exact ⟨_, _, ρ', h1, h2, h3, hq⟩
/-- the operations of a region, in the order of the text -/
def DL (P : Program) (N : Nat) (w0 : World) (n : Nat) (all rest : List Oper) (fr : Fr) (H : Heap) (Φ : Fr → Heap → Prop) : Prop :=
  ∀ (ρ : Env) (a : Act) (w : World) (Q : Exit → Act → World → Prop), SR N w0 n ρ fr H a w →
    (∀ fr' H' ρ' a' w', ρ.le ρ' → SR N w0 n ρ' fr' H' a' w' → Φ fr' H' → Q .normal a' w') → wpList P all.toArray Q rest a w
theorem DL.nil {all : List Oper} {fr : Fr} {H : Heap} {Φ : Fr → Heap → Prop} (h : Φ fr H) : DL P N w0 n all [] fr H Φ :=
  fun ρ a w Q hs hQ => hQ fr H ρ a w ρ.le_refl hs h
theorem DL.cons {all rest : List Oper} {o : Oper} {fr : Fr} {H : Heap} {Φ : Fr → Heap → Prop} (hd : dstOk n o.dst = true) (hg : o.guard = none)
    (h : DO P N w0 n o fr H fun v H' => DL P N w0 n all rest (fput fr o.dst v) H' Φ) : DL P N w0 n all (o :: rest) fr H Φ := by
  intro ρ a w Q hs hQ
  unfold wpList
  rw [if_pos (wanted_none hg)]
  refine .inl ((h ρ a w hs).wp fun c w' hp => ?_)
  obtain ⟨v, H', ρ', h1, h2, h3, h4⟩ := hp
  exact h4 ρ' _ _ Q (hs.put h1 h3 hd h2) fun fr2 H2 ρ2 a2 w2 hl2 => hQ fr2 H2 ρ2 a2 w2 (h1.trans hl2)
theorem DL.ev (hE : EnvOK P E) {all rest : List Oper} {fr : Fr} {H : Heap} {Φ : Fr → Heap → Prop} {q : Fr × Heap} (h : evOps P E n all rest fr H (fun fr H => some (fr, H)) = some q) (hq : Φ q.1 q.2) : DL P N w0 n all rest fr H Φ := by
  intro ρ a w Q hs hQ
  refine evOps_sound hE rest fr H ρ a w h hs fun ρ' fr' H' a' w' hl hs' hk => ?_
  simp only [Option.some.injEq] at hk
  subst hk
  exact hQ _ _ ρ' a' w' hl hs' hq
theorem DW.region {id : Nat} {ops : Array Oper} {fr : Fr} {H : Heap} {Φ : Ex → Fr → Heap → Prop} (h : DL P N w0 n ops.toList ops.toList fr H fun fr' H' => Φ .normal fr' H') : DW P N w0 n (.region id ops false) fr H Φ := by
  intro ρ a w Q hs hQ
  refine wp_region_list ?_
  have := h ρ a w Q hs fun fr' H' ρ' a' w' hl hs' hp => hQ .normal fr' H' ρ' a' w' hl hs' hp
  simpa using this
/-- less need be known -/
theorem DW.keepF {c : Code} {fr fr2 : Fr} {H : Heap} {Φ : Ex → Fr → Heap → Prop} (hf : ∀ t v, fget fr2 t = some v → fget fr t = some v) (h : DW P N w0 n c fr2 H Φ) : DW P N w0 n c fr H Φ :=
  fun ρ a w Q hs hQ => h ρ a w Q ⟨fun t v hv => hs.fr t v (hf t v hv), hs.size, hs.defers, hs.hr⟩ hQ
theorem DW.forget {c : Code} {fr : Fr} {H H2 : Heap} {Φ : Ex → Fr → Heap → Prop} (hn : H2.next = H.next) (hsub : ∀ id o, H2.get id = some o → H.get id = some o) (h : DW P N w0 n c fr H2 Φ) : DW P N w0 n c fr H Φ :=
  fun ρ a w Q hs hQ => h ρ a w Q ⟨hs.fr, hs.size, hs.defers, hs.hr.forget hn hsub⟩ hQ
end
end Go.Proofs.YteipplgcdbaokaaDoor.AM
