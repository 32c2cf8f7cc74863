/- What the machine's arithmetic, comparisons, parts and slices stand for. -/
import Derived.Test.YteipplgcdbaokaaDoorAm4
namespace Go.Proofs.YteipplgcdbaokaaDoor.AM
open Go Go.RowKit

theorem V.asI_eq {k : IntKind} {v : V} {n : Int} (h : v.asI k = some n) : v = .i k n := by cases v <;> simp [V.asI] at h; obtain ⟨rfl, rfl⟩ := h; rfl
theorem V.asB_eq {v : V} {n : Bool} (h : v.asB = some n) : v = .b n := by cases v <;> simp [V.asB] at h; subst h; rfl
theorem V.asS_eq {v : V} {n : ByteArray} (h : v.asS = some n) : v = .s n := by cases v <;> simp [V.asS] at h; subst h; rfl
theorem V.asP_eq {v : V} {n : Option (Nat × Nat)} (h : v.asP = some n) : v = .p n := by cases v <;> simp [V.asP] at h; subst h; rfl
theorem V.asSl_eq {v : V} {n : Sl} (h : v.asSl = some n) : v = .sl n := by cases v <;> simp [V.asSl] at h; subst h; rfl
theorem V.asM_eq {v : V} {n : Option Nat} (h : v.asM = some n) : v = .m n := by cases v <;> simp [V.asM] at h; subst h; rfl
theorem V.asAgg_eq {v : V} {n : List V} (h : v.asAgg = some n) : v = .agg n := by cases v <;> simp [V.asAgg] at h; subst h; rfl

section
variable {P : Program} {N : Nat} {w0 w : World} {ρ : Env} {H : Heap}

theorem Rel.slNil {s : Sl} {x : Value} (h : Rel ρ (.sl s) x) : ∃ a len cap, x = .slice a len cap ∧ a.isNone = s.a.isNone ∧ len = s.len := by
  cases h with
  | sn => exact ⟨none, 0, 0, rfl, rfl, rfl⟩
  | sx id off len c b a _ _ _ => exact ⟨_, _, _, rfl, rfl, rfl⟩
  | so id off len sz cap b a _ _ _ _ _ => exact ⟨_, _, _, rfl, rfl, rfl⟩
theorem Rel.pNil {s : Option (Nat × Nat)} {x : Value} (h : Rel ρ (.p s) x) : ∃ a, x = .pointer a ∧ a.isNone = s.isNone := by
  cases h with
  | pn => exact ⟨none, rfl, rfl⟩
  | p id off b _ => exact ⟨_, rfl, rfl⟩
theorem Rel.mNil {s : Option Nat} {x : Value} (h : Rel ρ (.m s) x) : ∃ a, x = .map a ∧ a.isNone = s.isNone := by
  cases h with
  | mn => exact ⟨none, rfl, rfl⟩
  | m id b _ => exact ⟨_, rfl, rfl⟩

theorem partGet {cs : List V} {xs : List Value} (hr : Rels ρ cs xs) {t : TypeId} {d : TypeDesc} (hu : P.underlying t = some d) (hd : isAggD d = false) {off : Nat} {v : V} (hv : cs[off]? = some v) (w : World) :
    ∃ x, (part t xs.toArray off).run P w = .ok x w ∧ Rel ρ v x := by
  obtain ⟨x, hx, hrel⟩ := hr.get _ _ hv
  refine ⟨x, ?_, hrel⟩
  unfold part
  simp only [Sem.run_bind, run_isAggD hu, hd, Result.andThen_ok]
  simp [hx]
theorem partAgg {cs : List V} {xs : List Value} (hr : Rels ρ cs xs) {t : TypeId} {d : TypeDesc} (hu : P.underlying t = some d) (hd : isAggD d = true) {off : Nat} (_hle : off + P.cellsOf t ≤ cs.length) (w : World) :
    ∃ x, (part t xs.toArray off).run P w = .ok x w ∧ Rel ρ (.agg ((cs.drop off).take (P.cellsOf t))) x := by
  refine ⟨.agg ((xs.drop off).take (P.cellsOf t)).toArray, ?_, .agg _ _ ((hr.drop off).take _)⟩
  unfold part
  simp only [Sem.run_bind, run_isAggD hu, hd, Result.andThen_ok]
  simp only [if_true, Sem.run_bind, run_size hu, Result.andThen_ok, Sem.run_pure]
  congr 2
  apply Array.ext'
  simp [List.extract_eq_take_drop]

theorem partV_sound {R : Type} {r : R} {cs : List V} {xs : List Value} (hr : Rels ρ cs xs) {t : TypeId} {off : Nat} {K : V → Option R} (h : partV P t cs off K = some r) :
    ∃ v x, (∀ w, (part t xs.toArray off).run P w = .ok x w) ∧ Rel ρ v x ∧ K v = some r := by
  unfold partV at h
  split at h
  · rename_i d hu
    split at h
    · rename_i hd
      split at h
      · rename_i hle
        refine ⟨_, .agg ((xs.drop off).take (P.cellsOf t)).toArray, fun w => ?_, .agg _ _ ((hr.drop off).take _), h⟩
        obtain ⟨x, hx, _⟩ := partAgg hr hu hd hle w
        unfold part
        simp only [Sem.run_bind, run_isAggD hu, hd, Result.andThen_ok]
        simp only [if_true, Sem.run_bind, run_size hu, Result.andThen_ok, Sem.run_pure]
        congr 2
        apply Array.ext'
        simp [List.extract_eq_take_drop]
      · cases h
    · rename_i hd
      split at h
      · rename_i v hv
        obtain ⟨x, hx, hrel⟩ := hr.get _ _ hv
        refine ⟨v, x, fun w => ?_, hrel, h⟩
        obtain ⟨y, hy, _⟩ := partGet hr hu (by simpa using hd) hv w
        unfold part
        have hd' : isAggD d = false := by simpa using hd
        simp only [Sem.run_bind, run_isAggD hu, hd', Result.andThen_ok]
        simp [hx]
      · cases h
  · cases h

theorem eqV_sound : ∀ (d d' : Nat) (t : TypeId) (a b : V) (x y : Value) (r : Bool) (w : World), eqV P d t a b = some r → Rel ρ a x → Rel ρ b y → d ≤ d' → (Op.equalIn d' t x y).run P w = .ok r w := by
  intro d
  induction d with
  | zero => intro d' t a b x y r w h; simp [eqV] at h
  | succ d ih =>
    intro d' t a b x y r w h hx hy hd
    obtain ⟨d', rfl⟩ : ∃ k, d' = k + 1 := ⟨d' - 1, by omega⟩
    unfold eqV at h
    split at h
    · rename_i hu
      obtain ⟨p, hp, h'⟩ := Option.bind_eq_some_iff.1 h
      clear h
      obtain ⟨q, hq, h⟩ := Option.bind_eq_some_iff.1 h'
      clear h'
      obtain rfl := V.asB_eq hp; obtain rfl := V.asB_eq hq
      cases hx; cases hy
      simp at h; subst h
      simp [Op.equalIn, run_underlying hu]
    · rename_i k hu
      obtain ⟨p, hp, h'⟩ := Option.bind_eq_some_iff.1 h
      clear h
      obtain ⟨q, hq, h⟩ := Option.bind_eq_some_iff.1 h'
      clear h'
      obtain rfl := V.asI_eq hp; obtain rfl := V.asI_eq hq
      cases hx; cases hy
      simp at h; subst h
      simp [Op.equalIn, run_underlying hu]
    · rename_i hu
      obtain ⟨p, hp, h'⟩ := Option.bind_eq_some_iff.1 h
      clear h
      obtain ⟨q, hq, h⟩ := Option.bind_eq_some_iff.1 h'
      clear h'
      obtain rfl := V.asS_eq hp; obtain rfl := V.asS_eq hq
      cases hx; cases hy
      simp at h; subst h
      simp [Op.equalIn, run_underlying hu, beq_toListBytes, strEq]
    · rename_i e hu
      obtain ⟨p, hp, h'⟩ := Option.bind_eq_some_iff.1 h
      clear h
      obtain ⟨q, hq, h⟩ := Option.bind_eq_some_iff.1 h'
      clear h'
      obtain rfl := V.asP_eq hp; obtain rfl := V.asP_eq hq
      obtain ⟨ax, rfl, ha⟩ := hx.pNil
      obtain ⟨ay, rfl, hb⟩ := hy.pNil
      rw [← ha, ← hb] at h
      cases ax <;> cases ay <;> simp at h <;> subst h <;> simp [Op.equalIn, run_underlying hu]
    · rename_i e hu
      obtain ⟨p, hp, h'⟩ := Option.bind_eq_some_iff.1 h
      clear h
      obtain ⟨q, hq, h⟩ := Option.bind_eq_some_iff.1 h'
      clear h'
      obtain rfl := V.asSl_eq hp; obtain rfl := V.asSl_eq hq
      obtain ⟨ax, lx, cx, rfl, ha, _⟩ := hx.slNil
      obtain ⟨ay, ly, cy, rfl, hb, _⟩ := hy.slNil
      rw [← ha, ← hb] at h
      cases ax <;> cases ay <;> simp at h <;> subst h <;> simp [Op.equalIn, run_underlying hu]
    · rename_i kt et hu
      obtain ⟨p, hp, h'⟩ := Option.bind_eq_some_iff.1 h
      clear h
      obtain ⟨q, hq, h⟩ := Option.bind_eq_some_iff.1 h'
      clear h'
      obtain rfl := V.asM_eq hp; obtain rfl := V.asM_eq hq
      obtain ⟨ax, rfl, ha⟩ := hx.mNil
      obtain ⟨ay, rfl, hb⟩ := hy.mNil
      rw [← ha, ← hb] at h
      cases ax <;> cases ay <;> simp at h <;> subst h <;> simp [Op.equalIn, run_underlying hu]
    · rename_i ms hu
      obtain ⟨p, hp, h'⟩ := Option.bind_eq_some_iff.1 h
      clear h
      obtain ⟨q, hq, h⟩ := Option.bind_eq_some_iff.1 h'
      clear h'
      cases hx <;> simp [ifNil] at hp <;> subst hp <;> cases hy <;> simp [ifNil] at hq <;> subst hq <;> simp at h <;> subst h <;> simp [Op.equalIn, run_underlying hu]
    · rename_i p1 p2 p3 hu
      obtain ⟨p, hp, h'⟩ := Option.bind_eq_some_iff.1 h
      clear h
      obtain ⟨q, hq, h⟩ := Option.bind_eq_some_iff.1 h'
      clear h'
      have k1 : ∀ (v : V) (z : Value) (n : Bool), Rel ρ v z → fnNil v = some n → (z = .nilFunc ∧ n = true) ∨ (∃ f a c, z = .func f a c ∧ n = false) := by
        intro v z n hr hn
        cases hr
        case fn f _ _ _ _ _ _ =>
          cases f <;> simp [fnNil] at hn
          exact .inr ⟨_, _, _, rfl, hn⟩
        case nilFn => simp [fnNil] at hn; exact .inl ⟨rfl, hn⟩
        all_goals simp [fnNil] at hn
      rcases k1 a x p hx hp with ⟨rfl, rfl⟩ | ⟨f, u, c, rfl, rfl⟩ <;> rcases k1 b y q hy hq with ⟨rfl, rfl⟩ | ⟨f', u', c', rfl, rfl⟩ <;> simp at h <;> subst h <;> simp [Op.equalIn, run_underlying hu]
    · rename_i fs hu
      split at h
      · cases h
      · rename_i hst
        obtain ⟨xs, hxs, h'⟩ := Option.bind_eq_some_iff.1 h
        clear h
        obtain ⟨ys, hys, h⟩ := Option.bind_eq_some_iff.1 h'
        clear h'
        obtain rfl := V.asAgg_eq hxs; obtain rfl := V.asAgg_eq hys
        cases hx with
        | agg _ cx hrx =>
        cases hy with
        | agg _ cy hry =>
        have hu' : P.underlying t = some (.struct (P.fieldsOf t)) := by simp [Program.fieldsOf, hu]
        have hfs : P.fieldsOf t = fs := by simp [Program.fieldsOf, hu]
        rw [run_equalIn_agg w d' t _ _ hu' (by simpa using hst), hfs]
        clear hu hu' hfs
        generalize fs.toList = l at h
        induction l generalizing r with
        | nil => simp [eqGo] at h; subst h; simp [Op.eqFields]
        | cons f l ihl =>
          unfold eqGo at h
          split at h
          · cases h
          · rename_i hname
            split at h
            · rename_i u hfu
              have fin : ∀ (va vb : V) (xa xb : Value) (r1 q : Bool), (part f.type cx.toArray f.offset).run P w = .ok xa w → (part f.type cy.toArray f.offset).run P w = .ok xb w → Rel ρ va xa → Rel ρ vb xb →
                  eqV P d f.type va vb = some r1 → eqGo P (eqV P d) l xs ys = some q → r = (r1 && q) → (Op.eqFields d' cx.toArray cy.toArray (f :: l)).run P w = .ok r w := by
                intro va vb xa xb r1 q h1 h2 h3 h4 h5 h6 h7
                subst h7
                have e1 := ih d' f.type va vb xa xb r1 w h5 h3 h4 (by omega)
                have e2 := ihl q h6
                simp only [Op.eqFields, hname, ne_eq, not_false_eq_true, if_true, Sem.run_bind, h1, h2, Result.andThen_ok, e1, Sem.run_ite]
                cases r1 <;> simp [e2]
              split at h
              · rename_i hagg
                split at h
                · rename_i hle
                  obtain ⟨r1, h1, h3⟩ := Option.bind_eq_some_iff.1 h
                  obtain ⟨q, h2, h4⟩ := Option.bind_eq_some_iff.1 h3
                  obtain ⟨xa, p1, p2⟩ := partAgg hrx hfu hagg hle.1 w
                  obtain ⟨xb, q1, q2⟩ := partAgg hry hfu hagg hle.2 w
                  exact fin _ _ xa xb r1 q p1 q1 p2 q2 h1 h2 (by simpa using h4.symm)
                · cases h
              · rename_i hagg
                split at h
                · rename_i va vb hva hvb
                  obtain ⟨r1, h1, h3⟩ := Option.bind_eq_some_iff.1 h
                  obtain ⟨q, h2, h4⟩ := Option.bind_eq_some_iff.1 h3
                  obtain ⟨xa, p1, p2⟩ := partGet hrx hfu (by simpa using hagg) hva w
                  obtain ⟨xb, q1, q2⟩ := partGet hry hfu (by simpa using hagg) hvb w
                  exact fin _ _ xa xb r1 q p1 q1 p2 q2 h1 h2 (by simpa using h4.symm)
                · cases h
            · cases h
    · cases h

theorem eqGuard_ok {op : BinOp} {t : TypeId} (o1 o2 : Operand) (x y : Value) (hg : P.eqGuardType P.depth t = false) (hni : ¬ (x = .nilIface ∧ y = .nilIface)) (w : World) : (eqGuard op t o1 o2 x y).run P w = .ok () w := by
  cases op
  case eql | neq => cases x <;> cases y <;> first | (exact absurd ⟨rfl, rfl⟩ hni) | (simp [eqGuard, hg]; done)
  all_goals simp [eqGuard]

theorem eqGuardType_iface {t : TypeId} {ms : Array (String × TypeId)} (hu : P.underlying t = some (.interface ms)) (d : Nat) : P.eqGuardType (d + 1) t = !ms.isEmpty := by
  simp only [Program.eqGuardType, hu]
theorem eqGuardIn_iface {t : TypeId} {ms : Array (String × TypeId)} (hu : P.underlying t = some (.interface ms)) (d : Nat) (w : World) : (Op.eqGuardIn (d + 1) t .nilIface .nilIface).run P w = .ok (!ms.isEmpty) w := by
  unfold Op.eqGuardIn
  simp [run_underlying hu]
theorem eqGuardIn_empty {t : TypeId} (hg : P.eqGuardType P.depth t = false) (w : World) (hu : ∃ ms, P.underlying t = some (.interface ms)) : (Op.eqGuardIn Op.maxDepth t .nilIface .nilIface).run P w = .ok false w := by
  obtain ⟨ms, hu⟩ := hu
  have h1 : P.depth = (2 * (P.types.size + Made.depth) + 1) + 1 := rfl
  rw [h1, eqGuardType_iface hu] at hg
  rw [← hg]
  exact eqGuardIn_iface hu 9999 w

theorem eqGuard_nn {op : BinOp} {t : TypeId} (o1 o2 : Operand) (hc : (isConstO o1 || isConstO o2) = true) (w : World) : (eqGuard op t o1 o2 .nilIface .nilIface).run P w = .ok () w := by
  cases op
  case eql | neq => cases o1 <;> cases o2 <;> simp [isConstO] at hc <;> simp [eqGuard]
  all_goals simp [eqGuard]
theorem eqGuard_nn' {op : BinOp} {t : TypeId} (o1 o2 : Operand) (hg : P.eqGuardType P.depth t = false) (hu : ∃ ms, P.underlying t = some (.interface ms)) (w : World) : (eqGuard op t o1 o2 .nilIface .nilIface).run P w = .ok () w := by
  cases op
  case eql | neq => cases o1 <;> cases o2 <;> simp [eqGuard, eqGuardIn_empty hg w hu]
  all_goals simp [eqGuard]

end
end Go.Proofs.YteipplgcdbaokaaDoor.AM
