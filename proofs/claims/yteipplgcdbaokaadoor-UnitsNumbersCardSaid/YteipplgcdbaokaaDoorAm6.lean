/- What the machine's two-operand operations, slicing and appending stand for. -/
import Derived.Test.YteipplgcdbaokaaDoorAm5
namespace Go.Proofs.YteipplgcdbaokaaDoor.AM
open Go Go.RowKit

theorem sel_some {R : Type} {r : R} {x : Bool} {a b : Option R} (h : sel x a b = some r) : (x = true ∧ a = some r) ∨ (x = false ∧ b = some r) := by cases x <;> simp [sel] at h <;> simp [h]

section
variable {P : Program} {N : Nat} {w0 w : World} {ρ : Env} {H : Heap}

theorem eqGuard_int {op : BinOp} {t : TypeId} (o1 o2 : Operand) (k : IntKind) (n : Int) (y : Value) (w : World) : (eqGuard op t o1 o2 (.int k n) y).run P w = .ok () w := by
  cases op <;> simp [eqGuard]
theorem eqGuard_str {op : BinOp} {t : TypeId} (o1 o2 : Operand) (s : ByteArray) (y : Value) (w : World) : (eqGuard op t o1 o2 (.string s) y).run P w = .ok () w := by
  cases op <;> simp [eqGuard]

theorem evInt_sound {R : Type} {r : R} {op : BinOp} {k : IntKind} {n m : Int} {K : V → Option R} (h : evInt op k n m K = some r) (t : TypeId) (w : World) :
    ∃ v c, (binOp op t (.int k n) (.int k m)).run P w = .ok c w ∧ Rel ρ v c ∧ K v = some r := by
  cases op <;> simp only [evInt] at h
  case quo =>
    split at h
    · cases h
    · rename_i hm; exact ⟨_, _, by simp [binOp, Op.intDiv, hm], .i _ _, h⟩
  case rem =>
    split at h
    · cases h
    · rename_i hm; exact ⟨_, _, by simp [binOp, Op.intDiv, hm], .i _ _, h⟩
  all_goals first
    | cases h; done
    | exact ⟨_, _, by simp only [binOp, ne_eq, not_true_eq_false, if_false, Op.intArith]; rfl, .i _ _, h⟩
    | exact ⟨_, _, by simp only [binOp, ne_eq, not_true_eq_false, if_false, Op.intBits]; rfl, .i _ _, h⟩
    | exact ⟨_, _, by simp only [binOp, ne_eq, not_true_eq_false, if_false, Op.intCmp]; rfl, .b _, h⟩

theorem evStr_sound {R : Type} {r : R} {op : BinOp} {x y : ByteArray} {K : V → Option R} (h : evStr op x y K = some r) (t : TypeId) (w : World) :
    ∃ v c, (binOp op t (.string x) (.string y)).run P w = .ok c w ∧ Rel ρ v c ∧ K v = some r := by
  cases op <;> simp only [evStr, catS] at h
  case add =>
    split at h
    · rename_i hm0
      have hm : ¬ (((x.size + y.size : Nat) : Int) > IntKind.i64.max) := by
        have : IntKind.i64.max = 9223372036854775807 := rfl
        omega
      exact ⟨_, _, by simp only [binOp, Op.stringOp, hm, if_false]; rfl, .s _, h⟩
    · cases h
  all_goals first
    | cases h; done
    | exact ⟨_, _, by simp only [binOp, Op.stringOp]; rfl, .b _, h⟩

theorem binOp_eql {t : TypeId} {x y : Value} (h1 : ∀ k n, x ≠ .int k n) (h2 : ∀ s, x ≠ .string s) (h3 : ∀ k n, x ≠ .float k n) (h4 : ∀ k n m, x ≠ .complex k n m) : binOp .eql t x y = (do pure (.bool (← Op.equal t x y))) := by
  cases x <;> cases y <;> first | rfl | (exact absurd rfl (h1 _ _)) | (exact absurd rfl (h2 _)) | (exact absurd rfl (h3 _ _)) | (exact absurd rfl (h4 _ _ _))
theorem binOp_neq {t : TypeId} {x y : Value} (h1 : ∀ k n, x ≠ .int k n) (h2 : ∀ s, x ≠ .string s) (h3 : ∀ k n, x ≠ .float k n) (h4 : ∀ k n m, x ≠ .complex k n m) : binOp .neq t x y = (do pure (.bool (!(← Op.equal t x y)))) := by
  cases x <;> cases y <;> first | rfl | (exact absurd rfl (h1 _ _)) | (exact absurd rfl (h2 _)) | (exact absurd rfl (h3 _ _)) | (exact absurd rfl (h4 _ _ _))

theorem ifNil_sound {v : V} {x : Value} {b : Bool} (h : ifNil v = some b) (hr : Rel ρ v x) : (b = true ∧ x = .nilIface) ∨ (b = false ∧ ∃ t y, x = .iface t y) := by
  cases hr <;> simp [ifNil] at h <;> subst h
  · exact .inr ⟨rfl, _, _, rfl⟩
  · exact .inl ⟨rfl, rfl⟩

theorem equal_iface_nil (d : Nat) {t : TypeId} {ms : Array (String × TypeId)} (hu : P.underlying t = some (.interface ms)) (w : World) :
    (Op.equalIn (d + 1) t .nilIface .nilIface).run P w = .ok true w ∧ ∀ s y, (Op.equalIn (d + 1) t (.iface s y) .nilIface).run P w = .ok false w := by
  constructor
  · simp [Op.equalIn, run_underlying hu]
  · intro s y; simp [Op.equalIn, run_underlying hu]

/-- a type whose parts may hold methods' interfaces: only where it is an interface is nil a value -/
theorem evBin_sound {R : Type} {r : R} {op : BinOp} {t : TypeId} {cst : Bool} {a b : V} {x y : Value} {K : V → Option R} (h : evBin P op t cst a b K = some r) (hx : Rel ρ a x) (hy : Rel ρ b y)
    (o1 o2 : Operand) (hc : cst = true → (isConstO o1 || isConstO o2) = true) (w : World) :
    ∃ v c, (do eqGuard op t o1 o2 x y; binOp op t x y : Sem Value).run P w = .ok c w ∧ Rel ρ v c ∧ K v = some r := by
  unfold evBin at h
  split at h
  · rename_i k hu
    split at h
    · obtain ⟨n, hn, h'⟩ := Option.bind_eq_some_iff.1 h
      obtain rfl := V.asI_eq hn
      cases hx
      split at h'
      · cases hy
        split at h'
        · cases h'
        · rename_i hm
          exact ⟨_, _, by simp only [Sem.run_bind, eqGuard_int, Result.andThen_ok, binOp, Op.shift, hm, if_false]; rfl, .i _ _, h'⟩
      · cases h'
    · obtain ⟨n, hn, h'⟩ := Option.bind_eq_some_iff.1 h
      obtain rfl := V.asI_eq hn
      cases hx
      split at h'
      · cases hy
        split at h'
        · cases h'
        · rename_i hm
          exact ⟨_, _, by simp only [Sem.run_bind, eqGuard_int, Result.andThen_ok, binOp, Op.shift, hm, if_false]; rfl, .i _ _, h'⟩
      · cases h'
    · obtain ⟨n, hn, h1⟩ := Option.bind_eq_some_iff.1 h
      obtain ⟨m, hm, h2⟩ := Option.bind_eq_some_iff.1 h1
      obtain rfl := V.asI_eq hn; obtain rfl := V.asI_eq hm
      cases hx; cases hy
      obtain ⟨v, c, e1, e2, e3⟩ := evInt_sound (P := P) (ρ := ρ) h2 t w
      exact ⟨v, c, by simp only [Sem.run_bind, eqGuard_int, Result.andThen_ok, e1], e2, e3⟩
  · rename_i hu
    obtain ⟨n, hn, h1⟩ := Option.bind_eq_some_iff.1 h
    obtain ⟨m, hm, h2⟩ := Option.bind_eq_some_iff.1 h1
    obtain rfl := V.asS_eq hn; obtain rfl := V.asS_eq hm
    cases hx; cases hy
    obtain ⟨v, c, e1, e2, e3⟩ := evStr_sound (P := P) (ρ := ρ) h2 t w
    exact ⟨v, c, by simp only [Sem.run_bind, eqGuard_str, Result.andThen_ok, e1], e2, e3⟩
  · rename_i ms hu
    have eqn : ∀ (s : TypeId) (z : Value) (op : BinOp), (eqGuard op t o1 o2 (.iface s z) .nilIface).run P w = .ok () w := by intro s z op; cases op <;> simp [eqGuard]
    split at h
    · obtain ⟨q, hq, h1⟩ := Option.bind_eq_some_iff.1 h
      split at h1
      · rename_i hqc
        obtain ⟨p, hp, h2⟩ := Option.bind_eq_some_iff.1 h1
        simp only [Bool.and_eq_true] at hqc
        obtain ⟨rfl, rfl⟩ := hqc
        rcases ifNil_sound hq hy with ⟨_, rfl⟩ | ⟨e, _⟩
        · rcases ifNil_sound hp hx with ⟨rfl, rfl⟩ | ⟨rfl, s, z, rfl⟩
          · refine ⟨.b true, .bool true, ?_, .b _, h2⟩
            rw [binOp_eql (by simp) (by simp) (by simp) (by simp)]
            simp only [Sem.run_bind, eqGuard_nn o1 o2 (hc rfl), Result.andThen_ok, Op.equal]
            rw [show Op.maxDepth = 9999 + 1 from rfl, (equal_iface_nil 9999 hu w).1]; rfl
          · refine ⟨.b false, .bool false, ?_, .b _, h2⟩
            rw [binOp_eql (by simp) (by simp) (by simp) (by simp)]
            simp only [Sem.run_bind, eqn, Result.andThen_ok, Op.equal]
            rw [show Op.maxDepth = 9999 + 1 from rfl, (equal_iface_nil 9999 hu w).2]; rfl
        · cases e
      · cases h1
    · obtain ⟨q, hq, h1⟩ := Option.bind_eq_some_iff.1 h
      split at h1
      · rename_i hqc
        obtain ⟨p, hp, h2⟩ := Option.bind_eq_some_iff.1 h1
        simp only [Bool.and_eq_true] at hqc
        obtain ⟨rfl, rfl⟩ := hqc
        rcases ifNil_sound hq hy with ⟨_, rfl⟩ | ⟨e, _⟩
        · rcases ifNil_sound hp hx with ⟨rfl, rfl⟩ | ⟨rfl, s, z, rfl⟩
          · refine ⟨.b (!true), .bool false, ?_, .b _, h2⟩
            rw [binOp_neq (by simp) (by simp) (by simp) (by simp)]
            simp only [Sem.run_bind, eqGuard_nn o1 o2 (hc rfl), Result.andThen_ok, Op.equal]
            rw [show Op.maxDepth = 9999 + 1 from rfl, (equal_iface_nil 9999 hu w).1]; rfl
          · refine ⟨.b (!false), .bool true, ?_, .b _, h2⟩
            rw [binOp_neq (by simp) (by simp) (by simp) (by simp)]
            simp only [Sem.run_bind, eqn, Result.andThen_ok, Op.equal]
            rw [show Op.maxDepth = 9999 + 1 from rfl, (equal_iface_nil 9999 hu w).2]; rfl
        · cases e
      · cases h1
    · cases h
  · rename_i d hni hns hif hu
    -- neither numbers nor strings stand here, if the comparison gives anything
    have plain : ∀ (q : Bool), eqV P 30 t a b = some q → (∀ k n, x ≠ .int k n) ∧ (∀ s, x ≠ .string s) ∧ (∀ k n, x ≠ .float k n) ∧ (∀ k n m, x ≠ .complex k n m) ∧ x ≠ .nilIface := by
      intro q hq
      have h1 : ∀ (k : IntKind) (n : Int), a ≠ .i k n := by
        rintro k n rfl
        unfold eqV at hq
        rw [hu] at hq
        cases d <;> simp [V.asB, V.asP, V.asSl, V.asM, fnNil, V.asAgg] at hq hni hns hif
      have h2 : ∀ (v : ByteArray), a ≠ .s v := by
        rintro s rfl
        unfold eqV at hq
        rw [hu] at hq
        cases d <;> simp [V.asB, V.asP, V.asSl, V.asM, fnNil, V.asAgg] at hq hni hns hif
      have h3 : a ≠ .nilI := by
        rintro rfl
        unfold eqV at hq
        rw [hu] at hq
        cases d <;> simp [V.asB, V.asP, V.asSl, V.asM, fnNil, V.asAgg] at hq hni hns hif
      refine ⟨fun k n e => ?_, fun s e => ?_, fun k n e => ?_, fun k n m e => ?_, fun e => ?_⟩ <;> subst e <;> cases hx
      · exact h1 _ _ rfl
      · exact h2 _ rfl
      · exact h3 rfl
    split at h
    · split at h
      · cases h
      · rename_i hg
        obtain ⟨q, hq, h1⟩ := Option.bind_eq_some_iff.1 h
        obtain ⟨p1, p2, p3, p4, p5⟩ := plain q hq
        refine ⟨.b q, .bool q, ?_, .b _, h1⟩
        rw [binOp_eql p1 p2 p3 p4]
        simp only [Sem.run_bind, eqGuard_ok o1 o2 x y (by simpa using hg) (fun e => p5 e.1), Result.andThen_ok, Op.equal, eqV_sound 30 Op.maxDepth t a b x y q w hq hx hy (by decide)]
        rfl
    · split at h
      · cases h
      · rename_i hg
        obtain ⟨q, hq, h1⟩ := Option.bind_eq_some_iff.1 h
        obtain ⟨p1, p2, p3, p4, p5⟩ := plain q hq
        refine ⟨.b (!q), .bool (!q), ?_, .b _, h1⟩
        rw [binOp_neq p1 p2 p3 p4]
        simp only [Sem.run_bind, eqGuard_ok o1 o2 x y (by simpa using hg) (fun e => p5 e.1), Result.andThen_ok, Op.equal, eqV_sound 30 Op.maxDepth t a b x y q w hq hx hy (by decide)]
        rfl
    · cases h
  · cases h

end
end Go.Proofs.YteipplgcdbaokaaDoor.AM
