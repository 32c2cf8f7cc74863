/- Contracts of functions of the library that the machine itself does not run: what they need. -/
import Derived.Test.YteipplgcdbaokaaDoorAm31
import Derived.Lib.LaidTab
import Derived.Lib.ItoaNum
import Derived.Lib.Builder
import Derived.Laws.Externs
import Derived.Sort.Grow
import Derived.Deep.Draws
namespace Go.Proofs.YteipplgcdbaokaaDoor.AM
open Go Go.RowKit
set_option linter.unusedVariables false

/-- the numeral of a number, by rounds -/
def decF : Nat → Nat → List UInt8
  | 0, _ => []
  | f + 1, u => if u < 10 then [UInt8.ofNat (48 + u)] else decF f (u / 10) ++ [UInt8.ofNat (48 + u % 10)]
theorem decF_eq : ∀ (f u : Nat), u < 10 ^ (f + 1) → decF (f + 1) u = Lib.decDigits u := by
  intro f
  induction f with
  | zero => intro u h; rw [Lib.decDigits]; have h1 : u < 10 := by simpa using h
            simp [decF, h1]
  | succ f ih =>
    intro u h
    rw [Lib.decDigits]
    rw [decF]
    split
    · rfl
    · rw [ih _ (by rw [Nat.pow_succ] at h; omega)]
def decI (n : Int) : List UInt8 := if n < 0 then 45 :: decF 20 n.natAbs else decF 20 n.toNat
theorem decI_eq {n : Int} (h0 : -9223372036854775808 ≤ n) (h1 : n ≤ 9223372036854775807) : decI n = Lib.itoa n := by
  unfold decI Lib.itoa
  rw [decF_eq 19 _ (by omega), decF_eq 19 _ (by omega)]
def itoaS (n : Int) : ByteArray := ⟨(decI n).toArray⟩

section
variable {P : Program} {N : Nat} {w0 w : World} {ρ : Env} {H : Heap} {n : Nat} {E : FEnv}
theorem HR.grown (h : HR N w0 ρ H w) (k : Nat) (os : Array Obj) : HR N w0 ρ H (Sort.grow (w.drewN k) os) := by
  refine h.over ⟨rfl, rfl, rfl, by simp [Sort.grow, World.drewN], fun i hi => ?_⟩
  simp only [Sort.grow, World.drewN]
  rw [Array.getElem?_append_left hi]

theorem DL.go {all rest rest' : List Oper} {o : Oper} {fr fr' : Fr} {H' : Heap} {v : V} {Φ : Fr → Heap → Prop} (hr : rest = o :: rest') (hd : dstOk n o.dst = true) (hg : o.guard = none)
    (h : DO P N w0 n o fr H fun v' H'' => v' = v ∧ H'' = H') (hf : fput fr o.dst v = fr') (hn : DL P N w0 n all rest' fr' H' Φ) : DL P N w0 n all rest fr H Φ := by
  subst hr
  refine DL.cons hd hg fun ρ a w hs => (h ρ a w hs).post fun c w' hp => ?_
  obtain ⟨v', H'', ρ', h1, h2, h3, rfl, rfl⟩ := hp
  exact ⟨v', H'', ρ', h1, h2, h3, by subst hf; exact hn⟩
theorem DL.goEv (hE : EnvOK P E) {all rest rest' : List Oper} {o : Oper} {fr fr' : Fr} {H' : Heap} {v : V} {Φ : Fr → Heap → Prop} (hr : rest = o :: rest') (hd : dstOk n o.dst = true) (hg : o.guard = none)
    (h : evOp P E (evalO fr) H o.op o.type ret2 = some (v, H')) (hf : fput fr o.dst v = fr') (hn : DL P N w0 n all rest' fr' H' Φ) : DL P N w0 n all rest fr H Φ :=
  DL.go hr hd hg (DO.ev hE h ⟨rfl, rfl⟩) hf hn

/-- *T to unsafe.Pointer, of a variable that a block of its own holds -/
theorem DO.toUnsafe {o : Oper} {fr : Fr} {src dst t e : TypeId} {x : Operand} {j : TypeInfo} {id : Nat} {vs : List V} (ho : o.op = .convert src dst x) (hx : evalO fr x = some (.p (some (id, 0)))) (hs : P.underlying src = some (.pointer t)) (hd : P.underlying dst = some .unsafePointer)
    (ht : P.info? t = some j) (hj : j.size ≠ 0) (hg : H.get id = some (.cells vs e false)) (hex : exactT e = true) (hv : vs ≠ []) : DO P N w0 n o fr H fun v H' => v = .p (some (id, 0)) ∧ H' = H := by
  intro ρ a w hs'
  obtain ⟨dst', op, ty, pos, after, guard⟩ := o
  simp only at ho; subst ho
  have hr := SR.eval hs'.fr x _ hx
  obtain ⟨b, hb, hxx⟩ := hr.p'
  obtain ⟨c, fz, g1, g2, g3, g4⟩ := hs'.hr.base hg hb
  obtain ⟨_, _, _, gex⟩ := g4 rfl
  obtain ⟨g5, g6⟩ := gex hex
  have hsh : w.shape? b.blk = some (e, c.size) := by simp only [World.shape?, g1]
  have hl : 0 < vs.length := by cases vs with | nil => exact absurd rfl hv | cons _ _ => simp
  rw [g5] at hxx
  refine does_val (by rw [hxx]; exact Lib.run_to_unsafe w ⟨b.blk, 0, none⟩ hs hd ht hj hsh (by rw [g6]; exact hl)) ⟨.p (some (id, 0)), H, ρ, ρ.le_refl, ?_, hs'.hr, rfl, rfl⟩
  have := Rel.p (ρ := ρ) id 0 b hb
  rwa [g5] at this
theorem DO.fromUnsafe {o : Oper} {fr : Fr} {src dst u e : TypeId} {x : Operand} {j : TypeInfo} {id : Nat} {vs : List V} (ho : o.op = .convert src dst x) (hx : evalO fr x = some (.p (some (id, 0)))) (hs : P.underlying src = some .unsafePointer) (hd : P.underlying dst = some (.pointer u))
    (ht : P.info? u = some j) (hg : H.get id = some (.cells vs e false)) (hex : exactT e = true) (hl : liesAt P P.depth e (vs.length / P.cellsOf e) 0 u 1 = true) : DO P N w0 n o fr H fun v H' => v = .p (some (id, 0)) ∧ H' = H := by
  intro ρ a w hs'
  obtain ⟨dst', op, ty, pos, after, guard⟩ := o
  simp only at ho; subst ho
  have hr := SR.eval hs'.fr x _ hx
  obtain ⟨b, hb, hxx⟩ := hr.p'
  obtain ⟨c, fz, g1, g2, g3, g4⟩ := hs'.hr.base hg hb
  obtain ⟨_, _, _, gex⟩ := g4 rfl
  obtain ⟨g5, g6⟩ := gex hex
  have hsh : w.shape? b.blk = some (e, c.size) := by simp only [World.shape?, g1]
  rw [g5] at hxx
  refine does_val (by rw [hxx]; exact Lib.run_from_unsafe w ⟨b.blk, 0, none⟩ hs hd ht hsh (by rw [g6]; exact hl)) ⟨.p (some (id, 0)), H, ρ, ρ.le_refl, ?_, hs'.hr, rfl, rfl⟩
  have := Rel.p (ρ := ρ) id 0 b hb
  rwa [g5] at this
/-- a pointer is not other than itself -/
theorem DO.ptrSame {o : Oper} {fr : Fr} {t e yt : TypeId} {x y : Operand} {j : TypeInfo} {q : Nat × Nat} (ho : o.op = .binOp .neq t x y yt) (hx : evalO fr x = some (.p (some q))) (hy : evalO fr y = some (.p (some q))) (hs : P.underlying t = some (.pointer e))
    (ht : P.info? e = some j) (hgt : P.eqGuardType P.depth t = false) : DO P N w0 n o fr H fun v H' => v = .b false ∧ H' = H := by
  intro ρ a w hs'
  obtain ⟨dst', op, ty, pos, after, guard⟩ := o
  simp only at ho; subst ho
  obtain ⟨b, hb, hxx⟩ := (SR.eval hs'.fr x _ hx).p'
  obtain ⟨b2, hb2, hyy⟩ := (SR.eval hs'.fr y _ hy).p'
  rw [hb] at hb2; cases hb2
  have h1 := Lib.run_neq_ptr_same (P := P) w ⟨b.blk, b.off + q.2, none⟩ hs ht
  refine .inl ⟨.bool false, w, ?_, .b false, H, ρ, ρ.le_refl, .b false, hs'.hr, rfl, rfl⟩
  have h2 := eqGuard_ok (P := P) (op := .neq) x y (.pointer (some ⟨b.blk, b.off + q.2, none⟩)) (.pointer (some ⟨b.blk, b.off + q.2, none⟩)) hgt (fun e => by cases e.1) w
  simp [execOp, hxx, hyy, h2, h1]
/-- a function without a body that hands its argument back -/
theorem DO.noEscape {o : Oper} {fr : Fr} {f : FuncId} {fn : Func} {x : Operand} {ts : Array TypeId} {v : V} (ho : o.op = .call ⟨.value (.func f), #[x], ts⟩) (hx : evalO fr x = some v)
    (hf : P.funcs[f]? = some fn) (hname : (fn.name == "runtime.NumGoroutine") = false) (hb : fn.body.isNone = true) (hn : Extern.findNext fn = none) (he : Extern.find fn = some Extern.AbiNoEscape.same) : DO P N w0 n o fr H fun v' H' => v' = v ∧ H' = H := by
  intro ρ a w hs
  obtain ⟨dst', op, ty, pos, after, guard⟩ := o
  simp only at ho; subst ho
  have hr := SR.eval hs.fr x _ hx
  have h1 := run_callFunc_extern hf hname hb hn he #[a.eval x] w
  rw [Lib.run_noEscape] at h1
  have h1' : (callFunc f #[a.eval x]).run P w = .ok (.value (a.eval x)) w := h1
  have h2 : (execOp a.eval ⟨dst', .call ⟨.value (.func f), #[x], ts⟩, ty, pos, after, guard⟩).run P w = (callFunc f (#[] ++ #[x].map a.eval ++ #[])).run P w := by
    simp only [execOp, resolve, Sem.run_bind, Act.eval, Deferred.ofValue, Sem.run_pure, Result.andThen_ok, invoke]
  have h3 : (execOp a.eval ⟨dst', .call ⟨.value (.func f), #[x], ts⟩, ty, pos, after, guard⟩).run P w = .ok (.value (a.eval x)) w := by rw [h2]; simpa using h1'
  exact .inl ⟨a.eval x, w, h3, v, H, ρ, ρ.le_refl, hr, hs.hr, rfl, rfl⟩
end

/-- what 'copyCheck' of a strings.Builder does -/
def copyCk {R : Type} (B : TypeId) (p : Option (Nat × Nat)) (H : Heap) (K : Heap → Option R) : Option R :=
  match p with
  | some (id, 0) => match H.get id with
    | some (.cells [.p none, x] e false) => if e = B then K (H.put id (.cells [.p (some (id, 0)), x] e false)) else none
    | some (.cells [.p (some q), _] e false) => if q = (id, 0) ∧ e = B then K H else none
    | _ => none
  | _ => none
theorem copyCk_lin {R S : Type} {B : TypeId} {p : Option (Nat × Nat)} {H : Heap} {f : Heap → Option R} {g : Heap → Option S} {k : S → Option R} (h : ∀ H, f H = (g H).bind k) : copyCk B p H f = (copyCk B p H g).bind k := by
  unfold copyCk
  split
  · split
    · exact il0 (h _)
    · exact il0 (h _)
    · rfl
  · rfl
end Go.Proofs.YteipplgcdbaokaaDoor.AM
