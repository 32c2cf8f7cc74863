/- Code whose sequences are turned to the right runs as before; words for printed functions. -/
import Derived.Test.YteipplgcdbaokaaDoorAm27
namespace Go.Proofs.YteipplgcdbaokaaDoor.AM
open Go Go.RowKit

def seqTo : Code → Code → Code
  | .seq a b, c => seqTo a (seqTo b c)
  | a, c => .seq a c
/-- sequences to the right -/
def rassoc : Code → Code
  | .seq a b => seqTo (rassoc a) (rassoc b)
  | .cond c a b => .cond c (rassoc a) (rassoc b)
  | .block i b => .block i (rassoc b)
  | .loop b => .loop (rassoc b)
  | c => c

section
variable {P : Program} {E : FEnv} {lr : LRun} {n : Nat} {kp : Nat → Option (List Nat)}
theorem ev_seqTo : ∀ (a c : Code) {R : Type} (fr : Fr) (H : Heap) (K : Ex → Fr → Heap → Option R), ev P E lr n kp (seqTo a c) fr H K = ev P E lr n kp (.seq a c) fr H K := by
  intro a
  induction a with
  | seq a b iha ihb =>
    intro c R fr H K
    simp only [seqTo]
    rw [iha]
    show ev P E lr n kp a fr H _ = ev P E lr n kp a fr H _
    congr 1
    funext e fr' H'
    cases e with
    | normal => exact ihb c fr' H' K
    | exit i => rfl
    | ret => rfl
  | _ => intro c R fr H K; rfl
theorem ev_rassoc : ∀ (c : Code) {R : Type} (fr : Fr) (H : Heap) (K : Ex → Fr → Heap → Option R), ev P E lr n kp (rassoc c) fr H K = ev P E lr n kp c fr H K := by
  intro c
  induction c with
  | seq a b iha ihb =>
    intro R fr H K
    simp only [rassoc]
    rw [ev_seqTo]
    show ev P E lr n kp (rassoc a) fr H _ = ev P E lr n kp a fr H _
    rw [iha]
    congr 1
    funext e fr' H'
    cases e with
    | normal => exact ihb fr' H' K
    | exit i => rfl
    | ret => rfl
  | cond c a b iha ihb =>
    intro R fr H K
    simp only [rassoc, ev]
    split
    · rw [iha, ihb]
    · rfl
  | block i b ih => intro R fr H K; exact ih _ H _
  | loop b ih =>
    intro R fr H K
    have : (fun s : LS => ev P E lr n kp (rassoc b) s.1 s.2 ret3) = fun s => ev P E lr n kp b s.1 s.2 ret3 := by
      funext s; exact ih _ _ _
    simp only [rassoc, ev]
    rw [this]
  | _ => intro R fr H K; rfl
theorem kSeq_n {R : Type} (next : Fr → Heap → Option R) (K : Ex → Fr → Heap → Option R) (fr : Fr) (H : Heap) : kSeq next K .normal fr H = next fr H := rfl
/-- a function's code -/
def codeOf (fn : Func) : Code := rassoc (fn.body.getD .skip)
theorem evFn_code {R : Type} {fn : Func} {args : List V} (H : Heap) (K : V → Heap → Option R) (hb : fn.body.isSome = true) (hl : (args.length ≤ fn.ntmps)) :
    evFn P E lr fn kp args H K = ev P E lr fn.ntmps kp (codeOf fn) (argFr 0 args) H (kFn P fn.results.toList K) := by
  unfold evFn codeOf
  rw [if_pos hl, ev_rassoc]
  cases hx : fn.body with
  | none => rw [hx] at hb; cases hb
  | some c => rfl
theorem evFn_code2 {R : Type} {fn : Func} {args : List V} {c : Code} (H : Heap) (K : V → Heap → Option R) (hb : fn.body.isSome = true) (hl : (args.length ≤ fn.ntmps)) (hc : rassoc (fn.body.getD .skip) = c) :
    evFn P E lr fn kp args H K = ev P E lr fn.ntmps kp c (argFr 0 args) H (kFn P fn.results.toList K) := by
  rw [← hc]; exact evFn_code H K hb hl
end

/-- what is found in a map -/
def fnd {R : Type} (q : Option (Nat × V)) (f : Nat → V → Option R) (g : Option R) : Option R := match q with
  | some (j, v) => f j v
  | none => g
theorem fnd_lin {R S : Type} {q : Option (Nat × V)} {f : Nat → V → Option R} {f' : Option R} {g : Nat → V → Option S} {g' : Option S} {k : S → Option R} (h : ∀ j v, f j v = (g j v).bind k) (h' : f' = g'.bind k) : fnd q f f' = (fnd q g g').bind k := by
  cases q with
  | none => exact h'
  | some x => exact h x.1 x.2
@[simp] theorem fnd_some {R : Type} (j : Nat) (v : V) (f : Nat → V → Option R) (g : Option R) : fnd (some (j, v)) f g = f j v := rfl
@[simp] theorem fnd_none {R : Type} (f : Nat → V → Option R) (g : Option R) : fnd none f g = g := rfl
/-- the capacity of a slice, where it is known -/
def capK {R : Type} (c : Cap) (K : Nat → Option R) : Option R := match c with
  | .ex c => K c
  | _ => none
theorem capK_lin {R S : Type} {c : Cap} {f : Nat → Option R} {g : Nat → Option S} {k : S → Option R} (h : ∀ j, f j = (g j).bind k) : capK c f = (capK c g).bind k := by
  cases c with
  | ex c => exact h c
  | op s => rfl
@[simp] theorem capK_ex {R : Type} (c : Nat) (K : Nat → Option R) : capK (.ex c) K = K c := rfl
theorem mixedOf (P : Program) (h : P.follows .mixedOrders = true) : P.follows .mixedOrders = true := h
end Go.Proofs.YteipplgcdbaokaaDoor.AM
