/- Loops by name. -/
import Derived.Test.YteipplgcdbaokaaDoorAm25
namespace Go.Proofs.YteipplgcdbaokaaDoor.AM
open Go Go.RowKit

def codeKid : Code → Nat → Code
  | .seq a _, 0 => a
  | .seq _ b, _ => b
  | .cond _ a _, 0 => a
  | .cond _ _ b, _ => b
  | .block _ b, _ => b
  | .loop b, _ => b
  | c, _ => c
def codeAt : List Nat → Code → Code
  | [], c => c
  | n :: p, c => codeAt p (codeKid c n)
/-- what is kept behind each region -/
def kpOf : List (Nat × List Nat) → Nat → Option (List Nat)
  | [], _ => none
  | (k, l) :: r, i => if i = k then some l else kpOf r i
/-- the body of a loop -/
def loopB (P : Program) (E : FEnv) (lr : LRun) (fn : Func) (kp : Nat → Option (List Nat)) (p : List Nat) : LS → Option (Ex × LS) :=
  fun s => ev P E lr fn.ntmps kp (codeAt p (fn.body.getD .skip)) s.1 s.2 ret3
/-- one round more -/
theorem loopB_eq {P : Program} {E : FEnv} {fn : Func} {kp : Nat → Option (List Nat)} {p : List Nat} (s : LS) :
    loopLim (loopB P E loopLim fn kp p) s = (ev P E loopLim fn.ntmps kp (codeAt p (fn.body.getD .skip)) s.1 s.2 ret3).bind fun r => match r.1 with
      | .normal => loopLim (loopB P E loopLim fn kp p) r.2
      | .exit i => some (.exit i, r.2)
      | .ret => some (.ret, r.2) := loopLim_eq _ _
end Go.Proofs.YteipplgcdbaokaaDoor.AM
