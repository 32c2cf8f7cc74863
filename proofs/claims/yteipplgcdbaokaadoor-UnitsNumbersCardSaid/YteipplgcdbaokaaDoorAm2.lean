/- The machine's steps, further: regions and code. -/
import Derived.Test.YteipplgcdbaokaaDoorAm1
namespace Go.Proofs.YteipplgcdbaokaaDoor.AM
open Go Go.RowKit

def fput (fr : Fr) (d : Option Tmp) (v : V) : Fr := match d with
  | some d => fset fr d v
  | none => fr
def fskip (fr : Fr) (d : Option Tmp) : Fr := match d with
  | some d => fset fr d (.tup [])
  | none => fr
def dstOk (n : Nat) (d : Option Tmp) : Bool := match d with
  | some d => decide (d < n)
  | none => true
/-- the operations of a region, in the order of the text -/
def evOps {R : Type} (P : Program) (E : FEnv) (n : Nat) (all : List Oper) : List Oper → Fr → Heap → (Fr → Heap → Option R) → Option R
  | [], fr, H, K => K fr H
  | o :: rest, fr, H, K =>
    if dstOk n o.dst = false then none else
    match o.guard with
    | none => evOp P E (evalO fr) H o.op o.type fun v H => evOps P E n all rest (fput fr o.dst v) H K
    | some (j, want) => match (all[j]?).bind (·.dst) with
      | some d => match fget fr d with
        | some (.b x) => sel x
            (if want then evOp P E (evalO (fset fr d (.b true))) H o.op o.type fun v H => evOps P E n all rest (fput (fset fr d (.b true)) o.dst v) H K
             else evOps P E n all rest (fskip (fset fr d (.b true)) o.dst) H K)
            (if want then evOps P E n all rest (fskip (fset fr d (.b false)) o.dst) H K
             else evOp P E (evalO (fset fr d (.b false))) H o.op o.type fun v H => evOps P E n all rest (fput (fset fr d (.b false)) o.dst v) H K)
        | some (.tup []) => evOps P E n all rest (fskip fr o.dst) H K
        | _ => none
      | none => none

inductive Ex where
  | normal
  | exit (id : Nat)
  | ret
def kSeq {R : Type} (next : Fr → Heap → Option R) (K : Ex → Fr → Heap → Option R) : Ex → Fr → Heap → Option R
  | .normal, fr, H => next fr H
  | .exit i, fr, H => K (.exit i) fr H
  | .ret, fr, H => K .ret fr H
abbrev LS := Fr × Heap
def loopIter (g : LS → Option (Ex × LS)) : Nat → LS → Option (Ex × LS)
  | 0, _ => none
  | n + 1, s => (g s).bind fun r => match r.1 with
    | .normal => loopIter g n r.2
    | .exit i => some (.exit i, r.2)
    | .ret => some (.ret, r.2)
open Classical in
noncomputable def loopLim (g : LS → Option (Ex × LS)) (s : LS) : Option (Ex × LS) := if h : ∃ r n, loopIter g n s = some r then some h.choose else none

theorem loopIter_mono {g : LS → Option (Ex × LS)} {r : Ex × LS} : ∀ (n m : Nat) (s : LS), n ≤ m → loopIter g n s = some r → loopIter g m s = some r := by
  intro n
  induction n with
  | zero => intro m s _ h; simp [loopIter] at h
  | succ n ih =>
    intro m s hm h
    obtain ⟨m, rfl⟩ : ∃ k, m = k + 1 := ⟨m - 1, by omega⟩
    simp only [loopIter] at h ⊢
    cases hg : g s with
    | none => rw [hg] at h; simp at h
    | some q =>
      rw [hg] at h
      simp only [Option.bind_some] at h ⊢
      cases hq : q.1 with
      | normal => rw [hq] at h; exact ih m _ (by omega) h
      | exit i => rw [hq] at h; exact h
      | ret => rw [hq] at h; exact h
theorem loopLim_of_iter {g : LS → Option (Ex × LS)} {s : LS} {r : Ex × LS} {n : Nat} (h : loopIter g n s = some r) : loopLim g s = some r := by
  have hx : ∃ r n, loopIter g n s = some r := ⟨r, n, h⟩
  unfold loopLim
  rw [dif_pos hx]
  obtain ⟨m, hm⟩ := hx.choose_spec
  have a := loopIter_mono n (max n m) s (by omega) h
  have b := loopIter_mono m (max n m) s (by omega) hm
  rw [a] at b
  exact b.symm
theorem iter_of_loopLim {g : LS → Option (Ex × LS)} {s : LS} {r : Ex × LS} (h : loopLim g s = some r) : ∃ n, loopIter g n s = some r := by
  unfold loopLim at h
  split at h
  · rename_i hx
    obtain ⟨m, hm⟩ := hx.choose_spec
    obtain rfl : hx.choose = r := by simpa using h
    exact ⟨m, hm⟩
  · cases h
theorem loopLim_eq (g : LS → Option (Ex × LS)) (s : LS) : loopLim g s = (g s).bind fun r => match r.1 with
    | .normal => loopLim g r.2
    | .exit i => some (.exit i, r.2)
    | .ret => some (.ret, r.2) := by
  cases hg : g s with
  | none =>
    simp only [Option.bind_none]
    cases hl : loopLim g s with
    | none => rfl
    | some r =>
      obtain ⟨n, hn⟩ := iter_of_loopLim hl
      cases n with
      | zero => simp [loopIter] at hn
      | succ n => simp [loopIter, hg] at hn
  | some q =>
    simp only [Option.bind_some]
    obtain ⟨e, s'⟩ := q
    cases e with
    | normal =>
      simp only []
      cases hl : loopLim g s' with
      | none =>
        cases hl2 : loopLim g s with
        | none => rfl
        | some r =>
          obtain ⟨n, hn⟩ := iter_of_loopLim hl2
          cases n with
          | zero => simp [loopIter] at hn
          | succ n =>
            simp only [loopIter, hg, Option.bind_some] at hn
            rw [loopLim_of_iter hn] at hl; cases hl
      | some r =>
        obtain ⟨n, hn⟩ := iter_of_loopLim hl
        exact loopLim_of_iter (n := n + 1) (by simp only [loopIter, hg, Option.bind_some]; exact hn)
    | exit i => exact loopLim_of_iter (n := 1) (by simp [loopIter, hg])
    | ret => exact loopLim_of_iter (n := 1) (by simp [loopIter, hg])

/-- how loops are run: to the end, or for so many rounds -/
abbrev LRun := (LS → Option (Ex × LS)) → LS → Option (Ex × LS)
def LRun.ok (lr : LRun) : Prop := ∀ g s r, lr g s = some r → ∃ n, loopIter g n s = some r
theorem lim_ok : LRun.ok loopLim := fun _ _ _ h => iter_of_loopLim h
theorem iter_ok (n : Nat) : LRun.ok (fun g => loopIter g n) := fun _ _ _ h => ⟨n, h⟩

def fkp (kp : Nat → Option (List Nat)) (id : Nat) (fr : Fr) : Fr := match kp id with
  | some l => fkeep fr l
  | none => fr
def kBlock {R : Type} (kp : Nat → Option (List Nat)) (id : Nat) (K : Ex → Fr → Heap → Option R) : Ex → Fr → Heap → Option R
  | .normal, fr, H => K .normal (fkp kp (100000 + id) fr) H
  | .exit i, fr, H => if i = id then K .normal fr H else K (.exit i) fr H
  | .ret, fr, H => K .ret fr H
/-- behind a condition -/
def kEnd {R : Type} (kp : Nat → Option (List Nat)) (id : Nat) (K : Ex → Fr → Heap → Option R) : Ex → Fr → Heap → Option R
  | .normal, fr, H => K .normal (fkp kp id fr) H
  | .exit i, fr, H => K (.exit i) fr H
  | .ret, fr, H => K .ret fr H
def condId : Operand → Nat
  | .tmp t => 400000 + t
  | _ => 300001
def ret3 (e : Ex) (fr : Fr) (H : Heap) : Option (Ex × LS) := some (e, (fr, H))

/-- is it the same value, by sight? (numbers, bools, strings, places; rows of such) -/
def V.same1 : V → V → Bool
  | .b x, .b y => decide (x = y)
  | .i k x, .i j y => decide (k = j) && decide (x = y)
  | .s x, .s y => decide (x = y)
  | .p x, .p y => decide (x = y)
  | .sl ⟨a, l, .ex c⟩, .sl ⟨a', l', .ex c'⟩ => decide (a = a') && decide (l = l') && decide (c = c')
  | .sl ⟨a, l, .op c⟩, .sl ⟨a', l', .op c'⟩ => decide (a = a') && decide (l = l') && decide (c = c')
  | .m x, .m y => decide (x = y)
  | .nilFn, .nilFn => true
  | .nilI, .nilI => true
  | .ifc t (.p x), .ifc t' (.p x') => decide (t = t') && decide (x = x')
  | _, _ => false
def sames : List V → List V → Bool
  | [], [] => true
  | v :: vs, u :: us => V.same1 v u && sames vs us
  | _, _ => false
def V.same : V → V → Bool
  | .agg x, .agg y => sames x y
  | x, y => V.same1 x y

/-- does an operation write memory, make any, or call? -/
def effOp : Op → Bool
  | .alloc _ | .box _ _ | .buildSlice _ _ _ | .store _ _ _ | .makeMap _ _ | .makeSlice _ _ _ | .mapUpdate _ _ _ _ | .insert _ _ _ _ | .mapEntry _ _ _ | .entryStore _ _ _ _ => true
  | .convert _ _ _ | .range _ _ | .next _ _ => true
  | .call c => match c.callee with
    | .builtin .len => false
    | .builtin .min => false
    | .builtin .max => false
    | .builtin .cap => false
    | _ => true
  | _ => false
/-- does it read memory? -/
def readOp : Op → Bool
  | .load _ _ | .lookup _ _ _ _ | .entry _ => true
  | .call _ => true
  | _ => false
/-- a conversion to a kind of numbers or to a string writes nothing -/
def effO (P : Program) : Op → Bool
  | .convert _ dst _ => match P.underlying dst with
    | some (.int _) => false
    | some .string => false
    | _ => true
  | o => effOp o
/-- a conversion to a string may read memory -/
def readO (P : Program) : Op → Bool
  | .convert _ dst _ => match P.underlying dst with
    | some .string => true
    | _ => false
  | o => readOp o

def anyEdges (o : Oper) : List Nat := (o.after.toList.filter fun e => Region.binds .any e).map (·.on)
def tblOf (ops : List Oper) : List Nat := ops.foldl (fun acc o => acc ++ [(anyEdges o).foldl (fun s j => s ||| 2 ^ j ||| acc.getD j 0) 0]) []
def hasBit (tbl : List Nat) (j i : Nat) : Bool := (tbl.getD j 0).testBit i
def tblOk (ops : List Oper) (tbl : List Nat) : Bool :=
  (List.range ops.length).all fun j => match ops[j]? with
    | some o => ((anyEdges o).all fun e => decide (e < j)) &&
        (List.range ops.length).all fun i => !hasBit tbl j i || (anyEdges o).any fun e => decide (e = i) || hasBit tbl e i
    | none => true
def tmpsOf (l : List Operand) : List Nat := l.filterMap fun | .tmp t => some t | _ => none
def namesOf (ops : List Oper) (o : Oper) : List Nat := tmpsOf o.op.operands.toList ++ match o.guard with
  | some (g, _) => ((ops[g]?).bind (·.dst)).toList
  | none => []
def clash (ops : List Oper) (x y : Oper) : Bool :=
  (match x.dst with
   | some d => (namesOf ops y).contains d || y.dst == some d
   | none => false) ||
  (match y.dst with
   | some d => (namesOf ops x).contains d
   | none => false)
def effAt (P : Program) (ops : List Oper) (j : Nat) : Bool := match ops[j]? with
  | some o => effO P o.op
  | none => false
def statOk (P : Program) (ops : List Oper) (tbl : List Nat) : Bool :=
  tblOk ops tbl && (List.range ops.length).all fun j => (List.range j).all fun i => hasBit tbl j i || match ops[i]?, ops[j]? with
    | some x, some y => !(clash ops x y || (effO P x.op && effO P y.op))
    | _, _ => false
def loOf (P : Program) (ops : List Oper) (tbl : List Nat) (i : Nat) : Nat := ((List.range ops.length).filter fun j => effAt P ops j && hasBit tbl i j).length
def hiOf (P : Program) (ops : List Oper) (tbl : List Nat) (i : Nat) : Nat := ((List.range ops.length).filter fun j => effAt P ops j && !hasBit tbl j i).length

structure Pend where
  fr : Fr
  o : Op
  ty : TypeId
  v : V
  hi : Nat
def chkHeaps {R : Type} (P : Program) (E : FEnv) (fr : Fr) (o : Op) (ty : TypeId) (v : V) : List Heap → (Unit → Option R) → Option R
  | [], K => K ()
  | H :: hs, K => evOp P E (evalO fr) H o ty fun v' _ => if V.same v v' then chkHeaps P E fr o ty v hs K else none
def chkPends {R : Type} (P : Program) (E : FEnv) (H : Heap) (c : Nat) : List Pend → (Unit → Option R) → Option R
  | [], K => K ()
  | p :: ps, K => if c ≤ p.hi then evOp P E (evalO p.fr) H p.o p.ty fun v' _ => if V.same p.v v' then chkPends P E H c ps K else none else chkPends P E H c ps K

/-- one operation of a region whose order is drawn, taken in the order of the text: what is read must read so at every time that an order allows -/
def dOne {R : Type} (P : Program) (E : FEnv) (all : List Oper) (tbl : List Nat) (o : Oper) (i : Nat) (fr : Fr) (H : Heap) (hs : List Heap) (ps : List Pend)
    (K : Fr → Heap → List Heap → List Pend → Option R) : Option R :=
  if effO P o.op then
    evOp P E (evalO fr) H o.op o.type fun v H' => chkPends P E H' (hs.length + 1) ps fun _ => K (fput fr o.dst v) H' (hs ++ [H]) ps
  else if readO P o.op then
    evOp P E (evalO fr) H o.op o.type fun v _ => chkHeaps P E fr o.op o.type v (hs.drop (loOf P all tbl i)) fun _ =>
      K (fput fr o.dst v) H hs (if hs.length < hiOf P all tbl i then ⟨fr, o.op, o.type, v, hiOf P all tbl i⟩ :: ps else ps)
  else evOp P E (evalO fr) H o.op o.type fun v _ => K (fput fr o.dst v) H hs ps
def dSkip {R : Type} (P : Program) (E : FEnv) (o : Oper) (fr : Fr) (H : Heap) (hs : List Heap) (ps : List Pend)
    (K : Fr → Heap → List Heap → List Pend → Option R) : Option R :=
  if effO P o.op then chkPends P E H (hs.length + 1) ps fun _ => K (fskip fr o.dst) H (hs ++ [H]) ps
  else K (fskip fr o.dst) H hs ps
def evD {R : Type} (P : Program) (E : FEnv) (n : Nat) (all : List Oper) (tbl : List Nat) : List Oper → Nat → Fr → Heap → List Heap → List Pend → (Fr → Heap → Option R) → Option R
  | [], _, fr, H, _, _, K => K fr H
  | o :: rest, i, fr, H, hs, ps, K =>
    if dstOk n o.dst = false then none else
    match o.guard with
    | none => dOne P E all tbl o i fr H hs ps fun fr H hs ps => evD P E n all tbl rest (i + 1) fr H hs ps K
    | some (j, want) => match (all[j]?).bind (·.dst) with
      | some d => match fget fr d with
        | some (.b x) => sel x
            (if want then dOne P E all tbl o i (fset fr d (.b true)) H hs ps fun fr H hs ps => evD P E n all tbl rest (i + 1) fr H hs ps K
             else dSkip P E o (fset fr d (.b true)) H hs ps fun fr H hs ps => evD P E n all tbl rest (i + 1) fr H hs ps K)
            (if want then dSkip P E o (fset fr d (.b false)) H hs ps fun fr H hs ps => evD P E n all tbl rest (i + 1) fr H hs ps K
             else dOne P E all tbl o i (fset fr d (.b false)) H hs ps fun fr H hs ps => evD P E n all tbl rest (i + 1) fr H hs ps K)
        | some (.tup []) => dSkip P E o fr H hs ps fun fr H hs ps => evD P E n all tbl rest (i + 1) fr H hs ps K
        | _ => none
      | none => none

/-- code -/
def ev (P : Program) (E : FEnv) (lr : LRun) (n : Nat) (kp : Nat → Option (List Nat)) : Code → {R : Type} → Fr → Heap → (Ex → Fr → Heap → Option R) → Option R
  | .skip, _, fr, H, K => K .normal fr H
  | .region id ops draw, _, fr, H, K => match draw with
    | false => evOps P E n ops.toList ops.toList fr H fun fr H => K .normal (fkp kp id fr) H
    | true => if statOk P ops.toList (tblOf ops.toList) then evD P E n ops.toList (tblOf ops.toList) ops.toList 0 fr H [] [] fun fr H => K .normal (fkp kp id fr) H else none
  | .seq a b, _, fr, H, K => ev P E lr n kp a fr H (kSeq (fun fr H => ev P E lr n kp b fr H K) K)
  | .cond c a b, _, fr, H, K => match evalO fr c with
    | some (.b x) => sel x (ev P E lr n kp a fr H (kEnd kp (condId c) K)) (ev P E lr n kp b fr H (kEnd kp (condId c) K))
    | _ => none
  | .block id b, _, fr, H, K => ev P E lr n kp b (fkp kp (200000 + id) fr) H (kBlock kp id K)
  | .loop b, _, fr, H, K => (lr (fun s => ev P E lr n kp b s.1 s.2 ret3) (fr, H)).bind fun r => K r.1 r.2.1 r.2.2
  | .exit id, _, fr, H, K => K (.exit id) (fkp kp (100000 + id) fr) H
  | .ret, _, fr, H, K => K .ret (fkp kp 300000 fr) H
  | _, _, _, _, _ => none

/-- a function's results -/
def resOne {R : Type} (P : Program) (fr : Fr) (H : Heap) : ResultVar → (V → Option R) → Option R
  | .tmp t, K => (fget fr t).bind K
  | .cell a t, K => (fget fr a).bind fun v => match v with
    | .p (some (id, off)) => ldT P H t id off K
    | _ => none
def resAll {R : Type} (P : Program) (fr : Fr) (H : Heap) : List ResultVar → (List V → Option R) → Option R
  | [], K => K []
  | r :: rs, K => resOne P fr H r fun v => resAll P fr H rs fun vs => K (v :: vs)
def res {R : Type} (P : Program) (fr : Fr) (H : Heap) (rs : List ResultVar) (K : V → Heap → Option R) : Option R :=
  resAll P fr H rs fun vs => match vs with
    | [v] => K v H
    | vs => K (.tup vs) H
def kFn {R : Type} (P : Program) (rs : List ResultVar) (K : V → Heap → Option R) : Ex → Fr → Heap → Option R
  | .normal, fr, H => res P fr H rs K
  | .ret, fr, H => res P fr H rs K
  | .exit _, _, _ => none
def argFr : Nat → List V → Fr
  | _, [] => []
  | i, v :: vs => (i, v) :: argFr (i + 1) vs
/-- a function -/
def evFn {R : Type} (P : Program) (E : FEnv) (lr : LRun) (fn : Func) (kp : Nat → Option (List Nat)) (args : List V) (H : Heap) (K : V → Heap → Option R) : Option R :=
  if args.length ≤ fn.ntmps then match fn.body with
    | some c => ev P E lr fn.ntmps kp c (argFr 0 args) H (kFn P fn.results.toList K)
    | none => none
  else none

end Go.Proofs.YteipplgcdbaokaaDoor.AM
