/- The machine's steps: operations, regions, code. -/
import Derived.Test.YteipplgcdbaokaaDoorAm0
namespace Go.Proofs.YteipplgcdbaokaaDoor.AM
open Go Go.RowKit

/-- constants -/
def ofCell : Value → Option V
  | .bool b => some (.b b)
  | .int k n => some (.i k n)
  | .string s => some (.s s)
  | .pointer none => some (.p none)
  | .slice none 0 0 => some (.sl ⟨none, 0, .ex 0⟩)
  | .map none => some (.m none)
  | .nilFunc => some .nilFn
  | .nilIface => some .nilI
  | _ => none
def ofCells : List Value → Option (List V)
  | [] => some []
  | x :: xs => (ofCell x).bind fun v => (ofCells xs).bind fun vs => some (v :: vs)
def ofValue : Value → Option V
  | .agg cs => (ofCells cs.toList).map .agg
  | .tuple cs => (ofCells cs.toList).map .tup
  | .func f first captured => match first.toList, captured.toList with | [], [] => some (.fn f [] []) | _, _ => none
  | x => ofCell x

/-- kinds of cells -/
inductive CK where
  | int (k : IntKind) | bool | str | ptr | sl | map | any
def ckD : TypeDesc → CK
  | .int k => .int k
  | .bool => .bool
  | .string => .str
  | .pointer _ => .ptr
  | .slice _ => .sl
  | .map _ _ => .map
  | _ => .any
def kindsGo (g : TypeId → Option (List CK)) : List Field → Option (List CK)
  | [] => some []
  | f :: fs => (g f.type).bind fun l => (kindsGo g fs).bind fun r => some (l ++ r)
def kinds (P : Program) : Nat → TypeId → Option (List CK)
  | 0, _ => none
  | d + 1, t => match P.underlying t with
    | some (.struct fs) => kindsGo (kinds P d) fs.toList
    | some (.array n e) => (kinds P d e).map fun l => (List.replicate n l).flatten
    | some x => some [ckD x]
    | none => none

/-- what a value is, by kind -/
def V.asI (k : IntKind) : V → Option Int
  | .i k' n => if k' = k then some n else none
  | _ => none
def V.asB : V → Option Bool
  | .b x => some x
  | _ => none
def V.asS : V → Option ByteArray
  | .s x => some x
  | _ => none
def V.asP : V → Option (Option (Nat × Nat))
  | .p x => some x
  | _ => none
def V.asSl : V → Option Sl
  | .sl x => some x
  | _ => none
def V.asM : V → Option (Option Nat)
  | .m x => some x
  | _ => none
def V.asAgg : V → Option (List V)
  | .agg x => some x
  | _ => none
def exC {R : Type} (c : CK) (v : V) (K : V → Option R) : Option R :=
  match c with
  | .int k => (v.asI k).bind fun x => K (.i k x)
  | .bool => v.asB.bind fun x => K (.b x)
  | .str => v.asS.bind fun x => K (.s x)
  | .ptr => v.asP.bind fun x => K (.p x)
  | .sl => v.asSl.bind fun x => K (.sl x)
  | .map => v.asM.bind fun x => K (.m x)
  | .any => if v.one then K v else none

def Heap.ld (H : Heap) (id off : Nat) : Option V := match H.get id with
  | some (.cells vs _ _) => vs[off]?
  | _ => none
def Heap.ldI (H : Heap) (k : IntKind) (id off : Nat) : Option Int := (H.ld id off).bind (V.asI k)
def Heap.ldB (H : Heap) (id off : Nat) : Option Bool := (H.ld id off).bind V.asB
def Heap.ldS (H : Heap) (id off : Nat) : Option ByteArray := (H.ld id off).bind V.asS
def Heap.ldP (H : Heap) (id off : Nat) : Option (Option (Nat × Nat)) := (H.ld id off).bind V.asP
def Heap.ldSl (H : Heap) (id off : Nat) : Option Sl := (H.ld id off).bind V.asSl
def Heap.ldM (H : Heap) (id off : Nat) : Option (Option Nat) := (H.ld id off).bind V.asM
/-- n cells -/
def Heap.lds (H : Heap) (id off n : Nat) : Option (List V) := match H.get id with
  | some (.cells vs _ _) => if off + n ≤ vs.length then some ((vs.drop off).take n) else none
  | _ => none
def ldC {R : Type} (H : Heap) (c : CK) (id off : Nat) (K : V → Option R) : Option R :=
  match c with
  | .int k => (H.ldI k id off).bind fun x => K (.i k x)
  | .bool => (H.ldB id off).bind fun x => K (.b x)
  | .str => (H.ldS id off).bind fun x => K (.s x)
  | .ptr => (H.ldP id off).bind fun x => K (.p x)
  | .sl => (H.ldSl id off).bind fun x => K (.sl x)
  | .map => (H.ldM id off).bind fun x => K (.m x)
  | .any => (H.ld id off).bind fun v => if v.one then K v else none
def ldCs {R : Type} (H : Heap) : List CK → Nat → Nat → (List V → Option R) → Option R
  | [], _, _, K => K []
  | c :: cs, id, off, K => ldC H c id off fun v => ldCs H cs id (off + 1) fun vs => K (v :: vs)
def isAggD : TypeDesc → Bool
  | .struct _ | .array _ _ => true
  | _ => false
/-- a variable of type t -/
def ldT {R : Type} (P : Program) (H : Heap) (t : TypeId) (id off : Nat) (K : V → Option R) : Option R :=
  match P.underlying t with
  | some d =>
    if isAggD d then
      match kinds P 30 t with
      | some ks => if ks.length = P.cellsOf t then (if ks.length ≤ 48 then ldCs H ks id off fun vs => K (.agg vs) else (H.lds id off ks.length).bind fun vs => K (.agg vs)) else none
      | none => none
    else ldC H (ckD d) id off K
  | none => none
def exCs {R : Type} : List CK → List V → (List V → Option R) → Option R
  | [], [], K => K []
  | c :: cs, v :: vs, K => exC c v fun v => exCs cs vs fun vs => K (v :: vs)
  | _, _, _ => none

/-- one cell is written -/
def Heap.st (H : Heap) (id off : Nat) (v : V) : Option Heap := match H.get id with
  | some (.cells vs e false) => if off < vs.length then (if v.one then some (H.put id (.cells (vs.set off v) e false)) else none) else none
  | _ => none
def splice (vs : List V) (off : Nat) (l : List V) : List V := vs.take off ++ l ++ vs.drop (off + l.length)
def Heap.sts (H : Heap) (id off : Nat) (l : List V) : Option Heap := match H.get id with
  | some (.cells vs e false) => if off + l.length ≤ vs.length then (if l.all V.one then some (H.put id (.cells (splice vs off l) e false)) else none) else none
  | _ => none
def stT {R : Type} (P : Program) (H : Heap) (t : TypeId) (id off : Nat) (v : V) (K : Heap → Option R) : Option R :=
  match P.underlying t with
  | none => none
  | some _ => match v with
    | .agg l => if l.length = P.cellsOf t then (H.sts id off l).bind K else none
    | v => if P.cellsOf t = 1 then (H.st id off v).bind K else none

/-- the value of a type's zero -/
def zeroV (P : Program) (t : TypeId) : Option V := ((P.info? t).bind (·.zero)).bind ofValue

/-- functions by number -/
def Fun := (R : Type) → List V → Heap → (V → Heap → Option R) → Option R
abbrev FEnv := List (Nat × Fun)
def FEnv.call {R : Type} : FEnv → FuncId → List V → Heap → (V → Heap → Option R) → Option R
  | [], _, _, _, _ => none
  | (g, F) :: E, f, args, H, K => if f = g then F R args H K else FEnv.call E f args H K

def ifNil : V → Option Bool
  | .nilI => some true
  | .ifc _ _ => some false
  | _ => none
def fnNil : V → Option Bool
  | .nilFn => some true
  | .fn (.func _) _ _ => some false
  | _ => none
/-- one of two ways -/
@[macro_inline] def sel {R : Type} (x : Bool) (a b : Option R) : Option R := match x with
  | true => a
  | false => b
def selB (x a b : Bool) : Bool := match x with
  | true => a
  | false => b

def strLess (x y : ByteArray) : Bool := Op.bytesLess x.toList y.toList
def strEq (x y : ByteArray) : Bool := x.toList == y.toList

def eqGo (P : Program) (E : TypeId → V → V → Option Bool) : List Field → List V → List V → Option Bool
  | [], _, _ => some true
  | f :: fs, xs, ys =>
    if f.name = "_" then none
    else match P.underlying f.type with
      | some u =>
        if isAggD u then
          (if f.offset + P.cellsOf f.type ≤ xs.length ∧ f.offset + P.cellsOf f.type ≤ ys.length then
            (E f.type (.agg ((xs.drop f.offset).take (P.cellsOf f.type))) (.agg ((ys.drop f.offset).take (P.cellsOf f.type)))).bind fun r => (eqGo P E fs xs ys).bind fun q => some (r && q)
           else none)
        else match xs[f.offset]?, ys[f.offset]? with
          | some x, some y => (E f.type x y).bind fun r => (eqGo P E fs xs ys).bind fun q => some (r && q)
          | _, _ => none
      | none => none
/-- '==' -/
def eqV (P : Program) : Nat → TypeId → V → V → Option Bool
  | 0, _, _, _ => none
  | d + 1, t, x, y => match P.underlying t with
    | some .bool => x.asB.bind fun a => y.asB.bind fun b => some (a == b)
    | some (.int k) => (x.asI k).bind fun a => (y.asI k).bind fun b => some (a == b)
    | some .string => x.asS.bind fun a => y.asS.bind fun b => some (strEq a b)
    | some (.pointer _) => x.asP.bind fun a => y.asP.bind fun b => if b.isNone then some a.isNone else if a.isNone then some false else none
    | some (.slice _) => x.asSl.bind fun a => y.asSl.bind fun b => if b.a.isNone then some a.a.isNone else if a.a.isNone then some false else none
    | some (.map _ _) => x.asM.bind fun a => y.asM.bind fun b => if b.isNone then some a.isNone else if a.isNone then some false else none
    | some (.interface _) => (ifNil x).bind fun a => (ifNil y).bind fun b => if b then some a else if a then some false else none
    | some (.func _ _ _) => (fnNil x).bind fun a => (fnNil y).bind fun b => if b then some a else if a then some false else none
    | some (.struct fs) => if P.stoodInHeld t then none else x.asAgg.bind fun xs => y.asAgg.bind fun ys => eqGo P (eqV P d) fs.toList xs ys
    | _ => none

def bvAnd (k : IntKind) (n m : Int) : Int := k.wrap (BitVec.ofInt k.bits n &&& BitVec.ofInt k.bits m).toNat
def bvOr (k : IntKind) (n m : Int) : Int := k.wrap (BitVec.ofInt k.bits n ||| BitVec.ofInt k.bits m).toNat
def bvXor (k : IntKind) (n m : Int) : Int := k.wrap (BitVec.ofInt k.bits n ^^^ BitVec.ofInt k.bits m).toNat
def bvAndNot (k : IntKind) (n m : Int) : Int := k.wrap (BitVec.ofInt k.bits n &&& ~~~ BitVec.ofInt k.bits m).toNat
def shlI (k : IntKind) (n m : Int) : Int := k.wrap (n * 2 ^ (min m.toNat k.bits))
def shrI (k : IntKind) (n m : Int) : Int := n.fdiv (2 ^ (min m.toNat k.bits))

def evInt {R : Type} (op : BinOp) (k : IntKind) (n m : Int) (K : V → Option R) : Option R :=
  match op with
  | .add => K (.i k (k.wrap (n + m)))
  | .sub => K (.i k (k.wrap (n - m)))
  | .mul => K (.i k (k.wrap (n * m)))
  | .quo => if m = 0 then none else K (.i k (k.wrap (n.tdiv m)))
  | .rem => if m = 0 then none else K (.i k (n.tmod m))
  | .and => K (.i k (bvAnd k n m))
  | .or => K (.i k (bvOr k n m))
  | .xor => K (.i k (bvXor k n m))
  | .andNot => K (.i k (bvAndNot k n m))
  | .eql => K (.b (n == m))
  | .neq => K (.b (n != m))
  | .lss => K (.b (decide (n < m)))
  | .leq => K (.b (decide (n ≤ m)))
  | .gtr => K (.b (decide (n > m)))
  | .geq => K (.b (decide (n ≥ m)))
  | _ => none
/-- two texts, one behind the other -/
def catS {R : Type} (x y : ByteArray) (K : ByteArray → Option R) : Option R := if x.size + y.size ≤ 9223372036854775807 then K (x ++ y) else none
def evStr {R : Type} (op : BinOp) (x y : ByteArray) (K : V → Option R) : Option R :=
  match op with
  | .add => catS x y fun z => K (.s z)
  | .eql => K (.b (strEq x y))
  | .neq => K (.b (!strEq x y))
  | .lss => K (.b (strLess x y))
  | .leq => K (.b (strLess x y || strEq x y))
  | .gtr => K (.b (!(strLess x y || strEq x y)))
  | .geq => K (.b (!strLess x y))
  | _ => none
def evBin {R : Type} (P : Program) (op : BinOp) (t : TypeId) (cst : Bool) (a b : V) (K : V → Option R) : Option R :=
  match P.underlying t with
  | some (.int k) =>
    match op with
    | .shl => (a.asI k).bind fun n => match b with | .i _ m => if m < 0 then none else K (.i k (shlI k n m)) | _ => none
    | .shr => (a.asI k).bind fun n => match b with | .i _ m => if m < 0 then none else K (.i k (shrI k n m)) | _ => none
    | op => (a.asI k).bind fun n => (b.asI k).bind fun m => evInt op k n m K
  | some .string => a.asS.bind fun x => b.asS.bind fun y => evStr op x y K
  | some (.interface _) =>
    match op with
    | .eql => (ifNil b).bind fun y => if y && cst then (ifNil a).bind fun x => K (.b x) else none
    | .neq => (ifNil b).bind fun y => if y && cst then (ifNil a).bind fun x => K (.b (!x)) else none
    | _ => none
  | some _ =>
    match op with
    | .eql => if P.eqGuardType P.depth t then none else (eqV P 30 t a b).bind fun r => K (.b r)
    | .neq => if P.eqGuardType P.depth t then none else (eqV P 30 t a b).bind fun r => K (.b (!r))
    | _ => none
  | none => none

/-- a byte of a string -/
def btAt (s : ByteArray) (n : Int) : Int := ((s.data.toList.getD n.toNat 0).toNat : Int)

/-- s[lo:hi:mx] -/
def slOf {R : Type} (sz : Nat) (x : Sl) (lo hi mx : Option Int) (K : Sl → Option R) : Option R :=
  let l := lo.getD 0
  let h := hi.getD x.len
  if (mx.isSome && hi.isNone) = true then none else
  match x.cap with
  | .ex c =>
    let m := mx.getD c
    if 0 ≤ l ∧ l ≤ h ∧ h ≤ m ∧ m ≤ c then
      K ⟨if m = l then x.a else x.a.map fun p => (p.1, p.2 + l.toNat * sz), (h - l).toNat, .ex (m - l).toNat⟩
    else none
  | .op s =>
    if s = sz then
      match mx with
      | none => if 0 ≤ l ∧ l ≤ h ∧ h ≤ x.len then K ⟨x.a.map fun p => (p.1, p.2 + l.toNat * sz), (h - l).toNat, .op sz⟩ else none
      | some m => if 0 ≤ l ∧ l ≤ h ∧ h ≤ m ∧ m ≤ x.len then K ⟨if m = l then x.a else x.a.map fun p => (p.1, p.2 + l.toNat * sz), (h - l).toNat, .ex (m - l).toNat⟩ else none
    else none
def intOpt (val : Operand → Option V) : Option Operand → Option (Option Int)
  | none => some none
  | some x => match val x with
    | some (.i _ n) => some (some n)
    | _ => none
/-- substring -/
def subS (s : ByteArray) (l h : Int) : ByteArray := s.extract l.toNat h.toNat

/-- cells of a slice -/
def slCells (H : Heap) (sz : Nat) (x : Sl) : Option (List V) :=
  if x.len * sz = 0 then some [] else match x.a with
  | none => none
  | some (id, off) => H.lds id off (x.len * sz)
def bytesOfCells : List V → Option (List UInt8)
  | [] => some []
  | .i .u8 n :: vs => (bytesOfCells vs).bind fun r => some (UInt8.ofNat n.toNat :: r)
  | _ :: _ => none
def cellsOfBytes (s : ByteArray) : List V := s.data.toList.map fun x => .i .u8 x.toNat
def slBytes (H : Heap) (x : Sl) : Option ByteArray := (slCells H 1 x).bind fun vs => (bytesOfCells vs).bind fun l => some ⟨l.toArray⟩

def Tr.del : Nat → Tr → Nat → Tr
  | 0, t, _ => t
  | _ + 1, .nil, _ => .nil
  | f + 1, .node x l r, n => match n with
    | 0 => .node none l r
    | n + 1 => if n % 2 = 0 then .node x (Tr.del f l (n / 2)) r else .node x l (Tr.del f r (n / 2))
def Heap.drop (H : Heap) (id : Nat) : Heap := ⟨H.next, Tr.del (id + 1) H.tr id⟩

/-- append: what is added, in cells -/
def appendV {R : Type} (H : Heap) (e : TypeId) (sz bytes : Nat) (x : Sl) (n : Nat) (new : List V) (K : Sl → Heap → Option R) : Option R :=
  if n = 0 then K x H else
  if sz = 0 then none else
  match x.a with
  | none =>
    if (x.len + n) * bytes ≤ 140737488355328 ∧ x.len + n ≤ 9223372036854775807 then K ⟨some (H.next, 0), x.len + n, .op sz⟩ (H.new (.cells new e false)) else none
  | some (id, off) =>
    match x.cap with
    | .ex c =>
      if x.len + n ≤ c then (H.sts id (off + x.len * sz) new).bind fun H' => K ⟨some (id, off), x.len + n, .ex c⟩ H'
      else if (x.len + n) * bytes ≤ 140737488355328 ∧ x.len + n ≤ 9223372036854775807 then
        (slCells H sz x).bind fun old => K ⟨some (H.next, 0), x.len + n, .op sz⟩ (H.new (.cells (old ++ new) e false))
      else none
    | .op s =>
      if s = sz ∧ (x.len + n) * bytes ≤ 140737488355328 ∧ x.len + n ≤ 9223372036854775807 then
        match H.get id with
        | some (.cells vs e' false) =>
          if e' = e then
            (if off + (x.len + n) * sz ≤ vs.length then (H.sts id (off + x.len * sz) new).bind fun H' => K ⟨some (id, off), x.len + n, .op sz⟩ H'
             else if off + x.len * sz ≤ vs.length ∧ new.all V.one = true then K ⟨some (H.next, 0), x.len + n, .op sz⟩ ((H.drop id).new (.cells ((vs.drop off).take (x.len * sz) ++ new) e false)) else none)
          else none
        | _ => none
      else none

/-- maps: the place of a key -/
def findE (P : Program) (kt : TypeId) (k : V) : List (V × V × Nat) → Nat → Option (Option (Nat × V))
  | [], _ => some none
  | (k', v, _) :: es, i => (eqV P 30 kt k k').bind fun r => if r then some (some (i, v)) else findE P kt k es (i + 1)
/-- keys of this type are no interfaces, nor hold any -/
def keyOk (P : Program) : Nat → TypeId → Bool
  | 0, _ => false
  | d + 1, t => match P.underlying t with
    | some .bool | some (.int _) | some .string => true
    | some (.struct fs) => fs.toList.all fun f => f.name != "_" && keyOk P d f.type && decide (f.offset + P.cellsOf f.type ≤ P.cellsOf t) && decide (0 < P.cellsOf f.type)
    | _ => false
def keyV (P : Program) (t : TypeId) (v : V) : Bool := keyOk P 30 t && match P.underlying t with
  | some (.struct _) => match v with
    | .agg vs => decide (vs.length = P.cellsOf t)
    | _ => false
  | _ => true
def keySames : List V → List V → Bool
  | [], [] => true
  | .b x :: vs, .b y :: us => decide (x = y) && keySames vs us
  | .i k x :: vs, .i j y :: us => decide (k = j) && decide (x = y) && keySames vs us
  | .s x :: vs, .s y :: us => decide (x = y) && keySames vs us
  | _, _ => false
def keySame (k k' : V) : Bool := match k, k' with
  | .agg x, .agg y => keySames x y
  | _, _ => true

/-- the method of a dynamic type: a pointer's own method, or one of a struct that it embeds -/
def methodV (P : Program) (t : TypeId) (v : V) (name : String) : Option (FuncId × V) :=
  match (P.info? t).bind fun i => i.methods.find? (·.name == name) with
  | some m =>
    match m.func with
    | some (f, true) =>
      match m.path.toList with
      | [] => match P.underlying t with
        | some (.pointer _) => some (f, v)
        | _ => none
      | [s] =>
        if s.deref then
          match P.underlying s.struct with
          | some (.struct fs) => match fs[s.index]? with
            | some fd =>
              match P.underlying fd.type with
              | some (.pointer _) => none
              | some _ => if P.cellsOf fd.type = 0 then none else match v with
                | .p (some (id, off)) => some (f, .p (some (id, off + fd.offset)))
                | _ => none
              | none => none
            | none => none
          | _ => none
        else none
      | _ => none
    | some (f, false) =>
      match m.path.toList with
      | [] => match P.underlying t with
        | some (.pointer _) => none
        | some _ => some (f, v)
        | none => none
      | _ => none
    | none => none
  | none => none

abbrev Fr := List (Nat × V)
def fget : Fr → Nat → Option V
  | [], _ => none
  | (k, v) :: fr, t => if t = k then some v else fget fr t
def fset : Fr → Nat → V → Fr
  | [], t, v => [(t, v)]
  | (k, u) :: fr, t, v => if t = k then (k, v) :: fr else (k, u) :: fset fr t v
def fdel : Fr → Nat → Fr
  | [], _ => []
  | (k, u) :: fr, t => if t = k then fdel fr t else (k, u) :: fdel fr t
def fkeep (fr : Fr) : List Nat → Fr
  | [] => []
  | t :: ts => match fget fr t with
    | some v => (t, v) :: fkeep fr ts
    | none => fkeep fr ts

def evalO (fr : Fr) : Operand → Option V
  | .tmp t => fget fr t
  | .const v => ofValue v
  | .func f => some (.fn (.func f) [] [])
  | .global _ => none
def evalL (val : Operand → Option V) : List Operand → Option (List V)
  | [] => some []
  | x :: xs => (val x).bind fun v => (evalL val xs).bind fun vs => some (v :: vs)
def isConstO : Operand → Bool
  | .const _ => true
  | _ => false

/-- parts of a struct or an array put into its cells -/
def fillV (place : Nat → Option (Nat × Nat)) (cells : List V) : List (Nat × V) → Option (List V)
  | [] => some cells
  | (i, v) :: rest => match place i with
    | none => none
    | some (off, size) => if v.cells.length ≠ size || off + v.cells.length > cells.length then none else fillV place (splice cells off v.cells) rest
def evalP (val : Operand → Option V) : List (Nat × Operand) → Option (List (Nat × V))
  | [] => some []
  | (i, x) :: xs => (val x).bind fun v => (evalP val xs).bind fun vs => some ((i, v) :: vs)
def zeroCellsV (P : Program) (t : TypeId) (n : Nat) : Option (List V) :=
  if n * P.cellsOf t = 0 then some [] else (zeroV P t).bind fun z => if z.cells.length = P.cellsOf t then some (List.replicate n z.cells).flatten else none

/-- a slice with room, of the machine's own -/
def Sl.here (x : Sl) (H : Heap) : Bool := (match x.cap with
  | .ex c => c != 0
  | .op _ => x.len != 0) && match x.a with
  | some (id, _) => (match H.get id with
    | some (.cells _ _ false) => true
    | _ => false)
  | none => false
/-- a part of an aggregate -/
def partV {R : Type} (P : Program) (t : TypeId) (cs : List V) (off : Nat) (K : V → Option R) : Option R :=
  match P.underlying t with
  | some d => if isAggD d then (if off + P.cellsOf t ≤ cs.length then K (.agg ((cs.drop off).take (P.cellsOf t))) else none) else
    match cs[off]? with
    | some v => K v
    | none => none
  | none => none
/-- what is read out of a map -/
def exT {R : Type} (P : Program) (t : TypeId) (v : V) (K : V → Option R) : Option R :=
  match P.underlying t with
  | some d =>
    if isAggD d then
      match kinds P 30 t with
      | some ks => if ks.length ≤ 48 then v.asAgg.bind fun vs => exCs ks vs fun vs => K (.agg vs) else v.asAgg.bind fun vs => K (.agg vs)
      | none => none
    else exC (ckD d) v K
  | none => none

def getMap (H : Heap) : Option Nat → Option (List (V × V × Nat) × Nat)
  | none => some ([], 0)
  | some id => match H.get id with
    | some (.map es c) => some (es, c)
    | _ => none

/-- bytes of an own object -/
def unsafeBytes (P : Program) (H : Heap) (e' : TypeId) (id off n : Nat) : Option ByteArray := match H.get id with
  | some (.cells vs e false) => if e = e' ∧ P.cellsOf e = 1 ∧ off + n ≤ vs.length then (bytesOfCells ((vs.drop off).take n)).bind fun l => some ⟨l.toArray⟩ else none
  | _ => none
/-- a type whose zero is known, of its size -/
def zOk (P : Program) (e : TypeId) : Bool := match zeroV P e with
  | some z => decide (z.cells.length = P.cellsOf e)
  | none => false

def minV {R : Type} (mx : Bool) : V → List V → (V → Option R) → Option R
  | v, [], K => K v
  | .i k x, .i _ y :: vs, K => minV mx (.i k (if mx then (if y > x then y else x) else (if y < x then y else x))) vs K
  | _, _, _ => none

def sliceData {R : Type} (s : Sl) (H : Heap) (K : Option (Nat × Nat) → Heap → Option R) : Option R := match s.a with
  | none => K none H
  | some q => match s.cap with
    | .ex c => if c = 0 then none else K (some q) H
    | .op _ => if s.len = 0 then none else K (some q) H
def unsafeStr {R : Type} (P : Program) (H : Heap) (t : TypeId) (p : Option (Nat × Nat)) (n : Int) (K : ByteArray → Heap → Option R) : Option R :=
  if n = 0 then K ByteArray.empty H else match p with
  | none => none
  | some q => match P.underlying t with
    | some (.pointer e') => (unsafeBytes P H e' q.1 q.2 n.toNat).bind fun s => if 0 < n ∧ n ≤ 9223372036854775807 then K s (H.drop q.1) else none
    | _ => none
def evBuiltin {R : Type} (P : Program) (H : Heap) (b : Builtin) (ts : List TypeId) (args : List V) (K : V → Heap → Option R) : Option R :=
  match b, ts, args with
  | .len, [t], [x] => match P.underlying t with
    | some .string => x.asS.bind fun s => K (.i .i64 s.size) H
    | some (.slice _) => x.asSl.bind fun s => K (.i .i64 s.len) H
    | some (.array n _) => K (.i .i64 n) H
    | some (.map _ _) => x.asM.bind fun r => (getMap H r).bind fun m => K (.i .i64 m.1.length) H
    | _ => none
  | .cap, [t], [x] => match P.underlying t with
    | some (.slice _) => x.asSl.bind fun s => match s.cap with | .ex c => K (.i .i64 c) H | _ => none
    | _ => none
  | .append, [t, u], [x, y] => match P.underlying t with
    | some (.slice e) => if (zOk P e && !exactT e) = true then x.asSl.bind fun x => match P.underlying u with
      | some (.slice _) => y.asSl.bind fun y => (slCells H (P.cellsOf e) y).bind fun new => appendV H e (P.cellsOf e) (P.bytesOf e) x y.len new fun r H => K (.sl r) H
      | some .string => if P.cellsOf e ≠ 1 then none else y.asS.bind fun y => appendV H e (P.cellsOf e) (P.bytesOf e) x y.size (cellsOfBytes y) fun r H => K (.sl r) H
      | some (.int _) => match y with
        | .i _ n => if 0 ≤ n ∧ n ≤ 9223372036854775807 ∧ n * P.bytesOf e ≤ 281474976710656 then (zeroCellsV P e n.toNat).bind fun new => appendV H e (P.cellsOf e) (P.bytesOf e) x n.toNat new fun r H => K (.sl r) H else none
        | _ => none
      | _ => none
      else none
    | _ => none
  | .copy, [t, u], [x, y] => match P.underlying t with
    | some (.slice e) => if (P.underlying e).isNone then none else x.asSl.bind fun x => match P.underlying u with
      | some (.slice _) => y.asSl.bind fun y => (slCells H (P.cellsOf e) ⟨y.a, min y.len x.len, y.cap⟩).bind fun new => match x.a with
        | some (id, off) => if new.length = 0 then K (.i .i64 (min y.len x.len : Nat)) H else (H.sts id off new).bind fun H' => K (.i .i64 (min y.len x.len : Nat)) H'
        | none => K (.i .i64 (min y.len x.len : Nat)) H
      | some .string => if P.cellsOf e ≠ 1 then none else y.asS.bind fun y => match x.a with
        | some (id, off) => if min y.size x.len = 0 then K (.i .i64 (min y.size x.len : Nat)) H else (H.sts id off ((cellsOfBytes y).take (min y.size x.len))).bind fun H' => K (.i .i64 (min y.size x.len : Nat)) H'
        | none => K (.i .i64 (min y.size x.len : Nat)) H
      | _ => none
    | _ => none
  | .min, _, x :: xs => minV false x xs fun v => K v H
  | .max, _, x :: xs => minV true x xs fun v => K v H
  | .delete, [t], [m, k] => match P.underlying t with
    | some (.map kt _) => if keyV P kt k then m.asM.bind fun r => match r with
      | none => K (.tup []) H
      | some id => (getMap H (some id)).bind fun mm => (findE P kt k mm.1 0).bind fun q => match q with
        | some (j, _) => K (.tup []) (H.put id (.map (mm.1.eraseIdx j) mm.2))
        | none => K (.tup []) H
      else none
    | _ => none
  | .delete, [t, _], [m, k] => match P.underlying t with
    | some (.map kt _) => if keyV P kt k then m.asM.bind fun r => match r with
      | none => K (.tup []) H
      | some id => (getMap H (some id)).bind fun mm => (findE P kt k mm.1 0).bind fun q => match q with
        | some (j, _) => K (.tup []) (H.put id (.map (mm.1.eraseIdx j) mm.2))
        | none => K (.tup []) H
      else none
    | _ => none
  | .clear, [_], [_] => none
  | .unsafeSliceData, [_], [x] => x.asSl.bind fun s => sliceData s H fun p H => K (.p p) H
  | .unsafeString, [t, _], [p, n] => match n with
    | .i .i64 n => p.asP.bind fun p => unsafeStr P H t p n fun s H => K (.s s) H
    | _ => none
  | _, _, _ => none

def mapSet {R : Type} (P : Program) (H : Heap) (t : TypeId) (m k v : V) (K : V → Heap → Option R) : Option R :=
  match P.underlying t with
  | some (.map kt _) => if keyV P kt k then m.asM.bind fun r => match r with
    | none => none
    | some id => (getMap H (some id)).bind fun mm => (findE P kt k mm.1 0).bind fun q => match q with
      | some (j, _) => match mm.1[j]? with
        | some (k', _, born) => if keySame k k' then K (.tup []) (H.put id (.map (mm.1.set j (k, v, born)) mm.2)) else none
        | none => none
      | none => K (.tup []) (H.put id (.map (mm.1 ++ [(k, v, mm.2)]) (mm.2 + 1)))
    else none
  | _ => none
def findBorn (n : Int) : List (V × V × Nat) → Nat → Option Nat
  | [], _ => none
  | (_, _, b) :: es, i => if (b : Int) = n then some i else findBorn n es (i + 1)

def placesOf (P : Program) : List Field → Option (List (Nat × Nat))
  | [] => some []
  | f :: fs => (P.info? f.type).bind fun i => (placesOf P fs).bind fun r => some ((f.offset, i.size) :: r)

def invk {R : Type} (P : Program) (E : FEnv) (v : V) (name : String) (args : List V) (H : Heap) (K : V → Heap → Option R) : Option R :=
  match v with
  | .ifc t x => match methodV P t x name with
    | some (f, r) => E.call f (r :: args) H K
    | none => none
  | _ => none

def notNil : V → Bool
  | .ifc _ _ => true
  | .fn (.func _) _ _ => true
  | _ => false
/-- the method value of this interface value is no method of a nil pointer -/
def methNotNil (P : Program) (r : V) (name : String) : Bool := match r with
  | .ifc t v => match (P.info? t).bind fun i => i.methods.find? (·.name == name) with
    | some m => match m.func, m.path.toList with
      | some (_, true), [] => true
      | some (_, false), [] => match P.underlying t with
        | some (.pointer _) => false
        | some _ => true
        | none => false
      | some (_, true), [s] => s.deref && match P.underlying s.struct with
        | some (.struct fs) => match fs[s.index]? with
          | some _ => match v with
            | .p (some _) => true
            | _ => false
          | none => false
        | _ => false
      | _, _ => false
    | none => false
  | _ => false
def nilCk {R : Type} (P : Program) (v : V) (K : V → Option R) : Option R := match v with
  | .p x => x.bind fun q => K (.p (some q))
  | .fn (.method name) [r] c => if methNotNil P r name then K (.fn (.method name) [r] c) else none
  | v => if notNil v then K v else none

def callV {R : Type} (E : FEnv) (f : V) (args : List V) (H : Heap) (K : V → Heap → Option R) : Option R :=
  match f with
  | .fn (.func g) first captured => E.call g (first ++ args ++ captured) H K
  | _ => none

/-- a call's results, by their kinds -/
def exRs {R : Type} (P : Program) : List TypeId → List V → (List V → Option R) → Option R
  | [], [], K => K []
  | t :: ts, v :: vs, K => exT P t v fun v => exRs P ts vs fun vs => K (v :: vs)
  | _, _, _ => none
def exR {R : Type} (P : Program) (t : TypeId) (v : V) (K : V → Option R) : Option R :=
  match P.underlying t with
  | some (.tuple ts) => match v with
    | .tup vs => exRs P ts.toList vs fun vs => K (.tup vs)
    | _ => none
  | _ => exT P t v K

/-- the next entry of a range over a map, where there is but one way to go on -/
def nextV {R : Type} (H : Heap) (i : Nat) (K : V → Heap → Option R) : Option R :=
  match H.get i with
  | some (.miter (some id) since seen stepped) => (getMap H (some id)).bind fun mm =>
    if (mm.1.all fun e => decide (e.2.2 < since)) = true ∧ since ≤ stepped then
      match mm.1.filter fun e => !seen.contains e.2.2 with
      | [] => K (.tup [.b false]) H
      | [e] => K (.tup [.b true, e.1, e.2.1]) (H.put i (.miter (some id) since (seen ++ [e.2.2]) mm.2))
      | _ => none
    else none
  | _ => none
def uniqB : List Nat → Bool
  | [] => true
  | x :: xs => !xs.contains x && uniqB xs
/-- the entry that the range has come to -/
def entryV {R : Type} (H : Heap) (i : Nat) (K : V → Heap → Option R) : Option R :=
  match H.get i with
  | some (.miter (some id) _ seen stepped) => (getMap H (some id)).bind fun mm =>
    if mm.2 = stepped ∧ uniqB (mm.1.map fun e => e.2.2) = true then
      match seen.reverse with
      | b :: _ => match mm.1.find? fun e => decide (e.2.2 = b) with
        | some e => K (.tup [e.1, e.2.1]) H
        | none => none
      | [] => none
    else none
  | _ => none
/-- one operation -/
def evOp {R : Type} (P : Program) (E : FEnv) (val : Operand → Option V) (H : Heap) (o : Op) (ty : TypeId) (K : V → Heap → Option R) : Option R :=
  match o with
  | .move x | .assign x => (val x).bind fun v => K v H
  | .pick c a b => (val c).bind fun c => match c with
    | .b x => match val a, val b with
      | some (.b p), some (.b q) => K (.b (selB x p q)) H
      | a, b => sel x (a.bind fun a => K a H) (b.bind fun b => K b H)
    | _ => none
  | .alloc e => (zeroV P e).bind fun z => K (.p (some (H.next, 0))) (H.new (.cells z.cells e false))
  | .box e x => (val x).bind fun v => K (.p (some (H.next, 0))) (H.new (.cells v.cells e false))
  | .build t parts => (zeroV P t).bind fun z => (evalP val parts.toList).bind fun ps =>
    match P.underlying t with
    | some (.struct fs) => (placesOf P fs.toList).bind fun pl => (fillV (fun i => pl[i]?) z.cells ps).bind fun cs => K (.agg cs) H
    | some (.array _ e) => if (P.underlying e).isNone then none else (fillV (fun i => some (i * P.cellsOf e, P.cellsOf e)) z.cells ps).bind fun cs => K (.agg cs) H
    | _ => none
  | .buildSlice t len parts => match P.underlying t with
    | some (.slice e) => if (P.underlying e).isNone then none else if len * P.cellsOf e > 2 ^ 24 then none else
      (zeroCellsV P e len).bind fun z => (evalP val parts.toList).bind fun ps =>
      (fillV (fun i => some (i * P.cellsOf e, P.cellsOf e)) z ps).bind fun cs => K (.sl ⟨some (H.next, 0), len, .ex len⟩) (H.new (.cells cs e false))
    | _ => none
  | .load t a => (val a).bind fun a => match a with
    | .p x => (x : Option (Nat × Nat)).bind fun q => ldT P H t q.1 q.2 fun v => K v H
    | _ => none
  | .store t a x => (val a).bind fun a => (val x).bind fun v => match a with
    | .p x => (x : Option (Nat × Nat)).bind fun q => stT P H t q.1 q.2 v fun H => K (.tup []) H
    | _ => none
  | .nilCheck x => (val x).bind fun v => nilCk P v fun v => K v H
  | .binOp op t x y _ => (val x).bind fun a => (val y).bind fun b => evBin P op t (isConstO x || isConstO y) a b fun v => K v H
  | .unOp op t x => (val x).bind fun v => match op with
    | .not => v.asB.bind fun b => K (.b (!b)) H
    | .neg => match P.underlying t with
      | some (.int k) => (v.asI k).bind fun n => K (.i k (k.wrap (0 - n))) H
      | _ => none
    | .xor => match P.underlying t with
      | some (.int k) => (v.asI k).bind fun n => K (.i k (bvXor k (if k.signed then -1 else k.max) n)) H
      | _ => none
    | _ => none
  | .convert src dst x => (val x).bind fun v => match P.underlying src, P.underlying dst with
    | some (.int k0), some (.int k) => (v.asI k0).bind fun n => K (.i k (k.wrap n)) H
    | some .string, some .string => v.asS.bind fun s => K (.s s) H
    | some .string, some (.slice e) => match P.underlying e, exactT e with
      | some (.int .u8), false => v.asS.bind fun s => if s.size ≤ 140737488355328 then K (.sl ⟨some (H.next, 0), s.size, .op 1⟩) (H.new (.cells (cellsOfBytes s) e false)) else none
      | _, _ => none
    | some (.slice e), some .string => match P.underlying e with
      | some (.int .u8) => v.asSl.bind fun x => (slBytes H x).bind fun s => K (.s s) H
      | _ => none
    | some (.slice _), some (.slice e) => match P.underlying e with
      | some (.int .u8) => v.asSl.bind fun x => if src = dst ∧ x.here H = true then K (.sl x) H else none
      | _ => none
    | _, _ => none
  | .makeInterface t x => (val x).bind fun v => match P.underlying t with
    | some (.interface _) => none
    | some _ => K (.ifc t v) H
    | none => none
  | .makeFunc fn first captured => (evalL val first.toList).bind fun a => (evalL val captured.toList).bind fun c => K (.fn fn a c) H
  | .makeMap t r => match r with
    | none => K (.m (some H.next)) (H.new (.map [] 0))
    | some x => (val x).bind fun v => match v, P.underlying t with
      | .i _ _, some (.map _ _) => K (.m (some H.next)) (H.new (.map [] 0))
      | _, _ => none
  | .makeSlice t l c => (val l).bind fun l => (val c).bind fun c => match l, c, P.underlying t with
    | .i _ l, .i _ c, some (.slice e) =>
      if (P.underlying e).isNone then none else
      if 0 ≤ l ∧ l ≤ c ∧ c ≤ 9223372036854775807 ∧ c * P.bytesOf e ≤ 281474976710656 then
        (zeroCellsV P e c.toNat).bind fun z => K (.sl ⟨some (H.next, 0), l.toNat, .ex c.toNat⟩) (H.new (.cells z e false))
      else none
    | _, _, _ => none
  | .slice t x lo hi mx => (val x).bind fun v => (intOpt val lo).bind fun l => (intOpt val hi).bind fun h => (intOpt val mx).bind fun m =>
    match P.underlying t with
    | some .string => match m with
      | none => v.asS.bind fun s => if 0 ≤ l.getD 0 ∧ l.getD 0 ≤ h.getD s.size ∧ h.getD s.size ≤ s.size then K (.s (subS s (l.getD 0) (h.getD s.size))) H else none
      | some _ => none
    | some (.slice e) => if (P.underlying e).isNone then none else v.asSl.bind fun s => slOf (P.cellsOf e) s l h m fun r => K (.sl r) H
    | some (.array n e) => if (P.underlying e).isNone then none else match v with
      | .p x => (x : Option (Nat × Nat)).bind fun q => slOf (P.cellsOf e) ⟨some q, n, .ex n⟩ l h m fun r => K (.sl r) H
      | _ => none
    | _ => none
  | .fieldAddr s x f => (val x).bind fun v => match P.underlying s with
    | some (.struct fs) => match fs.toList[f]? with
      | some fd => if P.cellsOf fd.type = 0 then none else match v with
        | .p x => (x : Option (Nat × Nat)).bind fun q => K (.p (some (q.1, q.2 + fd.offset))) H
        | _ => none
      | none => none
    | _ => none
  | .field t x f => (val x).bind fun v => match P.underlying t with
    | some (.struct fs) => match fs.toList[f]? with
      | some fd => v.asAgg.bind fun cs => partV P fd.type cs fd.offset fun v => K v H
      | none => none
    | _ => none
  | .indexAddr t x ix => (val x).bind fun v => (val ix).bind fun i => match i with
    | .i _ n => match P.underlying t with
      | some (.slice e) => if (P.underlying e).isNone then none else v.asSl.bind fun s => if 0 ≤ n ∧ n < s.len then s.a.bind fun q => K (.p (some (q.1, q.2 + n.toNat * P.cellsOf e))) H else none
      | some (.array len e) => if (P.underlying e).isNone then none else match v with
        | .p x => (x : Option (Nat × Nat)).bind fun q => if 0 ≤ n ∧ n < len then K (.p (some (q.1, q.2 + n.toNat * P.cellsOf e))) H else none
        | _ => none
      | _ => none
    | _ => none
  | .index t x ix => (val x).bind fun v => (val ix).bind fun i => match i with
    | .i _ n => match P.underlying t with
      | some .string => v.asS.bind fun s => if 0 ≤ n ∧ n < s.size then K (.i .u8 (btAt s n)) H else none
      | some (.array len e) => v.asAgg.bind fun cs => if 0 ≤ n ∧ n < len then partV P e cs (n.toNat * P.cellsOf e) fun v => exT P e v fun v => K v H else none
      | _ => none
    | _ => none
  | .lookup t m k ok => (val m).bind fun m => (val k).bind fun k => match P.underlying t with
    | some (.map kt et) => if keyV P kt k then m.asM.bind fun r => (getMap H r).bind fun mm => (findE P kt k mm.1 0).bind fun q => match q with
      | some (_, v) => exT P et v fun v => K (if ok then .tup [v, .b true] else v) H
      | none => (zeroV P et).bind fun z => K (if ok then .tup [z, .b false] else z) H
      else none
    | _ => none
  | .mapUpdate t m k x | .insert t m k x => (val m).bind fun m => (val k).bind fun k => (val x).bind fun v => mapSet P H t m k v K
  | .mapEntry t m k => (val m).bind fun m => (val k).bind fun k => match P.underlying t with
    | some (.map kt et) => if keyV P kt k then m.asM.bind fun r => match r with
      | none => none
      | some id => (getMap H (some id)).bind fun mm => (findE P kt k mm.1 0).bind fun q => match q with
        | some (j, v) => match mm.1[j]? with
          | some (k', _, born) => if keySame k k' then exT P et v fun v => K (.tup [v, .i .i64 born]) (H.put id (.map (mm.1.set j (k, v, born)) mm.2)) else none
          | none => none
        | none => (zeroV P et).bind fun z => K (.tup [z, .i .i64 mm.2]) (H.put id (.map (mm.1 ++ [(k, z, mm.2)]) (mm.2 + 1)))
      else none
    | _ => none
  | .entryStore _ m s x => (val m).bind fun m => (val s).bind fun s => (val x).bind fun v => m.asM.bind fun r => match r, s with
    | some id, .i _ n => (getMap H (some id)).bind fun mm => (findBorn n mm.1 0).bind fun j => match mm.1[j]? with
      | some (k, _, born) => K (.tup []) (H.put id (.map (mm.1.set j (k, v, born)) mm.2))
      | none => none
    | _, _ => none
  | .extract t i => (val t).bind fun v => match v with
    | .tup vs => match vs[i]? with
      | some v => K v H
      | none => none
    | _ => none
  | .call c => (evalL val c.args.toList).bind fun args => match c.callee with
    | .builtin b => evBuiltin P H b c.argTypes.toList args K
    | .invoke r name => (val r).bind fun v => invk P E v name args H fun v H => exR P ty v fun v => K v H
    | .value f => (val f).bind fun f => callV E f args H fun v H => exR P ty v fun v => K v H
  | .range t x => (val x).bind fun v => match P.underlying t with
    | some (.map _ _) => v.asM.bind fun r => r.bind fun id => (getMap H (some id)).bind fun mm => K (.p (some (H.next, 0))) (H.new (.miter (some id) mm.2 [] mm.2))
    | _ => none
  | .next it s => match s with
    | false => (val it).bind fun v => v.asP.bind fun p => p.bind fun q => if q.2 = 0 then nextV H q.1 K else none
    | true => none
  | .entry it => (val it).bind fun v => v.asP.bind fun p => p.bind fun q => if q.2 = 0 then entryV H q.1 K else none
  | _ => none

end Go.Proofs.YteipplgcdbaokaaDoor.AM
