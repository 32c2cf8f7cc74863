/- The machine. -/
import Derived.Test.YtnlfkllnmobppaaAmC
/- Local variables: those whose places go nowhere stand beside the slots, not in the heap. -/
namespace Go.Proofs.Ytnlfkllnmobppaa.AM
open Go Go.RowKit
set_option linter.unusedVariables false
set_option linter.unusedSimpArgs false

/- The keys of a frame: below 500000 slots; 500000 + k the cells of the local variable that slot k's operation makes; 1000000 + x: slot x holds a place in a local variable (its number, and which cell). -/
def evalS (fr : Fr) : Operand → Option V
  | .tmp t => match Nat.blt t 500000 with
    | true => fget fr t
    | false => none
  | .const v => ofValue v
  | .func f => some (.fn (.func f) [] [])
  | .global _ => none
def ffilt (p : Nat → Bool) : Fr → Fr
  | [] => []
  | (t, v) :: fr => match p t with
    | true => (t, v) :: ffilt p fr
    | false => ffilt p fr
def adrK (fr : Fr) (x : Nat) : Option (Nat × Nat) := match fget fr (1000000 + x) with
  | some (.p (some q)) => some q
  | _ => none
def adrO (fr : Fr) : Operand → Option (Nat × Nat)
  | .tmp x => adrK fr x
  | _ => none
def locK (fr : Fr) (k : Nat) : Option (List V) := match fget fr (500000 + k) with
  | some (.agg cs) => some cs
  | _ => none
/-- not a place in the local variable k -/
def offA (fr : Fr) (k : Nat) (t : Nat) : Bool := match Nat.blt t 1000000 with
  | true => true
  | false => match fget fr t with
    | some (.p (some q)) => !Nat.beq q.1 k
    | _ => true
def mkLoc (fr : Fr) (d : Nat) (cs : List V) : Fr := fset (fset (fdel (ffilt (offA fr d) fr) d) (500000 + d) (.agg cs)) (1000000 + d) (.p (some (d, 0)))
def putV (fr : Fr) (d : Option Tmp) (v : V) : Fr := match d with
  | some d => fset (fdel fr (1000000 + d)) d v
  | none => fr
def putA (fr : Fr) (d : Nat) (q : Nat × Nat) : Fr := fset (fdel fr d) (1000000 + d) (.p (some q))
/-- a part of a local variable is read -/
def ldL {R : Type} (P : Program) (cs : List V) (t : TypeId) (off : Nat) (K : V → Option R) : Option R :=
  match P.underlying t with
  | some d =>
    if isAggD d then
      match kinds P 30 t with
      | some ks => if ks.length = P.cellsOf t then exCs ks ((cs.drop off).take ks.length) fun vs => K (.agg vs) else none
      | none => none
    else match cs.drop off with
      | v :: _ => exC (ckD d) v K
      | [] => none
  | none => none
/-- a part of a local variable is written -/
def stL {R : Type} (P : Program) (cs : List V) (t : TypeId) (off : Nat) (v : V) (K : List V → Option R) : Option R :=
  match P.underlying t with
  | some d =>
    if isAggD d then match v with
      | .agg l => if l.length = P.cellsOf t then (if off + l.length ≤ cs.length then (if l.all V.one = true then K (splice cs off l) else none) else none) else none
      | _ => none
    else if P.cellsOf t = 1 then (if off < cs.length then (if v.one = true then K (cs.set off v) else none) else none) else none
  | none => none
def putAK {R : Type} (fr : Fr) (H : Heap) (d : Option Tmp) (q : Nat × Nat) (K : Fr → Heap → Option R) : Option R := match d with
  | some x => K (putA fr x q) H
  | none => none
/-- one operation; lv: slots whose variables are local -/
def evOp2 {R : Type} (P : Program) (E : FEnv) (lv : Nat → Bool) (fr : Fr) (H : Heap) (d : Option Tmp) (o : Op) (ty : TypeId) (K : Fr → Heap → Option R) : Option R :=
  match o with
  | .alloc e => match d with
    | some x => match lv x with
      | true => (zeroV P e).bind fun z => K (mkLoc fr x z.cells) H
      | false => evOp P E (evalS fr) H o ty fun v H => K (putV fr d v) H
    | none => evOp P E (evalS fr) H o ty fun v H => K (putV fr d v) H
  | .box e y => match d with
    | some x => match lv x with
      | true => (evalS fr y).bind fun v => K (mkLoc fr x v.cells) H
      | false => evOp P E (evalS fr) H o ty fun v H => K (putV fr d v) H
    | none => evOp P E (evalS fr) H o ty fun v H => K (putV fr d v) H
  | .load t a => match adrO fr a with
    | some q => (locK fr q.1).bind fun cs => ldL P cs t q.2 fun v => K (putV fr d v) H
    | none => evOp P E (evalS fr) H o ty fun v H => K (putV fr d v) H
  | .store t a y => match adrO fr a with
    | some q => (locK fr q.1).bind fun cs => (evalS fr y).bind fun v => stL P cs t q.2 v fun cs' => K (putV (fset fr (500000 + q.1) (.agg cs')) d (.tup [])) H
    | none => evOp P E (evalS fr) H o ty fun v H => K (putV fr d v) H
  | .fieldAddr s a f => match adrO fr a with
    | some q => match P.underlying s with
      | some (.struct fs) => match fs.toList[f]? with
        | some fd => if P.cellsOf fd.type = 0 then none else putAK fr H d (q.1, q.2 + fd.offset) K
        | none => none
      | _ => none
    | none => evOp P E (evalS fr) H o ty fun v H => K (putV fr d v) H
  | .indexAddr t a ix => match adrO fr a with
    | some q => match P.underlying t with
      | some (.array len e) => match ix with
        | .const (.int _ i) => if (P.underlying e).isNone then none else if 0 ≤ i ∧ i < len then putAK fr H d (q.1, q.2 + i.toNat * P.cellsOf e) K else none
        | _ => none
      | _ => none
    | none => evOp P E (evalS fr) H o ty fun v H => K (putV fr d v) H
  | .nilCheck a => match adrO fr a with
    | some q => putAK fr H d q K
    | none => evOp P E (evalS fr) H o ty fun v H => K (putV fr d v) H
  | .move a => match adrO fr a with
    | some q => putAK fr H d q K
    | none => evOp P E (evalS fr) H o ty fun v H => K (putV fr d v) H
  | o => evOp P E (evalS fr) H o ty fun v H => K (putV fr d v) H
/-- the operations of a region, in the order of the text -/
def evOps2 {R : Type} (P : Program) (E : FEnv) (lv : Nat → Bool) (n : Nat) (all : List Oper) : List Oper → Fr → Heap → (Fr → Heap → Option R) → Option R
  | [], fr, H, K => K fr H
  | o :: rest, fr, H, K =>
    if dstOk n o.dst = false then none else
    match o.guard with
    | none => evOp2 P E lv fr H o.dst o.op o.type fun fr H => evOps2 P E lv n all rest fr H K
    | some (j, want) => match (all[j]?).bind (·.dst) with
      | some d => match Nat.blt d 500000 with
        | true => match fget fr d with
          | some (.b x) => sel x
              (if want then evOp2 P E lv (fset fr d (.b true)) H o.dst o.op o.type fun fr H => evOps2 P E lv n all rest fr H K
               else evOps2 P E lv n all rest (putV (fset fr d (.b true)) o.dst (.tup [])) H K)
              (if want then evOps2 P E lv n all rest (putV (fset fr d (.b false)) o.dst (.tup [])) H K
               else evOp2 P E lv (fset fr d (.b false)) H o.dst o.op o.type fun fr H => evOps2 P E lv n all rest fr H K)
          | some (.tup []) => evOps2 P E lv n all rest (putV fr o.dst (.tup [])) H K
          | _ => none
        | false => none
      | none => none
def dstsOf (ops : List Oper) : List Nat := ops.filterMap (·.dst)
/-- what is known of local variables behind a region that leaves them alone -/
def farOf (ops : List Oper) (fr : Fr) : Fr := ffilt (fun t => match Nat.blt t 500000 with
  | true => false
  | false => !((dstsOf ops).any fun d => Nat.beq t (1000000 + d))) fr
def nearOf (fr : Fr) : Fr := ffilt (fun t => Nat.blt t 500000) fr
/-- what is known of local variables behind a region: all but the places that came out of guarded steps -/
def farX (ops : List Oper) (fr : Fr) : Fr := ffilt (fun t => match Nat.blt t 500000 with
  | true => false
  | false => !(ops.any fun o => o.guard.isSome && match o.dst with
    | some d => Nat.beq t (1000000 + d)
    | none => false)) fr
def markO : Operand := .const (.int .u16 51966)
/-- a step from one place in a local variable to another -/
def placeOf (P : Program) (fr : Fr) : Op → Option (Nat × Nat)
  | .fieldAddr s a f => (adrO fr a).bind fun q => match P.underlying s with
    | some (.struct fs) => match fs.toList[f]? with
      | some fd => if P.cellsOf fd.type = 0 then none else some (q.1, q.2 + fd.offset)
      | none => none
    | _ => none
  | .indexAddr t a ix => (adrO fr a).bind fun q => match P.underlying t with
    | some (.array len e) => match ix with
      | .const (.int _ i) => if (P.underlying e).isNone then none else if 0 ≤ i ∧ i < len then some (q.1, q.2 + i.toNat * P.cellsOf e) else none
      | _ => none
    | _ => none
  | .nilCheck a => adrO fr a
  | .move a => adrO fr a
  | _ => none
def readOf (fr : Fr) : Op → Option (List V × TypeId × Nat)
  | .load t a => (adrO fr a).bind fun q => match Nat.blt q.1 500000 with
    | true => (locK fr q.1).bind fun cs => some (cs, t, q.2)
    | false => none
  | _ => none
/-- in a region whose order is drawn: what is read of local variables is read ahead (slot n + j), places are told apart, and, where b says so, variables are made ahead -/
def preL {R : Type} (P : Program) (n : Nat) (b : Bool) : List Oper → Nat → Fr → Heap → (List Oper → Fr → Heap → Option R) → Option R
  | [], _, fr, H, K => K [] fr H
  | o :: rest, j, fr, H, K => match readOf fr o.op with
    | some q => ldL P q.1 q.2.1 q.2.2 fun v => preL P n b rest (j + 1) (fset fr (n + j) v) H fun ms fr H => K ({ o with op := .move (.tmp (n + j)) } :: ms) fr H
    | none => match placeOf P fr o.op with
      | some q => match o.dst with
        | some d => match adrK fr d with
          | none => match Nat.blt d n with
            | true => preL P n b rest (j + 1) (putA fr d q) H fun ms fr H => K ({ o with dst := none, op := .move markO } :: ms) fr H
            | false => none
          | some _ => none
        | none => none
      | none => match b with
        | false => preL P n b rest (j + 1) fr H fun ms fr H => K (o :: ms) fr H
        | true => match o.guard with
          | some _ => preL P n b rest (j + 1) fr H fun ms fr H => K (o :: ms) fr H
          | none => match o.op with
            | .alloc e => (zeroV P e).bind fun z => if z.cells.all V.flat1 then preL P n b rest (j + 1) (fset fr (n + j) (.p (some (H.next, 0)))) (H.new (.cells z.cells e false)) fun ms fr H => K ({ o with op := .move (.tmp (n + j)) } :: ms) fr H else none
            | _ => preL P n b rest (j + 1) fr H fun ms fr H => K (o :: ms) fr H
def isConv (n : Nat) (m : Oper) : Bool := match m.op with
  | .move (.tmp t) => Nat.ble n t
  | .move (.const (.int .u16 i)) => decide (i = 51966)
  | _ => false
def gBehind (k' k : Nat) : Option (Nat × Bool) → Option (Nat × Bool) → Bool
  | none, _ => true
  | some (a, x), some (b, y) => Nat.beq a b && (x == y) && Nat.blt k' k
  | some _, none => false
/-- what is read ahead is known behind the steps that it needs; places have slots of their own -/
def chkL (n : Nat) (ops ms : List Oper) : Bool := (List.range ops.length).all fun k => match ops[k]?, ms[k]? with
  | some o, some m => (!isConv n m || ((tmpsOf o.op.operands.toList).all fun x => (List.range ops.length).all fun k' => match ops[k']? with
      | some o' => (match o'.dst with
        | some d => !Nat.beq d x || ((anyEdges o).contains k' && gBehind k' k o'.guard o.guard)
        | none => true)
      | none => true) && (match o.guard with
      | some (j, _) => Nat.blt j k && (match (ms[j]?).bind (·.dst) with
        | some d => (List.range ms.length).all fun k' => Nat.beq k' j || (match (ms[k']?).bind (·.dst) with
          | some d' => !Nat.beq d' d
          | none => true)
        | none => true)
      | none => true)) &&
    (match o.dst, m.dst with
    | some d, none => (List.range ops.length).all fun k' => Nat.beq k' k || (match (ops[k']?).bind (·.dst) with
      | some d' => !Nat.beq d' d
      | none => true)
    | _, _ => true)
  | _, _ => false
/-- code -/
def ev2 (P : Program) (E : FEnv) (lr : LRun) (lv : Nat → Bool) (n : Nat) (kp : Nat → Option (List Nat)) : Code → {R : Type} → Fr → Heap → (Ex → Fr → Heap → Option R) → Option R
  | .skip, _, fr, H, K => K .normal fr H
  | .region id ops draw, _, fr, H, K => match draw with
    | false => evOps2 P E lv n ops.toList ops.toList fr H fun fr H => K .normal (fkp kp id fr) H
    | true => if (Nat.ble (n + ops.size) 500000 && namesLt n ops.toList) = true then
        preL P n (lv (600000 + id)) ops.toList 0 (nearOf fr ++ farOf ops.toList fr) H fun ms fr1 H1 =>
          if (statOk P ms (tblOf ms) && chkL n ops.toList ms) = true then evD P E n ms (tblOf ms) ms 0 (nearOf fr1) H1 [] [] fun fr' H' => K .normal (fkp kp id (fcut n fr' ++ farX ops.toList fr1)) H' else none
      else none
  | .seq a b, _, fr, H, K => ev2 P E lr lv n kp a fr H (kSeq (fun fr H => ev2 P E lr lv n kp b fr H K) K)
  | .cond c a b, _, fr, H, K => match evalS fr c with
    | some (.b x) => sel x (ev2 P E lr lv n kp a fr H (kEnd kp (condId c) K)) (ev2 P E lr lv n kp b fr H (kEnd kp (condId c) K))
    | _ => none
  | .block id b, _, fr, H, K => ev2 P E lr lv n kp b (fkp kp (200000 + id) fr) H (kBlock kp id K)
  | .loop b, _, fr, H, K => (lr (fun s => ev2 P E lr lv n kp b s.1 s.2 ret3) (fr, H)).bind fun r => K r.1 r.2.1 r.2.2
  | .exit id, _, fr, H, K => K (.exit id) (fkp kp (100000 + id) fr) H
  | .ret, _, fr, H, K => K .ret (fkp kp 300000 fr) H
  | _, _, _, _, _ => none
/-- a function's results -/
def resOne2 {R : Type} (P : Program) (fr : Fr) (H : Heap) : ResultVar → (V → Option R) → Option R
  | .tmp t, K => (evalS fr (.tmp t)).bind K
  | .cell a t, K => match adrK fr a with
    | some q => (locK fr q.1).bind fun cs => ldL P cs t q.2 K
    | none => (evalS fr (.tmp a)).bind fun v => match v with
      | .p (some (id, off)) => ldT P H t id off K
      | _ => none
def resAll2 {R : Type} (P : Program) (fr : Fr) (H : Heap) : List ResultVar → (List V → Option R) → Option R
  | [], K => K []
  | r :: rs, K => resOne2 P fr H r fun v => resAll2 P fr H rs fun vs => K (v :: vs)
def res2 {R : Type} (P : Program) (fr : Fr) (H : Heap) (rs : List ResultVar) (K : V → Heap → Option R) : Option R :=
  resAll2 P fr H rs fun vs => match vs with
    | [v] => K v H
    | vs => K (.tup vs) H
def kFn2 {R : Type} (P : Program) (rs : List ResultVar) (K : V → Heap → Option R) : Ex → Fr → Heap → Option R
  | .normal, fr, H => res2 P fr H rs K
  | .ret, fr, H => res2 P fr H rs K
  | .exit _, _, _ => none
/-- a function -/
def evFn2 {R : Type} (P : Program) (E : FEnv) (lr : LRun) (lv : Nat → Bool) (fn : Func) (kp : Nat → Option (List Nat)) (args : List V) (H : Heap) (K : V → Heap → Option R) : Option R :=
  if args.length ≤ fn.ntmps then (match Nat.ble fn.ntmps 500000 with
    | true => match fn.body with
      | some c => ev2 P E lr lv fn.ntmps kp c (argFr 0 args) H (kFn2 P fn.results.toList K)
      | none => none
    | false => none)
  else none
/-- these slots -/
def lvOf (l : List Nat) (t : Nat) : Bool := l.any fun k => Nat.beq t k
end Go.Proofs.Ytnlfkllnmobppaa.AM

/- What the steps over local variables stand for. -/
namespace Go.Proofs.Ytnlfkllnmobppaa.AM
open Go Go.RowKit
set_option linter.unusedVariables false
set_option linter.unusedSimpArgs false

theorem fget_ffilt (p : Nat → Bool) (fr : Fr) (t : Nat) : fget (ffilt p fr) t = if p t = true then fget fr t else none := by
  induction fr with
  | nil => simp [ffilt, fget]
  | cons q fr ih =>
    obtain ⟨k, v⟩ := q
    simp only [ffilt]
    split
    · rename_i hp
      simp only [fget]
      by_cases h : t = k
      · subst h; simp [hp]
      · rw [if_neg h, if_neg h, ih]
    · rename_i hp
      rw [ih]
      simp only [fget]
      by_cases h : t = k
      · subst h; simp [hp]
      · rw [if_neg h]
theorem fget_append (fr fr2 : Fr) (t : Nat) : fget (fr ++ fr2) t = match fget fr t with
    | some v => some v
    | none => fget fr2 t := by
  induction fr with
  | nil => simp [fget]
  | cons q fr ih =>
    obtain ⟨k, v⟩ := q
    simp only [List.cons_append, fget]
    split
    · rfl
    · exact ih
theorem adrK_eq {fr : Fr} {x : Nat} {q : Nat × Nat} (h : adrK fr x = some q) : fget fr (1000000 + x) = some (.p (some q)) := by
  unfold adrK at h
  split at h
  · rename_i q' h'; cases h; exact h'
  · cases h
theorem adrO_eq {fr : Fr} {y : Operand} {q : Nat × Nat} (h : adrO fr y = some q) : ∃ x, y = .tmp x ∧ fget fr (1000000 + x) = some (.p (some q)) := by
  unfold adrO at h
  split at h
  · exact ⟨_, rfl, adrK_eq h⟩
  · cases h
theorem locK_eq {fr : Fr} {k : Nat} {cs : List V} (h : locK fr k = some cs) : fget fr (500000 + k) = some (.agg cs) := by
  unfold locK at h
  split at h
  · rename_i q' h'; cases h; exact h'
  · cases h

section
variable {P : Program} {N : Nat} {w0 : Ref} {w : World} {ρ : Env} {H : Heap} {n : Nat} {fr : Fr} {a : Act} {A : Nat → Base} {E : FEnv}

/-- another block turns -/
theorem HR.side (h : HR N w0 ρ H w) {k0 : Nat} (hN : N ≤ k0) (hk : ¬ w0.keep k0) (ho : ∀ id o b, H.get id = some o → o.own = true → ρ id = some b → b.blk ≠ k0)
    {w' : World} (hs : w'.heap.size = w.heap.size) (hos : w'.os = w.os) (htape : w'.tape = w.tape) (hout : w'.output = w.output) (hblk : ∀ k, k ≠ k0 → w'.heap[k]? = w.heap[k]?) (hdr : w.drawn ≤ w'.drawn) : HR N w0 ρ H w' := by
  refine ⟨⟨hos.trans h.below.os, htape.trans h.below.tape, hout.trans h.below.output, hs ▸ h.below.size, fun k hk' => (hblk k (by omega)).trans (h.below.block k hk')⟩, hs ▸ h.nle, h.glob, h.resv, h.fresh, fun id o hid => ?_, h.roN, h.apart, Nat.le_trans h.drew hdr, fun k hk' => ?_⟩
  · rcases h.obj id o hid with hres | ⟨b, hb, hr⟩
    · exact .inl hres
    refine .inr ⟨b, hb, hr.same (hblk _ ?_)⟩
    by_cases hoo : o.own = true
    · exact ho id o b hid hoo hb
    · cases o with
      | cells vs e ro =>
        have : ro = true := by simpa [O.own] using hoo
        subst this
        have := h.roN id b vs e hid hb
        omega
      | map _ _ => simp [O.own] at hoo
      | siter _ _ => simp [O.own] at hoo
      | miter _ _ _ _ => simp [O.own] at hoo
  · obtain ⟨a1, a2, a3⟩ := h.kept k hk'
    exact ⟨hs ▸ a1, (hblk k (by rintro rfl; exact hk hk')).trans a2, a3⟩

/-- the cells of a variable are read -/
theorem ORel.part {b : Base} {us : List V} {e : TypeId} {ro : Bool} (h : ORel N ρ w b (.cells us e ro)) {off n : Nat} (hle : off + n ≤ us.length) :
    ∃ xs, Rels ρ ((us.drop off).take n) xs ∧ xs.length = n ∧ ∀ (j : Nat) (x : Value), xs[j]? = some x → w.cell? ⟨b.blk, b.off + off + j, none⟩ = some x := by
  have hlen : (List.take n (us.drop off)).length = n := by simp; omega
  obtain ⟨c, fz, h1, h2, h3, _⟩ := h
  refine ⟨(List.range n).map fun j => c.getD (b.off + off + j) undef, ?_, by simp, ?_⟩
  · refine Rels.of_get _ _ (by simp; omega) fun j v hj => ?_
    have hjn : j < n := by have := (List.getElem?_eq_some_iff.1 hj).1; omega
    rw [List.getElem?_take_of_lt hjn, List.getElem?_drop] at hj
    obtain ⟨x, hx, hr⟩ := h3 (off + j) v hj
    refine ⟨x, ?_, hr⟩
    simp only [List.getElem?_map, List.getElem?_range hjn, Option.map_some]
    rw [← Nat.add_assoc] at hx
    simp [Array.getD_eq_getD_getElem?, hx]
  · intro j x hj
    have hjn : j < n := by have := (List.getElem?_eq_some_iff.1 hj).1; simpa using this
    simp only [List.getElem?_map, List.getElem?_range hjn, Option.map_some, Option.some.injEq] at hj
    have hlt : b.off + off + j < c.size := by omega
    simp [Array.getD_eq_getD_getElem?, hlt] at hj
    simp [World.cell?, h1, hlt, hj]
theorem exCs_len {R : Type} {r : R} : ∀ (ks : List CK) (vs : List V) {K : List V → Option R}, exCs ks vs K = some r → vs.length = ks.length ∧ K vs = some r := by
  intro ks
  induction ks with
  | nil => intro vs K h; cases vs with
    | nil => exact ⟨rfl, h⟩
    | cons v vs => cases h
  | cons c ks ih =>
    intro vs K h
    cases vs with
    | nil => cases h
    | cons v vs =>
      simp only [exCs] at h
      obtain ⟨h1, _⟩ := exC_sound h
      obtain ⟨h2, h3⟩ := ih vs h1
      exact ⟨by simp [h2], h3⟩
theorem ldL_sound {R : Type} {r : R} {b : Base} {cs : List V} {e : TypeId} {ro : Bool} (h : ORel N ρ w b (.cells cs e ro)) {t : TypeId} {off : Nat} {K : V → Option R} (hl : ldL P cs t off K = some r) :
    ∃ v x, (loadVar t ⟨b.blk, b.off + off, none⟩).run P w = .ok x w ∧ Rel ρ v x ∧ K v = some r := by
  unfold ldL at hl
  split at hl
  · rename_i d hu
    unfold loadVar
    simp only [Sem.run_bind, run_isAggD hu, Result.andThen_ok, Sem.run_ite]
    split at hl
    · rename_i hagg
      simp only [hagg, if_true]
      split at hl
      · rename_i ks hks
        split at hl
        · rename_i hlen
          obtain ⟨g1, g2⟩ := exCs_len _ _ hl
          have hle : ks.length = 0 ∨ off + ks.length ≤ cs.length := by simp at g1; omega
          have hx : ∃ xs, Rels ρ ((cs.drop off).take ks.length) xs ∧ xs.length = ks.length ∧ ∀ (j : Nat) (x : Value), xs[j]? = some x → w.cell? ⟨b.blk, b.off + off + j, none⟩ = some x := by
            rcases hle with h0 | hle
            · rw [h0]; exact ⟨[], .nil, rfl, fun j x hj => by simp at hj⟩
            · exact h.part hle
          obtain ⟨xs, hrs, hxl, hc⟩ := hx
          refine ⟨.agg ((cs.drop off).take ks.length), .agg xs.toArray, ?_, .agg _ _ hrs, g2⟩
          have : ((sizeOf t).run P w).andThen (fun a w' => ((loadCells ⟨b.blk, b.off + off, none⟩ a).run P w').andThen fun a w' => Result.ok (Value.agg a) w') = .ok (.agg xs.toArray) w := by
            rw [run_size hu, Result.andThen_ok, ← hlen, ← hxl, run_cells hc]
            rfl
          simpa using this
        · cases hl
      · cases hl
    · rename_i hagg
      have : isAggD d = false := by simpa using hagg
      simp only [this]
      split at hl
      · rename_i v rest hv
        obtain ⟨hk, _⟩ := exC_sound hl
        have hg : cs[off]? = some v := by
          have := List.getElem?_drop (xs := cs) (i := off) (j := 0)
          rw [hv] at this; simpa using this.symm
        obtain ⟨x, hx, hr⟩ := h.cell hg
        exact ⟨v, x, by simp [hx], hr, hk⟩
      · cases hl
  · cases hl
theorem stL_sound {R : Type} {r : R} {b : Base} {cs : List V} {e : TypeId} (h : ORel N ρ w b (.cells cs e false)) {t : TypeId} {off : Nat} {v : V} {x : Value} {K : List V → Option R} (hs : stL P cs t off v K = some r) (hr : Rel ρ v x) :
    ∃ w' cs', (storeVar t ⟨b.blk, b.off + off, none⟩ x).run P w = .ok () w' ∧ ORel N ρ w' b (.cells cs' e false) ∧ K cs' = some r ∧ w'.heap.size = w.heap.size ∧ w'.os = w.os ∧ w'.tape = w.tape ∧ w'.output = w.output ∧ w.drawn ≤ w'.drawn ∧ ∀ k, k ≠ b.blk → w'.heap[k]? = w.heap[k]? := by
  have go : ∀ (l : List V) (d : TypeDesc), P.underlying t = some d → l = v.cells → l.length = P.cellsOf t → off + l.length ≤ cs.length → l.all V.one = true → K (splice cs off l) = some r →
      ∃ w' cs', (storeVar t ⟨b.blk, b.off + off, none⟩ x).run P w = .ok () w' ∧ ORel N ρ w' b (.cells cs' e false) ∧ K cs' = some r ∧ w'.heap.size = w.heap.size ∧ w'.os = w.os ∧ w'.tape = w.tape ∧ w'.output = w.output ∧ w.drawn ≤ w'.drawn ∧ ∀ k, k ≠ b.blk → w'.heap[k]? = w.heap[k]? := by
    intro l d hu hlv hlt hle hone hk
    have hc := hr.cells
    rw [← hlv] at hc
    generalize hxs : x.cells.toList = xs at hc
    obtain ⟨c, fz, h1, h2, h3, h4⟩ := h
    obtain ⟨hN, hsz, hfz, hex⟩ := h4 rfl
    have hlen := hc.length
    have hx1 : ∀ y ∈ xs, y.oneCell' = true := by
      intro y hy
      obtain ⟨j, hj⟩ := List.mem_iff_getElem?.1 hy
      have hjl : j < l.length := by have := (List.getElem?_eq_some_iff.1 hj).1; omega
      obtain ⟨z, hz, hrel⟩ := hc.get j l[j] (List.getElem?_eq_getElem hjl)
      rw [hj] at hz; cases hz
      rw [hrel.one]
      exact (List.all_eq_true.1 hone) _ (List.getElem_mem hjl)
    have hrun := run_storeCells_own (P := P) b.blk (b.off + off) e fz xs 0 c w h1 (fun k hk hh => by rcases hfz with q | q <;> omega) (by omega) hx1
    refine ⟨_, splice cs off l, ?_, ?_, hk, size_setRow w b.blk (c.toList.take (b.off + off + 0) ++ xs ++ c.toList.drop (b.off + off + 0 + xs.length)).toArray, rfl, rfl, rfl, Nat.le_refl _, fun k hk => setRow_other w b.blk k _ hk⟩
    · unfold storeVar
      have hsz2 := run_size (P := P) hu w
      simp only [Sem.run_bind, hsz2, Result.andThen_ok]
      have hne : ¬ (x.cells.size ≠ P.cellsOf t) := by rw [← Array.length_toList, hxs]; omega
      simp only [hne, if_false]
      rw [hxs]
      simpa using hrun
    · refine ⟨_, fz, setRow_heap w b.blk c _ e fz h1, ?_, ?_, fun _ => ⟨hN, ?_, ?_, fun q => by have := hex q; rw [splice_length _ _ _ hle]; simp; omega⟩⟩
      · rw [splice_length _ _ _ hle]; simp; omega
      · intro j v hj
        rw [splice_get _ _ _ hle] at hj
        have hm : min (b.off + off) c.size = b.off + off := by omega
        simp only [List.getElem?_toArray, List.getElem?_append, List.length_append, List.length_take, Array.length_toList, Nat.add_zero, hm, List.getElem?_take, List.getElem?_drop]
        by_cases c1 : j < off
        · rw [if_pos c1] at hj
          obtain ⟨x, hx, hrel⟩ := h3 j v hj
          refine ⟨x, ?_, hrel⟩
          rw [if_pos (by omega), if_pos (by omega), if_pos (by omega)]; simpa using hx
        · rw [if_neg c1] at hj
          by_cases c2 : j < off + l.length
          · rw [if_pos c2] at hj
            obtain ⟨x, hx, hrel⟩ := hc.get _ _ hj
            refine ⟨x, ?_, hrel⟩
            rw [if_pos (by omega), if_neg (by omega)]
            rw [show b.off + j - (b.off + off) = j - off by omega]; exact hx
          · rw [if_neg c2] at hj
            obtain ⟨x, hx, hrel⟩ := h3 j v hj
            refine ⟨x, ?_, hrel⟩
            rw [if_neg (by omega), show b.off + off + xs.length + (b.off + j - (b.off + off + xs.length)) = b.off + j by omega]
            simpa using hx
      · simp; omega
      · rcases hfz with q | q
        · exact .inl q
        · refine .inr ?_; simp; omega
  unfold stL at hs
  split at hs
  · rename_i d hu
    split at hs
    · split at hs
      · rename_i l
        split at hs
        · rename_i hlt
          split at hs
          · rename_i hle
            split at hs
            · rename_i hone; exact go l d hu rfl hlt hle hone hs
            · cases hs
          · cases hs
        · cases hs
      · cases hs
    · split at hs
      · rename_i hlt
        split at hs
        · rename_i hle
          split at hs
          · rename_i hone
            have hv : v.cells = [v] := by cases v <;> first | rfl | cases hone
            refine go [v] d hu hv.symm (by simpa using hlt.symm) (by simp; omega) (by simpa using hone) ?_
            rw [splice_one _ _ _ hle]; exact hs
          · cases hs
        · cases hs
      · cases hs
  · cases hs

structure SR2 (N : Nat) (w0 : Ref) (n : Nat) (ρ : Env) (A : Nat → Base) (fr : Fr) (H : Heap) (a : Act) (w : World) : Prop where
  slots : ∀ t v, t < 500000 → fget fr t = some v → ∃ c, a.tmps[t]? = some c ∧ Rel ρ v c
  loc : ∀ k cs, fget fr (500000 + k) = some (.agg cs) → (∃ e, ORel N ρ w (A k) (.cells cs e false)) ∧ ¬ w0.keep (A k).blk ∧ ∀ id o b, H.get id = some o → o.own = true → ρ id = some b → b.blk ≠ (A k).blk
  inj : ∀ k k' cs cs', fget fr (500000 + k) = some (.agg cs) → fget fr (500000 + k') = some (.agg cs') → k ≠ k' → (A k).blk ≠ (A k').blk
  adr : ∀ x q, fget fr (1000000 + x) = some (.p (some q)) → a.tmps[x]? = some (.pointer (some ⟨(A q.1).blk, (A q.1).off + q.2, none⟩))
  size : a.tmps.size = n
  defers : a.defers = []
  hr : HR N w0 ρ H w
theorem SR2.eval (h : SR2 N w0 n ρ A fr H a w) (x : Operand) (v : V) (hv : evalS fr x = some v) : Rel ρ v (a.eval x) := by
  cases x with
  | tmp t =>
    simp only [evalS] at hv
    split at hv
    · rename_i hb
      obtain ⟨c, hc, hr⟩ := h.slots t v (by simpa using hb) hv
      simpa [Act.eval, Array.getD_eq_getD_getElem?, hc] using hr
    · cases hv
  | const c => exact ofValue_sound hv
  | global g => cases hv
  | func f =>
    simp [evalS] at hv; subst hv
    exact .fn (.func f) [] [] [] [] .nil .nil
theorem SR2.sub (h : SR2 N w0 n ρ A fr H a w) {fr2 : Fr} (hs : ∀ t v, fget fr2 t = some v → fget fr t = some v) : SR2 N w0 n ρ A fr2 H a w :=
  ⟨fun t v ht hv => h.slots t v ht (hs _ _ hv), fun k cs hk => h.loc k cs (hs _ _ hk), fun k k' cs cs' h1 h2 => h.inj k k' cs cs' (hs _ _ h1) (hs _ _ h2), fun x q hx => h.adr x q (hs _ _ hx), h.size, h.defers, h.hr⟩
theorem SR2.keep (h : SR2 N w0 n ρ A fr H a w) (kp : Nat → Option (List Nat)) (id : Nat) : SR2 N w0 n ρ A (fkp kp id fr) H a w := by
  unfold fkp
  split
  · exact h.sub fun t v hv => fget_fkeep _ _ _ _ hv
  · exact h
theorem SR2.lit (h : SR2 N w0 n ρ A fr H a w) {d : Nat} {x : Bool} (hx : fget fr d = some (.b x)) : SR2 N w0 n ρ A (fset fr d (.b x)) H a w :=
  h.sub fun t v hv => by
    rw [fget_fset] at hv
    split at hv
    · rename_i ht; subst ht; rw [hx]; exact hv
    · exact hv
/-- the blocks of the local variables -/
def locS (A : Nat → Base) (fr : Fr) (b : Nat) : Prop := ∃ k cs, fget fr (500000 + k) = some (.agg cs) ∧ b = (A k).blk
theorem SR2.framed (h : SR2 N w0 n ρ A fr H a w) : HR N (w0.frame w (locS A fr)) ρ H w :=
  h.hr.frame _ fun b ⟨k, cs, hk, hb⟩ => by
    obtain ⟨⟨e, ho⟩, _, h3⟩ := h.loc k cs hk
    subst hb
    exact ⟨ho.lt, h3⟩
theorem SR2.after (h : SR2 N w0 n ρ A fr H a w) {ρ' : Env} {H' : Heap} {w' : World} (hl : ρ.le ρ') (hh : HR N (w0.frame w (locS A fr)) ρ' H' w') : SR2 N w0 n ρ' A fr H' a w' := by
  obtain ⟨h1, h2⟩ := h.hr.unframe hh
  refine ⟨fun t v ht hv => ?_, fun k cs hk => ?_, h.inj, h.adr, h.size, h.defers, h1⟩
  · obtain ⟨c, hc, hr⟩ := h.slots t v ht hv; exact ⟨c, hc, hr.mono hl⟩
  · obtain ⟨⟨e, ho⟩, hk1, _⟩ := h.loc k cs hk
    obtain ⟨b1, b2, b3⟩ := h2 _ ⟨k, cs, hk, rfl⟩
    exact ⟨⟨e, (ho.mono hl).same b2⟩, hk1, b3⟩
theorem SR2.over (h : SR2 N w0 n ρ A fr H a w) {w' : World} (hb : Goes w w') : SR2 N w0 n ρ A fr H a w' :=
  ⟨h.slots, fun k cs hk => by
    obtain ⟨⟨e, ho⟩, hk1, hk2⟩ := h.loc k cs hk
    exact ⟨⟨e, ho.same (hb.1.block _ ho.lt)⟩, hk1, hk2⟩, h.inj, h.adr, h.size, h.defers, h.hr.over hb⟩
theorem tmps_put {d t : Nat} {c : Value} (hs : a.tmps.size = n) (hd : d < n) : (a.put (some d) c).tmps[t]? = if t = d then some c else a.tmps[t]? := by
  simp only [Act.put, Array.getElem?_setIfInBounds]
  by_cases h : t = d
  · subst h; rw [if_pos rfl, if_pos (by omega), if_pos rfl]
  · rw [if_neg (fun e => h e.symm), if_neg h]
theorem SR2.putV (h : SR2 N w0 n ρ A fr H a w) (hn : n ≤ 500000) {d : Option Tmp} (hd : dstOk n d = true) {v : V} {c : Value} (hr : Rel ρ v c) : SR2 N w0 n ρ A (putV fr d v) H (a.put d c) w := by
  cases d with
  | none => exact h
  | some d =>
    have hdn : LT.lt (α := Nat) d n := by simpa [dstOk] using hd
    have key : ∀ t u, fget (AM.putV fr (some d) v) t = some u → (t = d ∧ u = v) ∨ (t ≠ d ∧ t ≠ 1000000 + d ∧ fget fr t = some u) := by
      intro t u hu
      simp only [AM.putV, fget_fset, fget_fdel] at hu
      split at hu
      · rename_i e; cases hu; exact .inl ⟨e, rfl⟩
      · rename_i e
        split at hu
        · cases hu
        · rename_i e'; exact .inr ⟨e, e', hu⟩
    refine ⟨fun t u ht hu => ?_, fun k cs hk => ?_, fun k k' cs cs' h1 h2 hne => ?_, fun x q hx => ?_, by simpa [Act.put] using h.size, h.defers, h.hr⟩
    · rw [tmps_put h.size hdn]
      rcases key t u hu with ⟨rfl, rfl⟩ | ⟨e1, _, e3⟩
      · exact ⟨c, by rw [if_pos rfl], hr⟩
      · rw [if_neg e1]; exact h.slots t u ht e3
    · rcases key _ _ hk with ⟨e1, _⟩ | ⟨_, _, e3⟩
      · omega
      · exact h.loc k cs e3
    · rcases key _ _ h1 with ⟨e1, _⟩ | ⟨_, _, e3⟩
      · omega
      · rcases key _ _ h2 with ⟨e1, _⟩ | ⟨_, _, e4⟩
        · omega
        · exact h.inj k k' cs cs' e3 e4 hne
    · rw [tmps_put h.size hdn]
      rcases key _ _ hx with ⟨e1, _⟩ | ⟨_, e2, e3⟩
      · omega
      · rw [if_neg (by omega)]; exact h.adr x q e3
theorem SR2.putA (h : SR2 N w0 n ρ A fr H a w) (hn : n ≤ 500000) {d : Nat} (hdn : d < n) {q : Nat × Nat} : SR2 N w0 n ρ A (putA fr d q) H (a.put (some d) (.pointer (some ⟨(A q.1).blk, (A q.1).off + q.2, none⟩))) w := by
  have key : ∀ t u, fget (AM.putA fr d q) t = some u → (t = 1000000 + d ∧ u = .p (some q)) ∨ (t ≠ d ∧ t ≠ 1000000 + d ∧ fget fr t = some u) := by
    intro t u hu
    simp only [AM.putA, fget_fset, fget_fdel] at hu
    split at hu
    · rename_i e; cases hu; exact .inl ⟨e, rfl⟩
    · rename_i e
      split at hu
      · cases hu
      · rename_i e'; exact .inr ⟨e', e, hu⟩
  refine ⟨fun t u ht hu => ?_, fun k cs hk => ?_, fun k k' cs cs' h1 h2 hne => ?_, fun x q' hx => ?_, by simpa [Act.put] using h.size, h.defers, h.hr⟩
  · rw [tmps_put h.size hdn]
    rcases key t u hu with ⟨e1, _⟩ | ⟨e1, _, e3⟩
    · omega
    · rw [if_neg e1]; exact h.slots t u ht e3
  · rcases key _ _ hk with ⟨_, e1⟩ | ⟨_, _, e3⟩
    · cases e1
    · exact h.loc k cs e3
  · rcases key _ _ h1 with ⟨_, e1⟩ | ⟨_, _, e3⟩
    · cases e1
    · rcases key _ _ h2 with ⟨_, e1⟩ | ⟨_, _, e4⟩
      · cases e1
      · exact h.inj k k' cs cs' e3 e4 hne
  · rw [tmps_put h.size hdn]
    rcases key _ _ hx with ⟨e1, e2⟩ | ⟨_, e2, e3⟩
    · rw [if_pos (by omega)]
      have : q = q' := by simpa using e2.symm
      rw [this]
    · rw [if_neg (by omega)]; exact h.adr x q' e3
/-- a new local variable -/
theorem SR2.mk' (h : SR2 N w0 n ρ A fr H a w) (hn : n ≤ 500000) {d : Nat} (hdn : d < n) {cs : List V} {xs : List Value} {e : TypeId} (hr : Rels ρ cs xs) :
    SR2 N w0 n ρ (fun k => if k = d then ⟨w.heap.size, 0, xs.length⟩ else A k) (mkLoc fr d cs) H (a.put (some d) (.pointer (some ⟨w.heap.size, 0, none⟩))) (w.alloc (.cells xs.toArray e)) := by
  have hb : Goes w (w.alloc (.cells xs.toArray e)) := ⟨(Below.refl _ w).alloc (Nat.le_refl _) _, Nat.le_refl _⟩
  have h2 := h.over hb
  have hlen := hr.length
  have key : ∀ t u, t ≠ 1000000 + d → fget (mkLoc fr d cs) t = some u → (t = 500000 + d ∧ u = .agg cs) ∨ (t ≠ d ∧ t ≠ 500000 + d ∧ fget fr t = some u ∧ offA fr d t = true) := by
    intro t u ht hu
    simp only [mkLoc, fget_fset, fget_fdel, fget_ffilt] at hu
    rw [if_neg ht] at hu
    split at hu
    · rename_i e; cases hu; exact .inl ⟨e, rfl⟩
    · rename_i e
      split at hu
      · cases hu
      · rename_i e'
        split at hu
        · rename_i e2; exact .inr ⟨e', e, hu, e2⟩
        · cases hu
  have key2 : fget (mkLoc fr d cs) (1000000 + d) = some (.p (some (d, 0))) := by simp only [mkLoc, fget_fset, if_true]
  have hblk : ∀ k cs', fget fr (500000 + k) = some (.agg cs') → (A k).blk < w.heap.size := fun k cs' hk => by
    obtain ⟨⟨e', ho⟩, _, _⟩ := h.loc k cs' hk; exact ho.lt
  have agg : ∀ k cs', fget (mkLoc fr d cs) (500000 + k) = some (.agg cs') → (k = d ∧ cs' = cs) ∨ (k ≠ d ∧ fget fr (500000 + k) = some (.agg cs')) := by
    intro k cs' hk
    by_cases ht : 500000 + k = 1000000 + d
    · rw [ht, key2] at hk; cases hk
    · rcases key _ _ ht hk with ⟨e1, e2⟩ | ⟨_, e2, e3, _⟩
      · left; refine ⟨by omega, by simpa using e2⟩
      · exact .inr ⟨by omega, e3⟩
  refine ⟨fun t u ht hu => ?_, fun k cs' hk => ?_, fun k k' cs1 cs2 h1 h2 hne => ?_, fun x q hx => ?_, by simpa [Act.put] using h.size, h.defers, h2.hr⟩
  · rw [tmps_put h.size hdn]
    rcases key t u (by omega) hu with ⟨e1, _⟩ | ⟨e1, _, e3, _⟩
    · omega
    · rw [if_neg e1]; exact h.slots t u ht e3
  · rcases agg k cs' hk with ⟨rfl, rfl⟩ | ⟨e1, e2⟩
    · simp only [if_true]
      refine ⟨⟨e, xs.toArray, (0, 0), heap_alloc_new w _, by simp [hlen], fun j v hj => ?_, fun _ => ⟨h.hr.nle, by simp, .inl rfl, fun _ => ⟨rfl, by simp [hlen]⟩⟩⟩, fun hk' => ?_, fun id o b ho _ hb' => ?_⟩
      · obtain ⟨x, hx, hrel⟩ := hr.get j v hj
        exact ⟨x, by simpa using hx, hrel⟩
      · have := (h.hr.kept _ hk').1
        omega
      · have := (h.hr.rel ho hb').lt
        show b.blk ≠ w.heap.size
        omega
    · simp only [if_neg e1]
      exact h2.loc k cs' e2
  · rcases agg k cs1 h1 with ⟨e1, _⟩ | ⟨e1, e2⟩
    · rcases agg k' cs2 h2 with ⟨f1, _⟩ | ⟨f1, f2⟩
      · omega
      · simp only [if_pos e1, if_neg f1]
        have := hblk k' cs2 f2; omega
    · rcases agg k' cs2 h2 with ⟨f1, _⟩ | ⟨f1, f2⟩
      · simp only [if_neg e1, if_pos f1]
        have := hblk k cs1 e2; omega
      · simp only [if_neg e1, if_neg f1]
        exact h.inj k k' cs1 cs2 e2 f2 hne
  · rw [tmps_put h.size hdn]
    by_cases hxd : x = d
    · subst hxd
      rw [key2] at hx
      have : (x, 0) = q := by simpa using hx
      subst this
      simp
    · rw [if_neg hxd]
      rcases key (1000000 + x) _ (by intro e; exact hxd (by omega)) hx with ⟨_, e2⟩ | ⟨_, _, e3, e4⟩
      · cases e2
      · have : q.1 ≠ d := by
          unfold offA at e4
          rw [show Nat.blt (1000000 + x) 1000000 = false from Bool.eq_false_iff.2 fun e => by rw [Nat.blt_eq] at e; omega] at e4
          simp only [e3] at e4
          intro e; rw [e] at e4; simp at e4
        simp only [if_neg this]
        exact h.adr x q e3
/-- a local variable is written -/
theorem SR2.stored (h : SR2 N w0 n ρ A fr H a w) {k : Nat} {cs cs' : List V} {e : TypeId} (hk : fget fr (500000 + k) = some (.agg cs)) {w' : World} (ho : ORel N ρ w' (A k) (.cells cs' e false)) (hN : N ≤ (A k).blk)
    (hs : w'.heap.size = w.heap.size) (hos : w'.os = w.os) (htape : w'.tape = w.tape) (hout : w'.output = w.output) (hdr : w.drawn ≤ w'.drawn) (hblk : ∀ j, j ≠ (A k).blk → w'.heap[j]? = w.heap[j]?) : SR2 N w0 n ρ A (fset fr (500000 + k) (.agg cs')) H a w' := by
  obtain ⟨_, hk1, hk2⟩ := h.loc k cs hk
  have key : ∀ t u, fget (fset fr (500000 + k) (.agg cs')) t = some u → (t = 500000 + k ∧ u = .agg cs') ∨ (t ≠ 500000 + k ∧ fget fr t = some u) := by
    intro t u hu
    rw [fget_fset] at hu
    split at hu
    · rename_i e; cases hu; exact .inl ⟨e, rfl⟩
    · rename_i e; exact .inr ⟨e, hu⟩
  refine ⟨fun t u ht hu => ?_, fun j cs1 hj => ?_, fun j j' cs1 cs2 h1 h2 hne => ?_, fun x q hx => ?_, h.size, h.defers, h.hr.side hN hk1 hk2 hs hos htape hout hblk hdr⟩
  · rcases key t u hu with ⟨e1, _⟩ | ⟨_, e2⟩
    · omega
    · exact h.slots t u ht e2
  · rcases key _ _ hj with ⟨e1, e2⟩ | ⟨e1, e2⟩
    · obtain rfl : j = k := Nat.add_left_cancel e1
      have : cs1 = cs' := by simpa using e2
      subst this
      exact ⟨⟨e, ho⟩, hk1, hk2⟩
    · obtain ⟨⟨e', ho'⟩, g1, g2⟩ := h.loc j cs1 e2
      exact ⟨⟨e', ho'.same (hblk _ (h.inj j k cs1 cs e2 hk (fun e => e1 (by rw [e]))))⟩, g1, g2⟩
  · have old : ∀ j cs1, fget (fset fr (500000 + k) (.agg cs')) (500000 + j) = some (.agg cs1) → ∃ cs2, fget fr (500000 + j) = some (.agg cs2) := by
      intro j cs1 hj
      rcases key _ _ hj with ⟨e1, _⟩ | ⟨_, e2⟩
      · exact ⟨cs, by rw [e1]; exact hk⟩
      · exact ⟨cs1, e2⟩
    obtain ⟨c1, g1⟩ := old j cs1 h1
    obtain ⟨c2, g2⟩ := old j' cs2 h2
    exact h.inj j j' c1 c2 g1 g2 hne
  · rcases key _ _ hx with ⟨_, e2⟩ | ⟨_, e2⟩
    · cases e2
    · exact h.adr x q e2

/-- what a step over a local variable's place gives -/
theorem adr_does (hE : EnvOK P E) (hg : GOk w.heap.size w) {b : Base} {off off' x : Nat} (hx : a.eval (.tmp x) = .pointer (some ⟨b.blk, b.off + off, none⟩)) {o : Oper}
    (hev : ∀ (val : Operand → Option V) (H1 : Heap), val (.tmp x) = some (.p (some (0, off))) → (∀ c, val (.const c) = ofValue c) → evOp P E val H1 o.op o.type ret2 = some (.p (some (0, off')), H1)) :
    Does P w (execOp a.eval o) fun c w' => c = .pointer (some ⟨b.blk, b.off + off', none⟩) ∧ Goes w w' := by
  obtain ⟨h1, h2, _⟩ := (HR.void w hg).skip b
  have hz : (fun id => if id = noHeap.next then some b else noEnv id) 0 = some b := by simp [noHeap]
  have hv : ∀ z v, (fun z : Operand => match z with | .tmp t => if t = x then some (V.p (some (0, off))) else none | .const c => ofValue c | _ => none) z = some v → Rel (fun id => if id = noHeap.next then some b else noEnv id) v (a.eval z) := by
    intro z v hzv
    cases z with
    | tmp t =>
      simp only at hzv
      split at hzv
      · rename_i e; subst e; cases hzv; rw [hx]; exact .p 0 off b hz
      · cases hzv
    | const c => exact ofValue_sound hzv
    | global g => cases hzv
    | func f => cases hzv
  refine (evOp_sound hE h1 hv o (hev _ _ (by simp) (fun c => rfl))).post fun c w' ⟨v, H', ρ', g1, g2, g3, g4⟩ => ?_
  simp only [ret2, Option.some.injEq, Prod.mk.injEq] at g4
  obtain ⟨rfl, rfl⟩ := g4
  obtain ⟨b', hb', rfl⟩ := g2.p'
  have := g1 0 b hz
  rw [this] at hb'; cases hb'
  exact ⟨rfl, g3.below, g3.drew⟩

theorem evOp2_sound {R : Type} {r : R} (hE : EnvOK P E) (hn : n ≤ 500000) {lv : Nat → Bool} (h : SR2 N w0 n ρ A fr H a w) (o : Oper) (hd : dstOk n o.dst = true) {K : Fr → Heap → Option R} (hk : evOp2 P E lv fr H o.dst o.op o.type K = some r) :
    Does P w (execOp a.eval o) fun c w' => ∃ ρ' A' fr' H', ρ.le ρ' ∧ SR2 N w0 n ρ' A' fr' H' (a.put o.dst c) w' ∧ K fr' H' = some r := by
  have old : (evOp P E (evalS fr) H o.op o.type fun v H => K (putV fr o.dst v) H) = some r → Does P w (execOp a.eval o) fun c w' => ∃ ρ' A' fr' H', ρ.le ρ' ∧ SR2 N w0 n ρ' A' fr' H' (a.put o.dst c) w' ∧ K fr' H' = some r :=
    fun hk => (evOp_sound hE h.framed h.eval o hk).post fun c w' ⟨v, H', ρ', h1, h2, h3, h4⟩ => ⟨ρ', A, _, H', h1, (h.after h1 h3).putV hn hd h2, h4⟩
  have evx : ∀ x q, fget fr (1000000 + x) = some (.p (some q)) → a.eval (.tmp x) = .pointer (some ⟨(A q.1).blk, (A q.1).off + q.2, none⟩) := by
    intro x q hx
    have := h.adr x q hx
    simp [Act.eval, Array.getD_eq_getD_getElem?, this]
  have adr : ∀ (x : Nat) (q : Nat × Nat) (off' : Nat), fget fr (1000000 + x) = some (.p (some q)) →
      (∀ (val : Operand → Option V) (H1 : Heap), val (.tmp x) = some (.p (some (0, q.2))) → (∀ c, val (.const c) = ofValue c) → evOp P E val H1 o.op o.type ret2 = some (.p (some (0, off')), H1)) →
      putAK fr H o.dst (q.1, off') K = some r → Does P w (execOp a.eval o) fun c w' => ∃ ρ' A' fr' H', ρ.le ρ' ∧ SR2 N w0 n ρ' A' fr' H' (a.put o.dst c) w' ∧ K fr' H' = some r := by
    intro x q off' hx hev hk
    unfold putAK at hk
    split at hk
    · rename_i d hdst
      rw [hdst] at hd
      have hdn : LT.lt (α := Nat) d n := by simpa [dstOk] using hd
      refine (adr_does hE (h.hr.glob.below h.hr.below h.hr.nle) (evx x q hx) hev).post fun c w' ⟨e1, e2⟩ => ⟨ρ, A, _, H, ρ.le_refl, ?_, hk⟩
      subst e1
      rw [hdst]
      exact (h.over e2).putA hn hdn (q := (q.1, off'))
    · cases hk
  obtain ⟨dst, op, ty, pos, after, guard⟩ := o
  simp only at hk hd old adr
  cases op with
  | alloc e =>
    simp only [evOp2] at hk
    split at hk
    · rename_i d
      split at hk
      · have hdn : LT.lt (α := Nat) d n := by simpa [dstOk] using hd
        obtain ⟨z, h1, h2⟩ := Option.bind_eq_some_iff.1 hk
        obtain ⟨x, hx, hr, _⟩ := zeroV_sound (ρ := ρ) h1
        have hm := h.mk' hn hdn (e := e) hr.cells
        rw [Array.toArray_toList] at hm
        exact does_val (c := .pointer (some ⟨w.heap.size, 0, none⟩)) (w' := w.alloc (.cells x.cells e)) (by simp [Instr.alloc, hx w, newVar, newRow]) ⟨ρ, _, _, H, ρ.le_refl, hm, h2⟩
      · exact old hk
    · exact old hk
  | box e y =>
    simp only [evOp2] at hk
    split at hk
    · rename_i d
      split at hk
      · have hdn : LT.lt (α := Nat) d n := by simpa [dstOk] using hd
        obtain ⟨v, h1, h2⟩ := Option.bind_eq_some_iff.1 hk
        have hr := h.eval _ _ h1
        have hm := h.mk' hn hdn (e := e) hr.cells
        rw [Array.toArray_toList] at hm
        exact does_val (c := .pointer (some ⟨w.heap.size, 0, none⟩)) (w' := w.alloc (.cells (a.eval y).cells e)) (by simp [Instr.box, newVar, newRow]) ⟨ρ, _, _, H, ρ.le_refl, hm, h2⟩
      · exact old hk
    · exact old hk
  | load t y =>
    simp only [evOp2] at hk
    split at hk
    · rename_i q hq
      obtain ⟨x, rfl, hx⟩ := adrO_eq hq
      obtain ⟨cs, h1, h2⟩ := Option.bind_eq_some_iff.1 hk
      obtain ⟨⟨e, ho⟩, _, _⟩ := h.loc _ _ (locK_eq h1)
      obtain ⟨v, c, e1, e2, e3⟩ := ldL_sound ho h2
      refine does_val (c := c) (w' := w) ?_ ⟨ρ, A, _, H, ρ.le_refl, h.putV hn hd e2, e3⟩
      rw [evx x q hx]
      simp [Instr.loadAt, Instr.sureAddr, e1]
    · exact old hk
  | store t y z =>
    simp only [evOp2] at hk
    split at hk
    · rename_i q hq
      obtain ⟨x, rfl, hx⟩ := adrO_eq hq
      obtain ⟨cs, h1, h2⟩ := Option.bind_eq_some_iff.1 hk
      obtain ⟨v, h3, h4⟩ := Option.bind_eq_some_iff.1 h2
      obtain ⟨⟨e, ho⟩, _, _⟩ := h.loc _ _ (locK_eq h1)
      obtain ⟨w', cs', e1, e2, e3, e4, e5, e6, e7, e9, e8⟩ := stL_sound ho h4 (h.eval _ _ h3)
      refine does_unit (w' := w') ?_ ⟨ρ, A, _, H, ρ.le_refl, (h.stored (locK_eq h1) e2 (e2.ownN rfl) e4 e5 e6 e7 e9 e8).putV hn hd rel_undef, e3⟩
      rw [evx x q hx]
      simp [Instr.storeAt, Instr.sureAddr, e1]
    · exact old hk
  | fieldAddr s y f =>
    simp only [evOp2] at hk
    split at hk
    · rename_i q hq
      obtain ⟨x, rfl, hx⟩ := adrO_eq hq
      split at hk
      · rename_i fs hu
        split at hk
        · rename_i fd hf
          split at hk
          · cases hk
          · rename_i hz
            refine adr x q (q.2 + fd.offset) hx (fun val H1 hv _ => ?_) hk
            simp only [evOp, hv, Option.bind_some, hu, hf, if_neg hz, ret2]
        · cases hk
      · cases hk
    · exact old hk
  | indexAddr t y ix =>
    simp only [evOp2] at hk
    split at hk
    · rename_i q hq
      obtain ⟨x, rfl, hx⟩ := adrO_eq hq
      split at hk
      · rename_i len e hu
        split at hk
        · rename_i kk i
          split at hk
          · cases hk
          · rename_i hz
            split at hk
            · rename_i hi
              refine adr x q (q.2 + i.toNat * P.cellsOf e) hx (fun val H1 hv hc => ?_) hk
              simp only [evOp, hv, hc, ofValue, ofCell, Option.bind_some, hu, if_neg hz, if_pos hi, ret2]
            · cases hk
        · cases hk
      · cases hk
    · exact old hk
  | nilCheck y =>
    simp only [evOp2] at hk
    split at hk
    · rename_i q hq
      obtain ⟨x, rfl, hx⟩ := adrO_eq hq
      refine adr x q q.2 hx (fun val H1 hv _ => ?_) hk
      simp only [evOp, hv, Option.bind_some, nilCk, ret2]
    · exact old hk
  | move y =>
    simp only [evOp2] at hk
    split at hk
    · rename_i q hq
      obtain ⟨x, rfl, hx⟩ := adrO_eq hq
      refine adr x q q.2 hx (fun val H1 hv _ => ?_) hk
      simp only [evOp, hv, Option.bind_some, ret2]
    · exact old hk
  | _ => exact old hk

theorem SR2.guard (h : SR2 N w0 n ρ A fr H a w) {all : List Oper} {j d : Nat} {x : Bool} (hd : (all[j]?).bind (·.dst) = some d) (hb : d < 500000) (hx : fget fr d = some (.b x)) : yielded all.toArray a.tmps j = some x := by
  obtain ⟨c, hc, hr⟩ := h.slots d _ hb hx
  cases hr
  exact yielded_of (by simpa using hd) hc
theorem SR2.unyielded (h : SR2 N w0 n ρ A fr H a w) {all : List Oper} {j d : Nat} (hd : (all[j]?).bind (·.dst) = some d) (hb : d < 500000) (hx : fget fr d = some (.tup [])) : yielded all.toArray a.tmps j = none := by
  obtain ⟨c, hc, hr⟩ := h.slots d _ hb hx
  cases hr with
  | tup _ xs hrs =>
  cases hrs
  exact yielded_none (by simpa using hd) hc
theorem evOps2_sound {R : Type} {r : R} (hE : EnvOK P E) (hn : n ≤ 500000) {lv : Nat → Bool} {all : List Oper} {Q : Exit → Act → World → Prop} {K : Fr → Heap → Option R} : ∀ (rest : List Oper) (fr : Fr) (H : Heap) (ρ : Env) (A : Nat → Base) (a : Act) (w : World), evOps2 P E lv n all rest fr H K = some r → SR2 N w0 n ρ A fr H a w →
    (∀ ρ' A' fr' H' a' w', ρ.le ρ' → SR2 N w0 n ρ' A' fr' H' a' w' → K fr' H' = some r → Q .normal a' w') → wpList P all.toArray Q rest a w := by
  intro rest
  induction rest with
  | nil => intro fr H ρ A a w hk h hQ; exact hQ ρ A fr H a w ρ.le_refl h hk
  | cons o rest ih =>
    intro fr H ρ A a w hk h hQ
    unfold evOps2 at hk
    by_cases hdst : dstOk n o.dst = false
    · rw [if_pos hdst] at hk; cases hk
    rw [if_neg hdst] at hk
    have hdst : dstOk n o.dst = true := by simpa using hdst
    have go : ∀ (fr : Fr), SR2 N w0 n ρ A fr H a w → (evOp2 P E lv fr H o.dst o.op o.type fun fr H => evOps2 P E lv n all rest fr H K) = some r → o.wp P a w (wpList P all.toArray Q rest) Q := by
      intro fr hs hk'
      refine (evOp2_sound hE hn hs o hdst hk').wp fun c w' hp => ?_
      obtain ⟨ρ', A', fr', H', h1, h2, h3⟩ := hp
      exact ih _ _ ρ' A' _ _ h3 h2 fun ρ'' A'' fr'' H'' a'' w'' hl => hQ ρ'' A'' fr'' H'' a'' w'' (h1.trans hl)
    have skip : ∀ (fr : Fr), SR2 N w0 n ρ A fr H a w → evOps2 P E lv n all rest (putV fr o.dst (.tup [])) H K = some r → wpList P all.toArray Q rest (a.put o.dst undef) w :=
      fun fr hs hk' => ih _ _ ρ A _ _ hk' (hs.putV hn hdst rel_undef) hQ
    unfold wpList
    split at hk
    · rename_i hg
      rw [if_pos (wanted_none hg)]
      exact .inl (go fr h hk)
    · rename_i j want hg
      split at hk
      · rename_i d hd
        split at hk
        · rename_i hb
          have hb : d < 500000 := by simpa using hb
          split at hk
          · rename_i x hx
            have hy := h.guard hd hb hx
            have hs := h.lit hx
            have hw : Region.wanted o (yielded all.toArray a.tmps) = (x == want) := by simp [Region.wanted, hg, hy]
            rcases sel_some hk with ⟨rfl, hk'⟩ | ⟨rfl, hk'⟩
            · split at hk'
              · rename_i hwant
                rw [if_pos (by rw [hw]; simp [hwant])]
                exact .inl (go _ hs hk')
              · rename_i hwant
                rw [if_neg (by rw [hw]; simp [hwant])]
                exact skip _ hs hk'
            · split at hk'
              · rename_i hwant
                rw [if_neg (by rw [hw]; simp [hwant])]
                exact skip _ hs hk'
              · rename_i hwant
                rw [if_pos (by rw [hw]; simp at hwant; simp [hwant])]
                exact .inl (go _ hs hk')
          · rename_i hx
            have hy := h.unyielded hd hb hx
            rw [if_neg (by simp [Region.wanted, hg, hy])]
            exact skip _ h hk
          · cases hk
        · cases hk
      · cases hk

/-- a region writes no slots but its own -/
def sameT (T : Nat → Prop) (a a' : Act) : Prop := ∀ t, T t → a'.tmps[t]? = a.tmps[t]?
theorem sameT.put {T : Nat → Prop} {a a0 : Act} (h : sameT T a0 a) {d : Option Tmp} (hd : ∀ t, d = some t → ¬ T t) (c : Value) : sameT T a0 (a.put d c) := by
  intro t ht
  cases d with
  | none => exact h t ht
  | some d =>
    simp only [Act.put, Array.getElem?_setIfInBounds]
    rw [if_neg (by rintro rfl; exact hd _ rfl ht)]
    exact h t ht
theorem wp_withT {T : Nat → Prop} {a0 : Act} {Q Q' : Exit → Act → World → Prop} (hQ : ∀ e a' w', Q e a' w' → (e = .normal → sameT T a0 a') → Q' e a' w') {o : Oper} {a : Act} {w : World} {K K' : Act → World → Prop} (hd : ∀ t, o.dst = some t → ¬ T t) (ha : sameT T a0 a) (h : o.wp P a w K Q)
    (hK : ∀ a' w', sameT T a0 a' → K a' w' → K' a' w') : o.wp P a w K' Q' := by
  unfold Oper.wp at *
  generalize (execOp a.eval o).run P w = r at *
  cases r with
  | ok nx w' =>
    cases nx with
    | value v => exact hK _ _ (ha.put hd _) h
    | skip => exact hK _ _ (ha.put hd _) h
    | defer d => exact hK _ _ (sameT.put (a := { a with defers := d :: a.defers }) ha hd _) h
    | enter f args =>
      simp only [Oper.upon] at h ⊢
      refine Calls.mono h fun e w'' he => ?_
      cases e with
      | returned v => exact hK _ _ (ha.put hd _) he
      | panicked c => exact hQ _ _ _ he (by simp)
      | outgrown =>
        obtain ⟨a1, w1, hq⟩ := he
        exact ⟨a1, w1, hQ _ _ _ hq (by simp)⟩
    | row row args =>
      simp only [Oper.upon] at h ⊢
      exact Rows.mono h fun v w'' he => hK _ _ (ha.put hd _) he
    | _ => cases h
  | halt x w' =>
    cases x with
    | panic v => exact hQ _ _ _ h (by simp)
    | _ => cases h
theorem wpAny_withT {md : Region.Mode} {ops : Array Oper} {T : Nat → Prop} {a0 : Act} {Q Q' : Exit → Act → World → Prop} (hQ : ∀ e a' w', Q e a' w' → (e = .normal → sameT T a0 a') → Q' e a' w') (hT : ∀ (i : Nat) (o : Oper) (t : Nat), ops[i]? = some o → o.dst = some t → ¬ T t) : ∀ (fuel : Nat) (listed : Array Bool) (a : Act) (w : World), sameT T a0 a → wpAny P md ops Q fuel listed a w → wpAny P md ops Q' fuel listed a w := by
  intro fuel
  induction fuel with
  | zero => intro listed a w ha h; exact ⟨h.1, hQ _ _ _ h.2 fun _ => ha⟩
  | succ fuel ih =>
    intro listed a w ha h
    refine ⟨fun hr => hQ _ _ _ (h.1 hr) fun _ => ha, fun i hi => ?_⟩
    have h2 := h.2 i hi
    unfold wpOp at h2 ⊢
    split
    · rename_i ho
      simp only [ho] at h2
      exact ih _ _ _ ha h2
    · rename_i o ho
      simp only [ho] at h2
      split
      · rename_i hw
        simp only [hw, if_true] at h2
        rcases h2 with h2 | ⟨h2, a1, w1, hq⟩
        · exact .inl (wp_withT hQ (fun t ht => hT i o t ho ht) ha h2 fun a' w' ha' hk => ih _ _ _ ha' hk)
        · exact .inr ⟨h2, a1, w1, hQ _ _ _ hq (by simp)⟩
      · rename_i hw
        simp only [hw] at h2
        exact ih _ _ _ (ha.put (fun t ht => hT i o t ho ht) _) h2
/-- a region whose order is drawn -/
theorem ev_any (hE : EnvOK P E) (hL : EnvLin E) {lr : LRun} {kp : Nat → Option (List Nat)} {id : Nat} {ops : Array Oper} {R : Type} {r : R} {K : Ex → Fr → Heap → Option R} {Q : Exit → Act → World → Prop}
    (hk : ev P E lr n kp (.region id ops true) fr H K = some r) (h : SR N w0 n ρ fr H a w) (hQ : ∀ fr' H' ρ' a' w', ρ.le ρ' → SR N w0 n ρ' fr' H' a' w' → K .normal fr' H' = some r → Q .normal a' w') :
    wpAny P .any ops Q ops.size (Array.replicate ops.size false) a { w with drawn := w.drawn + 1 } := by
  simp only [ev] at hk
  split at hk
  · rename_i hst
    obtain ⟨HS, frF, h1, h2, h3, _, h5⟩ := evD_trace hL ops.toList 0 fr H [] [] (fun k o ho => by simpa using ho) rfl (fun p hp => by cases hp) hk
    simp only [Nat.zero_add] at h3 h5
    have h2' : HS 0 = H := h2
    have := draw_sound (N := N) (w0 := w0) hE h5 rfl hst (ρ0 := ρ) (Q := Q) (fun ρ' a' w' hl hs => hQ _ _ ρ' a' w' hl (hs.keep kp id) h3) (a0 := a) (w1 := { w with drawn := w.drawn + 1 })
      (by rw [h2']; exact ⟨h.fr, h.size, h.defers, h.hr.drawn _⟩)
    simpa using this
  · unfold evE at hk
    split at hk
    · rename_i hc
      simp only [Bool.and_eq_true] at hc
      have hh1 := h.hr.drawn (w.drawn + 1)
      obtain ⟨fr1, H1, ids, h1, h2, h3, h4, h5, h6⟩ := newE_trace ops.toList 0 fr H w0 hk hh1
      obtain ⟨HS, frF, g1, g2, g3, _, g5⟩ := evD_trace hL _ 0 fr1 H1 [] [] (fun k o ho => by simpa using ho) rfl (fun p hp => by cases hp) h1
      simp only [Nat.zero_add] at g3 g5
      have g2' : HS 0 = H1 := g2
      have := draw_soundE (N := N) (w0 := w0) hE g5 rfl hc.2 hc.1 (fun k o e a b c => by
          obtain ⟨id, z, q1, q2, q3, q4⟩ := h3 k o e a b c
          exact ⟨id, z, q1, q2, by simpa using q3, by simpa using q4⟩)
        (fun k x hx => by
          obtain ⟨_, _, o, e, q⟩ := h4 k x.1 x.2.1 x.2.2 hx
          exact ⟨o, e, by simpa using q⟩) h5
        (fun k id vs e vs' e' hk hr => by
          have q1 := (h4 k id vs e hk).1
          have q2 := (h.hr.resv id vs' e' hr).1
          omega) (ρ0 := ρ) (Q := Q) (fun ρ' a' w' hl hs => hQ _ _ ρ' a' w' hl (hs.keep kp id) g3) (a0 := a) (w1 := { w with drawn := w.drawn + 1 }) h.size h.defers
        (by rw [g2']; exact h6) (fun t u ht hu => by rw [h2 t (by omega)] at hu; exact h.fr t u hu)
      simpa using this
    · cases hk
end
end Go.Proofs.Ytnlfkllnmobppaa.AM

/- Regions whose order is drawn, in which local variables are read. -/
namespace Go.Proofs.Ytnlfkllnmobppaa.AM
open Go Go.RowKit
set_option linter.unusedVariables false
set_option linter.unusedSimpArgs false

/-- how an operation of the world stands to the machine's -/
inductive LK (P : Program) (n : Nat) (w0 : Ref) (ρ0 : Env) (fr1 : Fr) (ids : Nat → Option (Nat × List V × TypeId)) (adr : Nat → Option Value) (all : List Oper) (k : Nat) (o m : Oper) : Prop
  | same : m = o → ids k = none → (∀ t ∈ namesOf all m, t < n) → LK P n w0 ρ0 fr1 ids adr all k o m
  | early (e : TypeId) (id : Nat) (z : V) : o.op = .alloc e → o.guard = none → m = { o with op := .move (.tmp (n + k)) } → zeroV P e = some z → z.cells.all V.flat1 = true → ids k = some (id, z.cells, e) → fget fr1 (n + k) = some (.p (some (id, 0))) → LK P n w0 ρ0 fr1 ids adr all k o m
  | read (u : V) : m ≠ o → m = { o with op := .move (.tmp (n + k)) } → ids k = none → fget fr1 (n + k) = some u →
      (∀ (ρ : Env) (a : Act) (w : World), ρ0.le ρ → GOk w.heap.size w → (∀ b, w0.keep b → w.heap[b]? = w0.w.heap[b]?) → (∀ x c, .tmp x ∈ o.op.operands.toList → adr x = some c → a.tmps[x]? = some c) → Does P w (execOp a.eval o) fun c w' => Rel ρ u c ∧ Goes w w') → LK P n w0 ρ0 fr1 ids adr all k o m
  | place (d : Nat) (c0 : Value) : m = { o with dst := none, op := .move markO } → ids k = none → o.dst = some d → adr d = some c0 → d < n → fget fr1 d = none → (∀ (j : Nat) (m' : Oper), all[j]? = some m' → m'.dst ≠ some d) →
      (∀ (a : Act) (w : World), GOk w.heap.size w → (∀ x c, .tmp x ∈ o.op.operands.toList → adr x = some c → a.tmps[x]? = some c) → Does P w (execOp a.eval o) fun c w' => c = c0 ∧ Goes w w') → LK P n w0 ρ0 fr1 ids adr all k o m
section
variable {P : Program} {E : FEnv} {n : Nat} {ops all : List Oper} {tbl : List Nat} {HS : Nat → Heap} {top : Nat} {N : Nat} {w0 : Ref} {ρ0 : Env} {fr1 : Fr} {ids : Nat → Option (Nat × List V × TypeId)} {adr : Nat → Option Value}
theorem LK.guard {k : Nat} {o m : Oper} (h : LK P n w0 ρ0 fr1 ids adr all k o m) : m.guard = o.guard := by
  cases h with
  | same e _ _ => rw [e]
  | early _ _ _ _ _ e => rw [e]
  | read _ _ e => rw [e]
  | place _ _ e => rw [e]
theorem LK.after {k : Nat} {o m : Oper} (h : LK P n w0 ρ0 fr1 ids adr all k o m) : anyEdges m = anyEdges o := by
  cases h with
  | same e _ _ => rw [e]
  | early _ _ _ _ _ e => rw [e]; rfl
  | read _ _ e => rw [e]; rfl
  | place _ _ e => rw [e]; rfl
theorem LK.dst {k : Nat} {o m : Oper} (h : LK P n w0 ρ0 fr1 ids adr all k o m) {d : Nat} (hd : m.dst = some d) : o.dst = some d := by
  cases h with
  | same e _ _ => rw [e] at hd; exact hd
  | early _ _ _ _ _ e => rw [e] at hd; exact hd
  | read _ _ e => rw [e] at hd; exact hd
  | place _ _ e => rw [e] at hd; cases hd
/-- every order, with variables made ahead and local variables read -/
theorem draw_soundL (hE : EnvOK P E) {frF : Fr} (hD : DT P E n all tbl HS top 0 all fr1 frF) (htop : top = cnt P all all.length) (hst : statOk P all tbl = true) (hal : all.length = ops.length)
    (hrel : ∀ (k : Nat) (o m : Oper), ops[k]? = some o → all[k]? = some m → LK P n w0 ρ0 fr1 ids adr all k o m)
    (hdep : ∀ (k : Nat) (o m : Oper), ops[k]? = some o → all[k]? = some m → m ≠ o → ∀ (x : Nat) (c : Value), .tmp x ∈ o.op.operands.toList → adr x = some c → ∀ (k' : Nat) (o' : Oper), ops[k']? = some o' → o'.dst = some x → k' ∈ anyEdges o ∧ (o'.guard = none ∨ o'.guard = o.guard ∧ k' < k))
    (hguard : ∀ (k : Nat) (o m : Oper), ops[k]? = some o → all[k]? = some m → m ≠ o → ∀ (j : Nat) (want : Bool) (d : Nat), o.guard = some (j, want) → j < k ∧ ((all[j]?).bind (·.dst) = some d → ∀ k2 : Nat, (all[k2]?).bind (·.dst) = some d → k2 = j))
    (hadst : ∀ (k : Nat) (o m : Oper) (x : Nat) (c : Value), ops[k]? = some o → all[k]? = some m → adr x = some c → o.dst = some x → m.dst = none)
    (hlen : ∀ k id vs e, ids k = some (id, vs, e) → k < ops.length) (hinj : ∀ k k' x x', ids k = some x → ids k' = some x' → x.1 = x'.1 → k = k') (hout : ∀ k id vs e vs' e', ids k = some (id, vs, e) → ¬ w0.resv id vs' e')
    {Q : Exit → Act → World → Prop}
    (hQ : ∀ ρ' a' w', ρ0.le ρ' → SR N w0 n ρ' (fcut n frF) (HS top) a' w' → (∀ x c, adr x = some c → (∀ (k : Nat) (o : Oper), ops[k]? = some o → o.dst = some x → o.guard = none) → a'.tmps[x]? = some c) → Q .normal a' w') {a0 : Act} {w1 : World} (hsz0 : a0.tmps.size = n) (hdf0 : a0.defers = []) (hh0 : HR N (w0.plus ids fun _ => false) ρ0 (HS 0) w1)
    (hfr0 : ∀ t u, t < n → fget fr1 t = some u → ∃ c, a0.tmps[t]? = some c ∧ Rel ρ0 u c) (hA0 : ∀ x c, adr x = some c → (∀ (k : Nat) (o : Oper), ops[k]? = some o → o.dst ≠ some x) → a0.tmps[x]? = some c) :
    wpAny P .any ops.toArray Q ops.length (Array.replicate ops.length false) a0 w1 := by
  obtain ⟨ht, hs⟩ := stat_spec hst
  obtain ⟨Fs, fs, run, v, e1, e2, hstep⟩ := hD.data
  simp only [Nat.zero_add] at e1 e2 hstep
  have hpair : ∀ k : Nat, k < ops.length → ∃ o m, ops[k]? = some o ∧ all[k]? = some m ∧ LK P n w0 ρ0 fr1 ids adr all k o m := fun k hk =>
    ⟨_, _, List.getElem?_eq_getElem hk, List.getElem?_eq_getElem (by omega), hrel k _ _ (List.getElem?_eq_getElem hk) (List.getElem?_eq_getElem (by omega))⟩
  have hdsts : ∀ (k d : Nat), (all[k]?).bind (·.dst) = some d → (ops[k]?).bind (·.dst) = some d := fun k d h => by
    cases hm : all[k]? with
    | none => rw [hm] at h; cases h
    | some m =>
      rw [hm] at h
      have hk : k < ops.length := by have := (List.getElem?_eq_some_iff.1 hm).1; omega
      obtain ⟨o, m', h1, h2, h3⟩ := hpair k hk
      rw [hm] at h2; cases h2
      rw [h1]
      exact h3.dst h
  have hlow : ∀ (j d : Nat), (all[j]?).bind (·.dst) = some d → d < n := fun j d h => by
    cases hj : all[j]? with
    | none => rw [hj] at h; cases h
    | some o =>
      rw [hj] at h
      have h' : o.dst = some d := h
      have := (hstep j o hj).1.dst
      rw [h'] at this
      simpa [dstOk] using this
  -- the text's frames
  have hF : ∀ k, k ≤ all.length → ∀ t, fget (Fs k) t = G all run v fr1 (fun _ => true) k t := by
    intro k
    induction k with
    | zero => intro _ t; rw [e1]; rfl
    | succ k ih =>
      intro hk t
      have hlt : k < all.length := by omega
      have := (hstep k all[k] (List.getElem?_eq_getElem hlt)).2 t
      rw [this]
      simp only [G, List.getElem?_eq_getElem hlt, Option.bind_some, true_and]
      rw [ih (by omega) t]
  have runNone : ∀ (k : Nat) (o : Oper), ops[k]? = some o → o.guard = none → run k = true := by
    intro k o hk hg
    obtain ⟨o', m, h1, h2, h3⟩ := hpair k (List.getElem?_eq_some_iff.1 hk).1
    rw [hk] at h1; cases h1
    rcases (hstep k m h2).1.guard with ⟨_, g2⟩ | ⟨j, want, d, x, g1, _⟩ | ⟨j, want, d, g1, _⟩
    · exact g2
    · rw [h3.guard, hg] at g1; cases g1
    · rw [h3.guard, hg] at g1; cases g1
  have after : ∀ (j d : Nat), (∀ k2 : Nat, (all[k2]?).bind (·.dst) = some d → k2 = j) → ∀ (q : Nat), j + 1 + q ≤ all.length → fget (Fs (j + 1 + q)) d = fget (Fs (j + 1)) d := by
    intro j d hu q
    induction q with
    | zero => intro _; rfl
    | succ q ih =>
      intro hq
      have hlt : j + 1 + q < all.length := by omega
      have := (hstep (j + 1 + q) all[j + 1 + q] (List.getElem?_eq_getElem hlt)).2 d
      rw [show j + 1 + (q + 1) = j + 1 + q + 1 by omega, this, if_neg, ih (by omega)]
      intro hd
      have := hu (j + 1 + q) (by rw [List.getElem?_eq_getElem hlt]; exact hd)
      omega
  have runSame : ∀ (k i : Nat) (o oi : Oper), ops[k]? = some o → ops[i]? = some oi → (∀ (j : Nat) (want : Bool) (d : Nat), oi.guard = some (j, want) → j < k ∧ j < i ∧ ((all[j]?).bind (·.dst) = some d → ∀ k2 : Nat, (all[k2]?).bind (·.dst) = some d → k2 = j)) → o.guard = oi.guard → run k = run i := by
    intro k i o oi hk hi hu hgg
    obtain ⟨o', m, h1, h2, h3⟩ := hpair k (List.getElem?_eq_some_iff.1 hk).1
    rw [hk] at h1; cases h1
    obtain ⟨oi', mi, h4, h5, h6⟩ := hpair i (List.getElem?_eq_some_iff.1 hi).1
    rw [hi] at h4; cases h4
    have hkl := (List.getElem?_eq_some_iff.1 h2).1
    have hil := (List.getElem?_eq_some_iff.1 h5).1
    have e1 := (hstep k m h2).1.guard
    have e2 := (hstep i mi h5).1.guard
    rw [h3.guard, hgg] at e1
    rw [h6.guard] at e2
    rcases e2 with ⟨g1, g2⟩ | ⟨j, want, d, x, g1, g2, g3, g4⟩ | ⟨j, want, d, g1, g2, g3, g4⟩
    · rcases e1 with ⟨_, f2⟩ | ⟨j, want, d, x, f1, _⟩ | ⟨j, want, d, f1, _⟩
      · rw [g2, f2]
      · rw [f1] at g1; cases g1
      · rw [f1] at g1; cases g1
    all_goals
      obtain ⟨u1, u2, u3⟩ := hu j want d g1
      have u3 := u3 g2
      have s1 : fget (Fs k) d = fget (Fs (j + 1)) d := by
        have := after j d u3 (k - (j + 1)) (by omega)
        rwa [show j + 1 + (k - (j + 1)) = k by omega] at this
      have s2 : fget (Fs i) d = fget (Fs (j + 1)) d := by
        have := after j d u3 (i - (j + 1)) (by omega)
        rwa [show j + 1 + (i - (j + 1)) = i by omega] at this
      rcases e1 with ⟨f1, f2⟩ | ⟨j', want', d', x', f1, f2, f3, f4⟩ | ⟨j', want', d', f1, f2, f3, f4⟩
      · rw [f1] at g1; cases g1
      · rw [f1] at g1
        cases g1
        rw [f2] at g2; cases g2
        rw [s1, ← s2, g3] at f3
        first
          | (cases f3; rw [f4, g4]; done)
          | cases f3
      · rw [f1] at g1
        cases g1
        rw [f2] at g2; cases g2
        rw [s1, ← s2, g3] at f3
        first
          | (cases f3; rw [f4, g4]; done)
          | cases f3
  have main : ∀ (fuel : Nat) (listed : Array Bool) (a : Act) (w : World) (ρ : Env), listed.size = all.length → Closed all listed → fuel + num all.length (fun j => listed.getD j false) = all.length → a.tmps.size = n → a.defers = [] → ρ0.le ρ →
      HR N (w0.plus ids fun j => listed.getD j false) ρ (HS (num all.length fun j => effAt P all j && listed.getD j false)) w → (∀ t u, t < n → G all run v fr1 (fun j => listed.getD j false) all.length t = some u → ∃ c, a.tmps[t]? = some c ∧ Rel ρ u c) →
      (∀ x c, adr x = some c → (∀ (k : Nat) (o : Oper), ops[k]? = some o → o.dst = some x → listed.getD k false = true ∧ run k = true) → a.tmps[x]? = some c) →
      wpAny P .any ops.toArray Q fuel listed a w := by
    intro fuel
    induction fuel with
    | zero =>
      intro listed a w ρ hsz hcl hnum hn hdf hle hh hg hA
      have hall := num_all (len := all.length) (p := fun j => listed.getD j false) (by omega)
      have hready : Region.ready .any ops.toArray listed = [] := by
        rw [List.eq_nil_iff_forall_not_mem]
        intro i hi
        obtain ⟨o, ho, h1, _⟩ := mem_ready' hi
        have hil : i < all.length := by rw [hal]; exact (List.getElem?_eq_some_iff.1 ho).1
        have := hall i hil
        simp only [Array.getD_eq_getD_getElem?] at this h1
        have hlt : i < listed.size := by omega
        simp [hlt] at this h1
        rw [this] at h1; cases h1
      have fin : Q .normal a w := by
        refine hQ ρ a w hle ⟨fun t u hu => ?_, hn, hdf, ?_⟩ (fun x c hx hng => hA x c hx fun k o hk hkd => ⟨hall k (by have := (List.getElem?_eq_some_iff.1 hk).1; omega), runNone k o hk (hng k o hk hkd)⟩)
        · rw [fget_fcut] at hu
          split at hu
          case isFalse => cases hu
          rename_i htn
          refine hg t u htn ?_
          rw [G_same (S' := fun _ => true) all.length (fun j hj _ => hall j hj), ← hF all.length (Nat.le_refl _), e2]; exact hu
        · have : (num all.length fun j => effAt P all j && listed.getD j false) = top := by
            rw [htop]; unfold cnt
            exact num_congr (q := effAt P all) fun j hj => by rw [hall j hj]; simp
          rw [← this]
          exact hh.ref rfl fun id vs e => ⟨.inr, fun h => h.elim (fun ⟨k, hk, hf⟩ => by
            have := hall k (by rw [hal]; exact hlen k id vs e hk)
            simp only at hf
            rw [this] at hf; cases hf) (fun x => x)⟩
      exact ⟨hready, fin⟩
    | succ fuel ih =>
      intro listed a w ρ hsz hcl hnum hn hdf hle hh hg hA
      refine ⟨fun hready => ?_, fun i hi => ?_⟩
      · -- nothing is ready: all is listed: but something is left
        exfalso
        have hall : ∀ j, j < all.length → listed.getD j false = true := by
          intro j
          induction j using Nat.strongRecOn with
          | _ j ihj =>
            intro hj
            rcases hlj : listed.getD j false with _ | _
            · exfalso
              have hor : all[j]? = some all[j] := List.getElem?_eq_getElem hj
              have hlt : j < listed.size := by omega
              have h1 : listed.getD j true = false := by simp [Array.getD_eq_getD_getElem?, hlt] at hlj ⊢; exact hlj
              have hol : j < ops.length := by omega
              have hoe : anyEdges ops[j] = anyEdges all[j] := (hrel j _ _ (List.getElem?_eq_getElem hol) hor).after.symm
              have := ready_of (List.getElem?_eq_getElem hol) h1 fun e he => ihj e ((tbl_spec ht hor).1 e (hoe ▸ he)) (by have := (tbl_spec ht hor).1 e (hoe ▸ he); omega)
              rw [hready] at this; cases this
            · rfl
        have : num all.length (fun j => listed.getD j false) = num all.length (fun _ => true) := num_congr fun j hj => hall j hj
        have h3 : num all.length (fun _ => true) = all.length := by unfold num; rw [List.filter_eq_self.2 (fun _ _ => rfl), List.length_range]
        omega
      · obtain ⟨o1, ho1, hnl, hdeps1⟩ := mem_ready' hi
        obtain ⟨o1', o, ho1', ho, hlk⟩ := hpair i (List.getElem?_eq_some_iff.1 ho1).1
        rw [ho1] at ho1'; cases ho1'
        have hgo : o1.guard = o.guard := hlk.guard.symm
        have hdeps : ∀ e ∈ anyEdges o, listed.getD e false = true := by rw [hlk.after]; exact hdeps1
        have hil := (List.getElem?_eq_some_iff.1 ho).1
        have hils : i < listed.size := by omega
        have hnl' : listed.getD i false = false := by simp [Array.getD_eq_getD_getElem?, hils] at hnl ⊢; exact hnl
        obtain ⟨st, hnext⟩ := hstep i o ho
        -- what stands behind and ahead
        have back : ∀ j, j < all.length → hasBit tbl i j = true → listed.getD j false = true := fun j hj hb => hcl.bit ht i j o ho hj hdeps hb
        have ahead : ∀ j, j < all.length → hasBit tbl j i = true → listed.getD j false = false := by
          intro j hj hb
          rcases hlj : listed.getD j false with _ | _
          · rfl
          · have := hcl.bit ht j i all[j] (List.getElem?_eq_getElem hj) hil (hcl j all[j] (List.getElem?_eq_getElem hj) hlj) hb
            rw [this] at hnl'; cases hnl'
        -- slots that the operation names read as in the text
        have slot : ∀ t, t ∈ namesOf all o → G all run v fr1 (fun j => listed.getD j false) all.length t = fget (Fs i) t := by
          intro t htn
          rw [hF i (by omega), show all.length = i + (all.length - i) by omega, G_later i (all.length - i), G_same (S' := fun _ => true) i]
          · intro j hj hd
            have hjl : j < all.length := by omega
            have hdj : all[j].dst = some t := by simpa [List.getElem?_eq_getElem hjl] using hd
            rcases hs j i all[j] o hj (List.getElem?_eq_getElem hjl) ho with hb | ⟨hc, _⟩
            · exact back j hjl hb
            · exact absurd htn (clash_dst hc hdj).1
          · intro j hij hj hd
            by_cases hji : j = i
            · subst hji; exact hnl'
            have hjl : j < all.length := by omega
            have hdj : all[j].dst = some t := by simpa [List.getElem?_eq_getElem hjl] using hd
            rcases hs i j o all[j] (by omega) ho (List.getElem?_eq_getElem hjl) with hb | ⟨hc, _⟩
            · exact ahead j hjl hb
            · exact absurd htn (clash_dst' hc hdj).1
        -- the slot that it writes is written by none that is listed behind it
        have later : ∀ d, o.dst = some d → ∀ j, i < j → j < all.length → (all[j]?).bind (·.dst) = some d → listed.getD j false = false := by
          intro d hd j hij hjl hdj
          have hdj' : all[j].dst = some d := by simpa [List.getElem?_eq_getElem hjl] using hdj
          rcases hs i j o all[j] hij ho (List.getElem?_eq_getElem hjl) with hb | ⟨hc, _⟩
          · exact ahead j hjl hb
          · exact absurd hdj' (clash_dst hc hd).2
        have hset : ∀ j, (listed.setIfInBounds i true).getD j false = if j = i then true else listed.getD j false := by
          intro j
          simp only [Array.getD_eq_getD_getElem?, Array.getElem?_setIfInBounds]
          by_cases e : j = i
          · subst e; simp [hils]
          · rw [if_neg (fun h => e h.symm), if_neg e]
        have hcl' : Closed all (listed.setIfInBounds i true) := by
          intro j oj hoj hlj e he
          rw [hset] at hlj ⊢
          split
          · rfl
          · split at hlj
            · rename_i _ hji; subst hji
              rw [ho] at hoj; cases hoj
              exact hdeps e he
            · exact hcl j oj hoj hlj e he
        have hnum' : fuel + num all.length (fun j => (listed.setIfInBounds i true).getD j false) = all.length := by
          rw [num_set (p := fun j => listed.getD j false) hil hnl' (by rw [hset]; simp) (fun j hj => by rw [hset, if_neg hj])]
          omega
        -- the heap's place
        have hplace : effO P o.op = true → (num all.length fun j => effAt P all j && listed.getD j false) = cnt P all i := by
          intro he
          have heff : effAt P all i = true := by simp [effAt, ho, he]
          have h1 : cnt P all i = num i (effAt P all) := rfl
          rw [h1, ← num_lt (len := all.length) (m := i) (by omega)]
          refine num_congr fun j hj => ?_
          rcases hej : effAt P all j with _ | _
          · rfl
          · simp only [Bool.true_and]
            have hoj : all[j]? = some all[j] := List.getElem?_eq_getElem hj
            have hej' : effO P all[j].op = true := by simpa [effAt, hoj] using hej
            rcases Nat.lt_trichotomy j i with h | h | h
            · simp only [h, decide_true]
              rcases hs j i all[j] o h hoj ho with hb | ⟨_, hc⟩
              · exact back j hj hb
              · rw [hej', he] at hc; cases hc
            · subst h; rw [hnl']; simp
            · have : decide (j < i) = false := by simp; omega
              rw [this]
              rcases hs i j o all[j] h ho hoj with hb | ⟨_, hc⟩
              · exact ahead j hj hb
              · rw [hej', he] at hc; cases hc
        have hplace1 : effO P o.op = true → (num all.length fun j => effAt P all j && (listed.setIfInBounds i true).getD j false) = cnt P all i + 1 := by
          intro he
          rw [← hplace he]
          exact num_set hil (by rw [hnl']; simp) (by rw [hset]; simp [effAt, ho, he]) (fun j hj => by rw [hset, if_neg hj])
        have hplace0 : effO P o.op = false → (num all.length fun j => effAt P all j && (listed.setIfInBounds i true).getD j false) = (num all.length fun j => effAt P all j && listed.getD j false) := by
          intro he
          refine num_congr fun j hj => ?_
          rw [hset]
          by_cases e : j = i
          · subst e; simp [effAt, ho, he]
          · rw [if_neg e]
        -- what the frame holds behind it
        have frame : ∀ (ρ' : Env) (a' : Act), ρ.le ρ' → (∀ t, o1.dst ≠ some t → a'.tmps[t]? = a.tmps[t]?) → (∀ d, o.dst = some d → run i = true → ∃ c, a'.tmps[d]? = some c ∧ Rel ρ' (v i) c) → (∀ d, o.dst = some d → run i = false → a'.tmps[d]? = some undef) →
            ∀ t u, t < n → G all run v fr1 (fun j => (listed.setIfInBounds i true).getD j false) all.length t = some u → ∃ c, a'.tmps[t]? = some c ∧ Rel ρ' u c := by
          intro ρ' a' hl ho2 hd1 hd0 t u htn hu
          by_cases hdt : o.dst = some t
          · rw [show all.length = (i + 1) + (all.length - (i + 1)) by omega, G_later (i + 1) (all.length - (i + 1)) (fun j hj hjl hdj => by rw [hset, if_neg (by omega)]; exact later t hdt j (by omega) (by omega) hdj)] at hu
            simp only [G] at hu
            rw [if_pos ⟨by rw [hset]; simp, by simp [ho, hdt]⟩] at hu
            split at hu
            · rename_i hr
              obtain rfl : v i = u := by simpa using hu
              exact hd1 t hdt hr
            · rename_i hr
              obtain rfl : V.tup [] = u := by simpa using hu
              exact ⟨undef, hd0 t hdt (by simpa using hr), .tup _ _ .nil⟩
          · rw [G_same (S' := fun j => listed.getD j false) all.length (fun j hj hdj => by
              rw [hset]
              by_cases e : j = i
              · subst e; exact absurd (by simpa [ho] using hdj) hdt
              · rw [if_neg e])] at hu
            obtain ⟨c, hc, hr⟩ := hg t u htn hu
            by_cases hdt1 : o1.dst = some t
            · -- a place: no slot of the machine's
              cases hlk with
              | same e _ _ => rw [e] at hdt; exact absurd hdt1 hdt
              | early _ _ _ _ _ e => rw [e] at hdt; exact absurd hdt1 hdt
              | read _ _ e => rw [e] at hdt; exact absurd hdt1 hdt
              | place d c0 e0 _ e1 _ _ e2 e3 _ =>
                rw [e1] at hdt1; cases hdt1
                have hno : G all run v fr1 (fun j => listed.getD j false) all.length t = none := by
                  rw [show all.length = 0 + all.length by omega, G_later 0 all.length (fun j _ hj hd => by
                    have hoj : all[j]? = some all[j] := List.getElem?_eq_getElem (by omega)
                    exact absurd (by simpa [hoj] using hd) (e3 j all[j] hoj))]
                  exact e2
                rw [hno] at hu; cases hu
            · exact ⟨c, by rw [ho2 t hdt1]; exact hc, hr.mono hl⟩
        -- the places behind it
        have places : ∀ (a' : Act), (∀ t, o1.dst ≠ some t → a'.tmps[t]? = a.tmps[t]?) → (∀ d c, o1.dst = some d → adr d = some c → run i = true → a'.tmps[d]? = some c) →
            ∀ x c, adr x = some c → (∀ (k : Nat) (ok : Oper), ops[k]? = some ok → ok.dst = some x → (listed.setIfInBounds i true).getD k false = true ∧ run k = true) → a'.tmps[x]? = some c := by
          intro a' h1 h2 x c hx hl
          by_cases hd : o1.dst = some x
          · exact h2 x c hd hx (hl i o1 ho1 hd).2
          · rw [h1 x hd]
            refine hA x c hx fun k ok hk hkd => ?_
            have := (hl k ok hk hkd).1
            rw [hset] at this
            split at this
            · rename_i e; subst e; rw [ho1] at hk; cases hk; exact absurd hkd hd
            · exact ⟨this, (hl k ok hk hkd).2⟩
        have nplace : o.dst = o1.dst → ∀ d c, o1.dst = some d → adr d = some c → False := fun e d c hd hc => by
          have := hadst i o1 o d c ho1 ho hc hd
          rw [e, hd] at this; cases this
        -- is it wanted?
        have hwanted : Region.wanted o1 (yielded ops.toArray a.tmps) = run i := by
          rcases st.guard with ⟨g1, g2⟩ | ⟨j, want, d, x, g1, g2, g3, g4⟩ | ⟨j, want, d, g1, g2, g3, g4⟩
          · rw [g2]; exact wanted_none (hgo.trans g1)
          · have hdn : d ∈ namesOf all o := by simp [namesOf, g1, g2]
            have := slot d hdn
            rw [g3] at this
            obtain ⟨c, hc, hr⟩ := hg d _ (hlow j d g2) this
            cases hr
            have hy := yielded_of (ops := ops.toArray) (j := j) (by simpa using hdsts _ _ g2) hc
            simp [Region.wanted, hgo, g1, hy, g4]
          · have hdn : d ∈ namesOf all o := by simp [namesOf, g1, g2]
            have := slot d hdn
            rw [g3] at this
            obtain ⟨c, hc, hr⟩ := hg d _ (hlow j d g2) this
            cases hr with
            | tup _ xs hrs =>
            cases hrs
            have hy : yielded ops.toArray a.tmps j = none := yielded_none (by simpa using hdsts _ _ g2) hc
            simp [Region.wanted, hgo, g1, hy, g4]
        have ho' : ops.toArray[i]? = some o1 := by simpa using ho1
        -- the names that are left open
        have hopen : ids i = none → HR N (w0.plus ids fun j => listed.getD j false) = HR N (w0.plus ids fun j => (listed.setIfInBounds i true).getD j false) := fun hn => by
          refine congrArg _ ?_
          unfold Ref.plus
          congr 1
          funext id vs e
          refine propext ⟨?_, ?_⟩
          · rintro (⟨k, hk, hS⟩ | h)
            · have hki : k ≠ i := by rintro rfl; rw [hn] at hk; cases hk
              exact .inl ⟨k, hk, by show (listed.setIfInBounds i true).getD k false = false; rw [hset, if_neg hki]; exact hS⟩
            · exact .inr h
          · rintro (⟨k, hk, hS⟩ | h)
            · have hki : k ≠ i := by rintro rfl; rw [hn] at hk; cases hk
              exact .inl ⟨k, hk, by have hS' : (listed.setIfInBounds i true).getD k false = false := hS; rw [hset, if_neg hki] at hS'; exact hS'⟩
            · exact .inr h
        unfold wpOp
        rw [ho']
        simp only [hwanted]
        cases hrun : run i with
        | false =>
          simp only [Bool.false_eq_true, if_false]
          have hgn : o1.guard ≠ none := by
            rcases st.guard with ⟨g1, g2⟩ | ⟨j, want, d, x, g1, _⟩ | ⟨j, want, d, g1, _⟩
            · rw [hrun] at g2; cases g2
            · rw [hgo, g1]; simp
            · rw [hgo, g1]; simp
          have hid : ids i = none := by
            cases hlk with
            | same e h1 _ => exact h1
            | early _ _ _ _ h1 => exact absurd h1 hgn
            | read _ _ _ h1 => exact h1
            | place _ _ _ h1 => exact h1
          have hdsub : ∀ d, o.dst = some d → o1.dst = some d := fun d hd => hlk.dst hd
          rw [hopen hid] at hh
          have hput : ∀ t, o1.dst ≠ some t → (a.put o1.dst undef).tmps[t]? = a.tmps[t]? := by
            intro t htd
            cases hd : o1.dst with
            | none => rfl
            | some d =>
              simp only [Act.put, Array.getElem?_setIfInBounds]
              rw [if_neg (fun e => htd (by rw [hd, e]))]
          refine ih _ _ w ρ (by simpa using hsz) hcl' hnum' (by cases o1.dst <;> simpa [Act.put] using hn) (by cases o1.dst <;> simpa [Act.put] using hdf) hle ?_ (frame ρ _ ρ.le_refl hput (fun d _ hr => by rw [hrun] at hr; cases hr) (fun d hd _ => by
            have hdn : LT.lt (α := Nat) d n := by have := st.dst; rw [hd] at this; simpa [dstOk] using this
            rw [hdsub d hd]; simp [Act.put, hn, hdn])) (places _ hput fun d c hd hc hr => by rw [hrun] at hr; cases hr)
          cases he : effO P o.op with
          | true =>
            rw [hplace1 he, st.skip hrun he, ← hplace he]; exact hh
          | false => rw [hplace0 he]; exact hh
        | true =>
          simp only [if_true]
          have hput : ∀ (c : Value) (t : Nat), o1.dst ≠ some t → (a.put o1.dst c).tmps[t]? = a.tmps[t]? := by
            intro c t htd
            cases hd : o1.dst with
            | none => rfl
            | some d =>
              simp only [Act.put, Array.getElem?_setIfInBounds]
              rw [if_neg (fun e => htd (by rw [hd, e]))]
          have hsizes : ∀ c, (a.put o1.dst c).tmps.size = n := fun c => by cases o1.dst <;> simpa [Act.put] using hn
          have hdfs : ∀ c, (a.put o1.dst c).defers = [] := fun c => by cases o1.dst <;> simpa [Act.put] using hdf
          have hputd : ∀ (c : Value) (d : Nat), o1.dst = some d → d < n → (a.put o1.dst c).tmps[d]? = some c := fun c d hd hdn => by rw [hd]; simp [Act.put, hn, hdn]
          have moved : o.op = .move (.tmp (n + i)) → ∀ u, fget fr1 (n + i) = some u → effO P o.op = false ∧ v i = u := by
            intro he3 u z4
            have he : effO P o.op = false := by rw [he3]; rfl
            refine ⟨he, ?_⟩
            have hq : loOf P all tbl i ≤ hiOf P all tbl i ∧ loOf P all tbl i ≤ top := by
              refine ⟨num_le (p := fun j => effAt P all j && hasBit tbl i j) (q := fun j => effAt P all j && !hasBit tbl j i) fun j hj hp => ?_, by rw [htop]; exact num_le (p := fun j => effAt P all j && hasBit tbl i j) (q := effAt P all) fun j hj hp => by simp only [Bool.and_eq_true] at hp; exact hp.1⟩
              simp only [Bool.and_eq_true, Bool.not_eq_true'] at hp ⊢
              refine ⟨hp.1, ?_⟩
              rcases hb : hasBit tbl j i with _ | _
              · rfl
              · have a1 := back j hj hp.2
                rw [ahead j hj hb] at a1; cases a1
            have h1 := st.read hrun he (loOf P all tbl i) (Nat.le_refl _) hq.1 hq.2
            rw [he3] at h1
            have h2 : fget (fs i) (n + i) = some u := by
              rw [st.same, hF i (by omega), show i = 0 + i by omega, G_later 0 i (fun j _ hj hd => by have := hlow j _ hd; omega)]
              simpa [G] using z4
            simp only [evOp, evalO, Nat.zero_add, h2, Option.bind_some, ret2, Option.some.injEq, Prod.mk.injEq] at h1
            exact h1.1.symm
          have hreads : o ≠ o1 → ∀ x c, .tmp x ∈ o1.op.operands.toList → adr x = some c → a.tmps[x]? = some c := fun hne x c hx hxc =>
            hA x c hxc fun k ok hk hkd => by
              obtain ⟨h1, h2⟩ := hdep i o1 o ho1 ho hne x c hx hxc k ok hk hkd
              refine ⟨hdeps1 k h1, ?_⟩
              rcases h2 with h2 | ⟨h2, h3⟩
              · exact runNone k ok hk h2
              · refine (runSame k i ok o1 hk ho1 (fun j want d hg => ?_) h2).trans hrun
                have hkm : k < all.length := by have := (List.getElem?_eq_some_iff.1 hk).1; omega
                have hgk : all[k]? = some all[k] := List.getElem?_eq_getElem hkm
                by_cases hkne : all[k] = ok
                · -- the step that makes the place is converted itself
                  exact absurd (hadst k ok all[k] x c hk hgk hxc hkd) (by rw [hkne, hkd]; simp)
                · obtain ⟨a1, _⟩ := hguard k ok all[k] hk hgk hkne j want d (h2.trans hg)
                  obtain ⟨b1, b2⟩ := hguard i o1 o ho1 ho hne j want d hg
                  exact ⟨a1, b1, b2⟩
          cases hlk with
          | read u hne he3 hid z4 hgive =>
            have hmo : o.op = .move (.tmp (n + i)) := by rw [he3]
            have hdo : o.dst = o1.dst := by rw [he3]
            obtain ⟨he, hvi⟩ := moved hmo u z4
            refine .inl ((hgive ρ a w hle (hh.glob.below hh.below hh.nle) (fun b hb => (hh.kept b hb).2.1) (hreads hne)).wp fun c w' hp => ?_)
            obtain ⟨hru, hbel⟩ := hp
            have hh' := hh.over hbel
            rw [hopen hid] at hh'
            refine ih _ _ w' ρ (by simpa using hsz) hcl' hnum' (hsizes c) (hdfs c) hle (by rw [hplace0 he]; exact hh') (frame ρ _ ρ.le_refl (hput c) (fun d hd _ => ⟨c, ?_, by rw [hvi]; exact hru⟩) (fun d _ hr => by rw [hrun] at hr; cases hr)) (places _ (hput c) fun d c hd hc _ => (nplace hdo d c hd hc).elim)
            exact hputd c d (hdo ▸ hd) (hlow i d (by rw [ho]; exact hd))
          | place d c0 he3 hid hd0 hc0 hdn hfr hnone hgive =>
            have hne : o ≠ o1 := fun e => by
              have h1 : o.dst = none := by rw [he3]
              rw [e, hd0] at h1; cases h1
            have hdo : o.dst = none := by rw [he3]
            have he : effO P o.op = false := by rw [he3]; rfl
            refine .inl ((hgive a w (hh.glob.below hh.below hh.nle) (hreads hne)).wp fun c w' hp => ?_)
            obtain ⟨rfl, hbel⟩ := hp
            have hh' := hh.over hbel
            rw [hopen hid] at hh'
            refine ih _ _ w' ρ (by simpa using hsz) hcl' hnum' (hsizes c) (hdfs c) hle (by rw [hplace0 he]; exact hh') (frame ρ _ ρ.le_refl (hput c) (fun d hd _ => by rw [hdo] at hd; cases hd) (fun d _ hr => by rw [hrun] at hr; cases hr)) (places _ (hput c) fun d' c' hd hc _ => ?_)
            rw [hd0] at hd; cases hd
            rw [hc0] at hc; cases hc
            exact hputd c d hd0 hdn
          | early e id z he1 he2 he3 z1 z2 z3 z4 =>
            -- a variable that the machine has made ahead
            have hmo : o.op = .move (.tmp (n + i)) := by rw [he3]
            have hdo : o.dst = o1.dst := by rw [he3]
            obtain ⟨he, hvi⟩ := moved hmo _ z4
            have hal1 : evOp P E (fun _ => none) noHeap o1.op o1.type ret2 = some (.p (some (0, 0)), noHeap.new (.cells z.cells e false)) := by
              rw [he1]; simp [evOp, z1, ret2, noHeap]
            have hdoes := evOp_sound hE (HR.void w (hh.glob.below hh.below hh.nle)) (e := a.eval) (val := fun _ => none) (fun x u hu => by cases hu) o1 hal1
            refine .inl ?_
            refine hdoes.wp fun c w' hp => ?_
            obtain ⟨u, H2, ρ2, h1, h2, h3, h4⟩ := hp
            obtain ⟨rfl, rfl⟩ : u = .p (some (0, 0)) ∧ H2 = noHeap.new (.cells z.cells e false) := by
              simp only [ret2, Option.some.injEq, Prod.mk.injEq] at h4; exact h4
            have hbel : Goes w w' := ⟨h3.below, h3.drew⟩
            rcases h3.obj 0 (.cells z.cells e false) (by simp [noHeap]) with ⟨_, _, hF0⟩ | ⟨b, hb, hor⟩
            · exact hF0.elim
            obtain ⟨b2, hb2, rfl⟩ := h2.p'
            rw [hb] at hb2; cases hb2
            have hobN : w.heap.size ≤ b.blk := hor.ownN rfl
            have hor' : ORel N ρ w' b (.cells z.cells e false) := by
              obtain ⟨cc, fz, k1, k2, k3, k4⟩ := hor
              refine ⟨cc, fz, k1, k2, fun j v hj => ?_, fun hf => ⟨Nat.le_trans hh.nle (k4 hf).1, (k4 hf).2⟩⟩
              obtain ⟨x, x1, x2⟩ := k3 j v hj
              exact ⟨x, x1, flat1_rel (List.all_eq_true.1 z2 v (List.mem_of_getElem? hj)) x2⟩
            have hh' := hh.over hbel
            obtain ⟨ha, hle'⟩ := hh'.arrive (r := w0.plus ids fun j => (listed.setIfInBounds i true).getD j false) (id := id) (vs := z.cells) (e := e) (.inl ⟨i, z3, hnl'⟩) hor'
              (fun j oj bj hj hbj => by have := (hh.rel hj hbj).lt; omega) rfl
              (fun j vs' e' hj => by
                rcases hj with ⟨k, hk, hS⟩ | hj
                · have hki : k ≠ i := by
                    rintro rfl
                    simp only [hset, if_true] at hS; cases hS
                  refine ⟨.inl ⟨k, hk, by simp only [hset, if_neg hki] at hS; exact hS⟩, ?_⟩
                  rintro rfl
                  exact hki (hinj k i _ _ hk z3 rfl)
                · refine ⟨.inr hj, ?_⟩
                  rintro rfl
                  exact hout i _ _ _ _ _ z3 hj)
              (fun j vs' e' hj => by
                rcases hj with ⟨k, hk, hS⟩ | hj
                · by_cases hki : k = i
                  · subst hki
                    rw [z3] at hk
                    simp only [Option.some.injEq, Prod.mk.injEq] at hk
                    exact .inl hk.1.symm
                  · exact .inr (.inl ⟨k, hk, by simp only [hset, if_neg hki]; exact hS⟩)
                · exact .inr (.inr hj))
              rfl (fun k hk => by have := (hh.kept k hk).1; omega)
            refine ih _ _ w' _ (by simpa using hsz) hcl' hnum' (hsizes _) (hdfs _) (hle.trans hle') ?_ (frame _ _ hle' (hput _) (fun d hd _ => ⟨.pointer (some ⟨b.blk, b.off + 0, none⟩), ?_, ?_⟩) (fun d _ hr => by rw [hrun] at hr; cases hr)) (places _ (hput _) fun d c hd hc _ => (nplace hdo d c hd hc).elim)
            · rw [hplace0 he]; exact ha
            · exact hputd _ d (hdo ▸ hd) (hlow i d (by rw [ho]; exact hd))
            · rw [hvi]; exact .p id 0 b (by simp)
          | same hoo1 hid hin =>
          subst hoo1
          rw [hopen hid] at hh
          -- the operation, at the heap that stands now
          have hev : ∃ H', evOp P E (evalO (fs i)) (HS (num all.length fun j => effAt P all j && listed.getD j false)) o.op o.type ret2 = some (v i, H') ∧ H' = HS (num all.length fun j => effAt P all j && (listed.setIfInBounds i true).getD j false) := by
            cases he : effO P o.op with
            | true => exact ⟨_, by rw [hplace he]; exact st.eff hrun he, by rw [hplace1 he]⟩
            | false =>
              refine ⟨_, st.read hrun he _ ?_ ?_ ?_, by rw [hplace0 he]⟩
              · refine num_le (p := fun j => effAt P all j && hasBit tbl i j) fun j hj hp => ?_
                simp only [Bool.and_eq_true] at hp ⊢
                exact ⟨hp.1, back j hj hp.2⟩
              · refine num_le (q := fun j => effAt P all j && !hasBit tbl j i) fun j hj hp => ?_
                simp only [Bool.and_eq_true, Bool.not_eq_true'] at hp ⊢
                refine ⟨hp.1, ?_⟩
                rcases hb : hasBit tbl j i with _ | _
                · rfl
                · have := ahead j hj hb; rw [this] at hp; cases hp.2
              · rw [htop]
                exact num_le (q := effAt P all) fun j hj hp => by simp only [Bool.and_eq_true] at hp; exact hp.1
          obtain ⟨H', hev, hH'⟩ := hev
          have hops : ∀ x ∈ o.op.operands.toList, ∀ u, evalO (fs i) x = some u → Rel ρ u (a.eval x) := by
            intro x hx u hu
            cases x with
            | tmp t =>
              have htn : t ∈ namesOf all o := by
                simp only [namesOf, tmpsOf, List.mem_append, List.mem_filterMap]
                exact .inl ⟨.tmp t, hx, rfl⟩
              have h1 : fget (fs i) t = some u := hu
              rw [st.same t, ← slot t htn] at h1
              obtain ⟨c, hc, hr⟩ := hg t u (hin t htn) h1
              simpa [Act.eval, Array.getD_eq_getD_getElem?, hc] using hr
            | const c => exact ofValue_sound hu
            | global g => cases hu
            | func f =>
              simp [evalO] at hu; subst hu
              exact .fn (.func f) [] [] [] [] .nil .nil
          have hcon : evOp P E (fun x => open Classical in if x ∈ o.op.operands.toList then evalO (fs i) x else none) (HS (num all.length fun j => effAt P all j && listed.getD j false)) o.op o.type ret2 = some (v i, H') := by
            rw [← hev]; exact evOp_congr fun x hx => by simp [hx]
          have hdoes := evOp_sound hE hh (e := a.eval) (val := fun x => open Classical in if x ∈ o.op.operands.toList then evalO (fs i) x else none) (fun x u hu => by
            by_cases hx : x ∈ o.op.operands.toList
            · simp only [hx, if_true] at hu; exact hops x hx u hu
            · simp only [hx, if_false] at hu; cases hu) o hcon
          refine .inl (hdoes.wp fun c w' hp => ?_)
          obtain ⟨u, H2, ρ', h1, h2, h3, h4⟩ := hp
          obtain ⟨rfl, rfl⟩ : u = v i ∧ H2 = H' := by simpa [ret2] using h4
          subst hH'
          refine ih _ _ w' ρ' (by simpa using hsz) hcl' hnum' (hsizes c) (hdfs c) (hle.trans h1) h3 (frame ρ' _ h1 (hput c) (fun d hd _ => ⟨c, ?_, h2⟩) (fun d _ hr => by rw [hrun] at hr; cases hr)) (places _ (hput c) fun d c hd hc _ => (nplace rfl d c hd hc).elim)
          exact hputd c d hd (by have := st.dst; rw [hd] at this; simpa [dstOk] using this)
  rw [← hal]
  refine main all.length _ a0 w1 ρ0 (by simp) ?_ ?_ hsz0 hdf0 ρ0.le_refl ?_ ?_ ?_
  · intro j o ho hl
    simp only [Array.getD_eq_getD_getElem?, Array.getElem?_replicate] at hl
    split at hl <;> simp at hl
  · have : num all.length (fun j => (Array.replicate all.length false).getD j false) = num all.length (fun _ => false) := num_congr fun j hj => by simp [Array.getD_eq_getD_getElem?, hj]
    rw [this]
    have h0' : num all.length (fun _ => false) = 0 := by unfold num; simp
    omega
  · have : (num all.length fun j => effAt P all j && (Array.replicate all.length false).getD j false) = num all.length (fun _ => false) := num_congr fun j hj => by simp [Array.getD_eq_getD_getElem?, hj]
    have h0' : num all.length (fun _ => false) = 0 := by unfold num; simp
    rw [this, h0']
    have e0 : (w0.plus ids fun j => (Array.replicate all.length false).getD j false) = w0.plus ids fun _ => false := by
      unfold Ref.plus
      congr 1
      funext id vs e
      refine propext ⟨fun h => h.imp (fun ⟨k, hk, _⟩ => ⟨k, hk, rfl⟩) (fun x => x), fun h => h.imp (fun ⟨k, hk, _⟩ => ⟨k, hk, by simp only [Array.getD_eq_getD_getElem?, Array.getElem?_replicate]; split <;> rfl⟩) (fun x => x)⟩
    rw [e0]; exact hh0
  · intro t u htn hu
    rw [show all.length = 0 + all.length by omega, G_later 0 all.length (fun j _ hj _ => by simp [Array.getD_eq_getD_getElem?, show j < all.length by omega])] at hu
    exact hfr0 t u htn hu
  · intro x c hx hl
    refine hA0 x c hx fun k o hk hkd => ?_
    have := (hl k o hk hkd).1
    simp only [Array.getD_eq_getD_getElem?, Array.getElem?_replicate] at this
    split at this <;> simp at this

end
end Go.Proofs.Ytnlfkllnmobppaa.AM

/- What is read ahead in a region whose order is drawn. -/
namespace Go.Proofs.Ytnlfkllnmobppaa.AM
open Go Go.RowKit
set_option linter.unusedVariables false
set_option linter.unusedSimpArgs false

/-- what preL makes of an operation -/
inductive PK (P : Program) (n : Nat) (fr' : Fr) (ids : Nat → Option (Nat × List V × TypeId)) (i : Nat) (o m : Oper) : Prop
  | same : m = o → ids i = none → PK P n fr' ids i o m
  | early (e : TypeId) (id : Nat) (z : V) : o.op = .alloc e → o.guard = none → m = { o with op := .move (.tmp (n + i)) } → zeroV P e = some z → z.cells.all V.flat1 = true → ids i = some (id, z.cells, e) → fget fr' (n + i) = some (.p (some (id, 0))) → PK P n fr' ids i o m
  | read (cs : List V) (t : TypeId) (off : Nat) (u : V) (x : Nat) (q : Nat × Nat) : m = { o with op := .move (.tmp (n + i)) } → ids i = none → o.op = .load t (.tmp x) → adrK fr' x = some q → off = q.2 → locK fr' q.1 = some cs → ldL P cs t off some = some u → fget fr' (n + i) = some u → PK P n fr' ids i o m
  | place (d : Nat) (q : Nat × Nat) : m = { o with dst := none, op := .move markO } → ids i = none → o.dst = some d → d < n → placeOf P fr' o.op = some q → adrK fr' d = some q → fget fr' d = none → PK P n fr' ids i o m

section
variable {R S : Type} {P : Program}
theorem ldL_lin {cs : List V} {t : TypeId} {off : Nat} {k : S → Option R} {f : V → Option R} {g : V → Option S} (h : ∀ v, f v = (g v).bind k) : ldL P cs t off f = (ldL P cs t off g).bind k := by
  unfold ldL
  split
  · split
    · split
      · exact il0 (exCs_lin _ _ fun _ => h _)
      · rfl
    · split
      · exact exC_lin h
      · rfl
  · rfl
end
section
variable {P : Program} {N : Nat} {w0 : Ref} {w : World} {ρ : Env} {n : Nat}
theorem adrK_iff {fr : Fr} {x : Nat} {q : Nat × Nat} : adrK fr x = some q ↔ fget fr (1000000 + x) = some (.p (some q)) := by
  constructor
  · exact adrK_eq
  · intro h; unfold adrK; rw [h]
theorem locK_iff {fr : Fr} {k : Nat} {cs : List V} : locK fr k = some cs ↔ fget fr (500000 + k) = some (.agg cs) := by
  constructor
  · exact locK_eq
  · intro h; unfold locK; rw [h]
/-- places that are known stay known -/
theorem placeOf_mono {fr fr' : Fr} (h : ∀ x q, adrK fr x = some q → adrK fr' x = some q) {op : Op} {q : Nat × Nat} (hp : placeOf P fr op = some q) : placeOf P fr' op = some q := by
  have ho : ∀ y q, adrO fr y = some q → adrO fr' y = some q := by
    intro y q hy
    cases y with
    | tmp x => exact h x q hy
    | _ => cases hy
  cases op with
  | fieldAddr s a f =>
    obtain ⟨q0, h1, h2⟩ := Option.bind_eq_some_iff.1 hp
    exact Option.bind_eq_some_iff.2 ⟨q0, ho _ _ h1, h2⟩
  | indexAddr t a ix =>
    obtain ⟨q0, h1, h2⟩ := Option.bind_eq_some_iff.1 hp
    exact Option.bind_eq_some_iff.2 ⟨q0, ho _ _ h1, h2⟩
  | nilCheck a => exact ho _ _ hp
  | move a => exact ho _ _ hp
  | _ => cases hp
theorem readOf_eq {fr : Fr} {op : Op} {cs : List V} {t : TypeId} {off : Nat} (h : readOf fr op = some (cs, t, off)) : ∃ x q, op = .load t (.tmp x) ∧ adrK fr x = some q ∧ off = q.2 ∧ q.1 < 500000 ∧ locK fr q.1 = some cs := by
  cases op with
  | load t' a =>
    obtain ⟨q, h1, h2⟩ := Option.bind_eq_some_iff.1 h
    split at h2
    · rename_i hb
      obtain ⟨cs', h3, h4⟩ := Option.bind_eq_some_iff.1 h2
      simp only [Option.some.injEq, Prod.mk.injEq] at h4
      obtain ⟨rfl, rfl, rfl⟩ := h4
      obtain ⟨x, rfl, _⟩ := adrO_eq h1
      exact ⟨x, q, rfl, h1, rfl, by rw [Nat.blt_eq] at hb; exact hb, h3⟩
    · cases h2
  | _ => cases h

theorem PK.shift {fr' : Fr} {ids ids' : Nat → Option (Nat × List V × TypeId)} {i : Nat} {o m : Oper} (h : PK P n fr' ids i o m) (hi : ids' i = ids i) : PK P n fr' ids' i o m := by
  cases h with
  | same a b => exact .same a (hi.trans b)
  | early e id z a b c d f g k => exact .early e id z a b c d f (hi.trans g) k
  | read cs t off u x q a b d e f g k l => exact .read cs t off u x q a (hi.trans b) d e f g k l
  | place d q a b e f g k l => exact .place d q a (hi.trans b) e f g k l

theorem preL_trace {R : Type} {r : R} {b : Bool} (hn : n ≤ 500000) : ∀ (ops : List Oper) (j : Nat) (fr : Fr) (H : Heap) (w0 : Ref) {K : List Oper → Fr → Heap → Option R}, n + (j + ops.length) ≤ 500000 → preL P n b ops j fr H K = some r → HR N w0 ρ H w →
    ∃ (ms : List Oper) (fr' : Fr) (H' : Heap) (ids : Nat → Option (Nat × List V × TypeId)), K ms fr' H' = some r ∧ ms.length = ops.length ∧
      (∀ t cs, 500000 ≤ t → fget fr' t = some (.agg cs) → fget fr t = some (.agg cs)) ∧
      (∀ t, 500000 ≤ t → t < 1000000 → fget fr' t = fget fr t) ∧
      (∀ x q, adrK fr x = some q → adrK fr' x = some q) ∧
      (∀ t, t < n → fget fr' t = fget fr t ∨ fget fr' t = none) ∧
      (∀ t, n ≤ t → t < n + j → fget fr' t = fget fr t) ∧
      (∀ (k : Nat) (o m : Oper), ops[k]? = some o → ms[k]? = some m → PK P n fr' ids (j + k) o m) ∧
      (∀ x q, adrK fr' x = some q → adrK fr x = some q ∨ ∃ (k : Nat) (o m : Oper), ops[k]? = some o ∧ ms[k]? = some m ∧ o.dst = some x ∧ m.dst = none) ∧
      (∀ k id vs e, ids k = some (id, vs, e) → H.next ≤ id ∧ j ≤ k ∧ k < j + ops.length) ∧
      (∀ k k' x x', ids k = some x → ids k' = some x' → x.1 = x'.1 → k = k') ∧ HR N (w0.plus ids fun _ => false) ρ H' w := by
  intro ops
  induction ops with
  | nil =>
    intro j fr H w0 K hb h hh
    exact ⟨[], fr, H, fun _ => none, h, rfl, fun _ _ _ h => h, fun _ _ _ => rfl, fun _ _ h => h, fun _ _ => .inl rfl, fun _ _ _ => rfl, fun k o m hk => (by simp at hk), fun _ _ h => .inl h, fun k id vs e hk => (by cases hk), fun k k' x x' hk => (by cases hk), hh.ref rfl fun id vs e => ⟨fun h => (Or.elim h (fun ⟨k, hk, _⟩ => by cases hk) (fun x => x)), fun h => Or.inr h⟩⟩
  | cons o ops ih =>
    intro j fr H w0 K hb h hh
    have hb' : n + (j + 1 + ops.length) ≤ 500000 := by simp only [List.length_cons] at hb; omega
    -- what comes behind, and one more ahead
    have more : ∀ (m0 : Oper) (fr2 : Fr), (∀ t cs, 500000 ≤ t → fget fr2 t = some (.agg cs) → fget fr t = some (.agg cs)) → (∀ t, 500000 ≤ t → t < 1000000 → fget fr2 t = fget fr t) → (∀ x q, adrK fr x = some q → adrK fr2 x = some q) → (∀ t, t < n → fget fr2 t = fget fr t ∨ fget fr2 t = none) → (∀ t, n ≤ t → t < n + j → fget fr2 t = fget fr t) →
        (∀ x q, adrK fr2 x = some q → adrK fr x = some q ∨ o.dst = some x ∧ m0.dst = none) → (preL P n b ops (j + 1) fr2 H fun ms fr H => K (m0 :: ms) fr H) = some r →
        (∀ (fr' : Fr) (ids : Nat → Option (Nat × List V × TypeId)), ids j = none → (∀ t, 500000 ≤ t → t < 1000000 → fget fr' t = fget fr2 t) → (∀ x q, adrK fr2 x = some q → adrK fr' x = some q) → (∀ t, t < n → fget fr' t = fget fr2 t ∨ fget fr' t = none) → (∀ t, n ≤ t → t < n + (j + 1) → fget fr' t = fget fr2 t) → PK P n fr' ids j o m0) →
        ∃ (ms : List Oper) (fr' : Fr) (H' : Heap) (ids : Nat → Option (Nat × List V × TypeId)), K ms fr' H' = some r ∧ ms.length = (o :: ops).length ∧
          (∀ t cs, 500000 ≤ t → fget fr' t = some (.agg cs) → fget fr t = some (.agg cs)) ∧
      (∀ t, 500000 ≤ t → t < 1000000 → fget fr' t = fget fr t) ∧
          (∀ x q, adrK fr x = some q → adrK fr' x = some q) ∧
          (∀ t, t < n → fget fr' t = fget fr t ∨ fget fr' t = none) ∧
          (∀ t, n ≤ t → t < n + j → fget fr' t = fget fr t) ∧
          (∀ (k : Nat) (o' m : Oper), (o :: ops)[k]? = some o' → ms[k]? = some m → PK P n fr' ids (j + k) o' m) ∧
          (∀ x q, adrK fr' x = some q → adrK fr x = some q ∨ ∃ (k : Nat) (o' m : Oper), (o :: ops)[k]? = some o' ∧ ms[k]? = some m ∧ o'.dst = some x ∧ m.dst = none) ∧
          (∀ k id vs e, ids k = some (id, vs, e) → H.next ≤ id ∧ j ≤ k ∧ k < j + (o :: ops).length) ∧
          (∀ k k' x x', ids k = some x → ids k' = some x' → x.1 = x'.1 → k = k') ∧ HR N (w0.plus ids fun _ => false) ρ H' w := by
      intro m0 fr2 g0 g1 g2 g3 g4 g5 h' hp
      obtain ⟨ms, fr', H', ids, a1, a2, a0, a3, a4, a5, a6, a7, a8, a9, a10, a11⟩ := ih (j + 1) fr2 H w0 hb' h' hh
      have nj : ids j = none := by
        cases hj : ids j with
        | none => rfl
        | some x => obtain ⟨_, b2, _⟩ := a9 j x.1 x.2.1 x.2.2 hj; omega
      refine ⟨m0 :: ms, fr', H', ids, a1, by simp [a2], fun t cs h1 h2 => g0 t cs h1 (a0 t cs h1 h2), fun t h1 h2 => (a3 t h1 h2).trans (g1 t h1 h2), fun x q hx => a4 x q (g2 x q hx), fun t ht => ?_, fun t h1 h2 => (a6 t h1 (by omega)).trans (g4 t h1 h2), fun k o' m hk hm => ?_, fun x q hx => ?_, fun k id vs e hk => ?_, a10, a11⟩
      · rcases a5 t ht with h1 | h1
        · rcases g3 t ht with h2 | h2
          · exact .inl (h1.trans h2)
          · exact .inr (h1.trans h2)
        · exact .inr h1
      · cases k with
        | zero =>
          simp only [List.getElem?_cons_zero, Option.some.injEq] at hk hm
          subst hk; subst hm
          exact hp fr' ids nj a3 a4 a5 (fun t h1 h2 => a6 t h1 (by omega))
        | succ k =>
          have := a7 k o' m (by simpa using hk) (by simpa using hm)
          rwa [show j + 1 + k = j + (k + 1) by omega] at this
      · rcases a8 x q hx with h1 | ⟨k, o', m, h1, h2, h3, h4⟩
        · rcases g5 x q h1 with h1 | ⟨h1, h2⟩
          · exact .inl h1
          · exact .inr ⟨0, o, m0, rfl, rfl, h1, h2⟩
        · exact .inr ⟨k + 1, o', m, by simpa using h1, by simpa using h2, h3, h4⟩
      · obtain ⟨b1, b2, b3⟩ := a9 k id vs e hk
        exact ⟨b1, by omega, by simp only [List.length_cons]; omega⟩
    have stay := fun h' => more o fr (fun _ _ _ h => h) (fun _ _ _ => rfl) (fun _ _ h => h) (fun _ _ => .inl rfl) (fun _ _ _ => rfl) (fun _ _ h => .inl h) h' (fun fr' ids nj _ _ _ _ => .same rfl nj)
    unfold preL at h
    · split at h
      · -- a read
        rename_i q3 hr
        obtain ⟨cs, t, off⟩ := q3
        obtain ⟨x, q, e1, e2, e3, e5, e4⟩ := readOf_eq hr
        have hl : ∃ u, ldL P cs t off some = some u ∧ (preL P n b ops (j + 1) (fset fr (n + j) u) H fun ms fr H => K ({ o with op := .move (.tmp (n + j)) } :: ms) fr H) = some r := by
          have := ldL_lin (P := P) (cs := cs) (t := t) (off := off) (k := fun v => preL P n b ops (j + 1) (fset fr (n + j) v) H fun ms fr H => K ({ o with op := .move (.tmp (n + j)) } :: ms) fr H) (f := fun v => preL P n b ops (j + 1) (fset fr (n + j) v) H fun ms fr H => K ({ o with op := .move (.tmp (n + j)) } :: ms) fr H) (g := some) (fun v => rfl)
          simp only at h
          rw [this] at h
          obtain ⟨u, h1, h2⟩ := Option.bind_eq_some_iff.1 h
          exact ⟨u, h1, h2⟩
        obtain ⟨u, hu, h'⟩ := hl
        have hk0 : ∀ t, t ≠ n + j → fget (fset fr (n + j) u) t = fget fr t := fun t ht => by rw [fget_fset, if_neg ht]
        have hadr : ∀ x, adrK (fset fr (n + j) u) x = adrK fr x := fun x => by unfold adrK; rw [hk0 _ (by simp only [List.length_cons] at hb; omega)]
        refine more _ _ (fun t cs h1 h2 => by rwa [hk0 t (by simp only [List.length_cons] at hb; omega)] at h2) (fun t h1 h2 => hk0 t (by simp only [List.length_cons] at hb; omega)) (fun x q hx => by rw [hadr]; exact hx) (fun t ht => .inl (hk0 t (by omega))) (fun t h1 h2 => hk0 t (by omega)) (fun x q hx => .inl (by rwa [hadr] at hx)) h' fun fr' ids nj a3 a4 a5 a6 => ?_
        refine .read cs t off u x q rfl nj e1 (a4 x q (by rw [hadr]; exact e2)) e3 ?_ hu ?_
        · rw [locK_iff] at e4 ⊢
          rw [a3 _ (by omega) (by omega), hk0 _ (by simp only [List.length_cons] at hb; omega)]; exact e4
        · rw [a6 (n + j) (by omega) (by omega), fget_fset, if_pos rfl]
      · split at h
        · -- a place
          rename_i q hq
          split at h
          · rename_i d hd
            split at h
            · rename_i had
              split at h
              · rename_i hdn
                have hdn : LT.lt (α := Nat) d n := by rw [Nat.blt_eq] at hdn; exact hdn
                have hk0 : ∀ t : Nat, t ≠ 1000000 + d → fget (putA fr d q) t = if t = d then none else fget fr t := fun t ht => by simp only [putA, fget_fset, fget_fdel, if_neg ht]
                have hadr : ∀ x : Nat, x ≠ d → adrK (putA fr d q) x = adrK fr x := fun x hx => by unfold adrK; rw [hk0 _ (by omega), if_neg (by omega)]
                have hadd : adrK (putA fr d q) d = some q := by rw [adrK_iff]; simp only [putA, fget_fset, if_true]
                have hmono : ∀ x q', adrK fr x = some q' → adrK (putA fr d q) x = some q' := fun x q' hx => by
                  by_cases e : x = d
                  · subst e; rw [had] at hx; cases hx
                  · rw [hadr x e]; exact hx
                refine more _ _ (fun t cs h1 h2 => by
                  by_cases e : t = 1000000 + d
                  · rw [e] at h2; simp only [putA, fget_fset, if_true] at h2; cases h2
                  · rw [hk0 t e, if_neg (by omega)] at h2; exact h2) (fun t h1 h2 => by rw [hk0 t (by omega), if_neg (by omega)]) hmono (fun t ht => ?_) (fun t h1 h2 => by simp only [List.length_cons] at hb; rw [hk0 t (by omega), if_neg (by omega)]) (fun x q' hx => ?_) h fun fr' ids nj a3 a4 a5 a6 => ?_
                · rw [hk0 t (by omega)]
                  by_cases e : (t : Nat) = d
                  · rw [if_pos e]; exact .inr rfl
                  · rw [if_neg e]; exact .inl rfl
                · by_cases e : x = d
                  · subst e; exact .inr ⟨hd, rfl⟩
                  · rw [hadr x e] at hx; exact .inl hx
                · refine .place d q rfl nj hd hdn (placeOf_mono (fun x q' hx => a4 x q' (hmono x q' hx)) hq) (a4 d q hadd) ?_
                  rcases a5 d hdn with h1 | h1
                  · rw [h1, hk0 d (by omega), if_pos rfl]
                  · exact h1
              · cases h
            · cases h
          · cases h
        · split at h
          · exact stay h
          · split at h
            · exact stay h
            rename_i hg
            split at h
            · -- a variable made ahead
              rename_i e he
              obtain ⟨z, hz, h⟩ := Option.bind_eq_some_iff.1 h
              split at h
              · rename_i hflat
                simp only [List.length_cons] at hb
                obtain ⟨ms, fr', H', ids, a1, a2, a0, a3, a4, a5, a6, a7, a8, a9, a10, a11⟩ := ih (j + 1) _ _ _ hb' h (hh.reserve z.cells e)
                have nj : ids j = none := by
                  cases hj : ids j with
                  | none => rfl
                  | some x => obtain ⟨_, b2, _⟩ := a9 j x.1 x.2.1 x.2.2 hj; omega
                have hk0 : ∀ t, t ≠ n + j → fget (fset fr (n + j) (.p (some (H.next, 0)))) t = fget fr t := fun t ht => by rw [fget_fset, if_neg ht]
                have hadr : ∀ x, adrK (fset fr (n + j) (.p (some (H.next, 0)))) x = adrK fr x := fun x => by unfold adrK; rw [hk0 _ (by omega)]
                refine ⟨_ :: ms, fr', H', fun k => if k = j then some (H.next, z.cells, e) else ids k, a1, by simp [a2], fun t cs h1 h2 => by rw [← hk0 t (by omega)]; exact a0 t cs h1 h2, fun t h1 h2 => by rw [a3 t h1 h2, hk0 t (by omega)], fun x q hx => a4 x q (by rw [hadr]; exact hx), fun t ht => by rw [← hk0 t (by omega)]; exact a5 t ht, fun t h1 h2 => by rw [a6 t h1 (by omega), hk0 t (by omega)], fun k o' m hk hm => ?_, fun x q hx => ?_, fun k id vs e' hk => ?_, fun k k' x x' hk hk' hx => ?_, a11.ref rfl fun id vs e' => ⟨?_, ?_⟩⟩
                · cases k with
                  | zero =>
                    simp only [List.getElem?_cons_zero, Option.some.injEq] at hk hm
                    subst hk; subst hm
                    refine .early e H.next z he hg rfl hz hflat (by simp) ?_
                    rw [Nat.add_zero, a6 _ (by omega) (by omega), fget_fset, if_pos rfl]
                  | succ k =>
                    have := a7 k o' m (by simpa using hk) (by simpa using hm)
                    rw [show j + 1 + k = j + (k + 1) by omega] at this
                    exact this.shift (by simp only [show ¬ (j + (k + 1) = j) by omega, if_false])
                · rcases a8 x q hx with h1 | ⟨k, o', m, h1, h2, h3, h4⟩
                  · exact .inl (by rwa [hadr] at h1)
                  · exact .inr ⟨k + 1, o', m, by simpa using h1, by simpa using h2, h3, h4⟩
                · by_cases hkj : k = j
                  · simp only [hkj, if_true, Option.some.injEq, Prod.mk.injEq] at hk
                    exact ⟨by omega, by omega, by simp only [List.length_cons]; omega⟩
                  · simp only [hkj, if_false] at hk
                    obtain ⟨b1, b2, b3⟩ := a9 k id vs e' hk
                    simp only [Heap.next_new] at b1
                    exact ⟨by omega, by omega, by simp only [List.length_cons]; omega⟩
                · by_cases hkj : k = j
                  · simp only [hkj, if_true, Option.some.injEq] at hk
                    by_cases hkj' : k' = j
                    · rw [hkj, hkj']
                    · simp only [hkj', if_false] at hk'
                      obtain ⟨b1, _, _⟩ := a9 k' x'.1 x'.2.1 x'.2.2 hk'
                      simp only [Heap.next_new] at b1
                      rw [← hx, ← hk] at b1
                      simp only at b1
                      omega
                  · simp only [hkj, if_false] at hk
                    by_cases hkj' : k' = j
                    · simp only [hkj', if_true, Option.some.injEq] at hk'
                      obtain ⟨b1, _, _⟩ := a9 k x.1 x.2.1 x.2.2 hk
                      simp only [Heap.next_new] at b1
                      rw [hx, ← hk'] at b1
                      simp only at b1
                      omega
                    · simp only [hkj', if_false] at hk'
                      exact a10 k k' x x' hk hk' hx
                · rintro (⟨k, hk, _⟩ | hr)
                  · by_cases hkj : k = j
                    · simp only [hkj, if_true, Option.some.injEq, Prod.mk.injEq] at hk
                      exact .inr (.inl ⟨hk.1.symm, hk.2.1.symm, hk.2.2.symm⟩)
                    · simp only [hkj, if_false] at hk
                      exact .inl ⟨k, hk, rfl⟩
                  · exact .inr (.inr hr)
                · rintro (⟨k, hk, _⟩ | ⟨h1, h2, h3⟩ | hr)
                  · refine .inl ⟨k, ?_, rfl⟩
                    have hkj : k ≠ j := by rintro rfl; rw [nj] at hk; cases hk
                    simp only [hkj, if_false]; exact hk
                  · exact .inl ⟨j, by simp [h1, h2, h3], rfl⟩
                  · exact .inr hr
              · cases h
            · exact stay h

theorem place_does {E : FEnv} {a : Act} {A : Nat → Base} (hE : EnvOK P E) (hg : GOk w.heap.size w) {fr : Fr} {o : Oper} {q : Nat × Nat} (hp : placeOf P fr o.op = some q)
    (hadr : ∀ x q, .tmp x ∈ o.op.operands.toList → adrK fr x = some q → a.eval (.tmp x) = .pointer (some ⟨(A q.1).blk, (A q.1).off + q.2, none⟩)) :
    Does P w (execOp a.eval o) fun c w' => c = .pointer (some ⟨(A q.1).blk, (A q.1).off + q.2, none⟩) ∧ Goes w w' := by
  obtain ⟨dst, op, ty, pos, after, guard⟩ := o
  simp only at hp hadr
  cases op with
  | fieldAddr s y f =>
    obtain ⟨q0, h1, h2⟩ := Option.bind_eq_some_iff.1 hp
    obtain ⟨x, rfl, hx⟩ := adrO_eq h1
    split at h2
    · rename_i fs hu
      split at h2
      · rename_i fd hf
        split at h2
        · cases h2
        · rename_i hz
          cases h2
          refine adr_does (b := A q0.1) hE hg (hadr x q0 (by simp [Op.operands]) h1) fun val H1 hv _ => ?_
          simp only [evOp, hv, Option.bind_some, hu, hf, if_neg hz, ret2]
      · cases h2
    · cases h2
  | indexAddr t y ix =>
    obtain ⟨q0, h1, h2⟩ := Option.bind_eq_some_iff.1 hp
    obtain ⟨x, rfl, hx⟩ := adrO_eq h1
    split at h2
    · rename_i len e hu
      split at h2
      · rename_i kk i
        split at h2
        · cases h2
        · rename_i hz
          split at h2
          · rename_i hi
            cases h2
            refine adr_does (b := A q0.1) hE hg (hadr x q0 (by simp [Op.operands]) h1) fun val H1 hv hc => ?_
            simp only [evOp, hv, hc, ofValue, ofCell, Option.bind_some, hu, if_neg hz, if_pos hi, ret2]
          · cases h2
      · cases h2
    · cases h2
  | nilCheck y =>
    have h1 : adrO fr y = some q := hp
    obtain ⟨x, rfl, hx⟩ := adrO_eq h1
    refine adr_does (b := A q.1) hE hg (hadr x q (by simp [Op.operands]) h1) fun val H1 hv _ => ?_
    simp only [evOp, hv, Option.bind_some, nilCk, ret2]
  | move y =>
    have h1 : adrO fr y = some q := hp
    obtain ⟨x, rfl, hx⟩ := adrO_eq h1
    refine adr_does (b := A q.1) hE hg (hadr x q (by simp [Op.operands]) h1) fun val H1 hv _ => ?_
    simp only [evOp, hv, Option.bind_some, ret2]
  | _ => cases hp

theorem chkL_spec {ops ms : List Oper} (h : chkL n ops ms = true) {k : Nat} {o m : Oper} (ho : ops[k]? = some o) (hm : ms[k]? = some m) :
    (isConv n m = true → (∀ (x k' d : Nat) (o' : Oper), .tmp x ∈ o.op.operands.toList → ops[k']? = some o' → o'.dst = some d → d = x → k' ∈ anyEdges o ∧ (o'.guard = none ∨ o'.guard = o.guard ∧ k' < k)) ∧
      ∀ (j : Nat) (want : Bool), o.guard = some (j, want) → j < k ∧ ∀ d, (ms[j]?).bind (·.dst) = some d → ∀ k2 : Nat, (ms[k2]?).bind (·.dst) = some d → k2 = j) ∧
    (∀ d, o.dst = some d → m.dst = none → ∀ k' : Nat, (ops[k']?).bind (·.dst) = some d → k' = k) := by
  have hk : k < ops.length := (List.getElem?_eq_some_iff.1 ho).1
  have h1 := List.all_eq_true.1 h k (List.mem_range.2 hk)
  rw [ho, hm] at h1
  simp only [Bool.and_eq_true] at h1
  have lt : ∀ (l : List Oper) (k' d : Nat), (l[k']?).bind (·.dst) = some d → k' < l.length := by
    intro l k' d hd
    cases hx : l[k']? with
    | none => rw [hx] at hd; cases hd
    | some o' => exact (List.getElem?_eq_some_iff.1 hx).1
  refine ⟨fun hc => ?_, fun d hd hmd k' hk' => ?_⟩
  · have h2 := h1.1
    rw [hc] at h2
    simp only [Bool.not_true, Bool.false_or, Bool.and_eq_true] at h2
    obtain ⟨h2, h5⟩ := h2
    refine ⟨fun x k' d o' hx ho' hd e => ?_, fun j want hg => ?_⟩
    · have h3 := List.all_eq_true.1 h2 x (by simp only [tmpsOf, List.mem_filterMap]; exact ⟨.tmp x, hx, rfl⟩)
      have h4 := List.all_eq_true.1 h3 k' (List.mem_range.2 (List.getElem?_eq_some_iff.1 ho').1)
      rw [ho'] at h4
      subst e
      simp only [hd] at h4
      rw [show Nat.beq d d = true from Nat.beq_refl _] at h4
      simp only [Bool.not_true, Bool.false_or, Bool.and_eq_true] at h4
      refine ⟨by simpa using h4.1, ?_⟩
      have h6 := h4.2
      cases e1 : o'.guard with
      | none => exact .inl rfl
      | some a =>
        cases e2 : o.guard with
        | none => rw [e1, e2] at h6; cases h6
        | some b =>
          rw [e1, e2] at h6
          simp only [gBehind, Bool.and_eq_true] at h6
          obtain ⟨⟨q1, q2⟩, q3⟩ := h6
          refine .inr ⟨?_, by rw [Nat.blt_eq] at q3; exact q3⟩
          have q1 : a.1 = b.1 := by simpa using q1
          have q2 : a.2 = b.2 := by simpa using q2
          rw [Prod.ext q1 q2]
    · rw [hg] at h5
      simp only [Bool.and_eq_true] at h5
      refine ⟨by rw [Nat.blt_eq] at h5; exact h5.1, fun d hd k2 hk2 => ?_⟩
      have h6 := h5.2
      rw [hd] at h6
      have h7 := List.all_eq_true.1 h6 k2 (List.mem_range.2 (lt ms k2 d hk2))
      rw [hk2] at h7
      simpa using h7
  · have h2 := h1.2
    rw [hd, hmd] at h2
    have h3 := List.all_eq_true.1 h2 k' (List.mem_range.2 (lt ops k' d hk'))
    rw [hk'] at h3
    simpa using h3
end
end Go.Proofs.Ytnlfkllnmobppaa.AM

/- Code with local variables stands for the model's; words for printed functions. -/
namespace Go.Proofs.Ytnlfkllnmobppaa.AM
open Go Go.RowKit
set_option linter.unusedVariables false
set_option linter.unusedSimpArgs false

section
variable {P : Program} {N : Nat} {w0 : Ref} {n : Nat} {E : FEnv}

theorem ev2_sound (hE : EnvOK P E) (hL : EnvLin E) (hm : P.follows .mixedOrders = true) {lr : LRun} (hlr : lr.ok) (hn : n ≤ 500000) {lv : Nat → Bool} {kp : Nat → Option (List Nat)} : ∀ (c : Code) {R : Type} (r : R) (fr : Fr) (H : Heap) (K : Ex → Fr → Heap → Option R) (ρ : Env) (A : Nat → Base) (a : Act) (w : World) (Q : Exit → Act → World → Prop),
    ev2 P E lr lv n kp c fr H K = some r → SR2 N w0 n ρ A fr H a w → (∀ e fr' H' ρ' A' a' w', ρ.le ρ' → SR2 N w0 n ρ' A' fr' H' a' w' → K e fr' H' = some r → Q (exOf e) a' w') → c.wp P Q a w := by
  intro c
  induction c with
  | skip => intro R r fr H K ρ A a w Q hk h hQ; exact wp_skip (hQ .normal fr H ρ A a w ρ.le_refl h hk)
  | exit id => intro R r fr H K ρ A a w Q hk h hQ; exact wp_exit (hQ (.exit id) _ H ρ A a w ρ.le_refl (h.keep kp _) hk)
  | ret => intro R r fr H K ρ A a w Q hk h hQ; exact wp_ret (hQ .ret _ H ρ A a w ρ.le_refl (h.keep kp _) hk)
  | region id ops draw =>
    intro R r fr H K ρ A a w Q hk h hQ
    cases draw with
    | false =>
      refine wp_region_list ?_
      have := evOps2_sound hE hn (all := ops.toList) (Q := Q) ops.toList fr H ρ A a w hk h fun ρ' A' fr' H' a' w' hl hs hk' => hQ .normal _ H' ρ' A' a' w' hl (hs.keep kp id) hk'
      simpa using this
    | true =>
      simp only [ev2] at hk
      split at hk
      case isFalse => cases hk
      rename_i hb
      simp only [Bool.and_eq_true] at hb
      obtain ⟨hb1, hb2⟩ := hb
      have hb1 : n + ops.toList.length ≤ 500000 := by simpa using Nat.le_of_ble_eq_true hb1
      have hfr := (h.framed).drawn (w.drawn + 1)
      -- the frame at its start
      have near0 : ∀ t v, fget (nearOf fr ++ farOf ops.toList fr) t = some v → fget fr t = some v := by
        intro t v hv
        rw [fget_append, nearOf, farOf, fget_ffilt, fget_ffilt] at hv
        cases hb : Nat.blt t 500000 with
        | true =>
          simp only [hb, if_true, Bool.false_eq_true, if_false] at hv
          cases hx : fget fr t with
          | none => rw [hx] at hv; cases hv
          | some u => rw [hx] at hv; exact hv
        | false =>
          simp only [hb, Bool.false_eq_true, if_false] at hv
          split at hv
          · exact hv
          · cases hv
      have far0 : ∀ x q, adrK (nearOf fr ++ farOf ops.toList fr) x = some q → x ∉ dstsOf ops.toList := by
        intro x q hx hd
        rw [adrK_iff, fget_append, nearOf, farOf, fget_ffilt, fget_ffilt] at hx
        have hb : Nat.blt (1000000 + x) 500000 = false := Bool.eq_false_iff.2 fun e => by rw [Nat.blt_eq] at e; omega
        simp only [hb, Bool.false_eq_true, if_false] at hx
        split at hx
        · rename_i hq
          have : (dstsOf ops.toList).any (fun d => Nat.beq (1000000 + x) (1000000 + d)) = true := List.any_eq_true.2 ⟨x, hd, Nat.beq_refl _⟩
          rw [this] at hq; cases hq
        · cases hx
      obtain ⟨ms, fr1, H1, ids, k1, k2, c0, c1, c2, c3, c4, c5, c6, c7, c8, c9⟩ := preL_trace hn ops.toList 0 _ H _ (by omega) hk hfr
      split at k1
      case isFalse => cases k1
      rename_i hch
      simp only [Bool.and_eq_true] at hch
      obtain ⟨hst, hchk⟩ := hch
      obtain ⟨HS, frF, e1, e2, e3, _, e5⟩ := evD_trace hL ms 0 (nearOf fr1) H1 [] [] (fun k o ho => by simpa using ho) rfl (fun p hp => by cases hp) k1
      simp only [Nat.zero_add] at e3 e5 c5
      have e2' : HS 0 = H1 := e2
      have nearF : ∀ t, t < 500000 → fget (nearOf fr1) t = fget fr1 t := fun t ht => by rw [nearOf, fget_ffilt, if_pos (by rw [Nat.blt_eq]; exact ht)]
      have kinds : ∀ (k : Nat) (o m : Oper), ops.toList[k]? = some o → ms[k]? = some m → m = o ∨ isConv n m = true := by
        intro k o m ho hm
        cases c5 k o m ho hm with
        | same a _ => exact .inl a
        | early e id z _ _ a => exact .inr (by rw [a]; simp [isConv])
        | read cs t off u x q a => exact .inr (by rw [a]; simp [isConv])
        | place d q a => exact .inr (by rw [a]; simp [isConv, markO])
      have dsts : ∀ (k d : Nat), (ms[k]?).bind (·.dst) = some d → (ops.toList[k]?).bind (·.dst) = some d := by
        intro k d hd
        cases hm : ms[k]? with
        | none => rw [hm] at hd; cases hd
        | some m =>
          have hkl : k < ops.toList.length := by have := (List.getElem?_eq_some_iff.1 hm).1; omega
          have ho := List.getElem?_eq_getElem hkl
          rw [hm] at hd
          have hd : m.dst = some d := hd
          rw [ho]
          show (ops.toList[k]).dst = some d
          cases c5 k _ m ho hm with
          | same a _ => rw [← a]; exact hd
          | early e id z _ _ a => rw [a] at hd; exact hd
          | read cs t off u x q a => rw [a] at hd; exact hd
          | place d' q a => rw [a] at hd; cases hd
      have names : ∀ (k : Nat) (o : Oper), ops.toList[k]? = some o → ∀ t ∈ namesOf ms o, t < n := by
        intro k o ho t ht
        have h1 := List.all_eq_true.1 hb2 o (List.mem_of_getElem? ho)
        have h2 := List.all_eq_true.1 h1 t
        simp only [Nat.blt_eq] at h2
        refine h2 ?_
        unfold namesOf at ht ⊢
        rw [List.mem_append] at ht ⊢
        rcases ht with ht | ht
        · exact .inl ht
        · right
          split at ht
          · rename_i g b hg
            simp only [Option.mem_toList] at ht ⊢
            exact dsts g t ht
          · cases ht
      refine wp_region_any hm ?_
      have locs : ∀ k cs, locK fr1 k = some cs → fget fr (500000 + k) = some (.agg cs) := fun k cs hk => near0 _ _ (c0 _ cs (by omega) (locK_eq hk))
      have main := draw_soundL (N := N) (w0 := w0.frame w (locS A fr)) (ρ0 := ρ) (fr1 := nearOf fr1) (ids := ids) (adr := fun x => (adrK fr1 x).map fun q => Value.pointer (some ⟨(A q.1).blk, (A q.1).off + q.2, none⟩)) (ops := ops.toList) (all := ms) (frF := frF) (a0 := a) (w1 := { w with drawn := w.drawn + 1 })
        (Q := fun e a' w' => (e = .normal → sameT (fun x => x ∉ dstsOf ops.toList) a a') → Q e a' w') hE e5 rfl hst k2 ?_ ?_ ?_ ?_ ?_ c8 ?_ ?_ h.size h.defers (by rw [e2']; exact c9) ?_ ?_
      · refine wpAny_withT (Q := fun e a' w' => (e = .normal → sameT (fun x => x ∉ dstsOf ops.toList) a a') → Q e a' w') (T := fun x => x ∉ dstsOf ops.toList) (a0 := a) (fun e a' w' hq hs => hq hs) (fun i o t ho ht hn' => hn' ?_) _ _ a _ (fun _ _ => rfl) (by simpa using main)
        exact List.mem_filterMap.2 ⟨o, List.mem_of_getElem? (by simpa using ho), ht⟩
      · -- how the operations stand
        intro k o m ho hm
        have hkl : k < ops.toList.length := (List.getElem?_eq_some_iff.1 ho).1
        cases c5 k o m ho hm with
        | same a b => exact .same a b (by rw [a]; exact names k o ho)
        | early e id z a b c d e' f g => exact .early e id z a b c d e' f (by rw [nearF _ (by omega)]; exact g)
        | read cs t off u x q b c d e' f g g2 g3 =>
          refine .read u (by rw [b]; intro e; have := congrArg (·.op) e; rw [d] at this; cases this) b c (by rw [nearF _ (by omega)]; exact g3) fun ρ' a' w' hl hg hkept hadr => ?_
          have hq := locs q.1 cs g
          obtain ⟨⟨el, ho1⟩, _, _⟩ := h.loc q.1 cs hq
          have hs : w'.heap[(A q.1).blk]? = w.heap[(A q.1).blk]? := hkept _ (.inr ⟨q.1, cs, hq, rfl⟩)
          obtain ⟨v, c', r1, r2, r3⟩ := ldL_sound ((ho1.mono hl).same hs) (f ▸ g2)
          obtain rfl : v = u := by simpa using r3
          have hx := hadr x _ (by rw [d]; simp [Op.operands]) (by rw [e']; rfl)
          have hev : a'.eval (.tmp x) = .pointer (some ⟨(A q.1).blk, (A q.1).off + q.2, none⟩) := by simp [Act.eval, Array.getD_eq_getD_getElem?, hx]
          obtain ⟨dst, op, ty, pos, after, guard⟩ := o
          simp only at d; subst d
          refine does_val (c := c') (w' := w') ?_ ⟨r2, Goes.refl _⟩
          rw [hev]
          simp [Instr.loadAt, Instr.sureAddr, r1]
        | place d q b c e' f g g2 g3 =>
          refine .place d _ b c e' (by rw [g2]; rfl) f (by rw [nearF _ (by omega)]; exact g3) (fun j m' hj hd => ?_) fun a' w' hg hadr => ?_
          · have h1 := dsts j d (by rw [hj]; exact hd)
            have := (chkL_spec hchk ho hm).2 d e' (by rw [b]) j h1
            subst this
            rw [hm] at hj; cases hj
            rw [b] at hd; cases hd
          · refine place_does (A := A) hE hg g fun x q' hx hq' => ?_
            have := hadr x _ hx (by rw [hq']; rfl)
            simp [Act.eval, Array.getD_eq_getD_getElem?, this]
      · intro k o m ho hm hne x c hx hc k' o' hk' hd
        exact ((chkL_spec hchk ho hm).1 ((kinds k o m ho hm).resolve_left hne)).1 x k' x o' hx hk' hd rfl
      · intro k o m ho hm hne j want d hg
        obtain ⟨a1, a2⟩ := ((chkL_spec hchk ho hm).1 ((kinds k o m ho hm).resolve_left hne)).2 j want hg
        exact ⟨a1, a2 d⟩
      · intro k o m x c ho hm hc hd
        cases hq : adrK fr1 x with
        | none => rw [hq] at hc; cases hc
        | some q =>
          rcases c6 x q hq with h1 | ⟨k2, o2, m2, h1, h2, h3, h4⟩
          · exact absurd (List.mem_filterMap.2 ⟨o, List.mem_of_getElem? ho, hd⟩) (far0 x q h1)
          · have := (chkL_spec hchk h1 h2).2 x h3 h4 k (by rw [ho]; exact hd)
            subst this
            rw [hm] at h2; cases h2
            exact h4
      · intro k id vs e hk; have := (c7 k id vs e hk).2.2; omega
      · intro k id vs e vs' e' hk hr
        have q1 := (c7 k id vs e hk).1
        have q2 := (h.hr.resv id vs' e' hr).1
        omega
      · -- behind it
        intro ρ' a' w' hl hs hadr hsame
        have h2 := h.after hl hs.hr
        have near : ∀ t v, t < 500000 → fget (fcut n frF ++ farX ops.toList fr1) t = some v → fget (fcut n frF) t = some v := by
          intro t v ht hv
          rw [fget_append, farX, fget_ffilt] at hv
          split at hv
          · rename_i u hu; rw [hu]; exact hv
          · rw [show Nat.blt t 500000 = true by rw [Nat.blt_eq]; exact ht] at hv; cases hv
        have far : ∀ t v, ¬ t < 500000 → fget (fcut n frF ++ farX ops.toList fr1) t = some v → fget fr1 t = some v := by
          intro t v ht hv
          rw [fget_append, farX, fget_ffilt, fget_fcut, if_neg (by omega)] at hv
          rw [show Nat.blt t 500000 = false from Bool.eq_false_iff.2 fun e => by rw [Nat.blt_eq] at e; omega] at hv
          dsimp only at hv
          split at hv
          · exact hv
          · cases hv
        have farG : ∀ x v, fget (fcut n frF ++ farX ops.toList fr1) (1000000 + x) = some v → ∀ (k : Nat) (o : Oper), ops.toList[k]? = some o → o.dst = some x → o.guard = none := by
          intro x v hv k o ho hd
          rw [fget_append, farX, fget_ffilt, fget_fcut, if_neg (by omega)] at hv
          rw [show Nat.blt (1000000 + x) 500000 = false from Bool.eq_false_iff.2 fun e => by rw [Nat.blt_eq] at e; omega] at hv
          dsimp only at hv
          split at hv
          · rename_i hq
            cases hg : o.guard with
            | none => rfl
            | some g =>
              rw [Bool.not_eq_true', List.any_eq_false] at hq
              have := hq o (List.mem_of_getElem? ho)
              rw [hg, hd] at this
              simp at this
          · cases hv
        refine hQ .normal _ _ ρ' A a' w' hl (SR2.keep ⟨fun t v ht hv => hs.fr t v (near t v ht hv), fun k cs hk => ?_, fun k k' cs cs' h1 h3 hne => ?_, fun x q hx => ?_, hs.size, hs.defers, h2.hr⟩ kp id) e3
        · exact h2.loc k cs (near0 _ _ (c0 _ cs (by omega) (far _ _ (by omega) hk)))
        · exact h.inj k k' cs cs' (near0 _ _ (c0 _ cs (by omega) (far _ _ (by omega) h1))) (near0 _ _ (c0 _ cs' (by omega) (far _ _ (by omega) h3))) hne
        · exact hadr x _ (by rw [adrK_iff.2 (far _ _ (by omega) hx)]; rfl) (farG x _ hx)
      · intro t u ht hu
        rw [nearF t (by omega)] at hu
        rcases c3 t ht with h1 | h1
        · rw [h1] at hu; exact h.slots t u (by omega) (near0 t u hu)
        · rw [h1] at hu; cases hu
      · intro x c hx hno
        cases hq : adrK fr1 x with
        | none => rw [hq] at hx; cases hx
        | some q =>
          rw [hq] at hx
          cases hx
          rcases c6 x q hq with h1 | ⟨k2, o2, m2, h1, h2, h3, h4⟩
          · exact h.adr x q (near0 _ _ (adrK_eq h1))
          · exact absurd h3 (hno k2 o2 h1)
  | seq x y ihx ihy =>
    intro R r fr H K ρ A a w Q hk h hQ
    refine wp_seq (ihx r fr H _ ρ A a w _ hk h fun e fr' H' ρ' A' a' w' hl hs hk' => ?_)
    cases e with
    | normal => exact ihy r fr' H' K ρ' A' a' w' Q hk' hs fun e fr2 H2 ρ2 A2 a2 w2 hl2 => hQ e fr2 H2 ρ2 A2 a2 w2 (hl.trans hl2)
    | exit i => exact hQ (.exit i) fr' H' ρ' A' a' w' hl hs hk'
    | ret => exact hQ .ret fr' H' ρ' A' a' w' hl hs hk'
  | cond c x y ihx ihy =>
    intro R r fr H K ρ A a w Q hk h hQ
    simp only [ev2] at hk
    split at hk
    · rename_i b hb
      have hr := h.eval c _ hb
      have hc : a.eval c = .bool b := by cases hx : a.eval c <;> rw [hx] at hr <;> cases hr; rfl
      have hE : ∀ e fr' H' ρ' A' a' w', ρ.le ρ' → SR2 N w0 n ρ' A' fr' H' a' w' → kEnd kp (condId c) K e fr' H' = some r → Q (exOf e) a' w' := by
        intro e fr' H' ρ' A' a' w' hl hs hk2
        cases e with
        | normal => exact hQ .normal _ H' ρ' A' a' w' hl (hs.keep kp _) hk2
        | exit i => exact hQ (.exit i) fr' H' ρ' A' a' w' hl hs hk2
        | ret => exact hQ .ret fr' H' ρ' A' a' w' hl hs hk2
      rcases sel_some hk with ⟨rfl, hk'⟩ | ⟨rfl, hk'⟩
      · exact wp_cond hc (ihx r fr H _ ρ A a w Q hk' h hE)
      · exact wp_cond hc (ihy r fr H _ ρ A a w Q hk' h hE)
    · cases hk
  | block id x ih =>
    intro R r fr H K ρ A a w Q hk h hQ
    refine wp_block (ih r _ H _ ρ A a w _ hk (h.keep kp (200000 + id)) fun e fr' H' ρ' A' a' w' hl hs hk' => ?_)
    cases e with
    | normal => exact hQ .normal _ H' ρ' A' a' w' hl (hs.keep kp _) hk'
    | exit i =>
      simp only [kBlock] at hk'
      simp only [exOf, Exit.inBlock]
      split at hk'
      · rename_i e; rw [if_pos e]; exact hQ .normal _ H' ρ' A' a' w' hl hs hk'
      · rename_i e; rw [if_neg e]; exact hQ (.exit i) fr' H' ρ' A' a' w' hl hs hk'
    | ret => exact hQ .ret fr' H' ρ' A' a' w' hl hs hk'
  | loop x ih =>
    intro R r fr H K ρ A a w Q hk h hQ
    simp only [ev2] at hk
    obtain ⟨q, hq, hk'⟩ := Option.bind_eq_some_iff.1 hk
    obtain ⟨m, hm'⟩ := hlr _ _ _ hq
    clear hq hk
    refine loop_wp ?_
    induction m generalizing fr H ρ A a w with
    | zero => simp [loopIter] at hm'
    | succ m ihm =>
      simp only [loopIter] at hm'
      obtain ⟨q1, hq1, hq2⟩ := Option.bind_eq_some_iff.1 hm'
      have hb := ih q1 fr H ret3 ρ A a w (fun e a' w' => ∃ ρ' A', ρ.le ρ' ∧ SR2 N w0 n ρ' A' q1.2.1 q1.2.2 a' w' ∧ e = exOf q1.1) hq1 h fun e fr' H' ρ' A' a' w' hl hs hk2 => by
        simp only [ret3, Option.some.injEq] at hk2
        subst hk2
        exact ⟨ρ', A', hl, hs, rfl⟩
      intro b k cs
      obtain ⟨e, a1, w1, ⟨ρ1, A1, hl, hs, he⟩, harr⟩ := hb b (.inLoop x :: k) cs
      cases hx : q1.1 with
      | normal =>
        rw [hx] at hq2 he
        subst he
        obtain ⟨e2, a2, w2, hq3, harr2⟩ := ihm q1.2.1 q1.2.2 ρ1 A1 a1 w1 hs (fun e fr' H' ρ' A' a' w' hl2 => hQ e fr' H' ρ' A' a' w' (hl.trans hl2)) hq2 b k cs
        exact ⟨e2, a2, w2, hq3, .of_steps (Steps.trans harr (.one step_inLoop)) harr2⟩
      | exit i =>
        rw [hx] at hq2 he
        subst he
        have hq2' : (Ex.exit i, q1.2) = q := by simpa using hq2
        subst hq2'
        exact ⟨.exit i, a1, w1, hQ (.exit i) _ _ ρ1 A1 a1 w1 hl hs hk', .pass (x := .inLoop x) rfl (fun _ _ => .inl (by simp)) harr⟩
      | ret =>
        rw [hx] at hq2 he
        subst he
        have hq2' : (Ex.ret, q1.2) = q := by simpa using hq2
        subst hq2'
        exact ⟨.ret, a1, w1, hQ .ret _ _ ρ1 A1 a1 w1 hl hs hk', .pass (x := .inLoop x) rfl (fun _ _ => .inl (by simp)) harr⟩
  | _ => intro R r fr H K ρ A a w Q hk h hQ; cases hk

theorem resOne2_sound {R : Type} {r : R} {ρ : Env} {A : Nat → Base} {fr : Fr} {H : Heap} {w : World} {a : Act} (h : SR2 N w0 n ρ A fr H a w) {rv : ResultVar} {K : V → Option R} (hk : resOne2 P fr H rv K = some r) :
    ∃ v x, (match rv with | .tmp t => pure (a.tmps.getD t undef) | .cell y t => do loadVar t (← asAddr (a.tmps.getD y undef)) : Sem Value).run P w = .ok x w ∧ Rel ρ v x ∧ K v = some r := by
  cases rv with
  | tmp t =>
    obtain ⟨v, h1, h2⟩ := Option.bind_eq_some_iff.1 hk
    have := h.eval (.tmp t) v h1
    exact ⟨v, a.eval (.tmp t), rfl, this, h2⟩
  | cell y t =>
    simp only [resOne2] at hk
    split at hk
    · rename_i q hq
      obtain ⟨cs, h1, h2⟩ := Option.bind_eq_some_iff.1 hk
      obtain ⟨⟨e, ho⟩, _, _⟩ := h.loc _ _ (locK_eq h1)
      obtain ⟨v, c, e1, e2, e3⟩ := ldL_sound ho h2
      have hx := h.adr _ _ (adrK_eq hq)
      have hg : a.tmps.getD y undef = .pointer (some ⟨(A q.1).blk, (A q.1).off + q.2, none⟩) := by simp [Array.getD_eq_getD_getElem?, hx]
      refine ⟨v, c, ?_, e2, e3⟩
      simp only [hg, asAddr, Sem.run_bind, Sem.run_pure, Result.andThen_ok]
      exact e1
    · obtain ⟨v, h1, h2⟩ := Option.bind_eq_some_iff.1 hk
      have hr := h.eval (.tmp y) v h1
      split at h2
      · rename_i id off
        obtain ⟨b, hb, hx⟩ := hr.p'
        obtain ⟨v, x, e1, e2, e3⟩ := ldT_sound h.hr h2 hb
        refine ⟨v, x, ?_, e2, e3⟩
        have hg : a.tmps.getD y undef = .pointer (some ⟨b.blk, b.off + off, none⟩) := hx
        simp only [hg, asAddr, Sem.run_bind, Sem.run_pure, Result.andThen_ok]
        exact e1
      · cases h2
theorem resAll2_sound {R : Type} {r : R} {ρ : Env} {A : Nat → Base} {fr : Fr} {H : Heap} {w : World} {a : Act} (h : SR2 N w0 n ρ A fr H a w) : ∀ (rs : List ResultVar) {K : List V → Option R}, resAll2 P fr H rs K = some r →
    ∃ vs xs, (rs.mapM fun | .tmp t => pure (a.tmps.getD t undef) | .cell y t => do loadVar t (← asAddr (a.tmps.getD y undef)) : Sem (List Value)).run P w = .ok xs w ∧ Rels ρ vs xs ∧ K vs = some r := by
  intro rs
  induction rs with
  | nil => intro K h; exact ⟨[], [], by simp, .nil, h⟩
  | cons rv rs ih =>
    intro K hk
    obtain ⟨v, x, e1, e2, e3⟩ := resOne2_sound h hk
    obtain ⟨vs, xs, g1, g2, g3⟩ := ih e3
    refine ⟨v :: vs, x :: xs, ?_, .cons _ _ _ _ e2 g2, g3⟩
    rw [List.mapM_cons]
    simp only [Sem.run_bind, Sem.run_pure]
    rw [e1]
    simp only [Result.andThen_ok]
    rw [g1]
    rfl
theorem res2_sound {R : Type} {r : R} {ρ : Env} {A : Nat → Base} {fr : Fr} {H : Heap} {w : World} {a : Act} (hs : SR2 N w0 n ρ A fr H a w) {fn : Func} {K : V → Heap → Option R} (h : res2 P fr H fn.results.toList K = some r) :
    ∃ v x, (results fn a.tmps).run P w = .ok x w ∧ Rel ρ v x ∧ K v H = some r := by
  unfold res2 at h
  obtain ⟨vs, xs, e1, e2, e3⟩ := resAll2_sound (P := P) hs _ h
  have hrun : (results fn a.tmps).run P w = .ok (if h : xs.toArray.size = 1 then xs.toArray[0] else .tuple xs.toArray) w := by
    unfold results
    rw [Array.mapM_eq_mapM_toList]
    simp only [Sem.run_bind, Sem.run_map, Sem.run_pure]
    erw [e1]
    rfl
  split at e3
  · rename_i v
    obtain ⟨x, rfl, hr⟩ := rels_one e2
    exact ⟨v, x, by rw [hrun]; rfl, hr, e3⟩
  · rename_i hne
    refine ⟨.tup vs, .tuple xs.toArray, ?_, .tup _ _ e2, e3⟩
    rw [hrun, dif_neg]
    intro hsz
    have hl := e2.length
    simp only [List.size_toArray] at hsz
    match vs, hl with
    | [v], _ => exact hne v rfl
    | [], hl => simp [hsz] at hl
    | _ :: _ :: _, hl => simp [hsz] at hl
/-- a function -/
theorem evFn2_sound (hE : EnvOK P E) (hL : EnvLin E) (hm : P.follows .mixedOrders = true) {lr : LRun} (hlr : lr.ok) {lv : Nat → Bool} {kp : Nat → Option (List Nat)} {f : FuncId} {fn : Func} (hf : P.funcs[f]? = some fn) {R : Type} {r : R} {args : List V} {H : Heap} {K : V → Heap → Option R}
    (hk : evFn2 P E lr lv fn kp args H K = some r) {ρ : Env} {w : World} {xs : List Value} (hr : Rels ρ args xs) (hh : HR N w0 ρ H w) :
    Calls P f xs.toArray w fun e w' => ∃ c, e = .returned c ∧ ∃ v H' ρ', ρ.le ρ' ∧ Rel ρ' v c ∧ HR N w0 ρ' H' w' ∧ K v H' = some r := by
  unfold evFn2 at hk
  split at hk
  · rename_i hlen
    split at hk
    · rename_i hbn
      have hn : fn.ntmps ≤ 500000 := Nat.le_of_ble_eq_true hbn
      split at hk
      · rename_i c hb
        refine calls_of_wp hf hb ?_
        have hxl := hr.length
        have far : ∀ t v, 500000 ≤ t → fget (argFr 0 args) t = some v → False := by
          intro t v ht hv
          rw [argFr_get, if_pos (Nat.zero_le _), Nat.sub_zero] at hv
          have := (List.getElem?_eq_some_iff.1 hv).1
          omega
        refine ev2_sound (N := N) (w0 := w0) hE hL hm hlr hn c r (argFr 0 args) H _ ρ (fun _ => ⟨0, 0, 0⟩) _ w _ hk ⟨fun t v _ hv => ?_, fun k cs hk => (far _ _ (by omega) hk).elim, fun k k' cs cs' h1 => (far _ _ (by omega) h1).elim, fun x q hx => (far _ _ (by omega) hx).elim, ?_, rfl, hh⟩ ?_
        · rw [argFr_get, if_pos (Nat.zero_le _), Nat.sub_zero] at hv
          obtain ⟨x, hx, hrel⟩ := hr.get t v hv
          have hlt := (List.getElem?_eq_some_iff.1 hx).1
          exact ⟨x, by rw [Array.getElem?_append_left (by simpa using hlt)]; simpa using hx, hrel⟩
        · simp; omega
        · intro e fr' H' ρ' A' a' w' hl hs hkk
          cases e with
          | normal =>
            obtain ⟨v, x, e1, e2, e3⟩ := res2_sound hs hkk
            exact ⟨hs.defers, x, e1, x, rfl, v, H', ρ', hl, e2, hs.hr, e3⟩
          | ret =>
            obtain ⟨v, x, e1, e2, e3⟩ := res2_sound hs hkk
            exact ⟨hs.defers, x, e1, x, rfl, v, H', ρ', hl, e2, hs.hr, e3⟩
          | exit i => cases hkk
      · cases hk
    · cases hk
  · cases hk
end

section
variable {R S : Type} {P : Program} {E : FEnv} {n : Nat}
theorem stL_lin {cs : List V} {t : TypeId} {off : Nat} {v : V} {k : S → Option R} {f : List V → Option R} {g : List V → Option S} (h : ∀ v, f v = (g v).bind k) : stL P cs t off v f = (stL P cs t off v g).bind k := by
  unfold stL
  split
  · split
    · split
      · exact il0 (il0 (il0 (h _)))
      · rfl
    · exact il0 (il0 (il0 (h _)))
  · rfl
theorem putAK_lin {fr : Fr} {H : Heap} {d : Option Tmp} {q : Nat × Nat} {k : S → Option R} {f : Fr → Heap → Option R} {g : Fr → Heap → Option S} (h : ∀ fr H, f fr H = (g fr H).bind k) : putAK fr H d q f = (putAK fr H d q g).bind k := by
  unfold putAK
  split
  · exact h _ _
  · rfl
theorem evOp2_lin (hL : EnvLin E) {lv : Nat → Bool} {fr : Fr} {H : Heap} {d : Option Tmp} {o : Op} {ty : TypeId} {k : S → Option R} {f : Fr → Heap → Option R} {g : Fr → Heap → Option S} (h : ∀ fr H, f fr H = (g fr H).bind k) :
    evOp2 P E lv fr H d o ty f = (evOp2 P E lv fr H d o ty g).bind k := by
  have old : (evOp P E (evalS fr) H o ty fun v H => f (putV fr d v) H) = (evOp P E (evalS fr) H o ty fun v H => g (putV fr d v) H).bind k := evOp_lin hL fun v H => h _ _
  cases o with
  | alloc e =>
    simp only [evOp2]
    split
    · split
      · exact bl fun z => h _ _
      · exact old
    · exact old
  | box e y =>
    simp only [evOp2]
    split
    · split
      · exact bl fun z => h _ _
      · exact old
    · exact old
  | load t y =>
    simp only [evOp2]
    split
    · exact bl fun cs => ldL_lin fun v => h _ _
    · exact old
  | store t y z =>
    simp only [evOp2]
    split
    · exact bl fun cs => bl fun v => stL_lin fun v => h _ _
    · exact old
  | fieldAddr s y f =>
    simp only [evOp2]
    split
    · split
      · split
        · exact il1 (putAK_lin h)
        · rfl
      · rfl
    · exact old
  | indexAddr t y ix =>
    simp only [evOp2]
    split
    · split
      · split
        · exact il1 (il0 (putAK_lin h))
        · rfl
      · rfl
    · exact old
  | nilCheck y =>
    simp only [evOp2]
    split
    · exact putAK_lin h
    · exact old
  | move y =>
    simp only [evOp2]
    split
    · exact putAK_lin h
    · exact old
  | _ => exact old
theorem evOps2_lin (hL : EnvLin E) {lv : Nat → Bool} {all : List Oper} {k : S → Option R} : ∀ (rest : List Oper) (fr : Fr) (H : Heap) {f : Fr → Heap → Option R} {g : Fr → Heap → Option S}, (∀ fr H, f fr H = (g fr H).bind k) → evOps2 P E lv n all rest fr H f = (evOps2 P E lv n all rest fr H g).bind k := by
  intro rest
  induction rest with
  | nil => intro fr H f g h; exact h _ _
  | cons o rest ih =>
    intro fr H f g h
    unfold evOps2
    refine il1 ?_
    split
    · exact evOp2_lin hL fun fr H => ih _ _ h
    · split
      · split
        · split
          · exact sl_lin (il (evOp2_lin hL fun fr H => ih _ _ h) (ih _ _ h)) (il (ih _ _ h) (evOp2_lin hL fun fr H => ih _ _ h))
          · exact ih _ _ h
          · rfl
        · rfl
      · rfl
theorem preL_lin {b : Bool} {k : S → Option R} : ∀ (ops : List Oper) (j : Nat) (fr : Fr) (H : Heap) {f : List Oper → Fr → Heap → Option R} {g : List Oper → Fr → Heap → Option S}, (∀ ms fr H, f ms fr H = (g ms fr H).bind k) → preL P n b ops j fr H f = (preL P n b ops j fr H g).bind k := by
  intro ops
  induction ops with
  | nil => intro j fr H f g h; exact h _ _ _
  | cons o ops ih =>
    intro j fr H f g h
    unfold preL
    split
    · exact ldL_lin fun v => ih _ _ _ fun _ _ _ => h _ _ _
    · split
      · split
        · split
          · split
            · exact ih _ _ _ fun _ _ _ => h _ _ _
            · rfl
          · rfl
        · rfl
      · split
        · exact ih _ _ _ fun _ _ _ => h _ _ _
        · split
          · exact ih _ _ _ fun _ _ _ => h _ _ _
          · split
            · exact bl fun z => il0 (ih _ _ _ fun _ _ _ => h _ _ _)
            · exact ih _ _ _ fun _ _ _ => h _ _ _
theorem ev2_lin (hL : EnvLin E) {lr : LRun} {lv : Nat → Bool} {kp : Nat → Option (List Nat)} : ∀ (c : Code) {R S : Type} {k : S → Option R} (fr : Fr) (H : Heap) {f : Ex → Fr → Heap → Option R} {g : Ex → Fr → Heap → Option S}, (∀ e fr H, f e fr H = (g e fr H).bind k) →
    ev2 P E lr lv n kp c fr H f = (ev2 P E lr lv n kp c fr H g).bind k := by
  intro c
  induction c with
  | skip => intro R S k fr H f g h; exact h _ _ _
  | exit id => intro R S k fr H f g h; exact h _ _ _
  | ret => intro R S k fr H f g h; exact h _ _ _
  | region id ops draw =>
    intro R S k fr H f g h
    cases draw with
    | false => exact evOps2_lin hL _ _ _ fun fr H => h _ _ _
    | true =>
      simp only [ev2]
      exact il0 (preL_lin _ _ _ _ fun ms fr H => il0 (evD_lin hL _ _ _ _ _ _ fun fr H => h _ _ _))
  | seq x y ihx ihy =>
    intro R S k fr H f g h
    refine ihx fr H fun e fr' H' => ?_
    cases e with
    | normal => exact ihy fr' H' h
    | exit i => exact h _ _ _
    | ret => exact h _ _ _
  | cond c x y ihx ihy =>
    intro R S k fr H f g h
    simp only [ev2]
    split
    · exact sl_lin (ihx fr H fun e _ _ => by cases e <;> exact h _ _ _) (ihy fr H fun e _ _ => by cases e <;> exact h _ _ _)
    · rfl
  | block id x ih =>
    intro R S k fr H f g h
    refine ih _ H fun e fr' H' => ?_
    cases e with
    | normal => exact h _ _ _
    | exit i => exact il (h _ _ _) (h _ _ _)
    | ret => exact h _ _ _
  | loop x ih =>
    intro R S k fr H f g h
    exact bl fun r => h _ _ _
  | _ => intro R S k fr H f g h; rfl
theorem resOne2_lin {fr : Fr} {H : Heap} {rv : ResultVar} {k : S → Option R} {f : V → Option R} {g : V → Option S} (h : ∀ v, f v = (g v).bind k) : resOne2 P fr H rv f = (resOne2 P fr H rv g).bind k := by
  cases rv with
  | tmp t => exact bl h
  | cell a t =>
    simp only [resOne2]
    split
    · exact bl fun cs => ldL_lin h
    · refine bl fun v => ?_
      split
      · exact ldT_lin h
      · rfl
theorem resAll2_lin {fr : Fr} {H : Heap} {k : S → Option R} : ∀ (rs : List ResultVar) {f : List V → Option R} {g : List V → Option S}, (∀ v, f v = (g v).bind k) → resAll2 P fr H rs f = (resAll2 P fr H rs g).bind k := by
  intro rs
  induction rs with
  | nil => intro f g h; exact h _
  | cons r rs ih => intro f g h; exact resOne2_lin fun v => ih fun vs => h _
theorem res2_lin {fr : Fr} {H : Heap} {rs : List ResultVar} {k : S → Option R} {f : V → Heap → Option R} {g : V → Heap → Option S} (h : ∀ v H, f v H = (g v H).bind k) : res2 P fr H rs f = (res2 P fr H rs g).bind k := by
  refine resAll2_lin rs fun vs => ?_
  split
  · exact h _ _
  · exact h _ _
theorem evFn2_lin (hL : EnvLin E) {lr : LRun} {lv : Nat → Bool} {fn : Func} {kp : Nat → Option (List Nat)} {args : List V} {H : Heap} {k : S → Option R} {f : V → Heap → Option R} {g : V → Heap → Option S} (h : ∀ v H, f v H = (g v H).bind k) :
    evFn2 P E lr lv fn kp args H f = (evFn2 P E lr lv fn kp args H g).bind k := by
  unfold evFn2
  refine il0 ?_
  split
  · split
    · refine ev2_lin hL _ _ _ fun e fr' H' => ?_
      cases e with
      | normal => exact res2_lin h
      | ret => exact res2_lin h
      | exit i => rfl
    · rfl
  · rfl
end

/-- the machine's own run of a function -/
def runF2 (P : Program) (E : FEnv) (lr : LRun) (lv : Nat → Bool) (fn : Func) (kp : Nat → Option (List Nat)) : Fun := fun _ args H K => evFn2 P E lr lv fn kp args H K
theorem runF2_ok {P : Program} {E : FEnv} (hE : EnvGood P E) (hm : P.follows .mixedOrders = true) {lr : LRun} (hlr : lr.ok) {g : FuncId} {fn : Func} (hf : P.funcs[g]? = some fn) (he : enters P g = true) (lv : Nat → Bool) (kp : Nat → Option (List Nat)) : FunOK P g (runF2 P E lr lv fn kp) :=
  .mk (fun args w => enters_run he args w) (fun _ _ _ _ _ _ _ _ _ _ hk hr hh => evFn2_sound hE.ok hE.lin hm hlr hf hk hr hh)
/-- a law: where the machine answers true, the call does, and nothing that was there has turned -/
theorem law_calls2 {P : Program} {E : FEnv} (hE : EnvGood P E) (hm : P.follows .mixedOrders = true) {lr : LRun} (hlr : lr.ok) {lv : Nat → Bool} {kp : Nat → Option (List Nat)} {f : FuncId} {fn : Func} (hf : P.funcs[f]? = some fn) {args : List V} {xs : List Value} {H : Heap} {ρ : Env} {W : World}
    (hk : evFn2 P E lr lv fn kp args H (fun v _ => v.asB) = some true) (hr : Rels ρ args xs) (hh : HR W.heap.size W ρ H W) :
    Calls P f xs.toArray W fun e W' => e = .returned (.bool true) ∧ Below W.heap.size W W' :=
  (evFn2_sound hE.ok hE.lin hm hlr hf hk hr hh).mono fun e W' ⟨c, he, v, H', ρ', _, hv, hH, hkk⟩ => by
    obtain rfl := V.asB_eq hkk
    cases hv
    exact ⟨he, hH.below⟩

section
variable {R : Type} {σ τ : Type} {P : Program} {E : FEnv} {n : Nat} {lv : Nat → Bool} {kp : Nat → Option (List Nat)}
/-- a loop, as a typed one -/
theorem ev2_tlim {c : Code} {b : σ → Heap → Option (Rd σ τ × Heap)} {es : σ → Fr} {er : τ → Ex × Fr} (hx : ∀ r, (er r).1 ≠ .normal)
    (hb : ∀ s H, ev2 P E loopLim lv n kp c (es s) H ret3 = (b s H).bind fun p => some (rdEx es er p)) (s : σ) (H : Heap) (K : Ex → Fr → Heap → Option R) :
    ev2 P E loopLim lv n kp (.loop c) (es s) H K = (tlim b s H).bind fun p => K (er p.1).1 (er p.1).2 p.2 := by
  show (loopLim (fun s => ev2 P E loopLim lv n kp c s.1 s.2 ret3) (es s, H)).bind (fun r => K r.1 r.2.1 r.2.2) = _
  rw [tlim_sim hx hb, Option.bind_assoc]
  rfl
end
section
variable {R : Type} {P : Program} {E : FEnv} {lr : LRun} {n : Nat} {lv : Nat → Bool} {kp : Nat → Option (List Nat)}
theorem ev2_seq (a b : Code) (fr : Fr) (H : Heap) (K : Ex → Fr → Heap → Option R) : ev2 P E lr lv n kp (.seq a b) fr H K = ev2 P E lr lv n kp a fr H (kSeq (fun fr H => ev2 P E lr lv n kp b fr H K) K) := rfl
theorem ev2_block (i : Nat) (b : Code) (fr : Fr) (H : Heap) (K : Ex → Fr → Heap → Option R) : ev2 P E lr lv n kp (.block i b) fr H K = ev2 P E lr lv n kp b (fkp kp (200000 + i) fr) H (kBlock kp i K) := rfl
theorem ev2_cond (c : Operand) (a b : Code) (fr : Fr) (H : Heap) (K : Ex → Fr → Heap → Option R) (x : Bool) (hx : evalS fr c = some (.b x)) :
    ev2 P E lr lv n kp (.cond c a b) fr H K = sel x (ev2 P E lr lv n kp a fr H (kEnd kp (condId c) K)) (ev2 P E lr lv n kp b fr H (kEnd kp (condId c) K)) := by
  simp only [ev2, hx]
theorem ev2_seqTo : ∀ (a c : Code) {R : Type} (fr : Fr) (H : Heap) (K : Ex → Fr → Heap → Option R), ev2 P E lr lv n kp (seqTo a c) fr H K = ev2 P E lr lv n kp (.seq a c) fr H K := by
  intro a
  induction a with
  | seq a b iha ihb =>
    intro c R fr H K
    simp only [seqTo]
    rw [iha]
    show ev2 P E lr lv n kp a fr H _ = ev2 P E lr lv n kp a fr H _
    congr 1
    funext e fr' H'
    cases e with
    | normal => exact ihb c fr' H' K
    | exit i => rfl
    | ret => rfl
  | _ => intro c R fr H K; rfl
theorem ev2_rassoc : ∀ (c : Code) {R : Type} (fr : Fr) (H : Heap) (K : Ex → Fr → Heap → Option R), ev2 P E lr lv n kp (rassoc c) fr H K = ev2 P E lr lv n kp c fr H K := by
  intro c
  induction c with
  | seq a b iha ihb =>
    intro R fr H K
    simp only [rassoc]
    rw [ev2_seqTo]
    show ev2 P E lr lv n kp (rassoc a) fr H _ = ev2 P E lr lv n kp a fr H _
    rw [iha]
    congr 1
    funext e fr' H'
    cases e with
    | normal => exact ihb fr' H' K
    | exit i => rfl
    | ret => rfl
  | cond c a b iha ihb =>
    intro R fr H K
    simp only [rassoc, ev2]
    split
    · rw [iha, ihb]
    · rfl
  | block i b ih => intro R fr H K; exact ih _ H _
  | loop b ih =>
    intro R fr H K
    have : (fun s : LS => ev2 P E lr lv n kp (rassoc b) s.1 s.2 ret3) = fun s => ev2 P E lr lv n kp b s.1 s.2 ret3 := by
      funext s; exact ih _ _ _
    simp only [rassoc, ev2]
    rw [this]
  | _ => intro R fr H K; rfl
theorem evFn2_code2 {fn : Func} {args : List V} {c : Code} (H : Heap) (K : V → Heap → Option R) (hb : fn.body.isSome = true) (hl : (args.length ≤ fn.ntmps)) (hn : Nat.ble fn.ntmps 500000 = true) (hc : rassoc (fn.body.getD .skip) = c) :
    evFn2 P E lr lv fn kp args H K = ev2 P E lr lv fn.ntmps kp c (argFr 0 args) H (kFn2 P fn.results.toList K) := by
  rw [← hc]
  unfold evFn2
  rw [if_pos hl, hn, ev2_rassoc]
  cases hx : fn.body with
  | none => rw [hx] at hb; cases hb
  | some c => rfl
end
end Go.Proofs.Ytnlfkllnmobppaa.AM

