/- Connections: messages and desks as plain data. -/
namespace Go.Proofs.Ytnlfkllnmobppaa
set_option linter.unusedVariables false

/-- a message -/
structure Cm where
  k : Int := 0
  f : Int := 0
  t : Int := 0
  c : Int := 0
  n : Int := 0
  x : Int := 0
  u : Int := 0
  d : List Int := []
/-- a letter -/
structure Lt where
  to : Int
  m : Cm
/-- an event -/
structure Et where
  ref : Int := 0
  what : Int := 0
  fr : Int := 0
  cls : Int := 0
  cau : Int := 0
  d : List Int := []
/-- a section -/
structure Sc where
  ref : Int
  pt : Int
  oth : Int
  cls : Int
  st : Int
  t0 : Int := 0
  t1 : Int := 0
  t2 : Int := 0
  giv : Int := 0
  ack : Int := 0
  wan : Int := 0
/-- a desk -/
structure Dk where
  w : Int
  wt : Int
  idl : Int
  fz : Int
  last : Int := 0
  all : List Sc := []
  fro : List (Int × Int) := []
  out : List Lt := []
  evs : List Et := []
def Cm.Gd (m : Cm) : Prop := 1 ≤ m.k ∧ m.k ≤ 8 ∧ m.f ≤ 8191 ∧ m.t ≤ 8191 ∧ m.n < 128 ∧ m.x < 128 ∧ ((m.k = 1 ∧ (m.c = 2 ∨ m.c = 3)) ∨ (m.k ≠ 1 ∧ m.c = 0)) ∧ (0 < m.f ↔ m.k ≠ 3) ∧ (0 < m.t ↔ m.k ≠ 1) ∧ (0 < m.u ↔ (m.k = 3 ∨ m.k = 7)) ∧ (m.k = 4 ∨ m.k = 6 ∨ m.n = 0) ∧ (m.k = 4 ∨ m.k = 6 ∨ m.k = 5 ∨ m.x = 0) ∧ (m.k = 4 ∨ m.k = 1 ∨ m.d.length = 0)
instance (m : Cm) : Decidable m.Gd := by unfold Cm.Gd; infer_instance
def Cm.ck (m : Cm) : Int := if m.d.length > 200 then 3 else if m.Gd then 0 else 1
def Sc.turn (s : Sc) (st : Int) : Sc := { s with st := st, t0 := 0, t1 := 0, t2 := 0 }
def Sc.acked (s : Sc) (next : Int) : Sc := if (next - s.ack) % 256 % 128 ≤ (s.giv - s.ack) % 256 % 128 then { s with ack := next } else s
def Dk.find (D : Dk) (r : Int) : Option Sc := D.all.find? fun s => decide (s.ref = r)
def Dk.isf (D : Dk) (r : Int) : Bool := D.fro.any fun p => decide (p.1 = r)
def Dk.put (D : Dk) (s : Sc) : Dk := { D with all := D.all.map fun b => if b.ref = s.ref then s else b }
def Dk.free (D : Dk) (r : Int) : Bool := (D.find r).isNone && !D.isf r
def nxt1 (n : Int) : Int := n % 8191 + 1
def Dk.seek (D : Dk) : Nat → Int → Int
  | 0, n => n
  | k + 1, n => if D.free (nxt1 n) = true then nxt1 n else D.seek k (nxt1 n)
def Dk.add (D : Dk) (p oth cls st : Int) : Option (Dk × Sc) :=
  if 4096 ≤ D.all.length ∨ 8191 ≤ D.all.length + D.fro.length then none else
  some ({ D with last := D.seek 8191 D.last, all := D.all ++ [{ ref := D.seek 8191 D.last, pt := p, oth := oth, cls := cls, st := st }] }, { ref := D.seek 8191 D.last, pt := p, oth := oth, cls := cls, st := st })
def Dk.over (D : Dk) (r : Int) : Dk := { D with all := D.all.filter fun b => decide (b.ref ≠ r), fro := D.fro ++ [(r, D.fz)] }
/-- the letter of a section -/
def Sc.lt (s : Sc) (m : Cm) : Lt := ⟨s.pt, { m with t := s.oth, f := if m.k = 3 then m.f else s.ref }⟩
def Dk.post (D : Dk) (l : Lt) : Dk := { D with out := D.out ++ [l] }
def Dk.send (D : Dk) (s : Sc) (m : Cm) : Dk := (D.put { s with t2 := 0 }).post (s.lt m)
def Dk.tell (D : Dk) (s : Sc) (x : Et) : Dk := { D with evs := D.evs ++ [{ x with ref := s.ref, fr := s.pt }] }
def Dk.request (D : Dk) (to cls : Int) (d : List Int) : Int × Int × Dk :=
  if 16383 < to ∨ (cls ≠ 2 ∧ cls ≠ 3) then (0, 1, D) else if 200 < d.length then (0, 3, D) else
  match D.add to 0 cls 1 with
  | none => (0, 9, D)
  | some (D1, s) => (s.ref, 0, D1.send s { k := 1, c := cls, d := d })
def Dk.confirm (D : Dk) (r : Int) : Int × Dk := match D.find r with
  | none => (7, D)
  | some s => if s.st = 2 then (0, (D.put (s.turn 3)).send (s.turn 3) { k := 2 }) else (6, D)
def Dk.refuse (D : Dk) (r cause : Int) : Int × Dk := match D.find r with
  | none => (7, D)
  | some s => if s.st = 2 then (if cause < 16 then (1, D) else (0, (D.send s { k := 3, u := cause }).over s.ref)) else (6, D)
def Dk.sendD (D : Dk) (r : Int) (d : List Int) : Int × Dk := match D.find r with
  | none => (7, D)
  | some s => if s.st = 3 then (if 200 < d.length then (3, D) else if s.cls = 3 ∧ D.w ≤ (s.giv - s.ack) % 256 % 128 then (14, D) else
      (0, if s.cls = 3 then (D.send s { k := 4, n := s.giv, x := s.wan, d := d }).put { s with t2 := 0, giv := (s.giv + 1) % 128 } else D.send s { k := 4, n := s.giv, x := s.wan, d := d })) else (6, D)
def Dk.release (D : Dk) (r cause : Int) : Int × Dk := match D.find r with
  | none => (7, D)
  | some s => if s.st = 1 ∨ s.st = 3 then (if cause < 16 then (1, D) else if s.st = 1 then (0, D.over s.ref) else (0, (D.send s { k := 7, u := cause }).put ({ s with t2 := 0 }.turn 4))) else (6, D)
def Dk.close (D : Dk) (s : Sc) (cause : Int) : Dk := ((D.tell s { what := 5, cau := cause }).send s { k := 7, u := cause }).put ({ s with t2 := 0 }.turn 4)
def Dk.belongs (D : Dk) (fr : Int) (m : Cm) : Option Sc := match D.find m.t with
  | none => none
  | some s => if s.pt ≠ fr then none else if s.st = 1 then (if m.k = 3 ∨ m.k = 2 then some s else none) else if m.k = 3 ∨ s.oth ≠ m.f then none else some s
/-- what is done with a message that belongs to a section -/
def Dk.act (D : Dk) (s : Sc) (m : Cm) : Dk :=
  if m.k = 2 then (if s.st = 1 then (D.put ({ s with oth := m.f }.turn 3)).tell s { what := 2 } else D)
  else if m.k = 3 then (D.tell s { what := 3, cau := m.u }).over s.ref
  else if m.k = 4 then
    (if s.st ≠ 3 then D else if s.cls = 2 then D.tell s { what := 4, d := m.d } else if m.n ≠ s.wan then D.close s 5 else
      ((D.put { s.acked m.x with wan := (s.wan + 1) % 128 }).tell s { what := 4, d := m.d }).send { s.acked m.x with wan := (s.wan + 1) % 128 } { k := 5, x := (s.wan + 1) % 128 })
  else if m.k = 5 ∨ m.k = 6 then
    (if s.st ≠ 3 ∨ s.cls = 2 then D else if m.k = 6 ∧ m.n ≠ s.wan then D.close s 5 else D.put (s.acked m.x))
  else if m.k = 7 then (if s.st ≠ 4 then (D.send s { k := 8 }).tell s { what := 5, cau := m.u } else D.send s { k := 8 }).over s.ref
  else if m.k = 8 then (if s.st = 4 then D.over s.ref else D)
  else D
def Dk.asked (D : Dk) (fr : Int) (m : Cm) : Dk := match D.add fr m.f m.c 2 with
  | none => D.post ⟨fr, { k := 3, t := m.f, u := 3 }⟩
  | some (D1, s) => D1.tell s { what := 1, cls := m.c, d := m.d }
/-- an answer to a message that belongs to no section -/
def Dk.stray (D : Dk) (fr : Int) (m : Cm) : Dk :=
  if m.k = 2 ∨ m.k = 4 ∨ m.k = 5 ∨ m.k = 6 then D.post ⟨fr, { k := 7, f := m.t, t := m.f, u := 4 }⟩ else if m.k = 7 then D.post ⟨fr, { k := 8, f := m.t, t := m.f }⟩ else D
def Dk.hear (D : Dk) (fr : Int) (m : Cm) : Int × Dk :=
  if 16383 < fr then (1, D) else if m.ck ≠ 0 then (m.ck, D) else if m.k = 1 then (0, D.asked fr m) else
  match D.belongs fr m with
  | some s => (0, (D.put { s with t1 := 0 }).act { s with t1 := 0 } m)
  | none => (0, D.stray fr m)
/-- a tick of a section -/
def Dk.tick1 (D : Dk) (r : Int) : Dk := match D.find r with
  | none => D
  | some s0 =>
    let s := { s0 with t0 := s0.t0 + 1, t1 := s0.t1 + 1, t2 := s0.t2 + 1 }
    let D := D.put s
    if s.st = 3 then (if 4 * D.idl ≤ s.t1 then D.close s 2 else if D.idl ≤ s.t2 then D.send s { k := 6, n := s.giv, x := s.wan } else D)
    else if s.t0 < D.wt then D
    else if s.st = 4 then D.over s.ref
    else (if s.st = 2 then (D.tell s { what := 5, cau := 1 }).send s { k := 3, u := 1 } else D.tell s { what := 5, cau := 1 }).over s.ref
def Dk.thaw (D : Dk) : Dk := { D with fro := (D.fro.map fun p => (p.1, p.2 - 1)).filter fun p => decide (p.2 ≠ 0) }
def Dk.take (D : Dk) : Dk := { D with out := [] }
def Dk.heard (D : Dk) : Dk := { D with evs := [] }
end Go.Proofs.Ytnlfkllnmobppaa

