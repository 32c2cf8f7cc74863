/- Two desks in the heap: an act on a section. -/
import Derived.Test.YtnlfkllnmobppaaCE3
namespace Go.Proofs.Ytnlfkllnmobppaa
open Go AM Go.RowKit
set_option linter.unusedVariables false
set_option linter.unusedSimpArgs false

def wantA (p:Gp) (k:Int):Int:=if p.st = 3 then 7 else if p.st = 2 then 6 else if p.by' = k then 6 else 0
def wantB (p:Gp):Int:=if p.st = 3 then 7 else if p.st = 1 then 6 else 0
section
variable {n0:Nat} {H:Heap} {x y:Nat} {F G:Nat→Prop} {S T:Dk}
theorem g22_red {k : Int} (hk : k = 0 ∨ k = 1) {w n m : Int} (hw : 0 ≤ w) (hm : 0 ≤ m ∧ m ≤ 255) (hn : 0 ≤ n) {q o : Nat} {vs : List V} {p : Gp} {i : Nat} (hq : PV H q o vs p i) (hwf : H.Wf) (sl : Sl) {R : Type} (K : Bool → Heap → Option R) :
    g22 R (if k = 0 then some (x,0) else some (y,0)) (if k = 0 then some (y,0) else some (x,0)) (some (q,o)) k w n m sl H K =
      if w % 6 = 1 then g27 R (some (x,0)) ((i:Int) + 1) (H.new (.cells (dcells k x y) 40 false)) (fun e h=>g22_p9 R (some (q,o)) k H.next 0 (wantA p k) 2 e ((i:Int) + 1) 2 k 0 0 nilS h K)
      else if w % 6 = 2 then g33 R (some (x,0)) ((i:Int) + 1) (16 + m % 9) (H.new (.cells (dcells k x y) 40 false)) (fun e h=>g22_p9 R (some (q,o)) k H.next 0 (wantA p k) 3 e ((i:Int) + 1) 3 k 0 (16 + m % 9) nilS h K)
      else if w % 6 = 3 ∨ w % 6 = 4 then g28 R (some (x,0)) ((i:Int) + 1) sl (H.new (.cells (dcells k x y) 40 false)) (fun e h=>g22_p9 R (some (q,o)) k H.next 0 (wantB p) p.st e ((i:Int) + 1) 4 k 0 0 sl h K)
      else if n % 3 > 0 ∨ (p.st = 1∧p.by' = k) then K true (H.new (.cells (dcells k x y) 40 false))
      else g32 R (some (x,0)) ((i:Int) + 1) 200 (H.new (.cells (dcells k x y) 40 false)) (fun e h=>g22_p9 R (some (q,o)) k H.next 0 (wantB p) 3 e ((i:Int) + 1) 5 k 0 200 nilS h K):=by
  obtain ⟨k1,k2,k3,k4⟩:=k_w hk
  have x1:=Ext.new H (.cells (dcells k x y) 40 false)
  have hq1:=hq.keep (x1.same q (hwf _ _ hq.get) (fun h=>h))
  obtain ⟨l0,l1,l2,l3⟩:=hq1.ld hk
  have g1:=Heap.gnew H (.cells (dcells k x y) 40 false)
  obtain ⟨dl1,dl2⟩:=dc_ld hk g1
  have e0:O.cells [(V.p (if k = 0 then some (x,0) else some (y,0))),(V.p (if k = 0 then some (y,0) else some (x,0)))] 40 false = .cells (dcells k x y) 40 false:=by
    rcases hk with rfl | rfl <;> rfl
  have w6:Int.tmod w 6 = w % 6:=tmodp hw
  have n3:Int.tmod n 3 = n % 3:=tmodp hn
  have m9:IntKind.wrap .u8 (16 + Int.tmod m 9) = 16 + m % 9:=by rw [tmodp hm.1,w8u (by omega)]
  simp only [g22,g22_r,g22_p11,g22_p0,alo,e0]
  generalize H.new (.cells (dcells k x y) 40 false) = H1 at *
  rw [Option.bind_some,if_pos k3,l1,Option.bind_some,Option.bind_some,k1,if_pos k4,l2,Option.bind_some,Option.bind_some,l3,Option.bind_some,w6]
  simp only [g22_p10,g22_p8,g22_p7,g22_p1]
  by_cases c1:w % 6 = 1
  · rw [if_pos c1,show (w % 6 == 1) = true by simp [c1],sel_true]
    simp only [g22_p6,sel_true,g22_p2,Option.bind_some,l0,l3,w6,dl1,if_pos k3,k2,selE]
    unfold wantA
    simp only [c1,if_true]
    by_cases s3:p.st = 3
    · rw [if_pos s3,if_pos s3]; rfl
    · rw [if_neg s3,if_neg s3]
      by_cases s2:p.st = 2
      · rw [if_pos s2,if_pos s2]; rfl
      · rw [if_neg s2,if_neg s2]
        by_cases b:p.by' = k
        · rw [if_pos b,if_pos b]; rfl
        · rw [if_neg b,if_neg b]; rfl
  rw [if_neg c1,show (w % 6 == 1) = false by simpa using c1,sel_false]
  by_cases c2:w % 6 = 2
  · rw [if_pos c2,show (w % 6 == 2) = true by simp [c2]]
    simp only [g22_p6,sel_true,g22_p2,Option.bind_some,l0,l3,w6,dl1,if_pos k3,k2,selE,m9,if_neg c1]
    unfold wantA
    by_cases s3:p.st = 3
    · rw [if_pos s3,if_pos s3]; rfl
    · rw [if_neg s3,if_neg s3]
      by_cases s2:p.st = 2
      · rw [if_pos s2,if_pos s2]; rfl
      · rw [if_neg s2,if_neg s2]
        by_cases b:p.by' = k
        · rw [if_pos b,if_pos b]; rfl
        · rw [if_neg b,if_neg b]; rfl
  rw [if_neg c2,show (w % 6 == 2) = false by simpa using c2]
  simp only [g22_p6,sel_false,g22_p5,g22_p3]
  have p4 : ∀ (b : Bool), b = decide (w % 6 = 3 ∨ w % 6 = 4) → ∀ kN : Option (Nat × Nat) → Int → Nat → Nat → Int → Int → Int → Int → Int → Int → Int → Int → Sl → Heap → Option R, ∀ kR : Bool → Heap → Option R,
      g22_p4 R (some (q,o)) k H.next 0 ((i:Int) + 1) ((i:Int) + 1) 0 p.st b w n m sl 0 0 0 0 0 nilS H1 kN kR =
      if w % 6 = 3 ∨ w % 6 = 4 then g28 R (some (x,0)) ((i:Int) + 1) sl H1 (fun e h=>kN (some (q,o)) k H.next 0 (wantB p) p.st e ((i:Int) + 1) 4 k 0 0 sl h)
      else if n % 3 > 0 ∨ (p.st = 1∧p.by' = k) then kR true H1
      else g32 R (some (x,0)) ((i:Int) + 1) 200 H1 (fun e h=>kN (some (q,o)) k H.next 0 (wantB p) 3 e ((i:Int) + 1) 5 k 0 200 nilS h):=by
    intro b hb kN kR
    simp only [g22_p4,Option.bind_some,l0,l3,dl1,if_pos k3,k2,n3,hb]
    unfold wantB
    by_cases c34:w % 6 = 3 ∨ w % 6 = 4
    · rw [if_pos c34,decide_eq_true c34,sel_true,selE,selE]
      by_cases s3:p.st = 3
      · rw [if_pos s3,if_pos s3]
      · rw [if_neg s3,if_neg s3]
        by_cases s1:p.st = 1
        · rw [if_pos s1,if_pos s1]
        · rw [if_neg s1,if_neg s1]
    · rw [if_neg c34,decide_eq_false c34,sel_false,selD]
      by_cases cn:n % 3 > 0
      · rw [if_pos cn,if_pos (.inl cn)]
      · rw [if_neg cn,selE]
        by_cases s1:p.st = 1
        · rw [if_pos s1,selE]
          by_cases b:p.by' = k
          · rw [if_pos b,if_pos (.inr ⟨s1,b⟩)]
          · rw [if_neg b,if_neg (by simp [cn,b])]
            simp only [selE]
            rw [if_neg (by omega),if_pos s1,if_neg (by omega),if_pos s1]; rfl
        · rw [if_neg s1,if_neg (by simp [cn,s1])]
          simp only [selE]
          by_cases s3:p.st = 3
          · rw [if_pos s3,if_pos s3]; rfl
          · rw [if_neg s3,if_neg s3,if_neg s1,if_neg s1]; rfl
  by_cases c3:w % 6 = 3
  · rw [show (w % 6 == 3) = true by simp [c3],sel_true]
    exact p4 true (by simp [c3]) _ _
  · rw [show (w % 6 == 3) = false by simpa using c3,sel_false]
    exact p4 (w % 6 == 4) (by by_cases c4:w % 6 = 4 <;> simp [c3,c4]) _ _
end
end Go.Proofs.Ytnlfkllnmobppaa

