/- ConnectionsErrors: desks that New has not made; one desk's script. -/
import Derived.Test.YtnlfkllnmobppaaCG1
import Derived.Test.YtnlfkllnmobppaaTE
namespace Go.Proofs.Ytnlfkllnmobppaa
open Go AM Go.RowKit
set_option linter.unusedVariables false
set_option linter.unusedSimpArgs false

structure W2 (n0 : Nat) (H : Heap) (x y : Nat) (F G : Nat → Prop) (A B : Dk) : Prop where
  a : DA n0 H x F A
  b : DA n0 H y G B
  dj : ∀ i, F i → ¬G i
theorem DA.keep {n0 : Nat} {H H' : Heap} {y : Nat} {F G : Nat → Prop} {B : Dk} (h : DA n0 H y G B) (hw : H'.Wf) (st : Stp n0 H H' F) (dj : ∀ i, F i → ¬G i) : DA n0 H' y G B := by
  obtain ⟨t, h1, h2, h3⟩ := h
  exact ⟨t, h1.keep hw (fun i hi => st.fr.same i (h1.ltf hi) fun hf => dj i hf (h3 i hi)) st.kp, h2, h3⟩
section
variable {n0 : Nat} {H : Heap}
theorem s17 (hw : H.Wf) (hn : n0 ≤ H.next) {w wt idl fz : Int} (h : 1 ≤ w ∧ 1 ≤ wt ∧ 1 ≤ idl ∧ 1 ≤ fz) (h2 : w ≤ 63 ∧ wt ≤ 1048576 ∧ idl ≤ 1048576 ∧ fz ≤ 1048576) :
    ∃ x y H' F G, (∀ (R : Type) (K : Option (Nat × Nat) → Option (Nat × Nat) → Bool → Heap → Option R), g17 R w wt idl fz H K = K (some (x, 0)) (some (y, 0)) true H') ∧ W2 n0 H' x y F G { w := w, wt := wt, idl := idl, fz := fz } { w := w, wt := wt, idl := idl, fz := fz } ∧ Ext H H' ∧ H'.Wf := by
  obtain ⟨H1, e1, d1, x1, w1⟩ := s31_ok hw hn h h2
  obtain ⟨H2, e2, d2, x2, w2⟩ := s31_ok w1 (Nat.le_trans hn x1.next) h h2
  have n1 := x1.next
  have n2 := x2.next
  refine ⟨_, _, H2, _, _, fun R K => ?_, ⟨d1.ext w2 x2, d2, fun i hi hg => by omega⟩, x1.trans x2, w2⟩
  simp only [g17, g17_r, g17_p0, e1, e2]
  rfl
theorem s9 {R : Type} (H : Heap) (K : Bool → Heap → Option R) : g9 R H K = K true H := rfl
/-! desks that New has not made -/
def NM (H : Heap) (d : Option (Nat × Nat)) : Prop := d = none ∨ ∃ z, d = some (z, 0) ∧ H.ldI .i64 z 0 = some 0 ∧ z < H.next
theorem NM.ext {d : Option (Nat × Nat)} (h : NM H d) {G : Heap} (hx : Ext H G) : NM G d := by
  rcases h with h | ⟨z, h, h1, h2⟩
  · exact .inl h
  · refine .inr ⟨z, h, ?_, Nat.lt_of_lt_of_le h2 hx.next⟩
    rw [← h1]
    unfold Heap.ldI Heap.ld
    rw [hx.same z h2 (fun h => h)]
variable {d : Option (Nat × Nat)}
theorem n37 (h : NM H d) {R : Type} (K : Bool → Heap → Option R) : g37 R d H K = K false H := by
  rcases h with rfl | ⟨z, rfl, h1, h2⟩
  · rfl
  · simp only [g37, g37_r, g37_p0, Option.isNone_some, Bool.not_false, sel_true, Option.bind_some, Nat.zero_add, h1]
    rfl
theorem n50 (h : NM H d) (r : Int) (sl : Sl) {R : Type} (K : Option (Nat × Nat) → Int → Heap → Option R) : g50 R d r sl H K = K none 2 H := by
  simp only [g50, g50_r, g50_p0, n37 h]; rfl
theorem k26 (h : NM H d) {R : Type} (K : Heap → Option R) : g26 R d H K = K H := by
  rcases h with rfl | ⟨z, rfl, h1, h2⟩
  · rfl
  · simp only [g26, Nat.zero_add, h1, Option.bind_some]; rfl
theorem n18 (h : NM H d) (a b : Int) (sl : Sl) {R : Type} (K : Int → Int → Heap → Option R) : g18 R d a b sl H K = K 0 2 H := by
  simp only [g18, g18_r, g18_p0, n37 h]; rfl
theorem n25 (h : NM H d) (a k f t c n x u : Int) (sl : Sl) {R : Type} (K : Int → Heap → Option R) : g25 R d a k f t c n x u sl H K = K 2 H := by
  simp only [g25, g25_r, g25_p7, g25_p0, n37 h]; rfl
theorem n20 (h : NM H d) {R : Type} (K : Sl → Heap → Option R) : g20 R d H K = K nilS H := by
  simp only [g20, g20_r, g20_p0, n37 h]; rfl
theorem n24 (h : NM H d) {R : Type} (K : Sl → Heap → Option R) : g24 R d H K = K nilS H := by
  simp only [g24, g24_r, g24_p0, n37 h]; rfl
theorem n23 (h : NM H d) {R : Type} (K : Int → Heap → Option R) : g23 R d H K = K 0 H := by
  simp only [g23, g23_r, g23_p0, n37 h]; rfl
theorem n27 (hw : H.Wf) (h : NM H d) (r : Int) : ∃ G, NM G d ∧ Ext H G ∧ G.Wf ∧ ∀ {R : Type} (K : Int → Heap → Option R), g27 R d r H K = K 2 G := by
  obtain ⟨w0, x0, _⟩ := st_ext hw [2]
  refine ⟨_, h.ext x0, x0, w0, fun K => ?_⟩
  have := fun (R : Type) (K : Option (Nat × Nat) → Int → Heap → Option R) (sl : Sl) => n50 (h.ext x0) r sl K
  simp only [g27, g27_r, g27_p0, alo]
  exact (this _ _ _).trans rfl
theorem n28 (hw : H.Wf) (h : NM H d) (r : Int) (s : Sl) : ∃ G, NM G d ∧ Ext H G ∧ G.Wf ∧ ∀ {R : Type} (K : Int → Heap → Option R), g28 R d r s H K = K 2 G := by
  obtain ⟨w0, x0, _⟩ := st_ext hw [3]
  refine ⟨_, h.ext x0, x0, w0, fun K => ?_⟩
  have := fun (R : Type) (K : Option (Nat × Nat) → Int → Heap → Option R) (sl : Sl) => n50 (h.ext x0) r sl K
  simp only [g28, g28_r, g28_p0, alo]
  exact (this _ _ _).trans rfl
theorem n32 (hw : H.Wf) (h : NM H d) (r c : Int) : ∃ G, NM G d ∧ Ext H G ∧ G.Wf ∧ ∀ {R : Type} (K : Int → Heap → Option R), g32 R d r c H K = K 2 G := by
  obtain ⟨w0, x0, _⟩ := st_ext hw [1, 3]
  refine ⟨_, h.ext x0, x0, w0, fun K => ?_⟩
  have := fun (R : Type) (K : Option (Nat × Nat) → Int → Heap → Option R) (sl : Sl) => n50 (h.ext x0) r sl K
  simp only [g32, g32_r, g32_p0, alo]
  exact (this _ _ _).trans rfl
theorem n33 (hw : H.Wf) (h : NM H d) (r c : Int) : ∃ G, NM G d ∧ Ext H G ∧ G.Wf ∧ ∀ {R : Type} (K : Int → Heap → Option R), g33 R d r c H K = K 2 G := by
  obtain ⟨w0, x0, _⟩ := st_ext hw [2]
  refine ⟨_, h.ext x0, x0, w0, fun K => ?_⟩
  have := fun (R : Type) (K : Option (Nat × Nat) → Int → Heap → Option R) (sl : Sl) => n50 (h.ext x0) r sl K
  simp only [g33, g33_r, g33_p0, alo]
  exact (this _ _ _).trans rfl
/-- the last part: no desk, an empty desk -/
theorem p6_law (hw : H.Wf) (m0 m1 m2 m3 m4 m5 m6 : Int) (m7 : Sl) : g7_p6 g9 g31 g17 g18 g23 g10 g25 g24 g20 g28 g32 g33 g27 g26 Bool false m0 m1 m2 m3 m4 m5 m6 m7 H (fun r _ => some r) = some true := by
  simp only [g7_p6, sel_false, alo]
  have gz := Heap.gnew H (.cells [(V.i .i64 (0 : Int)), (V.i .i64 (0 : Int)), (V.i .i64 (0 : Int)), (V.i .i64 (0 : Int)), (V.i .u32 (0 : Int)), (V.m none), (V.m none), (V.sl (Sl.mk none 0 (.ex 0))), (V.sl (Sl.mk none 0 (.ex 0)))] 90 false)
  have w1 := hw.new (.cells [(V.i .i64 (0 : Int)), (V.i .i64 (0 : Int)), (V.i .i64 (0 : Int)), (V.i .i64 (0 : Int)), (V.i .u32 (0 : Int)), (V.m none), (V.m none), (V.sl (Sl.mk none 0 (.ex 0))), (V.sl (Sl.mk none 0 (.ex 0)))] 90 false)
  generalize H.new (.cells [(V.i .i64 (0 : Int)), (V.i .i64 (0 : Int)), (V.i .i64 (0 : Int)), (V.i .i64 (0 : Int)), (V.i .u32 (0 : Int)), (V.m none), (V.m none), (V.sl (Sl.mk none 0 (.ex 0))), (V.sl (Sl.mk none 0 (.ex 0)))] 90 false) = G at *
  generalize H.next = z at *
  have nz : NM G (some (z, 0)) := .inr ⟨z, rfl, ldI_of gz rfl, w1 _ _ gz⟩
  have nn : ∀ G, NM G none := fun G => .inl rfl
  have e2 : ((2 : Int) == 2) = true := rfl
  rw [k26 (nn G), k26 nz, n18 (nn G), n18 nz, e2, sel_true, sel_true]
  obtain ⟨G1, n1, x1, w1, e1⟩ := n27 w1 (nn G) 1
  have z1 := nz.ext x1
  rw [e1, e2, sel_true]
  obtain ⟨G2, z2, x2, w2, e3⟩ := n33 w1 z1 1 20
  rw [e3, e2, sel_true]
  obtain ⟨G3, n3, x3, w3, e4⟩ := n28 w2 (nn G2) 1 nilS
  have z3 := z2.ext x3
  rw [show (Sl.mk none 0 (.ex 0)) = nilS from rfl, e4, e2, sel_true]
  obtain ⟨G4, z4, x4, w4, e5⟩ := n32 w3 z3 1 20
  rw [e5, e2, sel_true, n25 (nn G4), e2, sel_true, n24 (nn G4), n24 z4, n20 (nn G4), n20 z4, n23 (nn G4), n23 z4, s9]
  rfl
end
/-! the script of one desk -/
def E1 (st giv : Int) (o : List Lt) (e : List Et) : Dk := ⟨1, 9, 9, 9, 1, [⟨1, 4, 8, 3, st, 0, 0, 0, giv, 0, 0⟩], [], o, e⟩
def xm : Cm := { k := 1, f := 8, c := 3 }
def xev : List Et := [{ ref := 1, what := 1, fr := 4, cls := 3 }]
theorem x_hear : ({ w := 1, wt := 9, idl := 9, fz := 9 } : Dk).hear 4 xm = (0, E1 2 0 [] xev) := by kernel_rfl
section
variable {g r c : Int} {o : List Lt} {e : List Et} {d : List Int}
theorem E1.send2 : (E1 2 g o e).sendD 1 d = (6, E1 2 g o e) := rfl
theorem E1.rel2 : (E1 2 g o e).release 1 c = (6, E1 2 g o e) := rfl
theorem E1.ref2 : (E1 2 g o e).refuse 2 c = (7, E1 2 g o e) := rfl
theorem E1.conf2 : (E1 2 g o e).confirm 1 = (0, E1 3 g (o ++ [⟨4, { k := 2, t := 8, f := 1 }⟩]) e) := rfl
theorem E1.conf3 : (E1 3 g o e).confirm 1 = (6, E1 3 g o e) := rfl
theorem E1.ref3 : (E1 3 g o e).refuse 1 c = (6, E1 3 g o e) := rfl
theorem E1.long3 (h : 200 < d.length) : (E1 3 g o e).sendD 1 d = (3, E1 3 g o e) := by
  show (if 200 < d.length then _ else _) = _
  rw [if_pos h]
theorem E1.send3 (h : ¬200 < d.length) : (E1 3 0 o e).sendD 1 d = (0, E1 3 1 (o ++ [⟨4, { k := 4, t := 8, f := 1, n := 0, x := 0, d := d }⟩]) e) := by
  show (if 200 < d.length then _ else _) = _
  rw [if_neg h]; rfl
theorem E1.busy (h : ¬200 < d.length) : (E1 3 1 o e).sendD 1 d = (14, E1 3 1 o e) := by
  show (if 200 < d.length then _ else _) = _
  rw [if_neg h]; rfl
theorem E1.rel3 : ∃ st o', (E1 3 g o e).release 1 c = (if c < 16 then 1 else 0, E1 st g o' e) ∧ o'.length ≤ o.length + 1 := by
  by_cases h : c < 16
  · refine ⟨3, o, ?_, by omega⟩
    show (if c < 16 then _ else _) = _
    rw [if_pos h, if_pos h]
  · refine ⟨4, o ++ [⟨4, { k := 7, t := 8, f := 1, u := c }⟩], ?_, by simp⟩
    show (if c < 16 then _ else _) = _
    rw [if_neg h, if_neg h]; rfl
theorem E1.conf9 {st : Int} : (E1 st g o e).confirm 9 = (7, E1 st g o e) := rfl
theorem E1.bd {st : Int} (ho : o.length ≤ 100) (he : e.length ≤ 100) : (E1 st g o e).Bd := ⟨by show (0 : Int) < 1; omega, by show o.length ≤ _; omega, by show e.length ≤ _; omega, by show 0 ≤ 10000000; omega⟩
theorem E1.num {st : Int} (hg : 0 ≤ g ∧ g ≤ 127) : (E1 st g o e).Num := fun s hs => by
  rw [show (E1 st g o e).all = [⟨1, 4, 8, 3, st, 0, 0, 0, g, 0, 0⟩] from rfl, List.mem_singleton] at hs
  subst hs; exact ⟨hg, by show (0 : Int) ≤ 0 ∧ (0 : Int) ≤ 127; omega⟩
end
end Go.Proofs.Ytnlfkllnmobppaa

