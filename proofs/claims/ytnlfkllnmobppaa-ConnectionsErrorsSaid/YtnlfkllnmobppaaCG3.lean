/- ConnectionsErrors: the script of the law's third desk. -/
import Derived.Test.YtnlfkllnmobppaaCG2
import Derived.Test.YtnlfkllnmobppaaAmC
namespace Go.Proofs.Ytnlfkllnmobppaa
open Go AM Go.RowKit
set_option linter.unusedVariables false
set_option linter.unusedSimpArgs false

section
variable {n0 : Nat} {H : Heap} {x : Nat} {F : Nat → Prop} {s : Sl} {d : List Int}
/-- zero bytes -/
theorem zeros_dat (hw : H.Wf) (n : Nat) : Dat n0 (H.new (.cells (bcs (List.replicate n 0)) 5 false)) ⟨some (H.next, 0), n, .ex n⟩ (List.replicate n 0) ∧ Ext H (H.new (.cells (bcs (List.replicate n 0)) 5 false)) ∧ (H.new (.cells (bcs (List.replicate n 0)) 5 false)).Wf := by
  have g := Heap.gnew H (.cells (bcs (List.replicate n 0)) 5 false)
  have w := hw.new (.cells (bcs (List.replicate n 0)) 5 false)
  have b : BS (H.new (.cells (bcs (List.replicate n 0)) 5 false)) ⟨some (H.next, 0), (List.replicate n (0 : Int)).length, .ex (List.replicate n (0 : Int)).length⟩ (List.replicate n 0) := BS.obj g
  rw [List.length_replicate] at b
  exact ⟨⟨b, .inr ⟨_, rfl, w _ _ g, .inr ⟨_, _, g⟩⟩, Nat.le_refl _⟩, Ext.new _ _, w⟩
theorem x_start (hw : H.Wf) (hn : n0 ≤ H.next) (hd : Dat n0 H s d) : ∃ x H2 F, (∀ (R : Type) (K : Option (Nat × Nat) → Int → Heap → Option R), g31 R 1 9 9 9 H (fun a b h => g25 R a 4 1 8 0 3 0 0 0 nilS h fun c h => K a c h) = K (some (x, 0)) 0 H2) ∧ DA n0 H2 x F (E1 2 0 [] xev) ∧ Dat n0 H2 s d ∧ n0 ≤ H2.next := by
  obtain ⟨H1, e1, d1, x1, w1⟩ := s31_ok (n0 := n0) hw hn (w := 1) (wt := 9) (idl := 9) (fz := 9) (by omega) (by omega)
  obtain ⟨H2, e2, g2⟩ := s25 d1 ⟨by show (0 : Int) < 1; omega, by simp, by simp, by simp⟩ (fun s hs => (by cases hs)) (fr := 4) (m := xm) (ok_of (k := 1) (f := 8) (t := 0) (c := 3) (n := 0) (x := 0) (u := 0) (by omega) (by omega) (by omega) (by omega) (by omega) (by omega) (by omega) []) (sl := nilS) (.nil _ _)
  rw [x_hear] at e2 g2
  have := x1.next
  have := g2.st.fr.next
  refine ⟨_, H2, _, fun R K => ?_, g2.da, (hd.kp (.ext x1)).kp g2.st.kp, by omega⟩
  rw [e1]
  exact e2 R _
/-- the script -/
theorem script (h : DA n0 H x F (E1 2 0 [] xev)) (hd : Dat n0 H s d) (t19 t20 : Int) (m0 m1 m2 m3 m4 m5 m6 : Int) (m7 : Sl) (z0 z1 z2 z3 : Int) : ∃ H', Got n0 H x F H' ((E1 3 0 ([] ++ [⟨4, { k := 2, t := 8, f := 1 }⟩]) xev).sendD 1 d).2 ∧ ∀ (R : Type) kN, g7_p4 g9 g31 g17 g18 g23 g10 g25 g24 g20 g28 g32 g33 g27 g26 R s (some (x, 0)) t19 t20 m0 m1 m2 m3 m4 m5 m6 m7 z0 z1 z2 z3 H kN = kN s (some (x, 0)) t19 t20 (((E1 3 0 ([] ++ [⟨4, { k := 2, t := 8, f := 1 }⟩]) xev).sendD 1 d).1 != t20) m0 m1 m2 m3 m4 m5 m6 m7 z0 z1 z2 z3 H' := by
  have bd : ∀ {st g : Int} {o : List Lt}, o.length ≤ 100 → (E1 st g o xev).Bd := fun h => E1.bd h (by decide)
  have n0' : ∀ {st : Int} {o : List Lt} {e : List Et}, (E1 st 0 o e).Num := E1.num (by omega)
  have hc : IntKind.wrap .u8 z3 = z3 % 256 := wr8 _
  obtain ⟨H3, e3, g3⟩ := s28 h (bd (by simp)) n0' 1 hd
  rw [E1.send2] at e3 g3
  obtain ⟨H4, e4, g4⟩ := s32 g3.da (bd (by simp)) 1 (z3 % 256)
  rw [E1.rel2] at e4 g4
  obtain ⟨H5, e5, g5⟩ := s33 g4.da (bd (by simp)) 2 (z3 % 256)
  rw [E1.ref2] at e5 g5
  obtain ⟨H6, e6, g6⟩ := s27 g5.da (bd (by simp)) 1
  rw [E1.conf2] at e6 g6
  obtain ⟨H7, e7, g7⟩ := s27 g6.da (bd (by simp)) 1
  rw [E1.conf3] at e7 g7
  obtain ⟨H8, e8, g8⟩ := s33 g7.da (bd (by simp)) 1 (z3 % 256)
  rw [E1.ref3] at e8 g8
  have dat8 := (((((hd.kp g3.st.kp).kp g4.st.kp).kp g5.st.kp).kp g6.st.kp).kp g7.st.kp).kp g8.st.kp
  obtain ⟨H9, e9, g9'⟩ := s28 g8.da (bd (by simp)) n0' 1 dat8
  refine ⟨H9, ⟨?_, g3.st.trans (g4.st.trans (g5.st.trans (g6.st.trans (g7.st.trans (g8.st.trans g9'.st)))))⟩, fun R kN => ?_⟩
  · have a3 := g3.st.fr.next; have a4 := g4.st.fr.next; have a5 := g5.st.fr.next; have a6 := g6.st.fr.next; have a7 := g7.st.fr.next; have a8 := g8.st.fr.next; have a9 := g9'.st.fr.next
    exact g9'.da.up fun i hi => ((((((hi.mono a8 a9).mono a7 (by omega)).mono a6 (by omega)).mono a5 (by omega)).mono a4 (by omega)).mono a3 (by omega))
  · simp only [g7_p4, hc, e3, e4, e5, e6, e7, e8, e9, bne_self_eq_false, sel_false]
end
end Go.Proofs.Ytnlfkllnmobppaa

