/- ConnectionsErrors: the law. -/
import Derived.Test.YtnlfkllnmobppaaCG3
namespace Go.Proofs.Ytnlfkllnmobppaa
open Go AM Go.RowKit
set_option linter.unusedVariables false
set_option linter.unusedSimpArgs false

section
variable {n0 : Nat} {H : Heap} {s : Sl} {d : List Int}
/-- make -/
theorem mk5 {R : Type} (H : Heap) (v : Int) (hv : 0 ≤ v ∧ v ≤ 1000) (K : Nat → Heap → Option R) :
    (if 0 ≤ v ∧ v ≤ v ∧ v ≤ 9223372036854775807 ∧ v * ((1 : Nat) : Int) ≤ 281474976710656 then (zeroCellsV Try.prog 5 (Int.toNat v)).bind fun vs => alo H (.cells vs 5 false) K else none) = K H.next (H.new (.cells (bcs (List.replicate (Int.toNat v) 0)) 5 false)) := by
  rw [if_pos (by omega), zeros5]; rfl
theorem p5_law {x : Nat} {F : Nat → Prop} (hg : DA n0 H x F ((E1 3 0 ([] ++ [⟨4, { k := 2, t := 8, f := 1 }⟩]) xev).sendD 1 d).2) (hn : n0 ≤ H.next) (hd : Dat n0 H s d) (m0 m1 m2 m3 m4 m5 m6 : Int) (m7 : Sl) (z0 z1 z2 z3 : Int) (hz : 0 ≤ z3 ∧ z3 ≤ 65535) :
    g7_p7 g9 g31 g17 g18 g23 g10 g25 g24 g20 g28 g32 g33 g27 g26 Bool s (some (x, 0)) (if z3 % 256 < 16 then 1 else 0) (if 200 < d.length then 3 else 0) (((E1 3 0 ([] ++ [⟨4, { k := 2, t := 8, f := 1 }⟩]) xev).sendD 1 d).1 != (if 200 < d.length then 3 else 0)) m0 m1 m2 m3 m4 m5 m6 m7 z0 z1 z2 z3 H (fun r _ => some r) = some true := by
  have hc : IntKind.wrap .u8 z3 = z3 % 256 := wr8 _
  have bd : ∀ {st g : Int} {o : List Lt}, o.length ≤ 100 → (E1 st g o xev).Bd := fun h => E1.bd h (by decide)
  have n1' : ∀ {st : Int} {o : List Lt} {e : List Et}, (E1 st 1 o e).Num := E1.num (by omega)
  simp only [g7_p7]
  by_cases hl : 200 < d.length
  · rw [E1.long3 hl] at hg ⊢
    rw [if_pos hl]
    obtain ⟨st, o', er, ho⟩ := E1.rel3 (g := 0) (c := z3 % 256) (o := [] ++ [⟨4, { k := 2, t := 8, f := 1 }⟩]) (e := xev)
    obtain ⟨Ha, ea, ga⟩ := s32 hg (bd (by simp)) 1 (z3 % 256)
    rw [er] at ea ga
    obtain ⟨Hb, eb, gb⟩ := s27 ga.da (bd (by simp at ho; omega)) 9
    rw [E1.conf9] at eb
    simp only [g7_p5, hc, ea, eb, bne_self_eq_false, sel_false, show ((3 : Int) == 0) = false from rfl]
    exact p6_law gb.da.wf m0 m1 m2 m3 m4 m5 m6 m7
  · rw [E1.send3 hl] at hg ⊢
    rw [if_neg hl]
    obtain ⟨Ha, ea, ga⟩ := s28 hg (bd (by simp)) n1' 1 hd
    rw [E1.busy hl] at ea ga
    obtain ⟨dz, xz, wz⟩ := zeros_dat (n0 := n0) ga.da.wf (Int.toNat 201)
    obtain ⟨Hb, eb, gb⟩ := s28 (ga.da.ext wz xz) (bd (by simp)) n1' 1 dz
    rw [E1.long3 (by rw [List.length_replicate]; decide)] at eb gb
    obtain ⟨st, o', er, ho⟩ := E1.rel3 (g := 1) (c := z3 % 256) (o := [] ++ [⟨4, { k := 2, t := 8, f := 1 }⟩] ++ [⟨4, { k := 4, t := 8, f := 1, n := 0, x := 0, d := d }⟩]) (e := xev)
    obtain ⟨Hc, ec, gc⟩ := s32 gb.da (bd (by simp)) 1 (z3 % 256)
    rw [er] at ec gc
    obtain ⟨Hd, ed, gd⟩ := s27 gc.da (bd (by simp at ho; omega)) 9
    rw [E1.conf9] at ed
    unfold g7_p5
    rw [bne_self_eq_false, sel_false, show ((0 : Int) == 0) = true from rfl, sel_true, ea, bne_self_eq_false, sel_false, mk5 Ha 201 (by omega), eb, bne_self_eq_false, sel_false, hc, ec, bne_self_eq_false, sel_false, ed, bne_self_eq_false]
    exact p6_law gd.da.wf m0 m1 m2 m3 m4 m5 m6 m7
theorem p9_law (hw : H.Wf) (hn : n0 ≤ H.next) (hd : Dat n0 H s d) (m0 m1 m2 m3 m4 m5 m6 : Int) (m7 : Sl) (z0 z1 z2 z3 : Int) (hz : 0 ≤ z3 ∧ z3 ≤ 65535) :
    g7_p9 g9 g31 g17 g18 g23 g10 g25 g24 g20 g28 g32 g33 g27 g26 Bool s false m0 m1 m2 m3 m4 m5 m6 m7 z0 z1 z2 z3 H (fun r _ => some r) = some true := by
  have hsl : s.len = d.length := hd.bs.len
  obtain ⟨x, H2, F, e2, d2, dat2, hn2⟩ := x_start hw hn hd
  obtain ⟨H9, g9', e9⟩ := script d2 dat2 (if z3 % 256 < 16 then 1 else 0) (if 200 < d.length then 3 else 0) m0 m1 m2 m3 m4 m5 m6 m7 z0 z1 z2 z3
  have p3 : ∀ kN kR, g7_p3 g9 g31 g17 g18 g23 g10 g25 g24 g20 g28 g32 g33 g27 g26 Bool s false m0 m1 m2 m3 m4 m5 m6 m7 z0 z1 z2 z3 H kN kR = kN s (some (x, 0)) (if z3 % 256 < 16 then 1 else 0) (if 200 < d.length then 3 else 0) m0 m1 m2 m3 m4 m5 m6 m7 z0 z1 z2 z3 H2 := by
    intro kN kR
    simp only [g7_p3, sel_false]
    refine (e2 Bool fun a c h => _).trans ?_
    rw [tmodp hz.1, selD, selD, selD, hsl]
    by_cases c1 : z3 % 256 < 16
    · rw [if_pos c1, if_pos c1]
      by_cases c2 : 200 < d.length
      · rw [if_pos (by omega), if_pos c2]
      · rw [if_neg (by omega), if_neg c2]
    · rw [if_neg c1, if_neg c1]
      by_cases c2 : 200 < d.length
      · rw [if_pos (by omega), if_pos c2]
      · rw [if_neg (by omega), if_neg c2]
  simp only [g7_p9, p3, g7_p8, e9]
  exact p5_law g9'.da (by have := g9'.st.fr.next; omega) (dat2.kp g9'.st.kp) m0 m1 m2 m3 m4 m5 m6 m7 z0 z1 z2 z3 hz
end
end Go.Proofs.Ytnlfkllnmobppaa

